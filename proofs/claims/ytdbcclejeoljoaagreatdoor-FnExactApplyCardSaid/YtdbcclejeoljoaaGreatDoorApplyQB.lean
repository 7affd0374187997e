import Derived.Test.YtdbcclejeoljoaaGreatDoorApplyQA
/- Plain functions that stand for Go functions, and what they answer. Conditions: none. -/
set_option linter.all false
noncomputable section
namespace Go.Fn
open Go.R
def Jf(a:Int):Kg:=(dr a 1 40).bind λb=>some (b.1,())
def M1(a:Int):Kg:=(dr a 0 20000).bind λb=>some (b.1,())
def Lv(a b c d e f:Int)(g:Bool):Kg:=(Jf a).bind λh=>letI i:=some (false,());cond h.1 ((Jf b).bind λj=>cond j.1 (cond (ak .neq a b) ((dr c 0 999).bind λk=>cond k.1 ((dr d 0 5).bind λl=>cond l.1 ((M1 e).bind λm=>cond m.1 ((M1 f).bind λn=>cond n.1 (some (ak .lss e f,())) i) i) i) i) i) i) i
def Qj(a:YcR)(b:Mk):YaN:=letI c:=ae kC a.1 b.1;letI d:=c.2.2.2;cond (ak .lss b.1 (bw a.1)) (cond (aZ a.1 b.1) ((Lv c.1 c.2.1 c.2.2.1 d.1 d.2.1 d.2.2.1 d.2.2.2).bind λe=>cond (Bool.not e.1) (some (.inr (.inl (false,())))) (some (.inl (aa .add .i64 b.1 1,())))) none) (some (.inr (.inr (.inl ()))))
def Qk k x:=iter (Qj k) big x
def Nz(a:JX):Kg:=cond (ak .gtr (bw a) 30) (some (false,())) ((Qk (a,()) (0,())).bind λb=>Sum.elim (λc=>some (c.1,())) (λc=>Sum.elim (λ_=>some (true,())) (λd=>Empty.elim d) c) b)
def Qm(a:Int×Li×Ln×NP)(b:YbU):Option (YbU⊕YaU⊕YbL⊕Empty):=letI c:=b.2.2;letI d:=c.2.2.1;letI e:=(b.1,b.2.1,c.1,c.2.1,aa .add .i64 d 1,());cond (ak .lss d a.2.2.2.2.1) (cond (ak .gtr c.1 0) (cond (aZ a.2.2.1 d) (cond (ak .eql (ae gI a.2.2.1 d).2.2.1 c.1) (some (.inr (.inl (false,())))) (some (.inl e))) none) (some (.inl e))) (some (.inr (.inr (.inl (b.1,b.2.1,c.1,c.2.1,())))))
def MV k x:=iter (Qm k) big x
def Ql(a:YbI)(b:NP):YbJ:=letI c:=(false,());letI d:=b.2.1;letI e:=a.2.2.1;letI f:=ae gI e d;cond (ak .lss d (bw e)) (cond (aZ e d) (cond (ak .neq f.1 b.1) (some (.inr (.inl c))) ((dr f.2.1 1 24).bind λg=>cond (Bool.not g.1) (some (.inr (.inl c))) ((dr f.2.2.1 0 999).bind λh=>cond (Bool.not h.1) (some (.inr (.inl c))) ((MV (a.1,a.2.1,e,b.1,d,()) (f.1,f.2.1,f.2.2.1,f.2.2.2,0,())).bind λi=>Sum.elim (λj=>some (.inr (.inl (j.1,())))) (λj=>Sum.elim (λk=>letI l:=aa .add .i64 b.1 k.2.1;cond (ak .gtr l 24) (some (.inr (.inl c))) (some (.inl (l,aa .add .i64 d 1,())))) (λk=>Empty.elim k) j) i)))) none) (some (.inr (.inr (.inl (b.1,())))))
def Qo k x:=iter (Ql k) big x
def QW(a:Int)(b:Li)(c:Ln):Kg:=(Qo (a,b,c,()) (0,0,())).bind λd=>Sum.elim (λe=>some (e.1,())) (λe=>Sum.elim (λf=>cond (ak .gtr (bw c) 0) (some (ak .eql f.1 a,())) (some (false,()))) (λf=>Empty.elim f) e) d
def MR(a:YdE)(b:YdN):Option (YdN⊕YaU⊕Empty):=letI c:=a.2.2;letI d:=aa .add .i64 b.2.1 1;cond (ak .lss b.2.1 (bw c.1)) (cond b.1 (some (.inl (true,d,()))) (cond (aZ c.1 b.2.1) (cond (aZ a.2.1 c.2.1) (some (.inl (ak .eql (ae gI c.1 b.2.1).1 (ae zI a.2.1 c.2.1),d,()))) none) none)) (some (.inr (.inl (b.1,()))))
def Qi k x:=iter (MR k) big x
def Qg(a:YbI)(b:Mk):YaN:=letI c:=b.1;letI d:=a.2.1;cond (ak .lss c (bw d)) (cond (aZ d c) ((dr (ae zI d c) 1 (aa .sub .i64 a.1 1)).bind λe=>letI f:=(false,());letI g:=aa .sub .i64 c 1;letI h:=(aa .add .i64 c 1,());letI i:=Qi (a.1,d,a.2.2.1,c,()) (false,0,());cond (Bool.not e.1) (some (.inr (.inl f))) (cond (ak .gtr c 0) (cond (aZ d c) (cond (aZ d g) (cond (ak .leq (ae zI d c) (ae zI d g)) (some (.inr (.inl f))) (i.bind λj=>Sum.elim (λk=>cond (Bool.not k.1) (some (.inr (.inl f))) (some (.inl h))) (λk=>Empty.elim k) j)) none) none) (i.bind λj=>Sum.elim (λk=>cond (Bool.not k.1) (some (.inr (.inl f))) (some (.inl h))) (λk=>Empty.elim k) j))) none) (some (.inr (.inr (.inl ()))))
def Qh k x:=iter (Qg k) big x
def KY(a:Int)(b:Li)(c:Ln):Kg:=(dr a 1 24).bind λd=>letI e:=some (false,());cond (Bool.not d.1) e ((QW a b c).bind λf=>cond (Bool.not f.1) e ((Qh (a,b,c,()) (0,())).bind λg=>Sum.elim (λh=>some (h.1,())) (λh=>Sum.elim (λ_=>some (true,())) (λi=>Empty.elim i) h) g))
def KA(a:Int×YbI)(b:Mk):YaY:=letI c:=a.2.2.2.1;letI d:=(aa .add .i64 b.1 1,());cond (ak .lss b.1 (bw c)) (cond (aZ c b.1) (cond (ak .eql (ae gI c b.1).2.2.1 a.1) (cond (ak .gtr a.1 0) (some (.inr (.inl (b.1,())))) (some (.inl d))) (some (.inl d))) none) (some (.inr (.inr (.inl ()))))
def PD k x:=iter (KA k) big x
def KS(a:Int)(b:Li)(c:Ln)(d:Int):PN:=(PD (d,a,b,c,()) (0,())).bind λe=>Sum.elim (λf=>some (f.1,())) (λf=>Sum.elim (λ_=>some (-1,())) (λg=>Empty.elim g) f) e
def TO(a:Rp×NP)(b:Mk):YaN:=letI c:=ae br a.1 a.2.2.1;letI d:=(ae br a.1 a.2.1).2.2;cond (aZ a.1 a.2.1) (cond (ak .lss b.1 (bw d)) (cond (aZ a.1 a.2.2.1) (cond (aZ a.1 a.2.1) (cond (aZ d b.1) ((KS c.1 c.2.1 c.2.2 (ae gI d b.1).2.2.1).bind λe=>cond (ak .geq e.1 0) (some (.inr (.inl (false,())))) (some (.inl (aa .add .i64 b.1 1,())))) none) none) none) (some (.inr (.inr (.inl ()))))) none
def TR k x:=iter (TO k) big x
def TN(a:YcA)(b:Mk):YaN:=cond (ak .lss b.1 a.2.1) ((TR (a.1,a.2.1,b.1,()) (0,())).bind λc=>Sum.elim (λd=>some (.inr (.inl (d.1,())))) (λd=>Sum.elim (λ_=>some (.inl (aa .add .i64 b.1 1,()))) (λe=>Empty.elim e) d) c) (some (.inr (.inr (.inl ()))))
def TQ k x:=iter (TN k) big x
def TM(a:YbT)(b:Mk):YaN:=letI c:=ae br a.1 b.1;cond (ak .lss b.1 (bw a.1)) (cond (aZ a.1 b.1) ((KY c.1 c.2.1 c.2.2).bind λd=>cond (Bool.not d.1) (some (.inr (.inl (false,())))) ((TQ (a.1,b.1,()) (0,())).bind λe=>Sum.elim (λf=>some (.inr (.inl (f.1,())))) (λf=>Sum.elim (λ_=>some (.inl (aa .add .i64 b.1 1,()))) (λg=>Empty.elim g) f) e)) none) (some (.inr (.inr (.inl ()))))
def TP k x:=iter (TM k) big x
def Mf(a:Rp):Kg:=(dr (bw a) 1 6).bind λb=>cond (Bool.not b.1) (some (false,())) ((TP (a,()) (0,())).bind λc=>Sum.elim (λd=>some (d.1,())) (λd=>Sum.elim (λ_=>some (true,())) (λe=>Empty.elim e) d) c)
def PG(a b:Int)(c d e:Bool):Kg:=some (pI e (ak .eql a 2),())
def Jr(a b:Int)(c d e:Bool):Kg:=(dr a 0 2).bind λf=>letI g:=some (false,());cond (Bool.not f.1) g ((dr b 0 6).bind λh=>letI i:=some (Bool.not c,());letI j:=PG a b c d e;letI k:=cond c (some (Bool.not d,())) g;letI l:=cond (ak .eql a 0) (cond (ak .eql b 0) i g) (cond (ak .eql b 1) (j.bind λl=>cond l.1 i g) (cond (ak .eql b 2) (j.bind λl=>cond l.1 k g) (cond (ak .eql b 3) (j.bind λl=>cond l.1 (some (d,())) g) (cond (ak .eql b 4) (j.bind λl=>cond (Bool.not l.1) (some (d,())) g) (cond (ak .eql b 5) k (cond (ak .eql b 6) i (some (true,()))))))));cond (Bool.not h.1) g (cond d (cond (Bool.not c) g l) l))
def PL(a b c d e f g h i j k:Int)(l:Lj)(m:KT)(n:JX)(o:JH)(p:Int):Kg:=letI q:=ae ax l p;cond (aZ l p) ((KR q.1 q.2.1).bind λr=>letI s:=some (false,());cond (Bool.not r.1) s ((Mf q.2.2.1).bind λt=>letI u:=q.2.2.2;letI v:=u.2.2.2;cond (Bool.not t.1) s ((Jr u.1 u.2.1 u.2.2.1 v.1 v.2.1).bind λw=>letI x:=v.2.2;cond (Bool.not w.1) s ((JD x.2.2).bind λy=>letI z:=ak .eql x.2.1 0;cond (Bool.not y.1) s (cond (ak .eql x.1 0) (lets (Bool.and (ak .eql u.1 0) (Bool.and (ak .eql u.2.1 0) (Bool.and (pI u.2.2.1 false) (Bool.and (pI v.1 false) (Bool.and (pI v.2.1 false) true))))) λA=>cond A (some (z,())) s) ((dr x.1 1 (bw m)).bind λA=>letI B:=aa .sub .i64 x.1 1;letI C:=(ae aS m B).2.2;letI D:=cond (ak .eql u.1 2) ((dr x.2.1 0 40).bind λD=>some (D.1,())) s;cond (Bool.not A.1) s (cond (aZ m B) (cond (ak .neq C.1 p) s (cond (aZ m B) (cond (ak .neq C.2.1 2) s (cond (ak .eql u.1 1) (cond z (some (true,())) D) D)) none)) none))))))) none
def Ld(a b c d e f g h i j k:Int)(l:Lj)(m:KT)(n:JX)(o:JH)(p:Int):Kg:=letI q:=some (true,());letI r:=(ae aS m p).2.2;cond (aZ m p) (cond (ak .eql r.2.1 0) q (cond (ak .eql r.2.1 1) q (cond (ak .eql r.2.1 2) (cond (aZ l r.1) (some (ak .eql (ae ax l r.1).2.2.2.1 1,())) none) (some (false,()))))) none
def KQ(a b c d e:Int):Kg:=(Js a).bind λf=>letI g:=some (false,());cond f.1 ((dr b 0 1000001).bind λh=>cond h.1 ((dr c 0 2).bind λi=>cond i.1 ((dr d 0 6).bind λj=>cond j.1 ((dr e 0 20064).bind λk=>some (k.1,())) g) g) g) g
def M3(a b c d e f g h i j k:Int)(l:Lj)(m:KT)(n:JX)(o:JH)(p:Int):Kg:=letI q:=ae aS m p;cond (aZ m p) ((dr q.1 1 24).bind λr=>letI s:=some (false,());cond (Bool.not r.1) s ((Jf q.2.1).bind λt=>letI u:=(0:Int);cond (Bool.not t.1) s ((dr q.2.2.1 u (aa .sub .i64 (bw l) 1)).bind λv=>letI w:=q.2.2.2;cond (Bool.not v.1) s ((dr w.1 u 5).bind λx=>letI y:=aa .add .i64 p 1;letI z:=(Ld a b c d e f g h i j k l m n o p).bind λz=>letI A:=w.2.2.2;letI B:=A.2.2;letI C:=B.2.2.2;letI D:=ak .eql C.1 u;letI E:=ak .eql C.2 u;cond z.1 (cond (ak .eql w.2.1 u) (cond (ak .eql w.2.2.1 u) (cond D (cond E (lets (Bool.and (ak .eql A.1 u) (Bool.and (ak .eql A.2.1 u) (Bool.and (ak .eql B.1 u) (Bool.and (ak .eql B.2.1 u) (Bool.and (ak .eql B.2.2.1 u) true))))) λF=>some (F,())) s) s) s) s) ((dr w.2.1 u k).bind λF=>cond (Bool.not F.1) s ((dr w.2.2.1 u h).bind λG=>cond (Bool.not G.1) s ((KQ A.1 A.2.1 B.1 B.2.1 B.2.2.1).bind λH=>cond (Bool.not H.1) s ((J0 a b c d e f g h i j k l m n o y).bind λI=>cond (ak .neq A.1 I.1) s (cond (ak .eql w.1 4) ((Jf C.1).bind λJ=>cond J.1 ((dr C.2 u (aa .add .i64 e (aa .mul .i64 g h))).bind λK=>some (K.1,())) s) (cond D (some (E,())) s))))));cond (Bool.not x.1) s (cond (ak .eql w.1 2) (cond (aZ l q.2.2.1) (cond (ak .neq (ae ax l q.2.2.1).2.2.2.2.2.2.2.2.1 y) s z) none) z))))) none
def NZ(a:Int×Int×Int×Int×Int×Int×Int×Int×Int×Int×Int×Lj×KT×JX×JH×Int×Int×YcG)(b:NP):YbJ:=letI c:=(false,());letI d:=aa .add .i64 b.2.1 1;letI e:=a.2.2.2.2.2.2.2.2.2.2.2.2;letI f:=e.2.2.2.2.2.1;letI g:=aZ f b.2.1;letI h:=(ae gI f b.2.1).2;letI i:=aa .sub .i64 h.2.1 1;letI j:=ae aS e.1 i;letI k:=j.2.2.2.2.2.2.2.2.2;cond (ak .lss b.2.1 (bw f)) (cond g (cond (ak .eql h.2.1 0) (some (.inl (b.1,d,()))) (cond (ak .gtr h.2.1 (bw e.1)) (some (.inr (.inl c))) (cond (aZ e.1 i) (lets k.1 λ_=>lets k.2.1 λ_=>lets k.2.2.1 λ_=>lets k.2.2.2 λ_=>lets (ak .neq j.2.2.1 e.2.2.2.1) λl=>cond l (some (.inr (.inl c))) (cond g (lets (ak .neq j.1 h.1) λm=>letI n:=j.2.2.2.1;cond m (some (.inr (.inl c))) (lets (ak .neq n 2) λo=>letI p:=(aa .add .i64 b.1 1,d,());letI q:=ak .eql n 2;cond o (lets (ak .neq n 3) λr=>cond r (some (.inr (.inl c))) (lets q λs=>cond s (cond g (cond h.2.2 (some (.inr (.inl c))) (some (.inl p))) none) (some (.inl p)))) (lets q λr=>cond r (cond g (cond h.2.2 (some (.inr (.inl c))) (some (.inl p))) none) (some (.inl p))))) none)) none))) none) (some (.inr (.inr (.inl (b.1,())))))
def N2 k x:=iter (NZ k) big x
def NY(a:YaH)(b:NP):YbJ:=letI c:=b.2.1;letI d:=a.2.2.2;letI e:=d.2.2.2;letI f:=e.2.2.2.2.2;letI g:=f.2.2.2.2.1;letI h:=(ae ax f.1 g).2.2.1;cond (aZ f.1 g) (cond (ak .lss c (bw h)) (cond (aZ f.1 g) (cond (aZ h c) ((N2 (a.1,a.2.1,a.2.2.1,d.1,d.2.1,d.2.2.1,e.1,e.2.1,e.2.2.1,e.2.2.2.1,e.2.2.2.2.1,f.1,f.2.1,f.2.2.1,f.2.2.2.1,g,c,(ae br h c).2.2,()) (b.1,0,())).bind λi=>Sum.elim (λj=>some (.inr (.inl (j.1,())))) (λj=>Sum.elim (λk=>some (.inl (k.1,aa .add .i64 c 1,()))) (λk=>Empty.elim k) j) i) none) none) (some (.inr (.inr (.inl (b.1,())))))) none
def N1 k x:=iter (NY k) big x
def NX(a:YaK)(b:NP):YbJ:=letI c:=a.2.2.2.2;letI d:=c.2.2.2.2;letI e:=d.2.2.2;cond (ak .lss b.2.1 (bw e.1)) ((N1 (a.1,a.2.1,a.2.2.1,a.2.2.2.1,c.1,c.2.1,c.2.2.1,c.2.2.2.1,d.1,d.2.1,d.2.2.1,e.1,e.2.1,e.2.2.1,e.2.2.2.1,b.2.1,()) (b.1,0,())).bind λf=>Sum.elim (λg=>some (.inr (.inl (g.1,())))) (λg=>Sum.elim (λh=>some (.inl (h.1,aa .add .i64 b.2.1 1,()))) (λh=>Empty.elim h) g) f) (some (.inr (.inr (.inl (b.1,())))))
def TY k x:=iter (NX k) big x
def N0(a:YaK)(b:NP):YbE:=letI c:=b.2.1;letI d:=aa .add .i64 c 1;letI e:=a.2.2.2.2.2.2.2.2.2.2.2.2.1;letI f:=(aa .sub .i64 b.1 1,d,());letI g:=(ae aS e c).2.2.2.1;cond (ak .lss c (bw e)) (cond (aZ e c) (cond (ak .eql g 2) (some (.inl f)) (cond (aZ e c) (cond (ak .eql g 3) (some (.inl f)) (some (.inl (b.1,d,())))) none)) none) (some (.inr (.inl (b.1,()))))
def TZ k x:=iter (N0 k) big x
def NL(a b c d e f g h i j k:Int)(l:Lj)(m:KT)(n:JX)(o:JH):Kg:=letI p:=(a,b,c,d,e,f,g,h,i,j,k,l,m,n,o,());(TY p (0,0,())).bind λq=>Sum.elim (λr=>some (r.1,())) (λr=>Sum.elim (λs=>(TZ p (s.1,0,())).bind λt=>Sum.elim (λu=>some (ak .eql u.1 0,())) (λu=>Empty.elim u) t) (λs=>Empty.elim s) r) q
def RT(a:YaK)(b:NP):YbE:=letI c:=b.2.1;letI d:=a.2.2.2.2.2;letI e:=aa .add .i64 c 1;letI f:=d.2.2.2.2.2;letI g:=f.2.2.1;cond (ak .lss c (bw g)) (cond (aZ g c) (cond (ak .neq (ae aS g c).2.2.2.1 0) ((Ld a.1 a.2.1 a.2.2.1 a.2.2.2.1 a.2.2.2.2.1 d.1 d.2.1 d.2.2.1 d.2.2.2.1 d.2.2.2.2.1 f.1 f.2.1 g f.2.2.2.1 f.2.2.2.2.1 c).bind λh=>cond h.1 (cond (aZ g c) (some (.inl (aa .add .i64 b.1 (ae aS g c).1,e,()))) none) (some (.inl (b.1,e,())))) (some (.inl (b.1,e,())))) none) (some (.inr (.inl (b.1,()))))
def WQ k x:=iter (RT k) big x
def PK(a b c d e f g h i j k:Int)(l:Lj)(m:KT)(n:JX)(o:JH):PN:=(WQ (a,b,c,d,e,f,g,h,i,j,k,l,m,n,o,()) (0,0,())).bind λp=>Sum.elim (λq=>some (q.1,())) (λq=>Empty.elim q) p
def Pw(a:YaK)(b:Mk):YaN:=letI c:=a.2.2.2.2;letI d:=c.2.2.2.2;letI e:=d.2.2.2;cond (ak .lss b.1 (bw e.1)) ((PL a.1 a.2.1 a.2.2.1 a.2.2.2.1 c.1 c.2.1 c.2.2.1 c.2.2.2.1 d.1 d.2.1 d.2.2.1 e.1 e.2.1 e.2.2.1 e.2.2.2.1 b.1).bind λf=>cond (Bool.not f.1) (some (.inr (.inl (false,())))) (some (.inl (aa .add .i64 b.1 1,())))) (some (.inr (.inr (.inl ()))))
def Ve k x:=iter (Pw k) big x
def Px(a:YaK)(b:Mk):YaN:=letI c:=a.2.2.2.2;letI d:=c.2.2.2.2;letI e:=d.2.2.2.2;cond (ak .lss b.1 (bw e.1)) ((M3 a.1 a.2.1 a.2.2.1 a.2.2.2.1 c.1 c.2.1 c.2.2.1 c.2.2.2.1 d.1 d.2.1 d.2.2.1 d.2.2.2.1 e.1 e.2.1 e.2.2.1 b.1).bind λf=>cond (Bool.not f.1) (some (.inr (.inl (false,())))) (some (.inl (aa .add .i64 b.1 1,())))) (some (.inr (.inr (.inl ()))))
def Vf k x:=iter (Px k) big x
def Pv(a b c d e f g h i j k:Int)(l:Lj)(m:KT)(n:JX)(o:JH):Kg:=(MT a b c d e f g h).bind λp=>letI q:=some (false,());cond (Bool.not p.1) q ((dr i 0 1000).bind λr=>cond (Bool.not r.1) q ((Js j).bind λs=>cond (Bool.not s.1) q ((dr k 0 20000).bind λt=>cond (Bool.not t.1) q ((dr (bw l) 1 3).bind λu=>cond (Bool.not u.1) q (cond (ak .gtr (bw m) 12) q ((Nz n).bind λv=>cond (Bool.not v.1) q ((JD o).bind λw=>letI x:=(a,b,c,d,e,f,g,h,i,j,k,l,m,n,o,());cond (Bool.not w.1) q ((Ve x (0,())).bind λy=>Sum.elim (λz=>some (z.1,())) (λz=>Sum.elim (λ_=>(Vf x (0,())).bind λA=>Sum.elim (λB=>some (B.1,())) (λB=>Sum.elim (λ_=>(NL a b c d e f g h i j k l m n o).bind λC=>cond C.1 ((PK a b c d e f g h i j k l m n o).bind λD=>some (ak .leq D.1 i,())) q) (λC=>Empty.elim C) B) A) (λA=>Empty.elim A) z) y))))))))
def Is(a:Int):Kg:=(eb a 1 40).bind λb=>some (b.1,())
def JY(a b c d e f:Int)(g:Bool):Kg:=(Is a).bind λh=>letI i:=some (false,());cond h.1 ((Is b).bind λj=>cond j.1 (cond (ak .neq a b) ((eb c 0 999).bind λk=>cond k.1 ((eb d 0 5).bind λl=>cond l.1 ((Je e).bind λm=>cond m.1 ((Je f).bind λn=>cond n.1 (some (ak .lss e f,())) i) i) i) i) i) i) i
def Rs(a b c d e f:Int)(g:Bool):Kg:=(JY a b c d e f g).bind λh=>some (Bool.not h.1,())
def qb(a:YdL)(b:Mk):YaY:=letI c:=ae kC a.1 b.1;letI d:=c.2.2.2;cond (ak .lss b.1 a.2.1) (cond (aZ a.1 b.1) ((Rs c.1 c.2.1 c.2.2.1 d.1 d.2.1 d.2.2.1 d.2.2.2).bind λe=>cond e.1 (some (.inr (.inl (b.1,())))) (some (.inl (aa .add .i64 b.1 1,())))) none) (some (.inr (.inr (.inl ()))))
def zg k x:=iter (qb k) big x
def D3(a:JX):PN:=(zg (a,bw a,()) (0,())).bind λb=>Sum.elim (λc=>some (c.1,())) (λc=>Sum.elim (λ_=>some (-1,())) (λd=>Empty.elim d) c) b
def xo(a:JX):Kg:=(D3 a).bind λb=>some (ak .geq b.1 0,())
def JZ(a:JX):Kg:=cond (ak .leq (bw a) 30) ((xo a).bind λb=>some (Bool.not b.1,())) (some (false,()))
def PX(a:Int×Li×Ln×YcJ)(b:Mk):YaN:=letI c:=ae zI a.2.2.2.1 b.1;cond (ak .lss b.1 a.2.2.2.2.1) (cond (aZ a.2.2.2.1 b.1) ((eb c 1 (aa .sub .i64 a.1 1)).bind λd=>letI e:=aa .sub .i64 b.1 1;letI f:=(aa .add .i64 b.1 1,());cond (Bool.not d.1) (some (.inr (.inl (false,())))) (cond (ak .gtr b.1 0) (cond (aZ a.2.1 e) (cond (ak .leq c (ae zI a.2.1 e)) (some (.inr (.inl (false,())))) (some (.inl f))) none) (some (.inl f)))) none) (some (.inr (.inr (.inl ()))))
def PZ k x:=iter (PX k) big x
def Mn(a:Int×Li×Ln×YcE)(b:Int×YaS×YcN):Option (Int×YaS×YcN⊕YaU⊕Int×YaS×Unit⊕Empty):=letI c:=(false,());letI d:=b.2.2.2.1;letI e:=ae gI a.2.2.2.1 d;cond (ak .lss d a.2.2.2.2.1) (cond (aZ a.2.2.2.1 d) (cond (ak .neq e.1 b.1) (some (.inr (.inl c))) ((eb e.2.1 1 (aa .sub .i64 a.1 b.1)).bind λf=>letI g:=e.2.2.1;cond (Bool.not f.1) (some (.inr (.inl c))) ((eb g 0 999).bind λh=>letI i:=(aa .add .i64 b.1 e.2.1,qf b.2.1 e.1 true,qf b.2.2.1 g true,aa .add .i64 d 1,());cond (Bool.not h.1) (some (.inr (.inl c))) (cond (ak .gtr g 0) (cond (jK b.2.2.1 g) (some (.inr (.inl c))) (some (.inl i))) (some (.inl i)))))) none) (some (.inr (.inr (.inl (b.1,b.2.1,())))))
def P0 k x:=iter (Mn k) big x
def PY(a:Int×Li×Ln×Int×YcJ)(b:YcN):YdY:=letI c:=a.2.2.2.2;cond (ak .lss b.2.1 c.2.1) (cond (aZ c.1 b.2.1) (cond (Bool.not (jK b.1 (ae zI c.1 b.2.1))) (some (.inr (.inl (false,())))) (some (.inl (b.1,aa .add .i64 b.2.1 1,())))) none) (some (.inr (.inr (.inl ()))))
def P3 k x:=iter (PY k) big x
def LD(a:Int)(b:Li)(c:Ln):Kg:=(eb a 1 24).bind λd=>letI e:=some (false,());cond (Bool.not d.1) e (cond (ak .eql (bw c) 0) e ((PZ (a,b,c,b,bw b,()) (0,())).bind λf=>Sum.elim (λg=>some (g.1,())) (λg=>Sum.elim (λ_=>(P0 (a,b,c,c,bw c,()) (0,([]:YaS),([]:YaS),0,())).bind λh=>Sum.elim (λi=>some (i.1,())) (λi=>Sum.elim (λj=>(P3 (a,b,c,j.1,b,bw b,()) (j.2.1,0,())).bind λk=>Sum.elim (λl=>some (l.1,())) (λl=>Sum.elim (λ_=>some (ak .eql j.1 a,())) (λm=>Empty.elim m) l) k) (λj=>Empty.elim j) i) h) (λh=>Empty.elim h) g) f))
def Ot(a:Rp×Int×Int×YcE)(b:YcN):Option (YcN⊕YaU⊕YaS×Unit⊕Empty):=letI c:=(ae gI a.2.2.2.1 b.2.1).2.2.1;letI d:=(qf b.1 c true,aa .add .i64 b.2.1 1,());cond (ak .lss b.2.1 a.2.2.2.2.1) (cond (aZ a.2.2.2.1 b.2.1) (cond (ak .gtr c 0) (cond (jK b.1 c) (some (.inr (.inl (false,())))) (some (.inl d))) (some (.inl d))) none) (some (.inr (.inr (.inl (b.1,())))))
def Tq k x:=iter (Ot k) big x
def To(a:YcA)(b:YcN):YdY:=letI c:=b.2.1;letI d:=ae br a.1 c;cond (ak .lss c a.2.1) (cond (aZ a.1 c) ((LD d.1 d.2.1 d.2.2).bind λe=>cond (Bool.not e.1) (some (.inr (.inl (false,())))) ((Tq (a.1,a.2.1,c,d.2.2,bw d.2.2,()) (b.1,0,())).bind λf=>Sum.elim (λg=>some (.inr (.inl (g.1,())))) (λg=>Sum.elim (λh=>some (.inl (h.1,aa .add .i64 c 1,()))) (λh=>Empty.elim h) g) f)) none) (some (.inr (.inr (.inl ()))))
def Tp k x:=iter (To k) big x
def KL(a:Rp):Kg:=(eb (bw a) 1 6).bind λb=>cond (Bool.not b.1) (some (false,())) ((Tp (a,bw a,()) (([]:YaS),0,())).bind λc=>Sum.elim (λd=>some (d.1,())) (λd=>Sum.elim (λ_=>some (true,())) (λe=>Empty.elim e) d) c)
def UQ(a b:Int)(c d e:Bool):Kg:=some (pI e (ak .eql a 1),())
def Gn(a b:Int)(c d e:Bool):Kg:=(eb a 0 2).bind λf=>letI g:=some (false,());cond (Bool.not f.1) g ((eb b 0 6).bind λh=>letI i:=some (Bool.not c,());letI j:=UQ a b c d e;letI k:=cond c (some (Bool.not d,())) g;letI l:=cond (ak .eql a 0) (cond (ak .eql b 0) i g) (cond (ak .eql b 1) (j.bind λl=>cond (Bool.not l.1) i g) (cond (ak .eql b 2) (j.bind λl=>cond (Bool.not l.1) k g) (cond (ak .eql b 3) (j.bind λl=>cond (Bool.not l.1) (some (d,())) g) (cond (ak .eql b 4) (j.bind λl=>cond l.1 (some (d,())) g) (cond (ak .eql b 5) k (cond (ak .eql b 6) i (some (true,()))))))));cond (Bool.not h.1) g (cond d (cond (Bool.not c) g l) l))
def US(a b c d e f g h i j k:Int)(l:Lj)(m:KT)(n:JX)(o:JH)(p:Int):Kg:=letI q:=ae ax l p;cond (aZ l p) ((Kn q.1 q.2.1).bind λr=>letI s:=some (false,());cond (Bool.not r.1) s ((KL q.2.2.1).bind λt=>letI u:=q.2.2.2;letI v:=u.2.2.2;cond (Bool.not t.1) s ((Gn u.1 u.2.1 u.2.2.1 v.1 v.2.1).bind λw=>letI x:=v.2.2;cond (Bool.not w.1) s ((JB x.2.2).bind λy=>letI z:=ak .eql u.1 0;letI A:=ak .eql x.2.1 0;cond (Bool.not y.1) s (cond (ak .eql x.1 0) (lets (Bool.and z (Bool.and (ak .eql u.2.1 0) (Bool.and (pI u.2.2.1 false) (Bool.and (pI v.1 false) (Bool.and (pI v.2.1 false) true))))) λB=>cond B (some (A,())) s) ((eb x.1 1 (bw m)).bind λB=>letI C:=aa .sub .i64 x.1 1;letI D:=(ae aS m C).2.2;cond (Bool.not B.1) s (cond (aZ m C) (cond (ak .neq D.1 p) s (cond (ak .neq D.2.1 2) s (cond z s (cond A (some (true,())) (cond (ak .eql u.1 2) ((Is x.2.1).bind λE=>some (E.1,())) s))))) none))))))) none
def Lx(a b c d e f g h i j k:Int)(l:Lj)(m:KT)(n:JX)(o:JH)(p q r s t u v w x y z A B:Int):Kg:=letI C:=some (true,());cond (ak .eql s 0) C (cond (ak .eql s 1) C (cond (ak .eql s 2) (cond (aZ l r) (some (ak .eql (ae ax l r).2.2.2.1 1,())) none) (some (false,()))))
def Kl(a b c d e:Int):Kg:=(Jt a).bind λf=>letI g:=some (false,());cond f.1 ((eb b 0 1000001).bind λh=>cond h.1 ((eb c 0 2).bind λi=>cond i.1 ((eb d 0 6).bind λj=>cond j.1 ((eb e 0 20064).bind λk=>some (k.1,())) g) g) g) g
def QE(a b c d e f g h i j k:Int)(l:Lj)(m:KT)(n:JX)(o:JH)(p:Int):Kg:=letI q:=ae aS m p;cond (aZ m p) ((eb q.1 1 24).bind λr=>letI s:=some (false,());cond (Bool.not r.1) s ((Is q.2.1).bind λt=>letI u:=(0:Int);letI v:=q.2.2.1;cond (Bool.not t.1) s ((eb v u (aa .sub .i64 (bw l) 1)).bind λw=>letI x:=q.2.2.2;cond (Bool.not w.1) s ((eb x.1 u 5).bind λy=>letI z:=aa .add .i64 p 1;letI A:=x.2.2.2;letI B:=A.2.2;letI C:=B.2.2.2;letI D:=(Lx a b c d e f g h i j k l m n o q.1 q.2.1 v x.1 x.2.1 x.2.2.1 A.1 A.2.1 B.1 B.2.1 B.2.2.1 C.1 C.2).bind λD=>letI E:=ak .eql C.1 u;letI F:=ak .eql C.2 u;cond D.1 (cond (ak .eql x.2.1 u) (cond (ak .eql x.2.2.1 u) (cond E (cond F (lets (Bool.and (ak .eql A.1 u) (Bool.and (ak .eql A.2.1 u) (Bool.and (ak .eql B.1 u) (Bool.and (ak .eql B.2.1 u) (Bool.and (ak .eql B.2.2.1 u) true))))) λG=>some (G,())) s) s) s) s) ((eb x.2.1 u k).bind λG=>cond (Bool.not G.1) s ((eb x.2.2.1 u h).bind λH=>cond (Bool.not H.1) s ((Kl A.1 A.2.1 B.1 B.2.1 B.2.2.1).bind λI=>cond (Bool.not I.1) s ((Km a b c d e f g h i j k l m n o z).bind λJ=>cond (ak .neq A.1 J.1) s (cond (ak .eql x.1 4) ((Is C.1).bind λK=>cond K.1 ((eb C.2 u (aa .add .i64 e (aa .mul .i64 g h))).bind λL=>some (L.1,())) s) (cond E (some (F,())) s))))));cond (Bool.not y.1) s (cond (ak .eql x.1 2) (cond (aZ l v) (cond (ak .neq (ae ax l v).2.2.2.2.2.2.2.2.1 z) s D) none) D))))) none
def Rz(a:Int×Int×Int×Int×Int×Int×Int×Int×Int×Int×Int×Lj×KT×JX×JH×Int×Lj×Int×Int×Rp×Int×Int×YcE)(b:NP):YbJ:=letI c:=aa .add .i64 b.2.1 1;letI d:=a.2.2.2.2.2.2.2.2.2.2.2.2;letI e:=d.2.2.2.2.2.2.2.2.2.2;letI f:=(ae gI e.1 b.2.1).2;cond (ak .lss b.2.1 e.2.1) (cond (aZ e.1 b.2.1) (cond (ak .eql f.2.1 0) (some (.inl (b.1,c,()))) ((eb f.2.1 1 (bw d.1)).bind λg=>letI h:=(false,());letI i:=aa .sub .i64 f.2.1 1;letI j:=ae aS d.1 i;letI k:=j.2.2.2;cond (Bool.not g.1) (some (.inr (.inl h))) (cond (aZ d.1 i) (lets k.2.1 λ_=>lets k.2.2.1 λ_=>letI l:=k.2.2.2;lets l.1 λ_=>lets l.2.1 λ_=>lets l.2.2.1 λ_=>letI m:=l.2.2.2;lets m.1 λ_=>lets m.2.1 λ_=>lets m.2.2.1 λ_=>lets m.2.2.2 λ_=>lets (ak .neq k.1 2) λn=>letI o:=(aa .add .i64 b.1 1,c,());letI p:=ak .eql k.1 2;letI q:=ak .neq j.2.2.1 d.2.2.2.1;letI r:=ak .neq j.1 f.1;cond n (lets (ak .neq k.1 3) λs=>cond s (some (.inr (.inl h))) (lets q λt=>cond t (some (.inr (.inl h))) (lets r λu=>cond u (some (.inr (.inl h))) (lets p λv=>cond v (cond f.2.2 (some (.inr (.inl h))) (some (.inl o))) (some (.inl o)))))) (lets q λs=>cond s (some (.inr (.inl h))) (lets r λt=>cond t (some (.inr (.inl h))) (lets p λu=>cond u (cond f.2.2 (some (.inr (.inl h))) (some (.inl o))) (some (.inl o)))))) none))) none) (some (.inr (.inr (.inl (b.1,())))))
def RC k x:=iter (Rz k) big x
def Ry(a:Int×Int×Int×Int×Int×Int×Int×Int×Int×Int×Int×Lj×KT×JX×JH×Int×Lj×Int×Int×YcA)(b:NP):YbJ:=letI c:=b.2.1;letI d:=a.2.2.2;letI e:=d.2.2.2;letI f:=e.2.2.2;letI g:=f.2.2.2;letI h:=g.2.2.2;letI i:=h.2.2.2;letI j:=(ae br i.2.1 c).2.2;cond (ak .lss c i.2.2.1) (cond (aZ i.2.1 c) ((RC (a.1,a.2.1,a.2.2.1,d.1,d.2.1,d.2.2.1,e.1,e.2.1,e.2.2.1,f.1,f.2.1,f.2.2.1,g.1,g.2.1,g.2.2.1,h.1,h.2.1,h.2.2.1,i.1,i.2.1,i.2.2.1,c,j,bw j,()) (b.1,0,())).bind λk=>Sum.elim (λl=>some (.inr (.inl (l.1,())))) (λl=>Sum.elim (λm=>some (.inl (m.1,aa .add .i64 c 1,()))) (λm=>Empty.elim m) l) k) none) (some (.inr (.inr (.inl (b.1,())))))
def RB k x:=iter (Ry k) big x
def Rx(a:YbX)(b:NP):YbJ:=letI c:=b.2.1;letI d:=a.2.2.2.2.2;letI e:=d.2.2.2.2.2;letI f:=e.2.2.2.2.2;letI g:=(ae ax f.1 c).2.2.1;cond (ak .lss c f.2.1) (cond (aZ f.1 c) ((RB (a.1,a.2.1,a.2.2.1,a.2.2.2.1,a.2.2.2.2.1,d.1,d.2.1,d.2.2.1,d.2.2.2.1,d.2.2.2.2.1,e.1,e.2.1,e.2.2.1,e.2.2.2.1,e.2.2.2.2.1,c,f.1,f.2.1,c,g,bw g,()) (b.1,0,())).bind λh=>Sum.elim (λi=>some (.inr (.inl (i.1,())))) (λi=>Sum.elim (λj=>some (.inl (j.1,aa .add .i64 c 1,()))) (λj=>Empty.elim j) i) h) none) (some (.inr (.inr (.inl (b.1,())))))
def WK k x:=iter (Rx k) big x
def RA(a:YdX)(b:NP):YbE:=letI c:=aa .add .i64 b.2.1 1;letI d:=(ae aS a.1 b.2.1).2.2.2.1;letI e:=(aa .sub .i64 b.1 1,c,());cond (ak .lss b.2.1 a.2.1) (cond (aZ a.1 b.2.1) (cond (ak .eql d 2) (some (.inl e)) (cond (ak .eql d 3) (some (.inl e)) (some (.inl (b.1,c,()))))) none) (some (.inr (.inl (b.1,()))))
def WL k x:=iter (RA k) big x
def Sg(a b c d e f g h i j k:Int)(l:Lj)(m:KT)(n:JX)(o:JH):Kg:=(WK (a,b,c,d,e,f,g,h,i,j,k,l,m,n,o,l,bw l,()) (0,0,())).bind λp=>Sum.elim (λq=>some (q.1,())) (λq=>Sum.elim (λr=>(WL (m,bw m,()) (r.1,0,())).bind λs=>Sum.elim (λt=>some (ak .eql t.1 0,())) (λt=>Empty.elim t) s) (λr=>Empty.elim r) q) p
def Tw(a:Int×Int×Int×Int×Int×Int×Int×Int×Int×Int×Int×Lj×KT×JX×JH×YdX)(b:NP):YbE:=letI c:=a.2.2.2.2.2;letI d:=aa .add .i64 b.2.1 1;letI e:=c.2.2.2.2;letI f:=e.2.2.2.2;letI g:=ae aS f.2.2.1 b.2.1;letI h:=g.2.2.2;letI i:=h.2.2.2;letI j:=i.2.2.2;cond (ak .lss b.2.1 f.2.2.2.1) (cond (aZ f.2.2.1 b.2.1) (cond (ak .neq h.1 0) ((Lx a.1 a.2.1 a.2.2.1 a.2.2.2.1 a.2.2.2.2.1 c.1 c.2.1 c.2.2.1 c.2.2.2.1 e.1 e.2.1 e.2.2.1 e.2.2.2.1 f.1 f.2.1 g.1 g.2.1 g.2.2.1 h.1 h.2.1 h.2.2.1 i.1 i.2.1 i.2.2.1 j.1 j.2.1 j.2.2.1 j.2.2.2).bind λk=>cond k.1 (some (.inl (aa .add .i64 b.1 g.1,d,()))) (some (.inl (b.1,d,())))) (some (.inl (b.1,d,())))) none) (some (.inr (.inl (b.1,()))))
def Xk k x:=iter (Tw k) big x
def Rh(a b c d e f g h i j k:Int)(l:Lj)(m:KT)(n:JX)(o:JH):PN:=(Xk (a,b,c,d,e,f,g,h,i,j,k,l,m,n,o,m,bw m,()) (0,0,())).bind λp=>Sum.elim (λq=>some (q.1,())) (λq=>Empty.elim q) p
def OB(a:YaH)(b:Mk):YaN:=letI c:=a.2.2.2.2;letI d:=c.2.2.2.2;letI e:=d.2.2.2.2;cond (ak .lss b.1 e.2.2.2.1) ((US a.1 a.2.1 a.2.2.1 a.2.2.2.1 c.1 c.2.1 c.2.2.1 c.2.2.2.1 d.1 d.2.1 d.2.2.1 d.2.2.2.1 e.1 e.2.1 e.2.2.1 b.1).bind λf=>cond (Bool.not f.1) (some (.inr (.inl (false,())))) (some (.inl (aa .add .i64 b.1 1,())))) (some (.inr (.inr (.inl ()))))
def UN k x:=iter (OB k) big x
def OC(a:YaH)(b:Mk):YaN:=letI c:=a.2.2.2.2;letI d:=c.2.2.2.2;letI e:=d.2.2.2.2;cond (ak .lss b.1 e.2.2.2.1) ((QE a.1 a.2.1 a.2.2.1 a.2.2.2.1 c.1 c.2.1 c.2.2.1 c.2.2.2.1 d.1 d.2.1 d.2.2.1 d.2.2.2.1 e.1 e.2.1 e.2.2.1 b.1).bind λf=>cond (Bool.not f.1) (some (.inr (.inl (false,())))) (some (.inl (aa .add .i64 b.1 1,())))) (some (.inr (.inr (.inl ()))))
def UO k x:=iter (OC k) big x
def OA(a b c d e f g h i j k:Int)(l:Lj)(m:KT)(n:JX)(o:JH):Kg:=(Mp a b c d e f g h).bind λp=>letI q:=some (false,());cond (Bool.not p.1) q ((eb i 0 1000).bind λr=>cond (Bool.not r.1) q ((Jt j).bind λs=>cond (Bool.not s.1) q ((Je k).bind λt=>cond (Bool.not t.1) q ((eb (bw l) 1 3).bind λu=>cond (Bool.not u.1) q (cond (ak .gtr (bw m) 12) q ((JZ n).bind λv=>cond (Bool.not v.1) q ((JB o).bind λw=>cond (Bool.not w.1) q ((UN (a,b,c,d,e,f,g,h,i,j,k,l,m,n,o,bw l,()) (0,())).bind λx=>Sum.elim (λy=>some (y.1,())) (λy=>Sum.elim (λ_=>(UO (a,b,c,d,e,f,g,h,i,j,k,l,m,n,o,bw m,()) (0,())).bind λz=>Sum.elim (λA=>some (A.1,())) (λA=>Sum.elim (λ_=>(Sg a b c d e f g h i j k l m n o).bind λB=>cond B.1 ((Rh a b c d e f g h i j k l m n o).bind λC=>some (ak .leq C.1 i,())) q) (λB=>Empty.elim B) A) z) (λz=>Empty.elim z) y) x))))))))
def ad7(m:List (Int×Bool))(k k':Int)(v:Bool):jK (qf m k v) k'=bif k'==k then v else jK m k':=by
 induction m with
 |nil=>simp only[qf,jK]
 |cons y r d=>
  unfold qf;cases a:k==y.1 with
  |true=>
   have c:k=y.1:=by simpa using a
   subst c;simp only[az,jK];cases k'==y.1 <;> rfl
  |false=>
   simp only[aW,jK,d];cases b:k'==y.1 with
   |false=>rfl
   |true=>
    have:k'=y.1:=by simpa using b
    subst this;have:(y.1==k)=false:=by rw[vh]at a⊢;intro e;exact a (by simpa using (beq_iff_eq.1 e).symm)
    rw[this];rfl
def Fv(m:List (Int×Bool))(l:List Int):List (Int×Bool):=l.foldl (λm k=>qf m k true) m
def Rk(k:Int):∀(l:List Int) (m:List (Int×Bool)),jK (Fv m l) k=true↔jK m k=true\/k∈l
 |[],m=>by simp[Fv]
 |x::l,m=>by
  have:=Rk k l (qf m x true);unfold Fv at this⊢;rw[Xa,this,ad7];cases a:k==x with
  |true=>simp[beq_iff_eq.1 a]
  |false=>
   have:k≠x:=by rintro rfl;simp at a
   simp[this]
def XD(m:List (Int×Bool))(l:List Int)(x:Int):Fv m (l++[x])=qf (Fv m l) x true:=by unfold Fv;rw[ZK];rfl
def Le{α:Type}{l:List α}{n:Nat}(h:n<l.length)(z:α):l.take (n+1)=l.take n++[l.getD n z]:=by rw[acJ,bR h,dG,bR h];rfl
def Zx{α:Type}{l:List α}{n:Nat}{x z:α}(b:n<=l.length):x∈l.take n↔∃k,k<n/\l.getD k z=x:=by
 constructor
 .intro h;obtain⟨k,a,e⟩:=acC.1 h;rw[dB]at a;rw[List.getElem_take]at e;exact⟨k,by omega,by rw[dG,bR (by omega)];exact e⟩
 .rintro⟨k,a,e⟩;rw[dG,bR (show k<l.length by omega)]at e;rw[<-e];have:(l.take n)[k]? = some l[k]:=by rw[jv a,bR (by omega)]
  exact vP this
def Jd(l:List Bx)(n:Nat):Bx:=l.getD n gI
def mS(l:List Bx)(n:Nat):Int:=(l.take n).foldl (λa b=>aa .add .i64 a b.2.1) 0
def N7(l:List Bx){n:Nat}(h:n<l.length):mS l (n+1)=aa .add .i64 (mS l n) (Jd l n).2.1:=by unfold mS Jd;rw[Le h gI,ZK];rfl
def Y6(l:List Bx)(n k:Nat):Bool:=Bool.not (ak .gtr (Jd l n).2.2.1 0&&ak .eql (Jd l k).2.2.1 (Jd l n).2.2.1)
def okS(l:List Bx)(n:Nat):Bool:=Bool.not (ak .neq (Jd l n).1 (mS l n))&&Jh (Jd l n).2.1 1 24&&Jh (Jd l n).2.2.1 0 999&&bO (Y6 l n) 0 n&&Bool.not (ak .gtr (mS l (n+1)) 24)
def adg(h:Int)(f:List Int)(l:List Bx)(e:l.length<=1073741824):QW h f l=some (bO (okS l) 0 l.length&&(ak .gtr (bw l) 0&&ak .eql (mS l l.length) h),()):=by
 unfold QW;have:Qo (h,f,l,()) (0,0,())=some (bif bO (okS l) 0 l.length then(Sum.inr (Sum.inl (mS l l.length,())):Bool×Unit⊕(Int×Unit⊕Empty))else .inl (false,())):=by
  refine wN (λn=>(mS l n,(n:Int),())) l.length (by omega) (okS l) _ _ (λn c=>?_) ?_
  .have a:MV (h,f,l,mS l n,(n:Int),()) ((Jd l n).1,(Jd l n).2.1,(Jd l n).2.2.1,(Jd l n).2.2.2,0,())=some (bif bO (Y6 l n) 0 n then(Sum.inr (Sum.inl ((Jd l n).1,(Jd l n).2.1,(Jd l n).2.2.1,(Jd l n).2.2.2,())):Bool×Unit⊕(Int×Int×Int×Bool×Unit⊕Empty))else .inl (false,())):=by
    refine wN (λk=>((Jd l n).1,(Jd l n).2.1,(Jd l n).2.2.1,(Jd l n).2.2.2,(k:Int),())) n (by omega) (Y6 l n) _ _ (λk d=>?_) ?_
    .unfold Qm Y6;have b:k<l.length:=by omega
     simp only[EG,d,bu,az,dX,b,cw,eW (n:=k) (by omega)];show(bif ak .gtr (Jd l n).2.2.1 0 then(bif ak .eql (Jd l k).2.2.1 (Jd l n).2.2.1 then _ else _)else _)=_;cases ak .gtr (Jd l n).2.2.1 0 <;> cases ak .eql (Jd l k).2.2.1 (Jd l n).2.2.1 <;> rfl
    .unfold Qm;simp only[EG,eL,ct,aW]
   unfold Ql okS;simp only[bP,c,bu,az,dX,cw,rp,aX,eW (n:=n) (by omega),N7 l c];show(bif ak .neq (Jd l n).1 (mS l n)then _ else bif Bool.not (Jh (Jd l n).2.1 1 24)then _ else bif Bool.not (Jh (Jd l n).2.2.1 0 999)then _ else(MV (h,f,l,mS l n,(n:Int),()) ((Jd l n).1,(Jd l n).2.1,(Jd l n).2.2.1,(Jd l n).2.2.2,0,())).bind _)=_;rw[a];cases ak .neq (Jd l n).1 (mS l n)with
   |true=>rfl
   |false=>
    cases Jh (Jd l n).2.1 1 24 with
    |false=>rfl
    |true=>
     cases Jh (Jd l n).2.2.1 0 999 with
     |false=>rfl
     |true=>
      cases bO (Y6 l n) 0 n with
      |false=>rfl
      |true=>simp only[fu,aW,az,aX,VW,NQ,kx,ow];cases ak .gtr (aa .add .i64 (mS l n) (Jd l n).2.1) 24 <;> rfl
  .unfold Ql;simp only[bP,eL,ct,aW]
 rw[this];cases bO (okS l) 0 l.length with
 |false=>rfl
 |true=>simp only[az,aX,VW,NQ,ow];cases ak .gtr (bw l) 0 <;> rfl
def Y1(l:List Bx):List Int:=l.map (·.1)
def Lu(l:List Bx):List Int:=l.map (·.2.2.1)
def okI(h:Int)(l:List Bx)(n:Nat):Bool:=Bool.not (ak .neq (Jd l n).1 (mS l n))&&Jh (Jd l n).2.1 1 (aa .sub .i64 h (mS l n))&&Jh (Jd l n).2.2.1 0 999&&Bool.not (ak .gtr (Jd l n).2.2.1 0&&jK (Fv [] (Lu (l.take n))) (Jd l n).2.2.1)
def acU(h:Int)(f:List Int)(l:List Bx)(d:l.length<=1073741824):P0 (h,f,l,l,bw l,()) (0,[],[],0,())=some (bif bO (okI h l) 0 l.length then(Sum.inr (Sum.inl (mS l l.length,Fv [] (Y1 l),())):Bool×Unit⊕(Int×(List (Int×Bool))×Unit⊕Empty))else .inl (false,())):=by
 have:=wN (body:=Mn (h,f,l,l,bw l,())) (λn=>(mS l n,Fv [] (Y1 (l.take n)),Fv [] (Lu (l.take n)),(n:Int),())) l.length (by omega) (okI h l) (.inr (.inl (mS l l.length,Fv [] (Y1 l),()))) (.inl (false,())) (λn a=>?_) ?_
 .exact this
 .unfold Mn okI;have b:Fv [] (Y1 (l.take (n+1)))=qf (Fv [] (Y1 (l.take n))) (Jd l n).1 true:=by unfold Y1 Jd;rw[Le a gI,Tj];exact XD _ _ _
  have c:Fv [] (Lu (l.take (n+1)))=qf (Fv [] (Lu (l.take n))) (Jd l n).2.2.1 true:=by unfold Lu Jd;rw[Le a gI,Tj];exact XD _ _ _
  simp only[bP,a,bu,az,dX,cw,bS,aX,eW (n:=n) (by omega),N7 l a,b,c];show(bif ak .neq (Jd l n).1 (mS l n)then _ else bif Bool.not (Jh (Jd l n).2.1 1 (aa .sub .i64 h (mS l n)))then _ else bif Bool.not (Jh (Jd l n).2.2.1 0 999)then _ else bif ak .gtr (Jd l n).2.2.1 0 then(bif jK (Fv [] (Lu (l.take n))) (Jd l n).2.2.1 then _ else _)else _)=_;cases ak .neq (Jd l n).1 (mS l n)with
  |true=>rfl
  |false=>
   cases Jh (Jd l n).2.1 1 (aa .sub .i64 h (mS l n))with
   |false=>rfl
   |true=>
    cases Jh (Jd l n).2.2.1 0 999 with
    |false=>rfl
    |true=>
     cases ak .gtr (Jd l n).2.2.1 0 with
     |false=>rfl
     |true=>cases jK (Fv [] (Lu (l.take n))) (Jd l n).2.2.1 <;> rfl
 .unfold Mn;simp only[bP,eL,ct,aW,Kj]
def ada{a b:Int}:ak .neq a b=false↔a=b:=by simp[ak]
def ahH{a b:Int}:ak .gtr a b=false↔a<=b:=by simp[ak]
def aoa{a b:Int}:ak .gtr a b=true↔b<a:=by simp[ak]
def LM{a b:Int}:ak .eql a b=true↔a=b:=by simp[ak]
def afP{l:List Bx}{n:Nat}(c:n<=l.length)(p:Int):jK (Fv [] (Lu (l.take n))) p=true↔∃k,k<n/\(Jd l k).2.2.1=p:=by
 rw[Rk];simp only[jK,aeF,false_or,Lu,eJ];constructor
 .rintro⟨b,d,e⟩;obtain⟨k,a,rfl⟩:=(Zx (z:=gI) c).1 d;exact⟨k,a,e⟩
 .rintro⟨k,a,e⟩;exact⟨Jd l k,(Zx (z:=gI) c).2 ⟨k,a,rfl⟩,e⟩
def acO{l:List Bx}{n:Nat}(b:n<=l.length):(Bool.not (ak .gtr (Jd l n).2.2.1 0&&jK (Fv [] (Lu (l.take n))) (Jd l n).2.2.1))=bO (Y6 l n) 0 n:=by
 rw[PT,iW];simp only[Y6,sC,VY];cases d:ak .gtr (Jd l n).2.2.1 0 with
 |false=>exact⟨λ_ _ _ _=>.inl rfl,λ_=>.inl rfl⟩
 |true=>
  constructor
  .intro h m _ a;refine .inr ?_;rcases h with h|h
   .cases h
   .cases c:ak .eql (Jd l m).2.2.1 (Jd l n).2.2.1 with
    |false=>rfl
    |true=>have:=(afP b _).2 ⟨m,by omega,LM.1 c⟩;rw[h]at this;cases this
  .intro h;refine .inr ?_;cases a:jK (Fv [] (Lu (l.take n))) (Jd l n).2.2.1 with
   |false=>rfl
   |true=>
    obtain⟨k,f,e⟩:=(afP b _).1 a;rcases h k (kU _) (by omega)with h|h
    .cases h
    .rw[LM.2 e]at h;cases h
def af6{h:Int}(s:1<=h)(t:h<=24)(l:List Bx)(v:l.length<=1073741824):(bO (okS l) 0 l.length=true/\mS l l.length=h)↔(bO (okI h l) 0 l.length=true/\mS l l.length=h):=by
 have mono:∀(g:∀n,n<l.length->0<=mS l n/\mS l n<=mS l (n+1)) (m n:Nat),m<=n->n<=l.length->mS l m<=mS l n:=by
  intro g m n r b;induction n with
  |zero=>rw[show m=0 by omega];exact LL _
  |succ n d=>
   rcases iA m (n+1)with h|h
   .exact Int.le_trans (d (by omega) (by omega)) (g n (by omega)).2
   .rw[show m=n+1 by omega];exact LL _
 have o:mS l 0=0:=rfl;constructor
 .rintro⟨a,f⟩;rw[iW]at a;simp only[okS,aQ,sC,ada,ahH,kW]at a;have c:∀n,n<=l.length->0<=mS l n/\mS l n<=24:=by
   intro n;induction n with
   |zero=>intro _;rw[o];omega
   |succ n d=>intro b;obtain⟨⟨⟨⟨_,e⟩,_⟩,_⟩,c5⟩:=a n (kU _) (by omega);have:=d (by omega);refine⟨?_,c5⟩;rw[N7 l (by omega),sO (by omega) (by omega)];omega
  have g:∀n,n<l.length->0<=mS l n/\mS l n<=mS l (n+1):=λn b=>by obtain⟨⟨⟨⟨_,e⟩,_⟩,_⟩,c5⟩:=a n (kU _) (by omega);have:=c n (by omega);refine⟨this.1,?_⟩;rw[N7 l b,sO (by omega) (by omega)];omega
  refine⟨?_,f⟩;rw[iW];intro n _ b;obtain⟨⟨⟨⟨i,e⟩,j⟩,k⟩,c5⟩:=a n (kU _) (by omega);unfold okI;rw[acO (by omega),k];have:=c n (by omega);have q:=mono g (n+1) l.length (by omega) (aJ _);rw[f,N7 l (by omega),sO (by omega) (by omega)]at q;rw[vm (by omega) (by omega)];simp only[aQ,sC,ada,kW];exact⟨⟨⟨i,by omega,by omega⟩,j⟩,trivial⟩
 .rintro⟨a,f⟩;rw[iW]at a;have c:∀n,n<=l.length->0<=mS l n/\mS l n<=h:=by
   intro n;induction n with
   |zero=>intro _;rw[o];omega
   |succ n d=>intro b;have p:=d (by omega);have:=a n (kU _) (by omega);unfold okI at this;rw[vm (by omega) (by omega)]at this;simp only[aQ,sC,ada,kW]at this;obtain⟨⟨⟨_,e⟩,_⟩,_⟩:=this;rw[N7 l (by omega),sO (by omega) (by omega)];omega
  refine⟨?_,f⟩;rw[iW];intro n _ b;have p:=c n (by omega);have u:=c (n+1) (by omega);have:=a n (kU _) b;unfold okI at this;rw[acO (by omega),vm (by omega) (by omega)]at this;simp only[aQ,sC,ada,kW]at this;obtain⟨⟨⟨i,e⟩,j⟩,k⟩:=this;unfold okS;simp only[aQ,sC,ada,ahH,kW];exact⟨⟨⟨⟨i,by omega,by omega⟩,j⟩,k⟩,by omega⟩
def WJ(h:Int)(f:List Int):Nat->Bool
 |0=>Jh (f.getD 0 zI) 1 (aa .sub .i64 h 1)
 |n+1=>Jh (f.getD (n+1) zI) 1 (aa .sub .i64 h 1)&&Bool.not (ak .leq (f.getD (n+1) zI) (f.getD n zI))
def foundAt(f:List Int)(l:List Bx)(n:Nat):Bool:=l.any λb=>ak .eql b.1 (f.getD n zI)
def adh(h:Int)(f:List Int)(l:List Bx)(n:Nat)(c:n<f.length)(d:l.length<=1073741824):Qi (h,f,l,(n:Int),()) (false,0,())=some (.inl (foundAt f l n,())):=by
 have:=lc (body:=MR (h,f,l,(n:Int),())) (λk=>((l.take k).any λb=>ak .eql b.1 (f.getD n zI),(k:Int),())) l.length (by omega) (.inl (foundAt f l n,())) (λk a=>?_) ?_
 .exact this
 .unfold MR;rw[Le a gI,List.any_append];simp only[bP,a,c,bu,az,dX,cw,eW (n:=k) (by omega)];cases (l.take k).any λb=>ak .eql b.1 (f.getD n zI)with
  |true=>rfl
  |false=>simp[List.any]
 .unfold MR foundAt;simp only[bP,eL,ct,aW,Kj]
def ZB{n:Nat}(h:n<1099511627776):aa .sub .i64 ((n+1:Nat):Int) 1=(n:Int):=Fj h
def gt1(n:Nat):ak .gtr ((n+1:Nat):Int) 0=true:=by simp only[ak,gt_iff_lt,sR];omega
def Xd(h:Int)(f:List Int)(l:List Bx):Bool:=Jh h 1 24&&((bO (okS l) 0 l.length&&(ak .gtr (bw l) 0&&ak .eql (mS l l.length) h))&&bO (λn=>WJ h f n&&foundAt f l n) 0 f.length)
def Vp(h:Int)(f:List Int)(l:List Bx)(d:f.length<=1073741824)(a:l.length<=1073741824):KY h f l=some (Xd h f l,()):=by
 unfold KY Xd;rw[rp,adg h f l a];simp only[aX];have:Qh (h,f,l,()) (0,())=some (bif bO (λn=>WJ h f n&&foundAt f l n) 0 f.length then(Sum.inr (Sum.inl ()):Bool×Unit⊕(Unit⊕Empty))else .inl (false,())):=by
  refine wN (λn=>((n:Int),())) f.length (by omega) (λn=>WJ h f n&&foundAt f l n) _ _ (λn b=>?_) ?_
  .unfold Qg;simp only[bP,b,bu,az,dX,cw,rp,aX,eW (n:=n) (by omega),adh h f l n b a,NQ];cases n with
   |zero=>unfold WJ;rw[show ak .gtr ((0:Nat):Int) 0=false from rfl];cases Jh (f.getD 0 zI) 1 (aa .sub .i64 h 1) <;> cases foundAt f l 0 <;> rfl
   |succ m=>
    have c:m<f.length:=by omega
    unfold WJ;rw[gt1,ZB (by omega)];simp only[dX,cw,c,bu,az];cases Jh (f.getD (m+1) zI) 1 (aa .sub .i64 h 1) <;> cases ak .leq (f.getD (m+1) zI) (f.getD m zI) <;> cases foundAt f l (m+1) <;> rfl
  .unfold Qg;simp only[bP,eL,ct,aW]
 rw[this];cases Jh h 1 24 with
 |false=>rfl
 |true=>
  simp only[fu,aW,ow];cases (bO (okS l) 0 l.length&&(ak .gtr (bw l) 0&&ak .eql (mS l l.length) h))with
  |false=>rfl
  |true=>simp only[fu,aW,ow];cases bO (λn=>WJ h f n&&foundAt f l n) 0 f.length <;> rfl
def adE(h:Int)(f:List Int)(l:List Bx):Bool:=Jh h 1 24&&(Bool.not (ak .eql (bw l) 0)&&(bO (WJ h f) 0 f.length&&(bO (okI h l) 0 l.length&&(bO (λn=>jK (Fv [] (Y1 l)) (f.getD n zI)) 0 f.length&&ak .eql (mS l l.length) h))))
def Yo(h:Int)(f:List Int)(l:List Bx)(g:f.length<=1073741824)(d:l.length<=1073741824):LD h f l=some (adE h f l,()):=by
 unfold LD adE;rw[bS];simp only[aX];have b:PZ (h,f,l,f,bw f,()) (0,())=some (bif bO (WJ h f) 0 f.length then(Sum.inr (Sum.inl ()):Bool×Unit⊕(Unit⊕Empty))else .inl (false,())):=by
  refine wN (λn=>((n:Int),())) f.length (by omega) (WJ h f) _ _ (λn a=>?_) ?_
  .unfold PX;simp only[bP,a,bu,az,dX,cw,bS,aX,eW (n:=n) (by omega)];cases n with
   |zero=>unfold WJ;rw[show ak .gtr ((0:Nat):Int) 0=false from rfl];cases Jh (f.getD 0 zI) 1 (aa .sub .i64 h 1) <;> rfl
   |succ m=>
    have e:m<f.length:=by omega
    unfold WJ;rw[gt1,ZB (by omega)];simp only[dX,cw,e,bu,az];cases Jh (f.getD (m+1) zI) 1 (aa .sub .i64 h 1) <;> cases ak .leq (f.getD (m+1) zI) (f.getD m zI) <;> rfl
  .unfold PX;simp only[bP,eL,ct,aW]
 have c:P3 (h,f,l,mS l l.length,f,bw f,()) (Fv [] (Y1 l),0,())=some (bif bO (λn=>jK (Fv [] (Y1 l)) (f.getD n zI)) 0 f.length then(Sum.inr (Sum.inl ()):Bool×Unit⊕(Unit⊕Empty))else .inl (false,())):=by
  refine wN (λn=>(Fv [] (Y1 l),(n:Int),())) f.length (by omega) _ _ _ (λn a=>?_) ?_
  .unfold PY;simp only[bP,a,bu,az,dX,cw,eW (n:=n) (by omega)];cases jK (Fv [] (Y1 l)) (f.getD n zI) <;> rfl
  .unfold PY;simp only[bP,eL,ct,aW]
 rw[b,acU h f l d];cases Jh h 1 24 with
 |false=>rfl
 |true=>
  simp only[fu,aW,ow];cases ak .eql (bw l) 0 with
  |true=>rfl
  |false=>
   simp only[aW,kx,ow];cases bO (WJ h f) 0 f.length with
   |false=>rfl
   |true=>
    simp only[az,aX,VW,NQ,ow];cases bO (okI h l) 0 l.length with
    |false=>rfl
    |true=>simp only[az,aX,VW,NQ,ow,c];cases bO (λn=>jK (Fv [] (Y1 l)) (f.getD n zI)) 0 f.length <;> rfl
def ahB(f:List Int)(l:List Bx)(n:Nat):jK (Fv [] (Y1 l)) (f.getD n zI)=foundAt f l n:=by rw[PT,Rk];simp only[jK,aeF,false_or,Y1,foundAt,eJ,qF,LM]
def aeS(h:Int)(f:List Int)(l:List Bx)(p:l.length<=1073741824):Xd h f l=adE h f l:=by
 unfold Xd adE;cases o:Jh h 1 24 with
 |false=>rfl
 |true=>
  obtain⟨q,r⟩:=kW.1 o;have g:=af6 q r l p;have j:Bool.not (ak .eql (bw l) 0)=ak .gtr (bw l) 0:=by
   cases k:ak .gtr (bw l) 0 with
   |true=>
    have:ak .eql (bw l) 0=false:=by rw[vh,ne_eq,LM];have:=aoa.1 k;omega
    rw[this];rfl
   |false=>
    have:ak .eql (bw l) 0=true:=by rw[LM];have:=ahH.1 k;unfold bw at this⊢;omega
    rw[this];rfl
  rw[j];have i:(λn=>jK (Fv [] (Y1 l)) (f.getD n zI))=foundAt f l:=funext λn=>ahB f l n;rw[i,PT];simp only[aQ,LM,iW,ow];simp only[iW]at g;constructor
  .rintro⟨⟨c,d,a⟩,b⟩;obtain⟨e,_⟩:=g.1 ⟨c,a⟩;exact⟨d,λm x y=>(b m x y).1,e,λm x y=>(b m x y).2,a⟩
  .rintro⟨d,b,c,c5,a⟩;obtain⟨e,_⟩:=g.2 ⟨c,a⟩;exact⟨⟨e,d,a⟩,λm x y=>⟨b m x y,c5 m x y⟩⟩
def pu(L:List LK)(i:Nat):LK:=L.getD i br
def adT(l:List Bx)(p:Int):Bool:=l.any λb=>ak .eql b.2.2.1 p
def ajQ(h:Int)(f:List Int)(l:List Bx)(p:Int)(t:l.length<=1073741824):∃r,KS h f l p=some (r,())/\ak .geq r 0=(ak .gtr p 0&&adT l p):=by
 unfold KS;obtain⟨y,i,j⟩:=C2 (body:=KA (p,h,f,l,())) (λn=>((n:Int),())) l.length (by omega) (λn=>Bool.not (ak .eql (l.getD n gI).2.2.1 p&&ak .gtr p 0)) (Sum.inr (Sum.inl ())) (λn=>Sum.inl ((n:Int),())) (λn c=>by
  unfold KA;simp only[bP,dX,c,bu,az,cw,eW (n:=n) (by omega)];cases ak .eql (l.getD n gI).2.2.1 p <;> cases ak .gtr p 0 <;> rfl) (by
  unfold KA;simp only[bP,eL,ct,aW])
 have e:PD (p,h,f,l,()) ((0:Int),())=some y:=i;rw[e];rcases j with ⟨d,rfl⟩|⟨d,n,c,rfl,a⟩
 .refine⟨-1,rfl,?_⟩;rw[iW]at d;show false=_;symm;rw[VY];cases q:ak .gtr p 0 with
  |false=>exact .inl rfl
  |true=>refine .inr ?_;rw[vh];intro o;obtain⟨b,k,m⟩:=qF.1 o;obtain⟨n,c,rfl⟩:=acC.1 k;have:=d n (kU _) (by omega);rw[dG,bR c,aeH,m,q]at this;cases this
 .refine⟨(n:Int),rfl,?_⟩;have g:ak .geq (n:Int) 0=true:=by simp[ak]
  rw[g];symm;have a:(ak .eql (l.getD n gI).2.2.1 p&&ak .gtr p 0)=true:=by
   cases s:(ak .eql (l.getD n gI).2.2.1 p&&ak .gtr p 0)with
   |true=>rfl
   |false=>rw[s]at a;first|cases a|(simp at a)
  rw[aQ]at a⊢;exact⟨a.2,qF.2 ⟨_,J4 c gI,a.1⟩⟩
def R5(L:List LK)(i k n:Nat):Bool:=Bool.not (ak .gtr (Jd (pu L i).2.2 n).2.2.1 0&&adT (pu L k).2.2 (Jd (pu L i).2.2 n).2.2.1)
def NA(L:List LK)(i:Nat):Bool:=Xd (pu L i).1 (pu L i).2.1 (pu L i).2.2&&bO (λk=>bO (R5 L i k) 0 (pu L i).2.2.length) 0 i
def Kb(L:List LK):Bool:=Jh (bw L) 1 6&&bO (NA L) 0 L.length
def L6(L:List LK):Prop:=L.length<=1073741824/\∀c,c∈L->c.2.1.length<=1073741824/\c.2.2.length<=1073741824
def L6.at{L:List LK}(h:L6 L){i:Nat}(a:i<L.length):(pu L i).2.1.length<=1073741824/\(pu L i).2.2.length<=1073741824:=h.2 _ (J4 a _)
def Vb(L:List LK)(c:L6 L):Mf L=some (Kb L,()):=by
 have s:=c.1;unfold Mf Kb;rw[rp];simp only[aX];have m:∀i k,i<L.length->k<i->TR (L,(i:Int),(k:Int),()) (0,())=some (bif bO (R5 L i k) 0 (pu L i).2.2.length then(Sum.inr (Sum.inl ()):Bool×Unit⊕(Unit⊕Empty))else .inl (false,())):=by
  intro i k a e;have b:k<L.length:=by omega
  have o:=(c.at a).2;refine wN (λn=>((n:Int),())) (pu L i).2.2.length (by omega) _ _ _ (λn q=>?_) ?_
  .unfold TO;obtain⟨r,g,h⟩:=ajQ (pu L k).1 (pu L k).2.1 (pu L k).2.2 (Jd (pu L i).2.2 n).2.2.1 (c.at b).2;have d:KS (L.getD k br).1 (L.getD k br).2.1 (L.getD k br).2.2 ((L.getD i br).2.2.getD n gI).2.2.1=some (r,()):=g;have f:n<(L.getD i br).2.2.length:=q;simp only[dX,a,b,bu,az,cw,bP,f,d,aX,h,eW (n:=n) (by omega)];unfold R5;cases (ak .gtr (Jd (pu L i).2.2 n).2.2.1 0&&adT (pu L k).2.2 (Jd (pu L i).2.2 n).2.2.1) <;> rfl
  .unfold TO;have:¬((pu L i).2.2.length<(L.getD i br).2.2.length):=eL _;simp only[dX,a,bu,az,cw,bP,this,ct,aW]
 have l:∀i,i<L.length->TQ (L,(i:Int),()) (0,())=some (bif bO (λk=>bO (R5 L i k) 0 (pu L i).2.2.length) 0 i then(Sum.inr (Sum.inl ()):Bool×Unit⊕(Unit⊕Empty))else .inl (false,())):=by
  intro i a;refine wN (λn=>((n:Int),())) i (by omega) _ _ _ (λk e=>?_) ?_
  .unfold TN;simp only[EG,e,bu,az,m i k a e,aX,eW (n:=k) (by omega)];cases bO (R5 L i k) 0 (pu L i).2.2.length <;> rfl
  .unfold TN;simp only[EG,eL,ct,aW]
 have j:TP (L,()) (0,())=some (bif bO (NA L) 0 L.length then(Sum.inr (Sum.inl ()):Bool×Unit⊕(Unit⊕Empty))else .inl (false,())):=by
  refine wN (λn=>((n:Int),())) L.length (by omega) _ _ _ (λi a=>?_) ?_
  .unfold TM NA;have p:KY (L.getD i br).1 (L.getD i br).2.1 (L.getD i br).2.2=some (Xd (pu L i).1 (pu L i).2.1 (pu L i).2.2,()):=Vp _ _ _ (c.at a).1 (c.at a).2;simp only[bP,dX,a,bu,az,cw,p,aX,l i a,eW (n:=i) (by omega)];cases Xd (pu L i).1 (pu L i).2.1 (pu L i).2.2 with
   |false=>rfl
   |true=>cases bO (λk=>bO (R5 L i k) 0 (pu L i).2.2.length) 0 i <;> rfl
  .unfold TM;simp only[bP,eL,ct,aW]
 rw[j];cases Jh (bw L) 1 6 with
 |false=>rfl
 |true=>cases bO (NA L) 0 L.length <;> rfl
def Mc(L:List LK)(i:Nat):List Int:=((L.take i).map λc=>Lu c.2.2).flatten
def aee{L:List LK}{i:Nat}(h:i<L.length):Mc L (i+1)=Mc L i++Lu (pu L i).2.2:=by unfold Mc pu;rw[Le h br,Tj,aaY];simp
def afe(m:List (Int×Bool))(a b:List Int):Fv m (a++b)=Fv (Fv m a) b:=ZK
def aaw(L:List LK)(i n:Nat):Bool:=Bool.not (ak .gtr (Jd (pu L i).2.2 n).2.2.1 0&&jK (Fv (Fv [] (Mc L i)) (Lu ((pu L i).2.2.take n))) (Jd (pu L i).2.2 n).2.2.1)
def XK(L:List LK)(i:Nat):Bool:=adE (pu L i).1 (pu L i).2.1 (pu L i).2.2&&bO (aaw L i) 0 (pu L i).2.2.length
def acT(L:List LK)(c:L6 L):KL L=some (Jh (bw L) 1 6&&bO (XK L) 0 L.length,()):=by
 have j:=c.1;unfold KL;rw[bS];simp only[aX];have g:∀i,i<L.length->Tq (L,bw L,(i:Int),(pu L i).2.2,bw (pu L i).2.2,()) (Fv [] (Mc L i),0,())=some (bif bO (aaw L i) 0 (pu L i).2.2.length then(Sum.inr (Sum.inl (Fv [] (Mc L (i+1)),())):Bool×Unit⊕((List (Int×Bool))×Unit⊕Empty))else .inl (false,())):=by
  intro i a;have k:=(c.at a).2;have:=wN (body:=Ot (L,bw L,(i:Int),(pu L i).2.2,bw (pu L i).2.2,())) (λn=>(Fv (Fv [] (Mc L i)) (Lu ((pu L i).2.2.take n)),(n:Int),())) (pu L i).2.2.length (by omega) (aaw L i) (Sum.inr (Sum.inl (Fv [] (Mc L (i+1)),()))) (Sum.inl (false,())) (λn d=>?_) ?_
  .exact this
  .unfold Ot aaw;have e:Fv (Fv [] (Mc L i)) (Lu ((pu L i).2.2.take (n+1)))=qf (Fv (Fv [] (Mc L i)) (Lu ((pu L i).2.2.take n))) (Jd (pu L i).2.2 n).2.2.1 true:=by unfold Lu Jd;rw[Le d gI,Tj];exact XD _ _ _
   simp only[bP,dX,d,bu,az,cw,eW (n:=n) (by omega),e];show(bif ak .gtr (Jd (pu L i).2.2 n).2.2.1 0 then(bif jK (Fv (Fv [] (Mc L i)) (Lu ((pu L i).2.2.take n))) (Jd (pu L i).2.2 n).2.2.1 then _ else _)else _)=_;cases ak .gtr (Jd (pu L i).2.2 n).2.2.1 0 with
   |false=>rfl
   |true=>cases jK (Fv (Fv [] (Mc L i)) (Lu ((pu L i).2.2.take n))) (Jd (pu L i).2.2 n).2.2.1 <;> rfl
  .unfold Ot;simp only[bP,eL,ct,aW,Kj,aee a,afe]
 have f:Tp (L,bw L,()) ([],0,())=some (bif bO (XK L) 0 L.length then(Sum.inr (Sum.inl ()):Bool×Unit⊕(Unit⊕Empty))else .inl (false,())):=by
  refine wN (λn=>(Fv [] (Mc L n),(n:Int),())) L.length (by omega) _ _ _ (λi a=>?_) ?_
  .unfold To XK;have h:LD (L.getD i br).1 (L.getD i br).2.1 (L.getD i br).2.2=some (adE (pu L i).1 (pu L i).2.1 (pu L i).2.2,()):=Yo _ _ _ (c.at a).1 (c.at a).2;have b:=g i a;unfold pu at b;simp only[bP,dX,a,bu,az,cw,h,aX,b,eW (n:=i) (by omega)];cases adE (pu L i).1 (pu L i).2.1 (pu L i).2.2 with
   |false=>rfl
   |true=>show(bif Bool.not true then _ else(some (bif bO (aaw L i) 0 (pu L i).2.2.length then _ else _)).bind _)=_;cases bO (aaw L i) 0 (pu L i).2.2.length <;> rfl
  .unfold To;simp only[bP,eL,ct,aW]
 rw[f];cases Jh (bw L) 1 6 with
 |false=>rfl
 |true=>cases bO (XK L) 0 L.length <;> rfl
def adU{l:List Bx}{p:Int}:adT l p=true↔p∈Lu l:=by simp only[adT,Lu,qF,eJ,LM]
def aby{L:List LK}{i:Nat}(d:i<=L.length)(p:Int):p∈Mc L i↔∃k,k<i/\p∈Lu (pu L k).2.2:=by
 unfold Mc;simp only[xQ,eJ];constructor
 .rintro⟨l,⟨c,e,rfl⟩,b⟩;obtain⟨k,a,rfl⟩:=(Zx (z:=br) d).1 e;exact⟨k,a,b⟩
 .rintro⟨k,a,b⟩;exact⟨_,⟨pu L k,(Zx (z:=br) d).2 ⟨k,a,rfl⟩,rfl⟩,b⟩
def af3(L:List LK)(l:L6 L){i:Nat}(j:i<L.length):NA L i=XK L i:=by
 unfold NA XK;rw[aeS _ _ _ (l.at j).2];cases d:adE (pu L i).1 (pu L i).2.1 (pu L i).2.2 with
 |false=>rfl
 |true=>
  simp only[ow];have a:∀n,n<(pu L i).2.2.length->bO (Y6 (pu L i).2.2 n) 0 n=true:=by rw[<-aeS _ _ _ (l.at j).2]at d;unfold Xd at d;simp only[aQ]at d;intro n e;have:=(iW _ _).1 d.2.1.1 n (kU _) (by omega);unfold okS at this;simp only[aQ]at this;exact this.1.2
  rw[PT,iW,iW];constructor
  .intro h n _ e;unfold aaw;rw[sC,VY];cases g:ak .gtr (Jd (pu L i).2.2 n).2.2.1 0 with
   |false=>exact .inl rfl
   |true=>
    refine .inr ?_;cases b:jK (Fv (Fv [] (Mc L i)) (Lu ((pu L i).2.2.take n))) (Jd (pu L i).2.2 n).2.2.1 with
    |false=>rfl
    |true=>
     exfalso;rcases(Rk _ _ _).1 b with b|b
     .have:=(Rk _ _ _).1 b;simp only[jK,aeF,false_or]at this;obtain⟨k,m,f⟩:=(aby (by omega) _).1 this;have:=h k (kU _) (by omega);have:=(iW _ _).1 this n (kU _) e;unfold R5 at this;rw[g,adU.2 f]at this;cases this
     .have hd:=a n (by omega);rw[<-acO (by omega),g]at hd;have:jK (Fv [] (Lu ((pu L i).2.2.take n))) (Jd (pu L i).2.2 n).2.2.1=true:=(Rk _ _ _).2 (.inr b);rw[this]at hd;cases hd
  .intro h k _ m;rw[iW];intro n _ e;have:=h n (kU _) e;unfold aaw at this;unfold R5;rw[sC,VY]at this⊢;rcases this with c|c
   .exact .inl c
   .refine .inr ?_;cases f:adT (pu L k).2.2 (Jd (pu L i).2.2 n).2.2.1 with
    |false=>rfl
    |true=>have:jK (Fv (Fv [] (Mc L i)) (Lu ((pu L i).2.2.take n))) (Jd (pu L i).2.2 n).2.2.1=true:=(Rk _ _ _).2 (.inl ((Rk _ _ _).2 (.inr ((aby (by omega) _).2 ⟨k,by omega,adU.1 f⟩))));rw[this]at c;cases c
def UJ(L:List LK)(a:L6 L):KL L=some (Kb L,()):=by rw[acT L a];unfold Kb;rw[sD L.length 0 λm _ b=>af3 L a (by omega)]
def Sm{α:Type}(P:α->Prop)(x y:Option α):Prop:=∃r,x=some r/\y=some r/\P r
section
variable {α β:Type}{P:α->Prop}{Q:β->Prop}
def Sm.ret{a:α}(h:P a):Sm P (some a) (some a):=⟨a,rfl,rfl,h⟩
def Sm.bind{x y:Option α}{f g:α->Option β}(b:Sm P x y)(h:∀r,P r->Sm Q (f r) (g r)):Sm Q (x.bind f) (y.bind g):=by obtain⟨r,rfl,rfl,a⟩:=b;exact h r a
def Sm.cond{b:Bool}{x y x' y':Option α}(a:b=true->Sm P x x')(c:b=false->Sm P y y'):Sm P (bif b then x else y) (bif b then x' else y'):=by
 cases b
 .exact c rfl
 .exact a rfl
def Sm.guard{b c:Bool}{x y:Option α}(a:b=true)(d:c=true)(h:Sm P x y):Sm P (bif b then x else none) (bif c then y else none):=by subst a d;exact h
def Sm.mono{a:α->Prop}{x y:Option α}(h:Sm P x y)(d:∀r,P r->a r):Sm a x y:=by obtain⟨r,b,c,e⟩:=h;exact⟨r,b,c,d r e⟩
def Sm.symm{x y:Option α}(h:Sm P x y):Sm P y x:=by obtain⟨r,a,b,c⟩:=h;exact⟨r,b,a,c⟩
def VR{X Y:Type}{body body':X->Option (X⊕Y)}(c:X->Prop)(m:X->Nat){Q:Y->Prop}(h:∀x,c x->Sm (λr=>match r with |.inl a=>c a/\m a<m x |.inr b=>Q b) (body x) (body' x)):∀(d:Nat) (x:X),c x->m x<d->Sm Q (iter body d x) (iter body' d x)
 |0,x,_,i=>absurd i (vI _)
 |d+1,x,j,i=>by
  obtain⟨r,f,g,e⟩:=h x j;cases r with
  |inl a=>rw[fz f,fz g];exact VR c m h d a e.1 (by have:=e.2;omega)
  |inr b=>exact⟨b,cJ f,cJ g,e⟩
end
def TL {B Y:Type} {body body':B×Int×Unit->Option ((B×Int×Unit)⊕Y)} (len:Nat) (j:len<=1073741824) {Q:Y->Prop} (I:Nat->B->Prop)
  (o:∀b n,n<len->I n b->Sm (λr=>match r with |.inl a=>I (n+1) a.1/\a.2.1=((n+1:Nat):Int) |.inr y=>Q y) (body (b,(n:Int),())) (body' (b,(n:Int),()))) (l:∀b,I len b->Sm (λr=>match r with |.inl a=>False |.inr y=>Q y) (body (b,(len:Int),())) (body' (b,(len:Int),()))) (b:B) (k:I 0 b):Sm Q (iter body big (b,0,())) (iter body' big (b,0,())):=by
 refine VR (λx=>I x.2.1.toNat x.1/\0<=x.2.1/\x.2.1<=(len:Int)) (λx=>((len:Int)-x.2.1).toNat) (λx p=>?_) big (b,0,()) ⟨k,LL _,by show(0:Int)<=(len:Int);omega⟩ (i7 (by show((len:Int)-0).toNat<_;omega));obtain⟨b,i,u⟩:=x;obtain⟨d,f,g⟩:=p;have f:0<=i:=f;have g:i<=(len:Int):=g;obtain⟨n,rfl⟩:∃n:Nat,i=(n:Int):=⟨i.toNat,by omega⟩
 have d:I n b:=d;by_cases h:n<len
 .refine(o b n h d).mono λr c=>?_;cases r with
  |inr y=>exact c
  |inl a=>obtain⟨q,e⟩:=c;refine⟨⟨by rw[e];exact q,by rw[e];omega,by rw[e];omega⟩,?_⟩;show((len:Int)-a.2.1).toNat<((len:Int)-(n:Int)).toNat;rw[e];omega
 .have m:n=len:=by omega
  subst m;refine(l b d).mono λr c=>?_;cases r with
  |inl a=>exact c.elim
  |inr y=>exact c
def agz {B Y:Type} {body c:B×Int×Unit->Option ((B×Int×Unit)⊕Y)} (len:Nat) (d:len<=1073741824) {Q:Y->Prop} (I:B->Prop)
  (g:∀b n,n<len->I b->Sm (λr=>match r with |.inl a=>I a.1/\a.2.1=((n+1:Nat):Int) |.inr y=>Q y) (body (b,(n:Int),())) (c (b,(n:Int),()))) (f:∀b,I b->Sm (λr=>match r with |.inl a=>False |.inr y=>Q y) (body (b,(len:Int),())) (c (b,(len:Int),()))) (b:B) (e:I b):Sm Q (iter body big (b,0,())) (iter c big (b,0,())):=TL len d (λ_=>I) g f b e
def aeh {Y:Type} {body b:Int×Unit->Option ((Int×Unit)⊕Y)} (len:Nat) (l:len<=1073741824) (F:Nat->Prop) {Q:Y->Prop}
  (q:∀n,n<len->Sm (λr=>match r with |.inl a=>a.1=((n+1:Nat):Int)/\F n |.inr y=>Q y) (body ((n:Int),())) (b ((n:Int),()))) (o:(∀n,n<len->F n)->Sm (λr=>match r with |.inl a=>False |.inr y=>Q y) (body ((len:Int),())) (b ((len:Int),()))):Sm Q (iter body big (0,())) (iter b big (0,())):=by
 refine VR (λx=>0<=x.1/\x.1<=(len:Int)/\∀m:Nat,(m:Int)<x.1->F m) (λx=>((len:Int)-x.1).toNat) (λx s=>?_) big (0,()) ⟨LL _,by show(0:Int)<=(len:Int);omega,λm c=>by have c:(m:Int)<0:=c;omega⟩ (i7 (by show((len:Int)-0).toNat<_;omega));obtain⟨i,u⟩:=x;obtain⟨j,k,e⟩:=s;have j:0<=i:=j;have k:i<=(len:Int):=k;have e:∀m:Nat,(m:Int)<i->F m:=e;obtain⟨n,rfl⟩:∃n:Nat,i=(n:Int):=⟨i.toNat,by omega⟩
 by_cases h:n<len
 .refine(q n h).mono λr d=>?_;cases r with
  |inr y=>exact d
  |inl a=>
   obtain⟨f,t⟩:a.1=((n+1:Nat):Int)/\F n:=d;refine⟨⟨by rw[f];omega,by rw[f];omega,λm c=>?_⟩,?_⟩
   .rw[f]at c;rcases iA m n with g|g
    .exact e m (by omega)
    .rw[show m=n by omega];exact t
   .show((len:Int)-a.1).toNat<((len:Int)-(n:Int)).toNat;rw[f];omega
 .have p:n=len:=by omega
  subst p;refine(o λm c=>e m (by omega)).mono λr d=>?_;cases r with
  |inl a=>exact d.elim
  |inr y=>exact d
abbrev Any{α:Type}:α->Prop:=λ_=>True
def aek{α:Type}{x y:Option α}{a:α}(b:x=some a)(c:y=some a):Sm (λr=>r=a) x y:=⟨a,b,c,rfl⟩
def Za(a lo hi:Int):Sm (λr=>r=(Jh a lo hi,())) (dr a lo hi) (eb a lo hi):=aek (rp a lo hi) (bS a lo hi)
def ahq:∀(k:Fin 3) (t:Fin 7) (a b c:Bool),Jr ((k.val:Nat):Int) ((t.val:Nat):Int) a b c=Gn ((k.val:Nat):Int) ((t.val:Nat):Int) a b c/\(Gn ((k.val:Nat):Int) ((t.val:Nat):Int) a b c).isSome=true:=by decide +kernel
def afC(k t:Int)(a b c:Bool):Sm (λr=>r.1=true->0<=k/\k<=2) (Jr k t a b c) (Gn k t a b c):=by
 cases d:Jh k 0 2 with
 |false=>
  refine⟨(false,()),?_,?_,λh=>by cases h⟩
  .unfold Jr;rw[rp,d];rfl
  .unfold Gn;rw[bS,d];rfl
 |true=>
  obtain⟨f,i⟩:=kW.1 d;cases e:Jh t 0 6 with
  |false=>
   refine⟨(false,()),?_,?_,λh=>by cases h⟩
   .unfold Jr;rw[rp,d,rp,e];rfl
   .unfold Gn;rw[bS,d,bS,e];rfl
  |true=>obtain⟨j,l⟩:=kW.1 e;have:=ahq ⟨k.toNat,by omega⟩ ⟨t.toNat,by omega⟩ a b c;simp only[acI f,acI j]at this;obtain⟨r,g⟩:=vK.1 this.2;exact⟨r,this.1.trans g,g,λ_=>⟨f,i⟩⟩
def aiW(a b c d e:Int):Sm Any (KQ a b c d e) (Kl a b c d e):=by unfold KQ Kl Js Jt;simp only[rp,bS,aX];cases Jh a 1 2147483646 <;> cases Jh b 0 1000001 <;> cases Jh c 0 2 <;> cases Jh d 0 6 <;> exact .ret trivial
def adR(a b c d e f:Int)(o:Bool):Sm Any (Lv a b c d e f o) (JY a b c d e f o):=by unfold Lv JY Jf Is M1 Je;simp only[rp,bS,aX];cases Jh a 1 40 <;> cases Jh b 1 40 <;> cases ak .neq a b <;> cases Jh c 0 999 <;> cases Jh d 0 5 <;> cases Jh e 0 20000 <;> cases Jh f 0 20000 <;> exact .ret trivial
def grV(x:PM):Bool:=match JY x.1 x.2.1 x.2.2.1 x.2.2.2.1 x.2.2.2.2.1 x.2.2.2.2.2.1 x.2.2.2.2.2.2 with|some r=>r.1|none=>false
def abe(x:PM):Lv x.1 x.2.1 x.2.2.1 x.2.2.2.1 x.2.2.2.2.1 x.2.2.2.2.2.1 x.2.2.2.2.2.2=some (grV x,())/\JY x.1 x.2.1 x.2.2.1 x.2.2.2.1 x.2.2.2.2.1 x.2.2.2.2.2.1 x.2.2.2.2.2.2=some (grV x,()):=by
 obtain⟨r,b,a,_⟩:=adR x.1 x.2.1 x.2.2.1 x.2.2.2.1 x.2.2.2.2.1 x.2.2.2.2.2.1 x.2.2.2.2.2.2;have:grV x=r.1:=by unfold grV;rw[a]
 rw[this];exact⟨b,a⟩
def ace(g:List PM)(j:g.length<=1073741824):Sm Any (Nz g) (JZ g):=by
 unfold Nz JZ xo D3;have i:Qk (g,()) (0,())=some (bif bO (λn=>grV (g.getD n kC)) 0 g.length then(Sum.inr (Sum.inl ()):Bool×Unit⊕(Unit⊕Empty))else .inl (false,())):=by
  refine wN (λn=>((n:Int),())) g.length (by omega) _ _ _ (λn a=>?_) ?_
  .unfold Qj;simp only[bP,dX,a,bu,az,cw,(abe _).1,aX,eW (n:=n) (by omega)];cases grV (g.getD n kC) <;> rfl
  .unfold Qj;simp only[bP,eL,ct,aW]
 obtain⟨y,f,h⟩:=C2 (body:=qb (g,bw g,())) (λn=>((n:Int),())) g.length (by omega) (λn=>grV (g.getD n kC)) (Sum.inr (Sum.inl ())) (λn=>Sum.inl ((n:Int),())) (λn a=>by
  unfold qb Rs;simp only[bP,dX,a,bu,az,cw,(abe _).2,aX,eW (n:=n) (by omega)];cases grV (g.getD n kC) <;> rfl) (by
  unfold qb;simp only[bP,eL,ct,aW])
 have c:zg (g,bw g,()) ((0:Int),())=some y:=f;rw[i,c];have d:ak .leq (bw g) (30:Int)=Bool.not (ak .gtr (bw g) 30):=aiV _ _;rw[d];cases ak .gtr (bw g) (30:Int)with
 |true=>exact .ret trivial
 |false=>
  simp only[kx,az,aW];rcases h with ⟨b,rfl⟩|⟨b,n,a,rfl,_⟩
  .rw[b];exact⟨(true,()),rfl,rfl,trivial⟩
  .rw[b];have e:ak .geq (n:Int) 0=true:=by simp[ak]
   refine⟨(false,()),rfl,?_,trivial⟩;show some (Bool.not (ak .geq (n:Int) 0),())=_;rw[e];rfl
section
variable (a0 a1 a2 a3 a4 a5 a6 a7 a8 a9 a10:Int)(s:List Site)(p:List Oc)(g:List PM)(j:List Ev)
def PU{x:Site}(h:Np 1073741824 x):L6 x.2.2.1:=⟨h.b,λc b=>by obtain⟨n,a,rfl⟩:=acC.1 b;have:=h.bs n a;rw[dG,bR a]at this;exact this⟩
def aje(o c:List M8):Sm Any (KR o c) (Kn o c):=⟨_,Me o c,Lm o c,trivial⟩
def aiw{L:List LK}(h:L6 L):Sm (λr=>r.1=true->Kb L=true) (Mf L) (KL L):=⟨_,Vb L h,UJ L h,λh=>h⟩
structure aaq (p:List Oc) (x:Site):Prop where
 ZM:Kb x.2.2.1=true
 door:Gn x.2.2.2.1 x.2.2.2.2.1 x.2.2.2.2.2.1 x.2.2.2.2.2.2.1 x.2.2.2.2.2.2.2.1=some (true,())
 jr:SR x.2.2.2.2.2.2.2.2.2.2=true
 idle:x.2.2.2.2.2.2.2.2.1=0->x.2.2.2.1=0
 busy:x.2.2.2.2.2.2.2.2.1≠0->(1<=x.2.2.2.2.2.2.2.2.1/\x.2.2.2.2.2.2.2.2.1<=p.length)/\(x.2.2.2.1=1\/x.2.2.2.1=2)/\0<=x.2.2.2.2.2.2.2.2.2.1
def ai4(k:Nat)(z:k<s.length)(A:Np 1073741824 (s.getD k bl))(J:p.length<=1048576):Sm (λr=>r.1=true->aaq p (s.getD k bl)) (PL a0 a1 a2 a3 a4 a5 a6 a7 a8 a9 a10 s p g j (k:Int)) (US a0 a1 a2 a3 a4 a5 a6 a7 a8 a9 a10 s p g j (k:Int)):=by
 unfold PL US;refine .guard (Di z) (Di z) ?_;simp only[cw];have E:s.getD k ax=s.getD k bl:=rfl;rw[E];generalize s.getD k bl=x at A;have no:∀ {Q:Prop},((false:Bool),()).1=true->Q:=λh=>by cases h
 refine(aje x.1 x.2.1).bind λr _=>.cond (λ_=>.ret no) λ_=>?_;refine(aiw (PU A)).bind λr a=>.cond (λ_=>.ret no) λb=>?_;have d:Kb x.2.2.1=true:=a (by cases h:r.1 with|true=>rfl|false=>rw[h]at b;cases b);obtain⟨⟨C,_⟩,D,o,a⟩:=afC x.2.2.2.1 x.2.2.2.2.1 x.2.2.2.2.2.1 x.2.2.2.2.2.2.1 x.2.2.2.2.2.2.2.1;rw[D,o];simp only[aX];refine .cond (λ_=>.ret no) λb=>?_;have u:C=true:=by cases C with|true=>rfl|false=>cases b
 subst u;have c:=a rfl;refine(aek (XG x.2.2.2.2.2.2.2.2.2.2) (Xi x.2.2.2.2.2.2.2.2.2.2)).bind λr a=>.cond (λ_=>.ret no) λi=>?_;subst a;have w:SR x.2.2.2.2.2.2.2.2.2.2=true:=by cases h:SR x.2.2.2.2.2.2.2.2.2.2 with|true=>rfl|false=>rw[h]at i;cases i
 refine .cond (λn=>?_) λn=>?_
 .simp only[jE];exact .cond (λv=>.ret λ_=>⟨d,o,w,λ_=>(by simp only[aQ]at v;exact LM.1 v.1),λh=>absurd (LM.1 n) h⟩) λ_=>.ret no
 .have t:x.2.2.2.2.2.2.2.2.1≠0:=λh=>by rw[LM.2 h]at n;cases n
  refine(Za x.2.2.2.2.2.2.2.2.1 1 (bw p)).bind λr a=>.cond (λ_=>.ret no) λb=>?_;subst a;have q:Jh x.2.2.2.2.2.2.2.2.1 1 (bw p)=true:=by cases h:Jh x.2.2.2.2.2.2.2.2.1 1 (bw p)with|true=>rfl|false=>rw[h]at b;cases b
  obtain⟨F,B⟩:=kW.1 q;unfold bw at B;have m:aa .sub .i64 x.2.2.2.2.2.2.2.2.1 1=x.2.2.2.2.2.2.2.2.1-1:=vm (by omega) (by omega);rw[m];have a:aZ p (x.2.2.2.2.2.2.2.2.1-1)=true:=XP (by omega) (by omega);rw[a];simp only[az];refine .cond (λ_=>.ret no) λ_=>.cond (λ_=>.ret no) λ_=>?_;obtain⟨K,L⟩:=c;unfold dr Is;simp only[bS];have f:x.2.2.2.1=0\/x.2.2.2.1=1\/x.2.2.2.1=2:=by omega
  have fin:(x.2.2.2.1=1\/x.2.2.2.1=2)->0<=x.2.2.2.2.2.2.2.2.2.1->aaq p x:=λG H=>⟨d,o,w,λh=>absurd h t,λ_=>⟨⟨F,B⟩,G,H⟩⟩
  rcases f with f|f|f <;> rw[f]at fin⊢
  .exact .ret no
  .show Sm _ (bif ak .eql x.2.2.2.2.2.2.2.2.2.1 0 then _ else _) (bif ak .eql x.2.2.2.2.2.2.2.2.2.1 0 then _ else _);cases l:ak .eql x.2.2.2.2.2.2.2.2.2.1 0 with
   |true=>exact .ret λ_=>fin (.inl rfl) (by rw[LM.1 l];exact LL _)
   |false=>exact .ret no
  .show Sm _ (dr x.2.2.2.2.2.2.2.2.2.1 0 40 |>.bind _) (bif ak .eql x.2.2.2.2.2.2.2.2.2.1 0 then _ else(some (Jh x.2.2.2.2.2.2.2.2.2.1 1 40,())).bind λy=>some (y.1,()));rw[rp];cases l:ak .eql x.2.2.2.2.2.2.2.2.2.1 0 with
   |true=>have:x.2.2.2.2.2.2.2.2.2.1=0:=LM.1 l;rw[this];exact⟨(true,()),rfl,rfl,λ_=>fin (.inr rfl) (by rw[this];exact LL _)⟩
   |false=>
    have I:x.2.2.2.2.2.2.2.2.2.1≠0:=λe=>by rw[LM.2 e]at l;cases l
    have:Jh x.2.2.2.2.2.2.2.2.2.1 0 40=Jh x.2.2.2.2.2.2.2.2.2.1 1 40:=by rw[PT,kW,kW];omega
    rw[this];exact⟨_,rfl,rfl,λh=>fin (.inr rfl) (by have:=(kW.1 h).1;omega)⟩
def aco(a:Int):Sm (λr=>r=(Jh a 1 40,())) (Jf a) (Is a):=by unfold Jf Is;rw[rp,bS];exact .ret rfl
def agB(n:Int):Sm Any (J0 a0 a1 a2 a3 a4 a5 a6 a7 a8 a9 a10 s p g j n) (Km a0 a1 a2 a3 a4 a5 a6 a7 a8 a9 a10 s p g j n):=by obtain⟨y,a,b⟩:=agA a0 a1 a2 a3 a4 a5 a6 a7 a8 a9 a10 s p g j n;exact⟨_,a,b,trivial⟩
def aaz(x:Oc)(k:Nat)(c:k<p.length)(d:p.getD k aS=x)(a:0<=x.2.2.1)(b:x.2.2.1<s.length):Sm (λr=>r.1=true->x.2.2.2.1≠4) (Ld a0 a1 a2 a3 a4 a5 a6 a7 a8 a9 a10 s p g j (k:Int)) (Lx a0 a1 a2 a3 a4 a5 a6 a7 a8 a9 a10 s p g j x.1 x.2.1 x.2.2.1 x.2.2.2.1 x.2.2.2.2.1 x.2.2.2.2.2.1 x.2.2.2.2.2.2.1 x.2.2.2.2.2.2.2.1 x.2.2.2.2.2.2.2.2.1 x.2.2.2.2.2.2.2.2.2.1 x.2.2.2.2.2.2.2.2.2.2.1 x.2.2.2.2.2.2.2.2.2.2.2.1 x.2.2.2.2.2.2.2.2.2.2.2.2):=by unfold Ld Lx;rw[Di c,cw,d,XP a b];simp only[az];exact .cond (λh=>.ret λ_=>by have:=LM.1 h;omega) λ_=>.cond (λh=>.ret λ_=>by have:=LM.1 h;omega) λ_=>.cond (λh=>.ret λ_=>by have:=LM.1 h;omega) λ_=>.ret λh=>by cases h
def agv(k:Nat)(e:k<p.length)(t:s.length<=1048576):Sm (λr=>r.1=true->(0<=(p.getD k aS).2.2.1/\(p.getD k aS).2.2.1<s.length)/\((p.getD k aS).2.2.2.1=4->1<=(p.getD k aS).2.2.2.2.2.2.2.2.2.2.2.1/\(p.getD k aS).2.2.2.2.2.2.2.2.2.2.2.1<=40)) (M3 a0 a1 a2 a3 a4 a5 a6 a7 a8 a9 a10 s p g j (k:Int)) (QE a0 a1 a2 a3 a4 a5 a6 a7 a8 a9 a10 s p g j (k:Int)):=by
 unfold M3 QE;refine .guard (Di e) (Di e) ?_;simp only[cw];generalize q:p.getD k aS=x;have no:∀ {Q:Prop},((false:Bool),()).1=true->Q:=λh=>by cases h
 refine(Za x.1 1 24).bind λr _=>.cond (λ_=>.ret no) λ_=>?_;refine(aco x.2.1).bind λr _=>.cond (λ_=>.ret no) λ_=>?_;refine(Za x.2.2.1 0 (aa .sub .i64 (bw s) 1)).bind λr f=>.cond (λ_=>.ret no) λm=>?_;subst f;have d:Jh x.2.2.1 0 (aa .sub .i64 (bw s) 1)=true:=by cases h:Jh x.2.2.1 0 (aa .sub .i64 (bw s) 1)with|true=>rfl|false=>rw[h]at m;cases m
 obtain⟨b,a⟩:=kW.1 d;rw[vm (by unfold bw;omega) (by unfold bw;omega)]at a;have a:x.2.2.1<s.length:=by unfold bw at a;omega
 refine(Za x.2.2.2.1 0 5).bind λr _=>.cond (λ_=>.ret no) λ_=>?_;refine .cond (λ_=>.guard (XP b a) (XP b a) (.cond (λ_=>.ret no) λ_=>?_)) λ_=>?_;all_goals
  refine(aaz a0 a1 a2 a3 a4 a5 a6 a7 a8 a9 a10 s p g j x k e q b a).bind λr i=>.cond (λl=>?_) λ_=>?_
  .refine .cond (λ_=>.cond (λ_=>.cond (λ_=>.cond (λ_=>?_) λ_=>.ret no) λ_=>.ret no) λ_=>.ret no) λ_=>.ret no;simp only[jE];exact .ret λ_=>⟨⟨b,a⟩,λc=>absurd c (i l)⟩
  .refine(Za x.2.2.2.2.1 0 a10).bind λr _=>.cond (λ_=>.ret no) λ_=>?_;refine(Za x.2.2.2.2.2.1 0 a7).bind λr _=>.cond (λ_=>.ret no) λ_=>?_;refine(aiW x.2.2.2.2.2.2.1 x.2.2.2.2.2.2.2.1 x.2.2.2.2.2.2.2.2.1 x.2.2.2.2.2.2.2.2.2.1 x.2.2.2.2.2.2.2.2.2.2.1).bind λr _=>.cond (λ_=>.ret no) λ_=>?_;refine(agB a0 a1 a2 a3 a4 a5 a6 a7 a8 a9 a10 s p g j (aa .add .i64 (k:Int) 1)).bind λr _=>.cond (λ_=>.ret no) λ_=>?_;refine .cond (λ_=>?_) λc=>?_
   .refine(aco x.2.2.2.2.2.2.2.2.2.2.2.1).bind λr f=>.cond (λo=>?_) λ_=>.ret no;subst f;exact(Za x.2.2.2.2.2.2.2.2.2.2.2.2 0 (aa .add .i64 a4 (aa .mul .i64 a6 a7))).bind λr _=>.ret λ_=>⟨⟨b,a⟩,λ_=>kW.1 o⟩
   .exact .cond (λ_=>.ret λ_=>⟨⟨b,a⟩,λn=>by rw[LM.2 n]at c;cases c⟩) λ_=>.ret no
def afK(h:p.length<=1048576)(f:∀k,k<p.length->0<=(p.getD k aS).2.2.1/\(p.getD k aS).2.2.1<s.length):Sm Any (PK a0 a1 a2 a3 a4 a5 a6 a7 a8 a9 a10 s p g j) (Rh a0 a1 a2 a3 a4 a5 a6 a7 a8 a9 a10 s p g j):=by
 unfold PK Rh;refine(agz (B:=Int) (Q:=Any) p.length (by omega) (λ_=>True) (λb n a _=>?_) (λb _=>?_) (0:Int) trivial).bind λq _=>?_
 .unfold RT Tw;simp only[bP,dX,a,bu,az,cw,eW (n:=n) (by omega)];obtain⟨c,d⟩:=f n a;refine .cond (λ_=>?_) λ_=>.ret ⟨trivial,rfl⟩;refine(aaz a0 a1 a2 a3 a4 a5 a6 a7 a8 a9 a10 s p g j (p.getD n aS) n a rfl c d).bind λr _=>.cond (λ_=>.ret ⟨trivial,rfl⟩) λ_=>.ret ⟨trivial,rfl⟩
 .unfold RT Tw;simp only[bP,eL,ct,aW];exact .ret trivial
 .cases q with
  |inl y=>exact .ret trivial
  |inr e=>exact e.elim
def take_at{α:Type}{l:List α}{n:Nat}(h:n<l.length)(z:α):l.take (n+1)=l.take n++[l.getD n z]:=by rw[acJ,bR h,dG,bR h];rfl
def Nr(l:List Bx):List Int:=l.filterMap λx=>if x.2.2.1=0 then none else some x.2.2.1
def Ol(L:List LK):List Int:=(L.map λc=>Nr c.2.2).flatten
def M7(s:List Site):List Int:=(s.map λx=>Ol x.2.2.1).flatten
def OM(y:Oc):Bool:=decide (y.2.2.2.1=2)||decide (y.2.2.2.1=3)
def FB(k x:Int):Prop:=(1<=x/\x<=p.length)/\(p.getD (x-1).toNat aS).2.2.1=k/\OM (p.getD (x-1).toNat aS)=true
def ajS(k i:Int)(ZM:List LK)(l:List Bx)(S:l.length<=1073741824)(o:∀n,n<l.length->0<=(l.getD n gI).2.2.1/\(l.getD n gI).2.2.1<=999)(T:p.length<=1048576)(G:l.length<=24)(c:Int)(R:0<=c/\c<=1000):
  Sm (λq=>match q with |.inl y=>y.1=false |.inr q=>match q with |.inl y=>y.1=c+((Nr l).length:Int)/\∀x,x∈Nr l->FB p k x |.inr _=>True) (N2 (a0,a1,a2,a3,a4,a5,a6,a7,a8,a9,a10,s,p,g,j,k,i,l,()) (c,0,())) (RC (a0,a1,a2,a3,a4,a5,a6,a7,a8,a9,a10,s,p,g,j,k,s,bw s,k,ZM,bw ZM,i,l,bw l,()) (c,0,())):=by
 have v:∀n,(Nr (l.take n)).length<=24:=λn=>iN (List.length_filterMap_le _ _) (by rw[dB];omega);refine TL (B:=Int) l.length (by omega) (λn b=>b=c+((Nr (l.take n)).length:Int)/\∀x,x∈Nr (l.take n)->FB p k x) (λb n A m=>?_) (λb m=>?_) c ⟨by show c=c+(((Nr (l.take 0)).length:Nat):Int);rw[Rr];show c=c+((0:Nat):Int);omega,λx I=>by rw[Rr]at I;cases I⟩
 .unfold NZ Rz;obtain⟨D,E⟩:=o n A;have f:=take_at A gI;have N:=v n;revert D E f;simp only[bP,dX,A,bu,az,cw,eW (n:=n) (by omega),bS,aX,jE];generalize l.getD n gI=x;intro D E f;have d:Nr (l.take (n+1))=Nr (l.take n)++Nr [x]:=by rw[f];exact List.filterMap_append
  refine .cond (λJ=>.ret ⟨?_,rfl⟩) λt=>?_
  .have u:Nr [x]=[]:=by
    have:=LM.1 J;simp[Nr,this]
   rw[d,u,fa];exact m
  have t:¬x.2.2.1=0:=λe=>by rw[LM.2 e]at t;cases t
  have M:Bool.not (Jh x.2.2.1 1 (bw p))=ak .gtr x.2.2.1 (bw p):=by
   cases H:ak .gtr x.2.2.1 (bw p)with
   |true=>
    have:=aoa.1 H;have:Jh x.2.2.1 1 (bw p)=false:=by rw[vh,ne_eq,kW];omega
    rw[this];rfl
   |false=>have:=ahH.1 H;have:Jh x.2.2.1 1 (bw p)=true:=kW.2 ⟨by omega,by omega⟩;rw[this];rfl
  rw[M];refine .cond (λ_=>.ret rfl) λw=>?_;have w:=ahH.1 w;unfold bw at w;rw[vm (by omega) (by omega)];refine .guard (XP (by omega) (by omega)) (XP (by omega) (by omega)) ?_;have a:ak .neq (ae aS p (x.2.2.1-1)).2.2.1 k=false->(ak .neq (ae aS p (x.2.2.1-1)).2.2.2.1 2=false\/ak .neq (ae aS p (x.2.2.1-1)).2.2.2.1 3=false)->aa .add .i64 b 1=c+((Nr (l.take (n+1))).length:Int)/\∀x,x∈Nr (l.take (n+1))->FB p k x:=λQ r=>by
   have u:Nr [x]=[x.2.2.1]:=by simp[Nr,t]
   rw[d,u];obtain⟨O,P⟩:=m;refine⟨?_,λz C=>?_⟩
   .rw[cR,O,sO (by omega) (by omega)];show _=c+(((Nr (l.take n)).length+1:Nat):Int)
    omega
   .rcases cg.1 C with h|h
    .exact P z h
    .have:z=x.2.2.1:=by simpa using h
     subst this;refine⟨⟨by omega,by omega⟩,ada.1 Q,?_⟩;show(decide ((ae aS p (x.2.2.1-1)).2.2.2.1=2)||decide ((ae aS p (x.2.2.1-1)).2.2.2.1=3))=true;rcases r with r|r
     .rw[ada.1 r];rfl
     .rw[ada.1 r];rfl
  revert a;generalize ae aS p (x.2.2.1-1)=y;intro a;cases F:ak .neq y.2.2.1 k <;> cases ak .neq y.1 x.2.1 <;> cases K:ak .neq y.2.2.2.1 2 <;> cases L:ak .neq y.2.2.2.1 3 <;> cases ak .eql y.2.2.2.1 2 <;> cases x.2.2.2 <;> first|exact .ret rfl|exact .ret ⟨a F (.inl K),rfl⟩|exact .ret ⟨a F (.inr L),rfl⟩
 .unfold NZ Rz;simp only[bP,eL,ct,aW];rw[Kj]at m;exact .ret m
def afQ{l:List Bx}(h:∀n,n<l.length->okS l n=true):∀n,n<=l.length->0<=mS l n/\mS l n<=24
 |0,_=>⟨LL _,by show(0:Int)<=24;decide⟩
 |n+1,c=>by
  have f:=afQ h n (by omega);have a:=h n (by omega);unfold okS at a;simp only[aQ]at a;have d:=kW.1 a.1.1.1.2;have e:=N7 l (show n<l.length by omega);rw[sO (by omega) (by omega)]at e;have b:¬(mS l (n+1)>24):=by have:=a.2;rw[sC]at this;exact Jx this
  omega
structure aaA (l:List Bx):Prop where
 low:∀n,n<l.length->(l.getD n gI).1=mS l n
 size:∀n,n<l.length->1<=(l.getD n gI).2.1/\(l.getD n gI).2.1<=24
 par:∀n,n<l.length->0<=(l.getD n gI).2.2.1/\(l.getD n gI).2.2.1<=999
 sum:∀n,n<=l.length->0<=mS l n/\mS l n<=24
 step:∀n,n<l.length->mS l (n+1)=mS l n+(l.getD n gI).2.1
def af9{h:Int}{f:List Int}{l:List Bx}(b:Xd h f l=true):aaA l/\mS l l.length=h:=by
 unfold Xd at b;simp only[aQ]at b;have c:∀n,n<l.length->okS l n=true:=λn a=>((iW _ _).1 b.2.1.1) n (kU _) (by omega);have d:=λn a=>afQ c n a;have g:∀n,n<l.length->1<=(l.getD n gI).2.1/\(l.getD n gI).2.1<=24:=λn a=>by have:=c n a;unfold okS at this;simp only[aQ]at this;exact kW.1 this.1.1.1.2
 refine⟨⟨λn a=>?_,g,λn a=>?_,d,λn a=>?_⟩,LM.1 b.2.1.2.2⟩
 .have:=c n a;unfold okS at this;simp only[aQ]at this;have e:=this.1.1.1.1;rw[sC]at e;exact ada.1 e
 .have:=c n a;unfold okS at this;simp only[aQ]at this;exact kW.1 this.1.1.2
 .have:=N7 l a;rw[this];have i:=d n (by omega);have j:=g n a;exact sO (by unfold Jd;omega) (by unfold Jd;omega)
def aaA.mono{l:List Bx}(h:aaA l):∀ {n m:Nat},n<=m->m<=l.length->mS l n+((m-n:Nat):Int)<=mS l m
 |n,0,a,_=>by
  have:n=0:=by omega
  subst this;simp
 |n,m+1,a,b=>by
  by_cases e:n=m+1
  .subst e;simp
  .have f:=h.mono (n:=n) (m:=m) (by omega) (by omega);have c:=h.step m (by omega);have d:=(h.size m (by omega)).1;omega
def aaA.len{l:List Bx}(h:aaA l):l.length<=24:=by have:=h.mono (kU l.length) (aJ _);have a:=(h.sum l.length (aJ _)).2;have b:=(h.sum 0 (kU _)).1;omega
def ZO{L:List LK}(h:Kb L=true):L.length<=6:=by unfold Kb at h;rw[aQ]at h;have:=(kW.1 h.1).2;unfold bw at this;omega
def ZN{L:List LK}(h:Kb L=true){n:Nat}(a:n<L.length):(pu L n).2.2.length<=24:=by unfold Kb at h;rw[aQ]at h;have:=(iW _ _).1 h.2 n (kU _) (by omega);unfold NA at this;simp only[aQ]at this;exact(af9 this.1).1.len
def ajR(k:Nat)(t:k<s.length)(A:Np 1073741824 (s.getD k bl))(a:Kb (s.getD k bl).2.2.1=true)(z:p.length<=1048576)(c:Int)(G:0<=c/\c<=500):
  Sm (λq=>match q with |.inl y=>y.1=false |.inr q=>match q with |.inl y=>y.1=c+((Ol (s.getD k bl).2.2.1).length:Int)/\((Ol (s.getD k bl).2.2.1).length<=144/\∀x,x∈Ol (s.getD k bl).2.2.1->FB p k x) |.inr _=>True) (N1 (a0,a1,a2,a3,a4,a5,a6,a7,a8,a9,a10,s,p,g,j,(k:Int),()) (c,0,())) (RB (a0,a1,a2,a3,a4,a5,a6,a7,a8,a9,a10,s,p,g,j,(k:Int),s,bw s,(k:Int),(s.getD k bl).2.2.1,bw (s.getD k bl).2.2.1,()) (c,0,())):=by
 have o:=PU A;have v:=ZO a;refine TL (B:=Int) (s.getD k bl).2.2.1.length (by have:=o.1;omega) (λn b=>b=c+((Ol ((s.getD k bl).2.2.1.take n)).length:Int)/\((Ol ((s.getD k bl).2.2.1.take n)).length<=24*n/\∀x,x∈Ol ((s.getD k bl).2.2.1.take n)->FB p k x)) (λb n i d=>?_) (λb d=>?_) c ⟨by show c=c+(((Ol (List.take 0 _)).length:Nat):Int);rw[Rr];show c=c+((0:Nat):Int);omega,by show(Ol (List.take 0 _)).length<=24*0;rw[Rr];exact aJ _,λx l=>by rw[Rr]at l;cases l⟩
 .unfold NY Ry;have r:s.getD k ax=s.getD k bl:=rfl;simp only[dX,t,bu,az,cw,r,bP,i,eW (n:=n) (by have:=o.1;omega)];refine(ajS a0 a1 a2 a3 a4 a5 a6 a7 a8 a9 a10 s p g j (k:Int) (n:Int) (s.getD k bl).2.2.1 (pu (s.getD k bl).2.2.1 n).2.2 (o.at i).2 (λm H=>?_) z (ZN a i) b ⟨by omega,by omega⟩).bind λq u=>?_
  .unfold Kb at a;rw[aQ]at a;have:=(iW _ _).1 a.2 n (kU _) (by omega);unfold NA Xd at this;simp only[aQ]at this;have:=(iW _ _).1 this.1.2.1.1 m (kU _) (by omega);unfold okS at this;simp only[aQ]at this;exact kW.1 this.1.1.2
  .cases q with
   |inl y=>exact .ret u
   |inr q=>
    cases q with
    |inl y=>
     have f:Ol ((s.getD k bl).2.2.1.take (n+1))=Ol ((s.getD k bl).2.2.1.take n)++Nr (pu (s.getD k bl).2.2.1 n).2.2:=by rw[take_at i br];unfold Ol;rw[Tj,aaY];simp only[fm,sB,lZ,acK,fa];rfl
     obtain⟨C,I,D⟩:=d;obtain⟨E,F⟩:=u;have w:(Nr (pu (s.getD k bl).2.2.1 n).2.2).length<=24:=iN (List.length_filterMap_le _ _) (ZN a i);refine .ret ⟨?_,rfl⟩;show y.1=c+((Ol ((s.getD k bl).2.2.1.take (n+1))).length:Int)/\_;rw[f];refine⟨?_,?_,λx l=>?_⟩
     .rw[cR,E,C];omega
     .rw[cR];omega
     .rcases cg.1 l with h|h
      .exact D x h
      .exact F x h
    |inr e=>exact e.elim
 .unfold NY Ry;have r:s.getD k ax=s.getD k bl:=rfl;simp only[dX,t,bu,az,cw,r,bP,eL,ct,aW];rw[Kj]at d;exact .ret ⟨d.1,by omega,d.2.2⟩
structure aio (s:List Site) (p:List Oc):Prop where
 fb:∀k,k<s.length->∀x,x∈Ol (s.getD k bl).2.2.1->FB p k x
 cnt:(M7 s).length=(p.filter OM).length
def ahk(f:TJ s p g j)(C:∀k,k<s.length->Kb (s.getD k bl).2.2.1=true)(F:s.length<=3)(w:p.length<=12):Sm (λr=>r.1=true->aio s p) (NL a0 a1 a2 a3 a4 a5 a6 a7 a8 a9 a10 s p g j) (Sg a0 a1 a2 a3 a4 a5 a6 a7 a8 a9 a10 s p g j):=by
 have E:=f.ls;have o:=f.lp;have no:∀ {Q:Prop} {b:Bool},b=false->b=true->Q:=λu m=>by rw[u]at m;cases m
 unfold NL Sg;refine(TL (B:=Int) (Q:=λq=>match q with |.inl y=>y.1=false |.inr q=>match q with |.inl y=>y.1=((M7 s).length:Int)/\(M7 s).length<=432/\∀k,k<s.length->∀x,x∈Ol (s.getD k bl).2.2.1->FB p k x |.inr _=>True) s.length (by omega) (λn b=>b=((M7 (s.take n)).length:Int)/\(M7 (s.take n)).length<=144*n/\∀k,k<n->∀x,x∈Ol (s.getD k bl).2.2.1->FB p k x) (λb n d c=>?_) (λb c=>?_) (0:Int) ⟨by show(0:Int)=((M7 (s.take 0)).length:Int);rw[Rr];rfl,by show(M7 (s.take 0)).length<=0;rw[Rr];exact aJ _,λk v=>absurd v (vI _)⟩).bind λq i=>?_
 .unfold NX Rx;have G:∀n,s.getD n ax=s.getD n bl:=λ_=>rfl;simp only[bP,dX,d,bu,az,cw,eW (n:=n) (by omega),G];obtain⟨J,K,H⟩:=c;refine(ajR a0 a1 a2 a3 a4 a5 a6 a7 a8 a9 a10 s p g j n d (f.ss n d) (C n d) o b ⟨by omega,by omega⟩).bind λq i=>?_;cases q with
  |inl y=>exact .ret i
  |inr q=>
   cases q with
   |inl y=>
    obtain⟨A,I,t⟩:=i;have a:M7 (s.take (n+1))=M7 (s.take n)++Ol (s.getD n bl).2.2.1:=by rw[take_at d bl];unfold M7;rw[Tj,aaY];simp only[fm,sB,lZ,acK,fa]
    refine .ret ⟨?_,rfl⟩;show y.1=((M7 (s.take (n+1))).length:Int)/\_;rw[a,cR];refine⟨by omega,by omega,λk v x z=>?_⟩;by_cases e:k=n
    .subst e;exact t x z
    .exact H k (by omega) x z
   |inr e=>exact e.elim
 .unfold NX Rx;simp only[bP,eL,ct,aW];rw[Kj]at c;exact .ret ⟨c.1,by omega,c.2.2⟩
 .cases q with
  |inl y=>exact .ret (no i)
  |inr q=>
   cases q with
   |inr e=>exact e.elim
   |inl y=>
    obtain⟨A,I,t⟩:=i;refine(TL (B:=Int) (Q:=λq=>match q with |.inl y=>y.1=((M7 s).length:Int)-((p.filter OM).length:Int) |.inr _=>True) p.length (by omega) (λn b=>b=((M7 s).length:Int)-(((p.take n).filter OM).length:Int)) (λb n d c=>?_) (λb c=>?_) y.1 (by show y.1=_-(((List.take 0 p).filter OM).length:Int);rw[Rr,A];show _=_-((0:Nat):Int);omega)).bind λq i=>?_
    .have D:((p.take n).filter OM).length<=n:=iN (ahb _ _) (by rw[dB];omega);have a:((p.take (n+1)).filter OM).length=((p.take n).filter OM).length+(if OM (p.getD n aS)=true then 1 else 0):=by rw[take_at d aS,aeK,cR,aaV];split <;> rfl
     have yes:OM (p.getD n aS)=true->aa .sub .i64 b 1=((M7 s).length:Int)-(((p.take (n+1)).filter OM).length:Int):=λh=>by rw[a,cz h,c,vm (by omega) (by omega)];omega
     unfold N0 RA;simp only[bP,dX,d,bu,az,cw,eW (n:=n) (by omega)];refine .cond (λh=>.ret ⟨yes ?_,rfl⟩) λh=>.cond (λl=>.ret ⟨yes ?_,rfl⟩) λl=>.ret ⟨?_,rfl⟩
     .unfold OM;rw[LM.1 h];rfl
     .unfold OM;rw[LM.1 l];rfl
     .have:OM (p.getD n aS)=false:=by
       unfold OM;rw[show decide ((p.getD n aS).2.2.2.1=2)=false from h,show decide ((p.getD n aS).2.2.2.1=3)=false from l];rfl
      show b=_;rw[a,this,c];rfl
    .unfold N0 RA;simp only[bP,eL,ct,aW];rw[Kj]at c;exact .ret c
    .cases q with
     |inl y=>exact .ret λh=>⟨t,by have u:=LM.1 h;have m:y.1=_:=i;omega⟩
     |inr e=>exact e.elim
structure afY:Prop where
 auR:L3 a0 a1 a2 a3 a4 a5 a6 a7=true
 room:0<=a8/\a8<=1000
 aaj:1<=a9/\a9<=2147483646
 now:0<=a10/\a10<=20000
 sites:1<=s.length/\s.length<=3
 Lu:p.length<=12
 gr:JZ g=some (true,())
 box:aio s p
 jr:SR j=true
 aak:∀n,n<s.length->aaq p (s.getD n bl)
 oh:∀n,n<p.length->0<=(p.getD n aS).2.2.1/\(p.getD n aS).2.2.1<s.length
 who:∀n,n<p.length->(p.getD n aS).2.2.2.1=4->1<=(p.getD n aS).2.2.2.2.2.2.2.2.2.2.2.1/\(p.getD n aS).2.2.2.2.2.2.2.2.2.2.2.1<=40
variable {a0 a1 a2 a3 a4 a5 a6 a7 a8 a9 a10 s p g j} in
def afY.ZM(h:afY a0 a1 a2 a3 a4 a5 a6 a7 a8 a9 a10 s p g j)(n:Nat)(a:n<s.length):Kb (s.getD n bl).2.2.1=true:=(h.aak n a).ZM
def ags(d:TJ s p g j):Sm (λr=>r.1=true->afY a0 a1 a2 a3 a4 a5 a6 a7 a8 a9 a10 s p g j) (Pv a0 a1 a2 a3 a4 a5 a6 a7 a8 a9 a10 s p g j) (OA a0 a1 a2 a3 a4 a5 a6 a7 a8 a9 a10 s p g j):=by
 have u:=d.ls;have m:=d.lp;have H:=d.lg;unfold Pv OA;have no:∀ {Q:Prop},((false:Bool),()).1=true->Q:=λh=>by cases h
 have tr:∀ {b:Bool},Bool.not b=false->b=true:=fun {b} h=>by cases b with|true=>rfl|false=>cases h
 refine(aek (Wd ..) (V0 ..)).bind λr a=>.cond (λ_=>.ret no) λx=>?_;subst a;refine(Za a8 0 1000).bind λr a=>.cond (λ_=>.ret no) λz=>?_;subst a;refine Sm.bind (P:=λr=>r=(Jh a9 1 2147483646,())) (by unfold Js Jt;rw[rp,bS];exact .ret rfl) λr a=>.cond (λ_=>.ret no) λA=>?_;subst a;refine(aek (rp a10 0 20000) (Lg a10)).bind λr a=>.cond (λ_=>.ret no) λB=>?_;subst a;refine(Za (bw s) 1 3).bind λr a=>.cond (λ_=>.ret no) λC=>.cond (λ_=>.ret no) λD=>?_;subst a;obtain⟨⟨K,_⟩,G,w,_⟩:=ace g (by omega);rw[G,w];simp only[aX];refine .cond (λ_=>.ret no) λF=>?_;have v:K=true:=tr F;subst v;refine(aek (XG j) (Xi j)).bind λr a=>.cond (λ_=>.ret no) λE=>?_;subst a;refine(aeh s.length (by omega) (λn=>aaq p (s.getD n bl)) (Q:=λy=>match y with |.inl y=>y.1=false |.inr _=>∀n,n<s.length->aaq p (s.getD n bl)) (λn c=>?_) (λo=>?_)).bind λq f=>?_
 .unfold Pw OB;simp only[bP,c,bu,az,eW (n:=n) (by omega)];refine(ai4 a0 a1 a2 a3 a4 a5 a6 a7 a8 a9 a10 s p g j n c (d.ss n c) m).bind λr a=>.cond (λ_=>.ret rfl) λk=>.ret ⟨rfl,a ?_⟩;cases h:r.1 with|true=>rfl|false=>rw[h]at k;cases k
 .unfold Pw OB;simp only[bP,eL,ct,aW];exact .ret o
 .cases q with
  |inl y=>exact .ret λh=>by have f:y.1=false:=f;rw[f]at h;cases h
  |inr q=>
   cases q with
   |inr e=>exact e.elim
   |inl y=>
    have i:∀n,n<s.length->aaq p (s.getD n bl):=f;refine(aeh p.length (by omega) (λn=>(0<=(p.getD n aS).2.2.1/\(p.getD n aS).2.2.1<s.length)/\((p.getD n aS).2.2.2.1=4->1<=(p.getD n aS).2.2.2.2.2.2.2.2.2.2.2.1/\(p.getD n aS).2.2.2.2.2.2.2.2.2.2.2.1<=40)) (Q:=λy=>match y with |.inl y=>y.1=false |.inr _=>∀n,n<p.length->(0<=(p.getD n aS).2.2.1/\(p.getD n aS).2.2.1<s.length)/\((p.getD n aS).2.2.2.1=4->1<=(p.getD n aS).2.2.2.2.2.2.2.2.2.2.2.1/\(p.getD n aS).2.2.2.2.2.2.2.2.2.2.2.1<=40)) (λn c=>?_) (λo=>?_)).bind λq f=>?_
    .unfold Px OC;simp only[bP,c,bu,az,eW (n:=n) (by omega)];refine(agv a0 a1 a2 a3 a4 a5 a6 a7 a8 a9 a10 s p g j n c u).bind λr a=>.cond (λ_=>.ret rfl) λk=>.ret ⟨rfl,a ?_⟩;cases h:r.1 with|true=>rfl|false=>rw[h]at k;cases k
    .unfold Px OC;simp only[bP,eL,ct,aW];exact .ret o
    .cases q with
     |inl y=>exact .ret λh=>by have f:y.1=false:=f;rw[f]at h;cases h
     |inr q=>
      cases q with
      |inr e=>exact e.elim
      |inl y=>have I:=kW.1 (tr C);have J:¬(bw p>(12:Int)):=Jx D;unfold bw at I J;refine(ahk a0 a1 a2 a3 a4 a5 a6 a7 a8 a9 a10 s p g j d (λn c=>(i n c).ZM) (by omega) (by omega)).bind λr l=>.cond (λt=>?_) λ_=>.ret no;refine(afK a0 a1 a2 a3 a4 a5 a6 a7 a8 a9 a10 s p g j m (λn c=>(f n c).1)).bind λr _=>.ret λ_=>⟨tr x,kW.1 (tr z),kW.1 (tr A),kW.1 (tr B),⟨by omega,by omega⟩,by omega,w,l t,tr E,i,λn c=>(f n c).1,λn c=>(f n c).2⟩
end
def SM(a b:NO):Option YcW:=cond (dF (List.append (α:=YcK) ([]:NO) a)) (cond (dF (List.append (α:=YcK) ([]:NO) b)) (some (List.append (α:=YcK) ([]:NO) a,List.append (α:=YcK) ([]:NO) b,())) none) none
def PE(a:Int)(b:Li)(c:Ln):YdA:=cond (dF (List.append (α:=Int) ([]:Li) b)) (cond (dF (List.append (α:=Qu) ([]:Ln) c)) (some (a,List.append (α:=Int) ([]:Li) b,List.append (α:=Qu) ([]:Ln) c,())) none) none
def K2(a:YbT)(b:YcA):YcP:=letI c:=ae br a.1 b.2.1;cond (ak .lss b.2.1 (bw a.1)) (cond (aZ a.1 b.2.1) ((PE c.1 c.2.1 c.2.2).bind λd=>letI e:=(d.1,d.2.1,d.2.2.1);cond (dF (List.append (α:=YbR) b.1 (List.append (α:=YbR) ([]:Rp) [e]))) (some (.inl (List.append (α:=YbR) b.1 (List.append (α:=YbR) ([]:Rp) [e]),aa .add .i64 b.2.1 1,()))) none) none) (some (.inr (.inl (b.1,()))))
def K3 k x:=iter (K2 k) big x
def Ks(a:Rp):Option YbT:=(K3 (a,()) (([]:Rp),0,())).bind λb=>Sum.elim (λc=>some (c.1,())) (λc=>Empty.elim c) b
def It(a:NO):Option YbS:=cond (ak .gtr (bw a) 0) (cond (dF (List.append (α:=YcK) ([]:NO) a)) (some (List.append (α:=YcK) ([]:NO) a,())) none) (both (some (([]:NO),())) (cond (dF (List.append (α:=YcK) ([]:NO) a)) (some (List.append (α:=YcK) ([]:NO) a,())) none))
def QB(a b:NO):Option YcW:=(It a).bind λc=>(It b).bind λd=>some (c.1,d.1,())
def Jo(a:Ln):Option YcG:=cond (ak .gtr (bw a) 0) (cond (dF (List.append (α:=Qu) ([]:Ln) a)) (some (List.append (α:=Qu) ([]:Ln) a,())) none) (both (some (([]:Ln),())) (cond (dF (List.append (α:=Qu) ([]:Ln) a)) (some (List.append (α:=Qu) ([]:Ln) a,())) none))
def KH(a:Int)(b:Li)(c:Ln):YdA:=(Kc b).bind λd=>(Jo c).bind λe=>some (a,d.1,e.1,())
def Mt(a b:YcA):YcP:=letI c:=ae br a.1 b.2.1;cond (ak .lss b.2.1 a.2.1) (cond (aZ a.1 b.2.1) ((KH c.1 c.2.1 c.2.2).bind λd=>letI e:=(d.1,d.2.1,d.2.2.1);cond (dF (List.append (α:=YbR) b.1 (List.append (α:=YbR) ([]:Rp) [e]))) (some (.inl (List.append (α:=YbR) b.1 (List.append (α:=YbR) ([]:Rp) [e]),aa .add .i64 b.2.1 1,()))) none) none) (some (.inr (.inl (b.1,()))))
def Mu k x:=iter (Mt k) big x
def LH(a:Rp):Option YbT:=(Mu (a,bw a,()) (([]:Rp),0,())).bind λb=>Sum.elim (λc=>some (c.1,())) (λc=>Empty.elim c) b
def O3(a:Unit)(b:NO×NP):Option (NO×NP⊕YdC⊕Empty):=letI c:=b.2.2.1;letI d:=aa .add .i64 b.2.1 1;letI e:=cS b.1 c (b.2.1,(ae SN b.1 c).2);cond (ak .lss c (bw b.1)) (cond (aZ b.1 c) (cond (aZ e c) (lets (cS e c ((ae SN e c).1,d)) λf=>some (.inl (f,aa .add .i64 d 1,aa .add .i64 c 1,()))) none) none) (some (.inr (.inl (b.1,b.2.1,()))))
def O4 k x:=iter (O3 k) big x
def Mb(a:NO)(b:Int):Option (Int×YbS):=(O4 () (a,b,0,())).bind λc=>Sum.elim (λd=>some (d.2.1,d.1,())) (λd=>Empty.elim d) c
def Qd(a:Unit)(b:Ln×NP):Option (Ln×NP⊕YcE⊕Empty):=letI c:=b.2.2.1;letI d:=aa .add .i64 b.2.1 1;letI e:=(ae gI b.1 c).2;letI f:=cS b.1 c (b.2.1,e.1,e.2.1,e.2.2);letI g:=ae gI f c;cond (ak .lss c (bw b.1)) (cond (aZ b.1 c) (cond (aZ f c) (lets (cS f c (g.1,d,g.2.2.1,g.2.2.2)) λh=>letI i:=ae gI h c;letI j:=aa .add .i64 d 1;cond (aZ h c) (lets (cS h c (i.1,i.2.1,j,i.2.2.2)) λk=>letI l:=ae gI k c;letI m:=aa .add .i64 j 1;cond (eE 3) none (cond (aZ k c) (lets (cS k c (l.1,l.2.1,l.2.2.1,ak .eql (aa .rem .i64 m 3) 0)) λn=>some (.inl (n,aa .add .i64 m 1,aa .add .i64 c 1,()))) none)) none) none) none) (some (.inr (.inl (b.1,b.2.1,()))))
def Qe k x:=iter (Qd k) big x
def QJ(a:Ln)(b:Int):Option (Int×YcG):=(Qe () (a,b,0,())).bind λc=>Sum.elim (λd=>some (d.2.1,d.1,())) (λd=>Empty.elim d) c
def Nj(a:Unit)(b:Rp×NP):Option (Rp×NP⊕YcA⊕Empty):=letI c:=b.2.2.1;letI d:=(ae br b.1 c).2;letI e:=cS b.1 c (b.2.1,d.1,d.2);letI f:=ae br e c;cond (ak .lss c (bw b.1)) (cond (aZ b.1 c) (cond (aZ e c) ((QK f.2.1 (aa .add .i64 b.2.1 1)).bind λg=>lets (cS e c (f.1,g.2.1,f.2.2)) λh=>letI i:=ae br h c;cond (aZ h c) ((QJ i.2.2 g.1).bind λj=>some (.inl (cS h c (i.1,i.2.1,j.2.1),j.1,aa .add .i64 c 1,()))) none) none) none) (some (.inr (.inl (b.1,b.2.1,()))))
def Nk k x:=iter (Nj k) big x
def MC(a:Rp)(b:Int):Option (Int×YbT):=(Nk () (a,b,0,())).bind λc=>Sum.elim (λd=>some (d.2.1,d.1,())) (λd=>Empty.elim d) c
def O1(a:Unit)(b:Lj×NP):Option (Lj×NP⊕YdW⊕Empty):=letI c:=b.2.2.1;letI d:=ae ax b.1 c;cond (ak .lss c (bw b.1)) (cond (aZ b.1 c) ((Mb d.1 b.2.1).bind λe=>letI f:=d.2.2;letI g:=f.2.2.2.2;lets (cS b.1 c (e.2.1,d.2.1,f.1,f.2.1,f.2.2.1,f.2.2.2.1,g.1,g.2.1,g.2.2.1,g.2.2.2.1,g.2.2.2.2)) λh=>letI i:=ae ax h c;cond (aZ h c) ((Mb i.2.1 e.1).bind λj=>letI k:=i.2.2.2;letI l:=k.2.2.2.2;lets (cS h c (i.1,j.2.1,i.2.2.1,k.1,k.2.1,k.2.2.1,k.2.2.2.1,l.1,l.2.1,l.2.2.1,l.2.2.2)) λm=>letI n:=ae ax m c;cond (aZ m c) ((MC n.2.2.1 j.1).bind λo=>letI p:=n.2.2.2;letI q:=p.2.2.2.2;lets (cS m c (n.1,n.2.1,o.2.1,p.1,p.2.1,p.2.2.1,p.2.2.2.1,q.1,q.2.1,q.2.2.1,q.2.2.2)) λr=>letI s:=ae ax r c;letI t:=s.2.2.2.2;letI u:=t.2.2.2;cond (aZ r c) (lets (cS r c (s.1,s.2.1,s.2.2.1,o.1,t.1,t.2.1,t.2.2.1,u.1,u.2.1,u.2.2.1,u.2.2.2)) λv=>letI w:=(1:Int);letI x:=aa .add .i64 o.1 w;letI y:=ae ax v c;letI z:=y.2.2.2.2.2;cond (aZ v c) (lets (cS v c (y.1,y.2.1,y.2.2.1,y.2.2.2.1,x,z.1,z.2.1,z.2.2.1,z.2.2.2.1,z.2.2.2.2.1,z.2.2.2.2.2)) λA=>letI B:=eE 3;letI C:=ae ax A c;letI D:=C.2.2;letI E:=D.2.2.2.2;letI F:=aa .add .i64 x w;cond B none (cond (aZ A c) (lets (cS A c (C.1,C.2.1,D.1,D.2.1,D.2.2.1,ak .eql (aa .rem .i64 F 3) 0,E.1,E.2.1,E.2.2.1,E.2.2.2.1,E.2.2.2.2)) λG=>letI H:=ae ax G c;letI I:=H.2.2;letI J:=I.2.2.2.2.2;letI K:=aa .add .i64 F w;cond B none (cond (aZ G c) (lets (cS G c (H.1,H.2.1,I.1,I.2.1,I.2.2.1,I.2.2.2.1,ak .eql (aa .rem .i64 K 3) 0,J.1,J.2.1,J.2.2.1,J.2.2.2)) λL=>letI M:=aa .add .i64 K w;cond B none (lets (ak .eql (aa .rem .i64 M 3) 0) λN=>letI O:=ae ax L c;letI P:=O.2.2;letI Q:=P.2.2.2.2.2.2;cond (aZ L c) (lets (cS L c (O.1,O.2.1,P.1,P.2.1,P.2.2.1,P.2.2.2.1,P.2.2.2.2.1,N,Q.1,Q.2.1,Q.2.2)) λR=>letI S:=ae ax R c;letI T:=S.2.2;letI U:=T.2.2.2.2;letI V:=aa .add .i64 M w;cond (aZ R c) (lets (cS R c (S.1,S.2.1,T.1,T.2.1,T.2.2.1,T.2.2.2.1,U.1,U.2.1,V,U.2.2.2.1,U.2.2.2.2)) λW=>lets (aa .add .i64 V w) λX=>letI Y:=ae ax W c;letI Z:=Y.2.2;letI a0:=Z.2.2.2.2;cond (aZ W c) (lets (cS W c (Y.1,Y.2.1,Z.1,Z.2.1,Z.2.2.1,Z.2.2.2.1,a0.1,a0.2.1,a0.2.2.1,X,a0.2.2.2.2)) λa1=>letI a2:=ae ax a1 c;letI a3:=a2.2.2.2;letI a4:=a3.2.2.2.2;cond (aZ a1 c) ((LB a4.2.2.2 (aa .add .i64 X w)).bind λa5=>lets (cS a1 c (a2.1,a2.2.1,a2.2.2.1,a3.1,a3.2.1,a3.2.2.1,a3.2.2.2.1,a4.1,a4.2.1,a4.2.2.1,a5.2.1)) λa6=>some (.inl (a6,a5.1,aa .add .i64 c w,()))) none) none) none) none)) none)) none)) none) none) none) none) none) (some (.inr (.inl (b.1,b.2.1,()))))
def O2 k x:=iter (O1 k) big x
def O0(a:Lj)(b:Int):Option (Int×YcU):=(O2 () (a,b,0,())).bind λc=>Sum.elim (λd=>some (d.2.1,d.1,())) (λd=>Empty.elim d) c
def Nl(a:Unit)(b:KT×NP):Option (KT×NP⊕YdX⊕Empty):=letI c:=b.2.2.1;letI d:=(ae aS b.1 c).2;letI e:=d.2.2;letI f:=e.2.2.2.2.2;cond (ak .lss c (bw b.1)) (cond (aZ b.1 c) (lets (cS b.1 c (b.2.1,d.1,d.2.1,e.1,e.2.1,e.2.2.1,e.2.2.2.1,e.2.2.2.2.1,f.1,f.2.1,f.2.2.1,f.2.2.2.1,f.2.2.2.2)) λg=>letI h:=(1:Int);letI i:=ae aS g c;letI j:=aa .add .i64 b.2.1 h;letI k:=i.2.2.2.2;letI l:=k.2.2.2.2;cond (aZ g c) (lets (cS g c (i.1,j,i.2.2.1,i.2.2.2.1,k.1,k.2.1,k.2.2.1,k.2.2.2.1,l.1,l.2.1,l.2.2.1,l.2.2.2.1,l.2.2.2.2)) λm=>letI n:=ae aS m c;letI o:=n.2.2.2.2;letI p:=aa .add .i64 j h;letI q:=o.2.2.2.2;cond (aZ m c) (lets (cS m c (n.1,n.2.1,p,n.2.2.2.1,o.1,o.2.1,o.2.2.1,o.2.2.2.1,q.1,q.2.1,q.2.2.1,q.2.2.2.1,q.2.2.2.2)) λr=>letI s:=ae aS r c;letI t:=s.2.2.2.2;letI u:=t.2.2.2.2;letI v:=aa .add .i64 p h;cond (aZ r c) (lets (cS r c (s.1,s.2.1,s.2.2.1,v,t.1,t.2.1,t.2.2.1,t.2.2.2.1,u.1,u.2.1,u.2.2.1,u.2.2.2.1,u.2.2.2.2)) λw=>letI x:=ae aS w c;letI y:=x.2.2.2.2.2;letI z:=y.2.2.2.2;letI A:=aa .add .i64 v h;cond (aZ w c) (lets (cS w c (x.1,x.2.1,x.2.2.1,x.2.2.2.1,A,y.1,y.2.1,y.2.2.1,y.2.2.2.1,z.1,z.2.1,z.2.2.1,z.2.2.2)) λB=>letI C:=ae aS B c;letI D:=C.2.2.2.2.2.2;letI E:=D.2.2.2;letI F:=aa .add .i64 A h;cond (aZ B c) (lets (cS B c (C.1,C.2.1,C.2.2.1,C.2.2.2.1,C.2.2.2.2.1,F,D.1,D.2.1,D.2.2.1,E.1,E.2.1,E.2.2.1,E.2.2.2)) λG=>lets (aa .add .i64 F h) λH=>letI I:=ae aS G c;letI J:=I.2.2.2;letI K:=J.2.2.2.2.2;cond (aZ G c) (lets (cS G c (I.1,I.2.1,I.2.2.1,J.1,J.2.1,J.2.2.1,H,J.2.2.2.2.1,K.1,K.2.1,K.2.2.1,K.2.2.2.1,K.2.2.2.2)) λL=>letI M:=aa .add .i64 H h;letI N:=ae aS L c;letI O:=N.2.2.2;letI P:=O.2.2.2.2.2;cond (aZ L c) (lets (cS L c (N.1,N.2.1,N.2.2.1,O.1,O.2.1,O.2.2.1,O.2.2.2.1,M,P.1,P.2.1,P.2.2.1,P.2.2.2.1,P.2.2.2.2)) λQ=>letI R:=ae aS Q c;letI S:=R.2.2.2;letI T:=aa .add .i64 M h;letI U:=S.2.2.2.2.2.2;cond (aZ Q c) (lets (cS Q c (R.1,R.2.1,R.2.2.1,S.1,S.2.1,S.2.2.1,S.2.2.2.1,S.2.2.2.2.1,T,U.1,U.2.1,U.2.2.1,U.2.2.2)) λV=>letI W:=ae aS V c;letI X:=W.2.2.2;letI Y:=X.2.2.2.2;letI Z:=aa .add .i64 T h;cond (aZ V c) (lets (cS V c (W.1,W.2.1,W.2.2.1,X.1,X.2.1,X.2.2.1,X.2.2.2.1,Y.1,Y.2.1,Z,Y.2.2.2.1,Y.2.2.2.2.1,Y.2.2.2.2.2)) λa0=>letI a1:=ae aS a0 c;letI a2:=a1.2.2.2;letI a3:=a2.2.2.2.2;letI a4:=aa .add .i64 Z h;cond (aZ a0 c) (lets (cS a0 c (a1.1,a1.2.1,a1.2.2.1,a2.1,a2.2.1,a2.2.2.1,a2.2.2.2.1,a3.1,a3.2.1,a3.2.2.1,a4,a3.2.2.2.2.1,a3.2.2.2.2.2)) λa5=>letI a6:=ae aS a5 c;letI a7:=a6.2.2.2;letI a8:=a7.2.2.2.2;letI a9:=aa .add .i64 a4 h;cond (aZ a5 c) (lets (cS a5 c (a6.1,a6.2.1,a6.2.2.1,a7.1,a7.2.1,a7.2.2.1,a7.2.2.2.1,a8.1,a8.2.1,a8.2.2.1,a8.2.2.2.1,a9,a8.2.2.2.2.2)) λb0=>lets (aa .add .i64 a9 h) λb1=>letI b2:=ae aS b0 c;letI b3:=b2.2.2.2;letI b4:=b3.2.2.2.2;cond (aZ b0 c) (lets (cS b0 c (b2.1,b2.2.1,b2.2.2.1,b3.1,b3.2.1,b3.2.2.1,b3.2.2.2.1,b4.1,b4.2.1,b4.2.2.1,b4.2.2.2.1,b4.2.2.2.2.1,b1)) λb5=>some (.inl (b5,aa .add .i64 b1 h,aa .add .i64 c h,()))) none) none) none) none) none) none) none) none) none) none) none) none) none) (some (.inr (.inl (b.1,b.2.1,()))))
def Nn k x:=iter (Nl k) big x
def MF(a:KT)(b:Int):Option (Int×YcV):=(Nn () (a,b,0,())).bind λc=>Sum.elim (λd=>some (d.2.1,d.1,())) (λd=>Empty.elim d) c
def NT(a:Unit)(b:JX×NP):Option (JX×NP⊕YdL⊕Empty):=letI c:=b.2.2.1;letI d:=(ae kC b.1 c).2;cond (ak .lss c (bw b.1)) (cond (aZ b.1 c) (lets (cS b.1 c (b.2.1,d.1,d.2.1,d.2.2.1,d.2.2.2.1,d.2.2.2.2.1,d.2.2.2.2.2)) λe=>letI f:=(1:Int);letI g:=aa .add .i64 b.2.1 f;letI h:=(ae kC e c).2.2;cond (aZ e c) (lets (cS e c ((ae kC e c).1,g,h.1,h.2.1,h.2.2.1,h.2.2.2.1,h.2.2.2.2)) λi=>letI j:=ae kC i c;letI k:=j.2.2.2;letI l:=aa .add .i64 g f;cond (aZ i c) (lets (cS i c (j.1,j.2.1,l,k.1,k.2.1,k.2.2.1,k.2.2.2)) λm=>letI n:=ae kC m c;letI o:=n.2.2.2.2;letI p:=aa .add .i64 l f;cond (aZ m c) (lets (cS m c (n.1,n.2.1,n.2.2.1,p,o.1,o.2.1,o.2.2)) λq=>letI r:=ae kC q c;letI s:=aa .add .i64 p f;cond (aZ q c) (lets (cS q c (r.1,r.2.1,r.2.2.1,r.2.2.2.1,s,r.2.2.2.2.2.1,r.2.2.2.2.2.2)) λt=>letI u:=ae kC t c;letI v:=aa .add .i64 s f;cond (aZ t c) (lets (cS t c (u.1,u.2.1,u.2.2.1,u.2.2.2.1,u.2.2.2.2.1,v,u.2.2.2.2.2.2)) λw=>lets (aa .add .i64 v f) λx=>letI y:=ae kC w c;cond (eE 3) none (cond (aZ w c) (lets (cS w c (y.1,y.2.1,y.2.2.1,y.2.2.2.1,y.2.2.2.2.1,y.2.2.2.2.2.1,ak .eql (aa .rem .i64 x 3) 0)) λz=>some (.inl (z,aa .add .i64 x f,aa .add .i64 c f,()))) none)) none) none) none) none) none) none) (some (.inr (.inl (b.1,b.2.1,()))))
def NU k x:=iter (NT k) big x
def NC(a:JX)(b:Int):Option (Int×YcR):=(NU () (a,b,0,())).bind λc=>Sum.elim (λd=>some (d.2.1,d.1,())) (λd=>Empty.elim d) c
def K9(a b c d e f g h i j k:Int)(l:Lj)(m:KT)(n:JX)(o:JH)(p:Int):Option YeB:=(O0 l p).bind λq=>(MF m q.1).bind λr=>(NC n r.1).bind λs=>(LB o s.1).bind λt=>some (t.1,q.2.1,r.2.1,s.2.1,t.2.1,())
def OY(a:YbS)(b:NP):YbA:=letI c:=b.2.1;letI d:=aa .add .i64 b.1 1;cond (ak .lss c (bw a.1)) (cond (aZ a.1 c) (cond (ak .neq (ae SN a.1 c).1 b.1) (some (.inr (.inl (-1,())))) (cond (aZ a.1 c) (cond (ak .neq (ae SN a.1 c).2 d) (some (.inr (.inl (-1,())))) (some (.inl (aa .add .i64 d 1,aa .add .i64 c 1,())))) none)) none) (some (.inr (.inr (.inl (b.1,())))))
def OZ k x:=iter (OY k) big x
def Ma(a:NO)(b:Int):PN:=(OZ (a,()) (b,0,())).bind λc=>Sum.elim (λd=>some (d.1,())) (λd=>Sum.elim (λe=>some (e.1,())) (λe=>Empty.elim e) d) c
def Qb(a:YcG)(b:NP):YbA:=letI c:=((-1:Int),());letI d:=aZ a.1 b.2.1;letI e:=ae gI a.1 b.2.1;letI f:=aa .add .i64 b.1 1;letI g:=aa .add .i64 f 1;letI h:=aa .add .i64 g 1;cond (ak .lss b.2.1 (bw a.1)) (cond d (cond (ak .neq e.1 b.1) (some (.inr (.inl c))) (cond d (cond (ak .neq e.2.1 f) (some (.inr (.inl c))) (cond d (cond (ak .neq e.2.2.1 g) (some (.inr (.inl c))) (cond d (cond (eE 3) none (lets (Bool.not (pI e.2.2.2 (ak .eql (aa .rem .i64 h 3) 0))) λi=>cond i (some (.inr (.inl c))) (some (.inl (aa .add .i64 h 1,aa .add .i64 b.2.1 1,()))))) none)) none)) none)) none) (some (.inr (.inr (.inl (b.1,())))))
def Qc k x:=iter (Qb k) big x
def QH(a:Ln)(b:Int):PN:=(Qc (a,()) (b,0,())).bind λc=>Sum.elim (λd=>some (d.1,())) (λd=>Sum.elim (λe=>some (e.1,())) (λe=>Empty.elim e) d) c
def Nf(a:YbT)(b:NP):YbA:=letI c:=((-1:Int),());letI d:=aZ a.1 b.2.1;letI e:=ae br a.1 b.2.1;cond (ak .lss b.2.1 (bw a.1)) (cond d (cond (ak .neq e.1 b.1) (some (.inr (.inl c))) (cond d ((QI e.2.1 (aa .add .i64 b.1 1)).bind λf=>cond (ak .lss f.1 0) (some (.inr (.inl c))) (cond d ((QH e.2.2 f.1).bind λg=>cond (ak .lss g.1 0) (some (.inr (.inl c))) (some (.inl (g.1,aa .add .i64 b.2.1 1,())))) none)) none)) none) (some (.inr (.inr (.inl (b.1,())))))
def Ng k x:=iter (Nf k) big x
def Mx(a:Rp)(b:Int):PN:=(Ng (a,()) (b,0,())).bind λc=>Sum.elim (λd=>some (d.1,())) (λd=>Sum.elim (λe=>some (e.1,())) (λe=>Empty.elim e) d) c
def OW(a:YcU)(b:NP):YbA:=letI c:=aZ a.1 b.2.1;letI d:=ae ax a.1 b.2.1;cond (ak .lss b.2.1 (bw a.1)) (cond c ((Ma d.1 b.1).bind λe=>letI f:=((-1:Int),());letI g:=d.2;cond (ak .lss e.1 0) (some (.inr (.inl f))) (cond c ((Ma g.1 e.1).bind λh=>cond (ak .lss h.1 0) (some (.inr (.inl f))) (cond c ((Mx g.2.1 h.1).bind λi=>letI j:=(1:Int);letI k:=eE 3;letI l:=aa .add .i64 i.1 j;letI m:=aa .add .i64 l j;cond (ak .lss i.1 0) (some (.inr (.inl f))) (cond c (cond (ak .neq g.2.2.1 i.1) (some (.inr (.inl f))) (cond c (cond (ak .neq g.2.2.2.1 l) (some (.inr (.inl f))) (cond c (cond k none (lets (Bool.not (pI g.2.2.2.2.1 (ak .eql (aa .rem .i64 m 3) 0))) λn=>letI o:=g.2.2.2.2.2;letI p:=aa .add .i64 m j;cond n (some (.inr (.inl f))) (cond c (cond k none (lets (Bool.not (pI o.1 (ak .eql (aa .rem .i64 p 3) 0))) λq=>letI r:=aa .add .i64 p j;cond q (some (.inr (.inl f))) (cond c (cond k none (lets (ak .eql (aa .rem .i64 r 3) 0) λs=>letI t:=aa .add .i64 r j;cond (Bool.not (pI o.2.1 s)) (some (.inr (.inl f))) (cond c (lets (ak .neq o.2.2.1 t) λu=>cond u (some (.inr (.inl f))) (lets (aa .add .i64 t j) λv=>cond c (cond (ak .neq o.2.2.2.1 v) (some (.inr (.inl f))) (cond c ((LA o.2.2.2.2 (aa .add .i64 v j)).bind λw=>cond (ak .lss w.1 0) (some (.inr (.inl f))) (some (.inl (w.1,aa .add .i64 b.2.1 j,())))) none)) none)) none))) none))) none))) none)) none)) none)) none)) none)) none) (some (.inr (.inr (.inl (b.1,())))))
def OX k x:=iter (OW k) big x
def OV(a:Lj)(b:Int):PN:=(OX (a,()) (b,0,())).bind λc=>Sum.elim (λd=>some (d.1,())) (λd=>Sum.elim (λe=>some (e.1,())) (λe=>Empty.elim e) d) c
def Nh(a:YcV)(b:NP):YbA:=letI c:=(1:Int);letI d:=((-1:Int),());letI e:=aZ a.1 b.2.1;letI f:=aa .add .i64 b.1 c;letI g:=ae aS a.1 b.2.1;letI h:=g.2.2;letI i:=aa .add .i64 f c;letI j:=aa .add .i64 i c;letI k:=aa .add .i64 j c;cond (ak .lss b.2.1 (bw a.1)) (cond e (cond (ak .neq g.1 b.1) (some (.inr (.inl d))) (cond e (cond (ak .neq g.2.1 f) (some (.inr (.inl d))) (cond e (cond (ak .neq h.1 i) (some (.inr (.inl d))) (cond e (cond (ak .neq h.2.1 j) (some (.inr (.inl d))) (cond e (lets (ak .neq h.2.2.1 k) λl=>letI m:=aa .add .i64 k c;cond l (some (.inr (.inl d))) (cond e (lets (ak .neq h.2.2.2.1 m) λn=>cond n (some (.inr (.inl d))) (lets (aa .add .i64 m c) λo=>letI p:=aa .add .i64 o c;letI q:=aa .add .i64 p c;letI r:=h.2.2.2.2.2;letI s:=aa .add .i64 q c;letI t:=aa .add .i64 s c;cond e (cond (ak .neq h.2.2.2.2.1 o) (some (.inr (.inl d))) (cond e (cond (ak .neq r.1 p) (some (.inr (.inl d))) (cond e (cond (ak .neq r.2.1 q) (some (.inr (.inl d))) (cond e (cond (ak .neq r.2.2.1 s) (some (.inr (.inl d))) (cond e (lets (ak .neq r.2.2.2.1 t) λu=>letI v:=aa .add .i64 t c;cond u (some (.inr (.inl d))) (cond e (lets (ak .neq r.2.2.2.2.1 v) λw=>cond w (some (.inr (.inl d))) (lets (aa .add .i64 v c) λx=>cond e (cond (ak .neq r.2.2.2.2.2 x) (some (.inr (.inl d))) (some (.inl (aa .add .i64 x c,aa .add .i64 b.2.1 c,())))) none)) none)) none)) none)) none)) none)) none)) none)) none)) none)) none)) none)) none) (some (.inr (.inr (.inl (b.1,())))))
def Ni k x:=iter (Nh k) big x
def MB(a:KT)(b:Int):PN:=(Ni (a,()) (b,0,())).bind λc=>Sum.elim (λd=>some (d.1,())) (λd=>Sum.elim (λe=>some (e.1,())) (λe=>Empty.elim e) d) c
def NR(a:YcR)(b:NP):YbA:=letI c:=(1:Int);letI d:=((-1:Int),());letI e:=aZ a.1 b.2.1;letI f:=ae kC a.1 b.2.1;letI g:=aa .add .i64 b.1 c;letI h:=f.2.2.2;letI i:=aa .add .i64 g c;letI j:=aa .add .i64 i c;letI k:=aa .add .i64 j c;cond (ak .lss b.2.1 (bw a.1)) (cond e (cond (ak .neq f.1 b.1) (some (.inr (.inl d))) (cond e (cond (ak .neq f.2.1 g) (some (.inr (.inl d))) (cond e (cond (ak .neq f.2.2.1 i) (some (.inr (.inl d))) (cond e (cond (ak .neq h.1 j) (some (.inr (.inl d))) (cond e (lets (ak .neq h.2.1 k) λl=>letI m:=aa .add .i64 k c;cond l (some (.inr (.inl d))) (cond e (lets (ak .neq h.2.2.1 m) λn=>cond n (some (.inr (.inl d))) (lets (aa .add .i64 m c) λo=>cond e (cond (eE 3) none (cond (Bool.not (pI h.2.2.2 (ak .eql (aa .rem .i64 o 3) 0))) (some (.inr (.inl d))) (some (.inl (aa .add .i64 o c,aa .add .i64 b.2.1 c,()))))) none)) none)) none)) none)) none)) none)) none) (some (.inr (.inr (.inl (b.1,())))))
def NS k x:=iter (NR k) big x
def NB(a:JX)(b:Int):PN:=(NS (a,()) (b,0,())).bind λc=>Sum.elim (λd=>some (d.1,())) (λd=>Sum.elim (λe=>some (e.1,())) (λe=>Empty.elim e) d) c
def MA(a b c d e f g h i j k:Int)(l:Lj)(m:KT)(n:JX)(o:JH)(p:Int):PN:=(OV l p).bind λq=>letI r:=some ((-1:Int),());cond (ak .lss q.1 0) r ((MB m q.1).bind λs=>cond (ak .lss s.1 0) r ((NB n s.1).bind λt=>cond (ak .lss t.1 0) r ((LA o t.1).bind λu=>cond (ak .lss u.1 0) r (some (u.1,())))))
def z3F:eE (3:Int)=false:=by decide
def k3(k:Int):Bool:=ak .eql (aa .rem .i64 k 3) 0
def JA{a b:Int}(c:0<=a)(d:a<=4611686018427387904)(h:b=a+1):aa .add .i64 a 1=b:=(Rq c d).trans h.symm
def cT{a:Type}{b:Bool}{x y:a}(h:b=true):(bif b then x else y)=x:=by rw[h];rfl
def cF{a:Type}{b:Bool}{x y:a}(h:b=false):(bif b then x else y)=y:=by rw[h];rfl
def JT{α c:Type}{a b:α}{f:α->c}(h:a=b):lets a f=f b:=by rw[jE,h]
def Ym{α a:Type}{x:Option α}{r:α}{f:α->Option a}(h:x=some r):x.bind f=f r:=by rw[h];rfl
def loX{α:Type}{L:List α}{n:Nat}(h:n<L.length):ak .lss (n:Int) (bw L)=true:=by rw[bP];exact iO h
def J1{α:Type}{L:List α}{n:Nat}(h:n<L.length):aZ L (n:Int)=true:=by rw[dX];exact iO h
def Xm{α:Type}{L:List α}{n:Nat}{a:α}(h:n<L.length):aZ (L.set n a) (n:Int)=true:=by rw[uI];exact iO h
def fe(k:Int)(x:M8):M8×Int:=((k,k+1),k+2)
def ac9(k:Int)(x:M8):k<=(fe k x).2/\(fe k x).2<=k+(2:Nat):=⟨by show k<=k+2;omega,by show k+2<=k+2;omega⟩
def Zv(l:List M8)(k:Int)(g:l.length<=1073741824)(e:0<=k)(h:k+2*(l.length:Int)<=1125899906842624):Mb l k=some ((js fe l k).2,(js fe l k).1,()):=by
 unfold Mb;have:O4 () (l,k,0,())=some (.inl ((js fe l k).1,(js fe l k).2,())):=by
  refine VQ (cost:=λ_=>2) SN l k g e ac9 (λL q n b i j f a=>?_) (λL m=>?_)
  .rw[JS]at a;unfold fe;have d:aa .add .i64 (q) 1=q+1:=JA (by omega) (by omega) (by omega);have c:aa .add .i64 (q+1) 1=q+2:=JA (by omega) (by omega) (by omega);unfold O3;simp only[bP,dX,b,bu,az,eW (n:=n) (by omega),jt,cw,d,c];repeat (first|rw[jE]|simp only[uI,jw,b,bu,az,jt,cw,cP b,qe,c])
  .unfold O3;simp only[bP,eL,ct,aW]
 rw[this];rfl
def Y8(l:List M8)(k:Int)(g:l.length<=1073741824)(d:0<=k)(j:k+2*(l.length:Int)<=1125899906842624):Ma (js fe l k).1 k=some ((js fe l k).2,()):=by
 unfold Ma;have:OZ ((js fe l k).1,()) (k,0,())=some (.inr (.inl ((js fe l k).2,()))):=by
  refine VN (cost:=λ_=>2) SN l k g d ac9 (λq n h f a e=>?_) (λm=>?_)
  .rw[JS]at a;have b:aa .add .i64 (q) 1=q+1:=JA (by omega) (by omega) (by omega);have c:aa .add .i64 (q+1) 1=q+2:=JA (by omega) (by omega) (by omega);have i:n<(js fe l k).1.length:=by rw[KK];exact h
   unfold OY;simp only[bP,dX,i,bu,az,eW (n:=n) (by omega),cw,e,fe,b,c,I9,aW,z3F,ML,fu,jE]
  .unfold OY;have:=KK fe l k;simp only[<-this,bP,eL,ct,aW]
 rw[this];rfl
def V9(k:Int)(x:Bx):Bx×Int:=((k,k+1,k+2,k3 (k+3)),k+4)
def ac8(k:Int)(x:Bx):k<=(V9 k x).2/\(V9 k x).2<=k+(4:Nat):=⟨by show k<=k+4;omega,by show k+4<=k+4;omega⟩
def ad4(l:List Bx)(k:Int)(i:l.length<=1073741824)(g:0<=k)(j:k+4*(l.length:Int)<=1125899906842624):QJ l k=some ((js V9 l k).2,(js V9 l k).1,()):=by
 unfold QJ;have:Qe () (l,k,0,())=some (.inl ((js V9 l k).1,(js V9 l k).2,())):=by
  refine VQ (cost:=λ_=>4) gI l k i g ac8 (λL q n b m o h a=>?_) (λL p=>?_)
  .rw[JS]at a;unfold V9 k3;have d:aa .add .i64 (q) 1=q+1:=JA (by omega) (by omega) (by omega);have e:aa .add .i64 (q+1) 1=q+2:=JA (by omega) (by omega) (by omega);have f:aa .add .i64 (q+2) 1=q+3:=JA (by omega) (by omega) (by omega);have c:aa .add .i64 (q+3) 1=q+4:=JA (by omega) (by omega) (by omega);unfold Qd;simp only[bP,dX,b,bu,az,eW (n:=n) (by omega),jt,cw,d,e,f,c,z3F,aW];repeat (first|rw[jE]|simp only[uI,jw,b,bu,az,jt,cw,cP b,qe,c,z3F,aW])
  .unfold Qd;simp only[bP,eL,ct,aW]
 rw[this];rfl
def adV(l:List Bx)(k:Int)(i:l.length<=1073741824)(f:0<=k)(o:k+4*(l.length:Int)<=1125899906842624):QH (js V9 l k).1 k=some ((js V9 l k).2,()):=by
 unfold QH;have:Qc ((js V9 l k).1,()) (k,0,())=some (.inr (.inl ((js V9 l k).2,()))):=by
  refine VN (cost:=λ_=>4) gI l k i f ac8 (λq n j h a g=>?_) (λp=>?_)
  .rw[JS]at a;have b:aa .add .i64 (q) 1=q+1:=JA (by omega) (by omega) (by omega);have c:aa .add .i64 (q+1) 1=q+2:=JA (by omega) (by omega) (by omega);have d:aa .add .i64 (q+2) 1=q+3:=JA (by omega) (by omega) (by omega);have e:aa .add .i64 (q+3) 1=q+4:=JA (by omega) (by omega) (by omega);have m:n<(js V9 l k).1.length:=by rw[KK];exact j
   unfold Qb;simp only[bP,dX,m,bu,az,eW (n:=n) (by omega),cw,g,V9,k3,b,c,d,e,I9,aW,z3F,ML,fu,jE]
  .unfold Qb;have:=KK V9 l k;simp only[<-this,bP,eL,ct,aW]
 rw[this];rfl
def PS(k:Int)(x:Oc):Oc×Int:=((k,k+1,k+2,k+3,k+4,k+5,k+6,k+7,k+8,k+9,k+10,k+11,k+12),k+13)
def abu(k:Int)(x:Oc):k<=(PS k x).2/\(PS k x).2<=k+(13:Nat):=⟨by show k<=k+13;omega,by show k+13<=k+13;omega⟩
def abq(l:List Oc)(k:Int)(w:l.length<=1073741824)(u:0<=k)(x:k+13*(l.length:Int)<=1125899906842624):MF l k=some ((js PS l k).2,(js PS l k).1,()):=by
 unfold MF;have:Nn () (l,k,0,())=some (.inl ((js PS l k).1,(js PS l k).2,())):=by
  refine VQ (cost:=λ_=>13) aS l k w u abu (λL q n f y z v t=>?_) (λL A=>?_)
  .rw[JS]at t;unfold PS;have g:aa .add .i64 (q) 1=q+1:=JA (by omega) (by omega) (by omega);have h:aa .add .i64 (q+1) 1=q+2:=JA (by omega) (by omega) (by omega);have i:aa .add .i64 (q+2) 1=q+3:=JA (by omega) (by omega) (by omega);have j:aa .add .i64 (q+3) 1=q+4:=JA (by omega) (by omega) (by omega);have m:aa .add .i64 (q+4) 1=q+5:=JA (by omega) (by omega) (by omega);have o:aa .add .i64 (q+5) 1=q+6:=JA (by omega) (by omega) (by omega);have p:aa .add .i64 (q+6) 1=q+7:=JA (by omega) (by omega) (by omega);have r:aa .add .i64 (q+7) 1=q+8:=JA (by omega) (by omega) (by omega);have s:aa .add .i64 (q+8) 1=q+9:=JA (by omega) (by omega) (by omega);have c:aa .add .i64 (q+9) 1=q+10:=JA (by omega) (by omega) (by omega);have d:aa .add .i64 (q+10) 1=q+11:=JA (by omega) (by omega) (by omega);have e:aa .add .i64 (q+11) 1=q+12:=JA (by omega) (by omega) (by omega);have a:aa .add .i64 (q+12) 1=q+13:=JA (by omega) (by omega) (by omega);unfold Nl;dsimp only;refine(cT (loX f)).trans ?_;refine(cT (J1 f)).trans ?_;refine(JT (b:=L.set n (q,(L.getD n aS).2.1,(L.getD n aS).2.2.1,(L.getD n aS).2.2.2.1,(L.getD n aS).2.2.2.2.1,(L.getD n aS).2.2.2.2.2.1,(L.getD n aS).2.2.2.2.2.2.1,(L.getD n aS).2.2.2.2.2.2.2.1,(L.getD n aS).2.2.2.2.2.2.2.2.1,(L.getD n aS).2.2.2.2.2.2.2.2.2.1,(L.getD n aS).2.2.2.2.2.2.2.2.2.2.1,(L.getD n aS).2.2.2.2.2.2.2.2.2.2.2.1,(L.getD n aS).2.2.2.2.2.2.2.2.2.2.2.2)) (by simp only[cw,jt,cP f,qe,g,h,i,j,m,o,p,r,s,c,d,e,a])).trans ?_;refine(cT (Xm f)).trans ?_;refine(JT (b:=L.set n (q,q+1,(L.getD n aS).2.2.1,(L.getD n aS).2.2.2.1,(L.getD n aS).2.2.2.2.1,(L.getD n aS).2.2.2.2.2.1,(L.getD n aS).2.2.2.2.2.2.1,(L.getD n aS).2.2.2.2.2.2.2.1,(L.getD n aS).2.2.2.2.2.2.2.2.1,(L.getD n aS).2.2.2.2.2.2.2.2.2.1,(L.getD n aS).2.2.2.2.2.2.2.2.2.2.1,(L.getD n aS).2.2.2.2.2.2.2.2.2.2.2.1,(L.getD n aS).2.2.2.2.2.2.2.2.2.2.2.2)) (by simp only[cw,jt,cP f,qe,g,h,i,j,m,o,p,r,s,c,d,e,a])).trans ?_;refine(cT (Xm f)).trans ?_;refine(JT (b:=L.set n (q,q+1,q+2,(L.getD n aS).2.2.2.1,(L.getD n aS).2.2.2.2.1,(L.getD n aS).2.2.2.2.2.1,(L.getD n aS).2.2.2.2.2.2.1,(L.getD n aS).2.2.2.2.2.2.2.1,(L.getD n aS).2.2.2.2.2.2.2.2.1,(L.getD n aS).2.2.2.2.2.2.2.2.2.1,(L.getD n aS).2.2.2.2.2.2.2.2.2.2.1,(L.getD n aS).2.2.2.2.2.2.2.2.2.2.2.1,(L.getD n aS).2.2.2.2.2.2.2.2.2.2.2.2)) (by simp only[cw,jt,cP f,qe,g,h,i,j,m,o,p,r,s,c,d,e,a])).trans ?_;refine(cT (Xm f)).trans ?_;refine(JT (b:=L.set n (q,q+1,q+2,q+3,(L.getD n aS).2.2.2.2.1,(L.getD n aS).2.2.2.2.2.1,(L.getD n aS).2.2.2.2.2.2.1,(L.getD n aS).2.2.2.2.2.2.2.1,(L.getD n aS).2.2.2.2.2.2.2.2.1,(L.getD n aS).2.2.2.2.2.2.2.2.2.1,(L.getD n aS).2.2.2.2.2.2.2.2.2.2.1,(L.getD n aS).2.2.2.2.2.2.2.2.2.2.2.1,(L.getD n aS).2.2.2.2.2.2.2.2.2.2.2.2)) (by simp only[cw,jt,cP f,qe,g,h,i,j,m,o,p,r,s,c,d,e,a])).trans ?_;refine(cT (Xm f)).trans ?_;refine(JT (b:=L.set n (q,q+1,q+2,q+3,q+4,(L.getD n aS).2.2.2.2.2.1,(L.getD n aS).2.2.2.2.2.2.1,(L.getD n aS).2.2.2.2.2.2.2.1,(L.getD n aS).2.2.2.2.2.2.2.2.1,(L.getD n aS).2.2.2.2.2.2.2.2.2.1,(L.getD n aS).2.2.2.2.2.2.2.2.2.2.1,(L.getD n aS).2.2.2.2.2.2.2.2.2.2.2.1,(L.getD n aS).2.2.2.2.2.2.2.2.2.2.2.2)) (by simp only[cw,jt,cP f,qe,g,h,i,j,m,o,p,r,s,c,d,e,a])).trans ?_;refine(cT (Xm f)).trans ?_;refine(JT (b:=L.set n (q,q+1,q+2,q+3,q+4,q+5,(L.getD n aS).2.2.2.2.2.2.1,(L.getD n aS).2.2.2.2.2.2.2.1,(L.getD n aS).2.2.2.2.2.2.2.2.1,(L.getD n aS).2.2.2.2.2.2.2.2.2.1,(L.getD n aS).2.2.2.2.2.2.2.2.2.2.1,(L.getD n aS).2.2.2.2.2.2.2.2.2.2.2.1,(L.getD n aS).2.2.2.2.2.2.2.2.2.2.2.2)) (by simp only[cw,jt,cP f,qe,g,h,i,j,m,o,p,r,s,c,d,e,a])).trans ?_;refine(JT (b:=q+6) (by simp only[g,h,i,j,m,o,p,r,s,c,d,e,a])).trans ?_;refine(cT (Xm f)).trans ?_;refine(JT (b:=L.set n (q,q+1,q+2,q+3,q+4,q+5,q+6,(L.getD n aS).2.2.2.2.2.2.2.1,(L.getD n aS).2.2.2.2.2.2.2.2.1,(L.getD n aS).2.2.2.2.2.2.2.2.2.1,(L.getD n aS).2.2.2.2.2.2.2.2.2.2.1,(L.getD n aS).2.2.2.2.2.2.2.2.2.2.2.1,(L.getD n aS).2.2.2.2.2.2.2.2.2.2.2.2)) (by simp only[cw,jt,cP f,qe,g,h,i,j,m,o,p,r,s,c,d,e,a])).trans ?_;refine(cT (Xm f)).trans ?_;refine(JT (b:=L.set n (q,q+1,q+2,q+3,q+4,q+5,q+6,q+7,(L.getD n aS).2.2.2.2.2.2.2.2.1,(L.getD n aS).2.2.2.2.2.2.2.2.2.1,(L.getD n aS).2.2.2.2.2.2.2.2.2.2.1,(L.getD n aS).2.2.2.2.2.2.2.2.2.2.2.1,(L.getD n aS).2.2.2.2.2.2.2.2.2.2.2.2)) (by simp only[cw,jt,cP f,qe,g,h,i,j,m,o,p,r,s,c,d,e,a])).trans ?_;refine(cT (Xm f)).trans ?_;refine(JT (b:=L.set n (q,q+1,q+2,q+3,q+4,q+5,q+6,q+7,q+8,(L.getD n aS).2.2.2.2.2.2.2.2.2.1,(L.getD n aS).2.2.2.2.2.2.2.2.2.2.1,(L.getD n aS).2.2.2.2.2.2.2.2.2.2.2.1,(L.getD n aS).2.2.2.2.2.2.2.2.2.2.2.2)) (by simp only[cw,jt,cP f,qe,g,h,i,j,m,o,p,r,s,c,d,e,a])).trans ?_;refine(cT (Xm f)).trans ?_;refine(JT (b:=L.set n (q,q+1,q+2,q+3,q+4,q+5,q+6,q+7,q+8,q+9,(L.getD n aS).2.2.2.2.2.2.2.2.2.2.1,(L.getD n aS).2.2.2.2.2.2.2.2.2.2.2.1,(L.getD n aS).2.2.2.2.2.2.2.2.2.2.2.2)) (by simp only[cw,jt,cP f,qe,g,h,i,j,m,o,p,r,s,c,d,e,a])).trans ?_;refine(cT (Xm f)).trans ?_;refine(JT (b:=L.set n (q,q+1,q+2,q+3,q+4,q+5,q+6,q+7,q+8,q+9,q+10,(L.getD n aS).2.2.2.2.2.2.2.2.2.2.2.1,(L.getD n aS).2.2.2.2.2.2.2.2.2.2.2.2)) (by simp only[cw,jt,cP f,qe,g,h,i,j,m,o,p,r,s,c,d,e,a])).trans ?_;refine(cT (Xm f)).trans ?_;refine(JT (b:=L.set n (q,q+1,q+2,q+3,q+4,q+5,q+6,q+7,q+8,q+9,q+10,q+11,(L.getD n aS).2.2.2.2.2.2.2.2.2.2.2.2)) (by simp only[cw,jt,cP f,qe,g,h,i,j,m,o,p,r,s,c,d,e,a])).trans ?_;refine(JT (b:=q+12) (by simp only[g,h,i,j,m,o,p,r,s,c,d,e,a])).trans ?_;refine(cT (Xm f)).trans ?_;refine(JT (b:=L.set n (q,q+1,q+2,q+3,q+4,q+5,q+6,q+7,q+8,q+9,q+10,q+11,q+12)) (by simp only[cw,jt,cP f,qe,g,h,i,j,m,o,p,r,s,c,d,e,a])).trans ?_;simp only[a,eW (n:=n) (by omega)]
  .unfold Nl;simp only[bP,eL,ct,aW]
 rw[this];rfl
def abh(l:List Oc)(k:Int)(v:l.length<=1073741824)(s:0<=k)(y:k+13*(l.length:Int)<=1125899906842624):MB (js PS l k).1 k=some ((js PS l k).2,()):=by
 unfold MB;have:Ni ((js PS l k).1,()) (k,0,())=some (.inr (.inl ((js PS l k).2,()))):=by
  refine VN (cost:=λ_=>13) aS l k v s abu (λq n w u e t=>?_) (λz=>?_)
  .rw[JS]at e;have f:aa .add .i64 (q) 1=q+1:=JA (by omega) (by omega) (by omega);have g:aa .add .i64 (q+1) 1=q+2:=JA (by omega) (by omega) (by omega);have h:aa .add .i64 (q+2) 1=q+3:=JA (by omega) (by omega) (by omega);have i:aa .add .i64 (q+3) 1=q+4:=JA (by omega) (by omega) (by omega);have j:aa .add .i64 (q+4) 1=q+5:=JA (by omega) (by omega) (by omega);have m:aa .add .i64 (q+5) 1=q+6:=JA (by omega) (by omega) (by omega);have o:aa .add .i64 (q+6) 1=q+7:=JA (by omega) (by omega) (by omega);have p:aa .add .i64 (q+7) 1=q+8:=JA (by omega) (by omega) (by omega);have r:aa .add .i64 (q+8) 1=q+9:=JA (by omega) (by omega) (by omega);have a:aa .add .i64 (q+9) 1=q+10:=JA (by omega) (by omega) (by omega);have b:aa .add .i64 (q+10) 1=q+11:=JA (by omega) (by omega) (by omega);have c:aa .add .i64 (q+11) 1=q+12:=JA (by omega) (by omega) (by omega);have d:aa .add .i64 (q+12) 1=q+13:=JA (by omega) (by omega) (by omega);have x:n<(js PS l k).1.length:=by rw[KK];exact w
   unfold Nh;simp only[bP,dX,x,bu,az,eW (n:=n) (by omega),cw,t,PS,f,g,h,i,j,m,o,p,r,a,b,c,d,I9,aW,z3F,ML,fu,jE]
  .unfold Nh;have:=KK PS l k;simp only[<-this,bP,eL,ct,aW]
 rw[this];rfl
def PR(k:Int)(x:PM):PM×Int:=((k,k+1,k+2,k+3,k+4,k+5,k3 (k+6)),k+7)
def abt(k:Int)(x:PM):k<=(PR k x).2/\(PR k x).2<=k+(7:Nat):=⟨by show k<=k+7;omega,by show k+7<=k+7;omega⟩
def abW(l:List PM)(k:Int)(p:l.length<=1073741824)(m:0<=k)(r:k+7*(l.length:Int)<=1125899906842624):NC l k=some ((js PR l k).2,(js PR l k).1,()):=by
 unfold NC;have:NU () (l,k,0,())=some (.inl ((js PR l k).1,(js PR l k).2,())):=by
  refine VQ (cost:=λ_=>7) kC l k p m abt (λL q n a s t o j=>?_) (λL u=>?_)
  .rw[JS]at j;unfold PR k3;have d:aa .add .i64 (q) 1=q+1:=JA (by omega) (by omega) (by omega);have e:aa .add .i64 (q+1) 1=q+2:=JA (by omega) (by omega) (by omega);have f:aa .add .i64 (q+2) 1=q+3:=JA (by omega) (by omega) (by omega);have g:aa .add .i64 (q+3) 1=q+4:=JA (by omega) (by omega) (by omega);have h:aa .add .i64 (q+4) 1=q+5:=JA (by omega) (by omega) (by omega);have i:aa .add .i64 (q+5) 1=q+6:=JA (by omega) (by omega) (by omega);have c:aa .add .i64 (q+6) 1=q+7:=JA (by omega) (by omega) (by omega);unfold NT;dsimp only;refine(cT (loX a)).trans ?_;refine(cT (J1 a)).trans ?_;refine(JT (b:=L.set n (q,(L.getD n kC).2.1,(L.getD n kC).2.2.1,(L.getD n kC).2.2.2.1,(L.getD n kC).2.2.2.2.1,(L.getD n kC).2.2.2.2.2.1,(L.getD n kC).2.2.2.2.2.2)) (by simp only[cw,jt,cP a,qe,d,e,f,g,h,i,c])).trans ?_;refine(cT (Xm a)).trans ?_;refine(JT (b:=L.set n (q,q+1,(L.getD n kC).2.2.1,(L.getD n kC).2.2.2.1,(L.getD n kC).2.2.2.2.1,(L.getD n kC).2.2.2.2.2.1,(L.getD n kC).2.2.2.2.2.2)) (by simp only[cw,jt,cP a,qe,d,e,f,g,h,i,c])).trans ?_;refine(cT (Xm a)).trans ?_;refine(JT (b:=L.set n (q,q+1,q+2,(L.getD n kC).2.2.2.1,(L.getD n kC).2.2.2.2.1,(L.getD n kC).2.2.2.2.2.1,(L.getD n kC).2.2.2.2.2.2)) (by simp only[cw,jt,cP a,qe,d,e,f,g,h,i,c])).trans ?_;refine(cT (Xm a)).trans ?_;refine(JT (b:=L.set n (q,q+1,q+2,q+3,(L.getD n kC).2.2.2.2.1,(L.getD n kC).2.2.2.2.2.1,(L.getD n kC).2.2.2.2.2.2)) (by simp only[cw,jt,cP a,qe,d,e,f,g,h,i,c])).trans ?_;refine(cT (Xm a)).trans ?_;refine(JT (b:=L.set n (q,q+1,q+2,q+3,q+4,(L.getD n kC).2.2.2.2.2.1,(L.getD n kC).2.2.2.2.2.2)) (by simp only[cw,jt,cP a,qe,d,e,f,g,h,i,c])).trans ?_;refine(cT (Xm a)).trans ?_;refine(JT (b:=L.set n (q,q+1,q+2,q+3,q+4,q+5,(L.getD n kC).2.2.2.2.2.2)) (by simp only[cw,jt,cP a,qe,d,e,f,g,h,i,c])).trans ?_;refine(JT (b:=q+6) (by simp only[d,e,f,g,h,i,c])).trans ?_;refine(cF z3F).trans ?_;refine(cT (Xm a)).trans ?_;refine(JT (b:=L.set n (q,q+1,q+2,q+3,q+4,q+5,ak .eql (aa .rem .i64 (q+6) 3) 0)) (by simp only[cw,jt,cP a,qe,d,e,f,g,h,i,c])).trans ?_;simp only[c,eW (n:=n) (by omega)]
  .unfold NT;simp only[bP,eL,ct,aW]
 rw[this];rfl
def abV(l:List PM)(k:Int)(o:l.length<=1073741824)(i:0<=k)(s:k+7*(l.length:Int)<=1125899906842624):NB (js PR l k).1 k=some ((js PR l k).2,()):=by
 unfold NB;have:NS ((js PR l k).1,()) (k,0,())=some (.inr (.inl ((js PR l k).2,()))):=by
  refine VN (cost:=λ_=>7) kC l k o i abt (λq n p m a j=>?_) (λt=>?_)
  .rw[JS]at a;have b:aa .add .i64 (q) 1=q+1:=JA (by omega) (by omega) (by omega);have c:aa .add .i64 (q+1) 1=q+2:=JA (by omega) (by omega) (by omega);have d:aa .add .i64 (q+2) 1=q+3:=JA (by omega) (by omega) (by omega);have e:aa .add .i64 (q+3) 1=q+4:=JA (by omega) (by omega) (by omega);have f:aa .add .i64 (q+4) 1=q+5:=JA (by omega) (by omega) (by omega);have g:aa .add .i64 (q+5) 1=q+6:=JA (by omega) (by omega) (by omega);have h:aa .add .i64 (q+6) 1=q+7:=JA (by omega) (by omega) (by omega);have r:n<(js PR l k).1.length:=by rw[KK];exact p
   unfold NR;simp only[bP,dX,r,bu,az,eW (n:=n) (by omega),cw,j,PR,k3,b,c,d,e,f,g,h,I9,aW,z3F,ML,fu,jE]
  .unfold NR;have:=KK PR l k;simp only[<-this,bP,eL,ct,aW]
 rw[this];rfl
def ZQ{α:Type}(a:α->Nat)(z:α):∀ {l:List α} {n:Nat},n<l.length->a (l.getD n z)<=JG a l
 |x::xs,0,_=>by simp only[List.getD_cons_zero,JG];omega
 |x::xs,n+1,h=>by have:=ZQ a z (l:=xs) (n:=n) (by simpa using h);simp only[List.getD_cons_succ,JG];omega
def acr(l:List M8)(k:Int):k<=(js fe l k).2/\(js fe l k).2<=k+2*(l.length:Int):=by have:=Tm ac9 l k;rw[JS]at this;omega
def ajo(l:List Bx)(k:Int):k<=(js V9 l k).2/\(js V9 l k).2<=k+4*(l.length:Int):=by have:=Tm ac8 l k;rw[JS]at this;omega
def Ml(c:LK):Nat:=1+c.2.1.length+4*c.2.2.length
def k7(k:Int)(c:LK):LK×Int:=((k,RM (k+1) c.2.1.length,(js V9 c.2.2 (k+1+(c.2.1.length:Int))).1),(js V9 c.2.2 (k+1+(c.2.1.length:Int))).2)
def XA(k:Int)(c:LK):k<=(k7 k c).2/\(k7 k c).2<=k+(Ml c:Nat):=by have:=ajo c.2.2 (k+1+(c.2.1.length:Int));unfold k7 Ml;dsimp only;omega
def abp(l:List LK)(k:Int)(m:l.length<=1073741824)(g:∀n,n<l.length->VK 1073741824 (l.getD n JL))(f:0<=k)(p:k+(JG Ml l:Nat)<=1099511627776):MC l k=some ((js k7 l k).2,(js k7 l k).1,()):=by
 unfold MC;have:Nk () (l,k,0,())=some (.inl ((js k7 l k).1,(js k7 l k).2,())):=by
  refine VQ (cost:=Ml) JL l k m f XA (λL q n a s h i j=>?_) (λL t=>?_)
  .have o:n<l.length:=by omega
   obtain⟨c,d⟩:=g n o;rw[<-h]at c d⊢;unfold k7;have e:aa .add .i64 q 1=q+1:=Rq (by omega) (by omega);have m1:=ad5 (L.getD n JL).2.1 (q+1) c (by omega) (by omega);have m2:=ad4 (L.getD n JL).2.2 (q+1+((L.getD n JL).2.1.length:Int)) d (by omega) (by omega);unfold Nj;dsimp only;refine(cT (loX a)).trans ?_;refine(cT (J1 a)).trans ?_;rw[jt,cw];refine(cT (Xm a)).trans ?_;rw[e,cw];refine(Ym (r:=_) (by rw[cP a];exact m1)).trans ?_;refine(JT (b:=L.set n (q,RM (q+1) (L.getD n JL).2.1.length,(L.getD n JL).2.2)) (by rw[cP a,jt,qe];rfl)).trans ?_;refine(cT (Xm a)).trans ?_;rw[cw];refine(Ym (r:=_) (by rw[cP a];exact m2)).trans ?_;rw[cP a,jt,qe,eW (n:=n) (by omega)]
  .unfold Nj;simp only[bP,eL,ct,aW]
 rw[this];rfl
def abf(l:List LK)(k:Int)(j:l.length<=1073741824)(g:∀n,n<l.length->VK 1073741824 (l.getD n JL))(f:0<=k)(s:k+(JG Ml l:Nat)<=1099511627776):Mx (js k7 l k).1 k=some ((js k7 l k).2,()):=by
 unfold Mx;have:Ng ((js k7 l k).1,()) (k,0,())=some (.inr (.inl ((js k7 l k).2,()))):=by
  refine VN (cost:=Ml) JL l k j f XA (λq n b h i a=>?_) (λt=>?_)
  .obtain⟨d,e⟩:=g n b;have m:n<(js k7 l k).1.length:=by rw[KK];exact b
   have c:aa .add .i64 q 1=q+1:=Rq (by omega) (by omega);have r:=ajo (l.getD n JL).2.2 (q+1+((l.getD n JL).2.1.length:Int));have m1:=adW (l.getD n JL).2.1.length (q+1) d (by omega) (by omega);have m2:=adV (l.getD n JL).2.2 (q+1+((l.getD n JL).2.1.length:Int)) e (by omega) (by omega);have o:ak .lss (q+1+((l.getD n JL).2.1.length:Int)) 0=false:=Jp (by omega);have p:ak .lss (js V9 (l.getD n JL).2.2 (q+1+((l.getD n JL).2.1.length:Int))).2 0=false:=Jp (by omega);have a:(js k7 l k).1.getD n br=(k7 q (l.getD n JL)).1:=a;unfold Nf;simp only[bP,dX,m,bu,az,eW (n:=n) (by omega),cw,a,k7,c,I9,aW,m1,m2,o,p,aX]
  .unfold Nf;have:=KK k7 l k;simp only[<-this,bP,eL,ct,aW]
 rw[this];rfl
def J6(x:Site):Nat:=2*x.1.length+2*x.2.1.length+JG Ml x.2.2.1+7+7*x.2.2.2.2.2.2.2.2.2.2.length
def KX(q:Int)(x:Site):Site×Int:=(((js fe x.1 q).1,(js fe x.2.1 (js fe x.1 q).2).1,(js k7 x.2.2.1 (js fe x.2.1 (js fe x.1 q).2).2).1,(js k7 x.2.2.1 (js fe x.2.1 (js fe x.1 q).2).2).2,(js k7 x.2.2.1 (js fe x.2.1 (js fe x.1 q).2).2).2+1,k3 ((js k7 x.2.2.1 (js fe x.2.1 (js fe x.1 q).2).2).2+2),k3 ((js k7 x.2.2.1 (js fe x.2.1 (js fe x.1 q).2).2).2+3),k3 ((js k7 x.2.2.1 (js fe x.2.1 (js fe x.1 q).2).2).2+4),(js k7 x.2.2.1 (js fe x.2.1 (js fe x.1 q).2).2).2+5,(js k7 x.2.2.1 (js fe x.2.1 (js fe x.1 q).2).2).2+6,Pj ((js k7 x.2.2.1 (js fe x.2.1 (js fe x.1 q).2).2).2+7) x.2.2.2.2.2.2.2.2.2.2.length),(js k7 x.2.2.1 (js fe x.2.1 (js fe x.1 q).2).2).2+7+7*(x.2.2.2.2.2.2.2.2.2.2.length:Int))
def aah(q:Int)(x:Site):q<=(KX q x).2/\(KX q x).2<=q+(J6 x:Nat):=by have a:=acr x.1 q;have b:=acr x.2.1 (js fe x.1 q).2;have c:=Tm XA x.2.2.1 (js fe x.2.1 (js fe x.1 q).2).2;unfold KX J6;dsimp only;omega
def ac6(l:List Site)(k:Int)(z:l.length<=1073741824)(w:∀n,n<l.length->Np 1073741824 (l.getD n bl))(v:0<=k)(F:k+(JG J6 l:Nat)<=274877906944):O0 l k=some ((js KX l k).2,(js KX l k).1,()):=by
 unfold O0;have:O2 () (l,k,0,())=some (.inl ((js KX l k).1,(js KX l k).2,())):=by
  refine VQ (cost:=J6) bl l k z v aah (λL q n a G t x y=>?_) (λL H=>?_)
  .have u:n<l.length:=by omega
   obtain⟨m,o,p,s,c5⟩:=w n u;rw[<-t]at m o p s c5⊢;have j:2*(l.getD n bl).1.length+2*(l.getD n bl).2.1.length+JG Ml (l.getD n bl).2.2.1+7+7*(l.getD n bl).2.2.2.2.2.2.2.2.2.2.length<=JG J6 l:=ZQ J6 bl u;rw[<-t]at j;have C:=acr (L.getD n bl).1 q;have D:=acr (L.getD n bl).2.1 (js fe (L.getD n bl).1 q).2;have E:=Tm XA (L.getD n bl).2.2.1 (js fe (L.getD n bl).2.1 (js fe (L.getD n bl).1 q).2).2;unfold KX k3;have c:aa .add .i64 ((js k7 (L.getD n bl).2.2.1 (js fe (L.getD n bl).2.1 (js fe (L.getD n bl).1 q).2).2).2) 1=(js k7 (L.getD n bl).2.2.1 (js fe (L.getD n bl).2.1 (js fe (L.getD n bl).1 q).2).2).2+1:=JA (by omega) (by omega) (by omega);have d:aa .add .i64 ((js k7 (L.getD n bl).2.2.1 (js fe (L.getD n bl).2.1 (js fe (L.getD n bl).1 q).2).2).2+1) 1=(js k7 (L.getD n bl).2.2.1 (js fe (L.getD n bl).2.1 (js fe (L.getD n bl).1 q).2).2).2+2:=JA (by omega) (by omega) (by omega);have e:aa .add .i64 ((js k7 (L.getD n bl).2.2.1 (js fe (L.getD n bl).2.1 (js fe (L.getD n bl).1 q).2).2).2+2) 1=(js k7 (L.getD n bl).2.2.1 (js fe (L.getD n bl).2.1 (js fe (L.getD n bl).1 q).2).2).2+3:=JA (by omega) (by omega) (by omega);have f:aa .add .i64 ((js k7 (L.getD n bl).2.2.1 (js fe (L.getD n bl).2.1 (js fe (L.getD n bl).1 q).2).2).2+3) 1=(js k7 (L.getD n bl).2.2.1 (js fe (L.getD n bl).2.1 (js fe (L.getD n bl).1 q).2).2).2+4:=JA (by omega) (by omega) (by omega);have g:aa .add .i64 ((js k7 (L.getD n bl).2.2.1 (js fe (L.getD n bl).2.1 (js fe (L.getD n bl).1 q).2).2).2+4) 1=(js k7 (L.getD n bl).2.2.1 (js fe (L.getD n bl).2.1 (js fe (L.getD n bl).1 q).2).2).2+5:=JA (by omega) (by omega) (by omega);have h:aa .add .i64 ((js k7 (L.getD n bl).2.2.1 (js fe (L.getD n bl).2.1 (js fe (L.getD n bl).1 q).2).2).2+5) 1=(js k7 (L.getD n bl).2.2.1 (js fe (L.getD n bl).2.1 (js fe (L.getD n bl).1 q).2).2).2+6:=JA (by omega) (by omega) (by omega);have i:aa .add .i64 ((js k7 (L.getD n bl).2.2.1 (js fe (L.getD n bl).2.1 (js fe (L.getD n bl).1 q).2).2).2+6) 1=(js k7 (L.getD n bl).2.2.1 (js fe (L.getD n bl).2.1 (js fe (L.getD n bl).1 q).2).2).2+7:=JA (by omega) (by omega) (by omega);have m1:=Zv (L.getD n bl).1 q m (by omega) (by omega);have m2:=Zv (L.getD n bl).2.1 (js fe (L.getD n bl).1 q).2 o (by omega) (by omega);have A:=abp (L.getD n bl).2.2.1 (js fe (L.getD n bl).2.1 (js fe (L.getD n bl).1 q).2).2 p s (by omega) (by omega);have B:=Yv (L.getD n bl).2.2.2.2.2.2.2.2.2.2 ((js k7 (L.getD n bl).2.2.1 (js fe (L.getD n bl).2.1 (js fe (L.getD n bl).1 q).2).2).2+7) c5 (by omega) (by omega);unfold O1;dsimp only;rw[show ax=bl from rfl];refine(cT (loX a)).trans ?_;refine(cT (J1 a)).trans ?_;refine(Ym (r:=_) (by simp only[cw,cP a,c,d,e,f,g,h,i];exact m1)).trans ?_;refine(JT (b:=L.set n ((js fe (L.getD n bl).1 q).1,(L.getD n bl).2.1,(L.getD n bl).2.2.1,(L.getD n bl).2.2.2.1,(L.getD n bl).2.2.2.2.1,(L.getD n bl).2.2.2.2.2.1,(L.getD n bl).2.2.2.2.2.2.1,(L.getD n bl).2.2.2.2.2.2.2.1,(L.getD n bl).2.2.2.2.2.2.2.2.1,(L.getD n bl).2.2.2.2.2.2.2.2.2.1,(L.getD n bl).2.2.2.2.2.2.2.2.2.2)) (by simp only[cw,jt,cP a,qe])).trans ?_;refine(cT (Xm a)).trans ?_;refine(Ym (r:=_) (by simp only[cw,cP a,c,d,e,f,g,h,i];exact m2)).trans ?_;refine(JT (b:=L.set n ((js fe (L.getD n bl).1 q).1,(js fe (L.getD n bl).2.1 (js fe (L.getD n bl).1 q).2).1,(L.getD n bl).2.2.1,(L.getD n bl).2.2.2.1,(L.getD n bl).2.2.2.2.1,(L.getD n bl).2.2.2.2.2.1,(L.getD n bl).2.2.2.2.2.2.1,(L.getD n bl).2.2.2.2.2.2.2.1,(L.getD n bl).2.2.2.2.2.2.2.2.1,(L.getD n bl).2.2.2.2.2.2.2.2.2.1,(L.getD n bl).2.2.2.2.2.2.2.2.2.2)) (by simp only[cw,jt,cP a,qe])).trans ?_;refine(cT (Xm a)).trans ?_;refine(Ym (r:=_) (by simp only[cw,cP a,c,d,e,f,g,h,i];exact A)).trans ?_;refine(JT (b:=L.set n ((js fe (L.getD n bl).1 q).1,(js fe (L.getD n bl).2.1 (js fe (L.getD n bl).1 q).2).1,(js k7 (L.getD n bl).2.2.1 (js fe (L.getD n bl).2.1 (js fe (L.getD n bl).1 q).2).2).1,(L.getD n bl).2.2.2.1,(L.getD n bl).2.2.2.2.1,(L.getD n bl).2.2.2.2.2.1,(L.getD n bl).2.2.2.2.2.2.1,(L.getD n bl).2.2.2.2.2.2.2.1,(L.getD n bl).2.2.2.2.2.2.2.2.1,(L.getD n bl).2.2.2.2.2.2.2.2.2.1,(L.getD n bl).2.2.2.2.2.2.2.2.2.2)) (by simp only[cw,jt,cP a,qe])).trans ?_;refine(cT (Xm a)).trans ?_;refine(JT (b:=L.set n ((js fe (L.getD n bl).1 q).1,(js fe (L.getD n bl).2.1 (js fe (L.getD n bl).1 q).2).1,(js k7 (L.getD n bl).2.2.1 (js fe (L.getD n bl).2.1 (js fe (L.getD n bl).1 q).2).2).1,(js k7 (L.getD n bl).2.2.1 (js fe (L.getD n bl).2.1 (js fe (L.getD n bl).1 q).2).2).2,(L.getD n bl).2.2.2.2.1,(L.getD n bl).2.2.2.2.2.1,(L.getD n bl).2.2.2.2.2.2.1,(L.getD n bl).2.2.2.2.2.2.2.1,(L.getD n bl).2.2.2.2.2.2.2.2.1,(L.getD n bl).2.2.2.2.2.2.2.2.2.1,(L.getD n bl).2.2.2.2.2.2.2.2.2.2)) (by simp only[cw,jt,cP a,qe,c,d,e,f,g,h,i])).trans ?_;refine(cT (Xm a)).trans ?_;refine(JT (b:=L.set n ((js fe (L.getD n bl).1 q).1,(js fe (L.getD n bl).2.1 (js fe (L.getD n bl).1 q).2).1,(js k7 (L.getD n bl).2.2.1 (js fe (L.getD n bl).2.1 (js fe (L.getD n bl).1 q).2).2).1,(js k7 (L.getD n bl).2.2.1 (js fe (L.getD n bl).2.1 (js fe (L.getD n bl).1 q).2).2).2,(js k7 (L.getD n bl).2.2.1 (js fe (L.getD n bl).2.1 (js fe (L.getD n bl).1 q).2).2).2+1,(L.getD n bl).2.2.2.2.2.1,(L.getD n bl).2.2.2.2.2.2.1,(L.getD n bl).2.2.2.2.2.2.2.1,(L.getD n bl).2.2.2.2.2.2.2.2.1,(L.getD n bl).2.2.2.2.2.2.2.2.2.1,(L.getD n bl).2.2.2.2.2.2.2.2.2.2)) (by simp only[cw,jt,cP a,qe,c,d,e,f,g,h,i])).trans ?_;refine(cF z3F).trans ?_;refine(cT (Xm a)).trans ?_;refine(JT (b:=L.set n ((js fe (L.getD n bl).1 q).1,(js fe (L.getD n bl).2.1 (js fe (L.getD n bl).1 q).2).1,(js k7 (L.getD n bl).2.2.1 (js fe (L.getD n bl).2.1 (js fe (L.getD n bl).1 q).2).2).1,(js k7 (L.getD n bl).2.2.1 (js fe (L.getD n bl).2.1 (js fe (L.getD n bl).1 q).2).2).2,(js k7 (L.getD n bl).2.2.1 (js fe (L.getD n bl).2.1 (js fe (L.getD n bl).1 q).2).2).2+1,ak .eql (aa .rem .i64 ((js k7 (L.getD n bl).2.2.1 (js fe (L.getD n bl).2.1 (js fe (L.getD n bl).1 q).2).2).2+2) 3) 0,(L.getD n bl).2.2.2.2.2.2.1,(L.getD n bl).2.2.2.2.2.2.2.1,(L.getD n bl).2.2.2.2.2.2.2.2.1,(L.getD n bl).2.2.2.2.2.2.2.2.2.1,(L.getD n bl).2.2.2.2.2.2.2.2.2.2)) (by simp only[cw,jt,cP a,qe,c,d,e,f,g,h,i])).trans ?_;refine(cF z3F).trans ?_;refine(cT (Xm a)).trans ?_;refine(JT (b:=L.set n ((js fe (L.getD n bl).1 q).1,(js fe (L.getD n bl).2.1 (js fe (L.getD n bl).1 q).2).1,(js k7 (L.getD n bl).2.2.1 (js fe (L.getD n bl).2.1 (js fe (L.getD n bl).1 q).2).2).1,(js k7 (L.getD n bl).2.2.1 (js fe (L.getD n bl).2.1 (js fe (L.getD n bl).1 q).2).2).2,(js k7 (L.getD n bl).2.2.1 (js fe (L.getD n bl).2.1 (js fe (L.getD n bl).1 q).2).2).2+1,ak .eql (aa .rem .i64 ((js k7 (L.getD n bl).2.2.1 (js fe (L.getD n bl).2.1 (js fe (L.getD n bl).1 q).2).2).2+2) 3) 0,ak .eql (aa .rem .i64 ((js k7 (L.getD n bl).2.2.1 (js fe (L.getD n bl).2.1 (js fe (L.getD n bl).1 q).2).2).2+3) 3) 0,(L.getD n bl).2.2.2.2.2.2.2.1,(L.getD n bl).2.2.2.2.2.2.2.2.1,(L.getD n bl).2.2.2.2.2.2.2.2.2.1,(L.getD n bl).2.2.2.2.2.2.2.2.2.2)) (by simp only[cw,jt,cP a,qe,c,d,e,f,g,h,i])).trans ?_;refine(cF z3F).trans ?_;refine(JT (b:=ak .eql (aa .rem .i64 ((js k7 (L.getD n bl).2.2.1 (js fe (L.getD n bl).2.1 (js fe (L.getD n bl).1 q).2).2).2+4) 3) 0) (by simp only[c,d,e,f])).trans ?_;refine(cT (Xm a)).trans ?_;refine(JT (b:=L.set n ((js fe (L.getD n bl).1 q).1,(js fe (L.getD n bl).2.1 (js fe (L.getD n bl).1 q).2).1,(js k7 (L.getD n bl).2.2.1 (js fe (L.getD n bl).2.1 (js fe (L.getD n bl).1 q).2).2).1,(js k7 (L.getD n bl).2.2.1 (js fe (L.getD n bl).2.1 (js fe (L.getD n bl).1 q).2).2).2,(js k7 (L.getD n bl).2.2.1 (js fe (L.getD n bl).2.1 (js fe (L.getD n bl).1 q).2).2).2+1,ak .eql (aa .rem .i64 ((js k7 (L.getD n bl).2.2.1 (js fe (L.getD n bl).2.1 (js fe (L.getD n bl).1 q).2).2).2+2) 3) 0,ak .eql (aa .rem .i64 ((js k7 (L.getD n bl).2.2.1 (js fe (L.getD n bl).2.1 (js fe (L.getD n bl).1 q).2).2).2+3) 3) 0,ak .eql (aa .rem .i64 ((js k7 (L.getD n bl).2.2.1 (js fe (L.getD n bl).2.1 (js fe (L.getD n bl).1 q).2).2).2+4) 3) 0,(L.getD n bl).2.2.2.2.2.2.2.2.1,(L.getD n bl).2.2.2.2.2.2.2.2.2.1,(L.getD n bl).2.2.2.2.2.2.2.2.2.2)) (by simp only[cw,jt,cP a,qe])).trans ?_;refine(cT (Xm a)).trans ?_;refine(JT (b:=L.set n ((js fe (L.getD n bl).1 q).1,(js fe (L.getD n bl).2.1 (js fe (L.getD n bl).1 q).2).1,(js k7 (L.getD n bl).2.2.1 (js fe (L.getD n bl).2.1 (js fe (L.getD n bl).1 q).2).2).1,(js k7 (L.getD n bl).2.2.1 (js fe (L.getD n bl).2.1 (js fe (L.getD n bl).1 q).2).2).2,(js k7 (L.getD n bl).2.2.1 (js fe (L.getD n bl).2.1 (js fe (L.getD n bl).1 q).2).2).2+1,ak .eql (aa .rem .i64 ((js k7 (L.getD n bl).2.2.1 (js fe (L.getD n bl).2.1 (js fe (L.getD n bl).1 q).2).2).2+2) 3) 0,ak .eql (aa .rem .i64 ((js k7 (L.getD n bl).2.2.1 (js fe (L.getD n bl).2.1 (js fe (L.getD n bl).1 q).2).2).2+3) 3) 0,ak .eql (aa .rem .i64 ((js k7 (L.getD n bl).2.2.1 (js fe (L.getD n bl).2.1 (js fe (L.getD n bl).1 q).2).2).2+4) 3) 0,(js k7 (L.getD n bl).2.2.1 (js fe (L.getD n bl).2.1 (js fe (L.getD n bl).1 q).2).2).2+5,(L.getD n bl).2.2.2.2.2.2.2.2.2.1,(L.getD n bl).2.2.2.2.2.2.2.2.2.2)) (by simp only[cw,jt,cP a,qe,c,d,e,f,g,h,i])).trans ?_;refine(JT (b:=(js k7 (L.getD n bl).2.2.1 (js fe (L.getD n bl).2.1 (js fe (L.getD n bl).1 q).2).2).2+6) (by simp only[c,d,e,f,g,h])).trans ?_;refine(cT (Xm a)).trans ?_;refine(JT (b:=L.set n ((js fe (L.getD n bl).1 q).1,(js fe (L.getD n bl).2.1 (js fe (L.getD n bl).1 q).2).1,(js k7 (L.getD n bl).2.2.1 (js fe (L.getD n bl).2.1 (js fe (L.getD n bl).1 q).2).2).1,(js k7 (L.getD n bl).2.2.1 (js fe (L.getD n bl).2.1 (js fe (L.getD n bl).1 q).2).2).2,(js k7 (L.getD n bl).2.2.1 (js fe (L.getD n bl).2.1 (js fe (L.getD n bl).1 q).2).2).2+1,ak .eql (aa .rem .i64 ((js k7 (L.getD n bl).2.2.1 (js fe (L.getD n bl).2.1 (js fe (L.getD n bl).1 q).2).2).2+2) 3) 0,ak .eql (aa .rem .i64 ((js k7 (L.getD n bl).2.2.1 (js fe (L.getD n bl).2.1 (js fe (L.getD n bl).1 q).2).2).2+3) 3) 0,ak .eql (aa .rem .i64 ((js k7 (L.getD n bl).2.2.1 (js fe (L.getD n bl).2.1 (js fe (L.getD n bl).1 q).2).2).2+4) 3) 0,(js k7 (L.getD n bl).2.2.1 (js fe (L.getD n bl).2.1 (js fe (L.getD n bl).1 q).2).2).2+5,(js k7 (L.getD n bl).2.2.1 (js fe (L.getD n bl).2.1 (js fe (L.getD n bl).1 q).2).2).2+6,(L.getD n bl).2.2.2.2.2.2.2.2.2.2)) (by simp only[cw,jt,cP a,qe])).trans ?_;refine(cT (Xm a)).trans ?_;refine(Ym (r:=_) (by simp only[cw,cP a,c,d,e,f,g,h,i];exact B)).trans ?_;refine(JT (b:=L.set n ((js fe (L.getD n bl).1 q).1,(js fe (L.getD n bl).2.1 (js fe (L.getD n bl).1 q).2).1,(js k7 (L.getD n bl).2.2.1 (js fe (L.getD n bl).2.1 (js fe (L.getD n bl).1 q).2).2).1,(js k7 (L.getD n bl).2.2.1 (js fe (L.getD n bl).2.1 (js fe (L.getD n bl).1 q).2).2).2,(js k7 (L.getD n bl).2.2.1 (js fe (L.getD n bl).2.1 (js fe (L.getD n bl).1 q).2).2).2+1,ak .eql (aa .rem .i64 ((js k7 (L.getD n bl).2.2.1 (js fe (L.getD n bl).2.1 (js fe (L.getD n bl).1 q).2).2).2+2) 3) 0,ak .eql (aa .rem .i64 ((js k7 (L.getD n bl).2.2.1 (js fe (L.getD n bl).2.1 (js fe (L.getD n bl).1 q).2).2).2+3) 3) 0,ak .eql (aa .rem .i64 ((js k7 (L.getD n bl).2.2.1 (js fe (L.getD n bl).2.1 (js fe (L.getD n bl).1 q).2).2).2+4) 3) 0,(js k7 (L.getD n bl).2.2.1 (js fe (L.getD n bl).2.1 (js fe (L.getD n bl).1 q).2).2).2+5,(js k7 (L.getD n bl).2.2.1 (js fe (L.getD n bl).2.1 (js fe (L.getD n bl).1 q).2).2).2+6,Pj ((js k7 (L.getD n bl).2.2.1 (js fe (L.getD n bl).2.1 (js fe (L.getD n bl).1 q).2).2).2+7) (L.getD n bl).2.2.2.2.2.2.2.2.2.2.length)) (by simp only[cw,jt,cP a,qe])).trans ?_;simp only[eW (n:=n) (by omega)]
  .unfold O1;simp only[bP,eL,ct,aW]
 rw[this];rfl
def acS(l:List Site)(k:Int)(x:l.length<=1073741824)(t:∀n,n<l.length->Np 1073741824 (l.getD n bl))(s:0<=k)(I:k+(JG J6 l:Nat)<=274877906944):OV (js KX l k).1 k=some ((js KX l k).2,()):=by
 unfold OV;have:OX ((js KX l k).1,()) (k,0,())=some (.inr (.inl ((js KX l k).2,()))):=by
  refine VN (cost:=J6) bl l k x s aah (λq n c v w u=>?_) (λJ=>?_)
  .have y:n<(js KX l k).1.length:=by rw[KK];exact c
   have a:ae ax (js KX l k).1 (n:Int)=(KX q (l.getD n bl)).1:=by rw[cw];exact u
   obtain⟨m,o,p,r,c5⟩:=t n c;have b:2*(l.getD n bl).1.length+2*(l.getD n bl).2.1.length+JG Ml (l.getD n bl).2.2.1+7+7*(l.getD n bl).2.2.2.2.2.2.2.2.2.2.length<=JG J6 l:=ZQ J6 bl c;have F:=acr (l.getD n bl).1 q;have G:=acr (l.getD n bl).2.1 (js fe (l.getD n bl).1 q).2;have H:=Tm XA (l.getD n bl).2.2.1 (js fe (l.getD n bl).2.1 (js fe (l.getD n bl).1 q).2).2;have d:aa .add .i64 ((js k7 (l.getD n bl).2.2.1 (js fe (l.getD n bl).2.1 (js fe (l.getD n bl).1 q).2).2).2) 1=(js k7 (l.getD n bl).2.2.1 (js fe (l.getD n bl).2.1 (js fe (l.getD n bl).1 q).2).2).2+1:=JA (by omega) (by omega) (by omega);have e:aa .add .i64 ((js k7 (l.getD n bl).2.2.1 (js fe (l.getD n bl).2.1 (js fe (l.getD n bl).1 q).2).2).2+1) 1=(js k7 (l.getD n bl).2.2.1 (js fe (l.getD n bl).2.1 (js fe (l.getD n bl).1 q).2).2).2+2:=JA (by omega) (by omega) (by omega);have f:aa .add .i64 ((js k7 (l.getD n bl).2.2.1 (js fe (l.getD n bl).2.1 (js fe (l.getD n bl).1 q).2).2).2+2) 1=(js k7 (l.getD n bl).2.2.1 (js fe (l.getD n bl).2.1 (js fe (l.getD n bl).1 q).2).2).2+3:=JA (by omega) (by omega) (by omega);have g:aa .add .i64 ((js k7 (l.getD n bl).2.2.1 (js fe (l.getD n bl).2.1 (js fe (l.getD n bl).1 q).2).2).2+3) 1=(js k7 (l.getD n bl).2.2.1 (js fe (l.getD n bl).2.1 (js fe (l.getD n bl).1 q).2).2).2+4:=JA (by omega) (by omega) (by omega);have h:aa .add .i64 ((js k7 (l.getD n bl).2.2.1 (js fe (l.getD n bl).2.1 (js fe (l.getD n bl).1 q).2).2).2+4) 1=(js k7 (l.getD n bl).2.2.1 (js fe (l.getD n bl).2.1 (js fe (l.getD n bl).1 q).2).2).2+5:=JA (by omega) (by omega) (by omega);have i:aa .add .i64 ((js k7 (l.getD n bl).2.2.1 (js fe (l.getD n bl).2.1 (js fe (l.getD n bl).1 q).2).2).2+5) 1=(js k7 (l.getD n bl).2.2.1 (js fe (l.getD n bl).2.1 (js fe (l.getD n bl).1 q).2).2).2+6:=JA (by omega) (by omega) (by omega);have j:aa .add .i64 ((js k7 (l.getD n bl).2.2.1 (js fe (l.getD n bl).2.1 (js fe (l.getD n bl).1 q).2).2).2+6) 1=(js k7 (l.getD n bl).2.2.1 (js fe (l.getD n bl).2.1 (js fe (l.getD n bl).1 q).2).2).2+7:=JA (by omega) (by omega) (by omega);have m1:=Y8 (l.getD n bl).1 q m (by omega) (by omega);have m2:=Y8 (l.getD n bl).2.1 (js fe (l.getD n bl).1 q).2 o (by omega) (by omega);have z:=abf (l.getD n bl).2.2.1 (js fe (l.getD n bl).2.1 (js fe (l.getD n bl).1 q).2).2 p r (by omega) (by omega);have A:=Yn (l.getD n bl).2.2.2.2.2.2.2.2.2.2.length ((js k7 (l.getD n bl).2.2.1 (js fe (l.getD n bl).2.1 (js fe (l.getD n bl).1 q).2).2).2+7) c5 (by omega) (by omega);have B:ak .lss (js fe (l.getD n bl).1 q).2 0=false:=Jp (by omega);have C:ak .lss (js fe (l.getD n bl).2.1 (js fe (l.getD n bl).1 q).2).2 0=false:=Jp (by omega);have D:ak .lss ((js k7 (l.getD n bl).2.2.1 (js fe (l.getD n bl).2.1 (js fe (l.getD n bl).1 q).2).2).2) 0=false:=Jp (by omega);have E:ak .lss ((js k7 (l.getD n bl).2.2.1 (js fe (l.getD n bl).2.1 (js fe (l.getD n bl).1 q).2).2).2+7+7*((l.getD n bl).2.2.2.2.2.2.2.2.2.2.length:Int)) 0=false:=Jp (by omega);unfold OW;simp only[bP,dX,y,bu,az,eW (n:=n) (by omega),a,KX,k3,d,e,f,g,h,i,j,I9,aW,z3F,ML,fu,jE,m1,m2,z,A,B,C,D,E,aX]
  .unfold OW;have:=KK KX l k;simp only[<-this,bP,eL,ct,aW]
 rw[this];rfl
def QN(s:List Site)(p:List Oc)(g:List PM)(j:List Ev):Nat:=JG J6 s+13*p.length+7*g.length+7*j.length
def nmS(k:Int)(s:List Site):List Site×Int:=js KX s k
def nmP(k:Int)(s:List Site)(p:List Oc):List Oc×Int:=js PS p (nmS k s).2
def nmG(k:Int)(s:List Site)(p:List Oc)(g:List PM):List PM×Int:=js PR g (nmP k s p).2
def nmE(k:Int)(s:List Site)(p:List Oc)(g:List PM)(j:List Ev):Int:=(nmG k s p g).2+7*(j.length:Int)
section
variable (a0 a1 a2 a3 a4 a5 a6 a7 a8 a9 a10:Int)(s:List Site)(p:List Oc)(g:List PM)(j:List Ev)(k:Int)
def afb:(k<=(nmS k s).2/\(nmS k s).2<=k+(JG J6 s:Nat))/\((nmS k s).2<=(nmP k s p).2/\(nmP k s p).2<=(nmS k s).2+(13*p.length:Nat))/\((nmP k s p).2<=(nmG k s p g).2/\(nmG k s p g).2<=(nmP k s p).2+(7*g.length:Nat)):=by have c:=Tm aah s k;have a:=Tm abu p (nmS k s).2;have b:=Tm abt g (nmP k s p).2;rw[JS]at a b;exact⟨c,a,b⟩
def Xz(h:TJ s p g j)(a:0<=k)(b:k+(QN s p g j:Nat)<=137438953472):
  K9 a0 a1 a2 a3 a4 a5 a6 a7 a8 a9 a10 s p g j k=some (nmE k s p g j,(nmS k s).1,(nmP k s p).1,(nmG k s p g).1,Pj (nmG k s p g).2 j.length,()):=by
 have f:=h.ls;have i:=h.lp;have l:=h.lg;have m:=h.lj;obtain⟨c,d,e⟩:=afb s p g k;unfold QN at b;unfold K9;rw[ac6 s k (by omega) h.ss a (by omega)];simp only[aX];rw[show(js KX s k).2=(nmS k s).2 from rfl,abq p (nmS k s).2 (by omega) (by omega) (by omega)];simp only[aX];rw[show(js PS p (nmS k s).2).2=(nmP k s p).2 from rfl,abW g (nmP k s p).2 (by omega) (by omega) (by omega)];simp only[aX];rw[show(js PR g (nmP k s p).2).2=(nmG k s p g).2 from rfl,Yv j (nmG k s p g).2 (by omega) (by omega) (by omega)];rfl
def abg(h:TJ s p g j)(b:0<=k)(c:k+(QN s p g j:Nat)<=137438953472):
  MA a0 a1 a2 a3 a4 a5 a6 a7 a8 a9 a10 (nmS k s).1 (nmP k s p).1 (nmG k s p g).1 (Pj (nmG k s p g).2 j.length) k=some (nmE k s p g j,()):=by
 have i:=h.ls;have l:=h.lp;have m:=h.lg;have n:=h.lj;obtain⟨d,e,f⟩:=afb s p g k;unfold QN at c;unfold MA;rw[show(nmS k s).1=(js KX s k).1 from rfl,acS s k (by omega) h.ss b (by omega)];simp only[aX];rw[show(js KX s k).2=(nmS k s).2 from rfl,Jp (a:=(nmS k s).2) (by omega),show(nmP k s p).1=(js PS p (nmS k s).2).1 from rfl,abh p (nmS k s).2 (by omega) (by omega) (by omega)];simp only[aX,aW];rw[show(js PS p (nmS k s).2).2=(nmP k s p).2 from rfl,Jp (a:=(nmP k s p).2) (by omega),show(nmG k s p g).1=(js PR g (nmP k s p).2).1 from rfl,abV g (nmP k s p).2 (by omega) (by omega) (by omega)];simp only[aX,aW];rw[show(js PR g (nmP k s p).2).2=(nmG k s p g).2 from rfl,Jp (a:=(nmG k s p g).2) (by omega),Yn j.length (nmG k s p g).2 (by omega) (by omega) (by omega)];simp only[aX,aW];rw[Jp (a:=(nmG k s p g).2+7*(j.length:Int)) (by omega)];rfl
def abv(d:0<=k):0<=nmE k s p g j:=by obtain⟨a,b,c⟩:=afb s p g k;unfold nmE;omega
end
abbrev Wk:=List M8×List M8
def aej {α:Type} {body:Int×Int×Unit->Option ((Int×Int×Unit)⊕(Int×Unit⊕(Int×Unit⊕Empty)))} (z:α) (d:α->Nat) (l:List α) (B:l.length<=1073741824)
  (h:∀(n:Nat) (a:Int),n<l.length->0<=a->a<=1048576->body (a,(n:Int),())=some (.inr (.inl (-1,())))\/∃b,body (a,(n:Int),())=some (.inl (b,((n+1:Nat):Int),()))/\0<=b/\b+(d (l.getD n z):Nat)<=a)
  (f:∀a,body (a,(l.length:Int),())=some (.inr (.inr (.inl (a,()))))) (a:Int) (s:0<=a) (j:a<=1048576):
  ∃y,iter body big (a,0,())=some y/\(y=.inl (-1,())\/∃b,y=.inr (.inl (b,()))/\0<=b/\b+(JG d l:Nat)<=a):=by
 have m:∀(k n:Nat) (a:Int),n+k=l.length->0<=a->a<=1048576->∃y,iter body (k+1) (a,(n:Int),())=some y/\(y=.inl (-1,())\/∃b,y=.inr (.inl (b,()))/\0<=b/\b+(JG d (l.drop n):Nat)<=a):=by
  intro k;induction k with
  |zero=>
   intro n a t i g;have:n=l.length:=by omega
   subst this;refine⟨_,cJ (f a),.inr ⟨a,rfl,i,?_⟩⟩;rw[aaW];show a+(0:Int)<=a;omega
  |succ k u=>
   intro n a t i g;have e:n<l.length:=by omega
   rcases h n a e i g with h|⟨b,h,o,x⟩
   .exact⟨_,cJ h,.inl rfl⟩
   .obtain⟨y,v,w⟩:=u (n+1) b (by omega) o (by omega);refine⟨y,by rw[fz h];exact v,w.imp id λ⟨c,p,q,A⟩=>⟨c,p,q,?_⟩⟩;have hd:l.drop n=l.getD n z::l.drop (n+1):=by rw[xD e,dG,bR e];rfl
    rw[hd];simp only[JG];omega
 obtain⟨y,g,r⟩:=m l.length 0 a (by omega) s j;exact⟨y,gP g (i7 (by omega)),r⟩
def aho(c:LK):Nat:=c.2.1.length+c.2.2.length
def aa0(l:List LK):Nat:=l.length+JG aho l
def adp(f:Int)(c:List Int)(d:List Bx)(a:Int)(g:c.length<=9223372036854775807)(h:d.length<=9223372036854775807)(i:0<=a)(e:a<=1048576):
  ∃b,KW f c d a=some (b,())/\(b = -1\/(0<=b/\b+(c.length+d.length:Nat)<=a)):=by
 unfold KW;rw[acv c a g i e];simp only[aX];cases hd:decide (a<(c.length:Int))with
 |true=>exact⟨-1,rfl,.inl rfl⟩
 |false=>
  have hd:=Jx hd;simp only[aW];rw[Jp (by omega)];simp only[aW];rw[acu d _ h (by omega) (by omega)];simp only[aX];cases Ba:decide (a-(c.length:Int)<(d.length:Int))with
  |true=>exact⟨-1,rfl,.inl rfl⟩
  |false=>have Ba:=Jx Ba;simp only[aW];rw[Jp (by omega)];exact⟨_,rfl,.inr ⟨by omega,by omega⟩⟩
def abY(l:List LK)(a:Int)(w:l.length<=9223372036854775807)(r:∀c∈l,VK 9223372036854775807 c)(v:0<=a)(q:a<=1048576):
  ∃b,La l a=some (b,())/\(b = -1\/(0<=b/\b+(aa0 l:Nat)<=a)):=by
 unfold La;have f:aa .sub .i64 a (bw l)=a-(l.length:Int):=vm (by unfold bw;omega) (by unfold bw;omega);have p:ak .lss (a-(l.length:Int)) 0=decide (a<(l.length:Int)):=by simp only[ak,Oi];omega
 rw[f,p];cases hd:decide (a<(l.length:Int))with
 |true=>exact⟨-1,rfl,.inl rfl⟩
 |false=>
  have hd:=Jx hd;have d:l.length<=1073741824:=by omega
  obtain⟨y,s,t⟩:=aej (body:=Jz (l,())) br aho l d (λn a h o f=>by
   obtain⟨i,j⟩:=r _ (J4 h br);obtain⟨b,k,m⟩:=adp (l.getD n br).1 (l.getD n br).2.1 (l.getD n br).2.2 a i j o f;unfold Jz;simp only[bP,dX,h,bu,az,cw,jE,eW (n:=n) (show n<1099511627776 by omega),k,aX];rcases m with rfl|⟨g,e⟩
   .exact .inl rfl
   .rw[Jp g];exact .inr ⟨b,rfl,g,e⟩) (λa=>by
   unfold Jz;simp only[bP,eL,ct,aW]) (a-(l.length:Int)) (by omega) (by omega)
  simp only[aW];unfold LU;rw[s];rcases t with rfl|⟨b,rfl,e,u⟩
  .exact⟨-1,rfl,.inl rfl⟩
  .exact⟨b,rfl,.inr ⟨e,by unfold aa0;omega⟩⟩
def ain(l:List LK):Prop:=l.length<=1073741824/\∀m,m<l.length->VK 1073741824 (l.getD m JL)
def ab4(l:List M8)(b:l.length<=1073741824):It l=some (l,()):=by
 unfold It;have a:dF (List.append (α:=M8) ([]:List M8) l)=true:=rm b;rw[a];cases l with
 |nil=>exact CZ _
 |cons x l=>rw[show ak .gtr (bw (x::l)) (0:Int)=true from gt0 l.length];rfl
def af7(l:List Bx)(b:l.length<=1073741824):Jo l=some (l,()):=by
 unfold Jo;have a:dF (List.append (α:=Bx) ([]:List Bx) l)=true:=rm b;rw[a];cases l with
 |nil=>exact CZ _
 |cons x l=>rw[show ak .gtr (bw (x::l)) (0:Int)=true from gt0 l.length];rfl
def adF(o c:List M8)(b:o.length<=1073741824)(a:c.length<=1073741824):QB o c=some (o,c,()):=by unfold QB;rw[ab4 o b,ab4 c a];rfl
def ae6(o c:List M8)(b:o.length<=1073741824)(a:c.length<=1073741824):SM o c=some (o,c,()):=by unfold SM;rw[show dF (List.append (α:=M8) ([]:List M8) o)=true from rm b,show dF (List.append (α:=M8) ([]:List M8) c)=true from rm a];rfl
def Vl(h:Int)(f:List Int)(b:List Bx)(c:f.length<=1073741824)(a:b.length<=1073741824):KH h f b=some (h,f,b,()):=by unfold KH;rw[ahl f c,af7 b a];rfl
def abn(h:Int)(f:List Int)(b:List Bx)(c:f.length<=1073741824)(a:b.length<=1073741824):PE h f b=some (h,f,b,()):=by unfold PE;rw[show dF (List.append (α:=Int) ([]:List Int) f)=true from rm c,show dF (List.append (α:=Bx) ([]:List Bx) b)=true from rm a];rfl
def Xf(l:List LK)(h:ain l):LH l=some (l,()):=by
 obtain⟨f,d⟩:=h;unfold LH;have:Mu (l,bw l,()) ([],0,())=some (.inl (l,())):=by
  have:=lc (body:=Mt (l,bw l,())) (λn=>(l.take n,(n:Int),())) l.length (by omega) (.inl (l,())) (λn a=>?_) ?_
  .unfold Mu;simpa using this
  .obtain⟨b,c⟩:=d n a;have e:dF (List.append (α:=LK) (l.take n) (List.append (α:=LK) [] [((l.getD n JL).1,(l.getD n JL).2.1,(l.getD n JL).2.2)]))=true:=rm (by show(l.take n++([]++[_])).length<=_;rw[cR,dB];show _+1<=_;omega);unfold Mt;simp only[bP,dX,a,bu,az,cw,eW (n:=n) (show n<1099511627776 by omega)];rw[show br=JL from rfl,Vl _ _ _ b c];simp only[aX];rw[e,Le a JL];rfl
  .unfold Mt;simp only[bP,eL,ct,aW,Kj]
 rw[this];rfl
def TC(l:List LK)(h:ain l):Ks l=some (l,()):=by
 obtain⟨f,d⟩:=h;unfold Ks;have:K3 (l,()) ([],0,())=some (.inl (l,())):=by
  have:=lc (body:=K2 (l,())) (λn=>(l.take n,(n:Int),())) l.length (by omega) (.inl (l,())) (λn a=>?_) ?_
  .unfold K3;simpa using this
  .obtain⟨b,c⟩:=d n a;have e:dF (List.append (α:=LK) (l.take n) (List.append (α:=LK) [] [((l.getD n JL).1,(l.getD n JL).2.1,(l.getD n JL).2.2)]))=true:=rm (by show(l.take n++([]++[_])).length<=_;rw[cR,dB];show _+1<=_;omega);unfold K2;simp only[bP,dX,a,bu,az,cw,eW (n:=n) (show n<1099511627776 by omega)];rw[show br=JL from rfl,abn _ _ _ b c];simp only[aX];rw[e,Le a JL];rfl
  .unfold K2;simp only[bP,eL,ct,aW,Kj]
 rw[this];rfl
def aa3:∀l:List LK,JG Ml l<=4*aa0 l
 |[]=>kU _
 |c::l=>by have:=aa3 l;unfold aa0 at this⊢;simp only[JG,Ml,aho,cK]at this⊢;omega
def Nq(a:YaK)(b:YbV):YcC:=letI c:=a.2.2.2.2.2.2.2.2.2.2.2.1;cond (ak .lss b.2.1 (bw c)) (cond (aZ c b.2.1) ((Kz b.1 (ae ax c b.2.1).2.2.2.2.2.2.2.2.2.2).bind λd=>cond (Bool.not d.2.1) (some (.inr (.inl (([]:JH),false,())))) (some (.inl (d.1,aa .add .i64 b.2.1 1,())))) none) (some (.inr (.inr (.inl (b.1,())))))
def K4 k x:=iter (Nq k) big x
def M2(a b c d e f g h i j k:Int)(l:Lj)(m:KT)(n:JX)(o:JH):YcB:=cond (dF (List.append (α:=Ka) ([]:JH) o)) ((K4 (a,b,c,d,e,f,g,h,i,j,k,l,m,n,o,()) (List.append (α:=Ka) ([]:JH) o,0,())).bind λp=>Sum.elim (λq=>some (q.1,q.2.1,())) (λq=>Sum.elim (λr=>some (r.1,true,())) (λr=>Empty.elim r) q) p) none
def Tx(a:YdW)(b:YbV):YcC:=cond (ak .lss b.2.1 a.2.1) (cond (aZ a.1 b.2.1) ((Kv b.1 (ae ax a.1 b.2.1).2.2.2.2.2.2.2.2.2.2).bind λc=>cond (Bool.not c.2.1) (some (.inr (.inl (([]:JH),false,())))) (some (.inl (c.1,aa .add .i64 b.2.1 1,())))) none) (some (.inr (.inr (.inl (b.1,())))))
def OK k x:=iter (Tx k) big x
def Ko(a b c d e f g h i j k:Int)(l:Lj)(m:KT)(n:JX)(o:JH):YcB:=(kS o).bind λp=>(OK (l,bw l,()) (p.1,0,())).bind λq=>Sum.elim (λr=>some (r.1,r.2.1,())) (λr=>Sum.elim (λs=>some (s.1,true,())) (λs=>Empty.elim s) r) q
def aal(x:Site):Nat:=x.1.length+x.2.1.length+aa0 x.2.2.1+x.2.2.2.2.2.2.2.2.2.2.length
def afo(x:Site)(a:Int)(h:abD x)(g:0<=a)(c:a<=1048576):
  ∃b,N6 x.1 x.2.1 x.2.2.1 x.2.2.2.1 x.2.2.2.2.1 x.2.2.2.2.2.1 x.2.2.2.2.2.2.1 x.2.2.2.2.2.2.2.1 x.2.2.2.2.2.2.2.2.1 x.2.2.2.2.2.2.2.2.2.1 x.2.2.2.2.2.2.2.2.2.2 a=some (b,())/\(b = -1\/(0<=b/\b+(aal x:Nat)<=a)):=by
 unfold N6;rw[acw _ _ a h.o h.c g c];simp only[aX];cases hd:decide (a<(x.1.length:Int)+(x.2.1.length:Int))with
 |true=>exact⟨-1,rfl,.inl rfl⟩
 |false=>
  have hd:=Jx hd;simp only[aW];rw[Jp (by omega)];simp only[aW];obtain⟨b,e,f⟩:=abY x.2.2.1 (a-(x.1.length:Int)-(x.2.1.length:Int)) h.b h.bs (by omega) (by omega);rw[e];simp only[aX];rcases f with rfl|⟨d,i⟩
  .exact⟨-1,rfl,.inl rfl⟩
  .rw[Jp d];simp only[aW];rw[abG _ b h.j d (by omega)];simp only[aX];cases Ba:decide (b<(x.2.2.2.2.2.2.2.2.2.2.length:Int))with
   |true=>exact⟨-1,rfl,.inl rfl⟩
   |false=>have Ba:=Jx Ba;simp only[aW];rw[Jp (by omega)];exact⟨_,rfl,.inr ⟨by omega,by unfold aal;omega⟩⟩
def aer(l:List Site)(a:Int)(z:l.length<=9223372036854775807)(t:∀c∈l,abD c)(x:0<=a)(r:a<=1048576):
  ∃b,KO l a=some (b,())/\(b = -1\/(0<=b/\b+(l.length+JG aal l:Nat)<=a)):=by
 unfold KO;have f:aa .sub .i64 a (bw l)=a-(l.length:Int):=vm (by unfold bw;omega) (by unfold bw;omega);have p:ak .lss (a-(l.length:Int)) 0=decide (a<(l.length:Int)):=by simp only[ak,Oi];omega
 rw[f,p];cases hd:decide (a<(l.length:Int))with
 |true=>exact⟨-1,rfl,.inl rfl⟩
 |false=>
  have hd:=Jx hd;have d:l.length<=1073741824:=by omega
  obtain⟨y,u,v⟩:=aej (body:=JF (l,())) bl aal l d (λn a i o f=>by
   obtain⟨b,k,m⟩:=afo (l.getD n bl) a (t _ (J4 i bl)) o f;have s:JF (l,()) (a,(n:Int),())=(bif ak .lss b 0 then some (.inr (.inl (-1,())))else some (.inl (b,((n+1:Nat):Int),()))):=by unfold JF;simp only[bP,dX,i,bu,az,cw,jE,eW (n:=n) (show n<1099511627776 by omega)];have g:=gi (λq=>q.bind λ(j:Int×Unit)=>(bif (ak .lss j.1 (0:Int))then some (.inr (.inl ((-1:Int),())))else some (.inl (j.1,((n+1:Nat):Int),())):Option ((Int×Int×Unit)⊕(Int×Unit⊕(Int×Unit⊕Empty))))) k;exact g
   rw[s];rcases m with rfl|⟨h,e⟩
   .exact .inl rfl
   .rw[Jp h];exact .inr ⟨b,rfl,h,e⟩) (λa=>by
   unfold JF;simp only[bP,eL,ct,aW]) (a-(l.length:Int)) (by omega) (by omega)
  simp only[aW];unfold ND;rw[u];rcases v with rfl|⟨b,rfl,e,w⟩
  .exact⟨-1,rfl,.inl rfl⟩
  .exact⟨b,rfl,.inr ⟨e,by omega⟩⟩
def aax:∀l:List Site,JG J6 l<=7*(l.length+JG aal l)
 |[]=>kU _
 |x::l=>by have a:=aax l;have b:=aa3 x.2.2.1;simp only[JG,J6,aal,cK];omega
section
variable (a0 a1 a2 a3 a4 a5 a6 a7 a8 a9 a10:Int)(s:List Site)(p:List Oc)(g:List PM)(j:List Ev)
def ai8(a b:Int)(h:ahX s p g j)(k:0<=a)(d:a<=1048576)(e:Lb a0 a1 a2 a3 a4 a5 a6 a7 a8 a9 a10 s p g j a=some (b,()))(o:0<=b)(c:TJ s p g j):QN s p g j<=68719476736:=by
 have q:JG J6 s<=7340032:=by
  obtain⟨y,f,i⟩:=aer s a h.ls h.ss k d;unfold Lb at e;rw[f]at e;rcases i with rfl|⟨r,t⟩
  .have:some ((-1:Int),())=some (b,()):=e;injection this with this
   injection this with this
   omega
  .have:=aax s;omega
 have l:=c.lp;have m:=c.lg;have n:=c.lj;unfold QN;omega
end
def JQ(a:YcW)(b:NP):Option (NP⊕NP⊕Empty):=letI c:=b.2.1;cond (ak .gtr b.1 0) (cond (ak .lss c 20000) ((MU a.1 a.2.1 c).bind λd=>letI e:=aa .add .i64 c 1;cond d.1 (some (.inl (aa .sub .i64 b.1 1,e,()))) (some (.inl (b.1,e,())))) (some (.inr (.inl (b.1,c,()))))) (some (.inr (.inl (b.1,c,()))))
def LY k x:=iter (JQ k) big x
def J8(a b:NO)(c d:Int):YcS:=(KR a b).bind λe=>letI f:=some ((0:Int),false,());cond (Bool.not e.1) f ((dr c 0 20000).bind λg=>cond (Bool.not g.1) f ((LY (a,b,()) (d,c,())).bind λh=>Sum.elim (λi=>cond (ak .neq i.1 0) f (some (i.2.1,true,()))) (λi=>Empty.elim i) h))
def KJ(a b:NO)(c d e f g h i j k l:Int):YcS:=(MT c d e f g h i j).bind λm=>letI n:=some ((0:Int),false,());cond (Bool.not m.1) n ((dr l 0 j).bind λo=>cond (Bool.not o.1) n ((J8 a b k (aa .add .i64 c (aa .mul .i64 h l))).bind λp=>some (p.1,p.2.1,())))
def Pz(a b:NO)(c d e f g h i j k l m:Int):Kg:=(KJ a b c d e f g h i j k m).bind λn=>cond n.2.1 ((dr l (aa .add .i64 n.1 1) 20000).bind λo=>some (o.1,())) (some (false,()))
def N8(a b:NO)(c:Int):Kg:=(KR a b).bind λd=>letI e:=some (false,());cond d.1 ((dr c 0 19999).bind λf=>cond f.1 ((MU a b c).bind λg=>some (g.1,())) e) e
def Jy(a:YcW)(b:NP):Option (NP⊕Int×YaU⊕YcF):=letI c:=b.2.1;letI d:=aa .add .i64 c 1;cond (ak .leq c 20000) (cond (ak .eql b.1 0) (some (.inr (.inl (c,true,())))) (cond (ak .lss c 20000) ((N5 a.1 a.2.1 c).bind λe=>cond e.1 (some (.inl (aa .sub .i64 b.1 1,d,()))) (some (.inl (b.1,d,())))) (some (.inl (b.1,d,()))))) (some (.inr (.inr (.inl ()))))
def Oo k x:=iter (Jy k) big x
def K7(a b:NO)(c d:Int):YcS:=letI e:=some ((0:Int),false,());cond (ak .lss d 0) e ((Kn a b).bind λf=>cond (Bool.not f.1) e ((Je c).bind λg=>cond (Bool.not g.1) e ((Oo (a,b,()) (d,c,())).bind λh=>Sum.elim (λi=>some (i.1,i.2.1,())) (λi=>Sum.elim (λ_=>e) (λj=>Empty.elim j) i) h)))
def KG(a b:NO)(c d e f g h i j k l:Int):YcS:=(Kn a b).bind λm=>letI n:=some ((0:Int),false,());cond (Bool.not m.1) n ((Mp c d e f g h i j).bind λo=>cond (Bool.not o.1) n ((Je k).bind λp=>cond (Bool.not p.1) n ((eb l 0 j).bind λq=>cond (Bool.not q.1) n ((K7 a b k (aa .add .i64 c (aa .mul .i64 h l))).bind λr=>some (r.1,r.2.1,())))))
def OE(a b:NO)(c d e f g h i j k l m:Int):Kg:=(KG a b c d e f g h i j k m).bind λn=>letI o:=some (false,());cond n.2.1 ((Je l).bind λp=>cond p.1 (some (ak .gtr l n.1,())) o) o
def UM(a b:NO)(c:Int):Kg:=(Kn a b).bind λd=>letI e:=some (false,());cond d.1 ((eb c 0 19999).bind λf=>cond f.1 ((N5 a b c).bind λg=>some (g.1,())) e) e
def ZI(o c:List M8)(i:o.length<=20)(h:c.length<=20):∀(k:Nat) (n t:Int),t+(k:Int)=20000->0<=t->0<=n->n<=1125899906842624 ->
  ∃f e y,iter (JQ (o,c,())) (k+1) (n,t,())=some (.inl (f,e,()))/\iter (Jy (o,c,())) (k+2) (n,t,())=some y/\((f=0/\t<=e/\e<=20000/\y=.inl (e,true,()))\/(f≠0/\y=.inr (.inl ())))
 |k,n,t,x,u,A,v=>by
  have j:ak .leq t (20000:Int)=true:=by simp only[ak,sR];omega
  by_cases m:n=0
  .subst m;refine⟨0,t,.inl (t,true,()),cJ ?_,cJ ?_,.inl ⟨rfl,LL _,by omega,rfl⟩⟩
   .unfold JQ;rfl
   .unfold Jy;refine(cT j).trans ?_;rfl
  .have g:ak .gtr n (0:Int)=true:=by simp only[ak,gt_iff_lt,sR];omega
   have z:ak .eql n (0:Int)=false:=by simp only[ak,Xb,beq_eq_false_iff_ne,ne_eq];exact m
   cases k with
   |zero=>
    have:t=20000:=by omega
    subst this;refine⟨n,20000,.inr (.inl ()),cJ ?_,?_,.inr ⟨m,rfl⟩⟩
    .unfold JQ;refine(cT g).trans ?_;rfl
    .have w:Jy (o,c,()) (n,20000,())=some (.inl (n,20001,())):=by
      unfold Jy;refine(cT j).trans ((cF z).trans ?_);rfl
     rw[fz w];exact cJ (by unfold Jy;rfl)
   |succ k=>
    have l:ak .lss t (20000:Int)=true:=by simp only[ak,sR];omega
    have a:aa .add .i64 t 1=t+1:=Rq u (by omega);have b:aa .sub .i64 n 1=n-1:=vm (by omega) (by omega);cases d:TK o c t with
    |true=>
     obtain⟨f,e,y,p,r,s⟩:=ZI o c i h k (n-1) (t+1) (by omega) (by omega) (by omega) (by omega);refine⟨f,e,y,?_,?_,s.imp (λq=>⟨q.1,by omega,q.2.2⟩) id⟩
     .rw[fz (by unfold JQ;simp only[g,l,az,Vc t i h,d,aX,a,b];rfl)];exact p
     .rw[fz (by unfold Jy;simp only[j,z,l,az,aW,UK t i h,d,aX,a,b];rfl)];exact r
    |false=>
     obtain⟨f,e,y,p,r,s⟩:=ZI o c i h k n (t+1) (by omega) (by omega) (by omega) (by omega);refine⟨f,e,y,?_,?_,s.imp (λq=>⟨q.1,by omega,q.2.2⟩) id⟩
     .rw[fz (by unfold JQ;simp only[g,l,az,Vc t i h,d,aX,a,b];rfl)];exact p
     .rw[fz (by unfold Jy;simp only[j,z,l,az,aW,UK t i h,d,aX,a,b];rfl)];exact r
def XF{o c:List M8}(t n:Int)(h:KF o c=false):J8 o c t n=some (0,false,()):=by unfold J8;simp only[Me,h,aX];rfl
def XE{o c:List M8}(t n:Int)(h:Jh t 0 20000=false):J8 o c t n=some (0,false,()):=by unfold J8;simp only[Me,rp,h,aX];cases KF o c <;> rfl
def ag9(o c:List M8)(t n:Int)(q:n<=1125899906842624):Sm (λr=>r.2.1=true->0<=t/\t<=r.1/\r.1<=20000) (J8 o c t n) (K7 o c t n):=by
 cases b:KF o c with
 |false=>rw[XF t n b];unfold K7;simp only[Lm,b,aX];cases ak .lss n 0 <;> exact .ret λh=>by cases h
 |true=>
  cases d:Jh t 0 20000 with
  |false=>rw[XE t n d];unfold K7;simp only[Lm,b,Lg,d,aX];cases ak .lss n 0 <;> exact .ret λh=>by cases h
  |true=>
   obtain⟨e,B⟩:=kW.1 d;obtain⟨s,p⟩:=Ub b;unfold J8 K7;simp only[Me,Lm,rp,Lg,b,d,aX,fu,aW];cases f:ak .lss n 0 with
   |true=>
    have g:n<0:=by simpa[ak] using f
    have:LY (o,c,()) (n,t,())=some (.inl (n,t,())):=by refine gP (n:=1) (cJ ?_) (fc (i7 (by omega)));unfold JQ;exact cF (by simp only[ak,gt_iff_lt,Xb];omega)
    rw[this];have z:ak .neq n (0:Int)=true:=by simp only[ak,bne_iff_ne,ne_eq];omega
    simp only[aX,NQ,z,az];exact .ret λh=>by cases h
   |false=>
    have a:0<=n:=by
     have:¬n<0:=by simpa[ak] using f
     omega
    obtain⟨i,A,y,v,w,x⟩:=ZI o c s p (20000-t).toNat n t (by omega) e a q;have l:LY (o,c,()) (n,t,())=some (.inl (i,A,())):=gP v (fc (i7 (by omega)));have m:Oo (o,c,()) (n,t,())=some y:=gP w (fc (i7 (by omega)));rw[l,m];rcases x with ⟨rfl,j,k,rfl⟩|⟨u,rfl⟩
    .exact .ret λ_=>⟨e,j,k⟩
    .have z:ak .neq i (0:Int)=true:=by simp only[ak,bne_iff_ne,ne_eq];exact u
     simp only[aW,aX,NQ,VW,z,az];exact .ret λh=>by cases h
def afq{a d e f g b i c:Int}(h:L3 a d e f g b i c=true):(1<=a/\a<=2000)/\(1<=b/\b<=2000)/\c<=20:=by unfold L3 at h;simp only[acL,kW]at h;exact⟨h.1,h.2.2.1,h.2.2.2.2.2.2.2.2⟩
def Xg(o c:List M8)(a0 a1 a2 a3 a4 a5 a6 a7 t x:Int):Sm (λr=>r.2.1=true->0<=t/\t<=r.1/\r.1<=20000) (KJ o c a0 a1 a2 a3 a4 a5 a6 a7 t x) (KG o c a0 a1 a2 a3 a4 a5 a6 a7 t x):=by
 unfold KJ KG;simp only[Wd,V0,Lm,rp,bS,Lg,aX];cases d:L3 a0 a1 a2 a3 a4 a5 a6 a7 with
 |false=>cases KF o c <;> exact .ret λh=>by cases h
 |true=>
  cases k:Jh x 0 a7 with
  |false=>cases KF o c <;> cases Jh t 0 20000 <;> exact .ret λh=>by cases h
  |true=>
   cases j:KF o c with
   |false=>rw[XF _ _ j];exact .ret λh=>by cases h
   |true=>
    cases i:Jh t 0 20000 with
    |false=>rw[XE _ _ i];exact .ret λh=>by cases h
    |true=>obtain⟨⟨m,n⟩,⟨p,l⟩,m2⟩:=afq d;obtain⟨x1,x2⟩:=kW.1 k;have e:0<=a5*x:=Int.mul_nonneg (by omega) x1;have f:a5*x<=2000*20:=Int.mul_le_mul l (by omega) x1 (by omega);have a:aa .mul .i64 a5 x=a5*x:=Fh (by omega) (by omega);have b:aa .add .i64 a0 (a5*x)=a0+a5*x:=sO (by omega) (by omega);simp only[fu,aW,a,b];exact(ag9 o c t (a0+a5*x) (by omega)).bind λr g=>.ret g
def abw(o c:List M8)(a0 a1 a2 a3 a4 a5 a6 a7 t now x:Int):Sm Any (Pz o c a0 a1 a2 a3 a4 a5 a6 a7 t now x) (OE o c a0 a1 a2 a3 a4 a5 a6 a7 t now x):=by
 unfold Pz OE;refine(Xg o c a0 a1 a2 a3 a4 a5 a6 a7 t x).bind λr f=>?_;cases b:r.2.1 with
 |false=>exact .ret trivial
 |true=>
  obtain⟨g,h,i⟩:=f b;have e:aa .add .i64 r.1 1=r.1+1:=Rq (by omega) (by omega);simp only[az,rp,Lg,aX,e];cases a:Jh now 0 20000 with
  |true=>
   obtain⟨j,k⟩:=kW.1 a;refine⟨(ak .gtr now r.1,()),?_,rfl,trivial⟩;have:Jh now (r.1+1) 20000=ak .gtr now r.1:=by rw[PT,kW];simp only[ak,gt_iff_lt,sR];omega
   rw[this]
  |false=>
   refine⟨(false,()),?_,rfl,trivial⟩;have:Jh now (r.1+1) 20000=false:=by
    cases d:Jh now (r.1+1) 20000 with
    |false=>rfl
    |true=>have:=kW.1 d;have:Jh now 0 20000=true:=kW.2 ⟨by omega,by omega⟩;rw[this]at a;cases a
   rw[this]
def ae3(o c:List M8)(x:Int):Bool:=bif KF o c then bif Jh x 0 19999 then TK o c x else false else false
def Kr(o c:List M8)(x:Int):N8 o c x=some (ae3 o c x,()):=by
 unfold N8 ae3;simp only[Me,rp,aX];cases d:KF o c with
 |false=>rfl
 |true=>obtain⟨b,a⟩:=Ub d;simp only[Vc x b a,aX,az];cases Jh x 0 19999 <;> rfl
def Kq(o c:List M8)(x:Int):UM o c x=some (ae3 o c x,()):=by
 unfold UM ae3;simp only[Lm,bS,aX];cases d:KF o c with
 |false=>rfl
 |true=>obtain⟨b,a⟩:=Ub d;simp only[UK x b a,aX,az];cases Jh x 0 19999 <;> rfl
def ajM{α:Type}(l m:List α):List.append l m=l++m:=rfl
end Go.Fn
namespace Go.R
open Go.Shelf Go.Proofs
def abk(n:Int):Bool:=decide (-9223372036854775808<=n)&&decide (n<=9223372036854775807)
def acg{n:Int}:abk n=true ↔ -9223372036854775808<=n/\n<=9223372036854775807:=by unfold abk;rw[aQ,decide_eq_true_iff,decide_eq_true_iff]
def adf:Array Value:=(Lib.pow10Tab.map λz=>Value.int .u64 z).toArray
def ag0:hJ:=⟨true,[.one (.val (.int .i64))],[.one (.val .str)],λx=>bif abk x.1 then some (ByteArray.mk (Lib.itoa x.1).toArray,())else none⟩
def aiS {P:Program} {q:Ren} (L:LaysM.n171 P q) {g:Nat} (v:P.globalNamed "internal/strconv.uint64pow10" = some g) (t:(g, adf) ∈ Fp):ec P (q.f 171) ag0:=by
 refine⟨⟨_,_,L.f171,rfl,rfl⟩,?_⟩;intro w C B x y i j h c a;obtain⟨n,E⟩:=x;have a:(bif abk n then some (ByteArray.mk (Lib.itoa n).toArray,())else none)=some y:=a;cases f:abk n with
 |false=>rw[f]at a;cases a
 |true=>
  rw[f]at a;injection a with a
  subst a;have f:=acg.1 f;match B,c with
  |[u],c=>
  obtain⟨_,⟨F,d,p⟩,_⟩:=c;injection d with d _
  subst d;have p:u=.int .i64 n:=p;subst p;obtain⟨_,_,T,m,s⟩:=i _ t;have l:Lib.TabIs P w "internal/strconv.uint64pow10" .u64 Lib.pow10Tab:=by unfold Lib.TabIs World.var?;rw[v];show(match w.heap[g]? with|some (.cells r _ _)=>some r|_=>none)=_;rw[s];rfl
  refine(Any.strconv_Itoa L n f.1 f.2 w l).mono ?_;rintro D G ⟨rfl,k,A,rfl⟩;have e:=Lib.below_grow w.heap.size w (aJ _) k A;exact⟨_,C,rfl,⟨e.os,e.tape,⟨e.output,kG _ _⟩,e.size,λb o _=>⟨e.block b o,rfl⟩⟩,j,λb k z=>gf (h b k z) e.size,⟨rfl,⟨_,rfl,rfl⟩⟩,⟨λ_=>trivial,rfl,rfl⟩⟩
def aiG {P:Program} {w:World} {g:Nat} (d:P.globalNamed "internal/strconv.uint64pow10" = some g) (c:Fp = [(g, adf)]) (h:Lib.TabIs P w "internal/strconv.uint64pow10" .u64 Lib.pow10Tab):zQ w aq.ig:=λq b=>by
 rw[c,eK]at b;subst b;unfold Lib.TabIs World.var? at h;rw[d]at h;have h:(match w.heap[g]? with|some (.cells a _ _)=>some a|_=>none)=some adf:=h;split at h
 .rename_i a T m e;injection h with h
  subst h;exact⟨(vL.1 e).1,rfl,T,m,e⟩
 .cases h
end Go.R
namespace Go.Fn
open Go.R
def Mg(a:Int):PN:=cond (ak .lss a 10) (some (eo .u8 (aa .add .i64 48 a),())) (some (eo .u8 (aa .sub .i64 (aa .add .i64 97 a) 10),()))
def Kd(a:YaU)(b:Int×YbK):Option (Int×YbK⊕YbK⊕Empty):=letI c:=b.2.1;letI d:=eE 10;letI e:=aa .rem .i64 b.1 10;letI f:=aa .quo .i64 b.1 10;cond (ak .neq b.1 0) (cond d none (cond (ak .lss e 0) ((Mg (Ez .i64 e)).bind λg=>cond (lz (nT (List.append (α:=Int) ([]:Li) [g.1])) c) (cond d none (some (.inl (f,ByteArray.append (nT (List.append (α:=Int) ([]:Li) [g.1])) c,())))) none) ((Mg e).bind λg=>cond (lz (nT (List.append (α:=Int) ([]:Li) [g.1])) c) (cond d none (some (.inl (f,ByteArray.append (nT (List.append (α:=Int) ([]:Li) [g.1])) c,())))) none))) (some (.inr (.inl (c,()))))
def LZ k x:=iter (Kd k) big x
def Ky(a:Int):YdH:=letI b:=ak .lss a 0;cond (ak .eql a 0) (some (ByteArray.mk #[48],())) ((LZ (b,()) (a,ByteArray.mk #[],())).bind λc=>Sum.elim (λd=>cond b (cond (lz (ByteArray.mk #[45]) d.1) (some (ByteArray.append (ByteArray.mk #[45]) d.1,())) none) (some (d.1,()))) (λd=>Empty.elim d) c)
def strconv_Itoa(a:Int):YdH:=cond (abk a) (some (ByteArray.mk (Lib.itoa a).toArray,())) none
def Ku(a:Int):YdH:=(strconv_Itoa a).bind λb=>some (b.1,())
def txt(n:Nat):ByteArray:=ByteArray.mk (Lib.decDigits n).toArray
def ajO(a b:ByteArray):ByteArray.append a b=a++b:=rfl
def ajP(a b:List UInt8):ByteArray.append (ByteArray.mk a.toArray) (ByteArray.mk b.toArray)=ByteArray.mk (a++b).toArray:=by rw[ajO];apply ByteArray.ext;simp
def ah2(x:Int):nT [x]=ByteArray.mk [UInt8.ofNat x.toNat].toArray:=by apply ByteArray.ext;rfl
def fits{x y:ByteArray}(h:x.size+y.size<=1073741824):lz x y=true:=iO (by omega)
def size_mk(l:List UInt8):(ByteArray.mk l.toArray).size=l.length:=by show l.toArray.size=_;simp
def aj5{d:Nat}(h:d<10):Mg (d:Int)=some (((48+d:Nat):Int),()):=by
 unfold Mg;rw[show ak .lss (d:Int) 10=true by simp only[ak,sR];omega];have:aa .add .i64 48 (d:Int)=((48+d:Nat):Int):=by rw[sO (by omega) (by omega)];omega
 rw[this];have:∀d:Fin 10,eo .u8 ((48+d.val:Nat):Int)=((48+d.val:Nat):Int):=by decide +kernel
 rw[this ⟨d,h⟩];rfl
def aph(n:Nat):aa .rem .i64 (n:Int) 10=((n % 10:Nat):Int):=rfl
def apg{n:Nat}(h:n<=1000000000000000000):aa .quo .i64 (n:Int) 10=((n / 10:Nat):Int):=by have:aa .quo .i64 (n:Int) 10=IntKind.i64.wrap ((n / 10:Nat):Int):=rfl;rw[this];exact FT (by omega) (by omega)
def ahA{n:Nat}(e:0<n)(d:n<=1000000000000000000)(s:List UInt8)(f:s.length<=1000000):
  Kd (false,()) ((n:Int),ByteArray.mk s.toArray,())=some (.inl (((n / 10:Nat):Int),ByteArray.mk (UInt8.ofNat (48+n % 10)::s).toArray,())):=by
 unfold Kd;have a:ak .neq (n:Int) 0=true:=by simp only[ak,bne_iff_ne,ne_eq];omega
 have b:ak .lss ((n % 10:Nat):Int) 0=false:=Jp (by omega);have c:eE (10:Int)=false:=rfl;simp only[a,b,c,aph,apg d,aj5 (Nat.mod_lt n (by decide:0<10)),az,aW,aX,ajM,l7,ah2];rw[fits (by rw[size_mk,size_mk];simp only[cK,ajH];omega),ajP];rfl
def aiE{n:Nat}(h:0<n)(s:List UInt8):(if n / 10=0 then []else Lib.decDigits (n / 10))++(UInt8.ofNat (48+n % 10)::s)=Lib.decDigits n++s:=by
 by_cases a:n<10
 .rw[cz (by omega),Lib.decDigits_one a,show n % 10=n by omega];rfl
 .rw[bc (by omega)];have:Lib.decDigits n=Lib.decDigits (n / 10)++[UInt8.ofNat (48+n % 10)]:=by conv=>lhs;rw[Lib.decDigits,dif_neg a]
  rw[this,iD];rfl
def adQ:∀(k n:Nat) (s:List UInt8) (f:Nat),n<=1000000000000000000->s.length+k<=60->n<10 ^ k->k<f ->
  iter (Kd (false,())) f ((n:Int),ByteArray.mk s.toArray,())=some (.inl (ByteArray.mk ((if n=0 then []else Lib.decDigits n)++s).toArray,()))
 |k,n,s,0,_,_,_,c=>absurd c (vI _)
 |k,n,s,f+1,d,e,b,c=>by
  by_cases a:n=0
  .subst a;exact cJ (by unfold Kd;rfl)
  .cases k with
   |zero=>simp at b;exact absurd b a
   |succ k=>rw[fz (ahA (by omega) d s (by omega)),adQ k (n / 10) _ f (by omega) (by simp only[cK];omega) (by rw[Nat.pow_succ]at b;omega) (by omega),aiE (by omega),bc a]
def ai7{n:Nat}(h:n<=1000000000000000000):Ky (n:Int)=some (txt n,()):=by
 unfold Ky;have c:ak .lss (n:Int) 0=false:=Jp (by omega);by_cases a:n=0
 .subst a;rw[show ak .eql ((0:Nat):Int) 0=true from rfl,az];unfold txt;rw[Lib.decDigits_one (by decide)];rfl
 .have b:ak .eql (n:Int) 0=false:=by simp only[ak,beq_eq_false_iff_ne,ne_eq];omega
  rw[b,c];have:=adQ 19 n [] big h (by decide) (by omega) (i7 (by decide));have d:LZ (false,()) ((n:Int),ByteArray.mk #[],())=_:=this;rw[d,bc a,fa];rfl
def aiN{n:Nat}(h:n<=1000000000000000000):Ku (n:Int)=some (txt n,()):=by unfold Ku strconv_Itoa;rw[show abk (n:Int)=true from acg.2 ⟨by omega,by omega⟩,Lib.itoa_nonneg];rfl
def Ny(a:YcA)(b:Mk):Option (Mk⊕NP⊕YcF):=cond (ak .lss b.1 (bw a.1)) ((Mf a.1).bind λc=>letI d:=ae br a.1 b.1;cond c.1 (cond (aZ a.1 b.1) ((KS d.1 d.2.1 d.2.2 a.2.1).bind λe=>cond (ak .geq e.1 0) (cond (aZ a.1 b.1) (cond (aZ d.2.2 e.1) (some (.inr (.inl (b.1,(ae gI d.2.2 e.1).1,())))) none) none) (some (.inl (aa .add .i64 b.1 1,())))) none) (some (.inr (.inr (.inl ()))))) (some (.inr (.inr (.inl ()))))
def QT k x:=iter (Ny k) big x
def NW(a:Rp)(b:Int):Option NP:=(QT (a,b,()) (0,())).bind λc=>Sum.elim (λd=>some (d.1,d.2.1,())) (λd=>Sum.elim (λ_=>some (-1,-1,())) (λe=>Empty.elim e) d) c
def V4(a b c:Int)(d:Bool)(e:Int):Kg:=some (ak .eql c e,())
def sS(a:Ln×NP)(b:Mk):YaY:=letI c:=ae gI a.1 b.1;cond (ak .lss b.1 a.2.2.1) (cond (aZ a.1 b.1) ((V4 c.1 c.2.1 c.2.2.1 c.2.2.2 a.2.1).bind λd=>cond d.1 (some (.inr (.inl (b.1,())))) (some (.inl (aa .add .i64 b.1 1,())))) none) (some (.inr (.inr (.inl ()))))
def F1 k x:=iter (sS k) big x
def I5(a:Ln)(b:Int):PN:=(F1 (a,b,bw a,()) (0,())).bind λc=>Sum.elim (λd=>some (d.1,())) (λd=>Sum.elim (λ_=>some (-1,())) (λe=>Empty.elim e) d) c
def P5(a:Int)(b:Li)(c:Ln)(d:Int):PN:=(I5 c d).bind λe=>some (e.1,())
def RD(a:Int)(b:Li)(c:Ln)(d:Int):Kg:=(P5 a b c d).bind λe=>some (ak .geq e.1 0,())
def nf(a:Rp×NP)(b:Mk):YaY:=letI c:=ae br a.1 b.1;cond (ak .lss b.1 a.2.2.1) (cond (aZ a.1 b.1) ((RD c.1 c.2.1 c.2.2 a.2.1).bind λd=>cond d.1 (some (.inr (.inl (b.1,())))) (some (.inl (aa .add .i64 b.1 1,())))) none) (some (.inr (.inr (.inl ()))))
def vp k x:=iter (nf k) big x
def zS(a:Rp)(b:Int):PN:=(vp (a,b,bw a,()) (0,())).bind λc=>Sum.elim (λd=>some (d.1,())) (λd=>Sum.elim (λ_=>some (-1,())) (λe=>Empty.elim e) d) c
def LG(a:Rp)(b:Int):PN:=(zS a b).bind λc=>some (c.1,())
end Go.Fn

