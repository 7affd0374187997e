import Derived.Test.YtdbcclejeoljoaaGreatDoorRunNetworkQA
/- Plain functions that stand for Go functions, and what they answer. Conditions: none. -/
set_option linter.all false
noncomputable section
namespace Go.Fn
open Go.R
def Ja(a:Int):J8:=(bS a 1 40).bind λb=>some (b.1,())
def M3(a:Int):J8:=(bS a 0 20000).bind λb=>some (b.1,())
def Lv(a b c d e f:Int)(g:Bool):J8:=(Ja a).bind λh=>letI i:=some (false,());cond h.1 ((Ja b).bind λj=>cond j.1 (cond (ak .neq a b) ((bS c 0 999).bind λk=>cond k.1 ((bS d 0 5).bind λl=>cond l.1 ((M3 e).bind λm=>cond m.1 ((M3 f).bind λn=>cond n.1 (some (ak .lss e f,())) i) i) i) i) i) i) i
def Qu(a:YcV)(b:LN):YaN:=letI c:=ae gI a.1 b.1;letI d:=c.2.2.2;cond (ak .lss b.1 (bw a.1)) (cond (aZ a.1 b.1) ((Lv c.1 c.2.1 c.2.2.1 d.1 d.2.1 d.2.2.1 d.2.2.2).bind λe=>cond (Bool.not e.1) (some (.inr (.inl (false,())))) (some (.inl (aa .add .i64 b.1 1,())))) none) (some (.inr (.inr (.inl ()))))
def Qv k x:=iter (Qu k) big x
def ND(a:JI):J8:=cond (ak .gtr (bw a) 30) (some (false,())) ((Qv (a,()) (0,())).bind λb=>Sum.elim (λc=>some (c.1,())) (λc=>Sum.elim (λ_=>some (true,())) (λd=>Empty.elim d) c) b)
def Qx(a:Int×Kz×Lj×Nt)(b:YbX):Option (YbX⊕YaV⊕YbN⊕Empty):=letI c:=b.2.2;letI d:=c.2.2.1;letI e:=(b.1,b.2.1,c.1,c.2.1,aa .add .i64 d 1,());cond (ak .lss d a.2.2.2.2.1) (cond (ak .gtr c.1 0) (cond (aZ a.2.2.1 d) (cond (ak .eql (ae fe a.2.2.1 d).2.2.1 c.1) (some (.inr (.inl (false,())))) (some (.inl e))) none) (some (.inl e))) (some (.inr (.inr (.inl (b.1,b.2.1,c.1,c.2.1,())))))
def MX k x:=iter (Qx k) big x
def Qw(a:YbK)(b:Nt):YbL:=letI c:=(false,());letI d:=b.2.1;letI e:=a.2.2.1;letI f:=ae fe e d;cond (ak .lss d (bw e)) (cond (aZ e d) (cond (ak .neq f.1 b.1) (some (.inr (.inl c))) ((bS f.2.1 1 24).bind λg=>cond (Bool.not g.1) (some (.inr (.inl c))) ((bS f.2.2.1 0 999).bind λh=>cond (Bool.not h.1) (some (.inr (.inl c))) ((MX (a.1,a.2.1,e,b.1,d,()) (f.1,f.2.1,f.2.2.1,f.2.2.2,0,())).bind λi=>Sum.elim (λj=>some (.inr (.inl (j.1,())))) (λj=>Sum.elim (λk=>letI l:=aa .add .i64 b.1 k.2.1;cond (ak .gtr l 24) (some (.inr (.inl c))) (some (.inl (l,aa .add .i64 d 1,())))) (λk=>Empty.elim k) j) i)))) none) (some (.inr (.inr (.inl (b.1,())))))
def Qy k x:=iter (Qw k) big x
def Q4(a:Int)(b:Kz)(c:Lj):J8:=(Qy (a,b,c,()) (0,0,())).bind λd=>Sum.elim (λe=>some (e.1,())) (λe=>Sum.elim (λf=>cond (ak .gtr (bw c) 0) (some (ak .eql f.1 a,())) (some (false,()))) (λf=>Empty.elim f) e) d
def MT(a:YdK)(b:YdU):Option (YdU⊕YaV⊕Empty):=letI c:=a.2.2;letI d:=aa .add .i64 b.2.1 1;cond (ak .lss b.2.1 (bw c.1)) (cond b.1 (some (.inl (true,d,()))) (cond (aZ c.1 b.2.1) (cond (aZ a.2.1 c.2.1) (some (.inl (ak .eql (ae fe c.1 b.2.1).1 (ae zI a.2.1 c.2.1),d,()))) none) none)) (some (.inr (.inl (b.1,()))))
def Qt k x:=iter (MT k) big x
def Qr(a:YbK)(b:LN):YaN:=letI c:=b.1;letI d:=a.2.1;cond (ak .lss c (bw d)) (cond (aZ d c) ((bS (ae zI d c) 1 (aa .sub .i64 a.1 1)).bind λe=>letI f:=(false,());letI g:=aa .sub .i64 c 1;letI h:=(aa .add .i64 c 1,());letI i:=Qt (a.1,d,a.2.2.1,c,()) (false,0,());cond (Bool.not e.1) (some (.inr (.inl f))) (cond (ak .gtr c 0) (cond (aZ d c) (cond (aZ d g) (cond (ak .leq (ae zI d c) (ae zI d g)) (some (.inr (.inl f))) (i.bind λj=>Sum.elim (λk=>cond (Bool.not k.1) (some (.inr (.inl f))) (some (.inl h))) (λk=>Empty.elim k) j)) none) none) (i.bind λj=>Sum.elim (λk=>cond (Bool.not k.1) (some (.inr (.inl f))) (some (.inl h))) (λk=>Empty.elim k) j))) none) (some (.inr (.inr (.inl ()))))
def Qs k x:=iter (Qr k) big x
def KU(a:Int)(b:Kz)(c:Lj):J8:=(bS a 1 24).bind λd=>letI e:=some (false,());cond (Bool.not d.1) e ((Q4 a b c).bind λf=>cond (Bool.not f.1) e ((Qs (a,b,c,()) (0,())).bind λg=>Sum.elim (λh=>some (h.1,())) (λh=>Sum.elim (λ_=>some (true,())) (λi=>Empty.elim i) h) g))
def Kx(a:Int×YbK)(b:LN):YaZ:=letI c:=a.2.2.2.1;letI d:=(aa .add .i64 b.1 1,());cond (ak .lss b.1 (bw c)) (cond (aZ c b.1) (cond (ak .eql (ae fe c b.1).2.2.1 a.1) (cond (ak .gtr a.1 0) (some (.inr (.inl (b.1,())))) (some (.inl d))) (some (.inl d))) none) (some (.inr (.inr (.inl ()))))
def PR k x:=iter (Kx k) big x
def KQ(a:Int)(b:Kz)(c:Lj)(d:Int):Oz:=(PR (d,a,b,c,()) (0,())).bind λe=>Sum.elim (λf=>some (f.1,())) (λf=>Sum.elim (λ_=>some (-1,())) (λg=>Empty.elim g) f) e
def Uc(a:RB×Nt)(b:LN):YaN:=letI c:=ae br a.1 a.2.2.1;letI d:=(ae br a.1 a.2.1).2.2;cond (aZ a.1 a.2.1) (cond (ak .lss b.1 (bw d)) (cond (aZ a.1 a.2.2.1) (cond (aZ a.1 a.2.1) (cond (aZ d b.1) ((KQ c.1 c.2.1 c.2.2 (ae fe d b.1).2.2.1).bind λe=>cond (ak .geq e.1 0) (some (.inr (.inl (false,())))) (some (.inl (aa .add .i64 b.1 1,())))) none) none) none) (some (.inr (.inr (.inl ()))))) none
def Uf k x:=iter (Uc k) big x
def Ub(a:YcE)(b:LN):YaN:=cond (ak .lss b.1 a.2.1) ((Uf (a.1,a.2.1,b.1,()) (0,())).bind λc=>Sum.elim (λd=>some (.inr (.inl (d.1,())))) (λd=>Sum.elim (λ_=>some (.inl (aa .add .i64 b.1 1,()))) (λe=>Empty.elim e) d) c) (some (.inr (.inr (.inl ()))))
def Ue k x:=iter (Ub k) big x
def Ua(a:YbW)(b:LN):YaN:=letI c:=ae br a.1 b.1;cond (ak .lss b.1 (bw a.1)) (cond (aZ a.1 b.1) ((KU c.1 c.2.1 c.2.2).bind λd=>cond (Bool.not d.1) (some (.inr (.inl (false,())))) ((Ue (a.1,b.1,()) (0,())).bind λe=>Sum.elim (λf=>some (.inr (.inl (f.1,())))) (λf=>Sum.elim (λ_=>some (.inl (aa .add .i64 b.1 1,()))) (λg=>Empty.elim g) f) e)) none) (some (.inr (.inr (.inl ()))))
def Ud k x:=iter (Ua k) big x
def Mj(a:RB):J8:=(bS (bw a) 1 6).bind λb=>cond (Bool.not b.1) (some (false,())) ((Ud (a,()) (0,())).bind λc=>Sum.elim (λd=>some (d.1,())) (λd=>Sum.elim (λ_=>some (true,())) (λe=>Empty.elim e) d) c)
def PU(a b:Int)(c d e:Bool):J8:=some (pI e (ak .eql a 2),())
def Jm(a b:Int)(c d e:Bool):J8:=(bS a 0 2).bind λf=>letI g:=some (false,());cond (Bool.not f.1) g ((bS b 0 6).bind λh=>letI i:=some (Bool.not c,());letI j:=PU a b c d e;letI k:=cond c (some (Bool.not d,())) g;letI l:=cond (ak .eql a 0) (cond (ak .eql b 0) i g) (cond (ak .eql b 1) (j.bind λl=>cond l.1 i g) (cond (ak .eql b 2) (j.bind λl=>cond l.1 k g) (cond (ak .eql b 3) (j.bind λl=>cond l.1 (some (d,())) g) (cond (ak .eql b 4) (j.bind λl=>cond (Bool.not l.1) (some (d,())) g) (cond (ak .eql b 5) k (cond (ak .eql b 6) i (some (true,()))))))));cond (Bool.not h.1) g (cond d (cond (Bool.not c) g l) l))
def PZ(a b c d e f g h i j k:Int)(l:KB)(m:Kj)(n:JI)(o:Js)(p:Int):J8:=letI q:=ae ax l p;cond (aZ l p) ((KP q.1 q.2.1).bind λr=>letI s:=some (false,());cond (Bool.not r.1) s ((Mj q.2.2.1).bind λt=>letI u:=q.2.2.2;letI v:=u.2.2.2;cond (Bool.not t.1) s ((Jm u.1 u.2.1 u.2.2.1 v.1 v.2.1).bind λw=>letI x:=v.2.2;cond (Bool.not w.1) s ((Jz x.2.2).bind λy=>letI z:=ak .eql x.2.1 0;cond (Bool.not y.1) s (cond (ak .eql x.1 0) (lets (Bool.and (ak .eql u.1 0) (Bool.and (ak .eql u.2.1 0) (Bool.and (pI u.2.2.1 false) (Bool.and (pI v.1 false) (Bool.and (pI v.2.1 false) true))))) λA=>cond A (some (z,())) s) ((bS x.1 1 (bw m)).bind λA=>letI B:=aa .sub .i64 x.1 1;letI C:=(ae aS m B).2.2;letI D:=cond (ak .eql u.1 2) ((bS x.2.1 0 40).bind λD=>some (D.1,())) s;cond (Bool.not A.1) s (cond (aZ m B) (cond (ak .neq C.1 p) s (cond (aZ m B) (cond (ak .neq C.2.1 2) s (cond (ak .eql u.1 1) (cond z (some (true,())) D) D)) none)) none))))))) none
def Lc(a b c d e f g h i j k:Int)(l:KB)(m:Kj)(n:JI)(o:Js)(p:Int):J8:=letI q:=some (true,());letI r:=(ae aS m p).2.2;cond (aZ m p) (cond (ak .eql r.2.1 0) q (cond (ak .eql r.2.1 1) q (cond (ak .eql r.2.1 2) (cond (aZ l r.1) (some (ak .eql (ae ax l r.1).2.2.2.1 1,())) none) (some (false,()))))) none
def KO(a b c d e:Int):J8:=(Jn a).bind λf=>letI g:=some (false,());cond f.1 ((bS b 0 1000001).bind λh=>cond h.1 ((bS c 0 2).bind λi=>cond i.1 ((bS d 0 6).bind λj=>cond j.1 ((bS e 0 20064).bind λk=>some (k.1,())) g) g) g) g
def M5(a b c d e f g h i j k:Int)(l:KB)(m:Kj)(n:JI)(o:Js)(p:Int):J8:=letI q:=ae aS m p;cond (aZ m p) ((bS q.1 1 24).bind λr=>letI s:=some (false,());cond (Bool.not r.1) s ((Ja q.2.1).bind λt=>letI u:=(0:Int);cond (Bool.not t.1) s ((bS q.2.2.1 u (aa .sub .i64 (bw l) 1)).bind λv=>letI w:=q.2.2.2;cond (Bool.not v.1) s ((bS w.1 u 5).bind λx=>letI y:=aa .add .i64 p 1;letI z:=(Lc a b c d e f g h i j k l m n o p).bind λz=>letI A:=w.2.2.2;letI B:=A.2.2;letI C:=B.2.2.2;letI D:=ak .eql C.1 u;letI E:=ak .eql C.2 u;cond z.1 (cond (ak .eql w.2.1 u) (cond (ak .eql w.2.2.1 u) (cond D (cond E (lets (Bool.and (ak .eql A.1 u) (Bool.and (ak .eql A.2.1 u) (Bool.and (ak .eql B.1 u) (Bool.and (ak .eql B.2.1 u) (Bool.and (ak .eql B.2.2.1 u) true))))) λF=>some (F,())) s) s) s) s) ((bS w.2.1 u k).bind λF=>cond (Bool.not F.1) s ((bS w.2.2.1 u h).bind λG=>cond (Bool.not G.1) s ((KO A.1 A.2.1 B.1 B.2.1 B.2.2.1).bind λH=>cond (Bool.not H.1) s ((JU a b c d e f g h i j k l m n o y).bind λI=>cond (ak .neq A.1 I.1) s (cond (ak .eql w.1 4) ((Ja C.1).bind λJ=>cond J.1 ((bS C.2 u (aa .add .i64 e (aa .mul .i64 g h))).bind λK=>some (K.1,())) s) (cond D (some (E,())) s))))));cond (Bool.not x.1) s (cond (ak .eql w.1 2) (cond (aZ l q.2.2.1) (cond (ak .neq (ae ax l q.2.2.1).2.2.2.2.2.2.2.2.1 y) s z) none) z))))) none
def Oa(a:Int×Int×Int×Int×Int×Int×Int×Int×Int×Int×Int×KB×Kj×JI×Js×Int×Int×YcK)(b:Nt):YbL:=letI c:=(false,());letI d:=aa .add .i64 b.2.1 1;letI e:=a.2.2.2.2.2.2.2.2.2.2.2.2;letI f:=e.2.2.2.2.2.1;letI g:=aZ f b.2.1;letI h:=(ae fe f b.2.1).2;letI i:=aa .sub .i64 h.2.1 1;letI j:=ae aS e.1 i;letI k:=j.2.2.2.2.2.2.2.2.2;cond (ak .lss b.2.1 (bw f)) (cond g (cond (ak .eql h.2.1 0) (some (.inl (b.1,d,()))) (cond (ak .gtr h.2.1 (bw e.1)) (some (.inr (.inl c))) (cond (aZ e.1 i) (lets k.1 λ_=>lets k.2.1 λ_=>lets k.2.2.1 λ_=>lets k.2.2.2 λ_=>lets (ak .neq j.2.2.1 e.2.2.2.1) λl=>cond l (some (.inr (.inl c))) (cond g (lets (ak .neq j.1 h.1) λm=>letI n:=j.2.2.2.1;cond m (some (.inr (.inl c))) (lets (ak .neq n 2) λo=>letI p:=(aa .add .i64 b.1 1,d,());letI q:=ak .eql n 2;cond o (lets (ak .neq n 3) λr=>cond r (some (.inr (.inl c))) (lets q λs=>cond s (cond g (cond h.2.2 (some (.inr (.inl c))) (some (.inl p))) none) (some (.inl p)))) (lets q λr=>cond r (cond g (cond h.2.2 (some (.inr (.inl c))) (some (.inl p))) none) (some (.inl p))))) none)) none))) none) (some (.inr (.inr (.inl (b.1,())))))
def Oe k x:=iter (Oa k) big x
def N9(a:YaH)(b:Nt):YbL:=letI c:=b.2.1;letI d:=a.2.2.2;letI e:=d.2.2.2;letI f:=e.2.2.2.2.2;letI g:=f.2.2.2.2.1;letI h:=(ae ax f.1 g).2.2.1;cond (aZ f.1 g) (cond (ak .lss c (bw h)) (cond (aZ f.1 g) (cond (aZ h c) ((Oe (a.1,a.2.1,a.2.2.1,d.1,d.2.1,d.2.2.1,e.1,e.2.1,e.2.2.1,e.2.2.2.1,e.2.2.2.2.1,f.1,f.2.1,f.2.2.1,f.2.2.2.1,g,c,(ae br h c).2.2,()) (b.1,0,())).bind λi=>Sum.elim (λj=>some (.inr (.inl (j.1,())))) (λj=>Sum.elim (λk=>some (.inl (k.1,aa .add .i64 c 1,()))) (λk=>Empty.elim k) j) i) none) none) (some (.inr (.inr (.inl (b.1,())))))) none
def Od k x:=iter (N9 k) big x
def N8(a:YaK)(b:Nt):YbL:=letI c:=a.2.2.2.2;letI d:=c.2.2.2.2;letI e:=d.2.2.2;cond (ak .lss b.2.1 (bw e.1)) ((Od (a.1,a.2.1,a.2.2.1,a.2.2.2.1,c.1,c.2.1,c.2.2.1,c.2.2.2.1,d.1,d.2.1,d.2.2.1,e.1,e.2.1,e.2.2.1,e.2.2.2.1,b.2.1,()) (b.1,0,())).bind λf=>Sum.elim (λg=>some (.inr (.inl (g.1,())))) (λg=>Sum.elim (λh=>some (.inl (h.1,aa .add .i64 b.2.1 1,()))) (λh=>Empty.elim h) g) f) (some (.inr (.inr (.inl (b.1,())))))
def Ul k x:=iter (N8 k) big x
def Oc(a:YaK)(b:Nt):YbG:=letI c:=b.2.1;letI d:=aa .add .i64 c 1;letI e:=a.2.2.2.2.2.2.2.2.2.2.2.2.1;letI f:=(aa .sub .i64 b.1 1,d,());letI g:=(ae aS e c).2.2.2.1;cond (ak .lss c (bw e)) (cond (aZ e c) (cond (ak .eql g 2) (some (.inl f)) (cond (aZ e c) (cond (ak .eql g 3) (some (.inl f)) (some (.inl (b.1,d,())))) none)) none) (some (.inr (.inl (b.1,()))))
def Um k x:=iter (Oc k) big x
def NU(a b c d e f g h i j k:Int)(l:KB)(m:Kj)(n:JI)(o:Js):J8:=letI p:=(a,b,c,d,e,f,g,h,i,j,k,l,m,n,o,());(Ul p (0,0,())).bind λq=>Sum.elim (λr=>some (r.1,())) (λr=>Sum.elim (λs=>(Um p (s.1,0,())).bind λt=>Sum.elim (λu=>some (ak .eql u.1 0,())) (λu=>Empty.elim u) t) (λs=>Empty.elim s) r) q
def R4(a:YaK)(b:Nt):YbG:=letI c:=b.2.1;letI d:=a.2.2.2.2.2;letI e:=aa .add .i64 c 1;letI f:=d.2.2.2.2.2;letI g:=f.2.2.1;cond (ak .lss c (bw g)) (cond (aZ g c) (cond (ak .neq (ae aS g c).2.2.2.1 0) ((Lc a.1 a.2.1 a.2.2.1 a.2.2.2.1 a.2.2.2.2.1 d.1 d.2.1 d.2.2.1 d.2.2.2.1 d.2.2.2.2.1 f.1 f.2.1 g f.2.2.2.1 f.2.2.2.2.1 c).bind λh=>cond h.1 (cond (aZ g c) (some (.inl (aa .add .i64 b.1 (ae aS g c).1,e,()))) none) (some (.inl (b.1,e,())))) (some (.inl (b.1,e,())))) none) (some (.inr (.inl (b.1,()))))
def W3 k x:=iter (R4 k) big x
def PY(a b c d e f g h i j k:Int)(l:KB)(m:Kj)(n:JI)(o:Js):Oz:=(W3 (a,b,c,d,e,f,g,h,i,j,k,l,m,n,o,()) (0,0,())).bind λp=>Sum.elim (λq=>some (q.1,())) (λq=>Empty.elim q) p
def PI(a:YaK)(b:LN):YaN:=letI c:=a.2.2.2.2;letI d:=c.2.2.2.2;letI e:=d.2.2.2;cond (ak .lss b.1 (bw e.1)) ((PZ a.1 a.2.1 a.2.2.1 a.2.2.2.1 c.1 c.2.1 c.2.2.1 c.2.2.2.1 d.1 d.2.1 d.2.2.1 e.1 e.2.1 e.2.2.1 e.2.2.2.1 b.1).bind λf=>cond (Bool.not f.1) (some (.inr (.inl (false,())))) (some (.inl (aa .add .i64 b.1 1,())))) (some (.inr (.inr (.inl ()))))
def Vt k x:=iter (PI k) big x
def PJ(a:YaK)(b:LN):YaN:=letI c:=a.2.2.2.2;letI d:=c.2.2.2.2;letI e:=d.2.2.2.2;cond (ak .lss b.1 (bw e.1)) ((M5 a.1 a.2.1 a.2.2.1 a.2.2.2.1 c.1 c.2.1 c.2.2.1 c.2.2.2.1 d.1 d.2.1 d.2.2.1 d.2.2.2.1 e.1 e.2.1 e.2.2.1 b.1).bind λf=>cond (Bool.not f.1) (some (.inr (.inl (false,())))) (some (.inl (aa .add .i64 b.1 1,())))) (some (.inr (.inr (.inl ()))))
def Vu k x:=iter (PJ k) big x
def Mk(a b c d e f g h i j k:Int)(l:KB)(m:Kj)(n:JI)(o:Js):J8:=(MV a b c d e f g h).bind λp=>letI q:=some (false,());cond (Bool.not p.1) q ((bS i 0 1000).bind λr=>cond (Bool.not r.1) q ((Jn j).bind λs=>cond (Bool.not s.1) q ((bS k 0 20000).bind λt=>cond (Bool.not t.1) q ((bS (bw l) 1 3).bind λu=>cond (Bool.not u.1) q (cond (ak .gtr (bw m) 12) q ((ND n).bind λv=>cond (Bool.not v.1) q ((Jz o).bind λw=>letI x:=(a,b,c,d,e,f,g,h,i,j,k,l,m,n,o,());cond (Bool.not w.1) q ((Vt x (0,())).bind λy=>Sum.elim (λz=>some (z.1,())) (λz=>Sum.elim (λ_=>(Vu x (0,())).bind λA=>Sum.elim (λB=>some (B.1,())) (λB=>Sum.elim (λ_=>(NU a b c d e f g h i j k l m n o).bind λC=>cond C.1 ((PY a b c d e f g h i j k l m n o).bind λD=>some (ak .leq D.1 i,())) q) (λC=>Empty.elim C) B) A) (λA=>Empty.elim A) z) y))))))))
def Fv(a:Int):J8:=(ct a 1 40).bind λb=>some (b.1,())
def JS(a b c d e f:Int)(g:Bool):J8:=(Fv a).bind λh=>letI i:=some (false,());cond h.1 ((Fv b).bind λj=>cond j.1 (cond (ak .neq a b) ((ct c 0 999).bind λk=>cond k.1 ((ct d 0 5).bind λl=>cond l.1 ((I9 e).bind λm=>cond m.1 ((I9 f).bind λn=>cond n.1 (some (ak .lss e f,())) i) i) i) i) i) i) i
def RD(a b c d e f:Int)(g:Bool):J8:=(JS a b c d e f g).bind λh=>some (Bool.not h.1,())
def pu(a:YdS)(b:LN):YaZ:=letI c:=ae gI a.1 b.1;letI d:=c.2.2.2;cond (ak .lss b.1 a.2.1) (cond (aZ a.1 b.1) ((RD c.1 c.2.1 c.2.2.1 d.1 d.2.1 d.2.2.1 d.2.2.2).bind λe=>cond e.1 (some (.inr (.inl (b.1,())))) (some (.inl (aa .add .i64 b.1 1,())))) none) (some (.inr (.inr (.inl ()))))
def vp k x:=iter (pu k) big x
def xp(a:JI):Oz:=(vp (a,bw a,()) (0,())).bind λb=>Sum.elim (λc=>some (c.1,())) (λc=>Sum.elim (λ_=>some (-1,())) (λd=>Empty.elim d) c) b
def ve(a:JI):J8:=(xp a).bind λb=>some (ak .geq b.1 0,())
def JT(a:JI):J8:=cond (ak .leq (bw a) 30) ((ve a).bind λb=>some (Bool.not b.1,())) (some (false,()))
def P8(a:Int×Kz×Lj×YcM)(b:LN):YaN:=letI c:=ae zI a.2.2.2.1 b.1;cond (ak .lss b.1 a.2.2.2.2.1) (cond (aZ a.2.2.2.1 b.1) ((ct c 1 (aa .sub .i64 a.1 1)).bind λd=>letI e:=aa .sub .i64 b.1 1;letI f:=(aa .add .i64 b.1 1,());cond (Bool.not d.1) (some (.inr (.inl (false,())))) (cond (ak .gtr b.1 0) (cond (aZ a.2.1 e) (cond (ak .leq c (ae zI a.2.1 e)) (some (.inr (.inl (false,())))) (some (.inl f))) none) (some (.inl f)))) none) (some (.inr (.inr (.inl ()))))
def Qa k x:=iter (P8 k) big x
def Mr(a:Int×Kz×Lj×YcI)(b:Int×YaT×YcR):Option (Int×YaT×YcR⊕YaV⊕Int×YaT×Unit⊕Empty):=letI c:=(false,());letI d:=b.2.2.2.1;letI e:=ae fe a.2.2.2.1 d;cond (ak .lss d a.2.2.2.2.1) (cond (aZ a.2.2.2.1 d) (cond (ak .neq e.1 b.1) (some (.inr (.inl c))) ((ct e.2.1 1 (aa .sub .i64 a.1 b.1)).bind λf=>letI g:=e.2.2.1;cond (Bool.not f.1) (some (.inr (.inl c))) ((ct g 0 999).bind λh=>letI i:=(aa .add .i64 b.1 e.2.1,qf b.2.1 e.1 true,qf b.2.2.1 g true,aa .add .i64 d 1,());cond (Bool.not h.1) (some (.inr (.inl c))) (cond (ak .gtr g 0) (cond (jK b.2.2.1 g) (some (.inr (.inl c))) (some (.inl i))) (some (.inl i)))))) none) (some (.inr (.inr (.inl (b.1,b.2.1,())))))
def Qb k x:=iter (Mr k) big x
def P9(a:Int×Kz×Lj×Int×YcM)(b:YcR):YeF:=letI c:=a.2.2.2.2;cond (ak .lss b.2.1 c.2.1) (cond (aZ c.1 b.2.1) (cond (Bool.not (jK b.1 (ae zI c.1 b.2.1))) (some (.inr (.inl (false,())))) (some (.inl (b.1,aa .add .i64 b.2.1 1,())))) none) (some (.inr (.inr (.inl ()))))
def Qc k x:=iter (P9 k) big x
def LF(a:Int)(b:Kz)(c:Lj):J8:=(ct a 1 24).bind λd=>letI e:=some (false,());cond (Bool.not d.1) e (cond (ak .eql (bw c) 0) e ((Qa (a,b,c,b,bw b,()) (0,())).bind λf=>Sum.elim (λg=>some (g.1,())) (λg=>Sum.elim (λ_=>(Qb (a,b,c,c,bw c,()) (0,([]:YaT),([]:YaT),0,())).bind λh=>Sum.elim (λi=>some (i.1,())) (λi=>Sum.elim (λj=>(Qc (a,b,c,j.1,b,bw b,()) (j.2.1,0,())).bind λk=>Sum.elim (λl=>some (l.1,())) (λl=>Sum.elim (λ_=>some (ak .eql j.1 a,())) (λm=>Empty.elim m) l) k) (λj=>Empty.elim j) i) h) (λh=>Empty.elim h) g) f))
def OG(a:RB×Int×Int×YcI)(b:YcR):Option (YcR⊕YaV⊕YaT×Unit⊕Empty):=letI c:=(ae fe a.2.2.2.1 b.2.1).2.2.1;letI d:=(qf b.1 c true,aa .add .i64 b.2.1 1,());cond (ak .lss b.2.1 a.2.2.2.2.1) (cond (aZ a.2.2.2.1 b.2.1) (cond (ak .gtr c 0) (cond (jK b.1 c) (some (.inr (.inl (false,())))) (some (.inl d))) (some (.inl d))) none) (some (.inr (.inr (.inl (b.1,())))))
def TE k x:=iter (OG k) big x
def TC(a:YcE)(b:YcR):YeF:=letI c:=b.2.1;letI d:=ae br a.1 c;cond (ak .lss c a.2.1) (cond (aZ a.1 c) ((LF d.1 d.2.1 d.2.2).bind λe=>cond (Bool.not e.1) (some (.inr (.inl (false,())))) ((TE (a.1,a.2.1,c,d.2.2,bw d.2.2,()) (b.1,0,())).bind λf=>Sum.elim (λg=>some (.inr (.inl (g.1,())))) (λg=>Sum.elim (λh=>some (.inl (h.1,aa .add .i64 c 1,()))) (λh=>Empty.elim h) g) f)) none) (some (.inr (.inr (.inl ()))))
def TD k x:=iter (TC k) big x
def KJ(a:RB):J8:=(ct (bw a) 1 6).bind λb=>cond (Bool.not b.1) (some (false,())) ((TD (a,bw a,()) (([]:YaT),0,())).bind λc=>Sum.elim (λd=>some (d.1,())) (λd=>Sum.elim (λ_=>some (true,())) (λe=>Empty.elim e) d) c)
def U6(a b:Int)(c d e:Bool):J8:=some (pI e (ak .eql a 1),())
def E2(a b:Int)(c d e:Bool):J8:=(ct a 0 2).bind λf=>letI g:=some (false,());cond (Bool.not f.1) g ((ct b 0 6).bind λh=>letI i:=some (Bool.not c,());letI j:=U6 a b c d e;letI k:=cond c (some (Bool.not d,())) g;letI l:=cond (ak .eql a 0) (cond (ak .eql b 0) i g) (cond (ak .eql b 1) (j.bind λl=>cond (Bool.not l.1) i g) (cond (ak .eql b 2) (j.bind λl=>cond (Bool.not l.1) k g) (cond (ak .eql b 3) (j.bind λl=>cond (Bool.not l.1) (some (d,())) g) (cond (ak .eql b 4) (j.bind λl=>cond l.1 (some (d,())) g) (cond (ak .eql b 5) k (cond (ak .eql b 6) i (some (true,()))))))));cond (Bool.not h.1) g (cond d (cond (Bool.not c) g l) l))
def U8(a b c d e f g h i j k:Int)(l:KB)(m:Kj)(n:JI)(o:Js)(p:Int):J8:=letI q:=ae ax l p;cond (aZ l p) ((Kg q.1 q.2.1).bind λr=>letI s:=some (false,());cond (Bool.not r.1) s ((KJ q.2.2.1).bind λt=>letI u:=q.2.2.2;letI v:=u.2.2.2;cond (Bool.not t.1) s ((E2 u.1 u.2.1 u.2.2.1 v.1 v.2.1).bind λw=>letI x:=v.2.2;cond (Bool.not w.1) s ((Jx x.2.2).bind λy=>letI z:=ak .eql u.1 0;letI A:=ak .eql x.2.1 0;cond (Bool.not y.1) s (cond (ak .eql x.1 0) (lets (Bool.and z (Bool.and (ak .eql u.2.1 0) (Bool.and (pI u.2.2.1 false) (Bool.and (pI v.1 false) (Bool.and (pI v.2.1 false) true))))) λB=>cond B (some (A,())) s) ((ct x.1 1 (bw m)).bind λB=>letI C:=aa .sub .i64 x.1 1;letI D:=(ae aS m C).2.2;cond (Bool.not B.1) s (cond (aZ m C) (cond (ak .neq D.1 p) s (cond (ak .neq D.2.1 2) s (cond z s (cond A (some (true,())) (cond (ak .eql u.1 2) ((Fv x.2.1).bind λE=>some (E.1,())) s))))) none))))))) none
def Ly(a b c d e f g h i j k:Int)(l:KB)(m:Kj)(n:JI)(o:Js)(p q r s t u v w x y z A B:Int):J8:=letI C:=some (true,());cond (ak .eql s 0) C (cond (ak .eql s 1) C (cond (ak .eql s 2) (cond (aZ l r) (some (ak .eql (ae ax l r).2.2.2.1 1,())) none) (some (false,()))))
def Ke(a b c d e:Int):J8:=(Jo a).bind λf=>letI g:=some (false,());cond f.1 ((ct b 0 1000001).bind λh=>cond h.1 ((ct c 0 2).bind λi=>cond i.1 ((ct d 0 6).bind λj=>cond j.1 ((ct e 0 20064).bind λk=>some (k.1,())) g) g) g) g
def QO(a b c d e f g h i j k:Int)(l:KB)(m:Kj)(n:JI)(o:Js)(p:Int):J8:=letI q:=ae aS m p;cond (aZ m p) ((ct q.1 1 24).bind λr=>letI s:=some (false,());cond (Bool.not r.1) s ((Fv q.2.1).bind λt=>letI u:=(0:Int);letI v:=q.2.2.1;cond (Bool.not t.1) s ((ct v u (aa .sub .i64 (bw l) 1)).bind λw=>letI x:=q.2.2.2;cond (Bool.not w.1) s ((ct x.1 u 5).bind λy=>letI z:=aa .add .i64 p 1;letI A:=x.2.2.2;letI B:=A.2.2;letI C:=B.2.2.2;letI D:=(Ly a b c d e f g h i j k l m n o q.1 q.2.1 v x.1 x.2.1 x.2.2.1 A.1 A.2.1 B.1 B.2.1 B.2.2.1 C.1 C.2).bind λD=>letI E:=ak .eql C.1 u;letI F:=ak .eql C.2 u;cond D.1 (cond (ak .eql x.2.1 u) (cond (ak .eql x.2.2.1 u) (cond E (cond F (lets (Bool.and (ak .eql A.1 u) (Bool.and (ak .eql A.2.1 u) (Bool.and (ak .eql B.1 u) (Bool.and (ak .eql B.2.1 u) (Bool.and (ak .eql B.2.2.1 u) true))))) λG=>some (G,())) s) s) s) s) ((ct x.2.1 u k).bind λG=>cond (Bool.not G.1) s ((ct x.2.2.1 u h).bind λH=>cond (Bool.not H.1) s ((Ke A.1 A.2.1 B.1 B.2.1 B.2.2.1).bind λI=>cond (Bool.not I.1) s ((Kf a b c d e f g h i j k l m n o z).bind λJ=>cond (ak .neq A.1 J.1) s (cond (ak .eql x.1 4) ((Fv C.1).bind λK=>cond K.1 ((ct C.2 u (aa .add .i64 e (aa .mul .i64 g h))).bind λL=>some (L.1,())) s) (cond E (some (F,())) s))))));cond (Bool.not y.1) s (cond (ak .eql x.1 2) (cond (aZ l v) (cond (ak .neq (ae ax l v).2.2.2.2.2.2.2.2.1 z) s D) none) D))))) none
def RK(a:Int×Int×Int×Int×Int×Int×Int×Int×Int×Int×Int×KB×Kj×JI×Js×Int×KB×Int×Int×RB×Int×Int×YcI)(b:Nt):YbL:=letI c:=aa .add .i64 b.2.1 1;letI d:=a.2.2.2.2.2.2.2.2.2.2.2.2;letI e:=d.2.2.2.2.2.2.2.2.2.2;letI f:=(ae fe e.1 b.2.1).2;cond (ak .lss b.2.1 e.2.1) (cond (aZ e.1 b.2.1) (cond (ak .eql f.2.1 0) (some (.inl (b.1,c,()))) ((ct f.2.1 1 (bw d.1)).bind λg=>letI h:=(false,());letI i:=aa .sub .i64 f.2.1 1;letI j:=ae aS d.1 i;letI k:=j.2.2.2;cond (Bool.not g.1) (some (.inr (.inl h))) (cond (aZ d.1 i) (lets k.2.1 λ_=>lets k.2.2.1 λ_=>letI l:=k.2.2.2;lets l.1 λ_=>lets l.2.1 λ_=>lets l.2.2.1 λ_=>letI m:=l.2.2.2;lets m.1 λ_=>lets m.2.1 λ_=>lets m.2.2.1 λ_=>lets m.2.2.2 λ_=>lets (ak .neq k.1 2) λn=>letI o:=(aa .add .i64 b.1 1,c,());letI p:=ak .eql k.1 2;letI q:=ak .neq j.2.2.1 d.2.2.2.1;letI r:=ak .neq j.1 f.1;cond n (lets (ak .neq k.1 3) λs=>cond s (some (.inr (.inl h))) (lets q λt=>cond t (some (.inr (.inl h))) (lets r λu=>cond u (some (.inr (.inl h))) (lets p λv=>cond v (cond f.2.2 (some (.inr (.inl h))) (some (.inl o))) (some (.inl o)))))) (lets q λs=>cond s (some (.inr (.inl h))) (lets r λt=>cond t (some (.inr (.inl h))) (lets p λu=>cond u (cond f.2.2 (some (.inr (.inl h))) (some (.inl o))) (some (.inl o)))))) none))) none) (some (.inr (.inr (.inl (b.1,())))))
def RN k x:=iter (RK k) big x
def RJ(a:Int×Int×Int×Int×Int×Int×Int×Int×Int×Int×Int×KB×Kj×JI×Js×Int×KB×Int×Int×YcE)(b:Nt):YbL:=letI c:=b.2.1;letI d:=a.2.2.2;letI e:=d.2.2.2;letI f:=e.2.2.2;letI g:=f.2.2.2;letI h:=g.2.2.2;letI i:=h.2.2.2;letI j:=(ae br i.2.1 c).2.2;cond (ak .lss c i.2.2.1) (cond (aZ i.2.1 c) ((RN (a.1,a.2.1,a.2.2.1,d.1,d.2.1,d.2.2.1,e.1,e.2.1,e.2.2.1,f.1,f.2.1,f.2.2.1,g.1,g.2.1,g.2.2.1,h.1,h.2.1,h.2.2.1,i.1,i.2.1,i.2.2.1,c,j,bw j,()) (b.1,0,())).bind λk=>Sum.elim (λl=>some (.inr (.inl (l.1,())))) (λl=>Sum.elim (λm=>some (.inl (m.1,aa .add .i64 c 1,()))) (λm=>Empty.elim m) l) k) none) (some (.inr (.inr (.inl (b.1,())))))
def RM k x:=iter (RJ k) big x
def RI(a:YcA)(b:Nt):YbL:=letI c:=b.2.1;letI d:=a.2.2.2.2.2;letI e:=d.2.2.2.2.2;letI f:=e.2.2.2.2.2;letI g:=(ae ax f.1 c).2.2.1;cond (ak .lss c f.2.1) (cond (aZ f.1 c) ((RM (a.1,a.2.1,a.2.2.1,a.2.2.2.1,a.2.2.2.2.1,d.1,d.2.1,d.2.2.1,d.2.2.2.1,d.2.2.2.2.1,e.1,e.2.1,e.2.2.1,e.2.2.2.1,e.2.2.2.2.1,c,f.1,f.2.1,c,g,bw g,()) (b.1,0,())).bind λh=>Sum.elim (λi=>some (.inr (.inl (i.1,())))) (λi=>Sum.elim (λj=>some (.inl (j.1,aa .add .i64 c 1,()))) (λj=>Empty.elim j) i) h) none) (some (.inr (.inr (.inl (b.1,())))))
def WY k x:=iter (RI k) big x
def RL(a:YeE)(b:Nt):YbG:=letI c:=aa .add .i64 b.2.1 1;letI d:=(ae aS a.1 b.2.1).2.2.2.1;letI e:=(aa .sub .i64 b.1 1,c,());cond (ak .lss b.2.1 a.2.1) (cond (aZ a.1 b.2.1) (cond (ak .eql d 2) (some (.inl e)) (cond (ak .eql d 3) (some (.inl e)) (some (.inl (b.1,c,()))))) none) (some (.inr (.inl (b.1,()))))
def WZ k x:=iter (RL k) big x
def SD(a b c d e f g h i j k:Int)(l:KB)(m:Kj)(n:JI)(o:Js):J8:=(WY (a,b,c,d,e,f,g,h,i,j,k,l,m,n,o,l,bw l,()) (0,0,())).bind λp=>Sum.elim (λq=>some (q.1,())) (λq=>Sum.elim (λr=>(WZ (m,bw m,()) (r.1,0,())).bind λs=>Sum.elim (λt=>some (ak .eql t.1 0,())) (λt=>Empty.elim t) s) (λr=>Empty.elim r) q) p
def TK(a:Int×Int×Int×Int×Int×Int×Int×Int×Int×Int×Int×KB×Kj×JI×Js×YeE)(b:Nt):YbG:=letI c:=a.2.2.2.2.2;letI d:=aa .add .i64 b.2.1 1;letI e:=c.2.2.2.2;letI f:=e.2.2.2.2;letI g:=ae aS f.2.2.1 b.2.1;letI h:=g.2.2.2;letI i:=h.2.2.2;letI j:=i.2.2.2;cond (ak .lss b.2.1 f.2.2.2.1) (cond (aZ f.2.2.1 b.2.1) (cond (ak .neq h.1 0) ((Ly a.1 a.2.1 a.2.2.1 a.2.2.2.1 a.2.2.2.2.1 c.1 c.2.1 c.2.2.1 c.2.2.2.1 e.1 e.2.1 e.2.2.1 e.2.2.2.1 f.1 f.2.1 g.1 g.2.1 g.2.2.1 h.1 h.2.1 h.2.2.1 i.1 i.2.1 i.2.2.1 j.1 j.2.1 j.2.2.1 j.2.2.2).bind λk=>cond k.1 (some (.inl (aa .add .i64 b.1 g.1,d,()))) (some (.inl (b.1,d,())))) (some (.inl (b.1,d,())))) none) (some (.inr (.inl (b.1,()))))
def Xv k x:=iter (TK k) big x
def Rt(a b c d e f g h i j k:Int)(l:KB)(m:Kj)(n:JI)(o:Js):Oz:=(Xv (a,b,c,d,e,f,g,h,i,j,k,l,m,n,o,m,bw m,()) (0,0,())).bind λp=>Sum.elim (λq=>some (q.1,())) (λq=>Empty.elim q) p
def ON(a:YaH)(b:LN):YaN:=letI c:=a.2.2.2.2;letI d:=c.2.2.2.2;letI e:=d.2.2.2.2;cond (ak .lss b.1 e.2.2.2.1) ((U8 a.1 a.2.1 a.2.2.1 a.2.2.2.1 c.1 c.2.1 c.2.2.1 c.2.2.2.1 d.1 d.2.1 d.2.2.1 d.2.2.2.1 e.1 e.2.1 e.2.2.1 b.1).bind λf=>cond (Bool.not f.1) (some (.inr (.inl (false,())))) (some (.inl (aa .add .i64 b.1 1,())))) (some (.inr (.inr (.inl ()))))
def U3 k x:=iter (ON k) big x
def OO(a:YaH)(b:LN):YaN:=letI c:=a.2.2.2.2;letI d:=c.2.2.2.2;letI e:=d.2.2.2.2;cond (ak .lss b.1 e.2.2.2.1) ((QO a.1 a.2.1 a.2.2.1 a.2.2.2.1 c.1 c.2.1 c.2.2.1 c.2.2.2.1 d.1 d.2.1 d.2.2.1 d.2.2.2.1 e.1 e.2.1 e.2.2.1 b.1).bind λf=>cond (Bool.not f.1) (some (.inr (.inl (false,())))) (some (.inl (aa .add .i64 b.1 1,())))) (some (.inr (.inr (.inl ()))))
def U4 k x:=iter (OO k) big x
def Mc(a b c d e f g h i j k:Int)(l:KB)(m:Kj)(n:JI)(o:Js):J8:=(Mt a b c d e f g h).bind λp=>letI q:=some (false,());cond (Bool.not p.1) q ((ct i 0 1000).bind λr=>cond (Bool.not r.1) q ((Jo j).bind λs=>cond (Bool.not s.1) q ((I9 k).bind λt=>cond (Bool.not t.1) q ((ct (bw l) 1 3).bind λu=>cond (Bool.not u.1) q (cond (ak .gtr (bw m) 12) q ((JT n).bind λv=>cond (Bool.not v.1) q ((Jx o).bind λw=>cond (Bool.not w.1) q ((U3 (a,b,c,d,e,f,g,h,i,j,k,l,m,n,o,bw l,()) (0,())).bind λx=>Sum.elim (λy=>some (y.1,())) (λy=>Sum.elim (λ_=>(U4 (a,b,c,d,e,f,g,h,i,j,k,l,m,n,o,bw m,()) (0,())).bind λz=>Sum.elim (λA=>some (A.1,())) (λA=>Sum.elim (λ_=>(SD a b c d e f g h i j k l m n o).bind λB=>cond B.1 ((Rt a b c d e f g h i j k l m n o).bind λC=>some (ak .leq C.1 i,())) q) (λB=>Empty.elim B) A) z) (λz=>Empty.elim z) y) x))))))))
def aew(m:List (Int×Bool))(k k':Int)(v:Bool):jK (qf m k v) k'=bif k'==k then v else jK m k':=by
 induction m with
 |nil=>simp only[qf,jK]
 |cons y r d=>
  unfold qf;cases a:k==y.1 with
  |true=>
   have c:k=y.1:=by simpa using a
   subst c;simp only[aJ,jK];cases k'==y.1 <;> rfl
  |false=>
   simp only[cz,jK,d];cases b:k'==y.1 with
   |false=>rfl
   |true=>
    have:k'=y.1:=by simpa using b
    subst this;have:(y.1==k)=false:=by rw[ada]at a⊢;intro e;exact a (by simpa using (beq_iff_eq.1 e).symm)
    rw[this];rfl
def zS(m:List (Int×Bool))(l:List Int):List (Int×Bool):=l.foldl (λm k=>qf m k true) m
def Ry(k:Int):∀(l:List Int) (m:List (Int×Bool)),jK (zS m l) k=true↔jK m k=true\/k∈l
 |[],m=>by simp[zS]
 |x::l,m=>by
  have:=Ry k l (qf m x true);unfold zS at this⊢;rw[vJ,this,aew];cases a:k==x with
  |true=>simp[beq_iff_eq.1 a]
  |false=>
   have:k≠x:=by rintro rfl;simp at a
   simp[this]
def XR(m:List (Int×Bool))(l:List Int)(x:Int):zS m (l++[x])=qf (zS m l) x true:=by unfold zS;rw[Br];rfl
def Ld{α:Type}{l:List α}{n:Nat}(h:n<l.length)(z:α):l.take (n+1)=l.take n++[l.getD n z]:=by rw[ac9,cL h,uo,cL h];rfl
def ZO{α:Type}{l:List α}{n:Nat}{x z:α}(b:n<=l.length):x∈l.take n↔∃k,k<n/\l.getD k z=x:=by
 constructor
 .intro h;obtain⟨k,a,e⟩:=acZ.1 h;rw[jS]at a;rw[List.getElem_take]at e;exact⟨k,by omega,by rw[uo,cL (by omega)];exact e⟩
 .rintro⟨k,a,e⟩;rw[uo,cL (show k<l.length by omega)]at e;rw[<-e];have:(l.take n)[k]? = some l[k]:=by rw[pY a,cL (by omega)]
  exact pZ this
def I8(l:List Bx)(n:Nat):Bx:=l.getD n fe
def k7(l:List Bx)(n:Nat):Int:=(l.take n).foldl (λa b=>aa .add .i64 a b.2.1) 0
def Ol(l:List Bx){n:Nat}(h:n<l.length):k7 l (n+1)=aa .add .i64 (k7 l n) (I8 l n).2.1:=by unfold k7 I8;rw[Ld h fe,Br];rfl
def Zm(l:List Bx)(n k:Nat):Bool:=Bool.not (ak .gtr (I8 l n).2.2.1 0&&ak .eql (I8 l k).2.2.1 (I8 l n).2.2.1)
def okS(l:List Bx)(n:Nat):Bool:=Bool.not (ak .neq (I8 l n).1 (k7 l n))&&Jc (I8 l n).2.1 1 24&&Jc (I8 l n).2.2.1 0 999&&bO (Zm l n) 0 n&&Bool.not (ak .gtr (k7 l (n+1)) 24)
def adI(h:Int)(f:List Int)(l:List Bx)(e:l.length<=1073741824):Q4 h f l=some (bO (okS l) 0 l.length&&(ak .gtr (bw l) 0&&ak .eql (k7 l l.length) h),()):=by
 unfold Q4;have:Qy (h,f,l,()) (0,0,())=some (bif bO (okS l) 0 l.length then(Sum.inr (Sum.inl (k7 l l.length,())):Bool×Unit⊕(Int×Unit⊕Empty))else .inl (false,())):=by
  refine wN (λn=>(k7 l n,(n:Int),())) l.length (by omega) (okS l) _ _ (λn c=>?_) ?_
  .have a:MX (h,f,l,k7 l n,(n:Int),()) ((I8 l n).1,(I8 l n).2.1,(I8 l n).2.2.1,(I8 l n).2.2.2,0,())=some (bif bO (Zm l n) 0 n then(Sum.inr (Sum.inl ((I8 l n).1,(I8 l n).2.1,(I8 l n).2.2.1,(I8 l n).2.2.2,())):Bool×Unit⊕(Int×Int×Int×Bool×Unit⊕Empty))else .inl (false,())):=by
    refine wN (λk=>((I8 l n).1,(I8 l n).2.1,(I8 l n).2.2.1,(I8 l n).2.2.2,(k:Int),())) n (by omega) (Zm l n) _ _ (λk d=>?_) ?_
    .unfold Qx Zm;have b:k<l.length:=by omega
     simp only[EG,d,xC,aJ,dX,b,cw,eW (n:=k) (by omega)];show(bif ak .gtr (I8 l n).2.2.1 0 then(bif ak .eql (I8 l k).2.2.1 (I8 l n).2.2.1 then _ else _)else _)=_;cases ak .gtr (I8 l n).2.2.1 0 <;> cases ak .eql (I8 l k).2.2.1 (I8 l n).2.2.1 <;> rfl
    .unfold Qx;simp only[EG,iO,sC,cz]
   unfold Qw okS;simp only[bP,c,xC,aJ,dX,cw,qB,vP,eW (n:=n) (by omega),Ol l c];show(bif ak .neq (I8 l n).1 (k7 l n)then _ else bif Bool.not (Jc (I8 l n).2.1 1 24)then _ else bif Bool.not (Jc (I8 l n).2.2.1 0 999)then _ else(MX (h,f,l,k7 l n,(n:Int),()) ((I8 l n).1,(I8 l n).2.1,(I8 l n).2.2.1,(I8 l n).2.2.2,0,())).bind _)=_;rw[a];cases ak .neq (I8 l n).1 (k7 l n)with
   |true=>rfl
   |false=>
    cases Jc (I8 l n).2.1 1 24 with
    |false=>rfl
    |true=>
     cases Jc (I8 l n).2.2.1 0 999 with
     |false=>rfl
     |true=>
      cases bO (Zm l n) 0 n with
      |false=>rfl
      |true=>simp only[l7,cz,aJ,vP,xL,zd,fu,uu];cases ak .gtr (aa .add .i64 (k7 l n) (I8 l n).2.1) 24 <;> rfl
  .unfold Qw;simp only[bP,iO,sC,cz]
 rw[this];cases bO (okS l) 0 l.length with
 |false=>rfl
 |true=>simp only[aJ,vP,xL,zd,uu];cases ak .gtr (bw l) 0 <;> rfl
def Zh(l:List Bx):List Int:=l.map (·.1)
def Lu(l:List Bx):List Int:=l.map (·.2.2.1)
def okI(h:Int)(l:List Bx)(n:Nat):Bool:=Bool.not (ak .neq (I8 l n).1 (k7 l n))&&Jc (I8 l n).2.1 1 (aa .sub .i64 h (k7 l n))&&Jc (I8 l n).2.2.1 0 999&&Bool.not (ak .gtr (I8 l n).2.2.1 0&&jK (zS [] (Lu (l.take n))) (I8 l n).2.2.1)
def adm(h:Int)(f:List Int)(l:List Bx)(d:l.length<=1073741824):Qb (h,f,l,l,bw l,()) (0,[],[],0,())=some (bif bO (okI h l) 0 l.length then(Sum.inr (Sum.inl (k7 l l.length,zS [] (Zh l),())):Bool×Unit⊕(Int×(List (Int×Bool))×Unit⊕Empty))else .inl (false,())):=by
 have:=wN (body:=Mr (h,f,l,l,bw l,())) (λn=>(k7 l n,zS [] (Zh (l.take n)),zS [] (Lu (l.take n)),(n:Int),())) l.length (by omega) (okI h l) (.inr (.inl (k7 l l.length,zS [] (Zh l),()))) (.inl (false,())) (λn a=>?_) ?_
 .exact this
 .unfold Mr okI;have b:zS [] (Zh (l.take (n+1)))=qf (zS [] (Zh (l.take n))) (I8 l n).1 true:=by unfold Zh I8;rw[Ld a fe,zX];exact XR _ _ _
  have c:zS [] (Lu (l.take (n+1)))=qf (zS [] (Lu (l.take n))) (I8 l n).2.2.1 true:=by unfold Lu I8;rw[Ld a fe,zX];exact XR _ _ _
  simp only[bP,a,xC,aJ,dX,cw,bu,vP,eW (n:=n) (by omega),Ol l a,b,c];show(bif ak .neq (I8 l n).1 (k7 l n)then _ else bif Bool.not (Jc (I8 l n).2.1 1 (aa .sub .i64 h (k7 l n)))then _ else bif Bool.not (Jc (I8 l n).2.2.1 0 999)then _ else bif ak .gtr (I8 l n).2.2.1 0 then(bif jK (zS [] (Lu (l.take n))) (I8 l n).2.2.1 then _ else _)else _)=_;cases ak .neq (I8 l n).1 (k7 l n)with
  |true=>rfl
  |false=>
   cases Jc (I8 l n).2.1 1 (aa .sub .i64 h (k7 l n))with
   |false=>rfl
   |true=>
    cases Jc (I8 l n).2.2.1 0 999 with
    |false=>rfl
    |true=>
     cases ak .gtr (I8 l n).2.2.1 0 with
     |false=>rfl
     |true=>cases jK (zS [] (Lu (l.take n))) (I8 l n).2.2.1 <;> rfl
 .unfold Mr;simp only[bP,iO,sC,cz,eL]
def adD{a b:Int}:ak .neq a b=false↔a=b:=by simp[ak]
def ah6{a b:Int}:ak .gtr a b=false↔a<=b:=by simp[ak]
def aoU{a b:Int}:ak .gtr a b=true↔b<a:=by simp[ak]
def LO{a b:Int}:ak .eql a b=true↔a=b:=by simp[ak]
def age{l:List Bx}{n:Nat}(c:n<=l.length)(p:Int):jK (zS [] (Lu (l.take n))) p=true↔∃k,k<n/\(I8 l k).2.2.1=p:=by
 rw[Ry];simp only[jK,xM,false_or,Lu,fa];constructor
 .rintro⟨b,d,e⟩;obtain⟨k,a,rfl⟩:=(ZO (z:=fe) c).1 d;exact⟨k,a,e⟩
 .rintro⟨k,a,e⟩;exact⟨I8 l k,(ZO (z:=fe) c).2 ⟨k,a,rfl⟩,e⟩
def adh{l:List Bx}{n:Nat}(b:n<=l.length):(Bool.not (ak .gtr (I8 l n).2.2.1 0&&jK (zS [] (Lu (l.take n))) (I8 l n).2.2.1))=bO (Zm l n) 0 n:=by
 rw[xT,iW];simp only[Zm,jw,Wa];cases d:ak .gtr (I8 l n).2.2.1 0 with
 |false=>exact⟨λ_ _ _ _=>.inl rfl,λ_=>.inl rfl⟩
 |true=>
  constructor
  .intro h m _ a;refine .inr ?_;rcases h with h|h
   .cases h
   .cases c:ak .eql (I8 l m).2.2.1 (I8 l n).2.2.1 with
    |false=>rfl
    |true=>have:=(age b _).2 ⟨m,by omega,LO.1 c⟩;rw[h]at this;cases this
  .intro h;refine .inr ?_;cases a:jK (zS [] (Lu (l.take n))) (I8 l n).2.2.1 with
   |false=>rfl
   |true=>
    obtain⟨k,f,e⟩:=(age b _).1 a;rcases h k (kR _) (by omega)with h|h
    .cases h
    .rw[LO.2 e]at h;cases h
def agw{h:Int}(s:1<=h)(t:h<=24)(l:List Bx)(v:l.length<=1073741824):(bO (okS l) 0 l.length=true/\k7 l l.length=h)↔(bO (okI h l) 0 l.length=true/\k7 l l.length=h):=by
 have mono:∀(g:∀n,n<l.length->0<=k7 l n/\k7 l n<=k7 l (n+1)) (m n:Nat),m<=n->n<=l.length->k7 l m<=k7 l n:=by
  intro g m n r b;induction n with
  |zero=>rw[show m=0 by omega];exact uq _
  |succ n d=>
   rcases vg m (n+1)with h|h
   .exact Int.le_trans (d (by omega) (by omega)) (g n (by omega)).2
   .rw[show m=n+1 by omega];exact uq _
 have o:k7 l 0=0:=rfl;constructor
 .rintro⟨a,f⟩;rw[iW]at a;simp only[okS,aQ,jw,adD,ah6,kx]at a;have c:∀n,n<=l.length->0<=k7 l n/\k7 l n<=24:=by
   intro n;induction n with
   |zero=>intro _;rw[o];omega
   |succ n d=>intro b;obtain⟨⟨⟨⟨_,e⟩,_⟩,_⟩,c5⟩:=a n (kR _) (by omega);have:=d (by omega);refine⟨?_,c5⟩;rw[Ol l (by omega),sO (by omega) (by omega)];omega
  have g:∀n,n<l.length->0<=k7 l n/\k7 l n<=k7 l (n+1):=λn b=>by obtain⟨⟨⟨⟨_,e⟩,_⟩,_⟩,c5⟩:=a n (kR _) (by omega);have:=c n (by omega);refine⟨this.1,?_⟩;rw[Ol l b,sO (by omega) (by omega)];omega
  refine⟨?_,f⟩;rw[iW];intro n _ b;obtain⟨⟨⟨⟨i,e⟩,j⟩,k⟩,c5⟩:=a n (kR _) (by omega);unfold okI;rw[adh (by omega),k];have:=c n (by omega);have q:=mono g (n+1) l.length (by omega) (az _);rw[f,Ol l (by omega),sO (by omega) (by omega)]at q;rw[vm (by omega) (by omega)];simp only[aQ,jw,adD,kx];exact⟨⟨⟨i,by omega,by omega⟩,j⟩,trivial⟩
 .rintro⟨a,f⟩;rw[iW]at a;have c:∀n,n<=l.length->0<=k7 l n/\k7 l n<=h:=by
   intro n;induction n with
   |zero=>intro _;rw[o];omega
   |succ n d=>intro b;have p:=d (by omega);have:=a n (kR _) (by omega);unfold okI at this;rw[vm (by omega) (by omega)]at this;simp only[aQ,jw,adD,kx]at this;obtain⟨⟨⟨_,e⟩,_⟩,_⟩:=this;rw[Ol l (by omega),sO (by omega) (by omega)];omega
  refine⟨?_,f⟩;rw[iW];intro n _ b;have p:=c n (by omega);have u:=c (n+1) (by omega);have:=a n (kR _) b;unfold okI at this;rw[adh (by omega),vm (by omega) (by omega)]at this;simp only[aQ,jw,adD,kx]at this;obtain⟨⟨⟨i,e⟩,j⟩,k⟩:=this;unfold okS;simp only[aQ,jw,adD,ah6,kx];exact⟨⟨⟨⟨i,by omega,by omega⟩,j⟩,k⟩,by omega⟩
def WX(h:Int)(f:List Int):Nat->Bool
 |0=>Jc (f.getD 0 zI) 1 (aa .sub .i64 h 1)
 |n+1=>Jc (f.getD (n+1) zI) 1 (aa .sub .i64 h 1)&&Bool.not (ak .leq (f.getD (n+1) zI) (f.getD n zI))
def foundAt(f:List Int)(l:List Bx)(n:Nat):Bool:=l.any λb=>ak .eql b.1 (f.getD n zI)
def adJ(h:Int)(f:List Int)(l:List Bx)(n:Nat)(c:n<f.length)(d:l.length<=1073741824):Qt (h,f,l,(n:Int),()) (false,0,())=some (.inl (foundAt f l n,())):=by
 have:=lc (body:=MT (h,f,l,(n:Int),())) (λk=>((l.take k).any λb=>ak .eql b.1 (f.getD n zI),(k:Int),())) l.length (by omega) (.inl (foundAt f l n,())) (λk a=>?_) ?_
 .exact this
 .unfold MT;rw[Ld a fe,List.any_append];simp only[bP,a,c,xC,aJ,dX,cw,eW (n:=k) (by omega)];cases (l.take k).any λb=>ak .eql b.1 (f.getD n zI)with
  |true=>rfl
  |false=>simp[List.any]
 .unfold MT foundAt;simp only[bP,iO,sC,cz,eL]
def ZS{n:Nat}(h:n<1099511627776):aa .sub .i64 ((n+1:Nat):Int) 1=(n:Int):=Fj h
def gt1(n:Nat):ak .gtr ((n+1:Nat):Int) 0=true:=by simp only[ak,gt_iff_lt,qF];omega
def Xo(h:Int)(f:List Int)(l:List Bx):Bool:=Jc h 1 24&&((bO (okS l) 0 l.length&&(ak .gtr (bw l) 0&&ak .eql (k7 l l.length) h))&&bO (λn=>WX h f n&&foundAt f l n) 0 f.length)
def VC(h:Int)(f:List Int)(l:List Bx)(d:f.length<=1073741824)(a:l.length<=1073741824):KU h f l=some (Xo h f l,()):=by
 unfold KU Xo;rw[qB,adI h f l a];simp only[vP];have:Qs (h,f,l,()) (0,())=some (bif bO (λn=>WX h f n&&foundAt f l n) 0 f.length then(Sum.inr (Sum.inl ()):Bool×Unit⊕(Unit⊕Empty))else .inl (false,())):=by
  refine wN (λn=>((n:Int),())) f.length (by omega) (λn=>WX h f n&&foundAt f l n) _ _ (λn b=>?_) ?_
  .unfold Qr;simp only[bP,b,xC,aJ,dX,cw,qB,vP,eW (n:=n) (by omega),adJ h f l n b a,zd];cases n with
   |zero=>unfold WX;rw[show ak .gtr ((0:Nat):Int) 0=false from rfl];cases Jc (f.getD 0 zI) 1 (aa .sub .i64 h 1) <;> cases foundAt f l 0 <;> rfl
   |succ m=>
    have c:m<f.length:=by omega
    unfold WX;rw[gt1,ZS (by omega)];simp only[dX,cw,c,xC,aJ];cases Jc (f.getD (m+1) zI) 1 (aa .sub .i64 h 1) <;> cases ak .leq (f.getD (m+1) zI) (f.getD m zI) <;> cases foundAt f l (m+1) <;> rfl
  .unfold Qr;simp only[bP,iO,sC,cz]
 rw[this];cases Jc h 1 24 with
 |false=>rfl
 |true=>
  simp only[l7,cz,uu];cases (bO (okS l) 0 l.length&&(ak .gtr (bw l) 0&&ak .eql (k7 l l.length) h))with
  |false=>rfl
  |true=>simp only[l7,cz,uu];cases bO (λn=>WX h f n&&foundAt f l n) 0 f.length <;> rfl
def ad7(h:Int)(f:List Int)(l:List Bx):Bool:=Jc h 1 24&&(Bool.not (ak .eql (bw l) 0)&&(bO (WX h f) 0 f.length&&(bO (okI h l) 0 l.length&&(bO (λn=>jK (zS [] (Zh l)) (f.getD n zI)) 0 f.length&&ak .eql (k7 l l.length) h))))
def YC(h:Int)(f:List Int)(l:List Bx)(g:f.length<=1073741824)(d:l.length<=1073741824):LF h f l=some (ad7 h f l,()):=by
 unfold LF ad7;rw[bu];simp only[vP];have b:Qa (h,f,l,f,bw f,()) (0,())=some (bif bO (WX h f) 0 f.length then(Sum.inr (Sum.inl ()):Bool×Unit⊕(Unit⊕Empty))else .inl (false,())):=by
  refine wN (λn=>((n:Int),())) f.length (by omega) (WX h f) _ _ (λn a=>?_) ?_
  .unfold P8;simp only[bP,a,xC,aJ,dX,cw,bu,vP,eW (n:=n) (by omega)];cases n with
   |zero=>unfold WX;rw[show ak .gtr ((0:Nat):Int) 0=false from rfl];cases Jc (f.getD 0 zI) 1 (aa .sub .i64 h 1) <;> rfl
   |succ m=>
    have e:m<f.length:=by omega
    unfold WX;rw[gt1,ZS (by omega)];simp only[dX,cw,e,xC,aJ];cases Jc (f.getD (m+1) zI) 1 (aa .sub .i64 h 1) <;> cases ak .leq (f.getD (m+1) zI) (f.getD m zI) <;> rfl
  .unfold P8;simp only[bP,iO,sC,cz]
 have c:Qc (h,f,l,k7 l l.length,f,bw f,()) (zS [] (Zh l),0,())=some (bif bO (λn=>jK (zS [] (Zh l)) (f.getD n zI)) 0 f.length then(Sum.inr (Sum.inl ()):Bool×Unit⊕(Unit⊕Empty))else .inl (false,())):=by
  refine wN (λn=>(zS [] (Zh l),(n:Int),())) f.length (by omega) _ _ _ (λn a=>?_) ?_
  .unfold P9;simp only[bP,a,xC,aJ,dX,cw,eW (n:=n) (by omega)];cases jK (zS [] (Zh l)) (f.getD n zI) <;> rfl
  .unfold P9;simp only[bP,iO,sC,cz]
 rw[b,adm h f l d];cases Jc h 1 24 with
 |false=>rfl
 |true=>
  simp only[l7,cz,uu];cases ak .eql (bw l) 0 with
  |true=>rfl
  |false=>
   simp only[cz,fu,uu];cases bO (WX h f) 0 f.length with
   |false=>rfl
   |true=>
    simp only[aJ,vP,xL,zd,uu];cases bO (okI h l) 0 l.length with
    |false=>rfl
    |true=>simp only[aJ,vP,xL,zd,uu,c];cases bO (λn=>jK (zS [] (Zh l)) (f.getD n zI)) 0 f.length <;> rfl
def ah0(f:List Int)(l:List Bx)(n:Nat):jK (zS [] (Zh l)) (f.getD n zI)=foundAt f l n:=by rw[xT,Ry];simp only[jK,xM,false_or,Zh,foundAt,fa,oq,LO]
def afg(h:Int)(f:List Int)(l:List Bx)(p:l.length<=1073741824):Xo h f l=ad7 h f l:=by
 unfold Xo ad7;cases o:Jc h 1 24 with
 |false=>rfl
 |true=>
  obtain⟨q,r⟩:=kx.1 o;have g:=agw q r l p;have j:Bool.not (ak .eql (bw l) 0)=ak .gtr (bw l) 0:=by
   cases k:ak .gtr (bw l) 0 with
   |true=>
    have:ak .eql (bw l) 0=false:=by rw[ada,ne_eq,LO];have:=aoU.1 k;omega
    rw[this];rfl
   |false=>
    have:ak .eql (bw l) 0=true:=by rw[LO];have:=ah6.1 k;unfold bw at this⊢;omega
    rw[this];rfl
  rw[j];have i:(λn=>jK (zS [] (Zh l)) (f.getD n zI))=foundAt f l:=funext λn=>ah0 f l n;rw[i,xT];simp only[aQ,LO,iW,uu];simp only[iW]at g;constructor
  .rintro⟨⟨c,d,a⟩,b⟩;obtain⟨e,_⟩:=g.1 ⟨c,a⟩;exact⟨d,λm x y=>(b m x y).1,e,λm x y=>(b m x y).2,a⟩
  .rintro⟨d,b,c,c5,a⟩;obtain⟨e,_⟩:=g.2 ⟨c,a⟩;exact⟨⟨e,d,a⟩,λm x y=>⟨b m x y,c5 m x y⟩⟩
def nf(L:List LM)(i:Nat):LM:=L.getD i br
def ael(l:List Bx)(p:Int):Bool:=l.any λb=>ak .eql b.2.2.1 p
def akn(h:Int)(f:List Int)(l:List Bx)(p:Int)(t:l.length<=1073741824):∃r,KQ h f l p=some (r,())/\ak .geq r 0=(ak .gtr p 0&&ael l p):=by
 unfold KQ;obtain⟨y,i,j⟩:=C2 (body:=Kx (p,h,f,l,())) (λn=>((n:Int),())) l.length (by omega) (λn=>Bool.not (ak .eql (l.getD n fe).2.2.1 p&&ak .gtr p 0)) (Sum.inr (Sum.inl ())) (λn=>Sum.inl ((n:Int),())) (λn c=>by
  unfold Kx;simp only[bP,dX,c,xC,aJ,cw,eW (n:=n) (by omega)];cases ak .eql (l.getD n fe).2.2.1 p <;> cases ak .gtr p 0 <;> rfl) (by
  unfold Kx;simp only[bP,iO,sC,cz])
 have e:PR (p,h,f,l,()) ((0:Int),())=some y:=i;rw[e];rcases j with ⟨d,rfl⟩|⟨d,n,c,rfl,a⟩
 .refine⟨-1,rfl,?_⟩;rw[iW]at d;show false=_;symm;rw[Wa];cases q:ak .gtr p 0 with
  |false=>exact .inl rfl
  |true=>refine .inr ?_;rw[ada];intro o;obtain⟨b,k,m⟩:=oq.1 o;obtain⟨n,c,rfl⟩:=acZ.1 k;have:=d n (kR _) (by omega);rw[uo,cL c,ae5,m,q]at this;cases this
 .refine⟨(n:Int),rfl,?_⟩;have g:ak .geq (n:Int) 0=true:=by simp[ak]
  rw[g];symm;have a:(ak .eql (l.getD n fe).2.2.1 p&&ak .gtr p 0)=true:=by
   cases s:(ak .eql (l.getD n fe).2.2.1 p&&ak .gtr p 0)with
   |true=>rfl
   |false=>rw[s]at a;first|cases a|(simp at a)
  rw[aQ]at a⊢;exact⟨a.2,oq.2 ⟨_,JY c fe,a.1⟩⟩
def Sq(L:List LM)(i k n:Nat):Bool:=Bool.not (ak .gtr (I8 (nf L i).2.2 n).2.2.1 0&&ael (nf L k).2.2 (I8 (nf L i).2.2 n).2.2.1)
def NF(L:List LM)(i:Nat):Bool:=Xo (nf L i).1 (nf L i).2.1 (nf L i).2.2&&bO (λk=>bO (Sq L i k) 0 (nf L i).2.2.length) 0 i
def J5(L:List LM):Bool:=Jc (bw L) 1 6&&bO (NF L) 0 L.length
def L9(L:List LM):Prop:=L.length<=1073741824/\∀c,c∈L->c.2.1.length<=1073741824/\c.2.2.length<=1073741824
def L9.at{L:List LM}(h:L9 L){i:Nat}(a:i<L.length):(nf L i).2.1.length<=1073741824/\(nf L i).2.2.length<=1073741824:=h.2 _ (JY a _)
def Vp(L:List LM)(c:L9 L):Mj L=some (J5 L,()):=by
 have s:=c.1;unfold Mj J5;rw[qB];simp only[vP];have m:∀i k,i<L.length->k<i->Uf (L,(i:Int),(k:Int),()) (0,())=some (bif bO (Sq L i k) 0 (nf L i).2.2.length then(Sum.inr (Sum.inl ()):Bool×Unit⊕(Unit⊕Empty))else .inl (false,())):=by
  intro i k a e;have b:k<L.length:=by omega
  have o:=(c.at a).2;refine wN (λn=>((n:Int),())) (nf L i).2.2.length (by omega) _ _ _ (λn q=>?_) ?_
  .unfold Uc;obtain⟨r,g,h⟩:=akn (nf L k).1 (nf L k).2.1 (nf L k).2.2 (I8 (nf L i).2.2 n).2.2.1 (c.at b).2;have d:KQ (L.getD k br).1 (L.getD k br).2.1 (L.getD k br).2.2 ((L.getD i br).2.2.getD n fe).2.2.1=some (r,()):=g;have f:n<(L.getD i br).2.2.length:=q;simp only[dX,a,b,xC,aJ,cw,bP,f,d,vP,h,eW (n:=n) (by omega)];unfold Sq;cases (ak .gtr (I8 (nf L i).2.2 n).2.2.1 0&&ael (nf L k).2.2 (I8 (nf L i).2.2 n).2.2.1) <;> rfl
  .unfold Uc;have:¬((nf L i).2.2.length<(L.getD i br).2.2.length):=iO _;simp only[dX,a,xC,aJ,cw,bP,this,sC,cz]
 have l:∀i,i<L.length->Ue (L,(i:Int),()) (0,())=some (bif bO (λk=>bO (Sq L i k) 0 (nf L i).2.2.length) 0 i then(Sum.inr (Sum.inl ()):Bool×Unit⊕(Unit⊕Empty))else .inl (false,())):=by
  intro i a;refine wN (λn=>((n:Int),())) i (by omega) _ _ _ (λk e=>?_) ?_
  .unfold Ub;simp only[EG,e,xC,aJ,m i k a e,vP,eW (n:=k) (by omega)];cases bO (Sq L i k) 0 (nf L i).2.2.length <;> rfl
  .unfold Ub;simp only[EG,iO,sC,cz]
 have j:Ud (L,()) (0,())=some (bif bO (NF L) 0 L.length then(Sum.inr (Sum.inl ()):Bool×Unit⊕(Unit⊕Empty))else .inl (false,())):=by
  refine wN (λn=>((n:Int),())) L.length (by omega) _ _ _ (λi a=>?_) ?_
  .unfold Ua NF;have p:KU (L.getD i br).1 (L.getD i br).2.1 (L.getD i br).2.2=some (Xo (nf L i).1 (nf L i).2.1 (nf L i).2.2,()):=VC _ _ _ (c.at a).1 (c.at a).2;simp only[bP,dX,a,xC,aJ,cw,p,vP,l i a,eW (n:=i) (by omega)];cases Xo (nf L i).1 (nf L i).2.1 (nf L i).2.2 with
   |false=>rfl
   |true=>cases bO (λk=>bO (Sq L i k) 0 (nf L i).2.2.length) 0 i <;> rfl
  .unfold Ua;simp only[bP,iO,sC,cz]
 rw[j];cases Jc (bw L) 1 6 with
 |false=>rfl
 |true=>cases bO (NF L) 0 L.length <;> rfl
def Mh(L:List LM)(i:Nat):List Int:=((L.take i).map λc=>Lu c.2.2).flatten
def aeE{L:List LM}{i:Nat}(h:i<L.length):Mh L (i+1)=Mh L i++Lu (nf L i).2.2:=by unfold Mh nf;rw[Ld h br,zX,abj];simp
def afB(m:List (Int×Bool))(a b:List Int):zS m (a++b)=zS (zS m a) b:=Br
def aaQ(L:List LM)(i n:Nat):Bool:=Bool.not (ak .gtr (I8 (nf L i).2.2 n).2.2.1 0&&jK (zS (zS [] (Mh L i)) (Lu ((nf L i).2.2.take n))) (I8 (nf L i).2.2 n).2.2.1)
def XY(L:List LM)(i:Nat):Bool:=ad7 (nf L i).1 (nf L i).2.1 (nf L i).2.2&&bO (aaQ L i) 0 (nf L i).2.2.length
def adl(L:List LM)(c:L9 L):KJ L=some (Jc (bw L) 1 6&&bO (XY L) 0 L.length,()):=by
 have j:=c.1;unfold KJ;rw[bu];simp only[vP];have g:∀i,i<L.length->TE (L,bw L,(i:Int),(nf L i).2.2,bw (nf L i).2.2,()) (zS [] (Mh L i),0,())=some (bif bO (aaQ L i) 0 (nf L i).2.2.length then(Sum.inr (Sum.inl (zS [] (Mh L (i+1)),())):Bool×Unit⊕((List (Int×Bool))×Unit⊕Empty))else .inl (false,())):=by
  intro i a;have k:=(c.at a).2;have:=wN (body:=OG (L,bw L,(i:Int),(nf L i).2.2,bw (nf L i).2.2,())) (λn=>(zS (zS [] (Mh L i)) (Lu ((nf L i).2.2.take n)),(n:Int),())) (nf L i).2.2.length (by omega) (aaQ L i) (Sum.inr (Sum.inl (zS [] (Mh L (i+1)),()))) (Sum.inl (false,())) (λn d=>?_) ?_
  .exact this
  .unfold OG aaQ;have e:zS (zS [] (Mh L i)) (Lu ((nf L i).2.2.take (n+1)))=qf (zS (zS [] (Mh L i)) (Lu ((nf L i).2.2.take n))) (I8 (nf L i).2.2 n).2.2.1 true:=by unfold Lu I8;rw[Ld d fe,zX];exact XR _ _ _
   simp only[bP,dX,d,xC,aJ,cw,eW (n:=n) (by omega),e];show(bif ak .gtr (I8 (nf L i).2.2 n).2.2.1 0 then(bif jK (zS (zS [] (Mh L i)) (Lu ((nf L i).2.2.take n))) (I8 (nf L i).2.2 n).2.2.1 then _ else _)else _)=_;cases ak .gtr (I8 (nf L i).2.2 n).2.2.1 0 with
   |false=>rfl
   |true=>cases jK (zS (zS [] (Mh L i)) (Lu ((nf L i).2.2.take n))) (I8 (nf L i).2.2 n).2.2.1 <;> rfl
  .unfold OG;simp only[bP,iO,sC,cz,eL,aeE a,afB]
 have f:TD (L,bw L,()) ([],0,())=some (bif bO (XY L) 0 L.length then(Sum.inr (Sum.inl ()):Bool×Unit⊕(Unit⊕Empty))else .inl (false,())):=by
  refine wN (λn=>(zS [] (Mh L n),(n:Int),())) L.length (by omega) _ _ _ (λi a=>?_) ?_
  .unfold TC XY;have h:LF (L.getD i br).1 (L.getD i br).2.1 (L.getD i br).2.2=some (ad7 (nf L i).1 (nf L i).2.1 (nf L i).2.2,()):=YC _ _ _ (c.at a).1 (c.at a).2;have b:=g i a;unfold nf at b;simp only[bP,dX,a,xC,aJ,cw,h,vP,b,eW (n:=i) (by omega)];cases ad7 (nf L i).1 (nf L i).2.1 (nf L i).2.2 with
   |false=>rfl
   |true=>show(bif Bool.not true then _ else(some (bif bO (aaQ L i) 0 (nf L i).2.2.length then _ else _)).bind _)=_;cases bO (aaQ L i) 0 (nf L i).2.2.length <;> rfl
  .unfold TC;simp only[bP,iO,sC,cz]
 rw[f];cases Jc (bw L) 1 6 with
 |false=>rfl
 |true=>cases bO (XY L) 0 L.length <;> rfl
def aem{l:List Bx}{p:Int}:ael l p=true↔p∈Lu l:=by simp only[ael,Lu,oq,fa,LO]
def abT{L:List LM}{i:Nat}(d:i<=L.length)(p:Int):p∈Mh L i↔∃k,k<i/\p∈Lu (nf L k).2.2:=by
 unfold Mh;simp only[List.mem_flatten,fa];constructor
 .rintro⟨l,⟨c,e,rfl⟩,b⟩;obtain⟨k,a,rfl⟩:=(ZO (z:=br) d).1 e;exact⟨k,a,b⟩
 .rintro⟨k,a,b⟩;exact⟨_,⟨nf L k,(ZO (z:=br) d).2 ⟨k,a,rfl⟩,rfl⟩,b⟩
def agt(L:List LM)(l:L9 L){i:Nat}(j:i<L.length):NF L i=XY L i:=by
 unfold NF XY;rw[afg _ _ _ (l.at j).2];cases d:ad7 (nf L i).1 (nf L i).2.1 (nf L i).2.2 with
 |false=>rfl
 |true=>
  simp only[uu];have a:∀n,n<(nf L i).2.2.length->bO (Zm (nf L i).2.2 n) 0 n=true:=by rw[<-afg _ _ _ (l.at j).2]at d;unfold Xo at d;simp only[aQ]at d;intro n e;have:=(iW _ _).1 d.2.1.1 n (kR _) (by omega);unfold okS at this;simp only[aQ]at this;exact this.1.2
  rw[xT,iW,iW];constructor
  .intro h n _ e;unfold aaQ;rw[jw,Wa];cases g:ak .gtr (I8 (nf L i).2.2 n).2.2.1 0 with
   |false=>exact .inl rfl
   |true=>
    refine .inr ?_;cases b:jK (zS (zS [] (Mh L i)) (Lu ((nf L i).2.2.take n))) (I8 (nf L i).2.2 n).2.2.1 with
    |false=>rfl
    |true=>
     exfalso;rcases(Ry _ _ _).1 b with b|b
     .have:=(Ry _ _ _).1 b;simp only[jK,xM,false_or]at this;obtain⟨k,m,f⟩:=(abT (by omega) _).1 this;have:=h k (kR _) (by omega);have:=(iW _ _).1 this n (kR _) e;unfold Sq at this;rw[g,aem.2 f]at this;cases this
     .have hd:=a n (by omega);rw[<-adh (by omega),g]at hd;have:jK (zS [] (Lu ((nf L i).2.2.take n))) (I8 (nf L i).2.2 n).2.2.1=true:=(Ry _ _ _).2 (.inr b);rw[this]at hd;cases hd
  .intro h k _ m;rw[iW];intro n _ e;have:=h n (kR _) e;unfold aaQ at this;unfold Sq;rw[jw,Wa]at this⊢;rcases this with c|c
   .exact .inl c
   .refine .inr ?_;cases f:ael (nf L k).2.2 (I8 (nf L i).2.2 n).2.2.1 with
    |false=>rfl
    |true=>have:jK (zS (zS [] (Mh L i)) (Lu ((nf L i).2.2.take n))) (I8 (nf L i).2.2 n).2.2.1=true:=(Ry _ _ _).2 (.inl ((Ry _ _ _).2 (.inr ((abT (by omega) _).2 ⟨k,by omega,aem.1 f⟩))));rw[this]at c;cases c
def UZ(L:List LM)(a:L9 L):KJ L=some (J5 L,()):=by rw[adl L a];unfold J5;rw[sD L.length 0 λm _ b=>agt L a (by omega)]
def Sm{α:Type}(P:α->Prop)(x y:Option α):Prop:=∃r,x=some r/\y=some r/\P r
section
variable {α β:Type}{P:α->Prop}{Q:β->Prop}
def Sm.ret{a:α}(h:P a):Sm P (some a) (some a):=⟨a,rfl,rfl,h⟩
def Sm.bind{x y:Option α}{f g:α->Option β}(b:Sm P x y)(h:∀r,P r->Sm Q (f r) (g r)):Sm Q (x.bind f) (y.bind g):=by obtain⟨r,rfl,rfl,a⟩:=b;exact h r a
def Sm.cond{b:Bool}{x y x' y':Option α}(a:b=true->Sm P x x')(c:b=false->Sm P y y'):Sm P (bif b then x else y) (bif b then x' else y'):=by
 cases b
 .exact c rfl
 .exact a rfl
def Sm.guard{b c:Bool}{x y:Option α}(a:b=true)(d:c=true)(h:Sm P x y):Sm P (bif b then x else none) (bif c then y else none):=by subst a d;exact h
def Sm.mono{a:α->Prop}{x y:Option α}(h:Sm P x y)(d:∀r,P r->a r):Sm a x y:=by obtain⟨r,b,c,e⟩:=h;exact⟨r,b,c,d r e⟩
def Sm.symm{x y:Option α}(h:Sm P x y):Sm P y x:=by obtain⟨r,a,b,c⟩:=h;exact⟨r,b,a,c⟩
def S8{X Y:Type}{body body':X->Option (X⊕Y)}(c:X->Prop)(m:X->Nat){Q:Y->Prop}(h:∀x,c x->Sm (λr=>match r with |.inl a=>c a/\m a<m x |.inr b=>Q b) (body x) (body' x)):∀(d:Nat) (x:X),c x->m x<d->Sm Q (iter body d x) (iter body' d x)
 |0,x,_,i=>absurd i (vi _)
 |d+1,x,j,i=>by
  obtain⟨r,f,g,e⟩:=h x j;cases r with
  |inl a=>rw[fz f,fz g];exact S8 c m h d a e.1 (by have:=e.2;omega)
  |inr b=>exact⟨b,cJ f,cJ g,e⟩
end
def Qp {B Y:Type} {body body':B×Int×Unit->Option ((B×Int×Unit)⊕Y)} (len:Nat) (j:len<=1073741824) {Q:Y->Prop} (I:Nat->B->Prop)
  (o:∀b n,n<len->I n b->Sm (λr=>match r with |.inl a=>I (n+1) a.1/\a.2.1=((n+1:Nat):Int) |.inr y=>Q y) (body (b,(n:Int),())) (body' (b,(n:Int),()))) (l:∀b,I len b->Sm (λr=>match r with |.inl a=>False |.inr y=>Q y) (body (b,(len:Int),())) (body' (b,(len:Int),()))) (b:B) (k:I 0 b):Sm Q (iter body big (b,0,())) (iter body' big (b,0,())):=by
 refine S8 (λx=>I x.2.1.toNat x.1/\0<=x.2.1/\x.2.1<=(len:Int)) (λx=>((len:Int)-x.2.1).toNat) (λx p=>?_) big (b,0,()) ⟨k,uq _,by show(0:Int)<=(len:Int);omega⟩ (i7 (by show((len:Int)-0).toNat<_;omega));obtain⟨b,i,u⟩:=x;obtain⟨d,f,g⟩:=p;have f:0<=i:=f;have g:i<=(len:Int):=g;obtain⟨n,rfl⟩:∃n:Nat,i=(n:Int):=⟨i.toNat,by omega⟩
 have d:I n b:=d;by_cases h:n<len
 .refine(o b n h d).mono λr c=>?_;cases r with
  |inr y=>exact c
  |inl a=>obtain⟨q,e⟩:=c;refine⟨⟨by rw[e];exact q,by rw[e];omega,by rw[e];omega⟩,?_⟩;show((len:Int)-a.2.1).toNat<((len:Int)-(n:Int)).toNat;rw[e];omega
 .have m:n=len:=by omega
  subst m;refine(l b d).mono λr c=>?_;cases r with
  |inl a=>exact c.elim
  |inr y=>exact c
def agX {B Y:Type} {body c:B×Int×Unit->Option ((B×Int×Unit)⊕Y)} (len:Nat) (d:len<=1073741824) {Q:Y->Prop} (I:B->Prop)
  (g:∀b n,n<len->I b->Sm (λr=>match r with |.inl a=>I a.1/\a.2.1=((n+1:Nat):Int) |.inr y=>Q y) (body (b,(n:Int),())) (c (b,(n:Int),()))) (f:∀b,I b->Sm (λr=>match r with |.inl a=>False |.inr y=>Q y) (body (b,(len:Int),())) (c (b,(len:Int),()))) (b:B) (e:I b):Sm Q (iter body big (b,0,())) (iter c big (b,0,())):=Qp len d (λ_=>I) g f b e
def aeI {Y:Type} {body b:Int×Unit->Option ((Int×Unit)⊕Y)} (len:Nat) (l:len<=1073741824) (F:Nat->Prop) {Q:Y->Prop}
  (q:∀n,n<len->Sm (λr=>match r with |.inl a=>a.1=((n+1:Nat):Int)/\F n |.inr y=>Q y) (body ((n:Int),())) (b ((n:Int),()))) (o:(∀n,n<len->F n)->Sm (λr=>match r with |.inl a=>False |.inr y=>Q y) (body ((len:Int),())) (b ((len:Int),()))):Sm Q (iter body big (0,())) (iter b big (0,())):=by
 refine S8 (λx=>0<=x.1/\x.1<=(len:Int)/\∀m:Nat,(m:Int)<x.1->F m) (λx=>((len:Int)-x.1).toNat) (λx s=>?_) big (0,()) ⟨uq _,by show(0:Int)<=(len:Int);omega,λm c=>by have c:(m:Int)<0:=c;omega⟩ (i7 (by show((len:Int)-0).toNat<_;omega));obtain⟨i,u⟩:=x;obtain⟨j,k,e⟩:=s;have j:0<=i:=j;have k:i<=(len:Int):=k;have e:∀m:Nat,(m:Int)<i->F m:=e;obtain⟨n,rfl⟩:∃n:Nat,i=(n:Int):=⟨i.toNat,by omega⟩
 by_cases h:n<len
 .refine(q n h).mono λr d=>?_;cases r with
  |inr y=>exact d
  |inl a=>
   obtain⟨f,t⟩:a.1=((n+1:Nat):Int)/\F n:=d;refine⟨⟨by rw[f];omega,by rw[f];omega,λm c=>?_⟩,?_⟩
   .rw[f]at c;rcases vg m n with g|g
    .exact e m (by omega)
    .rw[show m=n by omega];exact t
   .show((len:Int)-a.1).toNat<((len:Int)-(n:Int)).toNat;rw[f];omega
 .have p:n=len:=by omega
  subst p;refine(o λm c=>e m (by omega)).mono λr d=>?_;cases r with
  |inl a=>exact d.elim
  |inr y=>exact d
abbrev Any{α:Type}:α->Prop:=λ_=>True
def aeL{α:Type}{x y:Option α}{a:α}(b:x=some a)(c:y=some a):Sm (λr=>r=a) x y:=⟨a,b,c,rfl⟩
def Zr(a lo hi:Int):Sm (λr=>r=(Jc a lo hi,())) (bS a lo hi) (ct a lo hi):=aeL (qB a lo hi) (bu a lo hi)
def ahP:∀(k:Fin 3) (t:Fin 7) (a b c:Bool),Jm ((k.val:Nat):Int) ((t.val:Nat):Int) a b c=E2 ((k.val:Nat):Int) ((t.val:Nat):Int) a b c/\(E2 ((k.val:Nat):Int) ((t.val:Nat):Int) a b c).isSome=true:=by decide +kernel
def af0(k t:Int)(a b c:Bool):Sm (λr=>r.1=true->0<=k/\k<=2) (Jm k t a b c) (E2 k t a b c):=by
 cases d:Jc k 0 2 with
 |false=>
  refine⟨(false,()),?_,?_,λh=>by cases h⟩
  .unfold Jm;rw[qB,d];rfl
  .unfold E2;rw[bu,d];rfl
 |true=>
  obtain⟨f,i⟩:=kx.1 d;cases e:Jc t 0 6 with
  |false=>
   refine⟨(false,()),?_,?_,λh=>by cases h⟩
   .unfold Jm;rw[qB,d,qB,e];rfl
   .unfold E2;rw[bu,d,bu,e];rfl
  |true=>obtain⟨j,l⟩:=kx.1 e;have:=ahP ⟨k.toNat,by omega⟩ ⟨t.toNat,by omega⟩ a b c;simp only[ac7 f,ac7 j]at this;obtain⟨r,g⟩:=vQ.1 this.2;exact⟨r,this.1.trans g,g,λ_=>⟨f,i⟩⟩
def ajt(a b c d e:Int):Sm Any (KO a b c d e) (Ke a b c d e):=by unfold KO Ke Jn Jo;simp only[qB,bu,vP];cases Jc a 1 2147483646 <;> cases Jc b 0 1000001 <;> cases Jc c 0 2 <;> cases Jc d 0 6 <;> exact .ret trivial
def aej(a b c d e f:Int)(o:Bool):Sm Any (Lv a b c d e f o) (JS a b c d e f o):=by unfold Lv JS Ja Fv M3 I9;simp only[qB,bu,vP];cases Jc a 1 40 <;> cases Jc b 1 40 <;> cases ak .neq a b <;> cases Jc c 0 999 <;> cases Jc d 0 5 <;> cases Jc e 0 20000 <;> cases Jc f 0 20000 <;> exact .ret trivial
def grV(x:Ou):Bool:=match JS x.1 x.2.1 x.2.2.1 x.2.2.2.1 x.2.2.2.2.1 x.2.2.2.2.2.1 x.2.2.2.2.2.2 with|some r=>r.1|none=>false
def abA(x:Ou):Lv x.1 x.2.1 x.2.2.1 x.2.2.2.1 x.2.2.2.2.1 x.2.2.2.2.2.1 x.2.2.2.2.2.2=some (grV x,())/\JS x.1 x.2.1 x.2.2.1 x.2.2.2.1 x.2.2.2.2.1 x.2.2.2.2.2.1 x.2.2.2.2.2.2=some (grV x,()):=by
 obtain⟨r,b,a,_⟩:=aej x.1 x.2.1 x.2.2.1 x.2.2.2.1 x.2.2.2.2.1 x.2.2.2.2.2.1 x.2.2.2.2.2.2;have:grV x=r.1:=by unfold grV;rw[a]
 rw[this];exact⟨b,a⟩
def acE(g:List Ou)(j:g.length<=1073741824):Sm Any (ND g) (JT g):=by
 unfold ND JT ve xp;have i:Qv (g,()) (0,())=some (bif bO (λn=>grV (g.getD n gI)) 0 g.length then(Sum.inr (Sum.inl ()):Bool×Unit⊕(Unit⊕Empty))else .inl (false,())):=by
  refine wN (λn=>((n:Int),())) g.length (by omega) _ _ _ (λn a=>?_) ?_
  .unfold Qu;simp only[bP,dX,a,xC,aJ,cw,(abA _).1,vP,eW (n:=n) (by omega)];cases grV (g.getD n gI) <;> rfl
  .unfold Qu;simp only[bP,iO,sC,cz]
 obtain⟨y,f,h⟩:=C2 (body:=pu (g,bw g,())) (λn=>((n:Int),())) g.length (by omega) (λn=>grV (g.getD n gI)) (Sum.inr (Sum.inl ())) (λn=>Sum.inl ((n:Int),())) (λn a=>by
  unfold pu RD;simp only[bP,dX,a,xC,aJ,cw,(abA _).2,vP,eW (n:=n) (by omega)];cases grV (g.getD n gI) <;> rfl) (by
  unfold pu;simp only[bP,iO,sC,cz])
 have c:vp (g,bw g,()) ((0:Int),())=some y:=f;rw[i,c];have d:ak .leq (bw g) (30:Int)=Bool.not (ak .gtr (bw g) 30):=ajs _ _;rw[d];cases ak .gtr (bw g) (30:Int)with
 |true=>exact .ret trivial
 |false=>
  simp only[fu,aJ,cz];rcases h with ⟨b,rfl⟩|⟨b,n,a,rfl,_⟩
  .rw[b];exact⟨(true,()),rfl,rfl,trivial⟩
  .rw[b];have e:ak .geq (n:Int) 0=true:=by simp[ak]
   refine⟨(false,()),rfl,?_,trivial⟩;show some (Bool.not (ak .geq (n:Int) 0),())=_;rw[e];rfl
section
variable (a0 a1 a2 a3 a4 a5 a6 a7 a8 a9 a10:Int)(s:List Site)(p:List NE)(g:List Ou)(j:List Ev)
def P6{x:Site}(h:Nr 1073741824 x):L9 x.2.2.1:=⟨h.b,λc b=>by obtain⟨n,a,rfl⟩:=acZ.1 b;have:=h.bs n a;rw[uo,cL a]at this;exact this⟩
def ajM(o c:List Na):Sm Any (KP o c) (Kg o c):=⟨_,Mi o c,Li o c,trivial⟩
def ai3{L:List LM}(h:L9 L):Sm (λr=>r.1=true->J5 L=true) (Mj L) (KJ L):=⟨_,Vp L h,UZ L h,λh=>h⟩
structure aaF (p:List NE) (x:Site):Prop where
 Z1:J5 x.2.2.1=true
 door:E2 x.2.2.2.1 x.2.2.2.2.1 x.2.2.2.2.2.1 x.2.2.2.2.2.2.1 x.2.2.2.2.2.2.2.1=some (true,())
 jr:S7 x.2.2.2.2.2.2.2.2.2.2=true
 idle:x.2.2.2.2.2.2.2.2.1=0->x.2.2.2.1=0
 busy:x.2.2.2.2.2.2.2.2.1≠0->(1<=x.2.2.2.2.2.2.2.2.1/\x.2.2.2.2.2.2.2.2.1<=p.length)/\(x.2.2.2.1=1\/x.2.2.2.1=2)/\0<=x.2.2.2.2.2.2.2.2.2.1
def ajC(k:Nat)(z:k<s.length)(A:Nr 1073741824 (s.getD k bl))(J:p.length<=1048576):Sm (λr=>r.1=true->aaF p (s.getD k bl)) (PZ a0 a1 a2 a3 a4 a5 a6 a7 a8 a9 a10 s p g j (k:Int)) (U8 a0 a1 a2 a3 a4 a5 a6 a7 a8 a9 a10 s p g j (k:Int)):=by
 unfold PZ U8;refine .guard (Di z) (Di z) ?_;simp only[cw];have E:s.getD k ax=s.getD k bl:=rfl;rw[E];generalize s.getD k bl=x at A;have no:∀ {Q:Prop},((false:Bool),()).1=true->Q:=λh=>by cases h
 refine(ajM x.1 x.2.1).bind λr _=>.cond (λ_=>.ret no) λ_=>?_;refine(ai3 (P6 A)).bind λr a=>.cond (λ_=>.ret no) λb=>?_;have d:J5 x.2.2.1=true:=a (by cases h:r.1 with|true=>rfl|false=>rw[h]at b;cases b);obtain⟨⟨C,_⟩,D,o,a⟩:=af0 x.2.2.2.1 x.2.2.2.2.1 x.2.2.2.2.2.1 x.2.2.2.2.2.2.1 x.2.2.2.2.2.2.2.1;rw[D,o];simp only[vP];refine .cond (λ_=>.ret no) λb=>?_;have u:C=true:=by cases C with|true=>rfl|false=>cases b
 subst u;have c:=a rfl;refine(aeL (XU x.2.2.2.2.2.2.2.2.2.2) (Xt x.2.2.2.2.2.2.2.2.2.2)).bind λr a=>.cond (λ_=>.ret no) λi=>?_;subst a;have w:S7 x.2.2.2.2.2.2.2.2.2.2=true:=by cases h:S7 x.2.2.2.2.2.2.2.2.2.2 with|true=>rfl|false=>rw[h]at i;cases i
 refine .cond (λn=>?_) λn=>?_
 .simp only[jE];exact .cond (λv=>.ret λ_=>⟨d,o,w,λ_=>(by simp only[aQ]at v;exact LO.1 v.1),λh=>absurd (LO.1 n) h⟩) λ_=>.ret no
 .have t:x.2.2.2.2.2.2.2.2.1≠0:=λh=>by rw[LO.2 h]at n;cases n
  refine(Zr x.2.2.2.2.2.2.2.2.1 1 (bw p)).bind λr a=>.cond (λ_=>.ret no) λb=>?_;subst a;have q:Jc x.2.2.2.2.2.2.2.2.1 1 (bw p)=true:=by cases h:Jc x.2.2.2.2.2.2.2.2.1 1 (bw p)with|true=>rfl|false=>rw[h]at b;cases b
  obtain⟨F,B⟩:=kx.1 q;unfold bw at B;have m:aa .sub .i64 x.2.2.2.2.2.2.2.2.1 1=x.2.2.2.2.2.2.2.2.1-1:=vm (by omega) (by omega);rw[m];have a:aZ p (x.2.2.2.2.2.2.2.2.1-1)=true:=X3 (by omega) (by omega);rw[a];simp only[aJ];refine .cond (λ_=>.ret no) λ_=>.cond (λ_=>.ret no) λ_=>?_;obtain⟨K,L⟩:=c;unfold bS Fv;simp only[bu];have f:x.2.2.2.1=0\/x.2.2.2.1=1\/x.2.2.2.1=2:=by omega
  have fin:(x.2.2.2.1=1\/x.2.2.2.1=2)->0<=x.2.2.2.2.2.2.2.2.2.1->aaF p x:=λG H=>⟨d,o,w,λh=>absurd h t,λ_=>⟨⟨F,B⟩,G,H⟩⟩
  rcases f with f|f|f <;> rw[f]at fin⊢
  .exact .ret no
  .show Sm _ (bif ak .eql x.2.2.2.2.2.2.2.2.2.1 0 then _ else _) (bif ak .eql x.2.2.2.2.2.2.2.2.2.1 0 then _ else _);cases l:ak .eql x.2.2.2.2.2.2.2.2.2.1 0 with
   |true=>exact .ret λ_=>fin (.inl rfl) (by rw[LO.1 l];exact uq _)
   |false=>exact .ret no
  .show Sm _ (bS x.2.2.2.2.2.2.2.2.2.1 0 40 |>.bind _) (bif ak .eql x.2.2.2.2.2.2.2.2.2.1 0 then _ else(some (Jc x.2.2.2.2.2.2.2.2.2.1 1 40,())).bind λy=>some (y.1,()));rw[qB];cases l:ak .eql x.2.2.2.2.2.2.2.2.2.1 0 with
   |true=>have:x.2.2.2.2.2.2.2.2.2.1=0:=LO.1 l;rw[this];exact⟨(true,()),rfl,rfl,λ_=>fin (.inr rfl) (by rw[this];exact uq _)⟩
   |false=>
    have I:x.2.2.2.2.2.2.2.2.2.1≠0:=λe=>by rw[LO.2 e]at l;cases l
    have:Jc x.2.2.2.2.2.2.2.2.2.1 0 40=Jc x.2.2.2.2.2.2.2.2.2.1 1 40:=by rw[xT,kx,kx];omega
    rw[this];exact⟨_,rfl,rfl,λh=>fin (.inr rfl) (by have:=(kx.1 h).1;omega)⟩
def acP(a:Int):Sm (λr=>r=(Jc a 1 40,())) (Ja a) (Fv a):=by unfold Ja Fv;rw[qB,bu];exact .ret rfl
def agZ(n:Int):Sm Any (JU a0 a1 a2 a3 a4 a5 a6 a7 a8 a9 a10 s p g j n) (Kf a0 a1 a2 a3 a4 a5 a6 a7 a8 a9 a10 s p g j n):=by obtain⟨y,a,b⟩:=agY a0 a1 a2 a3 a4 a5 a6 a7 a8 a9 a10 s p g j n;exact⟨_,a,b,trivial⟩
def aaU(x:NE)(k:Nat)(c:k<p.length)(d:p.getD k aS=x)(a:0<=x.2.2.1)(b:x.2.2.1<s.length):Sm (λr=>r.1=true->x.2.2.2.1≠4) (Lc a0 a1 a2 a3 a4 a5 a6 a7 a8 a9 a10 s p g j (k:Int)) (Ly a0 a1 a2 a3 a4 a5 a6 a7 a8 a9 a10 s p g j x.1 x.2.1 x.2.2.1 x.2.2.2.1 x.2.2.2.2.1 x.2.2.2.2.2.1 x.2.2.2.2.2.2.1 x.2.2.2.2.2.2.2.1 x.2.2.2.2.2.2.2.2.1 x.2.2.2.2.2.2.2.2.2.1 x.2.2.2.2.2.2.2.2.2.2.1 x.2.2.2.2.2.2.2.2.2.2.2.1 x.2.2.2.2.2.2.2.2.2.2.2.2):=by unfold Lc Ly;rw[Di c,cw,d,X3 a b];simp only[aJ];exact .cond (λh=>.ret λ_=>by have:=LO.1 h;omega) λ_=>.cond (λh=>.ret λ_=>by have:=LO.1 h;omega) λ_=>.cond (λh=>.ret λ_=>by have:=LO.1 h;omega) λ_=>.ret λh=>by cases h
def agT(k:Nat)(e:k<p.length)(t:s.length<=1048576):Sm (λr=>r.1=true->(0<=(p.getD k aS).2.2.1/\(p.getD k aS).2.2.1<s.length)/\((p.getD k aS).2.2.2.1=4->1<=(p.getD k aS).2.2.2.2.2.2.2.2.2.2.2.1/\(p.getD k aS).2.2.2.2.2.2.2.2.2.2.2.1<=40)) (M5 a0 a1 a2 a3 a4 a5 a6 a7 a8 a9 a10 s p g j (k:Int)) (QO a0 a1 a2 a3 a4 a5 a6 a7 a8 a9 a10 s p g j (k:Int)):=by
 unfold M5 QO;refine .guard (Di e) (Di e) ?_;simp only[cw];generalize q:p.getD k aS=x;have no:∀ {Q:Prop},((false:Bool),()).1=true->Q:=λh=>by cases h
 refine(Zr x.1 1 24).bind λr _=>.cond (λ_=>.ret no) λ_=>?_;refine(acP x.2.1).bind λr _=>.cond (λ_=>.ret no) λ_=>?_;refine(Zr x.2.2.1 0 (aa .sub .i64 (bw s) 1)).bind λr f=>.cond (λ_=>.ret no) λm=>?_;subst f;have d:Jc x.2.2.1 0 (aa .sub .i64 (bw s) 1)=true:=by cases h:Jc x.2.2.1 0 (aa .sub .i64 (bw s) 1)with|true=>rfl|false=>rw[h]at m;cases m
 obtain⟨b,a⟩:=kx.1 d;rw[vm (by unfold bw;omega) (by unfold bw;omega)]at a;have a:x.2.2.1<s.length:=by unfold bw at a;omega
 refine(Zr x.2.2.2.1 0 5).bind λr _=>.cond (λ_=>.ret no) λ_=>?_;refine .cond (λ_=>.guard (X3 b a) (X3 b a) (.cond (λ_=>.ret no) λ_=>?_)) λ_=>?_;all_goals
  refine(aaU a0 a1 a2 a3 a4 a5 a6 a7 a8 a9 a10 s p g j x k e q b a).bind λr i=>.cond (λl=>?_) λ_=>?_
  .refine .cond (λ_=>.cond (λ_=>.cond (λ_=>.cond (λ_=>?_) λ_=>.ret no) λ_=>.ret no) λ_=>.ret no) λ_=>.ret no;simp only[jE];exact .ret λ_=>⟨⟨b,a⟩,λc=>absurd c (i l)⟩
  .refine(Zr x.2.2.2.2.1 0 a10).bind λr _=>.cond (λ_=>.ret no) λ_=>?_;refine(Zr x.2.2.2.2.2.1 0 a7).bind λr _=>.cond (λ_=>.ret no) λ_=>?_;refine(ajt x.2.2.2.2.2.2.1 x.2.2.2.2.2.2.2.1 x.2.2.2.2.2.2.2.2.1 x.2.2.2.2.2.2.2.2.2.1 x.2.2.2.2.2.2.2.2.2.2.1).bind λr _=>.cond (λ_=>.ret no) λ_=>?_;refine(agZ a0 a1 a2 a3 a4 a5 a6 a7 a8 a9 a10 s p g j (aa .add .i64 (k:Int) 1)).bind λr _=>.cond (λ_=>.ret no) λ_=>?_;refine .cond (λ_=>?_) λc=>?_
   .refine(acP x.2.2.2.2.2.2.2.2.2.2.2.1).bind λr f=>.cond (λo=>?_) λ_=>.ret no;subst f;exact(Zr x.2.2.2.2.2.2.2.2.2.2.2.2 0 (aa .add .i64 a4 (aa .mul .i64 a6 a7))).bind λr _=>.ret λ_=>⟨⟨b,a⟩,λ_=>kx.1 o⟩
   .exact .cond (λ_=>.ret λ_=>⟨⟨b,a⟩,λn=>by rw[LO.2 n]at c;cases c⟩) λ_=>.ret no
def af9(h:p.length<=1048576)(f:∀k,k<p.length->0<=(p.getD k aS).2.2.1/\(p.getD k aS).2.2.1<s.length):Sm Any (PY a0 a1 a2 a3 a4 a5 a6 a7 a8 a9 a10 s p g j) (Rt a0 a1 a2 a3 a4 a5 a6 a7 a8 a9 a10 s p g j):=by
 unfold PY Rt;refine(agX (B:=Int) (Q:=Any) p.length (by omega) (λ_=>True) (λb n a _=>?_) (λb _=>?_) (0:Int) trivial).bind λq _=>?_
 .unfold R4 TK;simp only[bP,dX,a,xC,aJ,cw,eW (n:=n) (by omega)];obtain⟨c,d⟩:=f n a;refine .cond (λ_=>?_) λ_=>.ret ⟨trivial,rfl⟩;refine(aaU a0 a1 a2 a3 a4 a5 a6 a7 a8 a9 a10 s p g j (p.getD n aS) n a rfl c d).bind λr _=>.cond (λ_=>.ret ⟨trivial,rfl⟩) λ_=>.ret ⟨trivial,rfl⟩
 .unfold R4 TK;simp only[bP,iO,sC,cz];exact .ret trivial
 .cases q with
  |inl y=>exact .ret trivial
  |inr e=>exact e.elim
def take_at{α:Type}{l:List α}{n:Nat}(h:n<l.length)(z:α):l.take (n+1)=l.take n++[l.getD n z]:=by rw[ac9,cL h,uo,cL h];rfl
def Nu(l:List Bx):List Int:=l.filterMap λx=>if x.2.2.1=0 then none else some x.2.2.1
def OB(L:List LM):List Int:=(L.map λc=>Nu c.2.2).flatten
def M9(s:List Site):List Int:=(s.map λx=>OB x.2.2.1).flatten
def OX(y:NE):Bool:=decide (y.2.2.2.1=2)||decide (y.2.2.2.1=3)
def FB(k x:Int):Prop:=(1<=x/\x<=p.length)/\(p.getD (x-1).toNat aS).2.2.1=k/\OX (p.getD (x-1).toNat aS)=true
def akp(k i:Int)(Z1:List LM)(l:List Bx)(S:l.length<=1073741824)(o:∀n,n<l.length->0<=(l.getD n fe).2.2.1/\(l.getD n fe).2.2.1<=999)(T:p.length<=1048576)(G:l.length<=24)(c:Int)(R:0<=c/\c<=1000):
  Sm (λq=>match q with |.inl y=>y.1=false |.inr q=>match q with |.inl y=>y.1=c+((Nu l).length:Int)/\∀x,x∈Nu l->FB p k x |.inr _=>True) (Oe (a0,a1,a2,a3,a4,a5,a6,a7,a8,a9,a10,s,p,g,j,k,i,l,()) (c,0,())) (RN (a0,a1,a2,a3,a4,a5,a6,a7,a8,a9,a10,s,p,g,j,k,s,bw s,k,Z1,bw Z1,i,l,bw l,()) (c,0,())):=by
 have v:∀n,(Nu (l.take n)).length<=24:=λn=>eK (List.length_filterMap_le _ _) (by rw[jS];omega);refine Qp (B:=Int) l.length (by omega) (λn b=>b=c+((Nu (l.take n)).length:Int)/\∀x,x∈Nu (l.take n)->FB p k x) (λb n A m=>?_) (λb m=>?_) c ⟨by show c=c+(((Nu (l.take 0)).length:Nat):Int);rw[Bs];show c=c+((0:Nat):Int);omega,λx I=>by rw[Bs]at I;cases I⟩
 .unfold Oa RK;obtain⟨D,E⟩:=o n A;have f:=take_at A fe;have N:=v n;revert D E f;simp only[bP,dX,A,xC,aJ,cw,eW (n:=n) (by omega),bu,vP,jE];generalize l.getD n fe=x;intro D E f;have d:Nu (l.take (n+1))=Nu (l.take n)++Nu [x]:=by rw[f];exact List.filterMap_append
  refine .cond (λJ=>.ret ⟨?_,rfl⟩) λt=>?_
  .have u:Nu [x]=[]:=by
    have:=LO.1 J;simp[Nu,this]
   rw[d,u,e9];exact m
  have t:¬x.2.2.1=0:=λe=>by rw[LO.2 e]at t;cases t
  have M:Bool.not (Jc x.2.2.1 1 (bw p))=ak .gtr x.2.2.1 (bw p):=by
   cases H:ak .gtr x.2.2.1 (bw p)with
   |true=>
    have:=aoU.1 H;have:Jc x.2.2.1 1 (bw p)=false:=by rw[ada,ne_eq,kx];omega
    rw[this];rfl
   |false=>have:=ah6.1 H;have:Jc x.2.2.1 1 (bw p)=true:=kx.2 ⟨by omega,by omega⟩;rw[this];rfl
  rw[M];refine .cond (λ_=>.ret rfl) λw=>?_;have w:=ah6.1 w;unfold bw at w;rw[vm (by omega) (by omega)];refine .guard (X3 (by omega) (by omega)) (X3 (by omega) (by omega)) ?_;have a:ak .neq (ae aS p (x.2.2.1-1)).2.2.1 k=false->(ak .neq (ae aS p (x.2.2.1-1)).2.2.2.1 2=false\/ak .neq (ae aS p (x.2.2.1-1)).2.2.2.1 3=false)->aa .add .i64 b 1=c+((Nu (l.take (n+1))).length:Int)/\∀x,x∈Nu (l.take (n+1))->FB p k x:=λQ r=>by
   have u:Nu [x]=[x.2.2.1]:=by simp[Nu,t]
   rw[d,u];obtain⟨O,P⟩:=m;refine⟨?_,λz C=>?_⟩
   .rw[jv,O,sO (by omega) (by omega)];show _=c+(((Nu (l.take n)).length+1:Nat):Int)
    omega
   .rcases aW.1 C with h|h
    .exact P z h
    .have:z=x.2.2.1:=by simpa using h
     subst this;refine⟨⟨by omega,by omega⟩,adD.1 Q,?_⟩;show(decide ((ae aS p (x.2.2.1-1)).2.2.2.1=2)||decide ((ae aS p (x.2.2.1-1)).2.2.2.1=3))=true;rcases r with r|r
     .rw[adD.1 r];rfl
     .rw[adD.1 r];rfl
  revert a;generalize ae aS p (x.2.2.1-1)=y;intro a;cases F:ak .neq y.2.2.1 k <;> cases ak .neq y.1 x.2.1 <;> cases K:ak .neq y.2.2.2.1 2 <;> cases L:ak .neq y.2.2.2.1 3 <;> cases ak .eql y.2.2.2.1 2 <;> cases x.2.2.2 <;> first|exact .ret rfl|exact .ret ⟨a F (.inl K),rfl⟩|exact .ret ⟨a F (.inr L),rfl⟩
 .unfold Oa RK;simp only[bP,iO,sC,cz];rw[eL]at m;exact .ret m
def agf{l:List Bx}(h:∀n,n<l.length->okS l n=true):∀n,n<=l.length->0<=k7 l n/\k7 l n<=24
 |0,_=>⟨uq _,by show(0:Int)<=24;decide⟩
 |n+1,c=>by
  have f:=agf h n (by omega);have a:=h n (by omega);unfold okS at a;simp only[aQ]at a;have d:=kx.1 a.1.1.1.2;have e:=Ol l (show n<l.length by omega);rw[sO (by omega) (by omega)]at e;have b:¬(k7 l (n+1)>24):=by have:=a.2;rw[jw]at this;exact zc this
  omega
structure aaV (l:List Bx):Prop where
 low:∀n,n<l.length->(l.getD n fe).1=k7 l n
 size:∀n,n<l.length->1<=(l.getD n fe).2.1/\(l.getD n fe).2.1<=24
 par:∀n,n<l.length->0<=(l.getD n fe).2.2.1/\(l.getD n fe).2.2.1<=999
 sum:∀n,n<=l.length->0<=k7 l n/\k7 l n<=24
 step:∀n,n<l.length->k7 l (n+1)=k7 l n+(l.getD n fe).2.1
def agz{h:Int}{f:List Int}{l:List Bx}(b:Xo h f l=true):aaV l/\k7 l l.length=h:=by
 unfold Xo at b;simp only[aQ]at b;have c:∀n,n<l.length->okS l n=true:=λn a=>((iW _ _).1 b.2.1.1) n (kR _) (by omega);have d:=λn a=>agf c n a;have g:∀n,n<l.length->1<=(l.getD n fe).2.1/\(l.getD n fe).2.1<=24:=λn a=>by have:=c n a;unfold okS at this;simp only[aQ]at this;exact kx.1 this.1.1.1.2
 refine⟨⟨λn a=>?_,g,λn a=>?_,d,λn a=>?_⟩,LO.1 b.2.1.2.2⟩
 .have:=c n a;unfold okS at this;simp only[aQ]at this;have e:=this.1.1.1.1;rw[jw]at e;exact adD.1 e
 .have:=c n a;unfold okS at this;simp only[aQ]at this;exact kx.1 this.1.1.2
 .have:=Ol l a;rw[this];have i:=d n (by omega);have j:=g n a;exact sO (by unfold I8;omega) (by unfold I8;omega)
def aaV.mono{l:List Bx}(h:aaV l):∀ {n m:Nat},n<=m->m<=l.length->k7 l n+((m-n:Nat):Int)<=k7 l m
 |n,0,a,_=>by
  have:n=0:=by omega
  subst this;simp
 |n,m+1,a,b=>by
  by_cases e:n=m+1
  .subst e;simp
  .have f:=h.mono (n:=n) (m:=m) (by omega) (by omega);have c:=h.step m (by omega);have d:=(h.size m (by omega)).1;omega
theorem aaV.len{l:List Bx}(h:aaV l):l.length<=24:=by have:=h.mono (kR l.length) (az _);have a:=(h.sum l.length (az _)).2;have b:=(h.sum 0 (kR _)).1;omega
def Z3{L:List LM}(h:J5 L=true):L.length<=6:=by unfold J5 at h;rw[aQ]at h;have:=(kx.1 h.1).2;unfold bw at this;omega
def Z2{L:List LM}(h:J5 L=true){n:Nat}(a:n<L.length):(nf L n).2.2.length<=24:=by unfold J5 at h;rw[aQ]at h;have:=(iW _ _).1 h.2 n (kR _) (by omega);unfold NF at this;simp only[aQ]at this;exact(agz this.1).1.len
def ako(k:Nat)(t:k<s.length)(A:Nr 1073741824 (s.getD k bl))(a:J5 (s.getD k bl).2.2.1=true)(z:p.length<=1048576)(c:Int)(G:0<=c/\c<=500):
  Sm (λq=>match q with |.inl y=>y.1=false |.inr q=>match q with |.inl y=>y.1=c+((OB (s.getD k bl).2.2.1).length:Int)/\((OB (s.getD k bl).2.2.1).length<=144/\∀x,x∈OB (s.getD k bl).2.2.1->FB p k x) |.inr _=>True) (Od (a0,a1,a2,a3,a4,a5,a6,a7,a8,a9,a10,s,p,g,j,(k:Int),()) (c,0,())) (RM (a0,a1,a2,a3,a4,a5,a6,a7,a8,a9,a10,s,p,g,j,(k:Int),s,bw s,(k:Int),(s.getD k bl).2.2.1,bw (s.getD k bl).2.2.1,()) (c,0,())):=by
 have o:=P6 A;have v:=Z3 a;refine Qp (B:=Int) (s.getD k bl).2.2.1.length (by have:=o.1;omega) (λn b=>b=c+((OB ((s.getD k bl).2.2.1.take n)).length:Int)/\((OB ((s.getD k bl).2.2.1.take n)).length<=24*n/\∀x,x∈OB ((s.getD k bl).2.2.1.take n)->FB p k x)) (λb n i d=>?_) (λb d=>?_) c ⟨by show c=c+(((OB (List.take 0 _)).length:Nat):Int);rw[Bs];show c=c+((0:Nat):Int);omega,by show(OB (List.take 0 _)).length<=24*0;rw[Bs];exact az _,λx l=>by rw[Bs]at l;cases l⟩
 .unfold N9 RJ;have r:s.getD k ax=s.getD k bl:=rfl;simp only[dX,t,xC,aJ,cw,r,bP,i,eW (n:=n) (by have:=o.1;omega)];refine(akp a0 a1 a2 a3 a4 a5 a6 a7 a8 a9 a10 s p g j (k:Int) (n:Int) (s.getD k bl).2.2.1 (nf (s.getD k bl).2.2.1 n).2.2 (o.at i).2 (λm H=>?_) z (Z2 a i) b ⟨by omega,by omega⟩).bind λq u=>?_
  .unfold J5 at a;rw[aQ]at a;have:=(iW _ _).1 a.2 n (kR _) (by omega);unfold NF Xo at this;simp only[aQ]at this;have:=(iW _ _).1 this.1.2.1.1 m (kR _) (by omega);unfold okS at this;simp only[aQ]at this;exact kx.1 this.1.1.2
  .cases q with
   |inl y=>exact .ret u
   |inr q=>
    cases q with
    |inl y=>
     have f:OB ((s.getD k bl).2.2.1.take (n+1))=OB ((s.getD k bl).2.2.1.take n)++Nu (nf (s.getD k bl).2.2.1 n).2.2:=by rw[take_at i br];unfold OB;rw[zX,abj];simp only[cR,lY,iV,adb,e9];rfl
     obtain⟨C,I,D⟩:=d;obtain⟨E,F⟩:=u;have w:(Nu (nf (s.getD k bl).2.2.1 n).2.2).length<=24:=eK (List.length_filterMap_le _ _) (Z2 a i);refine .ret ⟨?_,rfl⟩;show y.1=c+((OB ((s.getD k bl).2.2.1.take (n+1))).length:Int)/\_;rw[f];refine⟨?_,?_,λx l=>?_⟩
     .rw[jv,E,C];omega
     .rw[jv];omega
     .rcases aW.1 l with h|h
      .exact D x h
      .exact F x h
    |inr e=>exact e.elim
 .unfold N9 RJ;have r:s.getD k ax=s.getD k bl:=rfl;simp only[dX,t,xC,aJ,cw,r,bP,iO,sC,cz];rw[eL]at d;exact .ret ⟨d.1,by omega,d.2.2⟩
structure aiU (s:List Site) (p:List NE):Prop where
 fb:∀k,k<s.length->∀x,x∈OB (s.getD k bl).2.2.1->FB p k x
 cnt:(M9 s).length=(p.filter OX).length
def ahJ(f:Pw s p g j)(C:∀k,k<s.length->J5 (s.getD k bl).2.2.1=true)(F:s.length<=3)(w:p.length<=12):Sm (λr=>r.1=true->aiU s p) (NU a0 a1 a2 a3 a4 a5 a6 a7 a8 a9 a10 s p g j) (SD a0 a1 a2 a3 a4 a5 a6 a7 a8 a9 a10 s p g j):=by
 have E:=f.ls;have o:=f.lp;have no:∀ {Q:Prop} {b:Bool},b=false->b=true->Q:=λu m=>by rw[u]at m;cases m
 unfold NU SD;refine(Qp (B:=Int) (Q:=λq=>match q with |.inl y=>y.1=false |.inr q=>match q with |.inl y=>y.1=((M9 s).length:Int)/\(M9 s).length<=432/\∀k,k<s.length->∀x,x∈OB (s.getD k bl).2.2.1->FB p k x |.inr _=>True) s.length (by omega) (λn b=>b=((M9 (s.take n)).length:Int)/\(M9 (s.take n)).length<=144*n/\∀k,k<n->∀x,x∈OB (s.getD k bl).2.2.1->FB p k x) (λb n d c=>?_) (λb c=>?_) (0:Int) ⟨by show(0:Int)=((M9 (s.take 0)).length:Int);rw[Bs];rfl,by show(M9 (s.take 0)).length<=0;rw[Bs];exact az _,λk v=>absurd v (vi _)⟩).bind λq i=>?_
 .unfold N8 RI;have G:∀n,s.getD n ax=s.getD n bl:=λ_=>rfl;simp only[bP,dX,d,xC,aJ,cw,eW (n:=n) (by omega),G];obtain⟨J,K,H⟩:=c;refine(ako a0 a1 a2 a3 a4 a5 a6 a7 a8 a9 a10 s p g j n d (f.ss n d) (C n d) o b ⟨by omega,by omega⟩).bind λq i=>?_;cases q with
  |inl y=>exact .ret i
  |inr q=>
   cases q with
   |inl y=>
    obtain⟨A,I,t⟩:=i;have a:M9 (s.take (n+1))=M9 (s.take n)++OB (s.getD n bl).2.2.1:=by rw[take_at d bl];unfold M9;rw[zX,abj];simp only[cR,lY,iV,adb,e9]
    refine .ret ⟨?_,rfl⟩;show y.1=((M9 (s.take (n+1))).length:Int)/\_;rw[a,jv];refine⟨by omega,by omega,λk v x z=>?_⟩;by_cases e:k=n
    .subst e;exact t x z
    .exact H k (by omega) x z
   |inr e=>exact e.elim
 .unfold N8 RI;simp only[bP,iO,sC,cz];rw[eL]at c;exact .ret ⟨c.1,by omega,c.2.2⟩
 .cases q with
  |inl y=>exact .ret (no i)
  |inr q=>
   cases q with
   |inr e=>exact e.elim
   |inl y=>
    obtain⟨A,I,t⟩:=i;refine(Qp (B:=Int) (Q:=λq=>match q with |.inl y=>y.1=((M9 s).length:Int)-((p.filter OX).length:Int) |.inr _=>True) p.length (by omega) (λn b=>b=((M9 s).length:Int)-(((p.take n).filter OX).length:Int)) (λb n d c=>?_) (λb c=>?_) y.1 (by show y.1=_-(((List.take 0 p).filter OX).length:Int);rw[Bs,A];show _=_-((0:Nat):Int);omega)).bind λq i=>?_
    .have D:((p.take n).filter OX).length<=n:=eK (ahy _ _) (by rw[jS];omega);have a:((p.take (n+1)).filter OX).length=((p.take n).filter OX).length+(if OX (p.getD n aS)=true then 1 else 0):=by rw[take_at d aS,ae8,jv,Bq];split <;> rfl
     have yes:OX (p.getD n aS)=true->aa .sub .i64 b 1=((M9 s).length:Int)-(((p.take (n+1)).filter OX).length:Int):=λh=>by rw[a,cj h,c,vm (by omega) (by omega)];omega
     unfold Oc RL;simp only[bP,dX,d,xC,aJ,cw,eW (n:=n) (by omega)];refine .cond (λh=>.ret ⟨yes ?_,rfl⟩) λh=>.cond (λl=>.ret ⟨yes ?_,rfl⟩) λl=>.ret ⟨?_,rfl⟩
     .unfold OX;rw[LO.1 h];rfl
     .unfold OX;rw[LO.1 l];rfl
     .have:OX (p.getD n aS)=false:=by
       unfold OX;rw[show decide ((p.getD n aS).2.2.2.1=2)=false from h,show decide ((p.getD n aS).2.2.2.1=3)=false from l];rfl
      show b=_;rw[a,this,c];rfl
    .unfold Oc RL;simp only[bP,iO,sC,cz];rw[eL]at c;exact .ret c
    .cases q with
     |inl y=>exact .ret λh=>⟨t,by have u:=LO.1 h;have m:y.1=_:=i;omega⟩
     |inr e=>exact e.elim
structure ago:Prop where
 avT:L6 a0 a1 a2 a3 a4 a5 a6 a7=true
 room:0<=a8/\a8<=1000
 aay:1<=a9/\a9<=2147483646
 now:0<=a10/\a10<=20000
 sites:1<=s.length/\s.length<=3
 Lu:p.length<=12
 gr:JT g=some (true,())
 box:aiU s p
 jr:S7 j=true
 aaz:∀n,n<s.length->aaF p (s.getD n bl)
 oh:∀n,n<p.length->0<=(p.getD n aS).2.2.1/\(p.getD n aS).2.2.1<s.length
 who:∀n,n<p.length->(p.getD n aS).2.2.2.1=4->1<=(p.getD n aS).2.2.2.2.2.2.2.2.2.2.2.1/\(p.getD n aS).2.2.2.2.2.2.2.2.2.2.2.1<=40
variable {a0 a1 a2 a3 a4 a5 a6 a7 a8 a9 a10 s p g j} in
def ago.Z1(h:ago a0 a1 a2 a3 a4 a5 a6 a7 a8 a9 a10 s p g j)(n:Nat)(a:n<s.length):J5 (s.getD n bl).2.2.1=true:=(h.aaz n a).Z1
def acK(d:Pw s p g j):Sm (λr=>r.1=true->ago a0 a1 a2 a3 a4 a5 a6 a7 a8 a9 a10 s p g j) (Mk a0 a1 a2 a3 a4 a5 a6 a7 a8 a9 a10 s p g j) (Mc a0 a1 a2 a3 a4 a5 a6 a7 a8 a9 a10 s p g j):=by
 have u:=d.ls;have m:=d.lp;have H:=d.lg;unfold Mk Mc;have no:∀ {Q:Prop},((false:Bool),()).1=true->Q:=λh=>by cases h
 have tr:∀ {b:Bool},Bool.not b=false->b=true:=fun {b} h=>by cases b with|true=>rfl|false=>cases h
 refine(aeL (Wr ..) (Wc ..)).bind λr a=>.cond (λ_=>.ret no) λx=>?_;subst a;refine(Zr a8 0 1000).bind λr a=>.cond (λ_=>.ret no) λz=>?_;subst a;refine Sm.bind (P:=λr=>r=(Jc a9 1 2147483646,())) (by unfold Jn Jo;rw[qB,bu];exact .ret rfl) λr a=>.cond (λ_=>.ret no) λA=>?_;subst a;refine(aeL (qB a10 0 20000) (Le a10)).bind λr a=>.cond (λ_=>.ret no) λB=>?_;subst a;refine(Zr (bw s) 1 3).bind λr a=>.cond (λ_=>.ret no) λC=>.cond (λ_=>.ret no) λD=>?_;subst a;obtain⟨⟨K,_⟩,G,w,_⟩:=acE g (by omega);rw[G,w];simp only[vP];refine .cond (λ_=>.ret no) λF=>?_;have v:K=true:=tr F;subst v;refine(aeL (XU j) (Xt j)).bind λr a=>.cond (λ_=>.ret no) λE=>?_;subst a;refine(aeI s.length (by omega) (λn=>aaF p (s.getD n bl)) (Q:=λy=>match y with |.inl y=>y.1=false |.inr _=>∀n,n<s.length->aaF p (s.getD n bl)) (λn c=>?_) (λo=>?_)).bind λq f=>?_
 .unfold PI ON;simp only[bP,c,xC,aJ,eW (n:=n) (by omega)];refine(ajC a0 a1 a2 a3 a4 a5 a6 a7 a8 a9 a10 s p g j n c (d.ss n c) m).bind λr a=>.cond (λ_=>.ret rfl) λk=>.ret ⟨rfl,a ?_⟩;cases h:r.1 with|true=>rfl|false=>rw[h]at k;cases k
 .unfold PI ON;simp only[bP,iO,sC,cz];exact .ret o
 .cases q with
  |inl y=>exact .ret λh=>by have f:y.1=false:=f;rw[f]at h;cases h
  |inr q=>
   cases q with
   |inr e=>exact e.elim
   |inl y=>
    have i:∀n,n<s.length->aaF p (s.getD n bl):=f;refine(aeI p.length (by omega) (λn=>(0<=(p.getD n aS).2.2.1/\(p.getD n aS).2.2.1<s.length)/\((p.getD n aS).2.2.2.1=4->1<=(p.getD n aS).2.2.2.2.2.2.2.2.2.2.2.1/\(p.getD n aS).2.2.2.2.2.2.2.2.2.2.2.1<=40)) (Q:=λy=>match y with |.inl y=>y.1=false |.inr _=>∀n,n<p.length->(0<=(p.getD n aS).2.2.1/\(p.getD n aS).2.2.1<s.length)/\((p.getD n aS).2.2.2.1=4->1<=(p.getD n aS).2.2.2.2.2.2.2.2.2.2.2.1/\(p.getD n aS).2.2.2.2.2.2.2.2.2.2.2.1<=40)) (λn c=>?_) (λo=>?_)).bind λq f=>?_
    .unfold PJ OO;simp only[bP,c,xC,aJ,eW (n:=n) (by omega)];refine(agT a0 a1 a2 a3 a4 a5 a6 a7 a8 a9 a10 s p g j n c u).bind λr a=>.cond (λ_=>.ret rfl) λk=>.ret ⟨rfl,a ?_⟩;cases h:r.1 with|true=>rfl|false=>rw[h]at k;cases k
    .unfold PJ OO;simp only[bP,iO,sC,cz];exact .ret o
    .cases q with
     |inl y=>exact .ret λh=>by have f:y.1=false:=f;rw[f]at h;cases h
     |inr q=>
      cases q with
      |inr e=>exact e.elim
      |inl y=>have I:=kx.1 (tr C);have J:¬(bw p>(12:Int)):=zc D;unfold bw at I J;refine(ahJ a0 a1 a2 a3 a4 a5 a6 a7 a8 a9 a10 s p g j d (λn c=>(i n c).Z1) (by omega) (by omega)).bind λr l=>.cond (λt=>?_) λ_=>.ret no;refine(af9 a0 a1 a2 a3 a4 a5 a6 a7 a8 a9 a10 s p g j m (λn c=>(f n c).1)).bind λr _=>.ret λ_=>⟨tr x,kx.1 (tr z),kx.1 (tr A),kx.1 (tr B),⟨by omega,by omega⟩,by omega,w,l t,tr E,i,λn c=>(f n c).1,λn c=>(f n c).2⟩
end
def S3(a b:NX):Option YdB:=cond (dF (List.append (α:=YcP) ([]:NX) a)) (cond (dF (List.append (α:=YcP) ([]:NX) b)) (some (List.append (α:=YcP) ([]:NX) a,List.append (α:=YcP) ([]:NX) b,())) none) none
def PS(a:Int)(b:Kz)(c:Lj):YdF:=cond (dF (List.append (α:=Int) ([]:Kz) b)) (cond (dF (List.append (α:=QE) ([]:Lj) c)) (some (a,List.append (α:=Int) ([]:Kz) b,List.append (α:=QE) ([]:Lj) c,())) none) none
def K0(a:YbW)(b:YcE):YcT:=letI c:=ae br a.1 b.2.1;cond (ak .lss b.2.1 (bw a.1)) (cond (aZ a.1 b.2.1) ((PS c.1 c.2.1 c.2.2).bind λd=>letI e:=(d.1,d.2.1,d.2.2.1);cond (dF (List.append (α:=YbU) b.1 (List.append (α:=YbU) ([]:RB) [e]))) (some (.inl (List.append (α:=YbU) b.1 (List.append (α:=YbU) ([]:RB) [e]),aa .add .i64 b.2.1 1,()))) none) none) (some (.inr (.inl (b.1,()))))
def K1 k x:=iter (K0 k) big x
def Km(a:RB):Option YbW:=(K1 (a,()) (([]:RB),0,())).bind λb=>Sum.elim (λc=>some (c.1,())) (λc=>Empty.elim c) b
def F1(a:NX):Option YbV:=cond (ak .gtr (bw a) 0) (cond (dF (List.append (α:=YcP) ([]:NX) a)) (some (List.append (α:=YcP) ([]:NX) a,())) none) (both (some (([]:NX),())) (cond (dF (List.append (α:=YcP) ([]:NX) a)) (some (List.append (α:=YcP) ([]:NX) a,())) none))
def QL(a b:NX):Option YdB:=(F1 a).bind λc=>(F1 b).bind λd=>some (c.1,d.1,())
def Jj(a:Lj):Option YcK:=cond (ak .gtr (bw a) 0) (cond (dF (List.append (α:=QE) ([]:Lj) a)) (some (List.append (α:=QE) ([]:Lj) a,())) none) (both (some (([]:Lj),())) (cond (dF (List.append (α:=QE) ([]:Lj) a)) (some (List.append (α:=QE) ([]:Lj) a,())) none))
def KF(a:Int)(b:Kz)(c:Lj):YdF:=(J6 b).bind λd=>(Jj c).bind λe=>some (a,d.1,e.1,())
def Mx(a b:YcE):YcT:=letI c:=ae br a.1 b.2.1;cond (ak .lss b.2.1 a.2.1) (cond (aZ a.1 b.2.1) ((KF c.1 c.2.1 c.2.2).bind λd=>letI e:=(d.1,d.2.1,d.2.2.1);cond (dF (List.append (α:=YbU) b.1 (List.append (α:=YbU) ([]:RB) [e]))) (some (.inl (List.append (α:=YbU) b.1 (List.append (α:=YbU) ([]:RB) [e]),aa .add .i64 b.2.1 1,()))) none) none) (some (.inr (.inl (b.1,()))))
def My k x:=iter (Mx k) big x
def LI(a:RB):Option YbW:=(My (a,bw a,()) (([]:RB),0,())).bind λb=>Sum.elim (λc=>some (c.1,())) (λc=>Empty.elim c) b
def Pf(a:Unit)(b:NX×Nt):Option (NX×Nt⊕YdI⊕Empty):=letI c:=b.2.2.1;letI d:=aa .add .i64 b.2.1 1;letI e:=cS b.1 c (b.2.1,(ae S4 b.1 c).2);cond (ak .lss c (bw b.1)) (cond (aZ b.1 c) (cond (aZ e c) (lets (cS e c ((ae S4 e c).1,d)) λf=>some (.inl (f,aa .add .i64 d 1,aa .add .i64 c 1,()))) none) none) (some (.inr (.inl (b.1,b.2.1,()))))
def Pg k x:=iter (Pf k) big x
def Mg(a:NX)(b:Int):Option (Int×YbV):=(Pg () (a,b,0,())).bind λc=>Sum.elim (λd=>some (d.2.1,d.1,())) (λd=>Empty.elim d) c
def Qm(a:Unit)(b:Lj×Nt):Option (Lj×Nt⊕YcI⊕Empty):=letI c:=b.2.2.1;letI d:=aa .add .i64 b.2.1 1;letI e:=(ae fe b.1 c).2;letI f:=cS b.1 c (b.2.1,e.1,e.2.1,e.2.2);letI g:=ae fe f c;cond (ak .lss c (bw b.1)) (cond (aZ b.1 c) (cond (aZ f c) (lets (cS f c (g.1,d,g.2.2.1,g.2.2.2)) λh=>letI i:=ae fe h c;letI j:=aa .add .i64 d 1;cond (aZ h c) (lets (cS h c (i.1,i.2.1,j,i.2.2.2)) λk=>letI l:=ae fe k c;letI m:=aa .add .i64 j 1;cond (eE 3) none (cond (aZ k c) (lets (cS k c (l.1,l.2.1,l.2.2.1,ak .eql (aa .rem .i64 m 3) 0)) λn=>some (.inl (n,aa .add .i64 m 1,aa .add .i64 c 1,()))) none)) none) none) none) (some (.inr (.inl (b.1,b.2.1,()))))
def Qo k x:=iter (Qm k) big x
def QU(a:Lj)(b:Int):Option (Int×YcK):=(Qo () (a,b,0,())).bind λc=>Sum.elim (λd=>some (d.2.1,d.1,())) (λd=>Empty.elim d) c
def Nl(a:Unit)(b:RB×Nt):Option (RB×Nt⊕YcE⊕Empty):=letI c:=b.2.2.1;letI d:=(ae br b.1 c).2;letI e:=cS b.1 c (b.2.1,d.1,d.2);letI f:=ae br e c;cond (ak .lss c (bw b.1)) (cond (aZ b.1 c) (cond (aZ e c) ((Ny f.2.1 (aa .add .i64 b.2.1 1)).bind λg=>lets (cS e c (f.1,g.2.1,f.2.2)) λh=>letI i:=ae br h c;cond (aZ h c) ((QU i.2.2 g.1).bind λj=>some (.inl (cS h c (i.1,i.2.1,j.2.1),j.1,aa .add .i64 c 1,()))) none) none) none) (some (.inr (.inl (b.1,b.2.1,()))))
def Nn k x:=iter (Nl k) big x
def MF(a:RB)(b:Int):Option (Int×YbW):=(Nn () (a,b,0,())).bind λc=>Sum.elim (λd=>some (d.2.1,d.1,())) (λd=>Empty.elim d) c
def Pd(a:Unit)(b:KB×Nt):Option (KB×Nt⊕YeD⊕Empty):=letI c:=b.2.2.1;letI d:=ae ax b.1 c;cond (ak .lss c (bw b.1)) (cond (aZ b.1 c) ((Mg d.1 b.2.1).bind λe=>letI f:=d.2.2;letI g:=f.2.2.2.2;lets (cS b.1 c (e.2.1,d.2.1,f.1,f.2.1,f.2.2.1,f.2.2.2.1,g.1,g.2.1,g.2.2.1,g.2.2.2.1,g.2.2.2.2)) λh=>letI i:=ae ax h c;cond (aZ h c) ((Mg i.2.1 e.1).bind λj=>letI k:=i.2.2.2;letI l:=k.2.2.2.2;lets (cS h c (i.1,j.2.1,i.2.2.1,k.1,k.2.1,k.2.2.1,k.2.2.2.1,l.1,l.2.1,l.2.2.1,l.2.2.2)) λm=>letI n:=ae ax m c;cond (aZ m c) ((MF n.2.2.1 j.1).bind λo=>letI p:=n.2.2.2;letI q:=p.2.2.2.2;lets (cS m c (n.1,n.2.1,o.2.1,p.1,p.2.1,p.2.2.1,p.2.2.2.1,q.1,q.2.1,q.2.2.1,q.2.2.2)) λr=>letI s:=ae ax r c;letI t:=s.2.2.2.2;letI u:=t.2.2.2;cond (aZ r c) (lets (cS r c (s.1,s.2.1,s.2.2.1,o.1,t.1,t.2.1,t.2.2.1,u.1,u.2.1,u.2.2.1,u.2.2.2)) λv=>letI w:=(1:Int);letI x:=aa .add .i64 o.1 w;letI y:=ae ax v c;letI z:=y.2.2.2.2.2;cond (aZ v c) (lets (cS v c (y.1,y.2.1,y.2.2.1,y.2.2.2.1,x,z.1,z.2.1,z.2.2.1,z.2.2.2.1,z.2.2.2.2.1,z.2.2.2.2.2)) λA=>letI B:=eE 3;letI C:=ae ax A c;letI D:=C.2.2;letI E:=D.2.2.2.2;letI F:=aa .add .i64 x w;cond B none (cond (aZ A c) (lets (cS A c (C.1,C.2.1,D.1,D.2.1,D.2.2.1,ak .eql (aa .rem .i64 F 3) 0,E.1,E.2.1,E.2.2.1,E.2.2.2.1,E.2.2.2.2)) λG=>letI H:=ae ax G c;letI I:=H.2.2;letI J:=I.2.2.2.2.2;letI K:=aa .add .i64 F w;cond B none (cond (aZ G c) (lets (cS G c (H.1,H.2.1,I.1,I.2.1,I.2.2.1,I.2.2.2.1,ak .eql (aa .rem .i64 K 3) 0,J.1,J.2.1,J.2.2.1,J.2.2.2)) λL=>letI M:=aa .add .i64 K w;cond B none (lets (ak .eql (aa .rem .i64 M 3) 0) λN=>letI O:=ae ax L c;letI P:=O.2.2;letI Q:=P.2.2.2.2.2.2;cond (aZ L c) (lets (cS L c (O.1,O.2.1,P.1,P.2.1,P.2.2.1,P.2.2.2.1,P.2.2.2.2.1,N,Q.1,Q.2.1,Q.2.2)) λR=>letI S:=ae ax R c;letI T:=S.2.2;letI U:=T.2.2.2.2;letI V:=aa .add .i64 M w;cond (aZ R c) (lets (cS R c (S.1,S.2.1,T.1,T.2.1,T.2.2.1,T.2.2.2.1,U.1,U.2.1,V,U.2.2.2.1,U.2.2.2.2)) λW=>lets (aa .add .i64 V w) λX=>letI Y:=ae ax W c;letI Z:=Y.2.2;letI a0:=Z.2.2.2.2;cond (aZ W c) (lets (cS W c (Y.1,Y.2.1,Z.1,Z.2.1,Z.2.2.1,Z.2.2.2.1,a0.1,a0.2.1,a0.2.2.1,X,a0.2.2.2.2)) λa1=>letI a2:=ae ax a1 c;letI a3:=a2.2.2.2;letI a4:=a3.2.2.2.2;cond (aZ a1 c) ((LC a4.2.2.2 (aa .add .i64 X w)).bind λa5=>lets (cS a1 c (a2.1,a2.2.1,a2.2.2.1,a3.1,a3.2.1,a3.2.2.1,a3.2.2.2.1,a4.1,a4.2.1,a4.2.2.1,a5.2.1)) λa6=>some (.inl (a6,a5.1,aa .add .i64 c w,()))) none) none) none) none)) none)) none)) none) none) none) none) none) (some (.inr (.inl (b.1,b.2.1,()))))
def Pe k x:=iter (Pd k) big x
def Pc(a:KB)(b:Int):Option (Int×YcY):=(Pe () (a,b,0,())).bind λc=>Sum.elim (λd=>some (d.2.1,d.1,())) (λd=>Empty.elim d) c
def Np(a:Unit)(b:Kj×Nt):Option (Kj×Nt⊕YeE⊕Empty):=letI c:=b.2.2.1;letI d:=(ae aS b.1 c).2;letI e:=d.2.2;letI f:=e.2.2.2.2.2;cond (ak .lss c (bw b.1)) (cond (aZ b.1 c) (lets (cS b.1 c (b.2.1,d.1,d.2.1,e.1,e.2.1,e.2.2.1,e.2.2.2.1,e.2.2.2.2.1,f.1,f.2.1,f.2.2.1,f.2.2.2.1,f.2.2.2.2)) λg=>letI h:=(1:Int);letI i:=ae aS g c;letI j:=aa .add .i64 b.2.1 h;letI k:=i.2.2.2.2;letI l:=k.2.2.2.2;cond (aZ g c) (lets (cS g c (i.1,j,i.2.2.1,i.2.2.2.1,k.1,k.2.1,k.2.2.1,k.2.2.2.1,l.1,l.2.1,l.2.2.1,l.2.2.2.1,l.2.2.2.2)) λm=>letI n:=ae aS m c;letI o:=n.2.2.2.2;letI p:=aa .add .i64 j h;letI q:=o.2.2.2.2;cond (aZ m c) (lets (cS m c (n.1,n.2.1,p,n.2.2.2.1,o.1,o.2.1,o.2.2.1,o.2.2.2.1,q.1,q.2.1,q.2.2.1,q.2.2.2.1,q.2.2.2.2)) λr=>letI s:=ae aS r c;letI t:=s.2.2.2.2;letI u:=t.2.2.2.2;letI v:=aa .add .i64 p h;cond (aZ r c) (lets (cS r c (s.1,s.2.1,s.2.2.1,v,t.1,t.2.1,t.2.2.1,t.2.2.2.1,u.1,u.2.1,u.2.2.1,u.2.2.2.1,u.2.2.2.2)) λw=>letI x:=ae aS w c;letI y:=x.2.2.2.2.2;letI z:=y.2.2.2.2;letI A:=aa .add .i64 v h;cond (aZ w c) (lets (cS w c (x.1,x.2.1,x.2.2.1,x.2.2.2.1,A,y.1,y.2.1,y.2.2.1,y.2.2.2.1,z.1,z.2.1,z.2.2.1,z.2.2.2)) λB=>letI C:=ae aS B c;letI D:=C.2.2.2.2.2.2;letI E:=D.2.2.2;letI F:=aa .add .i64 A h;cond (aZ B c) (lets (cS B c (C.1,C.2.1,C.2.2.1,C.2.2.2.1,C.2.2.2.2.1,F,D.1,D.2.1,D.2.2.1,E.1,E.2.1,E.2.2.1,E.2.2.2)) λG=>lets (aa .add .i64 F h) λH=>letI I:=ae aS G c;letI J:=I.2.2.2;letI K:=J.2.2.2.2.2;cond (aZ G c) (lets (cS G c (I.1,I.2.1,I.2.2.1,J.1,J.2.1,J.2.2.1,H,J.2.2.2.2.1,K.1,K.2.1,K.2.2.1,K.2.2.2.1,K.2.2.2.2)) λL=>letI M:=aa .add .i64 H h;letI N:=ae aS L c;letI O:=N.2.2.2;letI P:=O.2.2.2.2.2;cond (aZ L c) (lets (cS L c (N.1,N.2.1,N.2.2.1,O.1,O.2.1,O.2.2.1,O.2.2.2.1,M,P.1,P.2.1,P.2.2.1,P.2.2.2.1,P.2.2.2.2)) λQ=>letI R:=ae aS Q c;letI S:=R.2.2.2;letI T:=aa .add .i64 M h;letI U:=S.2.2.2.2.2.2;cond (aZ Q c) (lets (cS Q c (R.1,R.2.1,R.2.2.1,S.1,S.2.1,S.2.2.1,S.2.2.2.1,S.2.2.2.2.1,T,U.1,U.2.1,U.2.2.1,U.2.2.2)) λV=>letI W:=ae aS V c;letI X:=W.2.2.2;letI Y:=X.2.2.2.2;letI Z:=aa .add .i64 T h;cond (aZ V c) (lets (cS V c (W.1,W.2.1,W.2.2.1,X.1,X.2.1,X.2.2.1,X.2.2.2.1,Y.1,Y.2.1,Z,Y.2.2.2.1,Y.2.2.2.2.1,Y.2.2.2.2.2)) λa0=>letI a1:=ae aS a0 c;letI a2:=a1.2.2.2;letI a3:=a2.2.2.2.2;letI a4:=aa .add .i64 Z h;cond (aZ a0 c) (lets (cS a0 c (a1.1,a1.2.1,a1.2.2.1,a2.1,a2.2.1,a2.2.2.1,a2.2.2.2.1,a3.1,a3.2.1,a3.2.2.1,a4,a3.2.2.2.2.1,a3.2.2.2.2.2)) λa5=>letI a6:=ae aS a5 c;letI a7:=a6.2.2.2;letI a8:=a7.2.2.2.2;letI a9:=aa .add .i64 a4 h;cond (aZ a5 c) (lets (cS a5 c (a6.1,a6.2.1,a6.2.2.1,a7.1,a7.2.1,a7.2.2.1,a7.2.2.2.1,a8.1,a8.2.1,a8.2.2.1,a8.2.2.2.1,a9,a8.2.2.2.2.2)) λb0=>lets (aa .add .i64 a9 h) λb1=>letI b2:=ae aS b0 c;letI b3:=b2.2.2.2;letI b4:=b3.2.2.2.2;cond (aZ b0 c) (lets (cS b0 c (b2.1,b2.2.1,b2.2.2.1,b3.1,b3.2.1,b3.2.2.1,b3.2.2.2.1,b4.1,b4.2.1,b4.2.2.1,b4.2.2.2.1,b4.2.2.2.2.1,b1)) λb5=>some (.inl (b5,aa .add .i64 b1 h,aa .add .i64 c h,()))) none) none) none) none) none) none) none) none) none) none) none) none) none) (some (.inr (.inl (b.1,b.2.1,()))))
def Nq k x:=iter (Np k) big x
def MI(a:Kj)(b:Int):Option (Int×YcZ):=(Nq () (a,b,0,())).bind λc=>Sum.elim (λd=>some (d.2.1,d.1,())) (λd=>Empty.elim d) c
def N3(a:Unit)(b:JI×Nt):Option (JI×Nt⊕YdS⊕Empty):=letI c:=b.2.2.1;letI d:=(ae gI b.1 c).2;cond (ak .lss c (bw b.1)) (cond (aZ b.1 c) (lets (cS b.1 c (b.2.1,d.1,d.2.1,d.2.2.1,d.2.2.2.1,d.2.2.2.2.1,d.2.2.2.2.2)) λe=>letI f:=(1:Int);letI g:=aa .add .i64 b.2.1 f;letI h:=(ae gI e c).2.2;cond (aZ e c) (lets (cS e c ((ae gI e c).1,g,h.1,h.2.1,h.2.2.1,h.2.2.2.1,h.2.2.2.2)) λi=>letI j:=ae gI i c;letI k:=j.2.2.2;letI l:=aa .add .i64 g f;cond (aZ i c) (lets (cS i c (j.1,j.2.1,l,k.1,k.2.1,k.2.2.1,k.2.2.2)) λm=>letI n:=ae gI m c;letI o:=n.2.2.2.2;letI p:=aa .add .i64 l f;cond (aZ m c) (lets (cS m c (n.1,n.2.1,n.2.2.1,p,o.1,o.2.1,o.2.2)) λq=>letI r:=ae gI q c;letI s:=aa .add .i64 p f;cond (aZ q c) (lets (cS q c (r.1,r.2.1,r.2.2.1,r.2.2.2.1,s,r.2.2.2.2.2.1,r.2.2.2.2.2.2)) λt=>letI u:=ae gI t c;letI v:=aa .add .i64 s f;cond (aZ t c) (lets (cS t c (u.1,u.2.1,u.2.2.1,u.2.2.2.1,u.2.2.2.2.1,v,u.2.2.2.2.2.2)) λw=>lets (aa .add .i64 v f) λx=>letI y:=ae gI w c;cond (eE 3) none (cond (aZ w c) (lets (cS w c (y.1,y.2.1,y.2.2.1,y.2.2.2.1,y.2.2.2.2.1,y.2.2.2.2.2.1,ak .eql (aa .rem .i64 x 3) 0)) λz=>some (.inl (z,aa .add .i64 x f,aa .add .i64 c f,()))) none)) none) none) none) none) none) none) (some (.inr (.inl (b.1,b.2.1,()))))
def N4 k x:=iter (N3 k) big x
def NI(a:JI)(b:Int):Option (Int×YcV):=(N4 () (a,b,0,())).bind λc=>Sum.elim (λd=>some (d.2.1,d.1,())) (λd=>Empty.elim d) c
def K8(a b c d e f g h i j k:Int)(l:KB)(m:Kj)(n:JI)(o:Js)(p:Int):Option YeI:=(Pc l p).bind λq=>(MI m q.1).bind λr=>(NI n r.1).bind λs=>(LC o s.1).bind λt=>some (t.1,q.2.1,r.2.1,s.2.1,t.2.1,())
def O9(a:YbV)(b:Nt):YbA:=letI c:=b.2.1;letI d:=aa .add .i64 b.1 1;cond (ak .lss c (bw a.1)) (cond (aZ a.1 c) (cond (ak .neq (ae S4 a.1 c).1 b.1) (some (.inr (.inl (-1,())))) (cond (aZ a.1 c) (cond (ak .neq (ae S4 a.1 c).2 d) (some (.inr (.inl (-1,())))) (some (.inl (aa .add .i64 d 1,aa .add .i64 c 1,())))) none)) none) (some (.inr (.inr (.inl (b.1,())))))
def Pb k x:=iter (O9 k) big x
def Mf(a:NX)(b:Int):Oz:=(Pb (a,()) (b,0,())).bind λc=>Sum.elim (λd=>some (d.1,())) (λd=>Sum.elim (λe=>some (e.1,())) (λe=>Empty.elim e) d) c
def Qk(a:YcK)(b:Nt):YbA:=letI c:=((-1:Int),());letI d:=aZ a.1 b.2.1;letI e:=ae fe a.1 b.2.1;letI f:=aa .add .i64 b.1 1;letI g:=aa .add .i64 f 1;letI h:=aa .add .i64 g 1;cond (ak .lss b.2.1 (bw a.1)) (cond d (cond (ak .neq e.1 b.1) (some (.inr (.inl c))) (cond d (cond (ak .neq e.2.1 f) (some (.inr (.inl c))) (cond d (cond (ak .neq e.2.2.1 g) (some (.inr (.inl c))) (cond d (cond (eE 3) none (lets (Bool.not (pI e.2.2.2 (ak .eql (aa .rem .i64 h 3) 0))) λi=>cond i (some (.inr (.inl c))) (some (.inl (aa .add .i64 h 1,aa .add .i64 b.2.1 1,()))))) none)) none)) none)) none) (some (.inr (.inr (.inl (b.1,())))))
def Ql k x:=iter (Qk k) big x
def QT(a:Lj)(b:Int):Oz:=(Ql (a,()) (b,0,())).bind λc=>Sum.elim (λd=>some (d.1,())) (λd=>Sum.elim (λe=>some (e.1,())) (λe=>Empty.elim e) d) c
def Nh(a:YbW)(b:Nt):YbA:=letI c:=((-1:Int),());letI d:=aZ a.1 b.2.1;letI e:=ae br a.1 b.2.1;cond (ak .lss b.2.1 (bw a.1)) (cond d (cond (ak .neq e.1 b.1) (some (.inr (.inl c))) (cond d ((LL e.2.1 (aa .add .i64 b.1 1)).bind λf=>cond (ak .lss f.1 0) (some (.inr (.inl c))) (cond d ((QT e.2.2 f.1).bind λg=>cond (ak .lss g.1 0) (some (.inr (.inl c))) (some (.inl (g.1,aa .add .i64 b.2.1 1,())))) none)) none)) none) (some (.inr (.inr (.inl (b.1,())))))
def Ni k x:=iter (Nh k) big x
def MA(a:RB)(b:Int):Oz:=(Ni (a,()) (b,0,())).bind λc=>Sum.elim (λd=>some (d.1,())) (λd=>Sum.elim (λe=>some (e.1,())) (λe=>Empty.elim e) d) c
def O7(a:YcY)(b:Nt):YbA:=letI c:=aZ a.1 b.2.1;letI d:=ae ax a.1 b.2.1;cond (ak .lss b.2.1 (bw a.1)) (cond c ((Mf d.1 b.1).bind λe=>letI f:=((-1:Int),());letI g:=d.2;cond (ak .lss e.1 0) (some (.inr (.inl f))) (cond c ((Mf g.1 e.1).bind λh=>cond (ak .lss h.1 0) (some (.inr (.inl f))) (cond c ((MA g.2.1 h.1).bind λi=>letI j:=(1:Int);letI k:=eE 3;letI l:=aa .add .i64 i.1 j;letI m:=aa .add .i64 l j;cond (ak .lss i.1 0) (some (.inr (.inl f))) (cond c (cond (ak .neq g.2.2.1 i.1) (some (.inr (.inl f))) (cond c (cond (ak .neq g.2.2.2.1 l) (some (.inr (.inl f))) (cond c (cond k none (lets (Bool.not (pI g.2.2.2.2.1 (ak .eql (aa .rem .i64 m 3) 0))) λn=>letI o:=g.2.2.2.2.2;letI p:=aa .add .i64 m j;cond n (some (.inr (.inl f))) (cond c (cond k none (lets (Bool.not (pI o.1 (ak .eql (aa .rem .i64 p 3) 0))) λq=>letI r:=aa .add .i64 p j;cond q (some (.inr (.inl f))) (cond c (cond k none (lets (ak .eql (aa .rem .i64 r 3) 0) λs=>letI t:=aa .add .i64 r j;cond (Bool.not (pI o.2.1 s)) (some (.inr (.inl f))) (cond c (lets (ak .neq o.2.2.1 t) λu=>cond u (some (.inr (.inl f))) (lets (aa .add .i64 t j) λv=>cond c (cond (ak .neq o.2.2.2.1 v) (some (.inr (.inl f))) (cond c ((LB o.2.2.2.2 (aa .add .i64 v j)).bind λw=>cond (ak .lss w.1 0) (some (.inr (.inl f))) (some (.inl (w.1,aa .add .i64 b.2.1 j,())))) none)) none)) none))) none))) none))) none)) none)) none)) none)) none)) none) (some (.inr (.inr (.inl (b.1,())))))
def O8 k x:=iter (O7 k) big x
def O6(a:KB)(b:Int):Oz:=(O8 (a,()) (b,0,())).bind λc=>Sum.elim (λd=>some (d.1,())) (λd=>Sum.elim (λe=>some (e.1,())) (λe=>Empty.elim e) d) c
def Nj(a:YcZ)(b:Nt):YbA:=letI c:=(1:Int);letI d:=((-1:Int),());letI e:=aZ a.1 b.2.1;letI f:=aa .add .i64 b.1 c;letI g:=ae aS a.1 b.2.1;letI h:=g.2.2;letI i:=aa .add .i64 f c;letI j:=aa .add .i64 i c;letI k:=aa .add .i64 j c;cond (ak .lss b.2.1 (bw a.1)) (cond e (cond (ak .neq g.1 b.1) (some (.inr (.inl d))) (cond e (cond (ak .neq g.2.1 f) (some (.inr (.inl d))) (cond e (cond (ak .neq h.1 i) (some (.inr (.inl d))) (cond e (cond (ak .neq h.2.1 j) (some (.inr (.inl d))) (cond e (lets (ak .neq h.2.2.1 k) λl=>letI m:=aa .add .i64 k c;cond l (some (.inr (.inl d))) (cond e (lets (ak .neq h.2.2.2.1 m) λn=>cond n (some (.inr (.inl d))) (lets (aa .add .i64 m c) λo=>letI p:=aa .add .i64 o c;letI q:=aa .add .i64 p c;letI r:=h.2.2.2.2.2;letI s:=aa .add .i64 q c;letI t:=aa .add .i64 s c;cond e (cond (ak .neq h.2.2.2.2.1 o) (some (.inr (.inl d))) (cond e (cond (ak .neq r.1 p) (some (.inr (.inl d))) (cond e (cond (ak .neq r.2.1 q) (some (.inr (.inl d))) (cond e (cond (ak .neq r.2.2.1 s) (some (.inr (.inl d))) (cond e (lets (ak .neq r.2.2.2.1 t) λu=>letI v:=aa .add .i64 t c;cond u (some (.inr (.inl d))) (cond e (lets (ak .neq r.2.2.2.2.1 v) λw=>cond w (some (.inr (.inl d))) (lets (aa .add .i64 v c) λx=>cond e (cond (ak .neq r.2.2.2.2.2 x) (some (.inr (.inl d))) (some (.inl (aa .add .i64 x c,aa .add .i64 b.2.1 c,())))) none)) none)) none)) none)) none)) none)) none)) none)) none)) none)) none)) none)) none) (some (.inr (.inr (.inl (b.1,())))))
def Nk k x:=iter (Nj k) big x
def ME(a:Kj)(b:Int):Oz:=(Nk (a,()) (b,0,())).bind λc=>Sum.elim (λd=>some (d.1,())) (λd=>Sum.elim (λe=>some (e.1,())) (λe=>Empty.elim e) d) c
def N1(a:YcV)(b:Nt):YbA:=letI c:=(1:Int);letI d:=((-1:Int),());letI e:=aZ a.1 b.2.1;letI f:=ae gI a.1 b.2.1;letI g:=aa .add .i64 b.1 c;letI h:=f.2.2.2;letI i:=aa .add .i64 g c;letI j:=aa .add .i64 i c;letI k:=aa .add .i64 j c;cond (ak .lss b.2.1 (bw a.1)) (cond e (cond (ak .neq f.1 b.1) (some (.inr (.inl d))) (cond e (cond (ak .neq f.2.1 g) (some (.inr (.inl d))) (cond e (cond (ak .neq f.2.2.1 i) (some (.inr (.inl d))) (cond e (cond (ak .neq h.1 j) (some (.inr (.inl d))) (cond e (lets (ak .neq h.2.1 k) λl=>letI m:=aa .add .i64 k c;cond l (some (.inr (.inl d))) (cond e (lets (ak .neq h.2.2.1 m) λn=>cond n (some (.inr (.inl d))) (lets (aa .add .i64 m c) λo=>cond e (cond (eE 3) none (cond (Bool.not (pI h.2.2.2 (ak .eql (aa .rem .i64 o 3) 0))) (some (.inr (.inl d))) (some (.inl (aa .add .i64 o c,aa .add .i64 b.2.1 c,()))))) none)) none)) none)) none)) none)) none)) none) (some (.inr (.inr (.inl (b.1,())))))
def N2 k x:=iter (N1 k) big x
def NH(a:JI)(b:Int):Oz:=(N2 (a,()) (b,0,())).bind λc=>Sum.elim (λd=>some (d.1,())) (λd=>Sum.elim (λe=>some (e.1,())) (λe=>Empty.elim e) d) c
def MD(a b c d e f g h i j k:Int)(l:KB)(m:Kj)(n:JI)(o:Js)(p:Int):Oz:=(O6 l p).bind λq=>letI r:=some ((-1:Int),());cond (ak .lss q.1 0) r ((ME m q.1).bind λs=>cond (ak .lss s.1 0) r ((NH n s.1).bind λt=>cond (ak .lss t.1 0) r ((LB o t.1).bind λu=>cond (ak .lss u.1 0) r (some (u.1,())))))
def z3F:eE (3:Int)=false:=by decide
def k3(k:Int):Bool:=ak .eql (aa .rem .i64 k 3) 0
def Jv{a b:Int}(c:0<=a)(d:a<=4611686018427387904)(h:b=a+1):aa .add .i64 a 1=b:=(RC c d).trans h.symm
def cT{a:Type}{b:Bool}{x y:a}(h:b=true):(bif b then x else y)=x:=by rw[h];rfl
def cF{a:Type}{b:Bool}{x y:a}(h:b=false):(bif b then x else y)=y:=by rw[h];rfl
def JP{α c:Type}{a b:α}{f:α->c}(h:a=b):lets a f=f b:=by rw[jE,h]
def YA{α a:Type}{x:Option α}{r:α}{f:α->Option a}(h:x=some r):x.bind f=f r:=by rw[h];rfl
def loX{α:Type}{L:List α}{n:Nat}(h:n<L.length):ak .lss (n:Int) (bw L)=true:=by rw[bP];exact xD h
def JV{α:Type}{L:List α}{n:Nat}(h:n<L.length):aZ L (n:Int)=true:=by rw[dX];exact xD h
def Xw{α:Type}{L:List α}{n:Nat}{a:α}(h:n<L.length):aZ (L.set n a) (n:Int)=true:=by rw[uI];exact xD h
def eb(k:Int)(x:Na):Na×Int:=((k,k+1),k+2)
def adC(k:Int)(x:Na):k<=(eb k x).2/\(eb k x).2<=k+(2:Nat):=⟨by show k<=k+2;omega,by show k+2<=k+2;omega⟩
def ZM(l:List Na)(k:Int)(g:l.length<=1073741824)(e:0<=k)(h:k+2*(l.length:Int)<=1125899906842624):Mg l k=some ((gA eb l k).2,(gA eb l k).1,()):=by
 unfold Mg;have:Pg () (l,k,0,())=some (.inl ((gA eb l k).1,(gA eb l k).2,())):=by
  refine V5 (cost:=λ_=>2) S4 l k g e adC (λL q n b i j f a=>?_) (λL m=>?_)
  .rw[JO]at a;unfold eb;have d:aa .add .i64 (q) 1=q+1:=Jv (by omega) (by omega) (by omega);have c:aa .add .i64 (q+1) 1=q+2:=Jv (by omega) (by omega) (by omega);unfold Pf;simp only[bP,dX,b,xC,aJ,eW (n:=n) (by omega),jt,cw,d,c];repeat (first|rw[jE]|simp only[uI,gf,b,xC,aJ,jt,cw,cP b,um,c])
  .unfold Pf;simp only[bP,iO,sC,cz]
 rw[this];rfl
def Zp(l:List Na)(k:Int)(g:l.length<=1073741824)(d:0<=k)(j:k+2*(l.length:Int)<=1125899906842624):Mf (gA eb l k).1 k=some ((gA eb l k).2,()):=by
 unfold Mf;have:Pb ((gA eb l k).1,()) (k,0,())=some (.inr (.inl ((gA eb l k).2,()))):=by
  refine V0 (cost:=λ_=>2) S4 l k g d adC (λq n h f a e=>?_) (λm=>?_)
  .rw[JO]at a;have b:aa .add .i64 (q) 1=q+1:=Jv (by omega) (by omega) (by omega);have c:aa .add .i64 (q+1) 1=q+2:=Jv (by omega) (by omega) (by omega);have i:n<(gA eb l k).1.length:=by rw[KH];exact h
   unfold O9;simp only[bP,dX,i,xC,aJ,eW (n:=n) (by omega),cw,e,eb,b,c,F0,cz,z3F,Om,l7,jE]
  .unfold O9;have:=KH eb l k;simp only[<-this,bP,iO,sC,cz]
 rw[this];rfl
def Wn(k:Int)(x:Bx):Bx×Int:=((k,k+1,k+2,k3 (k+3)),k+4)
def adB(k:Int)(x:Bx):k<=(Wn k x).2/\(Wn k x).2<=k+(4:Nat):=⟨by show k<=k+4;omega,by show k+4<=k+4;omega⟩
def aet(l:List Bx)(k:Int)(i:l.length<=1073741824)(g:0<=k)(j:k+4*(l.length:Int)<=1125899906842624):QU l k=some ((gA Wn l k).2,(gA Wn l k).1,()):=by
 unfold QU;have:Qo () (l,k,0,())=some (.inl ((gA Wn l k).1,(gA Wn l k).2,())):=by
  refine V5 (cost:=λ_=>4) fe l k i g adB (λL q n b m o h a=>?_) (λL p=>?_)
  .rw[JO]at a;unfold Wn k3;have d:aa .add .i64 (q) 1=q+1:=Jv (by omega) (by omega) (by omega);have e:aa .add .i64 (q+1) 1=q+2:=Jv (by omega) (by omega) (by omega);have f:aa .add .i64 (q+2) 1=q+3:=Jv (by omega) (by omega) (by omega);have c:aa .add .i64 (q+3) 1=q+4:=Jv (by omega) (by omega) (by omega);unfold Qm;simp only[bP,dX,b,xC,aJ,eW (n:=n) (by omega),jt,cw,d,e,f,c,z3F,cz];repeat (first|rw[jE]|simp only[uI,gf,b,xC,aJ,jt,cw,cP b,um,c,z3F,cz])
  .unfold Qm;simp only[bP,iO,sC,cz]
 rw[this];rfl
def aen(l:List Bx)(k:Int)(i:l.length<=1073741824)(f:0<=k)(o:k+4*(l.length:Int)<=1125899906842624):QT (gA Wn l k).1 k=some ((gA Wn l k).2,()):=by
 unfold QT;have:Ql ((gA Wn l k).1,()) (k,0,())=some (.inr (.inl ((gA Wn l k).2,()))):=by
  refine V0 (cost:=λ_=>4) fe l k i f adB (λq n j h a g=>?_) (λp=>?_)
  .rw[JO]at a;have b:aa .add .i64 (q) 1=q+1:=Jv (by omega) (by omega) (by omega);have c:aa .add .i64 (q+1) 1=q+2:=Jv (by omega) (by omega) (by omega);have d:aa .add .i64 (q+2) 1=q+3:=Jv (by omega) (by omega) (by omega);have e:aa .add .i64 (q+3) 1=q+4:=Jv (by omega) (by omega) (by omega);have m:n<(gA Wn l k).1.length:=by rw[KH];exact j
   unfold Qk;simp only[bP,dX,m,xC,aJ,eW (n:=n) (by omega),cw,g,Wn,k3,b,c,d,e,F0,cz,z3F,Om,l7,jE]
  .unfold Qk;have:=KH Wn l k;simp only[<-this,bP,iO,sC,cz]
 rw[this];rfl
def P5(k:Int)(x:NE):NE×Int:=((k,k+1,k+2,k+3,k+4,k+5,k+6,k+7,k+8,k+9,k+10,k+11,k+12),k+13)
def abP(k:Int)(x:NE):k<=(P5 k x).2/\(P5 k x).2<=k+(13:Nat):=⟨by show k<=k+13;omega,by show k+13<=k+13;omega⟩
def abM(l:List NE)(k:Int)(w:l.length<=1073741824)(u:0<=k)(x:k+13*(l.length:Int)<=1125899906842624):MI l k=some ((gA P5 l k).2,(gA P5 l k).1,()):=by
 unfold MI;have:Nq () (l,k,0,())=some (.inl ((gA P5 l k).1,(gA P5 l k).2,())):=by
  refine V5 (cost:=λ_=>13) aS l k w u abP (λL q n f y z v t=>?_) (λL A=>?_)
  .rw[JO]at t;unfold P5;have g:aa .add .i64 (q) 1=q+1:=Jv (by omega) (by omega) (by omega);have h:aa .add .i64 (q+1) 1=q+2:=Jv (by omega) (by omega) (by omega);have i:aa .add .i64 (q+2) 1=q+3:=Jv (by omega) (by omega) (by omega);have j:aa .add .i64 (q+3) 1=q+4:=Jv (by omega) (by omega) (by omega);have m:aa .add .i64 (q+4) 1=q+5:=Jv (by omega) (by omega) (by omega);have o:aa .add .i64 (q+5) 1=q+6:=Jv (by omega) (by omega) (by omega);have p:aa .add .i64 (q+6) 1=q+7:=Jv (by omega) (by omega) (by omega);have r:aa .add .i64 (q+7) 1=q+8:=Jv (by omega) (by omega) (by omega);have s:aa .add .i64 (q+8) 1=q+9:=Jv (by omega) (by omega) (by omega);have c:aa .add .i64 (q+9) 1=q+10:=Jv (by omega) (by omega) (by omega);have d:aa .add .i64 (q+10) 1=q+11:=Jv (by omega) (by omega) (by omega);have e:aa .add .i64 (q+11) 1=q+12:=Jv (by omega) (by omega) (by omega);have a:aa .add .i64 (q+12) 1=q+13:=Jv (by omega) (by omega) (by omega);unfold Np;dsimp only;refine(cT (loX f)).trans ?_;refine(cT (JV f)).trans ?_;refine(JP (b:=L.set n (q,(L.getD n aS).2.1,(L.getD n aS).2.2.1,(L.getD n aS).2.2.2.1,(L.getD n aS).2.2.2.2.1,(L.getD n aS).2.2.2.2.2.1,(L.getD n aS).2.2.2.2.2.2.1,(L.getD n aS).2.2.2.2.2.2.2.1,(L.getD n aS).2.2.2.2.2.2.2.2.1,(L.getD n aS).2.2.2.2.2.2.2.2.2.1,(L.getD n aS).2.2.2.2.2.2.2.2.2.2.1,(L.getD n aS).2.2.2.2.2.2.2.2.2.2.2.1,(L.getD n aS).2.2.2.2.2.2.2.2.2.2.2.2)) (by simp only[cw,jt,cP f,um,g,h,i,j,m,o,p,r,s,c,d,e,a])).trans ?_;refine(cT (Xw f)).trans ?_;refine(JP (b:=L.set n (q,q+1,(L.getD n aS).2.2.1,(L.getD n aS).2.2.2.1,(L.getD n aS).2.2.2.2.1,(L.getD n aS).2.2.2.2.2.1,(L.getD n aS).2.2.2.2.2.2.1,(L.getD n aS).2.2.2.2.2.2.2.1,(L.getD n aS).2.2.2.2.2.2.2.2.1,(L.getD n aS).2.2.2.2.2.2.2.2.2.1,(L.getD n aS).2.2.2.2.2.2.2.2.2.2.1,(L.getD n aS).2.2.2.2.2.2.2.2.2.2.2.1,(L.getD n aS).2.2.2.2.2.2.2.2.2.2.2.2)) (by simp only[cw,jt,cP f,um,g,h,i,j,m,o,p,r,s,c,d,e,a])).trans ?_;refine(cT (Xw f)).trans ?_;refine(JP (b:=L.set n (q,q+1,q+2,(L.getD n aS).2.2.2.1,(L.getD n aS).2.2.2.2.1,(L.getD n aS).2.2.2.2.2.1,(L.getD n aS).2.2.2.2.2.2.1,(L.getD n aS).2.2.2.2.2.2.2.1,(L.getD n aS).2.2.2.2.2.2.2.2.1,(L.getD n aS).2.2.2.2.2.2.2.2.2.1,(L.getD n aS).2.2.2.2.2.2.2.2.2.2.1,(L.getD n aS).2.2.2.2.2.2.2.2.2.2.2.1,(L.getD n aS).2.2.2.2.2.2.2.2.2.2.2.2)) (by simp only[cw,jt,cP f,um,g,h,i,j,m,o,p,r,s,c,d,e,a])).trans ?_;refine(cT (Xw f)).trans ?_;refine(JP (b:=L.set n (q,q+1,q+2,q+3,(L.getD n aS).2.2.2.2.1,(L.getD n aS).2.2.2.2.2.1,(L.getD n aS).2.2.2.2.2.2.1,(L.getD n aS).2.2.2.2.2.2.2.1,(L.getD n aS).2.2.2.2.2.2.2.2.1,(L.getD n aS).2.2.2.2.2.2.2.2.2.1,(L.getD n aS).2.2.2.2.2.2.2.2.2.2.1,(L.getD n aS).2.2.2.2.2.2.2.2.2.2.2.1,(L.getD n aS).2.2.2.2.2.2.2.2.2.2.2.2)) (by simp only[cw,jt,cP f,um,g,h,i,j,m,o,p,r,s,c,d,e,a])).trans ?_;refine(cT (Xw f)).trans ?_;refine(JP (b:=L.set n (q,q+1,q+2,q+3,q+4,(L.getD n aS).2.2.2.2.2.1,(L.getD n aS).2.2.2.2.2.2.1,(L.getD n aS).2.2.2.2.2.2.2.1,(L.getD n aS).2.2.2.2.2.2.2.2.1,(L.getD n aS).2.2.2.2.2.2.2.2.2.1,(L.getD n aS).2.2.2.2.2.2.2.2.2.2.1,(L.getD n aS).2.2.2.2.2.2.2.2.2.2.2.1,(L.getD n aS).2.2.2.2.2.2.2.2.2.2.2.2)) (by simp only[cw,jt,cP f,um,g,h,i,j,m,o,p,r,s,c,d,e,a])).trans ?_;refine(cT (Xw f)).trans ?_;refine(JP (b:=L.set n (q,q+1,q+2,q+3,q+4,q+5,(L.getD n aS).2.2.2.2.2.2.1,(L.getD n aS).2.2.2.2.2.2.2.1,(L.getD n aS).2.2.2.2.2.2.2.2.1,(L.getD n aS).2.2.2.2.2.2.2.2.2.1,(L.getD n aS).2.2.2.2.2.2.2.2.2.2.1,(L.getD n aS).2.2.2.2.2.2.2.2.2.2.2.1,(L.getD n aS).2.2.2.2.2.2.2.2.2.2.2.2)) (by simp only[cw,jt,cP f,um,g,h,i,j,m,o,p,r,s,c,d,e,a])).trans ?_;refine(JP (b:=q+6) (by simp only[g,h,i,j,m,o,p,r,s,c,d,e,a])).trans ?_;refine(cT (Xw f)).trans ?_;refine(JP (b:=L.set n (q,q+1,q+2,q+3,q+4,q+5,q+6,(L.getD n aS).2.2.2.2.2.2.2.1,(L.getD n aS).2.2.2.2.2.2.2.2.1,(L.getD n aS).2.2.2.2.2.2.2.2.2.1,(L.getD n aS).2.2.2.2.2.2.2.2.2.2.1,(L.getD n aS).2.2.2.2.2.2.2.2.2.2.2.1,(L.getD n aS).2.2.2.2.2.2.2.2.2.2.2.2)) (by simp only[cw,jt,cP f,um,g,h,i,j,m,o,p,r,s,c,d,e,a])).trans ?_;refine(cT (Xw f)).trans ?_;refine(JP (b:=L.set n (q,q+1,q+2,q+3,q+4,q+5,q+6,q+7,(L.getD n aS).2.2.2.2.2.2.2.2.1,(L.getD n aS).2.2.2.2.2.2.2.2.2.1,(L.getD n aS).2.2.2.2.2.2.2.2.2.2.1,(L.getD n aS).2.2.2.2.2.2.2.2.2.2.2.1,(L.getD n aS).2.2.2.2.2.2.2.2.2.2.2.2)) (by simp only[cw,jt,cP f,um,g,h,i,j,m,o,p,r,s,c,d,e,a])).trans ?_;refine(cT (Xw f)).trans ?_;refine(JP (b:=L.set n (q,q+1,q+2,q+3,q+4,q+5,q+6,q+7,q+8,(L.getD n aS).2.2.2.2.2.2.2.2.2.1,(L.getD n aS).2.2.2.2.2.2.2.2.2.2.1,(L.getD n aS).2.2.2.2.2.2.2.2.2.2.2.1,(L.getD n aS).2.2.2.2.2.2.2.2.2.2.2.2)) (by simp only[cw,jt,cP f,um,g,h,i,j,m,o,p,r,s,c,d,e,a])).trans ?_;refine(cT (Xw f)).trans ?_;refine(JP (b:=L.set n (q,q+1,q+2,q+3,q+4,q+5,q+6,q+7,q+8,q+9,(L.getD n aS).2.2.2.2.2.2.2.2.2.2.1,(L.getD n aS).2.2.2.2.2.2.2.2.2.2.2.1,(L.getD n aS).2.2.2.2.2.2.2.2.2.2.2.2)) (by simp only[cw,jt,cP f,um,g,h,i,j,m,o,p,r,s,c,d,e,a])).trans ?_;refine(cT (Xw f)).trans ?_;refine(JP (b:=L.set n (q,q+1,q+2,q+3,q+4,q+5,q+6,q+7,q+8,q+9,q+10,(L.getD n aS).2.2.2.2.2.2.2.2.2.2.2.1,(L.getD n aS).2.2.2.2.2.2.2.2.2.2.2.2)) (by simp only[cw,jt,cP f,um,g,h,i,j,m,o,p,r,s,c,d,e,a])).trans ?_;refine(cT (Xw f)).trans ?_;refine(JP (b:=L.set n (q,q+1,q+2,q+3,q+4,q+5,q+6,q+7,q+8,q+9,q+10,q+11,(L.getD n aS).2.2.2.2.2.2.2.2.2.2.2.2)) (by simp only[cw,jt,cP f,um,g,h,i,j,m,o,p,r,s,c,d,e,a])).trans ?_;refine(JP (b:=q+12) (by simp only[g,h,i,j,m,o,p,r,s,c,d,e,a])).trans ?_;refine(cT (Xw f)).trans ?_;refine(JP (b:=L.set n (q,q+1,q+2,q+3,q+4,q+5,q+6,q+7,q+8,q+9,q+10,q+11,q+12)) (by simp only[cw,jt,cP f,um,g,h,i,j,m,o,p,r,s,c,d,e,a])).trans ?_;simp only[a,eW (n:=n) (by omega)]
  .unfold Np;simp only[bP,iO,sC,cz]
 rw[this];rfl
def abD(l:List NE)(k:Int)(v:l.length<=1073741824)(s:0<=k)(y:k+13*(l.length:Int)<=1125899906842624):ME (gA P5 l k).1 k=some ((gA P5 l k).2,()):=by
 unfold ME;have:Nk ((gA P5 l k).1,()) (k,0,())=some (.inr (.inl ((gA P5 l k).2,()))):=by
  refine V0 (cost:=λ_=>13) aS l k v s abP (λq n w u e t=>?_) (λz=>?_)
  .rw[JO]at e;have f:aa .add .i64 (q) 1=q+1:=Jv (by omega) (by omega) (by omega);have g:aa .add .i64 (q+1) 1=q+2:=Jv (by omega) (by omega) (by omega);have h:aa .add .i64 (q+2) 1=q+3:=Jv (by omega) (by omega) (by omega);have i:aa .add .i64 (q+3) 1=q+4:=Jv (by omega) (by omega) (by omega);have j:aa .add .i64 (q+4) 1=q+5:=Jv (by omega) (by omega) (by omega);have m:aa .add .i64 (q+5) 1=q+6:=Jv (by omega) (by omega) (by omega);have o:aa .add .i64 (q+6) 1=q+7:=Jv (by omega) (by omega) (by omega);have p:aa .add .i64 (q+7) 1=q+8:=Jv (by omega) (by omega) (by omega);have r:aa .add .i64 (q+8) 1=q+9:=Jv (by omega) (by omega) (by omega);have a:aa .add .i64 (q+9) 1=q+10:=Jv (by omega) (by omega) (by omega);have b:aa .add .i64 (q+10) 1=q+11:=Jv (by omega) (by omega) (by omega);have c:aa .add .i64 (q+11) 1=q+12:=Jv (by omega) (by omega) (by omega);have d:aa .add .i64 (q+12) 1=q+13:=Jv (by omega) (by omega) (by omega);have x:n<(gA P5 l k).1.length:=by rw[KH];exact w
   unfold Nj;simp only[bP,dX,x,xC,aJ,eW (n:=n) (by omega),cw,t,P5,f,g,h,i,j,m,o,p,r,a,b,c,d,F0,cz,z3F,Om,l7,jE]
  .unfold Nj;have:=KH P5 l k;simp only[<-this,bP,iO,sC,cz]
 rw[this];rfl
def P4(k:Int)(x:Ou):Ou×Int:=((k,k+1,k+2,k+3,k+4,k+5,k3 (k+6)),k+7)
def abO(k:Int)(x:Ou):k<=(P4 k x).2/\(P4 k x).2<=k+(7:Nat):=⟨by show k<=k+7;omega,by show k+7<=k+7;omega⟩
def ack(l:List Ou)(k:Int)(p:l.length<=1073741824)(m:0<=k)(r:k+7*(l.length:Int)<=1125899906842624):NI l k=some ((gA P4 l k).2,(gA P4 l k).1,()):=by
 unfold NI;have:N4 () (l,k,0,())=some (.inl ((gA P4 l k).1,(gA P4 l k).2,())):=by
  refine V5 (cost:=λ_=>7) gI l k p m abO (λL q n a s t o j=>?_) (λL u=>?_)
  .rw[JO]at j;unfold P4 k3;have d:aa .add .i64 (q) 1=q+1:=Jv (by omega) (by omega) (by omega);have e:aa .add .i64 (q+1) 1=q+2:=Jv (by omega) (by omega) (by omega);have f:aa .add .i64 (q+2) 1=q+3:=Jv (by omega) (by omega) (by omega);have g:aa .add .i64 (q+3) 1=q+4:=Jv (by omega) (by omega) (by omega);have h:aa .add .i64 (q+4) 1=q+5:=Jv (by omega) (by omega) (by omega);have i:aa .add .i64 (q+5) 1=q+6:=Jv (by omega) (by omega) (by omega);have c:aa .add .i64 (q+6) 1=q+7:=Jv (by omega) (by omega) (by omega);unfold N3;dsimp only;refine(cT (loX a)).trans ?_;refine(cT (JV a)).trans ?_;refine(JP (b:=L.set n (q,(L.getD n gI).2.1,(L.getD n gI).2.2.1,(L.getD n gI).2.2.2.1,(L.getD n gI).2.2.2.2.1,(L.getD n gI).2.2.2.2.2.1,(L.getD n gI).2.2.2.2.2.2)) (by simp only[cw,jt,cP a,um,d,e,f,g,h,i,c])).trans ?_;refine(cT (Xw a)).trans ?_;refine(JP (b:=L.set n (q,q+1,(L.getD n gI).2.2.1,(L.getD n gI).2.2.2.1,(L.getD n gI).2.2.2.2.1,(L.getD n gI).2.2.2.2.2.1,(L.getD n gI).2.2.2.2.2.2)) (by simp only[cw,jt,cP a,um,d,e,f,g,h,i,c])).trans ?_;refine(cT (Xw a)).trans ?_;refine(JP (b:=L.set n (q,q+1,q+2,(L.getD n gI).2.2.2.1,(L.getD n gI).2.2.2.2.1,(L.getD n gI).2.2.2.2.2.1,(L.getD n gI).2.2.2.2.2.2)) (by simp only[cw,jt,cP a,um,d,e,f,g,h,i,c])).trans ?_;refine(cT (Xw a)).trans ?_;refine(JP (b:=L.set n (q,q+1,q+2,q+3,(L.getD n gI).2.2.2.2.1,(L.getD n gI).2.2.2.2.2.1,(L.getD n gI).2.2.2.2.2.2)) (by simp only[cw,jt,cP a,um,d,e,f,g,h,i,c])).trans ?_;refine(cT (Xw a)).trans ?_;refine(JP (b:=L.set n (q,q+1,q+2,q+3,q+4,(L.getD n gI).2.2.2.2.2.1,(L.getD n gI).2.2.2.2.2.2)) (by simp only[cw,jt,cP a,um,d,e,f,g,h,i,c])).trans ?_;refine(cT (Xw a)).trans ?_;refine(JP (b:=L.set n (q,q+1,q+2,q+3,q+4,q+5,(L.getD n gI).2.2.2.2.2.2)) (by simp only[cw,jt,cP a,um,d,e,f,g,h,i,c])).trans ?_;refine(JP (b:=q+6) (by simp only[d,e,f,g,h,i,c])).trans ?_;refine(cF z3F).trans ?_;refine(cT (Xw a)).trans ?_;refine(JP (b:=L.set n (q,q+1,q+2,q+3,q+4,q+5,ak .eql (aa .rem .i64 (q+6) 3) 0)) (by simp only[cw,jt,cP a,um,d,e,f,g,h,i,c])).trans ?_;simp only[c,eW (n:=n) (by omega)]
  .unfold N3;simp only[bP,iO,sC,cz]
 rw[this];rfl
def acj(l:List Ou)(k:Int)(o:l.length<=1073741824)(i:0<=k)(s:k+7*(l.length:Int)<=1125899906842624):NH (gA P4 l k).1 k=some ((gA P4 l k).2,()):=by
 unfold NH;have:N2 ((gA P4 l k).1,()) (k,0,())=some (.inr (.inl ((gA P4 l k).2,()))):=by
  refine V0 (cost:=λ_=>7) gI l k o i abO (λq n p m a j=>?_) (λt=>?_)
  .rw[JO]at a;have b:aa .add .i64 (q) 1=q+1:=Jv (by omega) (by omega) (by omega);have c:aa .add .i64 (q+1) 1=q+2:=Jv (by omega) (by omega) (by omega);have d:aa .add .i64 (q+2) 1=q+3:=Jv (by omega) (by omega) (by omega);have e:aa .add .i64 (q+3) 1=q+4:=Jv (by omega) (by omega) (by omega);have f:aa .add .i64 (q+4) 1=q+5:=Jv (by omega) (by omega) (by omega);have g:aa .add .i64 (q+5) 1=q+6:=Jv (by omega) (by omega) (by omega);have h:aa .add .i64 (q+6) 1=q+7:=Jv (by omega) (by omega) (by omega);have r:n<(gA P4 l k).1.length:=by rw[KH];exact p
   unfold N1;simp only[bP,dX,r,xC,aJ,eW (n:=n) (by omega),cw,j,P4,k3,b,c,d,e,f,g,h,F0,cz,z3F,Om,l7,jE]
  .unfold N1;have:=KH P4 l k;simp only[<-this,bP,iO,sC,cz]
 rw[this];rfl
def Z5{α:Type}(a:α->Nat)(z:α):∀ {l:List α} {n:Nat},n<l.length->a (l.getD n z)<=JC a l
 |x::xs,0,_=>by simp only[List.getD_cons_zero,JC];omega
 |x::xs,n+1,h=>by have:=Z5 a z (l:=xs) (n:=n) (by simpa using h);simp only[List.getD_cons_succ,JC];omega
def acS(l:List Na)(k:Int):k<=(gA eb l k).2/\(gA eb l k).2<=k+2*(l.length:Int):=by have:=TA adC l k;rw[JO]at this;omega
def ajU(l:List Bx)(k:Int):k<=(gA Wn l k).2/\(gA Wn l k).2<=k+4*(l.length:Int):=by have:=TA adB l k;rw[JO]at this;omega
def Mp(c:LM):Nat:=1+c.2.1.length+4*c.2.2.length
def kW(k:Int)(c:LM):LM×Int:=((k,RY (k+1) c.2.1.length,(gA Wn c.2.2 (k+1+(c.2.1.length:Int))).1),(gA Wn c.2.2 (k+1+(c.2.1.length:Int))).2)
def XP(k:Int)(c:LM):k<=(kW k c).2/\(kW k c).2<=k+(Mp c:Nat):=by have:=ajU c.2.2 (k+1+(c.2.1.length:Int));unfold kW Mp;dsimp only;omega
def abL(l:List LM)(k:Int)(m:l.length<=1073741824)(g:∀n,n<l.length->VX 1073741824 (l.getD n JG))(f:0<=k)(p:k+(JC Mp l:Nat)<=1099511627776):MF l k=some ((gA kW l k).2,(gA kW l k).1,()):=by
 unfold MF;have:Nn () (l,k,0,())=some (.inl ((gA kW l k).1,(gA kW l k).2,())):=by
  refine V5 (cost:=Mp) JG l k m f XP (λL q n a s h i j=>?_) (λL t=>?_)
  .have o:n<l.length:=by omega
   obtain⟨c,d⟩:=g n o;rw[<-h]at c d⊢;unfold kW;have e:aa .add .i64 q 1=q+1:=RC (by omega) (by omega);have m1:=aaP (L.getD n JG).2.1 (q+1) c (by omega) (by omega);have m2:=aet (L.getD n JG).2.2 (q+1+((L.getD n JG).2.1.length:Int)) d (by omega) (by omega);unfold Nl;dsimp only;refine(cT (loX a)).trans ?_;refine(cT (JV a)).trans ?_;rw[jt,cw];refine(cT (Xw a)).trans ?_;rw[e,cw];refine(YA (r:=_) (by rw[cP a];exact m1)).trans ?_;refine(JP (b:=L.set n (q,RY (q+1) (L.getD n JG).2.1.length,(L.getD n JG).2.2)) (by rw[cP a,jt,um];rfl)).trans ?_;refine(cT (Xw a)).trans ?_;rw[cw];refine(YA (r:=_) (by rw[cP a];exact m2)).trans ?_;rw[cP a,jt,um,eW (n:=n) (by omega)]
  .unfold Nl;simp only[bP,iO,sC,cz]
 rw[this];rfl
def abB(l:List LM)(k:Int)(j:l.length<=1073741824)(g:∀n,n<l.length->VX 1073741824 (l.getD n JG))(f:0<=k)(s:k+(JC Mp l:Nat)<=1099511627776):MA (gA kW l k).1 k=some ((gA kW l k).2,()):=by
 unfold MA;have:Ni ((gA kW l k).1,()) (k,0,())=some (.inr (.inl ((gA kW l k).2,()))):=by
  refine V0 (cost:=Mp) JG l k j f XP (λq n b h i a=>?_) (λt=>?_)
  .obtain⟨d,e⟩:=g n b;have m:n<(gA kW l k).1.length:=by rw[KH];exact b
   have c:aa .add .i64 q 1=q+1:=RC (by omega) (by omega);have r:=ajU (l.getD n JG).2.2 (q+1+((l.getD n JG).2.1.length:Int));have m1:=aaL (l.getD n JG).2.1.length (q+1) d (by omega) (by omega);have m2:=aen (l.getD n JG).2.2 (q+1+((l.getD n JG).2.1.length:Int)) e (by omega) (by omega);have o:ak .lss (q+1+((l.getD n JG).2.1.length:Int)) 0=false:=Jk (by omega);have p:ak .lss (gA Wn (l.getD n JG).2.2 (q+1+((l.getD n JG).2.1.length:Int))).2 0=false:=Jk (by omega);have a:(gA kW l k).1.getD n br=(kW q (l.getD n JG)).1:=a;unfold Nh;simp only[bP,dX,m,xC,aJ,eW (n:=n) (by omega),cw,a,kW,c,F0,cz,m1,m2,o,p,vP]
  .unfold Nh;have:=KH kW l k;simp only[<-this,bP,iO,sC,cz]
 rw[this];rfl
def J0(x:Site):Nat:=2*x.1.length+2*x.2.1.length+JC Mp x.2.2.1+7+7*x.2.2.2.2.2.2.2.2.2.2.length
def KT(q:Int)(x:Site):Site×Int:=(((gA eb x.1 q).1,(gA eb x.2.1 (gA eb x.1 q).2).1,(gA kW x.2.2.1 (gA eb x.2.1 (gA eb x.1 q).2).2).1,(gA kW x.2.2.1 (gA eb x.2.1 (gA eb x.1 q).2).2).2,(gA kW x.2.2.1 (gA eb x.2.1 (gA eb x.1 q).2).2).2+1,k3 ((gA kW x.2.2.1 (gA eb x.2.1 (gA eb x.1 q).2).2).2+2),k3 ((gA kW x.2.2.1 (gA eb x.2.1 (gA eb x.1 q).2).2).2+3),k3 ((gA kW x.2.2.1 (gA eb x.2.1 (gA eb x.1 q).2).2).2+4),(gA kW x.2.2.1 (gA eb x.2.1 (gA eb x.1 q).2).2).2+5,(gA kW x.2.2.1 (gA eb x.2.1 (gA eb x.1 q).2).2).2+6,Pv ((gA kW x.2.2.1 (gA eb x.2.1 (gA eb x.1 q).2).2).2+7) x.2.2.2.2.2.2.2.2.2.2.length),(gA kW x.2.2.1 (gA eb x.2.1 (gA eb x.1 q).2).2).2+7+7*(x.2.2.2.2.2.2.2.2.2.2.length:Int))
def aaw(q:Int)(x:Site):q<=(KT q x).2/\(KT q x).2<=q+(J0 x:Nat):=by have a:=acS x.1 q;have b:=acS x.2.1 (gA eb x.1 q).2;have c:=TA XP x.2.2.1 (gA eb x.2.1 (gA eb x.1 q).2).2;unfold KT J0;dsimp only;omega
def adz(l:List Site)(k:Int)(z:l.length<=1073741824)(w:∀n,n<l.length->Nr 1073741824 (l.getD n bl))(v:0<=k)(F:k+(JC J0 l:Nat)<=274877906944):Pc l k=some ((gA KT l k).2,(gA KT l k).1,()):=by
 unfold Pc;have:Pe () (l,k,0,())=some (.inl ((gA KT l k).1,(gA KT l k).2,())):=by
  refine V5 (cost:=J0) bl l k z v aaw (λL q n a G t x y=>?_) (λL H=>?_)
  .have u:n<l.length:=by omega
   obtain⟨m,o,p,s,c5⟩:=w n u;rw[<-t]at m o p s c5⊢;have j:2*(l.getD n bl).1.length+2*(l.getD n bl).2.1.length+JC Mp (l.getD n bl).2.2.1+7+7*(l.getD n bl).2.2.2.2.2.2.2.2.2.2.length<=JC J0 l:=Z5 J0 bl u;rw[<-t]at j;have C:=acS (L.getD n bl).1 q;have D:=acS (L.getD n bl).2.1 (gA eb (L.getD n bl).1 q).2;have E:=TA XP (L.getD n bl).2.2.1 (gA eb (L.getD n bl).2.1 (gA eb (L.getD n bl).1 q).2).2;unfold KT k3;have c:aa .add .i64 ((gA kW (L.getD n bl).2.2.1 (gA eb (L.getD n bl).2.1 (gA eb (L.getD n bl).1 q).2).2).2) 1=(gA kW (L.getD n bl).2.2.1 (gA eb (L.getD n bl).2.1 (gA eb (L.getD n bl).1 q).2).2).2+1:=Jv (by omega) (by omega) (by omega);have d:aa .add .i64 ((gA kW (L.getD n bl).2.2.1 (gA eb (L.getD n bl).2.1 (gA eb (L.getD n bl).1 q).2).2).2+1) 1=(gA kW (L.getD n bl).2.2.1 (gA eb (L.getD n bl).2.1 (gA eb (L.getD n bl).1 q).2).2).2+2:=Jv (by omega) (by omega) (by omega);have e:aa .add .i64 ((gA kW (L.getD n bl).2.2.1 (gA eb (L.getD n bl).2.1 (gA eb (L.getD n bl).1 q).2).2).2+2) 1=(gA kW (L.getD n bl).2.2.1 (gA eb (L.getD n bl).2.1 (gA eb (L.getD n bl).1 q).2).2).2+3:=Jv (by omega) (by omega) (by omega);have f:aa .add .i64 ((gA kW (L.getD n bl).2.2.1 (gA eb (L.getD n bl).2.1 (gA eb (L.getD n bl).1 q).2).2).2+3) 1=(gA kW (L.getD n bl).2.2.1 (gA eb (L.getD n bl).2.1 (gA eb (L.getD n bl).1 q).2).2).2+4:=Jv (by omega) (by omega) (by omega);have g:aa .add .i64 ((gA kW (L.getD n bl).2.2.1 (gA eb (L.getD n bl).2.1 (gA eb (L.getD n bl).1 q).2).2).2+4) 1=(gA kW (L.getD n bl).2.2.1 (gA eb (L.getD n bl).2.1 (gA eb (L.getD n bl).1 q).2).2).2+5:=Jv (by omega) (by omega) (by omega);have h:aa .add .i64 ((gA kW (L.getD n bl).2.2.1 (gA eb (L.getD n bl).2.1 (gA eb (L.getD n bl).1 q).2).2).2+5) 1=(gA kW (L.getD n bl).2.2.1 (gA eb (L.getD n bl).2.1 (gA eb (L.getD n bl).1 q).2).2).2+6:=Jv (by omega) (by omega) (by omega);have i:aa .add .i64 ((gA kW (L.getD n bl).2.2.1 (gA eb (L.getD n bl).2.1 (gA eb (L.getD n bl).1 q).2).2).2+6) 1=(gA kW (L.getD n bl).2.2.1 (gA eb (L.getD n bl).2.1 (gA eb (L.getD n bl).1 q).2).2).2+7:=Jv (by omega) (by omega) (by omega);have m1:=ZM (L.getD n bl).1 q m (by omega) (by omega);have m2:=ZM (L.getD n bl).2.1 (gA eb (L.getD n bl).1 q).2 o (by omega) (by omega);have A:=abL (L.getD n bl).2.2.1 (gA eb (L.getD n bl).2.1 (gA eb (L.getD n bl).1 q).2).2 p s (by omega) (by omega);have B:=YJ (L.getD n bl).2.2.2.2.2.2.2.2.2.2 ((gA kW (L.getD n bl).2.2.1 (gA eb (L.getD n bl).2.1 (gA eb (L.getD n bl).1 q).2).2).2+7) c5 (by omega) (by omega);unfold Pd;dsimp only;rw[show ax=bl from rfl];refine(cT (loX a)).trans ?_;refine(cT (JV a)).trans ?_;refine(YA (r:=_) (by simp only[cw,cP a,c,d,e,f,g,h,i];exact m1)).trans ?_;refine(JP (b:=L.set n ((gA eb (L.getD n bl).1 q).1,(L.getD n bl).2.1,(L.getD n bl).2.2.1,(L.getD n bl).2.2.2.1,(L.getD n bl).2.2.2.2.1,(L.getD n bl).2.2.2.2.2.1,(L.getD n bl).2.2.2.2.2.2.1,(L.getD n bl).2.2.2.2.2.2.2.1,(L.getD n bl).2.2.2.2.2.2.2.2.1,(L.getD n bl).2.2.2.2.2.2.2.2.2.1,(L.getD n bl).2.2.2.2.2.2.2.2.2.2)) (by simp only[cw,jt,cP a,um])).trans ?_;refine(cT (Xw a)).trans ?_;refine(YA (r:=_) (by simp only[cw,cP a,c,d,e,f,g,h,i];exact m2)).trans ?_;refine(JP (b:=L.set n ((gA eb (L.getD n bl).1 q).1,(gA eb (L.getD n bl).2.1 (gA eb (L.getD n bl).1 q).2).1,(L.getD n bl).2.2.1,(L.getD n bl).2.2.2.1,(L.getD n bl).2.2.2.2.1,(L.getD n bl).2.2.2.2.2.1,(L.getD n bl).2.2.2.2.2.2.1,(L.getD n bl).2.2.2.2.2.2.2.1,(L.getD n bl).2.2.2.2.2.2.2.2.1,(L.getD n bl).2.2.2.2.2.2.2.2.2.1,(L.getD n bl).2.2.2.2.2.2.2.2.2.2)) (by simp only[cw,jt,cP a,um])).trans ?_;refine(cT (Xw a)).trans ?_;refine(YA (r:=_) (by simp only[cw,cP a,c,d,e,f,g,h,i];exact A)).trans ?_;refine(JP (b:=L.set n ((gA eb (L.getD n bl).1 q).1,(gA eb (L.getD n bl).2.1 (gA eb (L.getD n bl).1 q).2).1,(gA kW (L.getD n bl).2.2.1 (gA eb (L.getD n bl).2.1 (gA eb (L.getD n bl).1 q).2).2).1,(L.getD n bl).2.2.2.1,(L.getD n bl).2.2.2.2.1,(L.getD n bl).2.2.2.2.2.1,(L.getD n bl).2.2.2.2.2.2.1,(L.getD n bl).2.2.2.2.2.2.2.1,(L.getD n bl).2.2.2.2.2.2.2.2.1,(L.getD n bl).2.2.2.2.2.2.2.2.2.1,(L.getD n bl).2.2.2.2.2.2.2.2.2.2)) (by simp only[cw,jt,cP a,um])).trans ?_;refine(cT (Xw a)).trans ?_;refine(JP (b:=L.set n ((gA eb (L.getD n bl).1 q).1,(gA eb (L.getD n bl).2.1 (gA eb (L.getD n bl).1 q).2).1,(gA kW (L.getD n bl).2.2.1 (gA eb (L.getD n bl).2.1 (gA eb (L.getD n bl).1 q).2).2).1,(gA kW (L.getD n bl).2.2.1 (gA eb (L.getD n bl).2.1 (gA eb (L.getD n bl).1 q).2).2).2,(L.getD n bl).2.2.2.2.1,(L.getD n bl).2.2.2.2.2.1,(L.getD n bl).2.2.2.2.2.2.1,(L.getD n bl).2.2.2.2.2.2.2.1,(L.getD n bl).2.2.2.2.2.2.2.2.1,(L.getD n bl).2.2.2.2.2.2.2.2.2.1,(L.getD n bl).2.2.2.2.2.2.2.2.2.2)) (by simp only[cw,jt,cP a,um,c,d,e,f,g,h,i])).trans ?_;refine(cT (Xw a)).trans ?_;refine(JP (b:=L.set n ((gA eb (L.getD n bl).1 q).1,(gA eb (L.getD n bl).2.1 (gA eb (L.getD n bl).1 q).2).1,(gA kW (L.getD n bl).2.2.1 (gA eb (L.getD n bl).2.1 (gA eb (L.getD n bl).1 q).2).2).1,(gA kW (L.getD n bl).2.2.1 (gA eb (L.getD n bl).2.1 (gA eb (L.getD n bl).1 q).2).2).2,(gA kW (L.getD n bl).2.2.1 (gA eb (L.getD n bl).2.1 (gA eb (L.getD n bl).1 q).2).2).2+1,(L.getD n bl).2.2.2.2.2.1,(L.getD n bl).2.2.2.2.2.2.1,(L.getD n bl).2.2.2.2.2.2.2.1,(L.getD n bl).2.2.2.2.2.2.2.2.1,(L.getD n bl).2.2.2.2.2.2.2.2.2.1,(L.getD n bl).2.2.2.2.2.2.2.2.2.2)) (by simp only[cw,jt,cP a,um,c,d,e,f,g,h,i])).trans ?_;refine(cF z3F).trans ?_;refine(cT (Xw a)).trans ?_;refine(JP (b:=L.set n ((gA eb (L.getD n bl).1 q).1,(gA eb (L.getD n bl).2.1 (gA eb (L.getD n bl).1 q).2).1,(gA kW (L.getD n bl).2.2.1 (gA eb (L.getD n bl).2.1 (gA eb (L.getD n bl).1 q).2).2).1,(gA kW (L.getD n bl).2.2.1 (gA eb (L.getD n bl).2.1 (gA eb (L.getD n bl).1 q).2).2).2,(gA kW (L.getD n bl).2.2.1 (gA eb (L.getD n bl).2.1 (gA eb (L.getD n bl).1 q).2).2).2+1,ak .eql (aa .rem .i64 ((gA kW (L.getD n bl).2.2.1 (gA eb (L.getD n bl).2.1 (gA eb (L.getD n bl).1 q).2).2).2+2) 3) 0,(L.getD n bl).2.2.2.2.2.2.1,(L.getD n bl).2.2.2.2.2.2.2.1,(L.getD n bl).2.2.2.2.2.2.2.2.1,(L.getD n bl).2.2.2.2.2.2.2.2.2.1,(L.getD n bl).2.2.2.2.2.2.2.2.2.2)) (by simp only[cw,jt,cP a,um,c,d,e,f,g,h,i])).trans ?_;refine(cF z3F).trans ?_;refine(cT (Xw a)).trans ?_;refine(JP (b:=L.set n ((gA eb (L.getD n bl).1 q).1,(gA eb (L.getD n bl).2.1 (gA eb (L.getD n bl).1 q).2).1,(gA kW (L.getD n bl).2.2.1 (gA eb (L.getD n bl).2.1 (gA eb (L.getD n bl).1 q).2).2).1,(gA kW (L.getD n bl).2.2.1 (gA eb (L.getD n bl).2.1 (gA eb (L.getD n bl).1 q).2).2).2,(gA kW (L.getD n bl).2.2.1 (gA eb (L.getD n bl).2.1 (gA eb (L.getD n bl).1 q).2).2).2+1,ak .eql (aa .rem .i64 ((gA kW (L.getD n bl).2.2.1 (gA eb (L.getD n bl).2.1 (gA eb (L.getD n bl).1 q).2).2).2+2) 3) 0,ak .eql (aa .rem .i64 ((gA kW (L.getD n bl).2.2.1 (gA eb (L.getD n bl).2.1 (gA eb (L.getD n bl).1 q).2).2).2+3) 3) 0,(L.getD n bl).2.2.2.2.2.2.2.1,(L.getD n bl).2.2.2.2.2.2.2.2.1,(L.getD n bl).2.2.2.2.2.2.2.2.2.1,(L.getD n bl).2.2.2.2.2.2.2.2.2.2)) (by simp only[cw,jt,cP a,um,c,d,e,f,g,h,i])).trans ?_;refine(cF z3F).trans ?_;refine(JP (b:=ak .eql (aa .rem .i64 ((gA kW (L.getD n bl).2.2.1 (gA eb (L.getD n bl).2.1 (gA eb (L.getD n bl).1 q).2).2).2+4) 3) 0) (by simp only[c,d,e,f])).trans ?_;refine(cT (Xw a)).trans ?_;refine(JP (b:=L.set n ((gA eb (L.getD n bl).1 q).1,(gA eb (L.getD n bl).2.1 (gA eb (L.getD n bl).1 q).2).1,(gA kW (L.getD n bl).2.2.1 (gA eb (L.getD n bl).2.1 (gA eb (L.getD n bl).1 q).2).2).1,(gA kW (L.getD n bl).2.2.1 (gA eb (L.getD n bl).2.1 (gA eb (L.getD n bl).1 q).2).2).2,(gA kW (L.getD n bl).2.2.1 (gA eb (L.getD n bl).2.1 (gA eb (L.getD n bl).1 q).2).2).2+1,ak .eql (aa .rem .i64 ((gA kW (L.getD n bl).2.2.1 (gA eb (L.getD n bl).2.1 (gA eb (L.getD n bl).1 q).2).2).2+2) 3) 0,ak .eql (aa .rem .i64 ((gA kW (L.getD n bl).2.2.1 (gA eb (L.getD n bl).2.1 (gA eb (L.getD n bl).1 q).2).2).2+3) 3) 0,ak .eql (aa .rem .i64 ((gA kW (L.getD n bl).2.2.1 (gA eb (L.getD n bl).2.1 (gA eb (L.getD n bl).1 q).2).2).2+4) 3) 0,(L.getD n bl).2.2.2.2.2.2.2.2.1,(L.getD n bl).2.2.2.2.2.2.2.2.2.1,(L.getD n bl).2.2.2.2.2.2.2.2.2.2)) (by simp only[cw,jt,cP a,um])).trans ?_;refine(cT (Xw a)).trans ?_;refine(JP (b:=L.set n ((gA eb (L.getD n bl).1 q).1,(gA eb (L.getD n bl).2.1 (gA eb (L.getD n bl).1 q).2).1,(gA kW (L.getD n bl).2.2.1 (gA eb (L.getD n bl).2.1 (gA eb (L.getD n bl).1 q).2).2).1,(gA kW (L.getD n bl).2.2.1 (gA eb (L.getD n bl).2.1 (gA eb (L.getD n bl).1 q).2).2).2,(gA kW (L.getD n bl).2.2.1 (gA eb (L.getD n bl).2.1 (gA eb (L.getD n bl).1 q).2).2).2+1,ak .eql (aa .rem .i64 ((gA kW (L.getD n bl).2.2.1 (gA eb (L.getD n bl).2.1 (gA eb (L.getD n bl).1 q).2).2).2+2) 3) 0,ak .eql (aa .rem .i64 ((gA kW (L.getD n bl).2.2.1 (gA eb (L.getD n bl).2.1 (gA eb (L.getD n bl).1 q).2).2).2+3) 3) 0,ak .eql (aa .rem .i64 ((gA kW (L.getD n bl).2.2.1 (gA eb (L.getD n bl).2.1 (gA eb (L.getD n bl).1 q).2).2).2+4) 3) 0,(gA kW (L.getD n bl).2.2.1 (gA eb (L.getD n bl).2.1 (gA eb (L.getD n bl).1 q).2).2).2+5,(L.getD n bl).2.2.2.2.2.2.2.2.2.1,(L.getD n bl).2.2.2.2.2.2.2.2.2.2)) (by simp only[cw,jt,cP a,um,c,d,e,f,g,h,i])).trans ?_;refine(JP (b:=(gA kW (L.getD n bl).2.2.1 (gA eb (L.getD n bl).2.1 (gA eb (L.getD n bl).1 q).2).2).2+6) (by simp only[c,d,e,f,g,h])).trans ?_;refine(cT (Xw a)).trans ?_;refine(JP (b:=L.set n ((gA eb (L.getD n bl).1 q).1,(gA eb (L.getD n bl).2.1 (gA eb (L.getD n bl).1 q).2).1,(gA kW (L.getD n bl).2.2.1 (gA eb (L.getD n bl).2.1 (gA eb (L.getD n bl).1 q).2).2).1,(gA kW (L.getD n bl).2.2.1 (gA eb (L.getD n bl).2.1 (gA eb (L.getD n bl).1 q).2).2).2,(gA kW (L.getD n bl).2.2.1 (gA eb (L.getD n bl).2.1 (gA eb (L.getD n bl).1 q).2).2).2+1,ak .eql (aa .rem .i64 ((gA kW (L.getD n bl).2.2.1 (gA eb (L.getD n bl).2.1 (gA eb (L.getD n bl).1 q).2).2).2+2) 3) 0,ak .eql (aa .rem .i64 ((gA kW (L.getD n bl).2.2.1 (gA eb (L.getD n bl).2.1 (gA eb (L.getD n bl).1 q).2).2).2+3) 3) 0,ak .eql (aa .rem .i64 ((gA kW (L.getD n bl).2.2.1 (gA eb (L.getD n bl).2.1 (gA eb (L.getD n bl).1 q).2).2).2+4) 3) 0,(gA kW (L.getD n bl).2.2.1 (gA eb (L.getD n bl).2.1 (gA eb (L.getD n bl).1 q).2).2).2+5,(gA kW (L.getD n bl).2.2.1 (gA eb (L.getD n bl).2.1 (gA eb (L.getD n bl).1 q).2).2).2+6,(L.getD n bl).2.2.2.2.2.2.2.2.2.2)) (by simp only[cw,jt,cP a,um])).trans ?_;refine(cT (Xw a)).trans ?_;refine(YA (r:=_) (by simp only[cw,cP a,c,d,e,f,g,h,i];exact B)).trans ?_;refine(JP (b:=L.set n ((gA eb (L.getD n bl).1 q).1,(gA eb (L.getD n bl).2.1 (gA eb (L.getD n bl).1 q).2).1,(gA kW (L.getD n bl).2.2.1 (gA eb (L.getD n bl).2.1 (gA eb (L.getD n bl).1 q).2).2).1,(gA kW (L.getD n bl).2.2.1 (gA eb (L.getD n bl).2.1 (gA eb (L.getD n bl).1 q).2).2).2,(gA kW (L.getD n bl).2.2.1 (gA eb (L.getD n bl).2.1 (gA eb (L.getD n bl).1 q).2).2).2+1,ak .eql (aa .rem .i64 ((gA kW (L.getD n bl).2.2.1 (gA eb (L.getD n bl).2.1 (gA eb (L.getD n bl).1 q).2).2).2+2) 3) 0,ak .eql (aa .rem .i64 ((gA kW (L.getD n bl).2.2.1 (gA eb (L.getD n bl).2.1 (gA eb (L.getD n bl).1 q).2).2).2+3) 3) 0,ak .eql (aa .rem .i64 ((gA kW (L.getD n bl).2.2.1 (gA eb (L.getD n bl).2.1 (gA eb (L.getD n bl).1 q).2).2).2+4) 3) 0,(gA kW (L.getD n bl).2.2.1 (gA eb (L.getD n bl).2.1 (gA eb (L.getD n bl).1 q).2).2).2+5,(gA kW (L.getD n bl).2.2.1 (gA eb (L.getD n bl).2.1 (gA eb (L.getD n bl).1 q).2).2).2+6,Pv ((gA kW (L.getD n bl).2.2.1 (gA eb (L.getD n bl).2.1 (gA eb (L.getD n bl).1 q).2).2).2+7) (L.getD n bl).2.2.2.2.2.2.2.2.2.2.length)) (by simp only[cw,jt,cP a,um])).trans ?_;simp only[eW (n:=n) (by omega)]
  .unfold Pd;simp only[bP,iO,sC,cz]
 rw[this];rfl
def adk(l:List Site)(k:Int)(x:l.length<=1073741824)(t:∀n,n<l.length->Nr 1073741824 (l.getD n bl))(s:0<=k)(I:k+(JC J0 l:Nat)<=274877906944):O6 (gA KT l k).1 k=some ((gA KT l k).2,()):=by
 unfold O6;have:O8 ((gA KT l k).1,()) (k,0,())=some (.inr (.inl ((gA KT l k).2,()))):=by
  refine V0 (cost:=J0) bl l k x s aaw (λq n c v w u=>?_) (λJ=>?_)
  .have y:n<(gA KT l k).1.length:=by rw[KH];exact c
   have a:ae ax (gA KT l k).1 (n:Int)=(KT q (l.getD n bl)).1:=by rw[cw];exact u
   obtain⟨m,o,p,r,c5⟩:=t n c;have b:2*(l.getD n bl).1.length+2*(l.getD n bl).2.1.length+JC Mp (l.getD n bl).2.2.1+7+7*(l.getD n bl).2.2.2.2.2.2.2.2.2.2.length<=JC J0 l:=Z5 J0 bl c;have F:=acS (l.getD n bl).1 q;have G:=acS (l.getD n bl).2.1 (gA eb (l.getD n bl).1 q).2;have H:=TA XP (l.getD n bl).2.2.1 (gA eb (l.getD n bl).2.1 (gA eb (l.getD n bl).1 q).2).2;have d:aa .add .i64 ((gA kW (l.getD n bl).2.2.1 (gA eb (l.getD n bl).2.1 (gA eb (l.getD n bl).1 q).2).2).2) 1=(gA kW (l.getD n bl).2.2.1 (gA eb (l.getD n bl).2.1 (gA eb (l.getD n bl).1 q).2).2).2+1:=Jv (by omega) (by omega) (by omega);have e:aa .add .i64 ((gA kW (l.getD n bl).2.2.1 (gA eb (l.getD n bl).2.1 (gA eb (l.getD n bl).1 q).2).2).2+1) 1=(gA kW (l.getD n bl).2.2.1 (gA eb (l.getD n bl).2.1 (gA eb (l.getD n bl).1 q).2).2).2+2:=Jv (by omega) (by omega) (by omega);have f:aa .add .i64 ((gA kW (l.getD n bl).2.2.1 (gA eb (l.getD n bl).2.1 (gA eb (l.getD n bl).1 q).2).2).2+2) 1=(gA kW (l.getD n bl).2.2.1 (gA eb (l.getD n bl).2.1 (gA eb (l.getD n bl).1 q).2).2).2+3:=Jv (by omega) (by omega) (by omega);have g:aa .add .i64 ((gA kW (l.getD n bl).2.2.1 (gA eb (l.getD n bl).2.1 (gA eb (l.getD n bl).1 q).2).2).2+3) 1=(gA kW (l.getD n bl).2.2.1 (gA eb (l.getD n bl).2.1 (gA eb (l.getD n bl).1 q).2).2).2+4:=Jv (by omega) (by omega) (by omega);have h:aa .add .i64 ((gA kW (l.getD n bl).2.2.1 (gA eb (l.getD n bl).2.1 (gA eb (l.getD n bl).1 q).2).2).2+4) 1=(gA kW (l.getD n bl).2.2.1 (gA eb (l.getD n bl).2.1 (gA eb (l.getD n bl).1 q).2).2).2+5:=Jv (by omega) (by omega) (by omega);have i:aa .add .i64 ((gA kW (l.getD n bl).2.2.1 (gA eb (l.getD n bl).2.1 (gA eb (l.getD n bl).1 q).2).2).2+5) 1=(gA kW (l.getD n bl).2.2.1 (gA eb (l.getD n bl).2.1 (gA eb (l.getD n bl).1 q).2).2).2+6:=Jv (by omega) (by omega) (by omega);have j:aa .add .i64 ((gA kW (l.getD n bl).2.2.1 (gA eb (l.getD n bl).2.1 (gA eb (l.getD n bl).1 q).2).2).2+6) 1=(gA kW (l.getD n bl).2.2.1 (gA eb (l.getD n bl).2.1 (gA eb (l.getD n bl).1 q).2).2).2+7:=Jv (by omega) (by omega) (by omega);have m1:=Zp (l.getD n bl).1 q m (by omega) (by omega);have m2:=Zp (l.getD n bl).2.1 (gA eb (l.getD n bl).1 q).2 o (by omega) (by omega);have z:=abB (l.getD n bl).2.2.1 (gA eb (l.getD n bl).2.1 (gA eb (l.getD n bl).1 q).2).2 p r (by omega) (by omega);have A:=YB (l.getD n bl).2.2.2.2.2.2.2.2.2.2.length ((gA kW (l.getD n bl).2.2.1 (gA eb (l.getD n bl).2.1 (gA eb (l.getD n bl).1 q).2).2).2+7) c5 (by omega) (by omega);have B:ak .lss (gA eb (l.getD n bl).1 q).2 0=false:=Jk (by omega);have C:ak .lss (gA eb (l.getD n bl).2.1 (gA eb (l.getD n bl).1 q).2).2 0=false:=Jk (by omega);have D:ak .lss ((gA kW (l.getD n bl).2.2.1 (gA eb (l.getD n bl).2.1 (gA eb (l.getD n bl).1 q).2).2).2) 0=false:=Jk (by omega);have E:ak .lss ((gA kW (l.getD n bl).2.2.1 (gA eb (l.getD n bl).2.1 (gA eb (l.getD n bl).1 q).2).2).2+7+7*((l.getD n bl).2.2.2.2.2.2.2.2.2.2.length:Int)) 0=false:=Jk (by omega);unfold O7;simp only[bP,dX,y,xC,aJ,eW (n:=n) (by omega),a,KT,k3,d,e,f,g,h,i,j,F0,cz,z3F,Om,l7,jE,m1,m2,z,A,B,C,D,E,vP]
  .unfold O7;have:=KH KT l k;simp only[<-this,bP,iO,sC,cz]
 rw[this];rfl
def KZ(s:List Site)(p:List NE)(g:List Ou)(j:List Ev):Nat:=JC J0 s+13*p.length+7*g.length+7*j.length
def nmS(k:Int)(s:List Site):List Site×Int:=gA KT s k
def nmP(k:Int)(s:List Site)(p:List NE):List NE×Int:=gA P5 p (nmS k s).2
def nmG(k:Int)(s:List Site)(p:List NE)(g:List Ou):List Ou×Int:=gA P4 g (nmP k s p).2
def nmE(k:Int)(s:List Site)(p:List NE)(g:List Ou)(j:List Ev):Int:=(nmG k s p g).2+7*(j.length:Int)
section
variable (a0 a1 a2 a3 a4 a5 a6 a7 a8 a9 a10:Int)(s:List Site)(p:List NE)(g:List Ou)(j:List Ev)(k:Int)
def adF:(k<=(nmS k s).2/\(nmS k s).2<=k+(JC J0 s:Nat))/\((nmS k s).2<=(nmP k s p).2/\(nmP k s p).2<=(nmS k s).2+(13*p.length:Nat))/\((nmP k s p).2<=(nmG k s p g).2/\(nmG k s p g).2<=(nmP k s p).2+(7*g.length:Nat)):=by have c:=TA aaw s k;have a:=TA abP p (nmS k s).2;have b:=TA abO g (nmP k s p).2;rw[JO]at a b;exact⟨c,a,b⟩
def XO(h:Pw s p g j)(a:0<=k)(b:k+(KZ s p g j:Nat)<=137438953472):
  K8 a0 a1 a2 a3 a4 a5 a6 a7 a8 a9 a10 s p g j k=some (nmE k s p g j,(nmS k s).1,(nmP k s p).1,(nmG k s p g).1,Pv (nmG k s p g).2 j.length,()):=by
 have f:=h.ls;have i:=h.lp;have l:=h.lg;have m:=h.lj;obtain⟨c,d,e⟩:=adF s p g k;unfold KZ at b;unfold K8;rw[adz s k (by omega) h.ss a (by omega)];simp only[vP];rw[show(gA KT s k).2=(nmS k s).2 from rfl,abM p (nmS k s).2 (by omega) (by omega) (by omega)];simp only[vP];rw[show(gA P5 p (nmS k s).2).2=(nmP k s p).2 from rfl,ack g (nmP k s p).2 (by omega) (by omega) (by omega)];simp only[vP];rw[show(gA P4 g (nmP k s p).2).2=(nmG k s p g).2 from rfl,YJ j (nmG k s p g).2 (by omega) (by omega) (by omega)];rfl
def abC(h:Pw s p g j)(b:0<=k)(c:k+(KZ s p g j:Nat)<=137438953472):
  MD a0 a1 a2 a3 a4 a5 a6 a7 a8 a9 a10 (nmS k s).1 (nmP k s p).1 (nmG k s p g).1 (Pv (nmG k s p g).2 j.length) k=some (nmE k s p g j,()):=by
 have i:=h.ls;have l:=h.lp;have m:=h.lg;have n:=h.lj;obtain⟨d,e,f⟩:=adF s p g k;unfold KZ at c;unfold MD;rw[show(nmS k s).1=(gA KT s k).1 from rfl,adk s k (by omega) h.ss b (by omega)];simp only[vP];rw[show(gA KT s k).2=(nmS k s).2 from rfl,Jk (a:=(nmS k s).2) (by omega),show(nmP k s p).1=(gA P5 p (nmS k s).2).1 from rfl,abD p (nmS k s).2 (by omega) (by omega) (by omega)];simp only[vP,cz];rw[show(gA P5 p (nmS k s).2).2=(nmP k s p).2 from rfl,Jk (a:=(nmP k s p).2) (by omega),show(nmG k s p g).1=(gA P4 g (nmP k s p).2).1 from rfl,acj g (nmP k s p).2 (by omega) (by omega) (by omega)];simp only[vP,cz];rw[show(gA P4 g (nmP k s p).2).2=(nmG k s p g).2 from rfl,Jk (a:=(nmG k s p g).2) (by omega),YB j.length (nmG k s p g).2 (by omega) (by omega) (by omega)];simp only[vP,cz];rw[Jk (a:=(nmG k s p g).2+7*(j.length:Int)) (by omega)];rfl
def abQ(d:0<=k):0<=nmE k s p g j:=by obtain⟨a,b,c⟩:=adF s p g k;unfold nmE;omega
end
abbrev Wk:=List Na×List Na
def aeK {α:Type} {body:Int×Int×Unit->Option ((Int×Int×Unit)⊕(Int×Unit⊕(Int×Unit⊕Empty)))} (z:α) (d:α->Nat) (l:List α) (B:l.length<=1073741824)
  (h:∀(n:Nat) (a:Int),n<l.length->0<=a->a<=1048576->body (a,(n:Int),())=some (.inr (.inl (-1,())))\/∃b,body (a,(n:Int),())=some (.inl (b,((n+1:Nat):Int),()))/\0<=b/\b+(d (l.getD n z):Nat)<=a)
  (f:∀a,body (a,(l.length:Int),())=some (.inr (.inr (.inl (a,()))))) (a:Int) (s:0<=a) (j:a<=1048576):
  ∃y,iter body big (a,0,())=some y/\(y=.inl (-1,())\/∃b,y=.inr (.inl (b,()))/\0<=b/\b+(JC d l:Nat)<=a):=by
 have m:∀(k n:Nat) (a:Int),n+k=l.length->0<=a->a<=1048576->∃y,iter body (k+1) (a,(n:Int),())=some y/\(y=.inl (-1,())\/∃b,y=.inr (.inl (b,()))/\0<=b/\b+(JC d (l.drop n):Nat)<=a):=by
  intro k;induction k with
  |zero=>
   intro n a t i g;have:n=l.length:=by omega
   subst this;refine⟨_,cJ (f a),.inr ⟨a,rfl,i,?_⟩⟩;rw[abh];show a+(0:Int)<=a;omega
  |succ k u=>
   intro n a t i g;have e:n<l.length:=by omega
   rcases h n a e i g with h|⟨b,h,o,x⟩
   .exact⟨_,cJ h,.inl rfl⟩
   .obtain⟨y,v,w⟩:=u (n+1) b (by omega) o (by omega);refine⟨y,by rw[fz h];exact v,w.imp id λ⟨c,p,q,A⟩=>⟨c,p,q,?_⟩⟩;have hd:l.drop n=l.getD n z::l.drop (n+1):=by rw[ac8 e,uo,cL e];rfl
    rw[hd];simp only[JC];omega
 obtain⟨y,g,r⟩:=m l.length 0 a (by omega) s j;exact⟨y,gP g (i7 (by omega)),r⟩
def ahN(c:LM):Nat:=c.2.1.length+c.2.2.length
def abl(l:List LM):Nat:=l.length+JC ahN l
def adR(f:Int)(c:List Int)(d:List Bx)(a:Int)(g:c.length<=9223372036854775807)(h:d.length<=9223372036854775807)(i:0<=a)(e:a<=1048576):
  ∃b,KS f c d a=some (b,())/\(b = -1\/(0<=b/\b+(c.length+d.length:Nat)<=a)):=by
 unfold KS;rw[acV c a g i e];simp only[vP];cases hd:decide (a<(c.length:Int))with
 |true=>exact⟨-1,rfl,.inl rfl⟩
 |false=>
  have hd:=zc hd;simp only[cz];rw[Jk (by omega)];simp only[cz];rw[acU d _ h (by omega) (by omega)];simp only[vP];cases Ba:decide (a-(c.length:Int)<(d.length:Int))with
  |true=>exact⟨-1,rfl,.inl rfl⟩
  |false=>have Ba:=zc Ba;simp only[cz];rw[Jk (by omega)];exact⟨_,rfl,.inr ⟨by omega,by omega⟩⟩
def acn(l:List LM)(a:Int)(w:l.length<=9223372036854775807)(r:∀c∈l,VX 9223372036854775807 c)(v:0<=a)(q:a<=1048576):
  ∃b,K9 l a=some (b,())/\(b = -1\/(0<=b/\b+(abl l:Nat)<=a)):=by
 unfold K9;have f:aa .sub .i64 a (bw l)=a-(l.length:Int):=vm (by unfold bw;omega) (by unfold bw;omega);have p:ak .lss (a-(l.length:Int)) 0=decide (a<(l.length:Int)):=by simp only[ak,xN];omega
 rw[f,p];cases hd:decide (a<(l.length:Int))with
 |true=>exact⟨-1,rfl,.inl rfl⟩
 |false=>
  have hd:=zc hd;have d:l.length<=1073741824:=by omega
  obtain⟨y,s,t⟩:=aeK (body:=Ju (l,())) br ahN l d (λn a h o f=>by
   obtain⟨i,j⟩:=r _ (JY h br);obtain⟨b,k,m⟩:=adR (l.getD n br).1 (l.getD n br).2.1 (l.getD n br).2.2 a i j o f;unfold Ju;simp only[bP,dX,h,xC,aJ,cw,jE,eW (n:=n) (show n<1099511627776 by omega),k,vP];rcases m with rfl|⟨g,e⟩
   .exact .inl rfl
   .rw[Jk g];exact .inr ⟨b,rfl,g,e⟩) (λa=>by
   unfold Ju;simp only[bP,iO,sC,cz]) (a-(l.length:Int)) (by omega) (by omega)
  simp only[cz];unfold LX;rw[s];rcases t with rfl|⟨b,rfl,e,u⟩
  .exact⟨-1,rfl,.inl rfl⟩
  .exact⟨b,rfl,.inr ⟨e,by unfold abl;omega⟩⟩
def aiT(l:List LM):Prop:=l.length<=1073741824/\∀m,m<l.length->VX 1073741824 (l.getD m JG)
def acw(l:List Na)(b:l.length<=1073741824):F1 l=some (l,()):=by
 unfold F1;have a:dF (List.append (α:=Na) ([]:List Na) l)=true:=qe b;rw[a];cases l with
 |nil=>exact CZ _
 |cons x l=>rw[show ak .gtr (bw (x::l)) (0:Int)=true from gt0 l.length];rfl
def agx(l:List Bx)(b:l.length<=1073741824):Jj l=some (l,()):=by
 unfold Jj;have a:dF (List.append (α:=Bx) ([]:List Bx) l)=true:=qe b;rw[a];cases l with
 |nil=>exact CZ _
 |cons x l=>rw[show ak .gtr (bw (x::l)) (0:Int)=true from gt0 l.length];rfl
def ad8(o c:List Na)(b:o.length<=1073741824)(a:c.length<=1073741824):QL o c=some (o,c,()):=by unfold QL;rw[acw o b,acw c a];rfl
def afu(o c:List Na)(b:o.length<=1073741824)(a:c.length<=1073741824):S3 o c=some (o,c,()):=by unfold S3;rw[show dF (List.append (α:=Na) ([]:List Na) o)=true from qe b,show dF (List.append (α:=Na) ([]:List Na) c)=true from qe a];rfl
def Vy(h:Int)(f:List Int)(b:List Bx)(c:f.length<=1073741824)(a:b.length<=1073741824):KF h f b=some (h,f,b,()):=by unfold KF;rw[ahK f c,agx b a];rfl
def abJ(h:Int)(f:List Int)(b:List Bx)(c:f.length<=1073741824)(a:b.length<=1073741824):PS h f b=some (h,f,b,()):=by unfold PS;rw[show dF (List.append (α:=Int) ([]:List Int) f)=true from qe c,show dF (List.append (α:=Bx) ([]:List Bx) b)=true from qe a];rfl
def Xq(l:List LM)(h:aiT l):LI l=some (l,()):=by
 obtain⟨f,d⟩:=h;unfold LI;have:My (l,bw l,()) ([],0,())=some (.inl (l,())):=by
  have:=lc (body:=Mx (l,bw l,())) (λn=>(l.take n,(n:Int),())) l.length (by omega) (.inl (l,())) (λn a=>?_) ?_
  .unfold My;simpa using this
  .obtain⟨b,c⟩:=d n a;have e:dF (List.append (α:=LM) (l.take n) (List.append (α:=LM) [] [((l.getD n JG).1,(l.getD n JG).2.1,(l.getD n JG).2.2)]))=true:=qe (by show(l.take n++([]++[_])).length<=_;rw[jv,jS];show _+1<=_;omega);unfold Mx;simp only[bP,dX,a,xC,aJ,cw,eW (n:=n) (show n<1099511627776 by omega)];rw[show br=JG from rfl,Vy _ _ _ b c];simp only[vP];rw[e,Ld a JG];rfl
  .unfold Mx;simp only[bP,iO,sC,cz,eL]
 rw[this];rfl
def TP(l:List LM)(h:aiT l):Km l=some (l,()):=by
 obtain⟨f,d⟩:=h;unfold Km;have:K1 (l,()) ([],0,())=some (.inl (l,())):=by
  have:=lc (body:=K0 (l,())) (λn=>(l.take n,(n:Int),())) l.length (by omega) (.inl (l,())) (λn a=>?_) ?_
  .unfold K1;simpa using this
  .obtain⟨b,c⟩:=d n a;have e:dF (List.append (α:=LM) (l.take n) (List.append (α:=LM) [] [((l.getD n JG).1,(l.getD n JG).2.1,(l.getD n JG).2.2)]))=true:=qe (by show(l.take n++([]++[_])).length<=_;rw[jv,jS];show _+1<=_;omega);unfold K0;simp only[bP,dX,a,xC,aJ,cw,eW (n:=n) (show n<1099511627776 by omega)];rw[show br=JG from rfl,abJ _ _ _ b c];simp only[vP];rw[e,Ld a JG];rfl
  .unfold K0;simp only[bP,iO,sC,cz,eL]
 rw[this];rfl
def abo:∀l:List LM,JC Mp l<=4*abl l
 |[]=>kR _
 |c::l=>by have:=abo l;unfold abl at this⊢;simp only[JC,Mp,ahN,gB]at this⊢;omega
def Ns(a:YaK)(b:YbY):YcG:=letI c:=a.2.2.2.2.2.2.2.2.2.2.2.1;cond (ak .lss b.2.1 (bw c)) (cond (aZ c b.2.1) ((Kv b.1 (ae ax c b.2.1).2.2.2.2.2.2.2.2.2.2).bind λd=>cond (Bool.not d.2.1) (some (.inr (.inl (([]:Js),false,())))) (some (.inl (d.1,aa .add .i64 b.2.1 1,())))) none) (some (.inr (.inr (.inl (b.1,())))))
def K2 k x:=iter (Ns k) big x
def M4(a b c d e f g h i j k:Int)(l:KB)(m:Kj)(n:JI)(o:Js):YcF:=cond (dF (List.append (α:=J4) ([]:Js) o)) ((K2 (a,b,c,d,e,f,g,h,i,j,k,l,m,n,o,()) (List.append (α:=J4) ([]:Js) o,0,())).bind λp=>Sum.elim (λq=>some (q.1,q.2.1,())) (λq=>Sum.elim (λr=>some (r.1,true,())) (λr=>Empty.elim r) q) p) none
def TL(a:YeD)(b:YbY):YcG:=cond (ak .lss b.2.1 a.2.1) (cond (aZ a.1 b.2.1) ((Kp b.1 (ae ax a.1 b.2.1).2.2.2.2.2.2.2.2.2.2).bind λc=>cond (Bool.not c.2.1) (some (.inr (.inl (([]:Js),false,())))) (some (.inl (c.1,aa .add .i64 b.2.1 1,())))) none) (some (.inr (.inr (.inl (b.1,())))))
def OV k x:=iter (TL k) big x
def Kh(a b c d e f g h i j k:Int)(l:KB)(m:Kj)(n:JI)(o:Js):YcF:=(js o).bind λp=>(OV (l,bw l,()) (p.1,0,())).bind λq=>Sum.elim (λr=>some (r.1,r.2.1,())) (λr=>Sum.elim (λs=>some (s.1,true,())) (λs=>Empty.elim s) r) q
def aaA(x:Site):Nat:=x.1.length+x.2.1.length+abl x.2.2.1+x.2.2.2.2.2.2.2.2.2.2.length
def afM(x:Site)(a:Int)(h:abY x)(g:0<=a)(c:a<=1048576):
  ∃b,Oj x.1 x.2.1 x.2.2.1 x.2.2.2.1 x.2.2.2.2.1 x.2.2.2.2.2.1 x.2.2.2.2.2.2.1 x.2.2.2.2.2.2.2.1 x.2.2.2.2.2.2.2.2.1 x.2.2.2.2.2.2.2.2.2.1 x.2.2.2.2.2.2.2.2.2.2 a=some (b,())/\(b = -1\/(0<=b/\b+(aaA x:Nat)<=a)):=by
 unfold Oj;rw[acW _ _ a h.o h.c g c];simp only[vP];cases hd:decide (a<(x.1.length:Int)+(x.2.1.length:Int))with
 |true=>exact⟨-1,rfl,.inl rfl⟩
 |false=>
  have hd:=zc hd;simp only[cz];rw[Jk (by omega)];simp only[cz];obtain⟨b,e,f⟩:=acn x.2.2.1 (a-(x.1.length:Int)-(x.2.1.length:Int)) h.b h.bs (by omega) (by omega);rw[e];simp only[vP];rcases f with rfl|⟨d,i⟩
  .exact⟨-1,rfl,.inl rfl⟩
  .rw[Jk d];simp only[cz];rw[ab1 _ b h.j d (by omega)];simp only[vP];cases Ba:decide (b<(x.2.2.2.2.2.2.2.2.2.2.length:Int))with
   |true=>exact⟨-1,rfl,.inl rfl⟩
   |false=>have Ba:=zc Ba;simp only[cz];rw[Jk (by omega)];exact⟨_,rfl,.inr ⟨by omega,by unfold aaA;omega⟩⟩
def aeR(l:List Site)(a:Int)(z:l.length<=9223372036854775807)(t:∀c∈l,abY c)(x:0<=a)(r:a<=1048576):
  ∃b,KM l a=some (b,())/\(b = -1\/(0<=b/\b+(l.length+JC aaA l:Nat)<=a)):=by
 unfold KM;have f:aa .sub .i64 a (bw l)=a-(l.length:Int):=vm (by unfold bw;omega) (by unfold bw;omega);have p:ak .lss (a-(l.length:Int)) 0=decide (a<(l.length:Int)):=by simp only[ak,xN];omega
 rw[f,p];cases hd:decide (a<(l.length:Int))with
 |true=>exact⟨-1,rfl,.inl rfl⟩
 |false=>
  have hd:=zc hd;have d:l.length<=1073741824:=by omega
  obtain⟨y,u,v⟩:=aeK (body:=JB (l,())) bl aaA l d (λn a i o f=>by
   obtain⟨b,k,m⟩:=afM (l.getD n bl) a (t _ (JY i bl)) o f;have s:JB (l,()) (a,(n:Int),())=(bif ak .lss b 0 then some (.inr (.inl (-1,())))else some (.inl (b,((n+1:Nat):Int),()))):=by unfold JB;simp only[bP,dX,i,xC,aJ,cw,jE,eW (n:=n) (show n<1099511627776 by omega)];have g:=fK (λq=>q.bind λ(j:Int×Unit)=>(bif (ak .lss j.1 (0:Int))then some (.inr (.inl ((-1:Int),())))else some (.inl (j.1,((n+1:Nat):Int),())):Option ((Int×Int×Unit)⊕(Int×Unit⊕(Int×Unit⊕Empty))))) k;exact g
   rw[s];rcases m with rfl|⟨h,e⟩
   .exact .inl rfl
   .rw[Jk h];exact .inr ⟨b,rfl,h,e⟩) (λa=>by
   unfold JB;simp only[bP,iO,sC,cz]) (a-(l.length:Int)) (by omega) (by omega)
  simp only[cz];unfold NK;rw[u];rcases v with rfl|⟨b,rfl,e,w⟩
  .exact⟨-1,rfl,.inl rfl⟩
  .exact⟨b,rfl,.inr ⟨e,by omega⟩⟩
def aaR:∀l:List Site,JC J0 l<=7*(l.length+JC aaA l)
 |[]=>kR _
 |x::l=>by have a:=aaR l;have b:=abo x.2.2.1;simp only[JC,J0,aaA,gB];omega
section
variable (a0 a1 a2 a3 a4 a5 a6 a7 a8 a9 a10:Int)(s:List Site)(p:List NE)(g:List Ou)(j:List Ev)
def ajG(a b:Int)(h:ain s p g j)(k:0<=a)(d:a<=1048576)(e:La a0 a1 a2 a3 a4 a5 a6 a7 a8 a9 a10 s p g j a=some (b,()))(o:0<=b)(c:Pw s p g j):KZ s p g j<=68719476736:=by
 have q:JC J0 s<=7340032:=by
  obtain⟨y,f,i⟩:=aeR s a h.ls h.ss k d;unfold La at e;rw[f]at e;rcases i with rfl|⟨r,t⟩
  .have:some ((-1:Int),())=some (b,()):=e;injection this with this
   injection this with this
   omega
  .have:=aaR s;omega
 have l:=c.lp;have m:=c.lg;have n:=c.lj;unfold KZ;omega
end
def JM(a:YdB)(b:Nt):Option (Nt⊕Nt⊕Empty):=letI c:=b.2.1;cond (ak .gtr b.1 0) (cond (ak .lss c 20000) ((MW a.1 a.2.1 c).bind λd=>letI e:=aa .add .i64 c 1;cond d.1 (some (.inl (aa .sub .i64 b.1 1,e,()))) (some (.inl (b.1,e,())))) (some (.inr (.inl (b.1,c,()))))) (some (.inr (.inl (b.1,c,()))))
def L1 k x:=iter (JM k) big x
def J2(a b:NX)(c d:Int):YcW:=(KP a b).bind λe=>letI f:=some ((0:Int),false,());cond (Bool.not e.1) f ((bS c 0 20000).bind λg=>cond (Bool.not g.1) f ((L1 (a,b,()) (d,c,())).bind λh=>Sum.elim (λi=>cond (ak .neq i.1 0) f (some (i.2.1,true,()))) (λi=>Empty.elim i) h))
def KG(a b:NX)(c d e f g h i j k l:Int):YcW:=(MV c d e f g h i j).bind λm=>letI n:=some ((0:Int),false,());cond (Bool.not m.1) n ((bS l 0 j).bind λo=>cond (Bool.not o.1) n ((J2 a b k (aa .add .i64 c (aa .mul .i64 h l))).bind λp=>some (p.1,p.2.1,())))
def PL(a b:NX)(c d e f g h i j k l m:Int):J8:=(KG a b c d e f g h i j k m).bind λn=>cond n.2.1 ((bS l (aa .add .i64 n.1 1) 20000).bind λo=>some (o.1,())) (some (false,()))
def Oo(a b:NX)(c:Int):J8:=(KP a b).bind λd=>letI e:=some (false,());cond d.1 ((bS c 0 19999).bind λf=>cond f.1 ((MW a b c).bind λg=>some (g.1,())) e) e
def Jt(a:YdB)(b:Nt):Option (Nt⊕Int×YaV⊕YcJ):=letI c:=b.2.1;letI d:=aa .add .i64 c 1;cond (ak .leq c 20000) (cond (ak .eql b.1 0) (some (.inr (.inl (c,true,())))) (cond (ak .lss c 20000) ((Oh a.1 a.2.1 c).bind λe=>cond e.1 (some (.inl (aa .sub .i64 b.1 1,d,()))) (some (.inl (b.1,d,())))) (some (.inl (b.1,d,()))))) (some (.inr (.inr (.inl ()))))
def OD k x:=iter (Jt k) big x
def K5(a b:NX)(c d:Int):YcW:=letI e:=some ((0:Int),false,());cond (ak .lss d 0) e ((Kg a b).bind λf=>cond (Bool.not f.1) e ((I9 c).bind λg=>cond (Bool.not g.1) e ((OD (a,b,()) (d,c,())).bind λh=>Sum.elim (λi=>some (i.1,i.2.1,())) (λi=>Sum.elim (λ_=>e) (λj=>Empty.elim j) i) h)))
def KE(a b:NX)(c d e f g h i j k l:Int):YcW:=(Kg a b).bind λm=>letI n:=some ((0:Int),false,());cond (Bool.not m.1) n ((Mt c d e f g h i j).bind λo=>cond (Bool.not o.1) n ((I9 k).bind λp=>cond (Bool.not p.1) n ((ct l 0 j).bind λq=>cond (Bool.not q.1) n ((K5 a b k (aa .add .i64 c (aa .mul .i64 h l))).bind λr=>some (r.1,r.2.1,())))))
def OQ(a b:NX)(c d e f g h i j k l m:Int):J8:=(KE a b c d e f g h i j k m).bind λn=>letI o:=some (false,());cond n.2.1 ((I9 l).bind λp=>cond p.1 (some (ak .gtr l n.1,())) o) o
def U2(a b:NX)(c:Int):J8:=(Kg a b).bind λd=>letI e:=some (false,());cond d.1 ((ct c 0 19999).bind λf=>cond f.1 ((Oh a b c).bind λg=>some (g.1,())) e) e
def Z0(o c:List Na)(i:o.length<=20)(h:c.length<=20):∀(k:Nat) (n t:Int),t+(k:Int)=20000->0<=t->0<=n->n<=1125899906842624 ->
  ∃f e y,iter (JM (o,c,())) (k+1) (n,t,())=some (.inl (f,e,()))/\iter (Jt (o,c,())) (k+2) (n,t,())=some y/\((f=0/\t<=e/\e<=20000/\y=.inl (e,true,()))\/(f≠0/\y=.inr (.inl ())))
 |k,n,t,x,u,A,v=>by
  have j:ak .leq t (20000:Int)=true:=by simp only[ak,qF];omega
  by_cases m:n=0
  .subst m;refine⟨0,t,.inl (t,true,()),cJ ?_,cJ ?_,.inl ⟨rfl,uq _,by omega,rfl⟩⟩
   .unfold JM;rfl
   .unfold Jt;refine(cT j).trans ?_;rfl
  .have g:ak .gtr n (0:Int)=true:=by simp only[ak,gt_iff_lt,qF];omega
   have z:ak .eql n (0:Int)=false:=by simp only[ak,xS,beq_eq_false_iff_ne,ne_eq];exact m
   cases k with
   |zero=>
    have:t=20000:=by omega
    subst this;refine⟨n,20000,.inr (.inl ()),cJ ?_,?_,.inr ⟨m,rfl⟩⟩
    .unfold JM;refine(cT g).trans ?_;rfl
    .have w:Jt (o,c,()) (n,20000,())=some (.inl (n,20001,())):=by
      unfold Jt;refine(cT j).trans ((cF z).trans ?_);rfl
     rw[fz w];exact cJ (by unfold Jt;rfl)
   |succ k=>
    have l:ak .lss t (20000:Int)=true:=by simp only[ak,qF];omega
    have a:aa .add .i64 t 1=t+1:=RC u (by omega);have b:aa .sub .i64 n 1=n-1:=vm (by omega) (by omega);cases d:TZ o c t with
    |true=>
     obtain⟨f,e,y,p,r,s⟩:=Z0 o c i h k (n-1) (t+1) (by omega) (by omega) (by omega) (by omega);refine⟨f,e,y,?_,?_,s.imp (λq=>⟨q.1,by omega,q.2.2⟩) id⟩
     .rw[fz (by unfold JM;simp only[g,l,aJ,Vq t i h,d,vP,a,b];rfl)];exact p
     .rw[fz (by unfold Jt;simp only[j,z,l,aJ,cz,U0 t i h,d,vP,a,b];rfl)];exact r
    |false=>
     obtain⟨f,e,y,p,r,s⟩:=Z0 o c i h k n (t+1) (by omega) (by omega) (by omega) (by omega);refine⟨f,e,y,?_,?_,s.imp (λq=>⟨q.1,by omega,q.2.2⟩) id⟩
     .rw[fz (by unfold JM;simp only[g,l,aJ,Vq t i h,d,vP,a,b];rfl)];exact p
     .rw[fz (by unfold Jt;simp only[j,z,l,aJ,cz,U0 t i h,d,vP,a,b];rfl)];exact r
def XT{o c:List Na}(t n:Int)(h:KD o c=false):J2 o c t n=some (0,false,()):=by unfold J2;simp only[Mi,h,vP];rfl
def XS{o c:List Na}(t n:Int)(h:Jc t 0 20000=false):J2 o c t n=some (0,false,()):=by unfold J2;simp only[Mi,qB,h,vP];cases KD o c <;> rfl
def ahw(o c:List Na)(t n:Int)(q:n<=1125899906842624):Sm (λr=>r.2.1=true->0<=t/\t<=r.1/\r.1<=20000) (J2 o c t n) (K5 o c t n):=by
 cases b:KD o c with
 |false=>rw[XT t n b];unfold K5;simp only[Li,b,vP];cases ak .lss n 0 <;> exact .ret λh=>by cases h
 |true=>
  cases d:Jc t 0 20000 with
  |false=>rw[XS t n d];unfold K5;simp only[Li,b,Le,d,vP];cases ak .lss n 0 <;> exact .ret λh=>by cases h
  |true=>
   obtain⟨e,B⟩:=kx.1 d;obtain⟨s,p⟩:=Uo b;unfold J2 K5;simp only[Mi,Li,qB,Le,b,d,vP,l7,cz];cases f:ak .lss n 0 with
   |true=>
    have g:n<0:=by simpa[ak] using f
    have:L1 (o,c,()) (n,t,())=some (.inl (n,t,())):=by refine gP (n:=1) (cJ ?_) (ed (i7 (by omega)));unfold JM;exact cF (by simp only[ak,gt_iff_lt,xS];omega)
    rw[this];have z:ak .neq n (0:Int)=true:=by simp only[ak,bne_iff_ne,ne_eq];omega
    simp only[vP,zd,z,aJ];exact .ret λh=>by cases h
   |false=>
    have a:0<=n:=by
     have:¬n<0:=by simpa[ak] using f
     omega
    obtain⟨i,A,y,v,w,x⟩:=Z0 o c s p (20000-t).toNat n t (by omega) e a q;have l:L1 (o,c,()) (n,t,())=some (.inl (i,A,())):=gP v (ed (i7 (by omega)));have m:OD (o,c,()) (n,t,())=some y:=gP w (ed (i7 (by omega)));rw[l,m];rcases x with ⟨rfl,j,k,rfl⟩|⟨u,rfl⟩
    .exact .ret λ_=>⟨e,j,k⟩
    .have z:ak .neq i (0:Int)=true:=by simp only[ak,bne_iff_ne,ne_eq];exact u
     simp only[cz,vP,zd,xL,z,aJ];exact .ret λh=>by cases h
def afO{a d e f g b i c:Int}(h:L6 a d e f g b i c=true):(1<=a/\a<=2000)/\(1<=b/\b<=2000)/\c<=20:=by unfold L6 at h;simp only[ade,kx]at h;exact⟨h.1,h.2.2.1,h.2.2.2.2.2.2.2.2⟩
def Xr(o c:List Na)(a0 a1 a2 a3 a4 a5 a6 a7 t x:Int):Sm (λr=>r.2.1=true->0<=t/\t<=r.1/\r.1<=20000) (KG o c a0 a1 a2 a3 a4 a5 a6 a7 t x) (KE o c a0 a1 a2 a3 a4 a5 a6 a7 t x):=by
 unfold KG KE;simp only[Wr,Wc,Li,qB,bu,Le,vP];cases d:L6 a0 a1 a2 a3 a4 a5 a6 a7 with
 |false=>cases KD o c <;> exact .ret λh=>by cases h
 |true=>
  cases k:Jc x 0 a7 with
  |false=>cases KD o c <;> cases Jc t 0 20000 <;> exact .ret λh=>by cases h
  |true=>
   cases j:KD o c with
   |false=>rw[XT _ _ j];exact .ret λh=>by cases h
   |true=>
    cases i:Jc t 0 20000 with
    |false=>rw[XS _ _ i];exact .ret λh=>by cases h
    |true=>obtain⟨⟨m,n⟩,⟨p,l⟩,m2⟩:=afO d;obtain⟨x1,x2⟩:=kx.1 k;have e:0<=a5*x:=Int.mul_nonneg (by omega) x1;have f:a5*x<=2000*20:=Int.mul_le_mul l (by omega) x1 (by omega);have a:aa .mul .i64 a5 x=a5*x:=Fh (by omega) (by omega);have b:aa .add .i64 a0 (a5*x)=a0+a5*x:=sO (by omega) (by omega);simp only[l7,cz,a,b];exact(ahw o c t (a0+a5*x) (by omega)).bind λr g=>.ret g
def abR(o c:List Na)(a0 a1 a2 a3 a4 a5 a6 a7 t now x:Int):Sm Any (PL o c a0 a1 a2 a3 a4 a5 a6 a7 t now x) (OQ o c a0 a1 a2 a3 a4 a5 a6 a7 t now x):=by
 unfold PL OQ;refine(Xr o c a0 a1 a2 a3 a4 a5 a6 a7 t x).bind λr f=>?_;cases b:r.2.1 with
 |false=>exact .ret trivial
 |true=>
  obtain⟨g,h,i⟩:=f b;have e:aa .add .i64 r.1 1=r.1+1:=RC (by omega) (by omega);simp only[aJ,qB,Le,vP,e];cases a:Jc now 0 20000 with
  |true=>
   obtain⟨j,k⟩:=kx.1 a;refine⟨(ak .gtr now r.1,()),?_,rfl,trivial⟩;have:Jc now (r.1+1) 20000=ak .gtr now r.1:=by rw[xT,kx];simp only[ak,gt_iff_lt,qF];omega
   rw[this]
  |false=>
   refine⟨(false,()),?_,rfl,trivial⟩;have:Jc now (r.1+1) 20000=false:=by
    cases d:Jc now (r.1+1) 20000 with
    |false=>rfl
    |true=>have:=kx.1 d;have:Jc now 0 20000=true:=kx.2 ⟨by omega,by omega⟩;rw[this]at a;cases a
   rw[this]
def afr(o c:List Na)(x:Int):Bool:=bif KD o c then bif Jc x 0 19999 then TZ o c x else false else false
def Kl(o c:List Na)(x:Int):Oo o c x=some (afr o c x,()):=by
 unfold Oo afr;simp only[Mi,qB,vP];cases d:KD o c with
 |false=>rfl
 |true=>obtain⟨b,a⟩:=Uo d;simp only[Vq x b a,vP,aJ];cases Jc x 0 19999 <;> rfl
def Kk(o c:List Na)(x:Int):U2 o c x=some (afr o c x,()):=by
 unfold U2 afr;simp only[Li,bu,vP];cases d:KD o c with
 |false=>rfl
 |true=>obtain⟨b,a⟩:=Uo d;simp only[U0 x b a,vP,aJ];cases Jc x 0 19999 <;> rfl
def akj{α:Type}(l m:List α):List.append l m=l++m:=rfl
end Go.Fn
namespace Go.R
open Go.Shelf Go.Proofs
def abG(n:Int):Bool:=decide (-9223372036854775808<=n)&&decide (n<=9223372036854775807)
def acG{n:Int}:abG n=true ↔ -9223372036854775808<=n/\n<=9223372036854775807:=by
 grind[abG]
def adH:Array Value:=(Lib.pow10Tab.map λz=>Value.int .u64 z).toArray
def aho:hJ:=⟨true,[.one (.val (.int .i64))],[.one (.val .str)],λx=>bif abG x.1 then some (ByteArray.mk (Lib.itoa x.1).toArray,())else none⟩
def ajp {P:Program} {q:Ren} (L:LaysM.n171 P q) {g:Nat} (v:P.globalNamed "internal/strconv.uint64pow10" = some g) (t:(g, adH) ∈ Fp):ec P (q.f 171) aho:=by
 refine⟨⟨_,_,L.f171,rfl,rfl⟩,?_⟩;intro w C B x y i j h c a;obtain⟨n,E⟩:=x;have a:(bif abG n then some (ByteArray.mk (Lib.itoa n).toArray,())else none)=some y:=a;cases f:abG n with
 |false=>rw[f]at a;cases a
 |true=>
  rw[f]at a;injection a with a
  subst a;have f:=acG.1 f;match B,c with
  |[u],c=>
  obtain⟨_,⟨F,d,p⟩,_⟩:=c;injection d with d _
  subst d;have p:u=.int .i64 n:=p;subst p;obtain⟨_,_,T,m,s⟩:=i _ t;have l:Lib.TabIs P w "internal/strconv.uint64pow10" .u64 Lib.pow10Tab:=by unfold Lib.TabIs World.var?;rw[v];show(match w.heap[g]? with|some (.cells r _ _)=>some r|_=>none)=_;rw[s];rfl
  refine(Any.strconv_Itoa L n f.1 f.2 w l).mono ?_;rintro D G ⟨rfl,k,A,rfl⟩;have e:=Lib.below_grow w.heap.size w (az _) k A;exact⟨_,C,rfl,⟨e.os,e.tape,⟨e.output,fm _ _⟩,e.size,λb o _=>⟨e.block b o,rfl⟩⟩,j,λb k z=>c6 (h b k z) e.size,⟨rfl,⟨_,rfl,rfl⟩⟩,⟨λ_=>trivial,rfl,rfl⟩⟩
def ajd {P:Program} {w:World} {g:Nat} (d:P.globalNamed "internal/strconv.uint64pow10" = some g) (c:Fp = [(g, adH)]) (h:Lib.TabIs P w "internal/strconv.uint64pow10" .u64 Lib.pow10Tab):zQ w aq.ig:=λq b=>by
 rw[c,kH]at b;subst b;unfold Lib.TabIs World.var? at h;rw[d]at h;have h:(match w.heap[g]? with|some (.cells a _ _)=>some a|_=>none)=some adH:=h;split at h
 .rename_i a T m e;injection h with h
  subst h;exact⟨(kT.1 e).1,rfl,T,m,e⟩
 .cases h
end Go.R
namespace Go.Fn
open Go.R
def Ml(a:Int):Oz:=cond (ak .lss a 10) (some (eo .u8 (aa .add .i64 48 a),())) (some (eo .u8 (aa .sub .i64 (aa .add .i64 97 a) 10),()))
def J7(a:YaV)(b:Int×YbJ):YdR:=letI c:=b.2.1;letI d:=eE 10;letI e:=aa .rem .i64 b.1 10;letI f:=aa .quo .i64 b.1 10;cond (ak .neq b.1 0) (cond d none (cond (ak .lss e 0) ((Ml (Ez .i64 e)).bind λg=>cond (lz (nT (List.append (α:=Int) ([]:Kz) [g.1])) c) (cond d none (some (.inl (f,ByteArray.append (nT (List.append (α:=Int) ([]:Kz) [g.1])) c,())))) none) ((Ml e).bind λg=>cond (lz (nT (List.append (α:=Int) ([]:Kz) [g.1])) c) (cond d none (some (.inl (f,ByteArray.append (nT (List.append (α:=Int) ([]:Kz) [g.1])) c,())))) none))) (some (.inr (.inl (c,()))))
def L2 k x:=iter (J7 k) big x
def Ku(a:Int):YdG:=letI b:=ak .lss a 0;cond (ak .eql a 0) (some (ByteArray.mk #[48],())) ((L2 (b,()) (a,ByteArray.mk #[],())).bind λc=>Sum.elim (λd=>cond b (cond (lz (ByteArray.mk #[45]) d.1) (some (ByteArray.append (ByteArray.mk #[45]) d.1,())) none) (some (d.1,()))) (λd=>Empty.elim d) c)
def strconv_Itoa(a:Int):YdG:=cond (abG a) (some (ByteArray.mk (Lib.itoa a).toArray,())) none
def Ko(a:Int):YdG:=(strconv_Itoa a).bind λb=>some (b.1,())
def txt(n:Nat):ByteArray:=ByteArray.mk (Lib.decDigits n).toArray
def akl(a b:ByteArray):ByteArray.append a b=a++b:=rfl
def akm(a b:List UInt8):ByteArray.append (ByteArray.mk a.toArray) (ByteArray.mk b.toArray)=ByteArray.mk (a++b).toArray:=by rw[akl];apply ByteArray.ext;simp
def ais(x:Int):nT [x]=ByteArray.mk [UInt8.ofNat x.toNat].toArray:=by apply ByteArray.ext;rfl
def fits{x y:ByteArray}(h:x.size+y.size<=1073741824):lz x y=true:=xD (by omega)
def size_mk(l:List UInt8):(ByteArray.mk l.toArray).size=l.length:=by show l.toArray.size=_;simp
def akE{d:Nat}(h:d<10):Ml (d:Int)=some (((48+d:Nat):Int),()):=by
 unfold Ml;rw[show ak .lss (d:Int) 10=true by simp only[ak,qF];omega];have:aa .add .i64 48 (d:Int)=((48+d:Nat):Int):=by rw[sO (by omega) (by omega)];omega
 rw[this];have:∀d:Fin 10,eo .u8 ((48+d.val:Nat):Int)=((48+d.val:Nat):Int):=by decide +kernel
 rw[this ⟨d,h⟩];rfl
def ap7(n:Nat):aa .rem .i64 (n:Int) 10=((n % 10:Nat):Int):=rfl
def ajZ{n:Nat}(h:n<=1000000000000000000):aa .quo .i64 (n:Int) 10=((n / 10:Nat):Int):=by have:aa .quo .i64 (n:Int) 10=IntKind.i64.wrap ((n / 10:Nat):Int):=rfl;rw[this];exact FT (by omega) (by omega)
def ahZ{n:Nat}(e:0<n)(d:n<=1000000000000000000)(s:List UInt8)(f:s.length<=1000000):
  J7 (false,()) ((n:Int),ByteArray.mk s.toArray,())=some (.inl (((n / 10:Nat):Int),ByteArray.mk (UInt8.ofNat (48+n % 10)::s).toArray,())):=by
 unfold J7;have a:ak .neq (n:Int) 0=true:=by simp only[ak,bne_iff_ne,ne_eq];omega
 have b:ak .lss ((n % 10:Nat):Int) 0=false:=Jk (by omega);have c:eE (10:Int)=false:=rfl;simp only[a,b,c,ap7,ajZ d,akE (Nat.mod_lt n (by decide:0<10)),aJ,cz,vP,akj,gi,ais];rw[fits (by rw[size_mk,size_mk];simp only[gB,akf];omega),akm];rfl
def ajb{n:Nat}(h:0<n)(s:List UInt8):(if n / 10=0 then []else Lib.decDigits (n / 10))++(UInt8.ofNat (48+n % 10)::s)=Lib.decDigits n++s:=by
 by_cases a:n<10
 .rw[cj (by omega),Lib.decDigits_one a,show n % 10=n by omega];rfl
 .rw[dS (by omega)];have:Lib.decDigits n=Lib.decDigits (n / 10)++[UInt8.ofNat (48+n % 10)]:=by conv=>lhs;rw[Lib.decDigits,dif_neg a]
  rw[this,je];rfl
def aei:∀(k n:Nat) (s:List UInt8) (f:Nat),n<=1000000000000000000->s.length+k<=60->n<10 ^ k->k<f ->
  iter (J7 (false,())) f ((n:Int),ByteArray.mk s.toArray,())=some (.inl (ByteArray.mk ((if n=0 then []else Lib.decDigits n)++s).toArray,()))
 |k,n,s,0,_,_,_,c=>absurd c (vi _)
 |k,n,s,f+1,d,e,b,c=>by
  by_cases a:n=0
  .subst a;exact cJ (by unfold J7;rfl)
  .cases k with
   |zero=>simp at b;exact absurd b a
   |succ k=>rw[fz (ahZ (by omega) d s (by omega)),aei k (n / 10) _ f (by omega) (by simp only[gB];omega) (by rw[Nat.pow_succ]at b;omega) (by omega),ajb (by omega),dS a]
def ajF{n:Nat}(h:n<=1000000000000000000):Ku (n:Int)=some (txt n,()):=by
 unfold Ku;have c:ak .lss (n:Int) 0=false:=Jk (by omega);by_cases a:n=0
 .subst a;rw[show ak .eql ((0:Nat):Int) 0=true from rfl,aJ];unfold txt;rw[Lib.decDigits_one (by decide)];rfl
 .have b:ak .eql (n:Int) 0=false:=by simp only[ak,beq_eq_false_iff_ne,ne_eq];omega
  rw[b,c];have:=aei 19 n [] big h (by decide) (by omega) (i7 (by decide));have d:L2 (false,()) ((n:Int),ByteArray.mk #[],())=_:=this;rw[d,dS a,e9];rfl
def ajk{n:Nat}(h:n<=1000000000000000000):Ko (n:Int)=some (txt n,()):=by unfold Ko strconv_Itoa;rw[show abG (n:Int)=true from acG.2 ⟨by omega,by omega⟩,Lib.itoa_nonneg];rfl
def NC(a:YcE)(b:LN):Option (LN⊕Nt⊕YcJ):=cond (ak .lss b.1 (bw a.1)) ((Mj a.1).bind λc=>letI d:=ae br a.1 b.1;cond c.1 (cond (aZ a.1 b.1) ((KQ d.1 d.2.1 d.2.2 a.2.1).bind λe=>cond (ak .geq e.1 0) (cond (aZ a.1 b.1) (cond (aZ d.2.2 e.1) (some (.inr (.inl (b.1,(ae fe d.2.2 e.1).1,())))) none) none) (some (.inl (aa .add .i64 b.1 1,())))) none) (some (.inr (.inr (.inl ()))))) (some (.inr (.inr (.inl ()))))
def Q1 k x:=iter (NC k) big x
def N6(a:RB)(b:Int):Option Nt:=(Q1 (a,b,()) (0,())).bind λc=>Sum.elim (λd=>some (d.1,d.2.1,())) (λd=>Sum.elim (λ_=>some (-1,-1,())) (λe=>Empty.elim e) d) c
def Wg(a b c:Int)(d:Bool)(e:Int):J8:=some (ak .eql c e,())
def qS(a:Lj×Nt)(b:LN):YaZ:=letI c:=ae fe a.1 b.1;cond (ak .lss b.1 a.2.2.1) (cond (aZ a.1 b.1) ((Wg c.1 c.2.1 c.2.2.1 c.2.2.2 a.2.1).bind λd=>cond d.1 (some (.inr (.inl (b.1,())))) (some (.inl (aa .add .i64 b.1 1,())))) none) (some (.inr (.inr (.inl ()))))
def D3 k x:=iter (qS k) big x
def Gi(a:Lj)(b:Int):Oz:=(D3 (a,b,bw a,()) (0,())).bind λc=>Sum.elim (λd=>some (d.1,())) (λd=>Sum.elim (λ_=>some (-1,())) (λe=>Empty.elim e) d) c
def Qe(a:Int)(b:Kz)(c:Lj)(d:Int):Oz:=(Gi c d).bind λe=>some (e.1,())
def RO(a:Int)(b:Kz)(c:Lj)(d:Int):J8:=(Qe a b c d).bind λe=>some (ak .geq e.1 0,())
def me(a:RB×Nt)(b:LN):YaZ:=letI c:=ae br a.1 b.1;cond (ak .lss b.1 a.2.2.1) (cond (aZ a.1 b.1) ((RO c.1 c.2.1 c.2.2 a.2.1).bind λd=>cond d.1 (some (.inr (.inl (b.1,())))) (some (.inl (aa .add .i64 b.1 1,())))) none) (some (.inr (.inr (.inl ()))))
def tf k x:=iter (me k) big x
def vw(a:RB)(b:Int):Oz:=(tf (a,b,bw a,()) (0,())).bind λc=>Sum.elim (λd=>some (d.1,())) (λd=>Sum.elim (λ_=>some (-1,())) (λe=>Empty.elim e) d) c
def LH(a:RB)(b:Int):Oz:=(vw a b).bind λc=>some (c.1,())
end Go.Fn

