import Derived.Test.YtajokmncfidfjaaDoorRE
import Derived.Lib.SlicesCompact
import Derived.Sort.AssemblyPlain
import Derived.Shelf.LaysM
import Derived.Shelf.Strconv.Itoa3
import Derived.Lib.AppendIntMem
import Derived.Lib.LaidTab
import Derived.Lib.ItoaLen
import Derived.Lib.ItoaMem
import Derived.Shelf.Spec.SlicesInsertGrow
/- Plain functions that stand for Go functions, and what they answer. Conditions: none. -/
set_option autoImplicit false
set_option linter.unusedVariables false
set_option linter.unusedSimpArgs false
set_option linter.unusedVariables false
namespace Go.Fn
open Go.R
abbrev RU:=Int×Int×Int
abbrev IW:=Int×Int×Int×Int×RU
abbrev Ke:=List Int
abbrev Kq:=List IW
abbrev Nq:=Int×Unit
abbrev Pt:=Int×Nq
abbrev QT:=Int×Int×Int×Int×Int×Pt
abbrev QF:=Bool×Unit
abbrev NP:=Option QF
abbrev Oy:=Ke×Nq
abbrev QX:=Ke×Unit
abbrev QE:=Option (Oy⊕QX⊕Empty)
abbrev QU:=Option (Nq⊕QF⊕Unit⊕Empty)
abbrev PV:=Ke×Pt
abbrev PW:=Option QX
abbrev Ow:=Kq×Unit
abbrev Rz:=ByteArray×Unit
abbrev QY:=Kq×Nq
abbrev RN:=Ke×Int×Int×Kq×QY
abbrev QV:=Ke×Int×Int×Ow
abbrev QG:=Int×QY
abbrev RQ:=Kq×Int×Int×QT
abbrev S6:=Option (RQ⊕Kq×Int×QT⊕Empty)
abbrev RO:=Option (PV⊕Oy⊕Empty)
abbrev S7:=Option (RN⊕Ke×Int×Int×Kq×Ow⊕Empty)
abbrev RA:=List ByteArray
abbrev RP:=Int×Int×Int×Bool
abbrev QW:=Option Rz
abbrev RR:=Option (Int×PV)
abbrev RS:=Option (Kq×QF)
abbrev RT:=Option (Kq×PV)
abbrev S8:=Kq×Kq×Ke×Ke×Int×QT
abbrev RB:=Option Nq
noncomputable def br:IW:=(0,0,0,0,0,0,0)
noncomputable def JM(a b c:Int):NP:=cond (af .geq a b) (some (af .leq a c,())) (some (false,()))
noncomputable def Kl(a b c d e f g:Int):NP:=(JM a 0 5).bind fun h=>letI i:=some (false,());cond h.1 ((JM b 1 999).bind fun j=>cond j.1 ((JM c 1 100000).bind fun k=>cond k.1 ((JM d 1 4).bind fun l=>cond l.1 ((JM e 1 999).bind fun m=>cond m.1 ((JM f 0 20000).bind fun n=>cond n.1 ((JM g 0 20000).bind fun o=>some (o.1,())) i) i) i) i) i) i
noncomputable def Jv(a b c:Int):NP:=cond (af .geq a b) (some (af .leq a c,())) (some (false,()))
noncomputable def KJ(a:Int):NP:=(Jv a 0 20000).bind fun b=>some (b.1,())
noncomputable def Kh(a b c d e f g:Int):NP:=(Jv a 0 5).bind fun h=>letI i:=some (false,());cond h.1 ((Jv b 1 999).bind fun j=>cond j.1 ((Jv c 1 100000).bind fun k=>cond k.1 ((Jv d 1 4).bind fun l=>cond l.1 ((Jv e 1 999).bind fun m=>cond m.1 ((KJ f).bind fun n=>cond n.1 ((KJ g).bind fun o=>some (o.1,())) i) i) i) i) i) i
noncomputable def Km(a:Ow)(b:Nq):QU:=letI c:=ae br a.1 b.1;letI d:=c.2.2;cond (af .lss b.1 (ai a.1)) (cond (ah a.1 b.1) ((Kl c.1 c.2.1 d.1 d.2.1 d.2.2.1 d.2.2.2.1 d.2.2.2.2).bind fun e=>letI f:=(false,());letI g:=af .gtr b.1 0;letI h:=aa .sub .i64 b.1 1;letI i:=(aa .add .i64 b.1 1,());letI j:=ah a.1 h;letI k:=ae br a.1 h;letI l:=af .eql c.1 k.1;letI m:=af .leq c.2.1 k.2.1;letI n:=af .leq d.1 k.2.2.1;cond (Bool.not e.1) (some (.inr (.inl f))) (cond g (cond j (cond (af .lss c.1 k.1) (some (.inr (.inl f))) (cond g (cond j (cond l (cond j (cond m (some (.inr (.inl f))) (cond j (cond n (some (.inr (.inl f))) (some (.inl i))) none)) none) (some (.inl i))) none) (some (.inl i)))) none) (cond g (cond j (cond l (cond j (cond m (some (.inr (.inl f))) (cond j (cond n (some (.inr (.inl f))) (some (.inl i))) none)) none) (some (.inl i))) none) (some (.inl i))))) none) (some (.inr (.inr (.inl ()))))
noncomputable def Kn k x:=iter (Km k) big x
noncomputable def I6(a:Kq):NP:=cond (af .gtr (ai a) 60) (some (false,())) ((Kn (a,()) (0,())).bind fun b=>Sum.elim (fun c=>some (c.1,())) (fun c=>Sum.elim (fun _=>some (true,())) (fun d=>Empty.elim d) c) b)
noncomputable def Ki(a:Kq×QY)(b:Nq):QU:=letI c:=ae br a.2.1 b.1;letI d:=c.2.2;cond (af .lss b.1 a.2.2.1) (cond (ah a.2.1 b.1) ((Kh c.1 c.2.1 d.1 d.2.1 d.2.2.1 d.2.2.2.1 d.2.2.2.2).bind fun e=>letI f:=(false,());letI g:=aa .sub .i64 b.1 1;letI h:=(aa .add .i64 b.1 1,());letI i:=ae br a.1 g;cond (Bool.not e.1) (some (.inr (.inl f))) (cond (af .eql b.1 0) (some (.inl h)) (cond (ah a.1 g) (cond (af .lss c.1 i.1) (some (.inr (.inl f))) (cond (af .eql c.1 i.1) (cond (af .leq c.2.1 i.2.1) (some (.inr (.inl f))) (cond (af .leq d.1 i.2.2.1) (some (.inr (.inl f))) (some (.inl h)))) (some (.inl h)))) none))) none) (some (.inr (.inr (.inl ()))))
noncomputable def Kj k x:=iter (Ki k) big x
noncomputable def Jn(a:Kq):NP:=cond (af .gtr (ai a) 60) (some (false,())) ((Kj (a,a,ai a,()) (0,())).bind fun b=>Sum.elim (fun c=>some (c.1,())) (fun c=>Sum.elim (fun _=>some (true,())) (fun d=>Empty.elim d) c) b)
end Go.Fn
set_option linter.unusedVariables false
namespace Go.Fn
open Go.R
noncomputable def zI:Int:=0
end Go.Fn
set_option linter.unusedVariables false
namespace Go.Fn
open Go.R
noncomputable def Rw:Ke:=([]:Ke)
noncomputable def QC:Int×Int×RU:=(0,0,0,0,0)
end Go.Fn
set_option linter.unusedVariables false
namespace Go.Fn
open Go.R
noncomputable def Nk:Int×Ke×List RP:=(0,([]:Ke),([]:List RP))
noncomputable def Rv:RP:=(0,0,0,false)
end Go.Fn
set_option linter.unusedVariables false
namespace Go.Fn
open Go.R
noncomputable def Mr(a:Ke):NP:=some (af .gtr (ai a) 1048576,())
noncomputable def Lw(a:QX)(b:Pt):Option (Pt⊕Nq⊕Empty):=letI c:=b.2.1;cond (af .lss c (ai a.1)) (cond (af .lss c 4000) (cond (ah a.1 c) (some (.inl (aa .and .i64 (aa .add .i64 (aa .add .i64 (aa .mul .i64 b.1 131) (aq .i64 (ae zI a.1 c))) 7) 1073741823,aa .add .i64 c 1,()))) none) (some (.inr (.inl (b.1,()))))) (some (.inr (.inl (b.1,()))))
noncomputable def Ko k x:=iter (Lw k) big x
noncomputable def K8(a:Ke):Option PV:=(Ko (a,()) (aa .add .i64 33183 (ai a),0,())).bind fun b=>Sum.elim (fun c=>some (a,0,c.1,())) (fun c=>Empty.elim c) b
noncomputable def Jc(a:Ke)(b c:Int):RR:=letI d:=aa .add .i64 (aa .mul .i64 c 6364136223846793005) 1442695040888963407;cond (cD 33) none (cond (cD 45) none (lets (aa .xor .i64 (ay .shr .i64 d 33) (ay .shr .i64 d 45)) fun e=>letI f:=aa .and .i64 e 255;cond (af .lss b (ai a)) (cond (ah a b) (some (aa .and .i64 (aa .add .i64 f (aq .i64 (ae zI a b))) 255,a,aa .add .i64 b 1,d,())) none) (some (f,a,b,d,()))))
noncomputable def bg(a:Ke)(b c d:Int):RR:=cond (af .leq d 0) (some (0,a,b,c,())) (cond (af .leq d 256) ((Jc a b c).bind fun e=>cond (az d) none (some (aa .rem .i64 e.1 d,e.2.1,e.2.2.1,e.2.2.2.1,()))) ((Jc a b c).bind fun e=>(Jc e.2.1 e.2.2.1 e.2.2.2.1).bind fun f=>(Jc f.2.1 f.2.2.1 f.2.2.2.1).bind fun g=>(Jc g.2.1 g.2.2.1 g.2.2.2.1).bind fun h=>lets (aa .add .i64 (aa .add .i64 (aa .add .i64 (aa .mul .i64 e.1 16777216) (aa .mul .i64 f.1 65536)) (aa .mul .i64 g.1 256)) h.1) fun i=>cond (az d) none (some (aa .rem .i64 i d,h.2.1,h.2.2.1,h.2.2.2.1,()))))
noncomputable def lm(a:Ke)(b c:Int)(d:Ke):RR:=(bg a b c (ai d)).bind fun e=>cond (ah d e.1) (some (ae zI d e.1,e.2.1,e.2.2.1,e.2.2.2.1,())) none
noncomputable def kW(a:Ke)(b c d:Int):Option (Bool×PV):=(bg a b c d).bind fun e=>some (af .eql e.1 0,e.2.1,e.2.2.1,e.2.2.2.1,())
end Go.Fn
set_option linter.unusedVariables false
namespace Go.Fn
open Go.R
noncomputable def J2(a b c d e f g h i j k l m n:Int):NP:=cond (af .lss a h) (some (true,())) (cond (af .eql a h) (some (af .lss b i,())) (some (false,())))
noncomputable def vp(a:Kq×Ow)(b:Kq×Pt):Option (Kq×Pt⊕Kq×QF⊕Ow⊕Empty):=letI c:=([]:Kq);letI d:=b.1;letI e:=b.2.1;letI f:=b.2.2.1;letI g:=(c,false,());letI h:=ah a.1 e;letI i:=ae br a.1 e;letI j:=ah a.2.1 f;letI k:=aa .add .i64 e 1;letI l:=ae br a.2.1 f;letI m:=aa .add .i64 f 1;letI n:=af .eql e (ai a.1);letI o:=af .lss e (ai a.1);letI p:=i.2.2.2;letI q:=af .eql f (ai a.2.1);letI r:=l.2.2.2;letI s:=p.2.2;letI t:=r.2.2;letI u:=J2 l.1 l.2.1 l.2.2.1 r.1 r.2.1 t.1 t.2 i.1 i.2.1 i.2.2.1 p.1 p.2.1 s.1 s.2;letI v:=J2 i.1 i.2.1 i.2.2.1 p.1 p.2.1 s.1 s.2 l.1 l.2.1 l.2.2.1 r.1 r.2.1 t.1 t.2;letI w:=Bool.not (Bool.and (af .eql i.1 l.1) (Bool.and (af .eql i.2.1 l.2.1) (Bool.and (af .eql i.2.2.1 l.2.2.1) (Bool.and (af .eql p.1 r.1) (Bool.and (af .eql p.2.1 r.2.1) (Bool.and (af .eql s.1 t.1) (Bool.and (af .eql s.2 t.2) true)))))));cond o (cond q (cond h (cond (aE (List.append (α:=IW) d (List.append (α:=IW) c [i]))) (some (.inl (List.append (α:=IW) d (List.append (α:=IW) c [i]),k,f,()))) none) none) (cond o (cond h (cond j (v.bind fun x=>cond x.1 (cond h (cond (aE (List.append (α:=IW) d (List.append (α:=IW) c [i]))) (some (.inl (List.append (α:=IW) d (List.append (α:=IW) c [i]),k,f,()))) none) none) (cond n (cond j (cond (aE (List.append (α:=IW) d (List.append (α:=IW) c [l]))) (some (.inl (List.append (α:=IW) d (List.append (α:=IW) c [l]),e,m,()))) none) none) (cond j (cond h (u.bind fun y=>cond y.1 (cond j (cond (aE (List.append (α:=IW) d (List.append (α:=IW) c [l]))) (some (.inl (List.append (α:=IW) d (List.append (α:=IW) c [l]),e,m,()))) none) none) (cond h (cond j (lets w fun z=>cond z (some (.inr (.inl g))) (cond h (cond (aE (List.append (α:=IW) d (List.append (α:=IW) c [i]))) (some (.inl (List.append (α:=IW) d (List.append (α:=IW) c [i]),k,m,()))) none) none)) none) none)) none) none))) none) none) (cond n (cond j (cond (aE (List.append (α:=IW) d (List.append (α:=IW) c [l]))) (some (.inl (List.append (α:=IW) d (List.append (α:=IW) c [l]),e,m,()))) none) none) (cond j (cond h (u.bind fun x=>cond x.1 (cond j (cond (aE (List.append (α:=IW) d (List.append (α:=IW) c [l]))) (some (.inl (List.append (α:=IW) d (List.append (α:=IW) c [l]),e,m,()))) none) none) (cond h (cond j (lets w fun y=>cond y (some (.inr (.inl g))) (cond h (cond (aE (List.append (α:=IW) d (List.append (α:=IW) c [i]))) (some (.inl (List.append (α:=IW) d (List.append (α:=IW) c [i]),k,m,()))) none) none)) none) none)) none) none)))) (cond (af .lss f (ai a.2.1)) (cond q (cond h (cond (aE (List.append (α:=IW) d (List.append (α:=IW) c [i]))) (some (.inl (List.append (α:=IW) d (List.append (α:=IW) c [i]),k,f,()))) none) none) (cond o (cond h (cond j (v.bind fun x=>cond x.1 (cond h (cond (aE (List.append (α:=IW) d (List.append (α:=IW) c [i]))) (some (.inl (List.append (α:=IW) d (List.append (α:=IW) c [i]),k,f,()))) none) none) (cond n (cond j (cond (aE (List.append (α:=IW) d (List.append (α:=IW) c [l]))) (some (.inl (List.append (α:=IW) d (List.append (α:=IW) c [l]),e,m,()))) none) none) (cond j (cond h (u.bind fun y=>cond y.1 (cond j (cond (aE (List.append (α:=IW) d (List.append (α:=IW) c [l]))) (some (.inl (List.append (α:=IW) d (List.append (α:=IW) c [l]),e,m,()))) none) none) (cond h (cond j (lets w fun z=>cond z (some (.inr (.inl g))) (cond h (cond (aE (List.append (α:=IW) d (List.append (α:=IW) c [i]))) (some (.inl (List.append (α:=IW) d (List.append (α:=IW) c [i]),k,m,()))) none) none)) none) none)) none) none))) none) none) (cond n (cond j (cond (aE (List.append (α:=IW) d (List.append (α:=IW) c [l]))) (some (.inl (List.append (α:=IW) d (List.append (α:=IW) c [l]),e,m,()))) none) none) (cond j (cond h (u.bind fun x=>cond x.1 (cond j (cond (aE (List.append (α:=IW) d (List.append (α:=IW) c [l]))) (some (.inl (List.append (α:=IW) d (List.append (α:=IW) c [l]),e,m,()))) none) none) (cond h (cond j (lets w fun y=>cond y (some (.inr (.inl g))) (cond h (cond (aE (List.append (α:=IW) d (List.append (α:=IW) c [i]))) (some (.inl (List.append (α:=IW) d (List.append (α:=IW) c [i]),k,m,()))) none) none)) none) none)) none) none)))) (some (.inr (.inr (.inl (d,()))))))
noncomputable def JU k x:=iter (vp k) big x
noncomputable def qB(a b:Kq):RS:=(I6 a).bind fun c=>letI d:=some (([]:Kq),false,());cond (Bool.not c.1) d ((I6 b).bind fun e=>cond (Bool.not e.1) d ((JU (a,b,()) (([]:Kq),0,0,())).bind fun f=>Sum.elim (fun g=>some (g.1,g.2.1,())) (fun g=>Sum.elim (fun h=>(I6 h.1).bind fun i=>cond (Bool.not i.1) d (some (h.1,true,()))) (fun h=>Empty.elim h) g) f))
noncomputable def tW(a:Kq):Option Ow:=cond (af .gtr (ai a) 0) (cond (aE (List.append (α:=IW) ([]:Kq) a)) (some (List.append (α:=IW) ([]:Kq) a,())) none) (both (some (([]:Kq),())) (cond (aE (List.append (α:=IW) ([]:Kq) a)) (some (List.append (α:=IW) ([]:Kq) a,())) none))
noncomputable def Kg(a:Int):NP:=some (af .neq a a,())
noncomputable def JG(a b:Int):RB:=(Kg a).bind fun c=>(Kg b).bind fun d=>letI e:=some ((0:Int),());letI f:=some ((1:Int),());letI g:=some ((-1:Int),());cond c.1 (cond d.1 e g) (cond d.1 f (cond (af .lss a b) g (cond (af .gtr a b) f e)))
noncomputable def JH(a:Int×Oy)(b:Nq):Option (Nq⊕Nq⊕Unit⊕Empty):=letI c:=ae zI a.2.1 b.1;cond (af .lss b.1 a.2.2.1) (cond (ah a.2.1 b.1) (cond (af .neq c a.1) (some (.inr (.inl (c,())))) (some (.inl (aa .add .i64 b.1 1,())))) none) (some (.inr (.inr (.inl ()))))
noncomputable def KY k x:=iter (JH k) big x
noncomputable def K6(a:Ke):RB:=(KY ((0:Int),a,ai a,()) ((0:Int),())).bind fun b=>Sum.elim (fun c=>some (c.1,())) (fun c=>Sum.elim (fun _=>some (0,())) (fun d=>Empty.elim d) c) b
noncomputable def J6(a:QY)(b:RQ):S6:=letI c:=b.2;letI d:=c.2.2.2;letI e:=c.2.2.1;letI f:=d.2.2;letI g:=d.2.1;letI h:=f.2.1;letI i:=f.2.2.2.1;letI j:=ah a.1 i;letI k:=ae br a.1 i;letI l:=aa .add .i64 i 1;letI m:=af .leq k.1 a.2.1;letI n:=aa .add .i64 k.2.1 1;letI o:=aa .add .i64 k.2.2.1 1;cond (af .lss i (ai a.1)) (cond j (cond (af .eql k.1 a.2.1) (cond j (cond j (cond m (cond j (some (.inl (b.1,c.1,n,bK true e o,d.1,g,f.1,h,l,l,()))) none) (cond j (some (.inl (b.1,c.1,n,bK true e o,d.1,g,f.1,h,f.2.2.1,l,()))) none)) none) none) (cond j (cond m (cond j (some (.inl (b.1,c.1,c.2.1,bK true e o,d.1,g,f.1,h,l,l,()))) none) (cond j (some (.inl (b.1,c.1,c.2.1,bK true e o,d.1,g,f.1,h,f.2.2.1,l,()))) none)) none)) none) (some (.inr (.inl (b.1,c.1,c.2.1,e,d.1,g,f.1,h,f.2.2.1,()))))
noncomputable def KB k x:=iter (J6 k) big x
noncomputable def vw(a:Kq)(b c d e f:Int):RS:=letI g:=([]:Kq);cond (aE (List.append (α:=IW) g a)) ((I6 a).bind fun h=>cond (Bool.not h.1) (some (List.append (α:=IW) g a,false,())) ((KB (a,b,()) (List.append (α:=IW) g a,b,1,1,c,d,e,f,0,0,())).bind fun i=>Sum.elim (fun j=>letI k:=j.2.2.2.2;letI l:=k.2.2.2.2.1;letI m:=eR a 0 l;letI n:=eR a l (ai a);letI o:=(j.2.1,j.2.2.1,j.2.2.2.1,k.1,k.2.1,k.2.2.1,k.2.2.2.1);cond (cS a (0:Int) l) (cond (aE (List.append (α:=IW) g m)) (cond (aE (List.append (α:=IW) (List.append (α:=IW) g m) (List.append (α:=IW) g [o]))) (cond (cS a l (ai a)) (cond (aE (List.append (α:=IW) (List.append (α:=IW) (List.append (α:=IW) g m) (List.append (α:=IW) g [o])) n)) ((I6 (List.append (α:=IW) (List.append (α:=IW) (List.append (α:=IW) g m) (List.append (α:=IW) g [o])) n)).bind fun p=>cond (Bool.not p.1) (some (j.1,false,())) (some (List.append (α:=IW) (List.append (α:=IW) (List.append (α:=IW) g m) (List.append (α:=IW) g [o])) n,true,()))) none) none) none) none) none) (fun j=>Empty.elim j) i)) none
noncomputable def Jz(a:Ke)(b c:Int)(d:Kq)(e:Int):RT:=(bg a b c 4).bind fun f=>(bg f.2.1 f.2.2.1 f.2.2.2.1 4).bind fun g=>letI h:=aa .add .i64 1 f.1;letI i:=bg g.2.1 g.2.2.1 g.2.2.2.1 3;cond (af .eql h 2) (i.bind fun j=>(bg j.2.1 j.2.2.1 j.2.2.2.1 40).bind fun k=>(vw d e h (aa .add .i64 1 j.1) 0 k.1).bind fun l=>some (l.1,k.2.1,k.2.2.1,k.2.2.2.1,())) (i.bind fun j=>(bg j.2.1 j.2.2.1 j.2.2.2.1 40).bind fun k=>(vw d e h (aa .add .i64 1 j.1) g.1 k.1).bind fun l=>some (l.1,k.2.1,k.2.2.1,k.2.2.2.1,()))
noncomputable def JK(a:Kq×Ow)(b:Nq):QU:=letI c:=ae br a.1 b.1;letI d:=ae br a.2.1 b.1;letI e:=c.2.2.2;letI f:=d.2.2.2;cond (af .lss b.1 (ai a.1)) (cond (ah a.1 b.1) (cond (ah a.2.1 b.1) (lets (Bool.not (Bool.and (af .eql c.1 d.1) (Bool.and (af .eql c.2.1 d.2.1) (Bool.and (af .eql c.2.2.1 d.2.2.1) (Bool.and (af .eql e.1 f.1) (Bool.and (af .eql e.2.1 f.2.1) (Bool.and (af .eql e.2.2.1 f.2.2.1) (Bool.and (af .eql e.2.2.2 f.2.2.2) true)))))))) fun g=>cond g (some (.inr (.inl (false,())))) (some (.inl (aa .add .i64 b.1 1,())))) none) none) (some (.inr (.inr (.inl ()))))
noncomputable def Kb k x:=iter (JK k) big x
noncomputable def JO(a b:Kq):NP:=cond (af .neq (ai a) (ai b)) (some (false,())) ((Kb (a,b,()) (0,())).bind fun c=>Sum.elim (fun d=>some (d.1,())) (fun d=>Sum.elim (fun _=>some (true,())) (fun e=>Empty.elim e) d) c)
end Go.Fn
set_option linter.unusedVariables false
namespace Go.Fn
open Go.R
noncomputable def J9(a:QY)(b:Oy):QE:=letI c:=b.1;letI d:=b.2.1;letI e:=ah c d;letI f:=ae zI c d;letI g:=aa .sub .i64 d 1;letI h:=ae zI c g;cond (af .gtr d 0) (cond (ah c g) (cond (ah a.1 h) (cond e (cond (ah a.1 f) (cond (af .gtr (ae br a.1 h).2.2.1 (ae br a.1 f).2.2.1) (cond e (cond (ah c g) (cond e (cond (ah (aC c d h) g) (some (.inl (aC (aC c d h) g f,g,()))) none) none) none) none) (some (.inr (.inl (c,()))))) none) none) none) none) (some (.inr (.inl (c,()))))
noncomputable def KP k x:=iter (J9 k) big x
noncomputable def Jh(a:Ow)(b:Oy):QE:=letI c:=b.2.1;cond (af .lss c (ai a.1)) ((I6 a.1).bind fun d=>cond d.1 (cond (aE (List.append (α:=Int) b.1 (List.append (α:=Int) ([]:Ke) [c]))) ((KP (a.1,c,()) (List.append (α:=Int) b.1 (List.append (α:=Int) ([]:Ke) [c]),c,())).bind fun e=>Sum.elim (fun f=>some (.inl (f.1,aa .add .i64 c 1,()))) (fun f=>Empty.elim f) e) none) (some (.inr (.inl (b.1,()))))) (some (.inr (.inl (b.1,()))))
noncomputable def Ka k x:=iter (Jh k) big x
noncomputable def JL(a:Kq):PW:=(Ka (a,()) (([]:Ke),0,())).bind fun b=>Sum.elim (fun c=>some (c.1,())) (fun c=>Empty.elim c) b
noncomputable def Jd(a b:Int)(c:Kq):RB:=cond (ah c a) (cond (ah c b) ((JG (ae br c a).2.2.1 (ae br c b).2.2.1).bind fun d=>cond (ah c a) (cond (ah c b) ((JG (ae br c a).1 (ae br c b).1).bind fun e=>(K6 (List.append (α:=Int) (List.append (α:=Int) ([]:Ke) [d.1]) [e.1])).bind fun f=>some (f.1,())) none) none) none) none
noncomputable def b7(a:Int×QG)(b:Oy):QE:=letI c:=b.1;letI d:=b.2.1;letI e:=ah c d;letI f:=aa .sub .i64 d 1;letI g:=ae zI c f;cond (af .gtr d a.1) (cond e (cond (ah c f) ((Jd (ae zI c d) g a.2.2.1).bind fun h=>cond (af .lss h.1 0) (cond (ah c f) (cond e (cond e (cond (ah (aC c d g) f) (some (.inl (aC (aC c d g) f (ae zI c d),f,()))) none) none) none) none) (some (.inr (.inl (c,()))))) none) none) (some (.inr (.inl (c,()))))
noncomputable def vn k x:=iter (b7 k) big x
noncomputable def fq(a:Int×Int×Ow)(b:Oy):QE:=cond (af .lss b.2.1 a.2.1) ((vn (a.1,a.2.1,a.2.2.1,b.2.1,()) (b.1,b.2.1,())).bind fun c=>Sum.elim (fun d=>some (.inl (d.1,aa .add .i64 b.2.1 1,()))) (fun d=>Empty.elim d) c) (some (.inr (.inl (b.1,()))))
noncomputable def vm k x:=iter (fq k) big x
noncomputable def gb(a:Ke)(b c:Int)(d:Kq):PW:=(vm (b,c,d,()) (a,aa .add .i64 b 1,())).bind fun e=>Sum.elim (fun f=>some (f.1,())) (fun f=>Empty.elim f) e
noncomputable def qe(a:Int×Pt)(b:Oy):QE:=letI c:=aa .add .i64 a.1 b.2.1;letI d:=aa .add .i64 a.2.1 b.2.1;letI e:=aC b.1 c (ae zI b.1 d);cond (af .lss b.2.1 a.2.2.1) (cond (ah b.1 d) (cond (ah b.1 c) (cond (ah b.1 c) (cond (ah e d) (lets (aC e d (ae zI b.1 c)) fun f=>some (.inl (f,aa .add .i64 b.2.1 1,()))) none) none) none) none) (some (.inr (.inl (b.1,()))))
noncomputable def D3 k x:=iter (qe k) big x
noncomputable def b9(a:Ke)(b c d:Int)(e:Kq):PW:=(D3 (b,c,d,()) (a,0,())).bind fun f=>Sum.elim (fun g=>some (g.1,())) (fun g=>Empty.elim g) f
noncomputable def i6(a:Int×Ow)(b:PV):RO:=letI c:=b.2.1;letI d:=b.2.2.1;letI e:=aa .sub .i64 a.1 c;cond (af .neq c d) (cond (af .gtr c d) ((b9 b.1 e a.1 d a.2.1).bind fun f=>some (.inl (f.1,aa .sub .i64 c d,d,()))) ((b9 b.1 e (aa .sub .i64 (aa .add .i64 a.1 d) c) c a.2.1).bind fun f=>some (.inl (f.1,c,aa .sub .i64 d c,())))) (some (.inr (.inl (b.1,c,()))))
noncomputable def IE k x:=iter (i6 k) big x
noncomputable def e8(a:Ke)(b c d:Int)(e:Kq):PW:=(IE (c,e,()) (a,aa .sub .i64 c b,aa .sub .i64 d c,())).bind fun f=>Sum.elim (fun g=>(b9 g.1 (aa .sub .i64 c g.2.1) c g.2.1 e).bind fun h=>some (h.1,())) (fun g=>Empty.elim g) f
noncomputable def qS(rec:(List (Int))->Int->Int->Int->(List (Int×Int×Int×Int×Int×Int×Int))->Option ((List (Int))×Unit))(k:Int×(List (Int×Int×Int×Int×Int×Int×Int))×Unit)(x:(List (Int))×Int×Int×Unit):Option (((List (Int))×Int×Int×Unit)⊕((List (Int))×Int×Unit⊕Empty)):=(bif (af .lss x.2.1 x.2.2.1)then(bif (cD (1:Int))then none else(bif (ah x.1 (aq .i64 (ay .shr .u64 (aq .u64 (aa .add .i64 x.2.1 x.2.2.1)) (1:Int))))then(bif (ah x.1 k.1)then((Jd (ae zI x.1 (aq .i64 (ay .shr .u64 (aq .u64 (aa .add .i64 x.2.1 x.2.2.1)) (1:Int)))) (ae zI x.1 k.1) k.2.1).bind fun y0=>(bif (af .lss y0.1 (0:Int))then some (.inl (x.1,(aa .add .i64 (aq .i64 (ay .shr .u64 (aq .u64 (aa .add .i64 x.2.1 x.2.2.1)) (1:Int))) (1:Int)),x.2.2.1,()))else some (.inl (x.1,x.2.1,(aq .i64 (ay .shr .u64 (aq .u64 (aa .add .i64 x.2.1 x.2.2.1)) (1:Int))),()))))else none)else none))else some (.inr (.inl (x.1,x.2.1,()))))
noncomputable def IA(rec:(List (Int))->Int->Int->Int->(List (Int×Int×Int×Int×Int×Int×Int))->Option ((List (Int))×Unit))(k:Int×(List (Int×Int×Int×Int×Int×Int×Int))×Unit)(x:(List (Int))×Int×Int×Unit):Option ((List (Int))×Int×Unit⊕Empty):=iter (qS rec k) big x
noncomputable def qW(rec:(List (Int))->Int->Int->Int->(List (Int×Int×Int×Int×Int×Int×Int))->Option ((List (Int))×Unit))(k:Int×Unit)(x:(List (Int))×Int×Unit):Option (((List (Int))×Int×Unit)⊕((List (Int))×Unit⊕Empty)):=(bif (af .lss x.2.1 (aa .sub .i64 k.1 (1:Int)))then(bif (ah x.1 (aa .add .i64 x.2.1 (1:Int)))then(bif (ah x.1 x.2.1)then(bif (ah x.1 x.2.1)then(bif (ah (aC x.1 x.2.1 (ae zI x.1 (aa .add .i64 x.2.1 (1:Int)))) (aa .add .i64 x.2.1 (1:Int)))then some (.inl ((aC (aC x.1 x.2.1 (ae zI x.1 (aa .add .i64 x.2.1 (1:Int)))) (aa .add .i64 x.2.1 (1:Int)) (ae zI x.1 x.2.1)),(aa .add .i64 x.2.1 (1:Int)),()))else none)else none)else none)else none)else some (.inr (.inl (x.1,()))))
noncomputable def IB(rec:(List (Int))->Int->Int->Int->(List (Int×Int×Int×Int×Int×Int×Int))->Option ((List (Int))×Unit))(k:Int×Unit)(x:(List (Int))×Int×Unit):Option ((List (Int))×Unit⊕Empty):=iter (qW rec k) big x
noncomputable def rm(rec:(List (Int))->Int->Int->Int->(List (Int×Int×Int×Int×Int×Int×Int))->Option ((List (Int))×Unit))(k:Int×(List (Int×Int×Int×Int×Int×Int×Int))×Unit)(x:(List (Int))×Int×Int×Unit):Option (((List (Int))×Int×Int×Unit)⊕((List (Int))×Int×Unit⊕Empty)):=(bif (af .lss x.2.1 x.2.2.1)then(bif (cD (1:Int))then none else(bif (ah x.1 k.1)then(bif (ah x.1 (aq .i64 (ay .shr .u64 (aq .u64 (aa .add .i64 x.2.1 x.2.2.1)) (1:Int))))then((Jd (ae zI x.1 k.1) (ae zI x.1 (aq .i64 (ay .shr .u64 (aq .u64 (aa .add .i64 x.2.1 x.2.2.1)) (1:Int)))) k.2.1).bind fun y0=>(bif (Bool.not (af .lss y0.1 (0:Int)))then some (.inl (x.1,(aa .add .i64 (aq .i64 (ay .shr .u64 (aq .u64 (aa .add .i64 x.2.1 x.2.2.1)) (1:Int))) (1:Int)),x.2.2.1,()))else some (.inl (x.1,x.2.1,(aq .i64 (ay .shr .u64 (aq .u64 (aa .add .i64 x.2.1 x.2.2.1)) (1:Int))),()))))else none)else none))else some (.inr (.inl (x.1,x.2.1,()))))
noncomputable def IC(rec:(List (Int))->Int->Int->Int->(List (Int×Int×Int×Int×Int×Int×Int))->Option ((List (Int))×Unit))(k:Int×(List (Int×Int×Int×Int×Int×Int×Int))×Unit)(x:(List (Int))×Int×Int×Unit):Option ((List (Int))×Int×Unit⊕Empty):=iter (rm rec k) big x
noncomputable def rp(rec:(List (Int))->Int->Int->Int->(List (Int×Int×Int×Int×Int×Int×Int))->Option ((List (Int))×Unit))(k:Int×Unit)(x:(List (Int))×Int×Unit):Option (((List (Int))×Int×Unit)⊕((List (Int))×Unit⊕Empty)):=(bif (af .gtr x.2.1 k.1)then(bif (ah x.1 (aa .sub .i64 x.2.1 (1:Int)))then(bif (ah x.1 x.2.1)then(bif (ah x.1 x.2.1)then(bif (ah (aC x.1 x.2.1 (ae zI x.1 (aa .sub .i64 x.2.1 (1:Int)))) (aa .sub .i64 x.2.1 (1:Int)))then some (.inl ((aC (aC x.1 x.2.1 (ae zI x.1 (aa .sub .i64 x.2.1 (1:Int)))) (aa .sub .i64 x.2.1 (1:Int)) (ae zI x.1 x.2.1)),(aa .sub .i64 x.2.1 (1:Int)),()))else none)else none)else none)else none)else some (.inr (.inl (x.1,()))))
noncomputable def ID(rec:(List (Int))->Int->Int->Int->(List (Int×Int×Int×Int×Int×Int×Int))->Option ((List (Int))×Unit))(k:Int×Unit)(x:(List (Int))×Int×Unit):Option ((List (Int))×Unit⊕Empty):=iter (rp rec k) big x
noncomputable def sL(rec:(List (Int))->Int->Int->Int->(List (Int×Int×Int×Int×Int×Int×Int))->Option ((List (Int))×Unit))(k:Int×Int×Int×(List (Int×Int×Int×Int×Int×Int×Int))×Int×Int×Int×Unit)(x:(List (Int))×Int×Int×Unit):Option (((List (Int))×Int×Int×Unit)⊕((List (Int))×Int×Unit⊕Empty)):=(bif (af .lss x.2.1 x.2.2.1)then(bif (cD (1:Int))then none else(bif (ah x.1 (aa .sub .i64 k.2.2.2.2.2.2.1 (aq .i64 (ay .shr .u64 (aq .u64 (aa .add .i64 x.2.1 x.2.2.1)) (1:Int)))))then(bif (ah x.1 (aq .i64 (ay .shr .u64 (aq .u64 (aa .add .i64 x.2.1 x.2.2.1)) (1:Int))))then((Jd (ae zI x.1 (aa .sub .i64 k.2.2.2.2.2.2.1 (aq .i64 (ay .shr .u64 (aq .u64 (aa .add .i64 x.2.1 x.2.2.1)) (1:Int))))) (ae zI x.1 (aq .i64 (ay .shr .u64 (aq .u64 (aa .add .i64 x.2.1 x.2.2.1)) (1:Int)))) k.2.2.2.1).bind fun y0=>(bif (Bool.not (af .lss y0.1 (0:Int)))then some (.inl (x.1,(aa .add .i64 (aq .i64 (ay .shr .u64 (aq .u64 (aa .add .i64 x.2.1 x.2.2.1)) (1:Int))) (1:Int)),x.2.2.1,()))else some (.inl (x.1,x.2.1,(aq .i64 (ay .shr .u64 (aq .u64 (aa .add .i64 x.2.1 x.2.2.1)) (1:Int))),()))))else none)else none))else some (.inr (.inl (x.1,x.2.1,()))))
noncomputable def gm(rec:(List (Int))->Int->Int->Int->(List (Int×Int×Int×Int×Int×Int×Int))->Option ((List (Int))×Unit))(k:Int×Int×Int×(List (Int×Int×Int×Int×Int×Int×Int))×Int×Int×Int×Unit)(x:(List (Int))×Int×Int×Unit):Option ((List (Int))×Int×Unit⊕Empty):=iter (sL rec k) big x
noncomputable def bu(rec:(List (Int))->Int->Int->Int->(List (Int×Int×Int×Int×Int×Int×Int))->Option ((List (Int))×Unit))(a0:(List (Int)))(a1:Int)(a2:Int)(a3:Int)(a4:(List (Int×Int×Int×Int×Int×Int×Int))):Option ((List (Int))×Unit):=(bif (af .eql (aa .sub .i64 a2 a1) (1:Int))then((IA rec (a1,a4,()) (a0,a2,a3,())).bind fun q0=>(Sum.elim (fun y1=>((IB rec (y1.2.1,()) (y1.1,a1,())).bind fun q2=>(Sum.elim (fun y3=>some (y3.1,())) (fun q4=>(Empty.elim q4)) q2))) (fun q2=>(Empty.elim q2)) q0))else(bif (af .eql (aa .sub .i64 a3 a2) (1:Int))then((IC rec (a2,a4,()) (a0,a1,a2,())).bind fun q0=>(Sum.elim (fun y1=>((ID rec (y1.2.1,()) (y1.1,a2,())).bind fun q2=>(Sum.elim (fun y3=>some (y3.1,())) (fun q4=>(Empty.elim q4)) q2))) (fun q2=>(Empty.elim q2)) q0))else(bif (cD (1:Int))then none else(bif (af .gtr a2 (aq .i64 (ay .shr .u64 (aq .u64 (aa .add .i64 a1 a3)) (1:Int))))then((gm rec (a1,a2,a3,a4,(aq .i64 (ay .shr .u64 (aq .u64 (aa .add .i64 a1 a3)) (1:Int))),(aa .add .i64 (aq .i64 (ay .shr .u64 (aq .u64 (aa .add .i64 a1 a3)) (1:Int))) a2),(aa .sub .i64 (aa .add .i64 (aq .i64 (ay .shr .u64 (aq .u64 (aa .add .i64 a1 a3)) (1:Int))) a2) (1:Int)),()) (a0,(aa .sub .i64 (aa .add .i64 (aq .i64 (ay .shr .u64 (aq .u64 (aa .add .i64 a1 a3)) (1:Int))) a2) a3),(aq .i64 (ay .shr .u64 (aq .u64 (aa .add .i64 a1 a3)) (1:Int))),())).bind fun q0=>(Sum.elim (fun y1=>(bif (af .lss y1.2.1 a2)then(bif (af .lss a2 (aa .sub .i64 (aa .add .i64 (aq .i64 (ay .shr .u64 (aq .u64 (aa .add .i64 a1 a3)) (1:Int))) a2) y1.2.1))then((e8 y1.1 y1.2.1 a2 (aa .sub .i64 (aa .add .i64 (aq .i64 (ay .shr .u64 (aq .u64 (aa .add .i64 a1 a3)) (1:Int))) a2) y1.2.1) a4).bind fun y2=>(bif (af .lss a1 y1.2.1)then(bif (af .lss y1.2.1 (aq .i64 (ay .shr .u64 (aq .u64 (aa .add .i64 a1 a3)) (1:Int))))then((rec y2.1 a1 y1.2.1 (aq .i64 (ay .shr .u64 (aq .u64 (aa .add .i64 a1 a3)) (1:Int))) a4).bind fun y3=>(lets (af .lss (aq .i64 (ay .shr .u64 (aq .u64 (aa .add .i64 a1 a3)) (1:Int))) (aa .sub .i64 (aa .add .i64 (aq .i64 (ay .shr .u64 (aq .u64 (aa .add .i64 a1 a3)) (1:Int))) a2) y1.2.1)) fun v4=>(bif v4 then(bif (af .lss (aa .sub .i64 (aa .add .i64 (aq .i64 (ay .shr .u64 (aq .u64 (aa .add .i64 a1 a3)) (1:Int))) a2) y1.2.1) a3)then((rec y3.1 (aq .i64 (ay .shr .u64 (aq .u64 (aa .add .i64 a1 a3)) (1:Int))) (aa .sub .i64 (aa .add .i64 (aq .i64 (ay .shr .u64 (aq .u64 (aa .add .i64 a1 a3)) (1:Int))) a2) y1.2.1) a3 a4).bind fun y5=>some (y5.1,()))else some (y3.1,()))else some (y3.1,()))))else(lets (af .lss (aq .i64 (ay .shr .u64 (aq .u64 (aa .add .i64 a1 a3)) (1:Int))) (aa .sub .i64 (aa .add .i64 (aq .i64 (ay .shr .u64 (aq .u64 (aa .add .i64 a1 a3)) (1:Int))) a2) y1.2.1)) fun v3=>(bif v3 then(bif (af .lss (aa .sub .i64 (aa .add .i64 (aq .i64 (ay .shr .u64 (aq .u64 (aa .add .i64 a1 a3)) (1:Int))) a2) y1.2.1) a3)then((rec y2.1 (aq .i64 (ay .shr .u64 (aq .u64 (aa .add .i64 a1 a3)) (1:Int))) (aa .sub .i64 (aa .add .i64 (aq .i64 (ay .shr .u64 (aq .u64 (aa .add .i64 a1 a3)) (1:Int))) a2) y1.2.1) a3 a4).bind fun y4=>some (y4.1,()))else some (y2.1,()))else some (y2.1,()))))else(lets (af .lss (aq .i64 (ay .shr .u64 (aq .u64 (aa .add .i64 a1 a3)) (1:Int))) (aa .sub .i64 (aa .add .i64 (aq .i64 (ay .shr .u64 (aq .u64 (aa .add .i64 a1 a3)) (1:Int))) a2) y1.2.1)) fun v3=>(bif v3 then(bif (af .lss (aa .sub .i64 (aa .add .i64 (aq .i64 (ay .shr .u64 (aq .u64 (aa .add .i64 a1 a3)) (1:Int))) a2) y1.2.1) a3)then((rec y2.1 (aq .i64 (ay .shr .u64 (aq .u64 (aa .add .i64 a1 a3)) (1:Int))) (aa .sub .i64 (aa .add .i64 (aq .i64 (ay .shr .u64 (aq .u64 (aa .add .i64 a1 a3)) (1:Int))) a2) y1.2.1) a3 a4).bind fun y4=>some (y4.1,()))else some (y2.1,()))else some (y2.1,())))))else(bif (af .lss a1 y1.2.1)then(bif (af .lss y1.2.1 (aq .i64 (ay .shr .u64 (aq .u64 (aa .add .i64 a1 a3)) (1:Int))))then((rec y1.1 a1 y1.2.1 (aq .i64 (ay .shr .u64 (aq .u64 (aa .add .i64 a1 a3)) (1:Int))) a4).bind fun y2=>(lets (af .lss (aq .i64 (ay .shr .u64 (aq .u64 (aa .add .i64 a1 a3)) (1:Int))) (aa .sub .i64 (aa .add .i64 (aq .i64 (ay .shr .u64 (aq .u64 (aa .add .i64 a1 a3)) (1:Int))) a2) y1.2.1)) fun v3=>(bif v3 then(bif (af .lss (aa .sub .i64 (aa .add .i64 (aq .i64 (ay .shr .u64 (aq .u64 (aa .add .i64 a1 a3)) (1:Int))) a2) y1.2.1) a3)then((rec y2.1 (aq .i64 (ay .shr .u64 (aq .u64 (aa .add .i64 a1 a3)) (1:Int))) (aa .sub .i64 (aa .add .i64 (aq .i64 (ay .shr .u64 (aq .u64 (aa .add .i64 a1 a3)) (1:Int))) a2) y1.2.1) a3 a4).bind fun y4=>some (y4.1,()))else some (y2.1,()))else some (y2.1,()))))else(lets (af .lss (aq .i64 (ay .shr .u64 (aq .u64 (aa .add .i64 a1 a3)) (1:Int))) (aa .sub .i64 (aa .add .i64 (aq .i64 (ay .shr .u64 (aq .u64 (aa .add .i64 a1 a3)) (1:Int))) a2) y1.2.1)) fun v2=>(bif v2 then(bif (af .lss (aa .sub .i64 (aa .add .i64 (aq .i64 (ay .shr .u64 (aq .u64 (aa .add .i64 a1 a3)) (1:Int))) a2) y1.2.1) a3)then((rec y1.1 (aq .i64 (ay .shr .u64 (aq .u64 (aa .add .i64 a1 a3)) (1:Int))) (aa .sub .i64 (aa .add .i64 (aq .i64 (ay .shr .u64 (aq .u64 (aa .add .i64 a1 a3)) (1:Int))) a2) y1.2.1) a3 a4).bind fun y3=>some (y3.1,()))else some (y1.1,()))else some (y1.1,()))))else(lets (af .lss (aq .i64 (ay .shr .u64 (aq .u64 (aa .add .i64 a1 a3)) (1:Int))) (aa .sub .i64 (aa .add .i64 (aq .i64 (ay .shr .u64 (aq .u64 (aa .add .i64 a1 a3)) (1:Int))) a2) y1.2.1)) fun v2=>(bif v2 then(bif (af .lss (aa .sub .i64 (aa .add .i64 (aq .i64 (ay .shr .u64 (aq .u64 (aa .add .i64 a1 a3)) (1:Int))) a2) y1.2.1) a3)then((rec y1.1 (aq .i64 (ay .shr .u64 (aq .u64 (aa .add .i64 a1 a3)) (1:Int))) (aa .sub .i64 (aa .add .i64 (aq .i64 (ay .shr .u64 (aq .u64 (aa .add .i64 a1 a3)) (1:Int))) a2) y1.2.1) a3 a4).bind fun y3=>some (y3.1,()))else some (y1.1,()))else some (y1.1,())))))else(bif (af .lss a1 y1.2.1)then(bif (af .lss y1.2.1 (aq .i64 (ay .shr .u64 (aq .u64 (aa .add .i64 a1 a3)) (1:Int))))then((rec y1.1 a1 y1.2.1 (aq .i64 (ay .shr .u64 (aq .u64 (aa .add .i64 a1 a3)) (1:Int))) a4).bind fun y2=>(lets (af .lss (aq .i64 (ay .shr .u64 (aq .u64 (aa .add .i64 a1 a3)) (1:Int))) (aa .sub .i64 (aa .add .i64 (aq .i64 (ay .shr .u64 (aq .u64 (aa .add .i64 a1 a3)) (1:Int))) a2) y1.2.1)) fun v3=>(bif v3 then(bif (af .lss (aa .sub .i64 (aa .add .i64 (aq .i64 (ay .shr .u64 (aq .u64 (aa .add .i64 a1 a3)) (1:Int))) a2) y1.2.1) a3)then((rec y2.1 (aq .i64 (ay .shr .u64 (aq .u64 (aa .add .i64 a1 a3)) (1:Int))) (aa .sub .i64 (aa .add .i64 (aq .i64 (ay .shr .u64 (aq .u64 (aa .add .i64 a1 a3)) (1:Int))) a2) y1.2.1) a3 a4).bind fun y4=>some (y4.1,()))else some (y2.1,()))else some (y2.1,()))))else(lets (af .lss (aq .i64 (ay .shr .u64 (aq .u64 (aa .add .i64 a1 a3)) (1:Int))) (aa .sub .i64 (aa .add .i64 (aq .i64 (ay .shr .u64 (aq .u64 (aa .add .i64 a1 a3)) (1:Int))) a2) y1.2.1)) fun v2=>(bif v2 then(bif (af .lss (aa .sub .i64 (aa .add .i64 (aq .i64 (ay .shr .u64 (aq .u64 (aa .add .i64 a1 a3)) (1:Int))) a2) y1.2.1) a3)then((rec y1.1 (aq .i64 (ay .shr .u64 (aq .u64 (aa .add .i64 a1 a3)) (1:Int))) (aa .sub .i64 (aa .add .i64 (aq .i64 (ay .shr .u64 (aq .u64 (aa .add .i64 a1 a3)) (1:Int))) a2) y1.2.1) a3 a4).bind fun y3=>some (y3.1,()))else some (y1.1,()))else some (y1.1,()))))else(lets (af .lss (aq .i64 (ay .shr .u64 (aq .u64 (aa .add .i64 a1 a3)) (1:Int))) (aa .sub .i64 (aa .add .i64 (aq .i64 (ay .shr .u64 (aq .u64 (aa .add .i64 a1 a3)) (1:Int))) a2) y1.2.1)) fun v2=>(bif v2 then(bif (af .lss (aa .sub .i64 (aa .add .i64 (aq .i64 (ay .shr .u64 (aq .u64 (aa .add .i64 a1 a3)) (1:Int))) a2) y1.2.1) a3)then((rec y1.1 (aq .i64 (ay .shr .u64 (aq .u64 (aa .add .i64 a1 a3)) (1:Int))) (aa .sub .i64 (aa .add .i64 (aq .i64 (ay .shr .u64 (aq .u64 (aa .add .i64 a1 a3)) (1:Int))) a2) y1.2.1) a3 a4).bind fun y3=>some (y3.1,()))else some (y1.1,()))else some (y1.1,())))))) (fun q2=>(Empty.elim q2)) q0))else((gm rec (a1,a2,a3,a4,(aq .i64 (ay .shr .u64 (aq .u64 (aa .add .i64 a1 a3)) (1:Int))),(aa .add .i64 (aq .i64 (ay .shr .u64 (aq .u64 (aa .add .i64 a1 a3)) (1:Int))) a2),(aa .sub .i64 (aa .add .i64 (aq .i64 (ay .shr .u64 (aq .u64 (aa .add .i64 a1 a3)) (1:Int))) a2) (1:Int)),()) (a0,a1,a2,())).bind fun q0=>(Sum.elim (fun y1=>(bif (af .lss y1.2.1 a2)then(bif (af .lss a2 (aa .sub .i64 (aa .add .i64 (aq .i64 (ay .shr .u64 (aq .u64 (aa .add .i64 a1 a3)) (1:Int))) a2) y1.2.1))then((e8 y1.1 y1.2.1 a2 (aa .sub .i64 (aa .add .i64 (aq .i64 (ay .shr .u64 (aq .u64 (aa .add .i64 a1 a3)) (1:Int))) a2) y1.2.1) a4).bind fun y2=>(bif (af .lss a1 y1.2.1)then(bif (af .lss y1.2.1 (aq .i64 (ay .shr .u64 (aq .u64 (aa .add .i64 a1 a3)) (1:Int))))then((rec y2.1 a1 y1.2.1 (aq .i64 (ay .shr .u64 (aq .u64 (aa .add .i64 a1 a3)) (1:Int))) a4).bind fun y3=>(lets (af .lss (aq .i64 (ay .shr .u64 (aq .u64 (aa .add .i64 a1 a3)) (1:Int))) (aa .sub .i64 (aa .add .i64 (aq .i64 (ay .shr .u64 (aq .u64 (aa .add .i64 a1 a3)) (1:Int))) a2) y1.2.1)) fun v4=>(bif v4 then(bif (af .lss (aa .sub .i64 (aa .add .i64 (aq .i64 (ay .shr .u64 (aq .u64 (aa .add .i64 a1 a3)) (1:Int))) a2) y1.2.1) a3)then((rec y3.1 (aq .i64 (ay .shr .u64 (aq .u64 (aa .add .i64 a1 a3)) (1:Int))) (aa .sub .i64 (aa .add .i64 (aq .i64 (ay .shr .u64 (aq .u64 (aa .add .i64 a1 a3)) (1:Int))) a2) y1.2.1) a3 a4).bind fun y5=>some (y5.1,()))else some (y3.1,()))else some (y3.1,()))))else(lets (af .lss (aq .i64 (ay .shr .u64 (aq .u64 (aa .add .i64 a1 a3)) (1:Int))) (aa .sub .i64 (aa .add .i64 (aq .i64 (ay .shr .u64 (aq .u64 (aa .add .i64 a1 a3)) (1:Int))) a2) y1.2.1)) fun v3=>(bif v3 then(bif (af .lss (aa .sub .i64 (aa .add .i64 (aq .i64 (ay .shr .u64 (aq .u64 (aa .add .i64 a1 a3)) (1:Int))) a2) y1.2.1) a3)then((rec y2.1 (aq .i64 (ay .shr .u64 (aq .u64 (aa .add .i64 a1 a3)) (1:Int))) (aa .sub .i64 (aa .add .i64 (aq .i64 (ay .shr .u64 (aq .u64 (aa .add .i64 a1 a3)) (1:Int))) a2) y1.2.1) a3 a4).bind fun y4=>some (y4.1,()))else some (y2.1,()))else some (y2.1,()))))else(lets (af .lss (aq .i64 (ay .shr .u64 (aq .u64 (aa .add .i64 a1 a3)) (1:Int))) (aa .sub .i64 (aa .add .i64 (aq .i64 (ay .shr .u64 (aq .u64 (aa .add .i64 a1 a3)) (1:Int))) a2) y1.2.1)) fun v3=>(bif v3 then(bif (af .lss (aa .sub .i64 (aa .add .i64 (aq .i64 (ay .shr .u64 (aq .u64 (aa .add .i64 a1 a3)) (1:Int))) a2) y1.2.1) a3)then((rec y2.1 (aq .i64 (ay .shr .u64 (aq .u64 (aa .add .i64 a1 a3)) (1:Int))) (aa .sub .i64 (aa .add .i64 (aq .i64 (ay .shr .u64 (aq .u64 (aa .add .i64 a1 a3)) (1:Int))) a2) y1.2.1) a3 a4).bind fun y4=>some (y4.1,()))else some (y2.1,()))else some (y2.1,())))))else(bif (af .lss a1 y1.2.1)then(bif (af .lss y1.2.1 (aq .i64 (ay .shr .u64 (aq .u64 (aa .add .i64 a1 a3)) (1:Int))))then((rec y1.1 a1 y1.2.1 (aq .i64 (ay .shr .u64 (aq .u64 (aa .add .i64 a1 a3)) (1:Int))) a4).bind fun y2=>(lets (af .lss (aq .i64 (ay .shr .u64 (aq .u64 (aa .add .i64 a1 a3)) (1:Int))) (aa .sub .i64 (aa .add .i64 (aq .i64 (ay .shr .u64 (aq .u64 (aa .add .i64 a1 a3)) (1:Int))) a2) y1.2.1)) fun v3=>(bif v3 then(bif (af .lss (aa .sub .i64 (aa .add .i64 (aq .i64 (ay .shr .u64 (aq .u64 (aa .add .i64 a1 a3)) (1:Int))) a2) y1.2.1) a3)then((rec y2.1 (aq .i64 (ay .shr .u64 (aq .u64 (aa .add .i64 a1 a3)) (1:Int))) (aa .sub .i64 (aa .add .i64 (aq .i64 (ay .shr .u64 (aq .u64 (aa .add .i64 a1 a3)) (1:Int))) a2) y1.2.1) a3 a4).bind fun y4=>some (y4.1,()))else some (y2.1,()))else some (y2.1,()))))else(lets (af .lss (aq .i64 (ay .shr .u64 (aq .u64 (aa .add .i64 a1 a3)) (1:Int))) (aa .sub .i64 (aa .add .i64 (aq .i64 (ay .shr .u64 (aq .u64 (aa .add .i64 a1 a3)) (1:Int))) a2) y1.2.1)) fun v2=>(bif v2 then(bif (af .lss (aa .sub .i64 (aa .add .i64 (aq .i64 (ay .shr .u64 (aq .u64 (aa .add .i64 a1 a3)) (1:Int))) a2) y1.2.1) a3)then((rec y1.1 (aq .i64 (ay .shr .u64 (aq .u64 (aa .add .i64 a1 a3)) (1:Int))) (aa .sub .i64 (aa .add .i64 (aq .i64 (ay .shr .u64 (aq .u64 (aa .add .i64 a1 a3)) (1:Int))) a2) y1.2.1) a3 a4).bind fun y3=>some (y3.1,()))else some (y1.1,()))else some (y1.1,()))))else(lets (af .lss (aq .i64 (ay .shr .u64 (aq .u64 (aa .add .i64 a1 a3)) (1:Int))) (aa .sub .i64 (aa .add .i64 (aq .i64 (ay .shr .u64 (aq .u64 (aa .add .i64 a1 a3)) (1:Int))) a2) y1.2.1)) fun v2=>(bif v2 then(bif (af .lss (aa .sub .i64 (aa .add .i64 (aq .i64 (ay .shr .u64 (aq .u64 (aa .add .i64 a1 a3)) (1:Int))) a2) y1.2.1) a3)then((rec y1.1 (aq .i64 (ay .shr .u64 (aq .u64 (aa .add .i64 a1 a3)) (1:Int))) (aa .sub .i64 (aa .add .i64 (aq .i64 (ay .shr .u64 (aq .u64 (aa .add .i64 a1 a3)) (1:Int))) a2) y1.2.1) a3 a4).bind fun y3=>some (y3.1,()))else some (y1.1,()))else some (y1.1,())))))else(bif (af .lss a1 y1.2.1)then(bif (af .lss y1.2.1 (aq .i64 (ay .shr .u64 (aq .u64 (aa .add .i64 a1 a3)) (1:Int))))then((rec y1.1 a1 y1.2.1 (aq .i64 (ay .shr .u64 (aq .u64 (aa .add .i64 a1 a3)) (1:Int))) a4).bind fun y2=>(lets (af .lss (aq .i64 (ay .shr .u64 (aq .u64 (aa .add .i64 a1 a3)) (1:Int))) (aa .sub .i64 (aa .add .i64 (aq .i64 (ay .shr .u64 (aq .u64 (aa .add .i64 a1 a3)) (1:Int))) a2) y1.2.1)) fun v3=>(bif v3 then(bif (af .lss (aa .sub .i64 (aa .add .i64 (aq .i64 (ay .shr .u64 (aq .u64 (aa .add .i64 a1 a3)) (1:Int))) a2) y1.2.1) a3)then((rec y2.1 (aq .i64 (ay .shr .u64 (aq .u64 (aa .add .i64 a1 a3)) (1:Int))) (aa .sub .i64 (aa .add .i64 (aq .i64 (ay .shr .u64 (aq .u64 (aa .add .i64 a1 a3)) (1:Int))) a2) y1.2.1) a3 a4).bind fun y4=>some (y4.1,()))else some (y2.1,()))else some (y2.1,()))))else(lets (af .lss (aq .i64 (ay .shr .u64 (aq .u64 (aa .add .i64 a1 a3)) (1:Int))) (aa .sub .i64 (aa .add .i64 (aq .i64 (ay .shr .u64 (aq .u64 (aa .add .i64 a1 a3)) (1:Int))) a2) y1.2.1)) fun v2=>(bif v2 then(bif (af .lss (aa .sub .i64 (aa .add .i64 (aq .i64 (ay .shr .u64 (aq .u64 (aa .add .i64 a1 a3)) (1:Int))) a2) y1.2.1) a3)then((rec y1.1 (aq .i64 (ay .shr .u64 (aq .u64 (aa .add .i64 a1 a3)) (1:Int))) (aa .sub .i64 (aa .add .i64 (aq .i64 (ay .shr .u64 (aq .u64 (aa .add .i64 a1 a3)) (1:Int))) a2) y1.2.1) a3 a4).bind fun y3=>some (y3.1,()))else some (y1.1,()))else some (y1.1,()))))else(lets (af .lss (aq .i64 (ay .shr .u64 (aq .u64 (aa .add .i64 a1 a3)) (1:Int))) (aa .sub .i64 (aa .add .i64 (aq .i64 (ay .shr .u64 (aq .u64 (aa .add .i64 a1 a3)) (1:Int))) a2) y1.2.1)) fun v2=>(bif v2 then(bif (af .lss (aa .sub .i64 (aa .add .i64 (aq .i64 (ay .shr .u64 (aq .u64 (aa .add .i64 a1 a3)) (1:Int))) a2) y1.2.1) a3)then((rec y1.1 (aq .i64 (ay .shr .u64 (aq .u64 (aa .add .i64 a1 a3)) (1:Int))) (aa .sub .i64 (aa .add .i64 (aq .i64 (ay .shr .u64 (aq .u64 (aa .add .i64 a1 a3)) (1:Int))) a2) y1.2.1) a3 a4).bind fun y3=>some (y3.1,()))else some (y1.1,()))else some (y1.1,())))))) (fun q2=>(Empty.elim q2)) q0))))))
noncomputable def iL:Nat->(List (Int))->Int->Int->Int->(List (Int×Int×Int×Int×Int×Int×Int))->Option ((List (Int))×Unit)|0=>fun _ _ _ _ _=>none|n+1=>bu (iL n)
noncomputable def jr(a:Ke)(b c d:Int)(e:Kq):PW:=iL big a b c d e
noncomputable def jn(a:QG)(b:PV):RO:=letI c:=b.2.2.1;cond (af .leq c a.1) ((gb b.1 b.2.1 c a.2.1).bind fun d=>some (.inl (d.1,c,aa .add .i64 c a.2.2.1,()))) (some (.inr (.inl (b.1,b.2.1,()))))
noncomputable def IF k x:=iter (jn k) big x
noncomputable def fu(a:QG)(b:PV):RO:=letI c:=b.2.2.1;cond (af .leq c a.1) ((jr b.1 b.2.1 (aa .add .i64 b.2.1 a.2.2.1) c a.2.1).bind fun d=>some (.inl (d.1,c,aa .add .i64 c (aa .mul .i64 2 a.2.2.1),()))) (some (.inr (.inl (b.1,b.2.1,()))))
noncomputable def ve k x:=iter (fu k) big x
noncomputable def bn(a:Int×Ow)(b:Oy):QE:=letI c:=b.2.1;cond (af .lss c a.1) ((ve (a.1,a.2.1,c,()) (b.1,0,aa .mul .i64 2 c,())).bind fun d=>Sum.elim (fun e=>letI f:=aa .mul .i64 c 2;letI g:=aa .add .i64 e.2.1 c;cond (af .lss g a.1) ((jr e.1 e.2.1 g a.1 a.2.1).bind fun h=>some (.inl (h.1,f,()))) (some (.inl (e.1,f,())))) (fun e=>Empty.elim e) d) (some (.inr (.inl (b.1,()))))
noncomputable def IG k x:=iter (bn k) big x
noncomputable def lj(a:Ke)(b:Int)(c:Kq):PW:=(IF (b,c,20,()) (a,0,20,())).bind fun d=>Sum.elim (fun e=>(gb e.1 e.2.1 b c).bind fun f=>(IG (b,c,()) (f.1,20,())).bind fun g=>Sum.elim (fun h=>some (h.1,())) (fun h=>Empty.elim h) g) (fun e=>Empty.elim e) d
noncomputable def me(a:Ke)(b:Kq):PW:=(lj a (ai a) b).bind fun c=>some (c.1,())
noncomputable def J8(a:Nq)(b:Kq×Oy):Option (Kq×Oy⊕Kq×QX⊕Empty):=letI c:=b.2.2.1;cond (af .lss c a.1) (cond (aE (List.append (α:=Int) b.2.1 (List.append (α:=Int) ([]:Ke) [c]))) (some (.inl (b.1,List.append (α:=Int) b.2.1 (List.append (α:=Int) ([]:Ke) [c]),aa .add .i64 c 1,()))) none) (some (.inr (.inl (b.1,b.2.1,()))))
noncomputable def KN k x:=iter (J8 k) big x
noncomputable def J4(a:Kq):PW:=(Jn a).bind fun b=>cond (Bool.not b.1) (some (([]:Ke),())) ((KN (ai a,()) (a,([]:Ke),0,())).bind fun c=>Sum.elim (fun d=>(me d.2.1 d.1).bind fun e=>some (e.1,())) (fun d=>Empty.elim d) c)
end Go.Fn
namespace Go.Fn
open Go.R
abbrev Ev:=Int×Int×Int×Int×Int×Int×Int
noncomputable def Oa(a lo hi:Int):Bool:=bif decide (a>=lo)then decide (a<=hi)else false
theorem L9(a lo hi:Int):Jv a lo hi=some (Oa a lo hi,()):=by unfold Jv Oa;simp only[af];cases decide (a>=lo) <;> rfl
theorem Rn(a lo hi:Int):JM a lo hi=some (Oa a lo hi,()):=L9 a lo hi
theorem Ot(a:Int):KJ a=some (Oa a 0 20000,()):=by unfold KJ;rw[L9];rfl
noncomputable def KM(e:Ev):Bool:=bif Oa e.1 0 5 then bif Oa e.2.1 1 999 then bif Oa e.2.2.1 1 100000 then bif Oa e.2.2.2.1 1 4 then bif Oa e.2.2.2.2.1 1 999 then bif Oa e.2.2.2.2.2.1 0 20000 then Oa e.2.2.2.2.2.2 0 20000 else false else false else false else false else false else false
theorem MZ{α:Type}(b:Bool)(x y:α):(bif b then some x else some y)=some (bif b then x else y):=by cases b <;> rfl
theorem MY(b x y:Bool):(bif b then(x,())else(y,()))=((bif b then x else y),()):=by cases b <;> rfl
theorem MH(a b c d e f g:Int):Kl a b c d e f g=some (KM (a,b,c,d,e,f,g),()):=by unfold Kl KM;simp only[Rn,Option.bind_some,MZ,MY]
theorem MD(a b c d e f g:Int):Kh a b c d e f g=some (KM (a,b,c,d,e,f,g),()):=by unfold Kh KM;simp only[L9,Ot,Option.bind_some,MZ,MY]
noncomputable def MF(p e:Ev):Bool:=!(decide (e.1<p.1)||(decide (e.1=p.1)&&(decide (e.2.1<=p.2.1)||decide (e.2.2.1<=p.2.2.1))))
noncomputable def KS(l:List Ev):Nat->Bool
 |0=>KM (l.getD 0 br)
 |n+1=>KM (l.getD (n+1) br)&&MF (l.getD n br) (l.getD (n+1) br)
noncomputable def JZ(l:List Ev):Bool:=bif decide (60<l.length)then false else aB (KS l) 0 l.length
theorem P5(l:List Ev):af .gtr (ai l) (60:Int)=decide (60<l.length):=by simp only[af,ai,gt_iff_lt,decide_eq_decide];omega
theorem LZ(l:List Ev):Jn l=some (JZ l,()):=by
 unfold Jn JZ;rw[P5];cases hl:decide (60<l.length)with
 |true=>rfl
 |false=>
  have hl:l.length<=60:=by have:=of_decide_eq_false hl;omega
  have Li:Kj (l,l,(ai l),()) ((0:Int),())=some (bif aB (KS l) 0 l.length then(Sum.inr (Sum.inl ()):Bool×Unit⊕(Unit⊕Empty))else Sum.inl (false,())):=by
   refine bq (fun n=>((n:Int),())) l.length (by omega) (KS l) _ _ (fun n hn=>?_) ?_
   ·unfold Ki;simp only[aj,ax,ak,MD,hn,decide_true,cond_true,Option.bind_some];cases n with
    |zero=>simp only[KS];cases KM (l.getD 0 br) <;> rfl
    |succ n=>
     have hn':n<l.length:=by omega
     simp only[KS,au (n:=n+1) (by omega),iD (n:=n) (by omega),cK hn',ak,MF,af];have e0:((((n+1:Nat):Int))==0)=false:=by rw[beq_eq_false_iff_ne];omega
     rw[e0];simp only[cond_false,cond_true];generalize l.getD (n+1) br=e;generalize l.getD n br=p;show(bif !(KM e)then _ else _)=_;cases KM e with
     |false=>rfl
     |true=>
      simp only[Bool.not_true,cond_false,Bool.true_and];cases decide (e.1<p.1)with
      |true=>rfl
      |false=>
       simp only[cond_false,Bool.false_or];have eb:(e.1==p.1)=decide (e.1=p.1):=rfl;rw[eb];cases decide (e.1=p.1)with
       |false=>rfl
       |true=>
        simp only[cond_true,Bool.true_and];cases decide (e.2.1<=p.2.1)with
        |true=>rfl
        |false=>cases decide (e.2.2.1<=p.2.2.1) <;> rfl
   ·unfold Ki;simp only[aj,Nat.lt_irrefl,decide_false,cond_false]
  rw[Li];cases aB (KS l) 0 l.length <;> rfl
theorem RC(n:Nat):af .gtr ((n+1:Nat):Int) 0=true:=by simp only[af,gt_iff_lt,decide_eq_true_eq];omega
theorem Ll(l:List Ev):I6 l=some (JZ l,()):=by
 unfold I6 JZ;rw[P5];cases hl:decide (60<l.length)with
 |true=>rfl
 |false=>
  have hl:l.length<=60:=by have:=of_decide_eq_false hl;omega
  have Li:Kn (l,()) ((0:Int),())=some (bif aB (KS l) 0 l.length then(Sum.inr (Sum.inl ()):Bool×Unit⊕(Unit⊕Empty))else Sum.inl (false,())):=by
   refine bq (fun n=>((n:Int),())) l.length (by omega) (KS l) _ _ (fun n hn=>?_) ?_
   ·unfold Km;simp only[aj,ax,ak,MH,hn,decide_true,cond_true,Option.bind_some];cases n with
    |zero=>simp only[KS];cases KM (l.getD 0 br) <;> rfl
    |succ n=>
     have hn':n<l.length:=by omega
     simp only[KS,RC,au (n:=n+1) (by omega),iD (n:=n) (by omega),cK hn',ak,MF,cond_true];simp only[af];generalize l.getD (n+1) br=e;generalize l.getD n br=p;show(bif !(KM e)then _ else _)=_;cases KM e with
     |false=>rfl
     |true=>
      simp only[Bool.not_true,cond_false,Bool.true_and];cases decide (e.1<p.1)with
      |true=>rfl
      |false=>
       simp only[cond_false,Bool.false_or];have eb:(e.1==p.1)=decide (e.1=p.1):=rfl;rw[eb];cases decide (e.1=p.1)with
       |false=>rfl
       |true=>
        simp only[cond_true,Bool.true_and];cases decide (e.2.1<=p.2.1)with
        |true=>rfl
        |false=>cases decide (e.2.2.1<=p.2.2.1) <;> rfl
   ·unfold Km;simp only[aj,Nat.lt_irrefl,decide_false,cond_false]
  rw[Li];cases aB (KS l) 0 l.length <;> rfl
theorem Lv(a:Int):af .neq a a=false:=by simp[af]
end Go.Fn
set_option linter.unusedSimpArgs false
namespace Go.Fn
open Go.R
theorem Jw{l:List Ev}(h:JZ l=true):l.length<=60:=by
 unfold JZ at h;cases hd:decide (60<l.length)with
 |true=>rw[hd]at h;cases h
 |false=>have:=of_decide_eq_false hd;omega
theorem NB{l:List Ev}(h:JZ l=true){n:Nat}(hn:n<l.length):KS l n=true:=by have PB:=Jw h;unfold JZ at h;rw[decide_eq_false (by omega)]at h;exact(aO _ _).1 h n (Nat.zero_le _) (by omega)
theorem NC{l:List Ev}(h:JZ l=true){n:Nat}(hn:n<l.length):KM (l.getD n br)=true:=by
 have:=NB h hn;cases n with
 |zero=>exact this
 |succ n=>simp only[KS,Bool.and_eq_true]at this;exact this.1
theorem PD{a lo hi:Int}:Oa a lo hi=true↔lo<=a/\a<=hi:=by
 unfold Oa;by_cases h:lo<=a
 ·rw[decide_eq_true (show a>=lo from h)];simp[h]
 ·rw[decide_eq_false (show ¬a>=lo from h)];simp[h]
theorem Pw{a b:Bool}:(bif a then b else false)=true↔a=true/\b=true:=by cases a <;> simp
theorem KH{e:Ev}:KM e=true↔(0<=e.1/\e.1<=5)/\(1<=e.2.1/\e.2.1<=999)/\(1<=e.2.2.1/\e.2.2.1<=100000)/\(1<=e.2.2.2.1/\e.2.2.2.1<=4)/\(1<=e.2.2.2.2.1/\e.2.2.2.2.1<=999)/\(0<=e.2.2.2.2.2.1/\e.2.2.2.2.2.1<=20000)/\(0<=e.2.2.2.2.2.2/\e.2.2.2.2.2.2<=20000):=by unfold KM;simp only[Pw,PD]
theorem O1{a:Int}(h:0<=a):af .lss a 0=false:=by simp only[af,decide_eq_false_iff_not];omega
theorem J0{α:Type}{l:List α}(h:l.length<=1073741824):aE l=true:=by unfold aE limit;exact decide_eq_true (by omega)
end Go.Fn
set_option linter.unusedSimpArgs false
namespace Go.Fn
open Go.R
abbrev Ry:=Int×Int
abbrev UE:=Int×Int×Int×Int
theorem Om(b:Bool):bT b b=true:=by unfold bT;simp
end Go.Fn
set_option linter.unusedSimpArgs false
namespace Go.Fn
open Go.R
abbrev Ps:=Int×Int×Int×Int×Int
end Go.Fn
set_option linter.unusedSimpArgs false
namespace Go.Fn
open Go.R
noncomputable def Ux(g:List (List Int))(i j:Nat):Int:=(g.getD i Rw).getD j zI
end Go.Fn
set_option linter.unusedSimpArgs false
namespace Go.Fn
open Go.R
abbrev Rx:=Int×List Int×Int×Int×Int×Int
noncomputable def arr(g:List (List Int))(st:Rx)(i:Int):Int:=aa .add .i64 st.2.2.1 (ae zI (ae Rw g st.2.2.2.2.2) (aa .add .i64 i 1))
noncomputable def Ro(s:List Ps)(l i:Int):Int:=aa .add .i64 l (ae QC s i).2.2.2.1
noncomputable def P6(s:List Ps)(o:List Int):Int:=o.foldl (Ro s) 0
noncomputable def start(a0:Int)(s:List Ps)(o:List Int):Rx:=(P6 s o,[],a0,P6 s o,0,0)
end Go.Fn
set_option linter.unusedSimpArgs false
namespace Go.Fn
open Go.R
abbrev UF:=Int×Int×Int×Int×Int×Int×Int×Int
end Go.Fn
set_option linter.unusedSimpArgs false
namespace Go.Fn
open Go.R
abbrev Bx:=Int×Int×Int×Bool
abbrev QO:=Int×List Int×List Bx
abbrev Site:=List Ry×List Ry×List QO×Int×Int×Bool×Bool×Bool×Int×Int×List Ev
theorem KI{α:Type}{l:List α}{n:Nat}(h:n<l.length)(z:α):l.getD n z∈l:=by rw[List.getD_eq_getElem?_getD,List.getElem?_eq_getElem h];exact List.getElem_mem h
end Go.Fn
set_option linter.unusedSimpArgs false
namespace Go.Fn
open Go.R
abbrev TA:=Int×Int×Int×Int×Int×Int×Int×Int×Int×Int×Int×Int×Int
abbrev Tz:=Int×Int×Int×Int×Int×Int×Bool
end Go.Fn
namespace Go.R
def Yl{α:Type}(x:Option α)(P:α->Prop):Prop:=∃a,x=some a/\P a
section
variable {α β:Type} {P:α->Prop} {Q:β->Prop}
theorem Yl.ret{a:α}(h:P a):Yl (some a) P:=⟨a,rfl,h⟩
theorem Yl.bind{x:Option α}{f:α->Option β}(hx:Yl x P)(hf:∀a,P a->Yl (f a) Q):Yl (x.bind f) Q:=by obtain⟨a,rfl,ha⟩:=hx;exact hf a ha
theorem Yl.mono{P':α->Prop}{x:Option α}(hx:Yl x P)(h:∀a,P a->P' a):Yl x P':=by obtain⟨a,e,ha⟩:=hx;exact⟨a,e,h a ha⟩
theorem Yl.cond{b:Bool}{x y:Option α}(hx:b=true->Yl x P)(hy:b=false->Yl y P):Yl (bif b then x else y) P:=by
 cases b
 ·exact hy rfl
 ·exact hx rfl
theorem Yl.guard{b:Bool}{x:Option α}(hb:b=true)(hx:Yl x P):Yl (bif b then x else none) P:=by subst hb;exact hx
theorem Yl.MP{b:Bool}{x:Option α}(hb:b=false)(hx:Yl x P):Yl (bif b then none else x) P:=by subst hb;exact hx
theorem Yl.lets{γ:Type}{v:γ}{k:γ->Option α}(h:Yl (k v) P):Yl (lets v k) P:=h
theorem Yl.loop{X Y:Type}{body:X->Option (X⊕Y)}(Inv:X->Prop)(m:X->Nat){R:Y->Prop}(hb:∀x,Inv x->Yl (body x) fun r=>match r with| .inl y=>Inv y/\m y<m x| .inr b=>R b):
  ∀(n:Nat) (x:X),Inv x->m x<n->Yl (iter body n x) R
 |0,_,_,h=>absurd h (Nat.not_lt_zero _)
 |n+1,x,hi,hm=>by
  obtain⟨r,e,hr⟩:=hb x hi;cases r with
  |inl y=>rw[aF e];exact Yl.loop Inv m hb n y hr.1 (by omega)
  |inr b=>exact⟨b,av e,hr⟩
end
theorem LA{a b:Int}:af .lss a b=decide (a<b):=rfl
theorem Mi{a b:Int}:af .leq a b=decide (a<=b):=rfl
theorem LD{α:Type}{l:List α}{i:Int}(h0:0<=i)(h1:i<(l.length:Int)):ah l i=true:=by unfold ah;rw[Bool.and_eq_true];exact⟨decide_eq_true h0,decide_eq_true h1⟩
theorem J0{α:Type}{l:List α}(h:l.length<=1073741824):aE l=true:=by unfold aE limit;exact decide_eq_true (by omega)
theorem OA(x:Int){c:Nat}(hc:c<9223372036854775808):0<=aa .and .i64 x (c:Int)/\aa .and .i64 x (c:Int)<=(c:Int):=by
 have h1:(BitVec.ofInt 64 (c:Int)).toNat=c:=by rw[BitVec.toNat_ofInt];have:((c:Int) % ((2 ^ 64:Nat):Int))=c:=Int.emod_eq_of_lt (by omega) (by omega);rw[this];rfl
 have h2:(BitVec.ofInt 64 x &&& BitVec.ofInt 64 (c:Int)).toNat<=c:=by rw[BitVec.toNat_and,h1];exact Nat.and_le_right
 have e:aa .and .i64 x (c:Int)=IntKind.i64.wrap (((BitVec.ofInt 64 x &&& BitVec.ofInt 64 (c:Int)).toNat:Nat):Int):=rfl;rw[e,zx (by omega) (by omega)];exact⟨by omega,by omega⟩
open Go.Fn
def PT(b:List Int)(lo hi:Int)(y:Int×List Int×Int×Int×Unit):Prop:=lo<=y.1/\y.1<=hi/\y.2.1=b/\0<=y.2.2.1
theorem Ly(b:List Int)(hb:b.length<=1048576)(i h:Int)(hi:0<=i):Yl (Jc b i h) (PT b 0 255):=by
 unfold Jc;refine .MP rfl (.MP rfl (.lets (.cond (fun h1=>?_) fun _=>?_)))
 ·rw[LA]at h1;have h1:i<(b.length:Int):=of_decide_eq_true h1;refine .guard (LD hi h1) (.ret ?_);have:=OA (aa .add .i64 (aa .and .i64 (aa .xor .i64 (ay .shr .i64 (aa .add .i64 (aa .mul .i64 h 6364136223846793005) 1442695040888963407) 33) (ay .shr .i64 (aa .add .i64 (aa .mul .i64 h 6364136223846793005) 1442695040888963407) 45)) 255) (aq .i64 (ae zI b i))) (c:=255) (by omega);refine⟨this.1,this.2,rfl,?_⟩;show 0<=aa .add .i64 i 1;rw[bU (by omega) (by omega)];omega
 ·have:=OA (aa .xor .i64 (ay .shr .i64 (aa .add .i64 (aa .mul .i64 h 6364136223846793005) 1442695040888963407) 33) (ay .shr .i64 (aa .add .i64 (aa .mul .i64 h 6364136223846793005) 1442695040888963407) 45)) (c:=255) (by omega);exact .ret ⟨this.1,this.2,rfl,hi⟩
theorem IM(b:List Int)(hb:b.length<=1048576)(i h n:Int)(hi:0<=i)(hn:n<=1073741824):Yl (bg b i h n) (PT b 0 (max 0 (n-1))):=by
 unfold bg;have mod:∀(x:Int),0<=x->0<n->0<=aa .rem .i64 x n/\aa .rem .i64 x n<=max 0 (n-1):=by intro x hx hn;have e:aa .rem .i64 x n=x.tmod n:=rfl;have h1:=Int.tmod_nonneg n hx;have h2:=Int.tmod_lt_of_pos x hn;rw[e];omega
 refine .cond (fun _=>.ret ⟨Int.le_refl _,by show(0:Int)<=max 0 (n-1);omega,rfl,hi⟩) fun h0=>.cond (fun _=>?_) fun h1=>?_
 ·rw[Mi]at h0;have h0:=of_decide_eq_false h0;refine(Ly b hb i h hi).bind fun y hy=>.MP (decide_eq_false (by omega)) (.ret ?_);have:=mod y.1 hy.1 (by omega);exact⟨this.1,this.2,hy.2.2.1,hy.2.2.2⟩
 ·rw[Mi]at h0;have h0:=of_decide_eq_false h0;refine(Ly b hb i h hi).bind fun y hy=>?_;obtain⟨y1,y2,y3,y4⟩:=hy;rw[y3];refine(Ly b hb _ _ y4).bind fun z hz=>?_;obtain⟨z1,z2,z3,z4⟩:=hz;rw[z3];refine(Ly b hb _ _ z4).bind fun u hu=>?_;obtain⟨u1,u2,u3,u4⟩:=hu;rw[u3];refine(Ly b hb _ _ u4).bind fun v hv=>.lets (.MP (decide_eq_false (by omega)) (.ret ?_));obtain⟨v1,v2,v3,v4⟩:=hv;have e:aa .add .i64 (aa .add .i64 (aa .add .i64 (aa .mul .i64 y.1 16777216) (aa .mul .i64 z.1 65536)) (aa .mul .i64 u.1 256)) v.1=y.1*16777216+z.1*65536+u.1*256+v.1:=by rw[iY (a:=y.1) (by omega) (by omega),iY (a:=z.1) (by omega) (by omega),iY (a:=u.1) (by omega) (by omega),bU (a:=y.1*16777216) (by omega) (by omega),bU (a:=y.1*16777216+z.1*65536) (by omega) (by omega),bU (a:=y.1*16777216+z.1*65536+u.1*256) (by omega) (by omega)]
  have:=mod (y.1*16777216+z.1*65536+u.1*256+v.1) (by omega) (by omega);rw[e];exact⟨this.1,this.2,v3,v4⟩
theorem NU(b:List Int)(hb:b.length<=1048576)(i h n:Int)(hi:0<=i)(hn:n<=1073741824):Yl (kW b i h n) fun y=>y.2.1=b/\0<=y.2.2.1:=by unfold kW;exact(IM b hb i h n hi hn).bind fun y hy=>.ret ⟨hy.2.2.1,hy.2.2.2⟩
theorem Kc(b:List Int)(hb:b.length<=1048576)(i h:Int)(l:List Int)(hi:0<=i)(h1:1<=l.length)(h2:l.length<=1048576):Yl (lm b i h l) fun y=>y.1∈l/\y.2.1=b/\0<=y.2.2.1:=by
 unfold lm;refine(IM b hb i h (ai l) hi (by unfold ai;omega)).bind fun y hy=>?_;obtain⟨y1,y2,y3,y4⟩:=hy;have y2:y.1<=max 0 ((l.length:Int)-1):=y2;refine .guard (LD y1 (by omega)) (.ret ⟨?_,y3,y4⟩);show l.getD y.1.toNat zI∈l;have hlt:y.1.toNat<l.length:=by omega
 rw[List.getD_eq_getElem?_getD,List.getElem?_eq_getElem hlt];exact List.getElem_mem hlt
theorem Qx(b:List Int)(hb:b.length<=1048576):Yl (K8 b) fun y=>y.1=b/\y.2.1=0:=by
 unfold K8;have hl:Yl (Ko (b,()) (aa .add .i64 33183 (ai b),0,())) fun _=>True:=by unfold Ko;refine Yl.loop (fun x=>0<=x.2.1) (fun x=>b.length+1-x.2.1.toNat) (fun x hx=>?_) big _ (by show(0:Int)<=0;omega) (aN (by show b.length+1-(0:Int).toNat<_;omega));unfold Lw;refine .cond (fun h1=>.cond (fun _=>?_) fun _=>.ret trivial) fun _=>.ret trivial;rw[LA]at h1;have h1:x.2.1<(b.length:Int):=of_decide_eq_true h1;refine .guard (LD hx h1) (.ret ?_);have e:aa .add .i64 x.2.1 1=x.2.1+1:=bU (by omega) (by omega);show 0<=aa .add .i64 x.2.1 1/\b.length+1-(aa .add .i64 x.2.1 1).toNat<b.length+1-x.2.1.toNat;rw[e];omega
 refine hl.bind fun q _=>?_;cases q with
 |inl y=>exact .ret ⟨rfl,rfl⟩
 |inr q=>exact nomatch q
end Go.R
set_option linter.unusedSimpArgs false
set_option linter.unusedVariables false
namespace Go.Fn
open Go.R Go.Sort
theorem P3{α:Type}(d:Array α)(i:Nat):ah d.toList (i:Int)=decide (i<d.size):=by rw[ax,Array.length_toList]
theorem RK{α:Type}(d:Array α)(i j:Nat)(x:α):ah (aC d.toList (i:Int) x) (j:Int)=decide (j<d.size):=by rw[aQ,jt,Array.length_toList]
section
variable {α:Type} [Inhabited α] {lt:α->α->Bool}
theorem gA(d:Array α)(i:Nat):ae default d.toList (i:Int)=d[i]!:=by rw[ak,List.getD_eq_getElem?_getD,getElem!_def,<-Array.getElem?_toList];cases d.toList[i]? <;> rfl
theorem RL(d:Array α)(i j:Nat):aC (aC d.toList (i:Int) d[j]!) (j:Int) d[i]! = (swp d i j).toList:=by rw[aQ,aQ];unfold swp;rw[Array.toList_setIfInBounds,Array.toList_setIfInBounds]
theorem aS{n m:Nat}(h:n+m<1099511627776):aa .add .i64 (n:Int) (m:Int)=((n+m:Nat):Int):=by rw[bU] <;> omega
theorem sS{n m:Nat}(h:m<=n)(h2:n<1099511627776):aa .sub .i64 (n:Int) (m:Int)=((n-m:Nat):Int):=by rw[bM] <;> omega
theorem mS{n m:Nat}(h:n*m<1099511627776):aa .mul .i64 (n:Int) (m:Int)=((n*m:Nat):Int):=by
 rw[iY]
 ·rw[Int.natCast_mul]
 ·rw[<-Int.natCast_mul];omega
 ·rw[<-Int.natCast_mul];omega
theorem Pk(n m:Nat):af .gtr (n:Int) (m:Int)=decide (n>m):=by simp[af]
theorem Mb(n m:Nat):af .lss (n:Int) (m:Int)=decide (n<m):=by simp[af]
theorem Qv(n m:Nat):af .leq (n:Int) (m:Int)=decide (n<=m):=by simp[af]
theorem QH(n m:Nat):af .eql (n:Int) (m:Int)=decide (n=m):=by
 simp only[af];by_cases h:n=m
 ·subst h;simp
 ·rw[decide_eq_false h];simp;omega
theorem Ld(lt:α->α->Bool)(a:Nat):∀j (d:Array α),(insInner lt a j d).size=d.size
 |0,_=>rfl
 |j+1,d=>by
  unfold insInner;split
  ·rw[Ld lt a j,size_swp]
  ·rfl
theorem one:(1:Int)=((1:Nat):Int):=rfl
end
end Go.Fn
set_option linter.unusedSimpArgs false
set_option linter.unusedVariables false
namespace Go.Fn
open Go.R Go.Sort
theorem Sq{n:Int}(h1:0<=n)(h2:n<18446744073709551616):IntKind.u64.wrap n=n:=IntWalk.u64_in n ⟨h1,by omega⟩
theorem Q1{n:Nat}(h:n<1099511627776):aq .i64 (n:Int)=(n:Int):=zx (by omega) (by omega)
section
variable {α:Type} [Inhabited α] {lt:α->α->Bool}
theorem Q2{n:Nat}(h:n<1099511627776):aq .u64 (n:Int)=(n:Int):=Sq (by omega) (by omega)
abbrev QS(α:Type):=Option (((List α)×Int×Int×Int×Bool×Bool×Unit)⊕((List α)×Unit⊕Empty))
noncomputable def Next(lt:α->α->Bool)(q:QS α)(d:Array α)(a b:Nat):Prop:=
 (∃R,q=some (.inr (.inl (R.toList,())))/\PermIn a b d R/\SortedIn lt a b R) \/
 (∃(E:Array α) (a' b':Nat) (L:Int) (wb wp:Bool),q=some (.inl (E.toList,(a':Int),(b':Int),L,wb,wp,()))/\E.size=d.size/\a'<=b'/\b'<=b/\b'-a'<b-a/\Below lt a' b' E/\∀R,PermIn a' b' E R->SortedIn lt a' b' R->PermIn a b d R/\SortedIn lt a b R)
theorem Next.mono{q:QS α}{d D:Array α}{a b:Nat}(h:Next lt q D a b)(p:PermIn a b d D):Next lt q d a b:=by
 rcases h with ⟨R,h1,h2,h3⟩|⟨E,a',b',L,wb,wp,h1,h2,h3,h4,h5,h6,h7⟩
 ·exact .inl ⟨R,h1,permIn_trans _ _ _ a b p h2,h3⟩
 ·refine .inr ⟨E,a',b',L,wb,wp,h1,by rw[h2,p.1],h3,h4,h5,h6,fun R hR hs=>?_⟩;obtain⟨k1,k2⟩:=h7 R hR hs;exact⟨permIn_trans _ _ _ a b p k1,k2⟩
end
end Go.Fn
set_option linter.unusedSimpArgs false
set_option linter.unusedVariables false
namespace Go.Fn
open Go.R Go.Sort
noncomputable def Mt(x y:Ev):Bool:=decide (x.1<y.1)||(decide (x.1=y.1)&&decide (x.2.1<y.2.1))
noncomputable def Pn(a b:Int):Int:=bif decide (a<b)then -1 else bif decide (b<a)then 1 else 0
theorem compare_eq(a b:Int):JG a b=some (Pn a b,()):=by unfold JG Kg Pn;simp only[Lv,Option.bind_some,cond_false];simp only[af,gt_iff_lt];cases decide (a<b) <;> cases decide (b<a) <;> rfl
theorem or_eq(a b:Int):K6 [a,b]=some ((bif decide (a=0)then b else a),()):=by
 unfold K6 KY;have hb:∀n:Nat,n<2->JH ((0:Int),[a,b],ai [a,b],()) ((n:Int),())=some (bif decide (([a,b].getD n 0)=0)then .inl (((n+1:Nat):Int),())else .inr (.inl ([a,b].getD n 0,()))):=by
  intro n hn;unfold JH;simp only[aj,ax,ak,show n < [a,b].length from hn,decide_true,cond_true,au (n:=n) (by omega),zI];by_cases h:[a,b].getD n 0=0
  ·rw[h];rfl
  ·rw[show af .neq ([a,b].getD n 0) (0:Int)=true from by simpa[af] using h,decide_eq_false h];rfl
 by_cases ha:a=0
 ·by_cases hb0:b=0
  ·have e:iter (JH ((0:Int),[a,b],ai [a,b],())) 3 ((0:Int),())=some (.inr (.inl ())):=by
    rw[aF (y:=(((1:Nat):Int),())) (by simpa[ha] using hb 0 (by omega)),aF (y:=(((2:Nat):Int),())) (by simpa[hb0] using hb 1 (by omega))];exact av rfl
   rw[bh e (by unfold big;omega),ha,hb0];rfl
  ·have e:iter (JH ((0:Int),[a,b],ai [a,b],())) 2 ((0:Int),())=some (.inl (b,())):=by
    rw[aF (y:=(((1:Nat):Int),())) (by simpa[ha] using hb 0 (by omega))];exact av (by simpa[hb0] using hb 1 (by omega))
   rw[bh e (by unfold big;omega),ha];rfl
 ·have e:iter (JH ((0:Int),[a,b],ai [a,b],())) 1 ((0:Int),())=some (.inl (a,())):=av (by simpa[ha] using hb 0 (by omega));rw[bh e (by unfold big;omega)];simp[ha]
end Go.Fn
set_option linter.unusedSimpArgs false
set_option linter.unusedVariables false
namespace Go.Fn
open Go.R Go.Sort
theorem Jx{x y:Ev}:Mt x y=true↔x.1<y.1\/(x.1=y.1/\x.2.1<y.2.1):=by unfold Mt;simp
theorem Qw{x y:Ev}:Mt x y=false↔y.1<x.1\/(x.1=y.1/\y.2.1<=x.2.1):=by rw[<-Bool.not_eq_true,Jx];omega
theorem L7{x y z:Ev}(h1:Mt x y=true)(h2:Mt y z=true):Mt x z=true:=by rw[Jx]at *;omega
abbrev MI(l:List Ev):Prop:=l.Pairwise fun x y=>Mt x y=true
theorem NX:∀(l:List Ev),(∀n,n+1<l.length->Mt (l.getD n br) (l.getD (n+1) br)=true)->MI l
 | [],_=>List.Pairwise.nil
 | [x],_=>List.pairwise_singleton _ _
 |x::y::l,h=>by
  have ih:=NX (y::l) (fun n hn=>h (n+1) (by simpa using hn));have hxy:Mt x y=true:=h 0 (by simp);refine List.Pairwise.cons (fun z hz=>?_) ih;rcases List.mem_cons.1 hz with rfl|hz
  ·exact hxy
  ·exact L7 hxy ((List.pairwise_cons.1 ih).1 z hz)
theorem Kk{l:List Ev}(h:JZ l=true):MI l:=by refine NX l fun n hn=>?_;have:=NB h hn;simp only[KS,Bool.and_eq_true,MF,Bool.not_eq_true',Bool.or_eq_false_iff,Bool.and_eq_false_iff,decide_eq_false_iff_not]at this;rw[Jx];omega
noncomputable def N4(o:Option (List Ev))(x:Ev):Option (List Ev):=o.map (x:: ·)
noncomputable def merge:List Ev->List Ev->Option (List Ev)
 | [],b=>some b
 |x::a,[]=>some (x::a)
 |x::a,y::b=>bif Mt x y then N4 (merge a (y::b)) x else bif Mt y x then N4 (merge (x::a) b) y else bif decide (x=y)then N4 (merge a b) x else none
termination_by a b=>a.length+b.length
theorem Oh:∀(n:Nat) (a b:List Ev),a.length+b.length=n->MI a->MI b ->
  match merge a b with
  |some m=>MI m/\(∀z,z∈m↔z∈a\/z∈b)/\m.length<=a.length+b.length/\(∀x,x∈a->∀y,y∈b->x.1=y.1->x.2.1=y.2.1->x=y)
  |none=>∃x,x∈a/\∃y,y∈b/\x.1=y.1/\x.2.1=y.2.1/\x≠y:=by
 intro n;induction n using Nat.strongRecOn with
 |ind n Sk=>
 intro a b hn;rcases a with _|⟨x,a⟩
 ·rw[merge];intro _ hb;exact⟨hb,fun z=>by simp,by simp,fun x hx=>absurd hx List.not_mem_nil⟩
 rcases b with _|⟨y,b⟩
 ·rw[merge];intro ha _;exact⟨ha,fun z=>by simp,by simp,fun x _ y hy=>absurd hy List.not_mem_nil⟩
 ·have ih1:=Sk _ (by simp only[List.length_cons]at hn⊢;omega) a (y::b) rfl;have ih2:=Sk _ (by simp only[List.length_cons]at hn⊢;omega) (x::a) b rfl;have Uw:=Sk _ (by simp only[List.length_cons]at hn⊢;omega) a b rfl;rw[merge];intro ha hb;have Pm:=List.pairwise_cons.1 ha;have hb':=List.pairwise_cons.1 hb;cases h1:Mt x y with
  |true=>
   have ih:=ih1 Pm.2 hb;simp only[cond_true];cases hm:merge a (y::b)with
   |none=>rw[hm]at ih;obtain⟨u,hu,v,hv,h⟩:=ih;exact⟨u,List.mem_cons_of_mem _ hu,v,hv,h⟩
   |some m=>
    rw[hm]at ih;obtain⟨i1,i2,i3,i4⟩:=ih;refine⟨List.Pairwise.cons (fun z hz=>?_) i1,fun z=>?_,?_,fun u hu v hv=>?_⟩
    ·rcases(i2 z).1 hz with h|h
     ·exact Pm.1 z h
     ·rcases List.mem_cons.1 h with rfl|h
      ·exact h1
      ·exact L7 h1 (hb'.1 z h)
    ·simp only[List.mem_cons,i2 z,or_assoc]
    ·simp only[List.length_cons]at i3⊢;omega
    ·rcases List.mem_cons.1 hu with rfl|hu
     ·intro k1 k2;have:Mt u v=true:=by
       rcases List.mem_cons.1 hv with rfl|hv
       ·exact h1
       ·exact L7 h1 (hb'.1 v hv)
      rw[Jx]at this;omega
     ·exact i4 u hu v hv
  |false=>
   cases h2:Mt y x with
   |true=>
    have ih:=ih2 ha hb'.2;simp only[cond_true,cond_false];cases hm:merge (x::a) b with
    |none=>rw[hm]at ih;obtain⟨u,hu,v,hv,h⟩:=ih;exact⟨u,hu,v,List.mem_cons_of_mem _ hv,h⟩
    |some m=>
     rw[hm]at ih;obtain⟨i1,i2,i3,i4⟩:=ih;refine⟨List.Pairwise.cons (fun z hz=>?_) i1,fun z=>?_,?_,fun u hu v hv=>?_⟩
     ·rcases(i2 z).1 hz with h|h
      ·rcases List.mem_cons.1 h with rfl|h
       ·exact h2
       ·exact L7 h2 (Pm.1 z h)
      ·exact hb'.1 z h
     ·rw[List.mem_cons,i2 z,List.mem_cons,List.mem_cons];constructor
      ·rintro(h|h|h)
       ·exact .inr (.inl h)
       ·exact .inl h
       ·exact .inr (.inr h)
      ·rintro(h|h|h)
       ·exact .inr (.inl h)
       ·exact .inl h
       ·exact .inr (.inr h)
     ·simp only[List.length_cons]at i3⊢;omega
     ·rcases List.mem_cons.1 hv with rfl|hv
      ·intro k1 k2;have:Mt v u=true:=by
        rcases List.mem_cons.1 hu with rfl|hu
        ·exact h2
        ·exact L7 h2 (Pm.1 u hu)
       rw[Jx]at this;omega
      ·exact i4 u hu v hv
   |false=>
    have hk:x.1=y.1/\x.2.1=y.2.1:=by rw[Qw]at h1 h2;omega
    by_cases he:x=y
    ·subst he;have ih:=Uw Pm.2 hb'.2;simp only[cond_true,cond_false,decide_true];cases hm:merge a b with
     |none=>rw[hm]at ih;obtain⟨u,hu,v,hv,h⟩:=ih;exact⟨u,List.mem_cons_of_mem _ hu,v,List.mem_cons_of_mem _ hv,h⟩
     |some m=>
      rw[hm]at ih;obtain⟨i1,i2,i3,i4⟩:=ih;refine⟨List.Pairwise.cons (fun z hz=>?_) i1,fun z=>?_,?_,fun u hu v hv k1 k2=>?_⟩
      ·rcases(i2 z).1 hz with h|h
       ·exact Pm.1 z h
       ·exact hb'.1 z h
      ·rw[List.mem_cons,i2 z,List.mem_cons,List.mem_cons];constructor
       ·rintro(h|h|h)
        ·exact .inl (.inl h)
        ·exact .inl (.inr h)
        ·exact .inr (.inr h)
       ·rintro((h|h)|(h|h))
        ·exact .inl h
        ·exact .inr (.inl h)
        ·exact .inl h
        ·exact .inr (.inr h)
      ·simp only[List.length_cons]at i3⊢;omega
      ·rcases List.mem_cons.1 hu with AD|AD <;> rcases List.mem_cons.1 hv with xw|xw
       ·rw[AD,xw]
       ·have:=hb'.1 v xw;rw[Jx,<-AD]at this;omega
       ·have:=Pm.1 u AD;rw[Jx,<-xw]at this;omega
       ·exact i4 u AD v xw k1 k2
    ·simp only[cond_false,decide_eq_false he];exact⟨x,List.mem_cons_self ..,y,List.mem_cons_self ..,hk.1,hk.2,he⟩
theorem iW{a b:List Ev}(ha:MI a)(hb:MI b):
  match merge a b with
  |some m=>MI m/\(∀z,z∈m↔z∈a\/z∈b)/\m.length<=a.length+b.length/\(∀x,x∈a->∀y,y∈b->x.1=y.1->x.2.1=y.2.1->x=y)
  |none=>∃x,x∈a/\∃y,y∈b/\x.1=y.1/\x.2.1=y.2.1/\x≠y:=Oh _ a b rfl ha hb
noncomputable def Kz(a b:List Ev):List Ev×Bool:=bif JZ a then bif JZ b then(match merge a b with|none=>([],false)|some m=>bif JZ m then(m,true)else([],false))else([],false)else([],false)
theorem NH(a b:List Ev):(Kz a b).1.length<=60:=by
 unfold Kz;cases JZ a with
 |false=>exact Nat.zero_le _
 |true=>
  cases JZ b with
  |false=>exact Nat.zero_le _
  |true=>
   simp only[cond_true];cases merge a b with
   |none=>exact Nat.zero_le _
   |some m=>
    simp only[];cases h:JZ m with
    |false=>exact Nat.zero_le _
    |true=>exact Jw h
theorem Lx(x y:Ev):J2 x.1 x.2.1 x.2.2.1 x.2.2.2.1 x.2.2.2.2.1 x.2.2.2.2.2.1 x.2.2.2.2.2.2 y.1 y.2.1 y.2.2.1 y.2.2.2.1 y.2.2.2.2.1 y.2.2.2.2.2.1 y.2.2.2.2.2.2=some (Mt x y,()):=by
 unfold J2 Mt;simp only[af];by_cases h:x.1=y.1
 ·rw[h];cases decide (y.1<y.1) <;> simp
 ·rw[decide_eq_false h,show(x.1==y.1)=false from by simpa using h];cases decide (x.1<y.1) <;> rfl
theorem Qg(x y:Ev):(Bool.and (af .eql x.1 y.1) (Bool.and (af .eql x.2.1 y.2.1) (Bool.and (af .eql x.2.2.1 y.2.2.1) (Bool.and (af .eql x.2.2.2.1 y.2.2.2.1) (Bool.and (af .eql x.2.2.2.2.1 y.2.2.2.2.1) (Bool.and (af .eql x.2.2.2.2.2.1 y.2.2.2.2.2.1) (Bool.and (af .eql x.2.2.2.2.2.2 y.2.2.2.2.2.2) true)))))))=decide (x=y):=by obtain⟨x1,x2,x3,x4,x5,x6,x7⟩:=x;obtain⟨y1,y2,y3,y4,y5,y6,y7⟩:=y;rw[Bool.eq_iff_iff];simp[af,Prod.mk.injEq]
theorem OB(l:List Ev)(x:Ev):List.append (α:=Ev) l (List.append (α:=Ev) ([]:List Ev) [x])=l++[x]:=rfl
theorem NM(a b:List Ev)(ha:a.length<=60)(hb:b.length<=60):∀(s i k:Nat) (out:List Ev) (n:Nat),(a.length-i)+(b.length-k)=s->i<=a.length->k<=b.length->out.length<=i+k->s<n ->
  iter (vp (a,b,())) n (out,(i:Int),(k:Int),())=some (match merge (a.drop i) (b.drop k)with|none=>.inl ([],false,())|some m=>.inr (.inl (out++m,()))):=by
 intro s;induction s using Nat.strongRecOn with
 |ind s ih=>
  intro i k out n hs hi hk ho hn;obtain⟨n,rfl⟩:∃m,n=m+1:=⟨n-1,by omega⟩
  have l8:∀x:Ev,aE (out++[x])=true:=fun x=>J0 (by simp;omega);have ll:af .lss (i:Int) (ai a)=decide (i<a.length):=aj i a;have lk:af .lss (k:Int) (ai b)=decide (k<b.length):=aj k b;have el:af .eql (i:Int) (ai a)=decide (i=a.length):=QH i a.length;have ek:af .eql (k:Int) (ai b)=decide (k=b.length):=QH k b.length;by_cases h1:i<a.length
  ·have hx:=dG h1 br;by_cases h2:k<b.length
   ·have hy:=dG h2 br;rw[hx,hy,merge];generalize RG:a.getD i br=x at hx⊢;generalize Es:b.getD k br=y at hy⊢;cases c1:Mt x y with
    |true=>
     rw[aF (y:=(out++[x],((i+1:Nat):Int),(k:Int),())) (by unfold vp;simp only[ll,lk,el,ek,h1,h2,show ¬(k=b.length)by omega,show ¬(i=a.length)by omega,decide_true,decide_false,cond_true,cond_false,ax,ak,RG,Es,Lx,c1,Option.bind_some,OB,l8,au (n:=i) (by omega)])];rw[ih (s-1) (by omega) (i+1) k (out++[x]) n (by omega) (by omega) hk (by simp;omega) (by omega),<-hy];cases merge (List.drop (i+1) a) (List.drop k b)with
     |none=>rfl
     |some m=>simp[N4]
    |false=>
     cases c2:Mt y x with
     |true=>
      rw[aF (y:=(out++[y],(i:Int),((k+1:Nat):Int),())) (by unfold vp;simp only[ll,lk,el,ek,h1,h2,show ¬(k=b.length)by omega,show ¬(i=a.length)by omega,decide_true,decide_false,cond_true,cond_false,ax,ak,RG,Es,Lx,c1,c2,Option.bind_some,OB,l8,au (n:=k) (by omega)])];rw[ih (s-1) (by omega) i (k+1) (out++[y]) n (by omega) hi (by omega) (by simp;omega) (by omega),<-hx];cases merge (List.drop i a) (List.drop (k+1) b)with
      |none=>rfl
      |some m=>simp[N4]
     |false=>
      by_cases c3:x=y
      ·subst c3;rw[aF (y:=(out++[x],((i+1:Nat):Int),((k+1:Nat):Int),())) (by unfold vp;simp only[ll,lk,el,ek,h1,h2,show ¬(k=b.length)by omega,show ¬(i=a.length)by omega,decide_true,decide_false,cond_true,cond_false,ax,ak,RG,Es,Lx,c1,c2,Option.bind_some,OB,l8,Qg,decide_true,Bool.not_true,aR,au (n:=i) (by omega),au (n:=k) (by omega)])];rw[ih (s-2) (by omega) (i+1) (k+1) (out++[x]) n (by omega) (by omega) (by omega) (by simp;omega) (by omega)];simp only[decide_true,cond_true,cond_false];cases merge (List.drop (i+1) a) (List.drop (k+1) b)with
       |none=>rfl
       |some m=>simp[N4]
      ·rw[av (b:=.inl ([],false,())) (by
        unfold vp;simp only[ll,lk,el,ek,h1,h2,show ¬(k=b.length)by omega,show ¬(i=a.length)by omega,decide_true,decide_false,cond_true,cond_false,ax,ak,RG,Es,Lx,c1,c2,Option.bind_some,Qg,c3,Bool.not_false,aR])]
       simp only[c3,decide_false,cond_false]
   ·have BY:k=b.length:=by omega
    have hdb:b.drop k=[]:=by rw[BY,List.drop_length]
    rw[aF (y:=(out++[a.getD i br],((i+1:Nat):Int),(k:Int),())) (by unfold vp;simp only[ll,lk,el,ek,h1,decide_eq_true BY,decide_true,cond_true,ax,ak,OB,l8,au (n:=i) (by omega)])];rw[ih (s-1) (by omega) (i+1) k _ n (by omega) (by omega) hk (by simp;omega) (by omega),hx,hdb,merge];cases hd:List.drop (i+1) a with
    |nil=>simp[merge]
    |cons u v=>simp[merge]
  ·have Tq:i=a.length:=by omega
   have hda:a.drop i=[]:=by rw[Tq,List.drop_length]
   by_cases h2:k<b.length
   ·have hy:=dG h2 br;rw[aF (y:=(out++[b.getD k br],(i:Int),((k+1:Nat):Int),())) (by unfold vp;simp only[ll,lk,el,ek,h1,h2,decide_eq_true Tq,show ¬(k=b.length)by omega,decide_true,decide_false,cond_true,cond_false,ax,ak,OB,l8,au (n:=k) (by omega)])];rw[ih (s-1) (by omega) i (k+1) _ n (by omega) hi (by omega) (by simp;omega) (by omega),hda,merge,merge,hy];simp
   ·have BY:k=b.length:=by omega
    have hdb:b.drop k=[]:=by rw[BY,List.drop_length]
    rw[av (b:=.inr (.inl (out,()))) (by unfold vp;simp only[ll,lk,el,ek,h1,h2,decide_false,cond_false])];rw[hda,hdb,merge];simp
theorem MS(a b:List Ev):qB a b=some ((Kz a b).1,(Kz a b).2,()):=by
 unfold qB Kz;simp only[Ll,Option.bind_some];cases ha:JZ a with
 |false=>rfl
 |true=>
  cases hb:JZ b with
  |false=>rfl
  |true=>
   have hl:=NM a b (Jw ha) (Jw hb) (a.length+b.length) 0 0 [] big (by omega) (by omega) (by omega) (by simp) (aN (by have:=Jw ha;have:=Jw hb;omega));simp only[Bool.not_true,cond_false,cond_true];unfold JU;rw[show(0:Int)=((0:Nat):Int)from rfl,hl,List.drop_zero,List.drop_zero];cases merge a b with
   |none=>rfl
   |some m=>simp only[Option.bind_some,Sum.elim_inr,Sum.elim_inl,List.nil_append,Ll];cases JZ m <;> rfl
end Go.Fn
set_option linter.unusedSimpArgs false
set_option linter.unusedVariables false
namespace Go.Fn
open Go.R Go.Sort
theorem iK{R:Type}(x:Option R):both x x=x:=by unfold both;simp
theorem N2(l:List Ev)(hl:l.length<=1073741824):tW l=some (l,()):=by
 unfold tW;have h1:aE (List.append (α:=Ev) ([]:List Ev) l)=true:=J0 hl;rw[h1];cases l with
 |nil=>exact iK _
 |cons x l=>rw[show af .gtr (ai (x::l)) (0:Int)=true from RC l.length];rfl
end Go.Fn
set_option linter.unusedSimpArgs false
set_option linter.unusedVariables false
namespace Go.Fn
open Go.R Go.Sort
noncomputable def Na(x y:Ev):Prop:=Mt x y=true/\(x.1=y.1->x.2.2.1<y.2.2.1)
theorem PM{x y z:Ev}(h1:Na x y)(h2:Na y z):Na x z:=by obtain⟨a1,a2⟩:=h1;obtain⟨b1,b2⟩:=h2;refine⟨L7 a1 b1,fun h=>?_⟩;rw[Jx]at a1 b1;have:=a2 (by omega);have:=b2 (by omega);omega
theorem MG{x y:Ev}:MF x y=true↔Na x y:=by unfold Na;simp only[MF,Bool.not_eq_true',Bool.or_eq_false_iff,Bool.and_eq_false_iff,decide_eq_false_iff_not,Jx];omega
theorem Nb{R:Ev->Ev->Prop}(tr:∀x y z,R x y->R y z->R x z):∀(l:List Ev),(∀n,n+1<l.length->R (l.getD n br) (l.getD (n+1) br))->l.Pairwise R
 | [],_=>List.Pairwise.nil
 | [x],_=>List.pairwise_singleton _ _
 |x::y::l,h=>by
  have ih:=Nb tr (y::l) (fun n hn=>h (n+1) (by simpa using hn));have hxy:R x y:=h 0 (by simp);refine List.Pairwise.cons (fun z hz=>?_) ih;rcases List.mem_cons.1 hz with rfl|hz
  ·exact hxy
  ·exact tr _ _ _ hxy ((List.pairwise_cons.1 ih).1 z hz)
theorem getD_eq{α:Type}{l:List α}{n:Nat}(h:n<l.length)(z:α):l.getD n z=l[n]:=by rw[List.getD_eq_getElem?_getD,List.getElem?_eq_getElem h];rfl
theorem LF{l:List Ev}:JZ l=true↔l.length<=60/\(∀x,x∈l->KM x=true)/\l.Pairwise Na:=by
 constructor
 ·intro h;refine⟨Jw h,fun x hx=>?_,Nb (R:=Na) (fun _ _ _ h1 h2=>PM h1 h2) l fun n hn=>?_⟩
  ·obtain⟨n,hn,rfl⟩:=List.getElem_of_mem hx;have:=NC h hn;rwa[getD_eq hn]at this
  ·have:=NB h hn;simp only[KS,Bool.and_eq_true]at this;exact MG.1 this.2
 ·intro ⟨h1,h2,h3⟩;unfold JZ;rw[decide_eq_false (by omega)];refine(aO _ _).2 fun m _ hm=>?_;rw[Nat.zero_add]at hm;cases m with
  |zero=>exact h2 _ (KI hm _)
  |succ m=>simp only[KS,Bool.and_eq_true];refine⟨h2 _ (KI hm _),MG.2 ?_⟩;rw[getD_eq hm,getD_eq (show m<l.length by omega)];exact List.pairwise_iff_getElem.1 h3 m (m+1) (by omega) hm (by omega)
theorem Pf{l:List Ev}(h:l.Pairwise Na):∀x,x∈l->∀y,y∈l->x.1=y.1->x.2.1<y.2.1->x.2.2.1<y.2.2.1:=by
 induction l with
 |nil=>intro x hx;exact absurd hx List.not_mem_nil
 |cons u l ih=>
  have h':=List.pairwise_cons.1 h;intro x hx y hy e1 e2;rcases List.mem_cons.1 hx with pW|pW <;> rcases List.mem_cons.1 hy with OS|OS
  ·rw[pW,OS]at e2;omega
  ·subst pW;exact(h'.1 y OS).2 e1
  ·have:=(h'.1 x pW).1;rw[Jx,<-OS]at this;omega
  ·exact ih h'.2 x pW y OS e1 e2
theorem Qq{l:List Ev}(h1:l.length<=60)(h2:∀x,x∈l->KM x=true)(h3:MI l)(h4:∀x,x∈l->∀y,y∈l->x.1=y.1->x.2.1<y.2.1->x.2.2.1<y.2.2.1):JZ l=true:=by refine LF.2 ⟨h1,h2,?_⟩;refine List.Pairwise.imp_of_mem (fun {x y} hx hy h=>⟨h,fun e=>h4 x hx y hy e ?_⟩) h3;rw[Jx]at h;omega
theorem O0{l:List Ev}(h:JZ l=true):∀x,x∈l->∀y,y∈l->x.1=y.1->x.2.1<y.2.1->x.2.2.1<y.2.2.1:=Pf (LF.1 h).2.2
theorem L0{l:List Ev}(h:JZ l=true):∀x,x∈l->KM x=true:=(LF.1 h).2.1
theorem M9{a b:List Ev}(h:(Kz a b).2=true):JZ a=true/\JZ b=true/\JZ (Kz a b).1=true/\(∀z,z∈(Kz a b).1↔z∈a\/z∈b)/\(Kz a b).1.length<=a.length+b.length/\(∀x,x∈a->∀y,y∈b->x.1=y.1->x.2.1=y.2.1->x=y):=by
 unfold Kz at h⊢;cases ha:JZ a with
 |false=>rw[ha]at h;cases h
 |true=>
  cases hb:JZ b with
  |false=>rw[ha,hb]at h;cases h
  |true=>
   rw[ha,hb]at h;have hk:=iW (Kk ha) (Kk hb);simp only[cond_true]at h⊢;cases Ts:merge a b with
   |none=>rw[Ts]at h;cases h
   |some m=>
    rw[Ts]at h hk;simp only[]at h⊢;cases hm:JZ m with
    |false=>rw[hm]at h;cases h
    |true=>exact⟨trivial,trivial,hm,hk.2.1,hk.2.2.1,hk.2.2.2⟩
noncomputable def Lp(node:Int)(s:Int×Int×Nat×Nat)(x:Ev):Int×Int×Nat×Nat:=((bif decide (x.1=node)then x.2.1+1 else s.1),max s.2.1 (x.2.2.1+1),(bif decide (x.1<=node)then s.2.2.2+1 else s.2.2.1),s.2.2.2+1)
noncomputable def J7(l:List Ev)(node:Int):Int×Int×Nat×Nat:=l.foldl (Lp node) (1,1,0,0)
noncomputable def LN(l:List Ev)(node kind b8 a b:Int):Ev:=(node,(J7 l node).1,(J7 l node).2.1,kind,b8,a,b)
noncomputable def JF(l:List Ev)(node kind b8 a b:Int):List Ev:=l.take (J7 l node).2.2.1++[LN l node kind b8 a b]++l.drop (J7 l node).2.2.1
noncomputable def JW(l:List Ev)(node kind b8 a b:Int):List Ev×Bool:=bif JZ l then bif JZ (JF l node kind b8 a b)then(JF l node kind b8 a b,true)else(l,false)else(l,false)
structure Nn (node:Int) (p:List Ev) (s:Int×Int×Nat×Nat):Prop where
 c:s.2.2.2=p.length
 OD:s.2.2.1<=p.length
 s1:∀x,x∈p->x.1=node->x.2.1<s.1
 s2:s.1=1\/∃x,x∈p/\x.1=node/\s.1=x.2.1+1
 p1:∀x,x∈p->x.2.2.1<s.2.1
 p2:s.2.1=1\/∃x,x∈p/\s.2.1=x.2.2.1+1
 a1:∀x,x∈p.take s.2.2.1->x.1<=node
 a2:∀x,x∈p.drop s.2.2.1->node<x.1
theorem MB{node:Int}{p:List Ev}{s:Int×Int×Nat×Nat}{x:Ev}(h:Nn node p s)(hp:MI (p++[x])):Nn node (p++[x]) (Lp node s x):=by
 have hlt:∀y,y∈p->Mt y x=true:=fun y hy=>(List.pairwise_append.1 hp).2.2 y hy x (List.mem_singleton.2 rfl);obtain⟨h1,h2,h3,h4,h5,h6,h7,h8⟩:=h;unfold Lp;refine⟨by simp[h1],?_,fun y hy hn=>?_,?_,fun y hy=>?_,?_,?_,?_⟩
 ·cases decide (x.1<=node) <;> simp <;> omega
 ·simp only[];rcases List.mem_append.1 hy with hy|hy
  ·by_cases hx:x.1=node
   ·rw[decide_eq_true hx];have:=hlt y hy;rw[Jx]at this;simp only[cond_true];omega
   ·rw[decide_eq_false hx];exact h3 y hy hn
  ·rw[List.mem_singleton]at hy;subst hy;rw[decide_eq_true hn];simp only[cond_true];omega
 ·simp only[];by_cases hx:x.1=node
  ·rw[decide_eq_true hx];exact .inr ⟨x,by simp,hx,rfl⟩
  ·rw[decide_eq_false hx];rcases h4 with h4|⟨y,hy,h4⟩
   ·exact .inl h4
   ·exact .inr ⟨y,List.mem_append_left _ hy,h4⟩
 ·simp only[];rcases List.mem_append.1 hy with hy|hy
  ·have:=h5 y hy;omega
  ·rw[List.mem_singleton]at hy;subst hy;omega
 ·simp only[];by_cases hm:s.2.1<=x.2.2.1+1
  ·exact .inr ⟨x,by simp,by omega⟩
  ·rcases h6 with h6|⟨y,hy,h6⟩
   ·exact .inl (by omega)
   ·exact .inr ⟨y,List.mem_append_left _ hy,by omega⟩
 ·simp only[];by_cases hx:x.1<=node
  ·rw[decide_eq_true hx];intro y hy;rw[cond_true,h1,List.take_of_length_le (by simp)]at hy;rcases List.mem_append.1 hy with hy|hy
   ·have:=hlt y hy;rw[Jx]at this;omega
   ·rw[List.mem_singleton]at hy;subst hy;exact hx
  ·rw[decide_eq_false hx];intro y hy;rw[cond_false,List.take_append_of_le_length h2]at hy;exact h7 y hy
 ·simp only[];by_cases hx:x.1<=node
  ·rw[decide_eq_true hx];intro y hy;rw[cond_true,h1,List.drop_of_length_le (by simp)]at hy;exact absurd hy List.not_mem_nil
  ·rw[decide_eq_false hx];intro y hy;rw[cond_false,List.drop_append_of_le_length h2]at hy;rcases List.mem_append.1 hy with hy|hy
   ·exact h8 y hy
   ·rw[List.mem_singleton]at hy;subst hy;omega
theorem MX(node:Int):∀(l p:List Ev) (s:Int×Int×Nat×Nat),MI (p++l)->Nn node p s->Nn node (p++l) (l.foldl (Lp node) s)
 | [],p,s,_,h=>by simpa using h
 |x::l,p,s,hp,h=>by
  have e:p++x::l=(p++[x])++l:=by simp
  rw[e]at hp⊢;exact MX node l (p++[x]) (Lp node s x) hp (MB h (List.pairwise_append.1 hp).1)
theorem Kf(node:Int){l:List Ev}(h:MI l):Nn node l (J7 l node):=by have:=MX node l [] (1,1,0,0) (by simpa using h) ⟨rfl,Nat.le_refl _,fun x hx=>absurd hx List.not_mem_nil,.inl rfl,fun x hx=>absurd hx List.not_mem_nil,.inl rfl,fun x hx=>absurd (List.mem_of_mem_take hx) List.not_mem_nil,fun x hx=>absurd (List.mem_of_mem_drop hx) List.not_mem_nil⟩;exact this
theorem Jm{l:List Ev}{node kind b8 a b:Int}(z:Ev):z∈JF l node kind b8 a b↔z=LN l node kind b8 a b\/z∈l:=by
 unfold JF;rw[List.mem_append,List.mem_append,List.mem_singleton];constructor
 ·rintro((h|h)|h)
  ·exact .inr (List.mem_of_mem_take h)
  ·exact .inl h
  ·exact .inr (List.mem_of_mem_drop h)
 ·rintro(h|h)
  ·exact .inl (.inr h)
  ·rw[<-List.take_append_drop (J7 l node).2.2.1 l,List.mem_append]at h;rcases h with h|h
   ·exact .inl (.inl h)
   ·exact .inr h
theorem LI{l:List Ev}(h:MI l)(node kind b8 a b:Int):(JF l node kind b8 a b).length=l.length+1:=by have:=(Kf node h).OD;unfold JF;simp only[List.length_append,List.length_take,List.length_drop,List.length_singleton];omega
theorem Ov{l:List Ev}(h:MI l)(node kind b8 a b:Int):MI (JF l node kind b8 a b):=by
 have hi:=Kf node h;have ht:∀y,y∈l.take (J7 l node).2.2.1->Mt y (LN l node kind b8 a b)=true:=fun y hy=>by
  rw[Jx];have h1:=hi.a1 y hy;have h2:=hi.s1 y (List.mem_of_mem_take hy);show y.1<node\/y.1=node/\y.2.1<(J7 l node).1;by_cases e:y.1=node
  ·exact .inr ⟨e,h2 e⟩
  ·exact .inl (by omega)
 have hd:∀y,y∈l.drop (J7 l node).2.2.1->Mt (LN l node kind b8 a b) y=true:=fun y hy=>by rw[Jx];exact .inl (hi.a2 y hy)
 have h0:=h;rw[<-List.take_append_drop (J7 l node).2.2.1 l,MI,List.pairwise_append]at h0;unfold JF MI;rw[List.pairwise_append,List.pairwise_append];refine⟨⟨h0.1,List.pairwise_singleton _ _,fun x hx y hy=>?_⟩,h0.2.1,fun x hx y hy=>?_⟩
 ·rw[List.mem_singleton]at hy;subst hy;exact ht x hx
 ·rcases List.mem_append.1 hx with hx|hx
  ·exact h0.2.2 x hx y hy
  ·rw[List.mem_singleton]at hx;subst hx;exact hd y hy
theorem Ou{l:List Ev}(h:JZ l=true){node kind b8 a b:Int}(hl:l.length+1<=60)(he:KM (LN l node kind b8 a b)=true):JZ (JF l node kind b8 a b)=true:=by
 have hs:=Kk h;have hi:=Kf node hs;refine Qq (by rw[LI hs];exact hl) (fun x hx=>?_) (Ov hs _ _ _ _ _) fun x hx y hy e1 e2=>?_
 ·rcases(Jm x).1 hx with pW|pW
  ·rw[pW];exact he
  ·exact L0 h x pW
 ·rcases(Jm x).1 hx with pW|pW <;> rcases(Jm y).1 hy with OS|OS
  ·rw[pW,OS]at e2;omega
  ·have:=hi.s1 y OS (by rw[<-e1,pW];rfl);rw[pW]at e2;have e2:(J7 l node).1<y.2.1:=e2;omega
  ·rw[OS];exact hi.p1 x pW
  ·exact O0 h x pW y OS e1 e2
theorem Qb(l m:List Ev):List.append (α:=Ev) l m=l++m:=rfl
theorem NL(l:List Ev)(hj:JZ l=true)(node kind b8 a b:Int)(same:List Ev):KB (l,node,()) (same,node,(1:Int),(1:Int),kind,b8,a,b,(0:Int),(0:Int),())=some (.inl (same,node,(J7 l node).1,(J7 l node).2.1,kind,b8,a,b,(((J7 l node).2.2.1:Nat):Int),())):=by
 have PB:=Jw hj;refine(bI (body:=J6 (l,node,())) l br (by omega) (Lp node) (fun(s:Int×Int×Nat×Nat) n=>(same,node,s.1,s.2.1,kind,b8,a,b,((s.2.2.1:Nat):Int),(n:Int),())) (fun n s=>s.2.2.2=n) (fun s=>Sum.inl (same,node,s.1,s.2.1,kind,b8,a,b,((s.2.2.1:Nat):Int),())) (fun n s hn hs=>⟨?_,by unfold Lp;simp[hs]⟩) (fun s hs=>?_) (1,1,0,0) rfl).1
 ·have he:=KH.1 (NC hj hn);unfold J6 Lp;simp only[aj,hn,decide_true,cond_true,ax,ak];revert he;generalize l.getD n br=e;intro he;have e1:aa .add .i64 e.2.1 1=e.2.1+1:=bU (by omega) (by omega);have e2:aa .add .i64 e.2.2.1 1=e.2.2.1+1:=bU (by omega) (by omega);have e3:bK true s.2.1 (e.2.2.1+1)=max s.2.1 (e.2.2.1+1):=by unfold bK;simp <;> omega
  have e4:af .eql e.1 node=decide (e.1=node):=by simp[af,Bool.beq_eq_decide_eq]
  have e5:af .leq e.1 node=decide (e.1<=node):=rfl;simp only[e1,e2,e3,e4,e5,au (n:=n) (by omega),hs];cases decide (e.1=node) <;> cases decide (e.1<=node) <;> rfl
 ·unfold J6;simp only[aj,Nat.lt_irrefl,decide_false,cond_false]
theorem KA(l:List Ev)(node kind b8 a b:Int)(hl:l.length<=1073741824):vw l node kind b8 a b=some ((JW l node kind b8 a b).1,(JW l node kind b8 a b).2,()):=by
 unfold vw JW;have l8:aE l=true:=J0 hl;simp only[Ll,Option.bind_some,Qb,List.nil_append,l8,cond_true];cases hj:JZ l with
 |false=>rfl
 |true=>
  have PB:=Jw hj;have hi:=Kf node (Kk hj);have RE:=hi.OD;simp only[Bool.not_true,cond_false,cond_true,NL l hj,Option.bind_some,Sum.elim_inl,Qb,List.nil_append];generalize hA:J7 l node=A at RE;have s1:cS l (0:Int) ((A.2.2.1:Nat):Int)=true:=by unfold cS;simp <;> omega
  have s2:cS l ((A.2.2.1:Nat):Int) (ai l)=true:=by unfold cS ai;simp <;> omega
  have t1:eR l (0:Int) ((A.2.2.1:Nat):Int)=l.take A.2.2.1:=by unfold eR;simp
  have t2:eR l ((A.2.2.1:Nat):Int) (ai l)=l.drop A.2.2.1:=by unfold eR ai;rw[Int.toNat_natCast,Int.toNat_natCast];exact List.take_of_length_le (by simp)
  have k1:aE (l.take A.2.2.1)=true:=J0 (by simp;omega);have k2:∀x:Ev,aE (l.take A.2.2.1++[x])=true:=fun x=>J0 (by simp;omega);have k3:∀x:Ev,aE (l.take A.2.2.1++[x]++l.drop A.2.2.1)=true:=fun x=>J0 (by simp;omega);simp only[s1,s2,t1,t2,k1,k2,k3,cond_true];have hw:JF l node kind b8 a b=l.take A.2.2.1++[(node,A.1,A.2.1,kind,b8,a,b)]++l.drop A.2.2.1:=by unfold JF LN;rw[hA]
  rw[hw];cases JZ (l.take A.2.2.1++[(node,A.1,A.2.1,kind,b8,a,b)]++l.drop A.2.2.1) <;> rfl
end Go.Fn
set_option linter.unusedSimpArgs false
set_option linter.unusedVariables false
namespace Go.Fn
open Go.R Go.Sort
structure LX (n:Nat) (base:List Ev) (S:Int->Prop) (l:List Ev):Prop where
 j:JZ l=true
 len:l.length<=n
 st:∀x,x∈l->x.2.2.1<=(n:Int)
 RY:∀x,x∈l->∀s:Int,1<=s->s<=x.2.1->∃y,y∈l/\y.1=x.1/\y.2.1=s
 sub:∀x,x∈base->x∈l
 new:∀x,x∈l->x∈base\/S x.1
theorem LX.mono{n m:Nat}{base:List Ev}{S:Int->Prop}{l:List Ev}(h:LX n base S l)(hm:n<=m):LX m base S l:=⟨h.j,by have:=h.len;omega,fun x hx=>by have:=h.st x hx;omega,h.RY,h.sub,h.new⟩
theorem LX.add{n:Nat}{base:List Ev}{S:Int->Prop}{l:List Ev}(h:LX n base S l){node:Int}(hS:S node)(kind b8 a b:Int):LX (n+1) base S (JW l node kind b8 a b).1:=by
 unfold JW;rw[h.j];simp only[cond_true];cases hw:JZ (JF l node kind b8 a b)with
 |false=>exact h.mono (Nat.le_succ _)
 |true=>
  have hs:=Kk h.j;have hi:=Kf node hs;simp only[cond_true];refine⟨hw,by rw[LI hs];have:=h.len;omega,fun x hx=>?_,fun x hx s h1 h2=>?_,fun x hx=>(Jm x).2 (.inr (h.sub x hx)),fun x hx=>?_⟩
  ·rcases(Jm x).1 hx with e|e
   ·rw[e];show(J7 l node).2.1<=_;rcases hi.p2 with p|⟨y,hy,p⟩
    ·rw[p];omega
    ·rw[p];have:=h.st y hy;omega
   ·have:=h.st x e;omega
  ·rcases(Jm x).1 hx with e|e
   ·subst e;have h2:s<=(J7 l node).1:=h2;by_cases e:s=(J7 l node).1
    ·exact⟨_,hx,rfl,e.symm⟩
    ·rcases hi.s2 with p|⟨y,hy,q,p⟩
     ·omega
     ·obtain⟨z,hz,e1,e2⟩:=h.RY y hy s h1 (by omega);exact⟨z,(Jm z).2 (.inr hz),by rw[e1,q];rfl,e2⟩
   ·obtain⟨z,hz,e1,e2⟩:=h.RY x e s h1 h2;exact⟨z,(Jm z).2 (.inr hz),e1,e2⟩
  ·rcases(Jm x).1 hx with e|e
   ·rw[e];exact .inr hS
   ·exact h.new x e
theorem Nt(b:List Int)(hb:b.length<=1048576)(i h:Int)(hi:0<=i){n:Nat}(hn:n<=1000){base:List Ev}{S:Int->Prop}{l:List Ev}(hl:LX n base S l){node:Int}(hS:S node):
  Yl (Jz b i h l node) fun y=>LX (n+1) base S y.1/\y.2.1=b/\0<=y.2.2.1:=by
 have PZ:l.length<=1073741824:=by have:=hl.len;omega
 unfold Jz;refine(IM b hb i h 4 hi (by omega)).bind fun y0 ⟨_,_,a3,a4⟩=>?_;rw[a3];refine(IM b hb _ _ 4 a4 (by omega)).bind fun y1 ⟨_,_,b3,b4⟩=>?_;rw[b3];refine .cond (fun _=>?_) fun _=>?_
 ·refine(IM b hb _ _ 3 b4 (by omega)).bind fun y2 ⟨_,_,c3,c4⟩=>?_;rw[c3];refine(IM b hb _ _ 40 c4 (by omega)).bind fun y3 ⟨_,_,d3,d4⟩=>?_;rw[KA l _ _ _ _ _ PZ];exact .ret ⟨hl.add hS _ _ _ _,d3,d4⟩
 ·refine(IM b hb _ _ 3 b4 (by omega)).bind fun y2 ⟨_,_,c3,c4⟩=>?_;rw[c3];refine(IM b hb _ _ 40 c4 (by omega)).bind fun y3 ⟨_,_,d3,d4⟩=>?_;rw[KA l _ _ _ _ _ PZ];exact .ret ⟨hl.add hS _ _ _ _,d3,d4⟩
abbrev QR:=(List Int)×Int×Int×(List Ev)×Int×Unit
abbrev RM:=((List Int)×Int×Int×(List Ev)×Unit)⊕Empty
theorem Pv (b:List Int) (hb:b.length<=1048576) {body:QR->Option (QR⊕RM)} {base:List Ev} {S:Int->Prop} (N:Nat) (hN:N<=100)
  (hbody:∀(i h N3:Int) (l:List Ev) (n:Nat),0<=i->n<=200->LX n base S l->0<N3->Yl (body (b,i,h,l,N3,())) fun r=>match r with| .inl y=>y.1=b/\0<=y.2.1/\LX (n+1) base S y.2.2.2.1/\y.2.2.2.2.1=aa .sub .i64 N3 1| .inr _=>False)
  (hend:∀(i h N3:Int) (l:List Ev),¬(0<N3)->body (b,i,h,l,N3,())=some (.inr (.inl (b,i,h,l,()))))
  (i h N3:Int) (l:List Ev) (hi:0<=i) (hc0:0<=N3) (hc:N3<=5) (hl:LX N base S l):
  Yl (iter body big (b,i,h,l,N3,())) fun r=>match r with| .inl y=>y.1=b/\0<=y.2.1/\LX (N+5) base S y.2.2.2.1| .inr _=>False:=by
 refine Yl.loop (fun x=>x.1=b/\0<=x.2.1/\0<=x.2.2.2.2.1/\x.2.2.2.2.1<=5/\LX (N+(5-x.2.2.2.2.1).toNat) base S x.2.2.2.1) (fun x=>x.2.2.2.2.1.toNat) (fun x hx=>?_) big _ ⟨rfl,hi,hc0,hc,hl.mono (by omega)⟩ (aN (by show N3.toNat<_;omega));obtain⟨xb,xi,xh,xl,xc,u⟩:=x;obtain⟨x1,x2,x3,x4,x5⟩:=hx;simp only[]at x1 x2 x3 x4 x5;subst x1;by_cases hp:0<xc
 ·refine(hbody xi xh xc xl _ x2 (by omega) x5 hp).mono fun r hr=>?_;match r,hr with
  | .inl y,⟨h1,h2,h3,h4⟩=>have e:aa .sub .i64 xc 1=xc-1:=bM (by omega) (by omega);rw[e]at h4;refine⟨⟨h1,h2,by omega,by omega,h3.mono (by omega)⟩,?_⟩;show y.2.2.2.2.1.toNat<xc.toNat;omega
 ·rw[hend xi xh xc xl hp];exact .ret ⟨rfl,x2,x5.mono (by omega)⟩
theorem Q9(a:Int):af .gtr a (0:Int)=decide (0<a):=rfl
theorem Mc(l:List Ev)(hl:l.length<=1073741824):JO l l=some (true,()):=by
 unfold JO;rw[Lv];have Li:Kb (l,l,()) ((0:Int),())=some (.inr (.inl ())):=by
  refine aU (body:=JK (l,l,())) (fun n=>((n:Int),())) l.length (by omega) _ (fun n hn=>?_) ?_
  ·unfold JK;simp only[aj,ax,hn,decide_true,cond_true,ak,Qg,Bool.not_true,aR,cond_false,au (n:=n) (by omega)]
  ·unfold JK;simp only[aj,Nat.lt_irrefl,decide_false,cond_false]
 rw[Li];rfl
end Go.Fn
set_option linter.unusedSimpArgs false
set_option linter.unusedVariables false
namespace Go.Fn
open Go.R Go.Sort
theorem gI(d:Array Int)(i:Nat):ae zI d.toList (i:Int)=d[i]!:=gA d i
noncomputable def QM(u v:Ev):Bool:=decide (u.2.2.1<v.2.2.1)||(decide (u.2.2.1=v.2.2.1)&&decide (u.1<v.1))
theorem KG{u v:Ev}:QM u v=true↔u.2.2.1<v.2.2.1\/(u.2.2.1=v.2.2.1/\u.1<v.1):=by unfold QM;simp
theorem NF{u v:Ev}:QM u v=false↔v.2.2.1<u.2.2.1\/(u.2.2.1=v.2.2.1/\v.1<=u.1):=by rw[<-Bool.not_eq_true,KG];omega
noncomputable def JP(l:List Ev)(x y:Int):Bool:=QM (l.getD x.toNat br) (l.getD y.toNat br)
theorem K7(l:List Ev):SWO (JP l):=⟨fun x=>by unfold JP;rw[NF];omega,fun x y z h1 h2=>by unfold JP at *;rw[KG]at *;omega,fun x y z h1 h2=>by unfold JP at *;rw[NF]at *;omega⟩
noncomputable def OG(l:List Ev)(x y:Int):Int:=bif JP l x y then -1 else bif JP l y x then 1 else 0
theorem Lr(l:List Ev)(x y:Int):af .lss (OG l x y) (0:Int)=JP l x y:=by unfold OG;cases JP l x y <;> cases JP l y x <;> rfl
theorem Qy(a b c d:Int):(bif decide (Pn a b=0)then Pn c d else Pn a b)=(bif decide (a<b)||(decide (a=b)&&decide (c<d))then -1 else bif decide (b<a)||(decide (b=a)&&decide (d<c))then 1 else 0):=by
 unfold Pn;by_cases h1:a<b
 ·simp[h1]
 ·by_cases h2:b<a
  ·have h3:¬(a=b):=by omega
   have h4:¬(b=a):=by omega
   simp[h1,h2,h3,h4]
  ·have h3:a=b:=by omega
   subst h3;by_cases h4:c<d
   ·simp[h4]
   ·by_cases h5:d<c
    ·simp[h4,h5]
    ·simp[h4,h5]
theorem Py(l:List Ev)(x y:Int)(hx:0<=x/\x<l.length)(hy:0<=y/\y<l.length):Jd x y l=some (OG l x y,()):=by
 obtain⟨n,rfl⟩:∃n:Nat,x=(n:Int):=⟨x.toNat,by omega⟩
 obtain⟨m,rfl⟩:∃n:Nat,y=(n:Int):=⟨y.toNat,by omega⟩
 unfold Jd OG JP;simp only[ax,ak,show n<l.length by omega,show m<l.length by omega,decide_true,cond_true,compare_eq,Option.bind_some,Int.toNat_natCast];generalize l.getD n br=u;generalize l.getD m br=v;rw[show(List.append (α:=Int) (List.append (α:=Int) ([]:List Int) [Pn u.2.2.1 v.2.2.1]) [Pn u.1 v.1])=[Pn u.2.2.1 v.2.2.1,Pn u.1 v.1]from rfl,or_eq,Qy];rfl
abbrev MT(l:List Ev)(d:Array Int):Prop:=∀k,k<d.size->0<=d[k]! /\ d[k]! < l.length
theorem MT.perm{l:List Ev}{d d':Array Int}{a b:Nat}(h:MT l d)(hb:b<=d.size)(hp:PermIn a b d d'):MT l d':=by have h0:=permIn_mono d d' a b 0 d.size (Nat.zero_le _) hb (Nat.le_refl _) hp;have:=permIn_all d d' 0 d.size (fun x=>0<=x/\x<l.length) (Nat.le_refl _) h0 (fun i _ hi=>h i hi);exact fun k hk=>this k (Nat.zero_le _) (by rw[<-hp.1];exact hk)
theorem Px{l:List Ev}{d:Array Int}(h:MT l d){i j:Nat}(hi:i<d.size)(hj:j<d.size):Jd d[i]! d[j]! l=some (OG l d[i]! d[j]!,()):=Py l _ _ (h i hi) (h j hj)
theorem NS{n:Nat}(h:n<1099511627776):aq .i64 (ay .shr .u64 (aq .u64 (n:Int)) (1:Int))=((n / 2:Nat):Int):=by
 rw[Q2 h];have e:ay .shr .u64 (n:Int) (1:Int)=((n / 2:Nat):Int):=by show(n:Int).fdiv (2 ^ 1)=_;rw[Int.fdiv_eq_ediv_of_nonneg _ (by decide)];omega
 rw[e,Q1 (by omega)]
theorem O2(l:List Ev)(a b i:Nat):∀(j:Nat) (d:Array Int) (n:Nat),MT l d->j<d.size->d.size<=255->j<n->iter (b7 ((a:Int),(b:Int),l,(i:Int),())) n (d.toList,(j:Int),())=some (.inl ((insInner (JP l) a j d).toList,())):=by
 intro j;induction j with
 |zero=>
  intro d n ho hj hd hn;obtain⟨n,rfl⟩:∃m,n=m+1:=⟨n-1,by omega⟩
  refine av ?_;unfold b7 insInner;simp only[Pk,show ¬(0>a)by omega,decide_false,cond_false]
 |succ j ih=>
  intro d n ho hj hd hn;obtain⟨n,rfl⟩:∃m,n=m+1:=⟨n-1,by omega⟩
  have e1:aa .sub .i64 ((j+1:Nat):Int) (1:Int)=(j:Int):=iD (by omega);have hc:=Px ho hj (show j<d.size by omega);unfold insInner;by_cases h:j+1>a
  ·cases hl:JP l d[j+1]! d[j]! with
   |true=>simp only[h,decide_true,Bool.true_and,if_true];rw[<-ih (swp d (j+1) j) n (ho.perm (Nat.le_refl _) (swp_permIn d 0 d.size (j+1) j (by omega) hj (by omega) (by omega) (Nat.le_refl _))) (by rw[size_swp];omega) (by rw[size_swp];omega) (by omega)];refine aF ?_;unfold b7;simp only[Pk,h,decide_true,cond_true,e1,P3,gI,RK,hj,show j<d.size by omega,hc,Option.bind_some,Lr,hl,RL]
   |false=>simp only[Bool.and_false,Bool.false_eq_true,if_false];refine av ?_;unfold b7;simp only[Pk,h,decide_true,cond_true,e1,P3,gI,hj,show j<d.size by omega,hc,Option.bind_some,Lr,hl,cond_false]
  ·simp only[h,decide_false,Bool.false_and,Bool.false_eq_true,if_false];refine av ?_;unfold b7;simp only[Pk,h,decide_false,cond_false]
theorem LO{lt:Int->Int->Bool}(a b:Nat):∀j (d:Array Int),j<d.size->PermIn 0 d.size d (insInner lt a j d)
 |0,d,_=>permIn_refl _ _ _
 |j+1,d,hj=>by
  unfold insInner;split
  ·have h1:=LO (lt:=lt) a b j (swp d (j+1) j) (by rw[size_swp];omega);rw[size_swp]at h1;exact permIn_trans _ _ _ 0 d.size (swp_permIn d 0 d.size (j+1) j (by omega) hj (by omega) (by omega) (Nat.le_refl _)) h1
  ·exact permIn_refl _ _ _
theorem Oi(l:List Ev)(a b:Nat)(hb:b<=255):∀(k i:Nat) (d:Array Int) (n:Nat),MT l d->b-i<=k->b<=d.size->d.size<=255->i<=256->k<n->iter (fq ((a:Int),(b:Int),l,())) n (d.toList,(i:Int),())=some (.inl ((insOuter (JP l) a b i d).toList,())):=by
 intro k;induction k with
 |zero=>
  intro i d n ho hk hbd hd hi hn;obtain⟨n,rfl⟩:∃m,n=m+1:=⟨n-1,by omega⟩
  refine av ?_;unfold fq insOuter;simp only[Mb,show ¬(i<b)by omega,decide_false,cond_false,if_false]
 |succ k ih=>
  intro i d n ho hk hbd hd hi hn;obtain⟨n,rfl⟩:∃m,n=m+1:=⟨n-1,by omega⟩
  unfold insOuter;by_cases h:i<b
  ·simp only[h,if_true];rw[<-ih (i+1) (insInner (JP l) a i d) n (ho.perm (Nat.le_refl _) (LO a b i d (by omega))) (by omega) (by rw[Ld];omega) (by rw[Ld];omega) (by omega) (by omega)];refine aF ?_;unfold fq vn;simp only[Mb,h,decide_true,cond_true,O2 l a b i i d big ho (by omega) hd (aN (by omega)),Option.bind_some,Sum.elim_inl,au (n:=i) (by omega)]
  ·simp only[h,if_false];refine av ?_;unfold fq;simp only[Mb,h,decide_false,cond_false]
theorem P7(l:List Ev)(d:Array Int)(a b:Nat)(ho:MT l d)(hab:a<=b)(hb:b<=d.size)(hd:d.size<=255):∃d',gb d.toList (a:Int) (b:Int) l=some (d'.toList,())/\PermIn a b d d'/\SortedIn (JP l) a b d':=by refine⟨insertionSort (JP l) d a b,?_,insertionSort_holds (K7 l) d a b hab hb⟩;unfold gb vm insertionSort;simp only[au (n:=a) (by omega),Oi l a b (by omega) 256 (a+1) d big ho (by omega) hb hd (by omega) (aN (by omega)),Option.bind_some,Sum.elim_inl]
theorem Rt(a b n:Nat)(hab:a+n<=b):∀(r i:Nat) (d:Array Int) (f:Nat),i+r=n->b+n<=d.size->d.size<=255->r<f ->
  ∃d',iter (qe ((a:Int),(b:Int),(n:Int),())) f (d.toList,(i:Int),())=some (.inl (d'.toList,()))/\PermIn a (b+n) d d' /\
   (∀k,i<=k->k<n->d'[a+k]! = d[b+k]! /\ d'[b+k]! = d[a+k]!)/\(∀t,(∀k,i<=k->k<n->t≠a+k/\t≠b+k)->d'[t]! = d[t]!):=by
 intro r;induction r with
 |zero=>
  intro i d f hi hb hd hf;obtain⟨f,rfl⟩:∃m,f=m+1:=⟨f-1,by omega⟩
  refine⟨d,av ?_,permIn_refl _ _ _,fun k h1 h2=>by omega,fun t _=>rfl⟩;unfold qe;simp only[Mb,show ¬(i<n)by omega,decide_false,cond_false]
 |succ r ih=>
  intro i d f hi hb hd hf;obtain⟨f,rfl⟩:∃m,f=m+1:=⟨f-1,by omega⟩
  obtain⟨d',h1,h2,h3,h4⟩:=ih (i+1) (swp d (a+i) (b+i)) f (by omega) (by rw[size_swp];omega) (by rw[size_swp];omega) (by omega);refine⟨d',?_,permIn_trans _ _ _ a (b+n) (swp_permIn d a (b+n) (a+i) (b+i) (by omega) (by omega) (by omega) (by omega) hb) h2,fun k k1 k2=>?_,fun t ht=>?_⟩
  ·rw[<-h1];refine aF ?_;unfold qe;have e1:aa .add .i64 (b:Int) (i:Int)=((b+i:Nat):Int):=aS (by omega);have e2:aa .add .i64 (a:Int) (i:Int)=((a+i:Nat):Int):=aS (by omega);simp only[Mb,show i<n by omega,decide_true,cond_true,e1,e2,P3,gI,RK,show a+i<d.size by omega,show b+i<d.size by omega,RL,aR,au (n:=i) (by omega)]
  ·by_cases e:k=i
   ·subst e;have x1:=h4 (a+k) (fun j _ _=>by omega);have x2:=h4 (b+k) (fun j _ _=>by omega);rw[x1,x2,swp_left d _ _ (by omega) (by omega),swp_right d _ _ (by omega)];exact⟨rfl,rfl⟩
   ·obtain⟨x1,x2⟩:=h3 k (by omega) k2;rw[x1,x2,swp_other d _ _ _ (by omega) (by omega),swp_other d _ _ _ (by omega) (by omega)];exact⟨rfl,rfl⟩
  ·rw[h4 t (fun k k1 k2=>ht k (by omega) k2)];have:=ht i (Nat.le_refl _) (by omega);exact swp_other d _ _ _ this.1 this.2
theorem MR(l:List Ev)(d:Array Int)(a b n:Nat)(hab:a+n<=b)(hb:b+n<=d.size)(hd:d.size<=255):∃d',b9 d.toList (a:Int) (b:Int) (n:Int) l=some (d'.toList,())/\PermIn a (b+n) d d' /\
   (∀k,k<n->d'[a+k]! = d[b+k]! /\ d'[b+k]! = d[a+k]!)/\(∀t,(∀k,k<n->t≠a+k/\t≠b+k)->d'[t]! = d[t]!):=by
 obtain⟨d',h1,h2,h3,h4⟩:=Rt a b n hab n 0 d big (by omega) hb hd (aN (by omega));refine⟨d',?_,h2,fun k hk=>h3 k (Nat.zero_le _) hk,fun t ht=>h4 t fun k _ hk=>ht k hk⟩;unfold b9 D3;rw[show(0:Int)=((0:Nat):Int)from rfl,h1];rfl
structure Sw (m i j:Nat) (cur T:Array Int):Prop where
 perm:PermIn (m-i) (m+j) cur T
 lo:∀k,k<j->T[m-i+k]! = cur[m+k]!
 hi:∀k,k<i->T[m-i+j+k]! = cur[m-i+k]!
theorem Pd(l:List Ev)(m:Nat):∀(s i j:Nat) (d:Array Int) (f:Nat),i+j<=s->0<i->0<j->i<=m->m+j<=d.size->d.size<=255->s<f ->
  ∃(d1:Array Int) (i1:Nat) (T:Array Int),iter (i6 ((m:Int),l,())) f (d.toList,(i:Int),(j:Int),())=some (.inl (d1.toList,((i1:Nat):Int),()))/\d1.size=d.size/\b9 d1.toList (aa .sub .i64 (m:Int) ((i1:Nat):Int)) (m:Int) ((i1:Nat):Int) l=some (T.toList,())/\Sw m i j d T:=by
 intro s;induction s with
 |zero=>intro i j d f hs h0;omega
 |succ s ih=>
  intro i j d f hs hi0 Un Ff hm hd hf;obtain⟨f,rfl⟩:∃m,f=m+1:=⟨f-1,by omega⟩
  have e1:aa .sub .i64 (m:Int) (i:Int)=((m-i:Nat):Int):=sS Ff (by omega);have ne:af .neq (i:Int) (j:Int) = !decide (i=j):=by rw[<-QH i j];rfl
  by_cases hij:i=j
  ·subst hij;obtain⟨T,h1,h2,h3,h4⟩:=MR l d (m-i) m i (by omega) hm hd;refine⟨d,i,T,av ?_,rfl,by rw[e1];exact h1,⟨h2,fun k hk=>(h3 k hk).1,fun k hk=>?_⟩⟩
   ·unfold i6;simp only[ne,decide_true,Bool.not_true,cond_false]
   ·rw[show m-i+i+k=m+k by omega];exact(h3 k hk).2
  ·by_cases hgt:i>j
   ·obtain⟨d2,h1,h2,h3,h4⟩:=MR l d (m-i) m j (by omega) hm hd;have tR:=h2.1;obtain⟨d1,i1,T,k1,k2,k3,k4⟩:=ih (i-j) j d2 f (by omega) (by omega) Un (by omega) (by omega) (by omega) (by omega);refine⟨d1,i1,T,?_,by omega,k3,⟨?_,fun k hk=>?_,fun k hk=>?_⟩⟩
    ·rw[<-k1];refine aF ?_;unfold i6;have e2:aa .sub .i64 (i:Int) (j:Int)=((i-j:Nat):Int):=sS (by omega) (by omega);simp only[ne,decide_eq_false hij,Bool.not_false,cond_true,Pk,hgt,decide_true,e1,h1,Option.bind_some,e2]
    ·exact permIn_trans _ _ _ _ _ h2 (permIn_mono d2 T (m-(i-j)) (m+j) (m-i) (m+j) (by omega) (Nat.le_refl _) (by omega) k4.perm)
    ·rw[k4.perm.2.1 (m-i+k) (.inl (by omega)),(h3 k hk).1]
    ·by_cases cM:k<j
     ·have:=k4.lo k cM;rw[show m-(i-j)+k=m-i+j+k by omega]at this;rw[this,(h3 k cM).2]
     ·have:=k4.hi (k-j) (by omega);rw[show m-(i-j)+j+(k-j)=m-i+j+k by omega,show m-(i-j)+(k-j)=m-i+k by omega]at this;rw[this];exact h4 _ fun q hq=>by omega
   ·obtain⟨d2,h1,h2,h3,h4⟩:=MR l d (m-i) (m+j-i) i (by omega) (by omega) hd;have tR:=h2.1;rw[show m+j-i+i=m+j by omega]at h2;obtain⟨d1,i1,T,k1,k2,k3,k4⟩:=ih i (j-i) d2 f (by omega) hi0 (by omega) Ff (by omega) (by omega) (by omega);refine⟨d1,i1,T,?_,by omega,k3,⟨?_,fun k hk=>?_,fun k hk=>?_⟩⟩
    ·rw[<-k1];refine aF ?_;unfold i6;have e2:aa .sub .i64 (j:Int) (i:Int)=((j-i:Nat):Int):=sS (by omega) (by omega);have e3:aa .add .i64 (m:Int) (j:Int)=((m+j:Nat):Int):=aS (by omega);have e4:aa .sub .i64 ((m+j:Nat):Int) (i:Int)=((m+j-i:Nat):Int):=sS (by omega) (by omega);simp only[ne,decide_eq_false hij,Bool.not_false,cond_true,Pk,hgt,decide_false,cond_false,e1,e3,e4,h1,Option.bind_some,e2]
    ·exact permIn_trans _ _ _ _ _ h2 (permIn_mono d2 T (m-i) (m+(j-i)) (m-i) (m+j) (Nat.le_refl _) (by omega) (by omega) k4.perm)
    ·by_cases cM:k<j-i
     ·rw[k4.lo k cM];exact h4 _ fun q hq=>by omega
     ·have:=k4.hi (k-(j-i)) (by omega);rw[show m-i+(j-i)+(k-(j-i))=m-i+k by omega]at this;rw[this,(h3 (k-(j-i)) (by omega)).1];congr 1;omega
    ·rw[k4.perm.2.1 (m-i+j+k) (.inr (by omega))];have:=(h3 k hk).2;rw[show m+j-i+k=m-i+j+k by omega]at this;exact this
theorem O3(l:List Ev)(d:Array Int)(s m e:Nat)(h1:s<m)(h2:m<e)(he:e<=d.size)(hd:d.size<=255):∃T,e8 d.toList (s:Int) (m:Int) (e:Int) l=some (T.toList,())/\Sw m (m-s) (e-m) d T:=by obtain⟨d1,i1,T,k1,k2,k3,k4⟩:=Pd l m 256 (m-s) (e-m) d big (by omega) (by omega) (by omega) (by omega) (by omega) hd (aN (by omega));refine⟨T,?_,k4⟩;unfold e8 IE;have e1:aa .sub .i64 (m:Int) (s:Int)=((m-s:Nat):Int):=sS (by omega) (by omega);have e2:aa .sub .i64 (e:Int) (m:Int)=((e-m:Nat):Int):=sS (by omega) (by omega);rw[e1,e2,k1];simp only[Option.bind_some,Sum.elim_inl,k3]
theorem bsearch{X Y:Type}{body:X->Option (X⊕Y)}(st:Nat->Nat->X)(fin:Nat->Y)(P:Nat->Bool)(lo hi:Nat)(hs:∀i j,lo<=i->i<j->j<=hi->body (st i j)=some (.inl (bif P ((i+j) / 2)then st ((i+j) / 2+1) j else st i ((i+j) / 2))))(he:∀i,body (st i i)=some (.inr (fin i))):
  ∀(k i j n:Nat),j-i<=k->k<n->lo<=i->i<=j->j<=hi->(i=lo\/P (i-1)=true)->(j=hi\/P j=false)->∃r,iter body n (st i j)=some (fin r)/\lo<=r/\r<=hi/\(r=lo\/P (r-1)=true)/\(r=hi\/P r=false):=by
 intro k;induction k with
 |zero=>
  intro i j n hk hn h1 h2 h3 h4 h5;obtain⟨n,rfl⟩:∃m,n=m+1:=⟨n-1,by omega⟩
  obtain rfl:i=j:=by omega
  exact⟨i,av (he i),h1,h3,h4,h5⟩
 |succ k ih=>
  intro i j n hk hn h1 h2 h3 h4 h5;obtain⟨n,rfl⟩:∃m,n=m+1:=⟨n-1,by omega⟩
  by_cases h:i=j
  ·subst h;exact⟨i,av (he i),h1,h3,h4,h5⟩
  ·have hb:=hs i j h1 (by omega) h3;cases hp:P ((i+j) / 2)with
   |true=>rw[hp]at hb;rw[aF hb];exact ih ((i+j) / 2+1) j n (by omega) (by omega) (by omega) (by omega) h3 (.inr (by simpa using hp)) h5
   |false=>rw[hp]at hb;rw[aF hb];exact ih i ((i+j) / 2) n (by omega) (by omega) h1 (by omega) (by omega) h4 (.inr hp)
theorem I5{lt:Int->Int->Bool}(h:SWO lt){d:Array Int}{a b u v:Nat}(hs:SortedIn lt a b d)(h1:a<=u)(h2:u<=v)(h3:v<b):lt d[v]! d[u]! = false:=by
 by_cases e:u=v
 ·subst e;exact h.irrefl _
 ·exact hs u v h1 (by omega) h3
end Go.Fn
set_option linter.unusedSimpArgs false
set_option linter.unusedVariables false
namespace Go.Fn
open Go.R Go.Sort
theorem Qd(rec:List Int->Int->Int->Int->List Ev->Option (List Int×Unit))(i:Nat)(hi:0<i):∀(r k:Nat) (d:Array Int) (f:Nat),i-1-k=r->i<=d.size->d.size<=255->k<i->r<f ->
  ∃d',iter (qW rec ((i:Int),())) f (d.toList,(k:Int),())=some (.inl (d'.toList,()))/\PermIn k i d d'/\(∀t,k<=t->t<i-1->d'[t]! = d[t+1]!)/\d'[i-1]! = d[k]!:=by
 have e1:aa .sub .i64 (i:Int) 1=((i-1:Nat):Int)\/255<i:=by
  by_cases h:255<i
  ·exact .inr h
  ·exact .inl (sS (m:=1) (by omega) (by omega))
 intro r;induction r with
 |zero=>
  intro k d f hk hs hd Uo hf;have e1:=e1.resolve_right (by omega);obtain⟨f,rfl⟩:∃m,f=m+1:=⟨f-1,by omega⟩
  refine⟨d,av ?_,permIn_refl _ _ _,fun t h1 h2=>by omega,by rw[show i-1=k by omega]⟩;unfold qW;simp only[e1,Mb,show ¬(k<i-1)by omega,decide_false,cond_false]
 |succ r ih=>
  intro k d f hk hs hd Uo hf;have e1:=e1.resolve_right (by omega);obtain⟨f,rfl⟩:∃m,f=m+1:=⟨f-1,by omega⟩
  obtain⟨d',h1,h2,h3,h4⟩:=ih (k+1) (swp d k (k+1)) f (by omega) (by rw[size_swp];omega) (by rw[size_swp];omega) (by omega) (by omega);refine⟨d',?_,permIn_trans _ _ _ k i (swp_permIn d k i k (k+1) (by omega) (by omega) (by omega) (by omega) hs) (permIn_mono _ _ (k+1) i k i (by omega) (Nat.le_refl _) (by rw[size_swp];omega) h2),fun t t1 t2=>?_,?_⟩
  ·rw[<-h1];refine aF ?_;unfold qW;simp only[e1,Mb,show k<i-1 by omega,decide_true,cond_true,au (n:=k) (by omega),P3,gI,RK,show k+1<d.size by omega,show k<d.size by omega,RL]
  ·by_cases e:t=k
   ·subst e;rw[h2.2.1 t (.inl (by omega)),swp_left d _ _ (by omega) (by omega)]
   ·rw[h3 t (by omega) t2,swp_other d _ _ _ (by omega) (by omega)]
  ·rw[h4,swp_right d _ _ (by omega)]
theorem OE(rec:List Int->Int->Int->Int->List Ev->Option (List Int×Unit))(i:Nat):∀(r k:Nat) (d:Array Int) (f:Nat),k-i=r->i<=k->k<d.size->d.size<=255->r<f ->
  ∃d',iter (rp rec ((i:Int),())) f (d.toList,(k:Int),())=some (.inl (d'.toList,()))/\PermIn i (k+1) d d'/\(∀t,i<=t->t<k->d'[t+1]! = d[t]!)/\d'[i]! = d[k]!:=by
 intro r;induction r with
 |zero=>
  intro k d f hk Rh hs hd hf;obtain⟨f,rfl⟩:∃m,f=m+1:=⟨f-1,by omega⟩
  refine⟨d,av ?_,permIn_refl _ _ _,fun t h1 h2=>by omega,by rw[show i=k by omega]⟩;unfold rp;simp only[Pk,show ¬(k>i)by omega,decide_false,cond_false]
 |succ r ih=>
  intro k d f hk Rh hs hd hf;obtain⟨f,rfl⟩:∃m,f=m+1:=⟨f-1,by omega⟩
  have e1:aa .sub .i64 (k:Int) 1=((k-1:Nat):Int):=sS (m:=1) (by omega) (by omega);obtain⟨d',h1,h2,h3,h4⟩:=ih (k-1) (swp d k (k-1)) f (by omega) (by omega) (by rw[size_swp];omega) (by rw[size_swp];omega) (by omega);rw[show k-1+1=k by omega]at h2;refine⟨d',?_,permIn_trans _ _ _ i (k+1) (swp_permIn d i (k+1) k (k-1) (by omega) (by omega) (by omega) (by omega) (by omega)) (permIn_mono _ _ i k i (k+1) (Nat.le_refl _) (by omega) (by rw[size_swp];omega) h2),fun t t1 t2=>?_,?_⟩
  ·rw[<-h1];refine aF ?_;unfold rp;simp only[Pk,show k>i by omega,decide_true,cond_true,e1,P3,gI,RK,show k<d.size by omega,show k-1<d.size by omega,RL]
  ·by_cases e:t+1=k
   ·rw[e,h2.2.1 k (.inr (by omega)),swp_left d _ _ (by omega) (by omega),show k-1=t by omega]
   ·rw[h3 t t1 (by omega),swp_other d _ _ _ (by omega) (by omega)]
  ·rw[h4,swp_right d _ _ (by omega)]
noncomputable def Mg(l:List Ev)(rec:List Int->Int->Int->Int->List Ev->Option (List Int×Unit))(M:Nat):Prop:=∀(d:Array Int) (a m b:Nat),b-a<M->a<m->m<b->b<=d.size->d.size<=255->MT l d->SortedIn (JP l) a m d->SortedIn (JP l) m b d->∃d',rec d.toList (a:Int) (m:Int) (b:Int) l=some (d'.toList,())/\PermIn a b d d'/\SortedIn (JP l) a b d'
theorem NG(l:List Ev)(rec:List Int->Int->Int->Int->List Ev->Option (List Int×Unit))(d:Array Int)(a b:Nat)(h1:a+1<b)(hb:b<=d.size)(hd:d.size<=255)(ho:MT l d)(hs:SortedIn (JP l) (a+1) b d):
  ∃d',bu rec d.toList (a:Int) ((a+1:Nat):Int) (b:Int) l=some (d'.toList,())/\PermIn a b d d'/\SortedIn (JP l) a b d':=by
 have hw:=K7 l;have e0:aa .sub .i64 ((a+1:Nat):Int) (a:Int)=((1:Nat):Int):=by rw[sS (by omega) (by omega)];congr 1;omega
 obtain⟨i,hi,i1,i2,i3,i4⟩:=bsearch (body:=qS rec ((a:Int),l,())) (fun i j=>(d.toList,(i:Int),(j:Int),())) (fun i=>(.inl (d.toList,(i:Int),()):List Int×Int×Unit⊕Empty)) (fun c=>JP l d[c]! d[a]!) (a+1) b (fun i j h1 h2 h3=>by
  unfold qS;have e1:aa .add .i64 (i:Int) (j:Int)=((i+j:Nat):Int):=aS (by omega);have z:cD (1:Int)=false:=rfl;have hc:=Px ho (i:=(i+j) / 2) (j:=a) (by omega) (by omega);simp only[Mb,h2,decide_true,cond_true,z,cond_false,e1,NS (n:=i+j) (by omega),P3,gI,show(i+j) / 2<d.size by omega,show a<d.size by omega,hc,Option.bind_some,Lr,au (n:=(i+j) / 2) (by omega)];cases JP l d[(i+j) / 2]! d[a]! <;> rfl) (fun i=>by
  unfold qS;simp only[Mb,Nat.lt_irrefl,decide_false,cond_false]) 256 (a+1) b big (by omega) (aN (by omega)) (Nat.le_refl _) (by omega) (Nat.le_refl _) (.inl rfl) (.inl rfl)
 obtain⟨d',h3,h4,h5,h6⟩:=Qd rec i (by omega) (i-1-a) a d big rfl (by omega) hd (by omega) (aN (by omega));refine⟨d',?_,permIn_mono _ _ a i a b (Nat.le_refl _) i2 hb h4,?_⟩
 ·unfold bu IA IB;simp only[e0,show af .eql ((1:Nat):Int) (1:Int)=true from rfl,cond_true,hi,Option.bind_some,Sum.elim_inl,h3]
 ·have hi0:∀u,i<=u->d'[u]! = d[u]!:=fun u hu=>h4.2.1 u (.inr hu);intro u v h7 h8 h9;have TD:∀u,u<i-1->a<=u->JP l d[a]! d[u+1]! = false:=fun u hu UJ=>by have hP:JP l d[i-1]! d[a]! = true:=i3.resolve_left (by omega);exact hw.ntrans _ _ _ (hw.asymm hP) (I5 hw hs (by omega) (by omega) (by omega))
  by_cases u1:u<i-1
  ·rw[h5 u h7 u1];by_cases v1:v<i-1
   ·rw[h5 v (by omega) v1];exact I5 hw hs (by omega) (by omega) (by omega)
   ·by_cases v2:v=i-1
    ·rw[v2,h6];exact TD u u1 h7
    ·rw[hi0 v (by omega)];exact I5 hw hs (by omega) (by omega) h9
  ·by_cases u2:u=i-1
   ·rw[u2,h6,hi0 v (by omega)];have hN:JP l d[i]! d[a]! = false:=i4.resolve_left (by omega);exact hw.ntrans _ _ _ (I5 hw hs (by omega) (by omega) h9) hN
   ·rw[hi0 u (by omega),hi0 v (by omega)];exact I5 hw hs (by omega) (by omega) h9
theorem merge_right(l:List Ev)(rec:List Int->Int->Int->Int->List Ev->Option (List Int×Unit))(d:Array Int)(a m:Nat)(h1:a<m)(hne:m-a≠1)(hb:m+1<=d.size)(hd:d.size<=255)(ho:MT l d)(hs:SortedIn (JP l) a m d):
  ∃d',bu rec d.toList (a:Int) (m:Int) ((m+1:Nat):Int) l=some (d'.toList,())/\PermIn a (m+1) d d'/\SortedIn (JP l) a (m+1) d':=by
 have hw:=K7 l;have e0:aa .sub .i64 (m:Int) (a:Int)=((m-a:Nat):Int):=sS (by omega) (by omega);have e1:aa .sub .i64 ((m+1:Nat):Int) (m:Int)=((1:Nat):Int):=by rw[sS (by omega) (by omega)];congr 1;omega
 have Uz:af .eql ((m-a:Nat):Int) (1:Int)=false:=(QH (m-a) 1).trans (decide_eq_false hne);obtain⟨i,hi,i1,i2,i3,i4⟩:=bsearch (body:=rm rec ((m:Int),l,())) (fun i j=>(d.toList,(i:Int),(j:Int),())) (fun i=>(.inl (d.toList,(i:Int),()):List Int×Int×Unit⊕Empty)) (fun c=>!JP l d[m]! d[c]!) a m (fun i j h1 h2 h3=>by
  unfold rm;have e1:aa .add .i64 (i:Int) (j:Int)=((i+j:Nat):Int):=aS (by omega);have z:cD (1:Int)=false:=rfl;have hc:=Px ho (i:=m) (j:=(i+j) / 2) (by omega) (by omega);simp only[Mb,h2,decide_true,cond_true,z,cond_false,e1,NS (n:=i+j) (by omega),P3,gI,show(i+j) / 2<d.size by omega,show m<d.size by omega,hc,Option.bind_some,Lr,au (n:=(i+j) / 2) (by omega)];cases JP l d[m]! d[(i+j) / 2]! <;> rfl) (fun i=>by
  unfold rm;simp only[Mb,Nat.lt_irrefl,decide_false,cond_false]) 256 a m big (by omega) (aN (by omega)) (Nat.le_refl _) (by omega) (Nat.le_refl _) (.inl rfl) (.inl rfl)
 obtain⟨d',h3,h4,h5,h6⟩:=OE rec i (m-i) m d big rfl (by omega) (by omega) hd (aN (by omega));refine⟨d',?_,permIn_mono _ _ i (m+1) a (m+1) i1 (Nat.le_refl _) hb h4,?_⟩
 ·unfold bu IC ID;simp only[e0,Uz,cond_false,e1,show af .eql ((1:Nat):Int) (1:Int)=true from rfl,cond_true,hi,Option.bind_some,Sum.elim_inl,h3]
 ·have hi0:∀u,u<i->d'[u]! = d[u]!:=fun u hu=>h4.2.1 u (.inl hu);have RI:∀u,i<u->u<m+1->d'[u]! = d[u-1]!:=fun u hu EK=>by have:=h5 (u-1) (by omega) (by omega);rwa[show u-1+1=u by omega]at this
  intro u v h7 h8 h9;by_cases u1:u<i
  ·rw[hi0 u u1];by_cases v1:v<i
   ·rw[hi0 v v1];exact I5 hw hs h7 (by omega) (by omega)
   ·by_cases v2:v=i
    ·rw[v2,h6];have hP:=i3.resolve_left (by omega);rw[Bool.not_eq_true']at hP;exact hw.ntrans _ _ _ hP (I5 hw hs h7 (by omega) (by omega))
    ·rw[RI v (by omega) h9];exact I5 hw hs h7 (by omega) (by omega)
  ·by_cases u2:u=i
   ·rw[u2,h6,RI v (by omega) h9];have hN:=i4.resolve_left (by omega);rw[Bool.not_eq_false']at hN;exact hw.ntrans _ _ _ (I5 hw hs (by omega) (by omega) (by omega)) (hw.asymm hN)
   ·rw[RI u (by omega) (by omega),RI v (by omega) h9];exact I5 hw hs (by omega) (by omega) (by omega)
noncomputable def LB(rec:List Int->Int->Int->Int->List Ev->Option (List Int×Unit))(l:List Ev)(mid e b:Int)(d:List Int):Option (List Int×Unit):=(lets (af .lss mid e) fun v3=>(bif v3 then(bif (af .lss e b)then((rec d mid e b l).bind fun y4=>some (y4.1,()))else some (d,()))else some (d,())))
noncomputable def La(rec:List Int->Int->Int->Int->List Ev->Option (List Int×Unit))(l:List Ev)(a s mid e b:Int)(d:List Int):Option (List Int×Unit):=(bif (af .lss a s)then(bif (af .lss s mid)then((rec d a s mid l).bind fun y2=>LB rec l mid e b y2.1)else LB rec l mid e b d)else LB rec l mid e b d)
theorem PN {l:List Ev} {rec:List Int->Int->Int->Int->List Ev->Option (List Int×Unit)} {M:Nat} (gf:Mg l rec M) (d:Array Int) (a s mid e b:Nat) (h1:a<=s) (h2:s<=mid) (h3:mid<=e) (h4:e<=b) (hab:a<mid) (hmb:mid<b) (hM:b-a<=M) (hb:b<=d.size) (hd:d.size<=255) (ho:MT l d)
  (s1:SortedIn (JP l) a s d) (s2:SortedIn (JP l) s mid d) (s3:SortedIn (JP l) mid e d) (s4:SortedIn (JP l) e b d) (hx:∀u v,a<=u->u<mid->mid<=v->v<b->JP l d[v]! d[u]! = false):
  ∃d',La rec l (a:Int) (s:Int) (mid:Int) (e:Int) (b:Int) d.toList=some (d'.toList,())/\PermIn a b d d'/\SortedIn (JP l) a b d':=by
 have hw:=K7 l;obtain⟨d2,k1,k2,k3⟩:∃d2:Array Int,La rec l (a:Int) (s:Int) (mid:Int) (e:Int) (b:Int) d.toList=LB rec l (mid:Int) (e:Int) (b:Int) d2.toList/\PermIn a mid d d2/\SortedIn (JP l) a mid d2:=by
  unfold La;rw[Mb,Mb];by_cases q1:a<s
  ·by_cases q2:s<mid
   ·obtain⟨d2,k1,k2,k3⟩:=gf d a s mid (by omega) q1 q2 (by omega) hd ho s1 s2;exact⟨d2,by simp only[q1,q2,decide_true,cond_true,k1,Option.bind_some],k2,k3⟩
   ·have:s=mid:=by omega
    exact⟨d,by simp only[q1,q2,decide_true,decide_false,cond_true,cond_false],permIn_refl _ _ _,this▸s1⟩
  ·have:s=a:=by omega
   exact⟨d,by simp only[q1,decide_false,cond_false],permIn_refl _ _ _,this▸s2⟩
 have z2:d2.size=d.size:=k2.1;have uP:=ho.perm (by omega) k2;obtain⟨d3,m1,m2,m3⟩:∃d3:Array Int,LB rec l (mid:Int) (e:Int) (b:Int) d2.toList=some (d3.toList,())/\PermIn mid b d2 d3/\SortedIn (JP l) mid b d3:=by
  have Fs:SortedIn (JP l) mid e d2:=s3.congr fun i hi _=>k2.2.1 i (.inr hi);have Tu:SortedIn (JP l) e b d2:=s4.congr fun i hi _=>k2.2.1 i (.inr (by omega));unfold LB;rw[Mb,Mb];by_cases q1:mid<e
  ·by_cases q2:e<b
   ·obtain⟨d3,m1,m2,m3⟩:=gf d2 mid e b (by omega) q1 q2 (by omega) (by omega) uP Fs Tu;exact⟨d3,by simp only[aR,q1,q2,decide_true,cond_true,m1,Option.bind_some],m2,m3⟩
   ·have:e=b:=by omega
    exact⟨d2,by simp only[aR,q1,q2,decide_true,decide_false,cond_true,cond_false],permIn_refl _ _ _,this▸Fs⟩
  ·have:e=mid:=by omega
   exact⟨d2,by simp only[aR,q1,decide_false,cond_false],permIn_refl _ _ _,this▸Tu⟩
 refine⟨d3,by rw[k1,m1],permIn_trans _ _ _ a b (permIn_mono _ _ a mid a b (Nat.le_refl _) (by omega) hb k2) (permIn_mono _ _ mid b a b (by omega) (Nat.le_refl _) (by omega) m2),fun u v h7 h8 h9=>?_⟩;have left:∀u,u<mid->d3[u]! = d2[u]!:=fun u hu=>m2.2.1 u (.inl hu);by_cases v1:v<mid
 ·rw[left u (by omega),left v v1];exact k3 u v h7 h8 v1
 ·by_cases u1:u<mid
  ·rw[left u u1];have c1:∀w,mid<=w->w<b->JP l d2[w]! d2[u]! = false:=fun w rA DP=>by rw[k2.2.1 w (.inr rA)];exact permIn_all d d2 a mid (fun x=>JP l d[w]! x=false) (by omega) k2 (fun t ht1 Se=>hx t w ht1 Se rA DP) u h7 u1
   exact permIn_all d2 d3 mid b (fun x=>JP l x d2[u]! = false) (by omega) m2 (fun t ht1 Se=>c1 t ht1 Se) v (by omega) h9
  ·exact m3 u v (by omega) h8 h9
theorem OK {l:List Ev} {rec:List Int->Int->Int->Int->List Ev->Option (List Int×Unit)} {M:Nat} (gf:Mg l rec M) (d:Array Int) (a m b mid s e lo hi:Nat) (QJ:a+2<=m) (hmb:m+2<=b) (hM:b-a<=M) (hb:b<=d.size) (hd:d.size<=255) (ho:MT l d)
  (s1:SortedIn (JP l) a m d) (s2:SortedIn (JP l) m b d) (Ql:mid=(a+b) / 2) (hlo:lo=if m>mid then mid+m-b else a) (hhi:hi=if m>mid then mid else m) (r1:lo<=s) (r2:s<=hi) (he:e=mid+m-s)
  (r3:s=lo\/JP l d[mid+m-1-(s-1)]! d[s-1]! = false) (r4:s=hi\/JP l d[mid+m-1-s]! d[s]! = true):
  ∃d',(bif (af .lss (s:Int) (m:Int))then(bif (af .lss (m:Int) (e:Int))then((e8 d.toList (s:Int) (m:Int) (e:Int) l).bind fun y2=>La rec l (a:Int) (s:Int) (mid:Int) (e:Int) (b:Int) y2.1)else La rec l (a:Int) (s:Int) (mid:Int) (e:Int) (b:Int) d.toList)else La rec l (a:Int) (s:Int) (mid:Int) (e:Int) (b:Int) d.toList)=some (d'.toList,())/\PermIn a b d d'/\SortedIn (JP l) a b d':=by
 have hw:=K7 l;have b1:a<=s/\s<=m/\m<=e/\e<=b/\s<=mid/\mid<=e:=by split at hlo <;> rename_i q <;> simp only[q,if_true,if_false]at hhi <;> omega
 obtain⟨c1,c2,c3,c4,c5,c6⟩:=b1;obtain⟨T,t0,t1,t2,t3⟩:∃T:Array Int,(bif (af .lss (s:Int) (m:Int))then(bif (af .lss (m:Int) (e:Int))then((e8 d.toList (s:Int) (m:Int) (e:Int) l).bind fun y2=>La rec l (a:Int) (s:Int) (mid:Int) (e:Int) (b:Int) y2.1)else La rec l (a:Int) (s:Int) (mid:Int) (e:Int) (b:Int) d.toList)else La rec l (a:Int) (s:Int) (mid:Int) (e:Int) (b:Int) d.toList)=La rec l (a:Int) (s:Int) (mid:Int) (e:Int) (b:Int) T.toList/\PermIn s e d T/\(∀u,s<=u->u<mid->T[u]! = d[m+(u-s)]!)/\(∀v,mid<=v->v<e->T[v]! = d[s+(v-mid)]!):=by
  rw[Mb,Mb];by_cases q1:s<m
  ·by_cases q2:m<e
   ·obtain⟨T,k1,k2,k3,k4⟩:=O3 l d s m e q1 q2 (by omega) hd;rw[show m-(m-s)=s by omega]at k2 k3 k4;rw[show m+(e-m)=e by omega]at k2;refine⟨T,by simp only[q1,q2,decide_true,cond_true,k1,Option.bind_some],k2,fun u h1 h2=>?_,fun v h1 h2=>?_⟩
    ·have:=k3 (u-s) (by omega);rwa[show s+(u-s)=u by omega]at this
    ·have:=k4 (v-mid) (by omega);rwa[show s+(e-m)+(v-mid)=v by omega]at this
   ·have:e=m:=by omega
    refine⟨d,by simp only[q1,q2,decide_true,decide_false,cond_true,cond_false],permIn_refl _ _ _,fun u h1 h2=>by omega,fun v h1 h2=>?_⟩;congr 1;omega
  ·have:s=m:=by omega
   refine⟨d,by simp only[q1,decide_false,cond_false],permIn_refl _ _ _,fun u h1 h2=>?_,fun v h1 h2=>by omega⟩;congr 1;omega
 have lo':∀u,u<s->T[u]! = d[u]!:=fun u hu=>t1.2.1 u (.inl hu);have hi':∀v,e<=v->T[v]! = d[v]!:=fun v hv=>t1.2.1 v (.inr hv);have zT:T.size=d.size:=t1.1;obtain⟨d',k1,k2,k3⟩:=PN gf T a s mid e b c1 c5 c6 c4 (by omega) (by omega) hM (by omega) (by omega) (ho.perm (by omega) t1)
  (fun u v h1 h2 h3=>by rw[lo' u (by omega),lo' v h3];exact s1 u v h1 h2 (by omega))
  (fun u v h1 h2 h3=>by rw[t2 u h1 (by omega),t2 v (by omega) h3];exact I5 hw s2 (by omega) (by omega) (by omega))
  (fun u v h1 h2 h3=>by rw[t3 u h1 (by omega),t3 v (by omega) h3];exact I5 hw s1 (by omega) (by omega) (by omega))
  (fun u v h1 h2 h3=>by rw[hi' u h1,hi' v (by omega)];exact s2 u v (by omega) h2 h3)
  (fun u v h1 h2 h3 h4=>by
   by_cases u1:u<s
   ·rw[lo' u u1];by_cases v1:v<e
    ·rw[t3 v h3 v1];exact I5 hw s1 h1 (by omega) (by omega)
    ·rw[hi' v (by omega)];have hP:JP l d[e]! d[s-1]! = false:=by have:=r3.resolve_left (by split at hlo <;> omega);rwa[show mid+m-1-(s-1)=e by omega]at this
     exact hw.ntrans _ _ _ (hw.ntrans _ _ _ (I5 hw s2 (by omega) (by omega) h4) hP) (I5 hw s1 h1 (by omega) (by omega))
   ·rw[t2 u (by omega) h2];by_cases v1:v<e
    ·rw[t3 v h3 v1];have hP:JP l d[e-1]! d[s]! = true:=by have:=r4.resolve_left (by split at hhi <;> omega);rwa[show mid+m-1-s=e-1 by omega]at this
     exact hw.ntrans _ _ _ (hw.ntrans _ _ _ (I5 hw s1 (by omega) (by omega) (by omega)) (hw.asymm hP)) (I5 hw s2 (by omega) (by omega) (by omega))
    ·rw[hi' v (by omega)];exact I5 hw s2 (by omega) (by omega) h4)
 exact⟨d',by rw[t0];exact k1,permIn_trans _ _ _ a b (permIn_mono _ _ s e a b c1 c4 hb t1) k2,k3⟩
theorem Og(l:List Ev){rec:List Int->Int->Int->Int->List Ev->Option (List Int×Unit)}{M:Nat}(gf:Mg l rec M)(d:Array Int)(a m b:Nat)(hM:b-a<=M)(QJ:a<m)(hmb:m<b)(hb:b<=d.size)(hd:d.size<=255)(ho:MT l d)(s1:SortedIn (JP l) a m d)(s2:SortedIn (JP l) m b d):
  ∃d',bu rec d.toList (a:Int) (m:Int) (b:Int) l=some (d'.toList,())/\PermIn a b d d'/\SortedIn (JP l) a b d':=by
 by_cases q1:m=a+1
 ·subst q1;exact NG l rec d a b hmb hb hd ho s2
 ·by_cases q2:b=m+1
  ·subst q2;exact merge_right l rec d a m QJ (by omega) hb hd ho s1
  ·have e0:aa .sub .i64 (m:Int) (a:Int)=((m-a:Nat):Int):=sS (by omega) (by omega);have e1:aa .sub .i64 (b:Int) (m:Int)=((b-m:Nat):Int):=sS (by omega) (by omega);have n1:af .eql ((m-a:Nat):Int) (1:Int)=false:=(QH (m-a) 1).trans (decide_eq_false (by omega));have n2:af .eql ((b-m:Nat):Int) (1:Int)=false:=(QH (b-m) 1).trans (decide_eq_false (by omega));have z:cD (1:Int)=false:=rfl;have e2:aa .add .i64 (a:Int) (b:Int)=((a+b:Nat):Int):=aS (by omega);have e3:=NS (n:=a+b) (by omega);obtain⟨mid,Ql⟩:∃mid,mid=(a+b) / 2:=⟨_,rfl⟩
   rw[<-Ql]at e3;have e4:aa .add .i64 (mid:Int) (m:Int)=((mid+m:Nat):Int):=aS (by omega);have e5:aa .sub .i64 ((mid+m:Nat):Int) 1=((mid+m-1:Nat):Int):=sS (m:=1) (by omega) (by omega);obtain⟨lo,hlo⟩:∃lo,lo=if m>mid then mid+m-b else a:=⟨_,rfl⟩
   obtain⟨hi,hhi⟩:∃hi,hi=if m>mid then mid else m:=⟨_,rfl⟩
   have Uq:a<=lo/\lo<=hi/\hi<=m/\hi<=mid/\(∀c,lo<=c->c<hi->mid+m-1-c<b/\c<=mid+m-1):=by
    split at hlo <;> rename_i q <;> simp only[q,if_true,if_false]at hhi
    ·exact⟨by omega,by omega,by omega,by omega,fun c _ _=>by omega⟩
    ·exact⟨by omega,by omega,by omega,by omega,fun c _ _=>by omega⟩
   obtain⟨l1,l2,l3,l4,l5⟩:=Uq;obtain⟨s,hs,i1,i2,i3,i4⟩:=bsearch (body:=sL rec ((a:Int),(m:Int),(b:Int),l,(mid:Int),((mid+m:Nat):Int),((mid+m-1:Nat):Int),())) (fun i j=>(d.toList,(i:Int),(j:Int),())) (fun i=>(.inl (d.toList,(i:Int),()):List Int×Int×Unit⊕Empty)) (fun c=>!JP l d[mid+m-1-c]! d[c]!) lo hi (fun i j h1 h2 h3=>by
    have Ei:=l5 ((i+j) / 2) (by omega) (by omega);unfold sL;have x1:aa .add .i64 (i:Int) (j:Int)=((i+j:Nat):Int):=aS (by omega);have x2:aa .sub .i64 ((mid+m-1:Nat):Int) (((i+j) / 2:Nat):Int)=((mid+m-1-(i+j) / 2:Nat):Int):=sS (by omega) (by omega);have hc:=Px ho (i:=mid+m-1-(i+j) / 2) (j:=(i+j) / 2) (by omega) (by omega);simp only[Mb,h2,decide_true,cond_true,z,cond_false,x1,NS (n:=i+j) (by omega),x2,P3,gI,show(i+j) / 2<d.size by omega,show mid+m-1-(i+j) / 2<d.size by omega,hc,Option.bind_some,Lr,au (n:=(i+j) / 2) (by omega)];cases JP l d[mid+m-1-(i+j) / 2]! d[(i+j) / 2]! <;> rfl) (fun i=>by
    unfold sL;simp only[Mb,Nat.lt_irrefl,decide_false,cond_false]) 256 lo hi big (by omega) (aN (by omega)) (Nat.le_refl _) l2 (Nat.le_refl _) (.inl rfl) (.inl rfl)
   have e6:aa .sub .i64 ((mid+m:Nat):Int) (s:Int)=((mid+m-s:Nat):Int):=sS (by omega) (by omega);obtain⟨d',k1,k2,k3⟩:=OK gf d a m b mid s (mid+m-s) lo hi (by omega) (by omega) hM hb hd ho s1 s2 Ql hlo hhi i1 i2 rfl (i3.imp id fun h=>by simpa using h) (i4.imp id fun h=>by simpa using h);refine⟨d',?_,k2,k3⟩;rw[<-k1];unfold bu;by_cases q:m>mid
   ·simp only[q,if_true]at hlo hhi;have x1:aa .sub .i64 ((mid+m:Nat):Int) (b:Int)=((mid+m-b:Nat):Int):=sS (by omega) (by omega);rw[hlo,hhi]at hs;have hs':gm rec ((a:Int),(m:Int),(b:Int),l,(mid:Int),((mid+m:Nat):Int),((mid+m-1:Nat):Int),()) (d.toList,((mid+m-b:Nat):Int),(mid:Int),())=_:=hs;simp only[e0,n1,cond_false,e1,n2,z,e2,e3,Pk,q,decide_true,cond_true,e4,e5,x1,hs',Option.bind_some,Sum.elim_inl,e6];rfl
   ·simp only[q,if_false]at hlo hhi;rw[hlo,hhi]at hs;have hs':gm rec ((a:Int),(m:Int),(b:Int),l,(mid:Int),((mid+m:Nat):Int),((mid+m-1:Nat):Int),()) (d.toList,(a:Int),(m:Int),())=_:=hs;simp only[e0,n1,cond_false,e1,n2,z,e2,e3,Pk,q,decide_false,e4,e5,hs',Option.bind_some,Sum.elim_inl,e6];rfl
theorem PK(l:List Ev):∀F,Mg l (iL F) F:=by
 intro F;induction F with
 |zero=>intro d a m b h;omega
 |succ F ih=>intro d a m b h QJ hmb hb hd ho s1 s2;exact Og l ih d a m b (by omega) QJ hmb hb hd ho s1 s2
theorem MQ(l:List Ev)(d:Array Int)(a m b:Nat)(QJ:a<m)(hmb:m<b)(hb:b<=d.size)(hd:d.size<=255)(ho:MT l d)(s1:SortedIn (JP l) a m d)(s2:SortedIn (JP l) m b d):∃d',jr d.toList (a:Int) (m:Int) (b:Int) l=some (d'.toList,())/\PermIn a b d d'/\SortedIn (JP l) a b d':=PK l big d a m b (aN (by omega)) QJ hmb hb hd ho s1 s2
end Go.Fn
set_option linter.unusedSimpArgs false
set_option linter.unusedVariables false
namespace Go.Fn
open Go.R Go.Sort
noncomputable def QN(l:List Ev)(w a:Nat)(d:Array Int):Prop:=∀i j,i<j->j<a->i / w=j / w->JP l d[j]! d[i]! = false
theorem PO(l:List Ev)(n:Nat)(hn:n<=60):∀(s a:Nat) (d:Array Int) (f:Nat),n-a<=s->a % 20=0->a<=n->d.size=n->MT l d->QN l 20 a d->s<f ->
  ∃(d':Array Int) (a':Nat),iter (jn ((n:Int),l,(20:Int),())) f (d.toList,(a:Int),((a+20:Nat):Int),())=some (.inl (d'.toList,(a':Int),()))/\PermIn 0 n d d'/\a' % 20=0/\a'<=n/\n<a'+20/\QN l 20 a' d':=by
 intro s;induction s with
 |zero=>
  intro a d f hs ha Qj hd ho hb hf;obtain⟨f,rfl⟩:∃m,f=m+1:=⟨f-1,by omega⟩
  refine⟨d,a,av ?_,permIn_refl _ _ _,ha,Qj,by omega,hb⟩;unfold jn;simp only[Qv,show ¬(a+20<=n)by omega,decide_false,cond_false]
 |succ s ih=>
  intro a d f hs ha Qj hd ho hb hf;obtain⟨f,rfl⟩:∃m,f=m+1:=⟨f-1,by omega⟩
  by_cases h:a+20<=n
  ·obtain⟨d1,k1,k2,k3⟩:=P7 l d a (a+20) ho (by omega) (by omega) (by omega);obtain⟨d',a',m1,m2,m3,m4,m5,m6⟩:=ih (a+20) d1 f (by omega) (by omega) h (by rw[k2.1];exact hd) (ho.perm (by omega) k2) (fun i j h1 h2 h3=>by
    by_cases q:j<a
    ·rw[k2.2.1 i (.inl (by omega)),k2.2.1 j (.inl q)];exact hb i j h1 q h3
    ·exact k3 i j (by omega) h1 h2) (by omega)
   refine⟨d',a',?_,permIn_trans _ _ _ 0 n (permIn_mono _ _ a (a+20) 0 n (Nat.zero_le _) h (by omega) k2) m2,m3,m4,m5,m6⟩;rw[<-m1];refine aF ?_;unfold jn;have e1:aa .add .i64 ((a+20:Nat):Int) (20:Int)=((a+20+20:Nat):Int):=aS (m:=20) (by omega);simp only[Qv,h,decide_true,cond_true,k1,Option.bind_some,e1]
  ·refine⟨d,a,av ?_,permIn_refl _ _ _,ha,Qj,by omega,hb⟩;unfold jn;simp only[Qv,h,decide_false,cond_false]
theorem PR(l:List Ev)(n:Nat)(hn:n<=60):∀(s a:Nat) (d:Array Int) (f:Nat),n-a<=s->a % 40=0->a<=n->d.size=n->MT l d->QN l 40 a d->(∀i j,a<=i->i<j->j<n->i / 20=j / 20->JP l d[j]! d[i]! = false)->s<f ->
  ∃(d':Array Int) (a':Nat),iter (fu ((n:Int),l,(20:Int),())) f (d.toList,(a:Int),((a+40:Nat):Int),())=some (.inl (d'.toList,(a':Int),()))/\PermIn 0 n d d'/\a' % 40=0/\a'<=n/\n<a'+40/\QN l 40 a' d'/\(∀i j,a'<=i->i<j->j<n->i / 20=j / 20->JP l d'[j]! d'[i]! = false):=by
 intro s;induction s with
 |zero=>
  intro a d f hs ha Qj hd ho hb hr hf;obtain⟨f,rfl⟩:∃m,f=m+1:=⟨f-1,by omega⟩
  refine⟨d,a,av ?_,permIn_refl _ _ _,ha,Qj,by omega,hb,hr⟩;unfold fu;simp only[Qv,show ¬(a+40<=n)by omega,decide_false,cond_false]
 |succ s ih=>
  intro a d f hs ha Qj hd ho hb hr hf;obtain⟨f,rfl⟩:∃m,f=m+1:=⟨f-1,by omega⟩
  by_cases h:a+40<=n
  ·obtain⟨d1,k1,k2,k3⟩:=MQ l d a (a+20) (a+40) (by omega) (by omega) (by omega) (by omega) ho (fun i j h1 h2 h3=>hr i j h1 h2 (by omega) (by omega)) (fun i j h1 h2 h3=>hr i j (by omega) h2 (by omega) (by omega));obtain⟨d',a',m1,m2,m3,m4,m5,m6,m7⟩:=ih (a+40) d1 f (by omega) (by omega) h (by rw[k2.1];exact hd) (ho.perm (by omega) k2) (fun i j h1 h2 h3=>by
    by_cases q:j<a
    ·rw[k2.2.1 i (.inl (by omega)),k2.2.1 j (.inl q)];exact hb i j h1 q h3
    ·exact k3 i j (by omega) h1 h2) (fun i j h0 h1 h2 h3=>by
    rw[k2.2.1 i (.inr (by omega)),k2.2.1 j (.inr (by omega))];exact hr i j (by omega) h1 h2 h3) (by omega)
   refine⟨d',a',?_,permIn_trans _ _ _ 0 n (permIn_mono _ _ a (a+40) 0 n (Nat.zero_le _) h (by omega) k2) m2,m3,m4,m5,m6,m7⟩;rw[<-m1];refine aF ?_;unfold fu;have e0:aa .add .i64 (a:Int) (20:Int)=((a+20:Nat):Int):=aS (m:=20) (by omega);have e1:aa .add .i64 ((a+40:Nat):Int) (aa .mul .i64 (2:Int) (20:Int))=((a+40+40:Nat):Int):=by rw[show aa .mul .i64 (2:Int) (20:Int)=((40:Nat):Int)from mS (n:=2) (m:=20) (by omega)];exact aS (by omega)
   simp only[Qv,h,decide_true,cond_true,e0,k1,Option.bind_some,e1]
  ·refine⟨d,a,av ?_,permIn_refl _ _ _,ha,Qj,by omega,hb,hr⟩;unfold fu;simp only[Qv,h,decide_false,cond_false]
theorem O4(l:List Ev)(d:Array Int)(n:Nat)(hn:n<=60)(hd:d.size=n)(ho:MT l d):∃d',lj d.toList (n:Int) l=some (d'.toList,())/\PermIn 0 n d d'/\SortedIn (JP l) 0 n d':=by
 obtain⟨d1,a1,k1,k2,k3,k4,k5,k6⟩:=PO l n hn 60 0 d big (by omega) rfl (Nat.zero_le _) hd ho (fun i j _ h=>by omega) (aN (by omega));have z1:d1.size=n:=by rw[k2.1];exact hd
 have B0:=ho.perm (by omega) k2;obtain⟨d2,m1,m2,m3⟩:=P7 l d1 a1 n B0 k4 (by omega) (by omega);have z2:d2.size=n:=by rw[m2.1];exact z1
 have uP:=B0.perm (by omega) m2;have p2:=permIn_trans _ _ _ 0 n k2 (permIn_mono _ _ a1 n 0 n (Nat.zero_le _) (Nat.le_refl _) (by omega) m2);have b2:∀i j,0<=i->i<j->j<n->i / 20=j / 20->JP l d2[j]! d2[i]! = false:=fun i j _ h1 h2 h3=>by
  by_cases q:j<a1
  ·rw[m2.2.1 i (.inl (by omega)),m2.2.1 j (.inl q)];exact k6 i j h1 q h3
  ·exact m3 i j (by omega) h1 h2
 have st:IF ((n:Int),l,(20:Int),()) (d.toList,(0:Int),(20:Int),())=_:=k1;unfold lj;simp only[st,Option.bind_some,Sum.elim_inl,m1];unfold IG;by_cases q20:20<n
 ·obtain⟨d3,a3,r1,r2,r3,r4,r5,r6,r7⟩:=PR l n hn 60 0 d2 big (by omega) rfl (Nat.zero_le _) z2 uP (fun i j _ h=>by omega) b2 (aN (by omega));have z3:d3.size=n:=by rw[r2.1];exact z2
  have Us:=uP.perm (by omega) r2;have Tv:ve ((n:Int),l,(20:Int),()) (d2.toList,(0:Int),aa .mul .i64 (2:Int) (20:Int),())=_:=r1;have Tb:aa .mul .i64 (20:Int) (2:Int)=((40:Nat):Int):=mS (n:=20) (m:=2) (by omega);have ea:aa .add .i64 (a3:Int) (20:Int)=((a3+20:Nat):Int):=aS (m:=20) (by omega);have g20:af .lss (20:Int) (n:Int)=true:=(Mb 20 n).trans (decide_eq_true q20);obtain⟨d4,s1,s2,s3⟩:∃d4:Array Int,bn ((n:Int),l,()) (d2.toList,(20:Int),())=some (.inl (d4.toList,((40:Nat):Int),()))/\PermIn 0 n d2 d4/\QN l 40 n d4:=by
   by_cases q:a3+20<n
   ·obtain⟨d4,t1,t2,t3⟩:=MQ l d3 a3 (a3+20) n (by omega) q (by omega) (by omega) Us (fun i j h1 h2 h3=>r7 i j h1 h2 (by omega) (by omega)) (fun i j h1 h2 h3=>r7 i j (by omega) h2 (by omega) (by omega));refine⟨d4,?_,permIn_trans _ _ _ 0 n r2 (permIn_mono _ _ a3 n 0 n (Nat.zero_le _) (Nat.le_refl _) (by omega) t2),fun i j h1 h2 h3=>?_⟩
    ·unfold bn;simp only[g20,cond_true,Tv,Option.bind_some,Sum.elim_inl,ea,Mb,q,decide_true,t1,Tb]
    ·by_cases q':j<a3
     ·rw[t2.2.1 i (.inl (by omega)),t2.2.1 j (.inl q')];exact r6 i j h1 q' h3
     ·exact t3 i j (by omega) h1 h2
   ·refine⟨d3,?_,r2,fun i j h1 h2 h3=>?_⟩
    ·unfold bn;simp only[g20,cond_true,Tv,Option.bind_some,Sum.elim_inl,ea,Mb,q,decide_false,cond_false,Tb]
    ·by_cases q':j<a3
     ·exact r6 i j h1 q' h3
     ·exact r7 i j (by omega) h1 h2 (by omega)
  have z4:d4.size=n:=by rw[s2.1];exact z2
  have Ut:=uP.perm (by omega) s2;by_cases q40:40<n
  ·have UA:ve ((n:Int),l,((40:Nat):Int),()) (d4.toList,(0:Int),aa .mul .i64 (2:Int) ((40:Nat):Int),())=some (.inl (d4.toList,(0:Int),())):=by
    refine bh (n:=1) (av ?_) (Nat.le_of_lt (aN (by omega)));have RX:aa .mul .i64 (2:Int) ((40:Nat):Int)=((80:Nat):Int):=mS (n:=2) (m:=40) (by omega);unfold fu;simp only[RX,Qv,show ¬(80<=n)by omega,decide_false,cond_false]
   obtain⟨d5,t1,t2,t3⟩:=MQ l d4 0 40 n (by omega) q40 (by omega) (by omega) Ut (fun i j h1 h2 h3=>s3 i j h2 (by omega) (by omega)) (fun i j h1 h2 h3=>s3 i j h2 (by omega) (by omega));refine⟨d5,?_,permIn_trans _ _ _ 0 n p2 (permIn_trans _ _ _ 0 n s2 t2),t3⟩;have it:iter (bn ((n:Int),l,())) 3 (d2.toList,(20:Int),())=some (.inl (d5.toList,())):=by
    have e0:aa .add .i64 (0:Int) ((40:Nat):Int)=((40:Nat):Int):=by rw[show(0:Int)=((0:Nat):Int)from rfl,aS (by omega)]
    have RX:aa .mul .i64 ((40:Nat):Int) (2:Int)=((80:Nat):Int):=mS (n:=40) (m:=2) (by omega);have Gu:jr d4.toList (0:Int) ((40:Nat):Int) (n:Int) l=_:=t1;rw[aF s1,aF (y:=(d5.toList,((80:Nat):Int),())) (by unfold bn;simp only[Mb,q40,decide_true,cond_true,UA,Option.bind_some,Sum.elim_inl,e0,Gu,RX])];refine av ?_;unfold bn;simp only[Mb,show ¬(80<n)by omega,decide_false,cond_false]
   rw[bh it (Nat.le_of_lt (aN (by omega)))];rfl
  ·refine⟨d4,?_,permIn_trans _ _ _ 0 n p2 s2,fun i j h1 h2 h3=>s3 i j h2 h3 (by omega)⟩;have it:iter (bn ((n:Int),l,())) 2 (d2.toList,(20:Int),())=some (.inl (d4.toList,())):=by rw[aF s1];refine av ?_;unfold bn;simp only[Mb,q40,decide_false,cond_false]
   rw[bh it (Nat.le_of_lt (aN (by omega)))];rfl
 ·refine⟨d2,?_,p2,fun i j h1 h2 h3=>b2 i j (Nat.zero_le _) h2 h3 (by omega)⟩;have it:iter (bn ((n:Int),l,())) 1 (d2.toList,(20:Int),())=some (.inl (d2.toList,())):=by refine av ?_;have g20:af .lss (20:Int) (n:Int)=false:=(Mb 20 n).trans (decide_eq_false q20);unfold bn;simp only[g20,cond_false]
  rw[bh it (Nat.le_of_lt (aN (by omega)))];rfl
theorem LW{α:Type}{lt:α->α->Prop}(Sp:∀x,¬lt x x)(S9:∀x y,lt x y -> ¬lt y x):∀ {l m:List α},l.Pairwise lt->m.Pairwise lt->(∀x,x∈l↔x∈m)->l=m
 | [],[],_,_,_=>rfl
 | [],y::m,_,_,h=>absurd ((h y).2 (List.mem_cons_self ..)) (List.not_mem_nil)
 |x::l,[],_,_,h=>absurd ((h x).1 (List.mem_cons_self ..)) (List.not_mem_nil)
 |x::l,y::m,hl,hm,h=>by
  have hl':=List.pairwise_cons.1 hl;have hm':=List.pairwise_cons.1 hm;have hxy:x=y:=by
   rcases List.mem_cons.1 ((h x).1 (List.mem_cons_self ..))with e|h1
   ·exact e
   ·rcases List.mem_cons.1 ((h y).2 (List.mem_cons_self ..))with e|h2
    ·exact e.symm
    ·exact absurd (hl'.1 y h2) (S9 _ _ (hm'.1 x h1))
  subst hxy;congr 1;refine LW Sp S9 hl'.2 hm'.2 fun z=>⟨fun hz=>?_,fun hz=>?_⟩
  ·rcases List.mem_cons.1 ((h z).1 (List.mem_cons_of_mem _ hz))with e|h1
   ·subst e;exact absurd (hl'.1 z hz) (Sp z)
   ·exact h1
  ·rcases List.mem_cons.1 ((h z).2 (List.mem_cons_of_mem _ hz))with e|h1
   ·subst e;exact absurd (hm'.1 z hz) (Sp z)
   ·exact h1
noncomputable def Je(n:Nat):List Int:=(List.range n).map fun i:Nat=>(i:Int)
theorem LU(n:Nat):(Je n).length=n:=by simp[Je]
theorem extract_all{α:Type}{d:Array α}{n:Nat}(h:d.size=n):d.extract 0 n=d:=by subst h;exact Array.extract_size
theorem Ng(n:Nat):Je (n+1)=Je n++[(n:Int)]:=by unfold Je;rw[List.range_succ,List.map_append];rfl
theorem LV{n:Nat}{x:Int}:x∈Je n↔0<=x/\x<n:=by
 unfold Je;rw[List.mem_map];constructor
 ·rintro⟨k,hk,rfl⟩;have:=List.mem_range.1 hk;omega
 ·intro h;exact⟨x.toNat,List.mem_range.2 (by omega),by omega⟩
theorem MO{l:List Ev}(h:JZ l=true){i j:Nat}(hij:i<j)(hj:j<l.length)(hs:(l.getD i br).2.2.1=(l.getD j br).2.2.1):JP l (i:Int) (j:Int)=true:=by
 have hp:=(LF.1 h).2.2;rw[List.pairwise_iff_getElem]at hp;have:=hp i j (by omega) hj hij;rw[<-getD_eq (show i<l.length by omega) br,<-getD_eq hj br]at this;obtain⟨h1,h2⟩:=this;unfold JP;rw[Int.toNat_natCast,Int.toNat_natCast,KG];rw[Jx]at h1;by_cases e:(l.getD i br).1=(l.getD j br).1
 ·have:=h2 e;omega
 ·omega
theorem Of{l:List Ev}(h:JZ l=true){x y:Int}(hx:0<=x/\x<l.length)(hy:0<=y/\y<l.length)(hne:x≠y)(hn:JP l y x=false):JP l x y=true:=by
 obtain⟨i,rfl⟩:∃n:Nat,x=(n:Int):=⟨x.toNat,by omega⟩
 obtain⟨j,rfl⟩:∃n:Nat,y=(n:Int):=⟨y.toNat,by omega⟩
 by_cases hs:(l.getD i br).2.2.1=(l.getD j br).2.2.1
 ·by_cases hij:i<j
  ·exact MO h hij (by omega) hs
  ·rw[MO h (i:=j) (j:=i) (by omega) (by omega) hs.symm]at hn;cases hn
 ·unfold JP at hn⊢;rw[Int.toNat_natCast,Int.toNat_natCast]at hn⊢;rw[NF]at hn;rw[KG];omega
noncomputable def MA(l:List Ev)(r:List Int):Prop:=(∀x,x∈r↔0<=x/\x<l.length)/\r.Pairwise (fun x y=>JP l x y=true)
theorem Oj{l:List Ev}{r s:List Int}(h1:MA l r)(h2:MA l s):r=s:=LW (lt:=fun x y=>JP l x y=true) (fun x h=>by rw[(K7 l).irrefl]at h;cases h) (fun x y h h'=>by rw[(K7 l).asymm h]at h';cases h') h1.2 h2.2 fun x=>by rw[h1.1,h2.1]
theorem M3(l:List Ev)(h:JZ l = true):∃r, me (Je l.length) l = some (r, ()) /\ MA l r:=by
  have hl:=Jw h;have hsz:(Je l.length).toArray.size = l.length:=by simp[Je]
  have ho:MT l (Je l.length).toArray:=fun k hk=>by
    have:(Je l.length).toArray[k]! ∈ Je l.length:=by rw[getElem!_pos _ k hk, List.getElem_toArray]; exact List.getElem_mem _
    exact LV.1 this
  obtain⟨d', h1, h2, h3⟩:=O4 l (Je l.length).toArray l.length hl hsz ho;have hz:d'.size = l.length:=by rw[h2.1, hsz]
  have hp:d'.toList.Perm (Je l.length):=by have:=h2.2.2;rw[extract_all hz, extract_all hsz]at this;exact this
  refine⟨d'.toList, ?_, fun x=>by rw[hp.mem_iff, LV], ?_⟩
  · unfold me
    have e:ai (Je l.length) = (l.length:Int):=by unfold ai; rw[LU]
    rw[e, show lj (Je l.length) (l.length:Int) l = _ from h1];rfl
  · have hnd:(Je l.length).Pairwise (· ≠ ·):=by
      unfold Je;rw[List.pairwise_map];exact List.pairwise_lt_range.imp fun {a b} h=>by omega
    have Ri:d'.toList.Pairwise (· ≠ ·):=(hp.pairwise_iff (fun {a b} h=>Ne.symm h)).2 hnd;rw[List.pairwise_iff_getElem]at Ri⊢;intro i j hi hj hij;have hi':i<d'.size:=by simpa using hi
    have hj':j<d'.size:=by simpa using hj
    have k1:=h3 i j (Nat.zero_le _) hij (by omega);rw[getElem!_pos d' i hi', getElem!_pos d' j hj']at k1;have ok:=ho.perm (by omega) h2;have oi:=ok i hi';have oj:=ok j hj';rw[getElem!_pos d' i hi']at oi;rw[getElem!_pos d' j hj']at oj;exact Of h oi oj (Ri i j hi hj hij) k1
end Go.Fn
set_option linter.unusedSimpArgs false
set_option linter.unusedVariables false
namespace Go.Fn
open Go.R Go.Sort
noncomputable def MU(l:List Ev)(x:Int):Int:=(l.getD x.toNat br).2.2.1
theorem Qr(P T:List Int)(a:Int):(P++a::T).getD P.length 0=a:=by induction P <;> simp_all
theorem Qs(P T:List Int)(a x:Int):(P++a::x::T).getD (P.length+1) 0=x:=by simp
theorem Qt(P T:List Int)(a x:Int):(P++a::T).set P.length x=P++x::T:=by induction P <;> simp_all
theorem Qu(P T:List Int)(a b x:Int):(P++a::b::T).set (P.length+1) x=P++a::x::T:=by simp
theorem OZ(l:List Ev)(i:Int)(x:Int)(hx:0<=x/\x<l.length):∀(k:Nat) (P S:List Int) (n:Nat),P.length=k->P.length+S.length<=1000->(∀y,y∈P++S->0<=y/\y<l.length)->(∀y,y∈S->MU l x<MU l y)->k<n ->
  ∃A B,iter (J9 (l,i,())) n (P++x::S,(k:Int),())=some (.inl (A++x::B,()))/\A++B=P++S/\(∀y,y∈B->MU l x<MU l y)/\(∀A' a,A=A'++[a]->MU l a<=MU l x):=by
 intro k;induction k with
 |zero=>
  intro P S n hP _ _ hS hn;obtain⟨n,rfl⟩:∃m,n=m+1:=⟨n-1,by omega⟩
  have:P=[]:=List.length_eq_zero_iff.1 hP;subst this;refine⟨[],S,av rfl,rfl,hS,fun A' a h=>?_⟩;have:=congrArg List.length h;simp at this
 |succ p ih=>
  intro P S n hP hlen hv hS hn;obtain⟨n,rfl⟩:∃m,n=m+1:=⟨n-1,by omega⟩
  obtain⟨P',a,rfl⟩:∃P' a,P=P'++[a]:=by
   have hne:P≠[]:=fun h=>by rw[h]at hP;cases hP
   exact⟨P.dropLast,P.getLast hne,(List.dropLast_concat_getLast hne).symm⟩
  have hp:P'.length=p:=by simpa using hP
  subst hp;have ha:=hv a (by simp);obtain⟨an,rfl⟩:∃q:Nat,a=(q:Int):=⟨a.toNat,by omega⟩
  obtain⟨xn,rfl⟩:∃q:Nat,x=(q:Int):=⟨x.toNat,by omega⟩
  have e1:aa .sub .i64 ((P'.length+1:Nat):Int) 1=(P'.length:Int):=iD (by simp at hlen;omega);have hL:(P'++[(an:Int)])++(xn:Int)::S=P'++(an:Int)::(xn:Int)::S:=by simp
  rw[hL];have i0:P'.length<(P'++(an:Int)::(xn:Int)::S).length:=by simp
  have i1:P'.length+1<(P'++(an:Int)::(xn:Int)::S).length:=by simp
  have g0:ae zI (P'++(an:Int)::(xn:Int)::S) (P'.length:Int)=(an:Int):=by rw[ak];exact Qr _ _ _
  have g1:ae zI (P'++(an:Int)::(xn:Int)::S) ((P'.length+1:Nat):Int)=(xn:Int):=by rw[ak];exact Qs _ _ _ _
  have ia:ah l (an:Int)=true:=cK (by omega);have ix:ah l (xn:Int)=true:=cK (by omega);by_cases hc:MU l (xn:Int)<MU l (an:Int)
  ·obtain⟨A,B,k1,k2,k3,k4⟩:=ih P' ((an:Int)::S) n rfl (by simp at hlen⊢;omega) (fun y hy=>hv y (by simpa using hy)) (fun y hy=>by
    rcases List.mem_cons.1 hy with rfl|hy
    ·exact hc
    ·exact hS y hy) (by omega)
   refine⟨A,B,?_,by rw[k2];simp,k3,k4⟩;rw[<-k1];refine aF ?_;have hgt:af .gtr (ae br l (an:Int)).2.2.1 (ae br l (xn:Int)).2.2.1=true:=by rw[ak,ak];exact decide_eq_true (by unfold MU at hc;rw[Int.toNat_natCast,Int.toNat_natCast]at hc;exact hc)
   unfold J9;simp only[RC,cond_true,e1,cK i0,cK i1,g0,g1,ia,ix,hgt];have s1:aC (P'++(an:Int)::(xn:Int)::S) ((P'.length+1:Nat):Int) (an:Int)=P'++(an:Int)::(an:Int)::S:=by rw[aQ];exact Qu _ _ _ _ _
   have s2:aC (P'++(an:Int)::(an:Int)::S) ((P'.length:Nat):Int) (xn:Int)=P'++(xn:Int)::(an:Int)::S:=by rw[aQ];exact Qt _ _ _ _
   have i2:P'.length<(P'++(an:Int)::(an:Int)::S).length:=by simp
   rw[s1,s2,cK i2];rfl
  ·refine⟨P'++[(an:Int)],S,?_,rfl,hS,fun A' a h=>?_⟩
   ·rw[hL];refine av ?_;have hgt:af .gtr (ae br l (an:Int)).2.2.1 (ae br l (xn:Int)).2.2.1=false:=by rw[ak,ak];exact decide_eq_false (by unfold MU at hc;rw[Int.toNat_natCast,Int.toNat_natCast]at hc;exact hc)
    unfold J9;simp only[RC,cond_true,e1,cK i0,cK i1,g0,g1,ia,ix,hgt,cond_false]
   ·have:=List.append_inj_right' h rfl;injection this with h1 _
    rw[<-h1];omega
theorem NN(l:List Ev)(hj:JZ l=true):∀(s i:Nat) (out:List Int) (n:Nat),l.length-i<=s->i<=l.length->out.length=i->(∀x,x∈out↔0<=x/\x<i)->out.Pairwise (fun x y=>JP l x y=true)->s<n ->
  ∃r,iter (Jh (l,())) n (out,(i:Int),())=some (.inl (r,()))/\MA l r:=by
 have PB:=Jw hj;intro s;induction s with
 |zero=>
  intro i out n hs hi hlen hm hp hn;obtain⟨n,rfl⟩:∃m,n=m+1:=⟨n-1,by omega⟩
  have:i=l.length:=by omega
  refine⟨out,av ?_,fun x=>by rw[hm,this],hp⟩;unfold Jh;simp only[aj,show ¬(i<l.length)by omega,decide_false,cond_false]
 |succ s ih=>
  intro i out n hs hi hlen hm hp hn;obtain⟨n,rfl⟩:∃m,n=m+1:=⟨n-1,by omega⟩
  by_cases h:i<l.length
  ·have hv:∀y,y∈out++[]->0<=y/\y<(l.length:Int):=fun y hy=>by
    have:=(hm y).1 (by simpa using hy);omega
   obtain⟨A,B,k1,k2,k3,k4⟩:=OZ l (i:Int) (i:Int) (by omega) i out [] big hlen (by simp;omega) hv (fun y hy=>absurd hy List.not_mem_nil) (aN (by omega));rw[List.append_nil]at k2;have hout:out.Pairwise (fun x y=>JP l x y=true):=hp;rw[<-k2,List.pairwise_append]at hout;have TZ:∀a,a∈A->JP l a (i:Int)=true:=fun a ha=>by
    have hao:=(hm a).1 (by rw[<-k2];exact List.mem_append_left _ ha);have hne:A≠[]:=fun e=>by rw[e]at ha;cases ha
    have hl:=k4 _ _ (List.dropLast_concat_getLast hne).symm;have hle:MU l a<=MU l (i:Int):=by
     by_cases e:a=A.getLast hne
     ·rw[e];exact hl
     ·have B4:=hout.1;rw[<-List.dropLast_concat_getLast hne,List.pairwise_append]at B4;have Uj:a∈A.dropLast:=by
       have Pm:=ha;rw[<-List.dropLast_concat_getLast hne,List.mem_append]at Pm;rcases Pm with h|h
       ·exact h
       ·rw[List.mem_singleton]at h;exact absurd h e
      have:=B4.2.2 a Uj (A.getLast hne) (List.mem_singleton.2 rfl);unfold JP at this;rw[KG]at this;unfold MU at hl⊢;omega
    obtain⟨an,rfl⟩:∃q:Nat,a=(q:Int):=⟨a.toNat,by omega⟩
    by_cases e:MU l (an:Int)=MU l (i:Int)
    ·exact MO hj (by omega) h (by unfold MU at e;rwa[Int.toNat_natCast,Int.toNat_natCast]at e)
    ·unfold JP;rw[KG];unfold MU at e hle;omega
   have Um:∀y,y∈B->JP l (i:Int) y=true:=fun y hy=>by have:=k3 y hy;unfold JP;rw[KG];unfold MU at this;omega
   obtain⟨r,r1,r2⟩:=ih (i+1) (A++(i:Int)::B) n (by omega) h (by
    have:=congrArg List.length k2;simp only[List.length_append,List.length_cons]at this⊢;omega) (fun x=>by
    have:=hm x;rw[<-k2,List.mem_append]at this;rw[List.mem_append,List.mem_cons];constructor
    ·rintro(q|q|q)
     ·have:=this.1 (.inl q);omega
     ·omega
     ·have:=this.1 (.inr q);omega
    ·intro q;by_cases e:x=(i:Int)
     ·exact .inr (.inl e)
     ·rcases this.2 (by omega)with q|q
      ·exact .inl q
      ·exact .inr (.inr q)) (by
    rw[List.pairwise_append];refine⟨hout.1,List.Pairwise.cons Um hout.2.1,fun a ha y hy=>?_⟩;rcases List.mem_cons.1 hy with rfl|hy
    ·exact TZ a ha
    ·exact hout.2.2 a ha y hy) (by omega)
   refine⟨r,?_,r2⟩;rw[<-r1];refine aF ?_;have l8:aE (out++[(i:Int)])=true:=J0 (by simp;omega);have hap:List.append (α:=Int) out (List.append (α:=Int) ([]:List Int) [(i:Int)])=out++[(i:Int)]:=rfl;unfold Jh KP;simp only[aj,h,decide_true,cond_true,Ll,hj,Option.bind_some,hap,l8,k1,Sum.elim_inl,au (n:=i) (by omega)]
  ·have:i=l.length:=by omega
   refine⟨out,av ?_,fun x=>by rw[hm,this],hp⟩;unfold Jh;simp only[aj,h,decide_false,cond_false]
theorem Ny(l:List Ev)(PB:l.length<=60):KN (ai l,()) (l,[],(0:Int),())=some (.inl (l,Je l.length,())):=by
 refine aU (body:=J8 (ai l,())) (fun n=>(l,Je n,(n:Int),())) l.length (by omega) _ (fun n hn=>?_) ?_
 ·have l8:aE (Je (n+1))=true:=J0 (by rw[LU];omega);have hap:List.append (α:=Int) (Je n) (List.append (α:=Int) ([]:List Int) [(n:Int)])=Je (n+1):=(Ng n).symm;unfold J8;simp only[aj,hn,decide_true,cond_true,hap,l8,au (n:=n) (by omega)]
 ·unfold J8;simp only[aj,Nat.lt_irrefl,decide_false,cond_false]
theorem NJ(l:List Ev):∃r,JL l=some (r,())/\J4 l=some (r,())/\r.length<=60/\(∀x,x∈r->0<=x/\x<l.length)/\(r≠[]->JZ l=true)/\(JZ l=true->MA l r):=by
 cases hj:JZ l with
 |false=>
  refine⟨[],?_,?_,Nat.zero_le _,fun x hx=>absurd hx List.not_mem_nil,fun h=>absurd rfl h,fun h=>by cases h⟩
  ·have it:iter (Jh (l,())) 1 ([],(0:Int),())=some (.inl ([],())):=by
    refine av ?_;unfold Jh;simp only[Ll,hj,Option.bind_some,cond_false];cases af .lss (0:Int) (ai l) <;> rfl
   unfold JL Ka;rw[bh it (Nat.le_of_lt (aN (by omega)))];rfl
  ·unfold J4;rw[LZ,hj];rfl
 |true=>
  have PB:=Jw hj;obtain⟨r,r1,r2⟩:=NN l hj 60 0 [] big (by omega) (Nat.zero_le _) rfl (fun x=>⟨fun h=>absurd h List.not_mem_nil,fun h=>by omega⟩) List.Pairwise.nil (aN (by omega));obtain⟨r',q1,q2⟩:=M3 l hj;have:r'=r:=Oj q2 r2;subst this;have hlen:r'.length<=60:=by
   have hp:r'.Perm (Je l.length):=by
    refine(List.perm_ext_iff_of_nodup ?_ ?_).2 fun x=>by rw[r2.1,LV]
    ·exact r2.2.imp fun {a b} h e=>by subst e;rw[(K7 l).irrefl]at h;cases h
    ·unfold Je;rw[List.nodup_iff_pairwise_ne,List.pairwise_map];exact List.pairwise_lt_range.imp fun {a b} h=>by omega
   rw[hp.length_eq,LU];exact PB
  refine⟨r',?_,?_,hlen,fun x hx=>(r2.1 x).1 hx,fun _=>rfl,fun _=>r2⟩
  ·unfold JL Ka;rw[show(0:Int)=((0:Nat):Int)from rfl,r1];rfl
  ·unfold J4;simp only[LZ,hj,Option.bind_some,Bool.not_true,cond_false,Ny l PB,Sum.elim_inl,q1]
abbrev Tx:=Int×Int×Int×Int×Int×Int×Int
noncomputable def fst(r:List Int)(f:Tx)(n:Nat):Int×Int×Int×Int×Int×Int×Int×Int×Int×Int×Int×Int×Int×Int×(List Int)×Int×Unit:=(0,0,0,0,0,0,0,f.1,f.2.1,f.2.2.1,f.2.2.2.1,f.2.2.2.2.1,f.2.2.2.2.2.1,f.2.2.2.2.2.2,r,(n:Int),())
end Go.Fn
set_option linter.unusedSimpArgs false
set_option linter.unusedVariables false
namespace Go.Fn
open Go.R
section
variable {a0 a1:Int} {g:List (List Int)} {s:List Ps}
noncomputable def lg(g:List (List Int))(p q:Int):Int:=Ux g p.toNat q.toNat
structure Bd (s:List Ps) (k:Int) (st:Rx):Prop where
 e0:0<=st.2.2.1
 e1:st.2.2.1<=20200
 p0:0<=st.2.2.2.2.2
 p1:st.2.2.2.2.2<=s.length
 l0:-(1000*k)<=st.1
 l1:st.1<=1000*k
structure Rel (g:List (List Int)) (s:List Ps) (k c:Int) (Rs st:Rx):Prop where
 b':Bd s k Rs
 b:Bd s k st
 t:∀q:Int,0<=q->q<=s.length->Rs.2.2.1+lg g Rs.2.2.2.2.2 q<=st.2.2.1+lg g st.2.2.2.2.2 q
 l:Rs.1<=st.1-c
 p:Rs.2.2.2.1<=st.2.2.2.1
end
end Go.Fn
set_option linter.unusedVariables false
namespace Go.Fn
open Go.R
noncomputable def Ku(a:Ke×QX)(b:Nq):QU:=cond (af .lss b.1 (ai a.1)) (cond (ah a.1 b.1) (cond (ah a.2.1 b.1) (cond (af .neq (ae zI a.1 b.1) (ae zI a.2.1 b.1)) (some (.inr (.inl (false,())))) (some (.inl (aa .add .i64 b.1 1,())))) none) none) (some (.inr (.inr (.inl ()))))
noncomputable def Kv k x:=iter (Ku k) big x
noncomputable def KF(a b:Ke):NP:=cond (af .neq (ai a) (ai b)) (some (false,())) ((Kv (a,b,()) (0,())).bind fun c=>Sum.elim (fun d=>some (d.1,())) (fun d=>Sum.elim (fun _=>some (true,())) (fun e=>Empty.elim e) d) c)
end Go.Fn
set_option linter.unusedVariables false
set_option linter.unusedSimpArgs false
namespace Go.Fn
open Go.R
section
variable (a0 a1:Int) (g:List (List Int)) (s:List Ps)
abbrev SB:Type:=Bool×Int×List Int×Unit
end
end Go.Fn
set_option linter.unusedVariables false
set_option linter.unusedSimpArgs false
namespace Go.Fn
open Go.R
theorem NK(l:List Int)(hl:l.length<=1073741824):KF l l=some (true,()):=by
 unfold KF;rw[Lv];have Li:Kv (l,l,()) ((0:Int),())=some (Sum.inr (Sum.inl ())):=by
  refine aU (fun n=>((n:Int),())) l.length (by omega) _ (fun n hn=>?_) ?_
  ·unfold Ku;simp only[aj,ax,hn,decide_true,cond_true,Lv,au (n:=n) (by omega)];rfl
  ·unfold Ku;simp only[aj,Nat.lt_irrefl,decide_false,cond_false]
 simp only[cond_false];rw[Li];rfl
end Go.Fn
set_option linter.unusedVariables false
set_option linter.unusedSimpArgs false
namespace Go.Fn
open Go.R
noncomputable def PX(L:List QO)(i:Nat):QO:=L.getD i Nk
noncomputable def Ox(L:List QO):Prop:=L.length<=1073741824/\∀c,c∈L->c.2.1.length<=1073741824/\c.2.2.length<=1073741824
theorem Ox.at{L:List QO}(h:Ox L){i:Nat}(hi:i<L.length):(PX L i).2.1.length<=1073741824/\(PX L i).2.2.length<=1073741824:=h.2 _ (KI hi _)
end Go.Fn
set_option linter.unusedVariables false
set_option linter.unusedSimpArgs false
namespace Go.Fn
open Go.R
noncomputable def Sm{α:Type}(P:α->Prop)(x y:Option α):Prop:=∃r,x=some r/\y=some r/\P r
section
variable {α β:Type} {P:α->Prop} {Q:β->Prop}
theorem Sm.ret{a:α}(h:P a):Sm P (some a) (some a):=⟨a,rfl,rfl,h⟩
theorem Sm.bind{x y:Option α}{f g:α->Option β}(hx:Sm P x y)(h:∀r,P r->Sm Q (f r) (g r)):Sm Q (x.bind f) (y.bind g):=by obtain⟨r,rfl,rfl,hr⟩:=hx;exact h r hr
theorem Sm.cond{b:Bool}{x y x' y':Option α}(hx:b=true->Sm P x x')(hy:b=false->Sm P y y'):Sm P (bif b then x else y) (bif b then x' else y'):=by
 cases b
 ·exact hy rfl
 ·exact hx rfl
theorem Sm.guard{b c:Bool}{x y:Option α}(hb:b=true)(hc:c=true)(h:Sm P x y):Sm P (bif b then x else none) (bif c then y else none):=by subst hb hc;exact h
theorem Sm.mono{P':α->Prop}{x y:Option α}(h:Sm P x y)(hp:∀r,P r->P' r):Sm P' x y:=by obtain⟨r,e1,e2,hr⟩:=h;exact⟨r,e1,e2,hp r hr⟩
theorem Sm.symm{x y:Option α}(h:Sm P x y):Sm P y x:=by obtain⟨r,e1,e2,hr⟩:=h;exact⟨r,e2,e1,hr⟩
end
abbrev Any{α:Type}:α->Prop:=fun _=>True
end Go.Fn
set_option linter.unusedVariables false
set_option linter.unusedSimpArgs false
namespace Go.Fn
open Go.R
noncomputable def k3(k:Int):Bool:=af .eql (aa .rem .i64 k 3) 0
theorem cT{β:Type}{b:Bool}{x y:β}(h:b=true):(bif b then x else y)=x:=by rw[h];rfl
theorem cF{β:Type}{b:Bool}{x y:β}(h:b=false):(bif b then x else y)=y:=by rw[h];rfl
theorem Ms{α β:Type}{a b:α}{f:α->β}(h:a=b):lets a f=f b:=by rw[aR,h]
theorem Jp{α β:Type}{x:Option α}{r:α}{f:α->Option β}(h:x=some r):x.bind f=f r:=by rw[h];rfl
theorem Uy{α:Type}{L:List α}{n:Nat}(h:n<L.length):af .lss (n:Int) (ai L)=true:=by rw[aj];exact decide_eq_true h
theorem Sn{α:Type}{L:List α}{n:Nat}(h:n<L.length):ah L (n:Int)=true:=by rw[ax];exact decide_eq_true h
theorem Rm{α:Type}{L:List α}{n:Nat}{a:α}(h:n<L.length):ah (L.set n a) (n:Int)=true:=by rw[jt];exact decide_eq_true h
end Go.Fn
set_option linter.unusedVariables false
set_option linter.unusedSimpArgs false
namespace Go.Fn
open Go.R
abbrev Wk:=List Ry×List Ry
end Go.Fn
set_option linter.unusedVariables false
set_option linter.unusedSimpArgs false
namespace Go.Fn
open Go.R
section
variable (a0 a1 a2 a3 a4 a5 a6 a7 a8 a9 a10:Int) (s:List Site) (p:List TA) (g:List Tz) (j:List Ev)
variable (lg:List (List Int)) (wk:Int) (z0 z1:Int) (zg:List (List Int)) (zs:List Ps) (b r:Int) (L:List (List Int)) (S:List Ps) (I Pl:List Int)
theorem bits(x:Bool):Bool.not (Bool.not x)=x:=Bool.not_not x
end
end Go.Fn
set_option linter.unusedVariables false
set_option linter.unusedSimpArgs false
namespace Go.Fn
open Go.R
theorem Qa{α:Type}(l m:List α):List.append l m=l++m:=rfl
end Go.Fn
namespace Go.R
open Go.Shelf Go.Proofs
def rZ(n:Int):Bool:=decide (-9223372036854775808<=n)&&decide (n<=9223372036854775807)
theorem r8{n:Int}:rZ n=true ↔ -9223372036854775808<=n/\n<=9223372036854775807:=by unfold rZ;rw[Bool.and_eq_true,decide_eq_true_iff,decide_eq_true_iff]
def wK:Array Value:=(Lib.pow10Tab.map fun z=>Value.int .u64 z).toArray
def CS:ij:=⟨true,[.one (.val (.int .i64))],[.one (.val .str)],fun x=>bif rZ x.1 then some (ByteArray.mk (Lib.itoa x.1).toArray,())else none⟩
theorem Fm {P:Program} {ρ:Ren} (L:LaysM.n171 P ρ) {g:Nat} (hg:P.globalNamed "internal/strconv.uint64pow10" = some g) (hT:(g, wK) ∈ Co):eA P (ρ.f 171) CS:=by
 refine⟨⟨_,_,L.f171,rfl,rfl⟩,?_⟩;intro w ω us x y ry hinj hdom hsh hfn;obtain⟨n,u0⟩:=x;have hfn:(bif rZ n then some (ByteArray.mk (Lib.itoa n).toArray,())else none)=some y:=hfn;cases hi:rZ n with
 |false=>rw[hi]at hfn;cases hfn
 |true=>
  rw[hi]at hfn;injection hfn with hfn
  subst hfn;have hi:=r8.1 hi;match us,hsh with
  | [u],hsh=>
  obtain⟨_,⟨v0,zu,hr⟩,_⟩:=hsh;injection zu with zu _
  subst zu;have hr:u=.int .i64 n:=hr;subst hr;obtain⟨_,_,T,m,h3⟩:=ry _ hT;have htab:Lib.TabIs P w "internal/strconv.uint64pow10" .u64 Lib.pow10Tab:=by unfold Lib.TabIs World.var?;rw[hg];show(match w.heap[g]? with|some (.cells cs _ _)=>some cs|_=>none)=_;rw[h3];rfl
  refine(Any.strconv_Itoa L n hi.1 hi.2 w htab).mono ?_;rintro ex w' ⟨rfl,k,os,rfl⟩;have hb:=Lib.below_grow w.heap.size w (Nat.le_refl _) k os;exact⟨_,ω,rfl,⟨hb.os,hb.tape,hb.output,hb.size,fun b hlt _=>⟨hb.block b hlt,rfl⟩⟩,hinj,fun b k hk=>Nat.lt_of_lt_of_le (hdom b k hk) hb.size,⟨rfl,⟨_,rfl,rfl⟩⟩,⟨fun _=>trivial,rfl,rfl⟩⟩
theorem Fb {P:Program} {w:World} {g:Nat} (hg:P.globalNamed "internal/strconv.uint64pow10" = some g) (hG:Co = [(g, wK)]) (h:Lib.TabIs P w "internal/strconv.uint64pow10" .u64 Lib.pow10Tab):xQ w aJ.gx:=fun q hq=>by
 rw[hG,List.mem_singleton]at hq;subst hq;unfold Lib.TabIs World.var? at h;rw[hg]at h;have h:(match w.heap[g]? with|some (.cells cs _ _)=>some cs|_=>none)=some wK:=h;split at h
 ·rename_i cs T m e;injection h with h
  subst h;exact⟨(Array.getElem?_eq_some_iff.1 e).1,rfl,T,m,e⟩
 ·cases h
end Go.R
set_option linter.unusedVariables false
namespace Go.Fn
open Go.R
noncomputable def zS:ByteArray:=ByteArray.empty
noncomputable def J1(a:Int):RB:=cond (af .lss a 10) (some (aq .u8 (aa .add .i64 48 a),())) (some (aq .u8 (aa .sub .i64 (aa .add .i64 97 a) 10),()))
noncomputable def Jg(a:QF)(b:Int×Rz):Option (Int×Rz⊕Rz⊕Empty):=letI c:=b.2.1;letI d:=az 10;letI e:=aa .rem .i64 b.1 10;letI f:=aa .quo .i64 b.1 10;cond (af .neq b.1 0) (cond d none (cond (af .lss e 0) ((J1 (DA .i64 e)).bind fun g=>cond (nL (lU (List.append (α:=Int) ([]:Ke) [g.1])) c) (cond d none (some (.inl (f,ByteArray.append (lU (List.append (α:=Int) ([]:Ke) [g.1])) c,())))) none) ((J1 e).bind fun g=>cond (nL (lU (List.append (α:=Int) ([]:Ke) [g.1])) c) (cond d none (some (.inl (f,ByteArray.append (lU (List.append (α:=Int) ([]:Ke) [g.1])) c,())))) none))) (some (.inr (.inl (c,()))))
noncomputable def JY k x:=iter (Jg k) big x
noncomputable def IR(a:Int):QW:=letI b:=af .lss a 0;cond (af .eql a 0) (some (ByteArray.mk #[48],())) ((JY (b,()) (a,ByteArray.mk #[],())).bind fun c=>Sum.elim (fun d=>cond b (cond (nL (ByteArray.mk #[45]) d.1) (some (ByteArray.append (ByteArray.mk #[45]) d.1,())) none) (some (d.1,()))) (fun d=>Empty.elim d) c)
noncomputable def JJ(a b c d e f g:Int):QW:=(Kl a b c d e f g).bind fun h=>cond (Bool.not h.1) (some (ByteArray.mk #[],())) ((IR a).bind fun i=>cond (nL i.1 (ByteArray.mk #[46])) ((IR b).bind fun j=>cond (nL (ByteArray.append i.1 (ByteArray.mk #[46])) j.1) (cond (nL (ByteArray.append (ByteArray.append i.1 (ByteArray.mk #[46])) j.1) (ByteArray.mk #[64])) ((IR c).bind fun k=>cond (nL (ByteArray.append (ByteArray.append (ByteArray.append i.1 (ByteArray.mk #[46])) j.1) (ByteArray.mk #[64])) k.1) (cond (nL (ByteArray.append (ByteArray.append (ByteArray.append (ByteArray.append i.1 (ByteArray.mk #[46])) j.1) (ByteArray.mk #[64])) k.1) (ByteArray.mk #[32])) (lets (ByteArray.append (ByteArray.append (ByteArray.append (ByteArray.append (ByteArray.append i.1 (ByteArray.mk #[46])) j.1) (ByteArray.mk #[64])) k.1) (ByteArray.mk #[32])) fun l=>letI m:=aa .sub .i64 d 1;cond (ah (List.append (α:=ByteArray) (List.append (α:=ByteArray) (List.append (α:=ByteArray) (List.append (α:=ByteArray) ([]:RA) [ByteArray.mk #[112,108,97,99,101,100]]) [ByteArray.mk #[101,120,116,101,110,100,101,100]]) [ByteArray.mk #[116,97,107,101,110]]) [ByteArray.mk #[102,101,116,99,104,101,100]]) m) (lets (ae zS (List.append (α:=ByteArray) (List.append (α:=ByteArray) (List.append (α:=ByteArray) (List.append (α:=ByteArray) ([]:RA) [ByteArray.mk #[112,108,97,99,101,100]]) [ByteArray.mk #[101,120,116,101,110,100,101,100]]) [ByteArray.mk #[116,97,107,101,110]]) [ByteArray.mk #[102,101,116,99,104,101,100]]) m) fun n=>cond (nL l n) (cond (nL (ByteArray.append l n) (ByteArray.mk #[32])) ((IR e).bind fun o=>cond (nL (ByteArray.append (ByteArray.append l n) (ByteArray.mk #[32])) o.1) (cond (af .eql d 2) (some (ByteArray.append (ByteArray.append (ByteArray.append l n) (ByteArray.mk #[32])) o.1,())) (cond (nL (ByteArray.append (ByteArray.append (ByteArray.append l n) (ByteArray.mk #[32])) o.1) (ByteArray.mk #[32])) ((IR f).bind fun p=>cond (nL (ByteArray.append (ByteArray.append (ByteArray.append (ByteArray.append l n) (ByteArray.mk #[32])) o.1) (ByteArray.mk #[32])) p.1) (cond (nL (ByteArray.append (ByteArray.append (ByteArray.append (ByteArray.append (ByteArray.append l n) (ByteArray.mk #[32])) o.1) (ByteArray.mk #[32])) p.1) (ByteArray.mk #[32])) (lets (ByteArray.append (ByteArray.append (ByteArray.append (ByteArray.append (ByteArray.append (ByteArray.append l n) (ByteArray.mk #[32])) o.1) (ByteArray.mk #[32])) p.1) (ByteArray.mk #[32])) fun q=>(IR g).bind fun r=>cond (nL q r.1) (some (ByteArray.append q r.1,())) none) none) none) none)) none) none) none) none) none) none) none) none) none)
noncomputable def strconv_Itoa(a:Int):QW:=cond (rZ a) (some (ByteArray.mk (Lib.itoa a).toArray,())) none
noncomputable def IQ(a:Int):QW:=(strconv_Itoa a).bind fun b=>some (b.1,())
noncomputable def JI(a b c d e f g:Int):QW:=(Kh a b c d e f g).bind fun h=>letI i:=aa .sub .i64 d 1;cond (Bool.not h.1) (some (ByteArray.mk #[],())) (cond (ah (List.append (α:=ByteArray) (List.append (α:=ByteArray) (List.append (α:=ByteArray) (List.append (α:=ByteArray) ([]:RA) [ByteArray.mk #[112,108,97,99,101,100]]) [ByteArray.mk #[101,120,116,101,110,100,101,100]]) [ByteArray.mk #[116,97,107,101,110]]) [ByteArray.mk #[102,101,116,99,104,101,100]]) i) (lets (ae zS (List.append (α:=ByteArray) (List.append (α:=ByteArray) (List.append (α:=ByteArray) (List.append (α:=ByteArray) ([]:RA) [ByteArray.mk #[112,108,97,99,101,100]]) [ByteArray.mk #[101,120,116,101,110,100,101,100]]) [ByteArray.mk #[116,97,107,101,110]]) [ByteArray.mk #[102,101,116,99,104,101,100]]) i) fun j=>(IQ a).bind fun k=>cond (nL k.1 (ByteArray.mk #[46])) ((IQ b).bind fun l=>cond (nL (ByteArray.append k.1 (ByteArray.mk #[46])) l.1) (cond (nL (ByteArray.append (ByteArray.append k.1 (ByteArray.mk #[46])) l.1) (ByteArray.mk #[64])) ((IQ c).bind fun m=>cond (nL (ByteArray.append (ByteArray.append (ByteArray.append k.1 (ByteArray.mk #[46])) l.1) (ByteArray.mk #[64])) m.1) (cond (nL (ByteArray.append (ByteArray.append (ByteArray.append (ByteArray.append k.1 (ByteArray.mk #[46])) l.1) (ByteArray.mk #[64])) m.1) (ByteArray.mk #[32])) (lets (ByteArray.append (ByteArray.append (ByteArray.append (ByteArray.append (ByteArray.append k.1 (ByteArray.mk #[46])) l.1) (ByteArray.mk #[64])) m.1) (ByteArray.mk #[32])) fun n=>cond (nL n j) (cond (nL (ByteArray.append n j) (ByteArray.mk #[32])) ((IQ e).bind fun o=>cond (nL (ByteArray.append (ByteArray.append n j) (ByteArray.mk #[32])) o.1) (cond (af .neq d 2) ((IQ f).bind fun p=>cond (nL (ByteArray.mk #[32]) p.1) (cond (nL (ByteArray.append (ByteArray.mk #[32]) p.1) (ByteArray.mk #[32])) ((IQ g).bind fun q=>cond (nL (ByteArray.append (ByteArray.append (ByteArray.mk #[32]) p.1) (ByteArray.mk #[32])) q.1) (cond (nL (ByteArray.append (ByteArray.append (ByteArray.append n j) (ByteArray.mk #[32])) o.1) (ByteArray.append (ByteArray.append (ByteArray.append (ByteArray.mk #[32]) p.1) (ByteArray.mk #[32])) q.1)) (lets (ByteArray.append (ByteArray.append (ByteArray.append (ByteArray.append n j) (ByteArray.mk #[32])) o.1) (ByteArray.append (ByteArray.append (ByteArray.append (ByteArray.mk #[32]) p.1) (ByteArray.mk #[32])) q.1)) fun r=>some (r,())) none) none) none) none) (some (ByteArray.append (ByteArray.append (ByteArray.append n j) (ByteArray.mk #[32])) o.1,()))) none) none) none) none) none) none) none) none) none)
end Go.Fn
set_option linter.unusedVariables false
set_option linter.unusedSimpArgs false
namespace Go.Fn
open Go.R
noncomputable def NO(n:Nat):ByteArray:=ByteArray.mk (Lib.decDigits n).toArray
theorem OC(a b:ByteArray):ByteArray.append a b=a++b:=rfl
theorem Qc(a b:List UInt8):ByteArray.append (ByteArray.mk a.toArray) (ByteArray.mk b.toArray)=ByteArray.mk (a++b).toArray:=by rw[OC];apply ByteArray.ext;simp
theorem Pc(x:Int):lU [x]=ByteArray.mk [UInt8.ofNat x.toNat].toArray:=by apply ByteArray.ext;rfl
theorem fits{x y:ByteArray}(h:x.size+y.size<=1073741824):nL x y=true:=decide_eq_true (by omega)
theorem size_mk(l:List UInt8):(ByteArray.mk l.toArray).size=l.length:=by show l.toArray.size=_;simp
theorem Qh{d:Nat}(h:d<10):J1 (d:Int)=some (((48+d:Nat):Int),()):=by
 unfold J1;rw[show af .lss (d:Int) 10=true by simp only[af,decide_eq_true_eq];omega];have:aa .add .i64 48 (d:Int)=((48+d:Nat):Int):=by rw[bU (by omega) (by omega)];omega
 rw[this];have:∀d:Fin 10,aq .u8 ((48+d.val:Nat):Int)=((48+d.val:Nat):Int):=by decide +kernel
 rw[this ⟨d,h⟩];rfl
theorem Rr(n:Nat):aa .rem .i64 (n:Int) 10=((n % 10:Nat):Int):=rfl
theorem Rq{n:Nat}(h:n<=1000000000000000000):aa .quo .i64 (n:Int) 10=((n / 10:Nat):Int):=by have:aa .quo .i64 (n:Int) 10=IntKind.i64.wrap ((n / 10:Nat):Int):=rfl;rw[this];exact zx (by omega) (by omega)
theorem OJ{n:Nat}(h0:0<n)(h1:n<=1000000000000000000)(s:List UInt8)(hs:s.length<=1000000):
  Jg (false,()) ((n:Int),ByteArray.mk s.toArray,())=some (.inl (((n / 10:Nat):Int),ByteArray.mk (UInt8.ofNat (48+n % 10)::s).toArray,())):=by
 unfold Jg;have e1:af .neq (n:Int) 0=true:=by simp only[af,bne_iff_ne,ne_eq];omega
 have e2:af .lss ((n % 10:Nat):Int) 0=false:=O1 (by omega);have e3:az (10:Int)=false:=rfl;simp only[e1,e2,e3,Rr,Rq h1,Qh (Nat.mod_lt n (by decide:0<10)),cond_true,cond_false,Option.bind_some,Qa,List.nil_append,Pc];rw[fits (by rw[size_mk,size_mk];simp only[List.length_cons,List.length_nil];omega),Qc];rfl
theorem PA{n:Nat}(h:0<n)(s:List UInt8):(if n / 10=0 then []else Lib.decDigits (n / 10))++(UInt8.ofNat (48+n % 10)::s)=Lib.decDigits n++s:=by
 by_cases h1:n<10
 ·rw[if_pos (by omega),Lib.decDigits_one h1,show n % 10=n by omega];rfl
 ·rw[if_neg (by omega)];have:Lib.decDigits n=Lib.decDigits (n / 10)++[UInt8.ofNat (48+n % 10)]:=by conv=>lhs;rw[Lib.decDigits,dif_neg h1]
  rw[this,List.append_assoc];rfl
theorem M2:∀(k n:Nat) (s:List UInt8) (f:Nat),n<=1000000000000000000->s.length+k<=60->n<10 ^ k->k<f ->
  iter (Jg (false,())) f ((n:Int),ByteArray.mk s.toArray,())=some (.inl (ByteArray.mk ((if n=0 then []else Lib.decDigits n)++s).toArray,()))
 |k,n,s,0,_,_,_,hf=>absurd hf (Nat.not_lt_zero _)
 |k,n,s,f+1,hn,hs,hk,hf=>by
  by_cases h0:n=0
  ·subst h0;exact av (by unfold Jg;rfl)
  ·cases k with
   |zero=>simp at hk;exact absurd hk h0
   |succ k=>rw[aF (OJ (by omega) hn s (by omega)),M2 k (n / 10) _ f (by omega) (by simp only[List.length_cons];omega) (by rw[Nat.pow_succ]at hk;omega) (by omega),PA (by omega),if_neg h0]
theorem LH{n:Nat}(h:n<=1000000000000000000):IR (n:Int)=some (NO n,()):=by
 unfold IR;have e2:af .lss (n:Int) 0=false:=O1 (by omega);by_cases h0:n=0
 ·subst h0;rw[show af .eql ((0:Nat):Int) 0=true from rfl,cond_true];unfold NO;rw[Lib.decDigits_one (by decide)];rfl
 ·have e1:af .eql (n:Int) 0=false:=by simp only[af,beq_eq_false_iff_ne,ne_eq];omega
  rw[e1,e2];have:=M2 19 n [] big h (by decide) (by omega) (aN (by decide));have hl:JY (false,()) ((n:Int),ByteArray.mk #[],())=_:=this;rw[hl,if_neg h0,List.append_nil];rfl
theorem LC{n:Nat}(h:n<=1000000000000000000):IQ (n:Int)=some (NO n,()):=by unfold IQ strconv_Itoa;rw[show rZ (n:Int)=true from r8.2 ⟨by omega,by omega⟩,Lib.itoa_nonneg];rfl
theorem JS{n:Nat}(h:n<=1000000000000000000):(NO n).size<=21:=by unfold NO;rw[size_mk,<-Lib.itoa_nonneg];exact Lib.itoa_length_le _ (by omega) (by omega)
theorem N0(a b c:ByteArray):ByteArray.append (ByteArray.append a b) c=ByteArray.append a (ByteArray.append b c):=by simp only[OC];exact ByteArray.append_assoc
theorem II(a b:ByteArray):(ByteArray.append a b).size=a.size+b.size:=ByteArray.size_append
noncomputable def words:List ByteArray:=[ByteArray.mk #[112,108,97,99,101,100],ByteArray.mk #[101,120,116,101,110,100,101,100],ByteArray.mk #[116,97,107,101,110],ByteArray.mk #[102,101,116,99,104,101,100]]
theorem NY{d:Int}(h:1<=d/\d<=4):∃W:ByteArray,W.size<=8/\ah words (d-1)=true/\ae zS words (d-1)=W:=by
 have hc:d=1\/d=2\/d=3\/d=4:=by omega
 rcases hc with rfl|rfl|rfl|rfl
 ·exact⟨ByteArray.mk #[112,108,97,99,101,100],Nat.le_of_ble_eq_true rfl,rfl,rfl⟩
 ·exact⟨ByteArray.mk #[101,120,116,101,110,100,101,100],Nat.le_of_ble_eq_true rfl,rfl,rfl⟩
 ·exact⟨ByteArray.mk #[116,97,107,101,110],Nat.le_of_ble_eq_true rfl,rfl,rfl⟩
 ·exact⟨ByteArray.mk #[102,101,116,99,104,101,100],Nat.le_of_ble_eq_true rfl,rfl,rfl⟩
theorem words_eq:List.append (α:=ByteArray) (List.append (α:=ByteArray) (List.append (α:=ByteArray) (List.append (α:=ByteArray) ([]:List ByteArray) [ByteArray.mk #[112,108,97,99,101,100]]) [ByteArray.mk #[101,120,116,101,110,100,101,100]]) [ByteArray.mk #[116,97,107,101,110]]) [ByteArray.mk #[102,101,116,99,104,101,100]]=words:=rfl
noncomputable def Ma(d:Int)(a b c e f g:Nat):ByteArray:=
 bif af .eql d 2 then ByteArray.append (ByteArray.append (ByteArray.append (ByteArray.append (ByteArray.append (ByteArray.append (ByteArray.append (ByteArray.append (NO a) (ByteArray.mk #[46])) (NO b)) (ByteArray.mk #[64])) (NO c)) (ByteArray.mk #[32])) (ae zS words (d-1))) (ByteArray.mk #[32])) (NO e)
 else ByteArray.append (ByteArray.append (ByteArray.append (ByteArray.append (ByteArray.append (ByteArray.append (ByteArray.append (ByteArray.append (ByteArray.append (ByteArray.append (ByteArray.append (ByteArray.append (NO a) (ByteArray.mk #[46])) (NO b)) (ByteArray.mk #[64])) (NO c)) (ByteArray.mk #[32])) (ae zS words (d-1))) (ByteArray.mk #[32])) (NO e)) (ByteArray.mk #[32])) (NO f)) (ByteArray.mk #[32])) (NO g)
section
variable {d:Int} {a b c e f g:Nat} (hok:KM ((a:Int),(b:Int),(c:Int),d,(e:Int),(f:Int),(g:Int))=true)
include hok
theorem Tc:(1<=d/\d<=4)/\a<=1000000/\b<=1000000/\c<=1000000/\e<=1000000/\f<=1000000/\g<=1000000:=by obtain⟨h1,h2,h3,h4,h5,h6,h7⟩:=KH.1 hok;simp only at h1 h2 h3 h4 h5 h6 h7;omega
theorem Qz:JJ (a:Int) (b:Int) (c:Int) d (e:Int) (f:Int) (g:Int)=some (Ma d a b c e f g,()):=by
 obtain⟨h4,la,lb,lc,le,lf,lg⟩:=Tc hok;have za:=JS (n:=a) (by omega);have zb:=JS (n:=b) (by omega);have zc:=JS (n:=c) (by omega);have ze:=JS (n:=e) (by omega);have zf:=JS (n:=f) (by omega);have zg:=JS (n:=g) (by omega);have p1:(ByteArray.mk #[46]).size=1:=rfl;have p2:(ByteArray.mk #[64]).size=1:=rfl;have p3:(ByteArray.mk #[32]).size=1:=rfl;have hsub:aa .sub .i64 d 1=d-1:=bM (by omega) (by omega);obtain⟨W,zW,Nl,Rc⟩:=NY h4;unfold JJ;refine(Jp (MH _ _ _ _ _ _ _)).trans ?_;rw[hok];refine(cF rfl).trans ?_;refine(Jp (LH (n:=a) (by omega))).trans ?_;dsimp only;refine(cT (fits (by simp only[II,p1,p2,p3];omega))).trans ?_;refine(Jp (LH (n:=b) (by omega))).trans ?_;dsimp only;refine(cT (fits (by simp only[II,p1,p2,p3];omega))).trans ?_;refine(cT (fits (by simp only[II,p1,p2,p3];omega))).trans ?_;refine(Jp (LH (n:=c) (by omega))).trans ?_;dsimp only;refine(cT (fits (by simp only[II,p1,p2,p3];omega))).trans ?_;refine(cT (fits (by simp only[II,p1,p2,p3];omega))).trans ?_;refine(Ms rfl).trans ?_;rw[hsub,words_eq];refine(cT Nl).trans ?_;refine(Ms Rc).trans ?_;refine(cT (fits (by simp only[II,p1,p2,p3];omega))).trans ?_;refine(cT (fits (by simp only[II,p1,p2,p3];omega))).trans ?_;refine(Jp (LH (n:=e) (by omega))).trans ?_;dsimp only;refine(cT (fits (by simp only[II,p1,p2,p3];omega))).trans ?_;unfold Ma;rw[Rc];cases af .eql d 2 with
 |true=>rfl
 |false=>
 refine(cF rfl).trans ?_;refine(cT (fits (by simp only[II,p1,p2,p3];omega))).trans ?_;refine(Jp (LH (n:=f) (by omega))).trans ?_;dsimp only;refine(cT (fits (by simp only[II,p1,p2,p3];omega))).trans ?_;refine(cT (fits (by simp only[II,p1,p2,p3];omega))).trans ?_;refine(Ms rfl).trans ?_;refine(Jp (LH (n:=g) (by omega))).trans ?_;dsimp only;refine(cT (fits (by simp only[II,p1,p2,p3];omega))).trans ?_;rfl
theorem Qm:JI (a:Int) (b:Int) (c:Int) d (e:Int) (f:Int) (g:Int)=some (Ma d a b c e f g,()):=by
 obtain⟨h4,la,lb,lc,le,lf,lg⟩:=Tc hok;have za:=JS (n:=a) (by omega);have zb:=JS (n:=b) (by omega);have zc:=JS (n:=c) (by omega);have ze:=JS (n:=e) (by omega);have zf:=JS (n:=f) (by omega);have zg:=JS (n:=g) (by omega);have p1:(ByteArray.mk #[46]).size=1:=rfl;have p2:(ByteArray.mk #[64]).size=1:=rfl;have p3:(ByteArray.mk #[32]).size=1:=rfl;have hsub:aa .sub .i64 d 1=d-1:=bM (by omega) (by omega);obtain⟨W,zW,Nl,Rc⟩:=NY h4;unfold JI;refine(Jp (MD _ _ _ _ _ _ _)).trans ?_;rw[hok];refine(cF rfl).trans ?_;rw[hsub,words_eq];refine(cT Nl).trans ?_;refine(Ms Rc).trans ?_;refine(Jp (LC (n:=a) (by omega))).trans ?_;dsimp only;refine(cT (fits (by simp only[II,p1,p2,p3];omega))).trans ?_;refine(Jp (LC (n:=b) (by omega))).trans ?_;dsimp only;refine(cT (fits (by simp only[II,p1,p2,p3];omega))).trans ?_;refine(cT (fits (by simp only[II,p1,p2,p3];omega))).trans ?_;refine(Jp (LC (n:=c) (by omega))).trans ?_;dsimp only;refine(cT (fits (by simp only[II,p1,p2,p3];omega))).trans ?_;refine(cT (fits (by simp only[II,p1,p2,p3];omega))).trans ?_;refine(Ms rfl).trans ?_;refine(cT (fits (by simp only[II,p1,p2,p3];omega))).trans ?_;refine(cT (fits (by simp only[II,p1,p2,p3];omega))).trans ?_;refine(Jp (LC (n:=e) (by omega))).trans ?_;dsimp only;refine(cT (fits (by simp only[II,p1,p2,p3];omega))).trans ?_;unfold Ma;rw[Rc,show af .neq d 2=Bool.not (af .eql d 2)from rfl];cases af .eql d 2 with
 |true=>rfl
 |false=>
 refine(cT rfl).trans ?_;refine(Jp (LC (n:=f) (by omega))).trans ?_;dsimp only;refine(cT (fits (by simp only[II,p1,p2,p3];omega))).trans ?_;refine(cT (fits (by simp only[II,p1,p2,p3];omega))).trans ?_;refine(Jp (LC (n:=g) (by omega))).trans ?_;dsimp only;refine(cT (fits (by simp only[II,p1,p2,p3];omega))).trans ?_;refine(cT (fits (by simp only[II,p1,p2,p3];omega))).trans ?_;refine(Ms rfl).trans ?_;simp only[cond_false,N0]
end
end Go.Fn
set_option linter.unusedVariables false
set_option linter.unusedSimpArgs false
namespace Go.Fn
open Go.R
noncomputable def noP(l:List Bx)(p:Int)(n:Nat):Bool:=Bool.not (af .eql (l.getD n Rv).2.2.1 p)
theorem m1:IR (-1)=some (ByteArray.mk #[45,49],()):=by
 unfold IR;have h:iter (Jg (true,())) 2 (-1,ByteArray.mk #[],())=some (.inl (ByteArray.mk #[49],())):=by rfl
 have hl:JY (true,()) (-1,ByteArray.mk #[],())=_:=bh h (Nat.le_of_lt (aN (by omega)));rw[show af .eql (-1:Int) 0=false from rfl,show af .lss (-1:Int) 0=true from rfl,hl];rfl
theorem m2:IQ (-1)=some (ByteArray.mk #[45,49],()):=by
 unfold IQ strconv_Itoa;have:Lib.itoa (-1)=[45,49]:=by have h:=Lib.itoa_neg 1 (Nat.le_refl _);rw[Lib.decDigits_one (by decide)]at h;exact h
 rw[this];rfl
end Go.Fn

