import Derived.Test.YtalncjeiapbcfaaRE
import Derived.Lib.SlicesCompact
import Derived.Sort.AssemblyPlain
import Derived.Shelf.LaysM
import Derived.Shelf.Strconv.Itoa3
import Derived.Lib.AppendIntMem
import Derived.Lib.LaidTab
import Derived.Lib.ItoaLen
import Derived.Lib.ItoaMem
import Derived.Shelf.Spec.SlicesInsertGrow
/- Plain functions that stand for Go functions, and what they answer. Conditions: none. -/
set_option autoImplicit false
set_option linter.unusedVariables false
set_option linter.unusedSimpArgs false
set_option linter.unusedVariables false
namespace Go.Fn
open Go.R
abbrev IZ:=Int×Int×Int×Int×Int×Int×Int
abbrev IJ:=List IZ
abbrev JT:=Int×Unit
abbrev KE:=Int×JT
abbrev KW:=Int×Int×Int×Int×Int×KE
abbrev KD:=Bool×Unit
abbrev J9:=Option KD
abbrev KX:=Option (JT⊕KD⊕Unit⊕Empty)
abbrev Kx:=ByteArray×Unit
abbrev Kb:=IJ×Unit
abbrev KY:=IJ×Int×Int×KW
abbrev LK:=Option (KY⊕IJ×Int×KW⊕Empty)
abbrev Ko:=List Int
abbrev Ky:=IJ×JT
abbrev LL:=List (Int×Int×Int×Bool)
noncomputable def aS:IZ:=(0,0,0,0,0,0,0)
noncomputable def zb(a b c d e f g:Int):Option KW:=some (a,b,c,d,e,f,g,())
noncomputable def ea(a b c:Int):J9:=cond (af .geq a b) (some (af .leq a c,())) (some (false,()))
noncomputable def qW(a b c d e f g:Int):J9:=(ea a 0 5).bind fun h=>letI i:=some (false,());cond h.1 ((ea b 1 999).bind fun j=>cond j.1 ((ea c 1 100000).bind fun k=>cond k.1 ((ea d 1 4).bind fun l=>cond l.1 ((ea e 1 999).bind fun m=>cond m.1 ((ea f 0 20000).bind fun n=>cond n.1 ((ea g 0 20000).bind fun o=>some (o.1,())) i) i) i) i) i) i
noncomputable def b7(a b c:Int):J9:=cond (af .geq a b) (some (af .leq a c,())) (some (false,()))
noncomputable def lm(a:Int):J9:=(b7 a 0 20000).bind fun b=>some (b.1,())
noncomputable def qB(a b c d e f g:Int):J9:=(b7 a 0 5).bind fun h=>letI i:=some (false,());cond h.1 ((b7 b 1 999).bind fun j=>cond j.1 ((b7 c 1 100000).bind fun k=>cond k.1 ((b7 d 1 4).bind fun l=>cond l.1 ((b7 e 1 999).bind fun m=>cond m.1 ((lm f).bind fun n=>cond n.1 ((lm g).bind fun o=>some (o.1,())) i) i) i) i) i) i
noncomputable def k6(a:IJ)(b:Int):Option JT:=letI c:=aa .sub .i64 b (ai a);cond (af .lss c 0) (some (-1,())) (some (c,()))
noncomputable def gb(a:Kb)(b:Ky):Option (Ky⊕Kb⊕Empty):=letI c:=b.2.1;letI d:=ae aS a.1 c;letI e:=d.2.2.2;cond (af .lss c (ai a.1)) (cond (ah a.1 c) ((zb d.1 d.2.1 d.2.2.1 e.1 e.2.1 e.2.2.1 e.2.2.2).bind fun f=>letI g:=f.2.2.2;cond (ah b.1 c) (some (.inl (aC b.1 c (f.1,f.2.1,f.2.2.1,g.1,g.2.1,g.2.2.1,g.2.2.2.1),aa .add .i64 c 1,()))) none) none) (some (.inr (.inl (b.1,()))))
noncomputable def gm k x:=iter (gb k) big x
noncomputable def lc(a:IJ):Option Kb:=letI b:=(0:Int);cond (cL (ai a)) ((gm (a,()) (cX (ai a) (b,b,b,b,b,b,b),b,())).bind fun c=>Sum.elim (fun d=>some (d.1,())) (fun d=>Empty.elim d) c) none
noncomputable def iL(a:Kb)(b:JT):KX:=letI c:=ae aS a.1 b.1;letI d:=c.2.2;cond (af .lss b.1 (ai a.1)) (cond (ah a.1 b.1) ((qW c.1 c.2.1 d.1 d.2.1 d.2.2.1 d.2.2.2.1 d.2.2.2.2).bind fun e=>letI f:=(false,());letI g:=af .gtr b.1 0;letI h:=aa .sub .i64 b.1 1;letI i:=(aa .add .i64 b.1 1,());letI j:=ah a.1 h;letI k:=ae aS a.1 h;letI l:=af .eql c.1 k.1;letI m:=af .leq c.2.1 k.2.1;letI n:=af .leq d.1 k.2.2.1;cond (Bool.not e.1) (some (.inr (.inl f))) (cond g (cond j (cond (af .lss c.1 k.1) (some (.inr (.inl f))) (cond g (cond j (cond l (cond j (cond m (some (.inr (.inl f))) (cond j (cond n (some (.inr (.inl f))) (some (.inl i))) none)) none) (some (.inl i))) none) (some (.inl i)))) none) (cond g (cond j (cond l (cond j (cond m (some (.inr (.inl f))) (cond j (cond n (some (.inr (.inl f))) (some (.inl i))) none)) none) (some (.inl i))) none) (some (.inl i))))) none) (some (.inr (.inr (.inl ()))))
noncomputable def i6 k x:=iter (iL k) big x
noncomputable def fu(a:IJ):J9:=cond (af .gtr (ai a) 60) (some (false,())) ((i6 (a,()) (0,())).bind fun b=>Sum.elim (fun c=>some (c.1,())) (fun c=>Sum.elim (fun _=>some (true,())) (fun d=>Empty.elim d) c) b)
noncomputable def hM(a:IJ×Ky)(b:JT):KX:=letI c:=ae aS a.2.1 b.1;letI d:=c.2.2;cond (af .lss b.1 a.2.2.1) (cond (ah a.2.1 b.1) ((qB c.1 c.2.1 d.1 d.2.1 d.2.2.1 d.2.2.2.1 d.2.2.2.2).bind fun e=>letI f:=(false,());letI g:=aa .sub .i64 b.1 1;letI h:=(aa .add .i64 b.1 1,());letI i:=ae aS a.1 g;cond (Bool.not e.1) (some (.inr (.inl f))) (cond (af .eql b.1 0) (some (.inl h)) (cond (ah a.1 g) (cond (af .lss c.1 i.1) (some (.inr (.inl f))) (cond (af .eql c.1 i.1) (cond (af .leq c.2.1 i.2.1) (some (.inr (.inl f))) (cond (af .leq d.1 i.2.2.1) (some (.inr (.inl f))) (some (.inl h)))) (some (.inl h)))) none))) none) (some (.inr (.inr (.inl ()))))
noncomputable def ia k x:=iter (hM k) big x
noncomputable def fe(a:IJ):J9:=cond (af .gtr (ai a) 60) (some (false,())) ((ia (a,a,ai a,()) (0,())).bind fun b=>Sum.elim (fun c=>some (c.1,())) (fun c=>Sum.elim (fun _=>some (true,())) (fun d=>Empty.elim d) c) b)
noncomputable def qS(a b c d e f g h i j k l m n:Int):J9:=letI o:=some (false,());cond (af .neq a h) o (cond (af .neq b i) o (cond (af .neq c j) o (cond (af .neq d k) o (cond (af .neq e l) o (cond (af .neq f m) o (cond (af .neq g n) o (some (true,()))))))))
noncomputable def jr(a:IJ×Kb)(b:JT):KX:=letI c:=ae aS a.1 b.1;letI d:=ae aS a.2.1 b.1;letI e:=c.2.2.2;letI f:=d.2.2.2;cond (af .lss b.1 (ai a.1)) (cond (ah a.1 b.1) (cond (ah a.2.1 b.1) ((qS c.1 c.2.1 c.2.2.1 e.1 e.2.1 e.2.2.1 e.2.2.2 d.1 d.2.1 d.2.2.1 f.1 f.2.1 f.2.2.1 f.2.2.2).bind fun g=>cond (Bool.not g.1) (some (.inr (.inl (false,())))) (some (.inl (aa .add .i64 b.1 1,())))) none) none) (some (.inr (.inr (.inl ()))))
noncomputable def kW k x:=iter (jr k) big x
noncomputable def b8(a b:IJ):J9:=cond (af .neq (ai a) (ai b)) (some (false,())) ((kW (a,b,()) (0,())).bind fun c=>Sum.elim (fun d=>some (d.1,())) (fun d=>Sum.elim (fun _=>some (true,())) (fun e=>Empty.elim e) d) c)
end Go.Fn
set_option linter.unusedVariables false
namespace Go.Fn
open Go.R
noncomputable def zI:Int:=0
noncomputable def cT(a:Unit)(b:IJ×KE):Option (IJ×KE⊕Ky⊕Empty):=letI c:=b.2.2.1;letI d:=(ae aS b.1 c).2;cond (af .lss c (ai b.1)) (cond (ah b.1 c) (lets (aC b.1 c (b.2.1,d.1,d.2.1,d.2.2.1,d.2.2.2.1,d.2.2.2.2.1,d.2.2.2.2.2)) fun e=>letI f:=(1:Int);letI g:=aa .add .i64 b.2.1 f;letI h:=(ae aS e c).2.2;cond (ah e c) (lets (aC e c ((ae aS e c).1,g,h.1,h.2.1,h.2.2.1,h.2.2.2.1,h.2.2.2.2)) fun i=>letI j:=ae aS i c;letI k:=j.2.2.2;letI l:=aa .add .i64 g f;cond (ah i c) (lets (aC i c (j.1,j.2.1,l,k.1,k.2.1,k.2.2.1,k.2.2.2)) fun m=>letI n:=ae aS m c;letI o:=n.2.2.2.2;letI p:=aa .add .i64 l f;cond (ah m c) (lets (aC m c (n.1,n.2.1,n.2.2.1,p,o.1,o.2.1,o.2.2)) fun q=>letI r:=ae aS q c;letI s:=aa .add .i64 p f;cond (ah q c) (lets (aC q c (r.1,r.2.1,r.2.2.1,r.2.2.2.1,s,r.2.2.2.2.2.1,r.2.2.2.2.2.2)) fun t=>letI u:=ae aS t c;letI v:=aa .add .i64 s f;cond (ah t c) (lets (aC t c (u.1,u.2.1,u.2.2.1,u.2.2.2.1,u.2.2.2.2.1,v,u.2.2.2.2.2.2)) fun w=>lets (aa .add .i64 v f) fun x=>letI y:=ae aS w c;cond (ah w c) (lets (aC w c (y.1,y.2.1,y.2.2.1,y.2.2.2.1,y.2.2.2.2.1,y.2.2.2.2.2.1,x)) fun z=>some (.inl (z,aa .add .i64 x f,aa .add .i64 c f,()))) none) none) none) none) none) none) none) (some (.inr (.inl (b.1,b.2.1,()))))
noncomputable def c6 k x:=iter (cT k) big x
noncomputable def e8(a:IJ)(b:Int):Option (Int×Kb):=(c6 () (a,b,0,())).bind fun c=>Sum.elim (fun d=>some (d.2.1,d.1,())) (fun d=>Empty.elim d) c
noncomputable def b9(a:Kb)(b:KE):Option (KE⊕JT⊕JT⊕Empty):=letI c:=(1:Int);letI d:=((-1:Int),());letI e:=ah a.1 b.2.1;letI f:=ae aS a.1 b.2.1;letI g:=aa .add .i64 b.1 c;letI h:=f.2.2.2;letI i:=aa .add .i64 g c;letI j:=aa .add .i64 i c;letI k:=aa .add .i64 j c;cond (af .lss b.2.1 (ai a.1)) (cond e (cond (af .neq f.1 b.1) (some (.inr (.inl d))) (cond e (cond (af .neq f.2.1 g) (some (.inr (.inl d))) (cond e (cond (af .neq f.2.2.1 i) (some (.inr (.inl d))) (cond e (cond (af .neq h.1 j) (some (.inr (.inl d))) (cond e (lets (af .neq h.2.1 k) fun l=>letI m:=aa .add .i64 k c;cond l (some (.inr (.inl d))) (cond e (lets (af .neq h.2.2.1 m) fun n=>cond n (some (.inr (.inl d))) (lets (aa .add .i64 m c) fun o=>cond e (cond (af .neq h.2.2.2 o) (some (.inr (.inl d))) (some (.inl (aa .add .i64 o c,aa .add .i64 b.2.1 c,())))) none)) none)) none)) none)) none)) none)) none) (some (.inr (.inr (.inl (b.1,())))))
noncomputable def cF k x:=iter (b9 k) big x
noncomputable def ek(a:IJ)(b:Int):Option JT:=(cF (a,()) (b,0,())).bind fun c=>Sum.elim (fun d=>some (d.1,())) (fun d=>Sum.elim (fun e=>some (e.1,())) (fun e=>Empty.elim e) d) c
end Go.Fn
set_option linter.unusedVariables false
namespace Go.Fn
open Go.R
noncomputable def KP:Ko:=([]:Ko)
end Go.Fn
set_option linter.unusedVariables false
namespace Go.Fn
open Go.R
noncomputable def Jq:Int×Ko×LL:=(0,([]:Ko),([]:LL))
end Go.Fn
set_option linter.unusedVariables false
namespace Go.Fn
open Go.R
noncomputable def bf(a:IJ):Option Kb:=cond (af .gtr (ai a) 0) (cond (aE (List.append (α:=IZ) ([]:IJ) a)) (some (List.append (α:=IZ) ([]:IJ) a,())) none) (both (some (([]:IJ),())) (cond (aE (List.append (α:=IZ) ([]:IJ) a)) (some (List.append (α:=IZ) ([]:IJ) a,())) none))
noncomputable def gA(a:Ky)(b:KY):LK:=letI c:=b.2;letI d:=c.2.2.2;letI e:=c.2.2.1;letI f:=d.2.2;letI g:=d.2.1;letI h:=f.2.1;letI i:=f.2.2.2.1;letI j:=ah a.1 i;letI k:=ae aS a.1 i;letI l:=aa .add .i64 i 1;letI m:=af .leq k.1 a.2.1;letI n:=aa .add .i64 k.2.1 1;letI o:=aa .add .i64 k.2.2.1 1;cond (af .lss i (ai a.1)) (cond j (cond (af .eql k.1 a.2.1) (cond j (cond j (cond m (cond j (some (.inl (b.1,c.1,n,bK true e o,d.1,g,f.1,h,l,l,()))) none) (cond j (some (.inl (b.1,c.1,n,bK true e o,d.1,g,f.1,h,f.2.2.1,l,()))) none)) none) none) (cond j (cond m (cond j (some (.inl (b.1,c.1,c.2.1,bK true e o,d.1,g,f.1,h,l,l,()))) none) (cond j (some (.inl (b.1,c.1,c.2.1,bK true e o,d.1,g,f.1,h,f.2.2.1,l,()))) none)) none)) none) (some (.inr (.inl (b.1,c.1,c.2.1,e,d.1,g,f.1,h,f.2.2.1,()))))
noncomputable def k5 k x:=iter (gA k) big x
noncomputable def lj(a:IJ)(b c d e f:Int):Option (IJ×KD):=letI g:=([]:IJ);cond (aE (List.append (α:=IZ) g a)) ((fu a).bind fun h=>cond (Bool.not h.1) (some (List.append (α:=IZ) g a,false,())) ((k5 (a,b,()) (List.append (α:=IZ) g a,b,1,1,c,d,e,f,0,0,())).bind fun i=>Sum.elim (fun j=>letI k:=j.2.2.2.2;letI l:=k.2.2.2.2.1;letI m:=eR a 0 l;letI n:=eR a l (ai a);letI o:=(j.2.1,j.2.2.1,j.2.2.2.1,k.1,k.2.1,k.2.2.1,k.2.2.2.1);cond (cS a (0:Int) l) (cond (aE (List.append (α:=IZ) g m)) (cond (aE (List.append (α:=IZ) (List.append (α:=IZ) g m) (List.append (α:=IZ) g [o]))) (cond (cS a l (ai a)) (cond (aE (List.append (α:=IZ) (List.append (α:=IZ) (List.append (α:=IZ) g m) (List.append (α:=IZ) g [o])) n)) ((fu (List.append (α:=IZ) (List.append (α:=IZ) (List.append (α:=IZ) g m) (List.append (α:=IZ) g [o])) n)).bind fun p=>cond (Bool.not p.1) (some (j.1,false,())) (some (List.append (α:=IZ) (List.append (α:=IZ) (List.append (α:=IZ) g m) (List.append (α:=IZ) g [o])) n,true,()))) none) none) none) none) none) (fun j=>Empty.elim j) i)) none
end Go.Fn
namespace Go.Fn
open Go.R
abbrev Ev:=Int×Int×Int×Int×Int×Int×Int
noncomputable def JK(a lo hi:Int):Bool:=bif decide (a>=lo)then decide (a<=hi)else false
theorem IY(a lo hi:Int):b7 a lo hi=some (JK a lo hi,()):=by unfold b7 JK;simp only[af];cases decide (a>=lo) <;> rfl
theorem KN(a lo hi:Int):ea a lo hi=some (JK a lo hi,()):=IY a lo hi
theorem JQ(a:Int):lm a=some (JK a 0 20000,()):=by unfold lm;rw[IY];rfl
noncomputable def xn(e:Ev):Bool:=bif JK e.1 0 5 then bif JK e.2.1 1 999 then bif JK e.2.2.1 1 100000 then bif JK e.2.2.2.1 1 4 then bif JK e.2.2.2.2.1 1 999 then bif JK e.2.2.2.2.2.1 0 20000 then JK e.2.2.2.2.2.2 0 20000 else false else false else false else false else false else false
theorem Jm{α:Type}(b:Bool)(x y:α):(bif b then some x else some y)=some (bif b then x else y):=by cases b <;> rfl
theorem Jl(b x y:Bool):(bif b then(x,())else(y,()))=((bif b then x else y),()):=by cases b <;> rfl
theorem JO(a b c d e f g:Int):qW a b c d e f g=some (xn (a,b,c,d,e,f,g),()):=by unfold qW xn;simp only[KN,Option.bind_some,Jm,Jl]
theorem JJ(a b c d e f g:Int):qB a b c d e f g=some (xn (a,b,c,d,e,f,g),()):=by unfold qB xn;simp only[IY,JQ,Option.bind_some,Jm,Jl]
noncomputable def Je(p e:Ev):Bool:=!(decide (e.1<p.1)||(decide (e.1=p.1)&&(decide (e.2.1<=p.2.1)||decide (e.2.2.1<=p.2.2.1))))
noncomputable def qe(l:List Ev):Nat->Bool
 |0=>xn (l.getD 0 aS)
 |n+1=>xn (l.getD (n+1) aS)&&Je (l.getD n aS) (l.getD (n+1) aS)
noncomputable def I0(l:List Ev):Bool:=bif decide (60<l.length)then false else aB (qe l) 0 l.length
theorem Ks(l:List Ev):af .gtr (ai l) (60:Int)=decide (60<l.length):=by simp only[af,ai,gt_iff_lt,decide_eq_decide];omega
theorem JZ(l:List Ev):fe l=some (I0 l,()):=by
 unfold fe I0;rw[Ks];cases hl:decide (60<l.length)with
 |true=>rfl
 |false=>
  have hl:l.length<=60:=by have:=of_decide_eq_false hl;omega
  have zS:ia (l,l,(ai l),()) ((0:Int),())=some (bif aB (qe l) 0 l.length then(Sum.inr (Sum.inl ()):Bool×Unit⊕(Unit⊕Empty))else Sum.inl (false,())):=by
   refine bq (fun n=>((n:Int),())) l.length (by omega) (qe l) _ _ (fun n hn=>?_) ?_
   ·unfold hM;simp only[aj,ax,ak,JJ,hn,decide_true,cond_true,Option.bind_some];cases n with
    |zero=>simp only[qe];cases xn (l.getD 0 aS) <;> rfl
    |succ n=>
     have hn':n<l.length:=by omega
     simp only[qe,au (n:=n+1) (by omega),iD (n:=n) (by omega),cK hn',ak,Je,af];have e0:((((n+1:Nat):Int))==0)=false:=by rw[beq_eq_false_iff_ne];omega
     rw[e0];simp only[cond_false,cond_true];generalize l.getD (n+1) aS=e;generalize l.getD n aS=p;show(bif !(xn e)then _ else _)=_;cases xn e with
     |false=>rfl
     |true=>
      simp only[Bool.not_true,cond_false,Bool.true_and];cases decide (e.1<p.1)with
      |true=>rfl
      |false=>
       simp only[cond_false,Bool.false_or];have eb:(e.1==p.1)=decide (e.1=p.1):=rfl;rw[eb];cases decide (e.1=p.1)with
       |false=>rfl
       |true=>
        simp only[cond_true,Bool.true_and];cases decide (e.2.1<=p.2.1)with
        |true=>rfl
        |false=>cases decide (e.2.2.1<=p.2.2.1) <;> rfl
   ·unfold hM;simp only[aj,Nat.lt_irrefl,decide_false,cond_false]
  rw[zS];cases aB (qe l) 0 l.length <;> rfl
theorem LN(n:Nat):af .gtr ((n+1:Nat):Int) 0=true:=by simp only[af,gt_iff_lt,decide_eq_true_eq];omega
theorem J5(l:List Ev):fu l=some (I0 l,()):=by
 unfold fu I0;rw[Ks];cases hl:decide (60<l.length)with
 |true=>rfl
 |false=>
  have hl:l.length<=60:=by have:=of_decide_eq_false hl;omega
  have zS:i6 (l,()) ((0:Int),())=some (bif aB (qe l) 0 l.length then(Sum.inr (Sum.inl ()):Bool×Unit⊕(Unit⊕Empty))else Sum.inl (false,())):=by
   refine bq (fun n=>((n:Int),())) l.length (by omega) (qe l) _ _ (fun n hn=>?_) ?_
   ·unfold iL;simp only[aj,ax,ak,JO,hn,decide_true,cond_true,Option.bind_some];cases n with
    |zero=>simp only[qe];cases xn (l.getD 0 aS) <;> rfl
    |succ n=>
     have hn':n<l.length:=by omega
     simp only[qe,LN,au (n:=n+1) (by omega),iD (n:=n) (by omega),cK hn',ak,Je,cond_true];simp only[af];generalize l.getD (n+1) aS=e;generalize l.getD n aS=p;show(bif !(xn e)then _ else _)=_;cases xn e with
     |false=>rfl
     |true=>
      simp only[Bool.not_true,cond_false,Bool.true_and];cases decide (e.1<p.1)with
      |true=>rfl
      |false=>
       simp only[cond_false,Bool.false_or];have eb:(e.1==p.1)=decide (e.1=p.1):=rfl;rw[eb];cases decide (e.1=p.1)with
       |false=>rfl
       |true=>
        simp only[cond_true,Bool.true_and];cases decide (e.2.1<=p.2.1)with
        |true=>rfl
        |false=>cases decide (e.2.2.1<=p.2.2.1) <;> rfl
   ·unfold iL;simp only[aj,Nat.lt_irrefl,decide_false,cond_false]
  rw[zS];cases aB (qe l) 0 l.length <;> rfl
theorem Km(a b c d e f g:Int):zb a b c d e f g=some (a,b,c,d,e,f,g,()):=rfl
theorem J8(l:List Ev)(hl:l.length<=1073741824):lc l=some (l,()):=by
 unfold lc;rw[cE hl];have zS:gm (l,()) (List.replicate l.length (0,0,0,0,0,0,0),(0:Int),())=some (Sum.inl (l,())):=by
  have:=aU (body:=gb (l,())) (fun n=>(l.take n++List.replicate (l.length-n) (0,0,0,0,0,0,0),(n:Int),())) l.length (by omega) (Sum.inl (l,())) (fun n hn=>?_) ?_
  ·unfold gm;simpa using this
  ·unfold gb;have hx:n<(l.take n++List.replicate (l.length-n) ((0,0,0,0,0,0,0):Ev)).length:=by rw[dI _ _ (Nat.le_of_lt hn)];exact hn
   simp only[aj,ax,hn,hx,decide_true,cond_true,ak,Km,Option.bind_some,au (n:=n) (by omega),aQ];rw[<-dX l (0,0,0,0,0,0,0) hn,e9 hn aS (0,0,0,0,0,0,0)]
  ·unfold gb;simp only[aj,Nat.lt_irrefl,decide_false,cond_false,Nat.sub_self,List.replicate_zero,List.append_nil,List.take_length]
 have hr:cX (ai l) ((0:Int),(0:Int),(0:Int),(0:Int),(0:Int),(0:Int),(0:Int))=List.replicate l.length (0,0,0,0,0,0,0):=dU _ _;rw[hr];simp only[cond_true];rw[zS];rfl
theorem IX(a:Int):af .neq a a=false:=by simp[af]
theorem JG(a b c d e f g:Int):qS a b c d e f g a b c d e f g=some (true,()):=by unfold qS;simp only[IX,cond_false]
theorem I3(l:List Ev)(hl:l.length<=1073741824):b8 l l=some (true,()):=by
 unfold b8;rw[IX];have zS:kW (l,l,()) ((0:Int),())=some (Sum.inr (Sum.inl ())):=by
  refine aU (fun n=>((n:Int),())) l.length (by omega) _ (fun n hn=>?_) ?_
  ·unfold jr;simp only[aj,ax,hn,decide_true,cond_true,JG,Option.bind_some,au (n:=n) (by omega)];rfl
  ·unfold jr;simp only[aj,Nat.lt_irrefl,decide_false,cond_false]
 simp only[cond_false];rw[zS];rfl
theorem J6(l:List Ev)(a:Int)(hl:l.length<=9223372036854775807)(ha:0<=a)(Mx:a<=1048576):k6 l a=some (bif decide (a<(l.length:Int))then -1 else a-(l.length:Int),()):=by
 unfold k6;have h1:aa .sub .i64 a (ai l)=a-(l.length:Int):=bM (by unfold ai;omega) (by unfold ai;omega);rw[h1];have h2:af .lss (a-(l.length:Int)) 0=decide (a<(l.length:Int)):=by simp only[af,decide_eq_decide];omega
 rw[h2];cases decide (a<(l.length:Int)) <;> rfl
end Go.Fn
set_option linter.unusedSimpArgs false
namespace Go.Fn
open Go.R
theorem IU{a:Int}(h0:0<=a)(h1:a<=4611686018427387904):aa .add .i64 a 1=a+1:=bU (by omega) (by omega)
noncomputable def zf{α:Type}(l:List α)(f:Nat->α)(n:Nat):List α:=(List.range n).map f++l.drop n
theorem Jc{α:Type}(l:List α)(f:Nat->α){n:Nat}(h:n<=l.length):(zf l f n).length=l.length:=by simp only[zf,List.length_append,List.length_map,List.length_range,List.length_drop];omega
theorem JI{α:Type}(l:List α)(f:Nat->α){n:Nat}(h:n<l.length):(zf l f n).set n (f n)=zf l f (n+1):=by
 unfold zf;have h1:((List.range n).map f).length=n:=by simp
 rw[List.set_append,if_neg (by omega),h1,Nat.sub_self,List.range_succ,List.map_append,List.append_assoc];congr 1;rw[List.drop_eq_getElem_cons h];rfl
theorem JH{α:Type}(f:Nat->α)(k:Nat){n:Nat}(h:n<k)(z:α):((List.range k).map f).getD n z=f n:=by rw[List.getD_eq_getElem?_getD,List.getElem?_map,List.getElem?_range h];rfl
noncomputable def IG(k:Int)(i:Nat):Ev:=(k+7*(i:Int),k+7*(i:Int)+1,k+7*(i:Int)+1+1,k+7*(i:Int)+1+1+1,k+7*(i:Int)+1+1+1+1,k+7*(i:Int)+1+1+1+1+1,k+7*(i:Int)+1+1+1+1+1+1)
noncomputable def vw(k:Int)(n:Nat):List Ev:=(List.range n).map (IG k)
theorem II(l:List Ev)(k:Int)(hl:l.length<=1073741824)(h0:0<=k)(h1:k<=1099511627776):e8 l k=some (k+7*(l.length:Int),vw k l.length,()):=by
 unfold e8;have zS:c6 () (l,k,(0:Int),())=some (Sum.inl (vw k l.length,k+7*(l.length:Int),())):=by
  have:=aU (body:=cT ()) (fun n=>(zf l (IG k) n,k+7*(n:Int),(n:Int),())) l.length (by omega) (Sum.inl (vw k l.length,k+7*(l.length:Int),())) (fun n hn=>?_) ?_
  ·unfold c6;have e0:zf l (IG k) 0=l:=by simp[zf]
   simp only[e0]at this;simpa using this
  ·have hx:n<(zf l (IG k) n).length:=by rw[Jc _ _ (Nat.le_of_lt hn)];exact hn
   rw[<-JI l (IG k) hn];generalize hL:zf l (IG k) n=L at hx;have e1:k+7*((n+1:Nat):Int)=k+7*(n:Int)+1+1+1+1+1+1+1:=by omega
   rw[e1];unfold IG;have b0:0<=k+7*(n:Int):=by omega
   have b1:k+7*(n:Int)<=1125899906842624:=by omega
   revert b0 b1;generalize k+7*(n:Int)=q;intro b0 b1;have a1:aa .add .i64 q 1=q+1:=IU (by omega) (by omega);have a2:aa .add .i64 (q+1) 1=q+1+1:=IU (by omega) (by omega);have a3:aa .add .i64 (q+1+1) 1=q+1+1+1:=IU (by omega) (by omega);have a4:aa .add .i64 (q+1+1+1) 1=q+1+1+1+1:=IU (by omega) (by omega);have a5:aa .add .i64 (q+1+1+1+1) 1=q+1+1+1+1+1:=IU (by omega) (by omega);have a6:aa .add .i64 (q+1+1+1+1+1) 1=q+1+1+1+1+1+1:=IU (by omega) (by omega);have a7:aa .add .i64 (q+1+1+1+1+1+1) 1=q+1+1+1+1+1+1+1:=IU (by omega) (by omega);unfold cT;simp only[aj,ax,hx,decide_true,cond_true,au (n:=n) (by omega),aQ,ak,a1,a2,a3,a4,a5,a6,a7];iterate 8 (rw[aR];try simp only[jt,List.length_set,hx,decide_true,cond_true,aQ,ak,aG hx,List.set_set,a7])
  ·unfold cT;have hx:(zf l (IG k) l.length).length=l.length:=Jc _ _ (Nat.le_refl _);simp only[aj,hx,Nat.lt_irrefl,decide_false,cond_false];simp[zf,vw]
 rw[zS];rfl
theorem Ja(n:Nat)(k:Int)(hl:n<=1073741824)(h0:0<=k)(h1:k<=1099511627776):ek (vw k n) k=some (k+7*(n:Int),()):=by
 unfold ek;have hlen:(vw k n).length=n:=by simp[vw]
 have zS:cF (vw k n,()) (k,(0:Int),())=some (Sum.inr (Sum.inl (k+7*(n:Int),()))):=by
  have:=aU (body:=b9 (vw k n,())) (fun m=>(k+7*(m:Int),(m:Int),())) n (by omega) (Sum.inr (Sum.inl (k+7*(n:Int),()))) (fun m hm=>?_) ?_
  ·unfold cF;simpa using this
  ·have hg:(vw k n).getD m aS=IG k m:=JH _ _ hm _;have e1:k+7*((m+1:Nat):Int)=k+7*(m:Int)+1+1+1+1+1+1+1:=by omega
   rw[e1];unfold IG at hg;have b0:0<=k+7*(m:Int):=by omega
   have b1:k+7*(m:Int)<=1125899906842624:=by omega
   revert b0 b1 hg;generalize k+7*(m:Int)=q;intro hg b0 b1;have a1:aa .add .i64 q 1=q+1:=IU (by omega) (by omega);have a2:aa .add .i64 (q+1) 1=q+1+1:=IU (by omega) (by omega);have a3:aa .add .i64 (q+1+1) 1=q+1+1+1:=IU (by omega) (by omega);have a4:aa .add .i64 (q+1+1+1) 1=q+1+1+1+1:=IU (by omega) (by omega);have a5:aa .add .i64 (q+1+1+1+1) 1=q+1+1+1+1+1:=IU (by omega) (by omega);have a6:aa .add .i64 (q+1+1+1+1+1) 1=q+1+1+1+1+1+1:=IU (by omega) (by omega);have a7:aa .add .i64 (q+1+1+1+1+1+1) 1=q+1+1+1+1+1+1+1:=IU (by omega) (by omega);unfold b9;simp only[aj,hlen,ax,hm,decide_true,cond_true,ak,hg,IX,cond_false,au (n:=m) (by omega),a1,a2,a3,a4,a5,a6,a7,aR]
  ·unfold b9;simp only[aj,hlen,Nat.lt_irrefl,decide_false,cond_false]
 rw[zS];rfl
theorem za{l:List Ev}(h:I0 l=true):l.length<=60:=by
 unfold I0 at h;cases hd:decide (60<l.length)with
 |true=>rw[hd]at h;cases h
 |false=>have:=of_decide_eq_false hd;omega
theorem Ju{l:List Ev}(h:I0 l=true){n:Nat}(hn:n<l.length):qe l n=true:=by have KF:=za h;unfold I0 at h;rw[decide_eq_false (by omega)]at h;exact(aO _ _).1 h n (Nat.zero_le _) (by omega)
theorem Jv{l:List Ev}(h:I0 l=true){n:Nat}(hn:n<l.length):xn (l.getD n aS)=true:=by
 have:=Ju h hn;cases n with
 |zero=>exact this
 |succ n=>simp only[qe,Bool.and_eq_true]at this;exact this.1
theorem Ke{a lo hi:Int}:JK a lo hi=true↔lo<=a/\a<=hi:=by
 unfold JK;by_cases h:lo<=a
 ·rw[decide_eq_true (show a>=lo from h)];simp[h]
 ·rw[decide_eq_false (show ¬a>=lo from h)];simp[h]
theorem Kc{a b:Bool}:(bif a then b else false)=true↔a=true/\b=true:=by cases a <;> simp
theorem I4{e:Ev}:xn e=true↔(0<=e.1/\e.1<=5)/\(1<=e.2.1/\e.2.1<=999)/\(1<=e.2.2.1/\e.2.2.1<=100000)/\(1<=e.2.2.2.1/\e.2.2.2.1<=4)/\(1<=e.2.2.2.2.1/\e.2.2.2.2.1<=999)/\(0<=e.2.2.2.2.2.1/\e.2.2.2.2.2.1<=20000)/\(0<=e.2.2.2.2.2.2/\e.2.2.2.2.2.2<=20000):=by unfold xn;simp only[Kc,Ke]
theorem Jw{a:Int}(h:0<=a):af .lss a 0=false:=by simp only[af,decide_eq_false_iff_not];omega
theorem xh{α:Type}{l:List α}(h:l.length<=1073741824):aE l=true:=by unfold aE limit;exact decide_eq_true (by omega)
end Go.Fn
set_option linter.unusedSimpArgs false
namespace Go.Fn
open Go.R
abbrev KQ:=Int×Int
abbrev Mn:=Int×Int×Int×Int
theorem JN(b:Bool):bT b b=true:=by unfold bT;simp
end Go.Fn
set_option linter.unusedSimpArgs false
namespace Go.Fn
open Go.R
abbrev Ly:=Int×Int×Int×Int×Int
end Go.Fn
set_option linter.unusedSimpArgs false
namespace Go.Fn
open Go.R
noncomputable def Mi(g:List (List Int))(i j:Nat):Int:=(g.getD i KP).getD j zI
end Go.Fn
set_option linter.unusedSimpArgs false
namespace Go.Fn
open Go.R
abbrev LW:=Int×List Int×Int×Int×Int×Int
noncomputable def arr(g:List (List Int))(st:LW)(i:Int):Int:=aa .add .i64 st.2.2.1 (ae zI (ae KP g st.2.2.2.2.2) (aa .add .i64 i 1))
end Go.Fn
set_option linter.unusedSimpArgs false
namespace Go.Fn
open Go.R
abbrev Mo:=Int×Int×Int×Int×Int×Int×Int×Int
end Go.Fn
set_option linter.unusedSimpArgs false
namespace Go.Fn
open Go.R
abbrev Bx:=Int×Int×Int×Bool
abbrev KB:=Int×List Int×List Bx
abbrev Site:=List KQ×List KQ×List KB×Int×Int×Bool×Bool×Bool×Int×Int×List Ev
theorem I5{α:Type}{l:List α}{n:Nat}(h:n<l.length)(z:α):l.getD n z∈l:=by rw[List.getD_eq_getElem?_getD,List.getElem?_eq_getElem h];exact List.getElem_mem h
end Go.Fn
set_option linter.unusedSimpArgs false
namespace Go.Fn
open Go.R
abbrev Mm:=Int×Int×Int×Int×Int×Int×Int×Int×Int×Int×Int×Int×Int
abbrev Ml:=Int×Int×Int×Int×Int×Int×Bool
end Go.Fn
namespace Go.R
def Yl{α:Type}(x:Option α)(P:α->Prop):Prop:=∃a,x=some a/\P a
section
variable {α β:Type} {P:α->Prop} {Q:β->Prop}
theorem Yl.ret{a:α}(h:P a):Yl (some a) P:=⟨a,rfl,h⟩
theorem Yl.bind{x:Option α}{f:α->Option β}(hx:Yl x P)(hf:∀a,P a->Yl (f a) Q):Yl (x.bind f) Q:=by obtain⟨a,rfl,ha⟩:=hx;exact hf a ha
theorem Yl.mono{P':α->Prop}{x:Option α}(hx:Yl x P)(h:∀a,P a->P' a):Yl x P':=by obtain⟨a,e,ha⟩:=hx;exact⟨a,e,h a ha⟩
theorem Yl.lets{γ:Type}{v:γ}{k:γ->Option α}(h:Yl (k v) P):Yl (lets v k) P:=h
theorem Yl.loop{X Y:Type}{body:X->Option (X⊕Y)}(Inv:X->Prop)(m:X->Nat){R:Y->Prop}(hb:∀x,Inv x->Yl (body x) fun r=>match r with| .inl y=>Inv y/\m y<m x| .inr b=>R b):
  ∀(n:Nat) (x:X),Inv x->m x<n->Yl (iter body n x) R
 |0,_,_,h=>absurd h (Nat.not_lt_zero _)
 |n+1,x,hi,hm=>by
  obtain⟨r,e,hr⟩:=hb x hi;cases r with
  |inl y=>rw[aF e];exact Yl.loop Inv m hb n y hr.1 (by omega)
  |inr b=>exact⟨b,av e,hr⟩
end
theorem xh{α:Type}{l:List α}(h:l.length<=1073741824):aE l=true:=by unfold aE limit;exact decide_eq_true (by omega)
open Go.Fn
end Go.R
set_option linter.unusedSimpArgs false
set_option linter.unusedVariables false
namespace Go.Fn
open Go.R Go.Sort
section
variable {α:Type} [Inhabited α] {lt:α->α->Bool}
theorem one:(1:Int)=((1:Nat):Int):=rfl
end
end Go.Fn
set_option linter.unusedSimpArgs false
set_option linter.unusedVariables false
namespace Go.Fn
open Go.R Go.Sort
section
variable {α:Type} [Inhabited α] {lt:α->α->Bool}
abbrev KC(α:Type):=Option (((List α)×Int×Int×Int×Bool×Bool×Unit)⊕((List α)×Unit⊕Empty))
noncomputable def Next(lt:α->α->Bool)(q:KC α)(d:Array α)(a b:Nat):Prop:=
 (∃R,q=some (.inr (.inl (R.toList,())))/\PermIn a b d R/\SortedIn lt a b R) \/
 (∃(E:Array α) (a' b':Nat) (L:Int) (wb wp:Bool),q=some (.inl (E.toList,(a':Int),(b':Int),L,wb,wp,()))/\E.size=d.size/\a'<=b'/\b'<=b/\b'-a'<b-a/\Below lt a' b' E/\∀R,PermIn a' b' E R->SortedIn lt a' b' R->PermIn a b d R/\SortedIn lt a b R)
theorem Next.mono{q:KC α}{d D:Array α}{a b:Nat}(h:Next lt q D a b)(p:PermIn a b d D):Next lt q d a b:=by
 rcases h with ⟨R,h1,h2,h3⟩|⟨E,a',b',L,wb,wp,h1,h2,h3,h4,h5,h6,h7⟩
 ·exact .inl ⟨R,h1,permIn_trans _ _ _ a b p h2,h3⟩
 ·refine .inr ⟨E,a',b',L,wb,wp,h1,by rw[h2,p.1],h3,h4,h5,h6,fun R hR hs=>?_⟩;obtain⟨k1,k2⟩:=h7 R hR hs;exact⟨permIn_trans _ _ _ a b p k1,k2⟩
end
end Go.Fn
set_option linter.unusedSimpArgs false
set_option linter.unusedVariables false
namespace Go.Fn
open Go.R Go.Sort
noncomputable def Ka(x y:Ev):Bool:=decide (x.1<y.1)||(decide (x.1=y.1)&&decide (x.2.1<y.2.1))
end Go.Fn
set_option linter.unusedSimpArgs false
set_option linter.unusedVariables false
namespace Go.Fn
open Go.R Go.Sort
theorem zc{x y:Ev}:Ka x y=true↔x.1<y.1\/(x.1=y.1/\x.2.1<y.2.1):=by unfold Ka;simp
theorem J3{x y z:Ev}(h1:Ka x y=true)(h2:Ka y z=true):Ka x z=true:=by rw[zc]at *;omega
abbrev Kn(l:List Ev):Prop:=l.Pairwise fun x y=>Ka x y=true
theorem JB:∀(l:List Ev),(∀n,n+1<l.length->Ka (l.getD n aS) (l.getD (n+1) aS)=true)->Kn l
 | [],_=>List.Pairwise.nil
 | [x],_=>List.pairwise_singleton _ _
 |x::y::l,h=>by
  have ih:=JB (y::l) (fun n hn=>h (n+1) (by simpa using hn));have hxy:Ka x y=true:=h 0 (by simp);refine List.Pairwise.cons (fun z hz=>?_) ih;rcases List.mem_cons.1 hz with rfl|hz
  ·exact hxy
  ·exact J3 hxy ((List.pairwise_cons.1 ih).1 z hz)
theorem IW{l:List Ev}(h:I0 l=true):Kn l:=by refine JB l fun n hn=>?_;have:=Ju h hn;simp only[qe,Bool.and_eq_true,Je,Bool.not_eq_true',Bool.or_eq_false_iff,Bool.and_eq_false_iff,decide_eq_false_iff_not]at this;rw[zc];omega
end Go.Fn
set_option linter.unusedSimpArgs false
set_option linter.unusedVariables false
namespace Go.Fn
open Go.R Go.Sort
theorem iK{R:Type}(x:Option R):both x x=x:=by unfold both;simp
theorem JE(l:List Ev)(hl:l.length<=1073741824):bf l=some (l,()):=by
 unfold bf;have h1:aE (List.append (α:=Ev) ([]:List Ev) l)=true:=xh hl;rw[h1];cases l with
 |nil=>exact iK _
 |cons x l=>rw[show af .gtr (ai (x::l)) (0:Int)=true from LN l.length];rfl
end Go.Fn
set_option linter.unusedSimpArgs false
set_option linter.unusedVariables false
namespace Go.Fn
open Go.R Go.Sort
noncomputable def Jx(x y:Ev):Prop:=Ka x y=true/\(x.1=y.1->x.2.2.1<y.2.2.1)
theorem Kl{x y z:Ev}(h1:Jx x y)(h2:Jx y z):Jx x z:=by obtain⟨a1,a2⟩:=h1;obtain⟨b1,b2⟩:=h2;refine⟨J3 a1 b1,fun h=>?_⟩;rw[zc]at a1 b1;have:=a2 (by omega);have:=b2 (by omega);omega
theorem Jf{x y:Ev}:Je x y=true↔Jx x y:=by unfold Jx;simp only[Je,Bool.not_eq_true',Bool.or_eq_false_iff,Bool.and_eq_false_iff,decide_eq_false_iff_not,zc];omega
theorem Jo{R:Ev->Ev->Prop}(tr:∀x y z,R x y->R y z->R x z):∀(l:List Ev),(∀n,n+1<l.length->R (l.getD n aS) (l.getD (n+1) aS))->l.Pairwise R
 | [],_=>List.Pairwise.nil
 | [x],_=>List.pairwise_singleton _ _
 |x::y::l,h=>by
  have ih:=Jo tr (y::l) (fun n hn=>h (n+1) (by simpa using hn));have hxy:R x y:=h 0 (by simp);refine List.Pairwise.cons (fun z hz=>?_) ih;rcases List.mem_cons.1 hz with rfl|hz
  ·exact hxy
  ·exact tr _ _ _ hxy ((List.pairwise_cons.1 ih).1 z hz)
theorem getD_eq{α:Type}{l:List α}{n:Nat}(h:n<l.length)(z:α):l.getD n z=l[n]:=by rw[List.getD_eq_getElem?_getD,List.getElem?_eq_getElem h];rfl
theorem Kh{l:List Ev}:I0 l=true↔l.length<=60/\(∀x,x∈l->xn x=true)/\l.Pairwise Jx:=by
 constructor
 ·intro h;refine⟨za h,fun x hx=>?_,Jo (R:=Jx) (fun _ _ _ h1 h2=>Kl h1 h2) l fun n hn=>?_⟩
  ·obtain⟨n,hn,rfl⟩:=List.getElem_of_mem hx;have:=Jv h hn;rwa[getD_eq hn]at this
  ·have:=Ju h hn;simp only[qe,Bool.and_eq_true]at this;exact Jf.1 this.2
 ·intro ⟨h1,h2,h3⟩;unfold I0;rw[decide_eq_false (by omega)];refine(aO _ _).2 fun m _ hm=>?_;rw[Nat.zero_add]at hm;cases m with
  |zero=>exact h2 _ (I5 hm _)
  |succ m=>simp only[qe,Bool.and_eq_true];refine⟨h2 _ (I5 hm _),Jf.2 ?_⟩;rw[getD_eq hm,getD_eq (show m<l.length by omega)];exact List.pairwise_iff_getElem.1 h3 m (m+1) (by omega) hm (by omega)
theorem Kg{l:List Ev}(h:I0 l=true):∀x,x∈l->xn x=true:=(Kh.1 h).2.1
noncomputable def ze(node:Int)(s:Int×Int×Nat×Nat)(x:Ev):Int×Int×Nat×Nat:=((bif decide (x.1=node)then x.2.1+1 else s.1),max s.2.1 (x.2.2.1+1),(bif decide (x.1<=node)then s.2.2.2+1 else s.2.2.1),s.2.2.2+1)
noncomputable def zg(l:List Ev)(node:Int):Int×Int×Nat×Nat:=l.foldl (ze node) (1,1,0,0)
noncomputable def Kk(l:List Ev)(node kind bg a b:Int):Ev:=(node,(zg l node).1,(zg l node).2.1,kind,bg,a,b)
noncomputable def vp(l:List Ev)(node kind bg a b:Int):List Ev:=l.take (zg l node).2.2.1++[Kk l node kind bg a b]++l.drop (zg l node).2.2.1
noncomputable def wk(l:List Ev)(node kind bg a b:Int):List Ev×Bool:=bif I0 l then bif I0 (vp l node kind bg a b)then(vp l node kind bg a b,true)else(l,false)else(l,false)
structure Jr (node:Int) (p:List Ev) (s:Int×Int×Nat×Nat):Prop where
 c:s.2.2.2=p.length
 JU:s.2.2.1<=p.length
 s1:∀x,x∈p->x.1=node->x.2.1<s.1
 s2:s.1=1\/∃x,x∈p/\x.1=node/\s.1=x.2.1+1
 p1:∀x,x∈p->x.2.2.1<s.2.1
 p2:s.2.1=1\/∃x,x∈p/\s.2.1=x.2.2.1+1
 a1:∀x,x∈p.take s.2.2.1->x.1<=node
 a2:∀x,x∈p.drop s.2.2.1->node<x.1
theorem Jb{node:Int}{p:List Ev}{s:Int×Int×Nat×Nat}{x:Ev}(h:Jr node p s)(hp:Kn (p++[x])):Jr node (p++[x]) (ze node s x):=by
 have hlt:∀y,y∈p->Ka y x=true:=fun y hy=>(List.pairwise_append.1 hp).2.2 y hy x (List.mem_singleton.2 rfl);obtain⟨h1,h2,h3,h4,h5,h6,h7,h8⟩:=h;unfold ze;refine⟨by simp[h1],?_,fun y hy hn=>?_,?_,fun y hy=>?_,?_,?_,?_⟩
 ·cases decide (x.1<=node) <;> simp <;> omega
 ·simp only[];rcases List.mem_append.1 hy with hy|hy
  ·by_cases hx:x.1=node
   ·rw[decide_eq_true hx];have:=hlt y hy;rw[zc]at this;simp only[cond_true];omega
   ·rw[decide_eq_false hx];exact h3 y hy hn
  ·rw[List.mem_singleton]at hy;subst hy;rw[decide_eq_true hn];simp only[cond_true];omega
 ·simp only[];by_cases hx:x.1=node
  ·rw[decide_eq_true hx];exact .inr ⟨x,by simp,hx,rfl⟩
  ·rw[decide_eq_false hx];rcases h4 with h4|⟨y,hy,h4⟩
   ·exact .inl h4
   ·exact .inr ⟨y,List.mem_append_left _ hy,h4⟩
 ·simp only[];rcases List.mem_append.1 hy with hy|hy
  ·have:=h5 y hy;omega
  ·rw[List.mem_singleton]at hy;subst hy;omega
 ·simp only[];by_cases hm:s.2.1<=x.2.2.1+1
  ·exact .inr ⟨x,by simp,by omega⟩
  ·rcases h6 with h6|⟨y,hy,h6⟩
   ·exact .inl (by omega)
   ·exact .inr ⟨y,List.mem_append_left _ hy,by omega⟩
 ·simp only[];by_cases hx:x.1<=node
  ·rw[decide_eq_true hx];intro y hy;rw[cond_true,h1,List.take_of_length_le (by simp)]at hy;rcases List.mem_append.1 hy with hy|hy
   ·have:=hlt y hy;rw[zc]at this;omega
   ·rw[List.mem_singleton]at hy;subst hy;exact hx
  ·rw[decide_eq_false hx];intro y hy;rw[cond_false,List.take_append_of_le_length h2]at hy;exact h7 y hy
 ·simp only[];by_cases hx:x.1<=node
  ·rw[decide_eq_true hx];intro y hy;rw[cond_true,h1,List.drop_of_length_le (by simp)]at hy;exact absurd hy List.not_mem_nil
  ·rw[decide_eq_false hx];intro y hy;rw[cond_false,List.drop_append_of_le_length h2]at hy;rcases List.mem_append.1 hy with hy|hy
   ·exact h8 y hy
   ·rw[List.mem_singleton]at hy;subst hy;omega
theorem Jk(node:Int):∀(l p:List Ev) (s:Int×Int×Nat×Nat),Kn (p++l)->Jr node p s->Jr node (p++l) (l.foldl (ze node) s)
 | [],p,s,_,h=>by simpa using h
 |x::l,p,s,hp,h=>by
  have e:p++x::l=(p++[x])++l:=by simp
  rw[e]at hp⊢;exact Jk node l (p++[x]) (ze node s x) hp (Jb h (List.pairwise_append.1 hp).1)
theorem IR(node:Int){l:List Ev}(h:Kn l):Jr node l (zg l node):=by have:=Jk node l [] (1,1,0,0) (by simpa using h) ⟨rfl,Nat.le_refl _,fun x hx=>absurd hx List.not_mem_nil,.inl rfl,fun x hx=>absurd hx List.not_mem_nil,.inl rfl,fun x hx=>absurd (List.mem_of_mem_take hx) List.not_mem_nil,fun x hx=>absurd (List.mem_of_mem_drop hx) List.not_mem_nil⟩;exact this
theorem rm{l:List Ev}{node kind bg a b:Int}(z:Ev):z∈vp l node kind bg a b↔z=Kk l node kind bg a b\/z∈l:=by
 unfold vp;rw[List.mem_append,List.mem_append,List.mem_singleton];constructor
 ·rintro((h|h)|h)
  ·exact .inr (List.mem_of_mem_take h)
  ·exact .inl h
  ·exact .inr (List.mem_of_mem_drop h)
 ·rintro(h|h)
  ·exact .inl (.inr h)
  ·rw[<-List.take_append_drop (zg l node).2.2.1 l,List.mem_append]at h;rcases h with h|h
   ·exact .inl (.inl h)
   ·exact .inr h
theorem Jg{l:List Ev}(h:Kn l)(node kind bg a b:Int):(vp l node kind bg a b).length=l.length+1:=by have:=(IR node h).JU;unfold vp;simp only[List.length_append,List.length_take,List.length_drop,List.length_singleton];omega
theorem Kt(l m:List Ev):List.append (α:=Ev) l m=l++m:=rfl
theorem Jy(l:List Ev)(hj:I0 l=true)(node kind bg a b:Int)(same:List Ev):k5 (l,node,()) (same,node,(1:Int),(1:Int),kind,bg,a,b,(0:Int),(0:Int),())=some (.inl (same,node,(zg l node).1,(zg l node).2.1,kind,bg,a,b,(((zg l node).2.2.1:Nat):Int),())):=by
 have KF:=za hj;refine(bI (body:=gA (l,node,())) l aS (by omega) (ze node) (fun(s:Int×Int×Nat×Nat) n=>(same,node,s.1,s.2.1,kind,bg,a,b,((s.2.2.1:Nat):Int),(n:Int),())) (fun n s=>s.2.2.2=n) (fun s=>Sum.inl (same,node,s.1,s.2.1,kind,bg,a,b,((s.2.2.1:Nat):Int),())) (fun n s hn hs=>⟨?_,by unfold ze;simp[hs]⟩) (fun s hs=>?_) (1,1,0,0) rfl).1
 ·have he:=I4.1 (Jv hj hn);unfold gA ze;simp only[aj,hn,decide_true,cond_true,ax,ak];revert he;generalize l.getD n aS=e;intro he;have e1:aa .add .i64 e.2.1 1=e.2.1+1:=bU (by omega) (by omega);have e2:aa .add .i64 e.2.2.1 1=e.2.2.1+1:=bU (by omega) (by omega);have e3:bK true s.2.1 (e.2.2.1+1)=max s.2.1 (e.2.2.1+1):=by unfold bK;simp <;> omega
  have e4:af .eql e.1 node=decide (e.1=node):=by simp[af,Bool.beq_eq_decide_eq]
  have e5:af .leq e.1 node=decide (e.1<=node):=rfl;simp only[e1,e2,e3,e4,e5,au (n:=n) (by omega),hs];cases decide (e.1=node) <;> cases decide (e.1<=node) <;> rfl
 ·unfold gA;simp only[aj,Nat.lt_irrefl,decide_false,cond_false]
theorem Jz(l:List Ev)(node kind bg a b:Int)(hl:l.length<=1073741824):lj l node kind bg a b=some ((wk l node kind bg a b).1,(wk l node kind bg a b).2,()):=by
 unfold lj wk;have l8:aE l=true:=xh hl;simp only[J5,Option.bind_some,Kt,List.nil_append,l8,cond_true];cases hj:I0 l with
 |false=>rfl
 |true=>
  have KF:=za hj;have hi:=IR node (IW hj);have KR:=hi.JU;simp only[Bool.not_true,cond_false,cond_true,Jy l hj,Option.bind_some,Sum.elim_inl,Kt,List.nil_append];generalize hA:zg l node=A at KR;have s1:cS l (0:Int) ((A.2.2.1:Nat):Int)=true:=by unfold cS;simp <;> omega
  have s2:cS l ((A.2.2.1:Nat):Int) (ai l)=true:=by unfold cS ai;simp <;> omega
  have t1:eR l (0:Int) ((A.2.2.1:Nat):Int)=l.take A.2.2.1:=by unfold eR;simp
  have t2:eR l ((A.2.2.1:Nat):Int) (ai l)=l.drop A.2.2.1:=by unfold eR ai;rw[Int.toNat_natCast,Int.toNat_natCast];exact List.take_of_length_le (by simp)
  have k1:aE (l.take A.2.2.1)=true:=xh (by simp;omega);have k2:∀x:Ev,aE (l.take A.2.2.1++[x])=true:=fun x=>xh (by simp;omega);have k3:∀x:Ev,aE (l.take A.2.2.1++[x]++l.drop A.2.2.1)=true:=fun x=>xh (by simp;omega);simp only[s1,s2,t1,t2,k1,k2,k3,cond_true];have hw:vp l node kind bg a b=l.take A.2.2.1++[(node,A.1,A.2.1,kind,bg,a,b)]++l.drop A.2.2.1:=by unfold vp Kk;rw[hA]
  rw[hw];cases I0 (l.take A.2.2.1++[(node,A.1,A.2.1,kind,bg,a,b)]++l.drop A.2.2.1) <;> rfl
end Go.Fn
set_option linter.unusedSimpArgs false
set_option linter.unusedVariables false
namespace Go.Fn
open Go.R Go.Sort
structure JD (n:Nat) (base:List Ev) (S:Int->Prop) (l:List Ev):Prop where
 j:I0 l=true
 len:l.length<=n
 st:∀x,x∈l->x.2.2.1<=(n:Int)
 KZ:∀x,x∈l->∀s:Int,1<=s->s<=x.2.1->∃y,y∈l/\y.1=x.1/\y.2.1=s
 sub:∀x,x∈base->x∈l
 new:∀x,x∈l->x∈base\/S x.1
theorem JD.mono{n m:Nat}{base:List Ev}{S:Int->Prop}{l:List Ev}(h:JD n base S l)(hm:n<=m):JD m base S l:=⟨h.j,by have:=h.len;omega,fun x hx=>by have:=h.st x hx;omega,h.KZ,h.sub,h.new⟩
theorem JD.add{n:Nat}{base:List Ev}{S:Int->Prop}{l:List Ev}(h:JD n base S l){node:Int}(hS:S node)(kind bg a b:Int):JD (n+1) base S (wk l node kind bg a b).1:=by
 unfold wk;rw[h.j];simp only[cond_true];cases hw:I0 (vp l node kind bg a b)with
 |false=>exact h.mono (Nat.le_succ _)
 |true=>
  have hs:=IW h.j;have hi:=IR node hs;simp only[cond_true];refine⟨hw,by rw[Jg hs];have:=h.len;omega,fun x hx=>?_,fun x hx s h1 h2=>?_,fun x hx=>(rm x).2 (.inr (h.sub x hx)),fun x hx=>?_⟩
  ·rcases(rm x).1 hx with e|e
   ·rw[e];show(zg l node).2.1<=_;rcases hi.p2 with p|⟨y,hy,p⟩
    ·rw[p];omega
    ·rw[p];have:=h.st y hy;omega
   ·have:=h.st x e;omega
  ·rcases(rm x).1 hx with e|e
   ·subst e;have h2:s<=(zg l node).1:=h2;by_cases e:s=(zg l node).1
    ·exact⟨_,hx,rfl,e.symm⟩
    ·rcases hi.s2 with p|⟨y,hy,q,p⟩
     ·omega
     ·obtain⟨z,hz,e1,e2⟩:=h.KZ y hy s h1 (by omega);exact⟨z,(rm z).2 (.inr hz),by rw[e1,q];rfl,e2⟩
   ·obtain⟨z,hz,e1,e2⟩:=h.KZ x e s h1 h2;exact⟨z,(rm z).2 (.inr hz),e1,e2⟩
  ·rcases(rm x).1 hx with e|e
   ·rw[e];exact .inr hS
   ·exact h.new x e
end Go.Fn
set_option linter.unusedSimpArgs false
set_option linter.unusedVariables false
namespace Go.Fn
open Go.R
section
variable {a0 a1:Int} {g:List (List Int)} {s:List Ly}
noncomputable def lg(g:List (List Int))(p q:Int):Int:=Mi g p.toNat q.toNat
end
end Go.Fn
set_option linter.unusedVariables false
set_option linter.unusedSimpArgs false
namespace Go.Fn
open Go.R
section
variable (a0 a1:Int) (g:List (List Int)) (s:List Ly)
abbrev SB:Type:=Bool×Int×List Int×Unit
end
end Go.Fn
set_option linter.unusedVariables false
set_option linter.unusedSimpArgs false
namespace Go.Fn
open Go.R
noncomputable def Kp(L:List KB)(i:Nat):KB:=L.getD i Jq
noncomputable def JS(L:List KB):Prop:=L.length<=1073741824/\∀c,c∈L->c.2.1.length<=1073741824/\c.2.2.length<=1073741824
theorem JS.at{L:List KB}(h:JS L){i:Nat}(hi:i<L.length):(Kp L i).2.1.length<=1073741824/\(Kp L i).2.2.length<=1073741824:=h.2 _ (I5 hi _)
end Go.Fn
set_option linter.unusedVariables false
set_option linter.unusedSimpArgs false
namespace Go.Fn
open Go.R
noncomputable def Sm{α:Type}(P:α->Prop)(x y:Option α):Prop:=∃r,x=some r/\y=some r/\P r
section
variable {α β:Type} {P:α->Prop} {Q:β->Prop}
theorem Sm.ret{a:α}(h:P a):Sm P (some a) (some a):=⟨a,rfl,rfl,h⟩
theorem Sm.bind{x y:Option α}{f g:α->Option β}(hx:Sm P x y)(h:∀r,P r->Sm Q (f r) (g r)):Sm Q (x.bind f) (y.bind g):=by obtain⟨r,rfl,rfl,hr⟩:=hx;exact h r hr
theorem Sm.mono{P':α->Prop}{x y:Option α}(h:Sm P x y)(hp:∀r,P r->P' r):Sm P' x y:=by obtain⟨r,e1,e2,hr⟩:=h;exact⟨r,e1,e2,hp r hr⟩
theorem Sm.symm{x y:Option α}(h:Sm P x y):Sm P y x:=by obtain⟨r,e1,e2,hr⟩:=h;exact⟨r,e2,e1,hr⟩
end
end Go.Fn
set_option linter.unusedVariables false
set_option linter.unusedSimpArgs false
namespace Go.Fn
open Go.R
noncomputable def k3(k:Int):Bool:=af .eql (aa .rem .i64 k 3) 0
end Go.Fn
set_option linter.unusedVariables false
set_option linter.unusedSimpArgs false
namespace Go.Fn
open Go.R
abbrev Wk:=List KQ×List KQ
end Go.Fn
namespace Go.R
open Go.Shelf Go.Proofs
def rZ(n:Int):Bool:=decide (-9223372036854775808<=n)&&decide (n<=9223372036854775807)
end Go.R
set_option linter.unusedVariables false
namespace Go.Fn
open Go.R
noncomputable def IC(a:Int):Option JT:=cond (af .lss a 10) (some (aq .u8 (aa .add .i64 48 a),())) (some (aq .u8 (aa .sub .i64 (aa .add .i64 97 a) 10),()))
noncomputable def vm(a:KD)(b:Int×Kx):Option (Int×Kx⊕Kx⊕Empty):=letI c:=b.2.1;letI d:=az 10;letI e:=aa .rem .i64 b.1 10;letI f:=aa .quo .i64 b.1 10;cond (af .neq b.1 0) (cond d none (cond (af .lss e 0) ((IC (DA .i64 e)).bind fun g=>cond (nL (lU (List.append (α:=Int) ([]:Ko) [g.1])) c) (cond d none (some (.inl (f,ByteArray.append (lU (List.append (α:=Int) ([]:Ko) [g.1])) c,())))) none) ((IC e).bind fun g=>cond (nL (lU (List.append (α:=Int) ([]:Ko) [g.1])) c) (cond d none (some (.inl (f,ByteArray.append (lU (List.append (α:=Int) ([]:Ko) [g.1])) c,())))) none))) (some (.inr (.inl (c,()))))
noncomputable def vn k x:=iter (vm k) big x
noncomputable def IB(a:Int):Option Kx:=letI b:=af .lss a 0;cond (af .eql a 0) (some (ByteArray.mk #[48],())) ((vn (b,()) (a,ByteArray.mk #[],())).bind fun c=>Sum.elim (fun d=>cond b (cond (nL (ByteArray.mk #[45]) d.1) (some (ByteArray.append (ByteArray.mk #[45]) d.1,())) none) (some (d.1,()))) (fun d=>Empty.elim d) c)
noncomputable def strconv_Itoa(a:Int):Option Kx:=cond (rZ a) (some (ByteArray.mk (Lib.itoa a).toArray,())) none
noncomputable def zW(a:Int):Option Kx:=(strconv_Itoa a).bind fun b=>some (b.1,())
end Go.Fn
set_option linter.unusedVariables false
set_option linter.unusedSimpArgs false
namespace Go.Fn
open Go.R
theorem m1:IB (-1)=some (ByteArray.mk #[45,49],()):=by
 unfold IB;have h:iter (vm (true,())) 2 (-1,ByteArray.mk #[],())=some (.inl (ByteArray.mk #[49],())):=by rfl
 have hl:vn (true,()) (-1,ByteArray.mk #[],())=_:=bh h (Nat.le_of_lt (aN (by omega)));rw[show af .eql (-1:Int) 0=false from rfl,show af .lss (-1:Int) 0=true from rfl,hl];rfl
theorem m2:zW (-1)=some (ByteArray.mk #[45,49],()):=by
 unfold zW strconv_Itoa;have:Lib.itoa (-1)=[45,49]:=by have h:=Lib.itoa_neg 1 (Nat.le_refl _);rw[Lib.decDigits_one (by decide)]at h;exact h
 rw[this];rfl
end Go.Fn
namespace Go.R
open Go.Shelf Go.Proofs Go.RowKit Go.Lib
section
variable {P:Program} {ρ:Ren}
noncomputable def Kr(ρ:Ren)(nm:String):Func:={ Body2.n22 ρ with name:=nm }
theorem Bd(ρ:Ren)(nm:String):(Kr ρ nm).ntmps=95:=rfl
structure JC (P:Program) (ρ:Ren) (z:Value) (bytes:Nat):Prop where
 mixed:P.follows .mixedOrders=true
 f22:∃nm, (nm == "runtime.NumGoroutine") = false /\ P.funcs[ρ.f 22]? = some (Kr ρ nm)
 f29:∃fn, P.funcs[ρ.f 29]? = some fn /\ (fn.name == "runtime.NumGoroutine") = false /\ fn.body.isNone = true /\ Extern.findNext fn = none /\ Extern.find fn = some (Extern.SlicesOverlaps.overlaps #[(ρ.t 24), (ρ.t 24)] #[(ρ.t 4)])
 t3:P.underlying (ρ.t 3)=some (TypeDesc.int IntKind.i64)
 a3:∀w,(isAgg (ρ.t 3)).run P w=.ok false w
 z3:∀w,(Go.sizeOf (ρ.t 3)).run P w=.ok 1 w
 v3:∀w,(zeroValue (ρ.t 3)).run P w=.ok (Value.int IntKind.i64 0) w
 t4:P.underlying (ρ.t 4)=some (TypeDesc.bool)
 a4:∀w,(isAgg (ρ.t 4)).run P w=.ok false w
 z4:∀w,(Go.sizeOf (ρ.t 4)).run P w=.ok 1 w
 v4:∀w,(zeroValue (ρ.t 4)).run P w=.ok (Value.bool false) w
 z9:∀w,(Go.sizeOf (ρ.t 9)).run P w=.ok 7 w
 t24:P.underlying (ρ.t 24)=some (TypeDesc.slice (ρ.t 9))
 a24:∀w,(isAgg (ρ.t 24)).run P w=.ok false w
 z24:∀w,(Go.sizeOf (ρ.t 24)).run P w=.ok 1 w
 v24:∀w,(zeroValue (ρ.t 24)).run P w=.ok (Value.slice none 0 0) w
 i9:(P.info? (ρ.t 9)).map (fun i=>(i.zero,i.size,i.bytes))=some (some z,7,bytes)
theorem ID (w:World) (dT sT ty elem:TypeId) (b o dLen dCap:Nat) (a:Addr) (sLen sCap m:Nat) (cs:List Value)
    (hu:P.underlying dT = some (.slice elem)) (hs:(P.info? elem).map (·.size) = some 7) (hm:m = Nat.min sLen dLen) (hn:cs.length = m * 7)
    (hsrc:∀j v, cs[j]? = some v -> w.cell? (a.add j) = some v) (hc:∀j, j<cs.length -> (w.cell? ⟨b, o + j, none⟩).isSome = true) (hf:∀j, j<cs.length -> w.frozen? ⟨b, o + j, none⟩ = false) (h1:∀v ∈ cs, v.oneCell' = true):
    (Builtin.copy_ #[dT, sT] ty #[.slice (some ⟨b, o, none⟩) dLen dCap, .slice (some a) sLen sCap]).run P w = .ok (goInt m) (w.setCells b o cs):=by
  have hl:=run_loadCells_list (P:=P) w a cs hsrc;have hst:=run_storeCells_cells (P:=P) b o cs 0 w (by simpa using hc) (by simpa using hf) h1;cases hq:P.info? elem with
  |none=>simp[hq]at hs
  |some i=>
    have hi:i.size = 7:=by simpa[hq] using hs
    simp[Builtin.copy_, run_underlying hu, Builtin.lenOf, Builtin.firstCells, sizeOf, typeInfo, hq, hi, <- hm, <- hn, hl, hst]
set_option maxHeartbeats 4000000 in
set_option maxRecDepth 100000 in
theorem JL {z:Value} {bytes:Nat} (L:JC P ρ z bytes) (b n c i vb m vc:Nat) (cs vs:List Value) (w:World) (hi:i<n) (hm:0<m) (hroom:n + m <= c) (hc63:n + m <= 9223372036854775807) (hvb:vb ≠ b)
    (jH:cs.length = n * 7) (hvl:vs.length = m * 7)
    (hcs:∀j v, cs[j]? = some v -> w.cell? ⟨b, j, none⟩ = some v) (hsp:∀j, j<(n + m) * 7 -> (w.cell? ⟨b, j, none⟩).isSome = true) (hfz:∀j, w.frozen? ⟨b, j, none⟩ = false)
    (hvs:∀j v, vs[j]? = some v -> w.cell? ⟨vb, j, none⟩ = some v) (h1c:∀v ∈ cs, v.oneCell' = true) (h1v:∀v ∈ vs, v.oneCell' = true)
    (tA tB:TypeId) (kA kB:Nat) (hsa:w.shape? vb = some (tA, kA)) (hsb:w.shape? b = some (tB, kB)) (hkB:kB ≠ 0) (hfa:w.frozen? ⟨vb, 0, none⟩ = false) (FQ:w.frozen? ⟨vb, kA, none⟩ = false):
    Calls P (ρ.f 22) #[.slice (some ⟨b, 0, none⟩) n c, .int .i64 i, .slice (some ⟨vb, 0, none⟩) m vc] w fun e w'=>e = .returned (.slice (some ⟨b, 0, none⟩) (n + m) c) /\ w' = (w.drew.setCells b ((i + m) * 7) (cs.drop (i * 7))).setCells b (i * 7) vs:=by
  have t3:=L.t3; have a3:=L.a3; have z3:=L.z3; have v3:=L.v3; have t4:=L.t4; have a4:=L.a4; have z4:=L.z4; have v4:=L.v4; have z9:=L.z9; have t24:=L.t24; have a24:=L.a24; have z24:=L.z24; have v24:=L.v24;have u3:=run_underlying L.t3; have u4:=run_underlying L.t4; have LV:=run_underlying L.t24;obtain⟨fo, q1, q2, q3, q4, q5⟩:=L.f29;have hz1:¬((m:Int) = 0):=by omega
  have Cb:¬((i:Int) = (n:Int)):=by omega
  have hsz:(P.info? (ρ.t 9)).map (·.size) = some 7:=by obtain⟨i0, hi0, h0, h1, h2⟩:=info_parts L.i9;rw[hi0]; simp[h1]
  have GX:∀lb cb, (callFunc (ρ.f 29) #[.slice (some ⟨vb, 0, none⟩) m vc, .slice (some ⟨b, (i + m) * 7, none⟩) lb cb]).run P w = .ok (.value (.bool false)) w:=fun lb cb=>by
    rw[run_callFunc_extern q1 q2 q3 q4 q5,
      Lib.run_overlaps_apart w (ρ.t 24) (ρ.t 4) (ρ.t 9) L.t24 7 L.z9 ⟨vb, 0, none⟩ ⟨b, (i + m) * 7, none⟩ m vc lb cb hvb tA tB kA kB hsa hsb hkB hfa FQ]
    rfl
  have El:(cs.drop (i * 7)).length = (n-i) * 7:=by rw[List.length_drop, jH]; omega
  have mixed:=L.mixed;have rA:IntKind.i64.wrap ((i:Int) + (m:Int)) = (i:Int) + (m:Int):=by rw[IntKind.wrap_i64]; omega
  have Aj:(0:Int) <= (i:Int) + (m:Int):=by omega
  have hin:i <= n:=by omega
  have htn:((i:Int) + (m:Int)).toNat = i + m:=by omega
  have zq:¬(c = i + m):=by omega
  have FJ:(i:Int) <= (n:Int) + (m:Int):=by omega
  have GI:¬(c = i):=by omega
  have KJ:∀ty dc sc, (Builtin.copy_ #[(ρ.t 24), (ρ.t 24)] ty #[.slice (some ⟨b, (i + m) * 7, none⟩) (n + m-(i + m)) dc, .slice (some ⟨b, i * 7, none⟩) (n + m-i) sc]).run P w.drew = .ok (goInt ((n-i:Nat):Int)) (w.drew.setCells b ((i + m) * 7) (cs.drop (i * 7))):=fun ty dc sc=>
    ID w.drew _ _ ty (ρ.t 9) b ((i + m) * 7) (n + m-(i + m)) dc ⟨b, i * 7, none⟩ (n + m-i) sc (n-i) (cs.drop (i * 7)) L.t24 hsz (by simp only[Nat.min_def]; split <;> omega) El
      (fun j v hj=>by rw[Addr.add_lit]; exact hcs (i * 7 + j) v (by rwa[List.getElem?_drop]at hj))
      (fun j hj=>hsp _ (by omega)) (fun j hj=>hfz _) (fun v hv=>h1c v (List.mem_of_mem_drop hv))
  obtain⟨W1, JR⟩:∃W1, W1 = w.drew.setCells b ((i + m) * 7) (cs.drop (i * 7)):=⟨_, rfl⟩
  have Lp:∀k, k<(n + m) * 7 -> (W1.cell? ⟨b, k, none⟩).isSome = true:=fun k hk=>by rw[JR];exact isSome_setCells b (cs.drop (i * 7)) ((i + m) * 7) w.drew (fun j hj=>hsp _ (by omega)) _ (hsp k hk)
  have Ld:∀(W:World), (∀x, W.cell? x = W1.cell? x) -> (∀x, W.frozen? x = W1.frozen? x) -> ∀ty dc, (Builtin.copy_ #[(ρ.t 24), (ρ.t 24)] ty #[.slice (some ⟨b, i * 7, none⟩) (n + m-i) dc, .slice (some ⟨vb, 0, none⟩) m vc]).run P W = .ok (goInt (m:Int)) (W.setCells b (i * 7) vs):=fun W Kq KH ty dc=>
    ID W _ _ ty (ρ.t 9) b (i * 7) (n + m-i) dc ⟨vb, 0, none⟩ m vc m vs L.t24 hsz (by simp only[Nat.min_def]; split <;> omega) hvl
      (fun j v hj=>by rw[Addr.add_lit, Kq, JR, World.cell?_setCells_out b _ _ _ _ (fun h _=>absurd h hvb), Nat.zero_add];exact hvs j v hj)
      (fun j hj=>by rw[Kq]; exact Lp _ (by omega)) (fun j hj=>by rw[KH, JR, World.frozen?_setCells]; exact hfz _) h1v
  rw[<- JR]at KJ;obtain⟨nm, _, I6⟩:=L.f22
  go_enter I6, Bd ρ nm
  go_wp2_with (simp only[GX])
  go_region_law_o (refine step_copy_runI rfl _ _ (ρ.t 24) (ρ.t 24) rfl _ _ (by simp[Act.eval, Act.put]) (by simp[Act.eval, Act.put]) (KJ _ _ _) ?_)
  go_wp2_with (at_builtin; refine wpList_copy_runI _ rfl _ _ (ρ.t 24) (ρ.t 24) rfl _ _ rfl rfl (Ld _ (fun _=>rfl) (fun _=>rfl) _ _) ?_)
  go_ret
  first|exact⟨rfl, rfl⟩|exact⟨rfl, by rw[JR]⟩
set_option maxHeartbeats 4000000 in
set_option maxRecDepth 100000 in
theorem Kf {z:Value} {bytes:Nat} (L:JC P ρ z bytes) (base:Option Addr) (n c vb m vc:Nat) (w:World) (hm:0<m) (hnc:n<=c) (wm:base=none->n=0) (v0:Value) (w0:World)
  (hrun:∀ty,(Builtin.append_ #[(ρ.t 24),(ρ.t 24)] ty #[.slice base n c,.slice (some ⟨vb,0,none⟩) m vc]).run P w=.ok v0 w0):
  Calls P (ρ.f 22) #[.slice base n c,.int .i64 n,.slice (some ⟨vb,0,none⟩) m vc] w fun e w'=>e=.returned v0/\w'=w0:=by
 have t3:=L.t3;have a3:=L.a3;have z3:=L.z3;have v3:=L.v3;have t4:=L.t4;have a4:=L.a4;have z4:=L.z4;have v4:=L.v4;have z9:=L.z9;have t24:=L.t24;have a24:=L.a24;have z24:=L.z24;have v24:=L.v24;have u3:=run_underlying L.t3;have u4:=run_underlying L.t4;have LV:=run_underlying L.t24;have mixed:=L.mixed;have hz1:¬((m:Int)=0):=by omega
 obtain⟨nm,_,I6⟩:=L.f22
 go_enter I6,Bd ρ nm
 cases base with
 |none=>
  have h0:=wm rfl;subst h0
  go_wp2_with (at_builtin;refine Lib.wpList_append_run _ rfl _ _ _ _ rfl _ _ rfl rfl _ _ (hrun _) ?_)
  go_ret
  exact⟨rfl,rfl⟩
 |some a=>
  obtain⟨ab,ao,Fz⟩:=a
  go_wp2_with (at_builtin;refine Lib.wpList_append_run _ rfl _ _ _ _ rfl _ _ rfl rfl _ _ (hrun _) ?_)
  all_goals (go_ret;exact⟨rfl,rfl⟩)
set_option maxHeartbeats 4000000 in
set_option maxRecDepth 100000 in
theorem J2 {z:Value} {bytes:Nat} (L:JC P ρ z bytes) (KA:z.cells.size = 7) (hby:bytes <= 65536) (b n c i vb m vc:Nat) (cs vs:List Value) (w:World) (hi:i<n) (hm:0<m) (hnc:n <= c) (hroom:c<n + m) (hbig:n + m <= 1073741824)
    (jH:cs.length = n * 7) (hvl:vs.length = m * 7)
    (hcs:∀j v, cs[j]? = some v -> w.cell? ⟨b, j, none⟩ = some v)
    (hvs:∀j v, vs[j]? = some v -> w.cell? ⟨vb, j, none⟩ = some v) (h1c:∀v ∈ cs, v.oneCell' = true) (h1v:∀v ∈ vs, v.oneCell' = true):
    Calls P (ρ.f 22) #[.slice (some ⟨b, 0, none⟩) n c, .int .i64 i, .slice (some ⟨vb, 0, none⟩) m vc] w fun e w'=>
      ∃G:Nat, n + m <= G /\ ∃IQ:Array Value, IQ.size = G * 7 /\ (∀j, j<i * 7 -> IQ[j]? = cs[j]?) /\ e = .returned (.slice (some ⟨w.heap.size, 0, none⟩) (n + m) G) /\
      w' = (((w.alloc (.cells IQ (ρ.t 9))).drew.setCells w.heap.size (i * 7) vs).drew).setCells w.heap.size ((i + m) * 7) (cs.drop (i * 7)):=by
  have t3:=L.t3; have a3:=L.a3; have z3:=L.z3; have v3:=L.v3; have t4:=L.t4; have a4:=L.a4; have z4:=L.z4; have v4:=L.v4; have z9:=L.z9; have t24:=L.t24; have a24:=L.a24; have z24:=L.z24; have v24:=L.v24;have u3:=run_underlying L.t3; have u4:=run_underlying L.t4; have LV:=run_underlying L.t24;have mixed:=L.mixed;obtain⟨i0, hi0, Lt, hzs, KU⟩:=info_parts L.i9;have hz1:¬((m:Int) = 0):=by omega
  have Cb:¬((i:Int) = (n:Int)):=by omega
  have ME:(c:Int)<(n:Int) + (m:Int):=by omega
  have hsz:(P.info? (ρ.t 9)).map (·.size) = some 7:=by rw[hi0]; simp[hzs]
  have Me:b<w.heap.size:=block_lt_of_cell (hcs 0 _ (List.getElem?_eq_getElem (by omega)));have Mg:vb<w.heap.size:=block_lt_of_cell (hvs 0 _ (List.getElem?_eq_getElem (by omega)));have hkk:(n:Int) + (m:Int)-(i:Int) = ((n + m-i:Nat):Int):=by omega
  have Ln:i + (n + m-i) = n + m:=by omega
  have hold:(Builtin.firstCells i0.size i (.slice (some ⟨b, 0, none⟩) i c)).run P w.drew = .ok (cs.take (i * 7)).toArray w.drew:=by
    rw[hzs];exact run_firstCells_some w.drew 7 i ⟨b, 0, none⟩ i c (cs.take (i * 7)) (by rw[List.length_take]; omega) (fun j v hj=>by
      rw[Addr.add_lit, Nat.zero_add];rw[List.getElem?_take]at hj;split at hj
      · exact hcs j v hj
      · cases hj)
  have hfit:Builtin.nextslicecap (n + m) c * i0.bytes <= 281474976710656:=by rw[KU];refine growslice_fits hroom ?_;have h1:(n + m) * bytes <= (n + m) * 65536:=Nat.mul_le_mul_left _ hby;omega
  have BY:(n + m-i) * i0.bytes <= 281474976710656:=by rw[KU];have h1:(n + m-i) * bytes <= (n + m-i) * 65536:=Nat.mul_le_mul_left _ hby;omega
  have KT:∀ty, (Builtin.append_ #[(ρ.t 24), (ρ.t 3)] ty #[.slice (some ⟨b, 0, none⟩) i c, .int .i64 ((n:Int) + (m:Int)-(i:Int))]).run P w =
      .ok (.slice (some ⟨w.heap.size, 0, none⟩) (n + m) (grownCap w (n + m) c (ρ.t 9))) (w.drew.alloc (.cells ((cs.take (i * 7)).toArray ++ Builtin.zeroCells z.cells (n + m-i) ++ Builtin.zeroCells z.cells (grownCap w (n + m) c (ρ.t 9)-(n + m))) (ρ.t 9))):=fun ty=>by
    have h:=Lib.run_append_grow_zeros w (ρ.t 24) (ρ.t 3) ty (ρ.t 9) i0 _ .i64 .i64 L.t24 L.t3 hi0 Lt (some ⟨b, 0, none⟩) i c (cs.take (i * 7)) hold (n + m-i) (by omega) (by omega) (by omega) (by omega) BY (by rw[Ln]; exact hfit);rw[Ln]at h;rw[hkk];exact h
  obtain⟨G, hG⟩:∃G, G = grownCap w (n + m) c (ρ.t 9):=⟨_, rfl⟩
  obtain⟨IQ, Kd⟩:∃IQ:Array Value, IQ = (cs.take (i * 7)).toArray ++ Builtin.zeroCells z.cells (n + m-i) ++ Builtin.zeroCells z.cells (G-(n + m)):=⟨_, rfl⟩
  rw[<- hG]at KT;rw[<- Kd]at KT;have L8:n + m <= G:=by rw[hG]; exact grownCap_ge w _ _ _
  have K3:IQ.size = G * 7:=by rw[Kd];simp[Builtin.zeroCells, KA, List.length_take];omega
  have K2:∀j, j<i * 7 -> IQ[j]? = cs[j]? := fun j hj=>by
    have hlt:j<((cs.take (i * 7)).toArray).size:=by simp[List.length_take]; omega
    rw[Kd, Array.getElem?_append_left (by rw[Array.size_append]; omega), Array.getElem?_append_left hlt, List.getElem?_toArray, List.getElem?_take, if_pos hj]
  have Mb:(n + m) * 7 <= IQ.size:=by omega
  obtain⟨W1, JR⟩:∃W1, W1 = w.drew.alloc (.cells IQ (ρ.t 9)):=⟨_, rfl⟩
  rw[<- JR]at KT;have hN:∀j, j<(n + m) * 7 -> (W1.cell? ⟨w.heap.size, j, none⟩).isSome = true:=fun j hj=>by rw[JR, World.cell?_alloc_at (w:=w.drew) IQ _ w.heap.size j rfl, Array.getElem?_eq_getElem (by omega)]; rfl
  have LU:∀j, W1.frozen? ⟨w.heap.size, j, none⟩ = false:=fun j=>by rw[JR]; exact World.frozen?_alloc_at (w:=w.drew) IQ _ w.heap.size j rfl
  have L9:∀j v, w.cell? ⟨b, j, none⟩ = some v -> W1.cell? ⟨b, j, none⟩ = some v:=fun j v h=>by rw[JR, World.cell?_alloc_past (w:=w.drew) _ b j Me]; exact h
  have Ma:∀j v, w.cell? ⟨vb, j, none⟩ = some v -> W1.cell? ⟨vb, j, none⟩ = some v:=fun j v h=>by rw[JR, World.cell?_alloc_past (w:=w.drew) _ vb j Mg]; exact h
  have Le:∀(W:World), (∀x, W.cell? x = W1.cell? x) -> (∀x, W.frozen? x = W1.frozen? x) -> ∀ty dc, (Builtin.copy_ #[(ρ.t 24), (ρ.t 24)] ty #[.slice (some ⟨w.heap.size, i * 7, none⟩) (n + m-i) dc, .slice (some ⟨vb, 0, none⟩) m vc]).run P W = .ok (goInt (m:Int)) (W.setCells w.heap.size (i * 7) vs):=fun W Kq KH ty dc=>
    ID W _ _ ty (ρ.t 9) w.heap.size (i * 7) (n + m-i) dc ⟨vb, 0, none⟩ m vc m vs L.t24 hsz (by simp only[Nat.min_def]; split <;> omega) hvl
      (fun j v hj=>by rw[Addr.add_lit, Kq, Nat.zero_add]; exact Ma _ v (hvs j v hj))
      (fun j hj=>by rw[Kq]; exact hN _ (by omega)) (fun j hj=>by rw[KH]; exact LU _) h1v
  have L6:G <= 9223372036854775807:=by have:=grownCap_le_maxLen w (n + m) c (ρ.t 9) (by unfold maxLen; omega);rw[<- hG]at this;unfold maxLen at this;omega
  have Mw:¬(G = i):=by omega
  have L7:¬(G = i + m):=by omega
  have Mz:¬(c = i):=by omega
  have Lb:b ≠ w.heap.size:=by omega
  have El:(cs.drop (i * 7)).length = (n-i) * 7:=by rw[List.length_drop, jH]; omega
  have KK:∀(W:World), (∀x, W.cell? x = (W1.setCells w.heap.size (i * 7) vs).cell? x) -> (∀x, W.frozen? x = (W1.setCells w.heap.size (i * 7) vs).frozen? x) -> ∀ty dc sc, (Builtin.copy_ #[(ρ.t 24), (ρ.t 24)] ty #[.slice (some ⟨w.heap.size, (i + m) * 7, none⟩) (n + m-(i + m)) dc, .slice (some ⟨b, i * 7, none⟩) (n-i) sc]).run P W = .ok (goInt ((n-i:Nat):Int)) (W.setCells w.heap.size ((i + m) * 7) (cs.drop (i * 7))):=fun W Kq KH ty dc sc=>
    ID W _ _ ty (ρ.t 9) w.heap.size ((i + m) * 7) (n + m-(i + m)) dc ⟨b, i * 7, none⟩ (n-i) sc (n-i) (cs.drop (i * 7)) L.t24 hsz (by simp only[Nat.min_def]; split <;> omega) El
      (fun j v hj=>by rw[Addr.add_lit, Kq, World.cell?_setCells_out _ _ _ _ _ (fun h _=>absurd h Lb)];exact L9 _ v (hcs (i * 7 + j) v (by rwa[List.getElem?_drop]at hj)))
      (fun j hj=>by rw[Kq]; exact isSome_setCells w.heap.size vs (i * 7) W1 (fun t ht=>hN _ (by omega)) _ (hN _ (by omega)))
      (fun j hj=>by rw[KH, World.frozen?_setCells]; exact LU _) (fun v hv=>h1c v (List.mem_of_mem_drop hv))
  subst JR;have Ed:∀x, ((w.alloc (.cells IQ (ρ.t 9))).drew).cell? x = (w.drew.alloc (.cells IQ (ρ.t 9))).cell? x:=fun x=>rfl;have L4:∀x, ((w.alloc (.cells IQ (ρ.t 9))).drew).frozen? x = (w.drew.alloc (.cells IQ (ρ.t 9))).frozen? x:=fun x=>rfl;have Hs:∀x, (((w.alloc (.cells IQ (ρ.t 9))).drew.setCells w.heap.size (i * 7) vs).drew).cell? x = ((w.drew.alloc (.cells IQ (ρ.t 9))).setCells w.heap.size (i * 7) vs).cell? x:=fun x=>rfl;have L5:∀x, (((w.alloc (.cells IQ (ρ.t 9))).drew.setCells w.heap.size (i * 7) vs).drew).frozen? x = ((w.drew.alloc (.cells IQ (ρ.t 9))).setCells w.heap.size (i * 7) vs).frozen? x:=fun x=>rfl;have rA:IntKind.i64.wrap ((i:Int) + (m:Int)) = (i:Int) + (m:Int):=by rw[IntKind.wrap_i64]; omega
  have Aj:(0:Int) <= (i:Int) + (m:Int):=by omega
  have hin:i <= n:=by omega
  have htn:((i:Int) + (m:Int)).toNat = i + m:=by omega
  have FJ:(i:Int) <= (n:Int):=by omega
  clear hkk Ln hold Kd hG Mb hfit BY;obtain⟨nm, _, I6⟩:=L.f22
  go_enter I6, Bd ρ nm
  go_wp2_with (first
    |(at_builtin; refine Lib.wpList_append_run _ rfl _ _ _ _ rfl _ _ rfl rfl _ _ (KT _) ?_)
    |(at_builtin; refine wpList_copy_runI _ rfl _ _ (ρ.t 24) (ρ.t 24) rfl _ _ rfl rfl (Le _ Ed L4 _ _) ?_)
    |(at_builtin; refine wpList_copy_runI _ rfl _ _ (ρ.t 24) (ρ.t 24) rfl _ _ rfl rfl (KK _ (fun _=>rfl) (fun _=>rfl) _ _ _) ?_))
  go_region_law_o (refine step_copy_runI rfl _ _ (ρ.t 24) (ρ.t 24) rfl (.slice (some ⟨w.heap.size, (i + m) * 7, none⟩) (n + m-(i + m)) (G-(i + m))) (.slice (some ⟨b, i * 7, none⟩) (n-i) (c-i)) (by simp[Act.eval, Act.put]) (by simp[Act.eval, Act.put]) (KK _ Hs L5 (ρ.t 3) (G-(i + m)) (c-i)) ?_)
  go_wp2
  go_ret
  exact⟨G, L8, IQ, K3, K2, rfl, rfl⟩
end
end Go.R
set_option linter.unusedVariables false
namespace Go.R
open Go.Shelf Go.Proofs
def Mk(P:Program)(e:TypeId):Value:=((P.info? e).bind (·.zero)).getD default
def LZ(P:Program)(e:TypeId):Nat:=((P.info? e).map (·.bytes)).getD 0
def Jn{α:Type}(l:List α)(i:Int)(v:List α):List α:=l.take i.toNat++(v++l.drop i.toNat)
def Jp{α:Type}(l:List α)(i:Int)(v:List α):Bool:=decide (0<=i)&&(decide (i.toNat<=l.length)&&(decide (v.length=1)&&decide (l.length+1<=1073741824)))
theorem J4{α:Type}{l:List α}{i:Int}{v:List α}(h:Jp l i v=true):0<=i/\i.toNat<=l.length/\v.length=1/\l.length+1<=1073741824:=by unfold Jp at h;simp only[Bool.and_eq_true,decide_eq_true_eq]at h;exact h
def Jj(e:Nat)(cs:aK):ij:=⟨false,[.one (.arr e cs false),.one (.val (.int .i64)),.one (.arr e cs false)],[.one (.arr e cs false)],fun x=>bif Jp (α:=cs.T) x.1 x.2.1 x.2.2.1 then some (Jn (α:=cs.T) x.1 x.2.1 x.2.2.1,())else none⟩
section
variable {P:Program} {ρ:Ren} {w:World} {ω:aJ}
def r7(ω:aJ)(bN:Nat):aJ:=fun b=>if b=bN then some (4,[])else match ω b with
 |some (0,q)=>some (0,q)
 |_=>none
theorem B1{bN b:Nat}{k:Key}(h:r7 ω bN b=some k):(b=bN/\k=(4,[]))\/(b≠bN/\∃q,k=(0,q)/\ω b=some (0,q)):=by
 unfold r7 at h;split at h
 ·rename_i e;injection h with h;exact .inl ⟨e,h.symm⟩
 ·rename_i e;split at h
  ·rename_i q e';injection h with h;exact .inr ⟨e,q,h.symm,e'⟩
  ·cases h
theorem Jh{bN b:Nat}(hb:b≠bN)(h:jV ω b):r7 ω bN b=ω b:=by unfold r7;rw[if_neg hb];rcases h with h|⟨q,h⟩ <;> simp only[h]
theorem Ji {w':World} (hinj:∀b b' k,ω b=some k->ω b'=some k->b=b') (hdom:∀b k,ω b=some k->b<w.heap.size) (e:Nat) (cs:aK) (bN c':Nat) (bW:Array Value) (z:List cs.T)
  (h1:w'.os=w.os) (h2:w'.tape=w.tape) (h3:w'.output=w.output) (hsize:w.heap.size<=w'.heap.size) (hkeep:∀b,b≠bN->b<w.heap.size->w'.heap[b]? = w.heap[b]?)
  (Lb:ω bN=some (1,[])\/w.heap.size<=bN) (hh:w'.heap[bN]? = some (.cells bW e (0,0))) (hs:bW.size=c'*cs.len) (Mh:z.length<=c')
  (hel:∀i,i<z.length->cs.R w ω (fun _=>.cB) (fun j=>bW[i*cs.len+j]?) 0 (z.getD i (lB cs))):
  dr ω w (r7 ω bN) w'/\(∀b k,r7 ω bN b=some k->b<w'.heap.size)/\(∀b b' k,r7 ω bN b=some k->r7 ω bN b'=some k->b=b')/\(Ty.sl e cs).R w' (r7 ω bN) (.flat (4,[])) (.slice (some ⟨bN,0,none⟩) z.length c') z:=by
 have hne:∀b,b<w.heap.size->jV ω b->b≠bN:=fun b hlt hf he=>by
  subst he;rcases Lb with h|h
  ·exact hf.ne h (by decide)
  ·omega
 have hE:dr ω w (r7 ω bN) w':=⟨h1,h2,h3,hsize,fun b hlt hf=>⟨hkeep b (hne b hlt hf) hlt,Jh (hne b hlt hf) hf⟩⟩
 refine⟨hE,fun b k hk=>?_,fun b b' k hk hk'=>?_,?_⟩
 ·rcases B1 hk with ⟨rfl,_⟩|⟨_,q,_,ho⟩
  ·exact bB hh
  ·exact Nat.lt_of_lt_of_le (hdom b _ ho) hsize
 ·rcases B1 hk with ⟨rfl,e1⟩|⟨_,q,e1,ho⟩ <;> rcases B1 hk' with ⟨rfl,e2⟩|⟨_,q',e2,cU⟩
  ·rfl
  ·rw[e1]at e2;injection e2 with e2 _;cases e2
  ·rw[e1]at e2;injection e2 with e2 _;cases e2
  ·rw[e1]at e2;injection e2 with _ e2;subst e2;exact hinj b b' _ ho cU
 ·refine⟨some ⟨bN,0,none⟩,z.length,c',rfl,rfl,Mh,.inr ⟨bN,bW,rfl,hh,hs,by unfold r7;rw[if_pos rfl]⟩,fun i ad hi had=>?_⟩;injection had with had
  subst had;refine aK.cG hE.size cs _ _ _ 0 _ (fun _=>hE.keeps) (fun j=>?_) (hel i hi);show w'.cell? ⟨bN,0+i*cs.len+j,none⟩=_;rw[Nat.zero_add];exact cell_of_row w' bN _ bW e (0,0) hh
theorem Jd{e:Nat}{cs:aK}{kk:Key}{v:Value}{x:List cs.T}(h:(Ty.sl e cs).R w ω (.flat kk) v x):∃(ad:Option Addr) (cp:Nat) (rows:List Value),v=.slice ad x.length cp/\x.length<=cp/\rows.length=x.length*cs.len/\(∀u∈rows,u.oneCell'=true) /\
  ((cp=0/\x.length=0)\/∃b arr,ad=some ⟨b,0,none⟩/\w.heap[b]? = some (.cells arr e (0,0))/\arr.size=cp*cs.len/\ω b=some kk/\∀j u,rows[j]? = some u->w.cell? ⟨b,j,none⟩=some u) /\
  ∀i,i<x.length->cs.R w ω (fun _=>.cB) (fun j=>rows[i*cs.len+j]?) 0 (x.getD i (lB cs)):=by
 obtain⟨ad,n,cp,e1,e2,e3,e4,e5⟩:=h;subst e2;rcases e4 with e4|⟨b,arr,f1,f2,f3,f4⟩
 ·exact⟨ad,cp,[],e1,e3,by rw[e4.2];simp,by simp,.inl e4,fun i hi=>absurd hi (by omega)⟩
 ·obtain⟨rows,g1,g2⟩:=nN (w:=w) (b:=b) (off:=0) (m:=cs.len) x.length (fun i hi=>by
   obtain⟨us,u1,u2⟩:=aK.zG cs _ _ 0 _ (e5 i _ hi f1);exact⟨us,u1,fun k u hu=>by have:=u2 k u hu;simpa using this⟩)
  refine⟨ad,cp,rows,e1,e3,g1,fun u hu=>?_,.inr ⟨b,arr,f1,f2,f3,f4,fun j u hu=>by have:=(g2 j u hu).1;simpa using this⟩,fun i hi=>?_⟩
  ·obtain⟨k,hk,rfl⟩:=List.getElem_of_mem hu;exact(g2 k _ (List.getElem?_eq_getElem hk)).2
  ·refine aK.fy cs _ _ _ 0 _ (fun j hj=>?_) (e5 i _ hi f1);rw[Nat.zero_add];have hlt:i*cs.len+j<rows.length:=by rw[g1];exact hJ hi hj (Nat.le_refl _)
   have:=(g2 _ _ (List.getElem?_eq_getElem hlt)).1;rw[List.getElem?_eq_getElem hlt,<-this,Nat.zero_add,Nat.zero_add]
theorem JP{cs:aK}{x:List cs.T}{rows:List Value}{i:Nat}(hi:i<=x.length)(h:∀k,k<x.length->cs.R w ω (fun _=>.cB) (fun j=>rows[k*cs.len+j]?) 0 (x.getD k (lB cs))):
  ∀k,k<(x.take i).length->cs.R w ω (fun _=>.cB) (fun j=>(rows.take (i*cs.len))[k*cs.len+j]?) 0 ((x.take i).getD k (lB cs)):=by
 intro k hk;rw[List.length_take]at hk;have cQ:k<i:=by omega
 rw[List.getD_eq_getElem?_getD,List.getElem?_take_of_lt cQ,<-List.getD_eq_getElem?_getD];refine aK.fy cs _ _ _ 0 _ (fun j hj=>?_) (h k (by omega));rw[Nat.zero_add,List.getElem?_take_of_lt (hJ cQ hj (Nat.le_refl _))]
theorem JF{cs:aK}{x:List cs.T}{rows:List Value}{i:Nat}(h:∀k,k<x.length->cs.R w ω (fun _=>.cB) (fun j=>rows[k*cs.len+j]?) 0 (x.getD k (lB cs))):
  ∀k,k<(x.drop i).length->cs.R w ω (fun _=>.cB) (fun j=>(rows.drop (i*cs.len))[k*cs.len+j]?) 0 ((x.drop i).getD k (lB cs)):=by
 intro k hk;rw[List.length_drop]at hk;rw[List.getD_eq_getElem?_getD,List.getElem?_drop,<-List.getD_eq_getElem?_getD];refine aK.fy cs _ _ _ 0 _ (fun j hj=>?_) (h (i+k) (by omega));rw[Nat.zero_add,List.getElem?_drop];congr 1;rw[Nat.add_mul];omega
theorem I8 {cs:aK} {x y:List cs.T} {rx ry:List Value} {i:Nat} (hi:i<=x.length) (JV:rx.length=x.length*cs.len) (HQ:ry.length=y.length*cs.len)
  (hx:∀k,k<x.length->cs.R w ω (fun _=>.cB) (fun j=>rx[k*cs.len+j]?) 0 (x.getD k (lB cs)))
  (hy:∀k,k<y.length->cs.R w ω (fun _=>.cB) (fun j=>ry[k*cs.len+j]?) 0 (y.getD k (lB cs)))
  {bW:Array Value} (hr:∀j,j<(x.length+y.length)*cs.len->bW[j]? = (rx.take (i*cs.len)++(ry++rx.drop (i*cs.len)))[j]?):
  ∀k,k<(x.take i++(y++x.drop i)).length->cs.R w ω (fun _=>.cB) (fun j=>bW[k*cs.len+j]?) 0 ((x.take i++(y++x.drop i)).getD k (lB cs)):=by
 have pP:i*cs.len<=rx.length:=by rw[JV];exact Nat.mul_le_mul_right _ hi
 have El:(rx.drop (i*cs.len)).length=(x.drop i).length*cs.len:=by rw[List.length_drop,List.length_drop,JV,Nat.sub_mul]
 have wq:(rx.take (i*cs.len)).length=(x.take i).length*cs.len:=by rw[List.length_take,List.length_take,Nat.min_eq_left pP,Nat.min_eq_left hi]
 have h2:=uk (row:=fun j=>(ry++rx.drop (i*cs.len))[j]?) HQ El hy (JF (i:=i) hx) (fun j _=>rfl);have hlen:(x.take i).length+(y++x.drop i).length=x.length+y.length:=by rw[List.length_append,List.length_take,List.length_drop,Nat.min_eq_left hi];omega
 refine uk (row:=fun j=>bW[j]?) wq ?_ (JP hi hx) h2 (fun j hj=>?_)
 ·rw[List.length_append,List.length_append,HQ,El,Nat.add_mul]
 ·rw[hlen]at hj;exact hr j hj
theorem I2{bW arr:Array Value}{vs:List Value}{o:Nat}(h:bW.toList=arr.toList.take o++vs++arr.toList.drop (o+vs.length))(ho:o+vs.length<=arr.size):
  bW.size=arr.size/\(∀j,j<o->bW[j]? = arr[j]?)/\(∀j,o<=j->j<o+vs.length->bW[j]? = vs[j-o]?)/\∀j,o+vs.length<=j->bW[j]? = arr[j]?:=by
 have wq:(arr.toList.take o).length=o:=by rw[List.length_take,Array.length_toList];omega
 refine⟨?_,fun j hj=>?_,fun j h1 h2=>?_,fun j hj=>?_⟩
 ·have e1:arr.toList.length=arr.size:=Array.length_toList;rw[<-Array.length_toList,h,List.length_append,List.length_append,wq,List.length_drop];omega
 ·rw[<-Array.getElem?_toList,h,List.append_assoc,List.getElem?_append_left (by omega),List.getElem?_take_of_lt hj,Array.getElem?_toList]
 ·rw[<-Array.getElem?_toList,h,List.append_assoc,List.getElem?_append_right (by omega),wq,List.getElem?_append_left (by omega)]
 ·rw[<-Array.getElem?_toList,h,List.getElem?_append_right (by rw[List.length_append,wq];omega),List.length_append,wq,List.getElem?_drop,<-Array.getElem?_toList];congr 1;omega
theorem J1 {z:Value} {bytes:Nat} (L:JC P ρ z bytes) (KA:z.cells.size=7) (hby:bytes<=65536) {cs:aK} (I1:cs.len=7)
  (hinj:∀b b' k,ω b=some k->ω b'=some k->b=b') (hdom:∀b k,ω b=some k->b<w.heap.size) (x y:List cs.T) (i:Nat) (hi:i<=x.length) (hy:y.length=1) (l8:x.length+1<=1073741824) (u1 u3:Value)
  (B6:(Ty.sl (ρ.t 9) cs).R w ω (.flat (1,[])) u1 x) (Lo:(Ty.sl (ρ.t 9) cs).R w ω (.flat (3,[])) u3 y):
  Calls P (ρ.f 22) #[u1,.int .i64 i,u3] w fun ex w'=>∃v aI,ex=.returned v/\dr ω w aI w'/\(∀b k,aI b=some k->b<w'.heap.size)/\(∀b b' k,aI b=some k->aI b'=some k->b=b') /\
   (Ty.sl (ρ.t 9) cs).R w' aI (.flat (4,[])) v (x.take i++(y++x.drop i)):=by
 obtain⟨ad,c,rx,rfl,hnc,JV,LS,KS,AE⟩:=Jd B6;obtain⟨Mp,c3,ry,rfl,Mf,HQ,K0,Lc,Ls⟩:=Jd Lo;obtain⟨i0,hi0,Lt,hzs,KU⟩:=info_parts L.i9;rcases Lc with h|⟨vb,LY,rfl,Lr,hvs,Kz,HU⟩
 ·omega
 have hlen:(x.take i++(y++x.drop i)).length=x.length+y.length:=by rw[List.length_append,List.length_append,List.length_take,List.length_drop,Nat.min_eq_left hi];omega
 have hsrc:Src P i0.size (ρ.t 24) (.slice (some ⟨vb,0,none⟩) y.length c3) y.length ry w:=by rw[hzs];refine Src.ofSlice w L.t24 ⟨vb,0,none⟩ y.length c3 ry (by rw[HQ,I1]) (fun j u hj=>?_) K0;rw[Addr.add_lit,Nat.zero_add];exact HU j u hj
 rcases Nat.lt_or_ge i x.length with hlt|hge
 ·-- i < len
  rcases KS with h|⟨b,arr,rfl,hh,has,KI,Da⟩
  ·omega
  have hvb:vb≠b:=fun h=>by subst h;rw[KI]at Kz;injection Kz with Kz;injection Kz with Kz _;cases Kz
  have My:=bB hh;by_cases hroom:x.length+y.length<=c
  ·have hal:∀j,w.cell? ⟨b,j,none⟩=arr[j]?:=fun j=>cell_of_row w b j arr _ (0,0) hh;have hfit:(x.length+y.length)*7<=arr.size:=by rw[has,I1];exact Nat.mul_le_mul_right _ hroom
   refine(JL L b x.length c i vb y.length c3 rx ry w hlt (by omega) hroom (by omega) hvb (by rw[JV,I1]) (by rw[HQ,I1]) Da (fun j hj=>by rw[hal,Array.getElem?_eq_getElem (by omega)];rfl) (fun j=>by simp[World.frozen?,hh]) HU LS K0
    (ρ.t 9) (ρ.t 9) LY.size arr.size (by unfold World.shape?;rw[Lr]) (by unfold World.shape?;rw[hh]) (by omega) (by simp[World.frozen?,Lr]) (by simp[World.frozen?,Lr])).mono ?_
   rintro ex w' ⟨rfl,rfl⟩;have JW:rx.length=x.length*7:=by rw[JV,I1]
   have KL:ry.length=y.length*7:=by rw[HQ,I1]
   have El:(rx.drop (i*7)).length=(x.length-i)*7:=by rw[List.length_drop,JW];omega
   obtain⟨eJ,g1,g2⟩:=ee b (ρ.t 9) (0,0) (rx.drop (i*7)) ((i+y.length)*7) w.drew arr hh (by omega);obtain⟨k1,k2,k3,_⟩:=I2 g2 (by omega);obtain⟨D1,g3,g4⟩:=ee b (ρ.t 9) (0,0) ry (i*7) _ eJ g1 (by omega);obtain⟨m1,m2,m3,m4⟩:=I2 g4 (by omega);have hp:=(dV b (rx.drop (i*7)) ((i+y.length)*7) w.drew).trans (dV b ry (i*7) _);have gV:=Ji (w':=(w.drew.setCells b ((i+y.length)*7) (rx.drop (i*7))).setCells b (i*7) ry) hinj hdom (ρ.t 9) cs b c D1 (x.take i++(y++x.drop i)) hp.os hp.tape hp.output (by rw[hp.size];exact Nat.le_refl _) (fun b' hb' _=>hp.block b' hb') (.inl KI) g3 (by rw[m1,k1,has]) (by rw[hlen];exact hroom)
    (I8 hi JV HQ AE Ls (fun j hj=>?_))
   ·rw[hlen]at gV;exact⟨_,_,rfl,gV.1,gV.2.1,gV.2.2.1,gV.2.2.2⟩
   ·have hj:j<(x.length+y.length)*7:=by rw[I1]at hj;exact hj
    have wq:(rx.take (i*7)).length=i*7:=by rw[List.length_take];omega
    rw[I1];rcases Nat.lt_or_ge j (i*7)with h|h
    ·rw[m2 j h,k2 j (by omega),List.getElem?_append_left (by omega),List.getElem?_take_of_lt h,<-hal,List.getElem?_eq_getElem (by omega)];exact Da j _ (List.getElem?_eq_getElem (by omega))
    ·rcases Nat.lt_or_ge j (i*7+ry.length)with h'|h'
     ·rw[m3 j h h',List.getElem?_append_right (by omega),List.getElem?_append_left (by omega),wq]
     ·rw[m4 j h',k3 j (by omega) (by omega),List.getElem?_append_right (by omega),List.getElem?_append_right (by omega),wq];congr 1;omega
  ·refine(J2 L KA hby b x.length c i vb y.length c3 rx ry w hlt (by omega) hnc (by omega) (by omega) (by rw[JV,I1]) (by rw[HQ,I1]) Da HU LS K0).mono ?_;rintro ex w' ⟨G,hG,IQ,K3,K2,rfl,hw'⟩;have JW:rx.length=x.length*7:=by rw[JV,I1]
   have KL:ry.length=y.length*7:=by rw[HQ,I1]
   have El:(rx.drop (i*7)).length=(x.length-i)*7:=by rw[List.length_drop,JW];omega
   have KG:eO w (w.alloc (.cells IQ (ρ.t 9))).drew:=(eO.alloc w _).trans (eO.drew _);have Et:(w.alloc (.cells IQ (ρ.t 9))).drew.heap[w.heap.size]? = some (.cells IQ (ρ.t 9) (0,0)):=heap_alloc_new w _;obtain⟨eJ,g1,g2⟩:=ee w.heap.size (ρ.t 9) (0,0) ry (i*7) _ IQ Et (by omega);obtain⟨k1,k2,k3,_⟩:=I2 g2 (by omega);have CC:((w.alloc (.cells IQ (ρ.t 9))).drew.setCells w.heap.size (i*7) ry).drew.heap[w.heap.size]? = some (.cells eJ (ρ.t 9) (0,0)):=g1;obtain⟨D1,g3,g4⟩:=ee w.heap.size (ρ.t 9) (0,0) (rx.drop (i*7)) ((i+y.length)*7) _ eJ CC (by omega);obtain⟨m1,m2,m3,m4⟩:=I2 g4 (by omega);have hp1:=dV w.heap.size ry (i*7) (w.alloc (.cells IQ (ρ.t 9))).drew;have hp2:=dV w.heap.size (rx.drop (i*7)) ((i+y.length)*7) ((w.alloc (.cells IQ (ρ.t 9))).drew.setCells w.heap.size (i*7) ry).drew;rw[<-hw']at g3 hp2;have gV:=Ji (w':=w') hinj hdom (ρ.t 9) cs w.heap.size G D1 (x.take i++(y++x.drop i)) (hp2.os.trans (hp1.os.trans KG.os)) (hp2.tape.trans (hp1.tape.trans KG.tape)) (hp2.output.trans (hp1.output.trans KG.output))
    (by rw[hp2.size];exact Nat.le_trans KG.size (Nat.le_of_eq hp1.size.symm)) (fun b' hb' FY=>(hp2.block b' hb').trans ((hp1.block b' hb').trans (KG.block b' FY))) (.inr (Nat.le_refl _)) g3 (by rw[m1,k1,K3,I1]) (by rw[hlen];exact hG)
    (I8 hi JV HQ AE Ls (fun j hj=>?_))
   ·rw[hlen]at gV;exact⟨_,_,rfl,gV.1,gV.2.1,gV.2.2.1,gV.2.2.2⟩
   ·have hj:j<(x.length+y.length)*7:=by rw[I1]at hj;exact hj
    have wq:(rx.take (i*7)).length=i*7:=by rw[List.length_take];omega
    rw[I1];rcases Nat.lt_or_ge j (i*7)with h|h
    ·rw[m2 j (by omega),k2 j h,K2 j h,List.getElem?_append_left (by omega),List.getElem?_take_of_lt h]
    ·rcases Nat.lt_or_ge j (i*7+ry.length)with h'|h'
     ·rw[m2 j (by omega),k3 j h h',List.getElem?_append_right (by omega),List.getElem?_append_left (by omega),wq]
     ·rw[m3 j (by omega) (by omega),List.getElem?_append_right (by omega),List.getElem?_append_right (by omega),wq];congr 1;omega
 ·-- append
  have hin:i=x.length:=by omega
  subst hin;have JW:rx.length=x.length*7:=by rw[JV,I1]
  have KL:ry.length=y.length*7:=by rw[HQ,I1]
  have hx0:(∃xU,Value.slice ad x.length c=.slice xU 0 0/\x.length=0)\/∃b c' arr,Value.slice ad x.length c=.slice (some ⟨b,0,none⟩) x.length c'/\x.length<=c'/\w.heap[b]? = some (.cells arr (ρ.t 9) (0,0))/\arr.size=c'*cs.len/\ω b=some (1,[]):=by
   rcases KS with ⟨h1,h2⟩|⟨b,arr,rfl,hh,has,KI,Da⟩
   ·exact .inl ⟨ad,by rw[h1,h2],h2⟩
   ·exact .inr ⟨b,c,arr,rfl,hnc,hh,has,KI⟩
  obtain⟨v,w',hrun,hres⟩:=vQ (P:=P) (w:=w) (B:=fun b=>ω b=some (1,[])) (cs:=cs) (ty:=0) (t:=ρ.t 24) (t':=ρ.t 24) L.t24 hi0 Lt (by rw[hzs,I1]) (by rw[KA,I1]) (by rw[KU];exact hby) hx0 hsrc (by omega);rcases hres with ⟨_,_,_,_,h0⟩|⟨b0,c',bW,olds,rfl,eo,rz,La,ng,hel,hold,⟨o1,o2,o3⟩,pV,hkeep,hb0,hB⟩
  ·omega
  ·refine(Kf L ad x.length c vb y.length c3 w (by omega) hnc ?_ _ _ (fun ty=>hrun)).mono ?_
   ·rintro rfl;rcases KS with ⟨_,h2⟩|⟨b,arr,h,_⟩
    ·exact h2
    ·cases h
   ·rintro ex w'' ⟨rfl,rfl⟩;have gV:=Ji (w':=w'') hinj hdom (ρ.t 9) cs b0 c' bW (x.take x.length++(y++x.drop x.length)) o1 o2 o3 pV hkeep (by
     rcases Nat.lt_or_ge b0 w.heap.size with h|h
     ·exact .inl (hB h)
     ·exact .inr h) rz La (by rw[hlen];exact eo) (I8 hi JV HQ AE Ls (fun j hj=>?_))
    ·rw[hlen]at gV;exact⟨_,_,rfl,gV.1,gV.2.1,gV.2.2.1,gV.2.2.2⟩
    ·rw[hel j hj,I1,List.take_of_length_le (by omega),List.drop_eq_nil_of_le (by omega),List.append_nil];rw[I1]at hj ng;rcases Nat.lt_or_ge j (x.length*7)with h|h
     ·rw[List.getElem?_append_left (by omega),List.getElem?_append_left (by omega)];rcases KS with ⟨_,h2⟩|⟨b,arr,rfl,hh,has,KI,Da⟩
      ·omega
      ·rw[hold b c rfl j (by rw[I1];exact h),List.getElem?_eq_getElem (by omega)];exact Da j _ (List.getElem?_eq_getElem (by omega))
     ·rw[List.getElem?_append_right (by omega),List.getElem?_append_right (by omega),ng,JW]
theorem JM{z:Value}{bytes:Nat}(L:JC P ρ z bytes)(KA:Nat.beq z.cells.size 7=true)(hby:Nat.ble bytes 65536=true){e:Nat}(he:e=ρ.t 9){cs:aK}(I1:Nat.beq cs.len 7=true):eA P (ρ.f 22) (Jj e cs):=by
 subst he;obtain⟨nm,hnm,I6⟩:=L.f22;refine⟨⟨_,_,I6,hnm,rfl⟩,?_⟩;intro w ω us x y _ hinj hdom hsh hfn;obtain⟨x1,i,x3,u0⟩:=x;have hfn:(bif Jp (α:=cs.T) x1 i x3 then some (Jn (α:=cs.T) x1 i x3,())else none)=some y:=hfn;cases l8:Jp (α:=cs.T) x1 i x3 with
 |false=>rw[l8]at hfn;cases hfn
 |true=>
  rw[l8]at hfn;injection hfn with hfn
  subst hfn;obtain⟨h0,hi,hy,hl⟩:=J4 l8;match us,hsh with
  | [u1,u2,u3],hsh=>
  obtain⟨_,⟨v1,xw,B6⟩,_,⟨v2,F8,pU⟩,_,⟨v3,Lq,Lo⟩,_⟩:=hsh;injection xw with xw _
  subst xw;injection F8 with F8 _
  subst F8;injection Lq with Lq _
  subst Lq;have pU:u2=.int .i64 i:=pU;subst pU;obtain⟨n,rfl⟩:=Int.eq_ofNat_of_zero_le h0;refine(J1 L (Nat.eq_of_beq_eq_true KA) (Nat.le_of_ble_eq_true hby) (Nat.eq_of_beq_eq_true I1) hinj hdom x1 x3 n hi hy hl u1 u3 B6 Lo).mono ?_;rintro ex w' ⟨v,aI,rfl,h1,h2,h3,h4⟩;exact⟨v,aI,rfl,h1,h3,h2,⟨rfl,⟨_,rfl,h4⟩⟩,⟨(fun h=>by cases h),rfl,rfl⟩⟩
end
end Go.R
set_option linter.unusedVariables false
namespace Go.Fn
open Go.R
noncomputable def bu(a:IJ)(b:Int)(c:IJ):Option Kb:=cond (Jp a b c) (some (Jn a b c,())) none
noncomputable def ga(a:IJ×Int×Ky)(b:KY):LK:=letI c:=b.2.1;letI d:=b.2.2.2;letI e:=b.2.2.1;letI f:=d.2.1;letI g:=d.2.2.2;letI h:=d.2.2.1;letI i:=g.2.1;letI j:=g.2.2.2.1;letI k:=aa .add .i64 j 1;letI l:=ae aS a.2.2.1 j;letI m:=af .leq l.1 a.2.1;letI n:=aa .add .i64 l.2.1 1;letI o:=aa .add .i64 l.2.2.1 1;cond (af .lss j a.2.2.2.1) (cond (ah a.2.2.1 j) (cond (af .eql l.1 a.2.1) (cond m (some (.inl (b.1,c,bK true e n,bK true d.1 o,f,h,g.1,i,k,k,()))) (some (.inl (b.1,c,bK true e n,bK true d.1 o,f,h,g.1,i,g.2.2.1,k,())))) (cond m (some (.inl (b.1,c,e,bK true d.1 o,f,h,g.1,i,k,k,()))) (some (.inl (b.1,c,e,bK true d.1 o,f,h,g.1,i,g.2.2.1,k,()))))) none) (some (.inr (.inl (b.1,c,e,d.1,f,h,g.1,i,g.2.2.1,()))))
noncomputable def jn k x:=iter (ga k) big x
noncomputable def gI(a:IJ)(b c d e f:Int):Option (IJ×KD):=(bf a).bind fun g=>(fe a).bind fun h=>cond (Bool.not h.1) (some (g.1,false,())) ((jn (a,b,a,ai a,()) (g.1,b,1,1,c,d,e,f,0,0,())).bind fun i=>Sum.elim (fun j=>(bf a).bind fun k=>letI l:=j.2.2.2.2;(bu k.1 l.2.2.2.2.1 (List.append (α:=IZ) ([]:IJ) [(j.2.1,j.2.2.1,j.2.2.2.1,l.1,l.2.1,l.2.2.1,l.2.2.2.1)])).bind fun m=>(fe m.1).bind fun n=>cond (Bool.not n.1) (some (j.1,false,())) (some (m.1,true,()))) (fun j=>Empty.elim j) i)
noncomputable def fq(a:IJ)(b c d e f:Int):J9:=(k6 a 1048576).bind fun g=>letI h:=lc a;letI i:=some (true,());cond (af .lss g.1 0) i (h.bind fun j=>(lj j.1 b c d e f).bind fun k=>h.bind fun l=>(gI l.1 b c d e f).bind fun m=>(b8 m.1 k.1).bind fun n=>letI o:=some (false,());letI p:=Bool.not (bT m.2.1 k.2.1);cond (Bool.not n.1) o (cond p o (h.bind fun q=>(b8 l.1 q.1).bind fun r=>cond (Bool.not r.1) o ((e8 l.1 1).bind fun s=>cond (af .lss s.1 0) o ((b8 m.1 k.1).bind fun t=>cond (Bool.not t.1) o (cond p o ((e8 m.1 1).bind fun u=>(ek u.2.1 1).bind fun v=>cond (af .lss v.1 0) o (cond (af .neq v.1 u.1) o (h.bind fun w=>(gI w.1 b c d e f).bind fun x=>(b8 x.1 k.1).bind fun y=>cond (Bool.not y.1) o (cond (Bool.not (bT x.2.1 k.2.1)) o ((ek u.2.1 1).bind fun z=>cond (af .lss z.1 0) o (cond (af .neq z.1 u.1) o i))))))))))))
end Go.Fn
set_option linter.unusedVariables false
namespace Go.Fn
open Go.R
noncomputable def I7(node:Int)(s:Int×Int×Nat×Nat)(x:Ev):Int×Int×Nat×Nat:=((bif decide (x.1=node)then max s.1 (x.2.1+1)else s.1),max s.2.1 (x.2.2.1+1),(bif decide (x.1<=node)then s.2.2.2+1 else s.2.2.1),s.2.2.2+1)
theorem JY{node:Int}{p:List Ev}{s:Int×Int×Nat×Nat}{x:Ev}(h:Jr node p s)(hp:Kn (p++[x]))(he:xn x=true):I7 node s x=ze node s x:=by
 unfold I7 ze;by_cases hx:x.1=node
 ·have hlt:s.1<=x.2.1+1:=by
   rcases h.s2 with h1|⟨y,hy,h1,h2⟩
   ·have:=I4.1 he;omega
   ·have:=(List.pairwise_append.1 hp).2.2 y hy x (List.mem_singleton.2 rfl);rw[zc]at this;omega
  rw[decide_eq_true hx,cond_true,cond_true,Int.max_eq_right hlt]
 ·rw[decide_eq_false hx];rfl
theorem JA(node:Int):∀(l p:List Ev) (s:Int×Int×Nat×Nat),Kn (p++l)->(∀x,x∈l->xn x=true)->Jr node p s->l.foldl (I7 node) s=l.foldl (ze node) s
 | [],_,_,_,_,_=>rfl
 |x::l,p,s,hp,he,h=>by
  have e:p++x::l=(p++[x])++l:=by simp
  rw[e]at hp;have hp1:=(List.pairwise_append.1 hp).1;rw[List.foldl_cons,List.foldl_cons,JY h hp1 (he x (.head _))];exact JA node l (p++[x]) (ze node s x) hp (fun y hy=>he y (.tail _ hy)) (Jb h hp1)
theorem JX{l:List Ev}(hj:I0 l=true)(node:Int):l.foldl (I7 node) (1,1,0,0)=zg l node:=JA node l [] (1,1,0,0) (by simpa using IW hj) (fun x hx=>Kg hj x hx) ⟨rfl,Nat.le_refl _,fun x hx=>absurd hx List.not_mem_nil,.inl rfl,fun x hx=>absurd hx List.not_mem_nil,.inl rfl,fun x hx=>absurd (List.mem_of_mem_take hx) List.not_mem_nil,fun x hx=>absurd (List.mem_of_mem_drop hx) List.not_mem_nil⟩
theorem Js(l:List Ev)(hj:I0 l=true)(node kind bg a b:Int)(same:List Ev):jn (l,node,l,(ai l),()) (same,node,(1:Int),(1:Int),kind,bg,a,b,(0:Int),(0:Int),())=some (.inl (same,node,(zg l node).1,(zg l node).2.1,kind,bg,a,b,(((zg l node).2.2.1:Nat):Int),())):=by
 have KF:=za hj;rw[<-JX hj node];refine(bI (body:=ga (l,node,l,(ai l),())) l aS (by omega) (I7 node) (fun(s:Int×Int×Nat×Nat) n=>(same,node,s.1,s.2.1,kind,bg,a,b,((s.2.2.1:Nat):Int),(n:Int),())) (fun n s=>s.2.2.2=n) (fun s=>Sum.inl (same,node,s.1,s.2.1,kind,bg,a,b,((s.2.2.1:Nat):Int),())) (fun n s hn hs=>⟨?_,by unfold I7;simp[hs]⟩) (fun s hs=>?_) (1,1,0,0) rfl).1
 ·have he:=I4.1 (Jv hj hn);unfold ga I7;simp only[aj,hn,decide_true,cond_true,ax,ak];revert he;generalize l.getD n aS=e;intro he;have e1:aa .add .i64 e.2.1 1=e.2.1+1:=bU (by omega) (by omega);have e2:aa .add .i64 e.2.2.1 1=e.2.2.1+1:=bU (by omega) (by omega);have e3:bK true s.2.1 (e.2.2.1+1)=max s.2.1 (e.2.2.1+1):=by unfold bK;simp <;> omega
  have e4:af .eql e.1 node=decide (e.1=node):=by simp[af,Bool.beq_eq_decide_eq]
  have e5:af .leq e.1 node=decide (e.1<=node):=rfl;simp only[e1,e2,e3,e4,e5,au (n:=n) (by omega),hs];have e6:bK true s.1 (e.2.1+1)=max s.1 (e.2.1+1):=by unfold bK;simp <;> omega
  rw[e6];cases decide (e.1=node) <;> cases decide (e.1<=node) <;> rfl
 ·unfold ga;simp only[aj,Nat.lt_irrefl,decide_false,cond_false]
theorem Jt(l:List Ev)(node kind bg a b:Int)(hl:l.length<=1073741824):gI l node kind bg a b=some ((wk l node kind bg a b).1,(wk l node kind bg a b).2,()):=by
 unfold gI wk;simp only[JZ,Option.bind_some,JE l hl];cases hj:I0 l with
 |false=>rfl
 |true=>
  have KF:=za hj;have hi:=IR node (IW hj);have KR:=hi.JU;simp only[Bool.not_true,cond_false,cond_true,Js l hj,Option.bind_some,Sum.elim_inl,Kt,List.nil_append];generalize hA:zg l node=A at KR;have hr:Jp l ((A.2.2.1:Nat):Int) [(node,A.1,A.2.1,kind,bg,a,b)]=true:=by unfold Jp;simp only[Bool.and_eq_true,decide_eq_true_eq,Int.toNat_natCast];exact⟨Int.natCast_nonneg _,KR,rfl,by omega⟩
  have hw:Jn l ((A.2.2.1:Nat):Int) [(node,A.1,A.2.1,kind,bg,a,b)]=vp l node kind bg a b:=by unfold Jn vp Kk;rw[hA,Int.toNat_natCast,List.append_assoc]
  unfold bu;rw[hr,hw];simp only[cond_true,Option.bind_some];cases I0 (vp l node kind bg a b) <;> rfl
theorem I9(l:List Ev)(node kind bg a b:Int)(lK:l.length<=9223372036854775807):fq l node kind bg a b=some (true,()):=by
 unfold fq;rw[J6 l _ lK (by decide) (by decide)];simp only[Option.bind_some];cases hd:decide ((1048576:Int)<(l.length:Int))with
 |true=>rfl
 |false=>
  have hd:=of_decide_eq_false hd;simp only[cond_false];rw[Jw (by omega)];have hml:(wk l node kind bg a b).1.length<=1048577:=by
   unfold wk;cases hj:I0 l with
   |false=>exact(by omega:l.length<=1048577)
   |true=>
    have KF:=za hj;cases I0 (vp l node kind bg a b)with
    |false=>exact(by omega:l.length<=1048577)
    |true=>show(vp l node kind bg a b).length<=1048577;rw[Jg (IW hj)];omega
  have m1:=II l 1 (by omega) (by decide) (by decide);have m3:=II (wk l node kind bg a b).1 1 (by omega) (by decide) (by decide);have m4:=Ja (wk l node kind bg a b).1.length 1 (by omega) (by decide) (by decide);simp only[cond_false,J8 l (by omega),Option.bind_some,Jz l node kind bg a b (by omega),Jt l node kind bg a b (by omega),I3 (wk l node kind bg a b).1 (by omega),I3 l (by omega),JN,m1,m3,m4,Bool.not_true,IX];rw[Jw (by omega),Jw (by omega)];rfl
end Go.Fn

