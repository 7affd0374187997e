import Derived.Test.YtalncjeiapbcfaaGreatRD
import Derived.OpenShut
import Derived.ChangeArms
import Derived.Below
import Derived.ChangeOld
import Derived.WideShapes
import Derived.ChangeShapes
import Derived.ReadAgain
import Derived.IntWalk
/- An abstract interpreter over the code of Go functions, proved sound once: what it answers, the code computes. Conditions: none. -/
set_option autoImplicit false
set_option linter.unusedVariables false
set_option linter.unusedSimpArgs false
set_option maxRecDepth 4000
namespace Go.R
def aJ.ir:aJ->aJ->aJ
 | .nil,d=>d
 | .cons t ts,d=>.cons t (ts.ir d)
def lX:(c d:aJ)->c.T->d.T->(c.ir d).T
 | .nil,_,_,y=>y
 | .cons _ ts,d,x,y=>kM (kC x) (lX ts d (jD x) y)
theorem zd:∀(c d:aJ),(c.ir d).len=c.len+d.len
 | .nil,d=>by simp[aJ.ir,aJ.len]
 | .cons _ ts,d=>by simp[aJ.ir,aJ.len,zd ts d];omega
mutual
def Ty.wf:(t:Ty)->t.T->Prop
 | .int k,x=>(Lit.int k x).wf=true
 | .bool,_=>True
 | .str,x=>ByteArray.size x<=maxLen
 | .sl _ cs,x=>List.length x<=maxLen/\∀y,List.Mem y x->aJ.wf cs y
def aJ.wf:(cs:aJ)->cs.T->Prop
 | .nil,_=>True
 | .cons t ts,x=>Ty.wf t (kC x)/\aJ.wf ts (jD x)
end
theorem A2:∀(c d:aJ) (x:c.T) (y:d.T),c.wf x->d.wf y->(c.ir d).wf (lX c d x y)
 | .nil,_,_,_,_,h=>h
 | .cons t ts,d,x,y,h,h'=>by
  have h1:kC (kM (t:=t) (ts:=ts.ir d) (kC x) (lX ts d (jD x) y))=kC x:=kR _ _;have h2:jD (kM (t:=t) (ts:=ts.ir d) (kC x) (lX ts d (jD x) y))=lX ts d (jD x) y:=kX _ _;refine⟨?_,?_⟩
  ·show t.wf (kC (kM (kC x) (lX ts d (jD x) y)));rw[h1];exact h.1
  ·show(ts.ir d).wf (jD (kM (kC x) (lX ts d (jD x) y)));rw[h2];exact A2 ts d _ y h.2 h'
section
variable {P:Program} {w:World} {ω:aK}
theorem B0{md:Nat->Md}{g:Nat->Option Value}:∀(c d:aJ) (j:Nat) (x:c.T) (y:d.T),c.R w ω md g j x->d.R w ω md g (j+c.len) y->(c.ir d).R w ω md g j (lX c d x y)
 | .nil,_,_,_,_,_,h=>h
 | .cons t ts,d,j,x,y,h,h'=>by
  have h1:kC (kM (t:=t) (ts:=ts.ir d) (kC x) (lX ts d (jD x) y))=kC x:=kR _ _;have h2:jD (kM (t:=t) (ts:=ts.ir d) (kC x) (lX ts d (jD x) y))=lX ts d (jD x) y:=kX _ _;obtain⟨⟨v,q1,q2⟩,q3⟩:=h;refine⟨⟨v,q1,?_⟩,?_⟩
  ·show t.R w ω (md j) v (kC (kM (kC x) (lX ts d (jD x) y)));rw[h1];exact q2
  ·show(ts.ir d).R w ω md g (j+1) (jD (kM (kC x) (lX ts d (jD x) y)));rw[h2];refine B0 ts d (j+1) _ y q3 ?_;have:j+(aJ.cons t ts).len=j+1+ts.len:=by simp[aJ.len];omega
   rw[<-this];exact h'
theorem sA{g g':Nat->Option Value}:∀(c:aJ) (j j':Nat) (x:c.T),(∀k,k<c.len->g (j+k)=g' (j'+k))->c.R w ω (fun _=>.cz) g' j' x->c.R w ω (fun _=>.cz) g j x
 | .nil,_,_,_,_,_=>trivial
 | .cons t ts,j,j',x,hg,h=>by obtain⟨⟨v,q1,q2⟩,q3⟩:=h;refine⟨⟨v,(hg 0 (by simp[aJ.len])).trans q1,q2⟩,sA ts (j+1) (j'+1) _ (fun k hk=>?_) q3⟩;have:=hg (k+1) (by simp[aJ.len,hk]);rwa[show j+(k+1)=j+1+k by omega,show j'+(k+1)=j'+1+k by omega]at this
mutual
def AP(P:Program):Nat->Nat->Option aJ
 |0,_=>none
 |n+1,t=>
  match P.underlying t with
  |some (.int k)=>bif Nat.beq (P.cellsOf t) 1 then some (.cons (.int k) .nil)else none
  |some .bool=>bif Nat.beq (P.cellsOf t) 1 then some (.cons .bool .nil)else none
  |some .string=>bif Nat.beq (P.cellsOf t) 1 then some (.cons .str .nil)else none
  |some (.slice e)=>match AP P n e with
   |some cs=>bif Nat.beq (P.cellsOf t) 1&&(Nat.ble 1 cs.len&&Nat.beq (P.cellsOf e) cs.len)then some (.cons (.sl e cs) .nil)else none
   |none=>none
  |some (.struct fs)=>match qp P n fs.toList 0 with
   |some cs=>bif Nat.beq (P.cellsOf t) cs.len then some cs else none
   |none=>none
  |_=>none
def qp(P:Program):Nat->List Field->Nat->Option aJ
 |_,[],_=>some .nil
 |0,_::_,_=>none
 |n+1,F::fs,off=>bif Nat.beq F.offset off then
   match AP P n F.type with
   |some c=>bif Nat.beq (P.cellsOf F.type) c.len then(qp P n fs (off+c.len)).map (c.ir ·)else none
   |none=>none
  else none
end
theorem mapM_some{α β:Type}{f:α->Option β}:∀ {l:List α} {r:List β},l.mapM f=some r->r.length=l.length/\∀(i:Nat) (x:α),l[i]? = some x->∃y,r[i]? = some y/\f x=some y
 | [],r,h=>by simp at h;subst h;exact⟨rfl,by simp⟩
 |a::l,r,h=>by
  rw[List.mapM_cons]at h;cases ha:f a with
  |none=>rw[ha]at h;cases h
  |some b=>
   rw[ha]at h;cases hl:l.mapM f with
   |none=>simp[hl]at h
   |some bs=>
    simp[hl]at h;subst h;obtain⟨h1,h2⟩:=mapM_some hl;refine⟨by simp[h1],fun i x hx=>?_⟩;cases i with
    |zero=>simp at hx;subst hx;exact⟨b,rfl,ha⟩
    |succ i=>simpa using h2 i x (by simpa using hx)
theorem cells?_some{base:Nat}{A:Addr}{n:Nat}{cs:List Value}(h:w.cells? base A n=some cs):cs.length=n/\∀j,j<n->w.cell? (A.add j)=cs[j]?:=by
 unfold World.cells? at h;split at h
 ·obtain⟨h1,h2⟩:=mapM_some h;refine⟨by simpa using h1,fun j hj=>?_⟩;obtain⟨y,q1,q2⟩:=h2 j j (by rw[List.getElem?_range hj]);rw[q1];exact q2
 ·cases h
theorem nK{α:Type}{p:Nat->α->Prop}:∀(n:Nat),(∀i,i<n->∃x,p i x)->∃l:List α,l.length=n/\∀i x,l[i]? = some x->p i x
 |0,_=>⟨[],rfl,by simp⟩
 |n+1,h=>by
  obtain⟨l,h1,h2⟩:=nK n (fun i hi=>h i (by omega));obtain⟨x,hx⟩:=h n (by omega);refine⟨l++[x],by simp[h1],fun i y hy=>?_⟩;by_cases hi:i<l.length
  ·rw[List.getElem?_append_left hi]at hy;exact h2 i y hy
  ·rw[List.getElem?_append_right (by omega)]at hy;have:i-l.length=0:=by have:=(List.getElem?_eq_some_iff.1 hy).1;simp at this;omega
   rw[this]at hy;simp at hy;subst hy;have:i=n:=by omega
   rw[this];exact hx
variable {H:Type} {enc:TypeId×Value->H} {base:Nat} {spare:Nat->Bool} {held:Bool}
mutual
theorem wF:∀(n t:Nat) (cs:aJ) (fuel:Nat) (vs:List Value) (x:DataW H×List MemPlace),AP P n t=some cs->DataW.trod enc P w base spare held fuel t vs=some x ->
  P.cellsOf t=cs.len/\vs.length=cs.len/\∃X:cs.T,cs.R w aK.iv (fun _=>.cz) (fun j=>vs[j]?) 0 X/\cs.wf X
 |0,_,_,_,_,_,h,_=>by simp[AP]at h
 |n+1,t,cs,fuel,vs,x,h,hx=>by
  unfold AP at h;cases hu:P.underlying t with
  |none=>rw[hu]at h;cases h
  |some d=>
   rw[hu]at h;cases d with
   |int k=>
    simp only at h;cases hb:Nat.beq (P.cellsOf t) 1 with
    |false=>rw[hb]at h;cases h
    |true=>rw[hb]at h;have h:=Option.some.inj h;subst h;obtain⟨m,e1,e2,e3⟩:=DataW.trod_int hu hx;subst e1;exact⟨Nat.eq_of_beq_eq_true hb,rfl,(m:Int),⟨⟨_,rfl,rfl⟩,trivial⟩,e3,trivial⟩
   |bool=>
    simp only at h;cases hb:Nat.beq (P.cellsOf t) 1 with
    |false=>rw[hb]at h;cases h
    |true=>rw[hb]at h;have h:=Option.some.inj h;subst h;obtain⟨m,e1,e2⟩:=DataW.trod_bool hu hx;subst e1;exact⟨Nat.eq_of_beq_eq_true hb,rfl,(m:Bool),⟨⟨_,rfl,rfl⟩,trivial⟩,trivial,trivial⟩
   |string=>
    simp only at h;cases hb:Nat.beq (P.cellsOf t) 1 with
    |false=>rw[hb]at h;cases h
    |true=>rw[hb]at h;have h:=Option.some.inj h;subst h;obtain⟨m,e1,e2,e3⟩:=DataW.trod_string hu hx;subst e1;exact⟨Nat.eq_of_beq_eq_true hb,rfl,(m:ByteArray),⟨⟨_,rfl,rfl⟩,trivial⟩,e3,trivial⟩
   |slice e=>
    simp only at h;cases he:AP P n e with
    |none=>rw[he]at h;cases h
    |some ce=>
     rw[he]at h;simp only at h;cases hb:(Nat.beq (P.cellsOf t) 1&&(Nat.ble 1 ce.len&&Nat.beq (P.cellsOf e) ce.len))with
     |false=>rw[hb]at h;cases h
     |true=>
      rw[hb]at h;have h:=Option.some.inj h;subst h;rw[Bool.and_eq_true,Bool.and_eq_true]at hb;have hce:=Nat.eq_of_beq_eq_true hb.2.2;have hpos:1<=ce.len:=Nat.le_of_ble_eq_true hb.2.1;refine⟨Nat.eq_of_beq_eq_true hb.1,?_⟩;rcases DataW.trod_slice hu hx with ⟨e1,_⟩|⟨A,len,cap,elems,rest,m,_,e1,_,_,hle,G9,hel,hrd,_⟩
      ·subst e1;refine⟨rfl,([]:List ce.T),⟨⟨_,rfl,none,0,0,rfl,rfl,Nat.le_refl _,fun hn=>absurd hn (by omega),fun i _ hi=>absurd hi (by omega)⟩,trivial⟩,⟨Nat.zero_le _,fun y hy=>by cases hy⟩,trivial⟩
      ·subst e1;refine⟨rfl,?_⟩;have hex:∀i,i<len->∃X:ce.T,∃ci:List Value,w.cells? base (A.add (i*P.cellsOf e)) (P.cellsOf e)=some ci/\ce.R w aK.iv (fun _=>.cz) (fun j=>ci[j]?) 0 X/\ce.wf X:=by
        intro i hi;have h1:=hrd i hi;obtain⟨y,hy⟩:=jd (l:=elems) (i:=i) (by omega);rw[hy]at h1;cases hc:w.cells? base (A.add (i*P.cellsOf e)) (P.cellsOf e)with
        |none=>rw[hc]at h1;cases h1
        |some ci=>rw[hc]at h1;obtain⟨_,_,X,hX,hW⟩:=wF n e ce m ci y he h1;exact⟨X,ci,rfl,hX,hW⟩
       obtain⟨l,l1,l2⟩:=nK len hex;have hsp:0<len->A.spot=none:=by
        intro h0;obtain⟨X,ci,c1,_⟩:=hex 0 h0;obtain⟨c2,c3⟩:=cells?_some c1;obtain⟨u,oo⟩:=jd (l:=ci) (i:=0) (by omega);have:=c3 0 (by omega);rw[oo]at this;cases hs:A.spot with
        |none=>rfl
        |some q=>exfalso;unfold World.cell? at this;unfold Addr.add at this;simp[hs]at this;split at this <;> simp at this
       refine⟨l,⟨⟨_,rfl,some A,len,cap,rfl,l1,hle,fun h0=>?_,fun i ad hi ha=>?_⟩,trivial⟩,⟨?_,fun y hy=>?_⟩,trivial⟩
       ·obtain⟨X,ci,c1,_⟩:=hex 0 h0;obtain⟨c2,c3⟩:=cells?_some c1;obtain⟨u,oo⟩:=jd (l:=ci) (i:=0) (by omega);have:=c3 0 (by omega);rw[oo]at this;obtain⟨ab,ao,E4⟩:=A;have hs:E4=none:=hsp h0;subst hs;refine⟨ab,ao,rfl,rfl,?_⟩;rw[Addr.add_mid,Addr.add_mid]at this;unfold World.cell? at this;cases hh:w.heap[ab]? with
        |none=>rw[hh]at this;cases this
        |some _=>exact bz hh
       ·injection ha with ha
        subst ha;obtain⟨X,hX⟩:=jd (l:=l) (i:=i) (by omega);obtain⟨ci,c1,c4,_⟩:=l2 i X hX;obtain⟨c2,c3⟩:=cells?_some c1;show ce.R w aK.iv (fun _=>.cz) (fun j=>w.cell? ⟨A.block,A.off+i*ce.len+j,none⟩) 0 (List.getD l i (k7 ce));rw[getD_some hX];obtain⟨ab,ao,E4⟩:=A;have hs:E4=none:=hsp (by omega);subst hs;refine sA ce 0 0 X (fun k hk=>?_) c4;have:=c3 k (by omega);rw[Addr.add_mid,Addr.add_mid,hce]at this;rw[Nat.zero_add];exact this
       ·show l.length<=maxLen;rw[l1];omega
       ·obtain⟨i,hi⟩:=List.getElem?_of_mem (show y∈l from hy);obtain⟨_,_,_,hw⟩:=l2 i y hi;exact hw
   |struct fs=>
    simp only at h;cases hf:qp P n fs.toList 0 with
    |none=>rw[hf]at h;cases h
    |some c=>
     rw[hf]at h;simp only at h;cases hb:Nat.beq (P.cellsOf t) c.len with
     |false=>rw[hb]at h;cases h
     |true=>
      rw[hb]at h;have h:=Option.some.inj h;subst h;have ju:=Nat.eq_of_beq_eq_true hb;obtain⟨xs,m,_,_,hl,hlen,G2⟩:=DataW.trod_struct hu hx;refine⟨ju,hl.trans ju,?_⟩;refine u5 n fs.toList 0 c m vs hf (fun f hm=>?_);obtain⟨i,hi⟩:=List.getElem?_of_mem hm;have h1:=G2 i f (by simpa using hi);have hlt:i<xs.length:=by rw[hlen];have:=(List.getElem?_eq_some_iff.1 hi).1;simpa using this
      obtain⟨y,hy⟩:=jd hlt;exact⟨y,h1.trans hy⟩
   |_=>cases h
theorem u5:∀(n:Nat) (fs:List Field) (off:Nat) (cs:aJ) (fuel:Nat) (vs:List Value),qp P n fs off=some cs->(∀f∈fs,∃x:DataW H×List MemPlace,DataW.trod enc P w base spare held fuel f.type ((vs.drop f.offset).take (P.cellsOf f.type))=some x) ->
  ∃X:cs.T,cs.R w aK.iv (fun _=>.cz) (fun j=>vs[j]?) off X/\cs.wf X
 |n,[],off,cs,fuel,vs,h,_=>by
  have h:some aJ.nil=some cs:=by cases n <;> exact h
  injection h with h
  subst h;exact⟨(),trivial,trivial⟩
 |0,_::_,_,_,_,_,h,_=>by simp[qp]at h
 |n+1,F::fs,off,cs,fuel,vs,h,hx=>by
  unfold qp at h;cases ho:Nat.beq F.offset off with
  |false=>rw[ho]at h;cases h
  |true=>
   rw[ho]at h;simp only[cond_true]at h;have Hl:=Nat.eq_of_beq_eq_true ho;cases hc:AP P n F.type with
   |none=>rw[hc]at h;cases h
   |some c=>
    rw[hc]at h;simp only at h;cases hb:Nat.beq (P.cellsOf F.type) c.len with
    |false=>rw[hb]at h;cases h
    |true=>
     rw[hb]at h;simp only[cond_true]at h;have hce:=Nat.eq_of_beq_eq_true hb;cases hr:qp P n fs (off+c.len)with
     |none=>rw[hr]at h;cases h
     |some d=>rw[hr]at h;have h:=Option.some.inj h;subst h;obtain⟨x,pK⟩:=hx F (by simp);obtain⟨_,hl,X,r1,w1⟩:=wF n F.type c fuel _ x hc pK;obtain⟨Y,r2,w2⟩:=u5 n fs (off+c.len) d fuel vs hr (fun f hf=>hx f (by simp[hf]));refine⟨lX c d X Y,B0 c d off X Y (sA c off 0 X (fun k hk=>?_) r1) r2,A2 c d X Y w1 w2⟩;rw[Nat.zero_add,hce,List.getElem?_take_of_lt hk,List.getElem?_drop,Hl]
end
end
end Go.R
namespace Go.R
open Go.WideShapes Go.ChangeShapes
def w9(P:Program)(t:Nat):Option Sh:=
 match AP P 40 t with
 |some cs=>match P.underlying t with
  |some (.struct _)=>some (.agg cs.ks)
  |_=>match cs with
   | .cons t' .nil=>some (.one (.val t'))
   |_=>none
 |none=>none
def EB:KV real->Prop
 |⟨.val t,x⟩=>t.wf x
 |⟨.arr ..,_⟩=>True
 |⟨.mp _,_⟩=>True
def fE.wf(ks:List K)(x:fE real ks):Prop:=∀v∈cl ks x,EB v
section
variable {P:Program} {w:World} {ω:aK}
theorem uO:∀(cs:aJ) (x:cs.T) (g:Nat->Option Value) (j b:Nat) (us:List Value),cs.R w ω (fun _=>.cz) g j x->(∀k,k<cs.len->g (j+k)=us[k]?)->us.length=cs.len->fg w ω b (Ah (A:=real) cs x) us
 | .nil,_,_,_,_,us,_,_,hl=>by have:us=[]:=List.length_eq_zero_iff.1 hl;subst this;trivial
 | .cons t ts,x,g,j,b,us,h,hg,hl=>by
  match us,hl with
  |u::us,hl=>
   obtain⟨⟨v,q1,q2⟩,q3⟩:=h;have h0:=hg 0 (by simp[aJ.len]);simp at h0;rw[h0]at q1;injection q1 with q1
   subst q1;refine⟨q2,uO ts _ g (j+1) (b+1) us q3 (fun k hk=>?_) (by simpa[aJ.len] using hl)⟩;have:=hg (k+1) (by simp[aJ.len,hk]);rwa[show j+(k+1)=j+1+k by omega,List.getElem?_cons_succ]at this
  | [],hl=>simp[aJ.len]at hl
theorem vV:∀(cs:aJ) (x:cs.T),cs.wf x->∀v∈Ah (A:=real) cs x,EB v
 | .nil,_,_,v,hv=>by cases hv
 | .cons t ts,x,h,v,hv=>by
  cases hv with
  |head=>exact h.1
  |tail _ hm=>exact vV ts _ h.2 v hm
theorem uZ:∀(ks:List K) (vs:List (KV real)), vs.map (·.1) = ks -> ∃x:fE real ks, cl ks x = vs
  | [], [], _=>⟨(), rfl⟩
  | [], _:: _, h=>by cases h
  |_:: _, [], h=>by cases h
  |k:: ks, ⟨k', y⟩:: vs, h=>by simp only[List.map_cons, List.cons.injEq]at h;obtain⟨h1, h2⟩:=h;subst h1;obtain⟨x, hx⟩:=uZ ks vs h2;exact⟨(y, x), by simp only[cl]; rw[hx]⟩
variable {H:Type} {enc:TypeId×Value->H} {base:Nat} {spare:Nat->Bool} {held:Bool} {r:Reach}
theorem ze{t b0:Nat}{v:Value}{d:DataW H}{p:List MemPlace}{sh:Sh}(b:Nat)(hs:w9 P t = some sh)(hv:Value.okWide P w r b0 t v)(h:DataW.Trod enc P w base spare held t v d p):
    ∃vs:List (KV real), yO w aK.iv b sh vs v /\ vs.map (·.1) = sh.ks /\ ∀x ∈ vs, EB x:=by
  unfold w9 at hs;obtain⟨fuel, hx⟩:=h;cases hc:AP P 40 t with
  |none=>rw[hc]at hs; cases hs
  |some cs=>
    rw[hc]at hs;obtain⟨h1, h2, X, h3, h4⟩:=wF 40 t cs fuel v.cells.toList _ hc hx;have hrow:fg w aK.iv b (Ah (A:=real) cs X) v.cells.toList:=uO cs X _ 0 b _ h3 (fun k _=>by rw[Nat.zero_add]) h2;have single:∀t', cs = .cons t' .nil -> (v.cells = #[v]) -> Sh.one (.val t') = sh -> ∃vs:List (KV real), yO w aK.iv b sh vs v /\ vs.map (·.1) = sh.ks /\ ∀x ∈ vs, EB x:=by intro t' e1 e2 e3;subst e1; subst e3;rw[e2]at hrow;exact⟨_, ⟨_, rfl, hrow.1⟩, rfl, vV _ X h4⟩
    cases hu:P.underlying t with
    |none=>exfalso;unfold AP at hc;rw[hu]at hc;cases hc
    |some dd=>
      rw[hu]at hs;have zG:(∃fs, dd = .struct fs) \/ (∃t', cs = .cons t' .nil /\ Sh.one (.val t') = sh /\ v.cells = #[v]):=by
        cases dd with
        |struct fs=>exact .inl ⟨fs, rfl⟩
        |int k=>
          obtain⟨n, rfl⟩:=okWide_int hu hv;match cs, hs with
          | .cons t' .nil, hs=>exact .inr ⟨t', rfl, Option.some.inj hs, rfl⟩
        |bool=>
          obtain⟨n, rfl⟩:=okWide_bool hu hv;match cs, hs with
          | .cons t' .nil, hs=>exact .inr ⟨t', rfl, Option.some.inj hs, rfl⟩
        |string=>
          obtain⟨n, rfl⟩:=okWide_string hu hv;match cs, hs with
          | .cons t' .nil, hs=>exact .inr ⟨t', rfl, Option.some.inj hs, rfl⟩
        |slice e=>
          obtain⟨a', n, c, rfl⟩:=okWide_slice hu hv;match cs, hs with
          | .cons t' .nil, hs=>exact .inr ⟨t', rfl, Option.some.inj hs, rfl⟩
        |_=>exfalso;unfold AP at hc;rw[hu]at hc;cases hc
      rcases zG with ⟨fs, rfl⟩|⟨t', e1, e2, e3⟩
      · have hs:=Option.some.inj hs
        subst hs;obtain⟨arr, e1, _⟩:=okWide_struct hu hv;subst e1;refine⟨Ah (A:=real) cs X, ⟨arr.toList, by simp, ?_⟩, sW _ _, vV _ X h4⟩;exact hrow
      · exact single t' e1 e3 e2
def qc(P:Program):List Nat->Option (List Sh)
 | []=>some []
 |t::ts=>match w9 P t,qc P ts with
  |some s,some r=>some (s::r)
  |_,_=>none
theorem ru:∀(ts:List Nat) (vs:List Value) (ds:List (DataW H)) (ps:List MemPlace) (aW:List Sh) (b b0:Nat), qc P ts = some aW -> (∀(j:Nat) t v, ts[j]? = some t -> vs[j]? = some v -> Value.okWide P w r b0 t v) -> DataW.TrodAll enc P w base spare held ts vs ds ps ->
    ∃kv:List (KV real), fF w aK.iv b aW kv vs /\ kv.map (·.1) = (aW.map Sh.ks).flatten /\ ∀x ∈ kv, EB x
  | [], vs, ds, ps, aW, b, b0, hs, _, h=>by have hs:=Option.some.inj hs;subst hs;obtain⟨rfl, rfl, rfl⟩:=trodAll_nil h;exact⟨[], ⟨rfl, rfl⟩, rfl, fun x hx=>by cases hx⟩
  |t:: ts, vs, ds, ps, aW, b, b0, hs, hv, h=>by
    simp only[qc]at hs;cases h1:w9 P t with
    |none=>rw[h1]at hs; cases hs
    |some sh=>
      cases h2:qc P ts with
      |none=>rw[h1, h2]at hs; cases hs
      |some FV=>
        rw[h1, h2]at hs;have hs:=Option.some.inj hs;subst hs;obtain⟨v, vs', d, ds', p, q, rfl, rfl, rfl, hd, hr⟩:=trodAll_cons h;obtain⟨Gy, r1, k1, w1⟩:=ze b h1 (hv 0 t v rfl rfl) hd;obtain⟨Hy, r2, k2, w2⟩:=ru ts vs' ds' q FV (b + sh.width) b0 h2 (fun j t' v' hj fH=>hv (j + 1) t' v' (by simpa using hj) (by simpa using fH)) hr;have hlen:Gy.length = sh.ks.length:=by rw[<- k1]; simp
        refine⟨Gy ++ Hy, ⟨by rw[List.take_left' hlen]; exact hlen, by rw[List.take_left' hlen]; exact r1, by rw[List.drop_left' hlen]; exact r2⟩, by simp[k1, k2], fun x hx=>?_⟩;rcases List.mem_append.1 hx with hx|hx
        · exact w1 x hx
        · exact w2 x hx
theorem kY{w':World}(hb:RowKit.Below w.heap.size w w'):∀ {ts:List Nat} {vs:List Value} {ds:List (DataW H)} {ps:List MemPlace},DataW.TrodAll enc P w base spare held ts vs ds ps->DataW.TrodAll enc P w' base spare held ts vs ds ps
 | [],[],[],_,h=>h
 |_::_,_::_,_::_,_,⟨a,b,⟨n,h1⟩,h2,e⟩=>⟨a,b,⟨n,DataW.trod_carry n _ _ _ h1 (fun p hp=>hb.same (DataW.trod_lt n _ _ _ h1 p hp))⟩,kY hb h2,e⟩
theorem Cn {w':World} (hl:laidOutB P = true) (hm:mapsRowed P = true) (hz:((List.range P.types.size).all fun t=>match P.underlying t with|some (.slice e)=>decide (0<P.cellsOf e)|_=>true) = true) {ts:List Nat} (hts:(ts.all fun t=>decide (t<P.types.size)) = true) {vs:List Value} {ds:List (DataW H)} {ps:List MemPlace}
    (hb:RowKit.Below w.heap.size w w') (h:DataW.TrodAll enc P w base (fun _=>true) true ts vs ds ps):DataW.TrodAll enc P w' base (fun b=>decide (b<w.heap.size)) true ts vs ds ps:=
  (kY hb h).respare (T:=(· < P.types.size)) (kids_rows hl hm) (slices_full_of P hz) (fun t ht=>of_decide_eq_true (List.all_eq_true.1 hts t ht)) (fun p hp=>decide_eq_true (h.lt p hp))
theorem Dp {f:FuncId} {F:gY} {ts:List Nat} {vs:List Value} {ds:List (DataW H)} {ps:List MemPlace} {b0:Nat} (hF:eK P f F) (HZ:H6 w aK.iv) (hs:qc P ts=some F.args) (hl:F.args.all Sh.eJ=true) (hr:F.aP=[.one (.val .bool)])
  (Ee:∀x,fE.wf _ x->∃y,F.fn x=some y/\(cl _ y).head? = some ⟨.val .bool,(true:Bool)⟩) (hv:∀(j:Nat) t v,ts[j]? = some t->vs[j]? = some v->Value.okWide P w r b0 t v) (h:DataW.TrodAll enc P w base spare held ts vs ds ps):
  Calls P f vs.toArray w fun e w'=>e=.returned (.bool true)/\RowKit.Below w.heap.size w w':=by
 obtain⟨kv,r1,k1,w1⟩:=ru ts vs ds ps F.args 1 b0 hs hv h;obtain⟨x,hx⟩:=uZ _ kv k1;obtain⟨y,hy,hh⟩:=Ee x (by unfold fE.wf;rw[hx];exact w1);have hc:=hF.calls w aK.iv vs x y HZ (fun _ _ _ h=>nomatch h) (fun _ _ h=>nomatch h) (by rw[hx];exact r1) hy;refine hc.mono fun e w' he=>?_;obtain⟨v,aI,rfl,hE,_,_,hres,_⟩:=he;refine⟨?_,hE.os,hE.tape,hE.output,hE.size,fun k hk=>(hE.block k hk (.inl rfl)).1⟩;have hlen:(F.aP.map Sh.ks).flatten.length=1:=by rw[hr];rfl
 have Fz:(cl _ y).take (F.aP.map Sh.ks).flatten.length=[⟨.val .bool,(true:Bool)⟩]:=by
  rw[hlen];cases hq:cl _ y with
  |nil=>rw[hq]at hh;cases hh
  |cons a l=>rw[hq]at hh;simp at hh;subst hh;rfl
 rw[Fz,hr]at hres;obtain⟨_,v',e1,e2⟩:=hres;have e1:[(⟨.val .bool,(true:Bool)⟩:KV real)]=[v']:=e1;injection e1 with e1 _
 subst e1;have:v=.bool true:=e2;rw[this]
end
end Go.R
namespace Go.R
def big:Nat:=4611686018427387904
def body(fn:Func):Code:=fn.body.getD .skip
def uD:List (bR×gY)->bR->Option gY
 | [],_=>none
 |(f,F)::r,n=>bif bR.beq f n then some F else uD r n
def pV:List (Nat×ep)->Nat->Option ep
 | [],_=>none
 |(f,F)::r,n=>bif Nat.beq f n then some F else pV r n
def tw(P:Program):List (bR×gY)->Prop
 | []=>True
 |p::r=>eK P p.1.1 p.2/\tw P r
theorem pU{P:Program}:∀ {l:List (bR×gY)},tw P l->∀f F,uD l f=some F->eK P f.1 F
 | [],_,_,_,h=>by cases h
 |(g,G)::l,hl,f,F,h=>by
  simp only[uD]at h;cases hb:bR.beq g f with
  |true=>rw[hb]at h;have h:=Option.some.inj h;subst h;have:=hl.1;rw[bR.eq_of_beq hb]at this;exact this
  |false=>rw[hb]at h;exact pU hl.2 f F h
def lp(n:Nat)(c:Code)(i:Nat):Code:=((di n c).getD i (0,.skip)).2
theorem Dq{P:Program}{E:Env}{Λ:Nat->Option ep}{l:List (Nat×Code)}(h:l=[]):ff P E Λ l:=by subst h;exact fun p hp=>nomatch hp
theorem vZ{P:Program}{E:Env}{Λ:Nat->Option ep}{n:Nat}{c:Code}{l:List (Nat×Code)}{L:ep}(hn:Λ n=some L)(h:mT P E c L)(hl:ff P E Λ l):ff P E Λ ((n,c)::l):=by
 intro p hp q hq;cases hp with
 |head=>
  have:some L=some q:=hn.symm.trans hq;injection this with this
  subst this;exact h
 |tail _ hm=>exact hl p hm q hq
theorem loops_eq{P:Program}{E:Env}{Λ:Nat->Option ep}{l l':List (Nat×Code)}(h:l=l')(hl:ff P E Λ l'):ff P E Λ l:=by rw[h];exact hl
theorem As {P:Program} {E:Env} {Ψ:bR->Option gY} {Λ:Nat->Option ep} (hE:cm P E) (Ek:∀f F,Ψ f=some F->eK P f.1 F) {n:Nat} {c:Code} {keep cX:bK} {cG:rf} (hL:ff P E Λ (di n c))
  (B:fE real (bK.ks keep)->fE real (bK.ks cX)->Option (fE real (bK.ks cX)⊕jz real cG)) (hB:∀kx x,oT E Ψ Λ n c keep cX cG kx x=B kx x):
  mT P E c ⟨keep,cX,cG,fun kx x=>iter (B kx) big x⟩:=
 BM hE (sk Ek) hL (fun _ _=>big) (fun kx x=>by show iter (B kx) big x=iter (oT E Ψ Λ n c keep cX cG kx) big x;have:oT E Ψ Λ n c keep cX cG kx=B kx:=funext (hB kx);rw[this])
theorem B5 {P:Program} {f:FuncId} {F:gY} {fn:Func} {c:Code} (h1:P.funcs[f]? = some fn) (h2:(fn.name == "runtime.NumGoroutine") = false) (h3:fn.body = some c) (hn:∀x, F.fn x = none):eK P f F:=⟨⟨fn,c,h1,h2,h3⟩,fun w ω us x y _ _ _ _ hy=>by rw[hn]at hy;cases hy⟩
theorem C9{P:Program}{f:FuncId}{F:Nat->gY}(h0:eK P f (F 0))(hs:∀n,eK P f (F n)->eK P f (F (n+1))):∀n,eK P f (F n)
 |0=>h0
 |n+1=>hs n (C9 h0 hs n)
def lets{α β:Type}(x:α)(k:α->β):β:=k x
theorem EU{α β:Type}{x y:α}{k:α->β}(h:x=y):lets x k=k y:=by rw[h];rfl
theorem ay{α β:Type}{f:α->Option (α⊕β)}{n:Nat}{x:α}{b:β}(h:f x=some (.inr b)):iter f (n+1) x=some b:=by simp[iter,h]
theorem aH{α β:Type}{f:α->Option (α⊕β)}{n:Nat}{x y:α}(h:f x=some (.inl y)):iter f (n+1) x=iter f n y:=by simp[iter,h]
theorem bF{α β:Type}{f:α->Option (α⊕β)}:∀ {n m:Nat} {x:α} {b:β},iter f n x=some b->n<=m->iter f m x=some b
 |0,_,_,_,h,_=>by cases h
 |n+1,0,_,_,_,hle=>absurd hle (by omega)
 |n+1,m+1,x,b,h,hle=>by
  simp only[iter]at h⊢;cases hf:f x with
  |none=>rw[hf]at h;cases h
  |some q=>
   rw[hf]at h;cases q with
   |inl y=>exact bF (n:=n) (m:=m) h (by omega)
   |inr b'=>exact h
end Go.R
namespace Go.R
def Dt(P:Program)(E:Env)(n:Nat)(c:Code):List (Nat×ep)->Nat->Prop
 | [],_=>True
 |p::r,i=>mT P E (lp n c i) p.2/\Dt P E n c r (i+1)
def nS:List (Nat×Code)->List (Nat×ep)->Bool
 | [],[]=>true
 |p::l,q::m=>Nat.beq p.1 q.1&&(m.all fun r=>!Nat.beq q.1 r.1)&&nS l m
 |_,_=>false
theorem pW:∀ {l:List (Nat×Code)} {m:List (Nat×ep)},nS l m=true->∀q∈m,pV m q.1=some q.2
 | [],[],_,_,h=>nomatch h
 | [],_::_,h,_,_=>nomatch h
 |_::_,[],h,_,_=>nomatch h
 |p::l,r::m,h,q,hq=>by
  simp only[nS,Bool.and_eq_true,List.all_eq_true]at h;obtain⟨⟨_,h2⟩,h3⟩:=h;cases hq with
  |head=>show(bif Nat.beq r.1 r.1 then some r.2 else pV m r.1)=_;rw[Nat.beq_refl];rfl
  |tail _ hm=>
   show(bif Nat.beq r.1 q.1 then some r.2 else pV m q.1)=_;have:=h2 q hm;cases hb:Nat.beq r.1 q.1 with
   |true=>rw[hb]at this;cases this
   |false=>exact pW h3 q hm
theorem Au{P:Program}{E:Env}{n:Nat}{c:Code}{Λ:Nat->Option ep}:∀(l:List (Nat×Code)) (m:List (Nat×ep)) (i:Nat),(∀j p,l[j]? = some p->(di n c).getD (i+j) (0,.skip)=p)->nS l m=true->Dt P E n c m i->(∀q∈m,Λ q.1=some q.2)->ff P E Λ l
 | [],_,_,_,_,_,_=>fun p hp=>nomatch hp
 |_::_,[],_,_,h,_,_=>nomatch h
 |p::l,r::m,i,hj,h,hm,Gx=>by
  simp only[nS,Bool.and_eq_true]at h;have e:p.1=r.1:=Nat.eq_of_beq_eq_true h.1.1;obtain⟨k,c2⟩:=p;simp only at e;subst e;refine vZ (Gx r (.head _)) ?_ (Au l m (i+1) (fun j p hp=>?_) h.2 hm.2 fun q hq=>Gx q (.tail _ hq))
  ·have:=hj 0 _ rfl;have h1:=hm.1;unfold lp at h1;rw[Nat.add_zero]at this;rw[this]at h1;exact h1
  ·have:=hj (j+1) p (by simpa using hp);rwa[show i+1+j=i+(j+1)by omega]
theorem w5{P:Program}{E:Env}{n:Nat}{c:Code}{m:List (Nat×ep)}(h:nS (di n c) m=true)(hm:Dt P E n c m 0):ff P E (pV m) (di n c):=Au _ m 0 (fun j p hp=>by rw[Nat.zero_add,List.getD_eq_getElem?_getD,hp];rfl) h hm (pW h)
def DB(fn:Func)(nt na:Nat)(m:List (Nat×ep)):Bool:=!(fn.name == "runtime.NumGoroutine")&&(fn.body.isSome&&(Nat.beq fn.ntmps nt&&(Nat.ble na nt&&nS (di 0 (body fn)) m)))
theorem fk {P:Program} {E:Env} (hE:cm P E) {T:List (bR×gY)} (hT:tw P T) (m:List (Nat×ep)) {f:FuncId} {ks:List Nat} {fn:Func} {F:gY} (hm:Dt P E 0 (body fn) m 0) (h1:P.funcs[f]? = some fn)
  (hc:DB fn E.nt F.args.length m=true)
  (hfn:∀x,F.fn x=exec E (aO _) (kP (uD T) _) (pX (pV m) _) 0 (body fn) (vF F.args (cl _ x)) fun ex s=>bif ex.done then finish E (body fn) F.look F.args F.aP _ fn.results.toList s else none):tw P (((f,ks),F)::T):=by
 simp only[DB,Bool.and_eq_true,Bool.not_eq_true']at hc;obtain⟨c1,c2,c3,c4,c5⟩:=hc;have hb:fn.body=some (body fn):=by
  unfold body;cases h:fn.body with
  |none=>rw[h]at c2;cases c2
  |some c=>rfl
 exact⟨Bm hE (pU hT) h1 c1 hb (Nat.eq_of_beq_eq_true c3) (Nat.le_of_ble_eq_true c4) (w5 c5 hm) hfn,hT⟩
theorem lk {P:Program} {E:Env} (hE:cm P E) {T:List (bR×gY)} (hT:tw P T) {n:Nat} {c:Code} {keep cX:bK} {cG:rf} (m:List (Nat×ep)) (hm:Dt P E n c m 0) (hc:nS (di n c) m=true)
  {B:fE real (bK.ks keep)->fE real (bK.ks cX)->Option (fE real (bK.ks cX)⊕jz real cG)} (hB:∀kx x,oT E (uD T) (pV m) n c keep cX cG kx x=B kx x):
  mT P E c ⟨keep,cX,cG,fun kx x=>iter (B kx) big x⟩:=
 As hE (pU hT) (w5 hc hm) B hB
end Go.R
namespace Go.R
theorem A1{n:Int}(h1:-9223372036854775808<=n)(h2:n<=9223372036854775807):IntKind.i64.wrap n=n:=IntWalk.i64_in n ⟨h1,h2⟩
theorem bV{a b:Int}(h1:-9223372036854775808<=a+b)(h2:a+b<=9223372036854775807):aa .add .i64 a b=a+b:=A1 h1 h2
theorem bO{a b:Int}(h1:-9223372036854775808<=a-b)(h2:a-b<=9223372036854775807):aa .sub .i64 a b=a-b:=A1 h1 h2
theorem jw{a b:Int}(h1:-9223372036854775808<=a*b)(h2:a*b<=9223372036854775807):aa .mul .i64 a b=a*b:=A1 h1 h2
theorem av{n:Nat}(h:n<1099511627776):aa .add .i64 (n:Int) 1=((n+1:Nat):Int):=by rw[bV] <;> omega
theorem iw{n:Nat}(h:n<1099511627776):aa .sub .i64 ((n+1:Nat):Int) 1=(n:Int):=by rw[bO] <;> omega
theorem eH(a b:Nat):af .lss (a:Int) (b:Int)=decide (a<b):=by simp[af]
theorem aj{α:Type}(a:Nat)(l:List α):af .lss (a:Int) (ai l)=decide (a<l.length):=by simp[af,ai]
theorem az{α:Type}(l:List α)(n:Nat):ah l (n:Int)=decide (n<l.length):=by simp[ah]
theorem cV{α:Type}{l:List α}{n:Nat}(h:n<l.length):ah l (n:Int)=true:=by rw[az];exact decide_eq_true h
theorem aq{α:Type}(z:α)(l:List α)(n:Nat):ae z l (n:Int)=l.getD n z:=by simp[ae]
theorem aN{α:Type}(l:List α)(n:Nat)(y:α):aC l (n:Int) y=l.set n y:=by simp[aC]
theorem dP{α:Type}(n:Nat)(y:α):cW (n:Int) y=List.replicate n y:=by simp[cW]
theorem cC{α:Type}{l:List α}(h:l.length<=1073741824):cI (ai l)=true:=by unfold cI ai limit;rw[Bool.and_eq_true];exact⟨decide_eq_true (by omega),decide_eq_true (by omega)⟩
theorem aT{n:Nat}(h:n<1099511627776):n<big:=by
 have:big=4611686018427387904:=by unfold big;rfl
 omega
section
variable {X Y:Type} {body:X->Option (X⊕Y)}
theorem iO(st:Nat->X)(len:Nat)(g:Nat->Y)(hstep:∀n,n<len->(body (st n)=some (.inl (st (n+1)))/\g n=g (n+1))\/body (st n)=some (.inr (g n)))(hend:body (st len)=some (.inr (g len))):
  ∀(k n:Nat),n+k=len->iter body (k+1) (st n)=some (g n)
 |0,n,h=>by
  have:n=len:=by omega
  subst this;exact ay hend
 |k+1,n,h=>by
  rcases hstep n (by omega)with ⟨h1,h2⟩|h1
  ·rw[aH h1,h2];exact iO st len g hstep hend k (n+1) (by omega)
  ·exact ay h1
theorem jg(st:Nat->X)(len:Nat)(hlen:len<1099511627776)(g:Nat->Y)(hstep:∀n,n<len->(body (st n)=some (.inl (st (n+1)))/\g n=g (n+1))\/body (st n)=some (.inr (g n)))(hend:body (st len)=some (.inr (g len))):iter body big (st 0)=some (g 0):=bF (iO st len g hstep hend len 0 (by omega)) (aT hlen)
theorem aR(st:Nat->X)(len:Nat)(hlen:len<1099511627776)(y:Y)(hstep:∀n,n<len->body (st n)=some (.inl (st (n+1))))(hend:body (st len)=some (.inr y)):iter body big (st 0)=some y:=jg st len hlen (fun _=>y) (fun n hn=>.inl ⟨hstep n hn,rfl⟩) hend
def aB(ok:Nat->Bool):Nat->Nat->Bool
 |_,0=>true
 |n,k+1=>ok n&&aB ok (n+1) k
theorem bp(st:Nat->X)(len:Nat)(hlen:len<1099511627776)(ok:Nat->Bool)(yes no:Y)(hstep:∀n,n<len->body (st n)=some (bif ok n then .inl (st (n+1))else .inr no))(hend:body (st len)=some (.inr yes)):
  iter body big (st 0)=some (bif aB ok 0 len then yes else no):=by
 have:=jg st len hlen (fun n=>bif aB ok n (len-n)then yes else no) (fun n hn=>?_) (by simpa[aB] using hend)
 ·simpa using this
 ·have e:len-n=(len-(n+1))+1:=by omega
  cases ho:ok n with
  |true=>exact .inl ⟨by rw[hstep n hn,ho];rfl,by simp only[e,aB,ho,Bool.true_and]⟩
  |false=>exact .inr (by rw[hstep n hn,ho];simp only[e,aB,ho,Bool.false_and];rfl)
end
theorem fR{ok C6:Nat->Bool}:∀(k n:Nat),(∀m,n<=m->m<n+k->ok m=C6 m)->aB ok n k=aB C6 n k
 |0,_,_=>rfl
 |k+1,n,h=>by simp only[aB];rw[h n (by omega) (by omega),fR k (n+1) fun m h1 h2=>h m (by omega) (by omega)]
theorem aQ{ok:Nat->Bool}:∀(k n:Nat),aB ok n k=true↔∀m,n<=m->m<n+k->ok m=true
 |0,n=>⟨fun _ m h1 h2=>absurd h2 (by omega),fun _=>rfl⟩
 |k+1,n=>by
  simp only[aB,Bool.and_eq_true];rw[aQ k (n+1)];constructor
  ·intro ⟨h1,h2⟩ m h3 h4;rcases Nat.lt_or_ge n m with h|h
   ·exact h2 m (by omega) (by omega)
   ·have:m=n:=by omega
    subst this;exact h1
  ·intro h;exact⟨h n (by omega) (by omega),fun m h1 h2=>h m (by omega) (by omega)⟩
theorem dS{α:Type}(l:List α)(z:α){n:Nat}(h:n<l.length):(l.take n++List.replicate (l.length-n) z).set n (l.getD n z)=l.take (n+1)++List.replicate (l.length-(n+1)) z:=by
 have h1:(l.take n).length=n:=by rw[List.length_take];omega
 have e:l.length-n=(l.length-(n+1))+1:=by omega
 rw[List.set_append,if_neg (by omega),h1,Nat.sub_self,e,List.replicate_succ,List.set_cons_zero,List.take_add_one,List.append_assoc];congr 1;rw[List.getElem?_eq_getElem h,List.getD_eq_getElem?_getD,List.getElem?_eq_getElem h];rfl
theorem dD{α:Type}(l:List α)(z:α){n:Nat}(h:n<=l.length):(l.take n++List.replicate (l.length-n) z).length=l.length:=by rw[List.length_append,List.length_take,List.length_replicate];omega
theorem eX{α:Type}{l:List α}{n:Nat}(h:n<l.length)(z z':α):l.getD n z=l.getD n z':=by rw[List.getD_eq_getElem?_getD,List.getD_eq_getElem?_getD,List.getElem?_eq_getElem h];rfl
theorem aV{α β:Type}(x:α)(k:α->β):lets x k=k x:=rfl
theorem aF{α:Type}{l:List α}{n:Nat}(h:n<l.length)(y z:α):(l.set n y).getD n z=y:=by rw[List.getD_eq_getElem?_getD,List.getElem?_set_self h];rfl
theorem getD_set_ne{α:Type}{l:List α}{n m:Nat}(h:n≠m)(y z:α):(l.set n y).getD m z=l.getD m z:=by rw[List.getD_eq_getElem?_getD,List.getElem?_set_ne h,<-List.getD_eq_getElem?_getD]
theorem je{α:Type}(l:List α)(n:Nat)(y:α)(m:Nat):ah (l.set n y) (m:Int)=decide (m<l.length):=by rw[az,List.length_set]
theorem cL {α β X Y:Type} {body:X->Option (X⊕Y)} (l:List α) (z:α) (hlen:l.length<1099511627776) (f:β->α->β) (st:β->Nat->X) (Inv:Nat->β->Prop) (fin:β->Y)
  (hstep:∀n acc,n<l.length->Inv n acc->body (st acc n)=some (.inl (st (f acc (l.getD n z)) (n+1)))/\Inv (n+1) (f acc (l.getD n z))) (hend:∀acc,Inv l.length acc->body (st acc l.length)=some (.inr (fin acc))) (b0:β) (h0:Inv 0 b0):
  iter body big (st b0 0)=some (fin (l.foldl f b0))/\Inv l.length (l.foldl f b0):=by
 have jS:∀n,n<l.length->(l.take (n+1)).foldl f b0=f ((l.take n).foldl f b0) (l.getD n z):=by intro n hn;rw[List.take_add_one,List.foldl_append,List.getElem?_eq_getElem hn,List.getD_eq_getElem?_getD,List.getElem?_eq_getElem hn];rfl
 have hinv:∀n,n<=l.length->Inv n ((l.take n).foldl f b0):=by
  intro n;induction n with
  |zero=>intro _;simpa using h0
  |succ n ih=>intro hn;rw[jS n hn];exact(hstep n _ hn (ih (Nat.le_of_lt hn))).2
 have gO:=hinv l.length (Nat.le_refl _);rw[List.take_length]at gO;refine⟨?_,gO⟩;have:=aR (body:=body) (fun n=>st ((l.take n).foldl f b0) n) l.length hlen (fin (l.foldl f b0)) (fun n hn=>by
  have:=(hstep n _ hn (hinv n (Nat.le_of_lt hn))).1;rw[<-jS n hn]at this;exact this) (by
  have:=hend _ gO;rw[List.take_length];exact this)
 simpa using this
def gf{α β Y:Type}(step:β->α->β⊕Y)(fin:β->Y):List α->β->Y
 | [],b=>fin b
 |a::l,b=>match step b a with
  | .inl b'=>gf step fin l b'
  | .inr y=>y
theorem dA{α:Type}{l:List α}{n:Nat}(h:n<l.length)(z:α):l.drop n=l.getD n z::l.drop (n+1):=by rw[List.drop_eq_getElem_cons h,List.getD_eq_getElem?_getD,List.getElem?_eq_getElem h];rfl
theorem eP {α β X Y:Type} {body:X->Option (X⊕Y)} (l:List α) (z:α) (st:β->Nat->X) (step:β->α->β⊕Y) (fin:β->Y) (Inv:Nat->β->Prop)
  (hstep:∀n acc,n<l.length->Inv n acc->body (st acc n)=some (match step acc (l.getD n z)with| .inl b=>.inl (st b (n+1))| .inr y=>.inr y)/\∀b,step acc (l.getD n z)=.inl b->Inv (n+1) b)
  (hend:∀acc,Inv l.length acc->body (st acc l.length)=some (.inr (fin acc))):∀(k n:Nat) (b:β),n+k=l.length->Inv n b->iter body (k+1) (st b n)=some (gf step fin (l.drop n) b)
 |0,n,b,hk,hi=>by
  have:n=l.length:=by omega
  subst this;rw[List.drop_length];exact ay (hend b hi)
 |k+1,n,b,hk,hi=>by
  have hn:n<l.length:=by omega
  obtain⟨h1,h2⟩:=hstep n b hn hi;rw[dA hn z];simp only[gf];cases hs:step b (l.getD n z)with
  |inl b'=>rw[hs]at h1;rw[aH h1];exact eP l z st step fin Inv hstep hend k (n+1) b' (by omega) (h2 b' hs)
  |inr y=>rw[hs]at h1;exact ay h1
theorem gQ {α β X Y:Type} {body:X->Option (X⊕Y)} (l:List α) (z:α) (hlen:l.length<1099511627776) (st:β->Nat->X) (step:β->α->β⊕Y) (fin:β->Y) (Inv:Nat->β->Prop)
  (hstep:∀n acc,n<l.length->Inv n acc->body (st acc n)=some (match step acc (l.getD n z)with| .inl b=>.inl (st b (n+1))| .inr y=>.inr y)/\∀b,step acc (l.getD n z)=.inl b->Inv (n+1) b)
  (hend:∀acc,Inv l.length acc->body (st acc l.length)=some (.inr (fin acc))) (b0:β) (h0:Inv 0 b0):iter body big (st b0 0)=some (gf step fin l b0):=
 bF (eP l z st step fin Inv hstep hend l.length 0 b0 (by omega) h0) (aT hlen)
theorem fP{X Y:Type}{body:X->Option (X⊕Y)}(st:Nat->X)(len:Nat)(hlen:len<1099511627776)(ok:Nat->Bool)(yes:Y)(no:Nat->Y)(hstep:∀n,n<len->body (st n)=some (bif ok n then .inl (st (n+1))else .inr (no n)))(hend:body (st len)=some (.inr yes)):
  ∃y,iter body big (st 0)=some y/\((aB ok 0 len=true/\y=yes)\/(aB ok 0 len=false/\∃n,n<len/\y=no n/\ok n=false)):=by
 have key:∀(k n:Nat),n+k=len->∃y,iter body (k+1) (st n)=some y/\((aB ok n k=true/\y=yes)\/(aB ok n k=false/\∃m,m<len/\y=no m/\ok m=false)):=by
  intro k;induction k with
  |zero=>
   intro n hn;have:n=len:=by omega
   subst this;exact⟨yes,ay hend,.inl ⟨rfl,rfl⟩⟩
  |succ k ih=>
   intro n hn;have hs:=hstep n (by omega);cases ho:ok n with
   |true=>rw[ho]at hs;obtain⟨y,h1,h2⟩:=ih (n+1) (by omega);refine⟨y,by rw[aH hs];exact h1,?_⟩;simp only[aB,ho,Bool.true_and];exact h2
   |false=>rw[ho]at hs;exact⟨no n,ay hs,.inr ⟨by simp only[aB,ho,Bool.false_and],n,by omega,rfl,ho⟩⟩
 obtain⟨y,h1,h2⟩:=key len 0 (by omega);exact⟨y,bF h1 (aT hlen),h2⟩
end Go.R

