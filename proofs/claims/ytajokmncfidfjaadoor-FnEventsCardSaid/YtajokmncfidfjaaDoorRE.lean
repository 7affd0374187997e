import Derived.Test.YtajokmncfidfjaaDoorRD
import Derived.OpenShut
import Derived.ChangeArms
import Derived.Below
import Derived.ChangeOld
import Derived.WideShapes
import Derived.ChangeShapes
import Derived.ReadAgain
import Derived.IntWalk
/- An abstract interpreter over the code of Go functions, proved sound once: what it answers, the code computes. Conditions: none. -/
set_option autoImplicit false
set_option linter.unusedVariables false
set_option linter.unusedSimpArgs false
set_option maxRecDepth 4000
namespace Go.R
def w7:Ty->Value->Bool
 | .int k,.int k' n=>decide (k=k')&&decide (n=0)
 | .bool,.bool b=>!b
 | .str,.string s=>Nat.beq s.size 0
 | .sl _ _,.slice none 0 0=>true
 |_,_=>false
def oT:aK->List Value->Bool
 | .nil,[]=>true
 | .cons t ts,v::vs=>w7 t v&&oT ts vs
 |_,_=>false
theorem zo:∀(t:Ty) (v:Value),w7 t v=true->v=zeroOf t:=by
 intro t v h;unfold w7 at h;split at h
 ·rw[Bool.and_eq_true]at h;rw[of_decide_eq_true h.1,of_decide_eq_true h.2];rfl
 ·rename_i b;cases b with
  |true=>cases h
  |false=>rfl
 ·rename_i s;have h0:s.size=0:=Nat.eq_of_beq_eq_true h;show Value.string s=Value.string ByteArray.empty;congr 1;obtain⟨d⟩:=s;have:d = #[]:=Array.eq_empty_of_size_eq_zero h0;subst this;rfl
 ·rfl
 ·cases h
theorem rf:∀(ts:aK) (vs:List Value),oT ts vs=true->vs=gN ts
 | .nil,[],_=>rfl
 | .nil,_::_,h=>by cases h
 | .cons _ _,[],h=>by cases h
 | .cons t ts,v::vs,h=>by simp only[oT,Bool.and_eq_true]at h;rw[zo t v h.1,rf ts vs h.2];rfl
def oK(P:Program):List Field->List (Nat×Nat×Bool)->Bool
 | [],[]=>true
 |F::fs,q::qs=>Nat.beq F.offset q.1&&(match P.info? F.type,P.underlying F.type with
  |some FI,some Fd=>Nat.beq FI.size q.2.1&&Nat.ble 1 FI.size&&(Fd.isRow==q.2.2)&&(q.2.2||Nat.beq q.2.1 1)
  |_,_=>false)&&oK P fs qs
 |_,_=>false
theorem pE{P:Program}:∀(fs:List Field) (qs:List (Nat×Nat×Bool)),oK P fs qs=true->fs.length=qs.length/\∀(f:Nat) (q:Nat×Nat×Bool),qs[f]? = some q->∃(F:Field) (FI:TypeInfo) (Fd:TypeDesc),fs[f]? = some F/\F.offset=q.1/\P.info? F.type=some FI/\FI.size=q.2.1/\0<FI.size/\P.underlying F.type=some Fd/\Fd.isRow=q.2.2/\(q.2.2=false->q.2.1=1)
 | [],[],_=>⟨rfl,by simp⟩
 | [],_::_,h=>by cases h
 |_::_,[],h=>by cases h
 |F::fs,q::qs,h=>by
  simp only[oK,Bool.and_eq_true]at h;obtain⟨⟨h1,h2⟩,h3⟩:=h;obtain⟨r1,r2⟩:=pE fs qs h3;refine⟨by simp[r1],fun f q' hq=>?_⟩;cases f with
  |zero=>
   simp at hq;subst hq;cases hi:P.info? F.type with
   |none=>rw[hi]at h2;cases h2
   |some FI=>
    cases hu:P.underlying F.type with
    |none=>rw[hi,hu]at h2;cases h2
    |some Fd=>rw[hi,hu]at h2;simp only[Bool.and_eq_true]at h2;obtain⟨⟨⟨a1,a2⟩,a3⟩,a4⟩:=h2;refine⟨F,FI,Fd,rfl,Nat.eq_of_beq_eq_true h1,hi,Nat.eq_of_beq_eq_true a1,Nat.le_of_ble_eq_true a2,hu,eq_of_beq a3,fun e=>?_⟩;rw[e,Bool.false_or]at a4;exact Nat.eq_of_beq_eq_true a4
  |succ f=>simpa using r2 f q' (by simpa using hq)
def jl:aK->TypeDesc->Bool
 | .cons (.int k) .nil,.int k'=>decide (k=k')
 | .cons (.int _) .nil,_=>false
 | .cons .bool .nil,.bool=>true
 | .cons .bool .nil,_=>false
 | .cons .str .nil,.string=>true
 | .cons .str .nil,_=>false
 | .cons (.sl e _) .nil,.slice e'=>Nat.beq e e'
 | .cons (.sl _ _) .nil,_=>false
 |_,_=>true
def zY(P:Program)(t:Nat)(i:TI):Bool:=
 match P.info? t,P.underlying t with
 |some I,some d=>
  Nat.beq I.size i.cs.len&&(Nat.beq I.bytes i.bytes&&(Nat.ble 1 i.bytes&&Nat.ble i.bytes 65536)) &&
  (match I.zero with|some z=>oT i.cs z.cells.toList|none=>false) &&
  ((d.isRow==i.agg)&&(i.agg||Nat.beq i.cs.len 1)) &&
  (match d with| .struct fs=>!i.agg||oK P fs.toList i.fQ|_=>!i.agg) &&
  (match i.el with|none=>true|some e=>(match d with| .slice e'=>Nat.beq e' e|_=>false)) &&
  (i.agg||jl i.cs d)
 |_,_=>false
theorem jm{cs:aK}{d:TypeDesc}(h:jl cs d=true):(∀k,cs=.cons (.int k) .nil->d=.int k)/\(cs=.cons .bool .nil->d=.bool)/\(cs=.cons .str .nil->d=.string)/\(∀e cs',cs=.cons (.sl e cs') .nil->d=.slice e):=by
 refine⟨fun k e=>?_,fun e=>?_,fun e=>?_,fun e' cs' e=>?_⟩
 ·subst e;cases d <;> simp only[jl]at h <;> first|cases h|skip
  rw[of_decide_eq_true h]
 ·subst e;cases d <;> simp only[jl]at h <;> first|rfl|cases h
 ·subst e;cases d <;> simp only[jl]at h <;> first|rfl|cases h
 ·subst e;cases d <;> simp only[jl]at h <;> first|cases h|skip
  rw[Nat.eq_of_beq_eq_true h]
theorem zZ{P:Program}{t:Nat}{i:TI}(h:zY P t i=true):∃I d,ud P t i I d:=by
 unfold zY at h;cases hi:P.info? t with
 |none=>rw[hi]at h;cases h
 |some I=>
  cases hu:P.underlying t with
  |none=>rw[hi,hu]at h;cases h
  |some d=>
   rw[hi,hu]at h;simp only[Bool.and_eq_true]at h;obtain⟨⟨⟨⟨⟨⟨h1,h2,h3,h4⟩,h5⟩,h6,h7⟩,h8⟩,h9⟩,h10⟩:=h;refine⟨I,d,?_⟩;have hk:i.agg=false->jl i.cs d=true:=fun e=>by rw[e,Bool.false_or]at h10;exact h10
   exact
   {info:=hi
    zl:=hu
    size:=Nat.eq_of_beq_eq_true h1
    bytes:=Nat.eq_of_beq_eq_true h2
    bpos:=⟨Nat.le_of_ble_eq_true h3,Nat.le_of_ble_eq_true h4⟩
    zero:=by
     cases hz:I.zero with
     |none=>rw[hz]at h5;cases h5
     |some z=>rw[hz]at h5;exact⟨z,rfl,rf _ _ h5⟩
    row:=eq_of_beq h6
    one:=fun e=>by rw[e,Bool.false_or]at h7;exact Nat.eq_of_beq_eq_true h7
    fQ:=fun e=>by
     cases d with
     |struct fs=>simp only[e,Bool.not_true,Bool.false_or]at h8;obtain⟨r1,r2⟩:=pE _ _ h8;exact⟨fs,rfl,by simpa using r1,fun f q hq=>by simpa using r2 f q hq⟩
     |_=>rw[e]at h8;cases h8
    el:=fun e he=>by
     rw[he]at h9;cases d <;> simp only at h9 <;> first|cases h9|skip
     rw[Nat.eq_of_beq_eq_true h9]
    Dn:=fun k e1 e2=>(jm (hk e2)).1 k e1
    Cz:=fun e1 e2=>(jm (hk e2)).2.1 e1
    DE:=fun e1 e2=>(jm (hk e2)).2.2.1 e1
    Ig:=fun e cs e1 e2=>(jm (hk e2)).2.2.2 e cs e1 }
def uY:List (Nat×TI)->Nat->Option TI
 | [],_=>none
 |(t,i)::r,n=>bif Nat.beq t n then some i else uY r n
theorem so:∀ {l:List (Nat×TI)} {n:Nat} {i:TI},uY l n=some i->(n,i)∈l
 | [],_,_,h=>by cases h
 |(t,j)::r,n,i,h=>by
  simp only[uY]at h;cases hb:Nat.beq t n with
  |true=>rw[hb]at h;have h:=Option.some.inj h;subst h;rw[Nat.eq_of_beq_eq_true hb];simp
  |false=>rw[hb]at h;exact List.mem_cons_of_mem _ (so h)
def CY(P:Program)(l:List (Nat×TI)):Bool:=l.all fun p=>zY P p.1 p.2
def xC:List (Nat×IntKind)->Nat->Option IntKind
 | [],_=>none
 |(t,i)::r,n=>bif Nat.beq t n then some i else xC r n
def CZ(P:Program)(t:Nat)(k:IntKind):Bool:=
 match P.underlying t with
 |some (.map kt et)=>(match P.underlying kt with|some (.int k')=>decide (k'=k)|_=>false)&&(match P.info? et with|some I=>(match I.zero with|some (.bool b)=>!b|_=>false)|none=>false)
 |_=>false
theorem xj{P:Program}:∀ {l:List (Nat×IntKind)} {t:Nat} {k:IntKind},(l.all fun p=>CZ P p.1 p.2)=true->xC l t=some k->∃kt et I,P.underlying t=some (.map kt et)/\P.underlying kt=some (.int k)/\P.info? et=some I/\I.zero=some (.bool false)
 | [],_,_,_,h=>by cases h
 |(t',k')::r,t,k,ha,h=>by
  rw[List.all_cons,Bool.and_eq_true]at ha;simp only[xC]at h;cases hb:Nat.beq t' t with
  |false=>rw[hb]at h;exact xj ha.2 h
  |true=>
   rw[hb]at h;have h:=Option.some.inj h;subst h;obtain rfl:=Nat.eq_of_beq_eq_true hb;have hc:=ha.1;unfold CZ at hc;split at hc
   ·rename_i kt et hu;rw[Bool.and_eq_true]at hc;obtain⟨h1,h2⟩:=hc;split at h1
    ·rename_i k2 hk;obtain rfl:=of_decide_eq_true h1;split at h2
     ·rename_i I hI;split at h2
      ·rename_i b hz;cases b with
       |true=>cases h2
       |false=>exact⟨kt,et,I,hu,hk,hI,hz⟩
      ·cases h2
     ·cases h2
    ·cases h1
   ·cases hc
theorem D7{P:Program}{l:List (Nat×TI)}(hm:P.follows .mixedOrders=true)(h:CY P l=true){es:List Nat}(HA:(es.all fun t=>vW P (uY l) t)=true){ms:List (Nat×IntKind)}(FZ:(ms.all fun p=>CZ P p.1 p.2)=true)(E:Env)(GY:E.ti=uY l)(heq:∀t,E.E9 t=es.any (Nat.beq t))(hmp:E.mp=xC ms):cq P E where
 mo:=hm
 Gf t k ht:=by rw[hmp]at ht;exact xj FZ ht
 ti t i hi:=by rw[GY]at hi;exact zZ (List.all_eq_true.1 h (t,i) (so hi))
 eqs t i hi ht op x y us vs w:=by rw[heq t]at ht;obtain⟨t',h1,h2⟩:=List.any_eq_true.1 ht;have:=Nat.eq_of_beq_eq_true h2;subst this;rw[GY]at hi;intro ho hu hv;have:=C4 (List.all_eq_true.1 HA _ h1) hi op x y us vs w ho hu hv;rcases ho with rfl|rfl <;> exact this
end Go.R
namespace Go.R
def aK.iB:aK->aK->aK
 | .nil,d=>d
 | .cons t ts,d=>.cons t (ts.iB d)
def mi:(c d:aK)->c.T->d.T->(c.iB d).T
 | .nil,_,_,y=>y
 | .cons _ ts,d,x,y=>kV (kL x) (mi ts d (jP x) y)
theorem zK:∀(c d:aK),(c.iB d).len=c.len+d.len
 | .nil,d=>by simp[aK.iB,aK.len]
 | .cons _ ts,d=>by simp[aK.iB,aK.len,zK ts d];omega
mutual
def Ty.wf:(t:Ty)->t.T->Prop
 | .int k,x=>(Lit.int k x).wf=true
 | .bool,_=>True
 | .str,x=>ByteArray.size x<=maxLen
 | .sl _ cs,x=>List.length x<=maxLen/\∀y,List.Mem y x->aK.wf cs y
def aK.wf:(cs:aK)->cs.T->Prop
 | .nil,_=>True
 | .cons t ts,x=>Ty.wf t (kL x)/\aK.wf ts (jP x)
end
theorem Bv:∀(c d:aK) (x:c.T) (y:d.T),c.wf x->d.wf y->(c.iB d).wf (mi c d x y)
 | .nil,_,_,_,_,h=>h
 | .cons t ts,d,x,y,h,h'=>by
  have h1:kL (kV (t:=t) (ts:=ts.iB d) (kL x) (mi ts d (jP x) y))=kL x:=k8 _ _;have h2:jP (kV (t:=t) (ts:=ts.iB d) (kL x) (mi ts d (jP x) y))=mi ts d (jP x) y:=lu _ _;refine⟨?_,?_⟩
  ·show t.wf (kL (kV (kL x) (mi ts d (jP x) y)));rw[h1];exact h.1
  ·show(ts.iB d).wf (jP (kV (kL x) (mi ts d (jP x) y)));rw[h2];exact Bv ts d _ y h.2 h'
section
variable {P:Program} {w:World} {ω:aJ}
theorem Cw{md:Nat->Md}{g:Nat->Option Value}:∀(c d:aK) (j:Nat) (x:c.T) (y:d.T),c.R w ω md g j x->d.R w ω md g (j+c.len) y->(c.iB d).R w ω md g j (mi c d x y)
 | .nil,_,_,_,_,_,h=>h
 | .cons t ts,d,j,x,y,h,h'=>by
  have h1:kL (kV (t:=t) (ts:=ts.iB d) (kL x) (mi ts d (jP x) y))=kL x:=k8 _ _;have h2:jP (kV (t:=t) (ts:=ts.iB d) (kL x) (mi ts d (jP x) y))=mi ts d (jP x) y:=lu _ _;obtain⟨⟨v,q1,q2⟩,q3⟩:=h;refine⟨⟨v,q1,?_⟩,?_⟩
  ·show t.R w ω (md j) v (kL (kV (kL x) (mi ts d (jP x) y)));rw[h1];exact q2
  ·show(ts.iB d).R w ω md g (j+1) (jP (kV (kL x) (mi ts d (jP x) y)));rw[h2];refine Cw ts d (j+1) _ y q3 ?_;have:j+(aK.cons t ts).len=j+1+ts.len:=by simp[aK.len];omega
   rw[<-this];exact h'
theorem sV{g g':Nat->Option Value}:∀(c:aK) (j j':Nat) (x:c.T),(∀k,k<c.len->g (j+k)=g' (j'+k))->c.R w ω (fun _=>.cB) g' j' x->c.R w ω (fun _=>.cB) g j x
 | .nil,_,_,_,_,_=>trivial
 | .cons t ts,j,j',x,hg,h=>by obtain⟨⟨v,q1,q2⟩,q3⟩:=h;refine⟨⟨v,(hg 0 (by simp[aK.len])).trans q1,q2⟩,sV ts (j+1) (j'+1) _ (fun k hk=>?_) q3⟩;have:=hg (k+1) (by simp[aK.len,hk]);rwa[show j+(k+1)=j+1+k by omega,show j'+(k+1)=j'+1+k by omega]at this
mutual
def Bk(P:Program):Nat->Nat->Option aK
 |0,_=>none
 |n+1,t=>
  match P.underlying t with
  |some (.int k)=>bif Nat.beq (P.cellsOf t) 1 then some (.cons (.int k) .nil)else none
  |some .bool=>bif Nat.beq (P.cellsOf t) 1 then some (.cons .bool .nil)else none
  |some .string=>bif Nat.beq (P.cellsOf t) 1 then some (.cons .str .nil)else none
  |some (.slice e)=>match Bk P n e with
   |some cs=>bif Nat.beq (P.cellsOf t) 1&&(Nat.ble 1 cs.len&&Nat.beq (P.cellsOf e) cs.len)then some (.cons (.sl e cs) .nil)else none
   |none=>none
  |some (.struct fs)=>match qF P n fs.toList 0 with
   |some cs=>bif Nat.beq (P.cellsOf t) cs.len then some cs else none
   |none=>none
  |_=>none
def qF(P:Program):Nat->List Field->Nat->Option aK
 |_,[],_=>some .nil
 |0,_::_,_=>none
 |n+1,F::fs,off=>bif Nat.beq F.offset off then
   match Bk P n F.type with
   |some c=>bif Nat.beq (P.cellsOf F.type) c.len then(qF P n fs (off+c.len)).map (c.iB ·)else none
   |none=>none
  else none
end
theorem mapM_some{α β:Type}{f:α->Option β}:∀ {l:List α} {r:List β},l.mapM f=some r->r.length=l.length/\∀(i:Nat) (x:α),l[i]? = some x->∃y,r[i]? = some y/\f x=some y
 | [],r,h=>by simp at h;subst h;exact⟨rfl,by simp⟩
 |a::l,r,h=>by
  rw[List.mapM_cons]at h;cases ha:f a with
  |none=>rw[ha]at h;cases h
  |some b=>
   rw[ha]at h;cases hl:l.mapM f with
   |none=>simp[hl]at h
   |some bs=>
    simp[hl]at h;subst h;obtain⟨h1,h2⟩:=mapM_some hl;refine⟨by simp[h1],fun i x hx=>?_⟩;cases i with
    |zero=>simp at hx;subst hx;exact⟨b,rfl,ha⟩
    |succ i=>simpa using h2 i x (by simpa using hx)
theorem cells?_some{base:Nat}{A:Addr}{n:Nat}{cs:List Value}(h:w.cells? base A n=some cs):cs.length=n/\∀j,j<n->w.cell? (A.add j)=cs[j]?:=by
 unfold World.cells? at h;split at h
 ·obtain⟨h1,h2⟩:=mapM_some h;refine⟨by simpa using h1,fun j hj=>?_⟩;obtain⟨y,q1,q2⟩:=h2 j j (by rw[List.getElem?_range hj]);rw[q1];exact q2
 ·cases h
theorem nX{α:Type}{p:Nat->α->Prop}:∀(n:Nat),(∀i,i<n->∃x,p i x)->∃l:List α,l.length=n/\∀i x,l[i]? = some x->p i x
 |0,_=>⟨[],rfl,by simp⟩
 |n+1,h=>by
  obtain⟨l,h1,h2⟩:=nX n (fun i hi=>h i (by omega));obtain⟨x,hx⟩:=h n (by omega);refine⟨l++[x],by simp[h1],fun i y hy=>?_⟩;by_cases hi:i<l.length
  ·rw[List.getElem?_append_left hi]at hy;exact h2 i y hy
  ·rw[List.getElem?_append_right (by omega)]at hy;have:i-l.length=0:=by have:=(List.getElem?_eq_some_iff.1 hy).1;simp at this;omega
   rw[this]at hy;simp at hy;subst hy;have:i=n:=by omega
   rw[this];exact hx
variable {H:Type} {enc:TypeId×Value->H} {base:Nat} {spare:Nat->Bool} {held:Bool}
mutual
theorem w6:∀(n t:Nat) (cs:aK) (fuel:Nat) (vs:List Value) (x:DataW H×List MemPlace),Bk P n t=some cs->DataW.trod enc P w base spare held fuel t vs=some x ->
  P.cellsOf t=cs.len/\vs.length=cs.len/\∃X:cs.T,cs.R w aJ.gx (fun _=>.cB) (fun j=>vs[j]?) 0 X/\cs.wf X
 |0,_,_,_,_,_,h,_=>by simp[Bk]at h
 |n+1,t,cs,fuel,vs,x,h,hx=>by
  unfold Bk at h;cases hu:P.underlying t with
  |none=>rw[hu]at h;cases h
  |some d=>
   rw[hu]at h;cases d with
   |int k=>
    simp only at h;cases hb:Nat.beq (P.cellsOf t) 1 with
    |false=>rw[hb]at h;cases h
    |true=>rw[hb]at h;have h:=Option.some.inj h;subst h;obtain⟨m,e1,e2,e3⟩:=DataW.trod_int hu hx;subst e1;exact⟨Nat.eq_of_beq_eq_true hb,rfl,(m:Int),⟨⟨_,rfl,rfl⟩,trivial⟩,e3,trivial⟩
   |bool=>
    simp only at h;cases hb:Nat.beq (P.cellsOf t) 1 with
    |false=>rw[hb]at h;cases h
    |true=>rw[hb]at h;have h:=Option.some.inj h;subst h;obtain⟨m,e1,e2⟩:=DataW.trod_bool hu hx;subst e1;exact⟨Nat.eq_of_beq_eq_true hb,rfl,(m:Bool),⟨⟨_,rfl,rfl⟩,trivial⟩,trivial,trivial⟩
   |string=>
    simp only at h;cases hb:Nat.beq (P.cellsOf t) 1 with
    |false=>rw[hb]at h;cases h
    |true=>rw[hb]at h;have h:=Option.some.inj h;subst h;obtain⟨m,e1,e2,e3⟩:=DataW.trod_string hu hx;subst e1;exact⟨Nat.eq_of_beq_eq_true hb,rfl,(m:ByteArray),⟨⟨_,rfl,rfl⟩,trivial⟩,e3,trivial⟩
   |slice e=>
    simp only at h;cases he:Bk P n e with
    |none=>rw[he]at h;cases h
    |some ce=>
     rw[he]at h;simp only at h;cases hb:(Nat.beq (P.cellsOf t) 1&&(Nat.ble 1 ce.len&&Nat.beq (P.cellsOf e) ce.len))with
     |false=>rw[hb]at h;cases h
     |true=>
      rw[hb]at h;have h:=Option.some.inj h;subst h;rw[Bool.and_eq_true,Bool.and_eq_true]at hb;have hce:=Nat.eq_of_beq_eq_true hb.2.2;have hpos:1<=ce.len:=Nat.le_of_ble_eq_true hb.2.1;refine⟨Nat.eq_of_beq_eq_true hb.1,?_⟩;rcases DataW.trod_slice hu hx with ⟨e1,_⟩|⟨A,len,cap,elems,rest,m,_,e1,_,_,hle,HI,hel,hrd,_⟩
      ·subst e1;refine⟨rfl,([]:List ce.T),⟨⟨_,rfl,none,0,0,rfl,rfl,Nat.le_refl _,fun hn=>absurd hn (by omega),fun i _ hi=>absurd hi (by omega)⟩,trivial⟩,⟨Nat.zero_le _,fun y hy=>by cases hy⟩,trivial⟩
      ·subst e1;refine⟨rfl,?_⟩;have hex:∀i,i<len->∃X:ce.T,∃ci:List Value,w.cells? base (A.add (i*P.cellsOf e)) (P.cellsOf e)=some ci/\ce.R w aJ.gx (fun _=>.cB) (fun j=>ci[j]?) 0 X/\ce.wf X:=by
        intro i hi;have h1:=hrd i hi;obtain⟨y,hy⟩:=js (l:=elems) (i:=i) (by omega);rw[hy]at h1;cases hc:w.cells? base (A.add (i*P.cellsOf e)) (P.cellsOf e)with
        |none=>rw[hc]at h1;cases h1
        |some ci=>rw[hc]at h1;obtain⟨_,_,X,hX,hW⟩:=w6 n e ce m ci y he h1;exact⟨X,ci,rfl,hX,hW⟩
       obtain⟨l,l1,l2⟩:=nX len hex;have hsp:0<len->A.spot=none:=by
        intro h0;obtain⟨X,ci,c1,_⟩:=hex 0 h0;obtain⟨c2,c3⟩:=cells?_some c1;obtain⟨u,oF⟩:=js (l:=ci) (i:=0) (by omega);have:=c3 0 (by omega);rw[oF]at this;cases hs:A.spot with
        |none=>rfl
        |some q=>exfalso;unfold World.cell? at this;unfold Addr.add at this;simp[hs]at this;split at this <;> simp at this
       refine⟨l,⟨⟨_,rfl,some A,len,cap,rfl,l1,hle,fun h0=>?_,fun i ad hi ha=>?_⟩,trivial⟩,⟨?_,fun y hy=>?_⟩,trivial⟩
       ·obtain⟨X,ci,c1,_⟩:=hex 0 h0;obtain⟨c2,c3⟩:=cells?_some c1;obtain⟨u,oF⟩:=js (l:=ci) (i:=0) (by omega);have:=c3 0 (by omega);rw[oF]at this;obtain⟨ab,ao,Fz⟩:=A;have hs:Fz=none:=hsp h0;subst hs;refine⟨ab,ao,rfl,rfl,?_⟩;rw[Addr.add_mid,Addr.add_mid]at this;unfold World.cell? at this;cases hh:w.heap[ab]? with
        |none=>rw[hh]at this;cases this
        |some _=>exact bB hh
       ·injection ha with ha
        subst ha;obtain⟨X,hX⟩:=js (l:=l) (i:=i) (by omega);obtain⟨ci,c1,c4,_⟩:=l2 i X hX;obtain⟨c2,c3⟩:=cells?_some c1;show ce.R w aJ.gx (fun _=>.cB) (fun j=>w.cell? ⟨A.block,A.off+i*ce.len+j,none⟩) 0 (List.getD l i (lB ce));rw[getD_some hX];obtain⟨ab,ao,Fz⟩:=A;have hs:Fz=none:=hsp (by omega);subst hs;refine sV ce 0 0 X (fun k hk=>?_) c4;have:=c3 k (by omega);rw[Addr.add_mid,Addr.add_mid,hce]at this;rw[Nat.zero_add];exact this
       ·show l.length<=maxLen;rw[l1];omega
       ·obtain⟨i,hi⟩:=List.getElem?_of_mem (show y∈l from hy);obtain⟨_,_,_,hw⟩:=l2 i y hi;exact hw
   |struct fs=>
    simp only at h;cases hf:qF P n fs.toList 0 with
    |none=>rw[hf]at h;cases h
    |some c=>
     rw[hf]at h;simp only at h;cases hb:Nat.beq (P.cellsOf t) c.len with
     |false=>rw[hb]at h;cases h
     |true=>
      rw[hb]at h;have h:=Option.some.inj h;subst h;have jH:=Nat.eq_of_beq_eq_true hb;obtain⟨xs,m,_,_,hl,hlen,HB⟩:=DataW.trod_struct hu hx;refine⟨jH,hl.trans jH,?_⟩;refine vE n fs.toList 0 c m vs hf (fun f hm=>?_);obtain⟨i,hi⟩:=List.getElem?_of_mem hm;have h1:=HB i f (by simpa using hi);have hlt:i<xs.length:=by rw[hlen];have:=(List.getElem?_eq_some_iff.1 hi).1;simpa using this
      obtain⟨y,hy⟩:=js hlt;exact⟨y,h1.trans hy⟩
   |_=>cases h
theorem vE:∀(n:Nat) (fs:List Field) (off:Nat) (cs:aK) (fuel:Nat) (vs:List Value),qF P n fs off=some cs->(∀f∈fs,∃x:DataW H×List MemPlace,DataW.trod enc P w base spare held fuel f.type ((vs.drop f.offset).take (P.cellsOf f.type))=some x) ->
  ∃X:cs.T,cs.R w aJ.gx (fun _=>.cB) (fun j=>vs[j]?) off X/\cs.wf X
 |n,[],off,cs,fuel,vs,h,_=>by
  have h:some aK.nil=some cs:=by cases n <;> exact h
  injection h with h
  subst h;exact⟨(),trivial,trivial⟩
 |0,_::_,_,_,_,_,h,_=>by simp[qF]at h
 |n+1,F::fs,off,cs,fuel,vs,h,hx=>by
  unfold qF at h;cases ho:Nat.beq F.offset off with
  |false=>rw[ho]at h;cases h
  |true=>
   rw[ho]at h;simp only[cond_true]at h;have HO:=Nat.eq_of_beq_eq_true ho;cases hc:Bk P n F.type with
   |none=>rw[hc]at h;cases h
   |some c=>
    rw[hc]at h;simp only at h;cases hb:Nat.beq (P.cellsOf F.type) c.len with
    |false=>rw[hb]at h;cases h
    |true=>
     rw[hb]at h;simp only[cond_true]at h;have hce:=Nat.eq_of_beq_eq_true hb;cases hr:qF P n fs (off+c.len)with
     |none=>rw[hr]at h;cases h
     |some d=>rw[hr]at h;have h:=Option.some.inj h;subst h;obtain⟨x,pW⟩:=hx F (by simp);obtain⟨_,hl,X,r1,w1⟩:=w6 n F.type c fuel _ x hc pW;obtain⟨Y,r2,w2⟩:=vE n fs (off+c.len) d fuel vs hr (fun f hf=>hx f (by simp[hf]));refine⟨mi c d X Y,Cw c d off X Y (sV c off 0 X (fun k hk=>?_) r1) r2,Bv c d X Y w1 w2⟩;rw[Nat.zero_add,hce,List.getElem?_take_of_lt hk,List.getElem?_drop,HO]
end
end
end Go.R
namespace Go.R
open Go.WideShapes Go.ChangeShapes
def xH(P:Program)(t:Nat):Option Sh:=
 match Bk P 40 t with
 |some cs=>match P.underlying t with
  |some (.struct _)=>some (.agg cs.ks)
  |_=>match cs with
   | .cons t' .nil=>some (.one (.val t'))
   |_=>none
 |none=>none
def E1:KV real->Prop
 |⟨.val t,x⟩=>t.wf x
 |⟨.arr ..,_⟩=>True
 |⟨.mp _,_⟩=>True
def fI.wf(ks:List K)(x:fI real ks):Prop:=∀v∈co ks x,E1 v
section
variable {P:Program} {w:World} {ω:aJ}
theorem vi:∀(cs:aK) (x:cs.T) (g:Nat->Option Value) (j b:Nat) (us:List Value),cs.R w ω (fun _=>.cB) g j x->(∀k,k<cs.len->g (j+k)=us[k]?)->us.length=cs.len->fw w ω b (AM (A:=real) cs x) us
 | .nil,_,_,_,_,us,_,_,hl=>by have:us=[]:=List.length_eq_zero_iff.1 hl;subst this;trivial
 | .cons t ts,x,g,j,b,us,h,hg,hl=>by
  match us,hl with
  |u::us,hl=>
   obtain⟨⟨v,q1,q2⟩,q3⟩:=h;have h0:=hg 0 (by simp[aK.len]);simp at h0;rw[h0]at q1;injection q1 with q1
   subst q1;refine⟨q2,vi ts _ g (j+1) (b+1) us q3 (fun k hk=>?_) (by simpa[aK.len] using hl)⟩;have:=hg (k+1) (by simp[aK.len,hk]);rwa[show j+(k+1)=j+1+k by omega,List.getElem?_cons_succ]at this
  | [],hl=>simp[aK.len]at hl
theorem wA:∀(cs:aK) (x:cs.T),cs.wf x->∀v∈AM (A:=real) cs x,E1 v
 | .nil,_,_,v,hv=>by cases hv
 | .cons t ts,x,h,v,hv=>by
  cases hv with
  |head=>exact h.1
  |tail _ hm=>exact wA ts _ h.2 v hm
theorem vD:∀(ks:List K) (vs:List (KV real)), vs.map (·.1) = ks -> ∃x:fI real ks, co ks x = vs
  | [], [], _=>⟨(), rfl⟩
  | [], _:: _, h=>by cases h
  |_:: _, [], h=>by cases h
  |k:: ks, ⟨k', y⟩:: vs, h=>by simp only[List.map_cons, List.cons.injEq]at h;obtain⟨h1, h2⟩:=h;subst h1;obtain⟨x, hx⟩:=vD ks vs h2;exact⟨(y, x), by simp only[co]; rw[hx]⟩
variable {H:Type} {enc:TypeId×Value->H} {base:Nat} {spare:Nat->Bool} {held:Bool} {r:Reach}
theorem zL{t b0:Nat}{v:Value}{d:DataW H}{p:List MemPlace}{sh:Sh}(b:Nat)(hs:xH P t = some sh)(hv:Value.okWide P w r b0 t v)(h:DataW.Trod enc P w base spare held t v d p):
    ∃vs:List (KV real), zp w aJ.gx b sh vs v /\ vs.map (·.1) = sh.ks /\ ∀x ∈ vs, E1 x:=by
  unfold xH at hs;obtain⟨fuel, hx⟩:=h;cases hc:Bk P 40 t with
  |none=>rw[hc]at hs; cases hs
  |some cs=>
    rw[hc]at hs;obtain⟨h1, h2, X, h3, h4⟩:=w6 40 t cs fuel v.cells.toList _ hc hx;have hrow:fw w aJ.gx b (AM (A:=real) cs X) v.cells.toList:=vi cs X _ 0 b _ h3 (fun k _=>by rw[Nat.zero_add]) h2;have single:∀t', cs = .cons t' .nil -> (v.cells = #[v]) -> Sh.one (.val t') = sh -> ∃vs:List (KV real), zp w aJ.gx b sh vs v /\ vs.map (·.1) = sh.ks /\ ∀x ∈ vs, E1 x:=by intro t' e1 e2 e3;subst e1; subst e3;rw[e2]at hrow;exact⟨_, ⟨_, rfl, hrow.1⟩, rfl, wA _ X h4⟩
    cases hu:P.underlying t with
    |none=>exfalso;unfold Bk at hc;rw[hu]at hc;cases hc
    |some dd=>
      rw[hu]at hs;have Ak:(∃fs, dd = .struct fs) \/ (∃t', cs = .cons t' .nil /\ Sh.one (.val t') = sh /\ v.cells = #[v]):=by
        cases dd with
        |struct fs=>exact .inl ⟨fs, rfl⟩
        |int k=>
          obtain⟨n, rfl⟩:=okWide_int hu hv;match cs, hs with
          | .cons t' .nil, hs=>exact .inr ⟨t', rfl, Option.some.inj hs, rfl⟩
        |bool=>
          obtain⟨n, rfl⟩:=okWide_bool hu hv;match cs, hs with
          | .cons t' .nil, hs=>exact .inr ⟨t', rfl, Option.some.inj hs, rfl⟩
        |string=>
          obtain⟨n, rfl⟩:=okWide_string hu hv;match cs, hs with
          | .cons t' .nil, hs=>exact .inr ⟨t', rfl, Option.some.inj hs, rfl⟩
        |slice e=>
          obtain⟨a', n, c, rfl⟩:=okWide_slice hu hv;match cs, hs with
          | .cons t' .nil, hs=>exact .inr ⟨t', rfl, Option.some.inj hs, rfl⟩
        |_=>exfalso;unfold Bk at hc;rw[hu]at hc;cases hc
      rcases Ak with ⟨fs, rfl⟩|⟨t', e1, e2, e3⟩
      · have hs:=Option.some.inj hs
        subst hs;obtain⟨arr, e1, _⟩:=okWide_struct hu hv;subst e1;refine⟨AM (A:=real) cs X, ⟨arr.toList, by simp, ?_⟩, tC _ _, wA _ X h4⟩;exact hrow
      · exact single t' e1 e3 e2
def qt(P:Program):List Nat->Option (List Sh)
 | []=>some []
 |t::ts=>match xH P t,qt P ts with
  |some s,some r=>some (s::r)
  |_,_=>none
theorem rJ:∀(ts:List Nat) (vs:List Value) (ds:List (DataW H)) (ps:List MemPlace) (aW:List Sh) (b b0:Nat), qt P ts = some aW -> (∀(j:Nat) t v, ts[j]? = some t -> vs[j]? = some v -> Value.okWide P w r b0 t v) -> DataW.TrodAll enc P w base spare held ts vs ds ps ->
    ∃kv:List (KV real), fJ w aJ.gx b aW kv vs /\ kv.map (·.1) = (aW.map Sh.ks).flatten /\ ∀x ∈ kv, E1 x
  | [], vs, ds, ps, aW, b, b0, hs, _, h=>by have hs:=Option.some.inj hs;subst hs;obtain⟨rfl, rfl, rfl⟩:=trodAll_nil h;exact⟨[], ⟨rfl, rfl⟩, rfl, fun x hx=>by cases hx⟩
  |t:: ts, vs, ds, ps, aW, b, b0, hs, hv, h=>by
    simp only[qt]at hs;cases h1:xH P t with
    |none=>rw[h1]at hs; cases hs
    |some sh=>
      cases h2:qt P ts with
      |none=>rw[h1, h2]at hs; cases hs
      |some Gr=>
        rw[h1, h2]at hs;have hs:=Option.some.inj hs;subst hs;obtain⟨v, vs', d, ds', p, q, rfl, rfl, rfl, hd, hr⟩:=trodAll_cons h;obtain⟨G2, r1, k1, w1⟩:=zL b h1 (hv 0 t v rfl rfl) hd;obtain⟨H8, r2, k2, w2⟩:=rJ ts vs' ds' q Gr (b + sh.width) b0 h2 (fun j t' v' hj fL=>hv (j + 1) t' v' (by simpa using hj) (by simpa using fL)) hr;have hlen:G2.length = sh.ks.length:=by rw[<- k1]; simp
        refine⟨G2 ++ H8, ⟨by rw[List.take_left' hlen]; exact hlen, by rw[List.take_left' hlen]; exact r1, by rw[List.drop_left' hlen]; exact r2⟩, by simp[k1, k2], fun x hx=>?_⟩;rcases List.mem_append.1 hx with hx|hx
        · exact w1 x hx
        · exact w2 x hx
theorem lz{w':World}(hb:RowKit.Below w.heap.size w w'):∀ {ts:List Nat} {vs:List Value} {ds:List (DataW H)} {ps:List MemPlace},DataW.TrodAll enc P w base spare held ts vs ds ps->DataW.TrodAll enc P w' base spare held ts vs ds ps
 | [],[],[],_,h=>h
 |_::_,_::_,_::_,_,⟨a,b,⟨n,h1⟩,h2,e⟩=>⟨a,b,⟨n,DataW.trod_carry n _ _ _ h1 (fun p hp=>hb.same (DataW.trod_lt n _ _ _ h1 p hp))⟩,lz hb h2,e⟩
theorem CU {w':World} (hl:laidOutB P = true) (hm:mapsRowed P = true) (hz:((List.range P.types.size).all fun t=>match P.underlying t with|some (.slice e)=>decide (0<P.cellsOf e)|_=>true) = true) {ts:List Nat} (hts:(ts.all fun t=>decide (t<P.types.size)) = true) {vs:List Value} {ds:List (DataW H)} {ps:List MemPlace}
    (hb:RowKit.Below w.heap.size w w') (h:DataW.TrodAll enc P w base (fun _=>true) true ts vs ds ps):DataW.TrodAll enc P w' base (fun b=>decide (b<w.heap.size)) true ts vs ds ps:=
  (lz hb h).respare (T:=(· < P.types.size)) (kids_rows hl hm) (slices_full_of P hz) (fun t ht=>of_decide_eq_true (List.all_eq_true.1 hts t ht)) (fun p hp=>decide_eq_true (h.lt p hp))
theorem DS {f:FuncId} {F:ij} {ts:List Nat} {vs:List Value} {ds:List (DataW H)} {ps:List MemPlace} {b0:Nat} (hF:eA P f F) (ry:xQ w aJ.gx) (hs:qt P ts=some F.args) (hl:F.args.all Sh.eN=true) (hr:F.aT=[.one (.val .bool)])
  (EJ:∀x,fI.wf _ x->∃y,F.fn x=some y/\(co _ y).head? = some ⟨.val .bool,(true:Bool)⟩) (hv:∀(j:Nat) t v,ts[j]? = some t->vs[j]? = some v->Value.okWide P w r b0 t v) (h:DataW.TrodAll enc P w base spare held ts vs ds ps):
  Calls P f vs.toArray w fun e w'=>e=.returned (.bool true)/\RowKit.Below w.heap.size w w':=by
 obtain⟨kv,r1,k1,w1⟩:=rJ ts vs ds ps F.args 1 b0 hs hv h;obtain⟨x,hx⟩:=vD _ kv k1;obtain⟨y,hy,hh⟩:=EJ x (by unfold fI.wf;rw[hx];exact w1);have hc:=hF.calls w aJ.gx vs x y ry (fun _ _ _ h=>nomatch h) (fun _ _ h=>nomatch h) (by rw[hx];exact r1) hy;refine hc.mono fun e w' he=>?_;obtain⟨v,aI,rfl,hE,_,_,hres,_⟩:=he;refine⟨?_,hE.os,hE.tape,hE.output,hE.size,fun k hk=>(hE.block k hk (.inl rfl)).1⟩;have hlen:(F.aT.map Sh.ks).flatten.length=1:=by rw[hr];rfl
 have F6:(co _ y).take (F.aT.map Sh.ks).flatten.length=[⟨.val .bool,(true:Bool)⟩]:=by
  rw[hlen];cases hq:co _ y with
  |nil=>rw[hq]at hh;cases hh
  |cons a l=>rw[hq]at hh;simp at hh;subst hh;rfl
 rw[F6,hr]at hres;obtain⟨_,v',e1,e2⟩:=hres;have e1:[(⟨.val .bool,(true:Bool)⟩:KV real)]=[v']:=e1;injection e1 with e1 _
 subst e1;have:v=.bool true:=e2;rw[this]
end
end Go.R
namespace Go.R
def big:Nat:=4611686018427387904
def body(fn:Func):Code:=fn.body.getD .skip
def uX:List (bV×ij)->bV->Option ij
 | [],_=>none
 |(f,F)::r,n=>bif bV.beq f n then some F else uX r n
def qc:List (Nat×eB)->Nat->Option eB
 | [],_=>none
 |(f,F)::r,n=>bif Nat.beq f n then some F else qc r n
def tT(P:Program):List (bV×ij)->Prop
 | []=>True
 |p::r=>eA P p.1.1 p.2/\tT P r
theorem qb{P:Program}:∀ {l:List (bV×ij)},tT P l->∀f F,uX l f=some F->eA P f.1 F
 | [],_,_,_,h=>by cases h
 |(g,G)::l,hl,f,F,h=>by
  simp only[uX]at h;cases hb:bV.beq g f with
  |true=>rw[hb]at h;have h:=Option.some.inj h;subst h;have:=hl.1;rw[bV.eq_of_beq hb]at this;exact this
  |false=>rw[hb]at h;exact qb hl.2 f F h
def lp(n:Nat)(c:Code)(i:Nat):Code:=((dl n c).getD i (0,.skip)).2
theorem DT{P:Program}{E:Env}{Λ:Nat->Option eB}{l:List (Nat×Code)}(h:l=[]):fp P E Λ l:=by subst h;exact fun p hp=>nomatch hp
theorem wE{P:Program}{E:Env}{Λ:Nat->Option eB}{n:Nat}{c:Code}{l:List (Nat×Code)}{L:eB}(hn:Λ n=some L)(h:nj P E c L)(hl:fp P E Λ l):fp P E Λ ((n,c)::l):=by
 intro p hp q hq;cases hp with
 |head=>
  have:some L=some q:=hn.symm.trans hq;injection this with this
  subst this;exact h
 |tail _ hm=>exact hl p hm q hq
theorem loops_eq{P:Program}{E:Env}{Λ:Nat->Option eB}{l l':List (Nat×Code)}(h:l=l')(hl:fp P E Λ l'):fp P E Λ l:=by rw[h];exact hl
theorem AX {P:Program} {E:Env} {Ψ:bV->Option ij} {Λ:Nat->Option eB} (hE:cq P E) (EP:∀f F,Ψ f=some F->eA P f.1 F) {n:Nat} {c:Code} {keep cY:bN} {cI:rF} (hL:fp P E Λ (dl n c))
  (B:fI real (bN.ks keep)->fI real (bN.ks cY)->Option (fI real (bN.ks cY)⊕jL real cI)) (hB:∀kx x,pz E Ψ Λ n c keep cY cI kx x=B kx x):
  nj P E c ⟨keep,cY,cI,fun kx x=>iter (B kx) big x⟩:=
 Cg hE (sI EP) hL (fun _ _=>big) (fun kx x=>by show iter (B kx) big x=iter (pz E Ψ Λ n c keep cY cI kx) big x;have:pz E Ψ Λ n c keep cY cI kx=B kx:=funext (hB kx);rw[this])
theorem CA {P:Program} {f:FuncId} {F:ij} {fn:Func} {c:Code} (h1:P.funcs[f]? = some fn) (h2:(fn.name == "runtime.NumGoroutine") = false) (h3:fn.body = some c) (hn:∀x, F.fn x = none):eA P f F:=⟨⟨fn,c,h1,h2,h3⟩,fun w ω us x y _ _ _ _ hy=>by rw[hn]at hy;cases hy⟩
theorem DB{P:Program}{f:FuncId}{F:Nat->ij}(h0:eA P f (F 0))(hs:∀n,eA P f (F n)->eA P f (F (n+1))):∀n,eA P f (F n)
 |0=>h0
 |n+1=>hs n (DB h0 hs n)
def lets{α β:Type}(x:α)(k:α->β):β:=k x
theorem Fo{α β:Type}{x y:α}{k:α->β}(h:x=y):lets x k=k y:=by rw[h];rfl
theorem av{α β:Type}{f:α->Option (α⊕β)}{n:Nat}{x:α}{b:β}(h:f x=some (.inr b)):iter f (n+1) x=some b:=by simp[iter,h]
theorem aF{α β:Type}{f:α->Option (α⊕β)}{n:Nat}{x y:α}(h:f x=some (.inl y)):iter f (n+1) x=iter f n y:=by simp[iter,h]
theorem bh{α β:Type}{f:α->Option (α⊕β)}:∀ {n m:Nat} {x:α} {b:β},iter f n x=some b->n<=m->iter f m x=some b
 |0,_,_,_,h,_=>by cases h
 |n+1,0,_,_,_,hle=>absurd hle (by omega)
 |n+1,m+1,x,b,h,hle=>by
  simp only[iter]at h⊢;cases hf:f x with
  |none=>rw[hf]at h;cases h
  |some q=>
   rw[hf]at h;cases q with
   |inl y=>exact bh (n:=n) (m:=m) h (by omega)
   |inr b'=>exact h
end Go.R
namespace Go.R
def DW(P:Program)(E:Env)(n:Nat)(c:Code):List (Nat×eB)->Nat->Prop
 | [],_=>True
 |p::r,i=>nj P E (lp n c i) p.2/\DW P E n c r (i+1)
def oh:List (Nat×Code)->List (Nat×eB)->Bool
 | [],[]=>true
 |p::l,q::m=>Nat.beq p.1 q.1&&(m.all fun r=>!Nat.beq q.1 r.1)&&oh l m
 |_,_=>false
theorem qd:∀ {l:List (Nat×Code)} {m:List (Nat×eB)},oh l m=true->∀q∈m,qc m q.1=some q.2
 | [],[],_,_,h=>nomatch h
 | [],_::_,h,_,_=>nomatch h
 |_::_,[],h,_,_=>nomatch h
 |p::l,r::m,h,q,hq=>by
  simp only[oh,Bool.and_eq_true,List.all_eq_true]at h;obtain⟨⟨_,h2⟩,h3⟩:=h;cases hq with
  |head=>show(bif Nat.beq r.1 r.1 then some r.2 else qc m r.1)=_;rw[Nat.beq_refl];rfl
  |tail _ hm=>
   show(bif Nat.beq r.1 q.1 then some r.2 else qc m q.1)=_;have:=h2 q hm;cases hb:Nat.beq r.1 q.1 with
   |true=>rw[hb]at this;cases this
   |false=>exact qd h3 q hm
theorem AY{P:Program}{E:Env}{n:Nat}{c:Code}{Λ:Nat->Option eB}:∀(l:List (Nat×Code)) (m:List (Nat×eB)) (i:Nat),(∀j p,l[j]? = some p->(dl n c).getD (i+j) (0,.skip)=p)->oh l m=true->DW P E n c m i->(∀q∈m,Λ q.1=some q.2)->fp P E Λ l
 | [],_,_,_,_,_,_=>fun p hp=>nomatch hp
 |_::_,[],_,_,h,_,_=>nomatch h
 |p::l,r::m,i,hj,h,hm,G1=>by
  simp only[oh,Bool.and_eq_true]at h;have e:p.1=r.1:=Nat.eq_of_beq_eq_true h.1.1;obtain⟨k,c2⟩:=p;simp only at e;subst e;refine wE (G1 r (.head _)) ?_ (AY l m (i+1) (fun j p hp=>?_) h.2 hm.2 fun q hq=>G1 q (.tail _ hq))
  ·have:=hj 0 _ rfl;have h1:=hm.1;unfold lp at h1;rw[Nat.add_zero]at this;rw[this]at h1;exact h1
  ·have:=hj (j+1) p (by simpa using hp);rwa[show i+1+j=i+(j+1)by omega]
theorem xD{P:Program}{E:Env}{n:Nat}{c:Code}{m:List (Nat×eB)}(h:oh (dl n c) m=true)(hm:DW P E n c m 0):fp P E (qc m) (dl n c):=AY _ m 0 (fun j p hp=>by rw[Nat.zero_add,List.getD_eq_getElem?_getD,hp];rfl) h hm (qd h)
def D5(fn:Func)(nt na:Nat)(m:List (Nat×eB)):Bool:=!(fn.name == "runtime.NumGoroutine")&&(fn.body.isSome&&(Nat.beq fn.ntmps nt&&(Nat.ble na nt&&oh (dl 0 (body fn)) m)))
theorem fk {P:Program} {E:Env} (hE:cq P E) {T:List (bV×ij)} (hT:tT P T) (m:List (Nat×eB)) {f:FuncId} {ks:List Nat} {fn:Func} {F:ij} (hm:DW P E 0 (body fn) m 0) (h1:P.funcs[f]? = some fn)
  (hc:D5 fn E.nt F.args.length m=true)
  (hfn:∀x,F.fn x=exec E (aP _) (kZ (uX T) _) (lkt (qc m) noI noP _) 0 (body fn) (wc F.args (co _ x)) fun ex s=>bif ex.done then finish E (body fn) F.look F.args F.aT _ fn.results.toList s else none):tT P (((f,ks),F)::T):=by
 simp only[D5,Bool.and_eq_true,Bool.not_eq_true']at hc;obtain⟨c1,c2,c3,c4,c5⟩:=hc;have hb:fn.body=some (body fn):=by
  unfold body;cases h:fn.body with
  |none=>rw[h]at c2;cases c2
  |some c=>rfl
 exact⟨BP hE (qb hT) h1 c1 hb (Nat.eq_of_beq_eq_true c3) (Nat.le_of_ble_eq_true c4) (xD c5 hm) hfn,hT⟩
theorem lk {P:Program} {E:Env} (hE:cq P E) {T:List (bV×ij)} (hT:tT P T) {n:Nat} {c:Code} {keep cY:bN} {cI:rF} (m:List (Nat×eB)) (hm:DW P E n c m 0) (hc:oh (dl n c) m=true)
  {B:fI real (bN.ks keep)->fI real (bN.ks cY)->Option (fI real (bN.ks cY)⊕jL real cI)} (hB:∀kx x,pz E (uX T) (qc m) n c keep cY cI kx x=B kx x):
  nj P E c ⟨keep,cY,cI,fun kx x=>iter (B kx) big x⟩:=
 AX hE (qb hT) (xD hc hm) B hB
end Go.R
namespace Go.R
theorem zx{n:Int}(h1:-9223372036854775808<=n)(h2:n<=9223372036854775807):IntKind.i64.wrap n=n:=IntWalk.i64_in n ⟨h1,h2⟩
theorem bU{a b:Int}(h1:-9223372036854775808<=a+b)(h2:a+b<=9223372036854775807):aa .add .i64 a b=a+b:=zx h1 h2
theorem bM{a b:Int}(h1:-9223372036854775808<=a-b)(h2:a-b<=9223372036854775807):aa .sub .i64 a b=a-b:=zx h1 h2
theorem iY{a b:Int}(h1:-9223372036854775808<=a*b)(h2:a*b<=9223372036854775807):aa .mul .i64 a b=a*b:=zx h1 h2
theorem au{n:Nat}(h:n<1099511627776):aa .add .i64 (n:Int) 1=((n+1:Nat):Int):=by rw[bU] <;> omega
theorem iD{n:Nat}(h:n<1099511627776):aa .sub .i64 ((n+1:Nat):Int) 1=(n:Int):=by rw[bM] <;> omega
theorem eM(a b:Nat):af .lss (a:Int) (b:Int)=decide (a<b):=by simp[af]
theorem aj{α:Type}(a:Nat)(l:List α):af .lss (a:Int) (ai l)=decide (a<l.length):=by simp[af,ai]
theorem ax{α:Type}(l:List α)(n:Nat):ah l (n:Int)=decide (n<l.length):=by simp[ah]
theorem cK{α:Type}{l:List α}{n:Nat}(h:n<l.length):ah l (n:Int)=true:=by rw[ax];exact decide_eq_true h
theorem ak{α:Type}(z:α)(l:List α)(n:Nat):ae z l (n:Int)=l.getD n z:=by simp[ae]
theorem aQ{α:Type}(l:List α)(n:Nat)(y:α):aC l (n:Int) y=l.set n y:=by simp[aC]
theorem dU{α:Type}(n:Nat)(y:α):cX (n:Int) y=List.replicate n y:=by simp[cX]
theorem cE{α:Type}{l:List α}(h:l.length<=1073741824):cL (ai l)=true:=by unfold cL ai limit;rw[Bool.and_eq_true];exact⟨decide_eq_true (by omega),decide_eq_true (by omega)⟩
theorem aN{n:Nat}(h:n<1099511627776):n<big:=by
 have:big=4611686018427387904:=by unfold big;rfl
 omega
section
variable {X Y:Type} {body:X->Option (X⊕Y)}
theorem iV(st:Nat->X)(len:Nat)(g:Nat->Y)(hstep:∀n,n<len->(body (st n)=some (.inl (st (n+1)))/\g n=g (n+1))\/body (st n)=some (.inr (g n)))(hend:body (st len)=some (.inr (g len))):
  ∀(k n:Nat),n+k=len->iter body (k+1) (st n)=some (g n)
 |0,n,h=>by
  have:n=len:=by omega
  subst this;exact av hend
 |k+1,n,h=>by
  rcases hstep n (by omega)with ⟨h1,h2⟩|h1
  ·rw[aF h1,h2];exact iV st len g hstep hend k (n+1) (by omega)
  ·exact av h1
theorem jv(st:Nat->X)(len:Nat)(hlen:len<1099511627776)(g:Nat->Y)(hstep:∀n,n<len->(body (st n)=some (.inl (st (n+1)))/\g n=g (n+1))\/body (st n)=some (.inr (g n)))(hend:body (st len)=some (.inr (g len))):iter body big (st 0)=some (g 0):=bh (iV st len g hstep hend len 0 (by omega)) (aN hlen)
theorem aU(st:Nat->X)(len:Nat)(hlen:len<1099511627776)(y:Y)(hstep:∀n,n<len->body (st n)=some (.inl (st (n+1))))(hend:body (st len)=some (.inr y)):iter body big (st 0)=some y:=jv st len hlen (fun _=>y) (fun n hn=>.inl ⟨hstep n hn,rfl⟩) hend
def aB(ok:Nat->Bool):Nat->Nat->Bool
 |_,0=>true
 |n,k+1=>ok n&&aB ok (n+1) k
theorem bq(st:Nat->X)(len:Nat)(hlen:len<1099511627776)(ok:Nat->Bool)(yes no:Y)(hstep:∀n,n<len->body (st n)=some (bif ok n then .inl (st (n+1))else .inr no))(hend:body (st len)=some (.inr yes)):
  iter body big (st 0)=some (bif aB ok 0 len then yes else no):=by
 have:=jv st len hlen (fun n=>bif aB ok n (len-n)then yes else no) (fun n hn=>?_) (by simpa[aB] using hend)
 ·simpa using this
 ·have e:len-n=(len-(n+1))+1:=by omega
  cases ho:ok n with
  |true=>exact .inl ⟨by rw[hstep n hn,ho];rfl,by simp only[e,aB,ho,Bool.true_and]⟩
  |false=>exact .inr (by rw[hstep n hn,ho];simp only[e,aB,ho,Bool.false_and];rfl)
end
theorem fU{ok ok':Nat->Bool}:∀(k n:Nat),(∀m,n<=m->m<n+k->ok m=ok' m)->aB ok n k=aB ok' n k
 |0,_,_=>rfl
 |k+1,n,h=>by simp only[aB];rw[h n (by omega) (by omega),fU k (n+1) fun m h1 h2=>h m (by omega) (by omega)]
theorem aO{ok:Nat->Bool}:∀(k n:Nat),aB ok n k=true↔∀m,n<=m->m<n+k->ok m=true
 |0,n=>⟨fun _ m h1 h2=>absurd h2 (by omega),fun _=>rfl⟩
 |k+1,n=>by
  simp only[aB,Bool.and_eq_true];rw[aO k (n+1)];constructor
  ·intro ⟨h1,h2⟩ m h3 h4;rcases Nat.lt_or_ge n m with h|h
   ·exact h2 m (by omega) (by omega)
   ·have:m=n:=by omega
    subst this;exact h1
  ·intro h;exact⟨h n (by omega) (by omega),fun m h1 h2=>h m (by omega) (by omega)⟩
theorem dX{α:Type}(l:List α)(z:α){n:Nat}(h:n<l.length):(l.take n++List.replicate (l.length-n) z).set n (l.getD n z)=l.take (n+1)++List.replicate (l.length-(n+1)) z:=by
 have h1:(l.take n).length=n:=by rw[List.length_take];omega
 have e:l.length-n=(l.length-(n+1))+1:=by omega
 rw[List.set_append,if_neg (by omega),h1,Nat.sub_self,e,List.replicate_succ,List.set_cons_zero,List.take_add_one,List.append_assoc];congr 1;rw[List.getElem?_eq_getElem h,List.getD_eq_getElem?_getD,List.getElem?_eq_getElem h];rfl
theorem dI{α:Type}(l:List α)(z:α){n:Nat}(h:n<=l.length):(l.take n++List.replicate (l.length-n) z).length=l.length:=by rw[List.length_append,List.length_take,List.length_replicate];omega
theorem e9{α:Type}{l:List α}{n:Nat}(h:n<l.length)(z z':α):l.getD n z=l.getD n z':=by rw[List.getD_eq_getElem?_getD,List.getD_eq_getElem?_getD,List.getElem?_eq_getElem h];rfl
theorem aR{α β:Type}(x:α)(k:α->β):lets x k=k x:=rfl
theorem aG{α:Type}{l:List α}{n:Nat}(h:n<l.length)(y z:α):(l.set n y).getD n z=y:=by rw[List.getD_eq_getElem?_getD,List.getElem?_set_self h];rfl
theorem getD_set_ne{α:Type}{l:List α}{n m:Nat}(h:n≠m)(y z:α):(l.set n y).getD m z=l.getD m z:=by rw[List.getD_eq_getElem?_getD,List.getElem?_set_ne h,<-List.getD_eq_getElem?_getD]
theorem jt{α:Type}(l:List α)(n:Nat)(y:α)(m:Nat):ah (l.set n y) (m:Int)=decide (m<l.length):=by rw[ax,List.length_set]
theorem bI {α β X Y:Type} {body:X->Option (X⊕Y)} (l:List α) (z:α) (hlen:l.length<1099511627776) (f:β->α->β) (st:β->Nat->X) (Inv:Nat->β->Prop) (fin:β->Y)
  (hstep:∀n acc,n<l.length->Inv n acc->body (st acc n)=some (.inl (st (f acc (l.getD n z)) (n+1)))/\Inv (n+1) (f acc (l.getD n z))) (hend:∀acc,Inv l.length acc->body (st acc l.length)=some (.inr (fin acc))) (b0:β) (h0:Inv 0 b0):
  iter body big (st b0 0)=some (fin (l.foldl f b0))/\Inv l.length (l.foldl f b0):=by
 have j5:∀n,n<l.length->(l.take (n+1)).foldl f b0=f ((l.take n).foldl f b0) (l.getD n z):=by intro n hn;rw[List.take_add_one,List.foldl_append,List.getElem?_eq_getElem hn,List.getD_eq_getElem?_getD,List.getElem?_eq_getElem hn];rfl
 have hinv:∀n,n<=l.length->Inv n ((l.take n).foldl f b0):=by
  intro n;induction n with
  |zero=>intro _;simpa using h0
  |succ n ih=>intro hn;rw[j5 n hn];exact(hstep n _ hn (ih (Nat.le_of_lt hn))).2
 have gV:=hinv l.length (Nat.le_refl _);rw[List.take_length]at gV;refine⟨?_,gV⟩;have:=aU (body:=body) (fun n=>st ((l.take n).foldl f b0) n) l.length hlen (fin (l.foldl f b0)) (fun n hn=>by
  have:=(hstep n _ hn (hinv n (Nat.le_of_lt hn))).1;rw[<-j5 n hn]at this;exact this) (by
  have:=hend _ gV;rw[List.take_length];exact this)
 simpa using this
def gj{α β Y:Type}(step:β->α->β⊕Y)(fin:β->Y):List α->β->Y
 | [],b=>fin b
 |a::l,b=>match step b a with
  | .inl b'=>gj step fin l b'
  | .inr y=>y
theorem dG{α:Type}{l:List α}{n:Nat}(h:n<l.length)(z:α):l.drop n=l.getD n z::l.drop (n+1):=by rw[List.drop_eq_getElem_cons h,List.getD_eq_getElem?_getD,List.getElem?_eq_getElem h];rfl
theorem eT {α β X Y:Type} {body:X->Option (X⊕Y)} (l:List α) (z:α) (st:β->Nat->X) (step:β->α->β⊕Y) (fin:β->Y) (Inv:Nat->β->Prop)
  (hstep:∀n acc,n<l.length->Inv n acc->body (st acc n)=some (match step acc (l.getD n z)with| .inl b=>.inl (st b (n+1))| .inr y=>.inr y)/\∀b,step acc (l.getD n z)=.inl b->Inv (n+1) b)
  (hend:∀acc,Inv l.length acc->body (st acc l.length)=some (.inr (fin acc))):∀(k n:Nat) (b:β),n+k=l.length->Inv n b->iter body (k+1) (st b n)=some (gj step fin (l.drop n) b)
 |0,n,b,hk,hi=>by
  have:n=l.length:=by omega
  subst this;rw[List.drop_length];exact av (hend b hi)
 |k+1,n,b,hk,hi=>by
  have hn:n<l.length:=by omega
  obtain⟨h1,h2⟩:=hstep n b hn hi;rw[dG hn z];simp only[gj];cases hs:step b (l.getD n z)with
  |inl b'=>rw[hs]at h1;rw[aF h1];exact eT l z st step fin Inv hstep hend k (n+1) b' (by omega) (h2 b' hs)
  |inr y=>rw[hs]at h1;exact av h1
theorem gX {α β X Y:Type} {body:X->Option (X⊕Y)} (l:List α) (z:α) (hlen:l.length<1099511627776) (st:β->Nat->X) (step:β->α->β⊕Y) (fin:β->Y) (Inv:Nat->β->Prop)
  (hstep:∀n acc,n<l.length->Inv n acc->body (st acc n)=some (match step acc (l.getD n z)with| .inl b=>.inl (st b (n+1))| .inr y=>.inr y)/\∀b,step acc (l.getD n z)=.inl b->Inv (n+1) b)
  (hend:∀acc,Inv l.length acc->body (st acc l.length)=some (.inr (fin acc))) (b0:β) (h0:Inv 0 b0):iter body big (st b0 0)=some (gj step fin l b0):=
 bh (eT l z st step fin Inv hstep hend l.length 0 b0 (by omega) h0) (aN hlen)
theorem eL{X Y:Type}{body:X->Option (X⊕Y)}(st:Nat->X)(len:Nat)(hlen:len<1099511627776)(ok:Nat->Bool)(yes:Y)(no:Nat->Y)(hstep:∀n,n<len->body (st n)=some (bif ok n then .inl (st (n+1))else .inr (no n)))(hend:body (st len)=some (.inr yes)):
  ∃y,iter body big (st 0)=some y/\((aB ok 0 len=true/\y=yes)\/(aB ok 0 len=false/\∃n,n<len/\y=no n/\ok n=false)):=by
 have key:∀(k n:Nat),n+k=len->∃y,iter body (k+1) (st n)=some y/\((aB ok n k=true/\y=yes)\/(aB ok n k=false/\∃m,m<len/\y=no m/\ok m=false)):=by
  intro k;induction k with
  |zero=>
   intro n hn;have:n=len:=by omega
   subst this;exact⟨yes,av hend,.inl ⟨rfl,rfl⟩⟩
  |succ k ih=>
   intro n hn;have hs:=hstep n (by omega);cases ho:ok n with
   |true=>rw[ho]at hs;obtain⟨y,h1,h2⟩:=ih (n+1) (by omega);refine⟨y,by rw[aF hs];exact h1,?_⟩;simp only[aB,ho,Bool.true_and];exact h2
   |false=>rw[ho]at hs;exact⟨no n,av hs,.inr ⟨by simp only[aB,ho,Bool.false_and],n,by omega,rfl,ho⟩⟩
 obtain⟨y,h1,h2⟩:=key len 0 (by omega);exact⟨y,bh h1 (aN hlen),h2⟩
end Go.R

