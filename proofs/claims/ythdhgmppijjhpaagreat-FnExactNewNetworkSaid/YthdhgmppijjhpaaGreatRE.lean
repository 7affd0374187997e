import Derived.Test.YthdhgmppijjhpaaGreatRD
import Derived.OpenShut
import Derived.ChangeArms
import Derived.Below
import Derived.ChangeOld
import Derived.WideShapes
import Derived.ChangeShapes
import Derived.ReadAgain
import Derived.IntWalk
/- An abstract interpreter over the code of Go functions, proved sound once: what it answers, the code computes. Conditions: none. -/
set_option autoImplicit false
set_option linter.unusedVariables false
set_option linter.unusedSimpArgs false
set_option maxRecDepth 4000
namespace Go.R
def Tys.app:Tys→Tys→Tys
 | .nil,d=>d
 | .cons t ts,d=>.cons t (ts.app d)
def appT:(c d:Tys)→c.T→d.T→(c.app d).T
 | .nil,_,_,y=>y
 | .cons _ ts,d,x,y=>cnT (hdT x) (appT ts d (tlT x) y)
theorem app_tlen:∀ (c d:Tys),(c.app d).len=c.len+d.len
 | .nil,d=>by simp [Tys.app,Tys.len]
 | .cons _ ts,d=>by simp [Tys.app,Tys.len,app_tlen ts d];omega
mutual
def Ty.wf:(t:Ty)→t.T→Prop
 | .int k,x=>(Lit.int k x).wf=true
 | .bool,_=>True
 | .str,x=>ByteArray.size x≤maxLen
 | .sl _ cs,x=>List.length x≤maxLen∧∀ y,List.Mem y x→Tys.wf cs y
def Tys.wf:(cs:Tys)→cs.T→Prop
 | .nil,_=>True
 | .cons t ts,x=>Ty.wf t (hdT x)∧Tys.wf ts (tlT x)
end
theorem wf_app:∀ (c d:Tys) (x:c.T) (y:d.T),c.wf x→d.wf y→(c.app d).wf (appT c d x y)
 | .nil,_,_,_,_,h=>h
 | .cons t ts,d,x,y,h,h'=>by
  have h1:hdT (cnT (t:=t) (ts:=ts.app d) (hdT x) (appT ts d (tlT x) y))=hdT x:=hd_cn _ _
  have h2:tlT (cnT (t:=t) (ts:=ts.app d) (hdT x) (appT ts d (tlT x) y))=appT ts d (tlT x) y:=tl_cn _ _
  refine ⟨?_,?_⟩
  ·show t.wf (hdT (cnT (hdT x) (appT ts d (tlT x) y)))
   rw [h1];exact h.1
  ·show (ts.app d).wf (tlT (cnT (hdT x) (appT ts d (tlT x) y)))
   rw [h2];exact wf_app ts d _ y h.2 h'
section
variable {P:Program} {w:World} {ω:Own}
theorem R_app {md:Nat→Md} {g:Nat→Option Value}:∀ (c d:Tys) (j:Nat) (x:c.T) (y:d.T),c.R w ω md g j x→d.R w ω md g (j+c.len) y→(c.app d).R w ω md g j (appT c d x y)
 | .nil,_,_,_,_,_,h=>h
 | .cons t ts,d,j,x,y,h,h'=>by
  have h1:hdT (cnT (t:=t) (ts:=ts.app d) (hdT x) (appT ts d (tlT x) y))=hdT x:=hd_cn _ _
  have h2:tlT (cnT (t:=t) (ts:=ts.app d) (hdT x) (appT ts d (tlT x) y))=appT ts d (tlT x) y:=tl_cn _ _
  obtain ⟨⟨v,q1,q2⟩,q3⟩:=h
  refine ⟨⟨v,q1,?_⟩,?_⟩
  ·show t.R w ω (md j) v (hdT (cnT (hdT x) (appT ts d (tlT x) y)))
   rw [h1];exact q2
  ·show (ts.app d).R w ω md g (j+1) (tlT (cnT (hdT x) (appT ts d (tlT x) y)))
   rw [h2]
   refine R_app ts d (j+1) _ y q3 ?_
   have:j+(Tys.cons t ts).len=j+1+ts.len:=by simp [Tys.len];omega
   rw [←this];exact h'
theorem R_shift {g g':Nat→Option Value}:∀ (c:Tys) (j j':Nat) (x:c.T),(∀ k,k < c.len→g (j+k)=g' (j'+k))→c.R w ω (fun _=>.imm) g' j' x→c.R w ω (fun _=>.imm) g j x
 | .nil,_,_,_,_,_=>trivial
 | .cons t ts,j,j',x,hg,h=>by
  obtain ⟨⟨v,q1,q2⟩,q3⟩:=h
  refine ⟨⟨v,(hg 0 (by simp [Tys.len])).trans q1,q2⟩,R_shift ts (j+1) (j'+1) _ (fun k hk=>?_) q3⟩
  have:=hg (k+1) (by simp [Tys.len,hk])
  rwa [show j+(k+1)=j+1+k by omega,show j'+(k+1)=j'+1+k by omega] at this
mutual
def shp (P:Program):Nat→Nat→Option Tys
 | 0,_=>none
 | n+1,t =>
  match P.underlying t with
  | some (.int k)=>bif Nat.beq (P.cellsOf t) 1 then some (.cons (.int k) .nil) else none
  | some .bool=>bif Nat.beq (P.cellsOf t) 1 then some (.cons .bool .nil) else none
  | some .string=>bif Nat.beq (P.cellsOf t) 1 then some (.cons .str .nil) else none
  | some (.slice e)=>match shp P n e with
   | some cs=>bif Nat.beq (P.cellsOf t) 1 && (Nat.ble 1 cs.len && Nat.beq (P.cellsOf e) cs.len) then some (.cons (.sl e cs) .nil) else none
   | none=>none
  | some (.struct fs)=>match shpFs P n fs.toList 0 with
   | some cs=>bif Nat.beq (P.cellsOf t) cs.len then some cs else none
   | none=>none
  | _=>none
def shpFs (P:Program):Nat→List Field→Nat→Option Tys
 | _,[],_=>some .nil
 | 0,_::_,_=>none
 | n+1,F::fs,off=>bif Nat.beq F.offset off then
   match shp P n F.type with
   | some c=>bif Nat.beq (P.cellsOf F.type) c.len then (shpFs P n fs (off+c.len)).map (c.app ·) else none
   | none=>none
  else none
end
theorem mapM_some {α β:Type} {f:α→Option β}:∀ {l:List α} {r:List β},l.mapM f=some r→r.length=l.length∧∀ (i:Nat) (x:α),l[i]? = some x→∃ y,r[i]? = some y∧f x=some y
 | [],r,h=>by simp at h;subst h;exact ⟨rfl,by simp⟩
 | a::l,r,h=>by
  rw [List.mapM_cons] at h
  cases ha:f a with
  | none=>rw [ha] at h;cases h
  | some b =>
   rw [ha] at h
   cases hl:l.mapM f with
   | none=>simp [hl] at h
   | some bs =>
    simp [hl] at h
    subst h
    obtain ⟨h1,h2⟩:=mapM_some hl
    refine ⟨by simp [h1],fun i x hx=>?_⟩
    cases i with
    | zero=>simp at hx;subst hx;exact ⟨b,rfl,ha⟩
    | succ i=>simpa using h2 i x (by simpa using hx)
theorem cells?_some {base:Nat} {A:Addr} {n:Nat} {cs:List Value} (h:w.cells? base A n=some cs):cs.length=n∧∀ j,j < n→w.cell? (A.add j)=cs[j]?:=by
 unfold World.cells? at h
 split at h
 ·obtain ⟨h1,h2⟩:=mapM_some h
  refine ⟨by simpa using h1,fun j hj=>?_⟩
  obtain ⟨y,q1,q2⟩:=h2 j j (by rw [List.getElem?_range hj])
  rw [q1];exact q2
 ·cases h
theorem choose_list {α:Type} {p:Nat→α→Prop}:∀ (n:Nat),(∀ i,i < n→∃ x,p i x)→∃ l:List α,l.length=n∧∀ i x,l[i]? = some x→p i x
 | 0,_=>⟨[],rfl,by simp⟩
 | n+1,h=>by
  obtain ⟨l,h1,h2⟩:=choose_list n (fun i hi=>h i (by omega))
  obtain ⟨x,hx⟩:=h n (by omega)
  refine ⟨l++[x],by simp [h1],fun i y hy=>?_⟩
  by_cases hi:i < l.length
  ·rw [List.getElem?_append_left hi] at hy;exact h2 i y hy
  ·rw [List.getElem?_append_right (by omega)] at hy
   have:i - l.length=0:=by
    have:=(List.getElem?_eq_some_iff.1 hy).1
    simp at this;omega
   rw [this] at hy
   simp at hy
   subst hy
   have:i=n:=by omega
   rw [this];exact hx
variable {H:Type} {enc:TypeId×Value→H} {base:Nat} {spare:Nat→Bool} {held:Bool}
mutual
theorem trod_R:∀ (n t:Nat) (cs:Tys) (fuel:Nat) (vs:List Value) (x:DataW H×List MemPlace),shp P n t=some cs→DataW.trod enc P w base spare held fuel t vs=some x →
  P.cellsOf t=cs.len∧vs.length=cs.len∧∃ X:cs.T,cs.R w Own.nobody (fun _=>.imm) (fun j=>vs[j]?) 0 X∧cs.wf X
 | 0,_,_,_,_,_,h,_=>by simp [shp] at h
 | n+1,t,cs,fuel,vs,x,h,hx=>by
  unfold shp at h
  cases hu:P.underlying t with
  | none=>rw [hu] at h;cases h
  | some d =>
   rw [hu] at h
   cases d with
   | int k =>
    simp only at h
    cases hb:Nat.beq (P.cellsOf t) 1 with
    | false=>rw [hb] at h;cases h
    | true =>
     rw [hb] at h
     have h:=Option.some.inj h
     subst h
     obtain ⟨m,e1,e2,e3⟩:=DataW.trod_int hu hx
     subst e1
     exact ⟨Nat.eq_of_beq_eq_true hb,rfl,(m:Int),⟨⟨_,rfl,rfl⟩,trivial⟩,e3,trivial⟩
   | bool =>
    simp only at h
    cases hb:Nat.beq (P.cellsOf t) 1 with
    | false=>rw [hb] at h;cases h
    | true =>
     rw [hb] at h
     have h:=Option.some.inj h
     subst h
     obtain ⟨m,e1,e2⟩:=DataW.trod_bool hu hx
     subst e1
     exact ⟨Nat.eq_of_beq_eq_true hb,rfl,(m:Bool),⟨⟨_,rfl,rfl⟩,trivial⟩,trivial,trivial⟩
   | string =>
    simp only at h
    cases hb:Nat.beq (P.cellsOf t) 1 with
    | false=>rw [hb] at h;cases h
    | true =>
     rw [hb] at h
     have h:=Option.some.inj h
     subst h
     obtain ⟨m,e1,e2,e3⟩:=DataW.trod_string hu hx
     subst e1
     exact ⟨Nat.eq_of_beq_eq_true hb,rfl,(m:ByteArray),⟨⟨_,rfl,rfl⟩,trivial⟩,e3,trivial⟩
   | slice e =>
    simp only at h
    cases he:shp P n e with
    | none=>rw [he] at h;cases h
    | some ce =>
     rw [he] at h
     simp only at h
     cases hb:(Nat.beq (P.cellsOf t) 1 && (Nat.ble 1 ce.len && Nat.beq (P.cellsOf e) ce.len)) with
     | false=>rw [hb] at h;cases h
     | true =>
      rw [hb] at h
      have h:=Option.some.inj h
      subst h
      rw [Bool.and_eq_true,Bool.and_eq_true] at hb
      have hce:=Nat.eq_of_beq_eq_true hb.2.2
      have hpos:1≤ce.len:=Nat.le_of_ble_eq_true hb.2.1
      refine ⟨Nat.eq_of_beq_eq_true hb.1,?_⟩
      rcases DataW.trod_slice hu hx with ⟨e1,_⟩ | ⟨A,len,cap,elems,rest,m,_,e1,_,_,hle,hmax,hel,hrd,_⟩
      ·subst e1
       refine ⟨rfl,([]:List ce.T),⟨⟨_,rfl,none,0,0,rfl,rfl,Nat.le_refl _,fun hn=>absurd hn (by omega),fun i _ hi=>absurd hi (by omega)⟩,trivial⟩,⟨Nat.zero_le _,fun y hy=>by cases hy⟩,trivial⟩
      ·subst e1
       refine ⟨rfl,?_⟩
       have hex:∀ i,i < len→∃ X:ce.T,∃ ci:List Value,w.cells? base (A.add (i*P.cellsOf e)) (P.cellsOf e)=some ci∧ce.R w Own.nobody (fun _=>.imm) (fun j=>ci[j]?) 0 X∧ce.wf X:=by
        intro i hi
        have h1:=hrd i hi
        obtain ⟨y,hy⟩:=get_ex (l:=elems) (i:=i) (by omega)
        rw [hy] at h1
        cases hc:w.cells? base (A.add (i*P.cellsOf e)) (P.cellsOf e) with
        | none=>rw [hc] at h1;cases h1
        | some ci =>
         rw [hc] at h1
         obtain ⟨_,_,X,hX,hW⟩:=trod_R n e ce m ci y he h1
         exact ⟨X,ci,rfl,hX,hW⟩
       obtain ⟨l,l1,l2⟩:=choose_list len hex
       have hsp:0 < len→A.spot=none:=by
        intro h0
        obtain ⟨X,ci,c1,_⟩:=hex 0 h0
        obtain ⟨c2,c3⟩:=cells?_some c1
        obtain ⟨u,hu'⟩:=get_ex (l:=ci) (i:=0) (by omega)
        have:=c3 0 (by omega)
        rw [hu'] at this
        cases hs:A.spot with
        | none=>rfl
        | some q =>
         exfalso
         unfold World.cell? at this
         unfold Addr.add at this
         simp [hs] at this
         split at this <;> simp at this
       refine ⟨l,⟨⟨_,rfl,some A,len,cap,rfl,l1,hle,fun h0=>?_,fun i ad hi ha=>?_⟩,trivial⟩,⟨?_,fun y hy=>?_⟩,trivial⟩
       ·obtain ⟨X,ci,c1,_⟩:=hex 0 h0
        obtain ⟨c2,c3⟩:=cells?_some c1
        obtain ⟨u,hu'⟩:=get_ex (l:=ci) (i:=0) (by omega)
        have:=c3 0 (by omega)
        rw [hu'] at this
        obtain ⟨ab,ao,asp⟩:=A
        have hs:asp=none:=hsp h0
        subst hs
        refine ⟨ab,ao,rfl,rfl,?_⟩
        rw [Addr.add_mid,Addr.add_mid] at this
        unfold World.cell? at this
        cases hh:w.heap[ab]? with
        | none=>rw [hh] at this;cases this
        | some _=>exact heap_lt_of_some hh
       ·injection ha with ha
        subst ha
        obtain ⟨X,hX⟩:=get_ex (l:=l) (i:=i) (by omega)
        obtain ⟨ci,c1,c4,_⟩:=l2 i X hX
        obtain ⟨c2,c3⟩:=cells?_some c1
        show ce.R w Own.nobody (fun _=>.imm) (fun j=>w.cell? ⟨A.block,A.off+i*ce.len+j,none⟩) 0 (List.getD l i (zTs ce))
        rw [getD_some hX]
        obtain ⟨ab,ao,asp⟩:=A
        have hs:asp=none:=hsp (by omega)
        subst hs
        refine R_shift ce 0 0 X (fun k hk=>?_) c4
        have:=c3 k (by omega)
        rw [Addr.add_mid,Addr.add_mid,hce] at this
        rw [Nat.zero_add]
        exact this
       ·show l.length≤maxLen
        rw [l1];omega
       ·obtain ⟨i,hi⟩:=List.getElem?_of_mem (show y∈l from hy)
        obtain ⟨_,_,_,hw⟩:=l2 i y hi
        exact hw
   | struct fs =>
    simp only at h
    cases hf:shpFs P n fs.toList 0 with
    | none=>rw [hf] at h;cases h
    | some c =>
     rw [hf] at h
     simp only at h
     cases hb:Nat.beq (P.cellsOf t) c.len with
     | false=>rw [hb] at h;cases h
     | true =>
      rw [hb] at h
      have h:=Option.some.inj h
      subst h
      have hcl:=Nat.eq_of_beq_eq_true hb
      obtain ⟨xs,m,_,_,hl,hlen,hfd⟩:=DataW.trod_struct hu hx
      refine ⟨hcl,hl.trans hcl,?_⟩
      refine trodFs_R n fs.toList 0 c m vs hf (fun f hm=>?_)
      obtain ⟨i,hi⟩:=List.getElem?_of_mem hm
      have h1:=hfd i f (by simpa using hi)
      have hlt:i < xs.length:=by
       rw [hlen]
       have:=(List.getElem?_eq_some_iff.1 hi).1
       simpa using this
      obtain ⟨y,hy⟩:=get_ex hlt
      exact ⟨y,h1.trans hy⟩
   | _=>cases h
theorem trodFs_R:∀ (n:Nat) (fs:List Field) (off:Nat) (cs:Tys) (fuel:Nat) (vs:List Value),shpFs P n fs off=some cs→(∀ f∈fs,∃ x:DataW H×List MemPlace,DataW.trod enc P w base spare held fuel f.type ((vs.drop f.offset).take (P.cellsOf f.type))=some x) →
  ∃ X:cs.T,cs.R w Own.nobody (fun _=>.imm) (fun j=>vs[j]?) off X∧cs.wf X
 | n,[],off,cs,fuel,vs,h,_=>by
  have h:some Tys.nil=some cs:=by cases n <;> exact h
  injection h with h
  subst h
  exact ⟨(),trivial,trivial⟩
 | 0,_::_,_,_,_,_,h,_=>by simp [shpFs] at h
 | n+1,F::fs,off,cs,fuel,vs,h,hx=>by
  unfold shpFs at h
  cases ho:Nat.beq F.offset off with
  | false=>rw [ho] at h;cases h
  | true =>
   rw [ho] at h
   simp only [cond_true] at h
   have hoe:=Nat.eq_of_beq_eq_true ho
   cases hc:shp P n F.type with
   | none=>rw [hc] at h;cases h
   | some c =>
    rw [hc] at h
    simp only at h
    cases hb:Nat.beq (P.cellsOf F.type) c.len with
    | false=>rw [hb] at h;cases h
    | true =>
     rw [hb] at h
     simp only [cond_true] at h
     have hce:=Nat.eq_of_beq_eq_true hb
     cases hr:shpFs P n fs (off+c.len) with
     | none=>rw [hr] at h;cases h
     | some d =>
      rw [hr] at h
      have h:=Option.some.inj h
      subst h
      obtain ⟨x,hx1⟩:=hx F (by simp)
      obtain ⟨_,hl,X,r1,w1⟩:=trod_R n F.type c fuel _ x hc hx1
      obtain ⟨Y,r2,w2⟩:=trodFs_R n fs (off+c.len) d fuel vs hr (fun f hf=>hx f (by simp [hf]))
      refine ⟨appT c d X Y,R_app c d off X Y (R_shift c off 0 X (fun k hk=>?_) r1) r2,wf_app c d X Y w1 w2⟩
      rw [Nat.zero_add,hce,List.getElem?_take_of_lt hk,List.getElem?_drop,hoe]
end
end
end Go.R
namespace Go.R
open Go.WideShapes Go.ChangeShapes
def parSh (P:Program) (t:Nat):Option Sh:=
 match shp P 40 t with
 | some cs=>match P.underlying t with
  | some (.struct _)=>some (.agg cs.ks)
  | _=>match cs with
   | .cons t' .nil=>some (.one (.val t'))
   | _=>none
 | none=>none
def wfK:KV real→Prop
 | ⟨.val t,x⟩=>t.wf x
 | ⟨.arr ..,_⟩=>True
 | ⟨.mp _,_⟩=>True
def KTs.wf (ks:List K) (x:KTs real ks):Prop:=∀ v∈ofKTs ks x,wfK v
section
variable {P:Program} {w:World} {ω:Own}
theorem row_RKVs:∀ (cs:Tys) (x:cs.T) (g:Nat→Option Value) (j b:Nat) (us:List Value),cs.R w ω (fun _=>.imm) g j x→(∀ k,k < cs.len→g (j+k)=us[k]?)→us.length=cs.len→RKVs w ω b (kvs (A:=real) cs x) us
 | .nil,_,_,_,_,us,_,_,hl=>by
  have:us=[]:=List.length_eq_zero_iff.1 hl
  subst this
  trivial
 | .cons t ts,x,g,j,b,us,h,hg,hl=>by
  match us,hl with
  | u::us,hl =>
   obtain ⟨⟨v,q1,q2⟩,q3⟩:=h
   have h0:=hg 0 (by simp [Tys.len])
   simp at h0
   rw [h0] at q1
   injection q1 with q1
   subst q1
   refine ⟨q2,row_RKVs ts _ g (j+1) (b+1) us q3 (fun k hk=>?_) (by simpa [Tys.len] using hl)⟩
   have:=hg (k+1) (by simp [Tys.len,hk])
   rwa [show j+(k+1)=j+1+k by omega,List.getElem?_cons_succ] at this
  | [],hl=>simp [Tys.len] at hl
theorem kvs_wf:∀ (cs:Tys) (x:cs.T),cs.wf x→∀ v∈kvs (A:=real) cs x,wfK v
 | .nil,_,_,v,hv=>by cases hv
 | .cons t ts,x,h,v,hv=>by
  cases hv with
  | head=>exact h.1
  | tail _ hm=>exact kvs_wf ts _ h.2 v hm
theorem toKTs_ex : ∀ (ks : List K) (vs : List (KV real)), vs.map (·.1) = ks → ∃ x : KTs real ks, ofKTs ks x = vs
  | [], [], _ => ⟨(), rfl⟩
  | [], _ :: _, h => by cases h
  | _ :: _, [], h => by cases h
  | k :: ks, ⟨k', y⟩ :: vs, h => by
    simp only [List.map_cons, List.cons.injEq] at h
    obtain ⟨h1, h2⟩ := h
    subst h1
    obtain ⟨x, hx⟩ := toKTs_ex ks vs h2
    exact ⟨(y, x), by simp only [ofKTs]; rw [hx]⟩
variable {H:Type} {enc:TypeId×Value→H} {base:Nat} {spare:Nat→Bool} {held:Bool} {r:Reach}
theorem arg_read {t b0 : Nat} {v : Value} {d : DataW H} {p : List MemPlace} {sh : Sh} (b : Nat) (hs : parSh P t = some sh) (hv : Value.okWide P w r b0 t v) (h : DataW.Trod enc P w base spare held t v d p) :
    ∃ vs : List (KV real), RSh w Own.nobody b sh vs v ∧ vs.map (·.1) = sh.ks ∧ ∀ x ∈ vs, wfK x := by
  unfold parSh at hs
  obtain ⟨fuel, hx⟩ := h
  cases hc : shp P 40 t with
  | none => rw [hc] at hs; cases hs
  | some cs =>
    rw [hc] at hs
    obtain ⟨h1, h2, X, h3, h4⟩ := trod_R 40 t cs fuel v.cells.toList _ hc hx
    have hrow : RKVs w Own.nobody b (kvs (A := real) cs X) v.cells.toList := row_RKVs cs X _ 0 b _ h3 (fun k _ => by rw [Nat.zero_add]) h2
    have single : ∀ t', cs = .cons t' .nil → (v.cells = #[v]) → Sh.one (.val t') = sh → ∃ vs : List (KV real), RSh w Own.nobody b sh vs v ∧ vs.map (·.1) = sh.ks ∧ ∀ x ∈ vs, wfK x := by
      intro t' e1 e2 e3
      subst e1; subst e3
      rw [e2] at hrow
      exact ⟨_, ⟨_, rfl, hrow.1⟩, rfl, kvs_wf _ X h4⟩
    cases hu : P.underlying t with
    | none =>
      exfalso
      unfold shp at hc
      rw [hu] at hc
      cases hc
    | some dd =>
      rw [hu] at hs
      have hcase : (∃ fs, dd = .struct fs) ∨ (∃ t', cs = .cons t' .nil ∧ Sh.one (.val t') = sh ∧ v.cells = #[v]) := by
        cases dd with
        | struct fs => exact .inl ⟨fs, rfl⟩
        | int k =>
          obtain ⟨n, rfl⟩ := okWide_int hu hv
          match cs, hs with
          | .cons t' .nil, hs => exact .inr ⟨t', rfl, Option.some.inj hs, rfl⟩
        | bool =>
          obtain ⟨n, rfl⟩ := okWide_bool hu hv
          match cs, hs with
          | .cons t' .nil, hs => exact .inr ⟨t', rfl, Option.some.inj hs, rfl⟩
        | string =>
          obtain ⟨n, rfl⟩ := okWide_string hu hv
          match cs, hs with
          | .cons t' .nil, hs => exact .inr ⟨t', rfl, Option.some.inj hs, rfl⟩
        | slice e =>
          obtain ⟨a', n, c, rfl⟩ := okWide_slice hu hv
          match cs, hs with
          | .cons t' .nil, hs => exact .inr ⟨t', rfl, Option.some.inj hs, rfl⟩
        | _ =>
          exfalso
          unfold shp at hc
          rw [hu] at hc
          cases hc
      rcases hcase with ⟨fs, rfl⟩ | ⟨t', e1, e2, e3⟩
      · have hs := Option.some.inj hs
        subst hs
        obtain ⟨arr, e1, _⟩ := okWide_struct hu hv
        subst e1
        refine ⟨kvs (A := real) cs X, ⟨arr.toList, by simp, ?_⟩, kvs_ks _ _, kvs_wf _ X h4⟩
        exact hrow
      · exact single t' e1 e3 e2
def parShs (P:Program):List Nat→Option (List Sh)
 | []=>some []
 | t::ts=>match parSh P t,parShs P ts with
  | some s,some r=>some (s::r)
  | _,_=>none
theorem args_read : ∀ (ts : List Nat) (vs : List Value) (ds : List (DataW H)) (ps : List MemPlace) (shs : List Sh) (b b0 : Nat), parShs P ts = some shs → (∀ (j : Nat) t v, ts[j]? = some t → vs[j]? = some v → Value.okWide P w r b0 t v) → DataW.TrodAll enc P w base spare held ts vs ds ps →
    ∃ kv : List (KV real), RShs w Own.nobody b shs kv vs ∧ kv.map (·.1) = (shs.map Sh.ks).flatten ∧ ∀ x ∈ kv, wfK x
  | [], vs, ds, ps, shs, b, b0, hs, _, h => by
    have hs := Option.some.inj hs
    subst hs
    obtain ⟨rfl, rfl, rfl⟩ := trodAll_nil h
    exact ⟨[], ⟨rfl, rfl⟩, rfl, fun x hx => by cases hx⟩
  | t :: ts, vs, ds, ps, shs, b, b0, hs, hv, h => by
    simp only [parShs] at hs
    cases h1 : parSh P t with
    | none => rw [h1] at hs; cases hs
    | some sh =>
      cases h2 : parShs P ts with
      | none => rw [h1, h2] at hs; cases hs
      | some shs' =>
        rw [h1, h2] at hs
        have hs := Option.some.inj hs
        subst hs
        obtain ⟨v, vs', d, ds', p, q, rfl, rfl, rfl, hd, hr⟩ := trodAll_cons h
        obtain ⟨kv1, r1, k1, w1⟩ := arg_read b h1 (hv 0 t v rfl rfl) hd
        obtain ⟨kv2, r2, k2, w2⟩ := args_read ts vs' ds' q shs' (b + sh.width) b0 h2 (fun j t' v' hj hv' => hv (j + 1) t' v' (by simpa using hj) (by simpa using hv')) hr
        have hlen : kv1.length = sh.ks.length := by rw [← k1]; simp
        refine ⟨kv1 ++ kv2, ⟨by rw [List.take_left' hlen]; exact hlen, by rw [List.take_left' hlen]; exact r1, by rw [List.drop_left' hlen]; exact r2⟩, by simp [k1, k2], fun x hx => ?_⟩
        rcases List.mem_append.1 hx with hx | hx
        · exact w1 x hx
        · exact w2 x hx
theorem trodAll_keeps {w':World} (hb:RowKit.Below w.heap.size w w'):∀ {ts:List Nat} {vs:List Value} {ds:List (DataW H)} {ps:List MemPlace},DataW.TrodAll enc P w base spare held ts vs ds ps→DataW.TrodAll enc P w' base spare held ts vs ds ps
 | [],[],[],_,h=>h
 | _::_,_::_,_::_,_,⟨a,b,⟨n,h1⟩,h2,e⟩=>⟨a,b,⟨n,DataW.trod_carry n _ _ _ h1 (fun p hp=>hb.same (DataW.trod_lt n _ _ _ h1 p hp))⟩,trodAll_keeps hb h2,e⟩
theorem args_again {w' : World} (hl : laidOutB P = true) (hm : mapsRowed P = true) (hz : ((List.range P.types.size).all fun t => match P.underlying t with | some (.slice e) => decide (0 < P.cellsOf e) | _ => true) = true) {ts : List Nat} (hts : (ts.all fun t => decide (t < P.types.size)) = true) {vs : List Value} {ds : List (DataW H)} {ps : List MemPlace}
    (hb : RowKit.Below w.heap.size w w') (h : DataW.TrodAll enc P w base (fun _ => true) true ts vs ds ps) : DataW.TrodAll enc P w' base (fun b => decide (b < w.heap.size)) true ts vs ds ps :=
  (trodAll_keeps hb h).respare (T := (· < P.types.size)) (kids_rows hl hm) (slices_full_of P hz) (fun t ht => of_decide_eq_true (List.all_eq_true.1 hts t ht)) (fun p hp => decide_eq_true (h.lt p hp))
theorem law_calls {f:FuncId} {F:FnR} {ts:List Nat} {vs:List Value} {ds:List (DataW H)} {ps:List MemPlace} {b0:Nat} (hF:CallOk P f F) (hs:parShs P ts=some F.args) (hl:F.args.all Sh.light=true) (hr:F.rets=[.one (.val .bool)])
  (htrue:∀ x,KTs.wf _ x→∃ y,F.fn x=some y∧(ofKTs _ y).head? = some ⟨.val .bool,(true:Bool)⟩) (hv:∀ (j:Nat) t v,ts[j]? = some t→vs[j]? = some v→Value.okWide P w r b0 t v) (h:DataW.TrodAll enc P w base spare held ts vs ds ps) :
  Calls P f vs.toArray w fun e w'=>e=.returned (.bool true)∧RowKit.Below w.heap.size w w':=by
 obtain ⟨kv,r1,k1,w1⟩:=args_read ts vs ds ps F.args 1 b0 hs hv h
 obtain ⟨x,hx⟩:=toKTs_ex _ kv k1
 obtain ⟨y,hy,hh⟩:=htrue x (by unfold KTs.wf;rw [hx];exact w1)
 have hc:=hF.calls w Own.nobody vs x y (fun _ _ _ h=>nomatch h) (fun _ _ h=>nomatch h) (by rw [hx];exact r1) hy
 refine hc.mono fun e w' he=>?_
 obtain ⟨v,ω',rfl,hE,_,_,hres,_⟩:=he
 refine ⟨?_,hE.os,hE.tape,hE.output,hE.size,fun k hk=>(hE.block k hk (.inl rfl)).1⟩
 have hlen:(F.rets.map Sh.ks).flatten.length=1:=by rw [hr];rfl
 have htk:(ofKTs _ y).take (F.rets.map Sh.ks).flatten.length=[⟨.val .bool,(true:Bool)⟩]:=by
  rw [hlen]
  cases hq:ofKTs _ y with
  | nil=>rw [hq] at hh;cases hh
  | cons a l =>
   rw [hq] at hh
   simp at hh
   subst hh
   rfl
 rw [htk,hr] at hres
 obtain ⟨_,v',e1,e2⟩:=hres
 have e1:[(⟨.val .bool,(true:Bool)⟩:KV real)]=[v']:=e1
 injection e1 with e1 _
 subst e1
 have:v=.bool true:=e2
 rw [this]
end
end Go.R
namespace Go.R
def big:Nat:=1099511627776
def body (fn:Func):Code:=fn.body.getD .skip
def lookF:List (FKey×FnR)→FKey→Option FnR
 | [],_=>none
 | (f,F)::r,n=>bif FKey.beq f n then some F else lookF r n
def lookL:List (Nat×LoopR)→Nat→Option LoopR
 | [],_=>none
 | (f,F)::r,n=>bif Nat.beq f n then some F else lookL r n
def FnsOk (P:Program):List (FKey×FnR)→Prop
 | []=>True
 | p::r=>CallOk P p.1.1 p.2∧FnsOk P r
theorem lookF_ok {P:Program}:∀ {l:List (FKey×FnR)},FnsOk P l→∀ f F,lookF l f=some F→CallOk P f.1 F
 | [],_,_,_,h=>by cases h
 | (g,G)::l,hl,f,F,h=>by
  simp only [lookF] at h
  cases hb:FKey.beq g f with
  | true =>
   rw [hb] at h
   have h:=Option.some.inj h
   subst h
   have:=hl.1
   rw [FKey.eq_of_beq hb] at this
   exact this
  | false =>
   rw [hb] at h
   exact lookF_ok hl.2 f F h
def lp (n:Nat) (c:Code) (i:Nat):Code:=((loopsOf n c).getD i (0,.skip)).2
theorem loops_nil {P:Program} {E:Env} {Λ:Nat→Option LoopR} {l:List (Nat×Code)} (h:l=[]):LoopsOk P E Λ l:=by
 subst h
 exact fun p hp=>nomatch hp
theorem loops_cons {P:Program} {E:Env} {Λ:Nat→Option LoopR} {n:Nat} {c:Code} {l:List (Nat×Code)} {L:LoopR} (hn:Λ n=some L) (h:LoopOk P E c L) (hl:LoopsOk P E Λ l):LoopsOk P E Λ ((n,c)::l):=by
 intro p hp q hq
 cases hp with
 | head =>
  have:some L=some q:=hn.symm.trans hq
  injection this with this
  subst this
  exact h
 | tail _ hm=>exact hl p hm q hq
theorem loops_eq {P:Program} {E:Env} {Λ:Nat→Option LoopR} {l l':List (Nat×Code)} (h:l=l') (hl:LoopsOk P E Λ l'):LoopsOk P E Λ l:=by rw [h];exact hl
theorem loop_ok' {P:Program} {E:Env} {Ψ:FKey→Option FnR} {Λ:Nat→Option LoopR} (hE:EnvOk P E) (hΨ:∀ f F,Ψ f=some F→CallOk P f.1 F) {n:Nat} {c:Code} {keep tmpl:Tmpl} {exits:Exits} (hL:LoopsOk P E Λ (loopsOf n c))
  (B:KTs real (Tmpl.ks keep)→KTs real (Tmpl.ks tmpl)→Option (KTs real (Tmpl.ks tmpl) ⊕ Outs real exits)) (hB:∀ kx x,bodyR E Ψ Λ n c keep tmpl exits kx x=B kx x) :
  LoopOk P E c ⟨keep,tmpl,exits,fun kx x=>iter (B kx) big x⟩:=
 loop_ok hE (step_call hΨ) hL (fun _ _=>big) (fun kx x=>by
  show iter (B kx) big x=iter (bodyR E Ψ Λ n c keep tmpl exits kx) big x
  have:bodyR E Ψ Λ n c keep tmpl exits kx=B kx:=funext (hB kx)
  rw [this])
theorem callOk_none {P : Program} {f : FuncId} {F : FnR} {fn : Func} {c : Code} (h1 : P.funcs[f]? = some fn) (h2 : (fn.name == "runtime.NumGoroutine") = false) (h3 : fn.body = some c) (hn : ∀ x, F.fn x = none) : CallOk P f F :=
 ⟨⟨fn,c,h1,h2,h3⟩,fun w ω us x y _ _ _ hy=>by rw [hn] at hy;cases hy⟩
theorem rec_ok {P:Program} {f:FuncId} {F:Nat→FnR} (h0:CallOk P f (F 0)) (hs:∀ n,CallOk P f (F n)→CallOk P f (F (n+1))):∀ n,CallOk P f (F n)
 | 0=>h0
 | n+1=>hs n (rec_ok h0 hs n)
def lets {α β:Type} (x:α) (k:α→β):β:=k x
theorem lets_eq {α β:Type} {x y:α} {k:α→β} (h:x=y):lets x k=k y:=by rw [h];rfl
theorem iter_done {α β:Type} {f:α→Option (α ⊕ β)} {n:Nat} {x:α} {b:β} (h:f x=some (.inr b)):iter f (n+1) x=some b:=by simp [iter,h]
theorem iter_next {α β:Type} {f:α→Option (α ⊕ β)} {n:Nat} {x y:α} (h:f x=some (.inl y)):iter f (n+1) x=iter f n y:=by simp [iter,h]
theorem iter_mono {α β:Type} {f:α→Option (α ⊕ β)}:∀ {n m:Nat} {x:α} {b:β},iter f n x=some b→n≤m→iter f m x=some b
 | 0,_,_,_,h,_=>by cases h
 | n+1,0,_,_,_,hle=>absurd hle (by omega)
 | n+1,m+1,x,b,h,hle=>by
  simp only [iter] at h ⊢
  cases hf:f x with
  | none=>rw [hf] at h;cases h
  | some q =>
   rw [hf] at h
   cases q with
   | inl y=>exact iter_mono (n:=n) (m:=m) h (by omega)
   | inr b'=>exact h
end Go.R
namespace Go.R
theorem w64 {n:Int} (h1 : -9223372036854775808≤n) (h2:n≤9223372036854775807):IntKind.i64.wrap n=n:=IntWalk.i64_in n ⟨h1,h2⟩
theorem add64 {a b:Int} (h1 : -9223372036854775808≤a+b) (h2:a+b≤9223372036854775807):rArith .add .i64 a b=a+b:=w64 h1 h2
theorem sub64 {a b:Int} (h1 : -9223372036854775808≤a - b) (h2:a - b≤9223372036854775807):rArith .sub .i64 a b=a - b:=w64 h1 h2
theorem mul64 {a b:Int} (h1 : -9223372036854775808≤a*b) (h2:a*b≤9223372036854775807):rArith .mul .i64 a b=a*b:=w64 h1 h2
theorem succ64 {n:Nat} (h:n < 1099511627776):rArith .add .i64 (n:Int) 1=((n+1:Nat):Int):=by rw [add64] <;> omega
theorem pred64 {n:Nat} (h:n < 1099511627776):rArith .sub .i64 ((n+1:Nat):Int) 1=(n:Int):=by rw [sub64] <;> omega
theorem lss_nat (a b:Nat):rCmp .lss (a:Int) (b:Int)=decide (a < b):=by simp [rCmp]
theorem lss_len {α:Type} (a:Nat) (l:List α):rCmp .lss (a:Int) (rLen l)=decide (a < l.length):=by simp [rCmp,rLen]
theorem inR_nat {α:Type} (l:List α) (n:Nat):rInR l (n:Int)=decide (n < l.length):=by simp [rInR]
theorem inR_lt {α:Type} {l:List α} {n:Nat} (h:n < l.length):rInR l (n:Int)=true:=by rw [inR_nat];exact decide_eq_true h
theorem get_nat {α:Type} (z:α) (l:List α) (n:Nat):rGet z l (n:Int)=l.getD n z:=by simp [rGet]
theorem put_nat {α:Type} (l:List α) (n:Nat) (y:α):rPut l (n:Int) y=l.set n y:=by simp [rPut]
theorem rep_nat {α:Type} (n:Nat) (y:α):rRep (n:Int) y=List.replicate n y:=by simp [rRep]
theorem repOk_len {α:Type} {l:List α} (h:l.length≤1073741824):rRepOk (rLen l)=true:=by
 unfold rRepOk rLen limit
 rw [Bool.and_eq_true]
 exact ⟨decide_eq_true (by omega),decide_eq_true (by omega)⟩
theorem lt_big {n:Nat} (h:n < 1099511627776):n < big:=by
 have:big=1099511627776:=by unfold big;rfl
 omega
section
variable {X Y:Type} {body:X→Option (X ⊕ Y)}
theorem loop_from (st:Nat→X) (len:Nat) (g:Nat→Y) (hstep:∀ n,n < len→(body (st n)=some (.inl (st (n+1)))∧g n=g (n+1))∨body (st n)=some (.inr (g n))) (hend:body (st len)=some (.inr (g len))) :
  ∀ (k n:Nat),n+k=len→iter body (k+1) (st n)=some (g n)
 | 0,n,h=>by
  have:n=len:=by omega
  subst this
  exact iter_done hend
 | k+1,n,h=>by
  rcases hstep n (by omega) with ⟨h1,h2⟩ | h1
  ·rw [iter_next h1,h2]
   exact loop_from st len g hstep hend k (n+1) (by omega)
  ·exact iter_done h1
theorem loop_st (st:Nat→X) (len:Nat) (hlen:len < 1099511627776) (g:Nat→Y) (hstep:∀ n,n < len→(body (st n)=some (.inl (st (n+1)))∧g n=g (n+1))∨body (st n)=some (.inr (g n))) (hend:body (st len)=some (.inr (g len))):iter body big (st 0)=some (g 0):=
 iter_mono (loop_from st len g hstep hend len 0 (by omega)) (lt_big hlen)
theorem loop_end (st:Nat→X) (len:Nat) (hlen:len < 1099511627776) (y:Y) (hstep:∀ n,n < len→body (st n)=some (.inl (st (n+1)))) (hend:body (st len)=some (.inr y)):iter body big (st 0)=some y:=
 loop_st st len hlen (fun _=>y) (fun n hn=>.inl ⟨hstep n hn,rfl⟩) hend
def allFrom (ok:Nat→Bool):Nat→Nat→Bool
 | _,0=>true
 | n,k+1=>ok n && allFrom ok (n+1) k
theorem loop_all (st:Nat→X) (len:Nat) (hlen:len < 1099511627776) (ok:Nat→Bool) (yes no:Y) (hstep:∀ n,n < len→body (st n)=some (bif ok n then .inl (st (n+1)) else .inr no)) (hend:body (st len)=some (.inr yes)) :
  iter body big (st 0)=some (bif allFrom ok 0 len then yes else no):=by
 have:=loop_st st len hlen (fun n=>bif allFrom ok n (len - n) then yes else no) (fun n hn=>?_) (by simpa [allFrom] using hend)
 ·simpa using this
 ·have e:len - n=(len - (n+1))+1:=by omega
  cases ho:ok n with
  | true=>exact .inl ⟨by rw [hstep n hn,ho];rfl,by simp only [e,allFrom,ho,Bool.true_and]⟩
  | false=>exact .inr (by rw [hstep n hn,ho];simp only [e,allFrom,ho,Bool.false_and];rfl)
end
theorem allFrom_congr {ok ok':Nat→Bool}:∀ (k n:Nat),(∀ m,n≤m→m < n+k→ok m=ok' m)→allFrom ok n k=allFrom ok' n k
 | 0,_,_=>rfl
 | k+1,n,h=>by
  simp only [allFrom]
  rw [h n (by omega) (by omega),allFrom_congr k (n+1) fun m h1 h2=>h m (by omega) (by omega)]
theorem allFrom_iff {ok:Nat→Bool}:∀ (k n:Nat),allFrom ok n k=true↔∀ m,n≤m→m < n+k→ok m=true
 | 0,n=>⟨fun _ m h1 h2=>absurd h2 (by omega),fun _=>rfl⟩
 | k+1,n=>by
  simp only [allFrom,Bool.and_eq_true]
  rw [allFrom_iff k (n+1)]
  constructor
  ·intro ⟨h1,h2⟩ m h3 h4
   rcases Nat.lt_or_ge n m with h | h
   ·exact h2 m (by omega) (by omega)
   ·have:m=n:=by omega
    subst this;exact h1
  ·intro h
   exact ⟨h n (by omega) (by omega),fun m h1 h2=>h m (by omega) (by omega)⟩
theorem set_fill {α:Type} (l:List α) (z:α) {n:Nat} (h:n < l.length):(l.take n++List.replicate (l.length - n) z).set n (l.getD n z)=l.take (n+1)++List.replicate (l.length - (n+1)) z:=by
 have h1:(l.take n).length=n:=by rw [List.length_take];omega
 have e:l.length - n=(l.length - (n+1))+1:=by omega
 rw [List.set_append,if_neg (by omega),h1,Nat.sub_self,e,List.replicate_succ,List.set_cons_zero,List.take_add_one,List.append_assoc]
 congr 1
 rw [List.getElem?_eq_getElem h,List.getD_eq_getElem?_getD,List.getElem?_eq_getElem h]
 rfl
theorem fill_len {α:Type} (l:List α) (z:α) {n:Nat} (h:n≤l.length):(l.take n++List.replicate (l.length - n) z).length=l.length:=by
 rw [List.length_append,List.length_take,List.length_replicate];omega
theorem getD_lt {α:Type} {l:List α} {n:Nat} (h:n < l.length) (z z':α):l.getD n z=l.getD n z':=by
 rw [List.getD_eq_getElem?_getD,List.getD_eq_getElem?_getD,List.getElem?_eq_getElem h];rfl
theorem lets_def {α β:Type} (x:α) (k:α→β):lets x k=k x:=rfl
theorem getD_set_self {α:Type} {l:List α} {n:Nat} (h:n < l.length) (y z:α):(l.set n y).getD n z=y:=by
 rw [List.getD_eq_getElem?_getD,List.getElem?_set_self h];rfl
theorem getD_set_ne {α:Type} {l:List α} {n m:Nat} (h:n≠m) (y z:α):(l.set n y).getD m z=l.getD m z:=by
 rw [List.getD_eq_getElem?_getD,List.getElem?_set_ne h,←List.getD_eq_getElem?_getD]
theorem inR_set {α:Type} (l:List α) (n:Nat) (y:α) (m:Nat):rInR (l.set n y) (m:Int)=decide (m < l.length):=by rw [inR_nat,List.length_set]
theorem loop_fold {α β X Y:Type} {body:X→Option (X ⊕ Y)} (l:List α) (z:α) (hlen:l.length < 1099511627776) (f:β→α→β) (st:β→Nat→X) (Inv:Nat→β→Prop) (fin:β→Y)
  (hstep:∀ n acc,n < l.length→Inv n acc→body (st acc n)=some (.inl (st (f acc (l.getD n z)) (n+1)))∧Inv (n+1) (f acc (l.getD n z))) (hend:∀ acc,Inv l.length acc→body (st acc l.length)=some (.inr (fin acc))) (b0:β) (h0:Inv 0 b0) :
  iter body big (st b0 0)=some (fin (l.foldl f b0))∧Inv l.length (l.foldl f b0):=by
 have htake:∀ n,n < l.length→(l.take (n+1)).foldl f b0=f ((l.take n).foldl f b0) (l.getD n z):=by
  intro n hn
  rw [List.take_add_one,List.foldl_append,List.getElem?_eq_getElem hn,List.getD_eq_getElem?_getD,List.getElem?_eq_getElem hn]
  rfl
 have hinv:∀ n,n≤l.length→Inv n ((l.take n).foldl f b0):=by
  intro n
  induction n with
  | zero=>intro _;simpa using h0
  | succ n ih =>
   intro hn
   rw [htake n hn]
   exact (hstep n _ hn (ih (Nat.le_of_lt hn))).2
 have hfin:=hinv l.length (Nat.le_refl _)
 rw [List.take_length] at hfin
 refine ⟨?_,hfin⟩
 have:=loop_end (body:=body) (fun n=>st ((l.take n).foldl f b0) n) l.length hlen (fin (l.foldl f b0)) (fun n hn=>by
  have:=(hstep n _ hn (hinv n (Nat.le_of_lt hn))).1
  rw [←htake n hn] at this
  exact this) (by
  have:=hend _ hfin
  rw [List.take_length]
  exact this)
 simpa using this
def runL {α β Y:Type} (step:β→α→β ⊕ Y) (fin:β→Y):List α→β→Y
 | [],b=>fin b
 | a::l,b=>match step b a with
  | .inl b'=>runL step fin l b'
  | .inr y=>y
theorem drop_getD {α:Type} {l:List α} {n:Nat} (h:n < l.length) (z:α):l.drop n=l.getD n z::l.drop (n+1):=by
 rw [List.drop_eq_getElem_cons h,List.getD_eq_getElem?_getD,List.getElem?_eq_getElem h]
 rfl
theorem loop_run_from {α β X Y:Type} {body:X→Option (X ⊕ Y)} (l:List α) (z:α) (st:β→Nat→X) (step:β→α→β ⊕ Y) (fin:β→Y) (Inv:Nat→β→Prop)
  (hstep:∀ n acc,n < l.length→Inv n acc→body (st acc n)=some (match step acc (l.getD n z) with | .inl b=>.inl (st b (n+1)) | .inr y=>.inr y)∧∀ b,step acc (l.getD n z)=.inl b→Inv (n+1) b)
  (hend:∀ acc,Inv l.length acc→body (st acc l.length)=some (.inr (fin acc))):∀ (k n:Nat) (b:β),n+k=l.length→Inv n b→iter body (k+1) (st b n)=some (runL step fin (l.drop n) b)
 | 0,n,b,hk,hi=>by
  have:n=l.length:=by omega
  subst this
  rw [List.drop_length]
  exact iter_done (hend b hi)
 | k+1,n,b,hk,hi=>by
  have hn:n < l.length:=by omega
  obtain ⟨h1,h2⟩:=hstep n b hn hi
  rw [drop_getD hn z]
  simp only [runL]
  cases hs:step b (l.getD n z) with
  | inl b' =>
   rw [hs] at h1
   rw [iter_next h1]
   exact loop_run_from l z st step fin Inv hstep hend k (n+1) b' (by omega) (h2 b' hs)
  | inr y =>
   rw [hs] at h1
   exact iter_done h1
theorem loop_run {α β X Y:Type} {body:X→Option (X ⊕ Y)} (l:List α) (z:α) (hlen:l.length < 1099511627776) (st:β→Nat→X) (step:β→α→β ⊕ Y) (fin:β→Y) (Inv:Nat→β→Prop)
  (hstep:∀ n acc,n < l.length→Inv n acc→body (st acc n)=some (match step acc (l.getD n z) with | .inl b=>.inl (st b (n+1)) | .inr y=>.inr y)∧∀ b,step acc (l.getD n z)=.inl b→Inv (n+1) b)
  (hend:∀ acc,Inv l.length acc→body (st acc l.length)=some (.inr (fin acc))) (b0:β) (h0:Inv 0 b0):iter body big (st b0 0)=some (runL step fin l b0):=
 iter_mono (loop_run_from l z st step fin Inv hstep hend l.length 0 b0 (by omega) h0) (lt_big hlen)
theorem loop_find {X Y : Type} {body : X → Option (X ⊕ Y)} (st : Nat → X) (len : Nat) (hlen : len < 1099511627776) (ok : Nat → Bool) (yes : Y) (no : Nat → Y) (hstep : ∀ n, n < len → body (st n) = some (bif ok n then .inl (st (n + 1)) else .inr (no n))) (hend : body (st len) = some (.inr yes)) :
    ∃ y, iter body big (st 0) = some y ∧ ((allFrom ok 0 len = true ∧ y = yes) ∨ (allFrom ok 0 len = false ∧ ∃ n, n < len ∧ y = no n ∧ ok n = false)) := by
  have key : ∀ (k n : Nat), n + k = len → ∃ y, iter body (k + 1) (st n) = some y ∧ ((allFrom ok n k = true ∧ y = yes) ∨ (allFrom ok n k = false ∧ ∃ m, m < len ∧ y = no m ∧ ok m = false)) := by
    intro k
    induction k with
    | zero => intro n hn; have : n = len := by omega
              subst this
              exact ⟨yes, iter_done hend, .inl ⟨rfl, rfl⟩⟩
    | succ k ih =>
      intro n hn
      have hs := hstep n (by omega)
      cases ho : ok n with
      | true =>
        rw [ho] at hs
        obtain ⟨y, h1, h2⟩ := ih (n + 1) (by omega)
        refine ⟨y, by rw [iter_next hs]; exact h1, ?_⟩
        simp only [allFrom, ho, Bool.true_and]
        exact h2
      | false =>
        rw [ho] at hs
        exact ⟨no n, iter_done hs, .inr ⟨by simp only [allFrom, ho, Bool.false_and], n, by omega, rfl, ho⟩⟩
  obtain ⟨y, h1, h2⟩ := key len 0 (by omega)
  exact ⟨y, iter_mono h1 (lt_big hlen), h2⟩
end Go.R
