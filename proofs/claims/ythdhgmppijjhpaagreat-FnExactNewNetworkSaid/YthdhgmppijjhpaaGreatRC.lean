import Derived.Test.YthdhgmppijjhpaaGreatRB
import Derived.MapKept
import Derived.Tactics
/- An abstract interpreter over the code of Go functions, proved sound once: what it answers, the code computes. Conditions: none. -/
set_option autoImplicit false
set_option linter.unusedVariables false
set_option linter.unusedSimpArgs false
set_option maxRecDepth 4000
set_option linter.unusedVariables false
namespace Go.R
open Classical
section
variable {R:Type} {P:Program} {E:Env} {ω:Own} {a:Act} {w:World} {s:S} {k:S→Option R} {r:R} {o:Oper} {Q:Exit→Act→World→Prop}
theorem append_run {B:Nat→Prop} {t t' e:Nat} {cs:Tys} {n m:Nat} {vx vy:Value} {I:TypeInfo} {z:Value} (hu:P.underlying t=some (.slice e)) (hie:P.info? e=some I) (hz:I.zero=some z) (hsz:I.size=cs.len) (hzs:z.cells.size=cs.len) (hby:I.bytes≤65536)
  (hx:(∃ ad,vx=.slice ad 0 0∧n=0)∨∃ b c arr,vx=.slice (some ⟨b,0,none⟩) n c∧n≤c∧w.heap[b]? = some (.cells arr e (0,0))∧arr.size=c*cs.len∧B b)
  {news:List Value} (hsrc:Src P I.size t' vy m news w) (hsm:((n+m:Nat):Int)≤1073741824) (ty:Nat) :
  ∃ v w',(Builtin.append_ #[t,t'] ty #[vx,vy]).run P w=.ok v w'∧((∃ ad,v=.slice ad 0 0∧w'=w∧n=0∧m=0) ∨
   ∃ b0 c' arr' olds,v=.slice (some ⟨b0,0,none⟩) (n+m) c'∧n+m≤c'∧w'.heap[b0]? = some (.cells arr' e (0,0))∧arr'.size=c'*cs.len∧olds.length=n*cs.len∧(∀ j,j < (n+m)*cs.len→arr'[j]? = (olds++news)[j]?) ∧
    (∀ b c,vx=.slice (some ⟨b,0,none⟩) n c→∀ j,j < n*cs.len→olds[j]? = w.cell? ⟨b,j,none⟩)∧(w'.os=w.os∧w'.tape=w.tape∧w'.output=w.output)∧w.heap.size≤w'.heap.size∧(∀ b,b≠b0→b < w.heap.size→w'.heap[b]? = w.heap[b]?)∧b0 < w'.heap.size ∧
    (b0 < w.heap.size→B b0)):=by
 have hnl:news.length=m*cs.len:=by rw [hsrc.newsLen,hsz]
 have grow:∀ (base:Option Addr) (c:Nat) (olds:List Value),vx=.slice base n c→c < n+m→olds.length=n*cs.len→(Builtin.firstCells I.size n (.slice base n c)).run P w.drew=.ok olds.toArray w.drew →
   (∀ b c,vx=.slice (some ⟨b,0,none⟩) n c→∀ j,j < n*cs.len→olds[j]? = w.cell? ⟨b,j,none⟩)→∃ v w',(Builtin.append_ #[t,t'] ty #[vx,vy]).run P w=.ok v w'∧∃ b0 c' arr' olds,v=.slice (some ⟨b0,0,none⟩) (n+m) c'∧n+m≤c'∧w'.heap[b0]? = some (.cells arr' e (0,0))∧arr'.size=c'*cs.len∧olds.length=n*cs.len∧(∀ j,j < (n+m)*cs.len→arr'[j]? = (olds++news)[j]?) ∧
    (∀ b c,vx=.slice (some ⟨b,0,none⟩) n c→∀ j,j < n*cs.len→olds[j]? = w.cell? ⟨b,j,none⟩)∧(w'.os=w.os∧w'.tape=w.tape∧w'.output=w.output)∧w.heap.size≤w'.heap.size∧(∀ b,b≠b0→b < w.heap.size→w'.heap[b]? = w.heap[b]?)∧b0 < w'.heap.size ∧
    (b0 < w.heap.size→B b0):=by
  intro base c olds hv hc hol hfc hcell
  have hfit:Builtin.nextslicecap (n+m) c*I.bytes≤281474976710656:=by
   refine growslice_fits hc ?_
   have h1:(n+m)*I.bytes≤(n+m)*65536:=Nat.mul_le_mul_left _ hby
   have h2:n+m≤1073741824:=by omega
   omega
  have hrun:=run_append_grow_src (P:=P) w t t' ty e I z hu hie hz base n c olds hfc vy m news hsrc hc (by omega) hfit
  rw [←hv] at hrun
  have hge:=grownCap_ge w (n+m) c e
  have hG:Grow w (w.drew.alloc (.cells ((olds++news).toArray++Builtin.zeroCells z.cells (grownCap w (n+m) c e - (n+m))) e)):=(Grow.drew w).trans (Grow.alloc w.drew _)
  refine ⟨_,_,hrun,w.heap.size,_,(olds++news).toArray++Builtin.zeroCells z.cells (grownCap w (n+m) c e - (n+m)),olds,rfl,hge,heap_alloc_new w.drew _,?_,hol,fun j hj=>?_,hcell,⟨hG.os,hG.tape,hG.output⟩,hG.size,fun b _ hb=>hG.block b hb,?_,fun hb=>absurd hb (Nat.lt_irrefl _)⟩
  ·have h1:(Builtin.zeroCells z.cells (grownCap w (n+m) c e - (n+m))).size=(grownCap w (n+m) c e - (n+m))*cs.len:=by simp [Builtin.zeroCells,hzs]
   rw [Array.size_append,h1,List.size_toArray,List.length_append,hol,hnl,←Nat.add_mul,←Nat.add_mul]
   congr 1
   omega
  ·have hlt:j < (olds++news).toArray.size:=by rw [List.size_toArray,List.length_append,hol,hnl,←Nat.add_mul];exact hj
   rw [Array.getElem?_append_left hlt,List.getElem?_toArray]
  ·rw [alloc_size]
   exact Nat.lt_succ_self _
 rcases hx with ⟨ad,hv,rfl⟩ | ⟨b,c,arr,hv,hn,hh,hasz,hB⟩
 ·by_cases h0:m=0
  ·subst h0
   have hn0:news=[]:=List.length_eq_zero_iff.1 (by rw [hnl];simp)
   subst hn0
   refine ⟨.slice ad 0 0,w,?_,.inl ⟨ad,rfl,rfl,rfl,rfl⟩⟩
   subst hv
   have hlen:∀ w':World,(Builtin.lenOf vy).run P w'=.ok 0 w':=hsrc.len
   have hcl0:(Builtin.firstCells I.size 0 vy).run P w=.ok #[] w:=hsrc.cells
   rcases hsrc.kind with ⟨e',hk'⟩ | hk'
   ·cases ad <;> simp [Builtin.append_,run_underlying hu,run_underlying hk',sizeOf,typeInfo,hie,hlen,hcl0,storeCells]
   ·cases ad <;> simp [Builtin.append_,run_underlying hu,run_underlying hk',sizeOf,typeInfo,hie,hlen,hcl0,storeCells]
  ·obtain ⟨v,w',q1,q2⟩:=grow ad 0 [] hv (by omega) (by simp) (by
    cases ad with
    | none=>rfl
    | some A=>exact run_firstCells_some w.drew I.size 0 A 0 0 [] (by simp) (by simp)) (fun _ _ _ j hj=>by simp at hj)
   exact ⟨v,w',q1,.inr q2⟩
 ·have hal:arr.toList.length=c*cs.len:=(Array.length_toList (xs:=arr)).trans hasz
  have hmin:min (n*cs.len) (c*cs.len)=n*cs.len:=Nat.min_eq_left (Nat.mul_le_mul_right _ hn)
  have hcl:∀ j,w.cell? ⟨b,j,none⟩=arr[j]?:=fun j=>cell_of_row w b j arr e (0,0) hh
  have hold:∀ b' c',vx=.slice (some ⟨b',0,none⟩) n c'→∀ j,j < n*cs.len→(arr.toList.take (n*cs.len))[j]? = w.cell? ⟨b',j,none⟩:=by
   intro b' c' hv' j hj
   rw [hv] at hv'
   injection hv' with hv' _ _
   injection hv' with hv'
   injection hv' with hv'
   subst hv'
   rw [hcl,List.getElem?_take_of_lt hj,Array.getElem?_toList]
  by_cases hroom:n+m≤c
  ·have hfit:n*cs.len+news.length≤arr.size:=by rw [hnl,hasz,←Nat.add_mul];exact Nat.mul_le_mul_right _ hroom
   have hrun:=run_append_room_src (P:=P) w t t' ty e I hu hie b 0 n c vy m news hsrc hroom
    (fun j hj=>by rw [hsz,Nat.zero_add,hcl];simp;omega)
    (fun j hj=>by simp [World.frozen?,hh])
   rw [hsz,Nat.zero_add] at hrun
   rw [←hv] at hrun
   obtain ⟨arr',g1,g2⟩:=setCells_row' b e (0,0) news (n*cs.len) w arr hh hfit
   have hp:=setCells_put b news (n*cs.len) w
   have hol:(arr.toList.take (n*cs.len)).length=n*cs.len:=by rw [List.length_take,hal];exact hmin
   refine ⟨_,_,hrun,.inr ⟨b,c,arr',arr.toList.take (n*cs.len),rfl,hroom,g1,?_,hol,fun j hj=>?_,hold,⟨hp.os,hp.tape,hp.output⟩,by rw [hp.size];exact Nat.le_refl _,fun b' hb' _=>hp.block b' hb',by rw [hp.size];exact heap_lt_of_some hh,fun _=>hB⟩⟩
   ·rw [←Array.length_toList,g2]
    simp only [List.length_append,List.length_take,List.length_drop,Array.length_toList]
    omega
   ·have hlt:j < (arr.toList.take (n*cs.len)++news).length:=by rw [List.length_append,hol,hnl,←Nat.add_mul];exact hj
    rw [←Array.getElem?_toList,g2,List.getElem?_append_left hlt]
  ·obtain ⟨v,w',q1,q2⟩:=grow (some ⟨b,0,none⟩) c (arr.toList.take (n*cs.len)) hv (by omega) (by rw [List.length_take,hal];exact hmin) (by
    refine run_firstCells_some w.drew I.size n ⟨b,0,none⟩ n c _ ?_ ?_
    ·rw [List.length_take,hal,hsz]
     exact hmin
    ·intro j u hu
     have hj:j < n*cs.len:=by
      have:=(List.getElem?_eq_some_iff.1 hu).1
      rw [List.length_take] at this
      omega
     rw [List.getElem?_take_of_lt hj,Array.getElem?_toList] at hu
     rw [Addr.add_mid,Nat.zero_add,←hu]
     exact cell_of_row w.drew b j arr e (0,0) hh) hold
   exact ⟨v,w',q1,.inr q2⟩
inductive DeepX (ω:Own) (w:World) (s s1:S) (e:Nat) (cs:Tys) (x:List cs.T) (v:Value):Prop where
 | none (ad:Option Addr) (hv:v=.slice ad 0 0) (hx:x=[]) (hs:s1=s)
 | some (id:Nat) (ho:(s.ob id).o=.arr e cs true x) (hr:(Ty.sl e cs).R w ω (.deep (id,[])) v x) (hs:s1=s.chg id true .gone)
theorem deepOf_ok {v:TVr} {i:Nat} (h:deepOf s v=some i):∃ g hh,v=.one (.ref i g hh [])∧(s.ob i).g=g∧∃ e cs x,(s.ob i).o=.arr e cs true x:=by
 unfold deepOf at h
 split at h
 ·rename_i id g hh
  cases hb:Nat.beq (s.ob id).g g with
  | false=>rw [hb] at h;cases h
  | true =>
   rw [hb] at h
   simp only [cond_true] at h
   split at h
   ·rename_i e cs dp x ho
    cases dp with
    | false=>cases h
    | true =>
     injection h with h
     subst h
     exact ⟨g,hh,rfl,Nat.eq_of_beq_eq_true hb,e,cs,x,ho⟩
   ·cases h
 ·cases h
def appK (xid:Option Nat) (idy n d:Nat):Key→Option Key:=fun k =>
 if k.1=idy then (match k.2 with
  | []=>none
  | (i,j)::r=>some (d,(i+n,j)::r))
 else if xid=some k.1 then (match k.2 with
  | []=>none
  | (i,j)::r=>if i < n then some (d,(i,j)::r) else none)
 else if k.1=d then none else some k
theorem appK_inv {xid:Option Nat} {idy n d:Nat} {k q:Key} (h:appK xid idy n d k=some q):(k.1=idy∧∃ i j r,k.2=(i,j)::r∧q=(d,(i+n,j)::r))∨(k.1≠idy∧xid=some k.1∧∃ i j r,k.2=(i,j)::r∧i < n∧q=(d,(i,j)::r))∨(k.1≠d∧q=k):=by
 unfold appK at h
 split at h
 ·rename_i e
  split at h
  ·cases h
  ·rename_i i j r hk
   injection h with h
   exact .inl ⟨e,i,j,r,hk,h.symm⟩
 ·rename_i e
  split at h
  ·rename_i ex
   split at h
   ·cases h
   ·rename_i i j r hk
    split at h
    ·rename_i hlt
     injection h with h
     exact .inr (.inl ⟨e,ex,i,j,r,hk,hlt,h.symm⟩)
    ·cases h
  ·split at h
   ·cases h
   ·rename_i hd
    injection h with h
    exact .inr (.inr ⟨hd,h.symm⟩)
theorem appK_inj {xid:Option Nat} {idy n d:Nat} (k k' q:Key) (h:appK xid idy n d k=some q) (h':appK xid idy n d k'=some q):k=k':=by
 rcases appK_inv h with ⟨e1,i,j,r,e2,e3⟩ | ⟨e0,e1,i,j,r,e2,e4,e3⟩ | ⟨e1,e3⟩ <;> rcases appK_inv h' with ⟨f1,i',j',r',f2,f3⟩ | ⟨f0,f1,i',j',r',f2,f4,f3⟩ | ⟨f1,f3⟩
 ·rw [e3] at f3
  injection f3 with _ f3
  injection f3 with f3 f5
  injection f3 with f3 f6
  have:i=i':=by omega
  exact Prod.ext (e1.trans f1.symm) (by rw [e2,f2,this,f6,f5])
 ·rw [e3] at f3
  injection f3 with _ f3
  injection f3 with f3 f5
  injection f3 with f3 f6
  omega
 ·rw [e3] at f3;rw [←f3] at f1;exact absurd rfl f1
 ·rw [e3] at f3
  injection f3 with _ f3
  injection f3 with f3 f5
  injection f3 with f3 f6
  omega
 ·rw [e3] at f3
  injection f3 with _ f3
  injection f3 with f3 f5
  injection f3 with f3 f6
  rw [e1] at f1
  injection f1 with f1
  exact Prod.ext f1 (by rw [e2,f2,f3,f6,f5])
 ·rw [e3] at f3;rw [←f3] at f1;exact absurd rfl f1
 ·rw [f3] at e3;rw [←e3] at e1;exact absurd rfl e1
 ·rw [f3] at e3;rw [←e3] at e1;exact absurd rfl e1
 ·exact e3.symm.trans f3
theorem deep_rows {e:Nat} {cs:Tys} {kk:Key} {v:Value} {x:List cs.T} (h:(Ty.sl e cs).R w ω (.deep kk) v x):∃ (ad:Option Addr) (cp:Nat) (rows:List Value),v=.slice ad x.length cp∧x.length≤cp∧rows.length=x.length*cs.len∧(∀ u∈rows,u.oneCell'=true) ∧
  ((cp=0∧x.length=0)∨∃ b arr,ad=some ⟨b,0,none⟩∧w.heap[b]? = some (.cells arr e (0,0))∧arr.size=cp*cs.len∧ω b=some kk∧∀ j u,rows[j]? = some u→w.cell? ⟨b,j,none⟩=some u) ∧
  ∀ i,i < x.length→cs.R w ω (fun j=>.deep (kk.1,kk.2++[(i,j)])) (fun j=>rows[i*cs.len+j]?) 0 (x.getD i (zTs cs)):=by
 obtain ⟨ad,n,cp,e1,e2,e3,e4,e5⟩:=h
 subst e2
 rcases e4 with e4 | ⟨b,arr,f1,f2,f3,f4⟩
 ·exact ⟨ad,cp,[],e1,e3,by rw [e4.2];simp,by simp,.inl e4,fun i hi=>absurd hi (by omega)⟩
 ·obtain ⟨rows,g1,g2⟩:=row_cells (w:=w) (b:=b) (off:=0) (m:=cs.len) x.length (fun i hi=>by
   obtain ⟨us,u1,u2⟩:=Tys.R_row cs _ _ 0 _ (e5 i _ hi f1)
   exact ⟨us,u1,fun k u hu=>by have:=u2 k u hu;simpa using this⟩)
  refine ⟨ad,cp,rows,e1,e3,g1,fun u hu=>?_,.inr ⟨b,arr,f1,f2,f3,f4,fun j u hu=>by have:=(g2 j u hu).1;simpa using this⟩,fun i hi=>?_⟩
  ·obtain ⟨k,hk,rfl⟩:=List.getElem_of_mem hu
   exact (g2 k _ (List.getElem?_eq_getElem hk)).2
  ·refine Tys.R_get cs _ _ _ 0 _ (fun j hj=>?_) (e5 i _ hi f1)
   rw [Nat.zero_add]
   have hlt:i*cs.len+j < rows.length:=by rw [g1];exact row_lt hi hj (Nat.le_refl _)
   have:=(g2 _ _ (List.getElem?_eq_getElem hlt)).1
   rw [List.getElem?_eq_getElem hlt,←this,Nat.zero_add,Nat.zero_add]
theorem append_deep {s1:S} (h:Rel ω a w s) (hd:∀ d,o.dst=some d→d < a.tmps.size) {t t' e e':Nat} {cs:Tys} {xs ys:List cs.T} {vx vy:Value} {id':Nat} (h0':id'≠0) {I:TypeInfo} {z:Value}
  (hu:P.underlying t=some (.slice e)) (hie:P.info? e=some I) (hz:I.zero=some z) (hsz:I.size=cs.len) (hzs:z.cells.size=cs.len) (hby:I.bytes≤65536) (hu':P.underlying t'=some (.slice e'))
  (hx:DeepX ω w s s1 e cs xs vx) {idy gy hy ymd:Nat} (hry:RLf w ω s vy (.ref idy gy hy [])) (hcy:cont? s (.one (.ref idy gy hy []))=some (⟨e,cs,ys,ymd⟩:Cont real)) (hgy:(s1.ob idy).g=gy) (hoy:∃ e cs x,(s1.ob idy).o=.arr e cs true x)
  (hsm:((xs++ys).length:Int)≤1073741824) (ty:Nat)
  (hk:k (((s1.chg idy true .gone).new id' (.arr e cs true (xs++ys))).setO o.dst (.one (.ref id' (((s1.chg idy true .gone).new id' (.arr e cs true (xs++ys))).ob id').g 0 [])))=some r) :
  ∃ v w',(Builtin.append_ #[t,t'] ty #[vx,vy]).run P w=.ok v w'∧Ends ω a w o.dst k r (a.put o.dst v) w':=by
 rw [app_len] at hsm
 obtain ⟨e0,cs0,x0,hoy⟩:=hoy
 have hob:s1.ob idy=s.ob idy:=by
  cases hx with
  | none _ _ _ hs=>rw [hs]
  | some id ho _ hs =>
   rw [hs] at hoy ⊢
   exact St.chg_ne _ _ _ fun e=>by subst e;rw [St.chg_self] at hoy;cases hoy
 have hcy':s.cont idy gy hy []=some (⟨e,cs,ys,ymd⟩:Cont real):=hcy
 rw [hob] at hoy
 have hy2:(s.ob idy).o=.arr e cs true ys∧ymd=2:=by
  rcases (cont_spec hcy').2 with ⟨dp,f5,_,f6⟩ | ⟨_,_,_,_,f5,_⟩ | ⟨f5,_⟩
  ·simp only at f5 f6
   rw [hoy] at f5
   injection f5 with g1 g2 g3 g4
   subst g1;subst g2;subst g3
   have:=eq_of_heq g4
   subst this
   exact ⟨hoy,f6⟩
  ·exact absurd rfl f5
  ·rw [hoy] at f5;cases f5
 obtain ⟨hoy2,rfl⟩:=hy2
 have hdy:(Ty.sl e cs).R w ω (.deep (idy,[])) vy ys:=hry.2.2 _ hcy'
 obtain ⟨ady,cpy,news,y1,y2,y3,y4,y5,y6⟩:=deep_rows hdy
 have hsrc:Src P I.size t' vy ys.length news w:=Src_of hu' y1 (by rw [hsz];exact y3) y4 (fun hp=>by
  rcases y5 with y5 | ⟨b,arr,q1,q2,q3,q4,q5⟩
  ·omega
  ·exact ⟨b,0,q1,fun k u hu=>by rw [Nat.zero_add];exact q5 k u hu⟩)
 have hy0:idy≠0:=h.ne0 (by rw [hoy2];exact fun e=>by cases e)
 have hR1:Rel ω a w s1:=by
  cases hx with
  | none _ _ _ hs=>rw [hs];exact h
  | some id _ _ hs=>rw [hs];exact h.gone id true
 have hR2:=hR1.gone idy true
 have hX:∃ xid:Option Nat,(∀ i,xid=some i→i≠0∧i≠idy∧((s1.chg idy true .gone).ob i).o=.gone) ∧
   ((∃ ad,vx=.slice ad 0 0∧xs.length=0)∨∃ idx b c arr,xid=some idx∧vx=.slice (some ⟨b,0,none⟩) xs.length c∧xs.length≤c∧w.heap[b]? = some (.cells arr e (0,0))∧arr.size=c*cs.len∧ω b=some (idx,[]) ∧
    ∀ i,i < xs.length→cs.R w ω (fun j=>.deep (idx,[(i,j)])) (fun j=>w.cell? ⟨b,i*cs.len+j,none⟩) 0 (xs.getD i (zTs cs))):=by
  cases hx with
  | none ad hv hx _=>exact ⟨none,fun i e=>(by cases e),.inl ⟨ad,hv,by rw [hx];rfl⟩⟩
  | some id ho hr hs =>
   have hne:id≠idy:=fun e=>by
    subst e
    have h1:(s1.ob id).o=.gone:=by rw [hs,St.chg_self]
    rw [hob,ho] at h1
    cases h1
   refine ⟨some id,fun i e=>?_,?_⟩
   ·injection e with e
    subst e
    refine ⟨h.ne0 (by rw [ho];exact fun e=>by cases e),hne,?_⟩
    rw [St.chg_ne _ _ _ hne,hs,St.chg_self]
   ·obtain ⟨ad,n,cp,e1,e2,e3,e4,e5⟩:=hr
    subst e2
    rcases e4 with ⟨q1,q2⟩ | ⟨b,arr,q1,q2,q3,q4⟩
    ·subst q1
     exact .inl ⟨ad,by rw [e1,q2],q2⟩
    ·refine .inr ⟨id,b,cp,arr,rfl,by rw [e1,q1],e3,q2,q3,q4,fun i hi=>?_⟩
     refine Tys.R_get cs _ _ _ 0 _ (fun j _=>?_) (e5 i _ hi q1)
     simp only [Nat.zero_add]
 obtain ⟨xid,hxid,hX⟩:=hX
 obtain ⟨v,w',hrun,hcase⟩:=append_run (P:=P) (B:=fun b=>∃ idx,xid=some idx∧ω b=some (idx,[])) (n:=xs.length) (m:=ys.length) hu hie hz hsz hzs hby (hX.imp id fun ⟨idx,b,c,arr,q1,q2,q3,q4,q5,q6,_⟩=>⟨b,c,arr,q2,q3,q4,q5,idx,q1,q6⟩) hsrc (by omega) ty
 refine ⟨v,w',hrun,?_⟩
 rcases hcase with ⟨ad,rfl,rfl,q1,q2⟩ | ⟨b0,c',arr',olds,rfl,q2,q3,q4,q5,q6,q7,q8,q9,q10,q11,q12⟩
 ·have hR:=hR2.bare (id':=id') h0' (.arr e cs true (xs++ys)) (fun _ e=>by cases e)
  have hnil:xs++ys=[]:=List.length_eq_zero_iff.1 (by rw [app_len];omega)
  rw [hnil] at hR hk
  exact arr_ends hR (freeze_ext _ _ _ h0') hd ⟨ad,0,0,rfl,rfl,Nat.le_refl _,hd_none,fun i _ hi=>absurd hi (by omega)⟩ hk
 ·have hrow:∀ b p,ω b=some p→p.2≠[]→b≠b0:=by
   intro b p hb hp e
   subst e
   obtain ⟨idx,f1,f2⟩:=q12 (h.dom b p hb)
   rw [hb] at f2
   injection f2 with f2
   rw [f2] at hp
   exact hp rfl
  obtain ⟨hR,hE⟩:=hR2.adopt (κ:=appK xid idy xs.length id') (d:=id') (b0:=b0) (w':=w') (src:=fun i=>i=idy∨xid=some i) (ob:=.arr e cs true (xs++ys)) (fun c e=>by cases e) h0'
   (fun hs=>hs.elim (fun e=>hy0 e.symm) (fun e=>(hxid 0 e).1 rfl)) appK_inj
   (fun kk p hp=>by
    rcases appK_inv hp with ⟨_,i,j,r,_,e3⟩ | ⟨_,_,i,j,r,_,_,e3⟩ | ⟨e1,e3⟩
    ·injection e3 with _ e3;rw [e3];exact fun e=>by cases e
    ·injection e3 with _ e3;rw [e3];exact fun e=>by cases e
    ·rw [←e3] at e1;exact absurd rfl e1)
   (fun i p hs hi=>by
    unfold appK
    rw [if_neg (fun e=>hs (.inl e)),if_neg (fun e=>hs (.inr e)),if_neg hi])
   (fun i hs=>by
    rcases hs with rfl | hs
    ·rw [St.chg_self]
    ·exact (hxid i hs).2.2)
   q8 q9 q10 q11 (fun hb=>by
    obtain ⟨idx,f1,f2⟩:=q12 hb
    exact ⟨_,f2,.inr f1⟩)
  have hnl:news.length=ys.length*cs.len:=y3
  refine arr_ends (dp:=true) hR hE hd ?_ hk
  refine ⟨some ⟨b0,0,none⟩,xs.length+ys.length,c',rfl,app_len _ _,q2,.inr ⟨b0,arr',rfl,q3,q4,by unfold Own.adopt;rw [if_pos rfl];rfl⟩,fun i A hi hA=>?_⟩
  injection hA with hA
  subst hA
  rw [getD_app]
  split
  ·rename_i hlt
   rcases hX with ⟨ad,_,g2⟩ | ⟨idx,b,c2,arr,g1,g2,g3,g4,g5,g6,g7⟩
   ·omega
   ·have hrw:=g7 i hlt
    have hne:=(hxid idx g1).2.1
    refine Tys.R_get cs _ (fun j=>w.cell? ⟨b,i*cs.len+j,none⟩) _ 0 _ (fun j hj=>?_) (Tys.R_deep cs (fun j=>(idx,[(i,j)])) (fun j=>(id',[(i,j)])) _ _ 0 _ (fun j b' rr hb' hk'=>?_) (fun _=>rfl) hrw)
    ·simp only [Nat.zero_add]
     rw [cell_of_row w' b0 _ arr' e (0,0) q3,q6 _ (row_lt (by omega) hj (Nat.le_refl _)),List.getElem?_append_left (by rw [q5];exact row_lt hlt hj (Nat.le_refl _)),q7 b c2 g2 _ (row_lt hlt hj (Nat.le_refl _))]
    ·have hk':ω b'=some (idx,(i,j)::rr):=hk'
     have hnb:=hrow b' _ hk' (fun e=>by cases e)
     refine ⟨q10 b' hnb hb',?_⟩
     rw [adopt_ne hnb hk']
     unfold appK
     rw [if_neg hne,if_pos g1]
     simp only
     rw [if_pos hlt]
     rfl
  ·rename_i hge
   have hi2:i - xs.length < ys.length:=by omega
   have hrw:=y6 (i - xs.length) hi2
   refine Tys.R_get cs _ (fun j=>news[(i - xs.length)*cs.len+j]?) _ 0 _ (fun j hj=>?_) (Tys.R_deep cs (fun j=>(idy,[(i - xs.length,j)])) (fun j=>(id',[(i,j)])) _ _ 0 _ (fun j b' rr hb' hk'=>?_) (fun _=>rfl) hrw)
   ·simp only [Nat.zero_add]
    have e1:i*cs.len=xs.length*cs.len+(i - xs.length)*cs.len:=by rw [←Nat.add_mul];congr 1;omega
    rw [cell_of_row w' b0 _ arr' e (0,0) q3,q6 _ (row_lt (by omega) hj (Nat.le_refl _)),List.getElem?_append_right (by rw [q5];omega),q5]
    congr 1
    omega
   ·have hk':ω b'=some (idy,(i - xs.length,j)::rr):=hk'
    have hnb:=hrow b' _ hk' (fun e=>by cases e)
    refine ⟨q10 b' hnb hb',?_⟩
    rw [adopt_ne hnb hk']
    unfold appK
    rw [if_pos rfl]
    simp only
    rw [show i - xs.length+xs.length=i by omega]
    rfl
theorem step_append (hE:EnvOk P E) {args:Array Operand} {tys:Array Nat} (ho:o.op=.call ⟨.builtin .append,args,tys⟩) (hsz:args.size=tys.size) (h:Rel ω a w s) (hd:∀ d,o.dst=some d→d < a.tmps.size) {Φ:FKey→Option (Callee real (Option R))}
  (hk:stepC E (realC R) Φ o s k=some r):o.wp P a w (Ends ω a w o.dst k r) Q:=by
 unfold stepC at hk
 have hszb:Nat.beq args.size tys.size=true:=by rw [hsz];exact Nat.beq_refl _
 simp only [ho,hszb,cond_true] at hk
 obtain ⟨args⟩:=args
 obtain ⟨tys⟩:=tys
 simp only at hk hsz
 have hsz':args.length=tys.length:=by simpa using hsz
 match args,tys,hsz' with
 | [x,y],[t,t'],_ =>
  have hx:=ev_ok h E t x
  have hy:=ev_ok h E t' y
  simp only [List.zip_cons_cons,List.zip_nil_right,List.map_cons,List.map_nil,builtinV] at hk
  obtain ⟨⟨e,cs⟩,h1,hka⟩:=mapFail_some hk
  obtain ⟨⟨e',cs'⟩,h1',hkb⟩:=mapFail_some hka
  obtain ⟨cx,h2,hkc⟩:=mapFail_some hkb
  obtain ⟨cy,h3,hk3⟩:=mapFail_some hkc
  clear hk hka hkb hkc
  cases hb:(Nat.beq e cx.e && Tys.beq cs cx.cs) with
  | false=>simp only [hb] at hk3;cases hk3
  | true =>
   simp only [hb,Bool.not_true,cond_false] at hk3
   rw [Bool.and_eq_true] at hb
   have he:=Nat.eq_of_beq_eq_true hb.1
   have hcs:=Tys.eq_of_beq hb.2
   subst he;subst hcs
   obtain ⟨hu,j,I,d,hj,hjc,ok⟩:=slOf_ok hE h1
   obtain ⟨hu',_⟩:=slOf_ok hE h1'
   obtain ⟨z,hz,hz2⟩:=ok.zero
   have hI:I.size=cx.cs.len:=by rw [ok.size,hjc]
   have hzs:z.cells.size=cx.cs.len:=by rw [←Array.length_toList,hz2,zerosOf_length,hjc]
   have hby:I.bytes≤65536:=by rw [ok.bytes];exact ok.bpos.2
   have core:∀ (s1:S) (dp:Bool),Rel ω a w s1→(((dp || Nat.beq cy.md 2) && !cx.cs.plain)=false→AppX ω w s1 cx.e cx.cs cx.x (a.eval x))→((dp || isNilS (ev E s t x))=true→DeepX ω w s s1 cx.e cx.cs cx.x (a.eval x)) →
     (bif (dp || Nat.beq cy.md 2) && !cx.cs.plain then (match deepOf s1 (ev E s t' y) with
      | some idy=>bif dp || isNilS (ev E s t x) then
        if hh:Ty.beq (.sl cy.e cy.cs) (.sl cx.e cx.cs)=true then
         bif rSmall (List.append (α:=cx.cs.T) cx.x (real.cast hh cy.x)) then k (((s1.chg idy true .gone).new (mkId (o.dst.getD 0) 0 0) (.arr cx.e cx.cs true (List.append (α:=cx.cs.T) cx.x (real.cast hh cy.x)))).setO o.dst (.one (.ref (mkId (o.dst.getD 0) 0 0) (((s1.chg idy true .gone).new (mkId (o.dst.getD 0) 0 0) (.arr cx.e cx.cs true (List.append (α:=cx.cs.T) cx.x (real.cast hh cy.x)))).ob (mkId (o.dst.getD 0) 0 0)).g 0 []))) else none
        else none
       else none
      | none=>none) else
      if hh:Ty.beq (.sl cy.e cy.cs) (.sl cx.e cx.cs)=true then
       bif rSmall (List.append (α:=cx.cs.T) cx.x (real.cast hh cy.x)) then k ((s1.new (mkId (o.dst.getD 0) 0 0) (.arr cx.e cx.cs dp (List.append (α:=cx.cs.T) cx.x (real.cast hh cy.x)))).setO o.dst (.one (.ref (mkId (o.dst.getD 0) 0 0) ((s1.new (mkId (o.dst.getD 0) 0 0) (.arr cx.e cx.cs dp (List.append (α:=cx.cs.T) cx.x (real.cast hh cy.x)))).ob (mkId (o.dst.getD 0) 0 0)).g 0 []))) else none
      else none)=some r→o.wp P a w (Ends ω a w o.dst k r) Q:=by
    intro s1 dp hR hX hDX hk
    cases hbad:((dp || Nat.beq cy.md 2) && !cx.cs.plain) with
    | true =>
     rw [hbad] at hk
     simp only [cond_true] at hk
     cases hdy:deepOf s1 (ev E s t' y) with
     | none=>rw [hdy] at hk;cases hk
     | some idy =>
      rw [hdy] at hk
      simp only at hk
      cases hnil:(dp || isNilS (ev E s t x)) with
      | false=>rw [hnil] at hk;cases hk
      | true =>
       rw [hnil] at hk
       simp only [cond_true] at hk
       split at hk
       ·rename_i hh
        cases hs:rSmall (List.append (α:=cx.cs.T) cx.x (real.cast hh cy.x)) with
        | false=>rw [hs] at hk;cases hk
        | true =>
         rw [hs] at hk
         simp only [cond_true] at hk
         obtain ⟨ye,ycs,yx,ymd⟩:=cy
         have hee:=Ty.eq_of_beq hh
         injection hee with hee1 hee2
         simp only at hee1 hee2
         subst hee1;subst hee2
         obtain ⟨gy,hhy,ey,gg,hoy⟩:=deepOf_ok hdy
         rw [ey] at hy h3
         obtain ⟨v,w',hrun,hend⟩:=append_deep (P:=P) (t:=t) (t':=t') (id':=mkId (o.dst.getD 0) 0 0) h hd (mkId_ne _ _ _) hu ok.info hz hI hzs hby hu' (hDX hnil) hy h3 gg hoy (of_decide_eq_true hs) o.type hk
         refine wp_val (v:=v) (w':=w') ?_ hend
         refine exec_builtin ho ?_
         simp only [builtin,List.map_toArray,List.map_cons,List.map_nil]
         rw [Sem.run_bind,hrun]
         rfl
       ·cases hk
    | false =>
     rw [hbad] at hk
     simp only [cond_false] at hk
     split at hk
     ·rename_i hh
      have hdp:dp=true→cx.cs.plain=true:=by
       intro e;subst e
       cases hp:cx.cs.plain with
       | true=>rfl
       | false=>rw [hp] at hbad;cases hbad
      have hym:cy.md≠2∨cy.cs.plain=true:=by
       have hee:=Ty.eq_of_beq hh
       injection hee with _ hee
       cases hp:cx.cs.plain with
       | true=>exact .inr (by rw [hee];exact hp)
       | false =>
        refine .inl fun e=>?_
        rw [hp,e] at hbad
        cases dp <;> cases hbad
      cases hs:rSmall (List.append (α:=cx.cs.T) cx.x (real.cast hh cy.x)) with
      | false=>rw [hs] at hk;cases hk
      | true =>
       rw [hs] at hk
       simp only [cond_true] at hk
       obtain ⟨ye,ycs,yx,ymd⟩:=cy
       have hee:=Ty.eq_of_beq hh
       injection hee with hee1 hee2
       simp only at hee1 hee2
       subst hee1;subst hee2
       obtain ⟨ad,cp,news,n1,n2,n3,n4,n5,n6⟩:=slice_src h3 hy hym
       have hsrc:Src P I.size t' (a.eval y) (List.length yx) news w:=Src_of hu' n1 (by rw [hI];exact n3) n4 n5
       obtain ⟨v,w',hrun,hend⟩:=append_core (P:=P) (t:=t) (t':=t') (xs:=cx.x) (ys:=yx) (dp:=dp) (id':=mkId (o.dst.getD 0) 0 0) hR hd (mkId_ne _ _ _) hu ok.info hz hI hzs hby (hX hbad) hsrc n6 (of_decide_eq_true hs) hdp o.type hk
       refine wp_val (v:=v) (w':=w') ?_ hend
       refine exec_builtin ho ?_
       simp only [builtin,List.map_toArray,List.map_cons,List.map_nil]
       rw [Sem.run_bind,hrun]
       rfl
     ·cases hk
   have hk2:=hk3
   clear hk3
   cases hxe:ev E s t x with
   | one l =>
    rw [hxe] at hk2 hx h2
    cases l with
    | nilS e2 cs2 =>
     injection h2 with h2
     obtain ⟨ad,e1⟩:=hx
     have hx0:cx.x=[]:=by rw [←h2];rfl
     exact core s false h (fun _=>.none ad e1 hx0) (fun _=>.none ad e1 hx0 rfl) (by rw [hxe];exact hk2)
    | ref id g hh p =>
     cases p with
     | nil =>
      have hc:s.cont id g hh []=some cx:=h2
      rcases (md_path hc).2 with hm | hm | hm
      ·simp only [hm] at hk2;cases hk2
      ·simp only [hm] at hk2
       exact core _ (Nat.beq 1 2) (h.gone id true) (fun _=>appX_own h hc (by rw [hm];decide) hx (.inl (by rw [hm];decide))) (fun e=>by rw [hxe] at e;cases e) (by rw [hxe];exact hk2)
      ·simp only [hm] at hk2
       refine core _ (Nat.beq 2 2) (h.gone id true) (fun hb=>?_) (fun _=>?_) (by rw [hxe];exact hk2)
       ·have hpl:cx.cs.plain=true:=by
         cases hp:cx.cs.plain with
         | true=>rfl
         | false=>rw [hp] at hb;cases hb
        exact appX_own h hc (by rw [hm];decide) hx (.inr hpl)
       ·have hr:=hx.2.2 cx hc
        rw [hm] at hr
        rcases (cont_spec hc).2 with ⟨dp,f5,_,f6⟩ | ⟨_,_,_,_,f5,_⟩ | ⟨_,_,f5⟩
        ·rw [hm] at f6
         cases dp with
         | true=>exact .some id f5 hr rfl
         | false=>cases f6
        ·exact absurd rfl f5
        ·rw [hm] at f5;cases f5
     | cons _ _=>cases hk2
    | val tt xx=>cases hk2
    | ptr _ _ _=>cases hk2
    | eptr _ _ _ _ _ _=>cases hk2
    | iptr _ _ _=>cases hk2
    | mref _ _=>cases hk2
    | fn _ _=>cases hk2
    | tst _ _=>cases hk2
    | undef=>cases hk2
    | dead=>cases hk2
   | agg _=>rw [hxe] at hk2;cases hk2
   | tup _=>rw [hxe] at hk2;cases hk2
 | [],[],_=>cases hk
 | [_],[_],_=>cases hk
 | _::_::_::_,_::_::_::_,_=>cases hk
end
end Go.R
set_option linter.unusedVariables false
namespace Go.R
def rFind:List (Int×Bool)→Int→Nat→Option (Nat×Bool)
 | [],_,_=>none
 | y::r,n,i=>bif n == y.1 then some (i,y.2) else rFind r n (i+1)
theorem find_now {k:IntKind} {n:Int}:∀ {es:List MapEntry} {x:List (Int×Bool)} (i:Nat),RMs k es x→Instr.findNow (.int k) (.int k n) es i=some ((rFind x n i).map fun p=>(p.1,.bool p.2))
 | [],[],i,_=>rfl
 | [],_::_,_,h=>h.elim
 | _::_,[],_,h=>h.elim
 | e::es,y::x,i,h=>by
  obtain ⟨⟨h1,h2⟩,h3⟩:=h
  have hs:Instr.sameNow (.int k) (.int k n) e.key=some (n == y.1):=by rw [h1];simp [Instr.sameNow]
  unfold Instr.findNow
  rw [hs]
  cases hb:n == y.1 with
  | true=>simp only [rFind,hb,cond_true,Option.map_some,h2]
  | false=>simp only [rFind,hb,cond_false];exact find_now (i+1) h3
theorem get_find (n:Int):∀ (x:List (Int×Bool)) (i:Nat),rMget x n=match rFind x n i with | some p=>p.2 | none=>false
 | [],_=>rfl
 | y::x,i=>by
  unfold rMget rFind
  cases n == y.1 with
  | true=>rfl
  | false=>exact get_find n x (i+1)
theorem put_find (k:IntKind) (n:Int) (v:Bool):∀ (es:List MapEntry) (x:List (Int×Bool)) (i:Nat),RMs k es x →
  (∀ b,rFind x n i=none→RMs k (es++[⟨.int k n,.bool v,b⟩]) (rMput x n v)) ∧
  ∀ j b,rFind x n i=some (j,b)→i≤j∧∃ e,es[j - i]? = some e∧e.key=.int k n∧RMs k (es.modify (j - i) fun e=>{ e with key:=.int k n,val:=.bool v }) (rMput x n v)
 | [],[],i,_=>⟨fun b _=>⟨⟨rfl,rfl⟩,trivial⟩,fun j b h=>by cases h⟩
 | [],_::_,_,h=>h.elim
 | _::_,[],_,h=>h.elim
 | e::es,y::x,i,h=>by
  obtain ⟨⟨h1,h2⟩,h3⟩:=h
  obtain ⟨r1,r2⟩:=put_find k n v es x (i+1) h3
  unfold rFind rMput
  cases hb:n == y.1 with
  | true =>
   have hn:n=y.1:=by simpa using hb
   refine ⟨(fun b h=>by cases h),fun j b h=>?_⟩
   have h:=Option.some.inj h
   injection h with hj _
   subst hj
   refine ⟨Nat.le_refl _,e,by simp,by rw [h1,hn],?_⟩
   rw [Nat.sub_self]
   exact ⟨⟨rfl,rfl⟩,h3⟩
  | false =>
   refine ⟨fun b h=>⟨⟨h1,h2⟩,r1 b h⟩,fun j b h=>?_⟩
   obtain ⟨q1,e',q2,q3,q4⟩:=r2 j b h
   have hj:j - i=(j - (i+1))+1:=by omega
   refine ⟨by omega,e',by rw [hj];simpa using q2,q3,?_⟩
   rw [hj]
   exact ⟨⟨h1,h2⟩,q4⟩
section
variable {R:Type} {P:Program} {E:Env} {ω:Own} {a:Act} {w:World} {s:S} {k:S→Option R} {r:R} {o:Oper} {Q:Exit→Act→World→Prop}
theorem step_makeMap (hE:EnvOk P E) {t:Nat} {rv:Option Operand} (ho:o.op=.makeMap t rv) (h:Rel ω a w s) (hd:∀ d,o.dst=some d→d < a.tmps.size) {Φ:FKey→Option (Callee real (Option R))}
  (hk:stepC E (realC R) Φ o s k=some r):o.wp P a w (Ends ω a w o.dst k r) Q:=by
 unfold stepC at hk
 simp only [ho] at hk
 obtain ⟨ik,h1,hk⟩:=mapFail_some hk
 cases rv with
 | some _=>cases hk
 | none =>
  simp only [Option.isNone_none,cond_true] at hk
  have h0:=mkId_ne (o.dst.getD 0) 0 0
  have hg:=Grow.alloc w (.map #[] 0)
  have hlt:w.heap.size < (w.alloc (.map #[] 0)).heap.size:=by rw [alloc_size];omega
  refine wp_val (v:=.map (some w.heap.size)) (w':=w.alloc (.map #[] 0)) ?_ ?_
  ·unfold execOp
   simp only [ho]
   rfl
  ·have hR:=h.fresh (id:=mkId (o.dst.getD 0) 0 0) h0 hg (Nat.le_refl _) hlt (.mp ik (real.nilV 0 (Tys.mp ik))) (fun cells' hc'=>by cases hc')
   refine ends_put' hR (fresh_ext h0 hg (Nat.le_refl _)) hd (t:=.one (.mref (mkId (o.dst.getD 0) 0 0) ((s.new (mkId (o.dst.getD 0) 0 0) (.mp ik (real.nilV 0 (Tys.mp ik)))).ob (mkId (o.dst.getD 0) 0 0)).g)) ⟨Nat.le_refl _,fun _ k' x' hc=>?_⟩ hk
   have ho':((s.new (mkId (o.dst.getD 0) 0 0) (.mp ik (real.nilV 0 (Tys.mp ik)))).ob (mkId (o.dst.getD 0) 0 0)).o=.mp ik (real.nilV 0 (Tys.mp ik)):=by unfold St.new;rw [St.upd_ob_self]
   rw [ho'] at hc
   injection hc with e1 e2
   subst e1
   subst e2
   exact ⟨w.heap.size,#[],0,Own.fresh_self _ _ _,rfl,heap_alloc_new w _,trivial⟩
theorem mref_ok {v:Value} {id g:Nat} {q:Sigma fun k=>real.V (.sl 0 (Tys.mp k))} (h:RLf w ω s v (.mref id g)) (hq:mpOf s id g=some q):(s.ob id).o=.mp q.1 q.2∧∃ b es c,ω b=some (id,[])∧v=.map (some b)∧w.heap[b]? = some (.map es c)∧RMs q.1 es.toList q.2:=by
 obtain ⟨e1,e2⟩:=mpOf_ok hq
 exact ⟨e2,h.2 e1 _ _ e2⟩
theorem step_lookup (hE:EnvOk P E) {t:Nat} {m x:Operand} {ok:Bool} (ho:o.op=.lookup t m x ok) (h:Rel ω a w s) (hd:∀ d,o.dst=some d→d < a.tmps.size) {Φ:FKey→Option (Callee real (Option R))}
  (hk:stepC E (realC R) Φ o s k=some r):o.wp P a w (Ends ω a w o.dst k r) Q:=by
 have hm:=ev_ok h E t m
 have hx:=ev_ok h E 0 x
 unfold stepC at hk
 simp only [ho] at hk
 obtain ⟨ik,h1,hk⟩:=mapFail_some hk
 obtain ⟨kt,et,I,hu,hku,hie,hz⟩:=hE.mps t ik h1
 cases ok with
 | true=>cases hk
 | false =>
 simp only [cond_false] at hk
 split at hk
 ·rename_i id g u n em ex
  rw [em] at hm
  rw [ex] at hx
  obtain ⟨q,h2,hk2⟩:=mapFail_some hk
  clear hk
  obtain ⟨qk,qx⟩:=q
  cases hdk:decide (qk=ik) with
  | false=>simp only [hdk] at hk2;cases hk2
  | true =>
  simp only [hdk,cond_true] at hk2
  obtain rfl:=of_decide_eq_true hdk
  split at hk2
  ·rename_i hb
   obtain rfl:=Ty.eq_of_beq hb
   obtain ⟨ho',b,es,c,f1,f2,f3,f4⟩:=mref_ok hm h2
   have hxv:a.eval x=.int qk n:=hx
   refine light_ok h hd (v:=.bool (rMget qx n)) ?_ (t:=.one (.val .bool (real.mget qk qx n))) rfl hk2
   unfold execOp
   simp only [ho]
   have hfind:=MapKept.run_findKey (P:=P) (w:=w) hku (find_now (n:=n) 0 f4)
   have hck:∀ e n',(Instr.checkKey e (n'+1) kt (.int qk n)).run P w=.ok () w:=fun e n'=>by
    unfold Instr.checkKey
    simp only [Sem.run_bind,run_underlying hku,Result.andThen]
    rfl
   have hck:=fun e=>hck e 9999
   have hzv:(zeroValue et).run P w=.ok (.bool false) w:=by simp [zeroValue,typeInfo,hie,hz]
   have hrun:(Instr.lookup t (a.eval m) (a.eval x) false).run P w=.ok (.bool (rMget qx n)) w:=by
    rw [f2,hxv,get_find n qx 0]
    unfold Instr.lookup
    cases hf:rFind qx n 0 with
    | none=>rw [hf] at hfind;simp [run_underlying hu,MapKept.run_getObj_map f3,hck,hfind,hzv]
    | some p=>rw [hf] at hfind;simp [run_underlying hu,MapKept.run_getObj_map f3,hck,hfind]
   rw [Sem.run_bind,hrun]
   rfl
  ·cases hk2
 ·cases hk
theorem chg_mp_tr {w':World} {b id:Nat} {ik:IntKind} {x x':real.V (.sl 0 (Tys.mp ik))} {es':Array MapEntry} {c':Nat} (h0:id≠0) (hd:∀ b k,ω b=some k→b < w.heap.size) (hb:ω b=some (id,[])) (ho:(s.ob id).o=.mp ik x) (hp:Put w w' b) (hh:w'.heap[b]? = some (.map es' c')) (hx:RMs ik es'.toList x')
  (hinj:∀ b b' k,ω b=some k→ω b'=some k→b=b') (j:Nat):Tr w ω s w' ω (s.chg id true (.mp ik x')) j:=by
 by_cases e:j=id
 ·subst e
  have ho':((s.chg j true (.mp ik x')).ob j).o=.mp ik x':=by rw [St.chg_self]
  have hg:((s.chg j true (.mp ik x')).ob j).g=(s.ob j).g:=by rw [St.chg_self]
  have hh':((s.chg j true (.mp ik x')).ob j).h=bif true then (s.ob j).h+1 else (s.ob j).h:=by rw [St.chg_self]
  have hnc:∀ g h p c,(s.chg j true (.mp ik x')).cont j g h p=some c→False:=by
   intro g h p c hc
   unfold St.cont Slot.cont at hc
   rw [ho'] at hc
   cases hq:Nat.beq ((s.chg j true (.mp ik x')).ob j).g g <;> rw [hq] at hc <;> cases hc
  exact
  {ref:=fun v g h p hr=>⟨by rw [hg];exact hr.1,by rw [hg,hh'];exact h_step true hr.2.1,fun c hc=>(hnc _ _ _ _ hc).elim⟩
   ptr:=fun v g off hr=>⟨by rw [hg];exact hr.1,fun _ cells hc=>by rw [ho'] at hc;cases hc⟩
   eptr:=fun v g h p i off hr=>⟨by rw [hg];exact hr.1,by rw [hg,hh'];exact h_step true hr.2.1,fun c hc=>(hnc _ _ _ _ hc).elim⟩
   mref:=fun v g hr=>⟨by rw [hg];exact hr.1,fun hg' k2 x2 hc=>by
    rw [hg] at hg'
    rw [ho'] at hc
    injection hc with e1 e2
    subst e1
    subst e2
    obtain ⟨b2,es,c,q1,q2,q3,q4⟩:=hr.2 hg' ik x ho
    obtain rfl:=hinj _ _ _ hb q1
    exact ⟨b,es',c',hb,q2,hh,hx⟩⟩ }
 ·refine Same.tr ⟨St.chg_ne _ _ _ e,fun c kk hc hk hj=>?_⟩ (put_ext h0 hb hp) hd
  have:c≠b:=fun ec=>by subst ec;rw [hb] at hk;injection hk with hk;subst hk;exact e hj.symm
  exact ⟨hp.block c this,rfl⟩
theorem Rel.store_mp (h:Rel ω a w s) {w':World} {b id:Nat} {ik:IntKind} {x x':real.V (.sl 0 (Tys.mp ik))} {es':Array MapEntry} {c':Nat} (hb:ω b=some (id,[])) (ho:(s.ob id).o=.mp ik x) (hp:Put w w' b) (hh:w'.heap[b]? = some (.map es' c')) (hx:RMs ik es'.toList x')
  (h0:id≠0:=h.ne0 (by rw [ho];exact fun e=>by cases e)):Rel ω a w' (s.chg id true (.mp ik x')) where
 inj:=h.inj
 dom c kk h1:=by rw [hp.size];exact h.dom c kk h1
 defers:=h.defers
 own0:=by rw [St.chg_ne _ _ _ (Ne.symm h0)];exact h.own0
 slots i:=RTV.frame (put_ext h0 hb hp) (chg_mp_tr h0 h.dom hb ho hp hh hx h.inj) (h.slots i)
 blks j cells hc:=by
  by_cases e:j=id
  ·subst e;rw [St.chg_self] at hc;cases hc
  ·rw [St.chg_ne _ _ _ e] at hc
   obtain ⟨c,arr,T,h1,h2,h3⟩:=h.blks j cells hc
   have hcb:c≠b:=fun ec=>by subst ec;rw [hb] at h1;injection h1 with h1;injection h1 with h1 _;exact e h1.symm
   exact ⟨c,arr,T,h1,(hp.block c hcb).trans h2,h3.mono fun _ _ hl=>RLf.frame (put_ext h0 hb hp) (chg_mp_tr h0 h.dom hb ho hp hh hx h.inj) hl⟩
theorem step_mapUpdate (hE : EnvOk P E) {t : Nat} {m x v : Operand} (ho : o.op = .mapUpdate t m x v) (h : Rel ω a w s) (hd : ∀ d, o.dst = some d → d < a.tmps.size) {Φ : FKey → Option (Callee real (Option R))}
    (hk : stepC E (realC R) Φ o s k = some r) : o.wp P a w (Ends ω a w o.dst k r) Q := by
  have hm := ev_ok h E t m
  have hx := ev_ok h E 0 x
  have hv := ev_ok h E 4 v
  unfold stepC at hk
  simp only [ho] at hk
  obtain ⟨ik, h1, hk⟩ := mapFail_some hk
  obtain ⟨kt, et, I, hu, hku, hie, hz⟩ := hE.mps t ik h1
  split at hk
  · rename_i id g u n bv em ex ebv
    rw [em] at hm
    rw [ex] at hx
    have hbv := bool?_ok ebv hv
    obtain ⟨q, h2, hk2⟩ := mapFail_some hk
    clear hk
    obtain ⟨qk, qx⟩ := q
    cases hdk : decide (qk = ik) with
    | false => simp only [hdk] at hk2; cases hk2
    | true =>
    simp only [hdk, cond_true] at hk2
    obtain rfl := of_decide_eq_true hdk
    split at hk2
    · rename_i hb
      obtain rfl := Ty.eq_of_beq hb
      obtain ⟨ho', b, es, c, f1, f2, f3, f4⟩ := mref_ok hm h2
      have hxv : a.eval x = .int qk n := hx
      have hfind := MapKept.run_findKey (P := P) (w := w) hku (find_now (n := n) 0 f4)
      have hck : ∀ e n', (Instr.checkKey e (n' + 1) kt (.int qk n)).run P w = .ok () w := fun e n' => by
        unfold Instr.checkKey
        simp only [Sem.run_bind, run_underlying hku, Result.andThen]
        rfl
      have hck := fun e => hck e 9999
      obtain ⟨p1, p2⟩ := put_find qk n bv es.toList qx 0 f4
      have hbl : b < w.heap.size := heap_lt_of_some f3
      have hput : ∀ ob, Put w { w with heap := w.heap.setIfInBounds b ob } b := fun ob => ⟨rfl, rfl, rfl, by simp, fun c hc => by simp [Array.getElem?_setIfInBounds_ne (Ne.symm hc)]⟩
      have fin : ∀ (es' : Array MapEntry) (c' : Nat), (Instr.mapUpdate t (a.eval m) (a.eval x) (a.eval v)).run P w = .ok () { w with heap := w.heap.setIfInBounds b (.map es' c') } → RMs qk es'.toList (rMput qx n bv) → o.wp P a w (Ends ω a w o.dst k r) Q := by
        intro es' c' hrun hms
        have hh : ({ w with heap := w.heap.setIfInBounds b (.map es' c') } : World).heap[b]? = some (.map es' c') := by simp [hbl]
        refine wp_skip' (w' := { w with heap := w.heap.setIfInBounds b (.map es' c') }) ?_ ?_
        · unfold execOp
          simp only [ho]
          rw [Sem.run_bind, hrun]
          rfl
        · have hne : id ≠ 0 := h.ne0 (by rw [ho']; exact fun e => by cases e)
          exact ends_undef (h.store_mp f1 ho' (hput _) hh hms) (put_ext hne f1 (hput _)) hd hk2
      cases hf : rFind qx n 0 with
      | none =>
        refine fin (es.push ⟨.int qk n, .bool bv, c⟩) (c + 1) ?_ (by rw [Array.toList_push]; exact p1 c hf)
        rw [f2, hxv, hbv]
        unfold Instr.mapUpdate
        rw [hf] at hfind
        simp only [Sem.run_bind, run_underlying hu, Result.andThen, MapKept.run_getObj_map f3, hck, hfind, Option.map_none, MapKept.run_setObj_map _ f3]
      | some p =>
        obtain ⟨j, bb⟩ := p
        obtain ⟨_, e, e1, e2, e3⟩ := p2 j bb hf
        rw [Nat.sub_zero] at e1 e3
        refine fin (es.modify j fun e => { e with key := .int qk n, val := .bool bv }) c ?_ (by rw [Array.toList_modify]; exact e3)
        rw [f2, hxv, hbv]
        unfold Instr.mapUpdate
        rw [hf] at hfind
        have hkey : ((es[j]?).map (·.key)).getD (.int qk n) = .int qk n := by
          have : es[j]? = some e := by rw [← Array.getElem?_toList]; exact e1
          rw [this]
          exact e2
        have hkt : (Instr.keyThatStays (.int qk n) (.int qk n)).run P w = .ok (.int qk n) w := by
          unfold Instr.keyThatStays
          have : Instr.sameBits 10000 (.int qk n) (.int qk n) = true := by simp only [Instr.sameBits, beq_self_eq_true, Bool.true_and]; exact beq_self_eq_true (α := Int) n
          rw [this]
          rfl
        simp only [Sem.run_bind, run_underlying hu, Result.andThen, MapKept.run_getObj_map f3, hck, hfind, Option.map_some, hkey, hkt, MapKept.run_setObj_map _ f3]
    · cases hk2
  · cases hk
end
end Go.R
namespace Go.R
section
variable {R:Type} {P:Program} {E:Env} {ω:Own} {a:Act} {w:World} {s:S} {k:S→Option R} {r:R} {o:Oper} {Q:Exit→Act→World→Prop}
def Stays (w:World) (ω:Own) (w':World) (ω':Own):Prop:=w.heap.size≤w'.heap.size∧∀ b,b < w.heap.size→ω b=none→w'.heap[b]? = w.heap[b]? ∧ ω' b=none
theorem Ext.stays {w':World} {ω':Own} (h:Ext ω w ω' w'):Stays w ω w' ω':=⟨h.size,fun b hb hn=>by have:=h.block b hb (.inl hn);exact ⟨this.1,this.2.trans hn⟩⟩
theorem Stays.trans {w' w'':World} {ω' ω'':Own} (h:Stays w ω w' ω') (h':Stays w' ω' w'' ω''):Stays w ω w'' ω'':=
 ⟨Nat.le_trans h.1 h'.1,fun b hb hn=>by
  have h1:=h.2 b hb hn
  have h2:=h'.2 b (Nat.lt_of_lt_of_le hb h.1) h1.2
  exact ⟨h2.1.trans h1.1,h2.2⟩⟩
theorem Stays.keeps {w':World} {ω':Own} (h:Stays w ω w' ω'):Keeps w ω w' ω' .imm:=by
 intro b hb hk
 rcases hk with hk | ⟨k,_,hk⟩
 ·have:=h.2 b hb hk
  exact ⟨this.1,this.2.trans hk.symm⟩
 ·exact hk.elim
theorem Stays.iptr {w':World} {ω':Own} (h:Stays w ω w' ω') {v:Value} {cs:Tys} {x:cs.T} {off:Nat} (hr:RIptr w ω v cs x off):RIptr w' ω' v cs x off:=by
 obtain ⟨b,o',h1,h2,h3,h4⟩:=hr
 have hb:=h.2 b h2 h1
 exact ⟨b,o',hb.2,Nat.lt_of_lt_of_le h2 h.1,h3,Tys.R_frame h.1 cs _ _ _ 0 _ (fun _=>h.keeps) (fun j=>cell_of_heap (a:=⟨b,o'+j,none⟩) hb.1) h4⟩
theorem RKVs_stays {w':World} {ω':Own} (h:Stays w ω w' ω'):∀ (vs:List (KV real)) (us:List Value) (b:Nat),(∀ v∈vs,v.1.isVal=true)→RKVs w ω b vs us→RKVs w' ω' b vs us
 | [],[],_,_,_=>trivial
 | [],_::_,_,_,hr=>hr.elim
 | _::_,[],_,_,hr=>hr.elim
 | ⟨kk,x⟩::vs,u::us,b,ha,hr=>by
  refine ⟨?_,RKVs_stays h vs us (b+1) (fun v hv=>ha v (by simp [hv])) hr.2⟩
  have h0:=ha ⟨kk,x⟩ (by simp)
  have h1:=hr.1
  cases kk with
  | val t=>exact Ty.R_frame h.1 t .imm u x h.keeps h1
  | arr _ _ _=>cases h0
  | mp _=>cases h0
theorem RShs_stays {w' : World} {ω' : Own} (h : Stays w ω w' ω') : ∀ (shs : List Sh) (vs : List (KV real)) (us : List Value) (b : Nat), shs.all Sh.light = true → vs.map (·.1) = (shs.map Sh.ks).flatten → RShs w ω b shs vs us → RShs w' ω' b shs vs us
  | [], _, _, _, _, _, hr => hr
  | sh :: shs, vs, [], _, _, _, hr => hr.elim
  | sh :: shs, vs, u :: us, b, hl, hk, hr => by
    obtain ⟨r1, r2, r3⟩ := hr
    rw [List.all_cons, Bool.and_eq_true] at hl
    simp only [List.map_cons, List.flatten_cons] at hk
    have hk1 : (vs.take sh.ks.length).map (·.1) = sh.ks := by
      rw [List.map_take, hk, List.take_left']
      rfl
    have hk2 : (vs.drop sh.ks.length).map (·.1) = (shs.map Sh.ks).flatten := by
      rw [List.map_drop, hk, List.drop_left']
      rfl
    refine ⟨r1, ?_, RShs_stays h shs _ us _ hl.2 hk2 r3⟩
    have hl1 := hl.1
    cases sh with
    | one kk =>
      obtain ⟨v, e1, e2⟩ := r2
      rw [e1] at hk1
      have hv : v.1 = kk := by simpa [Sh.ks] using hk1
      refine ⟨v, e1, (RKVs_stays h [v] [u] b (fun v' hv' => ?_) ⟨e2, trivial⟩).1⟩
      rw [List.mem_singleton] at hv'
      subst hv'
      rw [hv]
      simpa [Sh.light] using hl1
    | agg ks =>
      obtain ⟨cells, e1, e2⟩ := r2
      refine ⟨cells, e1, RKVs_stays h _ cells b (fun v hv => ?_) e2⟩
      have hm : v.1 ∈ ks := by
        have : v.1 ∈ ((vs.take (Sh.agg ks).ks.length).map (·.1)) := List.mem_map.2 ⟨v, hv, rfl⟩
        rw [hk1] at this
        exact this
      simpa using List.all_eq_true.1 hl1 _ hm
    | blk _ => cases hl1
    | ro cs =>
      obtain ⟨x, e1, e2⟩ := r2
      exact ⟨x, e1, h.iptr e2⟩
    | fn f caps =>
      obtain ⟨cv, e1, e2, e3⟩ := r2
      refine ⟨cv, e1, ?_, e3⟩
      have key : ∀ (cv : List Value) (cc : List (Cap real)), (∀ c ∈ cc, ∃ cs x, c = .ro cs x) → All2 (fun v c => RCap w ω ⟨fun _ => .dead, fun _ => ⟨0, 0, .gone⟩⟩ v c) cv cc → All2 (fun v c => RCap w' ω' ⟨fun _ => .dead, fun _ => ⟨0, 0, .gone⟩⟩ v c) cv cc := by
        intro cv
        induction cv with
        | nil => intro cc _ h2; cases cc with | nil => trivial | cons _ _ => exact h2.elim
        | cons v cv ih =>
          intro cc hro h2
          cases cc with
          | nil => exact h2.elim
          | cons c cc =>
            refine ⟨?_, ih cc (fun c' hc' => hro c' (by simp [hc'])) h2.2⟩
            obtain ⟨cs, x, rfl⟩ := hro c (by simp)
            exact h.iptr h2.1
      exact key cv _ e3 e2
    | fnm _ _ => cases hl1
theorem lays_gone:∀ (vs:List (KV real)) (b:Nat) (s:S),(∀ v∈vs,v.1.isVal=true)→(∀ i,(s.ob i).o=.gone)→∀ i,((lays b vs s).2.ob i).o=.gone
 | [],_,_,_,h,i=>h i
 | ⟨kk,x⟩::vs,b,s,ha,h,i=>by
  simp only [lays]
  refine lays_gone vs (b+1) _ (fun v hv=>ha v (by simp [hv])) (fun j=>?_) i
  have h0:=ha ⟨kk,x⟩ (by simp)
  cases kk with
  | val t =>
   simp only [lay1]
   by_cases e:j=b
   ·subst e;unfold St.new;rw [St.upd_ob_self]
   ·unfold St.new;rw [St.upd_ob_ne _ _ e];exact h j
  | arr _ _ _=>cases h0
  | mp _=>cases h0
theorem layAll_gone : ∀ (shs : List Sh) (vs : List (KV real)) (b : Nat) (s : S), shs.all Sh.light = true → vs.map (·.1) = (shs.map Sh.ks).flatten → (∀ i, (s.ob i).o = .gone) → ∀ i, ((layAll b shs vs s).2.ob i).o = .gone
  | [], _, _, _, _, _, h, i => h i
  | sh :: shs, vs, b, s, hl, hk, h, i => by
    rw [List.all_cons, Bool.and_eq_true] at hl
    simp only [List.map_cons, List.flatten_cons] at hk
    have hk1 : (vs.take sh.ks.length).map (·.1) = sh.ks := by
      rw [List.map_take, hk, List.take_left']
      rfl
    have hk2 : (vs.drop sh.ks.length).map (·.1) = (shs.map Sh.ks).flatten := by
      rw [List.map_drop, hk, List.drop_left']
      rfl
    simp only [layAll]
    refine layAll_gone shs _ _ _ hl.2 hk2 (fun j => ?_) i
    have hl1 := hl.1
    have ha : ∀ ks, sh.ks = ks → (ks.all K.isVal) = true → ∀ v ∈ vs.take sh.ks.length, v.1.isVal = true := by
      intro ks e hall v hv
      have hm : v.1 ∈ ks := by
        have : v.1 ∈ ((vs.take sh.ks.length).map (·.1)) := List.mem_map.2 ⟨v, hv, rfl⟩
        rw [hk1, e] at this
        exact this
      simpa using List.all_eq_true.1 hall _ hm
    cases sh with
    | one kk =>
      have hv := ha [kk] rfl (by simpa [Sh.light] using hl1)
      cases hvs : vs.take (Sh.one kk).ks.length with
      | nil => simp only [layTV]; exact h j
      | cons v rest =>
        cases rest with
        | nil =>
          rw [hvs] at hv
          simp only [layTV]
          exact lays_gone [v] b s hv h j
        | cons _ _ => simp only [layTV]; exact h j
    | agg ks => exact lays_gone _ b s (ha ks rfl hl1) h j
    | blk _ => cases hl1
    | ro cs =>
      simp only [layTV]
      cases toVs (A := real) cs (vs.take (Sh.ro cs).ks.length) <;> exact h j
    | fn f caps => exact h j
    | fnm _ _ => cases hl1
def vals (t:Tmpl) (a:Act):List Value:=t.map fun p=>a.tmps.getD p.1 undef
def KeepR (w : World) (ω : Own) (a : Act) (t : Tmpl) (kx : KTs real (Tmpl.ks t)) : Prop := RShs w ω 1 (t.map (·.2)) (ofKTs _ kx) (vals t a)
theorem ofKTs_ks : ∀ (ks : List K) (x : KTs real ks), (ofKTs ks x).map (·.1) = ks
  | [], _ => rfl
  | k :: ks, (x, r) => congrArg (k :: ·) (ofKTs_ks ks r)
theorem vals_get (t : Tmpl) (a : Act) (j d : Nat) (hd : (t.map (·.1))[j]? = some d) (u : Value) (hu : (vals t a)[j]? = some u) : a.tmps.getD d undef = u := by
  unfold vals at hu
  rw [List.getElem?_map] at hd hu
  cases htj : t[j]? with
  | none => rw [htj] at hd; cases hd
  | some p =>
    rw [htj] at hd hu
    have hd := Option.some.inj hd
    have hu := Option.some.inj hu
    subst hd
    exact hu
def headS (keep tmpl:Tmpl) (kx:KTs real (Tmpl.ks keep)) (x:KTs real (Tmpl.ks tmpl)):S:=layT tmpl x (layT keep kx St.start)
theorem ks_map (t : Tmpl) : ((t.map (·.2)).map Sh.ks).flatten = Tmpl.ks t := by
  unfold Tmpl.ks; rw [List.map_map]; rfl
theorem head_rel {keep tmpl : Tmpl} {kx : KTs real (Tmpl.ks keep)} {x : KTs real (Tmpl.ks tmpl)} (hl : (keep.map (·.2)).all Sh.light = true) (hinj : ∀ b b' k, ω b = some k → ω b' = some k → b = b') (hdom : ∀ b k, ω b = some k → b < w.heap.size) (hdef : a.defers = [])
    (hk : KeepR w ω a keep kx) (hx : KeepR w ω a tmpl x) : Rel ω a w (headS keep tmpl kx x) := by
  have h1 : Rel ω a w (layT keep kx St.start) := laid_rel (by omega) hinj hdom hdef (fun _ => rfl) (fun _ => trivial) hk (vals_get keep a)
  have hg : ∀ i, ((layT keep kx St.start).ob i).o = .gone := by
    intro i
    unfold layT
    rw [setAll_ob]
    exact layAll_gone _ _ 1 _ hl (by rw [ofKTs_ks, ks_map]) (fun _ => rfl) i
  exact laid_rel (by omega) hinj hdom hdef hg h1.slots hx (vals_get tmpl a)
theorem slots_all2 (h:Rel ω a w s):∀ t:Tmpl,All2 (RTV w ω s) (vals t a) (t.map fun p=>s.sl p.1)
 | []=>trivial
 | p::t=>⟨h.slots p.1,slots_all2 h t⟩
theorem takeT_ok (h : Rel ω a w s) {t : Tmpl} {x : KTs real (Tmpl.ks t)} {s1 : S} (ht : takeT t s = some (x, s1)) :
    ∃ ω1 m, Passes ω a w s ω1 s1 ∧ Gone w ω s ω1 s1 m 1 (1 + widths (t.map (·.2))) ∧ ((t.map (·.2)).all Sh.light = true → m = []) ∧ ∀ ω2 s2 ω', Later ω1 s1 ω2 s2 → Sends w ω2 ω' m → KeepR w ω' a t x := by
  unfold takeT at ht
  cases hq : takeAll (t.map (·.2)) (t.map fun p => s.sl p.1) s with
  | none => rw [hq] at ht; cases ht
  | some q =>
    obtain ⟨vs, s2⟩ := q
    rw [hq] at ht
    simp only at ht
    cases hx : toKTs (Tmpl.ks t) vs with
    | none => rw [hx] at ht; cases ht
    | some y =>
      rw [hx] at ht
      have ht := Option.some.inj ht
      injection ht with e1 e2
      subst e1; subst e2
      obtain ⟨ω1, m, p1, g1, n1, r1⟩ := takeAll_ok _ _ _ ω s vs s2 1 h (slots_all2 h t) hq
      refine ⟨ω1, m, p1, g1, n1, fun ω2 s3 ω' hL hS => ?_⟩
      unfold KeepR
      rw [ofKTs_toKTs _ _ _ hx]
      exact r1 ω2 s3 ω' hL hS
theorem enter_ok (h : Rel ω a w s) {keep tmpl : Tmpl} {kx : KTs real (Tmpl.ks keep)} {s1 : S} {x : KTs real (Tmpl.ks tmpl)} {s2 : S} (hl : (keep.map (·.2)).all Sh.light = true) (h1 : takeT keep s = some (kx, s1)) (h2 : takeT tmpl s1 = some (x, s2)) :
    ∃ ω', Rel ω' a w (headS keep tmpl kx x) ∧ Ext ω w ω' w ∧ KeepR w ω' a keep kx := by
  obtain ⟨ω1, m1, p1, g1, n1, r1⟩ := takeT_ok h h1
  obtain ⟨ω2, m2, p2, g2, n2, r2⟩ := takeT_ok p1.rel h2
  have hm := n1 hl
  subst hm
  have hS : Sends w ω2 (ω2.named m2) m2 := named_sends g2
  have hk := r1 ω2 s2 (ω2.named m2) g2.later ⟨hS.none, fun _ _ h => nomatch h⟩
  exact ⟨ω2.named m2, head_rel hl (named_inj (by omega) g2 p2.rel.inj) (named_dom p2.rel.dom) p2.rel.defers hk (r2 ω2 s2 _ (Later.refl _ _) hS), (p1.ext.trans p2.ext).trans (named_ext _ _ _), hk⟩
theorem leave_ok (h : Rel ω a w s) {ω0 : Own} {w0 : World} {a0 : Act} {keep t : Tmpl} {kx : KTs real (Tmpl.ks keep)} {x : KTs real (Tmpl.ks t)} {s1 : S} (hl : (keep.map (·.2)).all Sh.light = true) (hk0 : KeepR w0 ω0 a0 keep kx) (he : Ext ω0 w0 ω w)
    (hsame : ∀ p ∈ keep, a.tmps.getD p.1 undef = a0.tmps.getD p.1 undef) (h1 : takeT t s = some (x, s1)) : ∃ ω', Rel ω' a w (headS keep t kx x) ∧ Ext ω w ω' w ∧ KeepR w ω' a keep kx := by
  obtain ⟨ω1, m1, p1, g1, n1, r1⟩ := takeT_ok h h1
  have hS : Sends w ω1 (ω1.named m1) m1 := named_sends g1
  have hv : vals keep a = vals keep a0 := by
    unfold vals
    exact List.map_congr_left hsame
  have hst : Stays w0 ω0 w (ω1.named m1) := (he.trans (p1.ext.trans (named_ext _ _ m1))).stays
  have hk : KeepR w (ω1.named m1) a keep kx := by
    unfold KeepR
    rw [hv]
    exact RShs_stays hst _ _ _ 1 hl (by rw [ofKTs_ks, ks_map]) hk0
  exact ⟨ω1.named m1, head_rel hl (named_inj (by omega) g1 p1.rel.inj) (named_dom p1.rel.dom) p1.rel.defers hk (r1 ω1 s1 _ (Later.refl _ _) hS), p1.ext.trans (named_ext _ _ _), hk⟩
end
end Go.R
namespace Go.R
structure FnR where
 look:Bool
 args:List Sh
 rets:List Sh
 fn:KTs real ((args.map Sh.ks).flatten)→Option (KTs real ((rets.map Sh.ks).flatten++(outsOf look args++(allB args).flatten)))
def FnR.callee (F:FnR) (R:Type):Callee real (Option R):=⟨F.look,F.args,F.rets,fun x k=>(F.fn x).bind k⟩
def tab (Ψ : FKey → Option FnR) (R : Type) : FKey → Option (Callee real (Option R)) := fun f => (Ψ f).map (·.callee R)
structure LoopR where
 keep:Tmpl
 tmpl:Tmpl
 exits:List (Ex×Tmpl)
 fn:KTs real (Tmpl.ks keep)→KTs real (Tmpl.ks tmpl)→Option (Outs real exits)
def LoopR.oracle (l:LoopR) (R:Type):LoopO real (Option R):=⟨l.keep,l.tmpl,l.exits,fun kx x k=>(l.fn kx x).bind fun q=>Outs.elim l.exits q k⟩
def ltab (Λ : Nat → Option LoopR) (R : Type) : Nat → Option (LoopO real (Option R)) := fun n => (Λ n).map (·.oracle R)
def StepCall (P:Program) (E:Env) (Ψ:FKey→Option FnR):Prop:=
 ∀ (R:Type) (o:Oper) (f:Operand) (args:Array Operand) (tys:Array Nat) (ω:Own) (a:Act) (w:World) (s:S) (k:S→Option R) (r:R) (Q:Exit→Act→World→Prop),
  o.op=.call ⟨.value f,args,tys⟩→Rel ω a w s→(∀ d,o.dst=some d→d < a.tmps.size)→stepC E (realC R) (tab Ψ R) o s k=some r→o.wp P a w (Ends ω a w o.dst k r) Q
section
variable {R:Type} {P:Program} {E:Env} {Ψ:FKey→Option FnR} {ω:Own} {a:Act} {w:World} {s:S} {k:S→Option R} {r:R} {o:Oper} {Q:Exit→Act→World→Prop}
theorem step_any (hE:EnvOk P E) (hC:StepCall P E Ψ) (h:Rel ω a w s) (hd:∀ d,o.dst=some d→d < a.tmps.size)
  (hk:stepC E (realC R) (tab Ψ R) o s k=some r):o.wp P a w (Ends ω a w o.dst k r) Q:=by
 cases ho:o.op with
 | move x=>exact step_move (E:=E) (.inl ho) h hd (by unfold stepC at hk;simp only [ho] at hk;exact hk)
 | assign x=>exact step_move (E:=E) (.inr ho) h hd (by unfold stepC at hk;simp only [ho] at hk;exact hk)
 | pick c x y=>exact step_pick (E:=E) ho h hd (by unfold stepC at hk;simp only [ho] at hk;exact hk)
 | alloc t=>exact step_alloc hE ho h hd hk
 | box t x=>exact step_box hE ho h hd hk
 | build t ps=>exact step_build hE ho h hd hk
 | buildSlice t n ps=>exact step_buildSlice hE ho h hd hk
 | load t x=>exact step_load hE ho h hd hk
 | store t p v=>exact step_store hE ho h hd hk
 | nilCheck x=>exact step_nilCheck ho h hd hk
 | binOp op t x y yt=>exact step_bin hE ho h hd hk
 | unOp op t x=>exact step_un ho h hd hk
 | convert src dst x=>exact step_convert hE ho h hd hk
 | makeFunc fn first captured =>
  cases fn with
  | func f=>exact step_makeFunc ho h hd hk
  | _=>unfold stepC at hk;simp only [ho] at hk;cases hk
 | makeSlice t n c=>exact step_makeSlice hE ho h hd hk
 | makeMap t r=>exact step_makeMap hE ho h hd hk
 | lookup t m x ok=>exact step_lookup hE ho h hd hk
 | mapUpdate t m x v=>exact step_mapUpdate hE ho h hd hk
 | slice t x lo hi mx=>exact step_slice hE ho h hd hk
 | fieldAddr t x f=>exact step_fieldAddr hE ho h hd hk
 | field t x f=>exact step_field hE ho h hd hk
 | indexAddr t x i=>exact step_indexAddr hE ho h hd hk
 | index t x i=>exact step_index hE ho h hd hk
 | extract t i=>exact step_extract ho h hd hk
 | call c =>
  obtain ⟨cal,args,tys⟩:=c
  cases cal with
  | value f=>exact hC R o f args tys ω a w s k r Q ho h hd hk
  | invoke _ _=>unfold stepC at hk;simp only [ho] at hk;cases hz:Nat.beq args.size tys.size <;> rw [hz] at hk <;> cases hk
  | builtin b =>
   have hsz:args.size=tys.size:=by
    unfold stepC at hk
    simp only [ho] at hk
    cases hz:Nat.beq args.size tys.size with
    | true=>exact Nat.eq_of_beq_eq_true hz
    | false=>rw [hz] at hk;cases hk
   by_cases hb:b=.append
   ·subst hb;exact step_append hE ho hsz h hd hk
   ·by_cases hb':b=.len∨b=.min∨b=.max
    ·exact step_small hE ho hb' hsz h hd hk
    ·exfalso
     have hszb:Nat.beq args.size tys.size=true:=by rw [hsz];exact Nat.beq_refl _
     unfold stepC at hk
     simp only [ho,hszb,cond_true] at hk
     unfold builtinV at hk
     split at hk <;> first | exact hb rfl | exact hb' (.inl rfl) | exact hb' (.inr (.inl rfl)) | exact hb' (.inr (.inr rfl)) | cases hk
 | _=>unfold stepC at hk;simp only [ho] at hk;cases hk
def ExM:Exit→Ex→Prop
 | .normal,.normal=>True
 | .exit i,.exit j=>i=j
 | .ret,.ret=>True
 | _,_=>False
def Post {R:Type} (U:Nat→Prop) (ω:Own) (a:Act) (w:World) (k:Ex→S→Option R) (r:R):Exit→Act→World→Prop:=fun e a' w' =>
 ∃ ex ω' s',ExM e ex∧Rel ω' a' w' s'∧Ext ω w ω' w'∧k ex s'=some r∧a'.tmps.size=a.tmps.size∧∀ j,U j→a'.tmps.getD j undef=a.tmps.getD j undef
theorem Rel.reset (h:Rel ω a w s) {d:Nat} {t:TVr} (ht:RTV w ω s (a.tmps.getD d undef) t):Rel ω a w (s.set d t) where
 inj:=h.inj
 dom:=h.dom
 defers:=h.defers
 own0:=h.own0
 slots i:=by
  have tr:∀ id,Tr w ω s w ω (s.set d t) id:=fun id=>Tr.of_ob h.dom rfl
  by_cases e:i=d
  ·subst e
   rw [St.set_sl_self]
   exact RTV.frame (Ext.refl _ _) tr ht
  ·rw [St.set_sl_ne _ _ e]
   exact RTV.frame (Ext.refl _ _) tr (h.slots i)
 blks id cells hc:=by
  obtain ⟨b,arr,T,h1,h2,h3⟩:=h.blks id cells hc
  exact ⟨b,arr,T,h1,h2,h3.mono fun _ _ hl=>RLf.frame (Ext.refl _ _) (fun id=>Tr.of_ob h.dom rfl) hl⟩
theorem yielded_bool {ops : Array Oper} {tmps : Array Value} {j t : Nat} {b : Bool} (ht : (ops[j]?).bind (·.dst) = some t) (hv : tmps.getD t undef = .bool b) : yielded ops tmps j = some b := by
  unfold yielded
  rw [ht]
  simp only [Option.bind_some]
  rw [Array.getD_eq_getD_getElem?] at hv
  cases hq : tmps[t]? with
  | none => rw [hq] at hv; cases hv
  | some v => rw [hq] at hv; simp at hv; subst hv; rfl
theorem yielded_undef {ops : Array Oper} {tmps : Array Value} {j t : Nat} (ht : (ops[j]?).bind (·.dst) = some t) (hv : tmps.getD t undef = undef) : yielded ops tmps j = none := by
  unfold yielded
  rw [ht]
  simp only [Option.bind_some]
  rw [Array.getD_eq_getD_getElem?] at hv
  cases hq : tmps[t]? with
  | none => rfl
  | some v => rw [hq] at hv; simp at hv; subst hv; rfl
theorem opsC_ok (hE : EnvOk P E) (hC : StepCall P E Ψ) {ops : Array Oper} {U : Nat → Prop} : ∀ (l : List Oper) (ω : Own) (a : Act) (w : World) (s : S) (k : S → Option R) (Qn : Exit → Act → World → Prop), (∀ o ∈ l, ∀ j, U j → o.dst ≠ some j) → a.tmps.size = E.nt → Rel ω a w s → opsC E (realC R) (tab Ψ R) ops l s k = some r →
    (∀ ω' a' w' s', Rel ω' a' w' s' → Ext ω w ω' w' → k s' = some r → a'.tmps.size = a.tmps.size → (∀ j, U j → a'.tmps.getD j undef = a.tmps.getD j undef) → Qn .normal a' w') → wpList P ops Qn l a w
  | [], ω, a, w, s, k, Qn, _, _, h, hk, hQ => hQ ω a w s h (Ext.refl _ _) hk rfl (fun _ _ => rfl)
  | o :: rest, ω, a, w, s, k, Qn, hU, hn, h, hk, hQ => by
    simp only [opsC] at hk
    cases hdst : okDst E o.dst with
    | false => rw [hdst] at hk; cases hk
    | true =>
      rw [hdst] at hk
      simp only [cond_true] at hk
      have hd : ∀ d, o.dst = some d → d < a.tmps.size := by
        intro d e
        rw [e] at hdst
        have h1 : d + 1 ≤ E.nt := Nat.le_of_ble_eq_true hdst
        rw [hn]
        exact h1
      have hUr : ∀ o' ∈ rest, ∀ j, U j → o'.dst ≠ some j := fun o' ho' => hU o' (by simp [ho'])
      have hUo := hU o (by simp)
      have yes : ∀ (s0 : S), Rel ω a w s0 → (stepC E (realC R) (tab Ψ R) o s0 fun s1 => opsC E (realC R) (tab Ψ R) ops rest s1 k) = some r → o.wp P a w (wpList P ops Qn rest) Qn := by
        intro s0 h0 hk0
        refine Oper.wp_mono (fun a' w' hends => ?_) (step_any hE hC h0 hd hk0)
        obtain ⟨ω', s', g1, g2, g3, g4, g5⟩ := hends
        refine opsC_ok hE hC rest ω' a' w' s' k Qn hUr (g4.trans hn) g1 g3 (fun ω2 a2 w2 s2 q1 q2 q3 q4 q5 => ?_)
        exact hQ ω2 a2 w2 s2 q1 (g2.trans q2) q3 (q4.trans g4) (fun j hj => (q5 j hj).trans (g5 j (hUo j hj)))
      have no : ∀ (s0 : S), Rel ω a w s0 → opsC E (realC R) (tab Ψ R) ops rest (s0.setO o.dst (.one .undef)) k = some r → wpList P ops Qn rest (a.put o.dst undef) w := by
        intro s0 h0 hk0
        have h1 : Rel ω (a.put o.dst undef) w (s0.setO o.dst (.one .undef)) := h0.setO hd (t := .one .undef) rfl
        refine opsC_ok hE hC rest ω _ w _ k Qn hUr ((put_size _ _ _).trans hn) h1 hk0 (fun ω2 a2 w2 s2 q1 q2 q3 q4 q5 => ?_)
        exact hQ ω2 a2 w2 s2 q1 q2 q3 (q4.trans (put_size _ _ _)) (fun j hj => (q5 j hj).trans (put_other _ _ _ (hUo j hj)))
      unfold wpList
      cases hg : o.guard with
      | none =>
        rw [hg] at hk
        rw [if_pos (by simp [Region.wanted, hg])]
        exact .inl (yes s h hk)
      | some gw =>
        obtain ⟨j, want⟩ := gw
        rw [hg] at hk
        simp only at hk
        cases ht : (ops[j]?).bind (·.dst) with
        | none => rw [ht] at hk; cases hk
        | some t =>
          rw [ht] at hk
          simp only at hk
          have hsl := h.slots t
          have main : ∀ b : Bool, RTV w ω s (a.tmps.getD t undef) (.one (.val .bool (real.litB b))) →
              (bif b then (bif want then stepC E (realC R) (tab Ψ R) o (s.set t (.one (.val .bool (real.litB true)))) (fun s1 => opsC E (realC R) (tab Ψ R) ops rest s1 k) else opsC E (realC R) (tab Ψ R) ops rest ((s.set t (.one (.val .bool (real.litB true)))).setO o.dst (.one .undef)) k)
                else (bif want then opsC E (realC R) (tab Ψ R) ops rest ((s.set t (.one (.val .bool (real.litB false)))).setO o.dst (.one .undef)) k else stepC E (realC R) (tab Ψ R) o (s.set t (.one (.val .bool (real.litB false)))) (fun s1 => opsC E (realC R) (tab Ψ R) ops rest s1 k))) = some r →
              if Region.wanted o (yielded ops a.tmps) then o.wp P a w (wpList P ops Qn rest) Qn ∨ (o.asks P a w ∧ LetsOut Qn) else wpList P ops Qn rest (a.put o.dst undef) w := by
            intro b hsl hk'
            have hv : a.tmps.getD t undef = .bool b := hsl
            have hy := yielded_bool (ops := ops) ht hv
            have hw : Region.wanted o (yielded ops a.tmps) = (some b == some want) := by simp [Region.wanted, hg, hy]
            rw [hw]
            have hset := h.reset hsl
            cases b with
            | true =>
              cases want with
              | true => rw [if_pos (by rfl)]; exact .inl (yes _ hset hk')
              | false => rw [if_neg (by decide)]; exact no _ hset hk'
            | false =>
              cases want with
              | true => rw [if_neg (by decide)]; exact no _ hset hk'
              | false => rw [if_pos (by rfl)]; exact .inl (yes _ hset hk')
          cases hst : s.sl t with
          | one l =>
            rw [hst] at hk hsl
            cases l with
            | val tt b0 =>
              cases tt with
              | bool => exact main b0 hsl hk
              | _ => cases hk
            | undef =>
              have hv : a.tmps.getD t undef = undef := hsl
              have hy := yielded_undef (ops := ops) ht hv
              rw [if_neg (by simp [Region.wanted, hg, hy])]
              exact no s h hk
            | _ => cases hk
          | agg _ => rw [hst] at hk; cases hk
          | tup _ => rw [hst] at hk; cases hk
end
end Go.R
namespace Go.R
section
variable {R:Type} {E:Env} {Ψ:FKey→Option FnR}
noncomputable def step1 (E:Env) (Ψ:FKey→Option FnR) (o:Oper) (s:S):Option S:=stepC E (realC S) (tab Ψ S) o s some
theorem mapFail_cps {α:Type} {x:Option α} {f:α→Option R} {g:α→Option S} {k:S→Option R} (h:∀ y,f y=(g y).bind k):mapFail (realC R) x f=(mapFail (realC S) x g).bind k:=by
 cases x with
 | none=>rfl
 | some y=>exact h y
theorem cond_cps {b:Bool} {x y:Option R} {x' y':Option S} {k:S→Option R} (hx:x=x'.bind k) (hy:y=y'.bind k):(bif b then x else y)=(bif b then x' else y').bind k:=by
 cases b
 ·exact hy
 ·exact hx
theorem binV_cps (tb:Bool) (op:BinOp) (x y:L) (f:L→Option R) (g:L→Option S) (k:S→Option R) (h:∀ l,f l=(g l).bind k):binV (realC R) tb op x y f=(binV (realC S) tb op x y g).bind k:=by
 unfold binV
 cases x with
 | val t x =>
  cases y with
  | val u y =>
   cases t <;> cases u <;> simp only [] <;> first
    | rfl
    | (cases op <;> first
      | rfl
      | exact cond_cps rfl (h _)
      | exact cond_cps (h _) rfl
      | exact h _
      | (simp only [];split <;> first | rfl | exact h _ | exact cond_cps rfl (h _)))
    | (cases tb <;> cases op <;> first | rfl | exact h _)
    | skip
  | _=>cases t <;> rfl
 | _=>rfl
theorem sliceFin_cps (d:Nat) (s:S) (x:TVr) (c:Cont real) (b:Bool) (l h:IV) (f:TVr→S→Option R) (g:TVr→S→Option S) (k:S→Option R) (hk:∀ v s,f v s=(g v s).bind k):sliceFin E (realC R) d s x c b l h f=(sliceFin E (realC S) d s x c b l h g).bind k:=by
 unfold sliceFin
 cases x with
 | one q =>
  cases q with
  | ref id gg hh p =>
   cases p with
   | nil =>
    simp only []
    refine cond_cps (hk _ _) (cond_cps (cond_cps rfl (hk _ _)) (hk _ _))
   | cons _ _=>rfl
  | _=>exact hk _ _
 | _=>exact hk _ _
theorem sliceV_cps (d t:Nat) (s:S) (x:TVr) (lo hi mx:Option Operand) (f:TVr→S→Option R) (g:TVr→S→Option S) (k:S→Option R) (hk:∀ v s,f v s=(g v s).bind k):sliceV E (realC R) d t s x lo hi mx f=(sliceV E (realC S) d t s x lo hi mx g).bind k:=by
 unfold sliceV
 refine mapFail_cps fun q=>mapFail_cps fun c=>cond_cps (cond_cps (hk _ _) ?_) rfl
 cases mx with
 | some _=>rfl
 | none=>exact mapFail_cps fun l=>mapFail_cps fun h=>cond_cps (sliceFin_cps _ _ _ _ _ _ _ _ _ _ hk) rfl
theorem callL_cps (F:FnR) (d:Nat) (args:List TVr) (s:S) (f:TVr→S→Option R) (g:TVr→S→Option S) (k:S→Option R) (hk:∀ v s,f v s=(g v s).bind k):callL (realC R) (F.callee R) d args s f=(callL (realC S) (F.callee S) d args s g).bind k:=by
 unfold callL
 refine mapFail_cps fun s1=>mapFail_cps fun vs=>mapFail_cps fun x=>?_
 show (F.fn x).bind _=((F.fn x).bind _).bind k
 cases F.fn x with
 | none=>rfl
 | some y=>exact mapFail_cps fun s2=>hk _ _
theorem callV_cps (F:FnR) (d:Nat) (args:List TVr) (s:S) (f:TVr→S→Option R) (g:TVr→S→Option S) (k:S→Option R) (hk:∀ v s,f v s=(g v s).bind k):callV (realC R) (F.callee R) d args s f=(callV (realC S) (F.callee S) d args s g).bind k:=by
 unfold callV
 refine cond_cps (cond_cps ?_ (cond_cps (mapFail_cps fun r=>mapFail_cps fun x=>?_) rfl)) rfl
 ·cases hq:splitA (mkId d 0 0+2047) F.args args s with
  | none =>
   have e1:splitA (mkId d 0 0+2047) (F.callee R).args args s=none:=hq
   have e2:splitA (mkId d 0 0+2047) (F.callee S).args args s=none:=hq
   rw [e1,e2]
   exact callL_cps F d args s f g k hk
  | some q =>
   have e1:splitA (mkId d 0 0+2047) (F.callee R).args args s=some q:=hq
   have e2:splitA (mkId d 0 0+2047) (F.callee S).args args s=some q:=hq
   rw [e1,e2]
   exact callL_cps F d q.1 q.2.1 _ _ k fun v s2=>mapFail_cps fun s3=>hk _ _
 ·show (F.fn x).bind _=((F.fn x).bind _).bind k
  cases F.fn x with
  | none=>rfl
  | some y=>exact mapFail_cps fun s2=>hk _ _
theorem builtinV_cps (d:Nat) (b:Builtin) (tys:List Nat) (args:List TVr) (s:S) (f:TVr→S→Option R) (g:TVr→S→Option S) (k:S→Option R) (hk:∀ v s,f v s=(g v s).bind k):builtinV E (realC R) d b tys args s f=(builtinV E (realC S) d b tys args s g).bind k:=by
 unfold builtinV
 split
 ·refine cond_cps (mapFail_cps fun _=>hk _ _) (mapFail_cps fun _=>mapFail_cps fun _=>hk _ _)
 ·exact mapFail_cps fun _=>mapFail_cps fun _=>hk _ _
 ·exact mapFail_cps fun _=>mapFail_cps fun _=>hk _ _
 ·refine mapFail_cps fun q=>mapFail_cps fun _=>mapFail_cps fun cx=>mapFail_cps fun cy=>cond_cps rfl ?_
  split
  ·rfl
  ·refine cond_cps ?_ ?_
   ·split
    ·refine cond_cps ?_ rfl
     split
     ·exact cond_cps (hk _ _) rfl
     ·rfl
    ·rfl
   ·split
    ·exact cond_cps (hk _ _) rfl
    ·rfl
 ·rfl
theorem stepC_cps (o:Oper) (s:S) (k:S→Option R):stepC E (realC R) (tab Ψ R) o s k=(step1 E Ψ o s).bind k:=by
 unfold step1 stepC
 have hp:∀ (v:TVr) (s:S),k (s.setO o.dst v)=(some (s.setO o.dst v)).bind k:=fun _ _=>rfl
 cases o.op with
 | pick c a b=>exact mapFail_cps fun c=>cond_cps rfl rfl
 | alloc t=>exact mapFail_cps fun i=>rfl
 | box t x=>exact mapFail_cps fun i=>mapFail_cps fun v=>cond_cps (cond_cps (mapFail_cps fun r=>rfl) rfl) rfl
 | build t ps=>exact mapFail_cps fun i=>cond_cps (mapFail_cps fun cs=>rfl) rfl
 | buildSlice t n ps=>exact mapFail_cps fun r=>cond_cps (cond_cps (mapFail_cps fun lss=>mapFail_cps fun q=>mapFail_cps fun x=>rfl) (mapFail_cps fun q=>rfl)) rfl
 | load t p =>
  refine mapFail_cps fun i=>?_
  cases ev E s 0 p with
  | one l=>exact mapFail_cps fun v=>rfl
  | _=>rfl
 | store t p v =>
  refine mapFail_cps fun i=>mapFail_cps fun v=>cond_cps ?_ rfl
  cases ev E s 0 p with
  | one l=>exact mapFail_cps fun v=>rfl
  | _=>rfl
 | nilCheck x =>
  simp only []
  cases ev E s 0 x with
  | one l =>
   cases l with
   | ptr id g off=>exact mapFail_cps fun _=>rfl
   | eptr id g h p j off=>exact mapFail_cps fun c=>cond_cps rfl rfl
   | _=>rfl
  | _=>rfl
 | binOp op t x y yt =>
  simp only []
  cases nilTest E s op t x y with
  | some l=>rfl
  | none =>
  simp only []
  cases ev E s t x with
  | one x =>
   cases ev E s t y with
   | one y=>exact binV_cps _ _ _ _ _ _ _ (fun l=>rfl)
   | _=>rfl
  | agg xs =>
   cases ev E s t y with
   | agg ys=>exact mapFail_cps fun i=>mapFail_cps fun b=>by cases op <;> rfl
   | _=>rfl
  | tup _=>rfl
 | unOp op t x =>
  simp only []
  cases op <;> first | rfl | skip
  all_goals (cases ev E s t x with
   | one l=>cases l with
    | val tt y=>cases tt <;> rfl
    | _=>rfl
   | _=>rfl)
 | convert src dst x =>
  refine mapFail_cps fun _=>mapFail_cps fun i=>cond_cps rfl ?_
  split <;> rfl
 | makeFunc fn first captured =>
  cases fn with
  | func f=>exact cond_cps (mapFail_cps fun cc=>rfl) rfl
  | _=>rfl
 | makeSlice t n c=>exact mapFail_cps fun r=>mapFail_cps fun n'=>cond_cps (cond_cps rfl rfl) rfl
 | makeMap t rv=>exact mapFail_cps fun k=>cond_cps rfl rfl
 | lookup t m x ok =>
  refine mapFail_cps fun kk=>cond_cps rfl ?_
  split
  ·refine mapFail_cps fun q=>cond_cps ?_ rfl
   split <;> rfl
  ·rfl
 | mapUpdate t m x v =>
  refine mapFail_cps fun kk=>?_
  split
  ·refine mapFail_cps fun q=>cond_cps ?_ rfl
   split <;> rfl
  ·rfl
 | slice t x lo hi mx=>exact sliceV_cps _ _ _ _ _ _ _ _ _ _ (fun v s=>rfl)
 | fieldAddr t x f =>
  refine mapFail_cps fun i=>mapFail_cps fun q=>cond_cps rfl ?_
  cases ev E s 0 x with
  | one l =>
   cases l with
   | ptr id g off=>exact mapFail_cps fun _=>rfl
   | eptr id g h p j off=>exact mapFail_cps fun c=>cond_cps rfl rfl
   | _=>rfl
  | _=>rfl
 | field t x f =>
  refine mapFail_cps fun i=>mapFail_cps fun q=>cond_cps rfl ?_
  cases ev E s t x with
  | agg ls=>exact cond_cps rfl rfl
  | _=>rfl
 | indexAddr t x i =>
  refine mapFail_cps fun i=>mapFail_cps fun q=>?_
  cases ev E s t x with
  | one l =>
   cases l with
   | val tt y =>
    cases tt with
    | sl e cs=>exact cond_cps (cond_cps rfl rfl) rfl
    | _=>rfl
   | ref id g h p=>exact mapFail_cps fun c=>cond_cps (cond_cps (cond_cps rfl rfl) rfl) rfl
   | _=>rfl
  | _=>rfl
 | index t x i=>exact cond_cps (mapFail_cps fun i=>mapFail_cps fun x=>cond_cps rfl rfl) rfl
 | extract t i =>
  simp only []
  cases ev E s 0 t with
  | tup cs=>exact mapFail_cps fun c=>rfl
  | _=>rfl
 | call c =>
  refine cond_cps ?_ rfl
  cases c.callee with
  | builtin b=>exact builtinV_cps _ _ _ _ _ _ _ _ (fun v s=>rfl)
  | value f =>
   simp only []
   cases ev E s 0 f with
   | one l =>
    cases l with
    | fn fid cc =>
     simp only []
     unfold tab
     cases Ψ (fid,fnIds ((c.args.toList.zip c.argTypes.toList).map fun p=>ev E s p.2 p.1)) with
     | none=>rfl
     | some F =>
      simp only [Option.map_some,mapFail]
      exact callV_cps F _ _ _ _ _ _ (fun v s=>rfl)
    | _=>rfl
   | _=>rfl
  | invoke _ _=>rfl
 | _=>rfl
end
end Go.R
namespace Go.R
abbrev Sl:=Nat→TVr
structure Fr where
 sl:Sl
 F:Nat→Bool
 t:Nat→Slot real
def St.mx (s:S) (f:Fr):S:=⟨f.sl,fun id=>bif f.F id then s.ob id else f.t id⟩
section
variable {f:Fr}
theorem mx_ob {s:S} {id:Nat} (h:f.F id=true):(s.mx f).ob id=s.ob id:=by
 show (bif f.F id then s.ob id else f.t id)=_
 rw [h];rfl
theorem mx_upd {s:S} {id:Nat} (h:f.F id=true) (q:Slot real):(s.mx f).upd id q=(s.upd id q).mx f:=by
 unfold St.mx St.upd
 congr 1
 funext i
 simp only []
 cases hb:Nat.beq i id with
 | true=>rw [Nat.eq_of_beq_eq_true hb,h];rfl
 | false=>rfl
theorem mx_chg {s:S} {id:Nat} (h:f.F id=true) (nh:Bool) (o:Ob real):(s.mx f).chg id nh o=(s.chg id nh o).mx f:=by
 unfold St.chg
 rw [mx_ob h]
 exact mx_upd h _
theorem mx_new {s:S} {id:Nat} (h:f.F id=true) (o:Ob real):(s.mx f).new id o=(s.new id o).mx f:=by
 unfold St.new
 rw [mx_ob h]
 exact mx_upd h _
def InF (f:Fr) (ids:List Nat):Prop:=∀ id∈ids,f.F id=true
theorem InF.app {x y:List Nat} (h:InF f (x++y)):InF f x∧InF f y:=⟨fun id hi=>h id (List.mem_append.2 (.inl hi)),fun id hi=>h id (List.mem_append.2 (.inr hi))⟩
def InL (f:Fr) (ls:List L):Prop:=∀ l∈ls,InF f l.rids
theorem InL.hd {l:L} {ls:List L} (h:InL f (l::ls)):InF f l.rids:=h l (by simp)
theorem InL.tl {l:L} {ls:List L} (h:InL f (l::ls)):InL f ls:=fun x hx=>h x (by simp [hx])
theorem InF.ref {id g h:Nat} {p:Pth} (hf:InF f (Lf.rids (A:=real) (.ref id g h p))):f.F id=true:=hf id (by simp [Lf.rids])
theorem InF.ptr {id g off:Nat} (hf:InF f (Lf.rids (A:=real) (.ptr id g off))):f.F id=true:=hf id (by simp [Lf.rids])
theorem InF.eptr {id g h off:Nat} {p:Pth} {i:IV} (hf:InF f (Lf.rids (A:=real) (.eptr id g h p i off))):f.F id=true:=hf id (by simp [Lf.rids])
theorem InF.mref {id g:Nat} (hf:InF f (Lf.rids (A:=real) (.mref id g))):f.F id=true:=hf id (by simp [Lf.rids])
def Blks (s:S) (f:Fr) (ids:List Nat):Prop:=∀ id∈ids,∀ ls,(s.ob id).o=.blk ls→InL f ls
theorem cont_mx {s:S} {id:Nat} (h:f.F id=true) (g hh:Nat) (p:Pth):(s.mx f).cont id g hh p=s.cont id g hh p:=by unfold St.cont;rw [mx_ob h]
theorem blkOf_mx {s:S} {id:Nat} (h:f.F id=true) (g:Nat):blkOf (s.mx f) id g=blkOf s id g:=by unfold blkOf;rw [mx_ob h]
theorem mpOf_mx {s:S} {id:Nat} (h:f.F id=true) (g:Nat):mpOf (s.mx f) id g=mpOf s id g:=by unfold mpOf;rw [mx_ob h]
theorem solid_mx {s:S} {l:L} (h:InF f l.rids):solid (s.mx f) l=solid s l:=by
 cases l with
 | ref id g hh p=>simp only [solid];rw [cont_mx h.ref]
 | ptr id g off=>simp only [solid];rw [blkOf_mx h.ptr]
 | eptr id g hh p i off=>simp only [solid];rw [cont_mx h.eptr]
 | mref id g=>simp only [solid];rw [mpOf_mx h.mref]
 | _=>rfl
theorem cells?_mx {s:S} {v:TVr} (h:InL f v.lfs):cells? (s.mx f) v=cells? s v:=by
 cases v with
 | one l=>simp only [cells?];rw [solid_mx (h l (by simp [TV.lfs]))]
 | agg ls =>
  have:ls.all (solid (s.mx f))=ls.all (solid s):=by
   have h:InL f ls:=h
   induction ls with
   | nil=>rfl
   | cons l ls ih=>simp only [List.all_cons];rw [solid_mx h.hd,ih h.tl h.tl]
  simp only [cells?];rw [this]
 | tup _=>rfl
theorem cells?_lfs {s:S} {v:TVr} {ls:List L} (h:cells? s v=some ls):ls=v.lfs:=by
 cases v with
 | one l =>
  simp only [cells?] at h
  cases hb:solid s l <;> rw [hb] at h
  ·cases h
  ·exact (Option.some.inj h).symm
 | agg l =>
  simp only [cells?] at h
  cases hb:l.all (solid s) <;> rw [hb] at h
  ·cases h
  ·exact (Option.some.inj h).symm
 | tup _=>cases h
theorem loadV_mx {s:S} {l:L} (h:InF f l.rids) (b:Bool) (n:Nat):loadV (s.mx f) b n l=loadV s b n l:=by
 cases l with
 | ptr id g off=>simp only [loadV];rw [blkOf_mx h.ptr]
 | eptr id g hh p i off =>
  have hm:mkAt (s.mx f) id g p i=mkAt s id g p i:=by unfold mkAt;rw [mx_ob h.eptr]
  simp only [loadV];rw [cont_mx h.eptr,hm]
 | _=>rfl
theorem cont?_mx {s:S} {v:TVr} (h:InL f v.lfs):cont? (s.mx f) v=cont? s v:=by
 cases v with
 | one l =>
  cases l with
  | ref id g hh p=>simp only [cont?];exact cont_mx (h (.ref id g hh p) (by simp [TV.lfs])).ref _ _ _
  | val t x=>cases t <;> rfl
  | _=>rfl
 | _=>rfl
theorem pack1_mx (deep:Bool) (t:Ty) (l:L) (s:S) (h:InF f l.rids):pack1 (A:=real) deep t l (s.mx f)=(pack1 (A:=real) deep t l s).map fun q=>(q.1,q.2.mx f):=by
 cases l with
 | val u y =>
  cases u <;> cases deep <;> simp only [pack1,cond_true,cond_false] <;> first
   | rfl
   | (split <;> rfl)
 | nilS e cs =>
  cases t <;> simp only [pack1] <;> first | rfl | (split <;> rfl)
 | ref id g hh p =>
  cases p with
  | cons _ _=>cases t <;> rfl
  | nil =>
   have hid:=h.ref
   have hob:=mx_ob (s:=s) hid
   simp only [pack1,hob]
   cases Nat.beq (s.ob id).g g with
   | false=>rfl
   | true =>
    simp only [cond_true]
    cases (s.ob id).o with
    | arr e cs dp x=>simp only [];split <;> cases deep <;> first | rfl | (simp only [cond_false,Option.map_some];rw [mx_chg hid])
    | imm e cs x=>cases deep <;> simp only [cond_true,cond_false] <;> first | rfl | (split <;> rfl)
    | blk _=>rfl
    | gone=>rfl
    | mp _ _=>rfl
 | _=>cases t <;> rfl
theorem packs_mx (deep:Bool):∀ (cs:Tys) (ls:List L) (s:S),InL f ls→packs (A:=real) deep cs ls (s.mx f)=(packs (A:=real) deep cs ls s).map fun q=>(q.1,q.2.mx f)
 | .nil,[],_,_=>rfl
 | .nil,_::_,_,_=>rfl
 | .cons _ _,[],_,_=>rfl
 | .cons t ts,l::ls,s,h=>by
  simp only [packs]
  rw [pack1_mx _ _ _ _ h.hd]
  cases pack1 (A:=real) deep t l s with
  | none=>rfl
  | some q =>
   simp only [Option.map_some]
   rw [packs_mx deep ts ls q.2 h.tl]
   cases packs (A:=real) deep ts ls q.2 <;> rfl
theorem arr1_mx (e:Nat) (cs:Tys) (deep:Bool) (l:L) (s:S) (h:InF f l.rids):arr1 (A:=real) e cs deep l (s.mx f)=(arr1 (A:=real) e cs deep l s).map fun q=>(q.1,q.2.mx f):=by
 cases l with
 | nilS e' cs'=>simp only [arr1];split <;> rfl
 | ref id g hh p =>
  cases p with
  | cons _ _=>rfl
  | nil =>
   have hid:=h.ref
   have hob:=mx_ob (s:=s) hid
   simp only [arr1,hob]
   cases Nat.beq (s.ob id).g g with
   | false=>rfl
   | true =>
    simp only [cond_true]
    cases (s.ob id).o with
    | arr e' cs' dp x =>
     simp only []
     cases (dp == deep || cs'.plain) with
     | false=>rfl
     | true=>simp only [cond_true];split <;> first | rfl | (simp only [Option.map_some];rw [mx_chg hid])
    | _=>rfl
 | _=>rfl
theorem mp1_mx (k:IntKind) (l:L) (s:S) (h:InF f l.rids):mp1 (A:=real) k l (s.mx f)=(mp1 (A:=real) k l s).map fun q=>(q.1,q.2.mx f):=by
 cases l with
 | mref id g =>
  have hid:=h.mref
  have hob:=mx_ob (s:=s) hid
  simp only [mp1,hob]
  cases Nat.beq (s.ob id).g g with
  | false=>rfl
  | true =>
   simp only [cond_true]
   cases (s.ob id).o with
   | mp k' x=>simp only [];split <;> first | rfl | (simp only [Option.map_some];rw [mx_chg hid])
   | _=>rfl
 | _=>rfl
theorem take1_mx (k:K) (l:L) (s:S) (h:InF f l.rids):take1 k l (s.mx f)=(take1 k l s).map fun q=>(q.1,q.2.mx f):=by
 cases k with
 | val t=>simp only [take1];rw [pack1_mx _ _ _ _ h];cases pack1 (A:=real) false t l s <;> rfl
 | arr e cs deep=>simp only [take1];rw [arr1_mx _ _ _ _ _ h];cases arr1 (A:=real) e cs deep l s <;> rfl
 | mp kk=>simp only [take1];rw [mp1_mx _ _ _ h];cases mp1 (A:=real) kk l s <;> rfl
theorem takes_mx:∀ (ks:List K) (ls:List L) (s:S),InL f ls→takes ks ls (s.mx f)=(takes ks ls s).map fun q=>(q.1,q.2.mx f)
 | [],[],_,_=>rfl
 | [],_::_,_,_=>rfl
 | _::_,[],_,_=>rfl
 | k::ks,l::ls,s,h=>by
  simp only [takes]
  rw [take1_mx _ _ _ h.hd]
  cases take1 k l s with
  | none=>rfl
  | some q =>
   simp only [Option.map_some]
   rw [takes_mx ks ls q.2 h.tl]
   cases takes ks ls q.2 <;> rfl
theorem takeCap_mx (cs:Tys) (c:Cap real) (s:S) (h:InF f c.rids) (hb:Blks s f c.rids):takeCap cs c (s.mx f)=(takeCap cs c s).map fun q=>(q.1,q.2.mx f):=by
 cases c with
 | ro cs' x=>simp only [takeCap];split <;> rfl
 | ptr id g =>
  have hid:f.F id=true:=h id (by simp [Cap.rids])
  simp only [takeCap,blkOf_mx hid]
  cases hls:blkOf s id g with
  | none=>rfl
  | some ls =>
   simp only []
   have hl:InL f ls:=hb id (by simp [Cap.rids]) ls (by
    unfold blkOf at hls
    cases hg:Nat.beq (s.ob id).g g <;> rw [hg] at hls
    ·cases hls
    ·simp only [cond_true] at hls
     split at hls
     ·rename_i cs' hcs;injection hls with hls;rw [hcs,hls]
     ·cases hls)
   rw [takes_mx _ _ _ hl]
   cases takes cs.ks ls s with
   | none=>rfl
   | some q =>
    simp only [Option.map_some]
    rw [mx_ob hid]
    cases (q.2.ob id).o <;> first | rfl | (simp only [Option.map_some];rw [mx_chg hid])
theorem Blks.wane {s s':S} {ids:List Nat} (h:Blks s f ids) (hw:Wane s s'):Blks s' f ids:=fun id hi ls hls=>h id hi ls (by rw [←hw.blk hls];exact hls)
theorem Blks.app {s:S} {x y:List Nat} (h:Blks s f (x++y)):Blks s f x∧Blks s f y:=⟨fun id hi=>h id (List.mem_append.2 (.inl hi)),fun id hi=>h id (List.mem_append.2 (.inr hi))⟩
theorem takeCaps_mx:∀ (caps:List Tys) (cc:List (Cap real)) (s:S),InF f (cc.flatMap Cap.rids)→Blks s f (cc.flatMap Cap.rids)→takeCaps caps cc (s.mx f)=(takeCaps caps cc s).map fun q=>(q.1,q.2.mx f)
 | [],[],_,_,_=>rfl
 | [],_::_,_,_,_=>rfl
 | _::_,[],_,_,_=>rfl
 | cs::css,c::cc,s,h,hb=>by
  rw [List.flatMap_cons] at h hb
  simp only [takeCaps]
  rw [takeCap_mx _ _ _ h.app.1 hb.app.1]
  cases h1:takeCap cs c s with
  | none=>rfl
  | some q =>
   simp only [Option.map_some]
   rw [takeCaps_mx css cc q.2 h.app.2 (hb.app.2.wane (takeCap_wane h1))]
   cases takeCaps css cc q.2 <;> rfl
theorem takeMu_mx (ks:List K) (id g:Nat) (s:S) (hid:f.F id=true) (hb:∀ ls,(s.ob id).o=.blk ls→InL f ls):takeTV (.blk ks) (.one (.ptr id g 0)) (s.mx f)=(takeTV (.blk ks) (.one (.ptr id g 0)) s).map fun q=>(q.1,q.2.mx f):=by
 simp only [takeTV]
 rw [blkOf_mx hid]
 cases hls:blkOf s id g with
 | none=>rfl
 | some ls =>
  have hl:InL f ls:=hb ls (blkOf_ok hls).2
  simp only []
  rw [mx_chg hid,takes_mx _ _ _ hl]
  cases takes ks ls (s.chg id true .gone) <;> rfl
theorem takeCp_mx (c:Cp) (v:Cap real) (s:S) (h:InF f v.rids) (hb:Blks s f v.rids):takeCp c v (s.mx f)=(takeCp c v s).map fun q=>(q.1,q.2.mx f):=by
 cases c with
 | ro cs=>exact takeCap_mx _ _ _ h hb
 | mu ks =>
  cases v with
  | ro _ _=>rfl
  | ptr id g=>exact takeMu_mx ks id g s (h id (by simp [Cap.rids])) (fun ls hls=>hb id (by simp [Cap.rids]) ls hls)
theorem takeCps_mx:∀ (caps:List Cp) (cc:List (Cap real)) (s:S),InF f (cc.flatMap Cap.rids)→Blks s f (cc.flatMap Cap.rids)→takeCps caps cc (s.mx f)=(takeCps caps cc s).map fun q=>(q.1,q.2.mx f)
 | [],[],_,_,_=>rfl
 | [],_::_,_,_,_=>rfl
 | _::_,[],_,_,_=>rfl
 | cs::css,c::cc,s,h,hb=>by
  rw [List.flatMap_cons] at h hb
  simp only [takeCps]
  rw [takeCp_mx _ _ _ h.app.1 hb.app.1]
  cases h1:takeCp cs c s with
  | none=>rfl
  | some q =>
   simp only [Option.map_some]
   rw [takeCps_mx css cc q.2 h.app.2 (hb.app.2.wane (takeCp_wane h1))]
   cases takeCps css cc q.2 <;> rfl
theorem takeTV_mx (sh:Sh) (v:TVr) (s:S) (h:InF f v.rids) (hb:Blks s f v.rids):takeTV sh v (s.mx f)=(takeTV sh v s).map fun q=>(q.1,q.2.mx f):=by
 unfold takeTV
 split
 ·exact takeCap_mx _ _ _ (by simpa [TV.rids,TV.lfs,Lf.rids,Cap.rids] using h) (by simpa [TV.rids,TV.lfs,Lf.rids,Cap.rids] using hb)
 ·exact takeCap_mx _ _ _ (by simp [Cap.rids,InF]) (by simp [Cap.rids,Blks])
 ·rename_i g caps g' cc
  cases Nat.beq g g' with
  | false=>rfl
  | true=>exact takeCaps_mx _ _ _ (by simpa [TV.rids,TV.lfs,Lf.rids] using h) (by simpa [TV.rids,TV.lfs,Lf.rids] using hb)
 ·rename_i g caps g' cc
  cases Nat.beq g g' with
  | false=>rfl
  | true=>exact takeCps_mx _ _ _ (by simpa [TV.rids,TV.lfs,Lf.rids] using h) (by simpa [TV.rids,TV.lfs,Lf.rids] using hb)
 ·exact takes_mx _ _ _ (fun l hl=>by rw [List.mem_singleton] at hl;subst hl;simpa [TV.rids,TV.lfs] using h)
 ·rename_i ks ls
  exact takes_mx _ _ _ (fun l hl id hi=>h id (List.mem_flatMap.2 ⟨l,hl,hi⟩))
 ·rename_i ks id g
  exact takeMu_mx ks id g s (h id (by simp [TV.rids,TV.lfs,Lf.rids])) (fun ls hls=>hb id (by simp [TV.rids,TV.lfs,Lf.rids]) ls hls)
 ·rfl
def InV (f:Fr) (vs:List TVr):Prop:=∀ v∈vs,InF f v.rids
def BlkV (s:S) (f:Fr) (vs:List TVr):Prop:=∀ v∈vs,Blks s f v.rids
theorem takeAll_mx:∀ (shs:List Sh) (vs:List TVr) (s:S),InV f vs→BlkV s f vs→takeAll shs vs (s.mx f)=(takeAll shs vs s).map fun q=>(q.1,q.2.mx f)
 | [],[],_,_,_=>rfl
 | [],_::_,_,_,_=>rfl
 | _::_,[],_,_,_=>rfl
 | sh::shs,v::vs,s,h,hb=>by
  simp only [takeAll]
  rw [takeTV_mx _ _ _ (h v (by simp)) (hb v (by simp))]
  cases h1:takeTV sh v s with
  | none=>rfl
  | some q =>
   simp only [Option.map_some]
   rw [takeAll_mx shs vs q.2 (fun v hv=>h v (by simp [hv])) (fun v hv=>(hb v (by simp [hv])).wane (takeTV_wane h1))]
   cases takeAll shs vs q.2 <;> rfl
theorem lay1_mx (id:Nat) (v:KV real) (s:S) (h:f.F id=true):lay1 id v (s.mx f)=((lay1 id v s).1,(lay1 id v s).2.mx f):=by
 obtain ⟨k,x⟩:=v
 cases k with
 | val t=>simp only [lay1];rw [mx_new h]
 | arr e cs d=>simp only [lay1];rw [mx_new h,mx_ob h]
 | mp kk=>simp only [lay1];rw [mx_new h,mx_ob h]
theorem lays_mx:∀ (vs:List (KV real)) (id:Nat) (s:S),(∀ i,id≤i→i < id+vs.length→f.F i=true)→lays id vs (s.mx f)=((lays id vs s).1,(lays id vs s).2.mx f)
 | [],_,_,_=>rfl
 | v::vs,id,s,h=>by
  simp only [lays]
  rw [lay1_mx _ _ _ (h id (Nat.le_refl _) (by simp))]
  simp only []
  rw [lays_mx vs (id+1) _ (fun i h1 h2=>h i (by omega) (by simp only [List.length_cons];omega))]
theorem layCps_mx:∀ (caps:List Cp) (vs:List (KV real)) (b:Nat) (s:S),(∀ i,b≤i→i < b+cpW caps→f.F i=true)→layCps b caps vs (s.mx f)=((layCps b caps vs s).1,(layCps b caps vs s).2.mx f)
 | [],_,_,_,_=>rfl
 | .ro cs::r,vs,b,s,h=>by
  have hw:cpW (.ro cs::r)=cpW r:=by simp [cpW,Cp.width]
  rw [hw] at h
  simp only [layCps]
  cases toVs (A:=real) cs (vs.take cs.len) with
  | none=>rfl
  | some x =>
   simp only []
   rw [layCps_mx r _ b s h]
 | .mu ks::r,vs,b,s,h=>by
  have hw:cpW (.mu ks::r)=(ks.length+1)+cpW r:=rfl
  rw [hw] at h
  have hb:=h b (Nat.le_refl _) (by omega)
  simp only [layCps]
  rw [lays_mx _ _ _ (fun i h1 h2=>h i (by omega) (by rw [List.length_take] at h2;omega))]
  simp only []
  rw [mx_new hb,mx_ob hb,layCps_mx r _ _ _ (fun i h1 h2=>h i (by omega) (by omega))]
theorem layTV_mx (b:Nat) (sh:Sh) (vs:List (KV real)) (s:S) (hl:vs.length≤sh.ks.length) (h:∀ i,b≤i→i < b+sh.width→f.F i=true):layTV b sh vs (s.mx f)=((layTV b sh vs s).1,(layTV b sh vs s).2.mx f):=by
 cases sh with
 | one k =>
  match vs with
  | []=>rfl
  | [v]=>simp only [layTV];rw [lay1_mx _ _ _ (h b (Nat.le_refl _) (by simp [Sh.width]))]
  | _::_::_=>rfl
 | agg ks =>
  have hl:vs.length≤ks.length:=hl
  have hw:(Sh.agg ks).width=ks.length:=rfl
  simp only [layTV];rw [lays_mx _ _ _ (fun i h1 h2=>h i h1 (by omega))]
 | blk ks =>
  have hl:vs.length≤ks.length:=hl
  have hw:(Sh.blk ks).width=ks.length+1:=rfl
  have hb:=h b (Nat.le_refl _) (by omega)
  simp only [layTV];rw [lays_mx _ _ _ (fun i h1 h2=>h i (by omega) (by omega))]
  simp only []
  rw [mx_new hb,mx_ob hb]
 | ro cs=>simp only [layTV];cases toVs (A:=real) cs vs <;> rfl
 | fn _ _=>rfl
 | fnm g caps =>
  have hw:(Sh.fnm g caps).width=cpW caps:=rfl
  rw [hw] at h
  simp only [layTV]
  rw [layCps_mx caps vs b s h]
theorem layAll_mx:∀ (shs:List Sh) (vs:List (KV real)) (b:Nat) (s:S),(∀ i,b≤i→i < b+widthS shs→f.F i=true)→layAll b shs vs (s.mx f)=((layAll b shs vs s).1,(layAll b shs vs s).2.mx f)
 | [],_,_,_,_=>rfl
 | sh::shs,vs,b,s,h=>by
  have hw:widthS (sh::shs)=sh.width+widthS shs:=rfl
  simp only [layAll]
  rw [layTV_mx _ _ _ _ (by rw [List.length_take];omega) (fun i h1 h2=>h i h1 (by omega))]
  simp only []
  rw [layAll_mx shs _ _ _ (fun i h1 h2=>h i (by omega) (by omega))]
theorem storeCellsV_mx (deep:Bool):∀ (ls:List L) (cs:Tys) (x:cs.T) (j:Nat) (s:S),InL f ls→storeCellsV (A:=real) deep cs x j ls (s.mx f)=(storeCellsV (A:=real) deep cs x j ls s).map fun q=>(q.1,q.2.mx f)
 | [],_,_,_,_,_=>by simp only [storeCellsV];rfl
 | l::ls,cs,x,j,s,h=>by
  simp only [storeCellsV]
  cases cellAt (A:=real) cs x j with
  | none=>rfl
  | some q =>
   obtain ⟨t,y⟩:=q
   simp only []
   rw [pack1_mx _ _ _ _ h.hd]
   cases pack1 (A:=real) deep t l s with
   | none=>rfl
   | some q =>
    simp only [Option.map_some]
    cases setCell (A:=real) cs x j ⟨t,q.1⟩ with
    | none=>rfl
    | some y=>exact storeCellsV_mx deep ls cs y (j+1) q.2 h.tl
theorem storeD_mx (id h e:Nat) (cs:Tys) (x:List cs.T) (p:Pth) (i:IV) (off:Nat) (v:List L) (s:S) (hid:f.F id=true) (hv:InL f v):storeD (A:=real) (s.mx f) id h e cs x p i off v=(storeD (A:=real) s id h e cs x p i off v).map fun q=>q.mx f:=by
 unfold storeD
 rw [mx_ob hid]
 cases (p.isEmpty || Nat.beq (s.ob id).h h) with
 | false=>rfl
 | true =>
  simp only [cond_true]
  cases follow (A:=real) 2 e cs x p with
  | none=>rfl
  | some c =>
   simp only []
   rw [takes_mx _ _ _ hv]
   cases takes ((c.cs.kd.drop off).take v.length) v s with
   | none=>rfl
   | some q =>
    simp only [Option.map_some]
    cases setRow (A:=real) c.cs (real.get c.x i) off q.1 with
    | none=>rfl
    | some el =>
     simp only []
     cases putAt (A:=real) c (real.put c.x i el) e cs x p with
     | none=>rfl
     | some x' =>
      simp only []
      rw [mx_ob hid]
      cases (q.2.ob id).o <;> first | rfl | (simp only [Option.map_some];rw [mx_chg hid])
theorem storeV_mx (p:L) (v:List L) (s:S) (hp:InF f p.rids) (hv:InL f v):storeV (s.mx f) p v=(storeV s p v).map fun q=>q.mx f:=by
 cases p with
 | ptr id g off =>
  simp only [storeV,blkOf_mx hp.ptr]
  cases blkOf s id g with
  | none=>rfl
  | some cs=>simp only [];split <;> first | rfl | (simp only [Option.map_some];rw [mx_chg hp.ptr])
 | eptr id g h p i off =>
  have hid:=hp.eptr
  have hob:=mx_ob (s:=s) hid
  simp only [storeV,hob]
  cases Nat.beq (s.ob id).g g with
  | false=>rfl
  | true =>
   simp only [cond_true]
   cases (s.ob id).o with
   | arr e cs dp x =>
    cases dp with
    | true=>exact storeD_mx id h e cs x p i off v s hid hv
    | false =>
     cases p with
     | cons _ _=>rfl
     | nil =>
      simp only [cond_false]
      have hst:storeCellsV (A:=real) false cs (real.get x i) off v (s.mx f)=(storeCellsV (A:=real) false cs (real.get x i) off v s).map fun q=>(q.1,q.2.mx f):=storeCellsV_mx false v cs (real.get x i) off s hv
      rw [hst]
      cases storeCellsV (A:=real) false cs (real.get x i) off v s with
      | none=>rfl
      | some q =>
       simp only [Option.map_some]
       rw [mx_ob hid]
       cases (q.2.ob id).o <;> first | rfl | (simp only [Option.map_some];rw [mx_chg hid])
   | _=>rfl
 | _=>rfl
def Alike (E:Env) (s:S) (sl:Sl) (o:Oper):Prop:=∀ x∈opds o.op,∀ t,ev E ⟨sl,s.ob⟩ t x=ev E s t x
end
end Go.R
namespace Go.R
section
variable {E:Env} {Ψ:FKey→Option FnR}
def mrg (dst:Option Nat) (f:Fr) (s':S):S:=s'.mx ⟨fun i=>match dst with | some d=>bif Nat.beq i d then s'.sl i else f.sl i | none=>f.sl i,f.F,f.t⟩
theorem mrg_set (dst:Option Nat) (f:Fr) (s:S) (v:TVr):mrg dst f (s.setO dst v)=(s.mx f).setO dst v:=by
 cases dst with
 | none=>rfl
 | some d =>
  unfold mrg St.mx St.setO St.set
  congr 1
  funext i
  cases h:Nat.beq i d <;> simp [h]
theorem mapFail_on {α:Type} {x:Option α} {f g:α→Option S} {m:S→S} (h:∀ y,f y=(g y).map m):mapFail (realC S) x f=(mapFail (realC S) x g).map m:=by
 cases x with
 | none=>rfl
 | some y=>exact h y
theorem mapFail_on' {α:Type} {x:Option α} {f g:α→Option S} {m:S→S} (h:∀ y,x=some y→f y=(g y).map m):mapFail (realC S) x f=(mapFail (realC S) x g).map m:=by
 cases x with
 | none=>rfl
 | some y=>exact h y rfl
theorem cond_on {b:Bool} {x y x' y':Option S} {m:S→S} (hx:x=x'.map m) (hy:y=y'.map m):(bif b then x else y)=(bif b then x' else y').map m:=by
 cases b
 ·exact hy
 ·exact hx
theorem cond_on' {b:Bool} {x y x' y':Option S} {m:S→S} (hx:b=true→x=x'.map m) (hy:y=y'.map m):(bif b then x else y)=(bif b then x' else y').map m:=by
 cases b
 ·exact hy
 ·exact hx rfl
theorem binV_on (tb:Bool) (op:BinOp) (x y:L) (f g:L→Option S) (m:S→S) (h:∀ l,f l=(g l).map m):binV (realC S) tb op x y f=(binV (realC S) tb op x y g).map m:=by
 have:=binV_cps (R:=S) tb op x y f g (fun s=>some (m s)) (fun l=>by rw [h l];cases g l <;> rfl)
 rw [this]
 cases binV (realC S) tb op x y g <;> rfl
variable {fr:Fr}
theorem InV.one {v:TVr} {vs:List TVr} (h:InV fr vs) (hv:v∈vs):InL fr v.lfs:=fun l hl id hi=>h v hv id (List.mem_flatMap.2 ⟨l,hl,hi⟩)
theorem deepOf_mx {v:TVr} {s:S} (h:InL fr v.lfs):deepOf (s.mx fr) v=deepOf s v:=by
 unfold deepOf
 split
 ·rename_i id g hh
  rw [mx_ob (h (.ref id g hh []) (by simp [TV.lfs])).ref]
 ·rfl
theorem deepOf_in {v:TVr} {s:S} {i:Nat} (h:InL fr v.lfs) (hd:deepOf s v=some i):fr.F i=true:=by
 obtain ⟨g,hh,rfl,_⟩:=deepOf_ok hd
 exact (h (.ref i g hh []) (by simp [TV.lfs])).ref
theorem builtinV_mx (d:Nat) (b:Builtin) (tys:List Nat) (args:List TVr) (s:S) (f g:TVr→S→Option S) (m:S→S) (ha:InV fr args) (hp:(match b with | .len | .min | .max=>False | _=>True)→fr.F (mkId d 0 0)=true) (h:∀ v s',f v (St.mx s' fr)=(g v s').map m) :
  builtinV E (realC S) d b tys args (s.mx fr) f=(builtinV E (realC S) d b tys args s g).map m:=by
 unfold builtinV
 split
 ·rename_i x t
  rw [cont?_mx (ha.one (v:=x) (by simp))]
  exact cond_on (mapFail_on fun _=>h _ s) (mapFail_on fun _=>mapFail_on fun _=>h _ s)
 ·exact mapFail_on fun _=>mapFail_on fun _=>h _ s
 ·exact mapFail_on fun _=>mapFail_on fun _=>h _ s
 ·rename_i x y t t'
  have hp:=hp trivial
  have hx:=ha.one (v:=x) (by simp)
  have hy:=ha.one (v:=y) (by simp)
  rw [cont?_mx hx,cont?_mx hy]
  refine mapFail_on fun q=>mapFail_on fun _=>mapFail_on fun cx=>mapFail_on fun cy=>cond_on rfl ?_
  cases x with
  | one l =>
   cases l with
   | nilS e cs =>
    simp only []
    refine cond_on ?_ ?_
    ·rw [deepOf_mx hy]
     cases hdy:deepOf s y with
     | none=>rfl
     | some idy =>
      have hiy:=deepOf_in hy hdy
      simp only []
      refine cond_on ?_ rfl
      split
      ·rename_i hb
       refine cond_on ?_ rfl
       have:=h (.one (.ref (mkId d 0 0) ((((s.chg idy true .gone).new (mkId d 0 0) (.arr cx.e cx.cs true (real.cat cx.x (real.cast hb cy.x)))).ob (mkId d 0 0)).g) 0 [])) ((s.chg idy true .gone).new (mkId d 0 0) (.arr cx.e cx.cs true (real.cat cx.x (real.cast hb cy.x))))
       rw [mx_chg hiy,mx_new hp,mx_ob hp]
       exact this
      ·rfl
    split
    ·rename_i hb
     refine cond_on ?_ rfl
     have:=h (.one (.ref (mkId d 0 0) (((s.new (mkId d 0 0) (.arr cx.e cx.cs false (real.cat cx.x (real.cast hb cy.x)))).ob (mkId d 0 0)).g) 0 [])) (s.new (mkId d 0 0) (.arr cx.e cx.cs false (real.cat cx.x (real.cast hb cy.x))))
     rw [mx_new hp,mx_ob hp]
     exact this
    ·rfl
   | ref id gg hh p =>
    have hid:fr.F id=true:=(hx (.ref id gg hh p) (by simp [TV.lfs])).ref
    cases p with
    | nil =>
     simp only []
     cases cx.md with
     | zero=>rfl
     | succ n =>
      simp only []
      refine cond_on ?_ ?_
      ·rw [mx_chg hid,deepOf_mx hy]
       cases hdy:deepOf (s.chg id true .gone) y with
       | none=>rfl
       | some idy =>
        have hiy:=deepOf_in hy hdy
        simp only []
        refine cond_on ?_ rfl
        split
        ·rename_i hb
         refine cond_on ?_ rfl
         have:=h (.one (.ref (mkId d 0 0) (((((s.chg id true .gone).chg idy true .gone).new (mkId d 0 0) (.arr cx.e cx.cs true (real.cat cx.x (real.cast hb cy.x)))).ob (mkId d 0 0)).g) 0 [])) (((s.chg id true .gone).chg idy true .gone).new (mkId d 0 0) (.arr cx.e cx.cs true (real.cat cx.x (real.cast hb cy.x))))
         rw [mx_chg hiy,mx_new hp,mx_ob hp]
         exact this
        ·rfl
      split
      ·rename_i hb
       refine cond_on ?_ rfl
       have:=h (.one (.ref (mkId d 0 0) ((((s.chg id true .gone).new (mkId d 0 0) (.arr cx.e cx.cs (Nat.beq (n+1) 2) (real.cat cx.x (real.cast hb cy.x)))).ob (mkId d 0 0)).g) 0 [])) ((s.chg id true .gone).new (mkId d 0 0) (.arr cx.e cx.cs (Nat.beq (n+1) 2) (real.cat cx.x (real.cast hb cy.x))))
       rw [mx_chg hid,mx_new hp,mx_ob hp]
       exact this
      ·rfl
    | cons _ _=>rfl
   | _=>rfl
  | _=>rfl
 ·rfl
theorem mapFail_map {α β:Type} {o:Option α} {q:α→β} {f:β→Option S} {g:α→Option S} {m:S→S} (h:∀ x,f (q x)=(g x).map m):mapFail (realC S) (o.map q) f=(mapFail (realC S) o g).map m:=by
 cases o with
 | none=>rfl
 | some x=>exact h x
theorem mapFail_map' {α β:Type} {o:Option α} {q:α→β} {f:β→Option S} {g:α→Option S} {m:S→S} (h:∀ x,o=some x→f (q x)=(g x).map m):mapFail (realC S) (o.map q) f=(mapFail (realC S) o g).map m:=by
 cases o with
 | none=>rfl
 | some x=>exact h x rfl
theorem look1_mx (t:Ty) (l:L) (s:S) (h:InF fr l.rids):look1 (A:=real) t l (s.mx fr)=look1 t l s:=by
 cases l with
 | ref id g hh p=>simp only [look1];rw [cont_mx h.ref]
 | _=>rfl
theorem look1K_mx (s0 s:S) (k:K) (l:L) (h:InF fr l.rids):look1K k l (s0.mx fr) (s.mx fr)=look1K k l s0 s:=by
 cases k with
 | val t=>simp only [look1K];rw [look1_mx _ _ _ h]
 | arr e cs d =>
  simp only [look1K]
  rw [arr1_mx _ _ _ _ _ h]
  cases arr1 (A:=real) e cs d l s0 <;> rfl
 | mp _=>rfl
theorem looks_mx (s0 s:S):∀ (ks:List K) (ls:List L),InL fr ls→looks ks ls (s0.mx fr) (s.mx fr)=looks ks ls s0 s
 | [],[],_=>rfl
 | [],_::_,_=>rfl
 | _::_,[],_=>rfl
 | k::ks,l::ls,h=>by
  simp only [looks]
  rw [looks_mx s0 s ks ls h.tl,look1K_mx _ _ _ _ h.hd]
theorem lookCap_mx (s:S) (cs:Tys) (c:Cap real) (h:InF fr c.rids) (hb:Blks s fr c.rids):lookCap cs c (s.mx fr)=lookCap cs c s:=by
 cases c with
 | ro _ _=>rfl
 | ptr id g =>
  have hid:fr.F id=true:=h id (by simp [Cap.rids])
  simp only [lookCap,blkOf_mx hid]
  cases hls:blkOf s id g with
  | none=>rfl
  | some ls=>exact looks_mx s s _ _ (hb id (by simp [Cap.rids]) ls (blkOf_ok hls).2)
theorem lookCaps_mx (s:S):∀ (css:List Tys) (cc:List (Cap real)),InF fr (cc.flatMap Cap.rids)→Blks s fr (cc.flatMap Cap.rids)→lookCaps css cc (s.mx fr)=lookCaps css cc s
 | [],[],_,_=>rfl
 | [],_::_,_,_=>rfl
 | _::_,[],_,_=>rfl
 | cs::css,c::cc,h,hb=>by
  rw [List.flatMap_cons] at h hb
  simp only [lookCaps];rw [lookCap_mx _ _ _ h.app.1 hb.app.1,lookCaps_mx s css cc h.app.2 hb.app.2]
theorem lookTV_mx (s0 s:S) (sh:Sh) (v:TVr) (h:InF fr v.rids) (hb:Blks s fr v.rids):lookTV sh v (s0.mx fr) (s.mx fr)=lookTV sh v s0 s:=by
 unfold lookTV
 split
 ·exact lookCap_mx _ _ _ (by simpa [TV.rids,TV.lfs,Lf.rids,Cap.rids] using h) (by simpa [TV.rids,TV.lfs,Lf.rids,Cap.rids] using hb)
 ·exact lookCap_mx _ _ _ (by simp [Cap.rids,InF]) (by simp [Cap.rids,Blks])
 ·rw [lookCaps_mx _ _ _ (by simpa [TV.rids,TV.lfs,Lf.rids] using h) (by simpa [TV.rids,TV.lfs,Lf.rids] using hb)]
 ·exact looks_mx _ _ _ _ (fun l hl=>by rw [List.mem_singleton] at hl;subst hl;simpa [TV.rids,TV.lfs] using h)
 ·rename_i ks ls
  exact looks_mx _ _ _ _ (fun l hl id hi=>h id (List.mem_flatMap.2 ⟨l,hl,hi⟩))
 ·rfl
theorem lookAll_mx (s0 s:S):∀ (shs:List Sh) (vs:List TVr),InV fr vs→BlkV s fr vs→lookAll shs vs (s0.mx fr) (s.mx fr)=lookAll shs vs s0 s
 | [],[],_,_=>rfl
 | [],_::_,_,_=>rfl
 | _::_,[],_,_=>rfl
 | sh::shs,v::vs,h,hb=>by simp only [lookAll];rw [lookTV_mx _ _ _ _ (h v (by simp)) (hb v (by simp)),lookAll_mx s0 s shs vs (fun v hv=>h v (by simp [hv])) (fun v hv=>hb v (by simp [hv]))]
theorem lend1_mx (k:K) (l:L) (s:S) (h:InF fr l.rids):lend1 k l (s.mx fr)=(lend1 k l s).map fun q=>q.mx fr:=by
 cases k with
 | val t=>rfl
 | arr e cs d =>
  simp only [lend1]
  cases Nat.ble 1 cs.len with
  | false=>rfl
  | true =>
   simp only [cond_true]
   rw [arr1_mx _ _ _ _ _ h]
   cases arr1 (A:=real) e cs d l s <;> rfl
 | mp _=>rfl
theorem lend1_wane {k:K} {l:L} {s s1:S} (h:lend1 k l s=some s1):Wane s s1:=by
 cases k with
 | val t=>injection h with h;subst h;exact .refl _
 | arr e cs d =>
  simp only [lend1] at h
  cases hf:Nat.ble 1 cs.len with
  | false=>rw [hf] at h;cases h
  | true =>
   rw [hf] at h
   simp only [cond_true] at h
   cases ha:arr1 (A:=real) e cs d l s with
   | none=>rw [ha] at h;cases h
   | some q=>rw [ha] at h;injection h with h;subst h;exact arr1_wane ha
 | mp _=>cases h
theorem lends_wane:∀ {ks:List K} {ls:List L} {s s1:S},lends ks ls s=some s1→Wane s s1
 | [],[],s,s1,h=>by injection h with h;subst h;exact .refl _
 | [],_::_,_,_,h=>by cases h
 | _::_,[],_,_,h=>by cases h
 | k::ks,l::ls,s,s1,h=>by
  simp only [lends] at h
  cases h1:lend1 k l s with
  | none=>rw [h1] at h;cases h
  | some s2=>rw [h1] at h;exact (lend1_wane h1).trans (lends_wane h)
theorem lends_mx:∀ (ks:List K) (ls:List L) (s:S),InL fr ls→lends ks ls (s.mx fr)=(lends ks ls s).map fun q=>q.mx fr
 | [],[],_,_=>rfl
 | [],_::_,_,_=>rfl
 | _::_,[],_,_=>rfl
 | k::ks,l::ls,s,h=>by
  simp only [lends]
  rw [lend1_mx _ _ _ h.hd]
  cases lend1 k l s with
  | none=>rfl
  | some s1=>exact lends_mx ks ls s1 h.tl
theorem backs_mx:∀ (ks:List K) (ls:List L) (vs:List (KV real)) (s:S),InL fr ls→backs ks ls vs (s.mx fr)=(backs ks ls vs s).map fun q=>q.mx fr:=by
 intro ks
 induction ks with
 | nil=>intro ls vs s _;cases ls <;> cases vs <;> rfl
 | cons k ks ih =>
  intro ls vs s h
  cases ls with
  | nil=>cases k <;> cases vs <;> rfl
  | cons l ls =>
   cases k with
   | val t=>simp only [backs];exact ih ls vs s h.tl
   | mp _=>cases l <;> cases vs <;> rfl
   | arr e cs d =>
    cases vs with
    | nil=>cases l with
     | ref id g h p=>cases p <;> rfl
     | _=>rfl
    | cons v vs =>
     cases l with
     | nilS _ _=>simp only [backs];exact ih ls vs s h.tl
     | ref id g hh p =>
      cases p with
      | cons _ _=>rfl
      | nil =>
       obtain ⟨kk,x⟩:=v
       cases kk with
       | val _=>rfl
       | mp _=>rfl
       | arr e' cs' d' =>
        simp only [backs]
        rw [mx_chg h.hd.ref]
        exact ih ls vs (s.chg id true (.arr e' cs' d' x)) h.tl
     | _=>rfl
theorem backB_mx:∀ (kss:List (List K)) (ls:List L) (vs:List (KV real)) (s:S),InL fr ls→(∀ l∈ls,∀ id g off,l=.ptr id g off→∀ i,cellId id≤i→i < cellId id+64→fr.F i=true)→backB kss ls vs (s.mx fr)=(backB kss ls vs s).map fun q=>q.mx fr:=by
 intro kss
 induction kss with
 | nil=>intro ls vs s _ _;cases ls <;> cases vs <;> rfl
 | cons ks kss ih =>
  intro ls vs s h hc
  cases ls with
  | nil=>rfl
  | cons l ls =>
   cases l with
   | ptr id g off =>
    cases off with
    | zero =>
     simp only [backB]
     cases hb:(Nat.ble (id+1) cellB && (Nat.ble ks.length 64 && Nat.ble ks.length vs.length)) with
     | false=>rfl
     | true =>
      simp only [cond_true]
      rw [Bool.and_eq_true,Bool.and_eq_true] at hb
      have h64:=Nat.le_of_ble_eq_true hb.2.1
      rw [lays_mx _ _ _ (fun i h1 h2=>hc (.ptr id g 0) (by simp) id g 0 rfl i h1 (by rw [List.length_take] at h2;omega))]
      simp only []
      rw [mx_chg h.hd.ptr]
      exact ih ls _ ((lays (cellId id) (vs.take ks.length) s).2.chg id true (.blk (lays (cellId id) (vs.take ks.length) s).1)) h.tl (fun l hl=>hc l (by simp [hl]))
    | succ _=>rfl
   | _=>rfl
theorem cells_in (sh:Sh) (v:TVr) (h:InF fr v.rids):InL fr (sh.cells v):=by
 intro l hl
 have dead:∀ ks:List K,l∈(ks.map fun _=>(Lf.dead:L))→InF fr l.rids:=by
  intro ks hl
  obtain ⟨_,_,rfl⟩:=List.mem_map.1 hl
  intro id hi
  cases hi
 cases sh with
 | one k =>
  cases v with
  | one l' =>
   simp only [Sh.cells,List.mem_singleton] at hl
   subst hl
   simpa [TV.rids,TV.lfs] using h
  | _ =>
   simp only [Sh.cells,List.mem_singleton] at hl
   subst hl
   intro id hi
   cases hi
 | agg ks =>
  cases v with
  | agg ls =>
   simp only [Sh.cells] at hl
   cases hb:Nat.beq ls.length ks.length with
   | true =>
    rw [hb] at hl
    exact fun id hi=>h id (List.mem_flatMap.2 ⟨l,hl,hi⟩)
   | false=>rw [hb] at hl;exact dead ks hl
  | _=>exact dead ks hl
 | _=>cases hl
theorem allCells_in:∀ (shs:List Sh) (vs:List TVr),InV fr vs→InL fr (allCells shs vs)
 | [],_,_=>fun l hl=>by simp [allCells] at hl
 | _::_,[],_=>fun l hl=>by simp [allCells] at hl
 | sh::shs,v::vs,h=>fun l hl=>by
  simp only [allCells,List.mem_append] at hl
  rcases hl with hl | hl
  ·exact cells_in sh v (h v (by simp)) l hl
  ·exact allCells_in shs vs (fun v hv=>h v (by simp [hv])) l hl
theorem cpL_mem:∀ (caps:List Cp) (cc:List (Cap real)) (l:L),l∈cpL caps cc→l=.dead∨∃ id g,l=.ptr id g 0∧Cap.ptr id g∈cc
 | [],_,l,h=>by simp [cpL] at h
 | .ro _::r,[],l,h=>cpL_mem r [] l (by simpa [cpL] using h)
 | .mu _::r,[],l,h=>by
  simp only [cpL,List.mem_cons] at h
  rcases h with rfl | h
  ·exact .inl rfl
  ·exact cpL_mem r [] l h
 | .ro _::r,_::cc,l,h=>(cpL_mem r cc l (by simpa [cpL] using h)).imp id fun ⟨id,g,h1,h2⟩=>⟨id,g,h1,List.mem_cons_of_mem _ h2⟩
 | .mu _::r,.ptr id g::cc,l,h=>by
  simp only [cpL,List.mem_cons] at h
  rcases h with rfl | h
  ·exact .inr ⟨id,g,rfl,by simp⟩
  ·exact (cpL_mem r cc l h).imp (fun q=>q) fun ⟨id,g,h1,h2⟩=>⟨id,g,h1,List.mem_cons_of_mem _ h2⟩
 | .mu _::r,.ro _ _::cc,l,h=>by
  simp only [cpL,List.mem_cons] at h
  rcases h with rfl | h
  ·exact .inl rfl
  ·exact (cpL_mem r cc l h).imp (fun q=>q) fun ⟨id,g,h1,h2⟩=>⟨id,g,h1,List.mem_cons_of_mem _ h2⟩
theorem bls_mem (sh:Sh) (v:TVr) (l:L) (h:l∈sh.bls v):l=.dead∨v=.one l∨∃ f cc id g,v=.one (.fn f cc)∧l=.ptr id g 0∧Cap.ptr id g∈cc:=by
 unfold Sh.bls at h
 split at h
 ·simp only [List.mem_singleton] at h
  subst h
  exact .inr (.inl rfl)
 ·simp only [List.mem_singleton] at h
  exact .inl h
 ·rename_i f cc
  rcases cpL_mem _ _ _ h with h | ⟨id,g,h1,h2⟩
  ·exact .inl h
  ·exact .inr (.inr ⟨f,cc,id,g,rfl,h1,h2⟩)
 ·rcases cpL_mem _ _ _ h with h | ⟨id,g,h1,h2⟩
  ·exact .inl h
  ·cases h2
 ·cases h
theorem allBl_in:∀ (shs:List Sh) (vs:List TVr),InV fr vs→InL fr (allBl shs vs)
 | [],_,_=>fun l hl=>by simp [allBl] at hl
 | _::_,[],_=>fun l hl=>by simp [allBl] at hl
 | sh::shs,v::vs,h=>fun l hl=>by
  simp only [allBl,List.mem_append] at hl
  rcases hl with hl | hl
  ·have hv:=h v (by simp)
   rcases bls_mem sh v l hl with rfl | rfl | ⟨f,cc,id,g,rfl,rfl,hc⟩
   ·intro id hi;cases hi
   ·simpa [TV.rids,TV.lfs] using hv
   ·intro i hi
    simp only [Lf.rids,List.mem_singleton] at hi
    subst hi
    refine hv i ?_
    simp only [TV.rids,TV.lfs,List.flatMap_cons,List.flatMap_nil,List.append_nil,Lf.rids]
    exact List.mem_flatMap.2 ⟨_,hc,by simp [Cap.rids]⟩
  ·exact allBl_in shs vs (fun v hv=>h v (by simp [hv])) l hl
theorem allBl_mem:∀ (shs:List Sh) (vs:List TVr) (id g off:Nat),(Lf.ptr id g off:L)∈allBl shs vs→TV.one (.ptr id g off)∈vs∨∃ f cc,TV.one (.fn f cc)∈vs∧Cap.ptr id g∈cc
 | [],_,_,_,_,h=>by simp [allBl] at h
 | _::_,[],_,_,_,h=>by simp [allBl] at h
 | sh::shs,v::vs,id,g,off,h=>by
  simp only [allBl,List.mem_append] at h
  rcases h with h | h
  ·rcases bls_mem sh v _ h with h | rfl | ⟨f,cc,id',g',rfl,h1,hc⟩
   ·cases h
   ·exact .inl (by simp)
   ·injection h1 with e1 e2 _
    subst e1;subst e2
    exact .inr ⟨f,cc,by simp,hc⟩
  ·exact (allBl_mem shs vs id g off h).imp (fun q=>List.mem_cons_of_mem _ q) fun ⟨f,cc,q1,q2⟩=>⟨f,cc,List.mem_cons_of_mem _ q1,q2⟩
theorem callL_mx (F:FnR) (d:Nat) (args:List TVr) (s:S) (f g:TVr→S→Option S) (m:S→S) (ha:InV fr args) (hb:BlkV s fr args) (hw:widthS F.rets≤2047) (hp:∀ i,mkId d 0 0≤i→i < mkId d 0 0+2048→fr.F i=true)
  (h:∀ v s',f v (St.mx s' fr)=(g v s').map m):callL (realC S) (F.callee S) d args (s.mx fr) f=(callL (realC S) (F.callee S) d args s g).map m:=by
 unfold callL
 have h1:lendAll (F.callee S).args args (s.mx fr)=(lendAll (F.callee S).args args s).map fun q=>q.mx fr:=lends_mx _ _ _ (allCells_in _ _ ha)
 rw [h1]
 cases hl:lendAll (F.callee S).args args s with
 | none=>rfl
 | some s1 =>
  simp only [Option.map_some,mapFail]
  have h2:lookAll (F.callee S).args args (s.mx fr) (s1.mx fr)=lookAll (F.callee S).args args s s1:=lookAll_mx _ _ _ _ ha (fun v hv=>(hb v hv).wane (lends_wane hl))
  rw [h2]
  refine mapFail_on (x:=lookAll (F.callee S).args args s s1) fun vs=>mapFail_on fun x=>?_
  show (F.fn x).bind _=((F.fn x).bind _).map m
  cases F.fn x with
  | none=>rfl
  | some y =>
   have h3:∀ vs,backAll (F.callee S).args args vs (s1.mx fr)=(backAll (F.callee S).args args vs s1).map fun q=>q.mx fr:=fun vs=>backs_mx _ _ _ _ (allCells_in _ _ ha)
   show mapFail (realC S) (backAll (F.callee S).args args _ (s1.mx fr)) _=(mapFail (realC S) (backAll (F.callee S).args args _ s1) _).map m
   rw [h3]
   refine mapFail_map fun s2=>?_
   rw [layAll_mx _ _ _ _ (fun i h1 h2=>hp i h1 (by have h2:i < mkId d 0 0+widthS F.rets:=h2;omega))]
   exact h _ _
theorem split1_mx {nb id g hh:Nat} {p:Pth} {s:S} (hn:fr.F nb=true) (hi:fr.F id=true):split1 (A:=real) nb id g hh p (s.mx fr)=(split1 (A:=real) nb id g hh p s).map fun q=>(q.1,q.2.1.mx fr,q.2.2):=by
 unfold split1
 rw [cont_mx hi,mx_ob hi]
 cases s.cont id g hh p with
 | none=>rfl
 | some c =>
  simp only []
  split
  ·cases Nat.beq id nb with
   | true=>rfl
   | false =>
    simp only [cond_false,Option.map_some]
    rw [mx_chg hi,mx_new hn,mx_ob hn]
  ·rfl
theorem split1_ok {nb id g hh:Nat} {p:Pth} {s:S} {r:TVr×S×Hole real} (h:split1 (A:=real) nb id g hh p s=some r) :
  ∃ c e cs x,s.cont id g hh p=some c∧(s.ob id).o=.arr e cs true x∧id≠nb∧r=(.one (.ref nb (((s.chg id true .gone).new nb (.arr c.e c.cs true c.x)).ob nb).g 0 []),(s.chg id true .gone).new nb (.arr c.e c.cs true c.x),⟨nb,(((s.chg id true .gone).new nb (.arr c.e c.cs true c.x)).ob nb).g,id,g,e,cs,x,c,p⟩):=by
 unfold split1 at h
 cases hc:s.cont id g hh p with
 | none=>rw [hc] at h;cases h
 | some c =>
  rw [hc] at h
  simp only at h
  split at h
  ·rename_i e cs x ho
   cases hb:Nat.beq id nb with
   | true=>rw [hb] at h;cases h
   | false =>
    rw [hb] at h
    injection h with h
    exact ⟨c,e,cs,x,rfl,ho,fun e'=>(by rw [e',Nat.beq_refl] at hb;cases hb),h.symm⟩
  ·cases h
theorem splitA_mx {nb:Nat} (hn:fr.F nb=true):∀ (shs:List Sh) (vs:List TVr) (s:S),InV fr vs→splitA nb shs vs (s.mx fr)=(splitA nb shs vs s).map fun q=>(q.1,q.2.1.mx fr,q.2.2):=by
 intro shs
 induction shs with
 | nil=>intro vs s _;cases vs <;> rfl
 | cons sh shs ih =>
  intro vs s h
  cases vs with
  | nil=>cases sh with
   | one k=>cases k <;> rfl
   | _=>rfl
  | cons v vs =>
   have hr:=ih vs s (fun v hv=>h v (by simp [hv]))
   have other:(splitA nb shs vs (s.mx fr)).map (fun r=>(v::r.1,r.2))=((splitA nb shs vs s).map fun r=>(v::r.1,r.2)).map fun q=>(q.1,q.2.1.mx fr,q.2.2):=by
    rw [hr]
    cases splitA nb shs vs s <;> rfl
   cases sh with
   | one k =>
    cases k with
    | val _=>cases v <;> exact other
    | mp _=>cases v <;> exact other
    | arr e cs d =>
     cases v with
     | one l =>
      cases l with
      | ref id g hh p =>
       cases p with
       | nil=>exact other
       | cons st p =>
        have hi:fr.F id=true:=by
         have:=h (.one (.ref id g hh (st::p))) (by simp)
         exact this id (by simp [TV.rids,TV.lfs,Lf.rids])
        simp only [splitA]
        rw [split1_mx hn hi]
        cases split1 (A:=real) nb id g hh (st::p) s <;> rfl
      | _=>exact other
     | _=>exact other
   | _=>cases v <;> exact other
theorem splitA_ok {nb:Nat}:∀ {shs:List Sh} {vs:List TVr} {s:S} {r:List TVr×S×Hole real},splitA nb shs vs s=some r →
  ∃ (i id g hh:Nat) (p:Pth) (r1:TVr×S×Hole real),vs[i]? = some (.one (.ref id g hh p))∧p≠[]∧split1 (A:=real) nb id g hh p s=some r1∧r=(vs.set i r1.1,r1.2):=by
 intro shs
 induction shs with
 | nil=>intro vs s r h;cases vs <;> cases h
 | cons sh shs ih =>
  intro vs s r h
  cases vs with
  | nil=>cases sh with
   | one k=>cases k <;> cases h
   | _=>cases h
  | cons v vs =>
   have other:(splitA nb shs vs s).map (fun r=>(v::r.1,r.2))=some r→∃ (i id g hh:Nat) (p:Pth) (r1:TVr×S×Hole real),(v::vs)[i]? = some (.one (.ref id g hh p))∧p≠[]∧split1 (A:=real) nb id g hh p s=some r1∧r=((v::vs).set i r1.1,r1.2):=by
    intro h
    cases hs:splitA nb shs vs s with
    | none=>rw [hs] at h;cases h
    | some q =>
     rw [hs] at h
     have h:=Option.some.inj h
     obtain ⟨i,id,g,hh,p,r1,q1,q2,q3,q4⟩:=ih hs
     refine ⟨i+1,id,g,hh,p,r1,by simpa using q1,q2,q3,?_⟩
     rw [←h,q4]
     rfl
   cases sh with
   | one k =>
    cases k with
    | val _=>cases v <;> exact other h
    | mp _=>cases v <;> exact other h
    | arr e cs d =>
     cases v with
     | one l =>
      cases l with
      | ref id g hh p =>
       cases p with
       | nil=>exact other h
       | cons st p =>
        simp only [splitA] at h
        cases hs:split1 (A:=real) nb id g hh (st::p) s with
        | none=>rw [hs] at h;cases h
        | some q =>
         rw [hs] at h
         have h:=Option.some.inj h
         exact ⟨0,id,g,hh,st::p,q,rfl,by simp,hs,h.symm⟩
      | _=>exact other h
     | _=>exact other h
   | _=>cases v <;> exact other h
theorem mergeA_mx {q:Hole real} {s:S} (hn:fr.F q.nb=true) (hi:fr.F q.id=true):mergeA (A:=real) q (s.mx fr)=(mergeA (A:=real) q s).map fun s=>s.mx fr:=by
 unfold mergeA
 rw [mx_ob hn,mx_ob hi]
 split
 ·rename_i e cs dp y ho
  cases ((Nat.beq (s.ob q.id).g q.g && Nat.beq (s.ob q.nb).g q.gn) && (Nat.ble 1 q.g && (dp || cs.plain))) with
  | false=>rfl
  | true =>
   simp only [cond_true]
   split
   ·rename_i hc
    cases putAt (A:=real) q.c (real.cast hc y) q.e q.cs q.x q.path with
    | none=>rfl
    | some x' =>
     simp only [Option.map_some]
     rw [mx_chg hn,mx_chg hi]
   ·rfl
 ·rfl
theorem callV_mx (F:FnR) (d:Nat) (args:List TVr) (s:S) (f g:TVr→S→Option S) (m:S→S) (ha:InV fr args) (hb:BlkV s fr args) (hp:∀ i,mkId d 0 0≤i→i < mkId d 0 0+2048→fr.F i=true)
  (hc:∀ id g off,TV.one (.ptr id g off)∈args∨(∃ f cc,TV.one (.fn f cc)∈args∧Cap.ptr id g∈cc)→∀ i,cellId id≤i→i < cellId id+64→fr.F i=true) (h:∀ v s',f v (St.mx s' fr)=(g v s').map m) :
  callV (realC S) (F.callee S) d args (s.mx fr) f=(callV (realC S) (F.callee S) d args s g).map m:=by
 unfold callV
 refine cond_on' (fun hok=>?_) rfl
 have hw:widthS F.rets≤2047:=by
  unfold callOkB at hok
  rw [Bool.and_eq_true] at hok
  exact Nat.le_of_ble_eq_true hok.1
 refine cond_on ?_ (cond_on ?_ rfl)
 ·have hnb:fr.F (mkId d 0 0+2047)=true:=hp _ (by omega) (by omega)
  rw [splitA_mx hnb _ _ _ ha]
  cases hsp:splitA (mkId d 0 0+2047) (F.callee S).args args s with
  | none=>exact callL_mx F d args s f g m ha hb hw hp h
  | some r =>
   obtain ⟨i,id,gg,hh,p,r1,q1,q2,q3,q4⟩:=splitA_ok hsp
   obtain ⟨c,e,cs,x,p1,p2,p3,p4⟩:=split1_ok q3
   subst p4;subst q4
   have hid:fr.F id=true:=ha _ (List.mem_of_getElem? q1) id (by simp [TV.rids,TV.lfs,Lf.rids])
   have hmem:∀ v∈args.set i (TV.one (.ref (mkId d 0 0+2047) (((s.chg id true .gone).new (mkId d 0 0+2047) (.arr c.e c.cs true c.x)).ob (mkId d 0 0+2047)).g 0 [])),v=TV.one (.ref (mkId d 0 0+2047) (((s.chg id true .gone).new (mkId d 0 0+2047) (.arr c.e c.cs true c.x)).ob (mkId d 0 0+2047)).g 0 [])∨v∈args:=fun v hv=>by
    rcases List.mem_or_eq_of_mem_set hv with hv | hv
    ·exact .inr hv
    ·exact .inl hv
   refine callL_mx F d _ _ _ _ m (fun v hv=>?_) (fun v hv=>?_) hw hp (fun v s'=>?_)
   ·rcases hmem v hv with rfl | hv
    ·intro j hj
     simp only [TV.rids,TV.lfs,Lf.rids,List.flatMap_cons,List.flatMap_nil,List.append_nil,List.mem_singleton] at hj
     subst hj
     exact hnb
    ·exact ha v hv
   ·intro j hj ls hls
    have hne:j≠mkId d 0 0+2047:=fun e=>by subst e;unfold St.new at hls;rw [St.upd_ob_self] at hls;cases hls
    unfold St.new at hls
    rw [St.upd_ob_ne _ _ hne] at hls
    have hne':j≠id:=fun e=>by subst e;rw [St.chg_self] at hls;cases hls
    rw [St.chg_ne _ _ _ hne'] at hls
    rcases hmem v hv with rfl | hv
    ·simp only [TV.rids,TV.lfs,Lf.rids,List.flatMap_cons,List.flatMap_nil,List.append_nil,List.mem_singleton] at hj
     exact absurd hj hne
    ·exact hb v hv j hj ls hls
   ·simp only []
    rw [mergeA_mx hnb hid]
    exact mapFail_map fun s3=>h v s3
 ·rw [takeAll_mx _ _ _ ha hb]
  cases takeAll (F.callee S).args args s with
  | none=>rfl
  | some q =>
   simp only [Option.map_some,mapFail]
   refine mapFail_on (x:=toKTs _ q.1) fun x=>?_
   show (F.fn x).bind _=((F.fn x).bind _).map m
   cases F.fn x with
   | none=>rfl
   | some y =>
    show mapFail (realC S) (backB (allB (F.callee S).args) (allBl (F.callee S).args args) _ (q.2.mx fr)) _=(mapFail (realC S) (backB (allB (F.callee S).args) (allBl (F.callee S).args args) _ q.2) _).map m
    rw [backB_mx _ _ _ _ (allBl_in _ _ ha) (fun l hl id g off e=>by subst e;exact hc id g off (allBl_mem _ _ _ _ _ hl))]
    refine mapFail_map fun s2=>?_
    rw [layAll_mx _ _ _ _ (fun i h1 h2=>hp i h1 (by have h2:i < mkId d 0 0+widthS F.rets:=h2;omega))]
    exact h _ _
theorem sliceFin_mx (d:Nat) (s:S) (x:TVr) (c:Cont real) (b:Bool) (l hi:IV) (f g:TVr→S→Option S) (m:S→S) (hx:InL fr x.lfs) (hp:fr.F (mkId d 0 0)=true) (h:∀ v s',f v (St.mx s' fr)=(g v s').map m):sliceFin E (realC S) d (s.mx fr) x c b l hi f=(sliceFin E (realC S) d s x c b l hi g).map m:=by
 unfold sliceFin
 cases x with
 | one q =>
  cases q with
  | ref id gg hh p =>
   have hid:fr.F id=true:=(hx (.ref id gg hh p) (by simp [TV.lfs])).ref
   cases p with
   | nil =>
    simp only []
    refine cond_on (h _ s) (cond_on (cond_on rfl ?_) ?_)
    ·have:=h (.one (.ref (mkId d 0 0) ((((s.chg id true .gone).new (mkId d 0 0) (.arr c.e c.cs (Nat.beq c.md 2) (real.sub c.x l hi))).ob (mkId d 0 0)).g) 0 [])) ((s.chg id true .gone).new (mkId d 0 0) (.arr c.e c.cs (Nat.beq c.md 2) (real.sub c.x l hi)))
     rw [mx_chg hid,mx_new hp,mx_ob hp]
     exact this
    ·rw [mx_chg hid];exact h _ _
   | cons _ _=>rfl
  | _=>exact h _ s
 | _=>exact h _ s
end
end Go.R
namespace Go.R
section
variable {E:Env} {Ψ:FKey→Option FnR} {fr:Fr}
theorem put_mx (o:Oper) (s:S) (v:TVr):(some ((s.mx fr).setO o.dst v):Option S)=(some (s.setO o.dst v)).map (mrg o.dst fr):=by
 rw [Option.map_some,mrg_set]
theorem sliceV_mx (d t:Nat) (s:S) (x:TVr) (lo hi mx:Option Operand) (f g:TVr→S→Option S) (m:S→S) (hx:InL fr x.lfs) (hp:fr.F (mkId d 0 0)=true) (h:∀ v s',f v (St.mx s' fr)=(g v s').map m) (hlo:∀ o,lo=some o→ev E (s.mx fr) 0 o=ev E s 0 o) (hhi:∀ o,hi=some o→ev E (s.mx fr) 0 o=ev E s 0 o) :
  sliceV E (realC S) d t (s.mx fr) x lo hi mx f=(sliceV E (realC S) d t s x lo hi mx g).map m:=by
 unfold sliceV
 refine mapFail_on fun q=>?_
 rw [cont?_mx hx]
 refine mapFail_on fun c=>cond_on (cond_on (h _ s) ?_) rfl
 cases mx with
 | some _=>rfl
 | none =>
  have e1:∀ o,lo=some o→int? (ev E (s.mx fr) 0 o)=int? (ev E s 0 o):=fun o ho=>by rw [hlo o ho]
  have e2:∀ o,hi=some o→int? (ev E (s.mx fr) 0 o)=int? (ev E s 0 o):=fun o ho=>by rw [hhi o ho]
  cases lo with
  | none =>
   cases hi with
   | none=>exact mapFail_on fun l=>mapFail_on fun hh=>cond_on (sliceFin_mx _ _ _ _ _ _ _ _ _ _ hx hp h) rfl
   | some b=>simp only [e2 b rfl];exact mapFail_on fun l=>mapFail_on fun hh=>cond_on (sliceFin_mx _ _ _ _ _ _ _ _ _ _ hx hp h) rfl
  | some a =>
   cases hi with
   | none=>simp only [e1 a rfl];exact mapFail_on fun l=>mapFail_on fun hh=>cond_on (sliceFin_mx _ _ _ _ _ _ _ _ _ _ hx hp h) rfl
   | some b=>simp only [e1 a rfl,e2 b rfl];exact mapFail_on fun l=>mapFail_on fun hh=>cond_on (sliceFin_mx _ _ _ _ _ _ _ _ _ _ hx hp h) rfl
theorem litRow_mx (s0:S) (e:Nat) (cs:Tys):∀ (os:List Operand) (x:real.V (.sl e cs)) (s:S),(∀ o∈os,(∀ t,ev E (s0.mx fr) t o=ev E s0 t o)∧∀ t,InL fr (ev E s0 t o).lfs)→litRow E (s0.mx fr) e cs os x (s.mx fr)=(litRow E s0 e cs os x s).map fun q=>(q.1,q.2.mx fr)
 | [],x,s,_=>by simp only [litRow];rfl
 | o::os,x,s,h=>by
  simp only [litRow]
  rw [(h o (by simp)).1 0,cells?_mx ((h o (by simp)).2 0)]
  cases hc:cells? s0 (ev E s0 0 o) with
  | none=>rfl
  | some ls =>
   simp only []
   have hl:InL fr ls:=by rw [cells?_lfs hc];exact (h o (by simp)).2 0
   rw [packs_mx _ _ _ _ hl]
   cases packs (A:=real) false cs ls s with
   | none=>rfl
   | some q =>
    simp only [Option.map_some]
    exact litRow_mx s0 e cs os _ q.2 fun o' ho'=>h o' (by simp [ho'])
theorem litRows_mx (s0:S) (n:Nat):∀ (os:List Operand),(∀ o∈os,(∀ t,ev E (s0.mx fr) t o=ev E s0 t o)∧∀ t,InL fr (ev E s0 t o).lfs)→litRows E (s0.mx fr) n os=litRows E s0 n os
 | [],_=>rfl
 | o::os,h=>by
  simp only [litRows]
  rw [(h o (by simp)).1 0,cells?_mx ((h o (by simp)).2 0),litRows_mx s0 n os fun o' ho'=>h o' (by simp [ho'])]
theorem litRows_in (s0:S) (n:Nat):∀ (os:List Operand) (lss:List (List L)),(∀ o∈os,∀ t,InL fr (ev E s0 t o).lfs)→litRows E s0 n os=some lss→InL fr lss.flatten
 | [],lss,_,h=>by
  have h:=Option.some.inj h
  subst h
  exact fun l hl=>by simp at hl
 | o::os,lss,h,hl=>by
  simp only [litRows] at hl
  cases hc:cells? s0 (ev E s0 0 o) with
  | none=>rw [hc] at hl;cases hl
  | some ls =>
   cases hr:litRows E s0 n os with
   | none=>rw [hc,hr] at hl;cases hl
   | some r =>
    rw [hc,hr] at hl
    simp only at hl
    cases hb:Nat.beq ls.length n with
    | false=>rw [hb] at hl;cases hl
    | true =>
     rw [hb] at hl
     have hl:=Option.some.inj hl
     subst hl
     intro l hm
     rcases List.mem_append.1 hm with hm | hm
     ·rw [cells?_lfs hc] at hm
      exact h o (by simp) 0 l hm
     ·exact litRows_in s0 n os r (fun o' ho'=>h o' (by simp [ho'])) hr l hm
theorem fillCells_mx (flds : List (Nat × Nat × Bool)) {s : S} : ∀ (ps : List (Nat × Operand)) (cs : List L), (∀ x ∈ ps.map (·.2), (∀ t, ev E (s.mx fr) t x = ev E s t x) ∧ ∀ t, InL fr (ev E s t x).lfs) → fillCells flds E (s.mx fr) ps cs = fillCells flds E s ps cs
  | [], _, _ => rfl
  | (i, x) :: r, cs, h => by
    have hx := h x (by simp)
    simp only [fillCells]
    cases flds[i]? with
    | none => rfl
    | some q =>
      simp only []
      rw [hx.1 0, cells?_mx (hx.2 0)]
      cases cells? s (ev E s 0 x) with
      | none => rfl
      | some v =>
        simp only []
        rw [fillCells_mx flds r _ (fun y hy => h y (by simp only [List.map_cons, List.mem_cons]; exact .inr hy))]
theorem capOf_list {s1 s2:S} (cs:List Operand) (h:∀ x∈cs,∀ t,ev E s2 t x=ev E s1 t x):(cs.mapM fun c=>capOf (ev E s2 0 c))=cs.mapM fun c=>capOf (ev E s1 0 c):=by
 induction cs with
 | nil=>rfl
 | cons c cs ih =>
  simp only [List.mapM_cons]
  rw [h c (by simp) 0,ih (fun x hx=>h x (by simp [hx]))]
theorem ev_rids {s:S} (t:Nat) (x:Operand):(ev E s t x).rids=opdRids s x:=by
 cases x with
 | tmp j=>rfl
 | const v =>
  show (constTV (A:=real) E t v).rids=[]
  unfold constTV
  split <;> first | rfl | (split <;> rfl)
 | func f=>rfl
 | «global» g=>rfl
theorem lfs_in {v:TVr} (h:InF fr v.rids):InL fr v.lfs:=fun l hl id hi=>h id (List.mem_flatMap.2 ⟨l,hl,hi⟩)
structure Around (E:Env) (s:S) (fr:Fr) (o:Oper):Prop where
 ev:∀ x∈opds o.op,∀ t,ev E (s.mx fr) t x=Go.R.ev E s t x
 ids:isCopy o.op=false→∀ x∈opds o.op,InF fr (opdRids s x)∧Blks s fr (opdRids s x)
 priv:makes o.op=true→∀ i,mkId (o.dst.getD 0) 0 0≤i→i < mkId (o.dst.getD 0) 0 0+2048→fr.F i=true
 cells:wild s o=true→∀ i,cellB≤i→fr.F i=true
theorem step_mx {o : Oper} {s : S} (h : Around E s fr o) : step1 E Ψ o (s.mx fr) = (step1 E Ψ o s).map (mrg o.dst fr) := by
  have he := h.ev
  have hi : isCopy o.op = false → ∀ x ∈ opds o.op, ∀ t, InL fr (ev E s t x).lfs := fun hc x hx t => lfs_in (by rw [ev_rids]; exact (h.ids hc x hx).1)
  have hpr := h.priv
  have pt := fun (s : S) (v : TVr) => put_mx (fr := fr) o s v
  have nw : makes o.op = true → fr.F (mkId (o.dst.getD 0) 0 0) = true := fun hm => hpr hm _ (Nat.le_refl _) (by omega)
  unfold step1 stepC
  cases ho : o.op with
  | move x => rw [ho] at he; simp only []; rw [he x (by simp [opds])]; exact pt s _
  | assign x => rw [ho] at he; simp only []; rw [he x (by simp [opds])]; exact pt s _
  | pick c a b =>
    rw [ho] at he
    simp only []
    rw [he c (by simp [opds]), he a (by simp [opds]), he b (by simp [opds])]
    exact mapFail_on fun c => cond_on (pt s _) (pt s _)
  | build t ps =>
    rw [ho] at he hi
    refine mapFail_on fun i => cond_on ?_ rfl
    rw [fillCells_mx _ _ _ fun x hx => ⟨he x hx, hi rfl x hx⟩]
    exact mapFail_on fun cs => pt s _
  | load t p =>
    rw [ho] at he hi
    simp only []
    rw [he p (by simp [opds])]
    refine mapFail_on fun i => ?_
    have hp := hi rfl p (by simp [opds]) 0
    cases hq : Go.R.ev E s 0 p with
    | one l => rw [hq] at hp; simp only []; rw [loadV_mx (hp l (by simp [TV.lfs]))]; exact mapFail_on fun v => pt s _
    | _ => rfl
  | nilCheck x =>
    rw [ho] at he hi
    simp only []
    rw [he x (by simp [opds])]
    have hp := hi rfl x (by simp [opds]) 0
    cases hq : Go.R.ev E s 0 x with
    | one l =>
      rw [hq] at hp
      have hp := hp l (by simp [TV.lfs])
      cases l with
      | ptr id g off => simp only []; rw [blkOf_mx hp.ptr]; exact mapFail_on fun _ => pt s _
      | eptr id g hh p j off => simp only []; rw [cont_mx hp.eptr]; exact mapFail_on fun c => cond_on rfl (pt s _)
      | iptr cs y off => exact pt s _
      | _ => rfl
    | _ => rfl
  | binOp op t x y yt =>
    rw [ho] at he hi
    simp only []
    have hnt : nilTest E (s.mx fr) op t x y = nilTest E s op t x y := by
      unfold nilTest
      rw [he x (by simp [opds]), cont?_mx (hi rfl x (by simp [opds]) t)]
    rw [hnt]
    cases nilTest E s op t x y with
    | some l => exact pt s _
    | none =>
    simp only []
    rw [he x (by simp [opds]), he y (by simp [opds])]
    cases Go.R.ev E s t x with
    | one x =>
      cases Go.R.ev E s t y with
      | one y => exact binV_on _ _ _ _ _ _ _ fun l => pt s _
      | _ => rfl
    | agg xs =>
      cases Go.R.ev E s t y with
      | agg ys => refine mapFail_on fun i => mapFail_on fun b => ?_; cases op <;> first | rfl | exact pt s _
      | _ => rfl
    | tup _ => rfl
  | unOp op t x =>
    rw [ho] at he
    simp only []
    rw [he x (by simp [opds])]
    cases op <;> first | rfl | skip
    all_goals (cases Go.R.ev E s t x with
      | one l => cases l with
        | val tt y => cases tt <;> first | rfl | exact pt s _
        | _ => rfl
      | _ => rfl)
  | convert src dst x =>
    rw [ho] at he
    simp only []
    rw [he x (by simp [opds])]
    refine mapFail_on fun _ => mapFail_on fun i => cond_on rfl ?_
    split <;> first | rfl | exact pt s _
  | makeFunc fn first captured =>
    rw [ho] at he
    cases fn with
    | func f =>
      refine cond_on ?_ rfl
      rw [capOf_list _ fun x hx t => he x (by simpa [opds] using hx) t]
      exact mapFail_on fun cc => pt s _
    | _ => rfl
  | fieldAddr t x f =>
    rw [ho] at he hi
    simp only []
    rw [he x (by simp [opds])]
    have hp := hi rfl x (by simp [opds]) 0
    refine mapFail_on fun i => mapFail_on fun q => cond_on rfl ?_
    cases hq : Go.R.ev E s 0 x with
    | one l =>
      rw [hq] at hp
      have hp := hp l (by simp [TV.lfs])
      cases l with
      | ptr id g off => simp only []; rw [blkOf_mx hp.ptr]; exact mapFail_on fun _ => pt s _
      | eptr id g hh p j off => simp only []; rw [cont_mx hp.eptr]; exact mapFail_on fun c => cond_on rfl (pt s _)
      | iptr cs y off => exact pt s _
      | _ => rfl
    | _ => rfl
  | field t x f =>
    rw [ho] at he
    simp only []
    rw [he x (by simp [opds])]
    refine mapFail_on fun i => mapFail_on fun q => cond_on rfl ?_
    cases Go.R.ev E s t x with
    | agg ls => exact cond_on (pt s _) rfl
    | _ => rfl
  | indexAddr t x i =>
    rw [ho] at he hi
    simp only []
    rw [he x (by simp [opds]), he i (by simp [opds])]
    have hp := hi rfl x (by simp [opds]) t
    refine mapFail_on fun i => mapFail_on fun q => ?_
    cases hq : Go.R.ev E s t x with
    | one l =>
      rw [hq] at hp
      have hp := hp l (by simp [TV.lfs])
      cases l with
      | val tt y =>
        cases tt with
        | sl e cs => exact cond_on (cond_on (pt s _) rfl) rfl
        | _ => rfl
      | ref id g hh p => simp only []; rw [cont_mx hp.ref]; exact mapFail_on fun c => cond_on (cond_on (cond_on (pt s _) (pt s _)) rfl) rfl
      | _ => rfl
    | _ => rfl
  | index t x i =>
    rw [ho] at he
    simp only []
    rw [he x (by simp [opds]), he i (by simp [opds])]
    exact cond_on (mapFail_on fun i => mapFail_on fun x => cond_on (pt s _) rfl) rfl
  | extract t i =>
    rw [ho] at he
    simp only []
    rw [he t (by simp [opds])]
    cases Go.R.ev E s 0 t with
    | tup cs => exact mapFail_on fun c => pt s _
    | _ => rfl
  | alloc t =>
    rw [ho] at nw
    have nw := nw rfl
    refine mapFail_on fun i => ?_
    simp only []
    rw [mx_new nw, mx_ob nw]
    exact pt (s.new (mkId (o.dst.getD 0) 0 0) (.blk (zeroLfs real i.cs))) _
  | box t x =>
    rw [ho] at he nw hi
    have nw := nw rfl
    simp only []
    rw [he x (by simp [opds])]
    refine mapFail_on fun i => ?_
    rw [cells?_mx (hi rfl x (by simp [opds]) t)]
    refine mapFail_on' fun v hv => cond_on (cond_on ?_ ?_) rfl
    · rw [packs_mx _ _ _ _ (by rw [cells?_lfs hv]; exact hi rfl x (by simp [opds]) t)]
      cases packs (A := real) false i.cs v s with
      | none => rfl
      | some r => exact pt r.2 _
    · rw [mx_new nw, mx_ob nw]
      exact pt (s.new (mkId (o.dst.getD 0) 0 0) (.blk v)) _
  | buildSlice t n ps =>
    rw [ho] at he nw hi
    have nw := nw rfl
    simp only []
    refine mapFail_on fun r => cond_on (cond_on ?_ ?_) rfl
    · rw [litRows_mx _ _ _ (fun o' ho' => ⟨he o' (by simpa [opds] using ho'), hi rfl o' (by simpa [opds] using ho')⟩)]
      refine mapFail_on' fun lss hl => ?_
      rw [takes_mx _ _ _ (litRows_in _ _ _ _ (fun o' ho' => hi rfl o' (by simpa [opds] using ho')) hl)]
      refine mapFail_map fun q => mapFail_on fun x => ?_
      simp only []
      rw [mx_new nw, mx_ob nw]
      exact pt (q.2.new (mkId (o.dst.getD 0) 0 0) (.arr r.1 r.2 true x)) _
    rw [litRow_mx _ _ _ _ _ _ (fun o' ho' => ⟨he o' (by simpa [opds] using ho'), hi rfl o' (by simpa [opds] using ho')⟩)]
    cases litRow (A := real) E s r.1 r.2 (ps.toList.map (·.2)) (real.nilV r.1 r.2) s with
    | none => rfl
    | some q =>
      simp only [Option.map_some, mapFail]
      rw [mx_new nw, mx_ob nw]
      exact pt (q.2.new (mkId (o.dst.getD 0) 0 0) (.arr r.1 r.2 false q.1)) _
  | store t p v =>
    rw [ho] at he hi
    simp only []
    rw [he p (by simp [opds]), he v (by simp [opds])]
    refine mapFail_on fun i => ?_
    have hv := hi rfl v (by simp [opds]) t
    rw [cells?_mx hv]
    refine mapFail_on' fun v' hv' => cond_on ?_ rfl
    have hp := hi rfl p (by simp [opds]) 0
    cases hq : ev E s 0 p with
    | one l =>
      rw [hq] at hp
      simp only []
      rw [storeV_mx _ _ _ (hp l (by simp [TV.lfs])) (by rw [cells?_lfs hv']; exact hv)]
      cases storeV s l v' with
      | none => rfl
      | some s1 => exact pt s1 _
    | _ => rfl
  | makeSlice t n c =>
    rw [ho] at he nw
    have nw := nw rfl
    simp only []
    rw [he n (by simp [opds])]
    refine mapFail_on fun r => mapFail_on fun n' => cond_on (cond_on ?_ rfl) rfl
    rw [mx_new nw, mx_ob nw]
    exact pt (s.new (mkId (o.dst.getD 0) 0 0) (.arr r.1 r.2 (E.deep (o.dst.getD 0)) (real.rep r.1 n' (zeroVs real r.2)))) _
  | makeMap t rv =>
    rw [ho] at nw
    have nw := nw rfl
    refine mapFail_on fun kk => cond_on ?_ rfl
    simp only []
    rw [mx_new nw, mx_ob nw]
    exact pt (s.new (mkId (o.dst.getD 0) 0 0) (.mp kk (real.nilV 0 (Tys.mp kk)))) _
  | lookup t m x ok =>
    rw [ho] at he hi
    simp only []
    rw [he m (by simp [opds]), he x (by simp [opds])]
    have hp := hi rfl m (by simp [opds]) t
    refine mapFail_on fun kk => cond_on rfl ?_
    cases hm : ev E s t m with
    | one l =>
      rw [hm] at hp
      cases l with
      | mref id g =>
        have hp := hp (.mref id g) (by simp [TV.lfs])
        cases hx : ev E s 0 x with
        | one l2 =>
          cases l2 with
          | val u y =>
            simp only []
            rw [mpOf_mx hp.mref]
            refine mapFail_on fun q => cond_on ?_ rfl
            split
            · exact pt s _
            · rfl
          | _ => rfl
        | _ => rfl
      | _ => rfl
    | _ => rfl
  | mapUpdate t m x v =>
    rw [ho] at he hi
    simp only []
    rw [he m (by simp [opds]), he x (by simp [opds]), he v (by simp [opds])]
    have hp := hi rfl m (by simp [opds]) t
    refine mapFail_on fun kk => ?_
    cases hm : ev E s t m with
    | one l =>
      rw [hm] at hp
      cases l with
      | mref id g =>
        have hp := hp (.mref id g) (by simp [TV.lfs])
        cases hx : ev E s 0 x with
        | one l2 =>
          cases l2 with
          | val u y =>
            cases hv : bool? (ev E s 4 v) with
            | none => rfl
            | some bv =>
              simp only []
              rw [mpOf_mx hp.mref]
              refine mapFail_on fun q => cond_on ?_ rfl
              split
              · rename_i hb
                rw [mx_chg hp.mref]
                exact pt (s.chg id true (.mp q.1 (real.mput q.1 q.2 (real.cast hb y) bv))) _
              · rfl
          | _ => rfl
        | _ => rfl
      | _ => rfl
    | _ => rfl
  | slice t x lo hi' mx =>
    rw [ho] at he nw hi
    simp only []
    rw [he x (by simp [opds])]
    exact sliceV_mx _ _ _ _ _ _ _ _ _ _ (hi rfl x (by simp [opds]) t) (nw rfl) (fun v s' => pt s' v) (fun o ho => he o (by simp [opds, ho]) 0) (fun o ho => he o (by simp [opds, ho]) 0)
  | call c =>
    have hids := h.ids
    have hcl := h.cells
    have hwl : ∀ args tys cal, c = ⟨cal, args, tys⟩ → ∀ l : L, ((∃ id g off, l = .ptr id g off) ∨ ∃ f cc, l = .fn f cc ∧ ∃ id g, Cap.ptr id g ∈ cc) → TV.one l ∈ (args.toList.zip tys.toList).map (fun p => ev E s p.2 p.1) → wild s o = true := by
      intro args tys cal e l hl hm
      obtain ⟨p, hp1, hp2⟩ := List.mem_map.1 hm
      unfold wild
      rw [ho, e]
      refine (Bool.or_eq_true _ _).mpr (.inl (List.any_eq_true.2 ⟨p.1, (List.of_mem_zip hp1).1, ?_⟩))
      have hany : ∀ cc : List (Cap real), (∃ id g, Cap.ptr id g ∈ cc) → cc.any Cap.isPtr = true := fun cc ⟨id, g, hc⟩ => List.any_eq_true.2 ⟨_, hc, rfl⟩
      cases hx : p.1 with
      | tmp j =>
        rw [hx] at hp2
        have : s.sl j = TV.one l := hp2
        simp only [this]
        rcases hl with ⟨id, g, off, rfl⟩ | ⟨f, cc, rfl, hc⟩
        · rfl
        · exact hany cc hc
      | const v =>
        rw [hx] at hp2
        have h3 : constTV (A := real) E p.2 v = TV.one l := hp2
        exfalso
        unfold constTV at h3
        rcases hl with ⟨id, g, off, rfl⟩ | ⟨f, cc, rfl, hc⟩ <;> (split at h3 <;> first | (cases h3; done) | (split at h3 <;> cases h3))
      | func q =>
        rw [hx] at hp2
        have h3 : (TV.one (.fn q []) : TVr) = TV.one l := hp2
        exfalso
        injection h3 with h3
        rcases hl with ⟨id, g, off, rfl⟩ | ⟨f, cc, rfl, id, g, hc⟩
        · cases h3
        · injection h3 with _ h3
          subst h3
          cases hc
      | «global» _ =>
        rw [hx] at hp2
        exfalso
        rcases hl with ⟨id, g, off, rfl⟩ | ⟨f, cc, rfl, hc⟩ <;> cases hp2
    rw [ho] at he hi hpr nw hids
    obtain ⟨cal, args, tys⟩ := c
    simp only []
    refine cond_on ?_ rfl
    have hargs : ∀ (l : List (Operand × Nat)), (∀ p ∈ l, p.1 ∈ args.toList) → (l.map fun p => ev E (s.mx fr) p.2 p.1) = l.map fun p => ev E s p.2 p.1 := by
      intro l hl
      exact List.map_congr_left fun p hp => he p.1 (by simp only [opds]; exact List.mem_append.2 (.inr (hl p hp))) p.2
    have hz : ∀ p ∈ args.toList.zip tys.toList, p.1 ∈ args.toList := fun p hp => (List.of_mem_zip hp).1
    rw [hargs _ hz]
    have hin : InV fr ((args.toList.zip tys.toList).map fun p => ev E s p.2 p.1) := by
      intro v hv
      obtain ⟨p, hp1, rfl⟩ := List.mem_map.1 hv
      rw [ev_rids]
      exact (hids rfl p.1 (by simp only [opds]; exact List.mem_append.2 (.inr (hz p hp1)))).1
    cases cal with
    | builtin b =>
      refine builtinV_mx _ _ _ _ _ _ _ _ hin (fun hm => nw ?_) (fun v s' => pt s' v)
      cases b <;> first | rfl | cases hm
    | value f =>
      simp only []
      rw [he f (by simp [opds]) 0]
      cases hf : ev E s 0 f with
      | one l =>
        cases l with
        | fn fid cc =>
          simp only []
          unfold tab
          cases Ψ (fid, fnIds ((args.toList.zip tys.toList).map fun p => ev E s p.2 p.1)) with
          | none => rfl
          | some F =>
            simp only [Option.map_some, mapFail]
            have hfr : ∀ c ∈ cc, InF fr c.rids ∧ Blks s fr c.rids := by
              intro c hc
              have h1 := hids rfl f (by simp [opds])
              rw [← ev_rids (E := E) 0, hf] at h1
              have hsub : ∀ id ∈ c.rids, id ∈ (TV.one (Lf.fn fid cc) : TVr).rids := fun id hi => by
                simp only [TV.rids, TV.lfs, List.flatMap_cons, List.flatMap_nil, List.append_nil, Lf.rids]
                exact List.mem_flatMap.2 ⟨c, hc, hi⟩
              exact ⟨fun id hi => h1.1 id (hsub id hi), fun id hi => h1.2 id (hsub id hi)⟩
            have hcap : ∀ c : Cap real, c.tv.rids = c.rids := fun c => by cases c <;> rfl
            refine callV_mx F _ _ _ _ _ _ (fun v hv => ?_) (fun v hv => ?_) (hpr rfl) (fun id g off hm => ?_) (fun v s' => pt s' v)
            · rcases List.mem_append.1 hv with hv | hv
              · exact hin v hv
              · obtain ⟨c, hc, rfl⟩ := List.mem_map.1 hv
                rw [hcap]
                exact (hfr c hc).1
            · rcases List.mem_append.1 hv with hv | hv
              · obtain ⟨p, hp1, rfl⟩ := List.mem_map.1 hv
                rw [ev_rids]
                exact (hids rfl p.1 (by simp only [opds]; exact List.mem_append.2 (.inr (hz p hp1)))).2
              · obtain ⟨c, hc, rfl⟩ := List.mem_map.1 hv
                rw [hcap]
                exact (hfr c hc).2
            · refine fun i h1 _ => hcl ?_ i (Nat.le_trans (show cellB ≤ cellId id by unfold cellId; omega) h1)
              rcases hm with hm | ⟨f', cc', hm, hcm⟩
              · rcases List.mem_append.1 hm with hm | hm
                · exact hwl args tys _ rfl _ (.inl ⟨id, g, off, rfl⟩) hm
                · obtain ⟨c, hc, hc2⟩ := List.mem_map.1 hm
                  unfold wild
                  rw [ho]
                  refine (Bool.or_eq_true _ _).mpr (.inr ?_)
                  cases f with
                  | tmp j =>
                    have : s.sl j = TV.one (Lf.fn fid cc) := hf
                    simp only [this]
                    refine List.any_eq_true.2 ⟨c, hc, ?_⟩
                    cases c with
                    | ptr _ _ => rfl
                    | ro _ _ => cases hc2
                  | const v =>
                    have h3 : constTV (A := real) E 0 v = TV.one (Lf.fn fid cc) := hf
                    unfold constTV at h3
                    split at h3 <;> first | (cases h3; done) | (split at h3 <;> cases h3)
                  | func q =>
                    have h3 : TV.one (Lf.fn q []) = (TV.one (Lf.fn fid cc) : TVr) := hf
                    injection h3 with h3
                    injection h3 with _ h3
                    subst h3
                    cases hc
                  | «global» _ => cases hf
              · rcases List.mem_append.1 hm with hm | hm
                · exact hwl args tys _ rfl _ (.inr ⟨f', cc', rfl, id, g, hcm⟩) hm
                · obtain ⟨c, _, hc2⟩ := List.mem_map.1 hm
                  cases c <;> cases hc2
        | _ => rfl
      | _ => rfl
    | invoke _ _ => rfl
  | _ => rfl
end
end Go.R
namespace Go.R
section
variable {E:Env} {Ψ:FKey→Option FnR}
def Grow1 (a b:Slot real):Prop:=b=a∨a.g < b.g∨(b.g=a.g∧a.h < b.h)
theorem Grow1.trans {a b c:Slot real} (h:Grow1 a b) (h':Grow1 b c):Grow1 a c:=by
 rcases h with h | h | h
 ·subst h;exact h'
 ·rcases h' with h' | h' | h'
  ·subst h';exact .inr (.inl h)
  ·exact .inr (.inl (Nat.lt_trans h h'))
  ·exact .inr (.inl (by omega))
 ·rcases h' with h' | h' | h'
  ·subst h';exact .inr (.inr h)
  ·exact .inr (.inl (by omega))
  ·exact .inr (.inr (by omega))
theorem Grow1.same {a b:Slot real} (h:Grow1 a b) (hg:a.g=b.g) (hh:a.h=b.h):b=a:=by
 rcases h with h | h | h
 ·exact h
 ·omega
 ·omega
def SGrow (s s':S):Prop:=∀ id,Grow1 (s.ob id) (s'.ob id)
theorem SGrow.refl (s:S):SGrow s s:=fun _=>.inl rfl
theorem SGrow.trans {s s' s'':S} (h:SGrow s s') (h':SGrow s' s''):SGrow s s'':=fun id=>(h id).trans (h' id)
theorem SGrow.of_ob {s s':S} (h:s'.ob=s.ob):SGrow s s':=fun id=>.inl (by rw [h])
theorem SGrow.upd (s:S) (i:Nat) (q:Slot real) (h:Grow1 (s.ob i) q):SGrow s (s.upd i q):=by
 intro id
 show Grow1 (s.ob id) (bif Nat.beq id i then q else s.ob id)
 cases hb:Nat.beq id i with
 | true=>rw [Nat.eq_of_beq_eq_true hb];exact h
 | false=>exact .inl rfl
theorem SGrow.new (s:S) (i:Nat) (o:Ob real):SGrow s (s.new i o):=SGrow.upd s i _ (.inr (.inl (Nat.lt_succ_self _)))
theorem SGrow.chg (s:S) (i:Nat) (o:Ob real):SGrow s (s.chg i true o):=SGrow.upd s i _ (.inr (.inr ⟨rfl,Nat.lt_succ_self _⟩))
theorem SGrow.setO (s:S) (d:Option Nat) (v:TVr):SGrow s (s.setO d v):=SGrow.of_ob (by cases d <;> rfl)
theorem pack1_grow {deep:Bool} {t:Ty} {l:L} {s:S} {q:real.V t×S} (h:pack1 (A:=real) deep t l s=some q):SGrow s q.2:=by
 unfold pack1 at h
 split at h
 ·cases deep
  ·simp only [cond_false] at h;split at h
   ·injection h with h;subst h;exact .refl _
   ·cases h
  ·cases h
 ·split at h
  ·injection h with h;subst h;exact .refl _
  ·cases h
 ·split at h
  ·injection h with h;subst h;exact .refl _
  ·cases h
 ·rename_i id g _
  cases hb:Nat.beq (s.ob id).g g <;> rw [hb] at h
  ·cases h
  ·simp only [cond_true] at h
   split at h
   ·split at h
    ·cases deep
     ·simp only [cond_false] at h;injection h with h;subst h;exact .chg _ _ _
     ·cases h
    ·cases h
   ·cases deep
    ·simp only [cond_false] at h;split at h
     ·injection h with h;subst h;exact .refl _
     ·cases h
    ·cases h
   ·cases h
 ·cases h
theorem packs_grow {deep:Bool}:∀ {cs:Tys} {ls:List L} {s:S} {q:real.Vs cs×S},packs (A:=real) deep cs ls s=some q→SGrow s q.2
 | .nil,[],s,q,h=>by simp only [packs] at h;injection h with h;subst h;exact .refl _
 | .nil,_::_,s,q,h=>by cases h
 | .cons _ _,[],s,q,h=>by cases h
 | .cons t ts,l::ls,s,q,h=>by
  simp only [packs] at h
  cases h1:pack1 (A:=real) deep t l s with
  | none=>rw [h1] at h;cases h
  | some p =>
   rw [h1] at h
   simp only [] at h
   cases h2:packs (A:=real) deep ts ls p.2 with
   | none=>rw [h2] at h;cases h
   | some p2 =>
    rw [h2] at h
    injection h with h
    subst h
    exact (show SGrow s p2.2 from (pack1_grow h1).trans (packs_grow h2))
theorem litRow_grow {s0:S} {e:Nat} {cs:Tys}:∀ {os:List Operand} {x:real.V (.sl e cs)} {s:S} {q:real.V (.sl e cs)×S},litRow E s0 e cs os x s=some q→SGrow s q.2
 | [],x,s,q,h=>by simp only [litRow] at h;injection h with h;subst h;exact .refl _
 | o::os,x,s,q,h=>by
  simp only [litRow] at h
  cases h1:cells? s0 (ev E s0 0 o) with
  | none=>rw [h1] at h;cases h
  | some ls =>
   rw [h1] at h
   simp only [] at h
   cases h2:packs (A:=real) false cs ls s with
   | none=>rw [h2] at h;cases h
   | some p =>
    rw [h2] at h
    exact (packs_grow h2).trans (litRow_grow h)
theorem storeCellsV_grow {deep:Bool}:∀ {ls:List L} {cs:Tys} {x:cs.T} {j:Nat} {s:S} {q:cs.T×S},storeCellsV (A:=real) deep cs x j ls s=some q→SGrow s q.2
 | [],cs,x,j,s,q,h=>by simp only [storeCellsV] at h;injection h with h;subst h;exact .refl _
 | l::ls,cs,x,j,s,q,h=>by
  simp only [storeCellsV] at h
  cases h1:cellAt (A:=real) cs x j with
  | none=>rw [h1] at h;cases h
  | some p =>
   obtain ⟨t,y⟩:=p
   rw [h1] at h
   simp only [] at h
   cases h2:pack1 (A:=real) deep t l s with
   | none=>rw [h2] at h;cases h
   | some p =>
    rw [h2] at h
    simp only [] at h
    cases h3:setCell (A:=real) cs x j ⟨t,p.1⟩ with
    | none=>rw [h3] at h;cases h
    | some y=>rw [h3] at h;exact (pack1_grow h2).trans (storeCellsV_grow h)
theorem arr1_grow {e:Nat} {cs:Tys} {deep:Bool} {l:L} {s:S} {q:real.V (.sl e cs)×S} (h:arr1 (A:=real) e cs deep l s=some q):SGrow s q.2:=by
 unfold arr1 at h
 split at h
 ·split at h
  ·injection h with h;subst h;exact .refl _
  ·cases h
 ·rename_i id g _
  cases hb:Nat.beq (s.ob id).g g <;> rw [hb] at h
  ·cases h
  ·simp only [cond_true] at h
   split at h
   ·rename_i e' cs' dp x ho
    cases hd:(dp == deep || cs'.plain) <;> rw [hd] at h
    ·cases h
    ·simp only [cond_true] at h
     split at h
     ·injection h with h;subst h;exact .chg _ _ _
     ·cases h
   ·cases h
 ·cases h
theorem mp1_grow {k:IntKind} {l:L} {s:S} {q:real.V (.sl 0 (Tys.mp k))×S} (h:mp1 (A:=real) k l s=some q):SGrow s q.2:=by
 unfold mp1 at h
 split at h
 ·rename_i id g
  cases hb:Nat.beq (s.ob id).g g <;> rw [hb] at h
  ·cases h
  ·simp only [cond_true] at h
   split at h
   ·split at h
    ·injection h with h;subst h;exact .chg _ _ _
    ·cases h
   ·cases h
 ·cases h
theorem take1_grow {k:K} {l:L} {s:S} {q:KV real×S} (h:take1 k l s=some q):SGrow s q.2:=by
 cases k with
 | val t =>
  simp only [take1] at h
  cases h1:pack1 (A:=real) false t l s with
  | none=>rw [h1] at h;cases h
  | some p=>rw [h1] at h;injection h with h;subst h;exact pack1_grow h1
 | arr e cs deep =>
  simp only [take1] at h
  cases h1:arr1 (A:=real) e cs deep l s with
  | none=>rw [h1] at h;cases h
  | some p=>rw [h1] at h;injection h with h;subst h;exact arr1_grow h1
 | mp kk =>
  simp only [take1] at h
  cases h1:mp1 (A:=real) kk l s with
  | none=>rw [h1] at h;cases h
  | some p=>rw [h1] at h;injection h with h;subst h;exact mp1_grow h1
theorem takes_grow:∀ {ks:List K} {ls:List L} {s:S} {q:List (KV real)×S},takes ks ls s=some q→SGrow s q.2
 | [],[],s,q,h=>by injection h with h;subst h;exact .refl _
 | [],_::_,s,q,h=>by cases h
 | _::_,[],s,q,h=>by cases h
 | k::ks,l::ls,s,q,h=>by
  simp only [takes] at h
  cases h1:take1 k l s with
  | none=>rw [h1] at h;cases h
  | some p =>
   rw [h1] at h
   simp only [] at h
   cases h2:takes ks ls p.2 with
   | none=>rw [h2] at h;cases h
   | some p2=>rw [h2] at h;injection h with h;subst h;exact (show SGrow s p2.2 from (take1_grow h1).trans (takes_grow h2))
theorem storeD_grow {s:S} {id h e:Nat} {cs:Tys} {x:List cs.T} {p:Pth} {i:IV} {off:Nat} {v:List L} {s':S} (hs:storeD (A:=real) s id h e cs x p i off v=some s'):SGrow s s':=by
 unfold storeD at hs
 cases hb:(p.isEmpty || Nat.beq (s.ob id).h h) <;> rw [hb] at hs
 ·cases hs
 ·simp only [cond_true] at hs
  cases hf:follow (A:=real) 2 e cs x p with
  | none=>rw [hf] at hs;cases hs
  | some c =>
   rw [hf] at hs
   simp only at hs
   cases ht:takes ((c.cs.kd.drop off).take v.length) v s with
   | none=>rw [ht] at hs;cases hs
   | some q =>
    rw [ht] at hs
    simp only at hs
    cases hr:setRow (A:=real) c.cs (real.get c.x i) off q.1 with
    | none=>rw [hr] at hs;cases hs
    | some el =>
     rw [hr] at hs
     simp only at hs
     cases hx:putAt (A:=real) c (real.put c.x i el) e cs x p with
     | none=>rw [hx] at hs;cases hs
     | some x' =>
      rw [hx] at hs
      simp only at hs
      split at hs
      ·injection hs with hs;subst hs;exact (takes_grow ht).trans (.chg _ _ _)
      ·cases hs
theorem storeV_grow {s:S} {p:L} {v:List L} {s':S} (h:storeV s p v=some s'):SGrow s s':=by
 unfold storeV at h
 split at h
 ·split at h
  ·split at h
   ·injection h with h;subst h;exact .chg _ _ _
   ·cases h
  ·cases h
 ·rename_i id g h' p i off
  cases hb:Nat.beq (s.ob id).g g <;> rw [hb] at h
  ·cases h
  ·simp only [cond_true] at h
   split at h
   ·rename_i e cs deep x ho
    cases deep with
    | true=>exact storeD_grow h
    | false =>
     simp only [cond_false] at h
     split at h
     ·cases h1:storeCellsV (A:=real) false cs (real.get x i) off v s with
      | none=>rw [h1] at h;cases h
      | some q =>
       rw [h1] at h
       simp only [] at h
       split at h
       ·injection h with h;subst h;exact (storeCellsV_grow h1).trans (.chg _ _ _)
       ·cases h
     ·cases h
   ·cases h
 ·cases h
theorem takeCap_grow {cs:Tys} {c:Cap real} {s:S} {q:List (KV real)×S} (h:takeCap cs c s=some q):SGrow s q.2:=by
 unfold takeCap at h
 split at h
 ·split at h
  ·rename_i ls hls
   cases h1:takes cs.ks ls s with
   | none=>rw [h1] at h;cases h
   | some p =>
    rw [h1] at h
    simp only [] at h
    split at h
    ·injection h with h;subst h;exact (takes_grow h1).trans (.chg _ _ _)
    ·cases h
  ·cases h
 ·split at h
  ·injection h with h;subst h;exact .refl _
  ·cases h
theorem takeCaps_grow:∀ {caps:List Tys} {cc:List (Cap real)} {s:S} {q:List (KV real)×S},takeCaps caps cc s=some q→SGrow s q.2
 | [],[],s,q,h=>by injection h with h;subst h;exact .refl _
 | [],_::_,s,q,h=>by cases h
 | _::_,[],s,q,h=>by cases h
 | cs::css,c::cc,s,q,h=>by
  simp only [takeCaps] at h
  cases h1:takeCap cs c s with
  | none=>rw [h1] at h;cases h
  | some p =>
   rw [h1] at h
   simp only [] at h
   cases h2:takeCaps css cc p.2 with
   | none=>rw [h2] at h;cases h
   | some p2=>rw [h2] at h;injection h with h;subst h;exact (show SGrow s p2.2 from (takeCap_grow h1).trans (takeCaps_grow h2))
theorem takeCp_grow {c:Cp} {v:Cap real} {s:S} {q:List (KV real)×S} (h:takeCp c v s=some q):SGrow s q.2:=by
 unfold takeCp at h
 split at h
 ·exact takeCap_grow h
 ·split at h
  ·split at h
   ·rename_i h1
    injection h with h;subst h;exact (SGrow.chg _ _ _).trans (takes_grow h1)
   ·cases h
  ·cases h
 ·cases h
theorem takeCps_grow:∀ {caps:List Cp} {cc:List (Cap real)} {s:S} {q:List (KV real)×S},takeCps caps cc s=some q→SGrow s q.2
 | [],[],s,q,h=>by injection h with h;subst h;exact .refl _
 | [],_::_,s,q,h=>by cases h
 | _::_,[],s,q,h=>by cases h
 | cs::css,c::cc,s,q,h=>by
  simp only [takeCps] at h
  cases h1:takeCp cs c s with
  | none=>rw [h1] at h;cases h
  | some p =>
   rw [h1] at h
   simp only [] at h
   cases h2:takeCps css cc p.2 with
   | none=>rw [h2] at h;cases h
   | some p2=>rw [h2] at h;injection h with h;subst h;exact (show SGrow s p2.2 from (takeCp_grow h1).trans (takeCps_grow h2))
theorem takeTV_grow {sh:Sh} {v:TVr} {s:S} {q:List (KV real)×S} (h:takeTV sh v s=some q):SGrow s q.2:=by
 unfold takeTV at h
 split at h
 ·exact takeCap_grow h
 ·exact takeCap_grow h
 ·rename_i f caps f' cc
  cases hb:Nat.beq f f' <;> rw [hb] at h
  ·cases h
  ·exact takeCaps_grow h
 ·rename_i f caps f' cc
  cases hb:Nat.beq f f' <;> rw [hb] at h
  ·cases h
  ·exact takeCps_grow h
 ·exact takes_grow h
 ·exact takes_grow h
 ·split at h
  ·split at h
   ·rename_i h1
    injection h with h;subst h;exact (SGrow.chg _ _ _).trans (takes_grow h1)
   ·cases h
  ·cases h
 ·cases h
theorem takeAll_grow:∀ {shs:List Sh} {vs:List TVr} {s:S} {q:List (KV real)×S},takeAll shs vs s=some q→SGrow s q.2
 | [],[],s,q,h=>by injection h with h;subst h;exact .refl _
 | [],_::_,s,q,h=>by cases h
 | _::_,[],s,q,h=>by cases h
 | sh::shs,v::vs,s,q,h=>by
  simp only [takeAll] at h
  cases h1:takeTV sh v s with
  | none=>rw [h1] at h;cases h
  | some p =>
   rw [h1] at h
   simp only [] at h
   cases h2:takeAll shs vs p.2 with
   | none=>rw [h2] at h;cases h
   | some p2=>rw [h2] at h;injection h with h;subst h;exact (show SGrow s p2.2 from (takeTV_grow h1).trans (takeAll_grow h2))
theorem lends_grow:∀ {ks:List K} {ls:List L} {s s1:S},lends ks ls s=some s1→SGrow s s1
 | [],[],s,s1,h=>by injection h with h;subst h;exact .refl _
 | [],_::_,_,_,h=>by cases h
 | _::_,[],_,_,h=>by cases h
 | k::ks,l::ls,s,s1,h=>by
  simp only [lends] at h
  cases h1:lend1 k l s with
  | none=>rw [h1] at h;cases h
  | some s2 =>
   rw [h1] at h
   refine SGrow.trans ?_ (lends_grow h)
   cases k with
   | val t=>injection h1 with h1;subst h1;exact .refl _
   | arr e cs d =>
    simp only [lend1] at h1
    cases hb:Nat.ble 1 cs.len with
    | false=>rw [hb] at h1;cases h1
    | true =>
     rw [hb] at h1
     simp only [cond_true] at h1
     cases ha:arr1 (A:=real) e cs d l s with
     | none=>rw [ha] at h1;cases h1
     | some q=>rw [ha] at h1;injection h1 with h1;subst h1;exact arr1_grow ha
   | mp _=>cases h1
theorem backs_grow:∀ {ks:List K} {ls:List L} {vs:List (KV real)} {s s1:S},backs ks ls vs s=some s1→SGrow s s1:=by
 intro ks
 induction ks with
 | nil =>
  intro ls vs s s1 h
  cases ls <;> cases vs <;> first | (injection h with h;subst h;exact .refl _) | cases h
 | cons k ks ih =>
  intro ls vs s s1 h
  cases ls with
  | nil=>cases k <;> cases vs <;> cases h
  | cons l ls =>
   cases k with
   | val t=>exact ih h
   | mp _=>cases l <;> cases vs <;> cases h
   | arr e cs d =>
    cases vs with
    | nil=>cases l with
     | ref id g hh p=>cases p <;> cases h
     | _=>cases h
    | cons v vs =>
     cases l with
     | nilS _ _=>exact ih h
     | ref id g hh p =>
      cases p with
      | cons _ _=>cases h
      | nil =>
       obtain ⟨kk,x⟩:=v
       cases kk with
       | val _=>cases h
       | mp _=>cases h
       | arr e' cs' d'=>exact (SGrow.chg _ _ _).trans (ih h)
     | _=>cases h
theorem lay1_grow (id:Nat) (v:KV real) (s:S):SGrow s (lay1 id v s).2:=by
 obtain ⟨k,x⟩:=v
 cases k <;> exact .new _ _ _
theorem lays_grow:∀ (vs:List (KV real)) (id:Nat) (s:S),SGrow s (lays id vs s).2
 | [],_,_=>.refl _
 | v::_,id,s=>(lay1_grow id v s).trans (lays_grow _ (id+1) _)
theorem layCps_grow:∀ (caps:List Cp) (vs:List (KV real)) (b:Nat) (s:S),SGrow s (layCps b caps vs s).2
 | [],_,_,_=>.refl _
 | .ro cs::r,vs,b,s=>by
  simp only [layCps]
  cases toVs (A:=real) cs (vs.take cs.len) with
  | none=>exact .refl _
  | some x=>exact layCps_grow r _ b s
 | .mu ks::r,vs,b,s=>((lays_grow _ _ _).trans (.new _ _ _)).trans (layCps_grow r _ _ _)
theorem layTV_grow (b:Nat) (sh:Sh) (vs:List (KV real)) (s:S):SGrow s (layTV b sh vs s).2:=by
 cases sh with
 | one k =>
  match vs with
  | []=>exact .refl _
  | [v]=>exact lay1_grow _ _ _
  | _::_::_=>exact .refl _
 | agg ks=>exact lays_grow _ _ _
 | blk ks=>exact (lays_grow _ _ _).trans (.new _ _ _)
 | ro cs=>simp only [layTV];cases toVs (A:=real) cs vs <;> exact .refl _
 | fn _ _=>exact .refl _
 | fnm g caps=>exact layCps_grow caps vs b s
theorem layAll_grow:∀ (shs:List Sh) (vs:List (KV real)) (b:Nat) (s:S),SGrow s (layAll b shs vs s).2
 | [],_,_,_=>.refl _
 | sh::shs,vs,b,s=>(layTV_grow b sh _ s).trans (layAll_grow shs _ _ _)
theorem backB_grow:∀ {kss:List (List K)} {ls:List L} {vs:List (KV real)} {s s1:S},backB kss ls vs s=some s1→SGrow s s1:=by
 intro kss
 induction kss with
 | nil=>intro ls vs s s1 h;cases ls <;> cases vs <;> first | (injection h with h;subst h;exact .refl _) | cases h
 | cons ks kss ih =>
  intro ls vs s s1 h
  cases ls with
  | nil=>cases h
  | cons l ls =>
   cases l with
   | ptr id g off =>
    cases off with
    | zero =>
     simp only [backB] at h
     cases hb:(Nat.ble (id+1) cellB && (Nat.ble ks.length 64 && Nat.ble ks.length vs.length)) with
     | false=>rw [hb] at h;cases h
     | true =>
      rw [hb] at h
      simp only [cond_true] at h
      exact (lays_grow _ _ _).trans ((SGrow.chg _ _ _).trans (ih h))
    | succ _=>cases h
   | _=>cases h
theorem mergeA_grow {q:Hole real} {s s':S} (h:mergeA (A:=real) q s=some s'):SGrow s s':=by
 unfold mergeA at h
 split at h
 ·rename_i e cs dp y ho
  cases hb:((Nat.beq (s.ob q.id).g q.g && Nat.beq (s.ob q.nb).g q.gn) && (Nat.ble 1 q.g && (dp || cs.plain))) <;> rw [hb] at h
  ·cases h
  ·simp only [cond_true] at h
   split at h
   ·rename_i hc
    cases hp:putAt (A:=real) q.c (real.cast hc y) q.e q.cs q.x q.path with
    | none=>rw [hp] at h;cases h
    | some x'=>rw [hp] at h;injection h with h;subst h;exact (SGrow.chg _ _ _).trans (.chg _ _ _)
   ·cases h
 ·cases h
def GrowTo (s:S) (x:Option S):Prop:=∀ s',x=some s'→SGrow s s'
theorem GrowTo.fail {s:S}:GrowTo s (realC S).fail:=fun _ h=>nomatch h
theorem GrowTo.mk {s s':S} (h:SGrow s s'):GrowTo s (some s'):=fun _ e=>by injection e with e;subst e;exact h
theorem GrowTo.mapFail {α:Type} {s:S} {x:Option α} {f:α→Option S} (h:∀ v,x=some v→GrowTo s (f v)):GrowTo s (mapFail (realC S) x f):=by
 cases x with
 | none=>exact .fail
 | some v=>exact h v rfl
theorem GrowTo.cond {s:S} {b:Bool} {x y:Option S} (hx:GrowTo s x) (hy:GrowTo s y):GrowTo s (bif b then x else y):=by
 cases b
 ·exact hy
 ·exact hx
theorem GrowTo.rcond {s:S} {b:Bool} {x y:Option S} (hx:GrowTo s x) (hy:GrowTo s y):GrowTo s ((realC S).cond b x y):=GrowTo.cond hx hy
theorem step_grow {o:Oper} {s:S}:GrowTo s (step1 E Ψ o s):=by
 have pt:∀ (s':S) (v:TVr),SGrow s s'→GrowTo s (some (s'.setO o.dst v)):=fun s' v h=>.mk (h.trans (.setO _ _ _))
 unfold step1 stepC
 have here:∀ v:TVr,GrowTo s (some (s.setO o.dst v)):=fun v=>pt s v (.refl s)
 cases ho:o.op with
 | move x=>exact here _
 | assign x=>exact here _
 | pick c a b=>exact .mapFail fun c _=>.rcond (here _) (here _)
 | build t ps=>exact .mapFail fun i _=>.cond (.mapFail fun cs _=>here _) .fail
 | load t p =>
  refine .mapFail fun i _=>?_
  cases ev E s 0 p with
  | one l=>exact .mapFail fun v _=>here _
  | _=>exact .fail
 | nilCheck x =>
  simp only []
  cases ev E s 0 x with
  | one l =>
   cases l with
   | ptr id g off=>exact .mapFail fun _ _=>here _
   | eptr id g hh p j off=>exact .mapFail fun c _=>.cond .fail (here _)
   | iptr cs y off=>exact here _
   | _=>exact .fail
  | _=>exact .fail
 | binOp op t x y yt =>
  simp only []
  cases nilTest E s op t x y with
  | some l=>exact here _
  | none =>
  simp only []
  cases ev E s t x with
  | one x =>
   cases ev E s t y with
   | one y =>
    have h1:=binV_cps (R:=S) (isBoolTy E t) op x y (fun l=>some (s.setO o.dst (.one l))) (fun l=>some (St.set s 0 (.one l))) (fun s1=>some (s.setO o.dst (s1.sl 0))) (fun l=>rfl)
    show GrowTo s (binV (realC S) (isBoolTy E t) op x y fun l=>some (s.setO o.dst (.one l)))
    rw [h1]
    cases binV (realC S) (isBoolTy E t) op x y fun l=>some (St.set s 0 (.one l)) with
    | none=>exact .fail
    | some s1=>exact here _
   | _=>exact .fail
  | agg xs =>
   cases ev E s t y with
   | agg ys=>refine .mapFail fun i _=>.mapFail fun b _=>?_;cases op <;> first | exact .fail | exact here _
   | _=>exact .fail
  | tup _=>exact .fail
 | unOp op t x =>
  simp only []
  cases op <;> first | exact .fail | skip
  all_goals (cases ev E s t x with
   | one l=>cases l with
    | val tt y=>cases tt <;> first | exact .fail | exact here _
    | _=>exact .fail
   | _=>exact .fail)
 | convert src dst x =>
  simp only []
  refine .mapFail fun _ _=>.mapFail fun i _=>.cond .fail ?_
  split <;> first | exact .fail | exact here _
 | makeFunc fn first captured =>
  cases fn with
  | func f=>exact .cond (.mapFail fun cc _=>here _) .fail
  | _=>exact .fail
 | fieldAddr t x f =>
  simp only []
  refine .mapFail fun i _=>.mapFail fun q _=>.cond .fail ?_
  cases ev E s 0 x with
  | one l =>
   cases l with
   | ptr id g off=>exact .mapFail fun _ _=>here _
   | eptr id g hh p j off=>exact .mapFail fun c _=>.cond .fail (here _)
   | iptr cs y off=>exact here _
   | _=>exact .fail
  | _=>exact .fail
 | field t x f =>
  simp only []
  refine .mapFail fun i _=>.mapFail fun q _=>.cond .fail ?_
  cases ev E s t x with
  | agg ls=>exact .cond (here _) .fail
  | _=>exact .fail
 | indexAddr t x i =>
  simp only []
  refine .mapFail fun i _=>.mapFail fun q _=>?_
  cases ev E s t x with
  | one l =>
   cases l with
   | val tt y =>
    cases tt with
    | sl e cs=>exact .cond (.rcond (here _) .fail) .fail
    | _=>exact .fail
   | ref id g hh p=>exact .mapFail fun c _=>.cond (.rcond (.cond (here _) (here _)) .fail) .fail
   | _=>exact .fail
  | _=>exact .fail
 | index t x i=>exact .cond (.mapFail fun i _=>.mapFail fun x _=>.rcond (here _) .fail) .fail
 | extract t i =>
  simp only []
  cases ev E s 0 t with
  | tup cs=>exact .mapFail fun c _=>here _
  | _=>exact .fail
 | alloc t=>exact .mapFail fun i _=>pt _ _ (.new _ _ _)
 | box t x=>exact .mapFail fun i _=>.mapFail fun v _=>.cond (.cond (.mapFail fun r hr=>pt _ _ (packs_grow hr)) (pt _ _ (.new _ _ _))) .fail
 | buildSlice t n ps=>exact .mapFail fun r _=>.cond (.cond (.mapFail fun lss _=>.mapFail fun q hq=>.mapFail fun x _=>pt _ _ ((takes_grow hq).trans (.new _ _ _))) (.mapFail fun q hq=>pt _ _ ((litRow_grow hq).trans (.new _ _ _)))) .fail
 | store t p v =>
  refine .mapFail fun i _=>.mapFail fun v _=>.cond ?_ .fail
  cases ev E s 0 p with
  | one l=>exact .mapFail fun s1 h1=>pt _ _ (storeV_grow h1)
  | _=>exact .fail
 | makeSlice t n c=>exact .mapFail fun r _=>.mapFail fun n' _=>.cond (.rcond (pt _ _ (.new _ _ _)) .fail) .fail
 | makeMap t rv=>exact .mapFail fun kk _=>.cond (pt _ _ (.new _ _ _)) .fail
 | lookup t m x ok =>
  refine .mapFail fun kk _=>.cond .fail ?_
  split
  ·refine .mapFail fun q _=>.cond ?_ .fail
   split
   ·exact here _
   ·exact .fail
  ·exact .fail
 | mapUpdate t m x v =>
  refine .mapFail fun kk _=>?_
  split
  ·refine .mapFail fun q _=>.cond ?_ .fail
   split
   ·exact pt _ _ (.chg _ _ _)
   ·exact .fail
  ·exact .fail
 | slice t x lo hi mx =>
  simp only []
  unfold sliceV
  refine .mapFail fun q _=>.mapFail fun c _=>.cond (.cond (pt _ _ (.refl _)) ?_) .fail
  cases mx with
  | some _=>exact .fail
  | none =>
   refine .mapFail fun l _=>.mapFail fun h _=>.rcond ?_ .fail
   unfold sliceFin
   split
   ·exact .cond (pt _ _ (.refl _)) (.cond (.cond .fail (pt _ _ ((SGrow.chg _ _ _).trans (.new _ _ _)))) (pt _ _ (.chg _ _ _)))
   ·exact .fail
   ·exact pt _ _ (.refl _)
 | call c =>
  obtain ⟨cal,args,tys⟩:=c
  simp only []
  refine .cond ?_ .fail
  generalize ((args.toList.zip tys.toList).map fun p=>ev E s p.2 p.1)=vs
  cases cal with
  | builtin b =>
   simp only []
   unfold builtinV
   split
   ·exact .cond (.mapFail fun _ _=>pt _ _ (.refl _)) (.mapFail fun _ _=>.mapFail fun _ _=>pt _ _ (.refl _))
   ·exact .mapFail fun _ _=>.mapFail fun _ _=>pt _ _ (.refl _)
   ·exact .mapFail fun _ _=>.mapFail fun _ _=>pt _ _ (.refl _)
   ·rename_i x y t t' _
    refine .mapFail fun q _=>.mapFail fun _ _=>.mapFail fun cx _=>.mapFail fun cy _=>.cond .fail ?_
    split
    ·exact .fail
    ·rename_i s1 dp hs1
     have hg:SGrow s s1:=by
      split at hs1
      ·injection hs1 with hs1;injection hs1 with h1 h2;subst h1;exact .refl _
      ·split at hs1
       ·cases hs1
       ·injection hs1 with hs1;injection hs1 with h1 h2;subst h1;exact .chg _ _ _
      ·cases hs1
     refine .cond ?_ ?_
     ·split
      ·refine .cond ?_ .fail
       split
       ·exact .rcond (pt _ _ (hg.trans ((SGrow.chg _ _ _).trans (.new _ _ _)))) .fail
       ·exact .fail
      ·exact .fail
     ·split
      ·exact .rcond (pt _ _ (hg.trans (.new _ _ _))) .fail
      ·exact .fail
   ·exact .fail
  | value f =>
   simp only []
   cases ev E s 0 f with
   | one l =>
    cases l with
    | fn fid cc =>
     refine .mapFail fun g hg=>?_
     unfold tab at hg
     cases hF:Ψ (fid,fnIds vs) with
     | none=>rw [hF] at hg;cases hg
     | some F =>
      rw [hF] at hg
      injection hg with hg
      subst hg
      unfold callV
      have look:∀ (vs:List TVr) (s0:S) (f:TVr→S→Option S),SGrow s s0→(∀ v s2,SGrow s s2→GrowTo s (f v s2))→GrowTo s (callL (realC S) (F.callee S) (o.dst.getD 0) vs s0 f):=by
       intro vs s0 f h0 hf
       unfold callL
       refine .mapFail fun s1 h1=>.mapFail fun vs' _=>.mapFail fun x _=>?_
       show GrowTo s ((F.fn x).bind _)
       cases F.fn x with
       | none=>exact .fail
       | some y=>exact .mapFail fun s2 h2=>hf _ _ (h0.trans ((lends_grow h1).trans ((backs_grow h2).trans (layAll_grow _ _ _ _))))
      refine .cond (.cond ?_ (.cond (.mapFail fun r hr=>.mapFail fun x _=>?_) .fail)) .fail
      ·split
       ·rename_i args' s' q hsp
        obtain ⟨i,id,gg,hh,p,r1,_,_,q3,q4⟩:=splitA_ok hsp
        obtain ⟨c,e,cs,x,_,_,_,p4⟩:=split1_ok q3
        subst p4
        injection q4 with _ q4
        injection q4 with q4 _
        subst q4
        refine look _ _ _ ((SGrow.chg _ _ _).trans (.new _ _ _)) fun v s2 hg=>.mapFail fun s3 h3=>pt _ _ (hg.trans (mergeA_grow h3))
       ·exact look _ _ _ (.refl _) fun v s2 hg=>pt _ _ hg
      ·show GrowTo s ((F.fn x).bind _)
       cases F.fn x with
       | none=>exact .fail
       | some y=>exact .mapFail fun s2 h2=>pt _ _ ((takeAll_grow hr).trans ((backB_grow h2).trans (layAll_grow _ _ _ _)))
    | _=>exact .fail
   | _=>exact .fail
  | invoke _ _=>exact .fail
 | _=>exact .fail
end
end Go.R
namespace Go.R
theorem preOf_bit {acc:List Nat} {j:Nat}:∀ {es:List Edge},(preOf acc es).testBit j=true→∃ e∈es,Region.binds .any e=true∧(e.on=j∨(acc.getD e.on 0).testBit j=true)
 | [],h=>by simp [preOf] at h
 | e::es,h=>by
  simp only [preOf] at h
  cases hb:Region.binds .any e with
  | false =>
   rw [hb] at h
   obtain ⟨e',h1,h2⟩:=preOf_bit (es:=es) h
   exact ⟨e',List.mem_cons_of_mem _ h1,h2⟩
  | true =>
   rw [hb] at h
   simp only [cond_true] at h
   have hor:∀ (x y:Nat),Nat.testBit (Nat.lor x y) j=(Nat.testBit x j || Nat.testBit y j):=fun x y=>Nat.testBit_or x y j
   rw [hor,hor,Bool.or_eq_true,Bool.or_eq_true] at h
   rcases h with (h | h) | h
   ·exact ⟨e,by simp,hb,.inr h⟩
   ·refine ⟨e,by simp,hb,.inl ?_⟩
    have hs:Nat.shiftLeft 1 e.on=2 ^ e.on:=by
     show 1 <<< e.on=2 ^ e.on
     exact Nat.one_shiftLeft e.on
    rw [hs,Nat.testBit_two_pow] at h
    simpa using h
   ·obtain ⟨e',h1,h2⟩:=preOf_bit (es:=es) h
    exact ⟨e',List.mem_cons_of_mem _ h1,h2⟩
theorem presL_pre:∀ (l:List Oper) (acc:List Nat),∃ tl,presL l acc=acc++tl∧tl.length=l.length
 | [],acc=>⟨[],by simp [presL],rfl⟩
 | o::r,acc=>by
  obtain ⟨tl,h1,h2⟩:=presL_pre r (acc++[preOf acc o.after.toList])
  exact ⟨preOf acc o.after.toList::tl,by simp only [presL];rw [h1];simp,by simp [h2]⟩
theorem presL_at:∀ (l:List Oper) (acc:List Nat) (k:Nat) (o:Oper),l[k]? = some o→∃ pre suf,presL l acc=pre++suf∧pre.length=acc.length+k∧(presL l acc).getD (acc.length+k) 0=preOf pre o.after.toList
 | [],_,k,o,h=>by simp at h
 | o::r,acc,0,o',h=>by
  simp at h
  subst h
  obtain ⟨tl,h1,h2⟩:=presL_pre r (acc++[preOf acc o.after.toList])
  refine ⟨acc,preOf acc o.after.toList::tl,by simp only [presL];rw [h1];simp,by simp,?_⟩
  simp only [presL]
  rw [h1]
  simp
 | o::r,acc,k+1,o',h=>by
  have h':r[k]? = some o':=by simpa using h
  obtain ⟨pre,suf,h1,h2,h3⟩:=presL_at r (acc++[preOf acc o.after.toList]) k o' h'
  have hl:(acc++[preOf acc o.after.toList]).length+k=acc.length+(k+1):=by simp;omega
  exact ⟨pre,suf,by simp only [presL];exact h1,h2.trans hl,by simp only [presL];rw [←hl];exact h3⟩
theorem bits_app {pre suf:List Nat} {i j:Nat} (h:(pre.getD i 0).testBit j=true):((pre++suf).getD i 0).testBit j=true:=by
 simp only [List.getD_eq_getElem?_getD] at h ⊢
 rcases Nat.lt_or_ge i pre.length with hi | hi
 ·rw [List.getElem?_append_left hi];exact h
 ·rw [List.getElem?_eq_none hi] at h;simp at h
section
variable {ops:Array Oper}
abbrev PP (ops:Array Oper):List Nat:=presL ops.toList []
theorem hasBit_why {i j:Nat} {o:Oper} (ho:ops.toList[i]? = some o) (h:hasBit (PP ops) i j=true):∃ e∈o.after.toList,Region.binds .any e=true∧(e.on=j∨hasBit (PP ops) e.on j=true):=by
 obtain ⟨pre,suf,h1,h2,h3⟩:=presL_at ops.toList [] i o ho
 unfold hasBit at h
 have hz:([]:List Nat).length+i=i:=by simp
 rw [hz] at h3
 rw [h3] at h
 obtain ⟨e,g1,g2,g3⟩:=preOf_bit h
 refine ⟨e,g1,g2,g3.imp id fun g=>?_⟩
 show ((presL ops.toList []).getD e.on 0).testBit j=true
 rw [h1]
 exact bits_app g
theorem wrote_spec {P:List Nat} {i t:Nat}:∀ {l:List Oper} {k:Nat},wrote P i t k l=true→∀ (j:Nat) (o:Oper),l[j]? = some o→o.dst=some t→hasBit P i (k+j)=true∨hasBit P (k+j) i=true
 | [],_,_,j,o,h,_=>by simp at h
 | o::r,k,h,0,o',h1,h2=>by
  simp at h1
  subst h1
  simp only [wrote,Bool.and_eq_true,Bool.or_eq_true] at h
  rcases h.1 with h | h
  ·rw [h2] at h;simp [isDst] at h
  ·exact h
 | o::r,k,h,j+1,o',h1,h2=>by
  simp only [wrote,Bool.and_eq_true] at h
  have:=wrote_spec h.2 j o' (by simpa using h1) h2
  rwa [show k+1+j=k+(j+1) by omega] at this
theorem alone_spec {i t:Nat}:∀ {l:List Oper} {k:Nat},alone i (some t) k l=true→∀ (j:Nat) (o:Oper),l[j]? = some o→i≠k+j→o.dst≠some t
 | [],_,_,j,o,h,_=>by simp at h
 | o::r,k,h,0,o',h1,h2=>by
  simp at h1
  subst h1
  simp only [alone,Bool.and_eq_true,Bool.or_eq_true] at h
  rcases h.1 with h | h
  ·exact absurd (Nat.eq_of_beq_eq_true h) (by simpa using h2)
  ·intro e;rw [e] at h;simp [isDst] at h
 | o::r,k,h,j+1,o',h1,h2=>by
  simp only [alone,Bool.and_eq_true] at h
  exact alone_spec h.2 j o' (by simpa using h1) (by omega)
structure Stat (ops:Array Oper) (i:Nat) (o:Oper):Prop where
 back:∀ e∈o.after.toList,Region.binds .any e=true→e.on < i
 reads:∀ t∈readsOf ops o,∀ (j:Nat) (o':Oper),ops.toList[j]? = some o'→o'.dst=some t→hasBit (PP ops) i j=true∨hasBit (PP ops) j i=true
 lone:∀ t,o.dst=some t→∀ (j:Nat) (o':Oper),ops.toList[j]? = some o'→i≠j→o'.dst≠some t
 made:makes o.op=true→o.dst≠none
theorem statGo_spec {P:List Nat} (hP:P=PP ops):∀ {l:List Oper} {k:Nat},statGo P ops k l=true→∀ (j:Nat) (o:Oper),l[j]? = some o→Stat ops (k+j) o
 | [],_,_,j,o,h=>by simp at h
 | o::r,k,h,0,o',h1=>by
  simp at h1
  subst h1
  subst hP
  simp only [statGo,Bool.and_eq_true] at h
  obtain ⟨⟨⟨⟨h1,h2⟩,h3⟩,h4⟩,_⟩:=h
  refine ⟨fun e he hb=>?_,fun t ht j o' hj hd=>?_,fun t ht j o' hj hij=>?_,fun hm hd=>?_⟩
  ·have:=List.all_eq_true.1 h1 e he
   rw [hb] at this
   exact Nat.le_of_ble_eq_true (by simpa using this)
  ·have:=wrote_spec (List.all_eq_true.1 h2 t ht) j o' hj hd
   simpa using this
  ·rw [ht] at h3
   exact alone_spec h3 j o' hj (by simpa using hij)
  ·rw [hm,hd] at h4
   cases h4
 | o::r,k,h,j+1,o',h1=>by
  simp only [statGo,Bool.and_eq_true] at h
  have:=statGo_spec hP h.2 j o' (by simpa using h1)
  rwa [show k+1+j=k+(j+1) by omega] at this
theorem hasBit_lt (hS:∀ (i:Nat) (o:Oper),ops.toList[i]? = some o→Stat ops i o):∀ (i j:Nat) (o:Oper),ops.toList[i]? = some o→hasBit (PP ops) i j=true→j < i:=by
 intro i
 induction i using Nat.strongRecOn with
 | ind i ih =>
  intro j o ho h
  obtain ⟨e,h1,h2,h3⟩:=hasBit_why ho h
  have hlt:=(hS i o ho).back e h1 h2
  rcases h3 with h3 | h3
  ·omega
  ·have hi:i < ops.toList.length:=by
    rcases Nat.lt_or_ge i ops.toList.length with hh | hh
    ·exact hh
    ·rw [List.getElem?_eq_none hh] at ho;cases ho
   have:=ih e.on hlt j _ (List.getElem?_eq_getElem (Nat.lt_trans hlt hi)) h3
   omega
end
end Go.R
namespace Go.R
section
variable {R:Type} {E:Env} {Ψ:FKey→Option FnR} {ops:Array Oper}
def guardB (ops : Array Oper) (o : Oper) (s : S) : Option Bool :=
  match o.guard with
  | none => some true
  | some (j, want) => match (ops[j]?).bind (·.dst) with
    | none => none
    | some t => match s.sl t with
      | .one (.val .bool b) => some ((show Bool from b) == want)
      | .one .undef => some false
      | _ => none
def StepOk (E:Env) (Ψ:FKey→Option FnR) (ops:Array Oper) (o:Oper) (s s':S):Prop:=
 (guardB ops o s=some true∧step1 E Ψ o s=some s')∨(guardB ops o s=some false∧s'=s.setO o.dst (.one .undef))
structure Run (E:Env) (Ψ:FKey→Option FnR) (ops:Array Oper) (P:List Nat) (l:List Oper) (i:Nat) (as:List (DRec real)) (s:S) (st:Nat→S):Prop where
 first:st i=s
 dst:∀ (j:Nat) (o:Oper),l[j]? = some o→okDst E o.dst=true
 step:∀ (j:Nat) (o:Oper),l[j]? = some o→StepOk E Ψ ops o (st (i+j)) (st (i+j+1))
 recs:∃ as',chkRecs P as'=true∧(∀ x∈as,x∈as')∧∀ (j:Nat) (o:Oper),l[j]? = some o→guardB ops o (st (i+j))=some true→⟨i+j,o,st (i+j),st (i+j+1)⟩∈as'
theorem St.set_same {s:S} {t:Nat} {v:TVr} (h:s.sl t=v):s.set t v=s:=by
 unfold St.set
 congr 1
 funext i
 cases hb:Nat.beq i t with
 | true=>rw [Nat.eq_of_beq_eq_true hb,h];rfl
 | false=>rfl
def glued (i:Nat) (s:S) (st:Nat→S):Nat→S:=fun n=>if n≤i then s else st n
theorem glued_lo (i:Nat) (s:S) (st:Nat→S):glued i s st i=s:=if_pos (Nat.le_refl _)
theorem glued_hi (i:Nat) (s:S) (st:Nat→S) (n:Nat):glued i s st (i+1+n)=st (i+1+n):=if_neg (by omega)
theorem drawC_run {P : List Nat} {r : R} : ∀ (l : List Oper) (i : Nat) (as : List (DRec real)) (s : S) (k : S → Option R), drawC E (realC R) (tab Ψ R) ops P i l as s k = some r →
    ∃ st, Run E Ψ ops P l i as s st ∧ k (st (i + l.length)) = some r
  | [], i, as, s, k, h => by
    simp only [drawC] at h
    cases hc : chkRecs P as with
    | false => rw [hc] at h; cases h
    | true =>
      rw [hc] at h
      exact ⟨fun _ => s, ⟨rfl, fun j o hj => by simp at hj, fun j o hj => by simp at hj, as, hc, fun _ hx => hx, fun j o hj => by simp at hj⟩, h⟩
  | o :: l, i, as, s, k, h => by
    simp only [drawC] at h
    cases hd : okDst E o.dst with
    | false => rw [hd] at h; cases h
    | true =>
      rw [hd] at h
      simp only [cond_true] at h
      have glue : ∀ (as1 : List (DRec real)) (s1 : S) (st : Nat → S), Run E Ψ ops P l (i + 1) as1 s1 st → StepOk E Ψ ops o s s1 → (∀ x ∈ as, x ∈ as1) →
          (guardB ops o s = some true → ⟨i, o, s, s1⟩ ∈ as1) → k (st (i + 1 + l.length)) = some r →
          ∃ st, Run E Ψ ops P (o :: l) i as s st ∧ k (st (i + (o :: l).length)) = some r := by
        intro as1 s1 st hr hs ha hrec hk
        have e0 : ∀ n, glued i s st (i + 1 + n) = st (i + 1 + n) := fun n => glued_hi i s st n
        have ei : glued i s st i = s := glued_lo i s st
        refine ⟨glued i s st, ⟨ei, fun j o' hj => ?_, fun j o' hj => ?_, ?_⟩, ?_⟩
        · cases j with
          | zero => simp at hj; subst hj; exact hd
          | succ j => exact hr.dst j o' (by simpa using hj)
        · cases j with
          | zero =>
            simp at hj; subst hj
            have e1 := e0 0
            simp only [Nat.add_zero] at e1 ⊢
            rw [e1, ei, hr.first]
            exact hs
          | succ j =>
            have e1 := e0 j
            have e2 := e0 (j + 1)
            have := hr.step j o' (by simpa using hj)
            rw [show i + (j + 1) = i + 1 + j by omega, e1]
            rw [show i + 1 + j + 1 = i + 1 + (j + 1) by omega, e2]
            exact this
        · obtain ⟨as', hc, h1, h3⟩ := hr.recs
          refine ⟨as', hc, fun x hx => h1 x (ha x hx), fun j o' hj hg => ?_⟩
          cases j with
          | zero =>
            simp at hj; subst hj
            have e1 := e0 0
            simp only [Nat.add_zero] at e1 hg ⊢
            rw [ei] at hg
            rw [e1, ei, hr.first]
            exact h1 _ (hrec hg)
          | succ j =>
            have e1 := e0 j
            have e2 := e0 (j + 1)
            rw [show i + (j + 1) = i + 1 + j by omega] at hg ⊢
            rw [e1] at hg ⊢
            rw [show i + 1 + j + 1 = i + 1 + (j + 1) by omega, e2]
            exact h3 j o' (by simpa using hj) hg
        · have e1 := e0 l.length
          rw [show i + (o :: l).length = i + 1 + l.length by simp; omega, e1]
          exact hk
      have yes : guardB ops o s = some true → (stepC E (realC R) (tab Ψ R) o s fun s1 => drawC E (realC R) (tab Ψ R) ops P (i + 1) l (⟨i, o, s, s1⟩ :: as) s1 k) = some r →
          ∃ st, Run E Ψ ops P (o :: l) i as s st ∧ k (st (i + (o :: l).length)) = some r := by
        intro hg hk
        rw [stepC_cps] at hk
        cases h1 : step1 E Ψ o s with
        | none => rw [h1] at hk; cases hk
        | some s1 =>
          rw [h1] at hk
          simp only [Option.bind_some] at hk
          obtain ⟨st, hr, hks⟩ := drawC_run l (i + 1) _ s1 k hk
          exact glue _ s1 st hr (.inl ⟨hg, h1⟩) (fun x hx => List.mem_cons_of_mem _ hx) (fun _ => by simp) hks
      have no : guardB ops o s = some false → drawC E (realC R) (tab Ψ R) ops P (i + 1) l as (s.setO o.dst .undef) k = some r →
          ∃ st, Run E Ψ ops P (o :: l) i as s st ∧ k (st (i + (o :: l).length)) = some r := by
        intro hg hk
        obtain ⟨st, hr, hks⟩ := drawC_run l (i + 1) _ _ k hk
        exact glue _ _ st hr (.inr ⟨hg, rfl⟩) (fun x hx => hx) (fun h => by rw [hg] at h; cases h) hks
      cases hgd : o.guard with
      | none => rw [hgd] at h; exact yes (by unfold guardB; rw [hgd]) h
      | some gw =>
        obtain ⟨j, want⟩ := gw
        rw [hgd] at h
        simp only [] at h
        cases ht : (ops[j]?).bind (·.dst) with
        | none => rw [ht] at h; cases h
        | some t =>
          rw [ht] at h
          simp only [] at h
          cases hsl : s.sl t with
          | one lf =>
            rw [hsl] at h
            cases lf with
            | val tt b =>
              cases tt with
              | bool =>
                have hgB : guardB ops o s = some ((show Bool from b) == want) := by
                  unfold guardB
                  rw [hgd]; simp only []; rw [ht]; simp only []; rw [hsl]
                rcases (show ∃ c : Bool, c = b from ⟨b, rfl⟩) with ⟨c, rfl⟩
                cases c with
                | true =>
                  have hT : s.set t (.one (.val .bool (real.litB true))) = s := St.set_same hsl
                  rw [hT] at h
                  cases want with
                  | true => exact yes hgB h
                  | false => exact no hgB h
                | false =>
                  have hT : s.set t (.one (.val .bool (real.litB false))) = s := St.set_same hsl
                  rw [hT] at h
                  cases want with
                  | true => exact no hgB h
                  | false => exact yes hgB h
              | _ => cases h
            | undef =>
              refine no ?_ h
              unfold guardB
              rw [hgd]; simp only []; rw [ht]; simp only []; rw [hsl]
            | _ => cases h
          | _ => rw [hsl] at h; cases h
end
end Go.R
namespace Go.R
section
variable {E:Env} {Ψ:FKey→Option FnR} {ops:Array Oper}
def inT (s:S) (o:Oper) (id:Nat):Bool:=(touchL s o).any (Nat.beq id) || inPriv o id || (wild s o && Nat.ble cellB id)
def Sep (s:S) (o:Oper) (o':Oper) (t t':S):Prop:=(∀ id∈touchL s o,((t.ob id).g=(t'.ob id).g∧(t.ob id).h=(t'.ob id).h)∧inPriv o' id=false∧(wild t o'=true→id < cellB))∧mkId (o.dst.getD 0) 0 0+2048≤cellB
structure Hist (E:Env) (Ψ:FKey→Option FnR) (ops:Array Oper) (st:Nat→S):Prop where
 stat:∀ (i:Nat) (o:Oper),ops.toList[i]? = some o→Stat ops i o
 step:∀ (i:Nat) (o:Oper),ops.toList[i]? = some o→StepOk E Ψ ops o (st i) (st (i+1))
 apart:∀ (i j:Nat) (o o':Oper),ops.toList[i]? = some o→ops.toList[j]? = some o'→i≠j→guardB ops o (st i)=some true→guardB ops o' (st j)=some true →
  hasBit (PP ops) i j=true∨hasBit (PP ops) j i=true∨(¬ (wild (st i) o=true∧wild (st j) o'=true)∧Sep (st i) o o' (st j) (st (j+1))∧Sep (st j) o' o (st i) (st (i+1)))
theorem sepOk_spec {a b:DRec real} (h:sepOk a b=true):Sep a.s a.o b.o b.s b.s':=by
 unfold sepOk at h
 rw [Bool.and_eq_true] at h
 refine ⟨fun id hid=>?_,Nat.le_of_ble_eq_true h.2⟩
 have:=List.all_eq_true.1 h.1 id hid
 simp only [sameVer,Bool.and_eq_true,Bool.or_eq_true] at this
 obtain ⟨⟨h1,h2⟩,h3,h4⟩:=this
 refine ⟨⟨Nat.eq_of_beq_eq_true h1,Nat.eq_of_beq_eq_true h2⟩,by simpa using h3,fun hw=>?_⟩
 rcases h4 with h4 | h4
 ·rw [hw] at h4;cases h4
 ·exact Nat.le_of_ble_eq_true h4
theorem hist_of {st:Nat→S} {s:S} (hs:statGo (PP ops) ops 0 ops.toList=true) (h:Run E Ψ ops (PP ops) ops.toList 0 [] s st):Hist E Ψ ops st where
 stat i o ho:=by have:=statGo_spec rfl hs i o ho;rwa [Nat.zero_add] at this
 step i o ho:=by have:=h.step i o ho;rwa [Nat.zero_add] at this
 apart i j o o' hi hj hne hg hg':=by
  obtain ⟨as',hc,_,hr⟩:=h.recs
  have h1:=hr i o hi (by rwa [Nat.zero_add])
  have h2:=hr j o' hj (by rwa [Nat.zero_add])
  simp only [Nat.zero_add] at h1 h2
  have:=List.all_eq_true.1 (List.all_eq_true.1 hc _ h1) _ h2
  simp only [Bool.or_eq_true,Bool.and_eq_true] at this
  rcases this with h | h | h | ⟨h3,h5,h6⟩
  ·exact absurd (Nat.eq_of_beq_eq_true h) hne
  ·exact .inl h
  ·exact .inr (.inl h)
  ·refine .inr (.inr ⟨fun hw=>?_,sepOk_spec h5,sepOk_spec h6⟩)
   have hw1:wild (st i) o=true:=hw.1
   have hw2:wild (st j) o'=true:=hw.2
   simp [hw1,hw2] at h3
theorem St.setO_ob (s:S) (d:Option Nat) (v:TVr):(s.setO d v).ob=s.ob:=by cases d <;> rfl
theorem St.setO_self (s:S) {d:Option Nat} {t:Nat} (h:d=some t) (v:TVr):(s.setO d v).sl t=v:=by subst h;exact St.set_sl_self s t v
theorem St.setO_ne (s:S) {d:Option Nat} {t:Nat} (h:d≠some t) (v:TVr):(s.setO d v).sl t=s.sl t:=by
 cases d with
 | none=>rfl
 | some d=>exact St.set_sl_ne _ _ (fun e=>h (by rw [e]))
theorem around_of {s:S} {o:Oper} {cur:S} (hev:∀ x∈opds o.op,∀ t,ev E cur t x=ev E s t x) (hob:∀ id,inT s o id=true→cur.ob id=s.ob id):cur=s.mx ⟨cur.sl,inT s o,cur.ob⟩∧Around E s ⟨cur.sl,inT s o,cur.ob⟩ o:=by
 have hcur:cur=s.mx ⟨cur.sl,inT s o,cur.ob⟩:=by
  cases cur with
  | mk sl ob =>
   unfold St.mx
   congr 1
   funext id
   show ob id=bif inT s o id then s.ob id else ob id
   cases hb:inT s o id with
   | true=>exact hob id hb
   | false=>rfl
 refine ⟨hcur,⟨fun x hx t=>by rw [←hcur];exact hev x hx t,fun hc x hx=>?_,fun hm i h1 h2=>?_,fun hw i hi=>?_⟩⟩
 ·have hin:∀ j∈opdRids s x,∀ i∈reach s j,inT s o i=true:=by
   intro j hj i hi
   have hm:i∈touchL s o:=by
    unfold touchL
    rw [hc]
    exact List.mem_flatMap.2 ⟨x,hx,List.mem_flatMap.2 ⟨j,hj,hi⟩⟩
   show (_ || _ || _)=true
   rw [Bool.or_eq_true,Bool.or_eq_true]
   exact .inl (.inl (List.any_eq_true.2 ⟨i,hm,Nat.beq_refl i⟩))
  refine ⟨fun j hj=>hin j hj j (by simp [reach]),fun j hj ls hls l hl i hi=>hin j hj i ?_⟩
  unfold reach
  rw [hls]
  exact List.mem_cons_of_mem _ (List.mem_flatMap.2 ⟨l,hl,hi⟩)
 ·have hp:inPriv o i=true:=by
   unfold inPriv
   rw [hm]
   simp only [Bool.true_and,Bool.and_eq_true]
   exact ⟨Nat.ble_eq_true_of_le h1,Nat.ble_eq_true_of_le h2⟩
  show (_ || _ || _)=true
  rw [hp]
  simp
 ·show (_ || _ || (wild s o && Nat.ble cellB i))=true
  rw [hw,Nat.ble_eq_true_of_le hi]
  simp
theorem mrg_sl {d:Option Nat} {f:Fr} {s:S} {t:Nat} (ht:d≠some t):(mrg d f s).sl t=f.sl t:=by
 cases d with
 | none=>rfl
 | some e =>
  have hne:t≠e:=fun e'=>ht (by rw [e'])
  show (bif Nat.beq t e then s.sl t else f.sl t)=f.sl t
  cases hb:Nat.beq t e with
  | true=>exact absurd (Nat.eq_of_beq_eq_true hb) hne
  | false=>rfl
theorem mrg_self {d:Option Nat} {f:Fr} {s:S} {t:Nat} (ht:d=some t):(mrg d f s).sl t=s.sl t:=by
 subst ht
 show (bif Nat.beq t t then s.sl t else f.sl t)=s.sl t
 rw [Nat.beq_refl];rfl
theorem step_in {o:Oper} {s s':S} (h:step1 E Ψ o s=some s'):(∀ t,o.dst≠some t→s'.sl t=s.sl t)∧∀ id,inT s o id=false→s'.ob id=s.ob id:=by
 obtain ⟨e1,e2⟩:=around_of (E:=E) (s:=s) (o:=o) (cur:=s) (fun _ _ _=>rfl) (fun _ _=>rfl)
 have:=step_mx (Ψ:=Ψ) e2
 rw [←e1,h] at this
 injection this with this
 refine ⟨fun t ht=>by rw [this];exact mrg_sl ht,fun id hid=>?_⟩
 rw [this]
 show (bif inT s o id then s'.ob id else s.ob id)=s.ob id
 rw [hid];rfl
theorem StepOk.sl {o:Oper} {s s':S} (h:StepOk E Ψ ops o s s') {t:Nat} (ht:o.dst≠some t):s'.sl t=s.sl t:=by
 rcases h with ⟨_,h⟩ | ⟨_,h⟩
 ·exact (step_in h).1 t ht
 ·subst h;exact St.setO_ne s ht _
variable {st:Nat→S} (H:Hist E Ψ ops st)
include H
theorem Hist.fin {j:Nat} {o:Oper} {t:Nat} (ho:ops.toList[j]? = some o) (hd:o.dst=some t):∀ (i:Nat),i≤ops.toList.length→j < i→(st i).sl t=(st (j+1)).sl t:=by
 intro i
 induction i with
 | zero=>intro _ h;exact absurd h (Nat.not_lt_zero _)
 | succ i ih =>
  intro hi hj
  rcases Nat.lt_or_ge j i with hlt | hge
  ·have hil:i < ops.toList.length:=hi
   have hoi:=List.getElem?_eq_getElem hil
   rw [(H.step i _ hoi).sl ((H.stat j o ho).lone t hd i _ hoi (by omega))]
   exact ih (Nat.le_of_lt hil) hlt
  ·have:i=j:=by omega
   rw [this]
theorem Hist.initTo {t:Nat}:∀ (i:Nat),i≤ops.toList.length→(∀ (j:Nat) (o:Oper),j < i→ops.toList[j]? = some o→o.dst≠some t)→(st i).sl t=(st 0).sl t:=by
 intro i
 induction i with
 | zero=>intro _ _;rfl
 | succ i ih =>
  intro hi h
  have hil:i < ops.toList.length:=hi
  have hoi:=List.getElem?_eq_getElem hil
  rw [(H.step i _ hoi).sl (h i _ (Nat.lt_succ_self _) hoi)]
  exact ih (Nat.le_of_lt hil) fun j o hj=>h j o (Nat.lt_succ_of_lt hj)
theorem Hist.init {t:Nat} (h:∀ (j:Nat) (o:Oper),ops.toList[j]? = some o→o.dst≠some t):∀ (i:Nat),i≤ops.toList.length→(st i).sl t=(st 0).sl t:=by
 intro i
 induction i with
 | zero=>intro _;rfl
 | succ i ih =>
  intro hi
  have hil:i < ops.toList.length:=hi
  have hoi:=List.getElem?_eq_getElem hil
  rw [(H.step i _ hoi).sl (h i _ hoi)]
  exact ih (Nat.le_of_lt hil)
omit H in
theorem hist_still (id : Nat) {m : Nat} : ∀ (i : Nat), i ≤ ops.toList.length → m ≤ i → (∀ (j : Nat) (o : Oper), m ≤ j → j < i → ops.toList[j]? = some o → ((st (j + 1)).ob id) = (st j).ob id) → (st i).ob id = (st m).ob id := by
  intro i
  induction i with
  | zero => intro _ h _; have : m = 0 := by omega
            rw [this]
  | succ i ih =>
    intro hi hm hall
    rcases Nat.lt_or_ge i m with hlt | hge
    · have : m = i + 1 := by omega
      rw [this]
    · have hil : i < ops.toList.length := hi
      rw [hall i _ hge (Nat.lt_succ_self _) (List.getElem?_eq_getElem hil)]
      exact ih (Nat.le_of_lt hil) hge (fun j o h1 h2 h3 => hall j o h1 (Nat.lt_succ_of_lt h2) h3)
omit H in
def Up (D:Array Bool) (i:Nat):Prop:=D.getD i false=true
structure At (ops:Array Oper) (st:Nat→S) (D:Array Bool) (cur:S):Prop where
 closed:∀ (i j:Nat) (o:Oper),ops.toList[i]? = some o→Up D i→hasBit (PP ops) i j=true→Up D j
 done:∀ (j:Nat) (o:Oper) (t:Nat),ops.toList[j]? = some o→Up D j→o.dst=some t→cur.sl t=(st ops.toList.length).sl t
 rest:∀ (t:Nat),(∀ (j:Nat) (o:Oper),ops.toList[j]? = some o→Up D j→o.dst≠some t)→cur.sl t=(st 0).sl t
 heap:∀ id,∃ m,m≤ops.toList.length∧(∀ (b:Nat) (o:Oper),ops.toList[b]? = some o→(st (b+1)).ob id≠(st b).ob id→(Up D b↔b < m))∧cur.ob id=(st m).ob id
omit H in
theorem up_set {D:Array Bool} {i j:Nat} (hi:i < D.size):Up (D.setIfInBounds i true) j↔j=i∨Up D j:=by
 unfold Up
 simp only [Array.getD_eq_getD_getElem?,Array.getElem?_setIfInBounds]
 by_cases h:i=j
 ·subst h;simp [hi]
 ·have h' : ¬ j=i:=fun e=>h e.symm
  simp [h,h']
omit H in
theorem priv_apart {d1 d2 i:Nat} (h:d1≠d2) (a1:mkId d1 0 0≤i) (a2:i+1≤mkId d1 0 0+2048) (b1:mkId d2 0 0≤i) (b2:i+1≤mkId d2 0 0+2048):False:=by
 unfold mkId at a1 a2 b1 b2
 omega
theorem Hist.any {D : Array Bool} {cur : S} (hD : D.size = ops.size) (hA : At ops st D cur) {i : Nat} {o : Oper} (ho : ops.toList[i]? = some o) (hn : ¬ Up D i)
    (hr : ∀ e ∈ o.after.toList, Region.binds .any e = true → Up D e.on) : ∃ cur', StepOk E Ψ ops o cur cur' ∧ At ops st (D.setIfInBounds i true) cur' := by
  have hil : i < ops.toList.length := by
    rcases Nat.lt_or_ge i ops.toList.length with h | h
    · exact h
    · rw [List.getElem?_eq_none h] at ho; cases ho
  have hiD : i < D.size := by rw [hD]; simpa using hil
  have hlt := hasBit_lt H.stat
  have S1 := H.stat i o ho
  have pre : ∀ j, hasBit (PP ops) i j = true → Up D j := by
    intro j hj
    obtain ⟨e, h1, h2, h3⟩ := hasBit_why ho hj
    have hu := hr e h1 h2
    rcases h3 with h3 | h3
    · rwa [← h3]
    · have hel : e.on < ops.toList.length := Nat.lt_trans (S1.back e h1 h2) hil
      exact hA.closed e.on j _ (List.getElem?_eq_getElem hel) hu h3
  have reads : ∀ t ∈ readsOf ops o, cur.sl t = (st i).sl t := by
    intro t ht
    by_cases hex : ∃ (j : Nat) (o' : Oper), ops.toList[j]? = some o' ∧ o'.dst = some t
    · obtain ⟨j, o', hj, hd⟩ := hex
      rcases S1.reads t ht j o' hj hd with hb | hb
      case inr =>
        have hij := hlt j i o' hj hb
        have hnj : ¬ Up D j := fun hu => hn (hA.closed j i o' hj hu hb)
        rw [hA.rest t (fun j' o'' hj' hu' hd' => by
          by_cases e : j = j'
          · subst e; exact hnj hu'
          · exact (H.stat j o' hj).lone t hd j' o'' hj' e hd')]
        refine (H.initTo i (Nat.le_of_lt hil) fun j' o'' hlt' hj' hd' => ?_).symm
        exact (H.stat j o' hj).lone t hd j' o'' hj' (by omega) hd'
      have hji := hlt i j o ho hb
      rw [hA.done j o' t hj (pre j hb) hd, H.fin hj hd _ (Nat.le_refl _) (Nat.lt_trans hji hil), ← H.fin hj hd i (Nat.le_of_lt hil) hji]
    · have hno : ∀ (j : Nat) (o' : Oper), ops.toList[j]? = some o' → o'.dst ≠ some t := fun j o' hj hd => hex ⟨j, o', hj, hd⟩
      rw [hA.rest t (fun j o' hj _ => hno j o' hj), H.init hno i (Nat.le_of_lt hil)]
  have hguard : guardB ops o cur = guardB ops o (st i) := by
    unfold guardB
    cases hg : o.guard with
    | none => rfl
    | some gw =>
      obtain ⟨j, want⟩ := gw
      simp only []
      cases ht : (ops[j]?).bind (·.dst) with
      | none => rfl
      | some t =>
        simp only []
        rw [reads t (by unfold readsOf gOf; rw [hg]; simp only []; rw [ht]; simp)]
  have tmpIn : ∀ t, Operand.tmp t ∈ opds o.op → t ∈ readsOf ops o := by
    intro t ht
    unfold readsOf
    refine List.mem_append.2 (.inr (List.mem_filterMap.2 ⟨.tmp t, ht, rfl⟩))
  have hev : ∀ x ∈ opds o.op, ∀ t, ev E cur t x = ev E (st i) t x := by
    intro x hx t
    cases x with
    | tmp j => exact reads j (tmpIn j hx)
    | _ => rfl
  have ordered : ∀ id, inT (st i) o id = true → guardB ops o (st i) = some true → ∀ (b : Nat) (ob : Oper), ops.toList[b]? = some ob → b ≠ i → (st (b + 1)).ob id ≠ (st b).ob id → hasBit (PP ops) i b = true ∨ hasBit (PP ops) b i = true := by
    intro id hid hgi b ob hb hne hmod
    rcases H.step b ob hb with ⟨hgb, h1⟩ | ⟨_, h1⟩
    · rcases H.apart i b o ob ho hb (fun e => hne e.symm) hgi hgb with h | h | ⟨hww, hs1, hs2⟩
      · exact .inl h
      · exact .inr h
      · exfalso
        have hgrow := step_grow (E := E) (Ψ := Ψ) (s := st b) (o := ob) _ h1 id
        have hinb : inT (st b) ob id = true := by
          cases hq : inT (st b) ob id with
          | true => rfl
          | false => exact absurd ((step_in h1).2 id hq) hmod
        unfold inT at hid hinb
        rw [Bool.or_eq_true, Bool.or_eq_true, Bool.and_eq_true] at hid hinb
        have mem : ∀ {s : S} {o : Oper}, (touchL s o).any (Nat.beq id) = true → id ∈ touchL s o := by
          intro s o h
          obtain ⟨x, hx, hx2⟩ := List.any_eq_true.1 h
          rw [Nat.eq_of_beq_eq_true hx2]; exact hx
        have pr : ∀ {o : Oper}, inPriv o id = true → mkId (o.dst.getD 0) 0 0 + 2048 ≤ cellB → id < cellB := by
          intro o h h2
          unfold inPriv at h
          simp only [Bool.and_eq_true] at h
          have := Nat.le_of_ble_eq_true h.2.2
          omega
        rcases hid with (hid | hid) | hid
        · obtain ⟨⟨e1, e2⟩, _⟩ := hs1.1 id (mem hid)
          exact hmod (hgrow.same e1 e2)
        · rcases hinb with (hinb | hinb) | hinb
          · have := (hs2.1 id (mem hinb)).2.1
            rw [hid] at this; cases this
          · unfold inPriv at hid hinb
            simp only [Bool.and_eq_true] at hid hinb
            obtain ⟨m1, a1, a2⟩ := hid
            obtain ⟨m2, b1, b2⟩ := hinb
            have a1 := Nat.le_of_ble_eq_true a1
            have a2 := Nat.le_of_ble_eq_true a2
            have b1 := Nat.le_of_ble_eq_true b1
            have b2 := Nat.le_of_ble_eq_true b2
            cases hd1 : o.dst with
            | none => exact S1.made m1 hd1
            | some d1 =>
              cases hd2 : ob.dst with
              | none => exact (H.stat b ob hb).made m2 hd2
              | some d2 =>
                have hdd : d1 ≠ d2 := fun e => S1.lone d1 hd1 b ob hb (fun e => hne e.symm) (by rw [hd2, e])
                rw [hd1] at a1 a2
                rw [hd2] at b1 b2
                simp only [Option.getD_some] at a1 a2 b1 b2
                exact priv_apart hdd a1 a2 b1 b2
          · have := pr hid hs1.2
            have := Nat.le_of_ble_eq_true hinb.2
            omega
        · have hge := Nat.le_of_ble_eq_true hid.2
          rcases hinb with (hinb | hinb) | hinb
          · have := (hs2.1 id (mem hinb)).2.2 hid.1
            omega
          · have := pr hinb hs2.2
            omega
          · exact hww ⟨hid.1, hinb.1⟩
    · exact absurd (by rw [h1, St.setO_ob]) hmod
  have obT : guardB ops o (st i) = some true → ∀ id, inT (st i) o id = true → cur.ob id = (st i).ob id := by
    intro hgi id hid
    obtain ⟨m, hm, hmB, hob⟩ := hA.heap id
    rw [hob]
    have key : ∀ (b : Nat) (ob : Oper), ops.toList[b]? = some ob → b ≠ i → (st (b + 1)).ob id ≠ (st b).ob id → (Up D b ↔ b < i) := by
      intro b ob hb hne hmod
      rcases ordered id hid hgi b ob hb hne hmod with h | h
      · have := hlt i b o ho h
        exact ⟨fun _ => this, fun _ => pre b h⟩
      · have hib := hlt b i ob hb h
        exact ⟨fun hu => absurd (hA.closed b i ob hb hu h) hn, fun h' => by omega⟩
    rcases Nat.lt_or_ge i m with him | hmi
    · refine hist_still (ops := ops) (st := st) id m hm (Nat.le_of_lt him) fun j oj h1 h2 hj => ?_
      refine Classical.byContradiction fun hmod => ?_
      have hu := (hmB j oj hj hmod).2 h2
      by_cases e : j = i
      · subst e; exact hn hu
      · have := (key j oj hj e hmod).1 hu; omega
    · refine (hist_still (ops := ops) (st := st) id i (Nat.le_of_lt hil) hmi fun j oj h1 h2 hj => ?_).symm
      refine Classical.byContradiction fun hmod => ?_
      have hu := (key j oj hj (by omega) hmod).2 h2
      have := (hmB j oj hj hmod).1 hu
      omega
  have fin : ∀ cur' : S, (∀ t, o.dst = some t → cur'.sl t = (st (i + 1)).sl t) → (∀ t, o.dst ≠ some t → cur'.sl t = cur.sl t) → (∀ id, (cur'.ob id = (st (i + 1)).ob id ∧ cur.ob id = (st i).ob id ∧ guardB ops o (st i) = some true ∧ inT (st i) o id = true) ∨ (cur'.ob id = cur.ob id ∧ (st (i + 1)).ob id = (st i).ob id)) → At ops st (D.setIfInBounds i true) cur' := by
    intro cur' h1 h2 h3
    refine ⟨fun a b oa hoa hua hb => ?_, fun j oj t hj hu hd => ?_, fun t ht => ?_, fun id => ?_⟩
    · rw [up_set hiD] at hua ⊢
      rcases hua with e | hua
      · subst e
        rw [hoa] at ho; injection ho with ho; subst ho
        exact .inr (pre b hb)
      · exact .inr (hA.closed a b oa hoa hua hb)
    · rw [up_set hiD] at hu
      by_cases e : j = i
      · subst e
        rw [hj] at ho; injection ho with ho; subst ho
        rw [h1 t hd, H.fin hj hd _ (Nat.le_refl _) hil]
      · have hu : Up D j := hu.resolve_left e
        rw [h2 t (fun hd' => (H.stat j oj hj).lone t hd i o ho e hd')]
        exact hA.done j oj t hj hu hd
    · rw [h2 t (ht i o ho ((up_set hiD).2 (.inl rfl)))]
      exact hA.rest t fun j oj hj hu => ht j oj hj ((up_set hiD).2 (.inr hu))
    · rcases h3 id with ⟨h3, h4, hgi, hid⟩ | ⟨h3, h4⟩
      · refine ⟨i + 1, hil, fun b ob hb hmod => ?_, h3⟩
        rw [up_set hiD]
        by_cases e : b = i
        · subst e; exact ⟨fun _ => Nat.lt_succ_self _, fun _ => .inl rfl⟩
        · rcases ordered id hid hgi b ob hb e hmod with h | h
          · have := hlt i b o ho h
            exact ⟨fun _ => by omega, fun _ => .inr (pre b h)⟩
          · have hib := hlt b i ob hb h
            exact ⟨fun hu => absurd (hA.closed b i ob hb (hu.resolve_left e) h) hn, fun h' => by omega⟩
      · obtain ⟨m, hm, hmB, hob⟩ := hA.heap id
        refine ⟨m, hm, fun b ob hb hmod => ?_, h3.trans hob⟩
        rw [up_set hiD, ← hmB b ob hb hmod]
        refine ⟨fun h => h.resolve_left fun e => ?_, .inr⟩
        subst e
        exact hmod h4
  rcases H.step i o ho with ⟨hg, hst⟩ | ⟨hg, hst⟩
  · obtain ⟨e1, e2⟩ := around_of (E := E) (s := st i) (o := o) (cur := cur) hev (obT hg)
    have hon := step_mx (Ψ := Ψ) e2
    rw [← e1, hst] at hon
    refine ⟨mrg o.dst ⟨cur.sl, inT (st i) o, cur.ob⟩ (st (i + 1)), .inl ⟨by rw [hguard]; exact hg, hon⟩, fin _ (fun t ht => mrg_self ht) (fun t ht => mrg_sl ht) (fun id => ?_)⟩
    cases hid : inT (st i) o id with
    | true =>
      refine .inl ⟨?_, obT hg id hid, hg, rfl⟩
      show (bif inT (st i) o id then (st (i + 1)).ob id else cur.ob id) = _
      rw [hid]; rfl
    | false =>
      refine .inr ⟨?_, (step_in hst).2 id hid⟩
      show (bif inT (st i) o id then (st (i + 1)).ob id else cur.ob id) = _
      rw [hid]; rfl
  · refine ⟨cur.setO o.dst (.one .undef), .inr ⟨by rw [hguard]; exact hg, rfl⟩, fin _ (fun t ht => ?_) (fun t ht => St.setO_ne _ ht _) (fun id => .inr ⟨by rw [St.setO_ob], by rw [hst, St.setO_ob]⟩)⟩
    rw [hst, St.setO_self _ ht, St.setO_self _ ht]
theorem Hist.all {D:Array Bool} {cur:S} (hA:At ops st D cur) (hD:∀ (i:Nat),i < ops.toList.length→Up D i):cur=st ops.toList.length:=by
 have h1:cur.sl=(st ops.toList.length).sl:=by
  funext t
  by_cases hex:∃ (j:Nat) (o':Oper),ops.toList[j]? = some o'∧o'.dst=some t
  ·obtain ⟨j,o',hj,hd⟩:=hex
   refine hA.done j o' t hj (hD j ?_) hd
   rcases Nat.lt_or_ge j ops.toList.length with h | h
   ·exact h
   ·rw [List.getElem?_eq_none h] at hj;cases hj
  ·have hno:∀ (j:Nat) (o':Oper),ops.toList[j]? = some o'→o'.dst≠some t:=fun j o' hj hd=>hex ⟨j,o',hj,hd⟩
   rw [hA.rest t (fun j o' hj _=>hno j o' hj),H.init hno _ (Nat.le_refl _)]
 have h2:cur.ob=(st ops.toList.length).ob:=by
  funext id
  obtain ⟨m,hm,hmB,hob⟩:=hA.heap id
  rw [hob]
  refine (hist_still (ops:=ops) (st:=st) id _ (Nat.le_refl _) hm fun j oj h1 h2 hj=>?_).symm
  refine Classical.byContradiction fun hmod=>?_
  have:=(hmB j oj hj hmod).1 (hD j h2)
  omega
 cases cur
 cases hst:st ops.toList.length
 rw [hst] at h1 h2
 simp only [] at h1 h2
 rw [h1,h2]
end
end Go.R
namespace Go.R
theorem count_set:∀ (l:List Bool) (i:Nat),l[i]? = some false→(l.set i true).countP (fun b=>!b)+1=l.countP (fun b=>!b)
 | [],i,h=>by simp at h
 | b::l,0,h=>by simp at h;subst h;simp
 | b::l,i+1,h=>by
  have:=count_set l i (by simpa using h)
  simp only [List.set_cons_succ,List.countP_cons]
  omega
theorem count_zero {l:List Bool} (h:l.countP (fun b=>!b)=0) (i:Nat) (hi:i < l.length):l[i]? = some true:=by
 rw [List.countP_eq_zero] at h
 have:=h _ (List.getElem_mem hi)
 rw [List.getElem?_eq_getElem hi]
 simpa using this
section
variable {R:Type} {P:Program} {E:Env} {Ψ:FKey→Option FnR} {ops:Array Oper} {st:Nat→S}
theorem up_of_list {D:Array Bool} {i:Nat}:Up D i↔D.toList[i]? = some true:=by
 unfold Up
 rw [Array.getD_eq_getD_getElem?,Array.getElem?_toList]
 cases D[i]? with
 | none=>simp
 | some b=>simp
theorem Rel.drawn {ω:Own} {a:Act} {w w':World} {s:S} (h:Rel ω a w s) (hw:w'.heap=w.heap) (he:Ext ω w ω w'):Rel ω a w' s where
 inj:=h.inj
 dom b k hb:=by rw [hw];exact h.dom b k hb
 defers:=h.defers
 own0:=h.own0
 slots i:=RTV.frame he (fun id=>Same.tr ⟨rfl,fun b k _ _ _=>⟨by rw [hw],rfl⟩⟩ he h.dom) (h.slots i)
 blks id cells hc:=by
  obtain ⟨b,arr,T,h1,h2,h3⟩:=h.blks id cells hc
  exact ⟨b,arr,T,h1,by rw [hw];exact h2,h3.mono fun _ _ hl=>RLf.frame he (fun id=>Same.tr ⟨rfl,fun b k _ _ _=>⟨by rw [hw],rfl⟩⟩ he h.dom) hl⟩
theorem wpAny_ok (hE : EnvOk P E) (hC : StepCall P E Ψ) {U : Nat → Prop} (H : Hist E Ψ ops st) (hdst : ∀ (i : Nat) (o : Oper), ops.toList[i]? = some o → okDst E o.dst = true) (hU : ∀ o ∈ ops.toList, ∀ j, U j → o.dst ≠ some j) :
    ∀ (fuel : Nat) (D : Array Bool) (ω : Own) (a : Act) (w : World) (cur : S) (Qn : Exit → Act → World → Prop), D.size = ops.size → D.toList.countP (fun b => !b) = fuel → At ops st D cur → a.tmps.size = E.nt → Rel ω a w cur →
    (∀ ω' a' w', Rel ω' a' w' (st ops.toList.length) → Ext ω w ω' w' → a'.tmps.size = a.tmps.size → (∀ j, U j → a'.tmps.getD j undef = a.tmps.getD j undef) → Qn .normal a' w') → wpAny P .any ops Qn fuel D a w
  | fuel, D, ω, a, w, cur, Qn, hD, hc, hA, hn, hR, hQ => by
    have hlen : ops.toList.length = D.toList.length := by simp [hD]
    have fin : Region.ready .any ops D = [] → Qn .normal a w := by
      intro hr
      have hall : ∀ (i : Nat), i < ops.toList.length → Up D i := by
        intro i
        induction i using Nat.strongRecOn with
        | ind i ih =>
          intro hi
          cases hu : D.getD i false with
          | true => exact hu
          | false =>
            exfalso
            have hoi := List.getElem?_eq_getElem hi
            have hmem : i ∈ Region.ready .any ops D := by
              refine mem_ready.2 ⟨?_, ops.toList[i], by simp, fun e he hb => ?_⟩
              · have hiD : i < D.size := by rw [hD]; simpa using hi
                rw [Array.getD_eq_getD_getElem?] at hu ⊢
                rw [Array.getElem?_eq_getElem hiD] at hu ⊢
                simpa using hu
              · have hlt := (H.stat i _ hoi).back e (by simpa using he) hb
                exact ih e.on hlt (Nat.lt_trans hlt hi)
            rw [hr] at hmem
            cases hmem
      rw [H.all hA hall] at hR
      exact hQ ω a w hR (Ext.refl _ _) rfl (fun _ _ => rfl)
    cases fuel with
    | zero =>
      have hr : Region.ready .any ops D = [] := by
        cases hr : Region.ready .any ops D with
        | nil => rfl
        | cons i l =>
          exfalso
          have hmem : i ∈ Region.ready .any ops D := by rw [hr]; simp
          obtain ⟨hju, o, ho, _⟩ := mem_ready.1 hmem
          have hio : i < D.toList.length := by
            rw [← hlen]
            rcases Nat.lt_or_ge i ops.size with h | h
            · simpa using h
            · rw [Array.getElem?_eq_none h] at ho; cases ho
          have := count_zero hc i hio
          rw [Array.getD_eq_getD_getElem?, ← Array.getElem?_toList, this] at hju
          cases hju
      exact ⟨hr, fin hr⟩
    | succ fuel =>
      refine ⟨fin, fun i hi => ?_⟩
      obtain ⟨hju, o, ho', hall⟩ := mem_ready.1 hi
      have ho : ops.toList[i]? = some o := by rw [Array.getElem?_toList]; exact ho'
      have hil : i < ops.size := by
        rcases Nat.lt_or_ge i ops.size with h | h
        · exact h
        · rw [Array.getElem?_eq_none h] at ho'; cases ho'
      have hiD : i < D.size := by rw [hD]; exact hil
      have hfalse : D.toList[i]? = some false := by
        rw [Array.getElem?_toList, Array.getElem?_eq_getElem hiD]
        rw [Array.getD_eq_getD_getElem?, Array.getElem?_eq_getElem hiD] at hju
        simpa using hju
      have hnu : ¬ Up D i := by rw [up_of_list, hfalse]; simp
      obtain ⟨cur', hst, hA'⟩ := H.any hD hA ho hnu (fun e he hb => hall e (by simpa using he) hb)
      have hc' : (D.setIfInBounds i true).toList.countP (fun b => !b) = fuel := by
        rw [Array.toList_setIfInBounds]
        have := count_set _ i hfalse
        omega
      have hd : ∀ d, o.dst = some d → d < a.tmps.size := by
        intro d e
        have := hdst i o ho
        rw [e] at this
        have h1 : d + 1 ≤ E.nt := Nat.le_of_ble_eq_true this
        rw [hn]; exact h1
      have hUo := hU o (List.mem_of_getElem? ho)
      have yes : step1 E Ψ o cur = some cur' → o.wp P a w (wpAny P .any ops Qn fuel (D.setIfInBounds i true)) Qn := by
        intro h1
        refine Oper.wp_mono (fun a' w' hends => ?_) (step_any (R := S) (k := some) hE hC hR hd h1)
        obtain ⟨ω', s', g1, g2, g3, g4, g5⟩ := hends
        injection g3 with g3
        subst g3
        refine wpAny_ok hE hC H hdst hU fuel _ ω' a' w' s' Qn (by simpa using hD) hc' hA' (g4.trans hn) g1 (fun ω2 a2 w2 q1 q2 q4 q5 => ?_)
        exact hQ ω2 a2 w2 q1 (g2.trans q2) (q4.trans g4) (fun j hj => (q5 j hj).trans (g5 j (hUo j hj)))
      have no : cur' = cur.setO o.dst (.one .undef) → wpAny P .any ops Qn fuel (D.setIfInBounds i true) (a.put o.dst undef) w := by
        intro h1
        have hR1 : Rel ω (a.put o.dst undef) w cur' := by rw [h1]; exact hR.setO hd (t := .one .undef) rfl
        refine wpAny_ok hE hC H hdst hU fuel _ ω _ w cur' Qn (by simpa using hD) hc' hA' ((put_size _ _ _).trans hn) hR1 (fun ω2 a2 w2 q1 q2 q4 q5 => ?_)
        exact hQ ω2 a2 w2 q1 q2 (q4.trans (put_size _ _ _)) (fun j hj => (q5 j hj).trans (put_other _ _ _ (hUo j hj)))
      unfold wpOp
      rw [ho']
      simp only []
      have hw : ∀ b, guardB ops o cur = some b → Region.wanted o (yielded ops a.tmps) = b := by
        intro b hg
        unfold guardB at hg
        cases hgd : o.guard with
        | none => rw [hgd] at hg; injection hg with hg; subst hg; simp [Region.wanted, hgd]
        | some gw =>
          obtain ⟨j, want⟩ := gw
          rw [hgd] at hg
          simp only [] at hg
          cases ht : (ops[j]?).bind (·.dst) with
          | none => rw [ht] at hg; cases hg
          | some t =>
            rw [ht] at hg
            simp only [] at hg
            have hsl := hR.slots t
            cases hs : cur.sl t with
            | one l =>
              rw [hs] at hg hsl
              cases l with
              | val tt b0 =>
                cases tt with
                | bool =>
                  injection hg with hg
                  have hv : a.tmps.getD t undef = .bool b0 := hsl
                  have hy := yielded_bool (ops := ops) ht hv
                  have hw : Region.wanted o (yielded ops a.tmps) = (some (show Bool from b0) == some want) := by simp [Region.wanted, hgd, hy]
                  rw [hw, ← hg]
                  rcases (show ∃ c : Bool, c = b0 from ⟨b0, rfl⟩) with ⟨c, rfl⟩
                  cases c <;> cases want <;> rfl
                | _ => cases hg
              | undef =>
                injection hg with hg
                have hv : a.tmps.getD t undef = undef := hsl
                have hy := yielded_undef (ops := ops) ht hv
                subst hg
                simp [Region.wanted, hgd, hy]
              | _ => cases hg
            | _ => rw [hs] at hg; cases hg
      rcases hst with ⟨hg, h1⟩ | ⟨hg, h1⟩
      · rw [if_pos (hw true hg)]
        exact .inl (yes h1)
      · rw [if_neg (by rw [hw false hg]; decide)]
        exact no h1
theorem regionD_ok (hm:P.follows .mixedOrders=true) (hE:EnvOk P E) (hC:StepCall P E Ψ) {U:Nat→Prop} {id:Nat} {ω:Own} {a:Act} {w:World} {s:S} {k:S→Option R} {r:R} {Qn:Exit→Act→World→Prop} (hU:∀ o∈ops.toList,∀ j,U j→o.dst≠some j) (hn:a.tmps.size=E.nt) (h:Rel ω a w s)
  (hk:regionD E (realC R) (tab Ψ R) ops s k=some r)
  (hQ:∀ ω' a' w' s',Rel ω' a' w' s'→Ext ω w ω' w'→k s'=some r→a'.tmps.size=a.tmps.size→(∀ j,U j→a'.tmps.getD j undef=a.tmps.getD j undef)→Qn .normal a' w'):(Code.region id ops true).wp P Qn a w:=by
 unfold regionD at hk
 cases hs:statGo (presL ops.toList []) ops 0 ops.toList with
 | false=>rw [hs] at hk;cases hk
 | true =>
  rw [hs] at hk
  simp only [cond_true] at hk
  obtain ⟨st,hr,hks⟩:=drawC_run _ _ _ _ _ hk
  have H:=hist_of hs hr
  rw [Nat.zero_add] at hks
  have he:Ext ω w ω { w with drawn:=w.drawn+1 }:=⟨rfl,rfl,rfl,Nat.le_refl _,fun _ _ _=>⟨rfl,rfl⟩⟩
  refine wp_region_any hm ?_
  have hsz:(Array.replicate ops.size false).toList.countP (fun b=>!b)=ops.size:=by simp [List.countP_replicate]
  refine wpAny_ok hE hC (U:=U) H (fun i o ho=>hr.dst i o ho) hU ops.size _ ω a _ s Qn (by simp) hsz ?_ hn (h.drawn rfl he) (fun ω' a' w' q1 q2 q3 q4=>hQ ω' a' w' _ q1 (he.trans q2) hks q3 q4)
  have hno:∀ i,¬ Up (Array.replicate ops.size false) i:=by
   intro i hi
   rw [up_of_list] at hi
   simp [List.getElem?_replicate] at hi
  exact ⟨fun i j o _ hi=>absurd hi (hno i),fun j o t _ hj=>absurd hj (hno j),fun t _=>by rw [hr.first],fun id=>⟨0,Nat.zero_le _,fun b o _ _=>⟨fun hb=>absurd hb (hno b),fun hb=>absurd hb (Nat.not_lt_zero _)⟩,by rw [hr.first]⟩⟩
end
end Go.R
