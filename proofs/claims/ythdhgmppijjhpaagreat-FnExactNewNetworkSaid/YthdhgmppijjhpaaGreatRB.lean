import Derived.Test.YthdhgmppijjhpaaGreatRA
/- An abstract interpreter over the code of Go functions, proved sound once: what it answers, the code computes. Conditions: none. -/
set_option autoImplicit false
set_option linter.unusedVariables false
set_option linter.unusedSimpArgs false
set_option maxRecDepth 4000
namespace Go.R
section
variable {R:Type} {P:Program} {E:Env} {ω:Own} {a:Act} {w:World} {s:S} {k:S→Option R} {r:R} {o:Oper} {Q:Exit→Act→World→Prop}
theorem arr_ends {w1:World} {ω1:Own} {s1:S} {e:Nat} {cs:Tys} {dp:Bool} {z:List cs.T} {id:Nat} {v:Value} (h:Rel ω1 a w1 (s1.new id (.arr e cs dp z))) (he:Ext ω w ω1 w1) (hd:∀ d,o.dst=some d→d < a.tmps.size)
  (hv:(Ty.sl e cs).R w1 ω1 (modeOf (bif dp then 2 else 1) id []) v z) (hk:k ((s1.new id (.arr e cs dp z)).setO o.dst (.one (.ref id ((s1.new id (.arr e cs dp z)).ob id).g 0 [])))=some r) :
  Ends ω a w o.dst k r (a.put o.dst v) w1:=by
 refine ends_put' h he hd (t:=.one (.ref id ((s1.new id (.arr e cs dp z)).ob id).g 0 [])) ⟨Nat.le_refl _,by simp,fun c' hc'=>?_⟩ hk
 have ho:((s1.new id (.arr e cs dp z)).ob id).o=.arr e cs dp z:=by unfold St.new;rw [St.upd_ob_self]
 rw [cont_arr ho rfl] at hc'
 injection hc' with hc'
 subst hc'
 exact hv
inductive AppX (ω:Own) (w:World) (s1:S) (e:Nat) (cs:Tys) (x:List cs.T) (v:Value):Prop where
 | none (ad:Option Addr) (hv:v=.slice ad 0 0) (hx:x=[])
 | some (b id c:Nat) (h0:id≠0) (arr:Array Value) (hv:v=.slice (some ⟨b,0,none⟩) x.length c) (hn:x.length≤c) (hh:w.heap[b]? = some (.cells arr e (0,0))) (hsz:arr.size=c*cs.len) (hb:ω b=some (id,[])) (ho:(s1.ob id).o=.gone)
   (hel:∀ (i:Nat),i < x.length→cs.R w ω (fun _=>.imm) (fun j=>arr[i*cs.len+j]?) 0 (x.getD i (zTs cs)))
theorem mode_plain {ω':Own} {w':World} {dp:Bool} {id:Nat} {cs:Tys} {g:Nat→Option Value} {i:Nat} {x:cs.T} (hdp:dp=true→cs.plain=true) (h:cs.R w' ω' (fun _=>.imm) g 0 x) :
  cs.R w' ω' ((modeOf (bif dp then 2 else 1) id []).inner i) g 0 x:=by
 cases dp with
 | false=>exact h
 | true=>exact Tys.R_plain cs _ _ _ 0 _ (hdp rfl) h
theorem hd_own {ω':Own} {w':World} {dp:Bool} {id e m b n c:Nat} {arr:Array Value} (hh:w'.heap[b]? = some (.cells arr e (0,0))) (hs:arr.size=c*m) (hb:ω' b=some (id,[])) :
  Hd w' ω' e m (modeOf (bif dp then 2 else 1) id []) (some ⟨b,0,none⟩) n c:=by
 cases dp <;> exact .inr ⟨b,arr,rfl,hh,hs,hb⟩
theorem hd_none {ω':Own} {w':World} {dp:Bool} {id e m:Nat} {ad:Option Addr}:Hd w' ω' e m (modeOf (bif dp then 2 else 1) id []) ad 0 0:=by
 cases dp <;> exact .inl ⟨rfl,rfl⟩
theorem getD_app {α:Type} (xs ys:List α) (i:Nat) (z:α):(xs++ys).getD i z=if i < xs.length then xs.getD i z else ys.getD (i - xs.length) z:=by
 rw [List.getD_eq_getElem?_getD]
 split
 ·rename_i h
  rw [List.getElem?_append_left h,←List.getD_eq_getElem?_getD]
 ·rename_i h
  rw [List.getElem?_append_right (by omega),←List.getD_eq_getElem?_getD]
theorem app_len {α:Type} (xs ys:List α):(xs++ys).length=xs.length+ys.length:=List.length_append
theorem row_lt {i n m j c:Nat} (hi:i < n) (hj:j < m) (hc:n≤c):i*m+j < c*m:=by
 have h1:(i+1)*m≤c*m:=Nat.mul_le_mul_right _ (by omega)
 rw [Nat.succ_mul] at h1
 omega
theorem app_rows {ω':Own} {w':World} {cs:Tys} {xs ys:List cs.T} {olds news:List Value} {row:Nat→Option Value} (hol:olds.length=xs.length*cs.len) (hnl:news.length=ys.length*cs.len)
  (ho:∀ i,i < xs.length→cs.R w' ω' (fun _=>.imm) (fun j=>olds[i*cs.len+j]?) 0 (xs.getD i (zTs cs)))
  (hn:∀ i,i < ys.length→cs.R w' ω' (fun _=>.imm) (fun j=>news[i*cs.len+j]?) 0 (ys.getD i (zTs cs)))
  (hr:∀ j,j < (xs.length+ys.length)*cs.len→row j=(olds++news)[j]?) :
  ∀ i,i < (xs++ys).length→cs.R w' ω' (fun _=>.imm) (fun j=>row (i*cs.len+j)) 0 ((xs++ys).getD i (zTs cs)):=by
 intro i hi
 rw [app_len] at hi
 rw [getD_app]
 split
 ·rename_i hlt
  refine Tys.R_get cs _ _ _ 0 _ (fun j hj=>?_) (ho i hlt)
  rw [Nat.zero_add,hr _ (row_lt hi hj (Nat.le_refl _)),List.getElem?_append_left (by rw [hol];exact row_lt hlt hj (Nat.le_refl _))]
 ·rename_i hge
  refine Tys.R_get cs _ _ _ 0 _ (fun j hj=>?_) (hn (i - xs.length) (by omega))
  rw [Nat.zero_add,hr _ (row_lt hi hj (Nat.le_refl _))]
  have e:i*cs.len=xs.length*cs.len+(i - xs.length)*cs.len:=by rw [←Nat.add_mul];congr 1;omega
  rw [List.getElem?_append_right (by rw [hol];omega),hol]
  congr 1
  omega
theorem append_core {s1:S} (h:Rel ω a w s1) (hd:∀ d,o.dst=some d→d < a.tmps.size) {t t' e:Nat} {cs:Tys} {xs ys:List cs.T} {vx vy:Value} {dp:Bool} {id':Nat} (h0':id'≠0) {I:TypeInfo} {z:Value}
  (hu:P.underlying t=some (.slice e)) (hie:P.info? e=some I) (hz:I.zero=some z) (hsz:I.size=cs.len) (hzs:z.cells.size=cs.len) (hby:I.bytes≤65536)
  (hx:AppX ω w s1 e cs xs vx) {news:List Value} (hsrc:Src P I.size t' vy ys.length news w) (hnews:∀ i,i < ys.length→cs.R w ω (fun _=>.imm) (fun j=>news[i*cs.len+j]?) 0 (ys.getD i (zTs cs)))
  (hsm:((xs++ys).length:Int)≤1073741824) (hdp:dp=true→cs.plain=true) (ty:Nat)
  (hk:k ((s1.new id' (.arr e cs dp (xs++ys))).setO o.dst (.one (.ref id' ((s1.new id' (.arr e cs dp (xs++ys))).ob id').g 0 [])))=some r) :
  ∃ v w',(Builtin.append_ #[t,t'] ty #[vx,vy]).run P w=.ok v w'∧Ends ω a w o.dst k r (a.put o.dst v) w':=by
 rw [app_len] at hsm
 have hnl:news.length=ys.length*cs.len:=by rw [hsrc.newsLen,hsz]
 have grow:∀ (base:Option Addr) (c:Nat) (olds:List Value),vx=.slice base xs.length c→c < xs.length+ys.length→olds.length=xs.length*cs.len →
   (Builtin.firstCells I.size xs.length (.slice base xs.length c)).run P w.drew=.ok olds.toArray w.drew →
   (∀ i,i < xs.length→cs.R w ω (fun _=>.imm) (fun j=>olds[i*cs.len+j]?) 0 (xs.getD i (zTs cs))) →
   ∃ v w',(Builtin.append_ #[t,t'] ty #[vx,vy]).run P w=.ok v w'∧Ends ω a w o.dst k r (a.put o.dst v) w':=by
  intro base c olds hv hc hol hfc hel
  have hfit:Builtin.nextslicecap (xs.length+ys.length) c*I.bytes≤281474976710656:=by
   refine growslice_fits hc ?_
   have h1:(xs.length+ys.length)*I.bytes≤(xs.length+ys.length)*65536:=Nat.mul_le_mul_left _ hby
   have h2:xs.length+ys.length≤1073741824:=by omega
   omega
  have hrun:=run_append_grow_src (P:=P) w t t' ty e I z hu hie hz base xs.length c olds hfc vy ys.length news hsrc hc (by omega) hfit
  rw [←hv] at hrun
  refine ⟨_,_,hrun,?_⟩
  have hge:=grownCap_ge w (xs.length+ys.length) c e
  have hG:Grow w w.drew:=Grow.drew w
  have hw1:=h.world (w':=w.drew) (hG.ext ω) hG.block
  have hasz:((olds++news).toArray++Builtin.zeroCells z.cells (grownCap w (xs.length+ys.length) c e - (xs.length+ys.length))).size=grownCap w (xs.length+ys.length) c e*cs.len:=by
   have h1:(Builtin.zeroCells z.cells (grownCap w (xs.length+ys.length) c e - (xs.length+ys.length))).size=(grownCap w (xs.length+ys.length) c e - (xs.length+ys.length))*cs.len:=by simp [Builtin.zeroCells,hzs]
   rw [Array.size_append,h1,List.size_toArray,List.length_append,hol,hnl,←Nat.add_mul,←Nat.add_mul]
   congr 1
   omega
  have hfin:=new_arr (k:=k) (r:=r) (ω:=ω) (w:=w) (w1:=w.drew) (ω1:=ω) (s1:=s1) (e:=e) (cs:=cs) (dp:=dp) (x:=xs++ys) (id:=id') (c:=grownCap w (xs.length+ys.length) c e) hw1 (hG.ext ω) hd h0' (by rw [app_len];exact hge) hasz (fun i hi=>?_) hk
  ·rw [app_len] at hfin
   exact hfin
  ·refine mode_plain hdp ?_
   have hfr:∀ (g:Nat→Option Value) (x:cs.T),cs.R w ω (fun _=>.imm) g 0 x→cs.R (w.drew.alloc (.cells ((olds++news).toArray++Builtin.zeroCells z.cells (grownCap w (xs.length+ys.length) c e - (xs.length+ys.length))) e)) (ω.fresh id' w.drew.heap.size) (fun _=>.imm) g 0 x:=by
    intro g x hg
    have hG2:=hG.trans (Grow.alloc w.drew (.cells ((olds++news).toArray++Builtin.zeroCells z.cells (grownCap w (xs.length+ys.length) c e - (xs.length+ys.length))) e))
    exact Tys.R_frame hG2.size cs _ _ _ 0 _ (fun _=>(fresh_ext (id:=id') h0' hG2 (Nat.le_refl _)).keeps) (fun _=>rfl) hg
   refine app_rows (row:=fun j=>((olds++news).toArray++Builtin.zeroCells z.cells (grownCap w (xs.length+ys.length) c e - (xs.length+ys.length)))[j]?) hol hnl (fun i hi=>hfr _ _ (hel i hi)) (fun i hi=>hfr _ _ (hnews i hi)) (fun j hj=>?_) i hi
   have hlt:j < (olds++news).toArray.size:=by rw [List.size_toArray,List.length_append,hol,hnl,←Nat.add_mul];exact hj
   show _=_
   rw [Array.getElem?_append_left hlt,List.getElem?_toArray]
 cases hx with
 | none ad hv hx0 =>
  subst hx0
  by_cases h0:ys.length=0
  ·have hys:ys=[]:=List.length_eq_zero_iff.1 h0
   subst hys
   have hn0:news=[]:=List.length_eq_zero_iff.1 (by rw [hnl];simp)
   subst hn0
   refine ⟨.slice ad 0 0,w,?_,?_⟩
   ·subst hv
    have hlen:∀ w':World,(Builtin.lenOf vy).run P w'=.ok 0 w':=hsrc.len
    have hcl:=hsrc.cells
    have hcl0:(Builtin.firstCells I.size 0 vy).run P w=.ok #[] w:=hcl
    rcases hsrc.kind with ⟨e',hk'⟩ | hk'
    ·cases ad <;> simp [Builtin.append_,run_underlying hu,run_underlying hk',sizeOf,typeInfo,hie,hlen,hcl0,storeCells]
    ·cases ad <;> simp [Builtin.append_,run_underlying hu,run_underlying hk',sizeOf,typeInfo,hie,hlen,hcl0,storeCells]
   ·have hR:=h.bare (id':=id') h0' (.arr e cs dp (([]:List cs.T)++[])) (fun _ e=>by cases e)
    exact arr_ends hR (freeze_ext _ _ _ h0') hd ⟨ad,0,0,rfl,rfl,Nat.le_refl _,hd_none,fun i _ hi=>absurd hi (by omega)⟩ hk
  ·refine grow ad 0 [] hv (by simp;omega) (by simp) ?_ (fun i hi=>absurd hi (by simp))
   cases ad with
   | none=>rfl
   | some A=>exact run_firstCells_some w.drew I.size 0 A 0 0 [] (by simp) (by simp)
 | some b id c h0 arr hv hn hh hasz hb ho hel =>
  have hal:arr.toList.length=c*cs.len:=(Array.length_toList (xs:=arr)).trans hasz
  have hmin:min (xs.length*cs.len) (c*cs.len)=xs.length*cs.len:=Nat.min_eq_left (Nat.mul_le_mul_right _ hn)
  by_cases hroom:xs.length+ys.length≤c
  ·subst hv
   have hcl:∀ j,j < arr.size→w.cell? ⟨b,j,none⟩=arr[j]?:=fun j _=>cell_of_row w b j arr e (0,0) hh
   have hfit:xs.length*cs.len+news.length≤arr.size:=by rw [hnl,hasz,←Nat.add_mul];exact Nat.mul_le_mul_right _ hroom
   have hrun:=run_append_room_src (P:=P) w t t' ty e I hu hie b 0 xs.length c vy ys.length news hsrc hroom
    (fun j hj=>by rw [hsz,Nat.zero_add,hcl _ (by omega)];simp;omega)
    (fun j hj=>by simp [World.frozen?,hh])
   rw [hsz,Nat.zero_add] at hrun
   refine ⟨_,_,hrun,?_⟩
   obtain ⟨arr',g1,g2⟩:=setCells_row' b e (0,0) news (xs.length*cs.len) w arr hh hfit
   have hp:=setCells_put b news (xs.length*cs.len) w
   have hR:=h.moved (id':=id') h0 h0' hb ho hp (.arr e cs dp (xs++ys)) (fun _ e=>by cases e)
   have hext:=move_ext (id':=id') h0 h0' hb hp
   refine arr_ends hR hext hd ?_ hk
   refine ⟨some ⟨b,0,none⟩,xs.length+ys.length,c,rfl,app_len _ _,hroom,hd_own g1 ?_ (Own.fresh_self _ _ _),?_⟩
   ·rw [←Array.length_toList,g2]
    simp only [List.length_append,List.length_take,List.length_drop,Array.length_toList]
    omega
   ·intro i ad hi had
    injection had with had
    subst had
    refine mode_plain hdp ?_
    have hfr:∀ (g:Nat→Option Value) (x:cs.T),cs.R w ω (fun _=>.imm) g 0 x→cs.R (w.setCells b (xs.length*cs.len) news) (ω.fresh id' b) (fun _=>.imm) g 0 x:=by
     intro g x hg
     exact Tys.R_frame hext.size cs _ _ _ 0 _ (fun _=>hext.keeps) (fun _=>rfl) hg
    have hol:(arr.toList.take (xs.length*cs.len)).length=xs.length*cs.len:=by
     rw [List.length_take,hal];exact hmin
    have:=app_rows (row:=fun j=>(w.setCells b (xs.length*cs.len) news).cell? ⟨b,0+j,none⟩) hol hnl (fun i hi=>hfr _ _ (Tys.R_get cs _ _ _ 0 _ (fun j hj=>by
      rw [Nat.zero_add,List.getElem?_take_of_lt (row_lt hi hj (Nat.le_refl _)),Array.getElem?_toList]) (hel i hi))) (fun i hi=>hfr _ _ (hnews i hi)) (fun j hj=>by
      have hlt:j < (arr.toList.take (xs.length*cs.len)++news).length:=by rw [List.length_append,hol,hnl,←Nat.add_mul];exact hj
      show _=_
      rw [Nat.zero_add,cell_of_row _ b j arr' e (0,0) g1,←Array.getElem?_toList,g2,List.getElem?_append_left hlt]) i (by rw [app_len];exact hi)
    refine Tys.R_get cs _ _ _ 0 _ (fun j _=>?_) this
    rw [Nat.zero_add,Nat.zero_add,Nat.zero_add]
  ·refine grow (some ⟨b,0,none⟩) c (arr.toList.take (xs.length*cs.len)) hv (by omega) ?_ ?_ ?_
   ·rw [List.length_take,hal]
    exact hmin
   ·refine run_firstCells_some w.drew I.size xs.length ⟨b,0,none⟩ xs.length c _ ?_ ?_
    ·rw [List.length_take,hal,hsz]
     exact hmin
    ·intro j u hu
     have hj:j < xs.length*cs.len:=by
      have:=(List.getElem?_eq_some_iff.1 hu).1
      rw [List.length_take] at this
      omega
     rw [List.getElem?_take_of_lt hj,Array.getElem?_toList] at hu
     rw [Addr.add_mid,Nat.zero_add,←hu]
     exact cell_of_row w.drew b j arr e (0,0) hh
   ·intro i hi
    exact Tys.R_get cs _ _ _ 0 _ (fun j hj=>by
      rw [Nat.zero_add,List.getElem?_take_of_lt (row_lt hi hj (Nat.le_refl _)),Array.getElem?_toList]) (hel i hi)
end
end Go.R
namespace Go.R
section
variable {R:Type} {P:Program} {E:Env} {ω:Own} {a:Act} {w:World} {s:S} {k:S→Option R} {r:R} {o:Oper} {Q:Exit→Act→World→Prop}
theorem Src_of {P:Program} {size t' e':Nat} {v:Value} {n cp:Nat} {ad:Option Addr} {news:List Value} (hk:P.underlying t'=some (.slice e')) (hv:v=.slice ad n cp) (hl:news.length=n*size) (h1:∀ u∈news,u.oneCell'=true)
  (hc:0 < n→∃ b off,ad=some ⟨b,off,none⟩∧∀ k u,news[k]? = some u→w.cell? ⟨b,off+k,none⟩=some u):Src P size t' v n news w:=by
 by_cases h0:n=0
 ·subst h0
  have:news=[]:=List.length_eq_zero_iff.1 (by simpa using hl)
  subst this
  cases ad with
  | none=>subst hv;exact Src.ofNil w hk cp
  | some A=>subst hv;exact Src.ofSlice w hk A 0 cp [] (by simp) (by simp) (by simp)
 ·obtain ⟨b,off,f1,f2⟩:=hc (by omega)
  subst hv;subst f1
  exact Src.ofSlice w hk ⟨b,off,none⟩ n cp news hl (fun j u hu=>by rw [Addr.add_mid];exact f2 j u hu) h1
theorem appX_own (h:Rel ω a w s) {id g hh:Nat} {c:Cont real} {v:Value} (hc:s.cont id g hh []=some c) (hm:c.md≠0) (hr:RLf w ω s v (.ref id g hh [])) (hok:c.md≠2∨c.cs.plain=true) :
  AppX ω w (s.chg id true .gone) c.e c.cs c.x v:=by
 have hR:=hr.2.2 c hc
 have hinner:∀ (i:Nat) (g:Nat→Option Value) (y:c.cs.T),c.cs.R w ω ((modeOf c.md id []).inner i) g 0 y→c.cs.R w ω (fun _=>.imm) g 0 y:=by
  intro i g y hy
  rcases hok with hok | hok
  ·rcases (md_path hc).2 with h1 | h1 | h1
   ·exact absurd h1 hm
   ·rw [h1] at hy;exact hy
   ·exact absurd h1 hok
  ·exact Tys.R_plain c.cs _ _ _ 0 _ hok hy
 obtain ⟨ad,n,cp,e1,e2,e3,e4,e5⟩:=hR
 have key:Hd w ω c.e c.cs.len (.flat (id,[])) ad n cp:=by
  rcases (md_path hc).2 with h1 | h1 | h1
  ·exact absurd h1 hm
  ·rw [h1] at e4;exact e4
  ·rw [h1] at e4;exact e4
 subst e2
 rcases key with ⟨f1,f2⟩ | ⟨b,arr,f1,f2,f3,f4⟩
 ·refine .none ad ?_ (List.length_eq_zero_iff.1 f2)
  rw [e1,f1]
  congr 1
 ·subst f1
  refine .some b id cp (h.ne0 ?_) arr e1 e3 f2 f3 f4 (by rw [St.chg_self]) (fun i hi=>?_)
  ·intro e
   rcases (cont_spec hc).2 with ⟨dp,f5,_⟩ | ⟨_,_,_,f5,_⟩ | ⟨f5,_⟩ <;> rw [f5] at e <;> cases e
  have:=hinner i _ _ (e5 i _ hi rfl)
  refine Tys.R_get c.cs _ _ _ 0 _ (fun j _=>?_) this
  simp only [Nat.zero_add]
  rw [cell_of_row w b _ arr c.e (0,0) f2]
end
end Go.R
namespace Go.R
section
variable {R:Type} {P:Program} {E:Env} {ω:Own} {a:Act} {w:World} {s:S} {k:S→Option R} {r:R} {o:Oper} {Q:Exit→Act→World→Prop}
theorem sub_length {α:Type} (x:List α) (l h:Nat) (h1:l≤h) (h2:h≤x.length):((x.drop l).take (h - l)).length=h - l:=by
 rw [List.length_take,List.length_drop];omega
theorem sub_getD {α:Type} (x:List α) (l h i:Nat) (z:α) (hi:i < h - l):((x.drop l).take (h - l)).getD i z=x.getD (l+i) z:=by
 rw [List.getD_eq_getElem?_getD,List.getElem?_take_of_lt hi,List.getElem?_drop,←List.getD_eq_getElem?_getD]
theorem slice_imm {e:Nat} {cs:Tys} {x:List cs.T} {ad:Option Addr} {n cp:Nat} (hR:(Ty.sl e cs).R w ω .imm (.slice ad n cp) x) {l h:Nat} (h1:l≤h) (h2:h≤x.length) :
  (Ty.sl e cs).R w ω .imm (sliced ad l h cp cs.len) ((x.drop l).take (h - l)):=by
 obtain ⟨ad',n',cp',e1,e2,e3,e4,e5⟩:=hR
 injection e1 with f1 f2 f3
 subst f1;subst f2;subst f3;subst e2
 refine ⟨_,h - l,cp - l,rfl,sub_length x l h h1 h2,by omega,?_,?_⟩
 ·intro hn
  obtain ⟨b,off,g1,g2,g3⟩:=e4 (by omega)
  subst g1
  rw [if_neg (by omega),Option.map_some,Addr.add_mid]
  exact ⟨b,_,rfl,g2,g3⟩
 ·intro i A hi hA
  obtain ⟨b,off,g1,g2,g3⟩:=e4 (by omega)
  subst g1
  rw [if_neg (by omega),Option.map_some,Addr.add_mid] at hA
  injection hA with hA
  subst hA
  have:=e5 (l+i) ⟨b,off,none⟩ (by omega) rfl
  rw [sub_getD x l h i _ hi]
  refine Tys.R_get cs _ _ _ 0 _ (fun j _=>?_) this
  simp only [Nat.zero_add]
  congr 2
  rw [Nat.add_mul]
  omega
theorem run_sliceAt {t e:Nat} (hu:P.underlying t=some (.slice e)) (x:Value) (lo hi mx:Option Value) (w:World):(Instr.sliceAt t x lo hi mx).run P w=(Instr.slice t x lo hi mx).run P w:=by
 simp [Instr.sliceAt,run_underlying hu]
theorem elem_of {t e:Nat} (hu:P.underlying t=some (.slice e)):P.underlying t=some (.slice (P.elem t)):=by
 have:P.elem t=e:=by simp [Program.elem,hu]
 rw [this];exact hu
theorem run_slice_sub {t e:Nat} {I:TypeInfo} (hu:P.underlying t=some (.slice e)) (hi:P.info? e=some I) (w:World) (ad:Option Addr) (n cp:Nat) (hn:n≤cp) (lo hi':Option Value) (l h:Int)
  (hl:(lo=none∧l=0)∨lo=some (.int .i64 l)) (hh:(hi'=none∧h=(n:Int))∨hi'=some (.int .i64 h)) (h0:0≤l) (h1:l≤h) (h2:h≤(n:Int)) :
  (Instr.sliceAt t (.slice ad n cp) lo hi' none).run P w=.ok (sliced ad l.toNat h.toNat cp I.size) w:=by
 rw [run_sliceAt hu]
 have he:P.elem t=e:=by simp [Program.elem,hu]
 have hs:(sizeOf (P.elem t)).run P w=.ok I.size w:=by rw [he];simp [sizeOf,typeInfo,hi]
 rcases hl with ⟨rfl,rfl⟩ | rfl <;> rcases hh with ⟨rfl,rfl⟩ | rfl
 ·rw [run_slice_all w t ad n cp (elem_of hu),hs];rfl
 ·rw [run_slice_h w t ad n cp (elem_of hu) .i64 h (by omega) (by omega),hs];rfl
 ·rw [run_slice_l w t ad n cp (elem_of hu) .i64 l h0 h1,hs];rfl
 ·rw [run_slice_lh w t ad n cp (elem_of hu) .i64 .i64 l h h0 h1 (by omega),hs];rfl
theorem run_slice_none {t e:Nat} {I:TypeInfo} (hu:P.underlying t=some (.slice e)) (hi:P.info? e=some I) (w:World) (ad:Option Addr) (n cp:Nat) (kh km:IntKind) (lo:Option Value)
  (hl:lo=none∨∃ kl,lo=some (.int kl 0)) :
  (Instr.sliceAt t (.slice ad n cp) lo (some (.int kh 0)) (some (.int km 0))).run P w=.ok (.slice ad 0 0) w:=by
 rw [run_sliceAt hu]
 have he:P.elem t=e:=by simp [Program.elem,hu]
 have hs:(sizeOf (P.elem t)).run P w=.ok I.size w:=by rw [he];simp [sizeOf,typeInfo,hi]
 rcases hl with rfl | ⟨kl,rfl⟩
 ·rw [run_slice_hm w t ad n cp (elem_of hu) kh km 0 0 (by omega) (by omega) (by omega),hs];rfl
 ·rw [run_slice_lhm w t ad n cp (elem_of hu) kl kh km 0 0 0 (by omega) (by omega) (by omega) (by omega),hs];rfl
theorem const0_ok {x:Option Operand} (h:isConst0 x=true):∃ k,x.map a.eval=some (.int k 0):=by
 unfold isConst0 at h
 split at h
 ·rename_i k n
  have:=of_decide_eq_true h
  subst this
  exact ⟨k,rfl⟩
 ·cases h
theorem exec_slice {t:Nat} {x:Operand} {lo hi mx:Option Operand} (ho:o.op=.slice t x lo hi mx) {v:Value} {w':World} (h:(Instr.sliceAt t (a.eval x) (lo.map a.eval) (hi.map a.eval) (mx.map a.eval)).run P w=.ok v w'):(execOp a.eval o).run P w=.ok (.value v) w':=by
 unfold execOp
 simp only [ho]
 rw [Sem.run_bind,h]
 rfl
theorem step_slice (hE:EnvOk P E) {t:Nat} {x:Operand} {lo hi mx:Option Operand} (ho:o.op=.slice t x lo hi mx) (h:Rel ω a w s) (hd:∀ d,o.dst=some d→d < a.tmps.size) {Φ:FKey→Option (Callee real (Option R))}
  (hk:stepC E (realC R) Φ o s k=some r):o.wp P a w (Ends ω a w o.dst k r) Q:=by
 have hx:=ev_ok h E t x
 unfold stepC at hk
 simp only [ho] at hk
 unfold sliceV at hk
 obtain ⟨⟨e,cs⟩,h1,hk1⟩:=mapFail_some hk
 obtain ⟨c,h2,hk2⟩:=mapFail_some hk1
 clear hk hk1
 obtain ⟨hu,j,I,d,hj,hjc,ok⟩:=slOf_ok hE h1
 have hI:I.size=cs.len:=by rw [ok.size,hjc]
 cases hb:(Nat.beq e c.e && Tys.beq cs c.cs) with
 | false=>simp only [hb] at hk2;cases hk2
 | true =>
  simp only [hb,cond_true] at hk2
  rw [Bool.and_eq_true] at hb
  have he:=Nat.eq_of_beq_eq_true hb.1
  have hcs:=Tys.eq_of_beq hb.2
  subst he;subst hcs
  obtain ⟨ad,cp,e1,e2⟩:=cont?_ok h2 hx
  cases h0:(isConst0 mx && (isConst0 hi && isNo0 lo)) with
  | true =>
   simp only [h0,cond_true] at hk2
   rw [Bool.and_eq_true,Bool.and_eq_true] at h0
   obtain ⟨g1,g2,g3⟩:=h0
   obtain ⟨km,f1⟩:=const0_ok (a:=a) g1
   obtain ⟨kh,f2⟩:=const0_ok (a:=a) g2
   have f3:lo.map a.eval=none∨∃ kl,lo.map a.eval=some (.int kl 0):=by
    cases lo with
    | none=>exact .inl rfl
    | some q=>exact .inr (const0_ok g3)
   refine light_ok h hd (v:=.slice ad 0 0) (exec_slice ho ?_) (t:=.one (.nilS c.e c.cs)) ⟨ad,rfl⟩ hk2
   rw [e1,f1,f2]
   exact run_slice_none hu ok.info w ad _ cp kh km _ f3
  | false =>
   simp only [h0,cond_false] at hk2
   cases mx with
   | some _=>cases hk2
   | none =>
    simp only at hk2
    obtain ⟨(l:Int),h3,hk3⟩:=mapFail_some hk2
    obtain ⟨(m:Int),h4,hk4⟩:=mapFail_some hk3
    clear hk2 hk3
    have hk5:(bif rSubOk c.x l m then sliceFin E (realC R) (o.dst.getD 0) s (ev E s t x) c lo.isNone l m (fun v s=>k (s.setO o.dst v)) else none)=some r:=hk4
    clear hk4
    cases hok:rSubOk c.x l m with
    | false=>rw [hok] at hk5;cases hk5
    | true =>
     rw [hok] at hk5
     simp only [cond_true] at hk5
     unfold rSubOk at hok
     rw [Bool.and_eq_true,Bool.and_eq_true] at hok
     have g0:0≤l:=of_decide_eq_true hok.1
     have g1:l≤m:=of_decide_eq_true hok.2.1
     have g2:m≤(List.length c.x:Int):=of_decide_eq_true hok.2.2
     have hlo:(lo.map a.eval=none∧l=0)∨lo.map a.eval=some (.int .i64 l):=by
      cases lo with
      | none =>
       refine .inl ⟨rfl,?_⟩
       injection h3 with h3
       exact h3.symm
      | some q=>exact .inr (by rw [Option.map_some,int?_ok h3 (ev_ok h E 0 q)])
     have hhi:(hi.map a.eval=none∧m=(List.length c.x:Int))∨hi.map a.eval=some (.int .i64 m):=by
      cases hi with
      | none =>
       refine .inl ⟨rfl,?_⟩
       injection h4 with h4
       exact h4.symm
      | some q=>exact .inr (by rw [Option.map_some,int?_ok h4 (ev_ok h E 0 q)])
     have hrun:=run_slice_sub (P:=P) hu ok.info w ad (List.length c.x) cp e2 (lo.map a.eval) (hi.map a.eval) l m hlo hhi g0 g1 g2
     rw [hI,←e1] at hrun
     have hex:(execOp a.eval o).run P w=.ok (.value (sliced ad l.toNat m.toNat cp c.cs.len)) w:=exec_slice ho hrun
     have q1:l.toNat≤m.toNat:=by omega
     have q2:m.toNat≤List.length c.x:=by omega
     have imm:(Ty.sl c.e c.cs).R w ω .imm (a.eval x) c.x→k (s.setO o.dst (.one (.val (.sl c.e c.cs) (real.sub c.x l m))))=some r→o.wp P a w (Ends ω a w o.dst k r) Q:=by
      intro hR hkk
      rw [e1] at hR
      exact light_ok h hd hex (t:=.one (.val (.sl c.e c.cs) (real.sub c.x l m))) (slice_imm hR q1 q2) hkk
     unfold sliceFin at hk5
     cases hxe:ev E s t x with
     | one q =>
      rw [hxe] at hk5 hx h2
      cases q with
      | val tt xx =>
       cases tt with
       | sl e' cs' =>
        have h2':(⟨e',cs',xx,0⟩:Cont real)=c:=Option.some.inj h2
        refine imm ?_ hk5
        rw [←h2']
        exact hx
       | _=>cases h2
      | nilS e' cs' =>
       have h2':(⟨e',cs',real.nilV e' cs',1⟩:Cont real)=c:=Option.some.inj h2
       refine imm ?_ hk5
       rw [←h2']
       obtain ⟨ad',e1'⟩:=hx
       exact ⟨ad',0,0,e1',rfl,Nat.le_refl _,fun hn=>absurd hn (by omega),fun i _ hi=>absurd hi (by omega)⟩
      | ref id g hh p =>
       cases p with
       | cons _ _=>cases hk5
       | nil =>
        have hc:s.cont id g hh []=some c:=h2
        have hR:=hx.2.2 c hc
        simp only at hk5
        cases hm0:Nat.beq c.md 0 with
        | true =>
         have hm:=Nat.eq_of_beq_eq_true hm0
         rw [hm0] at hk5
         rw [hm] at hR
         exact imm hR hk5
        | false =>
         rw [hm0] at hk5
         simp only [cond_false] at hk5
         have hm:c.md≠0:=by intro e;rw [e] at hm0;cases hm0
         have hsp:=cont_spec hc
         have harr:∃ dp,(s.ob id).o=.arr c.e c.cs dp c.x∧c.md=bif dp then 2 else 1:=by
          rcases hsp.2 with ⟨dp,f1,_,f3⟩ | ⟨_,_,_,_,f2,_⟩ | ⟨_,_,f3⟩
          ·exact ⟨dp,f1,f3⟩
          ·exact absurd rfl f2
          ·exact absurd f3 hm
         obtain ⟨dp,hob,hmd⟩:=harr
         cases htr:(E.trunc (o.dst.getD 0) && lo.isNone) with
         | false =>
          rw [htr] at hk5
          simp only [cond_false] at hk5
          have hne:id≠0:=h.ne0 (by rw [hob];exact fun e=>by cases e)
          have hfr:=h.freeze hob true
          have hx':=(freeze_tr (ω:=ω) (w:=w) hne h.dom hob true id).ref _ g hh [] hx
          have hc':(s.chg id true (.imm c.e c.cs c.x)).cont id g hh []=some ⟨c.e,c.cs,c.x,0⟩:=by
           unfold St.cont Slot.cont
           rw [St.chg_self]
           simp only
           rw [hsp.1,beq_self]
           rfl
          have hR':=hx'.2.2 _ hc'
          simp only [modeOf] at hR'
          rw [e1] at hR'
          exact wp_val hex (ends_put' hfr (freeze_ext _ _ _ hne) hd (t:=.one (.val (.sl c.e c.cs) (real.sub c.x l m))) (slice_imm hR' q1 q2) hk5)
         | true =>
          rw [htr] at hk5
          simp only [cond_true] at hk5
          cases hbad:(Nat.beq c.md 2 && !c.cs.plain) with
          | true=>rw [hbad] at hk5;cases hk5
          | false =>
           rw [hbad] at hk5
           simp only [cond_false] at hk5
           rw [Bool.and_eq_true] at htr
           have hl0:l=0:=by
            cases lo with
            | none=>injection h3 with h3;exact h3.symm
            | some _=>cases htr.2
           have hdp:Nat.beq c.md 2=true→c.cs.plain=true:=by
            intro e
            rw [e] at hbad
            cases hp:c.cs.plain with
            | true=>rfl
            | false=>rw [hp] at hbad;cases hbad
           have hX:=appX_own h hc hm hx (by
            by_cases e:c.md=2
            ·exact .inr (hdp (by rw [e];rfl))
            ·exact .inl e)
           have hz:real.sub c.x l m=((List.drop 0 c.x).take (m.toNat - 0):List c.cs.T):=by rw [hl0];rfl
           subst hl0
           have hgn:=h.gone id true
           cases hX with
           | none ad' hv hx0 =>
            rw [e1] at hv
            injection hv with v1 v2 v3
            subst v3
            have hm0:m.toNat=0:=by omega
            have hR2:=hgn.bare (id':=mkId (o.dst.getD 0) 0 0) (mkId_ne _ _ _) (.arr c.e c.cs (Nat.beq c.md 2) (real.sub c.x (0:Int) m)) (fun _ e=>by cases e)
            refine wp_val hex (arr_ends hR2 (freeze_ext _ _ _ (mkId_ne _ _ _)) hd ?_ hk5)
            refine ⟨ad,0,0,?_,?_,Nat.le_refl _,hd_none,fun i _ hi=>absurd hi (by omega)⟩
            ·simp [sliced,hm0]
            ·rw [hz]
             exact (sub_length c.x 0 m.toNat (by omega) (by omega)).trans (by omega)
           | some b id0 cp0 h00 arr hv hn hh' hsz hb' ho' hel =>
            rw [e1] at hv
            injection hv with v1 v2 v3
            subst v3;subst v1
            have hR2:=hgn.moved (id':=mkId (o.dst.getD 0) 0 0) h00 (mkId_ne _ _ _) hb' ho' (Put.refl w b) (.arr c.e c.cs (Nat.beq c.md 2) (real.sub c.x (0:Int) m)) (fun _ e=>by cases e)
            have hext:=move_ext (ω:=ω) (id':=mkId (o.dst.getD 0) 0 0) h00 (mkId_ne _ _ _) hb' (Put.refl w b)
            refine wp_val hex (arr_ends hR2 hext hd ?_ hk5)
            refine ⟨some ⟨b,0,none⟩,m.toNat,cp,?_,?_,by omega,hd_own hh' hsz (Own.fresh_self _ _ _),?_⟩
            ·simp [sliced,Addr.add_mid]
            ·rw [hz]
             exact (sub_length c.x 0 m.toNat (by omega) (by omega)).trans (by omega)
            ·intro i A hi hA
             injection hA with hA
             subst hA
             refine mode_plain hdp ?_
             rw [hz,sub_getD c.x 0 m.toNat i _ (by omega),show (0+i)=i from Nat.zero_add i]
             have hrow:=Tys.R_frame hext.size c.cs _ _ _ 0 _ (fun _=>hext.keeps) (fun _=>rfl) (hel i (by omega))
             refine Tys.R_get c.cs _ _ _ 0 _ (fun j _=>?_) hrow
             simp only [Nat.zero_add]
             rw [cell_of_row w b _ arr c.e (0,0) hh']
      | ptr _ _ _=>cases h2
      | eptr _ _ _ _ _ _=>cases h2
      | iptr _ _ _=>cases h2
      | mref _ _=>cases h2
      | fn _ _=>cases h2
      | tst _ _=>cases h2
      | undef=>cases h2
      | dead=>cases h2
     | agg _=>rw [hxe] at h2;cases h2
     | tup _=>rw [hxe] at h2;cases h2
end
end Go.R
namespace Go.R
section
variable {R:Type} {P:Program} {E:Env} {ω:Own} {a:Act} {w:World} {s:S} {k:S→Option R} {r:R} {o:Oper} {Q:Exit→Act→World→Prop}
theorem run_storeAt' {t:Nat} {I:TypeInfo} (hi:P.info? t=some I) {b off T:Nat} {arr:Array Value} {v:Value} (hh:w.heap[b]? = some (.cells arr T (0,0))) (hl:v.cells.size=I.size) (hfit:off+v.cells.size≤arr.size)
  (h1:∀ u∈v.cells.toList,u.oneCell'=true):(Instr.storeAt t (.pointer (some ⟨b,off,none⟩)) v).run P w=.ok () (w.setCells b off v.cells.toList):=by
 have:=run_storeCells_cells (P:=P) b off v.cells.toList 0 w (fun j hj=>by
   rw [cell_of_row w b _ arr T (0,0) hh]
   have:j < v.cells.size:=by simpa using hj
   simp
   omega) (fun j hj=>by simp [World.frozen?,hh]) h1
 simp only [Nat.add_zero] at this
 simp [Instr.storeAt,Instr.sureAddr,storeVar,sizeOf,typeInfo,hi,hl,this]
theorem put_ext {w':World} {b id:Nat} {q:List (Nat×Nat)} (h0:id≠0) (hb:ω b=some (id,q)) (hp:Put w w' b):Ext ω w ω w':=
 ⟨hp.os,hp.tape,hp.output,by rw [hp.size];exact Nat.le_refl _,fun c hc hn=>by
  have:c≠b:=fun e=>by subst e;exact hn.ne hb h0
  exact ⟨hp.block c this,rfl⟩⟩
theorem chg_blk_tr {w':World} {b id:Nat} {cells cells':List L} (h0:id≠0) (hd:∀ b k,ω b=some k→b < w.heap.size) (hb:ω b=some (id,[])) (ho:(s.ob id).o=.blk cells) (hp:Put w w' b) (j:Nat):Tr w ω s w' ω (s.chg id true (.blk cells')) j:=by
 by_cases e:j=id
 ·subst e
  have ho':((s.chg j true (.blk cells')).ob j).o=.blk cells':=by rw [St.chg_self]
  have hg:((s.chg j true (.blk cells')).ob j).g=(s.ob j).g:=by rw [St.chg_self]
  have hh:((s.chg j true (.blk cells')).ob j).h=bif true then (s.ob j).h+1 else (s.ob j).h:=by rw [St.chg_self]
  have hnc:∀ g h p c,(s.chg j true (.blk cells')).cont j g h p=some c→False:=by
   intro g h p c hc
   unfold St.cont Slot.cont at hc
   rw [ho'] at hc
   cases hq:Nat.beq ((s.chg j true (.blk cells')).ob j).g g <;> rw [hq] at hc <;> cases hc
  exact
  {ref:=fun v g h p hr=>⟨by rw [hg];exact hr.1,by rw [hg,hh];exact h_step true hr.2.1,fun c hc=>(hnc _ _ _ _ hc).elim⟩
   ptr:=fun v g off hr=>⟨by rw [hg];exact hr.1,fun hg' _ _=>by rw [hg] at hg';exact hr.2 hg' cells ho⟩
   eptr:=fun v g h p i off hr=>⟨by rw [hg];exact hr.1,by rw [hg,hh];exact h_step true hr.2.1,fun c hc=>(hnc _ _ _ _ hc).elim⟩
   mref:=fun v g hr=>hr.shut hg fun k x e=>by rw [ho'] at e;cases e }
 ·refine Same.tr ⟨St.chg_ne _ _ _ e,fun c kk hc hk hj=>?_⟩ (put_ext h0 hb hp) hd
  have:c≠b:=fun ec=>by subst ec;rw [hb] at hk;injection hk with hk;subst hk;exact e hj.symm
  exact ⟨hp.block c this,rfl⟩
theorem Rel.store_blk (h:Rel ω a w s) {w':World} {b id T:Nat} {cells cells':List L} {arr:Array Value} (hb:ω b=some (id,[])) (ho:(s.ob id).o=.blk cells) (hp:Put w w' b)
  (hh:w'.heap[b]? = some (.cells arr T (0,0))) (hc':All2 (RLf w ω s) arr.toList cells') (h0:id≠0:=h.ne0 (by rw [ho];exact fun e=>by cases e)):Rel ω a w' (s.chg id true (.blk cells')) where
 inj:=h.inj
 dom c kk h1:=by rw [hp.size];exact h.dom c kk h1
 defers:=h.defers
 own0:=by rw [St.chg_ne _ _ _ (Ne.symm h0)];exact h.own0
 slots i:=RTV.frame (put_ext h0 hb hp) (chg_blk_tr h0 h.dom hb ho hp) (h.slots i)
 blks j cs hc:=by
  by_cases e:j=id
  ·subst e
   rw [St.chg_self] at hc
   injection hc with hc
   subst hc
   exact ⟨b,arr,T,hb,hh,hc'.mono fun _ _ hl=>RLf.frame (put_ext h0 hb hp) (chg_blk_tr h0 h.dom hb ho hp) hl⟩
  ·rw [St.chg_ne _ _ _ e] at hc
   obtain ⟨c,arr',T',h1,h2,h3⟩:=h.blks j cs hc
   have:c≠b:=fun ec=>by subst ec;rw [hb] at h1;injection h1 with h1;injection h1 with h1;exact e h1.symm
   exact ⟨c,arr',T',h1,(hp.block c this).trans h2,h3.mono fun _ _ hl=>RLf.frame (put_ext h0 hb hp) (chg_blk_tr h0 h.dom hb ho hp) hl⟩
theorem setCell_ok:∀ (cs:Tys) (md:Nat→Md) (g g':Nat→Option Value) (j0 j:Nat) (y y':cs.T) (t:Ty) (v:t.T) (u:Value),cs.R w ω md g j0 y→setCell (A:=real) cs y j ⟨t,v⟩=some y'→t.R w ω (md (j0+j)) u v →
  g' (j0+j)=some u→(∀ i,i≠j0+j→g' i=g i)→cs.R w ω md g' j0 y'
 | .nil,_,_,_,_,_,_,_,_,_,_,_,h,_,_,_=>by cases h
 | .cons t0 ts,md,g,g',j0,0,y,y',t,v,u,hr,h,hv,h1,h2=>by
  simp only [setCell] at h
  split at h
  ·rename_i hb
   injection h with h
   subst h
   obtain rfl:=Ty.eq_of_beq hb
   have hh:hdT (cnT (t:=t) (ts:=ts) v (tlT y))=v:=hd_cn _ _
   have ht:tlT (cnT (t:=t) (ts:=ts) v (tlT y))=tlT y:=tl_cn _ _
   refine ⟨⟨u,h1,?_⟩,?_⟩
   ·show t.R w ω (md j0) u (hdT (cnT v (tlT y)))
    rw [hh];exact hv
   ·show ts.R w ω md g' (j0+1) (tlT (cnT v (tlT y)))
    rw [ht]
    exact Tys.R_get ts md g g' (j0+1) _ (fun k _=>h2 _ (by omega)) hr.2
  ·cases h
 | .cons t0 ts,md,g,g',j0,j+1,y,y',t,v,u,hr,h,hv,h1,h2=>by
  simp only [setCell] at h
  cases hs:setCell (A:=real) ts (real.tl y) j ⟨t,v⟩ with
  | none=>rw [hs] at h;cases h
  | some z =>
   rw [hs] at h
   have h:=Option.some.inj h
   subst h
   have hh:hdT (cnT (t:=t0) (ts:=ts) (hdT y) z)=hdT y:=hd_cn _ _
   have ht:tlT (cnT (t:=t0) (ts:=ts) (hdT y) z)=z:=tl_cn _ _
   obtain ⟨⟨v0,q1,q2⟩,q3⟩:=hr
   refine ⟨⟨v0,?_,?_⟩,?_⟩
   ·rw [h2 j0 (by omega)];exact q1
   ·show t0.R w ω (md j0) v0 (hdT (cnT (hdT y) z))
    rw [hh];exact q2
   ·show ts.R w ω md g' (j0+1) (tlT (cnT (hdT y) z))
    rw [ht]
    refine setCell_ok ts md g g' (j0+1) j _ z t v u q3 hs ?_ ?_ ?_
    ·rw [show j0+1+j=j0+(j+1) by omega];exact hv
    ·rw [show j0+1+j=j0+(j+1) by omega];exact h1
    ·intro i hi;exact h2 i (by omega)
theorem pack1_md (h:Rel ω a w s) {deep:Bool} {t:Ty} {l:L} {v:Value} {x:t.T} {s':S} {md:Md} (hmd:deep=false→md=.imm) (hl:RLf w ω s v l) (hp:pack1 (A:=real) deep t l s=some (x,s')) :
  ∃ ω',Passes ω a w s ω' s'∧(deep=true→ω'=ω)∧t.R w ω' md v x:=by
 cases deep with
 | false =>
  rw [hmd rfl]
  obtain ⟨ω',p,q⟩:=pack1_ok h hl hp
  exact ⟨ω',p,(fun e=>by cases e),q⟩
 | true =>
  cases l with
  | val u y =>
   cases u with
   | sl e cs=>cases t <;> cases hp
   | _ =>
    simp only [pack1] at hp
    split at hp
    ·rename_i hb
     injection hp with hp
     injection hp with h1 h2
     subst h1;subst h2
     obtain rfl:=Ty.eq_of_beq hb
     exact ⟨ω,Passes.refl h,fun _=>rfl,hl⟩
    ·cases hp
  | nilS e cs =>
   cases t with
   | sl e' cs' =>
    simp only [pack1] at hp
    split at hp
    ·rename_i hb
     injection hp with hp
     injection hp with h1 h2
     subst h1;subst h2
     have:=Ty.eq_of_beq hb
     injection this with e1 e2
     subst e1;subst e2
     obtain ⟨ad,e1⟩:=hl
     refine ⟨ω,Passes.refl h,fun _=>rfl,ad,0,0,e1,rfl,Nat.le_refl _,?_,fun i ad' hi=>absurd hi (by omega)⟩
     cases md with
     | imm=>exact fun hn=>absurd hn (by omega)
     | flat _=>exact .inl ⟨rfl,rfl⟩
     | deep _=>exact .inl ⟨rfl,rfl⟩
    ·cases hp
   | _=>cases hp
  | ref id g hh p =>
   cases p with
   | cons _ _=>cases t <;> cases hp
   | nil =>
    simp only [pack1] at hp
    cases hg:Nat.beq (s.ob id).g g with
    | false=>rw [hg] at hp;cases hp
    | true =>
     rw [hg] at hp
     simp only [cond_true] at hp
     cases hob:(s.ob id).o with
     | arr e cs dp y=>rw [hob] at hp;simp only at hp;split at hp <;> cases hp
     | imm e cs y=>rw [hob] at hp;cases hp
     | blk _=>rw [hob] at hp;cases hp
     | gone=>rw [hob] at hp;cases hp
     | mp _ _=>rw [hob] at hp;cases hp
  | _=>cases t <;> cases hp
theorem pack1_ob {deep : Bool} {t : Ty} {l : L} {x : t.T} {s s' : S} (hp : pack1 (A := real) deep t l s = some (x, s')) (j : Nat) : s'.ob j = s.ob j ∨ ∃ e cs y, (s'.ob j).o = .imm e cs y := by
  cases l with
  | val u y =>
    cases u <;> cases deep <;> (simp only [pack1, cond_false, cond_true] at hp; first
      | (split at hp
         · injection hp with hp; injection hp with _ h2; subst h2; exact .inl rfl
         · cases hp)
      | cases hp)
  | nilS e cs =>
    cases t with
    | sl e' cs' =>
      simp only [pack1] at hp
      split at hp
      · injection hp with hp; injection hp with _ h2; subst h2; exact .inl rfl
      · cases hp
    | _ => cases hp
  | ref id g hh p =>
    cases p with
    | cons _ _ => cases t <;> cases hp
    | nil =>
      simp only [pack1] at hp
      cases hg : Nat.beq (s.ob id).g g with
      | false => rw [hg] at hp; cases hp
      | true =>
        rw [hg] at hp
        simp only [cond_true] at hp
        cases hob : (s.ob id).o with
        | arr e cs dp y =>
          rw [hob] at hp
          simp only at hp
          split at hp
          · cases deep with
            | true => cases hp
            | false =>
              have hp := Option.some.inj hp
              injection hp with _ h2
              subst h2
              by_cases e' : j = id
              · subst e'
                exact .inr ⟨e, cs, y, by rw [St.chg_self]⟩
              · exact .inl (St.chg_ne _ _ _ e')
          · cases hp
        | imm e cs y =>
          rw [hob] at hp
          cases deep with
          | true => cases hp
          | false =>
            simp only [cond_false] at hp
            split at hp
            · injection hp with hp; injection hp with _ h2; subst h2; exact .inl rfl
            · cases hp
        | blk _ => rw [hob] at hp; cases hp
        | gone => rw [hob] at hp; cases hp
        | mp _ _ => rw [hob] at hp; cases hp
  | _ => cases t <;> cases hp
theorem storeCellsV_ok {deep:Bool} {md:Nat→Md} (hmd:deep=false→∀ j,md j=.imm):∀ (ls:List L) (us:List Value) (cs:Tys) (y y':cs.T) (j:Nat) (g:Nat→Option Value) (ω:Own) (s s':S),Rel ω a w s→All2 (RLf w ω s) us ls→cs.R w ω md g 0 y →
  storeCellsV (A:=real) deep cs y j ls s=some (y',s') →
  ∃ ω',Passes ω a w s ω' s'∧(deep=true→ω'=ω)∧(∀ i,s'.ob i=s.ob i∨∃ e cs y,(s'.ob i).o=.imm e cs y) ∧
   ∀ g':Nat→Option Value,(∀ k u,us[k]? = some u→g' (j+k)=some u)→(∀ i,i < j∨j+us.length≤i→g' i=g i)→cs.R w ω' md g' 0 y'
 | [],[],cs,y,y',j,g,ω,s,s',h,_,hr,hs=>by
  simp only [storeCellsV] at hs
  injection hs with hs
  injection hs with h1 h2
  subst h1;subst h2
  refine ⟨ω,Passes.refl h,fun _=>rfl,fun _=>.inl rfl,fun g' _ h2=>?_⟩
  have:g'=g:=funext fun i=>h2 i (by simp;omega)
  rw [this];exact hr
 | [],_::_,_,_,_,_,_,_,_,_,_,h2,_,_=>h2.elim
 | _::_,[],_,_,_,_,_,_,_,_,_,h2,_,_=>h2.elim
 | l::ls,u::us,cs,y,y',j,g,ω,s,s',h,h2,hr,hs=>by
  simp only [storeCellsV] at hs
  cases hc:cellAt (A:=real) cs y j with
  | none=>rw [hc] at hs;cases hs
  | some q =>
   obtain ⟨t,y0⟩:=q
   rw [hc] at hs
   simp only at hs
   cases hp:pack1 (A:=real) deep t l s with
   | none=>rw [hp] at hs;cases hs
   | some q =>
    obtain ⟨v,s1⟩:=q
    rw [hp] at hs
    simp only at hs
    cases ht:setCell (A:=real) cs y j ⟨t,v⟩ with
    | none=>rw [ht] at hs;cases hs
    | some y1 =>
     rw [ht] at hs
     simp only at hs
     obtain ⟨ω1,p1,e1,r1⟩:=pack1_md (md:=md j) h (fun e=>hmd e j) h2.1 hp
     have hr1:cs.R w ω1 md g 0 y:=by
      cases deep with
      | true=>rw [e1 rfl];exact hr
      | false =>
       refine Tys.R_frame (Nat.le_refl _) cs md g g 0 y (fun j=>?_) (fun _=>rfl) hr
       rw [hmd rfl j]
       exact p1.ext.keeps
     have hr2:=setCell_ok cs md g (fun i=>if i=j then some u else g i) 0 j y y1 t v u hr1 ht (by rw [Nat.zero_add];exact r1) (by simp) (fun i hi=>by
      rw [Nat.zero_add] at hi
      simp [hi])
     obtain ⟨ω2,p2,e2,o2,r2⟩:=storeCellsV_ok hmd ls us cs y1 y' (j+1) _ ω1 s1 s' p1.rel (h2.2.mono fun _ _ hl=>RLf.frame p1.ext p1.tr hl) hr2 hs
     refine ⟨ω2,p1.trans p2,fun e=>(e2 e).trans (e1 e),fun i=>?_,fun g' g1 g2=>?_⟩
     ·rcases o2 i with o2 | o2
      ·rcases pack1_ob hp i with o1 | ⟨e,c',z,o1⟩
       ·exact .inl (o2.trans o1)
       ·exact .inr ⟨e,c',z,by rw [o2];exact o1⟩
      ·exact .inr o2
     ·refine r2 g' (fun k v' hv'=>?_) (fun i hi=>?_)
      ·have:=g1 (k+1) v' (by simpa using hv')
       rwa [show j+(k+1)=j+1+k by omega] at this
      ·by_cases hij:i=j
       ·subst hij
        have:=g1 0 u rfl
        simpa using this
       ·simp only [hij,if_false]
        exact g2 i (by simp only [List.length_cons];omega)
end
end Go.R
namespace Go.R
section
variable {R:Type} {P:Program} {E:Env} {ω:Own} {a:Act} {w:World} {s:S} {k:S→Option R} {r:R} {o:Oper} {Q:Exit→Act→World→Prop}
theorem md_pos (dp:Bool):(bif dp then 2 else 1)≠0:=by cases dp <;> decide
theorem cellAt_lt:∀ (cs:Tys) (y:cs.T) (j:Nat) q,cellAt (A:=real) cs y j=some q→j < cs.len
 | .nil,_,_,_,h=>by cases h
 | .cons t ts,y,0,_,_=>by simp [Tys.len]
 | .cons t ts,y,j+1,q,h=>by
  have:=cellAt_lt ts _ j q h
  simp [Tys.len];omega
theorem storeCellsV_fit {deep:Bool}:∀ (ls:List L) (cs:Tys) (y:cs.T) (j:Nat) (s:S) q,storeCellsV (A:=real) deep cs y j ls s=some q→ls=[]∨j+ls.length≤cs.len
 | [],_,_,_,_,_,_=>.inl rfl
 | l::ls,cs,y,j,s,q,h=>by
  simp only [storeCellsV] at h
  cases hc:cellAt (A:=real) cs y j with
  | none=>rw [hc] at h;cases h
  | some z =>
   obtain ⟨t,y0⟩:=z
   have hlt:=cellAt_lt cs y j _ hc
   rw [hc] at h
   simp only at h
   cases hp:pack1 (A:=real) deep t l s with
   | none=>rw [hp] at h;cases h
   | some z =>
    obtain ⟨v,s1⟩:=z
    rw [hp] at h
    simp only at h
    cases ht:setCell (A:=real) cs y j ⟨t,v⟩ with
    | none=>rw [ht] at h;cases h
    | some y1 =>
     rw [ht] at h
     rcases storeCellsV_fit ls cs y1 (j+1) s1 q h with h | h
     ·subst h;exact .inr (by simp;omega)
     ·exact .inr (by simp only [List.length_cons];omega)
theorem inner_frame {w':World} {md id b i:Nat} {cs:Tys} {g:Nat→Option Value} {y:cs.T} (hb:ω b=some (id,[])) (hp:Put w w' b) (h:cs.R w ω ((modeOf md id []).inner i) g 0 y):cs.R w' ω ((modeOf md id []).inner i) g 0 y:=by
 refine Tys.R_frame (by rw [hp.size];exact Nat.le_refl _) cs _ _ _ 0 _ (fun j c hc hk=>?_) (fun _=>rfl) h
 have:c≠b:=by
  intro e
  subst e
  rcases hk with hk | ⟨k,h1,h2⟩
  ·rw [hb] at hk;cases hk
  ·rw [hb] at h1
   injection h1 with h1
   subst h1
   unfold modeOf at h2
   split at h2
   ·exact h2.elim
   ·exact h2.elim
   ·have:=h2.2
    simp [kpath] at this
 exact ⟨hp.block c this,rfl⟩
theorem chg_arr_tr {w':World} {b id e:Nat} {cs:Tys} {dp:Bool} {x x':List cs.T} (h0:id≠0) (hd:∀ b k,ω b=some k→b < w.heap.size) (hb:ω b=some (id,[])) (ho:(s.ob id).o=.arr e cs dp x) (hp:Put w w' b) (hl:x'.length=x.length)
  (re:∀ v,(Ty.sl e cs).R w ω (modeOf (bif dp then 2 else 1) id []) v x→(Ty.sl e cs).R w' ω (modeOf (bif dp then 2 else 1) id []) v x') (j:Nat):Tr w ω s w' ω (s.chg id true (.arr e cs dp x')) j:=by
 by_cases ej:j=id
 ·subst ej
  have ho':((s.chg j true (.arr e cs dp x')).ob j).o=.arr e cs dp x':=by rw [St.chg_self]
  have hg:((s.chg j true (.arr e cs dp x')).ob j).g=(s.ob j).g:=by rw [St.chg_self]
  have hh:((s.chg j true (.arr e cs dp x')).ob j).h=(s.ob j).h+1:=by rw [St.chg_self];rfl
  have hh':((s.chg j true (.arr e cs dp x')).ob j).h=bif true then (s.ob j).h+1 else (s.ob j).h:=hh
  have key:∀ (g h:Nat) (p:Pth) (c:Cont real),h≤(s.ob j).h+(if g=(s.ob j).g then 0 else h)→(s.chg j true (.arr e cs dp x')).cont j g h p=some c→p=[]∧g=(s.ob j).g∧c=⟨e,cs,x',bif dp then 2 else 1⟩:=by
   intro g h p c hle hc
   obtain ⟨q1,q2⟩:=cont_spec hc
   rw [hg] at q1
   rw [if_pos q1.symm] at hle
   rcases q2 with ⟨dp',f1,f2,f3⟩ | ⟨_,_,_,_,_,f3,_⟩ | ⟨f1,_,_⟩
   ·rw [ho'] at f1
    refine ⟨f2,q1.symm,?_⟩
    obtain ⟨ce,ccs,cx,cmd⟩:=c
    simp only at f1 f3
    injection f1 with g1 g2 g3 g4
    subst g1;subst g2;subst g3;subst f3
    have:=eq_of_heq g4
    rw [this]
   ·rw [hh] at f3
    omega
   ·rw [ho'] at f1;cases f1
  exact
  {ref:=fun v g h p hr=>⟨by rw [hg];exact hr.1,by rw [hg,hh'];exact h_step true hr.2.1,fun c hc=>by
    obtain ⟨q1,q2,q3⟩:=key g h p c hr.2.1 hc
    subst q1;subst q3
    exact re v (hr.2.2 _ (cont_arr (h:=h) ho q2))⟩
   ptr:=fun v g off hr=>⟨by rw [hg];exact hr.1,fun _ cells hc=>by rw [ho'] at hc;cases hc⟩
   eptr:=fun v g h p i off hr=>⟨by rw [hg];exact hr.1,by rw [hg,hh'];exact h_step true hr.2.1,fun c hc hm=>by
    obtain ⟨q1,q2,q3⟩:=key g h p c hr.2.1 hc
    subst q1;subst q3
    obtain ⟨r1,r2,r3,v',r4⟩:=hr.2.2 _ (cont_arr (h:=h) ho q2) (md_pos dp)
    refine ⟨r1,?_,r3,v',re v' r4⟩
    show IV.i i < ((x'.length:Nat):Int)
    rw [hl]
    exact r2⟩
   mref:=fun v g hr=>hr.shut hg fun k x e=>by rw [ho'] at e;cases e }
 ·refine Same.tr ⟨St.chg_ne _ _ _ ej,fun c kk hc hk hj=>?_⟩ (put_ext h0 hb hp) hd
  have:c≠b:=fun ec=>by subst ec;rw [hb] at hk;injection hk with hk;subst hk;exact ej hj.symm
  exact ⟨hp.block c this,rfl⟩
theorem Rel.store_arr (h:Rel ω a w s) {w':World} {b id e:Nat} {cs:Tys} {dp:Bool} {x x':List cs.T} (hb:ω b=some (id,[])) (ho:(s.ob id).o=.arr e cs dp x) (hp:Put w w' b) (hl:x'.length=x.length)
  (re:∀ v,(Ty.sl e cs).R w ω (modeOf (bif dp then 2 else 1) id []) v x→(Ty.sl e cs).R w' ω (modeOf (bif dp then 2 else 1) id []) v x') (h0:id≠0:=h.ne0 (by rw [ho];exact fun e=>by cases e)):Rel ω a w' (s.chg id true (.arr e cs dp x')) where
 inj:=h.inj
 dom c kk h1:=by rw [hp.size];exact h.dom c kk h1
 defers:=h.defers
 own0:=by rw [St.chg_ne _ _ _ (Ne.symm h0)];exact h.own0
 slots i:=RTV.frame (put_ext h0 hb hp) (chg_arr_tr h0 h.dom hb ho hp hl re) (h.slots i)
 blks j cells hc:=by
  by_cases ej:j=id
  ·subst ej
   rw [St.chg_self] at hc
   cases hc
  ·rw [St.chg_ne _ _ _ ej] at hc
   obtain ⟨c,arr',T',h1,h2,h3⟩:=h.blks j cells hc
   have:c≠b:=fun ec=>by subst ec;rw [hb] at h1;injection h1 with h1;injection h1 with h1;exact ej h1.symm
   exact ⟨c,arr',T',h1,(hp.block c this).trans h2,h3.mono fun _ _ hl'=>RLf.frame (put_ext h0 hb hp) (chg_arr_tr h0 h.dom hb ho hp hl re) hl'⟩
theorem reread {w':World} {b id e md:Nat} {cs:Tys} {x x':List cs.T} {arr arr':Array Value} (hm:md≠0) (hinj:∀ b b' k,ω b=some k→ω b'=some k→b=b') (hb:ω b=some (id,[])) (hh':w'.heap[b]? = some (.cells arr' e (0,0))) (hs:arr'.size=arr.size)
  (hh:w.heap[b]? = some (.cells arr e (0,0))) (hl:x'.length=x.length)
  (hel:∀ i,i < x.length→cs.R w' ω ((modeOf md id []).inner i) (fun j=>arr'[i*cs.len+j]?) 0 (x'.getD i (zTs cs))) (v:Value) (h:(Ty.sl e cs).R w ω (modeOf md id []) v x):(Ty.sl e cs).R w' ω (modeOf md id []) v x':=by
 obtain ⟨ad,n,cp,e1,e2,e3,e4,e5⟩:=h
 subst e2
 have key:∀ {md':Md},(md'=.flat (id,[])∨md'=.deep (id,[]))→Hd w ω e cs.len md' ad x.length cp→Hd w' ω e cs.len md' ad x.length cp∧(0 < x.length→ad=some ⟨b,0,none⟩):=by
  intro md' hmd hH
  have hH':(cp=0∧x.length=0)∨∃ b arr,ad=some ⟨b,0,none⟩∧w.heap[b]? = some (.cells arr e (0,0))∧arr.size=cp*cs.len∧ω b=some (id,[]):=by
   rcases hmd with rfl | rfl <;> exact hH
  rcases hH' with ⟨f1,f2⟩ | ⟨b2,arr2,f1,f2,f3,f4⟩
  ·refine ⟨?_,fun hp=>absurd hp (by omega)⟩
   rcases hmd with rfl | rfl <;> exact .inl ⟨f1,f2⟩
  ·obtain rfl:=hinj _ _ _ hb f4
   rw [hh] at f2
   injection f2 with f2
   injection f2 with f2
   subst f2
   refine ⟨?_,fun _=>f1⟩
   rcases hmd with rfl | rfl <;> exact .inr ⟨b,arr',f1,hh',by rw [hs];exact f3,hb⟩
 have hmode:modeOf md id []=.flat (id,[])∨modeOf md id []=.deep (id,[]):=by
  match md,hm with
  | 1,_=>exact .inl rfl
  | n+2,_=>exact .inr rfl
 obtain ⟨k1,k2⟩:=key hmode e4
 refine ⟨ad,x.length,cp,e1,hl,e3,k1,fun i A hi hA=>?_⟩
 rw [k2 (by omega)] at hA
 injection hA with hA
 subst hA
 refine Tys.R_get cs _ _ _ 0 _ (fun j _=>?_) (hel i hi)
 simp only [Nat.zero_add]
 rw [cell_of_row w' b _ arr' e (0,0) hh']
theorem exec_store {t:Nat} {p v:Operand} (ho:o.op=.store t p v) {w':World} (h:(Instr.storeAt t (a.eval p) (a.eval v)).run P w=.ok () w'):(execOp a.eval o).run P w=.ok .skip w':=by
 unfold execOp
 simp only [ho]
 rw [Sem.run_bind,h]
 rfl
theorem ends_undef {ω1:Own} {w1:World} {s1:S} (h:Rel ω1 a w1 s1) (he:Ext ω w ω1 w1) (hd:∀ d,o.dst=some d→d < a.tmps.size) (hk:k (s1.setO o.dst (.one .undef))=some r) :
  Ends ω a w o.dst k r (a.put o.dst undef) w1:=ends_put' h he hd (t:=.one .undef) rfl hk
theorem set_getD {α:Type} (x:List α) (i j:Nat) (y z:α) (hi:i < x.length):(x.set i y).getD j z=if j=i then y else x.getD j z:=by
 rw [List.getD_eq_getElem?_getD,List.getElem?_set]
 split
 ·rename_i h
  subst h
  rw [if_pos rfl]
  rfl
 ·rename_i h
  rw [if_neg (Ne.symm h),←List.getD_eq_getElem?_getD]
theorem set_same {α:Type} (x:List α) (i:Nat) (z:α) (hi:i < x.length):x.set i (x.getD i z)=x:=by
 rw [List.getD_eq_getElem?_getD,List.getElem?_eq_getElem hi]
 simp
theorem storeF_ok (h:Rel ω a w s) {t:Nat} {I:TypeInfo} (hI:P.info? t=some I) {p v:Value} {ls:List L} {s1:S} {id g hh e:Nat} {cs:Tys} {deep:Bool} {x:real.V (.sl e cs)} {i:IV} {off:Nat} (hp:RLf w ω s p (.eptr id g hh [] i off)) (hv:All2 (RLf w ω s) v.cells.toList ls) (h1:∀ u∈v.cells.toList,u.oneCell'=true) (hsz:ls.length=I.size)
  (hge:(s.ob id).g=g) (hob:(s.ob id).o=.arr e cs deep x)
  (hs:(match storeCellsV (A:=real) deep cs (real.get x i) off ls s with
   | some (el,s1)=>(match (s1.ob id).o with
    | .arr ..=>some (s1.chg id true (.arr e cs deep (real.put x i el)))
    | _=>none)
   | none=>none)=some s1):∃ ω' w',(Instr.storeAt t p v).run P w=.ok () w'∧Rel ω' a w' s1∧Ext ω w ω' w':=by
 have hcl:v.cells.size=ls.length:=by rw [←hv.length];simp
 cases hst:storeCellsV (A:=real) deep cs (real.get x i) off ls s with
 | none=>rw [hst] at hs;cases hs
 | some q =>
  obtain ⟨el,s2⟩:=q
  rw [hst] at hs
  simp only at hs
  have hc:=cont_arr (h:=hh) hob hge.symm
  obtain ⟨q1,q2,⟨b,q3,q4⟩,v',q5⟩:=hp.2.2 _ hc (md_pos deep)
  simp only at q1 q2 q4 q5
  obtain ⟨b',arr,cp,c1,c2,c3,c4,c5,_⟩:=own_elem (s:=s) hc (md_pos deep) q5 i q1 q2
  obtain rfl:=h.inj _ _ _ q3 c1
  simp only at c2 c3 c4 c5
  have hrow:∀ i',i' < List.length x→cs.R w ω ((modeOf (bif deep then 2 else 1) id []).inner i') (fun j=>arr[i'*cs.len+j]?) 0 (List.getD x i' (zTs cs)):=by
   intro i' hi'
   obtain ⟨ad,n,cp',d1,d2,d3,d4,d5⟩:=q5
   rw [c5] at d1
   injection d1 with d1 d1' d1''
   have:=d5 i' ⟨b,0,none⟩ (by omega) d1.symm
   refine Tys.R_get cs _ _ _ 0 _ (fun j _=>?_) this
   simp only [Nat.zero_add]
   rw [cell_of_row w b _ arr e (0,0) c2]
  have hi:(IV.i i).toNat < List.length x:=by omega
  obtain ⟨ω2,p2,o1,o2,r2⟩:=storeCellsV_ok (md:=(modeOf (bif deep then 2 else 1) id []).inner (IV.i i).toNat) (fun e=>by subst e;exact fun _=>rfl) ls v.cells.toList cs _ el off _ ω s s2 h hv (hrow _ hi) hst
  have hob2:s2.ob id=s.ob id:=by
   rcases o2 id with o2 | ⟨e',c',z,o2⟩
   ·exact o2
   ·rw [o2] at hs;cases hs
  have hob2':(s2.ob id).o=.arr e cs deep x:=by rw [hob2];exact hob
  rw [hob2'] at hs
  simp only at hs
  have hs:=Option.some.inj hs
  subst hs
  have hb2:ω2 b=some (id,[]):=by
   have:=(p2.tr id).eptr p g hh [] i off hp
   obtain ⟨_,_,⟨b2,t1,t2⟩,_⟩:=this.2.2 _ (cont_arr (h:=hh) hob2' (by rw [hob2];exact hge.symm)) (md_pos deep)
   rw [q4] at t2
   injection t2 with t2
   injection t2 with t2
   injection t2 with t2
   rw [t2]
   exact t1
  have hrow2:∀ i',i' < List.length x→cs.R w ω2 ((modeOf (bif deep then 2 else 1) id []).inner i') (fun j=>arr[i'*cs.len+j]?) 0 (List.getD x i' (zTs cs)):=by
   intro i' hi'
   cases deep with
   | true=>rw [o1 rfl];exact hrow i' hi'
   | false=>exact Tys.R_frame (Nat.le_refl _) cs _ _ _ 0 _ (fun _=>p2.ext.keeps) (fun _=>rfl) (hrow i' hi')
  have hfitc:=storeCellsV_fit ls cs _ off s _ hst
  have hbase:(IV.i i).toNat*cs.len+cs.len≤arr.size:=by
   rw [c3]
   have:((IV.i i).toNat+1)*cs.len≤cp*cs.len:=Nat.mul_le_mul_right _ (by omega)
   rw [Nat.succ_mul] at this
   exact this
  have hvl:v.cells.toList.length=ls.length:=hv.length
  by_cases hemp:ls=[]
  ·-- nothing is stored
   subst hemp
   have hv0:v.cells.toList=[]:=List.length_eq_zero_iff.1 hvl
   simp only [storeCellsV] at hst
   injection hst with hst
   injection hst with t1 t2
   subst t2
   have hrun:(Instr.storeAt t p v).run P w=.ok () w:=by
    have hsz0:v.cells.size=I.size:=by omega
    rw [q4]
    simp [Instr.storeAt,Instr.sureAddr,storeVar,sizeOf,typeInfo,hI,hsz0,hv0,storeCells]
   refine ⟨ω,w,hrun,?_,Ext.refl _ _⟩
   refine h.store_arr q3 hob (Put.refl w b) (x':=real.put x i el) List.length_set ?_
   refine reread (arr:=arr) (arr':=arr) (md_pos deep) h.inj q3 c2 rfl c2 List.length_set (fun i' hi'=>?_)
   have:real.put x i el=x:=by
    rw [←t1]
    exact set_same x _ _ hi
   rw [this]
   exact hrow i' hi'
  ·have hfit:off+ls.length≤cs.len:=hfitc.resolve_left hemp
   have hfit':(IV.i i).toNat*cs.len+off+v.cells.toList.length≤arr.size:=by omega
   obtain ⟨arr',z1,z2⟩:=setCells_row' b e (0,0) v.cells.toList ((IV.i i).toNat*cs.len+off) w arr c2 hfit'
   have hput:=setCells_put b v.cells.toList ((IV.i i).toNat*cs.len+off) w
   have hrun:=run_storeAt' (P:=P) hI c2 (v:=v) (off:=(IV.i i).toNat*cs.len+off) (by omega) (by simpa using hfit') h1
   rw [←q4] at hrun
   refine ⟨ω2,_,hrun,?_,p2.ext.trans (put_ext (h.ne0 (by rw [hob];exact fun e=>by cases e)) hb2 hput)⟩
   have hal:arr.toList.length=arr.size:=Array.length_toList
   have hsz':arr'.size=arr.size:=by
    rw [←Array.length_toList (xs:=arr'),z2]
    simp only [List.length_append,List.length_take,List.length_drop]
    omega
   have hget:∀ m,arr'[m]? = if m < (IV.i i).toNat*cs.len+off then arr[m]? else if m < (IV.i i).toNat*cs.len+off+v.cells.toList.length then v.cells.toList[m - ((IV.i i).toNat*cs.len+off)]? else arr[m]?:=by
    intro m
    have htl:(arr.toList.take ((IV.i i).toNat*cs.len+off)).length=(IV.i i).toNat*cs.len+off:=by rw [List.length_take];omega
    rw [←Array.getElem?_toList,z2]
    split
    ·rename_i hm
     rw [List.append_assoc,List.getElem?_append_left (by rw [htl];exact hm),List.getElem?_take_of_lt hm,Array.getElem?_toList]
    ·split
     ·rw [List.append_assoc,List.getElem?_append_right (by rw [htl];omega),htl,List.getElem?_append_left (by omega)]
     ·rw [List.getElem?_append_right (by rw [List.length_append,htl];omega),List.length_append,htl,List.getElem?_drop,Array.getElem?_toList]
      congr 1
      omega
   refine p2.rel.store_arr hb2 hob2' hput (x':=real.put x i el) List.length_set ?_
   refine reread (arr:=arr) (arr':=arr') (md_pos deep) p2.rel.inj hb2 z1 hsz' c2 List.length_set (fun i' hi'=>?_)
   have hpx:List.getD (real.put x i el:List cs.T) i' (zTs cs)=if i'=(IV.i i).toNat then el else List.getD x i' (zTs cs):=set_getD x _ _ _ _ hi
   rw [hpx]
   split
   ·rename_i he
    subst he
    refine inner_frame hb2 hput (r2 _ (fun kk u hu=>?_) (fun m hm=>?_))
    ·have hk:kk < v.cells.toList.length:=(List.getElem?_eq_some_iff.1 hu).1
     show _=_
     rw [hget,if_neg (by omega),if_pos (by omega),←hu]
     congr 1
     omega
    ·show _=_
     rw [hget]
     rcases hm with hm | hm
     ·rw [if_pos (by omega)]
     ·rw [if_neg (by omega),if_neg (by omega)]
   ·rename_i he
    refine inner_frame hb2 hput (Tys.R_get cs _ _ _ 0 _ (fun m hm=>?_) (hrow2 i' hi'))
    rw [Nat.zero_add,hget]
    rcases Nat.lt_or_gt_of_ne he with hlt | hgt
    ·have:(i'+1)*cs.len≤(IV.i i).toNat*cs.len:=Nat.mul_le_mul_right _ hlt
     rw [Nat.succ_mul] at this
     rw [if_pos (by omega)]
    ·have:((IV.i i).toNat+1)*cs.len≤i'*cs.len:=Nat.mul_le_mul_right _ hgt
     rw [Nat.succ_mul] at this
     rw [if_neg (by omega),if_neg (by omega)]
end
end Go.R
namespace Go.R
def Md.On:Md→Nat→Prop
 | .imm,_=>True
 | .flat k,i=>k.1=i
 | .deep k,i=>k.1=i
def Md.to:Md→Nat→Md
 | .imm,_=>.imm
 | .flat k,j=>.flat (j,k.2)
 | .deep k,j=>.deep (j,k.2)
theorem Md.on_inner {md:Md} {i:Nat} (h:md.On i) (a b:Nat):(md.inner a b).On i:=by
 cases md with
 | imm=>trivial
 | flat _=>trivial
 | deep _=>exact h
theorem Md.to_inner (md:Md) (j a b:Nat):(md.inner a b).to j=(md.to j).inner a b:=by
 cases md <;> rfl
structure Names (w:World) (ω ω':Own) (i j:Nat):Prop where
 none:∀ b,b < w.heap.size→ω b=none→ω' b=none
 own:∀ b p,b < w.heap.size→ω b=some (i,p)→ω' b=some (j,p)
theorem Hd.map {w:World} {ω ω':Own} {i j:Nat} (hn:Names w ω ω' i j) {e sz:Nat} {md:Md} (hm:md.On i) {a:Option Addr} {n c:Nat} (h:Hd w ω e sz md a n c):Hd w ω' e sz (md.to j) a n c:=by
 cases md with
 | imm =>
  intro h0
  obtain ⟨b,off,h1,h2,h3⟩:=h h0
  exact ⟨b,off,h1,hn.none b h3 h2,h3⟩
 | flat k =>
  rcases h with h | ⟨b,arr,h1,h2,h3,h4⟩
  ·exact .inl h
  ·have e1:k.1=i:=hm
   exact .inr ⟨b,arr,h1,h2,h3,hn.own b k.2 (heap_lt_of_some h2) (by rw [h4,←e1])⟩
 | deep k =>
  rcases h with h | ⟨b,arr,h1,h2,h3,h4⟩
  ·exact .inl h
  ·have e1:k.1=i:=hm
   exact .inr ⟨b,arr,h1,h2,h3,hn.own b k.2 (heap_lt_of_some h2) (by rw [h4,←e1])⟩
mutual
theorem Ty.R_map {w:World} {ω ω':Own} {i j:Nat} (hn:Names w ω ω' i j):∀ (t:Ty) (md:Md) (v:Value) (x:t.T),md.On i→t.R w ω md v x→t.R w ω' (md.to j) v x
 | .int _,_,_,_,_,h=>h
 | .bool,_,_,_,_,h=>h
 | .str,_,_,_,_,h=>h
 | .sl e cs,md,v,x,hm,h=>by
  obtain ⟨a,n,c,h1,h2,h3,h4,h5⟩:=h
  refine ⟨a,n,c,h1,h2,h3,h4.map hn hm,fun k ad hk ha=>?_⟩
  have:=Tys.R_map hn cs (md.inner k) _ 0 _ (fun b=>Md.on_inner hm k b) (h5 k ad hk ha)
  have e:(fun b=>(md.inner k b).to j)=(md.to j).inner k:=funext fun b=>Md.to_inner md j k b
  rw [e] at this
  exact this
theorem Tys.R_map {w:World} {ω ω':Own} {i j:Nat} (hn:Names w ω ω' i j):∀ (cs:Tys) (md:Nat→Md) (g:Nat→Option Value) (k:Nat) (x:cs.T),(∀ b,(md b).On i)→cs.R w ω md g k x→cs.R w ω' (fun b=>(md b).to j) g k x
 | .nil,_,_,_,_,_,_=>trivial
 | .cons t ts,md,g,k,x,hm,h=>by
  obtain ⟨⟨v,h1,h2⟩,h3⟩:=h
  exact ⟨⟨v,h1,Ty.R_map hn t (md k) v _ (hm k) h2⟩,Tys.R_map hn ts md g (k+1) _ hm h3⟩
end
theorem modeOf_on (m i:Nat) (p:Pth):(modeOf m i p).On i:=by
 unfold modeOf;split <;> first | trivial | rfl
theorem modeOf_to (m i j:Nat):(modeOf m i []).to j=modeOf m j []:=by
 unfold modeOf;split <;> rfl
theorem R_name {w:World} {ω ω':Own} {i j m e:Nat} {cs:Tys} {v:Value} {x:List cs.T} (hn:Names w ω ω' i j) (h:(Ty.sl e cs).R w ω (modeOf m i []) v x):(Ty.sl e cs).R w ω' (modeOf m j []) v x:=by
 have:=Ty.R_map hn (.sl e cs) _ v x (modeOf_on m i []) h
 rw [modeOf_to] at this
 exact this
theorem R_imm_of {w:World} {ω ω':Own} {t:Ty} {v:Value} {x:t.T} (hn:∀ b,b < w.heap.size→ω b=none→ω' b=none) (h:t.R w ω .imm v x):t.R w ω' .imm v x:=
 Ty.R_free t .imm v x (fun b hb hk=>by
  rcases hk with hk | ⟨k,_,hk⟩
  ·exact hn b hb hk
  ·exact hk.elim) h
theorem R_flatdeep {w:World} {ω:Own} {i e:Nat} {cs:Tys} {v:Value} {x:List cs.T} {dp dp':Bool} (hd:dp=dp'∨cs.plain=true) (h:(Ty.sl e cs).R w ω (modeOf (bif dp then 2 else 1) i []) v x) :
  (Ty.sl e cs).R w ω (modeOf (bif dp' then 2 else 1) i []) v x:=by
 rcases hd with rfl | hp
 ·exact h
 ·obtain ⟨a,n,c,h1,h2,h3,h4,h5⟩:=h
  refine ⟨a,n,c,h1,h2,h3,?_,fun k ad hk ha=>Tys.R_plain cs _ _ _ 0 _ hp (h5 k ad hk ha)⟩
  cases dp <;> cases dp' <;> exact h4
theorem R_empty {w:World} {ω:Own} {e:Nat} {cs:Tys} {ad:Option Addr} {dp:Bool} {i:Nat}:(Ty.sl e cs).R w ω (modeOf (bif dp then 2 else 1) i []) (.slice ad 0 0) ([]:List cs.T):=
 ⟨ad,0,0,rfl,rfl,Nat.le_refl _,hd_none,fun i _ hi=>absurd hi (by omega)⟩
def RKV (w:World) (ω:Own) (id:Nat) (v:KV real) (u:Value):Prop:=
 match v with
 | ⟨.val t,x⟩=>t.R w ω .imm u x
 | ⟨.arr e cs dp,x⟩=>(Ty.sl e cs).R w ω (modeOf (bif dp then 2 else 1) id []) u x
 | ⟨.mp k,x⟩=>∃ b es c,ω b=some (id,[])∧u=.map (some b)∧w.heap[b]? = some (.map es c)∧RMs k es.toList x
def RKVs (w:World) (ω:Own):Nat→List (KV real)→List Value→Prop
 | _,[],[]=>True
 | id,v::vs,u::us=>RKV w ω id v u∧RKVs w ω (id+1) vs us
 | _,_,_=>False
theorem RKVs.length {w:World} {ω:Own}:∀ {id:Nat} {vs:List (KV real)} {us:List Value},RKVs w ω id vs us→vs.length=us.length
 | _,[],[],_=>rfl
 | _,_::_,_::_,h=>by simp [RKVs.length h.2]
 | _,[],_::_,h=>h.elim
 | _,_::_,[],h=>h.elim
theorem RKVs.app {w:World} {ω:Own}:∀ {id:Nat} {vs:List (KV real)} {us:List Value} {vs':List (KV real)} {us':List Value},RKVs w ω id vs us→RKVs w ω (id+vs.length) vs' us'→RKVs w ω id (vs++vs') (us++us')
 | _,[],[],_,_,_,h=>h
 | id,v::vs,_::_,vs',_,h,h'=>⟨h.1,RKVs.app h.2 (by rw [List.length_cons] at h';rwa [show id+1+vs.length=id+(vs.length+1) by omega])⟩
 | _,[],_::_,_,_,h,_=>h.elim
 | _,_::_,[],_,_,h,_=>h.elim
structure Gone (w:World) (ω:Own) (s:S) (ω1:Own) (s1:S) (m:List (Nat×Nat)) (lo hi:Nat):Prop where
 nz:∀ i j,(i,j)∈m→i≠0
 was:∀ i j,(i,j)∈m→(s.ob i).o≠.gone
 is:∀ i j,(i,j)∈m→(s1.ob i).o=.gone
 rng:∀ i j,(i,j)∈m→lo≤j∧j < hi
 inj:∀ i i' j,(i,j)∈m→(i',j)∈m→i=i'
 fn:∀ i j j',(i,j)∈m→(i,j')∈m→j=j'
 gone:∀ i,(s.ob i).o=.gone→(s1.ob i).o=.gone∧∀ b p,ω b=some (i,p)→ω1 b=some (i,p)
 back:∀ b k,ω1 b=some k→ω b=some k
theorem Gone.none {w:World} {ω:Own} {s:S} {ω1:Own} {s1:S} {m:List (Nat×Nat)} {lo hi:Nat} (h:Gone w ω s ω1 s1 m lo hi) (b:Nat) (hb:ω b=none):ω1 b=none:=by
 cases hq:ω1 b with
 | none=>rfl
 | some k=>rw [h.back b k hq] at hb;cases hb
theorem Gone.refl (w:World) (ω:Own) (s:S) (lo hi:Nat):Gone w ω s ω s [] lo hi:=
 {nz:=fun _ _ h=>nomatch h
  was:=fun _ _ h=>nomatch h
  is:=fun _ _ h=>nomatch h
  rng:=fun _ _ h=>nomatch h
  inj:=fun _ _ _ h=>nomatch h
  fn:=fun _ _ _ h=>nomatch h
  gone:=fun _ h=>⟨h,fun _ _ h=>h⟩
  back:=fun _ _ h=>h }
theorem Gone.trans {w:World} {ω:Own} {s:S} {ω1:Own} {s1:S} {m:List (Nat×Nat)} {lo mid hi:Nat} {ω2:Own} {s2:S} {m':List (Nat×Nat)} (hl:lo≤mid) (hh:mid≤hi)
  (h:Gone w ω s ω1 s1 m lo mid) (h':Gone w ω1 s1 ω2 s2 m' mid hi):Gone w ω s ω2 s2 (m++m') lo hi where
 nz i j hm:=(List.mem_append.1 hm).elim (h.nz i j) (h'.nz i j)
 was i j hm:=(List.mem_append.1 hm).elim (h.was i j) (fun hm e=>h'.was i j hm (h.gone i e).1)
 is i j hm:=(List.mem_append.1 hm).elim (fun hm=>(h'.gone i (h.is i j hm)).1) (h'.is i j)
 rng i j hm:=(List.mem_append.1 hm).elim (fun hm=>⟨(h.rng i j hm).1,Nat.lt_of_lt_of_le (h.rng i j hm).2 hh⟩) (fun hm=>⟨Nat.le_trans hl (h'.rng i j hm).1,(h'.rng i j hm).2⟩)
 inj i i' j h1 h2:=by
  rcases List.mem_append.1 h1 with h1 | h1 <;> rcases List.mem_append.1 h2 with h2 | h2
  ·exact h.inj i i' j h1 h2
  ·exact absurd (Nat.lt_of_lt_of_le (h.rng i j h1).2 (h'.rng i' j h2).1) (Nat.lt_irrefl _)
  ·exact absurd (Nat.lt_of_lt_of_le (h.rng i' j h2).2 (h'.rng i j h1).1) (Nat.lt_irrefl _)
  ·exact h'.inj i i' j h1 h2
 fn i j j' h1 h2:=by
  rcases List.mem_append.1 h1 with h1 | h1 <;> rcases List.mem_append.1 h2 with h2 | h2
  ·exact h.fn i j j' h1 h2
  ·exact absurd (h.is i j h1) (h'.was i j' h2)
  ·exact absurd (h.is i j' h2) (h'.was i j h1)
  ·exact h'.fn i j j' h1 h2
 gone i hg:=⟨(h'.gone i (h.gone i hg).1).1,fun b p hb=>(h'.gone i (h.gone i hg).1).2 b p ((h.gone i hg).2 b p hb)⟩
 back b k hb:=h.back b k (h'.back b k hb)
structure Later (ω:Own) (s:S) (ω1:Own) (s1:S):Prop where
 gone:∀ i,(s.ob i).o=.gone→(s1.ob i).o=.gone∧∀ b p,ω b=some (i,p)→ω1 b=some (i,p)
 back:∀ b k,ω1 b=some k→ω b=some k
theorem Gone.later {w:World} {ω:Own} {s:S} {ω1:Own} {s1:S} {m:List (Nat×Nat)} {lo hi:Nat} (h:Gone w ω s ω1 s1 m lo hi):Later ω s ω1 s1:=⟨h.gone,h.back⟩
theorem Later.refl (ω:Own) (s:S):Later ω s ω s:=⟨fun _ h=>⟨h,fun _ _ h=>h⟩,fun _ _ h=>h⟩
theorem Later.trans {ω ω1 ω2:Own} {s s1 s2:S} (h:Later ω s ω1 s1) (h':Later ω1 s1 ω2 s2):Later ω s ω2 s2:=
 ⟨fun i hg=>⟨(h'.gone i (h.gone i hg).1).1,fun b p hb=>(h'.gone i (h.gone i hg).1).2 b p ((h.gone i hg).2 b p hb)⟩,fun b k hb=>h.back b k (h'.back b k hb)⟩
theorem Later.none {ω:Own} {s:S} {ω1:Own} {s1:S} (h:Later ω s ω1 s1) (b:Nat) (hb:ω b=none):ω1 b=none:=by
 cases hq:ω1 b with
 | none=>rfl
 | some k=>rw [h.back b k hq] at hb;cases hb
structure Sends (w:World) (ω1 ω':Own) (m:List (Nat×Nat)):Prop where
 none:∀ b,b < w.heap.size→ω1 b=none→ω' b=none
 own:∀ i j,(i,j)∈m→∀ b p,b < w.heap.size→ω1 b=some (i,p)→ω' b=some (j,p)
theorem Sends.left {w:World} {ω1 ω':Own} {m m':List (Nat×Nat)} (h:Sends w ω1 ω' (m++m')):Sends w ω1 ω' m:=
 ⟨h.none,fun i j hm=>h.own i j (List.mem_append.2 (.inl hm))⟩
theorem Sends.right {w:World} {ω1 ω':Own} {m m':List (Nat×Nat)} (h:Sends w ω1 ω' (m++m')):Sends w ω1 ω' m':=
 ⟨h.none,fun i j hm=>h.own i j (List.mem_append.2 (.inr hm))⟩
section
variable {R:Type} {P:Program} {E:Env} {ω:Own} {a:Act} {w:World} {s:S} {k:S→Option R} {r:R} {o:Oper} {Q:Exit→Act→World→Prop}
theorem arr1_ok (h:Rel ω a w s) {e:Nat} {cs:Tys} {deep:Bool} {l:L} {u:Value} {x:List cs.T} {s1:S} (hl:RLf w ω s u l) (ht:arr1 (A:=real) e cs deep l s=some (x,s1)) :
  (s1=s∧x=[]∧∃ ad,u=.slice ad 0 0) ∨
  ∃ id g hh dp,l=.ref id g hh []∧g=(s.ob id).g∧(s.ob id).o=.arr e cs dp x∧s1=s.chg id true .gone∧(Ty.sl e cs).R w ω (modeOf (bif dp then 2 else 1) id []) u x∧(dp=deep∨cs.plain=true):=by
 cases l with
 | nilS e' cs' =>
  simp only [arr1] at ht
  split at ht
  ·rename_i hb
   have:=Ty.eq_of_beq hb
   injection this with e1 e2
   subst e1;subst e2
   injection ht with ht
   injection ht with h1 h2
   exact .inl ⟨h2.symm,h1.symm,hl⟩
  ·cases ht
 | ref id g hh p =>
  cases p with
  | cons _ _=>cases ht
  | nil =>
   simp only [arr1] at ht
   cases hg:Nat.beq (s.ob id).g g with
   | false=>rw [hg] at ht;cases ht
   | true =>
    rw [hg] at ht
    simp only [cond_true] at ht
    have hge:=Nat.eq_of_beq_eq_true hg
    cases hob:(s.ob id).o with
    | arr e' cs' dp y =>
     rw [hob] at ht
     simp only at ht
     cases hd:(dp == deep || cs'.plain) with
     | false=>rw [hd] at ht;cases ht
     | true =>
      rw [hd] at ht
      simp only [cond_true] at ht
      split at ht
      ·rename_i hb
       have:=Ty.eq_of_beq hb
       injection this with e1 e2
       subst e1;subst e2
       have ht:=Option.some.inj ht
       injection ht with h1 h2
       have h1:y=x:=h1
       subst h1
       refine .inr ⟨id,g,hh,dp,rfl,hge.symm,hob,h2.symm,hl.2.2 _ (cont_arr (h:=hh) hob hge.symm),?_⟩
       rw [Bool.or_eq_true,beq_iff_eq] at hd
       exact hd
      ·cases ht
    | imm _ _ _=>rw [hob] at ht;cases ht
    | blk _=>rw [hob] at ht;cases ht
    | gone=>rw [hob] at ht;cases ht
    | mp _ _=>rw [hob] at ht;cases ht
 | _=>cases ht
theorem mp1_ok {k:IntKind} {l:L} {u:Value} {x:real.V (.sl 0 (Tys.mp k))} {s1:S} (hl:RLf w ω s u l) (ht:mp1 (A:=real) k l s=some (x,s1)) :
  ∃ id,(s.ob id).o=.mp k x∧s1=s.chg id true .gone∧∃ b es c,ω b=some (id,[])∧u=.map (some b)∧w.heap[b]? = some (.map es c)∧RMs k es.toList x:=by
 cases l with
 | mref id g =>
  simp only [mp1] at ht
  cases hg:Nat.beq (s.ob id).g g with
  | false=>rw [hg] at ht;cases ht
  | true =>
   rw [hg] at ht
   simp only [cond_true] at ht
   have hge:=Nat.eq_of_beq_eq_true hg
   cases hob:(s.ob id).o with
   | mp k' y =>
    rw [hob] at ht
    simp only at ht
    split at ht
    ·rename_i hb
     have:=Ty.eq_of_beq hb
     have hk:k'=k:=by
      simp only [Ty.beq,Tys.beq,Tys.mp,Bool.and_eq_true,decide_eq_true_eq] at hb
      exact hb.2.1
     subst hk
     have ht:=Option.some.inj ht
     injection ht with h1 h2
     have h1:y=x:=h1
     subst h1
     exact ⟨id,hob,h2.symm,hl.2 hge _ _ hob⟩
    ·cases ht
   | arr _ _ _ _=>rw [hob] at ht;cases ht
   | imm _ _ _=>rw [hob] at ht;cases ht
   | blk _=>rw [hob] at ht;cases ht
   | gone=>rw [hob] at ht;cases ht
 | _=>cases ht
theorem gone_one {id lo:Nat} (h:Rel ω a w s) (ho:(s.ob id).o≠.gone):Gone w ω s ω (s.chg id true .gone) [(id,lo)] lo (lo+1) where
 nz i j hm:=by
  rw [List.mem_singleton] at hm
  injection hm with h1 h2
  subst h1
  exact h.ne0 ho
 was i j hm:=by
  rw [List.mem_singleton] at hm
  injection hm with h1 h2
  subst h1
  exact ho
 is i j hm:=by
  rw [List.mem_singleton] at hm
  injection hm with h1 h2
  subst h1
  rw [St.chg_self]
 rng i j hm:=by
  rw [List.mem_singleton] at hm
  injection hm with h1 h2
  subst h2
  exact ⟨Nat.le_refl _,Nat.lt_succ_self _⟩
 inj i i' j h1 h2:=by
  rw [List.mem_singleton] at h1 h2
  injection h1 with h1 _
  injection h2 with h2 _
  rw [h1,h2]
 fn i j j' h1 h2:=by
  rw [List.mem_singleton] at h1 h2
  injection h1 with _ h1
  injection h2 with _ h2
  rw [h1,h2]
 gone i hg:=by
  refine ⟨?_,fun _ _ h=>h⟩
  by_cases e:i=id
  ·subst e;exact absurd hg ho
  ·rw [St.chg_ne _ _ _ e];exact hg
 back _ _ h:=h
theorem Passes.gone1 (h:Rel ω a w s) (id:Nat):Passes ω a w s ω (s.chg id true .gone):=
 ⟨h.gone id true,Ext.refl _ _,gone_tr h.dom true⟩
theorem pack1_gone {t:Ty} {l:L} {v:Value} {x:t.T} {s':S} (h:Rel ω a w s) (hl:RLf w ω s v l) (hp:pack1 (A:=real) false t l s=some (x,s')) (lo:Nat) :
  ∃ ω',Passes ω a w s ω' s'∧Gone w ω s ω' s' [] lo lo∧t.R w ω' .imm v x:=by
 obtain ⟨ω',h1,h2,h3⟩:=pack1_full h hl hp
 refine ⟨ω',h1,?_,h2⟩
 rcases h3 with ⟨e1,e2⟩ | ⟨id,e,cs,dp,y,e1,e2,e3⟩
 ·subst e1;subst e2
  exact Gone.refl _ _ _ _ _
 ·subst e2;subst e3
  exact
  {nz:=fun _ _ h=>nomatch h
   was:=fun _ _ h=>nomatch h
   is:=fun _ _ h=>nomatch h
   rng:=fun _ _ h=>nomatch h
   inj:=fun _ _ _ h=>nomatch h
   fn:=fun _ _ _ h=>nomatch h
   gone:=fun i hg=>by
    have hne:i≠id:=fun e'=>by subst e';rw [e1] at hg;cases hg
    exact ⟨by rw [St.chg_ne _ _ _ hne];exact hg,fun b p hb=>Own.drop_other hb hne⟩
   back:=fun b k hb=>(Own.drop_spec hb).1 }
theorem take1_ok (h:Rel ω a w s) {kk:K} {l:L} {u:Value} {v:KV real} {s1:S} (hl:RLf w ω s u l) (ht:take1 kk l s=some (v,s1)) (lo:Nat) :
  ∃ ω1 m,Passes ω a w s ω1 s1∧Gone w ω s ω1 s1 m lo (lo+1)∧v.1=kk∧(kk.isVal=true→m=[])∧∀ ω2 s2 ω',Later ω1 s1 ω2 s2→Sends w ω2 ω' m→RKV w ω' lo v u:=by
 cases kk with
 | val t =>
  simp only [take1] at ht
  cases hp:pack1 (A:=real) false t l s with
  | none=>rw [hp] at ht;cases ht
  | some q =>
   obtain ⟨x,s2⟩:=q
   rw [hp] at ht
   have ht:=Option.some.inj ht
   injection ht with h1 h2
   subst h1;subst h2
   obtain ⟨ω',p1,p2,p3⟩:=pack1_gone h hl hp lo
   refine ⟨ω',[],p1,?_,rfl,fun _=>rfl,fun ω2 s3 ω'' hg hs=>R_imm_of (fun b hb hn=>hs.none b hb (hg.none b hn)) p3⟩
   exact { p2 with rng:=fun _ _ h=>nomatch h }
 | arr e cs deep =>
  simp only [take1] at ht
  cases hp:arr1 (A:=real) e cs deep l s with
  | none=>rw [hp] at ht;cases ht
  | some q =>
   obtain ⟨x,s2⟩:=q
   rw [hp] at ht
   have ht:=Option.some.inj ht
   injection ht with h1 h2
   subst h1;subst h2
   rcases arr1_ok h hl hp with ⟨e1,e2,ad,e3⟩ | ⟨id,g,hh,dp,e0,eg,e1,e2,e3,e4⟩
   ·subst e1;subst e2;subst e3
    exact ⟨ω,[],Passes.refl h,Gone.refl _ _ _ _ _,rfl,fun _=>rfl,fun _ _ _ _ _=>R_empty⟩
   ·subst e2
    have hng:(s.ob id).o≠.gone:=by rw [e1];exact fun e=>by cases e
    refine ⟨ω,[(id,lo)],Passes.gone1 h id,gone_one h hng,rfl,fun e=>(by cases e),fun ω2 s2 ω' hg hs=>?_⟩
    refine R_flatdeep e4 (R_name (i:=id) ⟨fun b hb hn=>hs.none b hb (hg.none b hn),fun b p hb hk=>?_⟩ e3)
    exact hs.own id lo (by simp) b p hb ((hg.gone id (by rw [St.chg_self])).2 b p hk)
 | mp kk =>
  simp only [take1] at ht
  cases hp:mp1 (A:=real) kk l s with
  | none=>rw [hp] at ht;cases ht
  | some q =>
   obtain ⟨x,s2⟩:=q
   rw [hp] at ht
   have ht:=Option.some.inj ht
   injection ht with h1 h2
   subst h1;subst h2
   obtain ⟨id,e1,e2,b,es,c,f1,f2,f3,f4⟩:=mp1_ok hl hp
   subst e2
   have hng:(s.ob id).o≠.gone:=by rw [e1];exact fun e=>by cases e
   refine ⟨ω,[(id,lo)],Passes.gone1 h id,gone_one h hng,rfl,fun e=>(by cases e),fun ω2 s2 ω' hg hs=>?_⟩
   exact ⟨b,es,c,hs.own id lo (by simp) b [] (h.dom _ _ f1) ((hg.gone id (by rw [St.chg_self])).2 b [] f1),f2,f3,f4⟩
theorem takes_ok : ∀ (ks : List K) (ls : List L) (us : List Value) (ω : Own) (s : S) (vs : List (KV real)) (s1 : S) (lo : Nat), Rel ω a w s → All2 (RLf w ω s) us ls → takes ks ls s = some (vs, s1) →
    ∃ ω1 m, Passes ω a w s ω1 s1 ∧ Gone w ω s ω1 s1 m lo (lo + ks.length) ∧ vs.map (·.1) = ks ∧ ((∀ k ∈ ks, k.isVal = true) → m = []) ∧ ∀ ω2 s2 ω', Later ω1 s1 ω2 s2 → Sends w ω2 ω' m → RKVs w ω' lo vs us
  | [], [], us, ω, s, vs, s1, lo, h, h2, ht => by
    injection ht with ht
    injection ht with e1 e2
    subst e1; subst e2
    cases us with
    | cons _ _ => exact h2.elim
    | nil => exact ⟨ω, [], Passes.refl h, Gone.refl _ _ _ _ _, rfl, fun _ => rfl, fun _ _ _ _ _ => trivial⟩
  | k :: ks, l :: ls, [], _, _, _, _, _, _, h2, _ => h2.elim
  | k :: ks, l :: ls, u :: us, ω, s, vs, s1, lo, h, h2, ht => by
    simp only [takes] at ht
    cases h1 : take1 k l s with
    | none => rw [h1] at ht; cases ht
    | some q =>
      obtain ⟨v, s2⟩ := q
      rw [h1] at ht
      simp only at ht
      cases h3 : takes ks ls s2 with
      | none => rw [h3] at ht; cases ht
      | some q2 =>
        obtain ⟨vs', s3⟩ := q2
        rw [h3] at ht
        injection ht with ht
        injection ht with e1 e2
        subst e1; subst e2
        obtain ⟨ω1, m1, p1, g1, t1, n1, r1⟩ := take1_ok h h2.1 h1 lo
        obtain ⟨ω2, m2, p2, g2, t2, n2, r2⟩ := takes_ok ks ls us ω1 s2 vs' s3 (lo + 1) p1.rel (h2.2.mono fun _ _ hl => RLf.frame p1.ext p1.tr hl) h3
        refine ⟨ω2, m1 ++ m2, p1.trans p2, ?_, by simp [t1, t2], fun hk => by rw [n1 (hk k (by simp)), n2 (fun k' hk' => hk k' (by simp [hk']))]; rfl, fun ω3 s4 ω' hg hs => ⟨r1 ω3 s4 ω' (g2.later.trans hg) hs.left, r2 ω3 s4 ω' hg hs.right⟩⟩
        have := Gone.trans (Nat.le_succ _) (Nat.le_add_right _ _) g1 g2
        rwa [show lo + 1 + ks.length = lo + (k :: ks).length by simp; omega] at this
  | [], _ :: _, _, _, _, _, _, _, _, _, ht => by cases ht
  | _ :: _, [], _, _, _, _, _, _, _, _, ht => by cases ht
end
end Go.R
namespace Go.R
section
variable {R:Type} {P:Program} {E:Env} {ω:Own} {a:Act} {w:World} {s:S} {k:S→Option R} {r:R} {o:Oper} {Q:Exit→Act→World→Prop}
def RCps (w:World) (ω:Own):Nat→List Cp→List (KV real)→List Value→Prop
 | _,[],vs,us=>vs=[]∧us=[]
 | b,.ro cs::r,vs,u::us=>(vs.take cs.len).length=cs.len∧(∃ x,toVs (A:=real) cs (vs.take cs.len)=some x∧RIptr w ω u cs x 0)∧RCps w ω b r (vs.drop cs.len) us
 | b,.mu ks::r,vs,u::us=>(vs.take ks.length).length=ks.length∧(∃ b' arr T,u=.pointer (some ⟨b',0,none⟩)∧ω b'=some (b,[])∧w.heap[b']? = some (.cells arr T (0,0))∧RKVs w ω (b+1) (vs.take ks.length) arr.toList)∧RCps w ω (b+(ks.length+1)) r (vs.drop ks.length) us
 | _,_::_,_,[]=>False
def RSh (w:World) (ω:Own) (b:Nat) (sh:Sh) (vs:List (KV real)) (u:Value):Prop:=
 match sh with
 | .one _=>∃ v,vs=[v]∧RKV w ω b v u
 | .agg _=>∃ cells:List Value,u=.agg cells.toArray∧RKVs w ω b vs cells
 | .blk _=>∃ b' arr T,u=.pointer (some ⟨b',0,none⟩)∧ω b'=some (b,[])∧w.heap[b']? = some (.cells arr T (0,0))∧RKVs w ω (b+1) vs arr.toList
 | .ro cs=>∃ x,toVs (A:=real) cs vs=some x∧RIptr w ω u cs x 0
 | .fn f caps=>∃ cv:List Value,u=.func (.func f) #[] cv.toArray∧All2 (fun v c=>RCap w ω ⟨fun _=>.dead,fun _=>⟨0,0,.gone⟩⟩ v c) cv (layCaps (A:=real) caps vs)∧∀ c∈layCaps (A:=real) caps vs,∃ cs x,c=.ro cs x
 | .fnm f caps=>∃ cv:List Value,u=.func (.func f) #[] cv.toArray∧RCps w ω b caps vs cv
def RShs (w:World) (ω:Own):Nat→List Sh→List (KV real)→List Value→Prop
 | _,[],vs,us=>vs=[]∧us=[]
 | b,sh::shs,vs,u::us=>(vs.take sh.ks.length).length=sh.ks.length∧RSh w ω b sh (vs.take sh.ks.length) u∧RShs w ω (b+sh.width) shs (vs.drop sh.ks.length) us
 | _,_::_,_,[]=>False
def InR (b n i:Nat):Prop:=b≤i∧i < b+n
theorem inR0 {b i:Nat} : ¬ InR b 0 i:=by unfold InR;omega
theorem lays_ok:∀ (vs:List (KV real)) (us:List Value) (id:Nat) (s:S),RKVs w ω id vs us →
  (∀ i,¬ InR id vs.length i→(lays id vs s).2.ob i=s.ob i)∧(∀ i,InR id vs.length i→(s.ob i).g < ((lays id vs s).2.ob i).g∧∀ cells,((lays id vs s).2.ob i).o≠.blk cells) ∧
  (lays id vs s).2.sl=s.sl ∧
  ∀ s'':S,(∀ i,InR id vs.length i→s''.ob i=(lays id vs s).2.ob i)→All2 (RLf w ω s'') us (lays id vs s).1
 | [],[],id,s,_=>⟨fun _ _=>rfl,fun i hi=>absurd hi (by unfold InR;simp),rfl,fun _ _=>trivial⟩
 | [],_::_,_,_,h=>h.elim
 | _::_,[],_,_,h=>h.elim
 | v::vs,u::us,id,s,h=>by
  obtain ⟨h1,h2,hsl,h3⟩:=lays_ok vs us (id+1) (lay1 id v s).2 h.2
  have hself:((lay1 id v s).2.ob id).g=(s.ob id).g+1∧(∀ cells,((lay1 id v s).2.ob id).o≠.blk cells)∧(lay1 id v s).2.sl=s.sl∧∀ i,i≠id→(lay1 id v s).2.ob i=s.ob i:=by
   obtain ⟨kk,x⟩:=v
   cases kk with
   | val t =>
    refine ⟨?_,?_,rfl,fun i hi=>?_⟩
    ·simp [lay1,St.new,St.upd_ob_self]
    ·intro cells e;simp [lay1,St.new,St.upd_ob_self] at e
    ·simp only [lay1];unfold St.new;exact St.upd_ob_ne _ _ hi
   | arr e cs dp =>
    refine ⟨?_,?_,rfl,fun i hi=>?_⟩
    ·simp [lay1,St.new,St.upd_ob_self]
    ·intro cells e;simp [lay1,St.new,St.upd_ob_self] at e
    ·simp only [lay1];unfold St.new;exact St.upd_ob_ne _ _ hi
   | mp kk =>
    refine ⟨?_,?_,rfl,fun i hi=>?_⟩
    ·simp [lay1,St.new,St.upd_ob_self]
    ·intro cells e;simp [lay1,St.new,St.upd_ob_self] at e
    ·simp only [lay1];unfold St.new;exact St.upd_ob_ne _ _ hi
  obtain ⟨q1,q2,q3,q4⟩:=hself
  simp only [lays]
  refine ⟨fun i hi=>?_,fun i hi=>?_,hsl.trans q3,fun s'' hs=>⟨?_,h3 s'' fun i hi=>hs i ?_⟩⟩
  ·rw [h1 i (by unfold InR at hi ⊢;simp only [List.length_cons] at hi;omega)]
   exact q4 i (by unfold InR at hi;simp only [List.length_cons] at hi;omega)
  ·by_cases e:i=id
   ·subst e
    rw [h1 i (by unfold InR;omega),q1]
    exact ⟨Nat.lt_succ_self _,q2⟩
   ·have:=h2 i (by unfold InR at hi ⊢;simp only [List.length_cons] at hi;omega)
    rw [q4 i e] at this
    exact this
  ·have hob:s''.ob id=(lay1 id v s).2.ob id:=by
    rw [hs id (by unfold InR;simp only [List.length_cons];omega)]
    exact h1 id (by unfold InR;omega)
   have hv:=h.1
   obtain ⟨kk,x⟩:=v
   cases kk with
   | val t=>exact hv
   | arr e cs dp =>
    have ho:s''.ob id=⟨(s.ob id).g+1,0,.arr e cs dp x⟩:=by
     rw [hob];simp only [lay1];unfold St.new;exact St.upd_ob_self _ _ _
    refine ⟨by rw [ho];exact Nat.le_refl _,by simp,fun c hc=>?_⟩
    rw [cont_arr (e:=e) (cs:=cs) (dp:=dp) (x:=x) (by rw [ho]) (by rw [ho])] at hc
    injection hc with hc
    subst hc
    exact hv
   | mp kk =>
    have ho:s''.ob id=⟨(s.ob id).g+1,0,.mp kk x⟩:=by
     rw [hob];simp only [lay1];unfold St.new;exact St.upd_ob_self _ _ _
    refine ⟨by rw [ho];exact Nat.le_refl _,fun _ k' x' hc=>?_⟩
    rw [ho] at hc
    injection hc with h1 h2
    subst h1
    subst h2
    exact hv
  ·unfold InR at hi ⊢;simp only [List.length_cons];omega
theorem layTV0_ok {sh:Sh} {vs:List (KV real)} {u:Value} {b:Nat} {s:S} (hf:∀ f caps,sh≠.fnm f caps) (hl:vs.length=sh.ks.length) (h:RSh w ω b sh vs u) :
  (∀ i,¬ InR b sh.width i→(layTV b sh vs s).2.ob i=s.ob i)∧(∀ i,InR b sh.width i→(s.ob i).g < ((layTV b sh vs s).2.ob i).g)∧(layTV b sh vs s).2.sl=s.sl ∧
  ∀ s'':S,(∀ i,InR b sh.width i→s''.ob i=(layTV b sh vs s).2.ob i)→RTV w ω s'' u (layTV b sh vs s).1 ∧
   ∀ i cells,InR b sh.width i→(s''.ob i).o=.blk cells→∃ c arr T,ω c=some (i,[])∧w.heap[c]? = some (.cells arr T (0,0))∧All2 (RLf w ω s'') arr.toList cells:=by
 cases sh with
 | one kk =>
  obtain ⟨v,rfl,hv⟩:=h
  obtain ⟨h1,h2,hsl,h3⟩:=lays_ok (w:=w) (ω:=ω) [v] [u] b s ⟨hv,trivial⟩
  refine ⟨h1,fun i hi=>(h2 i hi).1,hsl,fun s'' hs=>⟨(h3 s'' hs).1,fun i cells hi hc=>?_⟩⟩
  rw [hs i hi] at hc
  exact absurd hc ((h2 i hi).2 cells)
 | agg ks =>
  obtain ⟨cells,e1,hv⟩:=h
  obtain ⟨h1,h2,hsl,h3⟩:=lays_ok (w:=w) (ω:=ω) vs cells b s hv
  have hw:(Sh.agg ks).width=vs.length:=hl.symm
  rw [hw]
  refine ⟨h1,fun i hi=>(h2 i hi).1,hsl,fun s'' hs=>⟨⟨cells,e1,h3 s'' hs⟩,fun i cells' hi hc=>?_⟩⟩
  rw [hs i hi] at hc
  exact absurd hc ((h2 i hi).2 cells')
 | blk ks =>
  obtain ⟨b',arr,T,e1,e2,e3,hv⟩:=h
  obtain ⟨h1,h2,hsl,h3⟩:=lays_ok (w:=w) (ω:=ω) vs arr.toList (b+1) s hv
  have hw:(Sh.blk ks).width=vs.length+1:=by rw [hl];rfl
  rw [hw]
  have hne:∀ i,i≠b→(layTV b (.blk ks) vs s).2.ob i=(lays (b+1) vs s).2.ob i:=fun i hi=>by simp only [layTV];unfold St.new;exact St.upd_ob_ne _ _ hi
  have hself:(layTV b (.blk ks) vs s).2.ob b=⟨((lays (b+1) vs s).2.ob b).g+1,0,.blk (lays (b+1) vs s).1⟩:=by simp only [layTV];unfold St.new;exact St.upd_ob_self _ _ _
  have hb:(lays (b+1) vs s).2.ob b=s.ob b:=h1 b (by unfold InR;omega)
  refine ⟨fun i hi=>?_,fun i hi=>?_,hsl,fun s'' hs=>?_⟩
  ·rw [hne i (by unfold InR at hi;omega)]
   exact h1 i (by unfold InR at hi ⊢;omega)
  ·by_cases e:i=b
   ·subst e;rw [hself,hb];exact Nat.lt_succ_self _
   ·rw [hne i e];exact (h2 i (by unfold InR at hi ⊢;omega)).1
  ·have hcells:=h3 s'' (fun i hi=>by
    rw [hs i (by unfold InR at hi ⊢;omega)]
    exact hne i (by unfold InR at hi;omega))
   have hsb:=hs b (by unfold InR;omega)
   rw [hself] at hsb
   refine ⟨⟨?_,fun _ cells _=>⟨b',e2,e1⟩⟩,fun i cells hi hc=>?_⟩
   ·rw [hsb];exact Nat.le_refl _
   ·by_cases e:i=b
    ·subst e
     rw [hsb] at hc
     injection hc with hc
     subst hc
     exact ⟨b',arr,T,e2,e3,hcells⟩
    ·rw [hs i hi,hne i e] at hc
     exact absurd hc ((h2 i (by unfold InR at hi ⊢;omega)).2 cells)
 | ro cs =>
  obtain ⟨x,e1,e2⟩:=h
  have hlay:layTV (A:=real) b (.ro cs) vs s=(.one (.iptr cs x 0),s):=by simp only [layTV];rw [e1]
  rw [hlay]
  exact ⟨fun _ _=>rfl,fun i hi=>absurd hi inR0,rfl,fun s'' _=>⟨e2,fun i _ hi=>absurd hi inR0⟩⟩
 | fn f caps =>
  obtain ⟨cv,e1,e2,e3⟩:=h
  refine ⟨fun _ _=>rfl,fun i hi=>absurd hi inR0,rfl,fun s'' _=>⟨⟨cv,e1,?_⟩,fun i _ hi=>absurd hi inR0⟩⟩
  have key:∀ (cv:List Value) (cc:List (Cap real)),All2 (fun v c=>RCap w ω ⟨fun _=>.dead,fun _=>⟨0,0,.gone⟩⟩ v c) cv cc→(∀ c∈cc,∃ cs x,c=.ro cs x)→All2 (fun v c=>RCap w ω s'' v c) cv cc:=by
   intro cv
   induction cv with
   | nil=>intro cc h2 _;cases cc with | nil=>trivial | cons _ _=>exact h2.elim
   | cons v cv ih =>
    intro cc h2 hro
    cases cc with
    | nil=>exact h2.elim
    | cons c cc =>
     refine ⟨?_,ih cc h2.2 (fun c' hc'=>hro c' (by simp [hc']))⟩
     obtain ⟨cs,x,rfl⟩:=hro c (by simp)
     exact h2.1
  exact key cv _ e2 e3
 | fnm f caps=>exact absurd rfl (hf f caps)
theorem layCps_ok:∀ (caps:List Cp) (vs:List (KV real)) (us:List Value) (b:Nat) (s:S),RCps w ω b caps vs us →
  (∀ i,¬ InR b (cpW caps) i→(layCps b caps vs s).2.ob i=s.ob i)∧(∀ i,InR b (cpW caps) i→(s.ob i).g < ((layCps b caps vs s).2.ob i).g)∧(layCps b caps vs s).2.sl=s.sl ∧
  ∀ s'':S,(∀ i,InR b (cpW caps) i→s''.ob i=(layCps b caps vs s).2.ob i)→All2 (RCap w ω s'') us (layCps b caps vs s).1 ∧
   ∀ i cells,InR b (cpW caps) i→(s''.ob i).o=.blk cells→∃ c arr T,ω c=some (i,[])∧w.heap[c]? = some (.cells arr T (0,0))∧All2 (RLf w ω s'') arr.toList cells
 | [],vs,us,b,s,h=>by
  obtain ⟨rfl,rfl⟩:=h
  exact ⟨fun _ _=>rfl,fun i hi=>absurd hi inR0,rfl,fun _ _=>⟨trivial,fun i _ hi=>absurd hi inR0⟩⟩
 | .ro _::_,vs,[],b,s,h=>h.elim
 | .mu _::_,vs,[],b,s,h=>h.elim
 | .ro cs::r,vs,u::us,b,s,h=>by
  obtain ⟨_,⟨x,h1,h2⟩,h3⟩:=h
  obtain ⟨b1,b2,b3,b4⟩:=layCps_ok r (vs.drop cs.len) us b s h3
  have hw:cpW (.ro cs::r)=cpW r:=by simp [cpW,Cp.width]
  have hlay:layCps (A:=real) b (.ro cs::r) vs s=(.ro cs x::(layCps b r (vs.drop cs.len) s).1,(layCps b r (vs.drop cs.len) s).2):=by simp only [layCps];rw [h1]
  rw [hlay,hw]
  refine ⟨b1,b2,b3,fun s'' hs=>?_⟩
  obtain ⟨d1,d2⟩:=b4 s'' hs
  exact ⟨⟨h2,d1⟩,d2⟩
 | .mu ks::r,vs,u::us,b,s,h=>by
  obtain ⟨hl,h1,h2⟩:=h
  obtain ⟨a1,a2,a3,a4⟩:=layTV0_ok (sh:=.blk ks) (s:=s) (fun _ _ e=>by cases e) hl h1
  obtain ⟨b1,b2,b3,b4⟩:=layCps_ok r (vs.drop ks.length) us (b+(ks.length+1)) (layTV b (.blk ks) (vs.take ks.length) s).2 h2
  have hw:cpW (.mu ks::r)=(ks.length+1)+cpW r:=rfl
  have hw2:(Sh.blk ks).width=ks.length+1:=rfl
  rw [hw2] at a1 a2 a4
  rw [hw]
  refine ⟨fun i hi=>?_,fun i hi=>?_,b3.trans a3,fun s'' hs=>?_⟩
  ·refine (b1 i (by unfold InR at hi ⊢;omega)).trans ?_
   exact a1 i (by unfold InR at hi ⊢;omega)
  ·by_cases e:InR b (ks.length+1) i
   ·have:=b1 i (by unfold InR at e ⊢;omega)
    show (s.ob i).g < ((layCps (b+(ks.length+1)) r (vs.drop ks.length) (layTV b (.blk ks) (vs.take ks.length) s).2).2.ob i).g
    rw [this]
    exact a2 i e
   ·have:=b2 i (by unfold InR at hi e ⊢;omega)
    rw [a1 i e] at this
    exact this
  ·obtain ⟨c1,c2⟩:=a4 s'' (fun i hi=>by
    rw [hs i (by unfold InR at hi ⊢;omega)]
    exact b1 i (by unfold InR at hi ⊢;omega))
   obtain ⟨d1,d2⟩:=b4 s'' (fun i hi=>hs i (by unfold InR at hi ⊢;omega))
   refine ⟨⟨c1,d1⟩,fun i cells hi hc=>?_⟩
   by_cases e:InR b (ks.length+1) i
   ·exact c2 i cells e hc
   ·exact d2 i cells (by unfold InR at hi e ⊢;omega) hc
theorem layTV_ok {sh:Sh} {vs:List (KV real)} {u:Value} {b:Nat} {s:S} (hl:vs.length=sh.ks.length) (h:RSh w ω b sh vs u) :
  (∀ i,¬ InR b sh.width i→(layTV b sh vs s).2.ob i=s.ob i)∧(∀ i,InR b sh.width i→(s.ob i).g < ((layTV b sh vs s).2.ob i).g)∧(layTV b sh vs s).2.sl=s.sl ∧
  ∀ s'':S,(∀ i,InR b sh.width i→s''.ob i=(layTV b sh vs s).2.ob i)→RTV w ω s'' u (layTV b sh vs s).1 ∧
   ∀ i cells,InR b sh.width i→(s''.ob i).o=.blk cells→∃ c arr T,ω c=some (i,[])∧w.heap[c]? = some (.cells arr T (0,0))∧All2 (RLf w ω s'') arr.toList cells:=by
 by_cases hf:∃ f caps,sh=.fnm f caps
 ·obtain ⟨f,caps,rfl⟩:=hf
  obtain ⟨cv,e1,e2⟩:=h
  obtain ⟨b1,b2,b3,b4⟩:=layCps_ok caps vs cv b s e2
  exact ⟨b1,b2,b3,fun s'' hs=>⟨⟨cv,e1,(b4 s'' hs).1⟩,(b4 s'' hs).2⟩⟩
 ·exact layTV0_ok (fun f caps e=>hf ⟨f,caps,e⟩) hl h
def widths (shs:List Sh):Nat:=(shs.map Sh.width).sum
theorem layAll_ok:∀ (shs:List Sh) (vs:List (KV real)) (us:List Value) (b:Nat) (s:S),RShs w ω b shs vs us →
  (∀ i,¬ InR b (widths shs) i→(layAll b shs vs s).2.ob i=s.ob i)∧(∀ i,InR b (widths shs) i→(s.ob i).g < ((layAll b shs vs s).2.ob i).g)∧(layAll b shs vs s).2.sl=s.sl ∧
  ∀ s'':S,(∀ i,InR b (widths shs) i→s''.ob i=(layAll b shs vs s).2.ob i)→All2 (RTV w ω s'') us (layAll b shs vs s).1 ∧
   ∀ i cells,InR b (widths shs) i→(s''.ob i).o=.blk cells→∃ c arr T,ω c=some (i,[])∧w.heap[c]? = some (.cells arr T (0,0))∧All2 (RLf w ω s'') arr.toList cells
 | [],vs,us,b,s,h=>by
  obtain ⟨rfl,rfl⟩:=h
  exact ⟨fun _ _=>rfl,fun i hi=>absurd hi (by unfold InR widths;simp),rfl,fun _ _=>⟨trivial,fun i _ hi=>absurd hi (by unfold InR widths;simp)⟩⟩
 | sh::shs,vs,[],b,s,h=>h.elim
 | sh::shs,vs,u::us,b,s,h=>by
  obtain ⟨hl,h1,h2⟩:=h
  obtain ⟨a1,a2,a3,a4⟩:=layTV_ok (s:=s) hl h1
  obtain ⟨b1,b2,b3,b4⟩:=layAll_ok shs (vs.drop sh.ks.length) us (b+sh.width) (layTV b sh (vs.take sh.ks.length) s).2 h2
  have hw:widths (sh::shs)=sh.width+widths shs:=by simp [widths]
  simp only [layAll]
  rw [hw]
  refine ⟨fun i hi=>?_,fun i hi=>?_,b3.trans a3,fun s'' hs=>?_⟩
  ·rw [b1 i (by unfold InR at hi ⊢;omega)]
   exact a1 i (by unfold InR at hi ⊢;omega)
  ·by_cases e:InR b sh.width i
   ·rw [b1 i (by unfold InR at e ⊢;omega)]
    exact a2 i e
   ·have:=b2 i (by unfold InR at hi e ⊢;omega)
    rw [a1 i e] at this
    exact this
  ·obtain ⟨c1,c2⟩:=a4 s'' (fun i hi=>by
    rw [hs i (by unfold InR at hi ⊢;omega)]
    exact b1 i (by unfold InR at hi ⊢;omega))
   obtain ⟨d1,d2⟩:=b4 s'' (fun i hi=>hs i (by unfold InR at hi ⊢;omega))
   refine ⟨⟨c1,d1⟩,fun i cells hi hc=>?_⟩
   by_cases e:InR b sh.width i
   ·exact c2 i cells e hc
   ·exact d2 i cells (by unfold InR at hi e ⊢;omega) hc
theorem setAll_ob:∀ (ds:List Nat) (vs:List TVr) (s:S),(setAll ds vs s).ob=s.ob
 | [],_,_=>rfl
 | _::_,[],_=>rfl
 | d::ds,v::vs,s=>by simp only [setAll];rw [setAll_ob];rfl
theorem setAll_sl (P:Nat→TVr→Prop):∀ (ds:List Nat) (vs:List TVr) (s:S),(∀ i,P i (s.sl i))→(∀ (j d:Nat) (v:TVr),ds[j]? = some d→vs[j]? = some v→P d v)→∀ i,P i ((setAll ds vs s).sl i)
 | [],_,_,h,_,i=>h i
 | _::_,[],_,h,_,i=>h i
 | d::ds,v::vs,s,h,h2,i=>by
  simp only [setAll]
  refine setAll_sl P ds vs _ (fun i=>?_) (fun j d' v' h3 h4=>h2 (j+1) d' v' (by simpa using h3) (by simpa using h4)) i
  by_cases e:i=d
  ·subst e;rw [St.set_sl_self];exact h2 0 i v rfl rfl
  ·rw [St.set_sl_ne _ _ e];exact h i
theorem laid_rel {s0:S} {shs:List Sh} {vs:List (KV real)} {us:List Value} {b:Nat} {ds:List Nat} (hb:0 < b) (hinj:∀ b b' k,ω b=some k→ω b'=some k→b=b') (hdom:∀ b k,ω b=some k→b < w.heap.size) (hdef:a.defers=[])
  (hgone:∀ i,(s0.ob i).o=.gone) (hsl:∀ i,RTV w ω s0 (a.tmps.getD i undef) (s0.sl i)) (hv:RShs w ω b shs vs us) (hds:∀ (j d:Nat),ds[j]? = some d→∀ u,us[j]? = some u→a.tmps.getD d undef=u) :
  Rel ω a w (setAll ds (layAll b shs vs s0).1 (layAll b shs vs s0).2):=by
 obtain ⟨h1,h2,h3,h4⟩:=layAll_ok shs vs us b s0 hv
 have hob:=setAll_ob ds (layAll b shs vs s0).1 (layAll b shs vs s0).2
 have hs:=h4 (setAll ds (layAll b shs vs s0).1 (layAll b shs vs s0).2) (fun i _=>by rw [hob])
 have tr:∀ i,Tr w ω s0 w ω (setAll ds (layAll b shs vs s0).1 (layAll b shs vs s0).2) i:=fun i=>by
  by_cases e:InR b (widths shs) i
  ·exact Newer.tr (by unfold Newer;rw [hob];exact h2 i e)
  ·exact Tr.of_ob hdom (by rw [hob];exact h1 i e)
 exact
 {inj:=hinj
  dom:=hdom
  defers:=hdef
  own0:=by rw [hob,h1 0 (by unfold InR;omega)];exact hgone 0
  slots:=fun i=>by
   refine setAll_sl (fun i v=>RTV w ω (setAll ds (layAll b shs vs s0).1 (layAll b shs vs s0).2) (a.tmps.getD i undef) v) ds _ _ (fun i=>?_) (fun j d v hj hv'=>?_) i
   ·rw [h3]
    exact RTV.frame (Ext.refl _ _) tr (hsl i)
   ·obtain ⟨u,hu,hr⟩:=hs.1.get j v hv'
    rw [hds j d hj u hu]
    exact hr
  blks:=fun i cells hc=>by
   by_cases e:InR b (widths shs) i
   ·exact hs.2 i cells e hc
   ·rw [hob,h1 i e,hgone i] at hc
    cases hc }
end
end Go.R
namespace Go.R
section
variable {R:Type} {P:Program} {E:Env} {ω:Own} {a:Act} {w:World} {s:S} {k:S→Option R} {r:R} {o:Oper} {Q:Exit→Act→World→Prop}
theorem drop_blk {id:Nat} {ls:List L} (h:Rel ω a w s) (ho:(s.ob id).o=.blk ls) (lo:Nat):Passes ω a w s (ω.drop id) (s.chg id true .gone)∧Gone w ω s (ω.drop id) (s.chg id true .gone) [] lo lo:=by
 have h0:id≠0:=h.ne0 (by rw [ho];exact fun e=>by cases e)
 have tr:∀ j,Tr w ω s w (ω.drop id) (s.chg id true .gone) j:=fun j=>by
  by_cases e:j=id
  ·subst e
   have ho':((s.chg j true .gone).ob j).o=.gone:=by rw [St.chg_self]
   have hg:((s.chg j true .gone).ob j).g=(s.ob j).g:=by rw [St.chg_self]
   have hh:((s.chg j true .gone).ob j).h=bif true then (s.ob j).h+1 else (s.ob j).h:=by rw [St.chg_self]
   exact
   {ref:=fun v g h p hr=>⟨by rw [hg];exact hr.1,by rw [hg,hh];exact h_step true hr.2.1,fun c hc=>(gone_cont ho' hc).elim⟩
    ptr:=fun v g off hr=>⟨by rw [hg];exact hr.1,fun _ cells hc=>by rw [ho'] at hc;cases hc⟩
    eptr:=fun v g h p i off hr=>⟨by rw [hg];exact hr.1,by rw [hg,hh];exact h_step true hr.2.1,fun c hc=>(gone_cont ho' hc).elim⟩
    mref:=fun v g hr=>hr.shut hg fun k x e=>by rw [ho'] at e;cases e }
  ·exact Same.tr ⟨St.chg_ne _ _ _ e,fun b k _ hk hj=>⟨rfl,by rw [hk];exact Own.drop_other hk (by rw [hj];exact e)⟩⟩ (freeze_ext _ _ _ h0) h.dom
 refine ⟨⟨?_,freeze_ext _ _ _ h0,tr⟩,?_⟩
 ·exact
  {inj:=fun b b' k h1 h2=>h.inj b b' k (Own.drop_spec h1).1 (Own.drop_spec h2).1
   dom:=fun b k h1=>h.dom b k (Own.drop_spec h1).1
   defers:=h.defers
   own0:=by rw [St.chg_ne _ _ _ (Ne.symm h0)];exact h.own0
   slots:=fun i=>RTV.frame (freeze_ext _ _ _ h0) tr (h.slots i)
   blks:=fun j cells hc=>by
    by_cases e:j=id
    ·subst e;rw [St.chg_self] at hc;cases hc
    ·rw [St.chg_ne _ _ _ e] at hc
     obtain ⟨b,arr,T,h1,h2,h3⟩:=h.blks j cells hc
     exact ⟨b,arr,T,Own.drop_other h1 e,h2,h3.mono fun _ _ hl=>RLf.frame (freeze_ext _ _ _ h0) tr hl⟩ }
 ·exact
  {nz:=fun _ _ h=>nomatch h
   was:=fun _ _ h=>nomatch h
   is:=fun _ _ h=>nomatch h
   rng:=fun _ _ h=>nomatch h
   inj:=fun _ _ _ h=>nomatch h
   fn:=fun _ _ _ h=>nomatch h
   gone:=fun i hg=>by
    have hne:i≠id:=fun e=>by subst e;rw [ho] at hg;cases hg
    exact ⟨by rw [St.chg_ne _ _ _ hne];exact hg,fun b p hb=>Own.drop_other hb hne⟩
   back:=fun b k hb=>(Own.drop_spec hb).1 }
theorem Gone.widen {ω0:Own} {s0 s1:S} {m:List (Nat×Nat)} {lo hi lo' hi':Nat} (h:Gone w ω0 s0 ω s1 m lo hi) (h1:lo'≤lo) (h2:hi≤hi'):Gone w ω0 s0 ω s1 m lo' hi':=
 {h with rng:=fun i j hm=>⟨Nat.le_trans h1 (h.rng i j hm).1,Nat.lt_of_lt_of_le (h.rng i j hm).2 h2⟩ }
theorem ks_val:∀ (cs:Tys) (k:K),k∈cs.ks→k.isVal=true
 | .nil,_,h=>by cases h
 | .cons t ts,k,h=>by
  cases h with
  | head=>rfl
  | tail _ h=>exact ks_val ts k h
mutual
theorem ty_beq_self:∀ t:Ty,Ty.beq t t=true
 | .int k=>by simp [Ty.beq]
 | .bool=>rfl
 | .str=>rfl
 | .sl e cs=>by simp only [Ty.beq,Bool.and_eq_true];exact ⟨Nat.beq_refl e,tys_beq_self cs⟩
theorem tys_beq_self:∀ t:Tys,Tys.beq t t=true
 | .nil=>rfl
 | .cons t ts=>by simp only [Tys.beq,Bool.and_eq_true];exact ⟨ty_beq_self t,tys_beq_self ts⟩
end
theorem toVs_kvs:∀ (cs:Tys) (x:cs.T),toVs (A:=real) cs (kvs (A:=real) cs x)=some x
 | .nil,_=>rfl
 | .cons t ts,x=>by
  simp only [kvs,toVs]
  have hb:Ty.beq t t=true:=ty_beq_self t
  rw [dif_pos hb]
  have ih:=toVs_kvs ts (tlT x)
  show Option.map (fun y=>real.cn (real.cast hb (real.hd x)) y) (toVs (A:=real) ts (kvs (A:=real) ts (tlT x)))=some x
  rw [ih]
  exact congrArg some (cn_eta x)
theorem kvs_ks : ∀ (cs : Tys) (x : cs.T), (kvs (A := real) cs x).map (·.1) = cs.ks
  | .nil, _ => rfl
  | .cons t ts, x => congrArg (K.val t :: ·) (kvs_ks ts (tlT x))
theorem ks_len:∀ (cs:Tys),cs.ks.length=cs.len
 | .nil=>rfl
 | .cons _ ts=>by simp [Tys.ks,Tys.len,ks_len ts]
theorem RKVs_row {ω' : Own} : ∀ (cs : Tys) (vs : List (KV real)) (us : List Value) (b : Nat), vs.map (·.1) = cs.ks → RKVs w ω' b vs us → ∃ x, toVs (A := real) cs vs = some x ∧ ∀ (j : Nat) (g : Nat → Option Value), (∀ k u, us[k]? = some u → g (j + k) = some u) → cs.R w ω' (fun _ => .imm) g j x
  | .nil, [], us, b, _, _ => ⟨(), rfl, fun _ _ _ => trivial⟩
  | .nil, _ :: _, _, _, h, _ => by simp [Tys.ks] at h
  | .cons t ts, [], _, _, h, _ => by simp [Tys.ks] at h
  | .cons t ts, v :: vs, [], _, _, h => h.elim
  | .cons t ts, ⟨kk, y⟩ :: vs, u :: us, b, h, hr => by
    simp only [List.map_cons, Tys.ks, List.cons.injEq] at h
    obtain ⟨h1, h2⟩ := h
    subst h1
    obtain ⟨x, q1, q2⟩ := RKVs_row ts vs us (b + 1) h2 hr.2
    have hb : Ty.beq t t = true := ty_beq_self t
    refine ⟨cnT y x, ?_, fun j g hg => ?_⟩
    · simp only [toVs]
      rw [dif_pos hb, q1]
      rfl
    · have hh : hdT (cnT (t := t) (ts := ts) y x) = y := hd_cn _ _
      have ht : tlT (cnT (t := t) (ts := ts) y x) = x := tl_cn _ _
      refine ⟨⟨u, by simpa using hg 0 u rfl, ?_⟩, ?_⟩
      · rw [hh]; exact hr.1
      · rw [ht]
        exact q2 (j + 1) g (fun k u' hu' => by
          have := hg (k + 1) u' (by simpa using hu')
          rwa [show j + (k + 1) = j + 1 + k by omega] at this)
theorem takeCap_ok (h : Rel ω a w s) {cs : Tys} {c : Cap real} {u : Value} {vs : List (KV real)} {s1 : S} (hc : RCap w ω s u c) (ht : takeCap cs c s = some (vs, s1)) (b : Nat) :
    ∃ ω1, Passes ω a w s ω1 s1 ∧ Gone w ω s ω1 s1 [] b b ∧ vs.map (·.1) = cs.ks ∧ ∃ x, toVs (A := real) cs vs = some x ∧ ∀ ω2 s2 ω', Later ω1 s1 ω2 s2 → (∀ b, b < w.heap.size → ω2 b = none → ω' b = none) → RIptr w ω' u cs x 0 := by
  cases c with
  | ro cs' x =>
    simp only [takeCap] at ht
    split at ht
    · rename_i hb
      have := Tys.eq_of_beq hb
      subst this
      have ht := Option.some.inj ht
      injection ht with e1 e2
      subst e1; subst e2
      refine ⟨ω, Passes.refl h, Gone.refl _ _ _ _ _, kvs_ks _ _, x, toVs_kvs _ _, fun ω2 s2 ω' hL hn => ?_⟩
      obtain ⟨b, o', h1, h2, h3, h4⟩ := hc
      exact ⟨b, o', hn b h2 (hL.none b h1), h2, h3, Tys.R_free cs' _ _ 0 x (fun _ b hb hk => by
        rcases hk with hk | ⟨_, _, hk⟩
        · exact hn b hb (hL.none b hk)
        · exact hk.elim) h4⟩
    · cases ht
  | ptr id g =>
    simp only [takeCap] at ht
    cases hb : blkOf s id g with
    | none => rw [hb] at ht; cases ht
    | some ls =>
      rw [hb] at ht
      simp only at ht
      cases h2 : takes cs.ks ls s with
      | none => rw [h2] at ht; cases ht
      | some q =>
        obtain ⟨vs', s2⟩ := q
        rw [h2] at ht
        simp only at ht
        obtain ⟨e1, e2⟩ := blkOf_ok hb
        obtain ⟨b', f1, f2⟩ := hc.2 e1 ls e2
        obtain ⟨b'', arr, T, q1, q2, q3⟩ := h.blks id ls e2
        obtain rfl := h.inj _ _ _ f1 q1
        obtain ⟨ω1, m, p1, g1, t1, n1, r1⟩ := takes_ok cs.ks ls arr.toList ω s vs' s2 b h q3 h2
        cases hob : (s2.ob id).o with
        | blk ls' =>
          rw [hob] at ht
          have ht := Option.some.inj ht
          injection ht with v1 v2
          subst v1; subst v2
          have hm := n1 (ks_val cs)
          subst hm
          obtain ⟨p2, g2⟩ := drop_blk p1.rel hob b
          have g1' : Gone w ω s ω1 s2 [] b b := { g1 with rng := fun _ _ h => nomatch h }
          refine ⟨ω1.drop id, p1.trans p2, Gone.trans (Nat.le_refl _) (Nat.le_refl _) g1' g2, t1, ?_⟩
          obtain ⟨x, x1, _⟩ := RKVs_row cs vs' arr.toList b t1 (r1 ω1 s2 ω1 (Later.refl _ _) ⟨fun _ _ h => h, fun _ _ h => nomatch h⟩)
          refine ⟨x, x1, fun ω2 s3 ω' hL hn => ?_⟩
          have hk := r1 ω2 s3 ω' (g2.later.trans hL) ⟨hn, fun _ _ h => nomatch h⟩
          obtain ⟨x', x1', x2⟩ := RKVs_row cs vs' arr.toList b t1 hk
          rw [x1] at x1'
          injection x1' with x1'
          subst x1'
          have hnone : (ω1.drop id) b' = none := by
            cases hq : ω1 b' with
            | none => exact Own.drop_none hq
            | some kk =>
              have := g1.back b' kk hq
              rw [f1] at this
              injection this with this
              subst this
              exact Own.drop_self hq rfl
          refine ⟨b', 0, hn b' (h.dom _ _ f1) (hL.none b' hnone), h.dom _ _ f1, f2, x2 0 _ (fun k u hu => ?_)⟩
          rw [Nat.zero_add, Nat.zero_add, cell_of_row w b' k arr T (0, 0) q2]
          simpa using hu
        | arr _ _ _ _ => rw [hob] at ht; cases ht
        | imm _ _ _ => rw [hob] at ht; cases ht
        | gone => rw [hob] at ht; cases ht
        | mp _ _ => rw [hob] at ht; cases ht
theorem takeCaps_ok : ∀ (caps : List Tys) (cc : List (Cap real)) (cv : List Value) (ω : Own) (s : S) (vs : List (KV real)) (s1 : S) (b : Nat), Rel ω a w s → All2 (fun v c => RCap w ω s v c) cv cc → takeCaps caps cc s = some (vs, s1) →
    ∃ ω1, Passes ω a w s ω1 s1 ∧ Gone w ω s ω1 s1 [] b b ∧ vs.map (·.1) = (caps.map Tys.ks).flatten ∧ (∀ c ∈ layCaps (A := real) caps vs, ∃ cs x, c = .ro cs x) ∧ ∀ ω2 s2 ω', Later ω1 s1 ω2 s2 → (∀ b, b < w.heap.size → ω2 b = none → ω' b = none) →
      All2 (fun v c => RCap w ω' ⟨fun _ => .dead, fun _ => ⟨0, 0, .gone⟩⟩ v c) cv (layCaps (A := real) caps vs)
  | [], [], cv, ω, s, vs, s1, b, h, h2, ht => by
    injection ht with ht
    injection ht with e1 e2
    subst e1; subst e2
    cases cv with
    | cons _ _ => exact h2.elim
    | nil => exact ⟨ω, Passes.refl h, Gone.refl _ _ _ _ _, rfl, (fun c hc => absurd hc (by simp [layCaps])), fun _ _ _ _ _ => trivial⟩
  | cs :: caps, c :: cc, [], _, _, _, _, _, _, h2, _ => h2.elim
  | cs :: caps, c :: cc, v :: cv, ω, s, vs, s1, b, h, h2, ht => by
    simp only [takeCaps] at ht
    cases h1 : takeCap cs c s with
    | none => rw [h1] at ht; cases ht
    | some q =>
      obtain ⟨v1, s2⟩ := q
      rw [h1] at ht
      simp only at ht
      cases h3 : takeCaps caps cc s2 with
      | none => rw [h3] at ht; cases ht
      | some q2 =>
        obtain ⟨vs', s3⟩ := q2
        rw [h3] at ht
        injection ht with ht
        injection ht with e1 e2
        subst e1; subst e2
        obtain ⟨ω1, p1, g1, t1, x, x1, r1⟩ := takeCap_ok h h2.1 h1 b
        obtain ⟨ω2, p2, g2, t2, q2, r2⟩ := takeCaps_ok caps cc cv ω1 s2 vs' s3 b p1.rel (h2.2.mono fun _ _ hl => RCap.frame p1.ext p1.tr hl) h3
        have hlen : v1.length = cs.len := by rw [← ks_len, ← t1]; simp
        have hlay : layCaps (A := real) (cs :: caps) (v1 ++ vs') = .ro cs x :: layCaps (A := real) caps vs' := by
          simp only [layCaps]
          rw [List.take_left' hlen, List.drop_left' hlen, x1]
        refine ⟨ω2, p1.trans p2, Gone.trans (Nat.le_refl _) (Nat.le_refl _) g1 g2, by simp [t1, t2], ?_, fun ω3 s4 ω' hL hn => ?_⟩
        · rw [hlay]
          intro c hc
          cases hc with
          | head => exact ⟨cs, x, rfl⟩
          | tail _ hm => exact q2 c hm
        · rw [hlay]
          exact ⟨r1 ω3 s4 ω' (g2.later.trans hL) hn, r2 ω3 s4 ω' hL hn⟩
  | [], _ :: _, _, _, _, _, _, _, _, _, ht => by cases ht
  | _ :: _, [], _, _, _, _, _, _, _, _, ht => by cases ht
theorem takeMu_ok (h : Rel ω a w s) {ks : List K} {id g : Nat} {u : Value} {vs : List (KV real)} {s1 : S} (hl : RPtr ω s u id g 0) (ht : takeTV (.blk ks) (.one (.ptr id g 0)) s = some (vs, s1)) (b : Nat) :
    ∃ ω1 m, Passes ω a w s ω1 s1 ∧ Gone w ω s ω1 s1 m b (b + (ks.length + 1)) ∧ vs.map (·.1) = ks ∧ ∀ ω2 s2 ω', Later ω1 s1 ω2 s2 → Sends w ω2 ω' m → RSh w ω' b (.blk ks) vs u := by
  simp only [takeTV] at ht
  cases hb : blkOf s id g with
  | none => rw [hb] at ht; cases ht
  | some ls =>
    rw [hb] at ht
    simp only at ht
    cases h2 : takes ks ls (s.chg id true .gone) with
    | none => rw [h2] at ht; cases ht
    | some q =>
      rw [h2] at ht
      have ht := Option.some.inj ht
      subst ht
      obtain ⟨e1, e2⟩ := blkOf_ok hb
      obtain ⟨b', f1, f2⟩ := hl.2 e1 ls e2
      obtain ⟨b'', arr, T, q1, q2, q3⟩ := h.blks id ls e2
      obtain rfl := h.inj _ _ _ f1 q1
      have hng : (s.ob id).o ≠ .gone := by rw [e2]; exact fun e => by cases e
      have p0 := Passes.gone1 h id
      have g0 := gone_one (lo := b) h hng
      obtain ⟨ω1, m, p1, g1, t1, _, r1⟩ := takes_ok ks ls arr.toList ω (s.chg id true .gone) vs s1 (b + 1) p0.rel (q3.mono fun _ _ hl => RLf.frame p0.ext p0.tr hl) h2
      refine ⟨ω1, (id, b) :: m, p0.trans p1, ?_, t1, fun ω2 s2 ω' hL hS => ?_⟩
      · have := Gone.trans (Nat.le_succ _) (Nat.le_add_right _ _) g0 g1
        rwa [show b + 1 + ks.length = b + (ks.length + 1) by omega] at this
      · refine ⟨b', arr, T, f2, ?_, q2, r1 ω2 s2 ω' hL ⟨hS.none, fun i j hm => hS.own i j (by simp [hm])⟩⟩
        refine hS.own id b (by simp) b' [] (h.dom b' _ f1) ?_
        exact ((g1.later.trans hL).gone id (by rw [St.chg_self])).2 b' [] f1
theorem takeCps_ok : ∀ (caps : List Cp) (cc : List (Cap real)) (cv : List Value) (ω : Own) (s : S) (vs : List (KV real)) (s1 : S) (b : Nat), Rel ω a w s → All2 (fun v c => RCap w ω s v c) cv cc → takeCps caps cc s = some (vs, s1) →
    ∃ ω1 m, Passes ω a w s ω1 s1 ∧ Gone w ω s ω1 s1 m b (b + cpW caps) ∧ vs.map (·.1) = (caps.map Cp.ks).flatten ∧ ∀ ω2 s2 ω', Later ω1 s1 ω2 s2 → Sends w ω2 ω' m → RCps w ω' b caps vs cv
  | [], [], cv, ω, s, vs, s1, b, h, h2, ht => by
    injection ht with ht
    injection ht with e1 e2
    subst e1; subst e2
    cases cv with
    | cons _ _ => exact h2.elim
    | nil => exact ⟨ω, [], Passes.refl h, Gone.refl _ _ _ _ _, rfl, fun _ _ _ _ _ => ⟨rfl, rfl⟩⟩
  | c :: caps, v :: cc, [], _, _, _, _, _, _, h2, _ => h2.elim
  | c :: caps, v :: cc, u :: cv, ω, s, vs, s1, b, h, h2, ht => by
    simp only [takeCps] at ht
    cases h1 : takeCp c v s with
    | none => rw [h1] at ht; cases ht
    | some q =>
      obtain ⟨v1, s2⟩ := q
      rw [h1] at ht
      simp only at ht
      cases h3 : takeCps caps cc s2 with
      | none => rw [h3] at ht; cases ht
      | some q2 =>
        obtain ⟨vs', s3⟩ := q2
        rw [h3] at ht
        injection ht with ht
        injection ht with e1 e2
        subst e1; subst e2
        have key : ∃ ω1 m, Passes ω a w s ω1 s2 ∧ Gone w ω s ω1 s2 m b (b + c.width) ∧ v1.map (·.1) = c.ks ∧ ∀ ω2 s3 ω', Later ω1 s2 ω2 s3 → Sends w ω2 ω' m → ∀ vs' cv', RCps w ω' (b + c.width) caps vs' cv' → RCps w ω' b (c :: caps) (v1 ++ vs') (u :: cv') := by
          cases c with
          | ro cs =>
            obtain ⟨ω1, p1, g1, t1, x, x1, r1⟩ := takeCap_ok h h2.1 (show takeCap cs v s = some (v1, s2) from h1) b
            have hlen : v1.length = cs.len := by rw [← ks_len, ← t1]; simp
            refine ⟨ω1, [], p1, g1, t1, fun ω2 s3 ω' hL hS vs' cv' hr => ⟨by rw [List.take_left' hlen]; exact hlen, ?_, ?_⟩⟩
            · rw [List.take_left' hlen]
              exact ⟨x, x1, r1 ω2 s3 ω' hL (fun b hb hn => hS.none b hb hn)⟩
            · rw [List.drop_left' hlen]
              exact hr
          | mu ks =>
            cases v with
            | ro _ _ => cases h1
            | ptr id g =>
              obtain ⟨ω1, m, p1, g1, t1, r1⟩ := takeMu_ok h h2.1 (show takeTV (.blk ks) (.one (.ptr id g 0)) s = some (v1, s2) from h1) b
              have hlen : v1.length = ks.length := by rw [← t1]; simp
              refine ⟨ω1, m, p1, g1, t1, fun ω2 s3 ω' hL hS vs' cv' hr => ⟨by rw [List.take_left' hlen]; exact hlen, ?_, ?_⟩⟩
              · rw [List.take_left' hlen]
                exact r1 ω2 s3 ω' hL hS
              · rw [List.drop_left' hlen]
                exact hr
        obtain ⟨ω1, m1, p1, g1, t1, r1⟩ := key
        obtain ⟨ω2, m2, p2, g2, t2, r2⟩ := takeCps_ok caps cc cv ω1 s2 vs' s3 (b + c.width) p1.rel (h2.2.mono fun _ _ hl => RCap.frame p1.ext p1.tr hl) h3
        refine ⟨ω2, m1 ++ m2, p1.trans p2, ?_, by simp [t1, t2], fun ω3 s4 ω' hL hS => ?_⟩
        · have := Gone.trans (Nat.le_add_right _ _) (Nat.le_add_right _ _) g1 g2
          rwa [Nat.add_assoc] at this
        · exact r1 ω3 s4 ω' (g2.later.trans hL) hS.left vs' cv (r2 ω3 s4 ω' hL hS.right)
  | [], _ :: _, _, _, _, _, _, _, _, _, ht => by cases ht
  | _ :: _, [], _, _, _, _, _, _, _, _, ht => by cases ht
theorem takeTV_ok (h : Rel ω a w s) {sh : Sh} {tv : TVr} {u : Value} {vs : List (KV real)} {s1 : S} (hl : RTV w ω s u tv) (ht : takeTV sh tv s = some (vs, s1)) (b : Nat) :
    ∃ ω1 m, Passes ω a w s ω1 s1 ∧ Gone w ω s ω1 s1 m b (b + sh.width) ∧ vs.map (·.1) = sh.ks ∧ (sh.light = true → m = []) ∧ ∀ ω2 s2 ω', Later ω1 s1 ω2 s2 → Sends w ω2 ω' m → RSh w ω' b sh vs u := by
  unfold takeTV at ht
  split at ht
  · rename_i cs id g
    obtain ⟨ω1, p1, g1, t1, x, q1, r1⟩ := takeCap_ok h (c := .ptr id g) hl ht b
    exact ⟨ω1, [], p1, g1, t1, fun _ => rfl, fun ω2 s2 ω' hL hS => ⟨x, q1, r1 ω2 s2 ω' hL (fun b hb hn => hS.none b hb hn)⟩⟩
  · rename_i cs cs' x
    obtain ⟨ω1, p1, g1, t1, x, q1, r1⟩ := takeCap_ok h (c := .ro cs' x) hl ht b
    exact ⟨ω1, [], p1, g1, t1, fun _ => rfl, fun ω2 s2 ω' hL hS => ⟨x, q1, r1 ω2 s2 ω' hL (fun b hb hn => hS.none b hb hn)⟩⟩
  · rename_i f caps f' cc
    cases hf : Nat.beq f f' with
    | false => rw [hf] at ht; cases ht
    | true =>
      rw [hf] at ht
      simp only [cond_true] at ht
      have he := Nat.eq_of_beq_eq_true hf
      subst he
      obtain ⟨cv, e1, h2⟩ := hl
      obtain ⟨ω1, p1, g1, t1, q1, r1⟩ := takeCaps_ok caps cc cv ω s vs s1 b h h2 ht
      exact ⟨ω1, [], p1, g1, t1, fun _ => rfl, fun ω2 s2 ω' hL hS => ⟨cv, e1, r1 ω2 s2 ω' hL (fun b hb hn => hS.none b hb hn), q1⟩⟩
  · rename_i f caps f' cc
    cases hf : Nat.beq f f' with
    | false => rw [hf] at ht; cases ht
    | true =>
      rw [hf] at ht
      simp only [cond_true] at ht
      have he := Nat.eq_of_beq_eq_true hf
      subst he
      obtain ⟨cv, e1, h2⟩ := hl
      obtain ⟨ω1, m, p1, g1, t1, r1⟩ := takeCps_ok caps cc cv ω s vs s1 b h h2 ht
      exact ⟨ω1, m, p1, g1, t1, fun e => (by cases e), fun ω2 s2 ω' hL hS => ⟨cv, e1, r1 ω2 s2 ω' hL hS⟩⟩
  · rename_i kk l
    obtain ⟨ω1, m, p1, g1, t1, n1, r1⟩ := takes_ok [kk] [l] [u] ω s vs s1 b h ⟨hl, trivial⟩ ht
    refine ⟨ω1, m, p1, g1, t1, fun hl => n1 (fun k hk => by rw [List.mem_singleton] at hk; subst hk; simpa [Sh.light] using hl), fun ω2 s2 ω' hL hS => ?_⟩
    have := r1 ω2 s2 ω' hL hS
    match vs, this with
    | [v], this => exact ⟨v, rfl, this.1⟩
    | _ :: _ :: _, this => exact this.2.elim
  · rename_i ks ls
    obtain ⟨cells, e1, h2⟩ := hl
    obtain ⟨ω1, m, p1, g1, t1, n1, r1⟩ := takes_ok ks ls cells ω s vs s1 b h h2 ht
    exact ⟨ω1, m, p1, g1, t1, fun hl => n1 (fun k hk => by simpa using List.all_eq_true.1 hl k hk), fun ω2 s2 ω' hL hS => ⟨cells, e1, r1 ω2 s2 ω' hL hS⟩⟩
  · rename_i ks id g
    obtain ⟨ω1, m, p1, g1, t1, r1⟩ := takeMu_ok h hl (show takeTV (.blk ks) (.one (.ptr id g 0)) s = some (vs, s1) from ht) b
    exact ⟨ω1, m, p1, g1, t1, fun e => (by cases e), r1⟩
  · cases ht
theorem takeAll_ok:∀ (shs:List Sh) (tvs:List TVr) (us:List Value) (ω:Own) (s:S) (vs:List (KV real)) (s1:S) (b:Nat),Rel ω a w s→All2 (RTV w ω s) us tvs→takeAll shs tvs s=some (vs,s1) →
  ∃ ω1 m,Passes ω a w s ω1 s1∧Gone w ω s ω1 s1 m b (b+widths shs)∧(shs.all Sh.light=true→m=[])∧∀ ω2 s2 ω',Later ω1 s1 ω2 s2→Sends w ω2 ω' m→RShs w ω' b shs vs us
 | [],[],us,ω,s,vs,s1,b,h,h2,ht=>by
  injection ht with ht
  injection ht with e1 e2
  subst e1;subst e2
  cases us with
  | cons _ _=>exact h2.elim
  | nil=>exact ⟨ω,[],Passes.refl h,Gone.refl _ _ _ _ _,fun _=>rfl,fun _ _ _ _ _=>⟨rfl,rfl⟩⟩
 | sh::shs,tv::tvs,[],_,_,_,_,_,_,h2,_=>h2.elim
 | sh::shs,tv::tvs,u::us,ω,s,vs,s1,b,h,h2,ht=>by
  simp only [takeAll] at ht
  cases h1:takeTV sh tv s with
  | none=>rw [h1] at ht;cases ht
  | some q =>
   obtain ⟨v,s2⟩:=q
   rw [h1] at ht
   simp only at ht
   cases h3:takeAll shs tvs s2 with
   | none=>rw [h3] at ht;cases ht
   | some q2 =>
    obtain ⟨vs',s3⟩:=q2
    rw [h3] at ht
    injection ht with ht
    injection ht with e1 e2
    subst e1;subst e2
    obtain ⟨ω1,m1,p1,g1,t1,n1,r1⟩:=takeTV_ok h h2.1 h1 b
    obtain ⟨ω2,m2,p2,g2,n2,r2⟩:=takeAll_ok shs tvs us ω1 s2 vs' s3 (b+sh.width) p1.rel (h2.2.mono fun _ _ hl=>RTV.frame p1.ext p1.tr hl) h3
    have hlen:v.length=sh.ks.length:=by rw [←t1];simp
    refine ⟨ω2,m1++m2,p1.trans p2,?_,fun hl=>by rw [List.all_cons,Bool.and_eq_true] at hl;rw [n1 hl.1,n2 hl.2];rfl,fun ω3 s4 ω' hg hs=>?_⟩
    ·have:=Gone.trans (Nat.le_add_right _ _) (Nat.le_add_right _ _) g1 g2
     rwa [show b+sh.width+widths shs=b+widths (sh::shs) by simp [widths];omega] at this
    ·refine ⟨by rw [List.take_left' hlen];exact hlen,?_,?_⟩
     ·rw [List.take_left' hlen];exact r1 ω3 s4 ω' (g2.later.trans hg) hs.left
     ·rw [List.drop_left' hlen];exact r2 ω3 s4 ω' hg hs.right
 | [],_::_,_,_,_,_,_,_,_,_,ht=>by cases ht
 | _::_,[],_,_,_,_,_,_,_,_,ht=>by cases ht
def Own.named (ω:Own) (m:List (Nat×Nat)):Own:=fun b=>match ω b with
 | none=>none
 | some (i,p)=>if i=0 then some (0,p) else match m.find? (fun q=>q.1 == i) with
  | some q=>some (q.2,p)
  | none=>none
theorem named_none {m:List (Nat×Nat)} {b:Nat} (h:ω b=none):ω.named m b=none:=by unfold Own.named;rw [h]
theorem named_own {s1:S} {ω0:Own} {s0:S} {m:List (Nat×Nat)} {lo hi:Nat} (hg:Gone w ω0 s0 ω s1 m lo hi) {i j b:Nat} {p:List (Nat×Nat)} (hm:(i,j)∈m) (h:ω b=some (i,p)):ω.named m b=some (j,p):=by
 unfold Own.named
 rw [h]
 simp only
 rw [if_neg (hg.nz i j hm)]
 cases hf:m.find? (fun q=>q.1 == i) with
 | none =>
  have:=List.find?_eq_none.1 hf (i,j) hm
  simp at this
 | some q =>
  obtain ⟨i',j'⟩:=q
  have h1:=List.find?_some hf
  have h2:=List.mem_of_find?_eq_some hf
  simp at h1
  subst h1
  rw [hg.fn i' j j' hm h2]
theorem named_spec {m:List (Nat×Nat)} {b:Nat} {k:Key} (h:ω.named m b=some k):(k.1=0∧ω b=some k)∨∃ i,(i,k.1)∈m∧i≠0∧ω b=some (i,k.2):=by
 unfold Own.named at h
 split at h
 ·cases h
 ·rename_i i p hb
  split at h
  ·rename_i h0
   injection h with h
   subst h;subst h0
   exact .inl ⟨rfl,hb⟩
  ·rename_i h0
   split at h
   ·rename_i q hq
    injection h with h
    subst h
    have h1:=List.find?_some hq
    have h2:=List.mem_of_find?_eq_some hq
    simp at h1
    subst h1
    exact .inr ⟨q.1,h2,h0,hb⟩
   ·cases h
theorem named_fixed {m:List (Nat×Nat)} {b:Nat} (h:Fixed ω b):ω.named m b=ω b:=by
 rcases h with h | ⟨q,h⟩
 ·rw [h];exact named_none h
 ·unfold Own.named;rw [h];simp
theorem named_ext (ω:Own) (w:World) (m:List (Nat×Nat)):Ext ω w (ω.named m) w:=⟨rfl,rfl,rfl,Nat.le_refl _,fun _ _ h=>⟨rfl,named_fixed h⟩⟩
theorem named_inj {s1:S} {ω0:Own} {s0:S} {m:List (Nat×Nat)} {lo hi:Nat} (hlo:0 < lo) (hg:Gone w ω0 s0 ω s1 m lo hi) (hinj:∀ b b' k,ω b=some k→ω b'=some k→b=b') (b b':Nat) (k:Key) (h:ω.named m b=some k) (h':ω.named m b'=some k):b=b':=by
 rcases named_spec h with ⟨e1,e2⟩ | ⟨i,e1,e2,e3⟩ <;> rcases named_spec h' with ⟨f1,f2⟩ | ⟨i',f1,f2,f3⟩
 ·exact hinj b b' k e2 f2
 ·have:=(hg.rng _ _ f1).1;omega
 ·have:=(hg.rng _ _ e1).1;omega
 ·have:=hg.inj i i' k.1 e1 f1
  subst this
  exact hinj b b' _ e3 f3
theorem named_dom {m:List (Nat×Nat)} (hd:∀ b k,ω b=some k→b < w.heap.size) (b:Nat) (k:Key) (h:ω.named m b=some k):b < w.heap.size:=by
 rcases named_spec h with ⟨_,e⟩ | ⟨_,_,_,e⟩ <;> exact hd b _ e
theorem named_sends {s1:S} {ω0:Own} {s0:S} {m:List (Nat×Nat)} {lo hi:Nat} (hg:Gone w ω0 s0 ω s1 m lo hi):Sends w ω (ω.named m) m:=
 ⟨fun _ _ h=>named_none h,fun _ _ hm _ _ _ h=>named_own hg hm h⟩
theorem ofKTs_toKTs:∀ (ks:List K) (vs:List (KV real)) (x:KTs real ks),toKTs ks vs=some x→ofKTs ks x=vs
 | [],[],x,_=>rfl
 | [],_::_,_,h=>by cases h
 | k::ks,[],_,h=>by cases h
 | k::ks,⟨k',y⟩::vs,x,h=>by
  simp only [toKTs] at h
  split at h
  ·rename_i hb
   cases hr:toKTs ks vs with
   | none=>rw [hr] at h;cases h
   | some z =>
    rw [hr] at h
    have h:=Option.some.inj h
    subst h
    have hk:=K.eq_of_beq hb
    subst hk
    simp only [ofKTs]
    rw [ofKTs_toKTs ks vs z hr]
  ·cases h
end
end Go.R
set_option linter.unusedVariables false
namespace Go.R
section
variable {R:Type} {P:Program} {E:Env} {ω:Own} {a:Act} {w:World} {s:S} {k:S→Option R} {r:R} {o:Oper} {Q:Exit→Act→World→Prop}
def Wane1 (p q:Slot real):Prop:=q=p∨(q.g=p.g∧p.h≤q.h∧(q.o=.gone∨∃ e cs x,q.o=.imm e cs x)∧p.o≠.gone)
def Wane (s s':S):Prop:=∀ i,Wane1 (s.ob i) (s'.ob i)
theorem Wane.refl (s:S):Wane s s:=fun _=>.inl rfl
theorem Wane.trans {s s' s'':S} (h:Wane s s') (h':Wane s' s''):Wane s s'':=by
 intro i
 rcases h i with h1 | ⟨h1,h2,h3,h4⟩
 ·have:=h' i
  rw [h1] at this
  exact this
 ·rcases h' i with k1 | ⟨k1,k2,k3,k4⟩
  ·rw [k1];exact .inr ⟨h1,h2,h3,h4⟩
  ·exact .inr ⟨k1.trans h1,Nat.le_trans h2 k2,k3,h4⟩
theorem Wane.chg {s:S} {id:Nat} {o:Ob real} (ho:o=.gone∨∃ e cs x,o=.imm e cs x) (hs:(s.ob id).o≠.gone):Wane s (s.chg id true o):=by
 intro i
 by_cases e:i=id
 ·subst e
  rw [St.chg_self]
  exact .inr ⟨rfl,Nat.le_succ _,ho,hs⟩
 ·exact .inl (St.chg_ne _ _ _ e)
theorem Wane.gone {s s':S} (h:Wane s s') {i:Nat} (hg:(s.ob i).o=.gone):(s'.ob i).o=.gone:=by
 rcases h i with h | ⟨_,_,_,h⟩
 ·rw [h];exact hg
 ·exact absurd hg h
theorem Wane.blk {s s':S} (h:Wane s s') {i:Nat} {c:List L} (hb:(s'.ob i).o=.blk c):s'.ob i=s.ob i:=by
 rcases h i with h | ⟨_,_,h3,_⟩
 ·exact h
 ·rcases h3 with h3 | ⟨_,_,_,h3⟩ <;> (rw [hb] at h3;cases h3)
theorem Wane.g {s s':S} (h:Wane s s') (i:Nat):(s'.ob i).g=(s.ob i).g:=by
 rcases h i with h | ⟨h,_⟩
 ·rw [h]
 ·exact h
theorem Wane.h {s s':S} (h:Wane s s') (i:Nat):(s.ob i).h≤(s'.ob i).h:=by
 rcases h i with h | ⟨_,h,_⟩
 ·rw [h];exact Nat.le_refl _
 ·exact h
theorem pack1_wane {t:Ty} {l:L} {s:S} {q:real.V t×S} (h:pack1 (A:=real) false t l s=some q):Wane s q.2:=by
 unfold pack1 at h
 split at h
 ·simp only [cond_false] at h
  split at h
  ·injection h with h;subst h;exact .refl _
  ·cases h
 ·split at h
  ·injection h with h;subst h;exact .refl _
  ·cases h
 ·split at h
  ·injection h with h;subst h;exact .refl _
  ·cases h
 ·rename_i id g _
  cases hb:Nat.beq (s.ob id).g g with
  | false=>rw [hb] at h;cases h
  | true =>
   rw [hb] at h
   simp only [cond_true] at h
   split at h
   ·rename_i e cs dp x ho
    split at h
    ·simp only [cond_false] at h
     injection h with h;subst h
     exact .chg (.inr ⟨_,_,_,rfl⟩) (by rw [ho];exact fun e=>by cases e)
    ·cases h
   ·simp only [cond_false] at h
    split at h
    ·injection h with h;subst h;exact .refl _
    ·cases h
   ·cases h
 ·cases h
theorem arr1_wane {e:Nat} {cs:Tys} {deep:Bool} {l:L} {s:S} {q:real.V (.sl e cs)×S} (h:arr1 (A:=real) e cs deep l s=some q):Wane s q.2:=by
 unfold arr1 at h
 split at h
 ·split at h
  ·injection h with h;subst h;exact .refl _
  ·cases h
 ·rename_i id g _
  cases hb:Nat.beq (s.ob id).g g <;> rw [hb] at h
  ·cases h
  ·simp only [cond_true] at h
   split at h
   ·rename_i e' cs' dp x ho
    cases hd:(dp == deep || cs'.plain) <;> rw [hd] at h
    ·cases h
    ·simp only [cond_true] at h
     split at h
     ·injection h with h;subst h;exact .chg (.inl rfl) (by rw [ho];exact fun e=>by cases e)
     ·cases h
   ·cases h
 ·cases h
theorem mp1_wane {k:IntKind} {l:L} {s:S} {q:real.V (.sl 0 (Tys.mp k))×S} (h:mp1 (A:=real) k l s=some q):Wane s q.2:=by
 unfold mp1 at h
 split at h
 ·rename_i id g
  cases hb:Nat.beq (s.ob id).g g <;> rw [hb] at h
  ·cases h
  ·simp only [cond_true] at h
   split at h
   ·rename_i k' x ho
    split at h
    ·injection h with h;subst h;exact .chg (.inl rfl) (by rw [ho];exact fun e=>by cases e)
    ·cases h
   ·cases h
 ·cases h
theorem take1_wane {k:K} {l:L} {s:S} {q:KV real×S} (h:take1 k l s=some q):Wane s q.2:=by
 cases k with
 | val t =>
  simp only [take1] at h
  cases h1:pack1 (A:=real) false t l s with
  | none=>rw [h1] at h;cases h
  | some p=>rw [h1] at h;injection h with h;subst h;exact pack1_wane h1
 | arr e cs deep =>
  simp only [take1] at h
  cases h1:arr1 (A:=real) e cs deep l s with
  | none=>rw [h1] at h;cases h
  | some p=>rw [h1] at h;injection h with h;subst h;exact arr1_wane h1
 | mp kk =>
  simp only [take1] at h
  cases h1:mp1 (A:=real) kk l s with
  | none=>rw [h1] at h;cases h
  | some p=>rw [h1] at h;injection h with h;subst h;exact mp1_wane h1
theorem takes_wane:∀ {ks:List K} {ls:List L} {s:S} {q:List (KV real)×S},takes ks ls s=some q→Wane s q.2
 | [],[],s,q,h=>by injection h with h;subst h;exact .refl _
 | [],_::_,s,q,h=>by cases h
 | _::_,[],s,q,h=>by cases h
 | k::ks,l::ls,s,q,h=>by
  simp only [takes] at h
  cases h1:take1 k l s with
  | none=>rw [h1] at h;cases h
  | some p =>
   rw [h1] at h
   simp only [] at h
   cases h2:takes ks ls p.2 with
   | none=>rw [h2] at h;cases h
   | some p2=>rw [h2] at h;injection h with h;subst h;exact (show Wane s p2.2 from (take1_wane h1).trans (takes_wane h2))
theorem takeCap_wane {cs:Tys} {c:Cap real} {s:S} {q:List (KV real)×S} (h:takeCap cs c s=some q):Wane s q.2:=by
 unfold takeCap at h
 split at h
 ·split at h
  ·rename_i ls hls
   cases h1:takes cs.ks ls s with
   | none=>rw [h1] at h;cases h
   | some p =>
    rw [h1] at h
    simp only [] at h
    split at h
    ·rename_i id g _ _ _ c hc
     injection h with h;subst h;exact (takes_wane h1).trans (.chg (.inl rfl) (by rw [hc];exact fun e=>by cases e))
    ·cases h
  ·cases h
 ·split at h
  ·injection h with h;subst h;exact .refl _
  ·cases h
theorem takeCaps_wane:∀ {caps:List Tys} {cc:List (Cap real)} {s:S} {q:List (KV real)×S},takeCaps caps cc s=some q→Wane s q.2
 | [],[],s,q,h=>by injection h with h;subst h;exact .refl _
 | [],_::_,s,q,h=>by cases h
 | _::_,[],s,q,h=>by cases h
 | cs::css,c::cc,s,q,h=>by
  simp only [takeCaps] at h
  cases h1:takeCap cs c s with
  | none=>rw [h1] at h;cases h
  | some p =>
   rw [h1] at h
   simp only [] at h
   cases h2:takeCaps css cc p.2 with
   | none=>rw [h2] at h;cases h
   | some p2=>rw [h2] at h;injection h with h;subst h;exact (show Wane s p2.2 from (takeCap_wane h1).trans (takeCaps_wane h2))
theorem takeCp_wane {c:Cp} {v:Cap real} {s:S} {q:List (KV real)×S} (h:takeCp c v s=some q):Wane s q.2:=by
 unfold takeCp at h
 split at h
 ·exact takeCap_wane h
 ·split at h
  ·rename_i ls hls
   split at h
   ·rename_i h1
    injection h with h;subst h
    exact (Wane.chg (.inl rfl) (by rw [(blkOf_ok hls).2];exact fun e=>by cases e)).trans (takes_wane h1)
   ·cases h
  ·cases h
 ·cases h
theorem takeCps_wane:∀ {caps:List Cp} {cc:List (Cap real)} {s:S} {q:List (KV real)×S},takeCps caps cc s=some q→Wane s q.2
 | [],[],s,q,h=>by injection h with h;subst h;exact .refl _
 | [],_::_,s,q,h=>by cases h
 | _::_,[],s,q,h=>by cases h
 | cs::css,c::cc,s,q,h=>by
  simp only [takeCps] at h
  cases h1:takeCp cs c s with
  | none=>rw [h1] at h;cases h
  | some p =>
   rw [h1] at h
   simp only [] at h
   cases h2:takeCps css cc p.2 with
   | none=>rw [h2] at h;cases h
   | some p2=>rw [h2] at h;injection h with h;subst h;exact (show Wane s p2.2 from (takeCp_wane h1).trans (takeCps_wane h2))
theorem takeTV_wane {sh:Sh} {v:TVr} {s:S} {q:List (KV real)×S} (h:takeTV sh v s=some q):Wane s q.2:=by
 unfold takeTV at h
 split at h
 ·exact takeCap_wane h
 ·exact takeCap_wane h
 ·rename_i f caps f' cc
  cases hb:Nat.beq f f' <;> rw [hb] at h
  ·cases h
  ·exact takeCaps_wane h
 ·rename_i f caps f' cc
  cases hb:Nat.beq f f' <;> rw [hb] at h
  ·cases h
  ·exact takeCps_wane h
 ·exact takes_wane h
 ·exact takes_wane h
 ·rename_i ks id g
  split at h
  ·rename_i ls hls
   split at h
   ·rename_i h1
    injection h with h;subst h
    exact (Wane.chg (.inl rfl) (by rw [(blkOf_ok hls).2];exact fun e=>by cases e)).trans (takes_wane h1)
   ·cases h
  ·cases h
 ·cases h
theorem takeAll_wane:∀ {shs:List Sh} {vs:List TVr} {s:S} {q:List (KV real)×S},takeAll shs vs s=some q→Wane s q.2
 | [],[],s,q,h=>by injection h with h;subst h;exact .refl _
 | [],_::_,s,q,h=>by cases h
 | _::_,[],s,q,h=>by cases h
 | sh::shs,v::vs,s,q,h=>by
  simp only [takeAll] at h
  cases h1:takeTV sh v s with
  | none=>rw [h1] at h;cases h
  | some p =>
   rw [h1] at h
   simp only [] at h
   cases h2:takeAll shs vs p.2 with
   | none=>rw [h2] at h;cases h
   | some p2=>rw [h2] at h;injection h with h;subst h;exact (show Wane s p2.2 from (takeTV_wane h1).trans (takeAll_wane h2))
theorem pack1_wane' {deep:Bool} {t:Ty} {l:L} {s:S} {q:real.V t×S} (h:pack1 (A:=real) deep t l s=some q):Wane s q.2:=by
 cases deep with
 | false=>exact pack1_wane h
 | true =>
  unfold pack1 at h
  split at h
  ·cases h
  ·split at h
   ·injection h with h;subst h;exact .refl _
   ·cases h
  ·split at h
   ·injection h with h;subst h;exact .refl _
   ·cases h
  ·rename_i id g _
   cases hb:Nat.beq (s.ob id).g g with
   | false=>rw [hb] at h;cases h
   | true =>
    rw [hb] at h
    simp only [cond_true] at h
    split at h
    ·split at h <;> cases h
    ·cases h
    ·cases h
  ·cases h
end
end Go.R
set_option linter.unusedVariables false
namespace Go.R
open Classical
def DM (w:World) (ω:Own) (w':World) (ω':Own) (k k':Key):Prop:=
 ∀ b r,b < w.heap.size→ω b=some (k.1,k.2++r)→w'.heap[b]? = w.heap[b]? ∧ ω' b=some (k'.1,k'.2++r)
theorem DM.inner {w w':World} {ω ω':Own} {k k':Key} (h:DM w ω w' ω' k k') (i j:Nat):DM w ω w' ω' (k.1,k.2++[(i,j)]) (k'.1,k'.2++[(i,j)]):=by
 intro b r hb hk
 have:=h b ((i,j)::r) hb (by simpa using hk)
 simpa using this
mutual
theorem Ty.R_deep {w w':World} {ω ω':Own}:∀ (t:Ty) (k k':Key) (v:Value) (x:t.T),DM w ω w' ω' k k'→t.R w ω (.deep k) v x→t.R w' ω' (.deep k') v x
 | .int _,_,_,_,_,_,h=>h
 | .bool,_,_,_,_,_,h=>h
 | .str,_,_,_,_,_,h=>h
 | .sl e cs,k,k',v,x,H,h=>by
  obtain ⟨a,n,c,h1,h2,h3,h4,h5⟩:=h
  rcases h4 with h4 | ⟨b,arr,q1,q2,q3,q4⟩
  ·exact ⟨a,n,c,h1,h2,h3,.inl h4,fun i ad hi=>absurd hi (by omega)⟩
  ·have hb:=H b [] (heap_lt_of_some q2) (by rw [List.append_nil];exact q4)
   rw [List.append_nil] at hb
   refine ⟨a,n,c,h1,h2,h3,.inr ⟨b,arr,q1,hb.1.trans q2,q3,hb.2⟩,fun i ad hi ha=>?_⟩
   have hbl:ad.block=b:=by rw [q1] at ha;injection ha with ha;rw [←ha]
   exact Tys.R_deep cs (fun j=>(k.1,k.2++[(i,j)])) (fun j=>(k'.1,k'.2++[(i,j)])) _ _ 0 _ (fun j=>H.inner i j) (fun j=>by
    exact cell_of_heap (a:=⟨ad.block,_,none⟩) (by simpa [hbl] using hb.1)) (h5 i ad hi ha)
theorem Tys.R_deep {w w':World} {ω ω':Own}:∀ (cs:Tys) (k k':Nat→Key) (g g':Nat→Option Value) (j:Nat) (x:cs.T),(∀ j,DM w ω w' ω' (k j) (k' j))→(∀ j,g' j=g j)→cs.R w ω (fun j=>.deep (k j)) g j x→cs.R w' ω' (fun j=>.deep (k' j)) g' j x
 | .nil,_,_,_,_,_,_,_,_,_=>trivial
 | .cons t ts,k,k',g,g',j,x,H,hg,h=>by
  obtain ⟨⟨v,h1,h2⟩,h3⟩:=h
  exact ⟨⟨v,(hg j).trans h1,Ty.R_deep t (k j) (k' j) v _ (H j) h2⟩,Tys.R_deep ts k k' g g' (j+1) _ H hg h3⟩
end
theorem R_cells {w:World} {ω:Own}:∀ (cs:Tys) (md:Nat→Md) (g:Nat→Option Value) (j0:Nat) (y:cs.T),
  cs.R w ω md g j0 y↔∀ j t x,cellAt (A:=real) cs y j=some ⟨t,x⟩→∃ v,g (j0+j)=some v∧t.R w ω (md (j0+j)) v x
 | .nil,_,_,_,_=>⟨fun _ _ _ _ h=>(nomatch h),fun _=>trivial⟩
 | .cons t ts,md,g,j0,y=>by
  constructor
  ·intro ⟨⟨v,h1,h2⟩,h3⟩ j u x hc
   cases j with
   | zero =>
    have hc:=Option.some.inj hc
    cases hc
    exact ⟨v,h1,h2⟩
   | succ j =>
    obtain ⟨v,q1,q2⟩:=(R_cells ts md g (j0+1) _).1 h3 j u x hc
    rw [show j0+1+j=j0+(j+1) by omega] at q1 q2
    exact ⟨v,q1,q2⟩
  ·intro h
   refine ⟨h 0 t _ rfl,(R_cells ts md g (j0+1) _).2 fun j u x hc=>?_⟩
   have:=h (j+1) u x hc
   rwa [show j0+(j+1)=j0+1+j by omega] at this
theorem cellAt_set:∀ (cs:Tys) (y y':cs.T) (j:Nat) (q:Sigma real.V),setCell (A:=real) cs y j q=some y'→∀ i,cellAt (A:=real) cs y' i=if i=j then some q else cellAt (A:=real) cs y i
 | .nil,_,_,_,_,h=>by cases h
 | .cons t ts,y,y',0,⟨u,v⟩,h=>by
  simp only [setCell] at h
  split at h
  ·rename_i hb
   have h:=Option.some.inj h
   subst h
   obtain rfl:=Ty.eq_of_beq hb
   intro i
   cases i with
   | zero =>
    simp only [cellAt,if_true]
    have:real.hd (real.cn (t:=u) (ts:=ts) (real.cast hb v) (real.tl y))=v:=hd_cn _ _
    rw [this]
   | succ i =>
    rw [if_neg (by omega)]
    simp only [cellAt]
    have:real.tl (real.cn (t:=u) (ts:=ts) (real.cast hb v) (real.tl y))=real.tl y:=tl_cn _ _
    rw [this]
  ·cases h
 | .cons t ts,y,y',j+1,q,h=>by
  simp only [setCell] at h
  cases hs:setCell (A:=real) ts (real.tl y) j q with
  | none=>rw [hs] at h;cases h
  | some z =>
   rw [hs] at h
   have h:=Option.some.inj h
   subst h
   intro i
   cases i with
   | zero =>
    rw [if_neg (by omega)]
    simp only [cellAt]
    have:real.hd (real.cn (t:=t) (ts:=ts) (real.hd y) z)=real.hd y:=hd_cn _ _
    rw [this]
   | succ i =>
    simp only [cellAt]
    have:real.tl (real.cn (t:=t) (ts:=ts) (real.hd y) z)=z:=tl_cn _ _
    rw [this,cellAt_set ts _ z j q hs i]
    by_cases e:i=j
    ·rw [if_pos e,if_pos (by omega)]
    ·rw [if_neg e,if_neg (by omega)]
theorem cellAt_row:∀ (vs:List (KV real)) (cs:Tys) (y y':cs.T) (j:Nat),setRow (A:=real) cs y j vs=some y'→∀ i,cellAt (A:=real) cs y' i=if j≤i∧i < j+vs.length then (vs[i - j]?).map KV.sig else cellAt (A:=real) cs y i
 | [],cs,y,y',j,h,i=>by
  have h:=Option.some.inj h
  subst h
  rw [if_neg (by rintro ⟨h1,h2⟩;simp at h2;omega)]
 | v::vs,cs,y,y',j,h,i=>by
  simp only [setRow] at h
  cases hs:setCell (A:=real) cs y j v.sig with
  | none=>rw [hs] at h;cases h
  | some z =>
   rw [hs] at h
   rw [cellAt_row vs cs z y' (j+1) h i,cellAt_set cs y z j _ hs i,List.length_cons]
   by_cases e:i=j
   ·subst e
    rw [if_neg (by omega),if_pos rfl,if_pos (by omega),Nat.sub_self]
    rfl
   ·rw [if_neg e]
    by_cases e2:j+1≤i∧i < j+1+vs.length
    ·rw [if_pos e2,if_pos (by omega),show i - j=(i - (j+1))+1 by omega]
     rfl
    ·rw [if_neg e2,if_neg (by omega)]
theorem cellAt_D:∀ (cs:Tys) (vs:List (KV real)) (x:cs.T),toVsD (A:=real) cs vs=some x→vs.length=cs.len∧∀ i,i < cs.len→cellAt (A:=real) cs x i=(vs[i]?).map KV.sig
 | .nil,[],_,_=>⟨rfl,fun i hi=>absurd hi (by simp [Tys.len])⟩
 | .nil,_::_,_,h=>by cases h
 | .cons _ _,[],_,h=>by cases h
 | .cons t ts,v::vs,x,h=>by
  simp only [toVsD] at h
  split at h
  ·rename_i hb
   cases hr:toVsD (A:=real) ts vs with
   | none=>rw [hr] at h;cases h
   | some y =>
    rw [hr] at h
    have h:=Option.some.inj h
    subst h
    obtain ⟨q1,q2⟩:=cellAt_D ts vs y hr
    refine ⟨by simp [q1,Tys.len],fun i hi=>?_⟩
    cases i with
    | zero =>
     simp only [cellAt]
     have:real.hd (real.cn (t:=t) (ts:=ts) (real.cast hb v.sig.2) y)=real.cast hb v.sig.2:=hd_cn _ _
     rw [this]
     generalize hq:v.sig=q at hb
     obtain ⟨u,z⟩:=q
     have e:u=t:=Ty.eq_of_beq hb
     subst e
     simp only [List.getElem?_cons_zero,Option.map_some,hq]
     rfl
    | succ i =>
     simp only [cellAt]
     have:real.tl (real.cn (t:=t) (ts:=ts) (real.cast hb v.sig.2) y)=y:=tl_cn _ _
     rw [this,q2 i (by simp [Tys.len] at hi;omega)]
     rfl
  ·cases h
theorem cellAt_len:∀ (cs:Tys) (x:cs.T) (i:Nat) q,cellAt (A:=real) cs x i=some q→i < cs.len
 | .nil,_,_,_,h=>by cases h
 | .cons _ _,_,0,_,_=>by simp [Tys.len]
 | .cons _ ts,x,i+1,q,h=>by have:=cellAt_len ts _ i q h;simp [Tys.len];omega
theorem RKV_deep {w w':World} {ω ω':Own} {b:Nat} {v:KV real} {u:Value} {k:Key} (hv:∀ t,v.1=.val t→∀ e cs,t≠.sl e cs) (hd:(∀ e cs d,v.1=.arr e cs d→d=true)∧∀ m,v.1≠.mp m) (H:DM w ω w' ω' (b,[]) k) (h:RKV w ω b v u):v.sig.1.R w' ω' (.deep k) u v.sig.2:=by
 obtain ⟨kk,x⟩:=v
 cases kk with
 | val t=>exact Ty.R_plain (hv t rfl) h
 | arr e cs d =>
  have:=hd.1 e cs d rfl
  subst this
  exact Ty.R_deep (.sl e cs) (b,[]) k u x H h
 | mp m=>exact absurd rfl (hd.2 m)
theorem kd_get:∀ (cs:Tys) (i:Nat) (k:K),cs.kd[i]? = some k→(∀ t,k=.val t→∀ e c,t≠.sl e c)∧(∀ e c d,k=.arr e c d→d=true)∧∀ m,k≠.mp m
 | .nil,i,k,h=>by simp [Tys.kd] at h
 | .cons t ts,0,k,h=>by
  cases t <;> (simp only [Tys.kd,List.getElem?_cons_zero,Option.some.injEq] at h;subst h)
  ·exact ⟨fun t e e' c=>by injection e with e;subst e;exact fun h=>(by cases h),(fun _ _ _ h=>(by cases h)),fun _ h=>(by cases h)⟩
  ·exact ⟨fun t e e' c=>by injection e with e;subst e;exact fun h=>(by cases h),(fun _ _ _ h=>(by cases h)),fun _ h=>(by cases h)⟩
  ·exact ⟨fun t e e' c=>by injection e with e;subst e;exact fun h=>(by cases h),(fun _ _ _ h=>(by cases h)),fun _ h=>(by cases h)⟩
  ·exact ⟨fun t e=>(by cases e),(fun _ _ _ h=>(by injection h with _ _ h;exact h.symm)),fun _ h=>(by cases h)⟩
 | .cons t ts,i+1,k,h=>kd_get ts i k (by simpa [Tys.kd] using h)
theorem kd_len:∀ cs:Tys,cs.kd.length=cs.len
 | .nil=>rfl
 | .cons t ts=>by simp [Tys.kd,Tys.len,kd_len ts]
theorem RKVs_get {w:World} {ω:Own}:∀ {vs:List (KV real)} {us:List Value} {b:Nat},RKVs w ω b vs us→∀ (k:Nat) (v:KV real),vs[k]? = some v→∃ u,us[k]? = some u∧RKV w ω (b+k) v u
 | [],[],_,_,k,v,h=>by simp at h
 | v0::_,u::_,b,h,0,v,hv=>by
  simp at hv
  subst hv
  exact ⟨u,rfl,h.1⟩
 | _::vs,_::us,b,h,k+1,v,hv=>by
  obtain ⟨u,q1,q2⟩:=RKVs_get h.2 k v (by simpa using hv)
  exact ⟨u,by simpa using q1,by rwa [show b+1+k=b+(k+1) by omega] at q2⟩
 | [],_::_,_,h,_,_,_=>h.elim
 | _::_,[],_,h,_,_,_=>h.elim
theorem kpath_cons (i:IV) (j:Nat) (p:Pth):kpath ((i,j)::p)=(i.i.toNat,j)::kpath p:=rfl
theorem not_prefix_head {i j i' j':Nat} {p r:List (Nat×Nat)} (h : ¬ (i=i'∧j=j')) : ¬ ((i,j)::p <+: (i',j')::r):=by
 intro ⟨t,e⟩
 simp only [List.cons_append,List.cons.injEq,Prod.mk.injEq] at e
 exact h e.1
theorem R_putAt {w w':World} {ω ω':Own} {id:Nat} {c:Cont real} {y:List c.cs.T}:∀ (p:Pth) (q:List (Nat×Nat)) (e:Nat) (cs:Tys) (x x':List cs.T) (v:Value),
  follow 2 e cs x p=some c→putAt (A:=real) c y e cs x p=some x' →
  (∀ b r,b < w.heap.size→ω b=some (id,q++r) → ¬ kpath p <+: r→w'.heap[b]? = w.heap[b]? ∧ ω' b=some (id,q++r)) →
  (∀ u,(Ty.sl c.e c.cs).R w ω (.deep (id,q++kpath p)) u c.x→(Ty.sl c.e c.cs).R w' ω' (.deep (id,q++kpath p)) u y) →
  (Ty.sl e cs).R w ω (.deep (id,q)) v x→(Ty.sl e cs).R w' ω' (.deep (id,q)) v x'
 | [],q,e,cs,x,x',v,hf,hp,H1,H2,h=>by
  have hf:=Option.some.inj hf
  subst hf
  unfold putAt at hp
  simp only [modAt] at hp
  split at hp
  ·have hp:=Option.some.inj hp
   subst hp
   have:=H2 v (by rw [show kpath []=[] from rfl,List.append_nil];exact h)
   rw [show kpath []=[] from rfl,List.append_nil] at this
   exact this
  ·cases hp
 | (i,j)::p,q,e,cs,x,x',v,hf,hp,H1,H2,h=>by
  unfold putAt at hp
  simp only [follow] at hf
  simp only [modAt] at hp
  cases hc:cellAt (A:=real) cs (real.get x i) j with
  | none=>rw [hc] at hf;cases hf
  | some z =>
   obtain ⟨t,y1⟩:=z
   rw [hc] at hf hp
   cases t with
   | sl e' cs' =>
    simp only at hf hp
    cases hm:modAt (A:=real) (fun e' cs' _=>if h:Ty.beq (.sl c.e c.cs) (.sl e' cs')=true then some (real.cast h y) else none) e' cs' y1 p with
    | none=>rw [hm] at hp;cases hp
    | some y1' =>
     rw [hm] at hp
     simp only at hp
     cases hs:setCell (A:=real) cs (real.get x i) j ⟨.sl e' cs',y1'⟩ with
     | none=>rw [hs] at hp;cases hp
     | some el =>
      rw [hs] at hp
      have hp:=Option.some.inj hp
      subst hp
      rw [kpath_cons] at H1 H2
      obtain ⟨a,n,cp,h1,h2,h3,h4,h5⟩:=h
      have hlen:List.length (real.put (e:=e) x i el)=n:=by
       have:List.length (real.put (e:=e) x i el)=List.length x:=List.length_set
       rw [this];exact h2
      rcases h4 with h4 | ⟨b,arr,q1,q2,q3,q4⟩
      ·exact ⟨a,n,cp,h1,hlen,h3,.inl h4,fun i ad hi=>absurd hi (by omega)⟩
      ·have hb:=H1 b [] (heap_lt_of_some q2) (by rw [List.append_nil];exact q4) (by simp)
       rw [List.append_nil] at hb
       refine ⟨a,n,cp,h1,hlen,h3,.inr ⟨b,arr,q1,hb.1.trans q2,q3,hb.2⟩,fun i' ad hi' ha=>?_⟩
       have hbl:ad.block=b:=by rw [q1] at ha;injection ha with ha;rw [←ha]
       have hrow:=h5 i' ad hi' ha
       have hcell:∀ m,w'.cell? ⟨ad.block,m,none⟩=w.cell? ⟨ad.block,m,none⟩:=fun m=>cell_of_heap (a:=⟨ad.block,m,none⟩) (by simpa [hbl] using hb.1)
       have other:∀ j' t z,cellAt (A:=real) cs (List.getD x i' (zTs cs)) j'=some ⟨t,z⟩ → ¬ ((i.i).toNat=i'∧j=j')→∃ v,w'.cell? ⟨ad.block,ad.off+i'*cs.len+(0+j'),none⟩=some v∧t.R w' ω' (.deep (id,q++[(i',0+j')])) v z:=by
        intro j' t z hz hne
        obtain ⟨u,m1,m2⟩:=(R_cells cs _ _ 0 _).1 hrow j' t z hz
        refine ⟨u,(hcell _).trans m1,?_⟩
        rw [Nat.zero_add] at m2 ⊢
        refine Ty.R_deep t (id,q++[(i',j')]) (id,q++[(i',j')]) u z (fun b' r hb' hk=>?_) m2
        have hk':ω b'=some (id,q++(i',j')::r):=by simpa using hk
        have:=H1 b' ((i',j')::r) hb' hk' (not_prefix_head hne)
        simpa using this
       have hget:List.getD (real.put (e:=e) x i el:List cs.T) i' (zTs cs)=if i'=(i.i).toNat then el else List.getD x i' (zTs cs):=by
        by_cases hin:(i.i).toNat < List.length x
        ·exact set_getD x _ _ _ _ hin
        ·have hpx:(real.put (e:=e) x i el:List cs.T)=x:=List.set_eq_of_length_le (by show _≤(IV.i i).toNat;omega)
         have hne : ¬ i'=(i.i).toNat:=by rw [h2] at hin;omega
         rw [hpx]
         exact (if_neg hne).symm
       rw [hget]
       refine (R_cells cs _ _ 0 _).2 fun j' t z hz=>?_
       by_cases hi:i'=(i.i).toNat
       ·rw [if_pos hi] at hz
        rw [cellAt_set cs _ el j _ hs j'] at hz
        by_cases hj:j'=j
        ·subst hj
         rw [if_pos rfl] at hz
         have hz:=Option.some.inj hz
         cases hz
         have hc':cellAt (A:=real) cs (List.getD x i' (zTs cs)) j'=some ⟨.sl e' cs',y1⟩:=by rw [hi];exact hc
         obtain ⟨u,m1,m2⟩:=(R_cells cs _ _ 0 _).1 hrow j' _ _ hc'
         refine ⟨u,(hcell _).trans m1,?_⟩
         rw [Nat.zero_add] at m2 ⊢
         refine R_putAt p (q++[(i',j')]) e' cs' y1 y1' u hf hm (fun b' r hb' hk hn=>?_) (fun u' hu'=>?_) m2
         ·have hk':ω b'=some (id,q++(i',j')::r):=by simpa using hk
          have:=H1 b' ((i',j')::r) hb' hk' (by
           intro ⟨t,et⟩
           simp only [List.cons_append,List.cons.injEq] at et
           exact hn ⟨t,et.2⟩)
          simpa using this
         ·have e1:q++[(i',j')]++kpath p=q++((i.i).toNat,j')::kpath p:=by rw [hi];simp
          rw [e1] at hu' ⊢
          exact H2 u' hu'
        ·rw [if_neg hj] at hz
         have hz':cellAt (A:=real) cs (List.getD x i' (zTs cs)) j'=some ⟨t,z⟩:=by rw [hi];exact hz
         exact other j' t z hz' (fun h=>hj h.2.symm)
       ·rw [if_neg hi] at hz
        exact other j' t z hz (fun h=>hi h.1.symm)
   | _=>cases hf
theorem putAt_len {c:Cont real} {y:List c.cs.T} (hy:y.length=List.length c.x):∀ (p:Pth) (e:Nat) (cs:Tys) (x x':List cs.T),follow 2 e cs x p=some c→putAt (A:=real) c y e cs x p=some x'→x'.length=x.length
 | [],e,cs,x,x',hf,hp=>by
  have hf:=Option.some.inj hf
  subst hf
  unfold putAt at hp
  simp only [modAt] at hp
  split at hp
  ·have hp:=Option.some.inj hp
   subst hp
   exact hy
  ·cases hp
 | (i,j)::p,e,cs,x,x',hf,hp=>by
  unfold putAt at hp
  simp only [modAt] at hp
  split at hp
  ·split at hp
   ·split at hp
    ·have hp:=Option.some.inj hp
     subst hp
     exact List.length_set
    ·cases hp
   ·cases hp
  ·cases hp
section
variable {R:Type} {P:Program} {E:Env} {ω:Own} {a:Act} {w:World} {s:S} {k:S→Option R} {r:R} {o:Oper} {Q:Exit→Act→World→Prop}
theorem Rel.ghost (h:Rel ω a w s) {ω':Own} {w':World} {s':S} (he:Ext ω w ω' w') (hi:∀ b b' k,ω' b=some k→ω' b'=some k→b=b') (hd:∀ b k,ω' b=some k→b < w'.heap.size)
  (hsl:s'.sl=s.sl) (h0:(s'.ob 0).o=.gone) (tr:∀ id,Tr w ω s w' ω' s' id)
  (hb:∀ id cells,(s'.ob id).o=.blk cells→s'.ob id=s.ob id∧∀ b,ω b=some (id,[])→w'.heap[b]? = w.heap[b]? ∧ ω' b=some (id,[])):Rel ω' a w' s' where
 inj:=hi
 dom:=hd
 defers:=h.defers
 slots i:=by rw [hsl];exact RTV.frame he tr (h.slots i)
 own0:=h0
 blks id cells hc:=by
  obtain ⟨q1,q2⟩:=hb id cells hc
  rw [q1] at hc
  obtain ⟨b,arr,T,g1,g2,g3⟩:=h.blks id cells hc
  obtain ⟨q3,q4⟩:=q2 b g1
  exact ⟨b,arr,T,q4,q3.trans g2,g3.mono fun _ _ hl=>RLf.frame he tr hl⟩
theorem Tr.gone_to {s':S} {ω':Own} {w':World} {id:Nat} (hg:(s'.ob id).g=(s.ob id).g) (hh:(s.ob id).h≤(s'.ob id).h) (ho:(s'.ob id).o=.gone):Tr w ω s w' ω' s' id where
 ref v g h p hr:=⟨by rw [hg];exact hr.1,by
  have:=hr.2.1
  rw [hg];split at this <;> split <;> omega,fun c hc=>(gone_cont ho hc).elim⟩
 ptr v g off hr:=⟨by rw [hg];exact hr.1,fun _ cells hc=>by rw [ho] at hc;cases hc⟩
 eptr v g h p i off hr:=⟨by rw [hg];exact hr.1,by
  have:=hr.2.1
  rw [hg];split at this <;> split <;> omega,fun c hc=>(gone_cont ho hc).elim⟩
 mref v g hr:=hr.shut hg fun k x e=>by rw [ho] at e;cases e
theorem Tr.arr_to {s':S} {ω':Own} {w':World} {id e:Nat} {cs:Tys} {dp:Bool} {x x':List cs.T} (ho:(s.ob id).o=.arr e cs dp x) (hg:(s'.ob id).g=(s.ob id).g) (hh:(s.ob id).h < (s'.ob id).h) (ho':(s'.ob id).o=.arr e cs dp x') (hl:x'.length=x.length)
  (hroot:∀ b,ω b=some (id,[])→ω' b=some (id,[]))
  (re:∀ v,(Ty.sl e cs).R w ω (modeOf (bif dp then 2 else 1) id []) v x→(Ty.sl e cs).R w' ω' (modeOf (bif dp then 2 else 1) id []) v x'):Tr w ω s w' ω' s' id:=by
 have key:∀ (g h:Nat) (p:Pth) (c:Cont real),h≤(s.ob id).h+(if g=(s.ob id).g then 0 else h)→s'.cont id g h p=some c→p=[]∧g=(s.ob id).g∧c=⟨e,cs,x',bif dp then 2 else 1⟩:=by
  intro g h p c hle hc
  obtain ⟨q1,q2⟩:=cont_spec hc
  rw [hg] at q1
  rw [if_pos q1.symm] at hle
  rcases q2 with ⟨dp',f1,f2,f3⟩ | ⟨_,_,_,_,_,f3,_⟩ | ⟨f1,_,_⟩
  ·rw [ho'] at f1
   refine ⟨f2,q1.symm,?_⟩
   obtain ⟨ce,ccs,cx,cmd⟩:=c
   simp only at f1 f3
   injection f1 with g1 g2 g3 g4
   subst g1;subst g2;subst g3;subst f3
   have:=eq_of_heq g4
   rw [this]
  ·omega
  ·rw [ho'] at f1;cases f1
 have hle:∀ g h,h≤(s.ob id).h+(if g=(s.ob id).g then 0 else h)→h≤(s'.ob id).h+(if g=(s'.ob id).g then 0 else h):=by
  intro g h h1
  rw [hg]
  split at h1 <;> split <;> omega
 exact
 {ref:=fun v g h p hr=>⟨by rw [hg];exact hr.1,hle _ _ hr.2.1,fun c hc=>by
   obtain ⟨q1,q2,q3⟩:=key g h p c hr.2.1 hc
   subst q1;subst q3
   exact re v (hr.2.2 _ (cont_arr (h:=h) ho q2))⟩
  ptr:=fun v g off hr=>⟨by rw [hg];exact hr.1,fun _ cells hc=>by rw [ho'] at hc;cases hc⟩
  eptr:=fun v g h p i off hr=>⟨by rw [hg];exact hr.1,hle _ _ hr.2.1,fun c hc hm=>by
   obtain ⟨q1,q2,q3⟩:=key g h p c hr.2.1 hc
   subst q1;subst q3
   obtain ⟨r1,r2,⟨b,r3,r5⟩,v',r4⟩:=hr.2.2 _ (cont_arr (h:=h) ho q2) (md_pos dp)
   refine ⟨r1,?_,⟨b,hroot b r3,r5⟩,v',re v' r4⟩
   show IV.i i < ((x'.length:Nat):Int)
   rw [hl]
   exact r2⟩
  mref:=fun v g hr=>hr.shut hg fun k x e=>by rw [ho'] at e;cases e }
def Own.via (ω:Own) (κ:Key→Option Key):Own:=fun b=>(ω b).bind κ
theorem via_spec {κ:Key→Option Key} {b:Nat} {k':Key} (h:ω.via κ b=some k'):∃ k,ω b=some k∧κ k=some k':=by
 unfold Own.via at h
 cases hb:ω b with
 | none=>rw [hb] at h;cases h
 | some k=>rw [hb] at h;exact ⟨k,rfl,h⟩
theorem via_none {κ:Key→Option Key} {b:Nat} (h:ω b=none):ω.via κ b=none:=by unfold Own.via;rw [h];rfl
theorem via_some {κ:Key→Option Key} {b:Nat} {k:Key} (h:ω b=some k):ω.via κ b=κ k:=by unfold Own.via;rw [h];rfl
theorem via_inj {κ:Key→Option Key} (hi:∀ b b' k,ω b=some k→ω b'=some k→b=b') (hk:∀ k k' q,κ k=some q→κ k'=some q→k=k') (b b':Nat) (k:Key) (h:ω.via κ b=some k) (h':ω.via κ b'=some k):b=b':=by
 obtain ⟨k1,e1,e2⟩:=via_spec h
 obtain ⟨k2,e3,e4⟩:=via_spec h'
 have:=hk k1 k2 k e2 e4
 subst this
 exact hi b b' _ e1 e3
theorem via_dom {κ:Key→Option Key} (hd:∀ b k,ω b=some k→b < w.heap.size) (b:Nat) (k:Key) (h:ω.via κ b=some k):b < w.heap.size:=by
 obtain ⟨k1,e1,_⟩:=via_spec h
 exact hd b k1 e1
theorem via_fixed {κ:Key→Option Key} (h0:∀ p,κ (0,p)=some (0,p)) {b:Nat} (h:Fixed ω b):ω.via κ b=ω b:=by
 rcases h with h | ⟨q,h⟩
 ·rw [h];exact via_none h
 ·rw [via_some h,h,h0]
end
end Go.R
set_option linter.unusedVariables false
namespace Go.R
open Classical
section
variable {R:Type} {P:Program} {E:Env} {ω:Own} {a:Act} {w:World} {s:S} {k:S→Option R} {r:R} {o:Oper} {Q:Exit→Act→World→Prop}
theorem takes_keys : ∀ {ks : List K} {ls : List L} {s : S} {vs : List (KV real)} {s1 : S}, takes ks ls s = some (vs, s1) → vs.map (·.1) = ks
  | [], [], _, _, _, h => by injection h with h; injection h with h _; subst h; rfl
  | [], _ :: _, _, _, _, h => by cases h
  | _ :: _, [], _, _, _, h => by cases h
  | k :: ks, l :: ls, s, vs, s1, h => by
    simp only [takes] at h
    cases h1 : take1 k l s with
    | none => rw [h1] at h; cases h
    | some p =>
      rw [h1] at h
      simp only [] at h
      cases h2 : takes ks ls p.2 with
      | none => rw [h2] at h; cases h
      | some p2 =>
        rw [h2] at h
        injection h with h
        injection h with h _
        subst h
        have hk : p.1.1 = k := by
          cases k with
          | val t =>
            simp only [take1] at h1
            cases hp : pack1 (A := real) false t l s with
            | none => rw [hp] at h1; cases h1
            | some q => rw [hp] at h1; injection h1 with h1; subst h1; rfl
          | arr e cs d =>
            simp only [take1] at h1
            cases hp : arr1 (A := real) e cs d l s with
            | none => rw [hp] at h1; cases h1
            | some q => rw [hp] at h1; injection h1 with h1; subst h1; rfl
          | mp kk =>
            simp only [take1] at h1
            cases hp : mp1 (A := real) kk l s with
            | none => rw [hp] at h1; cases h1
            | some q => rw [hp] at h1; injection h1 with h1; subst h1; rfl
        simp [hk, takes_keys h2]
def Under (tp:List (Nat×Nat)) (i0 off n:Nat) (p:List (Nat×Nat)):Prop:=∃ k r,k < n∧p=tp++(i0,off+k)::r
noncomputable def sinkK (m:List (Nat×Nat)) (lo tid:Nat) (tp:List (Nat×Nat)) (i0 off n:Nat):Key→Option Key:=fun k =>
 match m.find? (fun q=>q.1 == k.1) with
 | some q=>some (tid,tp++(i0,off+(q.2 - lo))::k.2)
 | none=>if k.1=tid∧Under tp i0 off n k.2 then none else some k
theorem find_mem {m:List (Nat×Nat)} {i:Nat} {q:Nat×Nat} (h:m.find? (fun q=>q.1 == i)=some q):(i,q.2)∈m:=by
 have h1:=List.find?_some h
 have h2:=List.mem_of_find?_eq_some h
 simp at h1
 rw [←h1]
 exact h2
theorem find_none {m:List (Nat×Nat)} {i:Nat} (h:m.find? (fun q=>q.1 == i)=none) (j:Nat):(i,j) ∉ m:=by
 intro hm
 have:=List.find?_eq_none.1 h (i,j) hm
 simp at this
theorem find_of {w0:World} {ω0 ω1:Own} {s0 s1:S} {m:List (Nat×Nat)} {lo hi:Nat} (hg:Gone w0 ω0 s0 ω1 s1 m lo hi) {i j:Nat} (h:(i,j)∈m):m.find? (fun q=>q.1 == i)=some (i,j):=by
 cases hf:m.find? (fun q=>q.1 == i) with
 | none=>exact absurd h (find_none hf j)
 | some q =>
  have h2:=find_mem hf
  have h1:=List.find?_some hf
  simp at h1
  have:=hg.fn i j q.2 h h2
  obtain ⟨q1,q2⟩:=q
  simp only at this h1
  rw [this,h1]
theorem sink_inj {w0:World} {ω0 ω1:Own} {s0 s1:S} {m:List (Nat×Nat)} {lo n tid:Nat} {tp:List (Nat×Nat)} {i0 off:Nat} (hg:Gone w0 ω0 s0 ω1 s1 m lo (lo+n)) (k k' q:Key) (h:sinkK m lo tid tp i0 off n k=some q) (h':sinkK m lo tid tp i0 off n k'=some q):k=k':=by
 unfold sinkK at h h'
 cases hf:m.find? (fun q=>q.1 == k.1) with
 | some z =>
  rw [hf] at h
  have h:=Option.some.inj h
  have m1:=find_mem hf
  have r1:=hg.rng _ _ m1
  cases hf':m.find? (fun q=>q.1 == k'.1) with
  | some z' =>
   rw [hf'] at h'
   have h':=Option.some.inj h'
   have m2:=find_mem hf'
   have r2:=hg.rng _ _ m2
   rw [←h'] at h
   injection h with _ h
   have h:=List.append_cancel_left h
   injection h with e1 e2
   injection e1 with _ e1
   have e3:z.2=z'.2:=by omega
   rw [←e3] at m2
   have:=hg.inj _ _ _ m1 m2
   exact Prod.ext this e2
  | none =>
   rw [hf'] at h'
   simp only at h'
   split at h'
   ·cases h'
   ·rename_i hn
    have h':=Option.some.inj h'
    rw [h',←h] at hn
    exact absurd ⟨rfl,z.2 - lo,k.2,by omega,rfl⟩ hn
 | none =>
  rw [hf] at h
  simp only at h
  split at h
  ·cases h
  ·rename_i hn
   have h:=Option.some.inj h
   cases hf':m.find? (fun q=>q.1 == k'.1) with
   | some z' =>
    rw [hf'] at h'
    have h':=Option.some.inj h'
    have r2:=hg.rng _ _ (find_mem hf')
    rw [h,←h'] at hn
    exact absurd ⟨rfl,z'.2 - lo,k'.2,by omega,rfl⟩ hn
   | none =>
    rw [hf'] at h'
    simp only at h'
    split at h'
    ·cases h'
    ·have h':=Option.some.inj h'
     rw [h,h']
theorem sink_zero {w0:World} {ω0 ω1:Own} {s0 s1:S} {m:List (Nat×Nat)} {lo hi n tid:Nat} {tp:List (Nat×Nat)} {i0 off:Nat} (hg:Gone w0 ω0 s0 ω1 s1 m lo hi) (h0:tid≠0) (p:List (Nat×Nat)):sinkK m lo tid tp i0 off n (0,p)=some (0,p):=by
 unfold sinkK
 cases hf:m.find? (fun q=>q.1 == (0,p).1) with
 | some z=>exact absurd rfl (hg.nz _ _ (find_mem hf))
 | none =>
  simp only
  rw [if_neg (fun h=>h0 h.1.symm)]
theorem sink_moved {w0:World} {ω0 ω1:Own} {s0 s1:S} {m:List (Nat×Nat)} {lo hi n tid:Nat} {tp:List (Nat×Nat)} {i0 off:Nat} (hg:Gone w0 ω0 s0 ω1 s1 m lo hi) {i j:Nat} (h:(i,j)∈m) (p:List (Nat×Nat)):sinkK m lo tid tp i0 off n (i,p)=some (tid,tp++(i0,off+(j - lo))::p):=by
 unfold sinkK
 rw [find_of hg h]
theorem sink_keep {m:List (Nat×Nat)} {lo n tid:Nat} {tp:List (Nat×Nat)} {i0 off:Nat} {k:Key} (h:∀ j,(k.1,j) ∉ m) (hn : ¬ (k.1=tid∧Under tp i0 off n k.2)):sinkK m lo tid tp i0 off n k=some k:=by
 unfold sinkK
 cases hf:m.find? (fun q=>q.1 == k.1) with
 | some z=>exact absurd (find_mem hf) (h _)
 | none=>simp only;rw [if_neg hn]
theorem sink_DM {w0:World} {ω0:Own} {s0 s1:S} {m:List (Nat×Nat)} {lo hi n tid:Nat} {tp:List (Nat×Nat)} {i0 off:Nat} (hlo:0 < lo) (hg:Gone w0 ω0 s0 ω s1 m lo hi) {w':World} (hw:∀ i j b p,(i,j)∈m→ω b=some (i,p)→w'.heap[b]? = w.heap[b]?) (c:Nat) (hc:c < n) :
  DM w (ω.named m) w' (ω.via (sinkK m lo tid tp i0 off n)) (lo+c,[]) (tid,tp++[(i0,off+c)]):=by
 intro b r hb hk
 rcases named_spec hk with ⟨e1,e2⟩ | ⟨i,e1,e2,e3⟩
 ·simp only at e1;omega
 ·simp only [List.nil_append] at e1 e3
  refine ⟨hw i _ b r e1 e3,?_⟩
  rw [via_some e3,sink_moved hg e1]
  simp
theorem kd_drop (cs:Tys) (off n:Nat) {i:Nat} {k:K} (h:((cs.kd.drop off).take n)[i]? = some k):(∀ t,k=.val t→∀ e c,t≠.sl e c)∧(∀ e c d,k=.arr e c d→d=true)∧∀ m,k≠.mp m:=by
 have hlt:i < n:=by
  have:=(List.getElem?_eq_some_iff.1 h).1
  rw [List.length_take] at this
  omega
 rw [List.getElem?_take_of_lt hlt,List.getElem?_drop] at h
 exact kd_get cs _ k h
theorem Rel.sunk {ω0:Own} {s0:S} {m:List (Nat×Nat)} {lo n tid e:Nat} {cs:Tys} {x x':List cs.T} {tp:List (Nat×Nat)} {i0 off bt:Nat} {w':World} (h:Rel ω a w s) (hg:Gone w ω0 s0 ω s m lo (lo+n)) (ho:(s.ob tid).o=.arr e cs true x) (hb:ω bt=some (tid,tp)) (hp:Put w w' bt) (hl:x'.length=x.length)
  (re:∀ v,(Ty.sl e cs).R w ω (.deep (tid,[])) v x→(Ty.sl e cs).R w' (ω.via (sinkK m lo tid tp i0 off n)) (.deep (tid,[])) v x') :
  Rel (ω.via (sinkK m lo tid tp i0 off n)) a w' (s.chg tid true (.arr e cs true x'))∧Ext ω w (ω.via (sinkK m lo tid tp i0 off n)) w':=by
 have h0:tid≠0:=h.ne0 (by rw [ho];exact fun e=>by cases e)
 have hsrc:∀ j,(tid,j) ∉ m:=fun j hm=>by have:=hg.is tid j hm;rw [ho] at this;cases this
 have he:Ext ω w (ω.via (sinkK m lo tid tp i0 off n)) w':=⟨hp.os,hp.tape,hp.output,by rw [hp.size];exact Nat.le_refl _,fun b hb' hf=>by
  have hne:b≠bt:=fun e=>by subst e;exact hf.ne hb h0
  exact ⟨hp.block b hne,via_fixed (sink_zero hg h0) hf⟩⟩
 have hroot:∀ b,ω b=some (tid,[])→ω.via (sinkK m lo tid tp i0 off n) b=some (tid,[]):=by
  intro b hb'
  rw [via_some hb',sink_keep hsrc]
  rintro ⟨_,k,r,_,e⟩
  simp at e
 have hother:∀ j,j≠tid→(∀ c,(j,c) ∉ m)→∀ b p,ω b=some (j,p)→w'.heap[b]? = w.heap[b]? ∧ ω.via (sinkK m lo tid tp i0 off n) b=some (j,p):=by
  intro j hj hm b p hb'
  have hne:b≠bt:=fun e=>by subst e;rw [hb] at hb';injection hb' with hb';injection hb' with hb' _;exact hj hb'.symm
  exact ⟨hp.block b hne,by rw [via_some hb',sink_keep hm (fun hq=>hj hq.1)]⟩
 refine ⟨h.ghost he (via_inj h.inj (sink_inj hg)) (fun b k hk=>by rw [hp.size];exact via_dom h.dom b k hk) rfl ?_ (fun j=>?_) (fun j cells hc=>?_),he⟩
 ·rw [St.chg_ne _ _ _ (Ne.symm h0)];exact h.own0
 ·by_cases ej:j=tid
  ·subst ej
   exact Tr.arr_to ho (by rw [St.chg_self]) (by rw [St.chg_self];exact Nat.lt_succ_self _) (by rw [St.chg_self]) hl hroot re
  ·by_cases hm:∃ c,(j,c)∈m
   ·obtain ⟨c,hm⟩:=hm
    exact Tr.gone_to (by rw [St.chg_ne _ _ _ ej]) (by rw [St.chg_ne _ _ _ ej];exact Nat.le_refl _) (by rw [St.chg_ne _ _ _ ej];exact hg.is j c hm)
   ·have hm':∀ c,(j,c) ∉ m:=fun c hc=>hm ⟨c,hc⟩
    refine Same.tr ⟨St.chg_ne _ _ _ ej,fun b kk hb' hk hj=>?_⟩ he h.dom
    obtain ⟨j',p⟩:=kk
    simp only at hj
    subst hj
    rw [hk]
    exact hother j' ej hm' b p hk
 ·have ej:j≠tid:=fun e=>by subst e;rw [St.chg_self] at hc;cases hc
  rw [St.chg_ne _ _ _ ej] at hc ⊢
  have hm':∀ c,(j,c) ∉ m:=fun c hm=>by have:=hg.is j c hm;rw [this] at hc;cases hc
  exact ⟨rfl,fun b hb'=>hother j ej hm' b [] hb'⟩
theorem storeD_ok (h:Rel ω a w s) {t:Nat} {I:TypeInfo} (hI:P.info? t=some I) {p v:Value} {ls:List L} {s1:S} {id g hh e:Nat} {cs:Tys} {x:List cs.T} {pth:Pth} {i:IV} {off:Nat} (hp:RLf w ω s p (.eptr id g hh pth i off)) (hg:(s.ob id).g=g) (hob:(s.ob id).o=.arr e cs true x)
  (hv:All2 (RLf w ω s) v.cells.toList ls) (h1:∀ u∈v.cells.toList,u.oneCell'=true) (hsz:ls.length=I.size)
  (hs:storeD s id hh e cs x pth i off ls=some s1):∃ ω' w',(Instr.storeAt t p v).run P w=.ok () w'∧Rel ω' a w' s1∧Ext ω w ω' w':=by
 have hcl:v.cells.size=ls.length:=by rw [←hv.length];simp
 have hvl:v.cells.toList.length=ls.length:=hv.length
 unfold storeD at hs
 cases hb:(pth.isEmpty || Nat.beq (s.ob id).h hh) with
 | false=>rw [hb] at hs;cases hs
 | true =>
  rw [hb] at hs
  simp only [cond_true] at hs
  cases hf:follow (A:=real) 2 e cs x pth with
  | none=>rw [hf] at hs;cases hs
  | some c =>
   rw [hf] at hs
   simp only at hs
   cases ht:takes ((c.cs.kd.drop off).take ls.length) ls s with
   | none=>rw [ht] at hs;cases hs
   | some q =>
    obtain ⟨vs,s2⟩:=q
    rw [ht] at hs
    simp only at hs
    cases hr:setRow (A:=real) c.cs (real.get c.x i) off vs with
    | none=>rw [hr] at hs;cases hs
    | some el =>
     rw [hr] at hs
     simp only at hs
     cases hx:putAt (A:=real) c (real.put c.x i el) e cs x pth with
     | none=>rw [hx] at hs;cases hs
     | some x' =>
      rw [hx] at hs
      simp only at hs
      have hmd:c.md=2:=follow_md 2 pth e cs x c hf
      have hwane:=takes_wane ht
      have hob2:s2.ob id=s.ob id:=by
       rcases hwane id with q1 | ⟨_,_,q3,_⟩
       ·exact q1
       ·exfalso
        rcases q3 with q3 | ⟨_,_,_,q3⟩ <;> (rw [q3] at hs;cases hs)
      rw [hob2,hob] at hs
      simp only at hs
      have hs:=Option.some.inj hs
      subst hs
      obtain ⟨ω1,m,p1,g1,t1,_,r1⟩:=takes_ok ((c.cs.kd.drop off).take ls.length) ls v.cells.toList ω s vs s2 1 h hv ht
      have hcont:s.cont id g hh pth=some c:=by
       unfold St.cont Slot.cont
       rw [hg,beq_self,hob]
       cases pth with
       | nil=>simp only [cond_true];exact hf
       | cons st pt =>
        simp only [cond_true]
        have:Nat.beq (s.ob id).h hh=true:=by simpa using hb
        rw [this]
        exact hf
      have hcont2:s2.cont id g hh pth=some c:=by rw [←hcont];unfold St.cont;rw [hob2]
      have hp2:=(p1.tr id).eptr p g hh pth i off hp
      obtain ⟨q1,q2,⟨bt,q3,q4⟩,v',q5⟩:=hp2.2.2 c hcont2 (by rw [hmd];decide)
      have hi:(IV.i i).toNat < List.length c.x:=by omega
      rw [hmd] at q5
      have q5:(Ty.sl c.e c.cs).R w ω1 (.deep (id,kpath pth)) v' c.x:=q5
      obtain ⟨ad,nn,cp,d1,d2,d3,d4,d5⟩:=q5
      rcases d4 with d4 | ⟨b',arr,d6,d7,d8,d9⟩
      ·omega
      obtain rfl:=p1.rel.inj _ _ _ q3 d9
      have hlks:((c.cs.kd.drop off).take ls.length).length=ls.length:=by
       have hk:=takes_keys ht
       rw [←hk,List.length_map]
       have:=r1 ω1 s2 (ω1.named m) (Later.refl _ _) (named_sends g1)
       rw [this.length,hvl]
      have hfit:ls=[]∨off+ls.length≤c.cs.len:=by
       rw [List.length_take,List.length_drop,kd_len] at hlks
       by_cases he:ls=[]
       ·exact .inl he
       ·have:ls.length≠0:=fun e=>he (List.length_eq_zero_iff.1 e)
        exact .inr (by omega)
      have hbase:(IV.i i).toNat*c.cs.len+c.cs.len≤arr.size:=by
       rw [d8]
       have:((IV.i i).toNat+1)*c.cs.len≤cp*c.cs.len:=Nat.mul_le_mul_right _ (by omega)
       rw [Nat.succ_mul] at this
       exact this
      have hstore:∃ w' arr',(Instr.storeAt t p v).run P w=.ok () w'∧Put w w' bt∧w'.heap[bt]? = some (.cells arr' c.e (0,0))∧arr'.size=arr.size ∧
        ∀ mm,arr'[mm]? = if (IV.i i).toNat*c.cs.len+off≤mm∧mm < (IV.i i).toNat*c.cs.len+off+v.cells.toList.length then v.cells.toList[mm - ((IV.i i).toNat*c.cs.len+off)]? else arr[mm]?:=by
       by_cases hemp:ls=[]
       ·subst hemp
        have hv0:v.cells.toList=[]:=List.length_eq_zero_iff.1 hvl
        refine ⟨w,arr,?_,Put.refl w bt,d7,rfl,fun mm=>?_⟩
        ·have hsz0:v.cells.size=I.size:=by omega
         rw [q4]
         simp [Instr.storeAt,Instr.sureAddr,storeVar,sizeOf,typeInfo,hI,hsz0,hv0,storeCells]
        ·rw [hv0,if_neg (by simp <;> omega)]
       ·have hfit':=hfit.resolve_left hemp
        have hfit2:(IV.i i).toNat*c.cs.len+off+v.cells.toList.length≤arr.size:=by omega
        obtain ⟨arr',z1,z2⟩:=setCells_row' bt c.e (0,0) v.cells.toList ((IV.i i).toNat*c.cs.len+off) w arr d7 hfit2
        have hrun:=run_storeAt' (P:=P) hI d7 (v:=v) (off:=(IV.i i).toNat*c.cs.len+off) (by omega) (by simpa using hfit2) h1
        rw [←q4] at hrun
        have hal:arr.toList.length=arr.size:=Array.length_toList
        refine ⟨_,arr',hrun,setCells_put bt _ _ w,z1,?_,fun mm=>?_⟩
        ·rw [←Array.length_toList (xs:=arr'),z2]
         simp only [List.length_append,List.length_take,List.length_drop]
         omega
        ·have htl:(arr.toList.take ((IV.i i).toNat*c.cs.len+off)).length=(IV.i i).toNat*c.cs.len+off:=by rw [List.length_take];omega
         rw [←Array.getElem?_toList,z2]
         split
         ·rename_i hm
          rw [List.append_assoc,List.getElem?_append_right (by rw [htl];omega),htl,List.getElem?_append_left (by omega)]
         ·rename_i hm
          by_cases hlt:mm < (IV.i i).toNat*c.cs.len+off
          ·rw [List.append_assoc,List.getElem?_append_left (by rw [htl];exact hlt),List.getElem?_take_of_lt hlt,Array.getElem?_toList]
          ·rw [List.getElem?_append_right (by rw [List.length_append,htl];omega),List.length_append,htl,List.getElem?_drop,Array.getElem?_toList]
           congr 1
           omega
      obtain ⟨w',arr',hrun,hput,hh',hsz',hget⟩:=hstore
      have ho2:(s2.ob id).o=.arr e cs true x:=by rw [hob2];exact hob
      have hsrc:∀ j,(id,j) ∉ m:=fun j hm=>by have:=g1.is id j hm;rw [ho2] at this;cases this
      have h0:id≠0:=h.ne0 (by rw [hob];exact fun e=>by cases e)
      have hvlen:vs.length=ls.length:=by
       have:=congrArg List.length t1
       rw [List.length_map] at this
       rw [this,hlks]
      have g1':Gone w ω s ω1 s2 m 1 (1+ls.length):=by rwa [hlks] at g1
      have hkeep:∀ b r,ω1 b=some (id,r) → ¬ kpath pth <+: r→w'.heap[b]? = w.heap[b]? ∧ ω1.via (sinkK m 1 id (kpath pth) (IV.i i).toNat off ls.length) b=some (id,r):=by
       intro b r hb' hn
       have hne:b≠bt:=fun e=>by
        subst e
        rw [q3] at hb'
        injection hb' with hb'
        injection hb' with _ hb'
        rw [←hb'] at hn
        exact hn (List.prefix_refl _)
       refine ⟨hput.block b hne,?_⟩
       rw [via_some hb',sink_keep hsrc]
       rintro ⟨_,kk,rr,_,er⟩
       simp only at er
       exact hn ⟨(_:Nat×Nat)::rr,er.symm⟩
      have hrv:=r1 ω1 s2 (ω1.named m) (Later.refl _ _) (named_sends g1)
      have hyl:List.length (real.put c.x i el)=List.length c.x:=List.length_set
      have hcontent:∀ u,(Ty.sl c.e c.cs).R w ω1 (.deep (id,kpath pth)) u c.x→(Ty.sl c.e c.cs).R w' (ω1.via (sinkK m 1 id (kpath pth) (IV.i i).toNat off ls.length)) (.deep (id,kpath pth)) u (real.put c.x i el):=by
       intro u hu
       obtain ⟨ad',n',cp',f1,f2,f3,f4,f5⟩:=hu
       rcases f4 with f4 | ⟨b2,arr2,f6,f7,f8,f9⟩
       ·omega
       obtain rfl:=p1.rel.inj _ _ _ q3 f9
       rw [d7] at f7
       injection f7 with f7
       injection f7 with f7
       subst f7
       have hkb:ω1.via (sinkK m 1 id (kpath pth) (IV.i i).toNat off ls.length) bt=some (id,kpath pth):=by
        rw [via_some q3,sink_keep hsrc]
        rintro ⟨_,kk,rr,_,er⟩
        have:=congrArg List.length er
        simp at this
       refine ⟨ad',n',cp',f1,hyl.trans f2,f3,.inr ⟨bt,arr',f6,hh',by rw [hsz'];exact f8,hkb⟩,fun i' A hi' hA=>?_⟩
       have hrow:=f5 i' A hi' hA
       rw [f6] at hA
       injection hA with hA
       subst hA
       simp only [Nat.zero_add] at hrow ⊢
       have hpx:List.getD (real.put c.x i el:List c.cs.T) i' (zTs c.cs)=if i'=(IV.i i).toNat then el else List.getD c.x i' (zTs c.cs):=set_getD c.x _ _ _ _ hi
       rw [hpx]
       refine (R_cells c.cs _ _ 0 _).2 fun j t z hz=>?_
       rw [Nat.zero_add]
       have hjl:=cellAt_len _ _ _ _ hz
       have old:cellAt (A:=real) c.cs (List.getD c.x i' (zTs c.cs)) j=some ⟨t,z⟩ → ¬ (i'=(IV.i i).toNat∧off≤j∧j < off+ls.length)→∃ v,w'.cell? ⟨bt,i'*c.cs.len+j,none⟩=some v∧t.R w' (ω1.via (sinkK m 1 id (kpath pth) (IV.i i).toNat off ls.length)) (.deep (id,kpath pth++[(i',j)])) v z:=by
        intro hz hne
        obtain ⟨u,m1,m2⟩:=(R_cells c.cs _ _ 0 _).1 hrow j t z hz
        simp only [Nat.zero_add] at m1 m2
        refine ⟨u,?_,Ty.R_deep t _ (id,kpath pth++[(i',j)]) u z (fun b rr hb' hk=>?_) m2⟩
        ·rw [cell_of_row w bt _ arr c.e (0,0) d7] at m1
         rw [cell_of_row w' bt _ arr' c.e (0,0) hh',hget,if_neg,m1]
         rw [hvl]
         rintro ⟨z1,z2⟩
         apply hne
         have hii:i'=(IV.i i).toNat:=by
          rcases Nat.lt_trichotomy i' (IV.i i).toNat with hlt | heq | hgt
          ·have:(i'+1)*c.cs.len≤(IV.i i).toNat*c.cs.len:=Nat.mul_le_mul_right _ hlt
           rw [Nat.succ_mul] at this
           omega
          ·exact heq
          ·have:((IV.i i).toNat+1)*c.cs.len≤i'*c.cs.len:=Nat.mul_le_mul_right _ hgt
           rw [Nat.succ_mul] at this
           rcases hfit with hfit | hfit
           ·rw [hfit] at z2;simp at z2;omega
           ·omega
         subst hii
         exact ⟨rfl,by omega,by omega⟩
        ·have hk':ω1 b=some (id,kpath pth++(i',j)::rr):=by simpa using hk
         have hne':b≠bt:=fun e=>by
          subst e
          rw [q3] at hk'
          injection hk' with hk'
          injection hk' with _ hk'
          have:=congrArg List.length hk'
          simp at this
         refine ⟨hput.block b hne',?_⟩
         rw [via_some hk',sink_keep hsrc]
         ·simp
         ·rintro ⟨_,kk,r2,e1,e2⟩
          have e2:=List.append_cancel_left e2
          injection e2 with e2 _
          injection e2 with e3 e4
          exact hne ⟨e3,by omega,by omega⟩
       by_cases hi2:i'=(IV.i i).toNat
       ·rw [if_pos hi2] at hz
        rw [cellAt_row vs c.cs _ el off hr j,hvlen] at hz
        by_cases hjr:off≤j∧j < off+ls.length
        ·rw [if_pos hjr] at hz
         cases hvj:vs[j - off]? with
         | none=>rw [hvj] at hz;cases hz
         | some vv =>
          rw [hvj] at hz
          have hz:=Option.some.inj hz
          obtain ⟨u,u1,u2⟩:=RKVs_get hrv _ _ hvj
          have hkk:((c.cs.kd.drop off).take ls.length)[j - off]? = some vv.1:=by rw [←t1,List.getElem?_map,hvj];rfl
          obtain ⟨z1,z2⟩:=kd_drop c.cs off ls.length hkk
          have hdm:DM w (ω1.named m) w' (ω1.via (sinkK m 1 id (kpath pth) (IV.i i).toNat off ls.length)) (1+(j - off),[]) (id,kpath pth++[((IV.i i).toNat,off+(j - off))]):=by
           refine sink_DM (by omega) g1' (fun ii jj b pp hm hk=>hput.block b fun e=>?_) _ (by omega)
           subst e
           rw [q3] at hk
           injection hk with hk
           injection hk with hk _
           subst hk
           exact hsrc _ hm
          have hfin:=RKV_deep z1 z2 hdm u2
          rw [hz] at hfin
          rw [show off+(j - off)=j by omega] at hfin
          refine ⟨u,?_,by rw [hi2];exact hfin⟩
          rw [cell_of_row w' bt _ arr' c.e (0,0) hh',hget,hi2,if_pos (by rw [hvl];omega),←u1]
          congr 1
          omega
        ·rw [if_neg hjr] at hz
         exact old (by rw [hi2];exact hz) (fun hq=>hjr hq.2)
       ·rw [if_neg hi2] at hz
        exact old hz (fun hq=>hi2 hq.1)
      obtain ⟨hR,hX⟩:=p1.rel.sunk g1' ho2 q3 hput (x':=x') (putAt_len hyl pth e cs x x' hf hx) (i0:=(IV.i i).toNat) (off:=off) (fun u hu=>by
       refine R_putAt pth [] e cs x x' u hf hx (fun b rr _ hk hn=>hkeep b rr hk hn) (fun u' hu'=>hcontent u' hu') hu)
      exact ⟨_,w',hrun,hR,p1.ext.trans hX⟩
theorem storeV_ok (h:Rel ω a w s) {t:Nat} {I:TypeInfo} (hI:P.info? t=some I) {p v:Value} {l:L} {ls:List L} {s1:S} (hp:RLf w ω s p l) (hv:All2 (RLf w ω s) v.cells.toList ls) (h1:∀ u∈v.cells.toList,u.oneCell'=true) (hsz:ls.length=I.size)
  (hs:storeV s l ls=some s1):∃ ω' w',(Instr.storeAt t p v).run P w=.ok () w'∧Rel ω' a w' s1∧Ext ω w ω' w':=by
 have hcl:v.cells.size=ls.length:=by rw [←hv.length];simp
 cases l with
 | ptr id g off =>
  simp only [storeV] at hs
  cases hb:blkOf s id g with
  | none=>rw [hb] at hs;cases hs
  | some cells =>
   rw [hb] at hs
   simp only at hs
   split at hs
   ·rename_i hle
    injection hs with hs
    subst hs
    obtain ⟨e1,e2⟩:=blkOf_ok hb
    obtain ⟨b,f1,f2⟩:=hp.2 e1 cells e2
    obtain ⟨b',arr,T,g1,g2,g3⟩:=h.blks id cells e2
    obtain rfl:=h.inj _ _ _ f1 g1
    subst f2
    have hlen:=g3.length
    have hal:arr.toList.length=arr.size:=Array.length_toList
    have hfit:off+v.cells.size≤arr.size:=by omega
    have hfit':off+v.cells.toList.length≤arr.size:=by simpa using hfit
    obtain ⟨arr',q1,q2⟩:=setCells_row' b T (0,0) v.cells.toList off w arr g2 hfit'
    refine ⟨ω,w.setCells b off v.cells.toList,run_storeAt' hI g2 (by omega) hfit h1,?_,put_ext (h.ne0 (by rw [e2];exact fun e=>by cases e)) f1 (setCells_put b _ _ w)⟩
    refine h.store_blk f1 e2 (setCells_put b _ _ w) q1 ?_
    rw [q2]
    have:v.cells.toList.length=ls.length:=hv.length
    rw [this]
    exact ((g3.take off).app hv).app (g3.drop _)
   ·cases hs
 | eptr id g hh pth i off =>
  simp only [storeV] at hs
  cases hg:Nat.beq (s.ob id).g g with
  | false=>rw [hg] at hs;cases hs
  | true =>
   rw [hg] at hs
   simp only [cond_true] at hs
   have hge:=Nat.eq_of_beq_eq_true hg
   cases hob:(s.ob id).o with
   | arr e cs deep x =>
    rw [hob] at hs
    simp only at hs
    cases deep with
    | true=>exact storeD_ok h hI hp hge hob hv h1 hsz hs
    | false =>
     cases pth with
     | nil =>
      refine storeF_ok h hI hp hv h1 hsz hge hob ?_
      rw [←hs]
      simp only [cond_false]
      cases storeCellsV (A:=real) false cs (real.get x i) off ls s with
      | none=>rfl
      | some q=>cases ho:(q.2.ob id).o <;> simp only [ho]
     | cons _ _=>cases hs
   | imm _ _ _=>rw [hob] at hs;cases hs
   | blk _=>rw [hob] at hs;cases hs
   | gone=>rw [hob] at hs;cases hs
   | mp _ _=>rw [hob] at hs;cases hs
 | _=>cases hs
theorem step_store (hE:EnvOk P E) {t:Nat} {p v:Operand} (ho:o.op=.store t p v) (h:Rel ω a w s) (hd:∀ d,o.dst=some d→d < a.tmps.size) {Φ:FKey→Option (Callee real (Option R))}
  (hk:stepC E (realC R) Φ o s k=some r):o.wp P a w (Ends ω a w o.dst k r) Q:=by
 have hp:=ev_ok h E 0 p
 have hv:=ev_ok h E t v
 unfold stepC at hk
 simp only [ho] at hk
 obtain ⟨i,h1,hk1⟩:=mapFail_some hk
 obtain ⟨I,d,ok⟩:=hE.ti _ _ h1
 obtain ⟨ls,h2,hk2⟩:=mapFail_some hk1
 obtain ⟨hc,hone,_⟩:=cells?_ok hv h2
 cases hb:Nat.beq ls.length i.cs.len with
 | false=>rw [hb] at hk2;cases hk2
 | true =>
  rw [hb] at hk2
  simp only [cond_true] at hk2
  have hl:=Nat.eq_of_beq_eq_true hb
  cases hpe:ev E s 0 p with
  | one l =>
   rw [hpe] at hk2 hp
   obtain ⟨s1,h3,hk3⟩:=mapFail_some hk2
   obtain ⟨ω',w',hrun,hR,hX⟩:=storeV_ok h ok.info hp hc hone (by rw [hl,ok.size]) h3
   exact wp_skip' (exec_store ho hrun) (ends_undef hR hX hd hk3)
  | agg _=>rw [hpe] at hk2;cases hk2
  | tup _=>rw [hpe] at hk2;cases hk2
end
end Go.R
set_option linter.unusedVariables false
namespace Go.R
open Classical
section
variable {R:Type} {P:Program} {E:Env} {ω:Own} {a:Act} {w:World} {s:S} {k:S→Option R} {r:R} {o:Oper} {Q:Exit→Act→World→Prop}
noncomputable def Own.adopt (ω:Own) (κ:Key→Option Key) (d b0:Nat):Own:=fun b=>if b=b0 then some (d,[]) else (ω b).bind κ
theorem adopt_ne {κ:Key→Option Key} {d b0 b:Nat} {k:Key} (hb:b≠b0) (h:ω b=some k):ω.adopt κ d b0 b=κ k:=by unfold Own.adopt;rw [if_neg hb,h];rfl
theorem Rel.adopt (h:Rel ω a w s) {κ:Key→Option Key} {d b0:Nat} {w':World} {src:Nat→Prop} {ob:Ob real} (hob:∀ c,ob≠.blk c) (hd0:d≠0) (h0 : ¬ src 0) (ki:∀ k k' q,κ k=some q→κ k'=some q→k=k')
  (kn:∀ k p,κ k=some (d,p)→p≠[]) (ko:∀ i p,¬ src i→i≠d→κ (i,p)=some (i,p)) (hs:∀ i,src i→(s.ob i).o=.gone)
  (w1:w'.os=w.os∧w'.tape=w.tape∧w'.output=w.output) (w2:w.heap.size≤w'.heap.size) (w3:∀ b,b≠b0→b < w.heap.size→w'.heap[b]? = w.heap[b]?) (hb0:b0 < w'.heap.size)
  (hb:b0 < w.heap.size→∃ k,ω b0=some k∧src k.1):Rel (ω.adopt κ d b0) a w' (s.new d ob)∧Ext ω w (ω.adopt κ d b0) w':=by
 have k0:∀ p,κ (0,p)=some (0,p):=fun p=>ko 0 p h0 (Ne.symm hd0)
 have hnf:∀ b,b < w.heap.size→Fixed ω b→b≠b0:=by
  intro b hlt hf e
  subst e
  obtain ⟨k,q1,q2⟩:=hb hlt
  refine hf.ne (id:=k.1) (q:=k.2) q1 fun e=>?_
  rw [e] at q2
  exact h0 q2
 have he:Ext ω w (ω.adopt κ d b0) w':=⟨w1.1,w1.2.1,w1.2.2,w2,fun b hlt hf=>by
  have hne:=hnf b hlt hf
  refine ⟨w3 b hne hlt,?_⟩
  rcases hf with hf | ⟨q,hf⟩
  ·unfold Own.adopt;rw [if_neg hne,hf];rfl
  ·rw [adopt_ne hne hf,k0,hf]⟩
 have hother:∀ j,j≠d → ¬ src j→∀ b p,ω b=some (j,p)→w'.heap[b]? = w.heap[b]? ∧ ω.adopt κ d b0 b=some (j,p):=by
  intro j hj hn b p hk
  have hlt:=h.dom b _ hk
  have hne:b≠b0:=fun e=>by
   subst e
   obtain ⟨k,q1,q2⟩:=hb hlt
   rw [hk] at q1
   injection q1 with q1
   rw [←q1] at q2
   exact hn q2
  exact ⟨w3 b hne hlt,by rw [adopt_ne hne hk];exact ko j p hn hj⟩
 refine ⟨h.ghost he (fun b b' k h1 h2=>?_) (fun b k h1=>?_) rfl ?_ (fun j=>?_) (fun j cells hc=>?_),he⟩
 ·unfold Own.adopt at h1 h2
  split at h1 <;> split at h2
  ·rename_i e1 e2;rw [e1,e2]
  ·injection h1 with h1
   subst h1
   obtain ⟨k1,q1,q2⟩:=via_spec (ω:=ω) (κ:=κ) h2
   exact absurd rfl (kn _ _ q2)
  ·injection h2 with h2
   subst h2
   obtain ⟨k1,q1,q2⟩:=via_spec (ω:=ω) (κ:=κ) h1
   exact absurd rfl (kn _ _ q2)
  ·exact via_inj h.inj ki b b' k h1 h2
 ·unfold Own.adopt at h1
  split at h1
  ·rename_i e;rw [e];exact hb0
  ·exact Nat.lt_of_lt_of_le (via_dom (w:=w) (κ:=κ) h.dom b k h1) w2
 ·have:(s.new d ob).ob 0=s.ob 0:=by unfold St.new;exact St.upd_ob_ne _ _ (Ne.symm hd0)
  rw [this];exact h.own0
 ·by_cases ej:j=d
  ·subst ej
   exact Newer.tr (by unfold Newer St.new;rw [St.upd_ob_self];exact Nat.lt_succ_self _)
  ·have hobj:(s.new d ob).ob j=s.ob j:=by unfold St.new;exact St.upd_ob_ne _ _ ej
   by_cases hm:src j
   ·exact Tr.gone_to (by rw [hobj]) (by rw [hobj];exact Nat.le_refl _) (by rw [hobj];exact hs j hm)
   ·refine Same.tr ⟨hobj,fun b kk hb' hk hj=>?_⟩ he h.dom
    obtain ⟨j',p⟩:=kk
    simp only at hj
    subst hj
    rw [hk]
    exact hother j' ej hm b p hk
 ·by_cases ej:j=d
  ·subst ej
   exact absurd (by simpa [St.new,St.upd_ob_self] using hc) (hob cells)
  ·have hobj:(s.new d ob).ob j=s.ob j:=by unfold St.new;exact St.upd_ob_ne _ _ ej
   rw [hobj] at hc
   have hm : ¬ src j:=fun hm=>by rw [hs j hm] at hc;cases hc
   exact ⟨hobj,fun b hk=>hother j ej hm b [] hk⟩
theorem buildSlice_run (hE : EnvOk P E) {t n e : Nat} {cs : Tys} {parts : Array (Nat × Operand)} (h1 : E.slOf t = some (e, cs)) (hn : parts.toList.length = n) (b2 : isRange 0 (parts.toList.map (·.1)) = true) (hsm : n * cs.len ≤ 16777216)
    (e3 : ∀ q ∈ parts.toList.map (·.2), (a.eval q).cells.toList.length = cs.len) :
    ∃ cur', (Instr.buildSlice t n (parts.map fun (i, q) => (i, a.eval q))).run P w = .ok (.slice (some ⟨w.heap.size, 0, none⟩) n n) (w.alloc (.cells cur' e)) ∧ cur'.size = n * cs.len ∧
      ∀ i q, (parts.toList.map (·.2))[i]? = some q → ∀ j, j < cs.len → cur'[i * cs.len + j]? = (a.eval q).cells.toList[j]? := by
  obtain ⟨hu, j, I, d, hj, hcs, ok⟩ := slOf_ok hE h1
  obtain ⟨z, hz, hz2⟩ := ok.zero
  have hsz : I.size = cs.len := by rw [ok.size, hcs]
  have hparts : (parts.map fun (i, q) => (i, a.eval q)).toList.map (·.1) = parts.toList.map (·.1) := by
    simp [Function.comp_def]
  have hpl : (parts.map fun (i, q) => (i, a.eval q)).toList.length = n := by simpa using hn
  obtain ⟨cur', g1, g2⟩ := fill_range cs.len #[] (parts.map fun (i, q) => (i, a.eval q)).toList 0 [] (madeCells z.cells (n * cs.len)) (by rw [hparts]; exact b2) (fun p hp => by
      simp only [Array.toList_map, List.mem_map] at hp
      obtain ⟨⟨i, q⟩, hq, rfl⟩ := hp
      exact e3 q (by simp only [List.mem_map]; exact ⟨(i, q), hq, rfl⟩)) (by simp) (by rw [size_madeCells, hpl, Nat.zero_add]) (by simp)
  have hrows : (parts.map fun (i, q) => (i, a.eval q)).toList.map (fun p => p.2.cells.toList) = (parts.toList.map (·.2)).map fun q => (a.eval q).cells.toList := by
    simp [Function.comp_def]
  rw [List.nil_append, hrows] at g2
  have hcsz : cur'.size = n * cs.len := by
    rw [← Array.length_toList, g2, flat_length cs.len _ (fun l hl => by
      simp only [List.mem_map] at hl
      obtain ⟨q, hq, rfl⟩ := hl
      exact e3 q (by simpa using hq))]
    simp [← hn]
  refine ⟨cur', ?_, hcsz, fun i q hq j hj' => ?_⟩
  · by_cases h0 : n * cs.len = 0
    · have h0' : n * I.size = 0 := by rw [hsz]; exact h0
      have g1' : Instr.fill (fun i => some (i * I.size, I.size)) #[] (parts.map fun (i, q) => (i, a.eval q)).toList = some cur' := by
        rw [hsz]
        rw [show madeCells z.cells (n * cs.len) = #[] by
          apply Array.eq_empty_of_size_eq_zero; rw [size_madeCells]; exact h0] at g1
        exact g1
      exact run_buildSlice0 w t e n _ cur' I hu ok.info h0' g1'
    · exact run_buildSlice w t e n _ cur' I z hu ok.info hz (by rw [hsz]; omega) (by rw [hsz]; exact h0) (by rw [hsz]; exact g1)
  · have hfl := flat_get cs.len ((parts.toList.map (·.2)).map fun q => (a.eval q).cells.toList) (fun l hl => by
      simp only [List.mem_map] at hl
      obtain ⟨q', hq', rfl⟩ := hl
      exact e3 q' (by simpa using hq')) i j ((a.eval q).cells.toList) (by rw [List.getElem?_map, hq]; rfl) hj'
    rw [← g2] at hfl
    rw [← hfl, Array.getElem?_toList]
theorem litRows_ok (h:Rel ω a w s) {n:Nat}:∀ (os:List Operand) (lss:List (List L)),litRows E s n os=some lss→lss.length=os.length∧(∀ q∈os,(a.eval q).cells.toList.length=n)∧All2 (RLf w ω s) (os.map fun q=>(a.eval q).cells.toList).flatten lss.flatten∧lss.flatten.length=os.length*n
 | [],lss,hl=>by
  have hl:=Option.some.inj hl
  subst hl
  exact ⟨rfl,by simp,trivial,by simp⟩
 | q::os,lss,hl=>by
  simp only [litRows] at hl
  cases hc:cells? s (ev E s 0 q) with
  | none=>rw [hc] at hl;cases hl
  | some ls =>
   cases hr:litRows E s n os with
   | none=>rw [hc,hr] at hl;cases hl
   | some r =>
    rw [hc,hr] at hl
    simp only at hl
    cases hb:Nat.beq ls.length n with
    | false=>rw [hb] at hl;cases hl
    | true =>
     rw [hb] at hl
     have hl:=Option.some.inj hl
     subst hl
     have hbl:=Nat.eq_of_beq_eq_true hb
     obtain ⟨hv,_,_⟩:=cells?_ok (ev_ok h E 0 q) hc
     obtain ⟨q1,q2,q3,q4⟩:=litRows_ok h os r hr
     have hlen:(a.eval q).cells.toList.length=n:=by rw [hv.length,hbl]
     refine ⟨by simp [q1],fun q' hq'=>?_,?_,?_⟩
     ·cases hq' with
      | head=>exact hlen
      | tail _ hm=>exact q2 q' hm
     ·simp only [List.map_cons,List.flatten_cons]
      exact hv.app q3
     ·simp only [List.flatten_cons,List.length_append,List.length_cons,q4,hbl,Nat.succ_mul]
      omega
theorem litD_ok {e:Nat} {cs:Tys}:∀ (n:Nat) (vs:List (KV real)) (x0 x:List cs.T),litD (A:=real) e cs n vs x0=some x→∃ els:List cs.T,x=x0++els∧els.length=n∧∀ i el,els[i]? = some el→toVsD (A:=real) cs ((vs.drop (i*cs.len)).take cs.len)=some el
 | 0,[],x0,x,h=>by
  have h:=Option.some.inj h
  subst h
  exact ⟨[],by simp,rfl,fun i el hi=>by cases hi⟩
 | 0,_::_,_,_,h=>by cases h
 | n+1,vs,x0,x,h=>by
  simp only [litD] at h
  cases hd:toVsD (A:=real) cs (vs.take cs.len) with
  | none=>rw [hd] at h;cases h
  | some el =>
   rw [hd] at h
   obtain ⟨els,e1,e2,e3⟩:=litD_ok n (vs.drop cs.len) (List.append (α:=cs.T) x0 [el]) x h
   refine ⟨el::els,by rw [e1];exact List.append_assoc x0 [el] els,congrArg Nat.succ e2,fun i el' hi=>?_⟩
   cases i with
   | zero =>
    have hi:=Option.some.inj hi
    subst hi
    rw [Nat.zero_mul,List.drop_zero]
    exact hd
   | succ i =>
    have:=e3 i el' hi
    rw [List.drop_drop] at this
    rwa [show (i+1)*cs.len=cs.len+i*cs.len by rw [Nat.succ_mul];omega]
noncomputable def litK (m:List (Nat×Nat)) (len d:Nat):Key→Option Key:=fun k =>
 match m.find? (fun q=>q.1 == k.1) with
 | some q=>some (d,((q.2 - 1) / len,(q.2 - 1) % len)::k.2)
 | none=>if k.1=d then none else some k
theorem kd_row (n:Nat) (cs:Tys) {lss:List (List L)} (hl:lss.length=n) (i:Nat) (k:K) (h:(lss.map fun _=>cs.kd).flatten[i]? = some k):(∀ t,k=.val t→∀ e c,t≠.sl e c)∧(∀ e c d,k=.arr e c d→d=true)∧∀ m,k≠.mp m:=by
 have hm:=List.mem_of_getElem? h
 obtain ⟨l,h1,h2⟩:=List.mem_flatten.1 hm
 obtain ⟨_,_,rfl⟩:=List.mem_map.1 h1
 obtain ⟨j,hj⟩:=List.mem_iff_getElem?.1 h2
 exact kd_get cs j k hj
theorem step_buildSlice (hE : EnvOk P E) {t n : Nat} {parts : Array (Nat × Operand)} (ho : o.op = .buildSlice t n parts) (h : Rel ω a w s) (hd : ∀ d, o.dst = some d → d < a.tmps.size) {Φ : FKey → Option (Callee real (Option R))}
    (hk : stepC E (realC R) Φ o s k = some r) : o.wp P a w (Ends ω a w o.dst k r) Q := by
  unfold stepC at hk
  simp only [ho] at hk
  obtain ⟨⟨e, cs⟩, h1, hk⟩ := mapFail_some hk
  cases hb : (Nat.beq parts.toList.length n && isRange 0 (parts.toList.map (·.1)) && decide (n * cs.len ≤ 16777216)) with
  | false => simp only [hb] at hk; cases hk
  | true =>
    simp only [hb, cond_true] at hk
    rw [Bool.and_eq_true, Bool.and_eq_true] at hb
    obtain ⟨⟨b1, b2⟩, b3⟩ := hb
    have hn := Nat.eq_of_beq_eq_true b1
    have hsm := of_decide_eq_true b3
    have fin : ∀ {cur' : Array Value}, (Instr.buildSlice t n (parts.map fun (i, q) => (i, a.eval q))).run P w = .ok (.slice (some ⟨w.heap.size, 0, none⟩) n n) (w.alloc (.cells cur' e)) → Ends ω a w o.dst k r (a.put o.dst (.slice (some ⟨w.heap.size, 0, none⟩) n n)) (w.alloc (.cells cur' e)) → o.wp P a w (Ends ω a w o.dst k r) Q := by
      intro cur' hrun hends
      refine wp_val (v := .slice (some ⟨w.heap.size, 0, none⟩) n n) (w' := w.alloc (.cells cur' e)) ?_ hends
      unfold execOp
      simp only [ho]
      rw [Sem.run_bind, hrun]
      rfl
    cases hdp : E.deep (o.dst.getD 0) with
    | false =>
      rw [hdp] at hk
      simp only [cond_false] at hk
      obtain ⟨⟨x, s2⟩, h2, hk⟩ := mapFail_some hk
      obtain ⟨ω2, p2, els, e1, e2, e3, e4⟩ := litRow_ok (parts.toList.map (·.2)) ([] : List cs.T) ω s x s2 h (Passes.refl h) h2
      have hx : x = els := by rw [e1]; rfl
      subst hx
      have hxl : List.length x = n := by
        have : List.length x = (parts.toList.map (·.2)).length := e2
        rw [this, List.length_map, hn]
      obtain ⟨cur', hrun, hcsz, hfl⟩ := buildSlice_run (w := w) hE h1 hn b2 hsm e3
      refine fin hrun ?_
      have hnew := new_arr (o := o) (r := r) (k := k) (ω := ω) (w := w) (dp := false) (id := mkId (o.dst.getD 0) 0 0) (e := e) (cs := cs) (x := x) (arr := cur') (c := n) p2.rel p2.ext hd (mkId_ne _ _ _) (by rw [hxl]; exact Nat.le_refl _) hcsz (fun i hi => by
        obtain ⟨q, hq⟩ := get_ex (l := parts.toList.map (·.2)) (i := i) (by rw [← e2]; exact hi)
        obtain ⟨el, hel⟩ := get_ex hi
        rw [getD_some hel]
        have hrow := e4 i el q hel hq
        have hg := Grow.alloc w (.cells cur' e)
        have hfr := Tys.R_frame hg.size cs (fun _ => .imm) _ _ 0 _ (fun _ => (fresh_ext (ω := ω2) (id := mkId (o.dst.getD 0) 0 0) (mkId_ne _ _ _) hg (Nat.le_refl _)).keeps) (fun _ => rfl) hrow
        refine Tys.R_get cs _ _ _ 0 _ (fun j hj' => ?_) hfr
        rw [Nat.zero_add]
        exact hfl i q hq j hj') hk
      rw [hxl] at hnew
      exact hnew
    | true =>
      rw [hdp] at hk
      simp only [cond_true] at hk
      obtain ⟨lss, h2, hk⟩ := mapFail_some hk
      obtain ⟨⟨vs, s2⟩, h3, hk⟩ := mapFail_some hk
      obtain ⟨x, h4, hk⟩ := mapFail_some hk
      obtain ⟨l1, l2, l3, l4⟩ := litRows_ok h _ _ h2
      obtain ⟨els, e1, e2, e3⟩ := litD_ok n vs [] x h4
      have hx : x = els := by rw [e1]; rfl
      subst hx
      obtain ⟨cur', hrun, hcsz, hfl⟩ := buildSlice_run (w := w) hE h1 hn b2 hsm l2
      refine fin hrun ?_
      obtain ⟨ω1, m, p1, g1, t1, _, r1⟩ := takes_ok _ _ _ ω s vs s2 1 h l3 h3
      have hrv := r1 ω1 s2 (ω1.named m) (Later.refl _ _) (named_sends g1)
      have hnl : (parts.toList.map (·.2)).length = n := by rw [List.length_map, hn]
      have hvl : vs.length = n * cs.len := by
        rw [hrv.length, l3.length, l4, hnl]
      have hks : ((lss.map fun _ => cs.kd).flatten).length = n * cs.len := by rw [← t1, List.length_map, hvl]
      have g1' : Gone w ω s ω1 s2 m 1 (1 + n * cs.len) := by rwa [hks] at g1
      have h0 := mkId_ne (o.dst.getD 0) 0 0
      generalize hdd : mkId (o.dst.getD 0) 0 0 = d at hk h0
      have hg := Grow.alloc w (.cells cur' e)
      have hlt : w.heap.size < (w.alloc (.cells cur' e)).heap.size := by rw [alloc_size]; omega
      have hfn : ∀ {i : Nat} {q : Nat × Nat}, m.find? (fun q => q.1 == i) = some q → 1 ≤ q.2 ∧ q.2 < 1 + n * cs.len := fun hf => g1'.rng _ _ (find_mem hf)
      obtain ⟨hR, hX⟩ := p1.rel.adopt (κ := litK m cs.len d) (d := d) (b0 := w.heap.size) (w' := w.alloc (.cells cur' e)) (src := fun i => ∃ j, (i, j) ∈ m) (ob := .arr e cs true x) (fun c e => by cases e) h0 (fun ⟨j, hj⟩ => g1.nz _ _ hj rfl)
        (fun k k' q hk1 hk2 => by
          unfold litK at hk1 hk2
          cases hf : m.find? (fun q => q.1 == k.1) with
          | some z =>
            rw [hf] at hk1
            have hk1 := Option.some.inj hk1
            cases hf' : m.find? (fun q => q.1 == k'.1) with
            | some z' =>
              rw [hf'] at hk2
              have hk2 := Option.some.inj hk2
              rw [← hk2] at hk1
              injection hk1 with _ e5
              injection e5 with e5 e6
              injection e5 with e5 e7
              have r1 := hfn hf
              have r2 := hfn hf'
              have : z.2 = z'.2 := by
                have d1 := Nat.div_add_mod (z.2 - 1) cs.len
                have d2 := Nat.div_add_mod (z'.2 - 1) cs.len
                rw [e5, e7] at d1
                omega
              have m1 := find_mem hf
              rw [this] at m1
              exact Prod.ext (g1.inj _ _ _ m1 (find_mem hf')) e6
            | none =>
              rw [hf'] at hk2
              simp only at hk2
              split at hk2
              · cases hk2
              · rename_i hn
                have hk2 := Option.some.inj hk2
                rw [hk2, ← hk1] at hn
                exact absurd rfl hn
          | none =>
            rw [hf] at hk1
            simp only at hk1
            split at hk1
            · cases hk1
            · rename_i hn
              have hk1 := Option.some.inj hk1
              cases hf' : m.find? (fun q => q.1 == k'.1) with
              | some z' =>
                rw [hf'] at hk2
                have hk2 := Option.some.inj hk2
                rw [hk1, ← hk2] at hn
                exact absurd rfl hn
              | none =>
                rw [hf'] at hk2
                simp only at hk2
                split at hk2
                · cases hk2
                · have hk2 := Option.some.inj hk2
                  rw [hk1, hk2])
        (fun k p hk1 => by
          unfold litK at hk1
          cases hf : m.find? (fun q => q.1 == k.1) with
          | some z =>
            rw [hf] at hk1
            have hk1 := Option.some.inj hk1
            injection hk1 with _ hk1
            rw [← hk1]
            exact fun e => by cases e
          | none =>
            rw [hf] at hk1
            simp only at hk1
            split at hk1
            · cases hk1
            · rename_i hn
              have hk1 := Option.some.inj hk1
              rw [hk1] at hn
              exact absurd rfl hn)
        (fun i p hi hid => by
          unfold litK
          cases hf : m.find? (fun q => q.1 == (i, p).1) with
          | some z => exact absurd ⟨_, find_mem hf⟩ hi
          | none => simp only; rw [if_neg hid])
        (fun i ⟨j, hj⟩ => g1.is i j hj) ⟨rfl, rfl, rfl⟩ hg.size (fun b _ hb => hg.block b hb) hlt (fun hb => absurd hb (Nat.lt_irrefl _))
      have hxl : List.length x = n := e2
      refine arr_ends (dp := true) hR (p1.ext.trans hX) hd ?_ hk
      refine ⟨some ⟨w.heap.size, 0, none⟩, n, n, rfl, hxl, Nat.le_refl _, .inr ⟨w.heap.size, cur', rfl, heap_alloc_new w _, hcsz, by unfold Own.adopt; rw [if_pos rfl]; rfl⟩, fun i A hi hA => ?_⟩
      injection hA with hA
      subst hA
      obtain ⟨q, hq⟩ := get_ex (l := parts.toList.map (·.2)) (i := i) (by rw [hnl]; exact hi)
      obtain ⟨el, hel⟩ := get_ex (l := x) (i := i) (by rw [hxl]; exact hi)
      rw [getD_some hel]
      have hD := e3 i el hel
      refine (R_cells cs _ _ 0 _).2 fun j t z hz => ?_
      have hj := cellAt_len _ _ _ _ hz
      obtain ⟨_, c2⟩ := cellAt_D cs _ _ hD
      rw [c2 j hj, List.getElem?_take_of_lt hj, List.getElem?_drop] at hz
      cases hvj : vs[i * cs.len + j]? with
      | none => rw [hvj] at hz; cases hz
      | some vv =>
        rw [hvj] at hz
        have hz := Option.some.inj hz
        obtain ⟨u, u1, u2⟩ := RKVs_get hrv _ _ hvj
        have hkk : ((lss.map fun _ => cs.kd).flatten)[i * cs.len + j]? = some vv.1 := by rw [← t1, List.getElem?_map, hvj]; rfl
        obtain ⟨z1, z2⟩ := kd_row n cs (by rw [l1, hnl]) _ _ hkk
        have hlt2 : i * cs.len + j < n * cs.len := row_lt hi hj (Nat.le_refl _)
        have hdm : DM w (ω1.named m) (w.alloc (.cells cur' e)) (ω1.adopt (litK m cs.len d) d w.heap.size) (1 + (i * cs.len + j), []) (d, [(i, j)]) := by
          intro b rr hb hk1
          have hne : b ≠ w.heap.size := by omega
          refine ⟨hg.block b hb, ?_⟩
          rcases named_spec hk1 with ⟨f1, _⟩ | ⟨ii, f1, f2, f3⟩
          · simp only at f1; omega
          · simp only [List.nil_append] at f1 f3
            rw [adopt_ne hne f3]
            unfold litK
            rw [find_of g1 f1]
            simp only [List.cons_append, List.nil_append]
            have hpos : 0 < cs.len := by omega
            rw [show 1 + (i * cs.len + j) - 1 = j + cs.len * i by rw [Nat.mul_comm]; omega, Nat.add_mul_div_left _ _ hpos, Nat.add_mul_mod_self_left, Nat.div_eq_of_lt hj, Nat.mod_eq_of_lt hj, Nat.zero_add]
        have hfin := RKV_deep z1 z2 hdm u2
        rw [hz] at hfin
        refine ⟨u, ?_, by rw [Nat.zero_add]; exact hfin⟩
        simp only [Nat.zero_add]
        rw [cell_of_row _ w.heap.size _ cur' e (0, 0) (heap_alloc_new w _), hfl i q hq j hj]
        have hfg := flat_get cs.len ((parts.toList.map (·.2)).map fun q => (a.eval q).cells.toList) (fun l hl => by
          simp only [List.mem_map] at hl
          obtain ⟨q', hq', rfl⟩ := hl
          exact l2 q' (by simpa using hq')) i j ((a.eval q).cells.toList) (by rw [List.getElem?_map, hq]; rfl) hj
        rw [← hfg]
        exact u1
end
end Go.R
