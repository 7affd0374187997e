import Derived.Test.YthdhgmppijjhpaaGreatSeenFateQA
/- Plain functions that stand for Go functions, and what they answer. Conditions: none. -/
set_option autoImplicit false
set_option linter.unusedVariables false
set_option linter.unusedSimpArgs false
set_option linter.unusedSimpArgs false
set_option linter.unusedVariables false
namespace Go.Fn
open Go.R Go.Sort
theorem bub_up (rec:List Int→Int→Int→Int→List Ev→Option (List Int×Unit)) (i:Nat) (hi:0 < i):∀ (r k:Nat) (d:Array Int) (f:Nat),i - 1 - k=r→i≤d.size→d.size≤255→k < i→r < f →
  ∃ d',iter (slices_symMergeCmpFunc_int___impl_OrderOf_1_b2 rec ((i:Int),())) f (d.toList,(k:Int),())=some (.inl (d'.toList,()))∧PermIn k i d d'∧(∀ t,k≤t→t < i - 1→d'[t]! = d[t+1]!)∧d'[i - 1]! = d[k]!:=by
 have e1:rArith .sub .i64 (i:Int) 1=((i - 1:Nat):Int)∨255 < i:=by
  by_cases h:255 < i
  ·exact .inr h
  ·exact .inl (sS (m:=1) (by omega) (by omega))
 intro r
 induction r with
 | zero =>
  intro k d f hk hs hd hki hf
  have e1:=e1.resolve_right (by omega)
  obtain ⟨f,rfl⟩:∃ m,f=m+1:=⟨f - 1,by omega⟩
  refine ⟨d,iter_done ?_,permIn_refl _ _ _,fun t h1 h2=>by omega,by rw [show i - 1=k by omega]⟩
  unfold slices_symMergeCmpFunc_int___impl_OrderOf_1_b2
  simp only [e1,ltS,show ¬ (k < i - 1) by omega,decide_false,cond_false]
 | succ r ih =>
  intro k d f hk hs hd hki hf
  have e1:=e1.resolve_right (by omega)
  obtain ⟨f,rfl⟩:∃ m,f=m+1:=⟨f - 1,by omega⟩
  obtain ⟨d',h1,h2,h3,h4⟩:=ih (k+1) (swp d k (k+1)) f (by omega) (by rw [size_swp];omega) (by rw [size_swp];omega) (by omega) (by omega)
  refine ⟨d',?_,permIn_trans _ _ _ k i (swp_permIn d k i k (k+1) (by omega) (by omega) (by omega) (by omega) hs) (permIn_mono _ _ (k+1) i k i (by omega) (Nat.le_refl _) (by rw [size_swp];omega) h2),fun t t1 t2=>?_,?_⟩
  ·rw [←h1]
   refine iter_next ?_
   unfold slices_symMergeCmpFunc_int___impl_OrderOf_1_b2
   simp only [e1,ltS,show k < i - 1 by omega,decide_true,cond_true,succ64 (n:=k) (by omega),inA,gI,inP,show k+1 < d.size by omega,show k < d.size by omega,swA]
  ·by_cases e:t=k
   ·subst e
    rw [h2.2.1 t (.inl (by omega)),swp_left d _ _ (by omega) (by omega)]
   ·rw [h3 t (by omega) t2,swp_other d _ _ _ (by omega) (by omega)]
  ·rw [h4,swp_right d _ _ (by omega)]
theorem bub_down (rec:List Int→Int→Int→Int→List Ev→Option (List Int×Unit)) (i:Nat):∀ (r k:Nat) (d:Array Int) (f:Nat),k - i=r→i≤k→k < d.size→d.size≤255→r < f →
  ∃ d',iter (slices_symMergeCmpFunc_int___impl_OrderOf_1_b6 rec ((i:Int),())) f (d.toList,(k:Int),())=some (.inl (d'.toList,()))∧PermIn i (k+1) d d'∧(∀ t,i≤t→t < k→d'[t+1]! = d[t]!)∧d'[i]! = d[k]!:=by
 intro r
 induction r with
 | zero =>
  intro k d f hk hik hs hd hf
  obtain ⟨f,rfl⟩:∃ m,f=m+1:=⟨f - 1,by omega⟩
  refine ⟨d,iter_done ?_,permIn_refl _ _ _,fun t h1 h2=>by omega,by rw [show i=k by omega]⟩
  unfold slices_symMergeCmpFunc_int___impl_OrderOf_1_b6
  simp only [gtS,show ¬ (k > i) by omega,decide_false,cond_false]
 | succ r ih =>
  intro k d f hk hik hs hd hf
  obtain ⟨f,rfl⟩:∃ m,f=m+1:=⟨f - 1,by omega⟩
  have e1:rArith .sub .i64 (k:Int) 1=((k - 1:Nat):Int):=sS (m:=1) (by omega) (by omega)
  obtain ⟨d',h1,h2,h3,h4⟩:=ih (k - 1) (swp d k (k - 1)) f (by omega) (by omega) (by rw [size_swp];omega) (by rw [size_swp];omega) (by omega)
  rw [show k - 1+1=k by omega] at h2
  refine ⟨d',?_,permIn_trans _ _ _ i (k+1) (swp_permIn d i (k+1) k (k - 1) (by omega) (by omega) (by omega) (by omega) (by omega)) (permIn_mono _ _ i k i (k+1) (Nat.le_refl _) (by omega) (by rw [size_swp];omega) h2),fun t t1 t2=>?_,?_⟩
  ·rw [←h1]
   refine iter_next ?_
   unfold slices_symMergeCmpFunc_int___impl_OrderOf_1_b6
   simp only [gtS,show k > i by omega,decide_true,cond_true,e1,inA,gI,inP,show k < d.size by omega,show k - 1 < d.size by omega,swA]
  ·by_cases e:t+1=k
   ·rw [e,h2.2.1 k (.inr (by omega)),swp_left d _ _ (by omega) (by omega),show k - 1=t by omega]
   ·rw [h3 t t1 (by omega),swp_other d _ _ _ (by omega) (by omega)]
  ·rw [h4,swp_right d _ _ (by omega)]
noncomputable def MergeOk (l:List Ev) (rec:List Int→Int→Int→Int→List Ev→Option (List Int×Unit)) (M:Nat):Prop:=
 ∀ (d:Array Int) (a m b:Nat),b - a < M→a < m→m < b→b≤d.size→d.size≤255→Oks l d→SortedIn (ltO l) a m d→SortedIn (ltO l) m b d→∃ d',rec d.toList (a:Int) (m:Int) (b:Int) l=some (d'.toList,())∧PermIn a b d d'∧SortedIn (ltO l) a b d'
theorem merge_left (l:List Ev) (rec:List Int→Int→Int→Int→List Ev→Option (List Int×Unit)) (d:Array Int) (a b:Nat) (h1:a+1 < b) (hb:b≤d.size) (hd:d.size≤255) (ho:Oks l d) (hs:SortedIn (ltO l) (a+1) b d) :
  ∃ d',slices_symMergeCmpFunc_int___impl_OrderOf_1_r rec d.toList (a:Int) ((a+1:Nat):Int) (b:Int) l=some (d'.toList,())∧PermIn a b d d'∧SortedIn (ltO l) a b d':=by
 have hw:=ltO_swo l
 have e0:rArith .sub .i64 ((a+1:Nat):Int) (a:Int)=((1:Nat):Int):=by rw [sS (by omega) (by omega)];congr 1;omega
 obtain ⟨i,hi,i1,i2,i3,i4⟩:=bsearch (body:=slices_symMergeCmpFunc_int___impl_OrderOf_1_b0 rec ((a:Int),l,())) (fun i j=>(d.toList,(i:Int),(j:Int),())) (fun i=>(.inl (d.toList,(i:Int),()):List Int×Int×Unit ⊕ Empty)) (fun c=>ltO l d[c]! d[a]!) (a+1) b (fun i j h1 h2 h3=>by
  unfold slices_symMergeCmpFunc_int___impl_OrderOf_1_b0
  have e1:rArith .add .i64 (i:Int) (j:Int)=((i+j:Nat):Int):=aS (by omega)
  have z:rIsNeg (1:Int)=false:=rfl
  have hc:=cmpA ho (i:=(i+j) / 2) (j:=a) (by omega) (by omega)
  simp only [ltS,h2,decide_true,cond_true,z,cond_false,e1,halfS (n:=i+j) (by omega),inA,gI,show (i+j) / 2 < d.size by omega,show a < d.size by omega,hc,Option.bind_some,cmpO_neg,succ64 (n:=(i+j) / 2) (by omega)]
  cases ltO l d[(i+j) / 2]! d[a]! <;> rfl) (fun i=>by
  unfold slices_symMergeCmpFunc_int___impl_OrderOf_1_b0
  simp only [ltS,Nat.lt_irrefl,decide_false,cond_false]) 256 (a+1) b big (by omega) (lt_big (by omega)) (Nat.le_refl _) (by omega) (Nat.le_refl _) (.inl rfl) (.inl rfl)
 obtain ⟨d',h3,h4,h5,h6⟩:=bub_up rec i (by omega) (i - 1 - a) a d big rfl (by omega) hd (by omega) (lt_big (by omega))
 refine ⟨d',?_,permIn_mono _ _ a i a b (Nat.le_refl _) i2 hb h4,?_⟩
 ·unfold slices_symMergeCmpFunc_int___impl_OrderOf_1_r slices_symMergeCmpFunc_int___impl_OrderOf_1_l0 slices_symMergeCmpFunc_int___impl_OrderOf_1_l2
  simp only [e0,show rCmp .eql ((1:Nat):Int) (1:Int)=true from rfl,cond_true,hi,Option.bind_some,Sum.elim_inl,h3]
 ·have hi0:∀ u,i≤u→d'[u]! = d[u]!:=fun u hu=>h4.2.1 u (.inr hu)
  intro u v h7 h8 h9
  have atI:∀ u,u < i - 1→a≤u→ltO l d[a]! d[u+1]! = false:=fun u hu hau=>by
   have hP:ltO l d[i - 1]! d[a]! = true:=i3.resolve_left (by omega)
   exact hw.ntrans _ _ _ (hw.asymm hP) (le_sorted hw hs (by omega) (by omega) (by omega))
  by_cases u1:u < i - 1
  ·rw [h5 u h7 u1]
   by_cases v1:v < i - 1
   ·rw [h5 v (by omega) v1];exact le_sorted hw hs (by omega) (by omega) (by omega)
   ·by_cases v2:v=i - 1
    ·rw [v2,h6];exact atI u u1 h7
    ·rw [hi0 v (by omega)];exact le_sorted hw hs (by omega) (by omega) h9
  ·by_cases u2:u=i - 1
   ·rw [u2,h6,hi0 v (by omega)]
    have hN:ltO l d[i]! d[a]! = false:=i4.resolve_left (by omega)
    exact hw.ntrans _ _ _ (le_sorted hw hs (by omega) (by omega) h9) hN
   ·rw [hi0 u (by omega),hi0 v (by omega)];exact le_sorted hw hs (by omega) (by omega) h9
theorem merge_right (l:List Ev) (rec:List Int→Int→Int→Int→List Ev→Option (List Int×Unit)) (d:Array Int) (a m:Nat) (h1:a < m) (hne:m - a≠1) (hb:m+1≤d.size) (hd:d.size≤255) (ho:Oks l d) (hs:SortedIn (ltO l) a m d) :
  ∃ d',slices_symMergeCmpFunc_int___impl_OrderOf_1_r rec d.toList (a:Int) (m:Int) ((m+1:Nat):Int) l=some (d'.toList,())∧PermIn a (m+1) d d'∧SortedIn (ltO l) a (m+1) d':=by
 have hw:=ltO_swo l
 have e0:rArith .sub .i64 (m:Int) (a:Int)=((m - a:Nat):Int):=sS (by omega) (by omega)
 have e1:rArith .sub .i64 ((m+1:Nat):Int) (m:Int)=((1:Nat):Int):=by rw [sS (by omega) (by omega)];congr 1;omega
 have ne1:rCmp .eql ((m - a:Nat):Int) (1:Int)=false:=(eqS (m - a) 1).trans (decide_eq_false hne)
 obtain ⟨i,hi,i1,i2,i3,i4⟩:=bsearch (body:=slices_symMergeCmpFunc_int___impl_OrderOf_1_b4 rec ((m:Int),l,())) (fun i j=>(d.toList,(i:Int),(j:Int),())) (fun i=>(.inl (d.toList,(i:Int),()):List Int×Int×Unit ⊕ Empty)) (fun c=>!ltO l d[m]! d[c]!) a m (fun i j h1 h2 h3=>by
  unfold slices_symMergeCmpFunc_int___impl_OrderOf_1_b4
  have e1:rArith .add .i64 (i:Int) (j:Int)=((i+j:Nat):Int):=aS (by omega)
  have z:rIsNeg (1:Int)=false:=rfl
  have hc:=cmpA ho (i:=m) (j:=(i+j) / 2) (by omega) (by omega)
  simp only [ltS,h2,decide_true,cond_true,z,cond_false,e1,halfS (n:=i+j) (by omega),inA,gI,show (i+j) / 2 < d.size by omega,show m < d.size by omega,hc,Option.bind_some,cmpO_neg,succ64 (n:=(i+j) / 2) (by omega)]
  cases ltO l d[m]! d[(i+j) / 2]! <;> rfl) (fun i=>by
  unfold slices_symMergeCmpFunc_int___impl_OrderOf_1_b4
  simp only [ltS,Nat.lt_irrefl,decide_false,cond_false]) 256 a m big (by omega) (lt_big (by omega)) (Nat.le_refl _) (by omega) (Nat.le_refl _) (.inl rfl) (.inl rfl)
 obtain ⟨d',h3,h4,h5,h6⟩:=bub_down rec i (m - i) m d big rfl (by omega) (by omega) hd (lt_big (by omega))
 refine ⟨d',?_,permIn_mono _ _ i (m+1) a (m+1) i1 (Nat.le_refl _) hb h4,?_⟩
 ·unfold slices_symMergeCmpFunc_int___impl_OrderOf_1_r slices_symMergeCmpFunc_int___impl_OrderOf_1_l4 slices_symMergeCmpFunc_int___impl_OrderOf_1_l6
  simp only [e0,ne1,cond_false,e1,show rCmp .eql ((1:Nat):Int) (1:Int)=true from rfl,cond_true,hi,Option.bind_some,Sum.elim_inl,h3]
 ·have hi0:∀ u,u < i→d'[u]! = d[u]!:=fun u hu=>h4.2.1 u (.inl hu)
  have hup:∀ u,i < u→u < m+1→d'[u]! = d[u - 1]!:=fun u hu hu2=>by
   have:=h5 (u - 1) (by omega) (by omega)
   rwa [show u - 1+1=u by omega] at this
  intro u v h7 h8 h9
  by_cases u1:u < i
  ·rw [hi0 u u1]
   by_cases v1:v < i
   ·rw [hi0 v v1];exact le_sorted hw hs h7 (by omega) (by omega)
   ·by_cases v2:v=i
    ·rw [v2,h6]
     have hP:=i3.resolve_left (by omega)
     rw [Bool.not_eq_true'] at hP
     exact hw.ntrans _ _ _ hP (le_sorted hw hs h7 (by omega) (by omega))
    ·rw [hup v (by omega) h9];exact le_sorted hw hs h7 (by omega) (by omega)
  ·by_cases u2:u=i
   ·rw [u2,h6,hup v (by omega) h9]
    have hN:=i4.resolve_left (by omega)
    rw [Bool.not_eq_false'] at hN
    exact hw.ntrans _ _ _ (le_sorted hw hs (by omega) (by omega) (by omega)) (hw.asymm hN)
   ·rw [hup u (by omega) (by omega),hup v (by omega) h9];exact le_sorted hw hs (by omega) (by omega) (by omega)
noncomputable def g_right (rec:List Int→Int→Int→Int→List Ev→Option (List Int×Unit)) (l:List Ev) (mid e b:Int) (d:List Int):Option (List Int×Unit):=
 (lets (rCmp .lss mid e) fun v3=>(bif v3 then (bif (rCmp .lss e b) then ((rec d mid e b l).bind fun y4=>some (y4.1,())) else some (d,())) else some (d,())))
noncomputable def g_rest (rec:List Int→Int→Int→Int→List Ev→Option (List Int×Unit)) (l:List Ev) (a s mid e b:Int) (d:List Int):Option (List Int×Unit):=
 (bif (rCmp .lss a s) then (bif (rCmp .lss s mid) then ((rec d a s mid l).bind fun y2=>g_right rec l mid e b y2.1) else g_right rec l mid e b d) else g_right rec l mid e b d)
theorem rest_ok {l:List Ev} {rec:List Int→Int→Int→Int→List Ev→Option (List Int×Unit)} {M:Nat} (hrec:MergeOk l rec M) (d:Array Int) (a s mid e b:Nat) (h1:a≤s) (h2:s≤mid) (h3:mid≤e) (h4:e≤b) (hab:a < mid) (hmb:mid < b) (hM:b - a≤M) (hb:b≤d.size) (hd:d.size≤255) (ho:Oks l d)
  (s1:SortedIn (ltO l) a s d) (s2:SortedIn (ltO l) s mid d) (s3:SortedIn (ltO l) mid e d) (s4:SortedIn (ltO l) e b d) (hx:∀ u v,a≤u→u < mid→mid≤v→v < b→ltO l d[v]! d[u]! = false) :
  ∃ d',g_rest rec l (a:Int) (s:Int) (mid:Int) (e:Int) (b:Int) d.toList=some (d'.toList,())∧PermIn a b d d'∧SortedIn (ltO l) a b d':=by
 have hw:=ltO_swo l
 obtain ⟨d2,k1,k2,k3⟩:∃ d2:Array Int,g_rest rec l (a:Int) (s:Int) (mid:Int) (e:Int) (b:Int) d.toList=g_right rec l (mid:Int) (e:Int) (b:Int) d2.toList∧PermIn a mid d d2∧SortedIn (ltO l) a mid d2:=by
  unfold g_rest
  rw [ltS,ltS]
  by_cases q1:a < s
  ·by_cases q2:s < mid
   ·obtain ⟨d2,k1,k2,k3⟩:=hrec d a s mid (by omega) q1 q2 (by omega) hd ho s1 s2
    exact ⟨d2,by simp only [q1,q2,decide_true,cond_true,k1,Option.bind_some],k2,k3⟩
   ·have:s=mid:=by omega
    exact ⟨d,by simp only [q1,q2,decide_true,decide_false,cond_true,cond_false],permIn_refl _ _ _,this ▸ s1⟩
  ·have:s=a:=by omega
   exact ⟨d,by simp only [q1,decide_false,cond_false],permIn_refl _ _ _,this ▸ s2⟩
 have z2:d2.size=d.size:=k2.1
 have ho2:=ho.perm (by omega) k2
 obtain ⟨d3,m1,m2,m3⟩:∃ d3:Array Int,g_right rec l (mid:Int) (e:Int) (b:Int) d2.toList=some (d3.toList,())∧PermIn mid b d2 d3∧SortedIn (ltO l) mid b d3:=by
  have s3':SortedIn (ltO l) mid e d2:=s3.congr fun i hi _=>k2.2.1 i (.inr hi)
  have s4':SortedIn (ltO l) e b d2:=s4.congr fun i hi _=>k2.2.1 i (.inr (by omega))
  unfold g_right
  rw [ltS,ltS]
  by_cases q1:mid < e
  ·by_cases q2:e < b
   ·obtain ⟨d3,m1,m2,m3⟩:=hrec d2 mid e b (by omega) q1 q2 (by omega) (by omega) ho2 s3' s4'
    exact ⟨d3,by simp only [lets_def,q1,q2,decide_true,cond_true,m1,Option.bind_some],m2,m3⟩
   ·have:e=b:=by omega
    exact ⟨d2,by simp only [lets_def,q1,q2,decide_true,decide_false,cond_true,cond_false],permIn_refl _ _ _,this ▸ s3'⟩
  ·have:e=mid:=by omega
   exact ⟨d2,by simp only [lets_def,q1,decide_false,cond_false],permIn_refl _ _ _,this ▸ s4'⟩
 refine ⟨d3,by rw [k1,m1],permIn_trans _ _ _ a b (permIn_mono _ _ a mid a b (Nat.le_refl _) (by omega) hb k2) (permIn_mono _ _ mid b a b (by omega) (Nat.le_refl _) (by omega) m2),fun u v h7 h8 h9=>?_⟩
 have left:∀ u,u < mid→d3[u]! = d2[u]!:=fun u hu=>m2.2.1 u (.inl hu)
 by_cases v1:v < mid
 ·rw [left u (by omega),left v v1];exact k3 u v h7 h8 v1
 ·by_cases u1:u < mid
  ·rw [left u u1]
   have c1:∀ w,mid≤w→w < b→ltO l d2[w]! d2[u]! = false:=fun w hw1 hw2=>by
    rw [k2.2.1 w (.inr hw1)]
    exact permIn_all d d2 a mid (fun x=>ltO l d[w]! x=false) (by omega) k2 (fun t ht1 ht2=>hx t w ht1 ht2 hw1 hw2) u h7 u1
   exact permIn_all d2 d3 mid b (fun x=>ltO l x d2[u]! = false) (by omega) m2 (fun t ht1 ht2=>c1 t ht1 ht2) v (by omega) h9
  ·exact m3 u v (by omega) h8 h9
theorem found_ok {l:List Ev} {rec:List Int→Int→Int→Int→List Ev→Option (List Int×Unit)} {M:Nat} (hrec:MergeOk l rec M) (d:Array Int) (a m b mid s e lo hi:Nat) (ham:a+2≤m) (hmb:m+2≤b) (hM:b - a≤M) (hb:b≤d.size) (hd:d.size≤255) (ho:Oks l d)
  (s1:SortedIn (ltO l) a m d) (s2:SortedIn (ltO l) m b d) (hmid:mid=(a+b) / 2) (hlo:lo=if m > mid then mid+m - b else a) (hhi:hi=if m > mid then mid else m) (r1:lo≤s) (r2:s≤hi) (he:e=mid+m - s)
  (r3:s=lo∨ltO l d[mid+m - 1 - (s - 1)]! d[s - 1]! = false) (r4:s=hi∨ltO l d[mid+m - 1 - s]! d[s]! = true) :
  ∃ d',(bif (rCmp .lss (s:Int) (m:Int)) then (bif (rCmp .lss (m:Int) (e:Int)) then ((slices_rotateCmpFunc_int___impl_OrderOf_1 d.toList (s:Int) (m:Int) (e:Int) l).bind fun y2=>g_rest rec l (a:Int) (s:Int) (mid:Int) (e:Int) (b:Int) y2.1) else g_rest rec l (a:Int) (s:Int) (mid:Int) (e:Int) (b:Int) d.toList) else g_rest rec l (a:Int) (s:Int) (mid:Int) (e:Int) (b:Int) d.toList)=some (d'.toList,())∧PermIn a b d d'∧SortedIn (ltO l) a b d':=by
 have hw:=ltO_swo l
 have b1:a≤s∧s≤m∧m≤e∧e≤b∧s≤mid∧mid≤e:=by
  split at hlo <;> rename_i q <;> simp only [q,if_true,if_false] at hhi <;> omega
 obtain ⟨c1,c2,c3,c4,c5,c6⟩:=b1
 obtain ⟨T,t0,t1,t2,t3⟩:∃ T:Array Int,(bif (rCmp .lss (s:Int) (m:Int)) then (bif (rCmp .lss (m:Int) (e:Int)) then ((slices_rotateCmpFunc_int___impl_OrderOf_1 d.toList (s:Int) (m:Int) (e:Int) l).bind fun y2=>g_rest rec l (a:Int) (s:Int) (mid:Int) (e:Int) (b:Int) y2.1) else g_rest rec l (a:Int) (s:Int) (mid:Int) (e:Int) (b:Int) d.toList) else g_rest rec l (a:Int) (s:Int) (mid:Int) (e:Int) (b:Int) d.toList)=g_rest rec l (a:Int) (s:Int) (mid:Int) (e:Int) (b:Int) T.toList∧PermIn s e d T∧(∀ u,s≤u→u < mid→T[u]! = d[m+(u - s)]!)∧(∀ v,mid≤v→v < e→T[v]! = d[s+(v - mid)]!):=by
  rw [ltS,ltS]
  by_cases q1:s < m
  ·by_cases q2:m < e
   ·obtain ⟨T,k1,k2,k3,k4⟩:=o_rotate l d s m e q1 q2 (by omega) hd
    rw [show m - (m - s)=s by omega] at k2 k3 k4
    rw [show m+(e - m)=e by omega] at k2
    refine ⟨T,by simp only [q1,q2,decide_true,cond_true,k1,Option.bind_some],k2,fun u h1 h2=>?_,fun v h1 h2=>?_⟩
    ·have:=k3 (u - s) (by omega)
     rwa [show s+(u - s)=u by omega] at this
    ·have:=k4 (v - mid) (by omega)
     rwa [show s+(e - m)+(v - mid)=v by omega] at this
   ·have:e=m:=by omega
    refine ⟨d,by simp only [q1,q2,decide_true,decide_false,cond_true,cond_false],permIn_refl _ _ _,fun u h1 h2=>by omega,fun v h1 h2=>?_⟩
    congr 1;omega
  ·have:s=m:=by omega
   refine ⟨d,by simp only [q1,decide_false,cond_false],permIn_refl _ _ _,fun u h1 h2=>?_,fun v h1 h2=>by omega⟩
   congr 1;omega
 have lo':∀ u,u < s→T[u]! = d[u]!:=fun u hu=>t1.2.1 u (.inl hu)
 have hi':∀ v,e≤v→T[v]! = d[v]!:=fun v hv=>t1.2.1 v (.inr hv)
 have zT:T.size=d.size:=t1.1
 obtain ⟨d',k1,k2,k3⟩:=rest_ok hrec T a s mid e b c1 c5 c6 c4 (by omega) (by omega) hM (by omega) (by omega) (ho.perm (by omega) t1)
  (fun u v h1 h2 h3=>by rw [lo' u (by omega),lo' v h3];exact s1 u v h1 h2 (by omega))
  (fun u v h1 h2 h3=>by rw [t2 u h1 (by omega),t2 v (by omega) h3];exact le_sorted hw s2 (by omega) (by omega) (by omega))
  (fun u v h1 h2 h3=>by rw [t3 u h1 (by omega),t3 v (by omega) h3];exact le_sorted hw s1 (by omega) (by omega) (by omega))
  (fun u v h1 h2 h3=>by rw [hi' u h1,hi' v (by omega)];exact s2 u v (by omega) h2 h3)
  (fun u v h1 h2 h3 h4=>by
   by_cases u1:u < s
   ·rw [lo' u u1]
    by_cases v1:v < e
    ·rw [t3 v h3 v1];exact le_sorted hw s1 h1 (by omega) (by omega)
    ·rw [hi' v (by omega)]
     have hP:ltO l d[e]! d[s - 1]! = false:=by
      have:=r3.resolve_left (by split at hlo <;> omega)
      rwa [show mid+m - 1 - (s - 1)=e by omega] at this
     exact hw.ntrans _ _ _ (hw.ntrans _ _ _ (le_sorted hw s2 (by omega) (by omega) h4) hP) (le_sorted hw s1 h1 (by omega) (by omega))
   ·rw [t2 u (by omega) h2]
    by_cases v1:v < e
    ·rw [t3 v h3 v1]
     have hP:ltO l d[e - 1]! d[s]! = true:=by
      have:=r4.resolve_left (by split at hhi <;> omega)
      rwa [show mid+m - 1 - s=e - 1 by omega] at this
     exact hw.ntrans _ _ _ (hw.ntrans _ _ _ (le_sorted hw s1 (by omega) (by omega) (by omega)) (hw.asymm hP)) (le_sorted hw s2 (by omega) (by omega) (by omega))
    ·rw [hi' v (by omega)]
     exact le_sorted hw s2 (by omega) (by omega) h4)
 exact ⟨d',by rw [t0];exact k1,permIn_trans _ _ _ a b (permIn_mono _ _ s e a b c1 c4 hb t1) k2,k3⟩
theorem merge_any (l:List Ev) {rec:List Int→Int→Int→Int→List Ev→Option (List Int×Unit)} {M:Nat} (hrec:MergeOk l rec M) (d:Array Int) (a m b:Nat) (hM:b - a≤M) (ham:a < m) (hmb:m < b) (hb:b≤d.size) (hd:d.size≤255) (ho:Oks l d) (s1:SortedIn (ltO l) a m d) (s2:SortedIn (ltO l) m b d) :
  ∃ d',slices_symMergeCmpFunc_int___impl_OrderOf_1_r rec d.toList (a:Int) (m:Int) (b:Int) l=some (d'.toList,())∧PermIn a b d d'∧SortedIn (ltO l) a b d':=by
 by_cases q1:m=a+1
 ·subst q1;exact merge_left l rec d a b hmb hb hd ho s2
 ·by_cases q2:b=m+1
  ·subst q2;exact merge_right l rec d a m ham (by omega) hb hd ho s1
  ·have e0:rArith .sub .i64 (m:Int) (a:Int)=((m - a:Nat):Int):=sS (by omega) (by omega)
   have e1:rArith .sub .i64 (b:Int) (m:Int)=((b - m:Nat):Int):=sS (by omega) (by omega)
   have n1:rCmp .eql ((m - a:Nat):Int) (1:Int)=false:=(eqS (m - a) 1).trans (decide_eq_false (by omega))
   have n2:rCmp .eql ((b - m:Nat):Int) (1:Int)=false:=(eqS (b - m) 1).trans (decide_eq_false (by omega))
   have z:rIsNeg (1:Int)=false:=rfl
   have e2:rArith .add .i64 (a:Int) (b:Int)=((a+b:Nat):Int):=aS (by omega)
   have e3:=halfS (n:=a+b) (by omega)
   obtain ⟨mid,hmid⟩:∃ mid,mid=(a+b) / 2:=⟨_,rfl⟩
   rw [←hmid] at e3
   have e4:rArith .add .i64 (mid:Int) (m:Int)=((mid+m:Nat):Int):=aS (by omega)
   have e5:rArith .sub .i64 ((mid+m:Nat):Int) 1=((mid+m - 1:Nat):Int):=sS (m:=1) (by omega) (by omega)
   obtain ⟨lo,hlo⟩:∃ lo,lo=if m > mid then mid+m - b else a:=⟨_,rfl⟩
   obtain ⟨hi,hhi⟩:∃ hi,hi=if m > mid then mid else m:=⟨_,rfl⟩
   have hlh:a≤lo∧lo≤hi∧hi≤m∧hi≤mid∧(∀ c,lo≤c→c < hi→mid+m - 1 - c < b∧c≤mid+m - 1):=by
    split at hlo <;> rename_i q <;> simp only [q,if_true,if_false] at hhi
    ·exact ⟨by omega,by omega,by omega,by omega,fun c _ _=>by omega⟩
    ·exact ⟨by omega,by omega,by omega,by omega,fun c _ _=>by omega⟩
   obtain ⟨l1,l2,l3,l4,l5⟩:=hlh
   obtain ⟨s,hs,i1,i2,i3,i4⟩:=bsearch (body:=slices_symMergeCmpFunc_int___impl_OrderOf_1_b8 rec ((a:Int),(m:Int),(b:Int),l,(mid:Int),((mid+m:Nat):Int),((mid+m - 1:Nat):Int),())) (fun i j=>(d.toList,(i:Int),(j:Int),())) (fun i=>(.inl (d.toList,(i:Int),()):List Int×Int×Unit ⊕ Empty)) (fun c=>!ltO l d[mid+m - 1 - c]! d[c]!) lo hi (fun i j h1 h2 h3=>by
    have hc1:=l5 ((i+j) / 2) (by omega) (by omega)
    unfold slices_symMergeCmpFunc_int___impl_OrderOf_1_b8
    have x1:rArith .add .i64 (i:Int) (j:Int)=((i+j:Nat):Int):=aS (by omega)
    have x2:rArith .sub .i64 ((mid+m - 1:Nat):Int) (((i+j) / 2:Nat):Int)=((mid+m - 1 - (i+j) / 2:Nat):Int):=sS (by omega) (by omega)
    have hc:=cmpA ho (i:=mid+m - 1 - (i+j) / 2) (j:=(i+j) / 2) (by omega) (by omega)
    simp only [ltS,h2,decide_true,cond_true,z,cond_false,x1,halfS (n:=i+j) (by omega),x2,inA,gI,show (i+j) / 2 < d.size by omega,show mid+m - 1 - (i+j) / 2 < d.size by omega,hc,Option.bind_some,cmpO_neg,succ64 (n:=(i+j) / 2) (by omega)]
    cases ltO l d[mid+m - 1 - (i+j) / 2]! d[(i+j) / 2]! <;> rfl) (fun i=>by
    unfold slices_symMergeCmpFunc_int___impl_OrderOf_1_b8
    simp only [ltS,Nat.lt_irrefl,decide_false,cond_false]) 256 lo hi big (by omega) (lt_big (by omega)) (Nat.le_refl _) l2 (Nat.le_refl _) (.inl rfl) (.inl rfl)
   have e6:rArith .sub .i64 ((mid+m:Nat):Int) (s:Int)=((mid+m - s:Nat):Int):=sS (by omega) (by omega)
   obtain ⟨d',k1,k2,k3⟩:=found_ok hrec d a m b mid s (mid+m - s) lo hi (by omega) (by omega) hM hb hd ho s1 s2 hmid hlo hhi i1 i2 rfl (i3.imp id fun h=>by simpa using h) (i4.imp id fun h=>by simpa using h)
   refine ⟨d',?_,k2,k3⟩
   rw [←k1]
   unfold slices_symMergeCmpFunc_int___impl_OrderOf_1_r
   by_cases q:m > mid
   ·simp only [q,if_true] at hlo hhi
    have x1:rArith .sub .i64 ((mid+m:Nat):Int) (b:Int)=((mid+m - b:Nat):Int):=sS (by omega) (by omega)
    rw [hlo,hhi] at hs
    have hs':slices_symMergeCmpFunc_int___impl_OrderOf_1_l8 rec ((a:Int),(m:Int),(b:Int),l,(mid:Int),((mid+m:Nat):Int),((mid+m - 1:Nat):Int),()) (d.toList,((mid+m - b:Nat):Int),(mid:Int),())=_:=hs
    simp only [e0,n1,cond_false,e1,n2,z,e2,e3,gtS,q,decide_true,cond_true,e4,e5,x1,hs',Option.bind_some,Sum.elim_inl,e6]
    rfl
   ·simp only [q,if_false] at hlo hhi
    rw [hlo,hhi] at hs
    have hs':slices_symMergeCmpFunc_int___impl_OrderOf_1_l8 rec ((a:Int),(m:Int),(b:Int),l,(mid:Int),((mid+m:Nat):Int),((mid+m - 1:Nat):Int),()) (d.toList,(a:Int),(m:Int),())=_:=hs
    simp only [e0,n1,cond_false,e1,n2,z,e2,e3,gtS,q,decide_false,e4,e5,hs',Option.bind_some,Sum.elim_inl,e6]
    rfl
theorem merge_f (l:List Ev):∀ F,MergeOk l (slices_symMergeCmpFunc_int___impl_OrderOf_1_f F) F:=by
 intro F
 induction F with
 | zero=>intro d a m b h;omega
 | succ F ih=>intro d a m b h ham hmb hb hd ho s1 s2;exact merge_any l ih d a m b (by omega) ham hmb hb hd ho s1 s2
theorem o_merge (l:List Ev) (d:Array Int) (a m b:Nat) (ham:a < m) (hmb:m < b) (hb:b≤d.size) (hd:d.size≤255) (ho:Oks l d) (s1:SortedIn (ltO l) a m d) (s2:SortedIn (ltO l) m b d):∃ d',slices_symMergeCmpFunc_int___impl_OrderOf_1 d.toList (a:Int) (m:Int) (b:Int) l=some (d'.toList,())∧PermIn a b d d'∧SortedIn (ltO l) a b d':=
 merge_f l big d a m b (lt_big (by omega)) ham hmb hb hd ho s1 s2
end Go.Fn
set_option linter.unusedSimpArgs false
set_option linter.unusedVariables false
namespace Go.Fn
open Go.R Go.Sort
noncomputable def Blk (l:List Ev) (w a:Nat) (d:Array Int):Prop:=∀ i j,i < j→j < a→i / w=j / w→ltO l d[j]! d[i]! = false
theorem stable0 (l:List Ev) (n:Nat) (hn:n≤60):∀ (s a:Nat) (d:Array Int) (f:Nat),n - a≤s→a % 20=0→a≤n→d.size=n→Oks l d→Blk l 20 a d→s < f →
  ∃ (d':Array Int) (a':Nat),iter (slices_stableCmpFunc_int___impl_OrderOf_1_b0 ((n:Int),l,(20:Int),())) f (d.toList,(a:Int),((a+20:Nat):Int),())=some (.inl (d'.toList,(a':Int),()))∧PermIn 0 n d d'∧a' % 20=0∧a'≤n∧n < a'+20∧Blk l 20 a' d':=by
 intro s
 induction s with
 | zero =>
  intro a d f hs ha han hd ho hb hf
  obtain ⟨f,rfl⟩:∃ m,f=m+1:=⟨f - 1,by omega⟩
  refine ⟨d,a,iter_done ?_,permIn_refl _ _ _,ha,han,by omega,hb⟩
  unfold slices_stableCmpFunc_int___impl_OrderOf_1_b0
  simp only [leS,show ¬ (a+20≤n) by omega,decide_false,cond_false]
 | succ s ih =>
  intro a d f hs ha han hd ho hb hf
  obtain ⟨f,rfl⟩:∃ m,f=m+1:=⟨f - 1,by omega⟩
  by_cases h:a+20≤n
  ·obtain ⟨d1,k1,k2,k3⟩:=o_ins l d a (a+20) ho (by omega) (by omega) (by omega)
   obtain ⟨d',a',m1,m2,m3,m4,m5,m6⟩:=ih (a+20) d1 f (by omega) (by omega) h (by rw [k2.1];exact hd) (ho.perm (by omega) k2) (fun i j h1 h2 h3=>by
    by_cases q:j < a
    ·rw [k2.2.1 i (.inl (by omega)),k2.2.1 j (.inl q)];exact hb i j h1 q h3
    ·exact k3 i j (by omega) h1 h2) (by omega)
   refine ⟨d',a',?_,permIn_trans _ _ _ 0 n (permIn_mono _ _ a (a+20) 0 n (Nat.zero_le _) h (by omega) k2) m2,m3,m4,m5,m6⟩
   rw [←m1]
   refine iter_next ?_
   unfold slices_stableCmpFunc_int___impl_OrderOf_1_b0
   have e1:rArith .add .i64 ((a+20:Nat):Int) (20:Int)=((a+20+20:Nat):Int):=aS (m:=20) (by omega)
   simp only [leS,h,decide_true,cond_true,k1,Option.bind_some,e1]
  ·refine ⟨d,a,iter_done ?_,permIn_refl _ _ _,ha,han,by omega,hb⟩
   unfold slices_stableCmpFunc_int___impl_OrderOf_1_b0
   simp only [leS,h,decide_false,cond_false]
theorem stable4 (l:List Ev) (n:Nat) (hn:n≤60):∀ (s a:Nat) (d:Array Int) (f:Nat),n - a≤s→a % 40=0→a≤n→d.size=n→Oks l d→Blk l 40 a d→(∀ i j,a≤i→i < j→j < n→i / 20=j / 20→ltO l d[j]! d[i]! = false)→s < f →
  ∃ (d':Array Int) (a':Nat),iter (slices_stableCmpFunc_int___impl_OrderOf_1_b4 ((n:Int),l,(20:Int),())) f (d.toList,(a:Int),((a+40:Nat):Int),())=some (.inl (d'.toList,(a':Int),()))∧PermIn 0 n d d'∧a' % 40=0∧a'≤n∧n < a'+40∧Blk l 40 a' d'∧(∀ i j,a'≤i→i < j→j < n→i / 20=j / 20→ltO l d'[j]! d'[i]! = false):=by
 intro s
 induction s with
 | zero =>
  intro a d f hs ha han hd ho hb hr hf
  obtain ⟨f,rfl⟩:∃ m,f=m+1:=⟨f - 1,by omega⟩
  refine ⟨d,a,iter_done ?_,permIn_refl _ _ _,ha,han,by omega,hb,hr⟩
  unfold slices_stableCmpFunc_int___impl_OrderOf_1_b4
  simp only [leS,show ¬ (a+40≤n) by omega,decide_false,cond_false]
 | succ s ih =>
  intro a d f hs ha han hd ho hb hr hf
  obtain ⟨f,rfl⟩:∃ m,f=m+1:=⟨f - 1,by omega⟩
  by_cases h:a+40≤n
  ·obtain ⟨d1,k1,k2,k3⟩:=o_merge l d a (a+20) (a+40) (by omega) (by omega) (by omega) (by omega) ho (fun i j h1 h2 h3=>hr i j h1 h2 (by omega) (by omega)) (fun i j h1 h2 h3=>hr i j (by omega) h2 (by omega) (by omega))
   obtain ⟨d',a',m1,m2,m3,m4,m5,m6,m7⟩:=ih (a+40) d1 f (by omega) (by omega) h (by rw [k2.1];exact hd) (ho.perm (by omega) k2) (fun i j h1 h2 h3=>by
    by_cases q:j < a
    ·rw [k2.2.1 i (.inl (by omega)),k2.2.1 j (.inl q)];exact hb i j h1 q h3
    ·exact k3 i j (by omega) h1 h2) (fun i j h0 h1 h2 h3=>by
    rw [k2.2.1 i (.inr (by omega)),k2.2.1 j (.inr (by omega))];exact hr i j (by omega) h1 h2 h3) (by omega)
   refine ⟨d',a',?_,permIn_trans _ _ _ 0 n (permIn_mono _ _ a (a+40) 0 n (Nat.zero_le _) h (by omega) k2) m2,m3,m4,m5,m6,m7⟩
   rw [←m1]
   refine iter_next ?_
   unfold slices_stableCmpFunc_int___impl_OrderOf_1_b4
   have e0:rArith .add .i64 (a:Int) (20:Int)=((a+20:Nat):Int):=aS (m:=20) (by omega)
   have e1:rArith .add .i64 ((a+40:Nat):Int) (rArith .mul .i64 (2:Int) (20:Int))=((a+40+40:Nat):Int):=by
    rw [show rArith .mul .i64 (2:Int) (20:Int)=((40:Nat):Int) from mS (n:=2) (m:=20) (by omega)]
    exact aS (by omega)
   simp only [leS,h,decide_true,cond_true,e0,k1,Option.bind_some,e1]
  ·refine ⟨d,a,iter_done ?_,permIn_refl _ _ _,ha,han,by omega,hb,hr⟩
   unfold slices_stableCmpFunc_int___impl_OrderOf_1_b4
   simp only [leS,h,decide_false,cond_false]
theorem o_stable (l:List Ev) (d:Array Int) (n:Nat) (hn:n≤60) (hd:d.size=n) (ho:Oks l d):∃ d',slices_stableCmpFunc_int___impl_OrderOf_1 d.toList (n:Int) l=some (d'.toList,())∧PermIn 0 n d d'∧SortedIn (ltO l) 0 n d':=by
 obtain ⟨d1,a1,k1,k2,k3,k4,k5,k6⟩:=stable0 l n hn 60 0 d big (by omega) rfl (Nat.zero_le _) hd ho (fun i j _ h=>by omega) (lt_big (by omega))
 have z1:d1.size=n:=by rw [k2.1];exact hd
 have ho1:=ho.perm (by omega) k2
 obtain ⟨d2,m1,m2,m3⟩:=o_ins l d1 a1 n ho1 k4 (by omega) (by omega)
 have z2:d2.size=n:=by rw [m2.1];exact z1
 have ho2:=ho1.perm (by omega) m2
 have p2:=permIn_trans _ _ _ 0 n k2 (permIn_mono _ _ a1 n 0 n (Nat.zero_le _) (Nat.le_refl _) (by omega) m2)
 have b2:∀ i j,0≤i→i < j→j < n→i / 20=j / 20→ltO l d2[j]! d2[i]! = false:=fun i j _ h1 h2 h3=>by
  by_cases q:j < a1
  ·rw [m2.2.1 i (.inl (by omega)),m2.2.1 j (.inl q)];exact k6 i j h1 q h3
  ·exact m3 i j (by omega) h1 h2
 have st:slices_stableCmpFunc_int___impl_OrderOf_1_l0 ((n:Int),l,(20:Int),()) (d.toList,(0:Int),(20:Int),())=_:=k1
 unfold slices_stableCmpFunc_int___impl_OrderOf_1
 simp only [st,Option.bind_some,Sum.elim_inl,m1]
 unfold slices_stableCmpFunc_int___impl_OrderOf_1_l2
 by_cases q20:20 < n
 ·obtain ⟨d3,a3,r1,r2,r3,r4,r5,r6,r7⟩:=stable4 l n hn 60 0 d2 big (by omega) rfl (Nat.zero_le _) z2 ho2 (fun i j _ h=>by omega) b2 (lt_big (by omega))
  have z3:d3.size=n:=by rw [r2.1];exact z2
  have ho3:=ho2.perm (by omega) r2
  have st4:slices_stableCmpFunc_int___impl_OrderOf_1_l4 ((n:Int),l,(20:Int),()) (d2.toList,(0:Int),rArith .mul .i64 (2:Int) (20:Int),())=_:=r1
  have e40:rArith .mul .i64 (20:Int) (2:Int)=((40:Nat):Int):=mS (n:=20) (m:=2) (by omega)
  have ea:rArith .add .i64 (a3:Int) (20:Int)=((a3+20:Nat):Int):=aS (m:=20) (by omega)
  have g20:rCmp .lss (20:Int) (n:Int)=true:=(ltS 20 n).trans (decide_eq_true q20)
  obtain ⟨d4,s1,s2,s3⟩:∃ d4:Array Int,slices_stableCmpFunc_int___impl_OrderOf_1_b2 ((n:Int),l,()) (d2.toList,(20:Int),())=some (.inl (d4.toList,((40:Nat):Int),()))∧PermIn 0 n d2 d4∧Blk l 40 n d4:=by
   by_cases q:a3+20 < n
   ·obtain ⟨d4,t1,t2,t3⟩:=o_merge l d3 a3 (a3+20) n (by omega) q (by omega) (by omega) ho3 (fun i j h1 h2 h3=>r7 i j h1 h2 (by omega) (by omega)) (fun i j h1 h2 h3=>r7 i j (by omega) h2 (by omega) (by omega))
    refine ⟨d4,?_,permIn_trans _ _ _ 0 n r2 (permIn_mono _ _ a3 n 0 n (Nat.zero_le _) (Nat.le_refl _) (by omega) t2),fun i j h1 h2 h3=>?_⟩
    ·unfold slices_stableCmpFunc_int___impl_OrderOf_1_b2
     simp only [g20,cond_true,st4,Option.bind_some,Sum.elim_inl,ea,ltS,q,decide_true,t1,e40]
    ·by_cases q':j < a3
     ·rw [t2.2.1 i (.inl (by omega)),t2.2.1 j (.inl q')];exact r6 i j h1 q' h3
     ·exact t3 i j (by omega) h1 h2
   ·refine ⟨d3,?_,r2,fun i j h1 h2 h3=>?_⟩
    ·unfold slices_stableCmpFunc_int___impl_OrderOf_1_b2
     simp only [g20,cond_true,st4,Option.bind_some,Sum.elim_inl,ea,ltS,q,decide_false,cond_false,e40]
    ·by_cases q':j < a3
     ·exact r6 i j h1 q' h3
     ·exact r7 i j (by omega) h1 h2 (by omega)
  have z4:d4.size=n:=by rw [s2.1];exact z2
  have ho4:=ho2.perm (by omega) s2
  by_cases q40:40 < n
  ·have st5:slices_stableCmpFunc_int___impl_OrderOf_1_l4 ((n:Int),l,((40:Nat):Int),()) (d4.toList,(0:Int),rArith .mul .i64 (2:Int) ((40:Nat):Int),())=some (.inl (d4.toList,(0:Int),())):=by
    refine iter_mono (n:=1) (iter_done ?_) (Nat.le_of_lt (lt_big (by omega)))
    have e80:rArith .mul .i64 (2:Int) ((40:Nat):Int)=((80:Nat):Int):=mS (n:=2) (m:=40) (by omega)
    unfold slices_stableCmpFunc_int___impl_OrderOf_1_b4
    simp only [e80,leS,show ¬ (80≤n) by omega,decide_false,cond_false]
   obtain ⟨d5,t1,t2,t3⟩:=o_merge l d4 0 40 n (by omega) q40 (by omega) (by omega) ho4 (fun i j h1 h2 h3=>s3 i j h2 (by omega) (by omega)) (fun i j h1 h2 h3=>s3 i j h2 (by omega) (by omega))
   refine ⟨d5,?_,permIn_trans _ _ _ 0 n p2 (permIn_trans _ _ _ 0 n s2 t2),t3⟩
   have it:iter (slices_stableCmpFunc_int___impl_OrderOf_1_b2 ((n:Int),l,())) 3 (d2.toList,(20:Int),())=some (.inl (d5.toList,())):=by
    have e0:rArith .add .i64 (0:Int) ((40:Nat):Int)=((40:Nat):Int):=by rw [show (0:Int)=((0:Nat):Int) from rfl,aS (by omega)]
    have e80:rArith .mul .i64 ((40:Nat):Int) (2:Int)=((80:Nat):Int):=mS (n:=40) (m:=2) (by omega)
    have t1':slices_symMergeCmpFunc_int___impl_OrderOf_1 d4.toList (0:Int) ((40:Nat):Int) (n:Int) l=_:=t1
    rw [iter_next s1,iter_next (y:=(d5.toList,((80:Nat):Int),())) (by
     unfold slices_stableCmpFunc_int___impl_OrderOf_1_b2
     simp only [ltS,q40,decide_true,cond_true,st5,Option.bind_some,Sum.elim_inl,e0,t1',e80])]
    refine iter_done ?_
    unfold slices_stableCmpFunc_int___impl_OrderOf_1_b2
    simp only [ltS,show ¬ (80 < n) by omega,decide_false,cond_false]
   rw [iter_mono it (Nat.le_of_lt (lt_big (by omega)))]
   rfl
  ·refine ⟨d4,?_,permIn_trans _ _ _ 0 n p2 s2,fun i j h1 h2 h3=>s3 i j h2 h3 (by omega)⟩
   have it:iter (slices_stableCmpFunc_int___impl_OrderOf_1_b2 ((n:Int),l,())) 2 (d2.toList,(20:Int),())=some (.inl (d4.toList,())):=by
    rw [iter_next s1]
    refine iter_done ?_
    unfold slices_stableCmpFunc_int___impl_OrderOf_1_b2
    simp only [ltS,q40,decide_false,cond_false]
   rw [iter_mono it (Nat.le_of_lt (lt_big (by omega)))]
   rfl
 ·refine ⟨d2,?_,p2,fun i j h1 h2 h3=>b2 i j (Nat.zero_le _) h2 h3 (by omega)⟩
  have it:iter (slices_stableCmpFunc_int___impl_OrderOf_1_b2 ((n:Int),l,())) 1 (d2.toList,(20:Int),())=some (.inl (d2.toList,())):=by
   refine iter_done ?_
   have g20:rCmp .lss (20:Int) (n:Int)=false:=(ltS 20 n).trans (decide_eq_false q20)
   unfold slices_stableCmpFunc_int___impl_OrderOf_1_b2
   simp only [g20,cond_false]
  rw [iter_mono it (Nat.le_of_lt (lt_big (by omega)))]
  rfl
theorem sorted_ext {α:Type} {lt:α→α→Prop} (irr:∀ x,¬ lt x x) (asy:∀ x y,lt x y → ¬ lt y x):∀ {l m:List α},l.Pairwise lt→m.Pairwise lt→(∀ x,x∈l↔x∈m)→l=m
 | [],[],_,_,_=>rfl
 | [],y::m,_,_,h=>absurd ((h y).2 (List.mem_cons_self ..)) (List.not_mem_nil)
 | x::l,[],_,_,h=>absurd ((h x).1 (List.mem_cons_self ..)) (List.not_mem_nil)
 | x::l,y::m,hl,hm,h=>by
  have hl':=List.pairwise_cons.1 hl
  have hm':=List.pairwise_cons.1 hm
  have hxy:x=y:=by
   rcases List.mem_cons.1 ((h x).1 (List.mem_cons_self ..)) with e | h1
   ·exact e
   ·rcases List.mem_cons.1 ((h y).2 (List.mem_cons_self ..)) with e | h2
    ·exact e.symm
    ·exact absurd (hl'.1 y h2) (asy _ _ (hm'.1 x h1))
  subst hxy
  congr 1
  refine sorted_ext irr asy hl'.2 hm'.2 fun z=>⟨fun hz=>?_,fun hz=>?_⟩
  ·rcases List.mem_cons.1 ((h z).1 (List.mem_cons_of_mem _ hz)) with e | h1
   ·subst e;exact absurd (hl'.1 z hz) (irr z)
   ·exact h1
  ·rcases List.mem_cons.1 ((h z).2 (List.mem_cons_of_mem _ hz)) with e | h1
   ·subst e;exact absurd (hm'.1 z hz) (irr z)
   ·exact h1
noncomputable def rangeI (n:Nat):List Int:=(List.range n).map fun i:Nat=>(i:Int)
theorem rangeI_len (n:Nat):(rangeI n).length=n:=by simp [rangeI]
theorem extract_all {α:Type} {d:Array α} {n:Nat} (h:d.size=n):d.extract 0 n=d:=by subst h;exact Array.extract_size
theorem rangeI_succ (n:Nat):rangeI (n+1)=rangeI n++[(n:Int)]:=by unfold rangeI;rw [List.range_succ,List.map_append];rfl
theorem rangeI_mem {n:Nat} {x:Int}:x∈rangeI n↔0≤x∧x < n:=by
 unfold rangeI
 rw [List.mem_map]
 constructor
 ·rintro ⟨k,hk,rfl⟩;have:=List.mem_range.1 hk;omega
 ·intro h;exact ⟨x.toNat,List.mem_range.2 (by omega),by omega⟩
theorem ltO_tri {l:List Ev} (h:jok l=true) {i j:Nat} (hij:i < j) (hj:j < l.length) (hs:(l.getD i zIIIIIII).2.2.1=(l.getD j zIIIIIII).2.2.1):ltO l (i:Int) (j:Int)=true:=by
 have hp:=(jok_iff.1 h).2.2
 rw [List.pairwise_iff_getElem] at hp
 have:=hp i j (by omega) hj hij
 rw [←getD_eq (show i < l.length by omega) zIIIIIII,←getD_eq hj zIIIIIII] at this
 obtain ⟨h1,h2⟩:=this
 unfold ltO
 rw [Int.toNat_natCast,Int.toNat_natCast,ltK_iff]
 rw [ltE_iff] at h1
 by_cases e:(l.getD i zIIIIIII).1=(l.getD j zIIIIIII).1
 ·have:=h2 e;omega
 ·omega
theorem ltO_total {l:List Ev} (h:jok l=true) {x y:Int} (hx:0≤x∧x < l.length) (hy:0≤y∧y < l.length) (hne:x≠y) (hn:ltO l y x=false):ltO l x y=true:=by
 obtain ⟨i,rfl⟩:∃ n:Nat,x=(n:Int):=⟨x.toNat,by omega⟩
 obtain ⟨j,rfl⟩:∃ n:Nat,y=(n:Int):=⟨y.toNat,by omega⟩
 by_cases hs:(l.getD i zIIIIIII).2.2.1=(l.getD j zIIIIIII).2.2.1
 ·by_cases hij:i < j
  ·exact ltO_tri h hij (by omega) hs
  ·rw [ltO_tri h (i:=j) (j:=i) (by omega) (by omega) hs.symm] at hn;cases hn
 ·unfold ltO at hn ⊢
  rw [Int.toNat_natCast,Int.toNat_natCast] at hn ⊢
  rw [ltK_no] at hn
  rw [ltK_iff]
  omega
noncomputable def OrdIs (l:List Ev) (r:List Int):Prop:=(∀ x,x∈r↔0≤x∧x < l.length)∧r.Pairwise (fun x y=>ltO l x y=true)
theorem ordIs_ext {l:List Ev} {r s:List Int} (h1:OrdIs l r) (h2:OrdIs l s):r=s:=
 sorted_ext (lt:=fun x y=>ltO l x y=true) (fun x h=>by rw [(ltO_swo l).irrefl] at h;cases h) (fun x y h h'=>by rw [(ltO_swo l).asymm h] at h';cases h') h1.2 h2.2 fun x=>by rw [h1.1,h2.1]
theorem implSort_ok (l : List Ev) (h : jok l = true) : ∃ r, slices_SortStableFunc___int_int___impl_OrderOf_1 (rangeI l.length) l = some (r, ()) ∧ OrdIs l r := by
  have hl := jok_len h
  have hsz : (rangeI l.length).toArray.size = l.length := by simp [rangeI]
  have ho : Oks l (rangeI l.length).toArray := fun k hk => by
    have : (rangeI l.length).toArray[k]! ∈ rangeI l.length := by
      rw [getElem!_pos _ k hk, List.getElem_toArray]; exact List.getElem_mem _
    exact rangeI_mem.1 this
  obtain ⟨d', h1, h2, h3⟩ := o_stable l (rangeI l.length).toArray l.length hl hsz ho
  have hz : d'.size = l.length := by rw [h2.1, hsz]
  have hp : d'.toList.Perm (rangeI l.length) := by
    have := h2.2.2
    rw [extract_all hz, extract_all hsz] at this
    exact this
  refine ⟨d'.toList, ?_, fun x => by rw [hp.mem_iff, rangeI_mem], ?_⟩
  · unfold slices_SortStableFunc___int_int___impl_OrderOf_1
    have e : rLen (rangeI l.length) = (l.length : Int) := by unfold rLen; rw [rangeI_len]
    rw [e, show slices_stableCmpFunc_int___impl_OrderOf_1 (rangeI l.length) (l.length : Int) l = _ from h1]
    rfl
  · have hnd : (rangeI l.length).Pairwise (· ≠ ·) := by
      unfold rangeI
      rw [List.pairwise_map]
      exact List.pairwise_lt_range.imp fun {a b} h => by omega
    have hnd' : d'.toList.Pairwise (· ≠ ·) := (hp.pairwise_iff (fun {a b} h => Ne.symm h)).2 hnd
    rw [List.pairwise_iff_getElem] at hnd' ⊢
    intro i j hi hj hij
    have hi' : i < d'.size := by simpa using hi
    have hj' : j < d'.size := by simpa using hj
    have k1 := h3 i j (Nat.zero_le _) hij (by omega)
    rw [getElem!_pos d' i hi', getElem!_pos d' j hj'] at k1
    have ok := ho.perm (by omega) h2
    have oi := ok i hi'
    have oj := ok j hj'
    rw [getElem!_pos d' i hi'] at oi
    rw [getElem!_pos d' j hj'] at oj
    exact ltO_total h oi oj (hnd' i j hi hj hij) k1
end Go.Fn
set_option linter.unusedSimpArgs false
set_option linter.unusedVariables false
namespace Go.Fn
open Go.R Go.Sort
noncomputable def stp (l:List Ev) (x:Int):Int:=(l.getD x.toNat zIIIIIII).2.2.1
theorem l_get0 (P T:List Int) (a:Int):(P++a::T).getD P.length 0=a:=by induction P <;> simp_all
theorem l_get1 (P T:List Int) (a x:Int):(P++a::x::T).getD (P.length+1) 0=x:=by simp
theorem l_set0 (P T:List Int) (a x:Int):(P++a::T).set P.length x=P++x::T:=by induction P <;> simp_all
theorem l_set1 (P T:List Int) (a b x:Int):(P++a::b::T).set (P.length+1) x=P++a::x::T:=by simp
theorem ins_loop (l:List Ev) (i:Int) (x:Int) (hx:0≤x∧x < l.length):∀ (k:Nat) (P S:List Int) (n:Nat),P.length=k→P.length+S.length≤1000→(∀ y,y∈P++S→0≤y∧y < l.length)→(∀ y,y∈S→stp l x < stp l y)→k < n →
  ∃ A B,iter (spec_OrderOf_b2 (l,i,())) n (P++x::S,(k:Int),())=some (.inl (A++x::B,()))∧A++B=P++S∧(∀ y,y∈B→stp l x < stp l y)∧(∀ A' a,A=A'++[a]→stp l a≤stp l x):=by
 intro k
 induction k with
 | zero =>
  intro P S n hP _ _ hS hn
  obtain ⟨n,rfl⟩:∃ m,n=m+1:=⟨n - 1,by omega⟩
  have:P=[]:=List.length_eq_zero_iff.1 hP
  subst this
  refine ⟨[],S,iter_done rfl,rfl,hS,fun A' a h=>?_⟩
  have:=congrArg List.length h
  simp at this
 | succ p ih =>
  intro P S n hP hlen hv hS hn
  obtain ⟨n,rfl⟩:∃ m,n=m+1:=⟨n - 1,by omega⟩
  obtain ⟨P',a,rfl⟩:∃ P' a,P=P'++[a]:=by
   have hne:P≠[]:=fun h=>by rw [h] at hP;cases hP
   exact ⟨P.dropLast,P.getLast hne,(List.dropLast_concat_getLast hne).symm⟩
  have hp:P'.length=p:=by simpa using hP
  subst hp
  have ha:=hv a (by simp)
  obtain ⟨an,rfl⟩:∃ q:Nat,a=(q:Int):=⟨a.toNat,by omega⟩
  obtain ⟨xn,rfl⟩:∃ q:Nat,x=(q:Int):=⟨x.toNat,by omega⟩
  have e1:rArith .sub .i64 ((P'.length+1:Nat):Int) 1=(P'.length:Int):=pred64 (by simp at hlen;omega)
  have hL:(P'++[(an:Int)])++(xn:Int)::S=P'++(an:Int)::(xn:Int)::S:=by simp
  rw [hL]
  have i0:P'.length < (P'++(an:Int)::(xn:Int)::S).length:=by simp
  have i1:P'.length+1 < (P'++(an:Int)::(xn:Int)::S).length:=by simp
  have g0:rGet zI (P'++(an:Int)::(xn:Int)::S) (P'.length:Int)=(an:Int):=by rw [get_nat];exact l_get0 _ _ _
  have g1:rGet zI (P'++(an:Int)::(xn:Int)::S) ((P'.length+1:Nat):Int)=(xn:Int):=by rw [get_nat];exact l_get1 _ _ _ _
  have ia:rInR l (an:Int)=true:=inR_lt (by omega)
  have ix:rInR l (xn:Int)=true:=inR_lt (by omega)
  by_cases hc:stp l (xn:Int) < stp l (an:Int)
  ·obtain ⟨A,B,k1,k2,k3,k4⟩:=ih P' ((an:Int)::S) n rfl (by simp at hlen ⊢;omega) (fun y hy=>hv y (by simpa using hy)) (fun y hy=>by
    rcases List.mem_cons.1 hy with rfl | hy
    ·exact hc
    ·exact hS y hy) (by omega)
   refine ⟨A,B,?_,by rw [k2];simp,k3,k4⟩
   rw [←k1]
   refine iter_next ?_
   have hgt:rCmp .gtr (rGet zIIIIIII l (an:Int)).2.2.1 (rGet zIIIIIII l (xn:Int)).2.2.1=true:=by
    rw [get_nat,get_nat];exact decide_eq_true (by unfold stp at hc;rw [Int.toNat_natCast,Int.toNat_natCast] at hc;exact hc)
   unfold spec_OrderOf_b2
   simp only [gt0,cond_true,e1,inR_lt i0,inR_lt i1,g0,g1,ia,ix,hgt]
   have s1:rPut (P'++(an:Int)::(xn:Int)::S) ((P'.length+1:Nat):Int) (an:Int)=P'++(an:Int)::(an:Int)::S:=by rw [put_nat];exact l_set1 _ _ _ _ _
   have s2:rPut (P'++(an:Int)::(an:Int)::S) ((P'.length:Nat):Int) (xn:Int)=P'++(xn:Int)::(an:Int)::S:=by rw [put_nat];exact l_set0 _ _ _ _
   have i2:P'.length < (P'++(an:Int)::(an:Int)::S).length:=by simp
   rw [s1,s2,inR_lt i2]
   rfl
  ·refine ⟨P'++[(an:Int)],S,?_,rfl,hS,fun A' a h=>?_⟩
   ·rw [hL]
    refine iter_done ?_
    have hgt:rCmp .gtr (rGet zIIIIIII l (an:Int)).2.2.1 (rGet zIIIIIII l (xn:Int)).2.2.1=false:=by
     rw [get_nat,get_nat];exact decide_eq_false (by unfold stp at hc;rw [Int.toNat_natCast,Int.toNat_natCast] at hc;exact hc)
    unfold spec_OrderOf_b2
    simp only [gt0,cond_true,e1,inR_lt i0,inR_lt i1,g0,g1,ia,ix,hgt,cond_false]
   ·have:=List.append_inj_right' h rfl
    injection this with h1 _
    rw [←h1];omega
theorem specO_loop (l:List Ev) (hj:jok l=true):∀ (s i:Nat) (out:List Int) (n:Nat),l.length - i≤s→i≤l.length→out.length=i→(∀ x,x∈out↔0≤x∧x < i)→out.Pairwise (fun x y=>ltO l x y=true)→s < n →
  ∃ r,iter (spec_OrderOf_b0 (l,())) n (out,(i:Int),())=some (.inl (r,()))∧OrdIs l r:=by
 have h60:=jok_len hj
 intro s
 induction s with
 | zero =>
  intro i out n hs hi hlen hm hp hn
  obtain ⟨n,rfl⟩:∃ m,n=m+1:=⟨n - 1,by omega⟩
  have:i=l.length:=by omega
  refine ⟨out,iter_done ?_,fun x=>by rw [hm,this],hp⟩
  unfold spec_OrderOf_b0
  simp only [lss_len,show ¬ (i < l.length) by omega,decide_false,cond_false]
 | succ s ih =>
  intro i out n hs hi hlen hm hp hn
  obtain ⟨n,rfl⟩:∃ m,n=m+1:=⟨n - 1,by omega⟩
  by_cases h:i < l.length
  ·have hv:∀ y,y∈out++[]→0≤y∧y < (l.length:Int):=fun y hy=>by
    have:=(hm y).1 (by simpa using hy);omega
   obtain ⟨A,B,k1,k2,k3,k4⟩:=ins_loop l (i:Int) (i:Int) (by omega) i out [] big hlen (by simp;omega) hv (fun y hy=>absurd hy List.not_mem_nil) (lt_big (by omega))
   rw [List.append_nil] at k2
   have hout:out.Pairwise (fun x y=>ltO l x y=true):=hp
   rw [←k2,List.pairwise_append] at hout
   have hAi:∀ a,a∈A→ltO l a (i:Int)=true:=fun a ha=>by
    have hao:=(hm a).1 (by rw [←k2];exact List.mem_append_left _ ha)
    have hne:A≠[]:=fun e=>by rw [e] at ha;cases ha
    have hl:=k4 _ _ (List.dropLast_concat_getLast hne).symm
    have hle:stp l a≤stp l (i:Int):=by
     by_cases e:a=A.getLast hne
     ·rw [e];exact hl
     ·have hpa:=hout.1
      rw [←List.dropLast_concat_getLast hne,List.pairwise_append] at hpa
      have ha2:a∈A.dropLast:=by
       have ha':=ha
       rw [←List.dropLast_concat_getLast hne,List.mem_append] at ha'
       rcases ha' with h | h
       ·exact h
       ·rw [List.mem_singleton] at h;exact absurd h e
      have:=hpa.2.2 a ha2 (A.getLast hne) (List.mem_singleton.2 rfl)
      unfold ltO at this
      rw [ltK_iff] at this
      unfold stp at hl ⊢
      omega
    obtain ⟨an,rfl⟩:∃ q:Nat,a=(q:Int):=⟨a.toNat,by omega⟩
    by_cases e:stp l (an:Int)=stp l (i:Int)
    ·exact ltO_tri hj (by omega) h (by unfold stp at e;rwa [Int.toNat_natCast,Int.toNat_natCast] at e)
    ·unfold ltO;rw [ltK_iff];unfold stp at e hle;omega
   have hiB:∀ y,y∈B→ltO l (i:Int) y=true:=fun y hy=>by
    have:=k3 y hy
    unfold ltO;rw [ltK_iff];unfold stp at this;omega
   obtain ⟨r,r1,r2⟩:=ih (i+1) (A++(i:Int)::B) n (by omega) h (by
    have:=congrArg List.length k2
    simp only [List.length_append,List.length_cons] at this ⊢;omega) (fun x=>by
    have:=hm x
    rw [←k2,List.mem_append] at this
    rw [List.mem_append,List.mem_cons]
    constructor
    ·rintro (q | q | q)
     ·have:=this.1 (.inl q);omega
     ·omega
     ·have:=this.1 (.inr q);omega
    ·intro q
     by_cases e:x=(i:Int)
     ·exact .inr (.inl e)
     ·rcases this.2 (by omega) with q | q
      ·exact .inl q
      ·exact .inr (.inr q)) (by
    rw [List.pairwise_append]
    refine ⟨hout.1,List.Pairwise.cons hiB hout.2.1,fun a ha y hy=>?_⟩
    rcases List.mem_cons.1 hy with rfl | hy
    ·exact hAi a ha
    ·exact hout.2.2 a ha y hy) (by omega)
   refine ⟨r,?_,r2⟩
   rw [←r1]
   refine iter_next ?_
   have hsm:rSmall (out++[(i:Int)])=true:=small_of (by simp;omega)
   have hap:List.append (α:=Int) out (List.append (α:=Int) ([]:List Int) [(i:Int)])=out++[(i:Int)]:=rfl
   unfold spec_OrderOf_b0 spec_OrderOf_l2
   simp only [lss_len,h,decide_true,cond_true,specJ_eq,hj,Option.bind_some,hap,hsm,k1,Sum.elim_inl,succ64 (n:=i) (by omega)]
  ·have:i=l.length:=by omega
   refine ⟨out,iter_done ?_,fun x=>by rw [hm,this],hp⟩
   unfold spec_OrderOf_b0
   simp only [lss_len,h,decide_false,cond_false]
theorem implO_loop (l:List Ev) (h60:l.length≤60):impl_OrderOf_l0 (rLen l,()) (l,[],(0:Int),())=some (.inl (l,rangeI l.length,())):=by
 refine loop_end (body:=impl_OrderOf_b0 (rLen l,())) (fun n=>(l,rangeI n,(n:Int),())) l.length (by omega) _ (fun n hn=>?_) ?_
 ·have hsm:rSmall (rangeI (n+1))=true:=small_of (by rw [rangeI_len];omega)
  have hap:List.append (α:=Int) (rangeI n) (List.append (α:=Int) ([]:List Int) [(n:Int)])=rangeI (n+1):=(rangeI_succ n).symm
  unfold impl_OrderOf_b0
  simp only [lss_len,hn,decide_true,cond_true,hap,hsm,succ64 (n:=n) (by omega)]
 ·unfold impl_OrderOf_b0
  simp only [lss_len,Nat.lt_irrefl,decide_false,cond_false]
theorem order_both (l:List Ev):∃ r,spec_OrderOf l=some (r,())∧impl_OrderOf l=some (r,())∧r.length≤60∧(∀ x,x∈r→0≤x∧x < l.length)∧(r≠[]→jok l=true)∧(jok l=true→OrdIs l r):=by
 cases hj:jok l with
 | false =>
  refine ⟨[],?_,?_,Nat.zero_le _,fun x hx=>absurd hx List.not_mem_nil,fun h=>absurd rfl h,fun h=>by cases h⟩
  ·have it:iter (spec_OrderOf_b0 (l,())) 1 ([],(0:Int),())=some (.inl ([],())):=by
    refine iter_done ?_
    unfold spec_OrderOf_b0
    simp only [specJ_eq,hj,Option.bind_some,cond_false]
    cases rCmp .lss (0:Int) (rLen l) <;> rfl
   unfold spec_OrderOf spec_OrderOf_l0
   rw [iter_mono it (Nat.le_of_lt (lt_big (by omega)))]
   rfl
  ·unfold impl_OrderOf
   rw [implJ_eq,hj]
   rfl
 | true =>
  have h60:=jok_len hj
  obtain ⟨r,r1,r2⟩:=specO_loop l hj 60 0 [] big (by omega) (Nat.zero_le _) rfl (fun x=>⟨fun h=>absurd h List.not_mem_nil,fun h=>by omega⟩) List.Pairwise.nil (lt_big (by omega))
  obtain ⟨r',q1,q2⟩:=implSort_ok l hj
  have:r'=r:=ordIs_ext q2 r2
  subst this
  have hlen:r'.length≤60:=by
   have hp:r'.Perm (rangeI l.length):=by
    refine (List.perm_ext_iff_of_nodup ?_ ?_).2 fun x=>by rw [r2.1,rangeI_mem]
    ·exact r2.2.imp fun {a b} h e=>by subst e;rw [(ltO_swo l).irrefl] at h;cases h
    ·unfold rangeI
     rw [List.nodup_iff_pairwise_ne,List.pairwise_map]
     exact List.pairwise_lt_range.imp fun {a b} h=>by omega
   rw [hp.length_eq,rangeI_len];exact h60
  refine ⟨r',?_,?_,hlen,fun x hx=>(r2.1 x).1 hx,fun _=>rfl,fun _=>r2⟩
  ·unfold spec_OrderOf spec_OrderOf_l0
   rw [show (0:Int)=((0:Nat):Int) from rfl,r1]
   rfl
  ·unfold impl_OrderOf
   simp only [implJ_eq,hj,Option.bind_some,Bool.not_true,cond_false,implO_loop l h60,Sum.elim_inl,q1]
abbrev Fat:=Int×Int×Int×Int×Int×Int×Int
noncomputable def fst (r:List Int) (f:Fat) (n:Nat):Int×Int×Int×Int×Int×Int×Int×Int×Int×Int×Int×Int×Int×Int×(List Int)×Int×Unit:=(0,0,0,0,0,0,0,f.1,f.2.1,f.2.2.1,f.2.2.2.1,f.2.2.2.2.1,f.2.2.2.2.2.1,f.2.2.2.2.2.2,r,(n:Int),())
theorem fate_step (l:List Ev) (hj:jok l=true) (p:Int) (r:List Int) (hr:∀ x,x∈r→0≤x∧x < l.length) (hr2:r.length≤60) (f:Fat) (n:Nat) (hn:n < r.length) :
  ∃ g:Fat,spec_FateOf_b0 (l,p,()) (fst r f n)=some (.inl (fst r g (n+1)))∧impl_FateOf_b0 (l,p,rLen r,()) (fst r f n)=some (.inl (fst r g (n+1))):=by
 have hx:=hr _ (getD_mem hn zI)
 obtain ⟨m,hm⟩:∃ q:Nat,r.getD n zI=(q:Int):=⟨(r.getD n zI).toNat,by omega⟩
 rw [hm] at hx
 have hml:m < l.length:=by omega
 have he:=evOk_iff.1 (jok_ev hj hml)
 obtain ⟨f1,f2,f3,f4,f5,f6,f7⟩:=f
 unfold spec_FateOf_b0 impl_FateOf_b0 spec_l08Next fst
 simp only [lss_len,hn,decide_true,cond_true,inR_nat,get_nat,hm,hml,succ64 (n:=n) (by omega)]
 revert he
 generalize l.getD m zIIIIIII=e
 intro he
 have ne:∀ x y:Int,rCmp .neq x y = !rCmp .eql x y:=fun x y=>rfl
 simp only [ne]
 cases hp:rCmp .eql e.2.2.2.2.1 p with
 | false=>exact ⟨(_,_,_,_,_,_,_),rfl,rfl⟩
 | true =>
  have hk:e.2.2.2.1=1∨e.2.2.2.1=2∨e.2.2.2.1=3∨e.2.2.2.1=4:=by omega
  by_cases q0:f1=0
  ·subst q0
   rcases hk with h | h | h | h <;> rw [h] <;> exact ⟨(_,_,_,_,_,_,_),rfl,rfl⟩
  ·by_cases q1:f1=1
   ·subst q1
    rcases hk with h | h | h | h <;> rw [h] <;> exact ⟨(_,_,_,_,_,_,_),rfl,rfl⟩
   ·have c0:rCmp .eql f1 (0:Int)=false:=by simpa [rCmp] using q0
    have c1:rCmp .eql f1 (1:Int)=false:=by simpa [rCmp] using q1
    simp only [c0,c1]
    rcases hk with h | h | h | h <;> rw [h] <;> exact ⟨(_,_,_,_,_,_,_),rfl,rfl⟩
theorem fate_loop (l:List Ev) (p:Int) (r:List Int) (hj:r≠[]→jok l=true) (hr:∀ x,x∈r→0≤x∧x < l.length) (hr2:r.length≤60):∀ (s n k:Nat) (f:Fat),r.length - n≤s→n≤r.length→s < k →
  ∃ g:Fat,iter (spec_FateOf_b0 (l,p,())) k (fst r f n)=some (.inl (0,0,0,0,0,0,0,g.1,g.2.1,g.2.2.1,g.2.2.2.1,g.2.2.2.2.1,g.2.2.2.2.2.1,g.2.2.2.2.2.2,()))∧iter (impl_FateOf_b0 (l,p,rLen r,())) k (fst r f n)=some (.inl (0,0,0,0,0,0,0,g.1,g.2.1,g.2.2.1,g.2.2.2.1,g.2.2.2.2.1,g.2.2.2.2.2.1,g.2.2.2.2.2.2,())):=by
 have done:∀ (n:Nat) (f:Fat),¬ (n < r.length)→spec_FateOf_b0 (l,p,()) (fst r f n)=some (.inr (.inl (0,0,0,0,0,0,0,f.1,f.2.1,f.2.2.1,f.2.2.2.1,f.2.2.2.2.1,f.2.2.2.2.2.1,f.2.2.2.2.2.2,())))∧impl_FateOf_b0 (l,p,rLen r,()) (fst r f n)=some (.inr (.inl (0,0,0,0,0,0,0,f.1,f.2.1,f.2.2.1,f.2.2.2.1,f.2.2.2.2.1,f.2.2.2.2.2.1,f.2.2.2.2.2.2,()))):=fun n f h=>by
  unfold spec_FateOf_b0 impl_FateOf_b0 fst
  simp only [lss_len,h,decide_false,cond_false]
  exact ⟨trivial,trivial⟩
 intro s
 induction s with
 | zero =>
  intro n k f hs hn hk
  obtain ⟨k,rfl⟩:∃ m,k=m+1:=⟨k - 1,by omega⟩
  have:=done n f (by omega)
  exact ⟨f,iter_done this.1,iter_done this.2⟩
 | succ s ih =>
  intro n k f hs hn hk
  obtain ⟨k,rfl⟩:∃ m,k=m+1:=⟨k - 1,by omega⟩
  by_cases h:n < r.length
  ·obtain ⟨g,g1,g2⟩:=fate_step l (hj (fun e=>by rw [e] at h;cases h)) p r hr hr2 f n h
   rw [iter_next g1,iter_next g2]
   exact ih (n+1) k g (by omega) h (by omega)
  ·have:=done n f h
   exact ⟨f,iter_done this.1,iter_done this.2⟩
theorem fate_both (l:List Ev) (p:Int):∃ g:Fat,spec_FateOf l p=some (g.1,g.2.1,g.2.2.1,g.2.2.2.1,g.2.2.2.2.1,g.2.2.2.2.2.1,g.2.2.2.2.2.2,())∧impl_FateOf l p=some (g.1,g.2.1,g.2.2.1,g.2.2.2.1,g.2.2.2.2.1,g.2.2.2.2.2.1,g.2.2.2.2.2.2,()):=by
 obtain ⟨r,r1,r2,r3,r4,r5,_⟩:=order_both l
 obtain ⟨g,g1,g2⟩:=fate_loop l p r r5 r4 r3 60 0 big (0,0,0,0,0,0,0) (by omega) (Nat.zero_le _) (lt_big (by omega))
 refine ⟨g,?_,?_⟩
 ·unfold spec_FateOf
  rw [r1]
  simp only [Option.bind_some]
  have g1:spec_FateOf_l0 (l,p,()) (0,0,0,0,0,0,0,0,0,0,0,0,0,0,r,0,())=_:=g1
  rw [g1]
  rfl
 ·unfold impl_FateOf
  rw [r2]
  simp only [Option.bind_some]
  have g2:impl_FateOf_l0 (l,p,rLen r,()) (0,0,0,0,0,0,0,0,0,0,0,0,0,0,r,0,())=_:=g2
  rw [g2]
  rfl
end Go.Fn
set_option linter.unusedSimpArgs false
set_option linter.unusedVariables false
namespace Go.Fn
open Go.R
section
variable {a0 a1:Int} {g:List (List Int)} {s:List Stp}
noncomputable def lg (g:List (List Int)) (p q:Int):Int:=leg g p.toNat q.toNat
end
end Go.Fn
set_option linter.unusedVariables false
set_option linter.unusedSimpArgs false
namespace Go.Fn
open Go.R
section
variable (a0 a1:Int) (g:List (List Int)) (s:List Stp)
abbrev SB:Type:=Bool×Int×List Int×Unit
end
end Go.Fn
set_option linter.unusedVariables false
namespace Go.Fn
open Go.R
noncomputable def spec_l05Person (a0:Int):Option (Bool×Unit):=
 ((spec_l01In a0 (1:Int) (40:Int)).bind fun y0=>some (y0.1,()))
noncomputable def spec_l05Time (a0:Int):Option (Bool×Unit):=
 ((spec_l01In a0 (0:Int) (20000:Int)).bind fun y0=>some (y0.1,()))
noncomputable def spec_GrantOk (a0:Int) (a1:Int) (a2:Int) (a3:Int) (a4:Int) (a5:Int) (a6:Bool):Option (Bool×Unit):=
 ((spec_l05Person a0).bind fun y0=>(bif y0.1 then ((spec_l05Person a1).bind fun y1=>(bif y1.1 then (bif (rCmp .neq a0 a1) then ((spec_l01In a2 (0:Int) (999:Int)).bind fun y2=>(bif y2.1 then ((spec_l01In a3 (0:Int) (5:Int)).bind fun y3=>(bif y3.1 then ((spec_l05Time a4).bind fun y4=>(bif y4.1 then ((spec_l05Time a5).bind fun y5=>(bif y5.1 then some ((rCmp .lss a4 a5),()) else some (false,()))) else some (false,()))) else some (false,()))) else some (false,()))) else some (false,())) else some (false,()))) else some (false,())))
noncomputable def spec_GrantsOk_b0 (k:(List (Int×Int×Int×Int×Int×Int×Bool))×Unit) (x:Int×Unit):Option ((Int×Unit) ⊕ (Bool×Unit ⊕ (Unit ⊕ Empty))):=
 (bif (rCmp .lss x.1 (rLen k.1)) then (bif (rInR k.1 x.1) then ((spec_GrantOk (rGet zIIIIIIB k.1 x.1).1 (rGet zIIIIIIB k.1 x.1).2.1 (rGet zIIIIIIB k.1 x.1).2.2.1 (rGet zIIIIIIB k.1 x.1).2.2.2.1 (rGet zIIIIIIB k.1 x.1).2.2.2.2.1 (rGet zIIIIIIB k.1 x.1).2.2.2.2.2.1 (rGet zIIIIIIB k.1 x.1).2.2.2.2.2.2).bind fun y0=>(bif (Bool.not y0.1) then some (.inr (.inl (false,()))) else some (.inl ((rArith .add .i64 x.1 (1:Int)),())))) else none) else some (.inr (.inr (.inl (())))))
noncomputable def spec_GrantsOk_l0 (k:(List (Int×Int×Int×Int×Int×Int×Bool))×Unit) (x:Int×Unit):Option (Bool×Unit ⊕ (Unit ⊕ Empty)):=iter (spec_GrantsOk_b0 k) big x
noncomputable def spec_GrantsOk (a0:(List (Int×Int×Int×Int×Int×Int×Bool))):Option (Bool×Unit):=
 (bif (rCmp .gtr (rLen a0) (30:Int)) then some (false,()) else ((spec_GrantsOk_l0 (a0,()) ((0:Int),())).bind fun q0=>(Sum.elim (fun y1=>some (y1.1,())) (fun q2=>(Sum.elim (fun y3=>some (true,())) (fun q4=>(Empty.elim q4)) q2)) q0)))
noncomputable def spec_l02Boxes_b2 (k:Int×(List (Int))×(List (Int×Int×Int×Bool))×Int×Int×Unit) (x:Int×Int×Int×Bool×Int×Unit):Option ((Int×Int×Int×Bool×Int×Unit) ⊕ (Bool×Unit ⊕ (Int×Int×Int×Bool×Unit ⊕ Empty))):=
 (bif (rCmp .lss x.2.2.2.2.1 k.2.2.2.2.1) then (bif (rCmp .gtr x.2.2.1 (0:Int)) then (bif (rInR k.2.2.1 x.2.2.2.2.1) then (bif (rCmp .eql (rGet zIIIB k.2.2.1 x.2.2.2.2.1).2.2.1 x.2.2.1) then some (.inr (.inl (false,()))) else some (.inl (x.1,x.2.1,x.2.2.1,x.2.2.2.1,(rArith .add .i64 x.2.2.2.2.1 (1:Int)),()))) else none) else some (.inl (x.1,x.2.1,x.2.2.1,x.2.2.2.1,(rArith .add .i64 x.2.2.2.2.1 (1:Int)),()))) else some (.inr (.inr (.inl (x.1,x.2.1,x.2.2.1,x.2.2.2.1,())))))
noncomputable def spec_l02Boxes_l2 (k:Int×(List (Int))×(List (Int×Int×Int×Bool))×Int×Int×Unit) (x:Int×Int×Int×Bool×Int×Unit):Option (Bool×Unit ⊕ (Int×Int×Int×Bool×Unit ⊕ Empty)):=iter (spec_l02Boxes_b2 k) big x
noncomputable def spec_l02Boxes_b0 (k:Int×(List (Int))×(List (Int×Int×Int×Bool))×Unit) (x:Int×Int×Unit):Option ((Int×Int×Unit) ⊕ (Bool×Unit ⊕ (Int×Unit ⊕ Empty))):=
 (bif (rCmp .lss x.2.1 (rLen k.2.2.1)) then (bif (rInR k.2.2.1 x.2.1) then (bif (rCmp .neq (rGet zIIIB k.2.2.1 x.2.1).1 x.1) then some (.inr (.inl (false,()))) else ((spec_l01In (rGet zIIIB k.2.2.1 x.2.1).2.1 (1:Int) (24:Int)).bind fun y0=>(bif (Bool.not y0.1) then some (.inr (.inl (false,()))) else ((spec_l01In (rGet zIIIB k.2.2.1 x.2.1).2.2.1 (0:Int) (999:Int)).bind fun y1=>(bif (Bool.not y1.1) then some (.inr (.inl (false,()))) else ((spec_l02Boxes_l2 (k.1,k.2.1,k.2.2.1,x.1,x.2.1,()) ((rGet zIIIB k.2.2.1 x.2.1).1,(rGet zIIIB k.2.2.1 x.2.1).2.1,(rGet zIIIB k.2.2.1 x.2.1).2.2.1,(rGet zIIIB k.2.2.1 x.2.1).2.2.2,(0:Int),())).bind fun q2=>(Sum.elim (fun y3=>some (.inr (.inl (y3.1,())))) (fun q4=>(Sum.elim (fun y5=>(bif (rCmp .gtr (rArith .add .i64 x.1 y5.2.1) (24:Int)) then some (.inr (.inl (false,()))) else some (.inl ((rArith .add .i64 x.1 y5.2.1),(rArith .add .i64 x.2.1 (1:Int)),())))) (fun q6=>(Empty.elim q6)) q4)) q2))))))) else none) else some (.inr (.inr (.inl (x.1,())))))
noncomputable def spec_l02Boxes_l0 (k:Int×(List (Int))×(List (Int×Int×Int×Bool))×Unit) (x:Int×Int×Unit):Option (Bool×Unit ⊕ (Int×Unit ⊕ Empty)):=iter (spec_l02Boxes_b0 k) big x
noncomputable def spec_l02Boxes (a0:Int) (a1:(List (Int))) (a2:(List (Int×Int×Int×Bool))):Option (Bool×Unit):=
 ((spec_l02Boxes_l0 (a0,a1,a2,()) ((0:Int),(0:Int),())).bind fun q0=>(Sum.elim (fun y1=>some (y1.1,())) (fun q2=>(Sum.elim (fun y3=>(bif (rCmp .gtr (rLen a2) (0:Int)) then some ((rCmp .eql y3.1 a0),()) else some (false,()))) (fun q4=>(Empty.elim q4)) q2)) q0))
noncomputable def spec_ColumnOk_b2 (k:Int×(List (Int))×(List (Int×Int×Int×Bool))×Int×Unit) (x:Bool×Int×Unit):Option ((Bool×Int×Unit) ⊕ (Bool×Unit ⊕ Empty)):=
 (bif (rCmp .lss x.2.1 (rLen k.2.2.1)) then (bif x.1 then some (.inl (true,(rArith .add .i64 x.2.1 (1:Int)),())) else (bif (rInR k.2.2.1 x.2.1) then (bif (rInR k.2.1 k.2.2.2.1) then some (.inl ((rCmp .eql (rGet zIIIB k.2.2.1 x.2.1).1 (rGet zI k.2.1 k.2.2.2.1)),(rArith .add .i64 x.2.1 (1:Int)),())) else none) else none)) else some (.inr (.inl (x.1,()))))
noncomputable def spec_ColumnOk_l2 (k:Int×(List (Int))×(List (Int×Int×Int×Bool))×Int×Unit) (x:Bool×Int×Unit):Option (Bool×Unit ⊕ Empty):=iter (spec_ColumnOk_b2 k) big x
noncomputable def spec_ColumnOk_b0 (k:Int×(List (Int))×(List (Int×Int×Int×Bool))×Unit) (x:Int×Unit):Option ((Int×Unit) ⊕ (Bool×Unit ⊕ (Unit ⊕ Empty))):=
 (bif (rCmp .lss x.1 (rLen k.2.1)) then (bif (rInR k.2.1 x.1) then ((spec_l01In (rGet zI k.2.1 x.1) (1:Int) (rArith .sub .i64 k.1 (1:Int))).bind fun y0=>(bif (Bool.not y0.1) then some (.inr (.inl (false,()))) else (bif (rCmp .gtr x.1 (0:Int)) then (bif (rInR k.2.1 x.1) then (bif (rInR k.2.1 (rArith .sub .i64 x.1 (1:Int))) then (bif (rCmp .leq (rGet zI k.2.1 x.1) (rGet zI k.2.1 (rArith .sub .i64 x.1 (1:Int)))) then some (.inr (.inl (false,()))) else ((spec_ColumnOk_l2 (k.1,k.2.1,k.2.2.1,x.1,()) (false,(0:Int),())).bind fun q1=>(Sum.elim (fun y2=>(bif (Bool.not y2.1) then some (.inr (.inl (false,()))) else some (.inl ((rArith .add .i64 x.1 (1:Int)),())))) (fun q3=>(Empty.elim q3)) q1))) else none) else none) else ((spec_ColumnOk_l2 (k.1,k.2.1,k.2.2.1,x.1,()) (false,(0:Int),())).bind fun q1=>(Sum.elim (fun y2=>(bif (Bool.not y2.1) then some (.inr (.inl (false,()))) else some (.inl ((rArith .add .i64 x.1 (1:Int)),())))) (fun q3=>(Empty.elim q3)) q1))))) else none) else some (.inr (.inr (.inl (())))))
noncomputable def spec_ColumnOk_l0 (k:Int×(List (Int))×(List (Int×Int×Int×Bool))×Unit) (x:Int×Unit):Option (Bool×Unit ⊕ (Unit ⊕ Empty)):=iter (spec_ColumnOk_b0 k) big x
noncomputable def spec_ColumnOk (a0:Int) (a1:(List (Int))) (a2:(List (Int×Int×Int×Bool))):Option (Bool×Unit):=
 ((spec_l01In a0 (1:Int) (24:Int)).bind fun y0=>(bif (Bool.not y0.1) then some (false,()) else ((spec_l02Boxes a0 a1 a2).bind fun y1=>(bif (Bool.not y1.1) then some (false,()) else ((spec_ColumnOk_l0 (a0,a1,a2,()) ((0:Int),())).bind fun q2=>(Sum.elim (fun y3=>some (y3.1,())) (fun q4=>(Sum.elim (fun y5=>some (true,())) (fun q6=>(Empty.elim q6)) q4)) q2))))))
noncomputable def spec_l02Box_b0 (k:Int×Int×(List (Int))×(List (Int×Int×Int×Bool))×Unit) (x:Int×Unit):Option ((Int×Unit) ⊕ (Int×Unit ⊕ (Unit ⊕ Empty))):=
 (bif (rCmp .lss x.1 (rLen k.2.2.2.1)) then (bif (rInR k.2.2.2.1 x.1) then (bif (rCmp .eql (rGet zIIIB k.2.2.2.1 x.1).2.2.1 k.1) then (bif (rCmp .gtr k.1 (0:Int)) then some (.inr (.inl (x.1,()))) else some (.inl ((rArith .add .i64 x.1 (1:Int)),()))) else some (.inl ((rArith .add .i64 x.1 (1:Int)),()))) else none) else some (.inr (.inr (.inl (())))))
noncomputable def spec_l02Box_l0 (k:Int×Int×(List (Int))×(List (Int×Int×Int×Bool))×Unit) (x:Int×Unit):Option (Int×Unit ⊕ (Unit ⊕ Empty)):=iter (spec_l02Box_b0 k) big x
noncomputable def spec_l02Box (a0:Int) (a1:(List (Int))) (a2:(List (Int×Int×Int×Bool))) (a3:Int):Option (Int×Unit):=
 ((spec_l02Box_l0 (a3,a0,a1,a2,()) ((0:Int),())).bind fun q0=>(Sum.elim (fun y1=>some (y1.1,())) (fun q2=>(Sum.elim (fun y3=>some ((-1:Int),())) (fun q4=>(Empty.elim q4)) q2)) q0))
noncomputable def spec_BankOk_b4 (k:(List (Int×(List (Int))×List (Int×Int×Int×Bool)))×Int×Int×Unit) (x:Int×Unit):Option ((Int×Unit) ⊕ (Bool×Unit ⊕ (Unit ⊕ Empty))):=
 (bif (rInR k.1 k.2.1) then (bif (rCmp .lss x.1 (rLen (rGet zILIlLIIIBl k.1 k.2.1).2.2)) then (bif (rInR k.1 k.2.2.1) then (bif (rInR k.1 k.2.1) then (bif (rInR (rGet zILIlLIIIBl k.1 k.2.1).2.2 x.1) then ((spec_l02Box (rGet zILIlLIIIBl k.1 k.2.2.1).1 (rGet zILIlLIIIBl k.1 k.2.2.1).2.1 (rGet zILIlLIIIBl k.1 k.2.2.1).2.2 (rGet zIIIB (rGet zILIlLIIIBl k.1 k.2.1).2.2 x.1).2.2.1).bind fun y0=>(bif (rCmp .geq y0.1 (0:Int)) then some (.inr (.inl (false,()))) else some (.inl ((rArith .add .i64 x.1 (1:Int)),())))) else none) else none) else none) else some (.inr (.inr (.inl (()))))) else none)
noncomputable def spec_BankOk_l4 (k:(List (Int×(List (Int))×List (Int×Int×Int×Bool)))×Int×Int×Unit) (x:Int×Unit):Option (Bool×Unit ⊕ (Unit ⊕ Empty)):=iter (spec_BankOk_b4 k) big x
noncomputable def spec_BankOk_b2 (k:(List (Int×(List (Int))×List (Int×Int×Int×Bool)))×Int×Unit) (x:Int×Unit):Option ((Int×Unit) ⊕ (Bool×Unit ⊕ (Unit ⊕ Empty))):=
 (bif (rCmp .lss x.1 k.2.1) then ((spec_BankOk_l4 (k.1,k.2.1,x.1,()) ((0:Int),())).bind fun q0=>(Sum.elim (fun y1=>some (.inr (.inl (y1.1,())))) (fun q2=>(Sum.elim (fun y3=>some (.inl ((rArith .add .i64 x.1 (1:Int)),()))) (fun q4=>(Empty.elim q4)) q2)) q0)) else some (.inr (.inr (.inl (())))))
noncomputable def spec_BankOk_l2 (k:(List (Int×(List (Int))×List (Int×Int×Int×Bool)))×Int×Unit) (x:Int×Unit):Option (Bool×Unit ⊕ (Unit ⊕ Empty)):=iter (spec_BankOk_b2 k) big x
noncomputable def spec_BankOk_b0 (k:(List (Int×(List (Int))×List (Int×Int×Int×Bool)))×Unit) (x:Int×Unit):Option ((Int×Unit) ⊕ (Bool×Unit ⊕ (Unit ⊕ Empty))):=
 (bif (rCmp .lss x.1 (rLen k.1)) then (bif (rInR k.1 x.1) then ((spec_ColumnOk (rGet zILIlLIIIBl k.1 x.1).1 (rGet zILIlLIIIBl k.1 x.1).2.1 (rGet zILIlLIIIBl k.1 x.1).2.2).bind fun y0=>(bif (Bool.not y0.1) then some (.inr (.inl (false,()))) else ((spec_BankOk_l2 (k.1,x.1,()) ((0:Int),())).bind fun q1=>(Sum.elim (fun y2=>some (.inr (.inl (y2.1,())))) (fun q3=>(Sum.elim (fun y4=>some (.inl ((rArith .add .i64 x.1 (1:Int)),()))) (fun q5=>(Empty.elim q5)) q3)) q1)))) else none) else some (.inr (.inr (.inl (())))))
noncomputable def spec_BankOk_l0 (k:(List (Int×(List (Int))×List (Int×Int×Int×Bool)))×Unit) (x:Int×Unit):Option (Bool×Unit ⊕ (Unit ⊕ Empty)):=iter (spec_BankOk_b0 k) big x
noncomputable def spec_BankOk (a0:(List (Int×(List (Int))×List (Int×Int×Int×Bool)))):Option (Bool×Unit):=
 ((spec_l01In (rLen a0) (1:Int) (6:Int)).bind fun y0=>(bif (Bool.not y0.1) then some (false,()) else ((spec_BankOk_l0 (a0,()) ((0:Int),())).bind fun q1=>(Sum.elim (fun y2=>some (y2.1,())) (fun q3=>(Sum.elim (fun y4=>some (true,())) (fun q5=>(Empty.elim q5)) q3)) q1))))
noncomputable def spec_l04Before (a0:Int) (a1:Int) (a2:Bool) (a3:Bool) (a4:Bool):Option (Bool×Unit):=
 some ((rBeq a4 (rCmp .eql a0 (2:Int))),())
noncomputable def spec_DoorOk (a0:Int) (a1:Int) (a2:Bool) (a3:Bool) (a4:Bool):Option (Bool×Unit):=
 ((spec_l01In a0 (0:Int) (2:Int)).bind fun y0=>(bif (Bool.not y0.1) then some (false,()) else ((spec_l01In a1 (0:Int) (6:Int)).bind fun y1=>(bif (Bool.not y1.1) then some (false,()) else (bif a3 then (bif (Bool.not a2) then some (false,()) else (bif (rCmp .eql a0 (0:Int)) then (bif (rCmp .eql a1 (0:Int)) then some ((Bool.not a2),()) else some (false,())) else (bif (rCmp .eql a1 (1:Int)) then ((spec_l04Before a0 a1 a2 a3 a4).bind fun y2=>(bif y2.1 then some ((Bool.not a2),()) else some (false,()))) else (bif (rCmp .eql a1 (2:Int)) then ((spec_l04Before a0 a1 a2 a3 a4).bind fun y2=>(bif y2.1 then (bif a2 then some ((Bool.not a3),()) else some (false,())) else some (false,()))) else (bif (rCmp .eql a1 (3:Int)) then ((spec_l04Before a0 a1 a2 a3 a4).bind fun y2=>(bif y2.1 then some (a3,()) else some (false,()))) else (bif (rCmp .eql a1 (4:Int)) then ((spec_l04Before a0 a1 a2 a3 a4).bind fun y2=>(bif (Bool.not y2.1) then some (a3,()) else some (false,()))) else (bif (rCmp .eql a1 (5:Int)) then (bif a2 then some ((Bool.not a3),()) else some (false,())) else (bif (rCmp .eql a1 (6:Int)) then some ((Bool.not a2),()) else some (true,()))))))))) else (bif (rCmp .eql a0 (0:Int)) then (bif (rCmp .eql a1 (0:Int)) then some ((Bool.not a2),()) else some (false,())) else (bif (rCmp .eql a1 (1:Int)) then ((spec_l04Before a0 a1 a2 a3 a4).bind fun y2=>(bif y2.1 then some ((Bool.not a2),()) else some (false,()))) else (bif (rCmp .eql a1 (2:Int)) then ((spec_l04Before a0 a1 a2 a3 a4).bind fun y2=>(bif y2.1 then (bif a2 then some ((Bool.not a3),()) else some (false,())) else some (false,()))) else (bif (rCmp .eql a1 (3:Int)) then ((spec_l04Before a0 a1 a2 a3 a4).bind fun y2=>(bif y2.1 then some (a3,()) else some (false,()))) else (bif (rCmp .eql a1 (4:Int)) then ((spec_l04Before a0 a1 a2 a3 a4).bind fun y2=>(bif (Bool.not y2.1) then some (a3,()) else some (false,()))) else (bif (rCmp .eql a1 (5:Int)) then (bif a2 then some ((Bool.not a3),()) else some (false,())) else (bif (rCmp .eql a1 (6:Int)) then some ((Bool.not a2),()) else some (true,())))))))))))))
noncomputable def spec_l09SiteOk (a0:Int) (a1:Int) (a2:Int) (a3:Int) (a4:Int) (a5:Int) (a6:Int) (a7:Int) (a8:Int) (a9:Int) (a10:Int) (a11:(List ((List (Int×Int))×(List (Int×Int))×(List (Int×(List (Int))×List (Int×Int×Int×Bool)))×Int×Int×Bool×Bool×Bool×Int×Int×List (Int×Int×Int×Int×Int×Int×Int)))) (a12:(List (Int×Int×Int×Int×Int×Int×Int×Int×Int×Int×Int×Int×Int))) (a13:(List (Int×Int×Int×Int×Int×Int×Bool))) (a14:(List (Int×Int×Int×Int×Int×Int×Int))) (a15:Int):Option (Bool×Unit):=
 (bif (rInR a11 a15) then ((spec_WeekOk (rGet zLIIlLIIlLILIlLIIIBllIIBBBIILIIIIIIIl a11 a15).1 (rGet zLIIlLIIlLILIlLIIIBllIIBBBIILIIIIIIIl a11 a15).2.1).bind fun y0=>(bif (Bool.not y0.1) then some (false,()) else ((spec_BankOk (rGet zLIIlLIIlLILIlLIIIBllIIBBBIILIIIIIIIl a11 a15).2.2.1).bind fun y1=>(bif (Bool.not y1.1) then some (false,()) else ((spec_DoorOk (rGet zLIIlLIIlLILIlLIIIBllIIBBBIILIIIIIIIl a11 a15).2.2.2.1 (rGet zLIIlLIIlLILIlLIIIBllIIBBBIILIIIIIIIl a11 a15).2.2.2.2.1 (rGet zLIIlLIIlLILIlLIIIBllIIBBBIILIIIIIIIl a11 a15).2.2.2.2.2.1 (rGet zLIIlLIIlLILIlLIIIBllIIBBBIILIIIIIIIl a11 a15).2.2.2.2.2.2.1 (rGet zLIIlLIIlLILIlLIIIBllIIBBBIILIIIIIIIl a11 a15).2.2.2.2.2.2.2.1).bind fun y2=>(bif (Bool.not y2.1) then some (false,()) else ((spec_JournalOk (rGet zLIIlLIIlLILIlLIIIBllIIBBBIILIIIIIIIl a11 a15).2.2.2.2.2.2.2.2.2.2).bind fun y3=>(bif (Bool.not y3.1) then some (false,()) else (bif (rCmp .eql (rGet zLIIlLIIlLILIlLIIIBllIIBBBIILIIIIIIIl a11 a15).2.2.2.2.2.2.2.2.1 (0:Int)) then (lets (Bool.and (rCmp .eql (rGet zLIIlLIIlLILIlLIIIBllIIBBBIILIIIIIIIl a11 a15).2.2.2.1 (0:Int)) (Bool.and (rCmp .eql (rGet zLIIlLIIlLILIlLIIIBllIIBBBIILIIIIIIIl a11 a15).2.2.2.2.1 (0:Int)) (Bool.and (rBeq (rGet zLIIlLIIlLILIlLIIIBllIIBBBIILIIIIIIIl a11 a15).2.2.2.2.2.1 false) (Bool.and (rBeq (rGet zLIIlLIIlLILIlLIIIBllIIBBBIILIIIIIIIl a11 a15).2.2.2.2.2.2.1 false) (Bool.and (rBeq (rGet zLIIlLIIlLILIlLIIIBllIIBBBIILIIIIIIIl a11 a15).2.2.2.2.2.2.2.1 false) true))))) fun v4=>(bif v4 then some ((rCmp .eql (rGet zLIIlLIIlLILIlLIIIBllIIBBBIILIIIIIIIl a11 a15).2.2.2.2.2.2.2.2.2.1 (0:Int)),()) else some (false,()))) else ((spec_l01In (rGet zLIIlLIIlLILIlLIIIBllIIBBBIILIIIIIIIl a11 a15).2.2.2.2.2.2.2.2.1 (1:Int) (rLen a12)).bind fun y4=>(bif (Bool.not y4.1) then some (false,()) else (bif (rInR a12 (rArith .sub .i64 (rGet zLIIlLIIlLILIlLIIIBllIIBBBIILIIIIIIIl a11 a15).2.2.2.2.2.2.2.2.1 (1:Int))) then (bif (rCmp .neq (rGet zIIIIIIIIIIIII a12 (rArith .sub .i64 (rGet zLIIlLIIlLILIlLIIIBllIIBBBIILIIIIIIIl a11 a15).2.2.2.2.2.2.2.2.1 (1:Int))).2.2.1 a15) then some (false,()) else (bif (rInR a12 (rArith .sub .i64 (rGet zLIIlLIIlLILIlLIIIBllIIBBBIILIIIIIIIl a11 a15).2.2.2.2.2.2.2.2.1 (1:Int))) then (bif (rCmp .neq (rGet zIIIIIIIIIIIII a12 (rArith .sub .i64 (rGet zLIIlLIIlLILIlLIIIBllIIBBBIILIIIIIIIl a11 a15).2.2.2.2.2.2.2.2.1 (1:Int))).2.2.2.1 (2:Int)) then some (false,()) else (bif (rCmp .eql (rGet zLIIlLIIlLILIlLIIIBllIIBBBIILIIIIIIIl a11 a15).2.2.2.1 (1:Int)) then (bif (rCmp .eql (rGet zLIIlLIIlLILIlLIIIBllIIBBBIILIIIIIIIl a11 a15).2.2.2.2.2.2.2.2.2.1 (0:Int)) then some (true,()) else (bif (rCmp .eql (rGet zLIIlLIIlLILIlLIIIBllIIBBBIILIIIIIIIl a11 a15).2.2.2.1 (2:Int)) then ((spec_l01In (rGet zLIIlLIIlLILIlLIIIBllIIBBBIILIIIIIIIl a11 a15).2.2.2.2.2.2.2.2.2.1 (0:Int) (40:Int)).bind fun y5=>some (y5.1,())) else some (false,()))) else (bif (rCmp .eql (rGet zLIIlLIIlLILIlLIIIBllIIBBBIILIIIIIIIl a11 a15).2.2.2.1 (2:Int)) then ((spec_l01In (rGet zLIIlLIIlLILIlLIIIBllIIBBBIILIIIIIIIl a11 a15).2.2.2.2.2.2.2.2.2.1 (0:Int) (40:Int)).bind fun y5=>some (y5.1,())) else some (false,())))) else none)) else none)))))))))))) else none)
noncomputable def spec_l09Unplaced (a0:Int) (a1:Int) (a2:Int) (a3:Int) (a4:Int) (a5:Int) (a6:Int) (a7:Int) (a8:Int) (a9:Int) (a10:Int) (a11:(List ((List (Int×Int))×(List (Int×Int))×(List (Int×(List (Int))×List (Int×Int×Int×Bool)))×Int×Int×Bool×Bool×Bool×Int×Int×List (Int×Int×Int×Int×Int×Int×Int)))) (a12:(List (Int×Int×Int×Int×Int×Int×Int×Int×Int×Int×Int×Int×Int))) (a13:(List (Int×Int×Int×Int×Int×Int×Bool))) (a14:(List (Int×Int×Int×Int×Int×Int×Int))) (a15:Int):Option (Bool×Unit):=
 (bif (rInR a12 a15) then (bif (rCmp .eql (rGet zIIIIIIIIIIIII a12 a15).2.2.2.1 (0:Int)) then some (true,()) else (bif (rCmp .eql (rGet zIIIIIIIIIIIII a12 a15).2.2.2.1 (1:Int)) then some (true,()) else (bif (rCmp .eql (rGet zIIIIIIIIIIIII a12 a15).2.2.2.1 (2:Int)) then (bif (rInR a11 (rGet zIIIIIIIIIIIII a12 a15).2.2.1) then some ((rCmp .eql (rGet zLIIlLIIlLILIlLIIIBllIIBBBIILIIIIIIIl a11 (rGet zIIIIIIIIIIIII a12 a15).2.2.1).2.2.2.1 (1:Int)),()) else none) else some (false,())))) else none)
noncomputable def spec_LockOk (a0:Int) (a1:Int) (a2:Int) (a3:Int) (a4:Int):Option (Bool×Unit):=
 ((spec_l03Secret a0).bind fun y0=>(bif y0.1 then ((spec_l01In a1 (0:Int) (1000001:Int)).bind fun y1=>(bif y1.1 then ((spec_l01In a2 (0:Int) (2:Int)).bind fun y2=>(bif y2.1 then ((spec_l01In a3 (0:Int) (6:Int)).bind fun y3=>(bif y3.1 then ((spec_l01In a4 (0:Int) (20064:Int)).bind fun y4=>some (y4.1,())) else some (false,()))) else some (false,()))) else some (false,()))) else some (false,())))
noncomputable def spec_l09ParcelOk (a0:Int) (a1:Int) (a2:Int) (a3:Int) (a4:Int) (a5:Int) (a6:Int) (a7:Int) (a8:Int) (a9:Int) (a10:Int) (a11:(List ((List (Int×Int))×(List (Int×Int))×(List (Int×(List (Int))×List (Int×Int×Int×Bool)))×Int×Int×Bool×Bool×Bool×Int×Int×List (Int×Int×Int×Int×Int×Int×Int)))) (a12:(List (Int×Int×Int×Int×Int×Int×Int×Int×Int×Int×Int×Int×Int))) (a13:(List (Int×Int×Int×Int×Int×Int×Bool))) (a14:(List (Int×Int×Int×Int×Int×Int×Int))) (a15:Int):Option (Bool×Unit):=
 (bif (rInR a12 a15) then ((spec_l01In (rGet zIIIIIIIIIIIII a12 a15).1 (1:Int) (24:Int)).bind fun y0=>(bif (Bool.not y0.1) then some (false,()) else ((spec_l05Person (rGet zIIIIIIIIIIIII a12 a15).2.1).bind fun y1=>(bif (Bool.not y1.1) then some (false,()) else ((spec_l01In (rGet zIIIIIIIIIIIII a12 a15).2.2.1 (0:Int) (rArith .sub .i64 (rLen a11) (1:Int))).bind fun y2=>(bif (Bool.not y2.1) then some (false,()) else ((spec_l01In (rGet zIIIIIIIIIIIII a12 a15).2.2.2.1 (0:Int) (5:Int)).bind fun y3=>(bif (Bool.not y3.1) then some (false,()) else (bif (rCmp .eql (rGet zIIIIIIIIIIIII a12 a15).2.2.2.1 (2:Int)) then (bif (rInR a11 (rGet zIIIIIIIIIIIII a12 a15).2.2.1) then (bif (rCmp .neq (rGet zLIIlLIIlLILIlLIIIBllIIBBBIILIIIIIIIl a11 (rGet zIIIIIIIIIIIII a12 a15).2.2.1).2.2.2.2.2.2.2.2.1 (rArith .add .i64 a15 (1:Int))) then some (false,()) else ((spec_l09Unplaced a0 a1 a2 a3 a4 a5 a6 a7 a8 a9 a10 a11 a12 a13 a14 a15).bind fun y4=>(bif y4.1 then (bif (rCmp .eql (rGet zIIIIIIIIIIIII a12 a15).2.2.2.2.1 (0:Int)) then (bif (rCmp .eql (rGet zIIIIIIIIIIIII a12 a15).2.2.2.2.2.1 (0:Int)) then (bif (rCmp .eql (rGet zIIIIIIIIIIIII a12 a15).2.2.2.2.2.2.2.2.2.2.2.1 (0:Int)) then (bif (rCmp .eql (rGet zIIIIIIIIIIIII a12 a15).2.2.2.2.2.2.2.2.2.2.2.2 (0:Int)) then (lets (Bool.and (rCmp .eql (rGet zIIIIIIIIIIIII a12 a15).2.2.2.2.2.2.1 (0:Int)) (Bool.and (rCmp .eql (rGet zIIIIIIIIIIIII a12 a15).2.2.2.2.2.2.2.1 (0:Int)) (Bool.and (rCmp .eql (rGet zIIIIIIIIIIIII a12 a15).2.2.2.2.2.2.2.2.1 (0:Int)) (Bool.and (rCmp .eql (rGet zIIIIIIIIIIIII a12 a15).2.2.2.2.2.2.2.2.2.1 (0:Int)) (Bool.and (rCmp .eql (rGet zIIIIIIIIIIIII a12 a15).2.2.2.2.2.2.2.2.2.2.1 (0:Int)) true))))) fun v5=>some (v5,())) else some (false,())) else some (false,())) else some (false,())) else some (false,())) else ((spec_l01In (rGet zIIIIIIIIIIIII a12 a15).2.2.2.2.1 (0:Int) a10).bind fun y5=>(bif (Bool.not y5.1) then some (false,()) else ((spec_l01In (rGet zIIIIIIIIIIIII a12 a15).2.2.2.2.2.1 (0:Int) a7).bind fun y6=>(bif (Bool.not y6.1) then some (false,()) else ((spec_LockOk (rGet zIIIIIIIIIIIII a12 a15).2.2.2.2.2.2.1 (rGet zIIIIIIIIIIIII a12 a15).2.2.2.2.2.2.2.1 (rGet zIIIIIIIIIIIII a12 a15).2.2.2.2.2.2.2.2.1 (rGet zIIIIIIIIIIIII a12 a15).2.2.2.2.2.2.2.2.2.1 (rGet zIIIIIIIIIIIII a12 a15).2.2.2.2.2.2.2.2.2.2.1).bind fun y7=>(bif (Bool.not y7.1) then some (false,()) else ((spec_SecretOf a0 a1 a2 a3 a4 a5 a6 a7 a8 a9 a10 a11 a12 a13 a14 (rArith .add .i64 a15 (1:Int))).bind fun y8=>(bif (rCmp .neq (rGet zIIIIIIIIIIIII a12 a15).2.2.2.2.2.2.1 y8.1) then some (false,()) else (bif (rCmp .eql (rGet zIIIIIIIIIIIII a12 a15).2.2.2.1 (4:Int)) then ((spec_l05Person (rGet zIIIIIIIIIIIII a12 a15).2.2.2.2.2.2.2.2.2.2.2.1).bind fun y9=>(bif y9.1 then ((spec_l01In (rGet zIIIIIIIIIIIII a12 a15).2.2.2.2.2.2.2.2.2.2.2.2 (0:Int) (rArith .add .i64 a4 (rArith .mul .i64 a6 a7))).bind fun y10=>some (y10.1,())) else some (false,()))) else (bif (rCmp .eql (rGet zIIIIIIIIIIIII a12 a15).2.2.2.2.2.2.2.2.2.2.2.1 (0:Int)) then some ((rCmp .eql (rGet zIIIIIIIIIIIII a12 a15).2.2.2.2.2.2.2.2.2.2.2.2 (0:Int)),()) else some (false,())))))))))))))) else none) else ((spec_l09Unplaced a0 a1 a2 a3 a4 a5 a6 a7 a8 a9 a10 a11 a12 a13 a14 a15).bind fun y4=>(bif y4.1 then (bif (rCmp .eql (rGet zIIIIIIIIIIIII a12 a15).2.2.2.2.1 (0:Int)) then (bif (rCmp .eql (rGet zIIIIIIIIIIIII a12 a15).2.2.2.2.2.1 (0:Int)) then (bif (rCmp .eql (rGet zIIIIIIIIIIIII a12 a15).2.2.2.2.2.2.2.2.2.2.2.1 (0:Int)) then (bif (rCmp .eql (rGet zIIIIIIIIIIIII a12 a15).2.2.2.2.2.2.2.2.2.2.2.2 (0:Int)) then (lets (Bool.and (rCmp .eql (rGet zIIIIIIIIIIIII a12 a15).2.2.2.2.2.2.1 (0:Int)) (Bool.and (rCmp .eql (rGet zIIIIIIIIIIIII a12 a15).2.2.2.2.2.2.2.1 (0:Int)) (Bool.and (rCmp .eql (rGet zIIIIIIIIIIIII a12 a15).2.2.2.2.2.2.2.2.1 (0:Int)) (Bool.and (rCmp .eql (rGet zIIIIIIIIIIIII a12 a15).2.2.2.2.2.2.2.2.2.1 (0:Int)) (Bool.and (rCmp .eql (rGet zIIIIIIIIIIIII a12 a15).2.2.2.2.2.2.2.2.2.2.1 (0:Int)) true))))) fun v5=>some (v5,())) else some (false,())) else some (false,())) else some (false,())) else some (false,())) else ((spec_l01In (rGet zIIIIIIIIIIIII a12 a15).2.2.2.2.1 (0:Int) a10).bind fun y5=>(bif (Bool.not y5.1) then some (false,()) else ((spec_l01In (rGet zIIIIIIIIIIIII a12 a15).2.2.2.2.2.1 (0:Int) a7).bind fun y6=>(bif (Bool.not y6.1) then some (false,()) else ((spec_LockOk (rGet zIIIIIIIIIIIII a12 a15).2.2.2.2.2.2.1 (rGet zIIIIIIIIIIIII a12 a15).2.2.2.2.2.2.2.1 (rGet zIIIIIIIIIIIII a12 a15).2.2.2.2.2.2.2.2.1 (rGet zIIIIIIIIIIIII a12 a15).2.2.2.2.2.2.2.2.2.1 (rGet zIIIIIIIIIIIII a12 a15).2.2.2.2.2.2.2.2.2.2.1).bind fun y7=>(bif (Bool.not y7.1) then some (false,()) else ((spec_SecretOf a0 a1 a2 a3 a4 a5 a6 a7 a8 a9 a10 a11 a12 a13 a14 (rArith .add .i64 a15 (1:Int))).bind fun y8=>(bif (rCmp .neq (rGet zIIIIIIIIIIIII a12 a15).2.2.2.2.2.2.1 y8.1) then some (false,()) else (bif (rCmp .eql (rGet zIIIIIIIIIIIII a12 a15).2.2.2.1 (4:Int)) then ((spec_l05Person (rGet zIIIIIIIIIIIII a12 a15).2.2.2.2.2.2.2.2.2.2.2.1).bind fun y9=>(bif y9.1 then ((spec_l01In (rGet zIIIIIIIIIIIII a12 a15).2.2.2.2.2.2.2.2.2.2.2.2 (0:Int) (rArith .add .i64 a4 (rArith .mul .i64 a6 a7))).bind fun y10=>some (y10.1,())) else some (false,()))) else (bif (rCmp .eql (rGet zIIIIIIIIIIIII a12 a15).2.2.2.2.2.2.2.2.2.2.2.1 (0:Int)) then some ((rCmp .eql (rGet zIIIIIIIIIIIII a12 a15).2.2.2.2.2.2.2.2.2.2.2.2 (0:Int)),()) else some (false,())))))))))))))))))))))) else none)
noncomputable def spec_l09BoxesOk_b4 (k:Int×Int×Int×Int×Int×Int×Int×Int×Int×Int×Int×(List ((List (Int×Int))×(List (Int×Int))×(List (Int×(List (Int))×List (Int×Int×Int×Bool)))×Int×Int×Bool×Bool×Bool×Int×Int×List (Int×Int×Int×Int×Int×Int×Int)))×(List (Int×Int×Int×Int×Int×Int×Int×Int×Int×Int×Int×Int×Int))×(List (Int×Int×Int×Int×Int×Int×Bool))×(List (Int×Int×Int×Int×Int×Int×Int))×Int×Int×(List (Int×Int×Int×Bool))×Unit) (x:Int×Int×Unit):Option ((Int×Int×Unit) ⊕ (Bool×Unit ⊕ (Int×Unit ⊕ Empty))):=
 (bif (rCmp .lss x.2.1 (rLen k.2.2.2.2.2.2.2.2.2.2.2.2.2.2.2.2.2.1)) then (bif (rInR k.2.2.2.2.2.2.2.2.2.2.2.2.2.2.2.2.2.1 x.2.1) then (bif (rCmp .eql (rGet zIIIB k.2.2.2.2.2.2.2.2.2.2.2.2.2.2.2.2.2.1 x.2.1).2.2.1 (0:Int)) then some (.inl (x.1,(rArith .add .i64 x.2.1 (1:Int)),())) else (bif (rCmp .gtr (rGet zIIIB k.2.2.2.2.2.2.2.2.2.2.2.2.2.2.2.2.2.1 x.2.1).2.2.1 (rLen k.2.2.2.2.2.2.2.2.2.2.2.2.1)) then some (.inr (.inl (false,()))) else (bif (rInR k.2.2.2.2.2.2.2.2.2.2.2.2.1 (rArith .sub .i64 (rGet zIIIB k.2.2.2.2.2.2.2.2.2.2.2.2.2.2.2.2.2.1 x.2.1).2.2.1 (1:Int))) then (lets (rGet zIIIIIIIIIIIII k.2.2.2.2.2.2.2.2.2.2.2.2.1 (rArith .sub .i64 (rGet zIIIB k.2.2.2.2.2.2.2.2.2.2.2.2.2.2.2.2.2.1 x.2.1).2.2.1 (1:Int))).2.2.2.2.2.2.2.2.2.1 fun v0=>(lets (rGet zIIIIIIIIIIIII k.2.2.2.2.2.2.2.2.2.2.2.2.1 (rArith .sub .i64 (rGet zIIIB k.2.2.2.2.2.2.2.2.2.2.2.2.2.2.2.2.2.1 x.2.1).2.2.1 (1:Int))).2.2.2.2.2.2.2.2.2.2.1 fun v1=>(lets (rGet zIIIIIIIIIIIII k.2.2.2.2.2.2.2.2.2.2.2.2.1 (rArith .sub .i64 (rGet zIIIB k.2.2.2.2.2.2.2.2.2.2.2.2.2.2.2.2.2.1 x.2.1).2.2.1 (1:Int))).2.2.2.2.2.2.2.2.2.2.2.1 fun v2=>(lets (rGet zIIIIIIIIIIIII k.2.2.2.2.2.2.2.2.2.2.2.2.1 (rArith .sub .i64 (rGet zIIIB k.2.2.2.2.2.2.2.2.2.2.2.2.2.2.2.2.2.1 x.2.1).2.2.1 (1:Int))).2.2.2.2.2.2.2.2.2.2.2.2 fun v3=>(lets (rCmp .neq (rGet zIIIIIIIIIIIII k.2.2.2.2.2.2.2.2.2.2.2.2.1 (rArith .sub .i64 (rGet zIIIB k.2.2.2.2.2.2.2.2.2.2.2.2.2.2.2.2.2.1 x.2.1).2.2.1 (1:Int))).2.2.1 k.2.2.2.2.2.2.2.2.2.2.2.2.2.2.2.1) fun v4=>(bif v4 then some (.inr (.inl (false,()))) else (bif (rInR k.2.2.2.2.2.2.2.2.2.2.2.2.2.2.2.2.2.1 x.2.1) then (lets (rCmp .neq (rGet zIIIIIIIIIIIII k.2.2.2.2.2.2.2.2.2.2.2.2.1 (rArith .sub .i64 (rGet zIIIB k.2.2.2.2.2.2.2.2.2.2.2.2.2.2.2.2.2.1 x.2.1).2.2.1 (1:Int))).1 (rGet zIIIB k.2.2.2.2.2.2.2.2.2.2.2.2.2.2.2.2.2.1 x.2.1).2.1) fun v5=>(bif v5 then some (.inr (.inl (false,()))) else (lets (rCmp .neq (rGet zIIIIIIIIIIIII k.2.2.2.2.2.2.2.2.2.2.2.2.1 (rArith .sub .i64 (rGet zIIIB k.2.2.2.2.2.2.2.2.2.2.2.2.2.2.2.2.2.1 x.2.1).2.2.1 (1:Int))).2.2.2.1 (2:Int)) fun v6=>(bif v6 then (lets (rCmp .neq (rGet zIIIIIIIIIIIII k.2.2.2.2.2.2.2.2.2.2.2.2.1 (rArith .sub .i64 (rGet zIIIB k.2.2.2.2.2.2.2.2.2.2.2.2.2.2.2.2.2.1 x.2.1).2.2.1 (1:Int))).2.2.2.1 (3:Int)) fun v7=>(bif v7 then some (.inr (.inl (false,()))) else (lets (rCmp .eql (rGet zIIIIIIIIIIIII k.2.2.2.2.2.2.2.2.2.2.2.2.1 (rArith .sub .i64 (rGet zIIIB k.2.2.2.2.2.2.2.2.2.2.2.2.2.2.2.2.2.1 x.2.1).2.2.1 (1:Int))).2.2.2.1 (2:Int)) fun v8=>(bif v8 then (bif (rInR k.2.2.2.2.2.2.2.2.2.2.2.2.2.2.2.2.2.1 x.2.1) then (bif (rGet zIIIB k.2.2.2.2.2.2.2.2.2.2.2.2.2.2.2.2.2.1 x.2.1).2.2.2 then some (.inr (.inl (false,()))) else some (.inl ((rArith .add .i64 x.1 (1:Int)),(rArith .add .i64 x.2.1 (1:Int)),()))) else none) else some (.inl ((rArith .add .i64 x.1 (1:Int)),(rArith .add .i64 x.2.1 (1:Int)),())))))) else (lets (rCmp .eql (rGet zIIIIIIIIIIIII k.2.2.2.2.2.2.2.2.2.2.2.2.1 (rArith .sub .i64 (rGet zIIIB k.2.2.2.2.2.2.2.2.2.2.2.2.2.2.2.2.2.1 x.2.1).2.2.1 (1:Int))).2.2.2.1 (2:Int)) fun v7=>(bif v7 then (bif (rInR k.2.2.2.2.2.2.2.2.2.2.2.2.2.2.2.2.2.1 x.2.1) then (bif (rGet zIIIB k.2.2.2.2.2.2.2.2.2.2.2.2.2.2.2.2.2.1 x.2.1).2.2.2 then some (.inr (.inl (false,()))) else some (.inl ((rArith .add .i64 x.1 (1:Int)),(rArith .add .i64 x.2.1 (1:Int)),()))) else none) else some (.inl ((rArith .add .i64 x.1 (1:Int)),(rArith .add .i64 x.2.1 (1:Int)),())))))))) else none))))))) else none))) else none) else some (.inr (.inr (.inl (x.1,())))))
noncomputable def spec_l09BoxesOk_l4 (k:Int×Int×Int×Int×Int×Int×Int×Int×Int×Int×Int×(List ((List (Int×Int))×(List (Int×Int))×(List (Int×(List (Int))×List (Int×Int×Int×Bool)))×Int×Int×Bool×Bool×Bool×Int×Int×List (Int×Int×Int×Int×Int×Int×Int)))×(List (Int×Int×Int×Int×Int×Int×Int×Int×Int×Int×Int×Int×Int))×(List (Int×Int×Int×Int×Int×Int×Bool))×(List (Int×Int×Int×Int×Int×Int×Int))×Int×Int×(List (Int×Int×Int×Bool))×Unit) (x:Int×Int×Unit):Option (Bool×Unit ⊕ (Int×Unit ⊕ Empty)):=iter (spec_l09BoxesOk_b4 k) big x
noncomputable def spec_l09BoxesOk_b2 (k:Int×Int×Int×Int×Int×Int×Int×Int×Int×Int×Int×(List ((List (Int×Int))×(List (Int×Int))×(List (Int×(List (Int))×List (Int×Int×Int×Bool)))×Int×Int×Bool×Bool×Bool×Int×Int×List (Int×Int×Int×Int×Int×Int×Int)))×(List (Int×Int×Int×Int×Int×Int×Int×Int×Int×Int×Int×Int×Int))×(List (Int×Int×Int×Int×Int×Int×Bool))×(List (Int×Int×Int×Int×Int×Int×Int))×Int×Unit) (x:Int×Int×Unit):Option ((Int×Int×Unit) ⊕ (Bool×Unit ⊕ (Int×Unit ⊕ Empty))):=
 (bif (rInR k.2.2.2.2.2.2.2.2.2.2.2.1 k.2.2.2.2.2.2.2.2.2.2.2.2.2.2.2.1) then (bif (rCmp .lss x.2.1 (rLen (rGet zLIIlLIIlLILIlLIIIBllIIBBBIILIIIIIIIl k.2.2.2.2.2.2.2.2.2.2.2.1 k.2.2.2.2.2.2.2.2.2.2.2.2.2.2.2.1).2.2.1)) then (bif (rInR k.2.2.2.2.2.2.2.2.2.2.2.1 k.2.2.2.2.2.2.2.2.2.2.2.2.2.2.2.1) then (bif (rInR (rGet zLIIlLIIlLILIlLIIIBllIIBBBIILIIIIIIIl k.2.2.2.2.2.2.2.2.2.2.2.1 k.2.2.2.2.2.2.2.2.2.2.2.2.2.2.2.1).2.2.1 x.2.1) then ((spec_l09BoxesOk_l4 (k.1,k.2.1,k.2.2.1,k.2.2.2.1,k.2.2.2.2.1,k.2.2.2.2.2.1,k.2.2.2.2.2.2.1,k.2.2.2.2.2.2.2.1,k.2.2.2.2.2.2.2.2.1,k.2.2.2.2.2.2.2.2.2.1,k.2.2.2.2.2.2.2.2.2.2.1,k.2.2.2.2.2.2.2.2.2.2.2.1,k.2.2.2.2.2.2.2.2.2.2.2.2.1,k.2.2.2.2.2.2.2.2.2.2.2.2.2.1,k.2.2.2.2.2.2.2.2.2.2.2.2.2.2.1,k.2.2.2.2.2.2.2.2.2.2.2.2.2.2.2.1,x.2.1,(rGet zILIlLIIIBl (rGet zLIIlLIIlLILIlLIIIBllIIBBBIILIIIIIIIl k.2.2.2.2.2.2.2.2.2.2.2.1 k.2.2.2.2.2.2.2.2.2.2.2.2.2.2.2.1).2.2.1 x.2.1).2.2,()) (x.1,(0:Int),())).bind fun q0=>(Sum.elim (fun y1=>some (.inr (.inl (y1.1,())))) (fun q2=>(Sum.elim (fun y3=>some (.inl (y3.1,(rArith .add .i64 x.2.1 (1:Int)),()))) (fun q4=>(Empty.elim q4)) q2)) q0)) else none) else none) else some (.inr (.inr (.inl (x.1,()))))) else none)
noncomputable def spec_l09BoxesOk_l2 (k:Int×Int×Int×Int×Int×Int×Int×Int×Int×Int×Int×(List ((List (Int×Int))×(List (Int×Int))×(List (Int×(List (Int))×List (Int×Int×Int×Bool)))×Int×Int×Bool×Bool×Bool×Int×Int×List (Int×Int×Int×Int×Int×Int×Int)))×(List (Int×Int×Int×Int×Int×Int×Int×Int×Int×Int×Int×Int×Int))×(List (Int×Int×Int×Int×Int×Int×Bool))×(List (Int×Int×Int×Int×Int×Int×Int))×Int×Unit) (x:Int×Int×Unit):Option (Bool×Unit ⊕ (Int×Unit ⊕ Empty)):=iter (spec_l09BoxesOk_b2 k) big x
noncomputable def spec_l09BoxesOk_b0 (k:Int×Int×Int×Int×Int×Int×Int×Int×Int×Int×Int×(List ((List (Int×Int))×(List (Int×Int))×(List (Int×(List (Int))×List (Int×Int×Int×Bool)))×Int×Int×Bool×Bool×Bool×Int×Int×List (Int×Int×Int×Int×Int×Int×Int)))×(List (Int×Int×Int×Int×Int×Int×Int×Int×Int×Int×Int×Int×Int))×(List (Int×Int×Int×Int×Int×Int×Bool))×(List (Int×Int×Int×Int×Int×Int×Int))×Unit) (x:Int×Int×Unit):Option ((Int×Int×Unit) ⊕ (Bool×Unit ⊕ (Int×Unit ⊕ Empty))):=
 (bif (rCmp .lss x.2.1 (rLen k.2.2.2.2.2.2.2.2.2.2.2.1)) then ((spec_l09BoxesOk_l2 (k.1,k.2.1,k.2.2.1,k.2.2.2.1,k.2.2.2.2.1,k.2.2.2.2.2.1,k.2.2.2.2.2.2.1,k.2.2.2.2.2.2.2.1,k.2.2.2.2.2.2.2.2.1,k.2.2.2.2.2.2.2.2.2.1,k.2.2.2.2.2.2.2.2.2.2.1,k.2.2.2.2.2.2.2.2.2.2.2.1,k.2.2.2.2.2.2.2.2.2.2.2.2.1,k.2.2.2.2.2.2.2.2.2.2.2.2.2.1,k.2.2.2.2.2.2.2.2.2.2.2.2.2.2.1,x.2.1,()) (x.1,(0:Int),())).bind fun q0=>(Sum.elim (fun y1=>some (.inr (.inl (y1.1,())))) (fun q2=>(Sum.elim (fun y3=>some (.inl (y3.1,(rArith .add .i64 x.2.1 (1:Int)),()))) (fun q4=>(Empty.elim q4)) q2)) q0)) else some (.inr (.inr (.inl (x.1,())))))
noncomputable def spec_l09BoxesOk_l0 (k:Int×Int×Int×Int×Int×Int×Int×Int×Int×Int×Int×(List ((List (Int×Int))×(List (Int×Int))×(List (Int×(List (Int))×List (Int×Int×Int×Bool)))×Int×Int×Bool×Bool×Bool×Int×Int×List (Int×Int×Int×Int×Int×Int×Int)))×(List (Int×Int×Int×Int×Int×Int×Int×Int×Int×Int×Int×Int×Int))×(List (Int×Int×Int×Int×Int×Int×Bool))×(List (Int×Int×Int×Int×Int×Int×Int))×Unit) (x:Int×Int×Unit):Option (Bool×Unit ⊕ (Int×Unit ⊕ Empty)):=iter (spec_l09BoxesOk_b0 k) big x
noncomputable def spec_l09BoxesOk_b6 (k:Int×Int×Int×Int×Int×Int×Int×Int×Int×Int×Int×(List ((List (Int×Int))×(List (Int×Int))×(List (Int×(List (Int))×List (Int×Int×Int×Bool)))×Int×Int×Bool×Bool×Bool×Int×Int×List (Int×Int×Int×Int×Int×Int×Int)))×(List (Int×Int×Int×Int×Int×Int×Int×Int×Int×Int×Int×Int×Int))×(List (Int×Int×Int×Int×Int×Int×Bool))×(List (Int×Int×Int×Int×Int×Int×Int))×Unit) (x:Int×Int×Unit):Option ((Int×Int×Unit) ⊕ (Int×Unit ⊕ Empty)):=
 (bif (rCmp .lss x.2.1 (rLen k.2.2.2.2.2.2.2.2.2.2.2.2.1)) then (bif (rInR k.2.2.2.2.2.2.2.2.2.2.2.2.1 x.2.1) then (bif (rCmp .eql (rGet zIIIIIIIIIIIII k.2.2.2.2.2.2.2.2.2.2.2.2.1 x.2.1).2.2.2.1 (2:Int)) then some (.inl ((rArith .sub .i64 x.1 (1:Int)),(rArith .add .i64 x.2.1 (1:Int)),())) else (bif (rInR k.2.2.2.2.2.2.2.2.2.2.2.2.1 x.2.1) then (bif (rCmp .eql (rGet zIIIIIIIIIIIII k.2.2.2.2.2.2.2.2.2.2.2.2.1 x.2.1).2.2.2.1 (3:Int)) then some (.inl ((rArith .sub .i64 x.1 (1:Int)),(rArith .add .i64 x.2.1 (1:Int)),())) else some (.inl (x.1,(rArith .add .i64 x.2.1 (1:Int)),()))) else none)) else none) else some (.inr (.inl (x.1,()))))
noncomputable def spec_l09BoxesOk_l6 (k:Int×Int×Int×Int×Int×Int×Int×Int×Int×Int×Int×(List ((List (Int×Int))×(List (Int×Int))×(List (Int×(List (Int))×List (Int×Int×Int×Bool)))×Int×Int×Bool×Bool×Bool×Int×Int×List (Int×Int×Int×Int×Int×Int×Int)))×(List (Int×Int×Int×Int×Int×Int×Int×Int×Int×Int×Int×Int×Int))×(List (Int×Int×Int×Int×Int×Int×Bool))×(List (Int×Int×Int×Int×Int×Int×Int))×Unit) (x:Int×Int×Unit):Option (Int×Unit ⊕ Empty):=iter (spec_l09BoxesOk_b6 k) big x
noncomputable def spec_l09BoxesOk (a0:Int) (a1:Int) (a2:Int) (a3:Int) (a4:Int) (a5:Int) (a6:Int) (a7:Int) (a8:Int) (a9:Int) (a10:Int) (a11:(List ((List (Int×Int))×(List (Int×Int))×(List (Int×(List (Int))×List (Int×Int×Int×Bool)))×Int×Int×Bool×Bool×Bool×Int×Int×List (Int×Int×Int×Int×Int×Int×Int)))) (a12:(List (Int×Int×Int×Int×Int×Int×Int×Int×Int×Int×Int×Int×Int))) (a13:(List (Int×Int×Int×Int×Int×Int×Bool))) (a14:(List (Int×Int×Int×Int×Int×Int×Int))):Option (Bool×Unit):=
 ((spec_l09BoxesOk_l0 (a0,a1,a2,a3,a4,a5,a6,a7,a8,a9,a10,a11,a12,a13,a14,()) ((0:Int),(0:Int),())).bind fun q0=>(Sum.elim (fun y1=>some (y1.1,())) (fun q2=>(Sum.elim (fun y3=>((spec_l09BoxesOk_l6 (a0,a1,a2,a3,a4,a5,a6,a7,a8,a9,a10,a11,a12,a13,a14,()) (y3.1,(0:Int),())).bind fun q4=>(Sum.elim (fun y5=>some ((rCmp .eql y5.1 (0:Int)),())) (fun q6=>(Empty.elim q6)) q4))) (fun q4=>(Empty.elim q4)) q2)) q0))
noncomputable def spec_l09Load_b0 (k:Int×Int×Int×Int×Int×Int×Int×Int×Int×Int×Int×(List ((List (Int×Int))×(List (Int×Int))×(List (Int×(List (Int))×List (Int×Int×Int×Bool)))×Int×Int×Bool×Bool×Bool×Int×Int×List (Int×Int×Int×Int×Int×Int×Int)))×(List (Int×Int×Int×Int×Int×Int×Int×Int×Int×Int×Int×Int×Int))×(List (Int×Int×Int×Int×Int×Int×Bool))×(List (Int×Int×Int×Int×Int×Int×Int))×Unit) (x:Int×Int×Unit):Option ((Int×Int×Unit) ⊕ (Int×Unit ⊕ Empty)):=
 (bif (rCmp .lss x.2.1 (rLen k.2.2.2.2.2.2.2.2.2.2.2.2.1)) then (bif (rInR k.2.2.2.2.2.2.2.2.2.2.2.2.1 x.2.1) then (bif (rCmp .neq (rGet zIIIIIIIIIIIII k.2.2.2.2.2.2.2.2.2.2.2.2.1 x.2.1).2.2.2.1 (0:Int)) then ((spec_l09Unplaced k.1 k.2.1 k.2.2.1 k.2.2.2.1 k.2.2.2.2.1 k.2.2.2.2.2.1 k.2.2.2.2.2.2.1 k.2.2.2.2.2.2.2.1 k.2.2.2.2.2.2.2.2.1 k.2.2.2.2.2.2.2.2.2.1 k.2.2.2.2.2.2.2.2.2.2.1 k.2.2.2.2.2.2.2.2.2.2.2.1 k.2.2.2.2.2.2.2.2.2.2.2.2.1 k.2.2.2.2.2.2.2.2.2.2.2.2.2.1 k.2.2.2.2.2.2.2.2.2.2.2.2.2.2.1 x.2.1).bind fun y0=>(bif y0.1 then (bif (rInR k.2.2.2.2.2.2.2.2.2.2.2.2.1 x.2.1) then some (.inl ((rArith .add .i64 x.1 (rGet zIIIIIIIIIIIII k.2.2.2.2.2.2.2.2.2.2.2.2.1 x.2.1).1),(rArith .add .i64 x.2.1 (1:Int)),())) else none) else some (.inl (x.1,(rArith .add .i64 x.2.1 (1:Int)),())))) else some (.inl (x.1,(rArith .add .i64 x.2.1 (1:Int)),()))) else none) else some (.inr (.inl (x.1,()))))
noncomputable def spec_l09Load_l0 (k:Int×Int×Int×Int×Int×Int×Int×Int×Int×Int×Int×(List ((List (Int×Int))×(List (Int×Int))×(List (Int×(List (Int))×List (Int×Int×Int×Bool)))×Int×Int×Bool×Bool×Bool×Int×Int×List (Int×Int×Int×Int×Int×Int×Int)))×(List (Int×Int×Int×Int×Int×Int×Int×Int×Int×Int×Int×Int×Int))×(List (Int×Int×Int×Int×Int×Int×Bool))×(List (Int×Int×Int×Int×Int×Int×Int))×Unit) (x:Int×Int×Unit):Option (Int×Unit ⊕ Empty):=iter (spec_l09Load_b0 k) big x
noncomputable def spec_l09Load (a0:Int) (a1:Int) (a2:Int) (a3:Int) (a4:Int) (a5:Int) (a6:Int) (a7:Int) (a8:Int) (a9:Int) (a10:Int) (a11:(List ((List (Int×Int))×(List (Int×Int))×(List (Int×(List (Int))×List (Int×Int×Int×Bool)))×Int×Int×Bool×Bool×Bool×Int×Int×List (Int×Int×Int×Int×Int×Int×Int)))) (a12:(List (Int×Int×Int×Int×Int×Int×Int×Int×Int×Int×Int×Int×Int))) (a13:(List (Int×Int×Int×Int×Int×Int×Bool))) (a14:(List (Int×Int×Int×Int×Int×Int×Int))):Option (Int×Unit):=
 ((spec_l09Load_l0 (a0,a1,a2,a3,a4,a5,a6,a7,a8,a9,a10,a11,a12,a13,a14,()) ((0:Int),(0:Int),())).bind fun q0=>(Sum.elim (fun y1=>some (y1.1,())) (fun q2=>(Empty.elim q2)) q0))
noncomputable def spec_NetworkOk_b0 (k:Int×Int×Int×Int×Int×Int×Int×Int×Int×Int×Int×(List ((List (Int×Int))×(List (Int×Int))×(List (Int×(List (Int))×List (Int×Int×Int×Bool)))×Int×Int×Bool×Bool×Bool×Int×Int×List (Int×Int×Int×Int×Int×Int×Int)))×(List (Int×Int×Int×Int×Int×Int×Int×Int×Int×Int×Int×Int×Int))×(List (Int×Int×Int×Int×Int×Int×Bool))×(List (Int×Int×Int×Int×Int×Int×Int))×Unit) (x:Int×Unit):Option ((Int×Unit) ⊕ (Bool×Unit ⊕ (Unit ⊕ Empty))):=
 (bif (rCmp .lss x.1 (rLen k.2.2.2.2.2.2.2.2.2.2.2.1)) then ((spec_l09SiteOk k.1 k.2.1 k.2.2.1 k.2.2.2.1 k.2.2.2.2.1 k.2.2.2.2.2.1 k.2.2.2.2.2.2.1 k.2.2.2.2.2.2.2.1 k.2.2.2.2.2.2.2.2.1 k.2.2.2.2.2.2.2.2.2.1 k.2.2.2.2.2.2.2.2.2.2.1 k.2.2.2.2.2.2.2.2.2.2.2.1 k.2.2.2.2.2.2.2.2.2.2.2.2.1 k.2.2.2.2.2.2.2.2.2.2.2.2.2.1 k.2.2.2.2.2.2.2.2.2.2.2.2.2.2.1 x.1).bind fun y0=>(bif (Bool.not y0.1) then some (.inr (.inl (false,()))) else some (.inl ((rArith .add .i64 x.1 (1:Int)),())))) else some (.inr (.inr (.inl (())))))
noncomputable def spec_NetworkOk_l0 (k:Int×Int×Int×Int×Int×Int×Int×Int×Int×Int×Int×(List ((List (Int×Int))×(List (Int×Int))×(List (Int×(List (Int))×List (Int×Int×Int×Bool)))×Int×Int×Bool×Bool×Bool×Int×Int×List (Int×Int×Int×Int×Int×Int×Int)))×(List (Int×Int×Int×Int×Int×Int×Int×Int×Int×Int×Int×Int×Int))×(List (Int×Int×Int×Int×Int×Int×Bool))×(List (Int×Int×Int×Int×Int×Int×Int))×Unit) (x:Int×Unit):Option (Bool×Unit ⊕ (Unit ⊕ Empty)):=iter (spec_NetworkOk_b0 k) big x
noncomputable def spec_NetworkOk_b2 (k:Int×Int×Int×Int×Int×Int×Int×Int×Int×Int×Int×(List ((List (Int×Int))×(List (Int×Int))×(List (Int×(List (Int))×List (Int×Int×Int×Bool)))×Int×Int×Bool×Bool×Bool×Int×Int×List (Int×Int×Int×Int×Int×Int×Int)))×(List (Int×Int×Int×Int×Int×Int×Int×Int×Int×Int×Int×Int×Int))×(List (Int×Int×Int×Int×Int×Int×Bool))×(List (Int×Int×Int×Int×Int×Int×Int))×Unit) (x:Int×Unit):Option ((Int×Unit) ⊕ (Bool×Unit ⊕ (Unit ⊕ Empty))):=
 (bif (rCmp .lss x.1 (rLen k.2.2.2.2.2.2.2.2.2.2.2.2.1)) then ((spec_l09ParcelOk k.1 k.2.1 k.2.2.1 k.2.2.2.1 k.2.2.2.2.1 k.2.2.2.2.2.1 k.2.2.2.2.2.2.1 k.2.2.2.2.2.2.2.1 k.2.2.2.2.2.2.2.2.1 k.2.2.2.2.2.2.2.2.2.1 k.2.2.2.2.2.2.2.2.2.2.1 k.2.2.2.2.2.2.2.2.2.2.2.1 k.2.2.2.2.2.2.2.2.2.2.2.2.1 k.2.2.2.2.2.2.2.2.2.2.2.2.2.1 k.2.2.2.2.2.2.2.2.2.2.2.2.2.2.1 x.1).bind fun y0=>(bif (Bool.not y0.1) then some (.inr (.inl (false,()))) else some (.inl ((rArith .add .i64 x.1 (1:Int)),())))) else some (.inr (.inr (.inl (())))))
noncomputable def spec_NetworkOk_l2 (k:Int×Int×Int×Int×Int×Int×Int×Int×Int×Int×Int×(List ((List (Int×Int))×(List (Int×Int))×(List (Int×(List (Int))×List (Int×Int×Int×Bool)))×Int×Int×Bool×Bool×Bool×Int×Int×List (Int×Int×Int×Int×Int×Int×Int)))×(List (Int×Int×Int×Int×Int×Int×Int×Int×Int×Int×Int×Int×Int))×(List (Int×Int×Int×Int×Int×Int×Bool))×(List (Int×Int×Int×Int×Int×Int×Int))×Unit) (x:Int×Unit):Option (Bool×Unit ⊕ (Unit ⊕ Empty)):=iter (spec_NetworkOk_b2 k) big x
noncomputable def spec_NetworkOk (a0:Int) (a1:Int) (a2:Int) (a3:Int) (a4:Int) (a5:Int) (a6:Int) (a7:Int) (a8:Int) (a9:Int) (a10:Int) (a11:(List ((List (Int×Int))×(List (Int×Int))×(List (Int×(List (Int))×List (Int×Int×Int×Bool)))×Int×Int×Bool×Bool×Bool×Int×Int×List (Int×Int×Int×Int×Int×Int×Int)))) (a12:(List (Int×Int×Int×Int×Int×Int×Int×Int×Int×Int×Int×Int×Int))) (a13:(List (Int×Int×Int×Int×Int×Int×Bool))) (a14:(List (Int×Int×Int×Int×Int×Int×Int))):Option (Bool×Unit):=
 ((spec_TermsOk a0 a1 a2 a3 a4 a5 a6 a7).bind fun y0=>(bif (Bool.not y0.1) then some (false,()) else ((spec_l01In a8 (0:Int) (1000:Int)).bind fun y1=>(bif (Bool.not y1.1) then some (false,()) else ((spec_l03Secret a9).bind fun y2=>(bif (Bool.not y2.1) then some (false,()) else ((spec_l01In a10 (0:Int) (20000:Int)).bind fun y3=>(bif (Bool.not y3.1) then some (false,()) else ((spec_l01In (rLen a11) (1:Int) (3:Int)).bind fun y4=>(bif (Bool.not y4.1) then some (false,()) else (bif (rCmp .gtr (rLen a12) (12:Int)) then some (false,()) else ((spec_GrantsOk a13).bind fun y5=>(bif (Bool.not y5.1) then some (false,()) else ((spec_JournalOk a14).bind fun y6=>(bif (Bool.not y6.1) then some (false,()) else ((spec_NetworkOk_l0 (a0,a1,a2,a3,a4,a5,a6,a7,a8,a9,a10,a11,a12,a13,a14,()) ((0:Int),())).bind fun q7=>(Sum.elim (fun y8=>some (y8.1,())) (fun q9=>(Sum.elim (fun y10=>((spec_NetworkOk_l2 (a0,a1,a2,a3,a4,a5,a6,a7,a8,a9,a10,a11,a12,a13,a14,()) ((0:Int),())).bind fun q11=>(Sum.elim (fun y12=>some (y12.1,())) (fun q13=>(Sum.elim (fun y14=>((spec_l09BoxesOk a0 a1 a2 a3 a4 a5 a6 a7 a8 a9 a10 a11 a12 a13 a14).bind fun y15=>(bif y15.1 then ((spec_l09Load a0 a1 a2 a3 a4 a5 a6 a7 a8 a9 a10 a11 a12 a13 a14).bind fun y16=>some ((rCmp .leq y16.1 a8),())) else some (false,())))) (fun q15=>(Empty.elim q15)) q13)) q11))) (fun q11=>(Empty.elim q11)) q9)) q7)))))))))))))))))
noncomputable def impl_personOk (a0:Int):Option (Bool×Unit):=
 ((impl_within a0 (1:Int) (40:Int)).bind fun y0=>some (y0.1,()))
noncomputable def impl_GrantOk (a0:Int) (a1:Int) (a2:Int) (a3:Int) (a4:Int) (a5:Int) (a6:Bool):Option (Bool×Unit):=
 ((impl_personOk a0).bind fun y0=>(bif y0.1 then ((impl_personOk a1).bind fun y1=>(bif y1.1 then (bif (rCmp .neq a0 a1) then ((impl_within a2 (0:Int) (999:Int)).bind fun y2=>(bif y2.1 then ((impl_within a3 (0:Int) (5:Int)).bind fun y3=>(bif y3.1 then ((impl_timeOk a4).bind fun y4=>(bif y4.1 then ((impl_timeOk a5).bind fun y5=>(bif y5.1 then some ((rCmp .lss a4 a5),()) else some (false,()))) else some (false,()))) else some (false,()))) else some (false,()))) else some (false,())) else some (false,()))) else some (false,())))
noncomputable def impl_GrantsOk_1 (a0:Int) (a1:Int) (a2:Int) (a3:Int) (a4:Int) (a5:Int) (a6:Bool):Option (Bool×Unit):=
 ((impl_GrantOk a0 a1 a2 a3 a4 a5 a6).bind fun y0=>some ((Bool.not y0.1),()))
noncomputable def slices_IndexFunc___impl_Grant_impl_Grant___impl_GrantsOk_1_b0 (k:(List (Int×Int×Int×Int×Int×Int×Bool))×Int×Unit) (x:Int×Unit):Option ((Int×Unit) ⊕ (Int×Unit ⊕ (Unit ⊕ Empty))):=
 (bif (rCmp .lss x.1 k.2.1) then (bif (rInR k.1 x.1) then ((impl_GrantsOk_1 (rGet zIIIIIIB k.1 x.1).1 (rGet zIIIIIIB k.1 x.1).2.1 (rGet zIIIIIIB k.1 x.1).2.2.1 (rGet zIIIIIIB k.1 x.1).2.2.2.1 (rGet zIIIIIIB k.1 x.1).2.2.2.2.1 (rGet zIIIIIIB k.1 x.1).2.2.2.2.2.1 (rGet zIIIIIIB k.1 x.1).2.2.2.2.2.2).bind fun y0=>(bif y0.1 then some (.inr (.inl (x.1,()))) else some (.inl ((rArith .add .i64 x.1 (1:Int)),())))) else none) else some (.inr (.inr (.inl (())))))
noncomputable def slices_IndexFunc___impl_Grant_impl_Grant___impl_GrantsOk_1_l0 (k:(List (Int×Int×Int×Int×Int×Int×Bool))×Int×Unit) (x:Int×Unit):Option (Int×Unit ⊕ (Unit ⊕ Empty)):=iter (slices_IndexFunc___impl_Grant_impl_Grant___impl_GrantsOk_1_b0 k) big x
noncomputable def slices_IndexFunc___impl_Grant_impl_Grant___impl_GrantsOk_1 (a0:(List (Int×Int×Int×Int×Int×Int×Bool))):Option (Int×Unit):=
 ((slices_IndexFunc___impl_Grant_impl_Grant___impl_GrantsOk_1_l0 (a0,(rLen a0),()) ((0:Int),())).bind fun q0=>(Sum.elim (fun y1=>some (y1.1,())) (fun q2=>(Sum.elim (fun y3=>some ((-1:Int),())) (fun q4=>(Empty.elim q4)) q2)) q0))
noncomputable def slices_ContainsFunc___impl_Grant_impl_Grant___impl_GrantsOk_1 (a0:(List (Int×Int×Int×Int×Int×Int×Bool))):Option (Bool×Unit):=
 ((slices_IndexFunc___impl_Grant_impl_Grant___impl_GrantsOk_1 a0).bind fun y0=>some ((rCmp .geq y0.1 (0:Int)),()))
noncomputable def impl_GrantsOk (a0:(List (Int×Int×Int×Int×Int×Int×Bool))):Option (Bool×Unit):=
 (bif (rCmp .leq (rLen a0) (30:Int)) then ((slices_ContainsFunc___impl_Grant_impl_Grant___impl_GrantsOk_1 a0).bind fun y0=>some ((Bool.not y0.1),())) else some (false,()))
noncomputable def impl_ColumnOk_b0 (k:Int×(List (Int))×(List (Int×Int×Int×Bool))×(List (Int))×Int×Unit) (x:Int×Unit):Option ((Int×Unit) ⊕ (Bool×Unit ⊕ (Unit ⊕ Empty))):=
 (bif (rCmp .lss x.1 k.2.2.2.2.1) then (bif (rInR k.2.2.2.1 x.1) then ((impl_within (rGet zI k.2.2.2.1 x.1) (1:Int) (rArith .sub .i64 k.1 (1:Int))).bind fun y0=>(bif (Bool.not y0.1) then some (.inr (.inl (false,()))) else (bif (rCmp .gtr x.1 (0:Int)) then (bif (rInR k.2.1 (rArith .sub .i64 x.1 (1:Int))) then (bif (rCmp .leq (rGet zI k.2.2.2.1 x.1) (rGet zI k.2.1 (rArith .sub .i64 x.1 (1:Int)))) then some (.inr (.inl (false,()))) else some (.inl ((rArith .add .i64 x.1 (1:Int)),()))) else none) else some (.inl ((rArith .add .i64 x.1 (1:Int)),()))))) else none) else some (.inr (.inr (.inl (())))))
noncomputable def impl_ColumnOk_l0 (k:Int×(List (Int))×(List (Int×Int×Int×Bool))×(List (Int))×Int×Unit) (x:Int×Unit):Option (Bool×Unit ⊕ (Unit ⊕ Empty)):=iter (impl_ColumnOk_b0 k) big x
noncomputable def impl_ColumnOk_b2 (k:Int×(List (Int))×(List (Int×Int×Int×Bool))×(List (Int×Int×Int×Bool))×Int×Unit) (x:Int×(List (Int×Bool))×(List (Int×Bool))×Int×Unit):Option ((Int×(List (Int×Bool))×(List (Int×Bool))×Int×Unit) ⊕ (Bool×Unit ⊕ (Int×(List (Int×Bool))×Unit ⊕ Empty))):=
 (bif (rCmp .lss x.2.2.2.1 k.2.2.2.2.1) then (bif (rInR k.2.2.2.1 x.2.2.2.1) then (bif (rCmp .neq (rGet zIIIB k.2.2.2.1 x.2.2.2.1).1 x.1) then some (.inr (.inl (false,()))) else ((impl_within (rGet zIIIB k.2.2.2.1 x.2.2.2.1).2.1 (1:Int) (rArith .sub .i64 k.1 x.1)).bind fun y0=>(bif (Bool.not y0.1) then some (.inr (.inl (false,()))) else ((impl_within (rGet zIIIB k.2.2.2.1 x.2.2.2.1).2.2.1 (0:Int) (999:Int)).bind fun y1=>(bif (Bool.not y1.1) then some (.inr (.inl (false,()))) else (bif (rCmp .gtr (rGet zIIIB k.2.2.2.1 x.2.2.2.1).2.2.1 (0:Int)) then (bif (rMget x.2.2.1 (rGet zIIIB k.2.2.2.1 x.2.2.2.1).2.2.1) then some (.inr (.inl (false,()))) else some (.inl ((rArith .add .i64 x.1 (rGet zIIIB k.2.2.2.1 x.2.2.2.1).2.1),(rMput x.2.1 (rGet zIIIB k.2.2.2.1 x.2.2.2.1).1 true),(rMput x.2.2.1 (rGet zIIIB k.2.2.2.1 x.2.2.2.1).2.2.1 true),(rArith .add .i64 x.2.2.2.1 (1:Int)),()))) else some (.inl ((rArith .add .i64 x.1 (rGet zIIIB k.2.2.2.1 x.2.2.2.1).2.1),(rMput x.2.1 (rGet zIIIB k.2.2.2.1 x.2.2.2.1).1 true),(rMput x.2.2.1 (rGet zIIIB k.2.2.2.1 x.2.2.2.1).2.2.1 true),(rArith .add .i64 x.2.2.2.1 (1:Int)),())))))))) else none) else some (.inr (.inr (.inl (x.1,x.2.1,())))))
noncomputable def impl_ColumnOk_l2 (k:Int×(List (Int))×(List (Int×Int×Int×Bool))×(List (Int×Int×Int×Bool))×Int×Unit) (x:Int×(List (Int×Bool))×(List (Int×Bool))×Int×Unit):Option (Bool×Unit ⊕ (Int×(List (Int×Bool))×Unit ⊕ Empty)):=iter (impl_ColumnOk_b2 k) big x
noncomputable def impl_ColumnOk_b4 (k:Int×(List (Int))×(List (Int×Int×Int×Bool))×Int×(List (Int))×Int×Unit) (x:(List (Int×Bool))×Int×Unit):Option (((List (Int×Bool))×Int×Unit) ⊕ (Bool×Unit ⊕ (Unit ⊕ Empty))):=
 (bif (rCmp .lss x.2.1 k.2.2.2.2.2.1) then (bif (rInR k.2.2.2.2.1 x.2.1) then (bif (Bool.not (rMget x.1 (rGet zI k.2.2.2.2.1 x.2.1))) then some (.inr (.inl (false,()))) else some (.inl (x.1,(rArith .add .i64 x.2.1 (1:Int)),()))) else none) else some (.inr (.inr (.inl (())))))
noncomputable def impl_ColumnOk_l4 (k:Int×(List (Int))×(List (Int×Int×Int×Bool))×Int×(List (Int))×Int×Unit) (x:(List (Int×Bool))×Int×Unit):Option (Bool×Unit ⊕ (Unit ⊕ Empty)):=iter (impl_ColumnOk_b4 k) big x
noncomputable def impl_ColumnOk (a0:Int) (a1:(List (Int))) (a2:(List (Int×Int×Int×Bool))):Option (Bool×Unit):=
 ((impl_within a0 (1:Int) (24:Int)).bind fun y0=>(bif (Bool.not y0.1) then some (false,()) else (bif (rCmp .eql (rLen a2) (0:Int)) then some (false,()) else ((impl_ColumnOk_l0 (a0,a1,a2,a1,(rLen a1),()) ((0:Int),())).bind fun q1=>(Sum.elim (fun y2=>some (y2.1,())) (fun q3=>(Sum.elim (fun y4=>((impl_ColumnOk_l2 (a0,a1,a2,a2,(rLen a2),()) ((0:Int),([]:List (Int×Bool)),([]:List (Int×Bool)),(0:Int),())).bind fun q5=>(Sum.elim (fun y6=>some (y6.1,())) (fun q7=>(Sum.elim (fun y8=>((impl_ColumnOk_l4 (a0,a1,a2,y8.1,a1,(rLen a1),()) (y8.2.1,(0:Int),())).bind fun q9=>(Sum.elim (fun y10=>some (y10.1,())) (fun q11=>(Sum.elim (fun y12=>some ((rCmp .eql y8.1 a0),())) (fun q13=>(Empty.elim q13)) q11)) q9))) (fun q9=>(Empty.elim q9)) q7)) q5))) (fun q5=>(Empty.elim q5)) q3)) q1)))))
noncomputable def impl_BankOk_b2 (k:(List (Int×(List (Int))×List (Int×Int×Int×Bool)))×Int×Int×(List (Int×Int×Int×Bool))×Int×Unit) (x:(List (Int×Bool))×Int×Unit):Option (((List (Int×Bool))×Int×Unit) ⊕ (Bool×Unit ⊕ ((List (Int×Bool))×Unit ⊕ Empty))):=
 (bif (rCmp .lss x.2.1 k.2.2.2.2.1) then (bif (rInR k.2.2.2.1 x.2.1) then (bif (rCmp .gtr (rGet zIIIB k.2.2.2.1 x.2.1).2.2.1 (0:Int)) then (bif (rMget x.1 (rGet zIIIB k.2.2.2.1 x.2.1).2.2.1) then some (.inr (.inl (false,()))) else some (.inl ((rMput x.1 (rGet zIIIB k.2.2.2.1 x.2.1).2.2.1 true),(rArith .add .i64 x.2.1 (1:Int)),()))) else some (.inl ((rMput x.1 (rGet zIIIB k.2.2.2.1 x.2.1).2.2.1 true),(rArith .add .i64 x.2.1 (1:Int)),()))) else none) else some (.inr (.inr (.inl (x.1,())))))
noncomputable def impl_BankOk_l2 (k:(List (Int×(List (Int))×List (Int×Int×Int×Bool)))×Int×Int×(List (Int×Int×Int×Bool))×Int×Unit) (x:(List (Int×Bool))×Int×Unit):Option (Bool×Unit ⊕ ((List (Int×Bool))×Unit ⊕ Empty)):=iter (impl_BankOk_b2 k) big x
noncomputable def impl_BankOk_b0 (k:(List (Int×(List (Int))×List (Int×Int×Int×Bool)))×Int×Unit) (x:(List (Int×Bool))×Int×Unit):Option (((List (Int×Bool))×Int×Unit) ⊕ (Bool×Unit ⊕ (Unit ⊕ Empty))):=
 (bif (rCmp .lss x.2.1 k.2.1) then (bif (rInR k.1 x.2.1) then ((impl_ColumnOk (rGet zILIlLIIIBl k.1 x.2.1).1 (rGet zILIlLIIIBl k.1 x.2.1).2.1 (rGet zILIlLIIIBl k.1 x.2.1).2.2).bind fun y0=>(bif (Bool.not y0.1) then some (.inr (.inl (false,()))) else ((impl_BankOk_l2 (k.1,k.2.1,x.2.1,(rGet zILIlLIIIBl k.1 x.2.1).2.2,(rLen (rGet zILIlLIIIBl k.1 x.2.1).2.2),()) (x.1,(0:Int),())).bind fun q1=>(Sum.elim (fun y2=>some (.inr (.inl (y2.1,())))) (fun q3=>(Sum.elim (fun y4=>some (.inl (y4.1,(rArith .add .i64 x.2.1 (1:Int)),()))) (fun q5=>(Empty.elim q5)) q3)) q1)))) else none) else some (.inr (.inr (.inl (())))))
noncomputable def impl_BankOk_l0 (k:(List (Int×(List (Int))×List (Int×Int×Int×Bool)))×Int×Unit) (x:(List (Int×Bool))×Int×Unit):Option (Bool×Unit ⊕ (Unit ⊕ Empty)):=iter (impl_BankOk_b0 k) big x
noncomputable def impl_BankOk (a0:(List (Int×(List (Int))×List (Int×Int×Int×Bool)))):Option (Bool×Unit):=
 ((impl_within (rLen a0) (1:Int) (6:Int)).bind fun y0=>(bif (Bool.not y0.1) then some (false,()) else ((impl_BankOk_l0 (a0,(rLen a0),()) (([]:List (Int×Bool)),(0:Int),())).bind fun q1=>(Sum.elim (fun y2=>some (y2.1,())) (fun q3=>(Sum.elim (fun y4=>some (true,())) (fun q5=>(Empty.elim q5)) q3)) q1))))
noncomputable def impl_isDone (a0:Int) (a1:Int) (a2:Bool) (a3:Bool) (a4:Bool):Option (Bool×Unit):=
 some ((rBeq a4 (rCmp .eql a0 (1:Int))),())
noncomputable def impl_DoorOk (a0:Int) (a1:Int) (a2:Bool) (a3:Bool) (a4:Bool):Option (Bool×Unit):=
 ((impl_within a0 (0:Int) (2:Int)).bind fun y0=>(bif (Bool.not y0.1) then some (false,()) else ((impl_within a1 (0:Int) (6:Int)).bind fun y1=>(bif (Bool.not y1.1) then some (false,()) else (bif a3 then (bif (Bool.not a2) then some (false,()) else (bif (rCmp .eql a0 (0:Int)) then (bif (rCmp .eql a1 (0:Int)) then some ((Bool.not a2),()) else some (false,())) else (bif (rCmp .eql a1 (1:Int)) then ((impl_isDone a0 a1 a2 a3 a4).bind fun y2=>(bif (Bool.not y2.1) then some ((Bool.not a2),()) else some (false,()))) else (bif (rCmp .eql a1 (2:Int)) then ((impl_isDone a0 a1 a2 a3 a4).bind fun y2=>(bif (Bool.not y2.1) then (bif a2 then some ((Bool.not a3),()) else some (false,())) else some (false,()))) else (bif (rCmp .eql a1 (3:Int)) then ((impl_isDone a0 a1 a2 a3 a4).bind fun y2=>(bif (Bool.not y2.1) then some (a3,()) else some (false,()))) else (bif (rCmp .eql a1 (4:Int)) then ((impl_isDone a0 a1 a2 a3 a4).bind fun y2=>(bif y2.1 then some (a3,()) else some (false,()))) else (bif (rCmp .eql a1 (5:Int)) then (bif a2 then some ((Bool.not a3),()) else some (false,())) else (bif (rCmp .eql a1 (6:Int)) then some ((Bool.not a2),()) else some (true,()))))))))) else (bif (rCmp .eql a0 (0:Int)) then (bif (rCmp .eql a1 (0:Int)) then some ((Bool.not a2),()) else some (false,())) else (bif (rCmp .eql a1 (1:Int)) then ((impl_isDone a0 a1 a2 a3 a4).bind fun y2=>(bif (Bool.not y2.1) then some ((Bool.not a2),()) else some (false,()))) else (bif (rCmp .eql a1 (2:Int)) then ((impl_isDone a0 a1 a2 a3 a4).bind fun y2=>(bif (Bool.not y2.1) then (bif a2 then some ((Bool.not a3),()) else some (false,())) else some (false,()))) else (bif (rCmp .eql a1 (3:Int)) then ((impl_isDone a0 a1 a2 a3 a4).bind fun y2=>(bif (Bool.not y2.1) then some (a3,()) else some (false,()))) else (bif (rCmp .eql a1 (4:Int)) then ((impl_isDone a0 a1 a2 a3 a4).bind fun y2=>(bif y2.1 then some (a3,()) else some (false,()))) else (bif (rCmp .eql a1 (5:Int)) then (bif a2 then some ((Bool.not a3),()) else some (false,())) else (bif (rCmp .eql a1 (6:Int)) then some ((Bool.not a2),()) else some (true,())))))))))))))
noncomputable def impl_siteOk (a0:Int) (a1:Int) (a2:Int) (a3:Int) (a4:Int) (a5:Int) (a6:Int) (a7:Int) (a8:Int) (a9:Int) (a10:Int) (a11:(List ((List (Int×Int))×(List (Int×Int))×(List (Int×(List (Int))×List (Int×Int×Int×Bool)))×Int×Int×Bool×Bool×Bool×Int×Int×List (Int×Int×Int×Int×Int×Int×Int)))) (a12:(List (Int×Int×Int×Int×Int×Int×Int×Int×Int×Int×Int×Int×Int))) (a13:(List (Int×Int×Int×Int×Int×Int×Bool))) (a14:(List (Int×Int×Int×Int×Int×Int×Int))) (a15:Int):Option (Bool×Unit):=
 (bif (rInR a11 a15) then ((impl_WeekOk (rGet zLIIlLIIlLILIlLIIIBllIIBBBIILIIIIIIIl a11 a15).1 (rGet zLIIlLIIlLILIlLIIIBllIIBBBIILIIIIIIIl a11 a15).2.1).bind fun y0=>(bif (Bool.not y0.1) then some (false,()) else ((impl_BankOk (rGet zLIIlLIIlLILIlLIIIBllIIBBBIILIIIIIIIl a11 a15).2.2.1).bind fun y1=>(bif (Bool.not y1.1) then some (false,()) else ((impl_DoorOk (rGet zLIIlLIIlLILIlLIIIBllIIBBBIILIIIIIIIl a11 a15).2.2.2.1 (rGet zLIIlLIIlLILIlLIIIBllIIBBBIILIIIIIIIl a11 a15).2.2.2.2.1 (rGet zLIIlLIIlLILIlLIIIBllIIBBBIILIIIIIIIl a11 a15).2.2.2.2.2.1 (rGet zLIIlLIIlLILIlLIIIBllIIBBBIILIIIIIIIl a11 a15).2.2.2.2.2.2.1 (rGet zLIIlLIIlLILIlLIIIBllIIBBBIILIIIIIIIl a11 a15).2.2.2.2.2.2.2.1).bind fun y2=>(bif (Bool.not y2.1) then some (false,()) else ((impl_JournalOk (rGet zLIIlLIIlLILIlLIIIBllIIBBBIILIIIIIIIl a11 a15).2.2.2.2.2.2.2.2.2.2).bind fun y3=>(bif (Bool.not y3.1) then some (false,()) else (bif (rCmp .eql (rGet zLIIlLIIlLILIlLIIIBllIIBBBIILIIIIIIIl a11 a15).2.2.2.2.2.2.2.2.1 (0:Int)) then (lets (Bool.and (rCmp .eql (rGet zLIIlLIIlLILIlLIIIBllIIBBBIILIIIIIIIl a11 a15).2.2.2.1 (0:Int)) (Bool.and (rCmp .eql (rGet zLIIlLIIlLILIlLIIIBllIIBBBIILIIIIIIIl a11 a15).2.2.2.2.1 (0:Int)) (Bool.and (rBeq (rGet zLIIlLIIlLILIlLIIIBllIIBBBIILIIIIIIIl a11 a15).2.2.2.2.2.1 false) (Bool.and (rBeq (rGet zLIIlLIIlLILIlLIIIBllIIBBBIILIIIIIIIl a11 a15).2.2.2.2.2.2.1 false) (Bool.and (rBeq (rGet zLIIlLIIlLILIlLIIIBllIIBBBIILIIIIIIIl a11 a15).2.2.2.2.2.2.2.1 false) true))))) fun v4=>(bif v4 then some ((rCmp .eql (rGet zLIIlLIIlLILIlLIIIBllIIBBBIILIIIIIIIl a11 a15).2.2.2.2.2.2.2.2.2.1 (0:Int)),()) else some (false,()))) else ((impl_within (rGet zLIIlLIIlLILIlLIIIBllIIBBBIILIIIIIIIl a11 a15).2.2.2.2.2.2.2.2.1 (1:Int) (rLen a12)).bind fun y4=>(bif (Bool.not y4.1) then some (false,()) else (bif (rInR a12 (rArith .sub .i64 (rGet zLIIlLIIlLILIlLIIIBllIIBBBIILIIIIIIIl a11 a15).2.2.2.2.2.2.2.2.1 (1:Int))) then (bif (rCmp .neq (rGet zIIIIIIIIIIIII a12 (rArith .sub .i64 (rGet zLIIlLIIlLILIlLIIIBllIIBBBIILIIIIIIIl a11 a15).2.2.2.2.2.2.2.2.1 (1:Int))).2.2.1 a15) then some (false,()) else (bif (rCmp .neq (rGet zIIIIIIIIIIIII a12 (rArith .sub .i64 (rGet zLIIlLIIlLILIlLIIIBllIIBBBIILIIIIIIIl a11 a15).2.2.2.2.2.2.2.2.1 (1:Int))).2.2.2.1 (2:Int)) then some (false,()) else (bif (rCmp .eql (rGet zLIIlLIIlLILIlLIIIBllIIBBBIILIIIIIIIl a11 a15).2.2.2.1 (0:Int)) then some (false,()) else (bif (rCmp .eql (rGet zLIIlLIIlLILIlLIIIBllIIBBBIILIIIIIIIl a11 a15).2.2.2.2.2.2.2.2.2.1 (0:Int)) then some (true,()) else (bif (rCmp .eql (rGet zLIIlLIIlLILIlLIIIBllIIBBBIILIIIIIIIl a11 a15).2.2.2.1 (2:Int)) then ((impl_personOk (rGet zLIIlLIIlLILIlLIIIBllIIBBBIILIIIIIIIl a11 a15).2.2.2.2.2.2.2.2.2.1).bind fun y5=>some (y5.1,())) else some (false,())))))) else none)))))))))))) else none)
noncomputable def impl_isUnplaced (a0:Int) (a1:Int) (a2:Int) (a3:Int) (a4:Int) (a5:Int) (a6:Int) (a7:Int) (a8:Int) (a9:Int) (a10:Int) (a11:(List ((List (Int×Int))×(List (Int×Int))×(List (Int×(List (Int))×List (Int×Int×Int×Bool)))×Int×Int×Bool×Bool×Bool×Int×Int×List (Int×Int×Int×Int×Int×Int×Int)))) (a12:(List (Int×Int×Int×Int×Int×Int×Int×Int×Int×Int×Int×Int×Int))) (a13:(List (Int×Int×Int×Int×Int×Int×Bool))) (a14:(List (Int×Int×Int×Int×Int×Int×Int))) (a15:Int) (a16:Int) (a17:Int) (a18:Int) (a19:Int) (a20:Int) (a21:Int) (a22:Int) (a23:Int) (a24:Int) (a25:Int) (a26:Int) (a27:Int):Option (Bool×Unit):=
 (bif (rCmp .eql a18 (0:Int)) then some (true,()) else (bif (rCmp .eql a18 (1:Int)) then some (true,()) else (bif (rCmp .eql a18 (2:Int)) then (bif (rInR a11 a17) then some ((rCmp .eql (rGet zLIIlLIIlLILIlLIIIBllIIBBBIILIIIIIIIl a11 a17).2.2.2.1 (1:Int)),()) else none) else some (false,()))))
noncomputable def impl_LockOk (a0:Int) (a1:Int) (a2:Int) (a3:Int) (a4:Int):Option (Bool×Unit):=
 ((impl_secretOk a0).bind fun y0=>(bif y0.1 then ((impl_within a1 (0:Int) (1000001:Int)).bind fun y1=>(bif y1.1 then ((impl_within a2 (0:Int) (2:Int)).bind fun y2=>(bif y2.1 then ((impl_within a3 (0:Int) (6:Int)).bind fun y3=>(bif y3.1 then ((impl_within a4 (0:Int) (20064:Int)).bind fun y4=>some (y4.1,())) else some (false,()))) else some (false,()))) else some (false,()))) else some (false,())))
noncomputable def impl_parcelOk (a0:Int) (a1:Int) (a2:Int) (a3:Int) (a4:Int) (a5:Int) (a6:Int) (a7:Int) (a8:Int) (a9:Int) (a10:Int) (a11:(List ((List (Int×Int))×(List (Int×Int))×(List (Int×(List (Int))×List (Int×Int×Int×Bool)))×Int×Int×Bool×Bool×Bool×Int×Int×List (Int×Int×Int×Int×Int×Int×Int)))) (a12:(List (Int×Int×Int×Int×Int×Int×Int×Int×Int×Int×Int×Int×Int))) (a13:(List (Int×Int×Int×Int×Int×Int×Bool))) (a14:(List (Int×Int×Int×Int×Int×Int×Int))) (a15:Int):Option (Bool×Unit):=
 (bif (rInR a12 a15) then ((impl_within (rGet zIIIIIIIIIIIII a12 a15).1 (1:Int) (24:Int)).bind fun y0=>(bif (Bool.not y0.1) then some (false,()) else ((impl_personOk (rGet zIIIIIIIIIIIII a12 a15).2.1).bind fun y1=>(bif (Bool.not y1.1) then some (false,()) else ((impl_within (rGet zIIIIIIIIIIIII a12 a15).2.2.1 (0:Int) (rArith .sub .i64 (rLen a11) (1:Int))).bind fun y2=>(bif (Bool.not y2.1) then some (false,()) else ((impl_within (rGet zIIIIIIIIIIIII a12 a15).2.2.2.1 (0:Int) (5:Int)).bind fun y3=>(bif (Bool.not y3.1) then some (false,()) else (bif (rCmp .eql (rGet zIIIIIIIIIIIII a12 a15).2.2.2.1 (2:Int)) then (bif (rInR a11 (rGet zIIIIIIIIIIIII a12 a15).2.2.1) then (bif (rCmp .neq (rGet zLIIlLIIlLILIlLIIIBllIIBBBIILIIIIIIIl a11 (rGet zIIIIIIIIIIIII a12 a15).2.2.1).2.2.2.2.2.2.2.2.1 (rArith .add .i64 a15 (1:Int))) then some (false,()) else ((impl_isUnplaced a0 a1 a2 a3 a4 a5 a6 a7 a8 a9 a10 a11 a12 a13 a14 (rGet zIIIIIIIIIIIII a12 a15).1 (rGet zIIIIIIIIIIIII a12 a15).2.1 (rGet zIIIIIIIIIIIII a12 a15).2.2.1 (rGet zIIIIIIIIIIIII a12 a15).2.2.2.1 (rGet zIIIIIIIIIIIII a12 a15).2.2.2.2.1 (rGet zIIIIIIIIIIIII a12 a15).2.2.2.2.2.1 (rGet zIIIIIIIIIIIII a12 a15).2.2.2.2.2.2.1 (rGet zIIIIIIIIIIIII a12 a15).2.2.2.2.2.2.2.1 (rGet zIIIIIIIIIIIII a12 a15).2.2.2.2.2.2.2.2.1 (rGet zIIIIIIIIIIIII a12 a15).2.2.2.2.2.2.2.2.2.1 (rGet zIIIIIIIIIIIII a12 a15).2.2.2.2.2.2.2.2.2.2.1 (rGet zIIIIIIIIIIIII a12 a15).2.2.2.2.2.2.2.2.2.2.2.1 (rGet zIIIIIIIIIIIII a12 a15).2.2.2.2.2.2.2.2.2.2.2.2).bind fun y4=>(bif y4.1 then (bif (rCmp .eql (rGet zIIIIIIIIIIIII a12 a15).2.2.2.2.1 (0:Int)) then (bif (rCmp .eql (rGet zIIIIIIIIIIIII a12 a15).2.2.2.2.2.1 (0:Int)) then (bif (rCmp .eql (rGet zIIIIIIIIIIIII a12 a15).2.2.2.2.2.2.2.2.2.2.2.1 (0:Int)) then (bif (rCmp .eql (rGet zIIIIIIIIIIIII a12 a15).2.2.2.2.2.2.2.2.2.2.2.2 (0:Int)) then (lets (Bool.and (rCmp .eql (rGet zIIIIIIIIIIIII a12 a15).2.2.2.2.2.2.1 (0:Int)) (Bool.and (rCmp .eql (rGet zIIIIIIIIIIIII a12 a15).2.2.2.2.2.2.2.1 (0:Int)) (Bool.and (rCmp .eql (rGet zIIIIIIIIIIIII a12 a15).2.2.2.2.2.2.2.2.1 (0:Int)) (Bool.and (rCmp .eql (rGet zIIIIIIIIIIIII a12 a15).2.2.2.2.2.2.2.2.2.1 (0:Int)) (Bool.and (rCmp .eql (rGet zIIIIIIIIIIIII a12 a15).2.2.2.2.2.2.2.2.2.2.1 (0:Int)) true))))) fun v5=>some (v5,())) else some (false,())) else some (false,())) else some (false,())) else some (false,())) else ((impl_within (rGet zIIIIIIIIIIIII a12 a15).2.2.2.2.1 (0:Int) a10).bind fun y5=>(bif (Bool.not y5.1) then some (false,()) else ((impl_within (rGet zIIIIIIIIIIIII a12 a15).2.2.2.2.2.1 (0:Int) a7).bind fun y6=>(bif (Bool.not y6.1) then some (false,()) else ((impl_LockOk (rGet zIIIIIIIIIIIII a12 a15).2.2.2.2.2.2.1 (rGet zIIIIIIIIIIIII a12 a15).2.2.2.2.2.2.2.1 (rGet zIIIIIIIIIIIII a12 a15).2.2.2.2.2.2.2.2.1 (rGet zIIIIIIIIIIIII a12 a15).2.2.2.2.2.2.2.2.2.1 (rGet zIIIIIIIIIIIII a12 a15).2.2.2.2.2.2.2.2.2.2.1).bind fun y7=>(bif (Bool.not y7.1) then some (false,()) else ((impl_SecretOf a0 a1 a2 a3 a4 a5 a6 a7 a8 a9 a10 a11 a12 a13 a14 (rArith .add .i64 a15 (1:Int))).bind fun y8=>(bif (rCmp .neq (rGet zIIIIIIIIIIIII a12 a15).2.2.2.2.2.2.1 y8.1) then some (false,()) else (bif (rCmp .eql (rGet zIIIIIIIIIIIII a12 a15).2.2.2.1 (4:Int)) then ((impl_personOk (rGet zIIIIIIIIIIIII a12 a15).2.2.2.2.2.2.2.2.2.2.2.1).bind fun y9=>(bif y9.1 then ((impl_within (rGet zIIIIIIIIIIIII a12 a15).2.2.2.2.2.2.2.2.2.2.2.2 (0:Int) (rArith .add .i64 a4 (rArith .mul .i64 a6 a7))).bind fun y10=>some (y10.1,())) else some (false,()))) else (bif (rCmp .eql (rGet zIIIIIIIIIIIII a12 a15).2.2.2.2.2.2.2.2.2.2.2.1 (0:Int)) then some ((rCmp .eql (rGet zIIIIIIIIIIIII a12 a15).2.2.2.2.2.2.2.2.2.2.2.2 (0:Int)),()) else some (false,())))))))))))))) else none) else ((impl_isUnplaced a0 a1 a2 a3 a4 a5 a6 a7 a8 a9 a10 a11 a12 a13 a14 (rGet zIIIIIIIIIIIII a12 a15).1 (rGet zIIIIIIIIIIIII a12 a15).2.1 (rGet zIIIIIIIIIIIII a12 a15).2.2.1 (rGet zIIIIIIIIIIIII a12 a15).2.2.2.1 (rGet zIIIIIIIIIIIII a12 a15).2.2.2.2.1 (rGet zIIIIIIIIIIIII a12 a15).2.2.2.2.2.1 (rGet zIIIIIIIIIIIII a12 a15).2.2.2.2.2.2.1 (rGet zIIIIIIIIIIIII a12 a15).2.2.2.2.2.2.2.1 (rGet zIIIIIIIIIIIII a12 a15).2.2.2.2.2.2.2.2.1 (rGet zIIIIIIIIIIIII a12 a15).2.2.2.2.2.2.2.2.2.1 (rGet zIIIIIIIIIIIII a12 a15).2.2.2.2.2.2.2.2.2.2.1 (rGet zIIIIIIIIIIIII a12 a15).2.2.2.2.2.2.2.2.2.2.2.1 (rGet zIIIIIIIIIIIII a12 a15).2.2.2.2.2.2.2.2.2.2.2.2).bind fun y4=>(bif y4.1 then (bif (rCmp .eql (rGet zIIIIIIIIIIIII a12 a15).2.2.2.2.1 (0:Int)) then (bif (rCmp .eql (rGet zIIIIIIIIIIIII a12 a15).2.2.2.2.2.1 (0:Int)) then (bif (rCmp .eql (rGet zIIIIIIIIIIIII a12 a15).2.2.2.2.2.2.2.2.2.2.2.1 (0:Int)) then (bif (rCmp .eql (rGet zIIIIIIIIIIIII a12 a15).2.2.2.2.2.2.2.2.2.2.2.2 (0:Int)) then (lets (Bool.and (rCmp .eql (rGet zIIIIIIIIIIIII a12 a15).2.2.2.2.2.2.1 (0:Int)) (Bool.and (rCmp .eql (rGet zIIIIIIIIIIIII a12 a15).2.2.2.2.2.2.2.1 (0:Int)) (Bool.and (rCmp .eql (rGet zIIIIIIIIIIIII a12 a15).2.2.2.2.2.2.2.2.1 (0:Int)) (Bool.and (rCmp .eql (rGet zIIIIIIIIIIIII a12 a15).2.2.2.2.2.2.2.2.2.1 (0:Int)) (Bool.and (rCmp .eql (rGet zIIIIIIIIIIIII a12 a15).2.2.2.2.2.2.2.2.2.2.1 (0:Int)) true))))) fun v5=>some (v5,())) else some (false,())) else some (false,())) else some (false,())) else some (false,())) else ((impl_within (rGet zIIIIIIIIIIIII a12 a15).2.2.2.2.1 (0:Int) a10).bind fun y5=>(bif (Bool.not y5.1) then some (false,()) else ((impl_within (rGet zIIIIIIIIIIIII a12 a15).2.2.2.2.2.1 (0:Int) a7).bind fun y6=>(bif (Bool.not y6.1) then some (false,()) else ((impl_LockOk (rGet zIIIIIIIIIIIII a12 a15).2.2.2.2.2.2.1 (rGet zIIIIIIIIIIIII a12 a15).2.2.2.2.2.2.2.1 (rGet zIIIIIIIIIIIII a12 a15).2.2.2.2.2.2.2.2.1 (rGet zIIIIIIIIIIIII a12 a15).2.2.2.2.2.2.2.2.2.1 (rGet zIIIIIIIIIIIII a12 a15).2.2.2.2.2.2.2.2.2.2.1).bind fun y7=>(bif (Bool.not y7.1) then some (false,()) else ((impl_SecretOf a0 a1 a2 a3 a4 a5 a6 a7 a8 a9 a10 a11 a12 a13 a14 (rArith .add .i64 a15 (1:Int))).bind fun y8=>(bif (rCmp .neq (rGet zIIIIIIIIIIIII a12 a15).2.2.2.2.2.2.1 y8.1) then some (false,()) else (bif (rCmp .eql (rGet zIIIIIIIIIIIII a12 a15).2.2.2.1 (4:Int)) then ((impl_personOk (rGet zIIIIIIIIIIIII a12 a15).2.2.2.2.2.2.2.2.2.2.2.1).bind fun y9=>(bif y9.1 then ((impl_within (rGet zIIIIIIIIIIIII a12 a15).2.2.2.2.2.2.2.2.2.2.2.2 (0:Int) (rArith .add .i64 a4 (rArith .mul .i64 a6 a7))).bind fun y10=>some (y10.1,())) else some (false,()))) else (bif (rCmp .eql (rGet zIIIIIIIIIIIII a12 a15).2.2.2.2.2.2.2.2.2.2.2.1 (0:Int)) then some ((rCmp .eql (rGet zIIIIIIIIIIIII a12 a15).2.2.2.2.2.2.2.2.2.2.2.2 (0:Int)),()) else some (false,())))))))))))))))))))))) else none)
noncomputable def impl_boxesOk_b4 (k:Int×Int×Int×Int×Int×Int×Int×Int×Int×Int×Int×(List ((List (Int×Int))×(List (Int×Int))×(List (Int×(List (Int))×List (Int×Int×Int×Bool)))×Int×Int×Bool×Bool×Bool×Int×Int×List (Int×Int×Int×Int×Int×Int×Int)))×(List (Int×Int×Int×Int×Int×Int×Int×Int×Int×Int×Int×Int×Int))×(List (Int×Int×Int×Int×Int×Int×Bool))×(List (Int×Int×Int×Int×Int×Int×Int))×Int×(List ((List (Int×Int))×(List (Int×Int))×(List (Int×(List (Int))×List (Int×Int×Int×Bool)))×Int×Int×Bool×Bool×Bool×Int×Int×List (Int×Int×Int×Int×Int×Int×Int)))×Int×Int×(List (Int×(List (Int))×List (Int×Int×Int×Bool)))×Int×Int×(List (Int×Int×Int×Bool))×Int×Unit) (x:Int×Int×Unit):Option ((Int×Int×Unit) ⊕ (Bool×Unit ⊕ (Int×Unit ⊕ Empty))):=
 (bif (rCmp .lss x.2.1 k.2.2.2.2.2.2.2.2.2.2.2.2.2.2.2.2.2.2.2.2.2.2.2.1) then (bif (rInR k.2.2.2.2.2.2.2.2.2.2.2.2.2.2.2.2.2.2.2.2.2.2.1 x.2.1) then (bif (rCmp .eql (rGet zIIIB k.2.2.2.2.2.2.2.2.2.2.2.2.2.2.2.2.2.2.2.2.2.2.1 x.2.1).2.2.1 (0:Int)) then some (.inl (x.1,(rArith .add .i64 x.2.1 (1:Int)),())) else ((impl_within (rGet zIIIB k.2.2.2.2.2.2.2.2.2.2.2.2.2.2.2.2.2.2.2.2.2.2.1 x.2.1).2.2.1 (1:Int) (rLen k.2.2.2.2.2.2.2.2.2.2.2.2.1)).bind fun y0=>(bif (Bool.not y0.1) then some (.inr (.inl (false,()))) else (bif (rInR k.2.2.2.2.2.2.2.2.2.2.2.2.1 (rArith .sub .i64 (rGet zIIIB k.2.2.2.2.2.2.2.2.2.2.2.2.2.2.2.2.2.2.2.2.2.2.1 x.2.1).2.2.1 (1:Int))) then (lets (rGet zIIIIIIIIIIIII k.2.2.2.2.2.2.2.2.2.2.2.2.1 (rArith .sub .i64 (rGet zIIIB k.2.2.2.2.2.2.2.2.2.2.2.2.2.2.2.2.2.2.2.2.2.2.1 x.2.1).2.2.1 (1:Int))).2.2.2.2.1 fun v1=>(lets (rGet zIIIIIIIIIIIII k.2.2.2.2.2.2.2.2.2.2.2.2.1 (rArith .sub .i64 (rGet zIIIB k.2.2.2.2.2.2.2.2.2.2.2.2.2.2.2.2.2.2.2.2.2.2.1 x.2.1).2.2.1 (1:Int))).2.2.2.2.2.1 fun v2=>(lets (rGet zIIIIIIIIIIIII k.2.2.2.2.2.2.2.2.2.2.2.2.1 (rArith .sub .i64 (rGet zIIIB k.2.2.2.2.2.2.2.2.2.2.2.2.2.2.2.2.2.2.2.2.2.2.1 x.2.1).2.2.1 (1:Int))).2.2.2.2.2.2.1 fun v3=>(lets (rGet zIIIIIIIIIIIII k.2.2.2.2.2.2.2.2.2.2.2.2.1 (rArith .sub .i64 (rGet zIIIB k.2.2.2.2.2.2.2.2.2.2.2.2.2.2.2.2.2.2.2.2.2.2.1 x.2.1).2.2.1 (1:Int))).2.2.2.2.2.2.2.1 fun v4=>(lets (rGet zIIIIIIIIIIIII k.2.2.2.2.2.2.2.2.2.2.2.2.1 (rArith .sub .i64 (rGet zIIIB k.2.2.2.2.2.2.2.2.2.2.2.2.2.2.2.2.2.2.2.2.2.2.1 x.2.1).2.2.1 (1:Int))).2.2.2.2.2.2.2.2.1 fun v5=>(lets (rGet zIIIIIIIIIIIII k.2.2.2.2.2.2.2.2.2.2.2.2.1 (rArith .sub .i64 (rGet zIIIB k.2.2.2.2.2.2.2.2.2.2.2.2.2.2.2.2.2.2.2.2.2.2.1 x.2.1).2.2.1 (1:Int))).2.2.2.2.2.2.2.2.2.1 fun v6=>(lets (rGet zIIIIIIIIIIIII k.2.2.2.2.2.2.2.2.2.2.2.2.1 (rArith .sub .i64 (rGet zIIIB k.2.2.2.2.2.2.2.2.2.2.2.2.2.2.2.2.2.2.2.2.2.2.1 x.2.1).2.2.1 (1:Int))).2.2.2.2.2.2.2.2.2.2.1 fun v7=>(lets (rGet zIIIIIIIIIIIII k.2.2.2.2.2.2.2.2.2.2.2.2.1 (rArith .sub .i64 (rGet zIIIB k.2.2.2.2.2.2.2.2.2.2.2.2.2.2.2.2.2.2.2.2.2.2.1 x.2.1).2.2.1 (1:Int))).2.2.2.2.2.2.2.2.2.2.2.1 fun v8=>(lets (rGet zIIIIIIIIIIIII k.2.2.2.2.2.2.2.2.2.2.2.2.1 (rArith .sub .i64 (rGet zIIIB k.2.2.2.2.2.2.2.2.2.2.2.2.2.2.2.2.2.2.2.2.2.2.1 x.2.1).2.2.1 (1:Int))).2.2.2.2.2.2.2.2.2.2.2.2 fun v9=>(lets (rCmp .neq (rGet zIIIIIIIIIIIII k.2.2.2.2.2.2.2.2.2.2.2.2.1 (rArith .sub .i64 (rGet zIIIB k.2.2.2.2.2.2.2.2.2.2.2.2.2.2.2.2.2.2.2.2.2.2.1 x.2.1).2.2.1 (1:Int))).2.2.2.1 (2:Int)) fun v10=>(bif v10 then (lets (rCmp .neq (rGet zIIIIIIIIIIIII k.2.2.2.2.2.2.2.2.2.2.2.2.1 (rArith .sub .i64 (rGet zIIIB k.2.2.2.2.2.2.2.2.2.2.2.2.2.2.2.2.2.2.2.2.2.2.1 x.2.1).2.2.1 (1:Int))).2.2.2.1 (3:Int)) fun v11=>(bif v11 then some (.inr (.inl (false,()))) else (lets (rCmp .neq (rGet zIIIIIIIIIIIII k.2.2.2.2.2.2.2.2.2.2.2.2.1 (rArith .sub .i64 (rGet zIIIB k.2.2.2.2.2.2.2.2.2.2.2.2.2.2.2.2.2.2.2.2.2.2.1 x.2.1).2.2.1 (1:Int))).2.2.1 k.2.2.2.2.2.2.2.2.2.2.2.2.2.2.2.1) fun v12=>(bif v12 then some (.inr (.inl (false,()))) else (lets (rCmp .neq (rGet zIIIIIIIIIIIII k.2.2.2.2.2.2.2.2.2.2.2.2.1 (rArith .sub .i64 (rGet zIIIB k.2.2.2.2.2.2.2.2.2.2.2.2.2.2.2.2.2.2.2.2.2.2.1 x.2.1).2.2.1 (1:Int))).1 (rGet zIIIB k.2.2.2.2.2.2.2.2.2.2.2.2.2.2.2.2.2.2.2.2.2.2.1 x.2.1).2.1) fun v13=>(bif v13 then some (.inr (.inl (false,()))) else (lets (rCmp .eql (rGet zIIIIIIIIIIIII k.2.2.2.2.2.2.2.2.2.2.2.2.1 (rArith .sub .i64 (rGet zIIIB k.2.2.2.2.2.2.2.2.2.2.2.2.2.2.2.2.2.2.2.2.2.2.1 x.2.1).2.2.1 (1:Int))).2.2.2.1 (2:Int)) fun v14=>(bif v14 then (bif (rGet zIIIB k.2.2.2.2.2.2.2.2.2.2.2.2.2.2.2.2.2.2.2.2.2.2.1 x.2.1).2.2.2 then some (.inr (.inl (false,()))) else some (.inl ((rArith .add .i64 x.1 (1:Int)),(rArith .add .i64 x.2.1 (1:Int)),()))) else some (.inl ((rArith .add .i64 x.1 (1:Int)),(rArith .add .i64 x.2.1 (1:Int)),())))))))))) else (lets (rCmp .neq (rGet zIIIIIIIIIIIII k.2.2.2.2.2.2.2.2.2.2.2.2.1 (rArith .sub .i64 (rGet zIIIB k.2.2.2.2.2.2.2.2.2.2.2.2.2.2.2.2.2.2.2.2.2.2.1 x.2.1).2.2.1 (1:Int))).2.2.1 k.2.2.2.2.2.2.2.2.2.2.2.2.2.2.2.1) fun v11=>(bif v11 then some (.inr (.inl (false,()))) else (lets (rCmp .neq (rGet zIIIIIIIIIIIII k.2.2.2.2.2.2.2.2.2.2.2.2.1 (rArith .sub .i64 (rGet zIIIB k.2.2.2.2.2.2.2.2.2.2.2.2.2.2.2.2.2.2.2.2.2.2.1 x.2.1).2.2.1 (1:Int))).1 (rGet zIIIB k.2.2.2.2.2.2.2.2.2.2.2.2.2.2.2.2.2.2.2.2.2.2.1 x.2.1).2.1) fun v12=>(bif v12 then some (.inr (.inl (false,()))) else (lets (rCmp .eql (rGet zIIIIIIIIIIIII k.2.2.2.2.2.2.2.2.2.2.2.2.1 (rArith .sub .i64 (rGet zIIIB k.2.2.2.2.2.2.2.2.2.2.2.2.2.2.2.2.2.2.2.2.2.2.1 x.2.1).2.2.1 (1:Int))).2.2.2.1 (2:Int)) fun v13=>(bif v13 then (bif (rGet zIIIB k.2.2.2.2.2.2.2.2.2.2.2.2.2.2.2.2.2.2.2.2.2.2.1 x.2.1).2.2.2 then some (.inr (.inl (false,()))) else some (.inl ((rArith .add .i64 x.1 (1:Int)),(rArith .add .i64 x.2.1 (1:Int)),()))) else some (.inl ((rArith .add .i64 x.1 (1:Int)),(rArith .add .i64 x.2.1 (1:Int)),()))))))))))))))))))) else none)))) else none) else some (.inr (.inr (.inl (x.1,())))))
noncomputable def impl_boxesOk_l4 (k:Int×Int×Int×Int×Int×Int×Int×Int×Int×Int×Int×(List ((List (Int×Int))×(List (Int×Int))×(List (Int×(List (Int))×List (Int×Int×Int×Bool)))×Int×Int×Bool×Bool×Bool×Int×Int×List (Int×Int×Int×Int×Int×Int×Int)))×(List (Int×Int×Int×Int×Int×Int×Int×Int×Int×Int×Int×Int×Int))×(List (Int×Int×Int×Int×Int×Int×Bool))×(List (Int×Int×Int×Int×Int×Int×Int))×Int×(List ((List (Int×Int))×(List (Int×Int))×(List (Int×(List (Int))×List (Int×Int×Int×Bool)))×Int×Int×Bool×Bool×Bool×Int×Int×List (Int×Int×Int×Int×Int×Int×Int)))×Int×Int×(List (Int×(List (Int))×List (Int×Int×Int×Bool)))×Int×Int×(List (Int×Int×Int×Bool))×Int×Unit) (x:Int×Int×Unit):Option (Bool×Unit ⊕ (Int×Unit ⊕ Empty)):=iter (impl_boxesOk_b4 k) big x
noncomputable def impl_boxesOk_b2 (k:Int×Int×Int×Int×Int×Int×Int×Int×Int×Int×Int×(List ((List (Int×Int))×(List (Int×Int))×(List (Int×(List (Int))×List (Int×Int×Int×Bool)))×Int×Int×Bool×Bool×Bool×Int×Int×List (Int×Int×Int×Int×Int×Int×Int)))×(List (Int×Int×Int×Int×Int×Int×Int×Int×Int×Int×Int×Int×Int))×(List (Int×Int×Int×Int×Int×Int×Bool))×(List (Int×Int×Int×Int×Int×Int×Int))×Int×(List ((List (Int×Int))×(List (Int×Int))×(List (Int×(List (Int))×List (Int×Int×Int×Bool)))×Int×Int×Bool×Bool×Bool×Int×Int×List (Int×Int×Int×Int×Int×Int×Int)))×Int×Int×(List (Int×(List (Int))×List (Int×Int×Int×Bool)))×Int×Unit) (x:Int×Int×Unit):Option ((Int×Int×Unit) ⊕ (Bool×Unit ⊕ (Int×Unit ⊕ Empty))):=
 (bif (rCmp .lss x.2.1 k.2.2.2.2.2.2.2.2.2.2.2.2.2.2.2.2.2.2.2.2.1) then (bif (rInR k.2.2.2.2.2.2.2.2.2.2.2.2.2.2.2.2.2.2.2.1 x.2.1) then ((impl_boxesOk_l4 (k.1,k.2.1,k.2.2.1,k.2.2.2.1,k.2.2.2.2.1,k.2.2.2.2.2.1,k.2.2.2.2.2.2.1,k.2.2.2.2.2.2.2.1,k.2.2.2.2.2.2.2.2.1,k.2.2.2.2.2.2.2.2.2.1,k.2.2.2.2.2.2.2.2.2.2.1,k.2.2.2.2.2.2.2.2.2.2.2.1,k.2.2.2.2.2.2.2.2.2.2.2.2.1,k.2.2.2.2.2.2.2.2.2.2.2.2.2.1,k.2.2.2.2.2.2.2.2.2.2.2.2.2.2.1,k.2.2.2.2.2.2.2.2.2.2.2.2.2.2.2.1,k.2.2.2.2.2.2.2.2.2.2.2.2.2.2.2.2.1,k.2.2.2.2.2.2.2.2.2.2.2.2.2.2.2.2.2.1,k.2.2.2.2.2.2.2.2.2.2.2.2.2.2.2.2.2.2.1,k.2.2.2.2.2.2.2.2.2.2.2.2.2.2.2.2.2.2.2.1,k.2.2.2.2.2.2.2.2.2.2.2.2.2.2.2.2.2.2.2.2.1,x.2.1,(rGet zILIlLIIIBl k.2.2.2.2.2.2.2.2.2.2.2.2.2.2.2.2.2.2.2.1 x.2.1).2.2,(rLen (rGet zILIlLIIIBl k.2.2.2.2.2.2.2.2.2.2.2.2.2.2.2.2.2.2.2.1 x.2.1).2.2),()) (x.1,(0:Int),())).bind fun q0=>(Sum.elim (fun y1=>some (.inr (.inl (y1.1,())))) (fun q2=>(Sum.elim (fun y3=>some (.inl (y3.1,(rArith .add .i64 x.2.1 (1:Int)),()))) (fun q4=>(Empty.elim q4)) q2)) q0)) else none) else some (.inr (.inr (.inl (x.1,())))))
noncomputable def impl_boxesOk_l2 (k:Int×Int×Int×Int×Int×Int×Int×Int×Int×Int×Int×(List ((List (Int×Int))×(List (Int×Int))×(List (Int×(List (Int))×List (Int×Int×Int×Bool)))×Int×Int×Bool×Bool×Bool×Int×Int×List (Int×Int×Int×Int×Int×Int×Int)))×(List (Int×Int×Int×Int×Int×Int×Int×Int×Int×Int×Int×Int×Int))×(List (Int×Int×Int×Int×Int×Int×Bool))×(List (Int×Int×Int×Int×Int×Int×Int))×Int×(List ((List (Int×Int))×(List (Int×Int))×(List (Int×(List (Int))×List (Int×Int×Int×Bool)))×Int×Int×Bool×Bool×Bool×Int×Int×List (Int×Int×Int×Int×Int×Int×Int)))×Int×Int×(List (Int×(List (Int))×List (Int×Int×Int×Bool)))×Int×Unit) (x:Int×Int×Unit):Option (Bool×Unit ⊕ (Int×Unit ⊕ Empty)):=iter (impl_boxesOk_b2 k) big x
noncomputable def impl_boxesOk_b0 (k:Int×Int×Int×Int×Int×Int×Int×Int×Int×Int×Int×(List ((List (Int×Int))×(List (Int×Int))×(List (Int×(List (Int))×List (Int×Int×Int×Bool)))×Int×Int×Bool×Bool×Bool×Int×Int×List (Int×Int×Int×Int×Int×Int×Int)))×(List (Int×Int×Int×Int×Int×Int×Int×Int×Int×Int×Int×Int×Int))×(List (Int×Int×Int×Int×Int×Int×Bool))×(List (Int×Int×Int×Int×Int×Int×Int))×(List ((List (Int×Int))×(List (Int×Int))×(List (Int×(List (Int))×List (Int×Int×Int×Bool)))×Int×Int×Bool×Bool×Bool×Int×Int×List (Int×Int×Int×Int×Int×Int×Int)))×Int×Unit) (x:Int×Int×Unit):Option ((Int×Int×Unit) ⊕ (Bool×Unit ⊕ (Int×Unit ⊕ Empty))):=
 (bif (rCmp .lss x.2.1 k.2.2.2.2.2.2.2.2.2.2.2.2.2.2.2.2.1) then (bif (rInR k.2.2.2.2.2.2.2.2.2.2.2.2.2.2.2.1 x.2.1) then ((impl_boxesOk_l2 (k.1,k.2.1,k.2.2.1,k.2.2.2.1,k.2.2.2.2.1,k.2.2.2.2.2.1,k.2.2.2.2.2.2.1,k.2.2.2.2.2.2.2.1,k.2.2.2.2.2.2.2.2.1,k.2.2.2.2.2.2.2.2.2.1,k.2.2.2.2.2.2.2.2.2.2.1,k.2.2.2.2.2.2.2.2.2.2.2.1,k.2.2.2.2.2.2.2.2.2.2.2.2.1,k.2.2.2.2.2.2.2.2.2.2.2.2.2.1,k.2.2.2.2.2.2.2.2.2.2.2.2.2.2.1,x.2.1,k.2.2.2.2.2.2.2.2.2.2.2.2.2.2.2.1,k.2.2.2.2.2.2.2.2.2.2.2.2.2.2.2.2.1,x.2.1,(rGet zLIIlLIIlLILIlLIIIBllIIBBBIILIIIIIIIl k.2.2.2.2.2.2.2.2.2.2.2.2.2.2.2.1 x.2.1).2.2.1,(rLen (rGet zLIIlLIIlLILIlLIIIBllIIBBBIILIIIIIIIl k.2.2.2.2.2.2.2.2.2.2.2.2.2.2.2.1 x.2.1).2.2.1),()) (x.1,(0:Int),())).bind fun q0=>(Sum.elim (fun y1=>some (.inr (.inl (y1.1,())))) (fun q2=>(Sum.elim (fun y3=>some (.inl (y3.1,(rArith .add .i64 x.2.1 (1:Int)),()))) (fun q4=>(Empty.elim q4)) q2)) q0)) else none) else some (.inr (.inr (.inl (x.1,())))))
noncomputable def impl_boxesOk_l0 (k:Int×Int×Int×Int×Int×Int×Int×Int×Int×Int×Int×(List ((List (Int×Int))×(List (Int×Int))×(List (Int×(List (Int))×List (Int×Int×Int×Bool)))×Int×Int×Bool×Bool×Bool×Int×Int×List (Int×Int×Int×Int×Int×Int×Int)))×(List (Int×Int×Int×Int×Int×Int×Int×Int×Int×Int×Int×Int×Int))×(List (Int×Int×Int×Int×Int×Int×Bool))×(List (Int×Int×Int×Int×Int×Int×Int))×(List ((List (Int×Int))×(List (Int×Int))×(List (Int×(List (Int))×List (Int×Int×Int×Bool)))×Int×Int×Bool×Bool×Bool×Int×Int×List (Int×Int×Int×Int×Int×Int×Int)))×Int×Unit) (x:Int×Int×Unit):Option (Bool×Unit ⊕ (Int×Unit ⊕ Empty)):=iter (impl_boxesOk_b0 k) big x
noncomputable def impl_boxesOk_b6 (k:(List (Int×Int×Int×Int×Int×Int×Int×Int×Int×Int×Int×Int×Int))×Int×Unit) (x:Int×Int×Unit):Option ((Int×Int×Unit) ⊕ (Int×Unit ⊕ Empty)):=
 (bif (rCmp .lss x.2.1 k.2.1) then (bif (rInR k.1 x.2.1) then (bif (rCmp .eql (rGet zIIIIIIIIIIIII k.1 x.2.1).2.2.2.1 (2:Int)) then some (.inl ((rArith .sub .i64 x.1 (1:Int)),(rArith .add .i64 x.2.1 (1:Int)),())) else (bif (rCmp .eql (rGet zIIIIIIIIIIIII k.1 x.2.1).2.2.2.1 (3:Int)) then some (.inl ((rArith .sub .i64 x.1 (1:Int)),(rArith .add .i64 x.2.1 (1:Int)),())) else some (.inl (x.1,(rArith .add .i64 x.2.1 (1:Int)),())))) else none) else some (.inr (.inl (x.1,()))))
noncomputable def impl_boxesOk_l6 (k:(List (Int×Int×Int×Int×Int×Int×Int×Int×Int×Int×Int×Int×Int))×Int×Unit) (x:Int×Int×Unit):Option (Int×Unit ⊕ Empty):=iter (impl_boxesOk_b6 k) big x
noncomputable def impl_boxesOk (a0:Int) (a1:Int) (a2:Int) (a3:Int) (a4:Int) (a5:Int) (a6:Int) (a7:Int) (a8:Int) (a9:Int) (a10:Int) (a11:(List ((List (Int×Int))×(List (Int×Int))×(List (Int×(List (Int))×List (Int×Int×Int×Bool)))×Int×Int×Bool×Bool×Bool×Int×Int×List (Int×Int×Int×Int×Int×Int×Int)))) (a12:(List (Int×Int×Int×Int×Int×Int×Int×Int×Int×Int×Int×Int×Int))) (a13:(List (Int×Int×Int×Int×Int×Int×Bool))) (a14:(List (Int×Int×Int×Int×Int×Int×Int))):Option (Bool×Unit):=
 ((impl_boxesOk_l0 (a0,a1,a2,a3,a4,a5,a6,a7,a8,a9,a10,a11,a12,a13,a14,a11,(rLen a11),()) ((0:Int),(0:Int),())).bind fun q0=>(Sum.elim (fun y1=>some (y1.1,())) (fun q2=>(Sum.elim (fun y3=>((impl_boxesOk_l6 (a12,(rLen a12),()) (y3.1,(0:Int),())).bind fun q4=>(Sum.elim (fun y5=>some ((rCmp .eql y5.1 (0:Int)),())) (fun q6=>(Empty.elim q6)) q4))) (fun q4=>(Empty.elim q4)) q2)) q0))
noncomputable def impl_loadOf_b0 (k:Int×Int×Int×Int×Int×Int×Int×Int×Int×Int×Int×(List ((List (Int×Int))×(List (Int×Int))×(List (Int×(List (Int))×List (Int×Int×Int×Bool)))×Int×Int×Bool×Bool×Bool×Int×Int×List (Int×Int×Int×Int×Int×Int×Int)))×(List (Int×Int×Int×Int×Int×Int×Int×Int×Int×Int×Int×Int×Int))×(List (Int×Int×Int×Int×Int×Int×Bool))×(List (Int×Int×Int×Int×Int×Int×Int))×(List (Int×Int×Int×Int×Int×Int×Int×Int×Int×Int×Int×Int×Int))×Int×Unit) (x:Int×Int×Unit):Option ((Int×Int×Unit) ⊕ (Int×Unit ⊕ Empty)):=
 (bif (rCmp .lss x.2.1 k.2.2.2.2.2.2.2.2.2.2.2.2.2.2.2.2.1) then (bif (rInR k.2.2.2.2.2.2.2.2.2.2.2.2.2.2.2.1 x.2.1) then (bif (rCmp .neq (rGet zIIIIIIIIIIIII k.2.2.2.2.2.2.2.2.2.2.2.2.2.2.2.1 x.2.1).2.2.2.1 (0:Int)) then ((impl_isUnplaced k.1 k.2.1 k.2.2.1 k.2.2.2.1 k.2.2.2.2.1 k.2.2.2.2.2.1 k.2.2.2.2.2.2.1 k.2.2.2.2.2.2.2.1 k.2.2.2.2.2.2.2.2.1 k.2.2.2.2.2.2.2.2.2.1 k.2.2.2.2.2.2.2.2.2.2.1 k.2.2.2.2.2.2.2.2.2.2.2.1 k.2.2.2.2.2.2.2.2.2.2.2.2.1 k.2.2.2.2.2.2.2.2.2.2.2.2.2.1 k.2.2.2.2.2.2.2.2.2.2.2.2.2.2.1 (rGet zIIIIIIIIIIIII k.2.2.2.2.2.2.2.2.2.2.2.2.2.2.2.1 x.2.1).1 (rGet zIIIIIIIIIIIII k.2.2.2.2.2.2.2.2.2.2.2.2.2.2.2.1 x.2.1).2.1 (rGet zIIIIIIIIIIIII k.2.2.2.2.2.2.2.2.2.2.2.2.2.2.2.1 x.2.1).2.2.1 (rGet zIIIIIIIIIIIII k.2.2.2.2.2.2.2.2.2.2.2.2.2.2.2.1 x.2.1).2.2.2.1 (rGet zIIIIIIIIIIIII k.2.2.2.2.2.2.2.2.2.2.2.2.2.2.2.1 x.2.1).2.2.2.2.1 (rGet zIIIIIIIIIIIII k.2.2.2.2.2.2.2.2.2.2.2.2.2.2.2.1 x.2.1).2.2.2.2.2.1 (rGet zIIIIIIIIIIIII k.2.2.2.2.2.2.2.2.2.2.2.2.2.2.2.1 x.2.1).2.2.2.2.2.2.1 (rGet zIIIIIIIIIIIII k.2.2.2.2.2.2.2.2.2.2.2.2.2.2.2.1 x.2.1).2.2.2.2.2.2.2.1 (rGet zIIIIIIIIIIIII k.2.2.2.2.2.2.2.2.2.2.2.2.2.2.2.1 x.2.1).2.2.2.2.2.2.2.2.1 (rGet zIIIIIIIIIIIII k.2.2.2.2.2.2.2.2.2.2.2.2.2.2.2.1 x.2.1).2.2.2.2.2.2.2.2.2.1 (rGet zIIIIIIIIIIIII k.2.2.2.2.2.2.2.2.2.2.2.2.2.2.2.1 x.2.1).2.2.2.2.2.2.2.2.2.2.1 (rGet zIIIIIIIIIIIII k.2.2.2.2.2.2.2.2.2.2.2.2.2.2.2.1 x.2.1).2.2.2.2.2.2.2.2.2.2.2.1 (rGet zIIIIIIIIIIIII k.2.2.2.2.2.2.2.2.2.2.2.2.2.2.2.1 x.2.1).2.2.2.2.2.2.2.2.2.2.2.2).bind fun y0=>(bif y0.1 then some (.inl ((rArith .add .i64 x.1 (rGet zIIIIIIIIIIIII k.2.2.2.2.2.2.2.2.2.2.2.2.2.2.2.1 x.2.1).1),(rArith .add .i64 x.2.1 (1:Int)),())) else some (.inl (x.1,(rArith .add .i64 x.2.1 (1:Int)),())))) else some (.inl (x.1,(rArith .add .i64 x.2.1 (1:Int)),()))) else none) else some (.inr (.inl (x.1,()))))
noncomputable def impl_loadOf_l0 (k:Int×Int×Int×Int×Int×Int×Int×Int×Int×Int×Int×(List ((List (Int×Int))×(List (Int×Int))×(List (Int×(List (Int))×List (Int×Int×Int×Bool)))×Int×Int×Bool×Bool×Bool×Int×Int×List (Int×Int×Int×Int×Int×Int×Int)))×(List (Int×Int×Int×Int×Int×Int×Int×Int×Int×Int×Int×Int×Int))×(List (Int×Int×Int×Int×Int×Int×Bool))×(List (Int×Int×Int×Int×Int×Int×Int))×(List (Int×Int×Int×Int×Int×Int×Int×Int×Int×Int×Int×Int×Int))×Int×Unit) (x:Int×Int×Unit):Option (Int×Unit ⊕ Empty):=iter (impl_loadOf_b0 k) big x
noncomputable def impl_loadOf (a0:Int) (a1:Int) (a2:Int) (a3:Int) (a4:Int) (a5:Int) (a6:Int) (a7:Int) (a8:Int) (a9:Int) (a10:Int) (a11:(List ((List (Int×Int))×(List (Int×Int))×(List (Int×(List (Int))×List (Int×Int×Int×Bool)))×Int×Int×Bool×Bool×Bool×Int×Int×List (Int×Int×Int×Int×Int×Int×Int)))) (a12:(List (Int×Int×Int×Int×Int×Int×Int×Int×Int×Int×Int×Int×Int))) (a13:(List (Int×Int×Int×Int×Int×Int×Bool))) (a14:(List (Int×Int×Int×Int×Int×Int×Int))):Option (Int×Unit):=
 ((impl_loadOf_l0 (a0,a1,a2,a3,a4,a5,a6,a7,a8,a9,a10,a11,a12,a13,a14,a12,(rLen a12),()) ((0:Int),(0:Int),())).bind fun q0=>(Sum.elim (fun y1=>some (y1.1,())) (fun q2=>(Empty.elim q2)) q0))
noncomputable def impl_NetworkOk_b0 (k:Int×Int×Int×Int×Int×Int×Int×Int×Int×Int×Int×(List ((List (Int×Int))×(List (Int×Int))×(List (Int×(List (Int))×List (Int×Int×Int×Bool)))×Int×Int×Bool×Bool×Bool×Int×Int×List (Int×Int×Int×Int×Int×Int×Int)))×(List (Int×Int×Int×Int×Int×Int×Int×Int×Int×Int×Int×Int×Int))×(List (Int×Int×Int×Int×Int×Int×Bool))×(List (Int×Int×Int×Int×Int×Int×Int))×Int×Unit) (x:Int×Unit):Option ((Int×Unit) ⊕ (Bool×Unit ⊕ (Unit ⊕ Empty))):=
 (bif (rCmp .lss x.1 k.2.2.2.2.2.2.2.2.2.2.2.2.2.2.2.1) then ((impl_siteOk k.1 k.2.1 k.2.2.1 k.2.2.2.1 k.2.2.2.2.1 k.2.2.2.2.2.1 k.2.2.2.2.2.2.1 k.2.2.2.2.2.2.2.1 k.2.2.2.2.2.2.2.2.1 k.2.2.2.2.2.2.2.2.2.1 k.2.2.2.2.2.2.2.2.2.2.1 k.2.2.2.2.2.2.2.2.2.2.2.1 k.2.2.2.2.2.2.2.2.2.2.2.2.1 k.2.2.2.2.2.2.2.2.2.2.2.2.2.1 k.2.2.2.2.2.2.2.2.2.2.2.2.2.2.1 x.1).bind fun y0=>(bif (Bool.not y0.1) then some (.inr (.inl (false,()))) else some (.inl ((rArith .add .i64 x.1 (1:Int)),())))) else some (.inr (.inr (.inl (())))))
noncomputable def impl_NetworkOk_l0 (k:Int×Int×Int×Int×Int×Int×Int×Int×Int×Int×Int×(List ((List (Int×Int))×(List (Int×Int))×(List (Int×(List (Int))×List (Int×Int×Int×Bool)))×Int×Int×Bool×Bool×Bool×Int×Int×List (Int×Int×Int×Int×Int×Int×Int)))×(List (Int×Int×Int×Int×Int×Int×Int×Int×Int×Int×Int×Int×Int))×(List (Int×Int×Int×Int×Int×Int×Bool))×(List (Int×Int×Int×Int×Int×Int×Int))×Int×Unit) (x:Int×Unit):Option (Bool×Unit ⊕ (Unit ⊕ Empty)):=iter (impl_NetworkOk_b0 k) big x
noncomputable def impl_NetworkOk_b2 (k:Int×Int×Int×Int×Int×Int×Int×Int×Int×Int×Int×(List ((List (Int×Int))×(List (Int×Int))×(List (Int×(List (Int))×List (Int×Int×Int×Bool)))×Int×Int×Bool×Bool×Bool×Int×Int×List (Int×Int×Int×Int×Int×Int×Int)))×(List (Int×Int×Int×Int×Int×Int×Int×Int×Int×Int×Int×Int×Int))×(List (Int×Int×Int×Int×Int×Int×Bool))×(List (Int×Int×Int×Int×Int×Int×Int))×Int×Unit) (x:Int×Unit):Option ((Int×Unit) ⊕ (Bool×Unit ⊕ (Unit ⊕ Empty))):=
 (bif (rCmp .lss x.1 k.2.2.2.2.2.2.2.2.2.2.2.2.2.2.2.1) then ((impl_parcelOk k.1 k.2.1 k.2.2.1 k.2.2.2.1 k.2.2.2.2.1 k.2.2.2.2.2.1 k.2.2.2.2.2.2.1 k.2.2.2.2.2.2.2.1 k.2.2.2.2.2.2.2.2.1 k.2.2.2.2.2.2.2.2.2.1 k.2.2.2.2.2.2.2.2.2.2.1 k.2.2.2.2.2.2.2.2.2.2.2.1 k.2.2.2.2.2.2.2.2.2.2.2.2.1 k.2.2.2.2.2.2.2.2.2.2.2.2.2.1 k.2.2.2.2.2.2.2.2.2.2.2.2.2.2.1 x.1).bind fun y0=>(bif (Bool.not y0.1) then some (.inr (.inl (false,()))) else some (.inl ((rArith .add .i64 x.1 (1:Int)),())))) else some (.inr (.inr (.inl (())))))
noncomputable def impl_NetworkOk_l2 (k:Int×Int×Int×Int×Int×Int×Int×Int×Int×Int×Int×(List ((List (Int×Int))×(List (Int×Int))×(List (Int×(List (Int))×List (Int×Int×Int×Bool)))×Int×Int×Bool×Bool×Bool×Int×Int×List (Int×Int×Int×Int×Int×Int×Int)))×(List (Int×Int×Int×Int×Int×Int×Int×Int×Int×Int×Int×Int×Int))×(List (Int×Int×Int×Int×Int×Int×Bool))×(List (Int×Int×Int×Int×Int×Int×Int))×Int×Unit) (x:Int×Unit):Option (Bool×Unit ⊕ (Unit ⊕ Empty)):=iter (impl_NetworkOk_b2 k) big x
noncomputable def impl_NetworkOk (a0:Int) (a1:Int) (a2:Int) (a3:Int) (a4:Int) (a5:Int) (a6:Int) (a7:Int) (a8:Int) (a9:Int) (a10:Int) (a11:(List ((List (Int×Int))×(List (Int×Int))×(List (Int×(List (Int))×List (Int×Int×Int×Bool)))×Int×Int×Bool×Bool×Bool×Int×Int×List (Int×Int×Int×Int×Int×Int×Int)))) (a12:(List (Int×Int×Int×Int×Int×Int×Int×Int×Int×Int×Int×Int×Int))) (a13:(List (Int×Int×Int×Int×Int×Int×Bool))) (a14:(List (Int×Int×Int×Int×Int×Int×Int))):Option (Bool×Unit):=
 ((impl_TermsOk a0 a1 a2 a3 a4 a5 a6 a7).bind fun y0=>(bif (Bool.not y0.1) then some (false,()) else ((impl_within a8 (0:Int) (1000:Int)).bind fun y1=>(bif (Bool.not y1.1) then some (false,()) else ((impl_secretOk a9).bind fun y2=>(bif (Bool.not y2.1) then some (false,()) else ((impl_timeOk a10).bind fun y3=>(bif (Bool.not y3.1) then some (false,()) else ((impl_within (rLen a11) (1:Int) (3:Int)).bind fun y4=>(bif (Bool.not y4.1) then some (false,()) else (bif (rCmp .gtr (rLen a12) (12:Int)) then some (false,()) else ((impl_GrantsOk a13).bind fun y5=>(bif (Bool.not y5.1) then some (false,()) else ((impl_JournalOk a14).bind fun y6=>(bif (Bool.not y6.1) then some (false,()) else ((impl_NetworkOk_l0 (a0,a1,a2,a3,a4,a5,a6,a7,a8,a9,a10,a11,a12,a13,a14,(rLen a11),()) ((0:Int),())).bind fun q7=>(Sum.elim (fun y8=>some (y8.1,())) (fun q9=>(Sum.elim (fun y10=>((impl_NetworkOk_l2 (a0,a1,a2,a3,a4,a5,a6,a7,a8,a9,a10,a11,a12,a13,a14,(rLen a12),()) ((0:Int),())).bind fun q11=>(Sum.elim (fun y12=>some (y12.1,())) (fun q13=>(Sum.elim (fun y14=>((impl_boxesOk a0 a1 a2 a3 a4 a5 a6 a7 a8 a9 a10 a11 a12 a13 a14).bind fun y15=>(bif y15.1 then ((impl_loadOf a0 a1 a2 a3 a4 a5 a6 a7 a8 a9 a10 a11 a12 a13 a14).bind fun y16=>some ((rCmp .leq y16.1 a8),())) else some (false,())))) (fun q15=>(Empty.elim q15)) q13)) q11))) (fun q11=>(Empty.elim q11)) q9)) q7)))))))))))))))))
end Go.Fn
set_option linter.unusedVariables false
set_option linter.unusedSimpArgs false
namespace Go.Fn
open Go.R
theorem mget_put (m:List (Int×Bool)) (k k':Int) (v:Bool):rMget (rMput m k v) k'=bif k' == k then v else rMget m k':=by
 induction m with
 | nil=>simp only [rMput,rMget]
 | cons y r ih =>
  unfold rMput
  cases hb:k == y.1 with
  | true =>
   have hk:k=y.1:=by simpa using hb
   subst hk
   simp only [cond_true,rMget]
   cases k' == y.1 <;> rfl
  | false =>
   simp only [cond_false,rMget,ih]
   cases h1:k' == y.1 with
   | false=>rfl
   | true =>
    have:k'=y.1:=by simpa using h1
    subst this
    have:(y.1 == k)=false:=by
     rw [Bool.eq_false_iff] at hb ⊢
     intro e
     exact hb (by simpa using (beq_iff_eq.1 e).symm)
    rw [this]
    rfl
noncomputable def putAll (m:List (Int×Bool)) (l:List Int):List (Int×Bool):=l.foldl (fun m k=>rMput m k true) m
theorem mget_all (k:Int):∀ (l:List Int) (m:List (Int×Bool)),rMget (putAll m l) k=true↔rMget m k=true∨k∈l
 | [],m=>by simp [putAll]
 | x::l,m=>by
  have:=mget_all k l (rMput m x true)
  unfold putAll at this ⊢
  rw [List.foldl_cons,this,mget_put]
  cases hb:k == x with
  | true=>simp [beq_iff_eq.1 hb]
  | false =>
   have:k≠x:=by rintro rfl;simp at hb
   simp [this]
theorem putAll_snoc (m:List (Int×Bool)) (l:List Int) (x:Int):putAll m (l++[x])=rMput (putAll m l) x true:=by unfold putAll;rw [List.foldl_append];rfl
theorem take_snoc {α:Type} {l:List α} {n:Nat} (h:n < l.length) (z:α):l.take (n+1)=l.take n++[l.getD n z]:=by
 rw [List.take_add_one,List.getElem?_eq_getElem h,List.getD_eq_getElem?_getD,List.getElem?_eq_getElem h]
 rfl
theorem mem_take {α:Type} {l:List α} {n:Nat} {x z:α} (hn:n≤l.length):x∈l.take n↔∃ k,k < n∧l.getD k z=x:=by
 constructor
 ·intro h
  obtain ⟨k,hk,e⟩:=List.mem_iff_getElem.1 h
  rw [List.length_take] at hk
  rw [List.getElem_take] at e
  exact ⟨k,by omega,by rw [List.getD_eq_getElem?_getD,List.getElem?_eq_getElem (by omega)];exact e⟩
 ·rintro ⟨k,hk,e⟩
  rw [List.getD_eq_getElem?_getD,List.getElem?_eq_getElem (show k < l.length by omega)] at e
  rw [←e]
  have:(l.take n)[k]? = some l[k]:=by rw [List.getElem?_take_of_lt hk,List.getElem?_eq_getElem (by omega)]
  exact List.mem_of_getElem? this
noncomputable def bxAt (l:List Bx) (n:Nat):Bx:=l.getD n zIIIB
noncomputable def psum (l:List Bx) (n:Nat):Int:=(l.take n).foldl (fun a b=>rArith .add .i64 a b.2.1) 0
theorem psum_succ (l:List Bx) {n:Nat} (h:n < l.length):psum l (n+1)=rArith .add .i64 (psum l n) (bxAt l n).2.1:=by
 unfold psum bxAt
 rw [take_snoc h zIIIB,List.foldl_append]
 rfl
noncomputable def dupIn (l:List Bx) (n k:Nat):Bool:=Bool.not (rCmp .gtr (bxAt l n).2.2.1 0 && rCmp .eql (bxAt l k).2.2.1 (bxAt l n).2.2.1)
noncomputable def okS (l:List Bx) (n:Nat):Bool:=Bool.not (rCmp .neq (bxAt l n).1 (psum l n)) && inB (bxAt l n).2.1 1 24 && inB (bxAt l n).2.2.1 0 999 && allFrom (dupIn l n) 0 n && Bool.not (rCmp .gtr (psum l (n+1)) 24)
theorem specBoxes_eq (h:Int) (f:List Int) (l:List Bx) (hl:l.length≤1073741824):spec_l02Boxes h f l=some (allFrom (okS l) 0 l.length && (rCmp .gtr (rLen l) 0 && rCmp .eql (psum l l.length) h),()):=by
 unfold spec_l02Boxes
 have:spec_l02Boxes_l0 (h,f,l,()) (0,0,())=some (bif allFrom (okS l) 0 l.length then (Sum.inr (Sum.inl (psum l l.length,())):Bool×Unit ⊕ (Int×Unit ⊕ Empty)) else .inl (false,())):=by
  refine loop_all (fun n=>(psum l n,(n:Int),())) l.length (by omega) (okS l) _ _ (fun n hn=>?_) ?_
  ·have hin:spec_l02Boxes_l2 (h,f,l,psum l n,(n:Int),()) ((bxAt l n).1,(bxAt l n).2.1,(bxAt l n).2.2.1,(bxAt l n).2.2.2,0,())=some (bif allFrom (dupIn l n) 0 n then (Sum.inr (Sum.inl ((bxAt l n).1,(bxAt l n).2.1,(bxAt l n).2.2.1,(bxAt l n).2.2.2,())):Bool×Unit ⊕ (Int×Int×Int×Bool×Unit ⊕ Empty)) else .inl (false,())):=by
    refine loop_all (fun k=>((bxAt l n).1,(bxAt l n).2.1,(bxAt l n).2.2.1,(bxAt l n).2.2.2,(k:Int),())) n (by omega) (dupIn l n) _ _ (fun k hk=>?_) ?_
    ·unfold spec_l02Boxes_b2 dupIn
     have hk2:k < l.length:=by omega
     simp only [lss_nat,hk,decide_true,cond_true,inR_nat,hk2,get_nat,succ64 (n:=k) (by omega)]
     show (bif rCmp .gtr (bxAt l n).2.2.1 0 then (bif rCmp .eql (bxAt l k).2.2.1 (bxAt l n).2.2.1 then _ else _) else _)=_
     cases rCmp .gtr (bxAt l n).2.2.1 0 <;> cases rCmp .eql (bxAt l k).2.2.1 (bxAt l n).2.2.1 <;> rfl
    ·unfold spec_l02Boxes_b2
     simp only [lss_nat,Nat.lt_irrefl,decide_false,cond_false]
   unfold spec_l02Boxes_b0 okS
   simp only [lss_len,hn,decide_true,cond_true,inR_nat,get_nat,in_eq,Option.bind_some,succ64 (n:=n) (by omega),psum_succ l hn]
   show (bif rCmp .neq (bxAt l n).1 (psum l n) then _ else bif Bool.not (inB (bxAt l n).2.1 1 24) then _ else bif Bool.not (inB (bxAt l n).2.2.1 0 999) then _ else (spec_l02Boxes_l2 (h,f,l,psum l n,(n:Int),()) ((bxAt l n).1,(bxAt l n).2.1,(bxAt l n).2.2.1,(bxAt l n).2.2.2,0,())).bind _)=_
   rw [hin]
   cases rCmp .neq (bxAt l n).1 (psum l n) with
   | true=>rfl
   | false =>
    cases inB (bxAt l n).2.1 1 24 with
    | false=>rfl
    | true =>
     cases inB (bxAt l n).2.2.1 0 999 with
     | false=>rfl
     | true =>
      cases allFrom (dupIn l n) 0 n with
      | false=>rfl
      | true =>
       simp only [Bool.not_true,cond_false,cond_true,Option.bind_some,Sum.elim_inr,Sum.elim_inl,Bool.not_false,Bool.true_and]
       cases rCmp .gtr (rArith .add .i64 (psum l n) (bxAt l n).2.1) 24 <;> rfl
  ·unfold spec_l02Boxes_b0
   simp only [lss_len,Nat.lt_irrefl,decide_false,cond_false]
 rw [this]
 cases allFrom (okS l) 0 l.length with
 | false=>rfl
 | true =>
  simp only [cond_true,Option.bind_some,Sum.elim_inr,Sum.elim_inl,Bool.true_and]
  cases rCmp .gtr (rLen l) 0 <;> rfl
noncomputable def lows (l : List Bx) : List Int := l.map (·.1)
noncomputable def pars (l : List Bx) : List Int := l.map (·.2.2.1)
noncomputable def okI (h:Int) (l:List Bx) (n:Nat):Bool:=Bool.not (rCmp .neq (bxAt l n).1 (psum l n)) && inB (bxAt l n).2.1 1 (rArith .sub .i64 h (psum l n)) && inB (bxAt l n).2.2.1 0 999 && Bool.not (rCmp .gtr (bxAt l n).2.2.1 0 && rMget (putAll [] (pars (l.take n))) (bxAt l n).2.2.1)
theorem implBoxes_eq (h:Int) (f:List Int) (l:List Bx) (hl:l.length≤1073741824):impl_ColumnOk_l2 (h,f,l,l,rLen l,()) (0,[],[],0,())=some (bif allFrom (okI h l) 0 l.length then (Sum.inr (Sum.inl (psum l l.length,putAll [] (lows l),())):Bool×Unit ⊕ (Int×(List (Int×Bool))×Unit ⊕ Empty)) else .inl (false,())):=by
 have:=loop_all (body:=impl_ColumnOk_b2 (h,f,l,l,rLen l,())) (fun n=>(psum l n,putAll [] (lows (l.take n)),putAll [] (pars (l.take n)),(n:Int),())) l.length (by omega) (okI h l) (.inr (.inl (psum l l.length,putAll [] (lows l),()))) (.inl (false,())) (fun n hn=>?_) ?_
 ·exact this
 ·unfold impl_ColumnOk_b2 okI
  have e1:putAll [] (lows (l.take (n+1)))=rMput (putAll [] (lows (l.take n))) (bxAt l n).1 true:=by unfold lows bxAt;rw [take_snoc hn zIIIB,List.map_append];exact putAll_snoc _ _ _
  have e2:putAll [] (pars (l.take (n+1)))=rMput (putAll [] (pars (l.take n))) (bxAt l n).2.2.1 true:=by unfold pars bxAt;rw [take_snoc hn zIIIB,List.map_append];exact putAll_snoc _ _ _
  simp only [lss_len,hn,decide_true,cond_true,inR_nat,get_nat,within_eq,Option.bind_some,succ64 (n:=n) (by omega),psum_succ l hn,e1,e2]
  show (bif rCmp .neq (bxAt l n).1 (psum l n) then _ else bif Bool.not (inB (bxAt l n).2.1 1 (rArith .sub .i64 h (psum l n))) then _ else bif Bool.not (inB (bxAt l n).2.2.1 0 999) then _ else bif rCmp .gtr (bxAt l n).2.2.1 0 then (bif rMget (putAll [] (pars (l.take n))) (bxAt l n).2.2.1 then _ else _) else _)=_
  cases rCmp .neq (bxAt l n).1 (psum l n) with
  | true=>rfl
  | false =>
   cases inB (bxAt l n).2.1 1 (rArith .sub .i64 h (psum l n)) with
   | false=>rfl
   | true =>
    cases inB (bxAt l n).2.2.1 0 999 with
    | false=>rfl
    | true =>
     cases rCmp .gtr (bxAt l n).2.2.1 0 with
     | false=>rfl
     | true=>cases rMget (putAll [] (pars (l.take n))) (bxAt l n).2.2.1 <;> rfl
 ·unfold impl_ColumnOk_b2
  simp only [lss_len,Nat.lt_irrefl,decide_false,cond_false,List.take_length]
theorem neqF {a b:Int}:rCmp .neq a b=false↔a=b:=by simp [rCmp]
theorem gtrF {a b:Int}:rCmp .gtr a b=false↔a≤b:=by simp [rCmp]
theorem gtrT {a b:Int}:rCmp .gtr a b=true↔b < a:=by simp [rCmp]
theorem eqlT {a b:Int}:rCmp .eql a b=true↔a=b:=by simp [rCmp]
theorem par_mem {l:List Bx} {n:Nat} (hn:n≤l.length) (p:Int):rMget (putAll [] (pars (l.take n))) p=true↔∃ k,k < n∧(bxAt l k).2.2.1=p:=by
 rw [mget_all]
 simp only [rMget,Bool.false_eq_true,false_or,pars,List.mem_map]
 constructor
 ·rintro ⟨b,hb,e⟩
  obtain ⟨k,hk,rfl⟩:=(mem_take (z:=zIIIB) hn).1 hb
  exact ⟨k,hk,e⟩
 ·rintro ⟨k,hk,e⟩
  exact ⟨bxAt l k,(mem_take (z:=zIIIB) hn).2 ⟨k,hk,rfl⟩,e⟩
theorem dup_iff {l:List Bx} {n:Nat} (hn:n≤l.length):(Bool.not (rCmp .gtr (bxAt l n).2.2.1 0 && rMget (putAll [] (pars (l.take n))) (bxAt l n).2.2.1))=allFrom (dupIn l n) 0 n:=by
 rw [Bool.eq_iff_iff,allFrom_iff]
 simp only [dupIn,Bool.not_eq_true',Bool.and_eq_false_iff]
 cases h0:rCmp .gtr (bxAt l n).2.2.1 0 with
 | false=>exact ⟨fun _ _ _ _=>.inl rfl,fun _=>.inl rfl⟩
 | true =>
  constructor
  ·intro h m _ hm
   refine .inr ?_
   rcases h with h | h
   ·cases h
   ·cases he:rCmp .eql (bxAt l m).2.2.1 (bxAt l n).2.2.1 with
    | false=>rfl
    | true =>
     have:=(par_mem hn _).2 ⟨m,by omega,eqlT.1 he⟩
     rw [h] at this
     cases this
  ·intro h
   refine .inr ?_
   cases hm:rMget (putAll [] (pars (l.take n))) (bxAt l n).2.2.1 with
   | false=>rfl
   | true =>
    obtain ⟨k,hk,e⟩:=(par_mem hn _).1 hm
    rcases h k (Nat.zero_le _) (by omega) with h | h
    ·cases h
    ·rw [eqlT.2 e] at h;cases h
theorem boxes_iff {h:Int} (h1:1≤h) (h2:h≤24) (l:List Bx) (hl:l.length≤1073741824):(allFrom (okS l) 0 l.length=true∧psum l l.length=h)↔(allFrom (okI h l) 0 l.length=true∧psum l l.length=h):=by
 have mono:∀ (hs:∀ n,n < l.length→0≤psum l n∧psum l n≤psum l (n+1)) (m n:Nat),m≤n→n≤l.length→psum l m≤psum l n:=by
  intro hs m n hmn hn
  induction n with
  | zero=>rw [show m=0 by omega];exact Int.le_refl _
  | succ n ih =>
   rcases Nat.lt_or_ge m (n+1) with h | h
   ·exact Int.le_trans (ih (by omega) (by omega)) (hs n (by omega)).2
   ·rw [show m=n+1 by omega];exact Int.le_refl _
 have p0:psum l 0=0:=rfl
 constructor
 ·rintro ⟨ha,he⟩
  rw [allFrom_iff] at ha
  simp only [okS,Bool.and_eq_true,Bool.not_eq_true',neqF,gtrF,inB_iff] at ha
  have hp:∀ n,n≤l.length→0≤psum l n∧psum l n≤24:=by
   intro n
   induction n with
   | zero=>intro _;rw [p0];omega
   | succ n ih =>
    intro hn
    obtain ⟨⟨⟨⟨_,c2⟩,_⟩,_⟩,c5⟩:=ha n (Nat.zero_le _) (by omega)
    have:=ih (by omega)
    refine ⟨?_,c5⟩
    rw [psum_succ l (by omega),add64 (by omega) (by omega)]
    omega
  have hs:∀ n,n < l.length→0≤psum l n∧psum l n≤psum l (n+1):=fun n hn=>by
   obtain ⟨⟨⟨⟨_,c2⟩,_⟩,_⟩,c5⟩:=ha n (Nat.zero_le _) (by omega)
   have:=hp n (by omega)
   refine ⟨this.1,?_⟩
   rw [psum_succ l hn,add64 (by omega) (by omega)]
   omega
  refine ⟨?_,he⟩
  rw [allFrom_iff]
  intro n _ hn
  obtain ⟨⟨⟨⟨c1,c2⟩,c3⟩,c4⟩,c5⟩:=ha n (Nat.zero_le _) (by omega)
  unfold okI
  rw [dup_iff (by omega),c4]
  have:=hp n (by omega)
  have hm:=mono hs (n+1) l.length (by omega) (Nat.le_refl _)
  rw [he,psum_succ l (by omega),add64 (by omega) (by omega)] at hm
  rw [sub64 (by omega) (by omega)]
  simp only [Bool.and_eq_true,Bool.not_eq_true',neqF,inB_iff]
  exact ⟨⟨⟨c1,by omega,by omega⟩,c3⟩,trivial⟩
 ·rintro ⟨ha,he⟩
  rw [allFrom_iff] at ha
  have hp:∀ n,n≤l.length→0≤psum l n∧psum l n≤h:=by
   intro n
   induction n with
   | zero=>intro _;rw [p0];omega
   | succ n ih =>
    intro hn
    have hi:=ih (by omega)
    have:=ha n (Nat.zero_le _) (by omega)
    unfold okI at this
    rw [sub64 (by omega) (by omega)] at this
    simp only [Bool.and_eq_true,Bool.not_eq_true',neqF,inB_iff] at this
    obtain ⟨⟨⟨_,c2⟩,_⟩,_⟩:=this
    rw [psum_succ l (by omega),add64 (by omega) (by omega)]
    omega
  refine ⟨?_,he⟩
  rw [allFrom_iff]
  intro n _ hn
  have hi:=hp n (by omega)
  have hj:=hp (n+1) (by omega)
  have:=ha n (Nat.zero_le _) hn
  unfold okI at this
  rw [dup_iff (by omega),sub64 (by omega) (by omega)] at this
  simp only [Bool.and_eq_true,Bool.not_eq_true',neqF,inB_iff] at this
  obtain ⟨⟨⟨c1,c2⟩,c3⟩,c4⟩:=this
  unfold okS
  simp only [Bool.and_eq_true,Bool.not_eq_true',neqF,gtrF,inB_iff]
  exact ⟨⟨⟨⟨c1,by omega,by omega⟩,c3⟩,c4⟩,by omega⟩
noncomputable def fixAt (h:Int) (f:List Int):Nat→Bool
 | 0=>inB (f.getD 0 zI) 1 (rArith .sub .i64 h 1)
 | n+1=>inB (f.getD (n+1) zI) 1 (rArith .sub .i64 h 1) && Bool.not (rCmp .leq (f.getD (n+1) zI) (f.getD n zI))
noncomputable def foundAt (f:List Int) (l:List Bx) (n:Nat):Bool:=l.any fun b=>rCmp .eql b.1 (f.getD n zI)
theorem specFound_eq (h:Int) (f:List Int) (l:List Bx) (n:Nat) (hn:n < f.length) (hl:l.length≤1073741824):spec_ColumnOk_l2 (h,f,l,(n:Int),()) (false,0,())=some (.inl (foundAt f l n,())):=by
 have:=loop_end (body:=spec_ColumnOk_b2 (h,f,l,(n:Int),())) (fun k=>((l.take k).any fun b=>rCmp .eql b.1 (f.getD n zI),(k:Int),())) l.length (by omega) (.inl (foundAt f l n,())) (fun k hk=>?_) ?_
 ·exact this
 ·unfold spec_ColumnOk_b2
  rw [take_snoc hk zIIIB,List.any_append]
  simp only [lss_len,hk,hn,decide_true,cond_true,inR_nat,get_nat,succ64 (n:=k) (by omega)]
  cases (l.take k).any fun b=>rCmp .eql b.1 (f.getD n zI) with
  | true=>rfl
  | false=>simp [List.any]
 ·unfold spec_ColumnOk_b2 foundAt
  simp only [lss_len,Nat.lt_irrefl,decide_false,cond_false,List.take_length]
theorem pred1 {n:Nat} (h:n < 1099511627776):rArith .sub .i64 ((n+1:Nat):Int) 1=(n:Int):=pred64 h
theorem gt1 (n:Nat):rCmp .gtr ((n+1:Nat):Int) 0=true:=by simp only [rCmp,gt_iff_lt,decide_eq_true_eq];omega
noncomputable def colS (h:Int) (f:List Int) (l:List Bx):Bool:=inB h 1 24 && ((allFrom (okS l) 0 l.length && (rCmp .gtr (rLen l) 0 && rCmp .eql (psum l l.length) h)) && allFrom (fun n=>fixAt h f n && foundAt f l n) 0 f.length)
theorem specColumn_eq (h:Int) (f:List Int) (l:List Bx) (hf:f.length≤1073741824) (hl:l.length≤1073741824):spec_ColumnOk h f l=some (colS h f l,()):=by
 unfold spec_ColumnOk colS
 rw [in_eq,specBoxes_eq h f l hl]
 simp only [Option.bind_some]
 have:spec_ColumnOk_l0 (h,f,l,()) (0,())=some (bif allFrom (fun n=>fixAt h f n && foundAt f l n) 0 f.length then (Sum.inr (Sum.inl ()):Bool×Unit ⊕ (Unit ⊕ Empty)) else .inl (false,())):=by
  refine loop_all (fun n=>((n:Int),())) f.length (by omega) (fun n=>fixAt h f n && foundAt f l n) _ _ (fun n hn=>?_) ?_
  ·unfold spec_ColumnOk_b0
   simp only [lss_len,hn,decide_true,cond_true,inR_nat,get_nat,in_eq,Option.bind_some,succ64 (n:=n) (by omega),specFound_eq h f l n hn hl,Sum.elim_inl]
   cases n with
   | zero =>
    unfold fixAt
    rw [show rCmp .gtr ((0:Nat):Int) 0=false from rfl]
    cases inB (f.getD 0 zI) 1 (rArith .sub .i64 h 1) <;> cases foundAt f l 0 <;> rfl
   | succ m =>
    have hm:m < f.length:=by omega
    unfold fixAt
    rw [gt1,pred1 (by omega)]
    simp only [inR_nat,get_nat,hm,decide_true,cond_true]
    cases inB (f.getD (m+1) zI) 1 (rArith .sub .i64 h 1) <;> cases rCmp .leq (f.getD (m+1) zI) (f.getD m zI) <;> cases foundAt f l (m+1) <;> rfl
  ·unfold spec_ColumnOk_b0
   simp only [lss_len,Nat.lt_irrefl,decide_false,cond_false]
 rw [this]
 cases inB h 1 24 with
 | false=>rfl
 | true =>
  simp only [Bool.not_true,cond_false,Bool.true_and]
  cases (allFrom (okS l) 0 l.length && (rCmp .gtr (rLen l) 0 && rCmp .eql (psum l l.length) h)) with
  | false=>rfl
  | true =>
   simp only [Bool.not_true,cond_false,Bool.true_and]
   cases allFrom (fun n=>fixAt h f n && foundAt f l n) 0 f.length <;> rfl
noncomputable def colI (h:Int) (f:List Int) (l:List Bx):Bool:=inB h 1 24 && (Bool.not (rCmp .eql (rLen l) 0) && (allFrom (fixAt h f) 0 f.length && (allFrom (okI h l) 0 l.length && (allFrom (fun n=>rMget (putAll [] (lows l)) (f.getD n zI)) 0 f.length && rCmp .eql (psum l l.length) h))))
theorem implColumn_eq (h:Int) (f:List Int) (l:List Bx) (hf:f.length≤1073741824) (hl:l.length≤1073741824):impl_ColumnOk h f l=some (colI h f l,()):=by
 unfold impl_ColumnOk colI
 rw [within_eq]
 simp only [Option.bind_some]
 have h0:impl_ColumnOk_l0 (h,f,l,f,rLen f,()) (0,())=some (bif allFrom (fixAt h f) 0 f.length then (Sum.inr (Sum.inl ()):Bool×Unit ⊕ (Unit ⊕ Empty)) else .inl (false,())):=by
  refine loop_all (fun n=>((n:Int),())) f.length (by omega) (fixAt h f) _ _ (fun n hn=>?_) ?_
  ·unfold impl_ColumnOk_b0
   simp only [lss_len,hn,decide_true,cond_true,inR_nat,get_nat,within_eq,Option.bind_some,succ64 (n:=n) (by omega)]
   cases n with
   | zero =>
    unfold fixAt
    rw [show rCmp .gtr ((0:Nat):Int) 0=false from rfl]
    cases inB (f.getD 0 zI) 1 (rArith .sub .i64 h 1) <;> rfl
   | succ m =>
    have hm:m < f.length:=by omega
    unfold fixAt
    rw [gt1,pred1 (by omega)]
    simp only [inR_nat,get_nat,hm,decide_true,cond_true]
    cases inB (f.getD (m+1) zI) 1 (rArith .sub .i64 h 1) <;> cases rCmp .leq (f.getD (m+1) zI) (f.getD m zI) <;> rfl
  ·unfold impl_ColumnOk_b0
   simp only [lss_len,Nat.lt_irrefl,decide_false,cond_false]
 have h4:impl_ColumnOk_l4 (h,f,l,psum l l.length,f,rLen f,()) (putAll [] (lows l),0,())=some (bif allFrom (fun n=>rMget (putAll [] (lows l)) (f.getD n zI)) 0 f.length then (Sum.inr (Sum.inl ()):Bool×Unit ⊕ (Unit ⊕ Empty)) else .inl (false,())):=by
  refine loop_all (fun n=>(putAll [] (lows l),(n:Int),())) f.length (by omega) _ _ _ (fun n hn=>?_) ?_
  ·unfold impl_ColumnOk_b4
   simp only [lss_len,hn,decide_true,cond_true,inR_nat,get_nat,succ64 (n:=n) (by omega)]
   cases rMget (putAll [] (lows l)) (f.getD n zI) <;> rfl
  ·unfold impl_ColumnOk_b4
   simp only [lss_len,Nat.lt_irrefl,decide_false,cond_false]
 rw [h0,implBoxes_eq h f l hl]
 cases inB h 1 24 with
 | false=>rfl
 | true =>
  simp only [Bool.not_true,cond_false,Bool.true_and]
  cases rCmp .eql (rLen l) 0 with
  | true=>rfl
  | false =>
   simp only [cond_false,Bool.not_false,Bool.true_and]
   cases allFrom (fixAt h f) 0 f.length with
   | false=>rfl
   | true =>
    simp only [cond_true,Option.bind_some,Sum.elim_inr,Sum.elim_inl,Bool.true_and]
    cases allFrom (okI h l) 0 l.length with
    | false=>rfl
    | true =>
     simp only [cond_true,Option.bind_some,Sum.elim_inr,Sum.elim_inl,Bool.true_and,h4]
     cases allFrom (fun n=>rMget (putAll [] (lows l)) (f.getD n zI)) 0 f.length <;> rfl
theorem found_eq (f:List Int) (l:List Bx) (n:Nat):rMget (putAll [] (lows l)) (f.getD n zI)=foundAt f l n:=by
 rw [Bool.eq_iff_iff,mget_all]
 simp only [rMget,Bool.false_eq_true,false_or,lows,foundAt,List.mem_map,List.any_eq_true,eqlT]
theorem col_eq (h:Int) (f:List Int) (l:List Bx) (hl:l.length≤1073741824):colS h f l=colI h f l:=by
 unfold colS colI
 cases h1:inB h 1 24 with
 | false=>rfl
 | true =>
  obtain ⟨q1,q2⟩:=inB_iff.1 h1
  have hb:=boxes_iff q1 q2 l hl
  have hne:Bool.not (rCmp .eql (rLen l) 0)=rCmp .gtr (rLen l) 0:=by
   cases hq:rCmp .gtr (rLen l) 0 with
   | true =>
    have:rCmp .eql (rLen l) 0=false:=by rw [Bool.eq_false_iff,ne_eq,eqlT];have:=gtrT.1 hq;omega
    rw [this];rfl
   | false =>
    have:rCmp .eql (rLen l) 0=true:=by rw [eqlT];have:=gtrF.1 hq;unfold rLen at this ⊢;omega
    rw [this];rfl
  rw [hne]
  have hfn:(fun n=>rMget (putAll [] (lows l)) (f.getD n zI))=foundAt f l:=funext fun n=>found_eq f l n
  rw [hfn,Bool.eq_iff_iff]
  simp only [Bool.and_eq_true,eqlT,allFrom_iff,Bool.true_and]
  simp only [allFrom_iff] at hb
  constructor
  ·rintro ⟨⟨c1,c2,c3⟩,c4⟩
   obtain ⟨d1,_⟩:=hb.1 ⟨c1,c3⟩
   exact ⟨c2,fun m x y=>(c4 m x y).1,d1,fun m x y=>(c4 m x y).2,c3⟩
  ·rintro ⟨c2,c4,c1,c5,c3⟩
   obtain ⟨d1,_⟩:=hb.2 ⟨c1,c3⟩
   exact ⟨⟨d1,c2,c3⟩,fun m x y=>⟨c4 m x y,c5 m x y⟩⟩
noncomputable def colAt (L:List Col) (i:Nat):Col:=L.getD i zILIlLIIIBl
noncomputable def hasP (l:List Bx) (p:Int):Bool:=l.any fun b=>rCmp .eql b.2.2.1 p
theorem box_eq (h:Int) (f:List Int) (l:List Bx) (p:Int) (hl:l.length≤1073741824):∃ r,spec_l02Box h f l p=some (r,())∧rCmp .geq r 0=(rCmp .gtr p 0 && hasP l p):=by
 unfold spec_l02Box
 obtain ⟨y,h1,h2⟩:=loop_find (body:=spec_l02Box_b0 (p,h,f,l,())) (fun n=>((n:Int),())) l.length (by omega) (fun n=>Bool.not (rCmp .eql (l.getD n zIIIB).2.2.1 p && rCmp .gtr p 0)) (Sum.inr (Sum.inl ())) (fun n=>Sum.inl ((n:Int),())) (fun n hn=>by
  unfold spec_l02Box_b0
  simp only [lss_len,inR_nat,hn,decide_true,cond_true,get_nat,succ64 (n:=n) (by omega)]
  cases rCmp .eql (l.getD n zIIIB).2.2.1 p <;> cases rCmp .gtr p 0 <;> rfl) (by
  unfold spec_l02Box_b0
  simp only [lss_len,Nat.lt_irrefl,decide_false,cond_false])
 have h1':spec_l02Box_l0 (p,h,f,l,()) ((0:Int),())=some y:=h1
 rw [h1']
 rcases h2 with ⟨e1,rfl⟩ | ⟨e1,n,hn,rfl,e3⟩
 ·refine ⟨-1,rfl,?_⟩
  rw [allFrom_iff] at e1
  show false=_
  symm
  rw [Bool.and_eq_false_iff]
  cases hp:rCmp .gtr p 0 with
  | false=>exact .inl rfl
  | true =>
   refine .inr ?_
   rw [Bool.eq_false_iff]
   intro hh
   obtain ⟨b,hb,he⟩:=List.any_eq_true.1 hh
   obtain ⟨n,hn,rfl⟩:=List.mem_iff_getElem.1 hb
   have:=e1 n (Nat.zero_le _) (by omega)
   rw [List.getD_eq_getElem?_getD,List.getElem?_eq_getElem hn,Option.getD_some,he,hp] at this
   cases this
 ·refine ⟨(n:Int),rfl,?_⟩
  have h0:rCmp .geq (n:Int) 0=true:=by simp [rCmp]
  rw [h0]
  symm
  have e3:(rCmp .eql (l.getD n zIIIB).2.2.1 p && rCmp .gtr p 0)=true:=by
   cases hq:(rCmp .eql (l.getD n zIIIB).2.2.1 p && rCmp .gtr p 0) with
   | true=>rfl
   | false=>rw [hq] at e3;first | cases e3 | (simp at e3)
  rw [Bool.and_eq_true] at e3 ⊢
  exact ⟨e3.2,List.any_eq_true.2 ⟨_,getD_mem hn zIIIB,e3.1⟩⟩
noncomputable def crossAt (L:List Col) (i k n:Nat):Bool:=Bool.not (rCmp .gtr (bxAt (colAt L i).2.2 n).2.2.1 0 && hasP (colAt L k).2.2 (bxAt (colAt L i).2.2 n).2.2.1)
noncomputable def bankAtS (L:List Col) (i:Nat):Bool:=colS (colAt L i).1 (colAt L i).2.1 (colAt L i).2.2 && allFrom (fun k=>allFrom (crossAt L i k) 0 (colAt L i).2.2.length) 0 i
noncomputable def bankS (L:List Col):Bool:=inB (rLen L) 1 6 && allFrom (bankAtS L) 0 L.length
noncomputable def BankWf (L:List Col):Prop:=L.length≤1073741824∧∀ c,c∈L→c.2.1.length≤1073741824∧c.2.2.length≤1073741824
theorem BankWf.at {L:List Col} (h:BankWf L) {i:Nat} (hi:i < L.length):(colAt L i).2.1.length≤1073741824∧(colAt L i).2.2.length≤1073741824:=h.2 _ (getD_mem hi _)
theorem specBank_eq (L:List Col) (hw:BankWf L):spec_BankOk L=some (bankS L,()):=by
 have hL:=hw.1
 unfold spec_BankOk bankS
 rw [in_eq]
 simp only [Option.bind_some]
 have h4:∀ i k,i < L.length→k < i→spec_BankOk_l4 (L,(i:Int),(k:Int),()) (0,())=some (bif allFrom (crossAt L i k) 0 (colAt L i).2.2.length then (Sum.inr (Sum.inl ()):Bool×Unit ⊕ (Unit ⊕ Empty)) else .inl (false,())):=by
  intro i k hi hk
  have hki:k < L.length:=by omega
  have hbi:=(hw.at hi).2
  refine loop_all (fun n=>((n:Int),())) (colAt L i).2.2.length (by omega) _ _ _ (fun n hn=>?_) ?_
  ·unfold spec_BankOk_b4
   obtain ⟨r,e1,e2⟩:=box_eq (colAt L k).1 (colAt L k).2.1 (colAt L k).2.2 (bxAt (colAt L i).2.2 n).2.2.1 (hw.at hki).2
   have e1':spec_l02Box (L.getD k zILIlLIIIBl).1 (L.getD k zILIlLIIIBl).2.1 (L.getD k zILIlLIIIBl).2.2 ((L.getD i zILIlLIIIBl).2.2.getD n zIIIB).2.2.1=some (r,()):=e1
   have hn':n < (L.getD i zILIlLIIIBl).2.2.length:=hn
   simp only [inR_nat,hi,hki,decide_true,cond_true,get_nat,lss_len,hn',e1',Option.bind_some,e2,succ64 (n:=n) (by omega)]
   unfold crossAt
   cases (rCmp .gtr (bxAt (colAt L i).2.2 n).2.2.1 0 && hasP (colAt L k).2.2 (bxAt (colAt L i).2.2 n).2.2.1) <;> rfl
  ·unfold spec_BankOk_b4
   have : ¬ ((colAt L i).2.2.length < (L.getD i zILIlLIIIBl).2.2.length):=Nat.lt_irrefl _
   simp only [inR_nat,hi,decide_true,cond_true,get_nat,lss_len,this,decide_false,cond_false]
 have h2:∀ i,i < L.length→spec_BankOk_l2 (L,(i:Int),()) (0,())=some (bif allFrom (fun k=>allFrom (crossAt L i k) 0 (colAt L i).2.2.length) 0 i then (Sum.inr (Sum.inl ()):Bool×Unit ⊕ (Unit ⊕ Empty)) else .inl (false,())):=by
  intro i hi
  refine loop_all (fun n=>((n:Int),())) i (by omega) _ _ _ (fun k hk=>?_) ?_
  ·unfold spec_BankOk_b2
   simp only [lss_nat,hk,decide_true,cond_true,h4 i k hi hk,Option.bind_some,succ64 (n:=k) (by omega)]
   cases allFrom (crossAt L i k) 0 (colAt L i).2.2.length <;> rfl
  ·unfold spec_BankOk_b2
   simp only [lss_nat,Nat.lt_irrefl,decide_false,cond_false]
 have h0:spec_BankOk_l0 (L,()) (0,())=some (bif allFrom (bankAtS L) 0 L.length then (Sum.inr (Sum.inl ()):Bool×Unit ⊕ (Unit ⊕ Empty)) else .inl (false,())):=by
  refine loop_all (fun n=>((n:Int),())) L.length (by omega) _ _ _ (fun i hi=>?_) ?_
  ·unfold spec_BankOk_b0 bankAtS
   have hc:spec_ColumnOk (L.getD i zILIlLIIIBl).1 (L.getD i zILIlLIIIBl).2.1 (L.getD i zILIlLIIIBl).2.2=some (colS (colAt L i).1 (colAt L i).2.1 (colAt L i).2.2,()):=specColumn_eq _ _ _ (hw.at hi).1 (hw.at hi).2
   simp only [lss_len,inR_nat,hi,decide_true,cond_true,get_nat,hc,Option.bind_some,h2 i hi,succ64 (n:=i) (by omega)]
   cases colS (colAt L i).1 (colAt L i).2.1 (colAt L i).2.2 with
   | false=>rfl
   | true=>cases allFrom (fun k=>allFrom (crossAt L i k) 0 (colAt L i).2.2.length) 0 i <;> rfl
  ·unfold spec_BankOk_b0
   simp only [lss_len,Nat.lt_irrefl,decide_false,cond_false]
 rw [h0]
 cases inB (rLen L) 1 6 with
 | false=>rfl
 | true=>cases allFrom (bankAtS L) 0 L.length <;> rfl
noncomputable def parsTo (L:List Col) (i:Nat):List Int:=((L.take i).map fun c=>pars c.2.2).flatten
theorem parsTo_succ {L:List Col} {i:Nat} (h:i < L.length):parsTo L (i+1)=parsTo L i++pars (colAt L i).2.2:=by
 unfold parsTo colAt
 rw [take_snoc h zILIlLIIIBl,List.map_append,List.flatten_append]
 simp
theorem putAll_app (m:List (Int×Bool)) (a b:List Int):putAll m (a++b)=putAll (putAll m a) b:=List.foldl_append
noncomputable def ownAt (L:List Col) (i n:Nat):Bool:=Bool.not (rCmp .gtr (bxAt (colAt L i).2.2 n).2.2.1 0 && rMget (putAll (putAll [] (parsTo L i)) (pars ((colAt L i).2.2.take n))) (bxAt (colAt L i).2.2 n).2.2.1)
noncomputable def bankAtI (L:List Col) (i:Nat):Bool:=colI (colAt L i).1 (colAt L i).2.1 (colAt L i).2.2 && allFrom (ownAt L i) 0 (colAt L i).2.2.length
theorem implBank_eq' (L:List Col) (hw:BankWf L):impl_BankOk L=some (inB (rLen L) 1 6 && allFrom (bankAtI L) 0 L.length,()):=by
 have hL:=hw.1
 unfold impl_BankOk
 rw [within_eq]
 simp only [Option.bind_some]
 have h2:∀ i,i < L.length→impl_BankOk_l2 (L,rLen L,(i:Int),(colAt L i).2.2,rLen (colAt L i).2.2,()) (putAll [] (parsTo L i),0,())=some (bif allFrom (ownAt L i) 0 (colAt L i).2.2.length then (Sum.inr (Sum.inl (putAll [] (parsTo L (i+1)),())):Bool×Unit ⊕ ((List (Int×Bool))×Unit ⊕ Empty)) else .inl (false,())):=by
  intro i hi
  have hb:=(hw.at hi).2
  have:=loop_all (body:=impl_BankOk_b2 (L,rLen L,(i:Int),(colAt L i).2.2,rLen (colAt L i).2.2,())) (fun n=>(putAll (putAll [] (parsTo L i)) (pars ((colAt L i).2.2.take n)),(n:Int),())) (colAt L i).2.2.length (by omega) (ownAt L i) (Sum.inr (Sum.inl (putAll [] (parsTo L (i+1)),()))) (Sum.inl (false,())) (fun n hn=>?_) ?_
  ·exact this
  ·unfold impl_BankOk_b2 ownAt
   have e2:putAll (putAll [] (parsTo L i)) (pars ((colAt L i).2.2.take (n+1)))=rMput (putAll (putAll [] (parsTo L i)) (pars ((colAt L i).2.2.take n))) (bxAt (colAt L i).2.2 n).2.2.1 true:=by unfold pars bxAt;rw [take_snoc hn zIIIB,List.map_append];exact putAll_snoc _ _ _
   simp only [lss_len,inR_nat,hn,decide_true,cond_true,get_nat,succ64 (n:=n) (by omega),e2]
   show (bif rCmp .gtr (bxAt (colAt L i).2.2 n).2.2.1 0 then (bif rMget (putAll (putAll [] (parsTo L i)) (pars ((colAt L i).2.2.take n))) (bxAt (colAt L i).2.2 n).2.2.1 then _ else _) else _)=_
   cases rCmp .gtr (bxAt (colAt L i).2.2 n).2.2.1 0 with
   | false=>rfl
   | true=>cases rMget (putAll (putAll [] (parsTo L i)) (pars ((colAt L i).2.2.take n))) (bxAt (colAt L i).2.2 n).2.2.1 <;> rfl
  ·unfold impl_BankOk_b2
   simp only [lss_len,Nat.lt_irrefl,decide_false,cond_false,List.take_length,parsTo_succ hi,putAll_app]
 have h0:impl_BankOk_l0 (L,rLen L,()) ([],0,())=some (bif allFrom (bankAtI L) 0 L.length then (Sum.inr (Sum.inl ()):Bool×Unit ⊕ (Unit ⊕ Empty)) else .inl (false,())):=by
  refine loop_all (fun n=>(putAll [] (parsTo L n),(n:Int),())) L.length (by omega) _ _ _ (fun i hi=>?_) ?_
  ·unfold impl_BankOk_b0 bankAtI
   have hc:impl_ColumnOk (L.getD i zILIlLIIIBl).1 (L.getD i zILIlLIIIBl).2.1 (L.getD i zILIlLIIIBl).2.2=some (colI (colAt L i).1 (colAt L i).2.1 (colAt L i).2.2,()):=implColumn_eq _ _ _ (hw.at hi).1 (hw.at hi).2
   have h2':=h2 i hi
   unfold colAt at h2'
   simp only [lss_len,inR_nat,hi,decide_true,cond_true,get_nat,hc,Option.bind_some,h2',succ64 (n:=i) (by omega)]
   cases colI (colAt L i).1 (colAt L i).2.1 (colAt L i).2.2 with
   | false=>rfl
   | true =>
    show (bif Bool.not true then _ else (some (bif allFrom (ownAt L i) 0 (colAt L i).2.2.length then _ else _)).bind _)=_
    cases allFrom (ownAt L i) 0 (colAt L i).2.2.length <;> rfl
  ·unfold impl_BankOk_b0
   simp only [lss_len,Nat.lt_irrefl,decide_false,cond_false]
 rw [h0]
 cases inB (rLen L) 1 6 with
 | false=>rfl
 | true=>cases allFrom (bankAtI L) 0 L.length <;> rfl
theorem hasP_iff {l:List Bx} {p:Int}:hasP l p=true↔p∈pars l:=by
 simp only [hasP,pars,List.any_eq_true,List.mem_map,eqlT]
theorem parsTo_mem {L:List Col} {i:Nat} (hi:i≤L.length) (p:Int):p∈parsTo L i↔∃ k,k < i∧p∈pars (colAt L k).2.2:=by
 unfold parsTo
 simp only [List.mem_flatten,List.mem_map]
 constructor
 ·rintro ⟨l,⟨c,hc,rfl⟩,hp⟩
  obtain ⟨k,hk,rfl⟩:=(mem_take (z:=zILIlLIIIBl) hi).1 hc
  exact ⟨k,hk,hp⟩
 ·rintro ⟨k,hk,hp⟩
  exact ⟨_,⟨colAt L k,(mem_take (z:=zILIlLIIIBl) hi).2 ⟨k,hk,rfl⟩,rfl⟩,hp⟩
theorem bankAt_eq (L:List Col) (hw:BankWf L) {i:Nat} (hi:i < L.length):bankAtS L i=bankAtI L i:=by
 unfold bankAtS bankAtI
 rw [col_eq _ _ _ (hw.at hi).2]
 cases hc:colI (colAt L i).1 (colAt L i).2.1 (colAt L i).2.2 with
 | false=>rfl
 | true =>
  simp only [Bool.true_and]
  have hdup:∀ n,n < (colAt L i).2.2.length→allFrom (dupIn (colAt L i).2.2 n) 0 n=true:=by
   rw [←col_eq _ _ _ (hw.at hi).2] at hc
   unfold colS at hc
   simp only [Bool.and_eq_true] at hc
   intro n hn
   have:=(allFrom_iff _ _).1 hc.2.1.1 n (Nat.zero_le _) (by omega)
   unfold okS at this
   simp only [Bool.and_eq_true] at this
   exact this.1.2
  rw [Bool.eq_iff_iff,allFrom_iff,allFrom_iff]
  constructor
  ·intro h n _ hn
   unfold ownAt
   rw [Bool.not_eq_true',Bool.and_eq_false_iff]
   cases hg:rCmp .gtr (bxAt (colAt L i).2.2 n).2.2.1 0 with
   | false=>exact .inl rfl
   | true =>
    refine .inr ?_
    cases hm:rMget (putAll (putAll [] (parsTo L i)) (pars ((colAt L i).2.2.take n))) (bxAt (colAt L i).2.2 n).2.2.1 with
    | false=>rfl
    | true =>
     exfalso
     rcases (mget_all _ _ _).1 hm with hm | hm
     ·have:=(mget_all _ _ _).1 hm
      simp only [rMget,Bool.false_eq_true,false_or] at this
      obtain ⟨k,hk,hp⟩:=(parsTo_mem (by omega) _).1 this
      have:=h k (Nat.zero_le _) (by omega)
      have:=(allFrom_iff _ _).1 this n (Nat.zero_le _) hn
      unfold crossAt at this
      rw [hg,hasP_iff.2 hp] at this
      cases this
     ·have hd:=hdup n (by omega)
      rw [←dup_iff (by omega),hg] at hd
      have:rMget (putAll [] (pars ((colAt L i).2.2.take n))) (bxAt (colAt L i).2.2 n).2.2.1=true:=(mget_all _ _ _).2 (.inr hm)
      rw [this] at hd
      cases hd
  ·intro h k _ hk
   rw [allFrom_iff]
   intro n _ hn
   have:=h n (Nat.zero_le _) hn
   unfold ownAt at this
   unfold crossAt
   rw [Bool.not_eq_true',Bool.and_eq_false_iff] at this ⊢
   rcases this with h1 | h1
   ·exact .inl h1
   ·refine .inr ?_
    cases hp:hasP (colAt L k).2.2 (bxAt (colAt L i).2.2 n).2.2.1 with
    | false=>rfl
    | true =>
     have:rMget (putAll (putAll [] (parsTo L i)) (pars ((colAt L i).2.2.take n))) (bxAt (colAt L i).2.2 n).2.2.1=true:=(mget_all _ _ _).2 (.inl ((mget_all _ _ _).2 (.inr ((parsTo_mem (by omega) _).2 ⟨k,by omega,hasP_iff.1 hp⟩))))
     rw [this] at h1
     cases h1
theorem implBank_eq (L:List Col) (hw:BankWf L):impl_BankOk L=some (bankS L,()):=by
 rw [implBank_eq' L hw]
 unfold bankS
 rw [allFrom_congr L.length 0 fun m _ hm=>bankAt_eq L hw (by omega)]
end Go.Fn
set_option linter.unusedVariables false
set_option linter.unusedSimpArgs false
namespace Go.Fn
open Go.R
noncomputable def Sm {α:Type} (P:α→Prop) (x y:Option α):Prop:=∃ r,x=some r∧y=some r∧P r
section
variable {α β:Type} {P:α→Prop} {Q:β→Prop}
theorem Sm.ret {a:α} (h:P a):Sm P (some a) (some a):=⟨a,rfl,rfl,h⟩
theorem Sm.bind {x y:Option α} {f g:α→Option β} (hx:Sm P x y) (h:∀ r,P r→Sm Q (f r) (g r)):Sm Q (x.bind f) (y.bind g):=by
 obtain ⟨r,rfl,rfl,hr⟩:=hx
 exact h r hr
theorem Sm.cond {b:Bool} {x y x' y':Option α} (hx:b=true→Sm P x x') (hy:b=false→Sm P y y'):Sm P (bif b then x else y) (bif b then x' else y'):=by
 cases b
 ·exact hy rfl
 ·exact hx rfl
theorem Sm.guard {b c:Bool} {x y:Option α} (hb:b=true) (hc:c=true) (h:Sm P x y):Sm P (bif b then x else none) (bif c then y else none):=by
 subst hb hc;exact h
theorem Sm.mono {P':α→Prop} {x y:Option α} (h:Sm P x y) (hp:∀ r,P r→P' r):Sm P' x y:=by
 obtain ⟨r,e1,e2,hr⟩:=h
 exact ⟨r,e1,e2,hp r hr⟩
theorem Sm.symm {x y:Option α} (h:Sm P x y):Sm P y x:=by
 obtain ⟨r,e1,e2,hr⟩:=h
 exact ⟨r,e2,e1,hr⟩
theorem same_loop {X Y:Type} {body body':X→Option (X ⊕ Y)} (Inv:X→Prop) (m:X→Nat) {Q:Y→Prop} (h:∀ x,Inv x→Sm (fun r=>match r with | .inl a=>Inv a∧m a < m x | .inr b=>Q b) (body x) (body' x)):∀ (fu:Nat) (x:X),Inv x→m x < fu→Sm Q (iter body fu x) (iter body' fu x)
 | 0,x,_,hm=>absurd hm (Nat.not_lt_zero _)
 | fu+1,x,hi,hm=>by
  obtain ⟨r,e1,e2,hr⟩:=h x hi
  cases r with
  | inl a =>
   rw [iter_next e1,iter_next e2]
   exact same_loop Inv m h fu a hr.1 (by have:=hr.2;omega)
  | inr b=>exact ⟨b,iter_done e1,iter_done e2,hr⟩
end
theorem same_upto {B Y:Type} {body body':B×Int×Unit→Option ((B×Int×Unit) ⊕ Y)} (len:Nat) (hlen:len≤1073741824) {Q:Y→Prop} (I:B→Prop)
  (hs:∀ b n,n < len→I b→Sm (fun r=>match r with | .inl a=>I a.1∧a.2.1=((n+1:Nat):Int) | .inr y=>Q y) (body (b,(n:Int),())) (body' (b,(n:Int),()))) (he:∀ b,I b→Sm (fun r=>match r with | .inl a=>False | .inr y=>Q y) (body (b,(len:Int),())) (body' (b,(len:Int),()))) (b:B) (hb:I b):Sm Q (iter body big (b,0,())) (iter body' big (b,0,())):=by
 refine same_loop (fun x=>I x.1∧0≤x.2.1∧x.2.1≤(len:Int)) (fun x=>((len:Int) - x.2.1).toNat) (fun x hx=>?_) big (b,0,()) ⟨hb,Int.le_refl _,by show (0:Int)≤(len:Int);omega⟩ (lt_big (by show ((len:Int) - 0).toNat < _;omega))
 obtain ⟨b,i,u⟩:=x
 obtain ⟨h0,h1,h2⟩:=hx
 have h1:0≤i:=h1
 have h2:i≤(len:Int):=h2
 obtain ⟨n,rfl⟩:∃ n:Nat,i=(n:Int):=⟨i.toNat,by omega⟩
 by_cases h:n < len
 ·refine (hs b n h h0).mono fun r hr=>?_
  cases r with
  | inr y=>exact hr
  | inl a =>
   obtain ⟨q1,q2⟩:=hr
   refine ⟨⟨q1,by rw [q2];omega,by rw [q2];omega⟩,?_⟩
   show ((len:Int) - a.2.1).toNat < ((len:Int) - (n:Int)).toNat
   rw [q2]
   omega
 ·have hn:n=len:=by omega
  subst hn
  refine (he b h0).mono fun r hr=>?_
  cases r with
  | inl a=>exact hr.elim
  | inr y=>exact hr
theorem same_all {Y:Type} {body body':Int×Unit→Option ((Int×Unit) ⊕ Y)} (len:Nat) (hlen:len≤1073741824) (F:Nat→Prop) {Q:Y→Prop}
  (hs:∀ n,n < len→Sm (fun r=>match r with | .inl a=>a.1=((n+1:Nat):Int)∧F n | .inr y=>Q y) (body ((n:Int),())) (body' ((n:Int),()))) (he:(∀ n,n < len→F n)→Sm (fun r=>match r with | .inl a=>False | .inr y=>Q y) (body ((len:Int),())) (body' ((len:Int),()))):Sm Q (iter body big (0,())) (iter body' big (0,())):=by
 refine same_loop (fun x=>0≤x.1∧x.1≤(len:Int)∧∀ m:Nat,(m:Int) < x.1→F m) (fun x=>((len:Int) - x.1).toNat) (fun x hx=>?_) big (0,()) ⟨Int.le_refl _,by show (0:Int)≤(len:Int);omega,fun m hm=>by have hm:(m:Int) < 0:=hm;omega⟩ (lt_big (by show ((len:Int) - 0).toNat < _;omega))
 obtain ⟨i,u⟩:=x
 obtain ⟨h1,h2,h3⟩:=hx
 have h1:0≤i:=h1
 have h2:i≤(len:Int):=h2
 have h3:∀ m:Nat,(m:Int) < i→F m:=h3
 obtain ⟨n,rfl⟩:∃ n:Nat,i=(n:Int):=⟨i.toNat,by omega⟩
 by_cases h:n < len
 ·refine (hs n h).mono fun r hr=>?_
  cases r with
  | inr y=>exact hr
  | inl a =>
   obtain ⟨q2,q3⟩:a.1=((n+1:Nat):Int)∧F n:=hr
   refine ⟨⟨by rw [q2];omega,by rw [q2];omega,fun m hm=>?_⟩,?_⟩
   ·rw [q2] at hm
    rcases Nat.lt_or_ge m n with hmn | hmn
    ·exact h3 m (by omega)
    ·rw [show m=n by omega];exact q3
   ·show ((len:Int) - a.1).toNat < ((len:Int) - (n:Int)).toNat
    rw [q2]
    omega
 ·have hn:n=len:=by omega
  subst hn
  refine (he fun m hm=>h3 m (by omega)).mono fun r hr=>?_
  cases r with
  | inl a=>exact hr.elim
  | inr y=>exact hr
abbrev Any {α:Type}:α→Prop:=fun _=>True
theorem sm_eq {α:Type} {x y:Option α} {a:α} (h1:x=some a) (h2:y=some a):Sm (fun r=>r=a) x y:=⟨a,h1,h2,rfl⟩
theorem in_sm (a lo hi:Int):Sm (fun r=>r=(inB a lo hi,())) (spec_l01In a lo hi) (impl_within a lo hi):=sm_eq (in_eq a lo hi) (within_eq a lo hi)
theorem door_all:∀ (k:Fin 3) (t:Fin 7) (a b c:Bool),spec_DoorOk ((k.val:Nat):Int) ((t.val:Nat):Int) a b c=impl_DoorOk ((k.val:Nat):Int) ((t.val:Nat):Int) a b c∧(impl_DoorOk ((k.val:Nat):Int) ((t.val:Nat):Int) a b c).isSome=true:=by decide +kernel
theorem door_sm (k t:Int) (a b c:Bool):Sm (fun r=>r.1=true→0≤k∧k≤2) (spec_DoorOk k t a b c) (impl_DoorOk k t a b c):=by
 cases hk:inB k 0 2 with
 | false =>
  refine ⟨(false,()),?_,?_,fun h=>by cases h⟩
  ·unfold spec_DoorOk;rw [in_eq,hk];rfl
  ·unfold impl_DoorOk;rw [within_eq,hk];rfl
 | true =>
  obtain ⟨h1,h2⟩:=inB_iff.1 hk
  cases ht:inB t 0 6 with
  | false =>
   refine ⟨(false,()),?_,?_,fun h=>by cases h⟩
   ·unfold spec_DoorOk;rw [in_eq,hk,in_eq,ht];rfl
   ·unfold impl_DoorOk;rw [within_eq,hk,within_eq,ht];rfl
  | true =>
   obtain ⟨h3,h4⟩:=inB_iff.1 ht
   have:=door_all ⟨k.toNat,by omega⟩ ⟨t.toNat,by omega⟩ a b c
   simp only [Int.toNat_of_nonneg h1,Int.toNat_of_nonneg h3] at this
   obtain ⟨r,hr⟩:=Option.isSome_iff_exists.1 this.2
   exact ⟨r,this.1.trans hr,hr,fun _=>⟨h1,h2⟩⟩
theorem lock_sm (a b c d e:Int):Sm Any (spec_LockOk a b c d e) (impl_LockOk a b c d e):=by
 unfold spec_LockOk impl_LockOk spec_l03Secret impl_secretOk
 simp only [in_eq,within_eq,Option.bind_some]
 cases inB a 1 2147483646 <;> cases inB b 0 1000001 <;> cases inB c 0 2 <;> cases inB d 0 6 <;> exact .ret trivial
theorem grant_sm (a b c d e f:Int) (o:Bool):Sm Any (spec_GrantOk a b c d e f o) (impl_GrantOk a b c d e f o):=by
 unfold spec_GrantOk impl_GrantOk spec_l05Person impl_personOk spec_l05Time impl_timeOk
 simp only [in_eq,within_eq,Option.bind_some]
 cases inB a 1 40 <;> cases inB b 1 40 <;> cases rCmp .neq a b <;> cases inB c 0 999 <;> cases inB d 0 5 <;> cases inB e 0 20000 <;> cases inB f 0 20000 <;> exact .ret trivial
noncomputable def grV (x:Grt):Bool:=match impl_GrantOk x.1 x.2.1 x.2.2.1 x.2.2.2.1 x.2.2.2.2.1 x.2.2.2.2.2.1 x.2.2.2.2.2.2 with | some r=>r.1 | none=>false
theorem grV_eq (x:Grt):spec_GrantOk x.1 x.2.1 x.2.2.1 x.2.2.2.1 x.2.2.2.2.1 x.2.2.2.2.2.1 x.2.2.2.2.2.2=some (grV x,())∧impl_GrantOk x.1 x.2.1 x.2.2.1 x.2.2.2.1 x.2.2.2.2.1 x.2.2.2.2.2.1 x.2.2.2.2.2.2=some (grV x,()):=by
 obtain ⟨r,e1,e2,_⟩:=grant_sm x.1 x.2.1 x.2.2.1 x.2.2.2.1 x.2.2.2.2.1 x.2.2.2.2.2.1 x.2.2.2.2.2.2
 have:grV x=r.1:=by unfold grV;rw [e2]
 rw [this]
 exact ⟨e1,e2⟩
theorem grants_sm (g:List Grt) (hg:g.length≤1073741824):Sm Any (spec_GrantsOk g) (impl_GrantsOk g):=by
 unfold spec_GrantsOk impl_GrantsOk slices_ContainsFunc___impl_Grant_impl_Grant___impl_GrantsOk_1 slices_IndexFunc___impl_Grant_impl_Grant___impl_GrantsOk_1
 have hs:spec_GrantsOk_l0 (g,()) (0,())=some (bif allFrom (fun n=>grV (g.getD n zIIIIIIB)) 0 g.length then (Sum.inr (Sum.inl ()):Bool×Unit ⊕ (Unit ⊕ Empty)) else .inl (false,())):=by
  refine loop_all (fun n=>((n:Int),())) g.length (by omega) _ _ _ (fun n hn=>?_) ?_
  ·unfold spec_GrantsOk_b0
   simp only [lss_len,inR_nat,hn,decide_true,cond_true,get_nat,(grV_eq _).1,Option.bind_some,succ64 (n:=n) (by omega)]
   cases grV (g.getD n zIIIIIIB) <;> rfl
  ·unfold spec_GrantsOk_b0
   simp only [lss_len,Nat.lt_irrefl,decide_false,cond_false]
 obtain ⟨y,h1,h2⟩:=loop_find (body:=slices_IndexFunc___impl_Grant_impl_Grant___impl_GrantsOk_1_b0 (g,rLen g,())) (fun n=>((n:Int),())) g.length (by omega) (fun n=>grV (g.getD n zIIIIIIB)) (Sum.inr (Sum.inl ())) (fun n=>Sum.inl ((n:Int),())) (fun n hn=>by
  unfold slices_IndexFunc___impl_Grant_impl_Grant___impl_GrantsOk_1_b0 impl_GrantsOk_1
  simp only [lss_len,inR_nat,hn,decide_true,cond_true,get_nat,(grV_eq _).2,Option.bind_some,succ64 (n:=n) (by omega)]
  cases grV (g.getD n zIIIIIIB) <;> rfl) (by
  unfold slices_IndexFunc___impl_Grant_impl_Grant___impl_GrantsOk_1_b0
  simp only [lss_len,Nat.lt_irrefl,decide_false,cond_false])
 have h1':slices_IndexFunc___impl_Grant_impl_Grant___impl_GrantsOk_1_l0 (g,rLen g,()) ((0:Int),())=some y:=h1
 rw [hs,h1']
 have hle:rCmp .leq (rLen g) (30:Int)=Bool.not (rCmp .gtr (rLen g) 30):=leq_not _ _
 rw [hle]
 cases rCmp .gtr (rLen g) (30:Int) with
 | true=>exact .ret trivial
 | false =>
  simp only [Bool.not_false,cond_true,cond_false]
  rcases h2 with ⟨e1,rfl⟩ | ⟨e1,n,hn,rfl,_⟩
  ·rw [e1];exact ⟨(true,()),rfl,rfl,trivial⟩
  ·rw [e1]
   have h0:rCmp .geq (n:Int) 0=true:=by simp [rCmp]
   refine ⟨(false,()),rfl,?_,trivial⟩
   show some (Bool.not (rCmp .geq (n:Int) 0),())=_
   rw [h0]
   rfl
section
variable (a0 a1 a2 a3 a4 a5 a6 a7 a8 a9 a10:Int) (s:List Site) (p:List Prc) (g:List Grt) (j:List Ev)
theorem bankWf_of {x:Site} (h:siteLe 1073741824 x):BankWf x.2.2.1:=⟨h.b,fun c hc=>by
 obtain ⟨n,hn,rfl⟩:=List.mem_iff_getElem.1 hc
 have:=h.bs n hn
 rw [List.getD_eq_getElem?_getD,List.getElem?_eq_getElem hn] at this
 exact this⟩
theorem week_sm (o c:List Spn):Sm Any (spec_WeekOk o c) (impl_WeekOk o c):=⟨_,specWeek_eq o c,implWeek_eq o c,trivial⟩
theorem bank_sm {L:List Col} (h:BankWf L):Sm (fun r=>r.1=true→bankS L=true) (spec_BankOk L) (impl_BankOk L):=⟨_,specBank_eq L h,implBank_eq L h,fun h=>h⟩
theorem journal_sm (l:List Ev):Sm Any (spec_JournalOk l) (impl_JournalOk l):=⟨_,specJ_eq l,implJ_eq l,trivial⟩
theorem site_sm (k:Nat) (hk:k < s.length) (hs:siteLe 1073741824 (s.getD k zSite)) (hp:p.length≤1048576):Sm (fun r=>r.1=true→bankS (s.getD k zSite).2.2.1=true) (spec_l09SiteOk a0 a1 a2 a3 a4 a5 a6 a7 a8 a9 a10 s p g j (k:Int)) (impl_siteOk a0 a1 a2 a3 a4 a5 a6 a7 a8 a9 a10 s p g j (k:Int)):=by
 unfold spec_l09SiteOk impl_siteOk
 refine .guard (inR_lt hk) (inR_lt hk) ?_
 simp only [get_nat]
 have hz:s.getD k zLIIlLIIlLILIlLIIIBllIIBBBIILIIIIIIIl=s.getD k zSite:=rfl
 rw [hz]
 generalize s.getD k zSite=x at hs
 have no:∀ {Q:Prop},((false:Bool),()).1=true→Q:=fun h=>by cases h
 refine (week_sm x.1 x.2.1).bind fun r _=>.cond (fun _=>.ret no) fun _=>?_
 refine (bank_sm (bankWf_of hs)).bind fun r hr=>.cond (fun _=>.ret no) fun hb=>?_
 have hbk:bankS x.2.2.1=true:=hr (by cases h:r.1 with | true=>rfl | false=>rw [h] at hb;cases hb)
 refine (door_sm x.2.2.2.1 x.2.2.2.2.1 x.2.2.2.2.2.1 x.2.2.2.2.2.2.1 x.2.2.2.2.2.2.2.1).bind fun r hr=>.cond (fun _=>.ret no) fun hb=>?_
 have hkind:=hr (by cases h:r.1 with | true=>rfl | false=>rw [h] at hb;cases hb)
 refine (journal_sm x.2.2.2.2.2.2.2.2.2.2).bind fun r _=>.cond (fun _=>.ret no) fun _=>?_
 refine .cond (fun _=>?_) fun _=>?_
 ·simp only [lets_def]
  exact .cond (fun _=>.ret fun _=>hbk) fun _=>.ret no
 ·refine (in_sm x.2.2.2.2.2.2.2.2.1 1 (rLen p)).bind fun r hr=>.cond (fun _=>.ret no) fun hb=>?_
  subst hr
  have hin:inB x.2.2.2.2.2.2.2.2.1 1 (rLen p)=true:=by cases h:inB x.2.2.2.2.2.2.2.2.1 1 (rLen p) with | true=>rfl | false=>rw [h] at hb;cases hb
  obtain ⟨i1,i2⟩:=inB_iff.1 hin
  unfold rLen at i2
  have hsub:rArith .sub .i64 x.2.2.2.2.2.2.2.2.1 1=x.2.2.2.2.2.2.2.2.1 - 1:=sub64 (by omega) (by omega)
  rw [hsub]
  have hr:rInR p (x.2.2.2.2.2.2.2.2.1 - 1)=true:=inR_iff (by omega) (by omega)
  rw [hr]
  simp only [cond_true]
  refine .cond (fun _=>.ret no) fun _=>.cond (fun _=>.ret no) fun _=>?_
  obtain ⟨k1,k2⟩:=hkind
  unfold spec_l01In impl_personOk
  simp only [within_eq]
  have hc:x.2.2.2.1=0∨x.2.2.2.1=1∨x.2.2.2.1=2:=by omega
  rcases hc with hc | hc | hc <;> rw [hc]
  ·exact .ret no
  ·show Sm _ (bif rCmp .eql x.2.2.2.2.2.2.2.2.2.1 0 then _ else _) (bif rCmp .eql x.2.2.2.2.2.2.2.2.2.1 0 then _ else _)
   cases rCmp .eql x.2.2.2.2.2.2.2.2.2.1 0 with
   | true=>exact .ret fun _=>hbk
   | false=>exact .ret no
  ·show Sm _ (spec_l01In x.2.2.2.2.2.2.2.2.2.1 0 40 |>.bind _) (bif rCmp .eql x.2.2.2.2.2.2.2.2.2.1 0 then _ else (some (inB x.2.2.2.2.2.2.2.2.2.1 1 40,())).bind fun y=>some (y.1,()))
   rw [in_eq]
   cases hq:rCmp .eql x.2.2.2.2.2.2.2.2.2.1 0 with
   | true =>
    have:x.2.2.2.2.2.2.2.2.2.1=0:=eqlT.1 hq
    rw [this]
    exact ⟨(true,()),rfl,rfl,fun _=>hbk⟩
   | false =>
    have h0:x.2.2.2.2.2.2.2.2.2.1≠0:=fun e=>by rw [eqlT.2 e] at hq;cases hq
    have:inB x.2.2.2.2.2.2.2.2.2.1 0 40=inB x.2.2.2.2.2.2.2.2.2.1 1 40:=by rw [Bool.eq_iff_iff,inB_iff,inB_iff];omega
    rw [this]
    exact ⟨_,rfl,rfl,fun _=>hbk⟩
theorem person_sm (a:Int):Sm Any (spec_l05Person a) (impl_personOk a):=by
 unfold spec_l05Person impl_personOk
 rw [in_eq,within_eq]
 exact .ret trivial
theorem secret_sm (n:Int):Sm Any (spec_SecretOf a0 a1 a2 a3 a4 a5 a6 a7 a8 a9 a10 s p g j n) (impl_SecretOf a0 a1 a2 a3 a4 a5 a6 a7 a8 a9 a10 s p g j n):=by
 obtain ⟨y,e1,e2⟩:=secret_eq a0 a1 a2 a3 a4 a5 a6 a7 a8 a9 a10 s p g j n
 exact ⟨_,e1,e2,trivial⟩
theorem unplaced_sm (x:Prc) (k:Nat) (hk:k < p.length) (hx:p.getD k zIIIIIIIIIIIII=x) (h0:0≤x.2.2.1) (h1:x.2.2.1 < s.length):Sm Any (spec_l09Unplaced a0 a1 a2 a3 a4 a5 a6 a7 a8 a9 a10 s p g j (k:Int)) (impl_isUnplaced a0 a1 a2 a3 a4 a5 a6 a7 a8 a9 a10 s p g j x.1 x.2.1 x.2.2.1 x.2.2.2.1 x.2.2.2.2.1 x.2.2.2.2.2.1 x.2.2.2.2.2.2.1 x.2.2.2.2.2.2.2.1 x.2.2.2.2.2.2.2.2.1 x.2.2.2.2.2.2.2.2.2.1 x.2.2.2.2.2.2.2.2.2.2.1 x.2.2.2.2.2.2.2.2.2.2.2.1 x.2.2.2.2.2.2.2.2.2.2.2.2):=by
 unfold spec_l09Unplaced impl_isUnplaced
 rw [inR_lt hk,get_nat,hx,inR_iff h0 h1]
 simp only [cond_true]
 exact .cond (fun _=>.ret trivial) fun _=>.cond (fun _=>.ret trivial) fun _=>.cond (fun _=>.ret trivial) fun _=>.ret trivial
theorem parcel_sm (k:Nat) (hk:k < p.length) (hs:s.length≤1048576):Sm (fun r=>r.1=true→0≤(p.getD k zIIIIIIIIIIIII).2.2.1∧(p.getD k zIIIIIIIIIIIII).2.2.1 < s.length) (spec_l09ParcelOk a0 a1 a2 a3 a4 a5 a6 a7 a8 a9 a10 s p g j (k:Int)) (impl_parcelOk a0 a1 a2 a3 a4 a5 a6 a7 a8 a9 a10 s p g j (k:Int)):=by
 unfold spec_l09ParcelOk impl_parcelOk
 refine .guard (inR_lt hk) (inR_lt hk) ?_
 simp only [get_nat]
 generalize hx:p.getD k zIIIIIIIIIIIII=x
 have no:∀ {Q:Prop},((false:Bool),()).1=true→Q:=fun h=>by cases h
 refine (in_sm x.1 1 24).bind fun r _=>.cond (fun _=>.ret no) fun _=>?_
 refine (person_sm x.2.1).bind fun r _=>.cond (fun _=>.ret no) fun _=>?_
 refine (in_sm x.2.2.1 0 (rArith .sub .i64 (rLen s) 1)).bind fun r hr=>.cond (fun _=>.ret no) fun hb=>?_
 subst hr
 have hin:inB x.2.2.1 0 (rArith .sub .i64 (rLen s) 1)=true:=by cases h:inB x.2.2.1 0 (rArith .sub .i64 (rLen s) 1) with | true=>rfl | false=>rw [h] at hb;cases hb
 obtain ⟨i1,i2⟩:=inB_iff.1 hin
 rw [sub64 (by unfold rLen;omega) (by unfold rLen;omega)] at i2
 have i2:x.2.2.1 < s.length:=by unfold rLen at i2;omega
 have yes:∀ {b:Bool},b=true→0≤x.2.2.1∧x.2.2.1 < s.length:=fun _=>⟨i1,i2⟩
 refine (in_sm x.2.2.2.1 0 5).bind fun r _=>.cond (fun _=>.ret no) fun _=>?_
 refine .cond (fun _=>.guard (inR_iff i1 i2) (inR_iff i1 i2) (.cond (fun _=>.ret no) fun _=>?_)) fun _=>?_
 all_goals
  refine (unplaced_sm a0 a1 a2 a3 a4 a5 a6 a7 a8 a9 a10 s p g j x k hk hx i1 i2).bind fun r _=>.cond (fun _=>?_) fun _=>?_
  ·refine .cond (fun _=>.cond (fun _=>.cond (fun _=>.cond (fun _=>?_) fun _=>.ret no) fun _=>.ret no) fun _=>.ret no) fun _=>.ret no
   simp only [lets_def]
   exact .ret yes
  ·refine (in_sm x.2.2.2.2.1 0 a10).bind fun r _=>.cond (fun _=>.ret no) fun _=>?_
   refine (in_sm x.2.2.2.2.2.1 0 a7).bind fun r _=>.cond (fun _=>.ret no) fun _=>?_
   refine (lock_sm x.2.2.2.2.2.2.1 x.2.2.2.2.2.2.2.1 x.2.2.2.2.2.2.2.2.1 x.2.2.2.2.2.2.2.2.2.1 x.2.2.2.2.2.2.2.2.2.2.1).bind fun r _=>.cond (fun _=>.ret no) fun _=>?_
   refine (secret_sm a0 a1 a2 a3 a4 a5 a6 a7 a8 a9 a10 s p g j (rArith .add .i64 (k:Int) 1)).bind fun r _=>.cond (fun _=>.ret no) fun _=>?_
   refine .cond (fun _=>?_) fun _=>?_
   ·refine (person_sm x.2.2.2.2.2.2.2.2.2.2.2.1).bind fun r _=>.cond (fun _=>?_) fun _=>.ret no
    exact (in_sm x.2.2.2.2.2.2.2.2.2.2.2.2 0 (rArith .add .i64 a4 (rArith .mul .i64 a6 a7))).bind fun r _=>.ret yes
   ·exact .cond (fun _=>.ret yes) fun _=>.ret no
theorem load_sm (hp:p.length≤1048576) (hs:∀ k,k < p.length→0≤(p.getD k zIIIIIIIIIIIII).2.2.1∧(p.getD k zIIIIIIIIIIIII).2.2.1 < s.length):Sm Any (spec_l09Load a0 a1 a2 a3 a4 a5 a6 a7 a8 a9 a10 s p g j) (impl_loadOf a0 a1 a2 a3 a4 a5 a6 a7 a8 a9 a10 s p g j):=by
 unfold spec_l09Load impl_loadOf
 refine (same_upto (B:=Int) (Q:=Any) p.length (by omega) (fun _=>True) (fun b n hn _=>?_) (fun b _=>?_) (0:Int) trivial).bind fun q _=>?_
 ·unfold spec_l09Load_b0 impl_loadOf_b0
  simp only [lss_len,inR_nat,hn,decide_true,cond_true,get_nat,succ64 (n:=n) (by omega)]
  obtain ⟨h0,h1⟩:=hs n hn
  refine .cond (fun _=>?_) fun _=>.ret ⟨trivial,rfl⟩
  refine (unplaced_sm a0 a1 a2 a3 a4 a5 a6 a7 a8 a9 a10 s p g j (p.getD n zIIIIIIIIIIIII) n hn rfl h0 h1).bind fun r _=>.cond (fun _=>.ret ⟨trivial,rfl⟩) fun _=>.ret ⟨trivial,rfl⟩
 ·unfold spec_l09Load_b0 impl_loadOf_b0
  simp only [lss_len,Nat.lt_irrefl,decide_false,cond_false]
  exact .ret trivial
 ·cases q with
  | inl y=>exact .ret trivial
  | inr e=>exact e.elim
theorem boxes4 (k i:Int) (bank:List Col) (l:List Bx) (hl:l.length≤1073741824) (hpar:∀ n,n < l.length→0≤(l.getD n zIIIB).2.2.1∧(l.getD n zIIIB).2.2.1≤999) (hp:p.length≤1048576) (c:Int) :
  Sm Any (spec_l09BoxesOk_l4 (a0,a1,a2,a3,a4,a5,a6,a7,a8,a9,a10,s,p,g,j,k,i,l,()) (c,0,())) (impl_boxesOk_l4 (a0,a1,a2,a3,a4,a5,a6,a7,a8,a9,a10,s,p,g,j,k,s,rLen s,k,bank,rLen bank,i,l,rLen l,()) (c,0,())):=by
 refine same_upto (B:=Int) (Q:=Any) l.length (by omega) (fun _=>True) (fun b n hn _=>?_) (fun b _=>?_) c trivial
 ·unfold spec_l09BoxesOk_b4 impl_boxesOk_b4
  obtain ⟨h0,h9⟩:=hpar n hn
  revert h0 h9
  simp only [lss_len,inR_nat,hn,decide_true,cond_true,get_nat,succ64 (n:=n) (by omega),within_eq,Option.bind_some,lets_def]
  generalize l.getD n zIIIB=x
  intro h0 h9
  refine .cond (fun _=>.ret ⟨trivial,rfl⟩) fun hz=>?_
  have hz : ¬ x.2.2.1=0:=fun e=>by rw [eqlT.2 e] at hz;cases hz
  have hb:Bool.not (inB x.2.2.1 1 (rLen p))=rCmp .gtr x.2.2.1 (rLen p):=by
   cases hq:rCmp .gtr x.2.2.1 (rLen p) with
   | true =>
    have:=gtrT.1 hq
    have:inB x.2.2.1 1 (rLen p)=false:=by rw [Bool.eq_false_iff,ne_eq,inB_iff];omega
    rw [this];rfl
   | false =>
    have:=gtrF.1 hq
    have:inB x.2.2.1 1 (rLen p)=true:=inB_iff.2 ⟨by omega,by omega⟩
    rw [this];rfl
  rw [hb]
  refine .cond (fun _=>.ret trivial) fun hg=>?_
  have hg:=gtrF.1 hg
  unfold rLen at hg
  rw [sub64 (by omega) (by omega)]
  refine .guard (inR_iff (by omega) (by omega)) (inR_iff (by omega) (by omega)) ?_
  generalize rGet zIIIIIIIIIIIII p (x.2.2.1 - 1)=y
  cases rCmp .neq y.2.2.1 k <;> cases rCmp .neq y.1 x.2.1 <;> cases rCmp .neq y.2.2.2.1 2 <;> cases rCmp .neq y.2.2.2.1 3 <;> cases rCmp .eql y.2.2.2.1 2 <;> cases x.2.2.2 <;> first | exact .ret trivial | exact .ret ⟨trivial,rfl⟩
 ·unfold spec_l09BoxesOk_b4 impl_boxesOk_b4
  simp only [lss_len,Nat.lt_irrefl,decide_false,cond_false]
  exact .ret trivial
theorem boxes2 (k:Nat) (hk:k < s.length) (hs:siteLe 1073741824 (s.getD k zSite)) (hb:bankS (s.getD k zSite).2.2.1=true) (hp:p.length≤1048576) (c:Int) :
  Sm Any (spec_l09BoxesOk_l2 (a0,a1,a2,a3,a4,a5,a6,a7,a8,a9,a10,s,p,g,j,(k:Int),()) (c,0,())) (impl_boxesOk_l2 (a0,a1,a2,a3,a4,a5,a6,a7,a8,a9,a10,s,p,g,j,(k:Int),s,rLen s,(k:Int),(s.getD k zSite).2.2.1,rLen (s.getD k zSite).2.2.1,()) (c,0,())):=by
 have hw:=bankWf_of hs
 refine same_upto (B:=Int) (Q:=Any) (s.getD k zSite).2.2.1.length (by have:=hw.1;omega) (fun _=>True) (fun b n hn _=>?_) (fun b _=>?_) c trivial
 ·unfold spec_l09BoxesOk_b2 impl_boxesOk_b2
  have hz:s.getD k zLIIlLIIlLILIlLIIIBllIIBBBIILIIIIIIIl=s.getD k zSite:=rfl
  simp only [inR_nat,hk,decide_true,cond_true,get_nat,hz,lss_len,hn,succ64 (n:=n) (by have:=hw.1;omega)]
  refine (boxes4 a0 a1 a2 a3 a4 a5 a6 a7 a8 a9 a10 s p g j (k:Int) (n:Int) (s.getD k zSite).2.2.1 (colAt (s.getD k zSite).2.2.1 n).2.2 (hw.at hn).2 (fun m hm=>?_) hp b).bind fun q _=>?_
  ·unfold bankS at hb
   rw [Bool.and_eq_true] at hb
   have:=(allFrom_iff _ _).1 hb.2 n (Nat.zero_le _) (by omega)
   unfold bankAtS colS at this
   simp only [Bool.and_eq_true] at this
   have:=(allFrom_iff _ _).1 this.1.2.1.1 m (Nat.zero_le _) (by omega)
   unfold okS at this
   simp only [Bool.and_eq_true] at this
   exact inB_iff.1 this.1.1.2
  ·cases q with
   | inl y=>exact .ret trivial
   | inr q =>
    cases q with
    | inl y=>exact .ret ⟨trivial,rfl⟩
    | inr e=>exact e.elim
 ·unfold spec_l09BoxesOk_b2 impl_boxesOk_b2
  have hz:s.getD k zLIIlLIIlLILIlLIIIBllIIBBBIILIIIIIIIl=s.getD k zSite:=rfl
  simp only [inR_nat,hk,decide_true,cond_true,get_nat,hz,lss_len,Nat.lt_irrefl,decide_false,cond_false]
  exact .ret trivial
theorem boxes_sm (hle:netLe s p g j) (hb:∀ k,k < s.length→bankS (s.getD k zSite).2.2.1=true):Sm Any (spec_l09BoxesOk a0 a1 a2 a3 a4 a5 a6 a7 a8 a9 a10 s p g j) (impl_boxesOk a0 a1 a2 a3 a4 a5 a6 a7 a8 a9 a10 s p g j):=by
 have hls:=hle.ls
 have hlp:=hle.lp
 unfold spec_l09BoxesOk impl_boxesOk
 refine (same_upto (B:=Int) (Q:=Any) s.length (by omega) (fun _=>True) (fun b n hn _=>?_) (fun b _=>?_) (0:Int) trivial).bind fun q _=>?_
 ·unfold spec_l09BoxesOk_b0 impl_boxesOk_b0
  have hz:∀ n,s.getD n zLIIlLIIlLILIlLIIIBllIIBBBIILIIIIIIIl=s.getD n zSite:=fun _=>rfl
  simp only [lss_len,inR_nat,hn,decide_true,cond_true,get_nat,succ64 (n:=n) (by omega),hz]
  refine (boxes2 a0 a1 a2 a3 a4 a5 a6 a7 a8 a9 a10 s p g j n hn (hle.ss n hn) (hb n hn) hlp b).bind fun q _=>?_
  cases q with
  | inl y=>exact .ret trivial
  | inr q =>
   cases q with
   | inl y=>exact .ret ⟨trivial,rfl⟩
   | inr e=>exact e.elim
 ·unfold spec_l09BoxesOk_b0 impl_boxesOk_b0
  simp only [lss_len,Nat.lt_irrefl,decide_false,cond_false]
  exact .ret trivial
 ·cases q with
  | inl y=>exact .ret trivial
  | inr q =>
   cases q with
   | inr e=>exact e.elim
   | inl y =>
    refine (same_upto (B:=Int) (Q:=Any) p.length (by omega) (fun _=>True) (fun b n hn _=>?_) (fun b _=>?_) y.1 trivial).bind fun q _=>?_
    ·unfold spec_l09BoxesOk_b6 impl_boxesOk_b6
     simp only [lss_len,inR_nat,hn,decide_true,cond_true,get_nat,succ64 (n:=n) (by omega)]
     exact .cond (fun _=>.ret ⟨trivial,rfl⟩) fun _=>.cond (fun _=>.ret ⟨trivial,rfl⟩) fun _=>.ret ⟨trivial,rfl⟩
    ·unfold spec_l09BoxesOk_b6 impl_boxesOk_b6
     simp only [lss_len,Nat.lt_irrefl,decide_false,cond_false]
     exact .ret trivial
    ·cases q with
     | inl y=>exact .ret trivial
     | inr e=>exact e.elim
theorem network_sm (hle:netLe s p g j):Sm Any (spec_NetworkOk a0 a1 a2 a3 a4 a5 a6 a7 a8 a9 a10 s p g j) (impl_NetworkOk a0 a1 a2 a3 a4 a5 a6 a7 a8 a9 a10 s p g j):=by
 have hls:=hle.ls
 have hlp:=hle.lp
 have hlg:=hle.lg
 unfold spec_NetworkOk impl_NetworkOk
 refine Sm.bind (P:=Any) ⟨_,specTerms_eq ..,implTerms_eq ..,trivial⟩ fun r _=>.cond (fun _=>.ret trivial) fun _=>?_
 refine (in_sm a8 0 1000).bind fun r _=>.cond (fun _=>.ret trivial) fun _=>?_
 refine Sm.bind (P:=Any) (by unfold spec_l03Secret impl_secretOk;rw [in_eq,within_eq];exact .ret trivial) fun r _=>.cond (fun _=>.ret trivial) fun _=>?_
 refine Sm.bind (P:=Any) (by rw [in_eq,timeOk_eq];exact .ret trivial) fun r _=>.cond (fun _=>.ret trivial) fun _=>?_
 refine (in_sm (rLen s) 1 3).bind fun r _=>.cond (fun _=>.ret trivial) fun _=>.cond (fun _=>.ret trivial) fun _=>?_
 refine (grants_sm g (by omega)).bind fun r _=>.cond (fun _=>.ret trivial) fun _=>?_
 refine (journal_sm j).bind fun r _=>.cond (fun _=>.ret trivial) fun _=>?_
 refine (same_all s.length (by omega) (fun n=>bankS (s.getD n zSite).2.2.1=true) (Q:=fun y=>match y with | .inl _=>True | .inr _=>∀ n,n < s.length→bankS (s.getD n zSite).2.2.1=true) (fun n hn=>?_) (fun hF=>?_)).bind fun q hq=>?_
 ·unfold spec_NetworkOk_b0 impl_NetworkOk_b0
  simp only [lss_len,hn,decide_true,cond_true,succ64 (n:=n) (by omega)]
  refine (site_sm a0 a1 a2 a3 a4 a5 a6 a7 a8 a9 a10 s p g j n hn (hle.ss n hn) hlp).bind fun r hr=>.cond (fun _=>.ret trivial) fun hb=>.ret ⟨rfl,hr ?_⟩
  cases h:r.1 with | true=>rfl | false=>rw [h] at hb;cases hb
 ·unfold spec_NetworkOk_b0 impl_NetworkOk_b0
  simp only [lss_len,Nat.lt_irrefl,decide_false,cond_false]
  exact .ret hF
 ·cases q with
  | inl y=>exact .ret trivial
  | inr q =>
   cases q with
   | inr e=>exact e.elim
   | inl y =>
    have hbank:∀ n,n < s.length→bankS (s.getD n zSite).2.2.1=true:=hq
    refine (same_all p.length (by omega) (fun n=>0≤(p.getD n zIIIIIIIIIIIII).2.2.1∧(p.getD n zIIIIIIIIIIIII).2.2.1 < s.length) (Q:=fun y=>match y with | .inl _=>True | .inr _=>∀ n,n < p.length→0≤(p.getD n zIIIIIIIIIIIII).2.2.1∧(p.getD n zIIIIIIIIIIIII).2.2.1 < s.length) (fun n hn=>?_) (fun hF=>?_)).bind fun q hq=>?_
    ·unfold spec_NetworkOk_b2 impl_NetworkOk_b2
     simp only [lss_len,hn,decide_true,cond_true,succ64 (n:=n) (by omega)]
     refine (parcel_sm a0 a1 a2 a3 a4 a5 a6 a7 a8 a9 a10 s p g j n hn hls).bind fun r hr=>.cond (fun _=>.ret trivial) fun hb=>.ret ⟨rfl,hr ?_⟩
     cases h:r.1 with | true=>rfl | false=>rw [h] at hb;cases hb
    ·unfold spec_NetworkOk_b2 impl_NetworkOk_b2
     simp only [lss_len,Nat.lt_irrefl,decide_false,cond_false]
     exact .ret hF
    ·cases q with
     | inl y=>exact .ret trivial
     | inr q =>
      cases q with
      | inr e=>exact e.elim
      | inl y =>
       refine (boxes_sm a0 a1 a2 a3 a4 a5 a6 a7 a8 a9 a10 s p g j hle hbank).bind fun r _=>.cond (fun _=>?_) fun _=>.ret trivial
       exact (load_sm a0 a1 a2 a3 a4 a5 a6 a7 a8 a9 a10 s p g j hlp hq).bind fun r _=>.ret trivial
end
end Go.Fn
