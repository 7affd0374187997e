import Derived.Test.YthdhgmppijjhpaaGreatNewNetworkQA
/- Plain functions that stand for Go functions, and what they answer. Conditions: none. -/
set_option autoImplicit false
set_option linter.unusedVariables false
set_option linter.unusedSimpArgs false
set_option linter.unusedVariables false
set_option linter.unusedSimpArgs false
namespace Go.Fn
open Go.R
theorem mget_put (m:List (Int×Bool)) (k k':Int) (v:Bool):rMget (rMput m k v) k'=bif k' == k then v else rMget m k':=by
 induction m with
 | nil=>simp only [rMput,rMget]
 | cons y r ih =>
  unfold rMput
  cases hb:k == y.1 with
  | true =>
   have hk:k=y.1:=by simpa using hb
   subst hk
   simp only [cond_true,rMget]
   cases k' == y.1 <;> rfl
  | false =>
   simp only [cond_false,rMget,ih]
   cases h1:k' == y.1 with
   | false=>rfl
   | true =>
    have:k'=y.1:=by simpa using h1
    subst this
    have:(y.1 == k)=false:=by
     rw [Bool.eq_false_iff] at hb ⊢
     intro e
     exact hb (by simpa using (beq_iff_eq.1 e).symm)
    rw [this]
    rfl
noncomputable def putAll (m:List (Int×Bool)) (l:List Int):List (Int×Bool):=l.foldl (fun m k=>rMput m k true) m
theorem mget_all (k:Int):∀ (l:List Int) (m:List (Int×Bool)),rMget (putAll m l) k=true↔rMget m k=true∨k∈l
 | [],m=>by simp [putAll]
 | x::l,m=>by
  have:=mget_all k l (rMput m x true)
  unfold putAll at this ⊢
  rw [List.foldl_cons,this,mget_put]
  cases hb:k == x with
  | true=>simp [beq_iff_eq.1 hb]
  | false =>
   have:k≠x:=by rintro rfl;simp at hb
   simp [this]
theorem putAll_snoc (m:List (Int×Bool)) (l:List Int) (x:Int):putAll m (l++[x])=rMput (putAll m l) x true:=by unfold putAll;rw [List.foldl_append];rfl
theorem take_snoc {α:Type} {l:List α} {n:Nat} (h:n < l.length) (z:α):l.take (n+1)=l.take n++[l.getD n z]:=by
 rw [List.take_add_one,List.getElem?_eq_getElem h,List.getD_eq_getElem?_getD,List.getElem?_eq_getElem h]
 rfl
theorem mem_take {α:Type} {l:List α} {n:Nat} {x z:α} (hn:n≤l.length):x∈l.take n↔∃ k,k < n∧l.getD k z=x:=by
 constructor
 ·intro h
  obtain ⟨k,hk,e⟩:=List.mem_iff_getElem.1 h
  rw [List.length_take] at hk
  rw [List.getElem_take] at e
  exact ⟨k,by omega,by rw [List.getD_eq_getElem?_getD,List.getElem?_eq_getElem (by omega)];exact e⟩
 ·rintro ⟨k,hk,e⟩
  rw [List.getD_eq_getElem?_getD,List.getElem?_eq_getElem (show k < l.length by omega)] at e
  rw [←e]
  have:(l.take n)[k]? = some l[k]:=by rw [List.getElem?_take_of_lt hk,List.getElem?_eq_getElem (by omega)]
  exact List.mem_of_getElem? this
noncomputable def bxAt (l:List Bx) (n:Nat):Bx:=l.getD n zIIIB
noncomputable def psum (l:List Bx) (n:Nat):Int:=(l.take n).foldl (fun a b=>rArith .add .i64 a b.2.1) 0
theorem psum_succ (l:List Bx) {n:Nat} (h:n < l.length):psum l (n+1)=rArith .add .i64 (psum l n) (bxAt l n).2.1:=by
 unfold psum bxAt
 rw [take_snoc h zIIIB,List.foldl_append]
 rfl
noncomputable def dupIn (l:List Bx) (n k:Nat):Bool:=Bool.not (rCmp .gtr (bxAt l n).2.2.1 0 && rCmp .eql (bxAt l k).2.2.1 (bxAt l n).2.2.1)
noncomputable def okS (l:List Bx) (n:Nat):Bool:=Bool.not (rCmp .neq (bxAt l n).1 (psum l n)) && inB (bxAt l n).2.1 1 24 && inB (bxAt l n).2.2.1 0 999 && allFrom (dupIn l n) 0 n && Bool.not (rCmp .gtr (psum l (n+1)) 24)
theorem specBoxes_eq (h:Int) (f:List Int) (l:List Bx) (hl:l.length≤1073741824):spec_l02Boxes h f l=some (allFrom (okS l) 0 l.length && (rCmp .gtr (rLen l) 0 && rCmp .eql (psum l l.length) h),()):=by
 unfold spec_l02Boxes
 have:spec_l02Boxes_l0 (h,f,l,()) (0,0,())=some (bif allFrom (okS l) 0 l.length then (Sum.inr (Sum.inl (psum l l.length,())):Bool×Unit ⊕ (Int×Unit ⊕ Empty)) else .inl (false,())):=by
  refine loop_all (fun n=>(psum l n,(n:Int),())) l.length (by omega) (okS l) _ _ (fun n hn=>?_) ?_
  ·have hin:spec_l02Boxes_l2 (h,f,l,psum l n,(n:Int),()) ((bxAt l n).1,(bxAt l n).2.1,(bxAt l n).2.2.1,(bxAt l n).2.2.2,0,())=some (bif allFrom (dupIn l n) 0 n then (Sum.inr (Sum.inl ((bxAt l n).1,(bxAt l n).2.1,(bxAt l n).2.2.1,(bxAt l n).2.2.2,())):Bool×Unit ⊕ (Int×Int×Int×Bool×Unit ⊕ Empty)) else .inl (false,())):=by
    refine loop_all (fun k=>((bxAt l n).1,(bxAt l n).2.1,(bxAt l n).2.2.1,(bxAt l n).2.2.2,(k:Int),())) n (by omega) (dupIn l n) _ _ (fun k hk=>?_) ?_
    ·unfold spec_l02Boxes_b2 dupIn
     have hk2:k < l.length:=by omega
     simp only [lss_nat,hk,decide_true,cond_true,inR_nat,hk2,get_nat,succ64 (n:=k) (by omega)]
     show (bif rCmp .gtr (bxAt l n).2.2.1 0 then (bif rCmp .eql (bxAt l k).2.2.1 (bxAt l n).2.2.1 then _ else _) else _)=_
     cases rCmp .gtr (bxAt l n).2.2.1 0 <;> cases rCmp .eql (bxAt l k).2.2.1 (bxAt l n).2.2.1 <;> rfl
    ·unfold spec_l02Boxes_b2
     simp only [lss_nat,Nat.lt_irrefl,decide_false,cond_false]
   unfold spec_l02Boxes_b0 okS
   simp only [lss_len,hn,decide_true,cond_true,inR_nat,get_nat,in_eq,Option.bind_some,succ64 (n:=n) (by omega),psum_succ l hn]
   show (bif rCmp .neq (bxAt l n).1 (psum l n) then _ else bif Bool.not (inB (bxAt l n).2.1 1 24) then _ else bif Bool.not (inB (bxAt l n).2.2.1 0 999) then _ else (spec_l02Boxes_l2 (h,f,l,psum l n,(n:Int),()) ((bxAt l n).1,(bxAt l n).2.1,(bxAt l n).2.2.1,(bxAt l n).2.2.2,0,())).bind _)=_
   rw [hin]
   cases rCmp .neq (bxAt l n).1 (psum l n) with
   | true=>rfl
   | false =>
    cases inB (bxAt l n).2.1 1 24 with
    | false=>rfl
    | true =>
     cases inB (bxAt l n).2.2.1 0 999 with
     | false=>rfl
     | true =>
      cases allFrom (dupIn l n) 0 n with
      | false=>rfl
      | true =>
       simp only [Bool.not_true,cond_false,cond_true,Option.bind_some,Sum.elim_inr,Sum.elim_inl,Bool.not_false,Bool.true_and]
       cases rCmp .gtr (rArith .add .i64 (psum l n) (bxAt l n).2.1) 24 <;> rfl
  ·unfold spec_l02Boxes_b0
   simp only [lss_len,Nat.lt_irrefl,decide_false,cond_false]
 rw [this]
 cases allFrom (okS l) 0 l.length with
 | false=>rfl
 | true =>
  simp only [cond_true,Option.bind_some,Sum.elim_inr,Sum.elim_inl,Bool.true_and]
  cases rCmp .gtr (rLen l) 0 <;> rfl
noncomputable def lows (l : List Bx) : List Int := l.map (·.1)
noncomputable def pars (l : List Bx) : List Int := l.map (·.2.2.1)
noncomputable def okI (h:Int) (l:List Bx) (n:Nat):Bool:=Bool.not (rCmp .neq (bxAt l n).1 (psum l n)) && inB (bxAt l n).2.1 1 (rArith .sub .i64 h (psum l n)) && inB (bxAt l n).2.2.1 0 999 && Bool.not (rCmp .gtr (bxAt l n).2.2.1 0 && rMget (putAll [] (pars (l.take n))) (bxAt l n).2.2.1)
theorem implBoxes_eq (h:Int) (f:List Int) (l:List Bx) (hl:l.length≤1073741824):impl_ColumnOk_l2 (h,f,l,l,rLen l,()) (0,[],[],0,())=some (bif allFrom (okI h l) 0 l.length then (Sum.inr (Sum.inl (psum l l.length,putAll [] (lows l),())):Bool×Unit ⊕ (Int×(List (Int×Bool))×Unit ⊕ Empty)) else .inl (false,())):=by
 have:=loop_all (body:=impl_ColumnOk_b2 (h,f,l,l,rLen l,())) (fun n=>(psum l n,putAll [] (lows (l.take n)),putAll [] (pars (l.take n)),(n:Int),())) l.length (by omega) (okI h l) (.inr (.inl (psum l l.length,putAll [] (lows l),()))) (.inl (false,())) (fun n hn=>?_) ?_
 ·exact this
 ·unfold impl_ColumnOk_b2 okI
  have e1:putAll [] (lows (l.take (n+1)))=rMput (putAll [] (lows (l.take n))) (bxAt l n).1 true:=by unfold lows bxAt;rw [take_snoc hn zIIIB,List.map_append];exact putAll_snoc _ _ _
  have e2:putAll [] (pars (l.take (n+1)))=rMput (putAll [] (pars (l.take n))) (bxAt l n).2.2.1 true:=by unfold pars bxAt;rw [take_snoc hn zIIIB,List.map_append];exact putAll_snoc _ _ _
  simp only [lss_len,hn,decide_true,cond_true,inR_nat,get_nat,within_eq,Option.bind_some,succ64 (n:=n) (by omega),psum_succ l hn,e1,e2]
  show (bif rCmp .neq (bxAt l n).1 (psum l n) then _ else bif Bool.not (inB (bxAt l n).2.1 1 (rArith .sub .i64 h (psum l n))) then _ else bif Bool.not (inB (bxAt l n).2.2.1 0 999) then _ else bif rCmp .gtr (bxAt l n).2.2.1 0 then (bif rMget (putAll [] (pars (l.take n))) (bxAt l n).2.2.1 then _ else _) else _)=_
  cases rCmp .neq (bxAt l n).1 (psum l n) with
  | true=>rfl
  | false =>
   cases inB (bxAt l n).2.1 1 (rArith .sub .i64 h (psum l n)) with
   | false=>rfl
   | true =>
    cases inB (bxAt l n).2.2.1 0 999 with
    | false=>rfl
    | true =>
     cases rCmp .gtr (bxAt l n).2.2.1 0 with
     | false=>rfl
     | true=>cases rMget (putAll [] (pars (l.take n))) (bxAt l n).2.2.1 <;> rfl
 ·unfold impl_ColumnOk_b2
  simp only [lss_len,Nat.lt_irrefl,decide_false,cond_false,List.take_length]
theorem neqF {a b:Int}:rCmp .neq a b=false↔a=b:=by simp [rCmp]
theorem gtrF {a b:Int}:rCmp .gtr a b=false↔a≤b:=by simp [rCmp]
theorem gtrT {a b:Int}:rCmp .gtr a b=true↔b < a:=by simp [rCmp]
theorem eqlT {a b:Int}:rCmp .eql a b=true↔a=b:=by simp [rCmp]
theorem par_mem {l:List Bx} {n:Nat} (hn:n≤l.length) (p:Int):rMget (putAll [] (pars (l.take n))) p=true↔∃ k,k < n∧(bxAt l k).2.2.1=p:=by
 rw [mget_all]
 simp only [rMget,Bool.false_eq_true,false_or,pars,List.mem_map]
 constructor
 ·rintro ⟨b,hb,e⟩
  obtain ⟨k,hk,rfl⟩:=(mem_take (z:=zIIIB) hn).1 hb
  exact ⟨k,hk,e⟩
 ·rintro ⟨k,hk,e⟩
  exact ⟨bxAt l k,(mem_take (z:=zIIIB) hn).2 ⟨k,hk,rfl⟩,e⟩
theorem dup_iff {l:List Bx} {n:Nat} (hn:n≤l.length):(Bool.not (rCmp .gtr (bxAt l n).2.2.1 0 && rMget (putAll [] (pars (l.take n))) (bxAt l n).2.2.1))=allFrom (dupIn l n) 0 n:=by
 rw [Bool.eq_iff_iff,allFrom_iff]
 simp only [dupIn,Bool.not_eq_true',Bool.and_eq_false_iff]
 cases h0:rCmp .gtr (bxAt l n).2.2.1 0 with
 | false=>exact ⟨fun _ _ _ _=>.inl rfl,fun _=>.inl rfl⟩
 | true =>
  constructor
  ·intro h m _ hm
   refine .inr ?_
   rcases h with h | h
   ·cases h
   ·cases he:rCmp .eql (bxAt l m).2.2.1 (bxAt l n).2.2.1 with
    | false=>rfl
    | true =>
     have:=(par_mem hn _).2 ⟨m,by omega,eqlT.1 he⟩
     rw [h] at this
     cases this
  ·intro h
   refine .inr ?_
   cases hm:rMget (putAll [] (pars (l.take n))) (bxAt l n).2.2.1 with
   | false=>rfl
   | true =>
    obtain ⟨k,hk,e⟩:=(par_mem hn _).1 hm
    rcases h k (Nat.zero_le _) (by omega) with h | h
    ·cases h
    ·rw [eqlT.2 e] at h;cases h
theorem boxes_iff {h:Int} (h1:1≤h) (h2:h≤24) (l:List Bx) (hl:l.length≤1073741824):(allFrom (okS l) 0 l.length=true∧psum l l.length=h)↔(allFrom (okI h l) 0 l.length=true∧psum l l.length=h):=by
 have mono:∀ (hs:∀ n,n < l.length→0≤psum l n∧psum l n≤psum l (n+1)) (m n:Nat),m≤n→n≤l.length→psum l m≤psum l n:=by
  intro hs m n hmn hn
  induction n with
  | zero=>rw [show m=0 by omega];exact Int.le_refl _
  | succ n ih =>
   rcases Nat.lt_or_ge m (n+1) with h | h
   ·exact Int.le_trans (ih (by omega) (by omega)) (hs n (by omega)).2
   ·rw [show m=n+1 by omega];exact Int.le_refl _
 have p0:psum l 0=0:=rfl
 constructor
 ·rintro ⟨ha,he⟩
  rw [allFrom_iff] at ha
  simp only [okS,Bool.and_eq_true,Bool.not_eq_true',neqF,gtrF,inB_iff] at ha
  have hp:∀ n,n≤l.length→0≤psum l n∧psum l n≤24:=by
   intro n
   induction n with
   | zero=>intro _;rw [p0];omega
   | succ n ih =>
    intro hn
    obtain ⟨⟨⟨⟨_,c2⟩,_⟩,_⟩,c5⟩:=ha n (Nat.zero_le _) (by omega)
    have:=ih (by omega)
    refine ⟨?_,c5⟩
    rw [psum_succ l (by omega),add64 (by omega) (by omega)]
    omega
  have hs:∀ n,n < l.length→0≤psum l n∧psum l n≤psum l (n+1):=fun n hn=>by
   obtain ⟨⟨⟨⟨_,c2⟩,_⟩,_⟩,c5⟩:=ha n (Nat.zero_le _) (by omega)
   have:=hp n (by omega)
   refine ⟨this.1,?_⟩
   rw [psum_succ l hn,add64 (by omega) (by omega)]
   omega
  refine ⟨?_,he⟩
  rw [allFrom_iff]
  intro n _ hn
  obtain ⟨⟨⟨⟨c1,c2⟩,c3⟩,c4⟩,c5⟩:=ha n (Nat.zero_le _) (by omega)
  unfold okI
  rw [dup_iff (by omega),c4]
  have:=hp n (by omega)
  have hm:=mono hs (n+1) l.length (by omega) (Nat.le_refl _)
  rw [he,psum_succ l (by omega),add64 (by omega) (by omega)] at hm
  rw [sub64 (by omega) (by omega)]
  simp only [Bool.and_eq_true,Bool.not_eq_true',neqF,inB_iff]
  exact ⟨⟨⟨c1,by omega,by omega⟩,c3⟩,trivial⟩
 ·rintro ⟨ha,he⟩
  rw [allFrom_iff] at ha
  have hp:∀ n,n≤l.length→0≤psum l n∧psum l n≤h:=by
   intro n
   induction n with
   | zero=>intro _;rw [p0];omega
   | succ n ih =>
    intro hn
    have hi:=ih (by omega)
    have:=ha n (Nat.zero_le _) (by omega)
    unfold okI at this
    rw [sub64 (by omega) (by omega)] at this
    simp only [Bool.and_eq_true,Bool.not_eq_true',neqF,inB_iff] at this
    obtain ⟨⟨⟨_,c2⟩,_⟩,_⟩:=this
    rw [psum_succ l (by omega),add64 (by omega) (by omega)]
    omega
  refine ⟨?_,he⟩
  rw [allFrom_iff]
  intro n _ hn
  have hi:=hp n (by omega)
  have hj:=hp (n+1) (by omega)
  have:=ha n (Nat.zero_le _) hn
  unfold okI at this
  rw [dup_iff (by omega),sub64 (by omega) (by omega)] at this
  simp only [Bool.and_eq_true,Bool.not_eq_true',neqF,inB_iff] at this
  obtain ⟨⟨⟨c1,c2⟩,c3⟩,c4⟩:=this
  unfold okS
  simp only [Bool.and_eq_true,Bool.not_eq_true',neqF,gtrF,inB_iff]
  exact ⟨⟨⟨⟨c1,by omega,by omega⟩,c3⟩,c4⟩,by omega⟩
noncomputable def fixAt (h:Int) (f:List Int):Nat→Bool
 | 0=>inB (f.getD 0 zI) 1 (rArith .sub .i64 h 1)
 | n+1=>inB (f.getD (n+1) zI) 1 (rArith .sub .i64 h 1) && Bool.not (rCmp .leq (f.getD (n+1) zI) (f.getD n zI))
noncomputable def foundAt (f:List Int) (l:List Bx) (n:Nat):Bool:=l.any fun b=>rCmp .eql b.1 (f.getD n zI)
theorem specFound_eq (h:Int) (f:List Int) (l:List Bx) (n:Nat) (hn:n < f.length) (hl:l.length≤1073741824):spec_ColumnOk_l2 (h,f,l,(n:Int),()) (false,0,())=some (.inl (foundAt f l n,())):=by
 have:=loop_end (body:=spec_ColumnOk_b2 (h,f,l,(n:Int),())) (fun k=>((l.take k).any fun b=>rCmp .eql b.1 (f.getD n zI),(k:Int),())) l.length (by omega) (.inl (foundAt f l n,())) (fun k hk=>?_) ?_
 ·exact this
 ·unfold spec_ColumnOk_b2
  rw [take_snoc hk zIIIB,List.any_append]
  simp only [lss_len,hk,hn,decide_true,cond_true,inR_nat,get_nat,succ64 (n:=k) (by omega)]
  cases (l.take k).any fun b=>rCmp .eql b.1 (f.getD n zI) with
  | true=>rfl
  | false=>simp [List.any]
 ·unfold spec_ColumnOk_b2 foundAt
  simp only [lss_len,Nat.lt_irrefl,decide_false,cond_false,List.take_length]
theorem pred1 {n:Nat} (h:n < 1099511627776):rArith .sub .i64 ((n+1:Nat):Int) 1=(n:Int):=pred64 h
theorem gt1 (n:Nat):rCmp .gtr ((n+1:Nat):Int) 0=true:=by simp only [rCmp,gt_iff_lt,decide_eq_true_eq];omega
noncomputable def colS (h:Int) (f:List Int) (l:List Bx):Bool:=inB h 1 24 && ((allFrom (okS l) 0 l.length && (rCmp .gtr (rLen l) 0 && rCmp .eql (psum l l.length) h)) && allFrom (fun n=>fixAt h f n && foundAt f l n) 0 f.length)
theorem specColumn_eq (h:Int) (f:List Int) (l:List Bx) (hf:f.length≤1073741824) (hl:l.length≤1073741824):spec_ColumnOk h f l=some (colS h f l,()):=by
 unfold spec_ColumnOk colS
 rw [in_eq,specBoxes_eq h f l hl]
 simp only [Option.bind_some]
 have:spec_ColumnOk_l0 (h,f,l,()) (0,())=some (bif allFrom (fun n=>fixAt h f n && foundAt f l n) 0 f.length then (Sum.inr (Sum.inl ()):Bool×Unit ⊕ (Unit ⊕ Empty)) else .inl (false,())):=by
  refine loop_all (fun n=>((n:Int),())) f.length (by omega) (fun n=>fixAt h f n && foundAt f l n) _ _ (fun n hn=>?_) ?_
  ·unfold spec_ColumnOk_b0
   simp only [lss_len,hn,decide_true,cond_true,inR_nat,get_nat,in_eq,Option.bind_some,succ64 (n:=n) (by omega),specFound_eq h f l n hn hl,Sum.elim_inl]
   cases n with
   | zero =>
    unfold fixAt
    rw [show rCmp .gtr ((0:Nat):Int) 0=false from rfl]
    cases inB (f.getD 0 zI) 1 (rArith .sub .i64 h 1) <;> cases foundAt f l 0 <;> rfl
   | succ m =>
    have hm:m < f.length:=by omega
    unfold fixAt
    rw [gt1,pred1 (by omega)]
    simp only [inR_nat,get_nat,hm,decide_true,cond_true]
    cases inB (f.getD (m+1) zI) 1 (rArith .sub .i64 h 1) <;> cases rCmp .leq (f.getD (m+1) zI) (f.getD m zI) <;> cases foundAt f l (m+1) <;> rfl
  ·unfold spec_ColumnOk_b0
   simp only [lss_len,Nat.lt_irrefl,decide_false,cond_false]
 rw [this]
 cases inB h 1 24 with
 | false=>rfl
 | true =>
  simp only [Bool.not_true,cond_false,Bool.true_and]
  cases (allFrom (okS l) 0 l.length && (rCmp .gtr (rLen l) 0 && rCmp .eql (psum l l.length) h)) with
  | false=>rfl
  | true =>
   simp only [Bool.not_true,cond_false,Bool.true_and]
   cases allFrom (fun n=>fixAt h f n && foundAt f l n) 0 f.length <;> rfl
noncomputable def colI (h:Int) (f:List Int) (l:List Bx):Bool:=inB h 1 24 && (Bool.not (rCmp .eql (rLen l) 0) && (allFrom (fixAt h f) 0 f.length && (allFrom (okI h l) 0 l.length && (allFrom (fun n=>rMget (putAll [] (lows l)) (f.getD n zI)) 0 f.length && rCmp .eql (psum l l.length) h))))
theorem implColumn_eq (h:Int) (f:List Int) (l:List Bx) (hf:f.length≤1073741824) (hl:l.length≤1073741824):impl_ColumnOk h f l=some (colI h f l,()):=by
 unfold impl_ColumnOk colI
 rw [within_eq]
 simp only [Option.bind_some]
 have h0:impl_ColumnOk_l0 (h,f,l,f,rLen f,()) (0,())=some (bif allFrom (fixAt h f) 0 f.length then (Sum.inr (Sum.inl ()):Bool×Unit ⊕ (Unit ⊕ Empty)) else .inl (false,())):=by
  refine loop_all (fun n=>((n:Int),())) f.length (by omega) (fixAt h f) _ _ (fun n hn=>?_) ?_
  ·unfold impl_ColumnOk_b0
   simp only [lss_len,hn,decide_true,cond_true,inR_nat,get_nat,within_eq,Option.bind_some,succ64 (n:=n) (by omega)]
   cases n with
   | zero =>
    unfold fixAt
    rw [show rCmp .gtr ((0:Nat):Int) 0=false from rfl]
    cases inB (f.getD 0 zI) 1 (rArith .sub .i64 h 1) <;> rfl
   | succ m =>
    have hm:m < f.length:=by omega
    unfold fixAt
    rw [gt1,pred1 (by omega)]
    simp only [inR_nat,get_nat,hm,decide_true,cond_true]
    cases inB (f.getD (m+1) zI) 1 (rArith .sub .i64 h 1) <;> cases rCmp .leq (f.getD (m+1) zI) (f.getD m zI) <;> rfl
  ·unfold impl_ColumnOk_b0
   simp only [lss_len,Nat.lt_irrefl,decide_false,cond_false]
 have h4:impl_ColumnOk_l4 (h,f,l,psum l l.length,f,rLen f,()) (putAll [] (lows l),0,())=some (bif allFrom (fun n=>rMget (putAll [] (lows l)) (f.getD n zI)) 0 f.length then (Sum.inr (Sum.inl ()):Bool×Unit ⊕ (Unit ⊕ Empty)) else .inl (false,())):=by
  refine loop_all (fun n=>(putAll [] (lows l),(n:Int),())) f.length (by omega) _ _ _ (fun n hn=>?_) ?_
  ·unfold impl_ColumnOk_b4
   simp only [lss_len,hn,decide_true,cond_true,inR_nat,get_nat,succ64 (n:=n) (by omega)]
   cases rMget (putAll [] (lows l)) (f.getD n zI) <;> rfl
  ·unfold impl_ColumnOk_b4
   simp only [lss_len,Nat.lt_irrefl,decide_false,cond_false]
 rw [h0,implBoxes_eq h f l hl]
 cases inB h 1 24 with
 | false=>rfl
 | true =>
  simp only [Bool.not_true,cond_false,Bool.true_and]
  cases rCmp .eql (rLen l) 0 with
  | true=>rfl
  | false =>
   simp only [cond_false,Bool.not_false,Bool.true_and]
   cases allFrom (fixAt h f) 0 f.length with
   | false=>rfl
   | true =>
    simp only [cond_true,Option.bind_some,Sum.elim_inr,Sum.elim_inl,Bool.true_and]
    cases allFrom (okI h l) 0 l.length with
    | false=>rfl
    | true =>
     simp only [cond_true,Option.bind_some,Sum.elim_inr,Sum.elim_inl,Bool.true_and,h4]
     cases allFrom (fun n=>rMget (putAll [] (lows l)) (f.getD n zI)) 0 f.length <;> rfl
theorem found_eq (f:List Int) (l:List Bx) (n:Nat):rMget (putAll [] (lows l)) (f.getD n zI)=foundAt f l n:=by
 rw [Bool.eq_iff_iff,mget_all]
 simp only [rMget,Bool.false_eq_true,false_or,lows,foundAt,List.mem_map,List.any_eq_true,eqlT]
theorem col_eq (h:Int) (f:List Int) (l:List Bx) (hl:l.length≤1073741824):colS h f l=colI h f l:=by
 unfold colS colI
 cases h1:inB h 1 24 with
 | false=>rfl
 | true =>
  obtain ⟨q1,q2⟩:=inB_iff.1 h1
  have hb:=boxes_iff q1 q2 l hl
  have hne:Bool.not (rCmp .eql (rLen l) 0)=rCmp .gtr (rLen l) 0:=by
   cases hq:rCmp .gtr (rLen l) 0 with
   | true =>
    have:rCmp .eql (rLen l) 0=false:=by rw [Bool.eq_false_iff,ne_eq,eqlT];have:=gtrT.1 hq;omega
    rw [this];rfl
   | false =>
    have:rCmp .eql (rLen l) 0=true:=by rw [eqlT];have:=gtrF.1 hq;unfold rLen at this ⊢;omega
    rw [this];rfl
  rw [hne]
  have hfn:(fun n=>rMget (putAll [] (lows l)) (f.getD n zI))=foundAt f l:=funext fun n=>found_eq f l n
  rw [hfn,Bool.eq_iff_iff]
  simp only [Bool.and_eq_true,eqlT,allFrom_iff,Bool.true_and]
  simp only [allFrom_iff] at hb
  constructor
  ·rintro ⟨⟨c1,c2,c3⟩,c4⟩
   obtain ⟨d1,_⟩:=hb.1 ⟨c1,c3⟩
   exact ⟨c2,fun m x y=>(c4 m x y).1,d1,fun m x y=>(c4 m x y).2,c3⟩
  ·rintro ⟨c2,c4,c1,c5,c3⟩
   obtain ⟨d1,_⟩:=hb.2 ⟨c1,c3⟩
   exact ⟨⟨d1,c2,c3⟩,fun m x y=>⟨c4 m x y,c5 m x y⟩⟩
noncomputable def colAt (L:List Col) (i:Nat):Col:=L.getD i zILIlLIIIBl
noncomputable def hasP (l:List Bx) (p:Int):Bool:=l.any fun b=>rCmp .eql b.2.2.1 p
theorem box_eq (h:Int) (f:List Int) (l:List Bx) (p:Int) (hl:l.length≤1073741824):∃ r,spec_l02Box h f l p=some (r,())∧rCmp .geq r 0=(rCmp .gtr p 0 && hasP l p):=by
 unfold spec_l02Box
 obtain ⟨y,h1,h2⟩:=loop_find (body:=spec_l02Box_b0 (p,h,f,l,())) (fun n=>((n:Int),())) l.length (by omega) (fun n=>Bool.not (rCmp .eql (l.getD n zIIIB).2.2.1 p && rCmp .gtr p 0)) (Sum.inr (Sum.inl ())) (fun n=>Sum.inl ((n:Int),())) (fun n hn=>by
  unfold spec_l02Box_b0
  simp only [lss_len,inR_nat,hn,decide_true,cond_true,get_nat,succ64 (n:=n) (by omega)]
  cases rCmp .eql (l.getD n zIIIB).2.2.1 p <;> cases rCmp .gtr p 0 <;> rfl) (by
  unfold spec_l02Box_b0
  simp only [lss_len,Nat.lt_irrefl,decide_false,cond_false])
 have h1':spec_l02Box_l0 (p,h,f,l,()) ((0:Int),())=some y:=h1
 rw [h1']
 rcases h2 with ⟨e1,rfl⟩ | ⟨e1,n,hn,rfl,e3⟩
 ·refine ⟨-1,rfl,?_⟩
  rw [allFrom_iff] at e1
  show false=_
  symm
  rw [Bool.and_eq_false_iff]
  cases hp:rCmp .gtr p 0 with
  | false=>exact .inl rfl
  | true =>
   refine .inr ?_
   rw [Bool.eq_false_iff]
   intro hh
   obtain ⟨b,hb,he⟩:=List.any_eq_true.1 hh
   obtain ⟨n,hn,rfl⟩:=List.mem_iff_getElem.1 hb
   have:=e1 n (Nat.zero_le _) (by omega)
   rw [List.getD_eq_getElem?_getD,List.getElem?_eq_getElem hn,Option.getD_some,he,hp] at this
   cases this
 ·refine ⟨(n:Int),rfl,?_⟩
  have h0:rCmp .geq (n:Int) 0=true:=by simp [rCmp]
  rw [h0]
  symm
  have e3:(rCmp .eql (l.getD n zIIIB).2.2.1 p && rCmp .gtr p 0)=true:=by
   cases hq:(rCmp .eql (l.getD n zIIIB).2.2.1 p && rCmp .gtr p 0) with
   | true=>rfl
   | false=>rw [hq] at e3;first | cases e3 | (simp at e3)
  rw [Bool.and_eq_true] at e3 ⊢
  exact ⟨e3.2,List.any_eq_true.2 ⟨_,getD_mem hn zIIIB,e3.1⟩⟩
noncomputable def crossAt (L:List Col) (i k n:Nat):Bool:=Bool.not (rCmp .gtr (bxAt (colAt L i).2.2 n).2.2.1 0 && hasP (colAt L k).2.2 (bxAt (colAt L i).2.2 n).2.2.1)
noncomputable def bankAtS (L:List Col) (i:Nat):Bool:=colS (colAt L i).1 (colAt L i).2.1 (colAt L i).2.2 && allFrom (fun k=>allFrom (crossAt L i k) 0 (colAt L i).2.2.length) 0 i
noncomputable def bankS (L:List Col):Bool:=inB (rLen L) 1 6 && allFrom (bankAtS L) 0 L.length
noncomputable def BankWf (L:List Col):Prop:=L.length≤1073741824∧∀ c,c∈L→c.2.1.length≤1073741824∧c.2.2.length≤1073741824
theorem BankWf.at {L:List Col} (h:BankWf L) {i:Nat} (hi:i < L.length):(colAt L i).2.1.length≤1073741824∧(colAt L i).2.2.length≤1073741824:=h.2 _ (getD_mem hi _)
theorem specBank_eq (L:List Col) (hw:BankWf L):spec_BankOk L=some (bankS L,()):=by
 have hL:=hw.1
 unfold spec_BankOk bankS
 rw [in_eq]
 simp only [Option.bind_some]
 have h4:∀ i k,i < L.length→k < i→spec_BankOk_l4 (L,(i:Int),(k:Int),()) (0,())=some (bif allFrom (crossAt L i k) 0 (colAt L i).2.2.length then (Sum.inr (Sum.inl ()):Bool×Unit ⊕ (Unit ⊕ Empty)) else .inl (false,())):=by
  intro i k hi hk
  have hki:k < L.length:=by omega
  have hbi:=(hw.at hi).2
  refine loop_all (fun n=>((n:Int),())) (colAt L i).2.2.length (by omega) _ _ _ (fun n hn=>?_) ?_
  ·unfold spec_BankOk_b4
   obtain ⟨r,e1,e2⟩:=box_eq (colAt L k).1 (colAt L k).2.1 (colAt L k).2.2 (bxAt (colAt L i).2.2 n).2.2.1 (hw.at hki).2
   have e1':spec_l02Box (L.getD k zILIlLIIIBl).1 (L.getD k zILIlLIIIBl).2.1 (L.getD k zILIlLIIIBl).2.2 ((L.getD i zILIlLIIIBl).2.2.getD n zIIIB).2.2.1=some (r,()):=e1
   have hn':n < (L.getD i zILIlLIIIBl).2.2.length:=hn
   simp only [inR_nat,hi,hki,decide_true,cond_true,get_nat,lss_len,hn',e1',Option.bind_some,e2,succ64 (n:=n) (by omega)]
   unfold crossAt
   cases (rCmp .gtr (bxAt (colAt L i).2.2 n).2.2.1 0 && hasP (colAt L k).2.2 (bxAt (colAt L i).2.2 n).2.2.1) <;> rfl
  ·unfold spec_BankOk_b4
   have : ¬ ((colAt L i).2.2.length < (L.getD i zILIlLIIIBl).2.2.length):=Nat.lt_irrefl _
   simp only [inR_nat,hi,decide_true,cond_true,get_nat,lss_len,this,decide_false,cond_false]
 have h2:∀ i,i < L.length→spec_BankOk_l2 (L,(i:Int),()) (0,())=some (bif allFrom (fun k=>allFrom (crossAt L i k) 0 (colAt L i).2.2.length) 0 i then (Sum.inr (Sum.inl ()):Bool×Unit ⊕ (Unit ⊕ Empty)) else .inl (false,())):=by
  intro i hi
  refine loop_all (fun n=>((n:Int),())) i (by omega) _ _ _ (fun k hk=>?_) ?_
  ·unfold spec_BankOk_b2
   simp only [lss_nat,hk,decide_true,cond_true,h4 i k hi hk,Option.bind_some,succ64 (n:=k) (by omega)]
   cases allFrom (crossAt L i k) 0 (colAt L i).2.2.length <;> rfl
  ·unfold spec_BankOk_b2
   simp only [lss_nat,Nat.lt_irrefl,decide_false,cond_false]
 have h0:spec_BankOk_l0 (L,()) (0,())=some (bif allFrom (bankAtS L) 0 L.length then (Sum.inr (Sum.inl ()):Bool×Unit ⊕ (Unit ⊕ Empty)) else .inl (false,())):=by
  refine loop_all (fun n=>((n:Int),())) L.length (by omega) _ _ _ (fun i hi=>?_) ?_
  ·unfold spec_BankOk_b0 bankAtS
   have hc:spec_ColumnOk (L.getD i zILIlLIIIBl).1 (L.getD i zILIlLIIIBl).2.1 (L.getD i zILIlLIIIBl).2.2=some (colS (colAt L i).1 (colAt L i).2.1 (colAt L i).2.2,()):=specColumn_eq _ _ _ (hw.at hi).1 (hw.at hi).2
   simp only [lss_len,inR_nat,hi,decide_true,cond_true,get_nat,hc,Option.bind_some,h2 i hi,succ64 (n:=i) (by omega)]
   cases colS (colAt L i).1 (colAt L i).2.1 (colAt L i).2.2 with
   | false=>rfl
   | true=>cases allFrom (fun k=>allFrom (crossAt L i k) 0 (colAt L i).2.2.length) 0 i <;> rfl
  ·unfold spec_BankOk_b0
   simp only [lss_len,Nat.lt_irrefl,decide_false,cond_false]
 rw [h0]
 cases inB (rLen L) 1 6 with
 | false=>rfl
 | true=>cases allFrom (bankAtS L) 0 L.length <;> rfl
noncomputable def parsTo (L:List Col) (i:Nat):List Int:=((L.take i).map fun c=>pars c.2.2).flatten
theorem parsTo_succ {L:List Col} {i:Nat} (h:i < L.length):parsTo L (i+1)=parsTo L i++pars (colAt L i).2.2:=by
 unfold parsTo colAt
 rw [take_snoc h zILIlLIIIBl,List.map_append,List.flatten_append]
 simp
theorem putAll_app (m:List (Int×Bool)) (a b:List Int):putAll m (a++b)=putAll (putAll m a) b:=List.foldl_append
noncomputable def ownAt (L:List Col) (i n:Nat):Bool:=Bool.not (rCmp .gtr (bxAt (colAt L i).2.2 n).2.2.1 0 && rMget (putAll (putAll [] (parsTo L i)) (pars ((colAt L i).2.2.take n))) (bxAt (colAt L i).2.2 n).2.2.1)
noncomputable def bankAtI (L:List Col) (i:Nat):Bool:=colI (colAt L i).1 (colAt L i).2.1 (colAt L i).2.2 && allFrom (ownAt L i) 0 (colAt L i).2.2.length
theorem implBank_eq' (L:List Col) (hw:BankWf L):impl_BankOk L=some (inB (rLen L) 1 6 && allFrom (bankAtI L) 0 L.length,()):=by
 have hL:=hw.1
 unfold impl_BankOk
 rw [within_eq]
 simp only [Option.bind_some]
 have h2:∀ i,i < L.length→impl_BankOk_l2 (L,rLen L,(i:Int),(colAt L i).2.2,rLen (colAt L i).2.2,()) (putAll [] (parsTo L i),0,())=some (bif allFrom (ownAt L i) 0 (colAt L i).2.2.length then (Sum.inr (Sum.inl (putAll [] (parsTo L (i+1)),())):Bool×Unit ⊕ ((List (Int×Bool))×Unit ⊕ Empty)) else .inl (false,())):=by
  intro i hi
  have hb:=(hw.at hi).2
  have:=loop_all (body:=impl_BankOk_b2 (L,rLen L,(i:Int),(colAt L i).2.2,rLen (colAt L i).2.2,())) (fun n=>(putAll (putAll [] (parsTo L i)) (pars ((colAt L i).2.2.take n)),(n:Int),())) (colAt L i).2.2.length (by omega) (ownAt L i) (Sum.inr (Sum.inl (putAll [] (parsTo L (i+1)),()))) (Sum.inl (false,())) (fun n hn=>?_) ?_
  ·exact this
  ·unfold impl_BankOk_b2 ownAt
   have e2:putAll (putAll [] (parsTo L i)) (pars ((colAt L i).2.2.take (n+1)))=rMput (putAll (putAll [] (parsTo L i)) (pars ((colAt L i).2.2.take n))) (bxAt (colAt L i).2.2 n).2.2.1 true:=by unfold pars bxAt;rw [take_snoc hn zIIIB,List.map_append];exact putAll_snoc _ _ _
   simp only [lss_len,inR_nat,hn,decide_true,cond_true,get_nat,succ64 (n:=n) (by omega),e2]
   show (bif rCmp .gtr (bxAt (colAt L i).2.2 n).2.2.1 0 then (bif rMget (putAll (putAll [] (parsTo L i)) (pars ((colAt L i).2.2.take n))) (bxAt (colAt L i).2.2 n).2.2.1 then _ else _) else _)=_
   cases rCmp .gtr (bxAt (colAt L i).2.2 n).2.2.1 0 with
   | false=>rfl
   | true=>cases rMget (putAll (putAll [] (parsTo L i)) (pars ((colAt L i).2.2.take n))) (bxAt (colAt L i).2.2 n).2.2.1 <;> rfl
  ·unfold impl_BankOk_b2
   simp only [lss_len,Nat.lt_irrefl,decide_false,cond_false,List.take_length,parsTo_succ hi,putAll_app]
 have h0:impl_BankOk_l0 (L,rLen L,()) ([],0,())=some (bif allFrom (bankAtI L) 0 L.length then (Sum.inr (Sum.inl ()):Bool×Unit ⊕ (Unit ⊕ Empty)) else .inl (false,())):=by
  refine loop_all (fun n=>(putAll [] (parsTo L n),(n:Int),())) L.length (by omega) _ _ _ (fun i hi=>?_) ?_
  ·unfold impl_BankOk_b0 bankAtI
   have hc:impl_ColumnOk (L.getD i zILIlLIIIBl).1 (L.getD i zILIlLIIIBl).2.1 (L.getD i zILIlLIIIBl).2.2=some (colI (colAt L i).1 (colAt L i).2.1 (colAt L i).2.2,()):=implColumn_eq _ _ _ (hw.at hi).1 (hw.at hi).2
   have h2':=h2 i hi
   unfold colAt at h2'
   simp only [lss_len,inR_nat,hi,decide_true,cond_true,get_nat,hc,Option.bind_some,h2',succ64 (n:=i) (by omega)]
   cases colI (colAt L i).1 (colAt L i).2.1 (colAt L i).2.2 with
   | false=>rfl
   | true =>
    show (bif Bool.not true then _ else (some (bif allFrom (ownAt L i) 0 (colAt L i).2.2.length then _ else _)).bind _)=_
    cases allFrom (ownAt L i) 0 (colAt L i).2.2.length <;> rfl
  ·unfold impl_BankOk_b0
   simp only [lss_len,Nat.lt_irrefl,decide_false,cond_false]
 rw [h0]
 cases inB (rLen L) 1 6 with
 | false=>rfl
 | true=>cases allFrom (bankAtI L) 0 L.length <;> rfl
theorem hasP_iff {l:List Bx} {p:Int}:hasP l p=true↔p∈pars l:=by
 simp only [hasP,pars,List.any_eq_true,List.mem_map,eqlT]
theorem parsTo_mem {L:List Col} {i:Nat} (hi:i≤L.length) (p:Int):p∈parsTo L i↔∃ k,k < i∧p∈pars (colAt L k).2.2:=by
 unfold parsTo
 simp only [List.mem_flatten,List.mem_map]
 constructor
 ·rintro ⟨l,⟨c,hc,rfl⟩,hp⟩
  obtain ⟨k,hk,rfl⟩:=(mem_take (z:=zILIlLIIIBl) hi).1 hc
  exact ⟨k,hk,hp⟩
 ·rintro ⟨k,hk,hp⟩
  exact ⟨_,⟨colAt L k,(mem_take (z:=zILIlLIIIBl) hi).2 ⟨k,hk,rfl⟩,rfl⟩,hp⟩
theorem bankAt_eq (L:List Col) (hw:BankWf L) {i:Nat} (hi:i < L.length):bankAtS L i=bankAtI L i:=by
 unfold bankAtS bankAtI
 rw [col_eq _ _ _ (hw.at hi).2]
 cases hc:colI (colAt L i).1 (colAt L i).2.1 (colAt L i).2.2 with
 | false=>rfl
 | true =>
  simp only [Bool.true_and]
  have hdup:∀ n,n < (colAt L i).2.2.length→allFrom (dupIn (colAt L i).2.2 n) 0 n=true:=by
   rw [←col_eq _ _ _ (hw.at hi).2] at hc
   unfold colS at hc
   simp only [Bool.and_eq_true] at hc
   intro n hn
   have:=(allFrom_iff _ _).1 hc.2.1.1 n (Nat.zero_le _) (by omega)
   unfold okS at this
   simp only [Bool.and_eq_true] at this
   exact this.1.2
  rw [Bool.eq_iff_iff,allFrom_iff,allFrom_iff]
  constructor
  ·intro h n _ hn
   unfold ownAt
   rw [Bool.not_eq_true',Bool.and_eq_false_iff]
   cases hg:rCmp .gtr (bxAt (colAt L i).2.2 n).2.2.1 0 with
   | false=>exact .inl rfl
   | true =>
    refine .inr ?_
    cases hm:rMget (putAll (putAll [] (parsTo L i)) (pars ((colAt L i).2.2.take n))) (bxAt (colAt L i).2.2 n).2.2.1 with
    | false=>rfl
    | true =>
     exfalso
     rcases (mget_all _ _ _).1 hm with hm | hm
     ·have:=(mget_all _ _ _).1 hm
      simp only [rMget,Bool.false_eq_true,false_or] at this
      obtain ⟨k,hk,hp⟩:=(parsTo_mem (by omega) _).1 this
      have:=h k (Nat.zero_le _) (by omega)
      have:=(allFrom_iff _ _).1 this n (Nat.zero_le _) hn
      unfold crossAt at this
      rw [hg,hasP_iff.2 hp] at this
      cases this
     ·have hd:=hdup n (by omega)
      rw [←dup_iff (by omega),hg] at hd
      have:rMget (putAll [] (pars ((colAt L i).2.2.take n))) (bxAt (colAt L i).2.2 n).2.2.1=true:=(mget_all _ _ _).2 (.inr hm)
      rw [this] at hd
      cases hd
  ·intro h k _ hk
   rw [allFrom_iff]
   intro n _ hn
   have:=h n (Nat.zero_le _) hn
   unfold ownAt at this
   unfold crossAt
   rw [Bool.not_eq_true',Bool.and_eq_false_iff] at this ⊢
   rcases this with h1 | h1
   ·exact .inl h1
   ·refine .inr ?_
    cases hp:hasP (colAt L k).2.2 (bxAt (colAt L i).2.2 n).2.2.1 with
    | false=>rfl
    | true =>
     have:rMget (putAll (putAll [] (parsTo L i)) (pars ((colAt L i).2.2.take n))) (bxAt (colAt L i).2.2 n).2.2.1=true:=(mget_all _ _ _).2 (.inl ((mget_all _ _ _).2 (.inr ((parsTo_mem (by omega) _).2 ⟨k,by omega,hasP_iff.1 hp⟩))))
     rw [this] at h1
     cases h1
theorem implBank_eq (L:List Col) (hw:BankWf L):impl_BankOk L=some (bankS L,()):=by
 rw [implBank_eq' L hw]
 unfold bankS
 rw [allFrom_congr L.length 0 fun m _ hm=>bankAt_eq L hw (by omega)]
end Go.Fn
set_option linter.unusedVariables false
set_option linter.unusedSimpArgs false
namespace Go.Fn
open Go.R
noncomputable def Sm {α:Type} (P:α→Prop) (x y:Option α):Prop:=∃ r,x=some r∧y=some r∧P r
section
variable {α β:Type} {P:α→Prop} {Q:β→Prop}
theorem Sm.ret {a:α} (h:P a):Sm P (some a) (some a):=⟨a,rfl,rfl,h⟩
theorem Sm.bind {x y:Option α} {f g:α→Option β} (hx:Sm P x y) (h:∀ r,P r→Sm Q (f r) (g r)):Sm Q (x.bind f) (y.bind g):=by
 obtain ⟨r,rfl,rfl,hr⟩:=hx
 exact h r hr
theorem Sm.cond {b:Bool} {x y x' y':Option α} (hx:b=true→Sm P x x') (hy:b=false→Sm P y y'):Sm P (bif b then x else y) (bif b then x' else y'):=by
 cases b
 ·exact hy rfl
 ·exact hx rfl
theorem Sm.guard {b c:Bool} {x y:Option α} (hb:b=true) (hc:c=true) (h:Sm P x y):Sm P (bif b then x else none) (bif c then y else none):=by
 subst hb hc;exact h
theorem Sm.mono {P':α→Prop} {x y:Option α} (h:Sm P x y) (hp:∀ r,P r→P' r):Sm P' x y:=by
 obtain ⟨r,e1,e2,hr⟩:=h
 exact ⟨r,e1,e2,hp r hr⟩
theorem Sm.symm {x y:Option α} (h:Sm P x y):Sm P y x:=by
 obtain ⟨r,e1,e2,hr⟩:=h
 exact ⟨r,e2,e1,hr⟩
theorem same_loop {X Y:Type} {body body':X→Option (X ⊕ Y)} (Inv:X→Prop) (m:X→Nat) {Q:Y→Prop} (h:∀ x,Inv x→Sm (fun r=>match r with | .inl a=>Inv a∧m a < m x | .inr b=>Q b) (body x) (body' x)):∀ (fu:Nat) (x:X),Inv x→m x < fu→Sm Q (iter body fu x) (iter body' fu x)
 | 0,x,_,hm=>absurd hm (Nat.not_lt_zero _)
 | fu+1,x,hi,hm=>by
  obtain ⟨r,e1,e2,hr⟩:=h x hi
  cases r with
  | inl a =>
   rw [iter_next e1,iter_next e2]
   exact same_loop Inv m h fu a hr.1 (by have:=hr.2;omega)
  | inr b=>exact ⟨b,iter_done e1,iter_done e2,hr⟩
end
theorem same_upto {B Y:Type} {body body':B×Int×Unit→Option ((B×Int×Unit) ⊕ Y)} (len:Nat) (hlen:len≤1073741824) {Q:Y→Prop} (I:B→Prop)
  (hs:∀ b n,n < len→I b→Sm (fun r=>match r with | .inl a=>I a.1∧a.2.1=((n+1:Nat):Int) | .inr y=>Q y) (body (b,(n:Int),())) (body' (b,(n:Int),()))) (he:∀ b,I b→Sm (fun r=>match r with | .inl a=>False | .inr y=>Q y) (body (b,(len:Int),())) (body' (b,(len:Int),()))) (b:B) (hb:I b):Sm Q (iter body big (b,0,())) (iter body' big (b,0,())):=by
 refine same_loop (fun x=>I x.1∧0≤x.2.1∧x.2.1≤(len:Int)) (fun x=>((len:Int) - x.2.1).toNat) (fun x hx=>?_) big (b,0,()) ⟨hb,Int.le_refl _,by show (0:Int)≤(len:Int);omega⟩ (lt_big (by show ((len:Int) - 0).toNat < _;omega))
 obtain ⟨b,i,u⟩:=x
 obtain ⟨h0,h1,h2⟩:=hx
 have h1:0≤i:=h1
 have h2:i≤(len:Int):=h2
 obtain ⟨n,rfl⟩:∃ n:Nat,i=(n:Int):=⟨i.toNat,by omega⟩
 by_cases h:n < len
 ·refine (hs b n h h0).mono fun r hr=>?_
  cases r with
  | inr y=>exact hr
  | inl a =>
   obtain ⟨q1,q2⟩:=hr
   refine ⟨⟨q1,by rw [q2];omega,by rw [q2];omega⟩,?_⟩
   show ((len:Int) - a.2.1).toNat < ((len:Int) - (n:Int)).toNat
   rw [q2]
   omega
 ·have hn:n=len:=by omega
  subst hn
  refine (he b h0).mono fun r hr=>?_
  cases r with
  | inl a=>exact hr.elim
  | inr y=>exact hr
theorem same_all {Y:Type} {body body':Int×Unit→Option ((Int×Unit) ⊕ Y)} (len:Nat) (hlen:len≤1073741824) (F:Nat→Prop) {Q:Y→Prop}
  (hs:∀ n,n < len→Sm (fun r=>match r with | .inl a=>a.1=((n+1:Nat):Int)∧F n | .inr y=>Q y) (body ((n:Int),())) (body' ((n:Int),()))) (he:(∀ n,n < len→F n)→Sm (fun r=>match r with | .inl a=>False | .inr y=>Q y) (body ((len:Int),())) (body' ((len:Int),()))):Sm Q (iter body big (0,())) (iter body' big (0,())):=by
 refine same_loop (fun x=>0≤x.1∧x.1≤(len:Int)∧∀ m:Nat,(m:Int) < x.1→F m) (fun x=>((len:Int) - x.1).toNat) (fun x hx=>?_) big (0,()) ⟨Int.le_refl _,by show (0:Int)≤(len:Int);omega,fun m hm=>by have hm:(m:Int) < 0:=hm;omega⟩ (lt_big (by show ((len:Int) - 0).toNat < _;omega))
 obtain ⟨i,u⟩:=x
 obtain ⟨h1,h2,h3⟩:=hx
 have h1:0≤i:=h1
 have h2:i≤(len:Int):=h2
 have h3:∀ m:Nat,(m:Int) < i→F m:=h3
 obtain ⟨n,rfl⟩:∃ n:Nat,i=(n:Int):=⟨i.toNat,by omega⟩
 by_cases h:n < len
 ·refine (hs n h).mono fun r hr=>?_
  cases r with
  | inr y=>exact hr
  | inl a =>
   obtain ⟨q2,q3⟩:a.1=((n+1:Nat):Int)∧F n:=hr
   refine ⟨⟨by rw [q2];omega,by rw [q2];omega,fun m hm=>?_⟩,?_⟩
   ·rw [q2] at hm
    rcases Nat.lt_or_ge m n with hmn | hmn
    ·exact h3 m (by omega)
    ·rw [show m=n by omega];exact q3
   ·show ((len:Int) - a.1).toNat < ((len:Int) - (n:Int)).toNat
    rw [q2]
    omega
 ·have hn:n=len:=by omega
  subst hn
  refine (he fun m hm=>h3 m (by omega)).mono fun r hr=>?_
  cases r with
  | inl a=>exact hr.elim
  | inr y=>exact hr
abbrev Any {α:Type}:α→Prop:=fun _=>True
theorem sm_eq {α:Type} {x y:Option α} {a:α} (h1:x=some a) (h2:y=some a):Sm (fun r=>r=a) x y:=⟨a,h1,h2,rfl⟩
theorem in_sm (a lo hi:Int):Sm (fun r=>r=(inB a lo hi,())) (spec_l01In a lo hi) (impl_within a lo hi):=sm_eq (in_eq a lo hi) (within_eq a lo hi)
theorem door_all:∀ (k:Fin 3) (t:Fin 7) (a b c:Bool),spec_DoorOk ((k.val:Nat):Int) ((t.val:Nat):Int) a b c=impl_DoorOk ((k.val:Nat):Int) ((t.val:Nat):Int) a b c∧(impl_DoorOk ((k.val:Nat):Int) ((t.val:Nat):Int) a b c).isSome=true:=by decide +kernel
theorem door_sm (k t:Int) (a b c:Bool):Sm (fun r=>r.1=true→0≤k∧k≤2) (spec_DoorOk k t a b c) (impl_DoorOk k t a b c):=by
 cases hk:inB k 0 2 with
 | false =>
  refine ⟨(false,()),?_,?_,fun h=>by cases h⟩
  ·unfold spec_DoorOk;rw [in_eq,hk];rfl
  ·unfold impl_DoorOk;rw [within_eq,hk];rfl
 | true =>
  obtain ⟨h1,h2⟩:=inB_iff.1 hk
  cases ht:inB t 0 6 with
  | false =>
   refine ⟨(false,()),?_,?_,fun h=>by cases h⟩
   ·unfold spec_DoorOk;rw [in_eq,hk,in_eq,ht];rfl
   ·unfold impl_DoorOk;rw [within_eq,hk,within_eq,ht];rfl
  | true =>
   obtain ⟨h3,h4⟩:=inB_iff.1 ht
   have:=door_all ⟨k.toNat,by omega⟩ ⟨t.toNat,by omega⟩ a b c
   simp only [Int.toNat_of_nonneg h1,Int.toNat_of_nonneg h3] at this
   obtain ⟨r,hr⟩:=Option.isSome_iff_exists.1 this.2
   exact ⟨r,this.1.trans hr,hr,fun _=>⟨h1,h2⟩⟩
theorem lock_sm (a b c d e:Int):Sm Any (spec_LockOk a b c d e) (impl_LockOk a b c d e):=by
 unfold spec_LockOk impl_LockOk spec_l03Secret impl_secretOk
 simp only [in_eq,within_eq,Option.bind_some]
 cases inB a 1 2147483646 <;> cases inB b 0 1000001 <;> cases inB c 0 2 <;> cases inB d 0 6 <;> exact .ret trivial
theorem grant_sm (a b c d e f:Int) (o:Bool):Sm Any (spec_GrantOk a b c d e f o) (impl_GrantOk a b c d e f o):=by
 unfold spec_GrantOk impl_GrantOk spec_l05Person impl_personOk spec_l05Time impl_timeOk
 simp only [in_eq,within_eq,Option.bind_some]
 cases inB a 1 40 <;> cases inB b 1 40 <;> cases rCmp .neq a b <;> cases inB c 0 999 <;> cases inB d 0 5 <;> cases inB e 0 20000 <;> cases inB f 0 20000 <;> exact .ret trivial
noncomputable def grV (x:Grt):Bool:=match impl_GrantOk x.1 x.2.1 x.2.2.1 x.2.2.2.1 x.2.2.2.2.1 x.2.2.2.2.2.1 x.2.2.2.2.2.2 with | some r=>r.1 | none=>false
theorem grV_eq (x:Grt):spec_GrantOk x.1 x.2.1 x.2.2.1 x.2.2.2.1 x.2.2.2.2.1 x.2.2.2.2.2.1 x.2.2.2.2.2.2=some (grV x,())∧impl_GrantOk x.1 x.2.1 x.2.2.1 x.2.2.2.1 x.2.2.2.2.1 x.2.2.2.2.2.1 x.2.2.2.2.2.2=some (grV x,()):=by
 obtain ⟨r,e1,e2,_⟩:=grant_sm x.1 x.2.1 x.2.2.1 x.2.2.2.1 x.2.2.2.2.1 x.2.2.2.2.2.1 x.2.2.2.2.2.2
 have:grV x=r.1:=by unfold grV;rw [e2]
 rw [this]
 exact ⟨e1,e2⟩
theorem grants_sm (g:List Grt) (hg:g.length≤1073741824):Sm Any (spec_GrantsOk g) (impl_GrantsOk g):=by
 unfold spec_GrantsOk impl_GrantsOk slices_ContainsFunc___impl_Grant_impl_Grant___impl_GrantsOk_1 slices_IndexFunc___impl_Grant_impl_Grant___impl_GrantsOk_1
 have hs:spec_GrantsOk_l0 (g,()) (0,())=some (bif allFrom (fun n=>grV (g.getD n zIIIIIIB)) 0 g.length then (Sum.inr (Sum.inl ()):Bool×Unit ⊕ (Unit ⊕ Empty)) else .inl (false,())):=by
  refine loop_all (fun n=>((n:Int),())) g.length (by omega) _ _ _ (fun n hn=>?_) ?_
  ·unfold spec_GrantsOk_b0
   simp only [lss_len,inR_nat,hn,decide_true,cond_true,get_nat,(grV_eq _).1,Option.bind_some,succ64 (n:=n) (by omega)]
   cases grV (g.getD n zIIIIIIB) <;> rfl
  ·unfold spec_GrantsOk_b0
   simp only [lss_len,Nat.lt_irrefl,decide_false,cond_false]
 obtain ⟨y,h1,h2⟩:=loop_find (body:=slices_IndexFunc___impl_Grant_impl_Grant___impl_GrantsOk_1_b0 (g,rLen g,())) (fun n=>((n:Int),())) g.length (by omega) (fun n=>grV (g.getD n zIIIIIIB)) (Sum.inr (Sum.inl ())) (fun n=>Sum.inl ((n:Int),())) (fun n hn=>by
  unfold slices_IndexFunc___impl_Grant_impl_Grant___impl_GrantsOk_1_b0 impl_GrantsOk_1
  simp only [lss_len,inR_nat,hn,decide_true,cond_true,get_nat,(grV_eq _).2,Option.bind_some,succ64 (n:=n) (by omega)]
  cases grV (g.getD n zIIIIIIB) <;> rfl) (by
  unfold slices_IndexFunc___impl_Grant_impl_Grant___impl_GrantsOk_1_b0
  simp only [lss_len,Nat.lt_irrefl,decide_false,cond_false])
 have h1':slices_IndexFunc___impl_Grant_impl_Grant___impl_GrantsOk_1_l0 (g,rLen g,()) ((0:Int),())=some y:=h1
 rw [hs,h1']
 have hle:rCmp .leq (rLen g) (30:Int)=Bool.not (rCmp .gtr (rLen g) 30):=leq_not _ _
 rw [hle]
 cases rCmp .gtr (rLen g) (30:Int) with
 | true=>exact .ret trivial
 | false =>
  simp only [Bool.not_false,cond_true,cond_false]
  rcases h2 with ⟨e1,rfl⟩ | ⟨e1,n,hn,rfl,_⟩
  ·rw [e1];exact ⟨(true,()),rfl,rfl,trivial⟩
  ·rw [e1]
   have h0:rCmp .geq (n:Int) 0=true:=by simp [rCmp]
   refine ⟨(false,()),rfl,?_,trivial⟩
   show some (Bool.not (rCmp .geq (n:Int) 0),())=_
   rw [h0]
   rfl
section
variable (a0 a1 a2 a3 a4 a5 a6 a7 a8 a9 a10:Int) (s:List Site) (p:List Prc) (g:List Grt) (j:List Ev)
theorem bankWf_of {x:Site} (h:siteLe 1073741824 x):BankWf x.2.2.1:=⟨h.b,fun c hc=>by
 obtain ⟨n,hn,rfl⟩:=List.mem_iff_getElem.1 hc
 have:=h.bs n hn
 rw [List.getD_eq_getElem?_getD,List.getElem?_eq_getElem hn] at this
 exact this⟩
theorem week_sm (o c:List Spn):Sm Any (spec_WeekOk o c) (impl_WeekOk o c):=⟨_,specWeek_eq o c,implWeek_eq o c,trivial⟩
theorem bank_sm {L:List Col} (h:BankWf L):Sm (fun r=>r.1=true→bankS L=true) (spec_BankOk L) (impl_BankOk L):=⟨_,specBank_eq L h,implBank_eq L h,fun h=>h⟩
theorem journal_sm (l:List Ev):Sm Any (spec_JournalOk l) (impl_JournalOk l):=⟨_,specJ_eq l,implJ_eq l,trivial⟩
theorem site_sm (k:Nat) (hk:k < s.length) (hs:siteLe 1073741824 (s.getD k zSite)) (hp:p.length≤1048576):Sm (fun r=>r.1=true→bankS (s.getD k zSite).2.2.1=true) (spec_l09SiteOk a0 a1 a2 a3 a4 a5 a6 a7 a8 a9 a10 s p g j (k:Int)) (impl_siteOk a0 a1 a2 a3 a4 a5 a6 a7 a8 a9 a10 s p g j (k:Int)):=by
 unfold spec_l09SiteOk impl_siteOk
 refine .guard (inR_lt hk) (inR_lt hk) ?_
 simp only [get_nat]
 have hz:s.getD k zLIIlLIIlLILIlLIIIBllIIBBBIILIIIIIIIl=s.getD k zSite:=rfl
 rw [hz]
 generalize s.getD k zSite=x at hs
 have no:∀ {Q:Prop},((false:Bool),()).1=true→Q:=fun h=>by cases h
 refine (week_sm x.1 x.2.1).bind fun r _=>.cond (fun _=>.ret no) fun _=>?_
 refine (bank_sm (bankWf_of hs)).bind fun r hr=>.cond (fun _=>.ret no) fun hb=>?_
 have hbk:bankS x.2.2.1=true:=hr (by cases h:r.1 with | true=>rfl | false=>rw [h] at hb;cases hb)
 refine (door_sm x.2.2.2.1 x.2.2.2.2.1 x.2.2.2.2.2.1 x.2.2.2.2.2.2.1 x.2.2.2.2.2.2.2.1).bind fun r hr=>.cond (fun _=>.ret no) fun hb=>?_
 have hkind:=hr (by cases h:r.1 with | true=>rfl | false=>rw [h] at hb;cases hb)
 refine (journal_sm x.2.2.2.2.2.2.2.2.2.2).bind fun r _=>.cond (fun _=>.ret no) fun _=>?_
 refine .cond (fun _=>?_) fun _=>?_
 ·simp only [lets_def]
  exact .cond (fun _=>.ret fun _=>hbk) fun _=>.ret no
 ·refine (in_sm x.2.2.2.2.2.2.2.2.1 1 (rLen p)).bind fun r hr=>.cond (fun _=>.ret no) fun hb=>?_
  subst hr
  have hin:inB x.2.2.2.2.2.2.2.2.1 1 (rLen p)=true:=by cases h:inB x.2.2.2.2.2.2.2.2.1 1 (rLen p) with | true=>rfl | false=>rw [h] at hb;cases hb
  obtain ⟨i1,i2⟩:=inB_iff.1 hin
  unfold rLen at i2
  have hsub:rArith .sub .i64 x.2.2.2.2.2.2.2.2.1 1=x.2.2.2.2.2.2.2.2.1 - 1:=sub64 (by omega) (by omega)
  rw [hsub]
  have hr:rInR p (x.2.2.2.2.2.2.2.2.1 - 1)=true:=inR_iff (by omega) (by omega)
  rw [hr]
  simp only [cond_true]
  refine .cond (fun _=>.ret no) fun _=>.cond (fun _=>.ret no) fun _=>?_
  obtain ⟨k1,k2⟩:=hkind
  unfold spec_l01In impl_personOk
  simp only [within_eq]
  have hc:x.2.2.2.1=0∨x.2.2.2.1=1∨x.2.2.2.1=2:=by omega
  rcases hc with hc | hc | hc <;> rw [hc]
  ·exact .ret no
  ·show Sm _ (bif rCmp .eql x.2.2.2.2.2.2.2.2.2.1 0 then _ else _) (bif rCmp .eql x.2.2.2.2.2.2.2.2.2.1 0 then _ else _)
   cases rCmp .eql x.2.2.2.2.2.2.2.2.2.1 0 with
   | true=>exact .ret fun _=>hbk
   | false=>exact .ret no
  ·show Sm _ (spec_l01In x.2.2.2.2.2.2.2.2.2.1 0 40 |>.bind _) (bif rCmp .eql x.2.2.2.2.2.2.2.2.2.1 0 then _ else (some (inB x.2.2.2.2.2.2.2.2.2.1 1 40,())).bind fun y=>some (y.1,()))
   rw [in_eq]
   cases hq:rCmp .eql x.2.2.2.2.2.2.2.2.2.1 0 with
   | true =>
    have:x.2.2.2.2.2.2.2.2.2.1=0:=eqlT.1 hq
    rw [this]
    exact ⟨(true,()),rfl,rfl,fun _=>hbk⟩
   | false =>
    have h0:x.2.2.2.2.2.2.2.2.2.1≠0:=fun e=>by rw [eqlT.2 e] at hq;cases hq
    have:inB x.2.2.2.2.2.2.2.2.2.1 0 40=inB x.2.2.2.2.2.2.2.2.2.1 1 40:=by rw [Bool.eq_iff_iff,inB_iff,inB_iff];omega
    rw [this]
    exact ⟨_,rfl,rfl,fun _=>hbk⟩
theorem person_sm (a:Int):Sm Any (spec_l05Person a) (impl_personOk a):=by
 unfold spec_l05Person impl_personOk
 rw [in_eq,within_eq]
 exact .ret trivial
theorem secret_sm (n:Int):Sm Any (spec_SecretOf a0 a1 a2 a3 a4 a5 a6 a7 a8 a9 a10 s p g j n) (impl_SecretOf a0 a1 a2 a3 a4 a5 a6 a7 a8 a9 a10 s p g j n):=by
 obtain ⟨y,e1,e2⟩:=secret_eq a0 a1 a2 a3 a4 a5 a6 a7 a8 a9 a10 s p g j n
 exact ⟨_,e1,e2,trivial⟩
theorem unplaced_sm (x:Prc) (k:Nat) (hk:k < p.length) (hx:p.getD k zIIIIIIIIIIIII=x) (h0:0≤x.2.2.1) (h1:x.2.2.1 < s.length):Sm Any (spec_l09Unplaced a0 a1 a2 a3 a4 a5 a6 a7 a8 a9 a10 s p g j (k:Int)) (impl_isUnplaced a0 a1 a2 a3 a4 a5 a6 a7 a8 a9 a10 s p g j x.1 x.2.1 x.2.2.1 x.2.2.2.1 x.2.2.2.2.1 x.2.2.2.2.2.1 x.2.2.2.2.2.2.1 x.2.2.2.2.2.2.2.1 x.2.2.2.2.2.2.2.2.1 x.2.2.2.2.2.2.2.2.2.1 x.2.2.2.2.2.2.2.2.2.2.1 x.2.2.2.2.2.2.2.2.2.2.2.1 x.2.2.2.2.2.2.2.2.2.2.2.2):=by
 unfold spec_l09Unplaced impl_isUnplaced
 rw [inR_lt hk,get_nat,hx,inR_iff h0 h1]
 simp only [cond_true]
 exact .cond (fun _=>.ret trivial) fun _=>.cond (fun _=>.ret trivial) fun _=>.cond (fun _=>.ret trivial) fun _=>.ret trivial
theorem parcel_sm (k:Nat) (hk:k < p.length) (hs:s.length≤1048576):Sm (fun r=>r.1=true→0≤(p.getD k zIIIIIIIIIIIII).2.2.1∧(p.getD k zIIIIIIIIIIIII).2.2.1 < s.length) (spec_l09ParcelOk a0 a1 a2 a3 a4 a5 a6 a7 a8 a9 a10 s p g j (k:Int)) (impl_parcelOk a0 a1 a2 a3 a4 a5 a6 a7 a8 a9 a10 s p g j (k:Int)):=by
 unfold spec_l09ParcelOk impl_parcelOk
 refine .guard (inR_lt hk) (inR_lt hk) ?_
 simp only [get_nat]
 generalize hx:p.getD k zIIIIIIIIIIIII=x
 have no:∀ {Q:Prop},((false:Bool),()).1=true→Q:=fun h=>by cases h
 refine (in_sm x.1 1 24).bind fun r _=>.cond (fun _=>.ret no) fun _=>?_
 refine (person_sm x.2.1).bind fun r _=>.cond (fun _=>.ret no) fun _=>?_
 refine (in_sm x.2.2.1 0 (rArith .sub .i64 (rLen s) 1)).bind fun r hr=>.cond (fun _=>.ret no) fun hb=>?_
 subst hr
 have hin:inB x.2.2.1 0 (rArith .sub .i64 (rLen s) 1)=true:=by cases h:inB x.2.2.1 0 (rArith .sub .i64 (rLen s) 1) with | true=>rfl | false=>rw [h] at hb;cases hb
 obtain ⟨i1,i2⟩:=inB_iff.1 hin
 rw [sub64 (by unfold rLen;omega) (by unfold rLen;omega)] at i2
 have i2:x.2.2.1 < s.length:=by unfold rLen at i2;omega
 have yes:∀ {b:Bool},b=true→0≤x.2.2.1∧x.2.2.1 < s.length:=fun _=>⟨i1,i2⟩
 refine (in_sm x.2.2.2.1 0 5).bind fun r _=>.cond (fun _=>.ret no) fun _=>?_
 refine .cond (fun _=>.guard (inR_iff i1 i2) (inR_iff i1 i2) (.cond (fun _=>.ret no) fun _=>?_)) fun _=>?_
 all_goals
  refine (unplaced_sm a0 a1 a2 a3 a4 a5 a6 a7 a8 a9 a10 s p g j x k hk hx i1 i2).bind fun r _=>.cond (fun _=>?_) fun _=>?_
  ·refine .cond (fun _=>.cond (fun _=>.cond (fun _=>.cond (fun _=>?_) fun _=>.ret no) fun _=>.ret no) fun _=>.ret no) fun _=>.ret no
   simp only [lets_def]
   exact .ret yes
  ·refine (in_sm x.2.2.2.2.1 0 a10).bind fun r _=>.cond (fun _=>.ret no) fun _=>?_
   refine (in_sm x.2.2.2.2.2.1 0 a7).bind fun r _=>.cond (fun _=>.ret no) fun _=>?_
   refine (lock_sm x.2.2.2.2.2.2.1 x.2.2.2.2.2.2.2.1 x.2.2.2.2.2.2.2.2.1 x.2.2.2.2.2.2.2.2.2.1 x.2.2.2.2.2.2.2.2.2.2.1).bind fun r _=>.cond (fun _=>.ret no) fun _=>?_
   refine (secret_sm a0 a1 a2 a3 a4 a5 a6 a7 a8 a9 a10 s p g j (rArith .add .i64 (k:Int) 1)).bind fun r _=>.cond (fun _=>.ret no) fun _=>?_
   refine .cond (fun _=>?_) fun _=>?_
   ·refine (person_sm x.2.2.2.2.2.2.2.2.2.2.2.1).bind fun r _=>.cond (fun _=>?_) fun _=>.ret no
    exact (in_sm x.2.2.2.2.2.2.2.2.2.2.2.2 0 (rArith .add .i64 a4 (rArith .mul .i64 a6 a7))).bind fun r _=>.ret yes
   ·exact .cond (fun _=>.ret yes) fun _=>.ret no
theorem load_sm (hp:p.length≤1048576) (hs:∀ k,k < p.length→0≤(p.getD k zIIIIIIIIIIIII).2.2.1∧(p.getD k zIIIIIIIIIIIII).2.2.1 < s.length):Sm Any (spec_l09Load a0 a1 a2 a3 a4 a5 a6 a7 a8 a9 a10 s p g j) (impl_loadOf a0 a1 a2 a3 a4 a5 a6 a7 a8 a9 a10 s p g j):=by
 unfold spec_l09Load impl_loadOf
 refine (same_upto (B:=Int) (Q:=Any) p.length (by omega) (fun _=>True) (fun b n hn _=>?_) (fun b _=>?_) (0:Int) trivial).bind fun q _=>?_
 ·unfold spec_l09Load_b0 impl_loadOf_b0
  simp only [lss_len,inR_nat,hn,decide_true,cond_true,get_nat,succ64 (n:=n) (by omega)]
  obtain ⟨h0,h1⟩:=hs n hn
  refine .cond (fun _=>?_) fun _=>.ret ⟨trivial,rfl⟩
  refine (unplaced_sm a0 a1 a2 a3 a4 a5 a6 a7 a8 a9 a10 s p g j (p.getD n zIIIIIIIIIIIII) n hn rfl h0 h1).bind fun r _=>.cond (fun _=>.ret ⟨trivial,rfl⟩) fun _=>.ret ⟨trivial,rfl⟩
 ·unfold spec_l09Load_b0 impl_loadOf_b0
  simp only [lss_len,Nat.lt_irrefl,decide_false,cond_false]
  exact .ret trivial
 ·cases q with
  | inl y=>exact .ret trivial
  | inr e=>exact e.elim
theorem boxes4 (k i:Int) (bank:List Col) (l:List Bx) (hl:l.length≤1073741824) (hpar:∀ n,n < l.length→0≤(l.getD n zIIIB).2.2.1∧(l.getD n zIIIB).2.2.1≤999) (hp:p.length≤1048576) (c:Int) :
  Sm Any (spec_l09BoxesOk_l4 (a0,a1,a2,a3,a4,a5,a6,a7,a8,a9,a10,s,p,g,j,k,i,l,()) (c,0,())) (impl_boxesOk_l4 (a0,a1,a2,a3,a4,a5,a6,a7,a8,a9,a10,s,p,g,j,k,s,rLen s,k,bank,rLen bank,i,l,rLen l,()) (c,0,())):=by
 refine same_upto (B:=Int) (Q:=Any) l.length (by omega) (fun _=>True) (fun b n hn _=>?_) (fun b _=>?_) c trivial
 ·unfold spec_l09BoxesOk_b4 impl_boxesOk_b4
  obtain ⟨h0,h9⟩:=hpar n hn
  revert h0 h9
  simp only [lss_len,inR_nat,hn,decide_true,cond_true,get_nat,succ64 (n:=n) (by omega),within_eq,Option.bind_some,lets_def]
  generalize l.getD n zIIIB=x
  intro h0 h9
  refine .cond (fun _=>.ret ⟨trivial,rfl⟩) fun hz=>?_
  have hz : ¬ x.2.2.1=0:=fun e=>by rw [eqlT.2 e] at hz;cases hz
  have hb:Bool.not (inB x.2.2.1 1 (rLen p))=rCmp .gtr x.2.2.1 (rLen p):=by
   cases hq:rCmp .gtr x.2.2.1 (rLen p) with
   | true =>
    have:=gtrT.1 hq
    have:inB x.2.2.1 1 (rLen p)=false:=by rw [Bool.eq_false_iff,ne_eq,inB_iff];omega
    rw [this];rfl
   | false =>
    have:=gtrF.1 hq
    have:inB x.2.2.1 1 (rLen p)=true:=inB_iff.2 ⟨by omega,by omega⟩
    rw [this];rfl
  rw [hb]
  refine .cond (fun _=>.ret trivial) fun hg=>?_
  have hg:=gtrF.1 hg
  unfold rLen at hg
  rw [sub64 (by omega) (by omega)]
  refine .guard (inR_iff (by omega) (by omega)) (inR_iff (by omega) (by omega)) ?_
  generalize rGet zIIIIIIIIIIIII p (x.2.2.1 - 1)=y
  cases rCmp .neq y.2.2.1 k <;> cases rCmp .neq y.1 x.2.1 <;> cases rCmp .neq y.2.2.2.1 2 <;> cases rCmp .neq y.2.2.2.1 3 <;> cases rCmp .eql y.2.2.2.1 2 <;> cases x.2.2.2 <;> first | exact .ret trivial | exact .ret ⟨trivial,rfl⟩
 ·unfold spec_l09BoxesOk_b4 impl_boxesOk_b4
  simp only [lss_len,Nat.lt_irrefl,decide_false,cond_false]
  exact .ret trivial
theorem boxes2 (k:Nat) (hk:k < s.length) (hs:siteLe 1073741824 (s.getD k zSite)) (hb:bankS (s.getD k zSite).2.2.1=true) (hp:p.length≤1048576) (c:Int) :
  Sm Any (spec_l09BoxesOk_l2 (a0,a1,a2,a3,a4,a5,a6,a7,a8,a9,a10,s,p,g,j,(k:Int),()) (c,0,())) (impl_boxesOk_l2 (a0,a1,a2,a3,a4,a5,a6,a7,a8,a9,a10,s,p,g,j,(k:Int),s,rLen s,(k:Int),(s.getD k zSite).2.2.1,rLen (s.getD k zSite).2.2.1,()) (c,0,())):=by
 have hw:=bankWf_of hs
 refine same_upto (B:=Int) (Q:=Any) (s.getD k zSite).2.2.1.length (by have:=hw.1;omega) (fun _=>True) (fun b n hn _=>?_) (fun b _=>?_) c trivial
 ·unfold spec_l09BoxesOk_b2 impl_boxesOk_b2
  have hz:s.getD k zLIIlLIIlLILIlLIIIBllIIBBBIILIIIIIIIl=s.getD k zSite:=rfl
  simp only [inR_nat,hk,decide_true,cond_true,get_nat,hz,lss_len,hn,succ64 (n:=n) (by have:=hw.1;omega)]
  refine (boxes4 a0 a1 a2 a3 a4 a5 a6 a7 a8 a9 a10 s p g j (k:Int) (n:Int) (s.getD k zSite).2.2.1 (colAt (s.getD k zSite).2.2.1 n).2.2 (hw.at hn).2 (fun m hm=>?_) hp b).bind fun q _=>?_
  ·unfold bankS at hb
   rw [Bool.and_eq_true] at hb
   have:=(allFrom_iff _ _).1 hb.2 n (Nat.zero_le _) (by omega)
   unfold bankAtS colS at this
   simp only [Bool.and_eq_true] at this
   have:=(allFrom_iff _ _).1 this.1.2.1.1 m (Nat.zero_le _) (by omega)
   unfold okS at this
   simp only [Bool.and_eq_true] at this
   exact inB_iff.1 this.1.1.2
  ·cases q with
   | inl y=>exact .ret trivial
   | inr q =>
    cases q with
    | inl y=>exact .ret ⟨trivial,rfl⟩
    | inr e=>exact e.elim
 ·unfold spec_l09BoxesOk_b2 impl_boxesOk_b2
  have hz:s.getD k zLIIlLIIlLILIlLIIIBllIIBBBIILIIIIIIIl=s.getD k zSite:=rfl
  simp only [inR_nat,hk,decide_true,cond_true,get_nat,hz,lss_len,Nat.lt_irrefl,decide_false,cond_false]
  exact .ret trivial
theorem boxes_sm (hle:netLe s p g j) (hb:∀ k,k < s.length→bankS (s.getD k zSite).2.2.1=true):Sm Any (spec_l09BoxesOk a0 a1 a2 a3 a4 a5 a6 a7 a8 a9 a10 s p g j) (impl_boxesOk a0 a1 a2 a3 a4 a5 a6 a7 a8 a9 a10 s p g j):=by
 have hls:=hle.ls
 have hlp:=hle.lp
 unfold spec_l09BoxesOk impl_boxesOk
 refine (same_upto (B:=Int) (Q:=Any) s.length (by omega) (fun _=>True) (fun b n hn _=>?_) (fun b _=>?_) (0:Int) trivial).bind fun q _=>?_
 ·unfold spec_l09BoxesOk_b0 impl_boxesOk_b0
  have hz:∀ n,s.getD n zLIIlLIIlLILIlLIIIBllIIBBBIILIIIIIIIl=s.getD n zSite:=fun _=>rfl
  simp only [lss_len,inR_nat,hn,decide_true,cond_true,get_nat,succ64 (n:=n) (by omega),hz]
  refine (boxes2 a0 a1 a2 a3 a4 a5 a6 a7 a8 a9 a10 s p g j n hn (hle.ss n hn) (hb n hn) hlp b).bind fun q _=>?_
  cases q with
  | inl y=>exact .ret trivial
  | inr q =>
   cases q with
   | inl y=>exact .ret ⟨trivial,rfl⟩
   | inr e=>exact e.elim
 ·unfold spec_l09BoxesOk_b0 impl_boxesOk_b0
  simp only [lss_len,Nat.lt_irrefl,decide_false,cond_false]
  exact .ret trivial
 ·cases q with
  | inl y=>exact .ret trivial
  | inr q =>
   cases q with
   | inr e=>exact e.elim
   | inl y =>
    refine (same_upto (B:=Int) (Q:=Any) p.length (by omega) (fun _=>True) (fun b n hn _=>?_) (fun b _=>?_) y.1 trivial).bind fun q _=>?_
    ·unfold spec_l09BoxesOk_b6 impl_boxesOk_b6
     simp only [lss_len,inR_nat,hn,decide_true,cond_true,get_nat,succ64 (n:=n) (by omega)]
     exact .cond (fun _=>.ret ⟨trivial,rfl⟩) fun _=>.cond (fun _=>.ret ⟨trivial,rfl⟩) fun _=>.ret ⟨trivial,rfl⟩
    ·unfold spec_l09BoxesOk_b6 impl_boxesOk_b6
     simp only [lss_len,Nat.lt_irrefl,decide_false,cond_false]
     exact .ret trivial
    ·cases q with
     | inl y=>exact .ret trivial
     | inr e=>exact e.elim
theorem network_sm (hle:netLe s p g j):Sm Any (spec_NetworkOk a0 a1 a2 a3 a4 a5 a6 a7 a8 a9 a10 s p g j) (impl_NetworkOk a0 a1 a2 a3 a4 a5 a6 a7 a8 a9 a10 s p g j):=by
 have hls:=hle.ls
 have hlp:=hle.lp
 have hlg:=hle.lg
 unfold spec_NetworkOk impl_NetworkOk
 refine Sm.bind (P:=Any) ⟨_,specTerms_eq ..,implTerms_eq ..,trivial⟩ fun r _=>.cond (fun _=>.ret trivial) fun _=>?_
 refine (in_sm a8 0 1000).bind fun r _=>.cond (fun _=>.ret trivial) fun _=>?_
 refine Sm.bind (P:=Any) (by unfold spec_l03Secret impl_secretOk;rw [in_eq,within_eq];exact .ret trivial) fun r _=>.cond (fun _=>.ret trivial) fun _=>?_
 refine Sm.bind (P:=Any) (by rw [in_eq,timeOk_eq];exact .ret trivial) fun r _=>.cond (fun _=>.ret trivial) fun _=>?_
 refine (in_sm (rLen s) 1 3).bind fun r _=>.cond (fun _=>.ret trivial) fun _=>.cond (fun _=>.ret trivial) fun _=>?_
 refine (grants_sm g (by omega)).bind fun r _=>.cond (fun _=>.ret trivial) fun _=>?_
 refine (journal_sm j).bind fun r _=>.cond (fun _=>.ret trivial) fun _=>?_
 refine (same_all s.length (by omega) (fun n=>bankS (s.getD n zSite).2.2.1=true) (Q:=fun y=>match y with | .inl _=>True | .inr _=>∀ n,n < s.length→bankS (s.getD n zSite).2.2.1=true) (fun n hn=>?_) (fun hF=>?_)).bind fun q hq=>?_
 ·unfold spec_NetworkOk_b0 impl_NetworkOk_b0
  simp only [lss_len,hn,decide_true,cond_true,succ64 (n:=n) (by omega)]
  refine (site_sm a0 a1 a2 a3 a4 a5 a6 a7 a8 a9 a10 s p g j n hn (hle.ss n hn) hlp).bind fun r hr=>.cond (fun _=>.ret trivial) fun hb=>.ret ⟨rfl,hr ?_⟩
  cases h:r.1 with | true=>rfl | false=>rw [h] at hb;cases hb
 ·unfold spec_NetworkOk_b0 impl_NetworkOk_b0
  simp only [lss_len,Nat.lt_irrefl,decide_false,cond_false]
  exact .ret hF
 ·cases q with
  | inl y=>exact .ret trivial
  | inr q =>
   cases q with
   | inr e=>exact e.elim
   | inl y =>
    have hbank:∀ n,n < s.length→bankS (s.getD n zSite).2.2.1=true:=hq
    refine (same_all p.length (by omega) (fun n=>0≤(p.getD n zIIIIIIIIIIIII).2.2.1∧(p.getD n zIIIIIIIIIIIII).2.2.1 < s.length) (Q:=fun y=>match y with | .inl _=>True | .inr _=>∀ n,n < p.length→0≤(p.getD n zIIIIIIIIIIIII).2.2.1∧(p.getD n zIIIIIIIIIIIII).2.2.1 < s.length) (fun n hn=>?_) (fun hF=>?_)).bind fun q hq=>?_
    ·unfold spec_NetworkOk_b2 impl_NetworkOk_b2
     simp only [lss_len,hn,decide_true,cond_true,succ64 (n:=n) (by omega)]
     refine (parcel_sm a0 a1 a2 a3 a4 a5 a6 a7 a8 a9 a10 s p g j n hn hls).bind fun r hr=>.cond (fun _=>.ret trivial) fun hb=>.ret ⟨rfl,hr ?_⟩
     cases h:r.1 with | true=>rfl | false=>rw [h] at hb;cases hb
    ·unfold spec_NetworkOk_b2 impl_NetworkOk_b2
     simp only [lss_len,Nat.lt_irrefl,decide_false,cond_false]
     exact .ret hF
    ·cases q with
     | inl y=>exact .ret trivial
     | inr q =>
      cases q with
      | inr e=>exact e.elim
      | inl y =>
       refine (boxes_sm a0 a1 a2 a3 a4 a5 a6 a7 a8 a9 a10 s p g j hle hbank).bind fun r _=>.cond (fun _=>?_) fun _=>.ret trivial
       exact (load_sm a0 a1 a2 a3 a4 a5 a6 a7 a8 a9 a10 s p g j hlp hq).bind fun r _=>.ret trivial
end
end Go.Fn
set_option linter.unusedVariables false
namespace Go.Fn
open Go.R
noncomputable def zLIIlLIIl:(List (Int×Int))×List (Int×Int):=(([]:List (Int×Int)),([]:List (Int×Int)))
noncomputable def zLILIlLIIIBll:List (Int×(List (Int))×List (Int×Int×Int×Bool)):=([]:List (Int×(List (Int))×List (Int×Int×Int×Bool)))
noncomputable def laws_szWeekS_b0 (k:(List ((List (Int×Int))×List (Int×Int)))×Unit) (x:Int×Int×Unit):Option ((Int×Int×Unit) ⊕ (Int×Unit ⊕ (Int×Unit ⊕ Empty))):=
 (bif (rCmp .lss x.2.1 (rLen k.1)) then (bif (rInR k.1 x.2.1) then ((laws_szWeek (rGet zLIIlLIIl k.1 x.2.1).1 (rGet zLIIlLIIl k.1 x.2.1).2 x.1).bind fun y0=>(bif (rCmp .lss y0.1 (0:Int)) then some (.inr (.inl ((-1:Int),()))) else some (.inl (y0.1,(rArith .add .i64 x.2.1 (1:Int)),())))) else none) else some (.inr (.inr (.inl (x.1,())))))
noncomputable def laws_szWeekS_l0 (k:(List ((List (Int×Int))×List (Int×Int)))×Unit) (x:Int×Int×Unit):Option (Int×Unit ⊕ (Int×Unit ⊕ Empty)):=iter (laws_szWeekS_b0 k) big x
noncomputable def laws_szWeekS (a0:(List ((List (Int×Int))×List (Int×Int)))) (a1:Int):Option (Int×Unit):=
 (bif (rCmp .lss (rArith .sub .i64 a1 (rLen a0)) (0:Int)) then some ((-1:Int),()) else ((laws_szWeekS_l0 (a0,()) ((rArith .sub .i64 a1 (rLen a0)),(0:Int),())).bind fun q0=>(Sum.elim (fun y1=>some (y1.1,())) (fun q2=>(Sum.elim (fun y3=>some (y3.1,())) (fun q4=>(Empty.elim q4)) q2)) q0)))
noncomputable def laws_szColumnSS_b0 (k:(List (List (Int×(List (Int))×List (Int×Int×Int×Bool))))×Unit) (x:Int×Int×Unit):Option ((Int×Int×Unit) ⊕ (Int×Unit ⊕ (Int×Unit ⊕ Empty))):=
 (bif (rCmp .lss x.2.1 (rLen k.1)) then (bif (rInR k.1 x.2.1) then ((laws_szColumnS (rGet zLILIlLIIIBll k.1 x.2.1) x.1).bind fun y0=>(bif (rCmp .lss y0.1 (0:Int)) then some (.inr (.inl ((-1:Int),()))) else some (.inl (y0.1,(rArith .add .i64 x.2.1 (1:Int)),())))) else none) else some (.inr (.inr (.inl (x.1,())))))
noncomputable def laws_szColumnSS_l0 (k:(List (List (Int×(List (Int))×List (Int×Int×Int×Bool))))×Unit) (x:Int×Int×Unit):Option (Int×Unit ⊕ (Int×Unit ⊕ Empty)):=iter (laws_szColumnSS_b0 k) big x
noncomputable def laws_szColumnSS (a0:(List (List (Int×(List (Int))×List (Int×Int×Int×Bool))))) (a1:Int):Option (Int×Unit):=
 (bif (rCmp .lss (rArith .sub .i64 a1 (rLen a0)) (0:Int)) then some ((-1:Int),()) else ((laws_szColumnSS_l0 (a0,()) ((rArith .sub .i64 a1 (rLen a0)),(0:Int),())).bind fun q0=>(Sum.elim (fun y1=>some (y1.1,())) (fun q2=>(Sum.elim (fun y3=>some (y3.1,())) (fun q4=>(Empty.elim q4)) q2)) q0)))
noncomputable def laws_toWeekS_b0 (k:(List ((List (Int×Int))×List (Int×Int)))×Unit) (x:(List ((List (Int×Int))×List (Int×Int)))×Int×Unit):Option (((List ((List (Int×Int))×List (Int×Int)))×Int×Unit) ⊕ ((List ((List (Int×Int))×List (Int×Int)))×Unit ⊕ Empty)):=
 (bif (rCmp .lss x.2.1 (rLen k.1)) then (bif (rInR k.1 x.2.1) then ((laws_toWeek (rGet zLIIlLIIl k.1 x.2.1).1 (rGet zLIIlLIIl k.1 x.2.1).2).bind fun y0=>(bif (rInR x.1 x.2.1) then some (.inl ((rPut x.1 x.2.1 (y0.1,y0.2.1)),(rArith .add .i64 x.2.1 (1:Int)),())) else none)) else none) else some (.inr (.inl (x.1,()))))
noncomputable def laws_toWeekS_l0 (k:(List ((List (Int×Int))×List (Int×Int)))×Unit) (x:(List ((List (Int×Int))×List (Int×Int)))×Int×Unit):Option ((List ((List (Int×Int))×List (Int×Int)))×Unit ⊕ Empty):=iter (laws_toWeekS_b0 k) big x
noncomputable def laws_toWeekS (a0:(List ((List (Int×Int))×List (Int×Int)))):Option ((List ((List (Int×Int))×List (Int×Int)))×Unit):=
 (bif (rRepOk (rLen a0)) then ((laws_toWeekS_l0 (a0,()) ((rRep (rLen a0) (([]:List (Int×Int)),([]:List (Int×Int)))),(0:Int),())).bind fun q0=>(Sum.elim (fun y1=>some (y1.1,())) (fun q2=>(Empty.elim q2)) q0)) else none)
noncomputable def laws_toColumnSS_b0 (k:(List (List (Int×(List (Int))×List (Int×Int×Int×Bool))))×Unit) (x:(List (List (Int×(List (Int))×List (Int×Int×Int×Bool))))×Int×Unit):Option (((List (List (Int×(List (Int))×List (Int×Int×Int×Bool))))×Int×Unit) ⊕ ((List (List (Int×(List (Int))×List (Int×Int×Int×Bool))))×Unit ⊕ Empty)):=
 (bif (rCmp .lss x.2.1 (rLen k.1)) then (bif (rInR k.1 x.2.1) then ((laws_toColumnS (rGet zLILIlLIIIBll k.1 x.2.1)).bind fun y0=>(bif (rInR x.1 x.2.1) then some (.inl ((rPut x.1 x.2.1 y0.1),(rArith .add .i64 x.2.1 (1:Int)),())) else none)) else none) else some (.inr (.inl (x.1,()))))
noncomputable def laws_toColumnSS_l0 (k:(List (List (Int×(List (Int))×List (Int×Int×Int×Bool))))×Unit) (x:(List (List (Int×(List (Int))×List (Int×Int×Int×Bool))))×Int×Unit):Option ((List (List (Int×(List (Int))×List (Int×Int×Int×Bool))))×Unit ⊕ Empty):=iter (laws_toColumnSS_b0 k) big x
noncomputable def laws_toColumnSS (a0:(List (List (Int×(List (Int))×List (Int×Int×Int×Bool))))):Option ((List (List (Int×(List (Int))×List (Int×Int×Int×Bool))))×Unit):=
 (bif (rRepOk (rLen a0)) then ((laws_toColumnSS_l0 (a0,()) ((rRep (rLen a0) ([]:List (Int×(List (Int))×List (Int×Int×Int×Bool)))),(0:Int),())).bind fun q0=>(Sum.elim (fun y1=>some (y1.1,())) (fun q2=>(Empty.elim q2)) q0)) else none)
noncomputable def spec_l09Week (a0:(List (Int×Int))) (a1:(List (Int×Int))):Option ((List (Int×Int))×(List (Int×Int))×Unit):=
 (bif (rSmall (List.append (α:=Int×Int) ([]:List (Int×Int)) a0)) then (bif (rSmall (List.append (α:=Int×Int) ([]:List (Int×Int)) a1)) then some ((List.append (α:=Int×Int) ([]:List (Int×Int)) a0),(List.append (α:=Int×Int) ([]:List (Int×Int)) a1),()) else none) else none)
noncomputable def spec_l02Copy (a0:Int) (a1:(List (Int))) (a2:(List (Int×Int×Int×Bool))):Option (Int×(List (Int))×(List (Int×Int×Int×Bool))×Unit):=
 (bif (rSmall (List.append (α:=Int) ([]:List (Int)) a1)) then (bif (rSmall (List.append (α:=Int×Int×Int×Bool) ([]:List (Int×Int×Int×Bool)) a2)) then some (a0,(List.append (α:=Int) ([]:List (Int)) a1),(List.append (α:=Int×Int×Int×Bool) ([]:List (Int×Int×Int×Bool)) a2),()) else none) else none)
noncomputable def spec_l02CopyBank_b0 (k:(List (Int×(List (Int))×List (Int×Int×Int×Bool)))×Unit) (x:(List (Int×(List (Int))×List (Int×Int×Int×Bool)))×Int×Unit):Option (((List (Int×(List (Int))×List (Int×Int×Int×Bool)))×Int×Unit) ⊕ ((List (Int×(List (Int))×List (Int×Int×Int×Bool)))×Unit ⊕ Empty)):=
 (bif (rCmp .lss x.2.1 (rLen k.1)) then (bif (rInR k.1 x.2.1) then ((spec_l02Copy (rGet zILIlLIIIBl k.1 x.2.1).1 (rGet zILIlLIIIBl k.1 x.2.1).2.1 (rGet zILIlLIIIBl k.1 x.2.1).2.2).bind fun y0=>(bif (rSmall (List.append (α:=Int×(List (Int))×List (Int×Int×Int×Bool)) x.1 (List.append (α:=Int×(List (Int))×List (Int×Int×Int×Bool)) ([]:List (Int×(List (Int))×List (Int×Int×Int×Bool))) [(y0.1,y0.2.1,y0.2.2.1)]))) then some (.inl ((List.append (α:=Int×(List (Int))×List (Int×Int×Int×Bool)) x.1 (List.append (α:=Int×(List (Int))×List (Int×Int×Int×Bool)) ([]:List (Int×(List (Int))×List (Int×Int×Int×Bool))) [(y0.1,y0.2.1,y0.2.2.1)])),(rArith .add .i64 x.2.1 (1:Int)),())) else none)) else none) else some (.inr (.inl (x.1,()))))
noncomputable def spec_l02CopyBank_l0 (k:(List (Int×(List (Int))×List (Int×Int×Int×Bool)))×Unit) (x:(List (Int×(List (Int))×List (Int×Int×Int×Bool)))×Int×Unit):Option ((List (Int×(List (Int))×List (Int×Int×Int×Bool)))×Unit ⊕ Empty):=iter (spec_l02CopyBank_b0 k) big x
noncomputable def spec_l02CopyBank (a0:(List (Int×(List (Int))×List (Int×Int×Int×Bool)))):Option ((List (Int×(List (Int))×List (Int×Int×Int×Bool)))×Unit):=
 ((spec_l02CopyBank_l0 (a0,()) (([]:List (Int×(List (Int))×List (Int×Int×Int×Bool))),(0:Int),())).bind fun q0=>(Sum.elim (fun y1=>some (y1.1,())) (fun q2=>(Empty.elim q2)) q0))
noncomputable def spec_NewNetwork_b0 (k:(List ((List (Int×Int))×List (Int×Int)))×(List (List (Int×(List (Int))×List (Int×Int×Int×Bool))))×Unit) (x:Int×Int×Int×Int×Int×Int×Int×Int×Int×Int×Int×(List ((List (Int×Int))×(List (Int×Int))×(List (Int×(List (Int))×List (Int×Int×Int×Bool)))×Int×Int×Bool×Bool×Bool×Int×Int×List (Int×Int×Int×Int×Int×Int×Int)))×(List (Int×Int×Int×Int×Int×Int×Int×Int×Int×Int×Int×Int×Int))×(List (Int×Int×Int×Int×Int×Int×Bool))×(List (Int×Int×Int×Int×Int×Int×Int))×Int×Int×Int×Int×Int×Int×Int×Int×Int×Int×Int×(List ((List (Int×Int))×(List (Int×Int))×(List (Int×(List (Int))×List (Int×Int×Int×Bool)))×Int×Int×Bool×Bool×Bool×Int×Int×List (Int×Int×Int×Int×Int×Int×Int)))×(List (Int×Int×Int×Int×Int×Int×Int×Int×Int×Int×Int×Int×Int))×(List (Int×Int×Int×Int×Int×Int×Bool))×(List (Int×Int×Int×Int×Int×Int×Int))×Int×Unit):Option ((Int×Int×Int×Int×Int×Int×Int×Int×Int×Int×Int×(List ((List (Int×Int))×(List (Int×Int))×(List (Int×(List (Int))×List (Int×Int×Int×Bool)))×Int×Int×Bool×Bool×Bool×Int×Int×List (Int×Int×Int×Int×Int×Int×Int)))×(List (Int×Int×Int×Int×Int×Int×Int×Int×Int×Int×Int×Int×Int))×(List (Int×Int×Int×Int×Int×Int×Bool))×(List (Int×Int×Int×Int×Int×Int×Int))×Int×Int×Int×Int×Int×Int×Int×Int×Int×Int×Int×(List ((List (Int×Int))×(List (Int×Int))×(List (Int×(List (Int))×List (Int×Int×Int×Bool)))×Int×Int×Bool×Bool×Bool×Int×Int×List (Int×Int×Int×Int×Int×Int×Int)))×(List (Int×Int×Int×Int×Int×Int×Int×Int×Int×Int×Int×Int×Int))×(List (Int×Int×Int×Int×Int×Int×Bool))×(List (Int×Int×Int×Int×Int×Int×Int))×Int×Unit) ⊕ (Int×Int×Int×Int×Int×Int×Int×Int×Int×Int×Int×(List ((List (Int×Int))×(List (Int×Int))×(List (Int×(List (Int))×List (Int×Int×Int×Bool)))×Int×Int×Bool×Bool×Bool×Int×Int×List (Int×Int×Int×Int×Int×Int×Int)))×(List (Int×Int×Int×Int×Int×Int×Int×Int×Int×Int×Int×Int×Int))×(List (Int×Int×Int×Int×Int×Int×Bool))×(List (Int×Int×Int×Int×Int×Int×Int))×Int×Int×Int×Int×Int×Int×Int×Int×Int×Int×Int×(List ((List (Int×Int))×(List (Int×Int))×(List (Int×(List (Int))×List (Int×Int×Int×Bool)))×Int×Int×Bool×Bool×Bool×Int×Int×List (Int×Int×Int×Int×Int×Int×Int)))×(List (Int×Int×Int×Int×Int×Int×Int×Int×Int×Int×Int×Int×Int))×(List (Int×Int×Int×Int×Int×Int×Bool))×(List (Int×Int×Int×Int×Int×Int×Int))×Unit ⊕ Empty)):=
 (bif (rCmp .lss x.2.2.2.2.2.2.2.2.2.2.2.2.2.2.2.2.2.2.2.2.2.2.2.2.2.2.2.2.2.2.1 (rLen k.1)) then (bif (rInR k.1 x.2.2.2.2.2.2.2.2.2.2.2.2.2.2.2.2.2.2.2.2.2.2.2.2.2.2.2.2.2.2.1) then ((spec_l09Week (rGet zLIIlLIIl k.1 x.2.2.2.2.2.2.2.2.2.2.2.2.2.2.2.2.2.2.2.2.2.2.2.2.2.2.2.2.2.2.1).1 (rGet zLIIlLIIl k.1 x.2.2.2.2.2.2.2.2.2.2.2.2.2.2.2.2.2.2.2.2.2.2.2.2.2.2.2.2.2.2.1).2).bind fun y0=>(bif (rInR k.2.1 x.2.2.2.2.2.2.2.2.2.2.2.2.2.2.2.2.2.2.2.2.2.2.2.2.2.2.2.2.2.2.1) then ((spec_l02CopyBank (rGet zLILIlLIIIBll k.2.1 x.2.2.2.2.2.2.2.2.2.2.2.2.2.2.2.2.2.2.2.2.2.2.2.2.2.2.2.2.2.2.1)).bind fun y1=>(bif (rSmall (List.append (α:=(List (Int×Int))×(List (Int×Int))×(List (Int×(List (Int))×List (Int×Int×Int×Bool)))×Int×Int×Bool×Bool×Bool×Int×Int×List (Int×Int×Int×Int×Int×Int×Int)) x.2.2.2.2.2.2.2.2.2.2.2.2.2.2.2.2.2.2.2.2.2.2.2.2.2.2.1 (List.append (α:=(List (Int×Int))×(List (Int×Int))×(List (Int×(List (Int))×List (Int×Int×Int×Bool)))×Int×Int×Bool×Bool×Bool×Int×Int×List (Int×Int×Int×Int×Int×Int×Int)) ([]:List ((List (Int×Int))×(List (Int×Int))×(List (Int×(List (Int))×List (Int×Int×Int×Bool)))×Int×Int×Bool×Bool×Bool×Int×Int×List (Int×Int×Int×Int×Int×Int×Int))) [(y0.1,y0.2.1,y1.1,(0:Int),(0:Int),false,false,false,(0:Int),(0:Int),([]:List (Int×Int×Int×Int×Int×Int×Int)))]))) then (lets (List.append (α:=(List (Int×Int))×(List (Int×Int))×(List (Int×(List (Int))×List (Int×Int×Int×Bool)))×Int×Int×Bool×Bool×Bool×Int×Int×List (Int×Int×Int×Int×Int×Int×Int)) x.2.2.2.2.2.2.2.2.2.2.2.2.2.2.2.2.2.2.2.2.2.2.2.2.2.2.1 (List.append (α:=(List (Int×Int))×(List (Int×Int))×(List (Int×(List (Int))×List (Int×Int×Int×Bool)))×Int×Int×Bool×Bool×Bool×Int×Int×List (Int×Int×Int×Int×Int×Int×Int)) ([]:List ((List (Int×Int))×(List (Int×Int))×(List (Int×(List (Int))×List (Int×Int×Int×Bool)))×Int×Int×Bool×Bool×Bool×Int×Int×List (Int×Int×Int×Int×Int×Int×Int))) [(y0.1,y0.2.1,y1.1,(0:Int),(0:Int),false,false,false,(0:Int),(0:Int),([]:List (Int×Int×Int×Int×Int×Int×Int)))])) fun v2=>some (.inl (x.1,x.2.1,x.2.2.1,x.2.2.2.1,x.2.2.2.2.1,x.2.2.2.2.2.1,x.2.2.2.2.2.2.1,x.2.2.2.2.2.2.2.1,x.2.2.2.2.2.2.2.2.1,x.2.2.2.2.2.2.2.2.2.1,x.2.2.2.2.2.2.2.2.2.2.1,x.2.2.2.2.2.2.2.2.2.2.2.1,x.2.2.2.2.2.2.2.2.2.2.2.2.1,x.2.2.2.2.2.2.2.2.2.2.2.2.2.1,x.2.2.2.2.2.2.2.2.2.2.2.2.2.2.1,x.2.2.2.2.2.2.2.2.2.2.2.2.2.2.2.1,x.2.2.2.2.2.2.2.2.2.2.2.2.2.2.2.2.1,x.2.2.2.2.2.2.2.2.2.2.2.2.2.2.2.2.2.1,x.2.2.2.2.2.2.2.2.2.2.2.2.2.2.2.2.2.2.1,x.2.2.2.2.2.2.2.2.2.2.2.2.2.2.2.2.2.2.2.1,x.2.2.2.2.2.2.2.2.2.2.2.2.2.2.2.2.2.2.2.2.1,x.2.2.2.2.2.2.2.2.2.2.2.2.2.2.2.2.2.2.2.2.2.1,x.2.2.2.2.2.2.2.2.2.2.2.2.2.2.2.2.2.2.2.2.2.2.1,x.2.2.2.2.2.2.2.2.2.2.2.2.2.2.2.2.2.2.2.2.2.2.2.1,x.2.2.2.2.2.2.2.2.2.2.2.2.2.2.2.2.2.2.2.2.2.2.2.2.1,x.2.2.2.2.2.2.2.2.2.2.2.2.2.2.2.2.2.2.2.2.2.2.2.2.2.1,v2,x.2.2.2.2.2.2.2.2.2.2.2.2.2.2.2.2.2.2.2.2.2.2.2.2.2.2.2.1,x.2.2.2.2.2.2.2.2.2.2.2.2.2.2.2.2.2.2.2.2.2.2.2.2.2.2.2.2.1,x.2.2.2.2.2.2.2.2.2.2.2.2.2.2.2.2.2.2.2.2.2.2.2.2.2.2.2.2.2.1,(rArith .add .i64 x.2.2.2.2.2.2.2.2.2.2.2.2.2.2.2.2.2.2.2.2.2.2.2.2.2.2.2.2.2.2.1 (1:Int)),()))) else none)) else none)) else none) else some (.inr (.inl (x.1,x.2.1,x.2.2.1,x.2.2.2.1,x.2.2.2.2.1,x.2.2.2.2.2.1,x.2.2.2.2.2.2.1,x.2.2.2.2.2.2.2.1,x.2.2.2.2.2.2.2.2.1,x.2.2.2.2.2.2.2.2.2.1,x.2.2.2.2.2.2.2.2.2.2.1,x.2.2.2.2.2.2.2.2.2.2.2.1,x.2.2.2.2.2.2.2.2.2.2.2.2.1,x.2.2.2.2.2.2.2.2.2.2.2.2.2.1,x.2.2.2.2.2.2.2.2.2.2.2.2.2.2.1,x.2.2.2.2.2.2.2.2.2.2.2.2.2.2.2.1,x.2.2.2.2.2.2.2.2.2.2.2.2.2.2.2.2.1,x.2.2.2.2.2.2.2.2.2.2.2.2.2.2.2.2.2.1,x.2.2.2.2.2.2.2.2.2.2.2.2.2.2.2.2.2.2.1,x.2.2.2.2.2.2.2.2.2.2.2.2.2.2.2.2.2.2.2.1,x.2.2.2.2.2.2.2.2.2.2.2.2.2.2.2.2.2.2.2.2.1,x.2.2.2.2.2.2.2.2.2.2.2.2.2.2.2.2.2.2.2.2.2.1,x.2.2.2.2.2.2.2.2.2.2.2.2.2.2.2.2.2.2.2.2.2.2.1,x.2.2.2.2.2.2.2.2.2.2.2.2.2.2.2.2.2.2.2.2.2.2.2.1,x.2.2.2.2.2.2.2.2.2.2.2.2.2.2.2.2.2.2.2.2.2.2.2.2.1,x.2.2.2.2.2.2.2.2.2.2.2.2.2.2.2.2.2.2.2.2.2.2.2.2.2.1,x.2.2.2.2.2.2.2.2.2.2.2.2.2.2.2.2.2.2.2.2.2.2.2.2.2.2.1,x.2.2.2.2.2.2.2.2.2.2.2.2.2.2.2.2.2.2.2.2.2.2.2.2.2.2.2.1,x.2.2.2.2.2.2.2.2.2.2.2.2.2.2.2.2.2.2.2.2.2.2.2.2.2.2.2.2.1,x.2.2.2.2.2.2.2.2.2.2.2.2.2.2.2.2.2.2.2.2.2.2.2.2.2.2.2.2.2.1,()))))
noncomputable def spec_NewNetwork_l0 (k:(List ((List (Int×Int))×List (Int×Int)))×(List (List (Int×(List (Int))×List (Int×Int×Int×Bool))))×Unit) (x:Int×Int×Int×Int×Int×Int×Int×Int×Int×Int×Int×(List ((List (Int×Int))×(List (Int×Int))×(List (Int×(List (Int))×List (Int×Int×Int×Bool)))×Int×Int×Bool×Bool×Bool×Int×Int×List (Int×Int×Int×Int×Int×Int×Int)))×(List (Int×Int×Int×Int×Int×Int×Int×Int×Int×Int×Int×Int×Int))×(List (Int×Int×Int×Int×Int×Int×Bool))×(List (Int×Int×Int×Int×Int×Int×Int))×Int×Int×Int×Int×Int×Int×Int×Int×Int×Int×Int×(List ((List (Int×Int))×(List (Int×Int))×(List (Int×(List (Int))×List (Int×Int×Int×Bool)))×Int×Int×Bool×Bool×Bool×Int×Int×List (Int×Int×Int×Int×Int×Int×Int)))×(List (Int×Int×Int×Int×Int×Int×Int×Int×Int×Int×Int×Int×Int))×(List (Int×Int×Int×Int×Int×Int×Bool))×(List (Int×Int×Int×Int×Int×Int×Int))×Int×Unit):Option (Int×Int×Int×Int×Int×Int×Int×Int×Int×Int×Int×(List ((List (Int×Int))×(List (Int×Int))×(List (Int×(List (Int))×List (Int×Int×Int×Bool)))×Int×Int×Bool×Bool×Bool×Int×Int×List (Int×Int×Int×Int×Int×Int×Int)))×(List (Int×Int×Int×Int×Int×Int×Int×Int×Int×Int×Int×Int×Int))×(List (Int×Int×Int×Int×Int×Int×Bool))×(List (Int×Int×Int×Int×Int×Int×Int))×Int×Int×Int×Int×Int×Int×Int×Int×Int×Int×Int×(List ((List (Int×Int))×(List (Int×Int))×(List (Int×(List (Int))×List (Int×Int×Int×Bool)))×Int×Int×Bool×Bool×Bool×Int×Int×List (Int×Int×Int×Int×Int×Int×Int)))×(List (Int×Int×Int×Int×Int×Int×Int×Int×Int×Int×Int×Int×Int))×(List (Int×Int×Int×Int×Int×Int×Bool))×(List (Int×Int×Int×Int×Int×Int×Int))×Unit ⊕ Empty):=iter (spec_NewNetwork_b0 k) big x
noncomputable def spec_NewNetwork (a0:Int) (a1:Int) (a2:Int) (a3:Int) (a4:Int) (a5:Int) (a6:Int) (a7:Int) (a8:Int) (a9:Int) (a10:(List ((List (Int×Int))×List (Int×Int)))) (a11:(List (List (Int×(List (Int))×List (Int×Int×Int×Bool))))):Option (Int×Int×Int×Int×Int×Int×Int×Int×Int×Int×Int×(List ((List (Int×Int))×(List (Int×Int))×(List (Int×(List (Int))×List (Int×Int×Int×Bool)))×Int×Int×Bool×Bool×Bool×Int×Int×List (Int×Int×Int×Int×Int×Int×Int)))×(List (Int×Int×Int×Int×Int×Int×Int×Int×Int×Int×Int×Int×Int))×(List (Int×Int×Int×Int×Int×Int×Bool))×(List (Int×Int×Int×Int×Int×Int×Int))×Bool×Unit):=
 (bif (rCmp .neq (rLen a10) (rLen a11)) then some ((0:Int),(0:Int),(0:Int),(0:Int),(0:Int),(0:Int),(0:Int),(0:Int),(0:Int),(0:Int),(0:Int),([]:List ((List (Int×Int))×(List (Int×Int))×(List (Int×(List (Int))×List (Int×Int×Int×Bool)))×Int×Int×Bool×Bool×Bool×Int×Int×List (Int×Int×Int×Int×Int×Int×Int))),([]:List (Int×Int×Int×Int×Int×Int×Int×Int×Int×Int×Int×Int×Int)),([]:List (Int×Int×Int×Int×Int×Int×Bool)),([]:List (Int×Int×Int×Int×Int×Int×Int)),false,()) else (bif (rCmp .gtr (rLen a10) (3:Int)) then some ((0:Int),(0:Int),(0:Int),(0:Int),(0:Int),(0:Int),(0:Int),(0:Int),(0:Int),(0:Int),(0:Int),([]:List ((List (Int×Int))×(List (Int×Int))×(List (Int×(List (Int))×List (Int×Int×Int×Bool)))×Int×Int×Bool×Bool×Bool×Int×Int×List (Int×Int×Int×Int×Int×Int×Int))),([]:List (Int×Int×Int×Int×Int×Int×Int×Int×Int×Int×Int×Int×Int)),([]:List (Int×Int×Int×Int×Int×Int×Bool)),([]:List (Int×Int×Int×Int×Int×Int×Int)),false,()) else ((spec_NewNetwork_l0 (a10,a11,()) ((0:Int),(0:Int),(0:Int),(0:Int),(0:Int),(0:Int),(0:Int),(0:Int),(0:Int),(0:Int),(0:Int),([]:List ((List (Int×Int))×(List (Int×Int))×(List (Int×(List (Int))×List (Int×Int×Int×Bool)))×Int×Int×Bool×Bool×Bool×Int×Int×List (Int×Int×Int×Int×Int×Int×Int))),([]:List (Int×Int×Int×Int×Int×Int×Int×Int×Int×Int×Int×Int×Int)),([]:List (Int×Int×Int×Int×Int×Int×Bool)),([]:List (Int×Int×Int×Int×Int×Int×Int)),a0,a1,a2,a3,a4,a5,a6,a7,a8,a9,(0:Int),([]:List ((List (Int×Int))×(List (Int×Int))×(List (Int×(List (Int))×List (Int×Int×Int×Bool)))×Int×Int×Bool×Bool×Bool×Int×Int×List (Int×Int×Int×Int×Int×Int×Int))),([]:List (Int×Int×Int×Int×Int×Int×Int×Int×Int×Int×Int×Int×Int)),([]:List (Int×Int×Int×Int×Int×Int×Bool)),([]:List (Int×Int×Int×Int×Int×Int×Int)),(0:Int),())).bind fun q0=>(Sum.elim (fun y1=>((spec_NetworkOk y1.2.2.2.2.2.2.2.2.2.2.2.2.2.2.2.1 y1.2.2.2.2.2.2.2.2.2.2.2.2.2.2.2.2.1 y1.2.2.2.2.2.2.2.2.2.2.2.2.2.2.2.2.2.1 y1.2.2.2.2.2.2.2.2.2.2.2.2.2.2.2.2.2.2.1 y1.2.2.2.2.2.2.2.2.2.2.2.2.2.2.2.2.2.2.2.1 y1.2.2.2.2.2.2.2.2.2.2.2.2.2.2.2.2.2.2.2.2.1 y1.2.2.2.2.2.2.2.2.2.2.2.2.2.2.2.2.2.2.2.2.2.1 y1.2.2.2.2.2.2.2.2.2.2.2.2.2.2.2.2.2.2.2.2.2.2.1 y1.2.2.2.2.2.2.2.2.2.2.2.2.2.2.2.2.2.2.2.2.2.2.2.1 y1.2.2.2.2.2.2.2.2.2.2.2.2.2.2.2.2.2.2.2.2.2.2.2.2.1 y1.2.2.2.2.2.2.2.2.2.2.2.2.2.2.2.2.2.2.2.2.2.2.2.2.2.1 y1.2.2.2.2.2.2.2.2.2.2.2.2.2.2.2.2.2.2.2.2.2.2.2.2.2.2.1 y1.2.2.2.2.2.2.2.2.2.2.2.2.2.2.2.2.2.2.2.2.2.2.2.2.2.2.2.1 y1.2.2.2.2.2.2.2.2.2.2.2.2.2.2.2.2.2.2.2.2.2.2.2.2.2.2.2.2.1 y1.2.2.2.2.2.2.2.2.2.2.2.2.2.2.2.2.2.2.2.2.2.2.2.2.2.2.2.2.2.1).bind fun y2=>(bif (Bool.not y2.1) then some ((0:Int),(0:Int),(0:Int),(0:Int),(0:Int),(0:Int),(0:Int),(0:Int),(0:Int),(0:Int),(0:Int),([]:List ((List (Int×Int))×(List (Int×Int))×(List (Int×(List (Int))×List (Int×Int×Int×Bool)))×Int×Int×Bool×Bool×Bool×Int×Int×List (Int×Int×Int×Int×Int×Int×Int))),([]:List (Int×Int×Int×Int×Int×Int×Int×Int×Int×Int×Int×Int×Int)),([]:List (Int×Int×Int×Int×Int×Int×Bool)),([]:List (Int×Int×Int×Int×Int×Int×Int)),false,()) else some (y1.2.2.2.2.2.2.2.2.2.2.2.2.2.2.2.1,y1.2.2.2.2.2.2.2.2.2.2.2.2.2.2.2.2.1,y1.2.2.2.2.2.2.2.2.2.2.2.2.2.2.2.2.2.1,y1.2.2.2.2.2.2.2.2.2.2.2.2.2.2.2.2.2.2.1,y1.2.2.2.2.2.2.2.2.2.2.2.2.2.2.2.2.2.2.2.1,y1.2.2.2.2.2.2.2.2.2.2.2.2.2.2.2.2.2.2.2.2.1,y1.2.2.2.2.2.2.2.2.2.2.2.2.2.2.2.2.2.2.2.2.2.1,y1.2.2.2.2.2.2.2.2.2.2.2.2.2.2.2.2.2.2.2.2.2.2.1,y1.2.2.2.2.2.2.2.2.2.2.2.2.2.2.2.2.2.2.2.2.2.2.2.1,y1.2.2.2.2.2.2.2.2.2.2.2.2.2.2.2.2.2.2.2.2.2.2.2.2.1,y1.2.2.2.2.2.2.2.2.2.2.2.2.2.2.2.2.2.2.2.2.2.2.2.2.2.1,y1.2.2.2.2.2.2.2.2.2.2.2.2.2.2.2.2.2.2.2.2.2.2.2.2.2.2.1,y1.2.2.2.2.2.2.2.2.2.2.2.2.2.2.2.2.2.2.2.2.2.2.2.2.2.2.2.1,y1.2.2.2.2.2.2.2.2.2.2.2.2.2.2.2.2.2.2.2.2.2.2.2.2.2.2.2.2.1,y1.2.2.2.2.2.2.2.2.2.2.2.2.2.2.2.2.2.2.2.2.2.2.2.2.2.2.2.2.2.1,true,())))) (fun q2=>(Empty.elim q2)) q0))))
noncomputable def slices_Clone___impl_Span_impl_Span_ (a0:(List (Int×Int))):Option ((List (Int×Int))×Unit):=
 (bif (rCmp .gtr (rLen a0) (0:Int)) then (bif (rSmall (List.append (α:=Int×Int) ([]:List (Int×Int)) a0)) then some ((List.append (α:=Int×Int) ([]:List (Int×Int)) a0),()) else none) else (both (some (([]:List (Int×Int)),())) ((bif (rSmall (List.append (α:=Int×Int) ([]:List (Int×Int)) a0)) then some ((List.append (α:=Int×Int) ([]:List (Int×Int)) a0),()) else none))))
noncomputable def impl_copyWeek (a0:(List (Int×Int))) (a1:(List (Int×Int))):Option ((List (Int×Int))×(List (Int×Int))×Unit):=
 ((slices_Clone___impl_Span_impl_Span_ a0).bind fun y0=>((slices_Clone___impl_Span_impl_Span_ a1).bind fun y1=>some (y0.1,y1.1,())))
noncomputable def slices_Clone___impl_Box_impl_Box_ (a0:(List (Int×Int×Int×Bool))):Option ((List (Int×Int×Int×Bool))×Unit):=
 (bif (rCmp .gtr (rLen a0) (0:Int)) then (bif (rSmall (List.append (α:=Int×Int×Int×Bool) ([]:List (Int×Int×Int×Bool)) a0)) then some ((List.append (α:=Int×Int×Int×Bool) ([]:List (Int×Int×Int×Bool)) a0),()) else none) else (both (some (([]:List (Int×Int×Int×Bool)),())) ((bif (rSmall (List.append (α:=Int×Int×Int×Bool) ([]:List (Int×Int×Int×Bool)) a0)) then some ((List.append (α:=Int×Int×Int×Bool) ([]:List (Int×Int×Int×Bool)) a0),()) else none))))
noncomputable def impl_copyColumn (a0:Int) (a1:(List (Int))) (a2:(List (Int×Int×Int×Bool))):Option (Int×(List (Int))×(List (Int×Int×Int×Bool))×Unit):=
 ((slices_Clone___int_int_ a1).bind fun y0=>((slices_Clone___impl_Box_impl_Box_ a2).bind fun y1=>some (a0,y0.1,y1.1,())))
noncomputable def impl_copyBank_b0 (k:(List (Int×(List (Int))×List (Int×Int×Int×Bool)))×Int×Unit) (x:(List (Int×(List (Int))×List (Int×Int×Int×Bool)))×Int×Unit):Option (((List (Int×(List (Int))×List (Int×Int×Int×Bool)))×Int×Unit) ⊕ ((List (Int×(List (Int))×List (Int×Int×Int×Bool)))×Unit ⊕ Empty)):=
 (bif (rCmp .lss x.2.1 k.2.1) then (bif (rInR k.1 x.2.1) then ((impl_copyColumn (rGet zILIlLIIIBl k.1 x.2.1).1 (rGet zILIlLIIIBl k.1 x.2.1).2.1 (rGet zILIlLIIIBl k.1 x.2.1).2.2).bind fun y0=>(bif (rSmall (List.append (α:=Int×(List (Int))×List (Int×Int×Int×Bool)) x.1 (List.append (α:=Int×(List (Int))×List (Int×Int×Int×Bool)) ([]:List (Int×(List (Int))×List (Int×Int×Int×Bool))) [(y0.1,y0.2.1,y0.2.2.1)]))) then some (.inl ((List.append (α:=Int×(List (Int))×List (Int×Int×Int×Bool)) x.1 (List.append (α:=Int×(List (Int))×List (Int×Int×Int×Bool)) ([]:List (Int×(List (Int))×List (Int×Int×Int×Bool))) [(y0.1,y0.2.1,y0.2.2.1)])),(rArith .add .i64 x.2.1 (1:Int)),())) else none)) else none) else some (.inr (.inl (x.1,()))))
noncomputable def impl_copyBank_l0 (k:(List (Int×(List (Int))×List (Int×Int×Int×Bool)))×Int×Unit) (x:(List (Int×(List (Int))×List (Int×Int×Int×Bool)))×Int×Unit):Option ((List (Int×(List (Int))×List (Int×Int×Int×Bool)))×Unit ⊕ Empty):=iter (impl_copyBank_b0 k) big x
noncomputable def impl_copyBank (a0:(List (Int×(List (Int))×List (Int×Int×Int×Bool)))):Option ((List (Int×(List (Int))×List (Int×Int×Int×Bool)))×Unit):=
 ((impl_copyBank_l0 (a0,(rLen a0),()) (([]:List (Int×(List (Int))×List (Int×Int×Int×Bool))),(0:Int),())).bind fun q0=>(Sum.elim (fun y1=>some (y1.1,())) (fun q2=>(Empty.elim q2)) q0))
noncomputable def impl_NewNetwork_b0 (k:(List (List (Int×(List (Int))×List (Int×Int×Int×Bool))))×(List ((List (Int×Int))×List (Int×Int)))×Int×Unit) (x:Int×Int×Int×Int×Int×Int×Int×Int×Int×Int×Int×(List ((List (Int×Int))×(List (Int×Int))×(List (Int×(List (Int))×List (Int×Int×Int×Bool)))×Int×Int×Bool×Bool×Bool×Int×Int×List (Int×Int×Int×Int×Int×Int×Int)))×(List (Int×Int×Int×Int×Int×Int×Int×Int×Int×Int×Int×Int×Int))×(List (Int×Int×Int×Int×Int×Int×Bool))×(List (Int×Int×Int×Int×Int×Int×Int))×Int×Int×Int×Int×Int×Int×Int×Int×Int×Int×Int×(List ((List (Int×Int))×(List (Int×Int))×(List (Int×(List (Int))×List (Int×Int×Int×Bool)))×Int×Int×Bool×Bool×Bool×Int×Int×List (Int×Int×Int×Int×Int×Int×Int)))×(List (Int×Int×Int×Int×Int×Int×Int×Int×Int×Int×Int×Int×Int))×(List (Int×Int×Int×Int×Int×Int×Bool))×(List (Int×Int×Int×Int×Int×Int×Int))×Int×Unit):Option ((Int×Int×Int×Int×Int×Int×Int×Int×Int×Int×Int×(List ((List (Int×Int))×(List (Int×Int))×(List (Int×(List (Int))×List (Int×Int×Int×Bool)))×Int×Int×Bool×Bool×Bool×Int×Int×List (Int×Int×Int×Int×Int×Int×Int)))×(List (Int×Int×Int×Int×Int×Int×Int×Int×Int×Int×Int×Int×Int))×(List (Int×Int×Int×Int×Int×Int×Bool))×(List (Int×Int×Int×Int×Int×Int×Int))×Int×Int×Int×Int×Int×Int×Int×Int×Int×Int×Int×(List ((List (Int×Int))×(List (Int×Int))×(List (Int×(List (Int))×List (Int×Int×Int×Bool)))×Int×Int×Bool×Bool×Bool×Int×Int×List (Int×Int×Int×Int×Int×Int×Int)))×(List (Int×Int×Int×Int×Int×Int×Int×Int×Int×Int×Int×Int×Int))×(List (Int×Int×Int×Int×Int×Int×Bool))×(List (Int×Int×Int×Int×Int×Int×Int))×Int×Unit) ⊕ (Int×Int×Int×Int×Int×Int×Int×Int×Int×Int×Int×(List ((List (Int×Int))×(List (Int×Int))×(List (Int×(List (Int))×List (Int×Int×Int×Bool)))×Int×Int×Bool×Bool×Bool×Int×Int×List (Int×Int×Int×Int×Int×Int×Int)))×(List (Int×Int×Int×Int×Int×Int×Int×Int×Int×Int×Int×Int×Int))×(List (Int×Int×Int×Int×Int×Int×Bool))×(List (Int×Int×Int×Int×Int×Int×Int))×Int×Int×Int×Int×Int×Int×Int×Int×Int×Int×Int×(List ((List (Int×Int))×(List (Int×Int))×(List (Int×(List (Int))×List (Int×Int×Int×Bool)))×Int×Int×Bool×Bool×Bool×Int×Int×List (Int×Int×Int×Int×Int×Int×Int)))×(List (Int×Int×Int×Int×Int×Int×Int×Int×Int×Int×Int×Int×Int))×(List (Int×Int×Int×Int×Int×Int×Bool))×(List (Int×Int×Int×Int×Int×Int×Int))×Unit ⊕ Empty)):=
 (bif (rCmp .lss x.2.2.2.2.2.2.2.2.2.2.2.2.2.2.2.2.2.2.2.2.2.2.2.2.2.2.2.2.2.2.1 k.2.2.1) then (bif (rInR k.2.1 x.2.2.2.2.2.2.2.2.2.2.2.2.2.2.2.2.2.2.2.2.2.2.2.2.2.2.2.2.2.2.1) then ((impl_copyWeek (rGet zLIIlLIIl k.2.1 x.2.2.2.2.2.2.2.2.2.2.2.2.2.2.2.2.2.2.2.2.2.2.2.2.2.2.2.2.2.2.1).1 (rGet zLIIlLIIl k.2.1 x.2.2.2.2.2.2.2.2.2.2.2.2.2.2.2.2.2.2.2.2.2.2.2.2.2.2.2.2.2.2.1).2).bind fun y0=>(bif (rInR k.1 x.2.2.2.2.2.2.2.2.2.2.2.2.2.2.2.2.2.2.2.2.2.2.2.2.2.2.2.2.2.2.1) then ((impl_copyBank (rGet zLILIlLIIIBll k.1 x.2.2.2.2.2.2.2.2.2.2.2.2.2.2.2.2.2.2.2.2.2.2.2.2.2.2.2.2.2.2.1)).bind fun y1=>(bif (rSmall (List.append (α:=(List (Int×Int))×(List (Int×Int))×(List (Int×(List (Int))×List (Int×Int×Int×Bool)))×Int×Int×Bool×Bool×Bool×Int×Int×List (Int×Int×Int×Int×Int×Int×Int)) x.2.2.2.2.2.2.2.2.2.2.2.2.2.2.2.2.2.2.2.2.2.2.2.2.2.2.1 (List.append (α:=(List (Int×Int))×(List (Int×Int))×(List (Int×(List (Int))×List (Int×Int×Int×Bool)))×Int×Int×Bool×Bool×Bool×Int×Int×List (Int×Int×Int×Int×Int×Int×Int)) ([]:List ((List (Int×Int))×(List (Int×Int))×(List (Int×(List (Int))×List (Int×Int×Int×Bool)))×Int×Int×Bool×Bool×Bool×Int×Int×List (Int×Int×Int×Int×Int×Int×Int))) [(y0.1,y0.2.1,y1.1,(0:Int),(0:Int),false,false,false,(0:Int),(0:Int),([]:List (Int×Int×Int×Int×Int×Int×Int)))]))) then (lets (List.append (α:=(List (Int×Int))×(List (Int×Int))×(List (Int×(List (Int))×List (Int×Int×Int×Bool)))×Int×Int×Bool×Bool×Bool×Int×Int×List (Int×Int×Int×Int×Int×Int×Int)) x.2.2.2.2.2.2.2.2.2.2.2.2.2.2.2.2.2.2.2.2.2.2.2.2.2.2.1 (List.append (α:=(List (Int×Int))×(List (Int×Int))×(List (Int×(List (Int))×List (Int×Int×Int×Bool)))×Int×Int×Bool×Bool×Bool×Int×Int×List (Int×Int×Int×Int×Int×Int×Int)) ([]:List ((List (Int×Int))×(List (Int×Int))×(List (Int×(List (Int))×List (Int×Int×Int×Bool)))×Int×Int×Bool×Bool×Bool×Int×Int×List (Int×Int×Int×Int×Int×Int×Int))) [(y0.1,y0.2.1,y1.1,(0:Int),(0:Int),false,false,false,(0:Int),(0:Int),([]:List (Int×Int×Int×Int×Int×Int×Int)))])) fun v2=>some (.inl (x.1,x.2.1,x.2.2.1,x.2.2.2.1,x.2.2.2.2.1,x.2.2.2.2.2.1,x.2.2.2.2.2.2.1,x.2.2.2.2.2.2.2.1,x.2.2.2.2.2.2.2.2.1,x.2.2.2.2.2.2.2.2.2.1,x.2.2.2.2.2.2.2.2.2.2.1,x.2.2.2.2.2.2.2.2.2.2.2.1,x.2.2.2.2.2.2.2.2.2.2.2.2.1,x.2.2.2.2.2.2.2.2.2.2.2.2.2.1,x.2.2.2.2.2.2.2.2.2.2.2.2.2.2.1,x.2.2.2.2.2.2.2.2.2.2.2.2.2.2.2.1,x.2.2.2.2.2.2.2.2.2.2.2.2.2.2.2.2.1,x.2.2.2.2.2.2.2.2.2.2.2.2.2.2.2.2.2.1,x.2.2.2.2.2.2.2.2.2.2.2.2.2.2.2.2.2.2.1,x.2.2.2.2.2.2.2.2.2.2.2.2.2.2.2.2.2.2.2.1,x.2.2.2.2.2.2.2.2.2.2.2.2.2.2.2.2.2.2.2.2.1,x.2.2.2.2.2.2.2.2.2.2.2.2.2.2.2.2.2.2.2.2.2.1,x.2.2.2.2.2.2.2.2.2.2.2.2.2.2.2.2.2.2.2.2.2.2.1,x.2.2.2.2.2.2.2.2.2.2.2.2.2.2.2.2.2.2.2.2.2.2.2.1,x.2.2.2.2.2.2.2.2.2.2.2.2.2.2.2.2.2.2.2.2.2.2.2.2.1,x.2.2.2.2.2.2.2.2.2.2.2.2.2.2.2.2.2.2.2.2.2.2.2.2.2.1,v2,x.2.2.2.2.2.2.2.2.2.2.2.2.2.2.2.2.2.2.2.2.2.2.2.2.2.2.2.1,x.2.2.2.2.2.2.2.2.2.2.2.2.2.2.2.2.2.2.2.2.2.2.2.2.2.2.2.2.1,x.2.2.2.2.2.2.2.2.2.2.2.2.2.2.2.2.2.2.2.2.2.2.2.2.2.2.2.2.2.1,(rArith .add .i64 x.2.2.2.2.2.2.2.2.2.2.2.2.2.2.2.2.2.2.2.2.2.2.2.2.2.2.2.2.2.2.1 (1:Int)),()))) else none)) else none)) else none) else some (.inr (.inl (x.1,x.2.1,x.2.2.1,x.2.2.2.1,x.2.2.2.2.1,x.2.2.2.2.2.1,x.2.2.2.2.2.2.1,x.2.2.2.2.2.2.2.1,x.2.2.2.2.2.2.2.2.1,x.2.2.2.2.2.2.2.2.2.1,x.2.2.2.2.2.2.2.2.2.2.1,x.2.2.2.2.2.2.2.2.2.2.2.1,x.2.2.2.2.2.2.2.2.2.2.2.2.1,x.2.2.2.2.2.2.2.2.2.2.2.2.2.1,x.2.2.2.2.2.2.2.2.2.2.2.2.2.2.1,x.2.2.2.2.2.2.2.2.2.2.2.2.2.2.2.1,x.2.2.2.2.2.2.2.2.2.2.2.2.2.2.2.2.1,x.2.2.2.2.2.2.2.2.2.2.2.2.2.2.2.2.2.1,x.2.2.2.2.2.2.2.2.2.2.2.2.2.2.2.2.2.2.1,x.2.2.2.2.2.2.2.2.2.2.2.2.2.2.2.2.2.2.2.1,x.2.2.2.2.2.2.2.2.2.2.2.2.2.2.2.2.2.2.2.2.1,x.2.2.2.2.2.2.2.2.2.2.2.2.2.2.2.2.2.2.2.2.2.1,x.2.2.2.2.2.2.2.2.2.2.2.2.2.2.2.2.2.2.2.2.2.2.1,x.2.2.2.2.2.2.2.2.2.2.2.2.2.2.2.2.2.2.2.2.2.2.2.1,x.2.2.2.2.2.2.2.2.2.2.2.2.2.2.2.2.2.2.2.2.2.2.2.2.1,x.2.2.2.2.2.2.2.2.2.2.2.2.2.2.2.2.2.2.2.2.2.2.2.2.2.1,x.2.2.2.2.2.2.2.2.2.2.2.2.2.2.2.2.2.2.2.2.2.2.2.2.2.2.1,x.2.2.2.2.2.2.2.2.2.2.2.2.2.2.2.2.2.2.2.2.2.2.2.2.2.2.2.1,x.2.2.2.2.2.2.2.2.2.2.2.2.2.2.2.2.2.2.2.2.2.2.2.2.2.2.2.2.1,x.2.2.2.2.2.2.2.2.2.2.2.2.2.2.2.2.2.2.2.2.2.2.2.2.2.2.2.2.2.1,()))))
noncomputable def impl_NewNetwork_l0 (k:(List (List (Int×(List (Int))×List (Int×Int×Int×Bool))))×(List ((List (Int×Int))×List (Int×Int)))×Int×Unit) (x:Int×Int×Int×Int×Int×Int×Int×Int×Int×Int×Int×(List ((List (Int×Int))×(List (Int×Int))×(List (Int×(List (Int))×List (Int×Int×Int×Bool)))×Int×Int×Bool×Bool×Bool×Int×Int×List (Int×Int×Int×Int×Int×Int×Int)))×(List (Int×Int×Int×Int×Int×Int×Int×Int×Int×Int×Int×Int×Int))×(List (Int×Int×Int×Int×Int×Int×Bool))×(List (Int×Int×Int×Int×Int×Int×Int))×Int×Int×Int×Int×Int×Int×Int×Int×Int×Int×Int×(List ((List (Int×Int))×(List (Int×Int))×(List (Int×(List (Int))×List (Int×Int×Int×Bool)))×Int×Int×Bool×Bool×Bool×Int×Int×List (Int×Int×Int×Int×Int×Int×Int)))×(List (Int×Int×Int×Int×Int×Int×Int×Int×Int×Int×Int×Int×Int))×(List (Int×Int×Int×Int×Int×Int×Bool))×(List (Int×Int×Int×Int×Int×Int×Int))×Int×Unit):Option (Int×Int×Int×Int×Int×Int×Int×Int×Int×Int×Int×(List ((List (Int×Int))×(List (Int×Int))×(List (Int×(List (Int))×List (Int×Int×Int×Bool)))×Int×Int×Bool×Bool×Bool×Int×Int×List (Int×Int×Int×Int×Int×Int×Int)))×(List (Int×Int×Int×Int×Int×Int×Int×Int×Int×Int×Int×Int×Int))×(List (Int×Int×Int×Int×Int×Int×Bool))×(List (Int×Int×Int×Int×Int×Int×Int))×Int×Int×Int×Int×Int×Int×Int×Int×Int×Int×Int×(List ((List (Int×Int))×(List (Int×Int))×(List (Int×(List (Int))×List (Int×Int×Int×Bool)))×Int×Int×Bool×Bool×Bool×Int×Int×List (Int×Int×Int×Int×Int×Int×Int)))×(List (Int×Int×Int×Int×Int×Int×Int×Int×Int×Int×Int×Int×Int))×(List (Int×Int×Int×Int×Int×Int×Bool))×(List (Int×Int×Int×Int×Int×Int×Int))×Unit ⊕ Empty):=iter (impl_NewNetwork_b0 k) big x
noncomputable def impl_NewNetwork (a0:Int) (a1:Int) (a2:Int) (a3:Int) (a4:Int) (a5:Int) (a6:Int) (a7:Int) (a8:Int) (a9:Int) (a10:(List ((List (Int×Int))×List (Int×Int)))) (a11:(List (List (Int×(List (Int))×List (Int×Int×Int×Bool))))):Option (Int×Int×Int×Int×Int×Int×Int×Int×Int×Int×Int×(List ((List (Int×Int))×(List (Int×Int))×(List (Int×(List (Int))×List (Int×Int×Int×Bool)))×Int×Int×Bool×Bool×Bool×Int×Int×List (Int×Int×Int×Int×Int×Int×Int)))×(List (Int×Int×Int×Int×Int×Int×Int×Int×Int×Int×Int×Int×Int))×(List (Int×Int×Int×Int×Int×Int×Bool))×(List (Int×Int×Int×Int×Int×Int×Int))×Bool×Unit):=
 (bif (rCmp .neq (rLen a11) (rLen a10)) then some ((0:Int),(0:Int),(0:Int),(0:Int),(0:Int),(0:Int),(0:Int),(0:Int),(0:Int),(0:Int),(0:Int),([]:List ((List (Int×Int))×(List (Int×Int))×(List (Int×(List (Int))×List (Int×Int×Int×Bool)))×Int×Int×Bool×Bool×Bool×Int×Int×List (Int×Int×Int×Int×Int×Int×Int))),([]:List (Int×Int×Int×Int×Int×Int×Int×Int×Int×Int×Int×Int×Int)),([]:List (Int×Int×Int×Int×Int×Int×Bool)),([]:List (Int×Int×Int×Int×Int×Int×Int)),false,()) else ((impl_NewNetwork_l0 (a11,a10,(rLen a10),()) ((0:Int),(0:Int),(0:Int),(0:Int),(0:Int),(0:Int),(0:Int),(0:Int),(0:Int),(0:Int),(0:Int),([]:List ((List (Int×Int))×(List (Int×Int))×(List (Int×(List (Int))×List (Int×Int×Int×Bool)))×Int×Int×Bool×Bool×Bool×Int×Int×List (Int×Int×Int×Int×Int×Int×Int))),([]:List (Int×Int×Int×Int×Int×Int×Int×Int×Int×Int×Int×Int×Int)),([]:List (Int×Int×Int×Int×Int×Int×Bool)),([]:List (Int×Int×Int×Int×Int×Int×Int)),a0,a1,a2,a3,a4,a5,a6,a7,a8,a9,(0:Int),([]:List ((List (Int×Int))×(List (Int×Int))×(List (Int×(List (Int))×List (Int×Int×Int×Bool)))×Int×Int×Bool×Bool×Bool×Int×Int×List (Int×Int×Int×Int×Int×Int×Int))),([]:List (Int×Int×Int×Int×Int×Int×Int×Int×Int×Int×Int×Int×Int)),([]:List (Int×Int×Int×Int×Int×Int×Bool)),([]:List (Int×Int×Int×Int×Int×Int×Int)),(0:Int),())).bind fun q0=>(Sum.elim (fun y1=>((impl_NetworkOk y1.2.2.2.2.2.2.2.2.2.2.2.2.2.2.2.1 y1.2.2.2.2.2.2.2.2.2.2.2.2.2.2.2.2.1 y1.2.2.2.2.2.2.2.2.2.2.2.2.2.2.2.2.2.1 y1.2.2.2.2.2.2.2.2.2.2.2.2.2.2.2.2.2.2.1 y1.2.2.2.2.2.2.2.2.2.2.2.2.2.2.2.2.2.2.2.1 y1.2.2.2.2.2.2.2.2.2.2.2.2.2.2.2.2.2.2.2.2.1 y1.2.2.2.2.2.2.2.2.2.2.2.2.2.2.2.2.2.2.2.2.2.1 y1.2.2.2.2.2.2.2.2.2.2.2.2.2.2.2.2.2.2.2.2.2.2.1 y1.2.2.2.2.2.2.2.2.2.2.2.2.2.2.2.2.2.2.2.2.2.2.2.1 y1.2.2.2.2.2.2.2.2.2.2.2.2.2.2.2.2.2.2.2.2.2.2.2.2.1 y1.2.2.2.2.2.2.2.2.2.2.2.2.2.2.2.2.2.2.2.2.2.2.2.2.2.1 y1.2.2.2.2.2.2.2.2.2.2.2.2.2.2.2.2.2.2.2.2.2.2.2.2.2.2.1 y1.2.2.2.2.2.2.2.2.2.2.2.2.2.2.2.2.2.2.2.2.2.2.2.2.2.2.2.1 y1.2.2.2.2.2.2.2.2.2.2.2.2.2.2.2.2.2.2.2.2.2.2.2.2.2.2.2.2.1 y1.2.2.2.2.2.2.2.2.2.2.2.2.2.2.2.2.2.2.2.2.2.2.2.2.2.2.2.2.2.1).bind fun y2=>(bif (Bool.not y2.1) then some ((0:Int),(0:Int),(0:Int),(0:Int),(0:Int),(0:Int),(0:Int),(0:Int),(0:Int),(0:Int),(0:Int),([]:List ((List (Int×Int))×(List (Int×Int))×(List (Int×(List (Int))×List (Int×Int×Int×Bool)))×Int×Int×Bool×Bool×Bool×Int×Int×List (Int×Int×Int×Int×Int×Int×Int))),([]:List (Int×Int×Int×Int×Int×Int×Int×Int×Int×Int×Int×Int×Int)),([]:List (Int×Int×Int×Int×Int×Int×Bool)),([]:List (Int×Int×Int×Int×Int×Int×Int)),false,()) else some (y1.2.2.2.2.2.2.2.2.2.2.2.2.2.2.2.1,y1.2.2.2.2.2.2.2.2.2.2.2.2.2.2.2.2.1,y1.2.2.2.2.2.2.2.2.2.2.2.2.2.2.2.2.2.1,y1.2.2.2.2.2.2.2.2.2.2.2.2.2.2.2.2.2.2.1,y1.2.2.2.2.2.2.2.2.2.2.2.2.2.2.2.2.2.2.2.1,y1.2.2.2.2.2.2.2.2.2.2.2.2.2.2.2.2.2.2.2.2.1,y1.2.2.2.2.2.2.2.2.2.2.2.2.2.2.2.2.2.2.2.2.2.1,y1.2.2.2.2.2.2.2.2.2.2.2.2.2.2.2.2.2.2.2.2.2.2.1,y1.2.2.2.2.2.2.2.2.2.2.2.2.2.2.2.2.2.2.2.2.2.2.2.1,y1.2.2.2.2.2.2.2.2.2.2.2.2.2.2.2.2.2.2.2.2.2.2.2.2.1,y1.2.2.2.2.2.2.2.2.2.2.2.2.2.2.2.2.2.2.2.2.2.2.2.2.2.1,y1.2.2.2.2.2.2.2.2.2.2.2.2.2.2.2.2.2.2.2.2.2.2.2.2.2.2.1,y1.2.2.2.2.2.2.2.2.2.2.2.2.2.2.2.2.2.2.2.2.2.2.2.2.2.2.2.1,y1.2.2.2.2.2.2.2.2.2.2.2.2.2.2.2.2.2.2.2.2.2.2.2.2.2.2.2.2.1,y1.2.2.2.2.2.2.2.2.2.2.2.2.2.2.2.2.2.2.2.2.2.2.2.2.2.2.2.2.2.1,true,())))) (fun q2=>(Empty.elim q2)) q0)))
noncomputable def laws_eqWeekS_b0 (k:(List ((List (Int×Int))×List (Int×Int)))×(List ((List (Int×Int))×List (Int×Int)))×Unit) (x:Int×Unit):Option ((Int×Unit) ⊕ (Bool×Unit ⊕ (Unit ⊕ Empty))):=
 (bif (rCmp .lss x.1 (rLen k.1)) then (bif (rInR k.1 x.1) then (bif (rInR k.2.1 x.1) then ((laws_eqWeek (rGet zLIIlLIIl k.1 x.1).1 (rGet zLIIlLIIl k.1 x.1).2 (rGet zLIIlLIIl k.2.1 x.1).1 (rGet zLIIlLIIl k.2.1 x.1).2).bind fun y0=>(bif (Bool.not y0.1) then some (.inr (.inl (false,()))) else some (.inl ((rArith .add .i64 x.1 (1:Int)),())))) else none) else none) else some (.inr (.inr (.inl (())))))
noncomputable def laws_eqWeekS_l0 (k:(List ((List (Int×Int))×List (Int×Int)))×(List ((List (Int×Int))×List (Int×Int)))×Unit) (x:Int×Unit):Option (Bool×Unit ⊕ (Unit ⊕ Empty)):=iter (laws_eqWeekS_b0 k) big x
noncomputable def laws_eqWeekS (a0:(List ((List (Int×Int))×List (Int×Int)))) (a1:(List ((List (Int×Int))×List (Int×Int)))):Option (Bool×Unit):=
 (bif (rCmp .neq (rLen a0) (rLen a1)) then some (false,()) else ((laws_eqWeekS_l0 (a0,a1,()) ((0:Int),())).bind fun q0=>(Sum.elim (fun y1=>some (y1.1,())) (fun q2=>(Sum.elim (fun y3=>some (true,())) (fun q4=>(Empty.elim q4)) q2)) q0)))
noncomputable def laws_eqColumnSS_b0 (k:(List (List (Int×(List (Int))×List (Int×Int×Int×Bool))))×(List (List (Int×(List (Int))×List (Int×Int×Int×Bool))))×Unit) (x:Int×Unit):Option ((Int×Unit) ⊕ (Bool×Unit ⊕ (Unit ⊕ Empty))):=
 (bif (rCmp .lss x.1 (rLen k.1)) then (bif (rInR k.1 x.1) then (bif (rInR k.2.1 x.1) then ((laws_eqColumnS (rGet zLILIlLIIIBll k.1 x.1) (rGet zLILIlLIIIBll k.2.1 x.1)).bind fun y0=>(bif (Bool.not y0.1) then some (.inr (.inl (false,()))) else some (.inl ((rArith .add .i64 x.1 (1:Int)),())))) else none) else none) else some (.inr (.inr (.inl (())))))
noncomputable def laws_eqColumnSS_l0 (k:(List (List (Int×(List (Int))×List (Int×Int×Int×Bool))))×(List (List (Int×(List (Int))×List (Int×Int×Int×Bool))))×Unit) (x:Int×Unit):Option (Bool×Unit ⊕ (Unit ⊕ Empty)):=iter (laws_eqColumnSS_b0 k) big x
noncomputable def laws_eqColumnSS (a0:(List (List (Int×(List (Int))×List (Int×Int×Int×Bool))))) (a1:(List (List (Int×(List (Int))×List (Int×Int×Int×Bool))))):Option (Bool×Unit):=
 (bif (rCmp .neq (rLen a0) (rLen a1)) then some (false,()) else ((laws_eqColumnSS_l0 (a0,a1,()) ((0:Int),())).bind fun q0=>(Sum.elim (fun y1=>some (y1.1,())) (fun q2=>(Sum.elim (fun y3=>some (true,())) (fun q4=>(Empty.elim q4)) q2)) q0)))
noncomputable def laws_markSpanS_b0 (k:Unit) (x:(List (Int×Int))×Int×Int×Unit):Option (((List (Int×Int))×Int×Int×Unit) ⊕ ((List (Int×Int))×Int×Unit ⊕ Empty)):=
 (bif (rCmp .lss x.2.2.1 (rLen x.1)) then (bif (rInR x.1 x.2.2.1) then (bif (rInR (rPut x.1 x.2.2.1 (x.2.1,(rGet zII x.1 x.2.2.1).2)) x.2.2.1) then (lets (rPut (rPut x.1 x.2.2.1 (x.2.1,(rGet zII x.1 x.2.2.1).2)) x.2.2.1 ((rGet zII (rPut x.1 x.2.2.1 (x.2.1,(rGet zII x.1 x.2.2.1).2)) x.2.2.1).1,(rArith .add .i64 x.2.1 (1:Int)))) fun v0=>some (.inl (v0,(rArith .add .i64 (rArith .add .i64 x.2.1 (1:Int)) (1:Int)),(rArith .add .i64 x.2.2.1 (1:Int)),()))) else none) else none) else some (.inr (.inl (x.1,x.2.1,()))))
noncomputable def laws_markSpanS_l0 (k:Unit) (x:(List (Int×Int))×Int×Int×Unit):Option ((List (Int×Int))×Int×Unit ⊕ Empty):=iter (laws_markSpanS_b0 k) big x
noncomputable def laws_markSpanS (a0:(List (Int×Int))) (a1:Int):Option (Int×(List (Int×Int))×Unit):=
 ((laws_markSpanS_l0 (()) (a0,a1,(0:Int),())).bind fun q0=>(Sum.elim (fun y1=>some (y1.2.1,y1.1,())) (fun q2=>(Empty.elim q2)) q0))
noncomputable def laws_markWeekS_b0 (k:Unit) (x:(List ((List (Int×Int))×List (Int×Int)))×Int×Int×Unit):Option (((List ((List (Int×Int))×List (Int×Int)))×Int×Int×Unit) ⊕ ((List ((List (Int×Int))×List (Int×Int)))×Int×Unit ⊕ Empty)):=
 (bif (rCmp .lss x.2.2.1 (rLen x.1)) then (bif (rInR x.1 x.2.2.1) then ((laws_markSpanS (rGet zLIIlLIIl x.1 x.2.2.1).1 x.2.1).bind fun y0=>(bif (rInR (rPut x.1 x.2.2.1 (y0.2.1,(rGet zLIIlLIIl x.1 x.2.2.1).2)) x.2.2.1) then ((laws_markSpanS (rGet zLIIlLIIl (rPut x.1 x.2.2.1 (y0.2.1,(rGet zLIIlLIIl x.1 x.2.2.1).2)) x.2.2.1).2 y0.1).bind fun y1=>(lets (rPut (rPut x.1 x.2.2.1 (y0.2.1,(rGet zLIIlLIIl x.1 x.2.2.1).2)) x.2.2.1 ((rGet zLIIlLIIl (rPut x.1 x.2.2.1 (y0.2.1,(rGet zLIIlLIIl x.1 x.2.2.1).2)) x.2.2.1).1,y1.2.1)) fun v2=>some (.inl (v2,y1.1,(rArith .add .i64 x.2.2.1 (1:Int)),())))) else none)) else none) else some (.inr (.inl (x.1,x.2.1,()))))
noncomputable def laws_markWeekS_l0 (k:Unit) (x:(List ((List (Int×Int))×List (Int×Int)))×Int×Int×Unit):Option ((List ((List (Int×Int))×List (Int×Int)))×Int×Unit ⊕ Empty):=iter (laws_markWeekS_b0 k) big x
noncomputable def laws_markWeekS (a0:(List ((List (Int×Int))×List (Int×Int)))) (a1:Int):Option (Int×(List ((List (Int×Int))×List (Int×Int)))×Unit):=
 ((laws_markWeekS_l0 (()) (a0,a1,(0:Int),())).bind fun q0=>(Sum.elim (fun y1=>some (y1.2.1,y1.1,())) (fun q2=>(Empty.elim q2)) q0))
noncomputable def laws_markBoxS_b0 (k:Unit) (x:(List (Int×Int×Int×Bool))×Int×Int×Unit):Option (((List (Int×Int×Int×Bool))×Int×Int×Unit) ⊕ ((List (Int×Int×Int×Bool))×Int×Unit ⊕ Empty)):=
 (bif (rCmp .lss x.2.2.1 (rLen x.1)) then (bif (rInR x.1 x.2.2.1) then (bif (rInR (rPut x.1 x.2.2.1 (x.2.1,(rGet zIIIB x.1 x.2.2.1).2.1,(rGet zIIIB x.1 x.2.2.1).2.2.1,(rGet zIIIB x.1 x.2.2.1).2.2.2)) x.2.2.1) then (lets (rPut (rPut x.1 x.2.2.1 (x.2.1,(rGet zIIIB x.1 x.2.2.1).2.1,(rGet zIIIB x.1 x.2.2.1).2.2.1,(rGet zIIIB x.1 x.2.2.1).2.2.2)) x.2.2.1 ((rGet zIIIB (rPut x.1 x.2.2.1 (x.2.1,(rGet zIIIB x.1 x.2.2.1).2.1,(rGet zIIIB x.1 x.2.2.1).2.2.1,(rGet zIIIB x.1 x.2.2.1).2.2.2)) x.2.2.1).1,(rArith .add .i64 x.2.1 (1:Int)),(rGet zIIIB (rPut x.1 x.2.2.1 (x.2.1,(rGet zIIIB x.1 x.2.2.1).2.1,(rGet zIIIB x.1 x.2.2.1).2.2.1,(rGet zIIIB x.1 x.2.2.1).2.2.2)) x.2.2.1).2.2.1,(rGet zIIIB (rPut x.1 x.2.2.1 (x.2.1,(rGet zIIIB x.1 x.2.2.1).2.1,(rGet zIIIB x.1 x.2.2.1).2.2.1,(rGet zIIIB x.1 x.2.2.1).2.2.2)) x.2.2.1).2.2.2)) fun v0=>(bif (rInR v0 x.2.2.1) then (lets (rPut v0 x.2.2.1 ((rGet zIIIB v0 x.2.2.1).1,(rGet zIIIB v0 x.2.2.1).2.1,(rArith .add .i64 (rArith .add .i64 x.2.1 (1:Int)) (1:Int)),(rGet zIIIB v0 x.2.2.1).2.2.2)) fun v1=>(bif (rIsZero (3:Int)) then none else (bif (rInR v1 x.2.2.1) then (lets (rPut v1 x.2.2.1 ((rGet zIIIB v1 x.2.2.1).1,(rGet zIIIB v1 x.2.2.1).2.1,(rGet zIIIB v1 x.2.2.1).2.2.1,(rCmp .eql (rArith .rem .i64 (rArith .add .i64 (rArith .add .i64 (rArith .add .i64 x.2.1 (1:Int)) (1:Int)) (1:Int)) (3:Int)) (0:Int)))) fun v2=>some (.inl (v2,(rArith .add .i64 (rArith .add .i64 (rArith .add .i64 (rArith .add .i64 x.2.1 (1:Int)) (1:Int)) (1:Int)) (1:Int)),(rArith .add .i64 x.2.2.1 (1:Int)),()))) else none))) else none)) else none) else none) else some (.inr (.inl (x.1,x.2.1,()))))
noncomputable def laws_markBoxS_l0 (k:Unit) (x:(List (Int×Int×Int×Bool))×Int×Int×Unit):Option ((List (Int×Int×Int×Bool))×Int×Unit ⊕ Empty):=iter (laws_markBoxS_b0 k) big x
noncomputable def laws_markBoxS (a0:(List (Int×Int×Int×Bool))) (a1:Int):Option (Int×(List (Int×Int×Int×Bool))×Unit):=
 ((laws_markBoxS_l0 (()) (a0,a1,(0:Int),())).bind fun q0=>(Sum.elim (fun y1=>some (y1.2.1,y1.1,())) (fun q2=>(Empty.elim q2)) q0))
noncomputable def laws_markColumnS_b0 (k:Unit) (x:(List (Int×(List (Int))×List (Int×Int×Int×Bool)))×Int×Int×Unit):Option (((List (Int×(List (Int))×List (Int×Int×Int×Bool)))×Int×Int×Unit) ⊕ ((List (Int×(List (Int))×List (Int×Int×Int×Bool)))×Int×Unit ⊕ Empty)):=
 (bif (rCmp .lss x.2.2.1 (rLen x.1)) then (bif (rInR x.1 x.2.2.1) then (bif (rInR (rPut x.1 x.2.2.1 (x.2.1,(rGet zILIlLIIIBl x.1 x.2.2.1).2.1,(rGet zILIlLIIIBl x.1 x.2.2.1).2.2)) x.2.2.1) then ((laws_markIntS (rGet zILIlLIIIBl (rPut x.1 x.2.2.1 (x.2.1,(rGet zILIlLIIIBl x.1 x.2.2.1).2.1,(rGet zILIlLIIIBl x.1 x.2.2.1).2.2)) x.2.2.1).2.1 (rArith .add .i64 x.2.1 (1:Int))).bind fun y0=>(lets (rPut (rPut x.1 x.2.2.1 (x.2.1,(rGet zILIlLIIIBl x.1 x.2.2.1).2.1,(rGet zILIlLIIIBl x.1 x.2.2.1).2.2)) x.2.2.1 ((rGet zILIlLIIIBl (rPut x.1 x.2.2.1 (x.2.1,(rGet zILIlLIIIBl x.1 x.2.2.1).2.1,(rGet zILIlLIIIBl x.1 x.2.2.1).2.2)) x.2.2.1).1,y0.2.1,(rGet zILIlLIIIBl (rPut x.1 x.2.2.1 (x.2.1,(rGet zILIlLIIIBl x.1 x.2.2.1).2.1,(rGet zILIlLIIIBl x.1 x.2.2.1).2.2)) x.2.2.1).2.2)) fun v1=>(bif (rInR v1 x.2.2.1) then ((laws_markBoxS (rGet zILIlLIIIBl v1 x.2.2.1).2.2 y0.1).bind fun y2=>some (.inl ((rPut v1 x.2.2.1 ((rGet zILIlLIIIBl v1 x.2.2.1).1,(rGet zILIlLIIIBl v1 x.2.2.1).2.1,y2.2.1)),y2.1,(rArith .add .i64 x.2.2.1 (1:Int)),()))) else none))) else none) else none) else some (.inr (.inl (x.1,x.2.1,()))))
noncomputable def laws_markColumnS_l0 (k:Unit) (x:(List (Int×(List (Int))×List (Int×Int×Int×Bool)))×Int×Int×Unit):Option ((List (Int×(List (Int))×List (Int×Int×Int×Bool)))×Int×Unit ⊕ Empty):=iter (laws_markColumnS_b0 k) big x
noncomputable def laws_markColumnS (a0:(List (Int×(List (Int))×List (Int×Int×Int×Bool)))) (a1:Int):Option (Int×(List (Int×(List (Int))×List (Int×Int×Int×Bool)))×Unit):=
 ((laws_markColumnS_l0 (()) (a0,a1,(0:Int),())).bind fun q0=>(Sum.elim (fun y1=>some (y1.2.1,y1.1,())) (fun q2=>(Empty.elim q2)) q0))
noncomputable def laws_markColumnSS_b0 (k:Unit) (x:(List (List (Int×(List (Int))×List (Int×Int×Int×Bool))))×Int×Int×Unit):Option (((List (List (Int×(List (Int))×List (Int×Int×Int×Bool))))×Int×Int×Unit) ⊕ ((List (List (Int×(List (Int))×List (Int×Int×Int×Bool))))×Int×Unit ⊕ Empty)):=
 (bif (rCmp .lss x.2.2.1 (rLen x.1)) then (bif (rInR x.1 x.2.2.1) then ((laws_markColumnS (rGet zLILIlLIIIBll x.1 x.2.2.1) x.2.1).bind fun y0=>some (.inl ((rPut x.1 x.2.2.1 y0.2.1),y0.1,(rArith .add .i64 x.2.2.1 (1:Int)),()))) else none) else some (.inr (.inl (x.1,x.2.1,()))))
noncomputable def laws_markColumnSS_l0 (k:Unit) (x:(List (List (Int×(List (Int))×List (Int×Int×Int×Bool))))×Int×Int×Unit):Option ((List (List (Int×(List (Int))×List (Int×Int×Int×Bool))))×Int×Unit ⊕ Empty):=iter (laws_markColumnSS_b0 k) big x
noncomputable def laws_markColumnSS (a0:(List (List (Int×(List (Int))×List (Int×Int×Int×Bool))))) (a1:Int):Option (Int×(List (List (Int×(List (Int))×List (Int×Int×Int×Bool))))×Unit):=
 ((laws_markColumnSS_l0 (()) (a0,a1,(0:Int),())).bind fun q0=>(Sum.elim (fun y1=>some (y1.2.1,y1.1,())) (fun q2=>(Empty.elim q2)) q0))
noncomputable def laws_markSiteS_b0 (k:Unit) (x:(List ((List (Int×Int))×(List (Int×Int))×(List (Int×(List (Int))×List (Int×Int×Int×Bool)))×Int×Int×Bool×Bool×Bool×Int×Int×List (Int×Int×Int×Int×Int×Int×Int)))×Int×Int×Unit):Option (((List ((List (Int×Int))×(List (Int×Int))×(List (Int×(List (Int))×List (Int×Int×Int×Bool)))×Int×Int×Bool×Bool×Bool×Int×Int×List (Int×Int×Int×Int×Int×Int×Int)))×Int×Int×Unit) ⊕ ((List ((List (Int×Int))×(List (Int×Int))×(List (Int×(List (Int))×List (Int×Int×Int×Bool)))×Int×Int×Bool×Bool×Bool×Int×Int×List (Int×Int×Int×Int×Int×Int×Int)))×Int×Unit ⊕ Empty)):=
 (bif (rCmp .lss x.2.2.1 (rLen x.1)) then (bif (rInR x.1 x.2.2.1) then ((laws_markSpanS (rGet zLIIlLIIlLILIlLIIIBllIIBBBIILIIIIIIIl x.1 x.2.2.1).1 x.2.1).bind fun y0=>(lets (rPut x.1 x.2.2.1 (y0.2.1,(rGet zLIIlLIIlLILIlLIIIBllIIBBBIILIIIIIIIl x.1 x.2.2.1).2.1,(rGet zLIIlLIIlLILIlLIIIBllIIBBBIILIIIIIIIl x.1 x.2.2.1).2.2.1,(rGet zLIIlLIIlLILIlLIIIBllIIBBBIILIIIIIIIl x.1 x.2.2.1).2.2.2.1,(rGet zLIIlLIIlLILIlLIIIBllIIBBBIILIIIIIIIl x.1 x.2.2.1).2.2.2.2.1,(rGet zLIIlLIIlLILIlLIIIBllIIBBBIILIIIIIIIl x.1 x.2.2.1).2.2.2.2.2.1,(rGet zLIIlLIIlLILIlLIIIBllIIBBBIILIIIIIIIl x.1 x.2.2.1).2.2.2.2.2.2.1,(rGet zLIIlLIIlLILIlLIIIBllIIBBBIILIIIIIIIl x.1 x.2.2.1).2.2.2.2.2.2.2.1,(rGet zLIIlLIIlLILIlLIIIBllIIBBBIILIIIIIIIl x.1 x.2.2.1).2.2.2.2.2.2.2.2.1,(rGet zLIIlLIIlLILIlLIIIBllIIBBBIILIIIIIIIl x.1 x.2.2.1).2.2.2.2.2.2.2.2.2.1,(rGet zLIIlLIIlLILIlLIIIBllIIBBBIILIIIIIIIl x.1 x.2.2.1).2.2.2.2.2.2.2.2.2.2)) fun v1=>(bif (rInR v1 x.2.2.1) then ((laws_markSpanS (rGet zLIIlLIIlLILIlLIIIBllIIBBBIILIIIIIIIl v1 x.2.2.1).2.1 y0.1).bind fun y2=>(lets (rPut v1 x.2.2.1 ((rGet zLIIlLIIlLILIlLIIIBllIIBBBIILIIIIIIIl v1 x.2.2.1).1,y2.2.1,(rGet zLIIlLIIlLILIlLIIIBllIIBBBIILIIIIIIIl v1 x.2.2.1).2.2.1,(rGet zLIIlLIIlLILIlLIIIBllIIBBBIILIIIIIIIl v1 x.2.2.1).2.2.2.1,(rGet zLIIlLIIlLILIlLIIIBllIIBBBIILIIIIIIIl v1 x.2.2.1).2.2.2.2.1,(rGet zLIIlLIIlLILIlLIIIBllIIBBBIILIIIIIIIl v1 x.2.2.1).2.2.2.2.2.1,(rGet zLIIlLIIlLILIlLIIIBllIIBBBIILIIIIIIIl v1 x.2.2.1).2.2.2.2.2.2.1,(rGet zLIIlLIIlLILIlLIIIBllIIBBBIILIIIIIIIl v1 x.2.2.1).2.2.2.2.2.2.2.1,(rGet zLIIlLIIlLILIlLIIIBllIIBBBIILIIIIIIIl v1 x.2.2.1).2.2.2.2.2.2.2.2.1,(rGet zLIIlLIIlLILIlLIIIBllIIBBBIILIIIIIIIl v1 x.2.2.1).2.2.2.2.2.2.2.2.2.1,(rGet zLIIlLIIlLILIlLIIIBllIIBBBIILIIIIIIIl v1 x.2.2.1).2.2.2.2.2.2.2.2.2.2)) fun v3=>(bif (rInR v3 x.2.2.1) then ((laws_markColumnS (rGet zLIIlLIIlLILIlLIIIBllIIBBBIILIIIIIIIl v3 x.2.2.1).2.2.1 y2.1).bind fun y4=>(lets (rPut v3 x.2.2.1 ((rGet zLIIlLIIlLILIlLIIIBllIIBBBIILIIIIIIIl v3 x.2.2.1).1,(rGet zLIIlLIIlLILIlLIIIBllIIBBBIILIIIIIIIl v3 x.2.2.1).2.1,y4.2.1,(rGet zLIIlLIIlLILIlLIIIBllIIBBBIILIIIIIIIl v3 x.2.2.1).2.2.2.1,(rGet zLIIlLIIlLILIlLIIIBllIIBBBIILIIIIIIIl v3 x.2.2.1).2.2.2.2.1,(rGet zLIIlLIIlLILIlLIIIBllIIBBBIILIIIIIIIl v3 x.2.2.1).2.2.2.2.2.1,(rGet zLIIlLIIlLILIlLIIIBllIIBBBIILIIIIIIIl v3 x.2.2.1).2.2.2.2.2.2.1,(rGet zLIIlLIIlLILIlLIIIBllIIBBBIILIIIIIIIl v3 x.2.2.1).2.2.2.2.2.2.2.1,(rGet zLIIlLIIlLILIlLIIIBllIIBBBIILIIIIIIIl v3 x.2.2.1).2.2.2.2.2.2.2.2.1,(rGet zLIIlLIIlLILIlLIIIBllIIBBBIILIIIIIIIl v3 x.2.2.1).2.2.2.2.2.2.2.2.2.1,(rGet zLIIlLIIlLILIlLIIIBllIIBBBIILIIIIIIIl v3 x.2.2.1).2.2.2.2.2.2.2.2.2.2)) fun v5=>(bif (rInR v5 x.2.2.1) then (lets (rPut v5 x.2.2.1 ((rGet zLIIlLIIlLILIlLIIIBllIIBBBIILIIIIIIIl v5 x.2.2.1).1,(rGet zLIIlLIIlLILIlLIIIBllIIBBBIILIIIIIIIl v5 x.2.2.1).2.1,(rGet zLIIlLIIlLILIlLIIIBllIIBBBIILIIIIIIIl v5 x.2.2.1).2.2.1,y4.1,(rGet zLIIlLIIlLILIlLIIIBllIIBBBIILIIIIIIIl v5 x.2.2.1).2.2.2.2.1,(rGet zLIIlLIIlLILIlLIIIBllIIBBBIILIIIIIIIl v5 x.2.2.1).2.2.2.2.2.1,(rGet zLIIlLIIlLILIlLIIIBllIIBBBIILIIIIIIIl v5 x.2.2.1).2.2.2.2.2.2.1,(rGet zLIIlLIIlLILIlLIIIBllIIBBBIILIIIIIIIl v5 x.2.2.1).2.2.2.2.2.2.2.1,(rGet zLIIlLIIlLILIlLIIIBllIIBBBIILIIIIIIIl v5 x.2.2.1).2.2.2.2.2.2.2.2.1,(rGet zLIIlLIIlLILIlLIIIBllIIBBBIILIIIIIIIl v5 x.2.2.1).2.2.2.2.2.2.2.2.2.1,(rGet zLIIlLIIlLILIlLIIIBllIIBBBIILIIIIIIIl v5 x.2.2.1).2.2.2.2.2.2.2.2.2.2)) fun v6=>(bif (rInR v6 x.2.2.1) then (lets (rPut v6 x.2.2.1 ((rGet zLIIlLIIlLILIlLIIIBllIIBBBIILIIIIIIIl v6 x.2.2.1).1,(rGet zLIIlLIIlLILIlLIIIBllIIBBBIILIIIIIIIl v6 x.2.2.1).2.1,(rGet zLIIlLIIlLILIlLIIIBllIIBBBIILIIIIIIIl v6 x.2.2.1).2.2.1,(rGet zLIIlLIIlLILIlLIIIBllIIBBBIILIIIIIIIl v6 x.2.2.1).2.2.2.1,(rArith .add .i64 y4.1 (1:Int)),(rGet zLIIlLIIlLILIlLIIIBllIIBBBIILIIIIIIIl v6 x.2.2.1).2.2.2.2.2.1,(rGet zLIIlLIIlLILIlLIIIBllIIBBBIILIIIIIIIl v6 x.2.2.1).2.2.2.2.2.2.1,(rGet zLIIlLIIlLILIlLIIIBllIIBBBIILIIIIIIIl v6 x.2.2.1).2.2.2.2.2.2.2.1,(rGet zLIIlLIIlLILIlLIIIBllIIBBBIILIIIIIIIl v6 x.2.2.1).2.2.2.2.2.2.2.2.1,(rGet zLIIlLIIlLILIlLIIIBllIIBBBIILIIIIIIIl v6 x.2.2.1).2.2.2.2.2.2.2.2.2.1,(rGet zLIIlLIIlLILIlLIIIBllIIBBBIILIIIIIIIl v6 x.2.2.1).2.2.2.2.2.2.2.2.2.2)) fun v7=>(bif (rIsZero (3:Int)) then none else (bif (rInR v7 x.2.2.1) then (lets (rPut v7 x.2.2.1 ((rGet zLIIlLIIlLILIlLIIIBllIIBBBIILIIIIIIIl v7 x.2.2.1).1,(rGet zLIIlLIIlLILIlLIIIBllIIBBBIILIIIIIIIl v7 x.2.2.1).2.1,(rGet zLIIlLIIlLILIlLIIIBllIIBBBIILIIIIIIIl v7 x.2.2.1).2.2.1,(rGet zLIIlLIIlLILIlLIIIBllIIBBBIILIIIIIIIl v7 x.2.2.1).2.2.2.1,(rGet zLIIlLIIlLILIlLIIIBllIIBBBIILIIIIIIIl v7 x.2.2.1).2.2.2.2.1,(rCmp .eql (rArith .rem .i64 (rArith .add .i64 (rArith .add .i64 y4.1 (1:Int)) (1:Int)) (3:Int)) (0:Int)),(rGet zLIIlLIIlLILIlLIIIBllIIBBBIILIIIIIIIl v7 x.2.2.1).2.2.2.2.2.2.1,(rGet zLIIlLIIlLILIlLIIIBllIIBBBIILIIIIIIIl v7 x.2.2.1).2.2.2.2.2.2.2.1,(rGet zLIIlLIIlLILIlLIIIBllIIBBBIILIIIIIIIl v7 x.2.2.1).2.2.2.2.2.2.2.2.1,(rGet zLIIlLIIlLILIlLIIIBllIIBBBIILIIIIIIIl v7 x.2.2.1).2.2.2.2.2.2.2.2.2.1,(rGet zLIIlLIIlLILIlLIIIBllIIBBBIILIIIIIIIl v7 x.2.2.1).2.2.2.2.2.2.2.2.2.2)) fun v8=>(bif (rIsZero (3:Int)) then none else (bif (rInR v8 x.2.2.1) then (lets (rPut v8 x.2.2.1 ((rGet zLIIlLIIlLILIlLIIIBllIIBBBIILIIIIIIIl v8 x.2.2.1).1,(rGet zLIIlLIIlLILIlLIIIBllIIBBBIILIIIIIIIl v8 x.2.2.1).2.1,(rGet zLIIlLIIlLILIlLIIIBllIIBBBIILIIIIIIIl v8 x.2.2.1).2.2.1,(rGet zLIIlLIIlLILIlLIIIBllIIBBBIILIIIIIIIl v8 x.2.2.1).2.2.2.1,(rGet zLIIlLIIlLILIlLIIIBllIIBBBIILIIIIIIIl v8 x.2.2.1).2.2.2.2.1,(rGet zLIIlLIIlLILIlLIIIBllIIBBBIILIIIIIIIl v8 x.2.2.1).2.2.2.2.2.1,(rCmp .eql (rArith .rem .i64 (rArith .add .i64 (rArith .add .i64 (rArith .add .i64 y4.1 (1:Int)) (1:Int)) (1:Int)) (3:Int)) (0:Int)),(rGet zLIIlLIIlLILIlLIIIBllIIBBBIILIIIIIIIl v8 x.2.2.1).2.2.2.2.2.2.2.1,(rGet zLIIlLIIlLILIlLIIIBllIIBBBIILIIIIIIIl v8 x.2.2.1).2.2.2.2.2.2.2.2.1,(rGet zLIIlLIIlLILIlLIIIBllIIBBBIILIIIIIIIl v8 x.2.2.1).2.2.2.2.2.2.2.2.2.1,(rGet zLIIlLIIlLILIlLIIIBllIIBBBIILIIIIIIIl v8 x.2.2.1).2.2.2.2.2.2.2.2.2.2)) fun v9=>(bif (rIsZero (3:Int)) then none else (lets (rCmp .eql (rArith .rem .i64 (rArith .add .i64 (rArith .add .i64 (rArith .add .i64 (rArith .add .i64 y4.1 (1:Int)) (1:Int)) (1:Int)) (1:Int)) (3:Int)) (0:Int)) fun v10=>(bif (rInR v9 x.2.2.1) then (lets (rPut v9 x.2.2.1 ((rGet zLIIlLIIlLILIlLIIIBllIIBBBIILIIIIIIIl v9 x.2.2.1).1,(rGet zLIIlLIIlLILIlLIIIBllIIBBBIILIIIIIIIl v9 x.2.2.1).2.1,(rGet zLIIlLIIlLILIlLIIIBllIIBBBIILIIIIIIIl v9 x.2.2.1).2.2.1,(rGet zLIIlLIIlLILIlLIIIBllIIBBBIILIIIIIIIl v9 x.2.2.1).2.2.2.1,(rGet zLIIlLIIlLILIlLIIIBllIIBBBIILIIIIIIIl v9 x.2.2.1).2.2.2.2.1,(rGet zLIIlLIIlLILIlLIIIBllIIBBBIILIIIIIIIl v9 x.2.2.1).2.2.2.2.2.1,(rGet zLIIlLIIlLILIlLIIIBllIIBBBIILIIIIIIIl v9 x.2.2.1).2.2.2.2.2.2.1,v10,(rGet zLIIlLIIlLILIlLIIIBllIIBBBIILIIIIIIIl v9 x.2.2.1).2.2.2.2.2.2.2.2.1,(rGet zLIIlLIIlLILIlLIIIBllIIBBBIILIIIIIIIl v9 x.2.2.1).2.2.2.2.2.2.2.2.2.1,(rGet zLIIlLIIlLILIlLIIIBllIIBBBIILIIIIIIIl v9 x.2.2.1).2.2.2.2.2.2.2.2.2.2)) fun v11=>(bif (rInR v11 x.2.2.1) then (lets (rPut v11 x.2.2.1 ((rGet zLIIlLIIlLILIlLIIIBllIIBBBIILIIIIIIIl v11 x.2.2.1).1,(rGet zLIIlLIIlLILIlLIIIBllIIBBBIILIIIIIIIl v11 x.2.2.1).2.1,(rGet zLIIlLIIlLILIlLIIIBllIIBBBIILIIIIIIIl v11 x.2.2.1).2.2.1,(rGet zLIIlLIIlLILIlLIIIBllIIBBBIILIIIIIIIl v11 x.2.2.1).2.2.2.1,(rGet zLIIlLIIlLILIlLIIIBllIIBBBIILIIIIIIIl v11 x.2.2.1).2.2.2.2.1,(rGet zLIIlLIIlLILIlLIIIBllIIBBBIILIIIIIIIl v11 x.2.2.1).2.2.2.2.2.1,(rGet zLIIlLIIlLILIlLIIIBllIIBBBIILIIIIIIIl v11 x.2.2.1).2.2.2.2.2.2.1,(rGet zLIIlLIIlLILIlLIIIBllIIBBBIILIIIIIIIl v11 x.2.2.1).2.2.2.2.2.2.2.1,(rArith .add .i64 (rArith .add .i64 (rArith .add .i64 (rArith .add .i64 (rArith .add .i64 y4.1 (1:Int)) (1:Int)) (1:Int)) (1:Int)) (1:Int)),(rGet zLIIlLIIlLILIlLIIIBllIIBBBIILIIIIIIIl v11 x.2.2.1).2.2.2.2.2.2.2.2.2.1,(rGet zLIIlLIIlLILIlLIIIBllIIBBBIILIIIIIIIl v11 x.2.2.1).2.2.2.2.2.2.2.2.2.2)) fun v12=>(lets (rArith .add .i64 (rArith .add .i64 (rArith .add .i64 (rArith .add .i64 (rArith .add .i64 (rArith .add .i64 y4.1 (1:Int)) (1:Int)) (1:Int)) (1:Int)) (1:Int)) (1:Int)) fun v13=>(bif (rInR v12 x.2.2.1) then (lets (rPut v12 x.2.2.1 ((rGet zLIIlLIIlLILIlLIIIBllIIBBBIILIIIIIIIl v12 x.2.2.1).1,(rGet zLIIlLIIlLILIlLIIIBllIIBBBIILIIIIIIIl v12 x.2.2.1).2.1,(rGet zLIIlLIIlLILIlLIIIBllIIBBBIILIIIIIIIl v12 x.2.2.1).2.2.1,(rGet zLIIlLIIlLILIlLIIIBllIIBBBIILIIIIIIIl v12 x.2.2.1).2.2.2.1,(rGet zLIIlLIIlLILIlLIIIBllIIBBBIILIIIIIIIl v12 x.2.2.1).2.2.2.2.1,(rGet zLIIlLIIlLILIlLIIIBllIIBBBIILIIIIIIIl v12 x.2.2.1).2.2.2.2.2.1,(rGet zLIIlLIIlLILIlLIIIBllIIBBBIILIIIIIIIl v12 x.2.2.1).2.2.2.2.2.2.1,(rGet zLIIlLIIlLILIlLIIIBllIIBBBIILIIIIIIIl v12 x.2.2.1).2.2.2.2.2.2.2.1,(rGet zLIIlLIIlLILIlLIIIBllIIBBBIILIIIIIIIl v12 x.2.2.1).2.2.2.2.2.2.2.2.1,v13,(rGet zLIIlLIIlLILIlLIIIBllIIBBBIILIIIIIIIl v12 x.2.2.1).2.2.2.2.2.2.2.2.2.2)) fun v14=>(bif (rInR v14 x.2.2.1) then ((laws_markEventS (rGet zLIIlLIIlLILIlLIIIBllIIBBBIILIIIIIIIl v14 x.2.2.1).2.2.2.2.2.2.2.2.2.2 (rArith .add .i64 v13 (1:Int))).bind fun y15=>(lets (rPut v14 x.2.2.1 ((rGet zLIIlLIIlLILIlLIIIBllIIBBBIILIIIIIIIl v14 x.2.2.1).1,(rGet zLIIlLIIlLILIlLIIIBllIIBBBIILIIIIIIIl v14 x.2.2.1).2.1,(rGet zLIIlLIIlLILIlLIIIBllIIBBBIILIIIIIIIl v14 x.2.2.1).2.2.1,(rGet zLIIlLIIlLILIlLIIIBllIIBBBIILIIIIIIIl v14 x.2.2.1).2.2.2.1,(rGet zLIIlLIIlLILIlLIIIBllIIBBBIILIIIIIIIl v14 x.2.2.1).2.2.2.2.1,(rGet zLIIlLIIlLILIlLIIIBllIIBBBIILIIIIIIIl v14 x.2.2.1).2.2.2.2.2.1,(rGet zLIIlLIIlLILIlLIIIBllIIBBBIILIIIIIIIl v14 x.2.2.1).2.2.2.2.2.2.1,(rGet zLIIlLIIlLILIlLIIIBllIIBBBIILIIIIIIIl v14 x.2.2.1).2.2.2.2.2.2.2.1,(rGet zLIIlLIIlLILIlLIIIBllIIBBBIILIIIIIIIl v14 x.2.2.1).2.2.2.2.2.2.2.2.1,(rGet zLIIlLIIlLILIlLIIIBllIIBBBIILIIIIIIIl v14 x.2.2.1).2.2.2.2.2.2.2.2.2.1,y15.2.1)) fun v16=>some (.inl (v16,y15.1,(rArith .add .i64 x.2.2.1 (1:Int)),())))) else none)) else none))) else none)) else none)))) else none))) else none))) else none)) else none))) else none))) else none))) else none) else some (.inr (.inl (x.1,x.2.1,()))))
noncomputable def laws_markSiteS_l0 (k:Unit) (x:(List ((List (Int×Int))×(List (Int×Int))×(List (Int×(List (Int))×List (Int×Int×Int×Bool)))×Int×Int×Bool×Bool×Bool×Int×Int×List (Int×Int×Int×Int×Int×Int×Int)))×Int×Int×Unit):Option ((List ((List (Int×Int))×(List (Int×Int))×(List (Int×(List (Int))×List (Int×Int×Int×Bool)))×Int×Int×Bool×Bool×Bool×Int×Int×List (Int×Int×Int×Int×Int×Int×Int)))×Int×Unit ⊕ Empty):=iter (laws_markSiteS_b0 k) big x
noncomputable def laws_markSiteS (a0:(List ((List (Int×Int))×(List (Int×Int))×(List (Int×(List (Int))×List (Int×Int×Int×Bool)))×Int×Int×Bool×Bool×Bool×Int×Int×List (Int×Int×Int×Int×Int×Int×Int)))) (a1:Int):Option (Int×(List ((List (Int×Int))×(List (Int×Int))×(List (Int×(List (Int))×List (Int×Int×Int×Bool)))×Int×Int×Bool×Bool×Bool×Int×Int×List (Int×Int×Int×Int×Int×Int×Int)))×Unit):=
 ((laws_markSiteS_l0 (()) (a0,a1,(0:Int),())).bind fun q0=>(Sum.elim (fun y1=>some (y1.2.1,y1.1,())) (fun q2=>(Empty.elim q2)) q0))
noncomputable def laws_markParcelS_b0 (k:Unit) (x:(List (Int×Int×Int×Int×Int×Int×Int×Int×Int×Int×Int×Int×Int))×Int×Int×Unit):Option (((List (Int×Int×Int×Int×Int×Int×Int×Int×Int×Int×Int×Int×Int))×Int×Int×Unit) ⊕ ((List (Int×Int×Int×Int×Int×Int×Int×Int×Int×Int×Int×Int×Int))×Int×Unit ⊕ Empty)):=
 (bif (rCmp .lss x.2.2.1 (rLen x.1)) then (bif (rInR x.1 x.2.2.1) then (lets (rPut x.1 x.2.2.1 (x.2.1,(rGet zIIIIIIIIIIIII x.1 x.2.2.1).2.1,(rGet zIIIIIIIIIIIII x.1 x.2.2.1).2.2.1,(rGet zIIIIIIIIIIIII x.1 x.2.2.1).2.2.2.1,(rGet zIIIIIIIIIIIII x.1 x.2.2.1).2.2.2.2.1,(rGet zIIIIIIIIIIIII x.1 x.2.2.1).2.2.2.2.2.1,(rGet zIIIIIIIIIIIII x.1 x.2.2.1).2.2.2.2.2.2.1,(rGet zIIIIIIIIIIIII x.1 x.2.2.1).2.2.2.2.2.2.2.1,(rGet zIIIIIIIIIIIII x.1 x.2.2.1).2.2.2.2.2.2.2.2.1,(rGet zIIIIIIIIIIIII x.1 x.2.2.1).2.2.2.2.2.2.2.2.2.1,(rGet zIIIIIIIIIIIII x.1 x.2.2.1).2.2.2.2.2.2.2.2.2.2.1,(rGet zIIIIIIIIIIIII x.1 x.2.2.1).2.2.2.2.2.2.2.2.2.2.2.1,(rGet zIIIIIIIIIIIII x.1 x.2.2.1).2.2.2.2.2.2.2.2.2.2.2.2)) fun v0=>(bif (rInR v0 x.2.2.1) then (lets (rPut v0 x.2.2.1 ((rGet zIIIIIIIIIIIII v0 x.2.2.1).1,(rArith .add .i64 x.2.1 (1:Int)),(rGet zIIIIIIIIIIIII v0 x.2.2.1).2.2.1,(rGet zIIIIIIIIIIIII v0 x.2.2.1).2.2.2.1,(rGet zIIIIIIIIIIIII v0 x.2.2.1).2.2.2.2.1,(rGet zIIIIIIIIIIIII v0 x.2.2.1).2.2.2.2.2.1,(rGet zIIIIIIIIIIIII v0 x.2.2.1).2.2.2.2.2.2.1,(rGet zIIIIIIIIIIIII v0 x.2.2.1).2.2.2.2.2.2.2.1,(rGet zIIIIIIIIIIIII v0 x.2.2.1).2.2.2.2.2.2.2.2.1,(rGet zIIIIIIIIIIIII v0 x.2.2.1).2.2.2.2.2.2.2.2.2.1,(rGet zIIIIIIIIIIIII v0 x.2.2.1).2.2.2.2.2.2.2.2.2.2.1,(rGet zIIIIIIIIIIIII v0 x.2.2.1).2.2.2.2.2.2.2.2.2.2.2.1,(rGet zIIIIIIIIIIIII v0 x.2.2.1).2.2.2.2.2.2.2.2.2.2.2.2)) fun v1=>(bif (rInR v1 x.2.2.1) then (lets (rPut v1 x.2.2.1 ((rGet zIIIIIIIIIIIII v1 x.2.2.1).1,(rGet zIIIIIIIIIIIII v1 x.2.2.1).2.1,(rArith .add .i64 (rArith .add .i64 x.2.1 (1:Int)) (1:Int)),(rGet zIIIIIIIIIIIII v1 x.2.2.1).2.2.2.1,(rGet zIIIIIIIIIIIII v1 x.2.2.1).2.2.2.2.1,(rGet zIIIIIIIIIIIII v1 x.2.2.1).2.2.2.2.2.1,(rGet zIIIIIIIIIIIII v1 x.2.2.1).2.2.2.2.2.2.1,(rGet zIIIIIIIIIIIII v1 x.2.2.1).2.2.2.2.2.2.2.1,(rGet zIIIIIIIIIIIII v1 x.2.2.1).2.2.2.2.2.2.2.2.1,(rGet zIIIIIIIIIIIII v1 x.2.2.1).2.2.2.2.2.2.2.2.2.1,(rGet zIIIIIIIIIIIII v1 x.2.2.1).2.2.2.2.2.2.2.2.2.2.1,(rGet zIIIIIIIIIIIII v1 x.2.2.1).2.2.2.2.2.2.2.2.2.2.2.1,(rGet zIIIIIIIIIIIII v1 x.2.2.1).2.2.2.2.2.2.2.2.2.2.2.2)) fun v2=>(bif (rInR v2 x.2.2.1) then (lets (rPut v2 x.2.2.1 ((rGet zIIIIIIIIIIIII v2 x.2.2.1).1,(rGet zIIIIIIIIIIIII v2 x.2.2.1).2.1,(rGet zIIIIIIIIIIIII v2 x.2.2.1).2.2.1,(rArith .add .i64 (rArith .add .i64 (rArith .add .i64 x.2.1 (1:Int)) (1:Int)) (1:Int)),(rGet zIIIIIIIIIIIII v2 x.2.2.1).2.2.2.2.1,(rGet zIIIIIIIIIIIII v2 x.2.2.1).2.2.2.2.2.1,(rGet zIIIIIIIIIIIII v2 x.2.2.1).2.2.2.2.2.2.1,(rGet zIIIIIIIIIIIII v2 x.2.2.1).2.2.2.2.2.2.2.1,(rGet zIIIIIIIIIIIII v2 x.2.2.1).2.2.2.2.2.2.2.2.1,(rGet zIIIIIIIIIIIII v2 x.2.2.1).2.2.2.2.2.2.2.2.2.1,(rGet zIIIIIIIIIIIII v2 x.2.2.1).2.2.2.2.2.2.2.2.2.2.1,(rGet zIIIIIIIIIIIII v2 x.2.2.1).2.2.2.2.2.2.2.2.2.2.2.1,(rGet zIIIIIIIIIIIII v2 x.2.2.1).2.2.2.2.2.2.2.2.2.2.2.2)) fun v3=>(bif (rInR v3 x.2.2.1) then (lets (rPut v3 x.2.2.1 ((rGet zIIIIIIIIIIIII v3 x.2.2.1).1,(rGet zIIIIIIIIIIIII v3 x.2.2.1).2.1,(rGet zIIIIIIIIIIIII v3 x.2.2.1).2.2.1,(rGet zIIIIIIIIIIIII v3 x.2.2.1).2.2.2.1,(rArith .add .i64 (rArith .add .i64 (rArith .add .i64 (rArith .add .i64 x.2.1 (1:Int)) (1:Int)) (1:Int)) (1:Int)),(rGet zIIIIIIIIIIIII v3 x.2.2.1).2.2.2.2.2.1,(rGet zIIIIIIIIIIIII v3 x.2.2.1).2.2.2.2.2.2.1,(rGet zIIIIIIIIIIIII v3 x.2.2.1).2.2.2.2.2.2.2.1,(rGet zIIIIIIIIIIIII v3 x.2.2.1).2.2.2.2.2.2.2.2.1,(rGet zIIIIIIIIIIIII v3 x.2.2.1).2.2.2.2.2.2.2.2.2.1,(rGet zIIIIIIIIIIIII v3 x.2.2.1).2.2.2.2.2.2.2.2.2.2.1,(rGet zIIIIIIIIIIIII v3 x.2.2.1).2.2.2.2.2.2.2.2.2.2.2.1,(rGet zIIIIIIIIIIIII v3 x.2.2.1).2.2.2.2.2.2.2.2.2.2.2.2)) fun v4=>(bif (rInR v4 x.2.2.1) then (lets (rPut v4 x.2.2.1 ((rGet zIIIIIIIIIIIII v4 x.2.2.1).1,(rGet zIIIIIIIIIIIII v4 x.2.2.1).2.1,(rGet zIIIIIIIIIIIII v4 x.2.2.1).2.2.1,(rGet zIIIIIIIIIIIII v4 x.2.2.1).2.2.2.1,(rGet zIIIIIIIIIIIII v4 x.2.2.1).2.2.2.2.1,(rArith .add .i64 (rArith .add .i64 (rArith .add .i64 (rArith .add .i64 (rArith .add .i64 x.2.1 (1:Int)) (1:Int)) (1:Int)) (1:Int)) (1:Int)),(rGet zIIIIIIIIIIIII v4 x.2.2.1).2.2.2.2.2.2.1,(rGet zIIIIIIIIIIIII v4 x.2.2.1).2.2.2.2.2.2.2.1,(rGet zIIIIIIIIIIIII v4 x.2.2.1).2.2.2.2.2.2.2.2.1,(rGet zIIIIIIIIIIIII v4 x.2.2.1).2.2.2.2.2.2.2.2.2.1,(rGet zIIIIIIIIIIIII v4 x.2.2.1).2.2.2.2.2.2.2.2.2.2.1,(rGet zIIIIIIIIIIIII v4 x.2.2.1).2.2.2.2.2.2.2.2.2.2.2.1,(rGet zIIIIIIIIIIIII v4 x.2.2.1).2.2.2.2.2.2.2.2.2.2.2.2)) fun v5=>(lets (rArith .add .i64 (rArith .add .i64 (rArith .add .i64 (rArith .add .i64 (rArith .add .i64 (rArith .add .i64 x.2.1 (1:Int)) (1:Int)) (1:Int)) (1:Int)) (1:Int)) (1:Int)) fun v6=>(bif (rInR v5 x.2.2.1) then (lets (rPut v5 x.2.2.1 ((rGet zIIIIIIIIIIIII v5 x.2.2.1).1,(rGet zIIIIIIIIIIIII v5 x.2.2.1).2.1,(rGet zIIIIIIIIIIIII v5 x.2.2.1).2.2.1,(rGet zIIIIIIIIIIIII v5 x.2.2.1).2.2.2.1,(rGet zIIIIIIIIIIIII v5 x.2.2.1).2.2.2.2.1,(rGet zIIIIIIIIIIIII v5 x.2.2.1).2.2.2.2.2.1,v6,(rGet zIIIIIIIIIIIII v5 x.2.2.1).2.2.2.2.2.2.2.1,(rGet zIIIIIIIIIIIII v5 x.2.2.1).2.2.2.2.2.2.2.2.1,(rGet zIIIIIIIIIIIII v5 x.2.2.1).2.2.2.2.2.2.2.2.2.1,(rGet zIIIIIIIIIIIII v5 x.2.2.1).2.2.2.2.2.2.2.2.2.2.1,(rGet zIIIIIIIIIIIII v5 x.2.2.1).2.2.2.2.2.2.2.2.2.2.2.1,(rGet zIIIIIIIIIIIII v5 x.2.2.1).2.2.2.2.2.2.2.2.2.2.2.2)) fun v7=>(bif (rInR v7 x.2.2.1) then (lets (rPut v7 x.2.2.1 ((rGet zIIIIIIIIIIIII v7 x.2.2.1).1,(rGet zIIIIIIIIIIIII v7 x.2.2.1).2.1,(rGet zIIIIIIIIIIIII v7 x.2.2.1).2.2.1,(rGet zIIIIIIIIIIIII v7 x.2.2.1).2.2.2.1,(rGet zIIIIIIIIIIIII v7 x.2.2.1).2.2.2.2.1,(rGet zIIIIIIIIIIIII v7 x.2.2.1).2.2.2.2.2.1,(rGet zIIIIIIIIIIIII v7 x.2.2.1).2.2.2.2.2.2.1,(rArith .add .i64 v6 (1:Int)),(rGet zIIIIIIIIIIIII v7 x.2.2.1).2.2.2.2.2.2.2.2.1,(rGet zIIIIIIIIIIIII v7 x.2.2.1).2.2.2.2.2.2.2.2.2.1,(rGet zIIIIIIIIIIIII v7 x.2.2.1).2.2.2.2.2.2.2.2.2.2.1,(rGet zIIIIIIIIIIIII v7 x.2.2.1).2.2.2.2.2.2.2.2.2.2.2.1,(rGet zIIIIIIIIIIIII v7 x.2.2.1).2.2.2.2.2.2.2.2.2.2.2.2)) fun v8=>(bif (rInR v8 x.2.2.1) then (lets (rPut v8 x.2.2.1 ((rGet zIIIIIIIIIIIII v8 x.2.2.1).1,(rGet zIIIIIIIIIIIII v8 x.2.2.1).2.1,(rGet zIIIIIIIIIIIII v8 x.2.2.1).2.2.1,(rGet zIIIIIIIIIIIII v8 x.2.2.1).2.2.2.1,(rGet zIIIIIIIIIIIII v8 x.2.2.1).2.2.2.2.1,(rGet zIIIIIIIIIIIII v8 x.2.2.1).2.2.2.2.2.1,(rGet zIIIIIIIIIIIII v8 x.2.2.1).2.2.2.2.2.2.1,(rGet zIIIIIIIIIIIII v8 x.2.2.1).2.2.2.2.2.2.2.1,(rArith .add .i64 (rArith .add .i64 v6 (1:Int)) (1:Int)),(rGet zIIIIIIIIIIIII v8 x.2.2.1).2.2.2.2.2.2.2.2.2.1,(rGet zIIIIIIIIIIIII v8 x.2.2.1).2.2.2.2.2.2.2.2.2.2.1,(rGet zIIIIIIIIIIIII v8 x.2.2.1).2.2.2.2.2.2.2.2.2.2.2.1,(rGet zIIIIIIIIIIIII v8 x.2.2.1).2.2.2.2.2.2.2.2.2.2.2.2)) fun v9=>(bif (rInR v9 x.2.2.1) then (lets (rPut v9 x.2.2.1 ((rGet zIIIIIIIIIIIII v9 x.2.2.1).1,(rGet zIIIIIIIIIIIII v9 x.2.2.1).2.1,(rGet zIIIIIIIIIIIII v9 x.2.2.1).2.2.1,(rGet zIIIIIIIIIIIII v9 x.2.2.1).2.2.2.1,(rGet zIIIIIIIIIIIII v9 x.2.2.1).2.2.2.2.1,(rGet zIIIIIIIIIIIII v9 x.2.2.1).2.2.2.2.2.1,(rGet zIIIIIIIIIIIII v9 x.2.2.1).2.2.2.2.2.2.1,(rGet zIIIIIIIIIIIII v9 x.2.2.1).2.2.2.2.2.2.2.1,(rGet zIIIIIIIIIIIII v9 x.2.2.1).2.2.2.2.2.2.2.2.1,(rArith .add .i64 (rArith .add .i64 (rArith .add .i64 v6 (1:Int)) (1:Int)) (1:Int)),(rGet zIIIIIIIIIIIII v9 x.2.2.1).2.2.2.2.2.2.2.2.2.2.1,(rGet zIIIIIIIIIIIII v9 x.2.2.1).2.2.2.2.2.2.2.2.2.2.2.1,(rGet zIIIIIIIIIIIII v9 x.2.2.1).2.2.2.2.2.2.2.2.2.2.2.2)) fun v10=>(bif (rInR v10 x.2.2.1) then (lets (rPut v10 x.2.2.1 ((rGet zIIIIIIIIIIIII v10 x.2.2.1).1,(rGet zIIIIIIIIIIIII v10 x.2.2.1).2.1,(rGet zIIIIIIIIIIIII v10 x.2.2.1).2.2.1,(rGet zIIIIIIIIIIIII v10 x.2.2.1).2.2.2.1,(rGet zIIIIIIIIIIIII v10 x.2.2.1).2.2.2.2.1,(rGet zIIIIIIIIIIIII v10 x.2.2.1).2.2.2.2.2.1,(rGet zIIIIIIIIIIIII v10 x.2.2.1).2.2.2.2.2.2.1,(rGet zIIIIIIIIIIIII v10 x.2.2.1).2.2.2.2.2.2.2.1,(rGet zIIIIIIIIIIIII v10 x.2.2.1).2.2.2.2.2.2.2.2.1,(rGet zIIIIIIIIIIIII v10 x.2.2.1).2.2.2.2.2.2.2.2.2.1,(rArith .add .i64 (rArith .add .i64 (rArith .add .i64 (rArith .add .i64 v6 (1:Int)) (1:Int)) (1:Int)) (1:Int)),(rGet zIIIIIIIIIIIII v10 x.2.2.1).2.2.2.2.2.2.2.2.2.2.2.1,(rGet zIIIIIIIIIIIII v10 x.2.2.1).2.2.2.2.2.2.2.2.2.2.2.2)) fun v11=>(bif (rInR v11 x.2.2.1) then (lets (rPut v11 x.2.2.1 ((rGet zIIIIIIIIIIIII v11 x.2.2.1).1,(rGet zIIIIIIIIIIIII v11 x.2.2.1).2.1,(rGet zIIIIIIIIIIIII v11 x.2.2.1).2.2.1,(rGet zIIIIIIIIIIIII v11 x.2.2.1).2.2.2.1,(rGet zIIIIIIIIIIIII v11 x.2.2.1).2.2.2.2.1,(rGet zIIIIIIIIIIIII v11 x.2.2.1).2.2.2.2.2.1,(rGet zIIIIIIIIIIIII v11 x.2.2.1).2.2.2.2.2.2.1,(rGet zIIIIIIIIIIIII v11 x.2.2.1).2.2.2.2.2.2.2.1,(rGet zIIIIIIIIIIIII v11 x.2.2.1).2.2.2.2.2.2.2.2.1,(rGet zIIIIIIIIIIIII v11 x.2.2.1).2.2.2.2.2.2.2.2.2.1,(rGet zIIIIIIIIIIIII v11 x.2.2.1).2.2.2.2.2.2.2.2.2.2.1,(rArith .add .i64 (rArith .add .i64 (rArith .add .i64 (rArith .add .i64 (rArith .add .i64 v6 (1:Int)) (1:Int)) (1:Int)) (1:Int)) (1:Int)),(rGet zIIIIIIIIIIIII v11 x.2.2.1).2.2.2.2.2.2.2.2.2.2.2.2)) fun v12=>(lets (rArith .add .i64 (rArith .add .i64 (rArith .add .i64 (rArith .add .i64 (rArith .add .i64 (rArith .add .i64 v6 (1:Int)) (1:Int)) (1:Int)) (1:Int)) (1:Int)) (1:Int)) fun v13=>(bif (rInR v12 x.2.2.1) then (lets (rPut v12 x.2.2.1 ((rGet zIIIIIIIIIIIII v12 x.2.2.1).1,(rGet zIIIIIIIIIIIII v12 x.2.2.1).2.1,(rGet zIIIIIIIIIIIII v12 x.2.2.1).2.2.1,(rGet zIIIIIIIIIIIII v12 x.2.2.1).2.2.2.1,(rGet zIIIIIIIIIIIII v12 x.2.2.1).2.2.2.2.1,(rGet zIIIIIIIIIIIII v12 x.2.2.1).2.2.2.2.2.1,(rGet zIIIIIIIIIIIII v12 x.2.2.1).2.2.2.2.2.2.1,(rGet zIIIIIIIIIIIII v12 x.2.2.1).2.2.2.2.2.2.2.1,(rGet zIIIIIIIIIIIII v12 x.2.2.1).2.2.2.2.2.2.2.2.1,(rGet zIIIIIIIIIIIII v12 x.2.2.1).2.2.2.2.2.2.2.2.2.1,(rGet zIIIIIIIIIIIII v12 x.2.2.1).2.2.2.2.2.2.2.2.2.2.1,(rGet zIIIIIIIIIIIII v12 x.2.2.1).2.2.2.2.2.2.2.2.2.2.2.1,v13)) fun v14=>some (.inl (v14,(rArith .add .i64 v13 (1:Int)),(rArith .add .i64 x.2.2.1 (1:Int)),()))) else none))) else none)) else none)) else none)) else none)) else none)) else none))) else none)) else none)) else none)) else none)) else none)) else none) else some (.inr (.inl (x.1,x.2.1,()))))
noncomputable def laws_markParcelS_l0 (k:Unit) (x:(List (Int×Int×Int×Int×Int×Int×Int×Int×Int×Int×Int×Int×Int))×Int×Int×Unit):Option ((List (Int×Int×Int×Int×Int×Int×Int×Int×Int×Int×Int×Int×Int))×Int×Unit ⊕ Empty):=iter (laws_markParcelS_b0 k) big x
noncomputable def laws_markParcelS (a0:(List (Int×Int×Int×Int×Int×Int×Int×Int×Int×Int×Int×Int×Int))) (a1:Int):Option (Int×(List (Int×Int×Int×Int×Int×Int×Int×Int×Int×Int×Int×Int×Int))×Unit):=
 ((laws_markParcelS_l0 (()) (a0,a1,(0:Int),())).bind fun q0=>(Sum.elim (fun y1=>some (y1.2.1,y1.1,())) (fun q2=>(Empty.elim q2)) q0))
noncomputable def laws_markGrantS_b0 (k:Unit) (x:(List (Int×Int×Int×Int×Int×Int×Bool))×Int×Int×Unit):Option (((List (Int×Int×Int×Int×Int×Int×Bool))×Int×Int×Unit) ⊕ ((List (Int×Int×Int×Int×Int×Int×Bool))×Int×Unit ⊕ Empty)):=
 (bif (rCmp .lss x.2.2.1 (rLen x.1)) then (bif (rInR x.1 x.2.2.1) then (lets (rPut x.1 x.2.2.1 (x.2.1,(rGet zIIIIIIB x.1 x.2.2.1).2.1,(rGet zIIIIIIB x.1 x.2.2.1).2.2.1,(rGet zIIIIIIB x.1 x.2.2.1).2.2.2.1,(rGet zIIIIIIB x.1 x.2.2.1).2.2.2.2.1,(rGet zIIIIIIB x.1 x.2.2.1).2.2.2.2.2.1,(rGet zIIIIIIB x.1 x.2.2.1).2.2.2.2.2.2)) fun v0=>(bif (rInR v0 x.2.2.1) then (lets (rPut v0 x.2.2.1 ((rGet zIIIIIIB v0 x.2.2.1).1,(rArith .add .i64 x.2.1 (1:Int)),(rGet zIIIIIIB v0 x.2.2.1).2.2.1,(rGet zIIIIIIB v0 x.2.2.1).2.2.2.1,(rGet zIIIIIIB v0 x.2.2.1).2.2.2.2.1,(rGet zIIIIIIB v0 x.2.2.1).2.2.2.2.2.1,(rGet zIIIIIIB v0 x.2.2.1).2.2.2.2.2.2)) fun v1=>(bif (rInR v1 x.2.2.1) then (lets (rPut v1 x.2.2.1 ((rGet zIIIIIIB v1 x.2.2.1).1,(rGet zIIIIIIB v1 x.2.2.1).2.1,(rArith .add .i64 (rArith .add .i64 x.2.1 (1:Int)) (1:Int)),(rGet zIIIIIIB v1 x.2.2.1).2.2.2.1,(rGet zIIIIIIB v1 x.2.2.1).2.2.2.2.1,(rGet zIIIIIIB v1 x.2.2.1).2.2.2.2.2.1,(rGet zIIIIIIB v1 x.2.2.1).2.2.2.2.2.2)) fun v2=>(bif (rInR v2 x.2.2.1) then (lets (rPut v2 x.2.2.1 ((rGet zIIIIIIB v2 x.2.2.1).1,(rGet zIIIIIIB v2 x.2.2.1).2.1,(rGet zIIIIIIB v2 x.2.2.1).2.2.1,(rArith .add .i64 (rArith .add .i64 (rArith .add .i64 x.2.1 (1:Int)) (1:Int)) (1:Int)),(rGet zIIIIIIB v2 x.2.2.1).2.2.2.2.1,(rGet zIIIIIIB v2 x.2.2.1).2.2.2.2.2.1,(rGet zIIIIIIB v2 x.2.2.1).2.2.2.2.2.2)) fun v3=>(bif (rInR v3 x.2.2.1) then (lets (rPut v3 x.2.2.1 ((rGet zIIIIIIB v3 x.2.2.1).1,(rGet zIIIIIIB v3 x.2.2.1).2.1,(rGet zIIIIIIB v3 x.2.2.1).2.2.1,(rGet zIIIIIIB v3 x.2.2.1).2.2.2.1,(rArith .add .i64 (rArith .add .i64 (rArith .add .i64 (rArith .add .i64 x.2.1 (1:Int)) (1:Int)) (1:Int)) (1:Int)),(rGet zIIIIIIB v3 x.2.2.1).2.2.2.2.2.1,(rGet zIIIIIIB v3 x.2.2.1).2.2.2.2.2.2)) fun v4=>(bif (rInR v4 x.2.2.1) then (lets (rPut v4 x.2.2.1 ((rGet zIIIIIIB v4 x.2.2.1).1,(rGet zIIIIIIB v4 x.2.2.1).2.1,(rGet zIIIIIIB v4 x.2.2.1).2.2.1,(rGet zIIIIIIB v4 x.2.2.1).2.2.2.1,(rGet zIIIIIIB v4 x.2.2.1).2.2.2.2.1,(rArith .add .i64 (rArith .add .i64 (rArith .add .i64 (rArith .add .i64 (rArith .add .i64 x.2.1 (1:Int)) (1:Int)) (1:Int)) (1:Int)) (1:Int)),(rGet zIIIIIIB v4 x.2.2.1).2.2.2.2.2.2)) fun v5=>(lets (rArith .add .i64 (rArith .add .i64 (rArith .add .i64 (rArith .add .i64 (rArith .add .i64 (rArith .add .i64 x.2.1 (1:Int)) (1:Int)) (1:Int)) (1:Int)) (1:Int)) (1:Int)) fun v6=>(bif (rIsZero (3:Int)) then none else (bif (rInR v5 x.2.2.1) then (lets (rPut v5 x.2.2.1 ((rGet zIIIIIIB v5 x.2.2.1).1,(rGet zIIIIIIB v5 x.2.2.1).2.1,(rGet zIIIIIIB v5 x.2.2.1).2.2.1,(rGet zIIIIIIB v5 x.2.2.1).2.2.2.1,(rGet zIIIIIIB v5 x.2.2.1).2.2.2.2.1,(rGet zIIIIIIB v5 x.2.2.1).2.2.2.2.2.1,(rCmp .eql (rArith .rem .i64 v6 (3:Int)) (0:Int)))) fun v7=>some (.inl (v7,(rArith .add .i64 v6 (1:Int)),(rArith .add .i64 x.2.2.1 (1:Int)),()))) else none)))) else none)) else none)) else none)) else none)) else none)) else none) else some (.inr (.inl (x.1,x.2.1,()))))
noncomputable def laws_markGrantS_l0 (k:Unit) (x:(List (Int×Int×Int×Int×Int×Int×Bool))×Int×Int×Unit):Option ((List (Int×Int×Int×Int×Int×Int×Bool))×Int×Unit ⊕ Empty):=iter (laws_markGrantS_b0 k) big x
noncomputable def laws_markGrantS (a0:(List (Int×Int×Int×Int×Int×Int×Bool))) (a1:Int):Option (Int×(List (Int×Int×Int×Int×Int×Int×Bool))×Unit):=
 ((laws_markGrantS_l0 (()) (a0,a1,(0:Int),())).bind fun q0=>(Sum.elim (fun y1=>some (y1.2.1,y1.1,())) (fun q2=>(Empty.elim q2)) q0))
noncomputable def laws_markNetwork (a0:Int) (a1:Int) (a2:Int) (a3:Int) (a4:Int) (a5:Int) (a6:Int) (a7:Int) (a8:Int) (a9:Int) (a10:Int) (a11:(List ((List (Int×Int))×(List (Int×Int))×(List (Int×(List (Int))×List (Int×Int×Int×Bool)))×Int×Int×Bool×Bool×Bool×Int×Int×List (Int×Int×Int×Int×Int×Int×Int)))) (a12:(List (Int×Int×Int×Int×Int×Int×Int×Int×Int×Int×Int×Int×Int))) (a13:(List (Int×Int×Int×Int×Int×Int×Bool))) (a14:(List (Int×Int×Int×Int×Int×Int×Int))) (a15:Int):Option (Int×(List ((List (Int×Int))×(List (Int×Int))×(List (Int×(List (Int))×List (Int×Int×Int×Bool)))×Int×Int×Bool×Bool×Bool×Int×Int×List (Int×Int×Int×Int×Int×Int×Int)))×(List (Int×Int×Int×Int×Int×Int×Int×Int×Int×Int×Int×Int×Int))×(List (Int×Int×Int×Int×Int×Int×Bool))×(List (Int×Int×Int×Int×Int×Int×Int))×Unit):=
 ((laws_markSiteS a11 a15).bind fun y0=>((laws_markParcelS a12 y0.1).bind fun y1=>((laws_markGrantS a13 y1.1).bind fun y2=>((laws_markEventS a14 y2.1).bind fun y3=>some (y3.1,y0.2.1,y1.2.1,y2.2.1,y3.2.1,())))))
noncomputable def laws_heldSpanS_b0 (k:(List (Int×Int))×Unit) (x:Int×Int×Unit):Option ((Int×Int×Unit) ⊕ (Int×Unit ⊕ (Int×Unit ⊕ Empty))):=
 (bif (rCmp .lss x.2.1 (rLen k.1)) then (bif (rInR k.1 x.2.1) then (bif (rCmp .neq (rGet zII k.1 x.2.1).1 x.1) then some (.inr (.inl ((-1:Int),()))) else (bif (rInR k.1 x.2.1) then (bif (rCmp .neq (rGet zII k.1 x.2.1).2 (rArith .add .i64 x.1 (1:Int))) then some (.inr (.inl ((-1:Int),()))) else some (.inl ((rArith .add .i64 (rArith .add .i64 x.1 (1:Int)) (1:Int)),(rArith .add .i64 x.2.1 (1:Int)),()))) else none)) else none) else some (.inr (.inr (.inl (x.1,())))))
noncomputable def laws_heldSpanS_l0 (k:(List (Int×Int))×Unit) (x:Int×Int×Unit):Option (Int×Unit ⊕ (Int×Unit ⊕ Empty)):=iter (laws_heldSpanS_b0 k) big x
noncomputable def laws_heldSpanS (a0:(List (Int×Int))) (a1:Int):Option (Int×Unit):=
 ((laws_heldSpanS_l0 (a0,()) (a1,(0:Int),())).bind fun q0=>(Sum.elim (fun y1=>some (y1.1,())) (fun q2=>(Sum.elim (fun y3=>some (y3.1,())) (fun q4=>(Empty.elim q4)) q2)) q0))
noncomputable def laws_heldBoxS_b0 (k:(List (Int×Int×Int×Bool))×Unit) (x:Int×Int×Unit):Option ((Int×Int×Unit) ⊕ (Int×Unit ⊕ (Int×Unit ⊕ Empty))):=
 (bif (rCmp .lss x.2.1 (rLen k.1)) then (bif (rInR k.1 x.2.1) then (bif (rCmp .neq (rGet zIIIB k.1 x.2.1).1 x.1) then some (.inr (.inl ((-1:Int),()))) else (bif (rInR k.1 x.2.1) then (bif (rCmp .neq (rGet zIIIB k.1 x.2.1).2.1 (rArith .add .i64 x.1 (1:Int))) then some (.inr (.inl ((-1:Int),()))) else (bif (rInR k.1 x.2.1) then (bif (rCmp .neq (rGet zIIIB k.1 x.2.1).2.2.1 (rArith .add .i64 (rArith .add .i64 x.1 (1:Int)) (1:Int))) then some (.inr (.inl ((-1:Int),()))) else (bif (rInR k.1 x.2.1) then (bif (rIsZero (3:Int)) then none else (lets (Bool.not (rBeq (rGet zIIIB k.1 x.2.1).2.2.2 (rCmp .eql (rArith .rem .i64 (rArith .add .i64 (rArith .add .i64 (rArith .add .i64 x.1 (1:Int)) (1:Int)) (1:Int)) (3:Int)) (0:Int)))) fun v0=>(bif v0 then some (.inr (.inl ((-1:Int),()))) else some (.inl ((rArith .add .i64 (rArith .add .i64 (rArith .add .i64 (rArith .add .i64 x.1 (1:Int)) (1:Int)) (1:Int)) (1:Int)),(rArith .add .i64 x.2.1 (1:Int)),()))))) else none)) else none)) else none)) else none) else some (.inr (.inr (.inl (x.1,())))))
noncomputable def laws_heldBoxS_l0 (k:(List (Int×Int×Int×Bool))×Unit) (x:Int×Int×Unit):Option (Int×Unit ⊕ (Int×Unit ⊕ Empty)):=iter (laws_heldBoxS_b0 k) big x
noncomputable def laws_heldBoxS (a0:(List (Int×Int×Int×Bool))) (a1:Int):Option (Int×Unit):=
 ((laws_heldBoxS_l0 (a0,()) (a1,(0:Int),())).bind fun q0=>(Sum.elim (fun y1=>some (y1.1,())) (fun q2=>(Sum.elim (fun y3=>some (y3.1,())) (fun q4=>(Empty.elim q4)) q2)) q0))
noncomputable def laws_heldColumnS_b0 (k:(List (Int×(List (Int))×List (Int×Int×Int×Bool)))×Unit) (x:Int×Int×Unit):Option ((Int×Int×Unit) ⊕ (Int×Unit ⊕ (Int×Unit ⊕ Empty))):=
 (bif (rCmp .lss x.2.1 (rLen k.1)) then (bif (rInR k.1 x.2.1) then (bif (rCmp .neq (rGet zILIlLIIIBl k.1 x.2.1).1 x.1) then some (.inr (.inl ((-1:Int),()))) else (bif (rInR k.1 x.2.1) then ((laws_heldIntS (rGet zILIlLIIIBl k.1 x.2.1).2.1 (rArith .add .i64 x.1 (1:Int))).bind fun y0=>(bif (rCmp .lss y0.1 (0:Int)) then some (.inr (.inl ((-1:Int),()))) else (bif (rInR k.1 x.2.1) then ((laws_heldBoxS (rGet zILIlLIIIBl k.1 x.2.1).2.2 y0.1).bind fun y1=>(bif (rCmp .lss y1.1 (0:Int)) then some (.inr (.inl ((-1:Int),()))) else some (.inl (y1.1,(rArith .add .i64 x.2.1 (1:Int)),())))) else none))) else none)) else none) else some (.inr (.inr (.inl (x.1,())))))
noncomputable def laws_heldColumnS_l0 (k:(List (Int×(List (Int))×List (Int×Int×Int×Bool)))×Unit) (x:Int×Int×Unit):Option (Int×Unit ⊕ (Int×Unit ⊕ Empty)):=iter (laws_heldColumnS_b0 k) big x
noncomputable def laws_heldColumnS (a0:(List (Int×(List (Int))×List (Int×Int×Int×Bool)))) (a1:Int):Option (Int×Unit):=
 ((laws_heldColumnS_l0 (a0,()) (a1,(0:Int),())).bind fun q0=>(Sum.elim (fun y1=>some (y1.1,())) (fun q2=>(Sum.elim (fun y3=>some (y3.1,())) (fun q4=>(Empty.elim q4)) q2)) q0))
noncomputable def laws_heldSiteS_b0 (k:(List ((List (Int×Int))×(List (Int×Int))×(List (Int×(List (Int))×List (Int×Int×Int×Bool)))×Int×Int×Bool×Bool×Bool×Int×Int×List (Int×Int×Int×Int×Int×Int×Int)))×Unit) (x:Int×Int×Unit):Option ((Int×Int×Unit) ⊕ (Int×Unit ⊕ (Int×Unit ⊕ Empty))):=
 (bif (rCmp .lss x.2.1 (rLen k.1)) then (bif (rInR k.1 x.2.1) then ((laws_heldSpanS (rGet zLIIlLIIlLILIlLIIIBllIIBBBIILIIIIIIIl k.1 x.2.1).1 x.1).bind fun y0=>(bif (rCmp .lss y0.1 (0:Int)) then some (.inr (.inl ((-1:Int),()))) else (bif (rInR k.1 x.2.1) then ((laws_heldSpanS (rGet zLIIlLIIlLILIlLIIIBllIIBBBIILIIIIIIIl k.1 x.2.1).2.1 y0.1).bind fun y1=>(bif (rCmp .lss y1.1 (0:Int)) then some (.inr (.inl ((-1:Int),()))) else (bif (rInR k.1 x.2.1) then ((laws_heldColumnS (rGet zLIIlLIIlLILIlLIIIBllIIBBBIILIIIIIIIl k.1 x.2.1).2.2.1 y1.1).bind fun y2=>(bif (rCmp .lss y2.1 (0:Int)) then some (.inr (.inl ((-1:Int),()))) else (bif (rInR k.1 x.2.1) then (bif (rCmp .neq (rGet zLIIlLIIlLILIlLIIIBllIIBBBIILIIIIIIIl k.1 x.2.1).2.2.2.1 y2.1) then some (.inr (.inl ((-1:Int),()))) else (bif (rInR k.1 x.2.1) then (bif (rCmp .neq (rGet zLIIlLIIlLILIlLIIIBllIIBBBIILIIIIIIIl k.1 x.2.1).2.2.2.2.1 (rArith .add .i64 y2.1 (1:Int))) then some (.inr (.inl ((-1:Int),()))) else (bif (rInR k.1 x.2.1) then (bif (rIsZero (3:Int)) then none else (lets (Bool.not (rBeq (rGet zLIIlLIIlLILIlLIIIBllIIBBBIILIIIIIIIl k.1 x.2.1).2.2.2.2.2.1 (rCmp .eql (rArith .rem .i64 (rArith .add .i64 (rArith .add .i64 y2.1 (1:Int)) (1:Int)) (3:Int)) (0:Int)))) fun v3=>(bif v3 then some (.inr (.inl ((-1:Int),()))) else (bif (rInR k.1 x.2.1) then (bif (rIsZero (3:Int)) then none else (lets (Bool.not (rBeq (rGet zLIIlLIIlLILIlLIIIBllIIBBBIILIIIIIIIl k.1 x.2.1).2.2.2.2.2.2.1 (rCmp .eql (rArith .rem .i64 (rArith .add .i64 (rArith .add .i64 (rArith .add .i64 y2.1 (1:Int)) (1:Int)) (1:Int)) (3:Int)) (0:Int)))) fun v4=>(bif v4 then some (.inr (.inl ((-1:Int),()))) else (bif (rInR k.1 x.2.1) then (bif (rIsZero (3:Int)) then none else (lets (rCmp .eql (rArith .rem .i64 (rArith .add .i64 (rArith .add .i64 (rArith .add .i64 (rArith .add .i64 y2.1 (1:Int)) (1:Int)) (1:Int)) (1:Int)) (3:Int)) (0:Int)) fun v5=>(bif (Bool.not (rBeq (rGet zLIIlLIIlLILIlLIIIBllIIBBBIILIIIIIIIl k.1 x.2.1).2.2.2.2.2.2.2.1 v5)) then some (.inr (.inl ((-1:Int),()))) else (bif (rInR k.1 x.2.1) then (lets (rCmp .neq (rGet zLIIlLIIlLILIlLIIIBllIIBBBIILIIIIIIIl k.1 x.2.1).2.2.2.2.2.2.2.2.1 (rArith .add .i64 (rArith .add .i64 (rArith .add .i64 (rArith .add .i64 (rArith .add .i64 y2.1 (1:Int)) (1:Int)) (1:Int)) (1:Int)) (1:Int))) fun v6=>(bif v6 then some (.inr (.inl ((-1:Int),()))) else (lets (rArith .add .i64 (rArith .add .i64 (rArith .add .i64 (rArith .add .i64 (rArith .add .i64 (rArith .add .i64 y2.1 (1:Int)) (1:Int)) (1:Int)) (1:Int)) (1:Int)) (1:Int)) fun v7=>(bif (rInR k.1 x.2.1) then (bif (rCmp .neq (rGet zLIIlLIIlLILIlLIIIBllIIBBBIILIIIIIIIl k.1 x.2.1).2.2.2.2.2.2.2.2.2.1 v7) then some (.inr (.inl ((-1:Int),()))) else (bif (rInR k.1 x.2.1) then ((laws_heldEventS (rGet zLIIlLIIlLILIlLIIIBllIIBBBIILIIIIIIIl k.1 x.2.1).2.2.2.2.2.2.2.2.2.2 (rArith .add .i64 v7 (1:Int))).bind fun y8=>(bif (rCmp .lss y8.1 (0:Int)) then some (.inr (.inl ((-1:Int),()))) else some (.inl (y8.1,(rArith .add .i64 x.2.1 (1:Int)),())))) else none)) else none)))) else none)))) else none)))) else none)))) else none)) else none)) else none))) else none))) else none))) else none) else some (.inr (.inr (.inl (x.1,())))))
noncomputable def laws_heldSiteS_l0 (k:(List ((List (Int×Int))×(List (Int×Int))×(List (Int×(List (Int))×List (Int×Int×Int×Bool)))×Int×Int×Bool×Bool×Bool×Int×Int×List (Int×Int×Int×Int×Int×Int×Int)))×Unit) (x:Int×Int×Unit):Option (Int×Unit ⊕ (Int×Unit ⊕ Empty)):=iter (laws_heldSiteS_b0 k) big x
noncomputable def laws_heldSiteS (a0:(List ((List (Int×Int))×(List (Int×Int))×(List (Int×(List (Int))×List (Int×Int×Int×Bool)))×Int×Int×Bool×Bool×Bool×Int×Int×List (Int×Int×Int×Int×Int×Int×Int)))) (a1:Int):Option (Int×Unit):=
 ((laws_heldSiteS_l0 (a0,()) (a1,(0:Int),())).bind fun q0=>(Sum.elim (fun y1=>some (y1.1,())) (fun q2=>(Sum.elim (fun y3=>some (y3.1,())) (fun q4=>(Empty.elim q4)) q2)) q0))
noncomputable def laws_heldParcelS_b0 (k:(List (Int×Int×Int×Int×Int×Int×Int×Int×Int×Int×Int×Int×Int))×Unit) (x:Int×Int×Unit):Option ((Int×Int×Unit) ⊕ (Int×Unit ⊕ (Int×Unit ⊕ Empty))):=
 (bif (rCmp .lss x.2.1 (rLen k.1)) then (bif (rInR k.1 x.2.1) then (bif (rCmp .neq (rGet zIIIIIIIIIIIII k.1 x.2.1).1 x.1) then some (.inr (.inl ((-1:Int),()))) else (bif (rInR k.1 x.2.1) then (bif (rCmp .neq (rGet zIIIIIIIIIIIII k.1 x.2.1).2.1 (rArith .add .i64 x.1 (1:Int))) then some (.inr (.inl ((-1:Int),()))) else (bif (rInR k.1 x.2.1) then (bif (rCmp .neq (rGet zIIIIIIIIIIIII k.1 x.2.1).2.2.1 (rArith .add .i64 (rArith .add .i64 x.1 (1:Int)) (1:Int))) then some (.inr (.inl ((-1:Int),()))) else (bif (rInR k.1 x.2.1) then (bif (rCmp .neq (rGet zIIIIIIIIIIIII k.1 x.2.1).2.2.2.1 (rArith .add .i64 (rArith .add .i64 (rArith .add .i64 x.1 (1:Int)) (1:Int)) (1:Int))) then some (.inr (.inl ((-1:Int),()))) else (bif (rInR k.1 x.2.1) then (lets (rCmp .neq (rGet zIIIIIIIIIIIII k.1 x.2.1).2.2.2.2.1 (rArith .add .i64 (rArith .add .i64 (rArith .add .i64 (rArith .add .i64 x.1 (1:Int)) (1:Int)) (1:Int)) (1:Int))) fun v0=>(bif v0 then some (.inr (.inl ((-1:Int),()))) else (bif (rInR k.1 x.2.1) then (lets (rCmp .neq (rGet zIIIIIIIIIIIII k.1 x.2.1).2.2.2.2.2.1 (rArith .add .i64 (rArith .add .i64 (rArith .add .i64 (rArith .add .i64 (rArith .add .i64 x.1 (1:Int)) (1:Int)) (1:Int)) (1:Int)) (1:Int))) fun v1=>(bif v1 then some (.inr (.inl ((-1:Int),()))) else (lets (rArith .add .i64 (rArith .add .i64 (rArith .add .i64 (rArith .add .i64 (rArith .add .i64 (rArith .add .i64 x.1 (1:Int)) (1:Int)) (1:Int)) (1:Int)) (1:Int)) (1:Int)) fun v2=>(bif (rInR k.1 x.2.1) then (bif (rCmp .neq (rGet zIIIIIIIIIIIII k.1 x.2.1).2.2.2.2.2.2.1 v2) then some (.inr (.inl ((-1:Int),()))) else (bif (rInR k.1 x.2.1) then (bif (rCmp .neq (rGet zIIIIIIIIIIIII k.1 x.2.1).2.2.2.2.2.2.2.1 (rArith .add .i64 v2 (1:Int))) then some (.inr (.inl ((-1:Int),()))) else (bif (rInR k.1 x.2.1) then (bif (rCmp .neq (rGet zIIIIIIIIIIIII k.1 x.2.1).2.2.2.2.2.2.2.2.1 (rArith .add .i64 (rArith .add .i64 v2 (1:Int)) (1:Int))) then some (.inr (.inl ((-1:Int),()))) else (bif (rInR k.1 x.2.1) then (bif (rCmp .neq (rGet zIIIIIIIIIIIII k.1 x.2.1).2.2.2.2.2.2.2.2.2.1 (rArith .add .i64 (rArith .add .i64 (rArith .add .i64 v2 (1:Int)) (1:Int)) (1:Int))) then some (.inr (.inl ((-1:Int),()))) else (bif (rInR k.1 x.2.1) then (lets (rCmp .neq (rGet zIIIIIIIIIIIII k.1 x.2.1).2.2.2.2.2.2.2.2.2.2.1 (rArith .add .i64 (rArith .add .i64 (rArith .add .i64 (rArith .add .i64 v2 (1:Int)) (1:Int)) (1:Int)) (1:Int))) fun v3=>(bif v3 then some (.inr (.inl ((-1:Int),()))) else (bif (rInR k.1 x.2.1) then (lets (rCmp .neq (rGet zIIIIIIIIIIIII k.1 x.2.1).2.2.2.2.2.2.2.2.2.2.2.1 (rArith .add .i64 (rArith .add .i64 (rArith .add .i64 (rArith .add .i64 (rArith .add .i64 v2 (1:Int)) (1:Int)) (1:Int)) (1:Int)) (1:Int))) fun v4=>(bif v4 then some (.inr (.inl ((-1:Int),()))) else (lets (rArith .add .i64 (rArith .add .i64 (rArith .add .i64 (rArith .add .i64 (rArith .add .i64 (rArith .add .i64 v2 (1:Int)) (1:Int)) (1:Int)) (1:Int)) (1:Int)) (1:Int)) fun v5=>(bif (rInR k.1 x.2.1) then (bif (rCmp .neq (rGet zIIIIIIIIIIIII k.1 x.2.1).2.2.2.2.2.2.2.2.2.2.2.2 v5) then some (.inr (.inl ((-1:Int),()))) else some (.inl ((rArith .add .i64 v5 (1:Int)),(rArith .add .i64 x.2.1 (1:Int)),()))) else none)))) else none))) else none)) else none)) else none)) else none)) else none)))) else none))) else none)) else none)) else none)) else none)) else none) else some (.inr (.inr (.inl (x.1,())))))
noncomputable def laws_heldParcelS_l0 (k:(List (Int×Int×Int×Int×Int×Int×Int×Int×Int×Int×Int×Int×Int))×Unit) (x:Int×Int×Unit):Option (Int×Unit ⊕ (Int×Unit ⊕ Empty)):=iter (laws_heldParcelS_b0 k) big x
noncomputable def laws_heldParcelS (a0:(List (Int×Int×Int×Int×Int×Int×Int×Int×Int×Int×Int×Int×Int))) (a1:Int):Option (Int×Unit):=
 ((laws_heldParcelS_l0 (a0,()) (a1,(0:Int),())).bind fun q0=>(Sum.elim (fun y1=>some (y1.1,())) (fun q2=>(Sum.elim (fun y3=>some (y3.1,())) (fun q4=>(Empty.elim q4)) q2)) q0))
noncomputable def laws_heldGrantS_b0 (k:(List (Int×Int×Int×Int×Int×Int×Bool))×Unit) (x:Int×Int×Unit):Option ((Int×Int×Unit) ⊕ (Int×Unit ⊕ (Int×Unit ⊕ Empty))):=
 (bif (rCmp .lss x.2.1 (rLen k.1)) then (bif (rInR k.1 x.2.1) then (bif (rCmp .neq (rGet zIIIIIIB k.1 x.2.1).1 x.1) then some (.inr (.inl ((-1:Int),()))) else (bif (rInR k.1 x.2.1) then (bif (rCmp .neq (rGet zIIIIIIB k.1 x.2.1).2.1 (rArith .add .i64 x.1 (1:Int))) then some (.inr (.inl ((-1:Int),()))) else (bif (rInR k.1 x.2.1) then (bif (rCmp .neq (rGet zIIIIIIB k.1 x.2.1).2.2.1 (rArith .add .i64 (rArith .add .i64 x.1 (1:Int)) (1:Int))) then some (.inr (.inl ((-1:Int),()))) else (bif (rInR k.1 x.2.1) then (bif (rCmp .neq (rGet zIIIIIIB k.1 x.2.1).2.2.2.1 (rArith .add .i64 (rArith .add .i64 (rArith .add .i64 x.1 (1:Int)) (1:Int)) (1:Int))) then some (.inr (.inl ((-1:Int),()))) else (bif (rInR k.1 x.2.1) then (lets (rCmp .neq (rGet zIIIIIIB k.1 x.2.1).2.2.2.2.1 (rArith .add .i64 (rArith .add .i64 (rArith .add .i64 (rArith .add .i64 x.1 (1:Int)) (1:Int)) (1:Int)) (1:Int))) fun v0=>(bif v0 then some (.inr (.inl ((-1:Int),()))) else (bif (rInR k.1 x.2.1) then (lets (rCmp .neq (rGet zIIIIIIB k.1 x.2.1).2.2.2.2.2.1 (rArith .add .i64 (rArith .add .i64 (rArith .add .i64 (rArith .add .i64 (rArith .add .i64 x.1 (1:Int)) (1:Int)) (1:Int)) (1:Int)) (1:Int))) fun v1=>(bif v1 then some (.inr (.inl ((-1:Int),()))) else (lets (rArith .add .i64 (rArith .add .i64 (rArith .add .i64 (rArith .add .i64 (rArith .add .i64 (rArith .add .i64 x.1 (1:Int)) (1:Int)) (1:Int)) (1:Int)) (1:Int)) (1:Int)) fun v2=>(bif (rInR k.1 x.2.1) then (bif (rIsZero (3:Int)) then none else (bif (Bool.not (rBeq (rGet zIIIIIIB k.1 x.2.1).2.2.2.2.2.2 (rCmp .eql (rArith .rem .i64 v2 (3:Int)) (0:Int)))) then some (.inr (.inl ((-1:Int),()))) else some (.inl ((rArith .add .i64 v2 (1:Int)),(rArith .add .i64 x.2.1 (1:Int)),())))) else none)))) else none))) else none)) else none)) else none)) else none)) else none) else some (.inr (.inr (.inl (x.1,())))))
noncomputable def laws_heldGrantS_l0 (k:(List (Int×Int×Int×Int×Int×Int×Bool))×Unit) (x:Int×Int×Unit):Option (Int×Unit ⊕ (Int×Unit ⊕ Empty)):=iter (laws_heldGrantS_b0 k) big x
noncomputable def laws_heldGrantS (a0:(List (Int×Int×Int×Int×Int×Int×Bool))) (a1:Int):Option (Int×Unit):=
 ((laws_heldGrantS_l0 (a0,()) (a1,(0:Int),())).bind fun q0=>(Sum.elim (fun y1=>some (y1.1,())) (fun q2=>(Sum.elim (fun y3=>some (y3.1,())) (fun q4=>(Empty.elim q4)) q2)) q0))
noncomputable def laws_heldNetwork (a0:Int) (a1:Int) (a2:Int) (a3:Int) (a4:Int) (a5:Int) (a6:Int) (a7:Int) (a8:Int) (a9:Int) (a10:Int) (a11:(List ((List (Int×Int))×(List (Int×Int))×(List (Int×(List (Int))×List (Int×Int×Int×Bool)))×Int×Int×Bool×Bool×Bool×Int×Int×List (Int×Int×Int×Int×Int×Int×Int)))) (a12:(List (Int×Int×Int×Int×Int×Int×Int×Int×Int×Int×Int×Int×Int))) (a13:(List (Int×Int×Int×Int×Int×Int×Bool))) (a14:(List (Int×Int×Int×Int×Int×Int×Int))) (a15:Int):Option (Int×Unit):=
 ((laws_heldSiteS a11 a15).bind fun y0=>(bif (rCmp .lss y0.1 (0:Int)) then some ((-1:Int),()) else ((laws_heldParcelS a12 y0.1).bind fun y1=>(bif (rCmp .lss y1.1 (0:Int)) then some ((-1:Int),()) else ((laws_heldGrantS a13 y1.1).bind fun y2=>(bif (rCmp .lss y2.1 (0:Int)) then some ((-1:Int),()) else ((laws_heldEventS a14 y2.1).bind fun y3=>(bif (rCmp .lss y3.1 (0:Int)) then some ((-1:Int),()) else some (y3.1,())))))))))
noncomputable def laws_FnExactNewNetwork (a0:Int) (a1:Int) (a2:Int) (a3:Int) (a4:Int) (a5:Int) (a6:Int) (a7:Int) (a8:Int) (a9:Int) (a10:(List ((List (Int×Int))×List (Int×Int)))) (a11:(List (List (Int×(List (Int))×List (Int×Int×Int×Bool))))):Option (Bool×Unit):=
 ((laws_szWeekS a10 (1048576:Int)).bind fun y0=>(bif (rCmp .lss y0.1 (0:Int)) then some (true,()) else ((laws_szColumnSS a11 y0.1).bind fun y1=>(bif (rCmp .lss y1.1 (0:Int)) then some (true,()) else ((laws_toTerms a0 a1 a2 a3 a4 a5 a6 a7).bind fun y2=>((laws_toWeekS a10).bind fun y3=>((laws_toColumnSS a11).bind fun y4=>((spec_NewNetwork y2.1 y2.2.1 y2.2.2.1 y2.2.2.2.1 y2.2.2.2.2.1 y2.2.2.2.2.2.1 y2.2.2.2.2.2.2.1 y2.2.2.2.2.2.2.2.1 a8 a9 y3.1 y4.1).bind fun y5=>((laws_toWeekS a10).bind fun y6=>((laws_toColumnSS a11).bind fun y7=>((laws_toTerms a0 a1 a2 a3 a4 a5 a6 a7).bind fun y8=>((impl_NewNetwork y8.1 y8.2.1 y8.2.2.1 y8.2.2.2.1 y8.2.2.2.2.1 y8.2.2.2.2.2.1 y8.2.2.2.2.2.2.1 y8.2.2.2.2.2.2.2.1 a8 a9 y6.1 y7.1).bind fun y9=>((laws_eqNetwork y9.1 y9.2.1 y9.2.2.1 y9.2.2.2.1 y9.2.2.2.2.1 y9.2.2.2.2.2.1 y9.2.2.2.2.2.2.1 y9.2.2.2.2.2.2.2.1 y9.2.2.2.2.2.2.2.2.1 y9.2.2.2.2.2.2.2.2.2.1 y9.2.2.2.2.2.2.2.2.2.2.1 y9.2.2.2.2.2.2.2.2.2.2.2.1 y9.2.2.2.2.2.2.2.2.2.2.2.2.1 y9.2.2.2.2.2.2.2.2.2.2.2.2.2.1 y9.2.2.2.2.2.2.2.2.2.2.2.2.2.2.1 y5.1 y5.2.1 y5.2.2.1 y5.2.2.2.1 y5.2.2.2.2.1 y5.2.2.2.2.2.1 y5.2.2.2.2.2.2.1 y5.2.2.2.2.2.2.2.1 y5.2.2.2.2.2.2.2.2.1 y5.2.2.2.2.2.2.2.2.2.1 y5.2.2.2.2.2.2.2.2.2.2.1 y5.2.2.2.2.2.2.2.2.2.2.2.1 y5.2.2.2.2.2.2.2.2.2.2.2.2.1 y5.2.2.2.2.2.2.2.2.2.2.2.2.2.1 y5.2.2.2.2.2.2.2.2.2.2.2.2.2.2.1).bind fun y10=>(bif (Bool.not y10.1) then some (false,()) else (bif (Bool.not (rBeq y9.2.2.2.2.2.2.2.2.2.2.2.2.2.2.2.1 y5.2.2.2.2.2.2.2.2.2.2.2.2.2.2.2.1)) then some (false,()) else ((laws_toWeekS a10).bind fun y11=>((laws_eqWeekS y6.1 y11.1).bind fun y12=>(bif (Bool.not y12.1) then some (false,()) else ((laws_toColumnSS a11).bind fun y13=>((laws_eqColumnSS y7.1 y13.1).bind fun y14=>(bif (Bool.not y14.1) then some (false,()) else ((laws_markWeekS y6.1 (1:Int)).bind fun y15=>((laws_markColumnSS y7.1 y15.1).bind fun y16=>(bif (rCmp .lss y16.1 (0:Int)) then some (false,()) else ((laws_eqNetwork y9.1 y9.2.1 y9.2.2.1 y9.2.2.2.1 y9.2.2.2.2.1 y9.2.2.2.2.2.1 y9.2.2.2.2.2.2.1 y9.2.2.2.2.2.2.2.1 y9.2.2.2.2.2.2.2.2.1 y9.2.2.2.2.2.2.2.2.2.1 y9.2.2.2.2.2.2.2.2.2.2.1 y9.2.2.2.2.2.2.2.2.2.2.2.1 y9.2.2.2.2.2.2.2.2.2.2.2.2.1 y9.2.2.2.2.2.2.2.2.2.2.2.2.2.1 y9.2.2.2.2.2.2.2.2.2.2.2.2.2.2.1 y5.1 y5.2.1 y5.2.2.1 y5.2.2.2.1 y5.2.2.2.2.1 y5.2.2.2.2.2.1 y5.2.2.2.2.2.2.1 y5.2.2.2.2.2.2.2.1 y5.2.2.2.2.2.2.2.2.1 y5.2.2.2.2.2.2.2.2.2.1 y5.2.2.2.2.2.2.2.2.2.2.1 y5.2.2.2.2.2.2.2.2.2.2.2.1 y5.2.2.2.2.2.2.2.2.2.2.2.2.1 y5.2.2.2.2.2.2.2.2.2.2.2.2.2.1 y5.2.2.2.2.2.2.2.2.2.2.2.2.2.2.1).bind fun y17=>(bif (Bool.not y17.1) then some (false,()) else (bif (Bool.not (rBeq y9.2.2.2.2.2.2.2.2.2.2.2.2.2.2.2.1 y5.2.2.2.2.2.2.2.2.2.2.2.2.2.2.2.1)) then some (false,()) else ((laws_markNetwork y9.1 y9.2.1 y9.2.2.1 y9.2.2.2.1 y9.2.2.2.2.1 y9.2.2.2.2.2.1 y9.2.2.2.2.2.2.1 y9.2.2.2.2.2.2.2.1 y9.2.2.2.2.2.2.2.2.1 y9.2.2.2.2.2.2.2.2.2.1 y9.2.2.2.2.2.2.2.2.2.2.1 y9.2.2.2.2.2.2.2.2.2.2.2.1 y9.2.2.2.2.2.2.2.2.2.2.2.2.1 y9.2.2.2.2.2.2.2.2.2.2.2.2.2.1 y9.2.2.2.2.2.2.2.2.2.2.2.2.2.2.1 (1:Int)).bind fun y18=>((laws_heldNetwork y9.1 y9.2.1 y9.2.2.1 y9.2.2.2.1 y9.2.2.2.2.1 y9.2.2.2.2.2.1 y9.2.2.2.2.2.2.1 y9.2.2.2.2.2.2.2.1 y9.2.2.2.2.2.2.2.2.1 y9.2.2.2.2.2.2.2.2.2.1 y9.2.2.2.2.2.2.2.2.2.2.1 y18.2.1 y18.2.2.1 y18.2.2.2.1 y18.2.2.2.2.1 (1:Int)).bind fun y19=>(bif (rCmp .lss y19.1 (0:Int)) then some (false,()) else (bif (rCmp .neq y19.1 y18.1) then some (false,()) else ((laws_toTerms a0 a1 a2 a3 a4 a5 a6 a7).bind fun y20=>((laws_toWeekS a10).bind fun y21=>((laws_toColumnSS a11).bind fun y22=>((impl_NewNetwork y20.1 y20.2.1 y20.2.2.1 y20.2.2.2.1 y20.2.2.2.2.1 y20.2.2.2.2.2.1 y20.2.2.2.2.2.2.1 y20.2.2.2.2.2.2.2.1 a8 a9 y21.1 y22.1).bind fun y23=>((laws_eqNetwork y23.1 y23.2.1 y23.2.2.1 y23.2.2.2.1 y23.2.2.2.2.1 y23.2.2.2.2.2.1 y23.2.2.2.2.2.2.1 y23.2.2.2.2.2.2.2.1 y23.2.2.2.2.2.2.2.2.1 y23.2.2.2.2.2.2.2.2.2.1 y23.2.2.2.2.2.2.2.2.2.2.1 y23.2.2.2.2.2.2.2.2.2.2.2.1 y23.2.2.2.2.2.2.2.2.2.2.2.2.1 y23.2.2.2.2.2.2.2.2.2.2.2.2.2.1 y23.2.2.2.2.2.2.2.2.2.2.2.2.2.2.1 y5.1 y5.2.1 y5.2.2.1 y5.2.2.2.1 y5.2.2.2.2.1 y5.2.2.2.2.2.1 y5.2.2.2.2.2.2.1 y5.2.2.2.2.2.2.2.1 y5.2.2.2.2.2.2.2.2.1 y5.2.2.2.2.2.2.2.2.2.1 y5.2.2.2.2.2.2.2.2.2.2.1 y5.2.2.2.2.2.2.2.2.2.2.2.1 y5.2.2.2.2.2.2.2.2.2.2.2.2.1 y5.2.2.2.2.2.2.2.2.2.2.2.2.2.1 y5.2.2.2.2.2.2.2.2.2.2.2.2.2.2.1).bind fun y24=>(bif (Bool.not y24.1) then some (false,()) else (bif (Bool.not (rBeq y23.2.2.2.2.2.2.2.2.2.2.2.2.2.2.2.1 y5.2.2.2.2.2.2.2.2.2.2.2.2.2.2.2.1)) then some (false,()) else ((laws_heldNetwork y9.1 y9.2.1 y9.2.2.1 y9.2.2.2.1 y9.2.2.2.2.1 y9.2.2.2.2.2.1 y9.2.2.2.2.2.2.1 y9.2.2.2.2.2.2.2.1 y9.2.2.2.2.2.2.2.2.1 y9.2.2.2.2.2.2.2.2.2.1 y9.2.2.2.2.2.2.2.2.2.2.1 y18.2.1 y18.2.2.1 y18.2.2.2.1 y18.2.2.2.2.1 (1:Int)).bind fun y25=>(bif (rCmp .lss y25.1 (0:Int)) then some (false,()) else (bif (rCmp .neq y25.1 y18.1) then some (false,()) else some (true,()))))))))))))))))))))))))))))))))))))))))))
end Go.Fn
set_option linter.unusedVariables false
set_option linter.unusedSimpArgs false
namespace Go.Fn
open Go.R
theorem z3F:rIsZero (3:Int)=false:=by decide
noncomputable def k3 (k:Int):Bool:=rCmp .eql (rArith .rem .i64 k 3) 0
theorem addS {a b:Int} (h0:0≤a) (h1:a≤4611686018427387904) (h:b=a+1):rArith .add .i64 a 1=b:=(add1 h0 h1).trans h.symm
theorem cT {β:Type} {b:Bool} {x y:β} (h:b=true):(bif b then x else y)=x:=by rw [h];rfl
theorem cF {β:Type} {b:Bool} {x y:β} (h:b=false):(bif b then x else y)=y:=by rw [h];rfl
theorem letsE {α β:Type} {a b:α} {f:α→β} (h:a=b):lets a f=f b:=by rw [lets_def,h]
theorem bindE {α β:Type} {x:Option α} {r:α} {f:α→Option β} (h:x=some r):x.bind f=f r:=by rw [h];rfl
theorem loX {α:Type} {L:List α} {n:Nat} (h:n < L.length):rCmp .lss (n:Int) (rLen L)=true:=by rw [lss_len];exact decide_eq_true h
theorem inX {α:Type} {L:List α} {n:Nat} (h:n < L.length):rInR L (n:Int)=true:=by rw [inR_nat];exact decide_eq_true h
theorem inS {α:Type} {L:List α} {n:Nat} {a:α} (h:n < L.length):rInR (L.set n a) (n:Int)=true:=by rw [inR_set];exact decide_eq_true h
noncomputable def mkSp (k:Int) (x:Spn):Spn×Int:=((k,k+1),k+2)
theorem mkSp_bd (k:Int) (x:Spn):k≤(mkSp k x).2∧(mkSp k x).2≤k+(2:Nat):=⟨by show k≤k+2;omega,by show k+2≤k+2;omega⟩
theorem markSpanS_eq (l:List Spn) (k:Int) (hl:l.length≤1073741824) (h0:0≤k) (h1:k+2*(l.length:Int)≤1125899906842624):laws_markSpanS l k=some ((goM mkSp l k).2,(goM mkSp l k).1,()):=by
 unfold laws_markSpanS
 have:laws_markSpanS_l0 () (l,k,0,())=some (.inl ((goM mkSp l k).1,(goM mkSp l k).2,())):=by
  refine mark_gen (cost:=fun _=>2) zII l k hl h0 mkSp_bd (fun L q n hx hL hg hk0 hk1=>?_) (fun L k'=>?_)
  ·rw [costs_const] at hk1
   unfold mkSp
   have a1:rArith .add .i64 (q) 1=q+1:=addS (by omega) (by omega) (by omega)
   have a2:rArith .add .i64 (q+1) 1=q+2:=addS (by omega) (by omega) (by omega)
   unfold laws_markSpanS_b0
   simp only [lss_len,inR_nat,hx,decide_true,cond_true,succ64 (n:=n) (by omega),put_nat,get_nat,a1,a2]
   repeat (first | rw [lets_def] | simp only [inR_set,List.length_set,hx,decide_true,cond_true,put_nat,get_nat,getD_set_self hx,List.set_set,a2])
  ·unfold laws_markSpanS_b0
   simp only [lss_len,Nat.lt_irrefl,decide_false,cond_false]
 rw [this]
 rfl
theorem heldSpanS_eq (l:List Spn) (k:Int) (hl:l.length≤1073741824) (h0:0≤k) (h1:k+2*(l.length:Int)≤1125899906842624):laws_heldSpanS (goM mkSp l k).1 k=some ((goM mkSp l k).2,()):=by
 unfold laws_heldSpanS
 have:laws_heldSpanS_l0 ((goM mkSp l k).1,()) (k,0,())=some (.inr (.inl ((goM mkSp l k).2,()))):=by
  refine held_gen (cost:=fun _=>2) zII l k hl h0 mkSp_bd (fun q n hn hk0 hk1 hg=>?_) (fun k'=>?_)
  ·rw [costs_const] at hk1
   have a1:rArith .add .i64 (q) 1=q+1:=addS (by omega) (by omega) (by omega)
   have a2:rArith .add .i64 (q+1) 1=q+2:=addS (by omega) (by omega) (by omega)
   have hx:n < (goM mkSp l k).1.length:=by rw [goM_len];exact hn
   unfold laws_heldSpanS_b0
   simp only [lss_len,inR_nat,hx,decide_true,cond_true,succ64 (n:=n) (by omega),get_nat,hg,mkSp,a1,a2,neq_self,cond_false,z3F,rBeq_self,Bool.not_true,lets_def]
  ·unfold laws_heldSpanS_b0
   have:=goM_len mkSp l k
   simp only [←this,lss_len,Nat.lt_irrefl,decide_false,cond_false]
 rw [this]
 rfl
noncomputable def mkBx (k:Int) (x:Bx):Bx×Int:=((k,k+1,k+2,k3 (k+3)),k+4)
theorem mkBx_bd (k:Int) (x:Bx):k≤(mkBx k x).2∧(mkBx k x).2≤k+(4:Nat):=⟨by show k≤k+4;omega,by show k+4≤k+4;omega⟩
theorem markBoxS_eq (l:List Bx) (k:Int) (hl:l.length≤1073741824) (h0:0≤k) (h1:k+4*(l.length:Int)≤1125899906842624):laws_markBoxS l k=some ((goM mkBx l k).2,(goM mkBx l k).1,()):=by
 unfold laws_markBoxS
 have:laws_markBoxS_l0 () (l,k,0,())=some (.inl ((goM mkBx l k).1,(goM mkBx l k).2,())):=by
  refine mark_gen (cost:=fun _=>4) zIIIB l k hl h0 mkBx_bd (fun L q n hx hL hg hk0 hk1=>?_) (fun L k'=>?_)
  ·rw [costs_const] at hk1
   unfold mkBx k3
   have a1:rArith .add .i64 (q) 1=q+1:=addS (by omega) (by omega) (by omega)
   have a2:rArith .add .i64 (q+1) 1=q+2:=addS (by omega) (by omega) (by omega)
   have a3:rArith .add .i64 (q+2) 1=q+3:=addS (by omega) (by omega) (by omega)
   have a4:rArith .add .i64 (q+3) 1=q+4:=addS (by omega) (by omega) (by omega)
   unfold laws_markBoxS_b0
   simp only [lss_len,inR_nat,hx,decide_true,cond_true,succ64 (n:=n) (by omega),put_nat,get_nat,a1,a2,a3,a4,z3F,cond_false]
   repeat (first | rw [lets_def] | simp only [inR_set,List.length_set,hx,decide_true,cond_true,put_nat,get_nat,getD_set_self hx,List.set_set,a4,z3F,cond_false])
  ·unfold laws_markBoxS_b0
   simp only [lss_len,Nat.lt_irrefl,decide_false,cond_false]
 rw [this]
 rfl
theorem heldBoxS_eq (l:List Bx) (k:Int) (hl:l.length≤1073741824) (h0:0≤k) (h1:k+4*(l.length:Int)≤1125899906842624):laws_heldBoxS (goM mkBx l k).1 k=some ((goM mkBx l k).2,()):=by
 unfold laws_heldBoxS
 have:laws_heldBoxS_l0 ((goM mkBx l k).1,()) (k,0,())=some (.inr (.inl ((goM mkBx l k).2,()))):=by
  refine held_gen (cost:=fun _=>4) zIIIB l k hl h0 mkBx_bd (fun q n hn hk0 hk1 hg=>?_) (fun k'=>?_)
  ·rw [costs_const] at hk1
   have a1:rArith .add .i64 (q) 1=q+1:=addS (by omega) (by omega) (by omega)
   have a2:rArith .add .i64 (q+1) 1=q+2:=addS (by omega) (by omega) (by omega)
   have a3:rArith .add .i64 (q+2) 1=q+3:=addS (by omega) (by omega) (by omega)
   have a4:rArith .add .i64 (q+3) 1=q+4:=addS (by omega) (by omega) (by omega)
   have hx:n < (goM mkBx l k).1.length:=by rw [goM_len];exact hn
   unfold laws_heldBoxS_b0
   simp only [lss_len,inR_nat,hx,decide_true,cond_true,succ64 (n:=n) (by omega),get_nat,hg,mkBx,k3,a1,a2,a3,a4,neq_self,cond_false,z3F,rBeq_self,Bool.not_true,lets_def]
  ·unfold laws_heldBoxS_b0
   have:=goM_len mkBx l k
   simp only [←this,lss_len,Nat.lt_irrefl,decide_false,cond_false]
 rw [this]
 rfl
noncomputable def mkPrc (k:Int) (x:Prc):Prc×Int:=((k,k+1,k+2,k+3,k+4,k+5,k+6,k+7,k+8,k+9,k+10,k+11,k+12),k+13)
theorem mkPrc_bd (k:Int) (x:Prc):k≤(mkPrc k x).2∧(mkPrc k x).2≤k+(13:Nat):=⟨by show k≤k+13;omega,by show k+13≤k+13;omega⟩
theorem markParcelS_eq (l:List Prc) (k:Int) (hl:l.length≤1073741824) (h0:0≤k) (h1:k+13*(l.length:Int)≤1125899906842624):laws_markParcelS l k=some ((goM mkPrc l k).2,(goM mkPrc l k).1,()):=by
 unfold laws_markParcelS
 have:laws_markParcelS_l0 () (l,k,0,())=some (.inl ((goM mkPrc l k).1,(goM mkPrc l k).2,())):=by
  refine mark_gen (cost:=fun _=>13) zIIIIIIIIIIIII l k hl h0 mkPrc_bd (fun L q n hx hL hg hk0 hk1=>?_) (fun L k'=>?_)
  ·rw [costs_const] at hk1
   unfold mkPrc
   have a1:rArith .add .i64 (q) 1=q+1:=addS (by omega) (by omega) (by omega)
   have a2:rArith .add .i64 (q+1) 1=q+2:=addS (by omega) (by omega) (by omega)
   have a3:rArith .add .i64 (q+2) 1=q+3:=addS (by omega) (by omega) (by omega)
   have a4:rArith .add .i64 (q+3) 1=q+4:=addS (by omega) (by omega) (by omega)
   have a5:rArith .add .i64 (q+4) 1=q+5:=addS (by omega) (by omega) (by omega)
   have a6:rArith .add .i64 (q+5) 1=q+6:=addS (by omega) (by omega) (by omega)
   have a7:rArith .add .i64 (q+6) 1=q+7:=addS (by omega) (by omega) (by omega)
   have a8:rArith .add .i64 (q+7) 1=q+8:=addS (by omega) (by omega) (by omega)
   have a9:rArith .add .i64 (q+8) 1=q+9:=addS (by omega) (by omega) (by omega)
   have a10:rArith .add .i64 (q+9) 1=q+10:=addS (by omega) (by omega) (by omega)
   have a11:rArith .add .i64 (q+10) 1=q+11:=addS (by omega) (by omega) (by omega)
   have a12:rArith .add .i64 (q+11) 1=q+12:=addS (by omega) (by omega) (by omega)
   have a13:rArith .add .i64 (q+12) 1=q+13:=addS (by omega) (by omega) (by omega)
   unfold laws_markParcelS_b0
   dsimp only
   refine (cT (loX hx)).trans ?_
   refine (cT (inX hx)).trans ?_
   refine (letsE (b:=L.set n (q,(L.getD n zIIIIIIIIIIIII).2.1,(L.getD n zIIIIIIIIIIIII).2.2.1,(L.getD n zIIIIIIIIIIIII).2.2.2.1,(L.getD n zIIIIIIIIIIIII).2.2.2.2.1,(L.getD n zIIIIIIIIIIIII).2.2.2.2.2.1,(L.getD n zIIIIIIIIIIIII).2.2.2.2.2.2.1,(L.getD n zIIIIIIIIIIIII).2.2.2.2.2.2.2.1,(L.getD n zIIIIIIIIIIIII).2.2.2.2.2.2.2.2.1,(L.getD n zIIIIIIIIIIIII).2.2.2.2.2.2.2.2.2.1,(L.getD n zIIIIIIIIIIIII).2.2.2.2.2.2.2.2.2.2.1,(L.getD n zIIIIIIIIIIIII).2.2.2.2.2.2.2.2.2.2.2.1,(L.getD n zIIIIIIIIIIIII).2.2.2.2.2.2.2.2.2.2.2.2)) (by simp only [get_nat,put_nat,getD_set_self hx,List.set_set,a1,a2,a3,a4,a5,a6,a7,a8,a9,a10,a11,a12,a13])).trans ?_
   refine (cT (inS hx)).trans ?_
   refine (letsE (b:=L.set n (q,q+1,(L.getD n zIIIIIIIIIIIII).2.2.1,(L.getD n zIIIIIIIIIIIII).2.2.2.1,(L.getD n zIIIIIIIIIIIII).2.2.2.2.1,(L.getD n zIIIIIIIIIIIII).2.2.2.2.2.1,(L.getD n zIIIIIIIIIIIII).2.2.2.2.2.2.1,(L.getD n zIIIIIIIIIIIII).2.2.2.2.2.2.2.1,(L.getD n zIIIIIIIIIIIII).2.2.2.2.2.2.2.2.1,(L.getD n zIIIIIIIIIIIII).2.2.2.2.2.2.2.2.2.1,(L.getD n zIIIIIIIIIIIII).2.2.2.2.2.2.2.2.2.2.1,(L.getD n zIIIIIIIIIIIII).2.2.2.2.2.2.2.2.2.2.2.1,(L.getD n zIIIIIIIIIIIII).2.2.2.2.2.2.2.2.2.2.2.2)) (by simp only [get_nat,put_nat,getD_set_self hx,List.set_set,a1,a2,a3,a4,a5,a6,a7,a8,a9,a10,a11,a12,a13])).trans ?_
   refine (cT (inS hx)).trans ?_
   refine (letsE (b:=L.set n (q,q+1,q+2,(L.getD n zIIIIIIIIIIIII).2.2.2.1,(L.getD n zIIIIIIIIIIIII).2.2.2.2.1,(L.getD n zIIIIIIIIIIIII).2.2.2.2.2.1,(L.getD n zIIIIIIIIIIIII).2.2.2.2.2.2.1,(L.getD n zIIIIIIIIIIIII).2.2.2.2.2.2.2.1,(L.getD n zIIIIIIIIIIIII).2.2.2.2.2.2.2.2.1,(L.getD n zIIIIIIIIIIIII).2.2.2.2.2.2.2.2.2.1,(L.getD n zIIIIIIIIIIIII).2.2.2.2.2.2.2.2.2.2.1,(L.getD n zIIIIIIIIIIIII).2.2.2.2.2.2.2.2.2.2.2.1,(L.getD n zIIIIIIIIIIIII).2.2.2.2.2.2.2.2.2.2.2.2)) (by simp only [get_nat,put_nat,getD_set_self hx,List.set_set,a1,a2,a3,a4,a5,a6,a7,a8,a9,a10,a11,a12,a13])).trans ?_
   refine (cT (inS hx)).trans ?_
   refine (letsE (b:=L.set n (q,q+1,q+2,q+3,(L.getD n zIIIIIIIIIIIII).2.2.2.2.1,(L.getD n zIIIIIIIIIIIII).2.2.2.2.2.1,(L.getD n zIIIIIIIIIIIII).2.2.2.2.2.2.1,(L.getD n zIIIIIIIIIIIII).2.2.2.2.2.2.2.1,(L.getD n zIIIIIIIIIIIII).2.2.2.2.2.2.2.2.1,(L.getD n zIIIIIIIIIIIII).2.2.2.2.2.2.2.2.2.1,(L.getD n zIIIIIIIIIIIII).2.2.2.2.2.2.2.2.2.2.1,(L.getD n zIIIIIIIIIIIII).2.2.2.2.2.2.2.2.2.2.2.1,(L.getD n zIIIIIIIIIIIII).2.2.2.2.2.2.2.2.2.2.2.2)) (by simp only [get_nat,put_nat,getD_set_self hx,List.set_set,a1,a2,a3,a4,a5,a6,a7,a8,a9,a10,a11,a12,a13])).trans ?_
   refine (cT (inS hx)).trans ?_
   refine (letsE (b:=L.set n (q,q+1,q+2,q+3,q+4,(L.getD n zIIIIIIIIIIIII).2.2.2.2.2.1,(L.getD n zIIIIIIIIIIIII).2.2.2.2.2.2.1,(L.getD n zIIIIIIIIIIIII).2.2.2.2.2.2.2.1,(L.getD n zIIIIIIIIIIIII).2.2.2.2.2.2.2.2.1,(L.getD n zIIIIIIIIIIIII).2.2.2.2.2.2.2.2.2.1,(L.getD n zIIIIIIIIIIIII).2.2.2.2.2.2.2.2.2.2.1,(L.getD n zIIIIIIIIIIIII).2.2.2.2.2.2.2.2.2.2.2.1,(L.getD n zIIIIIIIIIIIII).2.2.2.2.2.2.2.2.2.2.2.2)) (by simp only [get_nat,put_nat,getD_set_self hx,List.set_set,a1,a2,a3,a4,a5,a6,a7,a8,a9,a10,a11,a12,a13])).trans ?_
   refine (cT (inS hx)).trans ?_
   refine (letsE (b:=L.set n (q,q+1,q+2,q+3,q+4,q+5,(L.getD n zIIIIIIIIIIIII).2.2.2.2.2.2.1,(L.getD n zIIIIIIIIIIIII).2.2.2.2.2.2.2.1,(L.getD n zIIIIIIIIIIIII).2.2.2.2.2.2.2.2.1,(L.getD n zIIIIIIIIIIIII).2.2.2.2.2.2.2.2.2.1,(L.getD n zIIIIIIIIIIIII).2.2.2.2.2.2.2.2.2.2.1,(L.getD n zIIIIIIIIIIIII).2.2.2.2.2.2.2.2.2.2.2.1,(L.getD n zIIIIIIIIIIIII).2.2.2.2.2.2.2.2.2.2.2.2)) (by simp only [get_nat,put_nat,getD_set_self hx,List.set_set,a1,a2,a3,a4,a5,a6,a7,a8,a9,a10,a11,a12,a13])).trans ?_
   refine (letsE (b:=q+6) (by simp only [a1,a2,a3,a4,a5,a6,a7,a8,a9,a10,a11,a12,a13])).trans ?_
   refine (cT (inS hx)).trans ?_
   refine (letsE (b:=L.set n (q,q+1,q+2,q+3,q+4,q+5,q+6,(L.getD n zIIIIIIIIIIIII).2.2.2.2.2.2.2.1,(L.getD n zIIIIIIIIIIIII).2.2.2.2.2.2.2.2.1,(L.getD n zIIIIIIIIIIIII).2.2.2.2.2.2.2.2.2.1,(L.getD n zIIIIIIIIIIIII).2.2.2.2.2.2.2.2.2.2.1,(L.getD n zIIIIIIIIIIIII).2.2.2.2.2.2.2.2.2.2.2.1,(L.getD n zIIIIIIIIIIIII).2.2.2.2.2.2.2.2.2.2.2.2)) (by simp only [get_nat,put_nat,getD_set_self hx,List.set_set,a1,a2,a3,a4,a5,a6,a7,a8,a9,a10,a11,a12,a13])).trans ?_
   refine (cT (inS hx)).trans ?_
   refine (letsE (b:=L.set n (q,q+1,q+2,q+3,q+4,q+5,q+6,q+7,(L.getD n zIIIIIIIIIIIII).2.2.2.2.2.2.2.2.1,(L.getD n zIIIIIIIIIIIII).2.2.2.2.2.2.2.2.2.1,(L.getD n zIIIIIIIIIIIII).2.2.2.2.2.2.2.2.2.2.1,(L.getD n zIIIIIIIIIIIII).2.2.2.2.2.2.2.2.2.2.2.1,(L.getD n zIIIIIIIIIIIII).2.2.2.2.2.2.2.2.2.2.2.2)) (by simp only [get_nat,put_nat,getD_set_self hx,List.set_set,a1,a2,a3,a4,a5,a6,a7,a8,a9,a10,a11,a12,a13])).trans ?_
   refine (cT (inS hx)).trans ?_
   refine (letsE (b:=L.set n (q,q+1,q+2,q+3,q+4,q+5,q+6,q+7,q+8,(L.getD n zIIIIIIIIIIIII).2.2.2.2.2.2.2.2.2.1,(L.getD n zIIIIIIIIIIIII).2.2.2.2.2.2.2.2.2.2.1,(L.getD n zIIIIIIIIIIIII).2.2.2.2.2.2.2.2.2.2.2.1,(L.getD n zIIIIIIIIIIIII).2.2.2.2.2.2.2.2.2.2.2.2)) (by simp only [get_nat,put_nat,getD_set_self hx,List.set_set,a1,a2,a3,a4,a5,a6,a7,a8,a9,a10,a11,a12,a13])).trans ?_
   refine (cT (inS hx)).trans ?_
   refine (letsE (b:=L.set n (q,q+1,q+2,q+3,q+4,q+5,q+6,q+7,q+8,q+9,(L.getD n zIIIIIIIIIIIII).2.2.2.2.2.2.2.2.2.2.1,(L.getD n zIIIIIIIIIIIII).2.2.2.2.2.2.2.2.2.2.2.1,(L.getD n zIIIIIIIIIIIII).2.2.2.2.2.2.2.2.2.2.2.2)) (by simp only [get_nat,put_nat,getD_set_self hx,List.set_set,a1,a2,a3,a4,a5,a6,a7,a8,a9,a10,a11,a12,a13])).trans ?_
   refine (cT (inS hx)).trans ?_
   refine (letsE (b:=L.set n (q,q+1,q+2,q+3,q+4,q+5,q+6,q+7,q+8,q+9,q+10,(L.getD n zIIIIIIIIIIIII).2.2.2.2.2.2.2.2.2.2.2.1,(L.getD n zIIIIIIIIIIIII).2.2.2.2.2.2.2.2.2.2.2.2)) (by simp only [get_nat,put_nat,getD_set_self hx,List.set_set,a1,a2,a3,a4,a5,a6,a7,a8,a9,a10,a11,a12,a13])).trans ?_
   refine (cT (inS hx)).trans ?_
   refine (letsE (b:=L.set n (q,q+1,q+2,q+3,q+4,q+5,q+6,q+7,q+8,q+9,q+10,q+11,(L.getD n zIIIIIIIIIIIII).2.2.2.2.2.2.2.2.2.2.2.2)) (by simp only [get_nat,put_nat,getD_set_self hx,List.set_set,a1,a2,a3,a4,a5,a6,a7,a8,a9,a10,a11,a12,a13])).trans ?_
   refine (letsE (b:=q+12) (by simp only [a1,a2,a3,a4,a5,a6,a7,a8,a9,a10,a11,a12,a13])).trans ?_
   refine (cT (inS hx)).trans ?_
   refine (letsE (b:=L.set n (q,q+1,q+2,q+3,q+4,q+5,q+6,q+7,q+8,q+9,q+10,q+11,q+12)) (by simp only [get_nat,put_nat,getD_set_self hx,List.set_set,a1,a2,a3,a4,a5,a6,a7,a8,a9,a10,a11,a12,a13])).trans ?_
   simp only [a13,succ64 (n:=n) (by omega)]
  ·unfold laws_markParcelS_b0
   simp only [lss_len,Nat.lt_irrefl,decide_false,cond_false]
 rw [this]
 rfl
theorem heldParcelS_eq (l:List Prc) (k:Int) (hl:l.length≤1073741824) (h0:0≤k) (h1:k+13*(l.length:Int)≤1125899906842624):laws_heldParcelS (goM mkPrc l k).1 k=some ((goM mkPrc l k).2,()):=by
 unfold laws_heldParcelS
 have:laws_heldParcelS_l0 ((goM mkPrc l k).1,()) (k,0,())=some (.inr (.inl ((goM mkPrc l k).2,()))):=by
  refine held_gen (cost:=fun _=>13) zIIIIIIIIIIIII l k hl h0 mkPrc_bd (fun q n hn hk0 hk1 hg=>?_) (fun k'=>?_)
  ·rw [costs_const] at hk1
   have a1:rArith .add .i64 (q) 1=q+1:=addS (by omega) (by omega) (by omega)
   have a2:rArith .add .i64 (q+1) 1=q+2:=addS (by omega) (by omega) (by omega)
   have a3:rArith .add .i64 (q+2) 1=q+3:=addS (by omega) (by omega) (by omega)
   have a4:rArith .add .i64 (q+3) 1=q+4:=addS (by omega) (by omega) (by omega)
   have a5:rArith .add .i64 (q+4) 1=q+5:=addS (by omega) (by omega) (by omega)
   have a6:rArith .add .i64 (q+5) 1=q+6:=addS (by omega) (by omega) (by omega)
   have a7:rArith .add .i64 (q+6) 1=q+7:=addS (by omega) (by omega) (by omega)
   have a8:rArith .add .i64 (q+7) 1=q+8:=addS (by omega) (by omega) (by omega)
   have a9:rArith .add .i64 (q+8) 1=q+9:=addS (by omega) (by omega) (by omega)
   have a10:rArith .add .i64 (q+9) 1=q+10:=addS (by omega) (by omega) (by omega)
   have a11:rArith .add .i64 (q+10) 1=q+11:=addS (by omega) (by omega) (by omega)
   have a12:rArith .add .i64 (q+11) 1=q+12:=addS (by omega) (by omega) (by omega)
   have a13:rArith .add .i64 (q+12) 1=q+13:=addS (by omega) (by omega) (by omega)
   have hx:n < (goM mkPrc l k).1.length:=by rw [goM_len];exact hn
   unfold laws_heldParcelS_b0
   simp only [lss_len,inR_nat,hx,decide_true,cond_true,succ64 (n:=n) (by omega),get_nat,hg,mkPrc,a1,a2,a3,a4,a5,a6,a7,a8,a9,a10,a11,a12,a13,neq_self,cond_false,z3F,rBeq_self,Bool.not_true,lets_def]
  ·unfold laws_heldParcelS_b0
   have:=goM_len mkPrc l k
   simp only [←this,lss_len,Nat.lt_irrefl,decide_false,cond_false]
 rw [this]
 rfl
noncomputable def mkGrt (k:Int) (x:Grt):Grt×Int:=((k,k+1,k+2,k+3,k+4,k+5,k3 (k+6)),k+7)
theorem mkGrt_bd (k:Int) (x:Grt):k≤(mkGrt k x).2∧(mkGrt k x).2≤k+(7:Nat):=⟨by show k≤k+7;omega,by show k+7≤k+7;omega⟩
theorem markGrantS_eq (l:List Grt) (k:Int) (hl:l.length≤1073741824) (h0:0≤k) (h1:k+7*(l.length:Int)≤1125899906842624):laws_markGrantS l k=some ((goM mkGrt l k).2,(goM mkGrt l k).1,()):=by
 unfold laws_markGrantS
 have:laws_markGrantS_l0 () (l,k,0,())=some (.inl ((goM mkGrt l k).1,(goM mkGrt l k).2,())):=by
  refine mark_gen (cost:=fun _=>7) zIIIIIIB l k hl h0 mkGrt_bd (fun L q n hx hL hg hk0 hk1=>?_) (fun L k'=>?_)
  ·rw [costs_const] at hk1
   unfold mkGrt k3
   have a1:rArith .add .i64 (q) 1=q+1:=addS (by omega) (by omega) (by omega)
   have a2:rArith .add .i64 (q+1) 1=q+2:=addS (by omega) (by omega) (by omega)
   have a3:rArith .add .i64 (q+2) 1=q+3:=addS (by omega) (by omega) (by omega)
   have a4:rArith .add .i64 (q+3) 1=q+4:=addS (by omega) (by omega) (by omega)
   have a5:rArith .add .i64 (q+4) 1=q+5:=addS (by omega) (by omega) (by omega)
   have a6:rArith .add .i64 (q+5) 1=q+6:=addS (by omega) (by omega) (by omega)
   have a7:rArith .add .i64 (q+6) 1=q+7:=addS (by omega) (by omega) (by omega)
   unfold laws_markGrantS_b0
   dsimp only
   refine (cT (loX hx)).trans ?_
   refine (cT (inX hx)).trans ?_
   refine (letsE (b:=L.set n (q,(L.getD n zIIIIIIB).2.1,(L.getD n zIIIIIIB).2.2.1,(L.getD n zIIIIIIB).2.2.2.1,(L.getD n zIIIIIIB).2.2.2.2.1,(L.getD n zIIIIIIB).2.2.2.2.2.1,(L.getD n zIIIIIIB).2.2.2.2.2.2)) (by simp only [get_nat,put_nat,getD_set_self hx,List.set_set,a1,a2,a3,a4,a5,a6,a7])).trans ?_
   refine (cT (inS hx)).trans ?_
   refine (letsE (b:=L.set n (q,q+1,(L.getD n zIIIIIIB).2.2.1,(L.getD n zIIIIIIB).2.2.2.1,(L.getD n zIIIIIIB).2.2.2.2.1,(L.getD n zIIIIIIB).2.2.2.2.2.1,(L.getD n zIIIIIIB).2.2.2.2.2.2)) (by simp only [get_nat,put_nat,getD_set_self hx,List.set_set,a1,a2,a3,a4,a5,a6,a7])).trans ?_
   refine (cT (inS hx)).trans ?_
   refine (letsE (b:=L.set n (q,q+1,q+2,(L.getD n zIIIIIIB).2.2.2.1,(L.getD n zIIIIIIB).2.2.2.2.1,(L.getD n zIIIIIIB).2.2.2.2.2.1,(L.getD n zIIIIIIB).2.2.2.2.2.2)) (by simp only [get_nat,put_nat,getD_set_self hx,List.set_set,a1,a2,a3,a4,a5,a6,a7])).trans ?_
   refine (cT (inS hx)).trans ?_
   refine (letsE (b:=L.set n (q,q+1,q+2,q+3,(L.getD n zIIIIIIB).2.2.2.2.1,(L.getD n zIIIIIIB).2.2.2.2.2.1,(L.getD n zIIIIIIB).2.2.2.2.2.2)) (by simp only [get_nat,put_nat,getD_set_self hx,List.set_set,a1,a2,a3,a4,a5,a6,a7])).trans ?_
   refine (cT (inS hx)).trans ?_
   refine (letsE (b:=L.set n (q,q+1,q+2,q+3,q+4,(L.getD n zIIIIIIB).2.2.2.2.2.1,(L.getD n zIIIIIIB).2.2.2.2.2.2)) (by simp only [get_nat,put_nat,getD_set_self hx,List.set_set,a1,a2,a3,a4,a5,a6,a7])).trans ?_
   refine (cT (inS hx)).trans ?_
   refine (letsE (b:=L.set n (q,q+1,q+2,q+3,q+4,q+5,(L.getD n zIIIIIIB).2.2.2.2.2.2)) (by simp only [get_nat,put_nat,getD_set_self hx,List.set_set,a1,a2,a3,a4,a5,a6,a7])).trans ?_
   refine (letsE (b:=q+6) (by simp only [a1,a2,a3,a4,a5,a6,a7])).trans ?_
   refine (cF z3F).trans ?_
   refine (cT (inS hx)).trans ?_
   refine (letsE (b:=L.set n (q,q+1,q+2,q+3,q+4,q+5,rCmp .eql (rArith .rem .i64 (q+6) 3) 0)) (by simp only [get_nat,put_nat,getD_set_self hx,List.set_set,a1,a2,a3,a4,a5,a6,a7])).trans ?_
   simp only [a7,succ64 (n:=n) (by omega)]
  ·unfold laws_markGrantS_b0
   simp only [lss_len,Nat.lt_irrefl,decide_false,cond_false]
 rw [this]
 rfl
theorem heldGrantS_eq (l:List Grt) (k:Int) (hl:l.length≤1073741824) (h0:0≤k) (h1:k+7*(l.length:Int)≤1125899906842624):laws_heldGrantS (goM mkGrt l k).1 k=some ((goM mkGrt l k).2,()):=by
 unfold laws_heldGrantS
 have:laws_heldGrantS_l0 ((goM mkGrt l k).1,()) (k,0,())=some (.inr (.inl ((goM mkGrt l k).2,()))):=by
  refine held_gen (cost:=fun _=>7) zIIIIIIB l k hl h0 mkGrt_bd (fun q n hn hk0 hk1 hg=>?_) (fun k'=>?_)
  ·rw [costs_const] at hk1
   have a1:rArith .add .i64 (q) 1=q+1:=addS (by omega) (by omega) (by omega)
   have a2:rArith .add .i64 (q+1) 1=q+2:=addS (by omega) (by omega) (by omega)
   have a3:rArith .add .i64 (q+2) 1=q+3:=addS (by omega) (by omega) (by omega)
   have a4:rArith .add .i64 (q+3) 1=q+4:=addS (by omega) (by omega) (by omega)
   have a5:rArith .add .i64 (q+4) 1=q+5:=addS (by omega) (by omega) (by omega)
   have a6:rArith .add .i64 (q+5) 1=q+6:=addS (by omega) (by omega) (by omega)
   have a7:rArith .add .i64 (q+6) 1=q+7:=addS (by omega) (by omega) (by omega)
   have hx:n < (goM mkGrt l k).1.length:=by rw [goM_len];exact hn
   unfold laws_heldGrantS_b0
   simp only [lss_len,inR_nat,hx,decide_true,cond_true,succ64 (n:=n) (by omega),get_nat,hg,mkGrt,k3,a1,a2,a3,a4,a5,a6,a7,neq_self,cond_false,z3F,rBeq_self,Bool.not_true,lets_def]
  ·unfold laws_heldGrantS_b0
   have:=goM_len mkGrt l k
   simp only [←this,lss_len,Nat.lt_irrefl,decide_false,cond_false]
 rw [this]
 rfl
end Go.Fn
set_option linter.unusedVariables false
set_option linter.unusedSimpArgs false
namespace Go.Fn
open Go.R
theorem costs_get {α:Type} (cost:α→Nat) (z:α):∀ {l:List α} {n:Nat},n < l.length→cost (l.getD n z)≤costs cost l
 | x::xs,0,_=>by simp only [List.getD_cons_zero,costs];omega
 | x::xs,n+1,h=>by
  have:=costs_get cost z (l:=xs) (n:=n) (by simpa using h)
  simp only [List.getD_cons_succ,costs];omega
theorem sp_bd (l:List Spn) (k:Int):k≤(goM mkSp l k).2∧(goM mkSp l k).2≤k+2*(l.length:Int):=by
 have:=goM_bd mkSp_bd l k
 rw [costs_const] at this
 omega
theorem bx_bd (l:List Bx) (k:Int):k≤(goM mkBx l k).2∧(goM mkBx l k).2≤k+4*(l.length:Int):=by
 have:=goM_bd mkBx_bd l k
 rw [costs_const] at this
 omega
noncomputable def colCost (c:Col):Nat:=1+c.2.1.length+4*c.2.2.length
noncomputable def mkCol (k:Int) (c:Col):Col×Int:=((k,marksI (k+1) c.2.1.length,(goM mkBx c.2.2 (k+1+(c.2.1.length:Int))).1),(goM mkBx c.2.2 (k+1+(c.2.1.length:Int))).2)
theorem mkCol_bd (k:Int) (c:Col):k≤(mkCol k c).2∧(mkCol k c).2≤k+(colCost c:Nat):=by
 have:=bx_bd c.2.2 (k+1+(c.2.1.length:Int))
 unfold mkCol colCost
 dsimp only
 omega
theorem markColumnS_eq (l:List Col) (k:Int) (hl:l.length≤1073741824) (hc:∀ n,n < l.length→colLe 1073741824 (l.getD n zCol)) (h0:0≤k) (h1:k+(costs colCost l:Nat)≤1099511627776):laws_markColumnS l k=some ((goM mkCol l k).2,(goM mkCol l k).1,()):=by
 unfold laws_markColumnS
 have:laws_markColumnS_l0 () (l,k,0,())=some (.inl ((goM mkCol l k).1,(goM mkCol l k).2,())):=by
  refine mark_gen (cost:=colCost) zCol l k hl h0 mkCol_bd (fun L q n hx hL hg hk0 hk1=>?_) (fun L k'=>?_)
  ·have hn:n < l.length:=by omega
   obtain ⟨c1,c2⟩:=hc n hn
   rw [←hg] at c1 c2 ⊢
   unfold mkCol
   have a1:rArith .add .i64 q 1=q+1:=add1 (by omega) (by omega)
   have m1:=markIntS_eq (L.getD n zCol).2.1 (q+1) c1 (by omega) (by omega)
   have m2:=markBoxS_eq (L.getD n zCol).2.2 (q+1+((L.getD n zCol).2.1.length:Int)) c2 (by omega) (by omega)
   unfold laws_markColumnS_b0
   dsimp only
   refine (cT (loX hx)).trans ?_
   refine (cT (inX hx)).trans ?_
   rw [put_nat,get_nat]
   refine (cT (inS hx)).trans ?_
   rw [a1,get_nat]
   refine (bindE (r:=_) (by rw [getD_set_self hx];exact m1)).trans ?_
   refine (letsE (b:=L.set n (q,marksI (q+1) (L.getD n zCol).2.1.length,(L.getD n zCol).2.2)) (by rw [getD_set_self hx,put_nat,List.set_set];rfl)).trans ?_
   refine (cT (inS hx)).trans ?_
   rw [get_nat]
   refine (bindE (r:=_) (by rw [getD_set_self hx];exact m2)).trans ?_
   rw [getD_set_self hx,put_nat,List.set_set,succ64 (n:=n) (by omega)]
  ·unfold laws_markColumnS_b0
   simp only [lss_len,Nat.lt_irrefl,decide_false,cond_false]
 rw [this]
 rfl
theorem heldColumnS_eq (l:List Col) (k:Int) (hl:l.length≤1073741824) (hc:∀ n,n < l.length→colLe 1073741824 (l.getD n zCol)) (h0:0≤k) (h1:k+(costs colCost l:Nat)≤1099511627776):laws_heldColumnS (goM mkCol l k).1 k=some ((goM mkCol l k).2,()):=by
 unfold laws_heldColumnS
 have:laws_heldColumnS_l0 ((goM mkCol l k).1,()) (k,0,())=some (.inr (.inl ((goM mkCol l k).2,()))):=by
  refine held_gen (cost:=colCost) zCol l k hl h0 mkCol_bd (fun q n hn hk0 hk1 hg=>?_) (fun k'=>?_)
  ·obtain ⟨c1,c2⟩:=hc n hn
   have hx:n < (goM mkCol l k).1.length:=by rw [goM_len];exact hn
   have a1:rArith .add .i64 q 1=q+1:=add1 (by omega) (by omega)
   have b1:=bx_bd (l.getD n zCol).2.2 (q+1+((l.getD n zCol).2.1.length:Int))
   have m1:=heldIntS_eq (l.getD n zCol).2.1.length (q+1) c1 (by omega) (by omega)
   have m2:=heldBoxS_eq (l.getD n zCol).2.2 (q+1+((l.getD n zCol).2.1.length:Int)) c2 (by omega) (by omega)
   have n1:rCmp .lss (q+1+((l.getD n zCol).2.1.length:Int)) 0=false:=neg_of (by omega)
   have n2:rCmp .lss (goM mkBx (l.getD n zCol).2.2 (q+1+((l.getD n zCol).2.1.length:Int))).2 0=false:=neg_of (by omega)
   have hg:(goM mkCol l k).1.getD n zILIlLIIIBl=(mkCol q (l.getD n zCol)).1:=hg
   unfold laws_heldColumnS_b0
   simp only [lss_len,inR_nat,hx,decide_true,cond_true,succ64 (n:=n) (by omega),get_nat,hg,mkCol,a1,neq_self,cond_false,m1,m2,n1,n2,Option.bind_some]
  ·unfold laws_heldColumnS_b0
   have:=goM_len mkCol l k
   simp only [←this,lss_len,Nat.lt_irrefl,decide_false,cond_false]
 rw [this]
 rfl
noncomputable def siteCost (x:Site):Nat:=2*x.1.length+2*x.2.1.length+costs colCost x.2.2.1+7+7*x.2.2.2.2.2.2.2.2.2.2.length
noncomputable def mkSite (q:Int) (x:Site):Site×Int:=(((goM mkSp x.1 q).1,(goM mkSp x.2.1 (goM mkSp x.1 q).2).1,(goM mkCol x.2.2.1 (goM mkSp x.2.1 (goM mkSp x.1 q).2).2).1,(goM mkCol x.2.2.1 (goM mkSp x.2.1 (goM mkSp x.1 q).2).2).2,(goM mkCol x.2.2.1 (goM mkSp x.2.1 (goM mkSp x.1 q).2).2).2+1,k3 ((goM mkCol x.2.2.1 (goM mkSp x.2.1 (goM mkSp x.1 q).2).2).2+2),k3 ((goM mkCol x.2.2.1 (goM mkSp x.2.1 (goM mkSp x.1 q).2).2).2+3),k3 ((goM mkCol x.2.2.1 (goM mkSp x.2.1 (goM mkSp x.1 q).2).2).2+4),(goM mkCol x.2.2.1 (goM mkSp x.2.1 (goM mkSp x.1 q).2).2).2+5,(goM mkCol x.2.2.1 (goM mkSp x.2.1 (goM mkSp x.1 q).2).2).2+6,marksE ((goM mkCol x.2.2.1 (goM mkSp x.2.1 (goM mkSp x.1 q).2).2).2+7) x.2.2.2.2.2.2.2.2.2.2.length),(goM mkCol x.2.2.1 (goM mkSp x.2.1 (goM mkSp x.1 q).2).2).2+7+7*(x.2.2.2.2.2.2.2.2.2.2.length:Int))
theorem mkSite_bd (q:Int) (x:Site):q≤(mkSite q x).2∧(mkSite q x).2≤q+(siteCost x:Nat):=by
 have b1:=sp_bd x.1 q
 have b2:=sp_bd x.2.1 (goM mkSp x.1 q).2
 have b3:=goM_bd mkCol_bd x.2.2.1 (goM mkSp x.2.1 (goM mkSp x.1 q).2).2
 unfold mkSite siteCost
 dsimp only
 omega
theorem markSiteS_eq (l:List Site) (k:Int) (hl:l.length≤1073741824) (hc:∀ n,n < l.length→siteLe 1073741824 (l.getD n zSite)) (h0:0≤k) (h1:k+(costs siteCost l:Nat)≤274877906944):laws_markSiteS l k=some ((goM mkSite l k).2,(goM mkSite l k).1,()):=by
 unfold laws_markSiteS
 have:laws_markSiteS_l0 () (l,k,0,())=some (.inl ((goM mkSite l k).1,(goM mkSite l k).2,())):=by
  refine mark_gen (cost:=siteCost) zSite l k hl h0 mkSite_bd (fun L q n hx hL hg hk0 hk1=>?_) (fun L k'=>?_)
  ·have hn:n < l.length:=by omega
   obtain ⟨c1,c2,c3,c4,c5⟩:=hc n hn
   rw [←hg] at c1 c2 c3 c4 c5 ⊢
   have hcost:2*(l.getD n zSite).1.length+2*(l.getD n zSite).2.1.length+costs colCost (l.getD n zSite).2.2.1+7+7*(l.getD n zSite).2.2.2.2.2.2.2.2.2.2.length≤costs siteCost l:=costs_get siteCost zSite hn
   rw [←hg] at hcost
   have b1:=sp_bd (L.getD n zSite).1 q
   have b2:=sp_bd (L.getD n zSite).2.1 (goM mkSp (L.getD n zSite).1 q).2
   have b3:=goM_bd mkCol_bd (L.getD n zSite).2.2.1 (goM mkSp (L.getD n zSite).2.1 (goM mkSp (L.getD n zSite).1 q).2).2
   unfold mkSite k3
   have a1:rArith .add .i64 ((goM mkCol (L.getD n zSite).2.2.1 (goM mkSp (L.getD n zSite).2.1 (goM mkSp (L.getD n zSite).1 q).2).2).2) 1=(goM mkCol (L.getD n zSite).2.2.1 (goM mkSp (L.getD n zSite).2.1 (goM mkSp (L.getD n zSite).1 q).2).2).2+1:=addS (by omega) (by omega) (by omega)
   have a2:rArith .add .i64 ((goM mkCol (L.getD n zSite).2.2.1 (goM mkSp (L.getD n zSite).2.1 (goM mkSp (L.getD n zSite).1 q).2).2).2+1) 1=(goM mkCol (L.getD n zSite).2.2.1 (goM mkSp (L.getD n zSite).2.1 (goM mkSp (L.getD n zSite).1 q).2).2).2+2:=addS (by omega) (by omega) (by omega)
   have a3:rArith .add .i64 ((goM mkCol (L.getD n zSite).2.2.1 (goM mkSp (L.getD n zSite).2.1 (goM mkSp (L.getD n zSite).1 q).2).2).2+2) 1=(goM mkCol (L.getD n zSite).2.2.1 (goM mkSp (L.getD n zSite).2.1 (goM mkSp (L.getD n zSite).1 q).2).2).2+3:=addS (by omega) (by omega) (by omega)
   have a4:rArith .add .i64 ((goM mkCol (L.getD n zSite).2.2.1 (goM mkSp (L.getD n zSite).2.1 (goM mkSp (L.getD n zSite).1 q).2).2).2+3) 1=(goM mkCol (L.getD n zSite).2.2.1 (goM mkSp (L.getD n zSite).2.1 (goM mkSp (L.getD n zSite).1 q).2).2).2+4:=addS (by omega) (by omega) (by omega)
   have a5:rArith .add .i64 ((goM mkCol (L.getD n zSite).2.2.1 (goM mkSp (L.getD n zSite).2.1 (goM mkSp (L.getD n zSite).1 q).2).2).2+4) 1=(goM mkCol (L.getD n zSite).2.2.1 (goM mkSp (L.getD n zSite).2.1 (goM mkSp (L.getD n zSite).1 q).2).2).2+5:=addS (by omega) (by omega) (by omega)
   have a6:rArith .add .i64 ((goM mkCol (L.getD n zSite).2.2.1 (goM mkSp (L.getD n zSite).2.1 (goM mkSp (L.getD n zSite).1 q).2).2).2+5) 1=(goM mkCol (L.getD n zSite).2.2.1 (goM mkSp (L.getD n zSite).2.1 (goM mkSp (L.getD n zSite).1 q).2).2).2+6:=addS (by omega) (by omega) (by omega)
   have a7:rArith .add .i64 ((goM mkCol (L.getD n zSite).2.2.1 (goM mkSp (L.getD n zSite).2.1 (goM mkSp (L.getD n zSite).1 q).2).2).2+6) 1=(goM mkCol (L.getD n zSite).2.2.1 (goM mkSp (L.getD n zSite).2.1 (goM mkSp (L.getD n zSite).1 q).2).2).2+7:=addS (by omega) (by omega) (by omega)
   have m1:=markSpanS_eq (L.getD n zSite).1 q c1 (by omega) (by omega)
   have m2:=markSpanS_eq (L.getD n zSite).2.1 (goM mkSp (L.getD n zSite).1 q).2 c2 (by omega) (by omega)
   have m3:=markColumnS_eq (L.getD n zSite).2.2.1 (goM mkSp (L.getD n zSite).2.1 (goM mkSp (L.getD n zSite).1 q).2).2 c3 c4 (by omega) (by omega)
   have m4:=markEventS_eq (L.getD n zSite).2.2.2.2.2.2.2.2.2.2 ((goM mkCol (L.getD n zSite).2.2.1 (goM mkSp (L.getD n zSite).2.1 (goM mkSp (L.getD n zSite).1 q).2).2).2+7) c5 (by omega) (by omega)
   unfold laws_markSiteS_b0
   dsimp only
   rw [show zLIIlLIIlLILIlLIIIBllIIBBBIILIIIIIIIl=zSite from rfl]
   refine (cT (loX hx)).trans ?_
   refine (cT (inX hx)).trans ?_
   refine (bindE (r:=_) (by simp only [get_nat,getD_set_self hx,a1,a2,a3,a4,a5,a6,a7];exact m1)).trans ?_
   refine (letsE (b:=L.set n ((goM mkSp (L.getD n zSite).1 q).1,(L.getD n zSite).2.1,(L.getD n zSite).2.2.1,(L.getD n zSite).2.2.2.1,(L.getD n zSite).2.2.2.2.1,(L.getD n zSite).2.2.2.2.2.1,(L.getD n zSite).2.2.2.2.2.2.1,(L.getD n zSite).2.2.2.2.2.2.2.1,(L.getD n zSite).2.2.2.2.2.2.2.2.1,(L.getD n zSite).2.2.2.2.2.2.2.2.2.1,(L.getD n zSite).2.2.2.2.2.2.2.2.2.2)) (by simp only [get_nat,put_nat,getD_set_self hx,List.set_set])).trans ?_
   refine (cT (inS hx)).trans ?_
   refine (bindE (r:=_) (by simp only [get_nat,getD_set_self hx,a1,a2,a3,a4,a5,a6,a7];exact m2)).trans ?_
   refine (letsE (b:=L.set n ((goM mkSp (L.getD n zSite).1 q).1,(goM mkSp (L.getD n zSite).2.1 (goM mkSp (L.getD n zSite).1 q).2).1,(L.getD n zSite).2.2.1,(L.getD n zSite).2.2.2.1,(L.getD n zSite).2.2.2.2.1,(L.getD n zSite).2.2.2.2.2.1,(L.getD n zSite).2.2.2.2.2.2.1,(L.getD n zSite).2.2.2.2.2.2.2.1,(L.getD n zSite).2.2.2.2.2.2.2.2.1,(L.getD n zSite).2.2.2.2.2.2.2.2.2.1,(L.getD n zSite).2.2.2.2.2.2.2.2.2.2)) (by simp only [get_nat,put_nat,getD_set_self hx,List.set_set])).trans ?_
   refine (cT (inS hx)).trans ?_
   refine (bindE (r:=_) (by simp only [get_nat,getD_set_self hx,a1,a2,a3,a4,a5,a6,a7];exact m3)).trans ?_
   refine (letsE (b:=L.set n ((goM mkSp (L.getD n zSite).1 q).1,(goM mkSp (L.getD n zSite).2.1 (goM mkSp (L.getD n zSite).1 q).2).1,(goM mkCol (L.getD n zSite).2.2.1 (goM mkSp (L.getD n zSite).2.1 (goM mkSp (L.getD n zSite).1 q).2).2).1,(L.getD n zSite).2.2.2.1,(L.getD n zSite).2.2.2.2.1,(L.getD n zSite).2.2.2.2.2.1,(L.getD n zSite).2.2.2.2.2.2.1,(L.getD n zSite).2.2.2.2.2.2.2.1,(L.getD n zSite).2.2.2.2.2.2.2.2.1,(L.getD n zSite).2.2.2.2.2.2.2.2.2.1,(L.getD n zSite).2.2.2.2.2.2.2.2.2.2)) (by simp only [get_nat,put_nat,getD_set_self hx,List.set_set])).trans ?_
   refine (cT (inS hx)).trans ?_
   refine (letsE (b:=L.set n ((goM mkSp (L.getD n zSite).1 q).1,(goM mkSp (L.getD n zSite).2.1 (goM mkSp (L.getD n zSite).1 q).2).1,(goM mkCol (L.getD n zSite).2.2.1 (goM mkSp (L.getD n zSite).2.1 (goM mkSp (L.getD n zSite).1 q).2).2).1,(goM mkCol (L.getD n zSite).2.2.1 (goM mkSp (L.getD n zSite).2.1 (goM mkSp (L.getD n zSite).1 q).2).2).2,(L.getD n zSite).2.2.2.2.1,(L.getD n zSite).2.2.2.2.2.1,(L.getD n zSite).2.2.2.2.2.2.1,(L.getD n zSite).2.2.2.2.2.2.2.1,(L.getD n zSite).2.2.2.2.2.2.2.2.1,(L.getD n zSite).2.2.2.2.2.2.2.2.2.1,(L.getD n zSite).2.2.2.2.2.2.2.2.2.2)) (by simp only [get_nat,put_nat,getD_set_self hx,List.set_set,a1,a2,a3,a4,a5,a6,a7])).trans ?_
   refine (cT (inS hx)).trans ?_
   refine (letsE (b:=L.set n ((goM mkSp (L.getD n zSite).1 q).1,(goM mkSp (L.getD n zSite).2.1 (goM mkSp (L.getD n zSite).1 q).2).1,(goM mkCol (L.getD n zSite).2.2.1 (goM mkSp (L.getD n zSite).2.1 (goM mkSp (L.getD n zSite).1 q).2).2).1,(goM mkCol (L.getD n zSite).2.2.1 (goM mkSp (L.getD n zSite).2.1 (goM mkSp (L.getD n zSite).1 q).2).2).2,(goM mkCol (L.getD n zSite).2.2.1 (goM mkSp (L.getD n zSite).2.1 (goM mkSp (L.getD n zSite).1 q).2).2).2+1,(L.getD n zSite).2.2.2.2.2.1,(L.getD n zSite).2.2.2.2.2.2.1,(L.getD n zSite).2.2.2.2.2.2.2.1,(L.getD n zSite).2.2.2.2.2.2.2.2.1,(L.getD n zSite).2.2.2.2.2.2.2.2.2.1,(L.getD n zSite).2.2.2.2.2.2.2.2.2.2)) (by simp only [get_nat,put_nat,getD_set_self hx,List.set_set,a1,a2,a3,a4,a5,a6,a7])).trans ?_
   refine (cF z3F).trans ?_
   refine (cT (inS hx)).trans ?_
   refine (letsE (b:=L.set n ((goM mkSp (L.getD n zSite).1 q).1,(goM mkSp (L.getD n zSite).2.1 (goM mkSp (L.getD n zSite).1 q).2).1,(goM mkCol (L.getD n zSite).2.2.1 (goM mkSp (L.getD n zSite).2.1 (goM mkSp (L.getD n zSite).1 q).2).2).1,(goM mkCol (L.getD n zSite).2.2.1 (goM mkSp (L.getD n zSite).2.1 (goM mkSp (L.getD n zSite).1 q).2).2).2,(goM mkCol (L.getD n zSite).2.2.1 (goM mkSp (L.getD n zSite).2.1 (goM mkSp (L.getD n zSite).1 q).2).2).2+1,rCmp .eql (rArith .rem .i64 ((goM mkCol (L.getD n zSite).2.2.1 (goM mkSp (L.getD n zSite).2.1 (goM mkSp (L.getD n zSite).1 q).2).2).2+2) 3) 0,(L.getD n zSite).2.2.2.2.2.2.1,(L.getD n zSite).2.2.2.2.2.2.2.1,(L.getD n zSite).2.2.2.2.2.2.2.2.1,(L.getD n zSite).2.2.2.2.2.2.2.2.2.1,(L.getD n zSite).2.2.2.2.2.2.2.2.2.2)) (by simp only [get_nat,put_nat,getD_set_self hx,List.set_set,a1,a2,a3,a4,a5,a6,a7])).trans ?_
   refine (cF z3F).trans ?_
   refine (cT (inS hx)).trans ?_
   refine (letsE (b:=L.set n ((goM mkSp (L.getD n zSite).1 q).1,(goM mkSp (L.getD n zSite).2.1 (goM mkSp (L.getD n zSite).1 q).2).1,(goM mkCol (L.getD n zSite).2.2.1 (goM mkSp (L.getD n zSite).2.1 (goM mkSp (L.getD n zSite).1 q).2).2).1,(goM mkCol (L.getD n zSite).2.2.1 (goM mkSp (L.getD n zSite).2.1 (goM mkSp (L.getD n zSite).1 q).2).2).2,(goM mkCol (L.getD n zSite).2.2.1 (goM mkSp (L.getD n zSite).2.1 (goM mkSp (L.getD n zSite).1 q).2).2).2+1,rCmp .eql (rArith .rem .i64 ((goM mkCol (L.getD n zSite).2.2.1 (goM mkSp (L.getD n zSite).2.1 (goM mkSp (L.getD n zSite).1 q).2).2).2+2) 3) 0,rCmp .eql (rArith .rem .i64 ((goM mkCol (L.getD n zSite).2.2.1 (goM mkSp (L.getD n zSite).2.1 (goM mkSp (L.getD n zSite).1 q).2).2).2+3) 3) 0,(L.getD n zSite).2.2.2.2.2.2.2.1,(L.getD n zSite).2.2.2.2.2.2.2.2.1,(L.getD n zSite).2.2.2.2.2.2.2.2.2.1,(L.getD n zSite).2.2.2.2.2.2.2.2.2.2)) (by simp only [get_nat,put_nat,getD_set_self hx,List.set_set,a1,a2,a3,a4,a5,a6,a7])).trans ?_
   refine (cF z3F).trans ?_
   refine (letsE (b:=rCmp .eql (rArith .rem .i64 ((goM mkCol (L.getD n zSite).2.2.1 (goM mkSp (L.getD n zSite).2.1 (goM mkSp (L.getD n zSite).1 q).2).2).2+4) 3) 0) (by simp only [a1,a2,a3,a4])).trans ?_
   refine (cT (inS hx)).trans ?_
   refine (letsE (b:=L.set n ((goM mkSp (L.getD n zSite).1 q).1,(goM mkSp (L.getD n zSite).2.1 (goM mkSp (L.getD n zSite).1 q).2).1,(goM mkCol (L.getD n zSite).2.2.1 (goM mkSp (L.getD n zSite).2.1 (goM mkSp (L.getD n zSite).1 q).2).2).1,(goM mkCol (L.getD n zSite).2.2.1 (goM mkSp (L.getD n zSite).2.1 (goM mkSp (L.getD n zSite).1 q).2).2).2,(goM mkCol (L.getD n zSite).2.2.1 (goM mkSp (L.getD n zSite).2.1 (goM mkSp (L.getD n zSite).1 q).2).2).2+1,rCmp .eql (rArith .rem .i64 ((goM mkCol (L.getD n zSite).2.2.1 (goM mkSp (L.getD n zSite).2.1 (goM mkSp (L.getD n zSite).1 q).2).2).2+2) 3) 0,rCmp .eql (rArith .rem .i64 ((goM mkCol (L.getD n zSite).2.2.1 (goM mkSp (L.getD n zSite).2.1 (goM mkSp (L.getD n zSite).1 q).2).2).2+3) 3) 0,rCmp .eql (rArith .rem .i64 ((goM mkCol (L.getD n zSite).2.2.1 (goM mkSp (L.getD n zSite).2.1 (goM mkSp (L.getD n zSite).1 q).2).2).2+4) 3) 0,(L.getD n zSite).2.2.2.2.2.2.2.2.1,(L.getD n zSite).2.2.2.2.2.2.2.2.2.1,(L.getD n zSite).2.2.2.2.2.2.2.2.2.2)) (by simp only [get_nat,put_nat,getD_set_self hx,List.set_set])).trans ?_
   refine (cT (inS hx)).trans ?_
   refine (letsE (b:=L.set n ((goM mkSp (L.getD n zSite).1 q).1,(goM mkSp (L.getD n zSite).2.1 (goM mkSp (L.getD n zSite).1 q).2).1,(goM mkCol (L.getD n zSite).2.2.1 (goM mkSp (L.getD n zSite).2.1 (goM mkSp (L.getD n zSite).1 q).2).2).1,(goM mkCol (L.getD n zSite).2.2.1 (goM mkSp (L.getD n zSite).2.1 (goM mkSp (L.getD n zSite).1 q).2).2).2,(goM mkCol (L.getD n zSite).2.2.1 (goM mkSp (L.getD n zSite).2.1 (goM mkSp (L.getD n zSite).1 q).2).2).2+1,rCmp .eql (rArith .rem .i64 ((goM mkCol (L.getD n zSite).2.2.1 (goM mkSp (L.getD n zSite).2.1 (goM mkSp (L.getD n zSite).1 q).2).2).2+2) 3) 0,rCmp .eql (rArith .rem .i64 ((goM mkCol (L.getD n zSite).2.2.1 (goM mkSp (L.getD n zSite).2.1 (goM mkSp (L.getD n zSite).1 q).2).2).2+3) 3) 0,rCmp .eql (rArith .rem .i64 ((goM mkCol (L.getD n zSite).2.2.1 (goM mkSp (L.getD n zSite).2.1 (goM mkSp (L.getD n zSite).1 q).2).2).2+4) 3) 0,(goM mkCol (L.getD n zSite).2.2.1 (goM mkSp (L.getD n zSite).2.1 (goM mkSp (L.getD n zSite).1 q).2).2).2+5,(L.getD n zSite).2.2.2.2.2.2.2.2.2.1,(L.getD n zSite).2.2.2.2.2.2.2.2.2.2)) (by simp only [get_nat,put_nat,getD_set_self hx,List.set_set,a1,a2,a3,a4,a5,a6,a7])).trans ?_
   refine (letsE (b:=(goM mkCol (L.getD n zSite).2.2.1 (goM mkSp (L.getD n zSite).2.1 (goM mkSp (L.getD n zSite).1 q).2).2).2+6) (by simp only [a1,a2,a3,a4,a5,a6])).trans ?_
   refine (cT (inS hx)).trans ?_
   refine (letsE (b:=L.set n ((goM mkSp (L.getD n zSite).1 q).1,(goM mkSp (L.getD n zSite).2.1 (goM mkSp (L.getD n zSite).1 q).2).1,(goM mkCol (L.getD n zSite).2.2.1 (goM mkSp (L.getD n zSite).2.1 (goM mkSp (L.getD n zSite).1 q).2).2).1,(goM mkCol (L.getD n zSite).2.2.1 (goM mkSp (L.getD n zSite).2.1 (goM mkSp (L.getD n zSite).1 q).2).2).2,(goM mkCol (L.getD n zSite).2.2.1 (goM mkSp (L.getD n zSite).2.1 (goM mkSp (L.getD n zSite).1 q).2).2).2+1,rCmp .eql (rArith .rem .i64 ((goM mkCol (L.getD n zSite).2.2.1 (goM mkSp (L.getD n zSite).2.1 (goM mkSp (L.getD n zSite).1 q).2).2).2+2) 3) 0,rCmp .eql (rArith .rem .i64 ((goM mkCol (L.getD n zSite).2.2.1 (goM mkSp (L.getD n zSite).2.1 (goM mkSp (L.getD n zSite).1 q).2).2).2+3) 3) 0,rCmp .eql (rArith .rem .i64 ((goM mkCol (L.getD n zSite).2.2.1 (goM mkSp (L.getD n zSite).2.1 (goM mkSp (L.getD n zSite).1 q).2).2).2+4) 3) 0,(goM mkCol (L.getD n zSite).2.2.1 (goM mkSp (L.getD n zSite).2.1 (goM mkSp (L.getD n zSite).1 q).2).2).2+5,(goM mkCol (L.getD n zSite).2.2.1 (goM mkSp (L.getD n zSite).2.1 (goM mkSp (L.getD n zSite).1 q).2).2).2+6,(L.getD n zSite).2.2.2.2.2.2.2.2.2.2)) (by simp only [get_nat,put_nat,getD_set_self hx,List.set_set])).trans ?_
   refine (cT (inS hx)).trans ?_
   refine (bindE (r:=_) (by simp only [get_nat,getD_set_self hx,a1,a2,a3,a4,a5,a6,a7];exact m4)).trans ?_
   refine (letsE (b:=L.set n ((goM mkSp (L.getD n zSite).1 q).1,(goM mkSp (L.getD n zSite).2.1 (goM mkSp (L.getD n zSite).1 q).2).1,(goM mkCol (L.getD n zSite).2.2.1 (goM mkSp (L.getD n zSite).2.1 (goM mkSp (L.getD n zSite).1 q).2).2).1,(goM mkCol (L.getD n zSite).2.2.1 (goM mkSp (L.getD n zSite).2.1 (goM mkSp (L.getD n zSite).1 q).2).2).2,(goM mkCol (L.getD n zSite).2.2.1 (goM mkSp (L.getD n zSite).2.1 (goM mkSp (L.getD n zSite).1 q).2).2).2+1,rCmp .eql (rArith .rem .i64 ((goM mkCol (L.getD n zSite).2.2.1 (goM mkSp (L.getD n zSite).2.1 (goM mkSp (L.getD n zSite).1 q).2).2).2+2) 3) 0,rCmp .eql (rArith .rem .i64 ((goM mkCol (L.getD n zSite).2.2.1 (goM mkSp (L.getD n zSite).2.1 (goM mkSp (L.getD n zSite).1 q).2).2).2+3) 3) 0,rCmp .eql (rArith .rem .i64 ((goM mkCol (L.getD n zSite).2.2.1 (goM mkSp (L.getD n zSite).2.1 (goM mkSp (L.getD n zSite).1 q).2).2).2+4) 3) 0,(goM mkCol (L.getD n zSite).2.2.1 (goM mkSp (L.getD n zSite).2.1 (goM mkSp (L.getD n zSite).1 q).2).2).2+5,(goM mkCol (L.getD n zSite).2.2.1 (goM mkSp (L.getD n zSite).2.1 (goM mkSp (L.getD n zSite).1 q).2).2).2+6,marksE ((goM mkCol (L.getD n zSite).2.2.1 (goM mkSp (L.getD n zSite).2.1 (goM mkSp (L.getD n zSite).1 q).2).2).2+7) (L.getD n zSite).2.2.2.2.2.2.2.2.2.2.length)) (by simp only [get_nat,put_nat,getD_set_self hx,List.set_set])).trans ?_
   simp only [succ64 (n:=n) (by omega)]
  ·unfold laws_markSiteS_b0
   simp only [lss_len,Nat.lt_irrefl,decide_false,cond_false]
 rw [this]
 rfl
theorem heldSiteS_eq (l:List Site) (k:Int) (hl:l.length≤1073741824) (hc:∀ n,n < l.length→siteLe 1073741824 (l.getD n zSite)) (h0:0≤k) (h1:k+(costs siteCost l:Nat)≤274877906944):laws_heldSiteS (goM mkSite l k).1 k=some ((goM mkSite l k).2,()):=by
 unfold laws_heldSiteS
 have:laws_heldSiteS_l0 ((goM mkSite l k).1,()) (k,0,())=some (.inr (.inl ((goM mkSite l k).2,()))):=by
  refine held_gen (cost:=siteCost) zSite l k hl h0 mkSite_bd (fun q n hn hk0 hk1 hg=>?_) (fun k'=>?_)
  ·have hx:n < (goM mkSite l k).1.length:=by rw [goM_len];exact hn
   have hg2':rGet zLIIlLIIlLILIlLIIIBllIIBBBIILIIIIIIIl (goM mkSite l k).1 (n:Int)=(mkSite q (l.getD n zSite)).1:=by rw [get_nat];exact hg
   obtain ⟨c1,c2,c3,c4,c5⟩:=hc n hn
   have hcost:2*(l.getD n zSite).1.length+2*(l.getD n zSite).2.1.length+costs colCost (l.getD n zSite).2.2.1+7+7*(l.getD n zSite).2.2.2.2.2.2.2.2.2.2.length≤costs siteCost l:=costs_get siteCost zSite hn
   have b1:=sp_bd (l.getD n zSite).1 q
   have b2:=sp_bd (l.getD n zSite).2.1 (goM mkSp (l.getD n zSite).1 q).2
   have b3:=goM_bd mkCol_bd (l.getD n zSite).2.2.1 (goM mkSp (l.getD n zSite).2.1 (goM mkSp (l.getD n zSite).1 q).2).2
   have a1:rArith .add .i64 ((goM mkCol (l.getD n zSite).2.2.1 (goM mkSp (l.getD n zSite).2.1 (goM mkSp (l.getD n zSite).1 q).2).2).2) 1=(goM mkCol (l.getD n zSite).2.2.1 (goM mkSp (l.getD n zSite).2.1 (goM mkSp (l.getD n zSite).1 q).2).2).2+1:=addS (by omega) (by omega) (by omega)
   have a2:rArith .add .i64 ((goM mkCol (l.getD n zSite).2.2.1 (goM mkSp (l.getD n zSite).2.1 (goM mkSp (l.getD n zSite).1 q).2).2).2+1) 1=(goM mkCol (l.getD n zSite).2.2.1 (goM mkSp (l.getD n zSite).2.1 (goM mkSp (l.getD n zSite).1 q).2).2).2+2:=addS (by omega) (by omega) (by omega)
   have a3:rArith .add .i64 ((goM mkCol (l.getD n zSite).2.2.1 (goM mkSp (l.getD n zSite).2.1 (goM mkSp (l.getD n zSite).1 q).2).2).2+2) 1=(goM mkCol (l.getD n zSite).2.2.1 (goM mkSp (l.getD n zSite).2.1 (goM mkSp (l.getD n zSite).1 q).2).2).2+3:=addS (by omega) (by omega) (by omega)
   have a4:rArith .add .i64 ((goM mkCol (l.getD n zSite).2.2.1 (goM mkSp (l.getD n zSite).2.1 (goM mkSp (l.getD n zSite).1 q).2).2).2+3) 1=(goM mkCol (l.getD n zSite).2.2.1 (goM mkSp (l.getD n zSite).2.1 (goM mkSp (l.getD n zSite).1 q).2).2).2+4:=addS (by omega) (by omega) (by omega)
   have a5:rArith .add .i64 ((goM mkCol (l.getD n zSite).2.2.1 (goM mkSp (l.getD n zSite).2.1 (goM mkSp (l.getD n zSite).1 q).2).2).2+4) 1=(goM mkCol (l.getD n zSite).2.2.1 (goM mkSp (l.getD n zSite).2.1 (goM mkSp (l.getD n zSite).1 q).2).2).2+5:=addS (by omega) (by omega) (by omega)
   have a6:rArith .add .i64 ((goM mkCol (l.getD n zSite).2.2.1 (goM mkSp (l.getD n zSite).2.1 (goM mkSp (l.getD n zSite).1 q).2).2).2+5) 1=(goM mkCol (l.getD n zSite).2.2.1 (goM mkSp (l.getD n zSite).2.1 (goM mkSp (l.getD n zSite).1 q).2).2).2+6:=addS (by omega) (by omega) (by omega)
   have a7:rArith .add .i64 ((goM mkCol (l.getD n zSite).2.2.1 (goM mkSp (l.getD n zSite).2.1 (goM mkSp (l.getD n zSite).1 q).2).2).2+6) 1=(goM mkCol (l.getD n zSite).2.2.1 (goM mkSp (l.getD n zSite).2.1 (goM mkSp (l.getD n zSite).1 q).2).2).2+7:=addS (by omega) (by omega) (by omega)
   have m1:=heldSpanS_eq (l.getD n zSite).1 q c1 (by omega) (by omega)
   have m2:=heldSpanS_eq (l.getD n zSite).2.1 (goM mkSp (l.getD n zSite).1 q).2 c2 (by omega) (by omega)
   have m3:=heldColumnS_eq (l.getD n zSite).2.2.1 (goM mkSp (l.getD n zSite).2.1 (goM mkSp (l.getD n zSite).1 q).2).2 c3 c4 (by omega) (by omega)
   have m4:=heldEventS_eq (l.getD n zSite).2.2.2.2.2.2.2.2.2.2.length ((goM mkCol (l.getD n zSite).2.2.1 (goM mkSp (l.getD n zSite).2.1 (goM mkSp (l.getD n zSite).1 q).2).2).2+7) c5 (by omega) (by omega)
   have n1:rCmp .lss (goM mkSp (l.getD n zSite).1 q).2 0=false:=neg_of (by omega)
   have n2:rCmp .lss (goM mkSp (l.getD n zSite).2.1 (goM mkSp (l.getD n zSite).1 q).2).2 0=false:=neg_of (by omega)
   have n3:rCmp .lss ((goM mkCol (l.getD n zSite).2.2.1 (goM mkSp (l.getD n zSite).2.1 (goM mkSp (l.getD n zSite).1 q).2).2).2) 0=false:=neg_of (by omega)
   have n4:rCmp .lss ((goM mkCol (l.getD n zSite).2.2.1 (goM mkSp (l.getD n zSite).2.1 (goM mkSp (l.getD n zSite).1 q).2).2).2+7+7*((l.getD n zSite).2.2.2.2.2.2.2.2.2.2.length:Int)) 0=false:=neg_of (by omega)
   unfold laws_heldSiteS_b0
   simp only [lss_len,inR_nat,hx,decide_true,cond_true,succ64 (n:=n) (by omega),hg2',mkSite,k3,a1,a2,a3,a4,a5,a6,a7,neq_self,cond_false,z3F,rBeq_self,Bool.not_true,lets_def,m1,m2,m3,m4,n1,n2,n3,n4,Option.bind_some]
  ·unfold laws_heldSiteS_b0
   have:=goM_len mkSite l k
   simp only [←this,lss_len,Nat.lt_irrefl,decide_false,cond_false]
 rw [this]
 rfl
end Go.Fn
set_option linter.unusedVariables false
set_option linter.unusedSimpArgs false
namespace Go.Fn
open Go.R
noncomputable def netCost (s:List Site) (p:List Prc) (g:List Grt) (j:List Ev):Nat:=costs siteCost s+13*p.length+7*g.length+7*j.length
noncomputable def nmS (k:Int) (s:List Site):List Site×Int:=goM mkSite s k
noncomputable def nmP (k:Int) (s:List Site) (p:List Prc):List Prc×Int:=goM mkPrc p (nmS k s).2
noncomputable def nmG (k:Int) (s:List Site) (p:List Prc) (g:List Grt):List Grt×Int:=goM mkGrt g (nmP k s p).2
noncomputable def nmE (k:Int) (s:List Site) (p:List Prc) (g:List Grt) (j:List Ev):Int:=(nmG k s p g).2+7*(j.length:Int)
section
variable (a0 a1 a2 a3 a4 a5 a6 a7 a8 a9 a10:Int) (s:List Site) (p:List Prc) (g:List Grt) (j:List Ev) (k:Int)
theorem nmE_bd:(k≤(nmS k s).2∧(nmS k s).2≤k+(costs siteCost s:Nat))∧((nmS k s).2≤(nmP k s p).2∧(nmP k s p).2≤(nmS k s).2+(13*p.length:Nat))∧((nmP k s p).2≤(nmG k s p g).2∧(nmG k s p g).2≤(nmP k s p).2+(7*g.length:Nat)):=by
 have b1:=goM_bd mkSite_bd s k
 have b2:=goM_bd mkPrc_bd p (nmS k s).2
 have b3:=goM_bd mkGrt_bd g (nmP k s p).2
 rw [costs_const] at b2 b3
 exact ⟨b1,b2,b3⟩
theorem markNetwork_eq (h:netLe s p g j) (h0:0≤k) (h1:k+(netCost s p g j:Nat)≤137438953472) :
  laws_markNetwork a0 a1 a2 a3 a4 a5 a6 a7 a8 a9 a10 s p g j k=some (nmE k s p g j,(nmS k s).1,(nmP k s p).1,(nmG k s p g).1,marksE (nmG k s p g).2 j.length,()):=by
 have e1:=h.ls;have e2:=h.lp;have e3:=h.lg;have e4:=h.lj
 obtain ⟨b1,b2,b3⟩:=nmE_bd s p g k
 unfold netCost at h1
 unfold laws_markNetwork
 rw [markSiteS_eq s k (by omega) h.ss h0 (by omega)]
 simp only [Option.bind_some]
 rw [show (goM mkSite s k).2=(nmS k s).2 from rfl,markParcelS_eq p (nmS k s).2 (by omega) (by omega) (by omega)]
 simp only [Option.bind_some]
 rw [show (goM mkPrc p (nmS k s).2).2=(nmP k s p).2 from rfl,markGrantS_eq g (nmP k s p).2 (by omega) (by omega) (by omega)]
 simp only [Option.bind_some]
 rw [show (goM mkGrt g (nmP k s p).2).2=(nmG k s p g).2 from rfl,markEventS_eq j (nmG k s p g).2 (by omega) (by omega) (by omega)]
 rfl
theorem heldNetwork_eq (h:netLe s p g j) (h0:0≤k) (h1:k+(netCost s p g j:Nat)≤137438953472) :
  laws_heldNetwork a0 a1 a2 a3 a4 a5 a6 a7 a8 a9 a10 (nmS k s).1 (nmP k s p).1 (nmG k s p g).1 (marksE (nmG k s p g).2 j.length) k=some (nmE k s p g j,()):=by
 have e1:=h.ls;have e2:=h.lp;have e3:=h.lg;have e4:=h.lj
 obtain ⟨b1,b2,b3⟩:=nmE_bd s p g k
 unfold netCost at h1
 unfold laws_heldNetwork
 rw [show (nmS k s).1=(goM mkSite s k).1 from rfl,heldSiteS_eq s k (by omega) h.ss h0 (by omega)]
 simp only [Option.bind_some]
 rw [show (goM mkSite s k).2=(nmS k s).2 from rfl,neg_of (a:=(nmS k s).2) (by omega),show (nmP k s p).1=(goM mkPrc p (nmS k s).2).1 from rfl,heldParcelS_eq p (nmS k s).2 (by omega) (by omega) (by omega)]
 simp only [Option.bind_some,cond_false]
 rw [show (goM mkPrc p (nmS k s).2).2=(nmP k s p).2 from rfl,neg_of (a:=(nmP k s p).2) (by omega),show (nmG k s p g).1=(goM mkGrt g (nmP k s p).2).1 from rfl,heldGrantS_eq g (nmP k s p).2 (by omega) (by omega) (by omega)]
 simp only [Option.bind_some,cond_false]
 rw [show (goM mkGrt g (nmP k s p).2).2=(nmG k s p g).2 from rfl,neg_of (a:=(nmG k s p g).2) (by omega),heldEventS_eq j.length (nmG k s p g).2 (by omega) (by omega) (by omega)]
 simp only [Option.bind_some,cond_false]
 rw [neg_of (a:=(nmG k s p g).2+7*(j.length:Int)) (by omega)]
 rfl
theorem nmE_nonneg (h0:0≤k):0≤nmE k s p g j:=by
 obtain ⟨b1,b2,b3⟩:=nmE_bd s p g k
 unfold nmE
 omega
end
abbrev Wk:=List Spn×List Spn
noncomputable def wkCost (w:Wk):Nat:=2*w.1.length+2*w.2.length
noncomputable def mkWk (q:Int) (w:Wk):Wk×Int:=(((goM mkSp w.1 q).1,(goM mkSp w.2 (goM mkSp w.1 q).2).1),(goM mkSp w.2 (goM mkSp w.1 q).2).2)
theorem mkWk_bd (q:Int) (w:Wk):q≤(mkWk q w).2∧(mkWk q w).2≤q+(wkCost w:Nat):=by
 have b1:=sp_bd w.1 q
 have b2:=sp_bd w.2 (goM mkSp w.1 q).2
 unfold mkWk wkCost
 dsimp only
 omega
theorem markWeekS_eq (l:List Wk) (k:Int) (hl:l.length≤1073741824) (hc:∀ n,n < l.length→(l.getD n zLIIlLIIl).1.length≤1073741824∧(l.getD n zLIIlLIIl).2.length≤1073741824) (h0:0≤k) (h1:k+(costs wkCost l:Nat)≤1099511627776):laws_markWeekS l k=some ((goM mkWk l k).2,(goM mkWk l k).1,()):=by
 unfold laws_markWeekS
 have:laws_markWeekS_l0 () (l,k,0,())=some (.inl ((goM mkWk l k).1,(goM mkWk l k).2,())):=by
  refine mark_gen (cost:=wkCost) zLIIlLIIl l k hl h0 mkWk_bd (fun L q n hx hL hg hk0 hk1=>?_) (fun L k'=>?_)
  ·have hn:n < l.length:=by omega
   obtain ⟨c1,c2⟩:=hc n hn
   rw [←hg] at c1 c2 ⊢
   unfold mkWk
   have b1:=sp_bd (L.getD n zLIIlLIIl).1 q
   have m1:=markSpanS_eq (L.getD n zLIIlLIIl).1 q c1 (by omega) (by omega)
   have m2:=markSpanS_eq (L.getD n zLIIlLIIl).2 (goM mkSp (L.getD n zLIIlLIIl).1 q).2 c2 (by omega) (by omega)
   unfold laws_markWeekS_b0
   dsimp only
   refine (cT (loX hx)).trans ?_
   refine (cT (inX hx)).trans ?_
   rw [get_nat]
   refine (bindE (r:=_) m1).trans ?_
   dsimp only
   rw [put_nat]
   refine (cT (inS hx)).trans ?_
   rw [get_nat]
   refine (bindE (r:=_) (by rw [getD_set_self hx];exact m2)).trans ?_
   refine (letsE (b:=L.set n ((goM mkSp (L.getD n zLIIlLIIl).1 q).1,(goM mkSp (L.getD n zLIIlLIIl).2 (goM mkSp (L.getD n zLIIlLIIl).1 q).2).1)) (by rw [getD_set_self hx,put_nat,List.set_set])).trans ?_
   simp only [succ64 (n:=n) (by omega)]
  ·unfold laws_markWeekS_b0
   simp only [lss_len,Nat.lt_irrefl,decide_false,cond_false]
 rw [this]
 rfl
theorem markColumnSS_eq (l:List (List Col)) (k:Int) (hl:l.length≤1073741824) (hc:∀ n,n < l.length→(l.getD n zLILIlLIIIBll).length≤1073741824∧∀ m,m < (l.getD n zLILIlLIIIBll).length→colLe 1073741824 ((l.getD n zLILIlLIIIBll).getD m zCol)) (h0:0≤k) (h1:k+(costs (costs colCost) l:Nat)≤274877906944) :
  laws_markColumnSS l k=some ((goM (fun q x=>goM mkCol x q) l k).2,(goM (fun q x=>goM mkCol x q) l k).1,()):=by
 unfold laws_markColumnSS
 have:laws_markColumnSS_l0 () (l,k,0,())=some (.inl ((goM (fun q x=>goM mkCol x q) l k).1,(goM (fun q x=>goM mkCol x q) l k).2,())):=by
  refine mark_gen (cost:=costs colCost) zLILIlLIIIBll l k hl h0 (fun q x=>goM_bd mkCol_bd x q) (fun L q n hx hL hg hk0 hk1=>?_) (fun L k'=>?_)
  ·have hn:n < l.length:=by omega
   obtain ⟨c1,c2⟩:=hc n hn
   have hcost:=costs_get (costs colCost) zLILIlLIIIBll hn
   rw [←hg] at c1 c2 hcost ⊢
   have m1:=markColumnS_eq (L.getD n zLILIlLIIIBll) q c1 c2 (by omega) (by omega)
   unfold laws_markColumnSS_b0
   simp only [lss_len,inR_nat,hx,decide_true,cond_true,succ64 (n:=n) (by omega),put_nat,get_nat,m1,Option.bind_some]
  ·unfold laws_markColumnSS_b0
   simp only [lss_len,Nat.lt_irrefl,decide_false,cond_false]
 rw [this]
 rfl
end Go.Fn
