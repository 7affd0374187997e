import Derived.Test.YthdhgmppijjhpaaGreatNewNetworkQB
/- Plain functions that stand for Go functions, and what they answer. Conditions: none. -/
set_option autoImplicit false
set_option linter.unusedVariables false
set_option linter.unusedSimpArgs false
set_option linter.unusedVariables false
set_option linter.unusedSimpArgs false
namespace Go.Fn
open Go.R
theorem size_sum {α:Type} {body:Int×Int×Unit→Option ((Int×Int×Unit) ⊕ (Int×Unit ⊕ (Int×Unit ⊕ Empty)))} (z:α) (cost:α→Nat) (l:List α) (hl:l.length≤1073741824)
  (h:∀ (n:Nat) (a:Int),n < l.length→0≤a→a≤1048576→body (a,(n:Int),())=some (.inr (.inl (-1,())))∨∃ b,body (a,(n:Int),())=some (.inl (b,((n+1:Nat):Int),()))∧0≤b∧b+(cost (l.getD n z):Nat)≤a)
  (hend:∀ a,body (a,(l.length:Int),())=some (.inr (.inr (.inl (a,()))))) (a:Int) (ha:0≤a) (ha':a≤1048576) :
  ∃ y,iter body big (a,0,())=some y∧(y=.inl (-1,())∨∃ b,y=.inr (.inl (b,()))∧0≤b∧b+(costs cost l:Nat)≤a):=by
 have key:∀ (k n:Nat) (a:Int),n+k=l.length→0≤a→a≤1048576→∃ y,iter body (k+1) (a,(n:Int),())=some y∧(y=.inl (-1,())∨∃ b,y=.inr (.inl (b,()))∧0≤b∧b+(costs cost (l.drop n):Nat)≤a):=by
  intro k
  induction k with
  | zero =>
   intro n a hn h0 h1
   have:n=l.length:=by omega
   subst this
   refine ⟨_,iter_done (hend a),.inr ⟨a,rfl,h0,?_⟩⟩
   rw [List.drop_length]
   show a+(0:Int)≤a
   omega
  | succ k ih =>
   intro n a hn h0 h1
   have hlt:n < l.length:=by omega
   rcases h n a hlt h0 h1 with h | ⟨b,h,b0,b1⟩
   ·exact ⟨_,iter_done h,.inl rfl⟩
   ·obtain ⟨y,q1,q2⟩:=ih (n+1) b (by omega) b0 (by omega)
    refine ⟨y,by rw [iter_next h];exact q1,q2.imp id fun ⟨c,c1,c2,c3⟩=>⟨c,c1,c2,?_⟩⟩
    have hd:l.drop n=l.getD n z::l.drop (n+1):=by
     rw [List.drop_eq_getElem_cons hlt,List.getD_eq_getElem?_getD,List.getElem?_eq_getElem hlt]
     rfl
    rw [hd]
    simp only [costs]
    omega
 obtain ⟨y,h1,h2⟩:=key l.length 0 a (by omega) ha ha'
 exact ⟨y,iter_mono h1 (lt_big (by omega)),h2⟩
noncomputable def wkSz (w:Wk):Nat:=w.1.length+w.2.length
noncomputable def WkWf (w:Wk):Prop:=w.1.length≤9223372036854775807∧w.2.length≤9223372036854775807
theorem szWeekS_sum (l:List Wk) (a:Int) (hl:l.length≤9223372036854775807) (hw:∀ w∈l,WkWf w) (ha:0≤a) (ha':a≤1048576) :
  ∃ b,laws_szWeekS l a=some (b,())∧(b = -1∨(0≤b∧b+(l.length+costs wkSz l:Nat)≤a)):=by
 unfold laws_szWeekS
 have h1:rArith .sub .i64 a (rLen l)=a - (l.length:Int):=sub64 (by unfold rLen;omega) (by unfold rLen;omega)
 have h2:rCmp .lss (a - (l.length:Int)) 0=decide (a < (l.length:Int)):=by simp only [rCmp,decide_eq_decide];omega
 rw [h1,h2]
 cases hd:decide (a < (l.length:Int)) with
 | true=>exact ⟨-1,rfl,.inl rfl⟩
 | false =>
  have hd:=of_decide_eq_false hd
  have hl30:l.length≤1073741824:=by omega
  obtain ⟨y,q1,q2⟩:=size_sum (body:=laws_szWeekS_b0 (l,())) zLIIlLIIl wkSz l hl30 (fun n a hn h0 h1=>by
   obtain ⟨c1,c2⟩:=hw _ (getD_mem hn zLIIlLIIl)
   have e1:=szWeek_eq (l.getD n zLIIlLIIl).1 (l.getD n zLIIlLIIl).2 a c1 c2 h0 h1
   unfold laws_szWeekS_b0
   simp only [lss_len,inR_nat,hn,decide_true,cond_true,get_nat,lets_def,succ64 (n:=n) (show n < 1099511627776 by omega),e1,Option.bind_some]
   cases hd:decide (a < ((l.getD n zLIIlLIIl).1.length:Int)+((l.getD n zLIIlLIIl).2.length:Int)) with
   | true=>exact .inl rfl
   | false =>
    have hd:=of_decide_eq_false hd
    simp only [cond_false]
    rw [neg_of (by omega)]
    exact .inr ⟨_,rfl,by omega,by unfold wkSz;omega⟩) (fun a=>by
   unfold laws_szWeekS_b0
   simp only [lss_len,Nat.lt_irrefl,decide_false,cond_false]) (a - (l.length:Int)) (by omega) (by omega)
  simp only [cond_false]
  unfold laws_szWeekS_l0
  rw [q1]
  rcases q2 with rfl | ⟨b,rfl,b1,b2⟩
  ·exact ⟨-1,rfl,.inl rfl⟩
  ·exact ⟨b,rfl,.inr ⟨b1,by omega⟩⟩
noncomputable def colSz (c:Col):Nat:=c.2.1.length+c.2.2.length
noncomputable def bankSz (l:List Col):Nat:=l.length+costs colSz l
theorem szColumn_sum (a0:Int) (a1:List Int) (a2:List Bx) (a:Int) (h1:a1.length≤9223372036854775807) (h2:a2.length≤9223372036854775807) (ha:0≤a) (ha':a≤1048576) :
  ∃ b,laws_szColumn a0 a1 a2 a=some (b,())∧(b = -1∨(0≤b∧b+(a1.length+a2.length:Nat)≤a)):=by
 unfold laws_szColumn
 rw [szIntS_eq a1 a h1 ha ha']
 simp only [Option.bind_some]
 cases hd:decide (a < (a1.length:Int)) with
 | true=>exact ⟨-1,rfl,.inl rfl⟩
 | false =>
  have hd:=of_decide_eq_false hd
  simp only [cond_false]
  rw [neg_of (by omega)]
  simp only [cond_false]
  rw [szBoxS_eq a2 _ h2 (by omega) (by omega)]
  simp only [Option.bind_some]
  cases hd2:decide (a - (a1.length:Int) < (a2.length:Int)) with
  | true=>exact ⟨-1,rfl,.inl rfl⟩
  | false =>
   have hd2:=of_decide_eq_false hd2
   simp only [cond_false]
   rw [neg_of (by omega)]
   exact ⟨_,rfl,.inr ⟨by omega,by omega⟩⟩
theorem szColumnS_sum (l:List Col) (a:Int) (hl:l.length≤9223372036854775807) (hw:∀ c∈l,colLe 9223372036854775807 c) (ha:0≤a) (ha':a≤1048576) :
  ∃ b,laws_szColumnS l a=some (b,())∧(b = -1∨(0≤b∧b+(bankSz l:Nat)≤a)):=by
 unfold laws_szColumnS
 have h1:rArith .sub .i64 a (rLen l)=a - (l.length:Int):=sub64 (by unfold rLen;omega) (by unfold rLen;omega)
 have h2:rCmp .lss (a - (l.length:Int)) 0=decide (a < (l.length:Int)):=by simp only [rCmp,decide_eq_decide];omega
 rw [h1,h2]
 cases hd:decide (a < (l.length:Int)) with
 | true=>exact ⟨-1,rfl,.inl rfl⟩
 | false =>
  have hd:=of_decide_eq_false hd
  have hl30:l.length≤1073741824:=by omega
  obtain ⟨y,q1,q2⟩:=size_sum (body:=laws_szColumnS_b0 (l,())) zILIlLIIIBl colSz l hl30 (fun n a hn h0 h1=>by
   obtain ⟨c1,c2⟩:=hw _ (getD_mem hn zILIlLIIIBl)
   obtain ⟨b,e1,e2⟩:=szColumn_sum (l.getD n zILIlLIIIBl).1 (l.getD n zILIlLIIIBl).2.1 (l.getD n zILIlLIIIBl).2.2 a c1 c2 h0 h1
   unfold laws_szColumnS_b0
   simp only [lss_len,inR_nat,hn,decide_true,cond_true,get_nat,lets_def,succ64 (n:=n) (show n < 1099511627776 by omega),e1,Option.bind_some]
   rcases e2 with rfl | ⟨b0,b1⟩
   ·exact .inl rfl
   ·rw [neg_of b0];exact .inr ⟨b,rfl,b0,b1⟩) (fun a=>by
   unfold laws_szColumnS_b0
   simp only [lss_len,Nat.lt_irrefl,decide_false,cond_false]) (a - (l.length:Int)) (by omega) (by omega)
  simp only [cond_false]
  unfold laws_szColumnS_l0
  rw [q1]
  rcases q2 with rfl | ⟨b,rfl,b1,b2⟩
  ·exact ⟨-1,rfl,.inl rfl⟩
  ·exact ⟨b,rfl,.inr ⟨b1,by unfold bankSz;omega⟩⟩
noncomputable def BkWf (l:List Col):Prop:=l.length≤9223372036854775807∧∀ c∈l,colLe 9223372036854775807 c
theorem szColumnSS_sum (l:List (List Col)) (a:Int) (hl:l.length≤9223372036854775807) (hw:∀ c∈l,BkWf c) (ha:0≤a) (ha':a≤1048576) :
  ∃ b,laws_szColumnSS l a=some (b,())∧(b = -1∨(0≤b∧b+(l.length+costs bankSz l:Nat)≤a)):=by
 unfold laws_szColumnSS
 have h1:rArith .sub .i64 a (rLen l)=a - (l.length:Int):=sub64 (by unfold rLen;omega) (by unfold rLen;omega)
 have h2:rCmp .lss (a - (l.length:Int)) 0=decide (a < (l.length:Int)):=by simp only [rCmp,decide_eq_decide];omega
 rw [h1,h2]
 cases hd:decide (a < (l.length:Int)) with
 | true=>exact ⟨-1,rfl,.inl rfl⟩
 | false =>
  have hd:=of_decide_eq_false hd
  have hl30:l.length≤1073741824:=by omega
  obtain ⟨y,q1,q2⟩:=size_sum (body:=laws_szColumnSS_b0 (l,())) zLILIlLIIIBll bankSz l hl30 (fun n a hn h0 h1=>by
   obtain ⟨c1,c2⟩:=hw _ (getD_mem hn zLILIlLIIIBll)
   obtain ⟨b,e1,e2⟩:=szColumnS_sum (l.getD n zLILIlLIIIBll) a c1 c2 h0 h1
   unfold laws_szColumnSS_b0
   simp only [lss_len,inR_nat,hn,decide_true,cond_true,get_nat,lets_def,succ64 (n:=n) (show n < 1099511627776 by omega),e1,Option.bind_some]
   rcases e2 with rfl | ⟨b0,b1⟩
   ·exact .inl rfl
   ·rw [neg_of b0];exact .inr ⟨b,rfl,b0,b1⟩) (fun a=>by
   unfold laws_szColumnSS_b0
   simp only [lss_len,Nat.lt_irrefl,decide_false,cond_false]) (a - (l.length:Int)) (by omega) (by omega)
  simp only [cond_false]
  unfold laws_szColumnSS_l0
  rw [q1]
  rcases q2 with rfl | ⟨b,rfl,b1,b2⟩
  ·exact ⟨-1,rfl,.inl rfl⟩
  ·exact ⟨b,rfl,.inr ⟨b1,by omega⟩⟩
end Go.Fn
set_option linter.unusedVariables false
set_option linter.unusedSimpArgs false
namespace Go.Fn
open Go.R
noncomputable def WkLe (w:Wk):Prop:=w.1.length≤1073741824∧w.2.length≤1073741824
noncomputable def BkLe (l:List Col):Prop:=l.length≤1073741824∧∀ m,m < l.length→colLe 1073741824 (l.getD m zCol)
theorem toWeekS_eq (l:List Wk) (hl:l.length≤1073741824) (hc:∀ n,n < l.length→WkLe (l.getD n zLIIlLIIl)):laws_toWeekS l=some (l,()):=by
 unfold laws_toWeekS
 rw [repOk_len hl]
 have hr:rRep (rLen l) ((([]:List Spn),([]:List Spn)))=List.replicate l.length ([],[]):=rep_nat _ _
 rw [hr]
 have:=copy_gen (body:=laws_toWeekS_b0 (l,())) l ([],[]) zLIIlLIIl hl (fun n acc hn ha=>by
  obtain ⟨c1,c2⟩:=hc n hn
  unfold laws_toWeekS_b0
  simp only [lss_len,inR_nat,hn,ha,decide_true,cond_true,get_nat,lets_def,succ64 (n:=n) (show n < 1099511627776 by omega),put_nat,toWeek_eq _ _ c1 c2,Option.bind_some]) (fun acc _=>by
  unfold laws_toWeekS_b0
  simp only [lss_len,Nat.lt_irrefl,decide_false,cond_false])
 simp only [cond_true]
 unfold laws_toWeekS_l0
 rw [this]
 rfl
theorem toColumnSS_eq (l:List (List Col)) (hl:l.length≤1073741824) (hc:∀ n,n < l.length→BkLe (l.getD n zLILIlLIIIBll)):laws_toColumnSS l=some (l,()):=by
 unfold laws_toColumnSS
 rw [repOk_len hl]
 have hr:rRep (rLen l) ([]:List Col)=List.replicate l.length []:=rep_nat _ _
 rw [hr]
 have:=copy_gen (body:=laws_toColumnSS_b0 (l,())) l [] zLILIlLIIIBll hl (fun n acc hn ha=>by
  obtain ⟨c1,c2⟩:=hc n hn
  unfold laws_toColumnSS_b0
  simp only [lss_len,inR_nat,hn,ha,decide_true,cond_true,get_nat,lets_def,succ64 (n:=n) (show n < 1099511627776 by omega),put_nat,toColumnS_eq _ c1 c2,Option.bind_some]) (fun acc _=>by
  unfold laws_toColumnSS_b0
  simp only [lss_len,Nat.lt_irrefl,decide_false,cond_false])
 simp only [cond_true]
 unfold laws_toColumnSS_l0
 rw [this]
 rfl
theorem eqWeekS_self (l:List Wk) (hl:l.length≤1073741824) (hc:∀ n,n < l.length→WkLe (l.getD n zLIIlLIIl)):laws_eqWeekS l l=some (true,()):=by
 unfold laws_eqWeekS
 rw [neq_self]
 have hloop:laws_eqWeekS_l0 (l,l,()) ((0:Int),())=some (Sum.inr (Sum.inl ())):=by
  refine loop_end (fun n=>((n:Int),())) l.length (by show _ < _;omega) _ (fun n hn=>?_) ?_
  ·obtain ⟨c1,c2⟩:=hc n hn
   unfold laws_eqWeekS_b0
   simp only [lss_len,inR_nat,hn,decide_true,cond_true,get_nat,lets_def,succ64 (n:=n) (show n < 1099511627776 by omega),eqWeek_self _ _ c1 c2,Option.bind_some,Bool.not_true,cond_false]
  ·unfold laws_eqWeekS_b0
   simp only [lss_len,Nat.lt_irrefl,decide_false,cond_false]
 simp only [cond_false]
 rw [hloop]
 rfl
theorem eqColumnSS_self (l:List (List Col)) (hl:l.length≤1073741824) (hc:∀ n,n < l.length→BkLe (l.getD n zLILIlLIIIBll)):laws_eqColumnSS l l=some (true,()):=by
 unfold laws_eqColumnSS
 rw [neq_self]
 have hloop:laws_eqColumnSS_l0 (l,l,()) ((0:Int),())=some (Sum.inr (Sum.inl ())):=by
  refine loop_end (fun n=>((n:Int),())) l.length (by show _ < _;omega) _ (fun n hn=>?_) ?_
  ·obtain ⟨c1,c2⟩:=hc n hn
   unfold laws_eqColumnSS_b0
   simp only [lss_len,inR_nat,hn,decide_true,cond_true,get_nat,lets_def,succ64 (n:=n) (show n < 1099511627776 by omega),eqColumnS_self _ c1 c2,Option.bind_some,Bool.not_true,cond_false]
  ·unfold laws_eqColumnSS_b0
   simp only [lss_len,Nat.lt_irrefl,decide_false,cond_false]
 simp only [cond_false]
 rw [hloop]
 rfl
theorem cloneS_eq (l:List Spn) (hl:l.length≤1073741824):slices_Clone___impl_Span_impl_Span_ l=some (l,()):=by
 unfold slices_Clone___impl_Span_impl_Span_
 have h1:rSmall (List.append (α:=Spn) ([]:List Spn) l)=true:=small_of hl
 rw [h1]
 cases l with
 | nil=>exact both_self _
 | cons x l=>rw [show rCmp .gtr (rLen (x::l)) (0:Int)=true from gt0 l.length];rfl
theorem cloneB_eq (l:List Bx) (hl:l.length≤1073741824):slices_Clone___impl_Box_impl_Box_ l=some (l,()):=by
 unfold slices_Clone___impl_Box_impl_Box_
 have h1:rSmall (List.append (α:=Bx) ([]:List Bx) l)=true:=small_of hl
 rw [h1]
 cases l with
 | nil=>exact both_self _
 | cons x l=>rw [show rCmp .gtr (rLen (x::l)) (0:Int)=true from gt0 l.length];rfl
theorem copyWeek_eq (o c:List Spn) (ho:o.length≤1073741824) (hc:c.length≤1073741824):impl_copyWeek o c=some (o,c,()):=by
 unfold impl_copyWeek
 rw [cloneS_eq o ho,cloneS_eq c hc]
 rfl
theorem l09Week_eq (o c:List Spn) (ho:o.length≤1073741824) (hc:c.length≤1073741824):spec_l09Week o c=some (o,c,()):=by
 unfold spec_l09Week
 rw [show rSmall (List.append (α:=Spn) ([]:List Spn) o)=true from small_of ho,show rSmall (List.append (α:=Spn) ([]:List Spn) c)=true from small_of hc]
 rfl
theorem copyColumn_eq (h:Int) (f:List Int) (b:List Bx) (hf:f.length≤1073741824) (hb:b.length≤1073741824):impl_copyColumn h f b=some (h,f,b,()):=by
 unfold impl_copyColumn
 rw [clone_eq f hf,cloneB_eq b hb]
 rfl
theorem l02Copy_eq (h:Int) (f:List Int) (b:List Bx) (hf:f.length≤1073741824) (hb:b.length≤1073741824):spec_l02Copy h f b=some (h,f,b,()):=by
 unfold spec_l02Copy
 rw [show rSmall (List.append (α:=Int) ([]:List Int) f)=true from small_of hf,show rSmall (List.append (α:=Bx) ([]:List Bx) b)=true from small_of hb]
 rfl
theorem copyBank_eq (l:List Col) (h:BkLe l):impl_copyBank l=some (l,()):=by
 obtain ⟨hl,hc⟩:=h
 unfold impl_copyBank
 have:impl_copyBank_l0 (l,rLen l,()) ([],0,())=some (.inl (l,())):=by
  have:=loop_end (body:=impl_copyBank_b0 (l,rLen l,())) (fun n=>(l.take n,(n:Int),())) l.length (by omega) (.inl (l,())) (fun n hn=>?_) ?_
  ·unfold impl_copyBank_l0
   simpa using this
  ·obtain ⟨c1,c2⟩:=hc n hn
   have hs:rSmall (List.append (α:=Col) (l.take n) (List.append (α:=Col) [] [((l.getD n zCol).1,(l.getD n zCol).2.1,(l.getD n zCol).2.2)]))=true:=small_of (by show (l.take n++([]++[_])).length≤_;rw [List.length_append,List.length_take];show _+1≤_;omega)
   unfold impl_copyBank_b0
   simp only [lss_len,inR_nat,hn,decide_true,cond_true,get_nat,succ64 (n:=n) (show n < 1099511627776 by omega)]
   rw [show zILIlLIIIBl=zCol from rfl,copyColumn_eq _ _ _ c1 c2]
   simp only [Option.bind_some]
   rw [hs,take_snoc hn zCol]
   rfl
  ·unfold impl_copyBank_b0
   simp only [lss_len,Nat.lt_irrefl,decide_false,cond_false,List.take_length]
 rw [this]
 rfl
theorem l02CopyBank_eq (l:List Col) (h:BkLe l):spec_l02CopyBank l=some (l,()):=by
 obtain ⟨hl,hc⟩:=h
 unfold spec_l02CopyBank
 have:spec_l02CopyBank_l0 (l,()) ([],0,())=some (.inl (l,())):=by
  have:=loop_end (body:=spec_l02CopyBank_b0 (l,())) (fun n=>(l.take n,(n:Int),())) l.length (by omega) (.inl (l,())) (fun n hn=>?_) ?_
  ·unfold spec_l02CopyBank_l0
   simpa using this
  ·obtain ⟨c1,c2⟩:=hc n hn
   have hs:rSmall (List.append (α:=Col) (l.take n) (List.append (α:=Col) [] [((l.getD n zCol).1,(l.getD n zCol).2.1,(l.getD n zCol).2.2)]))=true:=small_of (by show (l.take n++([]++[_])).length≤_;rw [List.length_append,List.length_take];show _+1≤_;omega)
   unfold spec_l02CopyBank_b0
   simp only [lss_len,inR_nat,hn,decide_true,cond_true,get_nat,succ64 (n:=n) (show n < 1099511627776 by omega)]
   rw [show zILIlLIIIBl=zCol from rfl,l02Copy_eq _ _ _ c1 c2]
   simp only [Option.bind_some]
   rw [hs,take_snoc hn zCol]
   rfl
  ·unfold spec_l02CopyBank_b0
   simp only [lss_len,Nat.lt_irrefl,decide_false,cond_false,List.take_length]
 rw [this]
 rfl
end Go.Fn
set_option linter.unusedVariables false
set_option linter.unusedSimpArgs false
namespace Go.Fn
open Go.R
theorem nw_secret (a:Int):∃ b,impl_secretOk a=some (b,()):=by
 unfold impl_secretOk
 rw [within_eq]
 exact ⟨_,rfl⟩
section
variable (a0 a1 a2 a3 a4 a5 a6 a7 a8 a9 a10:Int)
theorem many_false (s:List Site) (p:List Prc) (g:List Grt) (j:List Ev) (h:3 < s.length):impl_NetworkOk a0 a1 a2 a3 a4 a5 a6 a7 a8 a9 a10 s p g j=some (false,()):=by
 have hF:inB (rLen s) 1 3=false:=by
  unfold inB rLen
  rw [decide_eq_false (show ¬ ((s.length:Int)≤3) by omega)]
  cases decide ((s.length:Int) ≥ 1) <;> rfl
 obtain ⟨b,hb⟩:=nw_secret a9
 unfold impl_NetworkOk
 refine (bindE (implTerms_eq a0 a1 a2 a3 a4 a5 a6 a7)).trans ?_
 cases termsOk a0 a1 a2 a3 a4 a5 a6 a7 with
 | false=>rfl
 | true =>
 refine (cF rfl).trans ?_
 refine (bindE (within_eq a8 0 1000)).trans ?_
 cases inB a8 0 1000 with
 | false=>rfl
 | true =>
 refine (cF rfl).trans ?_
 refine (bindE hb).trans ?_
 cases b with
 | false=>rfl
 | true =>
 refine (cF rfl).trans ?_
 refine (bindE (timeOk_eq a10)).trans ?_
 cases inB a10 0 20000 with
 | false=>rfl
 | true =>
 refine (cF rfl).trans ?_
 refine (bindE (within_eq (rLen s) 1 3)).trans ?_
 rw [hF]
 rfl
end
noncomputable def siteOf (w:Wk) (b:List Col):Site:=(w.1,w.2,b,0,0,false,false,false,0,0,[])
noncomputable def newSites (W:List Wk) (B:List (List Col)):List Site:=List.zipWith siteOf W B
theorem newSites_len {W:List Wk} {B:List (List Col)} (h:W.length=B.length):(newSites W B).length=W.length:=by
 unfold newSites
 rw [List.length_zipWith,h,Nat.min_self]
theorem newSites_get {W:List Wk} {B:List (List Col)} (h:W.length=B.length) {n:Nat} (hn:n < W.length):(newSites W B).getD n zSite=siteOf (W.getD n zLIIlLIIl) (B.getD n zLILIlLIIIBll):=by
 have h1:n < (newSites W B).length:=by rw [newSites_len h];exact hn
 rw [List.getD_eq_getElem?_getD,List.getElem?_eq_getElem h1,List.getD_eq_getElem?_getD,List.getElem?_eq_getElem hn,List.getD_eq_getElem?_getD,List.getElem?_eq_getElem (by omega:n < B.length)]
 unfold newSites
 simp only [Option.getD_some]
 exact List.getElem_zipWith
theorem newSites_le {W:List Wk} {B:List (List Col)} (h:W.length=B.length) (hl:W.length≤1048576) (hW:∀ n,n < W.length→WkLe (W.getD n zLIIlLIIl)) (hB:∀ n,n < B.length→BkLe (B.getD n zLILIlLIIIBll)):netLe (newSites W B) [] [] [] where
 ls:=by rw [newSites_len h];exact hl
 ss:=fun n hn=>by
  rw [newSites_len h] at hn
  rw [newSites_get h hn]
  exact ⟨(hW n hn).1,(hW n hn).2,(hB n (by omega)).1,(hB n (by omega)).2,Nat.zero_le _⟩
 lp:=Nat.zero_le _
 lg:=Nat.zero_le _
 lj:=Nat.zero_le _
theorem newSites_cost:∀ (W:List Wk) (B:List (List Col)),W.length=B.length→costs siteCost (newSites W B)=costs wkCost W+costs (costs colCost) B+7*W.length
 | [],[],_=>rfl
 | w::W,b::B,h=>by
  have ih:=newSites_cost W B (by simpa using h)
  unfold newSites at ih ⊢
  simp only [List.zipWith_cons_cons,costs,ih,siteCost,siteOf,wkCost,List.length_cons,List.length_nil]
  omega
abbrev NetR:=Int×Int×Int×Int×Int×Int×Int×Int×Int×Int×Int×List Site×List Prc×List Grt×List Ev×Bool×Unit
noncomputable def noNet:NetR:=(0,0,0,0,0,0,0,0,0,0,0,[],[],[],[],false,())
section
variable (a0 a1 a2 a3 a4 a5 a6 a7 a8 a9:Int) (W:List Wk) (B:List (List Col))
theorem implLoop (h:W.length=B.length) (hl:W.length≤1048576) (hW:∀ n,n < W.length→WkLe (W.getD n zLIIlLIIl)) (hB:∀ n,n < B.length→BkLe (B.getD n zLILIlLIIIBll)) :
  impl_NewNetwork_l0 (B,W,rLen W,()) (0,0,0,0,0,0,0,0,0,0,0,[],[],[],[],a0,a1,a2,a3,a4,a5,a6,a7,a8,a9,0,[],[],[],[],0,())=some (.inl (0,0,0,0,0,0,0,0,0,0,0,[],[],[],[],a0,a1,a2,a3,a4,a5,a6,a7,a8,a9,0,newSites W B,[],[],[],())):=by
 have hS:=newSites_len h
 have:=loop_end (body:=impl_NewNetwork_b0 (B,W,rLen W,())) (fun n=>(0,0,0,0,0,0,0,0,0,0,0,[],[],[],[],a0,a1,a2,a3,a4,a5,a6,a7,a8,a9,0,(newSites W B).take n,[],[],[],(n:Int),())) W.length (by omega) (.inl (0,0,0,0,0,0,0,0,0,0,0,[],[],[],[],a0,a1,a2,a3,a4,a5,a6,a7,a8,a9,0,newSites W B,[],[],[],())) (fun n hn=>?_) ?_
 ·unfold impl_NewNetwork_l0
  exact this
 ·have hn':n < (newSites W B).length:=by omega
  have hnB:n < B.length:=by omega
  have hs:rSmall (List.append (α:=Site) ((newSites W B).take n) (List.append (α:=Site) [] [siteOf (W.getD n zLIIlLIIl) (B.getD n zLILIlLIIIBll)]))=true:=small_of (by show ((newSites W B).take n++([]++[_])).length≤_;rw [List.length_append,List.length_take];show _+1≤_;omega)
  unfold impl_NewNetwork_b0
  dsimp only
  refine (cT (loX hn)).trans ?_
  refine (cT (inX hn)).trans ?_
  rw [get_nat,get_nat]
  refine (bindE (copyWeek_eq _ _ (hW n hn).1 (hW n hn).2)).trans ?_
  refine (cT (inX hnB)).trans ?_
  refine (bindE (copyBank_eq _ (hB n hnB))).trans ?_
  refine (cT hs).trans ?_
  refine (letsE (b:=(newSites W B).take (n+1)) (by rw [take_snoc hn' zSite,newSites_get h hn];rfl)).trans ?_
  simp only [succ64 (n:=n) (show n < 1099511627776 by omega)]
 ·unfold impl_NewNetwork_b0
  simp only [lss_len,Nat.lt_irrefl,decide_false,cond_false,←hS,List.take_length]
theorem specLoop (h:W.length=B.length) (hl:W.length≤1048576) (hW:∀ n,n < W.length→WkLe (W.getD n zLIIlLIIl)) (hB:∀ n,n < B.length→BkLe (B.getD n zLILIlLIIIBll)) :
  spec_NewNetwork_l0 (W,B,()) (0,0,0,0,0,0,0,0,0,0,0,[],[],[],[],a0,a1,a2,a3,a4,a5,a6,a7,a8,a9,0,[],[],[],[],0,())=some (.inl (0,0,0,0,0,0,0,0,0,0,0,[],[],[],[],a0,a1,a2,a3,a4,a5,a6,a7,a8,a9,0,newSites W B,[],[],[],())):=by
 have hS:=newSites_len h
 have:=loop_end (body:=spec_NewNetwork_b0 (W,B,())) (fun n=>(0,0,0,0,0,0,0,0,0,0,0,[],[],[],[],a0,a1,a2,a3,a4,a5,a6,a7,a8,a9,0,(newSites W B).take n,[],[],[],(n:Int),())) W.length (by omega) (.inl (0,0,0,0,0,0,0,0,0,0,0,[],[],[],[],a0,a1,a2,a3,a4,a5,a6,a7,a8,a9,0,newSites W B,[],[],[],())) (fun n hn=>?_) ?_
 ·unfold spec_NewNetwork_l0
  exact this
 ·have hn':n < (newSites W B).length:=by omega
  have hnB:n < B.length:=by omega
  have hs:rSmall (List.append (α:=Site) ((newSites W B).take n) (List.append (α:=Site) [] [siteOf (W.getD n zLIIlLIIl) (B.getD n zLILIlLIIIBll)]))=true:=small_of (by show ((newSites W B).take n++([]++[_])).length≤_;rw [List.length_append,List.length_take];show _+1≤_;omega)
  unfold spec_NewNetwork_b0
  dsimp only
  refine (cT (loX hn)).trans ?_
  refine (cT (inX hn)).trans ?_
  rw [get_nat,get_nat]
  refine (bindE (l09Week_eq _ _ (hW n hn).1 (hW n hn).2)).trans ?_
  refine (cT (inX hnB)).trans ?_
  refine (bindE (l02CopyBank_eq _ (hB n hnB))).trans ?_
  refine (cT hs).trans ?_
  refine (letsE (b:=(newSites W B).take (n+1)) (by rw [take_snoc hn' zSite,newSites_get h hn];rfl)).trans ?_
  simp only [succ64 (n:=n) (show n < 1099511627776 by omega)]
 ·unfold spec_NewNetwork_b0
  simp only [lss_len,Nat.lt_irrefl,decide_false,cond_false,←hS,List.take_length]
theorem new_both (hl:W.length≤1048576) (hW:∀ n,n < W.length→WkLe (W.getD n zLIIlLIIl)) (hB:∀ n,n < B.length→BkLe (B.getD n zLILIlLIIIBll)) :
  ∃ r:NetR,spec_NewNetwork a0 a1 a2 a3 a4 a5 a6 a7 a8 a9 W B=some r∧impl_NewNetwork a0 a1 a2 a3 a4 a5 a6 a7 a8 a9 W B=some r∧(r=noNet∨(W.length=B.length∧r=(a0,a1,a2,a3,a4,a5,a6,a7,a8,a9,0,newSites W B,[],[],[],true,()))):=by
 unfold spec_NewNetwork impl_NewNetwork
 by_cases h:W.length=B.length
 ·have n1:rCmp .neq (rLen W) (rLen B)=false:=by unfold rLen;rw [h];exact neq_self _
  have n2:rCmp .neq (rLen B) (rLen W)=false:=by unfold rLen;rw [h];exact neq_self _
  have hle:=newSites_le h hl hW hB
  have iL:=implLoop a0 a1 a2 a3 a4 a5 a6 a7 a8 a9 W B h hl hW hB
  have sL:=specLoop a0 a1 a2 a3 a4 a5 a6 a7 a8 a9 W B h hl hW hB
  rw [n1,n2]
  by_cases h3:3 < W.length
  ·have g3:rCmp .gtr (rLen W) (3:Int)=true:=by simp only [rCmp,rLen,gt_iff_lt,decide_eq_true_eq];omega
   have hm:=many_false a0 a1 a2 a3 a4 a5 a6 a7 a8 a9 0 (newSites W B) [] [] [] (by rw [newSites_len h];exact h3)
   refine ⟨noNet,?_,?_,.inl rfl⟩
   ·rw [g3];rfl
   ·refine (cF rfl).trans ((bindE iL).trans ?_)
    show ((impl_NetworkOk a0 a1 a2 a3 a4 a5 a6 a7 a8 a9 0 (newSites W B) [] [] []).bind _)=_
    refine (bindE hm).trans ?_
    rfl
  ·have g3:rCmp .gtr (rLen W) (3:Int)=false:=by simp only [rCmp,rLen,gt_iff_lt,decide_eq_false_iff_not];omega
   obtain ⟨⟨b,u⟩,s1,i1,_⟩:=network_sm a0 a1 a2 a3 a4 a5 a6 a7 a8 a9 0 (newSites W B) [] [] [] hle
   refine ⟨bif b then (a0,a1,a2,a3,a4,a5,a6,a7,a8,a9,0,newSites W B,[],[],[],true,()) else noNet,?_,?_,?_⟩
   ·rw [g3]
    refine (cF rfl).trans ((cF rfl).trans ((bindE sL).trans ?_))
    show ((spec_NetworkOk a0 a1 a2 a3 a4 a5 a6 a7 a8 a9 0 (newSites W B) [] [] []).bind _)=_
    refine (bindE s1).trans ?_
    cases b <;> rfl
   ·refine (cF rfl).trans ((bindE iL).trans ?_)
    show ((impl_NetworkOk a0 a1 a2 a3 a4 a5 a6 a7 a8 a9 0 (newSites W B) [] [] []).bind _)=_
    refine (bindE i1).trans ?_
    cases b <;> rfl
   ·cases b with
    | false=>exact .inl rfl
    | true=>exact .inr ⟨h,rfl⟩
 ·have n1:rCmp .neq (rLen W) (rLen B)=true:=by simp only [rCmp,rLen,bne_iff_ne,ne_eq];omega
  have n2:rCmp .neq (rLen B) (rLen W)=true:=by simp only [rCmp,rLen,bne_iff_ne,ne_eq];omega
  refine ⟨noNet,?_,?_,.inl rfl⟩
  ·rw [n1];rfl
  ·rw [n2];rfl
end
end Go.Fn
set_option linter.unusedVariables false
set_option linter.unusedSimpArgs false
namespace Go.Fn
open Go.R
theorem wkCost_le:∀ W:List Wk,costs wkCost W≤2*costs wkSz W
 | []=>Nat.le_refl _
 | w::W=>by
  have:=wkCost_le W
  simp only [costs,wkCost,wkSz]
  omega
theorem colCost_le:∀ l:List Col,costs colCost l≤4*bankSz l
 | []=>Nat.zero_le _
 | c::l=>by
  have:=colCost_le l
  unfold bankSz at this ⊢
  simp only [costs,colCost,colSz,List.length_cons] at this ⊢
  omega
theorem bankCost_le:∀ B:List (List Col),costs (costs colCost) B≤4*costs bankSz B
 | []=>Nat.le_refl _
 | l::B=>by
  have h1:=bankCost_le B
  have h2:=colCost_le l
  simp only [costs]
  omega
theorem bank_le {l:List Col} (h:bankSz l≤1048576):BkLe l:=by
 unfold bankSz at h
 refine ⟨by omega,fun m hm=>?_⟩
 have:=costs_get colSz zCol hm
 unfold colSz at this
 have h2:(l.getD m zCol).2.1.length+(l.getD m zCol).2.2.length≤1048576:=by
  have h3:colSz (l.getD m zCol)≤costs colSz l:=costs_get colSz zCol hm
  unfold colSz at h3
  have h4:costs (fun c:Col=>c.2.1.length+c.2.2.length) l≤1048576:=by
   have:costs (fun c:Col=>c.2.1.length+c.2.2.length) l=costs colSz l:=rfl
   omega
  exact Nat.le_trans h3 h4
 exact ⟨by omega,by omega⟩
section
variable (a0 a1 a2 a3 a4 a5 a6 a7 a8 a9:Int) (W:List Wk) (B:List (List Col))
theorem newNetwork_true (hW:W.length≤9223372036854775807) (hWw:∀ w∈W,WkWf w) (hB:B.length≤9223372036854775807) (hBw:∀ b∈B,BkWf b):laws_FnExactNewNetwork a0 a1 a2 a3 a4 a5 a6 a7 a8 a9 W B=some (true,()):=by
 unfold laws_FnExactNewNetwork
 obtain ⟨y,e1,e2⟩:=szWeekS_sum W 1048576 hW hWw (by decide) (by decide)
 refine (bindE e1).trans ?_
 rcases e2 with rfl | ⟨y0,y1⟩
 ·rfl
 refine (cF (neg_of y0)).trans ?_
 obtain ⟨z,f1,f2⟩:=szColumnSS_sum B y hB hBw y0 (by omega)
 refine (bindE f1).trans ?_
 rcases f2 with rfl | ⟨z0,z1⟩
 ·rfl
 refine (cF (neg_of z0)).trans ?_
 have hWl:W.length≤1048576:=by omega
 have hBl:B.length≤1048576:=by omega
 have hWle:∀ n,n < W.length→WkLe (W.getD n zLIIlLIIl):=fun n hn=>by
  have h1:wkSz (W.getD n zLIIlLIIl)≤costs wkSz W:=costs_get wkSz zLIIlLIIl hn
  have h2:wkSz (W.getD n zLIIlLIIl)≤1048576:=by omega
  unfold wkSz at h2
  exact ⟨by omega,by omega⟩
 have hBle:∀ n,n < B.length→BkLe (B.getD n zLILIlLIIIBll):=fun n hn=>by
  have h1:bankSz (B.getD n zLILIlLIIIBll)≤costs bankSz B:=costs_get bankSz zLILIlLIIIBll hn
  exact bank_le (by omega)
 have c1:=wkCost_le W
 have c2:=bankCost_le B
 have tW:=toWeekS_eq W (by omega) hWle
 have tB:=toColumnSS_eq B (by omega) hBle
 have qW:=eqWeekS_self W (by omega) hWle
 have qB:=eqColumnSS_self B (by omega) hBle
 have kW:=markWeekS_eq W 1 (by omega) hWle (by decide) (by omega)
 have kb:=goM_bd mkWk_bd W 1
 have kB:=markColumnSS_eq B (goM mkWk W 1).2 (by omega) hBle (by omega) (by omega)
 have kc:=goM_bd (mk:=fun q x=>goM mkCol x q) (cost:=costs colCost) (fun q x=>goM_bd mkCol_bd x q) B (goM mkWk W 1).2
 have kn:rCmp .lss (goM (fun q x=>goM mkCol x q) B (goM mkWk W 1).2).2 0=false:=neg_of (by omega)
 obtain ⟨r,s1,i1,hr⟩:=new_both a0 a1 a2 a3 a4 a5 a6 a7 a8 a9 W B hWl hWle hBle
 have key:∀ (S:List Site) (ok:Bool) (b0 b1 b2 b3 b4 b5 b6 b7 b8 b9:Int),netLe S [] [] []→netCost S [] [] []≤137438953471→r=(b0,b1,b2,b3,b4,b5,b6,b7,b8,b9,0,S,[],[],[],ok,()) →
   laws_eqNetwork r.1 r.2.1 r.2.2.1 r.2.2.2.1 r.2.2.2.2.1 r.2.2.2.2.2.1 r.2.2.2.2.2.2.1 r.2.2.2.2.2.2.2.1 r.2.2.2.2.2.2.2.2.1 r.2.2.2.2.2.2.2.2.2.1 r.2.2.2.2.2.2.2.2.2.2.1 r.2.2.2.2.2.2.2.2.2.2.2.1 r.2.2.2.2.2.2.2.2.2.2.2.2.1 r.2.2.2.2.2.2.2.2.2.2.2.2.2.1 r.2.2.2.2.2.2.2.2.2.2.2.2.2.2.1
    r.1 r.2.1 r.2.2.1 r.2.2.2.1 r.2.2.2.2.1 r.2.2.2.2.2.1 r.2.2.2.2.2.2.1 r.2.2.2.2.2.2.2.1 r.2.2.2.2.2.2.2.2.1 r.2.2.2.2.2.2.2.2.2.1 r.2.2.2.2.2.2.2.2.2.2.1 r.2.2.2.2.2.2.2.2.2.2.2.1 r.2.2.2.2.2.2.2.2.2.2.2.2.1 r.2.2.2.2.2.2.2.2.2.2.2.2.2.1 r.2.2.2.2.2.2.2.2.2.2.2.2.2.2.1=some (true,()) ∧
   ∃ (m:Int) (s':List Site) (p':List Prc) (g':List Grt) (j':List Ev),0≤m∧laws_markNetwork r.1 r.2.1 r.2.2.1 r.2.2.2.1 r.2.2.2.2.1 r.2.2.2.2.2.1 r.2.2.2.2.2.2.1 r.2.2.2.2.2.2.2.1 r.2.2.2.2.2.2.2.2.1 r.2.2.2.2.2.2.2.2.2.1 r.2.2.2.2.2.2.2.2.2.2.1 r.2.2.2.2.2.2.2.2.2.2.2.1 r.2.2.2.2.2.2.2.2.2.2.2.2.1 r.2.2.2.2.2.2.2.2.2.2.2.2.2.1 r.2.2.2.2.2.2.2.2.2.2.2.2.2.2.1 1=some (m,s',p',g',j',()) ∧
    laws_heldNetwork r.1 r.2.1 r.2.2.1 r.2.2.2.1 r.2.2.2.2.1 r.2.2.2.2.2.1 r.2.2.2.2.2.2.1 r.2.2.2.2.2.2.2.1 r.2.2.2.2.2.2.2.2.1 r.2.2.2.2.2.2.2.2.2.1 r.2.2.2.2.2.2.2.2.2.2.1 s' p' g' j' 1=some (m,()):=by
  intro S ok b0 b1 b2 b3 b4 b5 b6 b7 b8 b9 hle hcost e
  subst e
  exact ⟨eqNetwork_self b0 b1 b2 b3 b4 b5 b6 b7 b8 b9 0 S [] [] [] hle,nmE 1 S [] [] [],(nmS 1 S).1,(nmP 1 S []).1,(nmG 1 S [] []).1,marksE (nmG 1 S [] []).2 0,nmE_nonneg S [] [] [] 1 (by decide),
   markNetwork_eq b0 b1 b2 b3 b4 b5 b6 b7 b8 b9 0 S [] [] [] 1 hle (by decide) (by omega),heldNetwork_eq b0 b1 b2 b3 b4 b5 b6 b7 b8 b9 0 S [] [] [] 1 hle (by decide) (by omega)⟩
 have all:∃ (S:List Site) (ok:Bool) (b0 b1 b2 b3 b4 b5 b6 b7 b8 b9:Int),netLe S [] [] []∧netCost S [] [] []≤137438953471∧r=(b0,b1,b2,b3,b4,b5,b6,b7,b8,b9,0,S,[],[],[],ok,()):=by
  rcases hr with hr | ⟨hlen,hr⟩
  ·exact ⟨[],false,0,0,0,0,0,0,0,0,0,0,⟨Nat.zero_le _,fun n hn=>absurd hn (Nat.not_lt_zero _),Nat.zero_le _,Nat.zero_le _,Nat.zero_le _⟩,by decide,hr⟩
  ·refine ⟨newSites W B,true,a0,a1,a2,a3,a4,a5,a6,a7,a8,a9,newSites_le hlen hWl hWle hBle,?_,hr⟩
   unfold netCost
   rw [newSites_cost W B hlen]
   simp only [List.length_nil]
   omega
 obtain ⟨S,ok,b0,b1,b2,b3,b4,b5,b6,b7,b8,b9,k1,k2,k3⟩:=all
 have all:=key S ok b0 b1 b2 b3 b4 b5 b6 b7 b8 b9 k1 k2 k3
 obtain ⟨qe,m,s',p',g',j',m0,me,he⟩:=all
 have mn:rCmp .lss m 0=false:=neg_of m0
 simp only [toTerms_eq,tW,tB,s1,i1,qW,qB,kW,kB,kn,qe,me,he,mn,Option.bind_some,rBeq_self,neq_self,Bool.not_true,cond_false]
end
end Go.Fn
