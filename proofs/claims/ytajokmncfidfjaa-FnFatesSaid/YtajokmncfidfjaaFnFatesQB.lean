import Derived.Test.YtajokmncfidfjaaFnFatesQA
/- Plain functions that stand for Go functions, and what they answer. Conditions: none. -/
set_option autoImplicit false
set_option linter.unusedVariables false
set_option linter.unusedSimpArgs false
set_option linter.unusedSimpArgs false
set_option linter.unusedVariables false
namespace Go.Fn
open Go.R Go.Sort
theorem OZ{α:Type}(d:Array α)(i:Nat):ah d.toList (i:Int)=decide (i<d.size):=by rw[ax,Array.length_toList]
theorem Qp{α:Type}(d:Array α)(i j:Nat)(x:α):ah (aC d.toList (i:Int) x) (j:Int)=decide (j<d.size):=by rw[aQ,jt,Array.length_toList]
section
variable {α:Type} [Inhabited α] {lt:α->α->Bool}
theorem gA(d:Array α)(i:Nat):ae default d.toList (i:Int)=d[i]!:=by rw[ak,List.getD_eq_getElem?_getD,getElem!_def,<-Array.getElem?_toList];cases d.toList[i]? <;> rfl
theorem QC(d:Array α)(i j:Nat):aC (aC d.toList (i:Int) d[j]!) (j:Int) d[i]! = (swp d i j).toList:=by rw[aQ,aQ];unfold swp;rw[Array.toList_setIfInBounds,Array.toList_setIfInBounds]
theorem aS{n m:Nat}(h:n+m<1099511627776):aa .add .i64 (n:Int) (m:Int)=((n+m:Nat):Int):=by rw[bU] <;> omega
theorem sS{n m:Nat}(h:m<=n)(h2:n<1099511627776):aa .sub .i64 (n:Int) (m:Int)=((n-m:Nat):Int):=by rw[bM] <;> omega
theorem mS{n m:Nat}(h:n*m<1099511627776):aa .mul .i64 (n:Int) (m:Int)=((n*m:Nat):Int):=by
 rw[iY]
 ·rw[Int.natCast_mul]
 ·rw[<-Int.natCast_mul];omega
 ·rw[<-Int.natCast_mul];omega
theorem qS(n m:Nat)(h:n<1099511627776):aa .quo .i64 (n:Int) (m:Int)=((n / m:Nat):Int):=by have h2:n / m<=n:=Nat.div_le_self n m;have e:aa .quo .i64 (n:Int) (m:Int)=IntKind.i64.wrap ((n:Int).tdiv (m:Int)):=rfl;rw[e,show((n:Int).tdiv (m:Int))=((n / m:Nat):Int)from rfl];generalize n / m=c at h2⊢;exact zx (by omega) (by omega)
theorem QA(n m:Nat):af .gtr (n:Int) (m:Int)=decide (n>m):=by simp[af]
theorem Of(n m:Nat):af .lss (n:Int) (m:Int)=decide (n<m):=by simp[af]
theorem Q8(n m:Nat):af .geq (n:Int) (m:Int)=decide (n>=m):=by simp[af]
theorem QO(n m:Nat):af .leq (n:Int) (m:Int)=decide (n<=m):=by simp[af]
theorem S7(n m:Nat):af .eql (n:Int) (m:Int)=decide (n=m):=by
 simp only[af];by_cases h:n=m
 ·subst h;simp
 ·rw[decide_eq_false h];simp;omega
theorem M4(lt:α->α->Bool)(a:Nat):∀j (d:Array α),(insInner lt a j d).size=d.size
 |0,_=>rfl
 |j+1,d=>by
  unfold insInner;split
  ·rw[M4 lt a j,size_swp]
  ·rfl
theorem one:(1:Int)=((1:Nat):Int):=rfl
theorem U8(a b i:Nat):∀(j:Nat) (d:Array α) (n:Nat),j<d.size->d.size<=255->j<n->iter (Ke lt ((a:Int),(b:Int),(i:Int),())) n (d.toList,(j:Int),())=some (.inl ((insInner lt a j d).toList,())):=by
 intro j;induction j with
 |zero=>
  intro d n hj hd hn;obtain⟨n,rfl⟩:∃m,n=m+1:=⟨n-1,by omega⟩
  refine av ?_;unfold Ke insInner;simp only[QA,show ¬(0>a)by omega,decide_false,cond_false]
 |succ j ih=>
  intro d n hj hd hn;obtain⟨n,rfl⟩:∃m,n=m+1:=⟨n-1,by omega⟩
  have e1:aa .sub .i64 ((j+1:Nat):Int) (1:Int)=(j:Int):=iD (by omega);unfold insInner;by_cases h:j+1>a
  ·cases hl:lt d[j+1]! d[j]! with
   |true=>simp only[h,decide_true,Bool.true_and,if_true];rw[<-ih (swp d (j+1) j) n (by rw[size_swp];omega) (by rw[size_swp];omega) (by omega)];refine aF ?_;unfold Ke;simp only[QA,h,decide_true,cond_true,e1,OZ,gA,Qp,hj,show j<d.size by omega,Option.bind_some,hl,QC]
   |false=>simp only[Bool.and_false,Bool.false_eq_true,if_false];refine av ?_;unfold Ke;simp only[QA,h,decide_true,cond_true,e1,OZ,gA,hj,show j<d.size by omega,Option.bind_some,hl,cond_false]
  ·simp only[h,decide_false,Bool.false_and,Bool.false_eq_true,if_false];refine av ?_;unfold Ke;simp only[QA,h,decide_false,cond_false]
theorem Uq(a b:Nat)(hb:b<=255):∀(k i:Nat) (d:Array α) (n:Nat),b-i<=k->b<=d.size->d.size<=255->i<=256->k<n->iter (KO lt ((a:Int),(b:Int),())) n (d.toList,(i:Int),())=some (.inl ((insOuter lt a b i d).toList,())):=by
 intro k;induction k with
 |zero=>
  intro i d n hk hbd hd hi hn;obtain⟨n,rfl⟩:∃m,n=m+1:=⟨n-1,by omega⟩
  refine av ?_;unfold KO insOuter;simp only[Of,show ¬(i<b)by omega,decide_false,cond_false,if_false]
 |succ k ih=>
  intro i d n hk hbd hd hi hn;obtain⟨n,rfl⟩:∃m,n=m+1:=⟨n-1,by omega⟩
  unfold insOuter;by_cases h:i<b
  ·simp only[h,if_true];rw[<-ih (i+1) (insInner lt a i d) n (by omega) (by rw[M4];omega) (by rw[M4];omega) (by omega) (by omega)];refine aF ?_;unfold KO Mv;simp only[Of,h,decide_true,cond_true,U8 a b i i d big (by omega) hd (aN (by omega)),Option.bind_some,Sum.elim_inl,au (n:=i) (by omega)]
  ·simp only[h,if_false];refine av ?_;unfold KO;simp only[Of,h,decide_false,cond_false]
theorem UE(d:Array α)(a b:Nat)(hab:a<=b)(hb:b<=d.size)(hd:d.size<=255):My lt d.toList (a:Int) (b:Int)=some ((insertionSort lt d a b).toList,()):=by unfold My Mu insertionSort;simp only[au (n:=a) (by omega),Uq (lt:=lt) a b (by omega) 256 (a+1) d big (by omega) hb hd (by omega) (aN (by omega)),Option.bind_some,Sum.elim_inl]
theorem QU(lt:α->α->Bool)(hi first:Nat):∀(k root:Nat) (d:Array α),hi-root<=k->(siftDown lt hi first root d).size=d.size:=by
 intro k;induction k with
 |zero=>intro root d hk;unfold siftDown;rw[dif_pos (by omega)]
 |succ k ih=>
  intro root d hk;unfold siftDown;repeat' split
  all_goals first|rfl|(rw[ih _ _ (by omega),size_swp])
theorem UD(hi first:Nat):∀(k root:Nat) (d:Array α) (n:Nat),hi-root<=k->first+hi<=d.size->first+root<=255->d.size<=255->k<n->∃q,iter (Kh lt ((hi:Int),(first:Int),())) n (d.toList,(root:Int),())=some q/\(q=.inl ((siftDown lt hi first root d).toList,())\/q=.inr (.inl ((siftDown lt hi first root d).toList,()))):=by
 intro k;induction k with
 |zero=>
  intro root d n hk hf hr hd hn;obtain⟨n,rfl⟩:∃m,n=m+1:=⟨n-1,by omega⟩
  refine⟨_,av ?_,.inl rfl⟩;unfold Kh siftDown;rw[dif_pos (by omega)];have e1:aa .mul .i64 (2:Int) (root:Int)=((2*root:Nat):Int):=mS (n:=2) (by omega);simp only[e1,au (n:=2*root) (by omega),Q8,show 2*root+1>=hi by omega,decide_true,cond_true]
 |succ k ih=>
  intro root d n hk hf hr hd hn;obtain⟨n,rfl⟩:∃m,n=m+1:=⟨n-1,by omega⟩
  have e1:aa .mul .i64 (2:Int) (root:Int)=((2*root:Nat):Int):=mS (n:=2) (by omega);have e2:aa .add .i64 (first:Int) (root:Int)=((first+root:Nat):Int):=aS (by omega);have e3:aa .add .i64 ((2*root:Nat):Int) (1:Int)=((2*root+1:Nat):Int):=au (by omega);have e4:aa .add .i64 ((2*root+1:Nat):Int) (1:Int)=((2*root+2:Nat):Int):=au (by omega);have e5:aa .add .i64 (first:Int) ((2*root+1:Nat):Int)=((first+(2*root+1):Nat):Int):=aS (by omega);have e6:aa .add .i64 (first:Int) ((2*root+2:Nat):Int)=((first+(2*root+2):Nat):Int):=aS (by omega);have e7:aa .add .i64 ((first+(2*root+1):Nat):Int) (1:Int)=((first+(2*root+1)+1:Nat):Int):=au (by omega);by_cases h1:2*root+1>=hi
  ·refine⟨_,av ?_,.inl rfl⟩;unfold Kh siftDown;rw[dif_pos h1];simp only[e1,e3,Q8,h1,decide_true,cond_true]
  ·have i1:first+(2*root+1)<d.size:=by omega
   have i2:first+root<d.size:=by omega
   unfold siftDown;rw[dif_neg h1];by_cases h2:2*root+2<hi
   ·have i3:first+(2*root+2)<d.size:=by omega
    have i4:first+(2*root+1)+1<d.size:=by omega
    cases h3:lt d[first+(2*root+1)]! d[first+(2*root+1)+1]! with
    |true=>
     cases h4:lt d[first+root]! d[first+(2*root+2)]! with
     |false=>refine⟨_,av ?_,.inr rfl⟩;unfold Kh;simp only[e1,e2,e3,e4,e5,e6,e7,Q8,Of,h1,h2,decide_true,decide_false,cond_true,cond_false,OZ,gA,i1,i2,i3,i4,Option.bind_some,h3,h4,Bool.not_false,Bool.true_and,if_true]
     |true=>
      obtain⟨q,hq,l7⟩:=ih (2*root+2) (swp d (first+root) (first+(2*root+2))) n (by omega) (by rw[size_swp];omega) (by omega) (by rw[size_swp];omega) (by omega);refine⟨q,?_,?_⟩
      ·rw[<-hq];refine aF ?_;unfold Kh;simp only[e1,e2,e3,e4,e5,e6,e7,Q8,Of,h1,h2,decide_true,decide_false,cond_true,cond_false,OZ,gA,Qp,i1,i2,i3,i4,Option.bind_some,h3,h4,Bool.not_true,QC,aR]
      ·simp only[h2,decide_true,Bool.true_and,if_true,Bool.not_true,Bool.false_eq_true,if_false,dite_true];exact l7
    |false=>
     simp only[Bool.and_false,Bool.false_eq_true,if_false];cases h4:lt d[first+root]! d[first+(2*root+1)]! with
     |false=>refine⟨_,av ?_,.inr rfl⟩;unfold Kh;simp only[e1,e2,e3,e4,e5,e6,e7,Q8,Of,h1,h2,decide_true,decide_false,cond_true,cond_false,OZ,gA,i1,i2,i3,i4,Option.bind_some,h3,h4,Bool.not_false,if_true]
     |true=>
      obtain⟨q,hq,l7⟩:=ih (2*root+1) (swp d (first+root) (first+(2*root+1))) n (by omega) (by rw[size_swp];omega) (by omega) (by rw[size_swp];omega) (by omega);refine⟨q,?_,?_⟩
      ·rw[<-hq];refine aF ?_;unfold Kh;simp only[e1,e2,e3,e4,e5,e6,e7,Q8,Of,h1,h2,decide_true,decide_false,cond_true,cond_false,OZ,gA,Qp,i1,i2,i3,i4,Option.bind_some,h3,h4,Bool.not_true,QC,aR]
      ·simp only[Bool.not_true,Bool.false_eq_true,if_false];exact l7
   ·simp only[show ¬(2*root+1+1<hi)from h2,decide_false,Bool.false_and,Bool.false_eq_true,if_false];cases h4:lt d[first+root]! d[first+(2*root+1)]! with
    |false=>refine⟨_,av ?_,.inr rfl⟩;unfold Kh;simp only[e1,e2,e3,e4,e5,e6,e7,Q8,Of,h1,h2,decide_true,decide_false,cond_true,cond_false,OZ,gA,i1,i2,Option.bind_some,h4,Bool.not_false,if_true]
    |true=>
     obtain⟨q,hq,l7⟩:=ih (2*root+1) (swp d (first+root) (first+(2*root+1))) n (by omega) (by rw[size_swp];omega) (by omega) (by rw[size_swp];omega) (by omega);refine⟨q,?_,?_⟩
     ·rw[<-hq];refine aF ?_;unfold Kh;simp only[e1,e2,e3,e4,e5,e6,e7,Q8,Of,h1,h2,decide_true,decide_false,cond_true,cond_false,OZ,gA,Qp,i1,i2,Option.bind_some,h4,Bool.not_true,QC,aR]
     ·simp only[Bool.not_true,Bool.false_eq_true,if_false];exact l7
theorem RH(d:Array α)(root hi first:Nat)(hf:first+hi<=d.size)(hr:first+root<=255)(hd:d.size<=255):NP lt d.toList (root:Int) (hi:Int) (first:Int)=some ((siftDown lt hi first root d).toList,()):=by unfold NP N2;obtain⟨q,hq,rfl|rfl⟩:=UD (lt:=lt) hi first 256 root d big (by omega) hf hr hd (aN (by omega)) <;> rw[hq] <;> rfl
end
end Go.Fn
set_option linter.unusedSimpArgs false
set_option linter.unusedVariables false
namespace Go.Fn
open Go.R Go.Sort
section
variable {α:Type} [Inhabited α] {lt:α->α->Bool}
theorem Qi(lt:α->α->Bool)(hi first root:Nat)(d:Array α):(siftDown lt hi first root d).size=d.size:=QU lt hi first (hi-root) root d (Nat.le_refl _)
theorem XT(n:Nat):af .geq (n:Int) (0:Int)=true:=by simp[af]
theorem VN:af .geq (-1:Int) (0:Int)=false:=rfl
theorem QF {X Y S:Type} {body:X->Option (X⊕Y)} (st:S->Int->X) (fin:S->Y) (f:Nat->S->S) (Inv:S->Prop) (top:Nat) (YY:top<=1000)
  (hs:∀i s,i<top->Inv s->body (st s (i:Int))=some (.inl (st (f i s) (aa .sub .i64 (i:Int) 1)))/\Inv (f i s)) (he:∀s,body (st s (-1))=some (.inr (fin s))):
  ∀(k:Nat) (s:S) (n:Nat),k<=top->k<n->Inv s->iter body n (st s ((k:Int)-1))=some (fin (k.rec (motive:=fun _=>S->S) (fun s=>s) (fun k r s=>r (f k s)) s)):=by
 intro k;induction k with
 |zero=>
  intro s n _ hn _;obtain⟨n,rfl⟩:∃m,n=m+1:=⟨n-1,by omega⟩
  exact av (he s)
 |succ k ih=>
  intro s n hk hn hi;obtain⟨n,rfl⟩:∃m,n=m+1:=⟨n-1,by omega⟩
  obtain⟨h1,h2⟩:=hs k s (by omega) hi;rw[show((k+1:Nat):Int)-1=(k:Int)by omega,aF h1];have e:aa .sub .i64 (k:Int) 1=(k:Int)-1:=bM (by omega) (by omega);rw[e];exact ih (f k s) n (by omega) (by omega) h2
theorem PR(hi first:Nat):∀k (d:Array α),heapBuild lt hi first k d=k.rec (motive:=fun _=>Array α->Array α) (fun s=>s) (fun k r s=>r (siftDown lt hi first k s)) d
 |0,_=>rfl
 |k+1,d=>by rw[heapBuild,PR hi first k]
theorem Qo(first:Nat):∀k (d:Array α),heapPop lt first k d=k.rec (motive:=fun _=>Array α->Array α) (fun s=>s) (fun k r s=>r (siftDown lt k first 0 (swp s first (first+k)))) d
 |0,_=>rfl
 |k+1,d=>by rw[heapPop,Qo first k]
theorem Ps(hi first:Nat):∀k (d:Array α),(heapBuild lt hi first k d).size=d.size
 |0,_=>rfl
 |k+1,d=>by rw[heapBuild,Ps hi first k,Qi]
theorem TJ(d:Array α)(a b:Nat)(hab:a<b)(hb:b<=d.size)(hd:d.size<=255):OB lt d.toList (a:Int) (b:Int)=some ((heapSort lt d a b).toList,()):=by
 unfold OB N0 N1 heapSort;have z:az (2:Int)=false:=rfl;have e1:aa .sub .i64 (b:Int) (a:Int)=((b-a:Nat):Int):=sS (by omega) (by omega);have e2:aa .sub .i64 ((b-a:Nat):Int) 1=((b-a-1:Nat):Int):=sS (m:=1) (by omega) (by omega);have e3:aa .quo .i64 ((b-a-1:Nat):Int) (2:Int)=(((b-a-1) / 2:Nat):Int):=qS _ 2 (by omega);have hq:(b-a-1) / 2<=255:=by omega
 have l0:=QF (body:=MD lt ((a:Int),(0:Int),((b-a:Nat):Int),())) (fun(s:Array α) (i:Int)=>(s.toList,i,())) (fun s=>.inl (s.toList,())) (fun i s=>siftDown lt (b-a) a i s) (fun s=>s.size=d.size) ((b-a-1) / 2+1) (by omega) (fun i s hi hs=>⟨by
  unfold MD;simp only[XT,cond_true,RH (lt:=lt) s i (b-a) a (by omega) (by omega) (by omega),Option.bind_some],by rw[Qi];exact hs⟩) (fun s=>by
  unfold MD;simp only[VN,cond_false]) ((b-a-1) / 2+1) d big (by omega) (aN (by omega)) rfl
 rw[<-PR,show(((b-a-1) / 2+1:Nat):Int)-1=(((b-a-1) / 2:Nat):Int)by omega]at l0;have l2:=QF (body:=ME lt ((a:Int),(0:Int),())) (fun(s:Array α) (i:Int)=>(s.toList,i,())) (fun s=>.inl (s.toList,())) (fun i s=>siftDown lt i a 0 (swp s a (a+i))) (fun s=>s.size=d.size) (b-a) (by omega) (fun i s hi hs=>⟨by
  unfold ME;have e4:aa .add .i64 (a:Int) (i:Int)=((a+i:Nat):Int):=aS (by omega);have e5:=RH (lt:=lt) (swp s a (a+i)) 0 i a (by rw[size_swp];omega) (by omega) (by rw[size_swp];omega);simp only[XT,cond_true,e4,OZ,gA,Qp,QC,show a+i<s.size by omega,show a<s.size by omega,decide_true];rw[show(0:Int)=((0:Nat):Int)from rfl,e5];rfl,by rw[Qi,size_swp];exact hs⟩) (fun s=>by
  unfold ME;simp only[VN,cond_false]) (b-a) (heapBuild lt (b-a) a ((b-a-1) / 2+1) d) big (Nat.le_refl _) (aN (by omega)) (Ps _ _ _ _)
 rw[<-Qo,show((b-a:Nat):Int)-1=((b-a-1:Nat):Int)by omega]at l2;have hbd:heapBuild lt (b-a) a ((b-a-1) / 2) (siftDown lt (b-a) a ((b-a-1) / 2) d)=heapBuild lt (b-a) a ((b-a-1) / 2+1) d:=rfl;simp only[z,cond_false,e1,e2,e3,l0,Option.bind_some,Sum.elim_inl,hbd,l2]
theorem Sy{X Y:Type}{body:X->Option (X⊕Y)}(st:Nat->X)(fin:Nat->Y)(p:α->Bool)(d:Array α)(j:Nat)(hs:∀i,i<=256->body (st i)=some (bif decide (i<=j)&&p d[i]! then .inl (st (i+1))else .inr (fin i)))(hj:j<=255):
  ∀(k i n:Nat),j+1-i<=k->i<=256->k<n->iter body n (st i)=some (fin (scanUp p d j i)):=by
 intro k;induction k with
 |zero=>
  intro i n hk hi hn;obtain⟨n,rfl⟩:∃m,n=m+1:=⟨n-1,by omega⟩
  have h:¬(i<=j):=by omega
  unfold scanUp;simp only[h,decide_false,Bool.false_and,Bool.false_eq_true,if_false];refine av ?_;rw[hs i hi];simp only[h,decide_false,Bool.false_and,cond_false]
 |succ k ih=>
  intro i n hk hi hn;obtain⟨n,rfl⟩:∃m,n=m+1:=⟨n-1,by omega⟩
  unfold scanUp;have h1:=hs i hi;cases hc:(decide (i<=j)&&p d[i]!)with
  |true=>rw[hc]at h1;have:i<=j:=of_decide_eq_true (Bool.and_eq_true _ _▸hc).1;simp only[if_true];rw[aF h1];exact ih (i+1) n (by omega) (by omega) (by omega)
  |false=>rw[hc]at h1;simp only[Bool.false_eq_true,if_false];exact av h1
theorem Q5{X Y:Type}{body:X->Option (X⊕Y)}(st:Nat->X)(fin:Nat->Y)(p:α->Bool)(d:Array α)(i:Nat)(hi:0<i)(hs:∀j,j<=255->j<d.size->body (st j)=some (bif decide (i<=j)&&p d[j]! then .inl (st (j-1))else .inr (fin j))):
  ∀(j n:Nat),j<d.size->j<=255->j<n->iter body n (st j)=some (fin (scanDown p d i j)):=by
 intro j;induction j with
 |zero=>
  intro n hj Um hn;obtain⟨n,rfl⟩:∃m,n=m+1:=⟨n-1,by omega⟩
  refine av ?_;rw[hs 0 (by omega) hj];simp only[show ¬(i<=0)by omega,decide_false,Bool.false_and,cond_false,scanDown]
 |succ j ih=>
  intro n hj Um hn;obtain⟨n,rfl⟩:∃m,n=m+1:=⟨n-1,by omega⟩
  unfold scanDown;have h1:=hs (j+1) Um hj;cases hc:(decide (i<=j+1)&&p d[j+1]!)with
  |true=>rw[hc]at h1;simp only[if_true];rw[aF h1];exact ih n (by omega) (by omega) (by omega)
  |false=>rw[hc]at h1;simp only[Bool.false_eq_true,if_false];exact av h1
section
variable (d:Array α) (a:Nat) (hd:d.size<=255) (ha:a<d.size)
include hd ha
theorem Ye(j i:Nat)(hj:j<d.size)(hi:i<=256):Nk lt ((a:Int),(j:Int),()) (d.toList,(i:Int),())=some (.inl (d.toList,((scanUp (fun x=>lt x d[a]!) d j i:Nat):Int),())):=by
 refine Sy (body:=MO lt ((a:Int),(j:Int),())) (fun i=>(d.toList,(i:Int),())) (fun i=>Sum.inl (d.toList,(i:Int),())) (fun x=>lt x d[a]!) d j (fun i hi=>?_) (by omega) 256 i big (by omega) hi (aN (by omega));unfold MO;by_cases h:i<=j
 ·simp only[QO,h,decide_true,cond_true,OZ,gA,show i<d.size by omega,ha,Option.bind_some,Bool.true_and,au (n:=i) (by omega)];cases lt d[i]! d[a]! <;> rfl
 ·simp only[QO,h,decide_false,cond_false,Bool.false_and]
theorem WR(j i:Nat)(hj:j<d.size)(hi:i<=256):Np lt ((a:Int),(j:Int),()) (d.toList,(i:Int),())=some (.inl (d.toList,((scanUp (fun x=>lt x d[a]!) d j i:Nat):Int),())):=Ye d a hd ha j i hj hi
theorem Yf(i j:Nat)(hi:0<i)(hj:j<d.size):Nl lt ((a:Int),(i:Int),()) (d.toList,(j:Int),())=some (.inl (d.toList,((scanDown (fun x=>!lt x d[a]!) d i j:Nat):Int),())):=by
 refine Q5 (body:=MP lt ((a:Int),(i:Int),())) (fun i=>(d.toList,(i:Int),())) (fun i=>Sum.inl (d.toList,(i:Int),())) (fun x=>!lt x d[a]!) d i hi (fun j hj Um=>?_) j big hj (by omega) (aN (by omega));unfold MP;by_cases h:i<=j
 ·have e:aa .sub .i64 (j:Int) 1=((j-1:Nat):Int):=sS (m:=1) (by omega) (by omega);simp only[QO,h,decide_true,cond_true,OZ,gA,Um,ha,Option.bind_some,Bool.true_and,e];cases lt d[j]! d[a]! <;> rfl
 ·simp only[QO,h,decide_false,cond_false,Bool.false_and]
theorem WS(i j:Nat)(hi:0<i)(hj:j<d.size):Nq lt ((a:Int),(i:Int),()) (d.toList,(j:Int),())=some (.inl (d.toList,((scanDown (fun x=>!lt x d[a]!) d i j:Nat):Int),())):=Yf d a hd ha i j hi hj
theorem WO(j i:Nat)(hj:j<d.size)(hi:i<=256):Mc lt ((a:Int),(j:Int),()) (d.toList,(i:Int),())=some (.inl (d.toList,((scanUp (fun x=>!lt d[a]! x) d j i:Nat):Int),())):=by
 refine Sy (body:=Lu lt ((a:Int),(j:Int),())) (fun i=>(d.toList,(i:Int),())) (fun i=>Sum.inl (d.toList,(i:Int),())) (fun x=>!lt d[a]! x) d j (fun i hi=>?_) (by omega) 256 i big (by omega) hi (aN (by omega));unfold Lu;by_cases h:i<=j
 ·simp only[QO,h,decide_true,cond_true,OZ,gA,show i<d.size by omega,ha,Option.bind_some,Bool.true_and,au (n:=i) (by omega)];cases lt d[a]! d[i]! <;> rfl
 ·simp only[QO,h,decide_false,cond_false,Bool.false_and]
theorem WQ(i j:Nat)(hi:0<i)(hj:j<d.size):Me lt ((a:Int),(i:Int),()) (d.toList,(j:Int),())=some (.inl (d.toList,((scanDown (fun x=>lt d[a]! x) d i j:Nat):Int),())):=by
 refine Q5 (body:=Lv lt ((a:Int),(i:Int),())) (fun i=>(d.toList,(i:Int),())) (fun i=>Sum.inl (d.toList,(i:Int),())) (fun x=>lt d[a]! x) d i hi (fun j hj Um=>?_) j big hj (by omega) (aN (by omega));unfold Lv;by_cases h:i<=j
 ·have e:aa .sub .i64 (j:Int) 1=((j-1:Nat):Int):=sS (m:=1) (by omega) (by omega);simp only[QO,h,decide_true,cond_true,OZ,gA,Um,ha,Option.bind_some,Bool.true_and,e];cases lt d[a]! d[j]! <;> rfl
 ·simp only[QO,h,decide_false,cond_false,Bool.false_and]
end
theorem SX(a:Nat):∀(k i j:Nat) (d:Array α) (n:Nat),j+1-i<=k->d.size<=255->a<d.size->0<i->i<=256->j<d.size->k<n->iter (KW lt ((a:Int),())) n (d.toList,(i:Int),(j:Int),())=some (.inl ((partLoop lt a i j d).2.toList,(((partLoop lt a i j d).1:Nat):Int),())):=by
 intro k;induction k with
 |zero=>
  intro i j d n hk hd ha hi lI hj hn;obtain⟨n,rfl⟩:∃m,n=m+1:=⟨n-1,by omega⟩
  rw[partLoop_eq];have h1:=scanUp_ge (fun x=>lt x d[a]!) d j i;have h2:=scanDown_le (fun x=>!lt x d[a]!) d (scanUp (fun x=>lt x d[a]!) d j i) j;have h:scanUp (fun x=>lt x d[a]!) d j i>scanDown (fun x=>!lt x d[a]!) d (scanUp (fun x=>lt x d[a]!) d j i) j:=by omega
  rw[if_pos h];refine av ?_;unfold KW;simp only[WR (lt:=lt) d a hd ha j i hj lI,Option.bind_some,Sum.elim_inl,WS (lt:=lt) d a hd ha (scanUp (fun x=>lt x d[a]!) d j i) j (by omega) hj,QA,h,decide_true,cond_true]
 |succ k ih=>
  intro i j d n hk hd ha hi lI hj hn;obtain⟨n,rfl⟩:∃m,n=m+1:=⟨n-1,by omega⟩
  rw[partLoop_eq];have h1:=scanUp_ge (fun x=>lt x d[a]!) d j i;have h2:=scanDown_le (fun x=>!lt x d[a]!) d (scanUp (fun x=>lt x d[a]!) d j i) j;have hr:iter (KW lt ((a:Int),())) (n+1) (d.toList,(i:Int),(j:Int),())=iter (KW lt ((a:Int),())) (n+1) (d.toList,(i:Int),(j:Int),()):=rfl;by_cases h:scanUp (fun x=>lt x d[a]!) d j i>scanDown (fun x=>!lt x d[a]!) d (scanUp (fun x=>lt x d[a]!) d j i) j
  ·rw[if_pos h];refine av ?_;unfold KW;simp only[WR (lt:=lt) d a hd ha j i hj lI,Option.bind_some,Sum.elim_inl,WS (lt:=lt) d a hd ha (scanUp (fun x=>lt x d[a]!) d j i) j (by omega) hj,QA,h,decide_true,cond_true]
  ·rw[if_neg h];have e6:=WR (lt:=lt) d a hd ha j i hj lI;have e8:=WS (lt:=lt) d a hd ha (scanUp (fun x=>lt x d[a]!) d j i) j (by omega) hj;generalize scanDown (fun x=>!lt x d[a]!) d (scanUp (fun x=>lt x d[a]!) d j i) j=j2 at h h2 e8⊢;generalize scanUp (fun x=>lt x d[a]!) d j i=i2 at h h1 e6 e8⊢;rw[<-ih (i2+1) (j2-1) (swp d i2 j2) n (by omega) (by rw[size_swp];omega) (by rw[size_swp];omega) (by omega) (by omega) (by rw[size_swp];omega) (by omega)];refine aF ?_;have e:aa .sub .i64 (j2:Int) 1=((j2-1:Nat):Int):=sS (m:=1) (by omega) (by omega);unfold KW;simp only[e6,Option.bind_some,Sum.elim_inl,e8,QA,h,decide_false,cond_false,OZ,gA,Qp,show i2<d.size by omega,show j2<d.size by omega,decide_true,cond_true,QC,e,au (n:=i2) (by omega)]
theorem RB(a:Nat):∀(k i j:Nat) (d:Array α) (n:Nat),j+1-i<=k->d.size<=255->a<d.size->0<i->i<=256->j<d.size->k<n->iter (Ko lt ((a:Int),())) n (d.toList,(i:Int),(j:Int),())=some (.inl ((partEqLoop lt a i j d).2.toList,(((partEqLoop lt a i j d).1:Nat):Int),())):=by
 intro k;induction k with
 |zero=>
  intro i j d n hk hd ha hi lI hj hn;obtain⟨n,rfl⟩:∃m,n=m+1:=⟨n-1,by omega⟩
  rw[partEqLoop_eq];have h1:=scanUp_ge (fun x=>!lt d[a]! x) d j i;have h2:=scanDown_le (fun x=>lt d[a]! x) d (scanUp (fun x=>!lt d[a]! x) d j i) j;have h:scanUp (fun x=>!lt d[a]! x) d j i>scanDown (fun x=>lt d[a]! x) d (scanUp (fun x=>!lt d[a]! x) d j i) j:=by omega
  rw[if_pos h];refine av ?_;unfold Ko;simp only[WO (lt:=lt) d a hd ha j i hj lI,Option.bind_some,Sum.elim_inl,WQ (lt:=lt) d a hd ha (scanUp (fun x=>!lt d[a]! x) d j i) j (by omega) hj,QA,h,decide_true,cond_true]
 |succ k ih=>
  intro i j d n hk hd ha hi lI hj hn;obtain⟨n,rfl⟩:∃m,n=m+1:=⟨n-1,by omega⟩
  rw[partEqLoop_eq];have h1:=scanUp_ge (fun x=>!lt d[a]! x) d j i;have h2:=scanDown_le (fun x=>lt d[a]! x) d (scanUp (fun x=>!lt d[a]! x) d j i) j;by_cases h:scanUp (fun x=>!lt d[a]! x) d j i>scanDown (fun x=>lt d[a]! x) d (scanUp (fun x=>!lt d[a]! x) d j i) j
  ·rw[if_pos h];refine av ?_;unfold Ko;simp only[WO (lt:=lt) d a hd ha j i hj lI,Option.bind_some,Sum.elim_inl,WQ (lt:=lt) d a hd ha (scanUp (fun x=>!lt d[a]! x) d j i) j (by omega) hj,QA,h,decide_true,cond_true]
  ·rw[if_neg h];have e6:=WO (lt:=lt) d a hd ha j i hj lI;have e8:=WQ (lt:=lt) d a hd ha (scanUp (fun x=>!lt d[a]! x) d j i) j (by omega) hj;generalize scanDown (fun x=>lt d[a]! x) d (scanUp (fun x=>!lt d[a]! x) d j i) j=j2 at h h2 e8⊢;generalize scanUp (fun x=>!lt d[a]! x) d j i=i2 at h h1 e6 e8⊢;rw[<-ih (i2+1) (j2-1) (swp d i2 j2) n (by omega) (by rw[size_swp];omega) (by rw[size_swp];omega) (by omega) (by omega) (by rw[size_swp];omega) (by omega)];refine aF ?_;have e:aa .sub .i64 (j2:Int) 1=((j2-1:Nat):Int):=sS (m:=1) (by omega) (by omega);unfold Ko;simp only[e6,Option.bind_some,Sum.elim_inl,e8,QA,h,decide_false,cond_false,OZ,gA,Qp,show i2<d.size by omega,show j2<d.size by omega,decide_true,cond_true,QC,e,au (n:=i2) (by omega)]
theorem Sb(d:Array α)(a b p:Nat)(hab:a<b)(hb:b<=d.size)(hd:d.size<=255)(hp:p<d.size):IJ lt d.toList (a:Int) (b:Int) (p:Int)=some ((((partitionEqual lt d a b p).1:Nat):Int),(partitionEqual lt d a b p).2.toList,()):=by unfold IJ Mb partitionEqual;have e:aa .sub .i64 (b:Int) 1=((b-1:Nat):Int):=sS (m:=1) (by omega) (by omega);simp only[OZ,gA,Qp,show a<d.size by omega,hp,decide_true,cond_true,QC,e,au (n:=a) (by omega),RB (lt:=lt) a 256 (a+1) (b-1) (swp d a p) big (by omega) (by rw[size_swp];omega) (by rw[size_swp];omega) (by omega) (by omega) (by rw[size_swp];omega) (aN (by omega)),Option.bind_some,Sum.elim_inl]
theorem QS(a:Nat):∀(k i j:Nat) (d:Array α),j+1-i<=k->(partLoop lt a i j d).2.size=d.size/\(partLoop lt a i j d).1<=j:=by
 intro k;induction k with
 |zero=>intro i j d hk;rw[partLoop_eq];have h1:=scanUp_ge (fun x=>lt x d[a]!) d j i;have h2:=scanDown_le (fun x=>!lt x d[a]!) d (scanUp (fun x=>lt x d[a]!) d j i) j;rw[if_pos (by omega)];exact⟨rfl,h2⟩
 |succ k ih=>
  intro i j d hk;rw[partLoop_eq];have h1:=scanUp_ge (fun x=>lt x d[a]!) d j i;have h2:=scanDown_le (fun x=>!lt x d[a]!) d (scanUp (fun x=>lt x d[a]!) d j i) j;split
  ·exact⟨rfl,h2⟩
  ·obtain⟨h3,h4⟩:=ih (scanUp (fun x=>lt x d[a]!) d j i+1) (scanDown (fun x=>!lt x d[a]!) d (scanUp (fun x=>lt x d[a]!) d j i) j-1) (swp d (scanUp (fun x=>lt x d[a]!) d j i) (scanDown (fun x=>!lt x d[a]!) d (scanUp (fun x=>lt x d[a]!) d j i) j)) (by omega);exact⟨by rw[h3,size_swp],by omega⟩
theorem TK(d:Array α)(a b p:Nat)(hab:a<b)(hb:b<=d.size)(hd:d.size<=255)(hp:p<d.size):IC lt d.toList (a:Int) (b:Int) (p:Int)=some ((((partition lt d a b p).1:Nat):Int),(partition lt d a b p).2.1,(partition lt d a b p).2.2.toList,()):=by
 unfold IC Nn partition;have e:aa .sub .i64 (b:Int) 1=((b-1:Nat):Int):=sS (m:=1) (by omega) (by omega);have hs:(swp d a p).size=d.size:=size_swp _ _ _;have e0:=Ye (lt:=lt) (swp d a p) a (by omega) (by omega) (b-1) (a+1) (by omega) (by omega);have h1:=scanUp_ge (fun x=>lt x (swp d a p)[a]!) (swp d a p) (b-1) (a+1);have e2:=Yf (lt:=lt) (swp d a p) a (by omega) (by omega) (scanUp (fun x=>lt x (swp d a p)[a]!) (swp d a p) (b-1) (a+1)) (b-1) (by omega) (by omega);have h2:=scanDown_le (fun x=>!lt x (swp d a p)[a]!) (swp d a p) (scanUp (fun x=>lt x (swp d a p)[a]!) (swp d a p) (b-1) (a+1)) (b-1);simp only[OZ,gA,Qp,show a<d.size by omega,hp,decide_true,cond_true,QC,e,au (n:=a) (by omega),e0,e2,Option.bind_some,Sum.elim_inl];generalize scanDown (fun x=>!lt x (swp d a p)[a]!) (swp d a p) (scanUp (fun x=>lt x (swp d a p)[a]!) (swp d a p) (b-1) (a+1)) (b-1)=j2 at h2 e2⊢;generalize scanUp (fun x=>lt x (swp d a p)[a]!) (swp d a p) (b-1) (a+1)=i2 at h1 e0 e2⊢;by_cases h:i2>j2
 ·simp only[QA,h,decide_true,cond_true,if_true,OZ,gA,Qp,hs,show a<d.size by omega,show j2<d.size by omega,QC]
 ·have e3:aa .sub .i64 (j2:Int) 1=((j2-1:Nat):Int):=sS (m:=1) (by omega) (by omega);have tR:(swp (swp d a p) i2 j2).size=d.size:=by rw[size_swp,hs]
  have e4:=SX (lt:=lt) a 256 (i2+1) (j2-1) (swp (swp d a p) i2 j2) big (by omega) (by omega) (by omega) (by omega) (by omega) (by omega) (aN (by omega));obtain⟨h3,h4⟩:=QS (lt:=lt) a 256 (i2+1) (j2-1) (swp (swp d a p) i2 j2) (by omega);simp only[QA,h,decide_false,cond_false,if_false,OZ,gA,Qp,hs,show i2<d.size by omega,show j2<d.size by omega,QC,decide_true,cond_true,e3,au (n:=i2) (by omega),e4,Option.bind_some,Sum.elim_inl,h3,tR,show a<d.size by omega,show(partLoop lt a (i2+1) (j2-1) (swp (swp d a p) i2 j2)).1<d.size by omega]
end
end Go.Fn
set_option linter.unusedSimpArgs false
set_option linter.unusedVariables false
namespace Go.Fn
open Go.R Go.Sort
section
variable {α:Type} [Inhabited α] {lt:α->α->Bool}
theorem Pt:∀j (d:Array α),(shiftDown lt j d).size=d.size
 |0,_=>rfl
 |j+1,d=>by
  unfold shiftDown;split
  ·rfl
  ·rw[Pt j,size_swp]
theorem Re(b:Nat):∀(k j:Nat) (d:Array α),b-j<=k->(shiftUp lt b j d).size=d.size:=by
 intro k;induction k with
 |zero=>intro j d h;unfold shiftUp;rw[if_neg (by omega)]
 |succ k ih=>
  intro j d h;unfold shiftUp;split
  ·split
   ·rfl
   ·rw[ih (j+1) _ (by omega),size_swp]
  ·rfl
theorem QT(d:Array α)(b:Nat):∀(k i:Nat),b-i<=k->i<=scanSorted lt d b i/\(i<=b->scanSorted lt d b i<=b):=by
 intro k;induction k with
 |zero=>
  intro i h;unfold scanSorted;have:¬(i<b):=by omega
  simp only[this,decide_false,Bool.false_and,Bool.false_eq_true,if_false];exact⟨Nat.le_refl _,fun h=>h⟩
 |succ k ih=>
  intro i h;unfold scanSorted;split
  ·rename_i hc;simp only[Bool.and_eq_true,decide_eq_true_eq]at hc;have:=ih (i+1) (by omega);exact⟨by omega,fun _=>this.2 (by omega)⟩
  ·exact⟨Nat.le_refl _,fun h=>h⟩
theorem Y3(d:Array α)(hd:d.size<=255)(a b j:Int)(bn:Nat)(hb:bn<=d.size):∀(k i n:Nat),bn-i<=k->0<i->i<=256->k<n->iter (Jm lt (a,(bn:Int),j,())) n (d.toList,(i:Int),())=some (.inl (d.toList,((scanSorted lt d bn i:Nat):Int),())):=by
 intro k;induction k with
 |zero=>
  intro i n hk h0 hi hn;obtain⟨n,rfl⟩:∃m,n=m+1:=⟨n-1,by omega⟩
  refine av ?_;have h:¬(i<bn):=by omega
  unfold Jm scanSorted;simp only[Of,h,decide_false,cond_false,Bool.false_and,Bool.false_eq_true,if_false]
 |succ k ih=>
  intro i n hk h0 hi hn;obtain⟨n,rfl⟩:∃m,n=m+1:=⟨n-1,by omega⟩
  unfold scanSorted;by_cases h:i<bn
  ·have e:aa .sub .i64 (i:Int) 1=((i-1:Nat):Int):=sS (m:=1) (by omega) (by omega);cases hl:lt d[i]! d[i-1]! with
   |true=>simp only[Bool.not_true,Bool.and_false,Bool.false_eq_true,if_false];refine av ?_;unfold Jm;simp only[Of,h,decide_true,cond_true,e,OZ,gA,show i<d.size by omega,show i-1<d.size by omega,Option.bind_some,hl,Bool.not_true,cond_false]
   |false=>simp only[h,Bool.not_false,Bool.and_true,decide_true,if_true];rw[<-ih (i+1) n (by omega) (by omega) (by omega) (by omega)];refine aF ?_;unfold Jm;simp only[Of,h,decide_true,cond_true,e,OZ,gA,show i<d.size by omega,show i-1<d.size by omega,Option.bind_some,hl,Bool.not_false,au (n:=i) (by omega)]
  ·simp only[h,decide_false,Bool.false_and,Bool.false_eq_true,if_false];refine av ?_;unfold Jm;simp only[Of,h,decide_false,cond_false]
theorem Y4(k:Int×Int×Int×Int×Unit):∀(j:Nat) (d:Array α) (n:Nat),j<d.size->d.size<=255->j<n->iter (JQ lt k) n (d.toList,(j:Int),())=some (.inl ((shiftDown lt j d).toList,())):=by
 intro j;induction j with
 |zero=>
  intro d n hj hd hn;obtain⟨n,rfl⟩:∃m,n=m+1:=⟨n-1,by omega⟩
  exact av rfl
 |succ j ih=>
  intro d n hj hd hn;obtain⟨n,rfl⟩:∃m,n=m+1:=⟨n-1,by omega⟩
  have e1:aa .sub .i64 ((j+1:Nat):Int) (1:Int)=(j:Int):=iD (by omega);have g:af .geq ((j+1:Nat):Int) (1:Int)=true:=(Q8 (j+1) 1).trans (decide_eq_true (by omega));unfold shiftDown;cases hl:lt d[j+1]! d[j]! with
  |true=>simp only[Bool.not_true,Bool.false_eq_true,if_false];rw[<-ih (swp d (j+1) j) n (by rw[size_swp];omega) (by rw[size_swp];omega) (by omega)];refine aF ?_;unfold JQ;simp only[g,cond_true,e1,OZ,gA,Qp,hj,show j<d.size by omega,decide_true,Option.bind_some,hl,Bool.not_true,cond_false,QC]
  |false=>simp only[Bool.not_false,if_true];refine av ?_;unfold JQ;simp only[g,cond_true,e1,OZ,gA,Qp,hj,show j<d.size by omega,decide_true,Option.bind_some,hl,Bool.not_false]
theorem Y5(a b i j:Int)(bn:Nat):∀(k jn:Nat) (d:Array α) (n:Nat),bn-jn<=k->0<jn->jn<=256->bn<=d.size->d.size<=255->k<n->iter (Jn lt (a,(bn:Int),i,j,())) n (d.toList,(jn:Int),())=some (.inl ((shiftUp lt bn jn d).toList,())):=by
 intro k;induction k with
 |zero=>
  intro jn d n hk h0 h1 hb hd hn;obtain⟨n,rfl⟩:∃m,n=m+1:=⟨n-1,by omega⟩
  have h:¬(jn<bn):=by omega
  unfold shiftUp;rw[if_neg h];refine av ?_;unfold Jn;simp only[Of,h,decide_false,cond_false]
 |succ k ih=>
  intro jn d n hk h0 h1 hb hd hn;obtain⟨n,rfl⟩:∃m,n=m+1:=⟨n-1,by omega⟩
  unfold shiftUp;by_cases h:jn<bn
  ·have e:aa .sub .i64 (jn:Int) 1=((jn-1:Nat):Int):=sS (m:=1) (by omega) (by omega);simp only[h,if_true];cases hl:lt d[jn]! d[jn-1]! with
   |true=>simp only[Bool.not_true,Bool.false_eq_true,if_false];rw[<-ih (jn+1) (swp d jn (jn-1)) n (by omega) (by omega) (by omega) (by rw[size_swp];omega) (by rw[size_swp];omega) (by omega)];refine aF ?_;unfold Jn;simp only[Of,h,decide_true,cond_true,e,OZ,gA,Qp,show jn<d.size by omega,show jn-1<d.size by omega,Option.bind_some,hl,Bool.not_true,cond_false,QC,au (n:=jn) (by omega)]
   |false=>simp only[Bool.not_false,if_true];refine av ?_;unfold Jn;simp only[Of,h,decide_true,cond_true,e,OZ,gA,Qp,show jn<d.size by omega,show jn-1<d.size by omega,Option.bind_some,hl,Bool.not_false]
  ·simp only[h,if_false];refine av ?_;unfold Jn;simp only[Of,h,decide_false,cond_false]
theorem Y2(a b:Nat)(hab:a<b):∀(s:Nat),s<=5->∀(i:Nat) (d:Array α) (n:Nat),a<i->i<=b->b<=d.size->d.size<=255->s<n ->
  ∃q,iter (I0 lt ((a:Int),(b:Int),())) n (d.toList,(i:Int),((5-s:Nat):Int),())=some q/\(q=.inl ((partialIns lt a b s i d).1.toList,(partialIns lt a b s i d).2,())\/((partialIns lt a b s i d).2=false/\q=.inr (.inl ((partialIns lt a b s i d).1.toList,())))):=by
 intro s;induction s with
 |zero=>
  intro hs i d n ha hi hb hd hn;obtain⟨n,rfl⟩:∃m,n=m+1:=⟨n-1,by omega⟩
  exact⟨_,av rfl,.inr ⟨rfl,rfl⟩⟩
 |succ s ih=>
  intro hs i d n ha hi hb hd hn;obtain⟨n,rfl⟩:∃m,n=m+1:=⟨n-1,by omega⟩
  have g5:af .lss ((5-(s+1):Nat):Int) (5:Int)=true:=(Of (5-(s+1)) 5).trans (decide_eq_true (by omega));have e2:K9 lt ((a:Int),(b:Int),((5-(s+1):Nat):Int),()) (d.toList,(i:Int),())=_:=Y3 (lt:=lt) d hd (a:Int) (b:Int) ((5-(s+1):Nat):Int) b hb 256 i big (by omega) (by omega) (by omega) (aN (by omega));have eb:aa .sub .i64 (b:Int) (a:Int)=((b-a:Nat):Int):=sS (by omega) (by omega);have es:aa .add .i64 ((5-(s+1):Nat):Int) 1=((5-s:Nat):Int):=by rw[au (by omega)];congr 1;omega
  obtain⟨h1,h2⟩:=QT (lt:=lt) d b (b-i) i (Nat.le_refl _);have h2:=h2 hi;unfold partialIns;simp only[];generalize scanSorted lt d b i=i2 at e2 h1 h2⊢;by_cases U5:i2=b
  ·subst U5;rw[if_pos rfl];refine⟨_,av ?_,.inl rfl⟩;unfold I0;simp only[g5,cond_true,e2,Option.bind_some,Sum.elim_inl,S7,decide_true]
  ·rw[if_neg U5];by_cases TU:b-a<50
   ·rw[if_pos TU];refine⟨_,av ?_,.inl rfl⟩;unfold I0;simp only[g5,cond_true,e2,Option.bind_some,Sum.elim_inl,S7,U5,decide_false,cond_false,eb,show af .lss ((b-a:Nat):Int) (50:Int)=true from(Of (b-a) 50).trans (decide_eq_true TU)]
   ·rw[if_neg TU];have Wa:af .lss ((b-a:Nat):Int) (50:Int)=false:=(Of (b-a) 50).trans (decide_eq_false TU);have em:aa .sub .i64 (i2:Int) 1=((i2-1:Nat):Int):=sS (m:=1) (by omega) (by omega);have ea:aa .sub .i64 (i2:Int) (a:Int)=((i2-a:Nat):Int):=sS (by omega) (by omega);have Wb:aa .sub .i64 (b:Int) (i2:Int)=((b-i2:Nat):Int):=sS (by omega) (by omega);have hsz:(swp d i2 (i2-1)).size=d.size:=size_swp _ _ _;have e4:La lt ((a:Int),(b:Int),(i2:Int),((5-(s+1):Nat):Int),()) ((swp d i2 (i2-1)).toList,((i2-1:Nat):Int),())=_:=Y4 (lt:=lt) ((a:Int),(b:Int),(i2:Int),((5-(s+1):Nat):Int),()) (i2-1) (swp d i2 (i2-1)) big (by omega) (by omega) (aN (by omega));have e6:∀d':Array α,d'.size=d.size->Kn lt ((a:Int),(b:Int),(i2:Int),((5-(s+1):Nat):Int),()) (d'.toList,((i2+1:Nat):Int),())=some (.inl ((shiftUp lt b (i2+1) d').toList,())):=fun d' Db=>Y5 (lt:=lt) (a:Int) (b:Int) (i2:Int) ((5-(s+1):Nat):Int) b 256 (i2+1) d' big (by omega) (by omega) (by omega) (by omega) (by omega) (aN (by omega));have VP:(shiftDown lt (i2-1) (swp d i2 (i2-1))).size=d.size:=by rw[Pt,hsz]
    have hf:∀d':Array α,d'.size=d.size->(shiftUp lt b (i2+1) d').size=d.size:=fun d' h=>by rw[Re b b _ _ (by omega),h]
    by_cases hA:i2-a>=2
    ·have VM:af .geq ((i2-a:Nat):Int) (2:Int)=true:=(Q8 (i2-a) 2).trans (decide_eq_true hA);by_cases hB:b-i2>=2
     ·have U1:af .geq ((b-i2:Nat):Int) (2:Int)=true:=(Q8 (b-i2) 2).trans (decide_eq_true hB);simp only[hA,hB,if_true];obtain⟨q,hq,l7⟩:=ih (by omega) i2 (shiftUp lt b (i2+1) (shiftDown lt (i2-1) (swp d i2 (i2-1)))) n (by omega) (by omega) (by rw[hf _ VP];omega) (by rw[hf _ VP];omega) (by omega);refine⟨q,?_,l7⟩;rw[<-hq];refine aF ?_;unfold I0;simp only[g5,cond_true,e2,Option.bind_some,Sum.elim_inl,S7,U5,decide_false,cond_false,eb,Wa,em,OZ,gA,Qp,show i2<d.size by omega,show i2-1<d.size by omega,decide_true,QC,ea,VM,e4,Wb,U1,au (n:=i2) (by omega),e6 _ VP,es]
     ·have U1:af .geq ((b-i2:Nat):Int) (2:Int)=false:=(Q8 (b-i2) 2).trans (decide_eq_false hB);simp only[hA,hB,if_true,if_false];obtain⟨q,hq,l7⟩:=ih (by omega) i2 (shiftDown lt (i2-1) (swp d i2 (i2-1))) n (by omega) (by omega) (by rw[VP];omega) (by rw[VP];omega) (by omega);refine⟨q,?_,l7⟩;rw[<-hq];refine aF ?_;unfold I0;simp only[g5,cond_true,e2,Option.bind_some,Sum.elim_inl,S7,U5,decide_false,cond_false,eb,Wa,em,OZ,gA,Qp,show i2<d.size by omega,show i2-1<d.size by omega,decide_true,QC,ea,VM,e4,Wb,U1,es]
    ·have VM:af .geq ((i2-a:Nat):Int) (2:Int)=false:=(Q8 (i2-a) 2).trans (decide_eq_false hA);by_cases hB:b-i2>=2
     ·have U1:af .geq ((b-i2:Nat):Int) (2:Int)=true:=(Q8 (b-i2) 2).trans (decide_eq_true hB);simp only[hA,hB,if_true,if_false];obtain⟨q,hq,l7⟩:=ih (by omega) i2 (shiftUp lt b (i2+1) (swp d i2 (i2-1))) n (by omega) (by omega) (by rw[hf _ hsz];omega) (by rw[hf _ hsz];omega) (by omega);refine⟨q,?_,l7⟩;rw[<-hq];refine aF ?_;unfold I0;simp only[g5,cond_true,e2,Option.bind_some,Sum.elim_inl,S7,U5,decide_false,cond_false,eb,Wa,em,OZ,gA,Qp,show i2<d.size by omega,show i2-1<d.size by omega,decide_true,QC,ea,VM,Wb,U1,au (n:=i2) (by omega),e6 _ hsz,es]
     ·have U1:af .geq ((b-i2:Nat):Int) (2:Int)=false:=(Q8 (b-i2) 2).trans (decide_eq_false hB);simp only[hA,hB,if_false];obtain⟨q,hq,l7⟩:=ih (by omega) i2 (swp d i2 (i2-1)) n (by omega) (by omega) (by rw[hsz];omega) (by rw[hsz];omega) (by omega);refine⟨q,?_,l7⟩;rw[<-hq];refine aF ?_;unfold I0;simp only[g5,cond_true,e2,Option.bind_some,Sum.elim_inl,S7,U5,decide_false,cond_false,eb,Wa,em,OZ,gA,Qp,show i2<d.size by omega,show i2-1<d.size by omega,decide_true,QC,ea,VM,Wb,U1,es]
theorem RG(d:Array α)(a b:Nat)(hab:a<b)(hb:b<=d.size)(hd:d.size<=255):Jo lt d.toList (a:Int) (b:Int)=some ((partialInsertionSort lt d a b).2,(partialInsertionSort lt d a b).1.toList,()):=by
 unfold Jo K8 partialInsertionSort;obtain⟨q,hq,rfl|⟨h2,rfl⟩⟩:=Y2 (lt:=lt) a b hab 5 (Nat.le_refl _) (a+1) d big (by omega) (by omega) hb hd (aN (by omega))
 ·rw[au (n:=a) (by omega)];rw[show(0:Int)=((5-5:Nat):Int)from rfl,hq];rfl
 ·rw[au (n:=a) (by omega)];rw[show(0:Int)=((5-5:Nat):Int)from rfl,hq,h2];rfl
theorem TF(a b:Nat):∀(k i j:Nat) (d:Array α) (n:Nat),j-i<=k->a<=i->j<b->b<=d.size->d.size<=255->i<=300->k<n->∃d',iter (KX lt ()) n (d.toList,(i:Int),(j:Int),())=some (.inl (d'.toList,()))/\PermIn a b d d':=by
 intro k;induction k with
 |zero=>
  intro i j d n hk ha hj hb hd hi hn;obtain⟨n,rfl⟩:∃m,n=m+1:=⟨n-1,by omega⟩
  refine⟨d,av ?_,permIn_refl d a b⟩;unfold KX;simp only[Of,show ¬(i<j)by omega,decide_false,cond_false]
 |succ k ih=>
  intro i j d n hk ha hj hb hd hi hn;obtain⟨n,rfl⟩:∃m,n=m+1:=⟨n-1,by omega⟩
  by_cases h:i<j
  ·obtain⟨d',h1,h2⟩:=ih (i+1) (j-1) (swp d i j) n (by omega) (by omega) (by omega) (by rw[size_swp];omega) (by rw[size_swp];omega) (by omega) (by omega);refine⟨d',?_,permIn_trans _ _ _ a b (swp_permIn d a b i j ha (by omega) (by omega) hj hb) h2⟩;rw[<-h1];refine aF ?_;have e:aa .sub .i64 (j:Int) 1=((j-1:Nat):Int):=sS (m:=1) (by omega) (by omega);unfold KX;simp only[Of,h,decide_true,cond_true,OZ,gA,Qp,show i<d.size by omega,show j<d.size by omega,QC,e,au (n:=i) (by omega)]
  ·refine⟨d,av ?_,permIn_refl d a b⟩;unfold KX;simp only[Of,h,decide_false,cond_false]
theorem RJ(d:Array α)(a b:Nat)(hab:a<b)(hb:b<=d.size)(hd:d.size<=255):∃d',Mj lt d.toList (a:Int) (b:Int)=some (d'.toList,())/\PermIn a b d d':=by obtain⟨d',h1,h2⟩:=TF (lt:=lt) a b 256 a (b-1) d big (by omega) (Nat.le_refl _) (by omega) hb hd (by omega) (aN (by omega));refine⟨d',?_,h2⟩;have e:aa .sub .i64 (b:Int) 1=((b-1:Nat):Int):=sS (m:=1) (by omega) (by omega);unfold Mj MI;rw[e,h1];rfl
theorem MW(d:Array α)(a b:Nat)(s:Int)(ha:a<d.size)(hb:b<d.size):∃s',N4 lt d.toList (a:Int) (b:Int) s=some ((a:Int),(b:Int),s',())\/N4 lt d.toList (a:Int) (b:Int) s=some ((b:Int),(a:Int),s',()):=by
 unfold N4;simp only[OZ,gA,ha,hb,decide_true,cond_true,Option.bind_some];cases lt d[b]! d[a]!
 ·exact⟨_,.inl rfl⟩
 ·exact⟨_,.inr rfl⟩
theorem Px(d:Array α)(a b c:Nat)(s:Int)(ha:a<d.size)(hb:b<d.size)(hc:c<d.size):∃(m:Nat) (s':Int),OC lt d.toList (a:Int) (b:Int) (c:Int) s=some ((m:Int),s',())/\(m=a\/m=b\/m=c):=by
 unfold OC;obtain⟨s1,h1|h1⟩:=MW (lt:=lt) d a b s ha hb
 ·obtain⟨s2,h2|h2⟩:=MW (lt:=lt) d b c s1 hb hc
  ·obtain⟨s3,h3|h3⟩:=MW (lt:=lt) d a b s2 ha hb
   ·exact⟨b,s3,by simp only[h1,h2,h3,Option.bind_some],.inr (.inl rfl)⟩
   ·exact⟨a,s3,by simp only[h1,h2,h3,Option.bind_some],.inl rfl⟩
  ·obtain⟨s3,h3|h3⟩:=MW (lt:=lt) d a c s2 ha hc
   ·exact⟨c,s3,by simp only[h1,h2,h3,Option.bind_some],.inr (.inr rfl)⟩
   ·exact⟨a,s3,by simp only[h1,h2,h3,Option.bind_some],.inl rfl⟩
 ·obtain⟨s2,h2|h2⟩:=MW (lt:=lt) d a c s1 ha hc
  ·obtain⟨s3,h3|h3⟩:=MW (lt:=lt) d b a s2 hb ha
   ·exact⟨a,s3,by simp only[h1,h2,h3,Option.bind_some],.inl rfl⟩
   ·exact⟨b,s3,by simp only[h1,h2,h3,Option.bind_some],.inr (.inl rfl)⟩
  ·obtain⟨s3,h3|h3⟩:=MW (lt:=lt) d b c s2 hb hc
   ·exact⟨c,s3,by simp only[h1,h2,h3,Option.bind_some],.inr (.inr rfl)⟩
   ·exact⟨b,s3,by simp only[h1,h2,h3,Option.bind_some],.inr (.inl rfl)⟩
theorem QL(d:Array α)(a:Nat)(s:Int)(ha:0<a)(Ya:a+1<d.size)(hd:d.size<=255):∃(m:Nat) (s':Int),Lb lt d.toList (a:Int) s=some ((m:Int),s',())/\(m=a-1\/m=a\/m=a+1):=by have e:aa .sub .i64 (a:Int) 1=((a-1:Nat):Int):=sS (m:=1) (by omega) (by omega);obtain⟨m,s',h1,h2⟩:=Px (lt:=lt) d (a-1) a (a+1) s (by omega) (by omega) (by omega);refine⟨m,s',?_,h2⟩;unfold Lb;rw[e,au (n:=a) (by omega),h1];rfl
theorem Q1(p c:Int):∃h:Int,(bif (af .eql c (0:Int))then some (p,(1:Int),())else(bif (af .eql c (12:Int))then some (p,(2:Int),())else some (p,(0:Int),())))=some (p,h,()):=by
 cases af .eql c (0:Int)
 ·cases af .eql c (12:Int) <;> exact⟨_,rfl⟩
 ·exact⟨_,rfl⟩
theorem Qs(d:Array α)(a b:Nat)(hab:a+12<b)(hb:b<=d.size)(hd:d.size<=255):∃(p:Nat) (h:Int),MC lt d.toList (a:Int) (b:Int)=some ((p:Int),h,())/\a<=p/\p<b:=by
 have z:az (4:Int)=false:=rfl;have e1:aa .sub .i64 (b:Int) (a:Int)=((b-a:Nat):Int):=sS (by omega) (by omega);have g8:af .geq ((b-a:Nat):Int) (8:Int)=true:=(Q8 (b-a) 8).trans (decide_eq_true (by omega));have eq:aa .quo .i64 ((b-a:Nat):Int) (4:Int)=(((b-a) / 4:Nat):Int):=qS _ 4 (by omega);have m1:aa .mul .i64 (((b-a) / 4:Nat):Int) (1:Int)=(((b-a) / 4*1:Nat):Int):=mS (m:=1) (by omega);have m2:aa .mul .i64 (((b-a) / 4:Nat):Int) (2:Int)=(((b-a) / 4*2:Nat):Int):=mS (m:=2) (by omega);have m3:aa .mul .i64 (((b-a) / 4:Nat):Int) (3:Int)=(((b-a) / 4*3:Nat):Int):=mS (m:=3) (by omega);have a1:aa .add .i64 (a:Int) (((b-a) / 4*1:Nat):Int)=((a+(b-a) / 4*1:Nat):Int):=aS (by omega);have a2:aa .add .i64 (a:Int) (((b-a) / 4*2:Nat):Int)=((a+(b-a) / 4*2:Nat):Int):=aS (by omega);have a3:aa .add .i64 (a:Int) (((b-a) / 4*3:Nat):Int)=((a+(b-a) / 4*3:Nat):Int):=aS (by omega);unfold MC;simp only[z,cond_false,e1,g8,cond_true,eq,m1,m2,m3,a1,a2,a3];clear e1 g8 eq m1 m2 m3 a1 a2 a3 z;generalize hc:af .geq ((b-a:Nat):Int) (50:Int)=c;clear hc;cases c with
 |true=>obtain⟨x1,s1,h1,k1⟩:=QL (lt:=lt) d (a+(b-a) / 4*1) (0:Int) (by omega) (by omega) hd;obtain⟨x2,s2,h2,k2⟩:=QL (lt:=lt) d (a+(b-a) / 4*2) s1 (by omega) (by omega) hd;obtain⟨x3,s3,h3,k3⟩:=QL (lt:=lt) d (a+(b-a) / 4*3) s2 (by omega) (by omega) hd;obtain⟨x4,s4,h4,k4⟩:=Px (lt:=lt) d x1 x2 x3 s3 (by omega) (by omega) (by omega);obtain⟨h,hh⟩:=Q1 (x4:Int) s4;refine⟨x4,h,?_,by omega,by omega⟩;simp only[cond_true,h1,h2,h3,h4,Option.bind_some];exact hh
 |false=>obtain⟨x4,s4,h4,k4⟩:=Px (lt:=lt) d (a+(b-a) / 4*1) (a+(b-a) / 4*2) (a+(b-a) / 4*3) 0 (by omega) (by omega) (by omega);obtain⟨h,hh⟩:=Q1 (x4:Int) s4;refine⟨x4,h,?_,by omega,by omega⟩;simp only[cond_false,h4,Option.bind_some];exact hh
end
end Go.Fn
set_option linter.unusedSimpArgs false
set_option linter.unusedVariables false
namespace Go.Fn
open Go.R Go.Sort
theorem Vi:(List.range 256).all (fun n=>decide (n<8)||(match KC (n:Int)with|some (m,())=>decide (1<=m/\m<=2*(n:Int))|none=>false))=true:=by decide +kernel
theorem VW{n:Nat}(h8:8<=n)(h:n<=255):∃m:Nat,KC (n:Int)=some ((m:Int),())/\1<=m/\m<=2*n:=by
 have h1:=List.all_eq_true.1 Vi n (List.mem_range.2 (by omega));rw[decide_eq_false (by omega:¬n<8),Bool.false_or]at h1;cases hq:KC (n:Int)with
 |none=>rw[hq]at h1;cases h1
 |some p=>obtain⟨m,u⟩:=p;cases u;rw[hq]at h1;have h2:1<=m/\m<=2*(n:Int):=of_decide_eq_true h1;exact⟨m.toNat,by rw[Int.toNat_of_nonneg (by omega)],by omega,by omega⟩
theorem Ux(x:Int):∃v,__slices_xorshift__Next x=some (v,v,()):=⟨_,rfl⟩
theorem Vl{n:Int}(h1:0<=n)(h2:n<18446744073709551616):IntKind.u64.wrap n=n:=IntWalk.u64_in n ⟨h1,by omega⟩
theorem Wq(x:Int){c:Nat}(hc:c<9223372036854775808):∃r:Nat,aa .and .u64 x (c:Int)=(r:Int)/\r<=c:=by
 have h1:(BitVec.ofInt 64 (c:Int)).toNat=c:=by rw[BitVec.toNat_ofInt];have:((c:Int) % ((2 ^ 64:Nat):Int))=c:=Int.emod_eq_of_lt (by omega) (by omega);rw[this];rfl
 have h2:(BitVec.ofInt 64 x &&& BitVec.ofInt 64 (c:Int)).toNat<=c:=by rw[BitVec.toNat_and,h1];exact Nat.and_le_right
 have e:aa .and .u64 x (c:Int)=IntKind.u64.wrap (((BitVec.ofInt 64 x &&& BitVec.ofInt 64 (c:Int)).toNat:Nat):Int):=rfl;rw[e,Vl (by omega) (by omega)];exact⟨_,rfl,h2⟩
theorem V0{n:Nat}(h:1<=n)(h2:n<1099511627776):aa .sub .u64 (n:Int) 1=((n-1:Nat):Int):=by have e:aa .sub .u64 (n:Int) 1=IntKind.u64.wrap ((n:Int)-1):=rfl;rw[e,Vl (by omega) (by omega)];omega
theorem Tk{n:Nat}(h:n<1099511627776):aq .i64 (n:Int)=(n:Int):=zx (by omega) (by omega)
section
variable {α:Type} [Inhabited α] {lt:α->α->Bool}
theorem Th(a len m last:Nat)(b:Nat)(hlen:b=a+len)(h8:8<=len)(CI:1<=m)(CJ:m<=2*len)(Su:last=a+len / 4*2+1):
  ∀(k idx:Nat) (r:Int) (d:Array α) (n:Nat),last+1-idx<=k->a<=idx->b<=d.size->d.size<=255->idx<=300->k<n->∃d',iter (Kd lt ((a:Int),(len:Int),(m:Int),())) n (d.toList,r,(idx:Int),())=some (.inl (d'.toList,()))/\PermIn a b d d':=by
 have z:az (4:Int)=false:=rfl;intro k;induction k with
 |zero=>
  intro idx r d n hk ha hb hd hi hn;obtain⟨n,rfl⟩:∃m,n=m+1:=⟨n-1,by omega⟩
  refine⟨d,av ?_,permIn_refl d a b⟩;have e1:aa .quo .i64 (len:Int) (4:Int)=((len / 4:Nat):Int):=qS _ 4 (by omega);have e2:aa .mul .i64 ((len / 4:Nat):Int) (2:Int)=((len / 4*2:Nat):Int):=mS (m:=2) (by omega);have e3:aa .add .i64 (a:Int) ((len / 4*2:Nat):Int)=((a+len / 4*2:Nat):Int):=aS (by omega);unfold Kd;simp only[z,cond_false,e1,e2,e3,au (n:=a+len / 4*2) (by omega),QO,<-Su];rw[decide_eq_false (by omega:¬idx<=last)];rfl
 |succ k ih=>
  intro idx r d n hk ha hb hd hi hn;obtain⟨n,rfl⟩:∃m,n=m+1:=⟨n-1,by omega⟩
  have e1:aa .quo .i64 (len:Int) (4:Int)=((len / 4:Nat):Int):=qS _ 4 (by omega);have e2:aa .mul .i64 ((len / 4:Nat):Int) (2:Int)=((len / 4*2:Nat):Int):=mS (m:=2) (by omega);have e3:aa .add .i64 (a:Int) ((len / 4*2:Nat):Int)=((a+len / 4*2:Nat):Int):=aS (by omega);by_cases h:idx<=last
  ·obtain⟨v,hv⟩:=Ux r;obtain⟨w,hw,DP⟩:=Wq v (c:=m-1) (by omega);have hib:idx<b:=by omega
   by_cases hg:w>=len
   ·have e4:aa .sub .i64 (w:Int) (len:Int)=((w-len:Nat):Int):=sS (by omega) (by omega);have e5:aa .add .i64 (a:Int) ((w-len:Nat):Int)=((a+(w-len):Nat):Int):=aS (by omega);obtain⟨d',h1,h2⟩:=ih (idx+1) v (swp d idx (a+(w-len))) n (by omega) (by omega) (by rw[size_swp];omega) (by rw[size_swp];omega) (by omega) (by omega);refine⟨d',?_,permIn_trans _ _ _ a b (swp_permIn d a b idx (a+(w-len)) ha hib (by omega) (by omega) hb) h2⟩;rw[<-h1];refine aF ?_;unfold Kd;simp only[z,cond_false,e1,e2,e3,au (n:=a+len / 4*2) (by omega),QO,<-Su,h,decide_true,cond_true,hv,Option.bind_some,V0 CI (by omega),hw,Tk (n:=w) (by omega),Q8,hg,e4,e5,OZ,gA,Qp,show a+(w-len)<d.size by omega,show idx<d.size by omega,QC,aR,au (n:=idx) (by omega)]
   ·have e5:aa .add .i64 (a:Int) (w:Int)=((a+w:Nat):Int):=aS (by omega);obtain⟨d',h1,h2⟩:=ih (idx+1) v (swp d idx (a+w)) n (by omega) (by omega) (by rw[size_swp];omega) (by rw[size_swp];omega) (by omega) (by omega);refine⟨d',?_,permIn_trans _ _ _ a b (swp_permIn d a b idx (a+w) ha hib (by omega) (by omega) hb) h2⟩;rw[<-h1];refine aF ?_;unfold Kd;simp only[z,cond_false,e1,e2,e3,au (n:=a+len / 4*2) (by omega),QO,<-Su,h,decide_true,cond_true,hv,Option.bind_some,V0 CI (by omega),hw,Tk (n:=w) (by omega),Q8,hg,decide_false,e5,OZ,gA,Qp,show a+w<d.size by omega,show idx<d.size by omega,QC,aR,au (n:=idx) (by omega)]
  ·refine⟨d,av ?_,permIn_refl d a b⟩;unfold Kd;simp only[z,cond_false,e1,e2,e3,au (n:=a+len / 4*2) (by omega),QO,<-Su];rw[decide_eq_false h];rfl
theorem Tl{n:Nat}(h:n<1099511627776):aq .u64 (n:Int)=(n:Int):=Vl (by omega) (by omega)
theorem Sg(d:Array α)(a b:Nat)(hab:a+12<b)(hb:b<=d.size)(hd:d.size<=255):∃d',Mx lt d.toList (a:Int) (b:Int)=some (d'.toList,())/\PermIn a b d d':=by have z:az (4:Int)=false:=rfl;obtain⟨m,hm,CI,CJ⟩:=VW (n:=b-a) (by omega) (by omega);obtain⟨d',h1,h2⟩:=Th (lt:=lt) a (b-a) m (a+(b-a) / 4*2+1) b (by omega) (by omega) CI CJ rfl 256 (a+(b-a) / 4*2-1) ((b-a:Nat):Int) d big (by omega) (by omega) hb hd (by omega) (aN (by omega));refine⟨d',?_,h2⟩;have e1:aa .sub .i64 (b:Int) (a:Int)=((b-a:Nat):Int):=sS (by omega) (by omega);have g8:af .geq ((b-a:Nat):Int) (8:Int)=true:=(Q8 (b-a) 8).trans (decide_eq_true (by omega));have eq:aa .quo .i64 ((b-a:Nat):Int) (4:Int)=(((b-a) / 4:Nat):Int):=qS _ 4 (by omega);have m2:aa .mul .i64 (((b-a) / 4:Nat):Int) (2:Int)=(((b-a) / 4*2:Nat):Int):=mS (m:=2) (by omega);have a2:aa .add .i64 (a:Int) (((b-a) / 4*2:Nat):Int)=((a+(b-a) / 4*2:Nat):Int):=aS (by omega);have s2:aa .sub .i64 ((a+(b-a) / 4*2:Nat):Int) 1=((a+(b-a) / 4*2-1:Nat):Int):=sS (m:=1) (by omega) (by omega);unfold Mx Mt;simp only[e1,g8,cond_true,hm,Option.bind_some,z,cond_false,eq,m2,a2,s2,Tl (n:=b-a) (by omega),h1,Sum.elim_inl]
abbrev Tc(α:Type):=Option (((List α)×Int×Int×Int×Bool×Bool×Unit)⊕((List α)×Unit⊕Empty))
noncomputable def QZ(lt:α->α->Bool)(rec:(List α)->Int->Int->Int->Option ((List α)×Unit))(M:Nat):Prop:=∀(d:Array α) (a b:Nat) (L:Int),b-a<M->a<=b->b<=d.size->d.size<=255->Below lt a b d->∃d',rec d.toList (a:Int) (b:Int) L=some (d'.toList,())/\PermIn a b d d'/\SortedIn lt a b d'
noncomputable def Next(lt:α->α->Bool)(q:Tc α)(d:Array α)(a b:Nat):Prop:=
 (∃R,q=some (.inr (.inl (R.toList,())))/\PermIn a b d R/\SortedIn lt a b R) \/
 (∃(E:Array α) (a' b':Nat) (L:Int) (wb wp:Bool),q=some (.inl (E.toList,(a':Int),(b':Int),L,wb,wp,()))/\E.size=d.size/\a'<=b'/\b'<=b/\b'-a'<b-a/\Below lt a' b' E/\∀R,PermIn a' b' E R->SortedIn lt a' b' R->PermIn a b d R/\SortedIn lt a b R)
theorem Next.mono{q:Tc α}{d D:Array α}{a b:Nat}(h:Next lt q D a b)(p:PermIn a b d D):Next lt q d a b:=by
 rcases h with ⟨R,h1,h2,h3⟩|⟨E,a',b',L,wb,wp,h1,h2,h3,h4,h5,h6,h7⟩
 ·exact .inl ⟨R,h1,permIn_trans _ _ _ a b p h2,h3⟩
 ·refine .inr ⟨E,a',b',L,wb,wp,h1,by rw[h2,p.1],h3,h4,h5,h6,fun R hR hs=>?_⟩;obtain⟨k1,k2⟩:=h7 R hR hs;exact⟨permIn_trans _ _ _ a b p k1,k2⟩
noncomputable def OD(lt:α->α->Bool)(rec:(List α)->Int->Int->Int->Option ((List α)×Unit))(a b L:Int)(D:List α)(P:Int):Tc α:=((IC lt D a b P).bind fun y1=>(bif (az (8:Int))then none else(bif (af .lss (aa .sub .i64 y1.1 a) (aa .sub .i64 b y1.1))then((rec y1.2.2.1 a y1.1 L).bind fun y2=>some (.inl (y2.1,(aa .add .i64 y1.1 (1:Int)),b,L,(af .geq (aa .sub .i64 y1.1 a) (aa .quo .i64 (aa .sub .i64 b a) (8:Int))),y1.2.1,())))else((rec y1.2.2.1 (aa .add .i64 y1.1 (1:Int)) b L).bind fun y2=>some (.inl (y2.1,a,y1.1,L,(af .geq (aa .sub .i64 b y1.1) (aa .quo .i64 (aa .sub .i64 b a) (8:Int))),y1.2.1,()))))))
noncomputable def OY(lt:α->α->Bool)(rec:(List α)->Int->Int->Int->Option ((List α)×Unit))(a b L:Int)(wb wp:Bool)(D:List α)(P:Int):Tc α:=(bif (af .gtr a (0:Int))then(bif (ah D (aa .sub .i64 a (1:Int)))then(bif (ah D P)then((some (lt (ae default D (aa .sub .i64 a (1:Int))) (ae default D P),())).bind fun y1=>(bif (Bool.not y1.1)then((IJ lt D a b P).bind fun y2=>some (.inl (y2.2.1,y2.1,b,L,wb,wp,())))else OD lt rec a b L D P))else none)else none)else OD lt rec a b L D P)
theorem UA(h:SWO lt){rec:(List α)->Int->Int->Int->Option ((List α)×Unit)}{M:Nat}(gf:QZ lt rec M)(D:Array α)(a b p:Nat)(L:Int)(hab:a<b)(hb:b<=D.size)(hd:D.size<=255)(hB:Below lt a b D)(hp1:a<=p)(hp2:p<b)(hM:b-a<=M):
  Next lt (OD lt rec (a:Int) (b:Int) L D.toList (p:Int)) D a b:=by
 have z:az (8:Int)=false:=rfl;have Qt:=TK (lt:=lt) D a b p hab hb hd (by omega);have UP:=round_part h (partition_holds lt) hp1 hp2 hb hB (mid:=(partition lt D a b p).1) (ap:=(partition lt D a b p).2.1) (d4:=(partition lt D a b p).2.2) rfl;generalize (partition lt D a b p).1=mid at Qt UP;generalize (partition lt D a b p).2.1=ap at Qt UP;generalize (partition lt D a b p).2.2=d4 at Qt UP;obtain⟨g1,g2,Wf,YL,YM,hleft,hright⟩:=UP;unfold OD;have e1:aa .sub .i64 (mid:Int) (a:Int)=((mid-a:Nat):Int):=sS (by omega) (by omega);have e2:aa .sub .i64 (b:Int) (mid:Int)=((b-mid:Nat):Int):=sS (by omega) (by omega);have e3:aa .add .i64 (mid:Int) 1=((mid+1:Nat):Int):=au (by omega);simp only[Qt,Option.bind_some,z,cond_false,e1,e2,e3,Of];by_cases hlt:mid-a<b-mid
 ·obtain⟨L1,hL,l1,l2⟩:=gf d4 a mid L (by omega) g1 (by omega) (by omega) YL;obtain⟨WD,gV⟩:=hleft L1 l1 l2;simp only[hlt,decide_true,cond_true,hL,Option.bind_some];exact .inr ⟨L1,mid+1,b,_,_,_,rfl,by rw[l1.1,Wf],by omega,Nat.le_refl _,by omega,WD,gV⟩
 ·obtain⟨L1,hL,l1,l2⟩:=gf d4 (mid+1) b L (by omega) (by omega) (by omega) (by omega) YM;obtain⟨WD,gV⟩:=hright L1 l1 l2;simp only[hlt,decide_false,cond_false,hL,Option.bind_some];exact .inr ⟨L1,a,mid,_,_,_,rfl,by rw[l1.1,Wf],by omega,by omega,by omega,WD,gV⟩
theorem PD(h:SWO lt){rec:(List α)->Int->Int->Int->Option ((List α)×Unit)}{M:Nat}(gf:QZ lt rec M)(D:Array α)(a b p:Nat)(L:Int)(wb wp:Bool)(hab:a<b)(hb:b<=D.size)(hd:D.size<=255)(hB:Below lt a b D)(hp1:a<=p)(hp2:p<b)(hM:b-a<=M):
  Next lt (OY lt rec (a:Int) (b:Int) L wb wp D.toList (p:Int)) D a b:=by
 have pT:=UA h gf D a b p L hab hb hd hB hp1 hp2 hM;unfold OY;by_cases h0:a>0
 ·have g0:af .gtr (a:Int) (0:Int)=true:=(QA a 0).trans (decide_eq_true h0);have e1:aa .sub .i64 (a:Int) 1=((a-1:Nat):Int):=sS (m:=1) (by omega) (by omega);simp only[g0,cond_true,e1,OZ,gA,show a-1<D.size by omega,show p<D.size by omega,decide_true,Option.bind_some];cases hl:lt D[a-1]! D[p]! with
  |true=>exact pT
  |false=>have Qt:=Sb (lt:=lt) D a b p hab hb hd (by omega);have UP:=round_eq h (partitionEqual_holds lt) h0 hp1 hp2 hb hB hl (mid:=(partitionEqual lt D a b p).1) (d4:=(partitionEqual lt D a b p).2) rfl;generalize (partitionEqual lt D a b p).1=mid at Qt UP;generalize (partitionEqual lt D a b p).2=d4 at Qt UP;obtain⟨CI,CJ,Wf,YK,gV⟩:=UP;simp only[Bool.not_false,cond_true,Qt,Option.bind_some];exact .inr ⟨d4,mid,b,_,_,_,rfl,Wf,CJ,Nat.le_refl _,by omega,YK,gV⟩
 ·have g0:af .gtr (a:Int) (0:Int)=false:=(QA a 0).trans (decide_eq_false h0);simp only[g0,cond_false];exact pT
noncomputable def Sr(lt:α->α->Bool)(rec:(List α)->Int->Int->Int->Option ((List α)×Unit))(a b L:Int)(wb wp:Bool)(D:List α)(P:Int):Tc α:=((Jo lt D a b).bind fun y3=>(bif y3.1 then some (.inr (.inl (y3.2.1,())))else OY lt rec a b L wb wp y3.2.1 P))
theorem Tv(h:SWO lt){rec:(List α)->Int->Int->Int->Option ((List α)×Unit)}{M:Nat}(gf:QZ lt rec M)(D:Array α)(a b p:Nat)(L:Int)(wb wp:Bool)(hab:a<b)(hb:b<=D.size)(hd:D.size<=255)(hB:Below lt a b D)(hp1:a<=p)(hp2:p<b)(hM:b-a<=M):
  Next lt (Sr lt rec (a:Int) (b:Int) L wb wp D.toList (p:Int)) D a b:=by
 have Qt:=RG (lt:=lt) D a b hab hb hd;obtain⟨k1,k2⟩:=partialInsertionSort_holds h D a b hab hb hB;unfold Sr;generalize (partialInsertionSort lt D a b).1=D3 at Qt k1 k2;generalize (partialInsertionSort lt D a b).2=fl at Qt k1 k2;simp only[Qt,Option.bind_some];cases fl with
 |true=>exact .inl ⟨D3,rfl,k1,k2 rfl⟩
 |false=>exact(PD h gf D3 a b p L wb wp hab (by rw[k1.1];exact hb) (by rw[k1.1];exact hd) (hB.perm hb k1) hp1 hp2 hM).mono k1
theorem RF(h:SWO lt){rec:(List α)->Int->Int->Int->Option ((List α)×Unit)}{M:Nat}(gf:QZ lt rec M)(d:Array α)(a b:Nat)(L:Int)(wb wp:Bool)(hab:a<=b)(hb:b<=d.size)(hd:d.size<=255)(hB:Below lt a b d)(hM:b-a<=M):
  Next lt (J3 lt rec () (d.toList,(a:Int),(b:Int),L,wb,wp,())) d a b:=by
 have e1:aa .sub .i64 (b:Int) (a:Int)=((b-a:Nat):Int):=sS (by omega) (by omega);have eb:aa .sub .i64 (b:Int) 1=((b-1:Nat):Int)\/b=0:=by
  by_cases h0:b=0
  ·exact .inr h0
  ·exact .inl (sS (m:=1) (by omega) (by omega))
 by_cases h12:b-a<=12
 ·have g:af .leq ((b-a:Nat):Int) (12:Int)=true:=(QO (b-a) 12).trans (decide_eq_true h12);unfold J3;simp only[e1,g,cond_true,UE (lt:=lt) d a b hab hb hd,Option.bind_some];have:=insertionSort_holds h d a b hab hb;exact .inl ⟨_,rfl,this.1,this.2⟩
 ·have g:af .leq ((b-a:Nat):Int) (12:Int)=false:=(QO (b-a) 12).trans (decide_eq_false h12);cases hL:af .eql L (0:Int)with
  |true=>unfold J3;simp only[e1,g,cond_false,hL,cond_true,TJ (lt:=lt) d a b (by omega) hb hd,Option.bind_some];have:=heapSort_holds h d a b hab hb;exact .inl ⟨_,rfl,this.1,this.2⟩
  |false=>
   have eb:=eb.resolve_right (by omega);have Wt:∀p:Nat,a<=p->p<b->aa .sub .i64 ((b-1:Nat):Int) (aa .sub .i64 (p:Int) (a:Int))=(((b-1)-(p-a):Nat):Int):=by intro p h1 h2;rw[sS (n:=p) (m:=a) h1 (by omega),sS (by omega) (by omega)]
   cases wb with
   |false=>
    obtain⟨d1,Yb,p1⟩:=Sg (lt:=lt) d a b (by omega) hb hd;have b1:b<=d1.size:=by rw[p1.1];exact hb
    have s1:d1.size<=255:=by rw[p1.1];exact hd
    have B1:=hB.perm hb p1;obtain⟨p,hh,hch,hp1,hp2⟩:=Qs (lt:=lt) d1 a b (by omega) b1 s1;cases pU:af .eql hh (2:Int)with
    |true=>obtain⟨d2,B7,p2⟩:=RJ (lt:=lt) d1 a b (by omega) b1 s1;have:=(PD h gf d2 a b ((b-1)-(p-a)) (aa .sub .i64 L 1) false wp (by omega) (by rw[p2.1];exact b1) (by rw[p2.1];exact s1) (B1.perm b1 p2) (by omega) (by omega) hM).mono (permIn_trans _ _ _ a b p1 p2);unfold J3;simp only[e1,g,cond_false,hL,Bool.not_false,cond_true,Yb,Option.bind_some,hch,pU,B7,eb,Wt p hp1 hp2];simp only[OY,OD,e1,Option.bind_some]at this;exact this
    |false=>have:=(PD h gf d1 a b p (aa .sub .i64 L 1) false wp (by omega) b1 s1 B1 hp1 hp2 hM).mono p1;unfold J3;simp only[e1,g,cond_false,hL,Bool.not_false,cond_true,Yb,Option.bind_some,hch,pU];simp only[OY,OD,e1,Option.bind_some]at this;exact this
   |true=>
    obtain⟨p,hh,hch,hp1,hp2⟩:=Qs (lt:=lt) d a b (by omega) hb hd;cases pU:af .eql hh (2:Int)with
    |true=>
     obtain⟨d2,B7,p2⟩:=RJ (lt:=lt) d a b (by omega) hb hd;have zq:b<=d2.size:=by rw[p2.1];exact hb
     have tR:d2.size<=255:=by rw[p2.1];exact hd
     cases wp with
     |true=>have:=(Tv h gf d2 a b ((b-1)-(p-a)) L true true (by omega) zq tR (hB.perm hb p2) (by omega) (by omega) hM).mono p2;unfold J3;simp only[e1,g,cond_false,hL,Bool.not_true,cond_true,Option.bind_some,hch,pU,B7,eb,Wt p hp1 hp2,show af .eql (1:Int) (1:Int)=true from rfl];simp only[Sr,OY,OD,e1,Option.bind_some]at this;exact this
     |false=>have:=(PD h gf d2 a b ((b-1)-(p-a)) L true false (by omega) zq tR (hB.perm hb p2) (by omega) (by omega) hM).mono p2;unfold J3;simp only[e1,g,cond_false,hL,Bool.not_true,cond_true,Option.bind_some,hch,pU,B7,eb,Wt p hp1 hp2];simp only[OY,OD,e1,Option.bind_some]at this;exact this
    |false=>
     cases wp with
     |true=>
      cases B6:af .eql hh (1:Int)with
      |true=>have:=Tv h gf d a b p L true true (by omega) hb hd hB hp1 hp2 hM;unfold J3;simp only[e1,g,cond_false,hL,Bool.not_true,cond_true,Option.bind_some,hch,pU,B6];simp only[Sr,OY,OD,e1,Option.bind_some]at this;exact this
      |false=>have:=PD h gf d a b p L true true (by omega) hb hd hB hp1 hp2 hM;unfold J3;simp only[e1,g,cond_false,hL,Bool.not_true,cond_true,Option.bind_some,hch,pU,B6];simp only[OY,OD,e1,Option.bind_some]at this;exact this
     |false=>have:=PD h gf d a b p L true false (by omega) hb hd hB hp1 hp2 hM;unfold J3;simp only[e1,g,cond_false,hL,Bool.not_true,cond_true,Option.bind_some,hch,pU];simp only[OY,OD,e1,Option.bind_some]at this;exact this
theorem TE(h:SWO lt){rec:(List α)->Int->Int->Int->Option ((List α)×Unit)}{M:Nat}(gf:QZ lt rec M):∀(k:Nat) (d:Array α) (a b:Nat) (L:Int) (wb wp:Bool) (n:Nat),b-a<=k->b-a<=M->k<n->a<=b->b<=d.size->d.size<=255->Below lt a b d ->
  ∃d',iter (J3 lt rec ()) n (d.toList,(a:Int),(b:Int),L,wb,wp,())=some (.inl (d'.toList,()))/\PermIn a b d d'/\SortedIn lt a b d':=by
 intro k;induction k with
 |zero=>
  intro d a b L wb wp n hk hM hn hab hb hd hB;obtain⟨n,rfl⟩:∃m,n=m+1:=⟨n-1,by omega⟩
  rcases RF h gf d a b L wb wp hab hb hd hB hM with ⟨R,h1,h2,h3⟩|⟨E,a',b',L',Yj,wp',h1,h2,h3,h4,h5,h6,h7⟩
  ·exact⟨R,av h1,h2,h3⟩
  ·omega
 |succ k ih=>
  intro d a b L wb wp n hk hM hn hab hb hd hB;obtain⟨n,rfl⟩:∃m,n=m+1:=⟨n-1,by omega⟩
  rcases RF h gf d a b L wb wp hab hb hd hB hM with ⟨R,h1,h2,h3⟩|⟨E,a',b',L',Yj,wp',h1,h2,h3,h4,h5,h6,h7⟩
  ·exact⟨R,av h1,h2,h3⟩
  ·obtain⟨d',k1,k2,k3⟩:=ih E a' b' L' Yj wp' n (by omega) (by omega) (by omega) h3 (by omega) (by omega) h6;exact⟨d',by rw[aF h1];exact k1,h7 d' k2 k3⟩
theorem VY(h:SWO lt):∀F,QZ lt (Nb lt F) F:=by
 intro F;induction F with
 |zero=>intro d a b L hF;omega
 |succ F ih=>intro d a b L hF hab hb hd hB;obtain⟨d',h1,h2,h3⟩:=TE h ih 256 d a b L true true big (by omega) (by omega) (aN (by omega)) hab hb hd hB;refine⟨d',?_,h2,h3⟩;unfold Nb OP Og;rw[h1];rfl
theorem UB(h:SWO lt)(l:List α)(L:Int)(hl:l.length<=255):∃r:List α,Qb lt l (0:Int) (l.length:Int) L=some (r,())/\r.Perm l/\∀i j,i<j->j<r.length->lt (r.getD j default) (r.getD i default)=false:=by
 obtain⟨d',h1,h2,h3⟩:=VY h big l.toArray 0 l.length L (aN (by omega)) (by omega) (by simp) (by simpa using hl) (.inl rfl);have hsz:d'.size=l.length:=by rw[h2.1];simp
 refine⟨d'.toList,h1,?_,fun i j hij hj=>?_⟩
 ·have:=h2.2.2;rw[show d'.extract 0 l.length=d' by rw[<-hsz];exact Array.extract_size,show l.toArray.extract 0 l.length=l.toArray by rw[show l.length=l.toArray.size by simp];exact Array.extract_size]at this;exact this
 ·have:=h3 i j (by omega) hij (by rw[Array.length_toList]at hj;omega);rw[<-gA,<-gA,ak,ak]at this;exact this
end
end Go.Fn
set_option linter.unusedSimpArgs false
set_option linter.unusedVariables false
namespace Go.Fn
open Go.R Go.Sort
noncomputable def QH(x y:Ev):Bool:=decide (x.1<y.1)||(decide (x.1=y.1)&&decide (x.2.1<y.2.1))
noncomputable def TX(a b:Int):Int:=bif decide (a<b)then -1 else bif decide (b<a)then 1 else 0
theorem compare_eq(a b:Int):Mh a b=some (TX a b,()):=by unfold Mh LD TX;simp only[O6,Option.bind_some,cond_false];simp only[af,gt_iff_lt];cases decide (a<b) <;> cases decide (b<a) <;> rfl
theorem or_eq(a b:Int):OO [a,b]=some ((bif decide (a=0)then b else a),()):=by
 unfold OO Oy;have hb:∀n:Nat,n<2->Mi ((0:Int),[a,b],ai [a,b],()) ((n:Int),())=some (bif decide (([a,b].getD n 0)=0)then .inl (((n+1:Nat):Int),())else .inr (.inl ([a,b].getD n 0,()))):=by
  intro n hn;unfold Mi;simp only[aj,ax,ak,show n < [a,b].length from hn,decide_true,cond_true,au (n:=n) (by omega),zI];by_cases h:[a,b].getD n 0=0
  ·rw[h];rfl
  ·rw[show af .neq ([a,b].getD n 0) (0:Int)=true from by simpa[af] using h,decide_eq_false h];rfl
 by_cases ha:a=0
 ·by_cases hb0:b=0
  ·have e:iter (Mi ((0:Int),[a,b],ai [a,b],())) 3 ((0:Int),())=some (.inr (.inl ())):=by
    rw[aF (y:=(((1:Nat):Int),())) (by simpa[ha] using hb 0 (by omega)),aF (y:=(((2:Nat):Int),())) (by simpa[hb0] using hb 1 (by omega))];exact av rfl
   rw[bh e (by unfold big;omega),ha,hb0];rfl
  ·have e:iter (Mi ((0:Int),[a,b],ai [a,b],())) 2 ((0:Int),())=some (.inl (b,())):=by
    rw[aF (y:=(((1:Nat):Int),())) (by simpa[ha] using hb 0 (by omega))];exact av (by simpa[hb0] using hb 1 (by omega))
   rw[bh e (by unfold big;omega),ha];rfl
 ·have e:iter (Mi ((0:Int),[a,b],ai [a,b],())) 1 ((0:Int),())=some (.inl (a,())):=av (by simpa[ha] using hb 0 (by omega));rw[bh e (by unfold big;omega)];simp[ha]
end Go.Fn
set_option linter.unusedSimpArgs false
set_option linter.unusedVariables false
namespace Go.Fn
open Go.R Go.Sort
theorem LX{x y:Ev}:QH x y=true↔x.1<y.1\/(x.1=y.1/\x.2.1<y.2.1):=by unfold QH;simp
theorem Vf{x y:Ev}:QH x y=false↔y.1<x.1\/(x.1=y.1/\y.2.1<=x.2.1):=by rw[<-Bool.not_eq_true,LX];omega
theorem Qh{x y z:Ev}(h1:QH x y=true)(h2:QH y z=true):QH x z=true:=by rw[LX]at *;omega
abbrev Rh(l:List Ev):Prop:=l.Pairwise fun x y=>QH x y=true
theorem Sz:∀(l:List Ev),(∀n,n+1<l.length->QH (l.getD n vp) (l.getD (n+1) vp)=true)->Rh l
 | [],_=>List.Pairwise.nil
 | [x],_=>List.pairwise_singleton _ _
 |x::y::l,h=>by
  have ih:=Sz (y::l) (fun n hn=>h (n+1) (by simpa using hn));have hxy:QH x y=true:=h 0 (by simp);refine List.Pairwise.cons (fun z hz=>?_) ih;rcases List.mem_cons.1 hz with rfl|hz
  ·exact hxy
  ·exact Qh hxy ((List.pairwise_cons.1 ih).1 z hz)
theorem Oi{l:List Ev}(h:L2 l=true):Rh l:=by refine Sz l fun n hn=>?_;have:=R1 h hn;simp only[Oe,Bool.and_eq_true,Q3,Bool.not_eq_true',Bool.or_eq_false_iff,Bool.and_eq_false_iff,decide_eq_false_iff_not]at this;rw[LX];omega
noncomputable def SF(o:Option (List Ev))(x:Ev):Option (List Ev):=o.map (x:: ·)
noncomputable def merge:List Ev->List Ev->Option (List Ev)
 | [],b=>some b
 |x::a,[]=>some (x::a)
 |x::a,y::b=>bif QH x y then SF (merge a (y::b)) x else bif QH y x then SF (merge (x::a) b) y else bif decide (x=y)then SF (merge a b) x else none
termination_by a b=>a.length+b.length
theorem SQ:∀(n:Nat) (a b:List Ev),a.length+b.length=n->Rh a->Rh b ->
  match merge a b with
  |some m=>Rh m/\(∀z,z∈m↔z∈a\/z∈b)/\m.length<=a.length+b.length/\(∀x,x∈a->∀y,y∈b->x.1=y.1->x.2.1=y.2.1->x=y)
  |none=>∃x,x∈a/\∃y,y∈b/\x.1=y.1/\x.2.1=y.2.1/\x≠y:=by
 intro n;induction n using Nat.strongRecOn with
 |ind n WM=>
 intro a b hn;rcases a with _|⟨x,a⟩
 ·rw[merge];intro _ hb;exact⟨hb,fun z=>by simp,by simp,fun x hx=>absurd hx List.not_mem_nil⟩
 rcases b with _|⟨y,b⟩
 ·rw[merge];intro ha _;exact⟨ha,fun z=>by simp,by simp,fun x _ y hy=>absurd hy List.not_mem_nil⟩
 ·have ih1:=WM _ (by simp only[List.length_cons]at hn⊢;omega) a (y::b) rfl;have ih2:=WM _ (by simp only[List.length_cons]at hn⊢;omega) (x::a) b rfl;have YZ:=WM _ (by simp only[List.length_cons]at hn⊢;omega) a b rfl;rw[merge];intro ha hb;have TW:=List.pairwise_cons.1 ha;have hb':=List.pairwise_cons.1 hb;cases h1:QH x y with
  |true=>
   have ih:=ih1 TW.2 hb;simp only[cond_true];cases hm:merge a (y::b)with
   |none=>rw[hm]at ih;obtain⟨u,hu,v,hv,h⟩:=ih;exact⟨u,List.mem_cons_of_mem _ hu,v,hv,h⟩
   |some m=>
    rw[hm]at ih;obtain⟨i1,i2,i3,i4⟩:=ih;refine⟨List.Pairwise.cons (fun z hz=>?_) i1,fun z=>?_,?_,fun u hu v hv=>?_⟩
    ·rcases(i2 z).1 hz with h|h
     ·exact TW.1 z h
     ·rcases List.mem_cons.1 h with rfl|h
      ·exact h1
      ·exact Qh h1 (hb'.1 z h)
    ·simp only[List.mem_cons,i2 z,or_assoc]
    ·simp only[List.length_cons]at i3⊢;omega
    ·rcases List.mem_cons.1 hu with rfl|hu
     ·intro k1 k2;have:QH u v=true:=by
       rcases List.mem_cons.1 hv with rfl|hv
       ·exact h1
       ·exact Qh h1 (hb'.1 v hv)
      rw[LX]at this;omega
     ·exact i4 u hu v hv
  |false=>
   cases h2:QH y x with
   |true=>
    have ih:=ih2 ha hb'.2;simp only[cond_true,cond_false];cases hm:merge (x::a) b with
    |none=>rw[hm]at ih;obtain⟨u,hu,v,hv,h⟩:=ih;exact⟨u,hu,v,List.mem_cons_of_mem _ hv,h⟩
    |some m=>
     rw[hm]at ih;obtain⟨i1,i2,i3,i4⟩:=ih;refine⟨List.Pairwise.cons (fun z hz=>?_) i1,fun z=>?_,?_,fun u hu v hv=>?_⟩
     ·rcases(i2 z).1 hz with h|h
      ·rcases List.mem_cons.1 h with rfl|h
       ·exact h2
       ·exact Qh h2 (TW.1 z h)
      ·exact hb'.1 z h
     ·rw[List.mem_cons,i2 z,List.mem_cons,List.mem_cons];constructor
      ·rintro(h|h|h)
       ·exact .inr (.inl h)
       ·exact .inl h
       ·exact .inr (.inr h)
      ·rintro(h|h|h)
       ·exact .inr (.inl h)
       ·exact .inl h
       ·exact .inr (.inr h)
     ·simp only[List.length_cons]at i3⊢;omega
     ·rcases List.mem_cons.1 hv with rfl|hv
      ·intro k1 k2;have:QH v u=true:=by
        rcases List.mem_cons.1 hu with rfl|hu
        ·exact h2
        ·exact Qh h2 (TW.1 u hu)
       rw[LX]at this;omega
      ·exact i4 u hu v hv
   |false=>
    have hk:x.1=y.1/\x.2.1=y.2.1:=by rw[Vf]at h1 h2;omega
    by_cases he:x=y
    ·subst he;have ih:=YZ TW.2 hb'.2;simp only[cond_true,cond_false,decide_true];cases hm:merge a b with
     |none=>rw[hm]at ih;obtain⟨u,hu,v,hv,h⟩:=ih;exact⟨u,List.mem_cons_of_mem _ hu,v,List.mem_cons_of_mem _ hv,h⟩
     |some m=>
      rw[hm]at ih;obtain⟨i1,i2,i3,i4⟩:=ih;refine⟨List.Pairwise.cons (fun z hz=>?_) i1,fun z=>?_,?_,fun u hu v hv k1 k2=>?_⟩
      ·rcases(i2 z).1 hz with h|h
       ·exact TW.1 z h
       ·exact hb'.1 z h
      ·rw[List.mem_cons,i2 z,List.mem_cons,List.mem_cons];constructor
       ·rintro(h|h|h)
        ·exact .inl (.inl h)
        ·exact .inl (.inr h)
        ·exact .inr (.inr h)
       ·rintro((h|h)|(h|h))
        ·exact .inl h
        ·exact .inr (.inl h)
        ·exact .inl h
        ·exact .inr (.inr h)
      ·simp only[List.length_cons]at i3⊢;omega
      ·rcases List.mem_cons.1 hu with AD|AD <;> rcases List.mem_cons.1 hv with xw|xw
       ·rw[AD,xw]
       ·have:=hb'.1 v xw;rw[LX,<-AD]at this;omega
       ·have:=TW.1 u AD;rw[LX,<-xw]at this;omega
       ·exact i4 u AD v xw k1 k2
    ·simp only[cond_false,decide_eq_false he];exact⟨x,List.mem_cons_self ..,y,List.mem_cons_self ..,hk.1,hk.2,he⟩
theorem iW{a b:List Ev}(ha:Rh a)(hb:Rh b):
  match merge a b with
  |some m=>Rh m/\(∀z,z∈m↔z∈a\/z∈b)/\m.length<=a.length+b.length/\(∀x,x∈a->∀y,y∈b->x.1=y.1->x.2.1=y.2.1->x=y)
  |none=>∃x,x∈a/\∃y,y∈b/\x.1=y.1/\x.2.1=y.2.1/\x≠y:=SQ _ a b rfl ha hb
noncomputable def NV(a b:List Ev):List Ev×Bool:=bif L2 a then bif L2 b then(match merge a b with|none=>([],false)|some m=>bif L2 m then(m,true)else([],false))else([],false)else([],false)
theorem R8(a b:List Ev):(NV a b).1.length<=60:=by
 unfold NV;cases L2 a with
 |false=>exact Nat.zero_le _
 |true=>
  cases L2 b with
  |false=>exact Nat.zero_le _
  |true=>
   simp only[cond_true];cases merge a b with
   |none=>exact Nat.zero_le _
   |some m=>
    simp only[];cases h:L2 m with
    |false=>exact Nat.zero_le _
    |true=>exact Mf h
theorem Py(x y:Ev):MV x.1 x.2.1 x.2.2.1 x.2.2.2.1 x.2.2.2.2.1 x.2.2.2.2.2.1 x.2.2.2.2.2.2 y.1 y.2.1 y.2.2.1 y.2.2.2.1 y.2.2.2.2.1 y.2.2.2.2.2.1 y.2.2.2.2.2.2=some (QH x y,()):=by
 unfold MV QH;simp only[af];by_cases h:x.1=y.1
 ·rw[h];cases decide (y.1<y.1) <;> simp
 ·rw[decide_eq_false h,show(x.1==y.1)=false from by simpa using h];cases decide (x.1<y.1) <;> rfl
theorem VG(x y:Ev):(Bool.and (af .eql x.1 y.1) (Bool.and (af .eql x.2.1 y.2.1) (Bool.and (af .eql x.2.2.1 y.2.2.1) (Bool.and (af .eql x.2.2.2.1 y.2.2.2.1) (Bool.and (af .eql x.2.2.2.2.1 y.2.2.2.2.1) (Bool.and (af .eql x.2.2.2.2.2.1 y.2.2.2.2.2.1) (Bool.and (af .eql x.2.2.2.2.2.2 y.2.2.2.2.2.2) true)))))))=decide (x=y):=by obtain⟨x1,x2,x3,x4,x5,x6,x7⟩:=x;obtain⟨y1,y2,y3,y4,y5,y6,y7⟩:=y;rw[Bool.eq_iff_iff];simp[af,Prod.mk.injEq]
theorem Tg(l:List Ev)(x:Ev):List.append (α:=Ev) l (List.append (α:=Ev) ([]:List Ev) [x])=l++[x]:=rfl
theorem Sd(a b:List Ev)(ha:a.length<=60)(hb:b.length<=60):∀(s i k:Nat) (out:List Ev) (n:Nat),(a.length-i)+(b.length-k)=s->i<=a.length->k<=b.length->out.length<=i+k->s<n ->
  iter (Jv (a,b,())) n (out,(i:Int),(k:Int),())=some (match merge (a.drop i) (b.drop k)with|none=>.inl ([],false,())|some m=>.inr (.inl (out++m,()))):=by
 intro s;induction s using Nat.strongRecOn with
 |ind s ih=>
  intro i k out n hs hi hk ho hn;obtain⟨n,rfl⟩:∃m,n=m+1:=⟨n-1,by omega⟩
  have l8:∀x:Ev,aE (out++[x])=true:=fun x=>Mq (by simp;omega);have ll:af .lss (i:Int) (ai a)=decide (i<a.length):=aj i a;have lk:af .lss (k:Int) (ai b)=decide (k<b.length):=aj k b;have el:af .eql (i:Int) (ai a)=decide (i=a.length):=S7 i a.length;have ek:af .eql (k:Int) (ai b)=decide (k=b.length):=S7 k b.length;by_cases h1:i<a.length
  ·have hx:=dG h1 vp;by_cases h2:k<b.length
   ·have hy:=dG h2 vp;rw[hx,hy,merge];generalize We:a.getD i vp=x at hx⊢;generalize Es:b.getD k vp=y at hy⊢;cases c1:QH x y with
    |true=>
     rw[aF (y:=(out++[x],((i+1:Nat):Int),(k:Int),())) (by unfold Jv;simp only[ll,lk,el,ek,h1,h2,show ¬(k=b.length)by omega,show ¬(i=a.length)by omega,decide_true,decide_false,cond_true,cond_false,ax,ak,We,Es,Py,c1,Option.bind_some,Tg,l8,au (n:=i) (by omega)])];rw[ih (s-1) (by omega) (i+1) k (out++[x]) n (by omega) (by omega) hk (by simp;omega) (by omega),<-hy];cases merge (List.drop (i+1) a) (List.drop k b)with
     |none=>rfl
     |some m=>simp[SF]
    |false=>
     cases c2:QH y x with
     |true=>
      rw[aF (y:=(out++[y],(i:Int),((k+1:Nat):Int),())) (by unfold Jv;simp only[ll,lk,el,ek,h1,h2,show ¬(k=b.length)by omega,show ¬(i=a.length)by omega,decide_true,decide_false,cond_true,cond_false,ax,ak,We,Es,Py,c1,c2,Option.bind_some,Tg,l8,au (n:=k) (by omega)])];rw[ih (s-1) (by omega) i (k+1) (out++[y]) n (by omega) hi (by omega) (by simp;omega) (by omega),<-hx];cases merge (List.drop i a) (List.drop (k+1) b)with
      |none=>rfl
      |some m=>simp[SF]
     |false=>
      by_cases c3:x=y
      ·subst c3;rw[aF (y:=(out++[x],((i+1:Nat):Int),((k+1:Nat):Int),())) (by unfold Jv;simp only[ll,lk,el,ek,h1,h2,show ¬(k=b.length)by omega,show ¬(i=a.length)by omega,decide_true,decide_false,cond_true,cond_false,ax,ak,We,Es,Py,c1,c2,Option.bind_some,Tg,l8,VG,decide_true,Bool.not_true,aR,au (n:=i) (by omega),au (n:=k) (by omega)])];rw[ih (s-2) (by omega) (i+1) (k+1) (out++[x]) n (by omega) (by omega) (by omega) (by simp;omega) (by omega)];simp only[decide_true,cond_true,cond_false];cases merge (List.drop (i+1) a) (List.drop (k+1) b)with
       |none=>rfl
       |some m=>simp[SF]
      ·rw[av (b:=.inl ([],false,())) (by
        unfold Jv;simp only[ll,lk,el,ek,h1,h2,show ¬(k=b.length)by omega,show ¬(i=a.length)by omega,decide_true,decide_false,cond_true,cond_false,ax,ak,We,Es,Py,c1,c2,Option.bind_some,VG,c3,Bool.not_false,aR])]
       simp only[c3,decide_false,cond_false]
   ·have BY:k=b.length:=by omega
    have hdb:b.drop k=[]:=by rw[BY,List.drop_length]
    rw[aF (y:=(out++[a.getD i vp],((i+1:Nat):Int),(k:Int),())) (by unfold Jv;simp only[ll,lk,el,ek,h1,decide_eq_true BY,decide_true,cond_true,ax,ak,Tg,l8,au (n:=i) (by omega)])];rw[ih (s-1) (by omega) (i+1) k _ n (by omega) (by omega) hk (by simp;omega) (by omega),hx,hdb,merge];cases hd:List.drop (i+1) a with
    |nil=>simp[merge]
    |cons u v=>simp[merge]
  ·have Yc:i=a.length:=by omega
   have hda:a.drop i=[]:=by rw[Yc,List.drop_length]
   by_cases h2:k<b.length
   ·have hy:=dG h2 vp;rw[aF (y:=(out++[b.getD k vp],(i:Int),((k+1:Nat):Int),())) (by unfold Jv;simp only[ll,lk,el,ek,h1,h2,decide_eq_true Yc,show ¬(k=b.length)by omega,decide_true,decide_false,cond_true,cond_false,ax,ak,Tg,l8,au (n:=k) (by omega)])];rw[ih (s-1) (by omega) i (k+1) _ n (by omega) hi (by omega) (by simp;omega) (by omega),hda,merge,merge,hy];simp
   ·have BY:k=b.length:=by omega
    have hdb:b.drop k=[]:=by rw[BY,List.drop_length]
    rw[av (b:=.inr (.inl (out,()))) (by unfold Jv;simp only[ll,lk,el,ek,h1,h2,decide_false,cond_false])];rw[hda,hdb,merge];simp
theorem Rf(a b:List Ev):Jb a b=some ((NV a b).1,(NV a b).2,()):=by
 unfold Jb NV;simp only[M5,Option.bind_some];cases ha:L2 a with
 |false=>rfl
 |true=>
  cases hb:L2 b with
  |false=>rfl
  |true=>
   have hl:=Sd a b (Mf ha) (Mf hb) (a.length+b.length) 0 0 [] big (by omega) (by omega) (by omega) (by simp) (aN (by have:=Mf ha;have:=Mf hb;omega));simp only[Bool.not_true,cond_false,cond_true];unfold MG;rw[show(0:Int)=((0:Nat):Int)from rfl,hl,List.drop_zero,List.drop_zero];cases merge a b with
   |none=>rfl
   |some m=>simp only[Option.bind_some,Sum.elim_inr,Sum.elim_inl,List.nil_append,M5];cases L2 m <;> rfl
end Go.Fn
set_option linter.unusedSimpArgs false
set_option linter.unusedVariables false
namespace Go.Fn
open Go.R Go.Sort
theorem Ut:(List.range 256).all (fun n=>(M3 (n:Int)).isSome)=true:=by decide +kernel
theorem Ve{n:Nat}(h:n<=255):∃L,M3 (n:Int)=some (L,()):=by have h1:=List.all_eq_true.1 Ut n (List.mem_range.2 (by omega));obtain⟨⟨L,u⟩,hL⟩:=Option.isSome_iff_exists.1 h1;exact⟨L,hL⟩
end Go.Fn
set_option linter.unusedSimpArgs false
set_option linter.unusedVariables false
namespace Go.Fn
open Go.R Go.Sort
noncomputable def Ry(x y:Ev):Prop:=QH x y=true/\(x.1=y.1->x.2.2.1<y.2.2.1)
theorem Uz{x y z:Ev}(h1:Ry x y)(h2:Ry y z):Ry x z:=by obtain⟨a1,a2⟩:=h1;obtain⟨b1,b2⟩:=h2;refine⟨Qh a1 b1,fun h=>?_⟩;rw[LX]at a1 b1;have:=a2 (by omega);have:=b2 (by omega);omega
theorem Q4{x y:Ev}:Q3 x y=true↔Ry x y:=by unfold Ry;simp only[Q3,Bool.not_eq_true',Bool.or_eq_false_iff,Bool.and_eq_false_iff,decide_eq_false_iff_not,LX];omega
theorem Rz{R:Ev->Ev->Prop}(tr:∀x y z,R x y->R y z->R x z):∀(l:List Ev),(∀n,n+1<l.length->R (l.getD n vp) (l.getD (n+1) vp))->l.Pairwise R
 | [],_=>List.Pairwise.nil
 | [x],_=>List.pairwise_singleton _ _
 |x::y::l,h=>by
  have ih:=Rz tr (y::l) (fun n hn=>h (n+1) (by simpa using hn));have hxy:R x y:=h 0 (by simp);refine List.Pairwise.cons (fun z hz=>?_) ih;rcases List.mem_cons.1 hz with rfl|hz
  ·exact hxy
  ·exact tr _ _ _ hxy ((List.pairwise_cons.1 ih).1 z hz)
theorem getD_eq{α:Type}{l:List α}{n:Nat}(h:n<l.length)(z:α):l.getD n z=l[n]:=by rw[List.getD_eq_getElem?_getD,List.getElem?_eq_getElem h];rfl
theorem PC{l:List Ev}:L2 l=true↔l.length<=60/\(∀x,x∈l->O4 x=true)/\l.Pairwise Ry:=by
 constructor
 ·intro h;refine⟨Mf h,fun x hx=>?_,Rz (R:=Ry) (fun _ _ _ h1 h2=>Uz h1 h2) l fun n hn=>?_⟩
  ·obtain⟨n,hn,rfl⟩:=List.getElem_of_mem hx;have:=R2 h hn;rwa[getD_eq hn]at this
  ·have:=R1 h hn;simp only[Oe,Bool.and_eq_true]at this;exact Q4.1 this.2
 ·intro ⟨h1,h2,h3⟩;unfold L2;rw[decide_eq_false (by omega)];refine(aO _ _).2 fun m _ hm=>?_;rw[Nat.zero_add]at hm;cases m with
  |zero=>exact h2 _ (N5 hm _)
  |succ m=>simp only[Oe,Bool.and_eq_true];refine⟨h2 _ (N5 hm _),Q4.2 ?_⟩;rw[getD_eq hm,getD_eq (show m<l.length by omega)];exact List.pairwise_iff_getElem.1 h3 m (m+1) (by omega) hm (by omega)
theorem TN{l:List Ev}(h:l.Pairwise Ry):∀x,x∈l->∀y,y∈l->x.1=y.1->x.2.1<y.2.1->x.2.2.1<y.2.2.1:=by
 induction l with
 |nil=>intro x hx;exact absurd hx List.not_mem_nil
 |cons u l ih=>
  have h':=List.pairwise_cons.1 h;intro x hx y hy e1 e2;rcases List.mem_cons.1 hx with pW|pW <;> rcases List.mem_cons.1 hy with Tq|Tq
  ·rw[pW,Tq]at e2;omega
  ·subst pW;exact(h'.1 y Tq).2 e1
  ·have:=(h'.1 x pW).1;rw[LX,<-Tq]at this;omega
  ·exact ih h'.2 x pW y Tq e1 e2
theorem U9{l:List Ev}(h1:l.length<=60)(h2:∀x,x∈l->O4 x=true)(h3:Rh l)(h4:∀x,x∈l->∀y,y∈l->x.1=y.1->x.2.1<y.2.1->x.2.2.1<y.2.2.1):L2 l=true:=by refine PC.2 ⟨h1,h2,?_⟩;refine List.Pairwise.imp_of_mem (fun {x y} hx hy h=>⟨h,fun e=>h4 x hx y hy e ?_⟩) h3;rw[LX]at h;omega
theorem Tu{l:List Ev}(h:L2 l=true):∀x,x∈l->∀y,y∈l->x.1=y.1->x.2.1<y.2.1->x.2.2.1<y.2.2.1:=TN (PC.1 h).2.2
theorem P4{l:List Ev}(h:L2 l=true):∀x,x∈l->O4 x=true:=(PC.1 h).2.1
theorem Rx{a b:List Ev}(h:(NV a b).2=true):L2 a=true/\L2 b=true/\L2 (NV a b).1=true/\(∀z,z∈(NV a b).1↔z∈a\/z∈b)/\(NV a b).1.length<=a.length+b.length/\(∀x,x∈a->∀y,y∈b->x.1=y.1->x.2.1=y.2.1->x=y):=by
 unfold NV at h⊢;cases ha:L2 a with
 |false=>rw[ha]at h;cases h
 |true=>
  cases hb:L2 b with
  |false=>rw[ha,hb]at h;cases h
  |true=>
   rw[ha,hb]at h;have hk:=iW (Oi ha) (Oi hb);simp only[cond_true]at h⊢;cases Yd:merge a b with
   |none=>rw[Yd]at h;cases h
   |some m=>
    rw[Yd]at h hk;simp only[]at h⊢;cases hm:L2 m with
    |false=>rw[hm]at h;cases h
    |true=>exact⟨trivial,trivial,hm,hk.2.1,hk.2.2.1,hk.2.2.2⟩
noncomputable def Qm(node:Int)(s:Int×Int×Nat×Nat)(x:Ev):Int×Int×Nat×Nat:=((bif decide (x.1=node)then x.2.1+1 else s.1),max s.2.1 (x.2.2.1+1),(bif decide (x.1<=node)then s.2.2.2+1 else s.2.2.1),s.2.2.2+1)
noncomputable def NL(l:List Ev)(node:Int):Int×Int×Nat×Nat:=l.foldl (Qm node) (1,1,0,0)
noncomputable def PN(l:List Ev)(node kind IU a b:Int):Ev:=(node,(NL l node).1,(NL l node).2.1,kind,IU,a,b)
noncomputable def NN(l:List Ev)(node kind IU a b:Int):List Ev:=l.take (NL l node).2.2.1++[PN l node kind IU a b]++l.drop (NL l node).2.2.1
noncomputable def Nj(l:List Ev)(node kind IU a b:Int):List Ev×Bool:=bif L2 l then bif L2 (NN l node kind IU a b)then(NN l node kind IU a b,true)else(l,false)else(l,false)
structure Ta (node:Int) (p:List Ev) (s:Int×Int×Nat×Nat):Prop where
 c:s.2.2.2=p.length
 UL:s.2.2.1<=p.length
 s1:∀x,x∈p->x.1=node->x.2.1<s.1
 s2:s.1=1\/∃x,x∈p/\x.1=node/\s.1=x.2.1+1
 p1:∀x,x∈p->x.2.2.1<s.2.1
 p2:s.2.1=1\/∃x,x∈p/\s.2.1=x.2.2.1+1
 a1:∀x,x∈p.take s.2.2.1->x.1<=node
 a2:∀x,x∈p.drop s.2.2.1->node<x.1
theorem SA{node:Int}{p:List Ev}{s:Int×Int×Nat×Nat}{x:Ev}(h:Ta node p s)(hp:Rh (p++[x])):Ta node (p++[x]) (Qm node s x):=by
 have hlt:∀y,y∈p->QH y x=true:=fun y hy=>(List.pairwise_append.1 hp).2.2 y hy x (List.mem_singleton.2 rfl);obtain⟨h1,h2,h3,h4,h5,h6,h7,h8⟩:=h;unfold Qm;refine⟨by simp[h1],?_,fun y hy hn=>?_,?_,fun y hy=>?_,?_,?_,?_⟩
 ·cases decide (x.1<=node) <;> simp <;> omega
 ·simp only[];rcases List.mem_append.1 hy with hy|hy
  ·by_cases hx:x.1=node
   ·rw[decide_eq_true hx];have:=hlt y hy;rw[LX]at this;simp only[cond_true];omega
   ·rw[decide_eq_false hx];exact h3 y hy hn
  ·rw[List.mem_singleton]at hy;subst hy;rw[decide_eq_true hn];simp only[cond_true];omega
 ·simp only[];by_cases hx:x.1=node
  ·rw[decide_eq_true hx];exact .inr ⟨x,by simp,hx,rfl⟩
  ·rw[decide_eq_false hx];rcases h4 with h4|⟨y,hy,h4⟩
   ·exact .inl h4
   ·exact .inr ⟨y,List.mem_append_left _ hy,h4⟩
 ·simp only[];rcases List.mem_append.1 hy with hy|hy
  ·have:=h5 y hy;omega
  ·rw[List.mem_singleton]at hy;subst hy;omega
 ·simp only[];by_cases hm:s.2.1<=x.2.2.1+1
  ·exact .inr ⟨x,by simp,by omega⟩
  ·rcases h6 with h6|⟨y,hy,h6⟩
   ·exact .inl (by omega)
   ·exact .inr ⟨y,List.mem_append_left _ hy,by omega⟩
 ·simp only[];by_cases hx:x.1<=node
  ·rw[decide_eq_true hx];intro y hy;rw[cond_true,h1,List.take_of_length_le (by simp)]at hy;rcases List.mem_append.1 hy with hy|hy
   ·have:=hlt y hy;rw[LX]at this;omega
   ·rw[List.mem_singleton]at hy;subst hy;exact hx
  ·rw[decide_eq_false hx];intro y hy;rw[cond_false,List.take_append_of_le_length h2]at hy;exact h7 y hy
 ·simp only[];by_cases hx:x.1<=node
  ·rw[decide_eq_true hx];intro y hy;rw[cond_true,h1,List.drop_of_length_le (by simp)]at hy;exact absurd hy List.not_mem_nil
  ·rw[decide_eq_false hx];intro y hy;rw[cond_false,List.drop_append_of_le_length h2]at hy;rcases List.mem_append.1 hy with hy|hy
   ·exact h8 y hy
   ·rw[List.mem_singleton]at hy;subst hy;omega
theorem Rn(node:Int):∀(l p:List Ev) (s:Int×Int×Nat×Nat),Rh (p++l)->Ta node p s->Ta node (p++l) (l.foldl (Qm node) s)
 | [],p,s,_,h=>by simpa using h
 |x::l,p,s,hp,h=>by
  have e:p++x::l=(p++[x])++l:=by simp
  rw[e]at hp⊢;exact Rn node l (p++[x]) (Qm node s x) hp (SA h (List.pairwise_append.1 hp).1)
theorem Ox(node:Int){l:List Ev}(h:Rh l):Ta node l (NL l node):=by have:=Rn node l [] (1,1,0,0) (by simpa using h) ⟨rfl,Nat.le_refl _,fun x hx=>absurd hx List.not_mem_nil,.inl rfl,fun x hx=>absurd hx List.not_mem_nil,.inl rfl,fun x hx=>absurd (List.mem_of_mem_take hx) List.not_mem_nil,fun x hx=>absurd (List.mem_of_mem_drop hx) List.not_mem_nil⟩;exact this
theorem LN{l:List Ev}{node kind IU a b:Int}(z:Ev):z∈NN l node kind IU a b↔z=PN l node kind IU a b\/z∈l:=by
 unfold NN;rw[List.mem_append,List.mem_append,List.mem_singleton];constructor
 ·rintro((h|h)|h)
  ·exact .inr (List.mem_of_mem_take h)
  ·exact .inl h
  ·exact .inr (List.mem_of_mem_drop h)
 ·rintro(h|h)
  ·exact .inl (.inr h)
  ·rw[<-List.take_append_drop (NL l node).2.2.1 l,List.mem_append]at h;rcases h with h|h
   ·exact .inl (.inl h)
   ·exact .inr h
theorem PE{l:List Ev}(h:Rh l)(node kind IU a b:Int):(NN l node kind IU a b).length=l.length+1:=by have:=(Ox node h).UL;unfold NN;simp only[List.length_append,List.length_take,List.length_drop,List.length_singleton];omega
theorem S6{l:List Ev}(h:Rh l)(node kind IU a b:Int):Rh (NN l node kind IU a b):=by
 have hi:=Ox node h;have ht:∀y,y∈l.take (NL l node).2.2.1->QH y (PN l node kind IU a b)=true:=fun y hy=>by
  rw[LX];have h1:=hi.a1 y hy;have h2:=hi.s1 y (List.mem_of_mem_take hy);show y.1<node\/y.1=node/\y.2.1<(NL l node).1;by_cases e:y.1=node
  ·exact .inr ⟨e,h2 e⟩
  ·exact .inl (by omega)
 have hd:∀y,y∈l.drop (NL l node).2.2.1->QH (PN l node kind IU a b) y=true:=fun y hy=>by rw[LX];exact .inl (hi.a2 y hy)
 have h0:=h;rw[<-List.take_append_drop (NL l node).2.2.1 l,Rh,List.pairwise_append]at h0;unfold NN Rh;rw[List.pairwise_append,List.pairwise_append];refine⟨⟨h0.1,List.pairwise_singleton _ _,fun x hx y hy=>?_⟩,h0.2.1,fun x hx y hy=>?_⟩
 ·rw[List.mem_singleton]at hy;subst hy;exact ht x hx
 ·rcases List.mem_append.1 hx with hx|hx
  ·exact h0.2.2 x hx y hy
  ·rw[List.mem_singleton]at hx;subst hx;exact hd y hy
theorem S5{l:List Ev}(h:L2 l=true){node kind IU a b:Int}(hl:l.length+1<=60)(he:O4 (PN l node kind IU a b)=true):L2 (NN l node kind IU a b)=true:=by
 have hs:=Oi h;have hi:=Ox node hs;refine U9 (by rw[PE hs];exact hl) (fun x hx=>?_) (S6 hs _ _ _ _ _) fun x hx y hy e1 e2=>?_
 ·rcases(LN x).1 hx with pW|pW
  ·rw[pW];exact he
  ·exact P4 h x pW
 ·rcases(LN x).1 hx with pW|pW <;> rcases(LN y).1 hy with Tq|Tq
  ·rw[pW,Tq]at e2;omega
  ·have:=hi.s1 y Tq (by rw[<-e1,pW];rfl);rw[pW]at e2;have e2:(NL l node).1<y.2.1:=e2;omega
  ·rw[Tq];exact hi.p1 x pW
  ·exact Tu h x pW y Tq e1 e2
theorem VC(l m:List Ev):List.append (α:=Ev) l m=l++m:=rfl
theorem Sc(l:List Ev)(hj:L2 l=true)(node kind IU a b:Int)(same:List Ev):NY (l,node,()) (same,node,(1:Int),(1:Int),kind,IU,a,b,(0:Int),(0:Int),())=some (.inl (same,node,(NL l node).1,(NL l node).2.1,kind,IU,a,b,(((NL l node).2.2.1:Nat):Int),())):=by
 have S9:=Mf hj;refine(bI (body:=M0 (l,node,())) l vp (by omega) (Qm node) (fun(s:Int×Int×Nat×Nat) n=>(same,node,s.1,s.2.1,kind,IU,a,b,((s.2.2.1:Nat):Int),(n:Int),())) (fun n s=>s.2.2.2=n) (fun s=>Sum.inl (same,node,s.1,s.2.1,kind,IU,a,b,((s.2.2.1:Nat):Int),())) (fun n s hn hs=>⟨?_,by unfold Qm;simp[hs]⟩) (fun s hs=>?_) (1,1,0,0) rfl).1
 ·have he:=Oz.1 (R2 hj hn);unfold M0 Qm;simp only[aj,hn,decide_true,cond_true,ax,ak];revert he;generalize l.getD n vp=e;intro he;have e1:aa .add .i64 e.2.1 1=e.2.1+1:=bU (by omega) (by omega);have e2:aa .add .i64 e.2.2.1 1=e.2.2.1+1:=bU (by omega) (by omega);have e3:bK true s.2.1 (e.2.2.1+1)=max s.2.1 (e.2.2.1+1):=by unfold bK;simp <;> omega
  have e4:af .eql e.1 node=decide (e.1=node):=by simp[af,Bool.beq_eq_decide_eq]
  have e5:af .leq e.1 node=decide (e.1<=node):=rfl;simp only[e1,e2,e3,e4,e5,au (n:=n) (by omega),hs];cases decide (e.1=node) <;> cases decide (e.1<=node) <;> rfl
 ·unfold M0;simp only[aj,Nat.lt_irrefl,decide_false,cond_false]
theorem NX(l:List Ev)(node kind IU a b:Int)(hl:l.length<=1073741824):Js l node kind IU a b=some ((Nj l node kind IU a b).1,(Nj l node kind IU a b).2,()):=by
 unfold Js Nj;have l8:aE l=true:=Mq hl;simp only[M5,Option.bind_some,VC,List.nil_append,l8,cond_true];cases hj:L2 l with
 |false=>rfl
 |true=>
  have S9:=Mf hj;have hi:=Ox node (Oi hj);have YP:=hi.UL;simp only[Bool.not_true,cond_false,cond_true,Sc l hj,Option.bind_some,Sum.elim_inl,VC,List.nil_append];generalize hA:NL l node=A at YP;have s1:cS l (0:Int) ((A.2.2.1:Nat):Int)=true:=by unfold cS;simp <;> omega
  have s2:cS l ((A.2.2.1:Nat):Int) (ai l)=true:=by unfold cS ai;simp <;> omega
  have t1:eR l (0:Int) ((A.2.2.1:Nat):Int)=l.take A.2.2.1:=by unfold eR;simp
  have t2:eR l ((A.2.2.1:Nat):Int) (ai l)=l.drop A.2.2.1:=by unfold eR ai;rw[Int.toNat_natCast,Int.toNat_natCast];exact List.take_of_length_le (by simp)
  have k1:aE (l.take A.2.2.1)=true:=Mq (by simp;omega);have k2:∀x:Ev,aE (l.take A.2.2.1++[x])=true:=fun x=>Mq (by simp;omega);have k3:∀x:Ev,aE (l.take A.2.2.1++[x]++l.drop A.2.2.1)=true:=fun x=>Mq (by simp;omega);simp only[s1,s2,t1,t2,k1,k2,k3,cond_true];have hw:NN l node kind IU a b=l.take A.2.2.1++[(node,A.1,A.2.1,kind,IU,a,b)]++l.drop A.2.2.1:=by unfold NN PN;rw[hA]
  rw[hw];cases L2 (l.take A.2.2.1++[(node,A.1,A.2.1,kind,IU,a,b)]++l.drop A.2.2.1) <;> rfl
end Go.Fn
set_option linter.unusedSimpArgs false
set_option linter.unusedVariables false
namespace Go.Fn
open Go.R Go.Sort
structure PX (n:Nat) (base:List Ev) (S:Int->Prop) (l:List Ev):Prop where
 j:L2 l=true
 len:l.length<=n
 st:∀x,x∈l->x.2.2.1<=(n:Int)
 Wu:∀x,x∈l->∀s:Int,1<=s->s<=x.2.1->∃y,y∈l/\y.1=x.1/\y.2.1=s
 sub:∀x,x∈base->x∈l
 new:∀x,x∈l->x∈base\/S x.1
theorem PX.mono{n m:Nat}{base:List Ev}{S:Int->Prop}{l:List Ev}(h:PX n base S l)(hm:n<=m):PX m base S l:=⟨h.j,by have:=h.len;omega,fun x hx=>by have:=h.st x hx;omega,h.Wu,h.sub,h.new⟩
theorem PX.add{n:Nat}{base:List Ev}{S:Int->Prop}{l:List Ev}(h:PX n base S l){node:Int}(hS:S node)(kind IU a b:Int):PX (n+1) base S (Nj l node kind IU a b).1:=by
 unfold Nj;rw[h.j];simp only[cond_true];cases hw:L2 (NN l node kind IU a b)with
 |false=>exact h.mono (Nat.le_succ _)
 |true=>
  have hs:=Oi h.j;have hi:=Ox node hs;simp only[cond_true];refine⟨hw,by rw[PE hs];have:=h.len;omega,fun x hx=>?_,fun x hx s h1 h2=>?_,fun x hx=>(LN x).2 (.inr (h.sub x hx)),fun x hx=>?_⟩
  ·rcases(LN x).1 hx with e|e
   ·rw[e];show(NL l node).2.1<=_;rcases hi.p2 with p|⟨y,hy,p⟩
    ·rw[p];omega
    ·rw[p];have:=h.st y hy;omega
   ·have:=h.st x e;omega
  ·rcases(LN x).1 hx with e|e
   ·subst e;have h2:s<=(NL l node).1:=h2;by_cases e:s=(NL l node).1
    ·exact⟨_,hx,rfl,e.symm⟩
    ·rcases hi.s2 with p|⟨y,hy,q,p⟩
     ·omega
     ·obtain⟨z,hz,e1,e2⟩:=h.Wu y hy s h1 (by omega);exact⟨z,(LN z).2 (.inr hz),by rw[e1,q];rfl,e2⟩
   ·obtain⟨z,hz,e1,e2⟩:=h.Wu x e s h1 h2;exact⟨z,(LN z).2 (.inr hz),e1,e2⟩
  ·rcases(LN x).1 hx with e|e
   ·rw[e];exact .inr hS
   ·exact h.new x e
theorem RS(b:List Int)(hb:b.length<=1048576)(i h:Int)(hi:0<=i){n:Nat}(hn:n<=1000){base:List Ev}{S:Int->Prop}{l:List Ev}(hl:PX n base S l){node:Int}(hS:S node):
  Yl (L0 b i h l node) fun y=>PX (n+1) base S y.1/\y.2.1=b/\0<=y.2.2.1:=by
 have UO:l.length<=1073741824:=by have:=hl.len;omega
 unfold L0;refine(Km b hb i h 4 hi (by omega)).bind fun y0 ⟨_,_,a3,a4⟩=>?_;rw[a3];refine(Km b hb _ _ 4 a4 (by omega)).bind fun y1 ⟨_,_,b3,b4⟩=>?_;rw[b3];refine .cond (fun _=>?_) fun _=>?_
 ·refine(Km b hb _ _ 3 b4 (by omega)).bind fun y2 ⟨_,_,c3,c4⟩=>?_;rw[c3];refine(Km b hb _ _ 40 c4 (by omega)).bind fun y3 ⟨_,_,d3,d4⟩=>?_;rw[NX l _ _ _ _ _ UO];exact .ret ⟨hl.add hS _ _ _ _,d3,d4⟩
 ·refine(Km b hb _ _ 3 b4 (by omega)).bind fun y2 ⟨_,_,c3,c4⟩=>?_;rw[c3];refine(Km b hb _ _ 40 c4 (by omega)).bind fun y3 ⟨_,_,d3,d4⟩=>?_;rw[NX l _ _ _ _ _ UO];exact .ret ⟨hl.add hS _ _ _ _,d3,d4⟩
abbrev Vv:=(List Int)×Int×Int×(List Ev)×Int×Unit
abbrev Wh:=((List Int)×Int×Int×(List Ev)×Unit)⊕Empty
theorem Uf (b:List Int) (hb:b.length<=1048576) {body:Vv->Option (Vv⊕Wh)} {base:List Ev} {S:Int->Prop} (N:Nat) (hN:N<=100)
  (hbody:∀(i h SE:Int) (l:List Ev) (n:Nat),0<=i->n<=200->PX n base S l->0<SE->Yl (body (b,i,h,l,SE,())) fun r=>match r with| .inl y=>y.1=b/\0<=y.2.1/\PX (n+1) base S y.2.2.2.1/\y.2.2.2.2.1=aa .sub .i64 SE 1| .inr _=>False)
  (hend:∀(i h SE:Int) (l:List Ev),¬(0<SE)->body (b,i,h,l,SE,())=some (.inr (.inl (b,i,h,l,()))))
  (i h SE:Int) (l:List Ev) (hi:0<=i) (hc0:0<=SE) (hc:SE<=5) (hl:PX N base S l):
  Yl (iter body big (b,i,h,l,SE,())) fun r=>match r with| .inl y=>y.1=b/\0<=y.2.1/\PX (N+5) base S y.2.2.2.1| .inr _=>False:=by
 refine Yl.loop (fun x=>x.1=b/\0<=x.2.1/\0<=x.2.2.2.2.1/\x.2.2.2.2.1<=5/\PX (N+(5-x.2.2.2.2.1).toNat) base S x.2.2.2.1) (fun x=>x.2.2.2.2.1.toNat) (fun x hx=>?_) big _ ⟨rfl,hi,hc0,hc,hl.mono (by omega)⟩ (aN (by show SE.toNat<_;omega));obtain⟨xb,xi,xh,xl,xc,u⟩:=x;obtain⟨x1,x2,x3,x4,x5⟩:=hx;simp only[]at x1 x2 x3 x4 x5;subst x1;by_cases hp:0<xc
 ·refine(hbody xi xh xc xl _ x2 (by omega) x5 hp).mono fun r hr=>?_;match r,hr with
  | .inl y,⟨h1,h2,h3,h4⟩=>have e:aa .sub .i64 xc 1=xc-1:=bM (by omega) (by omega);rw[e]at h4;refine⟨⟨h1,h2,by omega,by omega,h3.mono (by omega)⟩,?_⟩;show y.2.2.2.2.1.toNat<xc.toNat;omega
 ·rw[hend xi xh xc xl hp];exact .ret ⟨rfl,x2,x5.mono (by omega)⟩
theorem VO(a:Int):af .gtr a (0:Int)=decide (0<a):=rfl
end Go.Fn
set_option linter.unusedSimpArgs false
set_option linter.unusedVariables false
namespace Go.Fn
open Go.R Go.Sort
theorem gI(d:Array Int)(i:Nat):ae zI d.toList (i:Int)=d[i]!:=gA d i
noncomputable def Vg(u v:Ev):Bool:=decide (u.2.2.1<v.2.2.1)||(decide (u.2.2.1=v.2.2.1)&&decide (u.1<v.1))
theorem NA{u v:Ev}:Vg u v=true↔u.2.2.1<v.2.2.1\/(u.2.2.1=v.2.2.1/\u.1<v.1):=by unfold Vg;simp
theorem R6{u v:Ev}:Vg u v=false↔v.2.2.1<u.2.2.1\/(u.2.2.1=v.2.2.1/\v.1<=u.1):=by rw[<-Bool.not_eq_true,NA];omega
noncomputable def Mz(l:List Ev)(x y:Int):Bool:=Vg (l.getD x.toNat vp) (l.getD y.toNat vp)
theorem OR(l:List Ev):SWO (Mz l):=⟨fun x=>by unfold Mz;rw[R6];omega,fun x y z h1 h2=>by unfold Mz at *;rw[NA]at *;omega,fun x y z h1 h2=>by unfold Mz at *;rw[R6]at *;omega⟩
noncomputable def Tj(l:List Ev)(x y:Int):Int:=bif Mz l x y then -1 else bif Mz l y x then 1 else 0
theorem Pn(l:List Ev)(x y:Int):af .lss (Tj l x y) (0:Int)=Mz l x y:=by unfold Tj;cases Mz l x y <;> cases Mz l y x <;> rfl
theorem Vj(a b c d:Int):(bif decide (TX a b=0)then TX c d else TX a b)=(bif decide (a<b)||(decide (a=b)&&decide (c<d))then -1 else bif decide (b<a)||(decide (b=a)&&decide (d<c))then 1 else 0):=by
 unfold TX;by_cases h1:a<b
 ·simp[h1]
 ·by_cases h2:b<a
  ·have h3:¬(a=b):=by omega
   have h4:¬(b=a):=by omega
   simp[h1,h2,h3,h4]
  ·have h3:a=b:=by omega
   subst h3;by_cases h4:c<d
   ·simp[h4]
   ·by_cases h5:d<c
    ·simp[h4,h5]
    ·simp[h4,h5]
theorem Ui(l:List Ev)(x y:Int)(hx:0<=x/\x<l.length)(hy:0<=y/\y<l.length):Lg x y l=some (Tj l x y,()):=by
 obtain⟨n,rfl⟩:∃n:Nat,x=(n:Int):=⟨x.toNat,by omega⟩
 obtain⟨m,rfl⟩:∃n:Nat,y=(n:Int):=⟨y.toNat,by omega⟩
 unfold Lg Tj Mz;simp only[ax,ak,show n<l.length by omega,show m<l.length by omega,decide_true,cond_true,compare_eq,Option.bind_some,Int.toNat_natCast];generalize l.getD n vp=u;generalize l.getD m vp=v;rw[show(List.append (α:=Int) (List.append (α:=Int) ([]:List Int) [TX u.2.2.1 v.2.2.1]) [TX u.1 v.1])=[TX u.2.2.1 v.2.2.1,TX u.1 v.1]from rfl,or_eq,Vj];rfl
abbrev Rg(l:List Ev)(d:Array Int):Prop:=∀k,k<d.size->0<=d[k]! /\ d[k]! < l.length
theorem Rg.perm{l:List Ev}{d d':Array Int}{a b:Nat}(h:Rg l d)(hb:b<=d.size)(hp:PermIn a b d d'):Rg l d':=by have h0:=permIn_mono d d' a b 0 d.size (Nat.zero_le _) hb (Nat.le_refl _) hp;have:=permIn_all d d' 0 d.size (fun x=>0<=x/\x<l.length) (Nat.le_refl _) h0 (fun i _ hi=>h i hi);exact fun k hk=>this k (Nat.zero_le _) (by rw[<-hp.1];exact hk)
theorem Uh{l:List Ev}{d:Array Int}(h:Rg l d){i j:Nat}(hi:i<d.size)(hj:j<d.size):Lg d[i]! d[j]! l=some (Tj l d[i]! d[j]!,()):=Ui l _ _ (h i hi) (h j hj)
theorem Ss{n:Nat}(h:n<1099511627776):aq .i64 (ay .shr .u64 (aq .u64 (n:Int)) (1:Int))=((n / 2:Nat):Int):=by
 rw[Tl h];have e:ay .shr .u64 (n:Int) (1:Int)=((n / 2:Nat):Int):=by show(n:Int).fdiv (2 ^ 1)=_;rw[Int.fdiv_eq_ediv_of_nonneg _ (by decide)];omega
 rw[e,Tk (by omega)]
theorem Tw(l:List Ev)(a b i:Nat):∀(j:Nat) (d:Array Int) (n:Nat),Rg l d->j<d.size->d.size<=255->j<n->iter (IB ((a:Int),(b:Int),l,(i:Int),())) n (d.toList,(j:Int),())=some (.inl ((insInner (Mz l) a j d).toList,())):=by
 intro j;induction j with
 |zero=>
  intro d n ho hj hd hn;obtain⟨n,rfl⟩:∃m,n=m+1:=⟨n-1,by omega⟩
  refine av ?_;unfold IB insInner;simp only[QA,show ¬(0>a)by omega,decide_false,cond_false]
 |succ j ih=>
  intro d n ho hj hd hn;obtain⟨n,rfl⟩:∃m,n=m+1:=⟨n-1,by omega⟩
  have e1:aa .sub .i64 ((j+1:Nat):Int) (1:Int)=(j:Int):=iD (by omega);have hc:=Uh ho hj (show j<d.size by omega);unfold insInner;by_cases h:j+1>a
  ·cases hl:Mz l d[j+1]! d[j]! with
   |true=>simp only[h,decide_true,Bool.true_and,if_true];rw[<-ih (swp d (j+1) j) n (ho.perm (Nat.le_refl _) (swp_permIn d 0 d.size (j+1) j (by omega) hj (by omega) (by omega) (Nat.le_refl _))) (by rw[size_swp];omega) (by rw[size_swp];omega) (by omega)];refine aF ?_;unfold IB;simp only[QA,h,decide_true,cond_true,e1,OZ,gI,Qp,hj,show j<d.size by omega,hc,Option.bind_some,Pn,hl,QC]
   |false=>simp only[Bool.and_false,Bool.false_eq_true,if_false];refine av ?_;unfold IB;simp only[QA,h,decide_true,cond_true,e1,OZ,gI,hj,show j<d.size by omega,hc,Option.bind_some,Pn,hl,cond_false]
  ·simp only[h,decide_false,Bool.false_and,Bool.false_eq_true,if_false];refine av ?_;unfold IB;simp only[QA,h,decide_false,cond_false]
theorem PS{lt:Int->Int->Bool}(a b:Nat):∀j (d:Array Int),j<d.size->PermIn 0 d.size d (insInner lt a j d)
 |0,d,_=>permIn_refl _ _ _
 |j+1,d,hj=>by
  unfold insInner;split
  ·have h1:=PS (lt:=lt) a b j (swp d (j+1) j) (by rw[size_swp];omega);rw[size_swp]at h1;exact permIn_trans _ _ _ 0 d.size (swp_permIn d 0 d.size (j+1) j (by omega) hj (by omega) (by omega) (Nat.le_refl _)) h1
  ·exact permIn_refl _ _ _
theorem SS(l:List Ev)(a b:Nat)(hb:b<=255):∀(k i:Nat) (d:Array Int) (n:Nat),Rg l d->b-i<=k->b<=d.size->d.size<=255->i<=256->k<n->iter (IM ((a:Int),(b:Int),l,())) n (d.toList,(i:Int),())=some (.inl ((insOuter (Mz l) a b i d).toList,())):=by
 intro k;induction k with
 |zero=>
  intro i d n ho hk hbd hd hi hn;obtain⟨n,rfl⟩:∃m,n=m+1:=⟨n-1,by omega⟩
  refine av ?_;unfold IM insOuter;simp only[Of,show ¬(i<b)by omega,decide_false,cond_false,if_false]
 |succ k ih=>
  intro i d n ho hk hbd hd hi hn;obtain⟨n,rfl⟩:∃m,n=m+1:=⟨n-1,by omega⟩
  unfold insOuter;by_cases h:i<b
  ·simp only[h,if_true];rw[<-ih (i+1) (insInner (Mz l) a i d) n (ho.perm (Nat.le_refl _) (PS a b i d (by omega))) (by omega) (by rw[M4];omega) (by rw[M4];omega) (by omega) (by omega)];refine aF ?_;unfold IM Ju;simp only[Of,h,decide_true,cond_true,Tw l a b i i d big ho (by omega) hd (aN (by omega)),Option.bind_some,Sum.elim_inl,au (n:=i) (by omega)]
  ·simp only[h,if_false];refine av ?_;unfold IM;simp only[Of,h,decide_false,cond_false]
theorem US(l:List Ev)(d:Array Int)(a b:Nat)(ho:Rg l d)(hab:a<=b)(hb:b<=d.size)(hd:d.size<=255):∃d',IW d.toList (a:Int) (b:Int) l=some (d'.toList,())/\PermIn a b d d'/\SortedIn (Mz l) a b d':=by refine⟨insertionSort (Mz l) d a b,?_,insertionSort_holds (OR l) d a b hab hb⟩;unfold IW Jt insertionSort;simp only[au (n:=a) (by omega),SS l a b (by omega) 256 (a+1) d big ho (by omega) hb hd (by omega) (aN (by omega)),Option.bind_some,Sum.elim_inl]
theorem V1(a b n:Nat)(hab:a+n<=b):∀(r i:Nat) (d:Array Int) (f:Nat),i+r=n->b+n<=d.size->d.size<=255->r<f ->
  ∃d',iter (I9 ((a:Int),(b:Int),(n:Int),())) f (d.toList,(i:Int),())=some (.inl (d'.toList,()))/\PermIn a (b+n) d d' /\
   (∀k,i<=k->k<n->d'[a+k]! = d[b+k]! /\ d'[b+k]! = d[a+k]!)/\(∀t,(∀k,i<=k->k<n->t≠a+k/\t≠b+k)->d'[t]! = d[t]!):=by
 intro r;induction r with
 |zero=>
  intro i d f hi hb hd hf;obtain⟨f,rfl⟩:∃m,f=m+1:=⟨f-1,by omega⟩
  refine⟨d,av ?_,permIn_refl _ _ _,fun k h1 h2=>by omega,fun t _=>rfl⟩;unfold I9;simp only[Of,show ¬(i<n)by omega,decide_false,cond_false]
 |succ r ih=>
  intro i d f hi hb hd hf;obtain⟨f,rfl⟩:∃m,f=m+1:=⟨f-1,by omega⟩
  obtain⟨d',h1,h2,h3,h4⟩:=ih (i+1) (swp d (a+i) (b+i)) f (by omega) (by rw[size_swp];omega) (by rw[size_swp];omega) (by omega);refine⟨d',?_,permIn_trans _ _ _ a (b+n) (swp_permIn d a (b+n) (a+i) (b+i) (by omega) (by omega) (by omega) (by omega) hb) h2,fun k k1 k2=>?_,fun t ht=>?_⟩
  ·rw[<-h1];refine aF ?_;unfold I9;have e1:aa .add .i64 (b:Int) (i:Int)=((b+i:Nat):Int):=aS (by omega);have e2:aa .add .i64 (a:Int) (i:Int)=((a+i:Nat):Int):=aS (by omega);simp only[Of,show i<n by omega,decide_true,cond_true,e1,e2,OZ,gI,Qp,show a+i<d.size by omega,show b+i<d.size by omega,QC,aR,au (n:=i) (by omega)]
  ·by_cases e:k=i
   ·subst e;have x1:=h4 (a+k) (fun j _ _=>by omega);have x2:=h4 (b+k) (fun j _ _=>by omega);rw[x1,x2,swp_left d _ _ (by omega) (by omega),swp_right d _ _ (by omega)];exact⟨rfl,rfl⟩
   ·obtain⟨x1,x2⟩:=h3 k (by omega) k2;rw[x1,x2,swp_other d _ _ _ (by omega) (by omega),swp_other d _ _ _ (by omega) (by omega)];exact⟨rfl,rfl⟩
  ·rw[h4 t (fun k k1 k2=>ht k (by omega) k2)];have:=ht i (Nat.le_refl _) (by omega);exact swp_other d _ _ _ this.1 this.2
theorem Rd(l:List Ev)(d:Array Int)(a b n:Nat)(hab:a+n<=b)(hb:b+n<=d.size)(hd:d.size<=255):∃d',IF d.toList (a:Int) (b:Int) (n:Int) l=some (d'.toList,())/\PermIn a (b+n) d d' /\
   (∀k,k<n->d'[a+k]! = d[b+k]! /\ d'[b+k]! = d[a+k]!)/\(∀t,(∀k,k<n->t≠a+k/\t≠b+k)->d'[t]! = d[t]!):=by
 obtain⟨d',h1,h2,h3,h4⟩:=V1 a b n hab n 0 d big (by omega) hb hd (aN (by omega));refine⟨d',?_,h2,fun k hk=>h3 k (Nat.zero_le _) hk,fun t ht=>h4 t fun k _ hk=>ht k hk⟩;unfold IF Jz;rw[show(0:Int)=((0:Nat):Int)from rfl,h1];rfl
structure WX (m i j:Nat) (cur T:Array Int):Prop where
 perm:PermIn (m-i) (m+j) cur T
 lo:∀k,k<j->T[m-i+k]! = cur[m+k]!
 hi:∀k,k<i->T[m-i+j+k]! = cur[m-i+k]!
theorem TG(l:List Ev)(m:Nat):∀(s i j:Nat) (d:Array Int) (f:Nat),i+j<=s->0<i->0<j->i<=m->m+j<=d.size->d.size<=255->s<f ->
  ∃(d1:Array Int) (i1:Nat) (T:Array Int),iter (I1 ((m:Int),l,())) f (d.toList,(i:Int),(j:Int),())=some (.inl (d1.toList,((i1:Nat):Int),()))/\d1.size=d.size/\IF d1.toList (aa .sub .i64 (m:Int) ((i1:Nat):Int)) (m:Int) ((i1:Nat):Int) l=some (T.toList,())/\WX m i j d T:=by
 intro s;induction s with
 |zero=>intro i j d f hs h0;omega
 |succ s ih=>
  intro i j d f hs hi0 YT Ff hm hd hf;obtain⟨f,rfl⟩:∃m,f=m+1:=⟨f-1,by omega⟩
  have e1:aa .sub .i64 (m:Int) (i:Int)=((m-i:Nat):Int):=sS Ff (by omega);have ne:af .neq (i:Int) (j:Int) = !decide (i=j):=by rw[<-S7 i j];rfl
  by_cases hij:i=j
  ·subst hij;obtain⟨T,h1,h2,h3,h4⟩:=Rd l d (m-i) m i (by omega) hm hd;refine⟨d,i,T,av ?_,rfl,by rw[e1];exact h1,⟨h2,fun k hk=>(h3 k hk).1,fun k hk=>?_⟩⟩
   ·unfold I1;simp only[ne,decide_true,Bool.not_true,cond_false]
   ·rw[show m-i+i+k=m+k by omega];exact(h3 k hk).2
  ·by_cases hgt:i>j
   ·obtain⟨d2,h1,h2,h3,h4⟩:=Rd l d (m-i) m j (by omega) hm hd;have tR:=h2.1;obtain⟨d1,i1,T,k1,k2,k3,k4⟩:=ih (i-j) j d2 f (by omega) (by omega) YT (by omega) (by omega) (by omega) (by omega);refine⟨d1,i1,T,?_,by omega,k3,⟨?_,fun k hk=>?_,fun k hk=>?_⟩⟩
    ·rw[<-k1];refine aF ?_;unfold I1;have e2:aa .sub .i64 (i:Int) (j:Int)=((i-j:Nat):Int):=sS (by omega) (by omega);simp only[ne,decide_eq_false hij,Bool.not_false,cond_true,QA,hgt,decide_true,e1,h1,Option.bind_some,e2]
    ·exact permIn_trans _ _ _ _ _ h2 (permIn_mono d2 T (m-(i-j)) (m+j) (m-i) (m+j) (by omega) (Nat.le_refl _) (by omega) k4.perm)
    ·rw[k4.perm.2.1 (m-i+k) (.inl (by omega)),(h3 k hk).1]
    ·by_cases cM:k<j
     ·have:=k4.lo k cM;rw[show m-(i-j)+k=m-i+j+k by omega]at this;rw[this,(h3 k cM).2]
     ·have:=k4.hi (k-j) (by omega);rw[show m-(i-j)+j+(k-j)=m-i+j+k by omega,show m-(i-j)+(k-j)=m-i+k by omega]at this;rw[this];exact h4 _ fun q hq=>by omega
   ·obtain⟨d2,h1,h2,h3,h4⟩:=Rd l d (m-i) (m+j-i) i (by omega) (by omega) hd;have tR:=h2.1;rw[show m+j-i+i=m+j by omega]at h2;obtain⟨d1,i1,T,k1,k2,k3,k4⟩:=ih i (j-i) d2 f (by omega) hi0 (by omega) Ff (by omega) (by omega) (by omega);refine⟨d1,i1,T,?_,by omega,k3,⟨?_,fun k hk=>?_,fun k hk=>?_⟩⟩
    ·rw[<-k1];refine aF ?_;unfold I1;have e2:aa .sub .i64 (j:Int) (i:Int)=((j-i:Nat):Int):=sS (by omega) (by omega);have e3:aa .add .i64 (m:Int) (j:Int)=((m+j:Nat):Int):=aS (by omega);have e4:aa .sub .i64 ((m+j:Nat):Int) (i:Int)=((m+j-i:Nat):Int):=sS (by omega) (by omega);simp only[ne,decide_eq_false hij,Bool.not_false,cond_true,QA,hgt,decide_false,cond_false,e1,e3,e4,h1,Option.bind_some,e2]
    ·exact permIn_trans _ _ _ _ _ h2 (permIn_mono d2 T (m-i) (m+(j-i)) (m-i) (m+j) (Nat.le_refl _) (by omega) (by omega) k4.perm)
    ·by_cases cM:k<j-i
     ·rw[k4.lo k cM];exact h4 _ fun q hq=>by omega
     ·have:=k4.hi (k-(j-i)) (by omega);rw[show m-i+(j-i)+(k-(j-i))=m-i+k by omega]at this;rw[this,(h3 (k-(j-i)) (by omega)).1];congr 1;omega
    ·rw[k4.perm.2.1 (m-i+j+k) (.inr (by omega))];have:=(h3 k hk).2;rw[show m+j-i+k=m-i+j+k by omega]at this;exact this
theorem Tx(l:List Ev)(d:Array Int)(s m e:Nat)(h1:s<m)(h2:m<e)(he:e<=d.size)(hd:d.size<=255):∃T,II d.toList (s:Int) (m:Int) (e:Int) l=some (T.toList,())/\WX m (m-s) (e-m) d T:=by obtain⟨d1,i1,T,k1,k2,k3,k4⟩:=TG l m 256 (m-s) (e-m) d big (by omega) (by omega) (by omega) (by omega) (by omega) hd (aN (by omega));refine⟨T,?_,k4⟩;unfold II JK;have e1:aa .sub .i64 (m:Int) (s:Int)=((m-s:Nat):Int):=sS (by omega) (by omega);have e2:aa .sub .i64 (e:Int) (m:Int)=((e-m:Nat):Int):=sS (by omega) (by omega);rw[e1,e2,k1];simp only[Option.bind_some,Sum.elim_inl,k3]
theorem bsearch{X Y:Type}{body:X->Option (X⊕Y)}(st:Nat->Nat->X)(fin:Nat->Y)(P:Nat->Bool)(lo hi:Nat)(hs:∀i j,lo<=i->i<j->j<=hi->body (st i j)=some (.inl (bif P ((i+j) / 2)then st ((i+j) / 2+1) j else st i ((i+j) / 2))))(he:∀i,body (st i i)=some (.inr (fin i))):
  ∀(k i j n:Nat),j-i<=k->k<n->lo<=i->i<=j->j<=hi->(i=lo\/P (i-1)=true)->(j=hi\/P j=false)->∃r,iter body n (st i j)=some (fin r)/\lo<=r/\r<=hi/\(r=lo\/P (r-1)=true)/\(r=hi\/P r=false):=by
 intro k;induction k with
 |zero=>
  intro i j n hk hn h1 h2 h3 h4 h5;obtain⟨n,rfl⟩:∃m,n=m+1:=⟨n-1,by omega⟩
  obtain rfl:i=j:=by omega
  exact⟨i,av (he i),h1,h3,h4,h5⟩
 |succ k ih=>
  intro i j n hk hn h1 h2 h3 h4 h5;obtain⟨n,rfl⟩:∃m,n=m+1:=⟨n-1,by omega⟩
  by_cases h:i=j
  ·subst h;exact⟨i,av (he i),h1,h3,h4,h5⟩
  ·have hb:=hs i j h1 (by omega) h3;cases hp:P ((i+j) / 2)with
   |true=>rw[hp]at hb;rw[aF hb];exact ih ((i+j) / 2+1) j n (by omega) (by omega) (by omega) (by omega) h3 (.inr (by simpa using hp)) h5
   |false=>rw[hp]at hb;rw[aF hb];exact ih i ((i+j) / 2) n (by omega) (by omega) h1 (by omega) (by omega) h4 (.inr hp)
theorem KB{lt:Int->Int->Bool}(h:SWO lt){d:Array Int}{a b u v:Nat}(hs:SortedIn lt a b d)(h1:a<=u)(h2:u<=v)(h3:v<b):lt d[v]! d[u]! = false:=by
 by_cases e:u=v
 ·subst e;exact h.irrefl _
 ·exact hs u v h1 (by omega) h3
end Go.Fn
set_option linter.unusedSimpArgs false
set_option linter.unusedVariables false
namespace Go.Fn
open Go.R Go.Sort
theorem UY(rec:List Int->Int->Int->Int->List Ev->Option (List Int×Unit))(i:Nat)(hi:0<i):∀(r k:Nat) (d:Array Int) (f:Nat),i-1-k=r->i<=d.size->d.size<=255->k<i->r<f ->
  ∃d',iter (Je rec ((i:Int),())) f (d.toList,(k:Int),())=some (.inl (d'.toList,()))/\PermIn k i d d'/\(∀t,k<=t->t<i-1->d'[t]! = d[t+1]!)/\d'[i-1]! = d[k]!:=by
 have e1:aa .sub .i64 (i:Int) 1=((i-1:Nat):Int)\/255<i:=by
  by_cases h:255<i
  ·exact .inr h
  ·exact .inl (sS (m:=1) (by omega) (by omega))
 intro r;induction r with
 |zero=>
  intro k d f hk hs hd YU hf;have e1:=e1.resolve_right (by omega);obtain⟨f,rfl⟩:∃m,f=m+1:=⟨f-1,by omega⟩
  refine⟨d,av ?_,permIn_refl _ _ _,fun t h1 h2=>by omega,by rw[show i-1=k by omega]⟩;unfold Je;simp only[e1,Of,show ¬(k<i-1)by omega,decide_false,cond_false]
 |succ r ih=>
  intro k d f hk hs hd YU hf;have e1:=e1.resolve_right (by omega);obtain⟨f,rfl⟩:∃m,f=m+1:=⟨f-1,by omega⟩
  obtain⟨d',h1,h2,h3,h4⟩:=ih (k+1) (swp d k (k+1)) f (by omega) (by rw[size_swp];omega) (by rw[size_swp];omega) (by omega) (by omega);refine⟨d',?_,permIn_trans _ _ _ k i (swp_permIn d k i k (k+1) (by omega) (by omega) (by omega) (by omega) hs) (permIn_mono _ _ (k+1) i k i (by omega) (Nat.le_refl _) (by rw[size_swp];omega) h2),fun t t1 t2=>?_,?_⟩
  ·rw[<-h1];refine aF ?_;unfold Je;simp only[e1,Of,show k<i-1 by omega,decide_true,cond_true,au (n:=k) (by omega),OZ,gI,Qp,show k+1<d.size by omega,show k<d.size by omega,QC]
  ·by_cases e:t=k
   ·subst e;rw[h2.2.1 t (.inl (by omega)),swp_left d _ _ (by omega) (by omega)]
   ·rw[h3 t (by omega) t2,swp_other d _ _ _ (by omega) (by omega)]
  ·rw[h4,swp_right d _ _ (by omega)]
theorem Ti(rec:List Int->Int->Int->Int->List Ev->Option (List Int×Unit))(i:Nat):∀(r k:Nat) (d:Array Int) (f:Nat),k-i=r->i<=k->k<d.size->d.size<=255->r<f ->
  ∃d',iter (Jg rec ((i:Int),())) f (d.toList,(k:Int),())=some (.inl (d'.toList,()))/\PermIn i (k+1) d d'/\(∀t,i<=t->t<k->d'[t+1]! = d[t]!)/\d'[i]! = d[k]!:=by
 intro r;induction r with
 |zero=>
  intro k d f hk YS hs hd hf;obtain⟨f,rfl⟩:∃m,f=m+1:=⟨f-1,by omega⟩
  refine⟨d,av ?_,permIn_refl _ _ _,fun t h1 h2=>by omega,by rw[show i=k by omega]⟩;unfold Jg;simp only[QA,show ¬(k>i)by omega,decide_false,cond_false]
 |succ r ih=>
  intro k d f hk YS hs hd hf;obtain⟨f,rfl⟩:∃m,f=m+1:=⟨f-1,by omega⟩
  have e1:aa .sub .i64 (k:Int) 1=((k-1:Nat):Int):=sS (m:=1) (by omega) (by omega);obtain⟨d',h1,h2,h3,h4⟩:=ih (k-1) (swp d k (k-1)) f (by omega) (by omega) (by rw[size_swp];omega) (by rw[size_swp];omega) (by omega);rw[show k-1+1=k by omega]at h2;refine⟨d',?_,permIn_trans _ _ _ i (k+1) (swp_permIn d i (k+1) k (k-1) (by omega) (by omega) (by omega) (by omega) (by omega)) (permIn_mono _ _ i k i (k+1) (Nat.le_refl _) (by omega) (by rw[size_swp];omega) h2),fun t t1 t2=>?_,?_⟩
  ·rw[<-h1];refine aF ?_;unfold Jg;simp only[QA,show k>i by omega,decide_true,cond_true,e1,OZ,gI,Qp,show k<d.size by omega,show k-1<d.size by omega,QC]
  ·by_cases e:t+1=k
   ·rw[e,h2.2.1 k (.inr (by omega)),swp_left d _ _ (by omega) (by omega),show k-1=t by omega]
   ·rw[h3 t t1 (by omega),swp_other d _ _ _ (by omega) (by omega)]
  ·rw[h4,swp_right d _ _ (by omega)]
noncomputable def Qx(l:List Ev)(rec:List Int->Int->Int->Int->List Ev->Option (List Int×Unit))(M:Nat):Prop:=∀(d:Array Int) (a m b:Nat),b-a<M->a<m->m<b->b<=d.size->d.size<=255->Rg l d->SortedIn (Mz l) a m d->SortedIn (Mz l) m b d->∃d',rec d.toList (a:Int) (m:Int) (b:Int) l=some (d'.toList,())/\PermIn a b d d'/\SortedIn (Mz l) a b d'
theorem R7(l:List Ev)(rec:List Int->Int->Int->Int->List Ev->Option (List Int×Unit))(d:Array Int)(a b:Nat)(h1:a+1<b)(hb:b<=d.size)(hd:d.size<=255)(ho:Rg l d)(hs:SortedIn (Mz l) (a+1) b d):
  ∃d',zb rec d.toList (a:Int) ((a+1:Nat):Int) (b:Int) l=some (d'.toList,())/\PermIn a b d d'/\SortedIn (Mz l) a b d':=by
 have hw:=OR l;have e0:aa .sub .i64 ((a+1:Nat):Int) (a:Int)=((1:Nat):Int):=by rw[sS (by omega) (by omega)];congr 1;omega
 obtain⟨i,hi,i1,i2,i3,i4⟩:=bsearch (body:=Jd rec ((a:Int),l,())) (fun i j=>(d.toList,(i:Int),(j:Int),())) (fun i=>(.inl (d.toList,(i:Int),()):List Int×Int×Unit⊕Empty)) (fun c=>Mz l d[c]! d[a]!) (a+1) b (fun i j h1 h2 h3=>by
  unfold Jd;have e1:aa .add .i64 (i:Int) (j:Int)=((i+j:Nat):Int):=aS (by omega);have z:cD (1:Int)=false:=rfl;have hc:=Uh ho (i:=(i+j) / 2) (j:=a) (by omega) (by omega);simp only[Of,h2,decide_true,cond_true,z,cond_false,e1,Ss (n:=i+j) (by omega),OZ,gI,show(i+j) / 2<d.size by omega,show a<d.size by omega,hc,Option.bind_some,Pn,au (n:=(i+j) / 2) (by omega)];cases Mz l d[(i+j) / 2]! d[a]! <;> rfl) (fun i=>by
  unfold Jd;simp only[Of,Nat.lt_irrefl,decide_false,cond_false]) 256 (a+1) b big (by omega) (aN (by omega)) (Nat.le_refl _) (by omega) (Nat.le_refl _) (.inl rfl) (.inl rfl)
 obtain⟨d',h3,h4,h5,h6⟩:=UY rec i (by omega) (i-1-a) a d big rfl (by omega) hd (by omega) (aN (by omega));refine⟨d',?_,permIn_mono _ _ a i a b (Nat.le_refl _) i2 hb h4,?_⟩
 ·unfold zb JA JB;simp only[e0,show af .eql ((1:Nat):Int) (1:Int)=true from rfl,cond_true,hi,Option.bind_some,Sum.elim_inl,h3]
 ·have hi0:∀u,i<=u->d'[u]! = d[u]!:=fun u hu=>h4.2.1 u (.inr hu);intro u v h7 h8 h9;have Yo:∀u,u<i-1->a<=u->Mz l d[a]! d[u+1]! = false:=fun u hu Zb=>by have hP:Mz l d[i-1]! d[a]! = true:=i3.resolve_left (by omega);exact hw.ntrans _ _ _ (hw.asymm hP) (KB hw hs (by omega) (by omega) (by omega))
  by_cases u1:u<i-1
  ·rw[h5 u h7 u1];by_cases v1:v<i-1
   ·rw[h5 v (by omega) v1];exact KB hw hs (by omega) (by omega) (by omega)
   ·by_cases v2:v=i-1
    ·rw[v2,h6];exact Yo u u1 h7
    ·rw[hi0 v (by omega)];exact KB hw hs (by omega) (by omega) h9
  ·by_cases u2:u=i-1
   ·rw[u2,h6,hi0 v (by omega)];have hN:Mz l d[i]! d[a]! = false:=i4.resolve_left (by omega);exact hw.ntrans _ _ _ (KB hw hs (by omega) (by omega) h9) hN
   ·rw[hi0 u (by omega),hi0 v (by omega)];exact KB hw hs (by omega) (by omega) h9
theorem merge_right(l:List Ev)(rec:List Int->Int->Int->Int->List Ev->Option (List Int×Unit))(d:Array Int)(a m:Nat)(h1:a<m)(hne:m-a≠1)(hb:m+1<=d.size)(hd:d.size<=255)(ho:Rg l d)(hs:SortedIn (Mz l) a m d):
  ∃d',zb rec d.toList (a:Int) (m:Int) ((m+1:Nat):Int) l=some (d'.toList,())/\PermIn a (m+1) d d'/\SortedIn (Mz l) a (m+1) d':=by
 have hw:=OR l;have e0:aa .sub .i64 (m:Int) (a:Int)=((m-a:Nat):Int):=sS (by omega) (by omega);have e1:aa .sub .i64 ((m+1:Nat):Int) (m:Int)=((1:Nat):Int):=by rw[sS (by omega) (by omega)];congr 1;omega
 have Y1:af .eql ((m-a:Nat):Int) (1:Int)=false:=(S7 (m-a) 1).trans (decide_eq_false hne);obtain⟨i,hi,i1,i2,i3,i4⟩:=bsearch (body:=Jf rec ((m:Int),l,())) (fun i j=>(d.toList,(i:Int),(j:Int),())) (fun i=>(.inl (d.toList,(i:Int),()):List Int×Int×Unit⊕Empty)) (fun c=>!Mz l d[m]! d[c]!) a m (fun i j h1 h2 h3=>by
  unfold Jf;have e1:aa .add .i64 (i:Int) (j:Int)=((i+j:Nat):Int):=aS (by omega);have z:cD (1:Int)=false:=rfl;have hc:=Uh ho (i:=m) (j:=(i+j) / 2) (by omega) (by omega);simp only[Of,h2,decide_true,cond_true,z,cond_false,e1,Ss (n:=i+j) (by omega),OZ,gI,show(i+j) / 2<d.size by omega,show m<d.size by omega,hc,Option.bind_some,Pn,au (n:=(i+j) / 2) (by omega)];cases Mz l d[m]! d[(i+j) / 2]! <;> rfl) (fun i=>by
  unfold Jf;simp only[Of,Nat.lt_irrefl,decide_false,cond_false]) 256 a m big (by omega) (aN (by omega)) (Nat.le_refl _) (by omega) (Nat.le_refl _) (.inl rfl) (.inl rfl)
 obtain⟨d',h3,h4,h5,h6⟩:=Ti rec i (m-i) m d big rfl (by omega) (by omega) hd (aN (by omega));refine⟨d',?_,permIn_mono _ _ i (m+1) a (m+1) i1 (Nat.le_refl _) hb h4,?_⟩
 ·unfold zb JC JD;simp only[e0,Y1,cond_false,e1,show af .eql ((1:Nat):Int) (1:Int)=true from rfl,cond_true,hi,Option.bind_some,Sum.elim_inl,h3]
 ·have hi0:∀u,u<i->d'[u]! = d[u]!:=fun u hu=>h4.2.1 u (.inl hu);have Wg:∀u,i<u->u<m+1->d'[u]! = d[u-1]!:=fun u hu EK=>by have:=h5 (u-1) (by omega) (by omega);rwa[show u-1+1=u by omega]at this
  intro u v h7 h8 h9;by_cases u1:u<i
  ·rw[hi0 u u1];by_cases v1:v<i
   ·rw[hi0 v v1];exact KB hw hs h7 (by omega) (by omega)
   ·by_cases v2:v=i
    ·rw[v2,h6];have hP:=i3.resolve_left (by omega);rw[Bool.not_eq_true']at hP;exact hw.ntrans _ _ _ hP (KB hw hs h7 (by omega) (by omega))
    ·rw[Wg v (by omega) h9];exact KB hw hs h7 (by omega) (by omega)
  ·by_cases u2:u=i
   ·rw[u2,h6,Wg v (by omega) h9];have hN:=i4.resolve_left (by omega);rw[Bool.not_eq_false']at hN;exact hw.ntrans _ _ _ (KB hw hs (by omega) (by omega) (by omega)) (hw.asymm hN)
   ·rw[Wg u (by omega) (by omega),Wg v (by omega) h9];exact KB hw hs (by omega) (by omega) (by omega)
noncomputable def PB(rec:List Int->Int->Int->Int->List Ev->Option (List Int×Unit))(l:List Ev)(mid e b:Int)(d:List Int):Option (List Int×Unit):=(lets (af .lss mid e) fun v3=>(bif v3 then(bif (af .lss e b)then((rec d mid e b l).bind fun y4=>some (y4.1,()))else some (d,()))else some (d,())))
noncomputable def OX(rec:List Int->Int->Int->Int->List Ev->Option (List Int×Unit))(l:List Ev)(a s mid e b:Int)(d:List Int):Option (List Int×Unit):=(bif (af .lss a s)then(bif (af .lss s mid)then((rec d a s mid l).bind fun y2=>PB rec l mid e b y2.1)else PB rec l mid e b d)else PB rec l mid e b d)
theorem UC {l:List Ev} {rec:List Int->Int->Int->Int->List Ev->Option (List Int×Unit)} {M:Nat} (gf:Qx l rec M) (d:Array Int) (a s mid e b:Nat) (h1:a<=s) (h2:s<=mid) (h3:mid<=e) (h4:e<=b) (hab:a<mid) (hmb:mid<b) (hM:b-a<=M) (hb:b<=d.size) (hd:d.size<=255) (ho:Rg l d)
  (s1:SortedIn (Mz l) a s d) (s2:SortedIn (Mz l) s mid d) (s3:SortedIn (Mz l) mid e d) (s4:SortedIn (Mz l) e b d) (hx:∀u v,a<=u->u<mid->mid<=v->v<b->Mz l d[v]! d[u]! = false):
  ∃d',OX rec l (a:Int) (s:Int) (mid:Int) (e:Int) (b:Int) d.toList=some (d'.toList,())/\PermIn a b d d'/\SortedIn (Mz l) a b d':=by
 have hw:=OR l;obtain⟨d2,k1,k2,k3⟩:∃d2:Array Int,OX rec l (a:Int) (s:Int) (mid:Int) (e:Int) (b:Int) d.toList=PB rec l (mid:Int) (e:Int) (b:Int) d2.toList/\PermIn a mid d d2/\SortedIn (Mz l) a mid d2:=by
  unfold OX;rw[Of,Of];by_cases q1:a<s
  ·by_cases q2:s<mid
   ·obtain⟨d2,k1,k2,k3⟩:=gf d a s mid (by omega) q1 q2 (by omega) hd ho s1 s2;exact⟨d2,by simp only[q1,q2,decide_true,cond_true,k1,Option.bind_some],k2,k3⟩
   ·have:s=mid:=by omega
    exact⟨d,by simp only[q1,q2,decide_true,decide_false,cond_true,cond_false],permIn_refl _ _ _,this▸s1⟩
  ·have:s=a:=by omega
   exact⟨d,by simp only[q1,decide_false,cond_false],permIn_refl _ _ _,this▸s2⟩
 have z2:d2.size=d.size:=k2.1;have uP:=ho.perm (by omega) k2;obtain⟨d3,m1,m2,m3⟩:∃d3:Array Int,PB rec l (mid:Int) (e:Int) (b:Int) d2.toList=some (d3.toList,())/\PermIn mid b d2 d3/\SortedIn (Mz l) mid b d3:=by
  have Fs:SortedIn (Mz l) mid e d2:=s3.congr fun i hi _=>k2.2.1 i (.inr hi);have Yg:SortedIn (Mz l) e b d2:=s4.congr fun i hi _=>k2.2.1 i (.inr (by omega));unfold PB;rw[Of,Of];by_cases q1:mid<e
  ·by_cases q2:e<b
   ·obtain⟨d3,m1,m2,m3⟩:=gf d2 mid e b (by omega) q1 q2 (by omega) (by omega) uP Fs Yg;exact⟨d3,by simp only[aR,q1,q2,decide_true,cond_true,m1,Option.bind_some],m2,m3⟩
   ·have:e=b:=by omega
    exact⟨d2,by simp only[aR,q1,q2,decide_true,decide_false,cond_true,cond_false],permIn_refl _ _ _,this▸Fs⟩
  ·have:e=mid:=by omega
   exact⟨d2,by simp only[aR,q1,decide_false,cond_false],permIn_refl _ _ _,this▸Yg⟩
 refine⟨d3,by rw[k1,m1],permIn_trans _ _ _ a b (permIn_mono _ _ a mid a b (Nat.le_refl _) (by omega) hb k2) (permIn_mono _ _ mid b a b (by omega) (Nat.le_refl _) (by omega) m2),fun u v h7 h8 h9=>?_⟩;have left:∀u,u<mid->d3[u]! = d2[u]!:=fun u hu=>m2.2.1 u (.inl hu);by_cases v1:v<mid
 ·rw[left u (by omega),left v v1];exact k3 u v h7 h8 v1
 ·by_cases u1:u<mid
  ·rw[left u u1];have c1:∀w,mid<=w->w<b->Mz l d2[w]! d2[u]! = false:=fun w rA DP=>by rw[k2.2.1 w (.inr rA)];exact permIn_all d d2 a mid (fun x=>Mz l d[w]! x=false) (by omega) k2 (fun t ht1 WL=>hx t w ht1 WL rA DP) u h7 u1
   exact permIn_all d2 d3 mid b (fun x=>Mz l x d2[u]! = false) (by omega) m2 (fun t ht1 WL=>c1 t ht1 WL) v (by omega) h9
  ·exact m3 u v (by omega) h8 h9
theorem Tn {l:List Ev} {rec:List Int->Int->Int->Int->List Ev->Option (List Int×Unit)} {M:Nat} (gf:Qx l rec M) (d:Array Int) (a m b mid s e lo hi:Nat) (Vr:a+2<=m) (hmb:m+2<=b) (hM:b-a<=M) (hb:b<=d.size) (hd:d.size<=255) (ho:Rg l d)
  (s1:SortedIn (Mz l) a m d) (s2:SortedIn (Mz l) m b d) (U6:mid=(a+b) / 2) (hlo:lo=if m>mid then mid+m-b else a) (hhi:hi=if m>mid then mid else m) (r1:lo<=s) (r2:s<=hi) (he:e=mid+m-s)
  (r3:s=lo\/Mz l d[mid+m-1-(s-1)]! d[s-1]! = false) (r4:s=hi\/Mz l d[mid+m-1-s]! d[s]! = true):
  ∃d',(bif (af .lss (s:Int) (m:Int))then(bif (af .lss (m:Int) (e:Int))then((II d.toList (s:Int) (m:Int) (e:Int) l).bind fun y2=>OX rec l (a:Int) (s:Int) (mid:Int) (e:Int) (b:Int) y2.1)else OX rec l (a:Int) (s:Int) (mid:Int) (e:Int) (b:Int) d.toList)else OX rec l (a:Int) (s:Int) (mid:Int) (e:Int) (b:Int) d.toList)=some (d'.toList,())/\PermIn a b d d'/\SortedIn (Mz l) a b d':=by
 have hw:=OR l;have b1:a<=s/\s<=m/\m<=e/\e<=b/\s<=mid/\mid<=e:=by split at hlo <;> rename_i q <;> simp only[q,if_true,if_false]at hhi <;> omega
 obtain⟨c1,c2,c3,c4,c5,c6⟩:=b1;obtain⟨T,t0,t1,t2,t3⟩:∃T:Array Int,(bif (af .lss (s:Int) (m:Int))then(bif (af .lss (m:Int) (e:Int))then((II d.toList (s:Int) (m:Int) (e:Int) l).bind fun y2=>OX rec l (a:Int) (s:Int) (mid:Int) (e:Int) (b:Int) y2.1)else OX rec l (a:Int) (s:Int) (mid:Int) (e:Int) (b:Int) d.toList)else OX rec l (a:Int) (s:Int) (mid:Int) (e:Int) (b:Int) d.toList)=OX rec l (a:Int) (s:Int) (mid:Int) (e:Int) (b:Int) T.toList/\PermIn s e d T/\(∀u,s<=u->u<mid->T[u]! = d[m+(u-s)]!)/\(∀v,mid<=v->v<e->T[v]! = d[s+(v-mid)]!):=by
  rw[Of,Of];by_cases q1:s<m
  ·by_cases q2:m<e
   ·obtain⟨T,k1,k2,k3,k4⟩:=Tx l d s m e q1 q2 (by omega) hd;rw[show m-(m-s)=s by omega]at k2 k3 k4;rw[show m+(e-m)=e by omega]at k2;refine⟨T,by simp only[q1,q2,decide_true,cond_true,k1,Option.bind_some],k2,fun u h1 h2=>?_,fun v h1 h2=>?_⟩
    ·have:=k3 (u-s) (by omega);rwa[show s+(u-s)=u by omega]at this
    ·have:=k4 (v-mid) (by omega);rwa[show s+(e-m)+(v-mid)=v by omega]at this
   ·have:e=m:=by omega
    refine⟨d,by simp only[q1,q2,decide_true,decide_false,cond_true,cond_false],permIn_refl _ _ _,fun u h1 h2=>by omega,fun v h1 h2=>?_⟩;congr 1;omega
  ·have:s=m:=by omega
   refine⟨d,by simp only[q1,decide_false,cond_false],permIn_refl _ _ _,fun u h1 h2=>?_,fun v h1 h2=>by omega⟩;congr 1;omega
 have lo':∀u,u<s->T[u]! = d[u]!:=fun u hu=>t1.2.1 u (.inl hu);have hi':∀v,e<=v->T[v]! = d[v]!:=fun v hv=>t1.2.1 v (.inr hv);have zT:T.size=d.size:=t1.1;obtain⟨d',k1,k2,k3⟩:=UC gf T a s mid e b c1 c5 c6 c4 (by omega) (by omega) hM (by omega) (by omega) (ho.perm (by omega) t1)
  (fun u v h1 h2 h3=>by rw[lo' u (by omega),lo' v h3];exact s1 u v h1 h2 (by omega))
  (fun u v h1 h2 h3=>by rw[t2 u h1 (by omega),t2 v (by omega) h3];exact KB hw s2 (by omega) (by omega) (by omega))
  (fun u v h1 h2 h3=>by rw[t3 u h1 (by omega),t3 v (by omega) h3];exact KB hw s1 (by omega) (by omega) (by omega))
  (fun u v h1 h2 h3=>by rw[hi' u h1,hi' v (by omega)];exact s2 u v (by omega) h2 h3)
  (fun u v h1 h2 h3 h4=>by
   by_cases u1:u<s
   ·rw[lo' u u1];by_cases v1:v<e
    ·rw[t3 v h3 v1];exact KB hw s1 h1 (by omega) (by omega)
    ·rw[hi' v (by omega)];have hP:Mz l d[e]! d[s-1]! = false:=by have:=r3.resolve_left (by split at hlo <;> omega);rwa[show mid+m-1-(s-1)=e by omega]at this
     exact hw.ntrans _ _ _ (hw.ntrans _ _ _ (KB hw s2 (by omega) (by omega) h4) hP) (KB hw s1 h1 (by omega) (by omega))
   ·rw[t2 u (by omega) h2];by_cases v1:v<e
    ·rw[t3 v h3 v1];have hP:Mz l d[e-1]! d[s]! = true:=by have:=r4.resolve_left (by split at hhi <;> omega);rwa[show mid+m-1-s=e-1 by omega]at this
     exact hw.ntrans _ _ _ (hw.ntrans _ _ _ (KB hw s1 (by omega) (by omega) (by omega)) (hw.asymm hP)) (KB hw s2 (by omega) (by omega) (by omega))
    ·rw[hi' v (by omega)];exact KB hw s2 (by omega) (by omega) h4)
 exact⟨d',by rw[t0];exact k1,permIn_trans _ _ _ a b (permIn_mono _ _ s e a b c1 c4 hb t1) k2,k3⟩
theorem SP(l:List Ev){rec:List Int->Int->Int->Int->List Ev->Option (List Int×Unit)}{M:Nat}(gf:Qx l rec M)(d:Array Int)(a m b:Nat)(hM:b-a<=M)(Vr:a<m)(hmb:m<b)(hb:b<=d.size)(hd:d.size<=255)(ho:Rg l d)(s1:SortedIn (Mz l) a m d)(s2:SortedIn (Mz l) m b d):
  ∃d',zb rec d.toList (a:Int) (m:Int) (b:Int) l=some (d'.toList,())/\PermIn a b d d'/\SortedIn (Mz l) a b d':=by
 by_cases q1:m=a+1
 ·subst q1;exact R7 l rec d a b hmb hb hd ho s2
 ·by_cases q2:b=m+1
  ·subst q2;exact merge_right l rec d a m Vr (by omega) hb hd ho s1
  ·have e0:aa .sub .i64 (m:Int) (a:Int)=((m-a:Nat):Int):=sS (by omega) (by omega);have e1:aa .sub .i64 (b:Int) (m:Int)=((b-m:Nat):Int):=sS (by omega) (by omega);have n1:af .eql ((m-a:Nat):Int) (1:Int)=false:=(S7 (m-a) 1).trans (decide_eq_false (by omega));have n2:af .eql ((b-m:Nat):Int) (1:Int)=false:=(S7 (b-m) 1).trans (decide_eq_false (by omega));have z:cD (1:Int)=false:=rfl;have e2:aa .add .i64 (a:Int) (b:Int)=((a+b:Nat):Int):=aS (by omega);have e3:=Ss (n:=a+b) (by omega);obtain⟨mid,U6⟩:∃mid,mid=(a+b) / 2:=⟨_,rfl⟩
   rw[<-U6]at e3;have e4:aa .add .i64 (mid:Int) (m:Int)=((mid+m:Nat):Int):=aS (by omega);have e5:aa .sub .i64 ((mid+m:Nat):Int) 1=((mid+m-1:Nat):Int):=sS (m:=1) (by omega) (by omega);obtain⟨lo,hlo⟩:∃lo,lo=if m>mid then mid+m-b else a:=⟨_,rfl⟩
   obtain⟨hi,hhi⟩:∃hi,hi=if m>mid then mid else m:=⟨_,rfl⟩
   have YV:a<=lo/\lo<=hi/\hi<=m/\hi<=mid/\(∀c,lo<=c->c<hi->mid+m-1-c<b/\c<=mid+m-1):=by
    split at hlo <;> rename_i q <;> simp only[q,if_true,if_false]at hhi
    ·exact⟨by omega,by omega,by omega,by omega,fun c _ _=>by omega⟩
    ·exact⟨by omega,by omega,by omega,by omega,fun c _ _=>by omega⟩
   obtain⟨l1,l2,l3,l4,l5⟩:=YV;obtain⟨s,hs,i1,i2,i3,i4⟩:=bsearch (body:=Jh rec ((a:Int),(m:Int),(b:Int),l,(mid:Int),((mid+m:Nat):Int),((mid+m-1:Nat):Int),())) (fun i j=>(d.toList,(i:Int),(j:Int),())) (fun i=>(.inl (d.toList,(i:Int),()):List Int×Int×Unit⊕Empty)) (fun c=>!Mz l d[mid+m-1-c]! d[c]!) lo hi (fun i j h1 h2 h3=>by
    have Ei:=l5 ((i+j) / 2) (by omega) (by omega);unfold Jh;have x1:aa .add .i64 (i:Int) (j:Int)=((i+j:Nat):Int):=aS (by omega);have x2:aa .sub .i64 ((mid+m-1:Nat):Int) (((i+j) / 2:Nat):Int)=((mid+m-1-(i+j) / 2:Nat):Int):=sS (by omega) (by omega);have hc:=Uh ho (i:=mid+m-1-(i+j) / 2) (j:=(i+j) / 2) (by omega) (by omega);simp only[Of,h2,decide_true,cond_true,z,cond_false,x1,Ss (n:=i+j) (by omega),x2,OZ,gI,show(i+j) / 2<d.size by omega,show mid+m-1-(i+j) / 2<d.size by omega,hc,Option.bind_some,Pn,au (n:=(i+j) / 2) (by omega)];cases Mz l d[mid+m-1-(i+j) / 2]! d[(i+j) / 2]! <;> rfl) (fun i=>by
    unfold Jh;simp only[Of,Nat.lt_irrefl,decide_false,cond_false]) 256 lo hi big (by omega) (aN (by omega)) (Nat.le_refl _) l2 (Nat.le_refl _) (.inl rfl) (.inl rfl)
   have e6:aa .sub .i64 ((mid+m:Nat):Int) (s:Int)=((mid+m-s:Nat):Int):=sS (by omega) (by omega);obtain⟨d',k1,k2,k3⟩:=Tn gf d a m b mid s (mid+m-s) lo hi (by omega) (by omega) hM hb hd ho s1 s2 U6 hlo hhi i1 i2 rfl (i3.imp id fun h=>by simpa using h) (i4.imp id fun h=>by simpa using h);refine⟨d',?_,k2,k3⟩;rw[<-k1];unfold zb;by_cases q:m>mid
   ·simp only[q,if_true]at hlo hhi;have x1:aa .sub .i64 ((mid+m:Nat):Int) (b:Int)=((mid+m-b:Nat):Int):=sS (by omega) (by omega);rw[hlo,hhi]at hs;have hs':IY rec ((a:Int),(m:Int),(b:Int),l,(mid:Int),((mid+m:Nat):Int),((mid+m-1:Nat):Int),()) (d.toList,((mid+m-b:Nat):Int),(mid:Int),())=_:=hs;simp only[e0,n1,cond_false,e1,n2,z,e2,e3,QA,q,decide_true,cond_true,e4,e5,x1,hs',Option.bind_some,Sum.elim_inl,e6];rfl
   ·simp only[q,if_false]at hlo hhi;rw[hlo,hhi]at hs;have hs':IY rec ((a:Int),(m:Int),(b:Int),l,(mid:Int),((mid+m:Nat):Int),((mid+m-1:Nat):Int),()) (d.toList,(a:Int),(m:Int),())=_:=hs;simp only[e0,n1,cond_false,e1,n2,z,e2,e3,QA,q,decide_false,e4,e5,hs',Option.bind_some,Sum.elim_inl,e6];rfl
theorem Uw(l:List Ev):∀F,Qx l (IZ F) F:=by
 intro F;induction F with
 |zero=>intro d a m b h;omega
 |succ F ih=>intro d a m b h Vr hmb hb hd ho s1 s2;exact SP l ih d a m b (by omega) Vr hmb hb hd ho s1 s2
theorem Rc(l:List Ev)(d:Array Int)(a m b:Nat)(Vr:a<m)(hmb:m<b)(hb:b<=d.size)(hd:d.size<=255)(ho:Rg l d)(s1:SortedIn (Mz l) a m d)(s2:SortedIn (Mz l) m b d):∃d',I3 d.toList (a:Int) (m:Int) (b:Int) l=some (d'.toList,())/\PermIn a b d d'/\SortedIn (Mz l) a b d':=Uw l big d a m b (aN (by omega)) Vr hmb hb hd ho s1 s2
end Go.Fn
set_option linter.unusedSimpArgs false
set_option linter.unusedVariables false
namespace Go.Fn
open Go.R Go.Sort
noncomputable def Vt(l:List Ev)(w a:Nat)(d:Array Int):Prop:=∀i j,i<j->j<a->i / w=j / w->Mz l d[j]! d[i]! = false
theorem UF(l:List Ev)(n:Nat)(hn:n<=60):∀(s a:Nat) (d:Array Int) (f:Nat),n-a<=s->a % 20=0->a<=n->d.size=n->Rg l d->Vt l 20 a d->s<f ->
  ∃(d':Array Int) (a':Nat),iter (I2 ((n:Int),l,(20:Int),())) f (d.toList,(a:Int),((a+20:Nat):Int),())=some (.inl (d'.toList,(a':Int),()))/\PermIn 0 n d d'/\a' % 20=0/\a'<=n/\n<a'+20/\Vt l 20 a' d':=by
 intro s;induction s with
 |zero=>
  intro a d f hs ha U3 hd ho hb hf;obtain⟨f,rfl⟩:∃m,f=m+1:=⟨f-1,by omega⟩
  refine⟨d,a,av ?_,permIn_refl _ _ _,ha,U3,by omega,hb⟩;unfold I2;simp only[QO,show ¬(a+20<=n)by omega,decide_false,cond_false]
 |succ s ih=>
  intro a d f hs ha U3 hd ho hb hf;obtain⟨f,rfl⟩:∃m,f=m+1:=⟨f-1,by omega⟩
  by_cases h:a+20<=n
  ·obtain⟨d1,k1,k2,k3⟩:=US l d a (a+20) ho (by omega) (by omega) (by omega);obtain⟨d',a',m1,m2,m3,m4,m5,m6⟩:=ih (a+20) d1 f (by omega) (by omega) h (by rw[k2.1];exact hd) (ho.perm (by omega) k2) (fun i j h1 h2 h3=>by
    by_cases q:j<a
    ·rw[k2.2.1 i (.inl (by omega)),k2.2.1 j (.inl q)];exact hb i j h1 q h3
    ·exact k3 i j (by omega) h1 h2) (by omega)
   refine⟨d',a',?_,permIn_trans _ _ _ 0 n (permIn_mono _ _ a (a+20) 0 n (Nat.zero_le _) h (by omega) k2) m2,m3,m4,m5,m6⟩;rw[<-m1];refine aF ?_;unfold I2;have e1:aa .add .i64 ((a+20:Nat):Int) (20:Int)=((a+20+20:Nat):Int):=aS (m:=20) (by omega);simp only[QO,h,decide_true,cond_true,k1,Option.bind_some,e1]
  ·refine⟨d,a,av ?_,permIn_refl _ _ _,ha,U3,by omega,hb⟩;unfold I2;simp only[QO,h,decide_false,cond_false]
theorem UG(l:List Ev)(n:Nat)(hn:n<=60):∀(s a:Nat) (d:Array Int) (f:Nat),n-a<=s->a % 40=0->a<=n->d.size=n->Rg l d->Vt l 40 a d->(∀i j,a<=i->i<j->j<n->i / 20=j / 20->Mz l d[j]! d[i]! = false)->s<f ->
  ∃(d':Array Int) (a':Nat),iter (IP ((n:Int),l,(20:Int),())) f (d.toList,(a:Int),((a+40:Nat):Int),())=some (.inl (d'.toList,(a':Int),()))/\PermIn 0 n d d'/\a' % 40=0/\a'<=n/\n<a'+40/\Vt l 40 a' d'/\(∀i j,a'<=i->i<j->j<n->i / 20=j / 20->Mz l d'[j]! d'[i]! = false):=by
 intro s;induction s with
 |zero=>
  intro a d f hs ha U3 hd ho hb hr hf;obtain⟨f,rfl⟩:∃m,f=m+1:=⟨f-1,by omega⟩
  refine⟨d,a,av ?_,permIn_refl _ _ _,ha,U3,by omega,hb,hr⟩;unfold IP;simp only[QO,show ¬(a+40<=n)by omega,decide_false,cond_false]
 |succ s ih=>
  intro a d f hs ha U3 hd ho hb hr hf;obtain⟨f,rfl⟩:∃m,f=m+1:=⟨f-1,by omega⟩
  by_cases h:a+40<=n
  ·obtain⟨d1,k1,k2,k3⟩:=Rc l d a (a+20) (a+40) (by omega) (by omega) (by omega) (by omega) ho (fun i j h1 h2 h3=>hr i j h1 h2 (by omega) (by omega)) (fun i j h1 h2 h3=>hr i j (by omega) h2 (by omega) (by omega));obtain⟨d',a',m1,m2,m3,m4,m5,m6,m7⟩:=ih (a+40) d1 f (by omega) (by omega) h (by rw[k2.1];exact hd) (ho.perm (by omega) k2) (fun i j h1 h2 h3=>by
    by_cases q:j<a
    ·rw[k2.2.1 i (.inl (by omega)),k2.2.1 j (.inl q)];exact hb i j h1 q h3
    ·exact k3 i j (by omega) h1 h2) (fun i j h0 h1 h2 h3=>by
    rw[k2.2.1 i (.inr (by omega)),k2.2.1 j (.inr (by omega))];exact hr i j (by omega) h1 h2 h3) (by omega)
   refine⟨d',a',?_,permIn_trans _ _ _ 0 n (permIn_mono _ _ a (a+40) 0 n (Nat.zero_le _) h (by omega) k2) m2,m3,m4,m5,m6,m7⟩;rw[<-m1];refine aF ?_;unfold IP;have e0:aa .add .i64 (a:Int) (20:Int)=((a+20:Nat):Int):=aS (m:=20) (by omega);have e1:aa .add .i64 ((a+40:Nat):Int) (aa .mul .i64 (2:Int) (20:Int))=((a+40+40:Nat):Int):=by rw[show aa .mul .i64 (2:Int) (20:Int)=((40:Nat):Int)from mS (n:=2) (m:=20) (by omega)];exact aS (by omega)
   simp only[QO,h,decide_true,cond_true,e0,k1,Option.bind_some,e1]
  ·refine⟨d,a,av ?_,permIn_refl _ _ _,ha,U3,by omega,hb,hr⟩;unfold IP;simp only[QO,h,decide_false,cond_false]
theorem Tz(l:List Ev)(d:Array Int)(n:Nat)(hn:n<=60)(hd:d.size=n)(ho:Rg l d):∃d',I6 d.toList (n:Int) l=some (d'.toList,())/\PermIn 0 n d d'/\SortedIn (Mz l) 0 n d':=by
 obtain⟨d1,a1,k1,k2,k3,k4,k5,k6⟩:=UF l n hn 60 0 d big (by omega) rfl (Nat.zero_le _) hd ho (fun i j _ h=>by omega) (aN (by omega));have z1:d1.size=n:=by rw[k2.1];exact hd
 have B0:=ho.perm (by omega) k2;obtain⟨d2,m1,m2,m3⟩:=US l d1 a1 n B0 k4 (by omega) (by omega);have z2:d2.size=n:=by rw[m2.1];exact z1
 have uP:=B0.perm (by omega) m2;have p2:=permIn_trans _ _ _ 0 n k2 (permIn_mono _ _ a1 n 0 n (Nat.zero_le _) (Nat.le_refl _) (by omega) m2);have b2:∀i j,0<=i->i<j->j<n->i / 20=j / 20->Mz l d2[j]! d2[i]! = false:=fun i j _ h1 h2 h3=>by
  by_cases q:j<a1
  ·rw[m2.2.1 i (.inl (by omega)),m2.2.1 j (.inl q)];exact k6 i j h1 q h3
  ·exact m3 i j (by omega) h1 h2
 have st:JL ((n:Int),l,(20:Int),()) (d.toList,(0:Int),(20:Int),())=_:=k1;unfold I6;simp only[st,Option.bind_some,Sum.elim_inl,m1];unfold JM;by_cases q20:20<n
 ·obtain⟨d3,a3,r1,r2,r3,r4,r5,r6,r7⟩:=UG l n hn 60 0 d2 big (by omega) rfl (Nat.zero_le _) z2 uP (fun i j _ h=>by omega) b2 (aN (by omega));have z3:d3.size=n:=by rw[r2.1];exact z2
  have YW:=uP.perm (by omega) r2;have Yh:Jk ((n:Int),l,(20:Int),()) (d2.toList,(0:Int),aa .mul .i64 (2:Int) (20:Int),())=_:=r1;have XS:aa .mul .i64 (20:Int) (2:Int)=((40:Nat):Int):=mS (n:=20) (m:=2) (by omega);have ea:aa .add .i64 (a3:Int) (20:Int)=((a3+20:Nat):Int):=aS (m:=20) (by omega);have g20:af .lss (20:Int) (n:Int)=true:=(Of 20 n).trans (decide_eq_true q20);obtain⟨d4,s1,s2,s3⟩:∃d4:Array Int,sL ((n:Int),l,()) (d2.toList,(20:Int),())=some (.inl (d4.toList,((40:Nat):Int),()))/\PermIn 0 n d2 d4/\Vt l 40 n d4:=by
   by_cases q:a3+20<n
   ·obtain⟨d4,t1,t2,t3⟩:=Rc l d3 a3 (a3+20) n (by omega) q (by omega) (by omega) YW (fun i j h1 h2 h3=>r7 i j h1 h2 (by omega) (by omega)) (fun i j h1 h2 h3=>r7 i j (by omega) h2 (by omega) (by omega));refine⟨d4,?_,permIn_trans _ _ _ 0 n r2 (permIn_mono _ _ a3 n 0 n (Nat.zero_le _) (Nat.le_refl _) (by omega) t2),fun i j h1 h2 h3=>?_⟩
    ·unfold sL;simp only[g20,cond_true,Yh,Option.bind_some,Sum.elim_inl,ea,Of,q,decide_true,t1,XS]
    ·by_cases q':j<a3
     ·rw[t2.2.1 i (.inl (by omega)),t2.2.1 j (.inl q')];exact r6 i j h1 q' h3
     ·exact t3 i j (by omega) h1 h2
   ·refine⟨d3,?_,r2,fun i j h1 h2 h3=>?_⟩
    ·unfold sL;simp only[g20,cond_true,Yh,Option.bind_some,Sum.elim_inl,ea,Of,q,decide_false,cond_false,XS]
    ·by_cases q':j<a3
     ·exact r6 i j h1 q' h3
     ·exact r7 i j (by omega) h1 h2 (by omega)
  have z4:d4.size=n:=by rw[s2.1];exact z2
  have YX:=uP.perm (by omega) s2;by_cases q40:40<n
  ·have Y6:Jk ((n:Int),l,((40:Nat):Int),()) (d4.toList,(0:Int),aa .mul .i64 (2:Int) ((40:Nat):Int),())=some (.inl (d4.toList,(0:Int),())):=by
    refine bh (n:=1) (av ?_) (Nat.le_of_lt (aN (by omega)));have Ws:aa .mul .i64 (2:Int) ((40:Nat):Int)=((80:Nat):Int):=mS (n:=2) (m:=40) (by omega);unfold IP;simp only[Ws,QO,show ¬(80<=n)by omega,decide_false,cond_false]
   obtain⟨d5,t1,t2,t3⟩:=Rc l d4 0 40 n (by omega) q40 (by omega) (by omega) YX (fun i j h1 h2 h3=>s3 i j h2 (by omega) (by omega)) (fun i j h1 h2 h3=>s3 i j h2 (by omega) (by omega));refine⟨d5,?_,permIn_trans _ _ _ 0 n p2 (permIn_trans _ _ _ 0 n s2 t2),t3⟩;have it:iter (sL ((n:Int),l,())) 3 (d2.toList,(20:Int),())=some (.inl (d5.toList,())):=by
    have e0:aa .add .i64 (0:Int) ((40:Nat):Int)=((40:Nat):Int):=by rw[show(0:Int)=((0:Nat):Int)from rfl,aS (by omega)]
    have Ws:aa .mul .i64 ((40:Nat):Int) (2:Int)=((80:Nat):Int):=mS (n:=40) (m:=2) (by omega);have Gu:I3 d4.toList (0:Int) ((40:Nat):Int) (n:Int) l=_:=t1;rw[aF s1,aF (y:=(d5.toList,((80:Nat):Int),())) (by unfold sL;simp only[Of,q40,decide_true,cond_true,Y6,Option.bind_some,Sum.elim_inl,e0,Gu,Ws])];refine av ?_;unfold sL;simp only[Of,show ¬(80<n)by omega,decide_false,cond_false]
   rw[bh it (Nat.le_of_lt (aN (by omega)))];rfl
  ·refine⟨d4,?_,permIn_trans _ _ _ 0 n p2 s2,fun i j h1 h2 h3=>s3 i j h2 h3 (by omega)⟩;have it:iter (sL ((n:Int),l,())) 2 (d2.toList,(20:Int),())=some (.inl (d4.toList,())):=by rw[aF s1];refine av ?_;unfold sL;simp only[Of,q40,decide_false,cond_false]
   rw[bh it (Nat.le_of_lt (aN (by omega)))];rfl
 ·refine⟨d2,?_,p2,fun i j h1 h2 h3=>b2 i j (Nat.zero_le _) h2 h3 (by omega)⟩;have it:iter (sL ((n:Int),l,())) 1 (d2.toList,(20:Int),())=some (.inl (d2.toList,())):=by refine av ?_;have g20:af .lss (20:Int) (n:Int)=false:=(Of 20 n).trans (decide_eq_false q20);unfold sL;simp only[g20,cond_false]
  rw[bh it (Nat.le_of_lt (aN (by omega)))];rfl
theorem Pb{α:Type}{lt:α->α->Prop}(WN:∀x,¬lt x x)(XQ:∀x y,lt x y -> ¬lt y x):∀ {l m:List α},l.Pairwise lt->m.Pairwise lt->(∀x,x∈l↔x∈m)->l=m
 | [],[],_,_,_=>rfl
 | [],y::m,_,_,h=>absurd ((h y).2 (List.mem_cons_self ..)) (List.not_mem_nil)
 |x::l,[],_,_,h=>absurd ((h x).1 (List.mem_cons_self ..)) (List.not_mem_nil)
 |x::l,y::m,hl,hm,h=>by
  have hl':=List.pairwise_cons.1 hl;have hm':=List.pairwise_cons.1 hm;have hxy:x=y:=by
   rcases List.mem_cons.1 ((h x).1 (List.mem_cons_self ..))with e|h1
   ·exact e
   ·rcases List.mem_cons.1 ((h y).2 (List.mem_cons_self ..))with e|h2
    ·exact e.symm
    ·exact absurd (hl'.1 y h2) (XQ _ _ (hm'.1 x h1))
  subst hxy;congr 1;refine Pb WN XQ hl'.2 hm'.2 fun z=>⟨fun hz=>?_,fun hz=>?_⟩
  ·rcases List.mem_cons.1 ((h z).1 (List.mem_cons_of_mem _ hz))with e|h1
   ·subst e;exact absurd (hl'.1 z hz) (WN z)
   ·exact h1
  ·rcases List.mem_cons.1 ((h z).2 (List.mem_cons_of_mem _ hz))with e|h1
   ·subst e;exact absurd (hm'.1 z hz) (WN z)
   ·exact h1
noncomputable def Li(n:Nat):List Int:=(List.range n).map fun i:Nat=>(i:Int)
theorem PV(n:Nat):(Li n).length=n:=by simp[Li]
theorem extract_all{α:Type}{d:Array α}{n:Nat}(h:d.size=n):d.extract 0 n=d:=by subst h;exact Array.extract_size
theorem RD(n:Nat):Li (n+1)=Li n++[(n:Int)]:=by unfold Li;rw[List.range_succ,List.map_append];rfl
theorem PW{n:Nat}{x:Int}:x∈Li n↔0<=x/\x<n:=by
 unfold Li;rw[List.mem_map];constructor
 ·rintro⟨k,hk,rfl⟩;have:=List.mem_range.1 hk;omega
 ·intro h;exact⟨x.toNat,List.mem_range.2 (by omega),by omega⟩
theorem Ra{l:List Ev}(h:L2 l=true){i j:Nat}(hij:i<j)(hj:j<l.length)(hs:(l.getD i vp).2.2.1=(l.getD j vp).2.2.1):Mz l (i:Int) (j:Int)=true:=by
 have hp:=(PC.1 h).2.2;rw[List.pairwise_iff_getElem]at hp;have:=hp i j (by omega) hj hij;rw[<-getD_eq (show i<l.length by omega) vp,<-getD_eq hj vp]at this;obtain⟨h1,h2⟩:=this;unfold Mz;rw[Int.toNat_natCast,Int.toNat_natCast,NA];rw[LX]at h1;by_cases e:(l.getD i vp).1=(l.getD j vp).1
 ·have:=h2 e;omega
 ·omega
theorem SO{l:List Ev}(h:L2 l=true){x y:Int}(hx:0<=x/\x<l.length)(hy:0<=y/\y<l.length)(hne:x≠y)(hn:Mz l y x=false):Mz l x y=true:=by
 obtain⟨i,rfl⟩:∃n:Nat,x=(n:Int):=⟨x.toNat,by omega⟩
 obtain⟨j,rfl⟩:∃n:Nat,y=(n:Int):=⟨y.toNat,by omega⟩
 by_cases hs:(l.getD i vp).2.2.1=(l.getD j vp).2.2.1
 ·by_cases hij:i<j
  ·exact Ra h hij (by omega) hs
  ·rw[Ra h (i:=j) (j:=i) (by omega) (by omega) hs.symm]at hn;cases hn
 ·unfold Mz at hn⊢;rw[Int.toNat_natCast,Int.toNat_natCast]at hn⊢;rw[R6]at hn;rw[NA];omega
noncomputable def QY(l:List Ev)(r:List Int):Prop:=(∀x,x∈r↔0<=x/\x<l.length)/\r.Pairwise (fun x y=>Mz l x y=true)
theorem SU{l:List Ev}{r s:List Int}(h1:QY l r)(h2:QY l s):r=s:=Pb (lt:=fun x y=>Mz l x y=true) (fun x h=>by rw[(OR l).irrefl]at h;cases h) (fun x y h h'=>by rw[(OR l).asymm h]at h';cases h') h1.2 h2.2 fun x=>by rw[h1.1,h2.1]
theorem Ru(l:List Ev)(h:L2 l = true):∃r, I7 (Li l.length) l = some (r, ()) /\ QY l r:=by
  have hl:=Mf h;have hsz:(Li l.length).toArray.size = l.length:=by simp[Li]
  have ho:Rg l (Li l.length).toArray:=fun k hk=>by
    have:(Li l.length).toArray[k]! ∈ Li l.length:=by rw[getElem!_pos _ k hk, List.getElem_toArray]; exact List.getElem_mem _
    exact PW.1 this
  obtain⟨d', h1, h2, h3⟩:=Tz l (Li l.length).toArray l.length hl hsz ho;have hz:d'.size = l.length:=by rw[h2.1, hsz]
  have hp:d'.toList.Perm (Li l.length):=by have:=h2.2.2;rw[extract_all hz, extract_all hsz]at this;exact this
  refine⟨d'.toList, ?_, fun x=>by rw[hp.mem_iff, PW], ?_⟩
  · unfold I7
    have e:ai (Li l.length) = (l.length:Int):=by unfold ai; rw[PV]
    rw[e, show I6 (Li l.length) (l.length:Int) l = _ from h1];rfl
  · have hnd:(Li l.length).Pairwise (· ≠ ·):=by
      unfold Li;rw[List.pairwise_map];exact List.pairwise_lt_range.imp fun {a b} h=>by omega
    have VQ:d'.toList.Pairwise (· ≠ ·):=(hp.pairwise_iff (fun {a b} h=>Ne.symm h)).2 hnd;rw[List.pairwise_iff_getElem]at VQ⊢;intro i j hi hj hij;have hi':i<d'.size:=by simpa using hi
    have hj':j<d'.size:=by simpa using hj
    have k1:=h3 i j (Nat.zero_le _) hij (by omega);rw[getElem!_pos d' i hi', getElem!_pos d' j hj']at k1;have ok:=ho.perm (by omega) h2;have oi:=ok i hi';have oj:=ok j hj';rw[getElem!_pos d' i hi']at oi;rw[getElem!_pos d' j hj']at oj;exact SO h oi oj (VQ i j hi hj hij) k1
end Go.Fn
set_option linter.unusedSimpArgs false
set_option linter.unusedVariables false
namespace Go.Fn
open Go.R Go.Sort
noncomputable def Rl(l:List Ev)(x:Int):Int:=(l.getD x.toNat vp).2.2.1
theorem Va(P T:List Int)(a:Int):(P++a::T).getD P.length 0=a:=by induction P <;> simp_all
theorem Vb(P T:List Int)(a x:Int):(P++a::x::T).getD (P.length+1) 0=x:=by simp
theorem Vc(P T:List Int)(a x:Int):(P++a::T).set P.length x=P++x::T:=by induction P <;> simp_all
theorem Vd(P T:List Int)(a b x:Int):(P++a::b::T).set (P.length+1) x=P++a::x::T:=by simp
theorem Tt(l:List Ev)(i:Int)(x:Int)(hx:0<=x/\x<l.length):∀(k:Nat) (P S:List Int) (n:Nat),P.length=k->P.length+S.length<=1000->(∀y,y∈P++S->0<=y/\y<l.length)->(∀y,y∈S->Rl l x<Rl l y)->k<n ->
  ∃A B,iter (M9 (l,i,())) n (P++x::S,(k:Int),())=some (.inl (A++x::B,()))/\A++B=P++S/\(∀y,y∈B->Rl l x<Rl l y)/\(∀A' a,A=A'++[a]->Rl l a<=Rl l x):=by
 intro k;induction k with
 |zero=>
  intro P S n hP _ _ hS hn;obtain⟨n,rfl⟩:∃m,n=m+1:=⟨n-1,by omega⟩
  have:P=[]:=List.length_eq_zero_iff.1 hP;subst this;refine⟨[],S,av rfl,rfl,hS,fun A' a h=>?_⟩;have:=congrArg List.length h;simp at this
 |succ p ih=>
  intro P S n hP hlen hv hS hn;obtain⟨n,rfl⟩:∃m,n=m+1:=⟨n-1,by omega⟩
  obtain⟨P',a,rfl⟩:∃P' a,P=P'++[a]:=by
   have hne:P≠[]:=fun h=>by rw[h]at hP;cases hP
   exact⟨P.dropLast,P.getLast hne,(List.dropLast_concat_getLast hne).symm⟩
  have hp:P'.length=p:=by simpa using hP
  subst hp;have ha:=hv a (by simp);obtain⟨an,rfl⟩:∃q:Nat,a=(q:Int):=⟨a.toNat,by omega⟩
  obtain⟨xn,rfl⟩:∃q:Nat,x=(q:Int):=⟨x.toNat,by omega⟩
  have e1:aa .sub .i64 ((P'.length+1:Nat):Int) 1=(P'.length:Int):=iD (by simp at hlen;omega);have hL:(P'++[(an:Int)])++(xn:Int)::S=P'++(an:Int)::(xn:Int)::S:=by simp
  rw[hL];have i0:P'.length<(P'++(an:Int)::(xn:Int)::S).length:=by simp
  have i1:P'.length+1<(P'++(an:Int)::(xn:Int)::S).length:=by simp
  have g0:ae zI (P'++(an:Int)::(xn:Int)::S) (P'.length:Int)=(an:Int):=by rw[ak];exact Va _ _ _
  have g1:ae zI (P'++(an:Int)::(xn:Int)::S) ((P'.length+1:Nat):Int)=(xn:Int):=by rw[ak];exact Vb _ _ _ _
  have ia:ah l (an:Int)=true:=cK (by omega);have ix:ah l (xn:Int)=true:=cK (by omega);by_cases hc:Rl l (xn:Int)<Rl l (an:Int)
  ·obtain⟨A,B,k1,k2,k3,k4⟩:=ih P' ((an:Int)::S) n rfl (by simp at hlen⊢;omega) (fun y hy=>hv y (by simpa using hy)) (fun y hy=>by
    rcases List.mem_cons.1 hy with rfl|hy
    ·exact hc
    ·exact hS y hy) (by omega)
   refine⟨A,B,?_,by rw[k2];simp,k3,k4⟩;rw[<-k1];refine aF ?_;have hgt:af .gtr (ae vp l (an:Int)).2.2.1 (ae vp l (xn:Int)).2.2.1=true:=by rw[ak,ak];exact decide_eq_true (by unfold Rl at hc;rw[Int.toNat_natCast,Int.toNat_natCast]at hc;exact hc)
   unfold M9;simp only[Wv,cond_true,e1,cK i0,cK i1,g0,g1,ia,ix,hgt];have s1:aC (P'++(an:Int)::(xn:Int)::S) ((P'.length+1:Nat):Int) (an:Int)=P'++(an:Int)::(an:Int)::S:=by rw[aQ];exact Vd _ _ _ _ _
   have s2:aC (P'++(an:Int)::(an:Int)::S) ((P'.length:Nat):Int) (xn:Int)=P'++(xn:Int)::(an:Int)::S:=by rw[aQ];exact Vc _ _ _ _
   have i2:P'.length<(P'++(an:Int)::(an:Int)::S).length:=by simp
   rw[s1,s2,cK i2];rfl
  ·refine⟨P'++[(an:Int)],S,?_,rfl,hS,fun A' a h=>?_⟩
   ·rw[hL];refine av ?_;have hgt:af .gtr (ae vp l (an:Int)).2.2.1 (ae vp l (xn:Int)).2.2.1=false:=by rw[ak,ak];exact decide_eq_false (by unfold Rl at hc;rw[Int.toNat_natCast,Int.toNat_natCast]at hc;exact hc)
    unfold M9;simp only[Wv,cond_true,e1,cK i0,cK i1,g0,g1,ia,ix,hgt,cond_false]
   ·have:=List.append_inj_right' h rfl;injection this with h1 _
    rw[<-h1];omega
theorem Se(l:List Ev)(hj:L2 l=true):∀(s i:Nat) (out:List Int) (n:Nat),l.length-i<=s->i<=l.length->out.length=i->(∀x,x∈out↔0<=x/\x<i)->out.Pairwise (fun x y=>Mz l x y=true)->s<n ->
  ∃r,iter (Lp (l,())) n (out,(i:Int),())=some (.inl (r,()))/\QY l r:=by
 have S9:=Mf hj;intro s;induction s with
 |zero=>
  intro i out n hs hi hlen hm hp hn;obtain⟨n,rfl⟩:∃m,n=m+1:=⟨n-1,by omega⟩
  have:i=l.length:=by omega
  refine⟨out,av ?_,fun x=>by rw[hm,this],hp⟩;unfold Lp;simp only[aj,show ¬(i<l.length)by omega,decide_false,cond_false]
 |succ s ih=>
  intro i out n hs hi hlen hm hp hn;obtain⟨n,rfl⟩:∃m,n=m+1:=⟨n-1,by omega⟩
  by_cases h:i<l.length
  ·have hv:∀y,y∈out++[]->0<=y/\y<(l.length:Int):=fun y hy=>by
    have:=(hm y).1 (by simpa using hy);omega
   obtain⟨A,B,k1,k2,k3,k4⟩:=Tt l (i:Int) (i:Int) (by omega) i out [] big hlen (by simp;omega) hv (fun y hy=>absurd hy List.not_mem_nil) (aN (by omega));rw[List.append_nil]at k2;have hout:out.Pairwise (fun x y=>Mz l x y=true):=hp;rw[<-k2,List.pairwise_append]at hout;have YJ:∀a,a∈A->Mz l a (i:Int)=true:=fun a ha=>by
    have hao:=(hm a).1 (by rw[<-k2];exact List.mem_append_left _ ha);have hne:A≠[]:=fun e=>by rw[e]at ha;cases ha
    have hl:=k4 _ _ (List.dropLast_concat_getLast hne).symm;have hle:Rl l a<=Rl l (i:Int):=by
     by_cases e:a=A.getLast hne
     ·rw[e];exact hl
     ·have B4:=hout.1;rw[<-List.dropLast_concat_getLast hne,List.pairwise_append]at B4;have Ya:a∈A.dropLast:=by
       have TW:=ha;rw[<-List.dropLast_concat_getLast hne,List.mem_append]at TW;rcases TW with h|h
       ·exact h
       ·rw[List.mem_singleton]at h;exact absurd h e
      have:=B4.2.2 a Ya (A.getLast hne) (List.mem_singleton.2 rfl);unfold Mz at this;rw[NA]at this;unfold Rl at hl⊢;omega
    obtain⟨an,rfl⟩:∃q:Nat,a=(q:Int):=⟨a.toNat,by omega⟩
    by_cases e:Rl l (an:Int)=Rl l (i:Int)
    ·exact Ra hj (by omega) h (by unfold Rl at e;rwa[Int.toNat_natCast,Int.toNat_natCast]at e)
    ·unfold Mz;rw[NA];unfold Rl at e hle;omega
   have YR:∀y,y∈B->Mz l (i:Int) y=true:=fun y hy=>by have:=k3 y hy;unfold Mz;rw[NA];unfold Rl at this;omega
   obtain⟨r,r1,r2⟩:=ih (i+1) (A++(i:Int)::B) n (by omega) h (by
    have:=congrArg List.length k2;simp only[List.length_append,List.length_cons]at this⊢;omega) (fun x=>by
    have:=hm x;rw[<-k2,List.mem_append]at this;rw[List.mem_append,List.mem_cons];constructor
    ·rintro(q|q|q)
     ·have:=this.1 (.inl q);omega
     ·omega
     ·have:=this.1 (.inr q);omega
    ·intro q;by_cases e:x=(i:Int)
     ·exact .inr (.inl e)
     ·rcases this.2 (by omega)with q|q
      ·exact .inl q
      ·exact .inr (.inr q)) (by
    rw[List.pairwise_append];refine⟨hout.1,List.Pairwise.cons YR hout.2.1,fun a ha y hy=>?_⟩;rcases List.mem_cons.1 hy with rfl|hy
    ·exact YJ a ha
    ·exact hout.2.2 a ha y hy) (by omega)
   refine⟨r,?_,r2⟩;rw[<-r1];refine aF ?_;have l8:aE (out++[(i:Int)])=true:=Mq (by simp;omega);have hap:List.append (α:=Int) out (List.append (α:=Int) ([]:List Int) [(i:Int)])=out++[(i:Int)]:=rfl;unfold Lp Oc;simp only[aj,h,decide_true,cond_true,M5,hj,Option.bind_some,hap,l8,k1,Sum.elim_inl,au (n:=i) (by omega)]
  ·have:i=l.length:=by omega
   refine⟨out,av ?_,fun x=>by rw[hm,this],hp⟩;unfold Lp;simp only[aj,h,decide_false,cond_false]
theorem RY(l:List Ev)(S9:l.length<=60):N9 (ai l,()) (l,[],(0:Int),())=some (.inl (l,Li l.length,())):=by
 refine aU (body:=M6 (ai l,())) (fun n=>(l,Li n,(n:Int),())) l.length (by omega) _ (fun n hn=>?_) ?_
 ·have l8:aE (Li (n+1))=true:=Mq (by rw[PV];omega);have hap:List.append (α:=Int) (Li n) (List.append (α:=Int) ([]:List Int) [(n:Int)])=Li (n+1):=(RD n).symm;unfold M6;simp only[aj,hn,decide_true,cond_true,hap,l8,au (n:=n) (by omega)]
 ·unfold M6;simp only[aj,Nat.lt_irrefl,decide_false,cond_false]
theorem QJ(l:List Ev):∃r,NG l=some (r,())/\Nv l=some (r,())/\r.length<=60/\(∀x,x∈r->0<=x/\x<l.length)/\(r≠[]->L2 l=true)/\(L2 l=true->QY l r):=by
 cases hj:L2 l with
 |false=>
  refine⟨[],?_,?_,Nat.zero_le _,fun x hx=>absurd hx List.not_mem_nil,fun h=>absurd rfl h,fun h=>by cases h⟩
  ·have it:iter (Lp (l,())) 1 ([],(0:Int),())=some (.inl ([],())):=by
    refine av ?_;unfold Lp;simp only[M5,hj,Option.bind_some,cond_false];cases af .lss (0:Int) (ai l) <;> rfl
   unfold NG Na;rw[bh it (Nat.le_of_lt (aN (by omega)))];rfl
  ·unfold Nv;rw[P0,hj];rfl
 |true=>
  have S9:=Mf hj;obtain⟨r,r1,r2⟩:=Se l hj 60 0 [] big (by omega) (Nat.zero_le _) rfl (fun x=>⟨fun h=>absurd h List.not_mem_nil,fun h=>by omega⟩) List.Pairwise.nil (aN (by omega));obtain⟨r',q1,q2⟩:=Ru l hj;have:r'=r:=SU q2 r2;subst this;have hlen:r'.length<=60:=by
   have hp:r'.Perm (Li l.length):=by
    refine(List.perm_ext_iff_of_nodup ?_ ?_).2 fun x=>by rw[r2.1,PW]
    ·exact r2.2.imp fun {a b} h e=>by subst e;rw[(OR l).irrefl]at h;cases h
    ·unfold Li;rw[List.nodup_iff_pairwise_ne,List.pairwise_map];exact List.pairwise_lt_range.imp fun {a b} h=>by omega
   rw[hp.length_eq,PV];exact S9
  refine⟨r',?_,?_,hlen,fun x hx=>(r2.1 x).1 hx,fun _=>rfl,fun _=>r2⟩
  ·unfold NG Na;rw[show(0:Int)=((0:Nat):Int)from rfl,r1];rfl
  ·unfold Nv;simp only[P0,hj,Option.bind_some,Bool.not_true,cond_false,RY l S9,Sum.elim_inl,q1]
abbrev Ql:=Int×Int×Int×Int×Int×Int×Int
noncomputable def fst(r:List Int)(f:Ql)(n:Nat):Int×Int×Int×Int×Int×Int×Int×Int×Int×Int×Int×Int×Int×Int×(List Int)×Int×Unit:=(0,0,0,0,0,0,0,f.1,f.2.1,f.2.2.1,f.2.2.2.1,f.2.2.2.2.1,f.2.2.2.2.2.1,f.2.2.2.2.2.2,r,(n:Int),())
theorem SI(l:List Ev)(hj:L2 l=true)(p:Int)(r:List Int)(hr:∀x,x∈r->0<=x/\x<l.length)(pU:r.length<=60)(f:Ql)(n:Nat)(hn:n<r.length):
  ∃g:Ql,Kg (l,p,()) (fst r f n)=some (.inl (fst r g (n+1)))/\Mk (l,p,ai r,()) (fst r f n)=some (.inl (fst r g (n+1))):=by
 have hx:=hr _ (N5 hn zI);obtain⟨m,hm⟩:∃q:Nat,r.getD n zI=(q:Int):=⟨(r.getD n zI).toNat,by omega⟩
 rw[hm]at hx;have hml:m<l.length:=by omega
 have he:=Oz.1 (R2 hj hml);obtain⟨f1,f2,f3,f4,f5,f6,f7⟩:=f;unfold Kg Mk NJ fst;simp only[aj,hn,decide_true,cond_true,ax,ak,hm,hml,au (n:=n) (by omega)];revert he;generalize l.getD m vp=e;intro he;have ne:∀x y:Int,af .neq x y = !af .eql x y:=fun x y=>rfl;simp only[ne];cases hp:af .eql e.2.2.2.2.1 p with
 |false=>exact⟨(_,_,_,_,_,_,_),rfl,rfl⟩
 |true=>
  have hk:e.2.2.2.1=1\/e.2.2.2.1=2\/e.2.2.2.1=3\/e.2.2.2.1=4:=by omega
  by_cases q0:f1=0
  ·subst q0;rcases hk with h|h|h|h <;> rw[h] <;> exact⟨(_,_,_,_,_,_,_),rfl,rfl⟩
  ·by_cases q1:f1=1
   ·subst q1;rcases hk with h|h|h|h <;> rw[h] <;> exact⟨(_,_,_,_,_,_,_),rfl,rfl⟩
   ·have c0:af .eql f1 (0:Int)=false:=by simpa[af] using q0
    have c1:af .eql f1 (1:Int)=false:=by simpa[af] using q1
    simp only[c0,c1];rcases hk with h|h|h|h <;> rw[h] <;> exact⟨(_,_,_,_,_,_,_),rfl,rfl⟩
theorem SH(l:List Ev)(p:Int)(r:List Int)(hj:r≠[]->L2 l=true)(hr:∀x,x∈r->0<=x/\x<l.length)(pU:r.length<=60):∀(s n k:Nat) (f:Ql),r.length-n<=s->n<=r.length->s<k ->
  ∃g:Ql,iter (Kg (l,p,())) k (fst r f n)=some (.inl (0,0,0,0,0,0,0,g.1,g.2.1,g.2.2.1,g.2.2.2.1,g.2.2.2.2.1,g.2.2.2.2.2.1,g.2.2.2.2.2.2,()))/\iter (Mk (l,p,ai r,())) k (fst r f n)=some (.inl (0,0,0,0,0,0,0,g.1,g.2.1,g.2.2.1,g.2.2.2.1,g.2.2.2.2.1,g.2.2.2.2.2.1,g.2.2.2.2.2.2,())):=by
 have done:∀(n:Nat) (f:Ql),¬(n<r.length)->Kg (l,p,()) (fst r f n)=some (.inr (.inl (0,0,0,0,0,0,0,f.1,f.2.1,f.2.2.1,f.2.2.2.1,f.2.2.2.2.1,f.2.2.2.2.2.1,f.2.2.2.2.2.2,())))/\Mk (l,p,ai r,()) (fst r f n)=some (.inr (.inl (0,0,0,0,0,0,0,f.1,f.2.1,f.2.2.1,f.2.2.2.1,f.2.2.2.2.1,f.2.2.2.2.2.1,f.2.2.2.2.2.2,()))):=fun n f h=>by unfold Kg Mk fst;simp only[aj,h,decide_false,cond_false];exact⟨trivial,trivial⟩
 intro s;induction s with
 |zero=>
  intro n k f hs hn hk;obtain⟨k,rfl⟩:∃m,k=m+1:=⟨k-1,by omega⟩
  have:=done n f (by omega);exact⟨f,av this.1,av this.2⟩
 |succ s ih=>
  intro n k f hs hn hk;obtain⟨k,rfl⟩:∃m,k=m+1:=⟨k-1,by omega⟩
  by_cases h:n<r.length
  ·obtain⟨g,g1,g2⟩:=SI l (hj (fun e=>by rw[e]at h;cases h)) p r hr pU f n h;rw[aF g1,aF g2];exact ih (n+1) k g (by omega) h (by omega)
  ·have:=done n f h;exact⟨f,av this.1,av this.2⟩
theorem Q0(l:List Ev)(p:Int):∃g:Ql,LC l p=some (g.1,g.2.1,g.2.2.1,g.2.2.2.1,g.2.2.2.2.1,g.2.2.2.2.2.1,g.2.2.2.2.2.2,())/\LV l p=some (g.1,g.2.1,g.2.2.1,g.2.2.2.1,g.2.2.2.2.1,g.2.2.2.2.2.1,g.2.2.2.2.2.2,()):=by
 obtain⟨r,r1,r2,r3,r4,r5,_⟩:=QJ l;obtain⟨g,g1,g2⟩:=SH l p r r5 r4 r3 60 0 big (0,0,0,0,0,0,0) (by omega) (Nat.zero_le _) (aN (by omega));refine⟨g,?_,?_⟩
 ·unfold LC;rw[r1];simp only[Option.bind_some];have g1:ND (l,p,()) (0,0,0,0,0,0,0,0,0,0,0,0,0,0,r,0,())=_:=g1;rw[g1];rfl
 ·unfold LV;rw[r2];simp only[Option.bind_some];have g2:OI (l,p,ai r,()) (0,0,0,0,0,0,0,0,0,0,0,0,0,0,r,0,())=_:=g2;rw[g2];rfl
end Go.Fn
set_option linter.unusedSimpArgs false
set_option linter.unusedVariables false
namespace Go.Fn
open Go.R
theorem Tp{l:List Int}{x:Int}:SJ l x=true↔x∈l:=by
 unfold SJ;rw[Bool.not_eq_true',<-Bool.not_eq_true,aO];constructor
 ·intro h;refine Decidable.byContradiction fun hn=>h fun m _ hm=>?_;unfold nat;rw[Bool.not_eq_true',<-Bool.not_eq_true];intro he;have he:l.getD m zI=x:=UZ he;exact hn (he▸N5 (by omega) zI)
 ·intro h hall;obtain⟨m,hm,rfl⟩:=List.getElem_of_mem h;have:=hall m (Nat.zero_le _) (by omega);unfold nat at this;rw[List.getD_eq_getElem?_getD,List.getElem?_eq_getElem hm]at this;simp[af]at this
section
variable {a0 a1:Int} {g:List (List Int)} {s:List TR}
noncomputable def lg(g:List (List Int))(p q:Int):Int:=Y0 g p.toNat q.toNat
structure Bd (s:List TR) (k:Int) (st:Vm):Prop where
 e0:0<=st.2.2.1
 e1:st.2.2.1<=20200
 p0:0<=st.2.2.2.2.2
 p1:st.2.2.2.2.2<=s.length
 l0:-(1000*k)<=st.1
 l1:st.1<=1000*k
structure Rel (g:List (List Int)) (s:List TR) (k c:Int) (VZ st:Vm):Prop where
 b':Bd s k VZ
 b:Bd s k st
 t:∀q:Int,0<=q->q<=s.length->VZ.2.2.1+lg g VZ.2.2.2.2.2 q<=st.2.2.1+lg g st.2.2.2.2.2 q
 l:VZ.1<=st.1-c
 p:VZ.2.2.2.1<=st.2.2.2.1
end
end Go.Fn

