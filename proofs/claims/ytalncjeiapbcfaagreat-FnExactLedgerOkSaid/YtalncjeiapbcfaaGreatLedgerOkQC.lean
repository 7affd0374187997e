import Derived.Test.YtalncjeiapbcfaaGreatLedgerOkQB
/- Plain functions that stand for Go functions, and what they answer. Conditions: none. -/
set_option autoImplicit false
set_option linter.unusedVariables false
set_option linter.unusedSimpArgs false
set_option linter.unusedSimpArgs false
set_option linter.unusedVariables false
namespace Go.Fn
open Go.R Go.Sort
section
variable {α:Type} [Inhabited α] {lt:α->α->Bool}
theorem WY(lt:α->α->Bool)(hi first root:Nat)(d:Array α):(siftDown lt hi first root d).size=d.size:=XL lt hi first (hi-root) root d (Nat.le_refl _)
theorem ge0(n:Nat):af .geq (n:Int) (0:Int)=true:=by simp[af]
theorem aeV:af .geq (-1:Int) (0:Int)=false:=rfl
theorem Xn {X Y S:Type} {body:X->Option (X⊕Y)} (st:S->Int->X) (fin:S->Y) (f:Nat->S->S) (Inv:S->Prop) (top:Nat) (akw:top<=1000)
  (hs:∀i s,i<top->Inv s->body (st s (i:Int))=some (.inl (st (f i s) (aa .sub .i64 (i:Int) 1)))/\Inv (f i s)) (he:∀s,body (st s (-1))=some (.inr (fin s))):
  ∀(k:Nat) (s:S) (n:Nat),k<=top->k<n->Inv s->iter body n (st s ((k:Int)-1))=some (fin (k.rec (motive:=fun _=>S->S) (fun s=>s) (fun k r s=>r (f k s)) s)):=by
 intro k;induction k with
 |zero=>
  intro s n _ hn _;obtain⟨n,rfl⟩:∃m,n=m+1:=⟨n-1,by omega⟩
  exact ay (he s)
 |succ k ih=>
  intro s n hk hn hi;obtain⟨n,rfl⟩:∃m,n=m+1:=⟨n-1,by omega⟩
  obtain⟨h1,h2⟩:=hs k s (by omega) hi;rw[show((k+1:Nat):Int)-1=(k:Int)by omega,aH h1];have e:aa .sub .i64 (k:Int) 1=(k:Int)-1:=bO (by omega) (by omega);rw[e];exact ih (f k s) n (by omega) (by omega) h2
theorem VO(hi first:Nat):∀k (d:Array α),heapBuild lt hi first k d=k.rec (motive:=fun _=>Array α->Array α) (fun s=>s) (fun k r s=>r (siftDown lt hi first k s)) d
 |0,_=>rfl
 |k+1,d=>by rw[heapBuild,VO hi first k]
theorem W3(first:Nat):∀k (d:Array α),heapPop lt first k d=k.rec (motive:=fun _=>Array α->Array α) (fun s=>s) (fun k r s=>r (siftDown lt k first 0 (swp s first (first+k)))) d
 |0,_=>rfl
 |k+1,d=>by rw[heapPop,W3 first k]
theorem Vk(hi first:Nat):∀k (d:Array α),(heapBuild lt hi first k d).size=d.size
 |0,_=>rfl
 |k+1,d=>by rw[heapBuild,Vk hi first k,WY]
theorem abm(d:Array α)(a b:Nat)(hab:a<b)(hb:b<=d.size)(hd:d.size<=255):Pp lt d.toList (a:Int) (b:Int)=some ((heapSort lt d a b).toList,()):=by
 unfold Pp NZ N0 heapSort;have z:ax (2:Int)=false:=rfl;have e1:aa .sub .i64 (b:Int) (a:Int)=((b-a:Nat):Int):=sS (by omega) (by omega);have e2:aa .sub .i64 ((b-a:Nat):Int) 1=((b-a-1:Nat):Int):=sS (m:=1) (by omega) (by omega);have e3:aa .quo .i64 ((b-a-1:Nat):Int) (2:Int)=(((b-a-1) / 2:Nat):Int):=qS _ 2 (by omega);have hq:(b-a-1) / 2<=255:=by omega
 have l0:=Xn (body:=MX lt ((a:Int),(0:Int),((b-a:Nat):Int),())) (fun(s:Array α) (i:Int)=>(s.toList,i,())) (fun s=>.inl (s.toList,())) (fun i s=>siftDown lt (b-a) a i s) (fun s=>s.size=d.size) ((b-a-1) / 2+1) (by omega) (fun i s hi hs=>⟨by
  unfold MX;simp only[ge0,cond_true,Y7 (lt:=lt) s i (b-a) a (by omega) (by omega) (by omega),Option.bind_some],by rw[WY];exact hs⟩) (fun s=>by
  unfold MX;simp only[aeV,cond_false]) ((b-a-1) / 2+1) d big (by omega) (aT (by omega)) rfl
 rw[<-VO,show(((b-a-1) / 2+1:Nat):Int)-1=(((b-a-1) / 2:Nat):Int)by omega]at l0;have l2:=Xn (body:=MY lt ((a:Int),(0:Int),())) (fun(s:Array α) (i:Int)=>(s.toList,i,())) (fun s=>.inl (s.toList,())) (fun i s=>siftDown lt i a 0 (swp s a (a+i))) (fun s=>s.size=d.size) (b-a) (by omega) (fun i s hi hs=>⟨by
  unfold MY;have e4:aa .add .i64 (a:Int) (i:Int)=((a+i:Nat):Int):=aS (by omega);have e5:=Y7 (lt:=lt) (swp s a (a+i)) 0 i a (by rw[size_swp];omega) (by omega) (by rw[size_swp];omega);simp only[ge0,cond_true,e4,TT,gA,W7,Xk,show a+i<s.size by omega,show a<s.size by omega,decide_true];rw[show(0:Int)=((0:Nat):Int)from rfl,e5];rfl,by rw[WY,size_swp];exact hs⟩) (fun s=>by
  unfold MY;simp only[aeV,cond_false]) (b-a) (heapBuild lt (b-a) a ((b-a-1) / 2+1) d) big (Nat.le_refl _) (aT (by omega)) (Vk _ _ _ _)
 rw[<-W3,show((b-a:Nat):Int)-1=((b-a-1:Nat):Int)by omega]at l2;have hbd:heapBuild lt (b-a) a ((b-a-1) / 2) (siftDown lt (b-a) a ((b-a-1) / 2) d)=heapBuild lt (b-a) a ((b-a-1) / 2+1) d:=rfl;simp only[z,cond_false,e1,e2,e3,l0,Option.bind_some,Sum.elim_inl,hbd,l2]
theorem ZY{X Y:Type}{body:X->Option (X⊕Y)}(st:Nat->X)(fin:Nat->Y)(p:α->Bool)(d:Array α)(j:Nat)(hs:∀i,i<=256->body (st i)=some (bif decide (i<=j)&&p d[i]! then .inl (st (i+1))else .inr (fin i)))(hj:j<=255):
  ∀(k i n:Nat),j+1-i<=k->i<=256->k<n->iter body n (st i)=some (fin (scanUp p d j i)):=by
 intro k;induction k with
 |zero=>
  intro i n hk hi hn;obtain⟨n,rfl⟩:∃m,n=m+1:=⟨n-1,by omega⟩
  have h:¬(i<=j):=by omega
  unfold scanUp;simp only[h,decide_false,Bool.false_and,Bool.false_eq_true,if_false];refine ay ?_;rw[hs i hi];simp only[h,decide_false,Bool.false_and,cond_false]
 |succ k ih=>
  intro i n hk hi hn;obtain⟨n,rfl⟩:∃m,n=m+1:=⟨n-1,by omega⟩
  unfold scanUp;have h1:=hs i hi;cases hc:(decide (i<=j)&&p d[i]!)with
  |true=>rw[hc]at h1;have:i<=j:=of_decide_eq_true (Bool.and_eq_true _ _▸hc).1;simp only[if_true];rw[aH h1];exact ih (i+1) n (by omega) (by omega) (by omega)
  |false=>rw[hc]at h1;simp only[Bool.false_eq_true,if_false];exact ay h1
theorem XW{X Y:Type}{body:X->Option (X⊕Y)}(st:Nat->X)(fin:Nat->Y)(p:α->Bool)(d:Array α)(i:Nat)(hi:0<i)(hs:∀j,j<=255->j<d.size->body (st j)=some (bif decide (i<=j)&&p d[j]! then .inl (st (j-1))else .inr (fin j))):
  ∀(j n:Nat),j<d.size->j<=255->j<n->iter body n (st j)=some (fin (scanDown p d i j)):=by
 intro j;induction j with
 |zero=>
  intro n hj hj2 hn;obtain⟨n,rfl⟩:∃m,n=m+1:=⟨n-1,by omega⟩
  refine ay ?_;rw[hs 0 (by omega) hj];simp only[show ¬(i<=0)by omega,decide_false,Bool.false_and,cond_false,scanDown]
 |succ j ih=>
  intro n hj hj2 hn;obtain⟨n,rfl⟩:∃m,n=m+1:=⟨n-1,by omega⟩
  unfold scanDown;have h1:=hs (j+1) hj2 hj;cases hc:(decide (i<=j+1)&&p d[j+1]!)with
  |true=>rw[hc]at h1;simp only[if_true];rw[aH h1];exact ih n (by omega) (by omega) (by omega)
  |false=>rw[hc]at h1;simp only[Bool.false_eq_true,if_false];exact ay h1
section
variable (d:Array α) (a:Nat) (hd:d.size<=255) (ha:a<d.size)
include hd ha
theorem pq0(j i:Nat)(hj:j<d.size)(hi:i<=256):NC lt ((a:Int),(j:Int),()) (d.toList,(i:Int),())=some (.inl (d.toList,((scanUp (fun x=>lt x d[a]!) d j i:Nat):Int),())):=by
 refine ZY (body:=M1 lt ((a:Int),(j:Int),())) (fun i=>(d.toList,(i:Int),())) (fun i=>Sum.inl (d.toList,(i:Int),())) (fun x=>lt x d[a]!) d j (fun i hi=>?_) (by omega) 256 i big (by omega) hi (aT (by omega));unfold M1;by_cases h:i<=j
 ·simp only[XC,h,decide_true,cond_true,TT,gA,show i<d.size by omega,ha,Option.bind_some,Bool.true_and,av (n:=i) (by omega)];cases lt d[i]! d[a]! <;> rfl
 ·simp only[XC,h,decide_false,cond_false,Bool.false_and]
theorem pq6(j i:Nat)(hj:j<d.size)(hi:i<=256):NF lt ((a:Int),(j:Int),()) (d.toList,(i:Int),())=some (.inl (d.toList,((scanUp (fun x=>lt x d[a]!) d j i:Nat):Int),())):=pq0 d a hd ha j i hj hi
theorem pq2(i j:Nat)(hi:0<i)(hj:j<d.size):ND lt ((a:Int),(i:Int),()) (d.toList,(j:Int),())=some (.inl (d.toList,((scanDown (fun x=>!lt x d[a]!) d i j:Nat):Int),())):=by
 refine XW (body:=M2 lt ((a:Int),(i:Int),())) (fun i=>(d.toList,(i:Int),())) (fun i=>Sum.inl (d.toList,(i:Int),())) (fun x=>!lt x d[a]!) d i hi (fun j hj hj2=>?_) j big hj (by omega) (aT (by omega));unfold M2;by_cases h:i<=j
 ·have e:aa .sub .i64 (j:Int) 1=((j-1:Nat):Int):=sS (m:=1) (by omega) (by omega);simp only[XC,h,decide_true,cond_true,TT,gA,hj2,ha,Option.bind_some,Bool.true_and,e];cases lt d[j]! d[a]! <;> rfl
 ·simp only[XC,h,decide_false,cond_false,Bool.false_and]
theorem pq8(i j:Nat)(hi:0<i)(hj:j<d.size):NG lt ((a:Int),(i:Int),()) (d.toList,(j:Int),())=some (.inl (d.toList,((scanDown (fun x=>!lt x d[a]!) d i j:Nat):Int),())):=pq2 d a hd ha i j hi hj
theorem pe2(j i:Nat)(hj:j<d.size)(hi:i<=256):Mh lt ((a:Int),(j:Int),()) (d.toList,(i:Int),())=some (.inl (d.toList,((scanUp (fun x=>!lt d[a]! x) d j i:Nat):Int),())):=by
 refine ZY (body:=Lp lt ((a:Int),(j:Int),())) (fun i=>(d.toList,(i:Int),())) (fun i=>Sum.inl (d.toList,(i:Int),())) (fun x=>!lt d[a]! x) d j (fun i hi=>?_) (by omega) 256 i big (by omega) hi (aT (by omega));unfold Lp;by_cases h:i<=j
 ·simp only[XC,h,decide_true,cond_true,TT,gA,show i<d.size by omega,ha,Option.bind_some,Bool.true_and,av (n:=i) (by omega)];cases lt d[a]! d[i]! <;> rfl
 ·simp only[XC,h,decide_false,cond_false,Bool.false_and]
theorem pe4(i j:Nat)(hi:0<i)(hj:j<d.size):Mi lt ((a:Int),(i:Int),()) (d.toList,(j:Int),())=some (.inl (d.toList,((scanDown (fun x=>lt d[a]! x) d i j:Nat):Int),())):=by
 refine XW (body:=Lq lt ((a:Int),(i:Int),())) (fun i=>(d.toList,(i:Int),())) (fun i=>Sum.inl (d.toList,(i:Int),())) (fun x=>lt d[a]! x) d i hi (fun j hj hj2=>?_) j big hj (by omega) (aT (by omega));unfold Lq;by_cases h:i<=j
 ·have e:aa .sub .i64 (j:Int) 1=((j-1:Nat):Int):=sS (m:=1) (by omega) (by omega);simp only[XC,h,decide_true,cond_true,TT,gA,hj2,ha,Option.bind_some,Bool.true_and,e];cases lt d[a]! d[j]! <;> rfl
 ·simp only[XC,h,decide_false,cond_false,Bool.false_and]
end
theorem aaw(a:Nat):∀(k i j:Nat) (d:Array α) (n:Nat),j+1-i<=k->d.size<=255->a<d.size->0<i->i<=256->j<d.size->k<n->iter (K9 lt ((a:Int),())) n (d.toList,(i:Int),(j:Int),())=some (.inl ((partLoop lt a i j d).2.toList,(((partLoop lt a i j d).1:Nat):Int),())):=by
 intro k;induction k with
 |zero=>
  intro i j d n hk hd ha hi lu hj hn;obtain⟨n,rfl⟩:∃m,n=m+1:=⟨n-1,by omega⟩
  rw[partLoop_eq];have h1:=scanUp_ge (fun x=>lt x d[a]!) d j i;have h2:=scanDown_le (fun x=>!lt x d[a]!) d (scanUp (fun x=>lt x d[a]!) d j i) j;have h:scanUp (fun x=>lt x d[a]!) d j i>scanDown (fun x=>!lt x d[a]!) d (scanUp (fun x=>lt x d[a]!) d j i) j:=by omega
  rw[if_pos h];refine ay ?_;unfold K9;simp only[pq6 (lt:=lt) d a hd ha j i hj lu,Option.bind_some,Sum.elim_inl,pq8 (lt:=lt) d a hd ha (scanUp (fun x=>lt x d[a]!) d j i) j (by omega) hj,Xj,h,decide_true,cond_true]
 |succ k ih=>
  intro i j d n hk hd ha hi lu hj hn;obtain⟨n,rfl⟩:∃m,n=m+1:=⟨n-1,by omega⟩
  rw[partLoop_eq];have h1:=scanUp_ge (fun x=>lt x d[a]!) d j i;have h2:=scanDown_le (fun x=>!lt x d[a]!) d (scanUp (fun x=>lt x d[a]!) d j i) j;have hr:iter (K9 lt ((a:Int),())) (n+1) (d.toList,(i:Int),(j:Int),())=iter (K9 lt ((a:Int),())) (n+1) (d.toList,(i:Int),(j:Int),()):=rfl;by_cases h:scanUp (fun x=>lt x d[a]!) d j i>scanDown (fun x=>!lt x d[a]!) d (scanUp (fun x=>lt x d[a]!) d j i) j
  ·rw[if_pos h];refine ay ?_;unfold K9;simp only[pq6 (lt:=lt) d a hd ha j i hj lu,Option.bind_some,Sum.elim_inl,pq8 (lt:=lt) d a hd ha (scanUp (fun x=>lt x d[a]!) d j i) j (by omega) hj,Xj,h,decide_true,cond_true]
  ·rw[if_neg h];have e6:=pq6 (lt:=lt) d a hd ha j i hj lu;have e8:=pq8 (lt:=lt) d a hd ha (scanUp (fun x=>lt x d[a]!) d j i) j (by omega) hj;generalize scanDown (fun x=>!lt x d[a]!) d (scanUp (fun x=>lt x d[a]!) d j i) j=j2 at h h2 e8⊢;generalize scanUp (fun x=>lt x d[a]!) d j i=i2 at h h1 e6 e8⊢;rw[<-ih (i2+1) (j2-1) (swp d i2 j2) n (by omega) (by rw[size_swp];omega) (by rw[size_swp];omega) (by omega) (by omega) (by rw[size_swp];omega) (by omega)];refine aH ?_;have e:aa .sub .i64 (j2:Int) 1=((j2-1:Nat):Int):=sS (m:=1) (by omega) (by omega);unfold K9;simp only[e6,Option.bind_some,Sum.elim_inl,e8,Xj,h,decide_false,cond_false,TT,gA,W7,show i2<d.size by omega,show j2<d.size by omega,decide_true,cond_true,Xk,e,av (n:=i2) (by omega)]
theorem Y2(a:Nat):∀(k i j:Nat) (d:Array α) (n:Nat),j+1-i<=k->d.size<=255->a<d.size->0<i->i<=256->j<d.size->k<n->iter (Ks lt ((a:Int),())) n (d.toList,(i:Int),(j:Int),())=some (.inl ((partEqLoop lt a i j d).2.toList,(((partEqLoop lt a i j d).1:Nat):Int),())):=by
 intro k;induction k with
 |zero=>
  intro i j d n hk hd ha hi lu hj hn;obtain⟨n,rfl⟩:∃m,n=m+1:=⟨n-1,by omega⟩
  rw[partEqLoop_eq];have h1:=scanUp_ge (fun x=>!lt d[a]! x) d j i;have h2:=scanDown_le (fun x=>lt d[a]! x) d (scanUp (fun x=>!lt d[a]! x) d j i) j;have h:scanUp (fun x=>!lt d[a]! x) d j i>scanDown (fun x=>lt d[a]! x) d (scanUp (fun x=>!lt d[a]! x) d j i) j:=by omega
  rw[if_pos h];refine ay ?_;unfold Ks;simp only[pe2 (lt:=lt) d a hd ha j i hj lu,Option.bind_some,Sum.elim_inl,pe4 (lt:=lt) d a hd ha (scanUp (fun x=>!lt d[a]! x) d j i) j (by omega) hj,Xj,h,decide_true,cond_true]
 |succ k ih=>
  intro i j d n hk hd ha hi lu hj hn;obtain⟨n,rfl⟩:∃m,n=m+1:=⟨n-1,by omega⟩
  rw[partEqLoop_eq];have h1:=scanUp_ge (fun x=>!lt d[a]! x) d j i;have h2:=scanDown_le (fun x=>lt d[a]! x) d (scanUp (fun x=>!lt d[a]! x) d j i) j;by_cases h:scanUp (fun x=>!lt d[a]! x) d j i>scanDown (fun x=>lt d[a]! x) d (scanUp (fun x=>!lt d[a]! x) d j i) j
  ·rw[if_pos h];refine ay ?_;unfold Ks;simp only[pe2 (lt:=lt) d a hd ha j i hj lu,Option.bind_some,Sum.elim_inl,pe4 (lt:=lt) d a hd ha (scanUp (fun x=>!lt d[a]! x) d j i) j (by omega) hj,Xj,h,decide_true,cond_true]
  ·rw[if_neg h];have e6:=pe2 (lt:=lt) d a hd ha j i hj lu;have e8:=pe4 (lt:=lt) d a hd ha (scanUp (fun x=>!lt d[a]! x) d j i) j (by omega) hj;generalize scanDown (fun x=>lt d[a]! x) d (scanUp (fun x=>!lt d[a]! x) d j i) j=j2 at h h2 e8⊢;generalize scanUp (fun x=>!lt d[a]! x) d j i=i2 at h h1 e6 e8⊢;rw[<-ih (i2+1) (j2-1) (swp d i2 j2) n (by omega) (by rw[size_swp];omega) (by rw[size_swp];omega) (by omega) (by omega) (by rw[size_swp];omega) (by omega)];refine aH ?_;have e:aa .sub .i64 (j2:Int) 1=((j2-1:Nat):Int):=sS (m:=1) (by omega) (by omega);unfold Ks;simp only[e6,Option.bind_some,Sum.elim_inl,e8,Xj,h,decide_false,cond_false,TT,gA,W7,show i2<d.size by omega,show j2<d.size by omega,decide_true,cond_true,Xk,e,av (n:=i2) (by omega)]
theorem ZC(d:Array α)(a b p:Nat)(hab:a<b)(hb:b<=d.size)(hd:d.size<=255)(hp:p<d.size):BE lt d.toList (a:Int) (b:Int) (p:Int)=some ((((partitionEqual lt d a b p).1:Nat):Int),(partitionEqual lt d a b p).2.toList,()):=by unfold BE Mg partitionEqual;have e:aa .sub .i64 (b:Int) 1=((b-1:Nat):Int):=sS (m:=1) (by omega) (by omega);simp only[TT,gA,W7,show a<d.size by omega,hp,decide_true,cond_true,Xk,e,av (n:=a) (by omega),Y2 (lt:=lt) a 256 (a+1) (b-1) (swp d a p) big (by omega) (by rw[size_swp];omega) (by rw[size_swp];omega) (by omega) (by omega) (by rw[size_swp];omega) (aT (by omega)),Option.bind_some,Sum.elim_inl]
theorem XJ(a:Nat):∀(k i j:Nat) (d:Array α),j+1-i<=k->(partLoop lt a i j d).2.size=d.size/\(partLoop lt a i j d).1<=j:=by
 intro k;induction k with
 |zero=>intro i j d hk;rw[partLoop_eq];have h1:=scanUp_ge (fun x=>lt x d[a]!) d j i;have h2:=scanDown_le (fun x=>!lt x d[a]!) d (scanUp (fun x=>lt x d[a]!) d j i) j;rw[if_pos (by omega)];exact⟨rfl,h2⟩
 |succ k ih=>
  intro i j d hk;rw[partLoop_eq];have h1:=scanUp_ge (fun x=>lt x d[a]!) d j i;have h2:=scanDown_le (fun x=>!lt x d[a]!) d (scanUp (fun x=>lt x d[a]!) d j i) j;split
  ·exact⟨rfl,h2⟩
  ·obtain⟨h3,h4⟩:=ih (scanUp (fun x=>lt x d[a]!) d j i+1) (scanDown (fun x=>!lt x d[a]!) d (scanUp (fun x=>lt x d[a]!) d j i) j-1) (swp d (scanUp (fun x=>lt x d[a]!) d j i) (scanDown (fun x=>!lt x d[a]!) d (scanUp (fun x=>lt x d[a]!) d j i) j)) (by omega);exact⟨by rw[h3,size_swp],by omega⟩
theorem abn(d:Array α)(a b p:Nat)(hab:a<b)(hb:b<=d.size)(hd:d.size<=255)(hp:p<d.size):vv lt d.toList (a:Int) (b:Int) (p:Int)=some ((((partition lt d a b p).1:Nat):Int),(partition lt d a b p).2.1,(partition lt d a b p).2.2.toList,()):=by
 unfold vv NE partition;have e:aa .sub .i64 (b:Int) 1=((b-1:Nat):Int):=sS (m:=1) (by omega) (by omega);have hs:(swp d a p).size=d.size:=size_swp _ _ _;have e0:=pq0 (lt:=lt) (swp d a p) a (by omega) (by omega) (b-1) (a+1) (by omega) (by omega);have h1:=scanUp_ge (fun x=>lt x (swp d a p)[a]!) (swp d a p) (b-1) (a+1);have e2:=pq2 (lt:=lt) (swp d a p) a (by omega) (by omega) (scanUp (fun x=>lt x (swp d a p)[a]!) (swp d a p) (b-1) (a+1)) (b-1) (by omega) (by omega);have h2:=scanDown_le (fun x=>!lt x (swp d a p)[a]!) (swp d a p) (scanUp (fun x=>lt x (swp d a p)[a]!) (swp d a p) (b-1) (a+1)) (b-1);simp only[TT,gA,W7,show a<d.size by omega,hp,decide_true,cond_true,Xk,e,av (n:=a) (by omega),e0,e2,Option.bind_some,Sum.elim_inl];generalize scanDown (fun x=>!lt x (swp d a p)[a]!) (swp d a p) (scanUp (fun x=>lt x (swp d a p)[a]!) (swp d a p) (b-1) (a+1)) (b-1)=j2 at h2 e2⊢;generalize scanUp (fun x=>lt x (swp d a p)[a]!) (swp d a p) (b-1) (a+1)=i2 at h1 e0 e2⊢;by_cases h:i2>j2
 ·simp only[Xj,h,decide_true,cond_true,if_true,TT,gA,W7,hs,show a<d.size by omega,show j2<d.size by omega,Xk]
 ·have e3:aa .sub .i64 (j2:Int) 1=((j2-1:Nat):Int):=sS (m:=1) (by omega) (by omega);have tq:(swp (swp d a p) i2 j2).size=d.size:=by rw[size_swp,hs]
  have e4:=aaw (lt:=lt) a 256 (i2+1) (j2-1) (swp (swp d a p) i2 j2) big (by omega) (by omega) (by omega) (by omega) (by omega) (by omega) (aT (by omega));obtain⟨h3,h4⟩:=XJ (lt:=lt) a 256 (i2+1) (j2-1) (swp (swp d a p) i2 j2) (by omega);simp only[Xj,h,decide_false,cond_false,if_false,TT,gA,W7,hs,show i2<d.size by omega,show j2<d.size by omega,Xk,decide_true,cond_true,e3,av (n:=i2) (by omega),e4,Option.bind_some,Sum.elim_inl,h3,tq,show a<d.size by omega,show(partLoop lt a (i2+1) (j2-1) (swp (swp d a p) i2 j2)).1<d.size by omega]
end
end Go.Fn
set_option linter.unusedSimpArgs false
set_option linter.unusedVariables false
namespace Go.Fn
open Go.R Go.Sort
section
variable {α:Type} [Inhabited α] {lt:α->α->Bool}
theorem Vl:∀j (d:Array α),(shiftDown lt j d).size=d.size
 |0,_=>rfl
 |j+1,d=>by
  unfold shiftDown;split
  ·rfl
  ·rw[Vl j,size_swp]
theorem Yi(b:Nat):∀(k j:Nat) (d:Array α),b-j<=k->(shiftUp lt b j d).size=d.size:=by
 intro k;induction k with
 |zero=>intro j d h;unfold shiftUp;rw[if_neg (by omega)]
 |succ k ih=>
  intro j d h;unfold shiftUp;split
  ·split
   ·rfl
   ·rw[ih (j+1) _ (by omega),size_swp]
  ·rfl
theorem XK(d:Array α)(b:Nat):∀(k i:Nat),b-i<=k->i<=scanSorted lt d b i/\(i<=b->scanSorted lt d b i<=b):=by
 intro k;induction k with
 |zero=>
  intro i h;unfold scanSorted;have:¬(i<b):=by omega
  simp only[this,decide_false,Bool.false_and,Bool.false_eq_true,if_false];exact⟨Nat.le_refl _,fun h=>h⟩
 |succ k ih=>
  intro i h;unfold scanSorted;split
  ·rename_i hc;simp only[Bool.and_eq_true,decide_eq_true_eq]at hc;have:=ih (i+1) (by omega);exact⟨by omega,fun _=>this.2 (by omega)⟩
  ·exact⟨Nat.le_refl _,fun h=>h⟩
theorem pi2(d:Array α)(hd:d.size<=255)(a b j:Int)(bn:Nat)(hb:bn<=d.size):∀(k i n:Nat),bn-i<=k->0<i->i<=256->k<n->iter (I1 lt (a,(bn:Int),j,())) n (d.toList,(i:Int),())=some (.inl (d.toList,((scanSorted lt d bn i:Nat):Int),())):=by
 intro k;induction k with
 |zero=>
  intro i n hk h0 hi hn;obtain⟨n,rfl⟩:∃m,n=m+1:=⟨n-1,by omega⟩
  refine ay ?_;have h:¬(i<bn):=by omega
  unfold I1 scanSorted;simp only[RU,h,decide_false,cond_false,Bool.false_and,Bool.false_eq_true,if_false]
 |succ k ih=>
  intro i n hk h0 hi hn;obtain⟨n,rfl⟩:∃m,n=m+1:=⟨n-1,by omega⟩
  unfold scanSorted;by_cases h:i<bn
  ·have e:aa .sub .i64 (i:Int) 1=((i-1:Nat):Int):=sS (m:=1) (by omega) (by omega);cases hl:lt d[i]! d[i-1]! with
   |true=>simp only[Bool.not_true,Bool.and_false,Bool.false_eq_true,if_false];refine ay ?_;unfold I1;simp only[RU,h,decide_true,cond_true,e,TT,gA,show i<d.size by omega,show i-1<d.size by omega,Option.bind_some,hl,Bool.not_true,cond_false]
   |false=>simp only[h,Bool.not_false,Bool.and_true,decide_true,if_true];rw[<-ih (i+1) n (by omega) (by omega) (by omega) (by omega)];refine aH ?_;unfold I1;simp only[RU,h,decide_true,cond_true,e,TT,gA,show i<d.size by omega,show i-1<d.size by omega,Option.bind_some,hl,Bool.not_false,av (n:=i) (by omega)]
  ·simp only[h,decide_false,Bool.false_and,Bool.false_eq_true,if_false];refine ay ?_;unfold I1;simp only[RU,h,decide_false,cond_false]
theorem pi4(k:Int×Int×Int×Int×Unit):∀(j:Nat) (d:Array α) (n:Nat),j<d.size->d.size<=255->j<n->iter (JR lt k) n (d.toList,(j:Int),())=some (.inl ((shiftDown lt j d).toList,())):=by
 intro j;induction j with
 |zero=>
  intro d n hj hd hn;obtain⟨n,rfl⟩:∃m,n=m+1:=⟨n-1,by omega⟩
  exact ay rfl
 |succ j ih=>
  intro d n hj hd hn;obtain⟨n,rfl⟩:∃m,n=m+1:=⟨n-1,by omega⟩
  have e1:aa .sub .i64 ((j+1:Nat):Int) (1:Int)=(j:Int):=iw (by omega);have g:af .geq ((j+1:Nat):Int) (1:Int)=true:=(X7 (j+1) 1).trans (decide_eq_true (by omega));unfold shiftDown;cases hl:lt d[j+1]! d[j]! with
  |true=>simp only[Bool.not_true,Bool.false_eq_true,if_false];rw[<-ih (swp d (j+1) j) n (by rw[size_swp];omega) (by rw[size_swp];omega) (by omega)];refine aH ?_;unfold JR;simp only[g,cond_true,e1,TT,gA,W7,hj,show j<d.size by omega,decide_true,Option.bind_some,hl,Bool.not_true,cond_false,Xk]
  |false=>simp only[Bool.not_false,if_true];refine ay ?_;unfold JR;simp only[g,cond_true,e1,TT,gA,W7,hj,show j<d.size by omega,decide_true,Option.bind_some,hl,Bool.not_false]
theorem pi6(a b i j:Int)(bn:Nat):∀(k jn:Nat) (d:Array α) (n:Nat),bn-jn<=k->0<jn->jn<=256->bn<=d.size->d.size<=255->k<n->iter (I2 lt (a,(bn:Int),i,j,())) n (d.toList,(jn:Int),())=some (.inl ((shiftUp lt bn jn d).toList,())):=by
 intro k;induction k with
 |zero=>
  intro jn d n hk h0 h1 hb hd hn;obtain⟨n,rfl⟩:∃m,n=m+1:=⟨n-1,by omega⟩
  have h:¬(jn<bn):=by omega
  unfold shiftUp;rw[if_neg h];refine ay ?_;unfold I2;simp only[RU,h,decide_false,cond_false]
 |succ k ih=>
  intro jn d n hk h0 h1 hb hd hn;obtain⟨n,rfl⟩:∃m,n=m+1:=⟨n-1,by omega⟩
  unfold shiftUp;by_cases h:jn<bn
  ·have e:aa .sub .i64 (jn:Int) 1=((jn-1:Nat):Int):=sS (m:=1) (by omega) (by omega);simp only[h,if_true];cases hl:lt d[jn]! d[jn-1]! with
   |true=>simp only[Bool.not_true,Bool.false_eq_true,if_false];rw[<-ih (jn+1) (swp d jn (jn-1)) n (by omega) (by omega) (by omega) (by rw[size_swp];omega) (by rw[size_swp];omega) (by omega)];refine aH ?_;unfold I2;simp only[RU,h,decide_true,cond_true,e,TT,gA,W7,show jn<d.size by omega,show jn-1<d.size by omega,Option.bind_some,hl,Bool.not_true,cond_false,Xk,av (n:=jn) (by omega)]
   |false=>simp only[Bool.not_false,if_true];refine ay ?_;unfold I2;simp only[RU,h,decide_true,cond_true,e,TT,gA,W7,show jn<d.size by omega,show jn-1<d.size by omega,Option.bind_some,hl,Bool.not_false]
  ·simp only[h,if_false];refine ay ?_;unfold I2;simp only[RU,h,decide_false,cond_false]
theorem pi0(a b:Nat)(hab:a<b):∀(s:Nat),s<=5->∀(i:Nat) (d:Array α) (n:Nat),a<i->i<=b->b<=d.size->d.size<=255->s<n ->
  ∃q,iter (Ir lt ((a:Int),(b:Int),())) n (d.toList,(i:Int),((5-s:Nat):Int),())=some q/\(q=.inl ((partialIns lt a b s i d).1.toList,(partialIns lt a b s i d).2,())\/((partialIns lt a b s i d).2=false/\q=.inr (.inl ((partialIns lt a b s i d).1.toList,())))):=by
 intro s;induction s with
 |zero=>
  intro hs i d n ha hi hb hd hn;obtain⟨n,rfl⟩:∃m,n=m+1:=⟨n-1,by omega⟩
  exact⟨_,ay rfl,.inr ⟨rfl,rfl⟩⟩
 |succ s ih=>
  intro hs i d n ha hi hb hd hn;obtain⟨n,rfl⟩:∃m,n=m+1:=⟨n-1,by omega⟩
  have g5:af .lss ((5-(s+1):Nat):Int) (5:Int)=true:=(RU (5-(s+1)) 5).trans (decide_eq_true (by omega));have e2:KJ lt ((a:Int),(b:Int),((5-(s+1):Nat):Int),()) (d.toList,(i:Int),())=_:=pi2 (lt:=lt) d hd (a:Int) (b:Int) ((5-(s+1):Nat):Int) b hb 256 i big (by omega) (by omega) (by omega) (aT (by omega));have eb:aa .sub .i64 (b:Int) (a:Int)=((b-a:Nat):Int):=sS (by omega) (by omega);have es:aa .add .i64 ((5-(s+1):Nat):Int) 1=((5-s:Nat):Int):=by rw[av (by omega)];congr 1;omega
  obtain⟨h1,h2⟩:=XK (lt:=lt) d b (b-i) i (Nat.le_refl _);have h2:=h2 hi;unfold partialIns;simp only[];generalize scanSorted lt d b i=i2 at e2 h1 h2⊢;by_cases hbi:i2=b
  ·subst hbi;rw[if_pos rfl];refine⟨_,ay ?_,.inl rfl⟩;unfold Ir;simp only[g5,cond_true,e2,Option.bind_some,Sum.elim_inl,eqS,decide_true]
  ·rw[if_neg hbi];by_cases h50:b-a<50
   ·rw[if_pos h50];refine⟨_,ay ?_,.inl rfl⟩;unfold Ir;simp only[g5,cond_true,e2,Option.bind_some,Sum.elim_inl,eqS,hbi,decide_false,cond_false,eb,show af .lss ((b-a:Nat):Int) (50:Int)=true from(RU (b-a) 50).trans (decide_eq_true h50)]
   ·rw[if_neg h50];have e50:af .lss ((b-a:Nat):Int) (50:Int)=false:=(RU (b-a) 50).trans (decide_eq_false h50);have em:aa .sub .i64 (i2:Int) 1=((i2-1:Nat):Int):=sS (m:=1) (by omega) (by omega);have ea:aa .sub .i64 (i2:Int) (a:Int)=((i2-a:Nat):Int):=sS (by omega) (by omega);have ebi:aa .sub .i64 (b:Int) (i2:Int)=((b-i2:Nat):Int):=sS (by omega) (by omega);have hsz:(swp d i2 (i2-1)).size=d.size:=size_swp _ _ _;have e4:KK lt ((a:Int),(b:Int),(i2:Int),((5-(s+1):Nat):Int),()) ((swp d i2 (i2-1)).toList,((i2-1:Nat):Int),())=_:=pi4 (lt:=lt) ((a:Int),(b:Int),(i2:Int),((5-(s+1):Nat):Int),()) (i2-1) (swp d i2 (i2-1)) big (by omega) (by omega) (aT (by omega));have e6:∀d':Array α,d'.size=d.size->J6 lt ((a:Int),(b:Int),(i2:Int),((5-(s+1):Nat):Int),()) (d'.toList,((i2+1:Nat):Int),())=some (.inl ((shiftUp lt b (i2+1) d').toList,())):=fun d' CH=>pi6 (lt:=lt) (a:Int) (b:Int) (i2:Int) ((5-(s+1):Nat):Int) b 256 (i2+1) d' big (by omega) (by omega) (by omega) (by omega) (by omega) (aT (by omega));have hd4:(shiftDown lt (i2-1) (swp d i2 (i2-1))).size=d.size:=by rw[Vl,hsz]
    have hf:∀d':Array α,d'.size=d.size->(shiftUp lt b (i2+1) d').size=d.size:=fun d' h=>by rw[Yi b b _ _ (by omega),h]
    by_cases hA:i2-a>=2
    ·have gA2:af .geq ((i2-a:Nat):Int) (2:Int)=true:=(X7 (i2-a) 2).trans (decide_eq_true hA);by_cases hB:b-i2>=2
     ·have gB2:af .geq ((b-i2:Nat):Int) (2:Int)=true:=(X7 (b-i2) 2).trans (decide_eq_true hB);simp only[hA,hB,if_true];obtain⟨q,hq,lR⟩:=ih (by omega) i2 (shiftUp lt b (i2+1) (shiftDown lt (i2-1) (swp d i2 (i2-1)))) n (by omega) (by omega) (by rw[hf _ hd4];omega) (by rw[hf _ hd4];omega) (by omega);refine⟨q,?_,lR⟩;rw[<-hq];refine aH ?_;unfold Ir;simp only[g5,cond_true,e2,Option.bind_some,Sum.elim_inl,eqS,hbi,decide_false,cond_false,eb,e50,em,TT,gA,W7,show i2<d.size by omega,show i2-1<d.size by omega,decide_true,Xk,ea,gA2,e4,ebi,gB2,av (n:=i2) (by omega),e6 _ hd4,es]
     ·have gB2:af .geq ((b-i2:Nat):Int) (2:Int)=false:=(X7 (b-i2) 2).trans (decide_eq_false hB);simp only[hA,hB,if_true,if_false];obtain⟨q,hq,lR⟩:=ih (by omega) i2 (shiftDown lt (i2-1) (swp d i2 (i2-1))) n (by omega) (by omega) (by rw[hd4];omega) (by rw[hd4];omega) (by omega);refine⟨q,?_,lR⟩;rw[<-hq];refine aH ?_;unfold Ir;simp only[g5,cond_true,e2,Option.bind_some,Sum.elim_inl,eqS,hbi,decide_false,cond_false,eb,e50,em,TT,gA,W7,show i2<d.size by omega,show i2-1<d.size by omega,decide_true,Xk,ea,gA2,e4,ebi,gB2,es]
    ·have gA2:af .geq ((i2-a:Nat):Int) (2:Int)=false:=(X7 (i2-a) 2).trans (decide_eq_false hA);by_cases hB:b-i2>=2
     ·have gB2:af .geq ((b-i2:Nat):Int) (2:Int)=true:=(X7 (b-i2) 2).trans (decide_eq_true hB);simp only[hA,hB,if_true,if_false];obtain⟨q,hq,lR⟩:=ih (by omega) i2 (shiftUp lt b (i2+1) (swp d i2 (i2-1))) n (by omega) (by omega) (by rw[hf _ hsz];omega) (by rw[hf _ hsz];omega) (by omega);refine⟨q,?_,lR⟩;rw[<-hq];refine aH ?_;unfold Ir;simp only[g5,cond_true,e2,Option.bind_some,Sum.elim_inl,eqS,hbi,decide_false,cond_false,eb,e50,em,TT,gA,W7,show i2<d.size by omega,show i2-1<d.size by omega,decide_true,Xk,ea,gA2,ebi,gB2,av (n:=i2) (by omega),e6 _ hsz,es]
     ·have gB2:af .geq ((b-i2:Nat):Int) (2:Int)=false:=(X7 (b-i2) 2).trans (decide_eq_false hB);simp only[hA,hB,if_false];obtain⟨q,hq,lR⟩:=ih (by omega) i2 (swp d i2 (i2-1)) n (by omega) (by omega) (by rw[hsz];omega) (by rw[hsz];omega) (by omega);refine⟨q,?_,lR⟩;rw[<-hq];refine aH ?_;unfold Ir;simp only[g5,cond_true,e2,Option.bind_some,Sum.elim_inl,eqS,hbi,decide_false,cond_false,eb,e50,em,TT,gA,W7,show i2<d.size by omega,show i2-1<d.size by omega,decide_true,Xk,ea,gA2,ebi,gB2,es]
theorem Y6(d:Array α)(a b:Nat)(hab:a<b)(hb:b<=d.size)(hd:d.size<=255):Jf lt d.toList (a:Int) (b:Int)=some ((partialInsertionSort lt d a b).2,(partialInsertionSort lt d a b).1.toList,()):=by
 unfold Jf KI partialInsertionSort;obtain⟨q,hq,rfl|⟨h2,rfl⟩⟩:=pi0 (lt:=lt) a b hab 5 (Nat.le_refl _) (a+1) d big (by omega) (by omega) hb hd (aT (by omega))
 ·rw[av (n:=a) (by omega)];rw[show(0:Int)=((5-5:Nat):Int)from rfl,hq];rfl
 ·rw[av (n:=a) (by omega)];rw[show(0:Int)=((5-5:Nat):Int)from rfl,hq,h2];rfl
theorem abk(a b:Nat):∀(k i j:Nat) (d:Array α) (n:Nat),j-i<=k->a<=i->j<b->b<=d.size->d.size<=255->i<=300->k<n->∃d',iter (KY lt ()) n (d.toList,(i:Int),(j:Int),())=some (.inl (d'.toList,()))/\PermIn a b d d':=by
 intro k;induction k with
 |zero=>
  intro i j d n hk ha hj hb hd hi hn;obtain⟨n,rfl⟩:∃m,n=m+1:=⟨n-1,by omega⟩
  refine⟨d,ay ?_,permIn_refl d a b⟩;unfold KY;simp only[RU,show ¬(i<j)by omega,decide_false,cond_false]
 |succ k ih=>
  intro i j d n hk ha hj hb hd hi hn;obtain⟨n,rfl⟩:∃m,n=m+1:=⟨n-1,by omega⟩
  by_cases h:i<j
  ·obtain⟨d',h1,h2⟩:=ih (i+1) (j-1) (swp d i j) n (by omega) (by omega) (by omega) (by rw[size_swp];omega) (by rw[size_swp];omega) (by omega) (by omega);refine⟨d',?_,permIn_trans _ _ _ a b (swp_permIn d a b i j ha (by omega) (by omega) hj hb) h2⟩;rw[<-h1];refine aH ?_;have e:aa .sub .i64 (j:Int) 1=((j-1:Nat):Int):=sS (m:=1) (by omega) (by omega);unfold KY;simp only[RU,h,decide_true,cond_true,TT,gA,W7,show i<d.size by omega,show j<d.size by omega,Xk,e,av (n:=i) (by omega)]
  ·refine⟨d,ay ?_,permIn_refl d a b⟩;unfold KY;simp only[RU,h,decide_false,cond_false]
theorem Zc(d:Array α)(a b:Nat)(hab:a<b)(hb:b<=d.size)(hd:d.size<=255):∃d',MB lt d.toList (a:Int) (b:Int)=some (d'.toList,())/\PermIn a b d d':=by obtain⟨d',h1,h2⟩:=abk (lt:=lt) a b 256 a (b-1) d big (by omega) (Nat.le_refl _) (by omega) hb hd (by omega) (aT (by omega));refine⟨d',?_,h2⟩;have e:aa .sub .i64 (b:Int) 1=((b-1:Nat):Int):=sS (m:=1) (by omega) (by omega);unfold MB ML;rw[e,h1];rfl
theorem Oy(d:Array α)(a b:Nat)(s:Int)(ha:a<d.size)(hb:b<d.size):∃s',O2 lt d.toList (a:Int) (b:Int) s=some ((a:Int),(b:Int),s',())\/O2 lt d.toList (a:Int) (b:Int) s=some ((b:Int),(a:Int),s',()):=by
 unfold O2;simp only[TT,gA,ha,hb,decide_true,cond_true,Option.bind_some];cases lt d[b]! d[a]!
 ·exact⟨_,.inl rfl⟩
 ·exact⟨_,.inr rfl⟩
theorem Vo(d:Array α)(a b c:Nat)(s:Int)(ha:a<d.size)(hb:b<d.size)(hc:c<d.size):∃(m:Nat) (s':Int),PJ lt d.toList (a:Int) (b:Int) (c:Int) s=some ((m:Int),s',())/\(m=a\/m=b\/m=c):=by
 unfold PJ;obtain⟨s1,h1|h1⟩:=Oy (lt:=lt) d a b s ha hb
 ·obtain⟨s2,h2|h2⟩:=Oy (lt:=lt) d b c s1 hb hc
  ·obtain⟨s3,h3|h3⟩:=Oy (lt:=lt) d a b s2 ha hb
   ·exact⟨b,s3,by simp only[h1,h2,h3,Option.bind_some],.inr (.inl rfl)⟩
   ·exact⟨a,s3,by simp only[h1,h2,h3,Option.bind_some],.inl rfl⟩
  ·obtain⟨s3,h3|h3⟩:=Oy (lt:=lt) d a c s2 ha hc
   ·exact⟨c,s3,by simp only[h1,h2,h3,Option.bind_some],.inr (.inr rfl)⟩
   ·exact⟨a,s3,by simp only[h1,h2,h3,Option.bind_some],.inl rfl⟩
 ·obtain⟨s2,h2|h2⟩:=Oy (lt:=lt) d a c s1 ha hc
  ·obtain⟨s3,h3|h3⟩:=Oy (lt:=lt) d b a s2 hb ha
   ·exact⟨a,s3,by simp only[h1,h2,h3,Option.bind_some],.inl rfl⟩
   ·exact⟨b,s3,by simp only[h1,h2,h3,Option.bind_some],.inr (.inl rfl)⟩
  ·obtain⟨s3,h3|h3⟩:=Oy (lt:=lt) d b c s2 hb hc
   ·exact⟨c,s3,by simp only[h1,h2,h3,Option.bind_some],.inr (.inr rfl)⟩
   ·exact⟨b,s3,by simp only[h1,h2,h3,Option.bind_some],.inr (.inl rfl)⟩
theorem Xw(d:Array α)(a:Nat)(s:Int)(ha:0<a)(ha2:a+1<d.size)(hd:d.size<=255):∃(m:Nat) (s':Int),Lj lt d.toList (a:Int) s=some ((m:Int),s',())/\(m=a-1\/m=a\/m=a+1):=by have e:aa .sub .i64 (a:Int) 1=((a-1:Nat):Int):=sS (m:=1) (by omega) (by omega);obtain⟨m,s',h1,h2⟩:=Vo (lt:=lt) d (a-1) a (a+1) s (by omega) (by omega) (by omega);refine⟨m,s',?_,h2⟩;unfold Lj;rw[e,av (n:=a) (by omega),h1];rfl
theorem XR(p c:Int):∃h:Int,(bif (af .eql c (0:Int))then some (p,(1:Int),())else(bif (af .eql c (12:Int))then some (p,(2:Int),())else some (p,(0:Int),())))=some (p,h,()):=by
 cases af .eql c (0:Int)
 ·cases af .eql c (12:Int) <;> exact⟨_,rfl⟩
 ·exact⟨_,rfl⟩
theorem Xd(d:Array α)(a b:Nat)(hab:a+12<b)(hb:b<=d.size)(hd:d.size<=255):∃(p:Nat) (h:Int),MW lt d.toList (a:Int) (b:Int)=some ((p:Int),h,())/\a<=p/\p<b:=by
 have z:ax (4:Int)=false:=rfl;have e1:aa .sub .i64 (b:Int) (a:Int)=((b-a:Nat):Int):=sS (by omega) (by omega);have g8:af .geq ((b-a:Nat):Int) (8:Int)=true:=(X7 (b-a) 8).trans (decide_eq_true (by omega));have eq:aa .quo .i64 ((b-a:Nat):Int) (4:Int)=(((b-a) / 4:Nat):Int):=qS _ 4 (by omega);have m1:aa .mul .i64 (((b-a) / 4:Nat):Int) (1:Int)=(((b-a) / 4*1:Nat):Int):=mS (m:=1) (by omega);have m2:aa .mul .i64 (((b-a) / 4:Nat):Int) (2:Int)=(((b-a) / 4*2:Nat):Int):=mS (m:=2) (by omega);have m3:aa .mul .i64 (((b-a) / 4:Nat):Int) (3:Int)=(((b-a) / 4*3:Nat):Int):=mS (m:=3) (by omega);have a1:aa .add .i64 (a:Int) (((b-a) / 4*1:Nat):Int)=((a+(b-a) / 4*1:Nat):Int):=aS (by omega);have a2:aa .add .i64 (a:Int) (((b-a) / 4*2:Nat):Int)=((a+(b-a) / 4*2:Nat):Int):=aS (by omega);have a3:aa .add .i64 (a:Int) (((b-a) / 4*3:Nat):Int)=((a+(b-a) / 4*3:Nat):Int):=aS (by omega);unfold MW;simp only[z,cond_false,e1,g8,cond_true,eq,m1,m2,m3,a1,a2,a3];clear e1 g8 eq m1 m2 m3 a1 a2 a3 z;generalize hc:af .geq ((b-a:Nat):Int) (50:Int)=c;clear hc;cases c with
 |true=>obtain⟨x1,s1,h1,k1⟩:=Xw (lt:=lt) d (a+(b-a) / 4*1) (0:Int) (by omega) (by omega) hd;obtain⟨x2,s2,h2,k2⟩:=Xw (lt:=lt) d (a+(b-a) / 4*2) s1 (by omega) (by omega) hd;obtain⟨x3,s3,h3,k3⟩:=Xw (lt:=lt) d (a+(b-a) / 4*3) s2 (by omega) (by omega) hd;obtain⟨x4,s4,h4,k4⟩:=Vo (lt:=lt) d x1 x2 x3 s3 (by omega) (by omega) (by omega);obtain⟨h,hh⟩:=XR (x4:Int) s4;refine⟨x4,h,?_,by omega,by omega⟩;simp only[cond_true,h1,h2,h3,h4,Option.bind_some];exact hh
 |false=>obtain⟨x4,s4,h4,k4⟩:=Vo (lt:=lt) d (a+(b-a) / 4*1) (a+(b-a) / 4*2) (a+(b-a) / 4*3) 0 (by omega) (by omega) (by omega);obtain⟨h,hh⟩:=XR (x4:Int) s4;refine⟨x4,h,?_,by omega,by omega⟩;simp only[cond_false,h4,Option.bind_some];exact hh
end
end Go.Fn
set_option linter.unusedSimpArgs false
set_option linter.unusedVariables false
namespace Go.Fn
open Go.R Go.Sort
theorem adb:(List.range 256).all (fun n=>decide (n<8)||(match KV (n:Int)with|some (m,())=>decide (1<=m/\m<=2*(n:Int))|none=>false))=true:=by decide +kernel
theorem afu{n:Nat}(h8:8<=n)(h:n<=255):∃m:Nat,KV (n:Int)=some ((m:Int),())/\1<=m/\m<=2*n:=by
 have h1:=List.all_eq_true.1 adb n (List.mem_range.2 (by omega));rw[decide_eq_false (by omega:¬n<8),Bool.false_or]at h1;cases hq:KV (n:Int)with
 |none=>rw[hq]at h1;cases h1
 |some p=>obtain⟨m,u⟩:=p;cases u;rw[hq]at h1;have h2:1<=m/\m<=2*(n:Int):=of_decide_eq_true h1;exact⟨m.toNat,by rw[Int.toNat_of_nonneg (by omega)],by omega,by omega⟩
theorem abZ(x:Int):∃v,__slices_xorshift__Next x=some (v,v,()):=⟨_,rfl⟩
theorem adf{n:Int}(h1:0<=n)(h2:n<18446744073709551616):IntKind.u64.wrap n=n:=IntWalk.u64_in n ⟨h1,by omega⟩
theorem afW(x:Int){c:Nat}(hc:c<9223372036854775808):∃r:Nat,aa .and .u64 x (c:Int)=(r:Int)/\r<=c:=by
 have h1:(BitVec.ofInt 64 (c:Int)).toNat=c:=by rw[BitVec.toNat_ofInt];have:((c:Int) % ((2 ^ 64:Nat):Int))=c:=Int.emod_eq_of_lt (by omega) (by omega);rw[this];rfl
 have h2:(BitVec.ofInt 64 x &&& BitVec.ofInt 64 (c:Int)).toNat<=c:=by rw[BitVec.toNat_and,h1];exact Nat.and_le_right
 have e:aa .and .u64 x (c:Int)=IntKind.u64.wrap (((BitVec.ofInt 64 x &&& BitVec.ofInt 64 (c:Int)).toNat:Nat):Int):=rfl;rw[e,adf (by omega) (by omega)];exact⟨_,rfl,h2⟩
theorem afx{n:Nat}(h:1<=n)(h2:n<1099511627776):aa .sub .u64 (n:Int) 1=((n-1:Nat):Int):=by have e:aa .sub .u64 (n:Int) 1=IntKind.u64.wrap ((n:Int)-1):=rfl;rw[e,adf (by omega) (by omega)];omega
theorem aa0{n:Nat}(h:n<1099511627776):ak .i64 (n:Int)=(n:Int):=A1 (by omega) (by omega)
section
variable {α:Type} [Inhabited α] {lt:α->α->Bool}
theorem aaW(a len m last:Nat)(b:Nat)(hlen:b=a+len)(h8:8<=len)(CL:1<=m)(CM:m<=2*len)(ZT:last=a+len / 4*2+1):
  ∀(k idx:Nat) (r:Int) (d:Array α) (n:Nat),last+1-idx<=k->a<=idx->b<=d.size->d.size<=255->idx<=300->k<n->∃d',iter (Kh lt ((a:Int),(len:Int),(m:Int),())) n (d.toList,r,(idx:Int),())=some (.inl (d'.toList,()))/\PermIn a b d d':=by
 have z:ax (4:Int)=false:=rfl;intro k;induction k with
 |zero=>
  intro idx r d n hk ha hb hd hi hn;obtain⟨n,rfl⟩:∃m,n=m+1:=⟨n-1,by omega⟩
  refine⟨d,ay ?_,permIn_refl d a b⟩;have e1:aa .quo .i64 (len:Int) (4:Int)=((len / 4:Nat):Int):=qS _ 4 (by omega);have e2:aa .mul .i64 ((len / 4:Nat):Int) (2:Int)=((len / 4*2:Nat):Int):=mS (m:=2) (by omega);have e3:aa .add .i64 (a:Int) ((len / 4*2:Nat):Int)=((a+len / 4*2:Nat):Int):=aS (by omega);unfold Kh;simp only[z,cond_false,e1,e2,e3,av (n:=a+len / 4*2) (by omega),XC,<-ZT];rw[decide_eq_false (by omega:¬idx<=last)];rfl
 |succ k ih=>
  intro idx r d n hk ha hb hd hi hn;obtain⟨n,rfl⟩:∃m,n=m+1:=⟨n-1,by omega⟩
  have e1:aa .quo .i64 (len:Int) (4:Int)=((len / 4:Nat):Int):=qS _ 4 (by omega);have e2:aa .mul .i64 ((len / 4:Nat):Int) (2:Int)=((len / 4*2:Nat):Int):=mS (m:=2) (by omega);have e3:aa .add .i64 (a:Int) ((len / 4*2:Nat):Int)=((a+len / 4*2:Nat):Int):=aS (by omega);by_cases h:idx<=last
  ·obtain⟨v,hv⟩:=abZ r;obtain⟨w,hw,Dl⟩:=afW v (c:=m-1) (by omega);have hib:idx<b:=by omega
   by_cases hg:w>=len
   ·have e4:aa .sub .i64 (w:Int) (len:Int)=((w-len:Nat):Int):=sS (by omega) (by omega);have e5:aa .add .i64 (a:Int) ((w-len:Nat):Int)=((a+(w-len):Nat):Int):=aS (by omega);obtain⟨d',h1,h2⟩:=ih (idx+1) v (swp d idx (a+(w-len))) n (by omega) (by omega) (by rw[size_swp];omega) (by rw[size_swp];omega) (by omega) (by omega);refine⟨d',?_,permIn_trans _ _ _ a b (swp_permIn d a b idx (a+(w-len)) ha hib (by omega) (by omega) hb) h2⟩;rw[<-h1];refine aH ?_;unfold Kh;simp only[z,cond_false,e1,e2,e3,av (n:=a+len / 4*2) (by omega),XC,<-ZT,h,decide_true,cond_true,hv,Option.bind_some,afx CL (by omega),hw,aa0 (n:=w) (by omega),X7,hg,e4,e5,TT,gA,W7,show a+(w-len)<d.size by omega,show idx<d.size by omega,Xk,aV,av (n:=idx) (by omega)]
   ·have e5:aa .add .i64 (a:Int) (w:Int)=((a+w:Nat):Int):=aS (by omega);obtain⟨d',h1,h2⟩:=ih (idx+1) v (swp d idx (a+w)) n (by omega) (by omega) (by rw[size_swp];omega) (by rw[size_swp];omega) (by omega) (by omega);refine⟨d',?_,permIn_trans _ _ _ a b (swp_permIn d a b idx (a+w) ha hib (by omega) (by omega) hb) h2⟩;rw[<-h1];refine aH ?_;unfold Kh;simp only[z,cond_false,e1,e2,e3,av (n:=a+len / 4*2) (by omega),XC,<-ZT,h,decide_true,cond_true,hv,Option.bind_some,afx CL (by omega),hw,aa0 (n:=w) (by omega),X7,hg,decide_false,e5,TT,gA,W7,show a+w<d.size by omega,show idx<d.size by omega,Xk,aV,av (n:=idx) (by omega)]
  ·refine⟨d,ay ?_,permIn_refl d a b⟩;unfold Kh;simp only[z,cond_false,e1,e2,e3,av (n:=a+len / 4*2) (by omega),XC,<-ZT];rw[decide_eq_false h];rfl
theorem ZP{n:Nat}(h:n<1099511627776):ak .u64 (n:Int)=(n:Int):=adf (by omega) (by omega)
theorem ZI(d:Array α)(a b:Nat)(hab:a+12<b)(hb:b<=d.size)(hd:d.size<=255):∃d',MM lt d.toList (a:Int) (b:Int)=some (d'.toList,())/\PermIn a b d d':=by have z:ax (4:Int)=false:=rfl;obtain⟨m,hm,CL,CM⟩:=afu (n:=b-a) (by omega) (by omega);obtain⟨d',h1,h2⟩:=aaW (lt:=lt) a (b-a) m (a+(b-a) / 4*2+1) b (by omega) (by omega) CL CM rfl 256 (a+(b-a) / 4*2-1) ((b-a:Nat):Int) d big (by omega) (by omega) hb hd (by omega) (aT (by omega));refine⟨d',?_,h2⟩;have e1:aa .sub .i64 (b:Int) (a:Int)=((b-a:Nat):Int):=sS (by omega) (by omega);have g8:af .geq ((b-a:Nat):Int) (8:Int)=true:=(X7 (b-a) 8).trans (decide_eq_true (by omega));have eq:aa .quo .i64 ((b-a:Nat):Int) (4:Int)=(((b-a) / 4:Nat):Int):=qS _ 4 (by omega);have m2:aa .mul .i64 (((b-a) / 4:Nat):Int) (2:Int)=(((b-a) / 4*2:Nat):Int):=mS (m:=2) (by omega);have a2:aa .add .i64 (a:Int) (((b-a) / 4*2:Nat):Int)=((a+(b-a) / 4*2:Nat):Int):=aS (by omega);have s2:aa .sub .i64 ((a+(b-a) / 4*2:Nat):Int) 1=((a+(b-a) / 4*2-1:Nat):Int):=sS (m:=1) (by omega) (by omega);unfold MM Mu;simp only[e1,g8,cond_true,hm,Option.bind_some,z,cond_false,eq,m2,a2,s2,ZP (n:=b-a) (by omega),h1,Sum.elim_inl]
abbrev aaT(α:Type):=Option (((List α)×Int×Int×Int×Bool×Bool×Unit)⊕((List α)×Unit⊕Empty))
noncomputable def XO(lt:α->α->Bool)(rec:(List α)->Int->Int->Int->Option ((List α)×Unit))(M:Nat):Prop:=∀(d:Array α) (a b:Nat) (L:Int),b-a<M->a<=b->b<=d.size->d.size<=255->Below lt a b d->∃d',rec d.toList (a:Int) (b:Int) L=some (d'.toList,())/\PermIn a b d d'/\SortedIn lt a b d'
noncomputable def Next(lt:α->α->Bool)(q:aaT α)(d:Array α)(a b:Nat):Prop:=
 (∃R,q=some (.inr (.inl (R.toList,())))/\PermIn a b d R/\SortedIn lt a b R) \/
 (∃(E:Array α) (a' b':Nat) (L:Int) (wb wp:Bool),q=some (.inl (E.toList,(a':Int),(b':Int),L,wb,wp,()))/\E.size=d.size/\a'<=b'/\b'<=b/\b'-a'<b-a/\Below lt a' b' E/\∀R,PermIn a' b' E R->SortedIn lt a' b' R->PermIn a b d R/\SortedIn lt a b R)
theorem Next.mono{q:aaT α}{d D:Array α}{a b:Nat}(h:Next lt q D a b)(p:PermIn a b d D):Next lt q d a b:=by
 rcases h with ⟨R,h1,h2,h3⟩|⟨E,a',b',L,wb,wp,h1,h2,h3,h4,h5,h6,h7⟩
 ·exact .inl ⟨R,h1,permIn_trans _ _ _ a b p h2,h3⟩
 ·refine .inr ⟨E,a',b',L,wb,wp,h1,by rw[h2,p.1],h3,h4,h5,h6,fun R hR hs=>?_⟩;obtain⟨k1,k2⟩:=h7 R hR hs;exact⟨permIn_trans _ _ _ a b p k1,k2⟩
noncomputable def Sx(lt:α->α->Bool)(rec:(List α)->Int->Int->Int->Option ((List α)×Unit))(a b L:Int)(D:List α)(P:Int):aaT α:=((vv lt D a b P).bind fun y1=>(bif (ax (8:Int))then none else(bif (af .lss (aa .sub .i64 y1.1 a) (aa .sub .i64 b y1.1))then((rec y1.2.2.1 a y1.1 L).bind fun y2=>some (.inl (y2.1,(aa .add .i64 y1.1 (1:Int)),b,L,(af .geq (aa .sub .i64 y1.1 a) (aa .quo .i64 (aa .sub .i64 b a) (8:Int))),y1.2.1,())))else((rec y1.2.2.1 (aa .add .i64 y1.1 (1:Int)) b L).bind fun y2=>some (.inl (y2.1,a,y1.1,L,(af .geq (aa .sub .i64 b y1.1) (aa .quo .i64 (aa .sub .i64 b a) (8:Int))),y1.2.1,()))))))
noncomputable def TQ(lt:α->α->Bool)(rec:(List α)->Int->Int->Int->Option ((List α)×Unit))(a b L:Int)(wb wp:Bool)(D:List α)(P:Int):aaT α:=(bif (af .gtr a (0:Int))then(bif (ah D (aa .sub .i64 a (1:Int)))then(bif (ah D P)then((some (lt (ae default D (aa .sub .i64 a (1:Int))) (ae default D P),())).bind fun y1=>(bif (Bool.not y1.1)then((BE lt D a b P).bind fun y2=>some (.inl (y2.2.1,y2.1,b,L,wb,wp,())))else Sx lt rec a b L D P))else none)else none)else Sx lt rec a b L D P)
theorem ab3(h:SWO lt){rec:(List α)->Int->Int->Int->Option ((List α)×Unit)}{M:Nat}(fY:XO lt rec M)(D:Array α)(a b p:Nat)(L:Int)(hab:a<b)(hb:b<=D.size)(hd:D.size<=255)(hB:Below lt a b D)(hp1:a<=p)(hp2:p<b)(hM:b-a<=M):
  Next lt (Sx lt rec (a:Int) (b:Int) L D.toList (p:Int)) D a b:=by
 have z:ax (8:Int)=false:=rfl;have Xf:=abn (lt:=lt) D a b p hab hb hd (by omega);have hrp:=round_part h (partition_holds lt) hp1 hp2 hb hB (mid:=(partition lt D a b p).1) (ap:=(partition lt D a b p).2.1) (d4:=(partition lt D a b p).2.2) rfl;generalize (partition lt D a b p).1=mid at Xf hrp;generalize (partition lt D a b p).2.1=ap at Xf hrp;generalize (partition lt D a b p).2.2=d4 at Xf hrp;obtain⟨g1,g2,hs4,hBa,hBr,hleft,hright⟩:=hrp;unfold Sx;have e1:aa .sub .i64 (mid:Int) (a:Int)=((mid-a:Nat):Int):=sS (by omega) (by omega);have e2:aa .sub .i64 (b:Int) (mid:Int)=((b-mid:Nat):Int):=sS (by omega) (by omega);have e3:aa .add .i64 (mid:Int) 1=((mid+1:Nat):Int):=av (by omega);simp only[Xf,Option.bind_some,z,cond_false,e1,e2,e3,RU];by_cases hlt:mid-a<b-mid
 ·obtain⟨L1,hL,l1,l2⟩:=fY d4 a mid L (by omega) g1 (by omega) (by omega) hBa;obtain⟨hBL,gO⟩:=hleft L1 l1 l2;simp only[hlt,decide_true,cond_true,hL,Option.bind_some];exact .inr ⟨L1,mid+1,b,_,_,_,rfl,by rw[l1.1,hs4],by omega,Nat.le_refl _,by omega,hBL,gO⟩
 ·obtain⟨L1,hL,l1,l2⟩:=fY d4 (mid+1) b L (by omega) (by omega) (by omega) (by omega) hBr;obtain⟨hBL,gO⟩:=hright L1 l1 l2;simp only[hlt,decide_false,cond_false,hL,Option.bind_some];exact .inr ⟨L1,a,mid,_,_,_,rfl,by rw[l1.1,hs4],by omega,by omega,by omega,hBL,gO⟩
theorem Vv(h:SWO lt){rec:(List α)->Int->Int->Int->Option ((List α)×Unit)}{M:Nat}(fY:XO lt rec M)(D:Array α)(a b p:Nat)(L:Int)(wb wp:Bool)(hab:a<b)(hb:b<=D.size)(hd:D.size<=255)(hB:Below lt a b D)(hp1:a<=p)(hp2:p<b)(hM:b-a<=M):
  Next lt (TQ lt rec (a:Int) (b:Int) L wb wp D.toList (p:Int)) D a b:=by
 have pI:=ab3 h fY D a b p L hab hb hd hB hp1 hp2 hM;unfold TQ;by_cases h0:a>0
 ·have g0:af .gtr (a:Int) (0:Int)=true:=(Xj a 0).trans (decide_eq_true h0);have e1:aa .sub .i64 (a:Int) 1=((a-1:Nat):Int):=sS (m:=1) (by omega) (by omega);simp only[g0,cond_true,e1,TT,gA,show a-1<D.size by omega,show p<D.size by omega,decide_true,Option.bind_some];cases hl:lt D[a-1]! D[p]! with
  |true=>exact pI
  |false=>have Xf:=ZC (lt:=lt) D a b p hab hb hd (by omega);have hrp:=round_eq h (partitionEqual_holds lt) h0 hp1 hp2 hb hB hl (mid:=(partitionEqual lt D a b p).1) (d4:=(partitionEqual lt D a b p).2) rfl;generalize (partitionEqual lt D a b p).1=mid at Xf hrp;generalize (partitionEqual lt D a b p).2=d4 at Xf hrp;obtain⟨CL,CM,hs4,hB4,gO⟩:=hrp;simp only[Bool.not_false,cond_true,Xf,Option.bind_some];exact .inr ⟨d4,mid,b,_,_,_,rfl,hs4,CM,Nat.le_refl _,by omega,hB4,gO⟩
 ·have g0:af .gtr (a:Int) (0:Int)=false:=(Xj a 0).trans (decide_eq_false h0);simp only[g0,cond_false];exact pI
noncomputable def ZQ(lt:α->α->Bool)(rec:(List α)->Int->Int->Int->Option ((List α)×Unit))(a b L:Int)(wb wp:Bool)(D:List α)(P:Int):aaT α:=((Jf lt D a b).bind fun y3=>(bif y3.1 then some (.inr (.inl (y3.2.1,())))else TQ lt rec a b L wb wp y3.2.1 P))
theorem abe(h:SWO lt){rec:(List α)->Int->Int->Int->Option ((List α)×Unit)}{M:Nat}(fY:XO lt rec M)(D:Array α)(a b p:Nat)(L:Int)(wb wp:Bool)(hab:a<b)(hb:b<=D.size)(hd:D.size<=255)(hB:Below lt a b D)(hp1:a<=p)(hp2:p<b)(hM:b-a<=M):
  Next lt (ZQ lt rec (a:Int) (b:Int) L wb wp D.toList (p:Int)) D a b:=by
 have Xf:=Y6 (lt:=lt) D a b hab hb hd;obtain⟨k1,k2⟩:=partialInsertionSort_holds h D a b hab hb hB;unfold ZQ;generalize (partialInsertionSort lt D a b).1=D3 at Xf k1 k2;generalize (partialInsertionSort lt D a b).2=fl at Xf k1 k2;simp only[Xf,Option.bind_some];cases fl with
 |true=>exact .inl ⟨D3,rfl,k1,k2 rfl⟩
 |false=>exact(Vv h fY D3 a b p L wb wp hab (by rw[k1.1];exact hb) (by rw[k1.1];exact hd) (hB.perm hb k1) hp1 hp2 hM).mono k1
theorem Y4(h:SWO lt){rec:(List α)->Int->Int->Int->Option ((List α)×Unit)}{M:Nat}(fY:XO lt rec M)(d:Array α)(a b:Nat)(L:Int)(wb wp:Bool)(hab:a<=b)(hb:b<=d.size)(hd:d.size<=255)(hB:Below lt a b d)(hM:b-a<=M):
  Next lt (Kt lt rec () (d.toList,(a:Int),(b:Int),L,wb,wp,())) d a b:=by
 have e1:aa .sub .i64 (b:Int) (a:Int)=((b-a:Nat):Int):=sS (by omega) (by omega);have eb:aa .sub .i64 (b:Int) 1=((b-1:Nat):Int)\/b=0:=by
  by_cases h0:b=0
  ·exact .inr h0
  ·exact .inl (sS (m:=1) (by omega) (by omega))
 by_cases h12:b-a<=12
 ·have g:af .leq ((b-a:Nat):Int) (12:Int)=true:=(XC (b-a) 12).trans (decide_eq_true h12);unfold Kt;simp only[e1,g,cond_true,ab7 (lt:=lt) d a b hab hb hd,Option.bind_some];have:=insertionSort_holds h d a b hab hb;exact .inl ⟨_,rfl,this.1,this.2⟩
 ·have g:af .leq ((b-a:Nat):Int) (12:Int)=false:=(XC (b-a) 12).trans (decide_eq_false h12);cases hL:af .eql L (0:Int)with
  |true=>unfold Kt;simp only[e1,g,cond_false,hL,cond_true,abm (lt:=lt) d a b (by omega) hb hd,Option.bind_some];have:=heapSort_holds h d a b hab hb;exact .inl ⟨_,rfl,this.1,this.2⟩
  |false=>
   have eb:=eb.resolve_right (by omega);have ePv:∀p:Nat,a<=p->p<b->aa .sub .i64 ((b-1:Nat):Int) (aa .sub .i64 (p:Int) (a:Int))=(((b-1)-(p-a):Nat):Int):=by intro p h1 h2;rw[sS (n:=p) (m:=a) h1 (by omega),sS (by omega) (by omega)]
   cases wb with
   |false=>
    obtain⟨d1,hbr,p1⟩:=ZI (lt:=lt) d a b (by omega) hb hd;have b1:b<=d1.size:=by rw[p1.1];exact hb
    have s1:d1.size<=255:=by rw[p1.1];exact hd
    have B1:=hB.perm hb p1;obtain⟨p,hh,hch,hp1,hp2⟩:=Xd (lt:=lt) d1 a b (by omega) b1 s1;cases rM:af .eql hh (2:Int)with
    |true=>obtain⟨d2,BD,p2⟩:=Zc (lt:=lt) d1 a b (by omega) b1 s1;have:=(Vv h fY d2 a b ((b-1)-(p-a)) (aa .sub .i64 L 1) false wp (by omega) (by rw[p2.1];exact b1) (by rw[p2.1];exact s1) (B1.perm b1 p2) (by omega) (by omega) hM).mono (permIn_trans _ _ _ a b p1 p2);unfold Kt;simp only[e1,g,cond_false,hL,Bool.not_false,cond_true,hbr,Option.bind_some,hch,rM,BD,eb,ePv p hp1 hp2];simp only[TQ,Sx,e1,Option.bind_some]at this;exact this
    |false=>have:=(Vv h fY d1 a b p (aa .sub .i64 L 1) false wp (by omega) b1 s1 B1 hp1 hp2 hM).mono p1;unfold Kt;simp only[e1,g,cond_false,hL,Bool.not_false,cond_true,hbr,Option.bind_some,hch,rM];simp only[TQ,Sx,e1,Option.bind_some]at this;exact this
   |true=>
    obtain⟨p,hh,hch,hp1,hp2⟩:=Xd (lt:=lt) d a b (by omega) hb hd;cases rM:af .eql hh (2:Int)with
    |true=>
     obtain⟨d2,BD,p2⟩:=Zc (lt:=lt) d a b (by omega) hb hd;have yP:b<=d2.size:=by rw[p2.1];exact hb
     have tq:d2.size<=255:=by rw[p2.1];exact hd
     cases wp with
     |true=>have:=(abe h fY d2 a b ((b-1)-(p-a)) L true true (by omega) yP tq (hB.perm hb p2) (by omega) (by omega) hM).mono p2;unfold Kt;simp only[e1,g,cond_false,hL,Bool.not_true,cond_true,Option.bind_some,hch,rM,BD,eb,ePv p hp1 hp2,show af .eql (1:Int) (1:Int)=true from rfl];simp only[ZQ,TQ,Sx,e1,Option.bind_some]at this;exact this
     |false=>have:=(Vv h fY d2 a b ((b-1)-(p-a)) L true false (by omega) yP tq (hB.perm hb p2) (by omega) (by omega) hM).mono p2;unfold Kt;simp only[e1,g,cond_false,hL,Bool.not_true,cond_true,Option.bind_some,hch,rM,BD,eb,ePv p hp1 hp2];simp only[TQ,Sx,e1,Option.bind_some]at this;exact this
    |false=>
     cases wp with
     |true=>
      cases BC:af .eql hh (1:Int)with
      |true=>have:=abe h fY d a b p L true true (by omega) hb hd hB hp1 hp2 hM;unfold Kt;simp only[e1,g,cond_false,hL,Bool.not_true,cond_true,Option.bind_some,hch,rM,BC];simp only[ZQ,TQ,Sx,e1,Option.bind_some]at this;exact this
      |false=>have:=Vv h fY d a b p L true true (by omega) hb hd hB hp1 hp2 hM;unfold Kt;simp only[e1,g,cond_false,hL,Bool.not_true,cond_true,Option.bind_some,hch,rM,BC];simp only[TQ,Sx,e1,Option.bind_some]at this;exact this
     |false=>have:=Vv h fY d a b p L true false (by omega) hb hd hB hp1 hp2 hM;unfold Kt;simp only[e1,g,cond_false,hL,Bool.not_true,cond_true,Option.bind_some,hch,rM];simp only[TQ,Sx,e1,Option.bind_some]at this;exact this
theorem abj(h:SWO lt){rec:(List α)->Int->Int->Int->Option ((List α)×Unit)}{M:Nat}(fY:XO lt rec M):∀(k:Nat) (d:Array α) (a b:Nat) (L:Int) (wb wp:Bool) (n:Nat),b-a<=k->b-a<=M->k<n->a<=b->b<=d.size->d.size<=255->Below lt a b d ->
  ∃d',iter (Kt lt rec ()) n (d.toList,(a:Int),(b:Int),L,wb,wp,())=some (.inl (d'.toList,()))/\PermIn a b d d'/\SortedIn lt a b d':=by
 intro k;induction k with
 |zero=>
  intro d a b L wb wp n hk hM hn hab hb hd hB;obtain⟨n,rfl⟩:∃m,n=m+1:=⟨n-1,by omega⟩
  rcases Y4 h fY d a b L wb wp hab hb hd hB hM with ⟨R,h1,h2,h3⟩|⟨E,a',b',L',wb',wp',h1,h2,h3,h4,h5,h6,h7⟩
  ·exact⟨R,ay h1,h2,h3⟩
  ·omega
 |succ k ih=>
  intro d a b L wb wp n hk hM hn hab hb hd hB;obtain⟨n,rfl⟩:∃m,n=m+1:=⟨n-1,by omega⟩
  rcases Y4 h fY d a b L wb wp hab hb hd hB hM with ⟨R,h1,h2,h3⟩|⟨E,a',b',L',wb',wp',h1,h2,h3,h4,h5,h6,h7⟩
  ·exact⟨R,ay h1,h2,h3⟩
  ·obtain⟨d',k1,k2,k3⟩:=ih E a' b' L' wb' wp' n (by omega) (by omega) (by omega) h3 (by omega) (by omega) h6;exact⟨d',by rw[aH h1];exact k1,h7 d' k2 k3⟩
theorem afw(h:SWO lt):∀F,XO lt (NR lt F) F:=by
 intro F;induction F with
 |zero=>intro d a b L hF;omega
 |succ F ih=>intro d a b L hF hab hb hd hB;obtain⟨d',h1,h2,h3⟩:=abj h ih 256 d a b L true true big (by omega) (by omega) (aT (by omega)) hab hb hd hB;refine⟨d',?_,h2,h3⟩;unfold NR Py Oz;rw[h1];rfl
theorem ZX(h:SWO lt)(l:List α)(L:Int)(hl:l.length<=255):∃r:List α,Uk lt l (0:Int) (l.length:Int) L=some (r,())/\r.Perm l/\∀i j,i<j->j<r.length->lt (r.getD j default) (r.getD i default)=false:=by
 obtain⟨d',h1,h2,h3⟩:=afw h big l.toArray 0 l.length L (aT (by omega)) (by omega) (by simp) (by simpa using hl) (.inl rfl);have hsz:d'.size=l.length:=by rw[h2.1];simp
 refine⟨d'.toList,h1,?_,fun i j hij hj=>?_⟩
 ·have:=h2.2.2;rw[show d'.extract 0 l.length=d' by rw[<-hsz];exact Array.extract_size,show l.toArray.extract 0 l.length=l.toArray by rw[show l.length=l.toArray.size by simp];exact Array.extract_size]at this;exact this
 ·have:=h3 i j (by omega) hij (by rw[Array.length_toList]at hj;omega);rw[<-gA,<-gA,aq,aq]at this;exact this
end
end Go.Fn
set_option linter.unusedSimpArgs false
set_option linter.unusedVariables false
namespace Go.Fn
open Go.R Go.Sort
noncomputable def Nw(x y:Ev):Bool:=decide (x.1<y.1)||(decide (x.1=y.1)&&decide (x.2.1<y.2.1))
noncomputable def abE(x y:Ev):Int:=bif Nw x y then -1 else bif Nw y x then 1 else 0
theorem IR(x y:Ev):af .lss (abE x y) (0:Int)=Nw x y:=by unfold abE;cases Nw x y <;> cases Nw y x <;> rfl
noncomputable def ZB(a b:Int):Int:=bif decide (a<b)then -1 else bif decide (b<a)then 1 else 0
theorem compare_eq(a b:Int):Mt a b=some (ZB a b,()):=by unfold Mt M0 ZB;simp only[Lo,Option.bind_some,cond_false];simp only[af,gt_iff_lt];cases decide (a<b) <;> cases decide (b<a) <;> rfl
theorem or_eq(a b:Int):Rk [a,b]=some ((bif decide (a=0)then b else a),()):=by
 unfold Rk Sw;have hb:∀n:Nat,n<2->NB ((0:Int),[a,b],ai [a,b],()) ((n:Int),())=some (bif decide (([a,b].getD n 0)=0)then .inl (((n+1:Nat):Int),())else .inr (.inl ([a,b].getD n 0,()))):=by
  intro n hn;unfold NB;simp only[aj,az,aq,show n < [a,b].length from hn,decide_true,cond_true,av (n:=n) (by omega),zI];by_cases h:[a,b].getD n 0=0
  ·rw[h];rfl
  ·rw[show af .neq ([a,b].getD n 0) (0:Int)=true from by simpa[af] using h,decide_eq_false h];rfl
 by_cases ha:a=0
 ·by_cases hb0:b=0
  ·have e:iter (NB ((0:Int),[a,b],ai [a,b],())) 3 ((0:Int),())=some (.inr (.inl ())):=by
    rw[aH (y:=(((1:Nat):Int),())) (by simpa[ha] using hb 0 (by omega)),aH (y:=(((2:Nat):Int),())) (by simpa[hb0] using hb 1 (by omega))];exact ay rfl
   rw[bF e (by unfold big;omega),ha,hb0];rfl
  ·have e:iter (NB ((0:Int),[a,b],ai [a,b],())) 2 ((0:Int),())=some (.inl (b,())):=by
    rw[aH (y:=(((1:Nat):Int),())) (by simpa[ha] using hb 0 (by omega))];exact ay (by simpa[hb0] using hb 1 (by omega))
   rw[bF e (by unfold big;omega),ha];rfl
 ·have e:iter (NB ((0:Int),[a,b],ai [a,b],())) 1 ((0:Int),())=some (.inl (a,())):=ay (by simpa[ha] using hb 0 (by omega));rw[bF e (by unfold big;omega)];simp[ha]
theorem JC(x y:Ev):hG x.1 x.2.1 x.2.2.1 x.2.2.2.1 x.2.2.2.2.1 x.2.2.2.2.2.1 x.2.2.2.2.2.2 y.1 y.2.1 y.2.2.1 y.2.2.2.1 y.2.2.2.2.1 y.2.2.2.2.2.1 y.2.2.2.2.2.2=some (abE x y,()):=by
 unfold hG;simp only[compare_eq,Option.bind_some];rw[show(List.append (α:=Int) (List.append (α:=Int) ([]:List Int) [ZB x.1 y.1]) [ZB x.2.1 y.2.1])=[ZB x.1 y.1,ZB x.2.1 y.2.1]from rfl,or_eq];simp only[Option.bind_some];congr 2;unfold abE Nw ZB;by_cases h1:x.1<y.1
 ·simp[h1]
 ·by_cases h2:y.1<x.1
  ·have h3:¬(x.1=y.1):=by omega
   simp[h1,h2,h3]
  ·have h3:x.1=y.1:=by omega
   by_cases h4:x.2.1<y.2.1
   ·simp[h3,h4]
   ·by_cases h5:y.2.1<x.2.1
    ·simp[h3,h4,h5]
    ·simp[h3,h4,h5]
theorem b9:Jb=Ki (Nw):=by
 funext;unfold Jb Ki;try simp only[JC,IR,Option.bind_some]
 try rfl
theorem cn:Ik=Mw (Nw):=by
 funext;unfold Ik Mw;try simp only[JC,IR,Option.bind_some,b9]
 try rfl
theorem cx:Ja=KN (Nw):=by
 funext;unfold Ja KN;try simp only[JC,IR,Option.bind_some,b9,cn]
 try rfl
theorem cT:Ij=Mv (Nw):=by
 funext;unfold Ij Mv;try simp only[JC,IR,Option.bind_some,b9,cn,cx]
 try rfl
theorem gm:Iv=MN (Nw):=by
 funext;unfold Iv MN;try simp only[JC,IR,Option.bind_some,b9,cn,cx,cT]
 try rfl
theorem kk:Ju=KE (Nw):=by
 funext;unfold Ju KE;try simp only[JC,IR,Option.bind_some,b9,cn,cx,cT,gm]
 try rfl
theorem ko:II=N1 (Nw):=by
 funext;unfold II N1;try simp only[JC,IR,Option.bind_some,b9,cn,cx,cT,gm,kk]
 try rfl
theorem tW:FI=Og (Nw):=by
 funext;unfold FI Og;try simp only[JC,IR,Option.bind_some,b9,cn,cx,cT,gm,kk,ko]
 try rfl
theorem me:Js=MX (Nw):=by
 funext;unfold Js MX;try simp only[JC,IR,Option.bind_some,b9,cn,cx,cT,gm,kk,ko,tW]
 try rfl
theorem nh:IF=NZ (Nw):=by
 funext;unfold IF NZ;try simp only[JC,IR,Option.bind_some,b9,cn,cx,cT,gm,kk,ko,tW,me]
 try rfl
theorem n3:Jt=MY (Nw):=by
 funext;unfold Jt MY;try simp only[JC,IR,Option.bind_some,b9,cn,cx,cT,gm,kk,ko,tW,me,nh]
 try rfl
theorem n5:IG=N0 (Nw):=by
 funext;unfold IG N0;try simp only[JC,IR,Option.bind_some,b9,cn,cx,cT,gm,kk,ko,tW,me,nh,n3]
 try rfl
theorem Cp:IW=Pp (Nw):=by
 funext;unfold IW Pp;try simp only[JC,IR,Option.bind_some,b9,cn,cx,cT,gm,kk,ko,tW,me,nh,n3,n5]
 try rfl
theorem gb:I9=Kh (Nw):=by
 funext;unfold I9 Kh;try simp only[JC,IR,Option.bind_some,b9,cn,cx,cT,gm,kk,ko,tW,me,nh,n3,n5,Cp]
 try rfl
theorem g3:Ii=Mu (Nw):=by
 funext;unfold Ii Mu;try simp only[JC,IR,Option.bind_some,b9,cn,cx,cT,gm,kk,ko,tW,me,nh,n3,n5,Cp,gb]
 try rfl
theorem lf:Iu=MM (Nw):=by
 funext;unfold Iu MM;try simp only[JC,IR,Option.bind_some,b9,cn,cx,cT,gm,kk,ko,tW,me,nh,n3,n5,Cp,gb,g3]
 try rfl
theorem Jq:vp=O2 (Nw):=by
 funext;unfold vp O2;try simp only[JC,IR,Option.bind_some,b9,cn,cx,cT,gm,kk,ko,tW,me,nh,n3,n5,Cp,gb,g3,lf]
 try rfl
theorem JA:vn=PJ (Nw):=by
 funext;unfold vn PJ;try simp only[JC,IR,Option.bind_some,b9,cn,cx,cT,gm,kk,ko,tW,me,nh,n3,n5,Cp,gb,g3,lf,Jq]
 try rfl
theorem mo:qB=Lj (Nw):=by
 funext;unfold qB Lj;try simp only[JC,IR,Option.bind_some,b9,cn,cx,cT,gm,kk,ko,tW,me,nh,n3,n5,Cp,gb,g3,lf,Jq,JA]
 try rfl
theorem sL:yx=MW (Nw):=by
 funext;unfold yx MW;try simp only[JC,IR,Option.bind_some,b9,cn,cx,cT,gm,kk,ko,tW,me,nh,n3,n5,Cp,gb,g3,lf,Jq,JA,mo]
 try rfl
theorem kB:Jd=KY (Nw):=by
 funext;unfold Jd KY;try simp only[JC,IR,Option.bind_some,b9,cn,cx,cT,gm,kk,ko,tW,me,nh,n3,n5,Cp,gb,g3,lf,Jq,JA,mo,sL]
 try rfl
theorem nl:Ip=ML (Nw):=by
 funext;unfold Ip ML;try simp only[JC,IR,Option.bind_some,b9,cn,cx,cT,gm,kk,ko,tW,me,nh,n3,n5,Cp,gb,g3,lf,Jq,JA,mo,sL,kB]
 try rfl
theorem tv:xh=MB (Nw):=by
 funext;unfold xh MB;try simp only[JC,IR,Option.bind_some,b9,cn,cx,cT,gm,kk,ko,tW,me,nh,n3,n5,Cp,gb,g3,lf,Jq,JA,mo,sL,kB,nl]
 try rfl
theorem eg:IM=I1 (Nw):=by
 funext;unfold IM I1;try simp only[JC,IR,Option.bind_some,b9,cn,cx,cT,gm,kk,ko,tW,me,nh,n3,n5,Cp,gb,g3,lf,Jq,JA,mo,sL,kB,nl,tv]
 try rfl
theorem er:xx=KJ (Nw):=by
 funext;unfold xx KJ;try simp only[JC,IR,Option.bind_some,b9,cn,cx,cT,gm,kk,ko,tW,me,nh,n3,n5,Cp,gb,g3,lf,Jq,JA,mo,sL,kB,nl,tv,eg]
 try rfl
theorem ey:IP=JR (Nw):=by
 funext;unfold IP JR;try simp only[JC,IR,Option.bind_some,b9,cn,cx,cT,gm,kk,ko,tW,me,nh,n3,n5,Cp,gb,g3,lf,Jq,JA,mo,sL,kB,nl,tv,eg,er]
 try rfl
theorem gw:ye=KK (Nw):=by
 funext;unfold ye KK;try simp only[JC,IR,Option.bind_some,b9,cn,cx,cT,gm,kk,ko,tW,me,nh,n3,n5,Cp,gb,g3,lf,Jq,JA,mo,sL,kB,nl,tv,eg,er,ey]
 try rfl
theorem g6:IQ=I2 (Nw):=by
 funext;unfold IQ I2;try simp only[JC,IR,Option.bind_some,b9,cn,cx,cT,gm,kk,ko,tW,me,nh,n3,n5,Cp,gb,g3,lf,Jq,JA,mo,sL,kB,nl,tv,eg,er,ey,gw]
 try rfl
theorem hU:qW=J6 (Nw):=by
 funext;unfold qW J6;try simp only[JC,IR,Option.bind_some,b9,cn,cx,cT,gm,kk,ko,tW,me,nh,n3,n5,Cp,gb,g3,lf,Jq,JA,mo,sL,kB,nl,tv,eg,er,ey,gw,g6]
 try rfl
theorem ik:IL=Ir (Nw):=by
 funext;unfold IL Ir;try simp only[JC,IR,Option.bind_some,b9,cn,cx,cT,gm,kk,ko,tW,me,nh,n3,n5,Cp,gb,g3,lf,Jq,JA,mo,sL,kB,nl,tv,eg,er,ey,gw,g6,hU]
 try rfl
theorem jj:xl=KI (Nw):=by
 funext;unfold xl KI;try simp only[JC,IR,Option.bind_some,b9,cn,cx,cT,gm,kk,ko,tW,me,nh,n3,n5,Cp,gb,g3,lf,Jq,JA,mo,sL,kB,nl,tv,eg,er,ey,gw,g6,hU,ik]
 try rfl
theorem n7:kx=Jf (Nw):=by
 funext;unfold kx Jf;try simp only[JC,IR,Option.bind_some,b9,cn,cx,cT,gm,kk,ko,tW,me,nh,n3,n5,Cp,gb,g3,lf,Jq,JA,mo,sL,kB,nl,tv,eg,er,ey,gw,g6,hU,ik,jj]
 try rfl
theorem ve:I4=Lp (Nw):=by
 funext;unfold I4 Lp;try simp only[JC,IR,Option.bind_some,b9,cn,cx,cT,gm,kk,ko,tW,me,nh,n3,n5,Cp,gb,g3,lf,Jq,JA,mo,sL,kB,nl,tv,eg,er,ey,gw,g6,hU,ik,jj,n7]
 try rfl
theorem vw:Ie=Mh (Nw):=by
 funext;unfold Ie Mh;try simp only[JC,IR,Option.bind_some,b9,cn,cx,cT,gm,kk,ko,tW,me,nh,n3,n5,Cp,gb,g3,lf,Jq,JA,mo,sL,kB,nl,tv,eg,er,ey,gw,g6,hU,ik,jj,n7,ve]
 try rfl
theorem At:I5=Lq (Nw):=by
 funext;unfold I5 Lq;try simp only[JC,IR,Option.bind_some,b9,cn,cx,cT,gm,kk,ko,tW,me,nh,n3,n5,Cp,gb,g3,lf,Jq,JA,mo,sL,kB,nl,tv,eg,er,ey,gw,g6,hU,ik,jj,n7,ve,vw]
 try rfl
theorem H9:Ig=Mi (Nw):=by
 funext;unfold Ig Mi;try simp only[JC,IR,Option.bind_some,b9,cn,cx,cT,gm,kk,ko,tW,me,nh,n3,n5,Cp,gb,g3,lf,Jq,JA,mo,sL,kB,nl,tv,eg,er,ey,gw,g6,hU,ik,jj,n7,ve,vw,At]
 try rfl
theorem Il:I3=Ks (Nw):=by
 funext;unfold I3 Ks;try simp only[JC,IR,Option.bind_some,b9,cn,cx,cT,gm,kk,ko,tW,me,nh,n3,n5,Cp,gb,g3,lf,Jq,JA,mo,sL,kB,nl,tv,eg,er,ey,gw,g6,hU,ik,jj,n7,ve,vw,At,H9]
 try rfl
theorem ID:Ic=Mg (Nw):=by
 funext;unfold Ic Mg;try simp only[JC,IR,Option.bind_some,b9,cn,cx,cT,gm,kk,ko,tW,me,nh,n3,n5,Cp,gb,g3,lf,Jq,JA,mo,sL,kB,nl,tv,eg,er,ey,gw,g6,hU,ik,jj,n7,ve,vw,At,H9,Il]
 try rfl
theorem Jw:bu=BE (Nw):=by
 funext;unfold bu BE;try simp only[JC,IR,Option.bind_some,b9,cn,cx,cT,gm,kk,ko,tW,me,nh,n3,n5,Cp,gb,g3,lf,Jq,JA,mo,sL,kB,nl,tv,eg,er,ey,gw,g6,hU,ik,jj,n7,ve,vw,At,H9,Il,ID]
 try rfl
theorem J9:Jk=M1 (Nw):=by
 funext;unfold Jk M1;try simp only[JC,IR,Option.bind_some,b9,cn,cx,cT,gm,kk,ko,tW,me,nh,n3,n5,Cp,gb,g3,lf,Jq,JA,mo,sL,kB,nl,tv,eg,er,ey,gw,g6,hU,ik,jj,n7,ve,vw,At,H9,Il,ID,Jw]
 try rfl
theorem Kx:Iy=NC (Nw):=by
 funext;unfold Iy NC;try simp only[JC,IR,Option.bind_some,b9,cn,cx,cT,gm,kk,ko,tW,me,nh,n3,n5,Cp,gb,g3,lf,Jq,JA,mo,sL,kB,nl,tv,eg,er,ey,gw,g6,hU,ik,jj,n7,ve,vw,At,H9,Il,ID,Jw,J9]
 try rfl
theorem KT:Jl=M2 (Nw):=by
 funext;unfold Jl M2;try simp only[JC,IR,Option.bind_some,b9,cn,cx,cT,gm,kk,ko,tW,me,nh,n3,n5,Cp,gb,g3,lf,Jq,JA,mo,sL,kB,nl,tv,eg,er,ey,gw,g6,hU,ik,jj,n7,ve,vw,At,H9,Il,ID,Jw,J9,Kx]
 try rfl
theorem La:Iz=ND (Nw):=by
 funext;unfold Iz ND;try simp only[JC,IR,Option.bind_some,b9,cn,cx,cT,gm,kk,ko,tW,me,nh,n3,n5,Cp,gb,g3,lf,Jq,JA,mo,sL,kB,nl,tv,eg,er,ey,gw,g6,hU,ik,jj,n7,ve,vw,At,H9,Il,ID,Jw,J9,Kx,KT]
 try rfl
theorem LB:Jn=Oe (Nw):=by
 funext;unfold Jn Oe;try simp only[JC,IR,Option.bind_some,b9,cn,cx,cT,gm,kk,ko,tW,me,nh,n3,n5,Cp,gb,g3,lf,Jq,JA,mo,sL,kB,nl,tv,eg,er,ey,gw,g6,hU,ik,jj,n7,ve,vw,At,H9,Il,ID,Jw,J9,Kx,KT,La]
 try rfl
theorem L7:IB=NF (Nw):=by
 funext;unfold IB NF;try simp only[JC,IR,Option.bind_some,b9,cn,cx,cT,gm,kk,ko,tW,me,nh,n3,n5,Cp,gb,g3,lf,Jq,JA,mo,sL,kB,nl,tv,eg,er,ey,gw,g6,hU,ik,jj,n7,ve,vw,At,H9,Il,ID,Jw,J9,Kx,KT,La,LB]
 try rfl
theorem MC:Jo=Of (Nw):=by
 funext;unfold Jo Of;try simp only[JC,IR,Option.bind_some,b9,cn,cx,cT,gm,kk,ko,tW,me,nh,n3,n5,Cp,gb,g3,lf,Jq,JA,mo,sL,kB,nl,tv,eg,er,ey,gw,g6,hU,ik,jj,n7,ve,vw,At,H9,Il,ID,Jw,J9,Kx,KT,La,LB,L7]
 try rfl
theorem M3:IC=NG (Nw):=by
 funext;unfold IC NG;try simp only[JC,IR,Option.bind_some,b9,cn,cx,cT,gm,kk,ko,tW,me,nh,n3,n5,Cp,gb,g3,lf,Jq,JA,mo,sL,kB,nl,tv,eg,er,ey,gw,g6,hU,ik,jj,n7,ve,vw,At,H9,Il,ID,Jw,J9,Kx,KT,La,LB,L7,MC]
 try rfl
theorem NI:Jm=K9 (Nw):=by
 funext;unfold Jm K9;try simp only[JC,IR,Option.bind_some,b9,cn,cx,cT,gm,kk,ko,tW,me,nh,n3,n5,Cp,gb,g3,lf,Jq,JA,mo,sL,kB,nl,tv,eg,er,ey,gw,g6,hU,ik,jj,n7,ve,vw,At,H9,Il,ID,Jw,J9,Kx,KT,La,LB,L7,MC,M3]
 try rfl
theorem Oh:IA=NE (Nw):=by
 funext;unfold IA NE;try simp only[JC,IR,Option.bind_some,b9,cn,cx,cT,gm,kk,ko,tW,me,nh,n3,n5,Cp,gb,g3,lf,Jq,JA,mo,sL,kB,nl,tv,eg,er,ey,gw,g6,hU,ik,jj,n7,ve,vw,At,H9,Il,ID,Jw,J9,Kx,KT,La,LB,L7,MC,M3,NI]
 try rfl
theorem Tj:bg=vv (Nw):=by
 funext;unfold bg vv;try simp only[JC,IR,Option.bind_some,b9,cn,cx,cT,gm,kk,ko,tW,me,nh,n3,n5,Cp,gb,g3,lf,Jq,JA,mo,sL,kB,nl,tv,eg,er,ey,gw,g6,hU,ik,jj,n7,ve,vw,At,H9,Il,ID,Jw,J9,Kx,KT,La,LB,L7,MC,M3,NI,Oh]
 try rfl
theorem Us:Jz=Kt (Nw):=by
 funext;unfold Jz Kt;try simp only[JC,IR,Option.bind_some,b9,cn,cx,cT,gm,kk,ko,tW,me,nh,n3,n5,Cp,gb,g3,lf,Jq,JA,mo,sL,kB,nl,tv,eg,er,ey,gw,g6,hU,ik,jj,n7,ve,vw,At,H9,Il,ID,Jw,J9,Kx,KT,La,LB,L7,MC,M3,NI,Oh,Tj]
 try rfl
theorem Wg:IJ=Oz (Nw):=by
 funext;unfold IJ Oz;try simp only[JC,IR,Option.bind_some,b9,cn,cx,cT,gm,kk,ko,tW,me,nh,n3,n5,Cp,gb,g3,lf,Jq,JA,mo,sL,kB,nl,tv,eg,er,ey,gw,g6,hU,ik,jj,n7,ve,vw,At,H9,Il,ID,Jw,J9,Kx,KT,La,LB,L7,MC,M3,NI,Oh,Tj,Us]
 try rfl
theorem W5:IV=Py (Nw):=by
 funext;unfold IV Py;try simp only[JC,IR,Option.bind_some,b9,cn,cx,cT,gm,kk,ko,tW,me,nh,n3,n5,Cp,gb,g3,lf,Jq,JA,mo,sL,kB,nl,tv,eg,er,ey,gw,g6,hU,ik,jj,n7,ve,vw,At,H9,Il,ID,Jw,J9,Kx,KT,La,LB,L7,MC,M3,NI,Oh,Tj,Us,Wg]
 try rfl
theorem W4:∀n,tt n=NR (Nw) n
 |0=>rfl
 |n+1=>by unfold tt NR;rw[W4 n,W5]
theorem aaj:IX=Uk (Nw):=by
 funext;unfold IX Uk;try simp only[JC,IR,Option.bind_some,b9,cn,cx,cT,gm,kk,ko,tW,me,nh,n3,n5,Cp,gb,g3,lf,Jq,JA,mo,sL,kB,nl,tv,eg,er,ey,gw,g6,hU,ik,jj,n7,ve,vw,At,H9,Il,ID,Jw,J9,Kx,KT,La,LB,L7,MC,M3,NI,Oh,Tj,Us,Wg,W5,W4]
 try rfl
end Go.Fn
set_option linter.unusedSimpArgs false
set_option linter.unusedVariables false
namespace Go.Fn
open Go.R Go.Sort
theorem M8{x y:Ev}:Nw x y=true↔x.1<y.1\/(x.1=y.1/\x.2.1<y.2.1):=by unfold Nw;simp
theorem Xt{x y:Ev}:Nw x y=false↔y.1<x.1\/(x.1=y.1/\y.2.1<=x.2.1):=by rw[<-Bool.not_eq_true,M8];omega
theorem Yd(x:Ev):Nw x x=false:=by rw[Xt];omega
theorem V8{x y z:Ev}(h1:Nw x y=true)(h2:Nw y z=true):Nw x z=true:=by rw[M8]at *;omega
theorem ac8{x y:Ev}(h1:Nw x y=true):Nw y x=false:=by rw[M8]at h1;rw[Xt];omega
theorem abV:SWO Nw:=⟨Yd,fun _ _ _ h1 h2=>V8 h1 h2,fun x y z h1 h2=>by rw[Xt]at *;omega⟩
abbrev Yw(l:List Ev):Prop:=l.Pairwise fun x y=>Nw x y=true
theorem Z0:∀(l:List Ev),(∀n,n+1<l.length->Nw (l.getD n bf) (l.getD (n+1) bf)=true)->Yw l
 | [],_=>List.Pairwise.nil
 | [x],_=>List.pairwise_singleton _ _
 |x::y::l,h=>by
  have ih:=Z0 (y::l) (fun n hn=>h (n+1) (by simpa using hn));have hxy:Nw x y=true:=h 0 (by simp);refine List.Pairwise.cons (fun z hz=>?_) ih;rcases List.mem_cons.1 hz with rfl|hz
  ·exact hxy
  ·exact V8 hxy ((List.pairwise_cons.1 ih).1 z hz)
theorem Wj{l:List Ev}(h:QH l=true):Yw l:=by refine Z0 l fun n hn=>?_;have:=Zt h hn;simp only[RT,Bool.and_eq_true,XT,Bool.not_eq_true',Bool.or_eq_false_iff,Bool.and_eq_false_iff,decide_eq_false_iff_not]at this;rw[M8];omega
theorem Z1:∀ {l m:List Ev},Yw l->Yw m->(∀x,x∈l↔x∈m)->l=m
 | [],[],_,_,_=>rfl
 | [],y::m,_,_,h=>absurd ((h y).2 (List.mem_cons_self ..)) (List.not_mem_nil)
 |x::l,[],_,_,h=>absurd ((h x).1 (List.mem_cons_self ..)) (List.not_mem_nil)
 |x::l,y::m,hl,hm,h=>by
  have hl':=List.pairwise_cons.1 hl;have hm':=List.pairwise_cons.1 hm;have hxy:x=y:=by
   rcases List.mem_cons.1 ((h x).1 (List.mem_cons_self ..))with e|h1
   ·exact e
   ·rcases List.mem_cons.1 ((h y).2 (List.mem_cons_self ..))with e|h2
    ·exact e.symm
    ·have a1:=hm'.1 x h1;have a2:=hl'.1 y h2;rw[ac8 a1]at a2;cases a2
  subst hxy;congr 1;refine Z1 hl'.2 hm'.2 fun z=>⟨fun hz=>?_,fun hz=>?_⟩
  ·rcases List.mem_cons.1 ((h z).1 (List.mem_cons_of_mem _ hz))with e|h1
   ·subst e;have:=hl'.1 z hz;rw[Yd]at this;cases this
   ·exact h1
  ·rcases List.mem_cons.1 ((h z).2 (List.mem_cons_of_mem _ hz))with e|h1
   ·subst e;have:=hm'.1 z hz;rw[Yd]at this;cases this
   ·exact h1
noncomputable def aaa(o:Option (List Ev))(x:Ev):Option (List Ev):=o.map (x:: ·)
noncomputable def merge:List Ev->List Ev->Option (List Ev)
 | [],b=>some b
 |x::a,[]=>some (x::a)
 |x::a,y::b=>bif Nw x y then aaa (merge a (y::b)) x else bif Nw y x then aaa (merge (x::a) b) y else bif decide (x=y)then aaa (merge a b) x else none
termination_by a b=>a.length+b.length
theorem aap:∀(n:Nat) (a b:List Ev),a.length+b.length=n->Yw a->Yw b ->
  match merge a b with
  |some m=>Yw m/\(∀z,z∈m↔z∈a\/z∈b)/\m.length<=a.length+b.length/\(∀x,x∈a->∀y,y∈b->x.1=y.1->x.2.1=y.2.1->x=y)
  |none=>∃x,x∈a/\∃y,y∈b/\x.1=y.1/\x.2.1=y.2.1/\x≠y:=by
 intro n;induction n using Nat.strongRecOn with
 |ind n ih0=>
 intro a b hn;rcases a with _|⟨x,a⟩
 ·rw[merge];intro _ hb;exact⟨hb,fun z=>by simp,by simp,fun x hx=>absurd hx List.not_mem_nil⟩
 rcases b with _|⟨y,b⟩
 ·rw[merge];intro ha _;exact⟨ha,fun z=>by simp,by simp,fun x _ y hy=>absurd hy List.not_mem_nil⟩
 ·have ih1:=ih0 _ (by simp only[List.length_cons]at hn⊢;omega) a (y::b) rfl;have ih2:=ih0 _ (by simp only[List.length_cons]at hn⊢;omega) (x::a) b rfl;have ih3:=ih0 _ (by simp only[List.length_cons]at hn⊢;omega) a b rfl;rw[merge];intro ha hb;have Wd:=List.pairwise_cons.1 ha;have hb':=List.pairwise_cons.1 hb;cases h1:Nw x y with
  |true=>
   have ih:=ih1 Wd.2 hb;simp only[cond_true];cases hm:merge a (y::b)with
   |none=>rw[hm]at ih;obtain⟨u,hu,v,hv,h⟩:=ih;exact⟨u,List.mem_cons_of_mem _ hu,v,hv,h⟩
   |some m=>
    rw[hm]at ih;obtain⟨i1,i2,i3,i4⟩:=ih;refine⟨List.Pairwise.cons (fun z hz=>?_) i1,fun z=>?_,?_,fun u hu v hv=>?_⟩
    ·rcases(i2 z).1 hz with h|h
     ·exact Wd.1 z h
     ·rcases List.mem_cons.1 h with rfl|h
      ·exact h1
      ·exact V8 h1 (hb'.1 z h)
    ·simp only[List.mem_cons,i2 z,or_assoc]
    ·simp only[List.length_cons]at i3⊢;omega
    ·rcases List.mem_cons.1 hu with rfl|hu
     ·intro k1 k2;have:Nw u v=true:=by
       rcases List.mem_cons.1 hv with rfl|hv
       ·exact h1
       ·exact V8 h1 (hb'.1 v hv)
      rw[M8]at this;omega
     ·exact i4 u hu v hv
  |false=>
   cases h2:Nw y x with
   |true=>
    have ih:=ih2 ha hb'.2;simp only[cond_true,cond_false];cases hm:merge (x::a) b with
    |none=>rw[hm]at ih;obtain⟨u,hu,v,hv,h⟩:=ih;exact⟨u,hu,v,List.mem_cons_of_mem _ hv,h⟩
    |some m=>
     rw[hm]at ih;obtain⟨i1,i2,i3,i4⟩:=ih;refine⟨List.Pairwise.cons (fun z hz=>?_) i1,fun z=>?_,?_,fun u hu v hv=>?_⟩
     ·rcases(i2 z).1 hz with h|h
      ·rcases List.mem_cons.1 h with rfl|h
       ·exact h2
       ·exact V8 h2 (Wd.1 z h)
      ·exact hb'.1 z h
     ·rw[List.mem_cons,i2 z,List.mem_cons,List.mem_cons];constructor
      ·rintro(h|h|h)
       ·exact .inr (.inl h)
       ·exact .inl h
       ·exact .inr (.inr h)
      ·rintro(h|h|h)
       ·exact .inr (.inl h)
       ·exact .inl h
       ·exact .inr (.inr h)
     ·simp only[List.length_cons]at i3⊢;omega
     ·rcases List.mem_cons.1 hv with rfl|hv
      ·intro k1 k2;have:Nw v u=true:=by
        rcases List.mem_cons.1 hu with rfl|hu
        ·exact h2
        ·exact V8 h2 (Wd.1 u hu)
       rw[M8]at this;omega
      ·exact i4 u hu v hv
   |false=>
    have hk:x.1=y.1/\x.2.1=y.2.1:=by rw[Xt]at h1 h2;omega
    by_cases he:x=y
    ·subst he;have ih:=ih3 Wd.2 hb'.2;simp only[cond_true,cond_false,decide_true];cases hm:merge a b with
     |none=>rw[hm]at ih;obtain⟨u,hu,v,hv,h⟩:=ih;exact⟨u,List.mem_cons_of_mem _ hu,v,List.mem_cons_of_mem _ hv,h⟩
     |some m=>
      rw[hm]at ih;obtain⟨i1,i2,i3,i4⟩:=ih;refine⟨List.Pairwise.cons (fun z hz=>?_) i1,fun z=>?_,?_,fun u hu v hv k1 k2=>?_⟩
      ·rcases(i2 z).1 hz with h|h
       ·exact Wd.1 z h
       ·exact hb'.1 z h
      ·rw[List.mem_cons,i2 z,List.mem_cons,List.mem_cons];constructor
       ·rintro(h|h|h)
        ·exact .inl (.inl h)
        ·exact .inl (.inr h)
        ·exact .inr (.inr h)
       ·rintro((h|h)|(h|h))
        ·exact .inl h
        ·exact .inr (.inl h)
        ·exact .inl h
        ·exact .inr (.inr h)
      ·simp only[List.length_cons]at i3⊢;omega
      ·rcases List.mem_cons.1 hu with z7|z7 <;> rcases List.mem_cons.1 hv with wV|wV
       ·rw[z7,wV]
       ·have:=hb'.1 v wV;rw[M8,<-z7]at this;omega
       ·have:=Wd.1 u z7;rw[M8,<-wV]at this;omega
       ·exact i4 u z7 v wV k1 k2
    ·simp only[cond_false,decide_eq_false he];exact⟨x,List.mem_cons_self ..,y,List.mem_cons_self ..,hk.1,hk.2,he⟩
theorem iP{a b:List Ev}(ha:Yw a)(hb:Yw b):
  match merge a b with
  |some m=>Yw m/\(∀z,z∈m↔z∈a\/z∈b)/\m.length<=a.length+b.length/\(∀x,x∈a->∀y,y∈b->x.1=y.1->x.2.1=y.2.1->x=y)
  |none=>∃x,x∈a/\∃y,y∈b/\x.1=y.1/\x.2.1=y.2.1/\x≠y:=aap _ a b rfl ha hb
noncomputable def OZ(a b:List Ev):List Ev×Bool:=bif QH a then bif QH b then(match merge a b with|none=>([],false)|some m=>bif QH m then(m,true)else([],false))else([],false)else([],false)
theorem Zx(a b:List Ev):(OZ a b).1.length<=60:=by
 unfold OZ;cases QH a with
 |false=>exact Nat.zero_le _
 |true=>
  cases QH b with
  |false=>exact Nat.zero_le _
  |true=>
   simp only[cond_true];cases merge a b with
   |none=>exact Nat.zero_le _
   |some m=>
    simp only[];cases h:QH m with
    |false=>exact Nat.zero_le _
    |true=>exact NT h
theorem Vr(x y:Ev):Ox x.1 x.2.1 x.2.2.1 x.2.2.2.1 x.2.2.2.2.1 x.2.2.2.2.2.1 x.2.2.2.2.2.2 y.1 y.2.1 y.2.2.1 y.2.2.2.1 y.2.2.2.2.1 y.2.2.2.2.2.1 y.2.2.2.2.2.2=some (Nw x y,()):=by
 unfold Ox Nw;simp only[af];by_cases h:x.1=y.1
 ·rw[h];cases decide (y.1<y.1) <;> simp
 ·rw[decide_eq_false h,show(x.1==y.1)=false from by simpa using h];cases decide (x.1<y.1) <;> rfl
theorem acP(x y:Ev):(Bool.and (af .eql x.1 y.1) (Bool.and (af .eql x.2.1 y.2.1) (Bool.and (af .eql x.2.2.1 y.2.2.1) (Bool.and (af .eql x.2.2.2.1 y.2.2.2.1) (Bool.and (af .eql x.2.2.2.2.1 y.2.2.2.2.1) (Bool.and (af .eql x.2.2.2.2.2.1 y.2.2.2.2.2.1) (Bool.and (af .eql x.2.2.2.2.2.2 y.2.2.2.2.2.2) true)))))))=decide (x=y):=by obtain⟨x1,x2,x3,x4,x5,x6,x7⟩:=x;obtain⟨y1,y2,y3,y4,y5,y6,y7⟩:=y;rw[Bool.eq_iff_iff];simp[af,Prod.mk.injEq]
theorem Z7(l:List Ev)(x:Ev):List.append (α:=Ev) l (List.append (α:=Ev) ([]:List Ev) [x])=l++[x]:=rfl
theorem ZF(a b:List Ev)(ha:a.length<=60)(hb:b.length<=60):∀(s i k:Nat) (out:List Ev) (n:Nat),(a.length-i)+(b.length-k)=s->i<=a.length->k<=b.length->out.length<=i+k->s<n ->
  iter (J1 (a,b,())) n (out,(i:Int),(k:Int),())=some (match merge (a.drop i) (b.drop k)with|none=>.inl ([],false,())|some m=>.inr (.inl (out++m,()))):=by
 intro s;induction s using Nat.strongRecOn with
 |ind s ih=>
  intro i k out n hs hi hk ho hn;obtain⟨n,rfl⟩:∃m,n=m+1:=⟨n-1,by omega⟩
  have lS:∀x:Ev,aE (out++[x])=true:=fun x=>Pc (by simp;omega);have ll:af .lss (i:Int) (ai a)=decide (i<a.length):=aj i a;have lk:af .lss (k:Int) (ai b)=decide (k<b.length):=aj k b;have el:af .eql (i:Int) (ai a)=decide (i=a.length):=eqS i a.length;have ek:af .eql (k:Int) (ai b)=decide (k=b.length):=eqS k b.length;by_cases h1:i<a.length
  ·have hx:=dA h1 bf;by_cases h2:k<b.length
   ·have hy:=dA h2 bf;rw[hx,hy,merge];generalize hgx:a.getD i bf=x at hx⊢;generalize DX:b.getD k bf=y at hy⊢;cases c1:Nw x y with
    |true=>
     rw[aH (y:=(out++[x],((i+1:Nat):Int),(k:Int),())) (by unfold J1;simp only[ll,lk,el,ek,h1,h2,show ¬(k=b.length)by omega,show ¬(i=a.length)by omega,decide_true,decide_false,cond_true,cond_false,az,aq,hgx,DX,Vr,c1,Option.bind_some,Z7,lS,av (n:=i) (by omega)])];rw[ih (s-1) (by omega) (i+1) k (out++[x]) n (by omega) (by omega) hk (by simp;omega) (by omega),<-hy];cases merge (List.drop (i+1) a) (List.drop k b)with
     |none=>rfl
     |some m=>simp[aaa]
    |false=>
     cases c2:Nw y x with
     |true=>
      rw[aH (y:=(out++[y],(i:Int),((k+1:Nat):Int),())) (by unfold J1;simp only[ll,lk,el,ek,h1,h2,show ¬(k=b.length)by omega,show ¬(i=a.length)by omega,decide_true,decide_false,cond_true,cond_false,az,aq,hgx,DX,Vr,c1,c2,Option.bind_some,Z7,lS,av (n:=k) (by omega)])];rw[ih (s-1) (by omega) i (k+1) (out++[y]) n (by omega) hi (by omega) (by simp;omega) (by omega),<-hx];cases merge (List.drop i a) (List.drop (k+1) b)with
      |none=>rfl
      |some m=>simp[aaa]
     |false=>
      by_cases c3:x=y
      ·subst c3;rw[aH (y:=(out++[x],((i+1:Nat):Int),((k+1:Nat):Int),())) (by unfold J1;simp only[ll,lk,el,ek,h1,h2,show ¬(k=b.length)by omega,show ¬(i=a.length)by omega,decide_true,decide_false,cond_true,cond_false,az,aq,hgx,DX,Vr,c1,c2,Option.bind_some,Z7,lS,acP,decide_true,Bool.not_true,aV,av (n:=i) (by omega),av (n:=k) (by omega)])];rw[ih (s-2) (by omega) (i+1) (k+1) (out++[x]) n (by omega) (by omega) (by omega) (by simp;omega) (by omega)];simp only[decide_true,cond_true,cond_false];cases merge (List.drop (i+1) a) (List.drop (k+1) b)with
       |none=>rfl
       |some m=>simp[aaa]
      ·rw[ay (b:=.inl ([],false,())) (by
        unfold J1;simp only[ll,lk,el,ek,h1,h2,show ¬(k=b.length)by omega,show ¬(i=a.length)by omega,decide_true,decide_false,cond_true,cond_false,az,aq,hgx,DX,Vr,c1,c2,Option.bind_some,acP,c3,Bool.not_false,aV])]
       simp only[c3,decide_false,cond_false]
   ·have Bu:k=b.length:=by omega
    have hdb:b.drop k=[]:=by rw[Bu,List.drop_length]
    rw[aH (y:=(out++[a.getD i bf],((i+1:Nat):Int),(k:Int),())) (by unfold J1;simp only[ll,lk,el,ek,h1,decide_eq_true Bu,decide_true,cond_true,az,aq,Z7,lS,av (n:=i) (by omega)])];rw[ih (s-1) (by omega) (i+1) k _ n (by omega) (by omega) hk (by simp;omega) (by omega),hx,hdb,merge];cases hd:List.drop (i+1) a with
    |nil=>simp[merge]
    |cons u v=>simp[merge]
  ·have hia:i=a.length:=by omega
   have hda:a.drop i=[]:=by rw[hia,List.drop_length]
   by_cases h2:k<b.length
   ·have hy:=dA h2 bf;rw[aH (y:=(out++[b.getD k bf],(i:Int),((k+1:Nat):Int),())) (by unfold J1;simp only[ll,lk,el,ek,h1,h2,decide_eq_true hia,show ¬(k=b.length)by omega,decide_true,decide_false,cond_true,cond_false,az,aq,Z7,lS,av (n:=k) (by omega)])];rw[ih (s-1) (by omega) i (k+1) _ n (by omega) hi (by omega) (by simp;omega) (by omega),hda,merge,merge,hy];simp
   ·have Bu:k=b.length:=by omega
    have hdb:b.drop k=[]:=by rw[Bu,List.drop_length]
    rw[ay (b:=.inr (.inl (out,()))) (by unfold J1;simp only[ll,lk,el,ek,h1,h2,decide_false,cond_false])];rw[hda,hdb,merge];simp
theorem Yn(a b:List Ev):NU a b=some ((OZ a b).1,(OZ a b).2,()):=by
 unfold NU OZ;simp only[Rp,Option.bind_some];cases ha:QH a with
 |false=>rfl
 |true=>
  cases hb:QH b with
  |false=>rfl
  |true=>
   have hl:=ZF a b (NT ha) (NT hb) (a.length+b.length) 0 0 [] big (by omega) (by omega) (by omega) (by simp) (aT (by have:=NT ha;have:=NT hb;omega));simp only[Bool.not_true,cond_false,cond_true];unfold N4;rw[show(0:Int)=((0:Nat):Int)from rfl,hl,List.drop_zero,List.drop_zero];cases merge a b with
   |none=>rfl
   |some m=>simp only[Option.bind_some,Sum.elim_inr,Sum.elim_inl,List.nil_append,Rp];cases QH m <;> rfl
end Go.Fn
set_option linter.unusedSimpArgs false
set_option linter.unusedVariables false
namespace Go.Fn
open Go.R Go.Sort
theorem iE{R:Type}(x:Option R):both x x=x:=by unfold both;simp
theorem XQ(l:List Ev)(hl:l.length<=1073741824):JP l=some (l,()):=by
 unfold JP;have h1:aE (List.append (α:=Ev) ([]:List Ev) l)=true:=Pc hl;rw[h1];cases l with
 |nil=>exact iE _
 |cons x l=>rw[show af .gtr (ai (x::l)) (0:Int)=true from gt0 l.length];rfl
noncomputable def OW(x e:Ev):Bool:=decide (x.1=e.1)&&decide (x.2.1=e.2.1)
theorem OG{x e:Ev}:OW x e=true↔x.1=e.1/\x.2.1=e.2.1:=by unfold OW;simp
theorem abP(x e:Ev):Nn x.1 x.2.1 x.2.2.1 x.2.2.2.1 x.2.2.2.2.1 x.2.2.2.2.2.1 x.2.2.2.2.2.2 e.1 e.2.1 e.2.2.1 e.2.2.2.1 e.2.2.2.2.1 e.2.2.2.2.2.1 e.2.2.2.2.2.2=some (OW x e,()):=by
 unfold Nn OW;simp only[af];by_cases h:x.1=e.1
 ·rw[h];simp[Bool.beq_eq_decide_eq]
 ·rw[decide_eq_false h,show(x.1==e.1)=false from by simpa using h];rfl
theorem index_eq(a:List Ev)(e:Ev)(hl:a.length<=1073741824):∃r:Int,Io a e.1 e.2.1 e.2.2.1 e.2.2.2.1 e.2.2.2.2.1 e.2.2.2.2.2.1 e.2.2.2.2.2.2=some (r,()) /\
  ((r = -1/\∀x,x∈a->OW x e=false)\/∃n:Nat,n<a.length/\r=(n:Int)/\OW (a.getD n bf) e=true):=by
 obtain⟨y,hy,hc⟩:=fP (body:=Ib (a,e.1,e.2.1,e.2.2.1,e.2.2.2.1,e.2.2.2.2.1,e.2.2.2.2.2.1,e.2.2.2.2.2.2,ai a,())) (fun n=>((n:Int),())) a.length (by omega) (fun n=>!OW (a.getD n bf) e) (Sum.inr (Sum.inl ())) (fun n=>Sum.inl ((n:Int),())) (fun n hn=>by
   unfold Ib;simp only[aj,hn,decide_true,cond_true,az,aq,abP,Option.bind_some,av (n:=n) (by omega)];cases OW (a.getD n bf) e <;> rfl) (by
   unfold Ib;simp only[aj,Nat.lt_irrefl,decide_false,cond_false])
 unfold Io I0;rw[show(0:Int)=((0:Nat):Int)from rfl,hy];rcases hc with ⟨hall,rfl⟩|⟨_,n,hn,rfl,hk⟩
 ·refine⟨-1,rfl,.inl ⟨rfl,fun x hx=>?_⟩⟩;obtain⟨m,hm,rfl⟩:=List.getElem_of_mem hx;have:=(aQ _ _).1 hall m (Nat.zero_le _) (by omega);simp only[Bool.not_eq_true']at this;rw[List.getD_eq_getElem?_getD,List.getElem?_eq_getElem hm]at this;exact this
 ·exact⟨(n:Int),rfl,.inr ⟨n,hn,rfl,by simpa using hk⟩⟩
theorem Z2{l:List Ev}(h:Yw l):∀x,x∈l->∀y,y∈l->OW x y=true->x=y:=by
 induction l with
 |nil=>intro x hx;exact absurd hx List.not_mem_nil
 |cons u l ih=>
  have h':=List.pairwise_cons.1 h;intro x hx y hy hk;rw[OG]at hk;rcases List.mem_cons.1 hx with e1|pK <;> rcases List.mem_cons.1 hy with e2|hy1
  ·rw[e1,e2]
  ·have:=h'.1 y hy1;rw[M8,<-e1]at this;omega
  ·have:=h'.1 x pK;rw[M8,<-e2]at this;omega
  ·exact ih h'.2 x pK y hy1 (OG.2 hk)
abbrev acD:=List Ev×Bool×Unit⊕(List Ev×Unit⊕Empty)
open Classical in
noncomputable def UZ(a:List Ev)(out:List Ev)(e:Ev):List Ev⊕acD:=if a.any (fun x=>OW x e)=true then(if e∈a then .inl out else .inr (.inl ([],false,())))else .inl (out++[e])
theorem ac9(a:List Ev):∀(l out:List Ev),(∃e,e∈l/\a.any (fun x=>OW x e)=true/\e∉a/\gf (UZ a) (fun out=>(.inr (.inl (out,())):acD)) l out=.inl ([],false,()))\/((∀e,e∈l->a.any (fun x=>OW x e)=true->e∈a)/\gf (UZ a) (fun out=>(.inr (.inl (out,())):acD)) l out=.inr (.inl (out++l.filter (fun e=>!a.any (fun x=>OW x e)),())))
 | [],out=>.inr ⟨fun e he=>absurd he List.not_mem_nil,by simp[gf]⟩
 |y::l,out=>by
  by_cases h1:a.any (fun x=>OW x y)=true
  ·by_cases h2:y∈a
   ·have hs:UZ a out y=.inl out:=by unfold UZ;rw[if_pos h1,if_pos h2]
    rcases ac9 a l out with ⟨e,he,k1,k2,k3⟩|⟨k1,k2⟩
    ·exact .inl ⟨e,List.mem_cons_of_mem _ he,k1,k2,by simp only[gf,hs,k3]⟩
    ·refine .inr ⟨fun e he hk=>?_,by simp only[gf,hs,k2,List.filter_cons,h1,Bool.not_true];rfl⟩;rcases List.mem_cons.1 he with rfl|he
     ·exact h2
     ·exact k1 e he hk
   ·exact .inl ⟨y,List.mem_cons_self ..,h1,h2,by unfold gf UZ;rw[if_pos h1,if_neg h2]⟩
  ·have hs:UZ a out y=.inl (out++[y]):=by unfold UZ;rw[if_neg h1]
   rw[Bool.not_eq_true]at h1;rcases ac9 a l (out++[y])with ⟨e,he,k1,k2,k3⟩|⟨k1,k2⟩
   ·exact .inl ⟨e,List.mem_cons_of_mem _ he,k1,k2,by simp only[gf,hs,k3]⟩
   ·refine .inr ⟨fun e he hk=>?_,by simp only[gf,hs,k2,List.filter_cons,h1,Bool.not_false,if_true,List.append_assoc,List.singleton_append]⟩;rcases List.mem_cons.1 he with rfl|he
    ·rw[h1]at hk;cases hk
    ·exact k1 e he hk
theorem Zr(a b:List Ev)(ha:a.length<=60)(hb:b.length<=60)(hs:Yw a):N3 (a,b,ai b,()) (a,(0:Int),())=some (gf (UZ a) (fun out=>.inr (.inl (out,()))) b a):=by
 refine gQ (body:=M7 (a,b,ai b,())) b bf (by omega) (fun out n=>(out,(n:Int),())) (UZ a) (fun out=>.inr (.inl (out,()))) (fun n out=>out.length<=a.length+n) (fun n out hn ho=>⟨?_,fun o he=>?_⟩) (fun out ho=>?_) a (by omega)
 ·unfold M7;simp only[aj,hn,decide_true,cond_true,az,aq];generalize b.getD n bf=e;obtain⟨r,hr,⟨rfl,hno⟩|⟨m,hm,rfl,hk⟩⟩:=index_eq a e (by omega)
  ·have zE:¬(a.any (fun x=>OW x e)=true):=by
    rw[List.any_eq_true];rintro⟨x,hx,hk⟩;rw[hno x hx]at hk;cases hk
   have lS:aE (out++[e])=true:=Pc (by simp;omega);unfold UZ;rw[if_neg zE];simp only[hr,Option.bind_some,ada,cond_true,Z7,lS,av (n:=n) (by omega)]
  ·have zE:a.any (fun x=>OW x e)=true:=List.any_eq_true.2 ⟨_,NH hm bf,hk⟩;unfold UZ;rw[if_pos zE];have hneg:af .lss (m:Int) (0:Int)=false:=Pq (by omega);simp only[hr,Option.bind_some,hneg,cond_false,az,hm,decide_true,cond_true,aq,acP,aV,av (n:=n) (by omega)];by_cases he:a.getD m bf=e
   ·rw[if_pos (he▸NH hm bf),decide_eq_true he];rfl
   ·have hne:e∉a:=fun h=>he (Z2 hs _ (NH hm bf) e h hk);rw[if_neg hne,decide_eq_false he];rfl
 ·unfold UZ at he;split at he
  ·split at he
   ·injection he with he;rw[<-he];omega
   ·cases he
  ·injection he with he
   rw[<-he];simp;omega
 ·unfold M7;simp only[aj,Nat.lt_irrefl,decide_false,cond_false]
theorem abR:(List.range 256).all (fun n=>(N2 (n:Int)).isSome)=true:=by decide +kernel
theorem abc{n:Nat}(h:n<=255):∃L,N2 (n:Int)=some (L,()):=by have h1:=List.all_eq_true.1 abR n (List.mem_range.2 (by omega));obtain⟨⟨L,u⟩,hL⟩:=Option.isSome_iff_exists.1 h1;exact⟨L,hL⟩
theorem abo(l:List Ev)(hl:l.length<=255):∃r:List Ev,Iq l=some (r,())/\r.Perm l/\∀i j,i<j->j<r.length->Nw (r.getD j default) (r.getD i default)=false:=by obtain⟨L,hL⟩:=abc hl;obtain⟨r,h1,h2,h3⟩:=ZX abV l L hl;refine⟨r,?_,h2,h3⟩;unfold Iq;rw[aaj,show ak .u64 (ai l)=(l.length:Int)from ZP (by omega),hL,show ai l=(l.length:Int)from rfl];simp only[Option.bind_some,h1]
theorem Yb(a b:List Ev):NS a b=some ((OZ a b).1,(OZ a b).2,()):=by
 unfold NS OZ;simp only[Rl,Option.bind_some];cases ha:QH a with
 |false=>rfl
 |true=>
  cases hb:QH b with
  |false=>rfl
  |true=>
   have la:=NT ha;have lb:=NT hb;have sa:=Wj ha;have sb:=Wj hb;simp only[Bool.not_true,cond_false,cond_true,XQ a (by omega),Option.bind_some,Zr a b la lb sa];have hm:=iP sa sb;rcases ac9 a b a with ⟨e,he,k1,k2,k3⟩|⟨k1,k2⟩
   ·rw[k3];cases hmm:merge a b with
    |none=>rfl
    |some m=>rw[hmm]at hm;obtain⟨x,hx,hk⟩:=List.any_eq_true.1 k1;rw[OG]at hk;exact absurd (hm.2.2.2 x hx e he hk.1 hk.2▸hx) k2
   ·rw[k2];have hfl:(b.filter (fun e=>!a.any (fun x=>OW x e))).length<=b.length:=List.length_filter_le _ _;obtain⟨r,hr,hp,hsr⟩:=abo (a++b.filter (fun e=>!a.any (fun x=>OW x e))) (by rw[List.length_append];omega);simp only[Option.bind_some,Sum.elim_inr,Sum.elim_inl,hr];have hkeys:(a++b.filter (fun e=>!a.any (fun x=>OW x e))).Pairwise (fun x y=>OW x y=false):=by
     rw[List.pairwise_append];refine⟨sa.imp fun {x y} h=>?_,(sb.filter _).imp fun {x y} h=>?_,fun x hx y hy=>?_⟩
     ·rw[<-Bool.not_eq_true,OG];rw[M8]at h;omega
     ·rw[<-Bool.not_eq_true,OG];rw[M8]at h;omega
     ·have h1:=(List.mem_filter.1 hy).2;rw[Bool.not_eq_true',<-Bool.not_eq_true,List.any_eq_true]at h1;rw[<-Bool.not_eq_true];exact fun hk=>h1 ⟨x,hx,hk⟩
    have hkr:r.Pairwise (fun x y=>OW x y=false):=(hp.pairwise_iff (fun {x y} h=>by rw[<-Bool.not_eq_true,OG]at *;omega)).2 hkeys;have srr:Yw r:=by unfold Yw;rw[List.pairwise_iff_getElem]at hkr⊢;intro i j hi hj hij;have h1:=hkr i j hi hj hij;have h2:=hsr i j hij hj;rw[List.getD_eq_getElem?_getD,List.getD_eq_getElem?_getD,List.getElem?_eq_getElem hj,List.getElem?_eq_getElem hi]at h2;simp only[Option.getD_some]at h2;rw[<-Bool.not_eq_true,OG]at h1;rw[Xt]at h2;rw[M8];omega
    cases hmm:merge a b with
    |none=>rw[hmm]at hm;obtain⟨x,hx,y,hy,e1,e2,hne⟩:=hm;have:y∈a:=k1 y hy (List.any_eq_true.2 ⟨x,hx,OG.2 ⟨e1,e2⟩⟩);exact absurd (Z2 sa x hx y this (OG.2 ⟨e1,e2⟩)) hne
    |some m=>
     rw[hmm]at hm;have:r=m:=Z1 srr hm.1 fun z=>by
      rw[hp.mem_iff,List.mem_append,List.mem_filter,hm.2.1 z];constructor
      ·rintro(h|h)
       ·exact .inl h
       ·exact .inr h.1
      ·rintro(h|h)
       ·exact .inl h
       ·by_cases hz:a.any (fun x=>OW x z)=true
        ·exact .inl (k1 z h hz)
        ·exact .inr ⟨h,by simpa using hz⟩
     rw[this];simp only[Rl,Option.bind_some];cases QH m <;> rfl
end Go.Fn
set_option linter.unusedSimpArgs false
set_option linter.unusedVariables false
namespace Go.Fn
open Go.R Go.Sort
noncomputable def Zy(x y:Ev):Prop:=Nw x y=true/\(x.1=y.1->x.2.2.1<y.2.2.1)
theorem ab1{x y z:Ev}(h1:Zy x y)(h2:Zy y z):Zy x z:=by obtain⟨a1,a2⟩:=h1;obtain⟨b1,b2⟩:=h2;refine⟨V8 a1 b1,fun h=>?_⟩;rw[M8]at a1 b1;have:=a2 (by omega);have:=b2 (by omega);omega
theorem XU{x y:Ev}:XT x y=true↔Zy x y:=by unfold Zy;simp only[XT,Bool.not_eq_true',Bool.or_eq_false_iff,Bool.and_eq_false_iff,decide_eq_false_iff_not,M8];omega
theorem Y0{R:Ev->Ev->Prop}(tr:∀x y z,R x y->R y z->R x z):∀(l:List Ev),(∀n,n+1<l.length->R (l.getD n bf) (l.getD (n+1) bf))->l.Pairwise R
 | [],_=>List.Pairwise.nil
 | [x],_=>List.pairwise_singleton _ _
 |x::y::l,h=>by
  have ih:=Y0 tr (y::l) (fun n hn=>h (n+1) (by simpa using hn));have hxy:R x y:=h 0 (by simp);refine List.Pairwise.cons (fun z hz=>?_) ih;rcases List.mem_cons.1 hz with rfl|hz
  ·exact hxy
  ·exact tr _ _ _ hxy ((List.pairwise_cons.1 ih).1 z hz)
theorem getD_eq{α:Type}{l:List α}{n:Nat}(h:n<l.length)(z:α):l.getD n z=l[n]:=by rw[List.getD_eq_getElem?_getD,List.getElem?_eq_getElem h];rfl
theorem ZV{l:List Ev}:QH l=true↔l.length<=60/\(∀x,x∈l->U8 x=true)/\l.Pairwise Zy:=by
 constructor
 ·intro h;refine⟨NT h,fun x hx=>?_,Y0 (R:=Zy) (fun _ _ _ h1 h2=>ab1 h1 h2) l fun n hn=>?_⟩
  ·obtain⟨n,hn,rfl⟩:=List.getElem_of_mem hx;have:=abb h hn;rwa[getD_eq hn]at this
  ·have:=Zt h hn;simp only[RT,Bool.and_eq_true]at this;exact XU.1 this.2
 ·intro ⟨h1,h2,h3⟩;unfold QH;rw[decide_eq_false (by omega)];refine(aQ _ _).2 fun m _ hm=>?_;rw[Nat.zero_add]at hm;cases m with
  |zero=>exact h2 _ (NH hm _)
  |succ m=>simp only[RT,Bool.and_eq_true];refine⟨h2 _ (NH hm _),XU.2 ?_⟩;rw[getD_eq hm,getD_eq (show m<l.length by omega)];exact List.pairwise_iff_getElem.1 h3 m (m+1) (by omega) hm (by omega)
theorem ZU{l:List Ev}(h:QH l=true):∀x,x∈l->U8 x=true:=(ZV.1 h).2.1
theorem YZ{a b:List Ev}(h:(OZ a b).2=true):QH a=true/\QH b=true/\QH (OZ a b).1=true/\(∀z,z∈(OZ a b).1↔z∈a\/z∈b)/\(OZ a b).1.length<=a.length+b.length/\(∀x,x∈a->∀y,y∈b->x.1=y.1->x.2.1=y.2.1->x=y):=by
 unfold OZ at h⊢;cases ha:QH a with
 |false=>rw[ha]at h;cases h
 |true=>
  cases hb:QH b with
  |false=>rw[ha,hb]at h;cases h
  |true=>
   rw[ha,hb]at h;have hk:=iP (Wj ha) (Wj hb);simp only[cond_true]at h⊢;cases hmm:merge a b with
   |none=>rw[hmm]at h;cases h
   |some m=>
    rw[hmm]at h hk;simp only[]at h⊢;cases hm:QH m with
    |false=>rw[hm]at h;cases h
    |true=>exact⟨trivial,trivial,hm,hk.2.1,hk.2.2.1,hk.2.2.2⟩
noncomputable def YI(node:Int)(s:Int×Int×Nat×Nat)(x:Ev):Int×Int×Nat×Nat:=((bif decide (x.1=node)then x.2.1+1 else s.1),max s.2.1 (x.2.2.1+1),(bif decide (x.1<=node)then s.2.2.2+1 else s.2.2.1),s.2.2.2+1)
noncomputable def X0(l:List Ev)(node:Int):Int×Int×Nat×Nat:=l.foldl (YI node) (1,1,0,0)
noncomputable def aft(l:List Ev)(node kind Qp a b:Int):Ev:=(node,(X0 l node).1,(X0 l node).2.1,kind,Qp,a,b)
noncomputable def XA(l:List Ev)(node kind Qp a b:Int):List Ev:=l.take (X0 l node).2.2.1++[aft l node kind Qp a b]++l.drop (X0 l node).2.2.1
noncomputable def acp(l:List Ev)(node kind Qp a b:Int):List Ev×Bool:=bif QH l then bif QH (XA l node kind Qp a b)then(XA l node kind Qp a b,true)else(l,false)else(l,false)
structure aaS (node:Int) (p:List Ev) (s:Int×Int×Nat×Nat):Prop where
 c:s.2.2.2=p.length
 aeS:s.2.2.1<=p.length
 s1:∀x,x∈p->x.1=node->x.2.1<s.1
 s2:s.1=1\/∃x,x∈p/\x.1=node/\s.1=x.2.1+1
 p1:∀x,x∈p->x.2.2.1<s.2.1
 p2:s.2.1=1\/∃x,x∈p/\s.2.1=x.2.2.1+1
 a1:∀x,x∈p.take s.2.2.1->x.1<=node
 a2:∀x,x∈p.drop s.2.2.1->node<x.1
theorem Z6{node:Int}{p:List Ev}{s:Int×Int×Nat×Nat}{x:Ev}(h:aaS node p s)(hp:Yw (p++[x])):aaS node (p++[x]) (YI node s x):=by
 have hlt:∀y,y∈p->Nw y x=true:=fun y hy=>(List.pairwise_append.1 hp).2.2 y hy x (List.mem_singleton.2 rfl);obtain⟨h1,h2,h3,h4,h5,h6,h7,h8⟩:=h;unfold YI;refine⟨by simp[h1],?_,fun y hy hn=>?_,?_,fun y hy=>?_,?_,?_,?_⟩
 ·cases decide (x.1<=node) <;> simp <;> omega
 ·simp only[];rcases List.mem_append.1 hy with hy|hy
  ·by_cases hx:x.1=node
   ·rw[decide_eq_true hx];have:=hlt y hy;rw[M8]at this;simp only[cond_true];omega
   ·rw[decide_eq_false hx];exact h3 y hy hn
  ·rw[List.mem_singleton]at hy;subst hy;rw[decide_eq_true hn];simp only[cond_true];omega
 ·simp only[];by_cases hx:x.1=node
  ·rw[decide_eq_true hx];exact .inr ⟨x,by simp,hx,rfl⟩
  ·rw[decide_eq_false hx];rcases h4 with h4|⟨y,hy,h4⟩
   ·exact .inl h4
   ·exact .inr ⟨y,List.mem_append_left _ hy,h4⟩
 ·simp only[];rcases List.mem_append.1 hy with hy|hy
  ·have:=h5 y hy;omega
  ·rw[List.mem_singleton]at hy;subst hy;omega
 ·simp only[];by_cases hm:s.2.1<=x.2.2.1+1
  ·exact .inr ⟨x,by simp,by omega⟩
  ·rcases h6 with h6|⟨y,hy,h6⟩
   ·exact .inl (by omega)
   ·exact .inr ⟨y,List.mem_append_left _ hy,by omega⟩
 ·simp only[];by_cases hx:x.1<=node
  ·rw[decide_eq_true hx];intro y hy;rw[cond_true,h1,List.take_of_length_le (by simp)]at hy;rcases List.mem_append.1 hy with hy|hy
   ·have:=hlt y hy;rw[M8]at this;omega
   ·rw[List.mem_singleton]at hy;subst hy;exact hx
  ·rw[decide_eq_false hx];intro y hy;rw[cond_false,List.take_append_of_le_length h2]at hy;exact h7 y hy
 ·simp only[];by_cases hx:x.1<=node
  ·rw[decide_eq_true hx];intro y hy;rw[cond_true,h1,List.drop_of_length_le (by simp)]at hy;exact absurd hy List.not_mem_nil
  ·rw[decide_eq_false hx];intro y hy;rw[cond_false,List.drop_append_of_le_length h2]at hy;rcases List.mem_append.1 hy with hy|hy
   ·exact h8 y hy
   ·rw[List.mem_singleton]at hy;subst hy;omega
theorem YG(node:Int):∀(l p:List Ev) (s:Int×Int×Nat×Nat),Yw (p++l)->aaS node p s->aaS node (p++l) (l.foldl (YI node) s)
 | [],p,s,_,h=>by simpa using h
 |x::l,p,s,hp,h=>by
  have e:p++x::l=(p++[x])++l:=by simp
  rw[e]at hp⊢;exact YG node l (p++[x]) (YI node s x) hp (Z6 h (List.pairwise_append.1 hp).1)
theorem YH(node:Int){l:List Ev}(h:Yw l):aaS node l (X0 l node):=by have:=YG node l [] (1,1,0,0) (by simpa using h) ⟨rfl,Nat.le_refl _,fun x hx=>absurd hx List.not_mem_nil,.inl rfl,fun x hx=>absurd hx List.not_mem_nil,.inl rfl,fun x hx=>absurd (List.mem_of_mem_take hx) List.not_mem_nil,fun x hx=>absurd (List.mem_of_mem_drop hx) List.not_mem_nil⟩;exact this
theorem Sd{l:List Ev}{node kind Qp a b:Int}(z:Ev):z∈XA l node kind Qp a b↔z=aft l node kind Qp a b\/z∈l:=by
 unfold XA;rw[List.mem_append,List.mem_append,List.mem_singleton];constructor
 ·rintro((h|h)|h)
  ·exact .inr (List.mem_of_mem_take h)
  ·exact .inl h
  ·exact .inr (List.mem_of_mem_drop h)
 ·rintro(h|h)
  ·exact .inl (.inr h)
  ·rw[<-List.take_append_drop (X0 l node).2.2.1 l,List.mem_append]at h;rcases h with h|h
   ·exact .inl (.inl h)
   ·exact .inr h
theorem aaK{l:List Ev}(h:Yw l)(node kind Qp a b:Int):(XA l node kind Qp a b).length=l.length+1:=by have:=(YH node h).aeS;unfold XA;simp only[List.length_append,List.length_take,List.length_drop,List.length_singleton];omega
end Go.Fn
set_option linter.unusedSimpArgs false
set_option linter.unusedVariables false
namespace Go.Fn
open Go.R Go.Sort
structure Z4 (n:Nat) (base:List Ev) (S:Int->Prop) (l:List Ev):Prop where
 j:QH l=true
 len:l.length<=n
 st:∀x,x∈l->x.2.2.1<=(n:Int)
 gap:∀x,x∈l->∀s:Int,1<=s->s<=x.2.1->∃y,y∈l/\y.1=x.1/\y.2.1=s
 sub:∀x,x∈base->x∈l
 new:∀x,x∈l->x∈base\/S x.1
theorem Z4.mono{n m:Nat}{base:List Ev}{S:Int->Prop}{l:List Ev}(h:Z4 n base S l)(hm:n<=m):Z4 m base S l:=⟨h.j,by have:=h.len;omega,fun x hx=>by have:=h.st x hx;omega,h.gap,h.sub,h.new⟩
theorem Z4.add{n:Nat}{base:List Ev}{S:Int->Prop}{l:List Ev}(h:Z4 n base S l){node:Int}(hS:S node)(kind Qp a b:Int):Z4 (n+1) base S (acp l node kind Qp a b).1:=by
 unfold acp;rw[h.j];simp only[cond_true];cases hw:QH (XA l node kind Qp a b)with
 |false=>exact h.mono (Nat.le_succ _)
 |true=>
  have hs:=Wj h.j;have hi:=YH node hs;simp only[cond_true];refine⟨hw,by rw[aaK hs];have:=h.len;omega,fun x hx=>?_,fun x hx s h1 h2=>?_,fun x hx=>(Sd x).2 (.inr (h.sub x hx)),fun x hx=>?_⟩
  ·rcases(Sd x).1 hx with e|e
   ·rw[e];show(X0 l node).2.1<=_;rcases hi.p2 with p|⟨y,hy,p⟩
    ·rw[p];omega
    ·rw[p];have:=h.st y hy;omega
   ·have:=h.st x e;omega
  ·rcases(Sd x).1 hx with e|e
   ·subst e;have h2:s<=(X0 l node).1:=h2;by_cases e:s=(X0 l node).1
    ·exact⟨_,hx,rfl,e.symm⟩
    ·rcases hi.s2 with p|⟨y,hy,q,p⟩
     ·omega
     ·obtain⟨z,hz,e1,e2⟩:=h.gap y hy s h1 (by omega);exact⟨z,(Sd z).2 (.inr hz),by rw[e1,q];rfl,e2⟩
   ·obtain⟨z,hz,e1,e2⟩:=h.gap x e s h1 h2;exact⟨z,(Sd z).2 (.inr hz),e1,e2⟩
  ·rcases(Sd x).1 hx with e|e
   ·rw[e];exact .inr hS
   ·exact h.new x e
end Go.Fn
set_option linter.unusedSimpArgs false
set_option linter.unusedVariables false
namespace Go.Fn
open Go.R Go.Sort
theorem gI(d:Array Int)(i:Nat):ae zI d.toList (i:Int)=d[i]!:=gA d i
noncomputable def ltK(u v:Ev):Bool:=decide (u.2.2.1<v.2.2.1)||(decide (u.2.2.1=v.2.2.1)&&decide (u.1<v.1))
theorem Uz{u v:Ev}:ltK u v=true↔u.2.2.1<v.2.2.1\/(u.2.2.1=v.2.2.1/\u.1<v.1):=by unfold ltK;simp
theorem Zv{u v:Ev}:ltK u v=false↔v.2.2.1<u.2.2.1\/(u.2.2.1=v.2.2.1/\v.1<=u.1):=by rw[<-Bool.not_eq_true,Uz];omega
noncomputable def NY(l:List Ev)(x y:Int):Bool:=ltK (l.getD x.toNat bf) (l.getD y.toNat bf)
theorem TH(l:List Ev):SWO (NY l):=⟨fun x=>by unfold NY;rw[Zv];omega,fun x y z h1 h2=>by unfold NY at *;rw[Uz]at *;omega,fun x y z h1 h2=>by unfold NY at *;rw[Zv]at *;omega⟩
noncomputable def aaY(l:List Ev)(x y:Int):Int:=bif NY l x y then -1 else bif NY l y x then 1 else 0
theorem U7(l:List Ev)(x y:Int):af .lss (aaY l x y) (0:Int)=NY l x y:=by unfold aaY;cases NY l x y <;> cases NY l y x <;> rfl
theorem ade(a b c d:Int):(bif decide (ZB a b=0)then ZB c d else ZB a b)=(bif decide (a<b)||(decide (a=b)&&decide (c<d))then -1 else bif decide (b<a)||(decide (b=a)&&decide (d<c))then 1 else 0):=by
 unfold ZB;by_cases h1:a<b
 ·simp[h1]
 ·by_cases h2:b<a
  ·have h3:¬(a=b):=by omega
   have h4:¬(b=a):=by omega
   simp[h1,h2,h3,h4]
  ·have h3:a=b:=by omega
   subst h3;by_cases h4:c<d
   ·simp[h4]
   ·by_cases h5:d<c
    ·simp[h4,h5]
    ·simp[h4,h5]
theorem abF(l:List Ev)(x y:Int)(hx:0<=x/\x<l.length)(hy:0<=y/\y<l.length):MD x y l=some (aaY l x y,()):=by
 obtain⟨n,rfl⟩:∃n:Nat,x=(n:Int):=⟨x.toNat,by omega⟩
 obtain⟨m,rfl⟩:∃n:Nat,y=(n:Int):=⟨y.toNat,by omega⟩
 unfold MD aaY NY;simp only[az,aq,show n<l.length by omega,show m<l.length by omega,decide_true,cond_true,compare_eq,Option.bind_some,Int.toNat_natCast];generalize l.getD n bf=u;generalize l.getD m bf=v;rw[show(List.append (α:=Int) (List.append (α:=Int) ([]:List Int) [ZB u.2.2.1 v.2.2.1]) [ZB u.1 v.1])=[ZB u.2.2.1 v.2.2.1,ZB u.1 v.1]from rfl,or_eq,ade];rfl
abbrev Yv(l:List Ev)(d:Array Int):Prop:=∀k,k<d.size->0<=d[k]! /\ d[k]! < l.length
theorem Yv.perm{l:List Ev}{d d':Array Int}{a b:Nat}(h:Yv l d)(hb:b<=d.size)(hp:PermIn a b d d'):Yv l d':=by have h0:=permIn_mono d d' a b 0 d.size (Nat.zero_le _) hb (Nat.le_refl _) hp;have:=permIn_all d d' 0 d.size (fun x=>0<=x/\x<l.length) (Nat.le_refl _) h0 (fun i _ hi=>h i hi);exact fun k hk=>this k (Nat.zero_le _) (by rw[<-hp.1];exact hk)
theorem abD{l:List Ev}{d:Array Int}(h:Yv l d){i j:Nat}(hi:i<d.size)(hj:j<d.size):MD d[i]! d[j]! l=some (aaY l d[i]! d[j]!,()):=abF l _ _ (h i hi) (h j hj)
theorem ZS{n:Nat}(h:n<1099511627776):ak .i64 (au .shr .u64 (ak .u64 (n:Int)) (1:Int))=((n / 2:Nat):Int):=by
 rw[ZP h];have e:au .shr .u64 (n:Int) (1:Int)=((n / 2:Nat):Int):=by show(n:Int).fdiv (2 ^ 1)=_;rw[Int.fdiv_eq_ediv_of_nonneg _ (by decide)];omega
 rw[e,aa0 (by omega)]
theorem abg(l:List Ev)(a b i:Nat):∀(j:Nat) (d:Array Int) (n:Nat),Yv l d->j<d.size->d.size<=255->j<n->iter (yt ((a:Int),(b:Int),l,(i:Int),())) n (d.toList,(j:Int),())=some (.inl ((insInner (NY l) a j d).toList,())):=by
 intro j;induction j with
 |zero=>
  intro d n ho hj hd hn;obtain⟨n,rfl⟩:∃m,n=m+1:=⟨n-1,by omega⟩
  refine ay ?_;unfold yt insInner;simp only[Xj,show ¬(0>a)by omega,decide_false,cond_false]
 |succ j ih=>
  intro d n ho hj hd hn;obtain⟨n,rfl⟩:∃m,n=m+1:=⟨n-1,by omega⟩
  have e1:aa .sub .i64 ((j+1:Nat):Int) (1:Int)=(j:Int):=iw (by omega);have hc:=abD ho hj (show j<d.size by omega);unfold insInner;by_cases h:j+1>a
  ·cases hl:NY l d[j+1]! d[j]! with
   |true=>simp only[h,decide_true,Bool.true_and,if_true];rw[<-ih (swp d (j+1) j) n (ho.perm (Nat.le_refl _) (swp_permIn d 0 d.size (j+1) j (by omega) hj (by omega) (by omega) (Nat.le_refl _))) (by rw[size_swp];omega) (by rw[size_swp];omega) (by omega)];refine aH ?_;unfold yt;simp only[Xj,h,decide_true,cond_true,e1,TT,gI,W7,hj,show j<d.size by omega,hc,Option.bind_some,U7,hl,Xk]
   |false=>simp only[Bool.and_false,Bool.false_eq_true,if_false];refine ay ?_;unfold yt;simp only[Xj,h,decide_true,cond_true,e1,TT,gI,hj,show j<d.size by omega,hc,Option.bind_some,U7,hl,cond_false]
  ·simp only[h,decide_false,Bool.false_and,Bool.false_eq_true,if_false];refine ay ?_;unfold yt;simp only[Xj,h,decide_false,cond_false]
theorem VP{lt:Int->Int->Bool}(a b:Nat):∀j (d:Array Int),j<d.size->PermIn 0 d.size d (insInner lt a j d)
 |0,d,_=>permIn_refl _ _ _
 |j+1,d,hj=>by
  unfold insInner;split
  ·have h1:=VP (lt:=lt) a b j (swp d (j+1) j) (by rw[size_swp];omega);rw[size_swp]at h1;exact permIn_trans _ _ _ 0 d.size (swp_permIn d 0 d.size (j+1) j (by omega) hj (by omega) (by omega) (Nat.le_refl _)) h1
  ·exact permIn_refl _ _ _
theorem aas(l:List Ev)(a b:Nat)(hb:b<=255):∀(k i:Nat) (d:Array Int) (n:Nat),Yv l d->b-i<=k->b<=d.size->d.size<=255->i<=256->k<n->iter (Iw ((a:Int),(b:Int),l,())) n (d.toList,(i:Int),())=some (.inl ((insOuter (NY l) a b i d).toList,())):=by
 intro k;induction k with
 |zero=>
  intro i d n ho hk hbd hd hi hn;obtain⟨n,rfl⟩:∃m,n=m+1:=⟨n-1,by omega⟩
  refine ay ?_;unfold Iw insOuter;simp only[RU,show ¬(i<b)by omega,decide_false,cond_false,if_false]
 |succ k ih=>
  intro i d n ho hk hbd hd hi hn;obtain⟨n,rfl⟩:∃m,n=m+1:=⟨n-1,by omega⟩
  unfold insOuter;by_cases h:i<b
  ·simp only[h,if_true];rw[<-ih (i+1) (insInner (NY l) a i d) n (ho.perm (Nat.le_refl _) (VP a b i d (by omega))) (by omega) (by rw[Pb];omega) (by rw[Pb];omega) (by omega) (by omega)];refine aH ?_;unfold Iw JW;simp only[RU,h,decide_true,cond_true,abg l a b i i d big ho (by omega) hd (aT (by omega)),Option.bind_some,Sum.elim_inl,av (n:=i) (by omega)]
  ·simp only[h,if_false];refine ay ?_;unfold Iw;simp only[RU,h,decide_false,cond_false]
theorem acz(l:List Ev)(d:Array Int)(a b:Nat)(ho:Yv l d)(hab:a<=b)(hb:b<=d.size)(hd:d.size<=255):∃d',IK d.toList (a:Int) (b:Int) l=some (d'.toList,())/\PermIn a b d d'/\SortedIn (NY l) a b d':=by refine⟨insertionSort (NY l) d a b,?_,insertionSort_holds (TH l) d a b hab hb⟩;unfold IK JV insertionSort;simp only[av (n:=a) (by omega),aas l a b (by omega) 256 (a+1) d big ho (by omega) hb hd (by omega) (aT (by omega)),Option.bind_some,Sum.elim_inl]
theorem afy(a b n:Nat)(hab:a+n<=b):∀(r i:Nat) (d:Array Int) (f:Nat),i+r=n->b+n<=d.size->d.size<=255->r<f ->
  ∃d',iter (Jv ((a:Int),(b:Int),(n:Int),())) f (d.toList,(i:Int),())=some (.inl (d'.toList,()))/\PermIn a (b+n) d d' /\
   (∀k,i<=k->k<n->d'[a+k]! = d[b+k]! /\ d'[b+k]! = d[a+k]!)/\(∀t,(∀k,i<=k->k<n->t≠a+k/\t≠b+k)->d'[t]! = d[t]!):=by
 intro r;induction r with
 |zero=>
  intro i d f hi hb hd hf;obtain⟨f,rfl⟩:∃m,f=m+1:=⟨f-1,by omega⟩
  refine⟨d,ay ?_,permIn_refl _ _ _,fun k h1 h2=>by omega,fun t _=>rfl⟩;unfold Jv;simp only[RU,show ¬(i<n)by omega,decide_false,cond_false]
 |succ r ih=>
  intro i d f hi hb hd hf;obtain⟨f,rfl⟩:∃m,f=m+1:=⟨f-1,by omega⟩
  obtain⟨d',h1,h2,h3,h4⟩:=ih (i+1) (swp d (a+i) (b+i)) f (by omega) (by rw[size_swp];omega) (by rw[size_swp];omega) (by omega);refine⟨d',?_,permIn_trans _ _ _ a (b+n) (swp_permIn d a (b+n) (a+i) (b+i) (by omega) (by omega) (by omega) (by omega) hb) h2,fun k k1 k2=>?_,fun t ht=>?_⟩
  ·rw[<-h1];refine aH ?_;unfold Jv;have e1:aa .add .i64 (b:Int) (i:Int)=((b+i:Nat):Int):=aS (by omega);have e2:aa .add .i64 (a:Int) (i:Int)=((a+i:Nat):Int):=aS (by omega);simp only[RU,show i<n by omega,decide_true,cond_true,e1,e2,TT,gI,W7,show a+i<d.size by omega,show b+i<d.size by omega,Xk,aV,av (n:=i) (by omega)]
  ·by_cases e:k=i
   ·subst e;have x1:=h4 (a+k) (fun j _ _=>by omega);have x2:=h4 (b+k) (fun j _ _=>by omega);rw[x1,x2,swp_left d _ _ (by omega) (by omega),swp_right d _ _ (by omega)];exact⟨rfl,rfl⟩
   ·obtain⟨x1,x2⟩:=h3 k (by omega) k2;rw[x1,x2,swp_other d _ _ _ (by omega) (by omega),swp_other d _ _ _ (by omega) (by omega)];exact⟨rfl,rfl⟩
  ·rw[h4 t (fun k k1 k2=>ht k (by omega) k2)];have:=ht i (Nat.le_refl _) (by omega);exact swp_other d _ _ _ this.1 this.2
theorem Yg(l:List Ev)(d:Array Int)(a b n:Nat)(hab:a+n<=b)(hb:b+n<=d.size)(hd:d.size<=255):∃d',Ex d.toList (a:Int) (b:Int) (n:Int) l=some (d'.toList,())/\PermIn a (b+n) d d' /\
   (∀k,k<n->d'[a+k]! = d[b+k]! /\ d'[b+k]! = d[a+k]!)/\(∀t,(∀k,k<n->t≠a+k/\t≠b+k)->d'[t]! = d[t]!):=by
 obtain⟨d',h1,h2,h3,h4⟩:=afy a b n hab n 0 d big (by omega) hb hd (aT (by omega));refine⟨d',?_,h2,fun k hk=>h3 k (Nat.zero_le _) hk,fun t ht=>h4 t fun k _ hk=>ht k hk⟩;unfold Ex Kb;rw[show(0:Int)=((0:Nat):Int)from rfl,h1];rfl
structure Rot (m i j:Nat) (cur T:Array Int):Prop where
 perm:PermIn (m-i) (m+j) cur T
 lo:∀k,k<j->T[m-i+k]! = cur[m+k]!
 hi:∀k,k<i->T[m-i+j+k]! = cur[m-i+k]!
theorem abl(l:List Ev)(m:Nat):∀(s i j:Nat) (d:Array Int) (f:Nat),i+j<=s->0<i->0<j->i<=m->m+j<=d.size->d.size<=255->s<f ->
  ∃(d1:Array Int) (i1:Nat) (T:Array Int),iter (I6 ((m:Int),l,())) f (d.toList,(i:Int),(j:Int),())=some (.inl (d1.toList,((i1:Nat):Int),()))/\d1.size=d.size/\Ex d1.toList (aa .sub .i64 (m:Int) ((i1:Nat):Int)) (m:Int) ((i1:Nat):Int) l=some (T.toList,())/\Rot m i j d T:=by
 intro s;induction s with
 |zero=>intro i j d f hs h0;omega
 |succ s ih=>
  intro i j d f hs hi0 hj0 EM hm hd hf;obtain⟨f,rfl⟩:∃m,f=m+1:=⟨f-1,by omega⟩
  have e1:aa .sub .i64 (m:Int) (i:Int)=((m-i:Nat):Int):=sS EM (by omega);have ne:af .neq (i:Int) (j:Int) = !decide (i=j):=by rw[<-eqS i j];rfl
  by_cases hij:i=j
  ·subst hij;obtain⟨T,h1,h2,h3,h4⟩:=Yg l d (m-i) m i (by omega) hm hd;refine⟨d,i,T,ay ?_,rfl,by rw[e1];exact h1,⟨h2,fun k hk=>(h3 k hk).1,fun k hk=>?_⟩⟩
   ·unfold I6;simp only[ne,decide_true,Bool.not_true,cond_false]
   ·rw[show m-i+i+k=m+k by omega];exact(h3 k hk).2
  ·by_cases hgt:i>j
   ·obtain⟨d2,h1,h2,h3,h4⟩:=Yg l d (m-i) m j (by omega) hm hd;have tq:=h2.1;obtain⟨d1,i1,T,k1,k2,k3,k4⟩:=ih (i-j) j d2 f (by omega) (by omega) hj0 (by omega) (by omega) (by omega) (by omega);refine⟨d1,i1,T,?_,by omega,k3,⟨?_,fun k hk=>?_,fun k hk=>?_⟩⟩
    ·rw[<-k1];refine aH ?_;unfold I6;have e2:aa .sub .i64 (i:Int) (j:Int)=((i-j:Nat):Int):=sS (by omega) (by omega);simp only[ne,decide_eq_false hij,Bool.not_false,cond_true,Xj,hgt,decide_true,e1,h1,Option.bind_some,e2]
    ·exact permIn_trans _ _ _ _ _ h2 (permIn_mono d2 T (m-(i-j)) (m+j) (m-i) (m+j) (by omega) (Nat.le_refl _) (by omega) k4.perm)
    ·rw[k4.perm.2.1 (m-i+k) (.inl (by omega)),(h3 k hk).1]
    ·by_cases cJ:k<j
     ·have:=k4.lo k cJ;rw[show m-(i-j)+k=m-i+j+k by omega]at this;rw[this,(h3 k cJ).2]
     ·have:=k4.hi (k-j) (by omega);rw[show m-(i-j)+j+(k-j)=m-i+j+k by omega,show m-(i-j)+(k-j)=m-i+k by omega]at this;rw[this];exact h4 _ fun q hq=>by omega
   ·obtain⟨d2,h1,h2,h3,h4⟩:=Yg l d (m-i) (m+j-i) i (by omega) (by omega) hd;have tq:=h2.1;rw[show m+j-i+i=m+j by omega]at h2;obtain⟨d1,i1,T,k1,k2,k3,k4⟩:=ih i (j-i) d2 f (by omega) hi0 (by omega) EM (by omega) (by omega) (by omega);refine⟨d1,i1,T,?_,by omega,k3,⟨?_,fun k hk=>?_,fun k hk=>?_⟩⟩
    ·rw[<-k1];refine aH ?_;unfold I6;have e2:aa .sub .i64 (j:Int) (i:Int)=((j-i:Nat):Int):=sS (by omega) (by omega);have e3:aa .add .i64 (m:Int) (j:Int)=((m+j:Nat):Int):=aS (by omega);have e4:aa .sub .i64 ((m+j:Nat):Int) (i:Int)=((m+j-i:Nat):Int):=sS (by omega) (by omega);simp only[ne,decide_eq_false hij,Bool.not_false,cond_true,Xj,hgt,decide_false,cond_false,e1,e3,e4,h1,Option.bind_some,e2]
    ·exact permIn_trans _ _ _ _ _ h2 (permIn_mono d2 T (m-i) (m+(j-i)) (m-i) (m+j) (Nat.le_refl _) (by omega) (by omega) k4.perm)
    ·by_cases cJ:k<j-i
     ·rw[k4.lo k cJ];exact h4 _ fun q hq=>by omega
     ·have:=k4.hi (k-(j-i)) (by omega);rw[show m-i+(j-i)+(k-(j-i))=m-i+k by omega]at this;rw[this,(h3 (k-(j-i)) (by omega)).1];congr 1;omega
    ·rw[k4.perm.2.1 (m-i+j+k) (.inr (by omega))];have:=(h3 k hk).2;rw[show m+j-i+k=m-i+j+k by omega]at this;exact this
theorem abh(l:List Ev)(d:Array Int)(s m e:Nat)(h1:s<m)(h2:m<e)(he:e<=d.size)(hd:d.size<=255):∃T,Ih d.toList (s:Int) (m:Int) (e:Int) l=some (T.toList,())/\Rot m (m-s) (e-m) d T:=by obtain⟨d1,i1,T,k1,k2,k3,k4⟩:=abl l m 256 (m-s) (e-m) d big (by omega) (by omega) (by omega) (by omega) (by omega) hd (aT (by omega));refine⟨T,?_,k4⟩;unfold Ih KA;have e1:aa .sub .i64 (m:Int) (s:Int)=((m-s:Nat):Int):=sS (by omega) (by omega);have e2:aa .sub .i64 (e:Int) (m:Int)=((e-m:Nat):Int):=sS (by omega) (by omega);rw[e1,e2,k1];simp only[Option.bind_some,Sum.elim_inl,k3]
theorem X1{X Y:Type}{body:X->Option (X⊕Y)}(st:Nat->Nat->X)(fin:Nat->Y)(P:Nat->Bool)(lo hi:Nat)(hs:∀i j,lo<=i->i<j->j<=hi->body (st i j)=some (.inl (bif P ((i+j) / 2)then st ((i+j) / 2+1) j else st i ((i+j) / 2))))(he:∀i,body (st i i)=some (.inr (fin i))):
  ∀(k i j n:Nat),j-i<=k->k<n->lo<=i->i<=j->j<=hi->(i=lo\/P (i-1)=true)->(j=hi\/P j=false)->∃r,iter body n (st i j)=some (fin r)/\lo<=r/\r<=hi/\(r=lo\/P (r-1)=true)/\(r=hi\/P r=false):=by
 intro k;induction k with
 |zero=>
  intro i j n hk hn h1 h2 h3 h4 h5;obtain⟨n,rfl⟩:∃m,n=m+1:=⟨n-1,by omega⟩
  obtain rfl:i=j:=by omega
  exact⟨i,ay (he i),h1,h3,h4,h5⟩
 |succ k ih=>
  intro i j n hk hn h1 h2 h3 h4 h5;obtain⟨n,rfl⟩:∃m,n=m+1:=⟨n-1,by omega⟩
  by_cases h:i=j
  ·subst h;exact⟨i,ay (he i),h1,h3,h4,h5⟩
  ·have hb:=hs i j h1 (by omega) h3;cases hp:P ((i+j) / 2)with
   |true=>rw[hp]at hb;rw[aH hb];exact ih ((i+j) / 2+1) j n (by omega) (by omega) (by omega) (by omega) h3 (.inr (by simpa using hp)) h5
   |false=>rw[hp]at hb;rw[aH hb];exact ih i ((i+j) / 2) n (by omega) (by omega) h1 (by omega) (by omega) h4 (.inr hp)
theorem LA{lt:Int->Int->Bool}(h:SWO lt){d:Array Int}{a b u v:Nat}(hs:SortedIn lt a b d)(h1:a<=u)(h2:u<=v)(h3:v<b):lt d[v]! d[u]! = false:=by
 by_cases e:u=v
 ·subst e;exact h.irrefl _
 ·exact hs u v h1 (by omega) h3
end Go.Fn
set_option linter.unusedSimpArgs false
set_option linter.unusedVariables false
namespace Go.Fn
open Go.R Go.Sort
theorem acN(rec:List Int->Int->Int->Int->List Ev->Option (List Int×Unit))(i:Nat)(hi:0<i):∀(r k:Nat) (d:Array Int) (f:Nat),i-1-k=r->i<=d.size->d.size<=255->k<i->r<f ->
  ∃d',iter (JE rec ((i:Int),())) f (d.toList,(k:Int),())=some (.inl (d'.toList,()))/\PermIn k i d d'/\(∀t,k<=t->t<i-1->d'[t]! = d[t+1]!)/\d'[i-1]! = d[k]!:=by
 have e1:aa .sub .i64 (i:Int) 1=((i-1:Nat):Int)\/255<i:=by
  by_cases h:255<i
  ·exact .inr h
  ·exact .inl (sS (m:=1) (by omega) (by omega))
 intro r;induction r with
 |zero=>
  intro k d f hk hs hd hki hf;have e1:=e1.resolve_right (by omega);obtain⟨f,rfl⟩:∃m,f=m+1:=⟨f-1,by omega⟩
  refine⟨d,ay ?_,permIn_refl _ _ _,fun t h1 h2=>by omega,by rw[show i-1=k by omega]⟩;unfold JE;simp only[e1,RU,show ¬(k<i-1)by omega,decide_false,cond_false]
 |succ r ih=>
  intro k d f hk hs hd hki hf;have e1:=e1.resolve_right (by omega);obtain⟨f,rfl⟩:∃m,f=m+1:=⟨f-1,by omega⟩
  obtain⟨d',h1,h2,h3,h4⟩:=ih (k+1) (swp d k (k+1)) f (by omega) (by rw[size_swp];omega) (by rw[size_swp];omega) (by omega) (by omega);refine⟨d',?_,permIn_trans _ _ _ k i (swp_permIn d k i k (k+1) (by omega) (by omega) (by omega) (by omega) hs) (permIn_mono _ _ (k+1) i k i (by omega) (Nat.le_refl _) (by rw[size_swp];omega) h2),fun t t1 t2=>?_,?_⟩
  ·rw[<-h1];refine aH ?_;unfold JE;simp only[e1,RU,show k<i-1 by omega,decide_true,cond_true,av (n:=k) (by omega),TT,gI,W7,show k+1<d.size by omega,show k<d.size by omega,Xk]
  ·by_cases e:t=k
   ·subst e;rw[h2.2.1 t (.inl (by omega)),swp_left d _ _ (by omega) (by omega)]
   ·rw[h3 t (by omega) t2,swp_other d _ _ _ (by omega) (by omega)]
  ·rw[h4,swp_right d _ _ (by omega)]
theorem aaX(rec:List Int->Int->Int->Int->List Ev->Option (List Int×Unit))(i:Nat):∀(r k:Nat) (d:Array Int) (f:Nat),k-i=r->i<=k->k<d.size->d.size<=255->r<f ->
  ∃d',iter (JG rec ((i:Int),())) f (d.toList,(k:Int),())=some (.inl (d'.toList,()))/\PermIn i (k+1) d d'/\(∀t,i<=t->t<k->d'[t+1]! = d[t]!)/\d'[i]! = d[k]!:=by
 intro r;induction r with
 |zero=>
  intro k d f hk hik hs hd hf;obtain⟨f,rfl⟩:∃m,f=m+1:=⟨f-1,by omega⟩
  refine⟨d,ay ?_,permIn_refl _ _ _,fun t h1 h2=>by omega,by rw[show i=k by omega]⟩;unfold JG;simp only[Xj,show ¬(k>i)by omega,decide_false,cond_false]
 |succ r ih=>
  intro k d f hk hik hs hd hf;obtain⟨f,rfl⟩:∃m,f=m+1:=⟨f-1,by omega⟩
  have e1:aa .sub .i64 (k:Int) 1=((k-1:Nat):Int):=sS (m:=1) (by omega) (by omega);obtain⟨d',h1,h2,h3,h4⟩:=ih (k-1) (swp d k (k-1)) f (by omega) (by omega) (by rw[size_swp];omega) (by rw[size_swp];omega) (by omega);rw[show k-1+1=k by omega]at h2;refine⟨d',?_,permIn_trans _ _ _ i (k+1) (swp_permIn d i (k+1) k (k-1) (by omega) (by omega) (by omega) (by omega) (by omega)) (permIn_mono _ _ i k i (k+1) (Nat.le_refl _) (by omega) (by rw[size_swp];omega) h2),fun t t1 t2=>?_,?_⟩
  ·rw[<-h1];refine aH ?_;unfold JG;simp only[Xj,show k>i by omega,decide_true,cond_true,e1,TT,gI,W7,show k<d.size by omega,show k-1<d.size by omega,Xk]
  ·by_cases e:t+1=k
   ·rw[e,h2.2.1 k (.inr (by omega)),swp_left d _ _ (by omega) (by omega),show k-1=t by omega]
   ·rw[h3 t t1 (by omega),swp_other d _ _ _ (by omega) (by omega)]
  ·rw[h4,swp_right d _ _ (by omega)]
noncomputable def Xh(l:List Ev)(rec:List Int->Int->Int->Int->List Ev->Option (List Int×Unit))(M:Nat):Prop:=∀(d:Array Int) (a m b:Nat),b-a<M->a<m->m<b->b<=d.size->d.size<=255->Yv l d->SortedIn (NY l) a m d->SortedIn (NY l) m b d->∃d',rec d.toList (a:Int) (m:Int) (b:Int) l=some (d'.toList,())/\PermIn a b d d'/\SortedIn (NY l) a b d'
theorem Zw(l:List Ev)(rec:List Int->Int->Int->Int->List Ev->Option (List Int×Unit))(d:Array Int)(a b:Nat)(h1:a+1<b)(hb:b<=d.size)(hd:d.size<=255)(ho:Yv l d)(hs:SortedIn (NY l) (a+1) b d):
  ∃d',rm rec d.toList (a:Int) ((a+1:Nat):Int) (b:Int) l=some (d'.toList,())/\PermIn a b d d'/\SortedIn (NY l) a b d':=by
 have hw:=TH l;have e0:aa .sub .i64 ((a+1:Nat):Int) (a:Int)=((1:Nat):Int):=by rw[sS (by omega) (by omega)];congr 1;omega
 obtain⟨i,hi,i1,i2,i3,i4⟩:=X1 (body:=JD rec ((a:Int),l,())) (fun i j=>(d.toList,(i:Int),(j:Int),())) (fun i=>(.inl (d.toList,(i:Int),()):List Int×Int×Unit⊕Empty)) (fun c=>NY l d[c]! d[a]!) (a+1) b (fun i j h1 h2 h3=>by
  unfold JD;have e1:aa .add .i64 (i:Int) (j:Int)=((i+j:Nat):Int):=aS (by omega);have z:cB (1:Int)=false:=rfl;have hc:=abD ho (i:=(i+j) / 2) (j:=a) (by omega) (by omega);simp only[RU,h2,decide_true,cond_true,z,cond_false,e1,ZS (n:=i+j) (by omega),TT,gI,show(i+j) / 2<d.size by omega,show a<d.size by omega,hc,Option.bind_some,U7,av (n:=(i+j) / 2) (by omega)];cases NY l d[(i+j) / 2]! d[a]! <;> rfl) (fun i=>by
  unfold JD;simp only[RU,Nat.lt_irrefl,decide_false,cond_false]) 256 (a+1) b big (by omega) (aT (by omega)) (Nat.le_refl _) (by omega) (Nat.le_refl _) (.inl rfl) (.inl rfl)
 obtain⟨d',h3,h4,h5,h6⟩:=acN rec i (by omega) (i-1-a) a d big rfl (by omega) hd (by omega) (aT (by omega));refine⟨d',?_,permIn_mono _ _ a i a b (Nat.le_refl _) i2 hb h4,?_⟩
 ·unfold rm Kj Kk;simp only[e0,show af .eql ((1:Nat):Int) (1:Int)=true from rfl,cond_true,hi,Option.bind_some,Sum.elim_inl,h3]
 ·have hi0:∀u,i<=u->d'[u]! = d[u]!:=fun u hu=>h4.2.1 u (.inr hu);intro u v h7 h8 h9;have atI:∀u,u<i-1->a<=u->NY l d[a]! d[u+1]! = false:=fun u hu hau=>by have hP:NY l d[i-1]! d[a]! = true:=i3.resolve_left (by omega);exact hw.ntrans _ _ _ (hw.asymm hP) (LA hw hs (by omega) (by omega) (by omega))
  by_cases u1:u<i-1
  ·rw[h5 u h7 u1];by_cases v1:v<i-1
   ·rw[h5 v (by omega) v1];exact LA hw hs (by omega) (by omega) (by omega)
   ·by_cases v2:v=i-1
    ·rw[v2,h6];exact atI u u1 h7
    ·rw[hi0 v (by omega)];exact LA hw hs (by omega) (by omega) h9
  ·by_cases u2:u=i-1
   ·rw[u2,h6,hi0 v (by omega)];have hN:NY l d[i]! d[a]! = false:=i4.resolve_left (by omega);exact hw.ntrans _ _ _ (LA hw hs (by omega) (by omega) h9) hN
   ·rw[hi0 u (by omega),hi0 v (by omega)];exact LA hw hs (by omega) (by omega) h9
theorem merge_right(l:List Ev)(rec:List Int->Int->Int->Int->List Ev->Option (List Int×Unit))(d:Array Int)(a m:Nat)(h1:a<m)(hne:m-a≠1)(hb:m+1<=d.size)(hd:d.size<=255)(ho:Yv l d)(hs:SortedIn (NY l) a m d):
  ∃d',rm rec d.toList (a:Int) (m:Int) ((m+1:Nat):Int) l=some (d'.toList,())/\PermIn a (m+1) d d'/\SortedIn (NY l) a (m+1) d':=by
 have hw:=TH l;have e0:aa .sub .i64 (m:Int) (a:Int)=((m-a:Nat):Int):=sS (by omega) (by omega);have e1:aa .sub .i64 ((m+1:Nat):Int) (m:Int)=((1:Nat):Int):=by rw[sS (by omega) (by omega)];congr 1;omega
 have ne1:af .eql ((m-a:Nat):Int) (1:Int)=false:=(eqS (m-a) 1).trans (decide_eq_false hne);obtain⟨i,hi,i1,i2,i3,i4⟩:=X1 (body:=JF rec ((m:Int),l,())) (fun i j=>(d.toList,(i:Int),(j:Int),())) (fun i=>(.inl (d.toList,(i:Int),()):List Int×Int×Unit⊕Empty)) (fun c=>!NY l d[m]! d[c]!) a m (fun i j h1 h2 h3=>by
  unfold JF;have e1:aa .add .i64 (i:Int) (j:Int)=((i+j:Nat):Int):=aS (by omega);have z:cB (1:Int)=false:=rfl;have hc:=abD ho (i:=m) (j:=(i+j) / 2) (by omega) (by omega);simp only[RU,h2,decide_true,cond_true,z,cond_false,e1,ZS (n:=i+j) (by omega),TT,gI,show(i+j) / 2<d.size by omega,show m<d.size by omega,hc,Option.bind_some,U7,av (n:=(i+j) / 2) (by omega)];cases NY l d[m]! d[(i+j) / 2]! <;> rfl) (fun i=>by
  unfold JF;simp only[RU,Nat.lt_irrefl,decide_false,cond_false]) 256 a m big (by omega) (aT (by omega)) (Nat.le_refl _) (by omega) (Nat.le_refl _) (.inl rfl) (.inl rfl)
 obtain⟨d',h3,h4,h5,h6⟩:=aaX rec i (m-i) m d big rfl (by omega) (by omega) hd (aT (by omega));refine⟨d',?_,permIn_mono _ _ i (m+1) a (m+1) i1 (Nat.le_refl _) hb h4,?_⟩
 ·unfold rm Kl Km;simp only[e0,ne1,cond_false,e1,show af .eql ((1:Nat):Int) (1:Int)=true from rfl,cond_true,hi,Option.bind_some,Sum.elim_inl,h3]
 ·have hi0:∀u,u<i->d'[u]! = d[u]!:=fun u hu=>h4.2.1 u (.inl hu);have hup:∀u,i<u->u<m+1->d'[u]! = d[u-1]!:=fun u hu Ef=>by have:=h5 (u-1) (by omega) (by omega);rwa[show u-1+1=u by omega]at this
  intro u v h7 h8 h9;by_cases u1:u<i
  ·rw[hi0 u u1];by_cases v1:v<i
   ·rw[hi0 v v1];exact LA hw hs h7 (by omega) (by omega)
   ·by_cases v2:v=i
    ·rw[v2,h6];have hP:=i3.resolve_left (by omega);rw[Bool.not_eq_true']at hP;exact hw.ntrans _ _ _ hP (LA hw hs h7 (by omega) (by omega))
    ·rw[hup v (by omega) h9];exact LA hw hs h7 (by omega) (by omega)
  ·by_cases u2:u=i
   ·rw[u2,h6,hup v (by omega) h9];have hN:=i4.resolve_left (by omega);rw[Bool.not_eq_false']at hN;exact hw.ntrans _ _ _ (LA hw hs (by omega) (by omega) (by omega)) (hw.asymm hN)
   ·rw[hup u (by omega) (by omega),hup v (by omega) h9];exact LA hw hs (by omega) (by omega) (by omega)
noncomputable def Vs(rec:List Int->Int->Int->Int->List Ev->Option (List Int×Unit))(l:List Ev)(mid e b:Int)(d:List Int):Option (List Int×Unit):=(lets (af .lss mid e) fun v3=>(bif v3 then(bif (af .lss e b)then((rec d mid e b l).bind fun y4=>some (y4.1,()))else some (d,()))else some (d,())))
noncomputable def TP(rec:List Int->Int->Int->Int->List Ev->Option (List Int×Unit))(l:List Ev)(a s mid e b:Int)(d:List Int):Option (List Int×Unit):=(bif (af .lss a s)then(bif (af .lss s mid)then((rec d a s mid l).bind fun y2=>Vs rec l mid e b y2.1)else Vs rec l mid e b d)else Vs rec l mid e b d)
theorem ab4 {l:List Ev} {rec:List Int->Int->Int->Int->List Ev->Option (List Int×Unit)} {M:Nat} (fY:Xh l rec M) (d:Array Int) (a s mid e b:Nat) (h1:a<=s) (h2:s<=mid) (h3:mid<=e) (h4:e<=b) (hab:a<mid) (hmb:mid<b) (hM:b-a<=M) (hb:b<=d.size) (hd:d.size<=255) (ho:Yv l d)
  (s1:SortedIn (NY l) a s d) (s2:SortedIn (NY l) s mid d) (s3:SortedIn (NY l) mid e d) (s4:SortedIn (NY l) e b d) (hx:∀u v,a<=u->u<mid->mid<=v->v<b->NY l d[v]! d[u]! = false):
  ∃d',TP rec l (a:Int) (s:Int) (mid:Int) (e:Int) (b:Int) d.toList=some (d'.toList,())/\PermIn a b d d'/\SortedIn (NY l) a b d':=by
 have hw:=TH l;obtain⟨d2,k1,k2,k3⟩:∃d2:Array Int,TP rec l (a:Int) (s:Int) (mid:Int) (e:Int) (b:Int) d.toList=Vs rec l (mid:Int) (e:Int) (b:Int) d2.toList/\PermIn a mid d d2/\SortedIn (NY l) a mid d2:=by
  unfold TP;rw[RU,RU];by_cases q1:a<s
  ·by_cases q2:s<mid
   ·obtain⟨d2,k1,k2,k3⟩:=fY d a s mid (by omega) q1 q2 (by omega) hd ho s1 s2;exact⟨d2,by simp only[q1,q2,decide_true,cond_true,k1,Option.bind_some],k2,k3⟩
   ·have:s=mid:=by omega
    exact⟨d,by simp only[q1,q2,decide_true,decide_false,cond_true,cond_false],permIn_refl _ _ _,this▸s1⟩
  ·have:s=a:=by omega
   exact⟨d,by simp only[q1,decide_false,cond_false],permIn_refl _ _ _,this▸s2⟩
 have z2:d2.size=d.size:=k2.1;have uw:=ho.perm (by omega) k2;obtain⟨d3,m1,m2,m3⟩:∃d3:Array Int,Vs rec l (mid:Int) (e:Int) (b:Int) d2.toList=some (d3.toList,())/\PermIn mid b d2 d3/\SortedIn (NY l) mid b d3:=by
  have EX:SortedIn (NY l) mid e d2:=s3.congr fun i hi _=>k2.2.1 i (.inr hi);have s4':SortedIn (NY l) e b d2:=s4.congr fun i hi _=>k2.2.1 i (.inr (by omega));unfold Vs;rw[RU,RU];by_cases q1:mid<e
  ·by_cases q2:e<b
   ·obtain⟨d3,m1,m2,m3⟩:=fY d2 mid e b (by omega) q1 q2 (by omega) (by omega) uw EX s4';exact⟨d3,by simp only[aV,q1,q2,decide_true,cond_true,m1,Option.bind_some],m2,m3⟩
   ·have:e=b:=by omega
    exact⟨d2,by simp only[aV,q1,q2,decide_true,decide_false,cond_true,cond_false],permIn_refl _ _ _,this▸EX⟩
  ·have:e=mid:=by omega
   exact⟨d2,by simp only[aV,q1,decide_false,cond_false],permIn_refl _ _ _,this▸s4'⟩
 refine⟨d3,by rw[k1,m1],permIn_trans _ _ _ a b (permIn_mono _ _ a mid a b (Nat.le_refl _) (by omega) hb k2) (permIn_mono _ _ mid b a b (by omega) (Nat.le_refl _) (by omega) m2),fun u v h7 h8 h9=>?_⟩;have left:∀u,u<mid->d3[u]! = d2[u]!:=fun u hu=>m2.2.1 u (.inl hu);by_cases v1:v<mid
 ·rw[left u (by omega),left v v1];exact k3 u v h7 h8 v1
 ·by_cases u1:u<mid
  ·rw[left u u1];have c1:∀w,mid<=w->w<b->NY l d2[w]! d2[u]! = false:=fun w qU Dl=>by rw[k2.2.1 w (.inr qU)];exact permIn_all d d2 a mid (fun x=>NY l d[w]! x=false) (by omega) k2 (fun t ht1 ht2=>hx t w ht1 ht2 qU Dl) u h7 u1
   exact permIn_all d2 d3 mid b (fun x=>NY l x d2[u]! = false) (by omega) m2 (fun t ht1 ht2=>c1 t ht1 ht2) v (by omega) h9
  ·exact m3 u v (by omega) h8 h9
theorem aa3 {l:List Ev} {rec:List Int->Int->Int->Int->List Ev->Option (List Int×Unit)} {M:Nat} (fY:Xh l rec M) (d:Array Int) (a m b mid s e lo hi:Nat) (ham:a+2<=m) (hmb:m+2<=b) (hM:b-a<=M) (hb:b<=d.size) (hd:d.size<=255) (ho:Yv l d)
  (s1:SortedIn (NY l) a m d) (s2:SortedIn (NY l) m b d) (ac1:mid=(a+b) / 2) (hlo:lo=if m>mid then mid+m-b else a) (hhi:hi=if m>mid then mid else m) (r1:lo<=s) (r2:s<=hi) (he:e=mid+m-s)
  (r3:s=lo\/NY l d[mid+m-1-(s-1)]! d[s-1]! = false) (r4:s=hi\/NY l d[mid+m-1-s]! d[s]! = true):
  ∃d',(bif (af .lss (s:Int) (m:Int))then(bif (af .lss (m:Int) (e:Int))then((Ih d.toList (s:Int) (m:Int) (e:Int) l).bind fun y2=>TP rec l (a:Int) (s:Int) (mid:Int) (e:Int) (b:Int) y2.1)else TP rec l (a:Int) (s:Int) (mid:Int) (e:Int) (b:Int) d.toList)else TP rec l (a:Int) (s:Int) (mid:Int) (e:Int) (b:Int) d.toList)=some (d'.toList,())/\PermIn a b d d'/\SortedIn (NY l) a b d':=by
 have hw:=TH l;have b1:a<=s/\s<=m/\m<=e/\e<=b/\s<=mid/\mid<=e:=by split at hlo <;> rename_i q <;> simp only[q,if_true,if_false]at hhi <;> omega
 obtain⟨c1,c2,c3,c4,c5,c6⟩:=b1;obtain⟨T,t0,t1,t2,t3⟩:∃T:Array Int,(bif (af .lss (s:Int) (m:Int))then(bif (af .lss (m:Int) (e:Int))then((Ih d.toList (s:Int) (m:Int) (e:Int) l).bind fun y2=>TP rec l (a:Int) (s:Int) (mid:Int) (e:Int) (b:Int) y2.1)else TP rec l (a:Int) (s:Int) (mid:Int) (e:Int) (b:Int) d.toList)else TP rec l (a:Int) (s:Int) (mid:Int) (e:Int) (b:Int) d.toList)=TP rec l (a:Int) (s:Int) (mid:Int) (e:Int) (b:Int) T.toList/\PermIn s e d T/\(∀u,s<=u->u<mid->T[u]! = d[m+(u-s)]!)/\(∀v,mid<=v->v<e->T[v]! = d[s+(v-mid)]!):=by
  rw[RU,RU];by_cases q1:s<m
  ·by_cases q2:m<e
   ·obtain⟨T,k1,k2,k3,k4⟩:=abh l d s m e q1 q2 (by omega) hd;rw[show m-(m-s)=s by omega]at k2 k3 k4;rw[show m+(e-m)=e by omega]at k2;refine⟨T,by simp only[q1,q2,decide_true,cond_true,k1,Option.bind_some],k2,fun u h1 h2=>?_,fun v h1 h2=>?_⟩
    ·have:=k3 (u-s) (by omega);rwa[show s+(u-s)=u by omega]at this
    ·have:=k4 (v-mid) (by omega);rwa[show s+(e-m)+(v-mid)=v by omega]at this
   ·have:e=m:=by omega
    refine⟨d,by simp only[q1,q2,decide_true,decide_false,cond_true,cond_false],permIn_refl _ _ _,fun u h1 h2=>by omega,fun v h1 h2=>?_⟩;congr 1;omega
  ·have:s=m:=by omega
   refine⟨d,by simp only[q1,decide_false,cond_false],permIn_refl _ _ _,fun u h1 h2=>?_,fun v h1 h2=>by omega⟩;congr 1;omega
 have lo':∀u,u<s->T[u]! = d[u]!:=fun u hu=>t1.2.1 u (.inl hu);have hi':∀v,e<=v->T[v]! = d[v]!:=fun v hv=>t1.2.1 v (.inr hv);have zT:T.size=d.size:=t1.1;obtain⟨d',k1,k2,k3⟩:=ab4 fY T a s mid e b c1 c5 c6 c4 (by omega) (by omega) hM (by omega) (by omega) (ho.perm (by omega) t1)
  (fun u v h1 h2 h3=>by rw[lo' u (by omega),lo' v h3];exact s1 u v h1 h2 (by omega))
  (fun u v h1 h2 h3=>by rw[t2 u h1 (by omega),t2 v (by omega) h3];exact LA hw s2 (by omega) (by omega) (by omega))
  (fun u v h1 h2 h3=>by rw[t3 u h1 (by omega),t3 v (by omega) h3];exact LA hw s1 (by omega) (by omega) (by omega))
  (fun u v h1 h2 h3=>by rw[hi' u h1,hi' v (by omega)];exact s2 u v (by omega) h2 h3)
  (fun u v h1 h2 h3 h4=>by
   by_cases u1:u<s
   ·rw[lo' u u1];by_cases v1:v<e
    ·rw[t3 v h3 v1];exact LA hw s1 h1 (by omega) (by omega)
    ·rw[hi' v (by omega)];have hP:NY l d[e]! d[s-1]! = false:=by have:=r3.resolve_left (by split at hlo <;> omega);rwa[show mid+m-1-(s-1)=e by omega]at this
     exact hw.ntrans _ _ _ (hw.ntrans _ _ _ (LA hw s2 (by omega) (by omega) h4) hP) (LA hw s1 h1 (by omega) (by omega))
   ·rw[t2 u (by omega) h2];by_cases v1:v<e
    ·rw[t3 v h3 v1];have hP:NY l d[e-1]! d[s]! = true:=by have:=r4.resolve_left (by split at hhi <;> omega);rwa[show mid+m-1-s=e-1 by omega]at this
     exact hw.ntrans _ _ _ (hw.ntrans _ _ _ (LA hw s1 (by omega) (by omega) (by omega)) (hw.asymm hP)) (LA hw s2 (by omega) (by omega) (by omega))
    ·rw[hi' v (by omega)];exact LA hw s2 (by omega) (by omega) h4)
 exact⟨d',by rw[t0];exact k1,permIn_trans _ _ _ a b (permIn_mono _ _ s e a b c1 c4 hb t1) k2,k3⟩
theorem aao(l:List Ev){rec:List Int->Int->Int->Int->List Ev->Option (List Int×Unit)}{M:Nat}(fY:Xh l rec M)(d:Array Int)(a m b:Nat)(hM:b-a<=M)(ham:a<m)(hmb:m<b)(hb:b<=d.size)(hd:d.size<=255)(ho:Yv l d)(s1:SortedIn (NY l) a m d)(s2:SortedIn (NY l) m b d):
  ∃d',rm rec d.toList (a:Int) (m:Int) (b:Int) l=some (d'.toList,())/\PermIn a b d d'/\SortedIn (NY l) a b d':=by
 by_cases q1:m=a+1
 ·subst q1;exact Zw l rec d a b hmb hb hd ho s2
 ·by_cases q2:b=m+1
  ·subst q2;exact merge_right l rec d a m ham (by omega) hb hd ho s1
  ·have e0:aa .sub .i64 (m:Int) (a:Int)=((m-a:Nat):Int):=sS (by omega) (by omega);have e1:aa .sub .i64 (b:Int) (m:Int)=((b-m:Nat):Int):=sS (by omega) (by omega);have n1:af .eql ((m-a:Nat):Int) (1:Int)=false:=(eqS (m-a) 1).trans (decide_eq_false (by omega));have n2:af .eql ((b-m:Nat):Int) (1:Int)=false:=(eqS (b-m) 1).trans (decide_eq_false (by omega));have z:cB (1:Int)=false:=rfl;have e2:aa .add .i64 (a:Int) (b:Int)=((a+b:Nat):Int):=aS (by omega);have e3:=ZS (n:=a+b) (by omega);obtain⟨mid,ac1⟩:∃mid,mid=(a+b) / 2:=⟨_,rfl⟩
   rw[<-ac1]at e3;have e4:aa .add .i64 (mid:Int) (m:Int)=((mid+m:Nat):Int):=aS (by omega);have e5:aa .sub .i64 ((mid+m:Nat):Int) 1=((mid+m-1:Nat):Int):=sS (m:=1) (by omega) (by omega);obtain⟨lo,hlo⟩:∃lo,lo=if m>mid then mid+m-b else a:=⟨_,rfl⟩
   obtain⟨hi,hhi⟩:∃hi,hi=if m>mid then mid else m:=⟨_,rfl⟩
   have hlh:a<=lo/\lo<=hi/\hi<=m/\hi<=mid/\(∀c,lo<=c->c<hi->mid+m-1-c<b/\c<=mid+m-1):=by
    split at hlo <;> rename_i q <;> simp only[q,if_true,if_false]at hhi
    ·exact⟨by omega,by omega,by omega,by omega,fun c _ _=>by omega⟩
    ·exact⟨by omega,by omega,by omega,by omega,fun c _ _=>by omega⟩
   obtain⟨l1,l2,l3,l4,l5⟩:=hlh;obtain⟨s,hs,i1,i2,i3,i4⟩:=X1 (body:=JH rec ((a:Int),(m:Int),(b:Int),l,(mid:Int),((mid+m:Nat):Int),((mid+m-1:Nat):Int),())) (fun i j=>(d.toList,(i:Int),(j:Int),())) (fun i=>(.inl (d.toList,(i:Int),()):List Int×Int×Unit⊕Empty)) (fun c=>!NY l d[mid+m-1-c]! d[c]!) lo hi (fun i j h1 h2 h3=>by
    have DO:=l5 ((i+j) / 2) (by omega) (by omega);unfold JH;have x1:aa .add .i64 (i:Int) (j:Int)=((i+j:Nat):Int):=aS (by omega);have x2:aa .sub .i64 ((mid+m-1:Nat):Int) (((i+j) / 2:Nat):Int)=((mid+m-1-(i+j) / 2:Nat):Int):=sS (by omega) (by omega);have hc:=abD ho (i:=mid+m-1-(i+j) / 2) (j:=(i+j) / 2) (by omega) (by omega);simp only[RU,h2,decide_true,cond_true,z,cond_false,x1,ZS (n:=i+j) (by omega),x2,TT,gI,show(i+j) / 2<d.size by omega,show mid+m-1-(i+j) / 2<d.size by omega,hc,Option.bind_some,U7,av (n:=(i+j) / 2) (by omega)];cases NY l d[mid+m-1-(i+j) / 2]! d[(i+j) / 2]! <;> rfl) (fun i=>by
    unfold JH;simp only[RU,Nat.lt_irrefl,decide_false,cond_false]) 256 lo hi big (by omega) (aT (by omega)) (Nat.le_refl _) l2 (Nat.le_refl _) (.inl rfl) (.inl rfl)
   have e6:aa .sub .i64 ((mid+m:Nat):Int) (s:Int)=((mid+m-s:Nat):Int):=sS (by omega) (by omega);obtain⟨d',k1,k2,k3⟩:=aa3 fY d a m b mid s (mid+m-s) lo hi (by omega) (by omega) hM hb hd ho s1 s2 ac1 hlo hhi i1 i2 rfl (i3.imp id fun h=>by simpa using h) (i4.imp id fun h=>by simpa using h);refine⟨d',?_,k2,k3⟩;rw[<-k1];unfold rm;by_cases q:m>mid
   ·simp only[q,if_true]at hlo hhi;have x1:aa .sub .i64 ((mid+m:Nat):Int) (b:Int)=((mid+m-b:Nat):Int):=sS (by omega) (by omega);rw[hlo,hhi]at hs;have hs':IY rec ((a:Int),(m:Int),(b:Int),l,(mid:Int),((mid+m:Nat):Int),((mid+m-1:Nat):Int),()) (d.toList,((mid+m-b:Nat):Int),(mid:Int),())=_:=hs;simp only[e0,n1,cond_false,e1,n2,z,e2,e3,Xj,q,decide_true,cond_true,e4,e5,x1,hs',Option.bind_some,Sum.elim_inl,e6];rfl
   ·simp only[q,if_false]at hlo hhi;rw[hlo,hhi]at hs;have hs':IY rec ((a:Int),(m:Int),(b:Int),l,(mid:Int),((mid+m:Nat):Int),((mid+m-1:Nat):Int),()) (d.toList,(a:Int),(m:Int),())=_:=hs;simp only[e0,n1,cond_false,e1,n2,z,e2,e3,Xj,q,decide_false,e4,e5,hs',Option.bind_some,Sum.elim_inl,e6];rfl
theorem abY(l:List Ev):∀F,Xh l (IZ F) F:=by
 intro F;induction F with
 |zero=>intro d a m b h;omega
 |succ F ih=>intro d a m b h ham hmb hb hd ho s1 s2;exact aao l ih d a m b (by omega) ham hmb hb hd ho s1 s2
theorem Yf(l:List Ev)(d:Array Int)(a m b:Nat)(ham:a<m)(hmb:m<b)(hb:b<=d.size)(hd:d.size<=255)(ho:Yv l d)(s1:SortedIn (NY l) a m d)(s2:SortedIn (NY l) m b d):∃d',Jc d.toList (a:Int) (m:Int) (b:Int) l=some (d'.toList,())/\PermIn a b d d'/\SortedIn (NY l) a b d':=abY l big d a m b (aT (by omega)) ham hmb hb hd ho s1 s2
end Go.Fn
set_option linter.unusedSimpArgs false
set_option linter.unusedVariables false
namespace Go.Fn
open Go.R Go.Sort
noncomputable def Blk(l:List Ev)(w a:Nat)(d:Array Int):Prop:=∀i j,i<j->j<a->i / w=j / w->NY l d[j]! d[i]! = false
theorem ab9(l:List Ev)(n:Nat)(hn:n<=60):∀(s a:Nat) (d:Array Int) (f:Nat),n-a<=s->a % 20=0->a<=n->d.size=n->Yv l d->Blk l 20 a d->s<f ->
  ∃(d':Array Int) (a':Nat),iter (I7 ((n:Int),l,(20:Int),())) f (d.toList,(a:Int),((a+20:Nat):Int),())=some (.inl (d'.toList,(a':Int),()))/\PermIn 0 n d d'/\a' % 20=0/\a'<=n/\n<a'+20/\Blk l 20 a' d':=by
 intro s;induction s with
 |zero=>
  intro a d f hs ha han hd ho hb hf;obtain⟨f,rfl⟩:∃m,f=m+1:=⟨f-1,by omega⟩
  refine⟨d,a,ay ?_,permIn_refl _ _ _,ha,han,by omega,hb⟩;unfold I7;simp only[XC,show ¬(a+20<=n)by omega,decide_false,cond_false]
 |succ s ih=>
  intro a d f hs ha han hd ho hb hf;obtain⟨f,rfl⟩:∃m,f=m+1:=⟨f-1,by omega⟩
  by_cases h:a+20<=n
  ·obtain⟨d1,k1,k2,k3⟩:=acz l d a (a+20) ho (by omega) (by omega) (by omega);obtain⟨d',a',m1,m2,m3,m4,m5,m6⟩:=ih (a+20) d1 f (by omega) (by omega) h (by rw[k2.1];exact hd) (ho.perm (by omega) k2) (fun i j h1 h2 h3=>by
    by_cases q:j<a
    ·rw[k2.2.1 i (.inl (by omega)),k2.2.1 j (.inl q)];exact hb i j h1 q h3
    ·exact k3 i j (by omega) h1 h2) (by omega)
   refine⟨d',a',?_,permIn_trans _ _ _ 0 n (permIn_mono _ _ a (a+20) 0 n (Nat.zero_le _) h (by omega) k2) m2,m3,m4,m5,m6⟩;rw[<-m1];refine aH ?_;unfold I7;have e1:aa .add .i64 ((a+20:Nat):Int) (20:Int)=((a+20+20:Nat):Int):=aS (m:=20) (by omega);simp only[XC,h,decide_true,cond_true,k1,Option.bind_some,e1]
  ·refine⟨d,a,ay ?_,permIn_refl _ _ _,ha,han,by omega,hb⟩;unfold I7;simp only[XC,h,decide_false,cond_false]
theorem acd(l:List Ev)(n:Nat)(hn:n<=60):∀(s a:Nat) (d:Array Int) (f:Nat),n-a<=s->a % 40=0->a<=n->d.size=n->Yv l d->Blk l 40 a d->(∀i j,a<=i->i<j->j<n->i / 20=j / 20->NY l d[j]! d[i]! = false)->s<f ->
  ∃(d':Array Int) (a':Nat),iter (Ix ((n:Int),l,(20:Int),())) f (d.toList,(a:Int),((a+40:Nat):Int),())=some (.inl (d'.toList,(a':Int),()))/\PermIn 0 n d d'/\a' % 40=0/\a'<=n/\n<a'+40/\Blk l 40 a' d'/\(∀i j,a'<=i->i<j->j<n->i / 20=j / 20->NY l d'[j]! d'[i]! = false):=by
 intro s;induction s with
 |zero=>
  intro a d f hs ha han hd ho hb hr hf;obtain⟨f,rfl⟩:∃m,f=m+1:=⟨f-1,by omega⟩
  refine⟨d,a,ay ?_,permIn_refl _ _ _,ha,han,by omega,hb,hr⟩;unfold Ix;simp only[XC,show ¬(a+40<=n)by omega,decide_false,cond_false]
 |succ s ih=>
  intro a d f hs ha han hd ho hb hr hf;obtain⟨f,rfl⟩:∃m,f=m+1:=⟨f-1,by omega⟩
  by_cases h:a+40<=n
  ·obtain⟨d1,k1,k2,k3⟩:=Yf l d a (a+20) (a+40) (by omega) (by omega) (by omega) (by omega) ho (fun i j h1 h2 h3=>hr i j h1 h2 (by omega) (by omega)) (fun i j h1 h2 h3=>hr i j (by omega) h2 (by omega) (by omega));obtain⟨d',a',m1,m2,m3,m4,m5,m6,m7⟩:=ih (a+40) d1 f (by omega) (by omega) h (by rw[k2.1];exact hd) (ho.perm (by omega) k2) (fun i j h1 h2 h3=>by
    by_cases q:j<a
    ·rw[k2.2.1 i (.inl (by omega)),k2.2.1 j (.inl q)];exact hb i j h1 q h3
    ·exact k3 i j (by omega) h1 h2) (fun i j h0 h1 h2 h3=>by
    rw[k2.2.1 i (.inr (by omega)),k2.2.1 j (.inr (by omega))];exact hr i j (by omega) h1 h2 h3) (by omega)
   refine⟨d',a',?_,permIn_trans _ _ _ 0 n (permIn_mono _ _ a (a+40) 0 n (Nat.zero_le _) h (by omega) k2) m2,m3,m4,m5,m6,m7⟩;rw[<-m1];refine aH ?_;unfold Ix;have e0:aa .add .i64 (a:Int) (20:Int)=((a+20:Nat):Int):=aS (m:=20) (by omega);have e1:aa .add .i64 ((a+40:Nat):Int) (aa .mul .i64 (2:Int) (20:Int))=((a+40+40:Nat):Int):=by rw[show aa .mul .i64 (2:Int) (20:Int)=((40:Nat):Int)from mS (n:=2) (m:=20) (by omega)];exact aS (by omega)
   simp only[XC,h,decide_true,cond_true,e0,k1,Option.bind_some,e1]
  ·refine⟨d,a,ay ?_,permIn_refl _ _ _,ha,han,by omega,hb,hr⟩;unfold Ix;simp only[XC,h,decide_false,cond_false]
theorem abi(l:List Ev)(d:Array Int)(n:Nat)(hn:n<=60)(hd:d.size=n)(ho:Yv l d):∃d',Jj d.toList (n:Int) l=some (d'.toList,())/\PermIn 0 n d d'/\SortedIn (NY l) 0 n d':=by
 obtain⟨d1,a1,k1,k2,k3,k4,k5,k6⟩:=ab9 l n hn 60 0 d big (by omega) rfl (Nat.zero_le _) hd ho (fun i j _ h=>by omega) (aT (by omega));have z1:d1.size=n:=by rw[k2.1];exact hd
 have Bw:=ho.perm (by omega) k2;obtain⟨d2,m1,m2,m3⟩:=acz l d1 a1 n Bw k4 (by omega) (by omega);have z2:d2.size=n:=by rw[m2.1];exact z1
 have uw:=Bw.perm (by omega) m2;have p2:=permIn_trans _ _ _ 0 n k2 (permIn_mono _ _ a1 n 0 n (Nat.zero_le _) (Nat.le_refl _) (by omega) m2);have b2:∀i j,0<=i->i<j->j<n->i / 20=j / 20->NY l d2[j]! d2[i]! = false:=fun i j _ h1 h2 h3=>by
  by_cases q:j<a1
  ·rw[m2.2.1 i (.inl (by omega)),m2.2.1 j (.inl q)];exact k6 i j h1 q h3
  ·exact m3 i j (by omega) h1 h2
 have st:KB ((n:Int),l,(20:Int),()) (d.toList,(0:Int),(20:Int),())=_:=k1;unfold Jj;simp only[st,Option.bind_some,Sum.elim_inl,m1];unfold KC;by_cases q20:20<n
 ·obtain⟨d3,a3,r1,r2,r3,r4,r5,r6,r7⟩:=acd l n hn 60 0 d2 big (by omega) rfl (Nat.zero_le _) z2 uw (fun i j _ h=>by omega) b2 (aT (by omega));have z3:d3.size=n:=by rw[r2.1];exact z2
  have ho3:=uw.perm (by omega) r2;have st4:JQ ((n:Int),l,(20:Int),()) (d2.toList,(0:Int),aa .mul .i64 (2:Int) (20:Int),())=_:=r1;have e40:aa .mul .i64 (20:Int) (2:Int)=((40:Nat):Int):=mS (n:=20) (m:=2) (by omega);have ea:aa .add .i64 (a3:Int) (20:Int)=((a3+20:Nat):Int):=aS (m:=20) (by omega);have g20:af .lss (20:Int) (n:Int)=true:=(RU 20 n).trans (decide_eq_true q20);obtain⟨d4,s1,s2,s3⟩:∃d4:Array Int,m0 ((n:Int),l,()) (d2.toList,(20:Int),())=some (.inl (d4.toList,((40:Nat):Int),()))/\PermIn 0 n d2 d4/\Blk l 40 n d4:=by
   by_cases q:a3+20<n
   ·obtain⟨d4,t1,t2,t3⟩:=Yf l d3 a3 (a3+20) n (by omega) q (by omega) (by omega) ho3 (fun i j h1 h2 h3=>r7 i j h1 h2 (by omega) (by omega)) (fun i j h1 h2 h3=>r7 i j (by omega) h2 (by omega) (by omega));refine⟨d4,?_,permIn_trans _ _ _ 0 n r2 (permIn_mono _ _ a3 n 0 n (Nat.zero_le _) (Nat.le_refl _) (by omega) t2),fun i j h1 h2 h3=>?_⟩
    ·unfold m0;simp only[g20,cond_true,st4,Option.bind_some,Sum.elim_inl,ea,RU,q,decide_true,t1,e40]
    ·by_cases q':j<a3
     ·rw[t2.2.1 i (.inl (by omega)),t2.2.1 j (.inl q')];exact r6 i j h1 q' h3
     ·exact t3 i j (by omega) h1 h2
   ·refine⟨d3,?_,r2,fun i j h1 h2 h3=>?_⟩
    ·unfold m0;simp only[g20,cond_true,st4,Option.bind_some,Sum.elim_inl,ea,RU,q,decide_false,cond_false,e40]
    ·by_cases q':j<a3
     ·exact r6 i j h1 q' h3
     ·exact r7 i j (by omega) h1 h2 (by omega)
  have z4:d4.size=n:=by rw[s2.1];exact z2
  have ho4:=uw.perm (by omega) s2;by_cases q40:40<n
  ·have st5:JQ ((n:Int),l,((40:Nat):Int),()) (d4.toList,(0:Int),aa .mul .i64 (2:Int) ((40:Nat):Int),())=some (.inl (d4.toList,(0:Int),())):=by
    refine bF (n:=1) (ay ?_) (Nat.le_of_lt (aT (by omega)));have e80:aa .mul .i64 (2:Int) ((40:Nat):Int)=((80:Nat):Int):=mS (n:=2) (m:=40) (by omega);unfold Ix;simp only[e80,XC,show ¬(80<=n)by omega,decide_false,cond_false]
   obtain⟨d5,t1,t2,t3⟩:=Yf l d4 0 40 n (by omega) q40 (by omega) (by omega) ho4 (fun i j h1 h2 h3=>s3 i j h2 (by omega) (by omega)) (fun i j h1 h2 h3=>s3 i j h2 (by omega) (by omega));refine⟨d5,?_,permIn_trans _ _ _ 0 n p2 (permIn_trans _ _ _ 0 n s2 t2),t3⟩;have it:iter (m0 ((n:Int),l,())) 3 (d2.toList,(20:Int),())=some (.inl (d5.toList,())):=by
    have e0:aa .add .i64 (0:Int) ((40:Nat):Int)=((40:Nat):Int):=by rw[show(0:Int)=((0:Nat):Int)from rfl,aS (by omega)]
    have e80:aa .mul .i64 ((40:Nat):Int) (2:Int)=((80:Nat):Int):=mS (n:=40) (m:=2) (by omega);have FY:Jc d4.toList (0:Int) ((40:Nat):Int) (n:Int) l=_:=t1;rw[aH s1,aH (y:=(d5.toList,((80:Nat):Int),())) (by unfold m0;simp only[RU,q40,decide_true,cond_true,st5,Option.bind_some,Sum.elim_inl,e0,FY,e80])];refine ay ?_;unfold m0;simp only[RU,show ¬(80<n)by omega,decide_false,cond_false]
   rw[bF it (Nat.le_of_lt (aT (by omega)))];rfl
  ·refine⟨d4,?_,permIn_trans _ _ _ 0 n p2 s2,fun i j h1 h2 h3=>s3 i j h2 h3 (by omega)⟩;have it:iter (m0 ((n:Int),l,())) 2 (d2.toList,(20:Int),())=some (.inl (d4.toList,())):=by rw[aH s1];refine ay ?_;unfold m0;simp only[RU,q40,decide_false,cond_false]
   rw[bF it (Nat.le_of_lt (aT (by omega)))];rfl
 ·refine⟨d2,?_,p2,fun i j h1 h2 h3=>b2 i j (Nat.zero_le _) h2 h3 (by omega)⟩;have it:iter (m0 ((n:Int),l,())) 1 (d2.toList,(20:Int),())=some (.inl (d2.toList,())):=by refine ay ?_;have g20:af .lss (20:Int) (n:Int)=false:=(RU 20 n).trans (decide_eq_false q20);unfold m0;simp only[g20,cond_false]
  rw[bF it (Nat.le_of_lt (aT (by omega)))];rfl
theorem Wc{α:Type}{lt:α->α->Prop}(irr:∀x,¬lt x x)(asy:∀x y,lt x y -> ¬lt y x):∀ {l m:List α},l.Pairwise lt->m.Pairwise lt->(∀x,x∈l↔x∈m)->l=m
 | [],[],_,_,_=>rfl
 | [],y::m,_,_,h=>absurd ((h y).2 (List.mem_cons_self ..)) (List.not_mem_nil)
 |x::l,[],_,_,h=>absurd ((h x).1 (List.mem_cons_self ..)) (List.not_mem_nil)
 |x::l,y::m,hl,hm,h=>by
  have hl':=List.pairwise_cons.1 hl;have hm':=List.pairwise_cons.1 hm;have hxy:x=y:=by
   rcases List.mem_cons.1 ((h x).1 (List.mem_cons_self ..))with e|h1
   ·exact e
   ·rcases List.mem_cons.1 ((h y).2 (List.mem_cons_self ..))with e|h2
    ·exact e.symm
    ·exact absurd (hl'.1 y h2) (asy _ _ (hm'.1 x h1))
  subst hxy;congr 1;refine Wc irr asy hl'.2 hm'.2 fun z=>⟨fun hz=>?_,fun hz=>?_⟩
  ·rcases List.mem_cons.1 ((h z).1 (List.mem_cons_of_mem _ hz))with e|h1
   ·subst e;exact absurd (hl'.1 z hz) (irr z)
   ·exact h1
  ·rcases List.mem_cons.1 ((h z).2 (List.mem_cons_of_mem _ hz))with e|h1
   ·subst e;exact absurd (hm'.1 z hz) (irr z)
   ·exact h1
noncomputable def MF(n:Nat):List Int:=(List.range n).map fun i:Nat=>(i:Int)
theorem Wa(n:Nat):(MF n).length=n:=by simp[MF]
theorem W2{α:Type}{d:Array α}{n:Nat}(h:d.size=n):d.extract 0 n=d:=by subst h;exact Array.extract_size
theorem Y3(n:Nat):MF (n+1)=MF n++[(n:Int)]:=by unfold MF;rw[List.range_succ,List.map_append];rfl
theorem Wb{n:Nat}{x:Int}:x∈MF n↔0<=x/\x<n:=by
 unfold MF;rw[List.mem_map];constructor
 ·rintro⟨k,hk,rfl⟩;have:=List.mem_range.1 hk;omega
 ·intro h;exact⟨x.toNat,List.mem_range.2 (by omega),by omega⟩
theorem Ye{l:List Ev}(h:QH l=true){i j:Nat}(hij:i<j)(hj:j<l.length)(hs:(l.getD i bf).2.2.1=(l.getD j bf).2.2.1):NY l (i:Int) (j:Int)=true:=by
 have hp:=(ZV.1 h).2.2;rw[List.pairwise_iff_getElem]at hp;have:=hp i j (by omega) hj hij;rw[<-getD_eq (show i<l.length by omega) bf,<-getD_eq hj bf]at this;obtain⟨h1,h2⟩:=this;unfold NY;rw[Int.toNat_natCast,Int.toNat_natCast,Uz];rw[M8]at h1;by_cases e:(l.getD i bf).1=(l.getD j bf).1
 ·have:=h2 e;omega
 ·omega
theorem aan{l:List Ev}(h:QH l=true){x y:Int}(hx:0<=x/\x<l.length)(hy:0<=y/\y<l.length)(hne:x≠y)(hn:NY l y x=false):NY l x y=true:=by
 obtain⟨i,rfl⟩:∃n:Nat,x=(n:Int):=⟨x.toNat,by omega⟩
 obtain⟨j,rfl⟩:∃n:Nat,y=(n:Int):=⟨y.toNat,by omega⟩
 by_cases hs:(l.getD i bf).2.2.1=(l.getD j bf).2.2.1
 ·by_cases hij:i<j
  ·exact Ye h hij (by omega) hs
  ·rw[Ye h (i:=j) (j:=i) (by omega) (by omega) hs.symm]at hn;cases hn
 ·unfold NY at hn⊢;rw[Int.toNat_natCast,Int.toNat_natCast]at hn⊢;rw[Zv]at hn;rw[Uz];omega
noncomputable def YE(l:List Ev)(r:List Int):Prop:=(∀x,x∈r↔0<=x/\x<l.length)/\r.Pairwise (fun x y=>NY l x y=true)
theorem aat{l:List Ev}{r s:List Int}(h1:YE l r)(h2:YE l s):r=s:=Wc (lt:=fun x y=>NY l x y=true) (fun x h=>by rw[(TH l).irrefl]at h;cases h) (fun x y h h'=>by rw[(TH l).asymm h]at h';cases h') h1.2 h2.2 fun x=>by rw[h1.1,h2.1]
theorem YW(l:List Ev)(h:QH l = true):∃r, Jp (MF l.length) l = some (r, ()) /\ YE l r:=by
  have hl:=NT h;have hsz:(MF l.length).toArray.size = l.length:=by simp[MF]
  have ho:Yv l (MF l.length).toArray:=fun k hk=>by
    have:(MF l.length).toArray[k]! ∈ MF l.length:=by rw[getElem!_pos _ k hk, List.getElem_toArray]; exact List.getElem_mem _
    exact Wb.1 this
  obtain⟨d', h1, h2, h3⟩:=abi l (MF l.length).toArray l.length hl hsz ho;have hz:d'.size = l.length:=by rw[h2.1, hsz]
  have hp:d'.toList.Perm (MF l.length):=by have:=h2.2.2;rw[W2 hz, W2 hsz]at this;exact this
  refine⟨d'.toList, ?_, fun x=>by rw[hp.mem_iff, Wb], ?_⟩
  · unfold Jp
    have e:ai (MF l.length) = (l.length:Int):=by unfold ai; rw[Wa]
    rw[e, show Jj (MF l.length) (l.length:Int) l = _ from h1];rfl
  · have hnd:(MF l.length).Pairwise (· ≠ ·):=by
      unfold MF;rw[List.pairwise_map];exact List.pairwise_lt_range.imp fun {a b} h=>by omega
    have afr:d'.toList.Pairwise (· ≠ ·):=(hp.pairwise_iff (fun {a b} h=>Ne.symm h)).2 hnd;rw[List.pairwise_iff_getElem]at afr⊢;intro i j hi hj hij;have hi':i<d'.size:=by simpa using hi
    have hj':j<d'.size:=by simpa using hj
    have k1:=h3 i j (Nat.zero_le _) hij (by omega);rw[getElem!_pos d' i hi', getElem!_pos d' j hj']at k1;have ok:=ho.perm (by omega) h2;have oi:=ok i hi';have oj:=ok j hj';rw[getElem!_pos d' i hi']at oi;rw[getElem!_pos d' j hj']at oj;exact aan h oi oj (afr i j hi hj hij) k1
end Go.Fn

