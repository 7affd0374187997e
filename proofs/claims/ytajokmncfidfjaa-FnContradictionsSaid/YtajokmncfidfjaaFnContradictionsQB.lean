import Derived.Test.YtajokmncfidfjaaFnContradictionsQA
/- Plain functions that stand for Go functions, and what they answer. Conditions: none. -/
set_option autoImplicit false
set_option linter.unusedVariables false
set_option linter.unusedSimpArgs false
set_option linter.unusedSimpArgs false
set_option linter.unusedVariables false
namespace Go.Fn
open Go.R Go.Sort
section
variable {α:Type} [Inhabited α] {lt:α->α->Bool}
theorem Ox(lt:α->α->Bool)(hi first root:Nat)(d:Array α):(siftDown lt hi first root d).size=d.size:=O3 lt hi first (hi-root) root d (Nat.le_refl _)
theorem UH(n:Nat):af .geq (n:Int) (0:Int)=true:=by simp[af]
theorem SM:af .geq (-1:Int) (0:Int)=false:=rfl
theorem OR {X Y S:Type} {body:X->Option (X⊕Y)} (st:S->Int->X) (fin:S->Y) (f:Nat->S->S) (Inv:S->Prop) (top:Nat) (Vx:top<=1000)
  (hs:∀i s,i<top->Inv s->body (st s (i:Int))=some (.inl (st (f i s) (aa .sub .i64 (i:Int) 1)))/\Inv (f i s)) (he:∀s,body (st s (-1))=some (.inr (fin s))):
  ∀(k:Nat) (s:S) (n:Nat),k<=top->k<n->Inv s->iter body n (st s ((k:Int)-1))=some (fin (k.rec (motive:=fun _=>S->S) (fun s=>s) (fun k r s=>r (f k s)) s)):=by
 intro k;induction k with
 |zero=>
  intro s n _ hn _;obtain⟨n,rfl⟩:∃m,n=m+1:=⟨n-1,by omega⟩
  exact av (he s)
 |succ k ih=>
  intro s n hk hn hi;obtain⟨n,rfl⟩:∃m,n=m+1:=⟨n-1,by omega⟩
  obtain⟨h1,h2⟩:=hs k s (by omega) hi;rw[show((k+1:Nat):Int)-1=(k:Int)by omega,aF h1];have e:aa .sub .i64 (k:Int) 1=(k:Int)-1:=bM (by omega) (by omega);rw[e];exact ih (f k s) n (by omega) (by omega) h2
theorem N9(hi first:Nat):∀k (d:Array α),heapBuild lt hi first k d=k.rec (motive:=fun _=>Array α->Array α) (fun s=>s) (fun k r s=>r (siftDown lt hi first k s)) d
 |0,_=>rfl
 |k+1,d=>by rw[heapBuild,N9 hi first k]
theorem OA(first:Nat):∀k (d:Array α),heapPop lt first k d=k.rec (motive:=fun _=>Array α->Array α) (fun s=>s) (fun k r s=>r (siftDown lt k first 0 (swp s first (first+k)))) d
 |0,_=>rfl
 |k+1,d=>by rw[heapPop,OA first k]
theorem NU(hi first:Nat):∀k (d:Array α),(heapBuild lt hi first k d).size=d.size
 |0,_=>rfl
 |k+1,d=>by rw[heapBuild,NU hi first k,Ox]
theorem Q2(d:Array α)(a b:Nat)(hab:a<b)(hb:b<=d.size)(hd:d.size<=255):M5 lt d.toList (a:Int) (b:Int)=some ((heapSort lt d a b).toList,()):=by
 unfold M5 MJ MK heapSort;have z:az (2:Int)=false:=rfl;have e1:aa .sub .i64 (b:Int) (a:Int)=((b-a:Nat):Int):=sS (by omega) (by omega);have e2:aa .sub .i64 ((b-a:Nat):Int) 1=((b-a-1:Nat):Int):=sS (m:=1) (by omega) (by omega);have e3:aa .quo .i64 ((b-a-1:Nat):Int) (2:Int)=(((b-a-1) / 2:Nat):Int):=qS _ 2 (by omega);have hq:(b-a-1) / 2<=255:=by omega
 have l0:=OR (body:=LO lt ((a:Int),(0:Int),((b-a:Nat):Int),())) (fun(s:Array α) (i:Int)=>(s.toList,i,())) (fun s=>.inl (s.toList,())) (fun i s=>siftDown lt (b-a) a i s) (fun s=>s.size=d.size) ((b-a-1) / 2+1) (by omega) (fun i s hi hs=>⟨by
  unfold LO;simp only[UH,cond_true,PL (lt:=lt) s i (b-a) a (by omega) (by omega) (by omega),Option.bind_some],by rw[Ox];exact hs⟩) (fun s=>by
  unfold LO;simp only[SM,cond_false]) ((b-a-1) / 2+1) d big (by omega) (aN (by omega)) rfl
 rw[<-N9,show(((b-a-1) / 2+1:Nat):Int)-1=(((b-a-1) / 2:Nat):Int)by omega]at l0;have l2:=OR (body:=LP lt ((a:Int),(0:Int),())) (fun(s:Array α) (i:Int)=>(s.toList,i,())) (fun s=>.inl (s.toList,())) (fun i s=>siftDown lt i a 0 (swp s a (a+i))) (fun s=>s.size=d.size) (b-a) (by omega) (fun i s hi hs=>⟨by
  unfold LP;have e4:aa .add .i64 (a:Int) (i:Int)=((a+i:Nat):Int):=aS (by omega);have e5:=PL (lt:=lt) (swp s a (a+i)) 0 i a (by rw[size_swp];omega) (by omega) (by rw[size_swp];omega);simp only[UH,cond_true,e4,N4,gA,O0,Pc,show a+i<s.size by omega,show a<s.size by omega,decide_true];rw[show(0:Int)=((0:Nat):Int)from rfl,e5];rfl,by rw[Ox,size_swp];exact hs⟩) (fun s=>by
  unfold LP;simp only[SM,cond_false]) (b-a) (heapBuild lt (b-a) a ((b-a-1) / 2+1) d) big (Nat.le_refl _) (aN (by omega)) (NU _ _ _ _)
 rw[<-OA,show((b-a:Nat):Int)-1=((b-a-1:Nat):Int)by omega]at l2;have hbd:heapBuild lt (b-a) a ((b-a-1) / 2) (siftDown lt (b-a) a ((b-a-1) / 2) d)=heapBuild lt (b-a) a ((b-a-1) / 2+1) d:=rfl;simp only[z,cond_false,e1,e2,e3,l0,Option.bind_some,Sum.elim_inl,hbd,l2]
theorem Qk{X Y:Type}{body:X->Option (X⊕Y)}(st:Nat->X)(fin:Nat->Y)(p:α->Bool)(d:Array α)(j:Nat)(hs:∀i,i<=256->body (st i)=some (bif decide (i<=j)&&p d[i]! then .inl (st (i+1))else .inr (fin i)))(hj:j<=255):
  ∀(k i n:Nat),j+1-i<=k->i<=256->k<n->iter body n (st i)=some (fin (scanUp p d j i)):=by
 intro k;induction k with
 |zero=>
  intro i n hk hi hn;obtain⟨n,rfl⟩:∃m,n=m+1:=⟨n-1,by omega⟩
  have h:¬(i<=j):=by omega
  unfold scanUp;simp only[h,decide_false,Bool.false_and,Bool.false_eq_true,if_false];refine av ?_;rw[hs i hi];simp only[h,decide_false,Bool.false_and,cond_false]
 |succ k ih=>
  intro i n hk hi hn;obtain⟨n,rfl⟩:∃m,n=m+1:=⟨n-1,by omega⟩
  unfold scanUp;have h1:=hs i hi;cases hc:(decide (i<=j)&&p d[i]!)with
  |true=>rw[hc]at h1;have:i<=j:=of_decide_eq_true (Bool.and_eq_true _ _▸hc).1;simp only[if_true];rw[aF h1];exact ih (i+1) n (by omega) (by omega) (by omega)
  |false=>rw[hc]at h1;simp only[Bool.false_eq_true,if_false];exact av h1
theorem Pb{X Y:Type}{body:X->Option (X⊕Y)}(st:Nat->X)(fin:Nat->Y)(p:α->Bool)(d:Array α)(i:Nat)(hi:0<i)(hs:∀j,j<=255->j<d.size->body (st j)=some (bif decide (i<=j)&&p d[j]! then .inl (st (j-1))else .inr (fin j))):
  ∀(j n:Nat),j<d.size->j<=255->j<n->iter body n (st j)=some (fin (scanDown p d i j)):=by
 intro j;induction j with
 |zero=>
  intro n hj Ss hn;obtain⟨n,rfl⟩:∃m,n=m+1:=⟨n-1,by omega⟩
  refine av ?_;rw[hs 0 (by omega) hj];simp only[show ¬(i<=0)by omega,decide_false,Bool.false_and,cond_false,scanDown]
 |succ j ih=>
  intro n hj Ss hn;obtain⟨n,rfl⟩:∃m,n=m+1:=⟨n-1,by omega⟩
  unfold scanDown;have h1:=hs (j+1) Ss hj;cases hc:(decide (i<=j+1)&&p d[j+1]!)with
  |true=>rw[hc]at h1;simp only[if_true];rw[aF h1];exact ih n (by omega) (by omega) (by omega)
  |false=>rw[hc]at h1;simp only[Bool.false_eq_true,if_false];exact av h1
section
variable (d:Array α) (a:Nat) (hd:d.size<=255) (ha:a<d.size)
include hd ha
theorem UW(j i:Nat)(hj:j<d.size)(hi:i<=256):Mp lt ((a:Int),(j:Int),()) (d.toList,(i:Int),())=some (.inl (d.toList,((scanUp (fun x=>lt x d[a]!) d j i:Nat):Int),())):=by
 refine Qk (body:=LX lt ((a:Int),(j:Int),())) (fun i=>(d.toList,(i:Int),())) (fun i=>Sum.inl (d.toList,(i:Int),())) (fun x=>lt x d[a]!) d j (fun i hi=>?_) (by omega) 256 i big (by omega) hi (aN (by omega));unfold LX;by_cases h:i<=j
 ·simp only[Qg,h,decide_true,cond_true,N4,gA,show i<d.size by omega,ha,Option.bind_some,Bool.true_and,au (n:=i) (by omega)];cases lt d[i]! d[a]! <;> rfl
 ·simp only[Qg,h,decide_false,cond_false,Bool.false_and]
theorem TF(j i:Nat)(hj:j<d.size)(hi:i<=256):Ms lt ((a:Int),(j:Int),()) (d.toList,(i:Int),())=some (.inl (d.toList,((scanUp (fun x=>lt x d[a]!) d j i:Nat):Int),())):=UW d a hd ha j i hj hi
theorem UX(i j:Nat)(hi:0<i)(hj:j<d.size):Mq lt ((a:Int),(i:Int),()) (d.toList,(j:Int),())=some (.inl (d.toList,((scanDown (fun x=>!lt x d[a]!) d i j:Nat):Int),())):=by
 refine Pb (body:=LY lt ((a:Int),(i:Int),())) (fun i=>(d.toList,(i:Int),())) (fun i=>Sum.inl (d.toList,(i:Int),())) (fun x=>!lt x d[a]!) d i hi (fun j hj Ss=>?_) j big hj (by omega) (aN (by omega));unfold LY;by_cases h:i<=j
 ·have e:aa .sub .i64 (j:Int) 1=((j-1:Nat):Int):=sS (m:=1) (by omega) (by omega);simp only[Qg,h,decide_true,cond_true,N4,gA,Ss,ha,Option.bind_some,Bool.true_and,e];cases lt d[j]! d[a]! <;> rfl
 ·simp only[Qg,h,decide_false,cond_false,Bool.false_and]
theorem TG(i j:Nat)(hi:0<i)(hj:j<d.size):Mt lt ((a:Int),(i:Int),()) (d.toList,(j:Int),())=some (.inl (d.toList,((scanDown (fun x=>!lt x d[a]!) d i j:Nat):Int),())):=UX d a hd ha i j hi hj
theorem TD(j i:Nat)(hj:j<d.size)(hi:i<=256):Ls lt ((a:Int),(j:Int),()) (d.toList,(i:Int),())=some (.inl (d.toList,((scanUp (fun x=>!lt d[a]! x) d j i:Nat):Int),())):=by
 refine Qk (body:=La lt ((a:Int),(j:Int),())) (fun i=>(d.toList,(i:Int),())) (fun i=>Sum.inl (d.toList,(i:Int),())) (fun x=>!lt d[a]! x) d j (fun i hi=>?_) (by omega) 256 i big (by omega) hi (aN (by omega));unfold La;by_cases h:i<=j
 ·simp only[Qg,h,decide_true,cond_true,N4,gA,show i<d.size by omega,ha,Option.bind_some,Bool.true_and,au (n:=i) (by omega)];cases lt d[a]! d[i]! <;> rfl
 ·simp only[Qg,h,decide_false,cond_false,Bool.false_and]
theorem TE(i j:Nat)(hi:0<i)(hj:j<d.size):Lt lt ((a:Int),(i:Int),()) (d.toList,(j:Int),())=some (.inl (d.toList,((scanDown (fun x=>lt d[a]! x) d i j:Nat):Int),())):=by
 refine Pb (body:=Lb lt ((a:Int),(i:Int),())) (fun i=>(d.toList,(i:Int),())) (fun i=>Sum.inl (d.toList,(i:Int),())) (fun x=>lt d[a]! x) d i hi (fun j hj Ss=>?_) j big hj (by omega) (aN (by omega));unfold Lb;by_cases h:i<=j
 ·have e:aa .sub .i64 (j:Int) 1=((j-1:Nat):Int):=sS (m:=1) (by omega) (by omega);simp only[Qg,h,decide_true,cond_true,N4,gA,Ss,ha,Option.bind_some,Bool.true_and,e];cases lt d[a]! d[j]! <;> rfl
 ·simp only[Qg,h,decide_false,cond_false,Bool.false_and]
end
theorem QB(a:Nat):∀(k i j:Nat) (d:Array α) (n:Nat),j+1-i<=k->d.size<=255->a<d.size->0<i->i<=256->j<d.size->k<n->iter (KJ lt ((a:Int),())) n (d.toList,(i:Int),(j:Int),())=some (.inl ((partLoop lt a i j d).2.toList,(((partLoop lt a i j d).1:Nat):Int),())):=by
 intro k;induction k with
 |zero=>
  intro i j d n hk hd ha hi lI hj hn;obtain⟨n,rfl⟩:∃m,n=m+1:=⟨n-1,by omega⟩
  rw[partLoop_eq];have h1:=scanUp_ge (fun x=>lt x d[a]!) d j i;have h2:=scanDown_le (fun x=>!lt x d[a]!) d (scanUp (fun x=>lt x d[a]!) d j i) j;have h:scanUp (fun x=>lt x d[a]!) d j i>scanDown (fun x=>!lt x d[a]!) d (scanUp (fun x=>lt x d[a]!) d j i) j:=by omega
  rw[if_pos h];refine av ?_;unfold KJ;simp only[TF (lt:=lt) d a hd ha j i hj lI,Option.bind_some,Sum.elim_inl,TG (lt:=lt) d a hd ha (scanUp (fun x=>lt x d[a]!) d j i) j (by omega) hj,Qd,h,decide_true,cond_true]
 |succ k ih=>
  intro i j d n hk hd ha hi lI hj hn;obtain⟨n,rfl⟩:∃m,n=m+1:=⟨n-1,by omega⟩
  rw[partLoop_eq];have h1:=scanUp_ge (fun x=>lt x d[a]!) d j i;have h2:=scanDown_le (fun x=>!lt x d[a]!) d (scanUp (fun x=>lt x d[a]!) d j i) j;have hr:iter (KJ lt ((a:Int),())) (n+1) (d.toList,(i:Int),(j:Int),())=iter (KJ lt ((a:Int),())) (n+1) (d.toList,(i:Int),(j:Int),()):=rfl;by_cases h:scanUp (fun x=>lt x d[a]!) d j i>scanDown (fun x=>!lt x d[a]!) d (scanUp (fun x=>lt x d[a]!) d j i) j
  ·rw[if_pos h];refine av ?_;unfold KJ;simp only[TF (lt:=lt) d a hd ha j i hj lI,Option.bind_some,Sum.elim_inl,TG (lt:=lt) d a hd ha (scanUp (fun x=>lt x d[a]!) d j i) j (by omega) hj,Qd,h,decide_true,cond_true]
  ·rw[if_neg h];have e6:=TF (lt:=lt) d a hd ha j i hj lI;have e8:=TG (lt:=lt) d a hd ha (scanUp (fun x=>lt x d[a]!) d j i) j (by omega) hj;generalize scanDown (fun x=>!lt x d[a]!) d (scanUp (fun x=>lt x d[a]!) d j i) j=j2 at h h2 e8⊢;generalize scanUp (fun x=>lt x d[a]!) d j i=i2 at h h1 e6 e8⊢;rw[<-ih (i2+1) (j2-1) (swp d i2 j2) n (by omega) (by rw[size_swp];omega) (by rw[size_swp];omega) (by omega) (by omega) (by rw[size_swp];omega) (by omega)];refine aF ?_;have e:aa .sub .i64 (j2:Int) 1=((j2-1:Nat):Int):=sS (m:=1) (by omega) (by omega);unfold KJ;simp only[e6,Option.bind_some,Sum.elim_inl,e8,Qd,h,decide_false,cond_false,N4,gA,O0,show i2<d.size by omega,show j2<d.size by omega,decide_true,cond_true,Pc,e,au (n:=i2) (by omega)]
theorem PE(a:Nat):∀(k i j:Nat) (d:Array α) (n:Nat),j+1-i<=k->d.size<=255->a<d.size->0<i->i<=256->j<d.size->k<n->iter (Kr lt ((a:Int),())) n (d.toList,(i:Int),(j:Int),())=some (.inl ((partEqLoop lt a i j d).2.toList,(((partEqLoop lt a i j d).1:Nat):Int),())):=by
 intro k;induction k with
 |zero=>
  intro i j d n hk hd ha hi lI hj hn;obtain⟨n,rfl⟩:∃m,n=m+1:=⟨n-1,by omega⟩
  rw[partEqLoop_eq];have h1:=scanUp_ge (fun x=>!lt d[a]! x) d j i;have h2:=scanDown_le (fun x=>lt d[a]! x) d (scanUp (fun x=>!lt d[a]! x) d j i) j;have h:scanUp (fun x=>!lt d[a]! x) d j i>scanDown (fun x=>lt d[a]! x) d (scanUp (fun x=>!lt d[a]! x) d j i) j:=by omega
  rw[if_pos h];refine av ?_;unfold Kr;simp only[TD (lt:=lt) d a hd ha j i hj lI,Option.bind_some,Sum.elim_inl,TE (lt:=lt) d a hd ha (scanUp (fun x=>!lt d[a]! x) d j i) j (by omega) hj,Qd,h,decide_true,cond_true]
 |succ k ih=>
  intro i j d n hk hd ha hi lI hj hn;obtain⟨n,rfl⟩:∃m,n=m+1:=⟨n-1,by omega⟩
  rw[partEqLoop_eq];have h1:=scanUp_ge (fun x=>!lt d[a]! x) d j i;have h2:=scanDown_le (fun x=>lt d[a]! x) d (scanUp (fun x=>!lt d[a]! x) d j i) j;by_cases h:scanUp (fun x=>!lt d[a]! x) d j i>scanDown (fun x=>lt d[a]! x) d (scanUp (fun x=>!lt d[a]! x) d j i) j
  ·rw[if_pos h];refine av ?_;unfold Kr;simp only[TD (lt:=lt) d a hd ha j i hj lI,Option.bind_some,Sum.elim_inl,TE (lt:=lt) d a hd ha (scanUp (fun x=>!lt d[a]! x) d j i) j (by omega) hj,Qd,h,decide_true,cond_true]
  ·rw[if_neg h];have e6:=TD (lt:=lt) d a hd ha j i hj lI;have e8:=TE (lt:=lt) d a hd ha (scanUp (fun x=>!lt d[a]! x) d j i) j (by omega) hj;generalize scanDown (fun x=>lt d[a]! x) d (scanUp (fun x=>!lt d[a]! x) d j i) j=j2 at h h2 e8⊢;generalize scanUp (fun x=>!lt d[a]! x) d j i=i2 at h h1 e6 e8⊢;rw[<-ih (i2+1) (j2-1) (swp d i2 j2) n (by omega) (by rw[size_swp];omega) (by rw[size_swp];omega) (by omega) (by omega) (by rw[size_swp];omega) (by omega)];refine aF ?_;have e:aa .sub .i64 (j2:Int) 1=((j2-1:Nat):Int):=sS (m:=1) (by omega) (by omega);unfold Kr;simp only[e6,Option.bind_some,Sum.elim_inl,e8,Qd,h,decide_false,cond_false,N4,gA,O0,show i2<d.size by omega,show j2<d.size by omega,decide_true,cond_true,Pc,e,au (n:=i2) (by omega)]
theorem P5(d:Array α)(a b p:Nat)(hab:a<b)(hb:b<=d.size)(hd:d.size<=255)(hp:p<d.size):IL lt d.toList (a:Int) (b:Int) (p:Int)=some ((((partitionEqual lt d a b p).1:Nat):Int),(partitionEqual lt d a b p).2.toList,()):=by unfold IL Lr partitionEqual;have e:aa .sub .i64 (b:Int) 1=((b-1:Nat):Int):=sS (m:=1) (by omega) (by omega);simp only[N4,gA,O0,show a<d.size by omega,hp,decide_true,cond_true,Pc,e,au (n:=a) (by omega),PE (lt:=lt) a 256 (a+1) (b-1) (swp d a p) big (by omega) (by rw[size_swp];omega) (by rw[size_swp];omega) (by omega) (by omega) (by rw[size_swp];omega) (aN (by omega)),Option.bind_some,Sum.elim_inl]
theorem O1(a:Nat):∀(k i j:Nat) (d:Array α),j+1-i<=k->(partLoop lt a i j d).2.size=d.size/\(partLoop lt a i j d).1<=j:=by
 intro k;induction k with
 |zero=>intro i j d hk;rw[partLoop_eq];have h1:=scanUp_ge (fun x=>lt x d[a]!) d j i;have h2:=scanDown_le (fun x=>!lt x d[a]!) d (scanUp (fun x=>lt x d[a]!) d j i) j;rw[if_pos (by omega)];exact⟨rfl,h2⟩
 |succ k ih=>
  intro i j d hk;rw[partLoop_eq];have h1:=scanUp_ge (fun x=>lt x d[a]!) d j i;have h2:=scanDown_le (fun x=>!lt x d[a]!) d (scanUp (fun x=>lt x d[a]!) d j i) j;split
  ·exact⟨rfl,h2⟩
  ·obtain⟨h3,h4⟩:=ih (scanUp (fun x=>lt x d[a]!) d j i+1) (scanDown (fun x=>!lt x d[a]!) d (scanUp (fun x=>lt x d[a]!) d j i) j-1) (swp d (scanUp (fun x=>lt x d[a]!) d j i) (scanDown (fun x=>!lt x d[a]!) d (scanUp (fun x=>lt x d[a]!) d j i) j)) (by omega);exact⟨by rw[h3,size_swp],by omega⟩
theorem Q3(d:Array α)(a b p:Nat)(hab:a<b)(hb:b<=d.size)(hd:d.size<=255)(hp:p<d.size):zf lt d.toList (a:Int) (b:Int) (p:Int)=some ((((partition lt d a b p).1:Nat):Int),(partition lt d a b p).2.1,(partition lt d a b p).2.2.toList,()):=by
 unfold zf Mr partition;have e:aa .sub .i64 (b:Int) 1=((b-1:Nat):Int):=sS (m:=1) (by omega) (by omega);have hs:(swp d a p).size=d.size:=size_swp _ _ _;have e0:=UW (lt:=lt) (swp d a p) a (by omega) (by omega) (b-1) (a+1) (by omega) (by omega);have h1:=scanUp_ge (fun x=>lt x (swp d a p)[a]!) (swp d a p) (b-1) (a+1);have e2:=UX (lt:=lt) (swp d a p) a (by omega) (by omega) (scanUp (fun x=>lt x (swp d a p)[a]!) (swp d a p) (b-1) (a+1)) (b-1) (by omega) (by omega);have h2:=scanDown_le (fun x=>!lt x (swp d a p)[a]!) (swp d a p) (scanUp (fun x=>lt x (swp d a p)[a]!) (swp d a p) (b-1) (a+1)) (b-1);simp only[N4,gA,O0,show a<d.size by omega,hp,decide_true,cond_true,Pc,e,au (n:=a) (by omega),e0,e2,Option.bind_some,Sum.elim_inl];generalize scanDown (fun x=>!lt x (swp d a p)[a]!) (swp d a p) (scanUp (fun x=>lt x (swp d a p)[a]!) (swp d a p) (b-1) (a+1)) (b-1)=j2 at h2 e2⊢;generalize scanUp (fun x=>lt x (swp d a p)[a]!) (swp d a p) (b-1) (a+1)=i2 at h1 e0 e2⊢;by_cases h:i2>j2
 ·simp only[Qd,h,decide_true,cond_true,if_true,N4,gA,O0,hs,show a<d.size by omega,show j2<d.size by omega,Pc]
 ·have e3:aa .sub .i64 (j2:Int) 1=((j2-1:Nat):Int):=sS (m:=1) (by omega) (by omega);have tR:(swp (swp d a p) i2 j2).size=d.size:=by rw[size_swp,hs]
  have e4:=QB (lt:=lt) a 256 (i2+1) (j2-1) (swp (swp d a p) i2 j2) big (by omega) (by omega) (by omega) (by omega) (by omega) (by omega) (aN (by omega));obtain⟨h3,h4⟩:=O1 (lt:=lt) a 256 (i2+1) (j2-1) (swp (swp d a p) i2 j2) (by omega);simp only[Qd,h,decide_false,cond_false,if_false,N4,gA,O0,hs,show i2<d.size by omega,show j2<d.size by omega,Pc,decide_true,cond_true,e3,au (n:=i2) (by omega),e4,Option.bind_some,Sum.elim_inl,h3,tR,show a<d.size by omega,show(partLoop lt a (i2+1) (j2-1) (swp (swp d a p) i2 j2)).1<d.size by omega]
end
end Go.Fn
set_option linter.unusedSimpArgs false
set_option linter.unusedVariables false
namespace Go.Fn
open Go.R Go.Sort
section
variable {α:Type} [Inhabited α] {lt:α->α->Bool}
theorem NV:∀j (d:Array α),(shiftDown lt j d).size=d.size
 |0,_=>rfl
 |j+1,d=>by
  unfold shiftDown;split
  ·rfl
  ·rw[NV j,size_swp]
theorem Pn(b:Nat):∀(k j:Nat) (d:Array α),b-j<=k->(shiftUp lt b j d).size=d.size:=by
 intro k;induction k with
 |zero=>intro j d h;unfold shiftUp;rw[if_neg (by omega)]
 |succ k ih=>
  intro j d h;unfold shiftUp;split
  ·split
   ·rfl
   ·rw[ih (j+1) _ (by omega),size_swp]
  ·rfl
theorem O2(d:Array α)(b:Nat):∀(k i:Nat),b-i<=k->i<=scanSorted lt d b i/\(i<=b->scanSorted lt d b i<=b):=by
 intro k;induction k with
 |zero=>
  intro i h;unfold scanSorted;have:¬(i<b):=by omega
  simp only[this,decide_false,Bool.false_and,Bool.false_eq_true,if_false];exact⟨Nat.le_refl _,fun h=>h⟩
 |succ k ih=>
  intro i h;unfold scanSorted;split
  ·rename_i hc;simp only[Bool.and_eq_true,decide_eq_true_eq]at hc;have:=ih (i+1) (by omega);exact⟨by omega,fun _=>this.2 (by omega)⟩
  ·exact⟨Nat.le_refl _,fun h=>h⟩
theorem VB(d:Array α)(hd:d.size<=255)(a b j:Int)(bn:Nat)(hb:bn<=d.size):∀(k i n:Nat),bn-i<=k->0<i->i<=256->k<n->iter (JK lt (a,(bn:Int),j,())) n (d.toList,(i:Int),())=some (.inl (d.toList,((scanSorted lt d bn i:Nat):Int),())):=by
 intro k;induction k with
 |zero=>
  intro i n hk h0 hi hn;obtain⟨n,rfl⟩:∃m,n=m+1:=⟨n-1,by omega⟩
  refine av ?_;have h:¬(i<bn):=by omega
  unfold JK scanSorted;simp only[ON,h,decide_false,cond_false,Bool.false_and,Bool.false_eq_true,if_false]
 |succ k ih=>
  intro i n hk h0 hi hn;obtain⟨n,rfl⟩:∃m,n=m+1:=⟨n-1,by omega⟩
  unfold scanSorted;by_cases h:i<bn
  ·have e:aa .sub .i64 (i:Int) 1=((i-1:Nat):Int):=sS (m:=1) (by omega) (by omega);cases hl:lt d[i]! d[i-1]! with
   |true=>simp only[Bool.not_true,Bool.and_false,Bool.false_eq_true,if_false];refine av ?_;unfold JK;simp only[ON,h,decide_true,cond_true,e,N4,gA,show i<d.size by omega,show i-1<d.size by omega,Option.bind_some,hl,Bool.not_true,cond_false]
   |false=>simp only[h,Bool.not_false,Bool.and_true,decide_true,if_true];rw[<-ih (i+1) n (by omega) (by omega) (by omega) (by omega)];refine aF ?_;unfold JK;simp only[ON,h,decide_true,cond_true,e,N4,gA,show i<d.size by omega,show i-1<d.size by omega,Option.bind_some,hl,Bool.not_false,au (n:=i) (by omega)]
  ·simp only[h,decide_false,Bool.false_and,Bool.false_eq_true,if_false];refine av ?_;unfold JK;simp only[ON,h,decide_false,cond_false]
theorem VC(k:Int×Int×Int×Int×Unit):∀(j:Nat) (d:Array α) (n:Nat),j<d.size->d.size<=255->j<n->iter (Kb lt k) n (d.toList,(j:Int),())=some (.inl ((shiftDown lt j d).toList,())):=by
 intro j;induction j with
 |zero=>
  intro d n hj hd hn;obtain⟨n,rfl⟩:∃m,n=m+1:=⟨n-1,by omega⟩
  exact av rfl
 |succ j ih=>
  intro d n hj hd hn;obtain⟨n,rfl⟩:∃m,n=m+1:=⟨n-1,by omega⟩
  have e1:aa .sub .i64 ((j+1:Nat):Int) (1:Int)=(j:Int):=iD (by omega);have g:af .geq ((j+1:Nat):Int) (1:Int)=true:=(Pf (j+1) 1).trans (decide_eq_true (by omega));unfold shiftDown;cases hl:lt d[j+1]! d[j]! with
  |true=>simp only[Bool.not_true,Bool.false_eq_true,if_false];rw[<-ih (swp d (j+1) j) n (by rw[size_swp];omega) (by rw[size_swp];omega) (by omega)];refine aF ?_;unfold Kb;simp only[g,cond_true,e1,N4,gA,O0,hj,show j<d.size by omega,decide_true,Option.bind_some,hl,Bool.not_true,cond_false,Pc]
  |false=>simp only[Bool.not_false,if_true];refine av ?_;unfold Kb;simp only[g,cond_true,e1,N4,gA,O0,hj,show j<d.size by omega,decide_true,Option.bind_some,hl,Bool.not_false]
theorem VD(a b i j:Int)(bn:Nat):∀(k jn:Nat) (d:Array α) (n:Nat),bn-jn<=k->0<jn->jn<=256->bn<=d.size->d.size<=255->k<n->iter (JL lt (a,(bn:Int),i,j,())) n (d.toList,(jn:Int),())=some (.inl ((shiftUp lt bn jn d).toList,())):=by
 intro k;induction k with
 |zero=>
  intro jn d n hk h0 h1 hb hd hn;obtain⟨n,rfl⟩:∃m,n=m+1:=⟨n-1,by omega⟩
  have h:¬(jn<bn):=by omega
  unfold shiftUp;rw[if_neg h];refine av ?_;unfold JL;simp only[ON,h,decide_false,cond_false]
 |succ k ih=>
  intro jn d n hk h0 h1 hb hd hn;obtain⟨n,rfl⟩:∃m,n=m+1:=⟨n-1,by omega⟩
  unfold shiftUp;by_cases h:jn<bn
  ·have e:aa .sub .i64 (jn:Int) 1=((jn-1:Nat):Int):=sS (m:=1) (by omega) (by omega);simp only[h,if_true];cases hl:lt d[jn]! d[jn-1]! with
   |true=>simp only[Bool.not_true,Bool.false_eq_true,if_false];rw[<-ih (jn+1) (swp d jn (jn-1)) n (by omega) (by omega) (by omega) (by rw[size_swp];omega) (by rw[size_swp];omega) (by omega)];refine aF ?_;unfold JL;simp only[ON,h,decide_true,cond_true,e,N4,gA,O0,show jn<d.size by omega,show jn-1<d.size by omega,Option.bind_some,hl,Bool.not_true,cond_false,Pc,au (n:=jn) (by omega)]
   |false=>simp only[Bool.not_false,if_true];refine av ?_;unfold JL;simp only[ON,h,decide_true,cond_true,e,N4,gA,O0,show jn<d.size by omega,show jn-1<d.size by omega,Option.bind_some,hl,Bool.not_false]
  ·simp only[h,if_false];refine av ?_;unfold JL;simp only[ON,h,decide_false,cond_false]
theorem VA(a b:Nat)(hab:a<b):∀(s:Nat),s<=5->∀(i:Nat) (d:Array α) (n:Nat),a<i->i<=b->b<=d.size->d.size<=255->s<n ->
  ∃q,iter (Jh lt ((a:Int),(b:Int),())) n (d.toList,(i:Int),((5-s:Nat):Int),())=some q/\(q=.inl ((partialIns lt a b s i d).1.toList,(partialIns lt a b s i d).2,())\/((partialIns lt a b s i d).2=false/\q=.inr (.inl ((partialIns lt a b s i d).1.toList,())))):=by
 intro s;induction s with
 |zero=>
  intro hs i d n ha hi hb hd hn;obtain⟨n,rfl⟩:∃m,n=m+1:=⟨n-1,by omega⟩
  exact⟨_,av rfl,.inr ⟨rfl,rfl⟩⟩
 |succ s ih=>
  intro hs i d n ha hi hb hd hn;obtain⟨n,rfl⟩:∃m,n=m+1:=⟨n-1,by omega⟩
  have g5:af .lss ((5-(s+1):Nat):Int) (5:Int)=true:=(ON (5-(s+1)) 5).trans (decide_eq_true (by omega));have e2:KZ lt ((a:Int),(b:Int),((5-(s+1):Nat):Int),()) (d.toList,(i:Int),())=_:=VB (lt:=lt) d hd (a:Int) (b:Int) ((5-(s+1):Nat):Int) b hb 256 i big (by omega) (by omega) (by omega) (aN (by omega));have eb:aa .sub .i64 (b:Int) (a:Int)=((b-a:Nat):Int):=sS (by omega) (by omega);have es:aa .add .i64 ((5-(s+1):Nat):Int) 1=((5-s:Nat):Int):=by rw[au (by omega)];congr 1;omega
  obtain⟨h1,h2⟩:=O2 (lt:=lt) d b (b-i) i (Nat.le_refl _);have h2:=h2 hi;unfold partialIns;simp only[];generalize scanSorted lt d b i=i2 at e2 h1 h2⊢;by_cases R1:i2=b
  ·subst R1;rw[if_pos rfl];refine⟨_,av ?_,.inl rfl⟩;unfold Jh;simp only[g5,cond_true,e2,Option.bind_some,Sum.elim_inl,RK,decide_true]
  ·rw[if_neg R1];by_cases Q9:b-a<50
   ·rw[if_pos Q9];refine⟨_,av ?_,.inl rfl⟩;unfold Jh;simp only[g5,cond_true,e2,Option.bind_some,Sum.elim_inl,RK,R1,decide_false,cond_false,eb,show af .lss ((b-a:Nat):Int) (50:Int)=true from(ON (b-a) 50).trans (decide_eq_true Q9)]
   ·rw[if_neg Q9];have Tb:af .lss ((b-a:Nat):Int) (50:Int)=false:=(ON (b-a) 50).trans (decide_eq_false Q9);have em:aa .sub .i64 (i2:Int) 1=((i2-1:Nat):Int):=sS (m:=1) (by omega) (by omega);have ea:aa .sub .i64 (i2:Int) (a:Int)=((i2-a:Nat):Int):=sS (by omega) (by omega);have Tc:aa .sub .i64 (b:Int) (i2:Int)=((b-i2:Nat):Int):=sS (by omega) (by omega);have hsz:(swp d i2 (i2-1)).size=d.size:=size_swp _ _ _;have e4:K0 lt ((a:Int),(b:Int),(i2:Int),((5-(s+1):Nat):Int),()) ((swp d i2 (i2-1)).toList,((i2-1:Nat):Int),())=_:=VC (lt:=lt) ((a:Int),(b:Int),(i2:Int),((5-(s+1):Nat):Int),()) (i2-1) (swp d i2 (i2-1)) big (by omega) (by omega) (aN (by omega));have e6:∀d':Array α,d'.size=d.size->Kq lt ((a:Int),(b:Int),(i2:Int),((5-(s+1):Nat):Int),()) (d'.toList,((i2+1:Nat):Int),())=some (.inl ((shiftUp lt b (i2+1) d').toList,())):=fun d' Db=>VD (lt:=lt) (a:Int) (b:Int) (i2:Int) ((5-(s+1):Nat):Int) b 256 (i2+1) d' big (by omega) (by omega) (by omega) (by omega) (by omega) (aN (by omega));have SO:(shiftDown lt (i2-1) (swp d i2 (i2-1))).size=d.size:=by rw[NV,hsz]
    have hf:∀d':Array α,d'.size=d.size->(shiftUp lt b (i2+1) d').size=d.size:=fun d' h=>by rw[Pn b b _ _ (by omega),h]
    by_cases hA:i2-a>=2
    ·have SK:af .geq ((i2-a:Nat):Int) (2:Int)=true:=(Pf (i2-a) 2).trans (decide_eq_true hA);by_cases hB:b-i2>=2
     ·have RX:af .geq ((b-i2:Nat):Int) (2:Int)=true:=(Pf (b-i2) 2).trans (decide_eq_true hB);simp only[hA,hB,if_true];obtain⟨q,hq,l7⟩:=ih (by omega) i2 (shiftUp lt b (i2+1) (shiftDown lt (i2-1) (swp d i2 (i2-1)))) n (by omega) (by omega) (by rw[hf _ SO];omega) (by rw[hf _ SO];omega) (by omega);refine⟨q,?_,l7⟩;rw[<-hq];refine aF ?_;unfold Jh;simp only[g5,cond_true,e2,Option.bind_some,Sum.elim_inl,RK,R1,decide_false,cond_false,eb,Tb,em,N4,gA,O0,show i2<d.size by omega,show i2-1<d.size by omega,decide_true,Pc,ea,SK,e4,Tc,RX,au (n:=i2) (by omega),e6 _ SO,es]
     ·have RX:af .geq ((b-i2:Nat):Int) (2:Int)=false:=(Pf (b-i2) 2).trans (decide_eq_false hB);simp only[hA,hB,if_true,if_false];obtain⟨q,hq,l7⟩:=ih (by omega) i2 (shiftDown lt (i2-1) (swp d i2 (i2-1))) n (by omega) (by omega) (by rw[SO];omega) (by rw[SO];omega) (by omega);refine⟨q,?_,l7⟩;rw[<-hq];refine aF ?_;unfold Jh;simp only[g5,cond_true,e2,Option.bind_some,Sum.elim_inl,RK,R1,decide_false,cond_false,eb,Tb,em,N4,gA,O0,show i2<d.size by omega,show i2-1<d.size by omega,decide_true,Pc,ea,SK,e4,Tc,RX,es]
    ·have SK:af .geq ((i2-a:Nat):Int) (2:Int)=false:=(Pf (i2-a) 2).trans (decide_eq_false hA);by_cases hB:b-i2>=2
     ·have RX:af .geq ((b-i2:Nat):Int) (2:Int)=true:=(Pf (b-i2) 2).trans (decide_eq_true hB);simp only[hA,hB,if_true,if_false];obtain⟨q,hq,l7⟩:=ih (by omega) i2 (shiftUp lt b (i2+1) (swp d i2 (i2-1))) n (by omega) (by omega) (by rw[hf _ hsz];omega) (by rw[hf _ hsz];omega) (by omega);refine⟨q,?_,l7⟩;rw[<-hq];refine aF ?_;unfold Jh;simp only[g5,cond_true,e2,Option.bind_some,Sum.elim_inl,RK,R1,decide_false,cond_false,eb,Tb,em,N4,gA,O0,show i2<d.size by omega,show i2-1<d.size by omega,decide_true,Pc,ea,SK,Tc,RX,au (n:=i2) (by omega),e6 _ hsz,es]
     ·have RX:af .geq ((b-i2:Nat):Int) (2:Int)=false:=(Pf (b-i2) 2).trans (decide_eq_false hB);simp only[hA,hB,if_false];obtain⟨q,hq,l7⟩:=ih (by omega) i2 (swp d i2 (i2-1)) n (by omega) (by omega) (by rw[hsz];omega) (by rw[hsz];omega) (by omega);refine⟨q,?_,l7⟩;rw[<-hq];refine aF ?_;unfold Jh;simp only[g5,cond_true,e2,Option.bind_some,Sum.elim_inl,RK,R1,decide_false,cond_false,eb,Tb,em,N4,gA,O0,show i2<d.size by omega,show i2-1<d.size by omega,decide_true,Pc,ea,SK,Tc,RX,es]
theorem PK(d:Array α)(a b:Nat)(hab:a<b)(hb:b<=d.size)(hd:d.size<=255):JM lt d.toList (a:Int) (b:Int)=some ((partialInsertionSort lt d a b).2,(partialInsertionSort lt d a b).1.toList,()):=by
 unfold JM KY partialInsertionSort;obtain⟨q,hq,rfl|⟨h2,rfl⟩⟩:=VA (lt:=lt) a b hab 5 (Nat.le_refl _) (a+1) d big (by omega) (by omega) hb hd (aN (by omega))
 ·rw[au (n:=a) (by omega)];rw[show(0:Int)=((5-5:Nat):Int)from rfl,hq];rfl
 ·rw[au (n:=a) (by omega)];rw[show(0:Int)=((5-5:Nat):Int)from rfl,hq,h2];rfl
theorem Q0(a b:Nat):∀(k i j:Nat) (d:Array α) (n:Nat),j-i<=k->a<=i->j<b->b<=d.size->d.size<=255->i<=300->k<n->∃d',iter (KK lt ()) n (d.toList,(i:Int),(j:Int),())=some (.inl (d'.toList,()))/\PermIn a b d d':=by
 intro k;induction k with
 |zero=>
  intro i j d n hk ha hj hb hd hi hn;obtain⟨n,rfl⟩:∃m,n=m+1:=⟨n-1,by omega⟩
  refine⟨d,av ?_,permIn_refl d a b⟩;unfold KK;simp only[ON,show ¬(i<j)by omega,decide_false,cond_false]
 |succ k ih=>
  intro i j d n hk ha hj hb hd hi hn;obtain⟨n,rfl⟩:∃m,n=m+1:=⟨n-1,by omega⟩
  by_cases h:i<j
  ·obtain⟨d',h1,h2⟩:=ih (i+1) (j-1) (swp d i j) n (by omega) (by omega) (by omega) (by rw[size_swp];omega) (by rw[size_swp];omega) (by omega) (by omega);refine⟨d',?_,permIn_trans _ _ _ a b (swp_permIn d a b i j ha (by omega) (by omega) hj hb) h2⟩;rw[<-h1];refine aF ?_;have e:aa .sub .i64 (j:Int) 1=((j-1:Nat):Int):=sS (m:=1) (by omega) (by omega);unfold KK;simp only[ON,h,decide_true,cond_true,N4,gA,O0,show i<d.size by omega,show j<d.size by omega,Pc,e,au (n:=i) (by omega)]
  ·refine⟨d,av ?_,permIn_refl d a b⟩;unfold KK;simp only[ON,h,decide_false,cond_false]
theorem PM(d:Array α)(a b:Nat)(hab:a<b)(hb:b<=d.size)(hd:d.size<=255):∃d',Lw lt d.toList (a:Int) (b:Int)=some (d'.toList,())/\PermIn a b d d':=by obtain⟨d',h1,h2⟩:=Q0 (lt:=lt) a b 256 a (b-1) d big (by omega) (Nat.le_refl _) (by omega) hb hd (by omega) (aN (by omega));refine⟨d',?_,h2⟩;have e:aa .sub .i64 (b:Int) 1=((b-1:Nat):Int):=sS (m:=1) (by omega) (by omega);unfold Lw LW;rw[e,h1];rfl
theorem L3(d:Array α)(a b:Nat)(s:Int)(ha:a<d.size)(hb:b<d.size):∃s',MN lt d.toList (a:Int) (b:Int) s=some ((a:Int),(b:Int),s',())\/MN lt d.toList (a:Int) (b:Int) s=some ((b:Int),(a:Int),s',()):=by
 unfold MN;simp only[N4,gA,ha,hb,decide_true,cond_true,Option.bind_some];cases lt d[b]! d[a]!
 ·exact⟨_,.inl rfl⟩
 ·exact⟨_,.inr rfl⟩
theorem N0(d:Array α)(a b c:Nat)(s:Int)(ha:a<d.size)(hb:b<d.size)(hc:c<d.size):∃(m:Nat) (s':Int),M6 lt d.toList (a:Int) (b:Int) (c:Int) s=some ((m:Int),s',())/\(m=a\/m=b\/m=c):=by
 unfold M6;obtain⟨s1,h1|h1⟩:=L3 (lt:=lt) d a b s ha hb
 ·obtain⟨s2,h2|h2⟩:=L3 (lt:=lt) d b c s1 hb hc
  ·obtain⟨s3,h3|h3⟩:=L3 (lt:=lt) d a b s2 ha hb
   ·exact⟨b,s3,by simp only[h1,h2,h3,Option.bind_some],.inr (.inl rfl)⟩
   ·exact⟨a,s3,by simp only[h1,h2,h3,Option.bind_some],.inl rfl⟩
  ·obtain⟨s3,h3|h3⟩:=L3 (lt:=lt) d a c s2 ha hc
   ·exact⟨c,s3,by simp only[h1,h2,h3,Option.bind_some],.inr (.inr rfl)⟩
   ·exact⟨a,s3,by simp only[h1,h2,h3,Option.bind_some],.inl rfl⟩
 ·obtain⟨s2,h2|h2⟩:=L3 (lt:=lt) d a c s1 ha hc
  ·obtain⟨s3,h3|h3⟩:=L3 (lt:=lt) d b a s2 hb ha
   ·exact⟨a,s3,by simp only[h1,h2,h3,Option.bind_some],.inl rfl⟩
   ·exact⟨b,s3,by simp only[h1,h2,h3,Option.bind_some],.inr (.inl rfl)⟩
  ·obtain⟨s3,h3|h3⟩:=L3 (lt:=lt) d b c s2 hb hc
   ·exact⟨c,s3,by simp only[h1,h2,h3,Option.bind_some],.inr (.inr rfl)⟩
   ·exact⟨b,s3,by simp only[h1,h2,h3,Option.bind_some],.inr (.inl rfl)⟩
theorem OX(d:Array α)(a:Nat)(s:Int)(ha:0<a)(VJ:a+1<d.size)(hd:d.size<=255):∃(m:Nat) (s':Int),K2 lt d.toList (a:Int) s=some ((m:Int),s',())/\(m=a-1\/m=a\/m=a+1):=by have e:aa .sub .i64 (a:Int) 1=((a-1:Nat):Int):=sS (m:=1) (by omega) (by omega);obtain⟨m,s',h1,h2⟩:=N0 (lt:=lt) d (a-1) a (a+1) s (by omega) (by omega) (by omega);refine⟨m,s',?_,h2⟩;unfold K2;rw[e,au (n:=a) (by omega),h1];rfl
theorem O6(p c:Int):∃h:Int,(bif (af .eql c (0:Int))then some (p,(1:Int),())else(bif (af .eql c (12:Int))then some (p,(2:Int),())else some (p,(0:Int),())))=some (p,h,()):=by
 cases af .eql c (0:Int)
 ·cases af .eql c (12:Int) <;> exact⟨_,rfl⟩
 ·exact⟨_,rfl⟩
theorem OD(d:Array α)(a b:Nat)(hab:a+12<b)(hb:b<=d.size)(hd:d.size<=255):∃(p:Nat) (h:Int),LN lt d.toList (a:Int) (b:Int)=some ((p:Int),h,())/\a<=p/\p<b:=by
 have z:az (4:Int)=false:=rfl;have e1:aa .sub .i64 (b:Int) (a:Int)=((b-a:Nat):Int):=sS (by omega) (by omega);have g8:af .geq ((b-a:Nat):Int) (8:Int)=true:=(Pf (b-a) 8).trans (decide_eq_true (by omega));have eq:aa .quo .i64 ((b-a:Nat):Int) (4:Int)=(((b-a) / 4:Nat):Int):=qS _ 4 (by omega);have m1:aa .mul .i64 (((b-a) / 4:Nat):Int) (1:Int)=(((b-a) / 4*1:Nat):Int):=mS (m:=1) (by omega);have m2:aa .mul .i64 (((b-a) / 4:Nat):Int) (2:Int)=(((b-a) / 4*2:Nat):Int):=mS (m:=2) (by omega);have m3:aa .mul .i64 (((b-a) / 4:Nat):Int) (3:Int)=(((b-a) / 4*3:Nat):Int):=mS (m:=3) (by omega);have a1:aa .add .i64 (a:Int) (((b-a) / 4*1:Nat):Int)=((a+(b-a) / 4*1:Nat):Int):=aS (by omega);have a2:aa .add .i64 (a:Int) (((b-a) / 4*2:Nat):Int)=((a+(b-a) / 4*2:Nat):Int):=aS (by omega);have a3:aa .add .i64 (a:Int) (((b-a) / 4*3:Nat):Int)=((a+(b-a) / 4*3:Nat):Int):=aS (by omega);unfold LN;simp only[z,cond_false,e1,g8,cond_true,eq,m1,m2,m3,a1,a2,a3];clear e1 g8 eq m1 m2 m3 a1 a2 a3 z;generalize hc:af .geq ((b-a:Nat):Int) (50:Int)=c;clear hc;cases c with
 |true=>obtain⟨x1,s1,h1,k1⟩:=OX (lt:=lt) d (a+(b-a) / 4*1) (0:Int) (by omega) (by omega) hd;obtain⟨x2,s2,h2,k2⟩:=OX (lt:=lt) d (a+(b-a) / 4*2) s1 (by omega) (by omega) hd;obtain⟨x3,s3,h3,k3⟩:=OX (lt:=lt) d (a+(b-a) / 4*3) s2 (by omega) (by omega) hd;obtain⟨x4,s4,h4,k4⟩:=N0 (lt:=lt) d x1 x2 x3 s3 (by omega) (by omega) (by omega);obtain⟨h,hh⟩:=O6 (x4:Int) s4;refine⟨x4,h,?_,by omega,by omega⟩;simp only[cond_true,h1,h2,h3,h4,Option.bind_some];exact hh
 |false=>obtain⟨x4,s4,h4,k4⟩:=N0 (lt:=lt) d (a+(b-a) / 4*1) (a+(b-a) / 4*2) (a+(b-a) / 4*3) 0 (by omega) (by omega) (by omega);obtain⟨h,hh⟩:=O6 (x4:Int) s4;refine⟨x4,h,?_,by omega,by omega⟩;simp only[cond_false,h4,Option.bind_some];exact hh
end
end Go.Fn
set_option linter.unusedSimpArgs false
set_option linter.unusedVariables false
namespace Go.Fn
open Go.R Go.Sort
theorem Sa:(List.range 256).all (fun n=>decide (n<8)||(match Kv (n:Int)with|some (m,())=>decide (1<=m/\m<=2*(n:Int))|none=>false))=true:=by decide +kernel
theorem SW{n:Nat}(h8:8<=n)(h:n<=255):∃m:Nat,Kv (n:Int)=some ((m:Int),())/\1<=m/\m<=2*n:=by
 have h1:=List.all_eq_true.1 Sa n (List.mem_range.2 (by omega));rw[decide_eq_false (by omega:¬n<8),Bool.false_or]at h1;cases hq:Kv (n:Int)with
 |none=>rw[hq]at h1;cases h1
 |some p=>obtain⟨m,u⟩:=p;cases u;rw[hq]at h1;have h2:1<=m/\m<=2*(n:Int):=of_decide_eq_true h1;exact⟨m.toNat,by rw[Int.toNat_of_nonneg (by omega)],by omega,by omega⟩
theorem Rv(x:Int):∃v,__slices_xorshift__Next x=some (v,v,()):=⟨_,rfl⟩
theorem Sf{n:Int}(h1:0<=n)(h2:n<18446744073709551616):IntKind.u64.wrap n=n:=IntWalk.u64_in n ⟨h1,by omega⟩
theorem To(x:Int){c:Nat}(hc:c<9223372036854775808):∃r:Nat,aa .and .u64 x (c:Int)=(r:Int)/\r<=c:=by
 have h1:(BitVec.ofInt 64 (c:Int)).toNat=c:=by rw[BitVec.toNat_ofInt];have:((c:Int) % ((2 ^ 64:Nat):Int))=c:=Int.emod_eq_of_lt (by omega) (by omega);rw[this];rfl
 have h2:(BitVec.ofInt 64 x &&& BitVec.ofInt 64 (c:Int)).toNat<=c:=by rw[BitVec.toNat_and,h1];exact Nat.and_le_right
 have e:aa .and .u64 x (c:Int)=IntKind.u64.wrap (((BitVec.ofInt 64 x &&& BitVec.ofInt 64 (c:Int)).toNat:Nat):Int):=rfl;rw[e,Sf (by omega) (by omega)];exact⟨_,rfl,h2⟩
theorem S0{n:Nat}(h:1<=n)(h2:n<1099511627776):aa .sub .u64 (n:Int) 1=((n-1:Nat):Int):=by have e:aa .sub .u64 (n:Int) 1=IntKind.u64.wrap ((n:Int)-1):=rfl;rw[e,Sf (by omega) (by omega)];omega
theorem RI{n:Nat}(h:n<1099511627776):aq .i64 (n:Int)=(n:Int):=zx (by omega) (by omega)
section
variable {α:Type} [Inhabited α] {lt:α->α->Bool}
theorem QO(a len m last:Nat)(b:Nat)(hlen:b=a+len)(h8:8<=len)(CI:1<=m)(CJ:m<=2*len)(Qe:last=a+len / 4*2+1):
  ∀(k idx:Nat) (r:Int) (d:Array α) (n:Nat),last+1-idx<=k->a<=idx->b<=d.size->d.size<=255->idx<=300->k<n->∃d',iter (Kg lt ((a:Int),(len:Int),(m:Int),())) n (d.toList,r,(idx:Int),())=some (.inl (d'.toList,()))/\PermIn a b d d':=by
 have z:az (4:Int)=false:=rfl;intro k;induction k with
 |zero=>
  intro idx r d n hk ha hb hd hi hn;obtain⟨n,rfl⟩:∃m,n=m+1:=⟨n-1,by omega⟩
  refine⟨d,av ?_,permIn_refl d a b⟩;have e1:aa .quo .i64 (len:Int) (4:Int)=((len / 4:Nat):Int):=qS _ 4 (by omega);have e2:aa .mul .i64 ((len / 4:Nat):Int) (2:Int)=((len / 4*2:Nat):Int):=mS (m:=2) (by omega);have e3:aa .add .i64 (a:Int) ((len / 4*2:Nat):Int)=((a+len / 4*2:Nat):Int):=aS (by omega);unfold Kg;simp only[z,cond_false,e1,e2,e3,au (n:=a+len / 4*2) (by omega),Qg,<-Qe];rw[decide_eq_false (by omega:¬idx<=last)];rfl
 |succ k ih=>
  intro idx r d n hk ha hb hd hi hn;obtain⟨n,rfl⟩:∃m,n=m+1:=⟨n-1,by omega⟩
  have e1:aa .quo .i64 (len:Int) (4:Int)=((len / 4:Nat):Int):=qS _ 4 (by omega);have e2:aa .mul .i64 ((len / 4:Nat):Int) (2:Int)=((len / 4*2:Nat):Int):=mS (m:=2) (by omega);have e3:aa .add .i64 (a:Int) ((len / 4*2:Nat):Int)=((a+len / 4*2:Nat):Int):=aS (by omega);by_cases h:idx<=last
  ·obtain⟨v,hv⟩:=Rv r;obtain⟨w,hw,DP⟩:=To v (c:=m-1) (by omega);have hib:idx<b:=by omega
   by_cases hg:w>=len
   ·have e4:aa .sub .i64 (w:Int) (len:Int)=((w-len:Nat):Int):=sS (by omega) (by omega);have e5:aa .add .i64 (a:Int) ((w-len:Nat):Int)=((a+(w-len):Nat):Int):=aS (by omega);obtain⟨d',h1,h2⟩:=ih (idx+1) v (swp d idx (a+(w-len))) n (by omega) (by omega) (by rw[size_swp];omega) (by rw[size_swp];omega) (by omega) (by omega);refine⟨d',?_,permIn_trans _ _ _ a b (swp_permIn d a b idx (a+(w-len)) ha hib (by omega) (by omega) hb) h2⟩;rw[<-h1];refine aF ?_;unfold Kg;simp only[z,cond_false,e1,e2,e3,au (n:=a+len / 4*2) (by omega),Qg,<-Qe,h,decide_true,cond_true,hv,Option.bind_some,S0 CI (by omega),hw,RI (n:=w) (by omega),Pf,hg,e4,e5,N4,gA,O0,show a+(w-len)<d.size by omega,show idx<d.size by omega,Pc,aR,au (n:=idx) (by omega)]
   ·have e5:aa .add .i64 (a:Int) (w:Int)=((a+w:Nat):Int):=aS (by omega);obtain⟨d',h1,h2⟩:=ih (idx+1) v (swp d idx (a+w)) n (by omega) (by omega) (by rw[size_swp];omega) (by rw[size_swp];omega) (by omega) (by omega);refine⟨d',?_,permIn_trans _ _ _ a b (swp_permIn d a b idx (a+w) ha hib (by omega) (by omega) hb) h2⟩;rw[<-h1];refine aF ?_;unfold Kg;simp only[z,cond_false,e1,e2,e3,au (n:=a+len / 4*2) (by omega),Qg,<-Qe,h,decide_true,cond_true,hv,Option.bind_some,S0 CI (by omega),hw,RI (n:=w) (by omega),Pf,hg,decide_false,e5,N4,gA,O0,show a+w<d.size by omega,show idx<d.size by omega,Pc,aR,au (n:=idx) (by omega)]
  ·refine⟨d,av ?_,permIn_refl d a b⟩;unfold Kg;simp only[z,cond_false,e1,e2,e3,au (n:=a+len / 4*2) (by omega),Qg,<-Qe];rw[decide_eq_false h];rfl
theorem RJ{n:Nat}(h:n<1099511627776):aq .u64 (n:Int)=(n:Int):=Sf (by omega) (by omega)
theorem P8(d:Array α)(a b:Nat)(hab:a+12<b)(hb:b<=d.size)(hd:d.size<=255):∃d',LH lt d.toList (a:Int) (b:Int)=some (d'.toList,())/\PermIn a b d d':=by have z:az (4:Int)=false:=rfl;obtain⟨m,hm,CI,CJ⟩:=SW (n:=b-a) (by omega) (by omega);obtain⟨d',h1,h2⟩:=QO (lt:=lt) a (b-a) m (a+(b-a) / 4*2+1) b (by omega) (by omega) CI CJ rfl 256 (a+(b-a) / 4*2-1) ((b-a:Nat):Int) d big (by omega) (by omega) hb hd (by omega) (aN (by omega));refine⟨d',?_,h2⟩;have e1:aa .sub .i64 (b:Int) (a:Int)=((b-a:Nat):Int):=sS (by omega) (by omega);have g8:af .geq ((b-a:Nat):Int) (8:Int)=true:=(Pf (b-a) 8).trans (decide_eq_true (by omega));have eq:aa .quo .i64 ((b-a:Nat):Int) (4:Int)=(((b-a) / 4:Nat):Int):=qS _ 4 (by omega);have m2:aa .mul .i64 (((b-a) / 4:Nat):Int) (2:Int)=(((b-a) / 4*2:Nat):Int):=mS (m:=2) (by omega);have a2:aa .add .i64 (a:Int) (((b-a) / 4*2:Nat):Int)=((a+(b-a) / 4*2:Nat):Int):=aS (by omega);have s2:aa .sub .i64 ((a+(b-a) / 4*2:Nat):Int) 1=((a+(b-a) / 4*2-1:Nat):Int):=sS (m:=1) (by omega) (by omega);unfold LH LA;simp only[e1,g8,cond_true,hm,Option.bind_some,z,cond_false,eq,m2,a2,s2,RJ (n:=b-a) (by omega),h1,Sum.elim_inl]
abbrev QK(α:Type):=Option (((List α)×Int×Int×Int×Bool×Bool×Unit)⊕((List α)×Unit⊕Empty))
noncomputable def O5(lt:α->α->Bool)(rec:(List α)->Int->Int->Int->Option ((List α)×Unit))(M:Nat):Prop:=∀(d:Array α) (a b:Nat) (L:Int),b-a<M->a<=b->b<=d.size->d.size<=255->Below lt a b d->∃d',rec d.toList (a:Int) (b:Int) L=some (d'.toList,())/\PermIn a b d d'/\SortedIn lt a b d'
noncomputable def Next(lt:α->α->Bool)(q:QK α)(d:Array α)(a b:Nat):Prop:=
 (∃R,q=some (.inr (.inl (R.toList,())))/\PermIn a b d R/\SortedIn lt a b R) \/
 (∃(E:Array α) (a' b':Nat) (L:Int) (wb wp:Bool),q=some (.inl (E.toList,(a':Int),(b':Int),L,wb,wp,()))/\E.size=d.size/\a'<=b'/\b'<=b/\b'-a'<b-a/\Below lt a' b' E/\∀R,PermIn a' b' E R->SortedIn lt a' b' R->PermIn a b d R/\SortedIn lt a b R)
theorem Next.mono{q:QK α}{d D:Array α}{a b:Nat}(h:Next lt q D a b)(p:PermIn a b d D):Next lt q d a b:=by
 rcases h with ⟨R,h1,h2,h3⟩|⟨E,a',b',L,wb,wp,h1,h2,h3,h4,h5,h6,h7⟩
 ·exact .inl ⟨R,h1,permIn_trans _ _ _ a b p h2,h3⟩
 ·refine .inr ⟨E,a',b',L,wb,wp,h1,by rw[h2,p.1],h3,h4,h5,h6,fun R hR hs=>?_⟩;obtain⟨k1,k2⟩:=h7 R hR hs;exact⟨permIn_trans _ _ _ a b p k1,k2⟩
noncomputable def M7(lt:α->α->Bool)(rec:(List α)->Int->Int->Int->Option ((List α)×Unit))(a b L:Int)(D:List α)(P:Int):QK α:=((zf lt D a b P).bind fun y1=>(bif (az (8:Int))then none else(bif (af .lss (aa .sub .i64 y1.1 a) (aa .sub .i64 b y1.1))then((rec y1.2.2.1 a y1.1 L).bind fun y2=>some (.inl (y2.1,(aa .add .i64 y1.1 (1:Int)),b,L,(af .geq (aa .sub .i64 y1.1 a) (aa .quo .i64 (aa .sub .i64 b a) (8:Int))),y1.2.1,())))else((rec y1.2.2.1 (aa .add .i64 y1.1 (1:Int)) b L).bind fun y2=>some (.inl (y2.1,a,y1.1,L,(af .geq (aa .sub .i64 b y1.1) (aa .quo .i64 (aa .sub .i64 b a) (8:Int))),y1.2.1,()))))))
noncomputable def Ns(lt:α->α->Bool)(rec:(List α)->Int->Int->Int->Option ((List α)×Unit))(a b L:Int)(wb wp:Bool)(D:List α)(P:Int):QK α:=(bif (af .gtr a (0:Int))then(bif (ah D (aa .sub .i64 a (1:Int)))then(bif (ah D P)then((some (lt (ae default D (aa .sub .i64 a (1:Int))) (ae default D P),())).bind fun y1=>(bif (Bool.not y1.1)then((IL lt D a b P).bind fun y2=>some (.inl (y2.2.1,y2.1,b,L,wb,wp,())))else M7 lt rec a b L D P))else none)else none)else M7 lt rec a b L D P)
theorem Ry(h:SWO lt){rec:(List α)->Int->Int->Int->Option ((List α)×Unit)}{M:Nat}(gf:O5 lt rec M)(D:Array α)(a b p:Nat)(L:Int)(hab:a<b)(hb:b<=D.size)(hd:D.size<=255)(hB:Below lt a b D)(hp1:a<=p)(hp2:p<b)(hM:b-a<=M):
  Next lt (M7 lt rec (a:Int) (b:Int) L D.toList (p:Int)) D a b:=by
 have z:az (8:Int)=false:=rfl;have OE:=Q3 (lt:=lt) D a b p hab hb hd (by omega);have RM:=round_part h (partition_holds lt) hp1 hp2 hb hB (mid:=(partition lt D a b p).1) (ap:=(partition lt D a b p).2.1) (d4:=(partition lt D a b p).2.2) rfl;generalize (partition lt D a b p).1=mid at OE RM;generalize (partition lt D a b p).2.1=ap at OE RM;generalize (partition lt D a b p).2.2=d4 at OE RM;obtain⟨g1,g2,Tf,Vp,Vq,hleft,hright⟩:=RM;unfold M7;have e1:aa .sub .i64 (mid:Int) (a:Int)=((mid-a:Nat):Int):=sS (by omega) (by omega);have e2:aa .sub .i64 (b:Int) (mid:Int)=((b-mid:Nat):Int):=sS (by omega) (by omega);have e3:aa .add .i64 (mid:Int) 1=((mid+1:Nat):Int):=au (by omega);simp only[OE,Option.bind_some,z,cond_false,e1,e2,e3,ON];by_cases hlt:mid-a<b-mid
 ·obtain⟨L1,hL,l1,l2⟩:=gf d4 a mid L (by omega) g1 (by omega) (by omega) Vp;obtain⟨Tw,gV⟩:=hleft L1 l1 l2;simp only[hlt,decide_true,cond_true,hL,Option.bind_some];exact .inr ⟨L1,mid+1,b,_,_,_,rfl,by rw[l1.1,Tf],by omega,Nat.le_refl _,by omega,Tw,gV⟩
 ·obtain⟨L1,hL,l1,l2⟩:=gf d4 (mid+1) b L (by omega) (by omega) (by omega) (by omega) Vq;obtain⟨Tw,gV⟩:=hright L1 l1 l2;simp only[hlt,decide_false,cond_false,hL,Option.bind_some];exact .inr ⟨L1,a,mid,_,_,_,rfl,by rw[l1.1,Tf],by omega,by omega,by omega,Tw,gV⟩
theorem N5(h:SWO lt){rec:(List α)->Int->Int->Int->Option ((List α)×Unit)}{M:Nat}(gf:O5 lt rec M)(D:Array α)(a b p:Nat)(L:Int)(wb wp:Bool)(hab:a<b)(hb:b<=D.size)(hd:D.size<=255)(hB:Below lt a b D)(hp1:a<=p)(hp2:p<b)(hM:b-a<=M):
  Next lt (Ns lt rec (a:Int) (b:Int) L wb wp D.toList (p:Int)) D a b:=by
 have pT:=Ry h gf D a b p L hab hb hd hB hp1 hp2 hM;unfold Ns;by_cases h0:a>0
 ·have g0:af .gtr (a:Int) (0:Int)=true:=(Qd a 0).trans (decide_eq_true h0);have e1:aa .sub .i64 (a:Int) 1=((a-1:Nat):Int):=sS (m:=1) (by omega) (by omega);simp only[g0,cond_true,e1,N4,gA,show a-1<D.size by omega,show p<D.size by omega,decide_true,Option.bind_some];cases hl:lt D[a-1]! D[p]! with
  |true=>exact pT
  |false=>have OE:=P5 (lt:=lt) D a b p hab hb hd (by omega);have RM:=round_eq h (partitionEqual_holds lt) h0 hp1 hp2 hb hB hl (mid:=(partitionEqual lt D a b p).1) (d4:=(partitionEqual lt D a b p).2) rfl;generalize (partitionEqual lt D a b p).1=mid at OE RM;generalize (partitionEqual lt D a b p).2=d4 at OE RM;obtain⟨CI,CJ,Tf,Vo,gV⟩:=RM;simp only[Bool.not_false,cond_true,OE,Option.bind_some];exact .inr ⟨d4,mid,b,_,_,_,rfl,Tf,CJ,Nat.le_refl _,by omega,Vo,gV⟩
 ·have g0:af .gtr (a:Int) (0:Int)=false:=(Qd a 0).trans (decide_eq_false h0);simp only[g0,cond_false];exact pT
noncomputable def Qc(lt:α->α->Bool)(rec:(List α)->Int->Int->Int->Option ((List α)×Unit))(a b L:Int)(wb wp:Bool)(D:List α)(P:Int):QK α:=((JM lt D a b).bind fun y3=>(bif y3.1 then some (.inr (.inl (y3.2.1,())))else Ns lt rec a b L wb wp y3.2.1 P))
theorem QU(h:SWO lt){rec:(List α)->Int->Int->Int->Option ((List α)×Unit)}{M:Nat}(gf:O5 lt rec M)(D:Array α)(a b p:Nat)(L:Int)(wb wp:Bool)(hab:a<b)(hb:b<=D.size)(hd:D.size<=255)(hB:Below lt a b D)(hp1:a<=p)(hp2:p<b)(hM:b-a<=M):
  Next lt (Qc lt rec (a:Int) (b:Int) L wb wp D.toList (p:Int)) D a b:=by
 have OE:=PK (lt:=lt) D a b hab hb hd;obtain⟨k1,k2⟩:=partialInsertionSort_holds h D a b hab hb hB;unfold Qc;generalize (partialInsertionSort lt D a b).1=D3 at OE k1 k2;generalize (partialInsertionSort lt D a b).2=fl at OE k1 k2;simp only[OE,Option.bind_some];cases fl with
 |true=>exact .inl ⟨D3,rfl,k1,k2 rfl⟩
 |false=>exact(N5 h gf D3 a b p L wb wp hab (by rw[k1.1];exact hb) (by rw[k1.1];exact hd) (hB.perm hb k1) hp1 hp2 hM).mono k1
theorem PI(h:SWO lt){rec:(List α)->Int->Int->Int->Option ((List α)×Unit)}{M:Nat}(gf:O5 lt rec M)(d:Array α)(a b:Nat)(L:Int)(wb wp:Bool)(hab:a<=b)(hb:b<=d.size)(hd:d.size<=255)(hB:Below lt a b d)(hM:b-a<=M):
  Next lt (Ke lt rec () (d.toList,(a:Int),(b:Int),L,wb,wp,())) d a b:=by
 have e1:aa .sub .i64 (b:Int) (a:Int)=((b-a:Nat):Int):=sS (by omega) (by omega);have eb:aa .sub .i64 (b:Int) 1=((b-1:Nat):Int)\/b=0:=by
  by_cases h0:b=0
  ·exact .inr h0
  ·exact .inl (sS (m:=1) (by omega) (by omega))
 by_cases h12:b-a<=12
 ·have g:af .leq ((b-a:Nat):Int) (12:Int)=true:=(Qg (b-a) 12).trans (decide_eq_true h12);unfold Ke;simp only[e1,g,cond_true,RB (lt:=lt) d a b hab hb hd,Option.bind_some];have:=insertionSort_holds h d a b hab hb;exact .inl ⟨_,rfl,this.1,this.2⟩
 ·have g:af .leq ((b-a:Nat):Int) (12:Int)=false:=(Qg (b-a) 12).trans (decide_eq_false h12);cases hL:af .eql L (0:Int)with
  |true=>unfold Ke;simp only[e1,g,cond_false,hL,cond_true,Q2 (lt:=lt) d a b (by omega) hb hd,Option.bind_some];have:=heapSort_holds h d a b hab hb;exact .inl ⟨_,rfl,this.1,this.2⟩
  |false=>
   have eb:=eb.resolve_right (by omega);have Tq:∀p:Nat,a<=p->p<b->aa .sub .i64 ((b-1:Nat):Int) (aa .sub .i64 (p:Int) (a:Int))=(((b-1)-(p-a):Nat):Int):=by intro p h1 h2;rw[sS (n:=p) (m:=a) h1 (by omega),sS (by omega) (by omega)]
   cases wb with
   |false=>
    obtain⟨d1,US,p1⟩:=P8 (lt:=lt) d a b (by omega) hb hd;have b1:b<=d1.size:=by rw[p1.1];exact hb
    have s1:d1.size<=255:=by rw[p1.1];exact hd
    have B1:=hB.perm hb p1;obtain⟨p,hh,hch,hp1,hp2⟩:=OD (lt:=lt) d1 a b (by omega) b1 s1;cases pU:af .eql hh (2:Int)with
    |true=>obtain⟨d2,B7,p2⟩:=PM (lt:=lt) d1 a b (by omega) b1 s1;have:=(N5 h gf d2 a b ((b-1)-(p-a)) (aa .sub .i64 L 1) false wp (by omega) (by rw[p2.1];exact b1) (by rw[p2.1];exact s1) (B1.perm b1 p2) (by omega) (by omega) hM).mono (permIn_trans _ _ _ a b p1 p2);unfold Ke;simp only[e1,g,cond_false,hL,Bool.not_false,cond_true,US,Option.bind_some,hch,pU,B7,eb,Tq p hp1 hp2];simp only[Ns,M7,e1,Option.bind_some]at this;exact this
    |false=>have:=(N5 h gf d1 a b p (aa .sub .i64 L 1) false wp (by omega) b1 s1 B1 hp1 hp2 hM).mono p1;unfold Ke;simp only[e1,g,cond_false,hL,Bool.not_false,cond_true,US,Option.bind_some,hch,pU];simp only[Ns,M7,e1,Option.bind_some]at this;exact this
   |true=>
    obtain⟨p,hh,hch,hp1,hp2⟩:=OD (lt:=lt) d a b (by omega) hb hd;cases pU:af .eql hh (2:Int)with
    |true=>
     obtain⟨d2,B7,p2⟩:=PM (lt:=lt) d a b (by omega) hb hd;have zq:b<=d2.size:=by rw[p2.1];exact hb
     have tR:d2.size<=255:=by rw[p2.1];exact hd
     cases wp with
     |true=>have:=(QU h gf d2 a b ((b-1)-(p-a)) L true true (by omega) zq tR (hB.perm hb p2) (by omega) (by omega) hM).mono p2;unfold Ke;simp only[e1,g,cond_false,hL,Bool.not_true,cond_true,Option.bind_some,hch,pU,B7,eb,Tq p hp1 hp2,show af .eql (1:Int) (1:Int)=true from rfl];simp only[Qc,Ns,M7,e1,Option.bind_some]at this;exact this
     |false=>have:=(N5 h gf d2 a b ((b-1)-(p-a)) L true false (by omega) zq tR (hB.perm hb p2) (by omega) (by omega) hM).mono p2;unfold Ke;simp only[e1,g,cond_false,hL,Bool.not_true,cond_true,Option.bind_some,hch,pU,B7,eb,Tq p hp1 hp2];simp only[Ns,M7,e1,Option.bind_some]at this;exact this
    |false=>
     cases wp with
     |true=>
      cases B6:af .eql hh (1:Int)with
      |true=>have:=QU h gf d a b p L true true (by omega) hb hd hB hp1 hp2 hM;unfold Ke;simp only[e1,g,cond_false,hL,Bool.not_true,cond_true,Option.bind_some,hch,pU,B6];simp only[Qc,Ns,M7,e1,Option.bind_some]at this;exact this
      |false=>have:=N5 h gf d a b p L true true (by omega) hb hd hB hp1 hp2 hM;unfold Ke;simp only[e1,g,cond_false,hL,Bool.not_true,cond_true,Option.bind_some,hch,pU,B6];simp only[Ns,M7,e1,Option.bind_some]at this;exact this
     |false=>have:=N5 h gf d a b p L true false (by omega) hb hd hB hp1 hp2 hM;unfold Ke;simp only[e1,g,cond_false,hL,Bool.not_true,cond_true,Option.bind_some,hch,pU];simp only[Ns,M7,e1,Option.bind_some]at this;exact this
theorem QZ(h:SWO lt){rec:(List α)->Int->Int->Int->Option ((List α)×Unit)}{M:Nat}(gf:O5 lt rec M):∀(k:Nat) (d:Array α) (a b:Nat) (L:Int) (wb wp:Bool) (n:Nat),b-a<=k->b-a<=M->k<n->a<=b->b<=d.size->d.size<=255->Below lt a b d ->
  ∃d',iter (Ke lt rec ()) n (d.toList,(a:Int),(b:Int),L,wb,wp,())=some (.inl (d'.toList,()))/\PermIn a b d d'/\SortedIn lt a b d':=by
 intro k;induction k with
 |zero=>
  intro d a b L wb wp n hk hM hn hab hb hd hB;obtain⟨n,rfl⟩:∃m,n=m+1:=⟨n-1,by omega⟩
  rcases PI h gf d a b L wb wp hab hb hd hB hM with ⟨R,h1,h2,h3⟩|⟨E,a',b',L',UY,wp',h1,h2,h3,h4,h5,h6,h7⟩
  ·exact⟨R,av h1,h2,h3⟩
  ·omega
 |succ k ih=>
  intro d a b L wb wp n hk hM hn hab hb hd hB;obtain⟨n,rfl⟩:∃m,n=m+1:=⟨n-1,by omega⟩
  rcases PI h gf d a b L wb wp hab hb hd hB hM with ⟨R,h1,h2,h3⟩|⟨E,a',b',L',UY,wp',h1,h2,h3,h4,h5,h6,h7⟩
  ·exact⟨R,av h1,h2,h3⟩
  ·obtain⟨d',k1,k2,k3⟩:=ih E a' b' L' UY wp' n (by omega) (by omega) (by omega) h3 (by omega) (by omega) h6;exact⟨d',by rw[aF h1];exact k1,h7 d' k2 k3⟩
theorem SY(h:SWO lt):∀F,O5 lt (Mk lt F) F:=by
 intro F;induction F with
 |zero=>intro d a b L hF;omega
 |succ F ih=>intro d a b L hF hab hb hd hB;obtain⟨d',h1,h2,h3⟩:=QZ h ih 256 d a b L true true big (by omega) (by omega) (aN (by omega)) hab hb hd hB;refine⟨d',?_,h2,h3⟩;unfold Mk Nk MV;rw[h1];rfl
theorem Rz(h:SWO lt)(l:List α)(L:Int)(hl:l.length<=255):∃r:List α,Ot lt l (0:Int) (l.length:Int) L=some (r,())/\r.Perm l/\∀i j,i<j->j<r.length->lt (r.getD j default) (r.getD i default)=false:=by
 obtain⟨d',h1,h2,h3⟩:=SY h big l.toArray 0 l.length L (aN (by omega)) (by omega) (by simp) (by simpa using hl) (.inl rfl);have hsz:d'.size=l.length:=by rw[h2.1];simp
 refine⟨d'.toList,h1,?_,fun i j hij hj=>?_⟩
 ·have:=h2.2.2;rw[show d'.extract 0 l.length=d' by rw[<-hsz];exact Array.extract_size,show l.toArray.extract 0 l.length=l.toArray by rw[show l.length=l.toArray.size by simp];exact Array.extract_size]at this;exact this
 ·have:=h3 i j (by omega) hij (by rw[Array.length_toList]at hj;omega);rw[<-gA,<-gA,ak,ak]at this;exact this
end
end Go.Fn
set_option linter.unusedSimpArgs false
set_option linter.unusedVariables false
namespace Go.Fn
open Go.R Go.Sort
noncomputable def Ll(x y:Ev):Bool:=decide (x.1<y.1)||(decide (x.1=y.1)&&decide (x.2.1<y.2.1))
noncomputable def Ri(x y:Ev):Int:=bif Ll x y then -1 else bif Ll y x then 1 else 0
theorem Jc(x y:Ev):af .lss (Ri x y) (0:Int)=Ll x y:=by unfold Ri;cases Ll x y <;> cases Ll y x <;> rfl
noncomputable def Sb(a b:Int):Int:=bif decide (a<b)then -1 else bif decide (b<a)then 1 else 0
theorem compare_eq(a b:Int):Lu a b=some (Sb a b,()):=by unfold Lu Mo Sb;simp only[PA,Option.bind_some,cond_false];simp only[af,gt_iff_lt];cases decide (a<b) <;> cases decide (b<a) <;> rfl
theorem or_eq(a b:Int):Nj [a,b]=some ((bif decide (a=0)then b else a),()):=by
 unfold Nj M4;have hb:∀n:Nat,n<2->Lv ((0:Int),[a,b],ai [a,b],()) ((n:Int),())=some (bif decide (([a,b].getD n 0)=0)then .inl (((n+1:Nat):Int),())else .inr (.inl ([a,b].getD n 0,()))):=by
  intro n hn;unfold Lv;simp only[aj,ax,ak,show n < [a,b].length from hn,decide_true,cond_true,au (n:=n) (by omega),zI];by_cases h:[a,b].getD n 0=0
  ·rw[h];rfl
  ·rw[show af .neq ([a,b].getD n 0) (0:Int)=true from by simpa[af] using h,decide_eq_false h];rfl
 by_cases ha:a=0
 ·by_cases hb0:b=0
  ·have e:iter (Lv ((0:Int),[a,b],ai [a,b],())) 3 ((0:Int),())=some (.inr (.inl ())):=by
    rw[aF (y:=(((1:Nat):Int),())) (by simpa[ha] using hb 0 (by omega)),aF (y:=(((2:Nat):Int),())) (by simpa[hb0] using hb 1 (by omega))];exact av rfl
   rw[bh e (by unfold big;omega),ha,hb0];rfl
  ·have e:iter (Lv ((0:Int),[a,b],ai [a,b],())) 2 ((0:Int),())=some (.inl (b,())):=by
    rw[aF (y:=(((1:Nat):Int),())) (by simpa[ha] using hb 0 (by omega))];exact av (by simpa[hb0] using hb 1 (by omega))
   rw[bh e (by unfold big;omega),ha];rfl
 ·have e:iter (Lv ((0:Int),[a,b],ai [a,b],())) 1 ((0:Int),())=some (.inl (a,())):=av (by simpa[ha] using hb 0 (by omega));rw[bh e (by unfold big;omega)];simp[ha]
theorem JF(x y:Ev):gI x.1 x.2.1 x.2.2.1 x.2.2.2.1 x.2.2.2.2.1 x.2.2.2.2.2.1 x.2.2.2.2.2.2 y.1 y.2.1 y.2.2.1 y.2.2.2.1 y.2.2.2.2.1 y.2.2.2.2.2.1 y.2.2.2.2.2.2=some (Ri x y,()):=by
 unfold gI;simp only[compare_eq,Option.bind_some];rw[show(List.append (α:=Int) (List.append (α:=Int) ([]:List Int) [Sb x.1 y.1]) [Sb x.2.1 y.2.1])=[Sb x.1 y.1,Sb x.2.1 y.2.1]from rfl,or_eq];simp only[Option.bind_some];congr 2;unfold Ri Ll Sb;by_cases h1:x.1<y.1
 ·simp[h1]
 ·by_cases h2:y.1<x.1
  ·have h3:¬(x.1=y.1):=by omega
   simp[h1,h2,h3]
  ·have h3:x.1=y.1:=by omega
   by_cases h4:x.2.1<y.2.1
   ·simp[h3,h4]
   ·by_cases h5:y.2.1<x.2.1
    ·simp[h3,h4,h5]
    ·simp[h3,h4,h5]
theorem bu:Jo=Kh (Ll):=by
 funext;unfold Jo Kh;try simp only[JF,Jc,Option.bind_some]
 try rfl
theorem b7:IK=LC (Ll):=by
 funext;unfold IK LC;try simp only[JF,Jc,Option.bind_some,bu]
 try rfl
theorem b8:Jn=KD (Ll):=by
 funext;unfold Jn KD;try simp only[JF,Jc,Option.bind_some,bu,b7]
 try rfl
theorem b9:IJ=LB (Ll):=by
 funext;unfold IJ LB;try simp only[JF,Jc,Option.bind_some,bu,b7,b8]
 try rfl
theorem fu:IW=LI (Ll):=by
 funext;unfold IW LI;try simp only[JF,Jc,Option.bind_some,bu,b7,b8,b9]
 try rfl
theorem jr:JB=Kl (Ll):=by
 funext;unfold JB Kl;try simp only[JF,Jc,Option.bind_some,bu,b7,b8,b9,fu]
 try rfl
theorem kW:I6=ML (Ll):=by
 funext;unfold I6 ML;try simp only[JF,Jc,Option.bind_some,bu,b7,b8,b9,fu,jr]
 try rfl
theorem vm:IB=MD (Ll):=by
 funext;unfold IB MD;try simp only[JF,Jc,Option.bind_some,bu,b7,b8,b9,fu,jr,kW]
 try rfl
theorem lj:Jz=LO (Ll):=by
 funext;unfold Jz LO;try simp only[JF,Jc,Option.bind_some,bu,b7,b8,b9,fu,jr,kW,vm]
 try rfl
theorem me:I4=MJ (Ll):=by
 funext;unfold I4 MJ;try simp only[JF,Jc,Option.bind_some,bu,b7,b8,b9,fu,jr,kW,vm,lj]
 try rfl
theorem qB:JA=LP (Ll):=by
 funext;unfold JA LP;try simp only[JF,Jc,Option.bind_some,bu,b7,b8,b9,fu,jr,kW,vm,lj,me]
 try rfl
theorem qW:I5=MK (Ll):=by
 funext;unfold I5 MK;try simp only[JF,Jc,Option.bind_some,bu,b7,b8,b9,fu,jr,kW,vm,lj,me,qB]
 try rfl
theorem IA:Je=M5 (Ll):=by
 funext;unfold Je M5;try simp only[JF,Jc,Option.bind_some,bu,b7,b8,b9,fu,jr,kW,vm,lj,me,qB,qW]
 try rfl
theorem fq:Jm=Kg (Ll):=by
 funext;unfold Jm Kg;try simp only[JF,Jc,Option.bind_some,bu,b7,b8,b9,fu,jr,kW,vm,lj,me,qB,qW,IA]
 try rfl
theorem gb:II=LA (Ll):=by
 funext;unfold II LA;try simp only[JF,Jc,Option.bind_some,bu,b7,b8,b9,fu,jr,kW,vm,lj,me,qB,qW,IA,fq]
 try rfl
theorem lc:IU=LH (Ll):=by
 funext;unfold IU LH;try simp only[JF,Jc,Option.bind_some,bu,b7,b8,b9,fu,jr,kW,vm,lj,me,qB,qW,IA,fq,gb]
 try rfl
theorem Jy:vw=MN (Ll):=by
 funext;unfold vw MN;try simp only[JF,Jc,Option.bind_some,bu,b7,b8,b9,fu,jr,kW,vm,lj,me,qB,qW,IA,fq,gb,lc]
 try rfl
theorem JE:vp=M6 (Ll):=by
 funext;unfold vp M6;try simp only[JF,Jc,Option.bind_some,bu,b7,b8,b9,fu,jr,kW,vm,lj,me,qB,qW,IA,fq,gb,lc,Jy]
 try rfl
theorem lm:r6=K2 (Ll):=by
 funext;unfold r6 K2;try simp only[JF,Jc,Option.bind_some,bu,b7,b8,b9,fu,jr,kW,vm,lj,me,qB,qW,IA,fq,gb,lc,Jy,JE]
 try rfl
theorem sL:zS=LN (Ll):=by
 funext;unfold zS LN;try simp only[JF,Jc,Option.bind_some,bu,b7,b8,b9,fu,jr,kW,vm,lj,me,qB,qW,IA,fq,gb,lc,Jy,JE,lm]
 try rfl
theorem k6:Jp=KK (Ll):=by
 funext;unfold Jp KK;try simp only[JF,Jc,Option.bind_some,bu,b7,b8,b9,fu,jr,kW,vm,lj,me,qB,qW,IA,fq,gb,lc,Jy,JE,lm,sL]
 try rfl
theorem qe:IQ=LW (Ll):=by
 funext;unfold IQ LW;try simp only[JF,Jc,Option.bind_some,bu,b7,b8,b9,fu,jr,kW,vm,lj,me,qB,qW,IA,fq,gb,lc,Jy,JE,lm,sL,k6]
 try rfl
theorem u0:za=Lw (Ll):=by
 funext;unfold za Lw;try simp only[JF,Jc,Option.bind_some,bu,b7,b8,b9,fu,jr,kW,vm,lj,me,qB,qW,IA,fq,gb,lc,Jy,JE,lm,sL,k6,qe]
 try rfl
theorem cT:I9=JK (Ll):=by
 funext;unfold I9 JK;try simp only[JF,Jc,Option.bind_some,bu,b7,b8,b9,fu,jr,kW,vm,lj,me,qB,qW,IA,fq,gb,lc,Jy,JE,lm,sL,k6,qe,u0]
 try rfl
theorem c6:zc=KZ (Ll):=by
 funext;unfold zc KZ;try simp only[JF,Jc,Option.bind_some,bu,b7,b8,b9,fu,jr,kW,vm,lj,me,qB,qW,IA,fq,gb,lc,Jy,JE,lm,sL,k6,qe,u0,cT]
 try rfl
theorem fe:Ja=Kb (Ll):=by
 funext;unfold Ja Kb;try simp only[JF,Jc,Option.bind_some,bu,b7,b8,b9,fu,jr,kW,vm,lj,me,qB,qW,IA,fq,gb,lc,Jy,JE,lm,sL,k6,qe,u0,cT,c6]
 try rfl
theorem ga:ze=K0 (Ll):=by
 funext;unfold ze K0;try simp only[JF,Jc,Option.bind_some,bu,b7,b8,b9,fu,jr,kW,vm,lj,me,qB,qW,IA,fq,gb,lc,Jy,JE,lm,sL,k6,qe,u0,cT,c6,fe]
 try rfl
theorem gm:Jb=JL (Ll):=by
 funext;unfold Jb JL;try simp only[JF,Jc,Option.bind_some,bu,b7,b8,b9,fu,jr,kW,vm,lj,me,qB,qW,IA,fq,gb,lc,Jy,JE,lm,sL,k6,qe,u0,cT,c6,fe,ga]
 try rfl
theorem ia:r7=Kq (Ll):=by
 funext;unfold r7 Kq;try simp only[JF,Jc,Option.bind_some,bu,b7,b8,b9,fu,jr,kW,vm,lj,me,qB,qW,IA,fq,gb,lc,Jy,JE,lm,sL,k6,qe,u0,cT,c6,fe,ga,gm]
 try rfl
theorem iL:I8=Jh (Ll):=by
 funext;unfold I8 Jh;try simp only[JF,Jc,Option.bind_some,bu,b7,b8,b9,fu,jr,kW,vm,lj,me,qB,qW,IA,fq,gb,lc,Jy,JE,lm,sL,k6,qe,u0,cT,c6,fe,ga,gm,ia]
 try rfl
theorem i6:zb=KY (Ll):=by
 funext;unfold zb KY;try simp only[JF,Jc,Option.bind_some,bu,b7,b8,b9,fu,jr,kW,vm,lj,me,qB,qW,IA,fq,gb,lc,Jy,JE,lm,sL,k6,qe,u0,cT,c6,fe,ga,gm,ia,iL]
 try rfl
theorem rm:k5=JM (Ll):=by
 funext;unfold k5 JM;try simp only[JF,Jc,Option.bind_some,bu,b7,b8,b9,fu,jr,kW,vm,lj,me,qB,qW,IA,fq,gb,lc,Jy,JE,lm,sL,k6,qe,u0,cT,c6,fe,ga,gm,ia,iL,i6]
 try rfl
theorem vn:Jj=La (Ll):=by
 funext;unfold Jj La;try simp only[JF,Jc,Option.bind_some,bu,b7,b8,b9,fu,jr,kW,vm,lj,me,qB,qW,IA,fq,gb,lc,Jy,JE,lm,sL,k6,qe,u0,cT,c6,fe,ga,gm,ia,iL,i6,rm]
 try rfl
theorem xn:IF=Ls (Ll):=by
 funext;unfold IF Ls;try simp only[JF,Jc,Option.bind_some,bu,b7,b8,b9,fu,jr,kW,vm,lj,me,qB,qW,IA,fq,gb,lc,Jy,JE,lm,sL,k6,qe,u0,cT,c6,fe,ga,gm,ia,iL,i6,rm,vn]
 try rfl
theorem zW:Jk=Lb (Ll):=by
 funext;unfold Jk Lb;try simp only[JF,Jc,Option.bind_some,bu,b7,b8,b9,fu,jr,kW,vm,lj,me,qB,qW,IA,fq,gb,lc,Jy,JE,lm,sL,k6,qe,u0,cT,c6,fe,ga,gm,ia,iL,i6,rm,vn,xn]
 try rfl
theorem IC:IG=Lt (Ll):=by
 funext;unfold IG Lt;try simp only[JF,Jc,Option.bind_some,bu,b7,b8,b9,fu,jr,kW,vm,lj,me,qB,qW,IA,fq,gb,lc,Jy,JE,lm,sL,k6,qe,u0,cT,c6,fe,ga,gm,ia,iL,i6,rm,vn,xn,zW]
 try rfl
theorem IM:Ji=Kr (Ll):=by
 funext;unfold Ji Kr;try simp only[JF,Jc,Option.bind_some,bu,b7,b8,b9,fu,jr,kW,vm,lj,me,qB,qW,IA,fq,gb,lc,Jy,JE,lm,sL,k6,qe,u0,cT,c6,fe,ga,gm,ia,iL,i6,rm,vn,xn,zW,IC]
 try rfl
theorem I2:IE=Lr (Ll):=by
 funext;unfold IE Lr;try simp only[JF,Jc,Option.bind_some,bu,b7,b8,b9,fu,jr,kW,vm,lj,me,qB,qW,IA,fq,gb,lc,Jy,JE,lm,sL,k6,qe,u0,cT,c6,fe,ga,gm,ia,iL,i6,rm,vn,xn,zW,IC,IM]
 try rfl
theorem JC:br=IL (Ll):=by
 funext;unfold br IL;try simp only[JF,Jc,Option.bind_some,bu,b7,b8,b9,fu,jr,kW,vm,lj,me,qB,qW,IA,fq,gb,lc,Jy,JE,lm,sL,k6,qe,u0,cT,c6,fe,ga,gm,ia,iL,i6,rm,vn,xn,zW,IC,IM,I2]
 try rfl
theorem JX:Jt=LX (Ll):=by
 funext;unfold Jt LX;try simp only[JF,Jc,Option.bind_some,bu,b7,b8,b9,fu,jr,kW,vm,lj,me,qB,qW,IA,fq,gb,lc,Jy,JE,lm,sL,k6,qe,u0,cT,c6,fe,ga,gm,ia,iL,i6,rm,vn,xn,zW,IC,IM,I2,JC]
 try rfl
theorem J9:IX=Mp (Ll):=by
 funext;unfold IX Mp;try simp only[JF,Jc,Option.bind_some,bu,b7,b8,b9,fu,jr,kW,vm,lj,me,qB,qW,IA,fq,gb,lc,Jy,JE,lm,sL,k6,qe,u0,cT,c6,fe,ga,gm,ia,iL,i6,rm,vn,xn,zW,IC,IM,I2,JC,JX]
 try rfl
theorem Kc:Ju=LY (Ll):=by
 funext;unfold Ju LY;try simp only[JF,Jc,Option.bind_some,bu,b7,b8,b9,fu,jr,kW,vm,lj,me,qB,qW,IA,fq,gb,lc,Jy,JE,lm,sL,k6,qe,u0,cT,c6,fe,ga,gm,ia,iL,i6,rm,vn,xn,zW,IC,IM,I2,JC,JX,J9]
 try rfl
theorem Ki:IY=Mq (Ll):=by
 funext;unfold IY Mq;try simp only[JF,Jc,Option.bind_some,bu,b7,b8,b9,fu,jr,kW,vm,lj,me,qB,qW,IA,fq,gb,lc,Jy,JE,lm,sL,k6,qe,u0,cT,c6,fe,ga,gm,ia,iL,i6,rm,vn,xn,zW,IC,IM,I2,JC,JX,J9,Kc]
 try rfl
theorem Kw:Jw=M8 (Ll):=by
 funext;unfold Jw M8;try simp only[JF,Jc,Option.bind_some,bu,b7,b8,b9,fu,jr,kW,vm,lj,me,qB,qW,IA,fq,gb,lc,Jy,JE,lm,sL,k6,qe,u0,cT,c6,fe,ga,gm,ia,iL,i6,rm,vn,xn,zW,IC,IM,I2,JC,JX,J9,Kc,Ki]
 try rfl
theorem KL:I0=Ms (Ll):=by
 funext;unfold I0 Ms;try simp only[JF,Jc,Option.bind_some,bu,b7,b8,b9,fu,jr,kW,vm,lj,me,qB,qW,IA,fq,gb,lc,Jy,JE,lm,sL,k6,qe,u0,cT,c6,fe,ga,gm,ia,iL,i6,rm,vn,xn,zW,IC,IM,I2,JC,JX,J9,Kc,Ki,Kw]
 try rfl
theorem K8:Jx=M9 (Ll):=by
 funext;unfold Jx M9;try simp only[JF,Jc,Option.bind_some,bu,b7,b8,b9,fu,jr,kW,vm,lj,me,qB,qW,IA,fq,gb,lc,Jy,JE,lm,sL,k6,qe,u0,cT,c6,fe,ga,gm,ia,iL,i6,rm,vn,xn,zW,IC,IM,I2,JC,JX,J9,Kc,Ki,Kw,KL]
 try rfl
theorem Le:I1=Mt (Ll):=by
 funext;unfold I1 Mt;try simp only[JF,Jc,Option.bind_some,bu,b7,b8,b9,fu,jr,kW,vm,lj,me,qB,qW,IA,fq,gb,lc,Jy,JE,lm,sL,k6,qe,u0,cT,c6,fe,ga,gm,ia,iL,i6,rm,vn,xn,zW,IC,IM,I2,JC,JX,J9,Kc,Ki,Kw,KL,K8]
 try rfl
theorem Lx:Jv=KJ (Ll):=by
 funext;unfold Jv KJ;try simp only[JF,Jc,Option.bind_some,bu,b7,b8,b9,fu,jr,kW,vm,lj,me,qB,qW,IA,fq,gb,lc,Jy,JE,lm,sL,k6,qe,u0,cT,c6,fe,ga,gm,ia,iL,i6,rm,vn,xn,zW,IC,IM,I2,JC,JX,J9,Kc,Ki,Kw,KL,K8,Le]
 try rfl
theorem LZ:IZ=Mr (Ll):=by
 funext;unfold IZ Mr;try simp only[JF,Jc,Option.bind_some,bu,b7,b8,b9,fu,jr,kW,vm,lj,me,qB,qW,IA,fq,gb,lc,Jy,JE,lm,sL,k6,qe,u0,cT,c6,fe,ga,gm,ia,iL,i6,rm,vn,xn,zW,IC,IM,I2,JC,JX,J9,Kc,Ki,Kw,KL,K8,Le,Lx]
 try rfl
theorem Nl:bg=zf (Ll):=by
 funext;unfold bg zf;try simp only[JF,Jc,Option.bind_some,bu,b7,b8,b9,fu,jr,kW,vm,lj,me,qB,qW,IA,fq,gb,lc,Jy,JE,lm,sL,k6,qe,u0,cT,c6,fe,ga,gm,ia,iL,i6,rm,vn,xn,zW,IC,IM,I2,JC,JX,J9,Kc,Ki,Kw,KL,K8,Le,Lx,LZ]
 try rfl
theorem NF:JD=Ke (Ll):=by
 funext;unfold JD Ke;try simp only[JF,Jc,Option.bind_some,bu,b7,b8,b9,fu,jr,kW,vm,lj,me,qB,qW,IA,fq,gb,lc,Jy,JE,lm,sL,k6,qe,u0,cT,c6,fe,ga,gm,ia,iL,i6,rm,vn,xn,zW,IC,IM,I2,JC,JX,J9,Kc,Ki,Kw,KL,K8,Le,Lx,LZ,Nl]
 try rfl
theorem Og:I7=MV (Ll):=by
 funext;unfold I7 MV;try simp only[JF,Jc,Option.bind_some,bu,b7,b8,b9,fu,jr,kW,vm,lj,me,qB,qW,IA,fq,gb,lc,Jy,JE,lm,sL,k6,qe,u0,cT,c6,fe,ga,gm,ia,iL,i6,rm,vn,xn,zW,IC,IM,I2,JC,JX,J9,Kc,Ki,Kw,KL,K8,Le,Lx,LZ,Nl,NF]
 try rfl
theorem OC:Jd=Nk (Ll):=by
 funext;unfold Jd Nk;try simp only[JF,Jc,Option.bind_some,bu,b7,b8,b9,fu,jr,kW,vm,lj,me,qB,qW,IA,fq,gb,lc,Jy,JE,lm,sL,k6,qe,u0,cT,c6,fe,ga,gm,ia,iL,i6,rm,vn,xn,zW,IC,IM,I2,JC,JX,J9,Kc,Ki,Kw,KL,K8,Le,Lx,LZ,Nl,NF,Og]
 try rfl
theorem OB:∀n,tW n=Mk (Ll) n
 |0=>rfl
 |n+1=>by unfold tW Mk;rw[OB n,OC]
theorem Qv:Jf=Ot (Ll):=by
 funext;unfold Jf Ot;try simp only[JF,Jc,Option.bind_some,bu,b7,b8,b9,fu,jr,kW,vm,lj,me,qB,qW,IA,fq,gb,lc,Jy,JE,lm,sL,k6,qe,u0,cT,c6,fe,ga,gm,ia,iL,i6,rm,vn,xn,zW,IC,IM,I2,JC,JX,J9,Kc,Ki,Kw,KL,K8,Le,Lx,LZ,Nl,NF,Og,OC,OB]
 try rfl
end Go.Fn
set_option linter.unusedSimpArgs false
set_option linter.unusedVariables false
namespace Go.Fn
open Go.R Go.Sort
theorem K7{x y:Ev}:Ll x y=true↔x.1<y.1\/(x.1=y.1/\x.2.1<y.2.1):=by unfold Ll;simp
theorem OU{x y:Ev}:Ll x y=false↔y.1<x.1\/(x.1=y.1/\y.2.1<=x.2.1):=by rw[<-Bool.not_eq_true,K7];omega
theorem Pk(x:Ev):Ll x x=false:=by rw[OU];omega
theorem Oc{x y z:Ev}(h1:Ll x y=true)(h2:Ll y z=true):Ll x z=true:=by rw[K7]at *;omega
theorem R6{x y:Ev}(h1:Ll x y=true):Ll y x=false:=by rw[K7]at h1;rw[OU];omega
theorem Rt:SWO Ll:=⟨Pk,fun _ _ _ h1 h2=>Oc h1 h2,fun x y z h1 h2=>by rw[OU]at *;omega⟩
abbrev OO(l:List Ev):Prop:=l.Pairwise fun x y=>Ll x y=true
theorem Ql:∀(l:List Ev),(∀n,n+1<l.length->Ll (l.getD n bf) (l.getD (n+1) bf)=true)->OO l
 | [],_=>List.Pairwise.nil
 | [x],_=>List.pairwise_singleton _ _
 |x::y::l,h=>by
  have ih:=Ql (y::l) (fun n hn=>h (n+1) (by simpa using hn));have hxy:Ll x y=true:=h 0 (by simp);refine List.Pairwise.cons (fun z hz=>?_) ih;rcases List.mem_cons.1 hz with rfl|hz
  ·exact hxy
  ·exact Oc hxy ((List.pairwise_cons.1 ih).1 z hz)
theorem MX{l:List Ev}(h:MA l=true):OO l:=by refine Ql l fun n hn=>?_;have:=PY h hn;simp only[MU,Bool.and_eq_true,O8,Bool.not_eq_true',Bool.or_eq_false_iff,Bool.and_eq_false_iff,decide_eq_false_iff_not]at this;rw[K7];omega
theorem Qm:∀ {l m:List Ev},OO l->OO m->(∀x,x∈l↔x∈m)->l=m
 | [],[],_,_,_=>rfl
 | [],y::m,_,_,h=>absurd ((h y).2 (List.mem_cons_self ..)) (List.not_mem_nil)
 |x::l,[],_,_,h=>absurd ((h x).1 (List.mem_cons_self ..)) (List.not_mem_nil)
 |x::l,y::m,hl,hm,h=>by
  have hl':=List.pairwise_cons.1 hl;have hm':=List.pairwise_cons.1 hm;have hxy:x=y:=by
   rcases List.mem_cons.1 ((h x).1 (List.mem_cons_self ..))with e|h1
   ·exact e
   ·rcases List.mem_cons.1 ((h y).2 (List.mem_cons_self ..))with e|h2
    ·exact e.symm
    ·have a1:=hm'.1 x h1;have a2:=hl'.1 y h2;rw[R6 a1]at a2;cases a2
  subst hxy;congr 1;refine Qm hl'.2 hm'.2 fun z=>⟨fun hz=>?_,fun hz=>?_⟩
  ·rcases List.mem_cons.1 ((h z).1 (List.mem_cons_of_mem _ hz))with e|h1
   ·subst e;have:=hl'.1 z hz;rw[Pk]at this;cases this
   ·exact h1
  ·rcases List.mem_cons.1 ((h z).2 (List.mem_cons_of_mem _ hz))with e|h1
   ·subst e;have:=hm'.1 z hz;rw[Pk]at this;cases this
   ·exact h1
noncomputable def Qt(o:Option (List Ev))(x:Ev):Option (List Ev):=o.map (x:: ·)
noncomputable def merge:List Ev->List Ev->Option (List Ev)
 | [],b=>some b
 |x::a,[]=>some (x::a)
 |x::a,y::b=>bif Ll x y then Qt (merge a (y::b)) x else bif Ll y x then Qt (merge (x::a) b) y else bif decide (x=y)then Qt (merge a b) x else none
termination_by a b=>a.length+b.length
theorem Qz:∀(n:Nat) (a b:List Ev),a.length+b.length=n->OO a->OO b ->
  match merge a b with
  |some m=>OO m/\(∀z,z∈m↔z∈a\/z∈b)/\m.length<=a.length+b.length/\(∀x,x∈a->∀y,y∈b->x.1=y.1->x.2.1=y.2.1->x=y)
  |none=>∃x,x∈a/\∃y,y∈b/\x.1=y.1/\x.2.1=y.2.1/\x≠y:=by
 intro n;induction n using Nat.strongRecOn with
 |ind n TB=>
 intro a b hn;rcases a with _|⟨x,a⟩
 ·rw[merge];intro _ hb;exact⟨hb,fun z=>by simp,by simp,fun x hx=>absurd hx List.not_mem_nil⟩
 rcases b with _|⟨y,b⟩
 ·rw[merge];intro ha _;exact⟨ha,fun z=>by simp,by simp,fun x _ y hy=>absurd hy List.not_mem_nil⟩
 ·have ih1:=TB _ (by simp only[List.length_cons]at hn⊢;omega) a (y::b) rfl;have ih2:=TB _ (by simp only[List.length_cons]at hn⊢;omega) (x::a) b rfl;have Vy:=TB _ (by simp only[List.length_cons]at hn⊢;omega) a b rfl;rw[merge];intro ha hb;have RZ:=List.pairwise_cons.1 ha;have hb':=List.pairwise_cons.1 hb;cases h1:Ll x y with
  |true=>
   have ih:=ih1 RZ.2 hb;simp only[cond_true];cases hm:merge a (y::b)with
   |none=>rw[hm]at ih;obtain⟨u,hu,v,hv,h⟩:=ih;exact⟨u,List.mem_cons_of_mem _ hu,v,hv,h⟩
   |some m=>
    rw[hm]at ih;obtain⟨i1,i2,i3,i4⟩:=ih;refine⟨List.Pairwise.cons (fun z hz=>?_) i1,fun z=>?_,?_,fun u hu v hv=>?_⟩
    ·rcases(i2 z).1 hz with h|h
     ·exact RZ.1 z h
     ·rcases List.mem_cons.1 h with rfl|h
      ·exact h1
      ·exact Oc h1 (hb'.1 z h)
    ·simp only[List.mem_cons,i2 z,or_assoc]
    ·simp only[List.length_cons]at i3⊢;omega
    ·rcases List.mem_cons.1 hu with rfl|hu
     ·intro k1 k2;have:Ll u v=true:=by
       rcases List.mem_cons.1 hv with rfl|hv
       ·exact h1
       ·exact Oc h1 (hb'.1 v hv)
      rw[K7]at this;omega
     ·exact i4 u hu v hv
  |false=>
   cases h2:Ll y x with
   |true=>
    have ih:=ih2 ha hb'.2;simp only[cond_true,cond_false];cases hm:merge (x::a) b with
    |none=>rw[hm]at ih;obtain⟨u,hu,v,hv,h⟩:=ih;exact⟨u,hu,v,List.mem_cons_of_mem _ hv,h⟩
    |some m=>
     rw[hm]at ih;obtain⟨i1,i2,i3,i4⟩:=ih;refine⟨List.Pairwise.cons (fun z hz=>?_) i1,fun z=>?_,?_,fun u hu v hv=>?_⟩
     ·rcases(i2 z).1 hz with h|h
      ·rcases List.mem_cons.1 h with rfl|h
       ·exact h2
       ·exact Oc h2 (RZ.1 z h)
      ·exact hb'.1 z h
     ·rw[List.mem_cons,i2 z,List.mem_cons,List.mem_cons];constructor
      ·rintro(h|h|h)
       ·exact .inr (.inl h)
       ·exact .inl h
       ·exact .inr (.inr h)
      ·rintro(h|h|h)
       ·exact .inr (.inl h)
       ·exact .inl h
       ·exact .inr (.inr h)
     ·simp only[List.length_cons]at i3⊢;omega
     ·rcases List.mem_cons.1 hv with rfl|hv
      ·intro k1 k2;have:Ll v u=true:=by
        rcases List.mem_cons.1 hu with rfl|hu
        ·exact h2
        ·exact Oc h2 (RZ.1 u hu)
       rw[K7]at this;omega
      ·exact i4 u hu v hv
   |false=>
    have hk:x.1=y.1/\x.2.1=y.2.1:=by rw[OU]at h1 h2;omega
    by_cases he:x=y
    ·subst he;have ih:=Vy RZ.2 hb'.2;simp only[cond_true,cond_false,decide_true];cases hm:merge a b with
     |none=>rw[hm]at ih;obtain⟨u,hu,v,hv,h⟩:=ih;exact⟨u,List.mem_cons_of_mem _ hu,v,List.mem_cons_of_mem _ hv,h⟩
     |some m=>
      rw[hm]at ih;obtain⟨i1,i2,i3,i4⟩:=ih;refine⟨List.Pairwise.cons (fun z hz=>?_) i1,fun z=>?_,?_,fun u hu v hv k1 k2=>?_⟩
      ·rcases(i2 z).1 hz with h|h
       ·exact RZ.1 z h
       ·exact hb'.1 z h
      ·rw[List.mem_cons,i2 z,List.mem_cons,List.mem_cons];constructor
       ·rintro(h|h|h)
        ·exact .inl (.inl h)
        ·exact .inl (.inr h)
        ·exact .inr (.inr h)
       ·rintro((h|h)|(h|h))
        ·exact .inl h
        ·exact .inr (.inl h)
        ·exact .inl h
        ·exact .inr (.inr h)
      ·simp only[List.length_cons]at i3⊢;omega
      ·rcases List.mem_cons.1 hu with AD|AD <;> rcases List.mem_cons.1 hv with xw|xw
       ·rw[AD,xw]
       ·have:=hb'.1 v xw;rw[K7,<-AD]at this;omega
       ·have:=RZ.1 u AD;rw[K7,<-xw]at this;omega
       ·exact i4 u AD v xw k1 k2
    ·simp only[cond_false,decide_eq_false he];exact⟨x,List.mem_cons_self ..,y,List.mem_cons_self ..,hk.1,hk.2,he⟩
theorem iW{a b:List Ev}(ha:OO a)(hb:OO b):
  match merge a b with
  |some m=>OO m/\(∀z,z∈m↔z∈a\/z∈b)/\m.length<=a.length+b.length/\(∀x,x∈a->∀y,y∈b->x.1=y.1->x.2.1=y.2.1->x=y)
  |none=>∃x,x∈a/\∃y,y∈b/\x.1=y.1/\x.2.1=y.2.1/\x≠y:=Qz _ a b rfl ha hb
noncomputable def Kj(a b:List Ev):List Ev×Bool:=bif MA a then bif MA b then(match merge a b with|none=>([],false)|some m=>bif MA m then(m,true)else([],false))else([],false)else([],false)
theorem OV(a b:List Ev):(Kj a b).1.length<=60:=by
 unfold Kj;cases MA a with
 |false=>exact Nat.zero_le _
 |true=>
  cases MA b with
  |false=>exact Nat.zero_le _
  |true=>
   simp only[cond_true];cases merge a b with
   |none=>exact Nat.zero_le _
   |some m=>
    simp only[];cases h:MA m with
    |false=>exact Nat.zero_le _
    |true=>exact L4 h
theorem N1(x y:Ev):L2 x.1 x.2.1 x.2.2.1 x.2.2.2.1 x.2.2.2.2.1 x.2.2.2.2.2.1 x.2.2.2.2.2.2 y.1 y.2.1 y.2.2.1 y.2.2.2.1 y.2.2.2.2.1 y.2.2.2.2.2.1 y.2.2.2.2.2.2=some (Ll x y,()):=by
 unfold L2 Ll;simp only[af];by_cases h:x.1=y.1
 ·rw[h];cases decide (y.1<y.1) <;> simp
 ·rw[decide_eq_false h,show(x.1==y.1)=false from by simpa using h];cases decide (x.1<y.1) <;> rfl
theorem Rk(x y:Ev):(Bool.and (af .eql x.1 y.1) (Bool.and (af .eql x.2.1 y.2.1) (Bool.and (af .eql x.2.2.1 y.2.2.1) (Bool.and (af .eql x.2.2.2.1 y.2.2.2.1) (Bool.and (af .eql x.2.2.2.2.1 y.2.2.2.2.1) (Bool.and (af .eql x.2.2.2.2.2.1 y.2.2.2.2.2.1) (Bool.and (af .eql x.2.2.2.2.2.2 y.2.2.2.2.2.2) true)))))))=decide (x=y):=by obtain⟨x1,x2,x3,x4,x5,x6,x7⟩:=x;obtain⟨y1,y2,y3,y4,y5,y6,y7⟩:=y;rw[Bool.eq_iff_iff];simp[af,Prod.mk.injEq]
theorem Qq(l:List Ev)(x:Ev):List.append (α:=Ev) l (List.append (α:=Ev) ([]:List Ev) [x])=l++[x]:=rfl
theorem P7(a b:List Ev)(ha:a.length<=60)(hb:b.length<=60):∀(s i k:Nat) (out:List Ev) (n:Nat),(a.length-i)+(b.length-k)=s->i<=a.length->k<=b.length->out.length<=i+k->s<n ->
  iter (JR (a,b,())) n (out,(i:Int),(k:Int),())=some (match merge (a.drop i) (b.drop k)with|none=>.inl ([],false,())|some m=>.inr (.inl (out++m,()))):=by
 intro s;induction s using Nat.strongRecOn with
 |ind s ih=>
  intro i k out n hs hi hk ho hn;obtain⟨n,rfl⟩:∃m,n=m+1:=⟨n-1,by omega⟩
  have l8:∀x:Ev,aE (out++[x])=true:=fun x=>L0 (by simp;omega);have ll:af .lss (i:Int) (ai a)=decide (i<a.length):=aj i a;have lk:af .lss (k:Int) (ai b)=decide (k<b.length):=aj k b;have el:af .eql (i:Int) (ai a)=decide (i=a.length):=RK i a.length;have ek:af .eql (k:Int) (ai b)=decide (k=b.length):=RK k b.length;by_cases h1:i<a.length
  ·have hx:=dG h1 bf;by_cases h2:k<b.length
   ·have hy:=dG h2 bf;rw[hx,hy,merge];generalize Te:a.getD i bf=x at hx⊢;generalize Es:b.getD k bf=y at hy⊢;cases c1:Ll x y with
    |true=>
     rw[aF (y:=(out++[x],((i+1:Nat):Int),(k:Int),())) (by unfold JR;simp only[ll,lk,el,ek,h1,h2,show ¬(k=b.length)by omega,show ¬(i=a.length)by omega,decide_true,decide_false,cond_true,cond_false,ax,ak,Te,Es,N1,c1,Option.bind_some,Qq,l8,au (n:=i) (by omega)])];rw[ih (s-1) (by omega) (i+1) k (out++[x]) n (by omega) (by omega) hk (by simp;omega) (by omega),<-hy];cases merge (List.drop (i+1) a) (List.drop k b)with
     |none=>rfl
     |some m=>simp[Qt]
    |false=>
     cases c2:Ll y x with
     |true=>
      rw[aF (y:=(out++[y],(i:Int),((k+1:Nat):Int),())) (by unfold JR;simp only[ll,lk,el,ek,h1,h2,show ¬(k=b.length)by omega,show ¬(i=a.length)by omega,decide_true,decide_false,cond_true,cond_false,ax,ak,Te,Es,N1,c1,c2,Option.bind_some,Qq,l8,au (n:=k) (by omega)])];rw[ih (s-1) (by omega) i (k+1) (out++[y]) n (by omega) hi (by omega) (by simp;omega) (by omega),<-hx];cases merge (List.drop i a) (List.drop (k+1) b)with
      |none=>rfl
      |some m=>simp[Qt]
     |false=>
      by_cases c3:x=y
      ·subst c3;rw[aF (y:=(out++[x],((i+1:Nat):Int),((k+1:Nat):Int),())) (by unfold JR;simp only[ll,lk,el,ek,h1,h2,show ¬(k=b.length)by omega,show ¬(i=a.length)by omega,decide_true,decide_false,cond_true,cond_false,ax,ak,Te,Es,N1,c1,c2,Option.bind_some,Qq,l8,Rk,decide_true,Bool.not_true,aR,au (n:=i) (by omega),au (n:=k) (by omega)])];rw[ih (s-2) (by omega) (i+1) (k+1) (out++[x]) n (by omega) (by omega) (by omega) (by simp;omega) (by omega)];simp only[decide_true,cond_true,cond_false];cases merge (List.drop (i+1) a) (List.drop (k+1) b)with
       |none=>rfl
       |some m=>simp[Qt]
      ·rw[av (b:=.inl ([],false,())) (by
        unfold JR;simp only[ll,lk,el,ek,h1,h2,show ¬(k=b.length)by omega,show ¬(i=a.length)by omega,decide_true,decide_false,cond_true,cond_false,ax,ak,Te,Es,N1,c1,c2,Option.bind_some,Rk,c3,Bool.not_false,aR])]
       simp only[c3,decide_false,cond_false]
   ·have BY:k=b.length:=by omega
    have hdb:b.drop k=[]:=by rw[BY,List.drop_length]
    rw[aF (y:=(out++[a.getD i bf],((i+1:Nat):Int),(k:Int),())) (by unfold JR;simp only[ll,lk,el,ek,h1,decide_eq_true BY,decide_true,cond_true,ax,ak,Qq,l8,au (n:=i) (by omega)])];rw[ih (s-1) (by omega) (i+1) k _ n (by omega) (by omega) hk (by simp;omega) (by omega),hx,hdb,merge];cases hd:List.drop (i+1) a with
    |nil=>simp[merge]
    |cons u v=>simp[merge]
  ·have UT:i=a.length:=by omega
   have hda:a.drop i=[]:=by rw[UT,List.drop_length]
   by_cases h2:k<b.length
   ·have hy:=dG h2 bf;rw[aF (y:=(out++[b.getD k bf],(i:Int),((k+1:Nat):Int),())) (by unfold JR;simp only[ll,lk,el,ek,h1,h2,decide_eq_true UT,show ¬(k=b.length)by omega,decide_true,decide_false,cond_true,cond_false,ax,ak,Qq,l8,au (n:=k) (by omega)])];rw[ih (s-1) (by omega) i (k+1) _ n (by omega) hi (by omega) (by simp;omega) (by omega),hda,merge,merge,hy];simp
   ·have BY:k=b.length:=by omega
    have hdb:b.drop k=[]:=by rw[BY,List.drop_length]
    rw[av (b:=.inr (.inl (out,()))) (by unfold JR;simp only[ll,lk,el,ek,h1,h2,decide_false,cond_false])];rw[hda,hdb,merge];simp
theorem Om(a b:List Ev):Jq a b=some ((Kj a b).1,(Kj a b).2,()):=by
 unfold Jq Kj;simp only[NW,Option.bind_some];cases ha:MA a with
 |false=>rfl
 |true=>
  cases hb:MA b with
  |false=>rfl
  |true=>
   have hl:=P7 a b (L4 ha) (L4 hb) (a.length+b.length) 0 0 [] big (by omega) (by omega) (by omega) (by simp) (aN (by have:=L4 ha;have:=L4 hb;omega));simp only[Bool.not_true,cond_false,cond_true];unfold LU;rw[show(0:Int)=((0:Nat):Int)from rfl,hl,List.drop_zero,List.drop_zero];cases merge a b with
   |none=>rfl
   |some m=>simp only[Option.bind_some,Sum.elim_inr,Sum.elim_inl,List.nil_append,NW];cases MA m <;> rfl
end Go.Fn
set_option linter.unusedSimpArgs false
set_option linter.unusedVariables false
namespace Go.Fn
open Go.R Go.Sort
theorem iK{R:Type}(x:Option R):both x x=x:=by unfold both;simp
theorem Qs(l:List Ev)(hl:l.length<=1073741824):J4 l=some (l,()):=by
 unfold J4;have h1:aE (List.append (α:=Ev) ([]:List Ev) l)=true:=L0 hl;rw[h1];cases l with
 |nil=>exact iK _
 |cons x l=>rw[show af .gtr (ai (x::l)) (0:Int)=true from UI l.length];rfl
noncomputable def Mb(x e:Ev):Bool:=decide (x.1=e.1)&&decide (x.2.1=e.2.1)
theorem L5{x e:Ev}:Mb x e=true↔x.1=e.1/\x.2.1=e.2.1:=by unfold Mb;simp
theorem Rq(x e:Ev):Li x.1 x.2.1 x.2.2.1 x.2.2.2.1 x.2.2.2.2.1 x.2.2.2.2.2.1 x.2.2.2.2.2.2 e.1 e.2.1 e.2.2.1 e.2.2.2.1 e.2.2.2.2.1 e.2.2.2.2.2.1 e.2.2.2.2.2.2=some (Mb x e,()):=by
 unfold Li Mb;simp only[af];by_cases h:x.1=e.1
 ·rw[h];simp[Bool.beq_eq_decide_eq]
 ·rw[decide_eq_false h,show(x.1==e.1)=false from by simpa using h];rfl
theorem index_eq(a:List Ev)(e:Ev)(hl:a.length<=1073741824):∃r:Int,IP a e.1 e.2.1 e.2.2.1 e.2.2.2.1 e.2.2.2.2.1 e.2.2.2.2.2.1 e.2.2.2.2.2.2=some (r,()) /\
  ((r = -1/\∀x,x∈a->Mb x e=false)\/∃n:Nat,n<a.length/\r=(n:Int)/\Mb (a.getD n bf) e=true):=by
 obtain⟨y,hy,hc⟩:=eL (body:=ID (a,e.1,e.2.1,e.2.2.1,e.2.2.2.1,e.2.2.2.2.1,e.2.2.2.2.2.1,e.2.2.2.2.2.2,ai a,())) (fun n=>((n:Int),())) a.length (by omega) (fun n=>!Mb (a.getD n bf) e) (Sum.inr (Sum.inl ())) (fun n=>Sum.inl ((n:Int),())) (fun n hn=>by
   unfold ID;simp only[aj,hn,decide_true,cond_true,ax,ak,Rq,Option.bind_some,au (n:=n) (by omega)];cases Mb (a.getD n bf) e <;> rfl) (by
   unfold ID;simp only[aj,Nat.lt_irrefl,decide_false,cond_false])
 unfold IP Jg;rw[show(0:Int)=((0:Nat):Int)from rfl,hy];rcases hc with ⟨hall,rfl⟩|⟨_,n,hn,rfl,hk⟩
 ·refine⟨-1,rfl,.inl ⟨rfl,fun x hx=>?_⟩⟩;obtain⟨m,hm,rfl⟩:=List.getElem_of_mem hx;have:=(aO _ _).1 hall m (Nat.zero_le _) (by omega);simp only[Bool.not_eq_true']at this;rw[List.getD_eq_getElem?_getD,List.getElem?_eq_getElem hm]at this;exact this
 ·exact⟨(n:Int),rfl,.inr ⟨n,hn,rfl,by simpa using hk⟩⟩
theorem Qo{l:List Ev}(h:OO l):∀x,x∈l->∀y,y∈l->Mb x y=true->x=y:=by
 induction l with
 |nil=>intro x hx;exact absurd hx List.not_mem_nil
 |cons u l ih=>
  have h':=List.pairwise_cons.1 h;intro x hx y hy hk;rw[L5]at hk;rcases List.mem_cons.1 hx with e1|pW <;> rcases List.mem_cons.1 hy with e2|Qf
  ·rw[e1,e2]
  ·have:=h'.1 y Qf;rw[K7,<-e1]at this;omega
  ·have:=h'.1 x pW;rw[K7,<-e2]at this;omega
  ·exact ih h'.2 x pW y Qf (L5.2 hk)
abbrev RR:=List Ev×Bool×Unit⊕(List Ev×Unit⊕Empty)
open Classical in
noncomputable def NL(a:List Ev)(out:List Ev)(e:Ev):List Ev⊕RR:=if a.any (fun x=>Mb x e)=true then(if e∈a then .inl out else .inr (.inl ([],false,())))else .inl (out++[e])
theorem R7(a:List Ev):∀(l out:List Ev),(∃e,e∈l/\a.any (fun x=>Mb x e)=true/\e∉a/\gj (NL a) (fun out=>(.inr (.inl (out,())):RR)) l out=.inl ([],false,()))\/((∀e,e∈l->a.any (fun x=>Mb x e)=true->e∈a)/\gj (NL a) (fun out=>(.inr (.inl (out,())):RR)) l out=.inr (.inl (out++l.filter (fun e=>!a.any (fun x=>Mb x e)),())))
 | [],out=>.inr ⟨fun e he=>absurd he List.not_mem_nil,by simp[gj]⟩
 |y::l,out=>by
  by_cases h1:a.any (fun x=>Mb x y)=true
  ·by_cases h2:y∈a
   ·have hs:NL a out y=.inl out:=by unfold NL;rw[if_pos h1,if_pos h2]
    rcases R7 a l out with ⟨e,he,k1,k2,k3⟩|⟨k1,k2⟩
    ·exact .inl ⟨e,List.mem_cons_of_mem _ he,k1,k2,by simp only[gj,hs,k3]⟩
    ·refine .inr ⟨fun e he hk=>?_,by simp only[gj,hs,k2,List.filter_cons,h1,Bool.not_true];rfl⟩;rcases List.mem_cons.1 he with rfl|he
     ·exact h2
     ·exact k1 e he hk
   ·exact .inl ⟨y,List.mem_cons_self ..,h1,h2,by unfold gj NL;rw[if_pos h1,if_neg h2]⟩
  ·have hs:NL a out y=.inl (out++[y]):=by unfold NL;rw[if_neg h1]
   rw[Bool.not_eq_true]at h1;rcases R7 a l (out++[y])with ⟨e,he,k1,k2,k3⟩|⟨k1,k2⟩
   ·exact .inl ⟨e,List.mem_cons_of_mem _ he,k1,k2,by simp only[gj,hs,k3]⟩
   ·refine .inr ⟨fun e he hk=>?_,by simp only[gj,hs,k2,List.filter_cons,h1,Bool.not_false,if_true,List.append_assoc,List.singleton_append]⟩;rcases List.mem_cons.1 he with rfl|he
    ·rw[h1]at hk;cases hk
    ·exact k1 e he hk
theorem PV(a b:List Ev)(ha:a.length<=60)(hb:b.length<=60)(hs:OO a):LQ (a,b,ai b,()) (a,(0:Int),())=some (gj (NL a) (fun out=>.inr (.inl (out,()))) b a):=by
 refine gX (body:=Lh (a,b,ai b,())) b bf (by omega) (fun out n=>(out,(n:Int),())) (NL a) (fun out=>.inr (.inl (out,()))) (fun n out=>out.length<=a.length+n) (fun n out hn ho=>⟨?_,fun o he=>?_⟩) (fun out ho=>?_) a (by omega)
 ·unfold Lh;simp only[aj,hn,decide_true,cond_true,ax,ak];generalize b.getD n bf=e;obtain⟨r,hr,⟨rfl,hno⟩|⟨m,hm,rfl,hk⟩⟩:=index_eq a e (by omega)
  ·have Ai:¬(a.any (fun x=>Mb x e)=true):=by
    rw[List.any_eq_true];rintro⟨x,hx,hk⟩;rw[hno x hx]at hk;cases hk
   have l8:aE (out++[e])=true:=L0 (by simp;omega);unfold NL;rw[if_neg Ai];simp only[hr,Option.bind_some,TC,cond_true,Qq,l8,au (n:=n) (by omega)]
  ·have Ai:a.any (fun x=>Mb x e)=true:=List.any_eq_true.2 ⟨_,LK hm bf,hk⟩;unfold NL;rw[if_pos Ai];have hneg:af .lss (m:Int) (0:Int)=false:=R8 (by omega);simp only[hr,Option.bind_some,hneg,cond_false,ax,hm,decide_true,cond_true,ak,Rk,aR,au (n:=n) (by omega)];by_cases he:a.getD m bf=e
   ·rw[if_pos (he▸LK hm bf),decide_eq_true he];rfl
   ·have hne:e∉a:=fun h=>he (Qo hs _ (LK hm bf) e h hk);rw[if_neg hne,decide_eq_false he];rfl
 ·unfold NL at he;split at he
  ·split at he
   ·injection he with he;rw[<-he];omega
   ·cases he
  ·injection he with he
   rw[<-he];simp;omega
 ·unfold Lh;simp only[aj,Nat.lt_irrefl,decide_false,cond_false]
theorem Rs:(List.range 256).all (fun n=>(Mc (n:Int)).isSome)=true:=by decide +kernel
theorem R5{n:Nat}(h:n<=255):∃L,Mc (n:Int)=some (L,()):=by have h1:=List.all_eq_true.1 Rs n (List.mem_range.2 (by omega));obtain⟨⟨L,u⟩,hL⟩:=Option.isSome_iff_exists.1 h1;exact⟨L,hL⟩
theorem Q4(l:List Ev)(hl:l.length<=255):∃r:List Ev,IR l=some (r,())/\r.Perm l/\∀i j,i<j->j<r.length->Ll (r.getD j default) (r.getD i default)=false:=by obtain⟨L,hL⟩:=R5 hl;obtain⟨r,h1,h2,h3⟩:=Rz Rt l L hl;refine⟨r,?_,h2,h3⟩;unfold IR;rw[Qv,show aq .u64 (ai l)=(l.length:Int)from RJ (by omega),hL,show ai l=(l.length:Int)from rfl];simp only[Option.bind_some,h1]
theorem Pg(a b:List Ev):LD a b=some ((Kj a b).1,(Kj a b).2,()):=by
 unfold LD Kj;simp only[OS,Option.bind_some];cases ha:MA a with
 |false=>rfl
 |true=>
  cases hb:MA b with
  |false=>rfl
  |true=>
   have la:=L4 ha;have lb:=L4 hb;have sa:=MX ha;have sb:=MX hb;simp only[Bool.not_true,cond_false,cond_true,Qs a (by omega),Option.bind_some,PV a b la lb sa];have hm:=iW sa sb;rcases R7 a b a with ⟨e,he,k1,k2,k3⟩|⟨k1,k2⟩
   ·rw[k3];cases Rl:merge a b with
    |none=>rfl
    |some m=>rw[Rl]at hm;obtain⟨x,hx,hk⟩:=List.any_eq_true.1 k1;rw[L5]at hk;exact absurd (hm.2.2.2 x hx e he hk.1 hk.2▸hx) k2
   ·rw[k2];have hfl:(b.filter (fun e=>!a.any (fun x=>Mb x e))).length<=b.length:=List.length_filter_le _ _;obtain⟨r,hr,hp,Vw⟩:=Q4 (a++b.filter (fun e=>!a.any (fun x=>Mb x e))) (by rw[List.length_append];omega);simp only[Option.bind_some,Sum.elim_inr,Sum.elim_inl,hr];have hkeys:(a++b.filter (fun e=>!a.any (fun x=>Mb x e))).Pairwise (fun x y=>Mb x y=false):=by
     rw[List.pairwise_append];refine⟨sa.imp fun {x y} h=>?_,(sb.filter _).imp fun {x y} h=>?_,fun x hx y hy=>?_⟩
     ·rw[<-Bool.not_eq_true,L5];rw[K7]at h;omega
     ·rw[<-Bool.not_eq_true,L5];rw[K7]at h;omega
     ·have h1:=(List.mem_filter.1 hy).2;rw[Bool.not_eq_true',<-Bool.not_eq_true,List.any_eq_true]at h1;rw[<-Bool.not_eq_true];exact fun hk=>h1 ⟨x,hx,hk⟩
    have UU:r.Pairwise (fun x y=>Mb x y=false):=(hp.pairwise_iff (fun {x y} h=>by rw[<-Bool.not_eq_true,L5]at *;omega)).2 hkeys;have VE:OO r:=by unfold OO;rw[List.pairwise_iff_getElem]at UU⊢;intro i j hi hj hij;have h1:=UU i j hi hj hij;have h2:=Vw i j hij hj;rw[List.getD_eq_getElem?_getD,List.getD_eq_getElem?_getD,List.getElem?_eq_getElem hj,List.getElem?_eq_getElem hi]at h2;simp only[Option.getD_some]at h2;rw[<-Bool.not_eq_true,L5]at h1;rw[OU]at h2;rw[K7];omega
    cases Rl:merge a b with
    |none=>rw[Rl]at hm;obtain⟨x,hx,y,hy,e1,e2,hne⟩:=hm;have:y∈a:=k1 y hy (List.any_eq_true.2 ⟨x,hx,L5.2 ⟨e1,e2⟩⟩);exact absurd (Qo sa x hx y this (L5.2 ⟨e1,e2⟩)) hne
    |some m=>
     rw[Rl]at hm;have:r=m:=Qm VE hm.1 fun z=>by
      rw[hp.mem_iff,List.mem_append,List.mem_filter,hm.2.1 z];constructor
      ·rintro(h|h)
       ·exact .inl h
       ·exact .inr h.1
      ·rintro(h|h)
       ·exact .inl h
       ·by_cases hz:a.any (fun x=>Mb x z)=true
        ·exact .inl (k1 z h hz)
        ·exact .inr ⟨h,by simpa using hz⟩
     rw[this];simp only[OS,Option.bind_some];cases MA m <;> rfl
end Go.Fn
set_option linter.unusedSimpArgs false
set_option linter.unusedVariables false
namespace Go.Fn
open Go.R Go.Sort
noncomputable def PB(x y:Ev):Prop:=Ll x y=true/\(x.1=y.1->x.2.2.1<y.2.2.1)
theorem Rx{x y z:Ev}(h1:PB x y)(h2:PB y z):PB x z:=by obtain⟨a1,a2⟩:=h1;obtain⟨b1,b2⟩:=h2;refine⟨Oc a1 b1,fun h=>?_⟩;rw[K7]at a1 b1;have:=a2 (by omega);have:=b2 (by omega);omega
theorem O9{x y:Ev}:O8 x y=true↔PB x y:=by unfold PB;simp only[O8,Bool.not_eq_true',Bool.or_eq_false_iff,Bool.and_eq_false_iff,decide_eq_false_iff_not,K7];omega
theorem PC{R:Ev->Ev->Prop}(tr:∀x y z,R x y->R y z->R x z):∀(l:List Ev),(∀n,n+1<l.length->R (l.getD n bf) (l.getD (n+1) bf))->l.Pairwise R
 | [],_=>List.Pairwise.nil
 | [x],_=>List.pairwise_singleton _ _
 |x::y::l,h=>by
  have ih:=PC tr (y::l) (fun n hn=>h (n+1) (by simpa using hn));have hxy:R x y:=h 0 (by simp);refine List.Pairwise.cons (fun z hz=>?_) ih;rcases List.mem_cons.1 hz with rfl|hz
  ·exact hxy
  ·exact tr _ _ _ hxy ((List.pairwise_cons.1 ih).1 z hz)
theorem getD_eq{α:Type}{l:List α}{n:Nat}(h:n<l.length)(z:α):l.getD n z=l[n]:=by rw[List.getD_eq_getElem?_getD,List.getElem?_eq_getElem h];rfl
theorem Oh{l:List Ev}:MA l=true↔l.length<=60/\(∀x,x∈l->NB x=true)/\l.Pairwise PB:=by
 constructor
 ·intro h;refine⟨L4 h,fun x hx=>?_,PC (R:=PB) (fun _ _ _ h1 h2=>Rx h1 h2) l fun n hn=>?_⟩
  ·obtain⟨n,hn,rfl⟩:=List.getElem_of_mem hx;have:=QS h hn;rwa[getD_eq hn]at this
  ·have:=PY h hn;simp only[MU,Bool.and_eq_true]at this;exact O9.1 this.2
 ·intro ⟨h1,h2,h3⟩;unfold MA;rw[decide_eq_false (by omega)];refine(aO _ _).2 fun m _ hm=>?_;rw[Nat.zero_add]at hm;cases m with
  |zero=>exact h2 _ (LK hm _)
  |succ m=>simp only[MU,Bool.and_eq_true];refine⟨h2 _ (LK hm _),O9.2 ?_⟩;rw[getD_eq hm,getD_eq (show m<l.length by omega)];exact List.pairwise_iff_getElem.1 h3 m (m+1) (by omega) hm (by omega)
theorem Q5{l:List Ev}(h:l.Pairwise PB):∀x,x∈l->∀y,y∈l->x.1=y.1->x.2.1<y.2.1->x.2.2.1<y.2.2.1:=by
 induction l with
 |nil=>intro x hx;exact absurd hx List.not_mem_nil
 |cons u l ih=>
  have h':=List.pairwise_cons.1 h;intro x hx y hy e1 e2;rcases List.mem_cons.1 hx with pW|pW <;> rcases List.mem_cons.1 hy with Qf|Qf
  ·rw[pW,Qf]at e2;omega
  ·subst pW;exact(h'.1 y Qf).2 e1
  ·have:=(h'.1 x pW).1;rw[K7,<-Qf]at this;omega
  ·exact ih h'.2 x pW y Qf e1 e2
theorem R4{l:List Ev}(h1:l.length<=60)(h2:∀x,x∈l->NB x=true)(h3:OO l)(h4:∀x,x∈l->∀y,y∈l->x.1=y.1->x.2.1<y.2.1->x.2.2.1<y.2.2.1):MA l=true:=by refine Oh.2 ⟨h1,h2,?_⟩;refine List.Pairwise.imp_of_mem (fun {x y} hx hy h=>⟨h,fun e=>h4 x hx y hy e ?_⟩) h3;rw[K7]at h;omega
theorem QT{l:List Ev}(h:MA l=true):∀x,x∈l->∀y,y∈l->x.1=y.1->x.2.1<y.2.1->x.2.2.1<y.2.2.1:=Q5 (Oh.1 h).2.2
theorem Pj{l:List Ev}(h:MA l=true):∀x,x∈l->NB x=true:=(Oh.1 h).2.1
theorem NT{a b:List Ev}(h:(Kj a b).2=true):MA a=true/\MA b=true/\MA (Kj a b).1=true/\(∀z,z∈(Kj a b).1↔z∈a\/z∈b)/\(Kj a b).1.length<=a.length+b.length/\(∀x,x∈a->∀y,y∈b->x.1=y.1->x.2.1=y.2.1->x=y):=by
 unfold Kj at h⊢;cases ha:MA a with
 |false=>rw[ha]at h;cases h
 |true=>
  cases hb:MA b with
  |false=>rw[ha,hb]at h;cases h
  |true=>
   rw[ha,hb]at h;have hk:=iW (MX ha) (MX hb);simp only[cond_true]at h⊢;cases Rl:merge a b with
   |none=>rw[Rl]at h;cases h
   |some m=>
    rw[Rl]at h hk;simp only[]at h⊢;cases hm:MA m with
    |false=>rw[hm]at h;cases h
    |true=>exact⟨trivial,trivial,hm,hk.2.1,hk.2.2.1,hk.2.2.2⟩
theorem Pz{a b:List Ev}(h:(Kj a b).2=false):(Kj a b).1=[]:=by
 unfold Kj at h⊢;cases ha:MA a with
 |false=>rfl
 |true=>
  cases hb:MA b with
  |false=>rfl
  |true=>
   rw[ha,hb]at h;simp only[cond_true]at h⊢;cases Rl:merge a b with
   |none=>rfl
   |some m=>
    rw[Rl]at h;simp only[]at h⊢;cases hm:MA m with
    |false=>rfl
    |true=>rw[hm]at h;cases h
noncomputable def Oz(node:Int)(s:Int×Int×Nat×Nat)(x:Ev):Int×Int×Nat×Nat:=((bif decide (x.1=node)then x.2.1+1 else s.1),max s.2.1 (x.2.2.1+1),(bif decide (x.1<=node)then s.2.2.2+1 else s.2.2.1),s.2.2.2+1)
noncomputable def MB(l:List Ev)(node:Int):Int×Int×Nat×Nat:=l.foldl (Oz node) (1,1,0,0)
noncomputable def P3(l:List Ev)(node kind Jl a b:Int):Ev:=(node,(MB l node).1,(MB l node).2.1,kind,Jl,a,b)
noncomputable def NE(l:List Ev)(node kind Jl a b:Int):List Ev:=l.take (MB l node).2.2.1++[P3 l node kind Jl a b]++l.drop (MB l node).2.2.1
noncomputable def M3(l:List Ev)(node kind Jl a b:Int):List Ev×Bool:=bif MA l then bif MA (NE l node kind Jl a b)then(NE l node kind Jl a b,true)else(l,false)else(l,false)
structure QI (node:Int) (p:List Ev) (s:Int×Int×Nat×Nat):Prop where
 c:s.2.2.2=p.length
 RG:s.2.2.1<=p.length
 s1:∀x,x∈p->x.1=node->x.2.1<s.1
 s2:s.1=1\/∃x,x∈p/\x.1=node/\s.1=x.2.1+1
 p1:∀x,x∈p->x.2.2.1<s.2.1
 p2:s.2.1=1\/∃x,x∈p/\s.2.1=x.2.2.1+1
 a1:∀x,x∈p.take s.2.2.1->x.1<=node
 a2:∀x,x∈p.drop s.2.2.1->node<x.1
theorem Qp{node:Int}{p:List Ev}{s:Int×Int×Nat×Nat}{x:Ev}(h:QI node p s)(hp:OO (p++[x])):QI node (p++[x]) (Oz node s x):=by
 have hlt:∀y,y∈p->Ll y x=true:=fun y hy=>(List.pairwise_append.1 hp).2.2 y hy x (List.mem_singleton.2 rfl);obtain⟨h1,h2,h3,h4,h5,h6,h7,h8⟩:=h;unfold Oz;refine⟨by simp[h1],?_,fun y hy hn=>?_,?_,fun y hy=>?_,?_,?_,?_⟩
 ·cases decide (x.1<=node) <;> simp <;> omega
 ·simp only[];rcases List.mem_append.1 hy with hy|hy
  ·by_cases hx:x.1=node
   ·rw[decide_eq_true hx];have:=hlt y hy;rw[K7]at this;simp only[cond_true];omega
   ·rw[decide_eq_false hx];exact h3 y hy hn
  ·rw[List.mem_singleton]at hy;subst hy;rw[decide_eq_true hn];simp only[cond_true];omega
 ·simp only[];by_cases hx:x.1=node
  ·rw[decide_eq_true hx];exact .inr ⟨x,by simp,hx,rfl⟩
  ·rw[decide_eq_false hx];rcases h4 with h4|⟨y,hy,h4⟩
   ·exact .inl h4
   ·exact .inr ⟨y,List.mem_append_left _ hy,h4⟩
 ·simp only[];rcases List.mem_append.1 hy with hy|hy
  ·have:=h5 y hy;omega
  ·rw[List.mem_singleton]at hy;subst hy;omega
 ·simp only[];by_cases hm:s.2.1<=x.2.2.1+1
  ·exact .inr ⟨x,by simp,by omega⟩
  ·rcases h6 with h6|⟨y,hy,h6⟩
   ·exact .inl (by omega)
   ·exact .inr ⟨y,List.mem_append_left _ hy,by omega⟩
 ·simp only[];by_cases hx:x.1<=node
  ·rw[decide_eq_true hx];intro y hy;rw[cond_true,h1,List.take_of_length_le (by simp)]at hy;rcases List.mem_append.1 hy with hy|hy
   ·have:=hlt y hy;rw[K7]at this;omega
   ·rw[List.mem_singleton]at hy;subst hy;exact hx
  ·rw[decide_eq_false hx];intro y hy;rw[cond_false,List.take_append_of_le_length h2]at hy;exact h7 y hy
 ·simp only[];by_cases hx:x.1<=node
  ·rw[decide_eq_true hx];intro y hy;rw[cond_true,h1,List.drop_of_length_le (by simp)]at hy;exact absurd hy List.not_mem_nil
  ·rw[decide_eq_false hx];intro y hy;rw[cond_false,List.drop_append_of_le_length h2]at hy;rcases List.mem_append.1 hy with hy|hy
   ·exact h8 y hy
   ·rw[List.mem_singleton]at hy;subst hy;omega
theorem Pq(node:Int):∀(l p:List Ev) (s:Int×Int×Nat×Nat),OO (p++l)->QI node p s->QI node (p++l) (l.foldl (Oz node) s)
 | [],p,s,_,h=>by simpa using h
 |x::l,p,s,hp,h=>by
  have e:p++x::l=(p++[x])++l:=by simp
  rw[e]at hp⊢;exact Pq node l (p++[x]) (Oz node s x) hp (Qp h (List.pairwise_append.1 hp).1)
theorem NA(node:Int){l:List Ev}(h:OO l):QI node l (MB l node):=by have:=Pq node l [] (1,1,0,0) (by simpa using h) ⟨rfl,Nat.le_refl _,fun x hx=>absurd hx List.not_mem_nil,.inl rfl,fun x hx=>absurd hx List.not_mem_nil,.inl rfl,fun x hx=>absurd (List.mem_of_mem_take hx) List.not_mem_nil,fun x hx=>absurd (List.mem_of_mem_drop hx) List.not_mem_nil⟩;exact this
theorem Ly{l:List Ev}{node kind Jl a b:Int}(z:Ev):z∈NE l node kind Jl a b↔z=P3 l node kind Jl a b\/z∈l:=by
 unfold NE;rw[List.mem_append,List.mem_append,List.mem_singleton];constructor
 ·rintro((h|h)|h)
  ·exact .inr (List.mem_of_mem_take h)
  ·exact .inl h
  ·exact .inr (List.mem_of_mem_drop h)
 ·rintro(h|h)
  ·exact .inl (.inr h)
  ·rw[<-List.take_append_drop (MB l node).2.2.1 l,List.mem_append]at h;rcases h with h|h
   ·exact .inl (.inl h)
   ·exact .inr h
theorem N6{l:List Ev}(h:OO l)(node kind Jl a b:Int):(NE l node kind Jl a b).length=l.length+1:=by have:=(NA node h).RG;unfold NE;simp only[List.length_append,List.length_take,List.length_drop,List.length_singleton];omega
theorem QH{l:List Ev}(h:OO l)(node kind Jl a b:Int):OO (NE l node kind Jl a b):=by
 have hi:=NA node h;have ht:∀y,y∈l.take (MB l node).2.2.1->Ll y (P3 l node kind Jl a b)=true:=fun y hy=>by
  rw[K7];have h1:=hi.a1 y hy;have h2:=hi.s1 y (List.mem_of_mem_take hy);show y.1<node\/y.1=node/\y.2.1<(MB l node).1;by_cases e:y.1=node
  ·exact .inr ⟨e,h2 e⟩
  ·exact .inl (by omega)
 have hd:∀y,y∈l.drop (MB l node).2.2.1->Ll (P3 l node kind Jl a b) y=true:=fun y hy=>by rw[K7];exact .inl (hi.a2 y hy)
 have h0:=h;rw[<-List.take_append_drop (MB l node).2.2.1 l,OO,List.pairwise_append]at h0;unfold NE OO;rw[List.pairwise_append,List.pairwise_append];refine⟨⟨h0.1,List.pairwise_singleton _ _,fun x hx y hy=>?_⟩,h0.2.1,fun x hx y hy=>?_⟩
 ·rw[List.mem_singleton]at hy;subst hy;exact ht x hx
 ·rcases List.mem_append.1 hx with hx|hx
  ·exact h0.2.2 x hx y hy
  ·rw[List.mem_singleton]at hx;subst hx;exact hd y hy
theorem QG{l:List Ev}(h:MA l=true){node kind Jl a b:Int}(hl:l.length+1<=60)(he:NB (P3 l node kind Jl a b)=true):MA (NE l node kind Jl a b)=true:=by
 have hs:=MX h;have hi:=NA node hs;refine R4 (by rw[N6 hs];exact hl) (fun x hx=>?_) (QH hs _ _ _ _ _) fun x hx y hy e1 e2=>?_
 ·rcases(Ly x).1 hx with pW|pW
  ·rw[pW];exact he
  ·exact Pj h x pW
 ·rcases(Ly x).1 hx with pW|pW <;> rcases(Ly y).1 hy with Qf|Qf
  ·rw[pW,Qf]at e2;omega
  ·have:=hi.s1 y Qf (by rw[<-e1,pW];rfl);rw[pW]at e2;have e2:(MB l node).1<y.2.1:=e2;omega
  ·rw[Qf];exact hi.p1 x pW
  ·exact QT h x pW y Qf e1 e2
theorem SA(l m:List Ev):List.append (α:=Ev) l m=l++m:=rfl
theorem P6(l:List Ev)(hj:MA l=true)(node kind Jl a b:Int)(same:List Ev):MH (l,node,()) (same,node,(1:Int),(1:Int),kind,Jl,a,b,(0:Int),(0:Int),())=some (.inl (same,node,(MB l node).1,(MB l node).2.1,kind,Jl,a,b,(((MB l node).2.2.1:Nat):Int),())):=by
 have UR:=L4 hj;refine(bI (body:=L6 (l,node,())) l bf (by omega) (Oz node) (fun(s:Int×Int×Nat×Nat) n=>(same,node,s.1,s.2.1,kind,Jl,a,b,((s.2.2.1:Nat):Int),(n:Int),())) (fun n s=>s.2.2.2=n) (fun s=>Sum.inl (same,node,s.1,s.2.1,kind,Jl,a,b,((s.2.2.1:Nat):Int),())) (fun n s hn hs=>⟨?_,by unfold Oz;simp[hs]⟩) (fun s hs=>?_) (1,1,0,0) rfl).1
 ·have he:=Od.1 (QS hj hn);unfold L6 Oz;simp only[aj,hn,decide_true,cond_true,ax,ak];revert he;generalize l.getD n bf=e;intro he;have e1:aa .add .i64 e.2.1 1=e.2.1+1:=bU (by omega) (by omega);have e2:aa .add .i64 e.2.2.1 1=e.2.2.1+1:=bU (by omega) (by omega);have e3:bK true s.2.1 (e.2.2.1+1)=max s.2.1 (e.2.2.1+1):=by unfold bK;simp <;> omega
  have e4:af .eql e.1 node=decide (e.1=node):=by simp[af,Bool.beq_eq_decide_eq]
  have e5:af .leq e.1 node=decide (e.1<=node):=rfl;simp only[e1,e2,e3,e4,e5,au (n:=n) (by omega),hs];cases decide (e.1=node) <;> cases decide (e.1<=node) <;> rfl
 ·unfold L6;simp only[aj,Nat.lt_irrefl,decide_false,cond_false]
theorem Ng(l:List Ev)(node kind Jl a b:Int)(hl:l.length<=1073741824):J3 l node kind Jl a b=some ((M3 l node kind Jl a b).1,(M3 l node kind Jl a b).2,()):=by
 unfold J3 M3;have l8:aE l=true:=L0 hl;simp only[NW,Option.bind_some,SA,List.nil_append,l8,cond_true];cases hj:MA l with
 |false=>rfl
 |true=>
  have UR:=L4 hj;have hi:=NA node (MX hj);have Vu:=hi.RG;simp only[Bool.not_true,cond_false,cond_true,P6 l hj,Option.bind_some,Sum.elim_inl,SA,List.nil_append];generalize hA:MB l node=A at Vu;have s1:cS l (0:Int) ((A.2.2.1:Nat):Int)=true:=by unfold cS;simp <;> omega
  have s2:cS l ((A.2.2.1:Nat):Int) (ai l)=true:=by unfold cS ai;simp <;> omega
  have t1:eR l (0:Int) ((A.2.2.1:Nat):Int)=l.take A.2.2.1:=by unfold eR;simp
  have t2:eR l ((A.2.2.1:Nat):Int) (ai l)=l.drop A.2.2.1:=by unfold eR ai;rw[Int.toNat_natCast,Int.toNat_natCast];exact List.take_of_length_le (by simp)
  have k1:aE (l.take A.2.2.1)=true:=L0 (by simp;omega);have k2:∀x:Ev,aE (l.take A.2.2.1++[x])=true:=fun x=>L0 (by simp;omega);have k3:∀x:Ev,aE (l.take A.2.2.1++[x]++l.drop A.2.2.1)=true:=fun x=>L0 (by simp;omega);simp only[s1,s2,t1,t2,k1,k2,k3,cond_true];have hw:NE l node kind Jl a b=l.take A.2.2.1++[(node,A.1,A.2.1,kind,Jl,a,b)]++l.drop A.2.2.1:=by unfold NE P3;rw[hA]
  rw[hw];cases MA (l.take A.2.2.1++[(node,A.1,A.2.1,kind,Jl,a,b)]++l.drop A.2.2.1) <;> rfl
end Go.Fn
set_option linter.unusedSimpArgs false
set_option linter.unusedVariables false
namespace Go.Fn
open Go.R Go.Sort
structure NP (n:Nat) (base:List Ev) (S:Int->Prop) (l:List Ev):Prop where
 j:MA l=true
 len:l.length<=n
 st:∀x,x∈l->x.2.2.1<=(n:Int)
 SL:∀x,x∈l->∀s:Int,1<=s->s<=x.2.1->∃y,y∈l/\y.1=x.1/\y.2.1=s
 sub:∀x,x∈base->x∈l
 new:∀x,x∈l->x∈base\/S x.1
theorem NP.mono{n m:Nat}{base:List Ev}{S:Int->Prop}{l:List Ev}(h:NP n base S l)(hm:n<=m):NP m base S l:=⟨h.j,by have:=h.len;omega,fun x hx=>by have:=h.st x hx;omega,h.SL,h.sub,h.new⟩
theorem NP.add{n:Nat}{base:List Ev}{S:Int->Prop}{l:List Ev}(h:NP n base S l){node:Int}(hS:S node)(kind Jl a b:Int):NP (n+1) base S (M3 l node kind Jl a b).1:=by
 unfold M3;rw[h.j];simp only[cond_true];cases hw:MA (NE l node kind Jl a b)with
 |false=>exact h.mono (Nat.le_succ _)
 |true=>
  have hs:=MX h.j;have hi:=NA node hs;simp only[cond_true];refine⟨hw,by rw[N6 hs];have:=h.len;omega,fun x hx=>?_,fun x hx s h1 h2=>?_,fun x hx=>(Ly x).2 (.inr (h.sub x hx)),fun x hx=>?_⟩
  ·rcases(Ly x).1 hx with e|e
   ·rw[e];show(MB l node).2.1<=_;rcases hi.p2 with p|⟨y,hy,p⟩
    ·rw[p];omega
    ·rw[p];have:=h.st y hy;omega
   ·have:=h.st x e;omega
  ·rcases(Ly x).1 hx with e|e
   ·subst e;have h2:s<=(MB l node).1:=h2;by_cases e:s=(MB l node).1
    ·exact⟨_,hx,rfl,e.symm⟩
    ·rcases hi.s2 with p|⟨y,hy,q,p⟩
     ·omega
     ·obtain⟨z,hz,e1,e2⟩:=h.SL y hy s h1 (by omega);exact⟨z,(Ly z).2 (.inr hz),by rw[e1,q];rfl,e2⟩
   ·obtain⟨z,hz,e1,e2⟩:=h.SL x e s h1 h2;exact⟨z,(Ly z).2 (.inr hz),e1,e2⟩
  ·rcases(Ly x).1 hx with e|e
   ·rw[e];exact .inr hS
   ·exact h.new x e
theorem Oq(b:List Int)(hb:b.length<=1048576)(i h:Int)(hi:0<=i){n:Nat}(hn:n<=1000){base:List Ev}{S:Int->Prop}{l:List Ev}(hl:NP n base S l){node:Int}(hS:S node):
  Yl (KW b i h l node) fun y=>NP (n+1) base S y.1/\y.2.1=b/\0<=y.2.2.1:=by
 have RY:l.length<=1073741824:=by have:=hl.len;omega
 unfold KW;refine(Ka b hb i h 4 hi (by omega)).bind fun y0 ⟨_,_,a3,a4⟩=>?_;rw[a3];refine(Ka b hb _ _ 4 a4 (by omega)).bind fun y1 ⟨_,_,b3,b4⟩=>?_;rw[b3];refine .cond (fun _=>?_) fun _=>?_
 ·refine(Ka b hb _ _ 3 b4 (by omega)).bind fun y2 ⟨_,_,c3,c4⟩=>?_;rw[c3];refine(Ka b hb _ _ 40 c4 (by omega)).bind fun y3 ⟨_,_,d3,d4⟩=>?_;rw[Ng l _ _ _ _ _ RY];exact .ret ⟨hl.add hS _ _ _ _,d3,d4⟩
 ·refine(Ka b hb _ _ 3 b4 (by omega)).bind fun y2 ⟨_,_,c3,c4⟩=>?_;rw[c3];refine(Ka b hb _ _ 40 c4 (by omega)).bind fun y3 ⟨_,_,d3,d4⟩=>?_;rw[Ng l _ _ _ _ _ RY];exact .ret ⟨hl.add hS _ _ _ _,d3,d4⟩
abbrev Sv:=(List Int)×Int×Int×(List Ev)×Int×Unit
abbrev Tg:=((List Int)×Int×Int×(List Ev)×Unit)⊕Empty
theorem OJ (b:List Int) (hb:b.length<=1048576) {body:Sv->Option (Sv⊕Tg)} {base:List Ev} {S:Int->Prop} (N:Nat) (hN:N<=100)
  (hbody:∀(i h Pd:Int) (l:List Ev) (n:Nat),0<=i->n<=200->NP n base S l->0<Pd->Yl (body (b,i,h,l,Pd,())) fun r=>match r with| .inl y=>y.1=b/\0<=y.2.1/\NP (n+1) base S y.2.2.2.1/\y.2.2.2.2.1=aa .sub .i64 Pd 1| .inr _=>False)
  (hend:∀(i h Pd:Int) (l:List Ev),¬(0<Pd)->body (b,i,h,l,Pd,())=some (.inr (.inl (b,i,h,l,()))))
  (i h Pd:Int) (l:List Ev) (hi:0<=i) (hc0:0<=Pd) (hc:Pd<=5) (hl:NP N base S l):
  Yl (iter body big (b,i,h,l,Pd,())) fun r=>match r with| .inl y=>y.1=b/\0<=y.2.1/\NP (N+5) base S y.2.2.2.1| .inr _=>False:=by
 refine Yl.loop (fun x=>x.1=b/\0<=x.2.1/\0<=x.2.2.2.2.1/\x.2.2.2.2.1<=5/\NP (N+(5-x.2.2.2.2.1).toNat) base S x.2.2.2.1) (fun x=>x.2.2.2.2.1.toNat) (fun x hx=>?_) big _ ⟨rfl,hi,hc0,hc,hl.mono (by omega)⟩ (aN (by show Pd.toNat<_;omega));obtain⟨xb,xi,xh,xl,xc,u⟩:=x;obtain⟨x1,x2,x3,x4,x5⟩:=hx;simp only[]at x1 x2 x3 x4 x5;subst x1;by_cases hp:0<xc
 ·refine(hbody xi xh xc xl _ x2 (by omega) x5 hp).mono fun r hr=>?_;match r,hr with
  | .inl y,⟨h1,h2,h3,h4⟩=>have e:aa .sub .i64 xc 1=xc-1:=bM (by omega) (by omega);rw[e]at h4;refine⟨⟨h1,h2,by omega,by omega,h3.mono (by omega)⟩,?_⟩;show y.2.2.2.2.1.toNat<xc.toNat;omega
 ·rw[hend xi xh xc xl hp];exact .ret ⟨rfl,x2,x5.mono (by omega)⟩
theorem Pw(a:Int):af .gtr a (0:Int)=decide (0<a):=rfl
theorem PJ(l:List Ev)(hl:l.length<=1073741824):Me l l=some (true,()):=by
 unfold Me;rw[PA];have Oe:Mi (l,l,()) ((0:Int),())=some (.inr (.inl ())):=by
  refine aU (body:=LF (l,l,())) (fun n=>((n:Int),())) l.length (by omega) _ (fun n hn=>?_) ?_
  ·unfold LF;simp only[aj,ax,hn,decide_true,cond_true,ak,Rk,Bool.not_true,aR,cond_false,au (n:=n) (by omega)]
  ·unfold LF;simp only[aj,Nat.lt_irrefl,decide_false,cond_false]
 rw[Oe];rfl
end Go.Fn
set_option linter.unusedSimpArgs false
set_option linter.unusedVariables false
namespace Go.Fn
open Go.R Go.Sort
abbrev Th(l:List Ev)(d:Array Int):Prop:=∀k,k<d.size->0<=d[k]! /\ d[k]! < l.length
theorem Th.perm{l:List Ev}{d d':Array Int}{a b:Nat}(h:Th l d)(hb:b<=d.size)(hp:PermIn a b d d'):Th l d':=by have h0:=permIn_mono d d' a b 0 d.size (Nat.zero_le _) hb (Nat.le_refl _) hp;have:=permIn_all d d' 0 d.size (fun x=>0<=x/\x<l.length) (Nat.le_refl _) h0 (fun i _ hi=>h i hi);exact fun k hk=>this k (Nat.zero_le _) (by rw[<-hp.1];exact hk)
end Go.Fn
set_option linter.unusedSimpArgs false
set_option linter.unusedVariables false
namespace Go.Fn
open Go.R Go.Sort
abbrev UZ:=Int×Int×Int×Int×Int×Int×Int
noncomputable def fst(r:List Int)(f:UZ)(n:Nat):Int×Int×Int×Int×Int×Int×Int×Int×Int×Int×Int×Int×Int×Int×(List Int)×Int×Unit:=(0,0,0,0,0,0,0,f.1,f.2.1,f.2.2.1,f.2.2.2.1,f.2.2.2.2.1,f.2.2.2.2.2.1,f.2.2.2.2.2.2,r,(n:Int),())
end Go.Fn
set_option linter.unusedSimpArgs false
set_option linter.unusedVariables false
namespace Go.Fn
open Go.R
section
variable {a0 a1:Int} {g:List (List Int)} {s:List Re}
noncomputable def lg(g:List (List Int))(p q:Int):Int:=Vz g p.toNat q.toNat
structure Bd (s:List Re) (k:Int) (st:S5):Prop where
 e0:0<=st.2.2.1
 e1:st.2.2.1<=20200
 p0:0<=st.2.2.2.2.2
 p1:st.2.2.2.2.2<=s.length
 l0:-(1000*k)<=st.1
 l1:st.1<=1000*k
structure Rel (g:List (List Int)) (s:List Re) (k c:Int) (SZ st:S5):Prop where
 b':Bd s k SZ
 b:Bd s k st
 t:∀q:Int,0<=q->q<=s.length->SZ.2.2.1+lg g SZ.2.2.2.2.2 q<=st.2.2.1+lg g st.2.2.2.2.2 q
 l:SZ.1<=st.1-c
 p:SZ.2.2.2.1<=st.2.2.2.1
end
end Go.Fn
set_option linter.unusedVariables false
set_option linter.unusedSimpArgs false
namespace Go.Fn
open Go.R
section
variable (a0 a1:Int) (g:List (List Int)) (s:List Re)
abbrev SB:Type:=Bool×Int×List Int×Unit
end
end Go.Fn
set_option linter.unusedVariables false
set_option linter.unusedSimpArgs false
namespace Go.Fn
open Go.R
noncomputable def RH(L:List Su)(i:Nat):Su:=L.getD i PR
noncomputable def QJ(L:List Su):Prop:=L.length<=1073741824/\∀c,c∈L->c.2.1.length<=1073741824/\c.2.2.length<=1073741824
theorem QJ.at{L:List Su}(h:QJ L){i:Nat}(hi:i<L.length):(RH L i).2.1.length<=1073741824/\(RH L i).2.2.length<=1073741824:=h.2 _ (LK hi _)
end Go.Fn
set_option linter.unusedVariables false
set_option linter.unusedSimpArgs false
namespace Go.Fn
open Go.R
noncomputable def Sm{α:Type}(P:α->Prop)(x y:Option α):Prop:=∃r,x=some r/\y=some r/\P r
section
variable {α β:Type} {P:α->Prop} {Q:β->Prop}
theorem Sm.ret{a:α}(h:P a):Sm P (some a) (some a):=⟨a,rfl,rfl,h⟩
theorem Sm.bind{x y:Option α}{f g:α->Option β}(hx:Sm P x y)(h:∀r,P r->Sm Q (f r) (g r)):Sm Q (x.bind f) (y.bind g):=by obtain⟨r,rfl,rfl,hr⟩:=hx;exact h r hr
theorem Sm.cond{b:Bool}{x y x' y':Option α}(hx:b=true->Sm P x x')(hy:b=false->Sm P y y'):Sm P (bif b then x else y) (bif b then x' else y'):=by
 cases b
 ·exact hy rfl
 ·exact hx rfl
theorem Sm.guard{b c:Bool}{x y:Option α}(hb:b=true)(hc:c=true)(h:Sm P x y):Sm P (bif b then x else none) (bif c then y else none):=by subst hb hc;exact h
theorem Sm.mono{P':α->Prop}{x y:Option α}(h:Sm P x y)(hp:∀r,P r->P' r):Sm P' x y:=by obtain⟨r,e1,e2,hr⟩:=h;exact⟨r,e1,e2,hp r hr⟩
theorem Sm.symm{x y:Option α}(h:Sm P x y):Sm P y x:=by obtain⟨r,e1,e2,hr⟩:=h;exact⟨r,e2,e1,hr⟩
end
end Go.Fn
set_option linter.unusedVariables false
set_option linter.unusedSimpArgs false
namespace Go.Fn
open Go.R
noncomputable def k3(k:Int):Bool:=af .eql (aa .rem .i64 k 3) 0
theorem SS{α:Type}{L:List α}{n:Nat}{a:α}(h:n<L.length):ah (L.set n a) (n:Int)=true:=by rw[jt];exact decide_eq_true h
end Go.Fn
set_option linter.unusedVariables false
set_option linter.unusedSimpArgs false
namespace Go.Fn
open Go.R
abbrev Wk:=List S6×List S6
end Go.Fn
set_option linter.unusedVariables false
set_option linter.unusedSimpArgs false
namespace Go.Fn
open Go.R
section
variable (a0 a1 a2 a3 a4 a5 a6 a7 a8 a9 a10:Int) (s:List Site) (p:List U1) (g:List U0) (j:List Ev)
variable (lg:List (List Int)) (wk:Int) (z0 z1:Int) (zg:List (List Int)) (zs:List Re) (b r:Int) (L:List (List Int)) (S:List Re) (I Pl:List Int)
theorem bits(x:Bool):Bool.not (Bool.not x)=x:=Bool.not_not x
end
end Go.Fn
namespace Go.R
open Go.Shelf Go.Proofs
def rZ(n:Int):Bool:=decide (-9223372036854775808<=n)&&decide (n<=9223372036854775807)
end Go.R
set_option linter.unusedVariables false
namespace Go.Fn
open Go.R
noncomputable def NY(a:Int):Rf:=cond (af .lss a 10) (some (aq .u8 (aa .add .i64 48 a),())) (some (aq .u8 (aa .sub .i64 (aa .add .i64 97 a) 10),()))
noncomputable def Nn(a:RS)(b:Int×Sk):Option (Int×Sk⊕Sk⊕Empty):=letI c:=b.2.1;letI d:=az 10;letI e:=aa .rem .i64 b.1 10;letI f:=aa .quo .i64 b.1 10;cond (af .neq b.1 0) (cond d none (cond (af .lss e 0) ((NY (DA .i64 e)).bind fun g=>cond (nL (lU (List.append (α:=Int) ([]:Nw) [g.1])) c) (cond d none (some (.inl (f,ByteArray.append (lU (List.append (α:=Int) ([]:Nw) [g.1])) c,())))) none) ((NY e).bind fun g=>cond (nL (lU (List.append (α:=Int) ([]:Nw) [g.1])) c) (cond d none (some (.inl (f,ByteArray.append (lU (List.append (α:=Int) ([]:Nw) [g.1])) c,())))) none))) (some (.inr (.inl (c,()))))
noncomputable def Np k x:=iter (Nn k) big x
noncomputable def NX(a:Int):Option Sk:=letI b:=af .lss a 0;cond (af .eql a 0) (some (ByteArray.mk #[48],())) ((Np (b,()) (a,ByteArray.mk #[],())).bind fun c=>Sum.elim (fun d=>cond b (cond (nL (ByteArray.mk #[45]) d.1) (some (ByteArray.append (ByteArray.mk #[45]) d.1,())) none) (some (d.1,()))) (fun d=>Empty.elim d) c)
noncomputable def strconv_Itoa(a:Int):Option Sk:=cond (rZ a) (some (ByteArray.mk (Lib.itoa a).toArray,())) none
noncomputable def NR(a:Int):Option Sk:=(strconv_Itoa a).bind fun b=>some (b.1,())
end Go.Fn
set_option linter.unusedVariables false
set_option linter.unusedSimpArgs false
namespace Go.Fn
open Go.R
noncomputable def noP(l:List Bx)(p:Int)(n:Nat):Bool:=Bool.not (af .eql (l.getD n S3).2.2.1 p)
theorem m1:NX (-1)=some (ByteArray.mk #[45,49],()):=by
 unfold NX;have h:iter (Nn (true,())) 2 (-1,ByteArray.mk #[],())=some (.inl (ByteArray.mk #[49],())):=by rfl
 have hl:Np (true,()) (-1,ByteArray.mk #[],())=_:=bh h (Nat.le_of_lt (aN (by omega)));rw[show af .eql (-1:Int) 0=false from rfl,show af .lss (-1:Int) 0=true from rfl,hl];rfl
theorem m2:NR (-1)=some (ByteArray.mk #[45,49],()):=by
 unfold NR strconv_Itoa;have:Lib.itoa (-1)=[45,49]:=by have h:=Lib.itoa_neg 1 (Nat.le_refl _);rw[Lib.decDigits_one (by decide)]at h;exact h
 rw[this];rfl
end Go.Fn
set_option linter.unusedVariables false
namespace Go.Fn
open Go.R
noncomputable def S2:Tm:=(0,0,0)
end Go.Fn
set_option linter.unusedVariables false
namespace Go.Fn
open Go.R
abbrev Gp:=Int×Int×Int
noncomputable def RQ(l:List Bx)(o:List Gp):Prop:=∀g,g∈o->∃b,b∈l/\g.2.1=b.1
theorem RQ.put{l:List Bx}{o:List Gp}(h:RQ l o){i:Int}(h0:0<=i)(h1:i<(o.length:Int))(z z':Int):RQ l (aC o i (z,(ae S2 o i).2.1,z')):=by
 intro g hg;unfold aC at hg;rcases List.mem_or_eq_of_mem_set hg with hg|hg
 ·exact h g hg
 ·have hm:ae S2 o i∈o:=by
   unfold ae;rw[List.getD_eq_getElem?_getD,List.getElem?_eq_getElem (by omega)];exact List.getElem_mem _
  obtain⟨b,hb,e⟩:=h _ hm;subst hg;exact⟨b,hb,e⟩
end Go.Fn
set_option linter.unusedVariables false
set_option linter.unusedSimpArgs false
namespace Go.R
variable {H:Nat->Value}
section
variable {A:oC} {M:Type}
def Na:Nat:=65536
def TV.bare(v:TV A):TV A:=match v with| .GR ..=>.dead|v=>v
def TV.hold(i:Nat)(v:TV A):TV A:=match v with| .one l=>.GR i (false,[l])| .agg ls=>.GR i (true,ls)|_=>.dead
def TV.OZ(i:Nat)(v:TV A):TV A:=match v with| .GR j c=>bif Nat.beq j i then TV.mk c.1 c.2 else .dead|_=>.dead
def SS(args:List (TV A))(s:St A):St A:=⟨fun i=>bif Nat.ble Na i then(s.sl (i-Na)).hold (i-Na)else(args.getD i .dead).bare,s.ob⟩
def OW(id g off:Nat):List (TV A)->Nat->Option Nat
 | [],_=>none
 |v::vs,j=>match v with
  | .one (.ptr id' g' off')=>bif Nat.beq id id'&&(Nat.beq g g'&&Nat.beq off off')then some j else OW id g off vs (j+1)
  |_=>OW id g off vs (j+1)
def QW(c:Code)(args:List (TV A))(s s1:St A)(i:Nat):TV A:=match s.sl i with
 | .one (.ptr id g off)=>bif (dA s id g).isSome then(match OW id g off args 0 with
   |some j=>bif cP [j] c then(s1.sl j).bare else .dead
   |none=>(s1.sl (Na+i)).OZ i)else .dead
 |_=>(s1.sl (Na+i)).OZ i
def QA(c:Code)(args:List (TV A))(s s1:St A):St A:=⟨fun i=>QW c args s s1 i,s1.ob⟩
def PW(E:Env)(C:xO real M)(Φ:bV->Option (Callee real M))(L:Lk real M)(c:Code)(res:List ResultVar):Inl real M:=fun args s k=>
 bif Nat.ble args.length E.nt&&Nat.ble E.nt Na then
  exec E C Φ L 0 c (SS args s) fun ex s1=>bif ex.done then ar C (nM E s1 res) fun cg=>k (TV.mL cg).bare (QA c args s s1)
  else C.fail
 else C.fail
end
def O4(P:Program)(f:FuncId)(t:(R:Type)->Inl real (Option R)):Prop:=
 ∀(E:Env) (H:Nat->Value) (R:Type) (o:Oper) (args:Array Operand) (fG:Array Nat) (ω:aJ) (a:Act) (w:World) (s:S) (k:S->Option R) (r:R) (Q:Exit->Act->World->Prop),
  o.op=.call ⟨.value (.func f),args,fG⟩->args.size=fG.size->Rel H ω a w s->(∀d,o.dst=some d->d<a.tmps.size) ->
  t R ((args.toList.zip fG.toList).map fun p=>ev E s p.2 p.1) s (fun v s1=>k (s1.ck o.dst v))=some r->o.wp P a w (Ends H ω a w o.dst k r) Q
section
variable {R:Type} {P:Program} {E:Env} {Ψ:bV->Option ij} {Λ:Nat->Option eB} {ω:aJ} {a:Act} {w:World} {s:S}
theorem dh.bare{H H':Nat->Value}{s':S}(hs:s'.ob=s.ob)(hd:∀b k,ω b=some k->b<w.heap.size){u:Value}{tv:cm}(h:dh H w ω s u tv):dh H' w ω s' u tv.bare:=by
 have tr:∀id,Tr w ω s w ω s' id:=fun id=>Tr.mM hd (by rw[hs]);cases tv with
 |one l=>exact cA.frame (dr.refl _ _) tr h
 |agg ls=>obtain⟨us,h1,h2⟩:=h;exact⟨us,h1,h2.mono fun _ _ hc=>cA.frame (dr.refl _ _) tr hc⟩
 |nR cs=>obtain⟨us,h1,h2⟩:=h;exact⟨us,h1,h2.mono fun _ _ hc=>nV.frame (dr.refl _ _) tr hc⟩
 |GR _ _=>trivial
theorem Rn(h:Rel H ω a w s){a':Act}(Vv:a'.defers=[]){cg:List cm}{us:List Value}(hall:bj (dh H w ω s) us cg)(B9:∀i u,us[i]? = some u->a'.tmps.getD i undef=u):Rel (fun i=>a.tmps.getD i undef) ω a' w (SS cg s) where
 dP:=h.dP
 inj:=h.inj
 dom:=h.dom
 defers:=Vv
 dR:=h.dR
 slots i:=by
  have tr:∀id,Tr w ω s w ω (SS cg s) id:=fun id=>Tr.mM h.dom rfl;show dh _ w ω (SS cg s) _ (bif Nat.ble Na i then(s.sl (i-Na)).hold (i-Na)else(cg.getD i .dead).bare);cases hb:Nat.ble Na i with
  |true=>
   have hj:=h.slots (i-Na);simp only[cond_true];revert hj;generalize i-Na=j;intro hj;cases jO:s.sl j with
   |one l=>
    rw[jO]at hj;intro l' e;injection e with e
    subst e;exact cA.frame (dr.refl _ _) tr hj
   |agg ls=>rw[jO]at hj;obtain⟨us,h1,h2⟩:=hj;exact⟨us,h1,h2.mono fun _ _ hc=>cA.frame (dr.refl _ _) tr hc⟩
   |nR _=>trivial
   |GR _ _=>trivial
  |false=>
   simp only[cond_false];rw[List.getD_eq_getElem?_getD];cases hq:cg[i]? with
   |none=>trivial
   |some tv=>obtain⟨u,hu,hr⟩:=hall.get i tv hq;rw[B9 i u hu];exact dh.bare rfl h.dom hr
 dB id cells hc:=by obtain⟨b,arr,T,h1,h2,h3⟩:=h.dB id cells hc;exact⟨b,arr,T,h1,h2,h3.mono fun _ _ hl=>cA.frame (dr.refl _ _) (fun id=>Tr.mM h.dom rfl) hl⟩
theorem PF{id g off:Nat}:∀(vs:List cm) (j0 j:Nat),OW id g off vs j0=some j->∃i,j=j0+i/\vs[i]? = some (.one (.ptr id g off))
 | [],_,_,h=>nomatch h
 |v::vs,j0,j,h=>by
  have rest:OW id g off vs (j0+1)=some j->∃i,j=j0+i/\(v::vs)[i]? = some (.one (.ptr id g off)):=fun h=>by obtain⟨i,h1,h2⟩:=PF vs (j0+1) j h;exact⟨i+1,by omega,by simpa using h2⟩
  unfold OW at h;split at h
  ·rename_i id' g' off';cases hb:(Nat.beq id id'&&(Nat.beq g g'&&Nat.beq off off'))with
   |true=>rw[hb]at h;simp only[Bool.and_eq_true]at hb;obtain⟨h1,h2,h3⟩:=hb;rw[Nat.eq_of_beq_eq_true h1,Nat.eq_of_beq_eq_true h2,Nat.eq_of_beq_eq_true h3];exact⟨0,(Option.some.inj h).symm,rfl⟩
   |false=>rw[hb]at h;exact rest h
  ·exact rest h
theorem Q7{s1 s2:S}(hd:∀b k,ω b=some k->b<w.heap.size)(hs:s2.ob=s1.ob){v0:Value}{i:Nat}{tv:cm}(h:dh (fun i=>a.tmps.getD i undef) w ω s1 v0 tv):dh H w ω s2 (a.tmps.getD i undef) (tv.OZ i):=by
 have tr:∀id,Tr w ω s1 w ω s2 id:=fun id=>Tr.mM hd (by rw[hs]);cases tv with
 |GR j c=>
  simp only[TV.OZ];cases hb:Nat.beq j i with
  |false=>trivial
  |true=>
   have:=Nat.eq_of_beq_eq_true hb;subst this;have hj:nV w ω s2 (a.tmps.getD j undef) c:=nV.frame (dr.refl _ _) tr h;obtain⟨ag,ls⟩:=c;cases ag with
   |true=>exact hj
   |false=>
    match ls,hj with
    | [],_=>trivial
    | [l],hj=>exact hj l rfl
    |_::_::_,_=>trivial
 |_=>trivial
theorem QV {w1:World} {bi:aJ} {s1:S} {a1:Act} {c:Code} {cg:List cm} {us:List Value} (h:Rel H ω a w s) (hall:bj (dh H w ω s) us cg) (h1:Rel (fun i=>a.tmps.getD i undef) bi a1 w1 s1)
  (hp:∀j u,cP [j] c=true->us[j]? = some u->a1.tmps.getD j undef=u):Rel H bi a w1 (QA c cg s s1) where
 dP:=h1.dP
 inj:=h1.inj
 dom:=h1.dom
 defers:=h.defers
 dR:=h1.dR
 slots i:=by
  have held:dh H w1 bi (QA c cg s s1) (a.tmps.getD i undef) ((s1.sl (Na+i)).OZ i):=Q7 h1.dom rfl (h1.slots (Na+i));have hi:=h.slots i;have e:(QA c cg s s1).sl i=QW c cg s s1 i:=rfl;rw[e];unfold QW;split
  ·rename_i id g off jO;rw[jO]at hi;cases hb:dA s id g with
   |none=>trivial
   |some ls=>
    simp only[Option.isSome_some,cond_true];cases hq:OW id g off cg 0 with
    |none=>exact held
    |some j=>
     simp only;cases hf:cP [j] c with
     |false=>trivial
     |true=>obtain⟨j',e1,e2⟩:=PF cg 0 j hq;rw[Nat.zero_add]at e1;subst e1;obtain⟨u,hu,hr⟩:=hall.get j _ e2;obtain⟨f1,f2⟩:=cZ hb;obtain⟨b,g1,g2⟩:=hi.2 f1 ls f2;obtain⟨b',g3,g4⟩:=(show xR ω s u id g off from hr).2 f1 ls f2;have:=h.inj _ _ _ g1 g3;subst this;have hs:=h1.slots j;rw[hp j u hf hu,g4,<-g2]at hs;exact dh.bare rfl h1.dom hs
  ·exact held
 dB id cells hc:=by obtain⟨b,arr,T,q1,q2,q3⟩:=h1.dB id cells hc;exact⟨b,arr,T,q1,q2,q3.mono fun _ _ hl=>cA.frame (dr.refl _ _) (fun id=>Tr.mM h1.dom rfl) hl⟩
theorem Rw{w':World}{aI:aJ}{s':S}:∀ {us:List Value} {cg:List cm},bj (dh H w' aI s') us cg->dh H w' aI s' (match us with| [u]=>u|us=>.tuple us.toArray) (TV.mL cg)
 | [],[],_=>⟨[],rfl,trivial⟩
 | [u],[t],h=>h.1
 |u::u'::us,t::t'::ts,h=>⟨u::u'::us,rfl,bj.Ge TV.comp |>.2 (h.mono fun _ _ hc=>zF hc)⟩
 | [],_::_,h=>h.elim
 |_::_,[],h=>h.elim
 | [_],_::_::_,h=>h.2.elim
 |_::_::_,[_],h=>h.2.elim
theorem R2 {Ξ:Inls} (hI:StepInl P E Ξ) (hE:cq P E) (EP:∀f F, Ψ f = some F -> eA P f.1 F) {pl:Nat -> Bool} {f:FuncId} {fn:Func} {c:Code} (h1:P.funcs[f]? = some fn) (h2:(fn.name == "runtime.NumGoroutine") = false) (h3:fn.body = some c)
  (hnt:fn.ntmps=E.nt) (hL:fp P E Λ (dl 0 c)):O4 P f fun R=>PW E (aP R) (kZ Ψ R) (lkt Λ Ξ pl R) c fn.results.toList:=by
 intro E0 H R o args fG ω a w s k r Q ho hsz h hd hk;have pV:args.toList.length=fG.toList.length:=by simpa using hsz
 have hall:=w9 h E0 args.toList fG.toList pV;revert hk;generalize (List.map (fun p=>ev E0 s p.snd p.fst) (args.toList.zip fG.toList))=cg at hall;intro hk;have hrun:(execOp a.eval o).run P w=.ok (.enter f (args.toList.map a.eval).toArray) w:=by
  unfold execOp;have e1:a.eval (.func f)=.func (.func f) #[] #[]:=rfl;simp only[ho,resolve,e1,Deferred.ofValue];have hargs:#[]++args.map a.eval ++ #[]=(args.toList.map a.eval).toArray:=by apply Array.ext';simp
  simp only[Sem.run_bind,Sem.run_pure,Result.andThen_ok,invoke];rw[hargs];exact MuLone.run_callFunc_enter h1 h2 h3 _ w
 unfold Oper.wp;rw[hrun];simp only[Oper.upon];have hlen:=hall.length;simp only[PW]at hk;cases hb:(Nat.ble cg.length E.nt&&Nat.ble E.nt Na)with
 |false=>rw[hb]at hk;cases hk
 |true=>
 rw[hb]at hk;simp only[cond_true]at hk;rw[Bool.and_eq_true]at hb;have VK:=Nat.le_of_ble_eq_true hb.1;generalize B9:args.toList.map a.eval=us at hall hlen;refine calls_of_wp h1 h3 ?_;have TA:(us.toArray++Array.replicate (fn.ntmps-us.toArray.size) undef).size=E.nt:=by simp;omega
 have oD:∀i u,us[i]? = some u->(us.toArray++Array.replicate (fn.ntmps-us.toArray.size) undef).getD i undef=u:=fun i u hu=>by have hi:i<us.length:=(List.getElem?_eq_some_iff.1 hu).1;rw[Array.getD_eq_getD_getElem?,Array.getElem?_append_left (by simpa using hi)];simp[hu]
 have hR:=Rn h (a':={ tmps:=us.toArray++Array.replicate (fn.ntmps-us.toArray.size) undef,defers:=[] }) rfl hall oD;have hx:=jq hE (sI (E:=E) EP) hI (U:=fun j=>cP [j] c=true) c 0 ω _ w _ _ (fun j hj=>hj) hL TA hR hk;refine wp_mono hx fun e a1 w' hp=>?_;obtain⟨ex,aI,s1,q1,q2,q3,q4,q5,q6⟩:=hp;dsimp only at q4;cases hdn:ex.done with
 |false=>rw[hdn]at q4;cases q4
 |true=>
 rw[hdn]at q4;simp only[cond_true]at q4;obtain⟨Se,t1,q7⟩:=aA q4;obtain⟨VF,u1,u2⟩:=Bj hE q2 fn.results.toList Se t1;obtain⟨v1,SQ,xw⟩:∃v,(results fn a1.tmps).run P w'=.ok v w'/\dh (fun i=>a.tmps.getD i undef) w' aI s1 v (TV.mL Se):=by
  have q:=wN (fn:=fn) u1;have z:=Rw u2;revert q z;match VF with
  | []=>exact fun q z=>⟨_,q,z⟩
  | [_]=>exact fun q z=>⟨_,q,z⟩
  |_::_::_=>exact fun q z=>⟨_,q,z⟩
 have Vr:Rel H aI a w' (QA c cg s s1):=QV h hall q2 fun j u hf hu=>(q6 j hf).trans (oD j u hu);have hres:dh H w' aI (QA c cg s s1) v1 (TV.mL Se).bare:=dh.bare (s:=s1) rfl q2.dom xw;have oc:a1.defers=[]/\∃v,(results fn a1.tmps).run P w'=.ok v w'/\Ends H ω a w o.dst k r (a.put o.dst v) w':=⟨q2.defers,_,SQ,dZ Vr q3 hd hres q7⟩
 cases ex with
 |normal=>
  cases e with
  |normal=>exact oc
  |_=>cases q1
 |ret=>
  cases e with
  |ret=>exact oc
  |_=>cases q1
 |exit _=>cases hdn
end
abbrev Xl:=List (FuncId×((R:Type)->Inl real (Option R)))
def O7:List (FuncId×((R:Type)->Inl real (Option R)))->Inls
 | [],_=>none
 |(f,t)::r,n=>bif Nat.beq f n then some t else O7 r n
def Po(P:Program):List (FuncId×((R:Type)->Inl real (Option R)))->Prop
 | []=>True
 |p::r=>O4 P p.1 p.2/\Po P r
theorem Py{P:Program}:∀ {l},Po P l->∀f t,O7 l f=some t->O4 P f t
 | [],_,_,_,h=>nomatch h
 |(g,u)::l,hl,f,t,h=>by
  simp only[O7]at h;cases hb:Nat.beq g f with
  |true=>rw[hb]at h;have h:=Option.some.inj h;subst h;have:=hl.1;rw[Nat.eq_of_beq_eq_true hb]at this;exact this
  |false=>rw[hb]at h;exact Py hl.2 f t h
theorem OY{P:Program}{E:Env}{l}(h:Po P l):StepInl P E (O7 l):=fun H R o f t args fG ω a w s k r Q ho hf hsz hR hd hk=>Py h f t hf E H R o args fG ω a w s k r Q ho hsz hR hd hk
noncomputable def QR(E:Env)(T:List (bV×ij))(m:List (Nat×eB))(pl:List Nat)(X:List (FuncId×((R:Type)->Inl real (Option R))))(fn:Func):(R:Type)->Inl real (Option R):=fun R=>PW E (aP R) (kZ (uX T) R) (lkt (qc m) (O7 X) (fun n=>pl.any (Nat.beq n)) R) (body fn) fn.results.toList
def SD(fn:Func)(nt:Nat)(m:List (Nat × eB)):Bool:=!(fn.name == "runtime.NumGoroutine")&&(fn.body.isSome&&(Nat.beq fn.ntmps nt&&oh (dl 0 (body fn)) m))
theorem ik{P:Program}{E:Env}(hE:cq P E){T:List (bV×ij)}(hT:tT P T)(m:List (Nat×eB))(pl:List Nat){X}(hX:Po P X){f:FuncId}{fn:Func}(hm:DW P E 0 (body fn) m 0)(h1:P.funcs[f]? = some fn)(hc:SD fn E.nt m=true):O4 P f (QR E T m pl X fn):=by
 simp only[SD,Bool.and_eq_true,Bool.not_eq_true']at hc;obtain⟨c1,c2,c3,c4⟩:=hc;have hb:fn.body=some (body fn):=by
  unfold body;cases h:fn.body with
  |none=>rw[h]at c2;cases c2
  |some c=>rfl
 exact R2 (OY hX) hE (qb hT) h1 c1 hb (Nat.eq_of_beq_eq_true c3) (xD c4 hm)
theorem U3 {P:Program} {E:Env} (hE:cq P E) {T:List (bV×ij)} (hT:tT P T) (m:List (Nat×eB)) {X} (hX:Po P X) {f:FuncId} {ks:List Nat} {fn:Func} {F:ij} (hm:DW P E 0 (body fn) m 0) (h1:P.funcs[f]? = some fn)
  (hc:D5 fn E.nt F.args.length m=true)
  (hfn:∀x,F.fn x=exec E (aP _) (kZ (uX T) _) (lkt (qc m) (O7 X) noP _) 0 (body fn) (wc F.args (co _ x)) fun ex s=>bif ex.done then finish E (body fn) F.look F.args F.aT _ fn.results.toList s else none):tT P (((f,ks),F)::T):=by
 simp only[D5,Bool.and_eq_true,Bool.not_eq_true']at hc;obtain⟨c1,c2,c3,c4,c5⟩:=hc;have hb:fn.body=some (body fn):=by
  unfold body;cases h:fn.body with
  |none=>rw[h]at c2;cases c2
  |some c=>rfl
 exact⟨func_okI (OY hX) hE (qb hT) h1 c1 hb (Nat.eq_of_beq_eq_true c3) (Nat.le_of_ble_eq_true c4) (xD c5 hm) hfn,hT⟩
end Go.R
set_option linter.unusedVariables false
namespace Go.Fn
open Go.R
noncomputable def KC(a:Unit)(b:Sx):S8:=letI c:=b.2.2;cond (af .gtr c.2.2.1 0) ((cF b.1 b.2.1 c.1 3).bind fun d=>(KW d.2.1 d.2.2.1 d.2.2.2.1 c.2.1 d.1).bind fun e=>some (.inl (e.2.1,e.2.2.1,e.2.2.2.1,e.1,aa .sub .i64 c.2.2.1 1,()))) (some (.inr (.inl (b.1,b.2.1,c.1,c.2.1,()))))
noncomputable def K9 k x:=iter (KC k) big x
noncomputable def LL(a:Unit)(b:Tj):UB:=letI c:=b.2.2.2;cond (af .gtr c.2.2.1 0) ((Js b.1 b.2.1 b.2.2.1 (List.append (α:=Int) (List.append (α:=Int) (List.append (α:=Int) ([]:Nw) [(0:Int)]) [(1:Int)]) [(1:Int)])).bind fun d=>(KW d.2.1 d.2.2.1 d.2.2.2.1 c.1 d.1).bind fun e=>some (.inl (e.2.1,e.2.2.1,e.2.2.2.1,e.1,c.2.1,aa .sub .i64 c.2.2.1 1,()))) (some (.inr (.inl (b.1,b.2.1,b.2.2.1,c.1,c.2.1,()))))
noncomputable def JW k x:=iter (LL k) big x
noncomputable def LM(a:Unit)(b:Tj):UB:=letI c:=b.2.2.2;cond (af .gtr c.2.2.1 0) ((Js b.1 b.2.1 b.2.2.1 (List.append (α:=Int) (List.append (α:=Int) (List.append (α:=Int) ([]:Nw) [(2:Int)]) [(3:Int)]) [(5:Int)])).bind fun d=>(KW d.2.1 d.2.2.1 d.2.2.2.1 c.2.1 d.1).bind fun e=>some (.inl (e.2.1,e.2.2.1,e.2.2.2.1,c.1,e.1,aa .sub .i64 c.2.2.1 1,()))) (some (.inr (.inl (b.1,b.2.1,b.2.2.1,c.1,c.2.1,()))))
noncomputable def I3 k x:=iter (LM k) big x
noncomputable def M0(a:Nw)(b c:Int):Tl:=(cF a b c 6).bind fun d=>letI e:=([]:Ml);(K9 () (d.2.1,d.2.2.1,d.2.2.2.1,e,d.1,())).bind fun f=>Sum.elim (fun g=>(cF g.1 g.2.1 g.2.2.1 6).bind fun h=>letI i:=(1:Int);letI j:=(0:Int);letI k:=(3:Int);letI l:=(5:Int);letI m:=(40:Int);letI n:=(4:Int);letI o:=g.2.2.2.1;cond (af .gtr h.1 j) ((Js h.2.1 h.2.2.1 h.2.2.2.1 (List.append (α:=Int) (List.append (α:=Int) (List.append (α:=Int) ([]:Nw) [j]) [i]) [i])).bind fun p=>(cF p.2.1 p.2.2.1 p.2.2.2.1 n).bind fun q=>(cF q.2.1 q.2.2.1 q.2.2.2.1 n).bind fun r=>letI s:=aa .add .i64 i q.1;letI t:=aa .sub .i64 h.1 i;letI u:=cF r.2.1 r.2.2.1 r.2.2.2.1 k;cond (af .eql s 2) (u.bind fun v=>(cF v.2.1 v.2.2.1 v.2.2.2.1 m).bind fun w=>(J3 o p.1 s (aa .add .i64 i v.1) j w.1).bind fun x=>(JW () (w.2.1,w.2.2.1,w.2.2.2.1,x.1,o,t,())).bind fun y=>Sum.elim (fun z=>(cF z.1 z.2.1 z.2.2.1 6).bind fun A=>letI B:=A.2.2;letI C:=z.2.2.2;cond (af .gtr A.1 j) ((Js A.2.1 B.1 B.2.1 (List.append (α:=Int) (List.append (α:=Int) (List.append (α:=Int) ([]:Nw) [(2:Int)]) [k]) [l])).bind fun D=>(cF D.2.1 D.2.2.1 D.2.2.2.1 n).bind fun E=>(cF E.2.1 E.2.2.1 E.2.2.2.1 n).bind fun F=>letI G:=aa .add .i64 i E.1;letI H:=aa .sub .i64 A.1 i;letI I:=cF F.2.1 F.2.2.1 F.2.2.2.1 k;cond (af .eql G 2) (I.bind fun J=>(cF J.2.1 J.2.2.1 J.2.2.2.1 m).bind fun K=>(J3 C.2.1 D.1 G (aa .add .i64 i J.1) j K.1).bind fun L=>(I3 () (K.2.1,K.2.2.1,K.2.2.2.1,C.1,L.1,H,())).bind fun M=>Sum.elim (fun N=>letI O:=N.2.2;(Jq O.2.1 O.2.2.1).bind fun P=>cond (Bool.not P.2.1) (some (O.2.1,N.1,N.2.1,O.1,())) ((Jr N.1 N.2.1 O.1 k).bind fun Q=>letI R:=P.1;letI S:=Q.2.2;letI T:=ai R;cond Q.1 (some (O.2.1,Q.2.1,S.1,S.2.1,())) (cond (af .gtr T j) ((Jr Q.2.1 S.1 S.2.1 l).bind fun U=>cond U.1 ((cF U.2.1 U.2.2.1 U.2.2.2.1 T).bind fun V=>letI W:=aa .add .i64 V.1 i;letI X:=eR R j V.1;cond (cS R j V.1) (cond (aE (List.append (α:=Kk) e X)) (cond (cS R W T) (cond (aE (List.append (α:=Kk) (List.append (α:=Kk) e X) (eR R W T))) (some (List.append (α:=Kk) (List.append (α:=Kk) e X) (eR R W T),V.2.1,V.2.2.1,V.2.2.2.1,())) none) none) none) none) (some (R,U.2.1,U.2.2.1,U.2.2.2.1,()))) (some (R,Q.2.1,S.1,S.2.1,()))))) (fun N=>Empty.elim N) M) (I.bind fun J=>(cF J.2.1 J.2.2.1 J.2.2.2.1 m).bind fun K=>(J3 C.2.1 D.1 G (aa .add .i64 i J.1) F.1 K.1).bind fun L=>(I3 () (K.2.1,K.2.2.1,K.2.2.2.1,C.1,L.1,H,())).bind fun M=>Sum.elim (fun N=>letI O:=N.2.2;(Jq O.2.1 O.2.2.1).bind fun P=>cond (Bool.not P.2.1) (some (O.2.1,N.1,N.2.1,O.1,())) ((Jr N.1 N.2.1 O.1 k).bind fun Q=>letI R:=P.1;letI S:=Q.2.2;letI T:=ai R;cond Q.1 (some (O.2.1,Q.2.1,S.1,S.2.1,())) (cond (af .gtr T j) ((Jr Q.2.1 S.1 S.2.1 l).bind fun U=>cond U.1 ((cF U.2.1 U.2.2.1 U.2.2.2.1 T).bind fun V=>letI W:=aa .add .i64 V.1 i;letI X:=eR R j V.1;cond (cS R j V.1) (cond (aE (List.append (α:=Kk) e X)) (cond (cS R W T) (cond (aE (List.append (α:=Kk) (List.append (α:=Kk) e X) (eR R W T))) (some (List.append (α:=Kk) (List.append (α:=Kk) e X) (eR R W T),V.2.1,V.2.2.1,V.2.2.2.1,())) none) none) none) none) (some (R,U.2.1,U.2.2.1,U.2.2.2.1,()))) (some (R,Q.2.1,S.1,S.2.1,()))))) (fun N=>Empty.elim N) M)) ((Jq C.1 C.2.1).bind fun D=>cond (Bool.not D.2.1) (some (C.1,A.2.1,B.1,B.2.1,())) ((Jr A.2.1 B.1 B.2.1 k).bind fun E=>letI F:=D.1;letI G:=E.2.2;letI H:=ai F;cond E.1 (some (C.1,E.2.1,G.1,G.2.1,())) (cond (af .gtr H j) ((Jr E.2.1 G.1 G.2.1 l).bind fun I=>cond I.1 ((cF I.2.1 I.2.2.1 I.2.2.2.1 H).bind fun J=>letI K:=aa .add .i64 J.1 i;letI L:=eR F j J.1;cond (cS F j J.1) (cond (aE (List.append (α:=Kk) e L)) (cond (cS F K H) (cond (aE (List.append (α:=Kk) (List.append (α:=Kk) e L) (eR F K H))) (some (List.append (α:=Kk) (List.append (α:=Kk) e L) (eR F K H),J.2.1,J.2.2.1,J.2.2.2.1,())) none) none) none) none) (some (F,I.2.1,I.2.2.1,I.2.2.2.1,()))) (some (F,E.2.1,G.1,G.2.1,())))))) (fun z=>Empty.elim z) y) (u.bind fun v=>(cF v.2.1 v.2.2.1 v.2.2.2.1 m).bind fun w=>(J3 o p.1 s (aa .add .i64 i v.1) r.1 w.1).bind fun x=>(JW () (w.2.1,w.2.2.1,w.2.2.2.1,x.1,o,t,())).bind fun y=>Sum.elim (fun z=>(cF z.1 z.2.1 z.2.2.1 6).bind fun A=>letI B:=A.2.2;letI C:=z.2.2.2;cond (af .gtr A.1 j) ((Js A.2.1 B.1 B.2.1 (List.append (α:=Int) (List.append (α:=Int) (List.append (α:=Int) ([]:Nw) [(2:Int)]) [k]) [l])).bind fun D=>(cF D.2.1 D.2.2.1 D.2.2.2.1 n).bind fun E=>(cF E.2.1 E.2.2.1 E.2.2.2.1 n).bind fun F=>letI G:=aa .add .i64 i E.1;letI H:=aa .sub .i64 A.1 i;letI I:=cF F.2.1 F.2.2.1 F.2.2.2.1 k;cond (af .eql G 2) (I.bind fun J=>(cF J.2.1 J.2.2.1 J.2.2.2.1 m).bind fun K=>(J3 C.2.1 D.1 G (aa .add .i64 i J.1) j K.1).bind fun L=>(I3 () (K.2.1,K.2.2.1,K.2.2.2.1,C.1,L.1,H,())).bind fun M=>Sum.elim (fun N=>letI O:=N.2.2;(Jq O.2.1 O.2.2.1).bind fun P=>cond (Bool.not P.2.1) (some (O.2.1,N.1,N.2.1,O.1,())) ((Jr N.1 N.2.1 O.1 k).bind fun Q=>letI R:=P.1;letI S:=Q.2.2;letI T:=ai R;cond Q.1 (some (O.2.1,Q.2.1,S.1,S.2.1,())) (cond (af .gtr T j) ((Jr Q.2.1 S.1 S.2.1 l).bind fun U=>cond U.1 ((cF U.2.1 U.2.2.1 U.2.2.2.1 T).bind fun V=>letI W:=aa .add .i64 V.1 i;letI X:=eR R j V.1;cond (cS R j V.1) (cond (aE (List.append (α:=Kk) e X)) (cond (cS R W T) (cond (aE (List.append (α:=Kk) (List.append (α:=Kk) e X) (eR R W T))) (some (List.append (α:=Kk) (List.append (α:=Kk) e X) (eR R W T),V.2.1,V.2.2.1,V.2.2.2.1,())) none) none) none) none) (some (R,U.2.1,U.2.2.1,U.2.2.2.1,()))) (some (R,Q.2.1,S.1,S.2.1,()))))) (fun N=>Empty.elim N) M) (I.bind fun J=>(cF J.2.1 J.2.2.1 J.2.2.2.1 m).bind fun K=>(J3 C.2.1 D.1 G (aa .add .i64 i J.1) F.1 K.1).bind fun L=>(I3 () (K.2.1,K.2.2.1,K.2.2.2.1,C.1,L.1,H,())).bind fun M=>Sum.elim (fun N=>letI O:=N.2.2;(Jq O.2.1 O.2.2.1).bind fun P=>cond (Bool.not P.2.1) (some (O.2.1,N.1,N.2.1,O.1,())) ((Jr N.1 N.2.1 O.1 k).bind fun Q=>letI R:=P.1;letI S:=Q.2.2;letI T:=ai R;cond Q.1 (some (O.2.1,Q.2.1,S.1,S.2.1,())) (cond (af .gtr T j) ((Jr Q.2.1 S.1 S.2.1 l).bind fun U=>cond U.1 ((cF U.2.1 U.2.2.1 U.2.2.2.1 T).bind fun V=>letI W:=aa .add .i64 V.1 i;letI X:=eR R j V.1;cond (cS R j V.1) (cond (aE (List.append (α:=Kk) e X)) (cond (cS R W T) (cond (aE (List.append (α:=Kk) (List.append (α:=Kk) e X) (eR R W T))) (some (List.append (α:=Kk) (List.append (α:=Kk) e X) (eR R W T),V.2.1,V.2.2.1,V.2.2.2.1,())) none) none) none) none) (some (R,U.2.1,U.2.2.1,U.2.2.2.1,()))) (some (R,Q.2.1,S.1,S.2.1,()))))) (fun N=>Empty.elim N) M)) ((Jq C.1 C.2.1).bind fun D=>cond (Bool.not D.2.1) (some (C.1,A.2.1,B.1,B.2.1,())) ((Jr A.2.1 B.1 B.2.1 k).bind fun E=>letI F:=D.1;letI G:=E.2.2;letI H:=ai F;cond E.1 (some (C.1,E.2.1,G.1,G.2.1,())) (cond (af .gtr H j) ((Jr E.2.1 G.1 G.2.1 l).bind fun I=>cond I.1 ((cF I.2.1 I.2.2.1 I.2.2.2.1 H).bind fun J=>letI K:=aa .add .i64 J.1 i;letI L:=eR F j J.1;cond (cS F j J.1) (cond (aE (List.append (α:=Kk) e L)) (cond (cS F K H) (cond (aE (List.append (α:=Kk) (List.append (α:=Kk) e L) (eR F K H))) (some (List.append (α:=Kk) (List.append (α:=Kk) e L) (eR F K H),J.2.1,J.2.2.1,J.2.2.2.1,())) none) none) none) none) (some (F,I.2.1,I.2.2.1,I.2.2.2.1,()))) (some (F,E.2.1,G.1,G.2.1,())))))) (fun z=>Empty.elim z) y)) ((cF h.2.1 h.2.2.1 h.2.2.2.1 6).bind fun p=>letI q:=p.2.2;cond (af .gtr p.1 j) ((Js p.2.1 q.1 q.2.1 (List.append (α:=Int) (List.append (α:=Int) (List.append (α:=Int) ([]:Nw) [(2:Int)]) [k]) [l])).bind fun r=>(cF r.2.1 r.2.2.1 r.2.2.2.1 n).bind fun s=>(cF s.2.1 s.2.2.1 s.2.2.2.1 n).bind fun t=>letI u:=aa .add .i64 i s.1;letI v:=aa .sub .i64 p.1 i;letI w:=cF t.2.1 t.2.2.1 t.2.2.2.1 k;cond (af .eql u 2) (w.bind fun x=>(cF x.2.1 x.2.2.1 x.2.2.2.1 m).bind fun y=>(J3 o r.1 u (aa .add .i64 i x.1) j y.1).bind fun z=>(I3 () (y.2.1,y.2.2.1,y.2.2.2.1,o,z.1,v,())).bind fun A=>Sum.elim (fun B=>letI C:=B.2.2;(Jq C.2.1 C.2.2.1).bind fun D=>cond (Bool.not D.2.1) (some (C.2.1,B.1,B.2.1,C.1,())) ((Jr B.1 B.2.1 C.1 k).bind fun E=>letI F:=D.1;letI G:=E.2.2;letI H:=ai F;cond E.1 (some (C.2.1,E.2.1,G.1,G.2.1,())) (cond (af .gtr H j) ((Jr E.2.1 G.1 G.2.1 l).bind fun I=>cond I.1 ((cF I.2.1 I.2.2.1 I.2.2.2.1 H).bind fun J=>letI K:=aa .add .i64 J.1 i;letI L:=eR F j J.1;cond (cS F j J.1) (cond (aE (List.append (α:=Kk) e L)) (cond (cS F K H) (cond (aE (List.append (α:=Kk) (List.append (α:=Kk) e L) (eR F K H))) (some (List.append (α:=Kk) (List.append (α:=Kk) e L) (eR F K H),J.2.1,J.2.2.1,J.2.2.2.1,())) none) none) none) none) (some (F,I.2.1,I.2.2.1,I.2.2.2.1,()))) (some (F,E.2.1,G.1,G.2.1,()))))) (fun B=>Empty.elim B) A) (w.bind fun x=>(cF x.2.1 x.2.2.1 x.2.2.2.1 m).bind fun y=>(J3 o r.1 u (aa .add .i64 i x.1) t.1 y.1).bind fun z=>(I3 () (y.2.1,y.2.2.1,y.2.2.2.1,o,z.1,v,())).bind fun A=>Sum.elim (fun B=>letI C:=B.2.2;(Jq C.2.1 C.2.2.1).bind fun D=>cond (Bool.not D.2.1) (some (C.2.1,B.1,B.2.1,C.1,())) ((Jr B.1 B.2.1 C.1 k).bind fun E=>letI F:=D.1;letI G:=E.2.2;letI H:=ai F;cond E.1 (some (C.2.1,E.2.1,G.1,G.2.1,())) (cond (af .gtr H j) ((Jr E.2.1 G.1 G.2.1 l).bind fun I=>cond I.1 ((cF I.2.1 I.2.2.1 I.2.2.2.1 H).bind fun J=>letI K:=aa .add .i64 J.1 i;letI L:=eR F j J.1;cond (cS F j J.1) (cond (aE (List.append (α:=Kk) e L)) (cond (cS F K H) (cond (aE (List.append (α:=Kk) (List.append (α:=Kk) e L) (eR F K H))) (some (List.append (α:=Kk) (List.append (α:=Kk) e L) (eR F K H),J.2.1,J.2.2.1,J.2.2.2.1,())) none) none) none) none) (some (F,I.2.1,I.2.2.1,I.2.2.2.1,()))) (some (F,E.2.1,G.1,G.2.1,()))))) (fun B=>Empty.elim B) A)) ((Jq o o).bind fun r=>cond (Bool.not r.2.1) (some (o,p.2.1,q.1,q.2.1,())) ((Jr p.2.1 q.1 q.2.1 k).bind fun s=>letI t:=r.1;letI u:=s.2.2;letI v:=ai t;cond s.1 (some (o,s.2.1,u.1,u.2.1,())) (cond (af .gtr v j) ((Jr s.2.1 u.1 u.2.1 l).bind fun w=>cond w.1 ((cF w.2.1 w.2.2.1 w.2.2.2.1 v).bind fun x=>letI y:=aa .add .i64 x.1 i;letI z:=eR t j x.1;cond (cS t j x.1) (cond (aE (List.append (α:=Kk) e z)) (cond (cS t y v) (cond (aE (List.append (α:=Kk) (List.append (α:=Kk) e z) (eR t y v))) (some (List.append (α:=Kk) (List.append (α:=Kk) e z) (eR t y v),x.2.1,x.2.2.1,x.2.2.2.1,())) none) none) none) none) (some (t,w.2.1,w.2.2.1,w.2.2.2.1,()))) (some (t,s.2.1,u.1,u.2.1,()))))))) (fun g=>Empty.elim g) f
noncomputable def Kd(a:Unit)(b:Sy):Option (Sy⊕Sy⊕Sy⊕Empty):=(cF b.1 b.2.1 b.2.2.1 3).bind fun c=>letI d:=b.2.2.2.1;cond (af .lss (ai d) (aa .add .i64 59 c.1)) ((KW c.2.1 c.2.2.1 c.2.2.2.1 d 4).bind fun e=>(Ky e.1).bind fun f=>letI g:=(e.2.1,e.2.2.1,e.2.2.2.1,e.1,());cond (Bool.not f.1) (some (.inr (.inl g))) (some (.inl g))) (some (.inr (.inr (.inl (c.2.1,c.2.2.1,c.2.2.2.1,d,())))))
noncomputable def Mz k x:=iter (Kd k) big x
noncomputable def Nr(a:Nw)(b c:Int):Tl:=(M0 a b c).bind fun d=>letI e:=d.1;cond (af .eql (ai e) 0) (some (e,d.2.1,d.2.2.1,d.2.2.2.1,())) ((cF d.2.1 d.2.2.1 d.2.2.2.1 (ai e)).bind fun f=>(cF f.2.1 f.2.2.1 f.2.2.2.1 16).bind fun g=>letI h:=g.2.2;letI i:=g.2.1;letI j:=h.2.1;letI k:=ah e f.1;letI l:=ae bf e f.1;letI m:=l.2.2;letI n:=m.2.2;letI o:=n.2;cond (af .eql g.1 0) ((Js i h.1 j (List.append (α:=Int) (List.append (α:=Int) (List.append (α:=Int) (List.append (α:=Int) ([]:Nw) [(-1:Int)]) [(0:Int)]) [(5:Int)]) [(6:Int)])).bind fun p=>cond k (lets (aC e f.1 (p.1,l.2.1,m.1,m.2.1,n.1,o.1,o.2)) fun q=>some (q,p.2.1,p.2.2.1,p.2.2.2.1,())) none) (cond (af .eql g.1 1) ((Js i h.1 j (List.append (α:=Int) (List.append (α:=Int) (List.append (α:=Int) (List.append (α:=Int) ([]:Nw) [(0:Int)]) [(1:Int)]) [(999:Int)]) [(1000:Int)])).bind fun p=>cond k (lets (aC e f.1 (l.1,p.1,m.1,m.2.1,n.1,o.1,o.2)) fun q=>some (q,p.2.1,p.2.2.1,p.2.2.2.1,())) none) (cond (af .eql g.1 2) ((Js i h.1 j (List.append (α:=Int) (List.append (α:=Int) (List.append (α:=Int) (List.append (α:=Int) ([]:Nw) [(0:Int)]) [(1:Int)]) [(100000:Int)]) [(100001:Int)])).bind fun p=>cond k (lets (aC e f.1 (l.1,l.2.1,p.1,m.2.1,n.1,o.1,o.2)) fun q=>some (q,p.2.1,p.2.2.1,p.2.2.2.1,())) none) (cond (af .eql g.1 3) ((Js i h.1 j (List.append (α:=Int) (List.append (α:=Int) (List.append (α:=Int) (List.append (α:=Int) ([]:Nw) [(0:Int)]) [(1:Int)]) [(4:Int)]) [(5:Int)])).bind fun p=>cond k (lets (aC e f.1 (l.1,l.2.1,m.1,p.1,n.1,o.1,o.2)) fun q=>some (q,p.2.1,p.2.2.1,p.2.2.2.1,())) none) (cond (af .eql g.1 4) ((Mz () (i,h.1,j,e,())).bind fun p=>Sum.elim (fun q=>some (q.2.2.2.1,q.1,q.2.1,q.2.2.1,())) (fun q=>Sum.elim (fun r=>some (r.2.2.2.1,r.1,r.2.1,r.2.2.1,())) (fun r=>Empty.elim r) q) p) (some (e,i,h.1,j,())))))))
noncomputable def Ld(a:Nw):Option RV:=(Nq a).bind fun b=>(MZ b.1 b.2.1 b.2.2.1).bind fun c=>(cF c.2.2.1 c.2.2.2.1 c.2.2.2.2.1 8).bind fun d=>letI e:=c.2.1;letI f:=some (c.1,e,());letI g:=ah (List.append (α:=Kk) ([]:Ml) e) 0;letI h:=ae bf (List.append (α:=Kk) ([]:Ml) e) 0;letI i:=h.2.2.2;cond (af .eql d.1 0) ((Nr d.2.1 d.2.2.1 d.2.2.2.1).bind fun j=>some (c.1,j.1,())) (cond (af .eql d.1 1) (cond (af .gtr (ai e) 0) (cond (aE (List.append (α:=Kk) ([]:Ml) e)) (cond g (lets (aa .add .i64 i.2.2.1 1) fun j=>cond g (lets (aC (List.append (α:=Kk) ([]:Ml) e) 0 (h.1,h.2.1,h.2.2.1,i.1,i.2.1,j,i.2.2.2)) fun k=>some (c.1,k,())) none) none) none) f) f)
noncomputable def MM(a:Ml×Sw)(b:Pp):S9:=letI c:=a.2.2.2.2;letI d:=ae bf a.1 b.1;letI e:=d.2.2.2;cond (af .lss b.1 (ai a.1)) (cond (ah a.1 b.1) (lets (Bool.and (af .eql d.1 a.2.1) (Bool.and (af .eql d.2.1 a.2.2.1) (Bool.and (af .eql d.2.2.1 a.2.2.2.1) (Bool.and (af .eql e.1 c.1) (Bool.and (af .eql e.2.1 c.2.1) (Bool.and (af .eql e.2.2.1 c.2.2.1) (Bool.and (af .eql e.2.2.2 c.2.2.2.1) true))))))) fun f=>cond f (some (.inr (.inl (true,())))) (some (.inl (aa .add .i64 b.1 1,())))) none) (some (.inr (.inr (.inl ()))))
noncomputable def Nt k x:=iter (MM k) big x
noncomputable def laws_holds(a:Ml)(b c d e f g h:Int):P9:=(Nt (a,b,c,d,e,f,g,h,()) (0,())).bind fun i=>Sum.elim (fun j=>some (j.1,())) (fun j=>Sum.elim (fun _=>some (false,())) (fun k=>Empty.elim k) j) i
noncomputable def K4(a:Ml×Ml×Bool×Pp)(b:Sn):UD:=letI c:=b.2.2.1;letI d:=ah a.1 a.2.2.2.1;letI e:=ah a.2.1 c;letI f:=ae bf a.1 a.2.2.2.1;letI g:=ae bf a.2.1 c;letI h:=f.2.2.2;letI i:=g.2.2.2;letI j:=(b.1,b.2.1,aa .add .i64 c 1,());letI k:=af .eql f.1 g.1;letI l:=af .eql f.2.1 g.2.1;cond (af .lss c (ai a.2.1)) (cond a.2.2.1 (cond d (cond e (cond k (cond d (cond e (cond l (cond d (cond e (lets (Bool.not (Bool.and k (Bool.and l (Bool.and (af .eql f.2.2.1 g.2.2.1) (Bool.and (af .eql h.1 i.1) (Bool.and (af .eql h.2.1 i.2.1) (Bool.and (af .eql h.2.2.1 i.2.2.1) (Bool.and (af .eql h.2.2.2 i.2.2.2) true)))))))) fun m=>cond m (some (.inr (.inl (false,())))) (some (.inl j))) none) none) (some (.inl j))) none) none) (some (.inl j))) none) none) (some (.inl j))) (some (.inr (.inr (.inl (b.1,b.2.1,())))))
noncomputable def Ln k x:=iter (K4 k) big x
noncomputable def K3(a:Ml×Sp)(b:Sn):UD:=cond (af .lss b.2.2.1 (ai a.1)) ((Ln (a.1,a.2.1,a.2.2.1,b.2.2.1,()) (b.1,b.2.1,0,())).bind fun c=>Sum.elim (fun d=>some (.inr (.inl (d.1,())))) (fun d=>Sum.elim (fun e=>some (.inl (e.1,e.2.1,aa .add .i64 b.2.2.1 1,()))) (fun e=>Empty.elim e) d) c) (some (.inr (.inr (.inl (b.1,b.2.1,())))))
noncomputable def Lm k x:=iter (K3 k) big x
noncomputable def K5(a:RV)(b:Oo):Option (Oo⊕RS⊕RU):=letI c:=b.2.1;letI d:=ae bf b.1 c;letI e:=d.2.2.2;cond (af .lss c (ai b.1)) (cond (ah b.1 c) ((laws_holds a.1 d.1 d.2.1 d.2.2.1 e.1 e.2.1 e.2.2.1 e.2.2.2).bind fun f=>letI g:=(b.1,aa .add .i64 c 1,());cond (Bool.not f.1) (cond (ah b.1 c) ((laws_holds a.2.1 d.1 d.2.1 d.2.2.1 e.1 e.2.1 e.2.2.1 e.2.2.2).bind fun h=>cond (Bool.not h.1) (some (.inr (.inl (false,())))) (some (.inl g))) none) (some (.inl g))) none) (some (.inr (.inr (.inl (b.1,())))))
noncomputable def Lo k x:=iter (K5 k) big x
noncomputable def K6(a:RV)(b:Oo):Option (Oo⊕RS⊕Unit⊕Empty):=letI c:=b.2.1;letI d:=(false,());letI e:=ai a.1;letI f:=ae bf a.1 c;letI g:=aa .sub .i64 c e;letI h:=f.2.2.2;letI i:=(b.1,aa .add .i64 c 1,());letI j:=ae bf a.2.1 g;letI k:=j.2.2.2;letI l:=laws_holds b.1 j.1 j.2.1 j.2.2.1 k.1 k.2.1 k.2.2.1 k.2.2.2;cond (af .lss c (aa .add .i64 e (ai a.2.1))) (cond (af .lss c e) (cond (ah a.1 c) ((laws_holds b.1 f.1 f.2.1 f.2.2.1 h.1 h.2.1 h.2.2.1 h.2.2.2).bind fun m=>cond (Bool.not m.1) (some (.inr (.inl d))) (cond (af .geq c e) (cond (ah a.2.1 g) (l.bind fun n=>cond (Bool.not n.1) (some (.inr (.inl d))) (some (.inl i))) none) (some (.inl i)))) none) (cond (af .geq c e) (cond (ah a.2.1 g) (l.bind fun m=>cond (Bool.not m.1) (some (.inr (.inl d))) (some (.inl i))) none) (some (.inl i)))) (some (.inr (.inr (.inl ()))))
noncomputable def Lp k x:=iter (K6 k) big x
noncomputable def LS(a:Nw):P9:=(OT a).bind fun b=>letI c:=some (true,());cond b.1 c ((Ld a).bind fun d=>letI e:=d.2.1;(LD d.1 e).bind fun f=>(Jq d.1 e).bind fun g=>letI h:=some (false,());cond (Bool.not (bT f.2.1 g.2.1)) h ((Me f.1 g.1).bind fun i=>cond (Bool.not i.1) h ((Lg d.1).bind fun j=>(Ky d.1).bind fun k=>cond (Bool.not (bT j.1 k.1)) h ((Lm (d.1,e,g.2.1,()) (f.1,g.1,0,())).bind fun l=>Sum.elim (fun m=>some (m.1,())) (fun m=>Sum.elim (fun n=>cond (Bool.not g.2.1) (some (af .eql (ai n.1) 0,())) ((Lo (d.1,e,()) (n.2.1,0,())).bind fun o=>Sum.elim (fun p=>some (p.1,())) (fun p=>Sum.elim (fun q=>(Lp (d.1,e,()) (q.1,0,())).bind fun r=>Sum.elim (fun s=>some (s.1,())) (fun s=>Sum.elim (fun _=>c) (fun t=>Empty.elim t) s) r) (fun q=>Empty.elim q) p) o)) (fun n=>Empty.elim n) m) l))))
end Go.Fn
set_option linter.unusedSimpArgs false
set_option linter.unusedVariables false
namespace Go.Fn
open Go.R Go.Sort
abbrev LJ(n:Nat)(l:List Ev):Prop:=NP n [] (fun k=>k≠4) l
section
variable {β:Type}
noncomputable def Rg(b:List Int)(i h:Int)(l:List Ev)(node:Int)(k:List Int->Int->Int->List Ev->Option β):Option β:=
 (cF b i h (4:Int)).bind fun y0=>(cF y0.2.1 y0.2.2.1 y0.2.2.2.1 (4:Int)).bind fun y1=>bif (af .eql (aa .add .i64 (1:Int) y0.1) (2:Int))then
  ((cF y1.2.1 y1.2.2.1 y1.2.2.2.1 (3:Int)).bind fun y2=>(cF y2.2.1 y2.2.2.1 y2.2.2.2.1 (40:Int)).bind fun y3=>(J3 l node (aa .add .i64 (1:Int) y0.1) (aa .add .i64 (1:Int) y2.1) (0:Int) y3.1).bind fun y4=>k y3.2.1 y3.2.2.1 y3.2.2.2.1 y4.1)
 else((cF y1.2.1 y1.2.2.1 y1.2.2.2.1 (3:Int)).bind fun y2=>(cF y2.2.1 y2.2.2.1 y2.2.2.2.1 (40:Int)).bind fun y3=>(J3 l node (aa .add .i64 (1:Int) y0.1) (aa .add .i64 (1:Int) y2.1) y1.1 y3.1).bind fun y4=>k y3.2.1 y3.2.2.1 y3.2.2.2.1 y4.1)
theorem Qa (b:List Int) (hb:b.length<=1048576) (i h:Int) (hi:0<=i) {n:Nat} (hn:n<=1000) {l:List Ev} (hl:LJ n l) {node:Int} (hS:node≠4) {k:List Int->Int->Int->List Ev->Option β} {P:β->Prop}
  (hk:∀i h x,0<=i->LJ (n+1) x->Yl (k b i h x) P):Yl (Rg b i h l node k) P:=by
 have RY:l.length<=1073741824:=by have:=hl.len;omega
 unfold Rg;refine(Ka b hb i h 4 hi (by omega)).bind fun y0 ⟨_,_,a3,a4⟩=>?_;rw[a3];refine(Ka b hb _ _ 4 a4 (by omega)).bind fun y1 ⟨_,_,b3,b4⟩=>?_;rw[b3];refine .cond (fun _=>?_) fun _=>?_
 ·refine(Ka b hb _ _ 3 b4 (by omega)).bind fun y2 ⟨_,_,c3,c4⟩=>?_;rw[c3];refine(Ka b hb _ _ 40 c4 (by omega)).bind fun y3 ⟨_,_,d3,d4⟩=>?_;rw[Ng l _ _ _ _ _ RY,d3];exact hk _ _ _ d4 (hl.add hS _ _ _ _)
 ·refine(Ka b hb _ _ 3 b4 (by omega)).bind fun y2 ⟨_,_,c3,c4⟩=>?_;rw[c3];refine(Ka b hb _ _ 40 c4 (by omega)).bind fun y3 ⟨_,_,d3,d4⟩=>?_;rw[Ng l _ _ _ _ _ RY,d3];exact hk _ _ _ d4 (hl.add hS _ _ _ _)
end
abbrev Rc:=List Ev×List Int×Int×Int×Unit
noncomputable def Qj(b:List Int)(i h:Int)(a bl:List Ev):Option Rc:=
 (Jq a bl).bind fun y13=>bif (Bool.not y13.2.1)then some (a,b,i,h,())else((Jr b i h (3:Int)).bind fun y14=>bif y14.1 then some (a,y14.2.1,y14.2.2.1,y14.2.2.2.1,())else(bif (af .gtr (ai y13.1) (0:Int))then
  ((Jr y14.2.1 y14.2.2.1 y14.2.2.2.1 (5:Int)).bind fun y15=>bif y15.1 then((cF y15.2.1 y15.2.2.1 y15.2.2.2.1 (ai y13.1)).bind fun y16=>bif (cS y13.1 (0:Int) y16.1)then(bif (aE (List.append (α:=Ev) ([]:List Ev) (eR y13.1 (0:Int) y16.1)))then(bif (cS y13.1 (aa .add .i64 y16.1 (1:Int)) (ai y13.1))then
   (bif (aE (List.append (α:=Ev) (List.append (α:=Ev) ([]:List Ev) (eR y13.1 (0:Int) y16.1)) (eR y13.1 (aa .add .i64 y16.1 (1:Int)) (ai y13.1))))then some ((List.append (α:=Ev) (List.append (α:=Ev) ([]:List Ev) (eR y13.1 (0:Int) y16.1)) (eR y13.1 (aa .add .i64 y16.1 (1:Int)) (ai y13.1))),y16.2.1,y16.2.2.1,y16.2.2.2.1,())else none)else none)else none)else none)
   else some (y13.1,y15.2.1,y15.2.2.1,y15.2.2.2.1,()))else some (y13.1,y14.2.1,y14.2.2.1,y14.2.2.2.1,())))
noncomputable def Qi(b:List Int)(i h:Int)(a bl:List Ev):Option Rc:=
 (cF b i h (6:Int)).bind fun y12=>bif (af .gtr y12.1 (0:Int))then((Js y12.2.1 y12.2.2.1 y12.2.2.2.1 (List.append (α:=Int) (List.append (α:=Int) (List.append (α:=Int) ([]:List (Int)) [(2:Int)]) [(3:Int)]) [(5:Int)])).bind fun y13=>
  Rg y13.2.1 y13.2.2.1 y13.2.2.2.1 bl y13.1 fun b i h x=>(I3 (()) (b,i,h,a,x,(aa .sub .i64 y12.1 (1:Int)),())).bind fun q=>Sum.elim (fun y=>Qj y.1 y.2.1 y.2.2.1 y.2.2.2.1 y.2.2.2.2.1) (fun q=>Empty.elim q) q)
  else Qj y12.2.1 y12.2.2.1 y12.2.2.2.1 a bl
noncomputable def QX(b:List Int)(i h:Int)(a:List Ev):Option Rc:=
 (cF b i h (6:Int)).bind fun y3=>bif (af .gtr y3.1 (0:Int))then((Js y3.2.1 y3.2.2.1 y3.2.2.2.1 (List.append (α:=Int) (List.append (α:=Int) (List.append (α:=Int) ([]:List (Int)) [(0:Int)]) [(1:Int)]) [(1:Int)])).bind fun y4=>
  Rg y4.2.1 y4.2.2.1 y4.2.2.2.1 a y4.1 fun b i h x=>(JW (()) (b,i,h,x,a,(aa .sub .i64 y3.1 (1:Int)),())).bind fun q=>Sum.elim (fun y=>Qi y.1 y.2.1 y.2.2.1 y.2.2.2.1 y.2.2.2.2.1) (fun q=>Empty.elim q) q)
  else Qi y3.2.1 y3.2.2.1 y3.2.2.2.1 a a
theorem PZ(b:List Int)(i h:Int):M0 b i h=(cF b i h (6:Int)).bind fun y0=>(K9 (()) (y0.2.1,y0.2.2.1,y0.2.2.2.1,([]:List Ev),y0.1,())).bind fun q1=>Sum.elim (fun y2=>QX y2.1 y2.2.1 y2.2.2.1 y2.2.2.2.1) (fun q=>Empty.elim q) q1:=rfl
noncomputable def Rb(b:List Int)(y:Rc):Prop:=(MA y.1=true/\(∀x,x∈y.1->x.2.2.1<=16/\x.1≠4))/\y.2.1=b/\0<=y.2.2.1
theorem LJ.out{n:Nat}(hn:n<=16){l:List Ev}(h:LJ n l):MA l=true/\∀x,x∈l->x.2.2.1<=16/\x.1≠4:=⟨h.j,fun x hx=>⟨by have:=h.st x hx;omega,(h.new x hx).resolve_left List.not_mem_nil⟩⟩
theorem RC{l:List Ev}{x:Ev}{a b:Nat}(h:x∈(l.take a++l.drop b)):x∈l:=by
 rcases List.mem_append.1 h with h|h
 ·exact List.mem_of_mem_take h
 ·exact List.mem_of_mem_drop h
theorem Rp{l m:List Ev}(h:MA l=true)(hs:m.Sublist l):MA m=true:=by obtain⟨h1,h2,h3⟩:=Oh.1 h;exact Oh.2 ⟨Nat.le_trans hs.length_le h1,fun x hx=>h2 x (hs.subset hx),h3.sublist hs⟩
theorem Rj(l:List Ev)(k:Nat):(l.take k++l.drop (k+1)).Sublist l:=by
 have h:=List.take_append_drop k l;have h2:(l.drop (k+1)).Sublist (l.drop k):=by rw[<-List.drop_drop];exact List.drop_sublist _ _
 have h3:=List.Sublist.append (List.Sublist.refl (l.take k)) h2;rwa[h]at h3
theorem PN{α:Type}{l:List α}{x y:Int}(h0:0<=x)(h1:x<=y)(h2:y<=(l.length:Int)):cS l x y=true:=by unfold cS;rw[decide_eq_true h0,decide_eq_true h1,decide_eq_true h2];rfl
theorem PG(b:List Int)(hb:b.length<=1048576)(i h:Int)(hi:0<=i){a bl:List Ev}(ha:LJ 16 a)(BA:LJ 16 bl):Yl (Qj b i h a bl) (Rb b):=by
 unfold Qj;rw[Om];simp only[Option.bind_some];cases hM:(Kj a bl).2 with
 |false=>exact .ret ⟨ha.out (by omega),rfl,hi⟩
 |true=>
  obtain⟨_,_,hj,hm,_,_⟩:=NT hM;have hlen:=OV a bl;have hmo:∀x,x∈(Kj a bl).1->x.2.2.1<=16/\x.1≠4:=fun x hx=>by
   rcases(hm x).1 hx with h|h
   ·exact(ha.out (by omega)).2 x h
   ·exact(BA.out (by omega)).2 x h
  revert hj hlen hmo;generalize (Kj a bl).1=m;intro hj hlen hmo;simp only[Bool.not_true,cond_false];refine(Qh b hb i h 3 hi (by omega)).bind fun y14 ⟨b1,b2⟩=>?_;rw[b1];refine .cond (fun _=>.ret ⟨ha.out (by omega),rfl,b2⟩) fun _=>.cond (fun hg=>?_) fun _=>.ret ⟨⟨hj,hmo⟩,rfl,b2⟩;refine(Qh b hb _ _ 5 b2 (by omega)).bind fun y15 ⟨c1,c2⟩=>?_;rw[c1];refine .cond (fun _=>?_) fun _=>.ret ⟨⟨hj,hmo⟩,rfl,c2⟩;refine(Ka b hb _ _ (ai m) c2 (by unfold ai;omega)).bind fun y16 ⟨d1,d2,d3,d4⟩=>?_;have hg:(0:Int)<(m.length:Int):=of_decide_eq_true hg;have d2:y16.1<=max 0 ((m.length:Int)-1):=d2;have e1:aa .add .i64 y16.1 (1:Int)=y16.1+1:=bU (by omega) (by omega);rw[e1,d3];have s1:eR m (0:Int) y16.1=m.take y16.1.toNat:=by unfold eR;simp
  have s2:eR m (y16.1+1) (ai m)=m.drop (y16.1.toNat+1):=by unfold eR ai;rw[show(y16.1+1).toNat=y16.1.toNat+1 by omega];apply List.take_of_length_le;rw[List.length_drop];omega
  rw[s1,s2];refine .guard (PN (by omega) (by omega) (by omega)) (.guard (L0 (by simp;omega)) (.guard (PN (by omega) (by unfold ai;omega) (by unfold ai;omega)) (.guard (L0 (by simp;omega)) (.ret ⟨⟨?_,?_⟩,rfl,d4⟩))))
  ·exact Rp hj (Rj m _)
  ·intro x hx;exact hmo x (RC hx)
theorem PD(b:List Int)(hb:b.length<=1048576)(i h:Int)(hi:0<=i){a bl:List Ev}(ha:LJ 11 a)(BA:LJ 11 bl):Yl (Qi b i h a bl) (Rb b):=by
 unfold Qi;refine(Ka b hb i h 6 hi (by omega)).bind fun y0 ⟨a1,a2,a3,a4⟩=>?_;have a2:y0.1<=5:=a2;rw[a3];refine .cond (fun hg=>?_) fun _=>PG b hb _ _ a4 (ha.mono (by omega)) (BA.mono (by omega));have hg:(0:Int)<y0.1:=of_decide_eq_true hg;have e1:aa .sub .i64 y0.1 (1:Int)=y0.1-1:=bM (by omega) (by omega);rw[e1];refine(Mj b hb _ _ [2,3,5] a4 (by simp) (by simp)).bind fun y1 ⟨b1,b2,b3⟩=>?_;have b1:y1.1=2\/y1.1=3\/y1.1=5:=by simpa using b1
 rw[b2];refine Qa b hb _ _ b3 (by omega) BA (by omega) fun i1 h1 x hi1 hx=>?_;have Oe:Yl (I3 (()) (b,i1,h1,a,x,y0.1-1,())) fun q=>match q with| .inl y=>y.1=b/\0<=y.2.1/\y.2.2.2.1=a/\LJ 16 y.2.2.2.2.1| .inr _=>False:=by
  unfold I3;refine Yl.loop (fun x=>x.1=b/\0<=x.2.1/\0<=x.2.2.2.2.2.1/\x.2.2.2.2.2.1<=4/\x.2.2.2.1=a/\LJ (12+(4-x.2.2.2.2.2.1).toNat) x.2.2.2.2.1) (fun x=>x.2.2.2.2.2.1.toNat) (fun x hx=>?_) big _ ⟨rfl,hi1,by dsimp only;omega,by dsimp only;omega,rfl,hx.mono (by dsimp only;omega)⟩ (aN (by dsimp only;omega));obtain⟨xb,xi,xh,xa,xl,xc,u⟩:=x;obtain⟨x1,x2,x3,x4,x5,x6⟩:=hx;simp only[]at x1 x2 x3 x4 x5 x6;subst x1 x5;unfold LM;refine .cond (fun hp=>?_) fun _=>.ret ⟨rfl,x2,rfl,x6.mono (by omega)⟩;have hp:(0:Int)<xc:=of_decide_eq_true hp;refine(Mj xb hb xi xh [2,3,5] x2 (by simp) (by simp)).bind fun z ⟨c1,c3,c4⟩=>?_;have c1:z.1=2\/z.1=3\/z.1=5:=by simpa using c1
  rw[c3];refine(Oq xb hb _ _ c4 (by omega) x6 (node:=z.1) (by omega)).bind fun w ⟨d1,d2,d3⟩=>.ret ⟨⟨d2,d3,?_,?_,rfl,d1.mono ?_⟩,?_⟩;all_goals (have e:aa .sub .i64 xc (1:Int)=xc-1:=bM (by omega) (by omega));dsimp only;rw[e];omega
 refine Oe.bind fun q hq=>?_;match q,hq with
 | .inl y,⟨q1,q2,q3,q4⟩=>simp only[Sum.elim_inl];rw[q1,q3];exact PG b hb _ _ q2 (ha.mono (by omega)) q4
theorem QY(b:List Int)(hb:b.length<=1048576)(i h:Int)(hi:0<=i){a:List Ev}(ha:LJ 5 a):Yl (QX b i h a) (Rb b):=by
 unfold QX;refine(Ka b hb i h 6 hi (by omega)).bind fun y0 ⟨a1,a2,a3,a4⟩=>?_;have a2:y0.1<=5:=a2;rw[a3];refine .cond (fun hg=>?_) fun _=>PD b hb _ _ a4 (ha.mono (by omega)) (ha.mono (by omega));have hg:(0:Int)<y0.1:=of_decide_eq_true hg;have e1:aa .sub .i64 y0.1 (1:Int)=y0.1-1:=bM (by omega) (by omega);rw[e1];refine(Mj b hb _ _ [0,1,1] a4 (by simp) (by simp)).bind fun y1 ⟨b1,b2,b3⟩=>?_;have b1:y1.1=0\/y1.1=1:=by simpa using b1
 rw[b2];refine Qa b hb _ _ b3 (by omega) ha (by omega) fun i1 h1 x hi1 hx=>?_;have Oe:Yl (JW (()) (b,i1,h1,x,a,y0.1-1,())) fun q=>match q with| .inl y=>y.1=b/\0<=y.2.1/\LJ 10 y.2.2.2.1/\y.2.2.2.2.1=a| .inr _=>False:=by
  unfold JW;refine Yl.loop (fun x=>x.1=b/\0<=x.2.1/\0<=x.2.2.2.2.2.1/\x.2.2.2.2.2.1<=4/\LJ (6+(4-x.2.2.2.2.2.1).toNat) x.2.2.2.1/\x.2.2.2.2.1=a) (fun x=>x.2.2.2.2.2.1.toNat) (fun x hx=>?_) big _ ⟨rfl,hi1,by dsimp only;omega,by dsimp only;omega,hx.mono (by dsimp only;omega),rfl⟩ (aN (by dsimp only;omega));obtain⟨xb,xi,xh,xl,xa,xc,u⟩:=x;obtain⟨x1,x2,x3,x4,x6,x5⟩:=hx;simp only[]at x1 x2 x3 x4 x5 x6;subst x1 x5;unfold LL;refine .cond (fun hp=>?_) fun _=>.ret ⟨rfl,x2,x6.mono (by omega),rfl⟩;have hp:(0:Int)<xc:=of_decide_eq_true hp;refine(Mj xb hb xi xh [0,1,1] x2 (by simp) (by simp)).bind fun z ⟨c1,c3,c4⟩=>?_;have c1:z.1=0\/z.1=1:=by simpa using c1
  rw[c3];refine(Oq xb hb _ _ c4 (by omega) x6 (node:=z.1) (by omega)).bind fun w ⟨d1,d2,d3⟩=>.ret ⟨⟨d2,d3,?_,?_,d1.mono ?_,rfl⟩,?_⟩;all_goals (have e:aa .sub .i64 xc (1:Int)=xc-1:=bM (by omega) (by omega));dsimp only;rw[e];omega
 refine Oe.bind fun q hq=>?_;match q,hq with
 | .inl y,⟨q1,q2,q3,q4⟩=>simp only[Sum.elim_inl];rw[q1,q4];exact PD b hb _ _ q2 (q3.mono (by omega)) (ha.mono (by omega))
theorem P0(b:List Int)(hb:b.length<=1048576)(i h:Int)(hi:0<=i):Yl (M0 b i h) (Rb b):=by
 rw[PZ];refine(Ka b hb i h 6 hi (by omega)).bind fun y0 ⟨a1,a2,a3,a4⟩=>?_;have a2:y0.1<=5:=a2;rw[a3];have start:LJ 0 []:=⟨rfl,Nat.le_refl _,fun x hx=>absurd hx List.not_mem_nil,fun x hx=>absurd hx List.not_mem_nil,fun x hx=>absurd hx List.not_mem_nil,fun x hx=>absurd hx List.not_mem_nil⟩
 refine(OJ b hb (body:=KC ()) 0 (by omega) (fun i h Pd l n hi hn hl hp=>?_) (fun i h Pd l hp=>?_) y0.2.2.1 y0.2.2.2.1 y0.1 [] a4 a1 a2 start).bind fun q hq=>?_
 ·unfold KC;rw[Pw,decide_eq_true hp];refine(Ka b hb i h 3 hi (by omega)).bind fun z ⟨c1,c2,c3,c4⟩=>?_;have c2:z.1<=2:=c2;simp only[c3];exact(Oq b hb _ _ c4 (by omega) hl (node:=z.1) (by omega)).bind fun w ⟨d1,d2,d3⟩=>.ret ⟨d2,d3,d1,rfl⟩
 ·unfold KC;rw[Pw,decide_eq_false hp];rfl
 match q,hq with
 | .inl y2,⟨h1,h2,h3⟩=>simp only[Sum.elim_inl];rw[h1];exact QY b hb _ _ h2 h3
end Go.Fn

