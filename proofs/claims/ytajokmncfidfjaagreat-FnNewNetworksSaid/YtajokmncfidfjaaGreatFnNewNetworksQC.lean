import Derived.Test.YtajokmncfidfjaaGreatFnNewNetworksQB
/- Plain functions that stand for Go functions, and what they answer. Conditions: none. -/
set_option autoImplicit false
set_option linter.unusedVariables false
set_option linter.unusedSimpArgs false
set_option linter.unusedSimpArgs false
set_option linter.unusedVariables false
namespace Go.Fn
open Go.R Go.Sort
theorem OR{x y:Ev}:Pw x y=true↔x.1<y.1\/(x.1=y.1/\x.2.1<y.2.1):=by unfold Pw;simp
theorem YE{x y:Ev}:Pw x y=false↔y.1<x.1\/(x.1=y.1/\y.2.1<=x.2.1):=by rw[<-Bool.not_eq_true,OR];omega
theorem Zm(x:Ev):Pw x x=false:=by rw[YE];omega
theorem Xl{x y z:Ev}(h1:Pw x y=true)(h2:Pw y z=true):Pw x z=true:=by rw[OR]at *;omega
theorem adI{x y:Ev}(h1:Pw x y=true):Pw y x=false:=by rw[OR]at h1;rw[YE];omega
theorem acz:SWO Pw:=⟨Zm,fun _ _ _ h1 h2=>Xl h1 h2,fun x y z h1 h2=>by rw[YE]at *;omega⟩
abbrev Zy(l:List Ev):Prop:=l.Pairwise fun x y=>Pw x y=true
theorem aaD:∀(l:List Ev),(∀n,n+1<l.length->Pw (l.getD n bg) (l.getD (n+1) bg)=true)->Zy l
 | [],_=>List.Pairwise.nil
 | [x],_=>List.pairwise_singleton _ _
 |x::y::l,h=>by
  have ih:=aaD (y::l) (fun n hn=>h (n+1) (by simpa using hn));have hxy:Pw x y=true:=h 0 (by simp);refine List.Pairwise.cons (fun z hz=>?_) ih;rcases List.mem_cons.1 hz with rfl|hz
  ·exact hxy
  ·exact Xl hxy ((List.pairwise_cons.1 ih).1 z hz)
theorem Vz{l:List Ev}(h:W4 l=true):Zy l:=by refine aaD l fun n hn=>?_;have:=aaa h hn;simp only[Tj,Bool.and_eq_true,Y7,Bool.not_eq_true',Bool.or_eq_false_iff,Bool.and_eq_false_iff,decide_eq_false_iff_not]at this;rw[OR];omega
theorem Zv:∀ {l m:List Ev},Zy l->Zy m->(∀x,x∈l↔x∈m)->l=m
 | [],[],_,_,_=>rfl
 | [],y::m,_,_,h=>absurd ((h y).2 (List.mem_cons_self ..)) (List.not_mem_nil)
 |x::l,[],_,_,h=>absurd ((h x).1 (List.mem_cons_self ..)) (List.not_mem_nil)
 |x::l,y::m,hl,hm,h=>by
  have hl':=List.pairwise_cons.1 hl;have hm':=List.pairwise_cons.1 hm;have hxy:x=y:=by
   rcases List.mem_cons.1 ((h x).1 (List.mem_cons_self ..))with e|h1
   ·exact e
   ·rcases List.mem_cons.1 ((h y).2 (List.mem_cons_self ..))with e|h2
    ·exact e.symm
    ·have a1:=hm'.1 x h1;have a2:=hl'.1 y h2;rw[adI a1]at a2;cases a2
  subst hxy;congr 1;refine Zv hl'.2 hm'.2 fun z=>⟨fun hz=>?_,fun hz=>?_⟩
  ·rcases List.mem_cons.1 ((h z).1 (List.mem_cons_of_mem _ hz))with e|h1
   ·subst e;have:=hl'.1 z hz;rw[Zm]at this;cases this
   ·exact h1
  ·rcases List.mem_cons.1 ((h z).2 (List.mem_cons_of_mem _ hz))with e|h1
   ·subst e;have:=hm'.1 z hz;rw[Zm]at this;cases this
   ·exact h1
noncomputable def adq(o:Option (List Ev))(x:Ev):Option (List Ev):=o.map (x:: ·)
noncomputable def merge:List Ev->List Ev->Option (List Ev)
 | [],b=>some b
 |x::a,[]=>some (x::a)
 |x::a,y::b=>bif Pw x y then adq (merge a (y::b)) x else bif Pw y x then adq (merge (x::a) b) y else bif decide (x=y)then adq (merge a b) x else none
termination_by a b=>a.length+b.length
theorem aaV:∀(n:Nat) (a b:List Ev),a.length+b.length=n->Zy a->Zy b ->
  match merge a b with
  |some m=>Zy m/\(∀z,z∈m↔z∈a\/z∈b)/\m.length<=a.length+b.length/\(∀x,x∈a->∀y,y∈b->x.1=y.1->x.2.1=y.2.1->x=y)
  |none=>∃x,x∈a/\∃y,y∈b/\x.1=y.1/\x.2.1=y.2.1/\x≠y:=by
 intro n;induction n using Nat.strongRecOn with
 |ind n ih0=>
 intro a b hn;rcases a with _|⟨x,a⟩
 ·rw[merge];intro _ hb;exact⟨hb,fun z=>by simp,by simp,fun x hx=>absurd hx List.not_mem_nil⟩
 rcases b with _|⟨y,b⟩
 ·rw[merge];intro ha _;exact⟨ha,fun z=>by simp,by simp,fun x _ y hy=>absurd hy List.not_mem_nil⟩
 ·have ih1:=ih0 _ (by simp only[List.length_cons]at hn⊢;omega) a (y::b) rfl;have ih2:=ih0 _ (by simp only[List.length_cons]at hn⊢;omega) (x::a) b rfl;have ih3:=ih0 _ (by simp only[List.length_cons]at hn⊢;omega) a b rfl;rw[merge];intro ha hb;have ha':=List.pairwise_cons.1 ha;have hb':=List.pairwise_cons.1 hb;cases h1:Pw x y with
  |true=>
   have ih:=ih1 ha'.2 hb;simp only[cond_true];cases hm:merge a (y::b)with
   |none=>rw[hm]at ih;obtain⟨u,hu,v,hv,h⟩:=ih;exact⟨u,List.mem_cons_of_mem _ hu,v,hv,h⟩
   |some m=>
    rw[hm]at ih;obtain⟨i1,i2,i3,i4⟩:=ih;refine⟨List.Pairwise.cons (fun z hz=>?_) i1,fun z=>?_,?_,fun u hu v hv=>?_⟩
    ·rcases(i2 z).1 hz with h|h
     ·exact ha'.1 z h
     ·rcases List.mem_cons.1 h with rfl|h
      ·exact h1
      ·exact Xl h1 (hb'.1 z h)
    ·simp only[List.mem_cons,i2 z,or_assoc]
    ·simp only[List.length_cons]at i3⊢;omega
    ·rcases List.mem_cons.1 hu with rfl|hu
     ·intro k1 k2;have:Pw u v=true:=by
       rcases List.mem_cons.1 hv with rfl|hv
       ·exact h1
       ·exact Xl h1 (hb'.1 v hv)
      rw[OR]at this;omega
     ·exact i4 u hu v hv
  |false=>
   cases h2:Pw y x with
   |true=>
    have ih:=ih2 ha hb'.2;simp only[cond_true,cond_false];cases hm:merge (x::a) b with
    |none=>rw[hm]at ih;obtain⟨u,hu,v,hv,h⟩:=ih;exact⟨u,hu,v,List.mem_cons_of_mem _ hv,h⟩
    |some m=>
     rw[hm]at ih;obtain⟨i1,i2,i3,i4⟩:=ih;refine⟨List.Pairwise.cons (fun z hz=>?_) i1,fun z=>?_,?_,fun u hu v hv=>?_⟩
     ·rcases(i2 z).1 hz with h|h
      ·rcases List.mem_cons.1 h with rfl|h
       ·exact h2
       ·exact Xl h2 (ha'.1 z h)
      ·exact hb'.1 z h
     ·rw[List.mem_cons,i2 z,List.mem_cons,List.mem_cons];constructor
      ·rintro(h|h|h)
       ·exact .inr (.inl h)
       ·exact .inl h
       ·exact .inr (.inr h)
      ·rintro(h|h|h)
       ·exact .inr (.inl h)
       ·exact .inl h
       ·exact .inr (.inr h)
     ·simp only[List.length_cons]at i3⊢;omega
     ·rcases List.mem_cons.1 hv with rfl|hv
      ·intro k1 k2;have:Pw v u=true:=by
        rcases List.mem_cons.1 hu with rfl|hu
        ·exact h2
        ·exact Xl h2 (ha'.1 u hu)
       rw[OR]at this;omega
      ·exact i4 u hu v hv
   |false=>
    have hk:x.1=y.1/\x.2.1=y.2.1:=by rw[YE]at h1 h2;omega
    by_cases he:x=y
    ·subst he;have ih:=ih3 ha'.2 hb'.2;simp only[cond_true,cond_false,decide_true];cases hm:merge a b with
     |none=>rw[hm]at ih;obtain⟨u,hu,v,hv,h⟩:=ih;exact⟨u,List.mem_cons_of_mem _ hu,v,List.mem_cons_of_mem _ hv,h⟩
     |some m=>
      rw[hm]at ih;obtain⟨i1,i2,i3,i4⟩:=ih;refine⟨List.Pairwise.cons (fun z hz=>?_) i1,fun z=>?_,?_,fun u hu v hv k1 k2=>?_⟩
      ·rcases(i2 z).1 hz with h|h
       ·exact ha'.1 z h
       ·exact hb'.1 z h
      ·rw[List.mem_cons,i2 z,List.mem_cons,List.mem_cons];constructor
       ·rintro(h|h|h)
        ·exact .inl (.inl h)
        ·exact .inl (.inr h)
        ·exact .inr (.inr h)
       ·rintro((h|h)|(h|h))
        ·exact .inl h
        ·exact .inr (.inl h)
        ·exact .inl h
        ·exact .inr (.inr h)
      ·simp only[List.length_cons]at i3⊢;omega
      ·rcases List.mem_cons.1 hu with AD|AD <;> rcases List.mem_cons.1 hv with xw|xw
       ·rw[AD,xw]
       ·have:=hb'.1 v xw;rw[OR,<-AD]at this;omega
       ·have:=ha'.1 u AD;rw[OR,<-xw]at this;omega
       ·exact i4 u AD v xw k1 k2
    ·simp only[cond_false,decide_eq_false he];exact⟨x,List.mem_cons_self ..,y,List.mem_cons_self ..,hk.1,hk.2,he⟩
theorem iW{a b:List Ev}(ha:Zy a)(hb:Zy b):
  match merge a b with
  |some m=>Zy m/\(∀z,z∈m↔z∈a\/z∈b)/\m.length<=a.length+b.length/\(∀x,x∈a->∀y,y∈b->x.1=y.1->x.2.1=y.2.1->x=y)
  |none=>∃x,x∈a/\∃y,y∈b/\x.1=y.1/\x.2.1=y.2.1/\x≠y:=aaV _ a b rfl ha hb
noncomputable def X0(a b:List Ev):List Ev×Bool:=bif W4 a then bif W4 b then(match merge a b with|none=>([],false)|some m=>bif W4 m then(m,true)else([],false))else([],false)else([],false)
theorem ae7(x y:Ev):(Bool.and (af .eql x.1 y.1) (Bool.and (af .eql x.2.1 y.2.1) (Bool.and (af .eql x.2.2.1 y.2.2.1) (Bool.and (af .eql x.2.2.2.1 y.2.2.2.1) (Bool.and (af .eql x.2.2.2.2.1 y.2.2.2.2.1) (Bool.and (af .eql x.2.2.2.2.2.1 y.2.2.2.2.2.1) (Bool.and (af .eql x.2.2.2.2.2.2 y.2.2.2.2.2.2) true)))))))=decide (x=y):=by obtain⟨x1,x2,x3,x4,x5,x6,x7⟩:=x;obtain⟨y1,y2,y3,y4,y5,y6,y7⟩:=y;rw[Bool.eq_iff_iff];simp[af,Prod.mk.injEq]
theorem af6(l:List Ev)(x:Ev):List.append (α:=Ev) l (List.append (α:=Ev) ([]:List Ev) [x])=l++[x]:=rfl
end Go.Fn
set_option linter.unusedSimpArgs false
set_option linter.unusedVariables false
namespace Go.Fn
open Go.R Go.Sort
theorem iK{R:Type}(x:Option R):both x x=x:=by unfold both;simp
theorem Y2(l:List Ev)(hl:l.length<=1073741824):KN l=some (l,()):=by
 unfold KN;have h1:aE (List.append (α:=Ev) ([]:List Ev) l)=true:=KP hl;rw[h1];cases l with
 |nil=>exact iK _
 |cons x l=>rw[show af .gtr (ai (x::l)) (0:Int)=true from gt0 l.length];rfl
noncomputable def QT(x e:Ev):Bool:=decide (x.1=e.1)&&decide (x.2.1=e.2.1)
theorem PZ{x e:Ev}:QT x e=true↔x.1=e.1/\x.2.1=e.2.1:=by unfold QT;simp
theorem acr(x e:Ev):OQ x.1 x.2.1 x.2.2.1 x.2.2.2.1 x.2.2.2.2.1 x.2.2.2.2.2.1 x.2.2.2.2.2.2 e.1 e.2.1 e.2.2.1 e.2.2.2.1 e.2.2.2.2.1 e.2.2.2.2.2.1 e.2.2.2.2.2.2=some (QT x e,()):=by
 unfold OQ QT;simp only[af];by_cases h:x.1=e.1
 ·rw[h];simp[Bool.beq_eq_decide_eq]
 ·rw[decide_eq_false h,show(x.1==e.1)=false from by simpa using h];rfl
theorem index_eq(a:List Ev)(e:Ev)(hl:a.length<=1073741824):∃r:Int,JG a e.1 e.2.1 e.2.2.1 e.2.2.2.1 e.2.2.2.2.1 e.2.2.2.2.2.1 e.2.2.2.2.2.2=some (r,()) /\
  ((r = -1/\∀x,x∈a->QT x e=false)\/∃n:Nat,n<a.length/\r=(n:Int)/\QT (a.getD n bg) e=true):=by
 obtain⟨y,hy,hc⟩:=eL (body:=Jw (a,e.1,e.2.1,e.2.2.1,e.2.2.2.1,e.2.2.2.2.1,e.2.2.2.2.2.1,e.2.2.2.2.2.2,ai a,())) (fun n=>((n:Int),())) a.length (by omega) (fun n=>!QT (a.getD n bg) e) (Sum.inr (Sum.inl ())) (fun n=>Sum.inl ((n:Int),())) (fun n hn=>by
   unfold Jw;simp only[aj,hn,decide_true,cond_true,ax,ak,acr,Option.bind_some,au (n:=n) (by omega)];cases QT (a.getD n bg) e <;> rfl) (by
   unfold Jw;simp only[aj,Nat.lt_irrefl,decide_false,cond_false])
 unfold JG J8;rw[show(0:Int)=((0:Nat):Int)from rfl,hy];rcases hc with ⟨hall,rfl⟩|⟨_,n,hn,rfl,hk⟩
 ·refine⟨-1,rfl,.inl ⟨rfl,fun x hx=>?_⟩⟩;obtain⟨m,hm,rfl⟩:=List.getElem_of_mem hx;have:=(aO _ _).1 hall m (Nat.zero_le _) (by omega);simp only[Bool.not_eq_true']at this;rw[List.getD_eq_getElem?_getD,List.getElem?_eq_getElem hm]at this;exact this
 ·exact⟨(n:Int),rfl,.inr ⟨n,hn,rfl,by simpa using hk⟩⟩
theorem Zw{l:List Ev}(h:Zy l):∀x,x∈l->∀y,y∈l->QT x y=true->x=y:=by
 induction l with
 |nil=>intro x hx;exact absurd hx List.not_mem_nil
 |cons u l ih=>
  have h':=List.pairwise_cons.1 h;intro x hx y hy hk;rw[PZ]at hk;rcases List.mem_cons.1 hx with e1|pW <;> rcases List.mem_cons.1 hy with e2|hy1
  ·rw[e1,e2]
  ·have:=h'.1 y hy1;rw[OR,<-e1]at this;omega
  ·have:=h'.1 x pW;rw[OR,<-e2]at this;omega
  ·exact ih h'.2 x pW y hy1 (PZ.2 hk)
abbrev adb:=List Ev×Bool×Unit⊕(List Ev×Unit⊕Empty)
open Classical in
noncomputable def VZ(a:List Ev)(out:List Ev)(e:Ev):List Ev⊕adb:=if a.any (fun x=>QT x e)=true then(if e∈a then .inl out else .inr (.inl ([],false,())))else .inl (out++[e])
theorem adJ(a:List Ev):∀(l out:List Ev),(∃e,e∈l/\a.any (fun x=>QT x e)=true/\e∉a/\gj (VZ a) (fun out=>(.inr (.inl (out,())):adb)) l out=.inl ([],false,()))\/((∀e,e∈l->a.any (fun x=>QT x e)=true->e∈a)/\gj (VZ a) (fun out=>(.inr (.inl (out,())):adb)) l out=.inr (.inl (out++l.filter (fun e=>!a.any (fun x=>QT x e)),())))
 | [],out=>.inr ⟨fun e he=>absurd he List.not_mem_nil,by simp[gj]⟩
 |y::l,out=>by
  by_cases h1:a.any (fun x=>QT x y)=true
  ·by_cases h2:y∈a
   ·have hs:VZ a out y=.inl out:=by unfold VZ;rw[if_pos h1,if_pos h2]
    rcases adJ a l out with ⟨e,he,k1,k2,k3⟩|⟨k1,k2⟩
    ·exact .inl ⟨e,List.mem_cons_of_mem _ he,k1,k2,by simp only[gj,hs,k3]⟩
    ·refine .inr ⟨fun e he hk=>?_,by simp only[gj,hs,k2,List.filter_cons,h1,Bool.not_true];rfl⟩;rcases List.mem_cons.1 he with rfl|he
     ·exact h2
     ·exact k1 e he hk
   ·exact .inl ⟨y,List.mem_cons_self ..,h1,h2,by unfold gj VZ;rw[if_pos h1,if_neg h2]⟩
  ·have hs:VZ a out y=.inl (out++[y]):=by unfold VZ;rw[if_neg h1]
   rw[Bool.not_eq_true]at h1;rcases adJ a l (out++[y])with ⟨e,he,k1,k2,k3⟩|⟨k1,k2⟩
   ·exact .inl ⟨e,List.mem_cons_of_mem _ he,k1,k2,by simp only[gj,hs,k3]⟩
   ·refine .inr ⟨fun e he hk=>?_,by simp only[gj,hs,k2,List.filter_cons,h1,Bool.not_false,if_true,List.append_assoc,List.singleton_append]⟩;rcases List.mem_cons.1 he with rfl|he
    ·rw[h1]at hk;cases hk
    ·exact k1 e he hk
theorem Z9(a b:List Ev)(ha:a.length<=60)(hb:b.length<=60)(hs:Zy a):P5 (a,b,ai b,()) (a,(0:Int),())=some (gj (VZ a) (fun out=>.inr (.inl (out,()))) b a):=by
 refine gX (body:=OA (a,b,ai b,())) b bg (by omega) (fun out n=>(out,(n:Int),())) (VZ a) (fun out=>.inr (.inl (out,()))) (fun n out=>out.length<=a.length+n) (fun n out hn ho=>⟨?_,fun o he=>?_⟩) (fun out ho=>?_) a (by omega)
 ·unfold OA;simp only[aj,hn,decide_true,cond_true,ax,ak];generalize b.getD n bg=e;obtain⟨r,hr,⟨rfl,hno⟩|⟨m,hm,rfl,hk⟩⟩:=index_eq a e (by omega)
  ·have Ai:¬(a.any (fun x=>QT x e)=true):=by
    rw[List.any_eq_true];rintro⟨x,hx,hk⟩;rw[hno x hx]at hk;cases hk
   have l8:aE (out++[e])=true:=KP (by simp;omega);unfold VZ;rw[if_neg Ai];simp only[hr,Option.bind_some,agO,cond_true,af6,l8,au (n:=n) (by omega)]
  ·have Ai:a.any (fun x=>QT x e)=true:=List.any_eq_true.2 ⟨_,Qj hm bg,hk⟩;unfold VZ;rw[if_pos Ai];have hneg:af .lss (m:Int) (0:Int)=false:=adK (by omega);simp only[hr,Option.bind_some,hneg,cond_false,ax,hm,decide_true,cond_true,ak,ae7,aR,au (n:=n) (by omega)];by_cases he:a.getD m bg=e
   ·rw[if_pos (he▸Qj hm bg),decide_eq_true he];rfl
   ·have hne:e∉a:=fun h=>he (Zw hs _ (Qj hm bg) e h hk);rw[if_neg hne,decide_eq_false he];rfl
 ·unfold VZ at he;split at he
  ·split at he
   ·injection he with he;rw[<-he];omega
   ·cases he
  ·injection he with he
   rw[<-he];simp;omega
 ·unfold OA;simp only[aj,Nat.lt_irrefl,decide_false,cond_false]
theorem acu:(List.range 256).all (fun n=>(P0 (n:Int)).isSome)=true:=by decide +kernel
theorem abF{n:Nat}(h:n<=255):∃L,P0 (n:Int)=some (L,()):=by have h1:=List.all_eq_true.1 acu n (List.mem_range.2 (by omega));obtain⟨⟨L,u⟩,hL⟩:=Option.isSome_iff_exists.1 h1;exact⟨L,hL⟩
theorem abQ(l:List Ev)(hl:l.length<=255):∃r:List Ev,JI l=some (r,())/\r.Perm l/\∀i j,i<j->j<r.length->Pw (r.getD j default) (r.getD i default)=false:=by obtain⟨L,hL⟩:=abF hl;obtain⟨r,h1,h2,h3⟩:=aaA acz l L hl;refine⟨r,?_,h2,h3⟩;unfold JI;rw[aaS,show aq .u64 (ai l)=(l.length:Int)from abr (by omega),hL,show ai l=(l.length:Int)from rfl];simp only[Option.bind_some,h1]
theorem Zk(a b:List Ev):PI a b=some ((X0 a b).1,(X0 a b).2,()):=by
 unfold PI X0;simp only[Vn,Option.bind_some];cases ha:W4 a with
 |false=>rfl
 |true=>
  cases hb:W4 b with
  |false=>rfl
  |true=>
   have la:=WH ha;have lb:=WH hb;have sa:=Vz ha;have sb:=Vz hb;simp only[Bool.not_true,cond_false,cond_true,Y2 a (by omega),Option.bind_some,Z9 a b la lb sa];have hm:=iW sa sb;rcases adJ a b a with ⟨e,he,k1,k2,k3⟩|⟨k1,k2⟩
   ·rw[k3];cases hmm:merge a b with
    |none=>rfl
    |some m=>rw[hmm]at hm;obtain⟨x,hx,hk⟩:=List.any_eq_true.1 k1;rw[PZ]at hk;exact absurd (hm.2.2.2 x hx e he hk.1 hk.2▸hx) k2
   ·rw[k2];have hfl:(b.filter (fun e=>!a.any (fun x=>QT x e))).length<=b.length:=List.length_filter_le _ _;obtain⟨r,hr,hp,hsr⟩:=abQ (a++b.filter (fun e=>!a.any (fun x=>QT x e))) (by rw[List.length_append];omega);simp only[Option.bind_some,Sum.elim_inr,Sum.elim_inl,hr];have hkeys:(a++b.filter (fun e=>!a.any (fun x=>QT x e))).Pairwise (fun x y=>QT x y=false):=by
     rw[List.pairwise_append];refine⟨sa.imp fun {x y} h=>?_,(sb.filter _).imp fun {x y} h=>?_,fun x hx y hy=>?_⟩
     ·rw[<-Bool.not_eq_true,PZ];rw[OR]at h;omega
     ·rw[<-Bool.not_eq_true,PZ];rw[OR]at h;omega
     ·have h1:=(List.mem_filter.1 hy).2;rw[Bool.not_eq_true',<-Bool.not_eq_true,List.any_eq_true]at h1;rw[<-Bool.not_eq_true];exact fun hk=>h1 ⟨x,hx,hk⟩
    have hkr:r.Pairwise (fun x y=>QT x y=false):=(hp.pairwise_iff (fun {x y} h=>by rw[<-Bool.not_eq_true,PZ]at *;omega)).2 hkeys;have srr:Zy r:=by unfold Zy;rw[List.pairwise_iff_getElem]at hkr⊢;intro i j hi hj hij;have h1:=hkr i j hi hj hij;have h2:=hsr i j hij hj;rw[List.getD_eq_getElem?_getD,List.getD_eq_getElem?_getD,List.getElem?_eq_getElem hj,List.getElem?_eq_getElem hi]at h2;simp only[Option.getD_some]at h2;rw[<-Bool.not_eq_true,PZ]at h1;rw[YE]at h2;rw[OR];omega
    cases hmm:merge a b with
    |none=>rw[hmm]at hm;obtain⟨x,hx,y,hy,e1,e2,hne⟩:=hm;have:y∈a:=k1 y hy (List.any_eq_true.2 ⟨x,hx,PZ.2 ⟨e1,e2⟩⟩);exact absurd (Zw sa x hx y this (PZ.2 ⟨e1,e2⟩)) hne
    |some m=>
     rw[hmm]at hm;have:r=m:=Zv srr hm.1 fun z=>by
      rw[hp.mem_iff,List.mem_append,List.mem_filter,hm.2.1 z];constructor
      ·rintro(h|h)
       ·exact .inl h
       ·exact .inr h.1
      ·rintro(h|h)
       ·exact .inl h
       ·by_cases hz:a.any (fun x=>QT x z)=true
        ·exact .inl (k1 z h hz)
        ·exact .inr ⟨h,by simpa using hz⟩
     rw[this];simp only[Vn,Option.bind_some];cases W4 m <;> rfl
end Go.Fn
set_option linter.unusedSimpArgs false
set_option linter.unusedVariables false
namespace Go.Fn
open Go.R Go.Sort
noncomputable def aai(x y:Ev):Prop:=Pw x y=true/\(x.1=y.1->x.2.2.1<y.2.2.1)
theorem acE{x y z:Ev}(h1:aai x y)(h2:aai y z):aai x z:=by obtain⟨a1,a2⟩:=h1;obtain⟨b1,b2⟩:=h2;refine⟨Xl a1 b1,fun h=>?_⟩;rw[OR]at a1 b1;have:=a2 (by omega);have:=b2 (by omega);omega
theorem Y8{x y:Ev}:Y7 x y=true↔aai x y:=by unfold aai;simp only[Y7,Bool.not_eq_true',Bool.or_eq_false_iff,Bool.and_eq_false_iff,decide_eq_false_iff_not,OR];omega
theorem ZP{R:Ev->Ev->Prop}(tr:∀x y z,R x y->R y z->R x z):∀(l:List Ev),(∀n,n+1<l.length->R (l.getD n bg) (l.getD (n+1) bg))->l.Pairwise R
 | [],_=>List.Pairwise.nil
 | [x],_=>List.pairwise_singleton _ _
 |x::y::l,h=>by
  have ih:=ZP tr (y::l) (fun n hn=>h (n+1) (by simpa using hn));have hxy:R x y:=h 0 (by simp);refine List.Pairwise.cons (fun z hz=>?_) ih;rcases List.mem_cons.1 hz with rfl|hz
  ·exact hxy
  ·exact tr _ _ _ hxy ((List.pairwise_cons.1 ih).1 z hz)
theorem getD_eq{α:Type}{l:List α}{n:Nat}(h:n<l.length)(z:α):l.getD n z=l[n]:=by rw[List.getD_eq_getElem?_getD,List.getElem?_eq_getElem h];rfl
theorem acq{l:List Ev}:W4 l=true↔l.length<=60/\(∀x,x∈l->V9 x=true)/\l.Pairwise aai:=by
 constructor
 ·intro h;refine⟨WH h,fun x hx=>?_,ZP (R:=aai) (fun _ _ _ h1 h2=>acE h1 h2) l fun n hn=>?_⟩
  ·obtain⟨n,hn,rfl⟩:=List.getElem_of_mem hx;have:=adH h hn;rwa[getD_eq hn]at this
  ·have:=aaa h hn;simp only[Tj,Bool.and_eq_true]at this;exact Y8.1 this.2
 ·intro ⟨h1,h2,h3⟩;unfold W4;rw[decide_eq_false (by omega)];refine(aO _ _).2 fun m _ hm=>?_;rw[Nat.zero_add]at hm;cases m with
  |zero=>exact h2 _ (Qj hm _)
  |succ m=>simp only[Tj,Bool.and_eq_true];refine⟨h2 _ (Qj hm _),Y8.2 ?_⟩;rw[getD_eq hm,getD_eq (show m<l.length by omega)];exact List.pairwise_iff_getElem.1 h3 m (m+1) (by omega) hm (by omega)
theorem acp{l:List Ev}(h:W4 l=true):∀x,x∈l->V9 x=true:=(acq.1 h).2.1
theorem aaX{a b m:List Ev}(ha:W4 a=true)(hb:W4 b=true)(hm:W4 m=true)(hx:∀z,z∈m↔z∈a\/z∈b):X0 a b=(m,true):=by
 have h:=iW (Vz ha) (Vz hb);unfold X0;rw[ha,hb];simp only[cond_true];cases hmm:merge a b with
 |none=>rw[hmm]at h;obtain⟨x,pW,y,hy1,e1,e2,hne⟩:=h;exact absurd (Zw (Vz hm) x ((hx x).2 (.inl pW)) y ((hx y).2 (.inr hy1)) (PZ.2 ⟨e1,e2⟩)) hne
 |some m'=>
  rw[hmm]at h;have:m'=m:=Zv h.1 (Vz hm) fun z=>by rw[h.2.1 z,hx z]
  rw[this];simp only[hm,cond_true]
noncomputable def ZF(node:Int)(s:Int×Int×Nat×Nat)(x:Ev):Int×Int×Nat×Nat:=((bif decide (x.1=node)then x.2.1+1 else s.1),max s.2.1 (x.2.2.1+1),(bif decide (x.1<=node)then s.2.2.2+1 else s.2.2.1),s.2.2.2+1)
noncomputable def Zc(l:List Ev)(node:Int):Int×Int×Nat×Nat:=l.foldl (ZF node) (1,1,0,0)
noncomputable def afA(l:List Ev)(node kind RR a b:Int):Ev:=(node,(Zc l node).1,(Zc l node).2.1,kind,RR,a,b)
noncomputable def YM(l:List Ev)(node kind RR a b:Int):List Ev:=l.take (Zc l node).2.2.1++[afA l node kind RR a b]++l.drop (Zc l node).2.2.1
noncomputable def acY(l:List Ev)(node kind RR a b:Int):List Ev×Bool:=bif W4 l then bif W4 (YM l node kind RR a b)then(YM l node kind RR a b,true)else(l,false)else(l,false)
structure abh (node:Int) (p:List Ev) (s:Int×Int×Nat×Nat):Prop where
 c:s.2.2.2=p.length
 ae6:s.2.2.1<=p.length
 s1:∀x,x∈p->x.1=node->x.2.1<s.1
 s2:s.1=1\/∃x,x∈p/\x.1=node/\s.1=x.2.1+1
 p1:∀x,x∈p->x.2.2.1<s.2.1
 p2:s.2.1=1\/∃x,x∈p/\s.2.1=x.2.2.1+1
 a1:∀x,x∈p.take s.2.2.1->x.1<=node
 a2:∀x,x∈p.drop s.2.2.1->node<x.1
theorem aaJ{node:Int}{p:List Ev}{s:Int×Int×Nat×Nat}{x:Ev}(h:abh node p s)(hp:Zy (p++[x])):abh node (p++[x]) (ZF node s x):=by
 have hlt:∀y,y∈p->Pw y x=true:=fun y hy=>(List.pairwise_append.1 hp).2.2 y hy x (List.mem_singleton.2 rfl);obtain⟨h1,h2,h3,h4,h5,h6,h7,h8⟩:=h;unfold ZF;refine⟨by simp[h1],?_,fun y hy hn=>?_,?_,fun y hy=>?_,?_,?_,?_⟩
 ·cases decide (x.1<=node) <;> simp <;> omega
 ·simp only[];rcases List.mem_append.1 hy with hy|hy
  ·by_cases hx:x.1=node
   ·rw[decide_eq_true hx];have:=hlt y hy;rw[OR]at this;simp only[cond_true];omega
   ·rw[decide_eq_false hx];exact h3 y hy hn
  ·rw[List.mem_singleton]at hy;subst hy;rw[decide_eq_true hn];simp only[cond_true];omega
 ·simp only[];by_cases hx:x.1=node
  ·rw[decide_eq_true hx];exact .inr ⟨x,by simp,hx,rfl⟩
  ·rw[decide_eq_false hx];rcases h4 with h4|⟨y,hy,h4⟩
   ·exact .inl h4
   ·exact .inr ⟨y,List.mem_append_left _ hy,h4⟩
 ·simp only[];rcases List.mem_append.1 hy with hy|hy
  ·have:=h5 y hy;omega
  ·rw[List.mem_singleton]at hy;subst hy;omega
 ·simp only[];by_cases hm:s.2.1<=x.2.2.1+1
  ·exact .inr ⟨x,by simp,by omega⟩
  ·rcases h6 with h6|⟨y,hy,h6⟩
   ·exact .inl (by omega)
   ·exact .inr ⟨y,List.mem_append_left _ hy,by omega⟩
 ·simp only[];by_cases hx:x.1<=node
  ·rw[decide_eq_true hx];intro y hy;rw[cond_true,h1,List.take_of_length_le (by simp)]at hy;rcases List.mem_append.1 hy with hy|hy
   ·have:=hlt y hy;rw[OR]at this;omega
   ·rw[List.mem_singleton]at hy;subst hy;exact hx
  ·rw[decide_eq_false hx];intro y hy;rw[cond_false,List.take_append_of_le_length h2]at hy;exact h7 y hy
 ·simp only[];by_cases hx:x.1<=node
  ·rw[decide_eq_true hx];intro y hy;rw[cond_true,h1,List.drop_of_length_le (by simp)]at hy;exact absurd hy List.not_mem_nil
  ·rw[decide_eq_false hx];intro y hy;rw[cond_false,List.drop_append_of_le_length h2]at hy;rcases List.mem_append.1 hy with hy|hy
   ·exact h8 y hy
   ·rw[List.mem_singleton]at hy;subst hy;omega
theorem ZD(node:Int):∀(l p:List Ev) (s:Int×Int×Nat×Nat),Zy (p++l)->abh node p s->abh node (p++l) (l.foldl (ZF node) s)
 | [],p,s,_,h=>by simpa using h
 |x::l,p,s,hp,h=>by
  have e:p++x::l=(p++[x])++l:=by simp
  rw[e]at hp⊢;exact ZD node l (p++[x]) (ZF node s x) hp (aaJ h (List.pairwise_append.1 hp).1)
theorem ZE(node:Int){l:List Ev}(h:Zy l):abh node l (Zc l node):=by have:=ZD node l [] (1,1,0,0) (by simpa using h) ⟨rfl,Nat.le_refl _,fun x hx=>absurd hx List.not_mem_nil,.inl rfl,fun x hx=>absurd hx List.not_mem_nil,.inl rfl,fun x hx=>absurd (List.mem_of_mem_take hx) List.not_mem_nil,fun x hx=>absurd (List.mem_of_mem_drop hx) List.not_mem_nil⟩;exact this
theorem TC{l:List Ev}{node kind RR a b:Int}(z:Ev):z∈YM l node kind RR a b↔z=afA l node kind RR a b\/z∈l:=by
 unfold YM;rw[List.mem_append,List.mem_append,List.mem_singleton];constructor
 ·rintro((h|h)|h)
  ·exact .inr (List.mem_of_mem_take h)
  ·exact .inl h
  ·exact .inr (List.mem_of_mem_drop h)
 ·rintro(h|h)
  ·exact .inl (.inr h)
  ·rw[<-List.take_append_drop (Zc l node).2.2.1 l,List.mem_append]at h;rcases h with h|h
   ·exact .inl (.inl h)
   ·exact .inr h
theorem aa8{l:List Ev}(h:Zy l)(node kind RR a b:Int):(YM l node kind RR a b).length=l.length+1:=by have:=(ZE node h).ae6;unfold YM;simp only[List.length_append,List.length_take,List.length_drop,List.length_singleton];omega
end Go.Fn
set_option linter.unusedSimpArgs false
set_option linter.unusedVariables false
namespace Go.Fn
open Go.R Go.Sort
structure aaE (n:Nat) (base:List Ev) (S:Int->Prop) (l:List Ev):Prop where
 j:W4 l=true
 len:l.length<=n
 st:∀x,x∈l->x.2.2.1<=(n:Int)
 gap:∀x,x∈l->∀s:Int,1<=s->s<=x.2.1->∃y,y∈l/\y.1=x.1/\y.2.1=s
 sub:∀x,x∈base->x∈l
 new:∀x,x∈l->x∈base\/S x.1
theorem aaE.mono{n m:Nat}{base:List Ev}{S:Int->Prop}{l:List Ev}(h:aaE n base S l)(hm:n<=m):aaE m base S l:=⟨h.j,by have:=h.len;omega,fun x hx=>by have:=h.st x hx;omega,h.gap,h.sub,h.new⟩
theorem aaE.add{n:Nat}{base:List Ev}{S:Int->Prop}{l:List Ev}(h:aaE n base S l){node:Int}(hS:S node)(kind RR a b:Int):aaE (n+1) base S (acY l node kind RR a b).1:=by
 unfold acY;rw[h.j];simp only[cond_true];cases hw:W4 (YM l node kind RR a b)with
 |false=>exact h.mono (Nat.le_succ _)
 |true=>
  have hs:=Vz h.j;have hi:=ZE node hs;simp only[cond_true];refine⟨hw,by rw[aa8 hs];have:=h.len;omega,fun x hx=>?_,fun x hx s h1 h2=>?_,fun x hx=>(TC x).2 (.inr (h.sub x hx)),fun x hx=>?_⟩
  ·rcases(TC x).1 hx with e|e
   ·rw[e];show(Zc l node).2.1<=_;rcases hi.p2 with p|⟨y,hy,p⟩
    ·rw[p];omega
    ·rw[p];have:=h.st y hy;omega
   ·have:=h.st x e;omega
  ·rcases(TC x).1 hx with e|e
   ·subst e;have h2:s<=(Zc l node).1:=h2;by_cases e:s=(Zc l node).1
    ·exact⟨_,hx,rfl,e.symm⟩
    ·rcases hi.s2 with p|⟨y,hy,q,p⟩
     ·omega
     ·obtain⟨z,hz,e1,e2⟩:=h.gap y hy s h1 (by omega);exact⟨z,(TC z).2 (.inr hz),by rw[e1,q];rfl,e2⟩
   ·obtain⟨z,hz,e1,e2⟩:=h.gap x e s h1 h2;exact⟨z,(TC z).2 (.inr hz),e1,e2⟩
  ·rcases(TC x).1 hx with e|e
   ·rw[e];exact .inr hS
   ·exact h.new x e
theorem Yh(l:List Ev)(hl:l.length<=1073741824):PV l l=some (true,()):=by
 unfold PV;rw[Py];have Ti:Rf (l,l,()) ((0:Int),())=some (.inr (.inl ())):=by
  refine aU (body:=PM (l,l,())) (fun n=>((n:Int),())) l.length (by omega) _ (fun n hn=>?_) ?_
  ·unfold PM;simp only[aj,ax,hn,decide_true,cond_true,ak,ae7,Bool.not_true,aR,cond_false,au (n:=n) (by omega)]
  ·unfold PM;simp only[aj,Nat.lt_irrefl,decide_false,cond_false]
 rw[Ti];rfl
end Go.Fn
set_option linter.unusedSimpArgs false
set_option linter.unusedVariables false
namespace Go.Fn
open Go.R Go.Sort
abbrev Oks(l:List Ev)(d:Array Int):Prop:=∀k,k<d.size->0<=d[k]! /\ d[k]! < l.length
theorem Oks.perm{l:List Ev}{d d':Array Int}{a b:Nat}(h:Oks l d)(hb:b<=d.size)(hp:PermIn a b d d'):Oks l d':=by have h0:=permIn_mono d d' a b 0 d.size (Nat.zero_le _) hb (Nat.le_refl _) hp;have:=permIn_all d d' 0 d.size (fun x=>0<=x/\x<l.length) (Nat.le_refl _) h0 (fun i _ hi=>h i hi);exact fun k hk=>this k (Nat.zero_le _) (by rw[<-hp.1];exact hk)
end Go.Fn
set_option linter.unusedSimpArgs false
set_option linter.unusedVariables false
namespace Go.Fn
open Go.R Go.Sort
theorem YJ{α:Type}{lt:α->α->Prop}(irr:∀x,¬lt x x)(asy:∀x y,lt x y -> ¬lt y x):∀ {l m:List α},l.Pairwise lt->m.Pairwise lt->(∀x,x∈l↔x∈m)->l=m
 | [],[],_,_,_=>rfl
 | [],y::m,_,_,h=>absurd ((h y).2 (List.mem_cons_self ..)) (List.not_mem_nil)
 |x::l,[],_,_,h=>absurd ((h x).1 (List.mem_cons_self ..)) (List.not_mem_nil)
 |x::l,y::m,hl,hm,h=>by
  have hl':=List.pairwise_cons.1 hl;have hm':=List.pairwise_cons.1 hm;have hxy:x=y:=by
   rcases List.mem_cons.1 ((h x).1 (List.mem_cons_self ..))with e|h1
   ·exact e
   ·rcases List.mem_cons.1 ((h y).2 (List.mem_cons_self ..))with e|h2
    ·exact e.symm
    ·exact absurd (hl'.1 y h2) (asy _ _ (hm'.1 x h1))
  subst hxy;congr 1;refine YJ irr asy hl'.2 hm'.2 fun z=>⟨fun hz=>?_,fun hz=>?_⟩
  ·rcases List.mem_cons.1 ((h z).1 (List.mem_cons_of_mem _ hz))with e|h1
   ·subst e;exact absurd (hl'.1 z hz) (irr z)
   ·exact h1
  ·rcases List.mem_cons.1 ((h z).2 (List.mem_cons_of_mem _ hz))with e|h1
   ·subst e;exact absurd (hm'.1 z hz) (irr z)
   ·exact h1
end Go.Fn
set_option linter.unusedSimpArgs false
set_option linter.unusedVariables false
namespace Go.Fn
open Go.R
section
variable {a0 a1:Int} {g:List (List Int)} {s:List Stp}
noncomputable def lg(g:List (List Int))(p q:Int):Int:=leg g p.toNat q.toNat
end
end Go.Fn
set_option linter.unusedSimpArgs false
set_option linter.unusedVariables false
namespace Go.Fn
open Go.R Go.Sort
noncomputable def R8(x y:Int):Bool:=decide (x<y)
theorem J4(x y:Int):I2 x y=some (R8 x y,()):=by unfold I2 Oq R8;simp only[Py,Option.bind_some,cond_false];rfl
theorem c6:MM=Ll (R8):=by
 funext;unfold MM Ll;try simp only[J4,Option.bind_some]
 try rfl
theorem fe:LG=NM (R8):=by
 funext;unfold LG NM;try simp only[J4,Option.bind_some,c6]
 try rfl
theorem gb:ML=LO (R8):=by
 funext;unfold ML LO;try simp only[J4,Option.bind_some,c6,fe]
 try rfl
theorem gI:LF=NL (R8):=by
 funext;unfold LF NL;try simp only[J4,Option.bind_some,c6,fe,gb]
 try rfl
theorem rp:L7=N6 (R8):=by
 funext;unfold L7 N6;try simp only[J4,Option.bind_some,c6,fe,gb,gI]
 try rfl
theorem ze:NP=LC (R8):=by
 funext;unfold NP LC;try simp only[J4,Option.bind_some,c6,fe,gb,gI,rp]
 try rfl
theorem zg:Ms=PY (R8):=by
 funext;unfold Ms PY;try simp only[J4,Option.bind_some,c6,fe,gb,gI,rp,ze]
 try rfl
theorem I9:L8=Qi (R8):=by
 funext;unfold L8 Qi;try simp only[J4,Option.bind_some,c6,fe,gb,gI,rp,ze,zg]
 try rfl
theorem IE:NN=Oi (R8):=by
 funext;unfold NN Oi;try simp only[J4,Option.bind_some,c6,fe,gb,gI,rp,ze,zg,I9]
 try rfl
theorem IK:Mq=PW (R8):=by
 funext;unfold Mq PW;try simp only[J4,Option.bind_some,c6,fe,gb,gI,rp,ze,zg,I9,IE]
 try rfl
theorem IP:NO=Oj (R8):=by
 funext;unfold NO Oj;try simp only[J4,Option.bind_some,c6,fe,gb,gI,rp,ze,zg,I9,IE,IK]
 try rfl
theorem IR:Mr=PX (R8):=by
 funext;unfold Mr PX;try simp only[J4,Option.bind_some,c6,fe,gb,gI,rp,ze,zg,I9,IE,IK,IP]
 try rfl
theorem Js:Nc=Rd (R8):=by
 funext;unfold Nc Rd;try simp only[J4,Option.bind_some,c6,fe,gb,gI,rp,ze,zg,I9,IE,IK,IP,IR]
 try rfl
theorem qW:MK=Lj (R8):=by
 funext;unfold MK Lj;try simp only[J4,Option.bind_some,c6,fe,gb,gI,rp,ze,zg,I9,IE,IK,IP,IR,Js]
 try rfl
theorem ve:LD=NK (R8):=by
 funext;unfold LD NK;try simp only[J4,Option.bind_some,c6,fe,gb,gI,rp,ze,zg,I9,IE,IK,IP,IR,Js,qW]
 try rfl
theorem IC:L6=N5 (R8):=by
 funext;unfold L6 N5;try simp only[J4,Option.bind_some,c6,fe,gb,gI,rp,ze,zg,I9,IE,IK,IP,IR,Js,qW,ve]
 try rfl
theorem Ku:LM=QX (R8):=by
 funext;unfold LM QX;try simp only[J4,Option.bind_some,c6,fe,gb,gI,rp,ze,zg,I9,IE,IK,IP,IR,Js,qW,ve,IC]
 try rfl
theorem KD:LL=RA (R8):=by
 funext;unfold LL RA;try simp only[J4,Option.bind_some,c6,fe,gb,gI,rp,ze,zg,I9,IE,IK,IP,IR,Js,qW,ve,IC,Ku]
 try rfl
theorem IG:KF=Mp (R8):=by
 funext;unfold KF Mp;try simp only[J4,Option.bind_some,c6,fe,gb,gI,rp,ze,zg,I9,IE,IK,IP,IR,Js,qW,ve,IC,Ku,KD]
 try rfl
theorem I4:LA=Oh (R8):=by
 funext;unfold LA Oh;try simp only[J4,Option.bind_some,c6,fe,gb,gI,rp,ze,zg,I9,IE,IK,IP,IR,Js,qW,ve,IC,Ku,KD,IG]
 try rfl
theorem IA:M5=L5 (R8):=by
 funext;unfold M5 L5;try simp only[J4,Option.bind_some,c6,fe,gb,gI,rp,ze,zg,I9,IE,IK,IP,IR,Js,qW,ve,IC,Ku,KD,IG,I4]
 try rfl
theorem IL:LU=N3 (R8):=by
 funext;unfold LU N3;try simp only[J4,Option.bind_some,c6,fe,gb,gI,rp,ze,zg,I9,IE,IK,IP,IR,Js,qW,ve,IC,Ku,KD,IG,I4,IA]
 try rfl
theorem I7:Lq=NV (R8):=by
 funext;unfold Lq NV;try simp only[J4,Option.bind_some,c6,fe,gb,gI,rp,ze,zg,I9,IE,IK,IP,IR,Js,qW,ve,IC,Ku,KD,IG,I4,IA,IL]
 try rfl
theorem kW:LQ=J9 (R8):=by
 funext;unfold LQ J9;try simp only[J4,Option.bind_some,c6,fe,gb,gI,rp,ze,zg,I9,IE,IK,IP,IR,Js,qW,ve,IC,Ku,KD,IG,I4,IA,IL,I7]
 try rfl
theorem lm:KS=LJ (R8):=by
 funext;unfold KS LJ;try simp only[J4,Option.bind_some,c6,fe,gb,gI,rp,ze,zg,I9,IE,IK,IP,IR,Js,qW,ve,IC,Ku,KD,IG,I4,IA,IL,I7,kW]
 try rfl
theorem qe:LR=KQ (R8):=by
 funext;unfold LR KQ;try simp only[J4,Option.bind_some,c6,fe,gb,gI,rp,ze,zg,I9,IE,IK,IP,IR,Js,qW,ve,IC,Ku,KD,IG,I4,IA,IL,I7,kW,lm]
 try rfl
theorem r7:KT=LK (R8):=by
 funext;unfold KT LK;try simp only[J4,Option.bind_some,c6,fe,gb,gI,rp,ze,zg,I9,IE,IK,IP,IR,Js,qW,ve,IC,Ku,KD,IG,I4,IA,IL,I7,kW,lm,qe]
 try rfl
theorem vn:LS=Ka (R8):=by
 funext;unfold LS Ka;try simp only[J4,Option.bind_some,c6,fe,gb,gI,rp,ze,zg,I9,IE,IK,IP,IR,Js,qW,ve,IC,Ku,KD,IG,I4,IA,IL,I7,kW,lm,qe,r7]
 try rfl
theorem xb:Kl=K7 (R8):=by
 funext;unfold Kl K7;try simp only[J4,Option.bind_some,c6,fe,gb,gI,rp,ze,zg,I9,IE,IK,IP,IR,Js,qW,ve,IC,Ku,KD,IG,I4,IA,IL,I7,kW,lm,qe,r7,vn]
 try rfl
theorem xn:LP=JJ (R8):=by
 funext;unfold LP JJ;try simp only[J4,Option.bind_some,c6,fe,gb,gI,rp,ze,zg,I9,IE,IK,IP,IR,Js,qW,ve,IC,Ku,KD,IG,I4,IA,IL,I7,kW,lm,qe,r7,vn,xb]
 try rfl
theorem zb:KR=LI (R8):=by
 funext;unfold KR LI;try simp only[J4,Option.bind_some,c6,fe,gb,gI,rp,ze,zg,I9,IE,IK,IP,IR,Js,qW,ve,IC,Ku,KD,IG,I4,IA,IL,I7,kW,lm,qe,r7,vn,xb,xn]
 try rfl
theorem IW:JK=Kk (R8):=by
 funext;unfold JK Kk;try simp only[J4,Option.bind_some,c6,fe,gb,gI,rp,ze,zg,I9,IE,IK,IP,IR,Js,qW,ve,IC,Ku,KD,IG,I4,IA,IL,I7,kW,lm,qe,r7,vn,xb,xn,zb]
 try rfl
theorem Jb:My=Mv (R8):=by
 funext;unfold My Mv;try simp only[J4,Option.bind_some,c6,fe,gb,gI,rp,ze,zg,I9,IE,IK,IP,IR,Js,qW,ve,IC,Ku,KD,IG,I4,IA,IL,I7,kW,lm,qe,r7,vn,xb,xn,zb,IW]
 try rfl
theorem Jh:Lv=Nw (R8):=by
 funext;unfold Lv Nw;try simp only[J4,Option.bind_some,c6,fe,gb,gI,rp,ze,zg,I9,IE,IK,IP,IR,Js,qW,ve,IC,Ku,KD,IG,I4,IA,IL,I7,kW,lm,qe,r7,vn,xb,xn,zb,IW,Jb]
 try rfl
theorem Jp:Mz=Mw (R8):=by
 funext;unfold Mz Mw;try simp only[J4,Option.bind_some,c6,fe,gb,gI,rp,ze,zg,I9,IE,IK,IP,IR,Js,qW,ve,IC,Ku,KD,IG,I4,IA,IL,I7,kW,lm,qe,r7,vn,xb,xn,zb,IW,Jb,Jh]
 try rfl
theorem Jv:Lw=Nx (R8):=by
 funext;unfold Lw Nx;try simp only[J4,Option.bind_some,c6,fe,gb,gI,rp,ze,zg,I9,IE,IK,IP,IR,Js,qW,ve,IC,Ku,KD,IG,I4,IA,IL,I7,kW,lm,qe,r7,vn,xb,xn,zb,IW,Jb,Jh,Jp]
 try rfl
theorem JF:Mx=Ls (R8):=by
 funext;unfold Mx Ls;try simp only[J4,Option.bind_some,c6,fe,gb,gI,rp,ze,zg,I9,IE,IK,IP,IR,Js,qW,ve,IC,Ku,KD,IG,I4,IA,IL,I7,kW,lm,qe,r7,vn,xb,xn,zb,IW,Jb,Jh,Jp,Jv]
 try rfl
theorem JU:Lu=Nv (R8):=by
 funext;unfold Lu Nv;try simp only[J4,Option.bind_some,c6,fe,gb,gI,rp,ze,zg,I9,IE,IK,IP,IR,Js,qW,ve,IC,Ku,KD,IG,I4,IA,IL,I7,kW,lm,qe,r7,vn,xb,xn,zb,IW,Jb,Jh,Jp,Jv,JF]
 try rfl
theorem Kz:vp=Jq (R8):=by
 funext;unfold vp Jq;try simp only[J4,Option.bind_some,c6,fe,gb,gI,rp,ze,zg,I9,IE,IK,IP,IR,Js,qW,ve,IC,Ku,KD,IG,I4,IA,IL,I7,kW,lm,qe,r7,vn,xb,xn,zb,IW,Jb,Jh,Jp,Jv,JF,JU]
 try rfl
theorem Lc:ND=Ot (R8):=by
 funext;unfold ND Ot;try simp only[J4,Option.bind_some,c6,fe,gb,gI,rp,ze,zg,I9,IE,IK,IP,IR,Js,qW,ve,IC,Ku,KD,IG,I4,IA,IL,I7,kW,lm,qe,r7,vn,xb,xn,zb,IW,Jb,Jh,Jp,Jv,JF,JU,Kz]
 try rfl
theorem Ly:Mb=Pk (R8):=by
 funext;unfold Mb Pk;try simp only[J4,Option.bind_some,c6,fe,gb,gI,rp,ze,zg,I9,IE,IK,IP,IR,Js,qW,ve,IC,Ku,KD,IG,I4,IA,IL,I7,kW,lm,qe,r7,vn,xb,xn,zb,IW,Jb,Jh,Jp,Jv,JF,JU,Kz,Lc]
 try rfl
theorem LW:NE=Ou (R8):=by
 funext;unfold NE Ou;try simp only[J4,Option.bind_some,c6,fe,gb,gI,rp,ze,zg,I9,IE,IK,IP,IR,Js,qW,ve,IC,Ku,KD,IG,I4,IA,IL,I7,kW,lm,qe,r7,vn,xb,xn,zb,IW,Jb,Jh,Jp,Jv,JF,JU,Kz,Lc,Ly]
 try rfl
theorem Mk:Mc=Pm (R8):=by
 funext;unfold Mc Pm;try simp only[J4,Option.bind_some,c6,fe,gb,gI,rp,ze,zg,I9,IE,IK,IP,IR,Js,qW,ve,IC,Ku,KD,IG,I4,IA,IL,I7,kW,lm,qe,r7,vn,xb,xn,zb,IW,Jb,Jh,Jp,Jv,JF,JU,Kz,Lc,Ly,LW]
 try rfl
theorem MJ:NG=Qg (R8):=by
 funext;unfold NG Qg;try simp only[J4,Option.bind_some,c6,fe,gb,gI,rp,ze,zg,I9,IE,IK,IP,IR,Js,qW,ve,IC,Ku,KD,IG,I4,IA,IL,I7,kW,lm,qe,r7,vn,xb,xn,zb,IW,Jb,Jh,Jp,Jv,JF,JU,Kz,Lc,Ly,LW,Mk]
 try rfl
theorem Ns:Mf=Po (R8):=by
 funext;unfold Mf Po;try simp only[J4,Option.bind_some,c6,fe,gb,gI,rp,ze,zg,I9,IE,IK,IP,IR,Js,qW,ve,IC,Ku,KD,IG,I4,IA,IL,I7,kW,lm,qe,r7,vn,xb,xn,zb,IW,Jb,Jh,Jp,Jv,JF,JU,Kz,Lc,Ly,LW,Mk,MJ]
 try rfl
theorem NX:NH=Qh (R8):=by
 funext;unfold NH Qh;try simp only[J4,Option.bind_some,c6,fe,gb,gI,rp,ze,zg,I9,IE,IK,IP,IR,Js,qW,ve,IC,Ku,KD,IG,I4,IA,IL,I7,kW,lm,qe,r7,vn,xb,xn,zb,IW,Jb,Jh,Jp,Jv,JF,JU,Kz,Lc,Ly,LW,Mk,MJ,Ns]
 try rfl
theorem Ow:Mg=Pp (R8):=by
 funext;unfold Mg Pp;try simp only[J4,Option.bind_some,c6,fe,gb,gI,rp,ze,zg,I9,IE,IK,IP,IR,Js,qW,ve,IC,Ku,KD,IG,I4,IA,IL,I7,kW,lm,qe,r7,vn,xb,xn,zb,IW,Jb,Jh,Jp,Jv,JF,JU,Kz,Lc,Ly,LW,Mk,MJ,Ns,NX]
 try rfl
theorem Px:NF=Mh (R8):=by
 funext;unfold NF Mh;try simp only[J4,Option.bind_some,c6,fe,gb,gI,rp,ze,zg,I9,IE,IK,IP,IR,Js,qW,ve,IC,Ku,KD,IG,I4,IA,IL,I7,kW,lm,qe,r7,vn,xb,xn,zb,IW,Jb,Jh,Jp,Jv,JF,JU,Kz,Lc,Ly,LW,Mk,MJ,Ns,NX,Ow]
 try rfl
theorem Qt:Me=Pn (R8):=by
 funext;unfold Me Pn;try simp only[J4,Option.bind_some,c6,fe,gb,gI,rp,ze,zg,I9,IE,IK,IP,IR,Js,qW,ve,IC,Ku,KD,IG,I4,IA,IL,I7,kW,lm,qe,r7,vn,xb,xn,zb,IW,Jb,Jh,Jp,Jv,JF,JU,Kz,Lc,Ly,LW,Mk,MJ,Ns,NX,Ow,Px]
 try rfl
theorem UR:b7=Jf (R8):=by
 funext;unfold b7 Jf;try simp only[J4,Option.bind_some,c6,fe,gb,gI,rp,ze,zg,I9,IE,IK,IP,IR,Js,qW,ve,IC,Ku,KD,IG,I4,IA,IL,I7,kW,lm,qe,r7,vn,xb,xn,zb,IW,Jb,Jh,Jp,Jv,JF,JU,Kz,Lc,Ly,LW,Mk,MJ,Ns,NX,Ow,Px,Qt]
 try rfl
theorem VB:NY=Lt (R8):=by
 funext;unfold NY Lt;try simp only[J4,Option.bind_some,c6,fe,gb,gI,rp,ze,zg,I9,IE,IK,IP,IR,Js,qW,ve,IC,Ku,KD,IG,I4,IA,IL,I7,kW,lm,qe,r7,vn,xb,xn,zb,IW,Jb,Jh,Jp,Jv,JF,JU,Kz,Lc,Ly,LW,Mk,MJ,Ns,NX,Ow,Px,Qt,UR]
 try rfl
theorem XG:MF=Qy (R8):=by
 funext;unfold MF Qy;try simp only[J4,Option.bind_some,c6,fe,gb,gI,rp,ze,zg,I9,IE,IK,IP,IR,Js,qW,ve,IC,Ku,KD,IG,I4,IA,IL,I7,kW,lm,qe,r7,vn,xb,xn,zb,IW,Jb,Jh,Jp,Jv,JF,JU,Kz,Lc,Ly,LW,Mk,MJ,Ns,NX,Ow,Px,Qt,UR,VB]
 try rfl
theorem Yf:MV=Ro (R8):=by
 funext;unfold MV Ro;try simp only[J4,Option.bind_some,c6,fe,gb,gI,rp,ze,zg,I9,IE,IK,IP,IR,Js,qW,ve,IC,Ku,KD,IG,I4,IA,IL,I7,kW,lm,qe,r7,vn,xb,xn,zb,IW,Jb,Jh,Jp,Jv,JF,JU,Kz,Lc,Ly,LW,Mk,MJ,Ns,NX,Ow,Px,Qt,UR,VB,XG]
 try rfl
theorem Ye:∀n,K9 n=PG (R8) n
 |0=>rfl
 |n+1=>by unfold K9 PG;rw[Ye n,Yf]
theorem aaY:Nt=Vm (R8):=by
 funext;unfold Nt Vm;try simp only[J4,Option.bind_some,c6,fe,gb,gI,rp,ze,zg,I9,IE,IK,IP,IR,Js,qW,ve,IC,Ku,KD,IG,I4,IA,IL,I7,kW,lm,qe,r7,vn,xb,xn,zb,IW,Jb,Jh,Jp,Jv,JF,JU,Kz,Lc,Ly,LW,Mk,MJ,Ns,NX,Ow,Px,Qt,UR,VB,XG,Yf,Ye]
 try rfl
end Go.Fn
set_option linter.unusedSimpArgs false
set_option linter.unusedVariables false
namespace Go.Fn
open Go.R Go.Sort
theorem acA:SWO R8:=⟨fun x=>decide_eq_false (by omega),fun x y z h1 h2=>decide_eq_true (by have:=of_decide_eq_true h1;have:=of_decide_eq_true h2;omega),fun x y z h1 h2=>decide_eq_false (by have:=of_decide_eq_false h1;have:=of_decide_eq_false h2;omega)⟩
theorem abR(l:List Int)(hl:l.length<=255):∃r:List Int,Oe l=some (r,())/\r.Perm l/\∀i j,i<j->j<r.length->r.getD i 0<=r.getD j 0:=by
 obtain⟨L,hL⟩:=abF hl;obtain⟨r,h1,h2,h3⟩:=aaA acA l L hl;refine⟨r,?_,h2,fun i j hij hj=>?_⟩
 ·unfold Oe;rw[aaY,show aq .u64 (ai l)=(l.length:Int)from abr (by omega),hL,show ai l=(l.length:Int)from rfl];simp only[Option.bind_some,h1]
 ·have:=of_decide_eq_false (h3 i j hij hj);have e1:r.getD i default=r.getD i 0:=rfl;have e2:r.getD j default=r.getD j 0:=rfl;rw[e1,e2]at this;omega
theorem ZH(l:List Int)(x:Int):x∈Lib.compact l↔x∈l:=by
 have key:∀j,j<l.length->l.toArray[j]! ∈ Lib.compact l:=by
  intro j;induction j with
  |zero=>intro hj;unfold Lib.compact Lib.compactUpTo;exact List.mem_map.2 ⟨0,List.mem_filter.2 ⟨List.mem_range.2 hj,by simp[Lib.keeps]⟩,rfl⟩
  |succ j ih=>
   intro hj;by_cases h:l.toArray[j+1]! = l.toArray[j]!
   ·rw[h];exact ih (by omega)
   ·unfold Lib.compact Lib.compactUpTo;exact List.mem_map.2 ⟨j+1,List.mem_filter.2 ⟨List.mem_range.2 hj,Lib.keeps_pos h⟩,rfl⟩
 constructor
 ·intro h;unfold Lib.compact Lib.compactUpTo at h;obtain⟨j,hj,rfl⟩:=List.mem_map.1 h;have hj:=List.mem_range.1 (List.mem_filter.1 hj).1;show l.toArray[j]! ∈ l;rw[getElem!_pos _ j (by simpa using hj),List.getElem_toArray];exact List.getElem_mem _
 ·intro h;obtain⟨j,hj,rfl⟩:=List.getElem_of_mem h;have:=key j hj;rwa[getElem!_pos _ j (by simpa using hj),List.getElem_toArray]at this
theorem Z6(l:List Int)(hs:∀i j,i<j->j<l.length->l.getD i 0<=l.getD j 0):(Lib.compact l).Pairwise (fun x y=>x<y):=by
 have ga:∀i,i<l.length->l.toArray[i]! = l.getD i 0:=fun i hi=>by rw[getElem!_pos _ i (by simpa using hi),List.getElem_toArray,List.getD_eq_getElem?_getD,List.getElem?_eq_getElem hi];rfl
 unfold Lib.compact Lib.compactUpTo;rw[List.pairwise_map];refine List.Pairwise.imp_of_mem (fun {i j} hi hj h=>?_) (List.pairwise_lt_range.filter _);have hj1:=List.mem_range.1 (List.mem_filter.1 hj).1;have hj2:=(List.mem_filter.1 hj).2;have hk:l.toArray[j]! ≠ l.toArray[j-1]!:=by unfold Lib.keeps at hj2;have:=of_decide_eq_true hj2;exact this.resolve_left (by omega)
 show l.toArray[i]! < l.toArray[j]!;rw[ga j hj1,ga (j-1) (by omega)]at hk;rw[ga i (by omega),ga j hj1];have h1:=hs (j-1) j (by omega) hj1;by_cases e:i=j-1
 ·subst e;omega
 ·have h2:=hs i (j-1) (by omega) (by omega);omega
noncomputable def Yy(l:List Ev)(b:Int)(r:List Int):Prop:=(∀x,x∈r↔(1<=x/\x<b/\∃e,e∈l/\e.2.2.2.2.1=x))/\r.Pairwise (fun x y=>x<y)
theorem aa1{l:List Ev}{b:Int}{r s:List Int}(h1:Yy l b r)(h2:Yy l b s):r=s:=YJ (lt:=fun x y:Int=>x<y) (fun x h=>by omega) (fun x y h=>by omega) h1.2 h2.2 fun x=>by rw[h1.1,h2.1]
theorem abT(l:List Ev)(p:Int)(out:List Int)(hl:l.length<=60)(ho:out.length<=1000):∃o,R0 (l,p,()) (out,(0:Int),())=some (.inl (o,()))/\(((∃e,e∈l/\e.2.2.2.2.1=p)/\o=out++[p])\/((¬∃e,e∈l/\e.2.2.2.2.1=p)/\o=out)):=by
 have l8:aE (out++[p])=true:=KP (by simp;omega);have hap:List.append (α:=Int) out (List.append (α:=Int) ([]:List Int) [p])=out++[p]:=rfl;obtain⟨y,hy,hc⟩:=eL (body:=Qe (l,p,())) (fun n=>(out,(n:Int),())) l.length (by omega) (fun n=>!decide ((l.getD n bg).2.2.2.2.1=p)) (Sum.inl (out,())) (fun n=>Sum.inl (out++[p],())) (fun n hn=>by
   have he:af .eql (l.getD n bg).2.2.2.2.1 p=decide ((l.getD n bg).2.2.2.2.1=p):=by simp[af,Bool.beq_eq_decide_eq]
   unfold Qe;simp only[aj,hn,decide_true,cond_true,ax,ak,he,hap,l8,au (n:=n) (by omega)];cases decide ((l.getD n bg).2.2.2.2.1=p) <;> rfl) (by
   unfold Qe;simp only[aj,Nat.lt_irrefl,decide_false,cond_false])
 unfold R0;rw[show(0:Int)=((0:Nat):Int)from rfl,hy];rcases hc with ⟨hall,rfl⟩|⟨_,n,hn,rfl,hk⟩
 ·refine⟨out,rfl,.inr ⟨?_,rfl⟩⟩;rintro⟨e,he,hp⟩;obtain⟨m,hm,rfl⟩:=List.getElem_of_mem he;have:=(aO _ _).1 hall m (Nat.zero_le _) (by omega);rw[List.getD_eq_getElem?_getD,List.getElem?_eq_getElem hm,Bool.not_eq_true']at this;exact of_decide_eq_false this hp
 ·refine⟨out++[p],rfl,.inl ⟨⟨_,Qj hn bg,?_⟩,rfl⟩⟩;rw[Bool.not_eq_false']at hk;exact of_decide_eq_true hk
theorem aan(l:List Ev)(hj:W4 l=true):∀(s p:Nat) (out:List Int) (n:Nat),1000-p<=s->1<=p->p<=1000->out.length<=p->Yy l (p:Int) out->s<n ->
  ∃r,iter (Nu (l,())) n (out,(p:Int),())=some (.inl (r,()))/\Yy l 1000 r/\r.length<=1000:=by
 intro s;induction s with
 |zero=>
  intro p out n hs h1 hp hl hi hn;obtain⟨n,rfl⟩:∃m,n=m+1:=⟨n-1,by omega⟩
  have:p=1000:=by omega
  subst this;refine⟨out,av ?_,hi,hl⟩;unfold Nu;simp only[show af .leq ((1000:Nat):Int) (999:Int)=false from rfl,cond_false]
 |succ s ih=>
  intro p out n hs h1 hp hl hi hn;obtain⟨n,rfl⟩:∃m,n=m+1:=⟨n-1,by omega⟩
  by_cases h:p<=999
  ·obtain⟨o,o1,o2⟩:=abT l (p:Int) out (WH hj) (by omega);have hle:af .leq (p:Int) (999:Int)=true:=(leS p 999).trans (decide_eq_true h);have hpi:Yy l ((p+1:Nat):Int) o/\o.length<=p+1:=by
    rcases o2 with ⟨he,rfl⟩|⟨he,rfl⟩
    ·refine⟨⟨fun x=>?_,?_⟩,by rw[List.length_append];simp;omega⟩
     ·rw[List.mem_append,List.mem_singleton,hi.1];constructor
      ·rintro(⟨q1,q2,q3⟩|rfl)
       ·exact⟨q1,by omega,q3⟩
       ·exact⟨by omega,by omega,he⟩
      ·rintro⟨q1,q2,q3⟩;by_cases e:x=(p:Int)
       ·exact .inr e
       ·exact .inl ⟨q1,by omega,q3⟩
     ·rw[List.pairwise_append];refine⟨hi.2,List.pairwise_singleton _ _,fun x hx y hy=>?_⟩;rw[List.mem_singleton]at hy;have:=((hi.1 x).1 hx).2.1;omega
    ·refine⟨⟨fun x=>?_,hi.2⟩,by omega⟩;rw[hi.1];constructor
     ·rintro⟨q1,q2,q3⟩;exact⟨q1,by omega,q3⟩
     ·rintro⟨q1,q2,q3⟩;by_cases e:x=(p:Int)
      ·subst e;exact absurd q3 he
      ·exact⟨q1,by omega,q3⟩
   obtain⟨r,r1,r2⟩:=ih (p+1) o n (by omega) (by omega) (by omega) hpi.2 hpi.1 (by omega);refine⟨r,?_,r2⟩;rw[<-r1];refine aF ?_;unfold Nu;simp only[hle,cond_true,XI,hj,Option.bind_some,o1,Sum.elim_inl,au (n:=p) (by omega)]
  ·have:p=1000:=by omega
   subst this;refine⟨out,av ?_,hi,hl⟩;unfold Nu;simp only[show af .leq ((1000:Nat):Int) (999:Int)=false from rfl,cond_false]
theorem Zo(l:List Ev):∃r,Uh l=some (r,())/\Pr l=some (r,())/\r.length<=1000/\(W4 l=true->Yy l 1000 r)/\(W4 l=false->r=[]):=by
 cases hj:W4 l with
 |false=>
  refine⟨[],?_,?_,Nat.zero_le _,(fun h=>by cases h),fun _=>rfl⟩
  ·have it:iter (Nu (l,())) 1 ([],(1:Int),())=some (.inl ([],())):=by
    refine av ?_;unfold Nu;simp only[XI,hj,Option.bind_some,cond_false];rfl
   unfold Uh RZ;rw[bh it (Nat.le_of_lt (aN (by omega)))];rfl
  ·unfold Pr;rw[Vn,hj];rfl
 |true=>
  have h60:=WH hj;obtain⟨r,r1,r2,r3⟩:=aan l hj 1000 1 [] big (by omega) (by omega) (by omega) (Nat.zero_le _) ⟨fun x=>⟨fun h=>absurd h List.not_mem_nil,fun h=>by omega⟩,List.Pairwise.nil⟩ (aN (by omega));have Ti:RG (l,ai l,()) ([],(0:Int),())=some (.inl (l.foldl (fun out e=>out++[e.2.2.2.2.1]) [],())):=by
   refine(bI (body:=P6 (l,ai l,())) l bg (by omega) (fun out e=>out++[e.2.2.2.2.1]) (fun out n=>(out,(n:Int),())) (fun n out=>out.length<=n) (fun out=>Sum.inl (out,())) (fun n out hn ho=>⟨?_,by simp;omega⟩) (fun out ho=>?_) [] (Nat.le_refl _)).1
   ·have l8:aE (out++[(l.getD n bg).2.2.2.2.1])=true:=KP (by simp;omega);have hap:List.append (α:=Int) out (List.append (α:=Int) ([]:List Int) [(l.getD n bg).2.2.2.2.1])=out++[(l.getD n bg).2.2.2.2.1]:=rfl;unfold P6;simp only[aj,hn,decide_true,cond_true,ax,ak,hap,l8,au (n:=n) (by omega)]
   ·unfold P6;simp only[aj,Nat.lt_irrefl,decide_false,cond_false]
  have oe:∀(m:List Ev) (out:List Int),m.foldl (fun out e=>out++[e.2.2.2.2.1]) out=out++m.map (fun e=>e.2.2.2.2.1):=by
   intro m;induction m with
   |nil=>intro out;simp
   |cons e m ih=>intro out;rw[List.foldl_cons,ih];simp
  rw[oe,List.nil_append]at Ti;obtain⟨z,z1,z2,z3⟩:=abR (l.map fun e=>e.2.2.2.2.1) (by rw[List.length_map];omega);have hzl:z.length<=60:=by rw[z2.length_eq,List.length_map];exact h60
  have hzs:aE z=true:=KP (by omega);have uR:Yy l 1000 (Lib.compact z):=by
   refine⟨fun x=>?_,Z6 z z3⟩;rw[ZH,z2.mem_iff,List.mem_map];constructor
   ·rintro⟨e,he,rfl⟩;have:=(abu.1 (acp hj e he)).2.2.2.2.1;exact⟨by omega,by omega,e,he,rfl⟩
   ·rintro⟨_,_,e,he,h⟩;exact⟨e,he,h⟩
  have heq:Lib.compact z=r:=aa1 uR r2;refine⟨r,?_,?_,r3,fun _=>r2,fun h=>by cases h⟩
  ·unfold Uh RZ;rw[show(1:Int)=((1:Nat):Int)from rfl,r1];rfl
  ·unfold Pr;simp only[Vn,hj,Option.bind_some,Bool.not_true,cond_false,Ti,Sum.elim_inl,z1];unfold QU;rw[hzs,heq];rfl
end Go.Fn
set_option linter.unusedVariables false
namespace Go.Fn
open Go.R
noncomputable def Sj(a:LZ×YbR)(b:Rn):Ys:=cond (af .lss b.1 (ai a.1)) (cond (ah a.1 b.1) (cond (ah a.2.1 b.1) (cond (af .neq (ae zI a.1 b.1) (ae zI a.2.1 b.1)) (some (.inr (.inl (false,())))) (some (.inl (aa .add .i64 b.1 1,())))) none) none) (some (.inr (.inr (.inl ()))))
noncomputable def Sk k x:=iter (Sj k) big x
noncomputable def SF(a b:LZ):QV:=cond (af .neq (ai a) (ai b)) (some (false,())) ((Sk (a,b,()) (0,())).bind fun c=>Sum.elim (fun d=>some (d.1,())) (fun d=>Sum.elim (fun _=>some (true,())) (fun e=>Empty.elim e) d) c)
end Go.Fn
set_option linter.unusedVariables false
namespace Go.Fn
open Go.R
noncomputable def N4(a:LZ):Zz:=cond (af .gtr (ai a) 0) (cond (aE (List.append (α:=Int) ([]:LZ) a)) (some (List.append (α:=Int) ([]:LZ) a,())) none) (both (some (([]:LZ),())) (cond (aE (List.append (α:=Int) ([]:LZ) a)) (some (List.append (α:=Int) ([]:LZ) a,())) none))
end Go.Fn
set_option linter.unusedVariables false
set_option linter.unusedSimpArgs false
namespace Go.Fn
open Go.R
theorem abp(l:List Int)(h:l.length<=1073741824):N4 l=some (l,()):=by
 unfold N4;have hs:aE (List.append (α:=Int) [] l)=true:=KP h;cases l with
 |nil=>simp only[hs,cond_true];rw[show af .gtr (ai ([]:List Int)) 0=false from rfl];exact iK _
 |cons x l=>rw[show af .gtr (ai (x::l)) 0=true from by simp[af,ai]];simp only[hs,cond_true];rfl
section
variable (a0 a1:Int) (g:List (List Int)) (s:List Stp)
abbrev SB:Type:=Bool×Int×List Int×Unit
end
end Go.Fn
set_option linter.unusedVariables false
set_option linter.unusedSimpArgs false
namespace Go.Fn
open Go.R
theorem aak(l:List Int)(hl:l.length<=1073741824):SF l l=some (true,()):=by
 unfold SF;rw[Py];have Ti:Sk (l,l,()) ((0:Int),())=some (Sum.inr (Sum.inl ())):=by
  refine aU (fun n=>((n:Int),())) l.length (by omega) _ (fun n hn=>?_) ?_
  ·unfold Sj;simp only[aj,ax,hn,decide_true,cond_true,Py,au (n:=n) (by omega)];rfl
  ·unfold Sj;simp only[aj,Nat.lt_irrefl,decide_false,cond_false]
 simp only[cond_false];rw[Ti];rfl
end Go.Fn
set_option linter.unusedVariables false
namespace Go.Fn
open Go.R
noncomputable def NZ(a:Int):QV:=(I1 a 1 40).bind fun b=>some (b.1,())
noncomputable def Tw(a:Int):QV:=(I1 a 0 20000).bind fun b=>some (b.1,())
noncomputable def RU(a b c d e f:Int)(g:Bool):QV:=(NZ a).bind fun h=>letI i:=some (false,());cond h.1 ((NZ b).bind fun j=>cond j.1 (cond (af .neq a b) ((I1 c 0 999).bind fun k=>cond k.1 ((I1 d 0 5).bind fun l=>cond l.1 ((Tw e).bind fun m=>cond m.1 ((Tw f).bind fun n=>cond n.1 (some (af .lss e f,())) i) i) i) i) i) i) i
noncomputable def Su(a:Uq×Unit)(b:Rn):Ys:=letI c:=ae SS a.1 b.1;letI d:=c.2.2.2;cond (af .lss b.1 (ai a.1)) (cond (ah a.1 b.1) ((RU c.1 c.2.1 c.2.2.1 d.1 d.2.1 d.2.2.1 d.2.2.2).bind fun e=>cond (Bool.not e.1) (some (.inr (.inl (false,())))) (some (.inl (aa .add .i64 b.1 1,())))) none) (some (.inr (.inr (.inl ()))))
noncomputable def Sv k x:=iter (Su k) big x
noncomputable def SH(a:Uq):QV:=cond (af .gtr (ai a) 30) (some (false,())) ((Sv (a,()) (0,())).bind fun b=>Sum.elim (fun c=>some (c.1,())) (fun c=>Sum.elim (fun _=>some (true,())) (fun d=>Empty.elim d) c) b)
noncomputable def Sx(a:YcR)(b:YdB):Option (YdB⊕Z1⊕Int×Int×Int×Z1⊕Empty):=letI c:=b.2.2;letI d:=c.2.2.1;letI e:=(b.1,b.2.1,c.1,c.2.1,aa .add .i64 d 1,());cond (af .lss d a.2.2.2.2.1) (cond (af .gtr c.1 0) (cond (ah a.2.2.1 d) (cond (af .eql (ae LY a.2.2.1 d).2.2.1 c.1) (some (.inr (.inl (false,())))) (some (.inl e))) none) (some (.inl e))) (some (.inr (.inr (.inl (b.1,b.2.1,c.1,c.2.1,())))))
noncomputable def QN k x:=iter (Sx k) big x
noncomputable def Sw(a:YbC)(b:TR):YbD:=letI c:=(false,());letI d:=b.2.1;letI e:=a.2.2.1;letI f:=ae LY e d;cond (af .lss d (ai e)) (cond (ah e d) (cond (af .neq f.1 b.1) (some (.inr (.inl c))) ((I1 f.2.1 1 24).bind fun g=>cond (Bool.not g.1) (some (.inr (.inl c))) ((I1 f.2.2.1 0 999).bind fun h=>cond (Bool.not h.1) (some (.inr (.inl c))) ((QN (a.1,a.2.1,e,b.1,d,()) (f.1,f.2.1,f.2.2.1,f.2.2.2,0,())).bind fun i=>Sum.elim (fun j=>some (.inr (.inl (j.1,())))) (fun j=>Sum.elim (fun k=>letI l:=aa .add .i64 b.1 k.2.1;cond (af .gtr l 24) (some (.inr (.inl c))) (some (.inl (l,aa .add .i64 d 1,())))) (fun k=>Empty.elim k) j) i)))) none) (some (.inr (.inr (.inl (b.1,())))))
noncomputable def Sy k x:=iter (Sw k) big x
noncomputable def SI(a:Int)(b:LZ)(c:Rx):QV:=(Sy (a,b,c,()) (0,0,())).bind fun d=>Sum.elim (fun e=>some (e.1,())) (fun e=>Sum.elim (fun f=>cond (af .gtr (ai c) 0) (some (af .eql f.1 a,())) (some (false,()))) (fun f=>Empty.elim f) e) d
noncomputable def QL(a:Int×LZ×YcZ)(b:Bool×Rn):Option (Bool×Rn⊕Z1⊕Empty):=letI c:=a.2.2;letI d:=aa .add .i64 b.2.1 1;cond (af .lss b.2.1 (ai c.1)) (cond b.1 (some (.inl (true,d,()))) (cond (ah c.1 b.2.1) (cond (ah a.2.1 c.2.1) (some (.inl (af .eql (ae LY c.1 b.2.1).1 (ae zI a.2.1 c.2.1),d,()))) none) none)) (some (.inr (.inl (b.1,()))))
noncomputable def Ss k x:=iter (QL k) big x
noncomputable def Sq(a:YbC)(b:Rn):Ys:=letI c:=b.1;letI d:=a.2.1;cond (af .lss c (ai d)) (cond (ah d c) ((I1 (ae zI d c) 1 (aa .sub .i64 a.1 1)).bind fun e=>letI f:=(false,());letI g:=aa .sub .i64 c 1;letI h:=(aa .add .i64 c 1,());letI i:=Ss (a.1,d,a.2.2.1,c,()) (false,0,());cond (Bool.not e.1) (some (.inr (.inl f))) (cond (af .gtr c 0) (cond (ah d c) (cond (ah d g) (cond (af .leq (ae zI d c) (ae zI d g)) (some (.inr (.inl f))) (i.bind fun j=>Sum.elim (fun k=>cond (Bool.not k.1) (some (.inr (.inl f))) (some (.inl h))) (fun k=>Empty.elim k) j)) none) none) (i.bind fun j=>Sum.elim (fun k=>cond (Bool.not k.1) (some (.inr (.inl f))) (some (.inl h))) (fun k=>Empty.elim k) j))) none) (some (.inr (.inr (.inl ()))))
noncomputable def Sr k x:=iter (Sq k) big x
noncomputable def NT(a:Int)(b:LZ)(c:Rx):QV:=(I1 a 1 24).bind fun d=>letI e:=some (false,());cond (Bool.not d.1) e ((SI a b c).bind fun f=>cond (Bool.not f.1) e ((Sr (a,b,c,()) (0,())).bind fun g=>Sum.elim (fun h=>some (h.1,())) (fun h=>Sum.elim (fun _=>some (true,())) (fun i=>Empty.elim i) h) g))
noncomputable def Oy(a:Int×YbC)(b:Rn):YbQ:=letI c:=a.2.2.2.1;letI d:=(aa .add .i64 b.1 1,());cond (af .lss b.1 (ai c)) (cond (ah c b.1) (cond (af .eql (ae LY c b.1).2.2.1 a.1) (cond (af .gtr a.1 0) (some (.inr (.inl (b.1,())))) (some (.inl d))) (some (.inl d))) none) (some (.inr (.inr (.inl ()))))
noncomputable def R5 k x:=iter (Oy k) big x
noncomputable def OW(a:Int)(b:LZ)(c:Rx)(d:Int):YR:=(R5 (d,a,b,c,()) (0,())).bind fun e=>Sum.elim (fun f=>some (f.1,())) (fun f=>Sum.elim (fun _=>some (-1,())) (fun g=>Empty.elim g) f) e
noncomputable def Ud(a:Tl×TR)(b:Rn):Ys:=letI c:=ae Ji a.1 a.2.2.1;letI d:=(ae Ji a.1 a.2.1).2.2;cond (ah a.1 a.2.1) (cond (af .lss b.1 (ai d)) (cond (ah a.1 a.2.2.1) (cond (ah a.1 a.2.1) (cond (ah d b.1) ((OW c.1 c.2.1 c.2.2 (ae LY d b.1).2.2.1).bind fun e=>cond (af .geq e.1 0) (some (.inr (.inl (false,())))) (some (.inl (aa .add .i64 b.1 1,())))) none) none) none) (some (.inr (.inr (.inl ()))))) none
noncomputable def Ug k x:=iter (Ud k) big x
noncomputable def Uc(a:YcG)(b:Rn):Ys:=cond (af .lss b.1 a.2.1) ((Ug (a.1,a.2.1,b.1,()) (0,())).bind fun c=>Sum.elim (fun d=>some (.inr (.inl (d.1,())))) (fun d=>Sum.elim (fun _=>some (.inl (aa .add .i64 b.1 1,()))) (fun e=>Empty.elim e) d) c) (some (.inr (.inr (.inl ()))))
noncomputable def Uf k x:=iter (Uc k) big x
noncomputable def Ub(a:YbZ)(b:Rn):Ys:=letI c:=ae Ji a.1 b.1;cond (af .lss b.1 (ai a.1)) (cond (ah a.1 b.1) ((NT c.1 c.2.1 c.2.2).bind fun d=>cond (Bool.not d.1) (some (.inr (.inl (false,())))) ((Uf (a.1,b.1,()) (0,())).bind fun e=>Sum.elim (fun f=>some (.inr (.inl (f.1,())))) (fun f=>Sum.elim (fun _=>some (.inl (aa .add .i64 b.1 1,()))) (fun g=>Empty.elim g) f) e)) none) (some (.inr (.inr (.inl ()))))
noncomputable def Ue k x:=iter (Ub k) big x
noncomputable def SP(a:Tl):QV:=(I1 (ai a) 1 6).bind fun b=>cond (Bool.not b.1) (some (false,())) ((Ue (a,()) (0,())).bind fun c=>Sum.elim (fun d=>some (d.1,())) (fun d=>Sum.elim (fun _=>some (true,())) (fun e=>Empty.elim e) d) c)
noncomputable def WB(a b:Int)(c d e:Bool):QV:=some (bT e (af .eql a 2),())
noncomputable def Rq(a b:Int)(c d e:Bool):QV:=(I1 a 0 2).bind fun f=>letI g:=some (false,());cond (Bool.not f.1) g ((I1 b 0 6).bind fun h=>letI i:=some (Bool.not c,());letI j:=WB a b c d e;letI k:=cond c (some (Bool.not d,())) g;letI l:=cond (af .eql a 0) (cond (af .eql b 0) i g) (cond (af .eql b 1) (j.bind fun l=>cond l.1 i g) (cond (af .eql b 2) (j.bind fun l=>cond l.1 k g) (cond (af .eql b 3) (j.bind fun l=>cond l.1 (some (d,())) g) (cond (af .eql b 4) (j.bind fun l=>cond (Bool.not l.1) (some (d,())) g) (cond (af .eql b 5) k (cond (af .eql b 6) i (some (true,()))))))));cond (Bool.not h.1) g (cond d (cond (Bool.not c) g l) l))
noncomputable def R7(a b c d e f g h i j k:Int)(l:TA)(m:U4)(n:Uq)(o:Oo)(p:Int):QV:=letI q:=ae b8 l p;cond (ah l p) ((SR q.1 q.2.1).bind fun r=>letI s:=some (false,());cond (Bool.not r.1) s ((SP q.2.2.1).bind fun t=>letI u:=q.2.2.2;letI v:=u.2.2.2;cond (Bool.not t.1) s ((Rq u.1 u.2.1 u.2.2.1 v.1 v.2.1).bind fun w=>letI x:=v.2.2;cond (Bool.not w.1) s ((Ox x.2.2).bind fun y=>letI z:=af .eql x.2.1 0;cond (Bool.not y.1) s (cond (af .eql x.1 0) (lets (Bool.and (af .eql u.1 0) (Bool.and (af .eql u.2.1 0) (Bool.and (bT u.2.2.1 false) (Bool.and (bT v.1 false) (Bool.and (bT v.2.1 false) true))))) fun A=>cond A (some (z,())) s) ((I1 x.1 1 (ai m)).bind fun A=>letI B:=aa .sub .i64 x.1 1;letI C:=(ae zW m B).2.2;letI D:=cond (af .eql u.1 2) ((I1 x.2.1 0 40).bind fun D=>some (D.1,())) s;cond (Bool.not A.1) s (cond (ah m B) (cond (af .neq C.1 p) s (cond (ah m B) (cond (af .neq C.2.1 2) s (cond (af .eql u.1 1) (cond z (some (true,())) D) D)) none)) none))))))) none
noncomputable def PF(a b c d e f g h i j k:Int)(l:TA)(m:U4)(n:Uq)(o:Oo)(p:Int):QV:=letI q:=some (true,());letI r:=(ae zW m p).2.2;cond (ah m p) (cond (af .eql r.2.1 0) q (cond (af .eql r.2.1 1) q (cond (af .eql r.2.1 2) (cond (ah l r.1) (some (af .eql (ae b8 l r.1).2.2.2.1 1,())) none) (some (false,()))))) none
noncomputable def UW(a b c d e:Int):QV:=(Oz a).bind fun f=>letI g:=some (false,());cond f.1 ((I1 b 0 1000001).bind fun h=>cond h.1 ((I1 c 0 2).bind fun i=>cond i.1 ((I1 d 0 6).bind fun j=>cond j.1 ((I1 e 0 20064).bind fun k=>some (k.1,())) g) g) g) g
noncomputable def QS(a b c d e f g h i j k:Int)(l:TA)(m:U4)(n:Uq)(o:Oo)(p:Int):QV:=letI q:=ae zW m p;cond (ah m p) ((I1 q.1 1 24).bind fun r=>letI s:=some (false,());cond (Bool.not r.1) s ((NZ q.2.1).bind fun t=>letI u:=(0:Int);cond (Bool.not t.1) s ((I1 q.2.2.1 u (aa .sub .i64 (ai l) 1)).bind fun v=>letI w:=q.2.2.2;cond (Bool.not v.1) s ((I1 w.1 u 5).bind fun x=>letI y:=aa .add .i64 p 1;letI z:=(PF a b c d e f g h i j k l m n o p).bind fun z=>letI A:=w.2.2.2;letI B:=A.2.2;letI C:=B.2.2.2;letI D:=af .eql C.1 u;letI E:=af .eql C.2 u;cond z.1 (cond (af .eql w.2.1 u) (cond (af .eql w.2.2.1 u) (cond D (cond E (lets (Bool.and (af .eql A.1 u) (Bool.and (af .eql A.2.1 u) (Bool.and (af .eql B.1 u) (Bool.and (af .eql B.2.1 u) (Bool.and (af .eql B.2.2.1 u) true))))) fun F=>some (F,())) s) s) s) s) ((I1 w.2.1 u k).bind fun F=>cond (Bool.not F.1) s ((I1 w.2.2.1 u h).bind fun G=>cond (Bool.not G.1) s ((UW A.1 A.2.1 B.1 B.2.1 B.2.2.1).bind fun H=>cond (Bool.not H.1) s ((Q2 a b c d e f g h i j k l m n o y).bind fun I=>cond (af .neq A.1 I.1) s (cond (af .eql w.1 4) ((NZ C.1).bind fun J=>cond J.1 ((I1 C.2 u (aa .add .i64 e (aa .mul .i64 g h))).bind fun K=>some (K.1,())) s) (cond D (some (E,())) s))))));cond (Bool.not x.1) s (cond (af .eql w.1 2) (cond (ah l q.2.2.1) (cond (af .neq (ae b8 l q.2.2.1).2.2.2.2.2.2.2.2.1 y) s z) none) z))))) none
noncomputable def Ri(a:Int×Int×Int×Int×Int×Int×Int×Int×Int×Int×Int×TA×U4×Uq×Oo×Int×Int×Rx×Unit)(b:TR):YbD:=letI c:=(false,());letI d:=aa .add .i64 b.2.1 1;letI e:=a.2.2.2.2.2.2.2.2.2.2.2.2;letI f:=e.2.2.2.2.2.1;letI g:=ah f b.2.1;letI h:=(ae LY f b.2.1).2;letI i:=aa .sub .i64 h.2.1 1;letI j:=ae zW e.1 i;letI k:=j.2.2.2.2.2.2.2.2.2;cond (af .lss b.2.1 (ai f)) (cond g (cond (af .eql h.2.1 0) (some (.inl (b.1,d,()))) (cond (af .gtr h.2.1 (ai e.1)) (some (.inr (.inl c))) (cond (ah e.1 i) (lets k.1 fun _=>lets k.2.1 fun _=>lets k.2.2.1 fun _=>lets k.2.2.2 fun _=>lets (af .neq j.2.2.1 e.2.2.2.1) fun l=>cond l (some (.inr (.inl c))) (cond g (lets (af .neq j.1 h.1) fun m=>letI n:=j.2.2.2.1;cond m (some (.inr (.inl c))) (lets (af .neq n 2) fun o=>letI p:=(aa .add .i64 b.1 1,d,());letI q:=af .eql n 2;cond o (lets (af .neq n 3) fun r=>cond r (some (.inr (.inl c))) (lets q fun s=>cond s (cond g (cond h.2.2 (some (.inr (.inl c))) (some (.inl p))) none) (some (.inl p)))) (lets q fun r=>cond r (cond g (cond h.2.2 (some (.inr (.inl c))) (some (.inl p))) none) (some (.inl p))))) none)) none))) none) (some (.inr (.inr (.inl (b.1,())))))
noncomputable def Rl k x:=iter (Ri k) big x
noncomputable def Rh(a:YaM)(b:TR):YbD:=letI c:=b.2.1;letI d:=a.2.2.2;letI e:=d.2.2.2;letI f:=e.2.2.2.2.2;letI g:=f.2.2.2.2.1;letI h:=(ae b8 f.1 g).2.2.1;cond (ah f.1 g) (cond (af .lss c (ai h)) (cond (ah f.1 g) (cond (ah h c) ((Rl (a.1,a.2.1,a.2.2.1,d.1,d.2.1,d.2.2.1,e.1,e.2.1,e.2.2.1,e.2.2.2.1,e.2.2.2.2.1,f.1,f.2.1,f.2.2.1,f.2.2.2.1,g,c,(ae Ji h c).2.2,()) (b.1,0,())).bind fun i=>Sum.elim (fun j=>some (.inr (.inl (j.1,())))) (fun j=>Sum.elim (fun k=>some (.inl (k.1,aa .add .i64 c 1,()))) (fun k=>Empty.elim k) j) i) none) none) (some (.inr (.inr (.inl (b.1,())))))) none
noncomputable def Rk k x:=iter (Rh k) big x
noncomputable def Rg(a:YaP)(b:TR):YbD:=letI c:=a.2.2.2.2;letI d:=c.2.2.2.2;letI e:=d.2.2.2;cond (af .lss b.2.1 (ai e.1)) ((Rk (a.1,a.2.1,a.2.2.1,a.2.2.2.1,c.1,c.2.1,c.2.2.1,c.2.2.2.1,d.1,d.2.1,d.2.2.1,e.1,e.2.1,e.2.2.1,e.2.2.2.1,b.2.1,()) (b.1,0,())).bind fun f=>Sum.elim (fun g=>some (.inr (.inl (g.1,())))) (fun g=>Sum.elim (fun h=>some (.inl (h.1,aa .add .i64 b.2.1 1,()))) (fun h=>Empty.elim h) g) f) (some (.inr (.inr (.inl (b.1,())))))
noncomputable def Un k x:=iter (Rg k) big x
noncomputable def Rj(a:YaP)(b:TR):YbE:=letI c:=b.2.1;letI d:=aa .add .i64 c 1;letI e:=a.2.2.2.2.2.2.2.2.2.2.2.2.1;letI f:=(aa .sub .i64 b.1 1,d,());letI g:=(ae zW e c).2.2.2.1;cond (af .lss c (ai e)) (cond (ah e c) (cond (af .eql g 2) (some (.inl f)) (cond (ah e c) (cond (af .eql g 3) (some (.inl f)) (some (.inl (b.1,d,())))) none)) none) (some (.inr (.inl (b.1,()))))
noncomputable def Uo k x:=iter (Rj k) big x
noncomputable def Rc(a b c d e f g h i j k:Int)(l:TA)(m:U4)(n:Uq)(o:Oo):QV:=letI p:=(a,b,c,d,e,f,g,h,i,j,k,l,m,n,o,());(Un p (0,0,())).bind fun q=>Sum.elim (fun r=>some (r.1,())) (fun r=>Sum.elim (fun s=>(Uo p (s.1,0,())).bind fun t=>Sum.elim (fun u=>some (af .eql u.1 0,())) (fun u=>Empty.elim u) t) (fun s=>Empty.elim s) r) q
noncomputable def S7(a:YaP)(b:TR):YbE:=letI c:=b.2.1;letI d:=a.2.2.2.2.2;letI e:=aa .add .i64 c 1;letI f:=d.2.2.2.2.2;letI g:=f.2.2.1;cond (af .lss c (ai g)) (cond (ah g c) (cond (af .neq (ae zW g c).2.2.2.1 0) ((PF a.1 a.2.1 a.2.2.1 a.2.2.2.1 a.2.2.2.2.1 d.1 d.2.1 d.2.2.1 d.2.2.2.1 d.2.2.2.2.1 f.1 f.2.1 g f.2.2.2.1 f.2.2.2.2.1 c).bind fun h=>cond h.1 (cond (ah g c) (some (.inl (aa .add .i64 b.1 (ae zW g c).1,e,()))) none) (some (.inl (b.1,e,())))) (some (.inl (b.1,e,())))) none) (some (.inr (.inl (b.1,()))))
noncomputable def V2 k x:=iter (S7 k) big x
noncomputable def Tx(a b c d e f g h i j k:Int)(l:TA)(m:U4)(n:Uq)(o:Oo):YR:=(V2 (a,b,c,d,e,f,g,h,i,j,k,l,m,n,o,()) (0,0,())).bind fun p=>Sum.elim (fun q=>some (q.1,())) (fun q=>Empty.elim q) p
noncomputable def RX(a:YaP)(b:Rn):Ys:=letI c:=a.2.2.2.2;letI d:=c.2.2.2.2;letI e:=d.2.2.2;cond (af .lss b.1 (ai e.1)) ((R7 a.1 a.2.1 a.2.2.1 a.2.2.2.1 c.1 c.2.1 c.2.2.1 c.2.2.2.1 d.1 d.2.1 d.2.2.1 e.1 e.2.1 e.2.2.1 e.2.2.2.1 b.1).bind fun f=>cond (Bool.not f.1) (some (.inr (.inl (false,())))) (some (.inl (aa .add .i64 b.1 1,())))) (some (.inr (.inr (.inl ()))))
noncomputable def UX k x:=iter (RX k) big x
noncomputable def RY(a:YaP)(b:Rn):Ys:=letI c:=a.2.2.2.2;letI d:=c.2.2.2.2;letI e:=d.2.2.2.2;cond (af .lss b.1 (ai e.1)) ((QS a.1 a.2.1 a.2.2.1 a.2.2.2.1 c.1 c.2.1 c.2.2.1 c.2.2.2.1 d.1 d.2.1 d.2.2.1 d.2.2.2.1 e.1 e.2.1 e.2.2.1 b.1).bind fun f=>cond (Bool.not f.1) (some (.inr (.inl (false,())))) (some (.inl (aa .add .i64 b.1 1,())))) (some (.inr (.inr (.inl ()))))
noncomputable def UY k x:=iter (RY k) big x
noncomputable def PE(a b c d e f g h i j k:Int)(l:TA)(m:U4)(n:Uq)(o:Oo):QV:=(Ts a b c d e f g h).bind fun p=>letI q:=some (false,());cond (Bool.not p.1) q ((I1 i 0 1000).bind fun r=>cond (Bool.not r.1) q ((Oz j).bind fun s=>cond (Bool.not s.1) q ((I1 k 0 20000).bind fun t=>cond (Bool.not t.1) q ((I1 (ai l) 1 3).bind fun u=>cond (Bool.not u.1) q (cond (af .gtr (ai m) 12) q ((SH n).bind fun v=>cond (Bool.not v.1) q ((Ox o).bind fun w=>letI x:=(a,b,c,d,e,f,g,h,i,j,k,l,m,n,o,());cond (Bool.not w.1) q ((UX x (0,())).bind fun y=>Sum.elim (fun z=>some (z.1,())) (fun z=>Sum.elim (fun _=>(UY x (0,())).bind fun A=>Sum.elim (fun B=>some (B.1,())) (fun B=>Sum.elim (fun _=>(Rc a b c d e f g h i j k l m n o).bind fun C=>cond C.1 ((Tx a b c d e f g h i j k l m n o).bind fun D=>some (af .leq D.1 i,())) q) (fun C=>Empty.elim C) B) A) (fun A=>Empty.elim A) z) y))))))))
noncomputable def Nj(a:Int):QV:=(IY a 1 40).bind fun b=>some (b.1,())
noncomputable def QA(a b c d e f:Int)(g:Bool):QV:=(Nj a).bind fun h=>letI i:=some (false,());cond h.1 ((Nj b).bind fun j=>cond j.1 (cond (af .neq a b) ((IY c 0 999).bind fun k=>cond k.1 ((IY d 0 5).bind fun l=>cond l.1 ((M6 e).bind fun m=>cond m.1 ((M6 f).bind fun n=>cond n.1 (some (af .lss e f,())) i) i) i) i) i) i) i
noncomputable def SV(a b c d e f:Int)(g:Bool):QV:=(QA a b c d e f g).bind fun h=>some (Bool.not h.1,())
noncomputable def JL(a:Uq×Rn)(b:Rn):YbQ:=letI c:=ae SS a.1 b.1;letI d:=c.2.2.2;cond (af .lss b.1 a.2.1) (cond (ah a.1 b.1) ((SV c.1 c.2.1 c.2.2.1 d.1 d.2.1 d.2.2.1 d.2.2.2).bind fun e=>cond e.1 (some (.inr (.inl (b.1,())))) (some (.inl (aa .add .i64 b.1 1,())))) none) (some (.inr (.inr (.inl ()))))
noncomputable def Kn k x:=iter (JL k) big x
noncomputable def KA(a:Uq):YR:=(Kn (a,ai a,()) (0,())).bind fun b=>Sum.elim (fun c=>some (c.1,())) (fun c=>Sum.elim (fun _=>some (-1,())) (fun d=>Empty.elim d) c) b
noncomputable def Km(a:Uq):QV:=(KA a).bind fun b=>some (af .geq b.1 0,())
noncomputable def Sz(a:Uq):QV:=cond (af .leq (ai a) 30) ((Km a).bind fun b=>some (Bool.not b.1,())) (some (false,()))
noncomputable def Sb(a:Int×LZ×Rx×V8)(b:Rn):Ys:=letI c:=ae zI a.2.2.2.1 b.1;cond (af .lss b.1 a.2.2.2.2.1) (cond (ah a.2.2.2.1 b.1) ((IY c 1 (aa .sub .i64 a.1 1)).bind fun d=>letI e:=aa .sub .i64 b.1 1;letI f:=(aa .add .i64 b.1 1,());cond (Bool.not d.1) (some (.inr (.inl (false,())))) (cond (af .gtr b.1 0) (cond (ah a.2.1 e) (cond (af .leq c (ae zI a.2.1 e)) (some (.inr (.inl (false,())))) (some (.inl f))) none) (some (.inl f)))) none) (some (.inr (.inr (.inl ()))))
noncomputable def Sd k x:=iter (Sb k) big x
noncomputable def Qz(a:Int×LZ×Rx×YcZ)(b:Int×YbB×YcO):Option (Int×YbB×YcO⊕Z1⊕Int×YbB×Unit⊕Empty):=letI c:=(false,());letI d:=b.2.2.2.1;letI e:=ae LY a.2.2.2.1 d;cond (af .lss d a.2.2.2.2.1) (cond (ah a.2.2.2.1 d) (cond (af .neq e.1 b.1) (some (.inr (.inl c))) ((IY e.2.1 1 (aa .sub .i64 a.1 b.1)).bind fun f=>letI g:=e.2.2.1;cond (Bool.not f.1) (some (.inr (.inl c))) ((IY g 0 999).bind fun h=>letI i:=(aa .add .i64 b.1 e.2.1,eW b.2.1 e.1 true,eW b.2.2.1 g true,aa .add .i64 d 1,());cond (Bool.not h.1) (some (.inr (.inl c))) (cond (af .gtr g 0) (cond (cw b.2.2.1 g) (some (.inr (.inl c))) (some (.inl i))) (some (.inl i)))))) none) (some (.inr (.inr (.inl (b.1,b.2.1,())))))
noncomputable def Se k x:=iter (Qz k) big x
noncomputable def Sc(a:Int×LZ×Rx×Int×V8)(b:YcO):Option (YcO⊕YcJ):=letI c:=a.2.2.2.2;cond (af .lss b.2.1 c.2.1) (cond (ah c.1 b.2.1) (cond (Bool.not (cw b.1 (ae zI c.1 b.2.1))) (some (.inr (.inl (false,())))) (some (.inl (b.1,aa .add .i64 b.2.1 1,())))) none) (some (.inr (.inr (.inl ()))))
noncomputable def Sf k x:=iter (Sc k) big x
noncomputable def QY(a:Int)(b:LZ)(c:Rx):QV:=(IY a 1 24).bind fun d=>letI e:=some (false,());cond (Bool.not d.1) e (cond (af .eql (ai c) 0) e ((Sd (a,b,c,b,ai b,()) (0,())).bind fun f=>Sum.elim (fun g=>some (g.1,())) (fun g=>Sum.elim (fun _=>(Se (a,b,c,c,ai c,()) (0,([]:YbB),([]:YbB),0,())).bind fun h=>Sum.elim (fun i=>some (i.1,())) (fun i=>Sum.elim (fun j=>(Sf (a,b,c,j.1,b,ai b,()) (j.2.1,0,())).bind fun k=>Sum.elim (fun l=>some (l.1,())) (fun l=>Sum.elim (fun _=>some (af .eql j.1 a,())) (fun m=>Empty.elim m) l) k) (fun j=>Empty.elim j) i) h) (fun h=>Empty.elim h) g) f))
noncomputable def RB(a:Tl×Int×Int×YcZ)(b:YcO):Option (YcO⊕Z1⊕YbB×Unit⊕Empty):=letI c:=(ae LY a.2.2.2.1 b.2.1).2.2.1;letI d:=(eW b.1 c true,aa .add .i64 b.2.1 1,());cond (af .lss b.2.1 a.2.2.2.2.1) (cond (ah a.2.2.2.1 b.2.1) (cond (af .gtr c 0) (cond (cw b.1 c) (some (.inr (.inl (false,())))) (some (.inl d))) (some (.inl d))) none) (some (.inr (.inr (.inl (b.1,())))))
noncomputable def TX k x:=iter (RB k) big x
noncomputable def TU(a:YcG)(b:YcO):Option (YcO⊕YcJ):=letI c:=b.2.1;letI d:=ae Ji a.1 c;cond (af .lss c a.2.1) (cond (ah a.1 c) ((QY d.1 d.2.1 d.2.2).bind fun e=>cond (Bool.not e.1) (some (.inr (.inl (false,())))) ((TX (a.1,a.2.1,c,d.2.2,ai d.2.2,()) (b.1,0,())).bind fun f=>Sum.elim (fun g=>some (.inr (.inl (g.1,())))) (fun g=>Sum.elim (fun h=>some (.inl (h.1,aa .add .i64 c 1,()))) (fun h=>Empty.elim h) g) f)) none) (some (.inr (.inr (.inl ()))))
noncomputable def TW k x:=iter (TU k) big x
noncomputable def Rp(a:Tl):QV:=(IY (ai a) 1 6).bind fun b=>cond (Bool.not b.1) (some (false,())) ((TW (a,ai a,()) (([]:YbB),0,())).bind fun c=>Sum.elim (fun d=>some (d.1,())) (fun d=>Sum.elim (fun _=>some (true,())) (fun e=>Empty.elim e) d) c)
noncomputable def Yc(a b:Int)(c d e:Bool):QV:=some (bT e (af .eql a 1),())
noncomputable def Ql(a b:Int)(c d e:Bool):QV:=(IY a 0 2).bind fun f=>letI g:=some (false,());cond (Bool.not f.1) g ((IY b 0 6).bind fun h=>letI i:=some (Bool.not c,());letI j:=Yc a b c d e;letI k:=cond c (some (Bool.not d,())) g;letI l:=cond (af .eql a 0) (cond (af .eql b 0) i g) (cond (af .eql b 1) (j.bind fun l=>cond (Bool.not l.1) i g) (cond (af .eql b 2) (j.bind fun l=>cond (Bool.not l.1) k g) (cond (af .eql b 3) (j.bind fun l=>cond (Bool.not l.1) (some (d,())) g) (cond (af .eql b 4) (j.bind fun l=>cond l.1 (some (d,())) g) (cond (af .eql b 5) k (cond (af .eql b 6) i (some (true,()))))))));cond (Bool.not h.1) g (cond d (cond (Bool.not c) g l) l))
noncomputable def UQ(a b c d e f g h i j k:Int)(l:TA)(m:U4)(n:Uq)(o:Oo)(p:Int):QV:=letI q:=ae b8 l p;cond (ah l p) ((Qo q.1 q.2.1).bind fun r=>letI s:=some (false,());cond (Bool.not r.1) s ((Rp q.2.2.1).bind fun t=>letI u:=q.2.2.2;letI v:=u.2.2.2;cond (Bool.not t.1) s ((Ql u.1 u.2.1 u.2.2.1 v.1 v.2.1).bind fun w=>letI x:=v.2.2;cond (Bool.not w.1) s ((Mj x.2.2).bind fun y=>letI z:=af .eql u.1 0;letI A:=af .eql x.2.1 0;cond (Bool.not y.1) s (cond (af .eql x.1 0) (lets (Bool.and z (Bool.and (af .eql u.2.1 0) (Bool.and (bT u.2.2.1 false) (Bool.and (bT v.1 false) (Bool.and (bT v.2.1 false) true))))) fun B=>cond B (some (A,())) s) ((IY x.1 1 (ai m)).bind fun B=>letI C:=aa .sub .i64 x.1 1;letI D:=(ae zW m C).2.2;cond (Bool.not B.1) s (cond (ah m C) (cond (af .neq D.1 p) s (cond (af .neq D.2.1 2) s (cond z s (cond A (some (true,())) (cond (af .eql u.1 2) ((Nj x.2.1).bind fun E=>some (E.1,())) s))))) none))))))) none
noncomputable def OK(a b c d e f g h i j k:Int)(l:TA)(m:U4)(n:Uq)(o:Oo)(p q r s t u v w x y z A B:Int):QV:=letI C:=some (true,());cond (af .eql s 0) C (cond (af .eql s 1) C (cond (af .eql s 2) (cond (ah l r) (some (af .eql (ae b8 l r).2.2.2.1 1,())) none) (some (false,()))))
noncomputable def UK(a b c d e:Int):QV:=(NR a).bind fun f=>letI g:=some (false,());cond f.1 ((IY b 0 1000001).bind fun h=>cond h.1 ((IY c 0 2).bind fun i=>cond i.1 ((IY d 0 6).bind fun j=>cond j.1 ((IY e 0 20064).bind fun k=>some (k.1,())) g) g) g) g
noncomputable def SE(a b c d e f g h i j k:Int)(l:TA)(m:U4)(n:Uq)(o:Oo)(p:Int):QV:=letI q:=ae zW m p;cond (ah m p) ((IY q.1 1 24).bind fun r=>letI s:=some (false,());cond (Bool.not r.1) s ((Nj q.2.1).bind fun t=>letI u:=(0:Int);letI v:=q.2.2.1;cond (Bool.not t.1) s ((IY v u (aa .sub .i64 (ai l) 1)).bind fun w=>letI x:=q.2.2.2;cond (Bool.not w.1) s ((IY x.1 u 5).bind fun y=>letI z:=aa .add .i64 p 1;letI A:=x.2.2.2;letI B:=A.2.2;letI C:=B.2.2.2;letI D:=(OK a b c d e f g h i j k l m n o q.1 q.2.1 v x.1 x.2.1 x.2.2.1 A.1 A.2.1 B.1 B.2.1 B.2.2.1 C.1 C.2).bind fun D=>letI E:=af .eql C.1 u;letI F:=af .eql C.2 u;cond D.1 (cond (af .eql x.2.1 u) (cond (af .eql x.2.2.1 u) (cond E (cond F (lets (Bool.and (af .eql A.1 u) (Bool.and (af .eql A.2.1 u) (Bool.and (af .eql B.1 u) (Bool.and (af .eql B.2.1 u) (Bool.and (af .eql B.2.2.1 u) true))))) fun G=>some (G,())) s) s) s) s) ((IY x.2.1 u k).bind fun G=>cond (Bool.not G.1) s ((IY x.2.2.1 u h).bind fun H=>cond (Bool.not H.1) s ((UK A.1 A.2.1 B.1 B.2.1 B.2.2.1).bind fun I=>cond (Bool.not I.1) s ((QZ a b c d e f g h i j k l m n o z).bind fun J=>cond (af .neq A.1 J.1) s (cond (af .eql x.1 4) ((Nj C.1).bind fun K=>cond K.1 ((IY C.2 u (aa .add .i64 e (aa .mul .i64 g h))).bind fun L=>some (L.1,())) s) (cond E (some (F,())) s))))));cond (Bool.not y.1) s (cond (af .eql x.1 2) (cond (ah l v) (cond (af .neq (ae b8 l v).2.2.2.2.2.2.2.2.1 z) s D) none) D))))) none
noncomputable def S0(a:Int×Int×Int×Int×Int×Int×Int×Int×Int×Int×Int×TA×U4×Uq×Oo×Int×TA×Int×Int×Tl×Int×Int×YcZ)(b:TR):YbD:=letI c:=aa .add .i64 b.2.1 1;letI d:=a.2.2.2.2.2.2.2.2.2.2.2.2;letI e:=d.2.2.2.2.2.2.2.2.2.2;letI f:=(ae LY e.1 b.2.1).2;cond (af .lss b.2.1 e.2.1) (cond (ah e.1 b.2.1) (cond (af .eql f.2.1 0) (some (.inl (b.1,c,()))) ((IY f.2.1 1 (ai d.1)).bind fun g=>letI h:=(false,());letI i:=aa .sub .i64 f.2.1 1;letI j:=ae zW d.1 i;letI k:=j.2.2.2;cond (Bool.not g.1) (some (.inr (.inl h))) (cond (ah d.1 i) (lets k.2.1 fun _=>lets k.2.2.1 fun _=>letI l:=k.2.2.2;lets l.1 fun _=>lets l.2.1 fun _=>lets l.2.2.1 fun _=>letI m:=l.2.2.2;lets m.1 fun _=>lets m.2.1 fun _=>lets m.2.2.1 fun _=>lets m.2.2.2 fun _=>lets (af .neq k.1 2) fun n=>letI o:=(aa .add .i64 b.1 1,c,());letI p:=af .eql k.1 2;letI q:=af .neq j.2.2.1 d.2.2.2.1;letI r:=af .neq j.1 f.1;cond n (lets (af .neq k.1 3) fun s=>cond s (some (.inr (.inl h))) (lets q fun t=>cond t (some (.inr (.inl h))) (lets r fun u=>cond u (some (.inr (.inl h))) (lets p fun v=>cond v (cond f.2.2 (some (.inr (.inl h))) (some (.inl o))) (some (.inl o)))))) (lets q fun s=>cond s (some (.inr (.inl h))) (lets r fun t=>cond t (some (.inr (.inl h))) (lets p fun u=>cond u (cond f.2.2 (some (.inr (.inl h))) (some (.inl o))) (some (.inl o)))))) none))) none) (some (.inr (.inr (.inl (b.1,())))))
noncomputable def S4 k x:=iter (S0 k) big x
noncomputable def SZ(a:Int×Int×Int×Int×Int×Int×Int×Int×Int×Int×Int×TA×U4×Uq×Oo×Int×TA×YdC)(b:TR):YbD:=letI c:=b.2.1;letI d:=a.2.2.2;letI e:=d.2.2.2;letI f:=e.2.2.2;letI g:=f.2.2.2;letI h:=g.2.2.2;letI i:=h.2.2.2;letI j:=(ae Ji i.2.1 c).2.2;cond (af .lss c i.2.2.1) (cond (ah i.2.1 c) ((S4 (a.1,a.2.1,a.2.2.1,d.1,d.2.1,d.2.2.1,e.1,e.2.1,e.2.2.1,f.1,f.2.1,f.2.2.1,g.1,g.2.1,g.2.2.1,h.1,h.2.1,h.2.2.1,i.1,i.2.1,i.2.2.1,c,j,ai j,()) (b.1,0,())).bind fun k=>Sum.elim (fun l=>some (.inr (.inl (l.1,())))) (fun l=>Sum.elim (fun m=>some (.inl (m.1,aa .add .i64 c 1,()))) (fun m=>Empty.elim m) l) k) none) (some (.inr (.inr (.inl (b.1,())))))
noncomputable def S3 k x:=iter (SZ k) big x
noncomputable def SY(a:Int×Int×Int×Int×Int×Int×Int×Int×Int×Int×Int×TA×U4×Uq×Oo×TA×Rn)(b:TR):YbD:=letI c:=b.2.1;letI d:=a.2.2.2.2.2;letI e:=d.2.2.2.2.2;letI f:=e.2.2.2.2.2;letI g:=(ae b8 f.1 c).2.2.1;cond (af .lss c f.2.1) (cond (ah f.1 c) ((S3 (a.1,a.2.1,a.2.2.1,a.2.2.2.1,a.2.2.2.2.1,d.1,d.2.1,d.2.2.1,d.2.2.2.1,d.2.2.2.2.1,e.1,e.2.1,e.2.2.1,e.2.2.2.1,e.2.2.2.2.1,c,f.1,f.2.1,c,g,ai g,()) (b.1,0,())).bind fun h=>Sum.elim (fun i=>some (.inr (.inl (i.1,())))) (fun i=>Sum.elim (fun j=>some (.inl (j.1,aa .add .i64 c 1,()))) (fun j=>Empty.elim j) i) h) none) (some (.inr (.inr (.inl (b.1,())))))
noncomputable def VV k x:=iter (SY k) big x
noncomputable def S2(a:U4×Rn)(b:TR):YbE:=letI c:=aa .add .i64 b.2.1 1;letI d:=(ae zW a.1 b.2.1).2.2.2.1;letI e:=(aa .sub .i64 b.1 1,c,());cond (af .lss b.2.1 a.2.1) (cond (ah a.1 b.2.1) (cond (af .eql d 2) (some (.inl e)) (cond (af .eql d 3) (some (.inl e)) (some (.inl (b.1,c,()))))) none) (some (.inr (.inl (b.1,()))))
noncomputable def VW k x:=iter (S2 k) big x
noncomputable def Tn(a b c d e f g h i j k:Int)(l:TA)(m:U4)(n:Uq)(o:Oo):QV:=(VV (a,b,c,d,e,f,g,h,i,j,k,l,m,n,o,l,ai l,()) (0,0,())).bind fun p=>Sum.elim (fun q=>some (q.1,())) (fun q=>Sum.elim (fun r=>(VW (m,ai m,()) (r.1,0,())).bind fun s=>Sum.elim (fun t=>some (af .eql t.1 0,())) (fun t=>Empty.elim t) s) (fun r=>Empty.elim r) q) p
noncomputable def TZ(a:YbT)(b:TR):YbE:=letI c:=a.2.2.2.2.2;letI d:=aa .add .i64 b.2.1 1;letI e:=c.2.2.2.2;letI f:=e.2.2.2.2;letI g:=ae zW f.2.2.1 b.2.1;letI h:=g.2.2.2;letI i:=h.2.2.2;letI j:=i.2.2.2;cond (af .lss b.2.1 f.2.2.2.1) (cond (ah f.2.2.1 b.2.1) (cond (af .neq h.1 0) ((OK a.1 a.2.1 a.2.2.1 a.2.2.2.1 a.2.2.2.2.1 c.1 c.2.1 c.2.2.1 c.2.2.2.1 e.1 e.2.1 e.2.2.1 e.2.2.2.1 f.1 f.2.1 g.1 g.2.1 g.2.2.1 h.1 h.2.1 h.2.2.1 i.1 i.2.1 i.2.2.1 j.1 j.2.1 j.2.2.1 j.2.2.2).bind fun k=>cond k.1 (some (.inl (aa .add .i64 b.1 g.1,d,()))) (some (.inl (b.1,d,())))) (some (.inl (b.1,d,())))) none) (some (.inr (.inl (b.1,()))))
noncomputable def Wf k x:=iter (TZ k) big x
noncomputable def UO(a b c d e f g h i j k:Int)(l:TA)(m:U4)(n:Uq)(o:Oo):YR:=(Wf (a,b,c,d,e,f,g,h,i,j,k,l,m,n,o,m,ai m,()) (0,0,())).bind fun p=>Sum.elim (fun q=>some (q.1,())) (fun q=>Empty.elim q) p
noncomputable def RE(a:YaM)(b:Rn):Ys:=letI c:=a.2.2.2.2;letI d:=c.2.2.2.2;letI e:=d.2.2.2.2;cond (af .lss b.1 e.2.2.2.1) ((UQ a.1 a.2.1 a.2.2.1 a.2.2.2.1 c.1 c.2.1 c.2.2.1 c.2.2.2.1 d.1 d.2.1 d.2.2.1 d.2.2.2.1 e.1 e.2.1 e.2.2.1 b.1).bind fun f=>cond (Bool.not f.1) (some (.inr (.inl (false,())))) (some (.inl (aa .add .i64 b.1 1,())))) (some (.inr (.inr (.inl ()))))
noncomputable def UL k x:=iter (RE k) big x
noncomputable def RF(a:YaM)(b:Rn):Ys:=letI c:=a.2.2.2.2;letI d:=c.2.2.2.2;letI e:=d.2.2.2.2;cond (af .lss b.1 e.2.2.2.1) ((SE a.1 a.2.1 a.2.2.1 a.2.2.2.1 c.1 c.2.1 c.2.2.1 c.2.2.2.1 d.1 d.2.1 d.2.2.1 d.2.2.2.1 e.1 e.2.1 e.2.2.1 b.1).bind fun f=>cond (Bool.not f.1) (some (.inr (.inl (false,())))) (some (.inl (aa .add .i64 b.1 1,())))) (some (.inr (.inr (.inl ()))))
noncomputable def UM k x:=iter (RF k) big x
noncomputable def K1(a b c d e f g h i j k:Int)(l:TA)(m:U4)(n:Uq)(o:Oo):QV:=(RI a b c d e f g h).bind fun p=>letI q:=some (false,());cond (Bool.not p.1) q ((IY i 0 1000).bind fun r=>cond (Bool.not r.1) q ((NR j).bind fun s=>cond (Bool.not s.1) q ((M6 k).bind fun t=>cond (Bool.not t.1) q ((IY (ai l) 1 3).bind fun u=>cond (Bool.not u.1) q (cond (af .gtr (ai m) 12) q ((Sz n).bind fun v=>cond (Bool.not v.1) q ((Mj o).bind fun w=>cond (Bool.not w.1) q ((UL (a,b,c,d,e,f,g,h,i,j,k,l,m,n,o,ai l,()) (0,())).bind fun x=>Sum.elim (fun y=>some (y.1,())) (fun y=>Sum.elim (fun _=>(UM (a,b,c,d,e,f,g,h,i,j,k,l,m,n,o,ai m,()) (0,())).bind fun z=>Sum.elim (fun A=>some (A.1,())) (fun A=>Sum.elim (fun _=>(Tn a b c d e f g h i j k l m n o).bind fun B=>cond B.1 ((UO a b c d e f g h i j k l m n o).bind fun C=>some (af .leq C.1 i,())) q) (fun B=>Empty.elim B) A) z) (fun z=>Empty.elim z) y) x))))))))
end Go.Fn
set_option linter.unusedVariables false
set_option linter.unusedSimpArgs false
namespace Go.Fn
open Go.R
theorem abG(m:List (Int×Bool))(k k':Int)(v:Bool):cw (eW m k v) k'=bif k'==k then v else cw m k':=by
 induction m with
 |nil=>simp only[eW,cw]
 |cons y r ih=>
  unfold eW;cases hb:k==y.1 with
  |true=>
   have hk:k=y.1:=by simpa using hb
   subst hk;simp only[cond_true,cw];cases k'==y.1 <;> rfl
  |false=>
   simp only[cond_false,cw,ih];cases h1:k'==y.1 with
   |false=>rfl
   |true=>
    have:k'=y.1:=by simpa using h1
    subst this;have:(y.1==k)=false:=by rw[Bool.eq_false_iff]at hb⊢;intro e;exact hb (by simpa using (beq_iff_eq.1 e).symm)
    rw[this];rfl
noncomputable def KI(m:List (Int×Bool))(l:List Int):List (Int×Bool):=l.foldl (fun m k=>eW m k true) m
theorem SO(k:Int):∀(l:List Int) (m:List (Int×Bool)),cw (KI m l) k=true↔cw m k=true\/k∈l
 | [],m=>by simp[KI]
 |x::l,m=>by
  have:=SO k l (eW m x true);unfold KI at this⊢;rw[List.foldl_cons,this,abG];cases hb:k==x with
  |true=>simp[beq_iff_eq.1 hb]
  |false=>
   have:k≠x:=by rintro rfl;simp at hb
   simp[this]
theorem Wr(m:List (Int×Bool))(l:List Int)(x:Int):KI m (l++[x])=eW (KI m l) x true:=by unfold KI;rw[List.foldl_append];rfl
theorem P4{α:Type}{l:List α}{n:Nat}(h:n<l.length)(z:α):l.take (n+1)=l.take n++[l.getD n z]:=by rw[List.take_add_one,List.getElem?_eq_getElem h,List.getD_eq_getElem?_getD,List.getElem?_eq_getElem h];rfl
theorem XF{α:Type}{l:List α}{n:Nat}{x z:α}(hn:n<=l.length):x∈l.take n↔∃k,k<n/\l.getD k z=x:=by
 constructor
 ·intro h;obtain⟨k,hk,e⟩:=List.mem_iff_getElem.1 h;rw[List.length_take]at hk;rw[List.getElem_take]at e;exact⟨k,by omega,by rw[List.getD_eq_getElem?_getD,List.getElem?_eq_getElem (by omega)];exact e⟩
 ·rintro⟨k,hk,e⟩;rw[List.getD_eq_getElem?_getD,List.getElem?_eq_getElem (show k<l.length by omega)]at e;rw[<-e];have:(l.take n)[k]? = some l[k]:=by rw[List.getElem?_take_of_lt hk,List.getElem?_eq_getElem (by omega)]
  exact List.mem_of_getElem? this
noncomputable def LB(l:List Bx)(n:Nat):Bx:=l.getD n LY
noncomputable def Pz(l:List Bx)(n:Nat):Int:=(l.take n).foldl (fun a b=>aa .add .i64 a b.2.1) 0
theorem TB(l:List Bx){n:Nat}(h:n<l.length):Pz l (n+1)=aa .add .i64 (Pz l n) (LB l n).2.1:=by unfold Pz LB;rw[P4 h LY,List.foldl_append];rfl
noncomputable def X6(l:List Bx)(n k:Nat):Bool:=Bool.not (af .gtr (LB l n).2.2.1 0&&af .eql (LB l k).2.2.1 (LB l n).2.2.1)
noncomputable def okS(l:List Bx)(n:Nat):Bool:=Bool.not (af .neq (LB l n).1 (Pz l n))&&PL (LB l n).2.1 1 24&&PL (LB l n).2.2.1 0 999&&aB (X6 l n) 0 n&&Bool.not (af .gtr (Pz l (n+1)) 24)
theorem Zr(h:Int)(f:List Int)(l:List Bx)(hl:l.length<=1073741824):SI h f l=some (aB (okS l) 0 l.length&&(af .gtr (ai l) 0&&af .eql (Pz l l.length) h),()):=by
 unfold SI;have:Sy (h,f,l,()) (0,0,())=some (bif aB (okS l) 0 l.length then(Sum.inr (Sum.inl (Pz l l.length,())):Bool×Unit⊕(Int×Unit⊕Empty))else .inl (false,())):=by
  refine bq (fun n=>(Pz l n,(n:Int),())) l.length (by omega) (okS l) _ _ (fun n hn=>?_) ?_
  ·have hin:QN (h,f,l,Pz l n,(n:Int),()) ((LB l n).1,(LB l n).2.1,(LB l n).2.2.1,(LB l n).2.2.2,0,())=some (bif aB (X6 l n) 0 n then(Sum.inr (Sum.inl ((LB l n).1,(LB l n).2.1,(LB l n).2.2.1,(LB l n).2.2.2,())):Bool×Unit⊕(Int×Int×Int×Bool×Unit⊕Empty))else .inl (false,())):=by
    refine bq (fun k=>((LB l n).1,(LB l n).2.1,(LB l n).2.2.1,(LB l n).2.2.2,(k:Int),())) n (by omega) (X6 l n) _ _ (fun k hk=>?_) ?_
    ·unfold Sx X6;have cM:k<l.length:=by omega
     simp only[eM,hk,decide_true,cond_true,ax,cM,ak,au (n:=k) (by omega)];show(bif af .gtr (LB l n).2.2.1 0 then(bif af .eql (LB l k).2.2.1 (LB l n).2.2.1 then _ else _)else _)=_;cases af .gtr (LB l n).2.2.1 0 <;> cases af .eql (LB l k).2.2.1 (LB l n).2.2.1 <;> rfl
    ·unfold Sx;simp only[eM,Nat.lt_irrefl,decide_false,cond_false]
   unfold Sw okS;simp only[aj,hn,decide_true,cond_true,ax,ak,RL,Option.bind_some,au (n:=n) (by omega),TB l hn];show(bif af .neq (LB l n).1 (Pz l n)then _ else bif Bool.not (PL (LB l n).2.1 1 24)then _ else bif Bool.not (PL (LB l n).2.2.1 0 999)then _ else(QN (h,f,l,Pz l n,(n:Int),()) ((LB l n).1,(LB l n).2.1,(LB l n).2.2.1,(LB l n).2.2.2,0,())).bind _)=_;rw[hin];cases af .neq (LB l n).1 (Pz l n)with
   |true=>rfl
   |false=>
    cases PL (LB l n).2.1 1 24 with
    |false=>rfl
    |true=>
     cases PL (LB l n).2.2.1 0 999 with
     |false=>rfl
     |true=>
      cases aB (X6 l n) 0 n with
      |false=>rfl
      |true=>simp only[Bool.not_true,cond_false,cond_true,Option.bind_some,Sum.elim_inr,Sum.elim_inl,Bool.not_false,Bool.true_and];cases af .gtr (aa .add .i64 (Pz l n) (LB l n).2.1) 24 <;> rfl
  ·unfold Sw;simp only[aj,Nat.lt_irrefl,decide_false,cond_false]
 rw[this];cases aB (okS l) 0 l.length with
 |false=>rfl
 |true=>simp only[cond_true,Option.bind_some,Sum.elim_inr,Sum.elim_inl,Bool.true_and];cases af .gtr (ai l) 0 <;> rfl
noncomputable def Xk(l:List Bx):List Int:=l.map (·.1)
noncomputable def Sp(l:List Bx):List Int:=l.map (·.2.2.1)
noncomputable def okI(h:Int)(l:List Bx)(n:Nat):Bool:=Bool.not (af .neq (LB l n).1 (Pz l n))&&PL (LB l n).2.1 1 (aa .sub .i64 h (Pz l n))&&PL (LB l n).2.2.1 0 999&&Bool.not (af .gtr (LB l n).2.2.1 0&&cw (KI [] (Sp (l.take n))) (LB l n).2.2.1)
theorem Zj(h:Int)(f:List Int)(l:List Bx)(hl:l.length<=1073741824):Se (h,f,l,l,ai l,()) (0,[],[],0,())=some (bif aB (okI h l) 0 l.length then(Sum.inr (Sum.inl (Pz l l.length,KI [] (Xk l),())):Bool×Unit⊕(Int×(List (Int×Bool))×Unit⊕Empty))else .inl (false,())):=by
 have:=bq (body:=Qz (h,f,l,l,ai l,())) (fun n=>(Pz l n,KI [] (Xk (l.take n)),KI [] (Sp (l.take n)),(n:Int),())) l.length (by omega) (okI h l) (.inr (.inl (Pz l l.length,KI [] (Xk l),()))) (.inl (false,())) (fun n hn=>?_) ?_
 ·exact this
 ·unfold Qz okI;have e1:KI [] (Xk (l.take (n+1)))=eW (KI [] (Xk (l.take n))) (LB l n).1 true:=by unfold Xk LB;rw[P4 hn LY,List.map_append];exact Wr _ _ _
  have e2:KI [] (Sp (l.take (n+1)))=eW (KI [] (Sp (l.take n))) (LB l n).2.2.1 true:=by unfold Sp LB;rw[P4 hn LY,List.map_append];exact Wr _ _ _
  simp only[aj,hn,decide_true,cond_true,ax,ak,LN,Option.bind_some,au (n:=n) (by omega),TB l hn,e1,e2];show(bif af .neq (LB l n).1 (Pz l n)then _ else bif Bool.not (PL (LB l n).2.1 1 (aa .sub .i64 h (Pz l n)))then _ else bif Bool.not (PL (LB l n).2.2.1 0 999)then _ else bif af .gtr (LB l n).2.2.1 0 then(bif cw (KI [] (Sp (l.take n))) (LB l n).2.2.1 then _ else _)else _)=_;cases af .neq (LB l n).1 (Pz l n)with
  |true=>rfl
  |false=>
   cases PL (LB l n).2.1 1 (aa .sub .i64 h (Pz l n))with
   |false=>rfl
   |true=>
    cases PL (LB l n).2.2.1 0 999 with
    |false=>rfl
    |true=>
     cases af .gtr (LB l n).2.2.1 0 with
     |false=>rfl
     |true=>cases cw (KI [] (Sp (l.take n))) (LB l n).2.2.1 <;> rfl
 ·unfold Qz;simp only[aj,Nat.lt_irrefl,decide_false,cond_false,List.take_length]
theorem abI{a b:Int}:af .neq a b=false↔a=b:=by simp[af]
theorem abz{a b:Int}:af .gtr a b=false↔a<=b:=by simp[af]
theorem afb{a b:Int}:af .gtr a b=true↔b<a:=by simp[af]
theorem Xn{a b:Int}:af .eql a b=true↔a=b:=by simp[af]
theorem aaz{l:List Bx}{n:Nat}(hn:n<=l.length)(p:Int):cw (KI [] (Sp (l.take n))) p=true↔∃k,k<n/\(LB l k).2.2.1=p:=by
 rw[SO];simp only[cw,Bool.false_eq_true,false_or,Sp,List.mem_map];constructor
 ·rintro⟨b,hb,e⟩;obtain⟨k,hk,rfl⟩:=(XF (z:=LY) hn).1 hb;exact⟨k,hk,e⟩
 ·rintro⟨k,hk,e⟩;exact⟨LB l k,(XF (z:=LY) hn).2 ⟨k,hk,rfl⟩,e⟩
theorem Zg{l:List Bx}{n:Nat}(hn:n<=l.length):(Bool.not (af .gtr (LB l n).2.2.1 0&&cw (KI [] (Sp (l.take n))) (LB l n).2.2.1))=aB (X6 l n) 0 n:=by
 rw[Bool.eq_iff_iff,aO];simp only[X6,Bool.not_eq_true',Bool.and_eq_false_iff];cases h0:af .gtr (LB l n).2.2.1 0 with
 |false=>exact⟨fun _ _ _ _=>.inl rfl,fun _=>.inl rfl⟩
 |true=>
  constructor
  ·intro h m _ hm;refine .inr ?_;rcases h with h|h
   ·cases h
   ·cases he:af .eql (LB l m).2.2.1 (LB l n).2.2.1 with
    |false=>rfl
    |true=>have:=(aaz hn _).2 ⟨m,by omega,Xn.1 he⟩;rw[h]at this;cases this
  ·intro h;refine .inr ?_;cases hm:cw (KI [] (Sp (l.take n))) (LB l n).2.2.1 with
   |false=>rfl
   |true=>
    obtain⟨k,hk,e⟩:=(aaz hn _).1 hm;rcases h k (Nat.zero_le _) (by omega)with h|h
    ·cases h
    ·rw[Xn.2 e]at h;cases h
theorem aaL{h:Int}(h1:1<=h)(h2:h<=24)(l:List Bx)(hl:l.length<=1073741824):(aB (okS l) 0 l.length=true/\Pz l l.length=h)↔(aB (okI h l) 0 l.length=true/\Pz l l.length=h):=by
 have mono:∀(hs:∀n,n<l.length->0<=Pz l n/\Pz l n<=Pz l (n+1)) (m n:Nat),m<=n->n<=l.length->Pz l m<=Pz l n:=by
  intro hs m n hmn hn;induction n with
  |zero=>rw[show m=0 by omega];exact Int.le_refl _
  |succ n ih=>
   rcases Nat.lt_or_ge m (n+1)with h|h
   ·exact Int.le_trans (ih (by omega) (by omega)) (hs n (by omega)).2
   ·rw[show m=n+1 by omega];exact Int.le_refl _
 have p0:Pz l 0=0:=rfl;constructor
 ·rintro⟨ha,he⟩;rw[aO]at ha;simp only[okS,Bool.and_eq_true,Bool.not_eq_true',abI,abz,NS]at ha;have hp:∀n,n<=l.length->0<=Pz l n/\Pz l n<=24:=by
   intro n;induction n with
   |zero=>intro _;rw[p0];omega
   |succ n ih=>intro hn;obtain⟨⟨⟨⟨_,c2⟩,_⟩,_⟩,c5⟩:=ha n (Nat.zero_le _) (by omega);have:=ih (by omega);refine⟨?_,c5⟩;rw[TB l (by omega),bU (by omega) (by omega)];omega
  have hs:∀n,n<l.length->0<=Pz l n/\Pz l n<=Pz l (n+1):=fun n hn=>by obtain⟨⟨⟨⟨_,c2⟩,_⟩,_⟩,c5⟩:=ha n (Nat.zero_le _) (by omega);have:=hp n (by omega);refine⟨this.1,?_⟩;rw[TB l hn,bU (by omega) (by omega)];omega
  refine⟨?_,he⟩;rw[aO];intro n _ hn;obtain⟨⟨⟨⟨c1,c2⟩,c3⟩,c4⟩,c5⟩:=ha n (Nat.zero_le _) (by omega);unfold okI;rw[Zg (by omega),c4];have:=hp n (by omega);have hm:=mono hs (n+1) l.length (by omega) (Nat.le_refl _);rw[he,TB l (by omega),bU (by omega) (by omega)]at hm;rw[bM (by omega) (by omega)];simp only[Bool.and_eq_true,Bool.not_eq_true',abI,NS];exact⟨⟨⟨c1,by omega,by omega⟩,c3⟩,trivial⟩
 ·rintro⟨ha,he⟩;rw[aO]at ha;have hp:∀n,n<=l.length->0<=Pz l n/\Pz l n<=h:=by
   intro n;induction n with
   |zero=>intro _;rw[p0];omega
   |succ n ih=>intro hn;have hi:=ih (by omega);have:=ha n (Nat.zero_le _) (by omega);unfold okI at this;rw[bM (by omega) (by omega)]at this;simp only[Bool.and_eq_true,Bool.not_eq_true',abI,NS]at this;obtain⟨⟨⟨_,c2⟩,_⟩,_⟩:=this;rw[TB l (by omega),bU (by omega) (by omega)];omega
  refine⟨?_,he⟩;rw[aO];intro n _ hn;have hi:=hp n (by omega);have hj:=hp (n+1) (by omega);have:=ha n (Nat.zero_le _) hn;unfold okI at this;rw[Zg (by omega),bM (by omega) (by omega)]at this;simp only[Bool.and_eq_true,Bool.not_eq_true',abI,NS]at this;obtain⟨⟨⟨c1,c2⟩,c3⟩,c4⟩:=this;unfold okS;simp only[Bool.and_eq_true,Bool.not_eq_true',abI,abz,NS];exact⟨⟨⟨⟨c1,by omega,by omega⟩,c3⟩,c4⟩,by omega⟩
noncomputable def VT(h:Int)(f:List Int):Nat->Bool
 |0=>PL (f.getD 0 zI) 1 (aa .sub .i64 h 1)
 |n+1=>PL (f.getD (n+1) zI) 1 (aa .sub .i64 h 1)&&Bool.not (af .leq (f.getD (n+1) zI) (f.getD n zI))
noncomputable def foundAt(f:List Int)(l:List Bx)(n:Nat):Bool:=l.any fun b=>af .eql b.1 (f.getD n zI)
theorem Zs(h:Int)(f:List Int)(l:List Bx)(n:Nat)(hn:n<f.length)(hl:l.length<=1073741824):Ss (h,f,l,(n:Int),()) (false,0,())=some (.inl (foundAt f l n,())):=by
 have:=aU (body:=QL (h,f,l,(n:Int),())) (fun k=>((l.take k).any fun b=>af .eql b.1 (f.getD n zI),(k:Int),())) l.length (by omega) (.inl (foundAt f l n,())) (fun k hk=>?_) ?_
 ·exact this
 ·unfold QL;rw[P4 hk LY,List.any_append];simp only[aj,hk,hn,decide_true,cond_true,ax,ak,au (n:=k) (by omega)];cases (l.take k).any fun b=>af .eql b.1 (f.getD n zI)with
  |true=>rfl
  |false=>simp[List.any]
 ·unfold QL foundAt;simp only[aj,Nat.lt_irrefl,decide_false,cond_false,List.take_length]
theorem ada{n:Nat}(h:n<1099511627776):aa .sub .i64 ((n+1:Nat):Int) 1=(n:Int):=iD h
theorem gt1(n:Nat):af .gtr ((n+1:Nat):Int) 0=true:=by simp only[af,gt_iff_lt,decide_eq_true_eq];omega
noncomputable def Zf(h:Int)(f:List Int)(l:List Bx):Bool:=PL h 1 24&&((aB (okS l) 0 l.length&&(af .gtr (ai l) 0&&af .eql (Pz l l.length) h))&&aB (fun n=>VT h f n&&foundAt f l n) 0 f.length)
theorem Q1(h:Int)(f:List Int)(l:List Bx)(hf:f.length<=1073741824)(hl:l.length<=1073741824):NT h f l=some (Zf h f l,()):=by
 unfold NT Zf;rw[RL,Zr h f l hl];simp only[Option.bind_some];have:Sr (h,f,l,()) (0,())=some (bif aB (fun n=>VT h f n&&foundAt f l n) 0 f.length then(Sum.inr (Sum.inl ()):Bool×Unit⊕(Unit⊕Empty))else .inl (false,())):=by
  refine bq (fun n=>((n:Int),())) f.length (by omega) (fun n=>VT h f n&&foundAt f l n) _ _ (fun n hn=>?_) ?_
  ·unfold Sq;simp only[aj,hn,decide_true,cond_true,ax,ak,RL,Option.bind_some,au (n:=n) (by omega),Zs h f l n hn hl,Sum.elim_inl];cases n with
   |zero=>unfold VT;rw[show af .gtr ((0:Nat):Int) 0=false from rfl];cases PL (f.getD 0 zI) 1 (aa .sub .i64 h 1) <;> cases foundAt f l 0 <;> rfl
   |succ m=>
    have hm:m<f.length:=by omega
    unfold VT;rw[gt1,ada (by omega)];simp only[ax,ak,hm,decide_true,cond_true];cases PL (f.getD (m+1) zI) 1 (aa .sub .i64 h 1) <;> cases af .leq (f.getD (m+1) zI) (f.getD m zI) <;> cases foundAt f l (m+1) <;> rfl
  ·unfold Sq;simp only[aj,Nat.lt_irrefl,decide_false,cond_false]
 rw[this];cases PL h 1 24 with
 |false=>rfl
 |true=>
  simp only[Bool.not_true,cond_false,Bool.true_and];cases (aB (okS l) 0 l.length&&(af .gtr (ai l) 0&&af .eql (Pz l l.length) h))with
  |false=>rfl
  |true=>simp only[Bool.not_true,cond_false,Bool.true_and];cases aB (fun n=>VT h f n&&foundAt f l n) 0 f.length <;> rfl
noncomputable def ZG(h:Int)(f:List Int)(l:List Bx):Bool:=PL h 1 24&&(Bool.not (af .eql (ai l) 0)&&(aB (VT h f) 0 f.length&&(aB (okI h l) 0 l.length&&(aB (fun n=>cw (KI [] (Xk l)) (f.getD n zI)) 0 f.length&&af .eql (Pz l l.length) h))))
theorem YT(h:Int)(f:List Int)(l:List Bx)(hf:f.length<=1073741824)(hl:l.length<=1073741824):QY h f l=some (ZG h f l,()):=by
 unfold QY ZG;rw[LN];simp only[Option.bind_some];have h0:Sd (h,f,l,f,ai f,()) (0,())=some (bif aB (VT h f) 0 f.length then(Sum.inr (Sum.inl ()):Bool×Unit⊕(Unit⊕Empty))else .inl (false,())):=by
  refine bq (fun n=>((n:Int),())) f.length (by omega) (VT h f) _ _ (fun n hn=>?_) ?_
  ·unfold Sb;simp only[aj,hn,decide_true,cond_true,ax,ak,LN,Option.bind_some,au (n:=n) (by omega)];cases n with
   |zero=>unfold VT;rw[show af .gtr ((0:Nat):Int) 0=false from rfl];cases PL (f.getD 0 zI) 1 (aa .sub .i64 h 1) <;> rfl
   |succ m=>
    have hm:m<f.length:=by omega
    unfold VT;rw[gt1,ada (by omega)];simp only[ax,ak,hm,decide_true,cond_true];cases PL (f.getD (m+1) zI) 1 (aa .sub .i64 h 1) <;> cases af .leq (f.getD (m+1) zI) (f.getD m zI) <;> rfl
  ·unfold Sb;simp only[aj,Nat.lt_irrefl,decide_false,cond_false]
 have h4:Sf (h,f,l,Pz l l.length,f,ai f,()) (KI [] (Xk l),0,())=some (bif aB (fun n=>cw (KI [] (Xk l)) (f.getD n zI)) 0 f.length then(Sum.inr (Sum.inl ()):Bool×Unit⊕(Unit⊕Empty))else .inl (false,())):=by
  refine bq (fun n=>(KI [] (Xk l),(n:Int),())) f.length (by omega) _ _ _ (fun n hn=>?_) ?_
  ·unfold Sc;simp only[aj,hn,decide_true,cond_true,ax,ak,au (n:=n) (by omega)];cases cw (KI [] (Xk l)) (f.getD n zI) <;> rfl
  ·unfold Sc;simp only[aj,Nat.lt_irrefl,decide_false,cond_false]
 rw[h0,Zj h f l hl];cases PL h 1 24 with
 |false=>rfl
 |true=>
  simp only[Bool.not_true,cond_false,Bool.true_and];cases af .eql (ai l) 0 with
  |true=>rfl
  |false=>
   simp only[cond_false,Bool.not_false,Bool.true_and];cases aB (VT h f) 0 f.length with
   |false=>rfl
   |true=>
    simp only[cond_true,Option.bind_some,Sum.elim_inr,Sum.elim_inl,Bool.true_and];cases aB (okI h l) 0 l.length with
    |false=>rfl
    |true=>simp only[cond_true,Option.bind_some,Sum.elim_inr,Sum.elim_inl,Bool.true_and,h4];cases aB (fun n=>cw (KI [] (Xk l)) (f.getD n zI)) 0 f.length <;> rfl
theorem abw(f:List Int)(l:List Bx)(n:Nat):cw (KI [] (Xk l)) (f.getD n zI)=foundAt f l n:=by rw[Bool.eq_iff_iff,SO];simp only[cw,Bool.false_eq_true,false_or,Xk,foundAt,List.mem_map,List.any_eq_true,Xn]
theorem abq(h:Int)(f:List Int)(l:List Bx)(hl:l.length<=1073741824):Zf h f l=ZG h f l:=by
 unfold Zf ZG;cases h1:PL h 1 24 with
 |false=>rfl
 |true=>
  obtain⟨q1,q2⟩:=NS.1 h1;have hb:=aaL q1 q2 l hl;have hne:Bool.not (af .eql (ai l) 0)=af .gtr (ai l) 0:=by
   cases hq:af .gtr (ai l) 0 with
   |true=>
    have:af .eql (ai l) 0=false:=by rw[Bool.eq_false_iff,ne_eq,Xn];have:=afb.1 hq;omega
    rw[this];rfl
   |false=>
    have:af .eql (ai l) 0=true:=by rw[Xn];have:=abz.1 hq;unfold ai at this⊢;omega
    rw[this];rfl
  rw[hne];have hfn:(fun n=>cw (KI [] (Xk l)) (f.getD n zI))=foundAt f l:=funext fun n=>abw f l n;rw[hfn,Bool.eq_iff_iff];simp only[Bool.and_eq_true,Xn,aO,Bool.true_and];simp only[aO]at hb;constructor
  ·rintro⟨⟨c1,c2,c3⟩,c4⟩;obtain⟨d1,_⟩:=hb.1 ⟨c1,c3⟩;exact⟨c2,fun m x y=>(c4 m x y).1,d1,fun m x y=>(c4 m x y).2,c3⟩
  ·rintro⟨c2,c4,c1,c5,c3⟩;obtain⟨d1,_⟩:=hb.2 ⟨c1,c3⟩;exact⟨⟨d1,c2,c3⟩,fun m x y=>⟨c4 m x y,c5 m x y⟩⟩
noncomputable def Kj(L:List V6)(i:Nat):V6:=L.getD i Ji
noncomputable def aaR(l:List Bx)(p:Int):Bool:=l.any fun b=>af .eql b.2.2.1 p
theorem adn(h:Int)(f:List Int)(l:List Bx)(p:Int)(hl:l.length<=1073741824):∃r,OW h f l p=some (r,())/\af .geq r 0=(af .gtr p 0&&aaR l p):=by
 unfold OW;obtain⟨y,h1,h2⟩:=eL (body:=Oy (p,h,f,l,())) (fun n=>((n:Int),())) l.length (by omega) (fun n=>Bool.not (af .eql (l.getD n LY).2.2.1 p&&af .gtr p 0)) (Sum.inr (Sum.inl ())) (fun n=>Sum.inl ((n:Int),())) (fun n hn=>by
  unfold Oy;simp only[aj,ax,hn,decide_true,cond_true,ak,au (n:=n) (by omega)];cases af .eql (l.getD n LY).2.2.1 p <;> cases af .gtr p 0 <;> rfl) (by
  unfold Oy;simp only[aj,Nat.lt_irrefl,decide_false,cond_false])
 have h1':R5 (p,h,f,l,()) ((0:Int),())=some y:=h1;rw[h1'];rcases h2 with ⟨e1,rfl⟩|⟨e1,n,hn,rfl,e3⟩
 ·refine⟨-1,rfl,?_⟩;rw[aO]at e1;show false=_;symm;rw[Bool.and_eq_false_iff];cases hp:af .gtr p 0 with
  |false=>exact .inl rfl
  |true=>refine .inr ?_;rw[Bool.eq_false_iff];intro hh;obtain⟨b,hb,he⟩:=List.any_eq_true.1 hh;obtain⟨n,hn,rfl⟩:=List.mem_iff_getElem.1 hb;have:=e1 n (Nat.zero_le _) (by omega);rw[List.getD_eq_getElem?_getD,List.getElem?_eq_getElem hn,Option.getD_some,he,hp]at this;cases this
 ·refine⟨(n:Int),rfl,?_⟩;have h0:af .geq (n:Int) 0=true:=by simp[af]
  rw[h0];symm;have e3:(af .eql (l.getD n LY).2.2.1 p&&af .gtr p 0)=true:=by
   cases hq:(af .eql (l.getD n LY).2.2.1 p&&af .gtr p 0)with
   |true=>rfl
   |false=>rw[hq]at e3;first|cases e3|(simp at e3)
  rw[Bool.and_eq_true]at e3⊢;exact⟨e3.2,List.any_eq_true.2 ⟨_,Qj hn LY,e3.1⟩⟩
noncomputable def UH(L:List V6)(i k n:Nat):Bool:=Bool.not (af .gtr (LB (Kj L i).2.2 n).2.2.1 0&&aaR (Kj L k).2.2 (LB (Kj L i).2.2 n).2.2.1)
noncomputable def Vw(L:List V6)(i:Nat):Bool:=Zf (Kj L i).1 (Kj L i).2.1 (Kj L i).2.2&&aB (fun k=>aB (UH L i k) 0 (Kj L i).2.2.length) 0 i
noncomputable def UG(L:List V6):Bool:=PL (ai L) 1 6&&aB (Vw L) 0 L.length
noncomputable def V7(L:List V6):Prop:=L.length<=1073741824/\∀c,c∈L->c.2.1.length<=1073741824/\c.2.2.length<=1073741824
theorem V7.at{L:List V6}(h:V7 L){i:Nat}(hi:i<L.length):(Kj L i).2.1.length<=1073741824/\(Kj L i).2.2.length<=1073741824:=h.2 _ (Qj hi _)
theorem ZY(L:List V6)(hw:V7 L):SP L=some (UG L,()):=by
 have hL:=hw.1;unfold SP UG;rw[RL];simp only[Option.bind_some];have h4:∀i k,i<L.length->k<i->Ug (L,(i:Int),(k:Int),()) (0,())=some (bif aB (UH L i k) 0 (Kj L i).2.2.length then(Sum.inr (Sum.inl ()):Bool×Unit⊕(Unit⊕Empty))else .inl (false,())):=by
  intro i k hi hk;have hki:k<L.length:=by omega
  have hbi:=(hw.at hi).2;refine bq (fun n=>((n:Int),())) (Kj L i).2.2.length (by omega) _ _ _ (fun n hn=>?_) ?_
  ·unfold Ud;obtain⟨r,e1,e2⟩:=adn (Kj L k).1 (Kj L k).2.1 (Kj L k).2.2 (LB (Kj L i).2.2 n).2.2.1 (hw.at hki).2;have D6:OW (L.getD k Ji).1 (L.getD k Ji).2.1 (L.getD k Ji).2.2 ((L.getD i Ji).2.2.getD n LY).2.2.1=some (r,()):=e1;have hn':n<(L.getD i Ji).2.2.length:=hn;simp only[ax,hi,hki,decide_true,cond_true,ak,aj,hn',D6,Option.bind_some,e2,au (n:=n) (by omega)];unfold UH;cases (af .gtr (LB (Kj L i).2.2 n).2.2.1 0&&aaR (Kj L k).2.2 (LB (Kj L i).2.2 n).2.2.1) <;> rfl
  ·unfold Ud;have:¬((Kj L i).2.2.length<(L.getD i Ji).2.2.length):=Nat.lt_irrefl _;simp only[ax,hi,decide_true,cond_true,ak,aj,this,decide_false,cond_false]
 have h2:∀i,i<L.length->Uf (L,(i:Int),()) (0,())=some (bif aB (fun k=>aB (UH L i k) 0 (Kj L i).2.2.length) 0 i then(Sum.inr (Sum.inl ()):Bool×Unit⊕(Unit⊕Empty))else .inl (false,())):=by
  intro i hi;refine bq (fun n=>((n:Int),())) i (by omega) _ _ _ (fun k hk=>?_) ?_
  ·unfold Uc;simp only[eM,hk,decide_true,cond_true,h4 i k hi hk,Option.bind_some,au (n:=k) (by omega)];cases aB (UH L i k) 0 (Kj L i).2.2.length <;> rfl
  ·unfold Uc;simp only[eM,Nat.lt_irrefl,decide_false,cond_false]
 have h0:Ue (L,()) (0,())=some (bif aB (Vw L) 0 L.length then(Sum.inr (Sum.inl ()):Bool×Unit⊕(Unit⊕Empty))else .inl (false,())):=by
  refine bq (fun n=>((n:Int),())) L.length (by omega) _ _ _ (fun i hi=>?_) ?_
  ·unfold Ub Vw;have hc:NT (L.getD i Ji).1 (L.getD i Ji).2.1 (L.getD i Ji).2.2=some (Zf (Kj L i).1 (Kj L i).2.1 (Kj L i).2.2,()):=Q1 _ _ _ (hw.at hi).1 (hw.at hi).2;simp only[aj,ax,hi,decide_true,cond_true,ak,hc,Option.bind_some,h2 i hi,au (n:=i) (by omega)];cases Zf (Kj L i).1 (Kj L i).2.1 (Kj L i).2.2 with
   |false=>rfl
   |true=>cases aB (fun k=>aB (UH L i k) 0 (Kj L i).2.2.length) 0 i <;> rfl
  ·unfold Ub;simp only[aj,Nat.lt_irrefl,decide_false,cond_false]
 rw[h0];cases PL (ai L) 1 6 with
 |false=>rfl
 |true=>cases aB (Vw L) 0 L.length <;> rfl
noncomputable def Qu(L:List V6)(i:Nat):List Int:=((L.take i).map fun c=>Sp c.2.2).flatten
theorem ZR{L:List V6}{i:Nat}(h:i<L.length):Qu L (i+1)=Qu L i++Sp (Kj L i).2.2:=by unfold Qu Kj;rw[P4 h Ji,List.map_append,List.flatten_append];simp
theorem aaj(m:List (Int×Bool))(a b:List Int):KI m (a++b)=KI (KI m a) b:=List.foldl_append
noncomputable def Yg(L:List V6)(i n:Nat):Bool:=Bool.not (af .gtr (LB (Kj L i).2.2 n).2.2.1 0&&cw (KI (KI [] (Qu L i)) (Sp ((Kj L i).2.2.take n))) (LB (Kj L i).2.2 n).2.2.1)
noncomputable def WD(L:List V6)(i:Nat):Bool:=ZG (Kj L i).1 (Kj L i).2.1 (Kj L i).2.2&&aB (Yg L i) 0 (Kj L i).2.2.length
theorem Zi(L:List V6)(hw:V7 L):Rp L=some (PL (ai L) 1 6&&aB (WD L) 0 L.length,()):=by
 have hL:=hw.1;unfold Rp;rw[LN];simp only[Option.bind_some];have h2:∀i,i<L.length->TX (L,ai L,(i:Int),(Kj L i).2.2,ai (Kj L i).2.2,()) (KI [] (Qu L i),0,())=some (bif aB (Yg L i) 0 (Kj L i).2.2.length then(Sum.inr (Sum.inl (KI [] (Qu L (i+1)),())):Bool×Unit⊕((List (Int×Bool))×Unit⊕Empty))else .inl (false,())):=by
  intro i hi;have hb:=(hw.at hi).2;have:=bq (body:=RB (L,ai L,(i:Int),(Kj L i).2.2,ai (Kj L i).2.2,())) (fun n=>(KI (KI [] (Qu L i)) (Sp ((Kj L i).2.2.take n)),(n:Int),())) (Kj L i).2.2.length (by omega) (Yg L i) (Sum.inr (Sum.inl (KI [] (Qu L (i+1)),()))) (Sum.inl (false,())) (fun n hn=>?_) ?_
  ·exact this
  ·unfold RB Yg;have e2:KI (KI [] (Qu L i)) (Sp ((Kj L i).2.2.take (n+1)))=eW (KI (KI [] (Qu L i)) (Sp ((Kj L i).2.2.take n))) (LB (Kj L i).2.2 n).2.2.1 true:=by unfold Sp LB;rw[P4 hn LY,List.map_append];exact Wr _ _ _
   simp only[aj,ax,hn,decide_true,cond_true,ak,au (n:=n) (by omega),e2];show(bif af .gtr (LB (Kj L i).2.2 n).2.2.1 0 then(bif cw (KI (KI [] (Qu L i)) (Sp ((Kj L i).2.2.take n))) (LB (Kj L i).2.2 n).2.2.1 then _ else _)else _)=_;cases af .gtr (LB (Kj L i).2.2 n).2.2.1 0 with
   |false=>rfl
   |true=>cases cw (KI (KI [] (Qu L i)) (Sp ((Kj L i).2.2.take n))) (LB (Kj L i).2.2 n).2.2.1 <;> rfl
  ·unfold RB;simp only[aj,Nat.lt_irrefl,decide_false,cond_false,List.take_length,ZR hi,aaj]
 have h0:TW (L,ai L,()) ([],0,())=some (bif aB (WD L) 0 L.length then(Sum.inr (Sum.inl ()):Bool×Unit⊕(Unit⊕Empty))else .inl (false,())):=by
  refine bq (fun n=>(KI [] (Qu L n),(n:Int),())) L.length (by omega) _ _ _ (fun i hi=>?_) ?_
  ·unfold TU WD;have hc:QY (L.getD i Ji).1 (L.getD i Ji).2.1 (L.getD i Ji).2.2=some (ZG (Kj L i).1 (Kj L i).2.1 (Kj L i).2.2,()):=YT _ _ _ (hw.at hi).1 (hw.at hi).2;have h2':=h2 i hi;unfold Kj at h2';simp only[aj,ax,hi,decide_true,cond_true,ak,hc,Option.bind_some,h2',au (n:=i) (by omega)];cases ZG (Kj L i).1 (Kj L i).2.1 (Kj L i).2.2 with
   |false=>rfl
   |true=>show(bif Bool.not true then _ else(some (bif aB (Yg L i) 0 (Kj L i).2.2.length then _ else _)).bind _)=_;cases aB (Yg L i) 0 (Kj L i).2.2.length <;> rfl
  ·unfold TU;simp only[aj,Nat.lt_irrefl,decide_false,cond_false]
 rw[h0];cases PL (ai L) 1 6 with
 |false=>rfl
 |true=>cases aB (WD L) 0 L.length <;> rfl
theorem ZK{l:List Bx}{p:Int}:aaR l p=true↔p∈Sp l:=by simp only[aaR,Sp,List.any_eq_true,List.mem_map,Xn]
theorem YF{L:List V6}{i:Nat}(hi:i<=L.length)(p:Int):p∈Qu L i↔∃k,k<i/\p∈Sp (Kj L k).2.2:=by
 unfold Qu;simp only[List.mem_flatten,List.mem_map];constructor
 ·rintro⟨l,⟨c,hc,rfl⟩,hp⟩;obtain⟨k,hk,rfl⟩:=(XF (z:=Ji) hi).1 hc;exact⟨k,hk,hp⟩
 ·rintro⟨k,hk,hp⟩;exact⟨_,⟨Kj L k,(XF (z:=Ji) hi).2 ⟨k,hk,rfl⟩,rfl⟩,hp⟩
theorem aaK(L:List V6)(hw:V7 L){i:Nat}(hi:i<L.length):Vw L i=WD L i:=by
 unfold Vw WD;rw[abq _ _ _ (hw.at hi).2];cases hc:ZG (Kj L i).1 (Kj L i).2.1 (Kj L i).2.2 with
 |false=>rfl
 |true=>
  simp only[Bool.true_and];have hdup:∀n,n<(Kj L i).2.2.length->aB (X6 (Kj L i).2.2 n) 0 n=true:=by rw[<-abq _ _ _ (hw.at hi).2]at hc;unfold Zf at hc;simp only[Bool.and_eq_true]at hc;intro n hn;have:=(aO _ _).1 hc.2.1.1 n (Nat.zero_le _) (by omega);unfold okS at this;simp only[Bool.and_eq_true]at this;exact this.1.2
  rw[Bool.eq_iff_iff,aO,aO];constructor
  ·intro h n _ hn;unfold Yg;rw[Bool.not_eq_true',Bool.and_eq_false_iff];cases hg:af .gtr (LB (Kj L i).2.2 n).2.2.1 0 with
   |false=>exact .inl rfl
   |true=>
    refine .inr ?_;cases hm:cw (KI (KI [] (Qu L i)) (Sp ((Kj L i).2.2.take n))) (LB (Kj L i).2.2 n).2.2.1 with
    |false=>rfl
    |true=>
     exfalso;rcases(SO _ _ _).1 hm with hm|hm
     ·have:=(SO _ _ _).1 hm;simp only[cw,Bool.false_eq_true,false_or]at this;obtain⟨k,hk,hp⟩:=(YF (by omega) _).1 this;have:=h k (Nat.zero_le _) (by omega);have:=(aO _ _).1 this n (Nat.zero_le _) hn;unfold UH at this;rw[hg,ZK.2 hp]at this;cases this
     ·have hd:=hdup n (by omega);rw[<-Zg (by omega),hg]at hd;have:cw (KI [] (Sp ((Kj L i).2.2.take n))) (LB (Kj L i).2.2 n).2.2.1=true:=(SO _ _ _).2 (.inr hm);rw[this]at hd;cases hd
  ·intro h k _ hk;rw[aO];intro n _ hn;have:=h n (Nat.zero_le _) hn;unfold Yg at this;unfold UH;rw[Bool.not_eq_true',Bool.and_eq_false_iff]at this⊢;rcases this with h1|h1
   ·exact .inl h1
   ·refine .inr ?_;cases hp:aaR (Kj L k).2.2 (LB (Kj L i).2.2 n).2.2.1 with
    |false=>rfl
    |true=>have:cw (KI (KI [] (Qu L i)) (Sp ((Kj L i).2.2.take n))) (LB (Kj L i).2.2 n).2.2.1=true:=(SO _ _ _).2 (.inl ((SO _ _ _).2 (.inr ((YF (by omega) _).2 ⟨k,by omega,ZK.1 hp⟩))));rw[this]at h1;cases h1
theorem ZL(L:List V6)(hw:V7 L):Rp L=some (UG L,()):=by rw[Zi L hw];unfold UG;rw[fU L.length 0 fun m _ hm=>aaK L hw (by omega)]
end Go.Fn
set_option linter.unusedVariables false
set_option linter.unusedSimpArgs false
namespace Go.Fn
open Go.R
noncomputable def Sm{α:Type}(P:α->Prop)(x y:Option α):Prop:=∃r,x=some r/\y=some r/\P r
section
variable {α β:Type} {P:α->Prop} {Q:β->Prop}
theorem Sm.ret{a:α}(h:P a):Sm P (some a) (some a):=⟨a,rfl,rfl,h⟩
theorem Sm.bind{x y:Option α}{f g:α->Option β}(hx:Sm P x y)(h:∀r,P r->Sm Q (f r) (g r)):Sm Q (x.bind f) (y.bind g):=by obtain⟨r,rfl,rfl,hr⟩:=hx;exact h r hr
theorem Sm.cond{b:Bool}{x y x' y':Option α}(hx:b=true->Sm P x x')(hy:b=false->Sm P y y'):Sm P (bif b then x else y) (bif b then x' else y'):=by
 cases b
 ·exact hy rfl
 ·exact hx rfl
theorem Sm.guard{b c:Bool}{x y:Option α}(hb:b=true)(hc:c=true)(h:Sm P x y):Sm P (bif b then x else none) (bif c then y else none):=by subst hb hc;exact h
theorem Sm.mono{P':α->Prop}{x y:Option α}(h:Sm P x y)(hp:∀r,P r->P' r):Sm P' x y:=by obtain⟨r,e1,e2,hr⟩:=h;exact⟨r,e1,e2,hp r hr⟩
theorem Sm.symm{x y:Option α}(h:Sm P x y):Sm P y x:=by obtain⟨r,e1,e2,hr⟩:=h;exact⟨r,e2,e1,hr⟩
theorem X2{X Y:Type}{body body':X->Option (X⊕Y)}(Inv:X->Prop)(m:X->Nat){Q:Y->Prop}(h:∀x,Inv x->Sm (fun r=>match r with| .inl a=>Inv a/\m a<m x| .inr b=>Q b) (body x) (body' x)):∀(fu:Nat) (x:X),Inv x->m x<fu->Sm Q (iter body fu x) (iter body' fu x)
 |0,x,_,hm=>absurd hm (Nat.not_lt_zero _)
 |fu+1,x,hi,hm=>by
  obtain⟨r,e1,e2,hr⟩:=h x hi;cases r with
  |inl a=>rw[aF e1,aF e2];exact X2 Inv m h fu a hr.1 (by have:=hr.2;omega)
  |inr b=>exact⟨b,av e1,av e2,hr⟩
end
theorem Vt {B Y:Type} {body body':B×Int×Unit->Option ((B×Int×Unit)⊕Y)} (len:Nat) (hlen:len<=1073741824) {Q:Y->Prop} (I:B->Prop)
  (hs:∀b n,n<len->I b->Sm (fun r=>match r with| .inl a=>I a.1/\a.2.1=((n+1:Nat):Int)| .inr y=>Q y) (body (b,(n:Int),())) (body' (b,(n:Int),()))) (he:∀b,I b->Sm (fun r=>match r with| .inl a=>False| .inr y=>Q y) (body (b,(len:Int),())) (body' (b,(len:Int),()))) (b:B) (hb:I b):Sm Q (iter body big (b,0,())) (iter body' big (b,0,())):=by
 refine X2 (fun x=>I x.1/\0<=x.2.1/\x.2.1<=(len:Int)) (fun x=>((len:Int)-x.2.1).toNat) (fun x hx=>?_) big (b,0,()) ⟨hb,Int.le_refl _,by show(0:Int)<=(len:Int);omega⟩ (aN (by show((len:Int)-0).toNat<_;omega));obtain⟨b,i,u⟩:=x;obtain⟨h0,h1,h2⟩:=hx;have h1:0<=i:=h1;have h2:i<=(len:Int):=h2;obtain⟨n,rfl⟩:∃n:Nat,i=(n:Int):=⟨i.toNat,by omega⟩
 by_cases h:n<len
 ·refine(hs b n h h0).mono fun r hr=>?_;cases r with
  |inr y=>exact hr
  |inl a=>obtain⟨q1,q2⟩:=hr;refine⟨⟨q1,by rw[q2];omega,by rw[q2];omega⟩,?_⟩;show((len:Int)-a.2.1).toNat<((len:Int)-(n:Int)).toNat;rw[q2];omega
 ·have hn:n=len:=by omega
  subst hn;refine(he b h0).mono fun r hr=>?_;cases r with
  |inl a=>exact hr.elim
  |inr y=>exact hr
theorem ZU {Y:Type} {body body':Int×Unit->Option ((Int×Unit)⊕Y)} (len:Nat) (hlen:len<=1073741824) (F:Nat->Prop) {Q:Y->Prop}
  (hs:∀n,n<len->Sm (fun r=>match r with| .inl a=>a.1=((n+1:Nat):Int)/\F n| .inr y=>Q y) (body ((n:Int),())) (body' ((n:Int),()))) (he:(∀n,n<len->F n)->Sm (fun r=>match r with| .inl a=>False| .inr y=>Q y) (body ((len:Int),())) (body' ((len:Int),()))):Sm Q (iter body big (0,())) (iter body' big (0,())):=by
 refine X2 (fun x=>0<=x.1/\x.1<=(len:Int)/\∀m:Nat,(m:Int)<x.1->F m) (fun x=>((len:Int)-x.1).toNat) (fun x hx=>?_) big (0,()) ⟨Int.le_refl _,by show(0:Int)<=(len:Int);omega,fun m hm=>by have hm:(m:Int)<0:=hm;omega⟩ (aN (by show((len:Int)-0).toNat<_;omega));obtain⟨i,u⟩:=x;obtain⟨h1,h2,h3⟩:=hx;have h1:0<=i:=h1;have h2:i<=(len:Int):=h2;have h3:∀m:Nat,(m:Int)<i->F m:=h3;obtain⟨n,rfl⟩:∃n:Nat,i=(n:Int):=⟨i.toNat,by omega⟩
 by_cases h:n<len
 ·refine(hs n h).mono fun r hr=>?_;cases r with
  |inr y=>exact hr
  |inl a=>
   obtain⟨q2,q3⟩:a.1=((n+1:Nat):Int)/\F n:=hr;refine⟨⟨by rw[q2];omega,by rw[q2];omega,fun m hm=>?_⟩,?_⟩
   ·rw[q2]at hm;rcases Nat.lt_or_ge m n with hmn|hmn
    ·exact h3 m (by omega)
    ·rw[show m=n by omega];exact q3
   ·show((len:Int)-a.1).toNat<((len:Int)-(n:Int)).toNat;rw[q2];omega
 ·have hn:n=len:=by omega
  subst hn;refine(he fun m hm=>h3 m (by omega)).mono fun r hr=>?_;cases r with
  |inl a=>exact hr.elim
  |inr y=>exact hr
abbrev Any{α:Type}:α->Prop:=fun _=>True
theorem aaC{α:Type}{x y:Option α}{a:α}(h1:x=some a)(h2:y=some a):Sm (fun r=>r=a) x y:=⟨a,h1,h2,rfl⟩
theorem Xt(a lo hi:Int):Sm (fun r=>r=(PL a lo hi,())) (I1 a lo hi) (IY a lo hi):=aaC (RL a lo hi) (LN a lo hi)
theorem abt:∀(k:Fin 3) (t:Fin 7) (a b c:Bool),Rq ((k.val:Nat):Int) ((t.val:Nat):Int) a b c=Ql ((k.val:Nat):Int) ((t.val:Nat):Int) a b c/\(Ql ((k.val:Nat):Int) ((t.val:Nat):Int) a b c).isSome=true:=by decide +kernel
theorem acf(k t:Int)(a b c:Bool):Sm (fun r=>r.1=true->0<=k/\k<=2) (Rq k t a b c) (Ql k t a b c):=by
 cases hk:PL k 0 2 with
 |false=>
  refine⟨(false,()),?_,?_,fun h=>by cases h⟩
  ·unfold Rq;rw[RL,hk];rfl
  ·unfold Ql;rw[LN,hk];rfl
 |true=>
  obtain⟨h1,h2⟩:=NS.1 hk;cases ht:PL t 0 6 with
  |false=>
   refine⟨(false,()),?_,?_,fun h=>by cases h⟩
   ·unfold Rq;rw[RL,hk,RL,ht];rfl
   ·unfold Ql;rw[LN,hk,LN,ht];rfl
  |true=>obtain⟨h3,h4⟩:=NS.1 ht;have:=abt ⟨k.toNat,by omega⟩ ⟨t.toNat,by omega⟩ a b c;simp only[Int.toNat_of_nonneg h1,Int.toNat_of_nonneg h3]at this;obtain⟨r,hr⟩:=Option.isSome_iff_exists.1 this.2;exact⟨r,this.1.trans hr,hr,fun _=>⟨h1,h2⟩⟩
theorem acy(a b c d e:Int):Sm Any (UW a b c d e) (UK a b c d e):=by unfold UW UK Oz NR;simp only[RL,LN,Option.bind_some];cases PL a 1 2147483646 <;> cases PL b 0 1000001 <;> cases PL c 0 2 <;> cases PL d 0 6 <;> exact .ret trivial
theorem aby(a b c d e f:Int)(o:Bool):Sm Any (RU a b c d e f o) (QA a b c d e f o):=by unfold RU QA NZ Nj Tw M6;simp only[RL,LN,Option.bind_some];cases PL a 1 40 <;> cases PL b 1 40 <;> cases af .neq a b <;> cases PL c 0 999 <;> cases PL d 0 5 <;> cases PL e 0 20000 <;> cases PL f 0 20000 <;> exact .ret trivial
noncomputable def grV(x:Grt):Bool:=match QA x.1 x.2.1 x.2.2.1 x.2.2.2.1 x.2.2.2.2.1 x.2.2.2.2.2.1 x.2.2.2.2.2.2 with|some r=>r.1|none=>false
theorem abx(x:Grt):RU x.1 x.2.1 x.2.2.1 x.2.2.2.1 x.2.2.2.2.1 x.2.2.2.2.2.1 x.2.2.2.2.2.2=some (grV x,())/\QA x.1 x.2.1 x.2.2.1 x.2.2.2.1 x.2.2.2.2.1 x.2.2.2.2.2.1 x.2.2.2.2.2.2=some (grV x,()):=by
 obtain⟨r,e1,e2,_⟩:=aby x.1 x.2.1 x.2.2.1 x.2.2.2.1 x.2.2.2.2.1 x.2.2.2.2.2.1 x.2.2.2.2.2.2;have:grV x=r.1:=by unfold grV;rw[e2]
 rw[this];exact⟨e1,e2⟩
theorem aaO(g:List Grt)(hg:g.length<=1073741824):Sm Any (SH g) (Sz g):=by
 unfold SH Sz Km KA;have hs:Sv (g,()) (0,())=some (bif aB (fun n=>grV (g.getD n SS)) 0 g.length then(Sum.inr (Sum.inl ()):Bool×Unit⊕(Unit⊕Empty))else .inl (false,())):=by
  refine bq (fun n=>((n:Int),())) g.length (by omega) _ _ _ (fun n hn=>?_) ?_
  ·unfold Su;simp only[aj,ax,hn,decide_true,cond_true,ak,(abx _).1,Option.bind_some,au (n:=n) (by omega)];cases grV (g.getD n SS) <;> rfl
  ·unfold Su;simp only[aj,Nat.lt_irrefl,decide_false,cond_false]
 obtain⟨y,h1,h2⟩:=eL (body:=JL (g,ai g,())) (fun n=>((n:Int),())) g.length (by omega) (fun n=>grV (g.getD n SS)) (Sum.inr (Sum.inl ())) (fun n=>Sum.inl ((n:Int),())) (fun n hn=>by
  unfold JL SV;simp only[aj,ax,hn,decide_true,cond_true,ak,(abx _).2,Option.bind_some,au (n:=n) (by omega)];cases grV (g.getD n SS) <;> rfl) (by
  unfold JL;simp only[aj,Nat.lt_irrefl,decide_false,cond_false])
 have h1':Kn (g,ai g,()) ((0:Int),())=some y:=h1;rw[hs,h1'];have hle:af .leq (ai g) (30:Int)=Bool.not (af .gtr (ai g) 30):=acv _ _;rw[hle];cases af .gtr (ai g) (30:Int)with
 |true=>exact .ret trivial
 |false=>
  simp only[Bool.not_false,cond_true,cond_false];rcases h2 with ⟨e1,rfl⟩|⟨e1,n,hn,rfl,_⟩
  ·rw[e1];exact⟨(true,()),rfl,rfl,trivial⟩
  ·rw[e1];have h0:af .geq (n:Int) 0=true:=by simp[af]
   refine⟨(false,()),rfl,?_,trivial⟩;show some (Bool.not (af .geq (n:Int) 0),())=_;rw[h0];rfl
section
variable (a0 a1 a2 a3 a4 a5 a6 a7 a8 a9 a10:Int) (s:List Site) (p:List Prc) (g:List Grt) (j:List Ev)
theorem Y1{x:Site}(h:Zp 1073741824 x):V7 x.2.2.1:=⟨h.b,fun c hc=>by obtain⟨n,hn,rfl⟩:=List.mem_iff_getElem.1 hc;have:=h.bs n hn;rw[List.getD_eq_getElem?_getD,List.getElem?_eq_getElem hn]at this;exact this⟩
theorem acK(o c:List YQ):Sm Any (SR o c) (Qo o c):=⟨_,ZZ o c,ZM o c,trivial⟩
theorem ab5{L:List V6}(h:V7 L):Sm (fun r=>r.1=true->UG L=true) (SP L) (Rp L):=⟨_,ZY L h,ZL L h,fun h=>h⟩
theorem aab(l:List Ev):Sm Any (Ox l) (Mj l):=⟨_,XI l,Vn l,trivial⟩
theorem acJ(k:Nat)(hk:k<s.length)(hs:Zp 1073741824 (s.getD k Qx))(hp:p.length<=1048576):Sm (fun r=>r.1=true->UG (s.getD k Qx).2.2.1=true) (R7 a0 a1 a2 a3 a4 a5 a6 a7 a8 a9 a10 s p g j (k:Int)) (UQ a0 a1 a2 a3 a4 a5 a6 a7 a8 a9 a10 s p g j (k:Int)):=by
 unfold R7 UQ;refine .guard (cK hk) (cK hk) ?_;simp only[ak];have hz:s.getD k b8=s.getD k Qx:=rfl;rw[hz];generalize s.getD k Qx=x at hs;have no:∀ {Q:Prop},((false:Bool),()).1=true->Q:=fun h=>by cases h
 refine(acK x.1 x.2.1).bind fun r _=>.cond (fun _=>.ret no) fun _=>?_;refine(ab5 (Y1 hs)).bind fun r hr=>.cond (fun _=>.ret no) fun hb=>?_;have CD:UG x.2.2.1=true:=hr (by cases h:r.1 with|true=>rfl|false=>rw[h]at hb;cases hb);refine(acf x.2.2.2.1 x.2.2.2.2.1 x.2.2.2.2.2.1 x.2.2.2.2.2.2.1 x.2.2.2.2.2.2.2.1).bind fun r hr=>.cond (fun _=>.ret no) fun hb=>?_;have afy:=hr (by cases h:r.1 with|true=>rfl|false=>rw[h]at hb;cases hb);refine(aab x.2.2.2.2.2.2.2.2.2.2).bind fun r _=>.cond (fun _=>.ret no) fun _=>?_;refine .cond (fun _=>?_) fun _=>?_
 ·simp only[aR];exact .cond (fun _=>.ret fun _=>CD) fun _=>.ret no
 ·refine(Xt x.2.2.2.2.2.2.2.2.1 1 (ai p)).bind fun r hr=>.cond (fun _=>.ret no) fun hb=>?_;subst hr;have hin:PL x.2.2.2.2.2.2.2.2.1 1 (ai p)=true:=by cases h:PL x.2.2.2.2.2.2.2.2.1 1 (ai p)with|true=>rfl|false=>rw[h]at hb;cases hb
  obtain⟨i1,i2⟩:=NS.1 hin;unfold ai at i2;have hsub:aa .sub .i64 x.2.2.2.2.2.2.2.2.1 1=x.2.2.2.2.2.2.2.2.1-1:=bM (by omega) (by omega);rw[hsub];have hr:ah p (x.2.2.2.2.2.2.2.2.1-1)=true:=WG (by omega) (by omega);rw[hr];simp only[cond_true];refine .cond (fun _=>.ret no) fun _=>.cond (fun _=>.ret no) fun _=>?_;obtain⟨k1,k2⟩:=afy;unfold I1 Nj;simp only[LN];have hc:x.2.2.2.1=0\/x.2.2.2.1=1\/x.2.2.2.1=2:=by omega
  rcases hc with hc|hc|hc <;> rw[hc]
  ·exact .ret no
  ·show Sm _ (bif af .eql x.2.2.2.2.2.2.2.2.2.1 0 then _ else _) (bif af .eql x.2.2.2.2.2.2.2.2.2.1 0 then _ else _);cases af .eql x.2.2.2.2.2.2.2.2.2.1 0 with
   |true=>exact .ret fun _=>CD
   |false=>exact .ret no
  ·show Sm _ (I1 x.2.2.2.2.2.2.2.2.2.1 0 40 |>.bind _) (bif af .eql x.2.2.2.2.2.2.2.2.2.1 0 then _ else(some (PL x.2.2.2.2.2.2.2.2.2.1 1 40,())).bind fun y=>some (y.1,()));rw[RL];cases hq:af .eql x.2.2.2.2.2.2.2.2.2.1 0 with
   |true=>have:x.2.2.2.2.2.2.2.2.2.1=0:=Xn.1 hq;rw[this];exact⟨(true,()),rfl,rfl,fun _=>CD⟩
   |false=>
    have h0:x.2.2.2.2.2.2.2.2.2.1≠0:=fun e=>by rw[Xn.2 e]at hq;cases hq
    have:PL x.2.2.2.2.2.2.2.2.2.1 0 40=PL x.2.2.2.2.2.2.2.2.2.1 1 40:=by rw[Bool.eq_iff_iff,NS,NS];omega
    rw[this];exact⟨_,rfl,rfl,fun _=>CD⟩
theorem Y9(a:Int):Sm (fun r=>r=(PL a 1 40,())) (NZ a) (Nj a):=by unfold NZ Nj;rw[RL,LN];exact .ret rfl
theorem aa5(n:Int):Sm Any (Q2 a0 a1 a2 a3 a4 a5 a6 a7 a8 a9 a10 s p g j n) (QZ a0 a1 a2 a3 a4 a5 a6 a7 a8 a9 a10 s p g j n):=by obtain⟨y,e1,e2⟩:=aa4 a0 a1 a2 a3 a4 a5 a6 a7 a8 a9 a10 s p g j n;exact⟨_,e1,e2,trivial⟩
theorem Yj(x:Prc)(k:Nat)(hk:k<p.length)(hx:p.getD k zW=x)(h0:0<=x.2.2.1)(h1:x.2.2.1<s.length):Sm (fun r=>r.1=true->x.2.2.2.1≠4) (PF a0 a1 a2 a3 a4 a5 a6 a7 a8 a9 a10 s p g j (k:Int)) (OK a0 a1 a2 a3 a4 a5 a6 a7 a8 a9 a10 s p g j x.1 x.2.1 x.2.2.1 x.2.2.2.1 x.2.2.2.2.1 x.2.2.2.2.2.1 x.2.2.2.2.2.2.1 x.2.2.2.2.2.2.2.1 x.2.2.2.2.2.2.2.2.1 x.2.2.2.2.2.2.2.2.2.1 x.2.2.2.2.2.2.2.2.2.2.1 x.2.2.2.2.2.2.2.2.2.2.2.1 x.2.2.2.2.2.2.2.2.2.2.2.2):=by unfold PF OK;rw[cK hk,ak,hx,WG h0 h1];simp only[cond_true];exact .cond (fun h=>.ret fun _=>by have:=Xn.1 h;omega) fun _=>.cond (fun h=>.ret fun _=>by have:=Xn.1 h;omega) fun _=>.cond (fun h=>.ret fun _=>by have:=Xn.1 h;omega) fun _=>.ret fun h=>by cases h
theorem aa2(k:Nat)(hk:k<p.length)(hs:s.length<=1048576):Sm (fun r=>r.1=true->(0<=(p.getD k zW).2.2.1/\(p.getD k zW).2.2.1<s.length)/\((p.getD k zW).2.2.2.1=4->1<=(p.getD k zW).2.2.2.2.2.2.2.2.2.2.2.1/\(p.getD k zW).2.2.2.2.2.2.2.2.2.2.2.1<=40)) (QS a0 a1 a2 a3 a4 a5 a6 a7 a8 a9 a10 s p g j (k:Int)) (SE a0 a1 a2 a3 a4 a5 a6 a7 a8 a9 a10 s p g j (k:Int)):=by
 unfold QS SE;refine .guard (cK hk) (cK hk) ?_;simp only[ak];generalize hx:p.getD k zW=x;have no:∀ {Q:Prop},((false:Bool),()).1=true->Q:=fun h=>by cases h
 refine(Xt x.1 1 24).bind fun r _=>.cond (fun _=>.ret no) fun _=>?_;refine(Y9 x.2.1).bind fun r _=>.cond (fun _=>.ret no) fun _=>?_;refine(Xt x.2.2.1 0 (aa .sub .i64 (ai s) 1)).bind fun r hr=>.cond (fun _=>.ret no) fun hb=>?_;subst hr;have hin:PL x.2.2.1 0 (aa .sub .i64 (ai s) 1)=true:=by cases h:PL x.2.2.1 0 (aa .sub .i64 (ai s) 1)with|true=>rfl|false=>rw[h]at hb;cases hb
 obtain⟨i1,i2⟩:=NS.1 hin;rw[bM (by unfold ai;omega) (by unfold ai;omega)]at i2;have i2:x.2.2.1<s.length:=by unfold ai at i2;omega
 refine(Xt x.2.2.2.1 0 5).bind fun r _=>.cond (fun _=>.ret no) fun _=>?_;refine .cond (fun _=>.guard (WG i1 i2) (WG i1 i2) (.cond (fun _=>.ret no) fun _=>?_)) fun _=>?_;all_goals
  refine(Yj a0 a1 a2 a3 a4 a5 a6 a7 a8 a9 a10 s p g j x k hk hx i1 i2).bind fun r hun=>.cond (fun DO=>?_) fun _=>?_
  ·refine .cond (fun _=>.cond (fun _=>.cond (fun _=>.cond (fun _=>?_) fun _=>.ret no) fun _=>.ret no) fun _=>.ret no) fun _=>.ret no;simp only[aR];exact .ret fun _=>⟨⟨i1,i2⟩,fun h4=>absurd h4 (hun DO)⟩
  ·refine(Xt x.2.2.2.2.1 0 a10).bind fun r _=>.cond (fun _=>.ret no) fun _=>?_;refine(Xt x.2.2.2.2.2.1 0 a7).bind fun r _=>.cond (fun _=>.ret no) fun _=>?_;refine(acy x.2.2.2.2.2.2.1 x.2.2.2.2.2.2.2.1 x.2.2.2.2.2.2.2.2.1 x.2.2.2.2.2.2.2.2.2.1 x.2.2.2.2.2.2.2.2.2.2.1).bind fun r _=>.cond (fun _=>.ret no) fun _=>?_;refine(aa5 a0 a1 a2 a3 a4 a5 a6 a7 a8 a9 a10 s p g j (aa .add .i64 (k:Int) 1)).bind fun r _=>.cond (fun _=>.ret no) fun _=>?_;refine .cond (fun _=>?_) fun h4=>?_
   ·refine(Y9 x.2.2.2.2.2.2.2.2.2.2.2.1).bind fun r hr=>.cond (fun hp=>?_) fun _=>.ret no;subst hr;exact(Xt x.2.2.2.2.2.2.2.2.2.2.2.2 0 (aa .add .i64 a4 (aa .mul .i64 a6 a7))).bind fun r _=>.ret fun _=>⟨⟨i1,i2⟩,fun _=>NS.1 hp⟩
   ·exact .cond (fun _=>.ret fun _=>⟨⟨i1,i2⟩,fun he=>by rw[Xn.2 he]at h4;cases h4⟩) fun _=>.ret no
theorem acw(hp:p.length<=1048576)(hs:∀k,k<p.length->0<=(p.getD k zW).2.2.1/\(p.getD k zW).2.2.1<s.length):Sm Any (Tx a0 a1 a2 a3 a4 a5 a6 a7 a8 a9 a10 s p g j) (UO a0 a1 a2 a3 a4 a5 a6 a7 a8 a9 a10 s p g j):=by
 unfold Tx UO;refine(Vt (B:=Int) (Q:=Any) p.length (by omega) (fun _=>True) (fun b n hn _=>?_) (fun b _=>?_) (0:Int) trivial).bind fun q _=>?_
 ·unfold S7 TZ;simp only[aj,ax,hn,decide_true,cond_true,ak,au (n:=n) (by omega)];obtain⟨h0,h1⟩:=hs n hn;refine .cond (fun _=>?_) fun _=>.ret ⟨trivial,rfl⟩;refine(Yj a0 a1 a2 a3 a4 a5 a6 a7 a8 a9 a10 s p g j (p.getD n zW) n hn rfl h0 h1).bind fun r _=>.cond (fun _=>.ret ⟨trivial,rfl⟩) fun _=>.ret ⟨trivial,rfl⟩
 ·unfold S7 TZ;simp only[aj,Nat.lt_irrefl,decide_false,cond_false];exact .ret trivial
 ·cases q with
  |inl y=>exact .ret trivial
  |inr e=>exact e.elim
theorem adp(k i:Int)(adm:List V6)(l:List Bx)(hl:l.length<=1073741824)(uR:∀n,n<l.length->0<=(l.getD n LY).2.2.1/\(l.getD n LY).2.2.1<=999)(hp:p.length<=1048576)(c:Int):
  Sm Any (Rl (a0,a1,a2,a3,a4,a5,a6,a7,a8,a9,a10,s,p,g,j,k,i,l,()) (c,0,())) (S4 (a0,a1,a2,a3,a4,a5,a6,a7,a8,a9,a10,s,p,g,j,k,s,ai s,k,adm,ai adm,i,l,ai l,()) (c,0,())):=by
 refine Vt (B:=Int) (Q:=Any) l.length (by omega) (fun _=>True) (fun b n hn _=>?_) (fun b _=>?_) c trivial
 ·unfold Ri S0;obtain⟨h0,h9⟩:=uR n hn;revert h0 h9;simp only[aj,ax,hn,decide_true,cond_true,ak,au (n:=n) (by omega),LN,Option.bind_some,aR];generalize l.getD n LY=x;intro h0 h9;refine .cond (fun _=>.ret ⟨trivial,rfl⟩) fun hz=>?_;have hz:¬x.2.2.1=0:=fun e=>by rw[Xn.2 e]at hz;cases hz
  have hb:Bool.not (PL x.2.2.1 1 (ai p))=af .gtr x.2.2.1 (ai p):=by
   cases hq:af .gtr x.2.2.1 (ai p)with
   |true=>
    have:=afb.1 hq;have:PL x.2.2.1 1 (ai p)=false:=by rw[Bool.eq_false_iff,ne_eq,NS];omega
    rw[this];rfl
   |false=>have:=abz.1 hq;have:PL x.2.2.1 1 (ai p)=true:=NS.2 ⟨by omega,by omega⟩;rw[this];rfl
  rw[hb];refine .cond (fun _=>.ret trivial) fun hg=>?_;have hg:=abz.1 hg;unfold ai at hg;rw[bM (by omega) (by omega)];refine .guard (WG (by omega) (by omega)) (WG (by omega) (by omega)) ?_;generalize ae zW p (x.2.2.1-1)=y;cases af .neq y.2.2.1 k <;> cases af .neq y.1 x.2.1 <;> cases af .neq y.2.2.2.1 2 <;> cases af .neq y.2.2.2.1 3 <;> cases af .eql y.2.2.2.1 2 <;> cases x.2.2.2 <;> first|exact .ret trivial|exact .ret ⟨trivial,rfl⟩
 ·unfold Ri S0;simp only[aj,Nat.lt_irrefl,decide_false,cond_false];exact .ret trivial
theorem ado(k:Nat)(hk:k<s.length)(hs:Zp 1073741824 (s.getD k Qx))(hb:UG (s.getD k Qx).2.2.1=true)(hp:p.length<=1048576)(c:Int):
  Sm Any (Rk (a0,a1,a2,a3,a4,a5,a6,a7,a8,a9,a10,s,p,g,j,(k:Int),()) (c,0,())) (S3 (a0,a1,a2,a3,a4,a5,a6,a7,a8,a9,a10,s,p,g,j,(k:Int),s,ai s,(k:Int),(s.getD k Qx).2.2.1,ai (s.getD k Qx).2.2.1,()) (c,0,())):=by
 have hw:=Y1 hs;refine Vt (B:=Int) (Q:=Any) (s.getD k Qx).2.2.1.length (by have:=hw.1;omega) (fun _=>True) (fun b n hn _=>?_) (fun b _=>?_) c trivial
 ·unfold Rh SZ;have hz:s.getD k b8=s.getD k Qx:=rfl;simp only[ax,hk,decide_true,cond_true,ak,hz,aj,hn,au (n:=n) (by have:=hw.1;omega)];refine(adp a0 a1 a2 a3 a4 a5 a6 a7 a8 a9 a10 s p g j (k:Int) (n:Int) (s.getD k Qx).2.2.1 (Kj (s.getD k Qx).2.2.1 n).2.2 (hw.at hn).2 (fun m hm=>?_) hp b).bind fun q _=>?_
  ·unfold UG at hb;rw[Bool.and_eq_true]at hb;have:=(aO _ _).1 hb.2 n (Nat.zero_le _) (by omega);unfold Vw Zf at this;simp only[Bool.and_eq_true]at this;have:=(aO _ _).1 this.1.2.1.1 m (Nat.zero_le _) (by omega);unfold okS at this;simp only[Bool.and_eq_true]at this;exact NS.1 this.1.1.2
  ·cases q with
   |inl y=>exact .ret trivial
   |inr q=>
    cases q with
    |inl y=>exact .ret ⟨trivial,rfl⟩
    |inr e=>exact e.elim
 ·unfold Rh SZ;have hz:s.getD k b8=s.getD k Qx:=rfl;simp only[ax,hk,decide_true,cond_true,ak,hz,aj,Nat.lt_irrefl,decide_false,cond_false];exact .ret trivial
theorem abn(hle:aax s p g j)(hb:∀k,k<s.length->UG (s.getD k Qx).2.2.1=true):Sm Any (Rc a0 a1 a2 a3 a4 a5 a6 a7 a8 a9 a10 s p g j) (Tn a0 a1 a2 a3 a4 a5 a6 a7 a8 a9 a10 s p g j):=by
 have hls:=hle.ls;have hlp:=hle.lp;unfold Rc Tn;refine(Vt (B:=Int) (Q:=Any) s.length (by omega) (fun _=>True) (fun b n hn _=>?_) (fun b _=>?_) (0:Int) trivial).bind fun q _=>?_
 ·unfold Rg SY;have hz:∀n,s.getD n b8=s.getD n Qx:=fun _=>rfl;simp only[aj,ax,hn,decide_true,cond_true,ak,au (n:=n) (by omega),hz];refine(ado a0 a1 a2 a3 a4 a5 a6 a7 a8 a9 a10 s p g j n hn (hle.ss n hn) (hb n hn) hlp b).bind fun q _=>?_;cases q with
  |inl y=>exact .ret trivial
  |inr q=>
   cases q with
   |inl y=>exact .ret ⟨trivial,rfl⟩
   |inr e=>exact e.elim
 ·unfold Rg SY;simp only[aj,Nat.lt_irrefl,decide_false,cond_false];exact .ret trivial
 ·cases q with
  |inl y=>exact .ret trivial
  |inr q=>
   cases q with
   |inr e=>exact e.elim
   |inl y=>
    refine(Vt (B:=Int) (Q:=Any) p.length (by omega) (fun _=>True) (fun b n hn _=>?_) (fun b _=>?_) y.1 trivial).bind fun q _=>?_
    ·unfold Rj S2;simp only[aj,ax,hn,decide_true,cond_true,ak,au (n:=n) (by omega)];exact .cond (fun _=>.ret ⟨trivial,rfl⟩) fun _=>.cond (fun _=>.ret ⟨trivial,rfl⟩) fun _=>.ret ⟨trivial,rfl⟩
    ·unfold Rj S2;simp only[aj,Nat.lt_irrefl,decide_false,cond_false];exact .ret trivial
    ·cases q with
     |inl y=>exact .ret trivial
     |inr e=>exact e.elim
structure afV:Prop where
 ajm:WL a0 a1 a2 a3 a4 a5 a6 a7=true
 room:0<=a8/\a8<=1000
 agT:1<=a9/\a9<=2147483646
 now:0<=a10/\a10<=20000
 sites:1<=s.length/\s.length<=3
 Sp:p.length<=12
 jr:W4 j=true
 adm:∀n,n<s.length->UG (s.getD n Qx).2.2.1=true
 mQ:∀n,n<p.length->0<=(p.getD n zW).2.2.1/\(p.getD n zW).2.2.1<s.length
 who:∀n,n<p.length->(p.getD n zW).2.2.2.1=4->1<=(p.getD n zW).2.2.2.2.2.2.2.2.2.2.2.1/\(p.getD n zW).2.2.2.2.2.2.2.2.2.2.2.1<=40
theorem aaZ(hle:aax s p g j):Sm (fun r=>r.1=true->afV a0 a1 a2 a3 a4 a5 a6 a7 a8 a9 a10 s p j) (PE a0 a1 a2 a3 a4 a5 a6 a7 a8 a9 a10 s p g j) (K1 a0 a1 a2 a3 a4 a5 a6 a7 a8 a9 a10 s p g j):=by
 have hls:=hle.ls;have hlp:=hle.lp;have hlg:=hle.lg;unfold PE K1;have no:∀ {Q:Prop},((false:Bool),()).1=true->Q:=fun h=>by cases h
 have tr:∀ {b:Bool},Bool.not b=false->b=true:=fun {b} h=>by cases b with|true=>rfl|false=>cases h
 refine(aaC (Zu ..) (Xp ..)).bind fun r hr=>.cond (fun _=>.ret no) fun f1=>?_;subst hr;refine(Xt a8 0 1000).bind fun r hr=>.cond (fun _=>.ret no) fun f2=>?_;subst hr;refine Sm.bind (P:=fun r=>r=(PL a9 1 2147483646,())) (by unfold Oz NR;rw[RL,LN];exact .ret rfl) fun r hr=>.cond (fun _=>.ret no) fun f3=>?_;subst hr;refine(aaC (RL a10 0 20000) (X4 a10)).bind fun r hr=>.cond (fun _=>.ret no) fun f4=>?_;subst hr;refine(Xt (ai s) 1 3).bind fun r hr=>.cond (fun _=>.ret no) fun f5=>.cond (fun _=>.ret no) fun f6=>?_;subst hr;refine(aaO g (by omega)).bind fun r _=>.cond (fun _=>.ret no) fun _=>?_;refine(aaC (XI j) (Vn j)).bind fun r hr=>.cond (fun _=>.ret no) fun f7=>?_;subst hr;refine(ZU s.length (by omega) (fun n=>UG (s.getD n Qx).2.2.1=true) (Q:=fun y=>match y with| .inl y=>y.1=false| .inr _=>∀n,n<s.length->UG (s.getD n Qx).2.2.1=true) (fun n hn=>?_) (fun hF=>?_)).bind fun q hq=>?_
 ·unfold RX RE;simp only[aj,hn,decide_true,cond_true,au (n:=n) (by omega)];refine(acJ a0 a1 a2 a3 a4 a5 a6 a7 a8 a9 a10 s p g j n hn (hle.ss n hn) hlp).bind fun r hr=>.cond (fun _=>.ret rfl) fun hb=>.ret ⟨rfl,hr ?_⟩;cases h:r.1 with|true=>rfl|false=>rw[h]at hb;cases hb
 ·unfold RX RE;simp only[aj,Nat.lt_irrefl,decide_false,cond_false];exact .ret hF
 ·cases q with
  |inl y=>exact .ret fun h=>by have hq:y.1=false:=hq;rw[hq]at h;cases h
  |inr q=>
   cases q with
   |inr e=>exact e.elim
   |inl y=>
    have ac4:∀n,n<s.length->UG (s.getD n Qx).2.2.1=true:=hq;refine(ZU p.length (by omega) (fun n=>(0<=(p.getD n zW).2.2.1/\(p.getD n zW).2.2.1<s.length)/\((p.getD n zW).2.2.2.1=4->1<=(p.getD n zW).2.2.2.2.2.2.2.2.2.2.2.1/\(p.getD n zW).2.2.2.2.2.2.2.2.2.2.2.1<=40)) (Q:=fun y=>match y with| .inl y=>y.1=false| .inr _=>∀n,n<p.length->(0<=(p.getD n zW).2.2.1/\(p.getD n zW).2.2.1<s.length)/\((p.getD n zW).2.2.2.1=4->1<=(p.getD n zW).2.2.2.2.2.2.2.2.2.2.2.1/\(p.getD n zW).2.2.2.2.2.2.2.2.2.2.2.1<=40)) (fun n hn=>?_) (fun hF=>?_)).bind fun q hq=>?_
    ·unfold RY RF;simp only[aj,hn,decide_true,cond_true,au (n:=n) (by omega)];refine(aa2 a0 a1 a2 a3 a4 a5 a6 a7 a8 a9 a10 s p g j n hn hls).bind fun r hr=>.cond (fun _=>.ret rfl) fun hb=>.ret ⟨rfl,hr ?_⟩;cases h:r.1 with|true=>rfl|false=>rw[h]at hb;cases hb
    ·unfold RY RF;simp only[aj,Nat.lt_irrefl,decide_false,cond_false];exact .ret hF
    ·cases q with
     |inl y=>exact .ret fun h=>by have hq:y.1=false:=hq;rw[hq]at h;cases h
     |inr q=>
      cases q with
      |inr e=>exact e.elim
      |inl y=>
       refine(abn a0 a1 a2 a3 a4 a5 a6 a7 a8 a9 a10 s p g j hle ac4).bind fun r _=>.cond (fun _=>?_) fun _=>.ret no;have i5:=NS.1 (tr f5);have i6:¬(ai p>(12:Int)):=of_decide_eq_false f6;refine(acw a0 a1 a2 a3 a4 a5 a6 a7 a8 a9 a10 s p g j hlp (fun n hn=>(hq n hn).1)).bind fun r _=>.ret fun _=>⟨tr f1,NS.1 (tr f2),NS.1 (tr f3),NS.1 (tr f4),?_,?_,tr f7,ac4,fun n hn=>(hq n hn).1,fun n hn=>(hq n hn).2⟩
       ·unfold ai at i5;omega
       ·unfold ai at i6;omega
theorem aah(hle:aax s p g j):Sm Any (PE a0 a1 a2 a3 a4 a5 a6 a7 a8 a9 a10 s p g j) (K1 a0 a1 a2 a3 a4 a5 a6 a7 a8 a9 a10 s p g j):=(aaZ a0 a1 a2 a3 a4 a5 a6 a7 a8 a9 a10 s p g j hle).mono fun _ _=>trivial
end
end Go.Fn
set_option linter.unusedVariables false
namespace Go.Fn
open Go.R
noncomputable def Wc(a:U4×Rn)(b:TR):YbE:=cond (af .lss b.2.1 a.2.1) (cond (ah a.1 b.2.1) (some (.inl (aa .add .i64 b.1 (ae zW a.1 b.2.1).2.2.2.2.2.2.2.2.2.2.2.2,aa .add .i64 b.2.1 1,()))) none) (some (.inr (.inl (b.1,()))))
noncomputable def TY k x:=iter (Wc k) big x
noncomputable def UJ(a b c d e f g h i j k:Int)(l:TA)(m:U4)(n:Uq)(o:Oo):YR:=(K1 a b c d e f g h i j k l m n o).bind fun p=>cond (Bool.not p.1) (some (0,())) ((TY (m,ai m,()) (0,0,())).bind fun q=>Sum.elim (fun r=>some (r.1,())) (fun r=>Empty.elim r) q)
end Go.Fn
set_option linter.unusedVariables false
namespace Go.Fn
open Go.R
noncomputable def NQ:YbY:=(([]:Rr),([]:Rr))
noncomputable def KW:Tl:=([]:Tl)
noncomputable def Tz(a b:Rr):Option YcX:=cond (aE (List.append (α:=XK) ([]:Rr) a)) (cond (aE (List.append (α:=XK) ([]:Rr) b)) (some (List.append (α:=XK) ([]:Rr) a,List.append (α:=XK) ([]:Rr) b,())) none) none
noncomputable def PU(a:Int)(b:LZ)(c:Rx):Option YbC:=cond (aE (List.append (α:=Int) ([]:LZ) b)) (cond (aE (List.append (α:=SU) ([]:Rx) c)) (some (a,List.append (α:=Int) ([]:LZ) b,List.append (α:=SU) ([]:Rx) c,())) none) none
noncomputable def Pf(a:YbZ)(b:YcG):YcW:=letI c:=ae Ji a.1 b.2.1;cond (af .lss b.2.1 (ai a.1)) (cond (ah a.1 b.2.1) ((PU c.1 c.2.1 c.2.2).bind fun d=>letI e:=(d.1,d.2.1,d.2.2.1);cond (aE (List.append (α:=XJ) b.1 (List.append (α:=XJ) ([]:Tl) [e]))) (some (.inl (List.append (α:=XJ) b.1 (List.append (α:=XJ) ([]:Tl) [e]),aa .add .i64 b.2.1 1,()))) none) none) (some (.inr (.inl (b.1,()))))
noncomputable def Pg k x:=iter (Pf k) big x
noncomputable def QO(a:Tl):Option YbZ:=(Pg (a,()) (([]:Tl),0,())).bind fun b=>Sum.elim (fun c=>some (c.1,())) (fun c=>Empty.elim c) b
noncomputable def PO(a:Z2×YbU×Unit)(b:YaY):YbO:=letI c:=b.2.2.2;letI d:=c.2.2;letI e:=d.2.2;letI f:=e.2.2;letI g:=f.2.2;letI h:=g.2.2;letI i:=h.2.2;letI j:=i.2.2;letI k:=j.2.2;letI l:=k.2.2;letI m:=l.2.2;letI n:=m.2.2;letI o:=n.2.2.2;letI p:=o.2.2.1;cond (af .lss p (ai a.1)) (cond (ah a.1 p) ((Tz (ae NQ a.1 p).1 (ae NQ a.1 p).2).bind fun q=>cond (ah a.2.1 p) ((QO (ae KW a.2.1 p)).bind fun r=>letI s:=(q.1,q.2.1,r.1,(0:Int),(0:Int),false,false,false,(0:Int),(0:Int),([]:Oo));cond (aE (List.append (α:=YaA) n.2.1 (List.append (α:=YaA) ([]:TA) [s]))) (lets (List.append (α:=YaA) n.2.1 (List.append (α:=YaA) ([]:TA) [s])) fun t=>some (.inl (b.1,b.2.1,b.2.2.1,c.1,c.2.1,d.1,d.2.1,e.1,e.2.1,f.1,f.2.1,g.1,g.2.1,h.1,h.2.1,i.1,i.2.1,j.1,j.2.1,k.1,k.2.1,l.1,l.2.1,m.1,m.2.1,n.1,t,n.2.2.1,o.1,o.2.1,aa .add .i64 p 1,()))) none) none) none) (some (.inr (.inl (b.1,b.2.1,b.2.2.1,c.1,c.2.1,d.1,d.2.1,e.1,e.2.1,f.1,f.2.1,g.1,g.2.1,h.1,h.2.1,i.1,i.2.1,j.1,j.2.1,k.1,k.2.1,l.1,l.2.1,m.1,m.2.1,n.1,n.2.1,n.2.2.1,o.1,o.2.1,()))))
noncomputable def PR k x:=iter (PO k) big x
noncomputable def Q7(a b c d e f g h i j:Int)(k:Z2)(l:YbU):YbS:=letI m:=(0:Int);letI n:=some (m,m,m,m,m,m,m,m,m,m,m,([]:TA),([]:U4),([]:Uq),([]:Oo),false,());cond (af .neq (ai k) (ai l)) n (cond (af .gtr (ai k) 3) n ((PR (k,l,()) (m,m,m,m,m,m,m,m,m,m,m,([]:TA),([]:U4),([]:Uq),([]:Oo),a,b,c,d,e,f,g,h,i,j,m,([]:TA),([]:U4),([]:Uq),([]:Oo),m,())).bind fun o=>Sum.elim (fun p=>letI q:=p.2.2.2.2.2.2.2.2.2.2.2.2.2.2.2;letI r:=q.2.2;letI s:=r.2.2;letI t:=s.2.2.2;letI u:=t.2.2;letI v:=u.2.2;(PE q.1 q.2.1 r.1 r.2.1 s.1 s.2.1 s.2.2.1 t.1 t.2.1 u.1 u.2.1 v.1 v.2.1 v.2.2.1 v.2.2.2.1).bind fun w=>cond (Bool.not w.1) n (some (q.1,q.2.1,r.1,r.2.1,s.1,s.2.1,s.2.2.1,t.1,t.2.1,u.1,u.2.1,v.1,v.2.1,v.2.2.1,v.2.2.2.1,true,()))) (fun p=>Empty.elim p) o))
noncomputable def KU(a:Rr):Option YcL:=cond (af .gtr (ai a) 0) (cond (aE (List.append (α:=XK) ([]:Rr) a)) (some (List.append (α:=XK) ([]:Rr) a,())) none) (both (some (([]:Rr),())) (cond (aE (List.append (α:=XK) ([]:Rr) a)) (some (List.append (α:=XK) ([]:Rr) a,())) none))
noncomputable def SD(a b:Rr):Option YcX:=(KU a).bind fun c=>(KU b).bind fun d=>some (c.1,d.1,())
noncomputable def L0(a:Rx):Option (Rx×Unit):=cond (af .gtr (ai a) 0) (cond (aE (List.append (α:=SU) ([]:Rx) a)) (some (List.append (α:=SU) ([]:Rx) a,())) none) (both (some (([]:Rx),())) (cond (aE (List.append (α:=SU) ([]:Rx) a)) (some (List.append (α:=SU) ([]:Rx) a,())) none))
noncomputable def Q4(a:Int)(b:LZ)(c:Rx):Option YbC:=(N4 b).bind fun d=>(L0 c).bind fun e=>some (a,d.1,e.1,())
noncomputable def QB(a b:YcG):YcW:=letI c:=ae Ji a.1 b.2.1;cond (af .lss b.2.1 a.2.1) (cond (ah a.1 b.2.1) ((Q4 c.1 c.2.1 c.2.2).bind fun d=>letI e:=(d.1,d.2.1,d.2.2.1);cond (aE (List.append (α:=XJ) b.1 (List.append (α:=XJ) ([]:Tl) [e]))) (some (.inl (List.append (α:=XJ) b.1 (List.append (α:=XJ) ([]:Tl) [e]),aa .add .i64 b.2.1 1,()))) none) none) (some (.inr (.inl (b.1,()))))
noncomputable def QC k x:=iter (QB k) big x
noncomputable def SC(a:Tl):Option YbZ:=(QC (a,ai a,()) (([]:Tl),0,())).bind fun b=>Sum.elim (fun c=>some (c.1,())) (fun c=>Empty.elim c) b
noncomputable def PJ(a:YbU×Z2×Rn)(b:YaY):YbO:=letI c:=b.2.2.2;letI d:=c.2.2;letI e:=d.2.2;letI f:=e.2.2;letI g:=f.2.2;letI h:=g.2.2;letI i:=h.2.2;letI j:=i.2.2;letI k:=j.2.2;letI l:=k.2.2;letI m:=l.2.2;letI n:=m.2.2;letI o:=n.2.2.2;letI p:=o.2.2.1;letI q:=ae NQ a.2.1 p;cond (af .lss p a.2.2.1) (cond (ah a.2.1 p) ((SD q.1 q.2).bind fun r=>cond (ah a.1 p) ((SC (ae KW a.1 p)).bind fun s=>letI t:=(r.1,r.2.1,s.1,(0:Int),(0:Int),false,false,false,(0:Int),(0:Int),([]:Oo));cond (aE (List.append (α:=YaA) n.2.1 (List.append (α:=YaA) ([]:TA) [t]))) (lets (List.append (α:=YaA) n.2.1 (List.append (α:=YaA) ([]:TA) [t])) fun u=>some (.inl (b.1,b.2.1,b.2.2.1,c.1,c.2.1,d.1,d.2.1,e.1,e.2.1,f.1,f.2.1,g.1,g.2.1,h.1,h.2.1,i.1,i.2.1,j.1,j.2.1,k.1,k.2.1,l.1,l.2.1,m.1,m.2.1,n.1,u,n.2.2.1,o.1,o.2.1,aa .add .i64 p 1,()))) none) none) none) (some (.inr (.inl (b.1,b.2.1,b.2.2.1,c.1,c.2.1,d.1,d.2.1,e.1,e.2.1,f.1,f.2.1,g.1,g.2.1,h.1,h.2.1,i.1,i.2.1,j.1,j.2.1,k.1,k.2.1,l.1,l.2.1,m.1,m.2.1,n.1,n.2.1,n.2.2.1,o.1,o.2.1,()))))
noncomputable def PK k x:=iter (PJ k) big x
noncomputable def Q3(a b c d e f g h i j:Int)(k:Z2)(l:YbU):YbS:=letI m:=(0:Int);letI n:=some (m,m,m,m,m,m,m,m,m,m,m,([]:TA),([]:U4),([]:Uq),([]:Oo),false,());cond (af .neq (ai l) (ai k)) n ((PK (l,k,ai k,()) (m,m,m,m,m,m,m,m,m,m,m,([]:TA),([]:U4),([]:Uq),([]:Oo),a,b,c,d,e,f,g,h,i,j,m,([]:TA),([]:U4),([]:Uq),([]:Oo),m,())).bind fun o=>Sum.elim (fun p=>letI q:=p.2.2.2.2.2.2.2.2.2.2.2.2.2.2.2;letI r:=q.2.2;letI s:=r.2.2;letI t:=s.2.2.2;letI u:=t.2.2;letI v:=u.2.2;(K1 q.1 q.2.1 r.1 r.2.1 s.1 s.2.1 s.2.2.1 t.1 t.2.1 u.1 u.2.1 v.1 v.2.1 v.2.2.1 v.2.2.2.1).bind fun w=>cond (Bool.not w.1) n (some (q.1,q.2.1,r.1,r.2.1,s.1,s.2.1,s.2.2.1,t.1,t.2.1,u.1,u.2.1,v.1,v.2.1,v.2.2.1,v.2.2.2.1,true,()))) (fun p=>Empty.elim p) o)
end Go.Fn
set_option linter.unusedVariables false
set_option linter.unusedSimpArgs false
namespace Go.Fn
open Go.R
noncomputable def k3(k:Int):Bool:=af .eql (aa .rem .i64 k 3) 0
theorem cT{β:Type}{b:Bool}{x y:β}(h:b=true):(bif b then x else y)=x:=by rw[h];rfl
theorem cF{β:Type}{b:Bool}{x y:β}(h:b=false):(bif b then x else y)=y:=by rw[h];rfl
theorem ac9{α β:Type}{a b:α}{f:α->β}(h:a=b):lets a f=f b:=by rw[aR,h]
theorem Pb{α β:Type}{x:Option α}{r:α}{f:α->Option β}(h:x=some r):x.bind f=f r:=by rw[h];rfl
theorem loX{α:Type}{L:List α}{n:Nat}(h:n<L.length):af .lss (n:Int) (ai L)=true:=by rw[aj];exact decide_eq_true h
theorem inX{α:Type}{L:List α}{n:Nat}(h:n<L.length):ah L (n:Int)=true:=by rw[ax];exact decide_eq_true h
end Go.Fn
set_option linter.unusedVariables false
set_option linter.unusedSimpArgs false
namespace Go.Fn
open Go.R
abbrev Wk:=List YQ×List YQ
end Go.Fn
set_option linter.unusedVariables false
set_option linter.unusedSimpArgs false
namespace Go.Fn
open Go.R
noncomputable def abk(w:Wk):Prop:=w.1.length<=1073741824/\w.2.length<=1073741824
noncomputable def ZB(l:List V6):Prop:=l.length<=1073741824/\∀m,m<l.length->ac0 1073741824 (l.getD m X5)
theorem Y3(l:List YQ)(hl:l.length<=1073741824):KU l=some (l,()):=by
 unfold KU;have h1:aE (List.append (α:=YQ) ([]:List YQ) l)=true:=KP hl;rw[h1];cases l with
 |nil=>exact iK _
 |cons x l=>rw[show af .gtr (ai (x::l)) (0:Int)=true from gt0 l.length];rfl
theorem aaM(l:List Bx)(hl:l.length<=1073741824):L0 l=some (l,()):=by
 unfold L0;have h1:aE (List.append (α:=Bx) ([]:List Bx) l)=true:=KP hl;rw[h1];cases l with
 |nil=>exact iK _
 |cons x l=>rw[show af .gtr (ai (x::l)) (0:Int)=true from gt0 l.length];rfl
theorem ZJ(o c:List YQ)(ho:o.length<=1073741824)(hc:c.length<=1073741824):SD o c=some (o,c,()):=by unfold SD;rw[Y3 o ho,Y3 c hc];rfl
theorem aac(o c:List YQ)(ho:o.length<=1073741824)(hc:c.length<=1073741824):Tz o c=some (o,c,()):=by unfold Tz;rw[show aE (List.append (α:=YQ) ([]:List YQ) o)=true from KP ho,show aE (List.append (α:=YQ) ([]:List YQ) c)=true from KP hc];rfl
theorem YS(h:Int)(f:List Int)(b:List Bx)(hf:f.length<=1073741824)(hb:b.length<=1073741824):Q4 h f b=some (h,f,b,()):=by unfold Q4;rw[abp f hf,aaM b hb];rfl
theorem VA(h:Int)(f:List Int)(b:List Bx)(hf:f.length<=1073741824)(hb:b.length<=1073741824):PU h f b=some (h,f,b,()):=by unfold PU;rw[show aE (List.append (α:=Int) ([]:List Int) f)=true from KP hf,show aE (List.append (α:=Bx) ([]:List Bx) b)=true from KP hb];rfl
theorem ZI(l:List V6)(h:ZB l):SC l=some (l,()):=by
 obtain⟨hl,hc⟩:=h;unfold SC;have:QC (l,ai l,()) ([],0,())=some (.inl (l,())):=by
  have:=aU (body:=QB (l,ai l,())) (fun n=>(l.take n,(n:Int),())) l.length (by omega) (.inl (l,())) (fun n hn=>?_) ?_
  ·unfold QC;simpa using this
  ·obtain⟨c1,c2⟩:=hc n hn;have hs:aE (List.append (α:=V6) (l.take n) (List.append (α:=V6) [] [((l.getD n X5).1,(l.getD n X5).2.1,(l.getD n X5).2.2)]))=true:=KP (by show(l.take n++([]++[_])).length<=_;rw[List.length_append,List.length_take];show _+1<=_;omega);unfold QB;simp only[aj,ax,hn,decide_true,cond_true,ak,au (n:=n) (show n<1099511627776 by omega)];rw[show Ji=X5 from rfl,YS _ _ _ c1 c2];simp only[Option.bind_some];rw[hs,P4 hn X5];rfl
  ·unfold QB;simp only[aj,Nat.lt_irrefl,decide_false,cond_false,List.take_length]
 rw[this];rfl
theorem YC(l:List V6)(h:ZB l):QO l=some (l,()):=by
 obtain⟨hl,hc⟩:=h;unfold QO;have:Pg (l,()) ([],0,())=some (.inl (l,())):=by
  have:=aU (body:=Pf (l,())) (fun n=>(l.take n,(n:Int),())) l.length (by omega) (.inl (l,())) (fun n hn=>?_) ?_
  ·unfold Pg;simpa using this
  ·obtain⟨c1,c2⟩:=hc n hn;have hs:aE (List.append (α:=V6) (l.take n) (List.append (α:=V6) [] [((l.getD n X5).1,(l.getD n X5).2.1,(l.getD n X5).2.2)]))=true:=KP (by show(l.take n++([]++[_])).length<=_;rw[List.length_append,List.length_take];show _+1<=_;omega);unfold Pf;simp only[aj,ax,hn,decide_true,cond_true,ak,au (n:=n) (show n<1099511627776 by omega)];rw[show Ji=X5 from rfl,VA _ _ _ c1 c2];simp only[Option.bind_some];rw[hs,P4 hn X5];rfl
  ·unfold Pf;simp only[aj,Nat.lt_irrefl,decide_false,cond_false,List.take_length]
 rw[this];rfl
end Go.Fn
set_option linter.unusedVariables false
set_option linter.unusedSimpArgs false
namespace Go.Fn
open Go.R
theorem aa0(a:Int):∃b,NR a=some (b,()):=by unfold NR;rw[LN];exact⟨_,rfl⟩
section
variable (a0 a1 a2 a3 a4 a5 a6 a7 a8 a9 a10:Int)
theorem aaf(s:List Site)(p:List Prc)(g:List Grt)(j:List Ev)(h:3<s.length):K1 a0 a1 a2 a3 a4 a5 a6 a7 a8 a9 a10 s p g j=some (false,()):=by
 have hF:PL (ai s) 1 3=false:=by unfold PL ai;rw[decide_eq_false (show ¬((s.length:Int)<=3)by omega)];cases decide ((s.length:Int)>=1) <;> rfl
 obtain⟨b,hb⟩:=aa0 a9;unfold K1;refine(Pb (Xp a0 a1 a2 a3 a4 a5 a6 a7)).trans ?_;cases WL a0 a1 a2 a3 a4 a5 a6 a7 with
 |false=>rfl
 |true=>
 refine(cF rfl).trans ?_;refine(Pb (LN a8 0 1000)).trans ?_;cases PL a8 0 1000 with
 |false=>rfl
 |true=>
 refine(cF rfl).trans ?_;refine(Pb hb).trans ?_;cases b with
 |false=>rfl
 |true=>
 refine(cF rfl).trans ?_;refine(Pb (X4 a10)).trans ?_;cases PL a10 0 20000 with
 |false=>rfl
 |true=>
 refine(cF rfl).trans ?_;refine(Pb (LN (ai s) 1 3)).trans ?_;rw[hF];rfl
end
noncomputable def Wt(w:Wk)(b:List V6):Site:=(w.1,w.2,b,0,0,false,false,false,0,0,[])
noncomputable def Jx(W:List Wk)(B:List (List V6)):List Site:=List.zipWith Wt W B
theorem Od{W:List Wk}{B:List (List V6)}(h:W.length=B.length):(Jx W B).length=W.length:=by unfold Jx;rw[List.length_zipWith,h,Nat.min_self]
theorem QK{W:List Wk}{B:List (List V6)}(h:W.length=B.length){n:Nat}(hn:n<W.length):(Jx W B).getD n Qx=Wt (W.getD n NQ) (B.getD n KW):=by
 have h1:n<(Jx W B).length:=by rw[Od h];exact hn
 rw[List.getD_eq_getElem?_getD,List.getElem?_eq_getElem h1,List.getD_eq_getElem?_getD,List.getElem?_eq_getElem hn,List.getD_eq_getElem?_getD,List.getElem?_eq_getElem (by omega:n<B.length)];unfold Jx;simp only[Option.getD_some];exact List.getElem_zipWith
theorem ZN{W:List Wk}{B:List (List V6)}(h:W.length=B.length)(hl:W.length<=1048576)(hW:∀n,n<W.length->abk (W.getD n NQ))(hB:∀n,n<B.length->ZB (B.getD n KW)):aax (Jx W B) [] [] [] where
 ls:=by rw[Od h];exact hl
 ss:=fun n hn=>by rw[Od h]at hn;rw[QK h hn];exact⟨(hW n hn).1,(hW n hn).2,(hB n (by omega)).1,(hB n (by omega)).2,Nat.zero_le _⟩
 lp:=Nat.zero_le _
 lg:=Nat.zero_le _
 lj:=Nat.zero_le _
abbrev ad1:=Int×Int×Int×Int×Int×Int×Int×Int×Int×Int×Int×List Site×List Prc×List Grt×List Ev×Bool×Unit
noncomputable def ZO:ad1:=(0,0,0,0,0,0,0,0,0,0,0,[],[],[],[],false,())
section
variable (a0 a1 a2 a3 a4 a5 a6 a7 a8 a9:Int) (W:List Wk) (B:List (List V6))
theorem abD(h:W.length=B.length)(hl:W.length<=1048576)(hW:∀n,n<W.length->abk (W.getD n NQ))(hB:∀n,n<B.length->ZB (B.getD n KW)):
  PK (B,W,ai W,()) (0,0,0,0,0,0,0,0,0,0,0,[],[],[],[],a0,a1,a2,a3,a4,a5,a6,a7,a8,a9,0,[],[],[],[],0,())=some (.inl (0,0,0,0,0,0,0,0,0,0,0,[],[],[],[],a0,a1,a2,a3,a4,a5,a6,a7,a8,a9,0,Jx W B,[],[],[],())):=by
 have hS:=Od h;have:=aU (body:=PJ (B,W,ai W,())) (fun n=>(0,0,0,0,0,0,0,0,0,0,0,[],[],[],[],a0,a1,a2,a3,a4,a5,a6,a7,a8,a9,0,(Jx W B).take n,[],[],[],(n:Int),())) W.length (by omega) (.inl (0,0,0,0,0,0,0,0,0,0,0,[],[],[],[],a0,a1,a2,a3,a4,a5,a6,a7,a8,a9,0,Jx W B,[],[],[],())) (fun n hn=>?_) ?_
 ·unfold PK;exact this
 ·have hn':n<(Jx W B).length:=by omega
  have hnB:n<B.length:=by omega
  have hs:aE (List.append (α:=Site) ((Jx W B).take n) (List.append (α:=Site) [] [Wt (W.getD n NQ) (B.getD n KW)]))=true:=KP (by show((Jx W B).take n++([]++[_])).length<=_;rw[List.length_append,List.length_take];show _+1<=_;omega);unfold PJ;dsimp only;refine(cT (loX hn)).trans ?_;refine(cT (inX hn)).trans ?_;rw[ak,ak];refine(Pb (ZJ _ _ (hW n hn).1 (hW n hn).2)).trans ?_;refine(cT (inX hnB)).trans ?_;refine(Pb (ZI _ (hB n hnB))).trans ?_;refine(cT hs).trans ?_;refine(ac9 (b:=(Jx W B).take (n+1)) (by rw[P4 hn' Qx,QK h hn];rfl)).trans ?_;simp only[au (n:=n) (show n<1099511627776 by omega)]
 ·unfold PJ;simp only[aj,Nat.lt_irrefl,decide_false,cond_false,<-hS,List.take_length]
theorem abS(h:W.length=B.length)(hl:W.length<=1048576)(hW:∀n,n<W.length->abk (W.getD n NQ))(hB:∀n,n<B.length->ZB (B.getD n KW)):
  PR (W,B,()) (0,0,0,0,0,0,0,0,0,0,0,[],[],[],[],a0,a1,a2,a3,a4,a5,a6,a7,a8,a9,0,[],[],[],[],0,())=some (.inl (0,0,0,0,0,0,0,0,0,0,0,[],[],[],[],a0,a1,a2,a3,a4,a5,a6,a7,a8,a9,0,Jx W B,[],[],[],())):=by
 have hS:=Od h;have:=aU (body:=PO (W,B,())) (fun n=>(0,0,0,0,0,0,0,0,0,0,0,[],[],[],[],a0,a1,a2,a3,a4,a5,a6,a7,a8,a9,0,(Jx W B).take n,[],[],[],(n:Int),())) W.length (by omega) (.inl (0,0,0,0,0,0,0,0,0,0,0,[],[],[],[],a0,a1,a2,a3,a4,a5,a6,a7,a8,a9,0,Jx W B,[],[],[],())) (fun n hn=>?_) ?_
 ·unfold PR;exact this
 ·have hn':n<(Jx W B).length:=by omega
  have hnB:n<B.length:=by omega
  have hs:aE (List.append (α:=Site) ((Jx W B).take n) (List.append (α:=Site) [] [Wt (W.getD n NQ) (B.getD n KW)]))=true:=KP (by show((Jx W B).take n++([]++[_])).length<=_;rw[List.length_append,List.length_take];show _+1<=_;omega);unfold PO;dsimp only;refine(cT (loX hn)).trans ?_;refine(cT (inX hn)).trans ?_;rw[ak,ak];refine(Pb (aac _ _ (hW n hn).1 (hW n hn).2)).trans ?_;refine(cT (inX hnB)).trans ?_;refine(Pb (YC _ (hB n hnB))).trans ?_;refine(cT hs).trans ?_;refine(ac9 (b:=(Jx W B).take (n+1)) (by rw[P4 hn' Qx,QK h hn];rfl)).trans ?_;simp only[au (n:=n) (show n<1099511627776 by omega)]
 ·unfold PO;simp only[aj,Nat.lt_irrefl,decide_false,cond_false,<-hS,List.take_length]
end
end Go.Fn
set_option linter.unusedVariables false
namespace Go.Fn
open Go.R
noncomputable def RJ(a:TA×Rn)(b:W1):YdA:=cond (af .lss b.2.1 a.2.1) (cond (ah a.1 b.2.1) ((PI b.1 (ae b8 a.1 b.2.1).2.2.2.2.2.2.2.2.2.2).bind fun c=>cond (Bool.not c.2.1) (some (.inr (.inl (([]:Oo),false,())))) (some (.inl (c.1,aa .add .i64 b.2.1 1,())))) none) (some (.inr (.inr (.inl (b.1,())))))
noncomputable def RK k x:=iter (RJ k) big x
noncomputable def UP(a b c d e f g h i j k:Int)(l:TA)(m:U4)(n:Uq)(o:Oo):Option YcQ:=(KN o).bind fun p=>(RK (l,ai l,()) (p.1,0,())).bind fun q=>Sum.elim (fun r=>some (r.1,r.2.1,())) (fun r=>Sum.elim (fun s=>some (s.1,true,())) (fun s=>Empty.elim s) r) q
noncomputable def Sa(a b c d e f g h i j k:Int)(l:TA)(m:U4)(n:Uq)(o:Oo):Option YcQ:=(K1 a b c d e f g h i j k l m n o).bind fun p=>cond (Bool.not p.1) (some (([]:Oo),false,())) ((UP a b c d e f g h i j k l m n o).bind fun q=>some (q.1,q.2.1,()))
end Go.Fn
set_option linter.unusedVariables false
namespace Go.Fn
open Go.R
noncomputable def Y6(a b c d e f g h i j k:Int)(l:TA)(m:U4)(n:Uq)(o:Oo)(p q r s t u v w x y z A B C D E F G H I:Int):QV:=(OK a b c d e f g h i j k l m n o p q r s t u v w x y z A B).bind fun J=>letI K:=(0:Int);letI L:=some (false,());cond J.1 (lets (Bool.and (af .eql C K) (Bool.and (af .eql D K) (Bool.and (af .eql E K) (Bool.and (af .eql F K) (Bool.and (af .eql G K) (Bool.and (af .eql H K) (Bool.and (af .eql I K) true))))))) fun M=>some (M,())) (cond (af .neq D r) L (cond (af .neq E t) L (cond (af .neq F u) L (cond (af .neq I K) L (cond (af .eql s 4) (cond (af .eql C 2) (cond (af .eql G A) (cond (ah l r) ((YB (ae b8 l r).1 (ae b8 l r).2.1 a b c d e f g h p t H u).bind fun M=>some (af .eql B M.1,())) none) L) L) (cond (af .eql s 5) (some (af .eql C 3,())) (some (af .eql C 1,()))))))))
noncomputable def Vo(a:YaM)(b:Oo×V8):Option (Oo×V8⊕Z1⊕YcD):=letI c:=b.2.2.1;letI d:=a.2.2.2.2.2.2.2.2.2.2.2.2;cond (af .lss c d.2.2.2.1) (cond (ah b.2.1 c) (cond (af .gtr (ae zI b.2.1 c) (ai d.1)) (some (.inr (.inl (false,())))) (some (.inl (b.1,b.2.1,aa .add .i64 c 1,())))) none) (some (.inr (.inr (.inl (b.1,())))))
noncomputable def Sg k x:=iter (Vo k) big x
noncomputable def Vp(a:YbT)(b:W1):Option (W1⊕YcJ):=letI c:=a.2.2.2.2.2;letI d:=aa .add .i64 b.2.1 1;letI e:=c.2.2.2.2;letI f:=e.2.2.2.2;cond (af .lss b.2.1 f.2.2.2.1) (cond (ah f.2.2.1 b.2.1) ((Yb b.1 d).bind fun g=>letI h:=g.2.2.2;letI i:=ae zW f.2.2.1 b.2.1;letI j:=i.2.2.2;letI k:=j.2.2.2;letI l:=k.2.2.2;(Y6 a.1 a.2.1 a.2.2.1 a.2.2.2.1 a.2.2.2.2.1 c.1 c.2.1 c.2.2.1 c.2.2.2.1 e.1 e.2.1 e.2.2.1 e.2.2.2.1 f.1 f.2.1 i.1 i.2.1 i.2.2.1 j.1 j.2.1 j.2.2.1 k.1 k.2.1 k.2.2.1 l.1 l.2.1 l.2.2.1 l.2.2.2 g.1 g.2.1 g.2.2.1 h.1 h.2.1 h.2.2.1 h.2.2.2.1).bind fun m=>cond (Bool.not m.1) (some (.inr (.inl (false,())))) (some (.inl (b.1,d,())))) none) (some (.inr (.inr (.inl ()))))
noncomputable def Si k x:=iter (Vp k) big x
noncomputable def SA(a b c d e f g h i j k:Int)(l:TA)(m:U4)(n:Uq)(o:Oo):QV:=(Sa a b c d e f g h i j k l m n o).bind fun p=>cond (Bool.not p.2.1) (some (false,())) ((Pr p.1).bind fun q=>(Sg (a,b,c,d,e,f,g,h,i,j,k,l,m,n,o,ai q.1,()) (p.1,q.1,0,())).bind fun r=>Sum.elim (fun s=>some (s.1,())) (fun s=>Sum.elim (fun t=>(Si (a,b,c,d,e,f,g,h,i,j,k,l,m,n,o,m,ai m,()) (t.1,0,())).bind fun u=>Sum.elim (fun v=>some (v.1,())) (fun v=>Sum.elim (fun _=>some (true,())) (fun w=>Empty.elim w) v) u) (fun t=>Empty.elim t) s) r)
end Go.Fn
namespace Go.R
open Go.Shelf Go.Proofs
def rZ(n:Int):Bool:=decide (-9223372036854775808<=n)&&decide (n<=9223372036854775807)
end Go.R
set_option linter.unusedVariables false
namespace Go.Fn
open Go.R
noncomputable def Wz(a:Int):YR:=cond (af .lss a 10) (some (aq .u8 (aa .add .i64 48 a),())) (some (aq .u8 (aa .sub .i64 (aa .add .i64 97 a) 10),()))
noncomputable def US(a:Z1)(b:Int×YcA):Option (Int×YcA⊕YcA⊕Empty):=letI c:=b.2.1;letI d:=az 10;letI e:=aa .rem .i64 b.1 10;letI f:=aa .quo .i64 b.1 10;cond (af .neq b.1 0) (cond d none (cond (af .lss e 0) ((Wz (DA .i64 e)).bind fun g=>cond (nL (lU (List.append (α:=Int) ([]:LZ) [g.1])) c) (cond d none (some (.inl (f,ByteArray.append (lU (List.append (α:=Int) ([]:LZ) [g.1])) c,())))) none) ((Wz e).bind fun g=>cond (nL (lU (List.append (α:=Int) ([]:LZ) [g.1])) c) (cond d none (some (.inl (f,ByteArray.append (lU (List.append (α:=Int) ([]:LZ) [g.1])) c,())))) none))) (some (.inr (.inl (c,()))))
noncomputable def UT k x:=iter (US k) big x
noncomputable def Ww(a:Int):Option YcA:=letI b:=af .lss a 0;cond (af .eql a 0) (some (ByteArray.mk #[48],())) ((UT (b,()) (a,ByteArray.mk #[],())).bind fun c=>Sum.elim (fun d=>cond b (cond (nL (ByteArray.mk #[45]) d.1) (some (ByteArray.append (ByteArray.mk #[45]) d.1,())) none) (some (d.1,()))) (fun d=>Empty.elim d) c)
noncomputable def strconv_Itoa(a:Int):Option YcA:=cond (rZ a) (some (ByteArray.mk (Lib.itoa a).toArray,())) none
noncomputable def Wd(a:Int):Option YcA:=(strconv_Itoa a).bind fun b=>some (b.1,())
end Go.Fn
set_option linter.unusedVariables false
set_option linter.unusedSimpArgs false
namespace Go.Fn
open Go.R
noncomputable def Wa(ok:Nat->Bool):Nat->Nat->Option Nat
 |_,0=>none
 |i,k+1=>bif ok i then Wa ok (i+1) k else some i
theorem X7{ok:Nat->Bool}:∀(k i n:Nat),Wa ok i k=some n->i<=n/\n<i+k/\ok n=false
 |0,_,_,h=>by cases h
 |k+1,i,n,h=>by
  unfold Wa at h;cases hi:ok i with
  |true=>rw[hi]at h;obtain⟨h1,h2,h3⟩:=X7 k (i+1) n h;exact⟨by omega,by omega,h3⟩
  |false=>
   rw[hi]at h;injection h with h
   subst h;exact⟨Nat.le_refl _,by omega,hi⟩
theorem aae{X Y:Type}{body:X->Option (X⊕Y)}(st:Nat->X)(len:Nat)(hlen:len<1099511627776)(ok:Nat->Bool)(yes:Y)(no:Nat->Y)(hstep:∀n,n<len->body (st n)=some (bif ok n then .inl (st (n+1))else .inr (no n)))(hend:body (st len)=some (.inr yes)):
  iter body big (st 0)=some (match Wa ok 0 len with|some n=>no n|none=>yes):=by
 have key:∀(k n:Nat),n+k=len->iter body (k+1) (st n)=some (match Wa ok n k with|some n=>no n|none=>yes):=by
  intro k;induction k with
  |zero=>
   intro n hn;have:n=len:=by omega
   subst this;exact av hend
  |succ k ih=>
   intro n hn;have h:=hstep n (by omega);unfold Wa;cases hk:ok n with
   |true=>rw[hk]at h;rw[aF h];exact ih (n+1) (by omega)
   |false=>rw[hk]at h;exact av h
 have h:=key len 0 (Nat.zero_add _);exact bh h (by have:len<big:=aN hlen;omega)
noncomputable def noP(l:List Bx)(p:Int)(n:Nat):Bool:=Bool.not (af .eql (l.getD n LY).2.2.1 p)
noncomputable def abL(l:List Bx)(p:Int):Option Nat:=Wa (noP l p) 0 l.length
noncomputable def afC:Option Nat->Int
 |some n=>(n:Int)
 |none=>-1
theorem YK(h:Int)(f:List Int)(l:List Bx){p:Int}(hl:l.length<=1073741824)(hp:1<=p):OW h f l p=some (afC (abL l p),()):=by
 unfold OW;have e:af .gtr p 0=true:=by simp only[af,gt_iff_lt,decide_eq_true_eq];omega
 have:=aae (body:=Oy (p,h,f,l,())) (fun n=>((n:Int),())) l.length (by omega) (noP l p) (Sum.inr (Sum.inl ())) (fun n=>Sum.inl ((n:Int),())) (fun n hn=>by
  unfold Oy noP;simp only[aj,ax,hn,decide_true,cond_true,ak,au (n:=n) (by omega),e];cases af .eql (l.getD n LY).2.2.1 p <;> rfl) (by
  unfold Oy;simp only[aj,Nat.lt_irrefl,decide_false,cond_false])
 have h1:R5 (p,h,f,l,()) ((0:Int),())=_:=this;rw[h1];unfold abL;cases Wa (noP l p) 0 l.length <;> rfl
theorem acG{l:List Bx}{p:Int}{n:Nat}(h:abL l p=some n):n<l.length:=by have:=(X7 _ _ _ h).2.1;omega
theorem m1:Ww (-1)=some (ByteArray.mk #[45,49],()):=by
 unfold Ww;have h:iter (US (true,())) 2 (-1,ByteArray.mk #[],())=some (.inl (ByteArray.mk #[49],())):=by rfl
 have hl:UT (true,()) (-1,ByteArray.mk #[],())=_:=bh h (Nat.le_of_lt (aN (by omega)));rw[show af .eql (-1:Int) 0=false from rfl,show af .lss (-1:Int) 0=true from rfl,hl];rfl
theorem m2:Wd (-1)=some (ByteArray.mk #[45,49],()):=by
 unfold Wd strconv_Itoa;have:Lib.itoa (-1)=[45,49]:=by have h:=Lib.itoa_neg 1 (Nat.le_refl _);rw[Lib.decDigits_one (by decide)]at h;exact h
 rw[this];rfl
end Go.Fn

