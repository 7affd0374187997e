import Derived.Test.YtajokmncfidfjaaFnFatesQB
/- Plain functions that stand for Go functions, and what they answer. Conditions: none. -/
set_option autoImplicit false
set_option linter.unusedVariables false
set_option linter.unusedSimpArgs false
set_option linter.unusedSimpArgs false
set_option linter.unusedVariables false
namespace Go.Fn
open Go.R Go.Sort
noncomputable def NK(x y:Int):Bool:=decide (x<y)
theorem IX(x y:Int):zc x y=some (NK x y,()):=by unfold zc LD NK;simp only[O6,Option.bind_some,cond_false];rfl
theorem bg:KG=Ke (NK):=by
 funext;unfold KG Ke;try simp only[IX,Option.bind_some]
 try rfl
theorem br:JP=Mv (NK):=by
 funext;unfold JP Mv;try simp only[IX,Option.bind_some,bg]
 try rfl
theorem bu:KF=KO (NK):=by
 funext;unfold KF KO;try simp only[IX,Option.bind_some,bg,br]
 try rfl
theorem b7:JO=Mu (NK):=by
 funext;unfold JO Mu;try simp only[IX,Option.bind_some,bg,br,bu]
 try rfl
theorem gm:J5=My (NK):=by
 funext;unfold J5 My;try simp only[IX,Option.bind_some,bg,br,bu,b7]
 try rfl
theorem me:Le=Kh (NK):=by
 funext;unfold Le Kh;try simp only[IX,Option.bind_some,bg,br,bu,b7,gm]
 try rfl
theorem qe:Kk=N2 (NK):=by
 funext;unfold Kk N2;try simp only[IX,Option.bind_some,bg,br,bu,b7,gm,me]
 try rfl
theorem zS:J6=NP (NK):=by
 funext;unfold J6 NP;try simp only[IX,Option.bind_some,bg,br,bu,b7,gm,me,qe]
 try rfl
theorem rm:Lc=MD (NK):=by
 funext;unfold Lc MD;try simp only[IX,Option.bind_some,bg,br,bu,b7,gm,me,qe,zS]
 try rfl
theorem tW:Ki=N0 (NK):=by
 funext;unfold Ki N0;try simp only[IX,Option.bind_some,bg,br,bu,b7,gm,me,qe,zS,rm]
 try rfl
theorem vm:Ld=ME (NK):=by
 funext;unfold Ld ME;try simp only[IX,Option.bind_some,bg,br,bu,b7,gm,me,qe,zS,rm,tW]
 try rfl
theorem vw:Kj=N1 (NK):=by
 funext;unfold Kj N1;try simp only[IX,Option.bind_some,bg,br,bu,b7,gm,me,qe,zS,rm,tW,vm]
 try rfl
theorem IE:KQ=OB (NK):=by
 funext;unfold KQ OB;try simp only[IX,Option.bind_some,bg,br,bu,b7,gm,me,qe,zS,rm,tW,vm,vw]
 try rfl
theorem gb:KE=Kd (NK):=by
 funext;unfold KE Kd;try simp only[IX,Option.bind_some,bg,br,bu,b7,gm,me,qe,zS,rm,tW,vm,vw,IE]
 try rfl
theorem i6:JN=Mt (NK):=by
 funext;unfold JN Mt;try simp only[IX,Option.bind_some,bg,br,bu,b7,gm,me,qe,zS,rm,tW,vm,vw,IE,gb]
 try rfl
theorem qW:J4=Mx (NK):=by
 funext;unfold J4 Mx;try simp only[IX,Option.bind_some,bg,br,bu,b7,gm,me,qe,zS,rm,tW,vm,vw,IE,gb,i6]
 try rfl
theorem I8:JS=N4 (NK):=by
 funext;unfold JS N4;try simp only[IX,Option.bind_some,bg,br,bu,b7,gm,me,qe,zS,rm,tW,vm,vw,IE,gb,i6,qW]
 try rfl
theorem Jc:JR=OC (NK):=by
 funext;unfold JR OC;try simp only[IX,Option.bind_some,bg,br,bu,b7,gm,me,qe,zS,rm,tW,vm,vw,IE,gb,i6,qW,I8]
 try rfl
theorem rp:Ji=Lb (NK):=by
 funext;unfold Ji Lb;try simp only[IX,Option.bind_some,bg,br,bu,b7,gm,me,qe,zS,rm,tW,vm,vw,IE,gb,i6,qW,I8,Jc]
 try rfl
theorem ze:JJ=MC (NK):=by
 funext;unfold JJ MC;try simp only[IX,Option.bind_some,bg,br,bu,b7,gm,me,qe,zS,rm,tW,vm,vw,IE,gb,i6,qW,I8,Jc,rp]
 try rfl
theorem qB:KP=KX (NK):=by
 funext;unfold KP KX;try simp only[IX,Option.bind_some,bg,br,bu,b7,gm,me,qe,zS,rm,tW,vm,vw,IE,gb,i6,qW,I8,Jc,rp,ze]
 try rfl
theorem ve:JX=MI (NK):=by
 funext;unfold JX MI;try simp only[IX,Option.bind_some,bg,br,bu,b7,gm,me,qe,zS,rm,tW,vm,vw,IE,gb,i6,qW,I8,Jc,rp,ze,qB]
 try rfl
theorem zf:JE=Mj (NK):=by
 funext;unfold JE Mj;try simp only[IX,Option.bind_some,bg,br,bu,b7,gm,me,qe,zS,rm,tW,vm,vw,IE,gb,i6,qW,I8,Jc,rp,ze,qB,ve]
 try rfl
theorem b8:JU=Jm (NK):=by
 funext;unfold JU Jm;try simp only[IX,Option.bind_some,bg,br,bu,b7,gm,me,qe,zS,rm,tW,vm,vw,IE,gb,i6,qW,I8,Jc,rp,ze,qB,ve,zf]
 try rfl
theorem fe:Jq=K9 (NK):=by
 funext;unfold Jq K9;try simp only[IX,Option.bind_some,bg,br,bu,b7,gm,me,qe,zS,rm,tW,vm,vw,IE,gb,i6,qW,I8,Jc,rp,ze,qB,ve,zf,b8]
 try rfl
theorem fu:JV=JQ (NK):=by
 funext;unfold JV JQ;try simp only[IX,Option.bind_some,bg,br,bu,b7,gm,me,qe,zS,rm,tW,vm,vw,IE,gb,i6,qW,I8,Jc,rp,ze,qB,ve,zf,b8,fe]
 try rfl
theorem iL:Jr=La (NK):=by
 funext;unfold Jr La;try simp only[IX,Option.bind_some,bg,br,bu,b7,gm,me,qe,zS,rm,tW,vm,vw,IE,gb,i6,qW,I8,Jc,rp,ze,qB,ve,zf,b8,fe,fu]
 try rfl
theorem jr:JW=Jn (NK):=by
 funext;unfold JW Jn;try simp only[IX,Option.bind_some,bg,br,bu,b7,gm,me,qe,zS,rm,tW,vm,vw,IE,gb,i6,qW,I8,Jc,rp,ze,qB,ve,zf,b8,fe,fu,iL]
 try rfl
theorem lc:I4=Kn (NK):=by
 funext;unfold I4 Kn;try simp only[IX,Option.bind_some,bg,br,bu,b7,gm,me,qe,zS,rm,tW,vm,vw,IE,gb,i6,qW,I8,Jc,rp,ze,qB,ve,zf,b8,fe,fu,iL,jr]
 try rfl
theorem lj:JT=I0 (NK):=by
 funext;unfold JT I0;try simp only[IX,Option.bind_some,bg,br,bu,b7,gm,me,qe,zS,rm,tW,vm,vw,IE,gb,i6,qW,I8,Jc,rp,ze,qB,ve,zf,b8,fe,fu,iL,jr,lc]
 try rfl
theorem lm:Jp=K8 (NK):=by
 funext;unfold Jp K8;try simp only[IX,Option.bind_some,bg,br,bu,b7,gm,me,qe,zS,rm,tW,vm,vw,IE,gb,i6,qW,I8,Jc,rp,ze,qB,ve,zf,b8,fe,fu,iL,jr,lc,lj]
 try rfl
theorem za:IL=Jo (NK):=by
 funext;unfold IL Jo;try simp only[IX,Option.bind_some,bg,br,bu,b7,gm,me,qe,zS,rm,tW,vm,vw,IE,gb,i6,qW,I8,Jc,rp,ze,qB,ve,zf,b8,fe,fu,iL,jr,lc,lj,lm]
 try rfl
theorem zW:Kq=Lu (NK):=by
 funext;unfold Kq Lu;try simp only[IX,Option.bind_some,bg,br,bu,b7,gm,me,qe,zS,rm,tW,vm,vw,IE,gb,i6,qW,I8,Jc,rp,ze,qB,ve,zf,b8,fe,fu,iL,jr,lc,lj,lm,za]
 try rfl
theorem IA:JG=Mc (NK):=by
 funext;unfold JG Mc;try simp only[IX,Option.bind_some,bg,br,bu,b7,gm,me,qe,zS,rm,tW,vm,vw,IE,gb,i6,qW,I8,Jc,rp,ze,qB,ve,zf,b8,fe,fu,iL,jr,lc,lj,lm,za,zW]
 try rfl
theorem ID:Kr=Lv (NK):=by
 funext;unfold Kr Lv;try simp only[IX,Option.bind_some,bg,br,bu,b7,gm,me,qe,zS,rm,tW,vm,vw,IE,gb,i6,qW,I8,Jc,rp,ze,qB,ve,zf,b8,fe,fu,iL,jr,lc,lj,lm,za,zW,IA]
 try rfl
theorem IG:JH=Me (NK):=by
 funext;unfold JH Me;try simp only[IX,Option.bind_some,bg,br,bu,b7,gm,me,qe,zS,rm,tW,vm,vw,IE,gb,i6,qW,I8,Jc,rp,ze,qB,ve,zf,b8,fe,fu,iL,jr,lc,lj,lm,za,zW,IA,ID]
 try rfl
theorem IK:Kp=Ko (NK):=by
 funext;unfold Kp Ko;try simp only[IX,Option.bind_some,bg,br,bu,b7,gm,me,qe,zS,rm,tW,vm,vw,IE,gb,i6,qW,I8,Jc,rp,ze,qB,ve,zf,b8,fe,fu,iL,jr,lc,lj,lm,za,zW,IA,ID,IG]
 try rfl
theorem IQ:JF=Mb (NK):=by
 funext;unfold JF Mb;try simp only[IX,Option.bind_some,bg,br,bu,b7,gm,me,qe,zS,rm,tW,vm,vw,IE,gb,i6,qW,I8,Jc,rp,ze,qB,ve,zf,b8,fe,fu,iL,jr,lc,lj,lm,za,zW,IA,ID,IG,IK]
 try rfl
theorem Ja:kW=IJ (NK):=by
 funext;unfold kW IJ;try simp only[IX,Option.bind_some,bg,br,bu,b7,gm,me,qe,zS,rm,tW,vm,vw,IE,gb,i6,qW,I8,Jc,rp,ze,qB,ve,zf,b8,fe,fu,iL,jr,lc,lj,lm,za,zW,IA,ID,IG,IK,IQ]
 try rfl
theorem Jy:K3=MO (NK):=by
 funext;unfold K3 MO;try simp only[IX,Option.bind_some,bg,br,bu,b7,gm,me,qe,zS,rm,tW,vm,vw,IE,gb,i6,qW,I8,Jc,rp,ze,qB,ve,zf,b8,fe,fu,iL,jr,lc,lj,lm,za,zW,IA,ID,IG,IK,IQ,Ja]
 try rfl
theorem JI:J8=Nk (NK):=by
 funext;unfold J8 Nk;try simp only[IX,Option.bind_some,bg,br,bu,b7,gm,me,qe,zS,rm,tW,vm,vw,IE,gb,i6,qW,I8,Jc,rp,ze,qB,ve,zf,b8,fe,fu,iL,jr,lc,lj,lm,za,zW,IA,ID,IG,IK,IQ,Ja,Jy]
 try rfl
theorem JY:K4=MP (NK):=by
 funext;unfold K4 MP;try simp only[IX,Option.bind_some,bg,br,bu,b7,gm,me,qe,zS,rm,tW,vm,vw,IE,gb,i6,qW,I8,Jc,rp,ze,qB,ve,zf,b8,fe,fu,iL,jr,lc,lj,lm,za,zW,IA,ID,IG,IK,IQ,Ja,Jy,JI]
 try rfl
theorem Kf:J9=Nl (NK):=by
 funext;unfold J9 Nl;try simp only[IX,Option.bind_some,bg,br,bu,b7,gm,me,qe,zS,rm,tW,vm,vw,IE,gb,i6,qW,I8,Jc,rp,ze,qB,ve,zf,b8,fe,fu,iL,jr,lc,lj,lm,za,zW,IA,ID,IG,IK,IQ,Ja,Jy,JI,JY]
 try rfl
theorem KD:K6=OE (NK):=by
 funext;unfold K6 OE;try simp only[IX,Option.bind_some,bg,br,bu,b7,gm,me,qe,zS,rm,tW,vm,vw,IE,gb,i6,qW,I8,Jc,rp,ze,qB,ve,zf,b8,fe,fu,iL,jr,lc,lj,lm,za,zW,IA,ID,IG,IK,IQ,Ja,Jy,JI,JY,Kf]
 try rfl
theorem KZ:Kb=Np (NK):=by
 funext;unfold Kb Np;try simp only[IX,Option.bind_some,bg,br,bu,b7,gm,me,qe,zS,rm,tW,vm,vw,IE,gb,i6,qW,I8,Jc,rp,ze,qB,ve,zf,b8,fe,fu,iL,jr,lc,lj,lm,za,zW,IA,ID,IG,IK,IQ,Ja,Jy,JI,JY,Kf,KD]
 try rfl
theorem Lh:K7=OG (NK):=by
 funext;unfold K7 OG;try simp only[IX,Option.bind_some,bg,br,bu,b7,gm,me,qe,zS,rm,tW,vm,vw,IE,gb,i6,qW,I8,Jc,rp,ze,qB,ve,zf,b8,fe,fu,iL,jr,lc,lj,lm,za,zW,IA,ID,IG,IK,IQ,Ja,Jy,JI,JY,Kf,KD,KZ]
 try rfl
theorem LF:Kc=Nq (NK):=by
 funext;unfold Kc Nq;try simp only[IX,Option.bind_some,bg,br,bu,b7,gm,me,qe,zS,rm,tW,vm,vw,IE,gb,i6,qW,I8,Jc,rp,ze,qB,ve,zf,b8,fe,fu,iL,jr,lc,lj,lm,za,zW,IA,ID,IG,IK,IQ,Ja,Jy,JI,JY,Kf,KD,KZ,Lh]
 try rfl
theorem Mp:K5=KW (NK):=by
 funext;unfold K5 KW;try simp only[IX,Option.bind_some,bg,br,bu,b7,gm,me,qe,zS,rm,tW,vm,vw,IE,gb,i6,qW,I8,Jc,rp,ze,qB,ve,zf,b8,fe,fu,iL,jr,lc,lj,lm,za,zW,IA,ID,IG,IK,IQ,Ja,Jy,JI,JY,Kf,KD,KZ,Lh,LF]
 try rfl
theorem MU:Ka=Nn (NK):=by
 funext;unfold Ka Nn;try simp only[IX,Option.bind_some,bg,br,bu,b7,gm,me,qe,zS,rm,tW,vm,vw,IE,gb,i6,qW,I8,Jc,rp,ze,qB,ve,zf,b8,fe,fu,iL,jr,lc,lj,lm,za,zW,IA,ID,IG,IK,IQ,Ja,Jy,JI,JY,Kf,KD,KZ,Lh,LF,Mp]
 try rfl
theorem OS:bf=IC (NK):=by
 funext;unfold bf IC;try simp only[IX,Option.bind_some,bg,br,bu,b7,gm,me,qe,zS,rm,tW,vm,vw,IE,gb,i6,qW,I8,Jc,rp,ze,qB,ve,zf,b8,fe,fu,iL,jr,lc,lj,lm,za,zW,IA,ID,IG,IK,IQ,Ja,Jy,JI,JY,Kf,KD,KZ,Lh,LF,Mp,MU]
 try rfl
theorem O9:Lj=J3 (NK):=by
 funext;unfold Lj J3;try simp only[IX,Option.bind_some,bg,br,bu,b7,gm,me,qe,zS,rm,tW,vm,vw,IE,gb,i6,qW,I8,Jc,rp,ze,qB,ve,zf,b8,fe,fu,iL,jr,lc,lj,lm,za,zW,IA,ID,IG,IK,IQ,Ja,Jy,JI,JY,Kf,KD,KZ,Lh,LF,Mp,MU,OS]
 try rfl
theorem P9:KA=Og (NK):=by
 funext;unfold KA Og;try simp only[IX,Option.bind_some,bg,br,bu,b7,gm,me,qe,zS,rm,tW,vm,vw,IE,gb,i6,qW,I8,Jc,rp,ze,qB,ve,zf,b8,fe,fu,iL,jr,lc,lj,lm,za,zW,IA,ID,IG,IK,IQ,Ja,Jy,JI,JY,Kf,KD,KZ,Lh,LF,Mp,MU,OS,O9]
 try rfl
theorem Qr:KI=OP (NK):=by
 funext;unfold KI OP;try simp only[IX,Option.bind_some,bg,br,bu,b7,gm,me,qe,zS,rm,tW,vm,vw,IE,gb,i6,qW,I8,Jc,rp,ze,qB,ve,zf,b8,fe,fu,iL,jr,lc,lj,lm,za,zW,IA,ID,IG,IK,IQ,Ja,Jy,JI,JY,Kf,KD,KZ,Lh,LF,Mp,MU,OS,O9,P9]
 try rfl
theorem Qq:∀n,Jw n=Nb (NK) n
 |0=>rfl
 |n+1=>by unfold Jw Nb;rw[Qq n,Qr]
theorem SR:K0=Qb (NK):=by
 funext;unfold K0 Qb;try simp only[IX,Option.bind_some,bg,br,bu,b7,gm,me,qe,zS,rm,tW,vm,vw,IE,gb,i6,qW,I8,Jc,rp,ze,qB,ve,zf,b8,fe,fu,iL,jr,lc,lj,lm,za,zW,IA,ID,IG,IK,IQ,Ja,Jy,JI,JY,Kf,KD,KZ,Lh,LF,Mp,MU,OS,O9,P9,Qr,Qq]
 try rfl
end Go.Fn
set_option linter.unusedSimpArgs false
set_option linter.unusedVariables false
namespace Go.Fn
open Go.R Go.Sort
theorem Uu:SWO NK:=⟨fun x=>decide_eq_false (by omega),fun x y z h1 h2=>decide_eq_true (by have:=of_decide_eq_true h1;have:=of_decide_eq_true h2;omega),fun x y z h1 h2=>decide_eq_false (by have:=of_decide_eq_false h1;have:=of_decide_eq_false h2;omega)⟩
theorem TL(l:List Int)(hl:l.length<=255):∃r:List Int,LA l=some (r,())/\r.Perm l/\∀i j,i<j->j<r.length->r.getD i 0<=r.getD j 0:=by
 obtain⟨L,hL⟩:=Ve hl;obtain⟨r,h1,h2,h3⟩:=UB Uu l L hl;refine⟨r,?_,h2,fun i j hij hj=>?_⟩
 ·unfold LA;rw[SR,show aq .u64 (ai l)=(l.length:Int)from Tl (by omega),hL,show ai l=(l.length:Int)from rfl];simp only[Option.bind_some,h1]
 ·have:=of_decide_eq_false (h3 i j hij hj);have e1:r.getD i default=r.getD i 0:=rfl;have e2:r.getD j default=r.getD j 0:=rfl;rw[e1,e2]at this;omega
theorem Rq(l:List Int)(x:Int):x∈Lib.compact l↔x∈l:=by
 have key:∀j,j<l.length->l.toArray[j]! ∈ Lib.compact l:=by
  intro j;induction j with
  |zero=>intro hj;unfold Lib.compact Lib.compactUpTo;exact List.mem_map.2 ⟨0,List.mem_filter.2 ⟨List.mem_range.2 hj,by simp[Lib.keeps]⟩,rfl⟩
  |succ j ih=>
   intro hj;by_cases h:l.toArray[j+1]! = l.toArray[j]!
   ·rw[h];exact ih (by omega)
   ·unfold Lib.compact Lib.compactUpTo;exact List.mem_map.2 ⟨j+1,List.mem_filter.2 ⟨List.mem_range.2 hj,Lib.keeps_pos h⟩,rfl⟩
 constructor
 ·intro h;unfold Lib.compact Lib.compactUpTo at h;obtain⟨j,hj,rfl⟩:=List.mem_map.1 h;have hj:=List.mem_range.1 (List.mem_filter.1 hj).1;show l.toArray[j]! ∈ l;rw[getElem!_pos _ j (by simpa using hj),List.getElem_toArray];exact List.getElem_mem _
 ·intro h;obtain⟨j,hj,rfl⟩:=List.getElem_of_mem h;have:=key j hj;rwa[getElem!_pos _ j (by simpa using hj),List.getElem_toArray]at this
theorem RT(l:List Int)(hs:∀i j,i<j->j<l.length->l.getD i 0<=l.getD j 0):(Lib.compact l).Pairwise (fun x y=>x<y):=by
 have ga:∀i,i<l.length->l.toArray[i]! = l.getD i 0:=fun i hi=>by rw[getElem!_pos _ i (by simpa using hi),List.getElem_toArray,List.getD_eq_getElem?_getD,List.getElem?_eq_getElem hi];rfl
 unfold Lib.compact Lib.compactUpTo;rw[List.pairwise_map];refine List.Pairwise.imp_of_mem (fun {i j} hi hj h=>?_) (List.pairwise_lt_range.filter _);have WJ:=List.mem_range.1 (List.mem_filter.1 hj).1;have Um:=(List.mem_filter.1 hj).2;have hk:l.toArray[j]! ≠ l.toArray[j-1]!:=by unfold Lib.keeps at Um;have:=of_decide_eq_true Um;exact this.resolve_left (by omega)
 show l.toArray[i]! < l.toArray[j]!;rw[ga j WJ,ga (j-1) (by omega)]at hk;rw[ga i (by omega),ga j WJ];have h1:=hs (j-1) j (by omega) WJ;by_cases e:i=j-1
 ·subst e;omega
 ·have h2:=hs i (j-1) (by omega) (by omega);omega
noncomputable def PZ(l:List Ev)(b:Int)(r:List Int):Prop:=(∀x,x∈r↔(1<=x/\x<b/\∃e,e∈l/\e.2.2.2.2.1=x))/\r.Pairwise (fun x y=>x<y)
theorem SW{l:List Ev}{b:Int}{r s:List Int}(h1:PZ l b r)(h2:PZ l b s):r=s:=Pb (lt:=fun x y:Int=>x<y) (fun x h=>by omega) (fun x y h=>by omega) h1.2 h2.2 fun x=>by rw[h1.1,h2.1]
theorem TM(l:List Ev)(p:Int)(out:List Int)(hl:l.length<=60)(ho:out.length<=1000):∃o,MM (l,p,()) (out,(0:Int),())=some (.inl (o,()))/\(((∃e,e∈l/\e.2.2.2.2.1=p)/\o=out++[p])\/((¬∃e,e∈l/\e.2.2.2.2.1=p)/\o=out)):=by
 have l8:aE (out++[p])=true:=Mq (by simp;omega);have hap:List.append (α:=Int) out (List.append (α:=Int) ([]:List Int) [p])=out++[p]:=rfl;obtain⟨y,hy,hc⟩:=eL (body:=MK (l,p,())) (fun n=>(out,(n:Int),())) l.length (by omega) (fun n=>!decide ((l.getD n vp).2.2.2.2.1=p)) (Sum.inl (out,())) (fun n=>Sum.inl (out++[p],())) (fun n hn=>by
   have he:af .eql (l.getD n vp).2.2.2.2.1 p=decide ((l.getD n vp).2.2.2.2.1=p):=by simp[af,Bool.beq_eq_decide_eq]
   unfold MK;simp only[aj,hn,decide_true,cond_true,ax,ak,he,hap,l8,au (n:=n) (by omega)];cases decide ((l.getD n vp).2.2.2.2.1=p) <;> rfl) (by
   unfold MK;simp only[aj,Nat.lt_irrefl,decide_false,cond_false])
 unfold MM;rw[show(0:Int)=((0:Nat):Int)from rfl,hy];rcases hc with ⟨hall,rfl⟩|⟨_,n,hn,rfl,hk⟩
 ·refine⟨out,rfl,.inr ⟨?_,rfl⟩⟩;rintro⟨e,he,hp⟩;obtain⟨m,hm,rfl⟩:=List.getElem_of_mem he;have:=(aO _ _).1 hall m (Nat.zero_le _) (by omega);rw[List.getD_eq_getElem?_getD,List.getElem?_eq_getElem hm,Bool.not_eq_true']at this;exact of_decide_eq_false this hp
 ·refine⟨out++[p],rfl,.inl ⟨⟨_,N5 hn vp,?_⟩,rfl⟩⟩;rw[Bool.not_eq_false']at hk;exact of_decide_eq_true hk
theorem Sf(l:List Ev)(hj:L2 l=true):∀(s p:Nat) (out:List Int) (n:Nat),1000-p<=s->1<=p->p<=1000->out.length<=p->PZ l (p:Int) out->s<n ->
  ∃r,iter (K1 (l,())) n (out,(p:Int),())=some (.inl (r,()))/\PZ l 1000 r/\r.length<=1000:=by
 intro s;induction s with
 |zero=>
  intro p out n hs h1 hp hl hi hn;obtain⟨n,rfl⟩:∃m,n=m+1:=⟨n-1,by omega⟩
  have:p=1000:=by omega
  subst this;refine⟨out,av ?_,hi,hl⟩;unfold K1;simp only[show af .leq ((1000:Nat):Int) (999:Int)=false from rfl,cond_false]
 |succ s ih=>
  intro p out n hs h1 hp hl hi hn;obtain⟨n,rfl⟩:∃m,n=m+1:=⟨n-1,by omega⟩
  by_cases h:p<=999
  ·obtain⟨o,o1,o2⟩:=TM l (p:Int) out (Mf hj) (by omega);have hle:af .leq (p:Int) (999:Int)=true:=(QO p 999).trans (decide_eq_true h);have hpi:PZ l ((p+1:Nat):Int) o/\o.length<=p+1:=by
    rcases o2 with ⟨he,rfl⟩|⟨he,rfl⟩
    ·refine⟨⟨fun x=>?_,?_⟩,by rw[List.length_append];simp;omega⟩
     ·rw[List.mem_append,List.mem_singleton,hi.1];constructor
      ·rintro(⟨q1,q2,q3⟩|rfl)
       ·exact⟨q1,by omega,q3⟩
       ·exact⟨by omega,by omega,he⟩
      ·rintro⟨q1,q2,q3⟩;by_cases e:x=(p:Int)
       ·exact .inr e
       ·exact .inl ⟨q1,by omega,q3⟩
     ·rw[List.pairwise_append];refine⟨hi.2,List.pairwise_singleton _ _,fun x hx y hy=>?_⟩;rw[List.mem_singleton]at hy;have:=((hi.1 x).1 hx).2.1;omega
    ·refine⟨⟨fun x=>?_,hi.2⟩,by omega⟩;rw[hi.1];constructor
     ·rintro⟨q1,q2,q3⟩;exact⟨q1,by omega,q3⟩
     ·rintro⟨q1,q2,q3⟩;by_cases e:x=(p:Int)
      ·subst e;exact absurd q3 he
      ·exact⟨q1,by omega,q3⟩
   obtain⟨r,r1,r2⟩:=ih (p+1) o n (by omega) (by omega) (by omega) hpi.2 hpi.1 (by omega);refine⟨r,?_,r2⟩;rw[<-r1];refine aF ?_;unfold K1;simp only[hle,cond_true,M5,hj,Option.bind_some,o1,Sum.elim_inl,au (n:=p) (by omega)]
  ·have:p=1000:=by omega
   subst this;refine⟨out,av ?_,hi,hl⟩;unfold K1;simp only[show af .leq ((1000:Nat):Int) (999:Int)=false from rfl,cond_false]
theorem Qa(l:List Ev):∃r,Mr l=some (r,())/\KY l=some (r,())/\r.length<=1000/\(L2 l=true->PZ l 1000 r)/\(L2 l=false->r=[]):=by
 cases hj:L2 l with
 |false=>
  refine⟨[],?_,?_,Nat.zero_le _,(fun h=>by cases h),fun _=>rfl⟩
  ·have it:iter (K1 (l,())) 1 ([],(1:Int),())=some (.inl ([],())):=by
    refine av ?_;unfold K1;simp only[M5,hj,Option.bind_some,cond_false];rfl
   unfold Mr ML;rw[bh it (Nat.le_of_lt (aN (by omega)))];rfl
  ·unfold KY;rw[P0,hj];rfl
 |true=>
  have S9:=Mf hj;obtain⟨r,r1,r2,r3⟩:=Sf l hj 1000 1 [] big (by omega) (by omega) (by omega) (Nat.zero_le _) ⟨fun x=>⟨fun h=>absurd h List.not_mem_nil,fun h=>by omega⟩,List.Pairwise.nil⟩ (aN (by omega));have OQ:Nw (l,ai l,()) ([],(0:Int),())=some (.inl (l.foldl (fun out e=>out++[e.2.2.2.2.1]) [],())):=by
   refine(bI (body:=MJ (l,ai l,())) l vp (by omega) (fun out e=>out++[e.2.2.2.2.1]) (fun out n=>(out,(n:Int),())) (fun n out=>out.length<=n) (fun out=>Sum.inl (out,())) (fun n out hn ho=>⟨?_,by simp;omega⟩) (fun out ho=>?_) [] (Nat.le_refl _)).1
   ·have l8:aE (out++[(l.getD n vp).2.2.2.2.1])=true:=Mq (by simp;omega);have hap:List.append (α:=Int) out (List.append (α:=Int) ([]:List Int) [(l.getD n vp).2.2.2.2.1])=out++[(l.getD n vp).2.2.2.2.1]:=rfl;unfold MJ;simp only[aj,hn,decide_true,cond_true,ax,ak,hap,l8,au (n:=n) (by omega)]
   ·unfold MJ;simp only[aj,Nat.lt_irrefl,decide_false,cond_false]
  have oe:∀(m:List Ev) (out:List Int),m.foldl (fun out e=>out++[e.2.2.2.2.1]) out=out++m.map (fun e=>e.2.2.2.2.1):=by
   intro m;induction m with
   |nil=>intro out;simp
   |cons e m ih=>intro out;rw[List.foldl_cons,ih];simp
  rw[oe,List.nil_append]at OQ;obtain⟨z,z1,z2,z3⟩:=TL (l.map fun e=>e.2.2.2.2.1) (by rw[List.length_map];omega);have Ze:z.length<=60:=by rw[z2.length_eq,List.length_map];exact S9
  have hzs:aE z=true:=Mq (by omega);have uR:PZ l 1000 (Lib.compact z):=by
   refine⟨fun x=>?_,RT z z3⟩;rw[Rq,z2.mem_iff,List.mem_map];constructor
   ·rintro⟨e,he,rfl⟩;have:=(Oz.1 (P4 hj e he)).2.2.2.2.1;exact⟨by omega,by omega,e,he,rfl⟩
   ·rintro⟨_,_,e,he,h⟩;exact⟨e,he,h⟩
  have heq:Lib.compact z=r:=SW uR r2;refine⟨r,?_,?_,r3,fun _=>r2,fun h=>by cases h⟩
  ·unfold Mr ML;rw[show(1:Int)=((1:Nat):Int)from rfl,r1];rfl
  ·unfold KY;simp only[P0,hj,Option.bind_some,Bool.not_true,cond_false,OQ,Sum.elim_inl,z1];unfold M1;rw[hzs,heq];rfl
end Go.Fn
set_option linter.unusedVariables false
namespace Go.Fn
open Go.R
noncomputable def NQ(a:Ms×Uc)(b:Ri):V7:=cond (af .lss b.1 (ai a.1)) (cond (ah a.1 b.1) (cond (ah a.2.1 b.1) (cond (af .neq (ae zI a.1 b.1) (ae zI a.2.1 b.1)) (some (.inr (.inl (false,())))) (some (.inl (aa .add .i64 b.1 1,())))) none) none) (some (.inr (.inr (.inl ()))))
noncomputable def NR k x:=iter (NQ k) big x
noncomputable def N3(a b:Ms):Sj:=cond (af .neq (ai a) (ai b)) (some (false,())) ((NR (a,b,()) (0,())).bind fun c=>Sum.elim (fun d=>some (d.1,())) (fun d=>Sum.elim (fun _=>some (true,())) (fun e=>Empty.elim e) d) c)
end Go.Fn
set_option linter.unusedVariables false
namespace Go.Fn
open Go.R
noncomputable def LZ(a:Td)(b:VA):XP:=letI c:=b.2.2.1;cond (af .lss c (ai b.2.1)) (cond (ah b.2.1 c) ((LC a.1 (ae zI b.2.1 c)).bind fun d=>some (.inl (aa .add .i64 b.1 d.2.2.2.2.2.2.1,b.2.1,aa .add .i64 c 1,()))) none) (some (.inr (.inl (b.1,()))))
noncomputable def NC k x:=iter (LZ k) big x
noncomputable def NB(a:OL):TT:=(Mr a).bind fun b=>(NC (a,()) (0,b.1,0,())).bind fun c=>Sum.elim (fun d=>some (d.1,())) (fun d=>Empty.elim d) c
noncomputable def LU(a:TS)(b:VA):XP:=letI c:=b.2.2.1;cond (af .lss c a.2.1) (cond (ah b.2.1 c) ((LV a.1 (ae zI b.2.1 c)).bind fun d=>some (.inl (aa .add .i64 b.1 d.2.2.2.2.2.2.1,b.2.1,aa .add .i64 c 1,()))) none) (some (.inr (.inl (b.1,()))))
noncomputable def Ns k x:=iter (LU k) big x
noncomputable def Nr(a:OL):TT:=(KY a).bind fun b=>(Ns (a,ai b.1,()) (0,b.1,0,())).bind fun c=>Sum.elim (fun d=>some (d.1,())) (fun d=>Empty.elim d) c
end Go.Fn
set_option linter.unusedVariables false
set_option linter.unusedSimpArgs false
namespace Go.Fn
open Go.R
noncomputable def SD(l:List Ev)(p:Int):Int:=match LC l p with|some y=>y.2.2.2.2.2.2.1|none=>0
theorem Sq(l:List Ev)(p:Int):∃y y',LC l p=some y/\LV l p=some y'/\y.2.2.2.2.2.2.1=SD l p/\y'.2.2.2.2.2.2.1=SD l p:=by obtain⟨g,g1,g2⟩:=Q0 l p;refine⟨_,_,g1,g2,?_,?_⟩ <;> (unfold SD;rw[g1])
theorem Q6(l:List Ev):∃n,NB l=some (n,())/\Nr l=some (n,()):=by
 obtain⟨r,r1,r2,r3,_,_⟩:=Qa l;have hs:=(bI (body:=LZ (l,())) r zI (by omega) (fun acc p=>aa .add .i64 acc (SD l p)) (fun acc n=>(acc,r,(n:Int),())) (fun _ _=>True) (fun acc=>.inl (acc,())) (fun n acc hn _=>⟨by
   obtain⟨y,y',h1,_,h3,_⟩:=Sq l (r.getD n zI);unfold LZ;simp only[aj,ax,hn,decide_true,cond_true,ak,h1,Option.bind_some,h3,au (n:=n) (by omega)],trivial⟩) (fun acc _=>by
   unfold LZ;simp only[aj,Nat.lt_irrefl,decide_false,cond_false]) 0 trivial).1
 have hi:=(bI (body:=LU (l,ai r,())) r zI (by omega) (fun acc p=>aa .add .i64 acc (SD l p)) (fun acc n=>(acc,r,(n:Int),())) (fun _ _=>True) (fun acc=>.inl (acc,())) (fun n acc hn _=>⟨by
   obtain⟨y,y',_,h2,_,h4⟩:=Sq l (r.getD n zI);unfold LU;simp only[aj,ax,hn,decide_true,cond_true,ak,h2,Option.bind_some,h4,au (n:=n) (by omega)],trivial⟩) (fun acc _=>by
   unfold LU;simp only[aj,Nat.lt_irrefl,decide_false,cond_false]) 0 trivial).1
 refine⟨r.foldl (fun acc p=>aa .add .i64 acc (SD l p)) 0,?_,?_⟩
 ·unfold NB NC;rw[r1];simp only[Option.bind_some];have hs':iter (LZ (l,())) big (0,r,0,())=_:=hs;rw[hs'];rfl
 ·unfold Nr Ns;rw[r2];simp only[Option.bind_some];have hi':iter (LU (l,ai r,())) big (0,r,0,())=_:=hi;rw[hi'];rfl
end Go.Fn
set_option linter.unusedVariables false
set_option linter.unusedSimpArgs false
namespace Go.Fn
open Go.R
section
variable (a0 a1:Int) (g:List (List Int)) (s:List TR)
abbrev SB:Type:=Bool×Int×List Int×Unit
end
end Go.Fn
set_option linter.unusedVariables false
namespace Go.Fn
open Go.R
noncomputable def Pq(a:PO)(b:Ri):V7:=cond (af .lss b.1 (ai a.1)) (cond (ah a.1 b.1) (cond (af .eql (ae zI a.1 b.1) a.2.1) (some (.inr (.inl (true,())))) (some (.inl (aa .add .i64 b.1 1,())))) none) (some (.inr (.inr (.inl ()))))
noncomputable def Pr k x:=iter (Pq k) big x
noncomputable def Pp(a:Ms)(b:Int):Sj:=(Pr (a,b,()) (0,())).bind fun c=>Sum.elim (fun d=>some (d.1,())) (fun d=>Sum.elim (fun _=>some (false,())) (fun e=>Empty.elim e) d) c
end Go.Fn
set_option linter.unusedVariables false
set_option linter.unusedSimpArgs false
namespace Go.Fn
open Go.R
theorem Sa(l:List Int)(hl:l.length<=1073741824):N3 l l=some (true,()):=by
 unfold N3;rw[O6];have OQ:NR (l,l,()) ((0:Int),())=some (Sum.inr (Sum.inl ())):=by
  refine aU (fun n=>((n:Int),())) l.length (by omega) _ (fun n hn=>?_) ?_
  ·unfold NQ;simp only[aj,ax,hn,decide_true,cond_true,O6,au (n:=n) (by omega)];rfl
  ·unfold NQ;simp only[aj,Nat.lt_irrefl,decide_false,cond_false]
 simp only[cond_false];rw[OQ];rfl
theorem R5(l:List Int)(x:Int)(hl:l.length<=1073741824):Pp l x=some (SJ l x,()):=by
 unfold Pp SJ;have OQ:Pr (l,x,()) ((0:Int),())=some (bif aB (nat l x) 0 l.length then(Sum.inr (Sum.inl ()):Bool×Unit⊕(Unit⊕Empty))else Sum.inl (true,())):=by
  refine bq (fun n=>((n:Int),())) l.length (by omega) (nat l x) _ _ (fun n hn=>?_) ?_
  ·unfold Pq nat;simp only[aj,ax,ak,hn,decide_true,cond_true,au (n:=n) (by omega)];cases af .eql (l.getD n zI) x <;> rfl
  ·unfold Pq;simp only[aj,Nat.lt_irrefl,decide_false,cond_false]
 rw[OQ];cases aB (nat l x) 0 l.length <;> rfl
end Go.Fn
set_option linter.unusedVariables false
set_option linter.unusedSimpArgs false
namespace Go.Fn
open Go.R
noncomputable def UM(L:List Vu)(i:Nat):Vu:=L.getD i RM
noncomputable def Tb(L:List Vu):Prop:=L.length<=1073741824/\∀c,c∈L->c.2.1.length<=1073741824/\c.2.2.length<=1073741824
theorem Tb.at{L:List Vu}(h:Tb L){i:Nat}(hi:i<L.length):(UM L i).2.1.length<=1073741824/\(UM L i).2.2.length<=1073741824:=h.2 _ (N5 hi _)
end Go.Fn
set_option linter.unusedVariables false
set_option linter.unusedSimpArgs false
namespace Go.Fn
open Go.R
noncomputable def Sm{α:Type}(P:α->Prop)(x y:Option α):Prop:=∃r,x=some r/\y=some r/\P r
section
variable {α β:Type} {P:α->Prop} {Q:β->Prop}
theorem Sm.ret{a:α}(h:P a):Sm P (some a) (some a):=⟨a,rfl,rfl,h⟩
theorem Sm.bind{x y:Option α}{f g:α->Option β}(hx:Sm P x y)(h:∀r,P r->Sm Q (f r) (g r)):Sm Q (x.bind f) (y.bind g):=by obtain⟨r,rfl,rfl,hr⟩:=hx;exact h r hr
theorem Sm.cond{b:Bool}{x y x' y':Option α}(hx:b=true->Sm P x x')(hy:b=false->Sm P y y'):Sm P (bif b then x else y) (bif b then x' else y'):=by
 cases b
 ·exact hy rfl
 ·exact hx rfl
theorem Sm.guard{b c:Bool}{x y:Option α}(hb:b=true)(hc:c=true)(h:Sm P x y):Sm P (bif b then x else none) (bif c then y else none):=by subst hb hc;exact h
theorem Sm.mono{P':α->Prop}{x y:Option α}(h:Sm P x y)(hp:∀r,P r->P' r):Sm P' x y:=by obtain⟨r,e1,e2,hr⟩:=h;exact⟨r,e1,e2,hp r hr⟩
theorem Sm.symm{x y:Option α}(h:Sm P x y):Sm P y x:=by obtain⟨r,e1,e2,hr⟩:=h;exact⟨r,e2,e1,hr⟩
end
abbrev Any{α:Type}:α->Prop:=fun _=>True
end Go.Fn
set_option linter.unusedVariables false
set_option linter.unusedSimpArgs false
namespace Go.Fn
open Go.R
noncomputable def k3(k:Int):Bool:=af .eql (aa .rem .i64 k 3) 0
theorem cT{β:Type}{b:Bool}{x y:β}(h:b=true):(bif b then x else y)=x:=by rw[h];rfl
theorem cF{β:Type}{b:Bool}{x y:β}(h:b=false):(bif b then x else y)=y:=by rw[h];rfl
theorem Sp{α β:Type}{x:Option α}{r:α}{f:α->Option β}(h:x=some r):x.bind f=f r:=by rw[h];rfl
theorem VT{α:Type}{L:List α}{n:Nat}{a:α}(h:n<L.length):ah (L.set n a) (n:Int)=true:=by rw[jt];exact decide_eq_true h
end Go.Fn
set_option linter.unusedVariables false
set_option linter.unusedSimpArgs false
namespace Go.Fn
open Go.R
abbrev Wk:=List V5×List V5
end Go.Fn
set_option linter.unusedVariables false
set_option linter.unusedSimpArgs false
namespace Go.Fn
open Go.R
section
variable (a0 a1 a2 a3 a4 a5 a6 a7 a8 a9 a10:Int) (s:List Site) (p:List Ym) (g:List Yk) (j:List Ev)
variable (lg:List (List Int)) (wk:Int) (z0 z1:Int) (zg:List (List Int)) (zs:List TR) (b r:Int) (L:List (List Int)) (S:List TR) (I Pl:List Int)
theorem bits(x:Bool):Bool.not (Bool.not x)=x:=Bool.not_not x
end
end Go.Fn
namespace Go.R
open Go.Shelf Go.Proofs
def rZ(n:Int):Bool:=decide (-9223372036854775808<=n)&&decide (n<=9223372036854775807)
end Go.R
set_option linter.unusedVariables false
namespace Go.Fn
open Go.R
noncomputable def Pv(a:Int):TT:=cond (af .lss a 10) (some (aq .u8 (aa .add .i64 48 a),())) (some (aq .u8 (aa .sub .i64 (aa .add .i64 97 a) 10),()))
noncomputable def OT(a:UX)(b:Int×Vo):Option (Int×Vo⊕Vo⊕Empty):=letI c:=b.2.1;letI d:=az 10;letI e:=aa .rem .i64 b.1 10;letI f:=aa .quo .i64 b.1 10;cond (af .neq b.1 0) (cond d none (cond (af .lss e 0) ((Pv (DA .i64 e)).bind fun g=>cond (nL (lU (List.append (α:=Int) ([]:Ms) [g.1])) c) (cond d none (some (.inl (f,ByteArray.append (lU (List.append (α:=Int) ([]:Ms) [g.1])) c,())))) none) ((Pv e).bind fun g=>cond (nL (lU (List.append (α:=Int) ([]:Ms) [g.1])) c) (cond d none (some (.inl (f,ByteArray.append (lU (List.append (α:=Int) ([]:Ms) [g.1])) c,())))) none))) (some (.inr (.inl (c,()))))
noncomputable def OU k x:=iter (OT k) big x
noncomputable def Pu(a:Int):Option Vo:=letI b:=af .lss a 0;cond (af .eql a 0) (some (ByteArray.mk #[48],())) ((OU (b,()) (a,ByteArray.mk #[],())).bind fun c=>Sum.elim (fun d=>cond b (cond (nL (ByteArray.mk #[45]) d.1) (some (ByteArray.append (ByteArray.mk #[45]) d.1,())) none) (some (d.1,()))) (fun d=>Empty.elim d) c)
noncomputable def strconv_Itoa(a:Int):Option Vo:=cond (rZ a) (some (ByteArray.mk (Lib.itoa a).toArray,())) none
noncomputable def Po(a:Int):Option Vo:=(strconv_Itoa a).bind fun b=>some (b.1,())
end Go.Fn
set_option linter.unusedVariables false
set_option linter.unusedSimpArgs false
namespace Go.Fn
open Go.R
noncomputable def noP(l:List Bx)(p:Int)(n:Nat):Bool:=Bool.not (af .eql (l.getD n V3).2.2.1 p)
theorem m1:Pu (-1)=some (ByteArray.mk #[45,49],()):=by
 unfold Pu;have h:iter (OT (true,())) 2 (-1,ByteArray.mk #[],())=some (.inl (ByteArray.mk #[49],())):=by rfl
 have hl:OU (true,()) (-1,ByteArray.mk #[],())=_:=bh h (Nat.le_of_lt (aN (by omega)));rw[show af .eql (-1:Int) 0=false from rfl,show af .lss (-1:Int) 0=true from rfl,hl];rfl
theorem m2:Po (-1)=some (ByteArray.mk #[45,49],()):=by
 unfold Po strconv_Itoa;have:Lib.itoa (-1)=[45,49]:=by have h:=Lib.itoa_neg 1 (Nat.le_refl _);rw[Lib.decDigits_one (by decide)]at h;exact h
 rw[this];rfl
end Go.Fn
set_option linter.unusedVariables false
namespace Go.Fn
open Go.R
noncomputable def V2:Wo:=(0,0,0)
end Go.Fn
set_option linter.unusedVariables false
namespace Go.Fn
open Go.R
abbrev Gp:=Int×Int×Int
noncomputable def UU(l:List Bx)(o:List Gp):Prop:=∀g,g∈o->∃b,b∈l/\g.2.1=b.1
theorem UU.put{l:List Bx}{o:List Gp}(h:UU l o){i:Int}(h0:0<=i)(h1:i<(o.length:Int))(z z':Int):UU l (aC o i (z,(ae V2 o i).2.1,z')):=by
 intro g hg;unfold aC at hg;rcases List.mem_or_eq_of_mem_set hg with hg|hg
 ·exact h g hg
 ·have hm:ae V2 o i∈o:=by
   unfold ae;rw[List.getD_eq_getElem?_getD,List.getElem?_eq_getElem (by omega)];exact List.getElem_mem _
  obtain⟨b,hb,e⟩:=h _ hm;subst hg;exact⟨b,hb,e⟩
end Go.Fn
set_option linter.unusedVariables false
set_option linter.unusedSimpArgs false
namespace Go.R
variable {H:Nat->Value}
section
variable {A:oC} {M:Type}
def OH:Nat:=65536
def TV.bare(v:TV A):TV A:=match v with| .GR ..=>.dead|v=>v
def TV.hold(i:Nat)(v:TV A):TV A:=match v with| .one l=>.GR i (false,[l])| .agg ls=>.GR i (true,ls)|_=>.dead
def TV.QN(i:Nat)(v:TV A):TV A:=match v with| .GR j c=>bif Nat.beq j i then TV.mk c.1 c.2 else .dead|_=>.dead
def VT(args:List (TV A))(s:St A):St A:=⟨fun i=>bif Nat.ble OH i then(s.sl (i-OH)).hold (i-OH)else(args.getD i .dead).bare,s.ob⟩
def QK(id g off:Nat):List (TV A)->Nat->Option Nat
 | [],_=>none
 |v::vs,j=>match v with
  | .one (.ptr id' g' off')=>bif Nat.beq id id'&&(Nat.beq g g'&&Nat.beq off off')then some j else QK id g off vs (j+1)
  |_=>QK id g off vs (j+1)
def TB(c:Code)(args:List (TV A))(s s1:St A)(i:Nat):TV A:=match s.sl i with
 | .one (.ptr id g off)=>bif (dA s id g).isSome then(match QK id g off args 0 with
   |some j=>bif cP [j] c then(s1.sl j).bare else .dead
   |none=>(s1.sl (OH+i)).QN i)else .dead
 |_=>(s1.sl (OH+i)).QN i
def SV(c:Code)(args:List (TV A))(s s1:St A):St A:=⟨fun i=>TB c args s s1 i,s1.ob⟩
def RZ(E:Env)(C:xO real M)(Φ:bV->Option (Callee real M))(L:Lk real M)(c:Code)(res:List ResultVar):Inl real M:=fun args s k=>
 bif Nat.ble args.length E.nt&&Nat.ble E.nt OH then
  exec E C Φ L 0 c (VT args s) fun ex s1=>bif ex.done then ar C (nM E s1 res) fun cg=>k (TV.mL cg).bare (SV c args s s1)
  else C.fail
 else C.fail
end
def QX(P:Program)(f:FuncId)(t:(R:Type)->Inl real (Option R)):Prop:=
 ∀(E:Env) (H:Nat->Value) (R:Type) (o:Oper) (args:Array Operand) (fG:Array Nat) (ω:aJ) (a:Act) (w:World) (s:S) (k:S->Option R) (r:R) (Q:Exit->Act->World->Prop),
  o.op=.call ⟨.value (.func f),args,fG⟩->args.size=fG.size->Rel H ω a w s->(∀d,o.dst=some d->d<a.tmps.size) ->
  t R ((args.toList.zip fG.toList).map fun p=>ev E s p.2 p.1) s (fun v s1=>k (s1.ck o.dst v))=some r->o.wp P a w (Ends H ω a w o.dst k r) Q
section
variable {R:Type} {P:Program} {E:Env} {Ψ:bV->Option ij} {Λ:Nat->Option eB} {ω:aJ} {a:Act} {w:World} {s:S}
theorem dh.bare{H H':Nat->Value}{s':S}(hs:s'.ob=s.ob)(hd:∀b k,ω b=some k->b<w.heap.size){u:Value}{tv:cm}(h:dh H w ω s u tv):dh H' w ω s' u tv.bare:=by
 have tr:∀id,Tr w ω s w ω s' id:=fun id=>Tr.mM hd (by rw[hs]);cases tv with
 |one l=>exact cA.frame (dr.refl _ _) tr h
 |agg ls=>obtain⟨us,h1,h2⟩:=h;exact⟨us,h1,h2.mono fun _ _ hc=>cA.frame (dr.refl _ _) tr hc⟩
 |nR cs=>obtain⟨us,h1,h2⟩:=h;exact⟨us,h1,h2.mono fun _ _ hc=>nV.frame (dr.refl _ _) tr hc⟩
 |GR _ _=>trivial
theorem Uo(h:Rel H ω a w s){a':Act}(YQ:a'.defers=[]){cg:List cm}{us:List Value}(hall:bj (dh H w ω s) us cg)(B9:∀i u,us[i]? = some u->a'.tmps.getD i undef=u):Rel (fun i=>a.tmps.getD i undef) ω a' w (VT cg s) where
 dP:=h.dP
 inj:=h.inj
 dom:=h.dom
 defers:=YQ
 dR:=h.dR
 slots i:=by
  have tr:∀id,Tr w ω s w ω (VT cg s) id:=fun id=>Tr.mM h.dom rfl;show dh _ w ω (VT cg s) _ (bif Nat.ble OH i then(s.sl (i-OH)).hold (i-OH)else(cg.getD i .dead).bare);cases hb:Nat.ble OH i with
  |true=>
   have hj:=h.slots (i-OH);simp only[cond_true];revert hj;generalize i-OH=j;intro hj;cases jO:s.sl j with
   |one l=>
    rw[jO]at hj;intro l' e;injection e with e
    subst e;exact cA.frame (dr.refl _ _) tr hj
   |agg ls=>rw[jO]at hj;obtain⟨us,h1,h2⟩:=hj;exact⟨us,h1,h2.mono fun _ _ hc=>cA.frame (dr.refl _ _) tr hc⟩
   |nR _=>trivial
   |GR _ _=>trivial
  |false=>
   simp only[cond_false];rw[List.getD_eq_getElem?_getD];cases hq:cg[i]? with
   |none=>trivial
   |some tv=>obtain⟨u,hu,hr⟩:=hall.get i tv hq;rw[B9 i u hu];exact dh.bare rfl h.dom hr
 dB id cells hc:=by obtain⟨b,arr,T,h1,h2,h3⟩:=h.dB id cells hc;exact⟨b,arr,T,h1,h2,h3.mono fun _ _ hl=>cA.frame (dr.refl _ _) (fun id=>Tr.mM h.dom rfl) hl⟩
theorem RC{id g off:Nat}:∀(vs:List cm) (j0 j:Nat),QK id g off vs j0=some j->∃i,j=j0+i/\vs[i]? = some (.one (.ptr id g off))
 | [],_,_,h=>nomatch h
 |v::vs,j0,j,h=>by
  have rest:QK id g off vs (j0+1)=some j->∃i,j=j0+i/\(v::vs)[i]? = some (.one (.ptr id g off)):=fun h=>by obtain⟨i,h1,h2⟩:=RC vs (j0+1) j h;exact⟨i+1,by omega,by simpa using h2⟩
  unfold QK at h;split at h
  ·rename_i id' g' off';cases hb:(Nat.beq id id'&&(Nat.beq g g'&&Nat.beq off off'))with
   |true=>rw[hb]at h;simp only[Bool.and_eq_true]at hb;obtain⟨h1,h2,h3⟩:=hb;rw[Nat.eq_of_beq_eq_true h1,Nat.eq_of_beq_eq_true h2,Nat.eq_of_beq_eq_true h3];exact⟨0,(Option.some.inj h).symm,rfl⟩
   |false=>rw[hb]at h;exact rest h
  ·exact rest h
theorem TQ{s1 s2:S}(hd:∀b k,ω b=some k->b<w.heap.size)(hs:s2.ob=s1.ob){v0:Value}{i:Nat}{tv:cm}(h:dh (fun i=>a.tmps.getD i undef) w ω s1 v0 tv):dh H w ω s2 (a.tmps.getD i undef) (tv.QN i):=by
 have tr:∀id,Tr w ω s1 w ω s2 id:=fun id=>Tr.mM hd (by rw[hs]);cases tv with
 |GR j c=>
  simp only[TV.QN];cases hb:Nat.beq j i with
  |false=>trivial
  |true=>
   have:=Nat.eq_of_beq_eq_true hb;subst this;have hj:nV w ω s2 (a.tmps.getD j undef) c:=nV.frame (dr.refl _ _) tr h;obtain⟨ag,ls⟩:=c;cases ag with
   |true=>exact hj
   |false=>
    match ls,hj with
    | [],_=>trivial
    | [l],hj=>exact hj l rfl
    |_::_::_,_=>trivial
 |_=>trivial
theorem TA {w1:World} {bi:aJ} {s1:S} {a1:Act} {c:Code} {cg:List cm} {us:List Value} (h:Rel H ω a w s) (hall:bj (dh H w ω s) us cg) (h1:Rel (fun i=>a.tmps.getD i undef) bi a1 w1 s1)
  (hp:∀j u,cP [j] c=true->us[j]? = some u->a1.tmps.getD j undef=u):Rel H bi a w1 (SV c cg s s1) where
 dP:=h1.dP
 inj:=h1.inj
 dom:=h1.dom
 defers:=h.defers
 dR:=h1.dR
 slots i:=by
  have held:dh H w1 bi (SV c cg s s1) (a.tmps.getD i undef) ((s1.sl (OH+i)).QN i):=TQ h1.dom rfl (h1.slots (OH+i));have hi:=h.slots i;have e:(SV c cg s s1).sl i=TB c cg s s1 i:=rfl;rw[e];unfold TB;split
  ·rename_i id g off jO;rw[jO]at hi;cases hb:dA s id g with
   |none=>trivial
   |some ls=>
    simp only[Option.isSome_some,cond_true];cases hq:QK id g off cg 0 with
    |none=>exact held
    |some j=>
     simp only;cases hf:cP [j] c with
     |false=>trivial
     |true=>obtain⟨j',e1,e2⟩:=RC cg 0 j hq;rw[Nat.zero_add]at e1;subst e1;obtain⟨u,hu,hr⟩:=hall.get j _ e2;obtain⟨f1,f2⟩:=cZ hb;obtain⟨b,g1,g2⟩:=hi.2 f1 ls f2;obtain⟨b',g3,g4⟩:=(show xR ω s u id g off from hr).2 f1 ls f2;have:=h.inj _ _ _ g1 g3;subst this;have hs:=h1.slots j;rw[hp j u hf hu,g4,<-g2]at hs;exact dh.bare rfl h1.dom hs
  ·exact held
 dB id cells hc:=by obtain⟨b,arr,T,q1,q2,q3⟩:=h1.dB id cells hc;exact⟨b,arr,T,q1,q2,q3.mono fun _ _ hl=>cA.frame (dr.refl _ _) (fun id=>Tr.mM h1.dom rfl) hl⟩
theorem Uy{w':World}{aI:aJ}{s':S}:∀ {us:List Value} {cg:List cm},bj (dh H w' aI s') us cg->dh H w' aI s' (match us with| [u]=>u|us=>.tuple us.toArray) (TV.mL cg)
 | [],[],_=>⟨[],rfl,trivial⟩
 | [u],[t],h=>h.1
 |u::u'::us,t::t'::ts,h=>⟨u::u'::us,rfl,bj.Ge TV.comp |>.2 (h.mono fun _ _ hc=>zF hc)⟩
 | [],_::_,h=>h.elim
 |_::_,[],h=>h.elim
 | [_],_::_::_,h=>h.2.elim
 |_::_::_,[_],h=>h.2.elim
theorem U7 {Ξ:Inls} (hI:StepInl P E Ξ) (hE:cq P E) (EP:∀f F, Ψ f = some F -> eA P f.1 F) {pl:Nat -> Bool} {f:FuncId} {fn:Func} {c:Code} (h1:P.funcs[f]? = some fn) (h2:(fn.name == "runtime.NumGoroutine") = false) (h3:fn.body = some c)
  (hnt:fn.ntmps=E.nt) (hL:fp P E Λ (dl 0 c)):QX P f fun R=>RZ E (aP R) (kZ Ψ R) (lkt Λ Ξ pl R) c fn.results.toList:=by
 intro E0 H R o args fG ω a w s k r Q ho hsz h hd hk;have pV:args.toList.length=fG.toList.length:=by simpa using hsz
 have hall:=w9 h E0 args.toList fG.toList pV;revert hk;generalize (List.map (fun p=>ev E0 s p.snd p.fst) (args.toList.zip fG.toList))=cg at hall;intro hk;have hrun:(execOp a.eval o).run P w=.ok (.enter f (args.toList.map a.eval).toArray) w:=by
  unfold execOp;have e1:a.eval (.func f)=.func (.func f) #[] #[]:=rfl;simp only[ho,resolve,e1,Deferred.ofValue];have hargs:#[]++args.map a.eval ++ #[]=(args.toList.map a.eval).toArray:=by apply Array.ext';simp
  simp only[Sem.run_bind,Sem.run_pure,Result.andThen_ok,invoke];rw[hargs];exact MuLone.run_callFunc_enter h1 h2 h3 _ w
 unfold Oper.wp;rw[hrun];simp only[Oper.upon];have hlen:=hall.length;simp only[RZ]at hk;cases hb:(Nat.ble cg.length E.nt&&Nat.ble E.nt OH)with
 |false=>rw[hb]at hk;cases hk
 |true=>
 rw[hb]at hk;simp only[cond_true]at hk;rw[Bool.and_eq_true]at hb;have Zc:=Nat.le_of_ble_eq_true hb.1;generalize B9:args.toList.map a.eval=us at hall hlen;refine calls_of_wp h1 h3 ?_;have WK:(us.toArray++Array.replicate (fn.ntmps-us.toArray.size) undef).size=E.nt:=by simp;omega
 have oD:∀i u,us[i]? = some u->(us.toArray++Array.replicate (fn.ntmps-us.toArray.size) undef).getD i undef=u:=fun i u hu=>by have hi:i<us.length:=(List.getElem?_eq_some_iff.1 hu).1;rw[Array.getD_eq_getD_getElem?,Array.getElem?_append_left (by simpa using hi)];simp[hu]
 have hR:=Uo h (a':={ tmps:=us.toArray++Array.replicate (fn.ntmps-us.toArray.size) undef,defers:=[] }) rfl hall oD;have hx:=jq hE (sI (E:=E) EP) hI (U:=fun j=>cP [j] c=true) c 0 ω _ w _ _ (fun j hj=>hj) hL WK hR hk;refine wp_mono hx fun e a1 w' hp=>?_;obtain⟨ex,aI,s1,q1,q2,q3,q4,q5,q6⟩:=hp;dsimp only at q4;cases hdn:ex.done with
 |false=>rw[hdn]at q4;cases q4
 |true=>
 rw[hdn]at q4;simp only[cond_true]at q4;obtain⟨Vk,t1,q7⟩:=aA q4;obtain⟨Y7,u1,u2⟩:=Bj hE q2 fn.results.toList Vk t1;obtain⟨v1,VR,xw⟩:∃v,(results fn a1.tmps).run P w'=.ok v w'/\dh (fun i=>a.tmps.getD i undef) w' aI s1 v (TV.mL Vk):=by
  have q:=wN (fn:=fn) u1;have z:=Uy u2;revert q z;match Y7 with
  | []=>exact fun q z=>⟨_,q,z⟩
  | [_]=>exact fun q z=>⟨_,q,z⟩
  |_::_::_=>exact fun q z=>⟨_,q,z⟩
 have YN:Rel H aI a w' (SV c cg s s1):=TA h hall q2 fun j u hf hu=>(q6 j hf).trans (oD j u hu);have hres:dh H w' aI (SV c cg s s1) v1 (TV.mL Vk).bare:=dh.bare (s:=s1) rfl q2.dom xw;have oc:a1.defers=[]/\∃v,(results fn a1.tmps).run P w'=.ok v w'/\Ends H ω a w o.dst k r (a.put o.dst v) w':=⟨q2.defers,_,VR,dZ YN q3 hd hres q7⟩
 cases ex with
 |normal=>
  cases e with
  |normal=>exact oc
  |_=>cases q1
 |ret=>
  cases e with
  |ret=>exact oc
  |_=>cases q1
 |exit _=>cases hdn
end
abbrev Xl:=List (FuncId×((R:Type)->Inl real (Option R)))
def Q2:List (FuncId×((R:Type)->Inl real (Option R)))->Inls
 | [],_=>none
 |(f,t)::r,n=>bif Nat.beq f n then some t else Q2 r n
def Rm(P:Program):List (FuncId×((R:Type)->Inl real (Option R)))->Prop
 | []=>True
 |p::r=>QX P p.1 p.2/\Rm P r
theorem Rw{P:Program}:∀ {l},Rm P l->∀f t,Q2 l f=some t->QX P f t
 | [],_,_,_,h=>nomatch h
 |(g,u)::l,hl,f,t,h=>by
  simp only[Q2]at h;cases hb:Nat.beq g f with
  |true=>rw[hb]at h;have h:=Option.some.inj h;subst h;have:=hl.1;rw[Nat.eq_of_beq_eq_true hb]at this;exact this
  |false=>rw[hb]at h;exact Rw hl.2 f t h
theorem QM{P:Program}{E:Env}{l}(h:Rm P l):StepInl P E (Q2 l):=fun H R o f t args fG ω a w s k r Q ho hf hsz hR hd hk=>Rw h f t hf E H R o args fG ω a w s k r Q ho hsz hR hd hk
noncomputable def Ts(E:Env)(T:List (bV×ij))(m:List (Nat×eB))(pl:List Nat)(X:List (FuncId×((R:Type)->Inl real (Option R))))(fn:Func):(R:Type)->Inl real (Option R):=fun R=>RZ E (aP R) (kZ (uX T) R) (lkt (qc m) (Q2 X) (fun n=>pl.any (Nat.beq n)) R) (body fn) fn.results.toList
def VE(fn:Func)(nt:Nat)(m:List (Nat × eB)):Bool:=!(fn.name == "runtime.NumGoroutine")&&(fn.body.isSome&&(Nat.beq fn.ntmps nt&&oh (dl 0 (body fn)) m))
theorem ik{P:Program}{E:Env}(hE:cq P E){T:List (bV×ij)}(hT:tT P T)(m:List (Nat×eB))(pl:List Nat){X}(hX:Rm P X){f:FuncId}{fn:Func}(hm:DW P E 0 (body fn) m 0)(h1:P.funcs[f]? = some fn)(hc:VE fn E.nt m=true):QX P f (Ts E T m pl X fn):=by
 simp only[VE,Bool.and_eq_true,Bool.not_eq_true']at hc;obtain⟨c1,c2,c3,c4⟩:=hc;have hb:fn.body=some (body fn):=by
  unfold body;cases h:fn.body with
  |none=>rw[h]at c2;cases c2
  |some c=>rfl
 exact U7 (QM hX) hE (qb hT) h1 c1 hb (Nat.eq_of_beq_eq_true c3) (xD c4 hm)
theorem Yp {P:Program} {E:Env} (hE:cq P E) {T:List (bV×ij)} (hT:tT P T) (m:List (Nat×eB)) {X} (hX:Rm P X) {f:FuncId} {ks:List Nat} {fn:Func} {F:ij} (hm:DW P E 0 (body fn) m 0) (h1:P.funcs[f]? = some fn)
  (hc:D5 fn E.nt F.args.length m=true)
  (hfn:∀x,F.fn x=exec E (aP _) (kZ (uX T) _) (lkt (qc m) (Q2 X) noP _) 0 (body fn) (wc F.args (co _ x)) fun ex s=>bif ex.done then finish E (body fn) F.look F.args F.aT _ fn.results.toList s else none):tT P (((f,ks),F)::T):=by
 simp only[D5,Bool.and_eq_true,Bool.not_eq_true']at hc;obtain⟨c1,c2,c3,c4,c5⟩:=hc;have hb:fn.body=some (body fn):=by
  unfold body;cases h:fn.body with
  |none=>rw[h]at c2;cases c2
  |some c=>rfl
 exact⟨func_okI (QM hX) hE (qb hT) h1 c1 hb (Nat.eq_of_beq_eq_true c3) (Nat.le_of_ble_eq_true c4) (xD c5 hm) hfn,hT⟩
end Go.R
set_option linter.unusedVariables false
namespace Go.Fn
open Go.R
noncomputable def KJ(a:Unit)(b:Ms×Int×VB):Option (Ms×Int×VB⊕Vy⊕Empty):=letI c:=b.2.2;cond (af .gtr c.2.2.1 0) ((fq b.1 b.2.1 c.1 3).bind fun d=>(L0 d.2.1 d.2.2.1 d.2.2.2.1 c.2.1 d.1).bind fun e=>some (.inl (e.2.1,e.2.2.1,e.2.2.2.1,e.1,aa .sub .i64 c.2.2.1 1,()))) (some (.inr (.inl (b.1,b.2.1,c.1,c.2.1,()))))
noncomputable def Lq k x:=iter (KJ k) big x
noncomputable def MA(a:Unit)(b:Wj):XM:=letI c:=b.2.2.2;cond (af .gtr c.2.2.1 0) ((Jl b.1 b.2.1 b.2.2.1 (List.append (α:=Int) (List.append (α:=Int) (List.append (α:=Int) ([]:Ms) [(0:Int)]) [(1:Int)]) [(1:Int)])).bind fun d=>(L0 d.2.1 d.2.2.1 d.2.2.2.1 c.1 d.1).bind fun e=>some (.inl (e.2.1,e.2.2.1,e.2.2.2.1,e.1,c.2.1,aa .sub .i64 c.2.2.1 1,()))) (some (.inr (.inl (b.1,b.2.1,b.2.2.1,c.1,c.2.1,()))))
noncomputable def Jx k x:=iter (MA k) big x
noncomputable def MB(a:Unit)(b:Wj):XM:=letI c:=b.2.2.2;cond (af .gtr c.2.2.1 0) ((Jl b.1 b.2.1 b.2.2.1 (List.append (α:=Int) (List.append (α:=Int) (List.append (α:=Int) ([]:Ms) [(2:Int)]) [(3:Int)]) [(5:Int)])).bind fun d=>(L0 d.2.1 d.2.2.1 d.2.2.2.1 c.2.1 d.1).bind fun e=>some (.inl (e.2.1,e.2.2.1,e.2.2.2.1,c.1,e.1,aa .sub .i64 c.2.2.1 1,()))) (some (.inr (.inl (b.1,b.2.1,b.2.2.1,c.1,c.2.1,()))))
noncomputable def IR k x:=iter (MB k) big x
noncomputable def Ol(a:Ms)(b c:Int):Wn:=(fq a b c 6).bind fun d=>letI e:=([]:OL);(Lq () (d.2.1,d.2.2.1,d.2.2.2.1,e,d.1,())).bind fun f=>Sum.elim (fun g=>(fq g.1 g.2.1 g.2.2.1 6).bind fun h=>letI i:=(1:Int);letI j:=(0:Int);letI k:=(3:Int);letI l:=(5:Int);letI m:=(40:Int);letI n:=(4:Int);letI o:=g.2.2.2.1;cond (af .gtr h.1 j) ((Jl h.2.1 h.2.2.1 h.2.2.2.1 (List.append (α:=Int) (List.append (α:=Int) (List.append (α:=Int) ([]:Ms) [j]) [i]) [i])).bind fun p=>(fq p.2.1 p.2.2.1 p.2.2.2.1 n).bind fun q=>(fq q.2.1 q.2.2.1 q.2.2.2.1 n).bind fun r=>letI s:=aa .add .i64 i q.1;letI t:=aa .sub .i64 h.1 i;letI u:=fq r.2.1 r.2.2.1 r.2.2.2.1 k;cond (af .eql s 2) (u.bind fun v=>(fq v.2.1 v.2.2.1 v.2.2.2.1 m).bind fun w=>(Js o p.1 s (aa .add .i64 i v.1) j w.1).bind fun x=>(Jx () (w.2.1,w.2.2.1,w.2.2.2.1,x.1,o,t,())).bind fun y=>Sum.elim (fun z=>(fq z.1 z.2.1 z.2.2.1 6).bind fun A=>letI B:=A.2.2;letI C:=z.2.2.2;cond (af .gtr A.1 j) ((Jl A.2.1 B.1 B.2.1 (List.append (α:=Int) (List.append (α:=Int) (List.append (α:=Int) ([]:Ms) [(2:Int)]) [k]) [l])).bind fun D=>(fq D.2.1 D.2.2.1 D.2.2.2.1 n).bind fun E=>(fq E.2.1 E.2.2.1 E.2.2.2.1 n).bind fun F=>letI G:=aa .add .i64 i E.1;letI H:=aa .sub .i64 A.1 i;letI I:=fq F.2.1 F.2.2.1 F.2.2.2.1 k;cond (af .eql G 2) (I.bind fun J=>(fq J.2.1 J.2.2.1 J.2.2.2.1 m).bind fun K=>(Js C.2.1 D.1 G (aa .add .i64 i J.1) j K.1).bind fun L=>(IR () (K.2.1,K.2.2.1,K.2.2.2.1,C.1,L.1,H,())).bind fun M=>Sum.elim (fun N=>letI O:=N.2.2;(Jb O.2.1 O.2.2.1).bind fun P=>cond (Bool.not P.2.1) (some (O.2.1,N.1,N.2.1,O.1,())) ((I5 N.1 N.2.1 O.1 k).bind fun Q=>letI R:=P.1;letI S:=Q.2.2;letI T:=ai R;cond Q.1 (some (O.2.1,Q.2.1,S.1,S.2.1,())) (cond (af .gtr T j) ((I5 Q.2.1 S.1 S.2.1 l).bind fun U=>cond U.1 ((fq U.2.1 U.2.2.1 U.2.2.2.1 T).bind fun V=>letI W:=aa .add .i64 V.1 i;letI X:=eR R j V.1;cond (cS R j V.1) (cond (aE (List.append (α:=KH) e X)) (cond (cS R W T) (cond (aE (List.append (α:=KH) (List.append (α:=KH) e X) (eR R W T))) (some (List.append (α:=KH) (List.append (α:=KH) e X) (eR R W T),V.2.1,V.2.2.1,V.2.2.2.1,())) none) none) none) none) (some (R,U.2.1,U.2.2.1,U.2.2.2.1,()))) (some (R,Q.2.1,S.1,S.2.1,()))))) (fun N=>Empty.elim N) M) (I.bind fun J=>(fq J.2.1 J.2.2.1 J.2.2.2.1 m).bind fun K=>(Js C.2.1 D.1 G (aa .add .i64 i J.1) F.1 K.1).bind fun L=>(IR () (K.2.1,K.2.2.1,K.2.2.2.1,C.1,L.1,H,())).bind fun M=>Sum.elim (fun N=>letI O:=N.2.2;(Jb O.2.1 O.2.2.1).bind fun P=>cond (Bool.not P.2.1) (some (O.2.1,N.1,N.2.1,O.1,())) ((I5 N.1 N.2.1 O.1 k).bind fun Q=>letI R:=P.1;letI S:=Q.2.2;letI T:=ai R;cond Q.1 (some (O.2.1,Q.2.1,S.1,S.2.1,())) (cond (af .gtr T j) ((I5 Q.2.1 S.1 S.2.1 l).bind fun U=>cond U.1 ((fq U.2.1 U.2.2.1 U.2.2.2.1 T).bind fun V=>letI W:=aa .add .i64 V.1 i;letI X:=eR R j V.1;cond (cS R j V.1) (cond (aE (List.append (α:=KH) e X)) (cond (cS R W T) (cond (aE (List.append (α:=KH) (List.append (α:=KH) e X) (eR R W T))) (some (List.append (α:=KH) (List.append (α:=KH) e X) (eR R W T),V.2.1,V.2.2.1,V.2.2.2.1,())) none) none) none) none) (some (R,U.2.1,U.2.2.1,U.2.2.2.1,()))) (some (R,Q.2.1,S.1,S.2.1,()))))) (fun N=>Empty.elim N) M)) ((Jb C.1 C.2.1).bind fun D=>cond (Bool.not D.2.1) (some (C.1,A.2.1,B.1,B.2.1,())) ((I5 A.2.1 B.1 B.2.1 k).bind fun E=>letI F:=D.1;letI G:=E.2.2;letI H:=ai F;cond E.1 (some (C.1,E.2.1,G.1,G.2.1,())) (cond (af .gtr H j) ((I5 E.2.1 G.1 G.2.1 l).bind fun I=>cond I.1 ((fq I.2.1 I.2.2.1 I.2.2.2.1 H).bind fun J=>letI K:=aa .add .i64 J.1 i;letI L:=eR F j J.1;cond (cS F j J.1) (cond (aE (List.append (α:=KH) e L)) (cond (cS F K H) (cond (aE (List.append (α:=KH) (List.append (α:=KH) e L) (eR F K H))) (some (List.append (α:=KH) (List.append (α:=KH) e L) (eR F K H),J.2.1,J.2.2.1,J.2.2.2.1,())) none) none) none) none) (some (F,I.2.1,I.2.2.1,I.2.2.2.1,()))) (some (F,E.2.1,G.1,G.2.1,())))))) (fun z=>Empty.elim z) y) (u.bind fun v=>(fq v.2.1 v.2.2.1 v.2.2.2.1 m).bind fun w=>(Js o p.1 s (aa .add .i64 i v.1) r.1 w.1).bind fun x=>(Jx () (w.2.1,w.2.2.1,w.2.2.2.1,x.1,o,t,())).bind fun y=>Sum.elim (fun z=>(fq z.1 z.2.1 z.2.2.1 6).bind fun A=>letI B:=A.2.2;letI C:=z.2.2.2;cond (af .gtr A.1 j) ((Jl A.2.1 B.1 B.2.1 (List.append (α:=Int) (List.append (α:=Int) (List.append (α:=Int) ([]:Ms) [(2:Int)]) [k]) [l])).bind fun D=>(fq D.2.1 D.2.2.1 D.2.2.2.1 n).bind fun E=>(fq E.2.1 E.2.2.1 E.2.2.2.1 n).bind fun F=>letI G:=aa .add .i64 i E.1;letI H:=aa .sub .i64 A.1 i;letI I:=fq F.2.1 F.2.2.1 F.2.2.2.1 k;cond (af .eql G 2) (I.bind fun J=>(fq J.2.1 J.2.2.1 J.2.2.2.1 m).bind fun K=>(Js C.2.1 D.1 G (aa .add .i64 i J.1) j K.1).bind fun L=>(IR () (K.2.1,K.2.2.1,K.2.2.2.1,C.1,L.1,H,())).bind fun M=>Sum.elim (fun N=>letI O:=N.2.2;(Jb O.2.1 O.2.2.1).bind fun P=>cond (Bool.not P.2.1) (some (O.2.1,N.1,N.2.1,O.1,())) ((I5 N.1 N.2.1 O.1 k).bind fun Q=>letI R:=P.1;letI S:=Q.2.2;letI T:=ai R;cond Q.1 (some (O.2.1,Q.2.1,S.1,S.2.1,())) (cond (af .gtr T j) ((I5 Q.2.1 S.1 S.2.1 l).bind fun U=>cond U.1 ((fq U.2.1 U.2.2.1 U.2.2.2.1 T).bind fun V=>letI W:=aa .add .i64 V.1 i;letI X:=eR R j V.1;cond (cS R j V.1) (cond (aE (List.append (α:=KH) e X)) (cond (cS R W T) (cond (aE (List.append (α:=KH) (List.append (α:=KH) e X) (eR R W T))) (some (List.append (α:=KH) (List.append (α:=KH) e X) (eR R W T),V.2.1,V.2.2.1,V.2.2.2.1,())) none) none) none) none) (some (R,U.2.1,U.2.2.1,U.2.2.2.1,()))) (some (R,Q.2.1,S.1,S.2.1,()))))) (fun N=>Empty.elim N) M) (I.bind fun J=>(fq J.2.1 J.2.2.1 J.2.2.2.1 m).bind fun K=>(Js C.2.1 D.1 G (aa .add .i64 i J.1) F.1 K.1).bind fun L=>(IR () (K.2.1,K.2.2.1,K.2.2.2.1,C.1,L.1,H,())).bind fun M=>Sum.elim (fun N=>letI O:=N.2.2;(Jb O.2.1 O.2.2.1).bind fun P=>cond (Bool.not P.2.1) (some (O.2.1,N.1,N.2.1,O.1,())) ((I5 N.1 N.2.1 O.1 k).bind fun Q=>letI R:=P.1;letI S:=Q.2.2;letI T:=ai R;cond Q.1 (some (O.2.1,Q.2.1,S.1,S.2.1,())) (cond (af .gtr T j) ((I5 Q.2.1 S.1 S.2.1 l).bind fun U=>cond U.1 ((fq U.2.1 U.2.2.1 U.2.2.2.1 T).bind fun V=>letI W:=aa .add .i64 V.1 i;letI X:=eR R j V.1;cond (cS R j V.1) (cond (aE (List.append (α:=KH) e X)) (cond (cS R W T) (cond (aE (List.append (α:=KH) (List.append (α:=KH) e X) (eR R W T))) (some (List.append (α:=KH) (List.append (α:=KH) e X) (eR R W T),V.2.1,V.2.2.1,V.2.2.2.1,())) none) none) none) none) (some (R,U.2.1,U.2.2.1,U.2.2.2.1,()))) (some (R,Q.2.1,S.1,S.2.1,()))))) (fun N=>Empty.elim N) M)) ((Jb C.1 C.2.1).bind fun D=>cond (Bool.not D.2.1) (some (C.1,A.2.1,B.1,B.2.1,())) ((I5 A.2.1 B.1 B.2.1 k).bind fun E=>letI F:=D.1;letI G:=E.2.2;letI H:=ai F;cond E.1 (some (C.1,E.2.1,G.1,G.2.1,())) (cond (af .gtr H j) ((I5 E.2.1 G.1 G.2.1 l).bind fun I=>cond I.1 ((fq I.2.1 I.2.2.1 I.2.2.2.1 H).bind fun J=>letI K:=aa .add .i64 J.1 i;letI L:=eR F j J.1;cond (cS F j J.1) (cond (aE (List.append (α:=KH) e L)) (cond (cS F K H) (cond (aE (List.append (α:=KH) (List.append (α:=KH) e L) (eR F K H))) (some (List.append (α:=KH) (List.append (α:=KH) e L) (eR F K H),J.2.1,J.2.2.1,J.2.2.2.1,())) none) none) none) none) (some (F,I.2.1,I.2.2.1,I.2.2.2.1,()))) (some (F,E.2.1,G.1,G.2.1,())))))) (fun z=>Empty.elim z) y)) ((fq h.2.1 h.2.2.1 h.2.2.2.1 6).bind fun p=>letI q:=p.2.2;cond (af .gtr p.1 j) ((Jl p.2.1 q.1 q.2.1 (List.append (α:=Int) (List.append (α:=Int) (List.append (α:=Int) ([]:Ms) [(2:Int)]) [k]) [l])).bind fun r=>(fq r.2.1 r.2.2.1 r.2.2.2.1 n).bind fun s=>(fq s.2.1 s.2.2.1 s.2.2.2.1 n).bind fun t=>letI u:=aa .add .i64 i s.1;letI v:=aa .sub .i64 p.1 i;letI w:=fq t.2.1 t.2.2.1 t.2.2.2.1 k;cond (af .eql u 2) (w.bind fun x=>(fq x.2.1 x.2.2.1 x.2.2.2.1 m).bind fun y=>(Js o r.1 u (aa .add .i64 i x.1) j y.1).bind fun z=>(IR () (y.2.1,y.2.2.1,y.2.2.2.1,o,z.1,v,())).bind fun A=>Sum.elim (fun B=>letI C:=B.2.2;(Jb C.2.1 C.2.2.1).bind fun D=>cond (Bool.not D.2.1) (some (C.2.1,B.1,B.2.1,C.1,())) ((I5 B.1 B.2.1 C.1 k).bind fun E=>letI F:=D.1;letI G:=E.2.2;letI H:=ai F;cond E.1 (some (C.2.1,E.2.1,G.1,G.2.1,())) (cond (af .gtr H j) ((I5 E.2.1 G.1 G.2.1 l).bind fun I=>cond I.1 ((fq I.2.1 I.2.2.1 I.2.2.2.1 H).bind fun J=>letI K:=aa .add .i64 J.1 i;letI L:=eR F j J.1;cond (cS F j J.1) (cond (aE (List.append (α:=KH) e L)) (cond (cS F K H) (cond (aE (List.append (α:=KH) (List.append (α:=KH) e L) (eR F K H))) (some (List.append (α:=KH) (List.append (α:=KH) e L) (eR F K H),J.2.1,J.2.2.1,J.2.2.2.1,())) none) none) none) none) (some (F,I.2.1,I.2.2.1,I.2.2.2.1,()))) (some (F,E.2.1,G.1,G.2.1,()))))) (fun B=>Empty.elim B) A) (w.bind fun x=>(fq x.2.1 x.2.2.1 x.2.2.2.1 m).bind fun y=>(Js o r.1 u (aa .add .i64 i x.1) t.1 y.1).bind fun z=>(IR () (y.2.1,y.2.2.1,y.2.2.2.1,o,z.1,v,())).bind fun A=>Sum.elim (fun B=>letI C:=B.2.2;(Jb C.2.1 C.2.2.1).bind fun D=>cond (Bool.not D.2.1) (some (C.2.1,B.1,B.2.1,C.1,())) ((I5 B.1 B.2.1 C.1 k).bind fun E=>letI F:=D.1;letI G:=E.2.2;letI H:=ai F;cond E.1 (some (C.2.1,E.2.1,G.1,G.2.1,())) (cond (af .gtr H j) ((I5 E.2.1 G.1 G.2.1 l).bind fun I=>cond I.1 ((fq I.2.1 I.2.2.1 I.2.2.2.1 H).bind fun J=>letI K:=aa .add .i64 J.1 i;letI L:=eR F j J.1;cond (cS F j J.1) (cond (aE (List.append (α:=KH) e L)) (cond (cS F K H) (cond (aE (List.append (α:=KH) (List.append (α:=KH) e L) (eR F K H))) (some (List.append (α:=KH) (List.append (α:=KH) e L) (eR F K H),J.2.1,J.2.2.1,J.2.2.2.1,())) none) none) none) none) (some (F,I.2.1,I.2.2.1,I.2.2.2.1,()))) (some (F,E.2.1,G.1,G.2.1,()))))) (fun B=>Empty.elim B) A)) ((Jb o o).bind fun r=>cond (Bool.not r.2.1) (some (o,p.2.1,q.1,q.2.1,())) ((I5 p.2.1 q.1 q.2.1 k).bind fun s=>letI t:=r.1;letI u:=s.2.2;letI v:=ai t;cond s.1 (some (o,s.2.1,u.1,u.2.1,())) (cond (af .gtr v j) ((I5 s.2.1 u.1 u.2.1 l).bind fun w=>cond w.1 ((fq w.2.1 w.2.2.1 w.2.2.2.1 v).bind fun x=>letI y:=aa .add .i64 x.1 i;letI z:=eR t j x.1;cond (cS t j x.1) (cond (aE (List.append (α:=KH) e z)) (cond (cS t y v) (cond (aE (List.append (α:=KH) (List.append (α:=KH) e z) (eR t y v))) (some (List.append (α:=KH) (List.append (α:=KH) e z) (eR t y v),x.2.1,x.2.2.1,x.2.2.2.1,())) none) none) none) none) (some (t,w.2.1,w.2.2.1,w.2.2.2.1,()))) (some (t,s.2.1,u.1,u.2.1,()))))))) (fun g=>Empty.elim g) f
noncomputable def J0(a:Unit)(b:Vy):Option (Vy⊕Vy⊕Vy⊕Empty):=(fq b.1 b.2.1 b.2.2.1 3).bind fun c=>letI d:=b.2.2.2.1;cond (af .lss (ai d) (aa .add .i64 59 c.1)) ((L0 c.2.1 c.2.2.1 c.2.2.2.1 d 4).bind fun e=>(JZ e.1).bind fun f=>letI g:=(e.2.1,e.2.2.1,e.2.2.2.1,e.1,());cond (Bool.not f.1) (some (.inr (.inl g))) (some (.inl g))) (some (.inr (.inr (.inl (c.2.1,c.2.2.1,c.2.2.2.1,d,())))))
noncomputable def NI k x:=iter (J0 k) big x
noncomputable def OW(a:Ms)(b c:Int):Wn:=(Ol a b c).bind fun d=>letI e:=d.1;cond (af .eql (ai e) 0) (some (e,d.2.1,d.2.2.1,d.2.2.2.1,())) ((fq d.2.1 d.2.2.1 d.2.2.2.1 (ai e)).bind fun f=>(fq f.2.1 f.2.2.1 f.2.2.2.1 16).bind fun g=>letI h:=g.2.2;letI i:=g.2.1;letI j:=h.2.1;letI k:=ah e f.1;letI l:=ae vp e f.1;letI m:=l.2.2;letI n:=m.2.2;letI o:=n.2;cond (af .eql g.1 0) ((Jl i h.1 j (List.append (α:=Int) (List.append (α:=Int) (List.append (α:=Int) (List.append (α:=Int) ([]:Ms) [(-1:Int)]) [(0:Int)]) [(5:Int)]) [(6:Int)])).bind fun p=>cond k (lets (aC e f.1 (p.1,l.2.1,m.1,m.2.1,n.1,o.1,o.2)) fun q=>some (q,p.2.1,p.2.2.1,p.2.2.2.1,())) none) (cond (af .eql g.1 1) ((Jl i h.1 j (List.append (α:=Int) (List.append (α:=Int) (List.append (α:=Int) (List.append (α:=Int) ([]:Ms) [(0:Int)]) [(1:Int)]) [(999:Int)]) [(1000:Int)])).bind fun p=>cond k (lets (aC e f.1 (l.1,p.1,m.1,m.2.1,n.1,o.1,o.2)) fun q=>some (q,p.2.1,p.2.2.1,p.2.2.2.1,())) none) (cond (af .eql g.1 2) ((Jl i h.1 j (List.append (α:=Int) (List.append (α:=Int) (List.append (α:=Int) (List.append (α:=Int) ([]:Ms) [(0:Int)]) [(1:Int)]) [(100000:Int)]) [(100001:Int)])).bind fun p=>cond k (lets (aC e f.1 (l.1,l.2.1,p.1,m.2.1,n.1,o.1,o.2)) fun q=>some (q,p.2.1,p.2.2.1,p.2.2.2.1,())) none) (cond (af .eql g.1 3) ((Jl i h.1 j (List.append (α:=Int) (List.append (α:=Int) (List.append (α:=Int) (List.append (α:=Int) ([]:Ms) [(0:Int)]) [(1:Int)]) [(4:Int)]) [(5:Int)])).bind fun p=>cond k (lets (aC e f.1 (l.1,l.2.1,m.1,p.1,n.1,o.1,o.2)) fun q=>some (q,p.2.1,p.2.2.1,p.2.2.2.1,())) none) (cond (af .eql g.1 4) ((NI () (i,h.1,j,e,())).bind fun p=>Sum.elim (fun q=>some (q.2.2.2.1,q.1,q.2.1,q.2.2.1,())) (fun q=>Sum.elim (fun r=>some (r.2.2.2.1,r.1,r.2.1,r.2.2.1,())) (fun r=>Empty.elim r) q) p) (some (e,i,h.1,j,())))))))
noncomputable def M8(a:Ms):Option TS:=(OV a).bind fun b=>(OW b.1 b.2.1 b.2.2.1).bind fun c=>(fq c.2.1 c.2.2.1 c.2.2.2.1 6).bind fun d=>some (c.1,aa .sub .i64 d.1 1,())
noncomputable def Lo(a:Ri)(b:OL×V8):XO:=letI c:=b.2.2.2;letI d:=c.2.2;letI e:=d.2.2.2;letI f:=(b.1,b.2.1,b.2.2.1,c.1,c.2.1,d.1,d.2.1,d.2.2.1,e.1,());cond (af .lss e.2.1 (ai b.1)) ((JZ b.1).bind fun g=>letI h:=aa .add .i64 e.2.1 1;cond g.1 (cond (ah b.1 e.2.1) (cond (af .eql (ae vp b.1 e.2.1).2.2.2.2.1 a.1) (some (.inl (b.1,b.2.1,b.2.2.1,c.1,c.2.1,d.1,d.2.1,d.2.2.1,aa .add .i64 e.1 1,h,()))) (some (.inl (b.1,b.2.1,b.2.2.1,c.1,c.2.1,d.1,d.2.1,d.2.2.1,e.1,h,())))) none) (some (.inr (.inl f)))) (some (.inr (.inl f)))
noncomputable def M7 k x:=iter (Lo k) big x
noncomputable def O8(a:Ms):Sj:=(QG a).bind fun b=>letI c:=some (true,());cond b.1 c ((M8 a).bind fun d=>letI e:=d.2.1;(LV d.1 e).bind fun f=>(LC d.1 e).bind fun g=>letI h:=f.2.2.2;letI i:=g.2.2.2;lets (Bool.not (Bool.and (af .eql f.1 g.1) (Bool.and (af .eql f.2.1 g.2.1) (Bool.and (af .eql f.2.2.1 g.2.2.1) (Bool.and (af .eql h.1 i.1) (Bool.and (af .eql h.2.1 i.2.1) (Bool.and (af .eql h.2.2.1 i.2.2.1) (Bool.and (af .eql h.2.2.2.1 i.2.2.2.1) true)))))))) fun j=>letI k:=some (false,());cond j k ((Nr d.1).bind fun l=>(NB d.1).bind fun m=>cond (af .neq l.1 m.1) k ((KY d.1).bind fun n=>(Mr d.1).bind fun o=>(N3 n.1 o.1).bind fun p=>cond (Bool.not p.1) k ((M7 (e,()) (d.1,f.1,f.2.1,f.2.2.1,h.1,h.2.1,h.2.2.1,h.2.2.2.1,0,0,())).bind fun q=>Sum.elim (fun r=>letI s:=r.2.1;letI t:=r.2.2.2.2;letI u:=t.2.2.2;letI v:=af .eql s 1;letI w:=af .eql s 2;letI x:=(KY r.1).bind fun x=>(Pp x.1 e).bind fun y=>cond (Bool.not (bT y.1 (af .gtr u.2.1 0))) k ((Js r.1 3 3 e 7 9).bind fun z=>cond (Bool.not z.2.1) c ((LV z.1 e).bind fun A=>letI B:=A.2.2.2;letI C:=af .eql A.2.2.1 r.2.2.2.1;letI D:=af .eql B.1 t.1;cond v (cond (af .eql A.1 2) (cond (af .eql B.2.1 7) (cond (af .eql B.2.2.1 9) (cond C (cond (af .eql B.2.2.2.1 u.1) (some (D,())) k) k) k) k) k) (lets (Bool.and (af .eql A.1 s) (Bool.and (af .eql A.2.1 r.2.2.1) (Bool.and C (Bool.and D (Bool.and (af .eql B.2.1 t.2.1) (Bool.and (af .eql B.2.2.1 t.2.2.1) (Bool.and (af .eql B.2.2.2.1 (aa .add .i64 u.1 1)) true))))))) fun E=>some (E,()))));letI y:=cond (af .neq u.2.1 (aa .add .i64 t.1 u.1)) k x;letI z:=cond (af .neq u.2.1 (aa .add .i64 (aa .add .i64 t.1 2) u.1)) k x;cond v (cond (af .neq u.2.1 (aa .add .i64 (aa .add .i64 t.1 1) u.1)) k x) (cond w (cond w z y) (cond (af .eql s 3) z y))) (fun r=>Empty.elim r) q))))
end Go.Fn
set_option linter.unusedSimpArgs false
set_option linter.unusedVariables false
namespace Go.Fn
open Go.R Go.Sort
abbrev LJ(n:Nat)(l:List Ev):Prop:=PX n [] (fun k=>k≠4) l
section
variable {β:Type}
noncomputable def Ue(b:List Int)(i h:Int)(l:List Ev)(node:Int)(k:List Int->Int->Int->List Ev->Option β):Option β:=
 (fq b i h (4:Int)).bind fun y0=>(fq y0.2.1 y0.2.2.1 y0.2.2.2.1 (4:Int)).bind fun y1=>bif (af .eql (aa .add .i64 (1:Int) y0.1) (2:Int))then
  ((fq y1.2.1 y1.2.2.1 y1.2.2.2.1 (3:Int)).bind fun y2=>(fq y2.2.1 y2.2.2.1 y2.2.2.2.1 (40:Int)).bind fun y3=>(Js l node (aa .add .i64 (1:Int) y0.1) (aa .add .i64 (1:Int) y2.1) (0:Int) y3.1).bind fun y4=>k y3.2.1 y3.2.2.1 y3.2.2.2.1 y4.1)
 else((fq y1.2.1 y1.2.2.1 y1.2.2.2.1 (3:Int)).bind fun y2=>(fq y2.2.1 y2.2.2.1 y2.2.2.2.1 (40:Int)).bind fun y3=>(Js l node (aa .add .i64 (1:Int) y0.1) (aa .add .i64 (1:Int) y2.1) y1.1 y3.1).bind fun y4=>k y3.2.1 y3.2.2.1 y3.2.2.2.1 y4.1)
theorem Sk (b:List Int) (hb:b.length<=1048576) (i h:Int) (hi:0<=i) {n:Nat} (hn:n<=1000) {l:List Ev} (hl:LJ n l) {node:Int} (hS:node≠4) {k:List Int->Int->Int->List Ev->Option β} {P:β->Prop}
  (hk:∀i h x,0<=i->LJ (n+1) x->Yl (k b i h x) P):Yl (Ue b i h l node k) P:=by
 have UO:l.length<=1073741824:=by have:=hl.len;omega
 unfold Ue;refine(Km b hb i h 4 hi (by omega)).bind fun y0 ⟨_,_,a3,a4⟩=>?_;rw[a3];refine(Km b hb _ _ 4 a4 (by omega)).bind fun y1 ⟨_,_,b3,b4⟩=>?_;rw[b3];refine .cond (fun _=>?_) fun _=>?_
 ·refine(Km b hb _ _ 3 b4 (by omega)).bind fun y2 ⟨_,_,c3,c4⟩=>?_;rw[c3];refine(Km b hb _ _ 40 c4 (by omega)).bind fun y3 ⟨_,_,d3,d4⟩=>?_;rw[NX l _ _ _ _ _ UO,d3];exact hk _ _ _ d4 (hl.add hS _ _ _ _)
 ·refine(Km b hb _ _ 3 b4 (by omega)).bind fun y2 ⟨_,_,c3,c4⟩=>?_;rw[c3];refine(Km b hb _ _ 40 c4 (by omega)).bind fun y3 ⟨_,_,d3,d4⟩=>?_;rw[NX l _ _ _ _ _ UO,d3];exact hk _ _ _ d4 (hl.add hS _ _ _ _)
end
abbrev Ua:=List Ev×List Int×Int×Int×Unit
noncomputable def Sx(b:List Int)(i h:Int)(a bl:List Ev):Option Ua:=
 (Jb a bl).bind fun y13=>bif (Bool.not y13.2.1)then some (a,b,i,h,())else((I5 b i h (3:Int)).bind fun y14=>bif y14.1 then some (a,y14.2.1,y14.2.2.1,y14.2.2.2.1,())else(bif (af .gtr (ai y13.1) (0:Int))then
  ((I5 y14.2.1 y14.2.2.1 y14.2.2.2.1 (5:Int)).bind fun y15=>bif y15.1 then((fq y15.2.1 y15.2.2.1 y15.2.2.2.1 (ai y13.1)).bind fun y16=>bif (cS y13.1 (0:Int) y16.1)then(bif (aE (List.append (α:=Ev) ([]:List Ev) (eR y13.1 (0:Int) y16.1)))then(bif (cS y13.1 (aa .add .i64 y16.1 (1:Int)) (ai y13.1))then
   (bif (aE (List.append (α:=Ev) (List.append (α:=Ev) ([]:List Ev) (eR y13.1 (0:Int) y16.1)) (eR y13.1 (aa .add .i64 y16.1 (1:Int)) (ai y13.1))))then some ((List.append (α:=Ev) (List.append (α:=Ev) ([]:List Ev) (eR y13.1 (0:Int) y16.1)) (eR y13.1 (aa .add .i64 y16.1 (1:Int)) (ai y13.1))),y16.2.1,y16.2.2.1,y16.2.2.2.1,())else none)else none)else none)else none)
   else some (y13.1,y15.2.1,y15.2.2.1,y15.2.2.2.1,()))else some (y13.1,y14.2.1,y14.2.2.1,y14.2.2.2.1,())))
noncomputable def Sw(b:List Int)(i h:Int)(a bl:List Ev):Option Ua:=
 (fq b i h (6:Int)).bind fun y12=>bif (af .gtr y12.1 (0:Int))then((Jl y12.2.1 y12.2.2.1 y12.2.2.2.1 (List.append (α:=Int) (List.append (α:=Int) (List.append (α:=Int) ([]:List (Int)) [(2:Int)]) [(3:Int)]) [(5:Int)])).bind fun y13=>
  Ue y13.2.1 y13.2.2.1 y13.2.2.2.1 bl y13.1 fun b i h x=>(IR (()) (b,i,h,a,x,(aa .sub .i64 y12.1 (1:Int)),())).bind fun q=>Sum.elim (fun y=>Sx y.1 y.2.1 y.2.2.1 y.2.2.2.1 y.2.2.2.2.1) (fun q=>Empty.elim q) q)
  else Sx y12.2.1 y12.2.2.1 y12.2.2.2.1 a bl
noncomputable def TC(b:List Int)(i h:Int)(a:List Ev):Option Ua:=
 (fq b i h (6:Int)).bind fun y3=>bif (af .gtr y3.1 (0:Int))then((Jl y3.2.1 y3.2.2.1 y3.2.2.2.1 (List.append (α:=Int) (List.append (α:=Int) (List.append (α:=Int) ([]:List (Int)) [(0:Int)]) [(1:Int)]) [(1:Int)])).bind fun y4=>
  Ue y4.2.1 y4.2.2.1 y4.2.2.2.1 a y4.1 fun b i h x=>(Jx (()) (b,i,h,x,a,(aa .sub .i64 y3.1 (1:Int)),())).bind fun q=>Sum.elim (fun y=>Sw y.1 y.2.1 y.2.2.1 y.2.2.2.1 y.2.2.2.2.1) (fun q=>Empty.elim q) q)
  else Sw y3.2.1 y3.2.2.1 y3.2.2.2.1 a a
theorem R3(b:List Int)(i h:Int):Ol b i h=(fq b i h (6:Int)).bind fun y0=>(Lq (()) (y0.2.1,y0.2.2.1,y0.2.2.2.1,([]:List Ev),y0.1,())).bind fun q1=>Sum.elim (fun y2=>TC y2.1 y2.2.1 y2.2.2.1 y2.2.2.2.1) (fun q=>Empty.elim q) q1:=rfl
noncomputable def TZ(b:List Int)(y:Ua):Prop:=(L2 y.1=true/\(∀x,x∈y.1->x.2.2.1<=16/\x.1≠4))/\y.2.1=b/\0<=y.2.2.1
theorem LJ.out{n:Nat}(hn:n<=16){l:List Ev}(h:LJ n l):L2 l=true/\∀x,x∈l->x.2.2.1<=16/\x.1≠4:=⟨h.j,fun x hx=>⟨by have:=h.st x hx;omega,(h.new x hx).resolve_left List.not_mem_nil⟩⟩
theorem UH{l:List Ev}{x:Ev}{a b:Nat}(h:x∈(l.take a++l.drop b)):x∈l:=by
 rcases List.mem_append.1 h with h|h
 ·exact List.mem_of_mem_take h
 ·exact List.mem_of_mem_drop h
theorem Ur{l m:List Ev}(h:L2 l=true)(hs:m.Sublist l):L2 m=true:=by obtain⟨h1,h2,h3⟩:=PC.1 h;exact PC.2 ⟨Nat.le_trans hs.length_le h1,fun x hx=>h2 x (hs.subset hx),h3.sublist hs⟩
theorem Uj(l:List Ev)(k:Nat):(l.take k++l.drop (k+1)).Sublist l:=by
 have h:=List.take_append_drop k l;have h2:(l.drop (k+1)).Sublist (l.drop k):=by rw[<-List.drop_drop];exact List.drop_sublist _ _
 have h3:=List.Sublist.append (List.Sublist.refl (l.take k)) h2;rwa[h]at h3
theorem RK{α:Type}{l:List α}{x y:Int}(h0:0<=x)(h1:x<=y)(h2:y<=(l.length:Int)):cS l x y=true:=by unfold cS;rw[decide_eq_true h0,decide_eq_true h1,decide_eq_true h2];rfl
theorem RE(b:List Int)(hb:b.length<=1048576)(i h:Int)(hi:0<=i){a bl:List Ev}(ha:LJ 16 a)(BA:LJ 16 bl):Yl (Sx b i h a bl) (TZ b):=by
 unfold Sx;rw[Rf];simp only[Option.bind_some];cases hM:(NV a bl).2 with
 |false=>exact .ret ⟨ha.out (by omega),rfl,hi⟩
 |true=>
  obtain⟨_,_,hj,hm,_,_⟩:=Rx hM;have hlen:=R8 a bl;have hmo:∀x,x∈(NV a bl).1->x.2.2.1<=16/\x.1≠4:=fun x hx=>by
   rcases(hm x).1 hx with h|h
   ·exact(ha.out (by omega)).2 x h
   ·exact(BA.out (by omega)).2 x h
  revert hj hlen hmo;generalize (NV a bl).1=m;intro hj hlen hmo;simp only[Bool.not_true,cond_false];refine(Sv b hb i h 3 hi (by omega)).bind fun y14 ⟨b1,b2⟩=>?_;rw[b1];refine .cond (fun _=>.ret ⟨ha.out (by omega),rfl,b2⟩) fun _=>.cond (fun hg=>?_) fun _=>.ret ⟨⟨hj,hmo⟩,rfl,b2⟩;refine(Sv b hb _ _ 5 b2 (by omega)).bind fun y15 ⟨c1,c2⟩=>?_;rw[c1];refine .cond (fun _=>?_) fun _=>.ret ⟨⟨hj,hmo⟩,rfl,c2⟩;refine(Km b hb _ _ (ai m) c2 (by unfold ai;omega)).bind fun y16 ⟨d1,d2,d3,d4⟩=>?_;have hg:(0:Int)<(m.length:Int):=of_decide_eq_true hg;have d2:y16.1<=max 0 ((m.length:Int)-1):=d2;have e1:aa .add .i64 y16.1 (1:Int)=y16.1+1:=bU (by omega) (by omega);rw[e1,d3];have s1:eR m (0:Int) y16.1=m.take y16.1.toNat:=by unfold eR;simp
  have s2:eR m (y16.1+1) (ai m)=m.drop (y16.1.toNat+1):=by unfold eR ai;rw[show(y16.1+1).toNat=y16.1.toNat+1 by omega];apply List.take_of_length_le;rw[List.length_drop];omega
  rw[s1,s2];refine .guard (RK (by omega) (by omega) (by omega)) (.guard (Mq (by simp;omega)) (.guard (RK (by omega) (by unfold ai;omega) (by unfold ai;omega)) (.guard (Mq (by simp;omega)) (.ret ⟨⟨?_,?_⟩,rfl,d4⟩))))
  ·exact Ur hj (Uj m _)
  ·intro x hx;exact hmo x (UH hx)
theorem RA(b:List Int)(hb:b.length<=1048576)(i h:Int)(hi:0<=i){a bl:List Ev}(ha:LJ 11 a)(BA:LJ 11 bl):Yl (Sw b i h a bl) (TZ b):=by
 unfold Sw;refine(Km b hb i h 6 hi (by omega)).bind fun y0 ⟨a1,a2,a3,a4⟩=>?_;have a2:y0.1<=5:=a2;rw[a3];refine .cond (fun hg=>?_) fun _=>RE b hb _ _ a4 (ha.mono (by omega)) (BA.mono (by omega));have hg:(0:Int)<y0.1:=of_decide_eq_true hg;have e1:aa .sub .i64 y0.1 (1:Int)=y0.1-1:=bM (by omega) (by omega);rw[e1];refine(OJ b hb _ _ [2,3,5] a4 (by simp) (by simp)).bind fun y1 ⟨b1,b2,b3⟩=>?_;have b1:y1.1=2\/y1.1=3\/y1.1=5:=by simpa using b1
 rw[b2];refine Sk b hb _ _ b3 (by omega) BA (by omega) fun i1 h1 x hi1 hx=>?_;have OQ:Yl (IR (()) (b,i1,h1,a,x,y0.1-1,())) fun q=>match q with| .inl y=>y.1=b/\0<=y.2.1/\y.2.2.2.1=a/\LJ 16 y.2.2.2.2.1| .inr _=>False:=by
  unfold IR;refine Yl.loop (fun x=>x.1=b/\0<=x.2.1/\0<=x.2.2.2.2.2.1/\x.2.2.2.2.2.1<=4/\x.2.2.2.1=a/\LJ (12+(4-x.2.2.2.2.2.1).toNat) x.2.2.2.2.1) (fun x=>x.2.2.2.2.2.1.toNat) (fun x hx=>?_) big _ ⟨rfl,hi1,by dsimp only;omega,by dsimp only;omega,rfl,hx.mono (by dsimp only;omega)⟩ (aN (by dsimp only;omega));obtain⟨xb,xi,xh,xa,xl,xc,u⟩:=x;obtain⟨x1,x2,x3,x4,x5,x6⟩:=hx;simp only[]at x1 x2 x3 x4 x5 x6;subst x1 x5;unfold MB;refine .cond (fun hp=>?_) fun _=>.ret ⟨rfl,x2,rfl,x6.mono (by omega)⟩;have hp:(0:Int)<xc:=of_decide_eq_true hp;refine(OJ xb hb xi xh [2,3,5] x2 (by simp) (by simp)).bind fun z ⟨c1,c3,c4⟩=>?_;have c1:z.1=2\/z.1=3\/z.1=5:=by simpa using c1
  rw[c3];refine(RS xb hb _ _ c4 (by omega) x6 (node:=z.1) (by omega)).bind fun w ⟨d1,d2,d3⟩=>.ret ⟨⟨d2,d3,?_,?_,rfl,d1.mono ?_⟩,?_⟩;all_goals (have e:aa .sub .i64 xc (1:Int)=xc-1:=bM (by omega) (by omega));dsimp only;rw[e];omega
 refine OQ.bind fun q hq=>?_;match q,hq with
 | .inl y,⟨q1,q2,q3,q4⟩=>simp only[Sum.elim_inl];rw[q1,q3];exact RE b hb _ _ q2 (ha.mono (by omega)) q4
theorem TD(b:List Int)(hb:b.length<=1048576)(i h:Int)(hi:0<=i){a:List Ev}(ha:LJ 5 a):Yl (TC b i h a) (TZ b):=by
 unfold TC;refine(Km b hb i h 6 hi (by omega)).bind fun y0 ⟨a1,a2,a3,a4⟩=>?_;have a2:y0.1<=5:=a2;rw[a3];refine .cond (fun hg=>?_) fun _=>RA b hb _ _ a4 (ha.mono (by omega)) (ha.mono (by omega));have hg:(0:Int)<y0.1:=of_decide_eq_true hg;have e1:aa .sub .i64 y0.1 (1:Int)=y0.1-1:=bM (by omega) (by omega);rw[e1];refine(OJ b hb _ _ [0,1,1] a4 (by simp) (by simp)).bind fun y1 ⟨b1,b2,b3⟩=>?_;have b1:y1.1=0\/y1.1=1:=by simpa using b1
 rw[b2];refine Sk b hb _ _ b3 (by omega) ha (by omega) fun i1 h1 x hi1 hx=>?_;have OQ:Yl (Jx (()) (b,i1,h1,x,a,y0.1-1,())) fun q=>match q with| .inl y=>y.1=b/\0<=y.2.1/\LJ 10 y.2.2.2.1/\y.2.2.2.2.1=a| .inr _=>False:=by
  unfold Jx;refine Yl.loop (fun x=>x.1=b/\0<=x.2.1/\0<=x.2.2.2.2.2.1/\x.2.2.2.2.2.1<=4/\LJ (6+(4-x.2.2.2.2.2.1).toNat) x.2.2.2.1/\x.2.2.2.2.1=a) (fun x=>x.2.2.2.2.2.1.toNat) (fun x hx=>?_) big _ ⟨rfl,hi1,by dsimp only;omega,by dsimp only;omega,hx.mono (by dsimp only;omega),rfl⟩ (aN (by dsimp only;omega));obtain⟨xb,xi,xh,xl,xa,xc,u⟩:=x;obtain⟨x1,x2,x3,x4,x6,x5⟩:=hx;simp only[]at x1 x2 x3 x4 x5 x6;subst x1 x5;unfold MA;refine .cond (fun hp=>?_) fun _=>.ret ⟨rfl,x2,x6.mono (by omega),rfl⟩;have hp:(0:Int)<xc:=of_decide_eq_true hp;refine(OJ xb hb xi xh [0,1,1] x2 (by simp) (by simp)).bind fun z ⟨c1,c3,c4⟩=>?_;have c1:z.1=0\/z.1=1:=by simpa using c1
  rw[c3];refine(RS xb hb _ _ c4 (by omega) x6 (node:=z.1) (by omega)).bind fun w ⟨d1,d2,d3⟩=>.ret ⟨⟨d2,d3,?_,?_,d1.mono ?_,rfl⟩,?_⟩;all_goals (have e:aa .sub .i64 xc (1:Int)=xc-1:=bM (by omega) (by omega));dsimp only;rw[e];omega
 refine OQ.bind fun q hq=>?_;match q,hq with
 | .inl y,⟨q1,q2,q3,q4⟩=>simp only[Sum.elim_inl];rw[q1,q4];exact RA b hb _ _ q2 (q3.mono (by omega)) (ha.mono (by omega))
theorem R4(b:List Int)(hb:b.length<=1048576)(i h:Int)(hi:0<=i):Yl (Ol b i h) (TZ b):=by
 rw[R3];refine(Km b hb i h 6 hi (by omega)).bind fun y0 ⟨a1,a2,a3,a4⟩=>?_;have a2:y0.1<=5:=a2;rw[a3];have start:LJ 0 []:=⟨rfl,Nat.le_refl _,fun x hx=>absurd hx List.not_mem_nil,fun x hx=>absurd hx List.not_mem_nil,fun x hx=>absurd hx List.not_mem_nil,fun x hx=>absurd hx List.not_mem_nil⟩
 refine(Uf b hb (body:=KJ ()) 0 (by omega) (fun i h SE l n hi hn hl hp=>?_) (fun i h SE l hp=>?_) y0.2.2.1 y0.2.2.2.1 y0.1 [] a4 a1 a2 start).bind fun q hq=>?_
 ·unfold KJ;rw[VO,decide_eq_true hp];refine(Km b hb i h 3 hi (by omega)).bind fun z ⟨c1,c2,c3,c4⟩=>?_;have c2:z.1<=2:=c2;simp only[c3];exact(RS b hb _ _ c4 (by omega) hl (node:=z.1) (by omega)).bind fun w ⟨d1,d2,d3⟩=>.ret ⟨d2,d3,d1,rfl⟩
 ·unfold KJ;rw[VO,decide_eq_false hp];rfl
 match q,hq with
 | .inl y2,⟨h1,h2,h3⟩=>simp only[Sum.elim_inl];rw[h1];exact TD b hb _ _ h2 h3
end Go.Fn
set_option linter.unusedSimpArgs false
set_option linter.unusedVariables false
namespace Go.Fn
open Go.R Go.Sort
noncomputable def Ma(h:Int):Int:=aa .add .i64 (aa .mul .i64 h (6364136223846793005:Int)) (1442695040888963407:Int)
noncomputable def byteOf(h:Int):Int:=aa .and .i64 (aa .xor .i64 (ay .shr .i64 h (33:Int)) (ay .shr .i64 h (45:Int))) (255:Int)
noncomputable def NZ(b:List Int)(i:Int):Int:=bif decide (i<(b.length:Int))then i+1 else i
theorem VD(b:List Int)(hb:b.length<=1048576)(i h:Int)(hi:0<=i):∃y,K2 b i h=some (y,b,NZ b i,Ma h,())/\0<=y/\((b.length:Int)<=i->y=byteOf (Ma h)):=by
 obtain⟨y,e,y1,_⟩:=Pz b hb i h hi;by_cases hlt:i<(b.length:Int)
 ·refine⟨y.1,?_,y1,fun h=>absurd h (by omega)⟩;have e':=e;unfold K2 at e;have c1:af .lss i (ai b)=true:=by rw[PA];exact decide_eq_true hlt
  rw[c1,P3 hi hlt]at e;have e:=Option.some.inj (show some _=some y from e);rw[e'];have e2:aa .add .i64 i (1:Int)=i+1:=bU (by omega) (by omega);rw[<-e,e2];unfold NZ;rw[decide_eq_true hlt];rfl
 ·refine⟨byteOf (Ma h),?_,?_,fun _=>rfl⟩
  ·unfold K2 NZ;have c1:af .lss i (ai b)=false:=by rw[PA];exact decide_eq_false hlt
   rw[c1,decide_eq_false hlt];rfl
  ·exact(Tf _ (c:=255) (by omega)).1
theorem NO(b:List Int)(i:Int):i<=NZ b i:=by
 unfold NZ;cases decide (i<(b.length:Int))with
 |true=>show i<=i+1;omega
 |false=>exact Int.le_refl _
theorem QE(b:List Int)(hb:b.length<=1048576)(i h n:Int)(hi:0<=i)(h1:0<n)(h2:n<=256):∃y,fq b i h n=some (y,b,NZ b i,Ma h,())/\0<=y/\y<=n-1/\((b.length:Int)<=i->y=(byteOf (Ma h)).tmod n):=by obtain⟨y,e,y1,y2⟩:=VD b hb i h hi;have m1:=Int.tmod_nonneg n y1;have m2:=Int.tmod_lt_of_pos y h1;refine⟨y.tmod n,?_,m1,by omega,fun hl=>by rw[y2 hl]⟩;unfold fq;rw[Qz,Qz,decide_eq_false (by omega),decide_eq_true h2,e];show(bif az n then none else some _)=_;rw[show az n=false from decide_eq_false (by omega)];rfl
theorem RL(x:Int):(IntKind.i64.wrap x) % 9007199254740992=x % 9007199254740992:=by
 have e:IntKind.i64.wrap x=if x % 18446744073709551616>=9223372036854775808 then x % 18446744073709551616-18446744073709551616 else x % 18446744073709551616:=by unfold IntKind.wrap;simp only[IntKind.bits,IntKind.signed,Bool.true_and,decide_eq_true_eq,show(2:Int) ^ 64=18446744073709551616 by decide,show(2:Int) ^ (64-1)=9223372036854775808 by decide]
 rw[e];split <;> omega
theorem OK(h:Int):Ma h % 9007199254740992=(6364136223846793005*h+1442695040888963407) % 9007199254740992:=by show IntKind.i64.wrap (IntKind.i64.wrap (h*6364136223846793005)+1442695040888963407) % _=_;rw[RL,Int.add_emod,RL,<-Int.add_emod,Int.mul_comm]
noncomputable def it{α:Type}(f:α->α):Nat->α->α
 |0,x=>x
 |n+1,x=>it f n (f x)
theorem Q9{α:Type}(f:α->α):∀(m n:Nat) (x:α),it f (m+n) x=it f m (it f n x)
 |m,0,x=>rfl
 |m,n+1,x=>by rw[<-Nat.add_assoc];exact Q9 f m n (f x)
theorem QB{α:Type}(f:α->α)(n:Nat)(x:α):it f (n+1) x=f (it f n x):=by rw[Nat.add_comm,Q9];rfl
theorem mm(a b c M:Int):(a*(b % M)+c) % M=(a*b+c) % M:=by rw[Int.add_emod,Int.mul_emod,Int.emod_emod,<-Int.mul_emod,<-Int.add_emod]
theorem am(a b c M:Int):((a % M)*b+c % M) % M=(a*b+c) % M:=by rw[Int.add_emod,Int.mul_emod,Int.emod_emod,Int.emod_emod,<-Int.mul_emod,<-Int.add_emod]
theorem Te{f g:Int->Int}{a c a' c' M:Int}(hf:∀u,f u % M=(a*u+c) % M)(hg:∀u,g u % M=(a'*u+c') % M)(u:Int):f (g u) % M=((a*a') % M*u+(a*c'+c) % M) % M:=by rw[hf,<-mm,hg,mm,am];congr 1;rw[Int.mul_add,Int.mul_assoc,Int.add_assoc]
noncomputable def Wr(q:Int×Int):Int×Int:=((q.1*q.1) % 9007199254740992,(q.1*q.2+q.2) % 9007199254740992)
theorem R0{f:Int->Int}{q:Int×Int}(hf:∀u,f u % 9007199254740992=(q.1*u+q.2) % 9007199254740992):∀(k:Nat) (u:Int),it f (2 ^ k) u % 9007199254740992=((it Wr k q).1*u+(it Wr k q).2) % 9007199254740992
 |0,u=>hf u
 |k+1,u=>by rw[show 2 ^ (k+1)=2 ^ k+2 ^ k by rw[Nat.pow_succ];omega,Q9,QB];exact Te (R0 hf k) (R0 hf k) u
noncomputable def N7(h:Int):Int:=Ma (Ma (Ma (Ma (Ma h))))
noncomputable def c5:Int×Int:=((6364136223846793005*((6364136223846793005*((6364136223846793005*((6364136223846793005*6364136223846793005) % 9007199254740992)) % 9007199254740992)) % 9007199254740992)) % 9007199254740992,(6364136223846793005*((6364136223846793005*((6364136223846793005*((6364136223846793005*1442695040888963407+1442695040888963407) % 9007199254740992)+1442695040888963407) % 9007199254740992)+1442695040888963407) % 9007199254740992)+1442695040888963407) % 9007199254740992)
theorem S2(h:Int):N7 h % 9007199254740992=(c5.1*h+c5.2) % 9007199254740992:=Te OK (fun u=>Te OK (fun u=>Te OK (fun u=>Te OK OK u) u) u) h
theorem VF:it Wr 52 c5=(1,4503599627370496):=by decide +kernel
theorem half(h:Int):it N7 4503599627370496 h % 9007199254740992=(h+4503599627370496) % 9007199254740992:=by have:=R0 S2 52 h;rw[VF,show(2:Nat) ^ 52=4503599627370496 by decide]at this;rw[this,Int.one_mul]
noncomputable def pb(h:Int):Nat:=(h / 8589934592 % 256).toNat
noncomputable def qb(h:Int):Nat:=(h / 35184372088832 % 256).toNat
theorem R9(x:Int):BitVec.ofInt 64 (IntKind.i64.wrap x)=BitVec.ofInt 64 x:=by
 have e:IntKind.i64.wrap x=if x % 18446744073709551616>=9223372036854775808 then x % 18446744073709551616-18446744073709551616 else x % 18446744073709551616:=by unfold IntKind.wrap;simp only[IntKind.bits,IntKind.signed,Bool.true_and,decide_eq_true_eq,show(2:Int) ^ 64=18446744073709551616 by decide,show(2:Int) ^ (64-1)=9223372036854775808 by decide]
 apply BitVec.eq_of_toNat_eq;rw[BitVec.toNat_ofInt,BitVec.toNat_ofInt,e];congr 1;split <;> omega
theorem SC(h:Int):byteOf h=((pb h ^^^ qb h:Nat):Int):=by
 have s1:ay .shr .i64 h (33:Int)=h / 8589934592:=by show h.fdiv (2 ^ (min (33:Int).toNat 64))=_;rw[show(2:Int) ^ (min (33:Int).toNat 64)=8589934592 by decide];exact Int.fdiv_eq_ediv_of_nonneg _ (by decide)
 have s2:ay .shr .i64 h (45:Int)=h / 35184372088832:=by show h.fdiv (2 ^ (min (45:Int).toNat 64))=_;rw[show(2:Int) ^ (min (45:Int).toNat 64)=35184372088832 by decide];exact Int.fdiv_eq_ediv_of_nonneg _ (by decide)
 unfold byteOf;rw[s1,s2];show IntKind.i64.wrap ((BitVec.ofInt 64 (IntKind.i64.wrap ((BitVec.ofInt 64 (h / 8589934592) ^^^ BitVec.ofInt 64 (h / 35184372088832)).toNat:Nat)) &&& BitVec.ofInt 64 255).toNat:Nat)=_;rw[R9,BitVec.toNat_and];have k1:(BitVec.ofInt 64 ((BitVec.ofInt 64 (h / 8589934592) ^^^ BitVec.ofInt 64 (h / 35184372088832)).toNat:Nat)).toNat=(BitVec.ofInt 64 (h / 8589934592)).toNat ^^^ (BitVec.ofInt 64 (h / 35184372088832)).toNat:=by rw[BitVec.toNat_ofInt,<-BitVec.toNat_xor];have:=(BitVec.ofInt 64 (h / 8589934592) ^^^ BitVec.ofInt 64 (h / 35184372088832)).isLt;omega
 rw[k1,show(BitVec.ofInt 64 255).toNat=2 ^ 8-1 by decide,Nat.and_two_pow_sub_one_eq_mod,Nat.xor_mod_two_pow];have k2:∀x:Int,(BitVec.ofInt 64 x).toNat % 2 ^ 8=(x % 256).toNat:=fun x=>by rw[BitVec.toNat_ofInt];omega
 rw[k2,k2];have hlt:pb h ^^^ qb h<2 ^ 8:=Nat.xor_lt_two_pow (by unfold pb;omega) (by unfold qb;omega);show IntKind.i64.wrap ((pb h ^^^ qb h:Nat):Int)=_;exact zx (by omega) (by omega)
theorem VH:(List.range 256).all (fun q=>(q+128) % 256==q ^^^ 128)=true:=by decide +kernel
theorem VI:(List.range 256).all (fun t=>!(t % 3==2) || !((t ^^^ 128) % 3==2))=true:=by decide +kernel
theorem VJ{h h':Int}(he:h' % 9007199254740992=(h+4503599627370496) % 9007199254740992)(h2:(byteOf h).tmod 3=2):(byteOf h').tmod 3≠2:=by
 have hp:pb h'=pb h:=by unfold pb;omega
 have hq:qb h'=(qb h+128) % 256:=by unfold qb;omega
 have q1:qb h<256:=by unfold qb;omega
 have q2:=List.all_eq_true.1 VH (qb h) (List.mem_range.2 q1);have q2:(qb h+128) % 256=qb h ^^^ 128:=by simpa using q2
 have hlt:pb h ^^^ qb h<256:=Nat.xor_lt_two_pow (n:=8) (by unfold pb;omega) (by unfold qb;omega);rw[SC]at h2⊢;rw[hp,hq,q2,<-Nat.xor_assoc];have q3:=List.all_eq_true.1 VI (pb h ^^^ qb h) (List.mem_range.2 hlt);have m1:∀n:Nat,((n:Nat):Int).tmod 3=((n % 3:Nat):Int):=fun n=>by rw[Int.tmod_eq_emod_of_nonneg (by omega)];omega
 rw[m1]at h2⊢;have h2':(pb h ^^^ qb h) % 3=2:=by omega
 rw[h2']at q3;intro h3;have h3':(pb h ^^^ qb h ^^^ 128) % 3=2:=by omega
 rw[h3']at q3;exact absurd q3 (by decide)
end Go.Fn
set_option linter.unusedSimpArgs false
set_option linter.unusedVariables false
namespace Go.Fn
open Go.R Go.Sort
theorem Rv{X Y:Type}{body:X->Option (X⊕Y)}:∀(n m:Nat) (st:Nat->X) (y:Y),(∀k,k<n->body (st k)=some (.inl (st (k+1))))->body (st n)=some (.inr y)->iter body (n+1+m) (st 0)=some y
 |0,m,st,y,_,he=>by rw[show 0+1+m=m+1 by omega];simp only[iter,he]
 |n+1,m,st,y,hs,he=>by rw[show n+1+1+m=(n+1+m)+1 by omega];simp only[iter,hs 0 (by omega)];exact Rv n m (fun k=>st (k+1)) y (fun k hk=>hs (k+1) (by omega)) he
theorem RQ{l:List Ev}(hj:L2 l=true)(hl:l.length=60)(node kind IU a b:Int):(Nj l node kind IU a b).1=l:=by
 unfold Nj;rw[hj];have:L2 (NN l node kind IU a b)=false:=by unfold L2;rw[PE (Oi hj),hl];rfl
 rw[this];rfl
structure TY (n:Nat) (l:List Ev):Prop where
 j:L2 l=true
 st:∀x,x∈l->x.2.2.1<=(n:Int)
 sq:∀x,x∈l->x.1=4->x.2.1<=(n:Int)
theorem TY.add{n:Nat}(hn:n<=200){l:List Ev}(h:TY n l)(hl:l.length<60){kind IU a b:Int}(h1:1<=kind/\kind<=4)(h2:1<=IU/\IU<=3)(h3:0<=a/\a<=3)(h4:0<=b/\b<=39):TY (n+1) (Nj l 4 kind IU a b).1/\(Nj l 4 kind IU a b).1.length=l.length+1:=by
 have hs:=Oi h.j;have hi:=Ox 4 hs;have s1:1<=(NL l 4).1/\(NL l 4).1<=(n:Int)+1:=by
  rcases hi.s2 with p|⟨x,hx,q,p⟩
  ·rw[p];omega
  ·have:=h.sq x hx q;have:=(Oz.1 (P4 h.j x hx)).2.1;omega
 have p1:1<=(NL l 4).2.1/\(NL l 4).2.1<=(n:Int)+1:=by
  rcases hi.p2 with p|⟨x,hx,p⟩
  ·rw[p];omega
  ·have:=h.st x hx;have:=(Oz.1 (P4 h.j x hx)).2.2.1;omega
 have he:O4 (PN l 4 kind IU a b)=true:=Oz.2 ⟨by show(0:Int)<=4/\(4:Int)<=5;omega,by show 1<=(NL l 4).1/\(NL l 4).1<=999;omega,by show 1<=(NL l 4).2.1/\(NL l 4).2.1<=100000;omega,by show 1<=kind/\kind<=4;omega,by show 1<=IU/\IU<=999;omega,by show 0<=a/\a<=20000;omega,by show 0<=b/\b<=20000;omega⟩;have hw:=S5 h.j (node:=4) (kind:=kind) (IU:=IU) (a:=a) (b:=b) (by omega) he;unfold Nj;rw[h.j,hw];simp only[cond_true];refine⟨⟨hw,fun x hx=>?_,fun x hx hq=>?_⟩,PE hs _ _ _ _ _⟩
 ·rcases(LN x).1 hx with e|e
  ·rw[e];show(NL l 4).2.1<=_;omega
  ·have:=h.st x e;omega
 ·rcases(LN x).1 hx with e|e
  ·rw[e];show(NL l 4).1<=_;omega
  ·have:=h.sq x e hq;omega
noncomputable def N8(b:List Int)(i:Int):Int:=NZ b (NZ b (NZ b (NZ b (NZ b i))))
theorem Wp(b:List Int)(hb:b.length<=1048576)(i h:Int)(hi:0<=i)(l:List Ev)(hl:l.length<=60)(node:Int):∃kind IU a c,(1<=kind/\kind<=4)/\(1<=IU/\IU<=3)/\(0<=a/\a<=3)/\(0<=c/\c<=39) /\
  L0 b i h l node=some ((Nj l node kind IU a c).1,b,NZ b (NZ b (NZ b (NZ b i))),Ma (Ma (Ma (Ma h))),()):=by
 have g0:=NO b i;have g1:=NO b (NZ b i);have g2:=NO b (NZ b (NZ b i));obtain⟨y0,e0,a0,b0,_⟩:=QE b hb i h 4 hi (by omega) (by omega);obtain⟨y1,e1,a1,b1,_⟩:=QE b hb (NZ b i) (Ma h) 4 (by omega) (by omega) (by omega);obtain⟨y2,e2,a2,b2,_⟩:=QE b hb (NZ b (NZ b i)) (Ma (Ma h)) 3 (by omega) (by omega) (by omega);obtain⟨y3,e3,a3,b3,_⟩:=QE b hb (NZ b (NZ b (NZ b i))) (Ma (Ma (Ma h))) 40 (by omega) (by omega) (by omega);have k0:aa .add .i64 (1:Int) y0=1+y0:=bU (by omega) (by omega);have k2:aa .add .i64 (1:Int) y2=1+y2:=bU (by omega) (by omega);refine⟨1+y0,1+y2,bif af .eql (1+y0) (2:Int)then 0 else y1,y3,by omega,by omega,?_,by omega,?_⟩
 ·cases af .eql (1+y0) (2:Int)with
  |true=>show(0:Int)<=0/\(0:Int)<=3;omega
  |false=>show 0<=y1/\y1<=3;omega
 ·unfold L0;simp only[e0,e1,e2,e3,Option.bind_some,k0,k2,NX l _ _ _ _ _ (show l.length<=1073741824 by omega)];cases af .eql (1+y0) (2:Int) <;> rfl
abbrev UT:=(List Int)×Int×Int×(List Ev)×Unit
abbrev Ub:=UT⊕(UT⊕Empty)
noncomputable def RO(b:List Int)(y:Ub):Prop:=match y with
 | .inl z=>z.1=b/\0<=z.2.1/\z.2.2.2.1.length<=60
 | .inr (.inl z)=>z.1=b/\0<=z.2.1/\z.2.2.2.1.length<=60
 | .inr (.inr _)=>False
theorem TH(b:List Int)(hb:b.length<=1048576)(i h:Int)(hi:0<=i)(l:List Ev)(hj:L2 l=true):
  (∃y,RO b y/\J0 () (b,i,h,l,())=some (.inr y)) \/
  ((l.length:Int)<61/\((b.length:Int)<=i->l.length=60->(byteOf (Ma h)).tmod 3=2)/\∃kind IU a c,(1<=kind/\kind<=4)/\(1<=IU/\IU<=3)/\(0<=a/\a<=3)/\(0<=c/\c<=39) /\
   J0 () (b,i,h,l,())=some (bif L2 (Nj l 4 kind IU a c).1 then .inl (b,N8 b i,N7 h,(Nj l 4 kind IU a c).1,())else .inr (.inl (b,N8 b i,N7 h,(Nj l 4 kind IU a c).1,())))):=by
 have hl:=Mf hj;obtain⟨y0,e0,a0,b0,c0⟩:=QE b hb i h 3 hi (by omega) (by omega);have g0:=NO b i;have k0:aa .add .i64 (59:Int) y0=59+y0:=bU (by omega) (by omega);unfold J0;simp only[e0,Option.bind_some,k0];by_cases hlt:(l.length:Int)<59+y0
 ·right;have hg:af .lss (ai l) (59+y0)=true:=by rw[PA];exact decide_eq_true hlt
  refine⟨by omega,fun h1 h2=>?_,?_⟩
  ·have:=c0 h1;omega
  ·obtain⟨kind,IU,a,c,q1,q2,q3,q4,q5⟩:=Wp b hb (NZ b i) (Ma h) (by omega) l hl 4;refine⟨kind,IU,a,c,q1,q2,q3,q4,?_⟩;rw[hg,q5];simp only[cond_true,Option.bind_some,M5];cases L2 (Nj l 4 kind IU a c).1 <;> rfl
 ·left;have hg:af .lss (ai l) (59+y0)=false:=by rw[PA];exact decide_eq_false hlt
  refine⟨.inr (.inl (b,NZ b i,Ma h,l,())),⟨rfl,by show 0<=NZ b i;omega,hl⟩,?_⟩;rw[hg];rfl
theorem Sn(b:List Int)(i:Int):i<=N8 b i:=by have g0:=NO b i;have g1:=NO b (NZ b i);have g2:=NO b (NZ b (NZ b i));have g3:=NO b (NZ b (NZ b (NZ b i)));have g4:=NO b (NZ b (NZ b (NZ b (NZ b i))));unfold N8;omega
theorem Qy(b:List Int)(i:Int)(hi:0<=i):∀k:Nat,0<=it (N8 b) k i/\((k:Int)<=it (N8 b) k i\/(b.length:Int)<=it (N8 b) k i)
 |0=>⟨hi,.inl hi⟩
 |k+1=>by
  obtain⟨h1,h2⟩:=Qy b i hi k;rw[QB];have g:=Sn b (it (N8 b) k i);refine⟨by omega,?_⟩;rcases h2 with h2|h2
  ·by_cases hlt:it (N8 b) k i<(b.length:Int)
   ·left;have e:NZ b (it (N8 b) k i)=it (N8 b) k i+1:=by unfold NZ;rw[decide_eq_true hlt];rfl
    have g1:=NO b (NZ b (it (N8 b) k i));have g2:=NO b (NZ b (NZ b (it (N8 b) k i)));have g3:=NO b (NZ b (NZ b (NZ b (it (N8 b) k i))));have g4:=NO b (NZ b (NZ b (NZ b (NZ b (it (N8 b) k i)))));have e5:N8 b (it (N8 b) k i)=NZ b (NZ b (NZ b (NZ b (NZ b (it (N8 b) k i))))):=rfl;omega
   ·right;omega
  ·right;omega
theorem VL(K B:Nat)(hK:K=4503599627370496)(hB:B=1048576)(hT:∀u:Int,it N7 K u % 9007199254740992=(u+4503599627370496) % 9007199254740992)(b:List Int)(hb:b.length<=1048576)(i h:Int)(hi:0<=i)(l:List Ev)(hj:L2 l=true)(hl:l.length=60):∃(N:Nat) (y:Ub),N<=4503599628419074/\RO b y/\∀m,iter (J0 ()) (N+m) (b,i,h,l,())=some y:=by
 let st:Nat->UT:=fun k=>(b,it (N8 b) k i,it N7 k h,l,())
 have hst:∀k,(∃y,RO b y/\J0 () (st k)=some (.inr y))\/(J0 () (st k)=some (.inl (st (k+1)))/\((b.length:Int)<=it (N8 b) k i->(byteOf (Ma (it N7 k h))).tmod 3=2)):=fun k=>by
  rcases TH b hb (it (N8 b) k i) (it N7 k h) (Qy b i hi k).1 l hj with h1|⟨_,h2,kind,IU,a,c,q1,q2,q3,q4,q5⟩
  ·exact .inl h1
  ·refine .inr ⟨?_,fun hb=>h2 hb hl⟩;rw[RQ hj hl]at q5;rw[hj]at q5;show J0 () (b,it (N8 b) k i,it N7 k h,l,())=some (.inl (b,it (N8 b) (k+1) i,it N7 (k+1) h,l,()));rw[q5,QB,QB];rfl
 have hex:∃k,k<=K+B/\∃y,RO b y/\J0 () (st k)=some (.inr y):=by
  refine Classical.byContradiction fun hno=>?_;have hall:∀k,k<=K+B->(b.length:Int)<=it (N8 b) k i->(byteOf (Ma (it N7 k h))).tmod 3=2:=fun k hk CD=>by
   rcases hst k with h1|h2
   ·exact absurd ⟨k,hk,h1⟩ hno
   ·exact h2.2 CD
  have r1:=(Qy b i hi B).2;have r2:=(Qy b i hi (K+B)).2;have u1:=hall B (by omega) (by omega);have u2:=hall (K+B) (by omega) (by omega);rw[Q9]at u2;have hm:=hT (it N7 B h);refine VJ (h:=Ma (it N7 B h)) (h':=Ma (it N7 K (it N7 B h))) ?_ u1 u2;rw[OK,<-mm,hm,mm];have:=OK (it N7 B h);omega
 obtain⟨n,hn,hle⟩:=AP (p:=fun k=>∃y,RO b y/\J0 () (st k)=some (.inr y)) hex.choose hex.choose_spec.2;obtain⟨y,hy,he⟩:=hn;refine⟨n+1,y,?_,hy,fun m=>Rv n m st y (fun k hk=>?_) he⟩
 ·have:=hle _ hex.choose_spec.2;have:=hex.choose_spec.1;omega
 ·rcases hst k with h1|h2
  ·have:=hle k h1;omega
  ·exact h2.1
theorem VK(b:List Int)(hb:b.length<=1048576)(i h:Int)(hi:0<=i)(l:List Ev)(hj:L2 l=true)(hl:l.length=60):∃(N:Nat) (y:Ub),N<=4503599628419074/\RO b y/\∀m,iter (J0 ()) (N+m) (b,i,h,l,())=some y:=VL _ _ rfl rfl half b hb i h hi l hj hl
theorem UN(b:List Int)(hb:b.length<=1048576):∀(d:Nat) (i h:Int) (l:List Ev) (n:Nat),0<=i->TY n l->n+d<=200->l.length+d=60->∃(N:Nat) (y:Ub),N<=4503599628419074+d/\RO b y/\∀m,iter (J0 ()) (N+m) (b,i,h,l,())=some y
 |0,i,h,l,n,hi,hf,_,hl=>VK b hb i h hi l hf.j hl
 |d+1,i,h,l,n,hi,hf,hn,hl=>by
  rcases TH b hb i h hi l hf.j with ⟨y,hy,he⟩|⟨_,_,kind,IU,a,c,q1,q2,q3,q4,q5⟩
  ·exact⟨1,y,by omega,hy,fun m=>by rw[Nat.add_comm];simp only[iter,he]⟩
  ·obtain⟨f1,f2⟩:=hf.add (by omega) (by omega) q1 q2 q3 q4;have g:=Sn b i;rw[f1.j]at q5;obtain⟨N,y,h1,h2,h3⟩:=UN b hb d (N8 b i) (N7 h) _ (n+1) (by omega) f1 (by omega) (by omega);refine⟨N+1,y,by omega,h2,fun m=>?_⟩;rw[show N+1+m=(N+m)+1 by omega];simp only[iter,q5,cond_true];exact h3 m
theorem SM(b:List Int)(hb:b.length<=1048576)(i h:Int)(hi:0<=i):Yl (OW b i h) fun y=>y.1.length<=60/\y.2.1=b/\0<=y.2.2.1:=by
 unfold OW;refine(R4 b hb i h hi).bind fun y0 ⟨⟨a1,a2⟩,a3,a4⟩=>?_;have hl:=Mf a1;rw[a3];refine .cond (fun _=>.ret ⟨hl,rfl,a4⟩) fun hne=>?_;have hpos:0<y0.1.length:=by
  cases h:y0.1 with
  |nil=>rw[h]at hne;cases hne
  |cons _ _=>simp
 refine(Km b hb _ _ (ai y0.1) a4 (by unfold ai;omega)).bind fun y1 ⟨b1,b2,b3,b4⟩=>?_;have b2:y1.1<=max 0 ((y0.1.length:Int)-1):=b2;rw[b3];refine(Km b hb _ _ 16 b4 (by omega)).bind fun y2 ⟨c1,c2,c3,c4⟩=>?_;rw[c3];have hin:ah y0.1 y1.1=true:=P3 b1 (by omega);refine .cond (fun _=>?_) fun _=>.cond (fun _=>?_) fun _=>.cond (fun _=>?_) fun _=>.cond (fun _=>?_) fun _=>.cond (fun _=>?_) fun _=>.ret ⟨hl,rfl,c4⟩;all_goals first
  |(refine(OJ b hb _ _ _ c4 (by simp) (by simp)).bind fun y3 ⟨_,d2,d3⟩=>.guard hin (.lets (.ret ⟨?_,d2,d3⟩));show(aC y0.1 y1.1 _).length<=60;unfold aC;rw[List.length_set];exact hl)
  |skip
 obtain⟨N,y,n1,n2,n3⟩:=UN b hb (60-y0.1.length) y2.2.2.1 y2.2.2.2.1 y0.1 16 c4 ⟨a1,fun x hx=>(a2 x hx).1,fun x hx hq=>absurd hq (a2 x hx).2⟩ (by omega) (by omega);have zq:NI () (b,y2.2.2.1,y2.2.2.2.1,y0.1,())=some y:=by unfold NI;have:=n3 (big-N);rw[show N+(big-N)=big by have:big=4611686018427387904:=rfl;omega]at this;exact this
 rw[zq];match y,n2 with
 | .inl z,⟨z1,z2,z3⟩=>exact .ret ⟨z3,z1,z2⟩
 | .inr (.inl z),⟨z1,z2,z3⟩=>exact .ret ⟨z3,z1,z2⟩
end Go.Fn
set_option linter.unusedSimpArgs false
set_option linter.unusedVariables false
namespace Go.Fn
open Go.R Go.Sort
noncomputable def z7:Ql:=(0,0,0,0,0,0,0)
noncomputable def Pm(f:Ql):Ql:=(f.1,f.2.1,f.2.2.1,f.2.2.2.1,f.2.2.2.2.1,f.2.2.2.2.2.1,aa .add .i64 f.2.2.2.2.2.2 (1:Int))
noncomputable def Pk(f:Ql)(e:Ev):Ql:=
 bif af .eql f.1 (0:Int)then(bif af .eql e.2.2.2.1 (1:Int)then(1,e.2.2.2.2.2.1,e.2.2.2.2.2.2,f.2.2.2.1,f.2.2.2.2.1,f.2.2.2.2.2.1,f.2.2.2.2.2.2)else Pm f)
 else bif af .eql f.1 (1:Int)then
  (bif af .eql e.2.2.2.1 (2:Int)then(f.1,f.2.1,f.2.2.1,aa .add .i64 f.2.2.2.1 (1:Int),f.2.2.2.2.1,f.2.2.2.2.2.1,f.2.2.2.2.2.2)
  else bif af .eql e.2.2.2.1 (3:Int)then(2,f.2.1,f.2.2.1,f.2.2.2.1,e.2.2.2.2.2.1,e.2.2.2.2.2.2,f.2.2.2.2.2.2)
  else bif af .eql e.2.2.2.1 (4:Int)then(3,f.2.1,f.2.2.1,f.2.2.2.1,f.2.2.2.2.1,e.2.2.2.2.2.2,f.2.2.2.2.2.2)else Pm f)
 else Pm f
noncomputable def QW(g:Ql):Int×Int×Int×Int×Int×Int×Int×Unit:=(g.1,g.2.1,g.2.2.1,g.2.2.2.1,g.2.2.2.2.1,g.2.2.2.2.2.1,g.2.2.2.2.2.2,())
theorem RI(f:Ql)(e:Ev):NJ f.1 f.2.1 f.2.2.1 f.2.2.2.1 f.2.2.2.2.1 f.2.2.2.2.2.1 f.2.2.2.2.2.2 e.1 e.2.1 e.2.2.1 e.2.2.2.1 e.2.2.2.2.1 e.2.2.2.2.2.1 e.2.2.2.2.2.2=some (QW (Pk f e)):=by
 obtain⟨f0,f1,f2,f3,f4,f5,f6⟩:=f;obtain⟨e0,e1,e2,e3,e4,e5,e6⟩:=e;unfold NJ Pk Pm QW;simp only;by_cases q0:f0=0
 ·subst q0;have c:af .eql (0:Int) (1:Int)=false:=rfl;have c0:af .eql (0:Int) (0:Int)=true:=rfl;simp only[c,c0,cond_true,cond_false];cases af .eql e3 (1:Int) <;> cases af .eql e3 (2:Int) <;> cases af .eql e3 (3:Int) <;> cases af .eql e3 (4:Int) <;> rfl
 ·have c0:af .eql f0 (0:Int)=false:=by simpa[af] using q0
  simp only[c0,cond_false];by_cases q1:f0=1
  ·subst q1;have c:af .eql (1:Int) (1:Int)=true:=rfl;simp only[c,cond_true];by_cases k1:e3=1
   ·subst k1;rfl
   ·have d1:af .eql e3 (1:Int)=false:=by simpa[af] using k1
    simp only[d1,cond_false];cases af .eql e3 (2:Int) <;> cases af .eql e3 (3:Int) <;> cases af .eql e3 (4:Int) <;> rfl
  ·have c1:af .eql f0 (1:Int)=false:=by simpa[af] using q1
   simp only[c1,cond_false];cases af .eql e3 (1:Int) <;> cases af .eql e3 (2:Int) <;> cases af .eql e3 (3:Int) <;> cases af .eql e3 (4:Int) <;> rfl
noncomputable def O7(p:Int)(f:Ql)(e:Ev):Ql:=bif af .eql e.2.2.2.2.1 p then Pk f e else f
noncomputable def OA(p:Int)(es:List Ev):Ql:=es.foldl (O7 p) z7
noncomputable def S8(l:List Ev)(r:List Int):List Ev:=r.map fun i=>l.getD i.toNat vp
theorem QV(l:List Ev)(p:Int)(r:List Int)(hr:∀x,x∈r->0<=x/\x<l.length)(pU:r.length<=60):∀(s n k:Nat) (f:Ql),r.length-n<=s->n<=r.length->s<k ->
  ∃g:Ql,g=((S8 l r).drop n).foldl (O7 p) f/\iter (Kg (l,p,())) k (fst r f n)=some (.inl (0,0,0,0,0,0,0,g.1,g.2.1,g.2.2.1,g.2.2.2.1,g.2.2.2.2.1,g.2.2.2.2.2.1,g.2.2.2.2.2.2,())):=by
 have hlen:(S8 l r).length=r.length:=by unfold S8;rw[List.length_map]
 have done:∀(n k:Nat) (f:Ql),¬(n<r.length)->0<k->∃g:Ql,g=((S8 l r).drop n).foldl (O7 p) f/\iter (Kg (l,p,())) k (fst r f n)=some (.inl (0,0,0,0,0,0,0,g.1,g.2.1,g.2.2.1,g.2.2.2.1,g.2.2.2.2.1,g.2.2.2.2.2.1,g.2.2.2.2.2.2,())):=fun n k f h hk=>by
  obtain⟨k,rfl⟩:∃m,k=m+1:=⟨k-1,by omega⟩
  refine⟨f,by rw[List.drop_eq_nil_of_le (by omega)];rfl,av ?_⟩;unfold Kg fst;simp only[aj,h,decide_false,cond_false]
 intro s;induction s with
 |zero=>exact fun n k f hs hn hk=>done n k f (by omega) hk
 |succ s ih=>
  intro n k f hs hn hk;by_cases h:n<r.length
  ·obtain⟨k,rfl⟩:∃m,k=m+1:=⟨k-1,by omega⟩
   have hx:=hr _ (N5 h zI);obtain⟨m,hm⟩:∃q:Nat,r.getD n zI=(q:Int):=⟨(r.getD n zI).toNat,by omega⟩
   have hx':=hx;rw[hm]at hx;have hml:m<l.length:=by omega
   have hst:Kg (l,p,()) (fst r f n)=some (.inl (fst r (O7 p f (l.getD m vp)) (n+1))):=by
    unfold Kg fst O7;simp only[aj,h,decide_true,cond_true,ax,ak,hm,hml,au (n:=n) (by omega)];cases af .eql (l.getD m vp).2.2.2.2.1 p with
    |false=>rfl
    |true=>simp only[cond_true,RI f (l.getD m vp),Option.bind_some];rfl
   obtain⟨g,g1,g2⟩:=ih (n+1) k (O7 p f (l.getD m vp)) (by omega) h (by omega);refine⟨g,?_,by rw[aF hst];exact g2⟩;rw[g1,List.drop_eq_getElem_cons (by omega:n<(S8 l r).length)];have:(S8 l r)[n]'(by omega)=l.getD m vp:=by
    unfold S8;rw[List.getElem_map];have e:r[n]=(m:Int):=by rw[<-hm];exact(getD_eq h zI).symm
    rw[e];rfl
   rw[this];rfl
  ·exact done n k f h (by omega)
noncomputable def Qk(l es:List Ev):Prop:=(∀e,e∈es↔e∈l)/\es.Pairwise (fun x y=>Vg x y=true)
theorem SG{l es fs:List Ev}(h1:Qk l es)(h2:Qk l fs):es=fs:=Pb (lt:=fun x y=>Vg x y=true) (fun x h=>by rw[NA]at h;omega) (fun x y h h'=>by rw[NA]at h h';omega) h1.2 h2.2 fun x=>by rw[h1.1,h2.1]
theorem Tm{l:List Ev}{r:List Int}(h:QY l r):Qk l (S8 l r):=by
 refine⟨fun e=>?_,?_⟩
 ·unfold S8;rw[List.mem_map];constructor
  ·rintro⟨i,hi,rfl⟩;have:=(h.1 i).1 hi;exact N5 (by omega) _
  ·intro he;obtain⟨n,hn,rfl⟩:=List.mem_iff_getElem.1 he;exact⟨(n:Int),(h.1 _).2 (by omega),by rw[show((n:Nat):Int).toNat=n by omega,getD_eq hn]⟩
 ·unfold S8;exact List.pairwise_map.2 (h.2.imp fun {a b} hab=>hab)
theorem SN{es:List Ev}(h:es.Pairwise (fun x y=>Vg x y=true)):es.Nodup:=h.imp fun {a b} hab e=>by subst e;rw[NA]at hab;omega
theorem S0{l:List Ev}(h:Rh l):l.Nodup:=h.imp fun {a b} hab e=>by subst e;rw[LX]at hab;omega
theorem RV{l es:List Ev}(hj:L2 l=true)(h:Qk l es):es.Perm l:=(List.perm_ext_iff_of_nodup (SN h.2) (S0 (Oi hj))).2 h.1
theorem Rt(l:List Ev):∃es,(L2 l=true->Qk l es)/\(L2 l=false->es=[])/\∀p,LC l p=some (QW (OA p es))/\LV l p=some (QW (OA p es)):=by
 obtain⟨r,r1,r2,r3,r4,r5,r6⟩:=QJ l;refine⟨S8 l r,fun hj=>Tm (r6 hj),fun hj=>?_,fun p=>?_⟩
 ·have:r=[]:=Classical.byContradiction fun hn=>by rw[r5 hn]at hj;cases hj
  rw[this];rfl
 ·obtain⟨g,g1,g2⟩:=QV l p r r4 r3 60 0 big z7 (by omega) (Nat.zero_le _) (aN (by omega));have hs:LC l p=some (QW (OA p (S8 l r))):=by unfold LC;rw[r1];simp only[Option.bind_some];have g2:ND (l,p,()) (0,0,0,0,0,0,0,0,0,0,0,0,0,0,r,0,())=_:=g2;rw[g2,g1];rfl
  obtain⟨q,q1,q2⟩:=Q0 l p;refine⟨hs,?_⟩;rw[q2,<-q1,hs]
theorem RW{l es:List Ev}(hj:L2 l=true)(h:Qk l es)(node kind IU a b:Int):Qk (NN l node kind IU a b) (es++[PN l node kind IU a b]):=by
 have hi:=Ox node (Oi hj);refine⟨fun e=>?_,?_⟩
 ·rw[List.mem_append,List.mem_singleton,h.1,LN];exact Or.comm
 ·refine List.pairwise_append.2 ⟨h.2,List.pairwise_singleton _ _,fun x hx y hy=>?_⟩;rw[List.mem_singleton.1 hy,NA];left;exact hi.p1 x ((h.1 x).1 hx)
noncomputable def Si(s:Int):Int:=bif af .eql s (1:Int)then 1 else bif af .eql s (2:Int)then 2 else bif af .eql s (3:Int)then 2 else 0
structure UJ (n:Nat) (f:Ql):Prop where
 s:f.1=0\/f.1=1\/f.1=2\/f.1=3
 e:0<=f.2.2.2.1
 c:0<=f.2.2.2.2.2.2
 n:f.2.2.2.1+Si f.1+f.2.2.2.2.2.2=(n:Int)
theorem UJ.next{n:Nat}(hn:n<=1000){f:Ql}(h:UJ n f)(e:Ev):UJ (n+1) (Pk f e):=by
 obtain⟨f0,f1,f2,f3,f4,f5,f6⟩:=f;obtain⟨h1,h2,h3,h4⟩:=h;simp only at h1 h2 h3 h4;have n0:Si 0=0:=rfl;have n1:Si 1=1:=rfl;have n2:Si 2=2:=rfl;have n3:Si 3=2:=rfl;have hs:0<=Si f0:=by rcases h1 with h|h|h|h <;> rw[h] <;> decide
 have a3:aa .add .i64 f3 (1:Int)=f3+1:=bU (by omega) (by omega);have a6:aa .add .i64 f6 (1:Int)=f6+1:=bU (by omega) (by omega);have hc:UJ (n+1) (Pm (f0,f1,f2,f3,f4,f5,f6)):=⟨h1,h2,by show 0<=aa .add .i64 f6 1;omega,by show f3+Si f0+aa .add .i64 f6 1=_;omega⟩
 unfold Pk;simp only;rcases h1 with h|h|h|h
 ·subst h;cases af .eql e.2.2.2.1 (1:Int)with
  |false=>exact hc
  |true=>exact⟨.inr (.inl rfl),h2,h3,by show f3+Si 1+f6=_;omega⟩
 ·subst h;have c0:af .eql (1:Int) (0:Int)=false:=rfl;have c1:af .eql (1:Int) (1:Int)=true:=rfl;simp only[c0,c1,cond_true,cond_false];cases af .eql e.2.2.2.1 (2:Int)with
  |true=>exact⟨.inr (.inl rfl),by show 0<=aa .add .i64 f3 1;omega,h3,by show aa .add .i64 f3 1+Si 1+f6=_;omega⟩
  |false=>
   cases af .eql e.2.2.2.1 (3:Int)with
   |true=>exact⟨.inr (.inr (.inl rfl)),h2,h3,by show f3+Si 2+f6=_;omega⟩
   |false=>
    cases af .eql e.2.2.2.1 (4:Int)with
    |true=>exact⟨.inr (.inr (.inr rfl)),h2,h3,by show f3+Si 3+f6=_;omega⟩
    |false=>exact hc
 ·subst h;exact hc
 ·subst h;exact hc
noncomputable def QI(p:Int)(e:Ev):Bool:=af .eql e.2.2.2.2.1 p
theorem Q7(p:Int):∀(es:List Ev) (n:Nat) (f:Ql),n+es.length<=1000->UJ n f->UJ (n+(es.filter (QI p)).length) (es.foldl (O7 p) f)
 | [],n,f,_,h=>h
 |e::es,n,f,hn,h=>by
  simp only[List.length_cons]at hn;rw[List.foldl_cons,List.filter_cons];cases hc:QI p e with
  |true=>
   have e1:O7 p f e=Pk f e:=by unfold O7;rw[show af .eql e.2.2.2.2.1 p=true from hc];rfl
   rw[e1];simp only[if_true,List.length_cons];have:=Q7 p es (n+1) (Pk f e) (by omega) (h.next (by omega) e);rwa[show n+((es.filter (QI p)).length+1)=n+1+(es.filter (QI p)).length by omega]
  |false=>
   have e1:O7 p f e=f:=by unfold O7;rw[show af .eql e.2.2.2.2.1 p=false from hc];rfl
   rw[e1];simp only[Bool.false_eq_true,if_false];exact Q7 p es n f (by omega) h
theorem Rs:UJ 0 z7:=⟨.inl rfl,Int.le_refl _,Int.le_refl _,rfl⟩
end Go.Fn
set_option linter.unusedSimpArgs false
set_option linter.unusedVariables false
namespace Go.Fn
open Go.R Go.Sort
theorem Rr(code:List Int)(hb:code.length<=1048576):Yl (M8 code) fun y=>y.1.length<=60:=by unfold M8;refine(Vh code hb).bind fun y0 ⟨h1,h2⟩=>?_;rw[h1];refine(SM code hb _ _ (by rw[h2];exact Int.le_refl _)).bind fun y1 ⟨a1,a2,a3⟩=>?_;rw[a2];exact(Km code hb _ _ 6 a3 (by omega)).bind fun y2 _=>.ret a1
theorem count_eq(l:List Ev)(f:Ql)(p:Int)(hl:l.length<=60):M7 (p,()) (l,f.1,f.2.1,f.2.2.1,f.2.2.2.1,f.2.2.2.2.1,f.2.2.2.2.2.1,f.2.2.2.2.2.2,(0:Int),(0:Int),()) =
  some (.inl (l,f.1,f.2.1,f.2.2.1,f.2.2.2.1,f.2.2.2.2.1,f.2.2.2.2.2.1,f.2.2.2.2.2.2,(((bif L2 l then(l.filter (QI p)).length else 0:Nat)):Int),())):=by
 unfold M7;cases hj:L2 l with
 |false=>
  have:Lo (p,()) (l,f.1,f.2.1,f.2.2.1,f.2.2.2.1,f.2.2.2.2.1,f.2.2.2.2.2.1,f.2.2.2.2.2.2,(0:Int),(0:Int),())=some (.inr (.inl (l,f.1,f.2.1,f.2.2.1,f.2.2.2.1,f.2.2.2.2.1,f.2.2.2.2.2.1,f.2.2.2.2.2.2,(0:Int),()))):=by unfold Lo;simp only[M5,hj,Option.bind_some,cond_false];cases af .lss (0:Int) (ai l) <;> rfl
  exact av (n:=4611686018427387903) this
 |true=>
  have key:∀(k n:Nat),n+k=l.length->iter (Lo (p,())) (k+1) (l,f.1,f.2.1,f.2.2.1,f.2.2.2.1,f.2.2.2.2.1,f.2.2.2.2.2.1,f.2.2.2.2.2.2,(((l.take n).filter (QI p)).length:Int),(n:Int),()) =
    some (.inl (l,f.1,f.2.1,f.2.2.1,f.2.2.2.1,f.2.2.2.2.1,f.2.2.2.2.2.1,f.2.2.2.2.2.2,((l.filter (QI p)).length:Int),())):=by
   intro k;induction k with
   |zero=>intro n hn;apply av;unfold Lo;simp only[aj,show ¬n<l.length by omega,decide_false,cond_false];rw[List.take_of_length_le (by omega)]
   |succ k ih=>
    intro n hn;have h:n<l.length:=by omega
    have hfl:((l.take n).filter (QI p)).length<=60:=Nat.le_trans (List.length_filter_le _ _) (by rw[List.length_take];omega);have hst:Lo (p,()) (l,f.1,f.2.1,f.2.2.1,f.2.2.2.1,f.2.2.2.2.1,f.2.2.2.2.2.1,f.2.2.2.2.2.2,(((l.take n).filter (QI p)).length:Int),(n:Int),()) =
      some (.inl (l,f.1,f.2.1,f.2.2.1,f.2.2.2.1,f.2.2.2.2.1,f.2.2.2.2.2.1,f.2.2.2.2.2.2,(((l.take (n+1)).filter (QI p)).length:Int),((n+1:Nat):Int),())):=by
     unfold Lo;simp only[M5,hj,Option.bind_some,aj,h,decide_true,cond_true,ax,ak,au (n:=n) (show n<1099511627776 by omega)];rw[List.take_succ_eq_append_getElem h,List.filter_append,List.length_append,<-getD_eq h vp,List.filter_cons,List.filter_nil];show(bif QI p (l.getD n vp)then _ else _)=_;cases QI p (l.getD n vp)with
     |true=>simp only[cond_true,if_true,List.length_cons,List.length_nil,Nat.zero_add,au (n:=((l.take n).filter (QI p)).length) (by omega)]
     |false=>rfl
    rw[aF hst];exact ih (n+1) (by omega)
  have:=key l.length 0 (by omega);exact bh this (by have:big=4611686018427387904:=rfl;omega)
theorem To(l:List Int)(x:Int):SJ l x=decide (x∈l):=by rw[Bool.eq_iff_iff,Tp,decide_eq_true_eq]
theorem Uk{l:List Ev}{r:List Int}(hr:(L2 l=true->PZ l 1000 r)/\(L2 l=false->r=[]))(p:Int):SJ r p=af .gtr ((((bif L2 l then(l.filter (QI p)).length else 0:Nat)):Int)) (0:Int):=by
 rw[To];cases hj:L2 l with
 |false=>rw[hr.2 hj];rfl
 |true=>
  show _=decide (_>_);rw[decide_eq_decide];have hp:=hr.1 hj;rw[hp.1];simp only[cond_true];constructor
  ·rintro⟨_,_,e,he,WI⟩;have:e∈l.filter (QI p):=List.mem_filter.2 ⟨he,by unfold QI;simp[af,WI]⟩;have:=List.length_pos_of_mem this;omega
  ·intro hpos;have hpos:0<(l.filter (QI p)).length:=by omega
   obtain⟨e,he⟩:=List.exists_mem_of_length_pos hpos;obtain⟨h1,h2⟩:=List.mem_filter.1 he;have WI:e.2.2.2.2.1=p:=by simpa[QI,af] using h2
   have:=(Oz.1 (P4 hj _ h1)).2.2.2.2.1;exact⟨by omega,by omega,e,h1,WI⟩
end Go.Fn
set_option linter.unusedSimpArgs false
set_option linter.unusedVariables false
namespace Go.Fn
open Go.R Go.Sort
theorem RU(a:Int):af .eql a a=true:=by simp[af]
noncomputable def TP(l:List Ev)(p N:Int)(g:Ql):Option (Bool×Unit):=
 (KY l).bind fun y12=>(Pp y12.1 p).bind fun y13=>bif (Bool.not (bT y13.1 (af .gtr N (0:Int))))then some (false,())else((Js l (3:Int) (3:Int) p (7:Int) (9:Int)).bind fun y14=>bif (Bool.not y14.2.1)then some (true,())else((LV y14.1 p).bind fun y15=>
  bif (af .eql g.1 (1:Int))then(bif (af .eql y15.1 (2:Int))then(bif (af .eql y15.2.2.2.2.1 (7:Int))then(bif (af .eql y15.2.2.2.2.2.1 (9:Int))then(bif (af .eql y15.2.2.1 g.2.2.1)then(bif (af .eql y15.2.2.2.2.2.2.1 g.2.2.2.2.2.2)then some ((af .eql y15.2.2.2.1 g.2.2.2.1),())else some (false,()))else some (false,()))else some (false,()))else some (false,()))else some (false,()))
  else(lets (Bool.and (af .eql y15.1 g.1) (Bool.and (af .eql y15.2.1 g.2.1) (Bool.and (af .eql y15.2.2.1 g.2.2.1) (Bool.and (af .eql y15.2.2.2.1 g.2.2.2.1) (Bool.and (af .eql y15.2.2.2.2.1 g.2.2.2.2.1) (Bool.and (af .eql y15.2.2.2.2.2.1 g.2.2.2.2.2.1) (Bool.and (af .eql y15.2.2.2.2.2.2.1 (aa .add .i64 g.2.2.2.2.2.2 (1:Int))) true))))))) fun v16=>some (v16,()))))
theorem RR{l:List Ev}{node kind IU a b:Int}(h:(Nj l node kind IU a b).2=true):L2 l=true/\L2 (NN l node kind IU a b)=true/\(Nj l node kind IU a b).1=NN l node kind IU a b:=by
 unfold Nj at h⊢;cases hj:L2 l with
 |false=>rw[hj]at h;cases h
 |true=>
  rw[hj]at h;cases hw:L2 (NN l node kind IU a b)with
  |false=>rw[hw]at h;cases h
  |true=>exact⟨rfl,rfl,rfl⟩
theorem S3{l es:List Ev}(hl:l.length<=60)(ho:L2 l=true->Qk l es)(p:Int){r:List Int}(p2:KY l=some (r,()))(p3:r.length<=1000)(hr:(L2 l=true->PZ l 1000 r)/\(L2 l=false->r=[]))(hs:(OA p es).1=0\/(OA p es).1=1\/(OA p es).1=2\/(OA p es).1=3):
  TP l p (((bif L2 l then(l.filter (QI p)).length else 0:Nat)):Int) (OA p es)=some (true,()):=by
 unfold TP;simp only[p2,Option.bind_some,R5 r p (show r.length<=1073741824 by omega),Uk hr p,SY,Bool.not_true,cond_false,NX l _ _ _ _ _ (show l.length<=1073741824 by omega)];cases WE:(Nj l 3 3 p 7 9).2 with
 |false=>rfl
 |true=>
  obtain⟨hj,hw,he⟩:=RR WE;rw[he];obtain⟨es',o1,_,hf⟩:=Rt (NN l 3 3 p 7 9);have HA:es'=es++[PN l 3 3 p 7 9]:=SG (o1 hw) (RW hj (ho hj) 3 3 p 7 9);simp only[(hf p).2,Option.bind_some,Bool.not_true,cond_false];have hg:OA p es'=Pk (OA p es) (PN l 3 3 p 7 9):=by rw[HA];unfold OA;rw[List.foldl_append];show O7 p _ _=_;unfold O7;have:af .eql (PN l 3 3 p 7 9).2.2.2.2.1 p=true:=RU p;rw[this];rfl
  rw[hg];revert hs;generalize OA p es=g;intro hs;obtain⟨g0,g1,g2,g3,g4,g5,g6⟩:=g;simp only at hs;have k1:af .eql (PN l 3 3 p 7 9).2.2.2.1 (1:Int)=false:=rfl;have k2:af .eql (PN l 3 3 p 7 9).2.2.2.1 (2:Int)=false:=rfl;have k3:af .eql (PN l 3 3 p 7 9).2.2.2.1 (3:Int)=true:=rfl;rcases hs with h|h|h|h <;> subst h
  ·have c0:af .eql (0:Int) (0:Int)=true:=rfl;have c1:af .eql (0:Int) (1:Int)=false:=rfl;simp only[Pk,Pm,QW,c0,c1,k1,k2,k3,cond_true,cond_false,RU,Bool.and_true,Bool.true_and,aR]
  ·have c0:af .eql (1:Int) (0:Int)=false:=rfl;simp only[Pk,QW,c0,RU,k2,k3,cond_true,cond_false];have c7:af .eql (PN l 3 3 p 7 9).2.2.2.2.2.1 (7:Int)=true:=rfl;have c9:af .eql (PN l 3 3 p 7 9).2.2.2.2.2.2 (9:Int)=true:=rfl;simp only[c7,c9,RU,cond_true]
  ·have c0:af .eql (2:Int) (0:Int)=false:=rfl;have c1:af .eql (2:Int) (1:Int)=false:=rfl;simp only[Pk,Pm,QW,c0,c1,k1,k2,k3,cond_true,cond_false,RU,Bool.and_true,Bool.true_and,aR]
  ·have c0:af .eql (3:Int) (0:Int)=false:=rfl;have c1:af .eql (3:Int) (1:Int)=false:=rfl;simp only[Pk,Pm,QW,c0,c1,k1,k2,k3,cond_true,cond_false,RU,Bool.and_true,Bool.true_and,aR]
theorem RX(code:List Int):O8 code=some (true,()):=by
 unfold O8 QG;simp only[Option.bind_some];cases hbig:af .gtr (ai code) 1048576 with
 |true=>rfl
 |false=>
  have hb:code.length<=1048576:=by have:¬((1048576:Int)<(code.length:Int)):=of_decide_eq_false hbig;omega
  simp only[cond_false];obtain⟨⟨l,p,u⟩,he,hl⟩:=Rr code hb;have hl:l.length<=60:=hl;obtain⟨es,o1,o2,hf⟩:=Rt l;obtain⟨nc,c1,c2⟩:=Q6 l;obtain⟨r,p1,p2,p3,p4,p5⟩:=Qa l;have hN:UJ (bif L2 l then(l.filter (QI p)).length else 0) (OA p es):=by
   cases hj:L2 l with
   |false=>rw[o2 hj];exact Rs
   |true=>have hp:=RV hj (o1 hj);have hlen:=hp.length_eq;have:=Q7 p es 0 z7 (by omega) Rs;rw[Nat.zero_add,(hp.filter (QI p)).length_eq]at this;exact this
  have hT:=S3 hl o1 p p2 p3 ⟨p4,p5⟩ hN.s;have X9:(bif L2 l then(l.filter (QI p)).length else 0:Nat)<=60:=by
   cases L2 l with
   |false=>exact Nat.zero_le _
   |true=>exact Nat.le_trans (List.length_filter_le _ _) hl
  have Ul:=count_eq l (OA p es) p hl;revert hT Ul X9 hN;generalize (bif L2 l then(l.filter (QI p)).length else 0:Nat)=N;simp only[he,Option.bind_some,(hf p).1,(hf p).2,QW];generalize OA p es=g;intro hN hT X9 Ul;simp only[TP,aR,Bool.and_true]at hT;obtain⟨g0,g1,g2,g3,g4,g5,g6⟩:=g;obtain⟨s1,s2,s3,s4⟩:=hN;simp only at s1 s2 s3 s4 Ul;simp only[RU,Bool.and_true,Bool.not_true,aR,cond_false,c1,c2,p1,Option.bind_some,O6];refine(Sp p2).trans ?_;refine(Sp rfl).trans ?_;refine(Sp (Sa r (by omega))).trans ?_;refine(cF rfl).trans ?_;refine(Sp Ul).trans ?_;dsimp only[Sum.elim_inl];have n0:Si 0=0:=rfl;have n1:Si 1=1:=rfl;have n2:Si 2=2:=rfl;have n3:Si 3=2:=rfl;have ne:∀x:Int,(N:Int)=x->af .neq (N:Int) x=false:=fun x h=>by rw[h];exact O6 x
  rcases s1 with h|h|h|h <;> subst h
  ·have e1:aa .add .i64 g3 g6=g3+g6:=bU (by omega) (by omega);rw[e1];exact(cF rfl).trans ((cF rfl).trans ((cF rfl).trans ((cF (ne _ (by omega))).trans hT)))
  ·have e0:aa .add .i64 g3 (1:Int)=g3+1:=bU (by omega) (by omega);have e1:aa .add .i64 (g3+1) g6=g3+1+g6:=bU (by omega) (by omega);rw[e0,e1];exact(cT rfl).trans ((cF (ne _ (by omega))).trans hT)
  ·have e0:aa .add .i64 g3 (2:Int)=g3+2:=bU (by omega) (by omega);have e1:aa .add .i64 (g3+2) g6=g3+2+g6:=bU (by omega) (by omega);rw[e0,e1];exact(cF rfl).trans ((cT rfl).trans ((cT rfl).trans ((cF (ne _ (by omega))).trans hT)))
  ·have e0:aa .add .i64 g3 (2:Int)=g3+2:=bU (by omega) (by omega);have e1:aa .add .i64 (g3+2) g6=g3+2+g6:=bU (by omega) (by omega);rw[e0,e1];exact(cF rfl).trans ((cF rfl).trans ((cT rfl).trans ((cF (ne _ (by omega))).trans hT)))
end Go.Fn

