import Derived.Test.YtdbcclejeoljoaaGreatDoorApplyQB
/- Plain functions that stand for Go functions, and what they answer. Conditions: none. -/
set_option linter.all false
noncomputable section
namespace Go.Fn
open Go.R
def KE(ok:Nat->Bool):Nat->Nat->Option Nat
 |_,0=>none
 |i,k+1=>bif ok i then KE ok (i+1) k else some i
def N4{ok:Nat->Bool}:∀(k i n:Nat),KE ok i k=some n->i<=n/\n<i+k/\ok n=false
 |0,_,_,h=>by cases h
 |k+1,i,n,h=>by
  unfold KE at h;cases a:ok i with
  |true=>rw[a]at h;obtain⟨c,d,b⟩:=N4 k (i+1) n h;exact⟨by omega,by omega,b⟩
  |false=>
   rw[a]at h;injection h with h
   subst h;exact⟨aJ _,by omega,a⟩
def NV{X Y:Type}{body:X->Option (X⊕Y)}(d:Nat->X)(len:Nat)(c:len<1099511627776)(ok:Nat->Bool)(yes:Y)(no:Nat->Y)(a:∀n,n<len->body (d n)=some (bif ok n then .inl (d (n+1))else .inr (no n)))(b:body (d len)=some (.inr yes)):
  iter body big (d 0)=some (match KE ok 0 len with|some n=>no n|none=>yes):=by
 have e:∀(k n:Nat),n+k=len->iter body (k+1) (d n)=some (match KE ok n k with|some n=>no n|none=>yes):=by
  intro k;induction k with
  |zero=>
   intro n g;have:n=len:=by omega
   subst this;exact cJ b
  |succ k i=>
   intro n g;have h:=a n (by omega);unfold KE;cases f:ok n with
   |true=>rw[f]at h;rw[fz h];exact i (n+1) (by omega)
   |false=>rw[f]at h;exact cJ h
 have h:=e len 0 (bC _);exact gP h (by have:len<big:=i7 c;omega)
def FR(l:List Bx)(p:Int)(n:Nat):Bool:=Bool.not (ak .eql (l.getD n gI).2.2.1 p)
def WZ(l:List Bx)(p:Int):Option Nat:=KE (FR l p) 0 l.length
def Yi:Option Nat->Int
 |some n=>(n:Int)
 |none=>-1
def abE(h:Int)(f:List Int)(l:List Bx){p:Int}(c:l.length<=1073741824)(d:1<=p):KS h f l p=some (Yi (WZ l p),()):=by
 unfold KS;have e:ak .gtr p 0=true:=by simp only[ak,gt_iff_lt,sR];omega
 have:=NV (body:=KA (p,h,f,l,())) (λn=>((n:Int),())) l.length (by omega) (FR l p) (Sum.inr (Sum.inl ())) (λn=>Sum.inl ((n:Int),())) (λn b=>by
  unfold KA FR;simp only[bP,dX,b,bu,az,cw,eW (n:=n) (by omega),e];cases ak .eql (l.getD n gI).2.2.1 p <;> rfl) (by
  unfold KA;simp only[bP,eL,ct,aW])
 have a:PD (p,h,f,l,()) ((0:Int),())=_:=this;rw[a];unfold WZ;cases KE (FR l p) 0 l.length <;> rfl
def Yw(h:Int)(f:List Int)(l:List Bx)(p:Int)(c:l.length<=1073741824):P5 h f l p=some (Yi (WZ l p),()):=by
 unfold P5 I5;have:=NV (body:=sS (l,p,bw l,())) (λn=>((n:Int),())) l.length (by omega) (FR l p) (Sum.inr (Sum.inl ())) (λn=>Sum.inl ((n:Int),())) (λn b=>by
  unfold sS V4 FR;simp only[bP,dX,b,bu,az,cw,eW (n:=n) (by omega),aX];cases ak .eql (l.getD n gI).2.2.1 p <;> rfl) (by
  unfold sS;simp only[bP,eL,ct,aW])
 have a:F1 (l,p,bw l,()) ((0:Int),())=_:=this;rw[a];unfold WZ;cases KE (FR l p) 0 l.length <;> rfl
def aeb(o:Option Nat):ak .geq (Yi o) 0=o.isSome:=by
 cases o with
 |none=>rfl
 |some n=>show decide ((n:Int)>=0)=true;exact iO (by omega)
def aaE(L:List LK)(p:Int):Option Nat:=KE (λi=>(WZ (L.getD i br).2.2 p).isNone) 0 L.length
def aeR(L:List LK)(p:Int):Int×Int:=bif Kb L then(match aaE L p with
 |some i=>((i:Int),((L.getD i br).2.2.getD ((WZ (L.getD i br).2.2 p).getD 0) gI).1)
 |none=>(-1,-1))else(-1,-1)
def ade{l:List Bx}{p:Int}{n:Nat}(h:WZ l p=some n):n<l.length:=by have:=(N4 _ _ _ h).2.1;omega
def Wb(L:List LK){p:Int}(a:L6 L)(j:1<=p):NW L p=some ((aeR L p).1,(aeR L p).2,()):=by
 have l:=a.1;unfold NW aeR;cases c:Kb L with
 |false=>
  have:QT (L,p,()) (0,())=some (.inr (.inl ())):=by refine gP (n:=1) (cJ ?_) (fc (i7 (by omega)));unfold Ny;rw[Vb L a,c];cases ak .lss (0:Int) (bw L) <;> rfl
  rw[this];rfl
 |true=>
  have:=NV (body:=Ny (L,p,())) (λn=>((n:Int),())) L.length (by omega) (λi=>(WZ (L.getD i br).2.2 p).isNone) (Sum.inr (Sum.inl ())) (λi=>Sum.inl ((i:Int),((L.getD i br).2.2.getD ((WZ (L.getD i br).2.2 p).getD 0) gI).1,())) (λn d=>by
   have f:=a.at d;unfold Ny;have k:=abE (L.getD n br).1 (L.getD n br).2.1 (L.getD n br).2.2 (p:=p) f.2 j;simp only[bP,dX,d,bu,az,cw,eW (n:=n) (by omega),Vb L a,c,k,aX,aeb];cases g:WZ (L.getD n br).2.2 p with
   |none=>rfl
   |some m=>
    have h:=ade g;have b:aZ (L.getD n br).2.2 (Yi (some m))=true:=by unfold Yi;rw[dX];exact iO h
    simp only[Option.isSome_some,Option.isNone_some,az,aW,b];unfold Yi;rw[cw];rfl) (by
   unfold Ny;simp only[bP,eL,ct,aW])
  have e:QT (L,p,()) ((0:Int),())=_:=this;rw[e];unfold aaE;cases KE (λi=>(WZ (L.getD i br).2.2 p).isNone) 0 L.length <;> rfl
def Xe(L:List LK)(p:Int)(b:L6 L):LG L p=some (Yi (aaE L p),()):=by
 have f:=b.1;unfold LG zS;have:=NV (body:=nf (L,p,bw L,())) (λn=>((n:Int),())) L.length (by omega) (λi=>(WZ (L.getD i br).2.2 p).isNone) (Sum.inr (Sum.inl ())) (λn=>Sum.inl ((n:Int),())) (λn a=>by
  have d:=b.at a;have e:=Yw (L.getD n br).1 (L.getD n br).2.1 (L.getD n br).2.2 p d.2;unfold nf RD;simp only[bP,dX,a,bu,az,cw,eW (n:=n) (by omega),e,aX,aeb];cases WZ (L.getD n br).2.2 p <;> rfl) (by
  unfold nf;simp only[bP,eL,ct,aW])
 have c:vp (L,p,bw L,()) ((0:Int),())=_:=this;rw[c];unfold aaE;cases KE (λi=>(WZ (L.getD i br).2.2 p).isNone) 0 L.length <;> rfl
def ab3{L:List LK}{p:Int}{i:Nat}(h:aaE L p=some i):i<L.length/\∃m,WZ (L.getD i br).2.2 p=some m/\m<(L.getD i br).2.2.length:=by
 obtain⟨_,c,a⟩:=N4 _ _ _ h;refine⟨by omega,?_⟩;cases b:WZ (L.getD i br).2.2 p with
 |none=>simp only[b]at a;cases a
 |some m=>exact⟨m,rfl,ade b⟩
def m1:Ky (-1)=some (ByteArray.mk #[45,49],()):=by
 unfold Ky;have h:iter (Kd (true,())) 2 (-1,ByteArray.mk #[],())=some (.inl (ByteArray.mk #[49],())):=by rfl
 have a:LZ (true,()) (-1,ByteArray.mk #[],())=_:=gP h (fc (i7 (by omega)));rw[show ak .eql (-1:Int) 0=false from rfl,show ak .lss (-1:Int) 0=true from rfl,a];rfl
def m2:Ku (-1)=some (ByteArray.mk #[45,49],()):=by
 unfold Ku strconv_Itoa;have:Lib.itoa (-1)=[45,49]:=by have h:=Lib.itoa_neg 1 (aJ _);rw[Lib.decDigits_one (by decide)]at h;exact h
 rw[this];rfl
end Go.Fn
namespace Go.R
open Go.Shelf Go.Proofs Go.RowKit Go.Lib
section
variable {P:Program}{ρ:Ren}
def ajq(b:Ren)(a:String):Func:={ Body2.n22 b with name:=a }
def Xn(b:Ren)(a:String):(ajq b a).ntmps=95:=rfl
structure afX (P:Program) (ρ:Ren) (z:Value) (bytes:Nat):Prop where
 mixed:P.follows .mixedOrders=true
 f22:∃nm, (nm == "runtime.NumGoroutine") = false /\ P.funcs[ρ.f 22]? = some (ajq ρ nm)
 f29:∃fn, P.funcs[ρ.f 29]? = some fn /\ (fn.name == "runtime.NumGoroutine") = false /\ fn.body.isNone = true /\ Extern.findNext fn = none /\ Extern.find fn = some (Extern.SlicesOverlaps.overlaps #[(ρ.t 24), (ρ.t 24)] #[(ρ.t 4)])
 t3:P.underlying (ρ.t 3)=some (TypeDesc.int IntKind.i64)
 a3:∀w,(isAgg (ρ.t 3)).run P w=.ok false w
 z3:∀w,(Go.sizeOf (ρ.t 3)).run P w=.ok 1 w
 v3:∀w,(zeroValue (ρ.t 3)).run P w=.ok (Value.int IntKind.i64 0) w
 t4:P.underlying (ρ.t 4)=some (TypeDesc.bool)
 a4:∀w,(isAgg (ρ.t 4)).run P w=.ok false w
 z4:∀w,(Go.sizeOf (ρ.t 4)).run P w=.ok 1 w
 v4:∀w,(zeroValue (ρ.t 4)).run P w=.ok (Value.bool false) w
 z9:∀w,(Go.sizeOf (ρ.t 9)).run P w=.ok 7 w
 t24:P.underlying (ρ.t 24)=some (TypeDesc.slice (ρ.t 9))
 a24:∀w,(isAgg (ρ.t 24)).run P w=.ok false w
 z24:∀w,(Go.sizeOf (ρ.t 24)).run P w=.ok 1 w
 v24:∀w,(zeroValue (ρ.t 24)).run P w=.ok (Value.slice none 0 0) w
 i9:(P.info? (ρ.t 9)).map (λi=>(i.zero,i.size,i.bytes))=some (some z,7,bytes)
def XU (w:World) (dT sT ty elem:TypeId) (b o dLen dCap:Nat) (a:Addr) (sLen sCap m:Nat) (c:List Value)
  (s:P.underlying dT=some (.slice elem)) (g:(P.info? elem).map (·.size)=some 7) (q:m=Nat.min sLen dLen) (r:c.length=m*7)
  (d:∀j v,c[j]? = some v->w.cell? (a.add j)=some v) (k:∀j,j<c.length->(w.cell? ⟨b,o+j,none⟩).isSome=true) (l:∀j,j<c.length->w.frozen? ⟨b,o+j,none⟩=false) (h:∀v∈c,v.oneCell'=true):
  (Builtin.copy_ #[dT,sT] ty #[.slice (some ⟨b,o,none⟩) dLen dCap,.slice (some a) sLen sCap]).run P w=.ok (goInt m) (w.setCells b o c):=by
 have p:=run_loadCells_list (P:=P) w a c d;have f:=run_storeCells_cells (P:=P) b o c 0 w (by simpa using k) (by simpa using l) h;cases e:P.info? elem with
 |none=>simp[e]at g
 |some i=>
  have n:i.size=7:=by simpa[e] using g
  simp[Builtin.copy_,run_underlying s,Builtin.lenOf,Builtin.firstCells,sizeOf,typeInfo,e,n,<-q,<-r,p,f]
set_option maxHeartbeats 4000000 in
set_option maxRecDepth 100000 in
def ago {z:Value} {bytes:Nat} (L:afX P ρ z bytes) (b n c i vb m vc:Nat) (d r:List Value) (w:World) (hi:i<n) (hm:0<m) (R:n+m<=c) (hc63:n+m<=9223372036854775807) (C:vb≠b)
  (H:d.length=n*7) (U:r.length=m*7)
  (I:∀j v,d[j]? = some v->w.cell? ⟨b,j,none⟩=some v) (p:∀j,j<(n+m)*7->(w.cell? ⟨b,j,none⟩).isSome=true) (y:∀j,w.frozen? ⟨b,j,none⟩=false)
  (V:∀j v,r[j]? = some v->w.cell? ⟨vb,j,none⟩=some v) (E:∀v∈d,v.oneCell'=true) (F:∀v∈r,v.oneCell'=true)
  (tA tB:TypeId) (X Y:Nat) (S:w.shape? vb=some (tA,X)) (T:w.shape? b=some (tB,Y)) (O:Y≠0) (K:w.frozen? ⟨vb,0,none⟩=false) (M:w.frozen? ⟨vb,X,none⟩=false):
  Calls P (ρ.f 22) #[.slice (some ⟨b,0,none⟩) n c,.int .i64 i,.slice (some ⟨vb,0,none⟩) m vc] w λe w'=>e=.returned (.slice (some ⟨b,0,none⟩) (n+m) c)/\w'=(w.drew.setCells b ((i+m)*7) (d.drop (i*7))).setCells b (i*7) r:=by
 have t3:=L.t3;have a3:=L.a3;have z3:=L.z3;have v3:=L.v3;have t4:=L.t4;have a4:=L.a4;have z4:=L.z4;have v4:=L.v4;have z9:=L.z9;have t24:=L.t24;have a24:=L.a24;have z24:=L.z24;have v24:=L.v24;have u3:=run_underlying L.t3;have u4:=run_underlying L.t4;have u24:=run_underlying L.t24;obtain⟨fo,q1,q2,q3,q4,q5⟩:=L.f29;have hz1:¬((m:Int)=0):=by omega
 have Iw:¬((i:Int)=(n:Int)):=by omega
 have B:(P.info? (ρ.t 9)).map (·.size)=some 7:=by obtain⟨i0,N,h0,h1,h2⟩:=info_parts L.i9;rw[N];simp[h1]
 have Q:∀Z D,(callFunc (ρ.f 29) #[.slice (some ⟨vb,0,none⟩) m vc,.slice (some ⟨b,(i+m)*7,none⟩) Z D]).run P w=.ok (.value (.bool false)) w:=λZ D=>by
  rw[run_callFunc_extern q1 q2 q3 q4 q5,
   Lib.run_overlaps_apart w (ρ.t 24) (ρ.t 4) (ρ.t 9) L.t24 7 L.z9 ⟨vb,0,none⟩ ⟨b,(i+m)*7,none⟩ m vc Z D C tA tB X Y S T O K M]
  rfl
 have J:(d.drop (i*7)).length=(n-i)*7:=by rw[kg,H];omega
 have mixed:=L.mixed;have Io:IntKind.i64.wrap ((i:Int)+(m:Int))=(i:Int)+(m:Int):=by rw[IntKind.wrap_i64];omega
 have G4:(0:Int)<=(i:Int)+(m:Int):=by omega
 have hin:i<=n:=by omega
 have htn:((i:Int)+(m:Int)).toNat=i+m:=by omega
 have hb2:¬(c=i+m):=by omega
 have F9:(i:Int)<=(n:Int)+(m:Int):=by omega
 have G5:¬(c=i):=by omega
 have f:∀q l sc,(Builtin.copy_ #[(ρ.t 24),(ρ.t 24)] q #[.slice (some ⟨b,(i+m)*7,none⟩) (n+m-(i+m)) l,.slice (some ⟨b,i*7,none⟩) (n+m-i) sc]).run P w.drew=.ok (goInt ((n-i:Nat):Int)) (w.drew.setCells b ((i+m)*7) (d.drop (i*7))):=λq l sc=>
  XU w.drew _ _ q (ρ.t 9) b ((i+m)*7) (n+m-(i+m)) l ⟨b,i*7,none⟩ (n+m-i) sc (n-i) (d.drop (i*7)) L.t24 B (by simp only[Nat.min_def];split <;> omega) J
   (λj v g=>by rw[Addr.add_lit];exact I (i*7+j) v (by rwa[pZ]at g))
   (λj g=>p _ (by omega)) (λj g=>y _) (λv hv=>E v (aaZ hv))
 obtain⟨s,a⟩:∃s,s=w.drew.setCells b ((i+m)*7) (d.drop (i*7)):=⟨_,rfl⟩
 have A:∀k,k<(n+m)*7->(s.cell? ⟨b,k,none⟩).isSome=true:=λk hk=>by rw[a];exact isSome_setCells b (d.drop (i*7)) ((i+m)*7) w.drew (λj g=>p _ (by omega)) _ (p k hk)
 have u:∀(W:World),(∀x,W.cell? x=s.cell? x)->(∀x,W.frozen? x=s.frozen? x)->∀q l,(Builtin.copy_ #[(ρ.t 24),(ρ.t 24)] q #[.slice (some ⟨b,i*7,none⟩) (n+m-i) l,.slice (some ⟨vb,0,none⟩) m vc]).run P W=.ok (goInt (m:Int)) (W.setCells b (i*7) r):=λW t G q l=>
  XU W _ _ q (ρ.t 9) b (i*7) (n+m-i) l ⟨vb,0,none⟩ m vc m r L.t24 B (by simp only[Nat.min_def];split <;> omega) U
   (λj v g=>by rw[Addr.add_lit,t,a,World.cell?_setCells_out b _ _ _ _ (λh _=>absurd h C),bC];exact V j v g)
   (λj g=>by rw[t];exact A _ (by omega)) (λj g=>by rw[G,a,World.frozen?_setCells];exact y _) F
 rw[<-a]at f;obtain⟨nm,_,o⟩:=L.f22
 go_enter o,Xn ρ nm
 go_wp2_with (simp only[Q])
 go_region_law_o (refine step_copy_runI rfl _ _ (ρ.t 24) (ρ.t 24) rfl _ _ (by simp[Act.eval,Act.put]) (by simp[Act.eval,Act.put]) (f _ _ _) ?_)
 go_wp2_with (at_builtin;refine wpList_copy_runI _ rfl _ _ (ρ.t 24) (ρ.t 24) rfl _ _ rfl rfl (u _ (λ_=>rfl) (λ_=>rfl) _ _) ?_)
 go_ret
 first|exact⟨rfl,rfl⟩|exact⟨rfl,by rw[a]⟩
set_option maxHeartbeats 4000000 in
set_option maxRecDepth 100000 in
def aiR {z:Value} {bytes:Nat} (L:afX P ρ z bytes) (b:Option Addr) (n c vb m vc:Nat) (w:World) (D:0<m) (o:n<=c) (g:b=none->n=0) (h:Value) (i:World)
  (d:∀s,(Builtin.append_ #[(ρ.t 24),(ρ.t 24)] s #[.slice b n c,.slice (some ⟨vb,0,none⟩) m vc]).run P w=.ok h i):
  Calls P (ρ.f 22) #[.slice b n c,.int .i64 n,.slice (some ⟨vb,0,none⟩) m vc] w λe v=>e=.returned h/\v=i:=by
 have E:=L.t3;have y:=L.a3;have J:=L.z3;have I:=L.v3;have F:=L.t4;have A:=L.a4;have K:=L.z4;have v4:=L.v4;have M:=L.z9;have r:=L.t24;have j:=L.a24;have x:=L.z24;have u:=L.v24;have G:=run_underlying L.t3;have H:=run_underlying L.t4;have t:=run_underlying L.t24;have mixed:=L.mixed;have p:¬((m:Int)=0):=by omega
 obtain⟨q,_,f⟩:=L.f22
 go_enter f,Xn ρ q
 cases b with
 |none=>
  have l:=g rfl;subst l
  go_wp2_with (at_builtin;refine Lib.wpList_append_run _ rfl _ _ _ _ rfl _ _ rfl rfl _ _ (d _) ?_)
  go_ret
  exact⟨rfl,rfl⟩
 |some a=>
  obtain⟨B,C,k⟩:=a
  go_wp2_with (at_builtin;refine Lib.wpList_append_run _ rfl _ _ _ _ rfl _ _ rfl rfl _ _ (d _) ?_)
  all_goals (go_ret;exact⟨rfl,rfl⟩)
set_option maxHeartbeats 4000000 in
set_option maxRecDepth 100000 in
def ahR {z:Value} {bytes:Nat} (L:afX P ρ z bytes) (hz7:z.cells.size=7) (H:bytes<=65536) (b n c i vb m vc:Nat) (d l:List Value) (w:World) (hi:i<n) (hm:0<m) (hnc:n<=c) (E:c<n+m) (hbig:n+m<=1073741824)
  (hcl:d.length=n*7) (hvl:l.length=m*7)
  (B:∀j v,d[j]? = some v->w.cell? ⟨b,j,none⟩=some v)
  (O:∀j v,l[j]? = some v->w.cell? ⟨vb,j,none⟩=some v) (U:∀v∈d,v.oneCell'=true) (V:∀v∈l,v.oneCell'=true):
  Calls P (ρ.f 22) #[.slice (some ⟨b,0,none⟩) n c,.int .i64 i,.slice (some ⟨vb,0,none⟩) m vc] w λe w'=>
   ∃G:Nat,n+m<=G/\∃a:Array Value,a.size=G*7/\(∀j,j<i*7->a[j]? = d[j]?)/\e=.returned (.slice (some ⟨w.heap.size,0,none⟩) (n+m) G) /\
   w'=(((w.alloc (.cells a (ρ.t 9))).drew.setCells w.heap.size (i*7) l).drew).setCells w.heap.size ((i+m)*7) (d.drop (i*7)):=by
 have t3:=L.t3;have a3:=L.a3;have z3:=L.z3;have v3:=L.v3;have t4:=L.t4;have a4:=L.a4;have z4:=L.z4;have v4:=L.v4;have z9:=L.z9;have t24:=L.t24;have a24:=L.a24;have z24:=L.z24;have v24:=L.v24;have u3:=run_underlying L.t3;have u4:=run_underlying L.t4;have u24:=run_underlying L.t24;have mixed:=L.mixed;obtain⟨T,J,hz0,R,Q⟩:=info_parts L.i9;have hz1:¬((m:Int)=0):=by omega
 have Iw:¬((i:Int)=(n:Int)):=by omega
 have hz3:(c:Int)<(n:Int)+(m:Int):=by omega
 have N:(P.info? (ρ.t 9)).map (·.size)=some 7:=by rw[J];simp[R]
 have hbw:b<w.heap.size:=block_lt_of_cell (B 0 _ (bR (by omega)));have hvw:vb<w.heap.size:=block_lt_of_cell (O 0 _ (bR (by omega)));have M:(n:Int)+(m:Int)-(i:Int)=((n+m-i:Nat):Int):=by omega
 have D:i+(n+m-i)=n+m:=by omega
 have hold:(Builtin.firstCells T.size i (.slice (some ⟨b,0,none⟩) i c)).run P w.drew=.ok (d.take (i*7)).toArray w.drew:=by
  rw[R];exact run_firstCells_some w.drew 7 i ⟨b,0,none⟩ i c (d.take (i*7)) (by rw[dB];omega) (λj v f=>by
   rw[Addr.add_lit,bC];rw[List.getElem?_take]at f;split at f
   .exact B j v f
   .cases f)
 have u:Builtin.nextslicecap (n+m) c*T.bytes<=281474976710656:=by rw[Q];refine growslice_fits E ?_;have h1:(n+m)*bytes<=(n+m)*65536:=Nat.mul_le_mul_left _ H;omega
 have K:(n+m-i)*T.bytes<=281474976710656:=by rw[Q];have h1:(n+m-i)*bytes<=(n+m-i)*65536:=Nat.mul_le_mul_left _ H;omega
 have r:∀q,(Builtin.append_ #[(ρ.t 24),(ρ.t 3)] q #[.slice (some ⟨b,0,none⟩) i c,.int .i64 ((n:Int)+(m:Int)-(i:Int))]).run P w =
   .ok (.slice (some ⟨w.heap.size,0,none⟩) (n+m) (grownCap w (n+m) c (ρ.t 9))) (w.drew.alloc (.cells ((d.take (i*7)).toArray++Builtin.zeroCells z.cells (n+m-i)++Builtin.zeroCells z.cells (grownCap w (n+m) c (ρ.t 9)-(n+m))) (ρ.t 9))):=λq=>by
  have h:=Lib.run_append_grow_zeros w (ρ.t 24) (ρ.t 3) q (ρ.t 9) T _ .i64 .i64 L.t24 L.t3 J hz0 (some ⟨b,0,none⟩) i c (d.take (i*7)) hold (n+m-i) (by omega) (by omega) (by omega) (by omega) K (by rw[D];exact u);rw[D]at h;rw[M];exact h
 obtain⟨G,S⟩:∃G,G=grownCap w (n+m) c (ρ.t 9):=⟨_,rfl⟩
 obtain⟨a,g⟩:∃a:Array Value,a=(d.take (i*7)).toArray++Builtin.zeroCells z.cells (n+m-i)++Builtin.zeroCells z.cells (G-(n+m)):=⟨_,rfl⟩
 rw[<-S]at r;rw[<-g]at r;have hGn:n+m<=G:=by rw[S];exact grownCap_ge w _ _ _
 have hRs:a.size=G*7:=by rw[g];simp[Builtin.zeroCells,hz7,dB];omega
 have hRo:∀j,j<i*7->a[j]? = d[j]?:=λj f=>by
  have hlt:j<((d.take (i*7)).toArray).size:=by simp[dB];omega
  rw[g,xB (by rw[CY];omega),xB hlt,List.getElem?_toArray,List.getElem?_take,cz f]
 have hRl:(n+m)*7<=a.size:=by omega
 obtain⟨o,k⟩:∃o,o=w.drew.alloc (.cells a (ρ.t 9)):=⟨_,rfl⟩
 rw[<-k]at r;have hN:∀j,j<(n+m)*7->(o.cell? ⟨w.heap.size,j,none⟩).isSome=true:=λj f=>by rw[k,World.cell?_alloc_at (w:=w.drew) a _ w.heap.size j rfl,mY (by omega)];rfl
 have F:∀j,o.frozen? ⟨w.heap.size,j,none⟩=false:=λj=>by rw[k];exact World.frozen?_alloc_at (w:=w.drew) a _ w.heap.size j rfl
 have hOb:∀j v,w.cell? ⟨b,j,none⟩=some v->o.cell? ⟨b,j,none⟩=some v:=λj v h=>by rw[k,World.cell?_alloc_past (w:=w.drew) _ b j hbw];exact h
 have hOv:∀j v,w.cell? ⟨vb,j,none⟩=some v->o.cell? ⟨vb,j,none⟩=some v:=λj v h=>by rw[k,World.cell?_alloc_past (w:=w.drew) _ vb j hvw];exact h
 have I:∀(W:World),(∀x,W.cell? x=o.cell? x)->(∀x,W.frozen? x=o.frozen? x)->∀q y,(Builtin.copy_ #[(ρ.t 24),(ρ.t 24)] q #[.slice (some ⟨w.heap.size,i*7,none⟩) (n+m-i) y,.slice (some ⟨vb,0,none⟩) m vc]).run P W=.ok (goInt (m:Int)) (W.setCells w.heap.size (i*7) l):=λW p A q y=>
  XU W _ _ q (ρ.t 9) w.heap.size (i*7) (n+m-i) y ⟨vb,0,none⟩ m vc m l L.t24 N (by simp only[Nat.min_def];split <;> omega) hvl
   (λj v f=>by rw[Addr.add_lit,p,bC];exact hOv _ v (O j v f))
   (λj f=>by rw[p];exact hN _ (by omega)) (λj f=>by rw[A];exact F _) V
 have avM:G<=9223372036854775807:=by have:=grownCap_le_maxLen w (n+m) c (ρ.t 9) (by unfold maxLen;omega);rw[<-S]at this;unfold maxLen at this;omega
 have hGi:¬(G=i):=by omega
 have avN:¬(G=i+m):=by omega
 have hci:¬(c=i):=by omega
 have hbN:b≠w.heap.size:=by omega
 have hdl:(d.drop (i*7)).length=(n-i)*7:=by rw[kg,hcl];omega
 have s:∀(W:World),(∀x,W.cell? x=(o.setCells w.heap.size (i*7) l).cell? x)->(∀x,W.frozen? x=(o.setCells w.heap.size (i*7) l).frozen? x)->∀q y sc,(Builtin.copy_ #[(ρ.t 24),(ρ.t 24)] q #[.slice (some ⟨w.heap.size,(i+m)*7,none⟩) (n+m-(i+m)) y,.slice (some ⟨b,i*7,none⟩) (n-i) sc]).run P W=.ok (goInt ((n-i:Nat):Int)) (W.setCells w.heap.size ((i+m)*7) (d.drop (i*7))):=λW p A q y sc=>
  XU W _ _ q (ρ.t 9) w.heap.size ((i+m)*7) (n+m-(i+m)) y ⟨b,i*7,none⟩ (n-i) sc (n-i) (d.drop (i*7)) L.t24 N (by simp only[Nat.min_def];split <;> omega) hdl
   (λj v f=>by rw[Addr.add_lit,p,World.cell?_setCells_out _ _ _ _ _ (λh _=>absurd h hbN)];exact hOb _ v (B (i*7+j) v (by rwa[pZ]at f)))
   (λj f=>by rw[p];exact isSome_setCells w.heap.size l (i*7) o (λt ht=>hN _ (by omega)) _ (hN _ (by omega)))
   (λj f=>by rw[A,World.frozen?_setCells];exact F _) (λv hv=>U v (aaZ hv))
 subst k;have X:∀x,((w.alloc (.cells a (ρ.t 9))).drew).cell? x=(w.drew.alloc (.cells a (ρ.t 9))).cell? x:=λx=>rfl;have Y:∀x,((w.alloc (.cells a (ρ.t 9))).drew).frozen? x=(w.drew.alloc (.cells a (ρ.t 9))).frozen? x:=λx=>rfl;have Z:∀x,(((w.alloc (.cells a (ρ.t 9))).drew.setCells w.heap.size (i*7) l).drew).cell? x=((w.drew.alloc (.cells a (ρ.t 9))).setCells w.heap.size (i*7) l).cell? x:=λx=>rfl;have hF2:∀x,(((w.alloc (.cells a (ρ.t 9))).drew.setCells w.heap.size (i*7) l).drew).frozen? x=((w.drew.alloc (.cells a (ρ.t 9))).setCells w.heap.size (i*7) l).frozen? x:=λx=>rfl;have Io:IntKind.i64.wrap ((i:Int)+(m:Int))=(i:Int)+(m:Int):=by rw[IntKind.wrap_i64];omega
 have G4:(0:Int)<=(i:Int)+(m:Int):=by omega
 have hin:i<=n:=by omega
 have htn:((i:Int)+(m:Int)).toNat=i+m:=by omega
 have F9:(i:Int)<=(n:Int):=by omega
 clear M D hold g S hRl u K;obtain⟨nm,_,C⟩:=L.f22
 go_enter C,Xn ρ nm
 go_wp2_with (first
  |(at_builtin;refine Lib.wpList_append_run _ rfl _ _ _ _ rfl _ _ rfl rfl _ _ (r _) ?_)
  |(at_builtin;refine wpList_copy_runI _ rfl _ _ (ρ.t 24) (ρ.t 24) rfl _ _ rfl rfl (I _ X Y _ _) ?_)
  |(at_builtin;refine wpList_copy_runI _ rfl _ _ (ρ.t 24) (ρ.t 24) rfl _ _ rfl rfl (s _ (λ_=>rfl) (λ_=>rfl) _ _ _) ?_))
 go_region_law_o (refine step_copy_runI rfl _ _ (ρ.t 24) (ρ.t 24) rfl (.slice (some ⟨w.heap.size,(i+m)*7,none⟩) (n+m-(i+m)) (G-(i+m))) (.slice (some ⟨b,i*7,none⟩) (n-i) (c-i)) (by simp[Act.eval,Act.put]) (by simp[Act.eval,Act.put]) (s _ Z hF2 (ρ.t 3) (G-(i+m)) (c-i)) ?_)
 go_wp2
 go_ret
 exact⟨G,hGn,a,hRs,hRo,rfl,rfl⟩
end
end Go.R
namespace Go.R
open Go.Shelf Go.Proofs
def zOf(P:Program)(e:TypeId):Value:=((P.info? e).bind (·.zero)).getD default
def bOf(P:Program)(e:TypeId):Nat:=((P.info? e).map (·.bytes)).getD 0
def adZ{α:Type}(l:List α)(i:Int)(v:List α):List α:=l.take i.toNat++(v++l.drop i.toNat)
def aeg{α:Type}(l:List α)(i:Int)(v:List α):Bool:=decide (0<=i)&&(decide (i.toNat<=l.length)&&(decide (v.length=1)&&decide (l.length+1<=1073741824)))
def ah1{α:Type}{l:List α}{i:Int}{v:List α}(h:aeg l i v=true):0<=i/\i.toNat<=l.length/\v.length=1/\l.length+1<=1073741824:=by unfold aeg at h;simp only[aQ,sR]at h;exact h
def adA(e:Nat)(a:ar):hJ:=⟨false,[.one (.arr e a false),.one (.val (.int .i64)),.one (.arr e a false)],[.one (.arr e a false)],λx=>bif aeg (α:=a.T) x.1 x.2.1 x.2.2.1 then some (adZ (α:=a.T) x.1 x.2.1 x.2.2.1,())else none⟩
section
variable {P:Program}{ρ:Ren}{w:World}{ω:aq}
def TB(c:Nat)(d:aq)(a:Nat):aq:=λb=>if b=a then some (c,[])else match d b with
 |some (0,q)=>some (0,q)
 |_=>none
def Xo{κ bN b:Nat}{k:Key}(h:TB κ ω bN b=some k):(b=bN/\k=(κ,[]))\/(b≠bN/\∃q,k=(0,q)/\ω b=some (0,q)):=by
 unfold TB at h;split at h
 .rename_i e;injection h with h;exact .inl ⟨e,h.symm⟩
 .rename_i e;split at h
  .rename_i q a;injection h with h;exact .inr ⟨e,q,h.symm,a⟩
  .cases h
def ac0{κ bN b:Nat}(a:b≠bN)(h:my ω b):TB κ ω bN b=ω b:=by unfold TB;rw[bc a];rcases h with h|⟨q,h⟩ <;> simp only[h]
def ac1 {κ:Nat} (u:κ≠0) {w':World} (s:∀b m k,ω b=some k->ω m=some k->b=m) (p:∀b k,ω b=some k->b<w.heap.size) (e:Nat) (l:ar) (c v:Nat) (a:Array Value) (z:List l.T)
  (I:w'.os=w.os) (J:w'.tape=w.tape) (K:w'.output=w.output/\w.drawn<=w'.drawn) (f:w.heap.size<=w'.heap.size) (o:∀b,b≠c->b<w.heap.size->w'.heap[b]? = w.heap[b]?)
  (A:ω c=some (1,[])\/w.heap.size<=c) (C:w'.heap[c]? = some (.cells a e (0,0))) (N:a.size=v*l.len) (H:z.length<=v)
  (B:∀i,i<z.length->l.R w ω (λ_=>.bQ) (λj=>a[i*l.len+j]?) 0 (z.getD i (jk l))):
  cH ω w (TB κ ω c) w'/\(∀b k,TB κ ω c b=some k->b<w'.heap.size)/\(∀b m k,TB κ ω c b=some k->TB κ ω c m=some k->b=m)/\(Ty.sl e l).R w' (TB κ ω c) (.flat (κ,[])) (.slice (some ⟨c,0,none⟩) z.length v) z:=by
 have t:∀b,b<w.heap.size->my ω b->b≠c:=λb g r L=>by
  subst L;rcases A with h|h
  .exact r.ne h (by decide)
  .omega
 have y:cH ω w (TB κ ω c) w':=⟨I,J,K,f,λb g r=>⟨o b (t b g r) g,ac0 (t b g r) r⟩⟩
 refine⟨y,λb k D=>?_,λb m k D E=>?_,?_⟩
 .rcases Xo D with ⟨rfl,_⟩|⟨_,q,_,F⟩
  .exact aM C
  .exact gf (p b _ F) f
 .rcases Xo D with ⟨rfl,x⟩|⟨_,q,x,F⟩ <;> rcases Xo E with ⟨rfl,d⟩|⟨_,P,d,G⟩
  .rfl
  .rw[x]at d;injection d with d _;exact absurd d u
  .rw[x]at d;injection d with d _;exact absurd d.symm u
  .rw[x]at d;injection d with _ d;subst d;exact s b m _ F G
 .refine⟨some ⟨c,0,none⟩,z.length,v,rfl,rfl,H,.inr ⟨c,a,rfl,C,N,by unfold TB;rw[cz rfl]⟩,λi O M n=>?_⟩;injection n with n
  subst n;refine ar.bZ y.size l _ _ _ 0 _ (λ_=>y.keeps) (λj=>?_) (B i M);show w'.cell? ⟨c,0+i*l.len+j,none⟩=_;rw[bC];exact cell_of_row w' c _ a e (0,0) C
def ab8{e:Nat}{c:ar}{A:Key}{v:Value}{x:List c.T}(h:(Ty.sl e c).R w ω (.flat A) v x):∃(g:Option Addr) (d:Nat) (a:List Value),v=.slice g x.length d/\x.length<=d/\a.length=x.length*c.len/\(∀u∈a,u.oneCell'=true) /\
  ((d=0/\x.length=0)\/∃b arr,g=some ⟨b,0,none⟩/\w.heap[b]? = some (.cells arr e (0,0))/\arr.size=d*c.len/\ω b=some A/\∀j u,a[j]? = some u->w.cell? ⟨b,j,none⟩=some u) /\
  ∀i,i<x.length->c.R w ω (λ_=>.bQ) (λj=>a[i*c.len+j]?) 0 (x.getD i (jk c)):=by
 obtain⟨g,n,d,s,B,t,p,y⟩:=h;subst B;rcases p with p|⟨b,arr,q,C,D,E⟩
 .exact⟨g,d,[],s,t,by rw[p.2];simp,by simp,.inl p,λi f=>absurd f (by omega)⟩
 .obtain⟨a,z,r⟩:=oT (w:=w) (b:=b) (off:=0) (m:=c.len) x.length (λi f=>by
   obtain⟨J,H,I⟩:=ar.Bn c _ _ 0 _ (y i _ f q);exact⟨J,H,λk u o=>by have:=I k u o;simpa using this⟩)
  refine⟨g,d,a,s,t,z,λu o=>?_,.inr ⟨b,arr,q,C,D,E,λj u o=>by have:=(r j u o).1;simpa using this⟩,λi f=>?_⟩
  .obtain⟨k,G,rfl⟩:=uv o;exact(r k _ (bR G)).2
  .refine ar.fq c _ _ _ 0 _ (λj F=>?_) (y i _ f q);rw[bC];have l:i*c.len+j<a.length:=by rw[z];exact iq f F (aJ _)
   have:=(r _ _ (bR l)).1;rw[bR l,<-this,bC,bC]
def agI{a:ar}{x:List a.T}{b:List Value}{i:Nat}(f:i<=x.length)(h:∀k,k<x.length->a.R w ω (λ_=>.bQ) (λj=>b[k*a.len+j]?) 0 (x.getD k (jk a))):
  ∀k,k<(x.take i).length->a.R w ω (λ_=>.bQ) (λj=>(b.take (i*a.len))[k*a.len+j]?) 0 ((x.take i).getD k (jk a)):=by
 intro k e;rw[dB]at e;have c:k<i:=by omega
 rw[dG,jv c,<-dG];refine ar.fq a _ _ _ 0 _ (λj d=>?_) (h k (by omega));rw[bC,jv (iq c d (aJ _))]
def age{a:ar}{x:List a.T}{b:List Value}{i:Nat}(h:∀k,k<x.length->a.R w ω (λ_=>.bQ) (λj=>b[k*a.len+j]?) 0 (x.getD k (jk a))):
  ∀k,k<(x.drop i).length->a.R w ω (λ_=>.bQ) (λj=>(b.drop (i*a.len))[k*a.len+j]?) 0 ((x.drop i).getD k (jk a)):=by
 intro k c;rw[kg]at c;rw[dG,pZ,<-dG];refine ar.fq a _ _ _ 0 _ (λj d=>?_) (h (i+k) (by omega));rw[bC,pZ];congr 1;rw[gB];omega
def abl {a:ar} {x y:List a.T} {c l:List Value} {i:Nat} (h:i<=x.length) (f:c.length=x.length*a.len) (g:l.length=y.length*a.len)
  (p:∀k,k<x.length->a.R w ω (λ_=>.bQ) (λj=>c[k*a.len+j]?) 0 (x.getD k (jk a)))
  (s:∀k,k<y.length->a.R w ω (λ_=>.bQ) (λj=>l[k*a.len+j]?) 0 (y.getD k (jk a)))
  {b:Array Value} (r:∀j,j<(x.length+y.length)*a.len->b[j]? = (c.take (i*a.len)++(l++c.drop (i*a.len)))[j]?):
  ∀k,k<(x.take i++(y++x.drop i)).length->a.R w ω (λ_=>.bQ) (λj=>b[k*a.len+j]?) 0 ((x.take i++(y++x.drop i)).getD k (jk a)):=by
 have m:i*a.len<=c.length:=by rw[f];exact iM _ h
 have d:(c.drop (i*a.len)).length=(x.drop i).length*a.len:=by rw[kg,kg,f,Nat.sub_mul]
 have n:(c.take (i*a.len)).length=(x.take i).length*a.len:=by rw[dB,dB,Nat.min_eq_left m,Nat.min_eq_left h]
 have q:=vU (row:=λj=>(l++c.drop (i*a.len))[j]?) g d s (age (i:=i) p) (λj _=>rfl);have e:(x.take i).length+(y++x.drop i).length=x.length+y.length:=by rw[cR,dB,kg,Nat.min_eq_left h];omega
 refine vU (row:=λj=>b[j]?) n ?_ (agI h p) q (λj o=>?_)
 .rw[cR,cR,g,d,gB]
 .rw[e]at o;exact r j o
def aaQ{kM arr:Array Value}{b:List Value}{o:Nat}(h:kM.toList=arr.toList.take o++b++arr.toList.drop (o+b.length))(g:o+b.length<=arr.size):
  kM.size=arr.size/\(∀j,j<o->kM[j]? = arr[j]?)/\(∀j,o<=j->j<o+b.length->kM[j]? = b[j-o]?)/\∀j,o+b.length<=j->kM[j]? = arr[j]?:=by
 have a:(arr.toList.take o).length=o:=by rw[dB,gv];omega
 refine⟨?_,λj c=>?_,λj e f=>?_,λj c=>?_⟩
 .have d:arr.toList.length=arr.size:=gv;rw[<-gv,h,cR,cR,a,kg];omega
 .rw[<-cZ,h,iD,iV (by omega),jv c,cZ]
 .rw[<-cZ,h,iD,kH (by omega),a,iV (by omega)]
 .rw[<-cZ,h,kH (by rw[cR,a];omega),cR,a,pZ,<-cZ];congr 1;omega
def ahQ {z:Value} {bytes:Nat} (L:afX P ρ z bytes) (hz7:z.cells.size=7) (hby:bytes<=65536) {cs:ar} (d:cs.len=7)
  (J:∀b F k,ω b=some k->ω F=some k->b=F) (I:∀b k,ω b=some k->b<w.heap.size) (x y:List cs.T) (i:Nat) (hi:i<=x.length) (hy:y.length=1) (DV:x.length+1<=1073741824) (u1 u3:Value)
  (hr1:(Ty.sl (ρ.t 9) cs).R w ω (.flat (1,[])) u1 x) (hr3:(Ty.sl (ρ.t 9) cs).R w ω (.flat (3,[])) u3 y):
  Calls P (ρ.f 22) #[u1,.int .i64 i,u3] w λex w'=>∃v M,ex=.returned v/\cH ω w M w'/\(∀b k,M b=some k->b<w'.heap.size)/\(∀b F k,M b=some k->M F=some k->b=F) /\
   (Ty.sl (ρ.t 9) cs).R w' M (.flat (4,[])) v (x.take i++(y++x.drop i)):=by
 obtain⟨ad,c,q,rfl,U,g,h1x,O,X⟩:=ab8 hr1;obtain⟨ad3,c3,m,rfl,avW,f,S,asf,Y⟩:=ab8 hr3;obtain⟨i0,hi0,hz0,hzs,hzb⟩:=info_parts L.i9;rcases asf with h|⟨vb,arv,rfl,W,hvs,D,V⟩
 .omega
 have e:(x.take i++(y++x.drop i)).length=x.length+y.length:=by rw[cR,cR,dB,kg,Nat.min_eq_left hi];omega
 have hsrc:Src P i0.size (ρ.t 24) (.slice (some ⟨vb,0,none⟩) y.length c3) y.length m w:=by rw[hzs];refine Src.ofSlice w L.t24 ⟨vb,0,none⟩ y.length c3 m (by rw[f,d]) (λj u A=>?_) S;rw[Addr.add_lit,bC];exact V j u A
 rcases iA i x.length with hlt|hge
 ·-- i < len
  rcases O with h|⟨b,arr,rfl,Q,has,H,s⟩
  .omega
  have hvb:vb≠b:=λh=>by subst h;rw[H]at D;injection D with D;injection D with D _;cases D
  have hbs:=aM Q;by_cases p:x.length+y.length<=c
  .have hal:∀j,w.cell? ⟨b,j,none⟩=arr[j]?:=λj=>cell_of_row w b j arr _ (0,0) Q;have hfit:(x.length+y.length)*7<=arr.size:=by rw[has,d];exact iM _ p
   refine(ago L b x.length c i vb y.length c3 q m w hlt (by omega) p (by omega) hvb (by rw[g,d]) (by rw[f,d]) s (λj A=>by rw[hal,mY (by omega)];rfl) (λj=>by simp[World.frozen?,Q]) V h1x S
    (ρ.t 9) (ρ.t 9) arv.size arr.size (by unfold World.shape?;rw[W]) (by unfold World.shape?;rw[Q]) (by omega) (by simp[World.frozen?,W]) (by simp[World.frozen?,W])).mono ?_
   rintro ex w' ⟨rfl,rfl⟩;have l:q.length=x.length*7:=by rw[g,d]
   have R:m.length=y.length*7:=by rw[f,d]
   have hdl:(q.drop (i*7)).length=(x.length-i)*7:=by rw[kg,l];omega
   obtain⟨eB,g1,g2⟩:=dQ b (ρ.t 9) (0,0) (q.drop (i*7)) ((i+y.length)*7) w.drew arr Q (by omega);obtain⟨k1,k2,k3,_⟩:=aaQ g2 (by omega);obtain⟨E,g3,g4⟩:=dQ b (ρ.t 9) (0,0) m (i*7) _ eB g1 (by omega);obtain⟨m1,m2,m3,m4⟩:=aaQ g4 (by omega);have hp:=(dL b (q.drop (i*7)) ((i+y.length)*7) w.drew).trans (dL b m (i*7) _);have a:=ac1 (κ:=4) (by decide) (w':=(w.drew.setCells b ((i+y.length)*7) (q.drop (i*7))).setCells b (i*7) m) J I (ρ.t 9) cs b c E (x.take i++(y++x.drop i)) hp.os hp.tape ⟨hp.output.1,iN (ot _) hp.output.2⟩ (by rw[hp.size];exact aJ _) (λF N _=>hp.block F N) (.inl H) g3 (by rw[m1,k1,has]) (by rw[e];exact p)
    (abl hi g f X Y (λj A=>?_))
   .rw[e]at a;exact⟨_,_,rfl,a.1,a.2.1,a.2.2.1,a.2.2.2⟩
   .have A:j<(x.length+y.length)*7:=by rw[d]at A;exact A
    have K:(q.take (i*7)).length=i*7:=by rw[dB];omega
    rw[d];rcases iA j (i*7)with h|h
    .rw[m2 j h,k2 j (by omega),iV (by omega),jv h,<-hal,bR (by omega)];exact s j _ (bR (by omega))
    .rcases iA j (i*7+m.length)with Z|Z
     .rw[m3 j h Z,kH (by omega),iV (by omega),K]
     .rw[m4 j Z,k3 j (by omega) (by omega),kH (by omega),kH (by omega),K];congr 1;omega
  .refine(ahR L hz7 hby b x.length c i vb y.length c3 q m w hlt (by omega) U (by omega) (by omega) (by rw[g,d]) (by rw[f,d]) s V h1x S).mono ?_;rintro ex w' ⟨G,hG,n,hRs,hRo,rfl,hw'⟩;have l:q.length=x.length*7:=by rw[g,d]
   have R:m.length=y.length*7:=by rw[f,d]
   have hdl:(q.drop (i*7)).length=(x.length-i)*7:=by rw[kg,l];omega
   have r:eF w (w.alloc (.cells n (ρ.t 9))).drew:=(eF.alloc w _).trans (eF.drew _);have hh0:(w.alloc (.cells n (ρ.t 9))).drew.heap[w.heap.size]? = some (.cells n (ρ.t 9) (0,0)):=heap_alloc_new w _;obtain⟨eB,g1,g2⟩:=dQ w.heap.size (ρ.t 9) (0,0) m (i*7) _ n hh0 (by omega);obtain⟨k1,k2,k3,_⟩:=aaQ g2 (by omega);have Fy:((w.alloc (.cells n (ρ.t 9))).drew.setCells w.heap.size (i*7) m).drew.heap[w.heap.size]? = some (.cells eB (ρ.t 9) (0,0)):=g1;obtain⟨E,g3,g4⟩:=dQ w.heap.size (ρ.t 9) (0,0) (q.drop (i*7)) ((i+y.length)*7) _ eB Fy (by omega);obtain⟨m1,m2,m3,m4⟩:=aaQ g4 (by omega);have C:=dL w.heap.size m (i*7) (w.alloc (.cells n (ρ.t 9))).drew;have o:=dL w.heap.size (q.drop (i*7)) ((i+y.length)*7) ((w.alloc (.cells n (ρ.t 9))).drew.setCells w.heap.size (i*7) m).drew;rw[<-hw']at g3 o;have a:=ac1 (κ:=4) (by decide) (w':=w') J I (ρ.t 9) cs w.heap.size G E (x.take i++(y++x.drop i)) (o.os.trans (C.os.trans r.os)) (o.tape.trans (C.tape.trans r.tape)) ⟨o.output.1.trans (C.output.1.trans r.output.1),iN r.output.2 (iN C.output.2 (iN (ot _) o.output.2))⟩
    (by rw[o.size];exact iN r.size (Nat.le_of_eq C.size.symm)) (λF N Gh=>(o.block F N).trans ((C.block F N).trans (r.block F Gh))) (.inr (aJ _)) g3 (by rw[m1,k1,hRs,d]) (by rw[e];exact hG)
    (abl hi g f X Y (λj A=>?_))
   .rw[e]at a;exact⟨_,_,rfl,a.1,a.2.1,a.2.2.1,a.2.2.2⟩
   .have A:j<(x.length+y.length)*7:=by rw[d]at A;exact A
    have K:(q.take (i*7)).length=i*7:=by rw[dB];omega
    rw[d];rcases iA j (i*7)with h|h
    .rw[m2 j (by omega),k2 j h,hRo j h,iV (by omega),jv h]
    .rcases iA j (i*7+m.length)with Z|Z
     .rw[m2 j (by omega),k3 j h Z,kH (by omega),iV (by omega),K]
     .rw[m3 j (by omega) (by omega),kH (by omega),kH (by omega),K];congr 1;omega
 ·-- append
  have hin:i=x.length:=by omega
  subst hin;have l:q.length=x.length*7:=by rw[g,d]
  have R:m.length=y.length*7:=by rw[f,d]
  have hx0:(∃FY,Value.slice ad x.length c=.slice FY 0 0/\x.length=0)\/∃b c' arr,Value.slice ad x.length c=.slice (some ⟨b,0,none⟩) x.length c'/\x.length<=c'/\w.heap[b]? = some (.cells arr (ρ.t 9) (0,0))/\arr.size=c'*cs.len/\ω b=some (1,[]):=by
   rcases O with ⟨h1,h2⟩|⟨b,arr,rfl,Q,has,H,s⟩
   .exact .inl ⟨ad,by rw[h1,h2],h2⟩
   .exact .inr ⟨b,c,arr,rfl,U,Q,has,H⟩
  obtain⟨v,w',hrun,hres⟩:=xW (P:=P) (w:=w) (B:=λb=>ω b=some (1,[])) (cs:=cs) (ty:=0) (t:=ρ.t 24) (t':=ρ.t 24) L.t24 hi0 hz0 (by rw[hzs,d]) (by rw[hz7,d]) (by rw[hzb];exact hby) hx0 hsrc (by omega);rcases hres with ⟨_,_,_,_,h0⟩|⟨b0,c',kM,olds,rfl,Gb,EF,ase,hol,hel,hold,⟨o1,o2,o3⟩,Bb,T,hb0,hB⟩
  .omega
  .refine(aiR L ad x.length c vb y.length c3 w (by omega) U ?_ _ _ (λty=>hrun)).mono ?_
   .rintro rfl;rcases O with ⟨_,h2⟩|⟨b,arr,h,_⟩
    .exact h2
    .cases h
   .rintro ex w'' ⟨rfl,rfl⟩;have a:=ac1 (κ:=4) (by decide) (w':=w'') J I (ρ.t 9) cs b0 c' kM (x.take x.length++(y++x.drop x.length)) o1 o2 o3 Bb T (by
     rcases iA b0 w.heap.size with h|h
     .exact .inl (hB h)
     .exact .inr h) EF ase (by rw[e];exact Gb) (abl hi g f X Y (λj A=>?_))
    .rw[e]at a;exact⟨_,_,rfl,a.1,a.2.1,a.2.2.1,a.2.2.2⟩
    .rw[hel j A,d,zX (by omega),List.drop_eq_nil_of_le (by omega),fa];rw[d]at A hol;rcases iA j (x.length*7)with h|h
     .rw[iV (by omega),iV (by omega)];rcases O with ⟨_,h2⟩|⟨b,arr,rfl,Q,has,H,s⟩
      .omega
      .rw[hold b c rfl j (by rw[d];exact h),bR (by omega)];exact s j _ (bR (by omega))
     .rw[kH (by omega),kH (by omega),hol,l]
def agp{z:Value}{bytes:Nat}(L:afX P ρ z bytes)(u:Nat.beq z.cells.size 7=true)(p:Nat.ble bytes 65536=true){e:Nat}(G:e=ρ.t 9){l:ar}(q:Nat.beq l.len 7=true):ec P (ρ.f 22) (adA e l):=by
 subst G;obtain⟨R,r,b⟩:=L.f22;refine⟨⟨_,_,b,r,rfl⟩,?_⟩;intro w ω O x y _ o m d a;obtain⟨x1,i,x3,S⟩:=x;have a:(bif aeg (α:=l.T) x1 i x3 then some (adZ (α:=l.T) x1 i x3,())else none)=some y:=a;cases f:aeg (α:=l.T) x1 i x3 with
 |false=>rw[f]at a;cases a
 |true=>
  rw[f]at a;injection a with a
  subst a;obtain⟨B,H,J,I⟩:=ah1 f;match O,d with
  |[K,M,N],d=>
  obtain⟨_,⟨T,g,s⟩,_,⟨U,j,c⟩,_,⟨V,k,t⟩,_⟩:=d;injection g with g _
  subst g;injection j with j _
  subst j;injection k with k _
  subst k;have c:M=.int .i64 i:=c;subst c;obtain⟨n,rfl⟩:=Int.eq_ofNat_of_zero_le B;refine(ahQ L (bn u) (dS p) (bn q) o m x1 x3 n H J I K N s t).mono ?_;rintro Q W ⟨v,A,rfl,C,D,E,F⟩;exact⟨v,A,rfl,C,E,D,⟨rfl,⟨_,rfl,F⟩⟩,⟨(λh=>by cases h),rfl,rfl⟩⟩
end
end Go.R
namespace Go.Fn
open Go.R
def J7(a:JH)(b:Int)(c:JH):YdT:=cond (aeg a b c) (some (adZ a b c,())) none
def Mm(a:JH×Int×YbV)(b:YeA):YcZ:=letI c:=b.2.1;letI d:=b.2.2.2;letI e:=b.2.2.1;letI f:=d.2.1;letI g:=d.2.2.2;letI h:=d.2.2.1;letI i:=g.2.1;letI j:=g.2.2.2.1;letI k:=aa .add .i64 j 1;letI l:=ae k5 a.2.2.1 j;letI m:=ak .leq l.1 a.2.1;letI n:=aa .add .i64 l.2.1 1;letI o:=aa .add .i64 l.2.2.1 1;cond (ak .lss j a.2.2.2.1) (cond (aZ a.2.2.1 j) (cond (ak .eql l.1 a.2.1) (cond m (some (.inl (b.1,c,nS true e n,nS true d.1 o,f,h,g.1,i,k,k,()))) (some (.inl (b.1,c,nS true e n,nS true d.1 o,f,h,g.1,i,g.2.2.1,k,())))) (cond m (some (.inl (b.1,c,e,nS true d.1 o,f,h,g.1,i,k,k,()))) (some (.inl (b.1,c,e,nS true d.1 o,f,h,g.1,i,g.2.2.1,k,()))))) none) (some (.inr (.inl (b.1,c,e,d.1,f,h,g.1,i,g.2.2.1,()))))
def PW k x:=iter (Mm k) big x
def KU(a:JH)(b c d e f:Int):YcB:=(kS a).bind λg=>(JB a).bind λh=>cond (Bool.not h.1) (some (g.1,false,())) ((PW (a,b,a,bw a,()) (g.1,b,1,1,c,d,e,f,0,0,())).bind λi=>Sum.elim (λj=>(kS a).bind λk=>letI l:=j.2.2.2.2;(J7 k.1 l.2.2.2.2.1 (List.append (α:=Ka) ([]:JH) [(j.2.1,j.2.2.1,j.2.2.2.1,l.1,l.2.1,l.2.2.1,l.2.2.2.1)])).bind λm=>(JB m.1).bind λn=>cond (Bool.not n.1) (some (j.1,false,())) (some (m.1,true,()))) (λj=>Empty.elim j) i)
def abi(a:Int)(s:Int×Int×Nat×Nat)(x:Ev):Int×Int×Nat×Nat:=((bif decide (x.1=a)then max s.1 (x.2.1+1)else s.1),max s.2.1 (x.2.2.1+1),(bif decide (x.1<=a)then s.2.2.2+1 else s.2.2.1),s.2.2.2+1)
def ahL{a:Int}{p:List Ev}{s:Int×Int×Nat×Nat}{x:Ev}(h:aeB a p s)(f:Srt (p++[x]))(e:Ue x=true):abi a s x=WG a s x:=by
 unfold abi WG;by_cases c:x.1=a
 .have b:s.1<=x.2.1+1:=by
   rcases h.s2 with d|⟨y,g,d,i⟩
   .have:=VM.1 e;omega
   .have:=(Ti.1 f).2.2 y g x (eK.2 rfl);rw[JU]at this;omega
  rw[iO c,az,az,Int.max_eq_right b]
 .rw[Gi c];rfl
def afF(a:Int):∀(l p:List Ev) (s:Int×Int×Nat×Nat),Srt (p++l)->(∀x,x∈l->Ue x=true)->aeB a p s->l.foldl (abi a) s=l.foldl (WG a) s
 |[],_,_,_,_,_=>rfl
 |x::l,p,s,c,d,h=>by
  have e:p++x::l=(p++[x])++l:=by simp
  rw[e]at c;have b:=(Ti.1 c).1;rw[Xa,Xa,ahL h b (d x (.head _))];exact afF a l (p++[x]) (WG a s x) c (λy f=>d y (.tail _ f)) (ab1 h b)
def ahK{l:List Ev}(c:SR l=true)(a:Int):l.foldl (abi a) (1,1,0,0)=L7 l a:=afF a l [] (1,1,0,0) (by simpa using UU c) (λx b=>aaP c x b) ⟨rfl,aJ _,λx b=>absurd b KD,.inl rfl,λx b=>absurd b KD,.inl rfl,λx b=>absurd (acG b) KD,λx b=>absurd (aaZ b) KD⟩
def aeY(l:List Ev)(c:SR l=true)(node kind z7 a b:Int)(same:List Ev):PW (l,node,l,(bw l),()) (same,node,(1:Int),(1:Int),kind,z7,a,b,(0:Int),(0:Int),())=some (.inl (same,node,(L7 l node).1,(L7 l node).2.1,kind,z7,a,b,(((L7 l node).2.2.1:Nat):Int),())):=by
 have p:=Lp c;rw[<-ahK c node];refine(qA (body:=Mm (l,node,l,(bw l),())) l k5 (by omega) (abi node) (λ(s:Int×Int×Nat×Nat) n=>(same,node,s.1,s.2.1,kind,z7,a,b,((s.2.2.1:Nat):Int),(n:Int),())) (λn s=>s.2.2.2=n) (λs=>Sum.inl (same,node,s.1,s.2.1,kind,z7,a,b,((s.2.2.1:Nat):Int),())) (λn s g d=>⟨?_,by unfold abi;simp[d]⟩) (λs d=>?_) (1,1,0,0) rfl).1
 .have f:=VM.1 (ae5 c g);unfold Mm abi;simp only[bP,g,bu,az,dX,cw];revert f;generalize l.getD n k5=e;intro f;have h:aa .add .i64 e.2.1 1=e.2.1+1:=sO (by omega) (by omega);have i:aa .add .i64 e.2.2.1 1=e.2.2.1+1:=sO (by omega) (by omega);have j:nS true s.2.1 (e.2.2.1+1)=max s.2.1 (e.2.2.1+1):=by unfold nS;simp <;> omega
  have k:ak .eql e.1 node=decide (e.1=node):=by simp[ak,aeJ]
  have m:ak .leq e.1 node=decide (e.1<=node):=rfl;simp only[h,i,j,k,m,eW (n:=n) (by omega),d];have o:nS true s.1 (e.2.1+1)=max s.1 (e.2.1+1):=by unfold nS;simp <;> omega
  rw[o];cases decide (e.1=node) <;> cases decide (e.1<=node) <;> rfl
 .unfold Mm;simp only[bP,eL,ct,aW]
def abj(l:List Ev)(node kind z7 a b:Int)(h:l.length<=1073741824):KU l node kind z7 a b=some ((Ll l node kind z7 a b).1,(Ll l node kind z7 a b).2,()):=by
 unfold KU Ll;simp only[Xi,aX,SQ l h];cases d:SR l with
 |false=>rfl
 |true=>
  have e:=Lp d;have g:=Th node (UU d);have c:=g.ahh;simp only[fu,aW,az,aeY l d,aX,NQ,ajN,l7];generalize f:L7 l node=A at c;have i:aeg l ((A.2.2.1:Nat):Int) [(node,A.1,A.2.1,kind,z7,a,b)]=true:=by unfold aeg;simp only[aQ,sR,aaU];exact⟨Int.natCast_nonneg _,c,rfl,by omega⟩
  have j:adZ l ((A.2.2.1:Nat):Int) [(node,A.1,A.2.1,kind,z7,a,b)]=R4 l node kind z7 a b:=by unfold adZ R4 adb;rw[f,aaU,iD]
  unfold J7;rw[i,j];simp only[az,aX];cases SR (R4 l node kind z7 a b) <;> rfl
def Ud:YaM:=(0,0,0)
def SE(a:Int)(b:Li)(c:Ln)(d:Int):YdP:=(PE a b c).bind λe=>(KS a b c d).bind λf=>(KY a b c).bind λg=>letI h:=e.2.2.1;letI i:=ae gI h f.1;letI j:=some (e.1,e.2.1,h,false,());cond (Bool.not g.1) j (cond (ak .lss f.1 0) j (cond (aZ c f.1) (cond (ae gI c f.1).2.2.2 j (cond (aZ h f.1) (some (e.1,e.2.1,cS h f.1 (i.1,i.2.1,0,i.2.2.2),true,())) none)) none))
def PF(a b c:Int)(d:Bool):Kg:=cond (ak .eql c 0) (some (Bool.not d,())) (some (false,()))
def Pq(a:YbI)(b:YcX):YcD:=letI c:=b.1;letI d:=b.2.1;letI e:=a.2.2.1;letI f:=ae gI e d;cond (ak .lss d (bw e)) (cond (aZ e d) ((PF f.1 f.2.1 f.2.2.1 f.2.2.2).bind λg=>letI h:=aa .add .i64 d 1;letI i:=aa .sub .i64 d 1;letI j:=ae gI e i;letI k:=((0:Int),f.1,f.2.1);cond (Bool.not g.1) (some (.inl (c,h,()))) (cond (ak .gtr d 0) (cond (aZ e i) ((PF j.1 j.2.1 j.2.2.1 j.2.2.2).bind λl=>cond l.1 ((Vh a.2.1 f.1).bind λm=>letI n:=aa .sub .i64 (bw c) 1;letI o:=ae Ud c n;cond (Bool.not m.1) (cond (aZ c n) (cond (aZ c n) (lets (cS c n (o.1,o.2.1,aa .add .i64 o.2.2 f.2.1)) λp=>some (.inl (p,h,()))) none) none) (cond (dF (List.append (α:=YaM) c (List.append (α:=YaM) ([]:YbG) [k]))) (some (.inl (List.append (α:=YaM) c (List.append (α:=YaM) ([]:YbG) [k]),h,()))) none)) (cond (dF (List.append (α:=YaM) c (List.append (α:=YaM) ([]:YbG) [k]))) (some (.inl (List.append (α:=YaM) c (List.append (α:=YaM) ([]:YbG) [k]),h,()))) none)) none) (cond (dF (List.append (α:=YaM) c (List.append (α:=YaM) ([]:YbG) [k]))) (some (.inl (List.append (α:=YaM) c (List.append (α:=YaM) ([]:YbG) [k]),h,()))) none))) none) (some (.inr (.inl (c,()))))
def Pr k x:=iter (Pq k) big x
def Vd(a:Int)(b:Li)(c:Ln):YcQ:=(KY a b c).bind λd=>cond (Bool.not d.1) (some (([]:YbG),())) ((Pr (a,b,c,()) (([]:YbG),0,())).bind λe=>Sum.elim (λf=>some (f.1,())) (λf=>Empty.elim f) e)
def MW(a:YcX)(b:NP):YbE:=letI c:=b.2.1;letI d:=aa .add .i64 c 1;letI e:=(ae Ud a.1 c).2.2;cond (ak .lss c (bw a.1)) (cond (aZ a.1 c) (cond (ak .geq e a.2.1) (cond (ak .lss b.1 0) (some (.inl (c,d,()))) (cond (aZ a.1 c) (cond (aZ a.1 b.1) (cond (ak .lss e (ae Ud a.1 b.1).2.2) (some (.inl (c,d,()))) (some (.inl (b.1,d,())))) none) none)) (some (.inl (b.1,d,())))) none) (some (.inr (.inl (b.1,()))))
def Qp k x:=iter (MW k) big x
def QX(a:YbG)(b:Int):PN:=(Qp (a,b,()) (-1,0,())).bind λc=>Sum.elim (λd=>some (d.1,())) (λd=>Empty.elim d) c
def NK(a:Int×Int×Int×Li×Ln×YcO)(b:Int×Li×Ln×YdE):Option (Int×Li×Ln×YdE⊕YdR):=letI c:=([]:Ln);letI d:=b.1;letI e:=b.2.1;letI f:=b.2.2.2;letI g:=b.2.2.1;letI h:=a.2.2.2.2;letI i:=f.1;letI j:=f.2.2;letI k:=f.2.1;letI l:=h.2.2;letI m:=j.1;letI n:=aa .add .i64 j.2.1 1;letI o:=(l.1,a.2.1,a.1,false);letI p:=ae gI h.1 j.2.1;letI q:=ak .lss p.1 l.1;letI r:=ak .geq p.1 (aa .add .i64 l.1 l.2.1);cond (ak .lss j.2.1 (bw h.1)) (cond (aZ h.1 j.2.1) (cond (ak .eql p.1 l.1) (cond (dF (List.append (α:=Qu) m (List.append (α:=Qu) c [o]))) (lets (List.append (α:=Qu) m (List.append (α:=Qu) c [o])) λs=>letI t:=(aa .add .i64 l.1 a.2.1,aa .sub .i64 l.2.1 a.2.1,(0:Int),false);cond (ak .lss a.2.1 l.2.1) (cond (dF (List.append (α:=Qu) s (List.append (α:=Qu) c [t]))) (lets (List.append (α:=Qu) c [t]) λ_=>lets (List.append (α:=Qu) s (List.append (α:=Qu) c [t])) λu=>cond q (cond (dF (List.append (α:=Qu) u (List.append (α:=Qu) c [p]))) (lets (List.append (α:=Qu) u (List.append (α:=Qu) c [p])) λv=>some (.inl (d,e,g,i,k,v,n,()))) none) (cond r (cond (dF (List.append (α:=Qu) u (List.append (α:=Qu) c [p]))) (lets (List.append (α:=Qu) u (List.append (α:=Qu) c [p])) λv=>some (.inl (d,e,g,i,k,v,n,()))) none) (some (.inl (d,e,g,i,k,u,n,()))))) none) (cond q (cond (dF (List.append (α:=Qu) s (List.append (α:=Qu) c [p]))) (lets (List.append (α:=Qu) s (List.append (α:=Qu) c [p])) λu=>some (.inl (d,e,g,i,k,u,n,()))) none) (cond r (cond (dF (List.append (α:=Qu) s (List.append (α:=Qu) c [p]))) (lets (List.append (α:=Qu) s (List.append (α:=Qu) c [p])) λu=>some (.inl (d,e,g,i,k,u,n,()))) none) (some (.inl (d,e,g,i,k,s,n,())))))) none) (cond q (cond (dF (List.append (α:=Qu) m (List.append (α:=Qu) c [p]))) (lets (List.append (α:=Qu) m (List.append (α:=Qu) c [p])) λs=>some (.inl (d,e,g,i,k,s,n,()))) none) (cond r (cond (dF (List.append (α:=Qu) m (List.append (α:=Qu) c [p]))) (lets (List.append (α:=Qu) m (List.append (α:=Qu) c [p])) λs=>some (.inl (d,e,g,i,k,s,n,()))) none) (some (.inl (d,e,g,i,k,m,n,())))))) none) (some (.inr (.inl (d,e,g,i,k,m,()))))
def RQ k x:=iter (NK k) big x
def SH(a:Int)(b:Li)(c:Ln)(d e f g h:Int):YdA:=cond (dF (List.append (α:=Int) ([]:Li) b)) ((RQ (g,h,a,b,c,d,e,f,()) (0,([]:Li),([]:Ln),a,List.append (α:=Int) ([]:Li) b,([]:Ln),0,())).bind λi=>Sum.elim (λj=>some (j.2.2.2.1,j.2.2.2.2.1,j.2.2.2.2.2.1,())) (λj=>Empty.elim j) i) none
def opn(b:Bx):Bool:=ak .eql b.2.2.1 0 && !b.2.2.2
def afO(b:Bx):PF b.1 b.2.1 b.2.2.1 b.2.2.2=some (opn b,()):=by unfold PF opn;cases ak .eql b.2.2.1 (0:Int) <;> rfl
abbrev Gp:=Int×Int×Int
def ajv(l:List Bx)(o:List Gp):Prop:=∀g,g∈o->∃b,b∈l/\g.2.1=b.1
def ajv.put{l:List Bx}{o:List Gp}(h:ajv l o){i:Int}(f:0<=i)(j:i<(o.length:Int))(z z':Int):ajv l (cS o i (z,(ae Ud o i).2.1,z')):=by
 intro g a;unfold cS at a;rcases ajL a with a|a
 .exact h g a
 .have d:ae Ud o i∈o:=by
   unfold ae;rw[dG,bR (by omega)];exact ZJ _
  obtain⟨b,c,e⟩:=h _ d;subst a;exact⟨b,c,e⟩
def get_mem{α:Type}{z:α}{l:List α}{i:Int}(a:0<=i)(b:i<(l.length:Int)):ae z l i∈l:=by unfold ae;rw[dG,bR (by omega)];exact ZJ _
end Go.Fn
namespace Go.R
variable {H:Nat->Value}
section
variable {A:nA}{M:Type}
def Tn:Nat:=65536
def TV.bare(v:TV A):TV A:=match v with |.pQ ..=>.dead|v=>v
def TV.hold(i:Nat)(v:TV A):TV A:=match v with |.one l=>.pQ i (false,[l]) |.agg ls=>.pQ i (true,ls)|_=>.dead
def TV.abK(i:Nat)(v:TV A):TV A:=match v with |.pQ j c=>bif Nat.beq j i then TV.mk c.1 c.2 else .dead|_=>.dead
def Xm(args:List (TV A))(s:St A):St A:=⟨λi=>bif Nat.ble Tn i then(s.sl (i-Tn)).hold (i-Tn)else(args.getD i .dead).bare,s.ob⟩
def abB(id g a:Nat):List (TV A)->Nat->Option Nat
 |[],_=>none
 |v::d,j=>match v with
  |.one (.ptr c e b)=>bif Nat.beq id c&&(Nat.beq g e&&Nat.beq a b)then some j else abB id g a d (j+1)
  |_=>abB id g a d (j+1)
def ahZ(c:Code)(args:List (TV A))(s s1:St A)(i:Nat):TV A:=match s.sl i with
 |.one (.ptr id g a)=>bif (dm s id g).isSome then(match abB id g a args 0 with
   |some j=>bif b9 [j] c then(s1.sl j).bare else .dead
   |none=>(s1.sl (Tn+i)).abK i)else .dead
 |_=>(s1.sl (Tn+i)).abK i
def agu(c:Code)(args:List (TV A))(s s1:St A):St A:=⟨λi=>ahZ c args s s1 i,s1.ob⟩
def ae1(E:Env)(C:xy real M)(f:bA->Option (Callee real M))(L:Lk real M)(c:Code)(a:List ResultVar):C6 real M:=λargs s k=>
 bif Nat.ble args.length E.nt&&Nat.ble E.nt Tn then
  exec E C f L 0 c (Xm args s) λe d=>bif e.done then af C (nV E d a) λb=>k (TV.nk b).bare (agu c args s d)
  else C.fail
 else C.fail
end
def aap(P:Program)(f:FuncId)(t:(R:Type)->C6 real (Option R)):Prop:=
 ∀(E:Env) (H:Nat->Value) (R:Type) (o:Oper) (args:Array Operand) (b:Array Nat) (ω:aq) (a:Act) (w:World) (s:S) (k:S->Option R) (r:R) (Q:Exit->Act->World->Prop),
  o.op=.call ⟨.value (.func f),args,b⟩->args.size=b.size->Rel H ω a w s->(∀d,o.dst=some d->d<a.tmps.size) ->
  t R ((args.toList.zip b.toList).map λp=>ev E s p.2 p.1) s (λv c=>k (c.bI o.dst v))=some r->o.wp P a w (Ends H ω a w o.dst k r) Q
section
variable {R:Type}{P:Program}{E:Env}{Ψ:bA->Option hJ}{Λ:Nat->Option dR}{ω:aq}{a:Act}{w:World}{s:S}
def cQ.bare{H H':Nat->Value}{e:S}(g:e.ob=s.ob)(hd:∀b k,ω b=some k->b<w.heap.size){u:Value}{tv:bK}(h:cQ H w ω s u tv):cQ H' w ω e u tv.bare:=by
 have tr:∀id,Tr w ω s w ω e id:=λid=>Tr.nq hd (by rw[g]);cases tv with
 |one l=>exact bU.frame (cH.refl _ _) tr h
 |agg ls=>obtain⟨f,a,c⟩:=h;exact⟨f,a,c.mono λ_ _ d=>bU.frame (cH.refl _ _) tr d⟩
 |ol i=>obtain⟨f,a,c⟩:=h;exact⟨f,a,c.mono λ_ _ d=>lX.frame (cH.refl _ _) tr d⟩
 |pQ _ _=>trivial
def aiO(h:Rel H ω a w s){a':Act}(p:a'.defers=[]){c:List bK}{k:List Value}(f:aH (cQ H w ω s) k c)(q:∀i u,k[i]? = some u->a'.tmps.getD i undef=u):Rel (λi=>a.tmps.getD i undef) ω a' w (Xm c s) where
 dH:=h.dH
 inj:=h.inj
 dom:=h.dom
 defers:=p
 dJ:=h.dJ
 slots i:=by
  have tr:∀id,Tr w ω s w ω (Xm c s) id:=λid=>Tr.nq h.dom rfl;show cQ _ w ω (Xm c s) _ (bif Nat.ble Tn i then(s.sl (i-Tn)).hold (i-Tn)else(c.getD i .dead).bare);cases z:Nat.ble Tn i with
  |true=>
   have d:=h.slots (i-Tn);simp only[az];revert d;generalize i-Tn=j;intro d;cases g:s.sl j with
   |one l=>
    rw[g]at d;intro A e;injection e with e
    subst e;exact bU.frame (cH.refl _ _) tr d
   |agg ls=>rw[g]at d;obtain⟨k,m,n⟩:=d;exact⟨k,m,n.mono λ_ _ o=>bU.frame (cH.refl _ _) tr o⟩
   |ol _=>trivial
   |pQ _ _=>trivial
  |false=>
   simp only[aW];rw[dG];cases v:c[i]? with
   |none=>trivial
   |some tv=>obtain⟨u,y,x⟩:=f.get i tv v;rw[q i u y];exact cQ.bare rfl h.dom x
 c7 id cells o:=by obtain⟨b,arr,T,m,n,r⟩:=h.c7 id cells o;exact⟨b,arr,T,m,n,r.mono λ_ _ t=>bU.frame (cH.refl _ _) (λid=>Tr.nq h.dom rfl) t⟩
def aef{id g a:Nat}:∀(c:List bK) (b j:Nat),abB id g a c b=some j->∃i,j=b+i/\c[i]? = some (.one (.ptr id g a))
 |[],_,_,h=>nomatch h
 |v::c,b,j,h=>by
  have rest:abB id g a c (b+1)=some j->∃i,j=b+i/\(v::c)[i]? = some (.one (.ptr id g a)):=λh=>by obtain⟨i,l,f⟩:=aef c (b+1) j h;exact⟨i+1,by omega,by simpa using f⟩
  unfold abB at h;split at h
  .rename_i k m d;cases e:(Nat.beq id k&&(Nat.beq g m&&Nat.beq a d))with
   |true=>rw[e]at h;simp only[aQ]at e;obtain⟨l,f,n⟩:=e;rw[bn l,bn f,bn n];exact⟨0,(aG h).symm,rfl⟩
   |false=>rw[e]at h;exact rest h
  .exact rest h
def aie{f e:S}(hd:∀b k,ω b=some k->b<w.heap.size)(n:e.ob=f.ob){o:Value}{i:Nat}{tv:bK}(h:cQ (λi=>a.tmps.getD i undef) w ω f o tv):cQ H w ω e (a.tmps.getD i undef) (tv.abK i):=by
 have tr:∀id,Tr w ω f w ω e id:=λid=>Tr.nq hd (by rw[n]);cases tv with
 |pQ j c=>
  simp only[TV.abK];cases m:Nat.beq j i with
  |false=>trivial
  |true=>
   have:=bn m;subst this;have d:lX w ω e (a.tmps.getD j undef) c:=lX.frame (cH.refl _ _) tr h;obtain⟨g,ls⟩:=c;cases g with
   |true=>exact d
   |false=>
    match ls,d with
    |[],_=>trivial
    |[l],d=>exact d l rfl
    |_::_::_,_=>trivial
 |_=>trivial
def ahY {p:World} {k:aq} {l:S} {q:Act} {c:Code} {d:List bK} {z:List Value} (h:Rel H ω a w s) (m:aH (cQ H w ω s) z d) (f:Rel (λi=>a.tmps.getD i undef) k q p l)
  (J:∀j u,b9 [j] c=true->z[j]? = some u->q.tmps.getD j undef=u):Rel H k a p (agu c d s l) where
 dH:=f.dH
 inj:=f.inj
 dom:=f.dom
 defers:=h.defers
 dJ:=f.dJ
 slots i:=by
  have held:cQ H p k (agu c d s l) (a.tmps.getD i undef) ((l.sl (Tn+i)).abK i):=aie f.dom rfl (f.slots (Tn+i));have x:=h.slots i;have e:(agu c d s l).sl i=ahZ c d s l i:=rfl;rw[e];unfold ahZ;split
  .rename_i id g n o;rw[o]at x;cases F:dm s id g with
   |none=>trivial
   |some ls=>
    simp only[Option.isSome_some,az];cases K:abB id g n d 0 with
    |none=>exact held
    |some j=>
     simp only;cases G:b9 [j] c with
     |false=>trivial
     |true=>obtain⟨R,r,A⟩:=aef d 0 j K;rw[bC]at r;subst r;obtain⟨u,M,L⟩:=m.get j _ A;obtain⟨t,v⟩:=cM F;obtain⟨b,B,C⟩:=x.2 t ls v;obtain⟨Q,D,E⟩:=(show yZ ω s u id g n from L).2 t ls v;have:=h.inj _ _ _ B D;subst this;have y:=f.slots j;rw[J j u G M,E,<-C]at y;exact cQ.bare rfl f.dom y
  .exact held
 c7 id cells hc:=by obtain⟨b,arr,T,N,O,P⟩:=f.c7 id cells hc;exact⟨b,arr,T,N,O,P.mono λ_ _ I=>bU.frame (cH.refl _ _) (λid=>Tr.nq f.dom rfl) I⟩
def aiZ{e:World}{c:aq}{d:S}:∀ {a:List Value} {b:List bK},aH (cQ H e c d) a b->cQ H e c d (match a with |[u]=>u|a=>.tuple a.toArray) (TV.nk b)
 |[],[],_=>⟨[],rfl,trivial⟩
 |[u],[t],h=>h.1
 |u::g::a,t::i::ts,h=>⟨u::g::a,rfl,aH.GF TV.comp |>.2 (h.mono λ_ _ f=>Bm f)⟩
 |[],_::_,h=>h.elim
 |_::_,[],h=>h.elim
 |[_],_::_::_,h=>h.2.elim
 |_::_::_,[_],h=>h.2.elim
def akd {Ξ:vq} (hI:jm P E Ξ) (hE:bD P E) (X:∀f F, Ψ f = some F -> ec P f.1 F) {pl:Nat -> Bool} {f:FuncId} {fn:Func} {c:Code} (h1:P.funcs[f]? = some fn) (h2:(fn.name == "runtime.NumGoroutine") = false) (h3:fn.body = some c)
  (hnt:fn.ntmps=E.nt) (hL:e8 P E Λ (bY 0 c)):aap P f λR=>ae1 E (av R) (tab Ψ R) (Am Λ Ξ pl R) c fn.results.toList:=by
 intro Z H R o args A ω a w s k r Q ho V h hd m;have J:args.toList.length=A.toList.length:=by simpa using V
 have b:=ze h Z args.toList A.toList J;revert m;generalize (List.map (λp=>ev Z s p.snd p.fst) (args.toList.zip A.toList))=CM at b;intro m;have I:(execOp a.eval o).run P w=.ok (.enter f (args.toList.map a.eval).toArray) w:=by
  unfold execOp;have e1:a.eval (.func f)=.func (.func f) #[] #[]:=rfl;simp only[ho,resolve,e1,Deferred.ofValue];have t:#[]++args.map a.eval ++ #[]=(args.toList.map a.eval).toArray:=by apply vg;simp
  simp only[Sem.run_bind,Sem.run_pure,Result.andThen_ok,invoke];rw[t];exact MuLone.run_callFunc_enter h1 h2 h3 _ w
 unfold Oper.wp;rw[I];simp only[Oper.upon];have D:=b.length;simp only[ae1]at m;cases L:(Nat.ble CM.length E.nt&&Nat.ble E.nt Tn)with
 |false=>rw[L]at m;cases m
 |true=>
 rw[L]at m;simp only[az]at m;rw[aQ]at L;have hn1:=dS L.1;generalize ET:args.toList.map a.eval=us at b D;refine calls_of_wp h1 h3 ?_;have K:(us.toArray++Array.replicate (fn.ntmps-us.toArray.size) undef).size=E.nt:=by simp;omega
 have l:∀i u,us[i]? = some u->(us.toArray++Array.replicate (fn.ntmps-us.toArray.size) undef).getD i undef=u:=λi u M=>by have hi:i<us.length:=(l6.1 M).1;rw[fL,xB (by simpa using hi)];simp[M]
 have hR:=aiO h (a':={ tmps:=us.toArray++Array.replicate (fn.ntmps-us.toArray.size) undef,defers:=[] }) rfl b l;have hx:=iJ hE (uc (E:=E) X) hI (U:=λj=>b9 [j] c=true) c 0 ω _ w _ _ (λj hj=>hj) hL K hR m;refine wp_mono hx λe S n hp=>?_;obtain⟨ex,B,O,q1,N,q3,C,q5,q6⟩:=hp;dsimp only at C;cases x:ex.done with
 |false=>rw[x]at C;cases C
 |true=>
 rw[x]at C;simp only[az]at C;obtain⟨g,t1,q7⟩:=ah C;obtain⟨Y,u1,u2⟩:=CD hE N fn.results.toList g t1;obtain⟨v1,y,W⟩:∃v,(results fn S.tmps).run P n=.ok v n/\cQ (λi=>a.tmps.getD i undef) n B O v (TV.nk g):=by
  have q:=yG (fn:=fn) u1;have z:=aiZ u2;revert q z;match Y with
  |[]=>exact λq z=>⟨_,q,z⟩
  |[_]=>exact λq z=>⟨_,q,z⟩
  |_::_::_=>exact λq z=>⟨_,q,z⟩
 have T:Rel H B a n (agu c CM s O):=ahY h b N λj u hf M=>(q6 j hf).trans (l j u M);have G:cQ H n B (agu c CM s O) v1 (TV.nk g).bare:=cQ.bare (s:=O) rfl N.dom W;have d:S.defers=[]/\∃v,(results fn S.tmps).run P n=.ok v n/\Ends H ω a w o.dst k r (a.put o.dst v) n:=⟨N.defers,_,y,dV T q3 hd G q7⟩
 cases ex with
 |normal=>
  cases e with
  |normal=>exact d
  |_=>cases q1
 |ret=>
  cases e with
  |ret=>exact d
  |_=>cases q1
 |exit _=>cases x
end
abbrev Xl:=List (FuncId×((R:Type)->C6 real (Option R)))
def aci:List (FuncId×((R:Type)->C6 real (Option R)))->vq
 |[],_=>none
 |(f,t)::r,n=>bif Nat.beq f n then some t else aci r n
def abQ(P:Program):List (FuncId×((R:Type)->C6 real (Option R)))->Prop
 |[]=>True
 |p::r=>aap P p.1 p.2/\abQ P r
def ad1{P:Program}:∀ {l},abQ P l->∀f t,aci l f=some t->aap P f t
 |[],_,_,_,h=>nomatch h
 |(g,u)::l,b,f,t,h=>by
  simp only[aci]at h;cases a:Nat.beq g f with
  |true=>rw[a]at h;have h:=aG h;subst h;have:=b.1;rw[bn a]at this;exact this
  |false=>rw[a]at h;exact ad1 b.2 f t h
def abF{P:Program}{E:Env}{l}(h:abQ P l):jm P E (aci l):=λH R o f t args c ω a w s k r Q i e b d hd g=>ad1 h f t e E H R o args c ω a w s k r Q i b d hd g
def ahP(E:Env)(T:List (bA×hJ))(m:List (Nat×dR))(a:List Nat)(X:List (FuncId×((R:Type)->C6 real (Option R))))(fn:Func):(R:Type)->C6 real (Option R):=λR=>ae1 E (av R) (tab (vl T) R) (Am (qc m) (aci X) (λn=>a.any (Nat.beq n)) R) (body fn) fn.results.toList
def an1(fn:Func)(a:Nat)(m:List (Nat × dR)):Bool:=!(fn.name == "runtime.NumGoroutine")&&(fn.body.isSome&&(Nat.beq fn.ntmps a&&oz (bY 0 (body fn)) m))
def ik{P:Program}{E:Env}(j:bD P E){T:List (bA×hJ)}(k:vf P T)(m:List (Nat×dR))(p:List Nat){X}(l:abQ P X){f:FuncId}{fn:Func}(o:ES P E 0 (body fn) m 0)(i:P.funcs[f]? = some fn)(b:an1 fn E.nt m=true):aap P f (ahP E T m p X fn):=by
 simp only[an1,aQ,sC]at b;obtain⟨d,a,e,g⟩:=b;have n:fn.body=some (body fn):=by
  unfold body;cases h:fn.body with
  |none=>rw[h]at a;cases a
  |some c=>rfl
 exact akd (abF l) j (rD k) i d n (bn e) (zC g o)
def fkI {P:Program} {E:Env} (n:bD P E) {T:List (bA×hJ)} (d:vf P T) (m:List (Nat×dR)) {X} (o:abQ P X) {f:FuncId} {ks:List Nat} {fn:Func} {F:hJ} (q:ES P E 0 (body fn) m 0) (l:P.funcs[f]? = some fn)
  (e:E1 fn E.nt F.args.length m=true)
  (a:∀x,F.fn x=exec E (av _) (tab (vl T) _) (Am (qc m) (aci X) FR _) 0 (body fn) (uD F.args (bJ _ x)) λk s=>bif k.done then finish E (body fn) F.look F.args F.bf _ fn.results.toList s else none):vf P (((f,ks),F)::T):=by
 simp only[E1,aQ,sC]at e;obtain⟨g,b,i,j,c5⟩:=e;have p:fn.body=some (body fn):=by
  unfold body;cases h:fn.body with
  |none=>rw[h]at b;cases b
  |some c=>rfl
 exact⟨BR (abF o) n (rD d) l g p (bn i) (dS j) (zC c5 q) a,d⟩
end Go.R
namespace Go.Fn
open Go.R Go.Sort
abbrev LJ(n:Nat)(l:List Ev):Prop:=aeD n [] (λk=>k≠4) l
def LJ.out{n:Nat}(b:n<=16){l:List Ev}(h:LJ n l):SR l=true/\∀x,x∈l->x.2.2.1<=16/\x.1≠4:=⟨h.j,λx a=>⟨by have:=h.st x a;omega,(h.new x a).resolve_left KD⟩⟩
def mm(a b c M:Int):(a*(b % M)+c) % M=(a*b+c) % M:=by rw[ahd,Int.mul_emod,Int.emod_emod,<-Int.mul_emod,<-ahd]
def c5:Int×Int:=((6364136223846793005*((6364136223846793005*((6364136223846793005*((6364136223846793005*6364136223846793005) % 9007199254740992)) % 9007199254740992)) % 9007199254740992)) % 9007199254740992,(6364136223846793005*((6364136223846793005*((6364136223846793005*((6364136223846793005*1442695040888963407+1442695040888963407) % 9007199254740992)+1442695040888963407) % 9007199254740992)+1442695040888963407) % 9007199254740992)+1442695040888963407) % 9007199254740992)
structure aju (n:Nat) (l:List Ev):Prop where
 j:SR l=true
 st:∀x,x∈l->x.2.2.1<=(n:Int)
 sq:∀x,x∈l->x.1=4->x.2.1<=(n:Int)
def aju.add{n:Nat}(t:n<=200){l:List Ev}(h:aju n l)(s:l.length<60){kind z7 a b:Int}(k:1<=kind/\kind<=4)(m:1<=z7/\z7<=3)(o:0<=a/\a<=3)(r:0<=b/\b<=39):aju (n+1) (Ll l 4 kind z7 a b).1/\(Ll l 4 kind z7 a b).1.length=l.length+1:=by
 have f:=UU h.j;have d:=Th 4 f;have v:1<=(L7 l 4).1/\(L7 l 4).1<=(n:Int)+1:=by
  rcases d.s2 with p|⟨x,c,q,p⟩
  .rw[p];omega
  .have:=h.sq x c q;have:=(VM.1 (aaP h.j x c)).2.1;omega
 have u:1<=(L7 l 4).2.1/\(L7 l 4).2.1<=(n:Int)+1:=by
  rcases d.p2 with p|⟨x,c,p⟩
  .rw[p];omega
  .have:=h.st x c;have:=(VM.1 (aaP h.j x c)).2.2.1;omega
 have i:Ue (adb l 4 kind z7 a b)=true:=VM.2 ⟨by show(0:Int)<=4/\(4:Int)<=5;omega,by show 1<=(L7 l 4).1/\(L7 l 4).1<=999;omega,by show 1<=(L7 l 4).2.1/\(L7 l 4).2.1<=100000;omega,by show 1<=kind/\kind<=4;omega,by show 1<=z7/\z7<=999;omega,by show 0<=a/\a<=20000;omega,by show 0<=b/\b<=20000;omega⟩;have g:=agQ h.j (node:=4) (kind:=kind) (z7:=z7) (a:=a) (b:=b) (by omega) i;unfold Ll;rw[h.j,g];simp only[az];refine⟨⟨g,λx c=>?_,λx c j=>?_⟩,aam f _ _ _ _ _⟩
 .rcases(Lh x).1 c with e|e
  .rw[e];show(L7 l 4).2.1<=_;omega
  .have:=h.st x e;omega
 .rcases(Lh x).1 c with e|e
  .rw[e];show(L7 l 4).1<=_;omega
  .have:=h.sq x e j;omega
end Go.Fn
namespace Go.R
open Go.Shelf Go.Proofs
def Kt:Nat:=1073741824
section
variable {A:nA}{M:Type}
def aaN(e:Nat)(a:ar)(C:xy A M):C6 A M:=λargs s k=>match args with
 |[.one (.eI c b),.one (.val (.int .i64) n)]=>bif Nat.beq c e&&ar.beq b a then
   C.cond (A.DO n) (k (.one (.ref Kt ((s.new Kt (.arr e a false (A.kN e a))).ob Kt).g 0 [])) (s.new Kt (.arr e a false (A.kN e a)))) C.fail
  else C.fail
 |_=>C.fail
end
def ahD(P:Program)(e n:Nat):Bool:=match P.info? e with
 |some i=>(match i.zero with|some z=>Nat.beq z.cells.size n&&(Nat.beq i.size n&&(Nat.ble i.bytes 65536&&Nat.ble 1 n))|none=>false)
 |none=>false
def ahE{P:Program}{e n:Nat}(h:ahD P e n=true):∃a z,P.info? e=some a/\a.zero=some z/\z.cells.size=n/\a.size=n/\a.bytes<=65536/\1<=n:=by
 unfold ahD at h;split at h
 .rename_i i b;split at h
  .rename_i z c;simp only[aQ]at h;exact⟨i,z,b,c,bn h.1,bn h.2.1,dS h.2.2.1,dS h.2.2.2⟩
  .cases h
 .cases h
def XJ(z:Array Value)(n:Nat):(Builtin.zeroCells z n).size=n*z.size:=by unfold Builtin.zeroCells;simp
section
variable {P:Program}{ρ:Ren}
def ahG(L:Lays8.n4 P ρ){f e:Nat}{b:ar}(hf:ρ.f 4=f)(he:ρ.t 25=e)(hE:ahD P e b.len=true):aap P f λR=>aaN e b (av R):=by
 subst hf;subst he;intro E0 H R o args y ω a w s k r Q ho x h hd l;have I:args.toList.length=y.toList.length:=by simpa using x
 have d:=ze h E0 args.toList y.toList I;revert l;generalize (List.map (λp=>ev E0 s p.snd p.fst) (args.toList.zip y.toList))=CM at d;intro l;obtain⟨nm,X,S⟩:=L.f4;have F:(execOp a.eval o).run P w=.ok (.enter (ρ.f 4) (args.toList.map a.eval).toArray) w:=by
  unfold execOp;have e1:a.eval (.func (ρ.f 4))=.func (.func (ρ.f 4)) #[] #[]:=rfl;simp only[ho,resolve,e1,Deferred.ofValue];have u:#[]++args.map a.eval ++ #[]=(args.toList.map a.eval).toArray:=by apply vg;simp
  simp only[Sem.run_bind,Sem.run_pure,Result.andThen_ok,invoke];rw[u];exact MuLone.run_callFunc_enter S X rfl _ w
 unfold Oper.wp;rw[F];simp only[Oper.upon];generalize ET:args.toList.map a.eval=us at d;simp only[aaN]at l;split at l
 .rename_i e' M n;match us,d with
  |[u1,u2],d=>
  obtain⟨⟨K,h1⟩,N,_⟩:=d;have N:u2=.int .i64 n:=N;subst h1;subst N;cases hb:(Nat.beq e' (ρ.t 25)&&ar.beq M b)with
  |false=>rw[hb]at l;cases l
  |true=>
  rw[hb]at l;simp only[az]at l;replace l:(bif lu n then k ((s.new Kt (.arr (ρ.t 25) b false (real.kN (ρ.t 25) b))).bI o.dst (.one (.ref Kt ((s.new Kt (.arr (ρ.t 25) b false (real.kN (ρ.t 25) b))).ob Kt).g 0 [])))else none)=some r:=l;cases D:lu n with
  |false=>rw[D]at l;cases l
  |true=>
  rw[D]at l;simp only[az]at l;unfold lu limit at D;simp only[aQ,sR]at D;obtain⟨m,rfl⟩:∃m:Nat,n=(m:Int):=⟨Int.toNat n,(Int.toNat_of_nonneg D.1).symm⟩
  have hm:m<=1073741824:=by omega
  have J:Kt≠0:=by unfold Kt;omega
  obtain⟨i0,z,U,Z,hzc,his,O,h1n⟩:=ahE hE;have E:∀cells,(Ob.arr (ρ.t 25) b false (real.kN (ρ.t 25) b))≠.blk cells:=λ_ e=>by cases e
  have Y:(s.new Kt (.arr (ρ.t 25) b false (real.kN (ρ.t 25) b))).ob Kt=⟨(s.ob Kt).g+1,0,0,.arr (ρ.t 25) b false (real.kN (ρ.t 25) b)⟩:=by unfold St.new;exact St.aB _ _ _
  have B:∀g hh c,(s.new Kt (.arr (ρ.t 25) b false (real.kN (ρ.t 25) b))).cont Kt g hh []=some c->c=⟨ρ.t 25,b,real.kN (ρ.t 25) b,1⟩:=λg hh c q=>by
   unfold St.cont fU.cont at q;rw[Y]at q;cases hq:Nat.beq ((s.ob Kt).g+1) g with
   |false=>rw[hq]at q;cases q
   |true=>rw[hq]at q;exact(aG q).symm
  by_cases W:m=0
  .subst W;refine(Any8.slices_Grow_room L K 0 0 0 w (aJ _) (by omega) (by omega) (aJ _)).mono ?_;rintro ex w' ⟨rfl,rfl⟩;refine dV (h.bare J _ E) (bj _ _ _ J) hd (t:=.one (.ref Kt ((s.new Kt (.arr (ρ.t 25) b false (real.kN (ρ.t 25) b))).ob Kt).g 0 [])) ⟨aJ _,kU _,λc q=>?_⟩ l;obtain rfl:=B _ _ _ q;exact⟨K,0,0,rfl,rfl,aJ _,.inl ⟨rfl,rfl⟩,λi _ T=>absurd T (vI _)⟩
  .have C:(0+m)*i0.bytes<=140737488355328:=by
    have:(0+m)*i0.bytes<=1073741824*65536:=Nat.mul_le_mul (by simpa using hm) O;omega
   refine(Any8.slices_Grow_grow L i0 z U Z (by omega) K 0 0 m [] w (aJ _) (by omega) C (by omega) (by simp) (λ_=>rfl) (λ_ _ j v hj=>by simp at hj)).mono ?_;rintro ex w' ⟨rfl,rfl⟩;have hG:=grownCap_ge w (0+m) 0 (ρ.t 25);generalize grownCap w (0+m) 0 (ρ.t 25)=G at hG;generalize A:([].toArray++Builtin.zeroCells z.cells (0+m-0)++Builtin.zeroCells z.cells (G-(0+m)))=arr;have x:arr.size=G*b.len:=by rw[<-A,CY,CY,XJ,XJ,hzc];rw[show([]:List Value).toArray.size=0 from rfl,bC,<-gB];congr 1;omega
   have hg:=(eF.drew w).trans (eF.alloc w.drew (.cells arr (ρ.t 25)));have V:w.heap.size<(w.drew.alloc (.cells arr (ρ.t 25))).heap.size:=by rw[fM];exact fK _
   have hR:=h.fresh (id:=Kt) J hg (aJ _) V (.arr (ρ.t 25) b false (real.kN (ρ.t 25) b)) (λcells q=>absurd q (E cells));refine dV hR (dW J hg (aJ _)) hd (t:=.one (.ref Kt ((s.new Kt (.arr (ρ.t 25) b false (real.kN (ρ.t 25) b))).ob Kt).g 0 [])) ⟨aJ _,kU _,λc q=>?_⟩ l;obtain rfl:=B _ _ _ q;exact⟨some ⟨w.heap.size,0,none⟩,0,G,rfl,rfl,kU _,.inr ⟨w.heap.size,arr,rfl,heap_alloc_new w.drew _,x,aq.eV _ _ _⟩,λi _ T=>absurd T (vI _)⟩
 .cases l
end
end Go.R
namespace Go.R
variable {H:Nat->Value}
section
variable {A:nA}{M:Type}
inductive SL where
 |dead
 |undef
 |val (t:Ty)
 |nil (e:Nat) (c:ar)
 |ref (id:Nat) (b:List Nat)
 |ptr (id a:Nat)
 |bH (id:Nat) (b:List Nat) (a:Nat)
 |cD (id:Nat)
inductive ST where
 |one (l:SL)
 |agg (ls:List SL)
 |pQ (i:Nat) (b:Bool) (ls:List SL)
inductive SO where
 |blk (ls:List SL)
 |arr (e:Nat) (cs:ar) (d:Bool)
 |bQ (e:Nat) (cs:ar)
 |mp (k:IntKind)
structure Sk where
 sl:List (Nat×ST)
 ob:List (Nat×SO)
def SL.ks:SL->List K
 |.val t=>[.val t]
 |.ref _ a=>a.map λ_=>.val (.int .i64)
 |.bH _ a _=>.val (.int .i64)::a.map λ_=>.val (.int .i64)
 |_=>[]
def ST.ls:ST->List SL
 |.one l=>[l]
 |.agg ls |.pQ _ _ ls=>ls
def ST.ks(t:ST):List K:=(t.ls.map SL.ks).flatten
def SO.ks:SO->List K
 |.blk ls=>(ls.map SL.ks).flatten
 |.arr e a d=>[.arr e a d]
 |.bQ e a=>[.val (.sl e a)]
 |.mp k=>[.mp k]
def Sk.ks(k:Sk):List K:=(k.sl.map λp=>p.2.ks).flatten++(k.ob.map λp=>p.2.ks).flatten
def ixs(p:List (A.V (.int .i64)×Nat)):List (KV A):=p.map λq=>⟨.val (.int .i64),q.1⟩
def aeU:List (A.V (.int .i64)×Nat)->List Nat->Bool
 |[],[]=>true
 |q::p,j::a=>Nat.beq q.2 j&&aeU p a
 |_,_=>false
def held(s:St A)(id g h:Nat)(p:List (A.V (.int .i64)×Nat)):Bool:=Nat.beq (s.ob id).g g&&(p.isEmpty||Nat.beq (s.ob id).h h)
def SL.un(s:St A)(k:SL)(l:Lf A):Option (List (KV A)):=
 match k,l with
 |.dead,_=>some []
 |.undef,.undef=>some []
 |.val t,.val u x=>bif Ty.beq u t then some [⟨.val u,x⟩]else none
 |.nil e j,.eI m d=>bif Ty.beq (.sl m d) (.sl e j)then some []else none
 |.ref id f,.ref a g h p=>bif Nat.beq a id&&(held s a g h p&&aeU p f)then some (ixs p)else none
 |.ptr id c,.ptr a g b=>bif Nat.beq a id&&(Nat.beq (s.ob a).g g&&Nat.beq b c)then some []else none
 |.bH id f c,.bH a g h p i b=>bif Nat.beq a id&&(held s a g h p&&(aeU p f&&Nat.beq b c))then some (⟨.val (.int .i64),i⟩::ixs p)else none
 |.cD id,.cD a g=>bif Nat.beq a id&&Nat.beq (s.ob a).g g then some []else none
 |_,_=>none
def uns(s:St A):List SL->List (Lf A)->Option (List (KV A))
 |[],[]=>some []
 |k::ks,l::ls=>match k.un s l,uns s ks ls with
  |some x,some r=>some (x++r)
  |_,_=>none
 |_,_=>none
def ST.un(s:St A)(k:ST)(t:TV A):Option (List (KV A)):=
 match k,t with
 |.one k,.one l=>uns s [k] [l]
 |.agg ks,.agg ls=>uns s ks ls
 |.pQ i b ks,.pQ j c=>bif Nat.beq j i&&(c.1==b)then uns s ks c.2 else none
 |_,_=>none
def SO.un(s:St A)(k:SO)(o:Ob A):Option (List (KV A)):=
 match k,o with
 |.blk ks,.blk ls=>uns s ks ls
 |.arr e c d,.arr b a f x=>bif K.beq (.arr b a f) (.arr e c d)then some [⟨.arr b a f,x⟩]else none
 |.bQ e c,.bQ b a x=>bif Ty.beq (.sl b a) (.sl e c)then some [⟨.val (.sl b a),x⟩]else none
 |.mp k,.mp g x=>bif K.beq (.mp g) (.mp k)then some [⟨.mp g,x⟩]else none
 |_,_=>none
def ajd(s:St A):List (Nat×ST)->Option (List (KV A))
 |[]=>some []
 |p::r=>match p.2.un s (s.sl p.1),ajd s r with
  |some x,some y=>some (x++y)
  |_,_=>none
def ajc(s:St A):List (Nat×SO)->Option (List (KV A))
 |[]=>some []
 |p::r=>match p.2.un s (s.ob p.1).o,ajc s r with
  |some x,some y=>some (x++y)
  |_,_=>none
def Sk.un(k:Sk)(s:St A):Option (fE A k.ks):=
 match ajd s k.sl,ajc s k.ob with
 |some x,some y=>kL k.ks (x++y)
 |_,_=>none
def ake(v:KV A):A.V (.int .i64):=match v with|⟨.val (.int .i64),x⟩=>x|_=>A.zz .i64 0
def pathOf:List Nat->List (KV A)->List (A.V (.int .i64)×Nat)
 |j::a,v::b=>(ake v,j)::pathOf a b
 |_,_=>[]
def SL.fi(k:SL)(b:List (KV A)):Lf A:=
 match k,b with
 |.undef,_=>.undef
 |.val _,⟨.val u,x⟩::_=>.val u x
 |.nil e d,_=>.eI e d
 |.ref id c,b=>.ref id 0 0 (pathOf c b)
 |.ptr id a,_=>.ptr id 0 a
 |.bH id c a,v::b=>.bH id 0 0 (pathOf c b) (ake v) a
 |.cD id,_=>.cD id 0
 |_,_=>.dead
def fis:List SL->List (KV A)->List (Lf A)
 |[],_=>[]
 |k::ks,a=>k.fi a::fis ks (a.drop k.ks.length)
def ST.fi(k:ST)(a:List (KV A)):TV A:=
 match k with
 |.one k=>.one (k.fi a)
 |.agg ks=>.agg (fis ks a)
 |.pQ i b ks=>.pQ i (b,fis ks a)
def SO.fi(k:SO)(b:List (KV A)):Ob A:=
 match k,b with
 |.blk ks,b=>.blk (fis ks b)
 |.arr ..,⟨.arr e a d,x⟩::_=>.arr e a d x
 |.bQ ..,⟨.val (.sl e a),x⟩::_=>.bQ e a x
 |.mp _,⟨.mp k,x⟩::_=>.mp k x
 |_,_=>.gone
def ahy:List (Nat×ST)->List (KV A)->Nat->TV A
 |[],_,_=>.dead
 |p::r,a,j=>bif Nat.beq p.1 j then p.2.fi a else ahy r (a.drop p.2.ks.length) j
def ahx:List (Nat×SO)->List (KV A)->Nat->Ob A
 |[],_,_=>.gone
 |p::r,a,j=>bif Nat.beq p.1 j then p.2.fi a else ahx r (a.drop p.2.ks.length) j
def Sk.fi(k:Sk)(x:fE A k.ks):St A:=⟨ahy k.sl (bJ _ x),λj=>⟨0,0,0,ahx k.ob ((bJ _ x).drop (k.sl.map λp=>p.2.ks).flatten.length) j⟩⟩
abbrev W2:=List (Ex×Sk)
def Y5(A:nA):W2->Type
 |[]=>Empty
 |e::a=>fE A e.2.ks⊕Y5 A a
def Y5.elim{M:Type}:(a:W2)->Y5 A a->(Ex->St A->M)->M
 |[],q,_=>Empty.elim q
 |e::a,q,k=>Sum.elim (λy=>k e.1 (e.2.fi y)) (λq=>Y5.elim a q k) q
def ZA:(a:W2)->Ex->St A->Option (Y5 A a)
 |[],_,_=>none
 |e::a,b,s=>bif Ex.beq e.1 b then(e.2.un s).map .inl else(ZA a b s).map .inr
end
inductive LWk (s:S):L->L->Prop
 |dead (l:L):LWk s l .dead
 |undef:LWk s .undef .undef
 |val (t:Ty) (x:t.T):LWk s (.val t x) (.val t x)
 |eI (e:Nat) (b:ar):LWk s (.eI e b) (.eI e b)
 |ref (id g h:Nat) (p:iU):(s.ob id).g=g->(p=[]\/(s.ob id).h=h)->LWk s (.ref id g h p) (.ref id 0 0 p)
 |ptr (id g a:Nat):(s.ob id).g=g->LWk s (.ptr id g a) (.ptr id 0 a)
 |bH (id g h:Nat) (p:iU) (i:IV) (a:Nat):(s.ob id).g=g->(p=[]\/(s.ob id).h=h)->LWk s (.bH id g h p i a) (.bH id 0 0 p i a)
 |cD (id g:Nat):(s.ob id).g=g->LWk s (.cD id g) (.cD id 0)
def TWk(s:S):bK->bK->Prop
 |.one l,.one d=>LWk s l d
 |.agg ls,.agg a=>aH (LWk s) ls a
 |.pQ i c,.pQ j b=>i=j/\c.1=b.1/\aH (LWk s) c.2 b.2
 |_,.one .dead=>True
 |_,_=>False
def OWk(s:S)(o c:Ob real):Prop:=c=.gone\/(c=o/\∀b,o≠.blk b)\/∃b a,o=.blk b/\c=.blk a/\aH (LWk s) b a
structure SWk (s s':S):Prop where
 g:∀id,(s'.ob id).g=0
 h:∀id,(s'.ob id).h=0
 o:∀id,OWk s (s.ob id).o (s'.ob id).o
 t:∀i,TWk s (s.sl i) (s'.sl i)
section
variable {R:Type}{P:Program}{E:Env}{Ψ:bA->Option hJ}{Λ:Nat->Option dR}{ω:aq}{a:Act}{w:World}{s s':S}
def SWk.cont(d:SWk s s'){id g h:Nat}{p:iU}{c:Cont real}(f:(s.ob id).g=g)(b:p=[]\/(s.ob id).h=h)(a:s'.cont id 0 0 p=some c):s.cont id g h p=some c:=by
 unfold St.cont at a⊢;rw[d.g,eN]at a;rw[f,eN];simp only[az]at a⊢;unfold fU.cont at a⊢;rcases d.o id with e|⟨e,_⟩|⟨_,_,_,e,_⟩
 .rw[e]at a;cases a
 .rw[e]at a;rw[d.h]at a;cases p with
  |nil=>exact a
  |cons q p=>
   rcases b with b|b
   .cases b
   .rw[b,eN];rw[eN]at a;exact a
 .rw[e]at a;cases a
def bU.wk(f:SWk s s'){v:Value}{l r:L}(u:LWk s l r)(h:bU w ω s v l):bU w ω s' v r:=by
 cases u with
 |dead=>trivial
 |undef=>exact h
 |val=>exact h
 |eI=>exact h
 |ref id g t p b m=>exact⟨kU _,kU _,λc a=>h.2.2 c (f.cont b m a)⟩
 |ptr id g n b=>
  refine⟨kU _,λ_ cells a=>?_⟩;rcases f.o id with e|⟨e,d⟩|⟨o,j,q,d,_⟩
  .rw[e]at a;cases a
  .rw[e]at a;exact absurd a (d cells)
  .exact h.2 b o q
 |bH id g t p i n b m=>exact⟨kU _,kU _,λc a=>h.2.2 c (f.cont b m a)⟩
 |cD id g b=>
  refine⟨kU _,λ_ k x a=>?_⟩;rcases f.o id with e|⟨e,d⟩|⟨o,j,q,d,_⟩
  .rw[e]at a;cases a
  .rw[e]at a;exact h.2 b k x a
  .rw[d]at a;cases a
def aiq.wk(d:SWk s s'):∀ {e:List Value} {ls a:List L},aH (LWk s) ls a->aH (bU w ω s) e ls->aH (bU w ω s') e a
 |[],[],[],_,_=>trivial
 |_::_,_::_,_::_,b,c=>⟨bU.wk d b.1 c.1,aiq.wk d b.2 c.2⟩
 |[],_::_,_,_,h=>h.elim
 |_::_,[],_,_,h=>h.elim
 |_,[],_::_,h,_=>h.elim
 |_,_::_,[],h,_=>h.elim
def Rel.wk(g:SWk s s')(h:Rel H ω a w s):Rel H ω a w s' where
 dH:=h.dH
 inj:=h.inj
 dom:=h.dom
 defers:=h.defers
 dJ:=by
  rcases g.o 0 with e|⟨e,_⟩|⟨_,_,e,_,_⟩
  .exact e
  .rw[e];exact h.dJ
  .rw[h.dJ]at e;cases e
 slots i:=by
  have n:=h.slots i;have d:=g.t i;revert n d;generalize s.sl i=t;generalize s'.sl i=t';intro n d;unfold TWk at d;split at d
  .exact bU.wk g d n
  .obtain⟨r,o,p⟩:=n;exact⟨r,o,aiq.wk g d p⟩
  .rename_i i c j u;obtain⟨q,m,k⟩:=d;subst q;obtain⟨b,ls⟩:=c;obtain⟨B,z⟩:=u;simp only at m k;subst m;cases b with
   |true=>obtain⟨r,o,p⟩:=n;exact⟨r,o,aiq.wk g k p⟩
   |false=>
    intro C y;subst y;match ls,k with
    |[l],k=>exact bU.wk g k.1 (n l rfl)
  .trivial
  .cases d
 c7 id cells f:=by
  rcases g.o id with e|⟨e,m⟩|⟨v,x,q,m,k⟩
  .rw[e]at f;cases f
  .rw[e]at f;exact absurd f (m cells)
  .rw[m]at f;injection f with f
   subst f;obtain⟨b,arr,T,o,p,A⟩:=h.c7 id v q;exact⟨b,arr,T,o,p,aiq.wk g k A⟩
def abz:∀ {p:iU} {a:List Nat} (r:List (KV real)),aeU (A:=real) p a=true->pathOf (A:=real) a (ixs (A:=real) p++r)=p
 |[],[],_,_=>by unfold pathOf;rfl
 |q::p,j::a,r,h=>by simp only[aeU,aQ]at h;have e:=bn h.1;show(ake (A:=real) ⟨.val (.int .i64),q.1⟩,j)::pathOf (A:=real) a (ixs (A:=real) p++r)=q::p;rw[abz r h.2,<-e];rfl
 |[],_::_,_,h=>nomatch h
 |_::_,[],_,h=>nomatch h
def ac2:∀ {p:iU} {a:List Nat},aeU (A:=real) p a=true->(ixs (A:=real) p).length=a.length
 |[],[],_=>rfl
 |_::_,_::_,h=>by simp only[aeU,aQ]at h;show(ixs (A:=real) _).length+1=_+1;rw[ac2 h.2]
 |[],_::_,h=>nomatch h
 |_::_,[],h=>nomatch h
def aaO{id g h:Nat}{p:iU}(a:held s id g h p=true):(s.ob id).g=g/\(p=[]\/(s.ob id).h=h):=by simp only[held,aQ,gd]at a;exact⟨bn a.1,a.2.imp (λe=>xN.1 e) λe=>bn e⟩
def JV{α:Type}{b:Bool}{x:α}{y:α}(h:(bif b then some x else none)=some y):b=true/\x=y:=by
 cases b with
 |true=>exact⟨rfl,aG h⟩
 |false=>cases h
def SL.ZG{k:SL}{l:L}{f:List (KV real)}(h:k.un s l=some f)(r:List (KV real)):LWk s l (k.fi (f++r))/\f.length=k.ks.length:=by
 unfold SL.un at h;split at h
 .obtain rfl:=aG h;exact⟨.dead _,rfl⟩
 .obtain rfl:=aG h;exact⟨.undef,rfl⟩
 .obtain⟨_,rfl⟩:=JV h;exact⟨.val _ _,rfl⟩
 .obtain⟨e,rfl⟩:=JV h;have e:=Ty.eq_of_beq e;injection e with a b
  subst a b;exact⟨.eI _ _,rfl⟩
 .obtain⟨e,rfl⟩:=JV h;simp only[aQ]at e;obtain⟨a,b,c⟩:=e;have a:=bn a;subst a;refine⟨?_,by rw[ac2 c];simp[SL.ks]⟩;simp only[SL.fi];rw[abz r c];exact .ref _ _ _ _ (aaO b).1 (aaO b).2
 .obtain⟨e,rfl⟩:=JV h;simp only[aQ]at e;obtain⟨a,b,c⟩:=e;have a:=bn a;have c:=bn c;subst a c;exact⟨.ptr _ _ _ (bn b),rfl⟩
 .obtain⟨e,rfl⟩:=JV h;simp only[aQ]at e;obtain⟨a,b,c,d⟩:=e;have a:=bn a;have d:=bn d;subst a d;refine⟨?_,by simp only[cK];rw[ac2 c];simp[SL.ks]⟩;rw[kR];simp only[SL.fi];rw[abz r c];exact .bH _ _ _ _ _ _ (aaO b).1 (aaO b).2
 .obtain⟨e,rfl⟩:=JV h;simp only[aQ]at e;obtain⟨a,b⟩:=e;have a:=bn a;subst a;exact⟨.cD _ _ (bn b),rfl⟩
 .cases h
def abL:∀ {ks:List SL} {ls:List L} {a:List (KV real)},uns s ks ls=some a->∀r,aH (LWk s) ls (fis ks (a++r))/\a.length=(ks.map SL.ks).flatten.length
 |[],[],a,h,r=>by obtain rfl:=aG h;exact⟨trivial,rfl⟩
 |k::ks,l::ls,a,h,r=>by
  simp only[uns]at h;split at h
  .rename_i x y c d;obtain rfl:=aG h;obtain⟨e,b⟩:=SL.ZG c (y++r);obtain⟨f,g⟩:=abL d r;refine⟨?_,by simp[b,g]⟩;rw[iD];refine⟨e,?_⟩;rw[<-b,vi];exact f
  .cases h
 |[],_::_,_,h,_=>nomatch h
 |_::_,[],_,h,_=>nomatch h
def ST.ZG{k:ST}{t:bK}{f:List (KV real)}(h:k.un s t=some f)(r:List (KV real)):TWk s t (k.fi (f++r))/\f.length=k.ks.length:=by
 unfold ST.un at h;split at h
 .obtain⟨d,e⟩:=abL h r;exact⟨d.1,e⟩
 .exact abL h r
 .rename_i i b ks j c;cases a:(Nat.beq j i&&(c.1==b))with
  |false=>rw[a]at h;cases h
  |true=>rw[a]at h;simp only[aQ,beq_iff_eq]at a;obtain⟨d,e⟩:=abL h r;exact⟨⟨bn a.1,a.2,d⟩,e⟩
 .cases h
def SO.ZG{k:SO}{o:Ob real}{a:List (KV real)}(h:k.un s o=some a)(r:List (KV real)):OWk s o (k.fi (a++r))/\a.length=k.ks.length:=by
 unfold SO.un at h;split at h
 .obtain⟨b,c⟩:=abL h r;exact⟨.inr (.inr ⟨_,_,rfl,rfl,b⟩),c⟩
 .obtain⟨_,rfl⟩:=JV h;exact⟨.inr (.inl ⟨rfl,λ_ e=>by cases e⟩),rfl⟩
 .obtain⟨_,rfl⟩:=JV h;exact⟨.inr (.inl ⟨rfl,λ_ e=>by cases e⟩),rfl⟩
 .obtain⟨_,rfl⟩:=JV h;exact⟨.inr (.inl ⟨rfl,λ_ e=>by cases e⟩),rfl⟩
 .cases h
def afW:∀ {l:List (Nat×ST)} {a:List (KV real)},ajd s l=some a->∀r,(∀i,TWk s (s.sl i) (ahy l (a++r) i))/\a.length=(l.map λp=>p.2.ks).flatten.length
 |[],a,h,r=>by
  obtain rfl:=aG h;refine⟨λi=>?_,rfl⟩;show TWk s (s.sl i) (.one .dead);cases s.sl i with
  |one l=>exact .dead l
  |_=>trivial
 |p::l,a,h,r=>by
  simp only[ajd]at h;split at h
  .rename_i x y c d;obtain rfl:=aG h;obtain⟨f,b⟩:=ST.ZG c (y++r);obtain⟨g,j⟩:=afW d r;refine⟨λi=>?_,by simp[b,j]⟩;rw[iD];show TWk s (s.sl i) (bif Nat.beq p.1 i then p.2.fi (x++(y++r))else ahy l ((x++(y++r)).drop p.2.ks.length) i);cases e:Nat.beq p.1 i with
   |true=>rw[<-bn e];exact f
   |false=>rw[<-b,vi];exact g i
  .cases h
def afV:∀ {l:List (Nat×SO)} {a:List (KV real)},ajc s l=some a->∀r i,OWk s (s.ob i).o (ahx l (a++r) i)
 |[],a,h,r,i=>.inl rfl
 |p::l,a,h,r,i=>by
  simp only[ajc]at h;split at h
  .rename_i x y b c;obtain rfl:=aG h;obtain⟨e,f⟩:=SO.ZG b (y++r);rw[iD];show OWk s (s.ob i).o (bif Nat.beq p.1 i then p.2.fi (x++(y++r))else ahx l ((x++(y++r)).drop p.2.ks.length) i);cases d:Nat.beq p.1 i with
   |true=>rw[<-bn d];exact e
   |false=>rw[<-f,vi];exact afV c r i
  .cases h
def Sk.ZG{k:Sk}{x:fE real k.ks}(h:k.un s=some x):SWk s (k.fi x):=by
 unfold Sk.un at h;split at h
 .rename_i u v a b;have e:=gJ _ _ _ h;obtain⟨c,d⟩:=afW a v;refine⟨λ_=>rfl,λ_=>rfl,λid=>?_,λi=>?_⟩
  .show OWk s (s.ob id).o (ahx k.ob ((bJ _ x).drop (k.sl.map λp=>p.2.ks).flatten.length) id);rw[e,<-d,vi];have:=afV b [] id;rwa[fa]at this
  .show TWk s (s.sl i) (ahy k.sl (bJ _ x) i);rw[e];exact c i
 .cases h
end
structure IpR where
 sk:Sk
 ex:W2
 fn:fE real sk.ks->Option (Y5 real ex)
def IpR.t(l:IpR):(R:Type)->S->(Ex->S->Option R)->Option R:=λR s k=>(l.sk.un s).bind λx=>(l.fn x).bind λq=>Y5.elim l.ex q k
section
variable {P:Program}{E:Env}{Ψ:bA->Option hJ}{Λ:Nat->Option dR}
variable (E Ψ Λ) in
def aas(n:Nat)(c:Code)(a:Sk)(d:W2)(x:fE real a.ks):Option (fE real a.ks⊕Y5 real d):=
 exec E (av _) (tab Ψ _) (Am Λ FN FR _) n c (a.fi x) λb s=>match b with
  |.normal=>(a.un s).map .inl
  |b=>(ZA d b s).map .inr
def abA:∀ {a:W2} {b:Ex} {s:S} {q:Y5 real a},ZA a b s=some q->∃s':S,(∀ {M:Type} (k:Ex->S->M),Y5.elim a q k=k b s')/\SWk s s'
 |[],_,_,_,h=>by cases h
 |e::a,b,s,q,h=>by
  simp only[ZA]at h;cases c:Ex.beq e.1 b with
  |true=>
   rw[c]at h;simp only[az]at h;cases f:e.2.un s with
   |none=>rw[f]at h;cases h
   |some y=>rw[f]at h;have h:=aG h;subst h;have j:=Ex.eq_of_beq c;subst j;exact⟨e.2.fi y,λk=>rfl,Sk.ZG f⟩
  |false=>
   rw[c]at h;simp only[aW]at h;cases d:ZA a b s with
   |none=>rw[d]at h;cases h
   |some l=>rw[d]at h;have h:=aG h;subst h;obtain⟨s',g,i⟩:=abA d;exact⟨s',λk=>g k,i⟩
def ao6(hE:bD P E)(hC:eA P E Ψ){n:Nat}{c:Code}{u:Sk}{o:W2}(hL:e8 P E Λ (bY n c))(p:Nat):FW P E c (IpR.t ⟨u,o,iter (aas E Ψ Λ n c u o) p⟩):=by
 intro H R U ω a w s k r hn hU h t;have t:((u.un s).bind λx=>(iter (aas E Ψ Λ n c u o) p x).bind λq=>Y5.elim o q k)=some r:=t;cases Z:u.un s with
 |none=>rw[Z]at t;cases t
 |some x=>
 rw[Z]at t;have t:((iter (aas E Ψ Λ n c u o) p x).bind λq=>Y5.elim o q k)=some r:=t;cases W:iter (aas E Ψ Λ n c u o) p x with
 |none=>rw[W]at t;cases t
 |some q=>
 rw[W]at t;have t:Y5.elim o q k=some r:=t;let b (m:Nat) (d:Act) (f:World):Prop:=∃x' L,Rel H L d f (u.fi x')/\cH ω w L f/\d.tmps.size=a.tmps.size/\(∀j,U j->d.tmps.getD j undef=a.tmps.getD j undef)/\iter (aas E Ψ Λ n c u o) m x'=some q;have g:∀d f,(∃m,b m d f)->∃m,b m d f/\∀k,b k d f->m<=k:=λd f ⟨m,O⟩=>B7 m O;have z:∃I:Act->World->Nat,∀d f,(∃m,b m d f)->b (I d f) d f/\∀k,b k d f->I d f<=k:=by
  classical
  exact⟨λd f=>if h:∃m,b m d f then Classical.choose (g d f h)else 0,λd f h=>by show b (if h:∃m,b m d f then Classical.choose (g d f h)else 0) d f/\∀k,b k d f->(if h:∃m,b m d f then Classical.choose (g d f h)else 0)<=k;rw[vk h];exact Classical.choose_spec (g d f h)⟩
 obtain⟨I,z⟩:=z;refine CQ (λd f=>∃m,b m d f) I ⟨_,x,ω,h.wk (Sk.ZG Z),cH.refl _ _,rfl,λ_ _=>rfl,W⟩ (λS w1 hI=>?_);obtain⟨x1,eD,h1,e1,F,J,l⟩:=(z S w1 hI).1;cases O:I S w1 with
 |zero=>rw[O]at l;cases l
 |succ m=>
  rw[O]at l;simp only[iter]at l;cases T:aas E Ψ Λ n c u o x1 with
  |none=>rw[T]at l;cases l
  |some A=>
   rw[T]at l;have Y:=iJ hE hC rX (U:=U) c n eD S w1 _ _ (λj C=>hU j C) hL (F.trans hn) h1 T;refine wp_mono Y λe N Q B=>?_;obtain⟨ex,M,G,K,t2,t3,t4,t5,t6⟩:=B;have out:∀v,(ZA o v G).map Sum.inr=some A->FV e v->Post H U ω a w k r e N Q:=by
    intro v B V;cases D:ZA o v G with
    |none=>rw[D]at B;cases B
    |some q'=>rw[D]at B;have B:=aG B;subst B;have Iy:q'=q:=aG l;subst Iy;obtain⟨s3,z1,z2⟩:=abA D;rw[z1]at t;exact⟨v,M,s3,V,t2.wk z2,e1.trans t3,t,t5.trans F,λj C=>(t6 j C).trans (J j C)⟩
   cases ex with
   |normal=>
    cases e with
    |normal=>
     have i:(u.un G).map Sum.inl=some A:=t4;cases X:u.un G with
     |none=>rw[X]at i;cases i
     |some x2=>
      rw[X]at i;have i:=aG i;subst i;have y:b m N Q:=⟨x2,M,t2.wk (Sk.ZG X),e1.trans t3,t5.trans F,λj C=>(t6 j C).trans (J j C),l⟩
      refine⟨⟨m,y⟩,?_⟩;have Ix:I N Q<=m:=(z N Q ⟨m,y⟩).2 m y;omega
    |_=>cases K
   |exit j=>
    cases e with
    |exit j'=>have i:(ZA o (.exit j) G).map Sum.inr=some A:=t4;exact out (.exit j) i K
    |_=>cases K
   |ret=>
    cases e with
    |ret=>have i:(ZA o .ret G).map Sum.inr=some A:=t4;exact out .ret i K
    |_=>cases K
end
def IpR.lp(l:IpR):dR:=⟨[],[],[],λ_ _=>none,some l.t⟩
def ilk {P:Program} {E:Env} (f:bD P E) {T:List (bA×hJ)} (g:vf P T) {n:Nat} {c:Code} {a:Sk} {b:W2} (m:List (Nat×dR)) (j:ES P E n c m 0) (i:oz (bY n c) m=true)
  {B:fE real a.ks->Option (fE real a.ks⊕Y5 real b)} (e:∀x,aas E (vl T) (qc m) n c a b x=B x):nB P E c (IpR.lp ⟨a,b,λx=>iter B big x⟩):=
 ⟨λt d=>by have d:=aG d;subst d;have:aas E (vl T) (qc m) n c a b=B:=funext e;rw[<-this];exact ao6 f (uc (rD g)) (zC i j) big,λ_ _ _ _ _ _ _ _ _ _ _ _ h=>nomatch h⟩
end Go.R
namespace Go.Fn
open Go.R
def zB:Bool:=false
def SP:Ln:=([]:Ln)
def zM:YaS:=([]:YaS)
def ZH:YbY:=([]:YbY)
def O5(a b c d:Int)(e:ByteArray)(f g h i j k:Int)(l:Bool)(m:Int):PN:=letI n:=aa .sub .i64 m (ByteArray.size e:Int);cond (ak .lss n 0) (some (-1,())) (some (n,()))
def TH(a b c d:Int)(e:ByteArray)(f g h i j k:Int)(l:Bool):Option (Int×Int×Int×Int×ByteArray×Int×YdD):=(Ss f g h i j k l).bind λm=>letI n:=m.2.2.2;some (a,b,c,d,e,m.1,m.2.1,m.2.2.1,n.1,n.2.1,n.2.2.1,n.2.2.2.1,())
def NM(a:YaK)(b:YbH):YbQ:=letI c:=b.2.2;letI d:=c.2.2;letI e:=d.2.2;letI f:=e.2.2;letI g:=f.2.2;letI h:=g.2.2;letI i:=a.2.2.2.2.2.2.2.2.2.2.2.1;letI j:=h.2.2;letI k:=j.2.2;letI l:=k.2.2;letI m:=l.2.2;letI n:=m.2.2;letI o:=n.2.2;letI p:=o.2.2;letI q:=p.2.2;letI r:=q.2.2.1;letI s:=ae ax i r;cond (ak .lss r (bw i)) (cond (aZ i r) ((SM s.1 s.2.1).bind λt=>(Ks s.2.2.1).bind λu=>letI v:=s.2.2.2;letI w:=v.2.2.2;letI x:=w.2.2.2;cond (dF (List.append (α:=Ka) ([]:JH) x.2)) (cond (dF (List.append (α:=YaA) p.1 (List.append (α:=YaA) ([]:Lj) [(t.1,t.2.1,u.1,v.1,v.2.1,v.2.2.1,w.1,w.2.1,w.2.2.1,x.1,List.append (α:=Ka) ([]:JH) x.2)]))) (lets (List.append (α:=YaA) p.1 (List.append (α:=YaA) ([]:Lj) [(t.1,t.2.1,u.1,v.1,v.2.1,v.2.2.1,w.1,w.2.1,w.2.2.1,x.1,List.append (α:=Ka) ([]:JH) x.2)])) λy=>some (.inl (b.1,b.2.1,c.1,c.2.1,d.1,d.2.1,e.1,e.2.1,f.1,f.2.1,g.1,g.2.1,h.1,h.2.1,j.1,j.2.1,k.1,k.2.1,l.1,l.2.1,m.1,m.2.1,n.1,n.2.1,o.1,o.2.1,y,p.2.1,q.1,q.2.1,aa .add .i64 r 1,()))) none) none) none) (some (.inr (.inl (b.1,b.2.1,c.1,c.2.1,d.1,d.2.1,e.1,e.2.1,f.1,f.2.1,g.1,g.2.1,h.1,h.2.1,j.1,j.2.1,k.1,k.2.1,l.1,l.2.1,m.1,m.2.1,n.1,n.2.1,o.1,o.2.1,p.1,p.2.1,q.1,q.2.1,()))))
def RR k x:=iter (NM k) big x
def SJ(a b c d e f g h i j k:Int)(l:Lj)(m:KT)(n:JX)(o:JH):YdV:=cond (dF (List.append (α:=YaV) ([]:KT) m)) (cond (dF (List.append (α:=YbF) ([]:JX) n)) (cond (dF (List.append (α:=Ka) ([]:JH) o)) (lets (List.append (α:=YaV) ([]:KT) m) λp=>letI q:=(0:Int);(RR (a,b,c,d,e,f,g,h,i,j,k,l,m,n,o,()) (q,q,q,q,q,q,q,q,q,q,q,([]:Lj),([]:KT),([]:JX),([]:JH),a,b,c,d,e,f,g,h,i,j,k,([]:Lj),p,List.append (α:=YbF) ([]:JX) n,List.append (α:=Ka) ([]:JH) o,q,())).bind λr=>Sum.elim (λs=>letI t:=s.2.2.2.2.2.2.2.2.2.2.2.2.2.2.2;letI u:=t.2.2.2.2;letI v:=u.2.2.2;letI w:=v.2.2.2.2;some (t.1,t.2.1,t.2.2.1,t.2.2.2.1,u.1,u.2.1,u.2.2.1,v.1,v.2.1,v.2.2.1,v.2.2.2.1,w.1,w.2.1,w.2.2.1,w.2.2.2.1,())) (λs=>Empty.elim s) r) none) none) none
def Jw(a b c d e f g h i j k:Int)(l:Lj)(m:KT)(n:JX)(o:JH)(p q r s:Int)(t:ByteArray)(u v w x y z:Int)(A:Bool):YbO:=letI B:=(0:Int);(dr s B (aa .sub .i64 (bw l) 1)).bind λC=>cond (Bool.not C.1) (some (a,b,c,d,e,f,g,h,i,j,k,l,m,n,o,2,())) ((Jf q).bind λD=>letI E:=some (a,b,c,d,e,f,g,h,i,j,k,l,m,n,o,(1:Int),());cond (Bool.not D.1) E ((dr r 1 24).bind λF=>letI G:=(r,q,s,B,B,B,B,B,B,B,B,B,B);cond (Bool.not F.1) E (cond (ak .eql (bw m) 12) (some (a,b,c,d,e,f,g,h,i,j,k,l,m,n,o,10,())) (cond (dF (List.append (α:=YaV) m (List.append (α:=YaV) ([]:KT) [G]))) (lets (List.append (α:=YaV) ([]:KT) [G]) λ_=>lets (List.append (α:=YaV) m (List.append (α:=YaV) ([]:KT) [G])) λH=>some (a,b,c,d,e,f,g,h,i,j,k,l,H,n,o,B,())) none))))
def Ua(a b c d e f g h i j k:Int)(l:Lj)(m:KT)(n:JX)(o:JH)(p q r s:Int)(t:ByteArray)(u v w x y z:Int)(A:Bool):YbO:=letI B:=aa .sub .i64 q 1;letI C:=ae aS m B;letI D:=C.2.2.2;cond (aZ m B) (cond (ak .neq D.1 0) (some (a,b,c,d,e,f,g,h,i,j,k,l,m,n,o,3,())) ((PK a b c d e f g h i j k l m n o).bind λE=>letI F:=D.2.2.2;letI G:=F.2.2.2;cond (ak .gtr (aa .add .i64 E.1 C.1) i) (some (a,b,c,d,e,f,g,h,i,j,k,l,m,n,o,8,())) (cond (aZ m B) (lets (cS m B (C.1,C.2.1,C.2.2.1,1,D.2.1,D.2.2.1,F.1,F.2.1,F.2.2.1,G.1,G.2.1,G.2.2.1,G.2.2.2)) λH=>some (a,b,c,d,e,f,g,h,i,j,k,l,H,n,o,0,())) none))) none
def MO(a:YcA)(b:YbG×YcX):Option (YbG×YcX⊕YdI):=letI c:=b.2.1;letI d:=b.2.2.1;letI e:=(ae Ud c d).2;letI f:=(a.2.1,e.1,e.2);cond (ak .lss d (bw c)) (cond (aZ c d) (cond (aZ c d) (cond (dF (List.append (α:=YaM) b.1 (List.append (α:=YaM) ([]:YbG) [f]))) (some (.inl (List.append (α:=YaM) b.1 (List.append (α:=YaM) ([]:YbG) [f]),c,aa .add .i64 d 1,()))) none) none) none) (some (.inr (.inl (b.1,()))))
def MQ k x:=iter (MO k) big x
def MN(a:YbT)(b:YcX):YcD:=letI c:=b.2.1;letI d:=ae br a.1 c;cond (ak .lss c (bw a.1)) (cond (aZ a.1 c) ((Vd d.1 d.2.1 d.2.2).bind λe=>(MQ (a.1,c,()) (b.1,e.1,0,())).bind λf=>Sum.elim (λg=>some (.inl (g.1,aa .add .i64 c 1,()))) (λg=>Empty.elim g) f) none) (some (.inr (.inl (b.1,()))))
def MP k x:=iter (MN k) big x
def QR(a:Rp):YcQ:=(Mf a).bind λb=>cond (Bool.not b.1) (some (([]:YbG),())) ((MP (a,()) (([]:YbG),0,())).bind λc=>Sum.elim (λd=>some (d.1,())) (λd=>Empty.elim d) c)
def Sx(a:Rp)(b:Int):YdU:=(QR a).bind λc=>(QX c.1 b).bind λd=>letI e:=ae Ud c.1 d.1;letI f:=some ((0:Int),(0:Int),(0:Int),false,());cond (ak .lss b 1) f (cond (ak .lss d.1 0) f (cond (aZ c.1 d.1) (some (e.1,e.2.1,e.2.2,true,())) none))
def Pm(a:Rp)(b c:Int):Option (Rp×YbL):=(Ks a).bind λd=>(Sx a c).bind λe=>(NW a b).bind λf=>letI g:=some (d.1,(0:Int),(0:Int),(0:Int),false,());cond (Bool.not e.2.2.2.1) g ((dr b 1 999).bind λh=>letI i:=ae br a e.1;cond (Bool.not h.1) g (cond (ak .geq f.1 0) g (cond (aZ a e.1) ((SH i.1 i.2.1 i.2.2 e.1 e.2.1 e.2.2.1 b c).bind λj=>cond (aZ d.1 e.1) (some (cS d.1 e.1 (j.1,j.2.1,j.2.2.1),e.1,e.2.1,c,true,())) none) none)))
def Pn(a b:Int)(c d e:Bool)(f:Int):YbB:=(Jr a b c d e).bind λg=>letI h:=some (a,b,c,d,e,false,());letI i:=cond (Bool.not (pI e (ak .eql f 2))) h (some (f,(1:Int),c,d,e,true,()));cond (Bool.not g.1) h (cond (ak .neq a 0) h (cond (ak .neq f 1) (cond (ak .neq f 2) h i) i))
def tW(a b c d e f g h i j k:Int)(l:Lj)(m:KT)(n:JX)(o:JH)(p q r:Int):YdV:=letI s:=aa .sub .i64 p 1;letI t:=ae aS m s;letI u:=t.2.2;letI v:=u.1;letI w:=u.2.2.2.2.2;cond (aZ m s) (cond (aZ m s) (lets (cS m s (t.1,t.2.1,v,2,u.2.2.1,u.2.2.2.1,u.2.2.2.2.1,w.1,w.2.1,w.2.2.1,w.2.2.2.1,w.2.2.2.2.1,w.2.2.2.2.2)) λx=>letI y:=ae ax l v;letI z:=y.2.2;letI A:=z.2.2.2.2;cond (aZ l v) (lets (cS l v (y.1,y.2.1,z.1,z.2.1,z.2.2.1,z.2.2.2.1,A.1,A.2.1,p,A.2.2.2.1,A.2.2.2.2)) λB=>letI C:=ae ax B v;letI D:=C.2.2;letI E:=D.2.2.2.2;cond (aZ B v) (lets (cS B v (C.1,C.2.1,D.1,D.2.1,D.2.2.1,D.2.2.2.1,E.1,E.2.1,E.2.2.1,q,E.2.2.2.2)) λF=>(Pn 0 0 false false (ak .eql r 2) r).bind λG=>letI H:=ae ax F v;letI I:=H.2.2.2.2.2.2.2.2;cond (aZ F v) (lets (cS F v (H.1,H.2.1,H.2.2.1,G.1,G.2.1,G.2.2.1,G.2.2.2.1,G.2.2.2.2.1,I.1,I.2.1,I.2.2)) λJ=>some (a,b,c,d,e,f,g,h,i,j,k,J,x,n,o,())) none) none) none) none) none
def KZ(a b c d e f g h i j k:Int)(l:Lj)(m:KT)(n:JX)(o:JH)(p q r s:Int)(t:ByteArray)(u v w x y z:Int)(A:Bool):YbO:=letI B:=aa .sub .i64 q 1;letI C:=ae aS m B;letI D:=C.2.2.1;letI E:=ae ax l D;letI F:=E.2.2.2;letI G:=F.2.2.2;cond (aZ m B) (cond (aZ l D) (cond (ak .neq C.2.2.2.1 1) (some (a,b,c,d,e,f,g,h,i,j,k,l,m,n,o,3,())) (cond (ak .neq G.2.2.1 0) (some (a,b,c,d,e,f,g,h,i,j,k,l,m,n,o,4,())) ((N8 E.1 E.2.1 k).bind λH=>cond (Bool.not H.1) (some (a,b,c,d,e,f,g,h,i,j,k,l,m,n,o,5,())) ((Pm E.2.2.1 q C.1).bind λI=>cond (Bool.not I.2.2.2.2.1) (some (a,b,c,d,e,f,g,h,i,j,k,l,m,n,o,8,())) (cond (aZ l D) (lets (cS l D (E.1,E.2.1,I.1,F.1,F.2.1,F.2.2.1,G.1,G.2.1,G.2.2.1,G.2.2.2.1,G.2.2.2.2)) λJ=>(tW a b c d e f g h i j k J m n o q 0 1).bind λK=>letI L:=K.2.2.2.2;letI M:=L.2.2.2;letI N:=M.2.2.2.2;some (K.1,K.2.1,K.2.2.1,K.2.2.2.1,L.1,L.2.1,L.2.2.1,M.1,M.2.1,M.2.2.1,M.2.2.2.1,N.1,N.2.1,N.2.2.1,N.2.2.2.1,0,())) none))))) none) none
def SI(a:JX)(b c d e:Int):Kg:=(Nz a).bind λf=>letI g:=some (false,());cond f.1 ((Jf b).bind λh=>cond h.1 ((Jf c).bind λi=>cond i.1 ((dr d 1 999).bind λj=>cond j.1 ((M1 e).bind λk=>some (k.1,())) g) g) g) g
def Pk(a b c d e f:Int)(g:Bool)(h i:Int):Kg:=(Lv a b c d e f g).bind λj=>letI k:=some (false,());letI l:=cond (ak .leq e i) (some (ak .lss i f,())) k;cond j.1 (cond (Bool.not g) (cond (ak .eql c 0) l (cond (ak .eql c h) l k)) k) k
def MY(a:JX×Int×YcO)(b:YbD×YbY×Mk):Option (YbD×YbY×Mk⊕YbD×YbY×Unit⊕Empty):=letI c:=b.2.2.1;letI d:=ae kC a.1 c;letI e:=d.2.2.2;cond (ak .lss c (bw a.1)) (cond (aZ a.1 c) ((Pk d.1 d.2.1 d.2.2.1 e.1 e.2.1 e.2.2.1 e.2.2.2 a.2.1 a.2.2.1).bind λf=>letI g:=aa .add .i64 c 1;letI h:=aa .sub .i64 a.2.2.2.2.1 1;letI i:=(b.1,b.2.1,g,());cond f.1 (cond (ak .geq e.1 (aa .add .i64 h a.2.2.2.1)) (cond (aZ b.1 h) (cond (aZ (ae ZH b.1 h) d.2.1) (cond (ae zB (ae ZH b.1 h) d.2.1) (cond (aZ b.2.1 d.1) (some (.inl (b.1,cS b.2.1 d.1 true,g,()))) none) (some (.inl i))) none) none) (some (.inl i))) (some (.inl i))) none) (some (.inr (.inl (b.1,b.2.1,()))))
def Qs k x:=iter (MY k) big x
def Qr(a:JX×YcO)(b:YbD×Mk):Option (YbD×Mk⊕YbD×Unit⊕Empty):=cond (ak .leq b.2.1 6) (cond (lu 41) ((Qs (a.1,a.2.1,a.2.2.1,a.2.2.2.1,b.2.1,()) (b.1,nw (41:Int) false,0,())).bind λc=>Sum.elim (λd=>cond (dF (List.append (α:=YbY) d.1 (List.append (α:=YbY) ([]:YbD) [d.2.1]))) (some (.inl (List.append (α:=YbY) d.1 (List.append (α:=YbY) ([]:YbD) [d.2.1]),aa .add .i64 b.2.1 1,()))) none) (λd=>Empty.elim d) c) none) (some (.inr (.inl (b.1,()))))
def MZ k x:=iter (Qr k) big x
def Q0(a:JX)(b c d e:Int):Option (YbD×Unit):=letI f:=ae ZH (List.append (α:=YbY) ([]:YbD) [nw (41:Int) false]) 0;cond (lu 41) (cond (aZ (List.append (α:=YbY) ([]:YbD) [nw (41:Int) false]) 0) (cond (aZ f b) (lets (cS (List.append (α:=YbY) ([]:YbD) [nw (41:Int) false]) 0 (cS f b true)) λg=>(MZ (a,c,d,e,()) (g,1,())).bind λh=>Sum.elim (λi=>some (i.1,())) (λi=>Empty.elim i) h) none) none) none
def VU(a:YbD×Mk)(b:Mk):YaY:=letI c:=ae ZH a.1 b.1;cond (ak .lss b.1 (bw a.1)) (cond (aZ a.1 b.1) (cond (aZ c a.2.1) (cond (ae zB c a.2.1) (some (.inr (.inl (b.1,())))) (some (.inl (aa .add .i64 b.1 1,())))) none) none) (some (.inr (.inr (.inl ()))))
def M0 k x:=iter (VU k) big x
def Q1(a:YbD)(b:Int):PN:=(M0 (a,b,()) (0,())).bind λc=>Sum.elim (λd=>some (d.1,())) (λd=>Sum.elim (λ_=>some (-1,())) (λe=>Empty.elim e) d) c
def WO(a:JX×YcO)(b:YbD×YcI):Option (YbD×YcI⊕YbD×YcJ⊕Empty):=letI c:=b.2;letI d:=c.2.2.1;letI e:=ae kC a.1 d;letI f:=e.2.2.2;letI g:=(b.1,c.1,c.2.1,aa .add .i64 d 1,());cond (ak .lss d (bw a.1)) (cond (aZ a.1 d) (cond (ak .eql e.1 c.2.1) ((Pk e.1 e.2.1 e.2.2.1 f.1 f.2.1 f.2.2.1 f.2.2.2 a.2.1 a.2.2.1).bind λh=>letI i:=aa .sub .i64 a.2.2.2.1 1;cond h.1 (cond (ak .geq f.1 i) (cond (aZ b.1 i) (cond (aZ (ae ZH b.1 i) e.2.1) (cond (ae zB (ae ZH b.1 i) e.2.1) (cond (dF (List.append (α:=Int) c.1 (List.append (α:=Int) ([]:Li) [d]))) (some (.inr (.inl (b.1,List.append (α:=Int) c.1 (List.append (α:=Int) ([]:Li) [d]),e.2.1,())))) none) (some (.inl g))) none) none) (some (.inl g))) (some (.inl g))) (some (.inl g))) none) (some (.inr (.inl (b.1,c.1,c.2.1,()))))
def NI k x:=iter (WO k) big x
def WN(a:JX×NP)(b:YbD×YcI):Option (YbD×YcI⊕YcM⊕Empty):=letI c:=b.2.2.2.1;cond (ak .gtr c 0) ((NI (a.1,a.2.1,a.2.2.1,c,()) (b.1,b.2.1,b.2.2.1,0,())).bind λd=>Sum.elim (λe=>some (.inl (e.1,e.2.1,e.2.2.1,aa .sub .i64 c 1,()))) (λe=>Empty.elim e) d) (some (.inr (.inl (b.2.1,()))))
def NH k x:=iter (WN k) big x
def We(a:JX)(b c d e:Int):YdJ:=(SI a b c d e).bind λf=>letI g:=some (([]:Li),false,());cond (Bool.not f.1) g ((Q0 a c d e 0).bind λh=>(Q1 h.1 b).bind λi=>cond (ak .lss i.1 0) g ((NH (a,d,e,()) (h.1,([]:Li),b,i.1,())).bind λj=>Sum.elim (λk=>some (k.1,true,())) (λk=>Empty.elim k) j))
def Pu(a:JX)(b c d e:Int):Kg:=(We a b c d e).bind λf=>some (f.2.1,())
def L2(a:NP)(b:YcL):Option (YcL⊕YaU⊕YcF):=letI c:=b.2.2;letI d:=c.2.2.2;letI e:=aZ c.1 a.1;letI f:=d.2.2.2;letI g:=(ae br c.1 a.1).2.2;letI h:=f.2.2.2.1;cond e (cond (ak .lss h (bw g)) (cond e (cond (aZ g h) (cond (ak .eql (ae gI g h).1 a.2.1) (cond e (cond (aZ g h) (some (.inr (.inl ((ae gI g h).2.2.2,())))) none) none) (some (.inl (b.1,b.2.1,c.1,c.2.1,c.2.2.1,d.1,d.2.1,d.2.2.1,f.1,f.2.1,f.2.2.1,aa .add .i64 h 1,())))) none) none) (some (.inr (.inr (.inl ()))))) none
def PJ k x:=iter (L2 k) big x
def Mj(a b c d e f g h i j k:Int)(l:Lj)(m:KT)(n:JX)(o:JH)(p:Int):Kg:=letI q:=aa .sub .i64 p 1;letI r:=(ae aS m q).2.2.1;letI s:=ae ax l r;letI t:=s.2.2;cond (aZ m q) (cond (aZ l r) ((NW t.1 p).bind λu=>letI v:=t.2.2.2;(PJ (u.1,u.2.1,()) (s.1,s.2.1,t.1,t.2.1,t.2.2.1,v.1,v.2.1,v.2.2.1,v.2.2.2.1,v.2.2.2.2.1,v.2.2.2.2.2,0,())).bind λw=>Sum.elim (λx=>some (x.1,())) (λx=>Sum.elim (λ_=>some (false,())) (λy=>Empty.elim y) x) w) none) none
def TS(a:Unit)(b:NP):YbE:=cond (ak .lss b.2.1 3) (cond (eE 2147483647) none (some (.inl (aa .rem .i64 (aa .mul .i64 b.1 48271) 2147483647,aa .add .i64 b.2.1 1,())))) (some (.inr (.inl (b.1,()))))
def Pp k x:=iter (TS k) big x
def XH(a:Unit)(b:YbK):YdS:=cond (ak .lss (ByteArray.size b.1:Int) 6) (cond (lz (ByteArray.mk #[48]) b.1) (some (.inl (ByteArray.append (ByteArray.mk #[48]) b.1,()))) none) (some (.inr (.inl (b.1,()))))
def TT k x:=iter (XH k) big x
def Ro(a b:Int):YdH:=(Js a).bind λc=>letI d:=(1000000:Int);cond (Bool.not c.1) (some (ByteArray.mk #[],())) ((dr b 0 d).bind λe=>cond (Bool.not e.1) (some (ByteArray.mk #[],())) (cond (eE 2147483647) none ((Pp () (aa .rem .i64 (aa .add .i64 a (aa .mul .i64 65537 b)) 2147483647,0,())).bind λf=>Sum.elim (λg=>cond (eE d) none ((Ky (aa .rem .i64 g.1 d)).bind λh=>(TT () (h.1,())).bind λi=>Sum.elim (λj=>some (j.1,())) (λj=>Empty.elim j) i)) (λg=>Empty.elim g) f)))
def NJ(a:ByteArray×YbN)(b:Mk):YaY:=letI c:=a.2.2;(KQ a.2.1 c.1 c.2.1 c.2.2.1 c.2.2.2.1).bind λd=>cond d.1 (cond (ak .leq b.1 1000000) (cond (ak .lss b.1 (aa .add .i64 c.1 5)) ((Ro a.2.1 b.1).bind λe=>cond (wW .eql e.1 a.1) (some (.inr (.inl (b.1,())))) (some (.inl (aa .add .i64 b.1 1,())))) (some (.inr (.inr (.inl ()))))) (some (.inr (.inr (.inl ()))))) (some (.inr (.inr (.inl ()))))
def RN k x:=iter (NJ k) big x
def SA(a b c d e:Int)(f:ByteArray):PN:=(RN (f,a,b,c,d,e,()) (b,())).bind λg=>Sum.elim (λh=>some (h.1,())) (λh=>Sum.elim (λ_=>some (-1,())) (λi=>Empty.elim i) h) g
def VT(a:Mk)(b:NP):YbE:=cond (ak .lss b.2.1 a.1) (some (.inl (aa .mul .i64 2 b.1,aa .add .i64 b.2.1 1,()))) (some (.inr (.inl (b.1,()))))
def Qq k x:=iter (VT k) big x
def QZ(a:Int):PN:=(Qq (a,()) (1,0,())).bind λb=>Sum.elim (λc=>some (c.1,())) (λc=>Empty.elim c) b
def QY(a b c d e f g:Int):YcT:=cond (ak .geq f 0) (some (a,f,0,0,e,0,())) (cond (ak .lss c 2) (some (a,b,aa .add .i64 c 1,d,e,2,())) ((QZ d).bind λh=>some (a,b,0,nS false (aa .add .i64 d 1) (6:Int),aa .add .i64 g h.1,3,())))
def ZE(a b c d e:Int)(f:ByteArray)(g:Int):YcT:=(KQ a b c d e).bind λh=>letI i:=some (a,b,c,d,e,(4:Int),());cond (Bool.not h.1) i ((dr g 0 20000).bind λj=>cond (Bool.not j.1) i (cond (ak .lss g e) (some (a,b,c,d,e,1,())) ((SA a b c d e f).bind λk=>cond (ak .geq k.1 0) ((QY a b c d e (aa .add .i64 k.1 1) g).bind λl=>some (l.1,l.2.1,l.2.2.1,l.2.2.2.1,l.2.2.2.2.1,l.2.2.2.2.2.1,())) ((QY a b c d e (-1) g).bind λl=>some (l.1,l.2.1,l.2.2.1,l.2.2.2.1,l.2.2.2.2.1,l.2.2.2.2.2.1,())))))
def Kk(a b c d e f g h i j k:Int)(l:Lj)(m:KT)(n:JX)(o:JH)(p q r s:Int)(t:ByteArray)(u v w x y z:Int)(A:Bool):YbO:=letI B:=aa .sub .i64 q 1;letI C:=(ae aS m B).2;letI D:=C.2.2;letI E:=ae ax l C.2.1;cond (aZ m B) (cond (aZ l C.2.1) (cond (ak .neq D.1 3) (some (a,b,c,d,e,f,g,h,i,j,k,l,m,n,o,3,())) (cond (ak .neq E.2.2.2.2.2.2.2.2.1 0) (some (a,b,c,d,e,f,g,h,i,j,k,l,m,n,o,4,())) ((N8 E.1 E.2.1 k).bind λF=>cond (Bool.not F.1) (some (a,b,c,d,e,f,g,h,i,j,k,l,m,n,o,5,())) ((Pu n C.1 r q k).bind λG=>cond (Bool.not G.1) (some (a,b,c,d,e,f,g,h,i,j,k,l,m,n,o,6,())) ((Mj a b c d e f g h i j k l m n o q).bind λH=>letI I:=D.2.2.2.2;cond H.1 (some (a,b,c,d,e,f,g,h,i,j,k,l,m,n,o,7,())) ((ZE D.2.2.2.1 I.1 I.2.1 I.2.2.1 I.2.2.2.1 t k).bind λJ=>cond (aZ m B) (lets (cS m B ((ae aS m B).1,C.1,C.2.1,D.1,D.2.1,D.2.2.1,J.1,J.2.1,J.2.2.1,J.2.2.2.1,J.2.2.2.2.1,I.2.2.2.2.1,I.2.2.2.2.2)) λK=>cond (ak .neq J.2.2.2.2.2.1 0) (some (a,b,c,d,e,f,g,h,i,j,k,l,K,n,o,9,())) ((tW a b c d e f g h i j k l K n o q r 2).bind λL=>letI M:=L.2.2.2.2;letI N:=M.2.2.2;letI O:=N.2.2.2.2;some (L.1,L.2.1,L.2.2.1,L.2.2.2.1,M.1,M.2.1,M.2.2.1,N.1,N.2.1,N.2.2.1,N.2.2.2.1,O.1,O.2.1,O.2.2.1,O.2.2.2.1,0,()))) none)))))) none) none
def Kp(a b c d e f g h i j k:Int)(l:Lj)(m:KT)(n:JX)(o:JH)(p q r s:Int)(t:ByteArray)(u v w x y z:Int)(A:Bool):YbO:=letI B:=aa .sub .i64 q 1;letI C:=(ae aS m B).2.2;letI D:=ae ax l C.1;cond (aZ m B) (cond (aZ l C.1) (cond (ak .neq C.2.1 3) (some (a,b,c,d,e,f,g,h,i,j,k,l,m,n,o,3,())) (cond (ak .neq D.2.2.2.2.2.2.2.2.1 0) (some (a,b,c,d,e,f,g,h,i,j,k,l,m,n,o,4,())) ((N8 D.1 D.2.1 k).bind λE=>letI F:=some (a,b,c,d,e,f,g,h,i,j,k,l,m,n,o,(5:Int),());cond (Bool.not E.1) F ((Pz D.1 D.2.1 a b c d e f g h C.2.2.1 k C.2.2.2.1).bind λG=>cond (Bool.not G.1) F ((Mj a b c d e f g h i j k l m n o q).bind λH=>cond H.1 (some (a,b,c,d,e,f,g,h,i,j,k,l,m,n,o,7,())) ((tW a b c d e f g h i j k l m n o q 0 2).bind λI=>letI J:=I.2.2.2.2;letI K:=J.2.2.2;letI L:=K.2.2.2.2;some (I.1,I.2.1,I.2.2.1,I.2.2.2.1,J.1,J.2.1,J.2.2.1,K.1,K.2.1,K.2.2.1,K.2.2.2.1,L.1,L.2.1,L.2.2.1,L.2.2.2.1,0,()))))))) none) none
def Wf(a b:NO)(c d e f g h i j k l:Int):Kg:=(KJ a b c d e f g h i j k (aa .add .i64 l 1)).bind λm=>some (m.2.1,())
def Po(a b:NO)(c d e f g h i j k l m:Int):Kg:=(KJ a b c d e f g h i j k m).bind λn=>letI o:=some (false,());cond n.2.1 ((Wf a b c d e f g h i j k m).bind λp=>cond p.1 ((dr l k 20000).bind λq=>cond q.1 ((Pz a b c d e f g h i j k l m).bind λr=>some (Bool.not r.1,())) o) o) o
def JE(a b c d e f g h i j k:Int)(l:Lj)(m:KT)(n:JX)(o:JH)(p q r s t:Int):Option (Int×Int×Int×Int×Int×Int×Int×Int×Int×Int×Int×Lj×KT×JX×JH×YaU):=(M2 a b c d e f g h i j k l m n o).bind λu=>letI v:=ae ax l p;letI w:=v.2.2.2;letI x:=w.2.2.2.2;letI y:=some (a,b,c,d,e,f,g,h,i,j,k,l,m,n,o,false,());cond (Bool.not u.2.1) y (cond (ak .geq (bw u.1) 60) y (cond (aZ l p) ((QO x.2.2.2 p q r s t).bind λz=>cond (aZ l p) (lets (cS l p (v.1,v.2.1,v.2.2.1,w.1,w.2.1,w.2.2.1,w.2.2.2.1,x.1,x.2.1,x.2.2.1,z.1)) λA=>some (a,b,c,d,e,f,g,h,i,j,k,A,m,n,o,z.2.1,())) none) none))
def JR(a b c d e f g h i j k:Int)(l:Lj)(m:KT)(n:JX)(o:JH)(p q r s:Int)(t:ByteArray)(u v w x y z:Int)(A:Bool):YbO:=letI B:=aa .sub .i64 q 1;letI C:=(ae aS m B).2;letI D:=C.2;cond (aZ m B) (cond (ak .neq D.2.1 3) (some (a,b,c,d,e,f,g,h,i,j,k,l,m,n,o,3,())) ((Pu n C.1 r q k).bind λE=>letI F:=D.2.2.2;cond (Bool.not E.1) (some (a,b,c,d,e,f,g,h,i,j,k,l,m,n,o,6,())) (cond (aZ l D.1) ((Po (ae ax l D.1).1 (ae ax l D.1).2.1 a b c d e f g h D.2.2.1 k F.1).bind λG=>letI H:=F.2.2.2.2;cond (Bool.not G.1) (some (a,b,c,d,e,f,g,h,i,j,k,l,m,n,o,5,())) (cond (aZ m B) (lets (cS m B ((ae aS m B).1,C.1,D.1,D.2.1,D.2.2.1,aa .add .i64 F.1 1,F.2.1,F.2.2.1,F.2.2.2.1,H.1,H.2.1,H.2.2.1,H.2.2.2)) λI=>(JE a b c d e f g h i j k l I n o D.1 2 q 0 0).bind λJ=>letI K:=J.2.2;letI L:=K.2.2;letI M:=L.2.2;letI N:=M.2.2;letI O:=N.2.2;letI P:=O.2.2;cond (Bool.not P.2.2.2.1) (some (J.1,J.2.1,K.1,K.2.1,L.1,L.2.1,M.1,M.2.1,N.1,N.2.1,O.1,O.2.1,P.1,P.2.1,P.2.2.1,10,())) (some (J.1,J.2.1,K.1,K.2.1,L.1,L.2.1,M.1,M.2.1,N.1,N.2.1,O.1,O.2.1,P.1,P.2.1,P.2.2.1,0,()))) none)) none))) none
def qW(a b c d e f g h i j k:Int)(l:Lj)(m:KT)(n:JX)(o:JH)(p q r s:Int)(t:ByteArray)(u v w x y z:Int)(A:Bool):YbO:=cond (ak .eql p 2) ((Ua a b c d e f g h i j k l m n o p q r s t u v w x y z A).bind λB=>letI C:=B.2.2.2.2;letI D:=C.2.2.2.2;letI E:=D.2.2.2.2;some (B.1,B.2.1,B.2.2.1,B.2.2.2.1,C.1,C.2.1,C.2.2.1,C.2.2.2.1,D.1,D.2.1,D.2.2.1,D.2.2.2.1,E.1,E.2.1,E.2.2.1,E.2.2.2.1,())) (cond (ak .eql p 3) ((KZ a b c d e f g h i j k l m n o p q r s t u v w x y z A).bind λB=>letI C:=B.2.2.2.2;letI D:=C.2.2.2.2;letI E:=D.2.2.2.2;some (B.1,B.2.1,B.2.2.1,B.2.2.2.1,C.1,C.2.1,C.2.2.1,C.2.2.2.1,D.1,D.2.1,D.2.2.1,D.2.2.2.1,E.1,E.2.1,E.2.2.1,E.2.2.2.1,())) (cond (ak .eql p 4) ((Kk a b c d e f g h i j k l m n o p q r s t u v w x y z A).bind λB=>letI C:=B.2.2.2.2;letI D:=C.2.2.2.2;letI E:=D.2.2.2.2;some (B.1,B.2.1,B.2.2.1,B.2.2.2.1,C.1,C.2.1,C.2.2.1,C.2.2.2.1,D.1,D.2.1,D.2.2.1,D.2.2.2.1,E.1,E.2.1,E.2.2.1,E.2.2.2.1,())) (cond (ak .eql p 5) ((Kp a b c d e f g h i j k l m n o p q r s t u v w x y z A).bind λB=>letI C:=B.2.2.2.2;letI D:=C.2.2.2.2;letI E:=D.2.2.2.2;some (B.1,B.2.1,B.2.2.1,B.2.2.2.1,C.1,C.2.1,C.2.2.1,C.2.2.2.1,D.1,D.2.1,D.2.2.1,D.2.2.2.1,E.1,E.2.1,E.2.2.1,E.2.2.2.1,())) ((JR a b c d e f g h i j k l m n o p q r s t u v w x y z A).bind λB=>letI C:=B.2.2.2.2;letI D:=C.2.2.2.2;letI E:=D.2.2.2.2;some (B.1,B.2.1,B.2.2.1,B.2.2.2.1,C.1,C.2.1,C.2.2.1,C.2.2.2.1,D.1,D.2.1,D.2.2.1,D.2.2.2.1,E.1,E.2.1,E.2.2.1,E.2.2.2.1,())))))
def Jl(a b c d e f g h i j k:Int)(l:Lj)(m:KT)(n:JX)(o:JH)(p q r s:Int)(t:ByteArray)(u v w x y z:Int)(A:Bool):YbO:=letI B:=(ae kC n q).2;letI C:=ak .eql p 13;letI D:=ak .eql p 14;letI E:=(u,v,w,x,y,z,A);letI F:=some (a,b,c,d,e,f,g,h,i,j,k,l,m,n,o,(1:Int),());letI G:=cond D (cond (aZ n q) (lets (cS n q ((ae kC n q).1,B.1,B.2.1,B.2.2.1,B.2.2.2.1,B.2.2.2.2.1,true)) λG=>some (a,b,c,d,e,f,g,h,i,j,k,l,m,G,o,(0:Int),())) none) (cond (ak .lss q 1) F (cond (ak .gtr q (aa .sub .i64 20000 k)) (some (a,b,c,d,e,f,g,h,i,j,k,l,m,n,o,(5:Int),())) (some (a,b,c,d,e,f,g,h,i,j,aa .add .i64 k q,l,m,n,o,(0:Int),()))));letI H:=cond D (cond (aZ n q) (cond B.2.2.2.2.2 (some (a,b,c,d,e,f,g,h,i,j,k,l,m,n,o,(3:Int),())) G) none) G;letI I:=cond C (cond (dF (List.append (α:=YbF) n (List.append (α:=YbF) ([]:JX) [E]))) (lets (List.append (α:=YbF) n (List.append (α:=YbF) ([]:JX) [E])) λI=>some (a,b,c,d,e,f,g,h,i,j,k,l,m,I,o,(0:Int),())) none) (cond D ((dr q 0 (aa .sub .i64 (bw n) 1)).bind λI=>cond (Bool.not I.1) (some (a,b,c,d,e,f,g,h,i,j,k,l,m,n,o,(2:Int),())) H) H);letI J:=cond C (cond (ak .eql (bw n) 30) (some (a,b,c,d,e,f,g,h,i,j,k,l,m,n,o,(10:Int),())) I) I;cond C ((Lv u v w x y z A).bind λK=>cond (Bool.not K.1) F (cond A F J)) J
def Sw(a b:Int)(c d e:Bool):YbB:=(Jr a b c d e).bind λf=>letI g:=aa .add .i64 b 1;letI h:=some (a,b,c,d,e,false,());cond (Bool.not f.1) h (cond (ak .eql b 0) h (cond (ak .eql b 1) (some (a,g,true,d,e,true,())) (cond (ak .eql b 2) (some (a,g,c,true,e,true,())) (cond (ak .eql b 3) (some (a,g,c,d,Bool.not e,true,())) (cond (ak .eql b 4) (some (a,g,c,false,e,true,())) (cond (ak .eql b 5) (some (a,g,false,d,e,true,())) (some (0,0,c,d,e,true,()))))))))
def SF(a b:Int)(c d e:Bool):PN:=(Jr a b c d e).bind λf=>letI g:=some ((0:Int),());cond (Bool.not f.1) g (cond (ak .eql a 0) g (cond d (some (2,())) ((PG a b c d e).bind λh=>cond h.1 (some (4,())) (some (3,())))))
def QS(a:Rp)(b:Int):Option (Rp×YaU):=(Ks a).bind λc=>(NW a b).bind λd=>letI e:=ae br a d.1;cond (ak .lss d.1 0) (some (c.1,false,())) (cond (aZ a d.1) ((SE e.1 e.2.1 e.2.2 b).bind λf=>cond (aZ c.1 d.1) (some (cS c.1 d.1 (f.1,f.2.1,f.2.2.1),f.2.2.2.1,())) none) none)
def Jg(a b c d e f g h i j k:Int)(l:Lj)(m:KT)(n:JX)(o:JH)(p q r:Int):YbO:=letI s:=(0:Int);letI t:=aZ l p;letI u:=(ae ax l p).2;letI v:=u.2.2.2.2.2;letI w:=v.2.2.2.1;letI x:=aa .sub .i64 v.2.2.1 1;letI y:=aZ m x;cond t (cond t (cond y (cond t (lets (cS l p ((ae ax l p).1,u.1,u.2.1,u.2.2.1,u.2.2.2.1,u.2.2.2.2.1,v.1,v.2.1,s,w,v.2.2.2.2)) λz=>letI A:=ae ax z p;letI B:=A.2.2;letI C:=B.2.2.2.2;cond (aZ z p) (lets (cS z p (A.1,A.2.1,B.1,B.2.1,B.2.2.1,B.2.2.2.1,C.1,C.2.1,C.2.2.1,s,C.2.2.2.2)) λD=>letI E:=ae ax D p;letI F:=E.2.2.2.2.2.2.2.2;cond (aZ D p) (lets (cS D p (E.1,E.2.1,E.2.2.1,s,s,false,false,false,F.1,F.2.1,F.2.2)) λG=>letI H:=(10:Int);letI I:=aZ G p;letI J:=ae ax G p;letI K:=J.2;letI L:=ak .eql r 3;letI M:=ak .eql q 1;letI N:=ae aS m x;letI O:=N.1;letI P:=aa .add .i64 x 1;letI Q:=N.2.1;letI R:=N.2.2.1;letI S:=N.2.2.2.2;letI T:=S.2.2;letI U:=S.2.1;letI V:=T.2.2;letI W:=T.2.1;letI X:=V.2.2;letI Y:=V.2.1;letI Z:=X.2;letI a0:=(O,Q,R,(5:Int),S.1,U,T.1,W,V.1,Y,X.1,Z.1,Z.2);letI a1:=cS m x (O,Q,R,1,S.1,U,T.1,W,V.1,Y,X.1,Z.1,Z.2);letI a2:=cS m x (O,Q,R,3,S.1,U,T.1,W,V.1,Y,X.1,Z.1,Z.2);letI a3:=cond M (cond y (lets a1 λa3=>some (a,b,c,d,e,f,g,h,i,j,k,G,a3,n,o,s,())) none) (cond (Bool.not L) (cond y (lets a2 λa3=>some (a,b,c,d,e,f,g,h,i,j,k,G,a3,n,o,s,())) none) (cond (ak .gtr w s) (cond I ((TU J.1 K.1 a b c d e f g h O S.1 k U).bind λa3=>(JE a b c d e f g h i j k G m n o p 3 P w k).bind λa4=>letI a5:=a4.2.2;letI a6:=a5.2.2;letI a7:=a6.2.2;letI a8:=a7.2.2;letI a9:=a8.2.2;letI b0:=a9.2.2;cond (aZ b0.1 x) (lets (cS b0.1 x (O,Q,R,4,S.1,U,T.1,W,V.1,Y,X.1,w,a3.1)) λb1=>cond (Bool.not b0.2.2.2.1) (some (a4.1,a4.2.1,a5.1,a5.2.1,a6.1,a6.2.1,a7.1,a7.2.1,a8.1,a8.2.1,a9.1,a9.2.1,b1,b0.2.1,b0.2.2.1,H,())) (some (a4.1,a4.2.1,a5.1,a5.2.1,a6.1,a6.2.1,a7.1,a7.2.1,a8.1,a8.2.1,a9.1,a9.2.1,b1,b0.2.1,b0.2.2.1,s,()))) none) none) ((JE a b c d e f g h i j k G m n o p 4 P s k).bind λa3=>letI a4:=a3.2.2;letI a5:=a4.2.2;letI a6:=a5.2.2;letI a7:=a6.2.2;letI a8:=a7.2.2;letI a9:=a8.2.2;cond (aZ a9.1 x) (lets (cS a9.1 x a0) λb0=>cond (Bool.not a9.2.2.2.1) (some (a3.1,a3.2.1,a4.1,a4.2.1,a5.1,a5.2.1,a6.1,a6.2.1,a7.1,a7.2.1,a8.1,a8.2.1,b0,a9.2.1,a9.2.2.1,H,())) (some (a3.1,a3.2.1,a4.1,a4.2.1,a5.1,a5.2.1,a6.1,a6.2.1,a7.1,a7.2.1,a8.1,a8.2.1,b0,a9.2.1,a9.2.2.1,s,()))) none)));cond (pI (ak .eql q 2) L) (cond I ((QS K.2.1 P).bind λa4=>letI a5:=K.2.2.2.2.2;cond I (lets (cS G p (J.1,K.1,a4.1,K.2.2.1,K.2.2.2.1,K.2.2.2.2.1,a5.1,a5.2.1,a5.2.2.1,a5.2.2.2.1,a5.2.2.2.2)) λa6=>letI a7:=cond M (cond y (lets a1 λa7=>some (a,b,c,d,e,f,g,h,i,j,k,a6,a7,n,o,s,())) none) (cond (Bool.not L) (cond y (lets a2 λa7=>some (a,b,c,d,e,f,g,h,i,j,k,a6,a7,n,o,s,())) none) (cond (ak .gtr w s) (cond (aZ a6 p) ((TU (ae ax a6 p).1 (ae ax a6 p).2.1 a b c d e f g h O S.1 k U).bind λa7=>(JE a b c d e f g h i j k a6 m n o p 3 P w k).bind λa8=>letI a9:=a8.2.2;letI b0:=a9.2.2;letI b1:=b0.2.2;letI b2:=b1.2.2;letI b3:=b2.2.2;letI b4:=b3.2.2;cond (aZ b4.1 x) (lets (cS b4.1 x (O,Q,R,4,S.1,U,T.1,W,V.1,Y,X.1,w,a7.1)) λb5=>cond (Bool.not b4.2.2.2.1) (some (a8.1,a8.2.1,a9.1,a9.2.1,b0.1,b0.2.1,b1.1,b1.2.1,b2.1,b2.2.1,b3.1,b3.2.1,b5,b4.2.1,b4.2.2.1,H,())) (some (a8.1,a8.2.1,a9.1,a9.2.1,b0.1,b0.2.1,b1.1,b1.2.1,b2.1,b2.2.1,b3.1,b3.2.1,b5,b4.2.1,b4.2.2.1,s,()))) none) none) ((JE a b c d e f g h i j k a6 m n o p 4 P s k).bind λa7=>letI a8:=a7.2.2;letI a9:=a8.2.2;letI b0:=a9.2.2;letI b1:=b0.2.2;letI b2:=b1.2.2;letI b3:=b2.2.2;cond (aZ b3.1 x) (lets (cS b3.1 x a0) λb4=>cond (Bool.not b3.2.2.2.1) (some (a7.1,a7.2.1,a8.1,a8.2.1,a9.1,a9.2.1,b0.1,b0.2.1,b1.1,b1.2.1,b2.1,b2.2.1,b4,b3.2.1,b3.2.2.1,H,())) (some (a7.1,a7.2.1,a8.1,a8.2.1,a9.1,a9.2.1,b0.1,b0.2.1,b1.1,b1.2.1,b2.1,b2.2.1,b4,b3.2.1,b3.2.2.1,s,()))) none)));cond M (cond L ((J0 a b c d e f g h i j k a6 m n o P).bind λa8=>(JE a b c d e f g h i j k a6 m n o p 1 P p k).bind λa9=>letI b0:=a9.2.2;letI b1:=b0.2.2;letI b2:=b1.2.2;letI b3:=b2.2.2;letI b4:=b3.2.2;letI b5:=b4.2.2;cond (aZ b5.1 x) (lets (cS b5.1 x (O,Q,R,3,k,U,a8.1,s,s,s,s,Z.1,Z.2)) λb6=>cond (Bool.not b5.2.2.2.1) (some (a9.1,a9.2.1,b0.1,b0.2.1,b1.1,b1.2.1,b2.1,b2.2.1,b3.1,b3.2.1,b4.1,b4.2.1,b6,b5.2.1,b5.2.2.1,H,())) (some (a9.1,a9.2.1,b0.1,b0.2.1,b1.1,b1.2.1,b2.1,b2.2.1,b3.1,b3.2.1,b4.1,b4.2.1,b6,b5.2.1,b5.2.2.1,s,()))) none) a7) a7) none) none) (cond M (cond L ((J0 a b c d e f g h i j k G m n o P).bind λa4=>(JE a b c d e f g h i j k G m n o p 1 P p k).bind λa5=>letI a6:=a5.2.2;letI a7:=a6.2.2;letI a8:=a7.2.2;letI a9:=a8.2.2;letI b0:=a9.2.2;letI b1:=b0.2.2;cond (aZ b1.1 x) (lets (cS b1.1 x (O,Q,R,3,k,U,a4.1,s,s,s,s,Z.1,Z.2)) λb2=>cond (Bool.not b1.2.2.2.1) (some (a5.1,a5.2.1,a6.1,a6.2.1,a7.1,a7.2.1,a8.1,a8.2.1,a9.1,a9.2.1,b0.1,b0.2.1,b2,b1.2.1,b1.2.2.1,H,())) (some (a5.1,a5.2.1,a6.1,a6.2.1,a7.1,a7.2.1,a8.1,a8.2.1,a9.1,a9.2.1,b0.1,b0.2.1,b2,b1.2.1,b1.2.2.1,s,()))) none) a3) a3)) none) none) none) none) none) none
def Wg(a b c d e f g h i j k:Int)(l:Lj)(m:KT)(n:JX)(o:JH)(p q r s:Int)(t:ByteArray)(u v w x y z:Int)(A:Bool):YbO:=letI B:=ae ax l q;letI C:=B.2.2.2;letI D:=C.2.2.2;cond (aZ l q) ((Sw C.1 C.2.1 C.2.2.1 D.1 D.2.1).bind λE=>cond (Bool.not E.2.2.2.2.2.1) (some (a,b,c,d,e,f,g,h,i,j,k,l,m,n,o,3,())) (cond (aZ l q) (lets (cS l q (B.1,B.2.1,B.2.2.1,E.1,E.2.1,E.2.2.1,E.2.2.2.1,E.2.2.2.2.1,D.2.2.1,D.2.2.2.1,D.2.2.2.2)) λF=>cond (ak .neq E.1 0) (some (a,b,c,d,e,f,g,h,i,j,k,F,m,n,o,0,())) ((SF C.1 C.2.1 C.2.2.1 D.1 D.2.1).bind λG=>(Jg a b c d e f g h i j k F m n o q C.1 G.1).bind λH=>letI I:=H.2.2.2.2;letI J:=I.2.2.2.2;letI K:=J.2.2.2.2;some (H.1,H.2.1,H.2.2.1,H.2.2.2.1,I.1,I.2.1,I.2.2.1,I.2.2.2.1,J.1,J.2.1,J.2.2.1,J.2.2.2.1,K.1,K.2.1,K.2.2.1,K.2.2.2.1,()))) none)) none
def Q2(a b:Int):Option (Int×YcO):=letI c:=(0:Int);cond (ak .eql a 1) (some (b,c,c,c,())) (cond (ak .eql a 2) (some (c,b,c,c,())) (cond (ak .eql a 3) (some (c,c,b,c,())) (cond (ak .eql a 4) (some (c,c,c,b,())) (some (c,c,c,c,())))))
def QV(a b c d:Int):Kg:=(dr a 0 2).bind λe=>letI f:=some (false,());cond e.1 ((dr b 0 2).bind λg=>cond g.1 ((dr c 0 2).bind λh=>cond h.1 ((dr d 0 2).bind λi=>some (i.1,())) f) f) f
def Lw(a:Bool)(b:Int):Kg:=letI c:=some (ak .eql b 2,());cond (ak .eql b 0) (cond a (some (true,())) c) c
def SD(a b:Int)(c d e:Bool)(f g h i:Int):YdZ:=(Jr a b c d e).bind λj=>letI k:=some (false,false,false,false,false,());cond (Bool.not j.1) k ((QV f g h i).bind λl=>cond (Bool.not l.1) k ((Lw (Bool.not d) f).bind λm=>(Lw (Bool.not d) g).bind λn=>(Lw e h).bind λo=>(Lw e i).bind λp=>some (m.1,n.1,o.1,p.1,true,())))
def MX(a b:Int)(c d e:Bool):Kg:=(Jr a b c d e).bind λf=>letI g:=some (false,());cond f.1 (cond (ak .neq a 0) (some (ak .eql b 0,())) g) g
def N9(a:Int):PN:=cond (ak .neq a 0) (some (1,())) (some (0,()))
def MS(a b c d:Int):PN:=(N9 a).bind λe=>(N9 b).bind λf=>(N9 c).bind λg=>(N9 d).bind λh=>some (aa .add .i64 (aa .add .i64 (aa .add .i64 e.1 f.1) g.1) h.1,())
def SG(a:Int)(b c d e:Bool):PN:=letI f:=some ((1:Int),());letI g:=cond (Bool.not (pI b c)) f (cond (Bool.not b) (some ((2:Int),())) (cond (Bool.not (pI d e)) f (cond (pI d (ak .eql a 1)) (some ((3:Int),())) (some ((4:Int),())))));cond (ak .neq a 1) (cond (ak .neq a 2) (some (0,())) g) g
def SC(a b:Int)(c d e:Bool)(f g h i:Int):YbM:=(SD a b c d e f g h i).bind λj=>letI k:=some (a,b,c,d,e,(0:Int),false,());cond (Bool.not j.2.2.2.2.1) k ((MX a b c d e).bind λl=>cond (Bool.not l.1) k ((MS f g h i).bind λm=>cond (ak .gtr m.1 1) k ((SG a j.1 j.2.1 j.2.2.1 j.2.2.2.1).bind λn=>letI o:=some ((0:Int),b,false,d,e,n.1,true,());cond (ak .eql n.1 3) o (cond (ak .eql n.1 4) o (some (a,b,c,d,e,n.1,true,()))))))
def NN(a b c d e f g h i j k:Int)(l:Lj)(m:KT)(n:JX)(o:JH)(p q r s:Int)(t:ByteArray)(u v w x y z:Int)(A:Bool):YbO:=letI B:=cond (aZ l q) ((Q2 r s).bind λB=>letI C:=ae ax l q;letI D:=C.2.2.2;letI E:=D.2.2.2.2;(SC D.1 D.2.1 D.2.2.1 D.2.2.2.1 E.1 B.1 B.2.1 B.2.2.1 B.2.2.2.1).bind λF=>letI G:=F.2.2.2;cond (Bool.not G.2.2.2.1) (some (a,b,c,d,e,f,g,h,i,j,k,l,m,n,o,(3:Int),())) (cond (aZ l q) (lets (cS l q (C.1,C.2.1,C.2.2.1,F.1,F.2.1,F.2.2.1,G.1,G.2.1,E.2.1,E.2.2.1,E.2.2.2)) λH=>cond (ak .neq F.1 0) (some (a,b,c,d,e,f,g,h,i,j,k,H,m,n,o,(0:Int),())) ((Jg a b c d e f g h i j k H m n o q D.1 G.2.2.1).bind λI=>letI J:=I.2.2.2.2;letI K:=J.2.2.2.2;letI L:=K.2.2.2.2;some (I.1,I.2.1,I.2.2.1,I.2.2.2.1,J.1,J.2.1,J.2.2.1,J.2.2.2.1,K.1,K.2.1,K.2.2.1,K.2.2.2.1,L.1,L.2.1,L.2.2.1,L.2.2.2.1,()))) none)) none;letI C:=(dr r 1 4).bind λC=>letI D:=some (a,b,c,d,e,f,g,h,i,j,k,l,m,n,o,(1:Int),());cond (Bool.not C.1) D ((dr s 1 2).bind λE=>cond (Bool.not E.1) D B);cond (ak .neq r 0) C (cond (ak .neq s 0) C B)
def SK(a b c d e f g h i j k:Int)(l:Lj)(m:KT)(n:JX)(o:JH)(p q r s:Int)(t:ByteArray)(u v w x y z:Int)(A:Bool):YbO:=letI B:=ae ax l q;letI C:=B.2.2.2;letI D:=C.2.2.2.2;cond (aZ l q) ((Kz o D.2.2.2).bind λE=>cond (Bool.not E.2.1) (some (a,b,c,d,e,f,g,h,i,j,k,l,m,n,o,10,())) (cond (dF (List.append (α:=Ka) ([]:JH) E.1)) (cond (aZ l q) (lets (cS l q (B.1,B.2.1,B.2.2.1,C.1,C.2.1,C.2.2.1,C.2.2.2.1,D.1,D.2.1,D.2.2.1,List.append (α:=Ka) ([]:JH) E.1)) λF=>some (a,b,c,d,e,f,g,h,i,j,k,F,m,n,E.1,0,())) none) none)) none
def J9(a:YaR):Option (YaR⊕YbC):=letI b:=a.2.2.2;letI c:=b.2.2.2;letI d:=c.2.2.2;letI e:=d.2.2;letI f:=e.2.2;letI g:=e.2.1;letI h:=f.2.2;letI i:=h.2.2;letI j:=i.2.2;letI k:=j.2.2;letI l:=k.2.2;letI m:=l.2.2;letI n:=m.2.2.2;letI o:=n.2.2;letI p:=n.2.1;letI q:=o.2.2.2;letI r:=q.2.2;letI s:=r.2.2;letI t:=s.2.2;letI u:=t.2.2;letI v:=u.2.2.2;letI w:=v.2.2;letI x:=w.2.2;letI y:=x.2.2;letI z:=y.2.2;letI A:=(ae ax g z.1).2.2.1;letI B:=(ae br A p).2.2;cond (aZ A p) (lets (bw B) λC=>letI D:=a.2.1;letI E:=a.2.2.1;letI F:=b.2.1;letI G:=b.2.2.1;letI H:=c.2.1;letI I:=c.2.2.1;letI J:=d.2.1;letI K:=e.1;letI L:=f.2.1;letI M:=h.2.1;letI N:=i.2.1;letI O:=j.2.1;letI P:=k.2.1;letI Q:=l.2.1;letI R:=m.2.1;letI S:=u.2.2.1;letI T:=ae gI B K;cond (ak .lss K C) (cond (aZ A p) (cond (aZ B K) (lets T.1 λU=>lets T.2.1 λV=>lets T.2.2.1 λW=>lets T.2.2.2 λX=>(dr o.1 U (aa .sub .i64 (aa .add .i64 U V) 1)).bind λY=>letI Z:=aa .add .i64 K 1;letI a0:=ae ax g n.1;letI a1:=a0.2.2;letI a2:=a1.2.2.2.2;letI a3:=z.2.2.2;letI a4:=a3.2.2;letI a5:=a4.2.2;letI a6:=a4.2.1;letI a7:=ae br a1.1 p;letI a8:=ae gI a7.2.2 K;letI a9:=cS g n.1 (a0.1,a0.2.1,cS a1.1 p (a7.1,a7.2.1,cS a7.2.2 K (a8.1,a8.2.1,a8.2.2.1,Bool.not X)),a1.2.1,a1.2.2.1,a1.2.2.2.1,a2.1,a2.2.1,a2.2.2.1,a2.2.2.2.1,a2.2.2.2.2);cond (Bool.not Y.1) (some (.inl (a.1,D,E,b.1,F,G,c.1,H,I,d.1,J,Z,g,f.1,L,h.1,M,i.1,N,j.1,O,k.1,P,l.1,Q,m.1,R,m.2.2.1,n.1,p,o.1,o.2.1,o.2.2.1,q.1,q.2.1,r.1,r.2.1,s.1,s.2.1,t.1,t.2.1,u.1,u.2.1,S,v.1,v.2.1,w.1,w.2.1,x.1,x.2.1,y.1,y.2.1,z.1,z.2.1,z.2.2.1,a3.1,a3.2.1,a4.1,a6,a5.1,a5.2.1,()))) (cond (ak .neq a6 0) (cond (ak .eql W a6) (some (.inr (.inl (a.1,D,E,b.1,F,G,c.1,H,I,d.1,J,4,g,f.1,L,h.1,M,i.1,N,j.1,O,k.1,P,l.1,Q,m.1,R,())))) (cond (aZ g n.1) (cond (aZ a1.1 p) (cond (aZ a7.2.2 K) (lets a9 λb0=>some (.inl (a.1,D,E,b.1,F,G,c.1,H,I,d.1,J,Z,b0,f.1,L,h.1,M,i.1,N,j.1,O,k.1,P,l.1,Q,m.1,R,m.2.2.1,n.1,p,o.1,o.2.1,o.2.2.1,q.1,q.2.1,r.1,r.2.1,s.1,s.2.1,t.1,t.2.1,u.1,u.2.1,S,v.1,v.2.1,w.1,w.2.1,x.1,x.2.1,y.1,y.2.1,z.1,z.2.1,z.2.2.1,a3.1,a3.2.1,a4.1,a6,a5.1,a5.2.1,()))) none) none) none)) (cond (aZ g n.1) (cond (aZ a1.1 p) (cond (aZ a7.2.2 K) (lets a9 λb0=>some (.inl (a.1,D,E,b.1,F,G,c.1,H,I,d.1,J,Z,b0,f.1,L,h.1,M,i.1,N,j.1,O,k.1,P,l.1,Q,m.1,R,m.2.2.1,n.1,p,o.1,o.2.1,o.2.2.1,q.1,q.2.1,r.1,r.2.1,s.1,s.2.1,t.1,t.2.1,u.1,u.2.1,S,v.1,v.2.1,w.1,w.2.1,x.1,x.2.1,y.1,y.2.1,z.1,z.2.1,z.2.2.1,a3.1,a3.2.1,a4.1,a6,a5.1,a5.2.1,()))) none) none) none))) none) none) (some (.inr (.inr (.inl (a.1,D,E,b.1,F,G,c.1,H,I,d.1,J,g,f.1,L,h.1,M,i.1,N,j.1,O,k.1,P,l.1,Q,m.1,R,t.1,t.2.1,u.1,u.2.1,S,v.1,v.2.1,w.1,w.2.1,x.1,x.2.1,())))))) none
def PI(a:YaR):Option YbC:=iter J9 big a
def Oa(a b c d e f g h i j k:Int)(l:Lj)(m:KT)(n:JX)(o:JH)(p q r s:Int)(t:ByteArray)(u v w x y z:Int)(A:Bool):YbO:=letI B:=(0:Int);letI C:=(ae ax l q).2.2;cond (aZ l q) ((dr r B (aa .sub .i64 (bw C.1) 1)).bind λD=>letI E:=some (a,b,c,d,e,f,g,h,i,j,k,l,m,n,o,(2:Int),());cond (Bool.not D.1) E (cond (aZ C.1 r) ((dr s B (aa .sub .i64 (ae br C.1 r).1 1)).bind λF=>letI G:=C.2.2.2.2;cond (Bool.not F.1) E ((PI (a,b,c,d,e,f,g,h,i,j,k,B,l,m,n,o,a,b,c,d,e,f,g,h,i,j,k,p,q,r,s,t,u,v,w,x,y,z,A,B,B,B,B,B,B,B,B,B,B,B,q,q,q,C.2.1,C.2.2.1,C.2.2.2.1,G.1,G.2.1,G.2.2.1,G.2.2.2.1,q,())).bind λH=>Sum.elim (λI=>letI J:=I.2.2.2.2.2.2.2.2.2.2.2;letI K:=J.2.2;letI L:=K.2.2.2.2;letI M:=L.2.2.2;letI N:=M.2.2.2;some (K.2.2.2.1,L.1,L.2.1,L.2.2.1,M.1,M.2.1,M.2.2.1,N.1,N.2.1,N.2.2.1,N.2.2.2.1,J.2.1,K.1,K.2.1,K.2.2.1,J.1,())) (λI=>Sum.elim (λJ=>letI K:=J.2.2.2.2.2.2.2.2.2.2.2;letI L:=K.2.2;letI M:=L.2.2.2;letI N:=M.2.2.2;letI O:=N.2.2.2;some (L.2.2.1,M.1,M.2.1,M.2.2.1,N.1,N.2.1,N.2.2.1,O.1,O.2.1,O.2.2.1,O.2.2.2.1,K.1,K.2.1,L.1,L.2.1,B,())) (λJ=>Empty.elim J) I) H)) none)) none
def Sz(a b:Int)(c d e:Bool):YbM:=(MX a b c d e).bind λf=>cond (Bool.not f.1) (some (a,b,c,d,e,0,false,())) ((PG a b c d e).bind λg=>cond g.1 (some (0,b,false,false,e,4,true,())) (some (0,b,false,false,e,3,true,())))
def Vg(a b:Int)(c d e:Bool):YbB:=(Jr a b c d e).bind λf=>letI g:=some (a,b,c,d,e,false,());cond (Bool.not f.1) g ((dr b 2 4).bind λh=>cond (Bool.not h.1) g (cond (ak .eql b 4) (some (a,3,c,d,Bool.not e,true,())) (some (a,5,c,false,e,true,()))))
def XV(a b:Int)(c d e:Bool)(f:Int):YbB:=(MX a b c d e).bind λg=>letI h:=some (a,b,c,d,e,false,());letI i:=cond (ak .eql f 3) (cond d (some (a,b,c,false,e,true,())) h) h;letI j:=cond (ak .eql f 2) (cond d (some (a,b,c,d,Bool.not e,true,())) i) i;cond (Bool.not g.1) h (cond (ak .eql f 1) (cond c (cond (Bool.not d) (some (a,b,c,true,e,true,())) j) j) j)
def QU(a b:Int)(c d e:Bool):YcY:=(Jr a b c d e).bind λf=>cond f.1 (some (a,0,c,d,e,())) (some (a,b,c,d,e,()))
def E2(a b c d e f g h i j k:Int)(l:Lj)(m:KT)(n:JX)(o:JH)(p q r s:Int)(t:ByteArray)(u v w x y z:Int)(A:Bool):YbO:=letI B:=aZ l q;letI C:=ae ax l q;letI D:=C.2.2.2;letI E:=D.2.2;letI F:=D.2.1;letI G:=E.2.2;letI H:=G.2.2;letI I:=some (a,b,c,d,e,f,g,h,i,j,k,l,m,n,o,(3:Int),());cond B (cond (ak .eql p 6) ((Wg a b c d e f g h i j k l m n o p q r s t u v w x y z A).bind λJ=>letI K:=J.2.2.2.2;letI L:=K.2.2.2.2;letI M:=L.2.2.2.2;some (J.1,J.2.1,J.2.2.1,J.2.2.2.1,K.1,K.2.1,K.2.2.1,K.2.2.2.1,L.1,L.2.1,L.2.2.1,L.2.2.2.1,M.1,M.2.1,M.2.2.1,M.2.2.2.1,())) (cond (ak .eql p 10) ((NN a b c d e f g h i j k l m n o p q r s t u v w x y z A).bind λJ=>letI K:=J.2.2.2.2;letI L:=K.2.2.2.2;letI M:=L.2.2.2.2;some (J.1,J.2.1,J.2.2.1,J.2.2.2.1,K.1,K.2.1,K.2.2.1,K.2.2.2.1,L.1,L.2.1,L.2.2.1,L.2.2.2.1,M.1,M.2.1,M.2.2.1,M.2.2.2.1,())) (cond (ak .eql p 16) ((SK a b c d e f g h i j k l m n o p q r s t u v w x y z A).bind λJ=>letI K:=J.2.2.2.2;letI L:=K.2.2.2.2;letI M:=L.2.2.2.2;some (J.1,J.2.1,J.2.2.1,J.2.2.2.1,K.1,K.2.1,K.2.2.1,K.2.2.2.1,L.1,L.2.1,L.2.2.1,L.2.2.2.1,M.1,M.2.1,M.2.2.1,M.2.2.2.1,())) (cond (ak .eql p 17) ((Oa a b c d e f g h i j k l m n o p q r s t u v w x y z A).bind λJ=>letI K:=J.2.2.2.2;letI L:=K.2.2.2.2;letI M:=L.2.2.2.2;some (J.1,J.2.1,J.2.2.1,J.2.2.2.1,K.1,K.2.1,K.2.2.1,K.2.2.2.1,L.1,L.2.1,L.2.2.1,L.2.2.2.1,M.1,M.2.1,M.2.2.1,M.2.2.2.1,())) (cond (ak .eql p 11) ((Sz D.1 F E.1 E.2.1 G.1).bind λJ=>cond (Bool.not J.2.2.2.2.2.2.1) I ((Jg a b c d e f g h i j k l m n o q D.1 J.2.2.2.2.2.1).bind λK=>letI L:=K.2.2.2.2;letI M:=L.2.2.2.2;letI N:=M.2.2.2.2;some (K.1,K.2.1,K.2.2.1,K.2.2.2.1,L.1,L.2.1,L.2.2.1,L.2.2.2.1,M.1,M.2.1,M.2.2.1,M.2.2.2.1,N.1,N.2.1,N.2.2.1,N.2.2.2.1,()))) (cond (ak .eql p 7) ((Vg D.1 F E.1 E.2.1 G.1).bind λJ=>cond (Bool.not J.2.2.2.2.2.1) I (cond B (lets (cS l q (C.1,C.2.1,C.2.2.1,J.1,J.2.1,J.2.2.1,J.2.2.2.1,J.2.2.2.2.1,G.2.1,H.1,H.2)) λK=>some (a,b,c,d,e,f,g,h,i,j,k,K,m,n,o,0,())) none)) (cond (ak .eql p 9) ((XV D.1 F E.1 E.2.1 G.1 r).bind λJ=>cond (Bool.not J.2.2.2.2.2.1) I (cond B (lets (cS l q (C.1,C.2.1,C.2.2.1,J.1,J.2.1,J.2.2.1,J.2.2.2.1,J.2.2.2.2.1,G.2.1,H.1,H.2)) λK=>some (a,b,c,d,e,f,g,h,i,j,k,K,m,n,o,0,())) none)) (cond (ak .eql p 8) ((QU D.1 F E.1 E.2.1 G.1).bind λJ=>cond (Bool.not (ak .neq F 0)) I (cond B (lets (cS l q (C.1,C.2.1,C.2.2.1,J.1,J.2.1,J.2.2.1,J.2.2.2.1,J.2.2.2.2.1,G.2.1,H.1,H.2)) λK=>some (a,b,c,d,e,f,g,h,i,j,k,K,m,n,o,0,())) none)) I)))))))) none
def Ke(a b c d e f g h i j k:Int)(l:Lj)(m:KT)(n:JX)(o:JH)(p q r s:Int)(t:ByteArray)(u v w x y z:Int)(A:Bool):YbO:=(Pv a b c d e f g h i j k l m n o).bind λB=>letI C:=SJ a b c d e f g h i j k l m n o;letI D:=C.bind λD=>letI E:=D.2.2.2.2;letI F:=E.2.2.2;letI G:=F.2.2.2.2;some (D.1,D.2.1,D.2.2.1,D.2.2.2.1,E.1,E.2.1,E.2.2.1,F.1,F.2.1,F.2.2.1,F.2.2.2.1,G.1,G.2.1,G.2.2.1,G.2.2.2.1,(1:Int),());cond (Bool.not B.1) D ((dr p 1 17).bind λE=>cond (Bool.not E.1) D (C.bind λF=>letI G:=F.2.2;letI H:=F.2.1;letI I:=G.2.2;letI J:=G.2.1;letI K:=ak .eql p 13;letI L:=ak .eql p 14;letI M:=ak .eql p 2;letI N:=ak .eql p 3;letI O:=ak .eql p 4;letI P:=ak .eql p 5;letI Q:=I.2.1;letI R:=I.2.2.2;letI S:=I.2.2.1;letI T:=R.2.2;letI U:=R.2.1;letI V:=T.2.2;letI W:=T.2.1;letI X:=V.2.2;letI Y:=V.2.1;letI Z:=X.2.1;letI a0:=some (F.1,H,G.1,J,I.1,Q,S,R.1,U,T.1,W,V.1,Y,X.1,Z,(2:Int),());letI a1:=(Jl F.1 H G.1 J I.1 Q S R.1 U T.1 W V.1 Y X.1 Z p q r s t u v w x y z A).bind λa1=>letI a2:=a1.2.2.2.2.2;letI a3:=a2.2.2.2.2;letI a4:=a3.2.2.2;letI a5:=a4.2.2.2.1;letI a6:=some (a1.1,a1.2.1,a1.2.2.1,a1.2.2.2.1,a1.2.2.2.2.1,a2.1,a2.2.1,a2.2.2.1,a2.2.2.2.1,a3.1,a3.2.1,a3.2.2.1,a4.1,a4.2.1,a4.2.2.1,a5,());cond (ak .neq a5 0) (cond (ak .neq a5 9) (C.bind λa7=>letI a8:=a7.2.2.2.2;letI a9:=a8.2.2.2;letI b0:=a9.2.2.2.2;some (a7.1,a7.2.1,a7.2.2.1,a7.2.2.2.1,a8.1,a8.2.1,a8.2.2.1,a9.1,a9.2.1,a9.2.2.1,a9.2.2.2.1,b0.1,b0.2.1,b0.2.2.1,b0.2.2.2.1,a5,())) a6) a6;letI a2:=(dr q 1 (bw m)).bind λa2=>cond (Bool.not a2.1) a0 ((qW F.1 H G.1 J I.1 Q S R.1 U T.1 W V.1 Y X.1 Z p q r s t u v w x y z A).bind λa3=>letI a4:=a3.2.2.2.2.2;letI a5:=a4.2.2.2.2;letI a6:=a5.2.2.2;letI a7:=a6.2.2.2.1;letI a8:=some (a3.1,a3.2.1,a3.2.2.1,a3.2.2.2.1,a3.2.2.2.2.1,a4.1,a4.2.1,a4.2.2.1,a4.2.2.2.1,a5.1,a5.2.1,a5.2.2.1,a6.1,a6.2.1,a6.2.2.1,a7,());cond (ak .neq a7 0) (cond (ak .neq a7 9) (C.bind λa9=>letI b0:=a9.2.2.2.2;letI b1:=b0.2.2.2;letI b2:=b1.2.2.2.2;some (a9.1,a9.2.1,a9.2.2.1,a9.2.2.2.1,b0.1,b0.2.1,b0.2.2.1,b1.1,b1.2.1,b1.2.2.1,b1.2.2.2.1,b2.1,b2.2.1,b2.2.2.1,b2.2.2.2.1,a7,())) a8) a8);letI a3:=(dr q 0 (aa .sub .i64 (bw l) 1)).bind λa3=>cond (Bool.not a3.1) a0 ((E2 F.1 H G.1 J I.1 Q S R.1 U T.1 W V.1 Y X.1 Z p q r s t u v w x y z A).bind λa4=>letI a5:=a4.2.2.2.2.2;letI a6:=a5.2.2.2.2;letI a7:=a6.2.2.2;letI a8:=a7.2.2.2.1;letI a9:=some (a4.1,a4.2.1,a4.2.2.1,a4.2.2.2.1,a4.2.2.2.2.1,a5.1,a5.2.1,a5.2.2.1,a5.2.2.2.1,a6.1,a6.2.1,a6.2.2.1,a7.1,a7.2.1,a7.2.2.1,a8,());cond (ak .neq a8 0) (cond (ak .neq a8 9) (C.bind λb0=>letI b1:=b0.2.2.2.2;letI b2:=b1.2.2.2;letI b3:=b2.2.2.2.2;some (b0.1,b0.2.1,b0.2.2.1,b0.2.2.2.1,b1.1,b1.2.1,b1.2.2.1,b2.1,b2.2.1,b2.2.2.1,b2.2.2.2.1,b3.1,b3.2.1,b3.2.2.1,b3.2.2.2.1,a8,())) a9) a9);letI a4:=cond K (cond K a1 a3) (cond L (cond L a1 a3) (cond (ak .eql p 15) a1 a3));cond (ak .eql p 1) ((Jw F.1 H G.1 J I.1 Q S R.1 U T.1 W V.1 Y X.1 Z p q r s t u v w x y z A).bind λa5=>letI a6:=a5.2.2.2.2.2;letI a7:=a6.2.2.2.2;letI a8:=a7.2.2.2;letI a9:=a8.2.2.2.1;letI b0:=some (a5.1,a5.2.1,a5.2.2.1,a5.2.2.2.1,a5.2.2.2.2.1,a6.1,a6.2.1,a6.2.2.1,a6.2.2.2.1,a7.1,a7.2.1,a7.2.2.1,a8.1,a8.2.1,a8.2.2.1,a9,());cond (ak .neq a9 0) (cond (ak .neq a9 9) (C.bind λb1=>letI b2:=b1.2.2.2.2;letI b3:=b2.2.2.2;letI b4:=b3.2.2.2.2;some (b1.1,b1.2.1,b1.2.2.1,b1.2.2.2.1,b2.1,b2.2.1,b2.2.2.1,b3.1,b3.2.1,b3.2.2.1,b3.2.2.2.1,b4.1,b4.2.1,b4.2.2.1,b4.2.2.2.1,a9,())) b0) b0) (cond M (cond M a2 a4) (cond N (cond N a2 a4) (cond O (cond O a2 a4) (cond P (cond P a2 a4) (cond (ak .eql p 12) a2 a4)))))))
def Ja(a:KT):Option YcV:=cond (ak .gtr (bw a) 0) (cond (dF (List.append (α:=YaV) ([]:KT) a)) (some (List.append (α:=YaV) ([]:KT) a,())) none) (both (some (([]:KT),())) (cond (dF (List.append (α:=YaV) ([]:KT) a)) (some (List.append (α:=YaV) ([]:KT) a,())) none))
def vn(a:JX):Option YcR:=cond (ak .gtr (bw a) 0) (cond (dF (List.append (α:=YbF) ([]:JX) a)) (some (List.append (α:=YbF) ([]:JX) a,())) none) (both (some (([]:JX),())) (cond (dF (List.append (α:=YbF) ([]:JX) a)) (some (List.append (α:=YbF) ([]:JX) a,())) none))
def K1(a:YbX)(b:YbH):YbQ:=letI c:=b.2.2;letI d:=c.2.2;letI e:=d.2.2;letI f:=e.2.2;letI g:=f.2.2;letI h:=g.2.2;letI i:=h.2.2;letI j:=a.2.2.2.2.2.2.2.2.2.2.2.2.2.2.2;letI k:=i.2.2;letI l:=k.2.2;letI m:=l.2.2;letI n:=m.2.2;letI o:=n.2.2;letI p:=o.2.2;letI q:=p.2.2;letI r:=q.2.2.1;letI s:=ae ax j.1 r;letI t:=s.2.2.2.2.2;cond (ak .lss r j.2.1) (cond (aZ j.1 r) (lets t.2.2.2.2.1 λu=>lets t.2.2.2.2.2 λv=>(QB s.1 s.2.1).bind λw=>(LH s.2.2.1).bind λx=>(kS v).bind λy=>letI z:=(w.1,w.2.1,x.1,s.2.2.2.1,s.2.2.2.2.1,t.1,t.2.1,t.2.2.1,t.2.2.2.1,u,y.1);cond (dF (List.append (α:=YaA) p.1 (List.append (α:=YaA) ([]:Lj) [z]))) (lets (List.append (α:=YaA) p.1 (List.append (α:=YaA) ([]:Lj) [z])) λA=>some (.inl (b.1,b.2.1,c.1,c.2.1,d.1,d.2.1,e.1,e.2.1,f.1,f.2.1,g.1,g.2.1,h.1,h.2.1,i.1,i.2.1,k.1,k.2.1,l.1,l.2.1,m.1,m.2.1,n.1,n.2.1,o.1,o.2.1,A,p.2.1,q.1,q.2.1,aa .add .i64 r 1,()))) none) none) (some (.inr (.inl (b.1,b.2.1,c.1,c.2.1,d.1,d.2.1,e.1,e.2.1,f.1,f.2.1,g.1,g.2.1,h.1,h.2.1,i.1,i.2.1,k.1,k.2.1,l.1,l.2.1,m.1,m.2.1,n.1,n.2.1,o.1,o.2.1,p.1,p.2.1,q.1,q.2.1,()))))
def Nb k x:=iter (K1 k) big x
def Mv(a b c d e f g h i j k:Int)(l:Lj)(m:KT)(n:JX)(o:JH):YdV:=letI p:=(0:Int);(Nb (a,b,c,d,e,f,g,h,i,j,k,l,m,n,o,l,bw l,()) (p,p,p,p,p,p,p,p,p,p,p,([]:Lj),([]:KT),([]:JX),([]:JH),a,b,c,d,e,f,g,h,i,j,k,([]:Lj),m,n,o,p,())).bind λq=>Sum.elim (λr=>(Ja m).bind λs=>(vn n).bind λt=>(kS o).bind λu=>letI v:=r.2.2.2.2.2.2.2.2.2.2.2.2.2.2.2;letI w:=v.2.2.2;letI x:=w.2.2.2;some (v.1,v.2.1,v.2.2.1,w.1,w.2.1,w.2.2.1,x.1,x.2.1,x.2.2.1,x.2.2.2.1,x.2.2.2.2.1,x.2.2.2.2.2.1,s.1,t.1,u.1,())) (λr=>Empty.elim r) q
def V3(a:JX)(b c d e:Int):Kg:=(JZ a).bind λf=>letI g:=some (false,());cond f.1 ((Is b).bind λh=>cond h.1 ((Is c).bind λi=>cond i.1 ((eb d 1 999).bind λj=>cond j.1 ((Je e).bind λk=>some (k.1,())) g) g) g) g
def Oq(a b c d e f:Int)(g:Bool)(h i:Int):Kg:=(JY a b c d e f g).bind λj=>letI k:=some (false,());letI l:=cond (ak .geq i e) (some (ak .lss i f,())) k;cond j.1 (cond (Bool.not g) (cond (ak .eql c 0) l (cond (ak .eql c h) l k)) k) k
def Ys(a:JX×YeC)(b:YbW×YcI):Option (YbW×YcI⊕YbW×YcJ⊕Empty):=letI c:=b.2;letI d:=c.2.2.1;letI e:=a.2.2.2.2;letI f:=ae kC e.2.1 d;letI g:=f.2.2.2;letI h:=(b.1,c.1,c.2.1,aa .add .i64 d 1,());cond (ak .lss d e.2.2.1) (cond (aZ e.2.1 d) (cond (ak .eql f.1 c.2.1) ((Oq f.1 f.2.1 f.2.2.1 g.1 g.2.1 g.2.2.1 g.2.2.2 a.2.1 a.2.2.1).bind λi=>letI j:=aa .sub .i64 e.1 1;cond i.1 (cond (ak .geq g.1 (aa .add .i64 j a.2.2.2.1)) (cond (aZ b.1 j) (cond (jK (ae zM b.1 j) f.2.1) (cond (dF (List.append (α:=Int) c.1 (List.append (α:=Int) ([]:Li) [d]))) (some (.inr (.inl (b.1,List.append (α:=Int) c.1 (List.append (α:=Int) ([]:Li) [d]),f.2.1,())))) none) (some (.inl h))) none) (some (.inl h))) (some (.inl h))) (some (.inl h))) none) (some (.inr (.inl (b.1,c.1,c.2.1,()))))
def QA k x:=iter (Ys k) big x
def Yr(a:JX×YcO)(b:YbW×YcI):Option (YbW×YcI⊕YcM⊕Empty):=letI c:=b.2.2.2.1;cond (ak .gtr c 0) ((QA (a.1,a.2.1,a.2.2.1,a.2.2.2.1,c,a.1,bw a.1,()) (b.1,b.2.1,b.2.2.1,0,())).bind λd=>Sum.elim (λe=>some (.inl (e.1,e.2.1,e.2.2.1,aa .sub .i64 c 1,()))) (λe=>Empty.elim e) d) (some (.inr (.inl (b.2.1,()))))
def Qz k x:=iter (Yr k) big x
def Qy(a:JX×Int×YeC)(b:YbW×YcN):Option (YbW×YcN⊕YbW×YaS×Unit⊕Empty):=letI c:=b.2.2.1;letI d:=a.2.2.2.2.2;letI e:=ae kC d.2.1 c;letI f:=e.2.2.2;cond (ak .lss c d.2.2.1) (cond (aZ d.2.1 c) ((Oq e.1 e.2.1 e.2.2.1 f.1 f.2.1 f.2.2.1 f.2.2.2 a.2.2.1 a.2.2.2.1).bind λg=>letI h:=aa .add .i64 c 1;letI i:=(b.1,b.2.1,h,());cond g.1 (cond (ak .geq f.1 (aa .add .i64 d.1 a.2.2.2.2.1)) (cond (aZ b.1 d.1) (cond (jK (ae zM b.1 d.1) e.2.1) (some (.inl (b.1,qf b.2.1 e.1 true,h,()))) (some (.inl i))) none) (some (.inl i))) (some (.inl i))) none) (some (.inr (.inl (b.1,b.2.1,()))))
def Vn k x:=iter (Qy k) big x
def Yq(a:JX×Int×YcO)(b:YbW×Mk):Option (YbW×Mk⊕Li×YaU⊕YcF):=letI c:=b.2.1;letI d:=a.2.2;cond (ak .leq c 6) (cond (aZ b.1 c) (cond (jK (ae zM b.1 c) a.2.1) ((Qz (a.1,d.1,d.2.1,d.2.2.1,()) (b.1,([]:Li),a.2.1,c,())).bind λe=>Sum.elim (λf=>some (.inr (.inl (f.1,true,())))) (λf=>Empty.elim f) e) ((Vn (a.1,a.2.1,d.1,d.2.1,d.2.2.1,c,a.1,bw a.1,()) (b.1,([]:YaS),0,())).bind λe=>Sum.elim (λf=>cond (dF (List.append (α:=YaS) f.1 (List.append (α:=YaS) ([]:YbW) [f.2.1]))) (some (.inl (List.append (α:=YaS) f.1 (List.append (α:=YaS) ([]:YbW) [f.2.1]),aa .add .i64 c 1,()))) none) (λf=>Empty.elim f) e)) none) (some (.inr (.inr (.inl ()))))
def LF k x:=iter (Yq k) big x
def V5(a:JX)(b c d e f:Int):YdJ:=letI g:=qf ([]:YaS) c true;cond (dF (List.append (α:=YaS) ([]:YbW) (List.append (α:=YaS) ([]:YbW) [g]))) ((LF (a,b,d,e,f,()) (List.append (α:=YaS) ([]:YbW) (List.append (α:=YaS) ([]:YbW) [g]),0,())).bind λh=>Sum.elim (λi=>some (i.1,i.2.1,())) (λi=>Sum.elim (λ_=>some (([]:Li),false,())) (λj=>Empty.elim j) i) h) none
def V1(a:JX)(b c d e:Int):YdJ:=(V3 a b c d e).bind λf=>cond (Bool.not f.1) (some (([]:Li),false,())) ((V5 a b c d e 0).bind λg=>some (g.1,g.2.1,()))
def Oz(a:JX)(b c d e:Int):Kg:=(V1 a b c d e).bind λf=>some (f.2.1,())
def Ov(a b:NO)(c d e f g h i j k l m:Int):Kg:=(KG a b c d e f g h i j k m).bind λn=>(KG a b c d e f g h i j k (aa .add .i64 m 1)).bind λo=>letI p:=some (false,());cond n.2.1 (cond o.2.1 ((Je l).bind λq=>cond q.1 (cond (ak .geq l k) ((OE a b c d e f g h i j k l m).bind λr=>some (Bool.not r.1,())) p) p) p) p
def OL(a:Int×Li×Ln×YcE)(b:YbZ×YdN):Option (YbZ×YdN⊕YbZ×Unit⊕Empty):=letI c:=b.1;letI d:=b.2.2.1;letI e:=aa .add .i64 d 1;letI f:=ae gI a.2.2.2.1 d;letI g:=(c,false,e,());letI h:=((0:Int),f.1,f.2.1,d,e);cond (ak .lss d a.2.2.2.2.1) (cond (aZ a.2.2.2.1 d) (cond (ak .neq f.2.2.1 0) (some (.inl g)) (cond f.2.2.2 (some (.inl g)) (cond b.2.1 ((JO a.2.1 f.1).bind λi=>letI j:=aa .sub .i64 (bw c) 1;letI k:=ae Qt c j;cond (Bool.not i.1) (cond (aZ c j) (lets (cS c j (k.1,k.2.1,aa .add .i64 k.2.2.1 f.2.1,k.2.2.2.1,k.2.2.2.2)) λl=>letI m:=ae Qt l j;lets (cS l j (m.1,m.2.1,m.2.2.1,m.2.2.2.1,aa .add .i64 m.2.2.2.2 1)) λn=>some (.inl (n,true,e,()))) none) (cond (dF (List.append (α:=YaZ) c (List.append (α:=YaZ) ([]:YbZ) [h]))) (lets (List.append (α:=YaZ) ([]:YbZ) [h]) λ_=>some (.inl (List.append (α:=YaZ) c (List.append (α:=YaZ) ([]:YbZ) [h]),true,e,()))) none)) (cond (dF (List.append (α:=YaZ) c (List.append (α:=YaZ) ([]:YbZ) [h]))) (lets (List.append (α:=YaZ) ([]:YbZ) [h]) λ_=>some (.inl (List.append (α:=YaZ) c (List.append (α:=YaZ) ([]:YbZ) [h]),true,e,()))) none)))) none) (some (.inr (.inl (c,()))))
def Tz k x:=iter (OL k) big x
def Ri(a:Int)(b:Li)(c:Ln):Option (YbZ×Unit):=(Tz (a,b,c,c,bw c,()) (([]:YbZ),false,0,())).bind λd=>Sum.elim (λe=>some (e.1,())) (λe=>Empty.elim e) d
def Mr(a:Int×Rp×YcO)(b:YbG×YbZ×Mk):Option (YbG×YbZ×Mk⊕YdI):=letI c:=b.2.2.1;letI d:=(ae Qt b.2.1 c).2;letI e:=(a.1,d.1,d.2.1);cond (ak .lss c a.2.2.2.2.1) (cond (aZ b.2.1 c) (cond (dF (List.append (α:=YaM) b.1 (List.append (α:=YaM) ([]:YbG) [e]))) (some (.inl (List.append (α:=YaM) b.1 (List.append (α:=YaM) ([]:YbG) [e]),b.2.1,aa .add .i64 c 1,()))) none) none) (some (.inr (.inl (b.1,()))))
def Ms k x:=iter (Mr k) big x
def Mq(a:YcA)(b:YcX):YcD:=letI c:=b.2.1;letI d:=ae br a.1 c;cond (ak .lss c a.2.1) (cond (aZ a.1 c) ((Ri d.1 d.2.1 d.2.2).bind λe=>(Ms (c,a.1,a.2.1,c,bw e.1,()) (b.1,e.1,0,())).bind λf=>Sum.elim (λg=>some (.inl (g.1,aa .add .i64 c 1,()))) (λg=>Empty.elim g) f) none) (some (.inr (.inl (b.1,()))))
def P4 k x:=iter (Mq k) big x
def Qx(a:Rp):YcQ:=(P4 (a,bw a,()) (([]:YbG),0,())).bind λb=>Sum.elim (λc=>some (c.1,())) (λc=>Empty.elim c) b
def Vm(a:Rp):YcQ:=(KL a).bind λb=>cond (Bool.not b.1) (some (([]:YbG),())) ((Qx a).bind λc=>some (c.1,()))
def QC(a:Int×YcX)(b:YdG):Option (YdG⊕Int×YdD⊕Empty):=letI c:=b.2.2;letI d:=c.2.2.2;letI e:=d.2.2.1;letI f:=ae Ud a.2.1 e;letI g:=aa .add .i64 e 1;letI h:=(b.1,b.2.1,c.1,c.2.1,c.2.2.1,d.1,d.2.1,g,());letI i:=(b.1,b.2.1,c.1,f.1,f.2.1,f.2.2,true,g,());cond (ak .lss e a.2.2.1) (cond (aZ a.2.1 e) (cond (ak .geq f.2.2 a.1) (cond (Bool.not d.2.1) (some (.inl i)) (cond (ak .lss f.2.2 d.1) (some (.inl i)) (some (.inl h)))) (some (.inl h))) none) (some (.inr (.inl (b.1,b.2.1,c.1,c.2.1,c.2.2.1,d.1,d.2.1,()))))
def QD k x:=iter (QC k) big x
def Tv(a:YbG)(b:Int):YdU:=letI c:=(0:Int);cond (ak .lss b 1) (some (c,c,c,false,())) ((QD (b,a,bw a,()) (c,c,c,c,c,c,false,c,())).bind λd=>Sum.elim (λe=>letI f:=e.2.2.2;some (f.1,f.2.1,f.2.2.1,f.2.2.2.1,())) (λe=>Empty.elim e) d)
def R7(a:Rp)(b:Int):YdU:=(Vm a).bind λc=>(Tv c.1 b).bind λd=>some (d.1,d.2.1,d.2.2.1,d.2.2.2.1,())
def Ji(a:YdM×YdM×Mk)(b:NP):YbE:=letI c:=aa .add .i64 b.1 (bw (ae SP a.2.1 b.2.1));cond (ak .lss b.2.1 a.2.2.1) (cond (aZ a.2.1 b.2.1) (cond (ak .lss c 0) none (some (.inl (c,aa .add .i64 b.2.1 1,())))) none) (some (.inr (.inl (b.1,()))))
def Ju k x:=iter (Ji k) big x
def Jj(a:YdM×Mk)(b:YcE):YdQ:=letI c:=ae SP a.1 b.2.1;cond (ak .lss b.2.1 a.2.1) (cond (aZ a.1 b.2.1) (cond (dF (List.append (α:=Qu) b.1 c)) (some (.inl (List.append (α:=Qu) b.1 c,aa .add .i64 b.2.1 1,()))) none) none) (some (.inr (.inl (b.1,()))))
def Jv k x:=iter (Jj k) big x
def Jm(a:YdM):Option YcG:=(Ju (a,a,bw a,()) (0,0,())).bind λb=>Sum.elim (λc=>cond (lu c.1) ((Jv (a,bw a,()) (([]:Ln),0,())).bind λd=>Sum.elim (λe=>some (e.1,())) (λe=>Empty.elim e) d) none) (λc=>Empty.elim c) b
def OI(a:Int×Ln×YdE)(b:YdB):Option (YdB⊕YdR):=letI c:=b.2.2;letI d:=c.2.2;letI e:=a.2.2.2.2.1;letI f:=d.2.2.1;letI g:=d.2.2.2.1;letI h:=aa .add .i64 g 1;letI i:=(ae Qt f g).2;letI j:=yD e 0 i.2.2.1;letI k:=yD e i.2.2.2 (bw e);cond (ak .lss g a.2.2.2.2.2.1) (cond (aZ f g) (cond (ak .eql i.1 a.1) (cond (mT e (0:Int) i.2.2.1) (cond (mT e i.2.2.2 (bw e)) ((Jm (List.append (α:=Ln) (List.append (α:=Ln) (List.append (α:=Ln) ([]:YdM) [j]) [a.2.1]) [k])).bind λl=>lets (List.append (α:=Ln) (List.append (α:=Ln) (List.append (α:=Ln) ([]:YdM) [j]) [a.2.1]) [k]) λ_=>some (.inl (b.1,b.2.1,c.1,c.2.1,d.1,l.1,f,h,()))) none) none) (some (.inl (b.1,b.2.1,c.1,c.2.1,d.1,d.2.1,f,h,())))) none) (some (.inr (.inl (b.1,b.2.1,c.1,c.2.1,d.1,d.2.1,()))))
def Tu k x:=iter (OI k) big x
def L9(a:Int)(b:Li)(c:Ln)(d:Int)(e:Ln):YdA:=(KH a b c).bind λf=>(Ri a b c).bind λg=>(Tu (d,e,a,b,c,bw g.1,()) (0,([]:Li),([]:Ln),f.1,f.2.1,f.2.2.1,g.1,0,())).bind λh=>Sum.elim (λi=>some (i.2.2.2.1,i.2.2.2.2.1,i.2.2.2.2.2.1,())) (λi=>Empty.elim i) h
def UR(a:Int)(b:Li)(c:Ln)(d e f g h:Int):YdA:=letI i:=(e,h,g,false);letI j:=(aa .add .i64 e h,aa .sub .i64 f h,(0:Int),false);cond (ak .gtr f h) (cond (dF (List.append (α:=Qu) (List.append (α:=Qu) ([]:Ln) [i]) (List.append (α:=Qu) ([]:Ln) [j]))) ((L9 a b c e (List.append (α:=Qu) (List.append (α:=Qu) ([]:Ln) [i]) (List.append (α:=Qu) ([]:Ln) [j]))).bind λk=>lets (List.append (α:=Qu) (List.append (α:=Qu) ([]:Ln) [i]) (List.append (α:=Qu) ([]:Ln) [j])) λ_=>some (k.1,k.2.1,k.2.2.1,())) none) ((L9 a b c e (List.append (α:=Qu) ([]:Ln) [i])).bind λk=>some (k.1,k.2.1,k.2.2.1,()))
def Ou(a:Rp)(b c:Int):Option (Rp×YbL):=(LH a).bind λd=>(R7 a c).bind λe=>(KL a).bind λf=>letI g:=some (d.1,(0:Int),(0:Int),(0:Int),false,());cond (Bool.not f.1) g ((eb b 1 999).bind λh=>cond (Bool.not h.1) g ((LG a b).bind λi=>letI j:=ae br d.1 e.1;cond (ak .geq i.1 0) g (cond (Bool.not e.2.2.2.1) g (cond (aZ d.1 e.1) ((UR j.1 j.2.1 j.2.2 e.1 e.2.1 e.2.2.1 b c).bind λk=>cond (aZ d.1 e.1) (some (cS d.1 e.1 (k.1,k.2.1,k.2.2.1),e.1,e.2.1,c,true,())) none) none))))
def L8(a b:Int)(c d e:Bool)(f:Int):YbB:=(Gn a b c d e).bind λg=>letI h:=some (a,b,c,d,e,false,());letI i:=some (f,(1:Int),c,d,e,true,());letI j:=cond (ak .eql f 2) (cond (Bool.not e) h i) h;cond (Bool.not g.1) h (cond (ak .neq a 0) h (cond (ak .eql f 1) (cond (Bool.not e) i j) j))
def LI(a:Rp)(b:Int):Kg:=(LG a b).bind λc=>letI d:=ae br a c.1;cond (ak .geq c.1 0) (cond (aZ a c.1) (cond (aZ a c.1) ((P5 d.1 d.2.1 d.2.2 b).bind λe=>cond (aZ d.2.2 e.1) (some ((ae gI d.2.2 e.1).2.2.2,())) none) none) none) (some (false,()))
def OH(a:Int):Kg:=(eb a 0 1000000).bind λb=>some (b.1,())
def Ts(a:Unit)(b:NP):YbE:=cond (ak .lss b.2.1 3) (cond (eE 2147483647) none (some (.inl (aa .rem .i64 (aa .mul .i64 48271 b.1) 2147483647,aa .add .i64 b.2.1 1,())))) (some (.inr (.inl (b.1,()))))
def Ow k x:=iter (Ts k) big x
def Xj(a:Unit)(b:YbK):YdS:=cond (ak .lss (ByteArray.size b.1:Int) 6) (cond (lz (ByteArray.mk #[48]) b.1) (some (.inl (ByteArray.append (ByteArray.mk #[48]) b.1,()))) none) (some (.inr (.inl (b.1,()))))
def Tt k x:=iter (Xj k) big x
def UL(a b:Int):YdH:=(Jt a).bind λc=>cond (Bool.not c.1) (some (ByteArray.mk #[],())) ((OH b).bind λd=>cond (Bool.not d.1) (some (ByteArray.mk #[],())) (cond (eE 2147483647) none ((Ow () (aa .rem .i64 (aa .add .i64 a (aa .mul .i64 65537 b)) 2147483647,0,())).bind λe=>Sum.elim (λf=>cond (eE 1000000) none ((Ku (aa .rem .i64 f.1 1000000)).bind λg=>(Tt () (g.1,())).bind λh=>Sum.elim (λi=>some (i.1,())) (λi=>Empty.elim i) h)) (λf=>Empty.elim f) e)))
def Rt(a:ByteArray×YbN)(b:Mk):YaY:=cond (ak .lss b.1 (aa .add .i64 a.2.2.1 5)) ((OH b.1).bind λc=>cond c.1 ((UL a.2.1 b.1).bind λd=>cond (wW .eql d.1 a.1) (some (.inr (.inl (b.1,())))) (some (.inl (aa .add .i64 b.1 1,())))) (some (.inr (.inr (.inl ()))))) (some (.inr (.inr (.inl ()))))
def Ru k x:=iter (Rt k) big x
def Sa(a b c d e:Int)(f:ByteArray):PN:=(Kl a b c d e).bind λg=>letI h:=some ((-1:Int),());cond (Bool.not g.1) h ((Ru (f,a,b,c,d,e,()) (b,())).bind λi=>Sum.elim (λj=>some (j.1,())) (λj=>Sum.elim (λ_=>h) (λk=>Empty.elim k) j) i)
def Yx(a b c d e:Int)(f:ByteArray):PN:=(Sa a b c d e f).bind λg=>cond (ak .lss g.1 0) (some (-1,())) (some (aa .add .i64 g.1 1,()))
def Lo(a b c d e f g h i j k:Int)(l:ByteArray):YcT:=(Kl a b c d e).bind λm=>letI n:=some (a,b,c,d,e,(4:Int),());cond (Bool.not m.1) n ((Je f).bind λo=>cond (Bool.not o.1) n (cond (ak .lss f e) (some (a,b,c,d,e,1,())) ((Yx g h i j k l).bind λp=>cond (ak .geq p.1 0) (some (a,p.1,0,0,e,0,())) (cond (ak .lss c 2) (some (a,b,aa .add .i64 c 1,d,e,2,())) (cond (sG d) none (some (a,b,0,nS false (6:Int) (aa .add .i64 d 1),aa .add .i64 f (ej .shl .i64 1 d),3,())))))))
def Y9(a b c d e:Int)(f:ByteArray)(g:Int):YcT:=(Lo a b c d e g a b c d e f).bind λh=>some (h.1,h.2.1,h.2.2.1,h.2.2.2.1,h.2.2.2.2.1,h.2.2.2.2.2.1,())
def ee(a b c d e f g h i j k:Int)(l:Lj)(m:KT)(n:JX)(o:JH)(p q r s:Int)(t:ByteArray)(u v w x y z:Int)(A:Bool):YdK:=(eb q 1 (bw m)).bind λB=>letI C:=(0:Int);letI D:=ak .eql p 2;letI E:=ak .eql p 3;letI F:=aa .sub .i64 q 1;letI G:=ae aS m F;letI H:=G.2.2;letI I:=G.2.1;letI J:=H.1;letI K:=H.2.2;letI L:=H.2.1;letI M:=K.2.1;letI N:=aZ l J;letI O:=K.2.2.2;letI P:=K.2.2.1;letI Q:=(ae ax l J).2;letI R:=(ae ax l J).1;letI S:=Q.2;letI T:=some ((3:Int),a,b,c,d,e,f,g,h,i,j,k,l,m,n,o,());letI U:=some ((5:Int),a,b,c,d,e,f,g,h,i,j,k,l,m,n,o,());letI V:=O.2.2.2;letI W:=some ((8:Int),a,b,c,d,e,f,g,h,i,j,k,l,m,n,o,());letI X:=some ((6:Int),a,b,c,d,e,f,g,h,i,j,k,l,m,n,o,());letI Y:=O.2.2.1;letI Z:=S.2.2;letI a0:=V.2;letI a1:=Z.2.2;letI a2:=a1.2.2;letI a3:=cond D ((Rh a b c d e f g h i j k l m n o).bind λa3=>cond (ak .gtr (aa .add .i64 G.1 a3.1) i) W (lets (cS m F (G.1,I,J,1,K.1,M,P,O.1,O.2.1,Y,V.1,a0.1,a0.2)) λa4=>some (C,a,b,c,d,e,f,g,h,i,j,k,l,a4,n,o,()))) (cond (ak .eql p 12) ((Oz n I r q k).bind λa3=>cond (Bool.not a3.1) X ((Ov R Q.1 a b c d e f g h K.1 k M).bind λa4=>cond (Bool.not a4.1) U ((Ko a b c d e f g h i j k l m n o).bind λa5=>letI a6:=some ((10:Int),a,b,c,d,e,f,g,h,i,j,k,l,m,n,o,());cond (Bool.not a5.2.1) a6 (cond (ak .geq (bw a5.1) 60) a6 (cond N ((KU a2.2.2 J 2 q C C).bind λa7=>cond N (lets (cS l J (R,Q.1,S.1,S.2.1,Z.1,Z.2.1,a1.1,a1.2.1,a2.1,a2.2.1,a7.1)) λa8=>cond (Bool.not a7.2.1) (some ((10:Int),a,b,c,d,e,f,g,h,i,j,k,a8,m,n,o,())) (lets (cS m F (G.1,I,J,L,K.1,aa .add .i64 M 1,P,O.1,O.2.1,Y,V.1,a0.1,a0.2)) λa9=>some (C,a,b,c,d,e,f,g,h,i,j,k,a8,a9,n,o,()))) none) none))))) (cond (ak .neq a2.1 C) (some ((4:Int),a,b,c,d,e,f,g,h,i,j,k,l,m,n,o,())) ((UM R Q.1 k).bind λa3=>letI a4:=ak .eql p 4;letI a5:=cS m F (G.1,I,J,2,K.1,M,P,O.1,O.2.1,Y,V.1,a0.1,a0.2);letI a6:=(LI S.1 q).bind λa6=>letI a7:=L8 C C false false true 2;letI a8:=cS l J (R,Q.1,S.1,S.2.1,Z.1,Z.2.1,a1.1,a1.2.1,q,a2.2.1,a2.2.2);cond a6.1 (some ((7:Int),a,b,c,d,e,f,g,h,i,j,k,l,m,n,o,())) (cond a4 ((Y9 P O.1 O.2.1 Y V.1 t k).bind λa9=>lets (cS m F (G.1,I,J,L,K.1,M,a9.1,a9.2.1,a9.2.2.1,a9.2.2.2.1,a9.2.2.2.2.1,a0.1,a0.2)) λb0=>letI b1:=ae aS b0 F;letI b2:=b1.2.2.2.2;letI b3:=b2.2.2.2.2;cond (ak .neq a9.2.2.2.2.2.1 C) (some ((9:Int),a,b,c,d,e,f,g,h,i,j,k,l,b0,n,o,())) (lets (cS b0 F (b1.1,b1.2.1,b1.2.2.1,2,b2.1,b2.2.1,b2.2.2.1,b2.2.2.2.1,b3.1,b3.2.1,b3.2.2.1,b3.2.2.2.1,b3.2.2.2.2)) λb4=>lets a8 λb5=>letI b6:=ae ax b5 J;letI b7:=b6.2.2;letI b8:=b7.2.2.2.2;lets (cS b5 J (b6.1,b6.2.1,b7.1,b7.2.1,b7.2.2.1,b7.2.2.2.1,b8.1,b8.2.1,b8.2.2.1,r,b8.2.2.2.2)) λb9=>a7.bind λc0=>letI c1:=ae ax b9 J;letI c2:=c1.2.2.2.2.2.2.2.2;lets (cS b9 J (c1.1,c1.2.1,c1.2.2.1,c0.1,c0.2.1,c0.2.2.1,c0.2.2.2.1,c0.2.2.2.2.1,c2.1,c2.2.1,c2.2.2)) λc3=>some (C,a,b,c,d,e,f,g,h,i,j,k,c3,b4,n,o,()))) (lets a5 λa9=>lets a8 λb0=>letI b1:=ae ax b0 J;letI b2:=b1.2.2;letI b3:=b2.2.2.2.2;lets (cS b0 J (b1.1,b1.2.1,b2.1,b2.2.1,b2.2.2.1,b2.2.2.2.1,b3.1,b3.2.1,b3.2.2.1,C,b3.2.2.2.2)) λb4=>a7.bind λb5=>letI b6:=ae ax b4 J;letI b7:=b6.2.2.2.2.2.2.2.2;lets (cS b4 J (b6.1,b6.2.1,b6.2.2.1,b5.1,b5.2.1,b5.2.2.1,b5.2.2.2.1,b5.2.2.2.2.1,b7.1,b7.2.1,b7.2.2)) λb8=>some (C,a,b,c,d,e,f,g,h,i,j,k,b8,a9,n,o,())));letI a7:=cond E ((Ou S.1 q G.1).bind λa7=>cond (Bool.not a7.2.2.2.2.1) W (lets (cS l J (R,Q.1,a7.1,S.2.1,Z.1,Z.2.1,a1.1,a1.2.1,a2.1,a2.2.1,a2.2.2)) λa8=>lets a5 λa9=>letI b0:=ae ax a8 J;letI b1:=b0.2.2;letI b2:=b1.2.2.2.2;lets (cS a8 J (b0.1,b0.2.1,b1.1,b1.2.1,b1.2.2.1,b1.2.2.2.1,b2.1,b2.2.1,q,b2.2.2.2.1,b2.2.2.2.2)) λb3=>letI b4:=ae ax b3 J;letI b5:=b4.2.2;letI b6:=b5.2.2.2.2;lets (cS b3 J (b4.1,b4.2.1,b5.1,b5.2.1,b5.2.2.1,b5.2.2.2.1,b6.1,b6.2.1,b6.2.2.1,C,b6.2.2.2.2)) λb7=>(L8 C C false false false 1).bind λb8=>letI b9:=ae ax b7 J;letI c0:=b9.2.2.2.2.2.2.2.2;lets (cS b7 J (b9.1,b9.2.1,b9.2.2.1,b8.1,b8.2.1,b8.2.2.1,b8.2.2.2.1,b8.2.2.2.2.1,c0.1,c0.2.1,c0.2.2)) λc1=>some (C,a,b,c,d,e,f,g,h,i,j,k,c1,a9,n,o,()))) (cond a4 ((Oz n I r q k).bind λa7=>cond (Bool.not a7.1) X a6) a6);cond (Bool.not a3.1) U (cond (ak .eql p 5) ((OE R Q.1 a b c d e f g h K.1 k M).bind λa8=>cond (Bool.not a8.1) U a7) a7))));cond (Bool.not B.1) (some (2,a,b,c,d,e,f,g,h,i,j,k,l,m,n,o,())) (cond (aZ m F) (cond N (cond D (cond (ak .neq L C) T a3) (cond E (cond (ak .neq L 1) T a3) (cond (ak .neq L 3) T a3))) none) none)
def Se(a b:Int)(c d e:Bool):PN:=letI f:=some ((0:Int),());cond (ak .eql a 0) f ((Gn a b c d e).bind λg=>cond (Bool.not g.1) f (cond d (some (2,())) ((UQ a b c d e).bind λh=>cond h.1 (some (3,())) (some (4,())))))
def R6(a b:Int)(c d e:Bool):YbB:=(Gn a b c d e).bind λf=>letI g:=aa .add .i64 b 1;letI h:=some (a,b,c,d,e,false,());cond (Bool.not f.1) h (cond (ak .eql b 0) h (cond (ak .eql b 1) (some (a,g,true,d,e,true,())) (cond (ak .eql b 2) (some (a,g,c,true,e,true,())) (cond (ak .eql b 3) (some (a,g,c,d,Bool.not e,true,())) (cond (ak .eql b 4) (some (a,g,c,false,e,true,())) (cond (ak .eql b 5) (some (a,g,false,d,e,true,())) (cond (ak .eql b 6) (some (0,0,c,d,e,true,())) (some (a,g,c,d,e,true,())))))))))
def UP(a b:Int)(c d e:Bool):YbB:=(Gn a b c d e).bind λf=>letI g:=some (a,b,c,d,e,false,());cond (Bool.not f.1) g (cond (ak .eql b 4) (some (a,3,c,d,Bool.not e,true,())) (cond (ak .eql b 3) (some (a,5,c,false,e,true,())) (cond (ak .eql b 2) (some (a,5,c,d,e,true,())) g)))
def Qv(a b:Int)(c d e:Bool):YcY:=(Gn a b c d e).bind λf=>cond f.1 (some (a,0,c,d,e,())) (some (a,b,c,d,e,()))
def P6(a b:Int)(c d e:Bool):Kg:=(Gn a b c d e).bind λf=>letI g:=some (false,());cond f.1 (cond (ak .neq a 0) (some (ak .eql b 0,())) g) g
def XO(a b:Int)(c d e:Bool)(f:Int):YbB:=(P6 a b c d e).bind λg=>letI h:=some (a,b,c,d,e,false,());letI i:=cond (ak .eql f 3) (cond d (some (a,b,c,false,e,true,())) h) h;letI j:=cond (ak .eql f 2) (cond d (some (a,b,c,d,Bool.not e,true,())) i) i;cond (Bool.not g.1) h (cond (ak .eql f 1) (cond c (cond (Bool.not d) (some (a,b,c,true,e,true,())) j) j) j)
def Qw(a b c d:Int):Kg:=(eb a 0 2).bind λe=>letI f:=some (false,());cond e.1 ((eb b 0 2).bind λg=>cond g.1 ((eb c 0 2).bind λh=>cond h.1 ((eb d 0 2).bind λi=>some (i.1,())) f) f) f
def Kw(a:Int)(b:Bool):Kg:=cond (ak .eql a 2) (some (true,())) (cond (ak .eql a 0) (some (b,())) (some (false,())))
def Sc(a b:Int)(c d e:Bool)(f g h i:Int):YdZ:=(Gn a b c d e).bind λj=>letI k:=some (false,false,false,false,false,());cond (Bool.not j.1) k ((Qw f g h i).bind λl=>cond (Bool.not l.1) k ((Kw f (Bool.not d)).bind λm=>(Kw g (Bool.not d)).bind λn=>(Kw h e).bind λo=>(Kw i e).bind λp=>some (m.1,n.1,o.1,p.1,true,())))
def Ki(a:Mk)(b:Int×YcJ):Option (Int×YcJ⊕YdO):=letI c:=b.2.2.1;letI d:=aa .add .i64 c 1;cond (ak .lss c a.1) (cond (aZ b.2.1 c) (cond (ak .neq (ae zI b.2.1 c) 0) (some (.inl (aa .add .i64 b.1 1,b.2.1,d,()))) (some (.inl (b.1,b.2.1,d,())))) none) (some (.inr (.inl (b.1,()))))
def Na k x:=iter (Ki k) big x
def Mo(a b c d:Int):PN:=(Na (bw (List.append (α:=Int) (List.append (α:=Int) (List.append (α:=Int) (List.append (α:=Int) ([]:Li) [a]) [b]) [c]) [d]),()) (0,List.append (α:=Int) (List.append (α:=Int) (List.append (α:=Int) (List.append (α:=Int) ([]:Li) [a]) [b]) [c]) [d],0,())).bind λe=>Sum.elim (λf=>some (f.1,())) (λf=>Empty.elim f) e
def Sf(a:Int)(b c d e:Bool):PN:=letI f:=some ((1:Int),());letI g:=cond (Bool.not (pI b c)) f (cond (Bool.not b) (some ((2:Int),())) (cond (Bool.not (pI d e)) f (cond (pI d (ak .eql a 1)) (some ((3:Int),())) (some ((4:Int),())))));cond (ak .neq a 1) (cond (ak .neq a 2) (some (0,())) g) g
def KN(a b:Int)(c d e:Bool)(f g h i:Int):YbM:=(Sc a b c d e f g h i).bind λj=>letI k:=some (a,b,c,d,e,(0:Int),false,());cond (Bool.not j.2.2.2.2.1) k ((P6 a b c d e).bind λl=>cond (Bool.not l.1) k ((Mo f g h i).bind λm=>cond (ak .gtr m.1 1) k ((Sf a j.1 j.2.1 j.2.2.1 j.2.2.2.1).bind λn=>letI o:=some ((0:Int),b,false,d,e,n.1,true,());cond (ak .eql n.1 3) o (cond (ak .eql n.1 4) o (some (a,b,c,d,e,n.1,true,()))))))
def R9(a b:Int)(c d e:Bool):YbM:=(P6 a b c d e).bind λf=>cond (Bool.not f.1) (some (a,b,c,d,e,0,false,())) ((UQ a b c d e).bind λg=>cond g.1 (some (0,b,false,false,e,3,true,())) (some (0,b,false,false,e,4,true,())))
def Sb(a:Int):Option YdD:=letI b:=(0:Int);(Kl a b b b b).bind λc=>cond (Bool.not c.1) (some (b,b,b,b,b,false,())) (some (a,b,b,b,b,true,()))
def Sd(a:Int)(b:Li)(c:Ln)(d:Int):YdP:=(KH a b c).bind λe=>(P5 a b c d).bind λf=>(LD a b c).bind λg=>letI h:=e.2.2.1;letI i:=ae gI h f.1;letI j:=some (e.1,e.2.1,h,false,());cond (Bool.not g.1) j (cond (ak .lss d 1) j (cond (ak .lss f.1 0) j (cond (aZ c f.1) (cond (ae gI c f.1).2.2.2 j (cond (aZ h f.1) (some (e.1,e.2.1,cS h f.1 (i.1,i.2.1,0,i.2.2.2),true,())) none)) none)))
def Ns(a:Rp)(b:Int):Option (Rp×YaU):=(LH a).bind λc=>(LG a b).bind λd=>(KL a).bind λe=>letI f:=ae br a d.1;letI g:=some (c.1,false,());cond (Bool.not e.1) g (cond (ak .lss d.1 0) g (cond (aZ a d.1) ((Sd f.1 f.2.1 f.2.2 b).bind λh=>cond (aZ c.1 d.1) (some (cS c.1 d.1 (h.1,h.2.1,h.2.2.1),h.2.2.2.1,())) none) none))
def Jk(a b c d e f g h i j k:Int)(l:Lj)(m:KT)(n:JX)(o:JH)(p q r:Int):Option (Bool×YaK):=letI s:=(0:Int);letI t:=aZ l p;letI u:=ae ax l p;letI v:=ak .eql q 1;letI w:=ak .eql r 3;letI x:=u.2.2;letI y:=x.2.2;letI z:=y.2.2;letI A:=z.2.2;letI B:=A.1;letI C:=A.2.1;letI D:=aa .sub .i64 B 1;letI E:=ae aS m D;letI F:=E.2.2.1;letI G:=E.2.2.2.2;letI H:=G.2.2;letI I:=H.2.2;letI J:=I.2.2;letI K:=J.2;letI L:=cS l p (u.1,u.2.1,x.1,x.2.1,y.1,y.2.1,z.1,z.2.1,s,C,A.2.2);letI M:=cS m D (E.1,E.2.1,F,3,G.1,G.2.1,H.1,H.2.1,I.1,I.2.1,J.1,K.1,K.2);letI N:=cond v (lets (cS m D (E.1,E.2.1,F,1,G.1,G.2.1,H.1,H.2.1,I.1,I.2.1,J.1,K.1,K.2)) λN=>(Ns x.1 B).bind λO=>lets (cS l p (u.1,u.2.1,O.1,x.2.1,y.1,y.2.1,z.1,z.2.1,B,C,A.2.2)) λP=>letI Q:=ae ax P p;letI R:=Q.2.2;letI S:=R.2.2.2.2;lets (cS P p (Q.1,Q.2.1,R.1,R.2.1,R.2.2.1,R.2.2.2.1,S.1,S.2.1,s,S.2.2.2.1,S.2.2.2.2)) λT=>letI U:=ae ax T p;letI V:=U.2.2;letI W:=V.2.2.2.2;lets (cS T p (U.1,U.2.1,V.1,V.2.1,V.2.2.1,V.2.2.2.1,W.1,W.2.1,W.2.2.1,s,W.2.2.2.2)) λX=>letI Y:=ae ax X p;letI Z:=Y.2.2.2.2.2.2.2.2;lets (cS X p (Y.1,Y.2.1,Y.2.2.1,s,s,false,false,false,Z.1,Z.2.1,Z.2.2)) λa0=>some (true,a,b,c,d,e,f,g,h,i,j,k,a0,N,n,o,())) (cond w ((Ns x.1 B).bind λN=>lets (cS l p (u.1,u.2.1,N.1,x.2.1,y.1,y.2.1,z.1,z.2.1,B,C,A.2.2)) λO=>letI P:=aZ O p;letI Q:=ae ax O p;letI R:=Q.2;letI S:=R.2.2;letI T:=S.2.2;letI U:=T.2.2;letI V:=U.2.2;letI W:=cS O p (Q.1,R.1,R.2.1,S.1,S.2.1,T.1,T.2.1,U.1,s,V.1,V.2);cond (ak .eql C s) (lets (cS m D (E.1,E.2.1,F,5,G.1,G.2.1,H.1,H.2.1,I.1,I.2.1,J.1,K.1,K.2)) λX=>(Ko a b c d e f g h i j k O X n o).bind λY=>letI Z:=lets W λZ=>letI a0:=ae ax Z p;letI a1:=a0.2.2;letI a2:=a1.2.2.2.2;lets (cS Z p (a0.1,a0.2.1,a1.1,a1.2.1,a1.2.2.1,a1.2.2.2.1,a2.1,a2.2.1,a2.2.2.1,s,a2.2.2.2.2)) λa3=>letI a4:=ae ax a3 p;letI a5:=a4.2.2.2.2.2.2.2.2;lets (cS a3 p (a4.1,a4.2.1,a4.2.2.1,s,s,false,false,false,a5.1,a5.2.1,a5.2.2)) λa6=>some (false,a,b,c,d,e,f,g,h,i,j,k,a6,X,n,o,());cond (Bool.not Y.2.1) Z (cond (ak .geq (bw Y.1) 60) Z (cond P ((KU V.2 p 4 B s k).bind λa0=>cond P (lets (cS O p (Q.1,R.1,R.2.1,S.1,S.2.1,T.1,T.2.1,U.1,U.2.1,V.1,a0.1)) λa1=>letI a2:=ae ax a1 p;letI a3:=a2.2.2;letI a4:=a3.2.2.2.2;lets (cS a1 p (a2.1,a2.2.1,a3.1,a3.2.1,a3.2.2.1,a3.2.2.2.1,a4.1,a4.2.1,s,a4.2.2.2.1,a4.2.2.2.2)) λa5=>letI a6:=ae ax a5 p;letI a7:=a6.2.2;letI a8:=a7.2.2.2.2;lets (cS a5 p (a6.1,a6.2.1,a7.1,a7.2.1,a7.2.2.1,a7.2.2.2.1,a8.1,a8.2.1,a8.2.2.1,s,a8.2.2.2.2)) λa9=>letI b0:=ae ax a9 p;letI b1:=b0.2.2.2.2.2.2.2.2;lets (cS a9 p (b0.1,b0.2.1,b0.2.2.1,s,s,false,false,false,b1.1,b1.2.1,b1.2.2)) λb2=>some (a0.2.1,a,b,c,d,e,f,g,h,i,j,k,b2,X,n,o,())) none) none))) (lets (cS m D (E.1,E.2.1,F,4,G.1,G.2.1,H.1,H.2.1,I.1,I.2.1,J.1,K.1,K.2)) λX=>letI Y:=ae aS X D;letI Z:=Y.2.2.2;letI a0:=Z.2.2.2.2;lets (cS X D (Y.1,Y.2.1,Y.2.2.1,Z.1,Z.2.1,Z.2.2.1,Z.2.2.2.1,a0.1,a0.2.1,a0.2.2.1,a0.2.2.2.1,C,a0.2.2.2.2.2)) λa1=>letI a2:=ae aS a1 D;letI a3:=a2.2.2.2.2;(V2 Q.1 R.1 a b c d e f g h a2.1 a3.1 k a3.2.1).bind λa4=>letI a5:=a3.2.2.2.2;lets (cS a1 D (a2.1,a2.2.1,a2.2.2.1,a2.2.2.2.1,a3.1,a3.2.1,a3.2.2.1,a3.2.2.2.1,a5.1,a5.2.1,a5.2.2.1,a5.2.2.2.1,a4.1)) λa6=>(Ko a b c d e f g h i j k O a6 n o).bind λa7=>letI a8:=lets W λa8=>letI a9:=ae ax a8 p;letI b0:=a9.2.2;letI b1:=b0.2.2.2.2;lets (cS a8 p (a9.1,a9.2.1,b0.1,b0.2.1,b0.2.2.1,b0.2.2.2.1,b1.1,b1.2.1,b1.2.2.1,s,b1.2.2.2.2)) λb2=>letI b3:=ae ax b2 p;letI b4:=b3.2.2.2.2.2.2.2.2;lets (cS b2 p (b3.1,b3.2.1,b3.2.2.1,s,s,false,false,false,b4.1,b4.2.1,b4.2.2)) λb5=>some (false,a,b,c,d,e,f,g,h,i,j,k,b5,a6,n,o,());cond (Bool.not a7.2.1) a8 (cond (ak .geq (bw a7.1) 60) a8 (cond P ((KU V.2 p 3 B C k).bind λa9=>cond P (lets (cS O p (Q.1,R.1,R.2.1,S.1,S.2.1,T.1,T.2.1,U.1,U.2.1,V.1,a9.1)) λb0=>letI b1:=ae ax b0 p;letI b2:=b1.2.2;letI b3:=b2.2.2.2.2;lets (cS b0 p (b1.1,b1.2.1,b2.1,b2.2.1,b2.2.2.1,b2.2.2.2.1,b3.1,b3.2.1,s,b3.2.2.2.1,b3.2.2.2.2)) λb4=>letI b5:=ae ax b4 p;letI b6:=b5.2.2;letI b7:=b6.2.2.2.2;lets (cS b4 p (b5.1,b5.2.1,b6.1,b6.2.1,b6.2.2.1,b6.2.2.2.1,b7.1,b7.2.1,b7.2.2.1,s,b7.2.2.2.2)) λb8=>letI b9:=ae ax b8 p;letI c0:=b9.2.2.2.2.2.2.2.2;lets (cS b8 p (b9.1,b9.2.1,b9.2.2.1,s,s,false,false,false,c0.1,c0.2.1,c0.2.2)) λc1=>some (a9.2.1,a,b,c,d,e,f,g,h,i,j,k,c1,a6,n,o,())) none) none)))) (lets M λN=>lets L λO=>letI P:=ae ax O p;letI Q:=P.2.2;letI R:=Q.2.2.2.2;lets (cS O p (P.1,P.2.1,Q.1,Q.2.1,Q.2.2.1,Q.2.2.2.1,R.1,R.2.1,R.2.2.1,s,R.2.2.2.2)) λS=>letI T:=ae ax S p;letI U:=T.2.2.2.2.2.2.2.2;lets (cS S p (T.1,T.2.1,T.2.2.1,s,s,false,false,false,U.1,U.2.1,U.2.2)) λV=>some (true,a,b,c,d,e,f,g,h,i,j,k,V,N,n,o,())));cond t (cond (aZ m D) (cond v (cond w (lets M λO=>letI P:=ae aS O D;letI Q:=P.2.2.2.2.2;letI R:=Q.2.2.2.2;lets (cS O D (P.1,P.2.1,P.2.2.1,P.2.2.2.1,k,Q.1,Q.2.1,Q.2.2.1,Q.2.2.2.1,R.1,R.2.1,R.2.2.1,R.2.2.2)) λS=>(Km a b c d e f g h i j k l S n o B).bind λT=>(Sb T.1).bind λU=>letI V:=(ae aS S D).2;letI W:=V.2.2.2.2.2.2.2.2.2.2;lets (cS S D ((ae aS S D).1,V.1,V.2.1,V.2.2.1,V.2.2.2.1,V.2.2.2.2.1,U.1,U.2.1,U.2.2.1,U.2.2.2.1,U.2.2.2.2.1,W.1,W.2)) λX=>(Ko a b c d e f g h i j k l X n o).bind λY=>letI Z:=lets L λZ=>letI a0:=ae ax Z p;letI a1:=a0.2.2;letI a2:=a1.2.2.2.2;lets (cS Z p (a0.1,a0.2.1,a1.1,a1.2.1,a1.2.2.1,a1.2.2.2.1,a2.1,a2.2.1,a2.2.2.1,s,a2.2.2.2.2)) λa3=>letI a4:=ae ax a3 p;letI a5:=a4.2.2.2.2.2.2.2.2;lets (cS a3 p (a4.1,a4.2.1,a4.2.2.1,s,s,false,false,false,a5.1,a5.2.1,a5.2.2)) λa6=>some (false,a,b,c,d,e,f,g,h,i,j,k,a6,X,n,o,());cond (Bool.not Y.2.1) Z (cond (ak .geq (bw Y.1) 60) Z (cond t ((KU A.2.2 p 1 B p k).bind λa0=>cond t (lets (cS l p (u.1,u.2.1,x.1,x.2.1,y.1,y.2.1,z.1,z.2.1,B,C,a0.1)) λa1=>letI a2:=ae ax a1 p;letI a3:=a2.2.2;letI a4:=a3.2.2.2.2;lets (cS a1 p (a2.1,a2.2.1,a3.1,a3.2.1,a3.2.2.1,a3.2.2.2.1,a4.1,a4.2.1,s,a4.2.2.2.1,a4.2.2.2.2)) λa5=>letI a6:=ae ax a5 p;letI a7:=a6.2.2;letI a8:=a7.2.2.2.2;lets (cS a5 p (a6.1,a6.2.1,a7.1,a7.2.1,a7.2.2.1,a7.2.2.2.1,a8.1,a8.2.1,a8.2.2.1,s,a8.2.2.2.2)) λa9=>letI b0:=ae ax a9 p;letI b1:=b0.2.2.2.2.2.2.2.2;lets (cS a9 p (b0.1,b0.2.1,b0.2.2.1,s,s,false,false,false,b1.1,b1.2.1,b1.2.2)) λb2=>some (a0.2.1,a,b,c,d,e,f,g,h,i,j,k,b2,X,n,o,())) none) none))) N) N) none) none
def qB(a b c d e f g h i j k:Int)(l:Lj)(m:KT)(n:JX)(o:JH)(p q r s:Int)(t:ByteArray)(u v w x y z:Int)(A:Bool):YdK:=letI B:=(0:Int);(eb q B (aa .sub .i64 (bw l) 1)).bind λC=>letI D:=ae ax l q;letI E:=D.2.2.2;letI F:=E.1;letI G:=E.2.2;letI H:=E.2.1;letI I:=G.1;letI J:=G.2.2;letI K:=G.2.1;letI L:=J.1;cond (Bool.not C.1) (some (2,a,b,c,d,e,f,g,h,i,j,k,l,m,n,o,())) (cond (aZ l q) ((Se F H I K L).bind λM=>letI N:=(10:Int);letI O:=(3:Int);letI P:=D.1;letI Q:=D.2.1;letI R:=D.2.2.1;letI S:=J.2.2;letI T:=J.2.1;letI U:=S.1;letI V:=S.2;letI W:=cond (ak .eql r 1) ((KN F H I K L s B B B).bind λW=>letI X:=W.2.2.2;lets (cS l q (P,Q,R,W.1,W.2.1,W.2.2.1,X.1,X.2.1,T,U,V)) λY=>cond (Bool.not X.2.2.2.1) (some (O,a,b,c,d,e,f,g,h,i,j,k,Y,m,n,o,())) (cond (ak .eql (ae ax Y q).2.2.2.1 B) ((Jk a b c d e f g h i j k Y m n o q F X.2.2.1).bind λZ=>letI a0:=Z.2.2;letI a1:=a0.2.2;letI a2:=a1.2.2;letI a3:=a2.2.2;letI a4:=a3.2.2;letI a5:=a4.2.2;cond (Bool.not Z.1) (some (N,Z.2.1,a0.1,a0.2.1,a1.1,a1.2.1,a2.1,a2.2.1,a3.1,a3.2.1,a4.1,a4.2.1,a5.1,a5.2.1,a5.2.2.1,a5.2.2.2.1,())) (some (B,Z.2.1,a0.1,a0.2.1,a1.1,a1.2.1,a2.1,a2.2.1,a3.1,a3.2.1,a4.1,a4.2.1,a5.1,a5.2.1,a5.2.2.1,a5.2.2.2.1,()))) (some (B,a,b,c,d,e,f,g,h,i,j,k,Y,m,n,o,())))) (cond (ak .eql r 2) ((KN F H I K L B s B B).bind λW=>letI X:=W.2.2.2;lets (cS l q (P,Q,R,W.1,W.2.1,W.2.2.1,X.1,X.2.1,T,U,V)) λY=>cond (Bool.not X.2.2.2.1) (some (O,a,b,c,d,e,f,g,h,i,j,k,Y,m,n,o,())) (cond (ak .eql (ae ax Y q).2.2.2.1 B) ((Jk a b c d e f g h i j k Y m n o q F X.2.2.1).bind λZ=>letI a0:=Z.2.2;letI a1:=a0.2.2;letI a2:=a1.2.2;letI a3:=a2.2.2;letI a4:=a3.2.2;letI a5:=a4.2.2;cond (Bool.not Z.1) (some (N,Z.2.1,a0.1,a0.2.1,a1.1,a1.2.1,a2.1,a2.2.1,a3.1,a3.2.1,a4.1,a4.2.1,a5.1,a5.2.1,a5.2.2.1,a5.2.2.2.1,())) (some (B,Z.2.1,a0.1,a0.2.1,a1.1,a1.2.1,a2.1,a2.2.1,a3.1,a3.2.1,a4.1,a4.2.1,a5.1,a5.2.1,a5.2.2.1,a5.2.2.2.1,()))) (some (B,a,b,c,d,e,f,g,h,i,j,k,Y,m,n,o,())))) (cond (ak .eql r O) ((KN F H I K L B B s B).bind λW=>letI X:=W.2.2.2;lets (cS l q (P,Q,R,W.1,W.2.1,W.2.2.1,X.1,X.2.1,T,U,V)) λY=>cond (Bool.not X.2.2.2.1) (some (O,a,b,c,d,e,f,g,h,i,j,k,Y,m,n,o,())) (cond (ak .eql (ae ax Y q).2.2.2.1 B) ((Jk a b c d e f g h i j k Y m n o q F X.2.2.1).bind λZ=>letI a0:=Z.2.2;letI a1:=a0.2.2;letI a2:=a1.2.2;letI a3:=a2.2.2;letI a4:=a3.2.2;letI a5:=a4.2.2;cond (Bool.not Z.1) (some (N,Z.2.1,a0.1,a0.2.1,a1.1,a1.2.1,a2.1,a2.2.1,a3.1,a3.2.1,a4.1,a4.2.1,a5.1,a5.2.1,a5.2.2.1,a5.2.2.2.1,())) (some (B,Z.2.1,a0.1,a0.2.1,a1.1,a1.2.1,a2.1,a2.2.1,a3.1,a3.2.1,a4.1,a4.2.1,a5.1,a5.2.1,a5.2.2.1,a5.2.2.2.1,()))) (some (B,a,b,c,d,e,f,g,h,i,j,k,Y,m,n,o,())))) (cond (ak .eql r 4) ((KN F H I K L B B B s).bind λW=>letI X:=W.2.2.2;lets (cS l q (P,Q,R,W.1,W.2.1,W.2.2.1,X.1,X.2.1,T,U,V)) λY=>cond (Bool.not X.2.2.2.1) (some (O,a,b,c,d,e,f,g,h,i,j,k,Y,m,n,o,())) (cond (ak .eql (ae ax Y q).2.2.2.1 B) ((Jk a b c d e f g h i j k Y m n o q F X.2.2.1).bind λZ=>letI a0:=Z.2.2;letI a1:=a0.2.2;letI a2:=a1.2.2;letI a3:=a2.2.2;letI a4:=a3.2.2;letI a5:=a4.2.2;cond (Bool.not Z.1) (some (N,Z.2.1,a0.1,a0.2.1,a1.1,a1.2.1,a2.1,a2.2.1,a3.1,a3.2.1,a4.1,a4.2.1,a5.1,a5.2.1,a5.2.2.1,a5.2.2.2.1,())) (some (B,Z.2.1,a0.1,a0.2.1,a1.1,a1.2.1,a2.1,a2.2.1,a3.1,a3.2.1,a4.1,a4.2.1,a5.1,a5.2.1,a5.2.2.1,a5.2.2.2.1,()))) (some (B,a,b,c,d,e,f,g,h,i,j,k,Y,m,n,o,())))) ((KN F H I K L B B B B).bind λW=>letI X:=W.2.2.2;lets (cS l q (P,Q,R,W.1,W.2.1,W.2.2.1,X.1,X.2.1,T,U,V)) λY=>cond (Bool.not X.2.2.2.1) (some (O,a,b,c,d,e,f,g,h,i,j,k,Y,m,n,o,())) (cond (ak .eql (ae ax Y q).2.2.2.1 B) ((Jk a b c d e f g h i j k Y m n o q F X.2.2.1).bind λZ=>letI a0:=Z.2.2;letI a1:=a0.2.2;letI a2:=a1.2.2;letI a3:=a2.2.2;letI a4:=a3.2.2;letI a5:=a4.2.2;cond (Bool.not Z.1) (some (N,Z.2.1,a0.1,a0.2.1,a1.1,a1.2.1,a2.1,a2.2.1,a3.1,a3.2.1,a4.1,a4.2.1,a5.1,a5.2.1,a5.2.2.1,a5.2.2.2.1,())) (some (B,Z.2.1,a0.1,a0.2.1,a1.1,a1.2.1,a2.1,a2.2.1,a3.1,a3.2.1,a4.1,a4.2.1,a5.1,a5.2.1,a5.2.2.1,a5.2.2.2.1,()))) (some (B,a,b,c,d,e,f,g,h,i,j,k,Y,m,n,o,())))))));letI X:=(eb r 1 4).bind λX=>letI Y:=some ((1:Int),a,b,c,d,e,f,g,h,i,j,k,l,m,n,o,());cond X.1 ((eb s 1 2).bind λZ=>cond (Bool.not Z.1) Y W) Y;cond (ak .eql p 6) ((R6 F H I K L).bind λY=>lets (cS l q (P,Q,R,Y.1,Y.2.1,Y.2.2.1,Y.2.2.2.1,Y.2.2.2.2.1,T,U,V)) λZ=>cond (Bool.not Y.2.2.2.2.2.1) (some (O,a,b,c,d,e,f,g,h,i,j,k,Z,m,n,o,())) (cond (ak .eql (ae ax Z q).2.2.2.1 B) ((Jk a b c d e f g h i j k Z m n o q F M.1).bind λa0=>letI a1:=a0.2.2;letI a2:=a1.2.2;letI a3:=a2.2.2;letI a4:=a3.2.2;letI a5:=a4.2.2;letI a6:=a5.2.2;cond (Bool.not a0.1) (some (N,a0.2.1,a1.1,a1.2.1,a2.1,a2.2.1,a3.1,a3.2.1,a4.1,a4.2.1,a5.1,a5.2.1,a6.1,a6.2.1,a6.2.2.1,a6.2.2.2.1,())) (some (B,a0.2.1,a1.1,a1.2.1,a2.1,a2.2.1,a3.1,a3.2.1,a4.1,a4.2.1,a5.1,a5.2.1,a6.1,a6.2.1,a6.2.2.1,a6.2.2.2.1,()))) (some (B,a,b,c,d,e,f,g,h,i,j,k,Z,m,n,o,())))) (cond (ak .eql p 7) ((UP F H I K L).bind λY=>lets (cS l q (P,Q,R,Y.1,Y.2.1,Y.2.2.1,Y.2.2.2.1,Y.2.2.2.2.1,T,U,V)) λZ=>cond (Bool.not Y.2.2.2.2.2.1) (some (O,a,b,c,d,e,f,g,h,i,j,k,Z,m,n,o,())) (cond (ak .eql (ae ax Z q).2.2.2.1 B) ((Jk a b c d e f g h i j k Z m n o q F M.1).bind λa0=>letI a1:=a0.2.2;letI a2:=a1.2.2;letI a3:=a2.2.2;letI a4:=a3.2.2;letI a5:=a4.2.2;letI a6:=a5.2.2;cond (Bool.not a0.1) (some (N,a0.2.1,a1.1,a1.2.1,a2.1,a2.2.1,a3.1,a3.2.1,a4.1,a4.2.1,a5.1,a5.2.1,a6.1,a6.2.1,a6.2.2.1,a6.2.2.2.1,())) (some (B,a0.2.1,a1.1,a1.2.1,a2.1,a2.2.1,a3.1,a3.2.1,a4.1,a4.2.1,a5.1,a5.2.1,a6.1,a6.2.1,a6.2.2.1,a6.2.2.2.1,()))) (some (B,a,b,c,d,e,f,g,h,i,j,k,Z,m,n,o,())))) (cond (ak .eql p 8) ((Qv F H I K L).bind λY=>lets (cS l q (P,Q,R,Y.1,Y.2.1,Y.2.2.1,Y.2.2.2.1,Y.2.2.2.2.1,T,U,V)) λZ=>cond (Bool.not (ak .neq H B)) (some (O,a,b,c,d,e,f,g,h,i,j,k,Z,m,n,o,())) (cond (ak .eql (ae ax Z q).2.2.2.1 B) ((Jk a b c d e f g h i j k Z m n o q F M.1).bind λa0=>letI a1:=a0.2.2;letI a2:=a1.2.2;letI a3:=a2.2.2;letI a4:=a3.2.2;letI a5:=a4.2.2;letI a6:=a5.2.2;cond (Bool.not a0.1) (some (N,a0.2.1,a1.1,a1.2.1,a2.1,a2.2.1,a3.1,a3.2.1,a4.1,a4.2.1,a5.1,a5.2.1,a6.1,a6.2.1,a6.2.2.1,a6.2.2.2.1,())) (some (B,a0.2.1,a1.1,a1.2.1,a2.1,a2.2.1,a3.1,a3.2.1,a4.1,a4.2.1,a5.1,a5.2.1,a6.1,a6.2.1,a6.2.2.1,a6.2.2.2.1,()))) (some (B,a,b,c,d,e,f,g,h,i,j,k,Z,m,n,o,())))) (cond (ak .eql p 9) ((XO F H I K L r).bind λY=>lets (cS l q (P,Q,R,Y.1,Y.2.1,Y.2.2.1,Y.2.2.2.1,Y.2.2.2.2.1,T,U,V)) λZ=>cond (Bool.not Y.2.2.2.2.2.1) (some (O,a,b,c,d,e,f,g,h,i,j,k,Z,m,n,o,())) (cond (ak .eql (ae ax Z q).2.2.2.1 B) ((Jk a b c d e f g h i j k Z m n o q F M.1).bind λa0=>letI a1:=a0.2.2;letI a2:=a1.2.2;letI a3:=a2.2.2;letI a4:=a3.2.2;letI a5:=a4.2.2;letI a6:=a5.2.2;cond (Bool.not a0.1) (some (N,a0.2.1,a1.1,a1.2.1,a2.1,a2.2.1,a3.1,a3.2.1,a4.1,a4.2.1,a5.1,a5.2.1,a6.1,a6.2.1,a6.2.2.1,a6.2.2.2.1,())) (some (B,a0.2.1,a1.1,a1.2.1,a2.1,a2.2.1,a3.1,a3.2.1,a4.1,a4.2.1,a5.1,a5.2.1,a6.1,a6.2.1,a6.2.2.1,a6.2.2.2.1,()))) (some (B,a,b,c,d,e,f,g,h,i,j,k,Z,m,n,o,())))) (cond (ak .eql p N) (cond (ak .eql r B) (cond (Bool.not (ak .eql s B)) X W) X) (cond (ak .eql p 11) ((R9 F H I K L).bind λY=>letI Z:=Y.2.2.2;lets (cS l q (P,Q,R,Y.1,Y.2.1,Y.2.2.1,Z.1,Z.2.1,T,U,V)) λa0=>cond (Bool.not Z.2.2.2.1) (some (O,a,b,c,d,e,f,g,h,i,j,k,a0,m,n,o,())) (cond (ak .eql (ae ax a0 q).2.2.2.1 B) ((Jk a b c d e f g h i j k a0 m n o q F Z.2.2.1).bind λa1=>letI a2:=a1.2.2;letI a3:=a2.2.2;letI a4:=a3.2.2;letI a5:=a4.2.2;letI a6:=a5.2.2;letI a7:=a6.2.2;cond (Bool.not a1.1) (some (N,a1.2.1,a2.1,a2.2.1,a3.1,a3.2.1,a4.1,a4.2.1,a5.1,a5.2.1,a6.1,a6.2.1,a7.1,a7.2.1,a7.2.2.1,a7.2.2.2.1,())) (some (B,a1.2.1,a2.1,a2.2.1,a3.1,a3.2.1,a4.1,a4.2.1,a5.1,a5.2.1,a6.1,a6.2.1,a7.1,a7.2.1,a7.2.2.1,a7.2.2.2.1,()))) (some (B,a,b,c,d,e,f,g,h,i,j,k,a0,m,n,o,())))) (some (O,a,b,c,d,e,f,g,h,i,j,k,l,m,n,o,())))))))) none)
def LC(a:JX)(b c d e f g:Int)(h:Bool):Option (JX×YaU):=(vn a).bind λi=>(JZ a).bind λj=>letI k:=some (i.1,false,());cond (Bool.not j.1) k (cond (ak .eql (bw a) 30) k ((JY b c d e f g h).bind λl=>letI m:=(b,c,d,e,f,g,h);cond (Bool.not l.1) k (cond h k (cond (dF (List.append (α:=YbF) i.1 (List.append (α:=YbF) ([]:JX) [m]))) (some (List.append (α:=YbF) i.1 (List.append (α:=YbF) ([]:JX) [m]),true,())) none))))
def Rg(a:JX)(b:Int):Option (JX×YaU):=(vn a).bind λc=>(JZ a).bind λd=>letI e:=some (c.1,false,());cond (Bool.not d.1) e ((eb b 0 (aa .sub .i64 (bw a) 1)).bind λf=>letI g:=ae kC c.1 b;cond (Bool.not f.1) e (cond (aZ a b) (cond (ae kC a b).2.2.2.2.2.2 e (cond (aZ c.1 b) (lets (cS c.1 b (g.1,g.2.1,g.2.2.1,g.2.2.2.1,g.2.2.2.2.1,g.2.2.2.2.2.1,true)) λh=>some (h,true,())) none)) none))
def Nc(a b c:Int)(d:Bool)(e f g h:Int)(i:ByteArray)(j k l m n o:Int)(p:Bool):Kg:=cond (ak .geq h a) (some (ak .lss h (aa .add .i64 a b),())) (some (false,()))
def py(a:Ln×Int×Int×Int×Int×ByteArray×YdG)(b:Mk):YaY:=letI c:=a.2.2.2.2;letI d:=ae gI a.1 b.1;letI e:=c.2.2.2;letI f:=e.2.2.2;cond (ak .lss b.1 f.2.2.2.1) (cond (aZ a.1 b.1) ((Nc d.1 d.2.1 d.2.2.1 d.2.2.2 a.2.1 a.2.2.1 a.2.2.2.1 c.1 c.2.1 c.2.2.1 e.1 e.2.1 e.2.2.1 f.1 f.2.1 f.2.2.1).bind λg=>cond g.1 (some (.inr (.inl (b.1,())))) (some (.inl (aa .add .i64 b.1 1,())))) none) (some (.inr (.inr (.inl ()))))
def xp k x:=iter (py k) big x
def qS(a:Ln)(b c d e:Int)(f:ByteArray)(g h i j k l:Int)(m:Bool):PN:=(xp (a,b,c,d,e,f,g,h,i,j,k,l,m,bw a,()) (0,())).bind λn=>Sum.elim (λo=>some (o.1,())) (λo=>Sum.elim (λ_=>some (-1,())) (λp=>Empty.elim p) o) n
def gA(a b c d e f g h i j k:Int)(l:Lj)(m:KT)(n:JX)(o:JH)(p q r s:Int)(t:ByteArray)(u v w x y z:Int)(A:Bool):YdK:=letI B:=(0:Int);letI C:=aZ l q;letI D:=ae ax l q;letI E:=D.2.2;letI F:=aa .sub .i64 (bw l) 1;letI G:=E.2.2.2;letI H:=G.2.2;letI I:=H.2;letI J:=some ((2:Int),a,b,c,d,e,f,g,h,i,j,k,l,m,n,o,());letI K:=some ((1:Int),a,b,c,d,e,f,g,h,i,j,k,l,m,n,o,());letI L:=some ((10:Int),a,b,c,d,e,f,g,h,i,j,k,l,m,n,o,());cond (ak .eql p 1) ((eb s B F).bind λM=>cond (Bool.not M.1) J ((Is q).bind λN=>cond (Bool.not N.1) K ((eb r 1 24).bind λO=>letI P:=(r,q,s,B,B,B,B,B,B,B,B,B,B);cond (Bool.not O.1) K (cond (ak .geq (bw m) 12) L (cond (dF (List.append (α:=YaV) m (List.append (α:=YaV) ([]:KT) [P]))) (lets (List.append (α:=YaV) ([]:KT) [P]) λ_=>lets (List.append (α:=YaV) m (List.append (α:=YaV) ([]:KT) [P])) λQ=>some (B,a,b,c,d,e,f,g,h,i,j,k,l,Q,n,o,())) none))))) (cond (ak .eql p 13) ((JY u v w x y z A).bind λM=>cond (Bool.not M.1) K (cond A K ((LC n u v w x y z A).bind λN=>cond (Bool.not N.2.1) L (some (B,a,b,c,d,e,f,g,h,i,j,k,l,m,N.1,o,()))))) (cond (ak .eql p 14) ((eb q B (aa .sub .i64 (bw n) 1)).bind λM=>cond (Bool.not M.1) J ((Rg n q).bind λN=>cond (Bool.not N.2.1) (some (3,a,b,c,d,e,f,g,h,i,j,k,l,m,n,o,())) (some (B,a,b,c,d,e,f,g,h,i,j,k,l,m,N.1,o,())))) (cond (ak .eql p 15) (cond (ak .lss q 1) K (cond (ak .gtr q (aa .sub .i64 20000 k)) (some (5,a,b,c,d,e,f,g,h,i,j,k,l,m,n,o,())) (some (B,a,b,c,d,e,f,g,h,i,j,aa .add .i64 k q,l,m,n,o,())))) (cond (ak .eql p 16) ((eb q B F).bind λM=>cond (Bool.not M.1) J (cond C ((Kv o I.2.2).bind λN=>cond (Bool.not N.2.1) L ((kS N.1).bind λO=>cond C (lets (cS l q (D.1,D.2.1,E.1,E.2.1,E.2.2.1,G.1,G.2.1,H.1,I.1,I.2.1,O.1)) λP=>some (B,a,b,c,d,e,f,g,h,i,j,k,P,m,n,N.1,())) none)) none)) (cond (ak .eql p 17) ((eb q B F).bind λM=>cond (Bool.not M.1) J (cond C ((eb r B (aa .sub .i64 (bw E.1) 1)).bind λN=>letI O:=ae br E.1 r;cond (Bool.not N.1) J (cond C (cond (aZ E.1 r) ((qS O.2.2 p q r s t u v w x y z A).bind λP=>letI Q:=ae gI O.2.2 P.1;letI R:=lets (cS l q (D.1,D.2.1,cS E.1 r (O.1,O.2.1,cS O.2.2 P.1 (Q.1,Q.2.1,Q.2.2.1,Bool.not Q.2.2.2)),E.2.1,E.2.2.1,G.1,G.2.1,H.1,I.1,I.2.1,I.2.2)) λR=>some (B,a,b,c,d,e,f,g,h,i,j,k,R,m,n,o,());cond (ak .lss P.1 B) J (cond (aZ E.1 r) (cond (aZ O.2.2 P.1) (cond (ak .neq I.1 B) (lets (ak .eql Q.2.2.1 I.1) λS=>cond S (some (4,a,b,c,d,e,f,g,h,i,j,k,l,m,n,o,())) R) R) none) none)) none) none)) none)) (some (B,a,b,c,d,e,f,g,h,i,j,k,l,m,n,o,())))))))
def JW(a b c d e f g h i j k:Int)(l:Lj)(m:KT)(n:JX)(o:JH)(p q r s:Int)(t:ByteArray)(u v w x y z:Int)(A:Bool):YbO:=letI B:=Mv a b c d e f g h i j k l m n o;B.bind λC=>(OA a b c d e f g h i j k l m n o).bind λD=>letI E:=C.2.2;letI F:=E.2.2;letI G:=F.2.2.2;letI H:=F.2.2.1;letI I:=G.2.2;letI J:=I.2.2;letI K:=J.2.2;letI L:=some (C.1,C.2.1,E.1,E.2.1,F.1,F.2.1,H,G.1,G.2.1,I.1,I.2.1,J.1,J.2.1,K.1,K.2.1,(1:Int),());cond (Bool.not D.1) L ((eb p 1 17).bind λM=>letI N:=ak .eql p 10;letI O:=ak .eql p 2;letI P:=ak .eql p 3;letI Q:=ak .eql p 4;letI R:=ak .eql p 5;letI S:=ak .eql p 6;letI T:=ak .eql p 7;letI U:=ak .eql p 8;letI V:=ak .eql p 9;letI W:=(qB C.1 C.2.1 E.1 E.2.1 F.1 F.2.1 H G.1 G.2.1 I.1 I.2.1 J.1 J.2.1 K.1 K.2.1 p q r s t u v w x y z A).bind λW=>letI X:=W.2.2.2.2;letI Y:=X.2.2.2.2;letI Z:=Y.2.2.2.2;letI a0:=some (W.2.1,W.2.2.1,W.2.2.2.1,X.1,X.2.1,X.2.2.1,X.2.2.2.1,Y.1,Y.2.1,Y.2.2.1,Y.2.2.2.1,Z.1,Z.2.1,Z.2.2.1,Z.2.2.2.1,W.1,());cond (ak .neq W.1 0) (cond (ak .neq W.1 9) (B.bind λa1=>letI a2:=a1.2.2.2.2;letI a3:=a2.2.2.2;letI a4:=a3.2.2.2.2;some (a1.1,a1.2.1,a1.2.2.1,a1.2.2.2.1,a2.1,a2.2.1,a2.2.2.1,a3.1,a3.2.1,a3.2.2.1,a3.2.2.2.1,a4.1,a4.2.1,a4.2.2.1,a4.2.2.2.1,W.1,())) a0) a0;letI X:=(gA C.1 C.2.1 E.1 E.2.1 F.1 F.2.1 H G.1 G.2.1 I.1 I.2.1 J.1 J.2.1 K.1 K.2.1 p q r s t u v w x y z A).bind λX=>letI Y:=X.2.2.2.2;letI Z:=Y.2.2.2.2;letI a0:=Z.2.2.2.2;letI a1:=some (X.2.1,X.2.2.1,X.2.2.2.1,Y.1,Y.2.1,Y.2.2.1,Y.2.2.2.1,Z.1,Z.2.1,Z.2.2.1,Z.2.2.2.1,a0.1,a0.2.1,a0.2.2.1,a0.2.2.2.1,X.1,());cond (ak .neq X.1 0) (cond (ak .neq X.1 9) (B.bind λa2=>letI a3:=a2.2.2.2.2;letI a4:=a3.2.2.2;letI a5:=a4.2.2.2.2;some (a2.1,a2.2.1,a2.2.2.1,a2.2.2.2.1,a3.1,a3.2.1,a3.2.2.1,a4.1,a4.2.1,a4.2.2.1,a4.2.2.2.1,a5.1,a5.2.1,a5.2.2.1,a5.2.2.2.1,X.1,())) a1) a1;letI Y:=(ee C.1 C.2.1 E.1 E.2.1 F.1 F.2.1 H G.1 G.2.1 I.1 I.2.1 J.1 J.2.1 K.1 K.2.1 p q r s t u v w x y z A).bind λY=>letI Z:=Y.2.2.2.2;letI a0:=Z.2.2.2.2;letI a1:=a0.2.2.2.2;letI a2:=some (Y.2.1,Y.2.2.1,Y.2.2.2.1,Z.1,Z.2.1,Z.2.2.1,Z.2.2.2.1,a0.1,a0.2.1,a0.2.2.1,a0.2.2.2.1,a1.1,a1.2.1,a1.2.2.1,a1.2.2.2.1,Y.1,());cond (ak .neq Y.1 0) (cond (ak .neq Y.1 9) (B.bind λa3=>letI a4:=a3.2.2.2.2;letI a5:=a4.2.2.2;letI a6:=a5.2.2.2.2;some (a3.1,a3.2.1,a3.2.2.1,a3.2.2.2.1,a4.1,a4.2.1,a4.2.2.1,a5.1,a5.2.1,a5.2.2.1,a5.2.2.2.1,a6.1,a6.2.1,a6.2.2.1,a6.2.2.2.1,Y.1,())) a2) a2;letI Z:=cond S (cond S W X) (cond T (cond T W X) (cond U (cond U W X) (cond V (cond V W X) (cond N (cond N W X) (cond (ak .eql p 11) W X)))));cond (Bool.not M.1) L (cond O (cond O Y Z) (cond P (cond P Y Z) (cond Q (cond Q Y Z) (cond R (cond R Y Z) (cond (ak .eql p 12) Y Z))))))
def ON(a b c d e f g h i j k:Int)(l:Lj)(m:KT)(n:JX)(o:JH)(p q r s:Int)(t:ByteArray)(u v w x y z:Int)(A:Bool):Kg:=(Lb a b c d e f g h i j k l m n o 1048576).bind λB=>letI C:=some (true,());cond (ak .lss B.1 0) C ((O5 p q r s t u v w x y z A B.1).bind λD=>letI E:=Pf a b c d e f g h i j k l m n o;cond (ak .lss D.1 0) C (E.bind λF=>letI G:=TH p q r s t u v w x y z A;G.bind λH=>letI I:=H.2.2.2;letI J:=F.2.2.2.2;letI K:=I.2.2.2;letI L:=J.2.2.2;letI M:=L.2.2.2.2;(Ke F.1 F.2.1 F.2.2.1 F.2.2.2.1 J.1 J.2.1 J.2.2.1 L.1 L.2.1 L.2.2.1 L.2.2.2.1 M.1 M.2.1 M.2.2.1 M.2.2.2.1 H.1 H.2.1 H.2.2.1 I.1 I.2.1 I.2.2.1 K.1 K.2.1 K.2.2.1 K.2.2.2.1 K.2.2.2.2.1 K.2.2.2.2.2.1).bind λN=>E.bind λO=>G.bind λP=>letI Q:=O.2.2;letI R:=P.2.2.2;letI S:=Q.2.2;letI T:=R.2.2.2;letI U:=S.2.2.2;letI V:=U.2.2;letI W:=V.2.2;letI X:=W.2.2;(JW O.1 O.2.1 Q.1 Q.2.1 S.1 S.2.1 S.2.2.1 U.1 U.2.1 V.1 V.2.1 W.1 W.2.1 X.1 X.2.1 P.1 P.2.1 P.2.2.1 R.1 R.2.1 R.2.2.1 T.1 T.2.1 T.2.2.1 T.2.2.2.1 T.2.2.2.2.1 T.2.2.2.2.2.1).bind λY=>letI Z:=Y.2.2;letI a0:=N.2.2;letI a1:=Z.2.2;letI a2:=a0.2.2;letI a3:=a2.2.2;letI a4:=a1.2.2.2;letI a5:=a3.2.2;letI a6:=a4.2.2;letI a7:=a5.2.2;letI a8:=a6.2.2;letI a9:=a7.2.2;letI b0:=a8.2.2;letI b1:=K8 Y.1 Y.2.1 Z.1 Z.2.1 a1.1 a1.2.1 a1.2.2.1 a4.1 a4.2.1 a6.1 a6.2.1 a8.1 a8.2.1 b0.1 b0.2.1 N.1 N.2.1 a0.1 a0.2.1 a2.1 a2.2.1 a3.1 a3.2.1 a5.1 a5.2.1 a7.1 a7.2.1 a9.1 a9.2.1 a9.2.2.1;b1.bind λb2=>letI b3:=some (false,());letI b4:=ak .neq b0.2.2.1 a9.2.2.2.1;cond (Bool.not b2.1) b3 (cond b4 b3 (E.bind λb5=>letI b6:=b5.2.2.2.2;letI b7:=b6.2.2.2;letI b8:=b7.2.2.2.2;(K8 O.1 O.2.1 Q.1 Q.2.1 S.1 S.2.1 S.2.2.1 U.1 U.2.1 V.1 V.2.1 W.1 W.2.1 X.1 X.2.1 b5.1 b5.2.1 b5.2.2.1 b5.2.2.2.1 b6.1 b6.2.1 b6.2.2.1 b7.1 b7.2.1 b7.2.2.1 b7.2.2.2.1 b8.1 b8.2.1 b8.2.2.1 b8.2.2.2.1).bind λb9=>cond (Bool.not b9.1) b3 ((K9 O.1 O.2.1 Q.1 Q.2.1 S.1 S.2.1 S.2.2.1 U.1 U.2.1 V.1 V.2.1 W.1 W.2.1 X.1 X.2.1 1).bind λc0=>cond (ak .lss c0.1 0) b3 (b1.bind λc1=>cond (Bool.not c1.1) b3 (cond b4 b3 ((K9 Y.1 Y.2.1 Z.1 Z.2.1 a1.1 a1.2.1 a1.2.2.1 a4.1 a4.2.1 a6.1 a6.2.1 a8.1 a8.2.1 b0.1 b0.2.1 1).bind λc2=>letI c3:=MA Y.1 Y.2.1 Z.1 Z.2.1 a1.1 a1.2.1 a1.2.2.1 a4.1 a4.2.1 a6.1 a6.2.1 c2.2.1 c2.2.2.1 c2.2.2.2.1 c2.2.2.2.2.1 1;c3.bind λc4=>cond (ak .lss c4.1 0) b3 (cond (ak .neq c4.1 c2.1) b3 (E.bind λc5=>G.bind λc6=>letI c7:=c6.2.2.2;letI c8:=c5.2.2.2.2;letI c9:=c7.2.2.2;letI d0:=c8.2.2.2;letI d1:=d0.2.2.2.2;(JW c5.1 c5.2.1 c5.2.2.1 c5.2.2.2.1 c8.1 c8.2.1 c8.2.2.1 d0.1 d0.2.1 d0.2.2.1 d0.2.2.2.1 d1.1 d1.2.1 d1.2.2.1 d1.2.2.2.1 c6.1 c6.2.1 c6.2.2.1 c7.1 c7.2.1 c7.2.2.1 c9.1 c9.2.1 c9.2.2.1 c9.2.2.2.1 c9.2.2.2.2.1 c9.2.2.2.2.2.1).bind λd2=>letI d3:=d2.2.2.2.2;letI d4:=d3.2.2.2.2;letI d5:=d4.2.2.2.2;(K8 d2.1 d2.2.1 d2.2.2.1 d2.2.2.2.1 d3.1 d3.2.1 d3.2.2.1 d3.2.2.2.1 d4.1 d4.2.1 d4.2.2.1 d4.2.2.2.1 d5.1 d5.2.1 d5.2.2.1 N.1 N.2.1 a0.1 a0.2.1 a2.1 a2.2.1 a3.1 a3.2.1 a5.1 a5.2.1 a7.1 a7.2.1 a9.1 a9.2.1 a9.2.2.1).bind λd6=>cond (Bool.not d6.1) b3 (cond (ak .neq d5.2.2.2.1 a9.2.2.2.1) b3 (c3.bind λd7=>cond (ak .lss d7.1 0) b3 (cond (ak .neq d7.1 c2.1) b3 C)))))))))))))
def Rc(k t:Int)(a b c:Bool):Bool:=match Gn k t a b c with|some r=>r.1|none=>false
def ZR(k t:Int)(a b c:Bool):Jr k t a b c=some (Rc k t a b c,())/\Gn k t a b c=some (Rc k t a b c,())/\(Rc k t a b c=true->Jh k 0 2=true/\Jh t 0 6=true):=by
 obtain⟨r,g,d,i⟩:=afC k t a b c;have e:Rc k t a b c=r.1:=by unfold Rc;rw[d]
 obtain⟨v,u⟩:=r;refine⟨g.trans (by rw[e]),d.trans (by rw[e]),λh=>?_⟩;have f:Jh k 0 2=true:=kW.2 (i (e.symm.trans h));refine⟨f,?_⟩;cases j:Jh t 0 6 with
 |true=>rfl
 |false=>
  have:Gn k t a b c=some (false,()):=by unfold Gn;rw[bS,f,bS,j];rfl
  rw[d]at this;injection this with this
  injection this with this
  rw[e,this]at h;cases h
def aa8(k t:Int)(a b c:Bool):Jr k t a b c=some (Rc k t a b c,()):=(ZR k t a b c).1
def aa7(k t:Int)(a b c:Bool):Gn k t a b c=some (Rc k t a b c,()):=(ZR k t a b c).2.1
def adI{Q:Int->Int->Bool->Bool->Bool->Prop}(h:∀(k:Fin 3) (t:Fin 7) (a b c:Bool),Q ((k.val:Nat):Int) ((t.val:Nat):Int) a b c){k t:Int}{a b c:Bool}(hd:Rc k t a b c=true):Q k t a b c:=by obtain⟨d,e⟩:=(ZR k t a b c).2.2 hd;have d:=kW.1 d;have e:=kW.1 e;have:=h ⟨k.toNat,by omega⟩ ⟨t.toNat,by omega⟩ a b c;simp only[acI d.1,acI e.1]at this;exact this
def agree{α:Type}[DecidableEq α](f:α->Bool)(x y:Option α):Bool:=decide (x=y)&&match y with|some r=>f r|none=>false
def aha{α:Type}[DecidableEq α]{f:α->Bool}{P:α->Prop}(a:∀r,f r=true->P r){x y:Option α}(h:agree f x y=true):Sm P x y:=by
 unfold agree at h;rw[aQ]at h;have e:=ck h.1;subst e;cases x with
 |none=>exact absurd h.2 (by simp)
 |some r=>exact .ret (a r h.2)
def aaM {α:Type} [DecidableEq α] {f:Int->α->Bool} {P:Int->α->Prop} (e:∀k r,f k r=true->P k r) {F G:Int->Int->Bool->Bool->Bool->Option α}
  (h:∀(k:Fin 3) (t:Fin 7) (a b c:Bool),agree (f ((k.val:Nat):Int)) (F ((k.val:Nat):Int) ((t.val:Nat):Int) a b c) (G ((k.val:Nat):Int) ((t.val:Nat):Int) a b c)=true)
  {k t:Int} {a b c:Bool} (d:Rc k t a b c=false->Sm (P k) (F k t a b c) (G k t a b c)):Sm (P k) (F k t a b c) (G k t a b c):=by
 cases hd:Rc k t a b c with
 |false=>exact d hd
 |true=>exact adI (Q:=λk t a b c=>Sm (P k) (F k t a b c) (G k t a b c)) (λk t a b c=>aha (e _) (h k t a b c)) hd
def orB{a b:Bool}(h:(Bool.not a||b)=true):a=true->b=true:=λe=>by subst e;exact h
def neB{k:Int}(h:Bool.not (decide (k=0))=true):k≠0:=by intro e;rw[iO e]at h;cases h
instance dB3:DecidableEq (Bool×Bool×Bool×Unit):=inferInstance
instance dBI:DecidableEq (Bool×Int×Bool×Unit):=inferInstance
variable (k t:Int)(a b c:Bool)
def aeE:Sm (λr=>r.2.2.2.2.2.1=true->k≠0) (Sw k t a b c) (R6 k t a b c):=aaM (f:=λk (r:Int×Int×Bool×Bool×Bool×Bool×Unit)=>Bool.not r.2.2.2.2.2.1||Bool.not (decide (k=0))) (P:=λk r=>r.2.2.2.2.2.1=true->k≠0) (λk r h e=>neB (orB h e)) (by decide +kernel) λhd=>by unfold Sw R6;rw[aa8,aa7,hd];exact .ret λh=>by cases h
def VV:Sm Any (SF k t a b c) (Se k t a b c):=aaM (f:=λ_ _=>true) (P:=λ_=>Any) (λ_ _ _=>trivial) (by decide +kernel) λhd=>by unfold SF Se;rw[aa8,aa7,hd];cases ak .eql k 0 <;> exact .ret trivial
def agx:Sm (λr=>r.2.2.2.2.2.1=true->k≠0/\r.1=k) (Vg k t a b c) (UP k t a b c):=
 aaM (f:=λk (r:Int×Int×Bool×Bool×Bool×Bool×Unit)=>Bool.not r.2.2.2.2.2.1||(Bool.not (decide (k=0))&&decide (r.1=k))) (P:=λk r=>r.2.2.2.2.2.1=true->k≠0/\r.1=k) (λk r h e=>by
  have:=orB h e;rw[aQ]at this;exact⟨neB this.1,ck this.2⟩) (by decide +kernel) λhd=>by
  unfold Vg UP;rw[aa8,aa7,hd];exact .ret λh=>by cases h
def ajY:Sm (λr=>r.1=k) (QU k t a b c) (Qv k t a b c):=by unfold QU Qv;rw[aa8,aa7];cases Rc k t a b c <;> exact .ret rfl
def agd(h:Rc k t a b c=true)(d:t≠0):k≠0:=by have:=adI (Q:=λk t a b c=>(Bool.not (Rc k t a b c)||(decide (t=0)||Bool.not (decide (k=0))))=true) (by decide +kernel) h;rw[h,Gi d]at this;exact neB this
def adH(k t:Int)(a b c:Bool):Bool:=Rc k t a b c&&(Bool.not (decide (k=0))&&decide (t=0))
def eqD(k:Int):ak .eql k 0=decide (k=0):=rfl
def neD(k:Int):ak .neq k 0=Bool.not (decide (k=0)):=rfl
def XM:MX k t a b c=some (adH k t a b c,())/\P6 k t a b c=some (adH k t a b c,()):=by unfold MX P6 adH;rw[aa8,aa7,eqD,neD];cases Rc k t a b c <;> cases decide (k=0) <;> exact⟨rfl,rfl⟩
def afB(h:adH k t a b c=true):k≠0:=by unfold adH at h;rw[aQ,aQ]at h;exact neB h.2.1
def aiK(n:Int):Sm (λr=>r.2.2.2.2.2.1=true->k≠0/\r.1=k) (XV k t a b c n) (XO k t a b c n):=by
 unfold XV XO;rw[(XM k t a b c).1,(XM k t a b c).2];cases h:adH k t a b c with
 |false=>exact .ret λh=>by cases h
 |true=>
  have d:=afB k t a b c h;have no:((k,t,a,b,c,false,()):Int×Int×Bool×Bool×Bool×Bool×Unit).2.2.2.2.2.1=true->k≠0/\k=k:=λh=>by cases h
  cases ak .eql n 1 <;> cases ak .eql n 2 <;> cases ak .eql n 3 <;> cases a <;> cases b <;> first|exact .ret no|exact .ret λ_=>⟨d,rfl⟩
def agh(p q r s:Int):Sm Any (QV p q r s) (Qw p q r s):=by unfold QV Qw;simp only[rp,bS,aX];cases Jh p 0 2 <;> cases Jh q 0 2 <;> cases Jh r 0 2 <;> exact .ret trivial
def aaR(x:Bool)(n:Int):Sm Any (Lw x n) (Kw n x):=by
 unfold Lw Kw;by_cases a:n=0
 .subst a;cases x <;> exact .ret trivial
 .have e:ak .eql n 0=false:=Gi a;rw[e];cases ak .eql n 2 <;> exact .ret trivial
def ah5(p q r s:Int):Sm Any (SD k t a b c p q r s) (Sc k t a b c p q r s):=by
 unfold SD Sc;rw[aa8,aa7];cases Rc k t a b c with
 |false=>exact .ret trivial
 |true=>refine Sm.bind (.ret (P:=Any) trivial) λ_ _=>?_;refine .cond (λ_=>.ret trivial) λ_=>(agh p q r s).bind λ_ _=>.cond (λ_=>.ret trivial) λ_=>(aaR _ p).bind λ_ _=>(aaR _ q).bind λ_ _=>(aaR _ r).bind λ_ _=>(aaR _ s).bind λ_ _=>.ret trivial
def ahp(p q r s:Int):Sm Any (MS p q r s) (Mo p q r s):=by
 unfold MS Mo Na N9;have step:∀(L:List Int) (n:Nat) (m:Int),n<L.length->L.length<=100->Ki (bw L,()) (m,L,(n:Int),())=some (.inl ((bif ak .neq (L.getD n zI) 0 then aa .add .i64 m 1 else m),L,((n+1:Nat):Int),())):=λL n m f g=>by unfold Ki;simp only[bP,dX,cw,f,bu,az,eW (n:=n) (by omega)];cases ak .neq (L.getD n zI) 0 <;> rfl
 have fin:∀(L:List Int) (m:Int),Ki (bw L,()) (m,L,(L.length:Int),())=some (.inr (.inl (m,()))):=λL m=>by unfold Ki;simp only[bP,eL,ct,aW]
 have b:=step [p,q,r,s] 0 0 (by show 0<4;omega) (by show 4<=100;omega);have c:=λm=>step [p,q,r,s] 1 m (by show 1<4;omega) (by show 4<=100;omega);have d:=λm=>step [p,q,r,s] 2 m (by show 2<4;omega) (by show 4<=100;omega);have e:=λm=>step [p,q,r,s] 3 m (by show 3<4;omega) (by show 4<=100;omega);have a:=gP ((fz b).trans ((fz (c _)).trans ((fz (d _)).trans ((fz (e _)).trans (cJ (n:=0) (fin [p,q,r,s] _)))))) (show 0+1+1+1+1+1<=big from by have:=i7 (n:=5) (by omega);omega);refine⟨_,?_,(gi (λz=>Option.bind z _) a).trans rfl,trivial⟩;simp only[List.getD_cons_zero,List.getD_cons_succ];cases ak .neq p 0 <;> cases ak .neq q 0 <;> cases ak .neq r 0 <;> cases ak .neq s 0 <;> rfl
def aff(p q r s:Int):Sm (λy=>y.2.2.2.2.2.2.1=true->k≠0) (SC k t a b c p q r s) (KN k t a b c p q r s):=by
 unfold SC KN;have no:(false:Bool)=true->k≠0:=λh=>by cases h
 refine(ah5 k t a b c p q r s).bind λy _=>.cond (λ_=>.ret no) λ_=>?_;rw[(XM k t a b c).1,(XM k t a b c).2];refine Sm.bind (P:=λz=>z.1=adH k t a b c) (.ret rfl) λz e=>.cond (λ_=>.ret no) λhd=>?_;have d:k≠0:=afB k t a b c (by rw[<-e];cases h:z.1 with|true=>rfl|false=>rw[h]at hd;cases hd);refine(ahp p q r s).bind λ_ _=>.cond (λ_=>.ret no) λ_=>?_;refine Sm.bind (P:=Any) (by show Sm Any (SG k y.1 y.2.1 y.2.2.1 y.2.2.2.1) (Sf k y.1 y.2.1 y.2.2.1 y.2.2.2.1);unfold SG Sf;generalize y.1=y1;generalize y.2.1=y2;generalize y.2.2.1=y3;generalize y.2.2.2.1=y4;cases ak .neq k 1 <;> cases ak .neq k 2 <;> cases y1 <;> cases y2 <;> cases y3 <;> cases y4 <;> cases ak .eql k 1 <;> exact .ret trivial) λ_ _=>.cond (λ_=>.ret λ_=>d) λ_=>.cond (λ_=>.ret λ_=>d) λ_=>.ret λ_=>d
def ae2:Sm (λy=>y.2.2.2.2.2.2.1=true->k≠0/\y.1=0) (Sz k t a b c) (R9 k t a b c):=
 aaM (f:=λk (r:Int×Int×Bool×Bool×Bool×Int×Bool×Unit)=>Bool.not r.2.2.2.2.2.2.1||(Bool.not (decide (k=0))&&decide (r.1=0))) (P:=λk r=>r.2.2.2.2.2.2.1=true->k≠0/\r.1=0) (λk r h e=>by
  have:=orB h e;rw[aQ]at this;exact⟨neB this.1,ck this.2⟩) (by decide +kernel) λhd=>by
  unfold Sz R9;rw[(XM k t a b c).1,(XM k t a b c).2];unfold adH;rw[hd];exact .ret λh=>by cases h
def aa1(n:Int):Sm Any (Pn k t a b c n) (L8 k t a b c n):=by unfold Pn L8;rw[aa8,aa7];refine Sm.bind (P:=Any) (.ret trivial) λ_ _=>.cond (λ_=>.ret trivial) λ_=>.cond (λ_=>.ret trivial) λ_=>?_;have d:ak .neq n 1=Bool.not (ak .eql n 1):=rfl;have e:ak .neq n 2=Bool.not (ak .eql n 2):=rfl;rw[d,e];cases f:ak .eql n 1 <;> cases g:ak .eql n 2 <;> cases c <;> first|exact .ret trivial|(have:=LM.1 f;have:=LM.1 g;omega)
end Go.Fn

