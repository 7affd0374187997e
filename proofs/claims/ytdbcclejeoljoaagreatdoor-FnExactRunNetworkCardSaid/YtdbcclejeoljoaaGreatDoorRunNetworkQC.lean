import Derived.Test.YtdbcclejeoljoaaGreatDoorRunNetworkQB
/- Plain functions that stand for Go functions, and what they answer. Conditions: none. -/
set_option linter.all false
noncomputable section
namespace Go.Fn
open Go.R
def KC(ok:Nat->Bool):Nat->Nat->Option Nat
 |_,0=>none
 |i,k+1=>bif ok i then KC ok (i+1) k else some i
def Og{ok:Nat->Bool}:∀(k i n:Nat),KC ok i k=some n->i<=n/\n<i+k/\ok n=false
 |0,_,_,h=>by cases h
 |k+1,i,n,h=>by
  unfold KC at h;cases a:ok i with
  |true=>rw[a]at h;obtain⟨c,d,b⟩:=Og k (i+1) n h;exact⟨by omega,by omega,b⟩
  |false=>
   rw[a]at h;injection h with h
   subst h;exact⟨az _,by omega,a⟩
def N5{X Y:Type}{body:X->Option (X⊕Y)}(d:Nat->X)(len:Nat)(c:len<1099511627776)(ok:Nat->Bool)(yes:Y)(no:Nat->Y)(a:∀n,n<len->body (d n)=some (bif ok n then .inl (d (n+1))else .inr (no n)))(b:body (d len)=some (.inr yes)):
  iter body big (d 0)=some (match KC ok 0 len with|some n=>no n|none=>yes):=by
 have e:∀(k n:Nat),n+k=len->iter body (k+1) (d n)=some (match KC ok n k with|some n=>no n|none=>yes):=by
  intro k;induction k with
  |zero=>
   intro n g;have:n=len:=by omega
   subst this;exact cJ b
  |succ k i=>
   intro n g;have h:=a n (by omega);unfold KC;cases f:ok n with
   |true=>rw[f]at h;rw[fz h];exact i (n+1) (by omega)
   |false=>rw[f]at h;exact cJ h
 have h:=e len 0 (bC _);exact gP h (by have:len<big:=i7 c;omega)
def FR(l:List Bx)(p:Int)(n:Nat):Bool:=Bool.not (ak .eql (l.getD n fe).2.2.1 p)
def Xc(l:List Bx)(p:Int):Option Nat:=KC (FR l p) 0 l.length
def Yx:Option Nat->Int
 |some n=>(n:Int)
 |none=>-1
def abZ(h:Int)(f:List Int)(l:List Bx){p:Int}(c:l.length<=1073741824)(d:1<=p):KQ h f l p=some (Yx (Xc l p),()):=by
 unfold KQ;have e:ak .gtr p 0=true:=by simp only[ak,gt_iff_lt,qF];omega
 have:=N5 (body:=Kx (p,h,f,l,())) (λn=>((n:Int),())) l.length (by omega) (FR l p) (Sum.inr (Sum.inl ())) (λn=>Sum.inl ((n:Int),())) (λn b=>by
  unfold Kx FR;simp only[bP,dX,b,xC,aJ,cw,eW (n:=n) (by omega),e];cases ak .eql (l.getD n fe).2.2.1 p <;> rfl) (by
  unfold Kx;simp only[bP,iO,sC,cz])
 have a:PR (p,h,f,l,()) ((0:Int),())=_:=this;rw[a];unfold Xc;cases KC (FR l p) 0 l.length <;> rfl
def YL(h:Int)(f:List Int)(l:List Bx)(p:Int)(c:l.length<=1073741824):Qe h f l p=some (Yx (Xc l p),()):=by
 unfold Qe Gi;have:=N5 (body:=qS (l,p,bw l,())) (λn=>((n:Int),())) l.length (by omega) (FR l p) (Sum.inr (Sum.inl ())) (λn=>Sum.inl ((n:Int),())) (λn b=>by
  unfold qS Wg FR;simp only[bP,dX,b,xC,aJ,cw,eW (n:=n) (by omega),vP];cases ak .eql (l.getD n fe).2.2.1 p <;> rfl) (by
  unfold qS;simp only[bP,iO,sC,cz])
 have a:D3 (l,p,bw l,()) ((0:Int),())=_:=this;rw[a];unfold Xc;cases KC (FR l p) 0 l.length <;> rfl
def aeB(o:Option Nat):ak .geq (Yx o) 0=o.isSome:=by
 cases o with
 |none=>rfl
 |some n=>show decide ((n:Int)>=0)=true;exact xD (by omega)
def aaY(L:List LM)(p:Int):Option Nat:=KC (λi=>(Xc (L.getD i br).2.2 p).isNone) 0 L.length
def aff(L:List LM)(p:Int):Int×Int:=bif J5 L then(match aaY L p with
 |some i=>((i:Int),((L.getD i br).2.2.getD ((Xc (L.getD i br).2.2 p).getD 0) fe).1)
 |none=>(-1,-1))else(-1,-1)
def adG{l:List Bx}{p:Int}{n:Nat}(h:Xc l p=some n):n<l.length:=by have:=(Og _ _ _ h).2.1;omega
def Wp(L:List LM){p:Int}(a:L9 L)(j:1<=p):N6 L p=some ((aff L p).1,(aff L p).2,()):=by
 have l:=a.1;unfold N6 aff;cases c:J5 L with
 |false=>
  have:Q1 (L,p,()) (0,())=some (.inr (.inl ())):=by refine gP (n:=1) (cJ ?_) (ed (i7 (by omega)));unfold NC;rw[Vp L a,c];cases ak .lss (0:Int) (bw L) <;> rfl
  rw[this];rfl
 |true=>
  have:=N5 (body:=NC (L,p,())) (λn=>((n:Int),())) L.length (by omega) (λi=>(Xc (L.getD i br).2.2 p).isNone) (Sum.inr (Sum.inl ())) (λi=>Sum.inl ((i:Int),((L.getD i br).2.2.getD ((Xc (L.getD i br).2.2 p).getD 0) fe).1,())) (λn d=>by
   have f:=a.at d;unfold NC;have k:=abZ (L.getD n br).1 (L.getD n br).2.1 (L.getD n br).2.2 (p:=p) f.2 j;simp only[bP,dX,d,xC,aJ,cw,eW (n:=n) (by omega),Vp L a,c,k,vP,aeB];cases g:Xc (L.getD n br).2.2 p with
   |none=>rfl
   |some m=>
    have h:=adG g;have b:aZ (L.getD n br).2.2 (Yx (some m))=true:=by unfold Yx;rw[dX];exact xD h
    simp only[Option.isSome_some,Option.isNone_some,aJ,cz,b];unfold Yx;rw[cw];rfl) (by
   unfold NC;simp only[bP,iO,sC,cz])
  have e:Q1 (L,p,()) ((0:Int),())=_:=this;rw[e];unfold aaY;cases KC (λi=>(Xc (L.getD i br).2.2 p).isNone) 0 L.length <;> rfl
def Xp(L:List LM)(p:Int)(b:L9 L):LH L p=some (Yx (aaY L p),()):=by
 have f:=b.1;unfold LH vw;have:=N5 (body:=me (L,p,bw L,())) (λn=>((n:Int),())) L.length (by omega) (λi=>(Xc (L.getD i br).2.2 p).isNone) (Sum.inr (Sum.inl ())) (λn=>Sum.inl ((n:Int),())) (λn a=>by
  have d:=b.at a;have e:=YL (L.getD n br).1 (L.getD n br).2.1 (L.getD n br).2.2 p d.2;unfold me RO;simp only[bP,dX,a,xC,aJ,cw,eW (n:=n) (by omega),e,vP,aeB];cases Xc (L.getD n br).2.2 p <;> rfl) (by
  unfold me;simp only[bP,iO,sC,cz])
 have c:tf (L,p,bw L,()) ((0:Int),())=_:=this;rw[c];unfold aaY;cases KC (λi=>(Xc (L.getD i br).2.2 p).isNone) 0 L.length <;> rfl
def acv{L:List LM}{p:Int}{i:Nat}(h:aaY L p=some i):i<L.length/\∃m,Xc (L.getD i br).2.2 p=some m/\m<(L.getD i br).2.2.length:=by
 obtain⟨_,c,a⟩:=Og _ _ _ h;refine⟨by omega,?_⟩;cases b:Xc (L.getD i br).2.2 p with
 |none=>simp only[b]at a;cases a
 |some m=>exact⟨m,rfl,adG b⟩
def m1:Ku (-1)=some (ByteArray.mk #[45,49],()):=by
 unfold Ku;have h:iter (J7 (true,())) 2 (-1,ByteArray.mk #[],())=some (.inl (ByteArray.mk #[49],())):=by rfl
 have a:L2 (true,()) (-1,ByteArray.mk #[],())=_:=gP h (ed (i7 (by omega)));rw[show ak .eql (-1:Int) 0=false from rfl,show ak .lss (-1:Int) 0=true from rfl,a];rfl
def m2:Ko (-1)=some (ByteArray.mk #[45,49],()):=by
 unfold Ko strconv_Itoa;have:Lib.itoa (-1)=[45,49]:=by have h:=Lib.itoa_neg 1 (az _);rw[Lib.decDigits_one (by decide)]at h;exact h
 rw[this];rfl
end Go.Fn
namespace Go.R
open Go.Shelf Go.Proofs Go.RowKit Go.Lib
section
variable {P:Program}{ρ:Ren}
def ajW(b:Ren)(a:String):Func:={ Body2.n22 b with name:=a }
def Xx(b:Ren)(a:String):(ajW b a).ntmps=95:=rfl
structure agn (P:Program) (ρ:Ren) (z:Value) (bytes:Nat):Prop where
 mixed:P.follows .mixedOrders=true
 f22:∃nm, (nm == "runtime.NumGoroutine") = false /\ P.funcs[ρ.f 22]? = some (ajW ρ nm)
 f29:∃fn, P.funcs[ρ.f 29]? = some fn /\ (fn.name == "runtime.NumGoroutine") = false /\ fn.body.isNone = true /\ Extern.findNext fn = none /\ Extern.find fn = some (Extern.SlicesOverlaps.overlaps #[(ρ.t 24), (ρ.t 24)] #[(ρ.t 4)])
 t3:P.underlying (ρ.t 3)=some (TypeDesc.int IntKind.i64)
 a3:∀w,(isAgg (ρ.t 3)).run P w=.ok false w
 z3:∀w,(Go.sizeOf (ρ.t 3)).run P w=.ok 1 w
 v3:∀w,(zeroValue (ρ.t 3)).run P w=.ok (Value.int IntKind.i64 0) w
 t4:P.underlying (ρ.t 4)=some (TypeDesc.bool)
 a4:∀w,(isAgg (ρ.t 4)).run P w=.ok false w
 z4:∀w,(Go.sizeOf (ρ.t 4)).run P w=.ok 1 w
 v4:∀w,(zeroValue (ρ.t 4)).run P w=.ok (Value.bool false) w
 z9:∀w,(Go.sizeOf (ρ.t 9)).run P w=.ok 7 w
 t24:P.underlying (ρ.t 24)=some (TypeDesc.slice (ρ.t 9))
 a24:∀w,(isAgg (ρ.t 24)).run P w=.ok false w
 z24:∀w,(Go.sizeOf (ρ.t 24)).run P w=.ok 1 w
 v24:∀w,(zeroValue (ρ.t 24)).run P w=.ok (Value.slice none 0 0) w
 i9:(P.info? (ρ.t 9)).map (λi=>(i.zero,i.size,i.bytes))=some (some z,7,bytes)
def X8 (w:World) (dT sT ty elem:TypeId) (b o dLen dCap:Nat) (a:Addr) (sLen sCap m:Nat) (c:List Value)
  (r:P.underlying dT=some (.slice elem)) (k:(P.info? elem).map (·.size)=some 7) (p:m=Nat.min sLen dLen) (q:c.length=m*7)
  (d:∀j v,c[j]? = some v->w.cell? (a.add j)=some v) (f:∀j,j<c.length->(w.cell? ⟨b,o+j,none⟩).isSome=true) (g:∀j,j<c.length->w.frozen? ⟨b,o+j,none⟩=false) (e:∀v∈c,v.oneCell'=true):
  (Builtin.copy_ #[dT,sT] ty #[.slice (some ⟨b,o,none⟩) dLen dCap,.slice (some a) sLen sCap]).run P w=.ok (goInt m) (w.setCells b o c):=by
 have n:=run_loadCells_list (P:=P) w a c d;have l:=run_storeCells_cells (P:=P) b o c 0 w (by simpa using f) (by simpa using g) e;cases h:P.info? elem with
 |none=>simp[h]at k
 |some i=>simp_all[Builtin.copy_,run_underlying,Builtin.lenOf,Builtin.firstCells,sizeOf,typeInfo]
set_option maxHeartbeats 4000000 in
set_option maxRecDepth 100000 in
def agN {z:Value} {bytes:Nat} (L:agn P ρ z bytes) (b n c i vb m vc:Nat) (a q:List Value) (w:World) (hi:i<n) (hm:0<m) (I:n+m<=c) (T:n+m<=9223372036854775807) (M:vb≠b)
  (hcl:a.length=n*7) (N:q.length=m*7)
  (hcs:∀j v,a[j]? = some v->w.cell? ⟨b,j,none⟩=some v) (l:∀j,j<(n+m)*7->(w.cell? ⟨b,j,none⟩).isSome=true) (E:∀j,w.frozen? ⟨b,j,none⟩=false)
  (hvs:∀j v,q[j]? = some v->w.cell? ⟨vb,j,none⟩=some v) (y:∀v∈a,v.oneCell'=true) (A:∀v∈q,v.oneCell'=true)
  (V X:TypeId) (O Q:Nat) (J:w.shape? vb=some (V,O)) (K:w.shape? b=some (X,Q)) (G:Q≠0) (C:w.frozen? ⟨vb,0,none⟩=false) (D:w.frozen? ⟨vb,O,none⟩=false):
  Calls P (ρ.f 22) #[.slice (some ⟨b,0,none⟩) n c,.int .i64 i,.slice (some ⟨vb,0,none⟩) m vc] w λe w'=>e=.returned (.slice (some ⟨b,0,none⟩) (n+m) c)/\w'=(w.drew.setCells b ((i+m)*7) (a.drop (i*7))).setCells b (i*7) q:=by
 have t3:=L.t3;have a3:=L.a3;have z3:=L.z3;have v3:=L.v3;have t4:=L.t4;have a4:=L.a4;have z4:=L.z4;have v4:=L.v4;have z9:=L.z9;have t24:=L.t24;have Y:=L.a24;have z24:=L.z24;have v24:=L.v24;have u3:=run_underlying L.t3;have u4:=run_underlying L.t4;have u24:=run_underlying L.t24;obtain⟨fo,q1,q2,q3,q4,q5⟩:=L.f29;have hz1:¬((m:Int)=0):=by omega
 have Iw:¬((i:Int)=(n:Int)):=by omega
 have t:(P.info? (ρ.t 9)).map (·.size)=some 7:=by obtain⟨i0,F,h0,Z,h2⟩:=info_parts L.i9;rw[F];simp[Z]
 have H:∀R u,(callFunc (ρ.f 29) #[.slice (some ⟨vb,0,none⟩) m vc,.slice (some ⟨b,(i+m)*7,none⟩) R u]).run P w=.ok (.value (.bool false)) w:=λR u=>by
  rw[run_callFunc_extern q1 q2 q3 q4 q5,
   Lib.run_overlaps_apart w (ρ.t 24) (ρ.t 4) (ρ.t 9) L.t24 7 L.z9 ⟨vb,0,none⟩ ⟨b,(i+m)*7,none⟩ m vc R u M V X O Q J K G C D]
  rfl
 have B:(a.drop (i*7)).length=(n-i)*7:=by grind
 have mixed:=L.mixed;have Io:IntKind.i64.wrap ((i:Int)+(m:Int))=(i:Int)+(m:Int):=by rw[IntKind.wrap_i64];omega
 have G4:(0:Int)<=(i:Int)+(m:Int):=by omega
 have hin:i<=n:=by omega
 have htn:((i:Int)+(m:Int)).toNat=i+m:=by omega
 have hb2:¬(c=i+m):=by omega
 have F9:(i:Int)<=(n:Int)+(m:Int):=by omega
 have G5:¬(c=i):=by omega
 have d:∀o f S,(Builtin.copy_ #[(ρ.t 24),(ρ.t 24)] o #[.slice (some ⟨b,(i+m)*7,none⟩) (n+m-(i+m)) f,.slice (some ⟨b,i*7,none⟩) (n+m-i) S]).run P w.drew=.ok (goInt ((n-i:Nat):Int)) (w.drew.setCells b ((i+m)*7) (a.drop (i*7))):=λo f S=>
  X8 w.drew _ _ o (ρ.t 9) b ((i+m)*7) (n+m-(i+m)) f ⟨b,i*7,none⟩ (n+m-i) S (n-i) (a.drop (i*7)) L.t24 t (by grind) B
   (λj v p=>by simp_all[Addr.add_lit])
   (λj p=>l _ (by omega)) (λj p=>E _) (λv hv=>y v (abk hv))
 obtain⟨r,g⟩:∃r,r=w.drew.setCells b ((i+m)*7) (a.drop (i*7)):=⟨_,rfl⟩
 have U:∀k,k<(n+m)*7->(r.cell? ⟨b,k,none⟩).isSome=true:=λk hk=>by rw[g];exact isSome_setCells b (a.drop (i*7)) ((i+m)*7) w.drew (λj p=>l _ (by omega)) _ (l k hk)
 have s:∀(W:World),(∀x,W.cell? x=r.cell? x)->(∀x,W.frozen? x=r.frozen? x)->∀o f,(Builtin.copy_ #[(ρ.t 24),(ρ.t 24)] o #[.slice (some ⟨b,i*7,none⟩) (n+m-i) f,.slice (some ⟨vb,0,none⟩) m vc]).run P W=.ok (goInt (m:Int)) (W.setCells b (i*7) q):=λW hWc hWf o f=>
  X8 W _ _ o (ρ.t 9) b (i*7) (n+m-i) f ⟨vb,0,none⟩ m vc m q L.t24 t (by grind) N
   (λj v p=>by simp_all[Addr.add_lit,World.cell?_setCells_out])
   (λj p=>by grind) (λj p=>by simp_all[World.frozen?_setCells]) A
 rw[<-g]at d;obtain⟨nm,_,h⟩:=L.f22
 go_enter h,Xx ρ nm
 go_wp2_with (simp only[H])
 go_region_law_o (refine step_copy_runI rfl _ _ (ρ.t 24) (ρ.t 24) rfl _ _ (by simp[Act.eval,Act.put]) (by simp[Act.eval,Act.put]) (d _ _ _) ?_)
 go_wp2_with (at_builtin;refine wpList_copy_runI _ rfl _ _ (ρ.t 24) (ρ.t 24) rfl _ _ rfl rfl (s _ (λ_=>rfl) (λ_=>rfl) _ _) ?_)
 go_ret
 first|exact⟨rfl,rfl⟩|exact⟨rfl,by rw[g]⟩
set_option maxHeartbeats 4000000 in
set_option maxRecDepth 100000 in
def ajo {z:Value} {bytes:Nat} (L:agn P ρ z bytes) (b:Option Addr) (n c vb m vc:Nat) (w:World) (D:0<m) (o:n<=c) (g:b=none->n=0) (h:Value) (i:World)
  (d:∀s,(Builtin.append_ #[(ρ.t 24),(ρ.t 24)] s #[.slice b n c,.slice (some ⟨vb,0,none⟩) m vc]).run P w=.ok h i):
  Calls P (ρ.f 22) #[.slice b n c,.int .i64 n,.slice (some ⟨vb,0,none⟩) m vc] w λe v=>e=.returned h/\v=i:=by
 have E:=L.t3;have y:=L.a3;have J:=L.z3;have I:=L.v3;have F:=L.t4;have A:=L.a4;have K:=L.z4;have v4:=L.v4;have M:=L.z9;have r:=L.t24;have j:=L.a24;have x:=L.z24;have u:=L.v24;have G:=run_underlying L.t3;have H:=run_underlying L.t4;have t:=run_underlying L.t24;have mixed:=L.mixed;have p:¬((m:Int)=0):=by omega
 obtain⟨q,_,f⟩:=L.f22
 go_enter f,Xx ρ q
 cases b with
 |none=>
  have l:=g rfl;subst l
  go_wp2_with (at_builtin;refine Lib.wpList_append_run _ rfl _ _ _ _ rfl _ _ rfl rfl _ _ (d _) ?_)
  go_ret
  exact⟨rfl,rfl⟩
 |some a=>
  obtain⟨B,C,k⟩:=a
  go_wp2_with (at_builtin;refine Lib.wpList_append_run _ rfl _ _ _ _ rfl _ _ rfl rfl _ _ (d _) ?_)
  all_goals (go_ret;exact⟨rfl,rfl⟩)
set_option maxHeartbeats 4000000 in
set_option maxRecDepth 100000 in
def aih {z:Value} {bytes:Nat} (L:agn P ρ z bytes) (hz7:z.cells.size=7) (C:bytes<=65536) (b n c i vb m vc:Nat) (d g:List Value) (w:World) (hi:i<n) (hm:0<m) (hnc:n<=c) (y:c<n+m) (hbig:n+m<=1073741824)
  (hcl:d.length=n*7) (hvl:g.length=m*7)
  (hcs:∀j v,d[j]? = some v->w.cell? ⟨b,j,none⟩=some v)
  (hvs:∀j v,g[j]? = some v->w.cell? ⟨vb,j,none⟩=some v) (N:∀v∈d,v.oneCell'=true) (O:∀v∈g,v.oneCell'=true):
  Calls P (ρ.f 22) #[.slice (some ⟨b,0,none⟩) n c,.int .i64 i,.slice (some ⟨vb,0,none⟩) m vc] w λe w'=>
   ∃G:Nat,n+m<=G/\∃a:Array Value,a.size=G*7/\(∀j,j<i*7->a[j]? = d[j]?)/\e=.returned (.slice (some ⟨w.heap.size,0,none⟩) (n+m) G) /\
   w'=(((w.alloc (.cells a (ρ.t 9))).drew.setCells w.heap.size (i*7) g).drew).setCells w.heap.size ((i+m)*7) (d.drop (i*7)):=by
 have t3:=L.t3;have a3:=L.a3;have z3:=L.z3;have v3:=L.v3;have t4:=L.t4;have a4:=L.a4;have z4:=L.z4;have v4:=L.v4;have z9:=L.z9;have t24:=L.t24;have a24:=L.a24;have z24:=L.z24;have v24:=L.v24;have u3:=run_underlying L.t3;have u4:=run_underlying L.t4;have u24:=run_underlying L.t24;have mixed:=L.mixed;obtain⟨M,E,hz0,K,J⟩:=info_parts L.i9;have hz1:¬((m:Int)=0):=by omega
 have Iw:¬((i:Int)=(n:Int)):=by omega
 have hz3:(c:Int)<(n:Int)+(m:Int):=by omega
 have I:(P.info? (ρ.t 9)).map (·.size)=some 7:=by rw[E];simp[K]
 have hbw:b<w.heap.size:=block_lt_of_cell (hcs 0 _ (cL (by omega)));have hvw:vb<w.heap.size:=block_lt_of_cell (hvs 0 _ (cL (by omega)));have hkk:(n:Int)+(m:Int)-(i:Int)=((n+m-i:Nat):Int):=by omega
 have F:i+(n+m-i)=n+m:=by omega
 have hold:(Builtin.firstCells M.size i (.slice (some ⟨b,0,none⟩) i c)).run P w.drew=.ok (d.take (i*7)).toArray w.drew:=by rw[K];exact run_firstCells_some w.drew 7 i ⟨b,0,none⟩ i c (d.take (i*7)) (by rw[jS];omega) (λj v s=>by simp_all[Addr.add_lit,List.getElem?_take])
 have r:Builtin.nextslicecap (n+m) c*M.bytes<=281474976710656:=by rw[J];refine growslice_fits y ?_;have h1:(n+m)*bytes<=(n+m)*65536:=Nat.mul_le_mul_left _ C;omega
 have H:(n+m-i)*M.bytes<=281474976710656:=by rw[J];have h1:(n+m-i)*bytes<=(n+m-i)*65536:=Nat.mul_le_mul_left _ C;omega
 have o:∀k,(Builtin.append_ #[(ρ.t 24),(ρ.t 3)] k #[.slice (some ⟨b,0,none⟩) i c,.int .i64 ((n:Int)+(m:Int)-(i:Int))]).run P w =
   .ok (.slice (some ⟨w.heap.size,0,none⟩) (n+m) (grownCap w (n+m) c (ρ.t 9))) (w.drew.alloc (.cells ((d.take (i*7)).toArray++Builtin.zeroCells z.cells (n+m-i)++Builtin.zeroCells z.cells (grownCap w (n+m) c (ρ.t 9)-(n+m))) (ρ.t 9))):=λk=>by
  have h:=Lib.run_append_grow_zeros w (ρ.t 24) (ρ.t 3) k (ρ.t 9) M _ .i64 .i64 L.t24 L.t3 E hz0 (some ⟨b,0,none⟩) i c (d.take (i*7)) hold (n+m-i) (by omega) (by omega) (by omega) (by omega) H (by rw[F];exact r)
  grind
 obtain⟨G,hG⟩:∃G,G=grownCap w (n+m) c (ρ.t 9):=⟨_,rfl⟩
 obtain⟨a,p⟩:∃a:Array Value,a=(d.take (i*7)).toArray++Builtin.zeroCells z.cells (n+m-i)++Builtin.zeroCells z.cells (G-(n+m)):=⟨_,rfl⟩
 rw[<-hG]at o;rw[<-p]at o;have U:n+m<=G:=by grind[grownCap_ge]
 have Z:a.size=G*7:=by
  grind[Builtin.zeroCells]
 have Y:∀j,j<i*7->a[j]? = d[j]?:=λj s=>by
  have hlt:j<((d.take (i*7)).toArray).size:=by grind
  grind
 have X:(n+m)*7<=a.size:=by omega
 obtain⟨l,f⟩:∃l,l=w.drew.alloc (.cells a (ρ.t 9)):=⟨_,rfl⟩
 rw[<-f]at o;have hN:∀j,j<(n+m)*7->(l.cell? ⟨w.heap.size,j,none⟩).isSome=true:=λj s=>by rw[f,World.cell?_alloc_at (w:=w.drew) a _ w.heap.size j rfl,Array.getElem?_eq_getElem (by omega)];rfl
 have V:∀j,l.frozen? ⟨w.heap.size,j,none⟩=false:=λj=>by rw[f];exact World.frozen?_alloc_at (w:=w.drew) a _ w.heap.size j rfl
 have hOb:∀j v,w.cell? ⟨b,j,none⟩=some v->l.cell? ⟨b,j,none⟩=some v:=λj v h=>by rw[f,World.cell?_alloc_past (w:=w.drew) _ b j hbw];exact h
 have hOv:∀j v,w.cell? ⟨vb,j,none⟩=some v->l.cell? ⟨vb,j,none⟩=some v:=λj v h=>by rw[f,World.cell?_alloc_past (w:=w.drew) _ vb j hvw];exact h
 have D:∀(W:World),(∀x,W.cell? x=l.cell? x)->(∀x,W.frozen? x=l.frozen? x)->∀k t,(Builtin.copy_ #[(ρ.t 24),(ρ.t 24)] k #[.slice (some ⟨w.heap.size,i*7,none⟩) (n+m-i) t,.slice (some ⟨vb,0,none⟩) m vc]).run P W=.ok (goInt (m:Int)) (W.setCells w.heap.size (i*7) g):=λW A B k t=>
  X8 W _ _ k (ρ.t 9) w.heap.size (i*7) (n+m-i) t ⟨vb,0,none⟩ m vc m g L.t24 I (by grind) hvl
   (λj v s=>by grind[Addr.add_lit])
   (λj s=>by grind) (λj s=>by rw[B];exact V _) O
 have awM:G<=9223372036854775807:=by
  grind[grownCap_le_maxLen,maxLen]
 have hGi:¬(G=i):=by omega
 have awN:¬(G=i+m):=by omega
 have hci:¬(c=i):=by omega
 have hbN:b≠w.heap.size:=by omega
 have hdl:(d.drop (i*7)).length=(n-i)*7:=by grind
 have q:∀(W:World),(∀x,W.cell? x=(l.setCells w.heap.size (i*7) g).cell? x)->(∀x,W.frozen? x=(l.setCells w.heap.size (i*7) g).frozen? x)->∀k t sc,(Builtin.copy_ #[(ρ.t 24),(ρ.t 24)] k #[.slice (some ⟨w.heap.size,(i+m)*7,none⟩) (n+m-(i+m)) t,.slice (some ⟨b,i*7,none⟩) (n-i) sc]).run P W=.ok (goInt ((n-i:Nat):Int)) (W.setCells w.heap.size ((i+m)*7) (d.drop (i*7))):=λW A B k t sc=>
  X8 W _ _ k (ρ.t 9) w.heap.size ((i+m)*7) (n+m-(i+m)) t ⟨b,i*7,none⟩ (n-i) sc (n-i) (d.drop (i*7)) L.t24 I (by grind) hdl
   (λj v s=>by
    grind[Addr.add_lit,World.cell?_setCells_out])
   (λj s=>by rw[A];grind[Go.Proofs.isSome_setCells])
   (λj s=>by grind[World.frozen?_setCells]) (λv hv=>N v (abk hv))
 subst f;have Q:∀x,((w.alloc (.cells a (ρ.t 9))).drew).cell? x=(w.drew.alloc (.cells a (ρ.t 9))).cell? x:=λx=>rfl;have R:∀x,((w.alloc (.cells a (ρ.t 9))).drew).frozen? x=(w.drew.alloc (.cells a (ρ.t 9))).frozen? x:=λx=>rfl;have S:∀x,(((w.alloc (.cells a (ρ.t 9))).drew.setCells w.heap.size (i*7) g).drew).cell? x=((w.drew.alloc (.cells a (ρ.t 9))).setCells w.heap.size (i*7) g).cell? x:=λx=>rfl;have T:∀x,(((w.alloc (.cells a (ρ.t 9))).drew.setCells w.heap.size (i*7) g).drew).frozen? x=((w.drew.alloc (.cells a (ρ.t 9))).setCells w.heap.size (i*7) g).frozen? x:=λx=>rfl;have Io:IntKind.i64.wrap ((i:Int)+(m:Int))=(i:Int)+(m:Int):=by rw[IntKind.wrap_i64];omega
 have G4:(0:Int)<=(i:Int)+(m:Int):=by omega
 have hin:i<=n:=by omega
 have htn:((i:Int)+(m:Int)).toNat=i+m:=by omega
 have F9:(i:Int)<=(n:Int):=by omega
 clear hkk F hold p hG X r H;obtain⟨nm,_,u⟩:=L.f22
 go_enter u,Xx ρ nm
 go_wp2_with (first
  |(at_builtin;refine Lib.wpList_append_run _ rfl _ _ _ _ rfl _ _ rfl rfl _ _ (o _) ?_)
  |(at_builtin;refine wpList_copy_runI _ rfl _ _ (ρ.t 24) (ρ.t 24) rfl _ _ rfl rfl (D _ Q R _ _) ?_)
  |(at_builtin;refine wpList_copy_runI _ rfl _ _ (ρ.t 24) (ρ.t 24) rfl _ _ rfl rfl (q _ (λ_=>rfl) (λ_=>rfl) _ _ _) ?_))
 go_region_law_o (refine step_copy_runI rfl _ _ (ρ.t 24) (ρ.t 24) rfl (.slice (some ⟨w.heap.size,(i+m)*7,none⟩) (n+m-(i+m)) (G-(i+m))) (.slice (some ⟨b,i*7,none⟩) (n-i) (c-i)) (by simp[Act.eval,Act.put]) (by simp[Act.eval,Act.put]) (q _ S T (ρ.t 3) (G-(i+m)) (c-i)) ?_)
 go_wp2
 go_ret
 exact⟨G,U,a,Z,Y,rfl,rfl⟩
end
end Go.R
namespace Go.R
open Go.Shelf Go.Proofs
def zOf(P:Program)(e:TypeId):Value:=((P.info? e).bind (·.zero)).getD default
def bOf(P:Program)(e:TypeId):Nat:=((P.info? e).map (·.bytes)).getD 0
def aep{α:Type}(l:List α)(i:Int)(v:List α):List α:=l.take i.toNat++(v++l.drop i.toNat)
def aeG{α:Type}(l:List α)(i:Int)(v:List α):Bool:=decide (0<=i)&&(decide (i.toNat<=l.length)&&(decide (v.length=1)&&decide (l.length+1<=1073741824)))
def air{α:Type}{l:List α}{i:Int}{v:List α}(h:aeG l i v=true):0<=i/\i.toNat<=l.length/\v.length=1/\l.length+1<=1073741824:=by
 grind[aeG]
def ad1(e:Nat)(a:ar):hJ:=⟨false,[.one (.arr e a false),.one (.val (.int .i64)),.one (.arr e a false)],[.one (.arr e a false)],λx=>bif aeG (α:=a.T) x.1 x.2.1 x.2.2.1 then some (aep (α:=a.T) x.1 x.2.1 x.2.2.1,())else none⟩
section
variable {P:Program}{ρ:Ren}{w:World}{ω:aq}
def TO(c:Nat)(d:aq)(a:Nat):aq:=λb=>if b=a then some (c,[])else match d b with
 |some (0,q)=>some (0,q)
 |_=>none
def Xy{κ bN b:Nat}{k:Key}(h:TO κ ω bN b=some k):(b=bN/\k=(κ,[]))\/(b≠bN/\∃q,k=(0,q)/\ω b=some (0,q)):=by
 grind[TO]
def ads{κ bN b:Nat}(a:b≠bN)(h:my ω b):TO κ ω bN b=ω b:=by unfold TO;rw[dS a];rcases h with h|⟨q,h⟩ <;> simp only[h]
def adt {κ:Nat} (N:κ≠0) {w':World} (C:∀b n k,ω b=some k->ω n=some k->b=n) (A:∀b k,ω b=some k->b<w.heap.size) (e:Nat) (f:ar) (c r:Nat) (a:Array Value) (z:List f.T)
  (F:w'.os=w.os) (G:w'.tape=w.tape) (H:w'.output=w.output/\w.drawn<=w'.drawn) (m:w.heap.size<=w'.heap.size) (l:∀b,b≠c->b<w.heap.size->w'.heap[b]? = w.heap[b]?)
  (t:ω c=some (1,[])\/w.heap.size<=c) (B:w'.heap[c]? = some (.cells a e (0,0))) (M:a.size=r*f.len) (y:z.length<=r)
  (u:∀i,i<z.length->f.R w ω (λ_=>.bQ) (λj=>a[i*f.len+j]?) 0 (z.getD i (jk f))):
  cH ω w (TO κ ω c) w'/\(∀b k,TO κ ω c b=some k->b<w'.heap.size)/\(∀b n k,TO κ ω c b=some k->TO κ ω c n=some k->b=n)/\(Ty.sl e f).R w' (TO κ ω c) (.flat (κ,[])) (.slice (some ⟨c,0,none⟩) z.length r) z:=by
 have p:∀b,b<w.heap.size->my ω b->b≠c:=λb d o I=>by
  subst I;rcases t with h|h
  .exact o.ne h (by decide)
  .omega
 have s:cH ω w (TO κ ω c) w':=⟨F,G,H,m,λb d o=>⟨l b (p b d o) d,ads (p b d o) o⟩⟩
 refine⟨s,λb k v=>?_,λb n k v x=>?_,?_⟩
 .rcases Xy v with ⟨rfl,_⟩|⟨_,q,_,K⟩
  .exact aM B
  grind
 .rcases Xy v with ⟨rfl,D⟩|⟨_,q,D,K⟩ <;> rcases Xy x with ⟨rfl,E⟩|⟨_,P,E,L⟩
  .rfl
  .grind
  .grind
  grind
 .refine⟨some ⟨c,0,none⟩,z.length,r,rfl,rfl,y,.inr ⟨c,a,rfl,B,M,by grind[TO]⟩,λi O J g=>?_⟩;injection g with g
  subst g;refine ar.bZ s.size f _ _ _ 0 _ (λ_=>s.keeps) (λj=>?_) (u i J)
  grind[cell_of_row]
def acB{e:Nat}{c:ar}{s:Key}{v:Value}{x:List c.T}(h:(Ty.sl e c).R w ω (.flat s) v x):∃(f:Option Addr) (d:Nat) (a:List Value),v=.slice f x.length d/\x.length<=d/\a.length=x.length*c.len/\(∀u∈a,u.oneCell'=true) /\
  ((d=0/\x.length=0)\/∃b arr,f=some ⟨b,0,none⟩/\w.heap[b]? = some (.cells arr e (0,0))/\arr.size=d*c.len/\ω b=some s/\∀j u,a[j]? = some u->w.cell? ⟨b,j,none⟩=some u) /\
  ∀i,i<x.length->c.R w ω (λ_=>.bQ) (λj=>a[i*c.len+j]?) 0 (x.getD i (jk c)):=by
 obtain⟨f,n,d,o,t,p,g,y⟩:=h;subst t;rcases g with g|⟨b,arr,q,z,A,B⟩
 .exact⟨f,d,[],o,p,by rw[g.2];simp,by simp,.inl g,λi l=>absurd l (by omega)⟩
 .obtain⟨a,C,D⟩:=oT (w:=w) (b:=b) (off:=0) (m:=c.len) x.length (λi l=>by
   grind[ar.Bn])
  refine⟨f,d,a,o,p,C,λu r=>?_,.inr ⟨b,arr,q,z,A,B,λj u r=>by grind⟩,λi l=>?_⟩
  .obtain⟨k,E,rfl⟩:=vL r;exact(D k _ (cL E)).2
  .refine ar.fq c _ _ _ 0 _ (λj F=>?_) (y i _ l q)
   grind[iq]
def ag6{a:ar}{x:List a.T}{b:List Value}{i:Nat}(e:i<=x.length)(h:∀k,k<x.length->a.R w ω (λ_=>.bQ) (λj=>b[k*a.len+j]?) 0 (x.getD k (jk a))):
  ∀k,k<(x.take i).length->a.R w ω (λ_=>.bQ) (λj=>(b.take (i*a.len))[k*a.len+j]?) 0 ((x.take i).getD k (jk a)):=by
 intro k d;rw[jS]at d;have c:k<i:=by omega
 rw[uo,pY c,<-uo];refine ar.fq a _ _ _ 0 _ (λj f=>?_) (h k (by omega))
 grind[iq]
def agE{a:ar}{x:List a.T}{b:List Value}{i:Nat}(h:∀k,k<x.length->a.R w ω (λ_=>.bQ) (λj=>b[k*a.len+j]?) 0 (x.getD k (jk a))):
  ∀k,k<(x.drop i).length->a.R w ω (λ_=>.bQ) (λj=>(b.drop (i*a.len))[k*a.len+j]?) 0 ((x.drop i).getD k (jk a)):=by
 grind
def abH {a:ar} {x y:List a.T} {c d:List Value} {i:Nat} (n:i<=x.length) (p:c.length=x.length*a.len) (f:d.length=y.length*a.len)
  (l:∀k,k<x.length->a.R w ω (λ_=>.bQ) (λj=>c[k*a.len+j]?) 0 (x.getD k (jk a)))
  (q:∀k,k<y.length->a.R w ω (λ_=>.bQ) (λj=>d[k*a.len+j]?) 0 (y.getD k (jk a)))
  {b:Array Value} (s:∀j,j<(x.length+y.length)*a.len->b[j]? = (c.take (i*a.len)++(d++c.drop (i*a.len)))[j]?):
  ∀k,k<(x.take i++(y++x.drop i)).length->a.R w ω (λ_=>.bQ) (λj=>b[k*a.len+j]?) 0 ((x.take i++(y++x.drop i)).getD k (jk a)):=by
 have o:i*a.len<=c.length:=by simp_all[dB]
 have e:(c.drop (i*a.len)).length=(x.drop i).length*a.len:=by grind[Nat.sub_mul]
 have g:(c.take (i*a.len)).length=(x.take i).length*a.len:=by grind
 have m:=vU (row:=λj=>(d++c.drop (i*a.len))[j]?) f e q (agE (i:=i) l) (λj _=>rfl);have h:(x.take i).length+(y++x.drop i).length=x.length+y.length:=by
  grind
 refine vU (row:=λj=>b[j]?) g ?_ (ag6 n l) m (λj r=>?_)
 .grind
 grind
def abc{kM arr:Array Value}{a:List Value}{o:Nat}(h:kM.toList=arr.toList.take o++a++arr.toList.drop (o+a.length))(f:o+a.length<=arr.size):
  kM.size=arr.size/\(∀j,j<o->kM[j]? = arr[j]?)/\(∀j,o<=j->j<o+a.length->kM[j]? = a[j-o]?)/\∀j,o+a.length<=j->kM[j]? = arr[j]?:=by
 have b:(arr.toList.take o).length=o:=by grind
 refine⟨?_,λj c=>?_,λj d e=>?_,λj c=>?_⟩
 .grind[List.length_append]
 .rw[<-fL,h,je,pW (by omega),pY c,fL]
 .rw[<-fL,h,je,iM (by omega),b,pW (by omega)]
 .rw[<-fL,h,iM (by grind),jv,b,pX,<-fL];congr 1;omega
def aif {z:Value} {bytes:Nat} (L:agn P ρ z bytes) (hz7:z.cells.size=7) (hby:bytes<=65536) {cs:ar} (d:cs.len=7)
  (C:∀b r k,ω b=some k->ω r=some k->b=r) (A:∀b k,ω b=some k->b<w.heap.size) (x y:List cs.T) (i:Nat) (hi:i<=x.length) (hy:y.length=1) (DV:x.length+1<=1073741824) (u1 u3:Value)
  (hr1:(Ty.sl (ρ.t 9) cs).R w ω (.flat (1,[])) u1 x) (hr3:(Ty.sl (ρ.t 9) cs).R w ω (.flat (3,[])) u3 y):
  Calls P (ρ.f 22) #[u1,.int .i64 i,u3] w λex w'=>∃v I,ex=.returned v/\cH ω w I w'/\(∀b k,I b=some k->b<w'.heap.size)/\(∀b r k,I b=some k->I r=some k->b=r) /\
   (Ty.sl (ρ.t 9) cs).R w' I (.flat (4,[])) v (x.take i++(y++x.drop i)):=by
 obtain⟨ad,c,n,rfl,hnc,g,h1x,hbx,S⟩:=acB hr1;obtain⟨ad3,c3,l,rfl,awS,f,N,as9,T⟩:=acB hr3;obtain⟨i0,hi0,hz0,hzs,hzb⟩:=info_parts L.i9;rcases as9 with h|⟨X,arv,rfl,R,hvs,hvo,Q⟩
 .omega
 have e:(x.take i++(y++x.drop i)).length=x.length+y.length:=by
  grind
 have hsrc:Src P i0.size (ρ.t 24) (.slice (some ⟨X,0,none⟩) y.length c3) y.length l w:=by rw[hzs];refine Src.ofSlice w L.t24 ⟨X,0,none⟩ y.length c3 l (by rw[f,d]) (λj u o=>?_) N;rw[Addr.add_lit,bC];exact Q j u o
 rcases vg i x.length with hlt|hge
 ·-- i < len
  rcases hbx with h|⟨b,arr,rfl,V,has,hbo,K⟩
  .omega
  have hvb:X≠b:=λh=>by grind
  have hbs:=aM V;by_cases E:x.length+y.length<=c
  .have hal:∀j,w.cell? ⟨b,j,none⟩=arr[j]?:=λj=>cell_of_row w b j arr _ (0,0) V;have hfit:(x.length+y.length)*7<=arr.size:=by grind
   refine(agN L b x.length c i X y.length c3 n l w hlt (by omega) E (by omega) hvb (by rw[g,d]) (by rw[f,d]) K (λj o=>by grind) (λj=>by simp[World.frozen?,V]) Q h1x N
    (ρ.t 9) (ρ.t 9) arv.size arr.size (by unfold World.shape?;rw[R]) (by unfold World.shape?;rw[V]) (by omega) (by simp[World.frozen?,R]) (by simp[World.frozen?,R])).mono ?_
   rintro ex w' ⟨rfl,rfl⟩;have F:n.length=x.length*7:=by rw[g,d]
   have M:l.length=y.length*7:=by rw[f,d]
   have hdl:(n.drop (i*7)).length=(x.length-i)*7:=by grind
   obtain⟨eB,g1,g2⟩:=dQ b (ρ.t 9) (0,0) (n.drop (i*7)) ((i+y.length)*7) w.drew arr V (by omega);obtain⟨k1,k2,k3,_⟩:=abc g2 (by omega);obtain⟨q,g3,g4⟩:=dQ b (ρ.t 9) (0,0) l (i*7) _ eB g1 (by omega);obtain⟨m1,m2,m3,m4⟩:=abc g4 (by omega);have W:=(dL b (n.drop (i*7)) ((i+y.length)*7) w.drew).trans (dL b l (i*7) _);have a:=adt (κ:=4) (by decide) (w':=(w.drew.setCells b ((i+y.length)*7) (n.drop (i*7))).setCells b (i*7) l) C A (ρ.t 9) cs b c q (x.take i++(y++x.drop i)) W.os W.tape ⟨W.output.1,eK (kE _) W.output.2⟩ (by rw[W.size];exact az _) (λr J _=>W.block r J) (.inl hbo) g3 (by rw[m1,k1,has]) (by rw[e];exact E)
    (abH hi g f S T (λj o=>?_))
   .rw[e]at a;exact⟨_,_,rfl,a.1,a.2.1,a.2.2.1,a.2.2.2⟩
   .have o:j<(x.length+y.length)*7:=by rw[d]at o;exact o
    have H:(n.take (i*7)).length=i*7:=by rw[jS];omega
    rw[d];rcases vg j (i*7)with h|h
    .rw[m2 j h,k2 j (by omega),pW (by omega),pY h,<-hal,cL (by omega)];exact K j _ (cL (by omega))
    .rcases vg j (i*7+l.length)with U|U
     .rw[m3 j h U,iM (by omega),pW (by omega),H]
     .rw[m4 j U,k3 j (by omega) (by omega),iM (by omega),iM (by omega),H];congr 1;omega
  .refine(aih L hz7 hby b x.length c i X y.length c3 n l w hlt (by omega) hnc (by omega) (by omega) (by rw[g,d]) (by rw[f,d]) K Q h1x N).mono ?_;rintro ex w' ⟨G,hG,m,hRs,hRo,rfl,hw'⟩;have F:n.length=x.length*7:=by rw[g,d]
   have M:l.length=y.length*7:=by rw[f,d]
   have hdl:(n.drop (i*7)).length=(x.length-i)*7:=by grind
   have s:eF w (w.alloc (.cells m (ρ.t 9))).drew:=(eF.alloc w _).trans (eF.drew _);have hh0:(w.alloc (.cells m (ρ.t 9))).drew.heap[w.heap.size]? = some (.cells m (ρ.t 9) (0,0)):=heap_alloc_new w _;obtain⟨eB,g1,g2⟩:=dQ w.heap.size (ρ.t 9) (0,0) l (i*7) _ m hh0 (by omega);obtain⟨k1,k2,k3,_⟩:=abc g2 (by omega);have Fy:((w.alloc (.cells m (ρ.t 9))).drew.setCells w.heap.size (i*7) l).drew.heap[w.heap.size]? = some (.cells eB (ρ.t 9) (0,0)):=g1;obtain⟨q,g3,g4⟩:=dQ w.heap.size (ρ.t 9) (0,0) (n.drop (i*7)) ((i+y.length)*7) _ eB Fy (by omega);obtain⟨m1,m2,m3,m4⟩:=abc g4 (by omega);have D:=dL w.heap.size l (i*7) (w.alloc (.cells m (ρ.t 9))).drew;have p:=dL w.heap.size (n.drop (i*7)) ((i+y.length)*7) ((w.alloc (.cells m (ρ.t 9))).drew.setCells w.heap.size (i*7) l).drew;rw[<-hw']at g3 p;have a:=adt (κ:=4) (by decide) (w':=w') C A (ρ.t 9) cs w.heap.size G q (x.take i++(y++x.drop i)) (p.os.trans (D.os.trans s.os)) (p.tape.trans (D.tape.trans s.tape)) ⟨p.output.1.trans (D.output.1.trans s.output.1),eK s.output.2 (eK D.output.2 (eK (kE _) p.output.2))⟩
    (by grind) (λr J Gh=>(p.block r J).trans ((D.block r J).trans (s.block r Gh))) (.inr (az _)) g3 (by rw[m1,k1,hRs,d]) (by rw[e];exact hG)
    (abH hi g f S T (λj o=>?_))
   .rw[e]at a;exact⟨_,_,rfl,a.1,a.2.1,a.2.2.1,a.2.2.2⟩
   .have o:j<(x.length+y.length)*7:=by rw[d]at o;exact o
    have H:(n.take (i*7)).length=i*7:=by rw[jS];omega
    rw[d];rcases vg j (i*7)with h|h
    .rw[m2 j (by omega),k2 j h,hRo j h,pW (by omega),pY h]
    .rcases vg j (i*7+l.length)with U|U
     .rw[m2 j (by omega),k3 j h U,iM (by omega),pW (by omega),H]
     .rw[m3 j (by omega) (by omega),iM (by omega),iM (by omega),H];congr 1;omega
 ·-- append
  have hin:i=x.length:=by omega
  subst hin;have F:n.length=x.length*7:=by rw[g,d]
  have M:l.length=y.length*7:=by rw[f,d]
  have hx0:(∃FY,Value.slice ad x.length c=.slice FY 0 0/\x.length=0)\/∃b Z arr,Value.slice ad x.length c=.slice (some ⟨b,0,none⟩) x.length Z/\x.length<=Z/\w.heap[b]? = some (.cells arr (ρ.t 9) (0,0))/\arr.size=Z*cs.len/\ω b=some (1,[]):=by
   grind
  obtain⟨v,w',hrun,hres⟩:=xW (P:=P) (w:=w) (B:=λb=>ω b=some (1,[])) (cs:=cs) (ty:=0) (t:=ρ.t 24) (t':=ρ.t 24) L.t24 hi0 hz0 (by rw[hzs,d]) (by rw[hz7,d]) (by rw[hzb];exact hby) hx0 hsrc (by omega);rcases hres with ⟨_,_,_,_,h0⟩|⟨b0,Z,Y,olds,rfl,Gb,EF,as8,hol,hel,hold,⟨o1,o2,o3⟩,Bb,O,hb0,hB⟩
  .omega
  .refine(ajo L ad x.length c X y.length c3 w (by omega) hnc ?_ _ _ (λty=>hrun)).mono ?_
   .grind
   .rintro ex w'' ⟨rfl,rfl⟩;have a:=adt (κ:=4) (by decide) (w':=w'') C A (ρ.t 9) cs b0 Z Y (x.take x.length++(y++x.drop x.length)) o1 o2 o3 Bb O (by
     grind) EF as8 (by rw[e];exact Gb) (abH hi g f S T (λj o=>?_))
    .rw[e]at a;exact⟨_,_,rfl,a.1,a.2.1,a.2.2.1,a.2.2.2⟩
    .rw[hel j o,d,ac4 (by omega),List.drop_eq_nil_of_le (by omega),e9];rw[d]at o hol;rcases vg j (x.length*7)with h|h
     .rw[pW (by omega),pW (by omega)];rcases hbx with ⟨_,h2⟩|⟨b,arr,rfl,V,has,hbo,K⟩
      .omega
      grind
     .rw[iM (by omega),iM (by omega),hol,F]
def agO{z:Value}{bytes:Nat}(L:agn P ρ z bytes)(u:Nat.beq z.cells.size 7=true)(p:Nat.ble bytes 65536=true){e:Nat}(G:e=ρ.t 9){l:ar}(q:Nat.beq l.len 7=true):ec P (ρ.f 22) (ad1 e l):=by
 subst G;obtain⟨R,r,b⟩:=L.f22;refine⟨⟨_,_,b,r,rfl⟩,?_⟩;intro w ω O x y _ o m d a;obtain⟨x1,i,x3,S⟩:=x;have a:(bif aeG (α:=l.T) x1 i x3 then some (aep (α:=l.T) x1 i x3,())else none)=some y:=a;cases f:aeG (α:=l.T) x1 i x3 with
 |false=>rw[f]at a;cases a
 |true=>
  rw[f]at a;injection a with a
  subst a;obtain⟨B,H,J,I⟩:=air f;match O,d with
  |[K,M,N],d=>
  obtain⟨_,⟨T,g,s⟩,_,⟨U,j,c⟩,_,⟨V,k,t⟩,_⟩:=d;injection g with g _
  subst g;injection j with j _
  subst j;injection k with k _
  subst k;have c:M=.int .i64 i:=c;subst c;obtain⟨n,rfl⟩:=Int.eq_ofNat_of_zero_le B;refine(aif L (bc u) (bn p) (bc q) o m x1 x3 n H J I K N s t).mono ?_;rintro Q W ⟨v,A,rfl,C,D,E,F⟩;exact⟨v,A,rfl,C,E,D,⟨rfl,⟨_,rfl,F⟩⟩,⟨(λh=>by cases h),rfl,rfl⟩⟩
end
end Go.R
namespace Go.Fn
open Go.R
def J1(a:Js)(b:Int)(c:Js):YeA:=cond (aeG a b c) (some (aep a b c,())) none
def Mq(a:Js×Int×YbY)(b:YeH):YdE:=letI c:=b.2.1;letI d:=b.2.2.2;letI e:=b.2.2.1;letI f:=d.2.1;letI g:=d.2.2.2;letI h:=d.2.2.1;letI i:=g.2.1;letI j:=g.2.2.2.1;letI k:=aa .add .i64 j 1;letI l:=ae kS a.2.2.1 j;letI m:=ak .leq l.1 a.2.1;letI n:=aa .add .i64 l.2.1 1;letI o:=aa .add .i64 l.2.2.1 1;cond (ak .lss j a.2.2.2.1) (cond (aZ a.2.2.1 j) (cond (ak .eql l.1 a.2.1) (cond m (some (.inl (b.1,c,nS true e n,nS true d.1 o,f,h,g.1,i,k,k,()))) (some (.inl (b.1,c,nS true e n,nS true d.1 o,f,h,g.1,i,g.2.2.1,k,())))) (cond m (some (.inl (b.1,c,e,nS true d.1 o,f,h,g.1,i,k,k,()))) (some (.inl (b.1,c,e,nS true d.1 o,f,h,g.1,i,g.2.2.1,k,()))))) none) (some (.inr (.inl (b.1,c,e,d.1,f,h,g.1,i,g.2.2.1,()))))
def P7 k x:=iter (Mq k) big x
def KR(a:Js)(b c d e f:Int):YcF:=(js a).bind λg=>(Jx a).bind λh=>cond (Bool.not h.1) (some (g.1,false,())) ((P7 (a,b,a,bw a,()) (g.1,b,1,1,c,d,e,f,0,0,())).bind λi=>Sum.elim (λj=>(js a).bind λk=>letI l:=j.2.2.2.2;(J1 k.1 l.2.2.2.2.1 (List.append (α:=J4) ([]:Js) [(j.2.1,j.2.2.1,j.2.2.2.1,l.1,l.2.1,l.2.2.1,l.2.2.2.1)])).bind λm=>(Jx m.1).bind λn=>cond (Bool.not n.1) (some (j.1,false,())) (some (m.1,true,()))) (λj=>Empty.elim j) i)
def abE(a:Int)(s:Int×Int×Nat×Nat)(x:Ev):Int×Int×Nat×Nat:=((bif decide (x.1=a)then max s.1 (x.2.1+1)else s.1),max s.2.1 (x.2.2.1+1),(bif decide (x.1<=a)then s.2.2.2+1 else s.2.2.1),s.2.2.2+1)
def aia{a:Int}{p:List Ev}{s:Int×Int×Nat×Nat}{x:Ev}(h:ae0 a p s)(f:Srt (p++[x]))(e:Us x=true):abE a s x=WU a s x:=by
 unfold abE WU;by_cases c:x.1=a
 .have b:s.1<=x.2.1+1:=by
   rcases h.s2 with d|⟨y,g,d,i⟩
   .have:=VZ.1 e;omega
   .have:=(uv.1 f).2.2 y g x (kH.2 rfl);rw[JQ]at this;omega
  rw[xD c,aJ,aJ,Int.max_eq_right b]
 .rw[zb c];rfl
def af4(a:Int):∀(l p:List Ev) (s:Int×Int×Nat×Nat),Srt (p++l)->(∀x,x∈l->Us x=true)->ae0 a p s->l.foldl (abE a) s=l.foldl (WU a) s
 |[],_,_,_,_,_=>rfl
 |x::l,p,s,c,d,h=>by
  have e:p++x::l=(p++[x])++l:=by simp
  rw[e]at c;have b:=(uv.1 c).1;rw[vJ,vJ,aia h b (d x (.head _))];exact af4 a l (p++[x]) (WU a s x) c (λy f=>d y (.tail _ f)) (acs h b)
def ah9{l:List Ev}(c:S7 l=true)(a:Int):l.foldl (abE a) (1,1,0,0)=Ma l a:=af4 a l [] (1,1,0,0) (by simpa using Va c) (λx b=>abb c x b) ⟨rfl,az _,λx b=>absurd b ur,.inl rfl,λx b=>absurd b ur,.inl rfl,λx b=>absurd (ac3 b) ur,λx b=>absurd (abk b) ur⟩
def afm(l:List Ev)(c:S7 l=true)(node kind xo a b:Int)(same:List Ev):P7 (l,node,l,(bw l),()) (same,node,(1:Int),(1:Int),kind,xo,a,b,(0:Int),(0:Int),())=some (.inl (same,node,(Ma l node).1,(Ma l node).2.1,kind,xo,a,b,(((Ma l node).2.2.1:Nat):Int),())):=by
 have p:=Lm c;rw[<-ah9 c node];refine(qA (body:=Mq (l,node,l,(bw l),())) l kS (by omega) (abE node) (λ(s:Int×Int×Nat×Nat) n=>(same,node,s.1,s.2.1,kind,xo,a,b,((s.2.2.1:Nat):Int),(n:Int),())) (λn s=>s.2.2.2=n) (λs=>Sum.inl (same,node,s.1,s.2.1,kind,xo,a,b,((s.2.2.1:Nat):Int),())) (λn s g d=>⟨?_,by unfold abE;simp[d]⟩) (λs d=>?_) (1,1,0,0) rfl).1
 .have f:=VZ.1 (aft c g);unfold Mq abE;simp only[bP,g,xC,aJ,dX,cw];revert f;generalize l.getD n kS=e;intro f;have h:aa .add .i64 e.2.1 1=e.2.1+1:=sO (by omega) (by omega);have i:aa .add .i64 e.2.2.1 1=e.2.2.1+1:=sO (by omega) (by omega);have j:nS true s.2.1 (e.2.2.1+1)=max s.2.1 (e.2.2.1+1):=by unfold nS;simp <;> omega
  have k:ak .eql e.1 node=decide (e.1=node):=by simp[ak,ae7]
  have m:ak .leq e.1 node=decide (e.1<=node):=rfl;simp only[h,i,j,k,m,eW (n:=n) (by omega),d];have o:nS true s.1 (e.2.1+1)=max s.1 (e.2.1+1):=by unfold nS;simp <;> omega
  rw[o];cases decide (e.1=node) <;> cases decide (e.1<=node) <;> rfl
 .unfold Mq;simp only[bP,iO,sC,cz]
def abF(l:List Ev)(node kind xo a b:Int)(h:l.length<=1073741824):KR l node kind xo a b=some ((Lh l node kind xo a b).1,(Lh l node kind xo a b).2,()):=by
 unfold KR Lh;simp only[Xt,vP,S6 l h];cases d:S7 l with
 |false=>rfl
 |true=>
  have e:=Lm d;have g:=Tw node (Va d);have c:=g.ahG;simp only[l7,cz,aJ,afm l d,vP,zd,akk,gi];generalize f:Ma l node=A at c;have i:aeG l ((A.2.2.1:Nat):Int) [(node,A.1,A.2.1,kind,xo,a,b)]=true:=by unfold aeG;simp only[aQ,qF,xQ];exact⟨Int.natCast_nonneg _,c,rfl,by omega⟩
  have j:aep l ((A.2.2.1:Nat):Int) [(node,A.1,A.2.1,kind,xo,a,b)]=Sp l node kind xo a b:=by unfold aep Sp adE;rw[f,xQ,je]
  unfold J1;rw[i,j];simp only[aJ,vP];cases S7 (Sp l node kind xo a b) <;> rfl
def Ur:YaO:=(0,0,0)
def SV(a:Int)(b:Kz)(c:Lj)(d:Int):YdW:=(PS a b c).bind λe=>(KQ a b c d).bind λf=>(KU a b c).bind λg=>letI h:=e.2.2.1;letI i:=ae fe h f.1;letI j:=some (e.1,e.2.1,h,false,());cond (Bool.not g.1) j (cond (ak .lss f.1 0) j (cond (aZ c f.1) (cond (ae fe c f.1).2.2.2 j (cond (aZ h f.1) (some (e.1,e.2.1,cS h f.1 (i.1,i.2.1,0,i.2.2.2),true,())) none)) none))
def PT(a b c:Int)(d:Bool):J8:=cond (ak .eql c 0) (some (Bool.not d,())) (some (false,()))
def PC(a:YbK)(b:YdC):YcH:=letI c:=b.1;letI d:=b.2.1;letI e:=a.2.2.1;letI f:=ae fe e d;cond (ak .lss d (bw e)) (cond (aZ e d) ((PT f.1 f.2.1 f.2.2.1 f.2.2.2).bind λg=>letI h:=aa .add .i64 d 1;letI i:=aa .sub .i64 d 1;letI j:=ae fe e i;letI k:=((0:Int),f.1,f.2.1);cond (Bool.not g.1) (some (.inl (c,h,()))) (cond (ak .gtr d 0) (cond (aZ e i) ((PT j.1 j.2.1 j.2.2.1 j.2.2.2).bind λl=>cond l.1 ((Vw a.2.1 f.1).bind λm=>letI n:=aa .sub .i64 (bw c) 1;letI o:=ae Ur c n;cond (Bool.not m.1) (cond (aZ c n) (cond (aZ c n) (lets (cS c n (o.1,o.2.1,aa .add .i64 o.2.2 f.2.1)) λp=>some (.inl (p,h,()))) none) none) (cond (dF (List.append (α:=YaO) c (List.append (α:=YaO) ([]:YbH) [k]))) (some (.inl (List.append (α:=YaO) c (List.append (α:=YaO) ([]:YbH) [k]),h,()))) none)) (cond (dF (List.append (α:=YaO) c (List.append (α:=YaO) ([]:YbH) [k]))) (some (.inl (List.append (α:=YaO) c (List.append (α:=YaO) ([]:YbH) [k]),h,()))) none)) none) (cond (dF (List.append (α:=YaO) c (List.append (α:=YaO) ([]:YbH) [k]))) (some (.inl (List.append (α:=YaO) c (List.append (α:=YaO) ([]:YbH) [k]),h,()))) none))) none) (some (.inr (.inl (c,()))))
def PD k x:=iter (PC k) big x
def Vr(a:Int)(b:Kz)(c:Lj):YcU:=(KU a b c).bind λd=>cond (Bool.not d.1) (some (([]:YbH),())) ((PD (a,b,c,()) (([]:YbH),0,())).bind λe=>Sum.elim (λf=>some (f.1,())) (λf=>Empty.elim f) e)
def MY(a:YdC)(b:Nt):YbG:=letI c:=b.2.1;letI d:=aa .add .i64 c 1;letI e:=(ae Ur a.1 c).2.2;cond (ak .lss c (bw a.1)) (cond (aZ a.1 c) (cond (ak .geq e a.2.1) (cond (ak .lss b.1 0) (some (.inl (c,d,()))) (cond (aZ a.1 c) (cond (aZ a.1 b.1) (cond (ak .lss e (ae Ur a.1 b.1).2.2) (some (.inl (c,d,()))) (some (.inl (b.1,d,())))) none) none)) (some (.inl (b.1,d,())))) none) (some (.inr (.inl (b.1,()))))
def Qz k x:=iter (MY k) big x
def Q5(a:YbH)(b:Int):Oz:=(Qz (a,b,()) (-1,0,())).bind λc=>Sum.elim (λd=>some (d.1,())) (λd=>Empty.elim d) c
def NT(a:Int×Int×Int×Kz×Lj×YcS)(b:Int×Kz×Lj×YdK):Option (Int×Kz×Lj×YdK⊕YdY):=letI c:=([]:Lj);letI d:=b.1;letI e:=b.2.1;letI f:=b.2.2.2;letI g:=b.2.2.1;letI h:=a.2.2.2.2;letI i:=f.1;letI j:=f.2.2;letI k:=f.2.1;letI l:=h.2.2;letI m:=j.1;letI n:=aa .add .i64 j.2.1 1;letI o:=(l.1,a.2.1,a.1,false);letI p:=ae fe h.1 j.2.1;letI q:=ak .lss p.1 l.1;letI r:=ak .geq p.1 (aa .add .i64 l.1 l.2.1);cond (ak .lss j.2.1 (bw h.1)) (cond (aZ h.1 j.2.1) (cond (ak .eql p.1 l.1) (cond (dF (List.append (α:=QE) m (List.append (α:=QE) c [o]))) (lets (List.append (α:=QE) m (List.append (α:=QE) c [o])) λs=>letI t:=(aa .add .i64 l.1 a.2.1,aa .sub .i64 l.2.1 a.2.1,(0:Int),false);cond (ak .lss a.2.1 l.2.1) (cond (dF (List.append (α:=QE) s (List.append (α:=QE) c [t]))) (lets (List.append (α:=QE) c [t]) λ_=>lets (List.append (α:=QE) s (List.append (α:=QE) c [t])) λu=>cond q (cond (dF (List.append (α:=QE) u (List.append (α:=QE) c [p]))) (lets (List.append (α:=QE) u (List.append (α:=QE) c [p])) λv=>some (.inl (d,e,g,i,k,v,n,()))) none) (cond r (cond (dF (List.append (α:=QE) u (List.append (α:=QE) c [p]))) (lets (List.append (α:=QE) u (List.append (α:=QE) c [p])) λv=>some (.inl (d,e,g,i,k,v,n,()))) none) (some (.inl (d,e,g,i,k,u,n,()))))) none) (cond q (cond (dF (List.append (α:=QE) s (List.append (α:=QE) c [p]))) (lets (List.append (α:=QE) s (List.append (α:=QE) c [p])) λu=>some (.inl (d,e,g,i,k,u,n,()))) none) (cond r (cond (dF (List.append (α:=QE) s (List.append (α:=QE) c [p]))) (lets (List.append (α:=QE) s (List.append (α:=QE) c [p])) λu=>some (.inl (d,e,g,i,k,u,n,()))) none) (some (.inl (d,e,g,i,k,s,n,())))))) none) (cond q (cond (dF (List.append (α:=QE) m (List.append (α:=QE) c [p]))) (lets (List.append (α:=QE) m (List.append (α:=QE) c [p])) λs=>some (.inl (d,e,g,i,k,s,n,()))) none) (cond r (cond (dF (List.append (α:=QE) m (List.append (α:=QE) c [p]))) (lets (List.append (α:=QE) m (List.append (α:=QE) c [p])) λs=>some (.inl (d,e,g,i,k,s,n,()))) none) (some (.inl (d,e,g,i,k,m,n,())))))) none) (some (.inr (.inl (d,e,g,i,k,m,()))))
def R2 k x:=iter (NT k) big x
def SZ(a:Int)(b:Kz)(c:Lj)(d e f g h:Int):YdF:=cond (dF (List.append (α:=Int) ([]:Kz) b)) ((R2 (g,h,a,b,c,d,e,f,()) (0,([]:Kz),([]:Lj),a,List.append (α:=Int) ([]:Kz) b,([]:Lj),0,())).bind λi=>Sum.elim (λj=>some (j.2.2.2.1,j.2.2.2.2.1,j.2.2.2.2.2.1,())) (λj=>Empty.elim j) i) none
def opn(b:Bx):Bool:=ak .eql b.2.2.1 0 && !b.2.2.2
def agd(b:Bx):PT b.1 b.2.1 b.2.2.1 b.2.2.2=some (opn b,()):=by unfold PT opn;cases ak .eql b.2.2.1 (0:Int) <;> rfl
abbrev Gp:=Int×Int×Int
def aj3(l:List Bx)(o:List Gp):Prop:=∀g,g∈o->∃b,b∈l/\g.2.1=b.1
def aj3.put{l:List Bx}{o:List Gp}(h:aj3 l o){i:Int}(f:0<=i)(j:i<(o.length:Int))(z z':Int):aj3 l (cS o i (z,(ae Ur o i).2.1,z')):=by
 intro g a;unfold cS at a;rcases aki a with a|a
 .exact h g a
 .have d:ae Ur o i∈o:=by
   unfold ae;rw[uo,cL (by omega)];exact xV _
  obtain⟨b,c,e⟩:=h _ d;subst a;exact⟨b,c,e⟩
def get_mem{α:Type}{z:α}{l:List α}{i:Int}(a:0<=i)(b:i<(l.length:Int)):ae z l i∈l:=by unfold ae;rw[uo,cL (by omega)];exact xV _
end Go.Fn
namespace Go.R
variable {H:Nat->Value}
section
variable {A:nA}{M:Type}
def TB:Nat:=65536
def TV.bare(v:TV A):TV A:=match v with |.pQ ..=>.dead|v=>v
def TV.hold(i:Nat)(v:TV A):TV A:=match v with |.one l=>.pQ i (false,[l]) |.agg ls=>.pQ i (true,ls)|_=>.dead
def TV.ab5(i:Nat)(v:TV A):TV A:=match v with |.pQ j c=>bif Nat.beq j i then TV.mk c.1 c.2 else .dead|_=>.dead
def Xw(args:List (TV A))(s:St A):St A:=⟨λi=>bif Nat.ble TB i then(s.sl (i-TB)).hold (i-TB)else(args.getD i .dead).bare,s.ob⟩
def abW(id g a:Nat):List (TV A)->Nat->Option Nat
 |[],_=>none
 |v::d,j=>match v with
  |.one (.ptr c e b)=>bif Nat.beq id c&&(Nat.beq g e&&Nat.beq a b)then some j else abW id g a d (j+1)
  |_=>abW id g a d (j+1)
def aip(c:Code)(args:List (TV A))(s s1:St A)(i:Nat):TV A:=match s.sl i with
 |.one (.ptr id g a)=>bif (dm s id g).isSome then(match abW id g a args 0 with
   |some j=>bif b9 [j] c then(s1.sl j).bare else .dead
   |none=>(s1.sl (TB+i)).ab5 i)else .dead
 |_=>(s1.sl (TB+i)).ab5 i
def agS(c:Code)(args:List (TV A))(s s1:St A):St A:=⟨λi=>aip c args s s1 i,s1.ob⟩
def afp(E:Env)(C:xy real M)(f:bA->Option (Callee real M))(L:Lk real M)(c:Code)(a:List ResultVar):C6 real M:=λargs s k=>
 bif Nat.ble args.length E.nt&&Nat.ble E.nt TB then
  exec E C f L 0 c (Xw args s) λe d=>bif e.done then af C (nV E d a) λb=>k (TV.nk b).bare (agS c args s d)
  else C.fail
 else C.fail
end
def aaE(P:Program)(f:FuncId)(t:(R:Type)->C6 real (Option R)):Prop:=
 ∀(E:Env) (H:Nat->Value) (R:Type) (o:Oper) (args:Array Operand) (b:Array Nat) (ω:aq) (a:Act) (w:World) (s:S) (k:S->Option R) (r:R) (Q:Exit->Act->World->Prop),
  o.op=.call ⟨.value (.func f),args,b⟩->args.size=b.size->Rel H ω a w s->(∀d,o.dst=some d->d<a.tmps.size) ->
  t R ((args.toList.zip b.toList).map λp=>ev E s p.2 p.1) s (λv c=>k (c.bI o.dst v))=some r->o.wp P a w (Ends H ω a w o.dst k r) Q
section
variable {R:Type}{P:Program}{E:Env}{Ψ:bA->Option hJ}{Λ:Nat->Option dR}{ω:aq}{a:Act}{w:World}{s:S}
def cQ.bare{H H':Nat->Value}{e:S}(g:e.ob=s.ob)(hd:∀b k,ω b=some k->b<w.heap.size){u:Value}{tv:bK}(h:cQ H w ω s u tv):cQ H' w ω e u tv.bare:=by
 have tr:∀id,Tr w ω s w ω e id:=λid=>Tr.nq hd (by rw[g]);cases tv with
 |one l=>exact bU.frame (cH.refl _ _) tr h
 |agg ls=>obtain⟨f,a,c⟩:=h;exact⟨f,a,c.mono λ_ _ d=>bU.frame (cH.refl _ _) tr d⟩
 |ol i=>obtain⟨f,a,c⟩:=h;exact⟨f,a,c.mono λ_ _ d=>lX.frame (cH.refl _ _) tr d⟩
 |pQ _ _=>trivial
def ajl(h:Rel H ω a w s){a':Act}(p:a'.defers=[]){c:List bK}{k:List Value}(f:aH (cQ H w ω s) k c)(q:∀i u,k[i]? = some u->a'.tmps.getD i undef=u):Rel (λi=>a.tmps.getD i undef) ω a' w (Xw c s) where
 dH:=h.dH
 inj:=h.inj
 dom:=h.dom
 defers:=p
 dJ:=h.dJ
 slots i:=by
  have tr:∀id,Tr w ω s w ω (Xw c s) id:=λid=>Tr.nq h.dom rfl;show cQ _ w ω (Xw c s) _ (bif Nat.ble TB i then(s.sl (i-TB)).hold (i-TB)else(c.getD i .dead).bare);cases z:Nat.ble TB i with
  |true=>
   have d:=h.slots (i-TB);simp only[aJ];revert d;generalize i-TB=j;intro d;cases g:s.sl j with
   |one l=>
    rw[g]at d;intro A e;injection e with e
    subst e;exact bU.frame (cH.refl _ _) tr d
   |agg ls=>rw[g]at d;obtain⟨k,m,n⟩:=d;exact⟨k,m,n.mono λ_ _ o=>bU.frame (cH.refl _ _) tr o⟩
   |ol _=>trivial
   |pQ _ _=>trivial
  |false=>
   simp only[cz];rw[uo];cases v:c[i]? with
   |none=>trivial
   |some tv=>obtain⟨u,y,x⟩:=f.get i tv v;rw[q i u y];exact cQ.bare rfl h.dom x
 c7 id cells o:=by obtain⟨b,arr,T,m,n,r⟩:=h.c7 id cells o;exact⟨b,arr,T,m,n,r.mono λ_ _ t=>bU.frame (cH.refl _ _) (λid=>Tr.nq h.dom rfl) t⟩
def aeF{id g a:Nat}:∀(c:List bK) (b j:Nat),abW id g a c b=some j->∃i,j=b+i/\c[i]? = some (.one (.ptr id g a))
 |[],_,_,h=>nomatch h
 |v::c,b,j,h=>by
  have rest:abW id g a c (b+1)=some j->∃i,j=b+i/\(v::c)[i]? = some (.one (.ptr id g a)):=λh=>by obtain⟨i,l,f⟩:=aeF c (b+1) j h;exact⟨i+1,by omega,by simpa using f⟩
  unfold abW at h;split at h
  .rename_i k m d;cases e:(Nat.beq id k&&(Nat.beq g m&&Nat.beq a d))with
   |true=>rw[e]at h;simp only[aQ]at e;obtain⟨l,f,n⟩:=e;rw[bc l,bc f,bc n];exact⟨0,(aG h).symm,rfl⟩
   |false=>rw[e]at h;exact rest h
  .exact rest h
def aiH{f e:S}(hd:∀b k,ω b=some k->b<w.heap.size)(n:e.ob=f.ob){o:Value}{i:Nat}{tv:bK}(h:cQ (λi=>a.tmps.getD i undef) w ω f o tv):cQ H w ω e (a.tmps.getD i undef) (tv.ab5 i):=by
 have tr:∀id,Tr w ω f w ω e id:=λid=>Tr.nq hd (by rw[n]);cases tv with
 |pQ j c=>
  simp only[TV.ab5];cases m:Nat.beq j i with
  |false=>trivial
  |true=>
   have:=bc m;subst this;have d:lX w ω e (a.tmps.getD j undef) c:=lX.frame (cH.refl _ _) tr h;obtain⟨g,ls⟩:=c;cases g with
   |true=>exact d
   |false=>
    match ls,d with
    |[],_=>trivial
    |[l],d=>exact d l rfl
    |_::_::_,_=>trivial
 |_=>trivial
def aio {p:World} {k:aq} {l:S} {q:Act} {c:Code} {d:List bK} {z:List Value} (h:Rel H ω a w s) (m:aH (cQ H w ω s) z d) (f:Rel (λi=>a.tmps.getD i undef) k q p l)
  (J:∀j u,b9 [j] c=true->z[j]? = some u->q.tmps.getD j undef=u):Rel H k a p (agS c d s l) where
 dH:=f.dH
 inj:=f.inj
 dom:=f.dom
 defers:=h.defers
 dJ:=f.dJ
 slots i:=by
  have held:cQ H p k (agS c d s l) (a.tmps.getD i undef) ((l.sl (TB+i)).ab5 i):=aiH f.dom rfl (f.slots (TB+i));have x:=h.slots i;have e:(agS c d s l).sl i=aip c d s l i:=rfl;rw[e];unfold aip;split
  .rename_i id g n o;rw[o]at x;cases F:dm s id g with
   |none=>trivial
   |some ls=>
    simp only[Option.isSome_some,aJ];cases K:abW id g n d 0 with
    |none=>exact held
    |some j=>
     simp only;cases G:b9 [j] c with
     |false=>trivial
     |true=>obtain⟨R,r,A⟩:=aeF d 0 j K;rw[bC]at r;subst r;obtain⟨u,M,L⟩:=m.get j _ A;obtain⟨t,v⟩:=cM F;obtain⟨b,B,C⟩:=x.2 t ls v;obtain⟨Q,D,E⟩:=(show yZ ω s u id g n from L).2 t ls v;have:=h.inj _ _ _ B D;subst this;have y:=f.slots j;rw[J j u G M,E,<-C]at y;exact cQ.bare rfl f.dom y
  .exact held
 c7 id cells hc:=by obtain⟨b,arr,T,N,O,P⟩:=f.c7 id cells hc;exact⟨b,arr,T,N,O,P.mono λ_ _ I=>bU.frame (cH.refl _ _) (λid=>Tr.nq f.dom rfl) I⟩
def ajw{e:World}{c:aq}{d:S}:∀ {a:List Value} {b:List bK},aH (cQ H e c d) a b->cQ H e c d (match a with |[u]=>u|a=>.tuple a.toArray) (TV.nk b)
 |[],[],_=>⟨[],rfl,trivial⟩
 |[u],[t],h=>h.1
 |u::g::a,t::i::ts,h=>⟨u::g::a,rfl,aH.GF TV.comp |>.2 (h.mono λ_ _ f=>Bm f)⟩
 |[],_::_,h=>h.elim
 |_::_,[],h=>h.elim
 |[_],_::_::_,h=>h.2.elim
 |_::_::_,[_],h=>h.2.elim
def akM {Ξ:vq} (hI:jm P E Ξ) (hE:bD P E) (X:∀f F, Ψ f = some F -> ec P f.1 F) {pl:Nat -> Bool} {f:FuncId} {fn:Func} {c:Code} (h1:P.funcs[f]? = some fn) (h2:(fn.name == "runtime.NumGoroutine") = false) (h3:fn.body = some c)
  (hnt:fn.ntmps=E.nt) (hL:e8 P E Λ (bY 0 c)):aaE P f λR=>afp E (av R) (tab Ψ R) (Am Λ Ξ pl R) c fn.results.toList:=by
 intro Z H R o args y ω a w s k r Q ho T h hd m;have I:args.toList.length=y.toList.length:=by simpa using T
 have b:=ze h Z args.toList y.toList I;revert m;generalize (List.map (λp=>ev Z s p.snd p.fst) (args.toList.zip y.toList))=CM at b;intro m;have G:(execOp a.eval o).run P w=.ok (.enter f (args.toList.map a.eval).toArray) w:=by
  unfold execOp;have e1:a.eval (.func f)=.func (.func f) #[] #[]:=rfl;simp only[ho,resolve,e1,Deferred.ofValue];have S:#[]++args.map a.eval ++ #[]=(args.toList.map a.eval).toArray:=by apply Array.ext';simp
  grind[invoke,MuLone.run_callFunc_enter]
 unfold Oper.wp;rw[G];simp only[Oper.upon];have C:=b.length;simp only[afp]at m;cases K:(Nat.ble CM.length E.nt&&Nat.ble E.nt TB)with
 |false=>rw[K]at m;cases m
 |true=>
 rw[K]at m;simp only[aJ]at m;rw[aQ]at K;have hn1:=bn K.1;generalize ET:args.toList.map a.eval=us at b C;refine calls_of_wp h1 h3 ?_;have J:(us.toArray++Array.replicate (fn.ntmps-us.toArray.size) undef).size=E.nt:=by simp;omega
 have l:∀i u,us[i]? = some u->(us.toArray++Array.replicate (fn.ntmps-us.toArray.size) undef).getD i undef=u:=λi u V=>by have hi:i<us.length:=(za.1 V).1;simp_all[sR]
 have hR:=ajl h (a':={ tmps:=us.toArray++Array.replicate (fn.ntmps-us.toArray.size) undef,defers:=[] }) rfl b l;have hx:=iJ hE (uc (E:=E) X) hI (U:=λj=>b9 [j] c=true) c 0 ω _ w _ _ (λj hj=>hj) hL J hR m;refine wp_mono hx λe N n hp=>?_;obtain⟨ex,A,M,q1,L,q3,B,q5,q6⟩:=hp;dsimp only at B;cases t:ex.done with
 |false=>rw[t]at B;cases B
 |true=>
 rw[t]at B;simp only[aJ]at B;obtain⟨g,t1,q7⟩:=ah B;obtain⟨Y,u1,u2⟩:=CD hE L fn.results.toList g t1;obtain⟨v1,x,W⟩:∃v,(results fn N.tmps).run P n=.ok v n/\cQ (λi=>a.tmps.getD i undef) n A M v (TV.nk g):=by
  have q:=yG (fn:=fn) u1;have z:=ajw u2;revert q z;match Y with
  |[]=>grind
  |[_]=>grind
  |_::_::_=>grind
 have O:Rel H A a n (agS c CM s M):=aio h b L λj u hf V=>(q6 j hf).trans (l j u V);have D:cQ H n A (agS c CM s M) v1 (TV.nk g).bare:=cQ.bare (s:=M) rfl L.dom W;have d:N.defers=[]/\∃v,(results fn N.tmps).run P n=.ok v n/\Ends H ω a w o.dst k r (a.put o.dst v) n:=⟨L.defers,_,x,dV O q3 hd D q7⟩
 cases ex with
 |normal=>
  cases e with
  |normal=>exact d
  |_=>cases q1
 |ret=>
  cases e with
  |ret=>exact d
  |_=>cases q1
 |exit _=>cases t
end
abbrev Xl:=List (FuncId×((R:Type)->C6 real (Option R)))
def acI:List (FuncId×((R:Type)->C6 real (Option R)))->vq
 |[],_=>none
 |(f,t)::r,n=>bif Nat.beq f n then some t else acI r n
def ace(P:Program):List (FuncId×((R:Type)->C6 real (Option R)))->Prop
 |[]=>True
 |p::r=>aaE P p.1 p.2/\ace P r
def aer{P:Program}:∀ {l},ace P l->∀f t,acI l f=some t->aaE P f t
 |[],_,_,_,h=>nomatch h
 |(g,u)::l,b,f,t,h=>by
  simp only[acI]at h;cases a:Nat.beq g f with
  |true=>
   rw[a]at h;have h:=aG h;subst h;have:=b.1
   grind[Nat.eq_of_beq_eq_true]
  |false=>rw[a]at h;exact aer b.2 f t h
def ab0{P:Program}{E:Env}{l}(h:ace P l):jm P E (acI l):=λH R o f t args c ω a w s k r Q i e b d hd g=>aer h f t e E H R o args c ω a w s k r Q i b d hd g
def aie(E:Env)(T:List (bA×hJ))(m:List (Nat×dR))(a:List Nat)(X:List (FuncId×((R:Type)->C6 real (Option R))))(fn:Func):(R:Type)->C6 real (Option R):=λR=>afp E (av R) (tab (vl T) R) (Am (qc m) (acI X) (λn=>a.any (Nat.beq n)) R) (body fn) fn.results.toList
def aoL(fn:Func)(a:Nat)(m:List (Nat × dR)):Bool:=!(fn.name == "runtime.NumGoroutine")&&(fn.body.isSome&&(Nat.beq fn.ntmps a&&oz (bY 0 (body fn)) m))
def ik{P:Program}{E:Env}(j:bD P E){T:List (bA×hJ)}(k:vf P T)(m:List (Nat×dR))(p:List Nat){X}(l:ace P X){f:FuncId}{fn:Func}(o:ES P E 0 (body fn) m 0)(i:P.funcs[f]? = some fn)(b:aoL fn E.nt m=true):aaE P f (aie E T m p X fn):=by
 simp only[aoL,aQ,jw]at b;obtain⟨d,a,e,g⟩:=b;have n:fn.body=some (body fn):=by
  unfold body;cases h:fn.body with
  |none=>rw[h]at a;cases a
  |some c=>rfl
 exact akM (ab0 l) j (rD k) i d n (bc e) (zC g o)
def fkI {P:Program} {E:Env} (n:bD P E) {T:List (bA×hJ)} (d:vf P T) (m:List (Nat×dR)) {X} (o:ace P X) {f:FuncId} {ks:List Nat} {fn:Func} {F:hJ} (q:ES P E 0 (body fn) m 0) (l:P.funcs[f]? = some fn)
  (e:E1 fn E.nt F.args.length m=true)
  (a:∀x,F.fn x=exec E (av _) (tab (vl T) _) (Am (qc m) (acI X) FR _) 0 (body fn) (uD F.args (bJ _ x)) λk s=>bif k.done then finish E (body fn) F.look F.args F.bf _ fn.results.toList s else none):vf P (((f,ks),F)::T):=by
 simp only[E1,aQ,jw]at e;obtain⟨g,b,i,j,c5⟩:=e;have p:fn.body=some (body fn):=by
  unfold body;cases h:fn.body with
  |none=>rw[h]at b;cases b
  |some c=>rfl
 exact⟨BR (ab0 o) n (rD d) l g p (bc i) (bn j) (zC c5 q) a,d⟩
end Go.R
namespace Go.Fn
open Go.R Go.Sort
abbrev LJ(n:Nat)(l:List Ev):Prop:=ae2 n [] (λk=>k≠4) l
def LJ.out{n:Nat}(b:n<=16){l:List Ev}(h:LJ n l):S7 l=true/\∀x,x∈l->x.2.2.1<=16/\x.1≠4:=⟨h.j,λx a=>⟨by have:=h.st x a;omega,(h.new x a).resolve_left ur⟩⟩
def mm(a b c M:Int):(a*(b % M)+c) % M=(a*b+c) % M:=by rw[ahA,Int.mul_emod,Int.emod_emod,<-Int.mul_emod,<-ahA]
def c5:Int×Int:=((6364136223846793005*((6364136223846793005*((6364136223846793005*((6364136223846793005*6364136223846793005) % 9007199254740992)) % 9007199254740992)) % 9007199254740992)) % 9007199254740992,(6364136223846793005*((6364136223846793005*((6364136223846793005*((6364136223846793005*1442695040888963407+1442695040888963407) % 9007199254740992)+1442695040888963407) % 9007199254740992)+1442695040888963407) % 9007199254740992)+1442695040888963407) % 9007199254740992)
structure aj2 (n:Nat) (l:List Ev):Prop where
 j:S7 l=true
 st:∀x,x∈l->x.2.2.1<=(n:Int)
 sq:∀x,x∈l->x.1=4->x.2.1<=(n:Int)
theorem aj2.add{n:Nat}(t:n<=200){l:List Ev}(h:aj2 n l)(s:l.length<60){kind xo a b:Int}(k:1<=kind/\kind<=4)(m:1<=xo/\xo<=3)(o:0<=a/\a<=3)(r:0<=b/\b<=39):aj2 (n+1) (Lh l 4 kind xo a b).1/\(Lh l 4 kind xo a b).1.length=l.length+1:=by
 have f:=Va h.j;have d:=Tw 4 f;have v:1<=(Ma l 4).1/\(Ma l 4).1<=(n:Int)+1:=by
  rcases d.s2 with p|⟨x,c,q,p⟩
  .rw[p];omega
  .have:=h.sq x c q;have:=(VZ.1 (abb h.j x c)).2.1;omega
 have u:1<=(Ma l 4).2.1/\(Ma l 4).2.1<=(n:Int)+1:=by
  rcases d.p2 with p|⟨x,c,p⟩
  .rw[p];omega
  .have:=h.st x c;have:=(VZ.1 (abb h.j x c)).2.2.1;omega
 have i:Us (adE l 4 kind xo a b)=true:=VZ.2 ⟨by show(0:Int)<=4/\(4:Int)<=5;omega,by show 1<=(Ma l 4).1/\(Ma l 4).1<=999;omega,by show 1<=(Ma l 4).2.1/\(Ma l 4).2.1<=100000;omega,by show 1<=kind/\kind<=4;omega,by show 1<=xo/\xo<=999;omega,by show 0<=a/\a<=20000;omega,by show 0<=b/\b<=20000;omega⟩;have g:=ahe h.j (node:=4) (kind:=kind) (xo:=xo) (a:=a) (b:=b) (by omega) i;unfold Lh;rw[h.j,g];simp only[aJ];refine⟨⟨g,λx c=>?_,λx c j=>?_⟩,aaB f _ _ _ _ _⟩
 .rcases(Lg x).1 c with e|e
  .rw[e];show(Ma l 4).2.1<=_;omega
  .have:=h.st x e;omega
 .rcases(Lg x).1 c with e|e
  .rw[e];show(Ma l 4).1<=_;omega
  .have:=h.sq x e j;omega
end Go.Fn
namespace Go.R
open Go.Shelf Go.Proofs
def Kn:Nat:=1073741824
section
variable {A:nA}{M:Type}
def aa9(e:Nat)(a:ar)(C:xy A M):C6 A M:=λargs s k=>match args with
 |[.one (.eI c b),.one (.val (.int .i64) n)]=>bif Nat.beq c e&&ar.beq b a then
   C.cond (A.DO n) (k (.one (.ref Kn ((s.new Kn (.arr e a false (A.kN e a))).ob Kn).g 0 [])) (s.new Kn (.arr e a false (A.kN e a)))) C.fail
  else C.fail
 |_=>C.fail
end
def ah2(P:Program)(e n:Nat):Bool:=match P.info? e with
 |some i=>(match i.zero with|some z=>Nat.beq z.cells.size n&&(Nat.beq i.size n&&(Nat.ble i.bytes 65536&&Nat.ble 1 n))|none=>false)
 |none=>false
def ah3{P:Program}{e n:Nat}(h:ah2 P e n=true):∃a z,P.info? e=some a/\a.zero=some z/\z.cells.size=n/\a.size=n/\a.bytes<=65536/\1<=n:=by
 unfold ah2 at h;split at h
 .rename_i i b;split at h
  .rename_i z c;simp only[aQ]at h;exact⟨i,z,b,c,bc h.1,bc h.2.1,bn h.2.2.1,bn h.2.2.2⟩
  .cases h
 .cases h
def XX(z:Array Value)(n:Nat):(Builtin.zeroCells z n).size=n*z.size:=by unfold Builtin.zeroCells;simp
section
variable {P:Program}{ρ:Ren}
def ah5(L:Lays8.n4 P ρ){f e:Nat}{b:ar}(hf:ρ.f 4=f)(he:ρ.t 25=e)(hE:ah2 P e b.len=true):aaE P f λR=>aa9 e b (av R):=by
 subst hf;subst he;intro E0 H R o args y ω a w s k r Q ho x h hd l;have I:args.toList.length=y.toList.length:=by simpa using x
 have d:=ze h E0 args.toList y.toList I;revert l;generalize (List.map (λp=>ev E0 s p.snd p.fst) (args.toList.zip y.toList))=CM at d;intro l;obtain⟨nm,X,S⟩:=L.f4;have F:(execOp a.eval o).run P w=.ok (.enter (ρ.f 4) (args.toList.map a.eval).toArray) w:=by
  unfold execOp;have e1:a.eval (.func (ρ.f 4))=.func (.func (ρ.f 4)) #[] #[]:=rfl;simp only[ho,resolve,e1,Deferred.ofValue];have u:#[]++args.map a.eval ++ #[]=(args.toList.map a.eval).toArray:=by apply Array.ext';simp
  simp only[Sem.run_bind,Sem.run_pure,Result.andThen_ok,invoke];rw[u];exact MuLone.run_callFunc_enter S X rfl _ w
 unfold Oper.wp;rw[F];simp only[Oper.upon];generalize ET:args.toList.map a.eval=us at d;simp only[aa9]at l;split at l
 .rename_i e' M n;match us,d with
  |[u1,u2],d=>
  obtain⟨⟨K,h1⟩,N,_⟩:=d;have N:u2=.int .i64 n:=N;subst h1;subst N;cases hb:(Nat.beq e' (ρ.t 25)&&ar.beq M b)with
  |false=>rw[hb]at l;cases l
  |true=>
  rw[hb]at l;simp only[aJ]at l;replace l:(bif lu n then k ((s.new Kn (.arr (ρ.t 25) b false (real.kN (ρ.t 25) b))).bI o.dst (.one (.ref Kn ((s.new Kn (.arr (ρ.t 25) b false (real.kN (ρ.t 25) b))).ob Kn).g 0 [])))else none)=some r:=l;cases D:lu n with
  |false=>rw[D]at l;cases l
  |true=>
  rw[D]at l;simp only[aJ]at l;unfold lu limit at D;simp only[aQ,qF]at D;obtain⟨m,rfl⟩:∃m:Nat,n=(m:Int):=⟨Int.toNat n,(Int.toNat_of_nonneg D.1).symm⟩
  have hm:m<=1073741824:=by omega
  have J:Kn≠0:=by unfold Kn;omega
  obtain⟨i0,z,U,Z,hzc,his,O,h1n⟩:=ah3 hE;have E:∀cells,(Ob.arr (ρ.t 25) b false (real.kN (ρ.t 25) b))≠.blk cells:=λ_ e=>by cases e
  have Y:(s.new Kn (.arr (ρ.t 25) b false (real.kN (ρ.t 25) b))).ob Kn=⟨(s.ob Kn).g+1,0,0,.arr (ρ.t 25) b false (real.kN (ρ.t 25) b)⟩:=by unfold St.new;exact St.aB _ _ _
  have B:∀g hh c,(s.new Kn (.arr (ρ.t 25) b false (real.kN (ρ.t 25) b))).cont Kn g hh []=some c->c=⟨ρ.t 25,b,real.kN (ρ.t 25) b,1⟩:=λg hh c q=>by
   unfold St.cont fU.cont at q;rw[Y]at q;cases hq:Nat.beq ((s.ob Kn).g+1) g with
   |false=>rw[hq]at q;cases q
   |true=>rw[hq]at q;exact(aG q).symm
  by_cases W:m=0
  .subst W;refine(Any8.slices_Grow_room L K 0 0 0 w (az _) (by omega) (by omega) (az _)).mono ?_;rintro ex w' ⟨rfl,rfl⟩;refine dV (h.bare J _ E) (bj _ _ _ J) hd (t:=.one (.ref Kn ((s.new Kn (.arr (ρ.t 25) b false (real.kN (ρ.t 25) b))).ob Kn).g 0 [])) ⟨az _,kR _,λc q=>?_⟩ l;obtain rfl:=B _ _ _ q;exact⟨K,0,0,rfl,rfl,az _,.inl ⟨rfl,rfl⟩,λi _ T=>absurd T (vi _)⟩
  .have C:(0+m)*i0.bytes<=140737488355328:=by
    have:(0+m)*i0.bytes<=1073741824*65536:=Nat.mul_le_mul (by simpa using hm) O;omega
   refine(Any8.slices_Grow_grow L i0 z U Z (by omega) K 0 0 m [] w (az _) (by omega) C (by omega) (by simp) (λ_=>rfl) (λ_ _ j v hj=>by simp at hj)).mono ?_;rintro ex w' ⟨rfl,rfl⟩;have hG:=grownCap_ge w (0+m) 0 (ρ.t 25);generalize grownCap w (0+m) 0 (ρ.t 25)=G at hG;generalize A:([].toArray++Builtin.zeroCells z.cells (0+m-0)++Builtin.zeroCells z.cells (G-(0+m)))=arr;have x:arr.size=G*b.len:=by rw[<-A,mY,mY,XX,XX,hzc];rw[show([]:List Value).toArray.size=0 from rfl,bC,<-gh];congr 1;omega
   have hg:=(eF.drew w).trans (eF.alloc w.drew (.cells arr (ρ.t 25)));have V:w.heap.size<(w.drew.alloc (.cells arr (ρ.t 25))).heap.size:=by rw[fM];exact kF _
   have hR:=h.fresh (id:=Kn) J hg (az _) V (.arr (ρ.t 25) b false (real.kN (ρ.t 25) b)) (λcells q=>absurd q (E cells));refine dV hR (dW J hg (az _)) hd (t:=.one (.ref Kn ((s.new Kn (.arr (ρ.t 25) b false (real.kN (ρ.t 25) b))).ob Kn).g 0 [])) ⟨az _,kR _,λc q=>?_⟩ l;obtain rfl:=B _ _ _ q;exact⟨some ⟨w.heap.size,0,none⟩,0,G,rfl,rfl,kR _,.inr ⟨w.heap.size,arr,rfl,heap_alloc_new w.drew _,x,aq.eV _ _ _⟩,λi _ T=>absurd T (vi _)⟩
 .cases l
end
end Go.R
namespace Go.R
variable {H:Nat->Value}
section
variable {A:nA}{M:Type}
inductive SL where
 |dead
 |undef
 |val (t:Ty)
 |nil (e:Nat) (c:ar)
 |ref (id:Nat) (b:List Nat)
 |ptr (id a:Nat)
 |bH (id:Nat) (b:List Nat) (a:Nat)
 |cD (id:Nat)
inductive ST where
 |one (l:SL)
 |agg (ls:List SL)
 |pQ (i:Nat) (b:Bool) (ls:List SL)
inductive SO where
 |blk (ls:List SL)
 |arr (e:Nat) (cs:ar) (d:Bool)
 |bQ (e:Nat) (cs:ar)
 |mp (k:IntKind)
structure Sk where
 sl:List (Nat×ST)
 ob:List (Nat×SO)
def SL.ks:SL->List K
 |.val t=>[.val t]
 |.ref _ a=>a.map λ_=>.val (.int .i64)
 |.bH _ a _=>.val (.int .i64)::a.map λ_=>.val (.int .i64)
 |_=>[]
def ST.ls:ST->List SL
 |.one l=>[l]
 |.agg ls |.pQ _ _ ls=>ls
def ST.ks(t:ST):List K:=(t.ls.map SL.ks).flatten
def SO.ks:SO->List K
 |.blk ls=>(ls.map SL.ks).flatten
 |.arr e a d=>[.arr e a d]
 |.bQ e a=>[.val (.sl e a)]
 |.mp k=>[.mp k]
def Sk.ks(k:Sk):List K:=(k.sl.map λp=>p.2.ks).flatten++(k.ob.map λp=>p.2.ks).flatten
def ixs(p:List (A.V (.int .i64)×Nat)):List (KV A):=p.map λq=>⟨.val (.int .i64),q.1⟩
def afi:List (A.V (.int .i64)×Nat)->List Nat->Bool
 |[],[]=>true
 |q::p,j::a=>Nat.beq q.2 j&&afi p a
 |_,_=>false
def held(s:St A)(id g h:Nat)(p:List (A.V (.int .i64)×Nat)):Bool:=Nat.beq (s.ob id).g g&&(p.isEmpty||Nat.beq (s.ob id).h h)
def SL.un(s:St A)(k:SL)(l:Lf A):Option (List (KV A)):=
 match k,l with
 |.dead,_=>some []
 |.undef,.undef=>some []
 |.val t,.val u x=>bif Ty.beq u t then some [⟨.val u,x⟩]else none
 |.nil e j,.eI m d=>bif Ty.beq (.sl m d) (.sl e j)then some []else none
 |.ref id f,.ref a g h p=>bif Nat.beq a id&&(held s a g h p&&afi p f)then some (ixs p)else none
 |.ptr id c,.ptr a g b=>bif Nat.beq a id&&(Nat.beq (s.ob a).g g&&Nat.beq b c)then some []else none
 |.bH id f c,.bH a g h p i b=>bif Nat.beq a id&&(held s a g h p&&(afi p f&&Nat.beq b c))then some (⟨.val (.int .i64),i⟩::ixs p)else none
 |.cD id,.cD a g=>bif Nat.beq a id&&Nat.beq (s.ob a).g g then some []else none
 |_,_=>none
def uns(s:St A):List SL->List (Lf A)->Option (List (KV A))
 |[],[]=>some []
 |k::ks,l::ls=>match k.un s l,uns s ks ls with
  |some x,some r=>some (x++r)
  |_,_=>none
 |_,_=>none
def ST.un(s:St A)(k:ST)(t:TV A):Option (List (KV A)):=
 match k,t with
 |.one k,.one l=>uns s [k] [l]
 |.agg ks,.agg ls=>uns s ks ls
 |.pQ i b ks,.pQ j c=>bif Nat.beq j i&&(c.1==b)then uns s ks c.2 else none
 |_,_=>none
def SO.un(s:St A)(k:SO)(o:Ob A):Option (List (KV A)):=
 match k,o with
 |.blk ks,.blk ls=>uns s ks ls
 |.arr e c d,.arr b a f x=>bif K.beq (.arr b a f) (.arr e c d)then some [⟨.arr b a f,x⟩]else none
 |.bQ e c,.bQ b a x=>bif Ty.beq (.sl b a) (.sl e c)then some [⟨.val (.sl b a),x⟩]else none
 |.mp k,.mp g x=>bif K.beq (.mp g) (.mp k)then some [⟨.mp g,x⟩]else none
 |_,_=>none
def ajL(s:St A):List (Nat×ST)->Option (List (KV A))
 |[]=>some []
 |p::r=>match p.2.un s (s.sl p.1),ajL s r with
  |some x,some y=>some (x++y)
  |_,_=>none
def ajK(s:St A):List (Nat×SO)->Option (List (KV A))
 |[]=>some []
 |p::r=>match p.2.un s (s.ob p.1).o,ajK s r with
  |some x,some y=>some (x++y)
  |_,_=>none
def Sk.un(k:Sk)(s:St A):Option (fE A k.ks):=
 match ajL s k.sl,ajK s k.ob with
 |some x,some y=>kL k.ks (x++y)
 |_,_=>none
def akN(v:KV A):A.V (.int .i64):=match v with|⟨.val (.int .i64),x⟩=>x|_=>A.zz .i64 0
def pathOf:List Nat->List (KV A)->List (A.V (.int .i64)×Nat)
 |j::a,v::b=>(akN v,j)::pathOf a b
 |_,_=>[]
def SL.fi(k:SL)(b:List (KV A)):Lf A:=
 match k,b with
 |.undef,_=>.undef
 |.val _,⟨.val u,x⟩::_=>.val u x
 |.nil e d,_=>.eI e d
 |.ref id c,b=>.ref id 0 0 (pathOf c b)
 |.ptr id a,_=>.ptr id 0 a
 |.bH id c a,v::b=>.bH id 0 0 (pathOf c b) (akN v) a
 |.cD id,_=>.cD id 0
 |_,_=>.dead
def fis:List SL->List (KV A)->List (Lf A)
 |[],_=>[]
 |k::ks,a=>k.fi a::fis ks (a.drop k.ks.length)
def ST.fi(k:ST)(a:List (KV A)):TV A:=
 match k with
 |.one k=>.one (k.fi a)
 |.agg ks=>.agg (fis ks a)
 |.pQ i b ks=>.pQ i (b,fis ks a)
def SO.fi(k:SO)(b:List (KV A)):Ob A:=
 match k,b with
 |.blk ks,b=>.blk (fis ks b)
 |.arr ..,⟨.arr e a d,x⟩::_=>.arr e a d x
 |.bQ ..,⟨.val (.sl e a),x⟩::_=>.bQ e a x
 |.mp _,⟨.mp k,x⟩::_=>.mp k x
 |_,_=>.gone
def ahX:List (Nat×ST)->List (KV A)->Nat->TV A
 |[],_,_=>.dead
 |p::r,a,j=>bif Nat.beq p.1 j then p.2.fi a else ahX r (a.drop p.2.ks.length) j
def ahW:List (Nat×SO)->List (KV A)->Nat->Ob A
 |[],_,_=>.gone
 |p::r,a,j=>bif Nat.beq p.1 j then p.2.fi a else ahW r (a.drop p.2.ks.length) j
def Sk.fi(k:Sk)(x:fE A k.ks):St A:=⟨ahX k.sl (bJ _ x),λj=>⟨0,0,0,ahW k.ob ((bJ _ x).drop (k.sl.map λp=>p.2.ks).flatten.length) j⟩⟩
abbrev Xf:=List (Ex×Sk)
def Zl(A:nA):Xf->Type
 |[]=>Empty
 |e::a=>fE A e.2.ks⊕Zl A a
def Zl.elim{M:Type}:(a:Xf)->Zl A a->(Ex->St A->M)->M
 |[],q,_=>Empty.elim q
 |e::a,q,k=>Sum.elim (λy=>k e.1 (e.2.fi y)) (λq=>Zl.elim a q k) q
def ZR:(a:Xf)->Ex->St A->Option (Zl A a)
 |[],_,_=>none
 |e::a,b,s=>bif Ex.beq e.1 b then(e.2.un s).map .inl else(ZR a b s).map .inr
end
inductive LWk (s:S):L->L->Prop
 |dead (l:L):LWk s l .dead
 |undef:LWk s .undef .undef
 |val (t:Ty) (x:t.T):LWk s (.val t x) (.val t x)
 |eI (e:Nat) (b:ar):LWk s (.eI e b) (.eI e b)
 |ref (id g h:Nat) (p:iU):(s.ob id).g=g->(p=[]\/(s.ob id).h=h)->LWk s (.ref id g h p) (.ref id 0 0 p)
 |ptr (id g a:Nat):(s.ob id).g=g->LWk s (.ptr id g a) (.ptr id 0 a)
 |bH (id g h:Nat) (p:iU) (i:IV) (a:Nat):(s.ob id).g=g->(p=[]\/(s.ob id).h=h)->LWk s (.bH id g h p i a) (.bH id 0 0 p i a)
 |cD (id g:Nat):(s.ob id).g=g->LWk s (.cD id g) (.cD id 0)
def TWk(s:S):bK->bK->Prop
 |.one l,.one d=>LWk s l d
 |.agg ls,.agg a=>aH (LWk s) ls a
 |.pQ i c,.pQ j b=>i=j/\c.1=b.1/\aH (LWk s) c.2 b.2
 |_,.one .dead=>True
 |_,_=>False
def OWk(s:S)(o c:Ob real):Prop:=c=.gone\/(c=o/\∀b,o≠.blk b)\/∃b a,o=.blk b/\c=.blk a/\aH (LWk s) b a
structure SWk (s s':S):Prop where
 g:∀id,(s'.ob id).g=0
 h:∀id,(s'.ob id).h=0
 o:∀id,OWk s (s.ob id).o (s'.ob id).o
 t:∀i,TWk s (s.sl i) (s'.sl i)
section
variable {R:Type}{P:Program}{E:Env}{Ψ:bA->Option hJ}{Λ:Nat->Option dR}{ω:aq}{a:Act}{w:World}{s s':S}
theorem SWk.cont(b:SWk s s'){id g h:Nat}{p:iU}{c:Cont real}(d:(s.ob id).g=g)(f:p=[]\/(s.ob id).h=h)(a:s'.cont id 0 0 p=some c):s.cont id g h p=some c:=by
 unfold St.cont at a⊢;rw[b.g,eN]at a;rw[d,eN];simp only[aJ]at a⊢;unfold fU.cont at a⊢;rcases b.o id with e|⟨e,_⟩|⟨_,_,_,e,_⟩
 .rw[e]at a;cases a
 .rw[e]at a;rw[b.h]at a
  grind[eN]
 .rw[e]at a;cases a
theorem bU.wk(f:SWk s s'){v:Value}{l r:L}(u:LWk s l r)(h:bU w ω s v l):bU w ω s' v r:=by
 cases u with
 |dead=>trivial
 |undef=>exact h
 |val=>exact h
 |eI=>exact h
 |ref id g t p b m=>exact⟨kR _,kR _,λc a=>h.2.2 c (f.cont b m a)⟩
 |ptr id g n b=>
  refine⟨kR _,λ_ cells a=>?_⟩;rcases f.o id with e|⟨e,d⟩|⟨o,j,q,d,_⟩
  .rw[e]at a;cases a
  .grind
  .exact h.2 b o q
 |bH id g t p i n b m=>exact⟨kR _,kR _,λc a=>h.2.2 c (f.cont b m a)⟩
 |cD id g b=>
  refine⟨kR _,λ_ k x a=>?_⟩;rcases f.o id with e|⟨e,d⟩|⟨o,j,q,d,_⟩
  .rw[e]at a;cases a
  .rw[e]at a;exact h.2 b k x a
  .rw[d]at a;cases a
theorem aiW.wk(d:SWk s s'):∀ {e:List Value} {ls a:List L},aH (LWk s) ls a->aH (bU w ω s) e ls->aH (bU w ω s') e a
 |[],[],[],_,_=>trivial
 |_::_,_::_,_::_,b,c=>⟨bU.wk d b.1 c.1,aiW.wk d b.2 c.2⟩
 |[],_::_,_,_,h=>h.elim
 |_::_,[],_,_,h=>h.elim
 |_,[],_::_,h,_=>h.elim
 |_,_::_,[],h,_=>h.elim
theorem Rel.wk(f:SWk s s')(h:Rel H ω a w s):Rel H ω a w s' where
 dH:=h.dH
 inj:=h.inj
 dom:=h.dom
 defers:=h.defers
 dJ:=by
  rcases f.o 0 with e|⟨e,_⟩|⟨_,_,e,_,_⟩
  .exact e
  .rw[e];exact h.dJ
  .rw[h.dJ]at e;cases e
 slots i:=by
  have k:=h.slots i;have d:=f.t i;revert k d;generalize s.sl i=t;generalize s'.sl i=t';intro k d;unfold TWk at d;split at d
  .exact bU.wk f d k
  .obtain⟨r,o,p⟩:=k;exact⟨r,o,aiW.wk f d p⟩
  .rename_i i c j u;obtain⟨q,n,g⟩:=d;subst q;obtain⟨b,ls⟩:=c;obtain⟨A,z⟩:=u;simp only at n g;subst n;cases b with
   |true=>obtain⟨r,o,p⟩:=k;exact⟨r,o,aiW.wk f g p⟩
   |false=>
    intro B y;subst y;match ls,g with
    |[l],g=>exact bU.wk f g.1 (k l rfl)
  .trivial
  .cases d
 c7 id cells m:=by
  rcases f.o id with e|⟨e,n⟩|⟨v,x,q,n,g⟩
  .rw[e]at m;cases m
  .grind
  .rw[n]at m;injection m with m
   subst m;obtain⟨b,arr,T,o,p,C⟩:=h.c7 id v q
   grind[aiW.wk]
def abU:∀ {p:iU} {a:List Nat} (r:List (KV real)),afi (A:=real) p a=true->pathOf (A:=real) a (ixs (A:=real) p++r)=p
 |[],[],_,_=>by unfold pathOf;rfl
 |q::p,j::a,r,h=>by simp only[afi,aQ]at h;have e:=bc h.1;show(akN (A:=real) ⟨.val (.int .i64),q.1⟩,j)::pathOf (A:=real) a (ixs (A:=real) p++r)=q::p;rw[abU r h.2,<-e];rfl
 |[],_::_,_,h=>nomatch h
 |_::_,[],_,h=>nomatch h
theorem adu:∀ {p:iU} {a:List Nat},afi (A:=real) p a=true->(ixs (A:=real) p).length=a.length
 |[],[],_=>rfl
 |_::_,_::_,h=>by simp only[afi,aQ]at h;show(ixs (A:=real) _).length+1=_+1;rw[adu h.2]
 |[],_::_,h=>nomatch h
 |_::_,[],h=>nomatch h
def aba{id g h:Nat}{p:iU}(a:held s id g h p=true):(s.ob id).g=g/\(p=[]\/(s.ob id).h=h):=by
 grind[held,Nat.eq_of_beq_eq_true]
def JR{α:Type}{b:Bool}{x:α}{y:α}(h:(bif b then some x else none)=some y):b=true/\x=y:=by
 grind
def SL.ZY{k:SL}{l:L}{f:List (KV real)}(h:k.un s l=some f)(r:List (KV real)):LWk s l (k.fi (f++r))/\f.length=k.ks.length:=by
 unfold SL.un at h;split at h
 .obtain rfl:=aG h;exact⟨.dead _,rfl⟩
 .obtain rfl:=aG h;exact⟨.undef,rfl⟩
 .obtain⟨_,rfl⟩:=JR h;exact⟨.val _ _,rfl⟩
 .obtain⟨e,rfl⟩:=JR h;have e:=Ty.eq_of_beq e;injection e with a b
  subst a b;exact⟨.eI _ _,rfl⟩
 .obtain⟨e,rfl⟩:=JR h;simp only[aQ]at e;obtain⟨a,b,c⟩:=e;have a:=bc a;subst a;refine⟨?_,by rw[adu c];simp[SL.ks]⟩;simp only[SL.fi];rw[abU r c];exact .ref _ _ _ _ (aba b).1 (aba b).2
 .obtain⟨e,rfl⟩:=JR h;simp only[aQ]at e;obtain⟨a,b,c⟩:=e;have a:=bc a;have c:=bc c;subst a c;exact⟨.ptr _ _ _ (bc b),rfl⟩
 .obtain⟨e,rfl⟩:=JR h;simp only[aQ]at e;obtain⟨a,b,c,d⟩:=e;have a:=bc a;have d:=bc d;subst a d;refine⟨?_,by grind[adu,SL.ks]⟩;rw[gV];simp only[SL.fi];rw[abU r c];exact .bH _ _ _ _ _ _ (aba b).1 (aba b).2
 .obtain⟨e,rfl⟩:=JR h;simp only[aQ]at e;obtain⟨a,b⟩:=e;have a:=bc a;subst a;exact⟨.cD _ _ (bc b),rfl⟩
 .cases h
def ab6:∀ {ks:List SL} {ls:List L} {a:List (KV real)},uns s ks ls=some a->∀r,aH (LWk s) ls (fis ks (a++r))/\a.length=(ks.map SL.ks).flatten.length
 |[],[],a,h,r=>by obtain rfl:=aG h;exact⟨trivial,rfl⟩
 |k::ks,l::ls,a,h,r=>by
  simp only[uns]at h;split at h
  .rename_i x y b c;obtain rfl:=aG h;obtain⟨d,e⟩:=SL.ZY b (y++r);obtain⟨g,f⟩:=ab6 c r;refine⟨?_,by simp[e,f]⟩;rw[je];refine⟨d,?_⟩
   grind
  .cases h
 |[],_::_,_,h,_=>nomatch h
 |_::_,[],_,h,_=>nomatch h
def ST.ZY{k:ST}{t:bK}{f:List (KV real)}(h:k.un s t=some f)(r:List (KV real)):TWk s t (k.fi (f++r))/\f.length=k.ks.length:=by
 unfold ST.un at h;split at h
 .obtain⟨d,e⟩:=ab6 h r;exact⟨d.1,e⟩
 .exact ab6 h r
 .rename_i i b ks j c;cases a:(Nat.beq j i&&(c.1==b))with
  |false=>rw[a]at h;cases h
  |true=>rw[a]at h;simp only[aQ,beq_iff_eq]at a;obtain⟨d,e⟩:=ab6 h r;exact⟨⟨bc a.1,a.2,d⟩,e⟩
 .cases h
def SO.ZY{k:SO}{o:Ob real}{a:List (KV real)}(h:k.un s o=some a)(r:List (KV real)):OWk s o (k.fi (a++r))/\a.length=k.ks.length:=by
 unfold SO.un at h;split at h
 .obtain⟨b,c⟩:=ab6 h r;exact⟨.inr (.inr ⟨_,_,rfl,rfl,b⟩),c⟩
 .obtain⟨_,rfl⟩:=JR h;exact⟨.inr (.inl ⟨rfl,λ_ e=>by cases e⟩),rfl⟩
 .obtain⟨_,rfl⟩:=JR h;exact⟨.inr (.inl ⟨rfl,λ_ e=>by cases e⟩),rfl⟩
 .obtain⟨_,rfl⟩:=JR h;exact⟨.inr (.inl ⟨rfl,λ_ e=>by cases e⟩),rfl⟩
 .cases h
def agm:∀ {l:List (Nat×ST)} {a:List (KV real)},ajL s l=some a->∀r,(∀i,TWk s (s.sl i) (ahX l (a++r) i))/\a.length=(l.map λp=>p.2.ks).flatten.length
 |[],a,h,r=>by
  obtain rfl:=aG h;refine⟨λi=>?_,rfl⟩;show TWk s (s.sl i) (.one .dead);cases s.sl i with
  |one l=>exact .dead l
  |_=>trivial
 |p::l,a,h,r=>by
  simp only[ajL]at h;split at h
  .rename_i x y b c;obtain rfl:=aG h;obtain⟨f,d⟩:=ST.ZY b (y++r);obtain⟨g,e⟩:=agm c r;refine⟨λi=>?_,by simp[d,e]⟩
   grind[ahX,Nat.eq_of_beq_eq_true]
  .cases h
def agl:∀ {l:List (Nat×SO)} {a:List (KV real)},ajK s l=some a->∀r i,OWk s (s.ob i).o (ahW l (a++r) i)
 |[],a,h,r,i=>.inl rfl
 |p::l,a,h,r,i=>by
  simp only[ajK]at h;split at h
  .rename_i x y b c;obtain rfl:=aG h;obtain⟨f,d⟩:=SO.ZY b (y++r);rw[je];show OWk s (s.ob i).o (bif Nat.beq p.1 i then p.2.fi (x++(y++r))else ahW l ((x++(y++r)).drop p.2.ks.length) i);cases e:Nat.beq p.1 i with
   |true=>grind[Nat.eq_of_beq_eq_true]
   |false=>rw[<-d,List.drop_left];exact agl c r i
  .cases h
def Sk.ZY{k:Sk}{x:fE real k.ks}(h:k.un s=some x):SWk s (k.fi x):=by
 unfold Sk.un at h;split at h
 .rename_i u v a b;have e:=gJ _ _ _ h;obtain⟨c,d⟩:=agm a v;refine⟨λ_=>rfl,λ_=>rfl,λid=>?_,λi=>?_⟩
  .show OWk s (s.ob id).o (ahW k.ob ((bJ _ x).drop (k.sl.map λp=>p.2.ks).flatten.length) id);rw[e,<-d,List.drop_left];have:=agl b [] id;rwa[e9]at this
  .show TWk s (s.sl i) (ahX k.sl (bJ _ x) i);rw[e];exact c i
 .cases h
end
structure IpR where
 sk:Sk
 ex:Xf
 fn:fE real sk.ks->Option (Zl real ex)
def IpR.t(l:IpR):(R:Type)->S->(Ex->S->Option R)->Option R:=λR s k=>(l.sk.un s).bind λx=>(l.fn x).bind λq=>Zl.elim l.ex q k
section
variable {P:Program}{E:Env}{Ψ:bA->Option hJ}{Λ:Nat->Option dR}
variable (E Ψ Λ) in
def aaI(n:Nat)(c:Code)(a:Sk)(d:Xf)(x:fE real a.ks):Option (fE real a.ks⊕Zl real d):=
 exec E (av _) (tab Ψ _) (Am Λ FN FR _) n c (a.fi x) λb s=>match b with
  |.normal=>(a.un s).map .inl
  |b=>(ZR d b s).map .inr
def abV:∀ {a:Xf} {b:Ex} {s:S} {q:Zl real a},ZR a b s=some q->∃s':S,(∀ {M:Type} (k:Ex->S->M),Zl.elim a q k=k b s')/\SWk s s'
 |[],_,_,_,h=>by cases h
 |e::a,b,s,q,h=>by
  simp only[ZR]at h;cases c:Ex.beq e.1 b with
  |true=>
   rw[c]at h;simp only[aJ]at h;cases f:e.2.un s with
   |none=>rw[f]at h;cases h
   |some y=>rw[f]at h;have h:=aG h;subst h;have j:=Ex.eq_of_beq c;subst j;exact⟨e.2.fi y,λk=>rfl,Sk.ZY f⟩
  |false=>
   rw[c]at h;simp only[cz]at h;cases d:ZR a b s with
   |none=>rw[d]at h;cases h
   |some l=>rw[d]at h;have h:=aG h;subst h;obtain⟨s',g,i⟩:=abV d;exact⟨s',λk=>g k,i⟩
def apX(hE:bD P E)(hC:eA P E Ψ){n:Nat}{c:Code}{u:Sk}{o:Xf}(hL:e8 P E Λ (bY n c))(p:Nat):FW P E c (IpR.t ⟨u,o,iter (aaI E Ψ Λ n c u o) p⟩):=by
 intro H R U ω a w s k r hn hU h t;have t:((u.un s).bind λx=>(iter (aaI E Ψ Λ n c u o) p x).bind λq=>Zl.elim o q k)=some r:=t;cases Z:u.un s with
 |none=>rw[Z]at t;cases t
 |some x=>
 rw[Z]at t;have t:((iter (aaI E Ψ Λ n c u o) p x).bind λq=>Zl.elim o q k)=some r:=t;cases W:iter (aaI E Ψ Λ n c u o) p x with
 |none=>rw[W]at t;cases t
 |some q=>
 rw[W]at t;have t:Zl.elim o q k=some r:=t;let b (m:Nat) (d:Act) (f:World):Prop:=∃x' L,Rel H L d f (u.fi x')/\cH ω w L f/\d.tmps.size=a.tmps.size/\(∀j,U j->d.tmps.getD j undef=a.tmps.getD j undef)/\iter (aaI E Ψ Λ n c u o) m x'=some q;have i:∀d f,(∃m,b m d f)->∃m,b m d f/\∀k,b k d f->m<=k:=λd f ⟨m,O⟩=>B7 m O;have z:∃I:Act->World->Nat,∀d f,(∃m,b m d f)->b (I d f) d f/\∀k,b k d f->I d f<=k:=by
  classical
  exact⟨λd f=>if h:∃m,b m d f then Classical.choose (i d f h)else 0,λd f h=>by
   show b (if h:∃m,b m d f then Classical.choose (i d f h)else 0) d f/\∀k,b k d f->(if h:∃m,b m d f then Classical.choose (i d f h)else 0)<=k;rw[kg h]
   grind⟩
 obtain⟨I,z⟩:=z;refine CQ (λd f=>∃m,b m d f) I ⟨_,x,ω,h.wk (Sk.ZY Z),cH.refl _ _,rfl,λ_ _=>rfl,W⟩ (λS w1 hI=>?_);obtain⟨x1,eD,h1,e1,F,J,l⟩:=(z S w1 hI).1;cases O:I S w1 with
 |zero=>rw[O]at l;cases l
 |succ m=>
  rw[O]at l;simp only[iter]at l;cases T:aaI E Ψ Λ n c u o x1 with
  |none=>rw[T]at l;cases l
  |some A=>
   rw[T]at l;have Y:=iJ hE hC rX (U:=U) c n eD S w1 _ _ (λj C=>hU j C) hL (F.trans hn) h1 T;refine wp_mono Y λe N Q B=>?_;obtain⟨ex,M,G,K,t2,t3,t4,t5,t6⟩:=B;have out:∀v,(ZR o v G).map Sum.inr=some A->FV e v->Post H U ω a w k r e N Q:=by
    intro v B V;cases D:ZR o v G with
    |none=>rw[D]at B;cases B
    |some q'=>rw[D]at B;have B:=aG B;subst B;have Iy:q'=q:=aG l;subst Iy;obtain⟨s3,z1,z2⟩:=abV D;rw[z1]at t;exact⟨v,M,s3,V,t2.wk z2,e1.trans t3,t,t5.trans F,λj C=>(t6 j C).trans (J j C)⟩
   cases ex with
   |normal=>
    cases e with
    |normal=>
     have g:(u.un G).map Sum.inl=some A:=t4;cases X:u.un G with
     |none=>rw[X]at g;cases g
     |some x2=>
      rw[X]at g;have g:=aG g;subst g;have y:b m N Q:=⟨x2,M,t2.wk (Sk.ZY X),e1.trans t3,t5.trans F,λj C=>(t6 j C).trans (J j C),l⟩
      refine⟨⟨m,y⟩,?_⟩;have Ix:I N Q<=m:=(z N Q ⟨m,y⟩).2 m y;omega
    |_=>cases K
   |exit j=>
    cases e with
    |exit j'=>have g:(ZR o (.exit j) G).map Sum.inr=some A:=t4;exact out (.exit j) g K
    |_=>cases K
   |ret=>
    cases e with
    |ret=>have g:(ZR o .ret G).map Sum.inr=some A:=t4;exact out .ret g K
    |_=>cases K
end
def IpR.lp(l:IpR):dR:=⟨[],[],[],λ_ _=>none,some l.t⟩
def ilk {P:Program} {E:Env} (f:bD P E) {T:List (bA×hJ)} (g:vf P T) {n:Nat} {c:Code} {a:Sk} {b:Xf} (m:List (Nat×dR)) (j:ES P E n c m 0) (i:oz (bY n c) m=true)
  {B:fE real a.ks->Option (fE real a.ks⊕Zl real b)} (e:∀x,aaI E (vl T) (qc m) n c a b x=B x):nB P E c (IpR.lp ⟨a,b,λx=>iter B big x⟩):=
 ⟨λt d=>by have d:=aG d;subst d;have:aaI E (vl T) (qc m) n c a b=B:=funext e;rw[<-this];exact apX f (uc (rD g)) (zC i j) big,λ_ _ _ _ _ _ _ _ _ _ _ _ h=>nomatch h⟩
end Go.R
namespace Go.Fn
open Go.R
def zB:Bool:=false
def kC:YdL:=letI a:=(0:Int);(a,a,a,a,ByteArray.empty,a,a,a,a,a,a,false)
def S5:Lj:=([]:Lj)
def zM:YaT:=([]:YaT)
def ZZ:YcC:=([]:YcC)
def TW(a b c d:Int)(e:ByteArray)(f g h i j k:Int)(l:Bool)(m:Int):Oz:=letI n:=aa .sub .i64 m (ByteArray.size e:Int);cond (ak .lss n 0) (some (-1,())) (some (n,()))
def TY(a b c d:Int)(e:ByteArray)(f g h i j k:Int)(l:Bool):Option (Int×Int×Int×Int×ByteArray×Int×YdJ):=(Pp f g h i j k l).bind λm=>letI n:=m.2.2.2;some (a,b,c,d,e,m.1,m.2.1,m.2.2.1,n.1,n.2.1,n.2.2.1,n.2.2.2.1,())
def NV(a:YaK)(b:YbI):YbT:=letI c:=b.2.2;letI d:=c.2.2;letI e:=d.2.2;letI f:=e.2.2;letI g:=f.2.2;letI h:=g.2.2;letI i:=a.2.2.2.2.2.2.2.2.2.2.2.1;letI j:=h.2.2;letI k:=j.2.2;letI l:=k.2.2;letI m:=l.2.2;letI n:=m.2.2;letI o:=n.2.2;letI p:=o.2.2;letI q:=p.2.2;letI r:=q.2.2.1;letI s:=ae ax i r;cond (ak .lss r (bw i)) (cond (aZ i r) ((S3 s.1 s.2.1).bind λt=>(Km s.2.2.1).bind λu=>letI v:=s.2.2.2;letI w:=v.2.2.2;letI x:=w.2.2.2;cond (dF (List.append (α:=J4) ([]:Js) x.2)) (cond (dF (List.append (α:=YaA) p.1 (List.append (α:=YaA) ([]:KB) [(t.1,t.2.1,u.1,v.1,v.2.1,v.2.2.1,w.1,w.2.1,w.2.2.1,x.1,List.append (α:=J4) ([]:Js) x.2)]))) (lets (List.append (α:=YaA) p.1 (List.append (α:=YaA) ([]:KB) [(t.1,t.2.1,u.1,v.1,v.2.1,v.2.2.1,w.1,w.2.1,w.2.2.1,x.1,List.append (α:=J4) ([]:Js) x.2)])) λy=>some (.inl (b.1,b.2.1,c.1,c.2.1,d.1,d.2.1,e.1,e.2.1,f.1,f.2.1,g.1,g.2.1,h.1,h.2.1,j.1,j.2.1,k.1,k.2.1,l.1,l.2.1,m.1,m.2.1,n.1,n.2.1,o.1,o.2.1,y,p.2.1,q.1,q.2.1,aa .add .i64 r 1,()))) none) none) none) (some (.inr (.inl (b.1,b.2.1,c.1,c.2.1,d.1,d.2.1,e.1,e.2.1,f.1,f.2.1,g.1,g.2.1,h.1,h.2.1,j.1,j.2.1,k.1,k.2.1,l.1,l.2.1,m.1,m.2.1,n.1,n.2.1,o.1,o.2.1,p.1,p.2.1,q.1,q.2.1,()))))
def R3 k x:=iter (NV k) big x
def PV(a b c d e f g h i j k:Int)(l:KB)(m:Kj)(n:JI)(o:Js):YeC:=cond (dF (List.append (α:=YaW) ([]:Kj) m)) (cond (dF (List.append (α:=YbC) ([]:JI) n)) (cond (dF (List.append (α:=J4) ([]:Js) o)) (lets (List.append (α:=YaW) ([]:Kj) m) λp=>letI q:=(0:Int);(R3 (a,b,c,d,e,f,g,h,i,j,k,l,m,n,o,()) (q,q,q,q,q,q,q,q,q,q,q,([]:KB),([]:Kj),([]:JI),([]:Js),a,b,c,d,e,f,g,h,i,j,k,([]:KB),p,List.append (α:=YbC) ([]:JI) n,List.append (α:=J4) ([]:Js) o,q,())).bind λr=>Sum.elim (λs=>letI t:=s.2.2.2.2.2.2.2.2.2.2.2.2.2.2.2;letI u:=t.2.2.2.2;letI v:=u.2.2.2;letI w:=v.2.2.2.2;some (t.1,t.2.1,t.2.2.1,t.2.2.2.1,u.1,u.2.1,u.2.2.1,v.1,v.2.1,v.2.2.1,v.2.2.2.1,w.1,w.2.1,w.2.2.1,w.2.2.2.1,())) (λs=>Empty.elim s) r) none) none) none
def Jr(a b c d e f g h i j k:Int)(l:KB)(m:Kj)(n:JI)(o:Js)(p q r s:Int)(t:ByteArray)(u v w x y z:Int)(A:Bool):YbR:=letI B:=(0:Int);(bS s B (aa .sub .i64 (bw l) 1)).bind λC=>cond (Bool.not C.1) (some (a,b,c,d,e,f,g,h,i,j,k,l,m,n,o,2,())) ((Ja q).bind λD=>letI E:=some (a,b,c,d,e,f,g,h,i,j,k,l,m,n,o,(1:Int),());cond (Bool.not D.1) E ((bS r 1 24).bind λF=>letI G:=(r,q,s,B,B,B,B,B,B,B,B,B,B);cond (Bool.not F.1) E (cond (ak .eql (bw m) 12) (some (a,b,c,d,e,f,g,h,i,j,k,l,m,n,o,10,())) (cond (dF (List.append (α:=YaW) m (List.append (α:=YaW) ([]:Kj) [G]))) (lets (List.append (α:=YaW) ([]:Kj) [G]) λ_=>lets (List.append (α:=YaW) m (List.append (α:=YaW) ([]:Kj) [G])) λH=>some (a,b,c,d,e,f,g,h,i,j,k,l,H,n,o,B,())) none))))
def Un(a b c d e f g h i j k:Int)(l:KB)(m:Kj)(n:JI)(o:Js)(p q r s:Int)(t:ByteArray)(u v w x y z:Int)(A:Bool):YbR:=letI B:=aa .sub .i64 q 1;letI C:=ae aS m B;letI D:=C.2.2.2;cond (aZ m B) (cond (ak .neq D.1 0) (some (a,b,c,d,e,f,g,h,i,j,k,l,m,n,o,3,())) ((PY a b c d e f g h i j k l m n o).bind λE=>letI F:=D.2.2.2;letI G:=F.2.2.2;cond (ak .gtr (aa .add .i64 E.1 C.1) i) (some (a,b,c,d,e,f,g,h,i,j,k,l,m,n,o,8,())) (cond (aZ m B) (lets (cS m B (C.1,C.2.1,C.2.2.1,1,D.2.1,D.2.2.1,F.1,F.2.1,F.2.2.1,G.1,G.2.1,G.2.2.1,G.2.2.2)) λH=>some (a,b,c,d,e,f,g,h,i,j,k,l,H,n,o,0,())) none))) none
def MQ(a:YcE)(b:YbH×YdC):Option (YbH×YdC⊕YdO):=letI c:=b.2.1;letI d:=b.2.2.1;letI e:=(ae Ur c d).2;letI f:=(a.2.1,e.1,e.2);cond (ak .lss d (bw c)) (cond (aZ c d) (cond (aZ c d) (cond (dF (List.append (α:=YaO) b.1 (List.append (α:=YaO) ([]:YbH) [f]))) (some (.inl (List.append (α:=YaO) b.1 (List.append (α:=YaO) ([]:YbH) [f]),c,aa .add .i64 d 1,()))) none) none) none) (some (.inr (.inl (b.1,()))))
def MS k x:=iter (MQ k) big x
def MP(a:YbW)(b:YdC):YcH:=letI c:=b.2.1;letI d:=ae br a.1 c;cond (ak .lss c (bw a.1)) (cond (aZ a.1 c) ((Vr d.1 d.2.1 d.2.2).bind λe=>(MS (a.1,c,()) (b.1,e.1,0,())).bind λf=>Sum.elim (λg=>some (.inl (g.1,aa .add .i64 c 1,()))) (λg=>Empty.elim g) f) none) (some (.inr (.inl (b.1,()))))
def MR k x:=iter (MP k) big x
def QZ(a:RB):YcU:=(Mj a).bind λb=>cond (Bool.not b.1) (some (([]:YbH),())) ((MR (a,()) (([]:YbH),0,())).bind λc=>Sum.elim (λd=>some (d.1,())) (λd=>Empty.elim d) c)
def SN(a:RB)(b:Int):YeB:=(QZ a).bind λc=>(Q5 c.1 b).bind λd=>letI e:=ae Ur c.1 d.1;letI f:=some ((0:Int),(0:Int),(0:Int),false,());cond (ak .lss b 1) f (cond (ak .lss d.1 0) f (cond (aZ c.1 d.1) (some (e.1,e.2.1,e.2.2,true,())) none))
def Py(a:RB)(b c:Int):Option (RB×YbN):=(Km a).bind λd=>(SN a c).bind λe=>(N6 a b).bind λf=>letI g:=some (d.1,(0:Int),(0:Int),(0:Int),false,());cond (Bool.not e.2.2.2.1) g ((bS b 1 999).bind λh=>letI i:=ae br a e.1;cond (Bool.not h.1) g (cond (ak .geq f.1 0) g (cond (aZ a e.1) ((SZ i.1 i.2.1 i.2.2 e.1 e.2.1 e.2.2.1 b c).bind λj=>cond (aZ d.1 e.1) (some (cS d.1 e.1 (j.1,j.2.1,j.2.2.1),e.1,e.2.1,c,true,())) none) none)))
def Pz(a b:Int)(c d e:Bool)(f:Int):YbD:=(Jm a b c d e).bind λg=>letI h:=some (a,b,c,d,e,false,());letI i:=cond (Bool.not (pI e (ak .eql f 2))) h (some (f,(1:Int),c,d,e,true,()));cond (Bool.not g.1) h (cond (ak .neq a 0) h (cond (ak .neq f 1) (cond (ak .neq f 2) h i) i))
def rm(a b c d e f g h i j k:Int)(l:KB)(m:Kj)(n:JI)(o:Js)(p q r:Int):YeC:=letI s:=aa .sub .i64 p 1;letI t:=ae aS m s;letI u:=t.2.2;letI v:=u.1;letI w:=u.2.2.2.2.2;cond (aZ m s) (cond (aZ m s) (lets (cS m s (t.1,t.2.1,v,2,u.2.2.1,u.2.2.2.1,u.2.2.2.2.1,w.1,w.2.1,w.2.2.1,w.2.2.2.1,w.2.2.2.2.1,w.2.2.2.2.2)) λx=>letI y:=ae ax l v;letI z:=y.2.2;letI A:=z.2.2.2.2;cond (aZ l v) (lets (cS l v (y.1,y.2.1,z.1,z.2.1,z.2.2.1,z.2.2.2.1,A.1,A.2.1,p,A.2.2.2.1,A.2.2.2.2)) λB=>letI C:=ae ax B v;letI D:=C.2.2;letI E:=D.2.2.2.2;cond (aZ B v) (lets (cS B v (C.1,C.2.1,D.1,D.2.1,D.2.2.1,D.2.2.2.1,E.1,E.2.1,E.2.2.1,q,E.2.2.2.2)) λF=>(Pz 0 0 false false (ak .eql r 2) r).bind λG=>letI H:=ae ax F v;letI I:=H.2.2.2.2.2.2.2.2;cond (aZ F v) (lets (cS F v (H.1,H.2.1,H.2.2.1,G.1,G.2.1,G.2.2.1,G.2.2.2.1,G.2.2.2.2.1,I.1,I.2.1,I.2.2)) λJ=>some (a,b,c,d,e,f,g,h,i,j,k,J,x,n,o,())) none) none) none) none) none
def KW(a b c d e f g h i j k:Int)(l:KB)(m:Kj)(n:JI)(o:Js)(p q r s:Int)(t:ByteArray)(u v w x y z:Int)(A:Bool):YbR:=letI B:=aa .sub .i64 q 1;letI C:=ae aS m B;letI D:=C.2.2.1;letI E:=ae ax l D;letI F:=E.2.2.2;letI G:=F.2.2.2;cond (aZ m B) (cond (aZ l D) (cond (ak .neq C.2.2.2.1 1) (some (a,b,c,d,e,f,g,h,i,j,k,l,m,n,o,3,())) (cond (ak .neq G.2.2.1 0) (some (a,b,c,d,e,f,g,h,i,j,k,l,m,n,o,4,())) ((Oo E.1 E.2.1 k).bind λH=>cond (Bool.not H.1) (some (a,b,c,d,e,f,g,h,i,j,k,l,m,n,o,5,())) ((Py E.2.2.1 q C.1).bind λI=>cond (Bool.not I.2.2.2.2.1) (some (a,b,c,d,e,f,g,h,i,j,k,l,m,n,o,8,())) (cond (aZ l D) (lets (cS l D (E.1,E.2.1,I.1,F.1,F.2.1,F.2.2.1,G.1,G.2.1,G.2.2.1,G.2.2.2.1,G.2.2.2.2)) λJ=>(rm a b c d e f g h i j k J m n o q 0 1).bind λK=>letI L:=K.2.2.2.2;letI M:=L.2.2.2;letI N:=M.2.2.2.2;some (K.1,K.2.1,K.2.2.1,K.2.2.2.1,L.1,L.2.1,L.2.2.1,M.1,M.2.1,M.2.2.1,M.2.2.2.1,N.1,N.2.1,N.2.2.1,N.2.2.2.1,0,())) none))))) none) none
def S0(a:JI)(b c d e:Int):J8:=(ND a).bind λf=>letI g:=some (false,());cond f.1 ((Ja b).bind λh=>cond h.1 ((Ja c).bind λi=>cond i.1 ((bS d 1 999).bind λj=>cond j.1 ((M3 e).bind λk=>some (k.1,())) g) g) g) g
def Px(a b c d e f:Int)(g:Bool)(h i:Int):J8:=(Lv a b c d e f g).bind λj=>letI k:=some (false,());letI l:=cond (ak .leq e i) (some (ak .lss i f,())) k;cond j.1 (cond (Bool.not g) (cond (ak .eql c 0) l (cond (ak .eql c h) l k)) k) k
def M0(a:JI×Int×YcS)(b:YbF×YcC×LN):Option (YbF×YcC×LN⊕YbF×YcC×Unit⊕Empty):=letI c:=b.2.2.1;letI d:=ae gI a.1 c;letI e:=d.2.2.2;cond (ak .lss c (bw a.1)) (cond (aZ a.1 c) ((Px d.1 d.2.1 d.2.2.1 e.1 e.2.1 e.2.2.1 e.2.2.2 a.2.1 a.2.2.1).bind λf=>letI g:=aa .add .i64 c 1;letI h:=aa .sub .i64 a.2.2.2.2.1 1;letI i:=(b.1,b.2.1,g,());cond f.1 (cond (ak .geq e.1 (aa .add .i64 h a.2.2.2.1)) (cond (aZ b.1 h) (cond (aZ (ae ZZ b.1 h) d.2.1) (cond (ae zB (ae ZZ b.1 h) d.2.1) (cond (aZ b.2.1 d.1) (some (.inl (b.1,cS b.2.1 d.1 true,g,()))) none) (some (.inl i))) none) none) (some (.inl i))) (some (.inl i))) none) (some (.inr (.inl (b.1,b.2.1,()))))
def QC k x:=iter (M0 k) big x
def QB(a:JI×YcS)(b:YbF×LN):Option (YbF×LN⊕YbF×Unit⊕Empty):=cond (ak .leq b.2.1 6) (cond (lu 41) ((QC (a.1,a.2.1,a.2.2.1,a.2.2.2.1,b.2.1,()) (b.1,nw (41:Int) false,0,())).bind λc=>Sum.elim (λd=>cond (dF (List.append (α:=YcC) d.1 (List.append (α:=YcC) ([]:YbF) [d.2.1]))) (some (.inl (List.append (α:=YcC) d.1 (List.append (α:=YcC) ([]:YbF) [d.2.1]),aa .add .i64 b.2.1 1,()))) none) (λd=>Empty.elim d) c) none) (some (.inr (.inl (b.1,()))))
def M1 k x:=iter (QB k) big x
def Q8(a:JI)(b c d e:Int):Option (YbF×Unit):=letI f:=ae ZZ (List.append (α:=YcC) ([]:YbF) [nw (41:Int) false]) 0;cond (lu 41) (cond (aZ (List.append (α:=YcC) ([]:YbF) [nw (41:Int) false]) 0) (cond (aZ f b) (lets (cS (List.append (α:=YcC) ([]:YbF) [nw (41:Int) false]) 0 (cS f b true)) λg=>(M1 (a,c,d,e,()) (g,1,())).bind λh=>Sum.elim (λi=>some (i.1,())) (λi=>Empty.elim i) h) none) none) none
def V8(a:YbF×LN)(b:LN):YaZ:=letI c:=ae ZZ a.1 b.1;cond (ak .lss b.1 (bw a.1)) (cond (aZ a.1 b.1) (cond (aZ c a.2.1) (cond (ae zB c a.2.1) (some (.inr (.inl (b.1,())))) (some (.inl (aa .add .i64 b.1 1,())))) none) none) (some (.inr (.inr (.inl ()))))
def M2 k x:=iter (V8 k) big x
def Q9(a:YbF)(b:Int):Oz:=(M2 (a,b,()) (0,())).bind λc=>Sum.elim (λd=>some (d.1,())) (λd=>Sum.elim (λ_=>some (-1,())) (λe=>Empty.elim e) d) c
def W2(a:JI×YcS)(b:YbF×YcO):Option (YbF×YcO⊕YbF×YcM⊕Empty):=letI c:=b.2;letI d:=c.2.2.1;letI e:=ae gI a.1 d;letI f:=e.2.2.2;letI g:=(b.1,c.1,c.2.1,aa .add .i64 d 1,());cond (ak .lss d (bw a.1)) (cond (aZ a.1 d) (cond (ak .eql e.1 c.2.1) ((Px e.1 e.2.1 e.2.2.1 f.1 f.2.1 f.2.2.1 f.2.2.2 a.2.1 a.2.2.1).bind λh=>letI i:=aa .sub .i64 a.2.2.2.1 1;cond h.1 (cond (ak .geq f.1 i) (cond (aZ b.1 i) (cond (aZ (ae ZZ b.1 i) e.2.1) (cond (ae zB (ae ZZ b.1 i) e.2.1) (cond (dF (List.append (α:=Int) c.1 (List.append (α:=Int) ([]:Kz) [d]))) (some (.inr (.inl (b.1,List.append (α:=Int) c.1 (List.append (α:=Int) ([]:Kz) [d]),e.2.1,())))) none) (some (.inl g))) none) none) (some (.inl g))) (some (.inl g))) (some (.inl g))) none) (some (.inr (.inl (b.1,c.1,c.2.1,()))))
def NQ k x:=iter (W2 k) big x
def W1(a:JI×Nt)(b:YbF×YcO):Option (YbF×YcO⊕YcN⊕Empty):=letI c:=b.2.2.2.1;cond (ak .gtr c 0) ((NQ (a.1,a.2.1,a.2.2.1,c,()) (b.1,b.2.1,b.2.2.1,0,())).bind λd=>Sum.elim (λe=>some (.inl (e.1,e.2.1,e.2.2.1,aa .sub .i64 c 1,()))) (λe=>Empty.elim e) d) (some (.inr (.inl (b.2.1,()))))
def NP k x:=iter (W1 k) big x
def Ws(a:JI)(b c d e:Int):YdP:=(S0 a b c d e).bind λf=>letI g:=some (([]:Kz),false,());cond (Bool.not f.1) g ((Q8 a c d e 0).bind λh=>(Q9 h.1 b).bind λi=>cond (ak .lss i.1 0) g ((NP (a,d,e,()) (h.1,([]:Kz),b,i.1,())).bind λj=>Sum.elim (λk=>some (k.1,true,())) (λk=>Empty.elim k) j))
def PG(a:JI)(b c d e:Int):J8:=(Ws a b c d e).bind λf=>some (f.2.1,())
def L5(a:Nt)(b:YcQ):Option (YcQ⊕YaV⊕YcJ):=letI c:=b.2.2;letI d:=c.2.2.2;letI e:=aZ c.1 a.1;letI f:=d.2.2.2;letI g:=(ae br c.1 a.1).2.2;letI h:=f.2.2.2.1;cond e (cond (ak .lss h (bw g)) (cond e (cond (aZ g h) (cond (ak .eql (ae fe g h).1 a.2.1) (cond e (cond (aZ g h) (some (.inr (.inl ((ae fe g h).2.2.2,())))) none) none) (some (.inl (b.1,b.2.1,c.1,c.2.1,c.2.2.1,d.1,d.2.1,d.2.2.1,f.1,f.2.1,f.2.2.1,aa .add .i64 h 1,())))) none) none) (some (.inr (.inr (.inl ()))))) none
def PX k x:=iter (L5 k) big x
def Mo(a b c d e f g h i j k:Int)(l:KB)(m:Kj)(n:JI)(o:Js)(p:Int):J8:=letI q:=aa .sub .i64 p 1;letI r:=(ae aS m q).2.2.1;letI s:=ae ax l r;letI t:=s.2.2;cond (aZ m q) (cond (aZ l r) ((N6 t.1 p).bind λu=>letI v:=t.2.2.2;(PX (u.1,u.2.1,()) (s.1,s.2.1,t.1,t.2.1,t.2.2.1,v.1,v.2.1,v.2.2.1,v.2.2.2.1,v.2.2.2.2.1,v.2.2.2.2.2,0,())).bind λw=>Sum.elim (λx=>some (x.1,())) (λx=>Sum.elim (λ_=>some (false,())) (λy=>Empty.elim y) x) w) none) none
def Ug(a:Unit)(b:Nt):YbG:=cond (ak .lss b.2.1 3) (cond (eE 2147483647) none (some (.inl (aa .rem .i64 (aa .mul .i64 b.1 48271) 2147483647,aa .add .i64 b.2.1 1,())))) (some (.inr (.inl (b.1,()))))
def PB k x:=iter (Ug k) big x
def XV(a:Unit)(b:YbJ):YdZ:=cond (ak .lss (ByteArray.size b.1:Int) 6) (cond (lz (ByteArray.mk #[48]) b.1) (some (.inl (ByteArray.append (ByteArray.mk #[48]) b.1,()))) none) (some (.inr (.inl (b.1,()))))
def Uh k x:=iter (XV k) big x
def RA(a b:Int):YdG:=(Jn a).bind λc=>letI d:=(1000000:Int);cond (Bool.not c.1) (some (ByteArray.mk #[],())) ((bS b 0 d).bind λe=>cond (Bool.not e.1) (some (ByteArray.mk #[],())) (cond (eE 2147483647) none ((PB () (aa .rem .i64 (aa .add .i64 a (aa .mul .i64 65537 b)) 2147483647,0,())).bind λf=>Sum.elim (λg=>cond (eE d) none ((Ku (aa .rem .i64 g.1 d)).bind λh=>(Uh () (h.1,())).bind λi=>Sum.elim (λj=>some (j.1,())) (λj=>Empty.elim j) i)) (λg=>Empty.elim g) f)))
def NR(a:ByteArray×YbQ)(b:LN):YaZ:=letI c:=a.2.2;(KO a.2.1 c.1 c.2.1 c.2.2.1 c.2.2.2.1).bind λd=>cond d.1 (cond (ak .leq b.1 1000000) (cond (ak .lss b.1 (aa .add .i64 c.1 5)) ((RA a.2.1 b.1).bind λe=>cond (wW .eql e.1 a.1) (some (.inr (.inl (b.1,())))) (some (.inl (aa .add .i64 b.1 1,())))) (some (.inr (.inr (.inl ()))))) (some (.inr (.inr (.inl ()))))) (some (.inr (.inr (.inl ()))))
def RZ k x:=iter (NR k) big x
def SR(a b c d e:Int)(f:ByteArray):Oz:=(RZ (f,a,b,c,d,e,()) (b,())).bind λg=>Sum.elim (λh=>some (h.1,())) (λh=>Sum.elim (λ_=>some (-1,())) (λi=>Empty.elim i) h) g
def V7(a:LN)(b:Nt):YbG:=cond (ak .lss b.2.1 a.1) (some (.inl (aa .mul .i64 2 b.1,aa .add .i64 b.2.1 1,()))) (some (.inr (.inl (b.1,()))))
def QA k x:=iter (V7 k) big x
def Q7(a:Int):Oz:=(QA (a,()) (1,0,())).bind λb=>Sum.elim (λc=>some (c.1,())) (λc=>Empty.elim c) b
def Q6(a b c d e f g:Int):YcX:=cond (ak .geq f 0) (some (a,f,0,0,e,0,())) (cond (ak .lss c 2) (some (a,b,aa .add .i64 c 1,d,e,2,())) ((Q7 d).bind λh=>some (a,b,0,nS false (aa .add .i64 d 1) (6:Int),aa .add .i64 g h.1,3,())))
def ZW(a b c d e:Int)(f:ByteArray)(g:Int):YcX:=(KO a b c d e).bind λh=>letI i:=some (a,b,c,d,e,(4:Int),());cond (Bool.not h.1) i ((bS g 0 20000).bind λj=>cond (Bool.not j.1) i (cond (ak .lss g e) (some (a,b,c,d,e,1,())) ((SR a b c d e f).bind λk=>cond (ak .geq k.1 0) ((Q6 a b c d e (aa .add .i64 k.1 1) g).bind λl=>some (l.1,l.2.1,l.2.2.1,l.2.2.2.1,l.2.2.2.2.1,l.2.2.2.2.2.1,())) ((Q6 a b c d e (-1) g).bind λl=>some (l.1,l.2.1,l.2.2.1,l.2.2.2.1,l.2.2.2.2.1,l.2.2.2.2.2.1,())))))
def Kd(a b c d e f g h i j k:Int)(l:KB)(m:Kj)(n:JI)(o:Js)(p q r s:Int)(t:ByteArray)(u v w x y z:Int)(A:Bool):YbR:=letI B:=aa .sub .i64 q 1;letI C:=(ae aS m B).2;letI D:=C.2.2;letI E:=ae ax l C.2.1;cond (aZ m B) (cond (aZ l C.2.1) (cond (ak .neq D.1 3) (some (a,b,c,d,e,f,g,h,i,j,k,l,m,n,o,3,())) (cond (ak .neq E.2.2.2.2.2.2.2.2.1 0) (some (a,b,c,d,e,f,g,h,i,j,k,l,m,n,o,4,())) ((Oo E.1 E.2.1 k).bind λF=>cond (Bool.not F.1) (some (a,b,c,d,e,f,g,h,i,j,k,l,m,n,o,5,())) ((PG n C.1 r q k).bind λG=>cond (Bool.not G.1) (some (a,b,c,d,e,f,g,h,i,j,k,l,m,n,o,6,())) ((Mo a b c d e f g h i j k l m n o q).bind λH=>letI I:=D.2.2.2.2;cond H.1 (some (a,b,c,d,e,f,g,h,i,j,k,l,m,n,o,7,())) ((ZW D.2.2.2.1 I.1 I.2.1 I.2.2.1 I.2.2.2.1 t k).bind λJ=>cond (aZ m B) (lets (cS m B ((ae aS m B).1,C.1,C.2.1,D.1,D.2.1,D.2.2.1,J.1,J.2.1,J.2.2.1,J.2.2.2.1,J.2.2.2.2.1,I.2.2.2.2.1,I.2.2.2.2.2)) λK=>cond (ak .neq J.2.2.2.2.2.1 0) (some (a,b,c,d,e,f,g,h,i,j,k,l,K,n,o,9,())) ((rm a b c d e f g h i j k l K n o q r 2).bind λL=>letI M:=L.2.2.2.2;letI N:=M.2.2.2;letI O:=N.2.2.2.2;some (L.1,L.2.1,L.2.2.1,L.2.2.2.1,M.1,M.2.1,M.2.2.1,N.1,N.2.1,N.2.2.1,N.2.2.2.1,O.1,O.2.1,O.2.2.1,O.2.2.2.1,0,()))) none)))))) none) none
def Ki(a b c d e f g h i j k:Int)(l:KB)(m:Kj)(n:JI)(o:Js)(p q r s:Int)(t:ByteArray)(u v w x y z:Int)(A:Bool):YbR:=letI B:=aa .sub .i64 q 1;letI C:=(ae aS m B).2.2;letI D:=ae ax l C.1;cond (aZ m B) (cond (aZ l C.1) (cond (ak .neq C.2.1 3) (some (a,b,c,d,e,f,g,h,i,j,k,l,m,n,o,3,())) (cond (ak .neq D.2.2.2.2.2.2.2.2.1 0) (some (a,b,c,d,e,f,g,h,i,j,k,l,m,n,o,4,())) ((Oo D.1 D.2.1 k).bind λE=>letI F:=some (a,b,c,d,e,f,g,h,i,j,k,l,m,n,o,(5:Int),());cond (Bool.not E.1) F ((PL D.1 D.2.1 a b c d e f g h C.2.2.1 k C.2.2.2.1).bind λG=>cond (Bool.not G.1) F ((Mo a b c d e f g h i j k l m n o q).bind λH=>cond H.1 (some (a,b,c,d,e,f,g,h,i,j,k,l,m,n,o,7,())) ((rm a b c d e f g h i j k l m n o q 0 2).bind λI=>letI J:=I.2.2.2.2;letI K:=J.2.2.2;letI L:=K.2.2.2.2;some (I.1,I.2.1,I.2.2.1,I.2.2.2.1,J.1,J.2.1,J.2.2.1,K.1,K.2.1,K.2.2.1,K.2.2.2.1,L.1,L.2.1,L.2.2.1,L.2.2.2.1,0,()))))))) none) none
def Wt(a b:NX)(c d e f g h i j k l:Int):J8:=(KG a b c d e f g h i j k (aa .add .i64 l 1)).bind λm=>some (m.2.1,())
def PA(a b:NX)(c d e f g h i j k l m:Int):J8:=(KG a b c d e f g h i j k m).bind λn=>letI o:=some (false,());cond n.2.1 ((Wt a b c d e f g h i j k m).bind λp=>cond p.1 ((bS l k 20000).bind λq=>cond q.1 ((PL a b c d e f g h i j k l m).bind λr=>some (Bool.not r.1,())) o) o) o
def JA(a b c d e f g h i j k:Int)(l:KB)(m:Kj)(n:JI)(o:Js)(p q r s t:Int):Option (Int×Int×Int×Int×Int×Int×Int×Int×Int×Int×Int×KB×Kj×JI×Js×YaV):=(M4 a b c d e f g h i j k l m n o).bind λu=>letI v:=ae ax l p;letI w:=v.2.2.2;letI x:=w.2.2.2.2;letI y:=some (a,b,c,d,e,f,g,h,i,j,k,l,m,n,o,false,());cond (Bool.not u.2.1) y (cond (ak .geq (bw u.1) 60) y (cond (aZ l p) ((QY x.2.2.2 p q r s t).bind λz=>cond (aZ l p) (lets (cS l p (v.1,v.2.1,v.2.2.1,w.1,w.2.1,w.2.2.1,w.2.2.2.1,x.1,x.2.1,x.2.2.1,z.1)) λA=>some (a,b,c,d,e,f,g,h,i,j,k,A,m,n,o,z.2.1,())) none) none))
def JN(a b c d e f g h i j k:Int)(l:KB)(m:Kj)(n:JI)(o:Js)(p q r s:Int)(t:ByteArray)(u v w x y z:Int)(A:Bool):YbR:=letI B:=aa .sub .i64 q 1;letI C:=(ae aS m B).2;letI D:=C.2;cond (aZ m B) (cond (ak .neq D.2.1 3) (some (a,b,c,d,e,f,g,h,i,j,k,l,m,n,o,3,())) ((PG n C.1 r q k).bind λE=>letI F:=D.2.2.2;cond (Bool.not E.1) (some (a,b,c,d,e,f,g,h,i,j,k,l,m,n,o,6,())) (cond (aZ l D.1) ((PA (ae ax l D.1).1 (ae ax l D.1).2.1 a b c d e f g h D.2.2.1 k F.1).bind λG=>letI H:=F.2.2.2.2;cond (Bool.not G.1) (some (a,b,c,d,e,f,g,h,i,j,k,l,m,n,o,5,())) (cond (aZ m B) (lets (cS m B ((ae aS m B).1,C.1,D.1,D.2.1,D.2.2.1,aa .add .i64 F.1 1,F.2.1,F.2.2.1,F.2.2.2.1,H.1,H.2.1,H.2.2.1,H.2.2.2)) λI=>(JA a b c d e f g h i j k l I n o D.1 2 q 0 0).bind λJ=>letI K:=J.2.2;letI L:=K.2.2;letI M:=L.2.2;letI N:=M.2.2;letI O:=N.2.2;letI P:=O.2.2;cond (Bool.not P.2.2.2.1) (some (J.1,J.2.1,K.1,K.2.1,L.1,L.2.1,M.1,M.2.1,N.1,N.2.1,O.1,O.2.1,P.1,P.2.1,P.2.2.1,10,())) (some (J.1,J.2.1,K.1,K.2.1,L.1,L.2.1,M.1,M.2.1,N.1,N.2.1,O.1,O.2.1,P.1,P.2.1,P.2.2.1,0,()))) none)) none))) none
def qb(a b c d e f g h i j k:Int)(l:KB)(m:Kj)(n:JI)(o:Js)(p q r s:Int)(t:ByteArray)(u v w x y z:Int)(A:Bool):YbR:=cond (ak .eql p 2) ((Un a b c d e f g h i j k l m n o p q r s t u v w x y z A).bind λB=>letI C:=B.2.2.2.2;letI D:=C.2.2.2.2;letI E:=D.2.2.2.2;some (B.1,B.2.1,B.2.2.1,B.2.2.2.1,C.1,C.2.1,C.2.2.1,C.2.2.2.1,D.1,D.2.1,D.2.2.1,D.2.2.2.1,E.1,E.2.1,E.2.2.1,E.2.2.2.1,())) (cond (ak .eql p 3) ((KW a b c d e f g h i j k l m n o p q r s t u v w x y z A).bind λB=>letI C:=B.2.2.2.2;letI D:=C.2.2.2.2;letI E:=D.2.2.2.2;some (B.1,B.2.1,B.2.2.1,B.2.2.2.1,C.1,C.2.1,C.2.2.1,C.2.2.2.1,D.1,D.2.1,D.2.2.1,D.2.2.2.1,E.1,E.2.1,E.2.2.1,E.2.2.2.1,())) (cond (ak .eql p 4) ((Kd a b c d e f g h i j k l m n o p q r s t u v w x y z A).bind λB=>letI C:=B.2.2.2.2;letI D:=C.2.2.2.2;letI E:=D.2.2.2.2;some (B.1,B.2.1,B.2.2.1,B.2.2.2.1,C.1,C.2.1,C.2.2.1,C.2.2.2.1,D.1,D.2.1,D.2.2.1,D.2.2.2.1,E.1,E.2.1,E.2.2.1,E.2.2.2.1,())) (cond (ak .eql p 5) ((Ki a b c d e f g h i j k l m n o p q r s t u v w x y z A).bind λB=>letI C:=B.2.2.2.2;letI D:=C.2.2.2.2;letI E:=D.2.2.2.2;some (B.1,B.2.1,B.2.2.1,B.2.2.2.1,C.1,C.2.1,C.2.2.1,C.2.2.2.1,D.1,D.2.1,D.2.2.1,D.2.2.2.1,E.1,E.2.1,E.2.2.1,E.2.2.2.1,())) ((JN a b c d e f g h i j k l m n o p q r s t u v w x y z A).bind λB=>letI C:=B.2.2.2.2;letI D:=C.2.2.2.2;letI E:=D.2.2.2.2;some (B.1,B.2.1,B.2.2.1,B.2.2.2.1,C.1,C.2.1,C.2.2.1,C.2.2.2.1,D.1,D.2.1,D.2.2.1,D.2.2.2.1,E.1,E.2.1,E.2.2.1,E.2.2.2.1,())))))
def Jg(a b c d e f g h i j k:Int)(l:KB)(m:Kj)(n:JI)(o:Js)(p q r s:Int)(t:ByteArray)(u v w x y z:Int)(A:Bool):YbR:=letI B:=(ae gI n q).2;letI C:=ak .eql p 13;letI D:=ak .eql p 14;letI E:=(u,v,w,x,y,z,A);letI F:=some (a,b,c,d,e,f,g,h,i,j,k,l,m,n,o,(1:Int),());letI G:=cond D (cond (aZ n q) (lets (cS n q ((ae gI n q).1,B.1,B.2.1,B.2.2.1,B.2.2.2.1,B.2.2.2.2.1,true)) λG=>some (a,b,c,d,e,f,g,h,i,j,k,l,m,G,o,(0:Int),())) none) (cond (ak .lss q 1) F (cond (ak .gtr q (aa .sub .i64 20000 k)) (some (a,b,c,d,e,f,g,h,i,j,k,l,m,n,o,(5:Int),())) (some (a,b,c,d,e,f,g,h,i,j,aa .add .i64 k q,l,m,n,o,(0:Int),()))));letI H:=cond D (cond (aZ n q) (cond B.2.2.2.2.2 (some (a,b,c,d,e,f,g,h,i,j,k,l,m,n,o,(3:Int),())) G) none) G;letI I:=cond C (cond (dF (List.append (α:=YbC) n (List.append (α:=YbC) ([]:JI) [E]))) (lets (List.append (α:=YbC) n (List.append (α:=YbC) ([]:JI) [E])) λI=>some (a,b,c,d,e,f,g,h,i,j,k,l,m,I,o,(0:Int),())) none) (cond D ((bS q 0 (aa .sub .i64 (bw n) 1)).bind λI=>cond (Bool.not I.1) (some (a,b,c,d,e,f,g,h,i,j,k,l,m,n,o,(2:Int),())) H) H);letI J:=cond C (cond (ak .eql (bw n) 30) (some (a,b,c,d,e,f,g,h,i,j,k,l,m,n,o,(10:Int),())) I) I;cond C ((Lv u v w x y z A).bind λK=>cond (Bool.not K.1) F (cond A F J)) J
def SM(a b:Int)(c d e:Bool):YbD:=(Jm a b c d e).bind λf=>letI g:=aa .add .i64 b 1;letI h:=some (a,b,c,d,e,false,());cond (Bool.not f.1) h (cond (ak .eql b 0) h (cond (ak .eql b 1) (some (a,g,true,d,e,true,())) (cond (ak .eql b 2) (some (a,g,c,true,e,true,())) (cond (ak .eql b 3) (some (a,g,c,d,Bool.not e,true,())) (cond (ak .eql b 4) (some (a,g,c,false,e,true,())) (cond (ak .eql b 5) (some (a,g,false,d,e,true,())) (some (0,0,c,d,e,true,()))))))))
def SX(a b:Int)(c d e:Bool):Oz:=(Jm a b c d e).bind λf=>letI g:=some ((0:Int),());cond (Bool.not f.1) g (cond (ak .eql a 0) g (cond d (some (2,())) ((PU a b c d e).bind λh=>cond h.1 (some (4,())) (some (3,())))))
def Q0(a:RB)(b:Int):Option (RB×YaV):=(Km a).bind λc=>(N6 a b).bind λd=>letI e:=ae br a d.1;cond (ak .lss d.1 0) (some (c.1,false,())) (cond (aZ a d.1) ((SV e.1 e.2.1 e.2.2 b).bind λf=>cond (aZ c.1 d.1) (some (cS c.1 d.1 (f.1,f.2.1,f.2.2.1),f.2.2.2.1,())) none) none)
def Jb(a b c d e f g h i j k:Int)(l:KB)(m:Kj)(n:JI)(o:Js)(p q r:Int):YbR:=letI s:=(0:Int);letI t:=aZ l p;letI u:=(ae ax l p).2;letI v:=u.2.2.2.2.2;letI w:=v.2.2.2.1;letI x:=aa .sub .i64 v.2.2.1 1;letI y:=aZ m x;cond t (cond t (cond y (cond t (lets (cS l p ((ae ax l p).1,u.1,u.2.1,u.2.2.1,u.2.2.2.1,u.2.2.2.2.1,v.1,v.2.1,s,w,v.2.2.2.2)) λz=>letI A:=ae ax z p;letI B:=A.2.2;letI C:=B.2.2.2.2;cond (aZ z p) (lets (cS z p (A.1,A.2.1,B.1,B.2.1,B.2.2.1,B.2.2.2.1,C.1,C.2.1,C.2.2.1,s,C.2.2.2.2)) λD=>letI E:=ae ax D p;letI F:=E.2.2.2.2.2.2.2.2;cond (aZ D p) (lets (cS D p (E.1,E.2.1,E.2.2.1,s,s,false,false,false,F.1,F.2.1,F.2.2)) λG=>letI H:=(10:Int);letI I:=aZ G p;letI J:=ae ax G p;letI K:=J.2;letI L:=ak .eql r 3;letI M:=ak .eql q 1;letI N:=ae aS m x;letI O:=N.1;letI P:=aa .add .i64 x 1;letI Q:=N.2.1;letI R:=N.2.2.1;letI S:=N.2.2.2.2;letI T:=S.2.2;letI U:=S.2.1;letI V:=T.2.2;letI W:=T.2.1;letI X:=V.2.2;letI Y:=V.2.1;letI Z:=X.2;letI a0:=(O,Q,R,(5:Int),S.1,U,T.1,W,V.1,Y,X.1,Z.1,Z.2);letI a1:=cS m x (O,Q,R,1,S.1,U,T.1,W,V.1,Y,X.1,Z.1,Z.2);letI a2:=cS m x (O,Q,R,3,S.1,U,T.1,W,V.1,Y,X.1,Z.1,Z.2);letI a3:=cond M (cond y (lets a1 λa3=>some (a,b,c,d,e,f,g,h,i,j,k,G,a3,n,o,s,())) none) (cond (Bool.not L) (cond y (lets a2 λa3=>some (a,b,c,d,e,f,g,h,i,j,k,G,a3,n,o,s,())) none) (cond (ak .gtr w s) (cond I ((Ui J.1 K.1 a b c d e f g h O S.1 k U).bind λa3=>(JA a b c d e f g h i j k G m n o p 3 P w k).bind λa4=>letI a5:=a4.2.2;letI a6:=a5.2.2;letI a7:=a6.2.2;letI a8:=a7.2.2;letI a9:=a8.2.2;letI b0:=a9.2.2;cond (aZ b0.1 x) (lets (cS b0.1 x (O,Q,R,4,S.1,U,T.1,W,V.1,Y,X.1,w,a3.1)) λb1=>cond (Bool.not b0.2.2.2.1) (some (a4.1,a4.2.1,a5.1,a5.2.1,a6.1,a6.2.1,a7.1,a7.2.1,a8.1,a8.2.1,a9.1,a9.2.1,b1,b0.2.1,b0.2.2.1,H,())) (some (a4.1,a4.2.1,a5.1,a5.2.1,a6.1,a6.2.1,a7.1,a7.2.1,a8.1,a8.2.1,a9.1,a9.2.1,b1,b0.2.1,b0.2.2.1,s,()))) none) none) ((JA a b c d e f g h i j k G m n o p 4 P s k).bind λa3=>letI a4:=a3.2.2;letI a5:=a4.2.2;letI a6:=a5.2.2;letI a7:=a6.2.2;letI a8:=a7.2.2;letI a9:=a8.2.2;cond (aZ a9.1 x) (lets (cS a9.1 x a0) λb0=>cond (Bool.not a9.2.2.2.1) (some (a3.1,a3.2.1,a4.1,a4.2.1,a5.1,a5.2.1,a6.1,a6.2.1,a7.1,a7.2.1,a8.1,a8.2.1,b0,a9.2.1,a9.2.2.1,H,())) (some (a3.1,a3.2.1,a4.1,a4.2.1,a5.1,a5.2.1,a6.1,a6.2.1,a7.1,a7.2.1,a8.1,a8.2.1,b0,a9.2.1,a9.2.2.1,s,()))) none)));cond (pI (ak .eql q 2) L) (cond I ((Q0 K.2.1 P).bind λa4=>letI a5:=K.2.2.2.2.2;cond I (lets (cS G p (J.1,K.1,a4.1,K.2.2.1,K.2.2.2.1,K.2.2.2.2.1,a5.1,a5.2.1,a5.2.2.1,a5.2.2.2.1,a5.2.2.2.2)) λa6=>letI a7:=cond M (cond y (lets a1 λa7=>some (a,b,c,d,e,f,g,h,i,j,k,a6,a7,n,o,s,())) none) (cond (Bool.not L) (cond y (lets a2 λa7=>some (a,b,c,d,e,f,g,h,i,j,k,a6,a7,n,o,s,())) none) (cond (ak .gtr w s) (cond (aZ a6 p) ((Ui (ae ax a6 p).1 (ae ax a6 p).2.1 a b c d e f g h O S.1 k U).bind λa7=>(JA a b c d e f g h i j k a6 m n o p 3 P w k).bind λa8=>letI a9:=a8.2.2;letI b0:=a9.2.2;letI b1:=b0.2.2;letI b2:=b1.2.2;letI b3:=b2.2.2;letI b4:=b3.2.2;cond (aZ b4.1 x) (lets (cS b4.1 x (O,Q,R,4,S.1,U,T.1,W,V.1,Y,X.1,w,a7.1)) λb5=>cond (Bool.not b4.2.2.2.1) (some (a8.1,a8.2.1,a9.1,a9.2.1,b0.1,b0.2.1,b1.1,b1.2.1,b2.1,b2.2.1,b3.1,b3.2.1,b5,b4.2.1,b4.2.2.1,H,())) (some (a8.1,a8.2.1,a9.1,a9.2.1,b0.1,b0.2.1,b1.1,b1.2.1,b2.1,b2.2.1,b3.1,b3.2.1,b5,b4.2.1,b4.2.2.1,s,()))) none) none) ((JA a b c d e f g h i j k a6 m n o p 4 P s k).bind λa7=>letI a8:=a7.2.2;letI a9:=a8.2.2;letI b0:=a9.2.2;letI b1:=b0.2.2;letI b2:=b1.2.2;letI b3:=b2.2.2;cond (aZ b3.1 x) (lets (cS b3.1 x a0) λb4=>cond (Bool.not b3.2.2.2.1) (some (a7.1,a7.2.1,a8.1,a8.2.1,a9.1,a9.2.1,b0.1,b0.2.1,b1.1,b1.2.1,b2.1,b2.2.1,b4,b3.2.1,b3.2.2.1,H,())) (some (a7.1,a7.2.1,a8.1,a8.2.1,a9.1,a9.2.1,b0.1,b0.2.1,b1.1,b1.2.1,b2.1,b2.2.1,b4,b3.2.1,b3.2.2.1,s,()))) none)));cond M (cond L ((JU a b c d e f g h i j k a6 m n o P).bind λa8=>(JA a b c d e f g h i j k a6 m n o p 1 P p k).bind λa9=>letI b0:=a9.2.2;letI b1:=b0.2.2;letI b2:=b1.2.2;letI b3:=b2.2.2;letI b4:=b3.2.2;letI b5:=b4.2.2;cond (aZ b5.1 x) (lets (cS b5.1 x (O,Q,R,3,k,U,a8.1,s,s,s,s,Z.1,Z.2)) λb6=>cond (Bool.not b5.2.2.2.1) (some (a9.1,a9.2.1,b0.1,b0.2.1,b1.1,b1.2.1,b2.1,b2.2.1,b3.1,b3.2.1,b4.1,b4.2.1,b6,b5.2.1,b5.2.2.1,H,())) (some (a9.1,a9.2.1,b0.1,b0.2.1,b1.1,b1.2.1,b2.1,b2.2.1,b3.1,b3.2.1,b4.1,b4.2.1,b6,b5.2.1,b5.2.2.1,s,()))) none) a7) a7) none) none) (cond M (cond L ((JU a b c d e f g h i j k G m n o P).bind λa4=>(JA a b c d e f g h i j k G m n o p 1 P p k).bind λa5=>letI a6:=a5.2.2;letI a7:=a6.2.2;letI a8:=a7.2.2;letI a9:=a8.2.2;letI b0:=a9.2.2;letI b1:=b0.2.2;cond (aZ b1.1 x) (lets (cS b1.1 x (O,Q,R,3,k,U,a4.1,s,s,s,s,Z.1,Z.2)) λb2=>cond (Bool.not b1.2.2.2.1) (some (a5.1,a5.2.1,a6.1,a6.2.1,a7.1,a7.2.1,a8.1,a8.2.1,a9.1,a9.2.1,b0.1,b0.2.1,b2,b1.2.1,b1.2.2.1,H,())) (some (a5.1,a5.2.1,a6.1,a6.2.1,a7.1,a7.2.1,a8.1,a8.2.1,a9.1,a9.2.1,b0.1,b0.2.1,b2,b1.2.1,b1.2.2.1,s,()))) none) a3) a3)) none) none) none) none) none) none
def Wu(a b c d e f g h i j k:Int)(l:KB)(m:Kj)(n:JI)(o:Js)(p q r s:Int)(t:ByteArray)(u v w x y z:Int)(A:Bool):YbR:=letI B:=ae ax l q;letI C:=B.2.2.2;letI D:=C.2.2.2;cond (aZ l q) ((SM C.1 C.2.1 C.2.2.1 D.1 D.2.1).bind λE=>cond (Bool.not E.2.2.2.2.2.1) (some (a,b,c,d,e,f,g,h,i,j,k,l,m,n,o,3,())) (cond (aZ l q) (lets (cS l q (B.1,B.2.1,B.2.2.1,E.1,E.2.1,E.2.2.1,E.2.2.2.1,E.2.2.2.2.1,D.2.2.1,D.2.2.2.1,D.2.2.2.2)) λF=>cond (ak .neq E.1 0) (some (a,b,c,d,e,f,g,h,i,j,k,F,m,n,o,0,())) ((SX C.1 C.2.1 C.2.2.1 D.1 D.2.1).bind λG=>(Jb a b c d e f g h i j k F m n o q C.1 G.1).bind λH=>letI I:=H.2.2.2.2;letI J:=I.2.2.2.2;letI K:=J.2.2.2.2;some (H.1,H.2.1,H.2.2.1,H.2.2.2.1,I.1,I.2.1,I.2.2.1,I.2.2.2.1,J.1,J.2.1,J.2.2.1,J.2.2.2.1,K.1,K.2.1,K.2.2.1,K.2.2.2.1,()))) none)) none
def Ra(a b:Int):Option (Int×YcS):=letI c:=(0:Int);cond (ak .eql a 1) (some (b,c,c,c,())) (cond (ak .eql a 2) (some (c,b,c,c,())) (cond (ak .eql a 3) (some (c,c,b,c,())) (cond (ak .eql a 4) (some (c,c,c,b,())) (some (c,c,c,c,())))))
def Q3(a b c d:Int):J8:=(bS a 0 2).bind λe=>letI f:=some (false,());cond e.1 ((bS b 0 2).bind λg=>cond g.1 ((bS c 0 2).bind λh=>cond h.1 ((bS d 0 2).bind λi=>some (i.1,())) f) f) f
def Lw(a:Bool)(b:Int):J8:=letI c:=some (ak .eql b 2,());cond (ak .eql b 0) (cond a (some (true,())) c) c
def SU(a b:Int)(c d e:Bool)(f g h i:Int):YeG:=(Jm a b c d e).bind λj=>letI k:=some (false,false,false,false,false,());cond (Bool.not j.1) k ((Q3 f g h i).bind λl=>cond (Bool.not l.1) k ((Lw (Bool.not d) f).bind λm=>(Lw (Bool.not d) g).bind λn=>(Lw e h).bind λo=>(Lw e i).bind λp=>some (m.1,n.1,o.1,p.1,true,())))
def MZ(a b:Int)(c d e:Bool):J8:=(Jm a b c d e).bind λf=>letI g:=some (false,());cond f.1 (cond (ak .neq a 0) (some (ak .eql b 0,())) g) g
def Oq(a:Int):Oz:=cond (ak .neq a 0) (some (1,())) (some (0,()))
def MU(a b c d:Int):Oz:=(Oq a).bind λe=>(Oq b).bind λf=>(Oq c).bind λg=>(Oq d).bind λh=>some (aa .add .i64 (aa .add .i64 (aa .add .i64 e.1 f.1) g.1) h.1,())
def SY(a:Int)(b c d e:Bool):Oz:=letI f:=some ((1:Int),());letI g:=cond (Bool.not (pI b c)) f (cond (Bool.not b) (some ((2:Int),())) (cond (Bool.not (pI d e)) f (cond (pI d (ak .eql a 1)) (some ((3:Int),())) (some ((4:Int),())))));cond (ak .neq a 1) (cond (ak .neq a 2) (some (0,())) g) g
def SS(a b:Int)(c d e:Bool)(f g h i:Int):YbP:=(SU a b c d e f g h i).bind λj=>letI k:=some (a,b,c,d,e,(0:Int),false,());cond (Bool.not j.2.2.2.2.1) k ((MZ a b c d e).bind λl=>cond (Bool.not l.1) k ((MU f g h i).bind λm=>cond (ak .gtr m.1 1) k ((SY a j.1 j.2.1 j.2.2.1 j.2.2.2.1).bind λn=>letI o:=some ((0:Int),b,false,d,e,n.1,true,());cond (ak .eql n.1 3) o (cond (ak .eql n.1 4) o (some (a,b,c,d,e,n.1,true,()))))))
def NW(a b c d e f g h i j k:Int)(l:KB)(m:Kj)(n:JI)(o:Js)(p q r s:Int)(t:ByteArray)(u v w x y z:Int)(A:Bool):YbR:=letI B:=cond (aZ l q) ((Ra r s).bind λB=>letI C:=ae ax l q;letI D:=C.2.2.2;letI E:=D.2.2.2.2;(SS D.1 D.2.1 D.2.2.1 D.2.2.2.1 E.1 B.1 B.2.1 B.2.2.1 B.2.2.2.1).bind λF=>letI G:=F.2.2.2;cond (Bool.not G.2.2.2.1) (some (a,b,c,d,e,f,g,h,i,j,k,l,m,n,o,(3:Int),())) (cond (aZ l q) (lets (cS l q (C.1,C.2.1,C.2.2.1,F.1,F.2.1,F.2.2.1,G.1,G.2.1,E.2.1,E.2.2.1,E.2.2.2)) λH=>cond (ak .neq F.1 0) (some (a,b,c,d,e,f,g,h,i,j,k,H,m,n,o,(0:Int),())) ((Jb a b c d e f g h i j k H m n o q D.1 G.2.2.1).bind λI=>letI J:=I.2.2.2.2;letI K:=J.2.2.2.2;letI L:=K.2.2.2.2;some (I.1,I.2.1,I.2.2.1,I.2.2.2.1,J.1,J.2.1,J.2.2.1,J.2.2.2.1,K.1,K.2.1,K.2.2.1,K.2.2.2.1,L.1,L.2.1,L.2.2.1,L.2.2.2.1,()))) none)) none;letI C:=(bS r 1 4).bind λC=>letI D:=some (a,b,c,d,e,f,g,h,i,j,k,l,m,n,o,(1:Int),());cond (Bool.not C.1) D ((bS s 1 2).bind λE=>cond (Bool.not E.1) D B);cond (ak .neq r 0) C (cond (ak .neq s 0) C B)
def S2(a b c d e f g h i j k:Int)(l:KB)(m:Kj)(n:JI)(o:Js)(p q r s:Int)(t:ByteArray)(u v w x y z:Int)(A:Bool):YbR:=letI B:=ae ax l q;letI C:=B.2.2.2;letI D:=C.2.2.2.2;cond (aZ l q) ((Kv o D.2.2.2).bind λE=>cond (Bool.not E.2.1) (some (a,b,c,d,e,f,g,h,i,j,k,l,m,n,o,10,())) (cond (dF (List.append (α:=J4) ([]:Js) E.1)) (cond (aZ l q) (lets (cS l q (B.1,B.2.1,B.2.2.1,C.1,C.2.1,C.2.2.1,C.2.2.2.1,D.1,D.2.1,D.2.2.1,List.append (α:=J4) ([]:Js) E.1)) λF=>some (a,b,c,d,e,f,g,h,i,j,k,F,m,n,E.1,0,())) none) none)) none
def J3(a:YaU):Option (YaU⊕YbE):=letI b:=a.2.2.2;letI c:=b.2.2.2;letI d:=c.2.2.2;letI e:=d.2.2;letI f:=e.2.2;letI g:=e.2.1;letI h:=f.2.2;letI i:=h.2.2;letI j:=i.2.2;letI k:=j.2.2;letI l:=k.2.2;letI m:=l.2.2;letI n:=m.2.2.2;letI o:=n.2.2;letI p:=n.2.1;letI q:=o.2.2.2;letI r:=q.2.2;letI s:=r.2.2;letI t:=s.2.2;letI u:=t.2.2;letI v:=u.2.2.2;letI w:=v.2.2;letI x:=w.2.2;letI y:=x.2.2;letI z:=y.2.2;letI A:=(ae ax g z.1).2.2.1;letI B:=(ae br A p).2.2;cond (aZ A p) (lets (bw B) λC=>letI D:=a.2.1;letI E:=a.2.2.1;letI F:=b.2.1;letI G:=b.2.2.1;letI H:=c.2.1;letI I:=c.2.2.1;letI J:=d.2.1;letI K:=e.1;letI L:=f.2.1;letI M:=h.2.1;letI N:=i.2.1;letI O:=j.2.1;letI P:=k.2.1;letI Q:=l.2.1;letI R:=m.2.1;letI S:=u.2.2.1;letI T:=ae fe B K;cond (ak .lss K C) (cond (aZ A p) (cond (aZ B K) (lets T.1 λU=>lets T.2.1 λV=>lets T.2.2.1 λW=>lets T.2.2.2 λX=>(bS o.1 U (aa .sub .i64 (aa .add .i64 U V) 1)).bind λY=>letI Z:=aa .add .i64 K 1;letI a0:=ae ax g n.1;letI a1:=a0.2.2;letI a2:=a1.2.2.2.2;letI a3:=z.2.2.2;letI a4:=a3.2.2;letI a5:=a4.2.2;letI a6:=a4.2.1;letI a7:=ae br a1.1 p;letI a8:=ae fe a7.2.2 K;letI a9:=cS g n.1 (a0.1,a0.2.1,cS a1.1 p (a7.1,a7.2.1,cS a7.2.2 K (a8.1,a8.2.1,a8.2.2.1,Bool.not X)),a1.2.1,a1.2.2.1,a1.2.2.2.1,a2.1,a2.2.1,a2.2.2.1,a2.2.2.2.1,a2.2.2.2.2);cond (Bool.not Y.1) (some (.inl (a.1,D,E,b.1,F,G,c.1,H,I,d.1,J,Z,g,f.1,L,h.1,M,i.1,N,j.1,O,k.1,P,l.1,Q,m.1,R,m.2.2.1,n.1,p,o.1,o.2.1,o.2.2.1,q.1,q.2.1,r.1,r.2.1,s.1,s.2.1,t.1,t.2.1,u.1,u.2.1,S,v.1,v.2.1,w.1,w.2.1,x.1,x.2.1,y.1,y.2.1,z.1,z.2.1,z.2.2.1,a3.1,a3.2.1,a4.1,a6,a5.1,a5.2.1,()))) (cond (ak .neq a6 0) (cond (ak .eql W a6) (some (.inr (.inl (a.1,D,E,b.1,F,G,c.1,H,I,d.1,J,4,g,f.1,L,h.1,M,i.1,N,j.1,O,k.1,P,l.1,Q,m.1,R,())))) (cond (aZ g n.1) (cond (aZ a1.1 p) (cond (aZ a7.2.2 K) (lets a9 λb0=>some (.inl (a.1,D,E,b.1,F,G,c.1,H,I,d.1,J,Z,b0,f.1,L,h.1,M,i.1,N,j.1,O,k.1,P,l.1,Q,m.1,R,m.2.2.1,n.1,p,o.1,o.2.1,o.2.2.1,q.1,q.2.1,r.1,r.2.1,s.1,s.2.1,t.1,t.2.1,u.1,u.2.1,S,v.1,v.2.1,w.1,w.2.1,x.1,x.2.1,y.1,y.2.1,z.1,z.2.1,z.2.2.1,a3.1,a3.2.1,a4.1,a6,a5.1,a5.2.1,()))) none) none) none)) (cond (aZ g n.1) (cond (aZ a1.1 p) (cond (aZ a7.2.2 K) (lets a9 λb0=>some (.inl (a.1,D,E,b.1,F,G,c.1,H,I,d.1,J,Z,b0,f.1,L,h.1,M,i.1,N,j.1,O,k.1,P,l.1,Q,m.1,R,m.2.2.1,n.1,p,o.1,o.2.1,o.2.2.1,q.1,q.2.1,r.1,r.2.1,s.1,s.2.1,t.1,t.2.1,u.1,u.2.1,S,v.1,v.2.1,w.1,w.2.1,x.1,x.2.1,y.1,y.2.1,z.1,z.2.1,z.2.2.1,a3.1,a3.2.1,a4.1,a6,a5.1,a5.2.1,()))) none) none) none))) none) none) (some (.inr (.inr (.inl (a.1,D,E,b.1,F,G,c.1,H,I,d.1,J,g,f.1,L,h.1,M,i.1,N,j.1,O,k.1,P,l.1,Q,m.1,R,t.1,t.2.1,u.1,u.2.1,S,v.1,v.2.1,w.1,w.2.1,x.1,x.2.1,())))))) none
def PW(a:YaU):Option YbE:=iter J3 big a
def Ot(a b c d e f g h i j k:Int)(l:KB)(m:Kj)(n:JI)(o:Js)(p q r s:Int)(t:ByteArray)(u v w x y z:Int)(A:Bool):YbR:=letI B:=(0:Int);letI C:=(ae ax l q).2.2;cond (aZ l q) ((bS r B (aa .sub .i64 (bw C.1) 1)).bind λD=>letI E:=some (a,b,c,d,e,f,g,h,i,j,k,l,m,n,o,(2:Int),());cond (Bool.not D.1) E (cond (aZ C.1 r) ((bS s B (aa .sub .i64 (ae br C.1 r).1 1)).bind λF=>letI G:=C.2.2.2.2;cond (Bool.not F.1) E ((PW (a,b,c,d,e,f,g,h,i,j,k,B,l,m,n,o,a,b,c,d,e,f,g,h,i,j,k,p,q,r,s,t,u,v,w,x,y,z,A,B,B,B,B,B,B,B,B,B,B,B,q,q,q,C.2.1,C.2.2.1,C.2.2.2.1,G.1,G.2.1,G.2.2.1,G.2.2.2.1,q,())).bind λH=>Sum.elim (λI=>letI J:=I.2.2.2.2.2.2.2.2.2.2.2;letI K:=J.2.2;letI L:=K.2.2.2.2;letI M:=L.2.2.2;letI N:=M.2.2.2;some (K.2.2.2.1,L.1,L.2.1,L.2.2.1,M.1,M.2.1,M.2.2.1,N.1,N.2.1,N.2.2.1,N.2.2.2.1,J.2.1,K.1,K.2.1,K.2.2.1,J.1,())) (λI=>Sum.elim (λJ=>letI K:=J.2.2.2.2.2.2.2.2.2.2.2;letI L:=K.2.2;letI M:=L.2.2.2;letI N:=M.2.2.2;letI O:=N.2.2.2;some (L.2.2.1,M.1,M.2.1,M.2.2.1,N.1,N.2.1,N.2.2.1,O.1,O.2.1,O.2.2.1,O.2.2.2.1,K.1,K.2.1,L.1,L.2.1,B,())) (λJ=>Empty.elim J) I) H)) none)) none
def SQ(a b:Int)(c d e:Bool):YbP:=(MZ a b c d e).bind λf=>cond (Bool.not f.1) (some (a,b,c,d,e,0,false,())) ((PU a b c d e).bind λg=>cond g.1 (some (0,b,false,false,e,4,true,())) (some (0,b,false,false,e,3,true,())))
def Vv(a b:Int)(c d e:Bool):YbD:=(Jm a b c d e).bind λf=>letI g:=some (a,b,c,d,e,false,());cond (Bool.not f.1) g ((bS b 2 4).bind λh=>cond (Bool.not h.1) g (cond (ak .eql b 4) (some (a,3,c,d,Bool.not e,true,())) (some (a,5,c,false,e,true,()))))
def X9(a b:Int)(c d e:Bool)(f:Int):YbD:=(MZ a b c d e).bind λg=>letI h:=some (a,b,c,d,e,false,());letI i:=cond (ak .eql f 3) (cond d (some (a,b,c,false,e,true,())) h) h;letI j:=cond (ak .eql f 2) (cond d (some (a,b,c,d,Bool.not e,true,())) i) i;cond (Bool.not g.1) h (cond (ak .eql f 1) (cond c (cond (Bool.not d) (some (a,b,c,true,e,true,())) j) j) j)
def Q2(a b:Int)(c d e:Bool):YdD:=(Jm a b c d e).bind λf=>cond f.1 (some (a,0,c,d,e,())) (some (a,b,c,d,e,()))
def zg(a b c d e f g h i j k:Int)(l:KB)(m:Kj)(n:JI)(o:Js)(p q r s:Int)(t:ByteArray)(u v w x y z:Int)(A:Bool):YbR:=letI B:=aZ l q;letI C:=ae ax l q;letI D:=C.2.2.2;letI E:=D.2.2;letI F:=D.2.1;letI G:=E.2.2;letI H:=G.2.2;letI I:=some (a,b,c,d,e,f,g,h,i,j,k,l,m,n,o,(3:Int),());cond B (cond (ak .eql p 6) ((Wu a b c d e f g h i j k l m n o p q r s t u v w x y z A).bind λJ=>letI K:=J.2.2.2.2;letI L:=K.2.2.2.2;letI M:=L.2.2.2.2;some (J.1,J.2.1,J.2.2.1,J.2.2.2.1,K.1,K.2.1,K.2.2.1,K.2.2.2.1,L.1,L.2.1,L.2.2.1,L.2.2.2.1,M.1,M.2.1,M.2.2.1,M.2.2.2.1,())) (cond (ak .eql p 10) ((NW a b c d e f g h i j k l m n o p q r s t u v w x y z A).bind λJ=>letI K:=J.2.2.2.2;letI L:=K.2.2.2.2;letI M:=L.2.2.2.2;some (J.1,J.2.1,J.2.2.1,J.2.2.2.1,K.1,K.2.1,K.2.2.1,K.2.2.2.1,L.1,L.2.1,L.2.2.1,L.2.2.2.1,M.1,M.2.1,M.2.2.1,M.2.2.2.1,())) (cond (ak .eql p 16) ((S2 a b c d e f g h i j k l m n o p q r s t u v w x y z A).bind λJ=>letI K:=J.2.2.2.2;letI L:=K.2.2.2.2;letI M:=L.2.2.2.2;some (J.1,J.2.1,J.2.2.1,J.2.2.2.1,K.1,K.2.1,K.2.2.1,K.2.2.2.1,L.1,L.2.1,L.2.2.1,L.2.2.2.1,M.1,M.2.1,M.2.2.1,M.2.2.2.1,())) (cond (ak .eql p 17) ((Ot a b c d e f g h i j k l m n o p q r s t u v w x y z A).bind λJ=>letI K:=J.2.2.2.2;letI L:=K.2.2.2.2;letI M:=L.2.2.2.2;some (J.1,J.2.1,J.2.2.1,J.2.2.2.1,K.1,K.2.1,K.2.2.1,K.2.2.2.1,L.1,L.2.1,L.2.2.1,L.2.2.2.1,M.1,M.2.1,M.2.2.1,M.2.2.2.1,())) (cond (ak .eql p 11) ((SQ D.1 F E.1 E.2.1 G.1).bind λJ=>cond (Bool.not J.2.2.2.2.2.2.1) I ((Jb a b c d e f g h i j k l m n o q D.1 J.2.2.2.2.2.1).bind λK=>letI L:=K.2.2.2.2;letI M:=L.2.2.2.2;letI N:=M.2.2.2.2;some (K.1,K.2.1,K.2.2.1,K.2.2.2.1,L.1,L.2.1,L.2.2.1,L.2.2.2.1,M.1,M.2.1,M.2.2.1,M.2.2.2.1,N.1,N.2.1,N.2.2.1,N.2.2.2.1,()))) (cond (ak .eql p 7) ((Vv D.1 F E.1 E.2.1 G.1).bind λJ=>cond (Bool.not J.2.2.2.2.2.1) I (cond B (lets (cS l q (C.1,C.2.1,C.2.2.1,J.1,J.2.1,J.2.2.1,J.2.2.2.1,J.2.2.2.2.1,G.2.1,H.1,H.2)) λK=>some (a,b,c,d,e,f,g,h,i,j,k,K,m,n,o,0,())) none)) (cond (ak .eql p 9) ((X9 D.1 F E.1 E.2.1 G.1 r).bind λJ=>cond (Bool.not J.2.2.2.2.2.1) I (cond B (lets (cS l q (C.1,C.2.1,C.2.2.1,J.1,J.2.1,J.2.2.1,J.2.2.2.1,J.2.2.2.2.1,G.2.1,H.1,H.2)) λK=>some (a,b,c,d,e,f,g,h,i,j,k,K,m,n,o,0,())) none)) (cond (ak .eql p 8) ((Q2 D.1 F E.1 E.2.1 G.1).bind λJ=>cond (Bool.not (ak .neq F 0)) I (cond B (lets (cS l q (C.1,C.2.1,C.2.2.1,J.1,J.2.1,J.2.2.1,J.2.2.2.1,J.2.2.2.2.1,G.2.1,H.1,H.2)) λK=>some (a,b,c,d,e,f,g,h,i,j,k,K,m,n,o,0,())) none)) I)))))))) none
def Ka(a b c d e f g h i j k:Int)(l:KB)(m:Kj)(n:JI)(o:Js)(p q r s:Int)(t:ByteArray)(u v w x y z:Int)(A:Bool):YbR:=(Mk a b c d e f g h i j k l m n o).bind λB=>letI C:=PV a b c d e f g h i j k l m n o;letI D:=C.bind λD=>letI E:=D.2.2.2.2;letI F:=E.2.2.2;letI G:=F.2.2.2.2;some (D.1,D.2.1,D.2.2.1,D.2.2.2.1,E.1,E.2.1,E.2.2.1,F.1,F.2.1,F.2.2.1,F.2.2.2.1,G.1,G.2.1,G.2.2.1,G.2.2.2.1,(1:Int),());cond (Bool.not B.1) D ((bS p 1 17).bind λE=>cond (Bool.not E.1) D (C.bind λF=>letI G:=F.2.2;letI H:=F.2.1;letI I:=G.2.2;letI J:=G.2.1;letI K:=ak .eql p 13;letI L:=ak .eql p 14;letI M:=ak .eql p 2;letI N:=ak .eql p 3;letI O:=ak .eql p 4;letI P:=ak .eql p 5;letI Q:=I.2.1;letI R:=I.2.2.2;letI S:=I.2.2.1;letI T:=R.2.2;letI U:=R.2.1;letI V:=T.2.2;letI W:=T.2.1;letI X:=V.2.2;letI Y:=V.2.1;letI Z:=X.2.1;letI a0:=some (F.1,H,G.1,J,I.1,Q,S,R.1,U,T.1,W,V.1,Y,X.1,Z,(2:Int),());letI a1:=(Jg F.1 H G.1 J I.1 Q S R.1 U T.1 W V.1 Y X.1 Z p q r s t u v w x y z A).bind λa1=>letI a2:=a1.2.2.2.2.2;letI a3:=a2.2.2.2.2;letI a4:=a3.2.2.2;letI a5:=a4.2.2.2.1;letI a6:=some (a1.1,a1.2.1,a1.2.2.1,a1.2.2.2.1,a1.2.2.2.2.1,a2.1,a2.2.1,a2.2.2.1,a2.2.2.2.1,a3.1,a3.2.1,a3.2.2.1,a4.1,a4.2.1,a4.2.2.1,a5,());cond (ak .neq a5 0) (cond (ak .neq a5 9) (C.bind λa7=>letI a8:=a7.2.2.2.2;letI a9:=a8.2.2.2;letI b0:=a9.2.2.2.2;some (a7.1,a7.2.1,a7.2.2.1,a7.2.2.2.1,a8.1,a8.2.1,a8.2.2.1,a9.1,a9.2.1,a9.2.2.1,a9.2.2.2.1,b0.1,b0.2.1,b0.2.2.1,b0.2.2.2.1,a5,())) a6) a6;letI a2:=(bS q 1 (bw m)).bind λa2=>cond (Bool.not a2.1) a0 ((qb F.1 H G.1 J I.1 Q S R.1 U T.1 W V.1 Y X.1 Z p q r s t u v w x y z A).bind λa3=>letI a4:=a3.2.2.2.2.2;letI a5:=a4.2.2.2.2;letI a6:=a5.2.2.2;letI a7:=a6.2.2.2.1;letI a8:=some (a3.1,a3.2.1,a3.2.2.1,a3.2.2.2.1,a3.2.2.2.2.1,a4.1,a4.2.1,a4.2.2.1,a4.2.2.2.1,a5.1,a5.2.1,a5.2.2.1,a6.1,a6.2.1,a6.2.2.1,a7,());cond (ak .neq a7 0) (cond (ak .neq a7 9) (C.bind λa9=>letI b0:=a9.2.2.2.2;letI b1:=b0.2.2.2;letI b2:=b1.2.2.2.2;some (a9.1,a9.2.1,a9.2.2.1,a9.2.2.2.1,b0.1,b0.2.1,b0.2.2.1,b1.1,b1.2.1,b1.2.2.1,b1.2.2.2.1,b2.1,b2.2.1,b2.2.2.1,b2.2.2.2.1,a7,())) a8) a8);letI a3:=(bS q 0 (aa .sub .i64 (bw l) 1)).bind λa3=>cond (Bool.not a3.1) a0 ((zg F.1 H G.1 J I.1 Q S R.1 U T.1 W V.1 Y X.1 Z p q r s t u v w x y z A).bind λa4=>letI a5:=a4.2.2.2.2.2;letI a6:=a5.2.2.2.2;letI a7:=a6.2.2.2;letI a8:=a7.2.2.2.1;letI a9:=some (a4.1,a4.2.1,a4.2.2.1,a4.2.2.2.1,a4.2.2.2.2.1,a5.1,a5.2.1,a5.2.2.1,a5.2.2.2.1,a6.1,a6.2.1,a6.2.2.1,a7.1,a7.2.1,a7.2.2.1,a8,());cond (ak .neq a8 0) (cond (ak .neq a8 9) (C.bind λb0=>letI b1:=b0.2.2.2.2;letI b2:=b1.2.2.2;letI b3:=b2.2.2.2.2;some (b0.1,b0.2.1,b0.2.2.1,b0.2.2.2.1,b1.1,b1.2.1,b1.2.2.1,b2.1,b2.2.1,b2.2.2.1,b2.2.2.2.1,b3.1,b3.2.1,b3.2.2.1,b3.2.2.2.1,a8,())) a9) a9);letI a4:=cond K (cond K a1 a3) (cond L (cond L a1 a3) (cond (ak .eql p 15) a1 a3));cond (ak .eql p 1) ((Jr F.1 H G.1 J I.1 Q S R.1 U T.1 W V.1 Y X.1 Z p q r s t u v w x y z A).bind λa5=>letI a6:=a5.2.2.2.2.2;letI a7:=a6.2.2.2.2;letI a8:=a7.2.2.2;letI a9:=a8.2.2.2.1;letI b0:=some (a5.1,a5.2.1,a5.2.2.1,a5.2.2.2.1,a5.2.2.2.2.1,a6.1,a6.2.1,a6.2.2.1,a6.2.2.2.1,a7.1,a7.2.1,a7.2.2.1,a8.1,a8.2.1,a8.2.2.1,a9,());cond (ak .neq a9 0) (cond (ak .neq a9 9) (C.bind λb1=>letI b2:=b1.2.2.2.2;letI b3:=b2.2.2.2;letI b4:=b3.2.2.2.2;some (b1.1,b1.2.1,b1.2.2.1,b1.2.2.2.1,b2.1,b2.2.1,b2.2.2.1,b3.1,b3.2.1,b3.2.2.1,b3.2.2.2.1,b4.1,b4.2.1,b4.2.2.1,b4.2.2.2.1,a9,())) b0) b0) (cond M (cond M a2 a4) (cond N (cond N a2 a4) (cond O (cond O a2 a4) (cond P (cond P a2 a4) (cond (ak .eql p 12) a2 a4)))))))
def I5(a:Kj):Option YcZ:=cond (ak .gtr (bw a) 0) (cond (dF (List.append (α:=YaW) ([]:Kj) a)) (some (List.append (α:=YaW) ([]:Kj) a,())) none) (both (some (([]:Kj),())) (cond (dF (List.append (α:=YaW) ([]:Kj) a)) (some (List.append (α:=YaW) ([]:Kj) a,())) none))
def sS(a:JI):Option YcV:=cond (ak .gtr (bw a) 0) (cond (dF (List.append (α:=YbC) ([]:JI) a)) (some (List.append (α:=YbC) ([]:JI) a,())) none) (both (some (([]:JI),())) (cond (dF (List.append (α:=YbC) ([]:JI) a)) (some (List.append (α:=YbC) ([]:JI) a,())) none))
def KY(a:YcA)(b:YbI):YbT:=letI c:=b.2.2;letI d:=c.2.2;letI e:=d.2.2;letI f:=e.2.2;letI g:=f.2.2;letI h:=g.2.2;letI i:=h.2.2;letI j:=a.2.2.2.2.2.2.2.2.2.2.2.2.2.2.2;letI k:=i.2.2;letI l:=k.2.2;letI m:=l.2.2;letI n:=m.2.2;letI o:=n.2.2;letI p:=o.2.2;letI q:=p.2.2;letI r:=q.2.2.1;letI s:=ae ax j.1 r;letI t:=s.2.2.2.2.2;cond (ak .lss r j.2.1) (cond (aZ j.1 r) (lets t.2.2.2.2.1 λu=>lets t.2.2.2.2.2 λv=>(QL s.1 s.2.1).bind λw=>(LI s.2.2.1).bind λx=>(js v).bind λy=>letI z:=(w.1,w.2.1,x.1,s.2.2.2.1,s.2.2.2.2.1,t.1,t.2.1,t.2.2.1,t.2.2.2.1,u,y.1);cond (dF (List.append (α:=YaA) p.1 (List.append (α:=YaA) ([]:KB) [z]))) (lets (List.append (α:=YaA) p.1 (List.append (α:=YaA) ([]:KB) [z])) λA=>some (.inl (b.1,b.2.1,c.1,c.2.1,d.1,d.2.1,e.1,e.2.1,f.1,f.2.1,g.1,g.2.1,h.1,h.2.1,i.1,i.2.1,k.1,k.2.1,l.1,l.2.1,m.1,m.2.1,n.1,n.2.1,o.1,o.2.1,A,p.2.1,q.1,q.2.1,aa .add .i64 r 1,()))) none) none) (some (.inr (.inl (b.1,b.2.1,c.1,c.2.1,d.1,d.2.1,e.1,e.2.1,f.1,f.2.1,g.1,g.2.1,h.1,h.2.1,i.1,i.2.1,k.1,k.2.1,l.1,l.2.1,m.1,m.2.1,n.1,n.2.1,o.1,o.2.1,p.1,p.2.1,q.1,q.2.1,()))))
def Nd k x:=iter (KY k) big x
def K6(a b c d e f g h i j k:Int)(l:KB)(m:Kj)(n:JI)(o:Js):YeC:=letI p:=(0:Int);(Nd (a,b,c,d,e,f,g,h,i,j,k,l,m,n,o,l,bw l,()) (p,p,p,p,p,p,p,p,p,p,p,([]:KB),([]:Kj),([]:JI),([]:Js),a,b,c,d,e,f,g,h,i,j,k,([]:KB),m,n,o,p,())).bind λq=>Sum.elim (λr=>(I5 m).bind λs=>(sS n).bind λt=>(js o).bind λu=>letI v:=r.2.2.2.2.2.2.2.2.2.2.2.2.2.2.2;letI w:=v.2.2.2;letI x:=w.2.2.2;some (v.1,v.2.1,v.2.2.1,w.1,w.2.1,w.2.2.1,x.1,x.2.1,x.2.2.1,x.2.2.2.1,x.2.2.2.2.1,x.2.2.2.2.2.1,s.1,t.1,u.1,())) (λr=>Empty.elim r) q
def Wf(a:JI)(b c d e:Int):J8:=(JT a).bind λf=>letI g:=some (false,());cond f.1 ((Fv b).bind λh=>cond h.1 ((Fv c).bind λi=>cond i.1 ((ct d 1 999).bind λj=>cond j.1 ((I9 e).bind λk=>some (k.1,())) g) g) g) g
def OE(a b c d e f:Int)(g:Bool)(h i:Int):J8:=(JS a b c d e f g).bind λj=>letI k:=some (false,());letI l:=cond (ak .geq i e) (some (ak .lss i f,())) k;cond j.1 (cond (Bool.not g) (cond (ak .eql c 0) l (cond (ak .eql c h) l k)) k) k
def YG(a:JI×YeJ)(b:YbZ×YcO):Option (YbZ×YcO⊕YbZ×YcM⊕Empty):=letI c:=b.2;letI d:=c.2.2.1;letI e:=a.2.2.2.2;letI f:=ae gI e.2.1 d;letI g:=f.2.2.2;letI h:=(b.1,c.1,c.2.1,aa .add .i64 d 1,());cond (ak .lss d e.2.2.1) (cond (aZ e.2.1 d) (cond (ak .eql f.1 c.2.1) ((OE f.1 f.2.1 f.2.2.1 g.1 g.2.1 g.2.2.1 g.2.2.2 a.2.1 a.2.2.1).bind λi=>letI j:=aa .sub .i64 e.1 1;cond i.1 (cond (ak .geq g.1 (aa .add .i64 j a.2.2.2.1)) (cond (aZ b.1 j) (cond (jK (ae zM b.1 j) f.2.1) (cond (dF (List.append (α:=Int) c.1 (List.append (α:=Int) ([]:Kz) [d]))) (some (.inr (.inl (b.1,List.append (α:=Int) c.1 (List.append (α:=Int) ([]:Kz) [d]),f.2.1,())))) none) (some (.inl h))) none) (some (.inl h))) (some (.inl h))) (some (.inl h))) none) (some (.inr (.inl (b.1,c.1,c.2.1,()))))
def QK k x:=iter (YG k) big x
def YF(a:JI×YcS)(b:YbZ×YcO):Option (YbZ×YcO⊕YcN⊕Empty):=letI c:=b.2.2.2.1;cond (ak .gtr c 0) ((QK (a.1,a.2.1,a.2.2.1,a.2.2.2.1,c,a.1,bw a.1,()) (b.1,b.2.1,b.2.2.1,0,())).bind λd=>Sum.elim (λe=>some (.inl (e.1,e.2.1,e.2.2.1,aa .sub .i64 c 1,()))) (λe=>Empty.elim e) d) (some (.inr (.inl (b.2.1,()))))
def QJ k x:=iter (YF k) big x
def QI(a:JI×Int×YeJ)(b:YbZ×YcR):Option (YbZ×YcR⊕YbZ×YaT×Unit⊕Empty):=letI c:=b.2.2.1;letI d:=a.2.2.2.2.2;letI e:=ae gI d.2.1 c;letI f:=e.2.2.2;cond (ak .lss c d.2.2.1) (cond (aZ d.2.1 c) ((OE e.1 e.2.1 e.2.2.1 f.1 f.2.1 f.2.2.1 f.2.2.2 a.2.2.1 a.2.2.2.1).bind λg=>letI h:=aa .add .i64 c 1;letI i:=(b.1,b.2.1,h,());cond g.1 (cond (ak .geq f.1 (aa .add .i64 d.1 a.2.2.2.2.1)) (cond (aZ b.1 d.1) (cond (jK (ae zM b.1 d.1) e.2.1) (some (.inl (b.1,qf b.2.1 e.1 true,h,()))) (some (.inl i))) none) (some (.inl i))) (some (.inl i))) none) (some (.inr (.inl (b.1,b.2.1,()))))
def VA k x:=iter (QI k) big x
def YE(a:JI×Int×YcS)(b:YbZ×LN):Option (YbZ×LN⊕Kz×YaV⊕YcJ):=letI c:=b.2.1;letI d:=a.2.2;cond (ak .leq c 6) (cond (aZ b.1 c) (cond (jK (ae zM b.1 c) a.2.1) ((QJ (a.1,d.1,d.2.1,d.2.2.1,()) (b.1,([]:Kz),a.2.1,c,())).bind λe=>Sum.elim (λf=>some (.inr (.inl (f.1,true,())))) (λf=>Empty.elim f) e) ((VA (a.1,a.2.1,d.1,d.2.1,d.2.2.1,c,a.1,bw a.1,()) (b.1,([]:YaT),0,())).bind λe=>Sum.elim (λf=>cond (dF (List.append (α:=YaT) f.1 (List.append (α:=YaT) ([]:YbZ) [f.2.1]))) (some (.inl (List.append (α:=YaT) f.1 (List.append (α:=YaT) ([]:YbZ) [f.2.1]),aa .add .i64 c 1,()))) none) (λf=>Empty.elim f) e)) none) (some (.inr (.inr (.inl ()))))
def LG k x:=iter (YE k) big x
def Wh(a:JI)(b c d e f:Int):YdP:=letI g:=qf ([]:YaT) c true;cond (dF (List.append (α:=YaT) ([]:YbZ) (List.append (α:=YaT) ([]:YbZ) [g]))) ((LG (a,b,d,e,f,()) (List.append (α:=YaT) ([]:YbZ) (List.append (α:=YaT) ([]:YbZ) [g]),0,())).bind λh=>Sum.elim (λi=>some (i.1,i.2.1,())) (λi=>Sum.elim (λ_=>some (([]:Kz),false,())) (λj=>Empty.elim j) i) h) none
def Wd(a:JI)(b c d e:Int):YdP:=(Wf a b c d e).bind λf=>cond (Bool.not f.1) (some (([]:Kz),false,())) ((Wh a b c d e 0).bind λg=>some (g.1,g.2.1,()))
def OM(a:JI)(b c d e:Int):J8:=(Wd a b c d e).bind λf=>some (f.2.1,())
def OI(a b:NX)(c d e f g h i j k l m:Int):J8:=(KE a b c d e f g h i j k m).bind λn=>(KE a b c d e f g h i j k (aa .add .i64 m 1)).bind λo=>letI p:=some (false,());cond n.2.1 (cond o.2.1 ((I9 l).bind λq=>cond q.1 (cond (ak .geq l k) ((OQ a b c d e f g h i j k l m).bind λr=>some (Bool.not r.1,())) p) p) p) p
def OW(a:Int×Kz×Lj×YcI)(b:YcD×YdU):Option (YcD×YdU⊕YcD×Unit⊕Empty):=letI c:=b.1;letI d:=b.2.2.1;letI e:=aa .add .i64 d 1;letI f:=ae fe a.2.2.2.1 d;letI g:=(c,false,e,());letI h:=((0:Int),f.1,f.2.1,d,e);cond (ak .lss d a.2.2.2.2.1) (cond (aZ a.2.2.2.1 d) (cond (ak .neq f.2.2.1 0) (some (.inl g)) (cond f.2.2.2 (some (.inl g)) (cond b.2.1 ((JK a.2.1 f.1).bind λi=>letI j:=aa .sub .i64 (bw c) 1;letI k:=ae QD c j;cond (Bool.not i.1) (cond (aZ c j) (lets (cS c j (k.1,k.2.1,aa .add .i64 k.2.2.1 f.2.1,k.2.2.2.1,k.2.2.2.2)) λl=>letI m:=ae QD l j;lets (cS l j (m.1,m.2.1,m.2.2.1,m.2.2.2.1,aa .add .i64 m.2.2.2.2 1)) λn=>some (.inl (n,true,e,()))) none) (cond (dF (List.append (α:=YbB) c (List.append (α:=YbB) ([]:YcD) [h]))) (lets (List.append (α:=YbB) ([]:YcD) [h]) λ_=>some (.inl (List.append (α:=YbB) c (List.append (α:=YbB) ([]:YcD) [h]),true,e,()))) none)) (cond (dF (List.append (α:=YbB) c (List.append (α:=YbB) ([]:YcD) [h]))) (lets (List.append (α:=YbB) ([]:YcD) [h]) λ_=>some (.inl (List.append (α:=YbB) c (List.append (α:=YbB) ([]:YcD) [h]),true,e,()))) none)))) none) (some (.inr (.inl (c,()))))
def TM k x:=iter (OW k) big x
def Ru(a:Int)(b:Kz)(c:Lj):Option (YcD×Unit):=(TM (a,b,c,c,bw c,()) (([]:YcD),false,0,())).bind λd=>Sum.elim (λe=>some (e.1,())) (λe=>Empty.elim e) d
def Mv(a:Int×RB×YcS)(b:YbH×YcD×LN):Option (YbH×YcD×LN⊕YdO):=letI c:=b.2.2.1;letI d:=(ae QD b.2.1 c).2;letI e:=(a.1,d.1,d.2.1);cond (ak .lss c a.2.2.2.2.1) (cond (aZ b.2.1 c) (cond (dF (List.append (α:=YaO) b.1 (List.append (α:=YaO) ([]:YbH) [e]))) (some (.inl (List.append (α:=YaO) b.1 (List.append (α:=YaO) ([]:YbH) [e]),b.2.1,aa .add .i64 c 1,()))) none) none) (some (.inr (.inl (b.1,()))))
def Mw k x:=iter (Mv k) big x
def Mu(a:YcE)(b:YdC):YcH:=letI c:=b.2.1;letI d:=ae br a.1 c;cond (ak .lss c a.2.1) (cond (aZ a.1 c) ((Ru d.1 d.2.1 d.2.2).bind λe=>(Mw (c,a.1,a.2.1,c,bw e.1,()) (b.1,e.1,0,())).bind λf=>Sum.elim (λg=>some (.inl (g.1,aa .add .i64 c 1,()))) (λg=>Empty.elim g) f) none) (some (.inr (.inl (b.1,()))))
def Qd k x:=iter (Mu k) big x
def QH(a:RB):YcU:=(Qd (a,bw a,()) (([]:YbH),0,())).bind λb=>Sum.elim (λc=>some (c.1,())) (λc=>Empty.elim c) b
def Vz(a:RB):YcU:=(KJ a).bind λb=>cond (Bool.not b.1) (some (([]:YbH),())) ((QH a).bind λc=>some (c.1,()))
def QM(a:Int×YdC)(b:YdN):Option (YdN⊕Int×YdJ⊕Empty):=letI c:=b.2.2;letI d:=c.2.2.2;letI e:=d.2.2.1;letI f:=ae Ur a.2.1 e;letI g:=aa .add .i64 e 1;letI h:=(b.1,b.2.1,c.1,c.2.1,c.2.2.1,d.1,d.2.1,g,());letI i:=(b.1,b.2.1,c.1,f.1,f.2.1,f.2.2,true,g,());cond (ak .lss e a.2.2.1) (cond (aZ a.2.1 e) (cond (ak .geq f.2.2 a.1) (cond (Bool.not d.2.1) (some (.inl i)) (cond (ak .lss f.2.2 d.1) (some (.inl i)) (some (.inl h)))) (some (.inl h))) none) (some (.inr (.inl (b.1,b.2.1,c.1,c.2.1,c.2.2.1,d.1,d.2.1,()))))
def QN k x:=iter (QM k) big x
def TJ(a:YbH)(b:Int):YeB:=letI c:=(0:Int);cond (ak .lss b 1) (some (c,c,c,false,())) ((QN (b,a,bw a,()) (c,c,c,c,c,c,false,c,())).bind λd=>Sum.elim (λe=>letI f:=e.2.2.2;some (f.1,f.2.1,f.2.2.1,f.2.2.2.1,())) (λe=>Empty.elim e) d)
def Ss(a:RB)(b:Int):YeB:=(Vz a).bind λc=>(TJ c.1 b).bind λd=>some (d.1,d.2.1,d.2.2.1,d.2.2.2.1,())
def Jd(a:YdT×YdT×LN)(b:Nt):YbG:=letI c:=aa .add .i64 b.1 (bw (ae S5 a.2.1 b.2.1));cond (ak .lss b.2.1 a.2.2.1) (cond (aZ a.2.1 b.2.1) (cond (ak .lss c 0) none (some (.inl (c,aa .add .i64 b.2.1 1,())))) none) (some (.inr (.inl (b.1,()))))
def Jp k x:=iter (Jd k) big x
def Je(a:YdT×LN)(b:YcI):YdX:=letI c:=ae S5 a.1 b.2.1;cond (ak .lss b.2.1 a.2.1) (cond (aZ a.1 b.2.1) (cond (dF (List.append (α:=QE) b.1 c)) (some (.inl (List.append (α:=QE) b.1 c,aa .add .i64 b.2.1 1,()))) none) none) (some (.inr (.inl (b.1,()))))
def Jq k x:=iter (Je k) big x
def Jh(a:YdT):Option YcK:=(Jp (a,a,bw a,()) (0,0,())).bind λb=>Sum.elim (λc=>cond (lu c.1) ((Jq (a,bw a,()) (([]:Lj),0,())).bind λd=>Sum.elim (λe=>some (e.1,())) (λe=>Empty.elim e) d) none) (λc=>Empty.elim c) b
def OT(a:Int×Lj×YdK)(b:YdH):Option (YdH⊕YdY):=letI c:=b.2.2;letI d:=c.2.2;letI e:=a.2.2.2.2.1;letI f:=d.2.2.1;letI g:=d.2.2.2.1;letI h:=aa .add .i64 g 1;letI i:=(ae QD f g).2;letI j:=yD e 0 i.2.2.1;letI k:=yD e i.2.2.2 (bw e);cond (ak .lss g a.2.2.2.2.2.1) (cond (aZ f g) (cond (ak .eql i.1 a.1) (cond (mT e (0:Int) i.2.2.1) (cond (mT e i.2.2.2 (bw e)) ((Jh (List.append (α:=Lj) (List.append (α:=Lj) (List.append (α:=Lj) ([]:YdT) [j]) [a.2.1]) [k])).bind λl=>lets (List.append (α:=Lj) (List.append (α:=Lj) (List.append (α:=Lj) ([]:YdT) [j]) [a.2.1]) [k]) λ_=>some (.inl (b.1,b.2.1,c.1,c.2.1,d.1,l.1,f,h,()))) none) none) (some (.inl (b.1,b.2.1,c.1,c.2.1,d.1,d.2.1,f,h,())))) none) (some (.inr (.inl (b.1,b.2.1,c.1,c.2.1,d.1,d.2.1,()))))
def TH k x:=iter (OT k) big x
def Me(a:Int)(b:Kz)(c:Lj)(d:Int)(e:Lj):YdF:=(KF a b c).bind λf=>(Ru a b c).bind λg=>(TH (d,e,a,b,c,bw g.1,()) (0,([]:Kz),([]:Lj),f.1,f.2.1,f.2.2.1,g.1,0,())).bind λh=>Sum.elim (λi=>some (i.2.2.2.1,i.2.2.2.2.1,i.2.2.2.2.2.1,())) (λi=>Empty.elim i) h
def U7(a:Int)(b:Kz)(c:Lj)(d e f g h:Int):YdF:=letI i:=(e,h,g,false);letI j:=(aa .add .i64 e h,aa .sub .i64 f h,(0:Int),false);cond (ak .gtr f h) (cond (dF (List.append (α:=QE) (List.append (α:=QE) ([]:Lj) [i]) (List.append (α:=QE) ([]:Lj) [j]))) ((Me a b c e (List.append (α:=QE) (List.append (α:=QE) ([]:Lj) [i]) (List.append (α:=QE) ([]:Lj) [j]))).bind λk=>lets (List.append (α:=QE) (List.append (α:=QE) ([]:Lj) [i]) (List.append (α:=QE) ([]:Lj) [j])) λ_=>some (k.1,k.2.1,k.2.2.1,())) none) ((Me a b c e (List.append (α:=QE) ([]:Lj) [i])).bind λk=>some (k.1,k.2.1,k.2.2.1,()))
def OH(a:RB)(b c:Int):Option (RB×YbN):=(LI a).bind λd=>(Ss a c).bind λe=>(KJ a).bind λf=>letI g:=some (d.1,(0:Int),(0:Int),(0:Int),false,());cond (Bool.not f.1) g ((ct b 1 999).bind λh=>cond (Bool.not h.1) g ((LH a b).bind λi=>letI j:=ae br d.1 e.1;cond (ak .geq i.1 0) g (cond (Bool.not e.2.2.2.1) g (cond (aZ d.1 e.1) ((U7 j.1 j.2.1 j.2.2 e.1 e.2.1 e.2.2.1 b c).bind λk=>cond (aZ d.1 e.1) (some (cS d.1 e.1 (k.1,k.2.1,k.2.2.1),e.1,e.2.1,c,true,())) none) none))))
def Mb(a b:Int)(c d e:Bool)(f:Int):YbD:=(E2 a b c d e).bind λg=>letI h:=some (a,b,c,d,e,false,());letI i:=some (f,(1:Int),c,d,e,true,());letI j:=cond (ak .eql f 2) (cond (Bool.not e) h i) h;cond (Bool.not g.1) h (cond (ak .neq a 0) h (cond (ak .eql f 1) (cond (Bool.not e) i j) j))
def LK(a:RB)(b:Int):J8:=(LH a b).bind λc=>letI d:=ae br a c.1;cond (ak .geq c.1 0) (cond (aZ a c.1) (cond (aZ a c.1) ((Qe d.1 d.2.1 d.2.2 b).bind λe=>cond (aZ d.2.2 e.1) (some ((ae fe d.2.2 e.1).2.2.2,())) none) none) none) (some (false,()))
def OS(a:Int):J8:=(ct a 0 1000000).bind λb=>some (b.1,())
def TF(a:Unit)(b:Nt):YbG:=cond (ak .lss b.2.1 3) (cond (eE 2147483647) none (some (.inl (aa .rem .i64 (aa .mul .i64 48271 b.1) 2147483647,aa .add .i64 b.2.1 1,())))) (some (.inr (.inl (b.1,()))))
def OJ k x:=iter (TF k) big x
def Xu(a:Unit)(b:YbJ):YdZ:=cond (ak .lss (ByteArray.size b.1:Int) 6) (cond (lz (ByteArray.mk #[48]) b.1) (some (.inl (ByteArray.append (ByteArray.mk #[48]) b.1,()))) none) (some (.inr (.inl (b.1,()))))
def TG k x:=iter (Xu k) big x
def U1(a b:Int):YdG:=(Jo a).bind λc=>cond (Bool.not c.1) (some (ByteArray.mk #[],())) ((OS b).bind λd=>cond (Bool.not d.1) (some (ByteArray.mk #[],())) (cond (eE 2147483647) none ((OJ () (aa .rem .i64 (aa .add .i64 a (aa .mul .i64 65537 b)) 2147483647,0,())).bind λe=>Sum.elim (λf=>cond (eE 1000000) none ((Ko (aa .rem .i64 f.1 1000000)).bind λg=>(TG () (g.1,())).bind λh=>Sum.elim (λi=>some (i.1,())) (λi=>Empty.elim i) h)) (λf=>Empty.elim f) e)))
def RE(a:ByteArray×YbQ)(b:LN):YaZ:=cond (ak .lss b.1 (aa .add .i64 a.2.2.1 5)) ((OS b.1).bind λc=>cond c.1 ((U1 a.2.1 b.1).bind λd=>cond (wW .eql d.1 a.1) (some (.inr (.inl (b.1,())))) (some (.inl (aa .add .i64 b.1 1,())))) (some (.inr (.inr (.inl ()))))) (some (.inr (.inr (.inl ()))))
def RF k x:=iter (RE k) big x
def Sw(a b c d e:Int)(f:ByteArray):Oz:=(Ke a b c d e).bind λg=>letI h:=some ((-1:Int),());cond (Bool.not g.1) h ((RF (f,a,b,c,d,e,()) (b,())).bind λi=>Sum.elim (λj=>some (j.1,())) (λj=>Sum.elim (λ_=>h) (λk=>Empty.elim k) j) i)
def YM(a b c d e:Int)(f:ByteArray):Oz:=(Sw a b c d e f).bind λg=>cond (ak .lss g.1 0) (some (-1,())) (some (aa .add .i64 g.1 1,()))
def Ll(a b c d e f g h i j k:Int)(l:ByteArray):YcX:=(Ke a b c d e).bind λm=>letI n:=some (a,b,c,d,e,(4:Int),());cond (Bool.not m.1) n ((I9 f).bind λo=>cond (Bool.not o.1) n (cond (ak .lss f e) (some (a,b,c,d,e,1,())) ((YM g h i j k l).bind λp=>cond (ak .geq p.1 0) (some (a,p.1,0,0,e,0,())) (cond (ak .lss c 2) (some (a,b,aa .add .i64 c 1,d,e,2,())) (cond (sG d) none (some (a,b,0,nS false (6:Int) (aa .add .i64 d 1),aa .add .i64 f (ej .shl .i64 1 d),3,())))))))
def Zq(a b c d e:Int)(f:ByteArray)(g:Int):YcX:=(Ll a b c d e g a b c d e f).bind λh=>some (h.1,h.2.1,h.2.2.1,h.2.2.2.1,h.2.2.2.2.1,h.2.2.2.2.2.1,())
def dr(a b c d e f g h i j k:Int)(l:KB)(m:Kj)(n:JI)(o:Js)(p q r s:Int)(t:ByteArray)(u v w x y z:Int)(A:Bool):YdQ:=(ct q 1 (bw m)).bind λB=>letI C:=(0:Int);letI D:=ak .eql p 2;letI E:=ak .eql p 3;letI F:=aa .sub .i64 q 1;letI G:=ae aS m F;letI H:=G.2.2;letI I:=G.2.1;letI J:=H.1;letI K:=H.2.2;letI L:=H.2.1;letI M:=K.2.1;letI N:=aZ l J;letI O:=K.2.2.2;letI P:=K.2.2.1;letI Q:=(ae ax l J).2;letI R:=(ae ax l J).1;letI S:=Q.2;letI T:=some ((3:Int),a,b,c,d,e,f,g,h,i,j,k,l,m,n,o,());letI U:=some ((5:Int),a,b,c,d,e,f,g,h,i,j,k,l,m,n,o,());letI V:=O.2.2.2;letI W:=some ((8:Int),a,b,c,d,e,f,g,h,i,j,k,l,m,n,o,());letI X:=some ((6:Int),a,b,c,d,e,f,g,h,i,j,k,l,m,n,o,());letI Y:=O.2.2.1;letI Z:=S.2.2;letI a0:=V.2;letI a1:=Z.2.2;letI a2:=a1.2.2;letI a3:=cond D ((Rt a b c d e f g h i j k l m n o).bind λa3=>cond (ak .gtr (aa .add .i64 G.1 a3.1) i) W (lets (cS m F (G.1,I,J,1,K.1,M,P,O.1,O.2.1,Y,V.1,a0.1,a0.2)) λa4=>some (C,a,b,c,d,e,f,g,h,i,j,k,l,a4,n,o,()))) (cond (ak .eql p 12) ((OM n I r q k).bind λa3=>cond (Bool.not a3.1) X ((OI R Q.1 a b c d e f g h K.1 k M).bind λa4=>cond (Bool.not a4.1) U ((Kh a b c d e f g h i j k l m n o).bind λa5=>letI a6:=some ((10:Int),a,b,c,d,e,f,g,h,i,j,k,l,m,n,o,());cond (Bool.not a5.2.1) a6 (cond (ak .geq (bw a5.1) 60) a6 (cond N ((KR a2.2.2 J 2 q C C).bind λa7=>cond N (lets (cS l J (R,Q.1,S.1,S.2.1,Z.1,Z.2.1,a1.1,a1.2.1,a2.1,a2.2.1,a7.1)) λa8=>cond (Bool.not a7.2.1) (some ((10:Int),a,b,c,d,e,f,g,h,i,j,k,a8,m,n,o,())) (lets (cS m F (G.1,I,J,L,K.1,aa .add .i64 M 1,P,O.1,O.2.1,Y,V.1,a0.1,a0.2)) λa9=>some (C,a,b,c,d,e,f,g,h,i,j,k,a8,a9,n,o,()))) none) none))))) (cond (ak .neq a2.1 C) (some ((4:Int),a,b,c,d,e,f,g,h,i,j,k,l,m,n,o,())) ((U2 R Q.1 k).bind λa3=>letI a4:=ak .eql p 4;letI a5:=cS m F (G.1,I,J,2,K.1,M,P,O.1,O.2.1,Y,V.1,a0.1,a0.2);letI a6:=(LK S.1 q).bind λa6=>letI a7:=Mb C C false false true 2;letI a8:=cS l J (R,Q.1,S.1,S.2.1,Z.1,Z.2.1,a1.1,a1.2.1,q,a2.2.1,a2.2.2);cond a6.1 (some ((7:Int),a,b,c,d,e,f,g,h,i,j,k,l,m,n,o,())) (cond a4 ((Zq P O.1 O.2.1 Y V.1 t k).bind λa9=>lets (cS m F (G.1,I,J,L,K.1,M,a9.1,a9.2.1,a9.2.2.1,a9.2.2.2.1,a9.2.2.2.2.1,a0.1,a0.2)) λb0=>letI b1:=ae aS b0 F;letI b2:=b1.2.2.2.2;letI b3:=b2.2.2.2.2;cond (ak .neq a9.2.2.2.2.2.1 C) (some ((9:Int),a,b,c,d,e,f,g,h,i,j,k,l,b0,n,o,())) (lets (cS b0 F (b1.1,b1.2.1,b1.2.2.1,2,b2.1,b2.2.1,b2.2.2.1,b2.2.2.2.1,b3.1,b3.2.1,b3.2.2.1,b3.2.2.2.1,b3.2.2.2.2)) λb4=>lets a8 λb5=>letI b6:=ae ax b5 J;letI b7:=b6.2.2;letI b8:=b7.2.2.2.2;lets (cS b5 J (b6.1,b6.2.1,b7.1,b7.2.1,b7.2.2.1,b7.2.2.2.1,b8.1,b8.2.1,b8.2.2.1,r,b8.2.2.2.2)) λb9=>a7.bind λc0=>letI c1:=ae ax b9 J;letI c2:=c1.2.2.2.2.2.2.2.2;lets (cS b9 J (c1.1,c1.2.1,c1.2.2.1,c0.1,c0.2.1,c0.2.2.1,c0.2.2.2.1,c0.2.2.2.2.1,c2.1,c2.2.1,c2.2.2)) λc3=>some (C,a,b,c,d,e,f,g,h,i,j,k,c3,b4,n,o,()))) (lets a5 λa9=>lets a8 λb0=>letI b1:=ae ax b0 J;letI b2:=b1.2.2;letI b3:=b2.2.2.2.2;lets (cS b0 J (b1.1,b1.2.1,b2.1,b2.2.1,b2.2.2.1,b2.2.2.2.1,b3.1,b3.2.1,b3.2.2.1,C,b3.2.2.2.2)) λb4=>a7.bind λb5=>letI b6:=ae ax b4 J;letI b7:=b6.2.2.2.2.2.2.2.2;lets (cS b4 J (b6.1,b6.2.1,b6.2.2.1,b5.1,b5.2.1,b5.2.2.1,b5.2.2.2.1,b5.2.2.2.2.1,b7.1,b7.2.1,b7.2.2)) λb8=>some (C,a,b,c,d,e,f,g,h,i,j,k,b8,a9,n,o,())));letI a7:=cond E ((OH S.1 q G.1).bind λa7=>cond (Bool.not a7.2.2.2.2.1) W (lets (cS l J (R,Q.1,a7.1,S.2.1,Z.1,Z.2.1,a1.1,a1.2.1,a2.1,a2.2.1,a2.2.2)) λa8=>lets a5 λa9=>letI b0:=ae ax a8 J;letI b1:=b0.2.2;letI b2:=b1.2.2.2.2;lets (cS a8 J (b0.1,b0.2.1,b1.1,b1.2.1,b1.2.2.1,b1.2.2.2.1,b2.1,b2.2.1,q,b2.2.2.2.1,b2.2.2.2.2)) λb3=>letI b4:=ae ax b3 J;letI b5:=b4.2.2;letI b6:=b5.2.2.2.2;lets (cS b3 J (b4.1,b4.2.1,b5.1,b5.2.1,b5.2.2.1,b5.2.2.2.1,b6.1,b6.2.1,b6.2.2.1,C,b6.2.2.2.2)) λb7=>(Mb C C false false false 1).bind λb8=>letI b9:=ae ax b7 J;letI c0:=b9.2.2.2.2.2.2.2.2;lets (cS b7 J (b9.1,b9.2.1,b9.2.2.1,b8.1,b8.2.1,b8.2.2.1,b8.2.2.2.1,b8.2.2.2.2.1,c0.1,c0.2.1,c0.2.2)) λc1=>some (C,a,b,c,d,e,f,g,h,i,j,k,c1,a9,n,o,()))) (cond a4 ((OM n I r q k).bind λa7=>cond (Bool.not a7.1) X a6) a6);cond (Bool.not a3.1) U (cond (ak .eql p 5) ((OQ R Q.1 a b c d e f g h K.1 k M).bind λa8=>cond (Bool.not a8.1) U a7) a7))));cond (Bool.not B.1) (some (2,a,b,c,d,e,f,g,h,i,j,k,l,m,n,o,())) (cond (aZ m F) (cond N (cond D (cond (ak .neq L C) T a3) (cond E (cond (ak .neq L 1) T a3) (cond (ak .neq L 3) T a3))) none) none)
def SA(a b:Int)(c d e:Bool):Oz:=letI f:=some ((0:Int),());cond (ak .eql a 0) f ((E2 a b c d e).bind λg=>cond (Bool.not g.1) f (cond d (some (2,())) ((U6 a b c d e).bind λh=>cond h.1 (some (3,())) (some (4,())))))
def Sr(a b:Int)(c d e:Bool):YbD:=(E2 a b c d e).bind λf=>letI g:=aa .add .i64 b 1;letI h:=some (a,b,c,d,e,false,());cond (Bool.not f.1) h (cond (ak .eql b 0) h (cond (ak .eql b 1) (some (a,g,true,d,e,true,())) (cond (ak .eql b 2) (some (a,g,c,true,e,true,())) (cond (ak .eql b 3) (some (a,g,c,d,Bool.not e,true,())) (cond (ak .eql b 4) (some (a,g,c,false,e,true,())) (cond (ak .eql b 5) (some (a,g,false,d,e,true,())) (cond (ak .eql b 6) (some (0,0,c,d,e,true,())) (some (a,g,c,d,e,true,())))))))))
def U5(a b:Int)(c d e:Bool):YbD:=(E2 a b c d e).bind λf=>letI g:=some (a,b,c,d,e,false,());cond (Bool.not f.1) g (cond (ak .eql b 4) (some (a,3,c,d,Bool.not e,true,())) (cond (ak .eql b 3) (some (a,5,c,false,e,true,())) (cond (ak .eql b 2) (some (a,5,c,d,e,true,())) g)))
def QF(a b:Int)(c d e:Bool):YdD:=(E2 a b c d e).bind λf=>cond f.1 (some (a,0,c,d,e,())) (some (a,b,c,d,e,()))
def Qf(a b:Int)(c d e:Bool):J8:=(E2 a b c d e).bind λf=>letI g:=some (false,());cond f.1 (cond (ak .neq a 0) (some (ak .eql b 0,())) g) g
def X2(a b:Int)(c d e:Bool)(f:Int):YbD:=(Qf a b c d e).bind λg=>letI h:=some (a,b,c,d,e,false,());letI i:=cond (ak .eql f 3) (cond d (some (a,b,c,false,e,true,())) h) h;letI j:=cond (ak .eql f 2) (cond d (some (a,b,c,d,Bool.not e,true,())) i) i;cond (Bool.not g.1) h (cond (ak .eql f 1) (cond c (cond (Bool.not d) (some (a,b,c,true,e,true,())) j) j) j)
def QG(a b c d:Int):J8:=(ct a 0 2).bind λe=>letI f:=some (false,());cond e.1 ((ct b 0 2).bind λg=>cond g.1 ((ct c 0 2).bind λh=>cond h.1 ((ct d 0 2).bind λi=>some (i.1,())) f) f) f
def Kr(a:Int)(b:Bool):J8:=cond (ak .eql a 2) (some (true,())) (cond (ak .eql a 0) (some (b,())) (some (false,())))
def Sy(a b:Int)(c d e:Bool)(f g h i:Int):YeG:=(E2 a b c d e).bind λj=>letI k:=some (false,false,false,false,false,());cond (Bool.not j.1) k ((QG f g h i).bind λl=>cond (Bool.not l.1) k ((Kr f (Bool.not d)).bind λm=>(Kr g (Bool.not d)).bind λn=>(Kr h e).bind λo=>(Kr i e).bind λp=>some (m.1,n.1,o.1,p.1,true,())))
def Kc(a:LN)(b:Int×YcM):Option (Int×YcM⊕YdV):=letI c:=b.2.2.1;letI d:=aa .add .i64 c 1;cond (ak .lss c a.1) (cond (aZ b.2.1 c) (cond (ak .neq (ae zI b.2.1 c) 0) (some (.inl (aa .add .i64 b.1 1,b.2.1,d,()))) (some (.inl (b.1,b.2.1,d,())))) none) (some (.inr (.inl (b.1,()))))
def Nc k x:=iter (Kc k) big x
def Ms(a b c d:Int):Oz:=(Nc (bw (List.append (α:=Int) (List.append (α:=Int) (List.append (α:=Int) (List.append (α:=Int) ([]:Kz) [a]) [b]) [c]) [d]),()) (0,List.append (α:=Int) (List.append (α:=Int) (List.append (α:=Int) (List.append (α:=Int) ([]:Kz) [a]) [b]) [c]) [d],0,())).bind λe=>Sum.elim (λf=>some (f.1,())) (λf=>Empty.elim f) e
def SC(a:Int)(b c d e:Bool):Oz:=letI f:=some ((1:Int),());letI g:=cond (Bool.not (pI b c)) f (cond (Bool.not b) (some ((2:Int),())) (cond (Bool.not (pI d e)) f (cond (pI d (ak .eql a 1)) (some ((3:Int),())) (some ((4:Int),())))));cond (ak .neq a 1) (cond (ak .neq a 2) (some (0,())) g) g
def KL(a b:Int)(c d e:Bool)(f g h i:Int):YbP:=(Sy a b c d e f g h i).bind λj=>letI k:=some (a,b,c,d,e,(0:Int),false,());cond (Bool.not j.2.2.2.2.1) k ((Qf a b c d e).bind λl=>cond (Bool.not l.1) k ((Ms f g h i).bind λm=>cond (ak .gtr m.1 1) k ((SC a j.1 j.2.1 j.2.2.1 j.2.2.2.1).bind λn=>letI o:=some ((0:Int),b,false,d,e,n.1,true,());cond (ak .eql n.1 3) o (cond (ak .eql n.1 4) o (some (a,b,c,d,e,n.1,true,()))))))
def Sv(a b:Int)(c d e:Bool):YbP:=(Qf a b c d e).bind λf=>cond (Bool.not f.1) (some (a,b,c,d,e,0,false,())) ((U6 a b c d e).bind λg=>cond g.1 (some (0,b,false,false,e,3,true,())) (some (0,b,false,false,e,4,true,())))
def Sx(a:Int):Option YdJ:=letI b:=(0:Int);(Ke a b b b b).bind λc=>cond (Bool.not c.1) (some (b,b,b,b,b,false,())) (some (a,b,b,b,b,true,()))
def Sz(a:Int)(b:Kz)(c:Lj)(d:Int):YdW:=(KF a b c).bind λe=>(Qe a b c d).bind λf=>(LF a b c).bind λg=>letI h:=e.2.2.1;letI i:=ae fe h f.1;letI j:=some (e.1,e.2.1,h,false,());cond (Bool.not g.1) j (cond (ak .lss d 1) j (cond (ak .lss f.1 0) j (cond (aZ c f.1) (cond (ae fe c f.1).2.2.2 j (cond (aZ h f.1) (some (e.1,e.2.1,cS h f.1 (i.1,i.2.1,0,i.2.2.2),true,())) none)) none)))
def Nv(a:RB)(b:Int):Option (RB×YaV):=(LI a).bind λc=>(LH a b).bind λd=>(KJ a).bind λe=>letI f:=ae br a d.1;letI g:=some (c.1,false,());cond (Bool.not e.1) g (cond (ak .lss d.1 0) g (cond (aZ a d.1) ((Sz f.1 f.2.1 f.2.2 b).bind λh=>cond (aZ c.1 d.1) (some (cS c.1 d.1 (h.1,h.2.1,h.2.2.1),h.2.2.2.1,())) none) none))
def Jf(a b c d e f g h i j k:Int)(l:KB)(m:Kj)(n:JI)(o:Js)(p q r:Int):Option (Bool×YaK):=letI s:=(0:Int);letI t:=aZ l p;letI u:=ae ax l p;letI v:=ak .eql q 1;letI w:=ak .eql r 3;letI x:=u.2.2;letI y:=x.2.2;letI z:=y.2.2;letI A:=z.2.2;letI B:=A.1;letI C:=A.2.1;letI D:=aa .sub .i64 B 1;letI E:=ae aS m D;letI F:=E.2.2.1;letI G:=E.2.2.2.2;letI H:=G.2.2;letI I:=H.2.2;letI J:=I.2.2;letI K:=J.2;letI L:=cS l p (u.1,u.2.1,x.1,x.2.1,y.1,y.2.1,z.1,z.2.1,s,C,A.2.2);letI M:=cS m D (E.1,E.2.1,F,3,G.1,G.2.1,H.1,H.2.1,I.1,I.2.1,J.1,K.1,K.2);letI N:=cond v (lets (cS m D (E.1,E.2.1,F,1,G.1,G.2.1,H.1,H.2.1,I.1,I.2.1,J.1,K.1,K.2)) λN=>(Nv x.1 B).bind λO=>lets (cS l p (u.1,u.2.1,O.1,x.2.1,y.1,y.2.1,z.1,z.2.1,B,C,A.2.2)) λP=>letI Q:=ae ax P p;letI R:=Q.2.2;letI S:=R.2.2.2.2;lets (cS P p (Q.1,Q.2.1,R.1,R.2.1,R.2.2.1,R.2.2.2.1,S.1,S.2.1,s,S.2.2.2.1,S.2.2.2.2)) λT=>letI U:=ae ax T p;letI V:=U.2.2;letI W:=V.2.2.2.2;lets (cS T p (U.1,U.2.1,V.1,V.2.1,V.2.2.1,V.2.2.2.1,W.1,W.2.1,W.2.2.1,s,W.2.2.2.2)) λX=>letI Y:=ae ax X p;letI Z:=Y.2.2.2.2.2.2.2.2;lets (cS X p (Y.1,Y.2.1,Y.2.2.1,s,s,false,false,false,Z.1,Z.2.1,Z.2.2)) λa0=>some (true,a,b,c,d,e,f,g,h,i,j,k,a0,N,n,o,())) (cond w ((Nv x.1 B).bind λN=>lets (cS l p (u.1,u.2.1,N.1,x.2.1,y.1,y.2.1,z.1,z.2.1,B,C,A.2.2)) λO=>letI P:=aZ O p;letI Q:=ae ax O p;letI R:=Q.2;letI S:=R.2.2;letI T:=S.2.2;letI U:=T.2.2;letI V:=U.2.2;letI W:=cS O p (Q.1,R.1,R.2.1,S.1,S.2.1,T.1,T.2.1,U.1,s,V.1,V.2);cond (ak .eql C s) (lets (cS m D (E.1,E.2.1,F,5,G.1,G.2.1,H.1,H.2.1,I.1,I.2.1,J.1,K.1,K.2)) λX=>(Kh a b c d e f g h i j k O X n o).bind λY=>letI Z:=lets W λZ=>letI a0:=ae ax Z p;letI a1:=a0.2.2;letI a2:=a1.2.2.2.2;lets (cS Z p (a0.1,a0.2.1,a1.1,a1.2.1,a1.2.2.1,a1.2.2.2.1,a2.1,a2.2.1,a2.2.2.1,s,a2.2.2.2.2)) λa3=>letI a4:=ae ax a3 p;letI a5:=a4.2.2.2.2.2.2.2.2;lets (cS a3 p (a4.1,a4.2.1,a4.2.2.1,s,s,false,false,false,a5.1,a5.2.1,a5.2.2)) λa6=>some (false,a,b,c,d,e,f,g,h,i,j,k,a6,X,n,o,());cond (Bool.not Y.2.1) Z (cond (ak .geq (bw Y.1) 60) Z (cond P ((KR V.2 p 4 B s k).bind λa0=>cond P (lets (cS O p (Q.1,R.1,R.2.1,S.1,S.2.1,T.1,T.2.1,U.1,U.2.1,V.1,a0.1)) λa1=>letI a2:=ae ax a1 p;letI a3:=a2.2.2;letI a4:=a3.2.2.2.2;lets (cS a1 p (a2.1,a2.2.1,a3.1,a3.2.1,a3.2.2.1,a3.2.2.2.1,a4.1,a4.2.1,s,a4.2.2.2.1,a4.2.2.2.2)) λa5=>letI a6:=ae ax a5 p;letI a7:=a6.2.2;letI a8:=a7.2.2.2.2;lets (cS a5 p (a6.1,a6.2.1,a7.1,a7.2.1,a7.2.2.1,a7.2.2.2.1,a8.1,a8.2.1,a8.2.2.1,s,a8.2.2.2.2)) λa9=>letI b0:=ae ax a9 p;letI b1:=b0.2.2.2.2.2.2.2.2;lets (cS a9 p (b0.1,b0.2.1,b0.2.2.1,s,s,false,false,false,b1.1,b1.2.1,b1.2.2)) λb2=>some (a0.2.1,a,b,c,d,e,f,g,h,i,j,k,b2,X,n,o,())) none) none))) (lets (cS m D (E.1,E.2.1,F,4,G.1,G.2.1,H.1,H.2.1,I.1,I.2.1,J.1,K.1,K.2)) λX=>letI Y:=ae aS X D;letI Z:=Y.2.2.2;letI a0:=Z.2.2.2.2;lets (cS X D (Y.1,Y.2.1,Y.2.2.1,Z.1,Z.2.1,Z.2.2.1,Z.2.2.2.1,a0.1,a0.2.1,a0.2.2.1,a0.2.2.2.1,C,a0.2.2.2.2.2)) λa1=>letI a2:=ae aS a1 D;letI a3:=a2.2.2.2.2;(We Q.1 R.1 a b c d e f g h a2.1 a3.1 k a3.2.1).bind λa4=>letI a5:=a3.2.2.2.2;lets (cS a1 D (a2.1,a2.2.1,a2.2.2.1,a2.2.2.2.1,a3.1,a3.2.1,a3.2.2.1,a3.2.2.2.1,a5.1,a5.2.1,a5.2.2.1,a5.2.2.2.1,a4.1)) λa6=>(Kh a b c d e f g h i j k O a6 n o).bind λa7=>letI a8:=lets W λa8=>letI a9:=ae ax a8 p;letI b0:=a9.2.2;letI b1:=b0.2.2.2.2;lets (cS a8 p (a9.1,a9.2.1,b0.1,b0.2.1,b0.2.2.1,b0.2.2.2.1,b1.1,b1.2.1,b1.2.2.1,s,b1.2.2.2.2)) λb2=>letI b3:=ae ax b2 p;letI b4:=b3.2.2.2.2.2.2.2.2;lets (cS b2 p (b3.1,b3.2.1,b3.2.2.1,s,s,false,false,false,b4.1,b4.2.1,b4.2.2)) λb5=>some (false,a,b,c,d,e,f,g,h,i,j,k,b5,a6,n,o,());cond (Bool.not a7.2.1) a8 (cond (ak .geq (bw a7.1) 60) a8 (cond P ((KR V.2 p 3 B C k).bind λa9=>cond P (lets (cS O p (Q.1,R.1,R.2.1,S.1,S.2.1,T.1,T.2.1,U.1,U.2.1,V.1,a9.1)) λb0=>letI b1:=ae ax b0 p;letI b2:=b1.2.2;letI b3:=b2.2.2.2.2;lets (cS b0 p (b1.1,b1.2.1,b2.1,b2.2.1,b2.2.2.1,b2.2.2.2.1,b3.1,b3.2.1,s,b3.2.2.2.1,b3.2.2.2.2)) λb4=>letI b5:=ae ax b4 p;letI b6:=b5.2.2;letI b7:=b6.2.2.2.2;lets (cS b4 p (b5.1,b5.2.1,b6.1,b6.2.1,b6.2.2.1,b6.2.2.2.1,b7.1,b7.2.1,b7.2.2.1,s,b7.2.2.2.2)) λb8=>letI b9:=ae ax b8 p;letI c0:=b9.2.2.2.2.2.2.2.2;lets (cS b8 p (b9.1,b9.2.1,b9.2.2.1,s,s,false,false,false,c0.1,c0.2.1,c0.2.2)) λc1=>some (a9.2.1,a,b,c,d,e,f,g,h,i,j,k,c1,a6,n,o,())) none) none)))) (lets M λN=>lets L λO=>letI P:=ae ax O p;letI Q:=P.2.2;letI R:=Q.2.2.2.2;lets (cS O p (P.1,P.2.1,Q.1,Q.2.1,Q.2.2.1,Q.2.2.2.1,R.1,R.2.1,R.2.2.1,s,R.2.2.2.2)) λS=>letI T:=ae ax S p;letI U:=T.2.2.2.2.2.2.2.2;lets (cS S p (T.1,T.2.1,T.2.2.1,s,s,false,false,false,U.1,U.2.1,U.2.2)) λV=>some (true,a,b,c,d,e,f,g,h,i,j,k,V,N,n,o,())));cond t (cond (aZ m D) (cond v (cond w (lets M λO=>letI P:=ae aS O D;letI Q:=P.2.2.2.2.2;letI R:=Q.2.2.2.2;lets (cS O D (P.1,P.2.1,P.2.2.1,P.2.2.2.1,k,Q.1,Q.2.1,Q.2.2.1,Q.2.2.2.1,R.1,R.2.1,R.2.2.1,R.2.2.2)) λS=>(Kf a b c d e f g h i j k l S n o B).bind λT=>(Sx T.1).bind λU=>letI V:=(ae aS S D).2;letI W:=V.2.2.2.2.2.2.2.2.2.2;lets (cS S D ((ae aS S D).1,V.1,V.2.1,V.2.2.1,V.2.2.2.1,V.2.2.2.2.1,U.1,U.2.1,U.2.2.1,U.2.2.2.1,U.2.2.2.2.1,W.1,W.2)) λX=>(Kh a b c d e f g h i j k l X n o).bind λY=>letI Z:=lets L λZ=>letI a0:=ae ax Z p;letI a1:=a0.2.2;letI a2:=a1.2.2.2.2;lets (cS Z p (a0.1,a0.2.1,a1.1,a1.2.1,a1.2.2.1,a1.2.2.2.1,a2.1,a2.2.1,a2.2.2.1,s,a2.2.2.2.2)) λa3=>letI a4:=ae ax a3 p;letI a5:=a4.2.2.2.2.2.2.2.2;lets (cS a3 p (a4.1,a4.2.1,a4.2.2.1,s,s,false,false,false,a5.1,a5.2.1,a5.2.2)) λa6=>some (false,a,b,c,d,e,f,g,h,i,j,k,a6,X,n,o,());cond (Bool.not Y.2.1) Z (cond (ak .geq (bw Y.1) 60) Z (cond t ((KR A.2.2 p 1 B p k).bind λa0=>cond t (lets (cS l p (u.1,u.2.1,x.1,x.2.1,y.1,y.2.1,z.1,z.2.1,B,C,a0.1)) λa1=>letI a2:=ae ax a1 p;letI a3:=a2.2.2;letI a4:=a3.2.2.2.2;lets (cS a1 p (a2.1,a2.2.1,a3.1,a3.2.1,a3.2.2.1,a3.2.2.2.1,a4.1,a4.2.1,s,a4.2.2.2.1,a4.2.2.2.2)) λa5=>letI a6:=ae ax a5 p;letI a7:=a6.2.2;letI a8:=a7.2.2.2.2;lets (cS a5 p (a6.1,a6.2.1,a7.1,a7.2.1,a7.2.2.1,a7.2.2.2.1,a8.1,a8.2.1,a8.2.2.1,s,a8.2.2.2.2)) λa9=>letI b0:=ae ax a9 p;letI b1:=b0.2.2.2.2.2.2.2.2;lets (cS a9 p (b0.1,b0.2.1,b0.2.2.1,s,s,false,false,false,b1.1,b1.2.1,b1.2.2)) λb2=>some (a0.2.1,a,b,c,d,e,f,g,h,i,j,k,b2,X,n,o,())) none) none))) N) N) none) none
def py(a b c d e f g h i j k:Int)(l:KB)(m:Kj)(n:JI)(o:Js)(p q r s:Int)(t:ByteArray)(u v w x y z:Int)(A:Bool):YdQ:=letI B:=(0:Int);(ct q B (aa .sub .i64 (bw l) 1)).bind λC=>letI D:=ae ax l q;letI E:=D.2.2.2;letI F:=E.1;letI G:=E.2.2;letI H:=E.2.1;letI I:=G.1;letI J:=G.2.2;letI K:=G.2.1;letI L:=J.1;cond (Bool.not C.1) (some (2,a,b,c,d,e,f,g,h,i,j,k,l,m,n,o,())) (cond (aZ l q) ((SA F H I K L).bind λM=>letI N:=(10:Int);letI O:=(3:Int);letI P:=D.1;letI Q:=D.2.1;letI R:=D.2.2.1;letI S:=J.2.2;letI T:=J.2.1;letI U:=S.1;letI V:=S.2;letI W:=cond (ak .eql r 1) ((KL F H I K L s B B B).bind λW=>letI X:=W.2.2.2;lets (cS l q (P,Q,R,W.1,W.2.1,W.2.2.1,X.1,X.2.1,T,U,V)) λY=>cond (Bool.not X.2.2.2.1) (some (O,a,b,c,d,e,f,g,h,i,j,k,Y,m,n,o,())) (cond (ak .eql (ae ax Y q).2.2.2.1 B) ((Jf a b c d e f g h i j k Y m n o q F X.2.2.1).bind λZ=>letI a0:=Z.2.2;letI a1:=a0.2.2;letI a2:=a1.2.2;letI a3:=a2.2.2;letI a4:=a3.2.2;letI a5:=a4.2.2;cond (Bool.not Z.1) (some (N,Z.2.1,a0.1,a0.2.1,a1.1,a1.2.1,a2.1,a2.2.1,a3.1,a3.2.1,a4.1,a4.2.1,a5.1,a5.2.1,a5.2.2.1,a5.2.2.2.1,())) (some (B,Z.2.1,a0.1,a0.2.1,a1.1,a1.2.1,a2.1,a2.2.1,a3.1,a3.2.1,a4.1,a4.2.1,a5.1,a5.2.1,a5.2.2.1,a5.2.2.2.1,()))) (some (B,a,b,c,d,e,f,g,h,i,j,k,Y,m,n,o,())))) (cond (ak .eql r 2) ((KL F H I K L B s B B).bind λW=>letI X:=W.2.2.2;lets (cS l q (P,Q,R,W.1,W.2.1,W.2.2.1,X.1,X.2.1,T,U,V)) λY=>cond (Bool.not X.2.2.2.1) (some (O,a,b,c,d,e,f,g,h,i,j,k,Y,m,n,o,())) (cond (ak .eql (ae ax Y q).2.2.2.1 B) ((Jf a b c d e f g h i j k Y m n o q F X.2.2.1).bind λZ=>letI a0:=Z.2.2;letI a1:=a0.2.2;letI a2:=a1.2.2;letI a3:=a2.2.2;letI a4:=a3.2.2;letI a5:=a4.2.2;cond (Bool.not Z.1) (some (N,Z.2.1,a0.1,a0.2.1,a1.1,a1.2.1,a2.1,a2.2.1,a3.1,a3.2.1,a4.1,a4.2.1,a5.1,a5.2.1,a5.2.2.1,a5.2.2.2.1,())) (some (B,Z.2.1,a0.1,a0.2.1,a1.1,a1.2.1,a2.1,a2.2.1,a3.1,a3.2.1,a4.1,a4.2.1,a5.1,a5.2.1,a5.2.2.1,a5.2.2.2.1,()))) (some (B,a,b,c,d,e,f,g,h,i,j,k,Y,m,n,o,())))) (cond (ak .eql r O) ((KL F H I K L B B s B).bind λW=>letI X:=W.2.2.2;lets (cS l q (P,Q,R,W.1,W.2.1,W.2.2.1,X.1,X.2.1,T,U,V)) λY=>cond (Bool.not X.2.2.2.1) (some (O,a,b,c,d,e,f,g,h,i,j,k,Y,m,n,o,())) (cond (ak .eql (ae ax Y q).2.2.2.1 B) ((Jf a b c d e f g h i j k Y m n o q F X.2.2.1).bind λZ=>letI a0:=Z.2.2;letI a1:=a0.2.2;letI a2:=a1.2.2;letI a3:=a2.2.2;letI a4:=a3.2.2;letI a5:=a4.2.2;cond (Bool.not Z.1) (some (N,Z.2.1,a0.1,a0.2.1,a1.1,a1.2.1,a2.1,a2.2.1,a3.1,a3.2.1,a4.1,a4.2.1,a5.1,a5.2.1,a5.2.2.1,a5.2.2.2.1,())) (some (B,Z.2.1,a0.1,a0.2.1,a1.1,a1.2.1,a2.1,a2.2.1,a3.1,a3.2.1,a4.1,a4.2.1,a5.1,a5.2.1,a5.2.2.1,a5.2.2.2.1,()))) (some (B,a,b,c,d,e,f,g,h,i,j,k,Y,m,n,o,())))) (cond (ak .eql r 4) ((KL F H I K L B B B s).bind λW=>letI X:=W.2.2.2;lets (cS l q (P,Q,R,W.1,W.2.1,W.2.2.1,X.1,X.2.1,T,U,V)) λY=>cond (Bool.not X.2.2.2.1) (some (O,a,b,c,d,e,f,g,h,i,j,k,Y,m,n,o,())) (cond (ak .eql (ae ax Y q).2.2.2.1 B) ((Jf a b c d e f g h i j k Y m n o q F X.2.2.1).bind λZ=>letI a0:=Z.2.2;letI a1:=a0.2.2;letI a2:=a1.2.2;letI a3:=a2.2.2;letI a4:=a3.2.2;letI a5:=a4.2.2;cond (Bool.not Z.1) (some (N,Z.2.1,a0.1,a0.2.1,a1.1,a1.2.1,a2.1,a2.2.1,a3.1,a3.2.1,a4.1,a4.2.1,a5.1,a5.2.1,a5.2.2.1,a5.2.2.2.1,())) (some (B,Z.2.1,a0.1,a0.2.1,a1.1,a1.2.1,a2.1,a2.2.1,a3.1,a3.2.1,a4.1,a4.2.1,a5.1,a5.2.1,a5.2.2.1,a5.2.2.2.1,()))) (some (B,a,b,c,d,e,f,g,h,i,j,k,Y,m,n,o,())))) ((KL F H I K L B B B B).bind λW=>letI X:=W.2.2.2;lets (cS l q (P,Q,R,W.1,W.2.1,W.2.2.1,X.1,X.2.1,T,U,V)) λY=>cond (Bool.not X.2.2.2.1) (some (O,a,b,c,d,e,f,g,h,i,j,k,Y,m,n,o,())) (cond (ak .eql (ae ax Y q).2.2.2.1 B) ((Jf a b c d e f g h i j k Y m n o q F X.2.2.1).bind λZ=>letI a0:=Z.2.2;letI a1:=a0.2.2;letI a2:=a1.2.2;letI a3:=a2.2.2;letI a4:=a3.2.2;letI a5:=a4.2.2;cond (Bool.not Z.1) (some (N,Z.2.1,a0.1,a0.2.1,a1.1,a1.2.1,a2.1,a2.2.1,a3.1,a3.2.1,a4.1,a4.2.1,a5.1,a5.2.1,a5.2.2.1,a5.2.2.2.1,())) (some (B,Z.2.1,a0.1,a0.2.1,a1.1,a1.2.1,a2.1,a2.2.1,a3.1,a3.2.1,a4.1,a4.2.1,a5.1,a5.2.1,a5.2.2.1,a5.2.2.2.1,()))) (some (B,a,b,c,d,e,f,g,h,i,j,k,Y,m,n,o,())))))));letI X:=(ct r 1 4).bind λX=>letI Y:=some ((1:Int),a,b,c,d,e,f,g,h,i,j,k,l,m,n,o,());cond X.1 ((ct s 1 2).bind λZ=>cond (Bool.not Z.1) Y W) Y;cond (ak .eql p 6) ((Sr F H I K L).bind λY=>lets (cS l q (P,Q,R,Y.1,Y.2.1,Y.2.2.1,Y.2.2.2.1,Y.2.2.2.2.1,T,U,V)) λZ=>cond (Bool.not Y.2.2.2.2.2.1) (some (O,a,b,c,d,e,f,g,h,i,j,k,Z,m,n,o,())) (cond (ak .eql (ae ax Z q).2.2.2.1 B) ((Jf a b c d e f g h i j k Z m n o q F M.1).bind λa0=>letI a1:=a0.2.2;letI a2:=a1.2.2;letI a3:=a2.2.2;letI a4:=a3.2.2;letI a5:=a4.2.2;letI a6:=a5.2.2;cond (Bool.not a0.1) (some (N,a0.2.1,a1.1,a1.2.1,a2.1,a2.2.1,a3.1,a3.2.1,a4.1,a4.2.1,a5.1,a5.2.1,a6.1,a6.2.1,a6.2.2.1,a6.2.2.2.1,())) (some (B,a0.2.1,a1.1,a1.2.1,a2.1,a2.2.1,a3.1,a3.2.1,a4.1,a4.2.1,a5.1,a5.2.1,a6.1,a6.2.1,a6.2.2.1,a6.2.2.2.1,()))) (some (B,a,b,c,d,e,f,g,h,i,j,k,Z,m,n,o,())))) (cond (ak .eql p 7) ((U5 F H I K L).bind λY=>lets (cS l q (P,Q,R,Y.1,Y.2.1,Y.2.2.1,Y.2.2.2.1,Y.2.2.2.2.1,T,U,V)) λZ=>cond (Bool.not Y.2.2.2.2.2.1) (some (O,a,b,c,d,e,f,g,h,i,j,k,Z,m,n,o,())) (cond (ak .eql (ae ax Z q).2.2.2.1 B) ((Jf a b c d e f g h i j k Z m n o q F M.1).bind λa0=>letI a1:=a0.2.2;letI a2:=a1.2.2;letI a3:=a2.2.2;letI a4:=a3.2.2;letI a5:=a4.2.2;letI a6:=a5.2.2;cond (Bool.not a0.1) (some (N,a0.2.1,a1.1,a1.2.1,a2.1,a2.2.1,a3.1,a3.2.1,a4.1,a4.2.1,a5.1,a5.2.1,a6.1,a6.2.1,a6.2.2.1,a6.2.2.2.1,())) (some (B,a0.2.1,a1.1,a1.2.1,a2.1,a2.2.1,a3.1,a3.2.1,a4.1,a4.2.1,a5.1,a5.2.1,a6.1,a6.2.1,a6.2.2.1,a6.2.2.2.1,()))) (some (B,a,b,c,d,e,f,g,h,i,j,k,Z,m,n,o,())))) (cond (ak .eql p 8) ((QF F H I K L).bind λY=>lets (cS l q (P,Q,R,Y.1,Y.2.1,Y.2.2.1,Y.2.2.2.1,Y.2.2.2.2.1,T,U,V)) λZ=>cond (Bool.not (ak .neq H B)) (some (O,a,b,c,d,e,f,g,h,i,j,k,Z,m,n,o,())) (cond (ak .eql (ae ax Z q).2.2.2.1 B) ((Jf a b c d e f g h i j k Z m n o q F M.1).bind λa0=>letI a1:=a0.2.2;letI a2:=a1.2.2;letI a3:=a2.2.2;letI a4:=a3.2.2;letI a5:=a4.2.2;letI a6:=a5.2.2;cond (Bool.not a0.1) (some (N,a0.2.1,a1.1,a1.2.1,a2.1,a2.2.1,a3.1,a3.2.1,a4.1,a4.2.1,a5.1,a5.2.1,a6.1,a6.2.1,a6.2.2.1,a6.2.2.2.1,())) (some (B,a0.2.1,a1.1,a1.2.1,a2.1,a2.2.1,a3.1,a3.2.1,a4.1,a4.2.1,a5.1,a5.2.1,a6.1,a6.2.1,a6.2.2.1,a6.2.2.2.1,()))) (some (B,a,b,c,d,e,f,g,h,i,j,k,Z,m,n,o,())))) (cond (ak .eql p 9) ((X2 F H I K L r).bind λY=>lets (cS l q (P,Q,R,Y.1,Y.2.1,Y.2.2.1,Y.2.2.2.1,Y.2.2.2.2.1,T,U,V)) λZ=>cond (Bool.not Y.2.2.2.2.2.1) (some (O,a,b,c,d,e,f,g,h,i,j,k,Z,m,n,o,())) (cond (ak .eql (ae ax Z q).2.2.2.1 B) ((Jf a b c d e f g h i j k Z m n o q F M.1).bind λa0=>letI a1:=a0.2.2;letI a2:=a1.2.2;letI a3:=a2.2.2;letI a4:=a3.2.2;letI a5:=a4.2.2;letI a6:=a5.2.2;cond (Bool.not a0.1) (some (N,a0.2.1,a1.1,a1.2.1,a2.1,a2.2.1,a3.1,a3.2.1,a4.1,a4.2.1,a5.1,a5.2.1,a6.1,a6.2.1,a6.2.2.1,a6.2.2.2.1,())) (some (B,a0.2.1,a1.1,a1.2.1,a2.1,a2.2.1,a3.1,a3.2.1,a4.1,a4.2.1,a5.1,a5.2.1,a6.1,a6.2.1,a6.2.2.1,a6.2.2.2.1,()))) (some (B,a,b,c,d,e,f,g,h,i,j,k,Z,m,n,o,())))) (cond (ak .eql p N) (cond (ak .eql r B) (cond (Bool.not (ak .eql s B)) X W) X) (cond (ak .eql p 11) ((Sv F H I K L).bind λY=>letI Z:=Y.2.2.2;lets (cS l q (P,Q,R,Y.1,Y.2.1,Y.2.2.1,Z.1,Z.2.1,T,U,V)) λa0=>cond (Bool.not Z.2.2.2.1) (some (O,a,b,c,d,e,f,g,h,i,j,k,a0,m,n,o,())) (cond (ak .eql (ae ax a0 q).2.2.2.1 B) ((Jf a b c d e f g h i j k a0 m n o q F Z.2.2.1).bind λa1=>letI a2:=a1.2.2;letI a3:=a2.2.2;letI a4:=a3.2.2;letI a5:=a4.2.2;letI a6:=a5.2.2;letI a7:=a6.2.2;cond (Bool.not a1.1) (some (N,a1.2.1,a2.1,a2.2.1,a3.1,a3.2.1,a4.1,a4.2.1,a5.1,a5.2.1,a6.1,a6.2.1,a7.1,a7.2.1,a7.2.2.1,a7.2.2.2.1,())) (some (B,a1.2.1,a2.1,a2.2.1,a3.1,a3.2.1,a4.1,a4.2.1,a5.1,a5.2.1,a6.1,a6.2.1,a7.1,a7.2.1,a7.2.2.1,a7.2.2.2.1,()))) (some (B,a,b,c,d,e,f,g,h,i,j,k,a0,m,n,o,())))) (some (O,a,b,c,d,e,f,g,h,i,j,k,l,m,n,o,())))))))) none)
def LD(a:JI)(b c d e f g:Int)(h:Bool):Option (JI×YaV):=(sS a).bind λi=>(JT a).bind λj=>letI k:=some (i.1,false,());cond (Bool.not j.1) k (cond (ak .eql (bw a) 30) k ((JS b c d e f g h).bind λl=>letI m:=(b,c,d,e,f,g,h);cond (Bool.not l.1) k (cond h k (cond (dF (List.append (α:=YbC) i.1 (List.append (α:=YbC) ([]:JI) [m]))) (some (List.append (α:=YbC) i.1 (List.append (α:=YbC) ([]:JI) [m]),true,())) none))))
def Rs(a:JI)(b:Int):Option (JI×YaV):=(sS a).bind λc=>(JT a).bind λd=>letI e:=some (c.1,false,());cond (Bool.not d.1) e ((ct b 0 (aa .sub .i64 (bw a) 1)).bind λf=>letI g:=ae gI c.1 b;cond (Bool.not f.1) e (cond (aZ a b) (cond (ae gI a b).2.2.2.2.2.2 e (cond (aZ c.1 b) (lets (cS c.1 b (g.1,g.2.1,g.2.2.1,g.2.2.2.1,g.2.2.2.2.1,g.2.2.2.2.2.1,true)) λh=>some (h,true,())) none)) none))
def Nf(a b c:Int)(d:Bool)(e f g h:Int)(i:ByteArray)(j k l m n o:Int)(p:Bool):J8:=cond (ak .geq h a) (some (ak .lss h (aa .add .i64 a b),())) (some (false,()))
def nh(a:Lj×Int×Int×Int×Int×ByteArray×YdN)(b:LN):YaZ:=letI c:=a.2.2.2.2;letI d:=ae fe a.1 b.1;letI e:=c.2.2.2;letI f:=e.2.2.2;cond (ak .lss b.1 f.2.2.2.1) (cond (aZ a.1 b.1) ((Nf d.1 d.2.1 d.2.2.1 d.2.2.2 a.2.1 a.2.2.1 a.2.2.2.1 c.1 c.2.1 c.2.2.1 e.1 e.2.1 e.2.2.1 f.1 f.2.1 f.2.2.1).bind λg=>cond g.1 (some (.inr (.inl (b.1,())))) (some (.inl (aa .add .i64 b.1 1,())))) none) (some (.inr (.inr (.inl ()))))
def vn k x:=iter (nh k) big x
def p5(a:Lj)(b c d e:Int)(f:ByteArray)(g h i j k l:Int)(m:Bool):Oz:=(vn (a,b,c,d,e,f,g,h,i,j,k,l,m,bw a,()) (0,())).bind λn=>Sum.elim (λo=>some (o.1,())) (λo=>Sum.elim (λ_=>some (-1,())) (λp=>Empty.elim p) o) n
def ee(a b c d e f g h i j k:Int)(l:KB)(m:Kj)(n:JI)(o:Js)(p q r s:Int)(t:ByteArray)(u v w x y z:Int)(A:Bool):YdQ:=letI B:=(0:Int);letI C:=aZ l q;letI D:=ae ax l q;letI E:=D.2.2;letI F:=aa .sub .i64 (bw l) 1;letI G:=E.2.2.2;letI H:=G.2.2;letI I:=H.2;letI J:=some ((2:Int),a,b,c,d,e,f,g,h,i,j,k,l,m,n,o,());letI K:=some ((1:Int),a,b,c,d,e,f,g,h,i,j,k,l,m,n,o,());letI L:=some ((10:Int),a,b,c,d,e,f,g,h,i,j,k,l,m,n,o,());cond (ak .eql p 1) ((ct s B F).bind λM=>cond (Bool.not M.1) J ((Fv q).bind λN=>cond (Bool.not N.1) K ((ct r 1 24).bind λO=>letI P:=(r,q,s,B,B,B,B,B,B,B,B,B,B);cond (Bool.not O.1) K (cond (ak .geq (bw m) 12) L (cond (dF (List.append (α:=YaW) m (List.append (α:=YaW) ([]:Kj) [P]))) (lets (List.append (α:=YaW) ([]:Kj) [P]) λ_=>lets (List.append (α:=YaW) m (List.append (α:=YaW) ([]:Kj) [P])) λQ=>some (B,a,b,c,d,e,f,g,h,i,j,k,l,Q,n,o,())) none))))) (cond (ak .eql p 13) ((JS u v w x y z A).bind λM=>cond (Bool.not M.1) K (cond A K ((LD n u v w x y z A).bind λN=>cond (Bool.not N.2.1) L (some (B,a,b,c,d,e,f,g,h,i,j,k,l,m,N.1,o,()))))) (cond (ak .eql p 14) ((ct q B (aa .sub .i64 (bw n) 1)).bind λM=>cond (Bool.not M.1) J ((Rs n q).bind λN=>cond (Bool.not N.2.1) (some (3,a,b,c,d,e,f,g,h,i,j,k,l,m,n,o,())) (some (B,a,b,c,d,e,f,g,h,i,j,k,l,m,N.1,o,())))) (cond (ak .eql p 15) (cond (ak .lss q 1) K (cond (ak .gtr q (aa .sub .i64 20000 k)) (some (5,a,b,c,d,e,f,g,h,i,j,k,l,m,n,o,())) (some (B,a,b,c,d,e,f,g,h,i,j,aa .add .i64 k q,l,m,n,o,())))) (cond (ak .eql p 16) ((ct q B F).bind λM=>cond (Bool.not M.1) J (cond C ((Kp o I.2.2).bind λN=>cond (Bool.not N.2.1) L ((js N.1).bind λO=>cond C (lets (cS l q (D.1,D.2.1,E.1,E.2.1,E.2.2.1,G.1,G.2.1,H.1,I.1,I.2.1,O.1)) λP=>some (B,a,b,c,d,e,f,g,h,i,j,k,P,m,n,N.1,())) none)) none)) (cond (ak .eql p 17) ((ct q B F).bind λM=>cond (Bool.not M.1) J (cond C ((ct r B (aa .sub .i64 (bw E.1) 1)).bind λN=>letI O:=ae br E.1 r;cond (Bool.not N.1) J (cond C (cond (aZ E.1 r) ((p5 O.2.2 p q r s t u v w x y z A).bind λP=>letI Q:=ae fe O.2.2 P.1;letI R:=lets (cS l q (D.1,D.2.1,cS E.1 r (O.1,O.2.1,cS O.2.2 P.1 (Q.1,Q.2.1,Q.2.2.1,Bool.not Q.2.2.2)),E.2.1,E.2.2.1,G.1,G.2.1,H.1,I.1,I.2.1,I.2.2)) λR=>some (B,a,b,c,d,e,f,g,h,i,j,k,R,m,n,o,());cond (ak .lss P.1 B) J (cond (aZ E.1 r) (cond (aZ O.2.2 P.1) (cond (ak .neq I.1 B) (lets (ak .eql Q.2.2.1 I.1) λS=>cond S (some (4,a,b,c,d,e,f,g,h,i,j,k,l,m,n,o,())) R) R) none) none)) none) none)) none)) (some (B,a,b,c,d,e,f,g,h,i,j,k,l,m,n,o,())))))))
def J9(a b c d e f g h i j k:Int)(l:KB)(m:Kj)(n:JI)(o:Js)(p q r s:Int)(t:ByteArray)(u v w x y z:Int)(A:Bool):YbR:=letI B:=K6 a b c d e f g h i j k l m n o;B.bind λC=>(Mc a b c d e f g h i j k l m n o).bind λD=>letI E:=C.2.2;letI F:=E.2.2;letI G:=F.2.2.2;letI H:=F.2.2.1;letI I:=G.2.2;letI J:=I.2.2;letI K:=J.2.2;letI L:=some (C.1,C.2.1,E.1,E.2.1,F.1,F.2.1,H,G.1,G.2.1,I.1,I.2.1,J.1,J.2.1,K.1,K.2.1,(1:Int),());cond (Bool.not D.1) L ((ct p 1 17).bind λM=>letI N:=ak .eql p 10;letI O:=ak .eql p 2;letI P:=ak .eql p 3;letI Q:=ak .eql p 4;letI R:=ak .eql p 5;letI S:=ak .eql p 6;letI T:=ak .eql p 7;letI U:=ak .eql p 8;letI V:=ak .eql p 9;letI W:=(py C.1 C.2.1 E.1 E.2.1 F.1 F.2.1 H G.1 G.2.1 I.1 I.2.1 J.1 J.2.1 K.1 K.2.1 p q r s t u v w x y z A).bind λW=>letI X:=W.2.2.2.2;letI Y:=X.2.2.2.2;letI Z:=Y.2.2.2.2;letI a0:=some (W.2.1,W.2.2.1,W.2.2.2.1,X.1,X.2.1,X.2.2.1,X.2.2.2.1,Y.1,Y.2.1,Y.2.2.1,Y.2.2.2.1,Z.1,Z.2.1,Z.2.2.1,Z.2.2.2.1,W.1,());cond (ak .neq W.1 0) (cond (ak .neq W.1 9) (B.bind λa1=>letI a2:=a1.2.2.2.2;letI a3:=a2.2.2.2;letI a4:=a3.2.2.2.2;some (a1.1,a1.2.1,a1.2.2.1,a1.2.2.2.1,a2.1,a2.2.1,a2.2.2.1,a3.1,a3.2.1,a3.2.2.1,a3.2.2.2.1,a4.1,a4.2.1,a4.2.2.1,a4.2.2.2.1,W.1,())) a0) a0;letI X:=(ee C.1 C.2.1 E.1 E.2.1 F.1 F.2.1 H G.1 G.2.1 I.1 I.2.1 J.1 J.2.1 K.1 K.2.1 p q r s t u v w x y z A).bind λX=>letI Y:=X.2.2.2.2;letI Z:=Y.2.2.2.2;letI a0:=Z.2.2.2.2;letI a1:=some (X.2.1,X.2.2.1,X.2.2.2.1,Y.1,Y.2.1,Y.2.2.1,Y.2.2.2.1,Z.1,Z.2.1,Z.2.2.1,Z.2.2.2.1,a0.1,a0.2.1,a0.2.2.1,a0.2.2.2.1,X.1,());cond (ak .neq X.1 0) (cond (ak .neq X.1 9) (B.bind λa2=>letI a3:=a2.2.2.2.2;letI a4:=a3.2.2.2;letI a5:=a4.2.2.2.2;some (a2.1,a2.2.1,a2.2.2.1,a2.2.2.2.1,a3.1,a3.2.1,a3.2.2.1,a4.1,a4.2.1,a4.2.2.1,a4.2.2.2.1,a5.1,a5.2.1,a5.2.2.1,a5.2.2.2.1,X.1,())) a1) a1;letI Y:=(dr C.1 C.2.1 E.1 E.2.1 F.1 F.2.1 H G.1 G.2.1 I.1 I.2.1 J.1 J.2.1 K.1 K.2.1 p q r s t u v w x y z A).bind λY=>letI Z:=Y.2.2.2.2;letI a0:=Z.2.2.2.2;letI a1:=a0.2.2.2.2;letI a2:=some (Y.2.1,Y.2.2.1,Y.2.2.2.1,Z.1,Z.2.1,Z.2.2.1,Z.2.2.2.1,a0.1,a0.2.1,a0.2.2.1,a0.2.2.2.1,a1.1,a1.2.1,a1.2.2.1,a1.2.2.2.1,Y.1,());cond (ak .neq Y.1 0) (cond (ak .neq Y.1 9) (B.bind λa3=>letI a4:=a3.2.2.2.2;letI a5:=a4.2.2.2;letI a6:=a5.2.2.2.2;some (a3.1,a3.2.1,a3.2.2.1,a3.2.2.2.1,a4.1,a4.2.1,a4.2.2.1,a5.1,a5.2.1,a5.2.2.1,a5.2.2.2.1,a6.1,a6.2.1,a6.2.2.1,a6.2.2.2.1,Y.1,())) a2) a2;letI Z:=cond S (cond S W X) (cond T (cond T W X) (cond U (cond U W X) (cond V (cond V W X) (cond N (cond N W X) (cond (ak .eql p 11) W X)))));cond (Bool.not M.1) L (cond O (cond O Y Z) (cond P (cond P Y Z) (cond Q (cond Q Y Z) (cond R (cond R Y Z) (cond (ak .eql p 12) Y Z))))))
def Ks(a:YdA)(b:Nt):YbA:=letI c:=ae kC a.1 b.2.1;letI d:=c.2.2;letI e:=d.2.2.2.2.2;cond (ak .lss b.2.1 (bw a.1)) (cond (aZ a.1 b.2.1) ((TW c.1 c.2.1 d.1 d.2.1 d.2.2.1 d.2.2.2.1 d.2.2.2.2.1 e.1 e.2.1 e.2.2.1 e.2.2.2.1 e.2.2.2.2 b.1).bind λf=>cond (ak .lss f.1 0) (some (.inr (.inl (-1,())))) (some (.inl (f.1,aa .add .i64 b.2.1 1,())))) none) (some (.inr (.inr (.inl (b.1,())))))
def TX k x:=iter (Ks k) big x
def NJ(a:YaL)(b:Int):Oz:=letI c:=aa .sub .i64 b (bw a);cond (ak .lss c 0) (some (-1,())) ((TX (a,()) (c,0,())).bind λd=>Sum.elim (λe=>some (e.1,())) (λe=>Sum.elim (λf=>some (f.1,())) (λf=>Empty.elim f) e) d)
def Ls(a:YdA)(b:YaL×LN):Option (YaL×LN⊕YdA⊕Empty):=letI c:=b.2.1;letI d:=ae kC a.1 c;letI e:=d.2.2;letI f:=e.2.2.2.2.2;cond (ak .lss c (bw a.1)) (cond (aZ a.1 c) ((TY d.1 d.2.1 e.1 e.2.1 e.2.2.1 e.2.2.2.1 e.2.2.2.2.1 f.1 f.2.1 f.2.2.1 f.2.2.2.1 f.2.2.2.2).bind λg=>letI h:=g.2.2.2;letI i:=h.2.2.2;cond (aZ b.1 c) (lets (cS b.1 c (g.1,g.2.1,g.2.2.1,h.1,h.2.1,h.2.2.1,i.1,i.2.1,i.2.2.1,i.2.2.2.1,i.2.2.2.2.1,i.2.2.2.2.2.1)) λj=>some (.inl (j,aa .add .i64 c 1,()))) none) none) (some (.inr (.inl (b.1,()))))
def Lt k x:=iter (Ls k) big x
def NL(a:YaL):Option YdA:=letI b:=(0:Int);cond (lu (bw a)) ((Lt (a,()) (nw (bw a) (b,b,b,b,ByteArray.mk #[],b,b,b,b,b,b,false),b,())).bind λc=>Sum.elim (λd=>some (d.1,())) (λd=>Empty.elim d) c) none
def Kw(a:YdA)(b:YcB):Option (YcB⊕Int×Int×Int×Int×Int×Int×Int×Int×Int×Int×Int×KB×Kj×JI×Js×Kz×YaK⊕Empty):=letI c:=b.2.2.2;letI d:=c.2.2;letI e:=d.2.2.2;letI f:=e.2.2;letI g:=f.2.2.2;letI h:=g.2.2;letI i:=h.2.2;letI j:=i.2.2;letI k:=j.2.2;letI l:=k.2.2;letI m:=l.2.2.2;letI n:=m.2.2.2;letI o:=n.2.2.1;letI p:=ae kC a.1 o;letI q:=p.2.2.2;letI r:=q.2.2.2;cond (ak .lss o (bw a.1)) (cond (aZ a.1 o) ((Ka h.2.1 i.1 i.2.1 j.1 j.2.1 k.1 k.2.1 l.1 l.2.1 l.2.2.1 m.1 m.2.1 m.2.2.1 n.1 n.2.1 p.1 p.2.1 p.2.2.1 q.1 q.2.1 q.2.2.1 r.1 r.2.1 r.2.2.1 r.2.2.2.1 r.2.2.2.2.1 r.2.2.2.2.2).bind λs=>letI t:=s.2.2.2.2;letI u:=t.2.2.2.2;letI v:=u.2.2.2.2;cond (dF (List.append (α:=Int) h.1 (List.append (α:=Int) ([]:Kz) [v.2.2.2.1]))) (some (.inl (b.1,b.2.1,b.2.2.1,c.1,c.2.1,d.1,d.2.1,d.2.2.1,e.1,e.2.1,f.1,f.2.1,f.2.2.1,g.1,g.2.1,List.append (α:=Int) h.1 (List.append (α:=Int) ([]:Kz) [v.2.2.2.1]),s.1,s.2.1,s.2.2.1,s.2.2.2.1,t.1,t.2.1,t.2.2.1,t.2.2.2.1,u.1,u.2.1,u.2.2.1,u.2.2.2.1,v.1,v.2.1,v.2.2.1,aa .add .i64 o 1,()))) none) none) (some (.inr (.inl (b.1,b.2.1,b.2.2.1,c.1,c.2.1,d.1,d.2.1,d.2.2.1,e.1,e.2.1,f.1,f.2.1,f.2.2.1,g.1,g.2.1,h.1,h.2.1,i.1,i.2.1,j.1,j.2.1,k.1,k.2.1,l.1,l.2.1,l.2.2.1,m.1,m.2.1,m.2.2.1,n.1,n.2.1,()))))
def N7 k x:=iter (Kw k) big x
def NS(a b c d e f g h i j k:Int)(l:KB)(m:Kj)(n:JI)(o:Js)(p:YaL):Option YbM:=(PV a b c d e f g h i j k l m n o).bind λq=>(Mk a b c d e f g h i j k l m n o).bind λr=>letI s:=(0:Int);letI t:=q.2.2;letI u:=t.2.2;letI v:=u.2.2.2;letI w:=v.2.2;letI x:=w.2.2;letI y:=some (q.1,q.2.1,t.1,t.2.1,u.1,u.2.1,u.2.2.1,v.1,v.2.1,w.1,w.2.1,x.1,x.2.1,x.2.2.1,x.2.2.2.1,([]:Kz),());cond (Bool.not r.1) y (cond (ak .gtr (bw p) 100) y ((N7 (p,()) (s,s,s,s,s,s,s,s,s,s,s,([]:KB),([]:Kj),([]:JI),([]:Js),([]:Kz),q.1,q.2.1,t.1,t.2.1,u.1,u.2.1,u.2.2.1,v.1,v.2.1,w.1,w.2.1,x.1,x.2.1,x.2.2.1,x.2.2.2.1,s,())).bind λz=>Sum.elim (λA=>letI B:=A.2.2.2.2.2.2.2.2.2.2.2.2.2.2.2;letI C:=B.2.2.2.2;letI D:=C.2.2.2.2;letI E:=D.2.2.2.2;some (B.2.1,B.2.2.1,B.2.2.2.1,C.1,C.2.1,C.2.2.1,C.2.2.2.1,D.1,D.2.1,D.2.2.1,D.2.2.2.1,E.1,E.2.1,E.2.2.1,E.2.2.2.1,B.1,())) (λA=>Empty.elim A) z))
def Kq(a:YaL×LN)(b:YbO):Option (YbO⊕Int×Int×Int×Int×Int×Int×Int×Int×Int×Int×Int×KB×Kj×JI×Js×YbM⊕Empty):=letI c:=b.2.2.2;letI d:=c.2.2;letI e:=d.2.2.2;letI f:=e.2.2;letI g:=f.2.2.2;letI h:=g.2.2;letI i:=h.2.2;letI j:=i.2.2;letI k:=j.2.2;letI l:=k.2.2;letI m:=l.2.2.2;letI n:=m.2.2;letI o:=n.2.2;letI p:=ae kC a.1 o.2.1;letI q:=p.2.2.2;letI r:=q.2.2.2;cond (ak .lss o.2.1 a.2.1) (cond (aZ a.1 o.2.1) ((J9 h.1 h.2.1 i.1 i.2.1 j.1 j.2.1 k.1 k.2.1 l.1 l.2.1 l.2.2.1 m.1 m.2.1 n.1 n.2.1 p.1 p.2.1 p.2.2.1 q.1 q.2.1 q.2.2.1 r.1 r.2.1 r.2.2.1 r.2.2.2.1 r.2.2.2.2.1 r.2.2.2.2.2).bind λs=>letI t:=s.2.2.2.2;letI u:=t.2.2.2.2;letI v:=u.2.2.2.2;cond (dF (List.append (α:=Int) o.1 (List.append (α:=Int) ([]:Kz) [v.2.2.2.1]))) (some (.inl (b.1,b.2.1,b.2.2.1,c.1,c.2.1,d.1,d.2.1,d.2.2.1,e.1,e.2.1,f.1,f.2.1,f.2.2.1,g.1,g.2.1,s.1,s.2.1,s.2.2.1,s.2.2.2.1,t.1,t.2.1,t.2.2.1,t.2.2.2.1,u.1,u.2.1,u.2.2.1,u.2.2.2.1,v.1,v.2.1,v.2.2.1,List.append (α:=Int) o.1 (List.append (α:=Int) ([]:Kz) [v.2.2.2.1]),aa .add .i64 o.2.1 1,()))) none) none) (some (.inr (.inl (b.1,b.2.1,b.2.2.1,c.1,c.2.1,d.1,d.2.1,d.2.2.1,e.1,e.2.1,f.1,f.2.1,f.2.2.1,g.1,g.2.1,h.1,h.2.1,i.1,i.2.1,j.1,j.2.1,k.1,k.2.1,l.1,l.2.1,l.2.2.1,m.1,m.2.1,n.1,n.2.1,o.1,()))))
def NY k x:=iter (Kq k) big x
def Lx(a b c d e f g h i j k:Int)(l:KB)(m:Kj)(n:JI)(o:Js)(p:YaL):Option YbM:=(K6 a b c d e f g h i j k l m n o).bind λq=>(Mc a b c d e f g h i j k l m n o).bind λr=>letI s:=(0:Int);letI t:=q.2.2;letI u:=t.2.2;letI v:=u.2.2.2;letI w:=v.2.2;letI x:=w.2.2;letI y:=some (q.1,q.2.1,t.1,t.2.1,u.1,u.2.1,u.2.2.1,v.1,v.2.1,w.1,w.2.1,x.1,x.2.1,x.2.2.1,x.2.2.2.1,([]:Kz),());cond (Bool.not r.1) y (cond (ak .gtr (bw p) 100) y ((NY (p,bw p,()) (s,s,s,s,s,s,s,s,s,s,s,([]:KB),([]:Kj),([]:JI),([]:Js),q.1,q.2.1,t.1,t.2.1,u.1,u.2.1,u.2.2.1,v.1,v.2.1,w.1,w.2.1,x.1,x.2.1,x.2.2.1,x.2.2.2.1,([]:Kz),s,())).bind λz=>Sum.elim (λA=>letI B:=A.2.2.2.2.2.2.2.2.2.2.2.2.2.2.2;letI C:=B.2.2.2.2;letI D:=C.2.2.2.2;letI E:=D.2.2.2.2;some (B.1,B.2.1,B.2.2.1,B.2.2.2.1,C.1,C.2.1,C.2.2.1,C.2.2.2.1,D.1,D.2.1,D.2.2.1,D.2.2.2.1,E.1,E.2.1,E.2.2.1,E.2.2.2.1,())) (λA=>Empty.elim A) z))
def TS(a b c d:Int)(e:ByteArray)(f g h i j k:Int)(l:Bool)(m n o p:Int)(q:ByteArray)(r s t u v w:Int)(x:Bool):J8:=letI y:=some (false,());cond (ak .neq a m) y (cond (ak .neq b n) y (cond (ak .neq c o) y (cond (ak .neq d p) y (cond (wW .neq e q) y ((O1 f g h i j k l r s t u v w x).bind λz=>cond (Bool.not z.1) y (some (true,())))))))
def NZ(a:YaL×YdA)(b:LN):YaN:=letI c:=ae kC a.1 b.1;letI d:=ae kC a.2.1 b.1;letI e:=c.2.2;letI f:=d.2.2;letI g:=e.2.2.2.2.2;letI h:=f.2.2.2.2.2;cond (ak .lss b.1 (bw a.1)) (cond (aZ a.1 b.1) (cond (aZ a.2.1 b.1) ((TS c.1 c.2.1 e.1 e.2.1 e.2.2.1 e.2.2.2.1 e.2.2.2.2.1 g.1 g.2.1 g.2.2.1 g.2.2.2.1 g.2.2.2.2 d.1 d.2.1 f.1 f.2.1 f.2.2.1 f.2.2.2.1 f.2.2.2.2.1 h.1 h.2.1 h.2.2.1 h.2.2.2.1 h.2.2.2.2).bind λi=>cond (Bool.not i.1) (some (.inr (.inl (false,())))) (some (.inl (aa .add .i64 b.1 1,())))) none) none) (some (.inr (.inr (.inl ()))))
def N0 k x:=iter (NZ k) big x
def NG(a b:YaL):J8:=cond (ak .neq (bw a) (bw b)) (some (false,())) ((N0 (a,b,()) (0,())).bind λc=>Sum.elim (λd=>some (d.1,())) (λd=>Sum.elim (λ_=>some (true,())) (λe=>Empty.elim e) d) c)
def V1(a:Unit)(b:Int×YbJ):YdR:=letI c:=eo .u8 (aa .add .i64 48 (aa .rem .i64 b.1 10));cond (ak .gtr b.1 0) (cond (eE 10) none (cond (lz (nT (List.append (α:=Int) ([]:Kz) [c])) b.2.1) (cond (eE 10) none (some (.inl (aa .quo .i64 b.1 10,ByteArray.append (nT (List.append (α:=Int) ([]:Kz) [c])) b.2.1,())))) none)) (some (.inr (.inl (b.2.1,()))))
def V2 k x:=iter (V1 k) big x
def QV(a:Int):YdG:=cond (ak .leq a 0) (some (ByteArray.mk #[109,48],())) ((V2 () (a,ByteArray.mk #[],())).bind λb=>Sum.elim (λc=>cond (lz (ByteArray.mk #[109]) c.1) (some (ByteArray.append (ByteArray.mk #[109]) c.1,())) none) (λc=>Empty.elim c) b)
def Rv(a:Unit)(b:YaL×Nt):Option (YaL×Nt⊕YaL×LN⊕Empty):=letI c:=b.2.2.1;letI d:=(ae kC b.1 c).2;letI e:=d.2.2;letI f:=e.2.2.2.2;cond (ak .lss c (bw b.1)) (cond (aZ b.1 c) (lets (cS b.1 c (b.2.1,d.1,d.2.1,e.1,e.2.1,e.2.2.1,e.2.2.2.1,f.1,f.2.1,f.2.2.1,f.2.2.2.1,f.2.2.2.2)) λg=>letI h:=(1:Int);letI i:=ae kC g c;letI j:=aa .add .i64 b.2.1 h;letI k:=i.2.2.2;letI l:=k.2.2.2.2;cond (aZ g c) (lets (cS g c (i.1,j,i.2.2.1,k.1,k.2.1,k.2.2.1,k.2.2.2.1,l.1,l.2.1,l.2.2.1,l.2.2.2.1,l.2.2.2.2)) λm=>letI n:=ae kC m c;letI o:=n.2.2.2;letI p:=o.2.2.2.2;letI q:=aa .add .i64 j h;cond (aZ m c) (lets (cS m c (n.1,n.2.1,q,o.1,o.2.1,o.2.2.1,o.2.2.2.1,p.1,p.2.1,p.2.2.1,p.2.2.2.1,p.2.2.2.2)) λr=>letI s:=ae kC r c;letI t:=s.2.2.2.2;letI u:=t.2.2.2.2;letI v:=aa .add .i64 q h;cond (aZ r c) (lets (cS r c (s.1,s.2.1,s.2.2.1,v,t.1,t.2.1,t.2.2.1,t.2.2.2.1,u.1,u.2.1,u.2.2.1,u.2.2.2)) λw=>letI x:=aa .add .i64 v h;(QV x).bind λy=>letI z:=ae kC w c;letI A:=z.2.2.2.2.2;letI B:=A.2.2.2;cond (aZ w c) (lets (cS w c (z.1,z.2.1,z.2.2.1,z.2.2.2.1,y.1,A.1,A.2.1,A.2.2.1,B.1,B.2.1,B.2.2.1,B.2.2.2)) λC=>letI D:=ae kC C c;letI E:=D.2.2.2;letI F:=E.2.2.2.2;letI G:=aa .add .i64 x h;cond (aZ C c) (lets (cS C c (D.1,D.2.1,D.2.2.1,E.1,E.2.1,G,E.2.2.2.1,F.1,F.2.1,F.2.2.1,F.2.2.2.1,F.2.2.2.2)) λH=>lets (aa .add .i64 G h) λI=>letI J:=ae kC H c;letI K:=J.2.2.2;letI L:=K.2.2.2.2;cond (aZ H c) (lets (cS H c (J.1,J.2.1,J.2.2.1,K.1,K.2.1,K.2.2.1,I,L.1,L.2.1,L.2.2.1,L.2.2.2.1,L.2.2.2.2)) λM=>letI N:=aa .add .i64 I h;letI O:=ae kC M c;letI P:=O.2.2.2;letI Q:=P.2.2.2.2.2;cond (aZ M c) (lets (cS M c (O.1,O.2.1,O.2.2.1,P.1,P.2.1,P.2.2.1,P.2.2.2.1,N,Q.1,Q.2.1,Q.2.2.1,Q.2.2.2)) λR=>letI S:=ae kC R c;letI T:=S.2.2.2;letI U:=aa .add .i64 N h;letI V:=T.2.2.2.2.2.2;cond (aZ R c) (lets (cS R c (S.1,S.2.1,S.2.2.1,T.1,T.2.1,T.2.2.1,T.2.2.2.1,T.2.2.2.2.1,U,V.1,V.2.1,V.2.2)) λW=>letI X:=ae kC W c;letI Y:=X.2.2.2;letI Z:=Y.2.2.2.2;letI a0:=aa .add .i64 U h;cond (aZ W c) (lets (cS W c (X.1,X.2.1,X.2.2.1,Y.1,Y.2.1,Y.2.2.1,Y.2.2.2.1,Z.1,Z.2.1,a0,Z.2.2.2.1,Z.2.2.2.2)) λa1=>letI a2:=ae kC a1 c;letI a3:=a2.2.2.2;letI a4:=a3.2.2.2.2;letI a5:=aa .add .i64 a0 h;cond (aZ a1 c) (lets (cS a1 c (a2.1,a2.2.1,a2.2.2.1,a3.1,a3.2.1,a3.2.2.1,a3.2.2.2.1,a4.1,a4.2.1,a4.2.2.1,a5,a4.2.2.2.2)) λa6=>letI a7:=aa .add .i64 a5 h;cond (eE 3) none (lets (aa .rem .i64 a7 3) λa8=>letI a9:=ae kC a6 c;letI b0:=a9.2.2.2;letI b1:=b0.2.2.2.2;cond (aZ a6 c) (lets (cS a6 c (a9.1,a9.2.1,a9.2.2.1,b0.1,b0.2.1,b0.2.2.1,b0.2.2.2.1,b1.1,b1.2.1,b1.2.2.1,b1.2.2.2.1,ak .eql a8 0)) λb2=>lets (aa .add .i64 a7 h) λb3=>some (.inl (b2,b3,aa .add .i64 c h,()))) none)) none) none) none) none) none) none) none) none) none) none) none) (some (.inr (.inl (b.1,b.2.1,()))))
def Rw k x:=iter (Rv k) big x
def LW(a:YaL)(b:Int):Option (Int×YdA):=(Rw () (a,b,0,())).bind λc=>Sum.elim (λd=>some (d.2.1,d.1,())) (λd=>Empty.elim d) c
def Ln(a b c d e f g h i j k:Int)(l:KB)(m:Kj)(n:JI)(o:Js)(p:YaL):J8:=(La a b c d e f g h i j k l m n o 1048576).bind λq=>letI r:=some (true,());cond (ak .lss q.1 0) r ((NJ p q.1).bind λs=>letI t:=Ps a b c d e f g h i j k l m n o;cond (ak .lss s.1 0) r (t.bind λu=>letI v:=NL p;v.bind λw=>letI x:=u.2.2.2.2;letI y:=x.2.2.2;letI z:=y.2.2.2.2;(NS u.1 u.2.1 u.2.2.1 u.2.2.2.1 x.1 x.2.1 x.2.2.1 y.1 y.2.1 y.2.2.1 y.2.2.2.1 z.1 z.2.1 z.2.2.1 z.2.2.2.1 w.1).bind λA=>t.bind λB=>v.bind λC=>letI D:=B.2.2;letI E:=D.2.2;letI F:=E.2.2.2;letI G:=F.2.2;letI H:=G.2.2;letI I:=H.2.2;(Lx B.1 B.2.1 D.1 D.2.1 E.1 E.2.1 E.2.2.1 F.1 F.2.1 G.1 G.2.1 H.1 H.2.1 I.1 I.2.1 C.1).bind λJ=>letI K:=J.2.2;letI L:=A.2.2;letI M:=K.2.2;letI N:=L.2.2;letI O:=N.2.2;letI P:=M.2.2.2;letI Q:=O.2.2;letI R:=P.2.2;letI S:=Q.2.2;letI T:=R.2.2.2;letI U:=S.2.2;letI V:=K7 J.1 J.2.1 K.1 K.2.1 M.1 M.2.1 M.2.2.1 P.1 P.2.1 R.1 R.2.1 R.2.2.1 T.1 T.2.1 T.2.2.1 A.1 A.2.1 L.1 L.2.1 N.1 N.2.1 O.1 O.2.1 Q.1 Q.2.1 S.1 S.2.1 U.1 U.2.1 U.2.2.1;V.bind λW=>letI X:=some (false,());letI Y:=Oi T.2.2.2.1 U.2.2.2.1;cond (Bool.not W.1) X (Y.bind λZ=>cond (Bool.not Z.1) X (t.bind λa0=>letI a1:=a0.2.2.2.2;letI a2:=a1.2.2.2;letI a3:=a2.2.2.2.2;(K7 B.1 B.2.1 D.1 D.2.1 E.1 E.2.1 E.2.2.1 F.1 F.2.1 G.1 G.2.1 H.1 H.2.1 I.1 I.2.1 a0.1 a0.2.1 a0.2.2.1 a0.2.2.2.1 a1.1 a1.2.1 a1.2.2.1 a2.1 a2.2.1 a2.2.2.1 a2.2.2.2.1 a3.1 a3.2.1 a3.2.2.1 a3.2.2.2.1).bind λa4=>cond (Bool.not a4.1) X (v.bind λa5=>(NG C.1 a5.1).bind λa6=>cond (Bool.not a6.1) X ((K8 B.1 B.2.1 D.1 D.2.1 E.1 E.2.1 E.2.2.1 F.1 F.2.1 G.1 G.2.1 H.1 H.2.1 I.1 I.2.1 1).bind λa7=>(LW C.1 a7.1).bind λa8=>cond (ak .lss a8.1 0) X (V.bind λa9=>cond (Bool.not a9.1) X (Y.bind λb0=>cond (Bool.not b0.1) X ((K8 J.1 J.2.1 K.1 K.2.1 M.1 M.2.1 M.2.2.1 P.1 P.2.1 R.1 R.2.1 R.2.2.1 T.1 T.2.1 T.2.2.1 1).bind λb1=>(Ny T.2.2.2.1 b1.1).bind λb2=>letI b3:=MD J.1 J.2.1 K.1 K.2.1 M.1 M.2.1 M.2.2.1 P.1 P.2.1 R.1 R.2.1 b1.2.1 b1.2.2.1 b1.2.2.2.1 b1.2.2.2.2.1 1;b3.bind λb4=>cond (ak .lss b4.1 0) X ((LL b2.2.1 b4.1).bind λb5=>cond (ak .lss b5.1 0) X (cond (ak .neq b5.1 b2.1) X (t.bind λb6=>v.bind λb7=>letI b8:=b6.2.2.2.2;letI b9:=b8.2.2.2;letI c0:=b9.2.2.2.2;(Lx b6.1 b6.2.1 b6.2.2.1 b6.2.2.2.1 b8.1 b8.2.1 b8.2.2.1 b9.1 b9.2.1 b9.2.2.1 b9.2.2.2.1 c0.1 c0.2.1 c0.2.2.1 c0.2.2.2.1 b7.1).bind λc1=>letI c2:=c1.2.2.2.2;letI c3:=c2.2.2.2.2;letI c4:=c3.2.2.2.2;(K7 c1.1 c1.2.1 c1.2.2.1 c1.2.2.2.1 c2.1 c2.2.1 c2.2.2.1 c2.2.2.2.1 c3.1 c3.2.1 c3.2.2.1 c3.2.2.2.1 c4.1 c4.2.1 c4.2.2.1 A.1 A.2.1 L.1 L.2.1 N.1 N.2.1 O.1 O.2.1 Q.1 Q.2.1 S.1 S.2.1 U.1 U.2.1 U.2.2.1).bind λc5=>cond (Bool.not c5.1) X ((Oi c4.2.2.2.1 U.2.2.2.1).bind λc6=>cond (Bool.not c6.1) X (b3.bind λc7=>cond (ak .lss c7.1 0) X ((LL b2.2.1 c7.1).bind λc8=>cond (ak .lss c8.1 0) X (cond (ak .neq c8.1 b2.1) X r))))))))))))))))
def Ro(k t:Int)(a b c:Bool):Bool:=match E2 k t a b c with|some r=>r.1|none=>false
def Z6(k t:Int)(a b c:Bool):Jm k t a b c=some (Ro k t a b c,())/\E2 k t a b c=some (Ro k t a b c,())/\(Ro k t a b c=true->Jc k 0 2=true/\Jc t 0 6=true):=by
 obtain⟨r,g,d,i⟩:=af0 k t a b c;have e:Ro k t a b c=r.1:=by unfold Ro;rw[d]
 obtain⟨v,u⟩:=r;refine⟨g.trans (by rw[e]),d.trans (by rw[e]),λh=>?_⟩;have f:Jc k 0 2=true:=kx.2 (i (e.symm.trans h));refine⟨f,?_⟩;cases j:Jc t 0 6 with
 |true=>rfl
 |false=>
  have:E2 k t a b c=some (false,()):=by unfold E2;rw[bu,f,bu,j];rfl
  rw[d]at this;injection this with this
  injection this with this
  rw[e,this]at h;cases h
def abu(k t:Int)(a b c:Bool):Jm k t a b c=some (Ro k t a b c,()):=(Z6 k t a b c).1
def abt(k t:Int)(a b c:Bool):E2 k t a b c=some (Ro k t a b c,()):=(Z6 k t a b c).2.1
def aeb{Q:Int->Int->Bool->Bool->Bool->Prop}(h:∀(k:Fin 3) (t:Fin 7) (a b c:Bool),Q ((k.val:Nat):Int) ((t.val:Nat):Int) a b c){k t:Int}{a b c:Bool}(hd:Ro k t a b c=true):Q k t a b c:=by obtain⟨d,e⟩:=(Z6 k t a b c).2.2 hd;have d:=kx.1 d;have e:=kx.1 e;have:=h ⟨k.toNat,by omega⟩ ⟨t.toNat,by omega⟩ a b c;simp only[ac7 d.1,ac7 e.1]at this;exact this
def agree{α:Type}[DecidableEq α](f:α->Bool)(x y:Option α):Bool:=decide (x=y)&&match y with|some r=>f r|none=>false
def ahx{α:Type}[DecidableEq α]{f:α->Bool}{P:α->Prop}(a:∀r,f r=true->P r){x y:Option α}(h:agree f x y=true):Sm P x y:=by
 unfold agree at h;rw[aQ]at h;have e:=bR h.1;subst e;cases x with
 |none=>exact absurd h.2 (by simp)
 |some r=>exact .ret (a r h.2)
def aa8 {α:Type} [DecidableEq α] {f:Int->α->Bool} {P:Int->α->Prop} (e:∀k r,f k r=true->P k r) {F G:Int->Int->Bool->Bool->Bool->Option α}
  (h:∀(k:Fin 3) (t:Fin 7) (a b c:Bool),agree (f ((k.val:Nat):Int)) (F ((k.val:Nat):Int) ((t.val:Nat):Int) a b c) (G ((k.val:Nat):Int) ((t.val:Nat):Int) a b c)=true)
  {k t:Int} {a b c:Bool} (d:Ro k t a b c=false->Sm (P k) (F k t a b c) (G k t a b c)):Sm (P k) (F k t a b c) (G k t a b c):=by
 cases hd:Ro k t a b c with
 |false=>exact d hd
 |true=>exact aeb (Q:=λk t a b c=>Sm (P k) (F k t a b c) (G k t a b c)) (λk t a b c=>ahx (e _) (h k t a b c)) hd
def orB{a b:Bool}(h:(Bool.not a||b)=true):a=true->b=true:=λe=>by subst e;exact h
def neB{k:Int}(h:Bool.not (decide (k=0))=true):k≠0:=by intro e;rw[xD e]at h;cases h
instance dB3:DecidableEq (Bool×Bool×Bool×Unit):=inferInstance
instance dBI:DecidableEq (Bool×Int×Bool×Unit):=inferInstance
variable (k t:Int)(a b c:Bool)
def ae4:Sm (λr=>r.2.2.2.2.2.1=true->k≠0) (SM k t a b c) (Sr k t a b c):=aa8 (f:=λk (r:Int×Int×Bool×Bool×Bool×Bool×Unit)=>Bool.not r.2.2.2.2.2.1||Bool.not (decide (k=0))) (P:=λk r=>r.2.2.2.2.2.1=true->k≠0) (λk r h e=>neB (orB h e)) (by decide +kernel) λhd=>by unfold SM Sr;rw[abu,abt,hd];exact .ret λh=>by cases h
def V9:Sm Any (SX k t a b c) (SA k t a b c):=aa8 (f:=λ_ _=>true) (P:=λ_=>Any) (λ_ _ _=>trivial) (by decide +kernel) λhd=>by unfold SX SA;rw[abu,abt,hd];cases ak .eql k 0 <;> exact .ret trivial
def agV:Sm (λr=>r.2.2.2.2.2.1=true->k≠0/\r.1=k) (Vv k t a b c) (U5 k t a b c):=
 aa8 (f:=λk (r:Int×Int×Bool×Bool×Bool×Bool×Unit)=>Bool.not r.2.2.2.2.2.1||(Bool.not (decide (k=0))&&decide (r.1=k))) (P:=λk r=>r.2.2.2.2.2.1=true->k≠0/\r.1=k) (λk r h e=>by
  have:=orB h e;rw[aQ]at this;exact⟨neB this.1,bR this.2⟩) (by decide +kernel) λhd=>by
  unfold Vv U5;rw[abu,abt,hd];exact .ret λh=>by cases h
def akw:Sm (λr=>r.1=k) (Q2 k t a b c) (QF k t a b c):=by unfold Q2 QF;rw[abu,abt];cases Ro k t a b c <;> exact .ret rfl
def agD(h:Ro k t a b c=true)(d:t≠0):k≠0:=by have:=aeb (Q:=λk t a b c=>(Bool.not (Ro k t a b c)||(decide (t=0)||Bool.not (decide (k=0))))=true) (by decide +kernel) h;rw[h,zb d]at this;exact neB this
def aea(k t:Int)(a b c:Bool):Bool:=Ro k t a b c&&(Bool.not (decide (k=0))&&decide (t=0))
def eqD(k:Int):ak .eql k 0=decide (k=0):=rfl
def neD(k:Int):ak .neq k 0=Bool.not (decide (k=0)):=rfl
def X0:MZ k t a b c=some (aea k t a b c,())/\Qf k t a b c=some (aea k t a b c,()):=by unfold MZ Qf aea;rw[abu,abt,eqD,neD];cases Ro k t a b c <;> cases decide (k=0) <;> exact⟨rfl,rfl⟩
def afZ(h:aea k t a b c=true):k≠0:=by unfold aea at h;rw[aQ,aQ]at h;exact neB h.2.1
def ajh(n:Int):Sm (λr=>r.2.2.2.2.2.1=true->k≠0/\r.1=k) (X9 k t a b c n) (X2 k t a b c n):=by
 unfold X9 X2;rw[(X0 k t a b c).1,(X0 k t a b c).2];cases h:aea k t a b c with
 |false=>exact .ret λh=>by cases h
 |true=>
  have d:=afZ k t a b c h;have no:((k,t,a,b,c,false,()):Int×Int×Bool×Bool×Bool×Bool×Unit).2.2.2.2.2.1=true->k≠0/\k=k:=λh=>by cases h
  cases ak .eql n 1 <;> cases ak .eql n 2 <;> cases ak .eql n 3 <;> cases a <;> cases b <;> first|exact .ret no|exact .ret λ_=>⟨d,rfl⟩
def agG(p q r s:Int):Sm Any (Q3 p q r s) (QG p q r s):=by unfold Q3 QG;simp only[qB,bu,vP];cases Jc p 0 2 <;> cases Jc q 0 2 <;> cases Jc r 0 2 <;> exact .ret trivial
def abd(x:Bool)(n:Int):Sm Any (Lw x n) (Kr n x):=by
 unfold Lw Kr;by_cases a:n=0
 .subst a;cases x <;> exact .ret trivial
 .have e:ak .eql n 0=false:=zb a;rw[e];cases ak .eql n 2 <;> exact .ret trivial
def aix(p q r s:Int):Sm Any (SU k t a b c p q r s) (Sy k t a b c p q r s):=by
 unfold SU Sy;rw[abu,abt];cases Ro k t a b c with
 |false=>exact .ret trivial
 |true=>refine Sm.bind (.ret (P:=Any) trivial) λ_ _=>?_;refine .cond (λ_=>.ret trivial) λ_=>(agG p q r s).bind λ_ _=>.cond (λ_=>.ret trivial) λ_=>(abd _ p).bind λ_ _=>(abd _ q).bind λ_ _=>(abd _ r).bind λ_ _=>(abd _ s).bind λ_ _=>.ret trivial
def ahO(p q r s:Int):Sm Any (MU p q r s) (Ms p q r s):=by
 unfold MU Ms Nc Oq;have step:∀(L:List Int) (n:Nat) (m:Int),n<L.length->L.length<=100->Kc (bw L,()) (m,L,(n:Int),())=some (.inl ((bif ak .neq (L.getD n zI) 0 then aa .add .i64 m 1 else m),L,((n+1:Nat):Int),())):=λL n m f g=>by unfold Kc;simp only[bP,dX,cw,f,xC,aJ,eW (n:=n) (by omega)];cases ak .neq (L.getD n zI) 0 <;> rfl
 have fin:∀(L:List Int) (m:Int),Kc (bw L,()) (m,L,(L.length:Int),())=some (.inr (.inl (m,()))):=λL m=>by unfold Kc;simp only[bP,iO,sC,cz]
 have b:=step [p,q,r,s] 0 0 (by show 0<4;omega) (by show 4<=100;omega);have c:=λm=>step [p,q,r,s] 1 m (by show 1<4;omega) (by show 4<=100;omega);have d:=λm=>step [p,q,r,s] 2 m (by show 2<4;omega) (by show 4<=100;omega);have e:=λm=>step [p,q,r,s] 3 m (by show 3<4;omega) (by show 4<=100;omega);have a:=gP ((fz b).trans ((fz (c _)).trans ((fz (d _)).trans ((fz (e _)).trans (cJ (n:=0) (fin [p,q,r,s] _)))))) (show 0+1+1+1+1+1<=big from by have:=i7 (n:=5) (by omega);omega);refine⟨_,?_,(fK (λz=>Option.bind z _) a).trans rfl,trivial⟩;simp only[List.getD_cons_zero,List.getD_cons_succ];cases ak .neq p 0 <;> cases ak .neq q 0 <;> cases ak .neq r 0 <;> cases ak .neq s 0 <;> rfl
def afC(p q r s:Int):Sm (λy=>y.2.2.2.2.2.2.1=true->k≠0) (SS k t a b c p q r s) (KL k t a b c p q r s):=by
 unfold SS KL;have no:(false:Bool)=true->k≠0:=λh=>by cases h
 refine(aix k t a b c p q r s).bind λy _=>.cond (λ_=>.ret no) λ_=>?_;rw[(X0 k t a b c).1,(X0 k t a b c).2];refine Sm.bind (P:=λz=>z.1=aea k t a b c) (.ret rfl) λz e=>.cond (λ_=>.ret no) λhd=>?_;have d:k≠0:=afZ k t a b c (by rw[<-e];cases h:z.1 with|true=>rfl|false=>rw[h]at hd;cases hd);refine(ahO p q r s).bind λ_ _=>.cond (λ_=>.ret no) λ_=>?_;refine Sm.bind (P:=Any) (by show Sm Any (SY k y.1 y.2.1 y.2.2.1 y.2.2.2.1) (SC k y.1 y.2.1 y.2.2.1 y.2.2.2.1);unfold SY SC;generalize y.1=y1;generalize y.2.1=y2;generalize y.2.2.1=y3;generalize y.2.2.2.1=y4;cases ak .neq k 1 <;> cases ak .neq k 2 <;> cases y1 <;> cases y2 <;> cases y3 <;> cases y4 <;> cases ak .eql k 1 <;> exact .ret trivial) λ_ _=>.cond (λ_=>.ret λ_=>d) λ_=>.cond (λ_=>.ret λ_=>d) λ_=>.ret λ_=>d
def afq:Sm (λy=>y.2.2.2.2.2.2.1=true->k≠0/\y.1=0) (SQ k t a b c) (Sv k t a b c):=
 aa8 (f:=λk (r:Int×Int×Bool×Bool×Bool×Int×Bool×Unit)=>Bool.not r.2.2.2.2.2.2.1||(Bool.not (decide (k=0))&&decide (r.1=0))) (P:=λk r=>r.2.2.2.2.2.2.1=true->k≠0/\r.1=0) (λk r h e=>by
  have:=orB h e;rw[aQ]at this;exact⟨neB this.1,bR this.2⟩) (by decide +kernel) λhd=>by
  unfold SQ Sv;rw[(X0 k t a b c).1,(X0 k t a b c).2];unfold aea;rw[hd];exact .ret λh=>by cases h
def abm(n:Int):Sm Any (Pz k t a b c n) (Mb k t a b c n):=by unfold Pz Mb;rw[abu,abt];refine Sm.bind (P:=Any) (.ret trivial) λ_ _=>.cond (λ_=>.ret trivial) λ_=>.cond (λ_=>.ret trivial) λ_=>?_;have d:ak .neq n 1=Bool.not (ak .eql n 1):=rfl;have e:ak .neq n 2=Bool.not (ak .eql n 2):=rfl;rw[d,e];cases f:ak .eql n 1 <;> cases g:ak .eql n 2 <;> cases c <;> first|exact .ret trivial|(have:=LO.1 f;have:=LO.1 g;omega)
end Go.Fn

