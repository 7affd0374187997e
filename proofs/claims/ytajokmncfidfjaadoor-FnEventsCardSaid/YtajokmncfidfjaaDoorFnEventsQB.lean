import Derived.Test.YtajokmncfidfjaaDoorFnEventsQA
/- Plain functions that stand for Go functions, and what they answer. Conditions: none. -/
set_option autoImplicit false
set_option linter.unusedVariables false
set_option linter.unusedSimpArgs false
namespace Go.R
open Go.Shelf Go.Proofs Go.RowKit Go.Lib
section
variable {P:Program} {ρ:Ren}
noncomputable def P4(ρ:Ren)(nm:String):Func:={ Body2.n22 ρ with name:=nm }
theorem Ls(ρ:Ren)(nm:String):(P4 ρ nm).ntmps=95:=rfl
structure NZ (P:Program) (ρ:Ren) (z:Value) (bytes:Nat):Prop where
 mixed:P.follows .mixedOrders=true
 f22:∃nm, (nm == "runtime.NumGoroutine") = false /\ P.funcs[ρ.f 22]? = some (P4 ρ nm)
 f29:∃fn, P.funcs[ρ.f 29]? = some fn /\ (fn.name == "runtime.NumGoroutine") = false /\ fn.body.isNone = true /\ Extern.findNext fn = none /\ Extern.find fn = some (Extern.SlicesOverlaps.overlaps #[(ρ.t 24), (ρ.t 24)] #[(ρ.t 4)])
 t3:P.underlying (ρ.t 3)=some (TypeDesc.int IntKind.i64)
 a3:∀w,(isAgg (ρ.t 3)).run P w=.ok false w
 z3:∀w,(Go.sizeOf (ρ.t 3)).run P w=.ok 1 w
 v3:∀w,(zeroValue (ρ.t 3)).run P w=.ok (Value.int IntKind.i64 0) w
 t4:P.underlying (ρ.t 4)=some (TypeDesc.bool)
 a4:∀w,(isAgg (ρ.t 4)).run P w=.ok false w
 z4:∀w,(Go.sizeOf (ρ.t 4)).run P w=.ok 1 w
 v4:∀w,(zeroValue (ρ.t 4)).run P w=.ok (Value.bool false) w
 z9:∀w,(Go.sizeOf (ρ.t 9)).run P w=.ok 7 w
 t24:P.underlying (ρ.t 24)=some (TypeDesc.slice (ρ.t 9))
 a24:∀w,(isAgg (ρ.t 24)).run P w=.ok false w
 z24:∀w,(Go.sizeOf (ρ.t 24)).run P w=.ok 1 w
 v24:∀w,(zeroValue (ρ.t 24)).run P w=.ok (Value.slice none 0 0) w
 i9:(P.info? (ρ.t 9)).map (fun i=>(i.zero,i.size,i.bytes))=some (some z,7,bytes)
theorem LG (w:World) (dT sT ty elem:TypeId) (b o dLen dCap:Nat) (a:Addr) (sLen sCap m:Nat) (cs:List Value)
    (hu:P.underlying dT = some (.slice elem)) (hs:(P.info? elem).map (·.size) = some 7) (hm:m = Nat.min sLen dLen) (hn:cs.length = m * 7)
    (hsrc:∀j v, cs[j]? = some v -> w.cell? (a.add j) = some v) (hc:∀j, j<cs.length -> (w.cell? ⟨b, o + j, none⟩).isSome = true) (hf:∀j, j<cs.length -> w.frozen? ⟨b, o + j, none⟩ = false) (h1:∀v ∈ cs, v.oneCell' = true):
    (Builtin.copy_ #[dT, sT] ty #[.slice (some ⟨b, o, none⟩) dLen dCap, .slice (some a) sLen sCap]).run P w = .ok (goInt m) (w.setCells b o cs):=by
  have hl:=run_loadCells_list (P:=P) w a cs hsrc;have hst:=run_storeCells_cells (P:=P) b o cs 0 w (by simpa using hc) (by simpa using hf) h1;cases hq:P.info? elem with
  |none=>simp[hq]at hs
  |some i=>
    have hi:i.size = 7:=by simpa[hq] using hs
    simp[Builtin.copy_, run_underlying hu, Builtin.lenOf, Builtin.firstCells, sizeOf, typeInfo, hq, hi, <- hm, <- hn, hl, hst]
set_option maxHeartbeats 4000000 in
set_option maxRecDepth 100000 in
theorem Oc {z:Value} {bytes:Nat} (L:NZ P ρ z bytes) (b n c i vb m vc:Nat) (cs vs:List Value) (w:World) (hi:i<n) (hm:0<m) (hroom:n + m <= c) (hc63:n + m <= 9223372036854775807) (hvb:vb ≠ b)
    (jH:cs.length = n * 7) (hvl:vs.length = m * 7)
    (hcs:∀j v, cs[j]? = some v -> w.cell? ⟨b, j, none⟩ = some v) (hsp:∀j, j<(n + m) * 7 -> (w.cell? ⟨b, j, none⟩).isSome = true) (hfz:∀j, w.frozen? ⟨b, j, none⟩ = false)
    (hvs:∀j v, vs[j]? = some v -> w.cell? ⟨vb, j, none⟩ = some v) (h1c:∀v ∈ cs, v.oneCell' = true) (h1v:∀v ∈ vs, v.oneCell' = true)
    (tA tB:TypeId) (kA kB:Nat) (hsa:w.shape? vb = some (tA, kA)) (hsb:w.shape? b = some (tB, kB)) (hkB:kB ≠ 0) (hfa:w.frozen? ⟨vb, 0, none⟩ = false) (FQ:w.frozen? ⟨vb, kA, none⟩ = false):
    Calls P (ρ.f 22) #[.slice (some ⟨b, 0, none⟩) n c, .int .i64 i, .slice (some ⟨vb, 0, none⟩) m vc] w fun e w'=>e = .returned (.slice (some ⟨b, 0, none⟩) (n + m) c) /\ w' = (w.drew.setCells b ((i + m) * 7) (cs.drop (i * 7))).setCells b (i * 7) vs:=by
  have t3:=L.t3; have a3:=L.a3; have z3:=L.z3; have v3:=L.v3; have t4:=L.t4; have a4:=L.a4; have z4:=L.z4; have v4:=L.v4; have z9:=L.z9; have t24:=L.t24; have a24:=L.a24; have z24:=L.z24; have v24:=L.v24;have u3:=run_underlying L.t3; have u4:=run_underlying L.t4; have Tw:=run_underlying L.t24;obtain⟨fo, q1, q2, q3, q4, q5⟩:=L.f29;have hz1:¬((m:Int) = 0):=by omega
  have Cb:¬((i:Int) = (n:Int)):=by omega
  have hsz:(P.info? (ρ.t 9)).map (·.size) = some 7:=by obtain⟨i0, hi0, h0, h1, h2⟩:=info_parts L.i9;rw[hi0]; simp[h1]
  have GX:∀lb cb, (callFunc (ρ.f 29) #[.slice (some ⟨vb, 0, none⟩) m vc, .slice (some ⟨b, (i + m) * 7, none⟩) lb cb]).run P w = .ok (.value (.bool false)) w:=fun lb cb=>by
    rw[run_callFunc_extern q1 q2 q3 q4 q5,
      Lib.run_overlaps_apart w (ρ.t 24) (ρ.t 4) (ρ.t 9) L.t24 7 L.z9 ⟨vb, 0, none⟩ ⟨b, (i + m) * 7, none⟩ m vc lb cb hvb tA tB kA kB hsa hsb hkB hfa FQ]
    rfl
  have El:(cs.drop (i * 7)).length = (n-i) * 7:=by rw[List.length_drop, jH]; omega
  have mixed:=L.mixed;have rA:IntKind.i64.wrap ((i:Int) + (m:Int)) = (i:Int) + (m:Int):=by rw[IntKind.wrap_i64]; omega
  have Aj:(0:Int) <= (i:Int) + (m:Int):=by omega
  have hin:i <= n:=by omega
  have htn:((i:Int) + (m:Int)).toNat = i + m:=by omega
  have zq:¬(c = i + m):=by omega
  have FJ:(i:Int) <= (n:Int) + (m:Int):=by omega
  have GI:¬(c = i):=by omega
  have Rf:∀ty dc sc, (Builtin.copy_ #[(ρ.t 24), (ρ.t 24)] ty #[.slice (some ⟨b, (i + m) * 7, none⟩) (n + m-(i + m)) dc, .slice (some ⟨b, i * 7, none⟩) (n + m-i) sc]).run P w.drew = .ok (goInt ((n-i:Nat):Int)) (w.drew.setCells b ((i + m) * 7) (cs.drop (i * 7))):=fun ty dc sc=>
    LG w.drew _ _ ty (ρ.t 9) b ((i + m) * 7) (n + m-(i + m)) dc ⟨b, i * 7, none⟩ (n + m-i) sc (n-i) (cs.drop (i * 7)) L.t24 hsz (by simp only[Nat.min_def]; split <;> omega) El
      (fun j v hj=>by rw[Addr.add_lit]; exact hcs (i * 7 + j) v (by rwa[List.getElem?_drop]at hj))
      (fun j hj=>hsp _ (by omega)) (fun j hj=>hfz _) (fun v hv=>h1c v (List.mem_of_mem_drop hv))
  obtain⟨W1, Nl⟩:∃W1, W1 = w.drew.setCells b ((i + m) * 7) (cs.drop (i * 7)):=⟨_, rfl⟩
  have Sc:∀k, k<(n + m) * 7 -> (W1.cell? ⟨b, k, none⟩).isSome = true:=fun k hk=>by rw[Nl];exact isSome_setCells b (cs.drop (i * 7)) ((i + m) * 7) w.drew (fun j hj=>hsp _ (by omega)) _ (hsp k hk)
  have R8:∀(W:World), (∀x, W.cell? x = W1.cell? x) -> (∀x, W.frozen? x = W1.frozen? x) -> ∀ty dc, (Builtin.copy_ #[(ρ.t 24), (ρ.t 24)] ty #[.slice (some ⟨b, i * 7, none⟩) (n + m-i) dc, .slice (some ⟨vb, 0, none⟩) m vc]).run P W = .ok (goInt (m:Int)) (W.setCells b (i * 7) vs):=fun W P0 Rd ty dc=>
    LG W _ _ ty (ρ.t 9) b (i * 7) (n + m-i) dc ⟨vb, 0, none⟩ m vc m vs L.t24 hsz (by simp only[Nat.min_def]; split <;> omega) hvl
      (fun j v hj=>by rw[Addr.add_lit, P0, Nl, World.cell?_setCells_out b _ _ _ _ (fun h _=>absurd h hvb), Nat.zero_add];exact hvs j v hj)
      (fun j hj=>by rw[P0]; exact Sc _ (by omega)) (fun j hj=>by rw[Rd, Nl, World.frozen?_setCells]; exact hfz _) h1v
  rw[<- Nl]at Rf;obtain⟨nm, _, Mo⟩:=L.f22
  go_enter Mo, Ls ρ nm
  go_wp2_with (simp only[GX])
  go_region_law_o (refine step_copy_runI rfl _ _ (ρ.t 24) (ρ.t 24) rfl _ _ (by simp[Act.eval, Act.put]) (by simp[Act.eval, Act.put]) (Rf _ _ _) ?_)
  go_wp2_with (at_builtin; refine wpList_copy_runI _ rfl _ _ (ρ.t 24) (ρ.t 24) rfl _ _ rfl rfl (R8 _ (fun _=>rfl) (fun _=>rfl) _ _) ?_)
  go_ret
  first|exact⟨rfl, rfl⟩|exact⟨rfl, by rw[Nl]⟩
set_option maxHeartbeats 4000000 in
set_option maxRecDepth 100000 in
theorem PF {z:Value} {bytes:Nat} (L:NZ P ρ z bytes) (base:Option Addr) (n c vb m vc:Nat) (w:World) (hm:0<m) (hnc:n<=c) (wm:base=none->n=0) (v0:Value) (w0:World)
  (hrun:∀ty,(Builtin.append_ #[(ρ.t 24),(ρ.t 24)] ty #[.slice base n c,.slice (some ⟨vb,0,none⟩) m vc]).run P w=.ok v0 w0):
  Calls P (ρ.f 22) #[.slice base n c,.int .i64 n,.slice (some ⟨vb,0,none⟩) m vc] w fun e w'=>e=.returned v0/\w'=w0:=by
 have t3:=L.t3;have a3:=L.a3;have z3:=L.z3;have v3:=L.v3;have t4:=L.t4;have a4:=L.a4;have z4:=L.z4;have v4:=L.v4;have z9:=L.z9;have t24:=L.t24;have a24:=L.a24;have z24:=L.z24;have v24:=L.v24;have u3:=run_underlying L.t3;have u4:=run_underlying L.t4;have Tw:=run_underlying L.t24;have mixed:=L.mixed;have hz1:¬((m:Int)=0):=by omega
 obtain⟨nm,_,Mo⟩:=L.f22
 go_enter Mo,Ls ρ nm
 cases base with
 |none=>
  have h0:=wm rfl;subst h0
  go_wp2_with (at_builtin;refine Lib.wpList_append_run _ rfl _ _ _ _ rfl _ _ rfl rfl _ _ (hrun _) ?_)
  go_ret
  exact⟨rfl,rfl⟩
 |some a=>
  obtain⟨ab,ao,Fz⟩:=a
  go_wp2_with (at_builtin;refine Lib.wpList_append_run _ rfl _ _ _ _ rfl _ _ rfl rfl _ _ (hrun _) ?_)
  all_goals (go_ret;exact⟨rfl,rfl⟩)
set_option maxHeartbeats 4000000 in
set_option maxRecDepth 100000 in
theorem OY {z:Value} {bytes:Nat} (L:NZ P ρ z bytes) (QL:z.cells.size = 7) (hby:bytes <= 65536) (b n c i vb m vc:Nat) (cs vs:List Value) (w:World) (hi:i<n) (hm:0<m) (hnc:n <= c) (hroom:c<n + m) (hbig:n + m <= 1073741824)
    (jH:cs.length = n * 7) (hvl:vs.length = m * 7)
    (hcs:∀j v, cs[j]? = some v -> w.cell? ⟨b, j, none⟩ = some v)
    (hvs:∀j v, vs[j]? = some v -> w.cell? ⟨vb, j, none⟩ = some v) (h1c:∀v ∈ cs, v.oneCell' = true) (h1v:∀v ∈ vs, v.oneCell' = true):
    Calls P (ρ.f 22) #[.slice (some ⟨b, 0, none⟩) n c, .int .i64 i, .slice (some ⟨vb, 0, none⟩) m vc] w fun e w'=>
      ∃G:Nat, n + m <= G /\ ∃LY:Array Value, LY.size = G * 7 /\ (∀j, j<i * 7 -> LY[j]? = cs[j]?) /\ e = .returned (.slice (some ⟨w.heap.size, 0, none⟩) (n + m) G) /\
      w' = (((w.alloc (.cells LY (ρ.t 9))).drew.setCells w.heap.size (i * 7) vs).drew).setCells w.heap.size ((i + m) * 7) (cs.drop (i * 7)):=by
  have t3:=L.t3; have a3:=L.a3; have z3:=L.z3; have v3:=L.v3; have t4:=L.t4; have a4:=L.a4; have z4:=L.z4; have v4:=L.v4; have z9:=L.z9; have t24:=L.t24; have a24:=L.a24; have z24:=L.z24; have v24:=L.v24;have u3:=run_underlying L.t3; have u4:=run_underlying L.t4; have Tw:=run_underlying L.t24;have mixed:=L.mixed;obtain⟨i0, hi0, Sj, hzs, RJ⟩:=info_parts L.i9;have hz1:¬((m:Int) = 0):=by omega
  have Cb:¬((i:Int) = (n:Int)):=by omega
  have UO:(c:Int)<(n:Int) + (m:Int):=by omega
  have hsz:(P.info? (ρ.t 9)).map (·.size) = some 7:=by rw[hi0]; simp[hzs]
  have Uk:b<w.heap.size:=block_lt_of_cell (hcs 0 _ (List.getElem?_eq_getElem (by omega)));have Uu:vb<w.heap.size:=block_lt_of_cell (hvs 0 _ (List.getElem?_eq_getElem (by omega)));have hkk:(n:Int) + (m:Int)-(i:Int) = ((n + m-i:Nat):Int):=by omega
  have Rh:i + (n + m-i) = n + m:=by omega
  have hold:(Builtin.firstCells i0.size i (.slice (some ⟨b, 0, none⟩) i c)).run P w.drew = .ok (cs.take (i * 7)).toArray w.drew:=by
    rw[hzs];exact run_firstCells_some w.drew 7 i ⟨b, 0, none⟩ i c (cs.take (i * 7)) (by rw[List.length_take]; omega) (fun j v hj=>by
      rw[Addr.add_lit, Nat.zero_add];rw[List.getElem?_take]at hj;split at hj
      · exact hcs j v hj
      · cases hj)
  have hfit:Builtin.nextslicecap (n + m) c * i0.bytes <= 281474976710656:=by rw[RJ];refine growslice_fits hroom ?_;have h1:(n + m) * bytes <= (n + m) * 65536:=Nat.mul_le_mul_left _ hby;omega
  have BY:(n + m-i) * i0.bytes <= 281474976710656:=by rw[RJ];have h1:(n + m-i) * bytes <= (n + m-i) * 65536:=Nat.mul_le_mul_left _ hby;omega
  have RH:∀ty, (Builtin.append_ #[(ρ.t 24), (ρ.t 3)] ty #[.slice (some ⟨b, 0, none⟩) i c, .int .i64 ((n:Int) + (m:Int)-(i:Int))]).run P w =
      .ok (.slice (some ⟨w.heap.size, 0, none⟩) (n + m) (grownCap w (n + m) c (ρ.t 9))) (w.drew.alloc (.cells ((cs.take (i * 7)).toArray ++ Builtin.zeroCells z.cells (n + m-i) ++ Builtin.zeroCells z.cells (grownCap w (n + m) c (ρ.t 9)-(n + m))) (ρ.t 9))):=fun ty=>by
    have h:=Lib.run_append_grow_zeros w (ρ.t 24) (ρ.t 3) ty (ρ.t 9) i0 _ .i64 .i64 L.t24 L.t3 hi0 Sj (some ⟨b, 0, none⟩) i c (cs.take (i * 7)) hold (n + m-i) (by omega) (by omega) (by omega) (by omega) BY (by rw[Rh]; exact hfit);rw[Rh]at h;rw[hkk];exact h
  obtain⟨G, hG⟩:∃G, G = grownCap w (n + m) c (ρ.t 9):=⟨_, rfl⟩
  obtain⟨LY, PC⟩:∃LY:Array Value, LY = (cs.take (i * 7)).toArray ++ Builtin.zeroCells z.cells (n + m-i) ++ Builtin.zeroCells z.cells (G-(n + m)):=⟨_, rfl⟩
  rw[<- hG]at RH;rw[<- PC]at RH;have Ue:n + m <= G:=by rw[hG]; exact grownCap_ge w _ _ _
  have R3:LY.size = G * 7:=by rw[PC];simp[Builtin.zeroCells, QL, List.length_take];omega
  have Rb:∀j, j<i * 7 -> LY[j]? = cs[j]? := fun j hj=>by
    have hlt:j<((cs.take (i * 7)).toArray).size:=by simp[List.length_take]; omega
    rw[PC, Array.getElem?_append_left (by rw[Array.size_append]; omega), Array.getElem?_append_left hlt, List.getElem?_toArray, List.getElem?_take, if_pos hj]
  have Uh:(n + m) * 7 <= LY.size:=by omega
  obtain⟨W1, Nl⟩:∃W1, W1 = w.drew.alloc (.cells LY (ρ.t 9)):=⟨_, rfl⟩
  rw[<- Nl]at RH;have hN:∀j, j<(n + m) * 7 -> (W1.cell? ⟨w.heap.size, j, none⟩).isSome = true:=fun j hj=>by rw[Nl, World.cell?_alloc_at (w:=w.drew) LY _ w.heap.size j rfl, Array.getElem?_eq_getElem (by omega)]; rfl
  have Tp:∀j, W1.frozen? ⟨w.heap.size, j, none⟩ = false:=fun j=>by rw[Nl]; exact World.frozen?_alloc_at (w:=w.drew) LY _ w.heap.size j rfl
  have Uf:∀j v, w.cell? ⟨b, j, none⟩ = some v -> W1.cell? ⟨b, j, none⟩ = some v:=fun j v h=>by rw[Nl, World.cell?_alloc_past (w:=w.drew) _ b j Uk]; exact h
  have Ug:∀j v, w.cell? ⟨vb, j, none⟩ = some v -> W1.cell? ⟨vb, j, none⟩ = some v:=fun j v h=>by rw[Nl, World.cell?_alloc_past (w:=w.drew) _ vb j Uu]; exact h
  have R9:∀(W:World), (∀x, W.cell? x = W1.cell? x) -> (∀x, W.frozen? x = W1.frozen? x) -> ∀ty dc, (Builtin.copy_ #[(ρ.t 24), (ρ.t 24)] ty #[.slice (some ⟨w.heap.size, i * 7, none⟩) (n + m-i) dc, .slice (some ⟨vb, 0, none⟩) m vc]).run P W = .ok (goInt (m:Int)) (W.setCells w.heap.size (i * 7) vs):=fun W P0 Rd ty dc=>
    LG W _ _ ty (ρ.t 9) w.heap.size (i * 7) (n + m-i) dc ⟨vb, 0, none⟩ m vc m vs L.t24 hsz (by simp only[Nat.min_def]; split <;> omega) hvl
      (fun j v hj=>by rw[Addr.add_lit, P0, Nat.zero_add]; exact Ug _ v (hvs j v hj))
      (fun j hj=>by rw[P0]; exact hN _ (by omega)) (fun j hj=>by rw[Rd]; exact Tp _) h1v
  have Uc:G <= 9223372036854775807:=by have:=grownCap_le_maxLen w (n + m) c (ρ.t 9) (by unfold maxLen; omega);rw[<- hG]at this;unfold maxLen at this;omega
  have UI:¬(G = i):=by omega
  have Ud:¬(G = i + m):=by omega
  have UL:¬(c = i):=by omega
  have R6:b ≠ w.heap.size:=by omega
  have El:(cs.drop (i * 7)).length = (n-i) * 7:=by rw[List.length_drop, jH]; omega
  have Rg:∀(W:World), (∀x, W.cell? x = (W1.setCells w.heap.size (i * 7) vs).cell? x) -> (∀x, W.frozen? x = (W1.setCells w.heap.size (i * 7) vs).frozen? x) -> ∀ty dc sc, (Builtin.copy_ #[(ρ.t 24), (ρ.t 24)] ty #[.slice (some ⟨w.heap.size, (i + m) * 7, none⟩) (n + m-(i + m)) dc, .slice (some ⟨b, i * 7, none⟩) (n-i) sc]).run P W = .ok (goInt ((n-i:Nat):Int)) (W.setCells w.heap.size ((i + m) * 7) (cs.drop (i * 7))):=fun W P0 Rd ty dc sc=>
    LG W _ _ ty (ρ.t 9) w.heap.size ((i + m) * 7) (n + m-(i + m)) dc ⟨b, i * 7, none⟩ (n-i) sc (n-i) (cs.drop (i * 7)) L.t24 hsz (by simp only[Nat.min_def]; split <;> omega) El
      (fun j v hj=>by rw[Addr.add_lit, P0, World.cell?_setCells_out _ _ _ _ _ (fun h _=>absurd h R6)];exact Uf _ v (hcs (i * 7 + j) v (by rwa[List.getElem?_drop]at hj)))
      (fun j hj=>by rw[P0]; exact isSome_setCells w.heap.size vs (i * 7) W1 (fun t ht=>hN _ (by omega)) _ (hN _ (by omega)))
      (fun j hj=>by rw[Rd, World.frozen?_setCells]; exact Tp _) (fun v hv=>h1c v (List.mem_of_mem_drop hv))
  subst Nl;have Ed:∀x, ((w.alloc (.cells LY (ρ.t 9))).drew).cell? x = (w.drew.alloc (.cells LY (ρ.t 9))).cell? x:=fun x=>rfl;have Ua:∀x, ((w.alloc (.cells LY (ρ.t 9))).drew).frozen? x = (w.drew.alloc (.cells LY (ρ.t 9))).frozen? x:=fun x=>rfl;have Hs:∀x, (((w.alloc (.cells LY (ρ.t 9))).drew.setCells w.heap.size (i * 7) vs).drew).cell? x = ((w.drew.alloc (.cells LY (ρ.t 9))).setCells w.heap.size (i * 7) vs).cell? x:=fun x=>rfl;have Ub:∀x, (((w.alloc (.cells LY (ρ.t 9))).drew.setCells w.heap.size (i * 7) vs).drew).frozen? x = ((w.drew.alloc (.cells LY (ρ.t 9))).setCells w.heap.size (i * 7) vs).frozen? x:=fun x=>rfl;have rA:IntKind.i64.wrap ((i:Int) + (m:Int)) = (i:Int) + (m:Int):=by rw[IntKind.wrap_i64]; omega
  have Aj:(0:Int) <= (i:Int) + (m:Int):=by omega
  have hin:i <= n:=by omega
  have htn:((i:Int) + (m:Int)).toNat = i + m:=by omega
  have FJ:(i:Int) <= (n:Int):=by omega
  clear hkk Rh hold PC hG Uh hfit BY;obtain⟨nm, _, Mo⟩:=L.f22
  go_enter Mo, Ls ρ nm
  go_wp2_with (first
    |(at_builtin; refine Lib.wpList_append_run _ rfl _ _ _ _ rfl _ _ rfl rfl _ _ (RH _) ?_)
    |(at_builtin; refine wpList_copy_runI _ rfl _ _ (ρ.t 24) (ρ.t 24) rfl _ _ rfl rfl (R9 _ Ed Ua _ _) ?_)
    |(at_builtin; refine wpList_copy_runI _ rfl _ _ (ρ.t 24) (ρ.t 24) rfl _ _ rfl rfl (Rg _ (fun _=>rfl) (fun _=>rfl) _ _ _) ?_))
  go_region_law_o (refine step_copy_runI rfl _ _ (ρ.t 24) (ρ.t 24) rfl (.slice (some ⟨w.heap.size, (i + m) * 7, none⟩) (n + m-(i + m)) (G-(i + m))) (.slice (some ⟨b, i * 7, none⟩) (n-i) (c-i)) (by simp[Act.eval, Act.put]) (by simp[Act.eval, Act.put]) (Rg _ Hs Ub (ρ.t 3) (G-(i + m)) (c-i)) ?_)
  go_wp2
  go_ret
  exact⟨G, Ue, LY, R3, Rb, rfl, rfl⟩
end
end Go.R
set_option linter.unusedVariables false
namespace Go.R
open Go.Shelf Go.Proofs
def UD(P:Program)(e:TypeId):Value:=((P.info? e).bind (·.zero)).getD default
def TE(P:Program)(e:TypeId):Nat:=((P.info? e).map (·.bytes)).getD 0
def M4{α:Type}(l:List α)(i:Int)(v:List α):List α:=l.take i.toNat++(v++l.drop i.toNat)
def Nf{α:Type}(l:List α)(i:Int)(v:List α):Bool:=decide (0<=i)&&(decide (i.toNat<=l.length)&&(decide (v.length=1)&&decide (l.length+1<=1073741824)))
theorem Pb{α:Type}{l:List α}{i:Int}{v:List α}(h:Nf l i v=true):0<=i/\i.toNat<=l.length/\v.length=1/\l.length+1<=1073741824:=by unfold Nf at h;simp only[Bool.and_eq_true,decide_eq_true_eq]at h;exact h
def MV(e:Nat)(cs:aK):ij:=⟨false,[.one (.arr e cs false),.one (.val (.int .i64)),.one (.arr e cs false)],[.one (.arr e cs false)],fun x=>bif Nf (α:=cs.T) x.1 x.2.1 x.2.2.1 then some (M4 (α:=cs.T) x.1 x.2.1 x.2.2.1,())else none⟩
section
variable {P:Program} {ρ:Ren} {w:World} {ω:aJ}
def K0(ω:aJ)(bN:Nat):aJ:=fun b=>if b=bN then some (4,[])else match ω b with
 |some (0,q)=>some (0,q)
 |_=>none
theorem Lt{bN b:Nat}{k:Key}(h:K0 ω bN b=some k):(b=bN/\k=(4,[]))\/(b≠bN/\∃q,k=(0,q)/\ω b=some (0,q)):=by
 unfold K0 at h;split at h
 ·rename_i e;injection h with h;exact .inl ⟨e,h.symm⟩
 ·rename_i e;split at h
  ·rename_i q e';injection h with h;exact .inr ⟨e,q,h.symm,e'⟩
  ·cases h
theorem ML{bN b:Nat}(hb:b≠bN)(h:jV ω b):K0 ω bN b=ω b:=by unfold K0;rw[if_neg hb];rcases h with h|⟨q,h⟩ <;> simp only[h]
theorem MM {w':World} (hinj:∀b b' k,ω b=some k->ω b'=some k->b=b') (hdom:∀b k,ω b=some k->b<w.heap.size) (e:Nat) (cs:aK) (bN c':Nat) (bW:Array Value) (z:List cs.T)
  (h1:w'.os=w.os) (h2:w'.tape=w.tape) (h3:w'.output=w.output) (hsize:w.heap.size<=w'.heap.size) (hkeep:∀b,b≠bN->b<w.heap.size->w'.heap[b]? = w.heap[b]?)
  (R6:ω bN=some (1,[])\/w.heap.size<=bN) (hh:w'.heap[bN]? = some (.cells bW e (0,0))) (hs:bW.size=c'*cs.len) (Uv:z.length<=c')
  (hel:∀i,i<z.length->cs.R w ω (fun _=>.cB) (fun j=>bW[i*cs.len+j]?) 0 (z.getD i (lB cs))):
  dr ω w (K0 ω bN) w'/\(∀b k,K0 ω bN b=some k->b<w'.heap.size)/\(∀b b' k,K0 ω bN b=some k->K0 ω bN b'=some k->b=b')/\(Ty.sl e cs).R w' (K0 ω bN) (.flat (4,[])) (.slice (some ⟨bN,0,none⟩) z.length c') z:=by
 have hne:∀b,b<w.heap.size->jV ω b->b≠bN:=fun b hlt hf he=>by
  subst he;rcases R6 with h|h
  ·exact hf.ne h (by decide)
  ·omega
 have hE:dr ω w (K0 ω bN) w':=⟨h1,h2,h3,hsize,fun b hlt hf=>⟨hkeep b (hne b hlt hf) hlt,ML (hne b hlt hf) hf⟩⟩
 refine⟨hE,fun b k hk=>?_,fun b b' k hk hk'=>?_,?_⟩
 ·rcases Lt hk with ⟨rfl,_⟩|⟨_,q,_,ho⟩
  ·exact bB hh
  ·exact Nat.lt_of_lt_of_le (hdom b _ ho) hsize
 ·rcases Lt hk with ⟨rfl,e1⟩|⟨_,q,e1,ho⟩ <;> rcases Lt hk' with ⟨rfl,e2⟩|⟨_,q',e2,cU⟩
  ·rfl
  ·rw[e1]at e2;injection e2 with e2 _;cases e2
  ·rw[e1]at e2;injection e2 with e2 _;cases e2
  ·rw[e1]at e2;injection e2 with _ e2;subst e2;exact hinj b b' _ ho cU
 ·refine⟨some ⟨bN,0,none⟩,z.length,c',rfl,rfl,Uv,.inr ⟨bN,bW,rfl,hh,hs,by unfold K0;rw[if_pos rfl]⟩,fun i ad hi had=>?_⟩;injection had with had
  subst had;refine aK.cG hE.size cs _ _ _ 0 _ (fun _=>hE.keeps) (fun j=>?_) (hel i hi);show w'.cell? ⟨bN,0+i*cs.len+j,none⟩=_;rw[Nat.zero_add];exact cell_of_row w' bN _ bW e (0,0) hh
theorem MC{e:Nat}{cs:aK}{kk:Key}{v:Value}{x:List cs.T}(h:(Ty.sl e cs).R w ω (.flat kk) v x):∃(ad:Option Addr) (cp:Nat) (rows:List Value),v=.slice ad x.length cp/\x.length<=cp/\rows.length=x.length*cs.len/\(∀u∈rows,u.oneCell'=true) /\
  ((cp=0/\x.length=0)\/∃b arr,ad=some ⟨b,0,none⟩/\w.heap[b]? = some (.cells arr e (0,0))/\arr.size=cp*cs.len/\ω b=some kk/\∀j u,rows[j]? = some u->w.cell? ⟨b,j,none⟩=some u) /\
  ∀i,i<x.length->cs.R w ω (fun _=>.cB) (fun j=>rows[i*cs.len+j]?) 0 (x.getD i (lB cs)):=by
 obtain⟨ad,n,cp,e1,e2,e3,e4,e5⟩:=h;subst e2;rcases e4 with e4|⟨b,arr,f1,f2,f3,f4⟩
 ·exact⟨ad,cp,[],e1,e3,by rw[e4.2];simp,by simp,.inl e4,fun i hi=>absurd hi (by omega)⟩
 ·obtain⟨rows,g1,g2⟩:=nN (w:=w) (b:=b) (off:=0) (m:=cs.len) x.length (fun i hi=>by
   obtain⟨us,u1,u2⟩:=aK.zG cs _ _ 0 _ (e5 i _ hi f1);exact⟨us,u1,fun k u hu=>by have:=u2 k u hu;simpa using this⟩)
  refine⟨ad,cp,rows,e1,e3,g1,fun u hu=>?_,.inr ⟨b,arr,f1,f2,f3,f4,fun j u hu=>by have:=(g2 j u hu).1;simpa using this⟩,fun i hi=>?_⟩
  ·obtain⟨k,hk,rfl⟩:=List.getElem_of_mem hu;exact(g2 k _ (List.getElem?_eq_getElem hk)).2
  ·refine aK.fy cs _ _ _ 0 _ (fun j hj=>?_) (e5 i _ hi f1);rw[Nat.zero_add];have hlt:i*cs.len+j<rows.length:=by rw[g1];exact hJ hi hj (Nat.le_refl _)
   have:=(g2 _ _ (List.getElem?_eq_getElem hlt)).1;rw[List.getElem?_eq_getElem hlt,<-this,Nat.zero_add,Nat.zero_add]
theorem Oq{cs:aK}{x:List cs.T}{rows:List Value}{i:Nat}(hi:i<=x.length)(h:∀k,k<x.length->cs.R w ω (fun _=>.cB) (fun j=>rows[k*cs.len+j]?) 0 (x.getD k (lB cs))):
  ∀k,k<(x.take i).length->cs.R w ω (fun _=>.cB) (fun j=>(rows.take (i*cs.len))[k*cs.len+j]?) 0 ((x.take i).getD k (lB cs)):=by
 intro k hk;rw[List.length_take]at hk;have cQ:k<i:=by omega
 rw[List.getD_eq_getElem?_getD,List.getElem?_take_of_lt cQ,<-List.getD_eq_getElem?_getD];refine aK.fy cs _ _ _ 0 _ (fun j hj=>?_) (h k (by omega));rw[Nat.zero_add,List.getElem?_take_of_lt (hJ cQ hj (Nat.le_refl _))]
theorem N5{cs:aK}{x:List cs.T}{rows:List Value}{i:Nat}(h:∀k,k<x.length->cs.R w ω (fun _=>.cB) (fun j=>rows[k*cs.len+j]?) 0 (x.getD k (lB cs))):
  ∀k,k<(x.drop i).length->cs.R w ω (fun _=>.cB) (fun j=>(rows.drop (i*cs.len))[k*cs.len+j]?) 0 ((x.drop i).getD k (lB cs)):=by
 intro k hk;rw[List.length_drop]at hk;rw[List.getD_eq_getElem?_getD,List.getElem?_drop,<-List.getD_eq_getElem?_getD];refine aK.fy cs _ _ _ 0 _ (fun j hj=>?_) (h (i+k) (by omega));rw[Nat.zero_add,List.getElem?_drop];congr 1;rw[Nat.add_mul];omega
theorem Mq {cs:aK} {x y:List cs.T} {rx ry:List Value} {i:Nat} (hi:i<=x.length) (OQ:rx.length=x.length*cs.len) (HQ:ry.length=y.length*cs.len)
  (hx:∀k,k<x.length->cs.R w ω (fun _=>.cB) (fun j=>rx[k*cs.len+j]?) 0 (x.getD k (lB cs)))
  (hy:∀k,k<y.length->cs.R w ω (fun _=>.cB) (fun j=>ry[k*cs.len+j]?) 0 (y.getD k (lB cs)))
  {bW:Array Value} (hr:∀j,j<(x.length+y.length)*cs.len->bW[j]? = (rx.take (i*cs.len)++(ry++rx.drop (i*cs.len)))[j]?):
  ∀k,k<(x.take i++(y++x.drop i)).length->cs.R w ω (fun _=>.cB) (fun j=>bW[k*cs.len+j]?) 0 ((x.take i++(y++x.drop i)).getD k (lB cs)):=by
 have pP:i*cs.len<=rx.length:=by rw[OQ];exact Nat.mul_le_mul_right _ hi
 have El:(rx.drop (i*cs.len)).length=(x.drop i).length*cs.len:=by rw[List.length_drop,List.length_drop,OQ,Nat.sub_mul]
 have wq:(rx.take (i*cs.len)).length=(x.take i).length*cs.len:=by rw[List.length_take,List.length_take,Nat.min_eq_left pP,Nat.min_eq_left hi]
 have h2:=uk (row:=fun j=>(ry++rx.drop (i*cs.len))[j]?) HQ El hy (N5 (i:=i) hx) (fun j _=>rfl);have hlen:(x.take i).length+(y++x.drop i).length=x.length+y.length:=by rw[List.length_append,List.length_take,List.length_drop,Nat.min_eq_left hi];omega
 refine uk (row:=fun j=>bW[j]?) wq ?_ (Oq hi hx) h2 (fun j hj=>?_)
 ·rw[List.length_append,List.length_append,HQ,El,Nat.add_mul]
 ·rw[hlen]at hj;exact hr j hj
theorem Ml{bW arr:Array Value}{vs:List Value}{o:Nat}(h:bW.toList=arr.toList.take o++vs++arr.toList.drop (o+vs.length))(ho:o+vs.length<=arr.size):
  bW.size=arr.size/\(∀j,j<o->bW[j]? = arr[j]?)/\(∀j,o<=j->j<o+vs.length->bW[j]? = vs[j-o]?)/\∀j,o+vs.length<=j->bW[j]? = arr[j]?:=by
 have wq:(arr.toList.take o).length=o:=by rw[List.length_take,Array.length_toList];omega
 refine⟨?_,fun j hj=>?_,fun j h1 h2=>?_,fun j hj=>?_⟩
 ·have e1:arr.toList.length=arr.size:=Array.length_toList;rw[<-Array.length_toList,h,List.length_append,List.length_append,wq,List.length_drop];omega
 ·rw[<-Array.getElem?_toList,h,List.append_assoc,List.getElem?_append_left (by omega),List.getElem?_take_of_lt hj,Array.getElem?_toList]
 ·rw[<-Array.getElem?_toList,h,List.append_assoc,List.getElem?_append_right (by omega),wq,List.getElem?_append_left (by omega)]
 ·rw[<-Array.getElem?_toList,h,List.getElem?_append_right (by rw[List.length_append,wq];omega),List.length_append,wq,List.getElem?_drop,<-Array.getElem?_toList];congr 1;omega
theorem OX {z:Value} {bytes:Nat} (L:NZ P ρ z bytes) (QL:z.cells.size=7) (hby:bytes<=65536) {cs:aK} (Mj:cs.len=7)
  (hinj:∀b b' k,ω b=some k->ω b'=some k->b=b') (hdom:∀b k,ω b=some k->b<w.heap.size) (x y:List cs.T) (i:Nat) (hi:i<=x.length) (hy:y.length=1) (l8:x.length+1<=1073741824) (u1 u3:Value)
  (B6:(Ty.sl (ρ.t 9) cs).R w ω (.flat (1,[])) u1 x) (Sb:(Ty.sl (ρ.t 9) cs).R w ω (.flat (3,[])) u3 y):
  Calls P (ρ.f 22) #[u1,.int .i64 i,u3] w fun ex w'=>∃v aI,ex=.returned v/\dr ω w aI w'/\(∀b k,aI b=some k->b<w'.heap.size)/\(∀b b' k,aI b=some k->aI b'=some k->b=b') /\
   (Ty.sl (ρ.t 9) cs).R w' aI (.flat (4,[])) v (x.take i++(y++x.drop i)):=by
 obtain⟨ad,c,rx,rfl,hnc,OQ,Te,RF,AE⟩:=MC B6;obtain⟨UG,c3,ry,rfl,Ur,HQ,RZ,R7,Si⟩:=MC Sb;obtain⟨i0,hi0,Sj,hzs,RJ⟩:=info_parts L.i9;rcases R7 with h|⟨vb,TC,rfl,Sg,hvs,QK,HU⟩
 ·omega
 have hlen:(x.take i++(y++x.drop i)).length=x.length+y.length:=by rw[List.length_append,List.length_append,List.length_take,List.length_drop,Nat.min_eq_left hi];omega
 have hsrc:Src P i0.size (ρ.t 24) (.slice (some ⟨vb,0,none⟩) y.length c3) y.length ry w:=by rw[hzs];refine Src.ofSlice w L.t24 ⟨vb,0,none⟩ y.length c3 ry (by rw[HQ,Mj]) (fun j u hj=>?_) RZ;rw[Addr.add_lit,Nat.zero_add];exact HU j u hj
 rcases Nat.lt_or_ge i x.length with hlt|hge
 ·-- i < len
  rcases RF with h|⟨b,arr,rfl,hh,has,Re,Da⟩
  ·omega
  have hvb:vb≠b:=fun h=>by subst h;rw[Re]at QK;injection QK with QK;injection QK with QK _;cases QK
  have UK:=bB hh;by_cases hroom:x.length+y.length<=c
  ·have hal:∀j,w.cell? ⟨b,j,none⟩=arr[j]?:=fun j=>cell_of_row w b j arr _ (0,0) hh;have hfit:(x.length+y.length)*7<=arr.size:=by rw[has,Mj];exact Nat.mul_le_mul_right _ hroom
   refine(Oc L b x.length c i vb y.length c3 rx ry w hlt (by omega) hroom (by omega) hvb (by rw[OQ,Mj]) (by rw[HQ,Mj]) Da (fun j hj=>by rw[hal,Array.getElem?_eq_getElem (by omega)];rfl) (fun j=>by simp[World.frozen?,hh]) HU Te RZ
    (ρ.t 9) (ρ.t 9) TC.size arr.size (by unfold World.shape?;rw[Sg]) (by unfold World.shape?;rw[hh]) (by omega) (by simp[World.frozen?,Sg]) (by simp[World.frozen?,Sg])).mono ?_
   rintro ex w' ⟨rfl,rfl⟩;have OR:rx.length=x.length*7:=by rw[OQ,Mj]
   have Rk:ry.length=y.length*7:=by rw[HQ,Mj]
   have El:(rx.drop (i*7)).length=(x.length-i)*7:=by rw[List.length_drop,OR];omega
   obtain⟨eJ,g1,g2⟩:=ee b (ρ.t 9) (0,0) (rx.drop (i*7)) ((i+y.length)*7) w.drew arr hh (by omega);obtain⟨k1,k2,k3,_⟩:=Ml g2 (by omega);obtain⟨D1,g3,g4⟩:=ee b (ρ.t 9) (0,0) ry (i*7) _ eJ g1 (by omega);obtain⟨m1,m2,m3,m4⟩:=Ml g4 (by omega);have hp:=(dV b (rx.drop (i*7)) ((i+y.length)*7) w.drew).trans (dV b ry (i*7) _);have gV:=MM (w':=(w.drew.setCells b ((i+y.length)*7) (rx.drop (i*7))).setCells b (i*7) ry) hinj hdom (ρ.t 9) cs b c D1 (x.take i++(y++x.drop i)) hp.os hp.tape hp.output (by rw[hp.size];exact Nat.le_refl _) (fun b' hb' _=>hp.block b' hb') (.inl Re) g3 (by rw[m1,k1,has]) (by rw[hlen];exact hroom)
    (Mq hi OQ HQ AE Si (fun j hj=>?_))
   ·rw[hlen]at gV;exact⟨_,_,rfl,gV.1,gV.2.1,gV.2.2.1,gV.2.2.2⟩
   ·have hj:j<(x.length+y.length)*7:=by rw[Mj]at hj;exact hj
    have wq:(rx.take (i*7)).length=i*7:=by rw[List.length_take];omega
    rw[Mj];rcases Nat.lt_or_ge j (i*7)with h|h
    ·rw[m2 j h,k2 j (by omega),List.getElem?_append_left (by omega),List.getElem?_take_of_lt h,<-hal,List.getElem?_eq_getElem (by omega)];exact Da j _ (List.getElem?_eq_getElem (by omega))
    ·rcases Nat.lt_or_ge j (i*7+ry.length)with h'|h'
     ·rw[m3 j h h',List.getElem?_append_right (by omega),List.getElem?_append_left (by omega),wq]
     ·rw[m4 j h',k3 j (by omega) (by omega),List.getElem?_append_right (by omega),List.getElem?_append_right (by omega),wq];congr 1;omega
  ·refine(OY L QL hby b x.length c i vb y.length c3 rx ry w hlt (by omega) hnc (by omega) (by omega) (by rw[OQ,Mj]) (by rw[HQ,Mj]) Da HU Te RZ).mono ?_;rintro ex w' ⟨G,hG,LY,R3,Rb,rfl,hw'⟩;have OR:rx.length=x.length*7:=by rw[OQ,Mj]
   have Rk:ry.length=y.length*7:=by rw[HQ,Mj]
   have El:(rx.drop (i*7)).length=(x.length-i)*7:=by rw[List.length_drop,OR];omega
   have Ra:eO w (w.alloc (.cells LY (ρ.t 9))).drew:=(eO.alloc w _).trans (eO.drew _);have Et:(w.alloc (.cells LY (ρ.t 9))).drew.heap[w.heap.size]? = some (.cells LY (ρ.t 9) (0,0)):=heap_alloc_new w _;obtain⟨eJ,g1,g2⟩:=ee w.heap.size (ρ.t 9) (0,0) ry (i*7) _ LY Et (by omega);obtain⟨k1,k2,k3,_⟩:=Ml g2 (by omega);have CC:((w.alloc (.cells LY (ρ.t 9))).drew.setCells w.heap.size (i*7) ry).drew.heap[w.heap.size]? = some (.cells eJ (ρ.t 9) (0,0)):=g1;obtain⟨D1,g3,g4⟩:=ee w.heap.size (ρ.t 9) (0,0) (rx.drop (i*7)) ((i+y.length)*7) _ eJ CC (by omega);obtain⟨m1,m2,m3,m4⟩:=Ml g4 (by omega);have hp1:=dV w.heap.size ry (i*7) (w.alloc (.cells LY (ρ.t 9))).drew;have hp2:=dV w.heap.size (rx.drop (i*7)) ((i+y.length)*7) ((w.alloc (.cells LY (ρ.t 9))).drew.setCells w.heap.size (i*7) ry).drew;rw[<-hw']at g3 hp2;have gV:=MM (w':=w') hinj hdom (ρ.t 9) cs w.heap.size G D1 (x.take i++(y++x.drop i)) (hp2.os.trans (hp1.os.trans Ra.os)) (hp2.tape.trans (hp1.tape.trans Ra.tape)) (hp2.output.trans (hp1.output.trans Ra.output))
    (by rw[hp2.size];exact Nat.le_trans Ra.size (Nat.le_of_eq hp1.size.symm)) (fun b' hb' FY=>(hp2.block b' hb').trans ((hp1.block b' hb').trans (Ra.block b' FY))) (.inr (Nat.le_refl _)) g3 (by rw[m1,k1,R3,Mj]) (by rw[hlen];exact hG)
    (Mq hi OQ HQ AE Si (fun j hj=>?_))
   ·rw[hlen]at gV;exact⟨_,_,rfl,gV.1,gV.2.1,gV.2.2.1,gV.2.2.2⟩
   ·have hj:j<(x.length+y.length)*7:=by rw[Mj]at hj;exact hj
    have wq:(rx.take (i*7)).length=i*7:=by rw[List.length_take];omega
    rw[Mj];rcases Nat.lt_or_ge j (i*7)with h|h
    ·rw[m2 j (by omega),k2 j h,Rb j h,List.getElem?_append_left (by omega),List.getElem?_take_of_lt h]
    ·rcases Nat.lt_or_ge j (i*7+ry.length)with h'|h'
     ·rw[m2 j (by omega),k3 j h h',List.getElem?_append_right (by omega),List.getElem?_append_left (by omega),wq]
     ·rw[m3 j (by omega) (by omega),List.getElem?_append_right (by omega),List.getElem?_append_right (by omega),wq];congr 1;omega
 ·-- append
  have hin:i=x.length:=by omega
  subst hin;have OR:rx.length=x.length*7:=by rw[OQ,Mj]
  have Rk:ry.length=y.length*7:=by rw[HQ,Mj]
  have hx0:(∃xU,Value.slice ad x.length c=.slice xU 0 0/\x.length=0)\/∃b c' arr,Value.slice ad x.length c=.slice (some ⟨b,0,none⟩) x.length c'/\x.length<=c'/\w.heap[b]? = some (.cells arr (ρ.t 9) (0,0))/\arr.size=c'*cs.len/\ω b=some (1,[]):=by
   rcases RF with ⟨h1,h2⟩|⟨b,arr,rfl,hh,has,Re,Da⟩
   ·exact .inl ⟨ad,by rw[h1,h2],h2⟩
   ·exact .inr ⟨b,c,arr,rfl,hnc,hh,has,Re⟩
  obtain⟨v,w',hrun,hres⟩:=vQ (P:=P) (w:=w) (B:=fun b=>ω b=some (1,[])) (cs:=cs) (ty:=0) (t:=ρ.t 24) (t':=ρ.t 24) L.t24 hi0 Sj (by rw[hzs,Mj]) (by rw[QL,Mj]) (by rw[RJ];exact hby) hx0 hsrc (by omega);rcases hres with ⟨_,_,_,_,h0⟩|⟨b0,c',bW,olds,rfl,eo,rz,R5,ng,hel,hold,⟨o1,o2,o3⟩,pV,hkeep,hb0,hB⟩
  ·omega
  ·refine(PF L ad x.length c vb y.length c3 w (by omega) hnc ?_ _ _ (fun ty=>hrun)).mono ?_
   ·rintro rfl;rcases RF with ⟨_,h2⟩|⟨b,arr,h,_⟩
    ·exact h2
    ·cases h
   ·rintro ex w'' ⟨rfl,rfl⟩;have gV:=MM (w':=w'') hinj hdom (ρ.t 9) cs b0 c' bW (x.take x.length++(y++x.drop x.length)) o1 o2 o3 pV hkeep (by
     rcases Nat.lt_or_ge b0 w.heap.size with h|h
     ·exact .inl (hB h)
     ·exact .inr h) rz R5 (by rw[hlen];exact eo) (Mq hi OQ HQ AE Si (fun j hj=>?_))
    ·rw[hlen]at gV;exact⟨_,_,rfl,gV.1,gV.2.1,gV.2.2.1,gV.2.2.2⟩
    ·rw[hel j hj,Mj,List.take_of_length_le (by omega),List.drop_eq_nil_of_le (by omega),List.append_nil];rw[Mj]at hj ng;rcases Nat.lt_or_ge j (x.length*7)with h|h
     ·rw[List.getElem?_append_left (by omega),List.getElem?_append_left (by omega)];rcases RF with ⟨_,h2⟩|⟨b,arr,rfl,hh,has,Re,Da⟩
      ·omega
      ·rw[hold b c rfl j (by rw[Mj];exact h),List.getElem?_eq_getElem (by omega)];exact Da j _ (List.getElem?_eq_getElem (by omega))
     ·rw[List.getElem?_append_right (by omega),List.getElem?_append_right (by omega),ng,OR]
theorem Od{z:Value}{bytes:Nat}(L:NZ P ρ z bytes)(QL:Nat.beq z.cells.size 7=true)(hby:Nat.ble bytes 65536=true){e:Nat}(he:e=ρ.t 9){cs:aK}(Mj:Nat.beq cs.len 7=true):eA P (ρ.f 22) (MV e cs):=by
 subst he;obtain⟨nm,hnm,Mo⟩:=L.f22;refine⟨⟨_,_,Mo,hnm,rfl⟩,?_⟩;intro w ω us x y _ hinj hdom hsh hfn;obtain⟨x1,i,x3,u0⟩:=x;have hfn:(bif Nf (α:=cs.T) x1 i x3 then some (M4 (α:=cs.T) x1 i x3,())else none)=some y:=hfn;cases l8:Nf (α:=cs.T) x1 i x3 with
 |false=>rw[l8]at hfn;cases hfn
 |true=>
  rw[l8]at hfn;injection hfn with hfn
  subst hfn;obtain⟨h0,hi,hy,hl⟩:=Pb l8;match us,hsh with
  | [u1,u2,u3],hsh=>
  obtain⟨_,⟨v1,xw,B6⟩,_,⟨v2,F8,pU⟩,_,⟨v3,Sf,Sb⟩,_⟩:=hsh;injection xw with xw _
  subst xw;injection F8 with F8 _
  subst F8;injection Sf with Sf _
  subst Sf;have pU:u2=.int .i64 i:=pU;subst pU;obtain⟨n,rfl⟩:=Int.eq_ofNat_of_zero_le h0;refine(OX L (Nat.eq_of_beq_eq_true QL) (Nat.le_of_ble_eq_true hby) (Nat.eq_of_beq_eq_true Mj) hinj hdom x1 x3 n hi hy hl u1 u3 B6 Sb).mono ?_;rintro ex w' ⟨v,aI,rfl,h1,h2,h3,h4⟩;exact⟨v,aI,rfl,h1,h3,h2,⟨rfl,⟨_,rfl,h4⟩⟩,⟨(fun h=>by cases h),rfl,rfl⟩⟩
end
end Go.R
set_option linter.unusedVariables false
namespace Go.Fn
open Go.R
noncomputable def Jf(a:Kq)(b:Int)(c:Kq):Option Ow:=cond (Nf a b c) (some (M4 a b c,())) none
noncomputable def J3(a:Kq×QG)(b:RQ):S6:=letI c:=b.2.1;letI d:=b.2.2.2;letI e:=b.2.2.1;letI f:=d.2.1;letI g:=d.2.2.2;letI h:=d.2.2.1;letI i:=g.2.1;letI j:=g.2.2.2.1;letI k:=aa .add .i64 j 1;letI l:=ae br a.2.2.1 j;letI m:=af .leq l.1 a.2.1;letI n:=aa .add .i64 l.2.1 1;letI o:=aa .add .i64 l.2.2.1 1;cond (af .lss j a.2.2.2.1) (cond (ah a.2.2.1 j) (cond (af .eql l.1 a.2.1) (cond m (some (.inl (b.1,c,bK true e n,bK true d.1 o,f,h,g.1,i,k,k,()))) (some (.inl (b.1,c,bK true e n,bK true d.1 o,f,h,g.1,i,g.2.2.1,k,())))) (cond m (some (.inl (b.1,c,e,bK true d.1 o,f,h,g.1,i,k,k,()))) (some (.inl (b.1,c,e,bK true d.1 o,f,h,g.1,i,g.2.2.1,k,()))))) none) (some (.inr (.inl (b.1,c,e,d.1,f,h,g.1,i,g.2.2.1,()))))
noncomputable def Ks k x:=iter (J3 k) big x
noncomputable def KD(a:Kq)(b c d e f:Int):RS:=(tW a).bind fun g=>(Jn a).bind fun h=>cond (Bool.not h.1) (some (g.1,false,())) ((Ks (a,b,a,ai a,()) (g.1,b,1,1,c,d,e,f,0,0,())).bind fun i=>Sum.elim (fun j=>(tW a).bind fun k=>letI l:=j.2.2.2.2;(Jf k.1 l.2.2.2.2.1 (List.append (α:=IW) ([]:Kq) [(j.2.1,j.2.2.1,j.2.2.2.1,l.1,l.2.1,l.2.2.1,l.2.2.2.1)])).bind fun m=>(Jn m.1).bind fun n=>cond (Bool.not n.1) (some (j.1,false,())) (some (m.1,true,()))) (fun j=>Empty.elim j) i)
end Go.Fn
set_option linter.unusedVariables false
namespace Go.Fn
open Go.R
noncomputable def Mp(node:Int)(s:Int×Int×Nat×Nat)(x:Ev):Int×Int×Nat×Nat:=((bif decide (x.1=node)then max s.1 (x.2.1+1)else s.1),max s.2.1 (x.2.2.1+1),(bif decide (x.1<=node)then s.2.2.2+1 else s.2.2.1),s.2.2.2+1)
theorem OU{node:Int}{p:List Ev}{s:Int×Int×Nat×Nat}{x:Ev}(h:Nn node p s)(hp:MI (p++[x]))(he:KM x=true):Mp node s x=Lp node s x:=by
 unfold Mp Lp;by_cases hx:x.1=node
 ·have hlt:s.1<=x.2.1+1:=by
   rcases h.s2 with h1|⟨y,hy,h1,h2⟩
   ·have:=KH.1 he;omega
   ·have:=(List.pairwise_append.1 hp).2.2 y hy x (List.mem_singleton.2 rfl);rw[Jx]at this;omega
  rw[decide_eq_true hx,cond_true,cond_true,Int.max_eq_right hlt]
 ·rw[decide_eq_false hx];rfl
theorem NT(node:Int):∀(l p:List Ev) (s:Int×Int×Nat×Nat),MI (p++l)->(∀x,x∈l->KM x=true)->Nn node p s->l.foldl (Mp node) s=l.foldl (Lp node) s
 | [],_,_,_,_,_=>rfl
 |x::l,p,s,hp,he,h=>by
  have e:p++x::l=(p++[x])++l:=by simp
  rw[e]at hp;have hp1:=(List.pairwise_append.1 hp).1;rw[List.foldl_cons,List.foldl_cons,OU h hp1 (he x (.head _))];exact NT node l (p++[x]) (Lp node s x) hp (fun y hy=>he y (.tail _ hy)) (MB h hp1)
theorem OT{l:List Ev}(hj:JZ l=true)(node:Int):l.foldl (Mp node) (1,1,0,0)=J7 l node:=NT node l [] (1,1,0,0) (by simpa using Kk hj) (fun x hx=>L0 hj x hx) ⟨rfl,Nat.le_refl _,fun x hx=>absurd hx List.not_mem_nil,.inl rfl,fun x hx=>absurd hx List.not_mem_nil,.inl rfl,fun x hx=>absurd (List.mem_of_mem_take hx) List.not_mem_nil,fun x hx=>absurd (List.mem_of_mem_drop hx) List.not_mem_nil⟩
theorem Nw(l:List Ev)(hj:JZ l=true)(node kind b8 a b:Int)(same:List Ev):Ks (l,node,l,(ai l),()) (same,node,(1:Int),(1:Int),kind,b8,a,b,(0:Int),(0:Int),())=some (.inl (same,node,(J7 l node).1,(J7 l node).2.1,kind,b8,a,b,(((J7 l node).2.2.1:Nat):Int),())):=by
 have PB:=Jw hj;rw[<-OT hj node];refine(bI (body:=J3 (l,node,l,(ai l),())) l br (by omega) (Mp node) (fun(s:Int×Int×Nat×Nat) n=>(same,node,s.1,s.2.1,kind,b8,a,b,((s.2.2.1:Nat):Int),(n:Int),())) (fun n s=>s.2.2.2=n) (fun s=>Sum.inl (same,node,s.1,s.2.1,kind,b8,a,b,((s.2.2.1:Nat):Int),())) (fun n s hn hs=>⟨?_,by unfold Mp;simp[hs]⟩) (fun s hs=>?_) (1,1,0,0) rfl).1
 ·have he:=KH.1 (NC hj hn);unfold J3 Mp;simp only[aj,hn,decide_true,cond_true,ax,ak];revert he;generalize l.getD n br=e;intro he;have e1:aa .add .i64 e.2.1 1=e.2.1+1:=bU (by omega) (by omega);have e2:aa .add .i64 e.2.2.1 1=e.2.2.1+1:=bU (by omega) (by omega);have e3:bK true s.2.1 (e.2.2.1+1)=max s.2.1 (e.2.2.1+1):=by unfold bK;simp <;> omega
  have e4:af .eql e.1 node=decide (e.1=node):=by simp[af,Bool.beq_eq_decide_eq]
  have e5:af .leq e.1 node=decide (e.1<=node):=rfl;simp only[e1,e2,e3,e4,e5,au (n:=n) (by omega),hs];have e6:bK true s.1 (e.2.1+1)=max s.1 (e.2.1+1):=by unfold bK;simp <;> omega
  rw[e6];cases decide (e.1=node) <;> cases decide (e.1<=node) <;> rfl
 ·unfold J3;simp only[aj,Nat.lt_irrefl,decide_false,cond_false]
theorem Nx(l:List Ev)(node kind b8 a b:Int)(hl:l.length<=1073741824):KD l node kind b8 a b=some ((JW l node kind b8 a b).1,(JW l node kind b8 a b).2,()):=by
 unfold KD JW;simp only[LZ,Option.bind_some,N2 l hl];cases hj:JZ l with
 |false=>rfl
 |true=>
  have PB:=Jw hj;have hi:=Kf node (Kk hj);have RE:=hi.OD;simp only[Bool.not_true,cond_false,cond_true,Nw l hj,Option.bind_some,Sum.elim_inl,Qb,List.nil_append];generalize hA:J7 l node=A at RE;have hr:Nf l ((A.2.2.1:Nat):Int) [(node,A.1,A.2.1,kind,b8,a,b)]=true:=by unfold Nf;simp only[Bool.and_eq_true,decide_eq_true_eq,Int.toNat_natCast];exact⟨Int.natCast_nonneg _,RE,rfl,by omega⟩
  have hw:M4 l ((A.2.2.1:Nat):Int) [(node,A.1,A.2.1,kind,b8,a,b)]=JF l node kind b8 a b:=by unfold M4 JF LN;rw[hA,Int.toNat_natCast,List.append_assoc]
  unfold Jf;rw[hr,hw];simp only[cond_true,Option.bind_some];cases JZ (JF l node kind b8 a b) <;> rfl
end Go.Fn
set_option linter.unusedVariables false
namespace Go.Fn
open Go.R
noncomputable def Ru:RU:=(0,0,0)
end Go.Fn
set_option linter.unusedVariables false
namespace Go.Fn
open Go.R
abbrev Gp:=Int×Int×Int
noncomputable def P9(l:List Bx)(o:List Gp):Prop:=∀g,g∈o->∃b,b∈l/\g.2.1=b.1
theorem P9.put{l:List Bx}{o:List Gp}(h:P9 l o){i:Int}(h0:0<=i)(h1:i<(o.length:Int))(z z':Int):P9 l (aC o i (z,(ae Ru o i).2.1,z')):=by
 intro g hg;unfold aC at hg;rcases List.mem_or_eq_of_mem_set hg with hg|hg
 ·exact h g hg
 ·have hm:ae Ru o i∈o:=by
   unfold ae;rw[List.getD_eq_getElem?_getD,List.getElem?_eq_getElem (by omega)];exact List.getElem_mem _
  obtain⟨b,hb,e⟩:=h _ hm;subst hg;exact⟨b,hb,e⟩
end Go.Fn
set_option linter.unusedVariables false
set_option linter.unusedSimpArgs false
namespace Go.R
variable {H:Nat->Value}
section
variable {A:oC} {M:Type}
def KZ:Nat:=65536
def TV.bare(v:TV A):TV A:=match v with| .GR ..=>.dead|v=>v
def TV.hold(i:Nat)(v:TV A):TV A:=match v with| .one l=>.GR i (false,[l])| .agg ls=>.GR i (true,ls)|_=>.dead
def TV.Mx(i:Nat)(v:TV A):TV A:=match v with| .GR j c=>bif Nat.beq j i then TV.mk c.1 c.2 else .dead|_=>.dead
def Rm(args:List (TV A))(s:St A):St A:=⟨fun i=>bif Nat.ble KZ i then(s.sl (i-KZ)).hold (i-KZ)else(args.getD i .dead).bare,s.ob⟩
def Mu(id g off:Nat):List (TV A)->Nat->Option Nat
 | [],_=>none
 |v::vs,j=>match v with
  | .one (.ptr id' g' off')=>bif Nat.beq id id'&&(Nat.beq g g'&&Nat.beq off off')then some j else Mu id g off vs (j+1)
  |_=>Mu id g off vs (j+1)
def O7(c:Code)(args:List (TV A))(s s1:St A)(i:Nat):TV A:=match s.sl i with
 | .one (.ptr id g off)=>bif (dA s id g).isSome then(match Mu id g off args 0 with
   |some j=>bif cP [j] c then(s1.sl j).bare else .dead
   |none=>(s1.sl (KZ+i)).Mx i)else .dead
 |_=>(s1.sl (KZ+i)).Mx i
def Ol(c:Code)(args:List (TV A))(s s1:St A):St A:=⟨fun i=>O7 c args s s1 i,s1.ob⟩
def Nz(E:Env)(C:xO real M)(Φ:bV->Option (Callee real M))(L:Lk real M)(c:Code)(res:List ResultVar):Inl real M:=fun args s k=>
 bif Nat.ble args.length E.nt&&Nat.ble E.nt KZ then
  exec E C Φ L 0 c (Rm args s) fun ex s1=>bif ex.done then ar C (nM E s1 res) fun cg=>k (TV.mL cg).bare (Ol c args s s1)
  else C.fail
 else C.fail
end
def Mz(P:Program)(f:FuncId)(t:(R:Type)->Inl real (Option R)):Prop:=
 ∀(E:Env) (H:Nat->Value) (R:Type) (o:Oper) (args:Array Operand) (fG:Array Nat) (ω:aJ) (a:Act) (w:World) (s:S) (k:S->Option R) (r:R) (Q:Exit->Act->World->Prop),
  o.op=.call ⟨.value (.func f),args,fG⟩->args.size=fG.size->Rel H ω a w s->(∀d,o.dst=some d->d<a.tmps.size) ->
  t R ((args.toList.zip fG.toList).map fun p=>ev E s p.2 p.1) s (fun v s1=>k (s1.ck o.dst v))=some r->o.wp P a w (Ends H ω a w o.dst k r) Q
section
variable {R:Type} {P:Program} {E:Env} {Ψ:bV->Option ij} {Λ:Nat->Option eB} {ω:aJ} {a:Act} {w:World} {s:S}
theorem dh.bare{H H':Nat->Value}{s':S}(hs:s'.ob=s.ob)(hd:∀b k,ω b=some k->b<w.heap.size){u:Value}{tv:cm}(h:dh H w ω s u tv):dh H' w ω s' u tv.bare:=by
 have tr:∀id,Tr w ω s w ω s' id:=fun id=>Tr.mM hd (by rw[hs]);cases tv with
 |one l=>exact cA.frame (dr.refl _ _) tr h
 |agg ls=>obtain⟨us,h1,h2⟩:=h;exact⟨us,h1,h2.mono fun _ _ hc=>cA.frame (dr.refl _ _) tr hc⟩
 |nR cs=>obtain⟨us,h1,h2⟩:=h;exact⟨us,h1,h2.mono fun _ _ hc=>nV.frame (dr.refl _ _) tr hc⟩
 |GR _ _=>trivial
theorem PE(h:Rel H ω a w s){a':Act}(Ul:a'.defers=[]){cg:List cm}{us:List Value}(hall:bj (dh H w ω s) us cg)(B9:∀i u,us[i]? = some u->a'.tmps.getD i undef=u):Rel (fun i=>a.tmps.getD i undef) ω a' w (Rm cg s) where
 dP:=h.dP
 inj:=h.inj
 dom:=h.dom
 defers:=Ul
 dR:=h.dR
 slots i:=by
  have tr:∀id,Tr w ω s w ω (Rm cg s) id:=fun id=>Tr.mM h.dom rfl;show dh _ w ω (Rm cg s) _ (bif Nat.ble KZ i then(s.sl (i-KZ)).hold (i-KZ)else(cg.getD i .dead).bare);cases hb:Nat.ble KZ i with
  |true=>
   have hj:=h.slots (i-KZ);simp only[cond_true];revert hj;generalize i-KZ=j;intro hj;cases jO:s.sl j with
   |one l=>
    rw[jO]at hj;intro l' e;injection e with e
    subst e;exact cA.frame (dr.refl _ _) tr hj
   |agg ls=>rw[jO]at hj;obtain⟨us,h1,h2⟩:=hj;exact⟨us,h1,h2.mono fun _ _ hc=>cA.frame (dr.refl _ _) tr hc⟩
   |nR _=>trivial
   |GR _ _=>trivial
  |false=>
   simp only[cond_false];rw[List.getD_eq_getElem?_getD];cases hq:cg[i]? with
   |none=>trivial
   |some tv=>obtain⟨u,hu,hr⟩:=hall.get i tv hq;rw[B9 i u hu];exact dh.bare rfl h.dom hr
 dB id cells hc:=by obtain⟨b,arr,T,h1,h2,h3⟩:=h.dB id cells hc;exact⟨b,arr,T,h1,h2,h3.mono fun _ _ hl=>cA.frame (dr.refl _ _) (fun id=>Tr.mM h.dom rfl) hl⟩
theorem Nd{id g off:Nat}:∀(vs:List cm) (j0 j:Nat),Mu id g off vs j0=some j->∃i,j=j0+i/\vs[i]? = some (.one (.ptr id g off))
 | [],_,_,h=>nomatch h
 |v::vs,j0,j,h=>by
  have rest:Mu id g off vs (j0+1)=some j->∃i,j=j0+i/\(v::vs)[i]? = some (.one (.ptr id g off)):=fun h=>by obtain⟨i,h1,h2⟩:=Nd vs (j0+1) j h;exact⟨i+1,by omega,by simpa using h2⟩
  unfold Mu at h;split at h
  ·rename_i id' g' off';cases hb:(Nat.beq id id'&&(Nat.beq g g'&&Nat.beq off off'))with
   |true=>rw[hb]at h;simp only[Bool.and_eq_true]at hb;obtain⟨h1,h2,h3⟩:=hb;rw[Nat.eq_of_beq_eq_true h1,Nat.eq_of_beq_eq_true h2,Nat.eq_of_beq_eq_true h3];exact⟨0,(Option.some.inj h).symm,rfl⟩
   |false=>rw[hb]at h;exact rest h
  ·exact rest h
theorem Ph{s1 s2:S}(hd:∀b k,ω b=some k->b<w.heap.size)(hs:s2.ob=s1.ob){v0:Value}{i:Nat}{tv:cm}(h:dh (fun i=>a.tmps.getD i undef) w ω s1 v0 tv):dh H w ω s2 (a.tmps.getD i undef) (tv.Mx i):=by
 have tr:∀id,Tr w ω s1 w ω s2 id:=fun id=>Tr.mM hd (by rw[hs]);cases tv with
 |GR j c=>
  simp only[TV.Mx];cases hb:Nat.beq j i with
  |false=>trivial
  |true=>
   have:=Nat.eq_of_beq_eq_true hb;subst this;have hj:nV w ω s2 (a.tmps.getD j undef) c:=nV.frame (dr.refl _ _) tr h;obtain⟨ag,ls⟩:=c;cases ag with
   |true=>exact hj
   |false=>
    match ls,hj with
    | [],_=>trivial
    | [l],hj=>exact hj l rfl
    |_::_::_,_=>trivial
 |_=>trivial
theorem O6 {w1:World} {bi:aJ} {s1:S} {a1:Act} {c:Code} {cg:List cm} {us:List Value} (h:Rel H ω a w s) (hall:bj (dh H w ω s) us cg) (h1:Rel (fun i=>a.tmps.getD i undef) bi a1 w1 s1)
  (hp:∀j u,cP [j] c=true->us[j]? = some u->a1.tmps.getD j undef=u):Rel H bi a w1 (Ol c cg s s1) where
 dP:=h1.dP
 inj:=h1.inj
 dom:=h1.dom
 defers:=h.defers
 dR:=h1.dR
 slots i:=by
  have held:dh H w1 bi (Ol c cg s s1) (a.tmps.getD i undef) ((s1.sl (KZ+i)).Mx i):=Ph h1.dom rfl (h1.slots (KZ+i));have hi:=h.slots i;have e:(Ol c cg s s1).sl i=O7 c cg s s1 i:=rfl;rw[e];unfold O7;split
  ·rename_i id g off jO;rw[jO]at hi;cases hb:dA s id g with
   |none=>trivial
   |some ls=>
    simp only[Option.isSome_some,cond_true];cases hq:Mu id g off cg 0 with
    |none=>exact held
    |some j=>
     simp only;cases hf:cP [j] c with
     |false=>trivial
     |true=>obtain⟨j',e1,e2⟩:=Nd cg 0 j hq;rw[Nat.zero_add]at e1;subst e1;obtain⟨u,hu,hr⟩:=hall.get j _ e2;obtain⟨f1,f2⟩:=cZ hb;obtain⟨b,g1,g2⟩:=hi.2 f1 ls f2;obtain⟨b',g3,g4⟩:=(show xR ω s u id g off from hr).2 f1 ls f2;have:=h.inj _ _ _ g1 g3;subst this;have hs:=h1.slots j;rw[hp j u hf hu,g4,<-g2]at hs;exact dh.bare rfl h1.dom hs
  ·exact held
 dB id cells hc:=by obtain⟨b,arr,T,q1,q2,q3⟩:=h1.dB id cells hc;exact⟨b,arr,T,q1,q2,q3.mono fun _ _ hl=>cA.frame (dr.refl _ _) (fun id=>Tr.mM h1.dom rfl) hl⟩
theorem PL{w':World}{aI:aJ}{s':S}:∀ {us:List Value} {cg:List cm},bj (dh H w' aI s') us cg->dh H w' aI s' (match us with| [u]=>u|us=>.tuple us.toArray) (TV.mL cg)
 | [],[],_=>⟨[],rfl,trivial⟩
 | [u],[t],h=>h.1
 |u::u'::us,t::t'::ts,h=>⟨u::u'::us,rfl,bj.Ge TV.comp |>.2 (h.mono fun _ _ hc=>zF hc)⟩
 | [],_::_,h=>h.elim
 |_::_,[],h=>h.elim
 | [_],_::_::_,h=>h.2.elim
 |_::_::_,[_],h=>h.2.elim
theorem Qo {Ξ:Inls} (hI:StepInl P E Ξ) (hE:cq P E) (EP:∀f F, Ψ f = some F -> eA P f.1 F) {pl:Nat -> Bool} {f:FuncId} {fn:Func} {c:Code} (h1:P.funcs[f]? = some fn) (h2:(fn.name == "runtime.NumGoroutine") = false) (h3:fn.body = some c)
  (hnt:fn.ntmps=E.nt) (hL:fp P E Λ (dl 0 c)):Mz P f fun R=>Nz E (aP R) (kZ Ψ R) (lkt Λ Ξ pl R) c fn.results.toList:=by
 intro E0 H R o args fG ω a w s k r Q ho hsz h hd hk;have pV:args.toList.length=fG.toList.length:=by simpa using hsz
 have hall:=w9 h E0 args.toList fG.toList pV;revert hk;generalize (List.map (fun p=>ev E0 s p.snd p.fst) (args.toList.zip fG.toList))=cg at hall;intro hk;have hrun:(execOp a.eval o).run P w=.ok (.enter f (args.toList.map a.eval).toArray) w:=by
  unfold execOp;have e1:a.eval (.func f)=.func (.func f) #[] #[]:=rfl;simp only[ho,resolve,e1,Deferred.ofValue];have hargs:#[]++args.map a.eval ++ #[]=(args.toList.map a.eval).toArray:=by apply Array.ext';simp
  simp only[Sem.run_bind,Sem.run_pure,Result.andThen_ok,invoke];rw[hargs];exact MuLone.run_callFunc_enter h1 h2 h3 _ w
 unfold Oper.wp;rw[hrun];simp only[Oper.upon];have hlen:=hall.length;simp only[Nz]at hk;cases hb:(Nat.ble cg.length E.nt&&Nat.ble E.nt KZ)with
 |false=>rw[hb]at hk;cases hk
 |true=>
 rw[hb]at hk;simp only[cond_true]at hk;rw[Bool.and_eq_true]at hb;have UM:=Nat.le_of_ble_eq_true hb.1;generalize B9:args.toList.map a.eval=us at hall hlen;refine calls_of_wp h1 h3 ?_;have Sd:(us.toArray++Array.replicate (fn.ntmps-us.toArray.size) undef).size=E.nt:=by simp;omega
 have oD:∀i u,us[i]? = some u->(us.toArray++Array.replicate (fn.ntmps-us.toArray.size) undef).getD i undef=u:=fun i u hu=>by have hi:i<us.length:=(List.getElem?_eq_some_iff.1 hu).1;rw[Array.getD_eq_getD_getElem?,Array.getElem?_append_left (by simpa using hi)];simp[hu]
 have hR:=PE h (a':={ tmps:=us.toArray++Array.replicate (fn.ntmps-us.toArray.size) undef,defers:=[] }) rfl hall oD;have hx:=jq hE (sI (E:=E) EP) hI (U:=fun j=>cP [j] c=true) c 0 ω _ w _ _ (fun j hj=>hj) hL Sd hR hk;refine wp_mono hx fun e a1 w' hp=>?_;obtain⟨ex,aI,s1,q1,q2,q3,q4,q5,q6⟩:=hp;dsimp only at q4;cases hdn:ex.done with
 |false=>rw[hdn]at q4;cases q4
 |true=>
 rw[hdn]at q4;simp only[cond_true]at q4;obtain⟨QB,t1,q7⟩:=aA q4;obtain⟨UC,u1,u2⟩:=Bj hE q2 fn.results.toList QB t1;obtain⟨v1,Rj,xw⟩:∃v,(results fn a1.tmps).run P w'=.ok v w'/\dh (fun i=>a.tmps.getD i undef) w' aI s1 v (TV.mL QB):=by
  have q:=wN (fn:=fn) u1;have z:=PL u2;revert q z;match UC with
  | []=>exact fun q z=>⟨_,q,z⟩
  | [_]=>exact fun q z=>⟨_,q,z⟩
  |_::_::_=>exact fun q z=>⟨_,q,z⟩
 have Rb:Rel H aI a w' (Ol c cg s s1):=O6 h hall q2 fun j u hf hu=>(q6 j hf).trans (oD j u hu);have hres:dh H w' aI (Ol c cg s s1) v1 (TV.mL QB).bare:=dh.bare (s:=s1) rfl q2.dom xw;have oc:a1.defers=[]/\∃v,(results fn a1.tmps).run P w'=.ok v w'/\Ends H ω a w o.dst k r (a.put o.dst v) w':=⟨q2.defers,_,Rj,dZ Rb q3 hd hres q7⟩
 cases ex with
 |normal=>
  cases e with
  |normal=>exact oc
  |_=>cases q1
 |ret=>
  cases e with
  |ret=>exact oc
  |_=>cases q1
 |exit _=>cases hdn
end
abbrev Xl:=List (FuncId×((R:Type)->Inl real (Option R)))
def ME:List (FuncId×((R:Type)->Inl real (Option R)))->Inls
 | [],_=>none
 |(f,t)::r,n=>bif Nat.beq f n then some t else ME r n
def MW(P:Program):List (FuncId×((R:Type)->Inl real (Option R)))->Prop
 | []=>True
 |p::r=>Mz P p.1 p.2/\MW P r
theorem M7{P:Program}:∀ {l},MW P l->∀f t,ME l f=some t->Mz P f t
 | [],_,_,_,h=>nomatch h
 |(g,u)::l,hl,f,t,h=>by
  simp only[ME]at h;cases hb:Nat.beq g f with
  |true=>rw[hb]at h;have h:=Option.some.inj h;subst h;have:=hl.1;rw[Nat.eq_of_beq_eq_true hb]at this;exact this
  |false=>rw[hb]at h;exact M7 hl.2 f t h
theorem Mv{P:Program}{E:Env}{l}(h:MW P l):StepInl P E (ME l):=fun H R o f t args fG ω a w s k r Q ho hf hsz hR hd hk=>M7 h f t hf E H R o args fG ω a w s k r Q ho hsz hR hd hk
noncomputable def OV(E:Env)(T:List (bV×ij))(m:List (Nat×eB))(pl:List Nat)(X:List (FuncId×((R:Type)->Inl real (Option R))))(fn:Func):(R:Type)->Inl real (Option R):=fun R=>Nz E (aP R) (kZ (uX T) R) (lkt (qc m) (ME X) (fun n=>pl.any (Nat.beq n)) R) (body fn) fn.results.toList
def Q0(fn:Func)(nt:Nat)(m:List (Nat × eB)):Bool:=!(fn.name == "runtime.NumGoroutine")&&(fn.body.isSome&&(Nat.beq fn.ntmps nt&&oh (dl 0 (body fn)) m))
theorem ik{P:Program}{E:Env}(hE:cq P E){T:List (bV×ij)}(hT:tT P T)(m:List (Nat×eB))(pl:List Nat){X}(hX:MW P X){f:FuncId}{fn:Func}(hm:DW P E 0 (body fn) m 0)(h1:P.funcs[f]? = some fn)(hc:Q0 fn E.nt m=true):Mz P f (OV E T m pl X fn):=by
 simp only[Q0,Bool.and_eq_true,Bool.not_eq_true']at hc;obtain⟨c1,c2,c3,c4⟩:=hc;have hb:fn.body=some (body fn):=by
  unfold body;cases h:fn.body with
  |none=>rw[h]at c2;cases c2
  |some c=>rfl
 exact Qo (Mv hX) hE (qb hT) h1 c1 hb (Nat.eq_of_beq_eq_true c3) (xD c4 hm)
theorem TF {P:Program} {E:Env} (hE:cq P E) {T:List (bV×ij)} (hT:tT P T) (m:List (Nat×eB)) {X} (hX:MW P X) {f:FuncId} {ks:List Nat} {fn:Func} {F:ij} (hm:DW P E 0 (body fn) m 0) (h1:P.funcs[f]? = some fn)
  (hc:D5 fn E.nt F.args.length m=true)
  (hfn:∀x,F.fn x=exec E (aP _) (kZ (uX T) _) (lkt (qc m) (ME X) noP _) 0 (body fn) (wc F.args (co _ x)) fun ex s=>bif ex.done then finish E (body fn) F.look F.args F.aT _ fn.results.toList s else none):tT P (((f,ks),F)::T):=by
 simp only[D5,Bool.and_eq_true,Bool.not_eq_true']at hc;obtain⟨c1,c2,c3,c4,c5⟩:=hc;have hb:fn.body=some (body fn):=by
  unfold body;cases h:fn.body with
  |none=>rw[h]at c2;cases c2
  |some c=>rfl
 exact⟨func_okI (Mv hX) hE (qb hT) h1 c1 hb (Nat.eq_of_beq_eq_true c3) (Nat.le_of_ble_eq_true c4) (xD c5 hm) hfn,hT⟩
end Go.R
set_option linter.unusedVariables false
namespace Go.Fn
open Go.R
noncomputable def I7(a:Unit)(b:Ke×Int×QG):Option (Ke×Int×QG⊕QV⊕Empty):=letI c:=b.2.2;cond (af .gtr c.2.2.1 0) ((bg b.1 b.2.1 c.1 3).bind fun d=>(Jz d.2.1 d.2.2.1 d.2.2.2.1 c.2.1 d.1).bind fun e=>some (.inl (e.2.1,e.2.2.1,e.2.2.2.1,e.1,aa .sub .i64 c.2.2.1 1,()))) (some (.inr (.inl (b.1,b.2.1,c.1,c.2.1,()))))
noncomputable def Ji k x:=iter (I7 k) big x
noncomputable def JQ(a:Unit)(b:RN):S7:=letI c:=b.2.2.2;cond (af .gtr c.2.2.1 0) ((lm b.1 b.2.1 b.2.2.1 (List.append (α:=Int) (List.append (α:=Int) (List.append (α:=Int) ([]:Ke) [(0:Int)]) [(1:Int)]) [(1:Int)])).bind fun d=>(Jz d.2.1 d.2.2.1 d.2.2.2.1 c.1 d.1).bind fun e=>some (.inl (e.2.1,e.2.2.1,e.2.2.2.1,e.1,c.2.1,aa .sub .i64 c.2.2.1 1,()))) (some (.inr (.inl (b.1,b.2.1,b.2.2.1,c.1,c.2.1,()))))
noncomputable def B1 k x:=iter (JQ k) big x
noncomputable def JR(a:Unit)(b:RN):S7:=letI c:=b.2.2.2;cond (af .gtr c.2.2.1 0) ((lm b.1 b.2.1 b.2.2.1 (List.append (α:=Int) (List.append (α:=Int) (List.append (α:=Int) ([]:Ke) [(2:Int)]) [(3:Int)]) [(5:Int)])).bind fun d=>(Jz d.2.1 d.2.2.1 d.2.2.2.1 c.2.1 d.1).bind fun e=>some (.inl (e.2.1,e.2.2.1,e.2.2.2.1,c.1,e.1,aa .sub .i64 c.2.2.1 1,()))) (some (.inr (.inl (b.1,b.2.1,b.2.2.1,c.1,c.2.1,()))))
noncomputable def ga k x:=iter (JR k) big x
noncomputable def KT(a:Ke)(b c:Int):RT:=(bg a b c 6).bind fun d=>letI e:=([]:Kq);(Ji () (d.2.1,d.2.2.1,d.2.2.2.1,e,d.1,())).bind fun f=>Sum.elim (fun g=>(bg g.1 g.2.1 g.2.2.1 6).bind fun h=>letI i:=(1:Int);letI j:=(0:Int);letI k:=(3:Int);letI l:=(5:Int);letI m:=(40:Int);letI n:=(4:Int);letI o:=g.2.2.2.1;cond (af .gtr h.1 j) ((lm h.2.1 h.2.2.1 h.2.2.2.1 (List.append (α:=Int) (List.append (α:=Int) (List.append (α:=Int) ([]:Ke) [j]) [i]) [i])).bind fun p=>(bg p.2.1 p.2.2.1 p.2.2.2.1 n).bind fun q=>(bg q.2.1 q.2.2.1 q.2.2.2.1 n).bind fun r=>letI s:=aa .add .i64 i q.1;letI t:=aa .sub .i64 h.1 i;letI u:=bg r.2.1 r.2.2.1 r.2.2.2.1 k;cond (af .eql s 2) (u.bind fun v=>(bg v.2.1 v.2.2.1 v.2.2.2.1 m).bind fun w=>(vw o p.1 s (aa .add .i64 i v.1) j w.1).bind fun x=>(B1 () (w.2.1,w.2.2.1,w.2.2.2.1,x.1,o,t,())).bind fun y=>Sum.elim (fun z=>(bg z.1 z.2.1 z.2.2.1 6).bind fun A=>letI B:=A.2.2;letI C:=z.2.2.2;cond (af .gtr A.1 j) ((lm A.2.1 B.1 B.2.1 (List.append (α:=Int) (List.append (α:=Int) (List.append (α:=Int) ([]:Ke) [(2:Int)]) [k]) [l])).bind fun D=>(bg D.2.1 D.2.2.1 D.2.2.2.1 n).bind fun E=>(bg E.2.1 E.2.2.1 E.2.2.2.1 n).bind fun F=>letI G:=aa .add .i64 i E.1;letI H:=aa .sub .i64 A.1 i;letI I:=bg F.2.1 F.2.2.1 F.2.2.2.1 k;cond (af .eql G 2) (I.bind fun J=>(bg J.2.1 J.2.2.1 J.2.2.2.1 m).bind fun K=>(vw C.2.1 D.1 G (aa .add .i64 i J.1) j K.1).bind fun L=>(ga () (K.2.1,K.2.2.1,K.2.2.2.1,C.1,L.1,H,())).bind fun M=>Sum.elim (fun N=>letI O:=N.2.2;(qB O.2.1 O.2.2.1).bind fun P=>cond (Bool.not P.2.1) (some (O.2.1,N.1,N.2.1,O.1,())) ((kW N.1 N.2.1 O.1 k).bind fun Q=>letI R:=P.1;letI S:=Q.2.2;letI T:=ai R;cond Q.1 (some (O.2.1,Q.2.1,S.1,S.2.1,())) (cond (af .gtr T j) ((kW Q.2.1 S.1 S.2.1 l).bind fun U=>cond U.1 ((bg U.2.1 U.2.2.1 U.2.2.2.1 T).bind fun V=>letI W:=aa .add .i64 V.1 i;letI X:=eR R j V.1;cond (cS R j V.1) (cond (aE (List.append (α:=IW) e X)) (cond (cS R W T) (cond (aE (List.append (α:=IW) (List.append (α:=IW) e X) (eR R W T))) (some (List.append (α:=IW) (List.append (α:=IW) e X) (eR R W T),V.2.1,V.2.2.1,V.2.2.2.1,())) none) none) none) none) (some (R,U.2.1,U.2.2.1,U.2.2.2.1,()))) (some (R,Q.2.1,S.1,S.2.1,()))))) (fun N=>Empty.elim N) M) (I.bind fun J=>(bg J.2.1 J.2.2.1 J.2.2.2.1 m).bind fun K=>(vw C.2.1 D.1 G (aa .add .i64 i J.1) F.1 K.1).bind fun L=>(ga () (K.2.1,K.2.2.1,K.2.2.2.1,C.1,L.1,H,())).bind fun M=>Sum.elim (fun N=>letI O:=N.2.2;(qB O.2.1 O.2.2.1).bind fun P=>cond (Bool.not P.2.1) (some (O.2.1,N.1,N.2.1,O.1,())) ((kW N.1 N.2.1 O.1 k).bind fun Q=>letI R:=P.1;letI S:=Q.2.2;letI T:=ai R;cond Q.1 (some (O.2.1,Q.2.1,S.1,S.2.1,())) (cond (af .gtr T j) ((kW Q.2.1 S.1 S.2.1 l).bind fun U=>cond U.1 ((bg U.2.1 U.2.2.1 U.2.2.2.1 T).bind fun V=>letI W:=aa .add .i64 V.1 i;letI X:=eR R j V.1;cond (cS R j V.1) (cond (aE (List.append (α:=IW) e X)) (cond (cS R W T) (cond (aE (List.append (α:=IW) (List.append (α:=IW) e X) (eR R W T))) (some (List.append (α:=IW) (List.append (α:=IW) e X) (eR R W T),V.2.1,V.2.2.1,V.2.2.2.1,())) none) none) none) none) (some (R,U.2.1,U.2.2.1,U.2.2.2.1,()))) (some (R,Q.2.1,S.1,S.2.1,()))))) (fun N=>Empty.elim N) M)) ((qB C.1 C.2.1).bind fun D=>cond (Bool.not D.2.1) (some (C.1,A.2.1,B.1,B.2.1,())) ((kW A.2.1 B.1 B.2.1 k).bind fun E=>letI F:=D.1;letI G:=E.2.2;letI H:=ai F;cond E.1 (some (C.1,E.2.1,G.1,G.2.1,())) (cond (af .gtr H j) ((kW E.2.1 G.1 G.2.1 l).bind fun I=>cond I.1 ((bg I.2.1 I.2.2.1 I.2.2.2.1 H).bind fun J=>letI K:=aa .add .i64 J.1 i;letI L:=eR F j J.1;cond (cS F j J.1) (cond (aE (List.append (α:=IW) e L)) (cond (cS F K H) (cond (aE (List.append (α:=IW) (List.append (α:=IW) e L) (eR F K H))) (some (List.append (α:=IW) (List.append (α:=IW) e L) (eR F K H),J.2.1,J.2.2.1,J.2.2.2.1,())) none) none) none) none) (some (F,I.2.1,I.2.2.1,I.2.2.2.1,()))) (some (F,E.2.1,G.1,G.2.1,())))))) (fun z=>Empty.elim z) y) (u.bind fun v=>(bg v.2.1 v.2.2.1 v.2.2.2.1 m).bind fun w=>(vw o p.1 s (aa .add .i64 i v.1) r.1 w.1).bind fun x=>(B1 () (w.2.1,w.2.2.1,w.2.2.2.1,x.1,o,t,())).bind fun y=>Sum.elim (fun z=>(bg z.1 z.2.1 z.2.2.1 6).bind fun A=>letI B:=A.2.2;letI C:=z.2.2.2;cond (af .gtr A.1 j) ((lm A.2.1 B.1 B.2.1 (List.append (α:=Int) (List.append (α:=Int) (List.append (α:=Int) ([]:Ke) [(2:Int)]) [k]) [l])).bind fun D=>(bg D.2.1 D.2.2.1 D.2.2.2.1 n).bind fun E=>(bg E.2.1 E.2.2.1 E.2.2.2.1 n).bind fun F=>letI G:=aa .add .i64 i E.1;letI H:=aa .sub .i64 A.1 i;letI I:=bg F.2.1 F.2.2.1 F.2.2.2.1 k;cond (af .eql G 2) (I.bind fun J=>(bg J.2.1 J.2.2.1 J.2.2.2.1 m).bind fun K=>(vw C.2.1 D.1 G (aa .add .i64 i J.1) j K.1).bind fun L=>(ga () (K.2.1,K.2.2.1,K.2.2.2.1,C.1,L.1,H,())).bind fun M=>Sum.elim (fun N=>letI O:=N.2.2;(qB O.2.1 O.2.2.1).bind fun P=>cond (Bool.not P.2.1) (some (O.2.1,N.1,N.2.1,O.1,())) ((kW N.1 N.2.1 O.1 k).bind fun Q=>letI R:=P.1;letI S:=Q.2.2;letI T:=ai R;cond Q.1 (some (O.2.1,Q.2.1,S.1,S.2.1,())) (cond (af .gtr T j) ((kW Q.2.1 S.1 S.2.1 l).bind fun U=>cond U.1 ((bg U.2.1 U.2.2.1 U.2.2.2.1 T).bind fun V=>letI W:=aa .add .i64 V.1 i;letI X:=eR R j V.1;cond (cS R j V.1) (cond (aE (List.append (α:=IW) e X)) (cond (cS R W T) (cond (aE (List.append (α:=IW) (List.append (α:=IW) e X) (eR R W T))) (some (List.append (α:=IW) (List.append (α:=IW) e X) (eR R W T),V.2.1,V.2.2.1,V.2.2.2.1,())) none) none) none) none) (some (R,U.2.1,U.2.2.1,U.2.2.2.1,()))) (some (R,Q.2.1,S.1,S.2.1,()))))) (fun N=>Empty.elim N) M) (I.bind fun J=>(bg J.2.1 J.2.2.1 J.2.2.2.1 m).bind fun K=>(vw C.2.1 D.1 G (aa .add .i64 i J.1) F.1 K.1).bind fun L=>(ga () (K.2.1,K.2.2.1,K.2.2.2.1,C.1,L.1,H,())).bind fun M=>Sum.elim (fun N=>letI O:=N.2.2;(qB O.2.1 O.2.2.1).bind fun P=>cond (Bool.not P.2.1) (some (O.2.1,N.1,N.2.1,O.1,())) ((kW N.1 N.2.1 O.1 k).bind fun Q=>letI R:=P.1;letI S:=Q.2.2;letI T:=ai R;cond Q.1 (some (O.2.1,Q.2.1,S.1,S.2.1,())) (cond (af .gtr T j) ((kW Q.2.1 S.1 S.2.1 l).bind fun U=>cond U.1 ((bg U.2.1 U.2.2.1 U.2.2.2.1 T).bind fun V=>letI W:=aa .add .i64 V.1 i;letI X:=eR R j V.1;cond (cS R j V.1) (cond (aE (List.append (α:=IW) e X)) (cond (cS R W T) (cond (aE (List.append (α:=IW) (List.append (α:=IW) e X) (eR R W T))) (some (List.append (α:=IW) (List.append (α:=IW) e X) (eR R W T),V.2.1,V.2.2.1,V.2.2.2.1,())) none) none) none) none) (some (R,U.2.1,U.2.2.1,U.2.2.2.1,()))) (some (R,Q.2.1,S.1,S.2.1,()))))) (fun N=>Empty.elim N) M)) ((qB C.1 C.2.1).bind fun D=>cond (Bool.not D.2.1) (some (C.1,A.2.1,B.1,B.2.1,())) ((kW A.2.1 B.1 B.2.1 k).bind fun E=>letI F:=D.1;letI G:=E.2.2;letI H:=ai F;cond E.1 (some (C.1,E.2.1,G.1,G.2.1,())) (cond (af .gtr H j) ((kW E.2.1 G.1 G.2.1 l).bind fun I=>cond I.1 ((bg I.2.1 I.2.2.1 I.2.2.2.1 H).bind fun J=>letI K:=aa .add .i64 J.1 i;letI L:=eR F j J.1;cond (cS F j J.1) (cond (aE (List.append (α:=IW) e L)) (cond (cS F K H) (cond (aE (List.append (α:=IW) (List.append (α:=IW) e L) (eR F K H))) (some (List.append (α:=IW) (List.append (α:=IW) e L) (eR F K H),J.2.1,J.2.2.1,J.2.2.2.1,())) none) none) none) none) (some (F,I.2.1,I.2.2.1,I.2.2.2.1,()))) (some (F,E.2.1,G.1,G.2.1,())))))) (fun z=>Empty.elim z) y)) ((bg h.2.1 h.2.2.1 h.2.2.2.1 6).bind fun p=>letI q:=p.2.2;cond (af .gtr p.1 j) ((lm p.2.1 q.1 q.2.1 (List.append (α:=Int) (List.append (α:=Int) (List.append (α:=Int) ([]:Ke) [(2:Int)]) [k]) [l])).bind fun r=>(bg r.2.1 r.2.2.1 r.2.2.2.1 n).bind fun s=>(bg s.2.1 s.2.2.1 s.2.2.2.1 n).bind fun t=>letI u:=aa .add .i64 i s.1;letI v:=aa .sub .i64 p.1 i;letI w:=bg t.2.1 t.2.2.1 t.2.2.2.1 k;cond (af .eql u 2) (w.bind fun x=>(bg x.2.1 x.2.2.1 x.2.2.2.1 m).bind fun y=>(vw o r.1 u (aa .add .i64 i x.1) j y.1).bind fun z=>(ga () (y.2.1,y.2.2.1,y.2.2.2.1,o,z.1,v,())).bind fun A=>Sum.elim (fun B=>letI C:=B.2.2;(qB C.2.1 C.2.2.1).bind fun D=>cond (Bool.not D.2.1) (some (C.2.1,B.1,B.2.1,C.1,())) ((kW B.1 B.2.1 C.1 k).bind fun E=>letI F:=D.1;letI G:=E.2.2;letI H:=ai F;cond E.1 (some (C.2.1,E.2.1,G.1,G.2.1,())) (cond (af .gtr H j) ((kW E.2.1 G.1 G.2.1 l).bind fun I=>cond I.1 ((bg I.2.1 I.2.2.1 I.2.2.2.1 H).bind fun J=>letI K:=aa .add .i64 J.1 i;letI L:=eR F j J.1;cond (cS F j J.1) (cond (aE (List.append (α:=IW) e L)) (cond (cS F K H) (cond (aE (List.append (α:=IW) (List.append (α:=IW) e L) (eR F K H))) (some (List.append (α:=IW) (List.append (α:=IW) e L) (eR F K H),J.2.1,J.2.2.1,J.2.2.2.1,())) none) none) none) none) (some (F,I.2.1,I.2.2.1,I.2.2.2.1,()))) (some (F,E.2.1,G.1,G.2.1,()))))) (fun B=>Empty.elim B) A) (w.bind fun x=>(bg x.2.1 x.2.2.1 x.2.2.2.1 m).bind fun y=>(vw o r.1 u (aa .add .i64 i x.1) t.1 y.1).bind fun z=>(ga () (y.2.1,y.2.2.1,y.2.2.2.1,o,z.1,v,())).bind fun A=>Sum.elim (fun B=>letI C:=B.2.2;(qB C.2.1 C.2.2.1).bind fun D=>cond (Bool.not D.2.1) (some (C.2.1,B.1,B.2.1,C.1,())) ((kW B.1 B.2.1 C.1 k).bind fun E=>letI F:=D.1;letI G:=E.2.2;letI H:=ai F;cond E.1 (some (C.2.1,E.2.1,G.1,G.2.1,())) (cond (af .gtr H j) ((kW E.2.1 G.1 G.2.1 l).bind fun I=>cond I.1 ((bg I.2.1 I.2.2.1 I.2.2.2.1 H).bind fun J=>letI K:=aa .add .i64 J.1 i;letI L:=eR F j J.1;cond (cS F j J.1) (cond (aE (List.append (α:=IW) e L)) (cond (cS F K H) (cond (aE (List.append (α:=IW) (List.append (α:=IW) e L) (eR F K H))) (some (List.append (α:=IW) (List.append (α:=IW) e L) (eR F K H),J.2.1,J.2.2.1,J.2.2.2.1,())) none) none) none) none) (some (F,I.2.1,I.2.2.1,I.2.2.2.1,()))) (some (F,E.2.1,G.1,G.2.1,()))))) (fun B=>Empty.elim B) A)) ((qB o o).bind fun r=>cond (Bool.not r.2.1) (some (o,p.2.1,q.1,q.2.1,())) ((kW p.2.1 q.1 q.2.1 k).bind fun s=>letI t:=r.1;letI u:=s.2.2;letI v:=ai t;cond s.1 (some (o,s.2.1,u.1,u.2.1,())) (cond (af .gtr v j) ((kW s.2.1 u.1 u.2.1 l).bind fun w=>cond w.1 ((bg w.2.1 w.2.2.1 w.2.2.2.1 v).bind fun x=>letI y:=aa .add .i64 x.1 i;letI z:=eR t j x.1;cond (cS t j x.1) (cond (aE (List.append (α:=IW) e z)) (cond (cS t y v) (cond (aE (List.append (α:=IW) (List.append (α:=IW) e z) (eR t y v))) (some (List.append (α:=IW) (List.append (α:=IW) e z) (eR t y v),x.2.1,x.2.2.1,x.2.2.2.1,())) none) none) none) none) (some (t,w.2.1,w.2.2.1,w.2.2.2.1,()))) (some (t,s.2.1,u.1,u.2.1,()))))))) (fun g=>Empty.elim g) f
noncomputable def IJ(a:Unit)(b:QV):Option (QV⊕QV⊕QV⊕Empty):=(bg b.1 b.2.1 b.2.2.1 3).bind fun c=>letI d:=b.2.2.2.1;cond (af .lss (ai d) (aa .add .i64 59 c.1)) ((Jz c.2.1 c.2.2.1 c.2.2.2.1 d 4).bind fun e=>(I6 e.1).bind fun f=>letI g:=(e.2.1,e.2.2.1,e.2.2.2.1,e.1,());cond (Bool.not f.1) (some (.inr (.inl g))) (some (.inl g))) (some (.inr (.inr (.inl (c.2.1,c.2.2.1,c.2.2.2.1,d,())))))
noncomputable def Kp k x:=iter (IJ k) big x
noncomputable def K9(a:Ke)(b c:Int):RT:=(KT a b c).bind fun d=>letI e:=d.1;cond (af .eql (ai e) 0) (some (e,d.2.1,d.2.2.1,d.2.2.2.1,())) ((bg d.2.1 d.2.2.1 d.2.2.2.1 (ai e)).bind fun f=>(bg f.2.1 f.2.2.1 f.2.2.2.1 16).bind fun g=>letI h:=g.2.2;letI i:=g.2.1;letI j:=h.2.1;letI k:=ah e f.1;letI l:=ae br e f.1;letI m:=l.2.2;letI n:=m.2.2;letI o:=n.2;cond (af .eql g.1 0) ((lm i h.1 j (List.append (α:=Int) (List.append (α:=Int) (List.append (α:=Int) (List.append (α:=Int) ([]:Ke) [(-1:Int)]) [(0:Int)]) [(5:Int)]) [(6:Int)])).bind fun p=>cond k (lets (aC e f.1 (p.1,l.2.1,m.1,m.2.1,n.1,o.1,o.2)) fun q=>some (q,p.2.1,p.2.2.1,p.2.2.2.1,())) none) (cond (af .eql g.1 1) ((lm i h.1 j (List.append (α:=Int) (List.append (α:=Int) (List.append (α:=Int) (List.append (α:=Int) ([]:Ke) [(0:Int)]) [(1:Int)]) [(999:Int)]) [(1000:Int)])).bind fun p=>cond k (lets (aC e f.1 (l.1,p.1,m.1,m.2.1,n.1,o.1,o.2)) fun q=>some (q,p.2.1,p.2.2.1,p.2.2.2.1,())) none) (cond (af .eql g.1 2) ((lm i h.1 j (List.append (α:=Int) (List.append (α:=Int) (List.append (α:=Int) (List.append (α:=Int) ([]:Ke) [(0:Int)]) [(1:Int)]) [(100000:Int)]) [(100001:Int)])).bind fun p=>cond k (lets (aC e f.1 (l.1,l.2.1,p.1,m.2.1,n.1,o.1,o.2)) fun q=>some (q,p.2.1,p.2.2.1,p.2.2.2.1,())) none) (cond (af .eql g.1 3) ((lm i h.1 j (List.append (α:=Int) (List.append (α:=Int) (List.append (α:=Int) (List.append (α:=Int) ([]:Ke) [(0:Int)]) [(1:Int)]) [(4:Int)]) [(5:Int)])).bind fun p=>cond k (lets (aC e f.1 (l.1,l.2.1,m.1,p.1,n.1,o.1,o.2)) fun q=>some (q,p.2.1,p.2.2.1,p.2.2.2.1,())) none) (cond (af .eql g.1 4) ((Kp () (i,h.1,j,e,())).bind fun p=>Sum.elim (fun q=>some (q.2.2.2.1,q.1,q.2.1,q.2.2.1,())) (fun q=>Sum.elim (fun r=>some (r.2.2.2.1,r.1,r.2.1,r.2.2.1,())) (fun r=>Empty.elim r) q) p) (some (e,i,h.1,j,())))))))
noncomputable def KE(a:Kq×QT)(b:Nq):QU:=letI c:=a.2.2.2.2;letI d:=ae br a.1 b.1;letI e:=d.2.2.2;cond (af .lss b.1 (ai a.1)) (cond (ah a.1 b.1) (lets (Bool.and (af .eql d.1 a.2.1) (Bool.and (af .eql d.2.1 a.2.2.1) (Bool.and (af .eql d.2.2.1 a.2.2.2.1) (Bool.and (af .eql e.1 c.1) (Bool.and (af .eql e.2.1 c.2.1) (Bool.and (af .eql e.2.2.1 c.2.2.1) (Bool.and (af .eql e.2.2.2 c.2.2.2.1) true))))))) fun f=>cond f (some (.inr (.inl (true,())))) (some (.inl (aa .add .i64 b.1 1,())))) none) (some (.inr (.inr (.inl ()))))
noncomputable def Lc k x:=iter (KE k) big x
noncomputable def laws_holds(a:Kq)(b c d e f g h:Int):NP:=(Lc (a,b,c,d,e,f,g,h,()) (0,())).bind fun i=>Sum.elim (fun j=>some (j.1,())) (fun j=>Sum.elim (fun _=>some (false,())) (fun k=>Empty.elim k) j) i
end Go.Fn
set_option linter.unusedVariables false
namespace Go.Fn
open Go.R
noncomputable def JX(a:Ke):Option (Kq×Int×Int×Int×Pt):=(K8 a).bind fun b=>(K9 b.1 b.2.1 b.2.2.1).bind fun c=>(bg c.2.1 c.2.2.1 c.2.2.2.1 8).bind fun d=>(bg d.2.1 d.2.2.1 d.2.2.2.1 6).bind fun e=>(lm e.2.1 e.2.2.1 e.2.2.2.1 (List.append (α:=Int) (List.append (α:=Int) (List.append (α:=Int) (List.append (α:=Int) (List.append (α:=Int) (List.append (α:=Int) ([]:Ke) [(1:Int)]) [(2:Int)]) [(3:Int)]) [(999:Int)]) [(1000:Int)]) [(0:Int)])).bind fun f=>(lm f.2.1 f.2.2.1 f.2.2.2.1 (List.append (α:=Int) (List.append (α:=Int) (List.append (α:=Int) (List.append (α:=Int) (List.append (α:=Int) (List.append (α:=Int) ([]:Ke) [(0:Int)]) [(1:Int)]) [(5:Int)]) [(20000:Int)]) [(20001:Int)]) [(-1:Int)])).bind fun g=>(bg g.2.1 g.2.2.1 g.2.2.2.1 30).bind fun h=>some (c.1,aa .sub .i64 d.1 1,e.1,f.1,g.1,h.1,())
noncomputable def J5(a:Pt)(b:S8):Option (S8⊕QF⊕Kq×Kq×QT⊕Empty):=letI c:=b.2.2.2;letI d:=b.2.2.1;letI e:=c.2.2.2;letI f:=e.2.2.2;letI g:=f.2.2.1;letI h:=ae zI c.1 g;letI i:=ae br b.1 h;letI j:=ae br b.2.1 (ae zI d g);letI k:=i.2.2;letI l:=j.2.2.2;cond (af .lss g (ai c.1)) (cond (ah d g) (cond (ah b.2.1 (ae zI d g)) (cond (ah c.1 g) (cond (ah b.1 h) (lets (Bool.not (Bool.and (af .eql j.1 i.1) (Bool.and (af .eql j.2.1 i.2.1) (Bool.and (af .eql j.2.2.1 k.1) (Bool.and (af .eql l.1 k.2.1) (Bool.and (af .eql l.2.1 k.2.2.1) (Bool.and (af .eql l.2.2.1 k.2.2.2.1) (Bool.and (af .eql l.2.2.2 k.2.2.2.2) true)))))))) fun m=>cond m (some (.inr (.inl (false,())))) (cond (ah c.1 g) (cond (ah b.1 h) (cond (af .geq k.1 e.1) (some (.inr (.inl (false,())))) (some (.inl (b.1,b.2.1,d,c.1,c.2.1,c.2.2.1,e.1,e.2.1,e.2.2.1,f.1,f.2.1,aa .add .i64 g 1,())))) none) none)) none) none) none) none) (some (.inr (.inr (.inl (b.1,b.2.1,c.2.1,c.2.2.1,e.1,e.2.1,e.2.2.1,f.1,f.2.1,())))))
noncomputable def Kt k x:=iter (J5 k) big x
noncomputable def Lb(a:Ke):NP:=(Mr a).bind fun b=>cond b.1 (some (true,())) ((JX a).bind fun c=>letI d:=c.2.2.2;(KD c.1 c.2.1 c.2.2.1 d.1 d.2.1 d.2.2.1).bind fun e=>(vw c.1 c.2.1 c.2.2.1 d.1 d.2.1 d.2.2.1).bind fun f=>letI g:=some (false,());cond (Bool.not (bT e.2.1 f.2.1)) g ((JO e.1 f.1).bind fun h=>cond (Bool.not h.1) g (cond (Bool.not f.2.1) ((JO e.1 c.1).bind fun i=>some (i.1,())) ((J4 f.1).bind fun i=>(JL c.1).bind fun j=>(JL f.1).bind fun k=>(KF i.1 k.1).bind fun l=>letI m:=aa .sub .i64 (ai i.1) 1;letI n:=ae br f.1 (ae zI i.1 m);letI o:=n.2.2.2;cond (Bool.not l.1) g (cond (af .neq (ai i.1) (aa .add .i64 (ai j.1) 1)) g (cond (ah i.1 m) (cond (ah f.1 (ae zI i.1 m)) ((Kt (c.2.1,d.1,()) (c.1,f.1,i.1,j.1,n.1,n.2.1,n.2.2.1,o.1,o.2.1,o.2.2.1,o.2.2.2,0,())).bind fun p=>Sum.elim (fun q=>some (q.1,())) (fun q=>Sum.elim (fun r=>(Jn r.2.1).bind fun s=>letI t:=r.2.2;letI u:=t.2.2.2;letI v:=u.2.2;cond s.1 (cond (af .eql t.1 c.2.1) (cond (af .eql u.2.1 d.1) ((laws_holds r.1 t.1 t.2.1 t.2.2.1 u.1 u.2.1 v.1 v.2.1).bind fun w=>letI x:=JI t.1 t.2.1 t.2.2.1 u.1 u.2.1 v.1 v.2.1;cond (Bool.not w.1) (x.bind fun y=>(JJ t.1 t.2.1 t.2.2.1 u.1 u.2.1 v.1 v.2.1).bind fun z=>cond (sA .eql y.1 z.1) (x.bind fun A=>some (sA .neq A.1 (ByteArray.mk #[]),())) g) g) g) g) g) (fun r=>Empty.elim r) q) p) none) none))))))
end Go.Fn
set_option linter.unusedSimpArgs false
set_option linter.unusedVariables false
namespace Go.Fn
open Go.R Go.Sort
abbrev LJ(n:Nat)(l:List Ev):Prop:=LX n [] (fun k=>k≠4) l
section
variable {β:Type}
noncomputable def Pu(b:List Int)(i h:Int)(l:List Ev)(node:Int)(k:List Int->Int->Int->List Ev->Option β):Option β:=
 (bg b i h (4:Int)).bind fun y0=>(bg y0.2.1 y0.2.2.1 y0.2.2.2.1 (4:Int)).bind fun y1=>bif (af .eql (aa .add .i64 (1:Int) y0.1) (2:Int))then
  ((bg y1.2.1 y1.2.2.1 y1.2.2.2.1 (3:Int)).bind fun y2=>(bg y2.2.1 y2.2.2.1 y2.2.2.2.1 (40:Int)).bind fun y3=>(vw l node (aa .add .i64 (1:Int) y0.1) (aa .add .i64 (1:Int) y2.1) (0:Int) y3.1).bind fun y4=>k y3.2.1 y3.2.2.1 y3.2.2.2.1 y4.1)
 else((bg y1.2.1 y1.2.2.1 y1.2.2.2.1 (3:Int)).bind fun y2=>(bg y2.2.1 y2.2.2.1 y2.2.2.2.1 (40:Int)).bind fun y3=>(vw l node (aa .add .i64 (1:Int) y0.1) (aa .add .i64 (1:Int) y2.1) y1.1 y3.1).bind fun y4=>k y3.2.1 y3.2.2.1 y3.2.2.2.1 y4.1)
theorem NQ (b:List Int) (hb:b.length<=1048576) (i h:Int) (hi:0<=i) {n:Nat} (hn:n<=1000) {l:List Ev} (hl:LJ n l) {node:Int} (hS:node≠4) {k:List Int->Int->Int->List Ev->Option β} {P:β->Prop}
  (hk:∀i h x,0<=i->LJ (n+1) x->Yl (k b i h x) P):Yl (Pu b i h l node k) P:=by
 have PZ:l.length<=1073741824:=by have:=hl.len;omega
 unfold Pu;refine(IM b hb i h 4 hi (by omega)).bind fun y0 ⟨_,_,a3,a4⟩=>?_;rw[a3];refine(IM b hb _ _ 4 a4 (by omega)).bind fun y1 ⟨_,_,b3,b4⟩=>?_;rw[b3];refine .cond (fun _=>?_) fun _=>?_
 ·refine(IM b hb _ _ 3 b4 (by omega)).bind fun y2 ⟨_,_,c3,c4⟩=>?_;rw[c3];refine(IM b hb _ _ 40 c4 (by omega)).bind fun y3 ⟨_,_,d3,d4⟩=>?_;rw[KA l _ _ _ _ _ PZ,d3];exact hk _ _ _ d4 (hl.add hS _ _ _ _)
 ·refine(IM b hb _ _ 3 b4 (by omega)).bind fun y2 ⟨_,_,c3,c4⟩=>?_;rw[c3];refine(IM b hb _ _ 40 c4 (by omega)).bind fun y3 ⟨_,_,d3,d4⟩=>?_;rw[KA l _ _ _ _ _ PZ,d3];exact hk _ _ _ d4 (hl.add hS _ _ _ _)
end
abbrev Pq:=List Ev×List Int×Int×Int×Unit
noncomputable def NW(b:List Int)(i h:Int)(a bl:List Ev):Option Pq:=
 (qB a bl).bind fun y13=>bif (Bool.not y13.2.1)then some (a,b,i,h,())else((kW b i h (3:Int)).bind fun y14=>bif y14.1 then some (a,y14.2.1,y14.2.2.1,y14.2.2.2.1,())else(bif (af .gtr (ai y13.1) (0:Int))then
  ((kW y14.2.1 y14.2.2.1 y14.2.2.2.1 (5:Int)).bind fun y15=>bif y15.1 then((bg y15.2.1 y15.2.2.1 y15.2.2.2.1 (ai y13.1)).bind fun y16=>bif (cS y13.1 (0:Int) y16.1)then(bif (aE (List.append (α:=Ev) ([]:List Ev) (eR y13.1 (0:Int) y16.1)))then(bif (cS y13.1 (aa .add .i64 y16.1 (1:Int)) (ai y13.1))then
   (bif (aE (List.append (α:=Ev) (List.append (α:=Ev) ([]:List Ev) (eR y13.1 (0:Int) y16.1)) (eR y13.1 (aa .add .i64 y16.1 (1:Int)) (ai y13.1))))then some ((List.append (α:=Ev) (List.append (α:=Ev) ([]:List Ev) (eR y13.1 (0:Int) y16.1)) (eR y13.1 (aa .add .i64 y16.1 (1:Int)) (ai y13.1))),y16.2.1,y16.2.2.1,y16.2.2.2.1,())else none)else none)else none)else none)
   else some (y13.1,y15.2.1,y15.2.2.1,y15.2.2.2.1,()))else some (y13.1,y14.2.1,y14.2.2.1,y14.2.2.2.1,())))
noncomputable def NV(b:List Int)(i h:Int)(a bl:List Ev):Option Pq:=
 (bg b i h (6:Int)).bind fun y12=>bif (af .gtr y12.1 (0:Int))then((lm y12.2.1 y12.2.2.1 y12.2.2.2.1 (List.append (α:=Int) (List.append (α:=Int) (List.append (α:=Int) ([]:List (Int)) [(2:Int)]) [(3:Int)]) [(5:Int)])).bind fun y13=>
  Pu y13.2.1 y13.2.2.1 y13.2.2.2.1 bl y13.1 fun b i h x=>(ga (()) (b,i,h,a,x,(aa .sub .i64 y12.1 (1:Int)),())).bind fun q=>Sum.elim (fun y=>NW y.1 y.2.1 y.2.2.1 y.2.2.2.1 y.2.2.2.2.1) (fun q=>Empty.elim q) q)
  else NW y12.2.1 y12.2.2.1 y12.2.2.2.1 a bl
noncomputable def O8(b:List Int)(i h:Int)(a:List Ev):Option Pq:=
 (bg b i h (6:Int)).bind fun y3=>bif (af .gtr y3.1 (0:Int))then((lm y3.2.1 y3.2.2.1 y3.2.2.2.1 (List.append (α:=Int) (List.append (α:=Int) (List.append (α:=Int) ([]:List (Int)) [(0:Int)]) [(1:Int)]) [(1:Int)])).bind fun y4=>
  Pu y4.2.1 y4.2.2.1 y4.2.2.2.1 a y4.1 fun b i h x=>(B1 (()) (b,i,h,x,a,(aa .sub .i64 y3.1 (1:Int)),())).bind fun q=>Sum.elim (fun y=>NV y.1 y.2.1 y.2.2.1 y.2.2.2.1 y.2.2.2.2.1) (fun q=>Empty.elim q) q)
  else NV y3.2.1 y3.2.2.1 y3.2.2.2.1 a a
theorem ND(b:List Int)(i h:Int):KT b i h=(bg b i h (6:Int)).bind fun y0=>(Ji (()) (y0.2.1,y0.2.2.1,y0.2.2.2.1,([]:List Ev),y0.1,())).bind fun q1=>Sum.elim (fun y2=>O8 y2.1 y2.2.1 y2.2.2.1 y2.2.2.2.1) (fun q=>Empty.elim q) q1:=rfl
noncomputable def Pp(b:List Int)(y:Pq):Prop:=(JZ y.1=true/\(∀x,x∈y.1->x.2.2.1<=16/\x.1≠4))/\y.2.1=b/\0<=y.2.2.1
theorem LJ.out{n:Nat}(hn:n<=16){l:List Ev}(h:LJ n l):JZ l=true/\∀x,x∈l->x.2.2.1<=16/\x.1≠4:=⟨h.j,fun x hx=>⟨by have:=h.st x hx;omega,(h.new x hx).resolve_left List.not_mem_nil⟩⟩
theorem PS{l:List Ev}{x:Ev}{a b:Nat}(h:x∈(l.take a++l.drop b)):x∈l:=by
 rcases List.mem_append.1 h with h|h
 ·exact List.mem_of_mem_take h
 ·exact List.mem_of_mem_drop h
theorem PG{l m:List Ev}(h:JZ l=true)(hs:m.Sublist l):JZ m=true:=by obtain⟨h1,h2,h3⟩:=LF.1 h;exact LF.2 ⟨Nat.le_trans hs.length_le h1,fun x hx=>h2 x (hs.subset hx),h3.sublist hs⟩
theorem Pz(l:List Ev)(k:Nat):(l.take k++l.drop (k+1)).Sublist l:=by
 have h:=List.take_append_drop k l;have h2:(l.drop (k+1)).Sublist (l.drop k):=by rw[<-List.drop_drop];exact List.drop_sublist _ _
 have h3:=List.Sublist.append (List.Sublist.refl (l.take k)) h2;rwa[h]at h3
theorem Ni{α:Type}{l:List α}{x y:Int}(h0:0<=x)(h1:x<=y)(h2:y<=(l.length:Int)):cS l x y=true:=by unfold cS;rw[decide_eq_true h0,decide_eq_true h1,decide_eq_true h2];rfl
theorem Nh(b:List Int)(hb:b.length<=1048576)(i h:Int)(hi:0<=i){a bl:List Ev}(ha:LJ 16 a)(BA:LJ 16 bl):Yl (NW b i h a bl) (Pp b):=by
 unfold NW;rw[MS];simp only[Option.bind_some];cases hM:(Kz a bl).2 with
 |false=>exact .ret ⟨ha.out (by omega),rfl,hi⟩
 |true=>
  obtain⟨_,_,hj,hm,_,_⟩:=M9 hM;have hlen:=NH a bl;have hmo:∀x,x∈(Kz a bl).1->x.2.2.1<=16/\x.1≠4:=fun x hx=>by
   rcases(hm x).1 hx with h|h
   ·exact(ha.out (by omega)).2 x h
   ·exact(BA.out (by omega)).2 x h
  revert hj hlen hmo;generalize (Kz a bl).1=m;intro hj hlen hmo;simp only[Bool.not_true,cond_false];refine(NU b hb i h 3 hi (by omega)).bind fun y14 ⟨b1,b2⟩=>?_;rw[b1];refine .cond (fun _=>.ret ⟨ha.out (by omega),rfl,b2⟩) fun _=>.cond (fun hg=>?_) fun _=>.ret ⟨⟨hj,hmo⟩,rfl,b2⟩;refine(NU b hb _ _ 5 b2 (by omega)).bind fun y15 ⟨c1,c2⟩=>?_;rw[c1];refine .cond (fun _=>?_) fun _=>.ret ⟨⟨hj,hmo⟩,rfl,c2⟩;refine(IM b hb _ _ (ai m) c2 (by unfold ai;omega)).bind fun y16 ⟨d1,d2,d3,d4⟩=>?_;have hg:(0:Int)<(m.length:Int):=of_decide_eq_true hg;have d2:y16.1<=max 0 ((m.length:Int)-1):=d2;have e1:aa .add .i64 y16.1 (1:Int)=y16.1+1:=bU (by omega) (by omega);rw[e1,d3];have s1:eR m (0:Int) y16.1=m.take y16.1.toNat:=by unfold eR;simp
  have s2:eR m (y16.1+1) (ai m)=m.drop (y16.1.toNat+1):=by unfold eR ai;rw[show(y16.1+1).toNat=y16.1.toNat+1 by omega];apply List.take_of_length_le;rw[List.length_drop];omega
  rw[s1,s2];refine .guard (Ni (by omega) (by omega) (by omega)) (.guard (J0 (by simp;omega)) (.guard (Ni (by omega) (by unfold ai;omega) (by unfold ai;omega)) (.guard (J0 (by simp;omega)) (.ret ⟨⟨?_,?_⟩,rfl,d4⟩))))
  ·exact PG hj (Pz m _)
  ·intro x hx;exact hmo x (PS hx)
theorem Nc(b:List Int)(hb:b.length<=1048576)(i h:Int)(hi:0<=i){a bl:List Ev}(ha:LJ 11 a)(BA:LJ 11 bl):Yl (NV b i h a bl) (Pp b):=by
 unfold NV;refine(IM b hb i h 6 hi (by omega)).bind fun y0 ⟨a1,a2,a3,a4⟩=>?_;have a2:y0.1<=5:=a2;rw[a3];refine .cond (fun hg=>?_) fun _=>Nh b hb _ _ a4 (ha.mono (by omega)) (BA.mono (by omega));have hg:(0:Int)<y0.1:=of_decide_eq_true hg;have e1:aa .sub .i64 y0.1 (1:Int)=y0.1-1:=bM (by omega) (by omega);rw[e1];refine(Kc b hb _ _ [2,3,5] a4 (by simp) (by simp)).bind fun y1 ⟨b1,b2,b3⟩=>?_;have b1:y1.1=2\/y1.1=3\/y1.1=5:=by simpa using b1
 rw[b2];refine NQ b hb _ _ b3 (by omega) BA (by omega) fun i1 h1 x hi1 hx=>?_;have Li:Yl (ga (()) (b,i1,h1,a,x,y0.1-1,())) fun q=>match q with| .inl y=>y.1=b/\0<=y.2.1/\y.2.2.2.1=a/\LJ 16 y.2.2.2.2.1| .inr _=>False:=by
  unfold ga;refine Yl.loop (fun x=>x.1=b/\0<=x.2.1/\0<=x.2.2.2.2.2.1/\x.2.2.2.2.2.1<=4/\x.2.2.2.1=a/\LJ (12+(4-x.2.2.2.2.2.1).toNat) x.2.2.2.2.1) (fun x=>x.2.2.2.2.2.1.toNat) (fun x hx=>?_) big _ ⟨rfl,hi1,by dsimp only;omega,by dsimp only;omega,rfl,hx.mono (by dsimp only;omega)⟩ (aN (by dsimp only;omega));obtain⟨xb,xi,xh,xa,xl,xc,u⟩:=x;obtain⟨x1,x2,x3,x4,x5,x6⟩:=hx;simp only[]at x1 x2 x3 x4 x5 x6;subst x1 x5;unfold JR;refine .cond (fun hp=>?_) fun _=>.ret ⟨rfl,x2,rfl,x6.mono (by omega)⟩;have hp:(0:Int)<xc:=of_decide_eq_true hp;refine(Kc xb hb xi xh [2,3,5] x2 (by simp) (by simp)).bind fun z ⟨c1,c3,c4⟩=>?_;have c1:z.1=2\/z.1=3\/z.1=5:=by simpa using c1
  rw[c3];refine(Nt xb hb _ _ c4 (by omega) x6 (node:=z.1) (by omega)).bind fun w ⟨d1,d2,d3⟩=>.ret ⟨⟨d2,d3,?_,?_,rfl,d1.mono ?_⟩,?_⟩;all_goals (have e:aa .sub .i64 xc (1:Int)=xc-1:=bM (by omega) (by omega));dsimp only;rw[e];omega
 refine Li.bind fun q hq=>?_;match q,hq with
 | .inl y,⟨q1,q2,q3,q4⟩=>simp only[Sum.elim_inl];rw[q1,q3];exact Nh b hb _ _ q2 (ha.mono (by omega)) q4
theorem O9(b:List Int)(hb:b.length<=1048576)(i h:Int)(hi:0<=i){a:List Ev}(ha:LJ 5 a):Yl (O8 b i h a) (Pp b):=by
 unfold O8;refine(IM b hb i h 6 hi (by omega)).bind fun y0 ⟨a1,a2,a3,a4⟩=>?_;have a2:y0.1<=5:=a2;rw[a3];refine .cond (fun hg=>?_) fun _=>Nc b hb _ _ a4 (ha.mono (by omega)) (ha.mono (by omega));have hg:(0:Int)<y0.1:=of_decide_eq_true hg;have e1:aa .sub .i64 y0.1 (1:Int)=y0.1-1:=bM (by omega) (by omega);rw[e1];refine(Kc b hb _ _ [0,1,1] a4 (by simp) (by simp)).bind fun y1 ⟨b1,b2,b3⟩=>?_;have b1:y1.1=0\/y1.1=1:=by simpa using b1
 rw[b2];refine NQ b hb _ _ b3 (by omega) ha (by omega) fun i1 h1 x hi1 hx=>?_;have Li:Yl (B1 (()) (b,i1,h1,x,a,y0.1-1,())) fun q=>match q with| .inl y=>y.1=b/\0<=y.2.1/\LJ 10 y.2.2.2.1/\y.2.2.2.2.1=a| .inr _=>False:=by
  unfold B1;refine Yl.loop (fun x=>x.1=b/\0<=x.2.1/\0<=x.2.2.2.2.2.1/\x.2.2.2.2.2.1<=4/\LJ (6+(4-x.2.2.2.2.2.1).toNat) x.2.2.2.1/\x.2.2.2.2.1=a) (fun x=>x.2.2.2.2.2.1.toNat) (fun x hx=>?_) big _ ⟨rfl,hi1,by dsimp only;omega,by dsimp only;omega,hx.mono (by dsimp only;omega),rfl⟩ (aN (by dsimp only;omega));obtain⟨xb,xi,xh,xl,xa,xc,u⟩:=x;obtain⟨x1,x2,x3,x4,x6,x5⟩:=hx;simp only[]at x1 x2 x3 x4 x5 x6;subst x1 x5;unfold JQ;refine .cond (fun hp=>?_) fun _=>.ret ⟨rfl,x2,x6.mono (by omega),rfl⟩;have hp:(0:Int)<xc:=of_decide_eq_true hp;refine(Kc xb hb xi xh [0,1,1] x2 (by simp) (by simp)).bind fun z ⟨c1,c3,c4⟩=>?_;have c1:z.1=0\/z.1=1:=by simpa using c1
  rw[c3];refine(Nt xb hb _ _ c4 (by omega) x6 (node:=z.1) (by omega)).bind fun w ⟨d1,d2,d3⟩=>.ret ⟨⟨d2,d3,?_,?_,d1.mono ?_,rfl⟩,?_⟩;all_goals (have e:aa .sub .i64 xc (1:Int)=xc-1:=bM (by omega) (by omega));dsimp only;rw[e];omega
 refine Li.bind fun q hq=>?_;match q,hq with
 | .inl y,⟨q1,q2,q3,q4⟩=>simp only[Sum.elim_inl];rw[q1,q4];exact Nc b hb _ _ q2 (q3.mono (by omega)) (ha.mono (by omega))
theorem NE(b:List Int)(hb:b.length<=1048576)(i h:Int)(hi:0<=i):Yl (KT b i h) (Pp b):=by
 rw[ND];refine(IM b hb i h 6 hi (by omega)).bind fun y0 ⟨a1,a2,a3,a4⟩=>?_;have a2:y0.1<=5:=a2;rw[a3];have start:LJ 0 []:=⟨rfl,Nat.le_refl _,fun x hx=>absurd hx List.not_mem_nil,fun x hx=>absurd hx List.not_mem_nil,fun x hx=>absurd hx List.not_mem_nil,fun x hx=>absurd hx List.not_mem_nil⟩
 refine(Pv b hb (body:=I7 ()) 0 (by omega) (fun i h N3 l n hi hn hl hp=>?_) (fun i h N3 l hp=>?_) y0.2.2.1 y0.2.2.2.1 y0.1 [] a4 a1 a2 start).bind fun q hq=>?_
 ·unfold I7;rw[Q9,decide_eq_true hp];refine(IM b hb i h 3 hi (by omega)).bind fun z ⟨c1,c2,c3,c4⟩=>?_;have c2:z.1<=2:=c2;simp only[c3];exact(Nt b hb _ _ c4 (by omega) hl (node:=z.1) (by omega)).bind fun w ⟨d1,d2,d3⟩=>.ret ⟨d2,d3,d1,rfl⟩
 ·unfold I7;rw[Q9,decide_eq_false hp];rfl
 match q,hq with
 | .inl y2,⟨h1,h2,h3⟩=>simp only[Sum.elim_inl];rw[h1];exact O9 b hb _ _ h2 h3
end Go.Fn
set_option linter.unusedSimpArgs false
set_option linter.unusedVariables false
namespace Go.Fn
open Go.R Go.Sort
noncomputable def JE(h:Int):Int:=aa .add .i64 (aa .mul .i64 h (6364136223846793005:Int)) (1442695040888963407:Int)
noncomputable def byteOf(h:Int):Int:=aa .and .i64 (aa .xor .i64 (ay .shr .i64 h (33:Int)) (ay .shr .i64 h (45:Int))) (255:Int)
noncomputable def KC(b:List Int)(i:Int):Int:=bif decide (i<(b.length:Int))then i+1 else i
theorem QZ(b:List Int)(hb:b.length<=1048576)(i h:Int)(hi:0<=i):∃y,Jc b i h=some (y,b,KC b i,JE h,())/\0<=y/\((b.length:Int)<=i->y=byteOf (JE h)):=by
 obtain⟨y,e,y1,_⟩:=Ly b hb i h hi;by_cases hlt:i<(b.length:Int)
 ·refine⟨y.1,?_,y1,fun h=>absurd h (by omega)⟩;have e':=e;unfold Jc at e;have c1:af .lss i (ai b)=true:=by rw[LA];exact decide_eq_true hlt
  rw[c1,LD hi hlt]at e;have e:=Option.some.inj (show some _=some y from e);rw[e'];have e2:aa .add .i64 i (1:Int)=i+1:=bU (by omega) (by omega);rw[<-e,e2];unfold KC;rw[decide_eq_true hlt];rfl
 ·refine⟨byteOf (JE h),?_,?_,fun _=>rfl⟩
  ·unfold Jc KC;have c1:af .lss i (ai b)=false:=by rw[LA];exact decide_eq_false hlt
   rw[c1,decide_eq_false hlt];rfl
  ·exact(OA _ (c:=255) (by omega)).1
theorem Kr(b:List Int)(i:Int):i<=KC b i:=by
 unfold KC;cases decide (i<(b.length:Int))with
 |true=>show i<=i+1;omega
 |false=>exact Int.le_refl _
theorem Mn(b:List Int)(hb:b.length<=1048576)(i h n:Int)(hi:0<=i)(h1:0<n)(h2:n<=256):∃y,bg b i h n=some (y,b,KC b i,JE h,())/\0<=y/\y<=n-1/\((b.length:Int)<=i->y=(byteOf (JE h)).tmod n):=by obtain⟨y,e,y1,y2⟩:=QZ b hb i h hi;have m1:=Int.tmod_nonneg n y1;have m2:=Int.tmod_lt_of_pos y h1;refine⟨y.tmod n,?_,m1,by omega,fun hl=>by rw[y2 hl]⟩;unfold bg;rw[Mi,Mi,decide_eq_false (by omega),decide_eq_true h2,e];show(bif az n then none else some _)=_;rw[show az n=false from decide_eq_false (by omega)];rfl
theorem Nj(x:Int):(IntKind.i64.wrap x) % 9007199254740992=x % 9007199254740992:=by
 have e:IntKind.i64.wrap x=if x % 18446744073709551616>=9223372036854775808 then x % 18446744073709551616-18446744073709551616 else x % 18446744073709551616:=by unfold IntKind.wrap;simp only[IntKind.bits,IntKind.signed,Bool.true_and,decide_eq_true_eq,show(2:Int) ^ 64=18446744073709551616 by decide,show(2:Int) ^ (64-1)=9223372036854775808 by decide]
 rw[e];split <;> omega
theorem K1(h:Int):JE h % 9007199254740992=(6364136223846793005*h+1442695040888963407) % 9007199254740992:=by show IntKind.i64.wrap (IntKind.i64.wrap (h*6364136223846793005)+1442695040888963407) % _=_;rw[Nj,Int.add_emod,Nj,<-Int.add_emod,Int.mul_comm]
noncomputable def it{α:Type}(f:α->α):Nat->α->α
 |0,x=>x
 |n+1,x=>it f n (f x)
theorem MN{α:Type}(f:α->α):∀(m n:Nat) (x:α),it f (m+n) x=it f m (it f n x)
 |m,0,x=>rfl
 |m,n+1,x=>by rw[<-Nat.add_assoc];exact MN f m n (f x)
theorem Mk{α:Type}(f:α->α)(n:Nat)(x:α):it f (n+1) x=f (it f n x):=by rw[Nat.add_comm,MN];rfl
theorem mm(a b c M:Int):(a*(b % M)+c) % M=(a*b+c) % M:=by rw[Int.add_emod,Int.mul_emod,Int.emod_emod,<-Int.mul_emod,<-Int.add_emod]
theorem am(a b c M:Int):((a % M)*b+c % M) % M=(a*b+c) % M:=by rw[Int.add_emod,Int.mul_emod,Int.emod_emod,Int.emod_emod,<-Int.mul_emod,<-Int.add_emod]
theorem Oz{f g:Int->Int}{a c a' c' M:Int}(hf:∀u,f u % M=(a*u+c) % M)(hg:∀u,g u % M=(a'*u+c') % M)(u:Int):f (g u) % M=((a*a') % M*u+(a*c'+c) % M) % M:=by rw[hf,<-mm,hg,mm,am];congr 1;rw[Int.mul_add,Int.mul_assoc,Int.add_assoc]
noncomputable def RW(q:Int×Int):Int×Int:=((q.1*q.1) % 9007199254740992,(q.1*q.2+q.2) % 9007199254740992)
theorem NA{f:Int->Int}{q:Int×Int}(hf:∀u,f u % 9007199254740992=(q.1*u+q.2) % 9007199254740992):∀(k:Nat) (u:Int),it f (2 ^ k) u % 9007199254740992=((it RW k q).1*u+(it RW k q).2) % 9007199254740992
 |0,u=>hf u
 |k+1,u=>by rw[show 2 ^ (k+1)=2 ^ k+2 ^ k by rw[Nat.pow_succ];omega,MN,Mk];exact Oz (NA hf k) (NA hf k) u
noncomputable def KK(h:Int):Int:=JE (JE (JE (JE (JE h))))
noncomputable def c5:Int×Int:=((6364136223846793005*((6364136223846793005*((6364136223846793005*((6364136223846793005*6364136223846793005) % 9007199254740992)) % 9007199254740992)) % 9007199254740992)) % 9007199254740992,(6364136223846793005*((6364136223846793005*((6364136223846793005*((6364136223846793005*1442695040888963407+1442695040888963407) % 9007199254740992)+1442695040888963407) % 9007199254740992)+1442695040888963407) % 9007199254740992)+1442695040888963407) % 9007199254740992)
theorem Oo(h:Int):KK h % 9007199254740992=(c5.1*h+c5.2) % 9007199254740992:=Oz K1 (fun u=>Oz K1 (fun u=>Oz K1 (fun u=>Oz K1 K1 u) u) u) h
theorem Q3:it RW 52 c5=(1,4503599627370496):=by decide +kernel
theorem half(h:Int):it KK 4503599627370496 h % 9007199254740992=(h+4503599627370496) % 9007199254740992:=by have:=NA Oo 52 h;rw[Q3,show(2:Nat) ^ 52=4503599627370496 by decide]at this;rw[this,Int.one_mul]
noncomputable def pb(h:Int):Nat:=(h / 8589934592 % 256).toNat
noncomputable def qb(h:Int):Nat:=(h / 35184372088832 % 256).toNat
theorem NI(x:Int):BitVec.ofInt 64 (IntKind.i64.wrap x)=BitVec.ofInt 64 x:=by
 have e:IntKind.i64.wrap x=if x % 18446744073709551616>=9223372036854775808 then x % 18446744073709551616-18446744073709551616 else x % 18446744073709551616:=by unfold IntKind.wrap;simp only[IntKind.bits,IntKind.signed,Bool.true_and,decide_eq_true_eq,show(2:Int) ^ 64=18446744073709551616 by decide,show(2:Int) ^ (64-1)=9223372036854775808 by decide]
 apply BitVec.eq_of_toNat_eq;rw[BitVec.toNat_ofInt,BitVec.toNat_ofInt,e];congr 1;split <;> omega
theorem N1(h:Int):byteOf h=((pb h ^^^ qb h:Nat):Int):=by
 have s1:ay .shr .i64 h (33:Int)=h / 8589934592:=by show h.fdiv (2 ^ (min (33:Int).toNat 64))=_;rw[show(2:Int) ^ (min (33:Int).toNat 64)=8589934592 by decide];exact Int.fdiv_eq_ediv_of_nonneg _ (by decide)
 have s2:ay .shr .i64 h (45:Int)=h / 35184372088832:=by show h.fdiv (2 ^ (min (45:Int).toNat 64))=_;rw[show(2:Int) ^ (min (45:Int).toNat 64)=35184372088832 by decide];exact Int.fdiv_eq_ediv_of_nonneg _ (by decide)
 unfold byteOf;rw[s1,s2];show IntKind.i64.wrap ((BitVec.ofInt 64 (IntKind.i64.wrap ((BitVec.ofInt 64 (h / 8589934592) ^^^ BitVec.ofInt 64 (h / 35184372088832)).toNat:Nat)) &&& BitVec.ofInt 64 255).toNat:Nat)=_;rw[NI,BitVec.toNat_and];have k1:(BitVec.ofInt 64 ((BitVec.ofInt 64 (h / 8589934592) ^^^ BitVec.ofInt 64 (h / 35184372088832)).toNat:Nat)).toNat=(BitVec.ofInt 64 (h / 8589934592)).toNat ^^^ (BitVec.ofInt 64 (h / 35184372088832)).toNat:=by rw[BitVec.toNat_ofInt,<-BitVec.toNat_xor];have:=(BitVec.ofInt 64 (h / 8589934592) ^^^ BitVec.ofInt 64 (h / 35184372088832)).isLt;omega
 rw[k1,show(BitVec.ofInt 64 255).toNat=2 ^ 8-1 by decide,Nat.and_two_pow_sub_one_eq_mod,Nat.xor_mod_two_pow];have k2:∀x:Int,(BitVec.ofInt 64 x).toNat % 2 ^ 8=(x % 256).toNat:=fun x=>by rw[BitVec.toNat_ofInt];omega
 rw[k2,k2];have hlt:pb h ^^^ qb h<2 ^ 8:=Nat.xor_lt_two_pow (by unfold pb;omega) (by unfold qb;omega);show IntKind.i64.wrap ((pb h ^^^ qb h:Nat):Int)=_;exact zx (by omega) (by omega)
theorem Q4:(List.range 256).all (fun q=>(q+128) % 256==q ^^^ 128)=true:=by decide +kernel
theorem Q5:(List.range 256).all (fun t=>!(t % 3==2) || !((t ^^^ 128) % 3==2))=true:=by decide +kernel
theorem Q6{h h':Int}(he:h' % 9007199254740992=(h+4503599627370496) % 9007199254740992)(h2:(byteOf h).tmod 3=2):(byteOf h').tmod 3≠2:=by
 have hp:pb h'=pb h:=by unfold pb;omega
 have hq:qb h'=(qb h+128) % 256:=by unfold qb;omega
 have q1:qb h<256:=by unfold qb;omega
 have q2:=List.all_eq_true.1 Q4 (qb h) (List.mem_range.2 q1);have q2:(qb h+128) % 256=qb h ^^^ 128:=by simpa using q2
 have hlt:pb h ^^^ qb h<256:=Nat.xor_lt_two_pow (n:=8) (by unfold pb;omega) (by unfold qb;omega);rw[N1]at h2⊢;rw[hp,hq,q2,<-Nat.xor_assoc];have q3:=List.all_eq_true.1 Q5 (pb h ^^^ qb h) (List.mem_range.2 hlt);have m1:∀n:Nat,((n:Nat):Int).tmod 3=((n % 3:Nat):Int):=fun n=>by rw[Int.tmod_eq_emod_of_nonneg (by omega)];omega
 rw[m1]at h2⊢;have h2':(pb h ^^^ qb h) % 3=2:=by omega
 rw[h2']at q3;intro h3;have h3':(pb h ^^^ qb h ^^^ 128) % 3=2:=by omega
 rw[h3']at q3;exact absurd q3 (by decide)
end Go.Fn
set_option linter.unusedSimpArgs false
set_option linter.unusedVariables false
namespace Go.Fn
open Go.R Go.Sort
theorem M5{X Y:Type}{body:X->Option (X⊕Y)}:∀(n m:Nat) (st:Nat->X) (y:Y),(∀k,k<n->body (st k)=some (.inl (st (k+1))))->body (st n)=some (.inr y)->iter body (n+1+m) (st 0)=some y
 |0,m,st,y,_,he=>by rw[show 0+1+m=m+1 by omega];simp only[iter,he]
 |n+1,m,st,y,hs,he=>by rw[show n+1+1+m=(n+1+m)+1 by omega];simp only[iter,hs 0 (by omega)];exact M5 n m (fun k=>st (k+1)) y (fun k hk=>hs (k+1) (by omega)) he
theorem Nr{l:List Ev}(hj:JZ l=true)(hl:l.length=60)(node kind b8 a b:Int):(JW l node kind b8 a b).1=l:=by
 unfold JW;rw[hj];have:JZ (JF l node kind b8 a b)=false:=by unfold JZ;rw[LI (Kk hj),hl];rfl
 rw[this];rfl
structure Po (n:Nat) (l:List Ev):Prop where
 j:JZ l=true
 st:∀x,x∈l->x.2.2.1<=(n:Int)
 sq:∀x,x∈l->x.1=4->x.2.1<=(n:Int)
theorem Po.add{n:Nat}(hn:n<=200){l:List Ev}(h:Po n l)(hl:l.length<60){kind b8 a b:Int}(h1:1<=kind/\kind<=4)(h2:1<=b8/\b8<=3)(h3:0<=a/\a<=3)(h4:0<=b/\b<=39):Po (n+1) (JW l 4 kind b8 a b).1/\(JW l 4 kind b8 a b).1.length=l.length+1:=by
 have hs:=Kk h.j;have hi:=Kf 4 hs;have s1:1<=(J7 l 4).1/\(J7 l 4).1<=(n:Int)+1:=by
  rcases hi.s2 with p|⟨x,hx,q,p⟩
  ·rw[p];omega
  ·have:=h.sq x hx q;have:=(KH.1 (L0 h.j x hx)).2.1;omega
 have p1:1<=(J7 l 4).2.1/\(J7 l 4).2.1<=(n:Int)+1:=by
  rcases hi.p2 with p|⟨x,hx,p⟩
  ·rw[p];omega
  ·have:=h.st x hx;have:=(KH.1 (L0 h.j x hx)).2.2.1;omega
 have he:KM (LN l 4 kind b8 a b)=true:=KH.2 ⟨by show(0:Int)<=4/\(4:Int)<=5;omega,by show 1<=(J7 l 4).1/\(J7 l 4).1<=999;omega,by show 1<=(J7 l 4).2.1/\(J7 l 4).2.1<=100000;omega,by show 1<=kind/\kind<=4;omega,by show 1<=b8/\b8<=999;omega,by show 0<=a/\a<=20000;omega,by show 0<=b/\b<=20000;omega⟩;have hw:=Ou h.j (node:=4) (kind:=kind) (b8:=b8) (a:=a) (b:=b) (by omega) he;unfold JW;rw[h.j,hw];simp only[cond_true];refine⟨⟨hw,fun x hx=>?_,fun x hx hq=>?_⟩,LI hs _ _ _ _ _⟩
 ·rcases(Jm x).1 hx with e|e
  ·rw[e];show(J7 l 4).2.1<=_;omega
  ·have:=h.st x e;omega
 ·rcases(Jm x).1 hx with e|e
  ·rw[e];show(J7 l 4).1<=_;omega
  ·have:=h.sq x e hq;omega
noncomputable def KL(b:List Int)(i:Int):Int:=KC b (KC b (KC b (KC b (KC b i))))
theorem RV(b:List Int)(hb:b.length<=1048576)(i h:Int)(hi:0<=i)(l:List Ev)(hl:l.length<=60)(node:Int):∃kind b8 a c,(1<=kind/\kind<=4)/\(1<=b8/\b8<=3)/\(0<=a/\a<=3)/\(0<=c/\c<=39) /\
  Jz b i h l node=some ((JW l node kind b8 a c).1,b,KC b (KC b (KC b (KC b i))),JE (JE (JE (JE h))),()):=by
 have g0:=Kr b i;have g1:=Kr b (KC b i);have g2:=Kr b (KC b (KC b i));obtain⟨y0,e0,a0,b0,_⟩:=Mn b hb i h 4 hi (by omega) (by omega);obtain⟨y1,e1,a1,b1,_⟩:=Mn b hb (KC b i) (JE h) 4 (by omega) (by omega) (by omega);obtain⟨y2,e2,a2,b2,_⟩:=Mn b hb (KC b (KC b i)) (JE (JE h)) 3 (by omega) (by omega) (by omega);obtain⟨y3,e3,a3,b3,_⟩:=Mn b hb (KC b (KC b (KC b i))) (JE (JE (JE h))) 40 (by omega) (by omega) (by omega);have k0:aa .add .i64 (1:Int) y0=1+y0:=bU (by omega) (by omega);have k2:aa .add .i64 (1:Int) y2=1+y2:=bU (by omega) (by omega);refine⟨1+y0,1+y2,bif af .eql (1+y0) (2:Int)then 0 else y1,y3,by omega,by omega,?_,by omega,?_⟩
 ·cases af .eql (1+y0) (2:Int)with
  |true=>show(0:Int)<=0/\(0:Int)<=3;omega
  |false=>show 0<=y1/\y1<=3;omega
 ·unfold Jz;simp only[e0,e1,e2,e3,Option.bind_some,k0,k2,KA l _ _ _ _ _ (show l.length<=1073741824 by omega)];cases af .eql (1+y0) (2:Int) <;> rfl
abbrev P8:=(List Int)×Int×Int×(List Ev)×Unit
abbrev Pr:=P8⊕(P8⊕Empty)
noncomputable def Np(b:List Int)(y:Pr):Prop:=match y with
 | .inl z=>z.1=b/\0<=z.2.1/\z.2.2.2.1.length<=60
 | .inr (.inl z)=>z.1=b/\0<=z.2.1/\z.2.2.2.1.length<=60
 | .inr (.inr _)=>False
theorem Pe(b:List Int)(hb:b.length<=1048576)(i h:Int)(hi:0<=i)(l:List Ev)(hj:JZ l=true):
  (∃y,Np b y/\IJ () (b,i,h,l,())=some (.inr y)) \/
  ((l.length:Int)<61/\((b.length:Int)<=i->l.length=60->(byteOf (JE h)).tmod 3=2)/\∃kind b8 a c,(1<=kind/\kind<=4)/\(1<=b8/\b8<=3)/\(0<=a/\a<=3)/\(0<=c/\c<=39) /\
   IJ () (b,i,h,l,())=some (bif JZ (JW l 4 kind b8 a c).1 then .inl (b,KL b i,KK h,(JW l 4 kind b8 a c).1,())else .inr (.inl (b,KL b i,KK h,(JW l 4 kind b8 a c).1,())))):=by
 have hl:=Jw hj;obtain⟨y0,e0,a0,b0,c0⟩:=Mn b hb i h 3 hi (by omega) (by omega);have g0:=Kr b i;have k0:aa .add .i64 (59:Int) y0=59+y0:=bU (by omega) (by omega);unfold IJ;simp only[e0,Option.bind_some,k0];by_cases hlt:(l.length:Int)<59+y0
 ·right;have hg:af .lss (ai l) (59+y0)=true:=by rw[LA];exact decide_eq_true hlt
  refine⟨by omega,fun h1 h2=>?_,?_⟩
  ·have:=c0 h1;omega
  ·obtain⟨kind,b8,a,c,q1,q2,q3,q4,q5⟩:=RV b hb (KC b i) (JE h) (by omega) l hl 4;refine⟨kind,b8,a,c,q1,q2,q3,q4,?_⟩;rw[hg,q5];simp only[cond_true,Option.bind_some,Ll];cases JZ (JW l 4 kind b8 a c).1 <;> rfl
 ·left;have hg:af .lss (ai l) (59+y0)=false:=by rw[LA];exact decide_eq_false hlt
  refine⟨.inr (.inl (b,KC b i,JE h,l,())),⟨rfl,by show 0<=KC b i;omega,hl⟩,?_⟩;rw[hg];rfl
theorem NR(b:List Int)(i:Int):i<=KL b i:=by have g0:=Kr b i;have g1:=Kr b (KC b i);have g2:=Kr b (KC b (KC b i));have g3:=Kr b (KC b (KC b (KC b i)));have g4:=Kr b (KC b (KC b (KC b (KC b i))));unfold KL;omega
theorem Mh(b:List Int)(i:Int)(hi:0<=i):∀k:Nat,0<=it (KL b) k i/\((k:Int)<=it (KL b) k i\/(b.length:Int)<=it (KL b) k i)
 |0=>⟨hi,.inl hi⟩
 |k+1=>by
  obtain⟨h1,h2⟩:=Mh b i hi k;rw[Mk];have g:=NR b (it (KL b) k i);refine⟨by omega,?_⟩;rcases h2 with h2|h2
  ·by_cases hlt:it (KL b) k i<(b.length:Int)
   ·left;have e:KC b (it (KL b) k i)=it (KL b) k i+1:=by unfold KC;rw[decide_eq_true hlt];rfl
    have g1:=Kr b (KC b (it (KL b) k i));have g2:=Kr b (KC b (KC b (it (KL b) k i)));have g3:=Kr b (KC b (KC b (KC b (it (KL b) k i))));have g4:=Kr b (KC b (KC b (KC b (KC b (it (KL b) k i)))));have e5:KL b (it (KL b) k i)=KC b (KC b (KC b (KC b (KC b (it (KL b) k i))))):=rfl;omega
   ·right;omega
  ·right;omega
theorem Q8(K B:Nat)(hK:K=4503599627370496)(hB:B=1048576)(hT:∀u:Int,it KK K u % 9007199254740992=(u+4503599627370496) % 9007199254740992)(b:List Int)(hb:b.length<=1048576)(i h:Int)(hi:0<=i)(l:List Ev)(hj:JZ l=true)(hl:l.length=60):∃(N:Nat) (y:Pr),N<=4503599628419074/\Np b y/\∀m,iter (IJ ()) (N+m) (b,i,h,l,())=some y:=by
 let st:Nat->P8:=fun k=>(b,it (KL b) k i,it KK k h,l,())
 have hst:∀k,(∃y,Np b y/\IJ () (st k)=some (.inr y))\/(IJ () (st k)=some (.inl (st (k+1)))/\((b.length:Int)<=it (KL b) k i->(byteOf (JE (it KK k h))).tmod 3=2)):=fun k=>by
  rcases Pe b hb (it (KL b) k i) (it KK k h) (Mh b i hi k).1 l hj with h1|⟨_,h2,kind,b8,a,c,q1,q2,q3,q4,q5⟩
  ·exact .inl h1
  ·refine .inr ⟨?_,fun hb=>h2 hb hl⟩;rw[Nr hj hl]at q5;rw[hj]at q5;show IJ () (b,it (KL b) k i,it KK k h,l,())=some (.inl (b,it (KL b) (k+1) i,it KK (k+1) h,l,()));rw[q5,Mk,Mk];rfl
 have hex:∃k,k<=K+B/\∃y,Np b y/\IJ () (st k)=some (.inr y):=by
  refine Classical.byContradiction fun hno=>?_;have hall:∀k,k<=K+B->(b.length:Int)<=it (KL b) k i->(byteOf (JE (it KK k h))).tmod 3=2:=fun k hk CD=>by
   rcases hst k with h1|h2
   ·exact absurd ⟨k,hk,h1⟩ hno
   ·exact h2.2 CD
  have r1:=(Mh b i hi B).2;have r2:=(Mh b i hi (K+B)).2;have u1:=hall B (by omega) (by omega);have u2:=hall (K+B) (by omega) (by omega);rw[MN]at u2;have hm:=hT (it KK B h);refine Q6 (h:=JE (it KK B h)) (h':=JE (it KK K (it KK B h))) ?_ u1 u2;rw[K1,<-mm,hm,mm];have:=K1 (it KK B h);omega
 obtain⟨n,hn,hle⟩:=AP (p:=fun k=>∃y,Np b y/\IJ () (st k)=some (.inr y)) hex.choose hex.choose_spec.2;obtain⟨y,hy,he⟩:=hn;refine⟨n+1,y,?_,hy,fun m=>M5 n m st y (fun k hk=>?_) he⟩
 ·have:=hle _ hex.choose_spec.2;have:=hex.choose_spec.1;omega
 ·rcases hst k with h1|h2
  ·have:=hle k h1;omega
  ·exact h2.1
theorem Q7(b:List Int)(hb:b.length<=1048576)(i h:Int)(hi:0<=i)(l:List Ev)(hj:JZ l=true)(hl:l.length=60):∃(N:Nat) (y:Pr),N<=4503599628419074/\Np b y/\∀m,iter (IJ ()) (N+m) (b,i,h,l,())=some y:=Q8 _ _ rfl rfl half b hb i h hi l hj hl
theorem PY(b:List Int)(hb:b.length<=1048576):∀(d:Nat) (i h:Int) (l:List Ev) (n:Nat),0<=i->Po n l->n+d<=200->l.length+d=60->∃(N:Nat) (y:Pr),N<=4503599628419074+d/\Np b y/\∀m,iter (IJ ()) (N+m) (b,i,h,l,())=some y
 |0,i,h,l,n,hi,hf,_,hl=>Q7 b hb i h hi l hf.j hl
 |d+1,i,h,l,n,hi,hf,hn,hl=>by
  rcases Pe b hb i h hi l hf.j with ⟨y,hy,he⟩|⟨_,_,kind,b8,a,c,q1,q2,q3,q4,q5⟩
  ·exact⟨1,y,by omega,hy,fun m=>by rw[Nat.add_comm];simp only[iter,he]⟩
  ·obtain⟨f1,f2⟩:=hf.add (by omega) (by omega) q1 q2 q3 q4;have g:=NR b i;rw[f1.j]at q5;obtain⟨N,y,h1,h2,h3⟩:=PY b hb d (KL b i) (KK h) _ (n+1) (by omega) f1 (by omega) (by omega);refine⟨N+1,y,by omega,h2,fun m=>?_⟩;rw[show N+1+m=(N+m)+1 by omega];simp only[iter,q5,cond_true];exact h3 m
theorem Oe(b:List Int)(hb:b.length<=1048576)(i h:Int)(hi:0<=i):Yl (K9 b i h) fun y=>y.1.length<=60/\y.2.1=b/\0<=y.2.2.1:=by
 unfold K9;refine(NE b hb i h hi).bind fun y0 ⟨⟨a1,a2⟩,a3,a4⟩=>?_;have hl:=Jw a1;rw[a3];refine .cond (fun _=>.ret ⟨hl,rfl,a4⟩) fun hne=>?_;have hpos:0<y0.1.length:=by
  cases h:y0.1 with
  |nil=>rw[h]at hne;cases hne
  |cons _ _=>simp
 refine(IM b hb _ _ (ai y0.1) a4 (by unfold ai;omega)).bind fun y1 ⟨b1,b2,b3,b4⟩=>?_;have b2:y1.1<=max 0 ((y0.1.length:Int)-1):=b2;rw[b3];refine(IM b hb _ _ 16 b4 (by omega)).bind fun y2 ⟨c1,c2,c3,c4⟩=>?_;rw[c3];have hin:ah y0.1 y1.1=true:=LD b1 (by omega);refine .cond (fun _=>?_) fun _=>.cond (fun _=>?_) fun _=>.cond (fun _=>?_) fun _=>.cond (fun _=>?_) fun _=>.cond (fun _=>?_) fun _=>.ret ⟨hl,rfl,c4⟩;all_goals first
  |(refine(Kc b hb _ _ _ c4 (by simp) (by simp)).bind fun y3 ⟨_,d2,d3⟩=>.guard hin (.lets (.ret ⟨?_,d2,d3⟩));show(aC y0.1 y1.1 _).length<=60;unfold aC;rw[List.length_set];exact hl)
  |skip
 obtain⟨N,y,n1,n2,n3⟩:=PY b hb (60-y0.1.length) y2.2.2.1 y2.2.2.2.1 y0.1 16 c4 ⟨a1,fun x hx=>(a2 x hx).1,fun x hx hq=>absurd hq (a2 x hx).2⟩ (by omega) (by omega);have zq:Kp () (b,y2.2.2.1,y2.2.2.2.1,y0.1,())=some y:=by unfold Kp;have:=n3 (big-N);rw[show N+(big-N)=big by have:big=4611686018427387904:=rfl;omega]at this;exact this
 rw[zq];match y,n2 with
 | .inl z,⟨z1,z2,z3⟩=>exact .ret ⟨z3,z1,z2⟩
 | .inr (.inl z),⟨z1,z2,z3⟩=>exact .ret ⟨z3,z1,z2⟩
end Go.Fn
set_option linter.unusedSimpArgs false
set_option linter.unusedVariables false
namespace Go.Fn
open Go.R Go.Sort
noncomputable def N6(x e:Ev):Bool:=Bool.and (af .eql x.1 e.1) (Bool.and (af .eql x.2.1 e.2.1) (Bool.and (af .eql x.2.2.1 e.2.2.1) (Bool.and (af .eql x.2.2.2.1 e.2.2.2.1) (Bool.and (af .eql x.2.2.2.2.1 e.2.2.2.2.1) (Bool.and (af .eql x.2.2.2.2.2.1 e.2.2.2.2.2.1) (Bool.and (af .eql x.2.2.2.2.2.2 e.2.2.2.2.2.2) true))))))
theorem M0{x e:Ev}:N6 x e=true↔x=e:=by obtain⟨x0,x1,x2,x3,x4,x5,x6⟩:=x;obtain⟨e0,e1,e2,e3,e4,e5,e6⟩:=e;simp[N6,af]
theorem OP(l:List Ev)(e:Ev)(hl:l.length<=1073741824):laws_holds l e.1 e.2.1 e.2.2.1 e.2.2.2.1 e.2.2.2.2.1 e.2.2.2.2.2.1 e.2.2.2.2.2.2=some (decide (e∈l),()):=by
 unfold laws_holds;obtain⟨y,e1,c1⟩:=eL (body:=KE (l,e.1,e.2.1,e.2.2.1,e.2.2.2.1,e.2.2.2.2.1,e.2.2.2.2.2.1,e.2.2.2.2.2.2,())) (fun n=>((n:Int),())) l.length (by omega) (fun n=>Bool.not (N6 (l.getD n br) e)) (.inr (.inl ())) (fun _=>.inl (true,())) (fun n hn=>by
  unfold KE;simp only[aj,ax,hn,decide_true,cond_true,ak,au (n:=n) (by omega)];show(lets (N6 (l.getD n br) e) _)=_;rw[aR];cases N6 (l.getD n br) e <;> rfl) (by
  unfold KE;simp only[aj,Nat.lt_irrefl,decide_false,cond_false])
 have e1:Lc (l,e.1,e.2.1,e.2.2.1,e.2.2.2.1,e.2.2.2.2.1,e.2.2.2.2.2.1,e.2.2.2.2.2.2,()) (0,())=some y:=e1;rw[e1];rcases c1 with ⟨t1,rfl⟩|⟨t1,n1,l1,rfl,f1⟩
 ·have:¬e∈l:=fun hm=>by
   obtain⟨n,hn,rfl⟩:=List.mem_iff_getElem.1 hm;have:=(aO _ _).1 t1 n (Nat.zero_le _) (by omega);rw[getD_eq hn,M0.2 rfl]at this;cases this
  rw[decide_eq_false this];rfl
 ·have:e∈l:=by
   have h:N6 (l.getD n1 br) e=true:=by simpa using f1
   rw[<-M0.1 h];exact KI l1 _
  rw[decide_eq_true this];rfl
end Go.Fn
set_option linter.unusedSimpArgs false
set_option linter.unusedVariables false
namespace Go.Fn
open Go.R Go.Sort
noncomputable def Pj(l:List Ev)(r:List Int):List Ev:=r.map fun i=>l.getD i.toNat br
noncomputable def My(l es:List Ev):Prop:=(∀e,e∈es↔e∈l)/\es.Pairwise (fun x y=>QM x y=true)
theorem N7{l es fs:List Ev}(h1:My l es)(h2:My l fs):es=fs:=LW (lt:=fun x y=>QM x y=true) (fun x h=>by rw[KG]at h;omega) (fun x y h h'=>by rw[KG]at h h';omega) h1.2 h2.2 fun x=>by rw[h1.1,h2.1]
theorem OI{l:List Ev}{r:List Int}(h:MA l r):My l (Pj l r):=by
 refine⟨fun e=>?_,?_⟩
 ·unfold Pj;rw[List.mem_map];constructor
  ·rintro⟨i,hi,rfl⟩;have:=(h.1 i).1 hi;exact KI (by omega) _
  ·intro he;obtain⟨n,hn,rfl⟩:=List.mem_iff_getElem.1 he;exact⟨(n:Int),(h.1 _).2 (by omega),by rw[show((n:Nat):Int).toNat=n by omega,getD_eq hn]⟩
 ·unfold Pj;exact List.pairwise_map.2 (h.2.imp fun {a b} hab=>hab)
theorem Nv{l es:List Ev}(hj:JZ l=true)(h:My l es)(node kind b8 a b:Int):My (JF l node kind b8 a b) (es++[LN l node kind b8 a b]):=by
 have hi:=Kf node (Kk hj);refine⟨fun e=>?_,?_⟩
 ·rw[List.mem_append,List.mem_singleton,h.1,Jm];exact Or.comm
 ·refine List.pairwise_append.2 ⟨h.2,List.pairwise_singleton _ _,fun x hx y hy=>?_⟩;rw[List.mem_singleton.1 hy,KG];left;exact hi.p1 x ((h.1 x).1 hx)
end Go.Fn
set_option linter.unusedSimpArgs false
set_option linter.unusedVariables false
namespace Go.Fn
open Go.R Go.Sort
theorem Qe(a:Int):af .eql a a=true:=by simp[af]
theorem Ns{l:List Ev}{node kind b8 a b:Int}(h:(JW l node kind b8 a b).2=true):JZ l=true/\JZ (JF l node kind b8 a b)=true/\(JW l node kind b8 a b).1=JF l node kind b8 a b:=by
 unfold JW at h⊢;cases hj:JZ l with
 |false=>rw[hj]at h;cases h
 |true=>
  rw[hj]at h;cases hw:JZ (JF l node kind b8 a b)with
  |false=>rw[hw]at h;cases h
  |true=>exact⟨rfl,rfl,rfl⟩
end Go.Fn
set_option linter.unusedSimpArgs false
set_option linter.unusedVariables false
namespace Go.Fn
open Go.R Go.Sort
theorem M8(x:ByteArray):∀(k i:Nat) (r:List UInt8),x.size-i=k->(ByteArray.toList.loop x i r).length=k+r.length
 |0,i,r,h=>by rw[ByteArray.toList.loop,if_neg (by omega),List.length_reverse,Nat.zero_add]
 |k+1,i,r,h=>by rw[ByteArray.toList.loop,if_pos (by omega),M8 x k (i+1) _ (by omega),List.length_cons];omega
theorem Mw(x:ByteArray):x.toList.length=x.size:=by unfold ByteArray.toList;rw[M8 x x.size 0 [] (by omega)];rfl
theorem N8(d:Int)(a b c e f g:Nat):0<(Ma d a b c e f g).size:=by have p1:(ByteArray.mk #[46]).size=1:=rfl;unfold Ma;cases af .eql d 2 <;> simp only[cond_true,cond_false,II,p1] <;> omega
theorem N9{e:Ev}(he:KM e=true):∃t:ByteArray,JJ e.1 e.2.1 e.2.2.1 e.2.2.2.1 e.2.2.2.2.1 e.2.2.2.2.2.1 e.2.2.2.2.2.2=some (t,())/\JI e.1 e.2.1 e.2.2.1 e.2.2.2.1 e.2.2.2.2.1 e.2.2.2.2.2.1 e.2.2.2.2.2.2=some (t,())/\sA .eql t t=true/\sA .neq t (ByteArray.mk #[])=true:=by
 obtain⟨a,b,c,d,e,f,g⟩:=e;obtain⟨h1,h2,h3,h4,h5,h6,h7⟩:=KH.1 he;simp only at h1 h2 h3 h4 h5 h6 h7;obtain⟨a,rfl⟩:∃n:Nat,a=(n:Int):=⟨a.toNat,by omega⟩
 obtain⟨b,rfl⟩:∃n:Nat,b=(n:Int):=⟨b.toNat,by omega⟩
 obtain⟨c,rfl⟩:∃n:Nat,c=(n:Int):=⟨c.toNat,by omega⟩
 obtain⟨e,rfl⟩:∃n:Nat,e=(n:Int):=⟨e.toNat,by omega⟩
 obtain⟨f,rfl⟩:∃n:Nat,f=(n:Int):=⟨f.toNat,by omega⟩
 obtain⟨g,rfl⟩:∃n:Nat,g=(n:Int):=⟨g.toNat,by omega⟩
 refine⟨_,Qz he,Qm he,by simp[sA],?_⟩;have hp:=N8 d a b c e f g;rw[<-Mw]at hp;show(!((Ma d a b c e f g).toList==(ByteArray.mk #[]).toList))=true;have e0:(ByteArray.mk #[]).toList=[]:=by apply List.eq_nil_of_length_eq_zero;rw[Mw];rfl
 rw[e0];cases h:(Ma d a b c e f g).toList with
 |nil=>rw[h]at hp;simp at hp
 |cons _ _=>rfl
theorem Nu(code:List Int)(hb:code.length<=1048576):Yl (JX code) fun y=>y.1.length<=60:=by unfold JX;refine(Qx code hb).bind fun y0 ⟨h1,h2⟩=>?_;rw[h1];refine(Oe code hb _ _ (by rw[h2];exact Int.le_refl _)).bind fun y1 ⟨a1,a2,a3⟩=>?_;rw[a2];refine(IM code hb _ _ 8 a3 (by omega)).bind fun y2 ⟨_,_,b3,b4⟩=>?_;rw[b3];refine(IM code hb _ _ 6 b4 (by omega)).bind fun y3 ⟨_,_,c3,c4⟩=>?_;rw[c3];refine(Kc code hb _ _ _ c4 (by simp) (by simp)).bind fun y4 ⟨_,d2,d3⟩=>?_;rw[d2];refine(Kc code hb _ _ _ d3 (by simp) (by simp)).bind fun y5 ⟨_,e2,e3⟩=>?_;rw[e2];exact(IM code hb _ _ 30 e3 (by omega)).bind fun y6 _=>.ret a1
theorem O5(l:List Ev)(hj:JZ l=true):∃r,JL l=some (r,())/\J4 l=some (r,())/\r.length<=60/\(∀x,x∈r->0<=x/\x<l.length)/\My l (Pj l r):=by obtain⟨r,r1,r2,r3,r4,r5,r6⟩:=NJ l;exact⟨r,r1,r2,r3,r4,OI (r6 hj)⟩
theorem MJ{l:List Ev}{r:List Int}{n:Nat}(hn:n<r.length):(Pj l r).getD n br=ae br l (ae zI r (n:Int)):=by unfold Pj;rw[getD_eq (by rw[List.length_map];exact hn),List.getElem_map];show l.getD (r[n]).toNat br=l.getD (ae zI r (n:Int)).toNat br;rw[ak,getD_eq hn]
theorem MK{l:List Ev}{r:List Int}(h:∀x,x∈r->0<=x/\x<l.length){n:Nat}(hn:n<r.length):ah l (ae zI r (n:Int))=true:=by rw[ak];have:=h _ (KI hn zI);exact LD this.1 this.2
theorem M1(code:List Int):Lb code=some (true,()):=by
 unfold Lb Mr;simp only[Option.bind_some];cases hbig:af .gtr (ai code) 1048576 with
 |true=>rfl
 |false=>
  have hb:code.length<=1048576:=by have:¬((1048576:Int)<(code.length:Int)):=of_decide_eq_false hbig;omega
  refine(cF rfl).trans ?_;obtain⟨⟨l,node,kind,p,a,b,u⟩,he,hl⟩:=Nu code hb;have hl:l.length<=60:=hl;refine(Jp he).trans ?_;dsimp only;refine(Jp (Nx l node kind p a b (by omega))).trans ?_;refine(Jp (KA l node kind p a b (by omega))).trans ?_;dsimp only;refine(cF (by rw[Om];rfl)).trans ?_;cases OM:(JW l node kind p a b).2 with
  |false=>
   have hsame:(JW l node kind p a b).1=l:=by
    unfold JW at OM⊢;cases hj:JZ l with
    |false=>rfl
    |true=>
     rw[hj]at OM;cases hw:JZ (JF l node kind p a b)with
     |false=>rfl
     |true=>rw[hw]at OM;cases OM
   rw[hsame];have hs:=Mc l (by omega);refine(Jp hs).trans ?_;refine(cF rfl).trans ?_;refine(cT rfl).trans ?_;refine(Jp hs).trans ?_;rfl
  |true=>
   obtain⟨hj,hw,hx⟩:=Ns OM;rw[hx];have G0:=Jw hw;refine(Jp (Mc _ (by omega))).trans ?_;refine(cF rfl).trans ?_;refine(cF rfl).trans ?_;obtain⟨r,r1,r2,r3,r4,r5⟩:=O5 l hj;obtain⟨q,q1,q2,q3,q4,q5⟩:=O5 _ hw;have HA:=N7 q5 (Nv hj r5 node kind p a b);have lr:(Pj l r).length=r.length:=by unfold Pj;rw[List.length_map]
   have lq:(Pj (JF l node kind p a b) q).length=q.length:=by unfold Pj;rw[List.length_map]
   have Tt:q.length=r.length+1:=by rw[<-lq,HA,List.length_append,lr];rfl
   have hst:=(Kf node (Kk hj)).p1;have Fh:LN l node kind p a b∉l:=fun hm=>by have:=hst _ hm;exact absurd this (Int.lt_irrefl _)
   have BC:KM (LN l node kind p a b)=true:=L0 hw _ ((Jm _).2 (.inl rfl));have OO:(LN l node kind p a b).1=node:=rfl;have uR:(LN l node kind p a b).2.2.2.2.1=p:=rfl;have hold:∀n,n<r.length->ae br (JF l node kind p a b) (ae zI q (n:Int))=ae br l (ae zI r (n:Int)):=fun n hn=>by rw[<-MJ (by omega),<-MJ hn,HA,getD_eq (by rw[List.length_append,lr];omega),getD_eq (by omega),List.getElem_append_left]
   have ON:ae br (JF l node kind p a b) (ae zI q ((r.length:Nat):Int))=LN l node kind p a b:=by rw[<-MJ (by omega),HA,getD_eq (by rw[List.length_append,lr];simp),List.getElem_append_right (by omega)];simp
   have hin:∀n,n<r.length->ae br l (ae zI r (n:Int))∈l:=fun n hn=>by rw[ak];have:=r4 _ (KI hn zI);exact KI (by omega) _
   have hs1:∀x,x∈l->x.2.2.1<(LN l node kind p a b).2.2.1:=hst;revert HA Fh BC OO uR ON hs1;generalize hN:LN l node kind p a b=N;intro HA Fh BC OO uR ON hs1;refine(Jp q2).trans ?_;refine(Jp r1).trans ?_;refine(Jp q1).trans ?_;refine(Jp (NK q (by omega))).trans ?_;refine(cF rfl).trans ?_;dsimp only;have e1:aa .add .i64 (ai r) (1:Int)=((r.length+1:Nat):Int):=by unfold ai;exact au (by omega)
   have e2:aa .sub .i64 (ai q) (1:Int)=((r.length:Nat):Int):=by unfold ai;rw[Tt];exact iD (by omega)
   rw[e1,e2];refine(cF (by unfold ai;rw[Tt];exact Lv _)).trans ?_;refine(cT (by rw[ax];exact decide_eq_true (by omega))).trans ?_;refine(cT (MK q4 (by omega))).trans ?_;rw[ON];have Li:Kt (node,p,()) (l,JF l node kind p a b,q,r,N.1,N.2.1,N.2.2.1,N.2.2.2.1,N.2.2.2.2.1,N.2.2.2.2.2.1,N.2.2.2.2.2.2,(0:Int),())=some (.inr (.inl (l,JF l node kind p a b,N.1,N.2.1,N.2.2.1,N.2.2.2.1,N.2.2.2.2.1,N.2.2.2.2.2.1,N.2.2.2.2.2.2,()))):=by
    refine aU (body:=J5 (node,p,())) (fun n=>(l,JF l node kind p a b,q,r,N.1,N.2.1,N.2.2.1,N.2.2.2.1,N.2.2.2.2.1,N.2.2.2.2.2.1,N.2.2.2.2.2.2,(n:Int),())) r.length (by omega) (.inr (.inl (l,JF l node kind p a b,N.1,N.2.1,N.2.2.1,N.2.2.2.1,N.2.2.2.2.1,N.2.2.2.2.2.1,N.2.2.2.2.2.2,()))) (fun n hn=>?_) ?_
    ·have k1:=MK q4 (n:=n) (by omega);have k2:=MK r4 hn;have k3:=hs1 _ (hin n hn);unfold J5;dsimp only;refine(cT (Uy hn)).trans ?_;refine(cT (Sn (by omega))).trans ?_;refine(cT k1).trans ?_;refine(cT (Sn hn)).trans ?_;refine(cT k2).trans ?_;refine(Ms (b:=false) (by rw[hold n hn];simp only[Qe,Bool.and_true];rfl)).trans ?_;refine(cF rfl).trans ?_;refine(cT (Sn hn)).trans ?_;refine(cT k2).trans ?_;refine(cF (by show decide (_>=_)=false;exact decide_eq_false (by omega))).trans ?_;rw[au (n:=n) (by omega)]
    ·unfold J5;simp only[aj,Nat.lt_irrefl,decide_false,cond_false]
   obtain⟨t,t1,t2,t3,t4⟩:=N9 BC;refine(Jp Li).trans ?_;dsimp only[Sum.elim_inl,Sum.elim_inr];refine(Jp (LZ _)).trans ?_;refine(cT hw).trans ?_;refine(cT (by rw[OO];exact Qe _)).trans ?_;refine(cT (by rw[uR];exact Qe _)).trans ?_;refine(Jp (OP l N (by omega))).trans ?_;refine(cT (by rw[decide_eq_false Fh];rfl)).trans ?_;refine(Jp t2).trans ?_;refine(Jp t1).trans ?_;refine(cT t3).trans ?_;refine(Jp t2).trans ?_;dsimp only;rw[t4]
end Go.Fn

