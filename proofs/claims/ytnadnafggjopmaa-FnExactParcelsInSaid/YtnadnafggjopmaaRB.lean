import Derived.Test.YtnadnafggjopmaaRA
import Derived.Tactics
/- An abstract interpreter over the code of Go functions, proved sound once: what it answers, the code computes. Conditions: none. -/
set_option autoImplicit false
set_option linter.unusedVariables false
set_option linter.unusedSimpArgs false
set_option maxRecDepth 4000
/-! R17: append. -/
namespace Go.R
section
variable {R : Type} {P : Program} {E : Env} {ω : Own} {a : Act} {w : World} {s : S} {k : S → Option R} {r : R} {o : Oper} {Q : Exit → Act → World → Prop}

theorem arr_ends {w1 : World} {ω1 : Own} {s1 : S} {e : Nat} {cs : Tys} {dp : Bool} {z : List cs.T} {id : Nat} {v : Value} (h : Rel ω1 a w1 (s1.new id (.arr e cs dp z))) (he : Ext ω w ω1 w1) (hd : ∀ d, o.dst = some d → d < a.tmps.size)
    (hv : (Ty.sl e cs).R w1 ω1 (modeOf (bif dp then 2 else 1) id []) v z) (hk : k ((s1.new id (.arr e cs dp z)).setO o.dst (.one (.ref id ((s1.new id (.arr e cs dp z)).ob id).g 0 []))) = some r) :
    Ends ω a w o.dst k r (a.put o.dst v) w1 := by
  refine ends_put' h he hd (t := .one (.ref id ((s1.new id (.arr e cs dp z)).ob id).g 0 [])) ⟨Nat.le_refl _, by simp, fun c' hc' => ?_⟩ hk
  have ho : ((s1.new id (.arr e cs dp z)).ob id).o = .arr e cs dp z := by unfold St.new; rw [St.upd_ob_self]
  rw [cont_arr ho rfl] at hc'
  injection hc' with hc'
  subst hc'
  exact hv

/-- How x stands in append(x, ..): it has no block, or one that is its own. -/
inductive AppX (ω : Own) (w : World) (s1 : S) (e : Nat) (cs : Tys) (x : List cs.T) (v : Value) : Prop where
  | none (ad : Option Addr) (hv : v = .slice ad 0 0) (hx : x = [])
  | some (b id c : Nat) (h0 : id ≠ 0) (arr : Array Value) (hv : v = .slice (some ⟨b, 0, none⟩) x.length c) (hn : x.length ≤ c) (hh : w.heap[b]? = some (.cells arr e (0, 0))) (hsz : arr.size = c * cs.len) (hb : ω b = some (id, [])) (ho : (s1.ob id).o = .gone)
      (hel : ∀ (i : Nat), i < x.length → cs.R w ω (fun _ => .imm) (fun j => arr[i * cs.len + j]?) 0 (x.getD i (zTs cs)))

theorem mode_plain {ω' : Own} {w' : World} {dp : Bool} {id : Nat} {cs : Tys} {g : Nat → Option Value} {i : Nat} {x : cs.T} (hdp : dp = true → cs.plain = true) (h : cs.R w' ω' (fun _ => .imm) g 0 x) :
    cs.R w' ω' ((modeOf (bif dp then 2 else 1) id []).inner i) g 0 x := by
  cases dp with
  | false => exact h
  | true => exact Tys.R_plain cs _ _ _ 0 _ (hdp rfl) h
theorem hd_own {ω' : Own} {w' : World} {dp : Bool} {id e m b n c : Nat} {arr : Array Value} (hh : w'.heap[b]? = some (.cells arr e (0, 0))) (hs : arr.size = c * m) (hb : ω' b = some (id, [])) :
    Hd w' ω' e m (modeOf (bif dp then 2 else 1) id []) (some ⟨b, 0, none⟩) n c := by
  cases dp <;> exact .inr ⟨b, arr, rfl, hh, hs, hb⟩
theorem hd_none {ω' : Own} {w' : World} {dp : Bool} {id e m : Nat} {ad : Option Addr} : Hd w' ω' e m (modeOf (bif dp then 2 else 1) id []) ad 0 0 := by
  cases dp <;> exact .inl ⟨rfl, rfl⟩
theorem getD_app {α : Type} (xs ys : List α) (i : Nat) (z : α) : (xs ++ ys).getD i z = if i < xs.length then xs.getD i z else ys.getD (i - xs.length) z := by
  rw [List.getD_eq_getElem?_getD]
  split
  · rename_i h
    rw [List.getElem?_append_left h, ← List.getD_eq_getElem?_getD]
  · rename_i h
    rw [List.getElem?_append_right (by omega), ← List.getD_eq_getElem?_getD]
theorem app_len {α : Type} (xs ys : List α) : (xs ++ ys).length = xs.length + ys.length := List.length_append
theorem row_lt {i n m j c : Nat} (hi : i < n) (hj : j < m) (hc : n ≤ c) : i * m + j < c * m := by
  have h1 : (i + 1) * m ≤ c * m := Nat.mul_le_mul_right _ (by omega)
  rw [Nat.succ_mul] at h1
  omega
/-- Elements that lie one after the other: old ones, then new ones. -/
theorem app_rows {ω' : Own} {w' : World} {cs : Tys} {xs ys : List cs.T} {olds news : List Value} {row : Nat → Option Value} (hol : olds.length = xs.length * cs.len) (hnl : news.length = ys.length * cs.len)
    (ho : ∀ i, i < xs.length → cs.R w' ω' (fun _ => .imm) (fun j => olds[i * cs.len + j]?) 0 (xs.getD i (zTs cs)))
    (hn : ∀ i, i < ys.length → cs.R w' ω' (fun _ => .imm) (fun j => news[i * cs.len + j]?) 0 (ys.getD i (zTs cs)))
    (hr : ∀ j, j < (xs.length + ys.length) * cs.len → row j = (olds ++ news)[j]?) :
    ∀ i, i < (xs ++ ys).length → cs.R w' ω' (fun _ => .imm) (fun j => row (i * cs.len + j)) 0 ((xs ++ ys).getD i (zTs cs)) := by
  intro i hi
  rw [app_len] at hi
  rw [getD_app]
  split
  · rename_i hlt
    refine Tys.R_get cs _ _ _ 0 _ (fun j hj => ?_) (ho i hlt)
    rw [Nat.zero_add, hr _ (row_lt hi hj (Nat.le_refl _)), List.getElem?_append_left (by rw [hol]; exact row_lt hlt hj (Nat.le_refl _))]
  · rename_i hge
    refine Tys.R_get cs _ _ _ 0 _ (fun j hj => ?_) (hn (i - xs.length) (by omega))
    rw [Nat.zero_add, hr _ (row_lt hi hj (Nat.le_refl _))]
    have e : i * cs.len = xs.length * cs.len + (i - xs.length) * cs.len := by rw [← Nat.add_mul]; congr 1; omega
    rw [List.getElem?_append_right (by rw [hol]; omega), hol]
    congr 1
    omega

theorem append_core {s1 : S} (h : Rel ω a w s1) (hd : ∀ d, o.dst = some d → d < a.tmps.size) {t t' e : Nat} {cs : Tys} {xs ys : List cs.T} {vx vy : Value} {dp : Bool} {id' : Nat} (h0' : id' ≠ 0) {I : TypeInfo} {z : Value}
    (hu : P.underlying t = some (.slice e)) (hie : P.info? e = some I) (hz : I.zero = some z) (hsz : I.size = cs.len) (hzs : z.cells.size = cs.len) (hby : I.bytes ≤ 65536)
    (hx : AppX ω w s1 e cs xs vx) {news : List Value} (hsrc : Src P I.size t' vy ys.length news w) (hnews : ∀ i, i < ys.length → cs.R w ω (fun _ => .imm) (fun j => news[i * cs.len + j]?) 0 (ys.getD i (zTs cs)))
    (hsm : ((xs ++ ys).length : Int) ≤ 1073741824) (hdp : dp = true → cs.plain = true) (ty : Nat)
    (hk : k ((s1.new id' (.arr e cs dp (xs ++ ys))).setO o.dst (.one (.ref id' ((s1.new id' (.arr e cs dp (xs ++ ys))).ob id').g 0 []))) = some r) :
    ∃ v w', (Builtin.append_ #[t, t'] ty #[vx, vy]).run P w = .ok v w' ∧ Ends ω a w o.dst k r (a.put o.dst v) w' := by
  rw [app_len] at hsm
  have hnl : news.length = ys.length * cs.len := by rw [hsrc.newsLen, hsz]
  -- a new row
  have grow : ∀ (base : Option Addr) (c : Nat) (olds : List Value), vx = .slice base xs.length c → c < xs.length + ys.length → olds.length = xs.length * cs.len →
      (Builtin.firstCells I.size xs.length (.slice base xs.length c)).run P w.drew = .ok olds.toArray w.drew →
      (∀ i, i < xs.length → cs.R w ω (fun _ => .imm) (fun j => olds[i * cs.len + j]?) 0 (xs.getD i (zTs cs))) →
      ∃ v w', (Builtin.append_ #[t, t'] ty #[vx, vy]).run P w = .ok v w' ∧ Ends ω a w o.dst k r (a.put o.dst v) w' := by
    intro base c olds hv hc hol hfc hel
    have hfit : Builtin.nextslicecap (xs.length + ys.length) c * I.bytes ≤ 281474976710656 := by
      refine growslice_fits hc ?_
      have h1 : (xs.length + ys.length) * I.bytes ≤ (xs.length + ys.length) * 65536 := Nat.mul_le_mul_left _ hby
      have h2 : xs.length + ys.length ≤ 1073741824 := by omega
      omega
    have hrun := run_append_grow_src (P := P) w t t' ty e I z hu hie hz base xs.length c olds hfc vy ys.length news hsrc hc (by omega) hfit
    rw [← hv] at hrun
    refine ⟨_, _, hrun, ?_⟩
    have hge := grownCap_ge w (xs.length + ys.length) c e
    have hG : Grow w w.drew := Grow.drew w
    have hw1 := h.world (w' := w.drew) (hG.ext ω) hG.block
    have hasz : ((olds ++ news).toArray ++ Builtin.zeroCells z.cells (grownCap w (xs.length + ys.length) c e - (xs.length + ys.length))).size = grownCap w (xs.length + ys.length) c e * cs.len := by
      have h1 : (Builtin.zeroCells z.cells (grownCap w (xs.length + ys.length) c e - (xs.length + ys.length))).size = (grownCap w (xs.length + ys.length) c e - (xs.length + ys.length)) * cs.len := by simp [Builtin.zeroCells, hzs]
      rw [Array.size_append, h1, List.size_toArray, List.length_append, hol, hnl, ← Nat.add_mul, ← Nat.add_mul]
      congr 1
      omega
    have hfin := new_arr (k := k) (r := r) (ω := ω) (w := w) (w1 := w.drew) (ω1 := ω) (s1 := s1) (e := e) (cs := cs) (dp := dp) (x := xs ++ ys) (id := id') (c := grownCap w (xs.length + ys.length) c e) hw1 (hG.ext ω) hd h0' (by rw [app_len]; exact hge) hasz (fun i hi => ?_) hk
    · rw [app_len] at hfin
      exact hfin
    · refine mode_plain hdp ?_
      have hfr : ∀ (g : Nat → Option Value) (x : cs.T), cs.R w ω (fun _ => .imm) g 0 x → cs.R (w.drew.alloc (.cells ((olds ++ news).toArray ++ Builtin.zeroCells z.cells (grownCap w (xs.length + ys.length) c e - (xs.length + ys.length))) e)) (ω.fresh id' w.drew.heap.size) (fun _ => .imm) g 0 x := by
        intro g x hg
        have hG2 := hG.trans (Grow.alloc w.drew (.cells ((olds ++ news).toArray ++ Builtin.zeroCells z.cells (grownCap w (xs.length + ys.length) c e - (xs.length + ys.length))) e))
        exact Tys.R_frame hG2.size cs _ _ _ 0 _ (fun _ => (fresh_ext (id := id') h0' hG2 (Nat.le_refl _)).keeps) (fun _ => rfl) hg
      refine app_rows (row := fun j => ((olds ++ news).toArray ++ Builtin.zeroCells z.cells (grownCap w (xs.length + ys.length) c e - (xs.length + ys.length)))[j]?) hol hnl (fun i hi => hfr _ _ (hel i hi)) (fun i hi => hfr _ _ (hnews i hi)) (fun j hj => ?_) i hi
      have hlt : j < (olds ++ news).toArray.size := by rw [List.size_toArray, List.length_append, hol, hnl, ← Nat.add_mul]; exact hj
      show _ = _
      rw [Array.getElem?_append_left hlt, List.getElem?_toArray]
  cases hx with
  | none ad hv hx0 =>
    subst hx0
    by_cases h0 : ys.length = 0
    · have hys : ys = [] := List.length_eq_zero_iff.1 h0
      subst hys
      have hn0 : news = [] := List.length_eq_zero_iff.1 (by rw [hnl]; simp)
      subst hn0
      refine ⟨.slice ad 0 0, w, ?_, ?_⟩
      · subst hv
        have hlen : ∀ w' : World, (Builtin.lenOf vy).run P w' = .ok 0 w' := hsrc.len
        have hcl := hsrc.cells
        have hcl0 : (Builtin.firstCells I.size 0 vy).run P w = .ok #[] w := hcl
        rcases hsrc.kind with ⟨e', hk'⟩ | hk'
        · cases ad <;> simp [Builtin.append_, run_underlying hu, run_underlying hk', sizeOf, typeInfo, hie, hlen, hcl0, storeCells]
        · cases ad <;> simp [Builtin.append_, run_underlying hu, run_underlying hk', sizeOf, typeInfo, hie, hlen, hcl0, storeCells]
      · have hR := h.bare (id' := id') h0' (.arr e cs dp (([] : List cs.T) ++ [])) (fun _ e => by cases e)
        exact arr_ends hR (freeze_ext _ _ _ h0') hd ⟨ad, 0, 0, rfl, rfl, Nat.le_refl _, hd_none, fun i _ hi => absurd hi (by omega)⟩ hk
    · refine grow ad 0 [] hv (by simp; omega) (by simp) ?_ (fun i hi => absurd hi (by simp))
      cases ad with
      | none => rfl
      | some A => exact run_firstCells_some w.drew I.size 0 A 0 0 [] (by simp) (by simp)
  | some b id c h0 arr hv hn hh hasz hb ho hel =>
    have hal : arr.toList.length = c * cs.len := (Array.length_toList (xs := arr)).trans hasz
    have hmin : min (xs.length * cs.len) (c * cs.len) = xs.length * cs.len := Nat.min_eq_left (Nat.mul_le_mul_right _ hn)
    by_cases hroom : xs.length + ys.length ≤ c
    · subst hv
      have hcl : ∀ j, j < arr.size → w.cell? ⟨b, j, none⟩ = arr[j]? := fun j _ => cell_of_row w b j arr e (0, 0) hh
      have hfit : xs.length * cs.len + news.length ≤ arr.size := by rw [hnl, hasz, ← Nat.add_mul]; exact Nat.mul_le_mul_right _ hroom
      have hrun := run_append_room_src (P := P) w t t' ty e I hu hie b 0 xs.length c vy ys.length news hsrc hroom
        (fun j hj => by rw [hsz, Nat.zero_add, hcl _ (by omega)]; simp; omega)
        (fun j hj => by simp [World.frozen?, hh])
      rw [hsz, Nat.zero_add] at hrun
      refine ⟨_, _, hrun, ?_⟩
      obtain ⟨arr', g1, g2⟩ := setCells_row' b e (0, 0) news (xs.length * cs.len) w arr hh hfit
      have hp := setCells_put b news (xs.length * cs.len) w
      have hR := h.moved (id' := id') h0 h0' hb ho hp (.arr e cs dp (xs ++ ys)) (fun _ e => by cases e)
      have hext := move_ext (id' := id') h0 h0' hb hp
      refine arr_ends hR hext hd ?_ hk
      refine ⟨some ⟨b, 0, none⟩, xs.length + ys.length, c, rfl, app_len _ _, hroom, hd_own g1 ?_ (Own.fresh_self _ _ _), ?_⟩
      · rw [← Array.length_toList, g2]
        simp only [List.length_append, List.length_take, List.length_drop, Array.length_toList]
        omega
      · intro i ad hi had
        injection had with had
        subst had
        refine mode_plain hdp ?_
        have hfr : ∀ (g : Nat → Option Value) (x : cs.T), cs.R w ω (fun _ => .imm) g 0 x → cs.R (w.setCells b (xs.length * cs.len) news) (ω.fresh id' b) (fun _ => .imm) g 0 x := by
          intro g x hg
          exact Tys.R_frame hext.size cs _ _ _ 0 _ (fun _ => hext.keeps) (fun _ => rfl) hg
        have hol : (arr.toList.take (xs.length * cs.len)).length = xs.length * cs.len := by
          rw [List.length_take, hal]; exact hmin
        have := app_rows (row := fun j => (w.setCells b (xs.length * cs.len) news).cell? ⟨b, 0 + j, none⟩) hol hnl (fun i hi => hfr _ _ (Tys.R_get cs _ _ _ 0 _ (fun j hj => by
            rw [Nat.zero_add, List.getElem?_take_of_lt (row_lt hi hj (Nat.le_refl _)), Array.getElem?_toList]) (hel i hi))) (fun i hi => hfr _ _ (hnews i hi)) (fun j hj => by
            have hlt : j < (arr.toList.take (xs.length * cs.len) ++ news).length := by rw [List.length_append, hol, hnl, ← Nat.add_mul]; exact hj
            show _ = _
            rw [Nat.zero_add, cell_of_row _ b j arr' e (0, 0) g1, ← Array.getElem?_toList, g2, List.getElem?_append_left hlt]) i (by rw [app_len]; exact hi)
        refine Tys.R_get cs _ _ _ 0 _ (fun j _ => ?_) this
        rw [Nat.zero_add, Nat.zero_add, Nat.zero_add]
    · refine grow (some ⟨b, 0, none⟩) c (arr.toList.take (xs.length * cs.len)) hv (by omega) ?_ ?_ ?_
      · rw [List.length_take, hal]
        exact hmin
      · refine run_firstCells_some w.drew I.size xs.length ⟨b, 0, none⟩ xs.length c _ ?_ ?_
        · rw [List.length_take, hal, hsz]
          exact hmin
        · intro j u hu
          have hj : j < xs.length * cs.len := by
            have := (List.getElem?_eq_some_iff.1 hu).1
            rw [List.length_take] at this
            omega
          rw [List.getElem?_take_of_lt hj, Array.getElem?_toList] at hu
          rw [Addr.add_mid, Nat.zero_add, ← hu]
          exact cell_of_row w.drew b j arr e (0, 0) hh
      · intro i hi
        exact Tys.R_get cs _ _ _ 0 _ (fun j hj => by
            rw [Nat.zero_add, List.getElem?_take_of_lt (row_lt hi hj (Nat.le_refl _)), Array.getElem?_toList]) (hel i hi)
end
end Go.R

/-! R18: append, joined. -/
namespace Go.R
section
variable {R : Type} {P : Program} {E : Env} {ω : Own} {a : Act} {w : World} {s : S} {k : S → Option R} {r : R} {o : Oper} {Q : Exit → Act → World → Prop}

theorem Src_of {P : Program} {size t' e' : Nat} {v : Value} {n cp : Nat} {ad : Option Addr} {news : List Value} (hk : P.underlying t' = some (.slice e')) (hv : v = .slice ad n cp) (hl : news.length = n * size) (h1 : ∀ u ∈ news, u.oneCell' = true)
    (hc : 0 < n → ∃ b off, ad = some ⟨b, off, none⟩ ∧ ∀ k u, news[k]? = some u → w.cell? ⟨b, off + k, none⟩ = some u) : Src P size t' v n news w := by
  by_cases h0 : n = 0
  · subst h0
    have : news = [] := List.length_eq_zero_iff.1 (by simpa using hl)
    subst this
    cases ad with
    | none => subst hv; exact Src.ofNil w hk cp
    | some A => subst hv; exact Src.ofSlice w hk A 0 cp [] (by simp) (by simp) (by simp)
  · obtain ⟨b, off, f1, f2⟩ := hc (by omega)
    subst hv; subst f1
    exact Src.ofSlice w hk ⟨b, off, none⟩ n cp news hl (fun j u hu => by rw [Addr.add_mid]; exact f2 j u hu) h1

/-- An owned slice, let go of. -/
theorem appX_own (h : Rel ω a w s) {id g hh : Nat} {c : Cont real} {v : Value} (hc : s.cont id g hh [] = some c) (hm : c.md ≠ 0) (hr : RLf w ω s v (.ref id g hh [])) (hok : c.md ≠ 2 ∨ c.cs.plain = true) :
    AppX ω w (s.chg id true .gone) c.e c.cs c.x v := by
  have hR := hr.2.2 c hc
  have hinner : ∀ (i : Nat) (g : Nat → Option Value) (y : c.cs.T), c.cs.R w ω ((modeOf c.md id []).inner i) g 0 y → c.cs.R w ω (fun _ => .imm) g 0 y := by
    intro i g y hy
    rcases hok with hok | hok
    · rcases (md_path hc).2 with h1 | h1 | h1
      · exact absurd h1 hm
      · rw [h1] at hy; exact hy
      · exact absurd h1 hok
    · exact Tys.R_plain c.cs _ _ _ 0 _ hok hy
  obtain ⟨ad, n, cp, e1, e2, e3, e4, e5⟩ := hR
  have key : Hd w ω c.e c.cs.len (.flat (id, [])) ad n cp := by
    rcases (md_path hc).2 with h1 | h1 | h1
    · exact absurd h1 hm
    · rw [h1] at e4; exact e4
    · rw [h1] at e4; exact e4
  subst e2
  rcases key with ⟨f1, f2⟩ | ⟨b, arr, f1, f2, f3, f4⟩
  · refine .none ad ?_ (List.length_eq_zero_iff.1 f2)
    rw [e1, f1]
    congr 1
  · subst f1
    refine .some b id cp (h.ne0 ?_) arr e1 e3 f2 f3 f4 (by rw [St.chg_self]) (fun i hi => ?_)
    · intro e
      rcases (cont_spec hc).2 with ⟨dp, f5, _⟩ | ⟨_, _, _, f5, _⟩ | ⟨f5, _⟩ <;> rw [f5] at e <;> cases e
    have := hinner i _ _ (e5 i _ hi rfl)
    refine Tys.R_get c.cs _ _ _ 0 _ (fun j _ => ?_) this
    simp only [Nat.zero_add]
    rw [cell_of_row w b _ arr c.e (0, 0) f2]

theorem step_append (hE : EnvOk P E) {args : Array Operand} {tys : Array Nat} (ho : o.op = .call ⟨.builtin .append, args, tys⟩) (hsz : args.size = tys.size) (h : Rel ω a w s) (hd : ∀ d, o.dst = some d → d < a.tmps.size) {Φ : FKey → Option (Callee real (Option R))}
    (hk : stepC E (realC R) Φ o s k = some r) : o.wp P a w (Ends ω a w o.dst k r) Q := by
  unfold stepC at hk
  have hszb : Nat.beq args.size tys.size = true := by rw [hsz]; exact Nat.beq_refl _
  simp only [ho, hszb, cond_true] at hk
  obtain ⟨args⟩ := args
  obtain ⟨tys⟩ := tys
  simp only at hk hsz
  have hsz' : args.length = tys.length := by simpa using hsz
  match args, tys, hsz' with
  | [x, y], [t, t'], _ =>
    have hx := ev_ok h E t x
    have hy := ev_ok h E t' y
    simp only [List.zip_cons_cons, List.zip_nil_right, List.map_cons, List.map_nil, builtinV] at hk
    obtain ⟨⟨e, cs⟩, h1, hka⟩ := mapFail_some hk
    obtain ⟨⟨e', cs'⟩, h1', hkb⟩ := mapFail_some hka
    obtain ⟨cx, h2, hkc⟩ := mapFail_some hkb
    obtain ⟨cy, h3, hk3⟩ := mapFail_some hkc
    clear hk hka hkb hkc
    cases hb : (Nat.beq e cx.e && Tys.beq cs cx.cs) with
    | false => simp only [hb] at hk3; cases hk3
    | true =>
      simp only [hb, Bool.not_true, cond_false] at hk3
      rw [Bool.and_eq_true] at hb
      have he := Nat.eq_of_beq_eq_true hb.1
      have hcs := Tys.eq_of_beq hb.2
      subst he; subst hcs
      obtain ⟨hu, j, I, d, hj, hjc, ok⟩ := slOf_ok hE h1
      obtain ⟨hu', _⟩ := slOf_ok hE h1'
      obtain ⟨z, hz, hz2⟩ := ok.zero
      have hI : I.size = cx.cs.len := by rw [ok.size, hjc]
      have hzs : z.cells.size = cx.cs.len := by rw [← Array.length_toList, hz2, zerosOf_length, hjc]
      have hby : I.bytes ≤ 65536 := by rw [ok.bytes]; exact ok.bpos.2
      -- the rest, once x is let go of
      have core : ∀ (s1 : S) (dp : Bool), Rel ω a w s1 → AppX ω w s1 cx.e cx.cs cx.x (a.eval x) →
          (bif (dp || Nat.beq cy.md 2) && !cx.cs.plain then none else
            if hh : Ty.beq (.sl cy.e cy.cs) (.sl cx.e cx.cs) = true then
              bif rSmall (List.append (α := cx.cs.T) cx.x (real.cast hh cy.x)) then k ((s1.new (mkId (o.dst.getD 0) 0 0) (.arr cx.e cx.cs dp (List.append (α := cx.cs.T) cx.x (real.cast hh cy.x)))).setO o.dst (.one (.ref (mkId (o.dst.getD 0) 0 0) ((s1.new (mkId (o.dst.getD 0) 0 0) (.arr cx.e cx.cs dp (List.append (α := cx.cs.T) cx.x (real.cast hh cy.x)))).ob (mkId (o.dst.getD 0) 0 0)).g 0 []))) else none
            else none) = some r → o.wp P a w (Ends ω a w o.dst k r) Q := by
        intro s1 dp hR hX hk
        cases hbad : ((dp || Nat.beq cy.md 2) && !cx.cs.plain) with
        | true => rw [hbad] at hk; cases hk
        | false =>
          rw [hbad] at hk
          simp only [cond_false] at hk
          split at hk
          · rename_i hh
            have hdp : dp = true → cx.cs.plain = true := by
              intro e; subst e
              cases hp : cx.cs.plain with
              | true => rfl
              | false => rw [hp] at hbad; cases hbad
            have hym : cy.md ≠ 2 ∨ cy.cs.plain = true := by
              have hee := Ty.eq_of_beq hh
              injection hee with _ hee
              cases hp : cx.cs.plain with
              | true => exact .inr (by rw [hee]; exact hp)
              | false =>
                refine .inl fun e => ?_
                rw [hp, e] at hbad
                cases dp <;> cases hbad
            cases hs : rSmall (List.append (α := cx.cs.T) cx.x (real.cast hh cy.x)) with
            | false => rw [hs] at hk; cases hk
            | true =>
              rw [hs] at hk
              simp only [cond_true] at hk
              obtain ⟨ye, ycs, yx, ymd⟩ := cy
              have hee := Ty.eq_of_beq hh
              injection hee with hee1 hee2
              simp only at hee1 hee2
              subst hee1; subst hee2
              obtain ⟨ad, cp, news, n1, n2, n3, n4, n5, n6⟩ := slice_src h3 hy hym
              have hsrc : Src P I.size t' (a.eval y) (List.length yx) news w := Src_of hu' n1 (by rw [hI]; exact n3) n4 n5
              obtain ⟨v, w', hrun, hend⟩ := append_core (P := P) (t := t) (t' := t') (xs := cx.x) (ys := yx) (dp := dp) (id' := mkId (o.dst.getD 0) 0 0) hR hd (mkId_ne _ _ _) hu ok.info hz hI hzs hby hX hsrc n6 (of_decide_eq_true hs) hdp o.type hk
              refine wp_val (v := v) (w' := w') ?_ hend
              refine exec_builtin ho ?_
              simp only [builtin, List.map_toArray, List.map_cons, List.map_nil]
              rw [Sem.run_bind, hrun]
              rfl
          · cases hk
      have hk2 := hk3
      clear hk3
      cases hxe : ev E s t x with
      | one l =>
        rw [hxe] at hk2 hx h2
        cases l with
        | nilS e2 cs2 =>
          refine core s false h ?_ hk2
          injection h2 with h2
          obtain ⟨ad, e1⟩ := hx
          refine .none ad e1 ?_
          rw [← h2]
          rfl
        | ref id g hh p =>
          cases p with
          | nil =>
            have hc : s.cont id g hh [] = some cx := h2
            rcases (md_path hc).2 with hm | hm | hm
            · simp only [hm] at hk2; cases hk2
            · simp only [hm] at hk2
              refine core _ (Nat.beq 1 2) (h.gone id true) (appX_own h hc (by rw [hm]; decide) hx (.inl (by rw [hm]; decide))) hk2
            · simp only [hm] at hk2
              have hpl : cx.cs.plain = true := by
                cases hp : cx.cs.plain with
                | true => rfl
                | false => rw [hp] at hk2; cases hk2
              refine core _ (Nat.beq 2 2) (h.gone id true) (appX_own h hc (by rw [hm]; decide) hx (.inr hpl)) hk2
          | cons _ _ => cases hk2
        | val tt xx => cases hk2
        | ptr _ _ _ => cases hk2
        | eptr _ _ _ _ _ _ => cases hk2
        | iptr _ _ _ => cases hk2
        | fn _ _ => cases hk2
        | tst _ _ => cases hk2
        | undef => cases hk2
        | dead => cases hk2
      | agg _ => rw [hxe] at hk2; cases hk2
      | tup _ => rw [hxe] at hk2; cases hk2
  | [], [], _ => cases hk
  | [_], [_], _ => cases hk
  | _ :: _ :: _ :: _, _ :: _ :: _ :: _, _ => cases hk
end
end Go.R

/-! R19: slices of slices. -/
namespace Go.R
section
variable {R : Type} {P : Program} {E : Env} {ω : Own} {a : Act} {w : World} {s : S} {k : S → Option R} {r : R} {o : Oper} {Q : Exit → Act → World → Prop}

theorem sub_length {α : Type} (x : List α) (l h : Nat) (h1 : l ≤ h) (h2 : h ≤ x.length) : ((x.drop l).take (h - l)).length = h - l := by
  rw [List.length_take, List.length_drop]; omega
theorem sub_getD {α : Type} (x : List α) (l h i : Nat) (z : α) (hi : i < h - l) : ((x.drop l).take (h - l)).getD i z = x.getD (l + i) z := by
  rw [List.getD_eq_getElem?_getD, List.getElem?_take_of_lt hi, List.getElem?_drop, ← List.getD_eq_getElem?_getD]

theorem slice_imm {e : Nat} {cs : Tys} {x : List cs.T} {ad : Option Addr} {n cp : Nat} (hR : (Ty.sl e cs).R w ω .imm (.slice ad n cp) x) {l h : Nat} (h1 : l ≤ h) (h2 : h ≤ x.length) :
    (Ty.sl e cs).R w ω .imm (sliced ad l h cp cs.len) ((x.drop l).take (h - l)) := by
  obtain ⟨ad', n', cp', e1, e2, e3, e4, e5⟩ := hR
  injection e1 with f1 f2 f3
  subst f1; subst f2; subst f3; subst e2
  refine ⟨_, h - l, cp - l, rfl, sub_length x l h h1 h2, by omega, ?_, ?_⟩
  · intro hn
    obtain ⟨b, off, g1, g2, g3⟩ := e4 (by omega)
    subst g1
    rw [if_neg (by omega), Option.map_some, Addr.add_mid]
    exact ⟨b, _, rfl, g2, g3⟩
  · intro i A hi hA
    obtain ⟨b, off, g1, g2, g3⟩ := e4 (by omega)
    subst g1
    rw [if_neg (by omega), Option.map_some, Addr.add_mid] at hA
    injection hA with hA
    subst hA
    have := e5 (l + i) ⟨b, off, none⟩ (by omega) rfl
    rw [sub_getD x l h i _ hi]
    refine Tys.R_get cs _ _ _ 0 _ (fun j _ => ?_) this
    simp only [Nat.zero_add]
    congr 2
    rw [Nat.add_mul]
    omega

theorem run_sliceAt {t e : Nat} (hu : P.underlying t = some (.slice e)) (x : Value) (lo hi mx : Option Value) (w : World) : (Instr.sliceAt t x lo hi mx).run P w = (Instr.slice t x lo hi mx).run P w := by
  simp [Instr.sliceAt, run_underlying hu]
theorem elem_of {t e : Nat} (hu : P.underlying t = some (.slice e)) : P.underlying t = some (.slice (P.elem t)) := by
  have : P.elem t = e := by simp [Program.elem, hu]
  rw [this]; exact hu
theorem run_slice_sub {t e : Nat} {I : TypeInfo} (hu : P.underlying t = some (.slice e)) (hi : P.info? e = some I) (w : World) (ad : Option Addr) (n cp : Nat) (hn : n ≤ cp) (lo hi' : Option Value) (l h : Int)
    (hl : (lo = none ∧ l = 0) ∨ lo = some (.int .i64 l)) (hh : (hi' = none ∧ h = (n : Int)) ∨ hi' = some (.int .i64 h)) (h0 : 0 ≤ l) (h1 : l ≤ h) (h2 : h ≤ (n : Int)) :
    (Instr.sliceAt t (.slice ad n cp) lo hi' none).run P w = .ok (sliced ad l.toNat h.toNat cp I.size) w := by
  rw [run_sliceAt hu]
  have he : P.elem t = e := by simp [Program.elem, hu]
  have hs : (sizeOf (P.elem t)).run P w = .ok I.size w := by rw [he]; simp [sizeOf, typeInfo, hi]
  rcases hl with ⟨rfl, rfl⟩ | rfl <;> rcases hh with ⟨rfl, rfl⟩ | rfl
  · rw [run_slice_all w t ad n cp (elem_of hu), hs]; rfl
  · rw [run_slice_h w t ad n cp (elem_of hu) .i64 h (by omega) (by omega), hs]; rfl
  · rw [run_slice_l w t ad n cp (elem_of hu) .i64 l h0 h1, hs]; rfl
  · rw [run_slice_lh w t ad n cp (elem_of hu) .i64 .i64 l h h0 h1 (by omega), hs]; rfl
theorem run_slice_none {t e : Nat} {I : TypeInfo} (hu : P.underlying t = some (.slice e)) (hi : P.info? e = some I) (w : World) (ad : Option Addr) (n cp : Nat) (kh km : IntKind) (lo : Option Value)
    (hl : lo = none ∨ ∃ kl, lo = some (.int kl 0)) :
    (Instr.sliceAt t (.slice ad n cp) lo (some (.int kh 0)) (some (.int km 0))).run P w = .ok (.slice ad 0 0) w := by
  rw [run_sliceAt hu]
  have he : P.elem t = e := by simp [Program.elem, hu]
  have hs : (sizeOf (P.elem t)).run P w = .ok I.size w := by rw [he]; simp [sizeOf, typeInfo, hi]
  rcases hl with rfl | ⟨kl, rfl⟩
  · rw [run_slice_hm w t ad n cp (elem_of hu) kh km 0 0 (by omega) (by omega) (by omega), hs]; rfl
  · rw [run_slice_lhm w t ad n cp (elem_of hu) kl kh km 0 0 0 (by omega) (by omega) (by omega) (by omega), hs]; rfl
theorem const0_ok {x : Option Operand} (h : isConst0 x = true) : ∃ k, x.map a.eval = some (.int k 0) := by
  unfold isConst0 at h
  split at h
  · rename_i k n
    have := of_decide_eq_true h
    subst this
    exact ⟨k, rfl⟩
  · cases h

theorem exec_slice {t : Nat} {x : Operand} {lo hi mx : Option Operand} (ho : o.op = .slice t x lo hi mx) {v : Value} {w' : World} (h : (Instr.sliceAt t (a.eval x) (lo.map a.eval) (hi.map a.eval) (mx.map a.eval)).run P w = .ok v w') : (execOp a.eval o).run P w = .ok (.value v) w' := by
  unfold execOp
  simp only [ho]
  rw [Sem.run_bind, h]
  rfl
theorem step_slice (hE : EnvOk P E) {t : Nat} {x : Operand} {lo hi mx : Option Operand} (ho : o.op = .slice t x lo hi mx) (h : Rel ω a w s) (hd : ∀ d, o.dst = some d → d < a.tmps.size) {Φ : FKey → Option (Callee real (Option R))}
    (hk : stepC E (realC R) Φ o s k = some r) : o.wp P a w (Ends ω a w o.dst k r) Q := by
  have hx := ev_ok h E t x
  unfold stepC at hk
  simp only [ho] at hk
  unfold sliceV at hk
  obtain ⟨⟨e, cs⟩, h1, hk1⟩ := mapFail_some hk
  obtain ⟨c, h2, hk2⟩ := mapFail_some hk1
  clear hk hk1
  obtain ⟨hu, j, I, d, hj, hjc, ok⟩ := slOf_ok hE h1
  have hI : I.size = cs.len := by rw [ok.size, hjc]
  cases hb : (Nat.beq e c.e && Tys.beq cs c.cs) with
  | false => simp only [hb] at hk2; cases hk2
  | true =>
    simp only [hb, cond_true] at hk2
    rw [Bool.and_eq_true] at hb
    have he := Nat.eq_of_beq_eq_true hb.1
    have hcs := Tys.eq_of_beq hb.2
    subst he; subst hcs
    obtain ⟨ad, cp, e1, e2⟩ := cont?_ok h2 hx
    cases h0 : (isConst0 mx && (isConst0 hi && isNo0 lo)) with
    | true =>
      simp only [h0, cond_true] at hk2
      rw [Bool.and_eq_true, Bool.and_eq_true] at h0
      obtain ⟨g1, g2, g3⟩ := h0
      obtain ⟨km, f1⟩ := const0_ok (a := a) g1
      obtain ⟨kh, f2⟩ := const0_ok (a := a) g2
      have f3 : lo.map a.eval = none ∨ ∃ kl, lo.map a.eval = some (.int kl 0) := by
        cases lo with
        | none => exact .inl rfl
        | some q => exact .inr (const0_ok g3)
      refine light_ok h hd (v := .slice ad 0 0) (exec_slice ho ?_) (t := .one (.nilS c.e c.cs)) ⟨ad, rfl⟩ hk2
      rw [e1, f1, f2]
      exact run_slice_none hu ok.info w ad _ cp kh km _ f3
    | false =>
      simp only [h0, cond_false] at hk2
      cases mx with
      | some _ => cases hk2
      | none =>
        simp only at hk2
        obtain ⟨(l : Int), h3, hk3⟩ := mapFail_some hk2
        obtain ⟨(m : Int), h4, hk4⟩ := mapFail_some hk3
        clear hk2 hk3
        have hk5 : (bif rSubOk c.x l m then sliceFin E (realC R) (o.dst.getD 0) s (ev E s t x) c lo.isNone l m (fun v s => k (s.setO o.dst v)) else none) = some r := hk4
        clear hk4
        cases hok : rSubOk c.x l m with
        | false => rw [hok] at hk5; cases hk5
        | true =>
          rw [hok] at hk5
          simp only [cond_true] at hk5
          unfold rSubOk at hok
          rw [Bool.and_eq_true, Bool.and_eq_true] at hok
          have g0 : 0 ≤ l := of_decide_eq_true hok.1
          have g1 : l ≤ m := of_decide_eq_true hok.2.1
          have g2 : m ≤ (List.length c.x : Int) := of_decide_eq_true hok.2.2
          have hlo : (lo.map a.eval = none ∧ l = 0) ∨ lo.map a.eval = some (.int .i64 l) := by
            cases lo with
            | none =>
              refine .inl ⟨rfl, ?_⟩
              injection h3 with h3
              exact h3.symm
            | some q => exact .inr (by rw [Option.map_some, int?_ok h3 (ev_ok h E 0 q)])
          have hhi : (hi.map a.eval = none ∧ m = (List.length c.x : Int)) ∨ hi.map a.eval = some (.int .i64 m) := by
            cases hi with
            | none =>
              refine .inl ⟨rfl, ?_⟩
              injection h4 with h4
              exact h4.symm
            | some q => exact .inr (by rw [Option.map_some, int?_ok h4 (ev_ok h E 0 q)])
          have hrun := run_slice_sub (P := P) hu ok.info w ad (List.length c.x) cp e2 (lo.map a.eval) (hi.map a.eval) l m hlo hhi g0 g1 g2
          rw [hI, ← e1] at hrun
          have hex : (execOp a.eval o).run P w = .ok (.value (sliced ad l.toNat m.toNat cp c.cs.len)) w := exec_slice ho hrun
          have q1 : l.toNat ≤ m.toNat := by omega
          have q2 : m.toNat ≤ List.length c.x := by omega
          have imm : (Ty.sl c.e c.cs).R w ω .imm (a.eval x) c.x → k (s.setO o.dst (.one (.val (.sl c.e c.cs) (real.sub c.x l m)))) = some r → o.wp P a w (Ends ω a w o.dst k r) Q := by
            intro hR hkk
            rw [e1] at hR
            exact light_ok h hd hex (t := .one (.val (.sl c.e c.cs) (real.sub c.x l m))) (slice_imm hR q1 q2) hkk
          unfold sliceFin at hk5
          cases hxe : ev E s t x with
          | one q =>
            rw [hxe] at hk5 hx h2
            cases q with
            | val tt xx =>
              cases tt with
              | sl e' cs' =>
                have h2' : (⟨e', cs', xx, 0⟩ : Cont real) = c := Option.some.inj h2
                refine imm ?_ hk5
                rw [← h2']
                exact hx
              | _ => cases h2
            | nilS e' cs' =>
              have h2' : (⟨e', cs', real.nilV e' cs', 1⟩ : Cont real) = c := Option.some.inj h2
              refine imm ?_ hk5
              rw [← h2']
              obtain ⟨ad', e1'⟩ := hx
              exact ⟨ad', 0, 0, e1', rfl, Nat.le_refl _, fun hn => absurd hn (by omega), fun i _ hi => absurd hi (by omega)⟩
            | ref id g hh p =>
              cases p with
              | cons _ _ => cases hk5
              | nil =>
                have hc : s.cont id g hh [] = some c := h2
                have hR := hx.2.2 c hc
                simp only at hk5
                cases hm0 : Nat.beq c.md 0 with
                | true =>
                  have hm := Nat.eq_of_beq_eq_true hm0
                  rw [hm0] at hk5
                  rw [hm] at hR
                  exact imm hR hk5
                | false =>
                  rw [hm0] at hk5
                  simp only [cond_false] at hk5
                  have hm : c.md ≠ 0 := by intro e; rw [e] at hm0; cases hm0
                  have hsp := cont_spec hc
                  have harr : ∃ dp, (s.ob id).o = .arr c.e c.cs dp c.x ∧ c.md = bif dp then 2 else 1 := by
                    rcases hsp.2 with ⟨dp, f1, _, f3⟩ | ⟨_, _, _, _, f2, _⟩ | ⟨_, _, f3⟩
                    · exact ⟨dp, f1, f3⟩
                    · exact absurd rfl f2
                    · exact absurd f3 hm
                  obtain ⟨dp, hob, hmd⟩ := harr
                  cases htr : (E.trunc (o.dst.getD 0) && lo.isNone) with
                  | false =>
                    rw [htr] at hk5
                    simp only [cond_false] at hk5
                    -- it is nobody's own from now on
                    have hne : id ≠ 0 := h.ne0 (by rw [hob]; exact fun e => by cases e)
                    have hfr := h.freeze hob true
                    have hx' := (freeze_tr (ω := ω) (w := w) hne h.dom hob true id).ref _ g hh [] hx
                    have hc' : (s.chg id true (.imm c.e c.cs c.x)).cont id g hh [] = some ⟨c.e, c.cs, c.x, 0⟩ := by
                      unfold St.cont Slot.cont
                      rw [St.chg_self]
                      simp only
                      rw [hsp.1, beq_self]
                      rfl
                    have hR' := hx'.2.2 _ hc'
                    simp only [modeOf] at hR'
                    rw [e1] at hR'
                    exact wp_val hex (ends_put' hfr (freeze_ext _ _ _ hne) hd (t := .one (.val (.sl c.e c.cs) (real.sub c.x l m))) (slice_imm hR' q1 q2) hk5)
                  | true =>
                    rw [htr] at hk5
                    simp only [cond_true] at hk5
                    cases hbad : (Nat.beq c.md 2 && !c.cs.plain) with
                    | true => rw [hbad] at hk5; cases hk5
                    | false =>
                      rw [hbad] at hk5
                      simp only [cond_false] at hk5
                      rw [Bool.and_eq_true] at htr
                      have hl0 : l = 0 := by
                        cases lo with
                        | none => injection h3 with h3; exact h3.symm
                        | some _ => cases htr.2
                      have hdp : Nat.beq c.md 2 = true → c.cs.plain = true := by
                        intro e
                        rw [e] at hbad
                        cases hp : c.cs.plain with
                        | true => rfl
                        | false => rw [hp] at hbad; cases hbad
                      have hX := appX_own h hc hm hx (by
                        by_cases e : c.md = 2
                        · exact .inr (hdp (by rw [e]; rfl))
                        · exact .inl e)
                      have hz : real.sub c.x l m = ((List.drop 0 c.x).take (m.toNat - 0) : List c.cs.T) := by rw [hl0]; rfl
                      subst hl0
                      have hgn := h.gone id true
                      cases hX with
                      | none ad' hv hx0 =>
                        rw [e1] at hv
                        injection hv with v1 v2 v3
                        subst v3
                        have hm0 : m.toNat = 0 := by omega
                        have hR2 := hgn.bare (id' := mkId (o.dst.getD 0) 0 0) (mkId_ne _ _ _) (.arr c.e c.cs (Nat.beq c.md 2) (real.sub c.x (0 : Int) m)) (fun _ e => by cases e)
                        refine wp_val hex (arr_ends hR2 (freeze_ext _ _ _ (mkId_ne _ _ _)) hd ?_ hk5)
                        refine ⟨ad, 0, 0, ?_, ?_, Nat.le_refl _, hd_none, fun i _ hi => absurd hi (by omega)⟩
                        · simp [sliced, hm0]
                        · rw [hz]
                          exact (sub_length c.x 0 m.toNat (by omega) (by omega)).trans (by omega)
                      | some b id0 cp0 h00 arr hv hn hh' hsz hb' ho' hel =>
                        rw [e1] at hv
                        injection hv with v1 v2 v3
                        subst v3; subst v1
                        have hR2 := hgn.moved (id' := mkId (o.dst.getD 0) 0 0) h00 (mkId_ne _ _ _) hb' ho' (Put.refl w b) (.arr c.e c.cs (Nat.beq c.md 2) (real.sub c.x (0 : Int) m)) (fun _ e => by cases e)
                        have hext := move_ext (ω := ω) (id' := mkId (o.dst.getD 0) 0 0) h00 (mkId_ne _ _ _) hb' (Put.refl w b)
                        refine wp_val hex (arr_ends hR2 hext hd ?_ hk5)
                        refine ⟨some ⟨b, 0, none⟩, m.toNat, cp, ?_, ?_, by omega, hd_own hh' hsz (Own.fresh_self _ _ _), ?_⟩
                        · simp [sliced, Addr.add_mid]
                        · rw [hz]
                          exact (sub_length c.x 0 m.toNat (by omega) (by omega)).trans (by omega)
                        · intro i A hi hA
                          injection hA with hA
                          subst hA
                          refine mode_plain hdp ?_
                          rw [hz, sub_getD c.x 0 m.toNat i _ (by omega), show (0 + i) = i from Nat.zero_add i]
                          have hrow := Tys.R_frame hext.size c.cs _ _ _ 0 _ (fun _ => hext.keeps) (fun _ => rfl) (hel i (by omega))
                          refine Tys.R_get c.cs _ _ _ 0 _ (fun j _ => ?_) hrow
                          simp only [Nat.zero_add]
                          rw [cell_of_row w b _ arr c.e (0, 0) hh']
            | ptr _ _ _ => cases h2
            | eptr _ _ _ _ _ _ => cases h2
            | iptr _ _ _ => cases h2
            | fn _ _ => cases h2
            | tst _ _ => cases h2
            | undef => cases h2
            | dead => cases h2
          | agg _ => rw [hxe] at h2; cases h2
          | tup _ => rw [hxe] at h2; cases h2
end
end Go.R

/-! R20: stores. -/
namespace Go.R
section
variable {R : Type} {P : Program} {E : Env} {ω : Own} {a : Act} {w : World} {s : S} {k : S → Option R} {r : R} {o : Oper} {Q : Exit → Act → World → Prop}

theorem run_storeAt' {t : Nat} {I : TypeInfo} (hi : P.info? t = some I) {b off T : Nat} {arr : Array Value} {v : Value} (hh : w.heap[b]? = some (.cells arr T (0, 0))) (hl : v.cells.size = I.size) (hfit : off + v.cells.size ≤ arr.size)
    (h1 : ∀ u ∈ v.cells.toList, u.oneCell' = true) : (Instr.storeAt t (.pointer (some ⟨b, off, none⟩)) v).run P w = .ok () (w.setCells b off v.cells.toList) := by
  have := run_storeCells_cells (P := P) b off v.cells.toList 0 w (fun j hj => by
      rw [cell_of_row w b _ arr T (0, 0) hh]
      have : j < v.cells.size := by simpa using hj
      simp
      omega) (fun j hj => by simp [World.frozen?, hh]) h1
  simp only [Nat.add_zero] at this
  simp [Instr.storeAt, Instr.sureAddr, storeVar, sizeOf, typeInfo, hi, hl, this]

/-! ### A variable -/
theorem put_ext {w' : World} {b id : Nat} {q : List (Nat × Nat)} (h0 : id ≠ 0) (hb : ω b = some (id, q)) (hp : Put w w' b) : Ext ω w ω w' :=
  ⟨hp.os, hp.tape, hp.output, by rw [hp.size]; exact Nat.le_refl _, fun c hc hn => by
    have : c ≠ b := fun e => by subst e; exact hn.ne hb h0
    exact ⟨hp.block c this, rfl⟩⟩
theorem chg_blk_tr {w' : World} {b id : Nat} {cells cells' : List L} (h0 : id ≠ 0) (hd : ∀ b k, ω b = some k → b < w.heap.size) (hb : ω b = some (id, [])) (ho : (s.ob id).o = .blk cells) (hp : Put w w' b) (j : Nat) : Tr w ω s w' ω (s.chg id true (.blk cells')) j := by
  by_cases e : j = id
  · subst e
    have ho' : ((s.chg j true (.blk cells')).ob j).o = .blk cells' := by rw [St.chg_self]
    have hg : ((s.chg j true (.blk cells')).ob j).g = (s.ob j).g := by rw [St.chg_self]
    have hh : ((s.chg j true (.blk cells')).ob j).h = bif true then (s.ob j).h + 1 else (s.ob j).h := by rw [St.chg_self]
    have hnc : ∀ g h p c, (s.chg j true (.blk cells')).cont j g h p = some c → False := by
      intro g h p c hc
      unfold St.cont Slot.cont at hc
      rw [ho'] at hc
      cases hq : Nat.beq ((s.chg j true (.blk cells')).ob j).g g <;> rw [hq] at hc <;> cases hc
    exact
    { ref := fun v g h p hr => ⟨by rw [hg]; exact hr.1, by rw [hg, hh]; exact h_step true hr.2.1, fun c hc => (hnc _ _ _ _ hc).elim⟩
      ptr := fun v g off hr => ⟨by rw [hg]; exact hr.1, fun hg' _ _ => by rw [hg] at hg'; exact hr.2 hg' cells ho⟩
      eptr := fun v g h p i off hr => ⟨by rw [hg]; exact hr.1, by rw [hg, hh]; exact h_step true hr.2.1, fun c hc => (hnc _ _ _ _ hc).elim⟩ }
  · refine Same.tr ⟨St.chg_ne _ _ _ e, fun c kk hc hk hj => ?_⟩ (put_ext h0 hb hp) hd
    have : c ≠ b := fun ec => by subst ec; rw [hb] at hk; injection hk with hk; subst hk; exact e hj.symm
    exact ⟨hp.block c this, rfl⟩
theorem Rel.store_blk (h : Rel ω a w s) {w' : World} {b id T : Nat} {cells cells' : List L} {arr : Array Value} (hb : ω b = some (id, [])) (ho : (s.ob id).o = .blk cells) (hp : Put w w' b)
    (hh : w'.heap[b]? = some (.cells arr T (0, 0))) (hc' : All2 (RLf w ω s) arr.toList cells') (h0 : id ≠ 0 := h.ne0 (by rw [ho]; exact fun e => by cases e)) : Rel ω a w' (s.chg id true (.blk cells')) where
  inj := h.inj
  dom c kk h1 := by rw [hp.size]; exact h.dom c kk h1
  defers := h.defers
  own0 := by rw [St.chg_ne _ _ _ (Ne.symm h0)]; exact h.own0
  slots i := RTV.frame (put_ext h0 hb hp) (chg_blk_tr h0 h.dom hb ho hp) (h.slots i)
  blks j cs hc := by
    by_cases e : j = id
    · subst e
      rw [St.chg_self] at hc
      injection hc with hc
      subst hc
      exact ⟨b, arr, T, hb, hh, hc'.mono fun _ _ hl => RLf.frame (put_ext h0 hb hp) (chg_blk_tr h0 h.dom hb ho hp) hl⟩
    · rw [St.chg_ne _ _ _ e] at hc
      obtain ⟨c, arr', T', h1, h2, h3⟩ := h.blks j cs hc
      have : c ≠ b := fun ec => by subst ec; rw [hb] at h1; injection h1 with h1; injection h1 with h1; exact e h1.symm
      exact ⟨c, arr', T', h1, (hp.block c this).trans h2, h3.mono fun _ _ hl => RLf.frame (put_ext h0 hb hp) (chg_blk_tr h0 h.dom hb ho hp) hl⟩

/-! ### An element -/
theorem setCell_ok : ∀ (cs : Tys) (md : Nat → Md) (g g' : Nat → Option Value) (j0 j : Nat) (y y' : cs.T) (t : Ty) (v : t.T) (u : Value), cs.R w ω md g j0 y → setCell (A := real) cs y j ⟨t, v⟩ = some y' → t.R w ω (md (j0 + j)) u v →
    g' (j0 + j) = some u → (∀ i, i ≠ j0 + j → g' i = g i) → cs.R w ω md g' j0 y'
  | .nil, _, _, _, _, _, _, _, _, _, _, _, h, _, _, _ => by cases h
  | .cons t0 ts, md, g, g', j0, 0, y, y', t, v, u, hr, h, hv, h1, h2 => by
    simp only [setCell] at h
    split at h
    · rename_i hb
      injection h with h
      subst h
      obtain rfl := Ty.eq_of_beq hb
      have hh : hdT (cnT (t := t) (ts := ts) v (tlT y)) = v := hd_cn _ _
      have ht : tlT (cnT (t := t) (ts := ts) v (tlT y)) = tlT y := tl_cn _ _
      refine ⟨⟨u, h1, ?_⟩, ?_⟩
      · show t.R w ω (md j0) u (hdT (cnT v (tlT y)))
        rw [hh]; exact hv
      · show ts.R w ω md g' (j0 + 1) (tlT (cnT v (tlT y)))
        rw [ht]
        exact Tys.R_get ts md g g' (j0 + 1) _ (fun k _ => h2 _ (by omega)) hr.2
    · cases h
  | .cons t0 ts, md, g, g', j0, j + 1, y, y', t, v, u, hr, h, hv, h1, h2 => by
    simp only [setCell] at h
    cases hs : setCell (A := real) ts (real.tl y) j ⟨t, v⟩ with
    | none => rw [hs] at h; cases h
    | some z =>
      rw [hs] at h
      have h := Option.some.inj h
      subst h
      have hh : hdT (cnT (t := t0) (ts := ts) (hdT y) z) = hdT y := hd_cn _ _
      have ht : tlT (cnT (t := t0) (ts := ts) (hdT y) z) = z := tl_cn _ _
      obtain ⟨⟨v0, q1, q2⟩, q3⟩ := hr
      refine ⟨⟨v0, ?_, ?_⟩, ?_⟩
      · rw [h2 j0 (by omega)]; exact q1
      · show t0.R w ω (md j0) v0 (hdT (cnT (hdT y) z))
        rw [hh]; exact q2
      · show ts.R w ω md g' (j0 + 1) (tlT (cnT (hdT y) z))
        rw [ht]
        refine setCell_ok ts md g g' (j0 + 1) j _ z t v u q3 hs ?_ ?_ ?_
        · rw [show j0 + 1 + j = j0 + (j + 1) by omega]; exact hv
        · rw [show j0 + 1 + j = j0 + (j + 1) by omega]; exact h1
        · intro i hi; exact h2 i (by omega)

theorem pack1_md (h : Rel ω a w s) {deep : Bool} {t : Ty} {l : L} {v : Value} {x : t.T} {s' : S} {md : Md} (hmd : deep = false → md = .imm) (hl : RLf w ω s v l) (hp : pack1 (A := real) deep t l s = some (x, s')) :
    ∃ ω', Passes ω a w s ω' s' ∧ (deep = true → ω' = ω) ∧ t.R w ω' md v x := by
  cases deep with
  | false =>
    rw [hmd rfl]
    obtain ⟨ω', p, q⟩ := pack1_ok h hl hp
    exact ⟨ω', p, (fun e => by cases e), q⟩
  | true =>
    cases l with
    | val u y =>
      cases u with
      | sl e cs => cases t <;> cases hp
      | _ =>
        simp only [pack1] at hp
        split at hp
        · rename_i hb
          injection hp with hp
          injection hp with h1 h2
          subst h1; subst h2
          obtain rfl := Ty.eq_of_beq hb
          exact ⟨ω, Passes.refl h, fun _ => rfl, hl⟩
        · cases hp
    | nilS e cs =>
      cases t with
      | sl e' cs' =>
        simp only [pack1] at hp
        split at hp
        · rename_i hb
          injection hp with hp
          injection hp with h1 h2
          subst h1; subst h2
          have := Ty.eq_of_beq hb
          injection this with e1 e2
          subst e1; subst e2
          obtain ⟨ad, e1⟩ := hl
          refine ⟨ω, Passes.refl h, fun _ => rfl, ad, 0, 0, e1, rfl, Nat.le_refl _, ?_, fun i ad' hi => absurd hi (by omega)⟩
          cases md with
          | imm => exact fun hn => absurd hn (by omega)
          | flat _ => exact .inl ⟨rfl, rfl⟩
          | deep _ => exact .inl ⟨rfl, rfl⟩
        · cases hp
      | _ => cases hp
    | ref id g hh p =>
      cases p with
      | cons _ _ => cases t <;> cases hp
      | nil =>
        simp only [pack1] at hp
        cases hg : Nat.beq (s.ob id).g g with
        | false => rw [hg] at hp; cases hp
        | true =>
          rw [hg] at hp
          simp only [cond_true] at hp
          cases hob : (s.ob id).o with
          | arr e cs dp y => rw [hob] at hp; simp only at hp; split at hp <;> cases hp
          | imm e cs y => rw [hob] at hp; cases hp
          | blk _ => rw [hob] at hp; cases hp
          | gone => rw [hob] at hp; cases hp
    | _ => cases t <;> cases hp

theorem pack1_ob {deep : Bool} {t : Ty} {l : L} {x : t.T} {s s' : S} (hp : pack1 (A := real) deep t l s = some (x, s')) (j : Nat) : s'.ob j = s.ob j ∨ ∃ e cs y, (s'.ob j).o = .imm e cs y := by
  cases l with
  | val u y =>
    cases u <;> cases deep <;> (simp only [pack1, cond_false, cond_true] at hp; first
      | (split at hp
         · injection hp with hp; injection hp with _ h2; subst h2; exact .inl rfl
         · cases hp)
      | cases hp)
  | nilS e cs =>
    cases t with
    | sl e' cs' =>
      simp only [pack1] at hp
      split at hp
      · injection hp with hp; injection hp with _ h2; subst h2; exact .inl rfl
      · cases hp
    | _ => cases hp
  | ref id g hh p =>
    cases p with
    | cons _ _ => cases t <;> cases hp
    | nil =>
      simp only [pack1] at hp
      cases hg : Nat.beq (s.ob id).g g with
      | false => rw [hg] at hp; cases hp
      | true =>
        rw [hg] at hp
        simp only [cond_true] at hp
        cases hob : (s.ob id).o with
        | arr e cs dp y =>
          rw [hob] at hp
          simp only at hp
          split at hp
          · cases deep with
            | true => cases hp
            | false =>
              have hp := Option.some.inj hp
              injection hp with _ h2
              subst h2
              by_cases e' : j = id
              · subst e'
                exact .inr ⟨e, cs, y, by rw [St.chg_self]⟩
              · exact .inl (St.chg_ne _ _ _ e')
          · cases hp
        | imm e cs y =>
          rw [hob] at hp
          cases deep with
          | true => cases hp
          | false =>
            simp only [cond_false] at hp
            split at hp
            · injection hp with hp; injection hp with _ h2; subst h2; exact .inl rfl
            · cases hp
        | blk _ => rw [hob] at hp; cases hp
        | gone => rw [hob] at hp; cases hp
  | _ => cases t <;> cases hp

theorem storeCellsV_ok {deep : Bool} {md : Nat → Md} (hmd : deep = false → ∀ j, md j = .imm) : ∀ (ls : List L) (us : List Value) (cs : Tys) (y y' : cs.T) (j : Nat) (g : Nat → Option Value) (ω : Own) (s s' : S), Rel ω a w s → All2 (RLf w ω s) us ls → cs.R w ω md g 0 y →
    storeCellsV (A := real) deep cs y j ls s = some (y', s') →
    ∃ ω', Passes ω a w s ω' s' ∧ (deep = true → ω' = ω) ∧ (∀ i, s'.ob i = s.ob i ∨ ∃ e cs y, (s'.ob i).o = .imm e cs y) ∧
      ∀ g' : Nat → Option Value, (∀ k u, us[k]? = some u → g' (j + k) = some u) → (∀ i, i < j ∨ j + us.length ≤ i → g' i = g i) → cs.R w ω' md g' 0 y'
  | [], [], cs, y, y', j, g, ω, s, s', h, _, hr, hs => by
    simp only [storeCellsV] at hs
    injection hs with hs
    injection hs with h1 h2
    subst h1; subst h2
    refine ⟨ω, Passes.refl h, fun _ => rfl, fun _ => .inl rfl, fun g' _ h2 => ?_⟩
    have : g' = g := funext fun i => h2 i (by simp; omega)
    rw [this]; exact hr
  | [], _ :: _, _, _, _, _, _, _, _, _, _, h2, _, _ => h2.elim
  | _ :: _, [], _, _, _, _, _, _, _, _, _, h2, _, _ => h2.elim
  | l :: ls, u :: us, cs, y, y', j, g, ω, s, s', h, h2, hr, hs => by
    simp only [storeCellsV] at hs
    cases hc : cellAt (A := real) cs y j with
    | none => rw [hc] at hs; cases hs
    | some q =>
      obtain ⟨t, y0⟩ := q
      rw [hc] at hs
      simp only at hs
      cases hp : pack1 (A := real) deep t l s with
      | none => rw [hp] at hs; cases hs
      | some q =>
        obtain ⟨v, s1⟩ := q
        rw [hp] at hs
        simp only at hs
        cases ht : setCell (A := real) cs y j ⟨t, v⟩ with
        | none => rw [ht] at hs; cases hs
        | some y1 =>
          rw [ht] at hs
          simp only at hs
          obtain ⟨ω1, p1, e1, r1⟩ := pack1_md (md := md j) h (fun e => hmd e j) h2.1 hp
          have hr1 : cs.R w ω1 md g 0 y := by
            cases deep with
            | true => rw [e1 rfl]; exact hr
            | false =>
              refine Tys.R_frame (Nat.le_refl _) cs md g g 0 y (fun j => ?_) (fun _ => rfl) hr
              rw [hmd rfl j]
              exact p1.ext.keeps
          have hr2 := setCell_ok cs md g (fun i => if i = j then some u else g i) 0 j y y1 t v u hr1 ht (by rw [Nat.zero_add]; exact r1) (by simp) (fun i hi => by
            rw [Nat.zero_add] at hi
            simp [hi])
          obtain ⟨ω2, p2, e2, o2, r2⟩ := storeCellsV_ok hmd ls us cs y1 y' (j + 1) _ ω1 s1 s' p1.rel (h2.2.mono fun _ _ hl => RLf.frame p1.ext p1.tr hl) hr2 hs
          refine ⟨ω2, p1.trans p2, fun e => (e2 e).trans (e1 e), fun i => ?_, fun g' g1 g2 => ?_⟩
          · rcases o2 i with o2 | o2
            · rcases pack1_ob hp i with o1 | ⟨e, c', z, o1⟩
              · exact .inl (o2.trans o1)
              · exact .inr ⟨e, c', z, by rw [o2]; exact o1⟩
            · exact .inr o2
          · refine r2 g' (fun k v' hv' => ?_) (fun i hi => ?_)
            · have := g1 (k + 1) v' (by simpa using hv')
              rwa [show j + (k + 1) = j + 1 + k by omega] at this
            · by_cases hij : i = j
              · subst hij
                have := g1 0 u rfl
                simpa using this
              · simp only [hij, if_false]
                exact g2 i (by simp only [List.length_cons]; omega)
end
end Go.R

/-! R21: stores, joined. -/
namespace Go.R
section
variable {R : Type} {P : Program} {E : Env} {ω : Own} {a : Act} {w : World} {s : S} {k : S → Option R} {r : R} {o : Oper} {Q : Exit → Act → World → Prop}

theorem md_pos (dp : Bool) : (bif dp then 2 else 1) ≠ 0 := by cases dp <;> decide
theorem cellAt_lt : ∀ (cs : Tys) (y : cs.T) (j : Nat) q, cellAt (A := real) cs y j = some q → j < cs.len
  | .nil, _, _, _, h => by cases h
  | .cons t ts, y, 0, _, _ => by simp [Tys.len]
  | .cons t ts, y, j + 1, q, h => by
    have := cellAt_lt ts _ j q h
    simp [Tys.len]; omega
theorem storeCellsV_fit {deep : Bool} : ∀ (ls : List L) (cs : Tys) (y : cs.T) (j : Nat) (s : S) q, storeCellsV (A := real) deep cs y j ls s = some q → ls = [] ∨ j + ls.length ≤ cs.len
  | [], _, _, _, _, _, _ => .inl rfl
  | l :: ls, cs, y, j, s, q, h => by
    simp only [storeCellsV] at h
    cases hc : cellAt (A := real) cs y j with
    | none => rw [hc] at h; cases h
    | some z =>
      obtain ⟨t, y0⟩ := z
      have hlt := cellAt_lt cs y j _ hc
      rw [hc] at h
      simp only at h
      cases hp : pack1 (A := real) deep t l s with
      | none => rw [hp] at h; cases h
      | some z =>
        obtain ⟨v, s1⟩ := z
        rw [hp] at h
        simp only at h
        cases ht : setCell (A := real) cs y j ⟨t, v⟩ with
        | none => rw [ht] at h; cases h
        | some y1 =>
          rw [ht] at h
          rcases storeCellsV_fit ls cs y1 (j + 1) s1 q h with h | h
          · subst h; exact .inr (by simp; omega)
          · exact .inr (by simp only [List.length_cons]; omega)

theorem inner_frame {w' : World} {md id b i : Nat} {cs : Tys} {g : Nat → Option Value} {y : cs.T} (hb : ω b = some (id, [])) (hp : Put w w' b) (h : cs.R w ω ((modeOf md id []).inner i) g 0 y) : cs.R w' ω ((modeOf md id []).inner i) g 0 y := by
  refine Tys.R_frame (by rw [hp.size]; exact Nat.le_refl _) cs _ _ _ 0 _ (fun j c hc hk => ?_) (fun _ => rfl) h
  have : c ≠ b := by
    intro e
    subst e
    rcases hk with hk | ⟨k, h1, h2⟩
    · rw [hb] at hk; cases hk
    · rw [hb] at h1
      injection h1 with h1
      subst h1
      unfold modeOf at h2
      split at h2
      · exact h2.elim
      · exact h2.elim
      · have := h2.2
        simp [kpath] at this
  exact ⟨hp.block c this, rfl⟩

theorem chg_arr_tr {w' : World} {b id e : Nat} {cs : Tys} {dp : Bool} {x x' : List cs.T} (h0 : id ≠ 0) (hd : ∀ b k, ω b = some k → b < w.heap.size) (hb : ω b = some (id, [])) (ho : (s.ob id).o = .arr e cs dp x) (hp : Put w w' b) (hl : x'.length = x.length)
    (re : ∀ v, (Ty.sl e cs).R w ω (modeOf (bif dp then 2 else 1) id []) v x → (Ty.sl e cs).R w' ω (modeOf (bif dp then 2 else 1) id []) v x') (j : Nat) : Tr w ω s w' ω (s.chg id true (.arr e cs dp x')) j := by
  by_cases ej : j = id
  · subst ej
    have ho' : ((s.chg j true (.arr e cs dp x')).ob j).o = .arr e cs dp x' := by rw [St.chg_self]
    have hg : ((s.chg j true (.arr e cs dp x')).ob j).g = (s.ob j).g := by rw [St.chg_self]
    have hh : ((s.chg j true (.arr e cs dp x')).ob j).h = (s.ob j).h + 1 := by rw [St.chg_self]; rfl
    have hh' : ((s.chg j true (.arr e cs dp x')).ob j).h = bif true then (s.ob j).h + 1 else (s.ob j).h := hh
    -- only the whole is still seen
    have key : ∀ (g h : Nat) (p : Pth) (c : Cont real), h ≤ (s.ob j).h + (if g = (s.ob j).g then 0 else h) → (s.chg j true (.arr e cs dp x')).cont j g h p = some c → p = [] ∧ g = (s.ob j).g ∧ c = ⟨e, cs, x', bif dp then 2 else 1⟩ := by
      intro g h p c hle hc
      obtain ⟨q1, q2⟩ := cont_spec hc
      rw [hg] at q1
      rw [if_pos q1.symm] at hle
      rcases q2 with ⟨dp', f1, f2, f3⟩ | ⟨_, _, _, _, _, f3, _⟩ | ⟨f1, _, _⟩
      · rw [ho'] at f1
        refine ⟨f2, q1.symm, ?_⟩
        obtain ⟨ce, ccs, cx, cmd⟩ := c
        simp only at f1 f3
        injection f1 with g1 g2 g3 g4
        subst g1; subst g2; subst g3; subst f3
        have := eq_of_heq g4
        rw [this]
      · rw [hh] at f3
        omega
      · rw [ho'] at f1; cases f1
    exact
    { ref := fun v g h p hr => ⟨by rw [hg]; exact hr.1, by rw [hg, hh']; exact h_step true hr.2.1, fun c hc => by
        obtain ⟨q1, q2, q3⟩ := key g h p c hr.2.1 hc
        subst q1; subst q3
        exact re v (hr.2.2 _ (cont_arr (h := h) ho q2))⟩
      ptr := fun v g off hr => ⟨by rw [hg]; exact hr.1, fun _ cells hc => by rw [ho'] at hc; cases hc⟩
      eptr := fun v g h p i off hr => ⟨by rw [hg]; exact hr.1, by rw [hg, hh']; exact h_step true hr.2.1, fun c hc hm => by
        obtain ⟨q1, q2, q3⟩ := key g h p c hr.2.1 hc
        subst q1; subst q3
        obtain ⟨r1, r2, r3, v', r4⟩ := hr.2.2 _ (cont_arr (h := h) ho q2) (md_pos dp)
        refine ⟨r1, ?_, r3, v', re v' r4⟩
        show IV.i i < ((x'.length : Nat) : Int)
        rw [hl]
        exact r2⟩ }
  · refine Same.tr ⟨St.chg_ne _ _ _ ej, fun c kk hc hk hj => ?_⟩ (put_ext h0 hb hp) hd
    have : c ≠ b := fun ec => by subst ec; rw [hb] at hk; injection hk with hk; subst hk; exact ej hj.symm
    exact ⟨hp.block c this, rfl⟩
theorem Rel.store_arr (h : Rel ω a w s) {w' : World} {b id e : Nat} {cs : Tys} {dp : Bool} {x x' : List cs.T} (hb : ω b = some (id, [])) (ho : (s.ob id).o = .arr e cs dp x) (hp : Put w w' b) (hl : x'.length = x.length)
    (re : ∀ v, (Ty.sl e cs).R w ω (modeOf (bif dp then 2 else 1) id []) v x → (Ty.sl e cs).R w' ω (modeOf (bif dp then 2 else 1) id []) v x') (h0 : id ≠ 0 := h.ne0 (by rw [ho]; exact fun e => by cases e)) : Rel ω a w' (s.chg id true (.arr e cs dp x')) where
  inj := h.inj
  dom c kk h1 := by rw [hp.size]; exact h.dom c kk h1
  defers := h.defers
  own0 := by rw [St.chg_ne _ _ _ (Ne.symm h0)]; exact h.own0
  slots i := RTV.frame (put_ext h0 hb hp) (chg_arr_tr h0 h.dom hb ho hp hl re) (h.slots i)
  blks j cells hc := by
    by_cases ej : j = id
    · subst ej
      rw [St.chg_self] at hc
      cases hc
    · rw [St.chg_ne _ _ _ ej] at hc
      obtain ⟨c, arr', T', h1, h2, h3⟩ := h.blks j cells hc
      have : c ≠ b := fun ec => by subst ec; rw [hb] at h1; injection h1 with h1; injection h1 with h1; exact ej h1.symm
      exact ⟨c, arr', T', h1, (hp.block c this).trans h2, h3.mono fun _ _ hl' => RLf.frame (put_ext h0 hb hp) (chg_arr_tr h0 h.dom hb ho hp hl re) hl'⟩
/-- The whole is read anew. -/
theorem reread {w' : World} {b id e md : Nat} {cs : Tys} {x x' : List cs.T} {arr arr' : Array Value} (hm : md ≠ 0) (hinj : ∀ b b' k, ω b = some k → ω b' = some k → b = b') (hb : ω b = some (id, [])) (hh' : w'.heap[b]? = some (.cells arr' e (0, 0))) (hs : arr'.size = arr.size)
    (hh : w.heap[b]? = some (.cells arr e (0, 0))) (hl : x'.length = x.length)
    (hel : ∀ i, i < x.length → cs.R w' ω ((modeOf md id []).inner i) (fun j => arr'[i * cs.len + j]?) 0 (x'.getD i (zTs cs))) (v : Value) (h : (Ty.sl e cs).R w ω (modeOf md id []) v x) : (Ty.sl e cs).R w' ω (modeOf md id []) v x' := by
  obtain ⟨ad, n, cp, e1, e2, e3, e4, e5⟩ := h
  subst e2
  have key : ∀ {md' : Md}, (md' = .flat (id, []) ∨ md' = .deep (id, [])) → Hd w ω e cs.len md' ad x.length cp → Hd w' ω e cs.len md' ad x.length cp ∧ (0 < x.length → ad = some ⟨b, 0, none⟩) := by
    intro md' hmd hH
    have hH' : (cp = 0 ∧ x.length = 0) ∨ ∃ b arr, ad = some ⟨b, 0, none⟩ ∧ w.heap[b]? = some (.cells arr e (0, 0)) ∧ arr.size = cp * cs.len ∧ ω b = some (id, []) := by
      rcases hmd with rfl | rfl <;> exact hH
    rcases hH' with ⟨f1, f2⟩ | ⟨b2, arr2, f1, f2, f3, f4⟩
    · refine ⟨?_, fun hp => absurd hp (by omega)⟩
      rcases hmd with rfl | rfl <;> exact .inl ⟨f1, f2⟩
    · obtain rfl := hinj _ _ _ hb f4
      rw [hh] at f2
      injection f2 with f2
      injection f2 with f2
      subst f2
      refine ⟨?_, fun _ => f1⟩
      rcases hmd with rfl | rfl <;> exact .inr ⟨b, arr', f1, hh', by rw [hs]; exact f3, hb⟩
  have hmode : modeOf md id [] = .flat (id, []) ∨ modeOf md id [] = .deep (id, []) := by
    match md, hm with
    | 1, _ => exact .inl rfl
    | n + 2, _ => exact .inr rfl
  obtain ⟨k1, k2⟩ := key hmode e4
  refine ⟨ad, x.length, cp, e1, hl, e3, k1, fun i A hi hA => ?_⟩
  rw [k2 (by omega)] at hA
  injection hA with hA
  subst hA
  refine Tys.R_get cs _ _ _ 0 _ (fun j _ => ?_) (hel i hi)
  simp only [Nat.zero_add]
  rw [cell_of_row w' b _ arr' e (0, 0) hh']

theorem exec_store {t : Nat} {p v : Operand} (ho : o.op = .store t p v) {w' : World} (h : (Instr.storeAt t (a.eval p) (a.eval v)).run P w = .ok () w') : (execOp a.eval o).run P w = .ok .skip w' := by
  unfold execOp
  simp only [ho]
  rw [Sem.run_bind, h]
  rfl
theorem ends_undef {ω1 : Own} {w1 : World} {s1 : S} (h : Rel ω1 a w1 s1) (he : Ext ω w ω1 w1) (hd : ∀ d, o.dst = some d → d < a.tmps.size) (hk : k (s1.setO o.dst (.one .undef)) = some r) :
    Ends ω a w o.dst k r (a.put o.dst undef) w1 := ends_put' h he hd (t := .one .undef) rfl hk
theorem set_getD {α : Type} (x : List α) (i j : Nat) (y z : α) (hi : i < x.length) : (x.set i y).getD j z = if j = i then y else x.getD j z := by
  rw [List.getD_eq_getElem?_getD, List.getElem?_set]
  split
  · rename_i h
    subst h
    rw [if_pos rfl]
    rfl
  · rename_i h
    rw [if_neg (Ne.symm h), ← List.getD_eq_getElem?_getD]

theorem set_same {α : Type} (x : List α) (i : Nat) (z : α) (hi : i < x.length) : x.set i (x.getD i z) = x := by
  rw [List.getD_eq_getElem?_getD, List.getElem?_eq_getElem hi]
  simp
theorem storeV_ok (h : Rel ω a w s) {t : Nat} {I : TypeInfo} (hI : P.info? t = some I) {p v : Value} {l : L} {ls : List L} {s1 : S} (hp : RLf w ω s p l) (hv : All2 (RLf w ω s) v.cells.toList ls) (h1 : ∀ u ∈ v.cells.toList, u.oneCell' = true) (hsz : ls.length = I.size)
    (hs : storeV s l ls = some s1) : ∃ ω' w', (Instr.storeAt t p v).run P w = .ok () w' ∧ Rel ω' a w' s1 ∧ Ext ω w ω' w' := by
  have hcl : v.cells.size = ls.length := by rw [← hv.length]; simp
  cases l with
  | ptr id g off =>
    simp only [storeV] at hs
    cases hb : blkOf s id g with
    | none => rw [hb] at hs; cases hs
    | some cells =>
      rw [hb] at hs
      simp only at hs
      split at hs
      · rename_i hle
        injection hs with hs
        subst hs
        obtain ⟨e1, e2⟩ := blkOf_ok hb
        obtain ⟨b, f1, f2⟩ := hp.2 e1 cells e2
        obtain ⟨b', arr, T, g1, g2, g3⟩ := h.blks id cells e2
        obtain rfl := h.inj _ _ _ f1 g1
        subst f2
        have hlen := g3.length
        have hal : arr.toList.length = arr.size := Array.length_toList
        have hfit : off + v.cells.size ≤ arr.size := by omega
        have hfit' : off + v.cells.toList.length ≤ arr.size := by simpa using hfit
        obtain ⟨arr', q1, q2⟩ := setCells_row' b T (0, 0) v.cells.toList off w arr g2 hfit'
        refine ⟨ω, w.setCells b off v.cells.toList, run_storeAt' hI g2 (by omega) hfit h1, ?_, put_ext (h.ne0 (by rw [e2]; exact fun e => by cases e)) f1 (setCells_put b _ _ w)⟩
        refine h.store_blk f1 e2 (setCells_put b _ _ w) q1 ?_
        rw [q2]
        have : v.cells.toList.length = ls.length := hv.length
        rw [this]
        exact ((g3.take off).app hv).app (g3.drop _)
      · cases hs
  | eptr id g hh pth i off =>
    cases pth with
    | cons _ _ => cases hs
    | nil =>
      simp only [storeV] at hs
      cases hg : Nat.beq (s.ob id).g g with
      | false => rw [hg] at hs; cases hs
      | true =>
        rw [hg] at hs
        simp only [cond_true] at hs
        have hge := Nat.eq_of_beq_eq_true hg
        cases hob : (s.ob id).o with
        | arr e cs deep x =>
          rw [hob] at hs
          simp only at hs
          cases hst : storeCellsV (A := real) deep cs (real.get x i) off ls s with
          | none => rw [hst] at hs; cases hs
          | some q =>
            obtain ⟨el, s2⟩ := q
            rw [hst] at hs
            simp only at hs
            have hc := cont_arr (h := hh) hob hge.symm
            obtain ⟨q1, q2, ⟨b, q3, q4⟩, v', q5⟩ := hp.2.2 _ hc (md_pos deep)
            simp only at q1 q2 q4 q5
            obtain ⟨b', arr, cp, c1, c2, c3, c4, c5, _⟩ := own_elem (s := s) hc (md_pos deep) q5 i q1 q2
            obtain rfl := h.inj _ _ _ q3 c1
            simp only at c2 c3 c4 c5
            -- its rows
            have hrow : ∀ i', i' < List.length x → cs.R w ω ((modeOf (bif deep then 2 else 1) id []).inner i') (fun j => arr[i' * cs.len + j]?) 0 (List.getD x i' (zTs cs)) := by
              intro i' hi'
              obtain ⟨ad, n, cp', d1, d2, d3, d4, d5⟩ := q5
              rw [c5] at d1
              injection d1 with d1 d1' d1''
              have := d5 i' ⟨b, 0, none⟩ (by omega) d1.symm
              refine Tys.R_get cs _ _ _ 0 _ (fun j _ => ?_) this
              simp only [Nat.zero_add]
              rw [cell_of_row w b _ arr e (0, 0) c2]
            have hi : (IV.i i).toNat < List.length x := by omega
            obtain ⟨ω2, p2, o1, o2, r2⟩ := storeCellsV_ok (md := (modeOf (bif deep then 2 else 1) id []).inner (IV.i i).toNat) (fun e => by subst e; exact fun _ => rfl) ls v.cells.toList cs _ el off _ ω s s2 h hv (hrow _ hi) hst
            have hob2 : s2.ob id = s.ob id := by
              rcases o2 id with o2 | ⟨e', c', z, o2⟩
              · exact o2
              · rw [o2] at hs; cases hs
            have hob2' : (s2.ob id).o = .arr e cs deep x := by rw [hob2]; exact hob
            rw [hob2'] at hs
            simp only at hs
            have hs := Option.some.inj hs
            subst hs
            -- who owns it now
            have hb2 : ω2 b = some (id, []) := by
              have := (p2.tr id).eptr p g hh [] i off hp
              obtain ⟨_, _, ⟨b2, t1, t2⟩, _⟩ := this.2.2 _ (cont_arr (h := hh) hob2' (by rw [hob2]; exact hge.symm)) (md_pos deep)
              rw [q4] at t2
              injection t2 with t2
              injection t2 with t2
              injection t2 with t2
              rw [t2]
              exact t1
            have hrow2 : ∀ i', i' < List.length x → cs.R w ω2 ((modeOf (bif deep then 2 else 1) id []).inner i') (fun j => arr[i' * cs.len + j]?) 0 (List.getD x i' (zTs cs)) := by
              intro i' hi'
              cases deep with
              | true => rw [o1 rfl]; exact hrow i' hi'
              | false => exact Tys.R_frame (Nat.le_refl _) cs _ _ _ 0 _ (fun _ => p2.ext.keeps) (fun _ => rfl) (hrow i' hi')
            have hfitc := storeCellsV_fit ls cs _ off s _ hst
            have hbase : (IV.i i).toNat * cs.len + cs.len ≤ arr.size := by
              rw [c3]
              have : ((IV.i i).toNat + 1) * cs.len ≤ cp * cs.len := Nat.mul_le_mul_right _ (by omega)
              rw [Nat.succ_mul] at this
              exact this
            have hvl : v.cells.toList.length = ls.length := hv.length
            by_cases hemp : ls = []
            · -- nothing is stored
              subst hemp
              have hv0 : v.cells.toList = [] := List.length_eq_zero_iff.1 hvl
              simp only [storeCellsV] at hst
              injection hst with hst
              injection hst with t1 t2
              subst t2
              have hrun : (Instr.storeAt t p v).run P w = .ok () w := by
                have hsz0 : v.cells.size = I.size := by omega
                rw [q4]
                simp [Instr.storeAt, Instr.sureAddr, storeVar, sizeOf, typeInfo, hI, hsz0, hv0, storeCells]
              refine ⟨ω, w, hrun, ?_, Ext.refl _ _⟩
              refine h.store_arr q3 hob (Put.refl w b) (x' := real.put x i el) List.length_set ?_
              refine reread (arr := arr) (arr' := arr) (md_pos deep) h.inj q3 c2 rfl c2 List.length_set (fun i' hi' => ?_)
              have : real.put x i el = x := by
                rw [← t1]
                exact set_same x _ _ hi
              rw [this]
              exact hrow i' hi'
            · have hfit : off + ls.length ≤ cs.len := hfitc.resolve_left hemp
              have hfit' : (IV.i i).toNat * cs.len + off + v.cells.toList.length ≤ arr.size := by omega
              obtain ⟨arr', z1, z2⟩ := setCells_row' b e (0, 0) v.cells.toList ((IV.i i).toNat * cs.len + off) w arr c2 hfit'
              have hput := setCells_put b v.cells.toList ((IV.i i).toNat * cs.len + off) w
              have hrun := run_storeAt' (P := P) hI c2 (v := v) (off := (IV.i i).toNat * cs.len + off) (by omega) (by simpa using hfit') h1
              rw [← q4] at hrun
              refine ⟨ω2, _, hrun, ?_, p2.ext.trans (put_ext (h.ne0 (by rw [hob]; exact fun e => by cases e)) hb2 hput)⟩
              have hal : arr.toList.length = arr.size := Array.length_toList
              have hsz' : arr'.size = arr.size := by
                rw [← Array.length_toList (xs := arr'), z2]
                simp only [List.length_append, List.length_take, List.length_drop]
                omega
              have hget : ∀ m, arr'[m]? = if m < (IV.i i).toNat * cs.len + off then arr[m]? else if m < (IV.i i).toNat * cs.len + off + v.cells.toList.length then v.cells.toList[m - ((IV.i i).toNat * cs.len + off)]? else arr[m]? := by
                intro m
                have htl : (arr.toList.take ((IV.i i).toNat * cs.len + off)).length = (IV.i i).toNat * cs.len + off := by rw [List.length_take]; omega
                rw [← Array.getElem?_toList, z2]
                split
                · rename_i hm
                  rw [List.append_assoc, List.getElem?_append_left (by rw [htl]; exact hm), List.getElem?_take_of_lt hm, Array.getElem?_toList]
                · split
                  · rw [List.append_assoc, List.getElem?_append_right (by rw [htl]; omega), htl, List.getElem?_append_left (by omega)]
                  · rw [List.getElem?_append_right (by rw [List.length_append, htl]; omega), List.length_append, htl, List.getElem?_drop, Array.getElem?_toList]
                    congr 1
                    omega
              refine p2.rel.store_arr hb2 hob2' hput (x' := real.put x i el) List.length_set ?_
              refine reread (arr := arr) (arr' := arr') (md_pos deep) p2.rel.inj hb2 z1 hsz' c2 List.length_set (fun i' hi' => ?_)
              have hpx : List.getD (real.put x i el : List cs.T) i' (zTs cs) = if i' = (IV.i i).toNat then el else List.getD x i' (zTs cs) := set_getD x _ _ _ _ hi
              rw [hpx]
              split
              · rename_i he
                subst he
                refine inner_frame hb2 hput (r2 _ (fun kk u hu => ?_) (fun m hm => ?_))
                · have hk : kk < v.cells.toList.length := (List.getElem?_eq_some_iff.1 hu).1
                  show _ = _
                  rw [hget, if_neg (by omega), if_pos (by omega), ← hu]
                  congr 1
                  omega
                · show _ = _
                  rw [hget]
                  rcases hm with hm | hm
                  · rw [if_pos (by omega)]
                  · rw [if_neg (by omega), if_neg (by omega)]
              · rename_i he
                refine inner_frame hb2 hput (Tys.R_get cs _ _ _ 0 _ (fun m hm => ?_) (hrow2 i' hi'))
                rw [Nat.zero_add, hget]
                rcases Nat.lt_or_gt_of_ne he with hlt | hgt
                · have : (i' + 1) * cs.len ≤ (IV.i i).toNat * cs.len := Nat.mul_le_mul_right _ hlt
                  rw [Nat.succ_mul] at this
                  rw [if_pos (by omega)]
                · have : ((IV.i i).toNat + 1) * cs.len ≤ i' * cs.len := Nat.mul_le_mul_right _ hgt
                  rw [Nat.succ_mul] at this
                  rw [if_neg (by omega), if_neg (by omega)]
        | imm _ _ _ => rw [hob] at hs; cases hs
        | blk _ => rw [hob] at hs; cases hs
        | gone => rw [hob] at hs; cases hs
  | _ => cases hs

theorem step_store (hE : EnvOk P E) {t : Nat} {p v : Operand} (ho : o.op = .store t p v) (h : Rel ω a w s) (hd : ∀ d, o.dst = some d → d < a.tmps.size) {Φ : FKey → Option (Callee real (Option R))}
    (hk : stepC E (realC R) Φ o s k = some r) : o.wp P a w (Ends ω a w o.dst k r) Q := by
  have hp := ev_ok h E 0 p
  have hv := ev_ok h E t v
  unfold stepC at hk
  simp only [ho] at hk
  obtain ⟨i, h1, hk1⟩ := mapFail_some hk
  obtain ⟨I, d, ok⟩ := hE.ti _ _ h1
  obtain ⟨ls, h2, hk2⟩ := mapFail_some hk1
  obtain ⟨hc, hone, _⟩ := cells?_ok hv h2
  cases hb : Nat.beq ls.length i.cs.len with
  | false => rw [hb] at hk2; cases hk2
  | true =>
    rw [hb] at hk2
    simp only [cond_true] at hk2
    have hl := Nat.eq_of_beq_eq_true hb
    cases hpe : ev E s 0 p with
    | one l =>
      rw [hpe] at hk2 hp
      obtain ⟨s1, h3, hk3⟩ := mapFail_some hk2
      obtain ⟨ω', w', hrun, hR, hX⟩ := storeV_ok h ok.info hp hc hone (by rw [hl, ok.size]) h3
      exact wp_skip' (exec_store ho hrun) (ends_undef hR hX hd hk3)
    | agg _ => rw [hpe] at hk2; cases hk2
    | tup _ => rw [hpe] at hk2; cases hk2
end
end Go.R

/-! R22: handing over: arrays that are let go of, under new names. -/
namespace Go.R

def Md.On : Md → Nat → Prop
  | .imm, _ => True
  | .flat k, i => k.1 = i
  | .deep k, i => k.1 = i
def Md.to : Md → Nat → Md
  | .imm, _ => .imm
  | .flat k, j => .flat (j, k.2)
  | .deep k, j => .deep (j, k.2)
theorem Md.on_inner {md : Md} {i : Nat} (h : md.On i) (a b : Nat) : (md.inner a b).On i := by
  cases md with
  | imm => trivial
  | flat _ => trivial
  | deep _ => exact h
theorem Md.to_inner (md : Md) (j a b : Nat) : (md.inner a b).to j = (md.to j).inner a b := by
  cases md <;> rfl
/-- What is nobody's own stays so, what is the object i's becomes the object j's. -/
structure Names (w : World) (ω ω' : Own) (i j : Nat) : Prop where
  none : ∀ b, b < w.heap.size → ω b = none → ω' b = none
  own : ∀ b p, b < w.heap.size → ω b = some (i, p) → ω' b = some (j, p)
theorem Hd.map {w : World} {ω ω' : Own} {i j : Nat} (hn : Names w ω ω' i j) {e sz : Nat} {md : Md} (hm : md.On i) {a : Option Addr} {n c : Nat} (h : Hd w ω e sz md a n c) : Hd w ω' e sz (md.to j) a n c := by
  cases md with
  | imm =>
    intro h0
    obtain ⟨b, off, h1, h2, h3⟩ := h h0
    exact ⟨b, off, h1, hn.none b h3 h2, h3⟩
  | flat k =>
    rcases h with h | ⟨b, arr, h1, h2, h3, h4⟩
    · exact .inl h
    · have e1 : k.1 = i := hm
      exact .inr ⟨b, arr, h1, h2, h3, hn.own b k.2 (heap_lt_of_some h2) (by rw [h4, ← e1])⟩
  | deep k =>
    rcases h with h | ⟨b, arr, h1, h2, h3, h4⟩
    · exact .inl h
    · have e1 : k.1 = i := hm
      exact .inr ⟨b, arr, h1, h2, h3, hn.own b k.2 (heap_lt_of_some h2) (by rw [h4, ← e1])⟩
mutual
theorem Ty.R_map {w : World} {ω ω' : Own} {i j : Nat} (hn : Names w ω ω' i j) : ∀ (t : Ty) (md : Md) (v : Value) (x : t.T), md.On i → t.R w ω md v x → t.R w ω' (md.to j) v x
  | .int _, _, _, _, _, h => h
  | .bool, _, _, _, _, h => h
  | .str, _, _, _, _, h => h
  | .sl e cs, md, v, x, hm, h => by
    obtain ⟨a, n, c, h1, h2, h3, h4, h5⟩ := h
    refine ⟨a, n, c, h1, h2, h3, h4.map hn hm, fun k ad hk ha => ?_⟩
    have := Tys.R_map hn cs (md.inner k) _ 0 _ (fun b => Md.on_inner hm k b) (h5 k ad hk ha)
    have e : (fun b => (md.inner k b).to j) = (md.to j).inner k := funext fun b => Md.to_inner md j k b
    rw [e] at this
    exact this
theorem Tys.R_map {w : World} {ω ω' : Own} {i j : Nat} (hn : Names w ω ω' i j) : ∀ (cs : Tys) (md : Nat → Md) (g : Nat → Option Value) (k : Nat) (x : cs.T), (∀ b, (md b).On i) → cs.R w ω md g k x → cs.R w ω' (fun b => (md b).to j) g k x
  | .nil, _, _, _, _, _, _ => trivial
  | .cons t ts, md, g, k, x, hm, h => by
    obtain ⟨⟨v, h1, h2⟩, h3⟩ := h
    exact ⟨⟨v, h1, Ty.R_map hn t (md k) v _ (hm k) h2⟩, Tys.R_map hn ts md g (k + 1) _ hm h3⟩
end
theorem modeOf_on (m i : Nat) (p : Pth) : (modeOf m i p).On i := by
  unfold modeOf; split <;> first | trivial | rfl
theorem modeOf_to (m i j : Nat) : (modeOf m i []).to j = modeOf m j [] := by
  unfold modeOf; split <;> rfl
theorem R_name {w : World} {ω ω' : Own} {i j m e : Nat} {cs : Tys} {v : Value} {x : List cs.T} (hn : Names w ω ω' i j) (h : (Ty.sl e cs).R w ω (modeOf m i []) v x) : (Ty.sl e cs).R w ω' (modeOf m j []) v x := by
  have := Ty.R_map hn (.sl e cs) _ v x (modeOf_on m i []) h
  rw [modeOf_to] at this
  exact this
theorem R_imm_of {w : World} {ω ω' : Own} {t : Ty} {v : Value} {x : t.T} (hn : ∀ b, b < w.heap.size → ω b = none → ω' b = none) (h : t.R w ω .imm v x) : t.R w ω' .imm v x :=
  Ty.R_free t .imm v x (fun b hb hk => by
    rcases hk with hk | ⟨k, _, hk⟩
    · exact hn b hb hk
    · exact hk.elim) h
/-- Plain elements: flat or deep, it is the same. -/
theorem R_flatdeep {w : World} {ω : Own} {i e : Nat} {cs : Tys} {v : Value} {x : List cs.T} {dp dp' : Bool} (hd : dp = dp' ∨ cs.plain = true) (h : (Ty.sl e cs).R w ω (modeOf (bif dp then 2 else 1) i []) v x) :
    (Ty.sl e cs).R w ω (modeOf (bif dp' then 2 else 1) i []) v x := by
  rcases hd with rfl | hp
  · exact h
  · obtain ⟨a, n, c, h1, h2, h3, h4, h5⟩ := h
    refine ⟨a, n, c, h1, h2, h3, ?_, fun k ad hk ha => Tys.R_plain cs _ _ _ 0 _ hp (h5 k ad hk ha)⟩
    cases dp <;> cases dp' <;> exact h4
theorem R_empty {w : World} {ω : Own} {e : Nat} {cs : Tys} {ad : Option Addr} {dp : Bool} {i : Nat} : (Ty.sl e cs).R w ω (modeOf (bif dp then 2 else 1) i []) (.slice ad 0 0) ([] : List cs.T) :=
  ⟨ad, 0, 0, rfl, rfl, Nat.le_refl _, hd_none, fun i _ hi => absurd hi (by omega)⟩

/-- A cell's value, handed over under the number id. -/
def RKV (w : World) (ω : Own) (id : Nat) (v : KV real) (u : Value) : Prop :=
  match v with
  | ⟨.val t, x⟩ => t.R w ω .imm u x
  | ⟨.arr e cs dp, x⟩ => (Ty.sl e cs).R w ω (modeOf (bif dp then 2 else 1) id []) u x
def RKVs (w : World) (ω : Own) : Nat → List (KV real) → List Value → Prop
  | _, [], [] => True
  | id, v :: vs, u :: us => RKV w ω id v u ∧ RKVs w ω (id + 1) vs us
  | _, _, _ => False
theorem RKVs.length {w : World} {ω : Own} : ∀ {id : Nat} {vs : List (KV real)} {us : List Value}, RKVs w ω id vs us → vs.length = us.length
  | _, [], [], _ => rfl
  | _, _ :: _, _ :: _, h => by simp [RKVs.length h.2]
  | _, [], _ :: _, h => h.elim
  | _, _ :: _, [], h => h.elim
theorem RKVs.app {w : World} {ω : Own} : ∀ {id : Nat} {vs : List (KV real)} {us : List Value} {vs' : List (KV real)} {us' : List Value}, RKVs w ω id vs us → RKVs w ω (id + vs.length) vs' us' → RKVs w ω id (vs ++ vs') (us ++ us')
  | _, [], [], _, _, _, h => h
  | id, v :: vs, _ :: _, vs', _, h, h' => ⟨h.1, RKVs.app h.2 (by rw [List.length_cons] at h'; rwa [show id + 1 + vs.length = id + (vs.length + 1) by omega])⟩
  | _, [], _ :: _, _, _, h, _ => h.elim
  | _, _ :: _, [], _, _, h, _ => h.elim

/-! ### Who is let go of -/
/-- What the letting go leaves: the ones in m (old number, new number) are gone, and their blocks are parked under the old number. -/
structure Gone (w : World) (ω : Own) (s : S) (ω1 : Own) (s1 : S) (m : List (Nat × Nat)) (lo hi : Nat) : Prop where
  nz : ∀ i j, (i, j) ∈ m → i ≠ 0
  was : ∀ i j, (i, j) ∈ m → (s.ob i).o ≠ .gone
  is : ∀ i j, (i, j) ∈ m → (s1.ob i).o = .gone
  rng : ∀ i j, (i, j) ∈ m → lo ≤ j ∧ j < hi
  inj : ∀ i i' j, (i, j) ∈ m → (i', j) ∈ m → i = i'
  fn : ∀ i j j', (i, j) ∈ m → (i, j') ∈ m → j = j'
  gone : ∀ i, (s.ob i).o = .gone → (s1.ob i).o = .gone ∧ ∀ b p, ω b = some (i, p) → ω1 b = some (i, p)
  back : ∀ b k, ω1 b = some k → ω b = some k
theorem Gone.none {w : World} {ω : Own} {s : S} {ω1 : Own} {s1 : S} {m : List (Nat × Nat)} {lo hi : Nat} (h : Gone w ω s ω1 s1 m lo hi) (b : Nat) (hb : ω b = none) : ω1 b = none := by
  cases hq : ω1 b with
  | none => rfl
  | some k => rw [h.back b k hq] at hb; cases hb
theorem Gone.refl (w : World) (ω : Own) (s : S) (lo hi : Nat) : Gone w ω s ω s [] lo hi :=
  { nz := fun _ _ h => nomatch h
    was := fun _ _ h => nomatch h
    is := fun _ _ h => nomatch h
    rng := fun _ _ h => nomatch h
    inj := fun _ _ _ h => nomatch h
    fn := fun _ _ _ h => nomatch h
    gone := fun _ h => ⟨h, fun _ _ h => h⟩
    back := fun _ _ h => h }
theorem Gone.trans {w : World} {ω : Own} {s : S} {ω1 : Own} {s1 : S} {m : List (Nat × Nat)} {lo mid hi : Nat} {ω2 : Own} {s2 : S} {m' : List (Nat × Nat)} (hl : lo ≤ mid) (hh : mid ≤ hi)
    (h : Gone w ω s ω1 s1 m lo mid) (h' : Gone w ω1 s1 ω2 s2 m' mid hi) : Gone w ω s ω2 s2 (m ++ m') lo hi where
  nz i j hm := (List.mem_append.1 hm).elim (h.nz i j) (h'.nz i j)
  was i j hm := (List.mem_append.1 hm).elim (h.was i j) (fun hm e => h'.was i j hm (h.gone i e).1)
  is i j hm := (List.mem_append.1 hm).elim (fun hm => (h'.gone i (h.is i j hm)).1) (h'.is i j)
  rng i j hm := (List.mem_append.1 hm).elim (fun hm => ⟨(h.rng i j hm).1, Nat.lt_of_lt_of_le (h.rng i j hm).2 hh⟩) (fun hm => ⟨Nat.le_trans hl (h'.rng i j hm).1, (h'.rng i j hm).2⟩)
  inj i i' j h1 h2 := by
    rcases List.mem_append.1 h1 with h1 | h1 <;> rcases List.mem_append.1 h2 with h2 | h2
    · exact h.inj i i' j h1 h2
    · exact absurd (Nat.lt_of_lt_of_le (h.rng i j h1).2 (h'.rng i' j h2).1) (Nat.lt_irrefl _)
    · exact absurd (Nat.lt_of_lt_of_le (h.rng i' j h2).2 (h'.rng i j h1).1) (Nat.lt_irrefl _)
    · exact h'.inj i i' j h1 h2
  fn i j j' h1 h2 := by
    rcases List.mem_append.1 h1 with h1 | h1 <;> rcases List.mem_append.1 h2 with h2 | h2
    · exact h.fn i j j' h1 h2
    · exact absurd (h.is i j h1) (h'.was i j' h2)
    · exact absurd (h.is i j' h2) (h'.was i j h1)
    · exact h'.fn i j j' h1 h2
  gone i hg := ⟨(h'.gone i (h.gone i hg).1).1, fun b p hb => (h'.gone i (h.gone i hg).1).2 b p ((h.gone i hg).2 b p hb)⟩
  back b k hb := h.back b k (h'.back b k hb)
/-- What later letting go does not undo. -/
structure Later (ω : Own) (s : S) (ω1 : Own) (s1 : S) : Prop where
  gone : ∀ i, (s.ob i).o = .gone → (s1.ob i).o = .gone ∧ ∀ b p, ω b = some (i, p) → ω1 b = some (i, p)
  back : ∀ b k, ω1 b = some k → ω b = some k
theorem Gone.later {w : World} {ω : Own} {s : S} {ω1 : Own} {s1 : S} {m : List (Nat × Nat)} {lo hi : Nat} (h : Gone w ω s ω1 s1 m lo hi) : Later ω s ω1 s1 := ⟨h.gone, h.back⟩
theorem Later.refl (ω : Own) (s : S) : Later ω s ω s := ⟨fun _ h => ⟨h, fun _ _ h => h⟩, fun _ _ h => h⟩
theorem Later.trans {ω ω1 ω2 : Own} {s s1 s2 : S} (h : Later ω s ω1 s1) (h' : Later ω1 s1 ω2 s2) : Later ω s ω2 s2 :=
  ⟨fun i hg => ⟨(h'.gone i (h.gone i hg).1).1, fun b p hb => (h'.gone i (h.gone i hg).1).2 b p ((h.gone i hg).2 b p hb)⟩, fun b k hb => h.back b k (h'.back b k hb)⟩
theorem Later.none {ω : Own} {s : S} {ω1 : Own} {s1 : S} (h : Later ω s ω1 s1) (b : Nat) (hb : ω b = none) : ω1 b = none := by
  cases hq : ω1 b with
  | none => rfl
  | some k => rw [h.back b k hq] at hb; cases hb
/-- Who gets the blocks: what is nobody's own stays so, each one's in m become the new number's. -/
structure Sends (w : World) (ω1 ω' : Own) (m : List (Nat × Nat)) : Prop where
  none : ∀ b, b < w.heap.size → ω1 b = none → ω' b = none
  own : ∀ i j, (i, j) ∈ m → ∀ b p, b < w.heap.size → ω1 b = some (i, p) → ω' b = some (j, p)
theorem Sends.left {w : World} {ω1 ω' : Own} {m m' : List (Nat × Nat)} (h : Sends w ω1 ω' (m ++ m')) : Sends w ω1 ω' m :=
  ⟨h.none, fun i j hm => h.own i j (List.mem_append.2 (.inl hm))⟩
theorem Sends.right {w : World} {ω1 ω' : Own} {m m' : List (Nat × Nat)} (h : Sends w ω1 ω' (m ++ m')) : Sends w ω1 ω' m' :=
  ⟨h.none, fun i j hm => h.own i j (List.mem_append.2 (.inr hm))⟩

section
variable {R : Type} {P : Program} {E : Env} {ω : Own} {a : Act} {w : World} {s : S} {k : S → Option R} {r : R} {o : Oper} {Q : Exit → Act → World → Prop}

theorem arr1_ok (h : Rel ω a w s) {e : Nat} {cs : Tys} {deep : Bool} {l : L} {u : Value} {x : List cs.T} {s1 : S} (hl : RLf w ω s u l) (ht : arr1 (A := real) e cs deep l s = some (x, s1)) :
    (s1 = s ∧ x = [] ∧ ∃ ad, u = .slice ad 0 0) ∨
    ∃ id g hh dp, l = .ref id g hh [] ∧ g = (s.ob id).g ∧ (s.ob id).o = .arr e cs dp x ∧ s1 = s.chg id true .gone ∧ (Ty.sl e cs).R w ω (modeOf (bif dp then 2 else 1) id []) u x ∧ (dp = deep ∨ cs.plain = true) := by
  cases l with
  | nilS e' cs' =>
    simp only [arr1] at ht
    split at ht
    · rename_i hb
      have := Ty.eq_of_beq hb
      injection this with e1 e2
      subst e1; subst e2
      injection ht with ht
      injection ht with h1 h2
      exact .inl ⟨h2.symm, h1.symm, hl⟩
    · cases ht
  | ref id g hh p =>
    cases p with
    | cons _ _ => cases ht
    | nil =>
      simp only [arr1] at ht
      cases hg : Nat.beq (s.ob id).g g with
      | false => rw [hg] at ht; cases ht
      | true =>
        rw [hg] at ht
        simp only [cond_true] at ht
        have hge := Nat.eq_of_beq_eq_true hg
        cases hob : (s.ob id).o with
        | arr e' cs' dp y =>
          rw [hob] at ht
          simp only at ht
          cases hd : (dp == deep || cs'.plain) with
          | false => rw [hd] at ht; cases ht
          | true =>
            rw [hd] at ht
            simp only [cond_true] at ht
            split at ht
            · rename_i hb
              have := Ty.eq_of_beq hb
              injection this with e1 e2
              subst e1; subst e2
              have ht := Option.some.inj ht
              injection ht with h1 h2
              have h1 : y = x := h1
              subst h1
              refine .inr ⟨id, g, hh, dp, rfl, hge.symm, hob, h2.symm, hl.2.2 _ (cont_arr (h := hh) hob hge.symm), ?_⟩
              rw [Bool.or_eq_true, beq_iff_eq] at hd
              exact hd
            · cases ht
        | imm _ _ _ => rw [hob] at ht; cases ht
        | blk _ => rw [hob] at ht; cases ht
        | gone => rw [hob] at ht; cases ht
  | _ => cases ht

/-- One array is let go of. -/
theorem gone_one {id lo : Nat} (h : Rel ω a w s) (ho : (s.ob id).o ≠ .gone) : Gone w ω s ω (s.chg id true .gone) [(id, lo)] lo (lo + 1) where
  nz i j hm := by
    rw [List.mem_singleton] at hm
    injection hm with h1 h2
    subst h1
    exact h.ne0 ho
  was i j hm := by
    rw [List.mem_singleton] at hm
    injection hm with h1 h2
    subst h1
    exact ho
  is i j hm := by
    rw [List.mem_singleton] at hm
    injection hm with h1 h2
    subst h1
    rw [St.chg_self]
  rng i j hm := by
    rw [List.mem_singleton] at hm
    injection hm with h1 h2
    subst h2
    exact ⟨Nat.le_refl _, Nat.lt_succ_self _⟩
  inj i i' j h1 h2 := by
    rw [List.mem_singleton] at h1 h2
    injection h1 with h1 _
    injection h2 with h2 _
    rw [h1, h2]
  fn i j j' h1 h2 := by
    rw [List.mem_singleton] at h1 h2
    injection h1 with _ h1
    injection h2 with _ h2
    rw [h1, h2]
  gone i hg := by
    refine ⟨?_, fun _ _ h => h⟩
    by_cases e : i = id
    · subst e; exact absurd hg ho
    · rw [St.chg_ne _ _ _ e]; exact hg
  back _ _ h := h
theorem Passes.gone1 (h : Rel ω a w s) (id : Nat) : Passes ω a w s ω (s.chg id true .gone) :=
  ⟨h.gone id true, Ext.refl _ _, gone_tr h.dom true⟩
/-- Packing parks nobody. -/
theorem pack1_gone {t : Ty} {l : L} {v : Value} {x : t.T} {s' : S} (h : Rel ω a w s) (hl : RLf w ω s v l) (hp : pack1 (A := real) false t l s = some (x, s')) (lo : Nat) :
    ∃ ω', Passes ω a w s ω' s' ∧ Gone w ω s ω' s' [] lo lo ∧ t.R w ω' .imm v x := by
  obtain ⟨ω', h1, h2, h3⟩ := pack1_full h hl hp
  refine ⟨ω', h1, ?_, h2⟩
  rcases h3 with ⟨e1, e2⟩ | ⟨id, e, cs, dp, y, e1, e2, e3⟩
  · subst e1; subst e2
    exact Gone.refl _ _ _ _ _
  · subst e2; subst e3
    exact
    { nz := fun _ _ h => nomatch h
      was := fun _ _ h => nomatch h
      is := fun _ _ h => nomatch h
      rng := fun _ _ h => nomatch h
      inj := fun _ _ _ h => nomatch h
      fn := fun _ _ _ h => nomatch h
      gone := fun i hg => by
        have hne : i ≠ id := fun e' => by subst e'; rw [e1] at hg; cases hg
        exact ⟨by rw [St.chg_ne _ _ _ hne]; exact hg, fun b p hb => Own.drop_other hb hne⟩
      back := fun b k hb => (Own.drop_spec hb).1 }
/-- Cells that are handed over. -/
theorem take1_ok (h : Rel ω a w s) {kk : K} {l : L} {u : Value} {v : KV real} {s1 : S} (hl : RLf w ω s u l) (ht : take1 kk l s = some (v, s1)) (lo : Nat) :
    ∃ ω1 m, Passes ω a w s ω1 s1 ∧ Gone w ω s ω1 s1 m lo (lo + 1) ∧ v.1 = kk ∧ (kk.isArr = false → m = []) ∧ ∀ ω2 s2 ω', Later ω1 s1 ω2 s2 → Sends w ω2 ω' m → RKV w ω' lo v u := by
  cases kk with
  | val t =>
    simp only [take1] at ht
    cases hp : pack1 (A := real) false t l s with
    | none => rw [hp] at ht; cases ht
    | some q =>
      obtain ⟨x, s2⟩ := q
      rw [hp] at ht
      have ht := Option.some.inj ht
      injection ht with h1 h2
      subst h1; subst h2
      obtain ⟨ω', p1, p2, p3⟩ := pack1_gone h hl hp lo
      refine ⟨ω', [], p1, ?_, rfl, fun _ => rfl, fun ω2 s3 ω'' hg hs => R_imm_of (fun b hb hn => hs.none b hb (hg.none b hn)) p3⟩
      exact { p2 with rng := fun _ _ h => nomatch h }
  | arr e cs deep =>
    simp only [take1] at ht
    cases hp : arr1 (A := real) e cs deep l s with
    | none => rw [hp] at ht; cases ht
    | some q =>
      obtain ⟨x, s2⟩ := q
      rw [hp] at ht
      have ht := Option.some.inj ht
      injection ht with h1 h2
      subst h1; subst h2
      rcases arr1_ok h hl hp with ⟨e1, e2, ad, e3⟩ | ⟨id, g, hh, dp, e0, eg, e1, e2, e3, e4⟩
      · subst e1; subst e2; subst e3
        exact ⟨ω, [], Passes.refl h, Gone.refl _ _ _ _ _, rfl, fun _ => rfl, fun _ _ _ _ _ => R_empty⟩
      · subst e2
        have hng : (s.ob id).o ≠ .gone := by rw [e1]; exact fun e => by cases e
        refine ⟨ω, [(id, lo)], Passes.gone1 h id, gone_one h hng, rfl, fun e => (by cases e), fun ω2 s2 ω' hg hs => ?_⟩
        refine R_flatdeep e4 (R_name (i := id) ⟨fun b hb hn => hs.none b hb (hg.none b hn), fun b p hb hk => ?_⟩ e3)
        exact hs.own id lo (by simp) b p hb ((hg.gone id (by rw [St.chg_self])).2 b p hk)
theorem takes_ok : ∀ (ks : List K) (ls : List L) (us : List Value) (ω : Own) (s : S) (vs : List (KV real)) (s1 : S) (lo : Nat), Rel ω a w s → All2 (RLf w ω s) us ls → takes ks ls s = some (vs, s1) →
    ∃ ω1 m, Passes ω a w s ω1 s1 ∧ Gone w ω s ω1 s1 m lo (lo + ks.length) ∧ vs.map (·.1) = ks ∧ ((∀ k ∈ ks, k.isArr = false) → m = []) ∧ ∀ ω2 s2 ω', Later ω1 s1 ω2 s2 → Sends w ω2 ω' m → RKVs w ω' lo vs us
  | [], [], us, ω, s, vs, s1, lo, h, h2, ht => by
    injection ht with ht
    injection ht with e1 e2
    subst e1; subst e2
    cases us with
    | cons _ _ => exact h2.elim
    | nil => exact ⟨ω, [], Passes.refl h, Gone.refl _ _ _ _ _, rfl, fun _ => rfl, fun _ _ _ _ _ => trivial⟩
  | k :: ks, l :: ls, [], _, _, _, _, _, _, h2, _ => h2.elim
  | k :: ks, l :: ls, u :: us, ω, s, vs, s1, lo, h, h2, ht => by
    simp only [takes] at ht
    cases h1 : take1 k l s with
    | none => rw [h1] at ht; cases ht
    | some q =>
      obtain ⟨v, s2⟩ := q
      rw [h1] at ht
      simp only at ht
      cases h3 : takes ks ls s2 with
      | none => rw [h3] at ht; cases ht
      | some q2 =>
        obtain ⟨vs', s3⟩ := q2
        rw [h3] at ht
        injection ht with ht
        injection ht with e1 e2
        subst e1; subst e2
        obtain ⟨ω1, m1, p1, g1, t1, n1, r1⟩ := take1_ok h h2.1 h1 lo
        obtain ⟨ω2, m2, p2, g2, t2, n2, r2⟩ := takes_ok ks ls us ω1 s2 vs' s3 (lo + 1) p1.rel (h2.2.mono fun _ _ hl => RLf.frame p1.ext p1.tr hl) h3
        refine ⟨ω2, m1 ++ m2, p1.trans p2, ?_, by simp [t1, t2], fun hk => by rw [n1 (hk k (by simp)), n2 (fun k' hk' => hk k' (by simp [hk']))]; rfl, fun ω3 s4 ω' hg hs => ⟨r1 ω3 s4 ω' (g2.later.trans hg) hs.left, r2 ω3 s4 ω' hg hs.right⟩⟩
        have := Gone.trans (Nat.le_succ _) (Nat.le_add_right _ _) g1 g2
        rwa [show lo + 1 + ks.length = lo + (k :: ks).length by simp; omega] at this
  | [], _ :: _, _, _, _, _, _, _, _, _, ht => by cases ht
  | _ :: _, [], _, _, _, _, _, _, _, _, ht => by cases ht
end
end Go.R

/-! R23: laying under new numbers. -/
namespace Go.R
section
variable {R : Type} {P : Program} {E : Env} {ω : Own} {a : Act} {w : World} {s : S} {k : S → Option R} {r : R} {o : Oper} {Q : Exit → Act → World → Prop}

/-- A value, handed over under the numbers from b on. -/
def RSh (w : World) (ω : Own) (b : Nat) (sh : Sh) (vs : List (KV real)) (u : Value) : Prop :=
  match sh with
  | .one _ => ∃ v, vs = [v] ∧ RKV w ω b v u
  | .agg _ => ∃ cells : List Value, u = .agg cells.toArray ∧ RKVs w ω b vs cells
  | .blk _ => ∃ b' arr T, u = .pointer (some ⟨b', 0, none⟩) ∧ ω b' = some (b, []) ∧ w.heap[b']? = some (.cells arr T (0, 0)) ∧ RKVs w ω (b + 1) vs arr.toList
  | .ro cs => ∃ x, toVs (A := real) cs vs = some x ∧ RIptr w ω u cs x 0
  | .fn f caps => ∃ cv : List Value, u = .func (.func f) #[] cv.toArray ∧ All2 (fun v c => RCap w ω ⟨fun _ => .dead, fun _ => ⟨0, 0, .gone⟩⟩ v c) cv (layCaps (A := real) caps vs) ∧ ∀ c ∈ layCaps (A := real) caps vs, ∃ cs x, c = .ro cs x
  | .fnm _ _ => False
def RShs (w : World) (ω : Own) : Nat → List Sh → List (KV real) → List Value → Prop
  | _, [], vs, us => vs = [] ∧ us = []
  | b, sh :: shs, vs, u :: us => (vs.take sh.ks.length).length = sh.ks.length ∧ RSh w ω b sh (vs.take sh.ks.length) u ∧ RShs w ω (b + sh.width) shs (vs.drop sh.ks.length) us
  | _, _ :: _, _, [] => False

def InR (b n i : Nat) : Prop := b ≤ i ∧ i < b + n
theorem inR0 {b i : Nat} : ¬ InR b 0 i := by unfold InR; omega
theorem lays_ok : ∀ (vs : List (KV real)) (us : List Value) (id : Nat) (s : S), RKVs w ω id vs us →
    (∀ i, ¬ InR id vs.length i → (lays id vs s).2.ob i = s.ob i) ∧ (∀ i, InR id vs.length i → (s.ob i).g < ((lays id vs s).2.ob i).g ∧ ∀ cells, ((lays id vs s).2.ob i).o ≠ .blk cells) ∧
    (lays id vs s).2.sl = s.sl ∧
    ∀ s'' : S, (∀ i, InR id vs.length i → s''.ob i = (lays id vs s).2.ob i) → All2 (RLf w ω s'') us (lays id vs s).1
  | [], [], id, s, _ => ⟨fun _ _ => rfl, fun i hi => absurd hi (by unfold InR; simp), rfl, fun _ _ => trivial⟩
  | [], _ :: _, _, _, h => h.elim
  | _ :: _, [], _, _, h => h.elim
  | v :: vs, u :: us, id, s, h => by
    obtain ⟨h1, h2, hsl, h3⟩ := lays_ok vs us (id + 1) (lay1 id v s).2 h.2
    have hself : ((lay1 id v s).2.ob id).g = (s.ob id).g + 1 ∧ (∀ cells, ((lay1 id v s).2.ob id).o ≠ .blk cells) ∧ (lay1 id v s).2.sl = s.sl ∧ ∀ i, i ≠ id → (lay1 id v s).2.ob i = s.ob i := by
      obtain ⟨kk, x⟩ := v
      cases kk with
      | val t =>
        refine ⟨?_, ?_, rfl, fun i hi => ?_⟩
        · simp [lay1, St.new, St.upd_ob_self]
        · intro cells e; simp [lay1, St.new, St.upd_ob_self] at e
        · simp only [lay1]; unfold St.new; exact St.upd_ob_ne _ _ hi
      | arr e cs dp =>
        refine ⟨?_, ?_, rfl, fun i hi => ?_⟩
        · simp [lay1, St.new, St.upd_ob_self]
        · intro cells e; simp [lay1, St.new, St.upd_ob_self] at e
        · simp only [lay1]; unfold St.new; exact St.upd_ob_ne _ _ hi
    obtain ⟨q1, q2, q3, q4⟩ := hself
    simp only [lays]
    refine ⟨fun i hi => ?_, fun i hi => ?_, hsl.trans q3, fun s'' hs => ⟨?_, h3 s'' fun i hi => hs i ?_⟩⟩
    · rw [h1 i (by unfold InR at hi ⊢; simp only [List.length_cons] at hi; omega)]
      exact q4 i (by unfold InR at hi; simp only [List.length_cons] at hi; omega)
    · by_cases e : i = id
      · subst e
        rw [h1 i (by unfold InR; omega), q1]
        exact ⟨Nat.lt_succ_self _, q2⟩
      · have := h2 i (by unfold InR at hi ⊢; simp only [List.length_cons] at hi; omega)
        rw [q4 i e] at this
        exact this
    · have hob : s''.ob id = (lay1 id v s).2.ob id := by
        rw [hs id (by unfold InR; simp only [List.length_cons]; omega)]
        exact h1 id (by unfold InR; omega)
      have hv := h.1
      obtain ⟨kk, x⟩ := v
      cases kk with
      | val t => exact hv
      | arr e cs dp =>
        have ho : s''.ob id = ⟨(s.ob id).g + 1, 0, .arr e cs dp x⟩ := by
          rw [hob]; simp only [lay1]; unfold St.new; exact St.upd_ob_self _ _ _
        refine ⟨by rw [ho]; exact Nat.le_refl _, by simp, fun c hc => ?_⟩
        rw [cont_arr (e := e) (cs := cs) (dp := dp) (x := x) (by rw [ho]) (by rw [ho])] at hc
        injection hc with hc
        subst hc
        exact hv
    · unfold InR at hi ⊢; simp only [List.length_cons]; omega

theorem layTV_ok {sh : Sh} {vs : List (KV real)} {u : Value} {b : Nat} {s : S} (hl : vs.length = sh.ks.length) (h : RSh w ω b sh vs u) :
    (∀ i, ¬ InR b sh.width i → (layTV b sh vs s).2.ob i = s.ob i) ∧ (∀ i, InR b sh.width i → (s.ob i).g < ((layTV b sh vs s).2.ob i).g) ∧ (layTV b sh vs s).2.sl = s.sl ∧
    ∀ s'' : S, (∀ i, InR b sh.width i → s''.ob i = (layTV b sh vs s).2.ob i) → RTV w ω s'' u (layTV b sh vs s).1 ∧
      ∀ i cells, InR b sh.width i → (s''.ob i).o = .blk cells → ∃ c arr T, ω c = some (i, []) ∧ w.heap[c]? = some (.cells arr T (0, 0)) ∧ All2 (RLf w ω s'') arr.toList cells := by
  cases sh with
  | one kk =>
    obtain ⟨v, rfl, hv⟩ := h
    obtain ⟨h1, h2, hsl, h3⟩ := lays_ok (w := w) (ω := ω) [v] [u] b s ⟨hv, trivial⟩
    refine ⟨h1, fun i hi => (h2 i hi).1, hsl, fun s'' hs => ⟨(h3 s'' hs).1, fun i cells hi hc => ?_⟩⟩
    rw [hs i hi] at hc
    exact absurd hc ((h2 i hi).2 cells)
  | agg ks =>
    obtain ⟨cells, e1, hv⟩ := h
    obtain ⟨h1, h2, hsl, h3⟩ := lays_ok (w := w) (ω := ω) vs cells b s hv
    have hw : (Sh.agg ks).width = vs.length := hl.symm
    rw [hw]
    refine ⟨h1, fun i hi => (h2 i hi).1, hsl, fun s'' hs => ⟨⟨cells, e1, h3 s'' hs⟩, fun i cells' hi hc => ?_⟩⟩
    rw [hs i hi] at hc
    exact absurd hc ((h2 i hi).2 cells')
  | blk ks =>
    obtain ⟨b', arr, T, e1, e2, e3, hv⟩ := h
    obtain ⟨h1, h2, hsl, h3⟩ := lays_ok (w := w) (ω := ω) vs arr.toList (b + 1) s hv
    have hw : (Sh.blk ks).width = vs.length + 1 := by rw [hl]; rfl
    rw [hw]
    have hne : ∀ i, i ≠ b → (layTV b (.blk ks) vs s).2.ob i = (lays (b + 1) vs s).2.ob i := fun i hi => by simp only [layTV]; unfold St.new; exact St.upd_ob_ne _ _ hi
    have hself : (layTV b (.blk ks) vs s).2.ob b = ⟨((lays (b + 1) vs s).2.ob b).g + 1, 0, .blk (lays (b + 1) vs s).1⟩ := by simp only [layTV]; unfold St.new; exact St.upd_ob_self _ _ _
    have hb : (lays (b + 1) vs s).2.ob b = s.ob b := h1 b (by unfold InR; omega)
    refine ⟨fun i hi => ?_, fun i hi => ?_, hsl, fun s'' hs => ?_⟩
    · rw [hne i (by unfold InR at hi; omega)]
      exact h1 i (by unfold InR at hi ⊢; omega)
    · by_cases e : i = b
      · subst e; rw [hself, hb]; exact Nat.lt_succ_self _
      · rw [hne i e]; exact (h2 i (by unfold InR at hi ⊢; omega)).1
    · have hcells := h3 s'' (fun i hi => by
        rw [hs i (by unfold InR at hi ⊢; omega)]
        exact hne i (by unfold InR at hi; omega))
      have hsb := hs b (by unfold InR; omega)
      rw [hself] at hsb
      refine ⟨⟨?_, fun _ cells _ => ⟨b', e2, e1⟩⟩, fun i cells hi hc => ?_⟩
      · rw [hsb]; exact Nat.le_refl _
      · by_cases e : i = b
        · subst e
          rw [hsb] at hc
          injection hc with hc
          subst hc
          exact ⟨b', arr, T, e2, e3, hcells⟩
        · rw [hs i hi, hne i e] at hc
          exact absurd hc ((h2 i (by unfold InR at hi ⊢; omega)).2 cells)
  | ro cs =>
    obtain ⟨x, e1, e2⟩ := h
    have hlay : layTV (A := real) b (.ro cs) vs s = (.one (.iptr cs x 0), s) := by simp only [layTV]; rw [e1]
    rw [hlay]
    exact ⟨fun _ _ => rfl, fun i hi => absurd hi inR0, rfl, fun s'' _ => ⟨e2, fun i _ hi => absurd hi inR0⟩⟩
  | fn f caps =>
    obtain ⟨cv, e1, e2, e3⟩ := h
    refine ⟨fun _ _ => rfl, fun i hi => absurd hi inR0, rfl, fun s'' _ => ⟨⟨cv, e1, ?_⟩, fun i _ hi => absurd hi inR0⟩⟩
    have key : ∀ (cv : List Value) (cc : List (Cap real)), All2 (fun v c => RCap w ω ⟨fun _ => .dead, fun _ => ⟨0, 0, .gone⟩⟩ v c) cv cc → (∀ c ∈ cc, ∃ cs x, c = .ro cs x) → All2 (fun v c => RCap w ω s'' v c) cv cc := by
      intro cv
      induction cv with
      | nil => intro cc h2 _; cases cc with | nil => trivial | cons _ _ => exact h2.elim
      | cons v cv ih =>
        intro cc h2 hro
        cases cc with
        | nil => exact h2.elim
        | cons c cc =>
          refine ⟨?_, ih cc h2.2 (fun c' hc' => hro c' (by simp [hc']))⟩
          obtain ⟨cs, x, rfl⟩ := hro c (by simp)
          exact h2.1
    exact key cv _ e2 e3
  | fnm _ _ => exact h.elim

def widths (shs : List Sh) : Nat := (shs.map Sh.width).sum
theorem layAll_ok : ∀ (shs : List Sh) (vs : List (KV real)) (us : List Value) (b : Nat) (s : S), RShs w ω b shs vs us →
    (∀ i, ¬ InR b (widths shs) i → (layAll b shs vs s).2.ob i = s.ob i) ∧ (∀ i, InR b (widths shs) i → (s.ob i).g < ((layAll b shs vs s).2.ob i).g) ∧ (layAll b shs vs s).2.sl = s.sl ∧
    ∀ s'' : S, (∀ i, InR b (widths shs) i → s''.ob i = (layAll b shs vs s).2.ob i) → All2 (RTV w ω s'') us (layAll b shs vs s).1 ∧
      ∀ i cells, InR b (widths shs) i → (s''.ob i).o = .blk cells → ∃ c arr T, ω c = some (i, []) ∧ w.heap[c]? = some (.cells arr T (0, 0)) ∧ All2 (RLf w ω s'') arr.toList cells
  | [], vs, us, b, s, h => by
    obtain ⟨rfl, rfl⟩ := h
    exact ⟨fun _ _ => rfl, fun i hi => absurd hi (by unfold InR widths; simp), rfl, fun _ _ => ⟨trivial, fun i _ hi => absurd hi (by unfold InR widths; simp)⟩⟩
  | sh :: shs, vs, [], b, s, h => h.elim
  | sh :: shs, vs, u :: us, b, s, h => by
    obtain ⟨hl, h1, h2⟩ := h
    obtain ⟨a1, a2, a3, a4⟩ := layTV_ok (s := s) hl h1
    obtain ⟨b1, b2, b3, b4⟩ := layAll_ok shs (vs.drop sh.ks.length) us (b + sh.width) (layTV b sh (vs.take sh.ks.length) s).2 h2
    have hw : widths (sh :: shs) = sh.width + widths shs := by simp [widths]
    simp only [layAll]
    rw [hw]
    refine ⟨fun i hi => ?_, fun i hi => ?_, b3.trans a3, fun s'' hs => ?_⟩
    · rw [b1 i (by unfold InR at hi ⊢; omega)]
      exact a1 i (by unfold InR at hi ⊢; omega)
    · by_cases e : InR b sh.width i
      · rw [b1 i (by unfold InR at e ⊢; omega)]
        exact a2 i e
      · have := b2 i (by unfold InR at hi e ⊢; omega)
        rw [a1 i e] at this
        exact this
    · obtain ⟨c1, c2⟩ := a4 s'' (fun i hi => by
        rw [hs i (by unfold InR at hi ⊢; omega)]
        exact b1 i (by unfold InR at hi ⊢; omega))
      obtain ⟨d1, d2⟩ := b4 s'' (fun i hi => hs i (by unfold InR at hi ⊢; omega))
      refine ⟨⟨c1, d1⟩, fun i cells hi hc => ?_⟩
      by_cases e : InR b sh.width i
      · exact c2 i cells e hc
      · exact d2 i cells (by unfold InR at hi e ⊢; omega) hc

theorem setAll_ob : ∀ (ds : List Nat) (vs : List TVr) (s : S), (setAll ds vs s).ob = s.ob
  | [], _, _ => rfl
  | _ :: _, [], _ => rfl
  | d :: ds, v :: vs, s => by simp only [setAll]; rw [setAll_ob]; rfl
theorem setAll_sl (P : Nat → TVr → Prop) : ∀ (ds : List Nat) (vs : List TVr) (s : S), (∀ i, P i (s.sl i)) → (∀ (j d : Nat) (v : TVr), ds[j]? = some d → vs[j]? = some v → P d v) → ∀ i, P i ((setAll ds vs s).sl i)
  | [], _, _, h, _, i => h i
  | _ :: _, [], _, h, _, i => h i
  | d :: ds, v :: vs, s, h, h2, i => by
    simp only [setAll]
    refine setAll_sl P ds vs _ (fun i => ?_) (fun j d' v' h3 h4 => h2 (j + 1) d' v' (by simpa using h3) (by simpa using h4)) i
    by_cases e : i = d
    · subst e; rw [St.set_sl_self]; exact h2 0 i v rfl rfl
    · rw [St.set_sl_ne _ _ e]; exact h i

/-- All objects are laid anew. -/
theorem laid_rel {s0 : S} {shs : List Sh} {vs : List (KV real)} {us : List Value} {b : Nat} {ds : List Nat} (hb : 0 < b) (hinj : ∀ b b' k, ω b = some k → ω b' = some k → b = b') (hdom : ∀ b k, ω b = some k → b < w.heap.size) (hdef : a.defers = [])
    (hgone : ∀ i, (s0.ob i).o = .gone) (hsl : ∀ i, RTV w ω s0 (a.tmps.getD i undef) (s0.sl i)) (hv : RShs w ω b shs vs us) (hds : ∀ (j d : Nat), ds[j]? = some d → ∀ u, us[j]? = some u → a.tmps.getD d undef = u) :
    Rel ω a w (setAll ds (layAll b shs vs s0).1 (layAll b shs vs s0).2) := by
  obtain ⟨h1, h2, h3, h4⟩ := layAll_ok shs vs us b s0 hv
  have hob := setAll_ob ds (layAll b shs vs s0).1 (layAll b shs vs s0).2
  have hs := h4 (setAll ds (layAll b shs vs s0).1 (layAll b shs vs s0).2) (fun i _ => by rw [hob])
  have tr : ∀ i, Tr w ω s0 w ω (setAll ds (layAll b shs vs s0).1 (layAll b shs vs s0).2) i := fun i => by
    by_cases e : InR b (widths shs) i
    · exact Newer.tr (by unfold Newer; rw [hob]; exact h2 i e)
    · exact Tr.of_ob hdom (by rw [hob]; exact h1 i e)
  exact
  { inj := hinj
    dom := hdom
    defers := hdef
    own0 := by rw [hob, h1 0 (by unfold InR; omega)]; exact hgone 0
    slots := fun i => by
      refine setAll_sl (fun i v => RTV w ω (setAll ds (layAll b shs vs s0).1 (layAll b shs vs s0).2) (a.tmps.getD i undef) v) ds _ _ (fun i => ?_) (fun j d v hj hv' => ?_) i
      · rw [h3]
        exact RTV.frame (Ext.refl _ _) tr (hsl i)
      · obtain ⟨u, hu, hr⟩ := hs.1.get j v hv'
        rw [hds j d hj u hu]
        exact hr
    blks := fun i cells hc => by
      by_cases e : InR b (widths shs) i
      · exact hs.2 i cells e hc
      · rw [hob, h1 i e, hgone i] at hc
        cases hc }
end
end Go.R

/-! R24: what is handed over, by values; what is kept, frozen; a loop's head. -/
namespace Go.R
section
variable {R : Type} {P : Program} {E : Env} {ω : Own} {a : Act} {w : World} {s : S} {k : S → Option R} {r : R} {o : Oper} {Q : Exit → Act → World → Prop}

/-- A variable's block that is let go of for good: it is nobody's from now on. -/
theorem drop_blk {id : Nat} {ls : List L} (h : Rel ω a w s) (ho : (s.ob id).o = .blk ls) (lo : Nat) : Passes ω a w s (ω.drop id) (s.chg id true .gone) ∧ Gone w ω s (ω.drop id) (s.chg id true .gone) [] lo lo := by
  have h0 : id ≠ 0 := h.ne0 (by rw [ho]; exact fun e => by cases e)
  have tr : ∀ j, Tr w ω s w (ω.drop id) (s.chg id true .gone) j := fun j => by
    by_cases e : j = id
    · subst e
      have ho' : ((s.chg j true .gone).ob j).o = .gone := by rw [St.chg_self]
      have hg : ((s.chg j true .gone).ob j).g = (s.ob j).g := by rw [St.chg_self]
      have hh : ((s.chg j true .gone).ob j).h = bif true then (s.ob j).h + 1 else (s.ob j).h := by rw [St.chg_self]
      exact
      { ref := fun v g h p hr => ⟨by rw [hg]; exact hr.1, by rw [hg, hh]; exact h_step true hr.2.1, fun c hc => (gone_cont ho' hc).elim⟩
        ptr := fun v g off hr => ⟨by rw [hg]; exact hr.1, fun _ cells hc => by rw [ho'] at hc; cases hc⟩
        eptr := fun v g h p i off hr => ⟨by rw [hg]; exact hr.1, by rw [hg, hh]; exact h_step true hr.2.1, fun c hc => (gone_cont ho' hc).elim⟩ }
    · exact Same.tr ⟨St.chg_ne _ _ _ e, fun b k _ hk hj => ⟨rfl, by rw [hk]; exact Own.drop_other hk (by rw [hj]; exact e)⟩⟩ (freeze_ext _ _ _ h0) h.dom
  refine ⟨⟨?_, freeze_ext _ _ _ h0, tr⟩, ?_⟩
  · exact
    { inj := fun b b' k h1 h2 => h.inj b b' k (Own.drop_spec h1).1 (Own.drop_spec h2).1
      dom := fun b k h1 => h.dom b k (Own.drop_spec h1).1
      defers := h.defers
      own0 := by rw [St.chg_ne _ _ _ (Ne.symm h0)]; exact h.own0
      slots := fun i => RTV.frame (freeze_ext _ _ _ h0) tr (h.slots i)
      blks := fun j cells hc => by
        by_cases e : j = id
        · subst e; rw [St.chg_self] at hc; cases hc
        · rw [St.chg_ne _ _ _ e] at hc
          obtain ⟨b, arr, T, h1, h2, h3⟩ := h.blks j cells hc
          exact ⟨b, arr, T, Own.drop_other h1 e, h2, h3.mono fun _ _ hl => RLf.frame (freeze_ext _ _ _ h0) tr hl⟩ }
  · exact
    { nz := fun _ _ h => nomatch h
      was := fun _ _ h => nomatch h
      is := fun _ _ h => nomatch h
      rng := fun _ _ h => nomatch h
      inj := fun _ _ _ h => nomatch h
      fn := fun _ _ _ h => nomatch h
      gone := fun i hg => by
        have hne : i ≠ id := fun e => by subst e; rw [ho] at hg; cases hg
        exact ⟨by rw [St.chg_ne _ _ _ hne]; exact hg, fun b p hb => Own.drop_other hb hne⟩
      back := fun b k hb => (Own.drop_spec hb).1 }
theorem Gone.widen {ω0 : Own} {s0 s1 : S} {m : List (Nat × Nat)} {lo hi lo' hi' : Nat} (h : Gone w ω0 s0 ω s1 m lo hi) (h1 : lo' ≤ lo) (h2 : hi ≤ hi') : Gone w ω0 s0 ω s1 m lo' hi' :=
  { h with rng := fun i j hm => ⟨Nat.le_trans h1 (h.rng i j hm).1, Nat.lt_of_lt_of_le (h.rng i j hm).2 h2⟩ }
theorem ks_val : ∀ (cs : Tys) (k : K), k ∈ cs.ks → k.isArr = false
  | .nil, _, h => by cases h
  | .cons t ts, k, h => by
    cases h with
    | head => rfl
    | tail _ h => exact ks_val ts k h
mutual
theorem ty_beq_self : ∀ t : Ty, Ty.beq t t = true
  | .int k => by simp [Ty.beq]
  | .bool => rfl
  | .str => rfl
  | .sl e cs => by simp only [Ty.beq, Bool.and_eq_true]; exact ⟨Nat.beq_refl e, tys_beq_self cs⟩
theorem tys_beq_self : ∀ t : Tys, Tys.beq t t = true
  | .nil => rfl
  | .cons t ts => by simp only [Tys.beq, Bool.and_eq_true]; exact ⟨ty_beq_self t, tys_beq_self ts⟩
end
theorem toVs_kvs : ∀ (cs : Tys) (x : cs.T), toVs (A := real) cs (kvs (A := real) cs x) = some x
  | .nil, _ => rfl
  | .cons t ts, x => by
    simp only [kvs, toVs]
    have hb : Ty.beq t t = true := ty_beq_self t
    rw [dif_pos hb]
    have ih := toVs_kvs ts (tlT x)
    show Option.map (fun y => real.cn (real.cast hb (real.hd x)) y) (toVs (A := real) ts (kvs (A := real) ts (tlT x))) = some x
    rw [ih]
    exact congrArg some (cn_eta x)
theorem kvs_ks : ∀ (cs : Tys) (x : cs.T), (kvs (A := real) cs x).map (·.1) = cs.ks
  | .nil, _ => rfl
  | .cons t ts, x => congrArg (K.val t :: ·) (kvs_ks ts (tlT x))
theorem ks_len : ∀ (cs : Tys), cs.ks.length = cs.len
  | .nil => rfl
  | .cons _ ts => by simp [Tys.ks, Tys.len, ks_len ts]
/-- Values only: they are a row. -/
theorem RKVs_row {ω' : Own} : ∀ (cs : Tys) (vs : List (KV real)) (us : List Value) (b : Nat), vs.map (·.1) = cs.ks → RKVs w ω' b vs us → ∃ x, toVs (A := real) cs vs = some x ∧ ∀ (j : Nat) (g : Nat → Option Value), (∀ k u, us[k]? = some u → g (j + k) = some u) → cs.R w ω' (fun _ => .imm) g j x
  | .nil, [], us, b, _, _ => ⟨(), rfl, fun _ _ _ => trivial⟩
  | .nil, _ :: _, _, _, h, _ => by simp [Tys.ks] at h
  | .cons t ts, [], _, _, h, _ => by simp [Tys.ks] at h
  | .cons t ts, v :: vs, [], _, _, h => h.elim
  | .cons t ts, ⟨kk, y⟩ :: vs, u :: us, b, h, hr => by
    simp only [List.map_cons, Tys.ks, List.cons.injEq] at h
    obtain ⟨h1, h2⟩ := h
    subst h1
    obtain ⟨x, q1, q2⟩ := RKVs_row ts vs us (b + 1) h2 hr.2
    have hb : Ty.beq t t = true := ty_beq_self t
    refine ⟨cnT y x, ?_, fun j g hg => ?_⟩
    · simp only [toVs]
      rw [dif_pos hb, q1]
      rfl
    · have hh : hdT (cnT (t := t) (ts := ts) y x) = y := hd_cn _ _
      have ht : tlT (cnT (t := t) (ts := ts) y x) = x := tl_cn _ _
      refine ⟨⟨u, by simpa using hg 0 u rfl, ?_⟩, ?_⟩
      · rw [hh]; exact hr.1
      · rw [ht]
        exact q2 (j + 1) g (fun k u' hu' => by
          have := hg (k + 1) u' (by simpa using hu')
          rwa [show j + (k + 1) = j + 1 + k by omega] at this)
theorem takeCap_ok (h : Rel ω a w s) {cs : Tys} {c : Cap real} {u : Value} {vs : List (KV real)} {s1 : S} (hc : RCap w ω s u c) (ht : takeCap cs c s = some (vs, s1)) (b : Nat) :
    ∃ ω1, Passes ω a w s ω1 s1 ∧ Gone w ω s ω1 s1 [] b b ∧ vs.map (·.1) = cs.ks ∧ ∃ x, toVs (A := real) cs vs = some x ∧ ∀ ω2 s2 ω', Later ω1 s1 ω2 s2 → (∀ b, b < w.heap.size → ω2 b = none → ω' b = none) → RIptr w ω' u cs x 0 := by
  cases c with
  | ro cs' x =>
    simp only [takeCap] at ht
    split at ht
    · rename_i hb
      have := Tys.eq_of_beq hb
      subst this
      have ht := Option.some.inj ht
      injection ht with e1 e2
      subst e1; subst e2
      refine ⟨ω, Passes.refl h, Gone.refl _ _ _ _ _, kvs_ks _ _, x, toVs_kvs _ _, fun ω2 s2 ω' hL hn => ?_⟩
      obtain ⟨b, o', h1, h2, h3, h4⟩ := hc
      exact ⟨b, o', hn b h2 (hL.none b h1), h2, h3, Tys.R_free cs' _ _ 0 x (fun _ b hb hk => by
        rcases hk with hk | ⟨_, _, hk⟩
        · exact hn b hb (hL.none b hk)
        · exact hk.elim) h4⟩
    · cases ht
  | ptr id g =>
    simp only [takeCap] at ht
    cases hb : blkOf s id g with
    | none => rw [hb] at ht; cases ht
    | some ls =>
      rw [hb] at ht
      simp only at ht
      cases h2 : takes cs.ks ls s with
      | none => rw [h2] at ht; cases ht
      | some q =>
        obtain ⟨vs', s2⟩ := q
        rw [h2] at ht
        simp only at ht
        obtain ⟨e1, e2⟩ := blkOf_ok hb
        obtain ⟨b', f1, f2⟩ := hc.2 e1 ls e2
        obtain ⟨b'', arr, T, q1, q2, q3⟩ := h.blks id ls e2
        obtain rfl := h.inj _ _ _ f1 q1
        obtain ⟨ω1, m, p1, g1, t1, n1, r1⟩ := takes_ok cs.ks ls arr.toList ω s vs' s2 b h q3 h2
        cases hob : (s2.ob id).o with
        | blk ls' =>
          rw [hob] at ht
          have ht := Option.some.inj ht
          injection ht with v1 v2
          subst v1; subst v2
          have hm := n1 (ks_val cs)
          subst hm
          obtain ⟨p2, g2⟩ := drop_blk p1.rel hob b
          have g1' : Gone w ω s ω1 s2 [] b b := { g1 with rng := fun _ _ h => nomatch h }
          refine ⟨ω1.drop id, p1.trans p2, Gone.trans (Nat.le_refl _) (Nat.le_refl _) g1' g2, t1, ?_⟩
          obtain ⟨x, x1, _⟩ := RKVs_row cs vs' arr.toList b t1 (r1 ω1 s2 ω1 (Later.refl _ _) ⟨fun _ _ h => h, fun _ _ h => nomatch h⟩)
          refine ⟨x, x1, fun ω2 s3 ω' hL hn => ?_⟩
          have hk := r1 ω2 s3 ω' (g2.later.trans hL) ⟨hn, fun _ _ h => nomatch h⟩
          obtain ⟨x', x1', x2⟩ := RKVs_row cs vs' arr.toList b t1 hk
          rw [x1] at x1'
          injection x1' with x1'
          subst x1'
          have hnone : (ω1.drop id) b' = none := by
            cases hq : ω1 b' with
            | none => exact Own.drop_none hq
            | some kk =>
              have := g1.back b' kk hq
              rw [f1] at this
              injection this with this
              subst this
              exact Own.drop_self hq rfl
          refine ⟨b', 0, hn b' (h.dom _ _ f1) (hL.none b' hnone), h.dom _ _ f1, f2, x2 0 _ (fun k u hu => ?_)⟩
          rw [Nat.zero_add, Nat.zero_add, cell_of_row w b' k arr T (0, 0) q2]
          simpa using hu
        | arr _ _ _ _ => rw [hob] at ht; cases ht
        | imm _ _ _ => rw [hob] at ht; cases ht
        | gone => rw [hob] at ht; cases ht
theorem takeCaps_ok : ∀ (caps : List Tys) (cc : List (Cap real)) (cv : List Value) (ω : Own) (s : S) (vs : List (KV real)) (s1 : S) (b : Nat), Rel ω a w s → All2 (fun v c => RCap w ω s v c) cv cc → takeCaps caps cc s = some (vs, s1) →
    ∃ ω1, Passes ω a w s ω1 s1 ∧ Gone w ω s ω1 s1 [] b b ∧ vs.map (·.1) = (caps.map Tys.ks).flatten ∧ (∀ c ∈ layCaps (A := real) caps vs, ∃ cs x, c = .ro cs x) ∧ ∀ ω2 s2 ω', Later ω1 s1 ω2 s2 → (∀ b, b < w.heap.size → ω2 b = none → ω' b = none) →
      All2 (fun v c => RCap w ω' ⟨fun _ => .dead, fun _ => ⟨0, 0, .gone⟩⟩ v c) cv (layCaps (A := real) caps vs)
  | [], [], cv, ω, s, vs, s1, b, h, h2, ht => by
    injection ht with ht
    injection ht with e1 e2
    subst e1; subst e2
    cases cv with
    | cons _ _ => exact h2.elim
    | nil => exact ⟨ω, Passes.refl h, Gone.refl _ _ _ _ _, rfl, (fun c hc => absurd hc (by simp [layCaps])), fun _ _ _ _ _ => trivial⟩
  | cs :: caps, c :: cc, [], _, _, _, _, _, _, h2, _ => h2.elim
  | cs :: caps, c :: cc, v :: cv, ω, s, vs, s1, b, h, h2, ht => by
    simp only [takeCaps] at ht
    cases h1 : takeCap cs c s with
    | none => rw [h1] at ht; cases ht
    | some q =>
      obtain ⟨v1, s2⟩ := q
      rw [h1] at ht
      simp only at ht
      cases h3 : takeCaps caps cc s2 with
      | none => rw [h3] at ht; cases ht
      | some q2 =>
        obtain ⟨vs', s3⟩ := q2
        rw [h3] at ht
        injection ht with ht
        injection ht with e1 e2
        subst e1; subst e2
        obtain ⟨ω1, p1, g1, t1, x, x1, r1⟩ := takeCap_ok h h2.1 h1 b
        obtain ⟨ω2, p2, g2, t2, q2, r2⟩ := takeCaps_ok caps cc cv ω1 s2 vs' s3 b p1.rel (h2.2.mono fun _ _ hl => RCap.frame p1.ext p1.tr hl) h3
        have hlen : v1.length = cs.len := by rw [← ks_len, ← t1]; simp
        have hlay : layCaps (A := real) (cs :: caps) (v1 ++ vs') = .ro cs x :: layCaps (A := real) caps vs' := by
          simp only [layCaps]
          rw [List.take_left' hlen, List.drop_left' hlen, x1]
        refine ⟨ω2, p1.trans p2, Gone.trans (Nat.le_refl _) (Nat.le_refl _) g1 g2, by simp [t1, t2], ?_, fun ω3 s4 ω' hL hn => ?_⟩
        · rw [hlay]
          intro c hc
          cases hc with
          | head => exact ⟨cs, x, rfl⟩
          | tail _ hm => exact q2 c hm
        · rw [hlay]
          exact ⟨r1 ω3 s4 ω' (g2.later.trans hL) hn, r2 ω3 s4 ω' hL hn⟩
  | [], _ :: _, _, _, _, _, _, _, _, _, ht => by cases ht
  | _ :: _, [], _, _, _, _, _, _, _, _, ht => by cases ht
theorem takeTV_ok (h : Rel ω a w s) {sh : Sh} {tv : TVr} {u : Value} {vs : List (KV real)} {s1 : S} (hl : RTV w ω s u tv) (ht : takeTV sh tv s = some (vs, s1)) (b : Nat) :
    ∃ ω1 m, Passes ω a w s ω1 s1 ∧ Gone w ω s ω1 s1 m b (b + sh.width) ∧ vs.map (·.1) = sh.ks ∧ (sh.light = true → m = []) ∧ ∀ ω2 s2 ω', Later ω1 s1 ω2 s2 → Sends w ω2 ω' m → RSh w ω' b sh vs u := by
  unfold takeTV at ht
  split at ht
  · rename_i cs id g
    obtain ⟨ω1, p1, g1, t1, x, q1, r1⟩ := takeCap_ok h (c := .ptr id g) hl ht b
    exact ⟨ω1, [], p1, g1, t1, fun _ => rfl, fun ω2 s2 ω' hL hS => ⟨x, q1, r1 ω2 s2 ω' hL (fun b hb hn => hS.none b hb hn)⟩⟩
  · rename_i cs cs' x
    obtain ⟨ω1, p1, g1, t1, x, q1, r1⟩ := takeCap_ok h (c := .ro cs' x) hl ht b
    exact ⟨ω1, [], p1, g1, t1, fun _ => rfl, fun ω2 s2 ω' hL hS => ⟨x, q1, r1 ω2 s2 ω' hL (fun b hb hn => hS.none b hb hn)⟩⟩
  · rename_i f caps f' cc
    cases hf : Nat.beq f f' with
    | false => rw [hf] at ht; cases ht
    | true =>
      rw [hf] at ht
      simp only [cond_true] at ht
      have he := Nat.eq_of_beq_eq_true hf
      subst he
      obtain ⟨cv, e1, h2⟩ := hl
      obtain ⟨ω1, p1, g1, t1, q1, r1⟩ := takeCaps_ok caps cc cv ω s vs s1 b h h2 ht
      exact ⟨ω1, [], p1, g1, t1, fun _ => rfl, fun ω2 s2 ω' hL hS => ⟨cv, e1, r1 ω2 s2 ω' hL (fun b hb hn => hS.none b hb hn), q1⟩⟩
  · rename_i kk l
    obtain ⟨ω1, m, p1, g1, t1, n1, r1⟩ := takes_ok [kk] [l] [u] ω s vs s1 b h ⟨hl, trivial⟩ ht
    refine ⟨ω1, m, p1, g1, t1, fun hl => n1 (fun k hk => by rw [List.mem_singleton] at hk; subst hk; simpa [Sh.light] using hl), fun ω2 s2 ω' hL hS => ?_⟩
    have := r1 ω2 s2 ω' hL hS
    match vs, this with
    | [v], this => exact ⟨v, rfl, this.1⟩
    | _ :: _ :: _, this => exact this.2.elim
  · rename_i ks ls
    obtain ⟨cells, e1, h2⟩ := hl
    obtain ⟨ω1, m, p1, g1, t1, n1, r1⟩ := takes_ok ks ls cells ω s vs s1 b h h2 ht
    exact ⟨ω1, m, p1, g1, t1, fun hl => n1 (fun k hk => by simpa using List.all_eq_true.1 hl k hk), fun ω2 s2 ω' hL hS => ⟨cells, e1, r1 ω2 s2 ω' hL hS⟩⟩
  · rename_i ks id g
    cases hb : blkOf s id g with
    | none => rw [hb] at ht; cases ht
    | some ls =>
      rw [hb] at ht
      simp only at ht
      cases h2 : takes ks ls (s.chg id true .gone) with
      | none => rw [h2] at ht; cases ht
      | some q =>
        rw [h2] at ht
        have ht := Option.some.inj ht
        subst ht
        obtain ⟨e1, e2⟩ := blkOf_ok hb
        obtain ⟨b', f1, f2⟩ := hl.2 e1 ls e2
        obtain ⟨b'', arr, T, q1, q2, q3⟩ := h.blks id ls e2
        obtain rfl := h.inj _ _ _ f1 q1
        have hng : (s.ob id).o ≠ .gone := by rw [e2]; exact fun e => by cases e
        have p0 := Passes.gone1 h id
        have g0 := gone_one (lo := b) h hng
        obtain ⟨ω1, m, p1, g1, t1, _, r1⟩ := takes_ok ks ls arr.toList ω (s.chg id true .gone) vs s1 (b + 1) p0.rel (q3.mono fun _ _ hl => RLf.frame p0.ext p0.tr hl) h2
        refine ⟨ω1, (id, b) :: m, p0.trans p1, ?_, t1, fun e => (by cases e), fun ω2 s2 ω' hL hS => ?_⟩
        · have := Gone.trans (Nat.le_succ _) (Nat.le_add_right _ _) g0 g1
          rwa [show b + 1 + ks.length = b + (Sh.blk ks).width by simp [Sh.width]; omega] at this
        · refine ⟨b', arr, T, f2, ?_, q2, r1 ω2 s2 ω' hL ⟨hS.none, fun i j hm => hS.own i j (by simp [hm])⟩⟩
          refine hS.own id b (by simp) b' [] (h.dom b' _ f1) ?_
          exact ((g1.later.trans hL).gone id (by rw [St.chg_self])).2 b' [] f1
  · cases ht
theorem takeAll_ok : ∀ (shs : List Sh) (tvs : List TVr) (us : List Value) (ω : Own) (s : S) (vs : List (KV real)) (s1 : S) (b : Nat), Rel ω a w s → All2 (RTV w ω s) us tvs → takeAll shs tvs s = some (vs, s1) →
    ∃ ω1 m, Passes ω a w s ω1 s1 ∧ Gone w ω s ω1 s1 m b (b + widths shs) ∧ (shs.all Sh.light = true → m = []) ∧ ∀ ω2 s2 ω', Later ω1 s1 ω2 s2 → Sends w ω2 ω' m → RShs w ω' b shs vs us
  | [], [], us, ω, s, vs, s1, b, h, h2, ht => by
    injection ht with ht
    injection ht with e1 e2
    subst e1; subst e2
    cases us with
    | cons _ _ => exact h2.elim
    | nil => exact ⟨ω, [], Passes.refl h, Gone.refl _ _ _ _ _, fun _ => rfl, fun _ _ _ _ _ => ⟨rfl, rfl⟩⟩
  | sh :: shs, tv :: tvs, [], _, _, _, _, _, _, h2, _ => h2.elim
  | sh :: shs, tv :: tvs, u :: us, ω, s, vs, s1, b, h, h2, ht => by
    simp only [takeAll] at ht
    cases h1 : takeTV sh tv s with
    | none => rw [h1] at ht; cases ht
    | some q =>
      obtain ⟨v, s2⟩ := q
      rw [h1] at ht
      simp only at ht
      cases h3 : takeAll shs tvs s2 with
      | none => rw [h3] at ht; cases ht
      | some q2 =>
        obtain ⟨vs', s3⟩ := q2
        rw [h3] at ht
        injection ht with ht
        injection ht with e1 e2
        subst e1; subst e2
        obtain ⟨ω1, m1, p1, g1, t1, n1, r1⟩ := takeTV_ok h h2.1 h1 b
        obtain ⟨ω2, m2, p2, g2, n2, r2⟩ := takeAll_ok shs tvs us ω1 s2 vs' s3 (b + sh.width) p1.rel (h2.2.mono fun _ _ hl => RTV.frame p1.ext p1.tr hl) h3
        have hlen : v.length = sh.ks.length := by rw [← t1]; simp
        refine ⟨ω2, m1 ++ m2, p1.trans p2, ?_, fun hl => by rw [List.all_cons, Bool.and_eq_true] at hl; rw [n1 hl.1, n2 hl.2]; rfl, fun ω3 s4 ω' hg hs => ?_⟩
        · have := Gone.trans (Nat.le_add_right _ _) (Nat.le_add_right _ _) g1 g2
          rwa [show b + sh.width + widths shs = b + widths (sh :: shs) by simp [widths]; omega] at this
        · refine ⟨by rw [List.take_left' hlen]; exact hlen, ?_, ?_⟩
          · rw [List.take_left' hlen]; exact r1 ω3 s4 ω' (g2.later.trans hg) hs.left
          · rw [List.drop_left' hlen]; exact r2 ω3 s4 ω' hg hs.right
  | [], _ :: _, _, _, _, _, _, _, _, _, ht => by cases ht
  | _ :: _, [], _, _, _, _, _, _, _, _, ht => by cases ht

/-! ### New names -/
def Own.named (ω : Own) (m : List (Nat × Nat)) : Own := fun b => match ω b with
  | none => none
  | some (i, p) => if i = 0 then some (0, p) else match m.find? (fun q => q.1 == i) with
    | some q => some (q.2, p)
    | none => none
theorem named_none {m : List (Nat × Nat)} {b : Nat} (h : ω b = none) : ω.named m b = none := by unfold Own.named; rw [h]
theorem named_own {s1 : S} {ω0 : Own} {s0 : S} {m : List (Nat × Nat)} {lo hi : Nat} (hg : Gone w ω0 s0 ω s1 m lo hi) {i j b : Nat} {p : List (Nat × Nat)} (hm : (i, j) ∈ m) (h : ω b = some (i, p)) : ω.named m b = some (j, p) := by
  unfold Own.named
  rw [h]
  simp only
  rw [if_neg (hg.nz i j hm)]
  cases hf : m.find? (fun q => q.1 == i) with
  | none =>
    have := List.find?_eq_none.1 hf (i, j) hm
    simp at this
  | some q =>
    obtain ⟨i', j'⟩ := q
    have h1 := List.find?_some hf
    have h2 := List.mem_of_find?_eq_some hf
    simp at h1
    subst h1
    rw [hg.fn i' j j' hm h2]
theorem named_spec {m : List (Nat × Nat)} {b : Nat} {k : Key} (h : ω.named m b = some k) : (k.1 = 0 ∧ ω b = some k) ∨ ∃ i, (i, k.1) ∈ m ∧ i ≠ 0 ∧ ω b = some (i, k.2) := by
  unfold Own.named at h
  split at h
  · cases h
  · rename_i i p hb
    split at h
    · rename_i h0
      injection h with h
      subst h; subst h0
      exact .inl ⟨rfl, hb⟩
    · rename_i h0
      split at h
      · rename_i q hq
        injection h with h
        subst h
        have h1 := List.find?_some hq
        have h2 := List.mem_of_find?_eq_some hq
        simp at h1
        subst h1
        exact .inr ⟨q.1, h2, h0, hb⟩
      · cases h
theorem named_fixed {m : List (Nat × Nat)} {b : Nat} (h : Fixed ω b) : ω.named m b = ω b := by
  rcases h with h | ⟨q, h⟩
  · rw [h]; exact named_none h
  · unfold Own.named; rw [h]; simp
theorem named_ext (ω : Own) (w : World) (m : List (Nat × Nat)) : Ext ω w (ω.named m) w := ⟨rfl, rfl, rfl, Nat.le_refl _, fun _ _ h => ⟨rfl, named_fixed h⟩⟩
theorem named_inj {s1 : S} {ω0 : Own} {s0 : S} {m : List (Nat × Nat)} {lo hi : Nat} (hlo : 0 < lo) (hg : Gone w ω0 s0 ω s1 m lo hi) (hinj : ∀ b b' k, ω b = some k → ω b' = some k → b = b') (b b' : Nat) (k : Key) (h : ω.named m b = some k) (h' : ω.named m b' = some k) : b = b' := by
  rcases named_spec h with ⟨e1, e2⟩ | ⟨i, e1, e2, e3⟩ <;> rcases named_spec h' with ⟨f1, f2⟩ | ⟨i', f1, f2, f3⟩
  · exact hinj b b' k e2 f2
  · have := (hg.rng _ _ f1).1; omega
  · have := (hg.rng _ _ e1).1; omega
  · have := hg.inj i i' k.1 e1 f1
    subst this
    exact hinj b b' _ e3 f3
theorem named_dom {m : List (Nat × Nat)} (hd : ∀ b k, ω b = some k → b < w.heap.size) (b : Nat) (k : Key) (h : ω.named m b = some k) : b < w.heap.size := by
  rcases named_spec h with ⟨_, e⟩ | ⟨_, _, _, e⟩ <;> exact hd b _ e
theorem named_sends {s1 : S} {ω0 : Own} {s0 : S} {m : List (Nat × Nat)} {lo hi : Nat} (hg : Gone w ω0 s0 ω s1 m lo hi) : Sends w ω (ω.named m) m :=
  ⟨fun _ _ h => named_none h, fun _ _ hm _ _ _ h => named_own hg hm h⟩

theorem ofKTs_toKTs : ∀ (ks : List K) (vs : List (KV real)) (x : KTs real ks), toKTs ks vs = some x → ofKTs ks x = vs
  | [], [], x, _ => rfl
  | [], _ :: _, _, h => by cases h
  | k :: ks, [], _, h => by cases h
  | k :: ks, ⟨k', y⟩ :: vs, x, h => by
    simp only [toKTs] at h
    split at h
    · rename_i hb
      cases hr : toKTs ks vs with
      | none => rw [hr] at h; cases h
      | some z =>
        rw [hr] at h
        have h := Option.some.inj h
        subst h
        have hk := K.eq_of_beq hb
        subst hk
        simp only [ofKTs]
        rw [ofKTs_toKTs ks vs z hr]
    · cases h

end
end Go.R

/-! R25: a loop's head and end. -/
namespace Go.R
section
variable {R : Type} {P : Program} {E : Env} {ω : Own} {a : Act} {w : World} {s : S} {k : S → Option R} {r : R} {o : Oper} {Q : Exit → Act → World → Prop}

/-- What only hangs on nobody's blocks. -/
def Stays (w : World) (ω : Own) (w' : World) (ω' : Own) : Prop := w.heap.size ≤ w'.heap.size ∧ ∀ b, b < w.heap.size → ω b = none → w'.heap[b]? = w.heap[b]? ∧ ω' b = none
theorem Ext.stays {w' : World} {ω' : Own} (h : Ext ω w ω' w') : Stays w ω w' ω' := ⟨h.size, fun b hb hn => by have := h.block b hb (.inl hn); exact ⟨this.1, this.2.trans hn⟩⟩
theorem Stays.trans {w' w'' : World} {ω' ω'' : Own} (h : Stays w ω w' ω') (h' : Stays w' ω' w'' ω'') : Stays w ω w'' ω'' :=
  ⟨Nat.le_trans h.1 h'.1, fun b hb hn => by
    have h1 := h.2 b hb hn
    have h2 := h'.2 b (Nat.lt_of_lt_of_le hb h.1) h1.2
    exact ⟨h2.1.trans h1.1, h2.2⟩⟩
theorem Stays.keeps {w' : World} {ω' : Own} (h : Stays w ω w' ω') : Keeps w ω w' ω' .imm := by
  intro b hb hk
  rcases hk with hk | ⟨k, _, hk⟩
  · have := h.2 b hb hk
    exact ⟨this.1, this.2.trans hk.symm⟩
  · exact hk.elim
theorem Stays.iptr {w' : World} {ω' : Own} (h : Stays w ω w' ω') {v : Value} {cs : Tys} {x : cs.T} {off : Nat} (hr : RIptr w ω v cs x off) : RIptr w' ω' v cs x off := by
  obtain ⟨b, o', h1, h2, h3, h4⟩ := hr
  have hb := h.2 b h2 h1
  exact ⟨b, o', hb.2, Nat.lt_of_lt_of_le h2 h.1, h3, Tys.R_frame h.1 cs _ _ _ 0 _ (fun _ => h.keeps) (fun j => cell_of_heap (a := ⟨b, o' + j, none⟩) hb.1) h4⟩
theorem RKVs_stays {w' : World} {ω' : Own} (h : Stays w ω w' ω') : ∀ (vs : List (KV real)) (us : List Value) (b : Nat), (∀ v ∈ vs, v.1.isArr = false) → RKVs w ω b vs us → RKVs w' ω' b vs us
  | [], [], _, _, _ => trivial
  | [], _ :: _, _, _, hr => hr.elim
  | _ :: _, [], _, _, hr => hr.elim
  | ⟨kk, x⟩ :: vs, u :: us, b, ha, hr => by
    refine ⟨?_, RKVs_stays h vs us (b + 1) (fun v hv => ha v (by simp [hv])) hr.2⟩
    have h0 := ha ⟨kk, x⟩ (by simp)
    have h1 := hr.1
    cases kk with
    | val t => exact Ty.R_frame h.1 t .imm u x h.keeps h1
    | arr _ _ _ => cases h0
theorem RShs_stays {w' : World} {ω' : Own} (h : Stays w ω w' ω') : ∀ (shs : List Sh) (vs : List (KV real)) (us : List Value) (b : Nat), shs.all Sh.light = true → vs.map (·.1) = (shs.map Sh.ks).flatten → RShs w ω b shs vs us → RShs w' ω' b shs vs us
  | [], _, _, _, _, _, hr => hr
  | sh :: shs, vs, [], _, _, _, hr => hr.elim
  | sh :: shs, vs, u :: us, b, hl, hk, hr => by
    obtain ⟨r1, r2, r3⟩ := hr
    rw [List.all_cons, Bool.and_eq_true] at hl
    simp only [List.map_cons, List.flatten_cons] at hk
    have hk1 : (vs.take sh.ks.length).map (·.1) = sh.ks := by
      rw [List.map_take, hk, List.take_left']
      rfl
    have hk2 : (vs.drop sh.ks.length).map (·.1) = (shs.map Sh.ks).flatten := by
      rw [List.map_drop, hk, List.drop_left']
      rfl
    refine ⟨r1, ?_, RShs_stays h shs _ us _ hl.2 hk2 r3⟩
    have hl1 := hl.1
    cases sh with
    | one kk =>
      obtain ⟨v, e1, e2⟩ := r2
      rw [e1] at hk1
      have hv : v.1 = kk := by simpa [Sh.ks] using hk1
      refine ⟨v, e1, (RKVs_stays h [v] [u] b (fun v' hv' => ?_) ⟨e2, trivial⟩).1⟩
      rw [List.mem_singleton] at hv'
      subst hv'
      rw [hv]
      simpa [Sh.light] using hl1
    | agg ks =>
      obtain ⟨cells, e1, e2⟩ := r2
      refine ⟨cells, e1, RKVs_stays h _ cells b (fun v hv => ?_) e2⟩
      have hm : v.1 ∈ ks := by
        have : v.1 ∈ ((vs.take (Sh.agg ks).ks.length).map (·.1)) := List.mem_map.2 ⟨v, hv, rfl⟩
        rw [hk1] at this
        exact this
      simpa using List.all_eq_true.1 hl1 _ hm
    | blk _ => cases hl1
    | ro cs =>
      obtain ⟨x, e1, e2⟩ := r2
      exact ⟨x, e1, h.iptr e2⟩
    | fn f caps =>
      obtain ⟨cv, e1, e2, e3⟩ := r2
      refine ⟨cv, e1, ?_, e3⟩
      have key : ∀ (cv : List Value) (cc : List (Cap real)), (∀ c ∈ cc, ∃ cs x, c = .ro cs x) → All2 (fun v c => RCap w ω ⟨fun _ => .dead, fun _ => ⟨0, 0, .gone⟩⟩ v c) cv cc → All2 (fun v c => RCap w' ω' ⟨fun _ => .dead, fun _ => ⟨0, 0, .gone⟩⟩ v c) cv cc := by
        intro cv
        induction cv with
        | nil => intro cc _ h2; cases cc with | nil => trivial | cons _ _ => exact h2.elim
        | cons v cv ih =>
          intro cc hro h2
          cases cc with
          | nil => exact h2.elim
          | cons c cc =>
            refine ⟨?_, ih cc (fun c' hc' => hro c' (by simp [hc'])) h2.2⟩
            obtain ⟨cs, x, rfl⟩ := hro c (by simp)
            exact h.iptr h2.1
      exact key cv _ e3 e2
    | fnm _ _ => cases hl1

/-- Light things lay no objects. -/
theorem lays_gone : ∀ (vs : List (KV real)) (b : Nat) (s : S), (∀ v ∈ vs, v.1.isArr = false) → (∀ i, (s.ob i).o = .gone) → ∀ i, ((lays b vs s).2.ob i).o = .gone
  | [], _, _, _, h, i => h i
  | ⟨kk, x⟩ :: vs, b, s, ha, h, i => by
    simp only [lays]
    refine lays_gone vs (b + 1) _ (fun v hv => ha v (by simp [hv])) (fun j => ?_) i
    have h0 := ha ⟨kk, x⟩ (by simp)
    cases kk with
    | val t =>
      simp only [lay1]
      by_cases e : j = b
      · subst e; unfold St.new; rw [St.upd_ob_self]
      · unfold St.new; rw [St.upd_ob_ne _ _ e]; exact h j
    | arr _ _ _ => cases h0
theorem layAll_gone : ∀ (shs : List Sh) (vs : List (KV real)) (b : Nat) (s : S), shs.all Sh.light = true → vs.map (·.1) = (shs.map Sh.ks).flatten → (∀ i, (s.ob i).o = .gone) → ∀ i, ((layAll b shs vs s).2.ob i).o = .gone
  | [], _, _, _, _, _, h, i => h i
  | sh :: shs, vs, b, s, hl, hk, h, i => by
    rw [List.all_cons, Bool.and_eq_true] at hl
    simp only [List.map_cons, List.flatten_cons] at hk
    have hk1 : (vs.take sh.ks.length).map (·.1) = sh.ks := by
      rw [List.map_take, hk, List.take_left']
      rfl
    have hk2 : (vs.drop sh.ks.length).map (·.1) = (shs.map Sh.ks).flatten := by
      rw [List.map_drop, hk, List.drop_left']
      rfl
    simp only [layAll]
    refine layAll_gone shs _ _ _ hl.2 hk2 (fun j => ?_) i
    have hl1 := hl.1
    have ha : ∀ ks, sh.ks = ks → (ks.all fun k => !k.isArr) = true → ∀ v ∈ vs.take sh.ks.length, v.1.isArr = false := by
      intro ks e hall v hv
      have hm : v.1 ∈ ks := by
        have : v.1 ∈ ((vs.take sh.ks.length).map (·.1)) := List.mem_map.2 ⟨v, hv, rfl⟩
        rw [hk1, e] at this
        exact this
      simpa using List.all_eq_true.1 hall _ hm
    cases sh with
    | one kk =>
      have hv := ha [kk] rfl (by simpa [Sh.light] using hl1)
      cases hvs : vs.take (Sh.one kk).ks.length with
      | nil => simp only [layTV]; exact h j
      | cons v rest =>
        cases rest with
        | nil =>
          rw [hvs] at hv
          simp only [layTV]
          exact lays_gone [v] b s hv h j
        | cons _ _ => simp only [layTV]; exact h j
    | agg ks => exact lays_gone _ b s (ha ks rfl hl1) h j
    | blk _ => cases hl1
    | ro cs =>
      simp only [layTV]
      cases toVs (A := real) cs (vs.take (Sh.ro cs).ks.length) <;> exact h j
    | fn f caps => exact h j
    | fnm _ _ => cases hl1

/-- The slots' values at a time. -/
def vals (t : Tmpl) (a : Act) : List Value := t.map fun p => a.tmps.getD p.1 undef
def KeepR (w : World) (ω : Own) (a : Act) (t : Tmpl) (kx : KTs real (Tmpl.ks t)) : Prop := RShs w ω 1 (t.map (·.2)) (ofKTs _ kx) (vals t a)
theorem ofKTs_ks : ∀ (ks : List K) (x : KTs real ks), (ofKTs ks x).map (·.1) = ks
  | [], _ => rfl
  | k :: ks, (x, r) => congrArg (k :: ·) (ofKTs_ks ks r)
theorem vals_get (t : Tmpl) (a : Act) (j d : Nat) (hd : (t.map (·.1))[j]? = some d) (u : Value) (hu : (vals t a)[j]? = some u) : a.tmps.getD d undef = u := by
  unfold vals at hu
  rw [List.getElem?_map] at hd hu
  cases htj : t[j]? with
  | none => rw [htj] at hd; cases hd
  | some p =>
    rw [htj] at hd hu
    have hd := Option.some.inj hd
    have hu := Option.some.inj hu
    subst hd
    exact hu
def headS (keep tmpl : Tmpl) (kx : KTs real (Tmpl.ks keep)) (x : KTs real (Tmpl.ks tmpl)) : S := layT tmpl x (layT keep kx St.start)
theorem ks_map (t : Tmpl) : ((t.map (·.2)).map Sh.ks).flatten = Tmpl.ks t := by
  unfold Tmpl.ks; rw [List.map_map]; rfl
theorem head_rel {keep tmpl : Tmpl} {kx : KTs real (Tmpl.ks keep)} {x : KTs real (Tmpl.ks tmpl)} (hl : (keep.map (·.2)).all Sh.light = true) (hinj : ∀ b b' k, ω b = some k → ω b' = some k → b = b') (hdom : ∀ b k, ω b = some k → b < w.heap.size) (hdef : a.defers = [])
    (hk : KeepR w ω a keep kx) (hx : KeepR w ω a tmpl x) : Rel ω a w (headS keep tmpl kx x) := by
  have h1 : Rel ω a w (layT keep kx St.start) := laid_rel (by omega) hinj hdom hdef (fun _ => rfl) (fun _ => trivial) hk (vals_get keep a)
  have hg : ∀ i, ((layT keep kx St.start).ob i).o = .gone := by
    intro i
    unfold layT
    rw [setAll_ob]
    exact layAll_gone _ _ 1 _ hl (by rw [ofKTs_ks, ks_map]) (fun _ => rfl) i
  exact laid_rel (by omega) hinj hdom hdef hg h1.slots hx (vals_get tmpl a)
theorem slots_all2 (h : Rel ω a w s) : ∀ t : Tmpl, All2 (RTV w ω s) (vals t a) (t.map fun p => s.sl p.1)
  | [] => trivial
  | p :: t => ⟨h.slots p.1, slots_all2 h t⟩
theorem takeT_ok (h : Rel ω a w s) {t : Tmpl} {x : KTs real (Tmpl.ks t)} {s1 : S} (ht : takeT t s = some (x, s1)) :
    ∃ ω1 m, Passes ω a w s ω1 s1 ∧ Gone w ω s ω1 s1 m 1 (1 + widths (t.map (·.2))) ∧ ((t.map (·.2)).all Sh.light = true → m = []) ∧ ∀ ω2 s2 ω', Later ω1 s1 ω2 s2 → Sends w ω2 ω' m → KeepR w ω' a t x := by
  unfold takeT at ht
  cases hq : takeAll (t.map (·.2)) (t.map fun p => s.sl p.1) s with
  | none => rw [hq] at ht; cases ht
  | some q =>
    obtain ⟨vs, s2⟩ := q
    rw [hq] at ht
    simp only at ht
    cases hx : toKTs (Tmpl.ks t) vs with
    | none => rw [hx] at ht; cases ht
    | some y =>
      rw [hx] at ht
      have ht := Option.some.inj ht
      injection ht with e1 e2
      subst e1; subst e2
      obtain ⟨ω1, m, p1, g1, n1, r1⟩ := takeAll_ok _ _ _ ω s vs s2 1 h (slots_all2 h t) hq
      refine ⟨ω1, m, p1, g1, n1, fun ω2 s3 ω' hL hS => ?_⟩
      unfold KeepR
      rw [ofKTs_toKTs _ _ _ hx]
      exact r1 ω2 s3 ω' hL hS
/-- Into a loop. -/
theorem enter_ok (h : Rel ω a w s) {keep tmpl : Tmpl} {kx : KTs real (Tmpl.ks keep)} {s1 : S} {x : KTs real (Tmpl.ks tmpl)} {s2 : S} (hl : (keep.map (·.2)).all Sh.light = true) (h1 : takeT keep s = some (kx, s1)) (h2 : takeT tmpl s1 = some (x, s2)) :
    ∃ ω', Rel ω' a w (headS keep tmpl kx x) ∧ Ext ω w ω' w ∧ KeepR w ω' a keep kx := by
  obtain ⟨ω1, m1, p1, g1, n1, r1⟩ := takeT_ok h h1
  obtain ⟨ω2, m2, p2, g2, n2, r2⟩ := takeT_ok p1.rel h2
  have hm := n1 hl
  subst hm
  have hS : Sends w ω2 (ω2.named m2) m2 := named_sends g2
  have hk := r1 ω2 s2 (ω2.named m2) g2.later ⟨hS.none, fun _ _ h => nomatch h⟩
  exact ⟨ω2.named m2, head_rel hl (named_inj (by omega) g2 p2.rel.inj) (named_dom p2.rel.dom) p2.rel.defers hk (r2 ω2 s2 _ (Later.refl _ _) hS), (p1.ext.trans p2.ext).trans (named_ext _ _ _), hk⟩
/-- Out of a loop's body: what was kept is as it was. -/
theorem leave_ok (h : Rel ω a w s) {ω0 : Own} {w0 : World} {a0 : Act} {keep t : Tmpl} {kx : KTs real (Tmpl.ks keep)} {x : KTs real (Tmpl.ks t)} {s1 : S} (hl : (keep.map (·.2)).all Sh.light = true) (hk0 : KeepR w0 ω0 a0 keep kx) (he : Ext ω0 w0 ω w)
    (hsame : ∀ p ∈ keep, a.tmps.getD p.1 undef = a0.tmps.getD p.1 undef) (h1 : takeT t s = some (x, s1)) : ∃ ω', Rel ω' a w (headS keep t kx x) ∧ Ext ω w ω' w ∧ KeepR w ω' a keep kx := by
  obtain ⟨ω1, m1, p1, g1, n1, r1⟩ := takeT_ok h h1
  have hS : Sends w ω1 (ω1.named m1) m1 := named_sends g1
  have hv : vals keep a = vals keep a0 := by
    unfold vals
    exact List.map_congr_left hsame
  have hst : Stays w0 ω0 w (ω1.named m1) := (he.trans (p1.ext.trans (named_ext _ _ m1))).stays
  have hk : KeepR w (ω1.named m1) a keep kx := by
    unfold KeepR
    rw [hv]
    exact RShs_stays hst _ _ _ 1 hl (by rw [ofKTs_ks, ks_map]) hk0
  exact ⟨ω1.named m1, head_rel hl (named_inj (by omega) g1 p1.rel.inj) (named_dom p1.rel.dom) p1.rel.defers hk (r1 ω1 s1 _ (Later.refl _ _) hS), p1.ext.trans (named_ext _ _ _), hk⟩
end
end Go.R

/-! R26: regions, code. -/
namespace Go.R

structure FnR where
  look : Bool
  args : List Sh
  rets : List Sh
  fn : KTs real ((args.map Sh.ks).flatten) → Option (KTs real ((rets.map Sh.ks).flatten ++ (outsOf look args ++ (allB args).flatten)))
def FnR.callee (F : FnR) (R : Type) : Callee real (Option R) := ⟨F.look, F.args, F.rets, fun x k => (F.fn x).bind k⟩
def tab (Ψ : FKey → Option FnR) (R : Type) : FKey → Option (Callee real (Option R)) := fun f => (Ψ f).map (·.callee R)
structure LoopR where
  keep : Tmpl
  tmpl : Tmpl
  exits : List (Ex × Tmpl)
  fn : KTs real (Tmpl.ks keep) → KTs real (Tmpl.ks tmpl) → Option (Outs real exits)
def LoopR.oracle (l : LoopR) (R : Type) : LoopO real (Option R) := ⟨l.keep, l.tmpl, l.exits, fun kx x k => (l.fn kx x).bind fun q => Outs.elim l.exits q k⟩
def ltab (Λ : Nat → Option LoopR) (R : Type) : Nat → Option (LoopO real (Option R)) := fun n => (Λ n).map (·.oracle R)

/-- A call's step. -/
def StepCall (P : Program) (E : Env) (Ψ : FKey → Option FnR) : Prop :=
  ∀ (R : Type) (o : Oper) (f : Operand) (args : Array Operand) (tys : Array Nat) (ω : Own) (a : Act) (w : World) (s : S) (k : S → Option R) (r : R) (Q : Exit → Act → World → Prop),
    o.op = .call ⟨.value f, args, tys⟩ → Rel ω a w s → (∀ d, o.dst = some d → d < a.tmps.size) → stepC E (realC R) (tab Ψ R) o s k = some r → o.wp P a w (Ends ω a w o.dst k r) Q

section
variable {R : Type} {P : Program} {E : Env} {Ψ : FKey → Option FnR} {ω : Own} {a : Act} {w : World} {s : S} {k : S → Option R} {r : R} {o : Oper} {Q : Exit → Act → World → Prop}

theorem step_any (hE : EnvOk P E) (hC : StepCall P E Ψ) (h : Rel ω a w s) (hd : ∀ d, o.dst = some d → d < a.tmps.size)
    (hk : stepC E (realC R) (tab Ψ R) o s k = some r) : o.wp P a w (Ends ω a w o.dst k r) Q := by
  cases ho : o.op with
  | move x => exact step_move (E := E) (.inl ho) h hd (by unfold stepC at hk; simp only [ho] at hk; exact hk)
  | assign x => exact step_move (E := E) (.inr ho) h hd (by unfold stepC at hk; simp only [ho] at hk; exact hk)
  | pick c x y => exact step_pick (E := E) ho h hd (by unfold stepC at hk; simp only [ho] at hk; exact hk)
  | alloc t => exact step_alloc hE ho h hd hk
  | box t x => exact step_box hE ho h hd hk
  | build t ps => exact step_build hE ho h hd hk
  | buildSlice t n ps => exact step_buildSlice hE ho h hd hk
  | load t x => exact step_load hE ho h hd hk
  | store t p v => exact step_store hE ho h hd hk
  | nilCheck x => exact step_nilCheck ho h hd hk
  | binOp op t x y yt => exact step_bin hE ho h hd hk
  | unOp op t x => exact step_un ho h hd hk
  | convert src dst x => exact step_convert hE ho h hd hk
  | makeFunc fn first captured =>
    cases fn with
    | func f => exact step_makeFunc ho h hd hk
    | _ => unfold stepC at hk; simp only [ho] at hk; cases hk
  | makeSlice t n c => exact step_makeSlice hE ho h hd hk
  | slice t x lo hi mx => exact step_slice hE ho h hd hk
  | fieldAddr t x f => exact step_fieldAddr hE ho h hd hk
  | field t x f => exact step_field hE ho h hd hk
  | indexAddr t x i => exact step_indexAddr hE ho h hd hk
  | index t x i => exact step_index hE ho h hd hk
  | extract t i => exact step_extract ho h hd hk
  | call c =>
    obtain ⟨cal, args, tys⟩ := c
    cases cal with
    | value f => exact hC R o f args tys ω a w s k r Q ho h hd hk
    | invoke _ _ => unfold stepC at hk; simp only [ho] at hk; cases hz : Nat.beq args.size tys.size <;> rw [hz] at hk <;> cases hk
    | builtin b =>
      have hsz : args.size = tys.size := by
        unfold stepC at hk
        simp only [ho] at hk
        cases hz : Nat.beq args.size tys.size with
        | true => exact Nat.eq_of_beq_eq_true hz
        | false => rw [hz] at hk; cases hk
      by_cases hb : b = .append
      · subst hb; exact step_append hE ho hsz h hd hk
      · by_cases hb' : b = .len ∨ b = .min ∨ b = .max
        · exact step_small hE ho hb' hsz h hd hk
        · exfalso
          have hszb : Nat.beq args.size tys.size = true := by rw [hsz]; exact Nat.beq_refl _
          unfold stepC at hk
          simp only [ho, hszb, cond_true] at hk
          unfold builtinV at hk
          split at hk <;> first | exact hb rfl | exact hb' (.inl rfl) | exact hb' (.inr (.inl rfl)) | exact hb' (.inr (.inr rfl)) | cases hk
  | _ => unfold stepC at hk; simp only [ho] at hk; cases hk

/-! ### Regions -/
def ExM : Exit → Ex → Prop
  | .normal, .normal => True
  | .exit i, .exit j => i = j
  | .ret, .ret => True
  | _, _ => False
/-- What a piece of code owes: U: the slots that it leaves alone. -/
def Post {R : Type} (U : Nat → Prop) (ω : Own) (a : Act) (w : World) (k : Ex → S → Option R) (r : R) : Exit → Act → World → Prop := fun e a' w' =>
  ∃ ex ω' s', ExM e ex ∧ Rel ω' a' w' s' ∧ Ext ω w ω' w' ∧ k ex s' = some r ∧ a'.tmps.size = a.tmps.size ∧ ∀ j, U j → a'.tmps.getD j undef = a.tmps.getD j undef

/-- The same slot's value, known better. -/
theorem Rel.reset (h : Rel ω a w s) {d : Nat} {t : TVr} (ht : RTV w ω s (a.tmps.getD d undef) t) : Rel ω a w (s.set d t) where
  inj := h.inj
  dom := h.dom
  defers := h.defers
  own0 := h.own0
  slots i := by
    have tr : ∀ id, Tr w ω s w ω (s.set d t) id := fun id => Tr.of_ob h.dom rfl
    by_cases e : i = d
    · subst e
      rw [St.set_sl_self]
      exact RTV.frame (Ext.refl _ _) tr ht
    · rw [St.set_sl_ne _ _ e]
      exact RTV.frame (Ext.refl _ _) tr (h.slots i)
  blks id cells hc := by
    obtain ⟨b, arr, T, h1, h2, h3⟩ := h.blks id cells hc
    exact ⟨b, arr, T, h1, h2, h3.mono fun _ _ hl => RLf.frame (Ext.refl _ _) (fun id => Tr.of_ob h.dom rfl) hl⟩

theorem yielded_bool {ops : Array Oper} {tmps : Array Value} {j t : Nat} {b : Bool} (ht : (ops[j]?).bind (·.dst) = some t) (hv : tmps.getD t undef = .bool b) : yielded ops tmps j = some b := by
  unfold yielded
  rw [ht]
  simp only [Option.bind_some]
  rw [Array.getD_eq_getD_getElem?] at hv
  cases hq : tmps[t]? with
  | none => rw [hq] at hv; cases hv
  | some v => rw [hq] at hv; simp at hv; subst hv; rfl
theorem yielded_undef {ops : Array Oper} {tmps : Array Value} {j t : Nat} (ht : (ops[j]?).bind (·.dst) = some t) (hv : tmps.getD t undef = undef) : yielded ops tmps j = none := by
  unfold yielded
  rw [ht]
  simp only [Option.bind_some]
  rw [Array.getD_eq_getD_getElem?] at hv
  cases hq : tmps[t]? with
  | none => rfl
  | some v => rw [hq] at hv; simp at hv; subst hv; rfl

theorem opsC_ok (hE : EnvOk P E) (hC : StepCall P E Ψ) {ops : Array Oper} {U : Nat → Prop} : ∀ (l : List Oper) (ω : Own) (a : Act) (w : World) (s : S) (k : S → Option R) (Qn : Exit → Act → World → Prop), (∀ o ∈ l, ∀ j, U j → o.dst ≠ some j) → a.tmps.size = E.nt → Rel ω a w s → opsC E (realC R) (tab Ψ R) ops l s k = some r →
    (∀ ω' a' w' s', Rel ω' a' w' s' → Ext ω w ω' w' → k s' = some r → a'.tmps.size = a.tmps.size → (∀ j, U j → a'.tmps.getD j undef = a.tmps.getD j undef) → Qn .normal a' w') → wpList P ops Qn l a w
  | [], ω, a, w, s, k, Qn, _, _, h, hk, hQ => hQ ω a w s h (Ext.refl _ _) hk rfl (fun _ _ => rfl)
  | o :: rest, ω, a, w, s, k, Qn, hU, hn, h, hk, hQ => by
    simp only [opsC] at hk
    cases hdst : okDst E o.dst with
    | false => rw [hdst] at hk; cases hk
    | true =>
      rw [hdst] at hk
      simp only [cond_true] at hk
      have hd : ∀ d, o.dst = some d → d < a.tmps.size := by
        intro d e
        rw [e] at hdst
        have h1 : d + 1 ≤ E.nt := Nat.le_of_ble_eq_true hdst
        rw [hn]
        exact h1
      have hUr : ∀ o' ∈ rest, ∀ j, U j → o'.dst ≠ some j := fun o' ho' => hU o' (by simp [ho'])
      have hUo := hU o (by simp)
      -- it is carried out
      have yes : ∀ (s0 : S), Rel ω a w s0 → (stepC E (realC R) (tab Ψ R) o s0 fun s1 => opsC E (realC R) (tab Ψ R) ops rest s1 k) = some r → o.wp P a w (wpList P ops Qn rest) Qn := by
        intro s0 h0 hk0
        refine Oper.wp_mono (fun a' w' hends => ?_) (step_any hE hC h0 hd hk0)
        obtain ⟨ω', s', g1, g2, g3, g4, g5⟩ := hends
        refine opsC_ok hE hC rest ω' a' w' s' k Qn hUr (g4.trans hn) g1 g3 (fun ω2 a2 w2 s2 q1 q2 q3 q4 q5 => ?_)
        exact hQ ω2 a2 w2 s2 q1 (g2.trans q2) q3 (q4.trans g4) (fun j hj => (q5 j hj).trans (g5 j (hUo j hj)))
      -- it is passed over
      have no : ∀ (s0 : S), Rel ω a w s0 → opsC E (realC R) (tab Ψ R) ops rest (s0.setO o.dst (.one .undef)) k = some r → wpList P ops Qn rest (a.put o.dst undef) w := by
        intro s0 h0 hk0
        have h1 : Rel ω (a.put o.dst undef) w (s0.setO o.dst (.one .undef)) := h0.setO hd (t := .one .undef) rfl
        refine opsC_ok hE hC rest ω _ w _ k Qn hUr ((put_size _ _ _).trans hn) h1 hk0 (fun ω2 a2 w2 s2 q1 q2 q3 q4 q5 => ?_)
        exact hQ ω2 a2 w2 s2 q1 q2 q3 (q4.trans (put_size _ _ _)) (fun j hj => (q5 j hj).trans (put_other _ _ _ (hUo j hj)))
      unfold wpList
      cases hg : o.guard with
      | none =>
        rw [hg] at hk
        rw [if_pos (by simp [Region.wanted, hg])]
        exact .inl (yes s h hk)
      | some gw =>
        obtain ⟨j, want⟩ := gw
        rw [hg] at hk
        simp only at hk
        cases ht : (ops[j]?).bind (·.dst) with
        | none => rw [ht] at hk; cases hk
        | some t =>
          rw [ht] at hk
          simp only at hk
          have hsl := h.slots t
          have main : ∀ b : Bool, RTV w ω s (a.tmps.getD t undef) (.one (.val .bool (real.litB b))) →
              (bif b then (bif want then stepC E (realC R) (tab Ψ R) o (s.set t (.one (.val .bool (real.litB true)))) (fun s1 => opsC E (realC R) (tab Ψ R) ops rest s1 k) else opsC E (realC R) (tab Ψ R) ops rest ((s.set t (.one (.val .bool (real.litB true)))).setO o.dst (.one .undef)) k)
                else (bif want then opsC E (realC R) (tab Ψ R) ops rest ((s.set t (.one (.val .bool (real.litB false)))).setO o.dst (.one .undef)) k else stepC E (realC R) (tab Ψ R) o (s.set t (.one (.val .bool (real.litB false)))) (fun s1 => opsC E (realC R) (tab Ψ R) ops rest s1 k))) = some r →
              if Region.wanted o (yielded ops a.tmps) then o.wp P a w (wpList P ops Qn rest) Qn ∨ (o.asks P a w ∧ LetsOut Qn) else wpList P ops Qn rest (a.put o.dst undef) w := by
            intro b hsl hk'
            have hv : a.tmps.getD t undef = .bool b := hsl
            have hy := yielded_bool (ops := ops) ht hv
            have hw : Region.wanted o (yielded ops a.tmps) = (some b == some want) := by simp [Region.wanted, hg, hy]
            rw [hw]
            have hset := h.reset hsl
            cases b with
            | true =>
              cases want with
              | true => rw [if_pos (by rfl)]; exact .inl (yes _ hset hk')
              | false => rw [if_neg (by decide)]; exact no _ hset hk'
            | false =>
              cases want with
              | true => rw [if_neg (by decide)]; exact no _ hset hk'
              | false => rw [if_pos (by rfl)]; exact .inl (yes _ hset hk')
          cases hst : s.sl t with
          | one l =>
            rw [hst] at hk hsl
            cases l with
            | val tt b0 =>
              cases tt with
              | bool => exact main b0 hsl hk
              | _ => cases hk
            | undef =>
              have hv : a.tmps.getD t undef = undef := hsl
              have hy := yielded_undef (ops := ops) ht hv
              rw [if_neg (by simp [Region.wanted, hg, hy])]
              exact no s h hk
            | _ => cases hk
          | agg _ => rw [hst] at hk; cases hk
          | tup _ => rw [hst] at hk; cases hk
end
end Go.R

/-! R36: one step, without a continuation. -/
namespace Go.R
section
variable {R : Type} {E : Env} {Ψ : FKey → Option FnR}
noncomputable def step1 (E : Env) (Ψ : FKey → Option FnR) (o : Oper) (s : S) : Option S := stepC E (realC S) (tab Ψ S) o s some

theorem mapFail_cps {α : Type} {x : Option α} {f : α → Option R} {g : α → Option S} {k : S → Option R} (h : ∀ y, f y = (g y).bind k) : mapFail (realC R) x f = (mapFail (realC S) x g).bind k := by
  cases x with
  | none => rfl
  | some y => exact h y
theorem cond_cps {b : Bool} {x y : Option R} {x' y' : Option S} {k : S → Option R} (hx : x = x'.bind k) (hy : y = y'.bind k) : (bif b then x else y) = (bif b then x' else y').bind k := by
  cases b
  · exact hy
  · exact hx
theorem binV_cps (tb : Bool) (op : BinOp) (x y : L) (f : L → Option R) (g : L → Option S) (k : S → Option R) (h : ∀ l, f l = (g l).bind k) : binV (realC R) tb op x y f = (binV (realC S) tb op x y g).bind k := by
  unfold binV
  cases x with
  | val t x =>
    cases y with
    | val u y =>
      cases t <;> cases u <;> simp only [] <;> first
        | rfl
        | (cases op <;> first
            | rfl
            | exact cond_cps rfl (h _)
            | exact cond_cps (h _) rfl
            | exact h _
            | (simp only []; split <;> first | rfl | exact h _ | exact cond_cps rfl (h _)))
        | (cases tb <;> cases op <;> first | rfl | exact h _)
        | skip
    | _ => cases t <;> rfl
  | _ => rfl
theorem sliceFin_cps (d : Nat) (s : S) (x : TVr) (c : Cont real) (b : Bool) (l h : IV) (f : TVr → S → Option R) (g : TVr → S → Option S) (k : S → Option R) (hk : ∀ v s, f v s = (g v s).bind k) : sliceFin E (realC R) d s x c b l h f = (sliceFin E (realC S) d s x c b l h g).bind k := by
  unfold sliceFin
  cases x with
  | one q =>
    cases q with
    | ref id gg hh p =>
      cases p with
      | nil =>
        simp only []
        refine cond_cps (hk _ _) (cond_cps (cond_cps rfl (hk _ _)) (hk _ _))
      | cons _ _ => rfl
    | _ => exact hk _ _
  | _ => exact hk _ _
theorem sliceV_cps (d t : Nat) (s : S) (x : TVr) (lo hi mx : Option Operand) (f : TVr → S → Option R) (g : TVr → S → Option S) (k : S → Option R) (hk : ∀ v s, f v s = (g v s).bind k) : sliceV E (realC R) d t s x lo hi mx f = (sliceV E (realC S) d t s x lo hi mx g).bind k := by
  unfold sliceV
  refine mapFail_cps fun q => mapFail_cps fun c => cond_cps (cond_cps (hk _ _) ?_) rfl
  cases mx with
  | some _ => rfl
  | none => exact mapFail_cps fun l => mapFail_cps fun h => cond_cps (sliceFin_cps _ _ _ _ _ _ _ _ _ _ hk) rfl
theorem callV_cps (F : FnR) (d : Nat) (args : List TVr) (s : S) (f : TVr → S → Option R) (g : TVr → S → Option S) (k : S → Option R) (hk : ∀ v s, f v s = (g v s).bind k) : callV (realC R) (F.callee R) d args s f = (callV (realC S) (F.callee S) d args s g).bind k := by
  unfold callV
  refine cond_cps (cond_cps (mapFail_cps fun s1 => mapFail_cps fun vs => mapFail_cps fun x => ?_) (cond_cps (mapFail_cps fun r => mapFail_cps fun x => ?_) rfl)) rfl
  · show (F.fn x).bind _ = ((F.fn x).bind _).bind k
    cases F.fn x with
    | none => rfl
    | some y => exact mapFail_cps fun s2 => hk _ _
  · show (F.fn x).bind _ = ((F.fn x).bind _).bind k
    cases F.fn x with
    | none => rfl
    | some y => exact mapFail_cps fun s2 => hk _ _
theorem builtinV_cps (d : Nat) (b : Builtin) (tys : List Nat) (args : List TVr) (s : S) (f : TVr → S → Option R) (g : TVr → S → Option S) (k : S → Option R) (hk : ∀ v s, f v s = (g v s).bind k) : builtinV E (realC R) d b tys args s f = (builtinV E (realC S) d b tys args s g).bind k := by
  unfold builtinV
  split
  · refine cond_cps (mapFail_cps fun _ => hk _ _) (mapFail_cps fun _ => mapFail_cps fun _ => hk _ _)
  · exact mapFail_cps fun _ => mapFail_cps fun _ => hk _ _
  · exact mapFail_cps fun _ => mapFail_cps fun _ => hk _ _
  · refine mapFail_cps fun q => mapFail_cps fun _ => mapFail_cps fun cx => mapFail_cps fun cy => cond_cps rfl ?_
    split
    · rfl
    · refine cond_cps rfl ?_
      split
      · exact cond_cps (hk _ _) rfl
      · rfl
  · rfl
theorem stepC_cps (o : Oper) (s : S) (k : S → Option R) : stepC E (realC R) (tab Ψ R) o s k = (step1 E Ψ o s).bind k := by
  unfold step1 stepC
  have hp : ∀ (v : TVr) (s : S), k (s.setO o.dst v) = (some (s.setO o.dst v)).bind k := fun _ _ => rfl
  cases o.op with
  | pick c a b => exact mapFail_cps fun c => cond_cps rfl rfl
  | alloc t => exact mapFail_cps fun i => rfl
  | box t x => exact mapFail_cps fun i => mapFail_cps fun v => cond_cps (cond_cps (mapFail_cps fun r => rfl) rfl) rfl
  | build t ps => exact mapFail_cps fun i => cond_cps (mapFail_cps fun cs => rfl) rfl
  | buildSlice t n ps => exact mapFail_cps fun r => cond_cps (mapFail_cps fun q => rfl) rfl
  | load t p =>
    refine mapFail_cps fun i => ?_
    cases ev E s 0 p with
    | one l => exact mapFail_cps fun v => rfl
    | _ => rfl
  | store t p v =>
    refine mapFail_cps fun i => mapFail_cps fun v => cond_cps ?_ rfl
    cases ev E s 0 p with
    | one l => exact mapFail_cps fun v => rfl
    | _ => rfl
  | nilCheck x =>
    simp only []
    cases ev E s 0 x with
    | one l =>
      cases l with
      | ptr id g off => exact mapFail_cps fun _ => rfl
      | eptr id g h p j off => exact mapFail_cps fun c => cond_cps rfl rfl
      | _ => rfl
    | _ => rfl
  | binOp op t x y yt =>
    simp only []
    cases nilTest E s op t x y with
    | some l => rfl
    | none =>
    simp only []
    cases ev E s t x with
    | one x =>
      cases ev E s t y with
      | one y => exact binV_cps _ _ _ _ _ _ _ (fun l => rfl)
      | _ => rfl
    | agg xs =>
      cases ev E s t y with
      | agg ys => exact mapFail_cps fun i => mapFail_cps fun b => by cases op <;> rfl
      | _ => rfl
    | tup _ => rfl
  | unOp op t x =>
    simp only []
    cases op <;> first | rfl | skip
    all_goals (cases ev E s t x with
      | one l => cases l with
        | val tt y => cases tt <;> rfl
        | _ => rfl
      | _ => rfl)
  | convert src dst x =>
    refine mapFail_cps fun _ => mapFail_cps fun i => cond_cps rfl ?_
    split <;> rfl
  | makeFunc fn first captured =>
    cases fn with
    | func f => exact cond_cps (mapFail_cps fun cc => rfl) rfl
    | _ => rfl
  | makeSlice t n c => exact mapFail_cps fun r => mapFail_cps fun n' => cond_cps (cond_cps rfl rfl) rfl
  | slice t x lo hi mx => exact sliceV_cps _ _ _ _ _ _ _ _ _ _ (fun v s => rfl)
  | fieldAddr t x f =>
    refine mapFail_cps fun i => mapFail_cps fun q => cond_cps rfl ?_
    cases ev E s 0 x with
    | one l =>
      cases l with
      | ptr id g off => exact mapFail_cps fun _ => rfl
      | eptr id g h p j off => exact mapFail_cps fun c => cond_cps rfl rfl
      | _ => rfl
    | _ => rfl
  | field t x f =>
    refine mapFail_cps fun i => mapFail_cps fun q => cond_cps rfl ?_
    cases ev E s t x with
    | agg ls => exact cond_cps rfl rfl
    | _ => rfl
  | indexAddr t x i =>
    refine mapFail_cps fun i => mapFail_cps fun q => ?_
    cases ev E s t x with
    | one l =>
      cases l with
      | val tt y =>
        cases tt with
        | sl e cs => exact cond_cps (cond_cps rfl rfl) rfl
        | _ => rfl
      | ref id g h p => exact mapFail_cps fun c => cond_cps (cond_cps (cond_cps rfl rfl) rfl) rfl
      | _ => rfl
    | _ => rfl
  | index t x i => exact cond_cps (mapFail_cps fun i => mapFail_cps fun x => cond_cps rfl rfl) rfl
  | extract t i =>
    simp only []
    cases ev E s 0 t with
    | tup cs => exact mapFail_cps fun c => rfl
    | _ => rfl
  | call c =>
    refine cond_cps ?_ rfl
    cases c.callee with
    | builtin b => exact builtinV_cps _ _ _ _ _ _ _ _ (fun v s => rfl)
    | value f =>
      simp only []
      cases ev E s 0 f with
      | one l =>
        cases l with
        | fn fid cc =>
          simp only []
          unfold tab
          cases Ψ (fid, fnIds ((c.args.toList.zip c.argTypes.toList).map fun p => ev E s p.2 p.1)) with
          | none => rfl
          | some F =>
            simp only [Option.map_some, mapFail]
            exact callV_cps F _ _ _ _ _ _ (fun v s => rfl)
        | _ => rfl
      | _ => rfl
    | invoke _ _ => rfl
  | _ => rfl
end
end Go.R

/-! R50: handing over only takes away. -/
set_option linter.unusedVariables false
namespace Go.R
section
variable {R : Type} {P : Program} {E : Env} {Ψ : FKey → Option FnR} {ω : Own} {a : Act} {w : World} {s : S} {k : S → Option R} {r : R} {o : Oper} {Q : Exit → Act → World → Prop}

/-! ### Handing over only takes away -/
def Wane1 (p q : Slot real) : Prop := q = p ∨ (q.g = p.g ∧ p.h ≤ q.h ∧ (q.o = .gone ∨ ∃ e cs x, q.o = .imm e cs x) ∧ p.o ≠ .gone)
def Wane (s s' : S) : Prop := ∀ i, Wane1 (s.ob i) (s'.ob i)
theorem Wane.refl (s : S) : Wane s s := fun _ => .inl rfl
theorem Wane.trans {s s' s'' : S} (h : Wane s s') (h' : Wane s' s'') : Wane s s'' := by
  intro i
  rcases h i with h1 | ⟨h1, h2, h3, h4⟩
  · have := h' i
    rw [h1] at this
    exact this
  · rcases h' i with k1 | ⟨k1, k2, k3, k4⟩
    · rw [k1]; exact .inr ⟨h1, h2, h3, h4⟩
    · exact .inr ⟨k1.trans h1, Nat.le_trans h2 k2, k3, h4⟩
theorem Wane.chg {s : S} {id : Nat} {o : Ob real} (ho : o = .gone ∨ ∃ e cs x, o = .imm e cs x) (hs : (s.ob id).o ≠ .gone) : Wane s (s.chg id true o) := by
  intro i
  by_cases e : i = id
  · subst e
    rw [St.chg_self]
    exact .inr ⟨rfl, Nat.le_succ _, ho, hs⟩
  · exact .inl (St.chg_ne _ _ _ e)
theorem Wane.gone {s s' : S} (h : Wane s s') {i : Nat} (hg : (s.ob i).o = .gone) : (s'.ob i).o = .gone := by
  rcases h i with h | ⟨_, _, _, h⟩
  · rw [h]; exact hg
  · exact absurd hg h
theorem Wane.blk {s s' : S} (h : Wane s s') {i : Nat} {c : List L} (hb : (s'.ob i).o = .blk c) : s'.ob i = s.ob i := by
  rcases h i with h | ⟨_, _, h3, _⟩
  · exact h
  · rcases h3 with h3 | ⟨_, _, _, h3⟩ <;> (rw [hb] at h3; cases h3)
theorem Wane.g {s s' : S} (h : Wane s s') (i : Nat) : (s'.ob i).g = (s.ob i).g := by
  rcases h i with h | ⟨h, _⟩
  · rw [h]
  · exact h
theorem Wane.h {s s' : S} (h : Wane s s') (i : Nat) : (s.ob i).h ≤ (s'.ob i).h := by
  rcases h i with h | ⟨_, h, _⟩
  · rw [h]; exact Nat.le_refl _
  · exact h
theorem pack1_wane {t : Ty} {l : L} {s : S} {q : real.V t × S} (h : pack1 (A := real) false t l s = some q) : Wane s q.2 := by
  unfold pack1 at h
  split at h
  · simp only [cond_false] at h
    split at h
    · injection h with h; subst h; exact .refl _
    · cases h
  · split at h
    · injection h with h; subst h; exact .refl _
    · cases h
  · split at h
    · injection h with h; subst h; exact .refl _
    · cases h
  · rename_i id g _
    cases hb : Nat.beq (s.ob id).g g with
    | false => rw [hb] at h; cases h
    | true =>
      rw [hb] at h
      simp only [cond_true] at h
      split at h
      · rename_i e cs dp x ho
        split at h
        · simp only [cond_false] at h
          injection h with h; subst h
          exact .chg (.inr ⟨_, _, _, rfl⟩) (by rw [ho]; exact fun e => by cases e)
        · cases h
      · simp only [cond_false] at h
        split at h
        · injection h with h; subst h; exact .refl _
        · cases h
      · cases h
  · cases h
theorem arr1_wane {e : Nat} {cs : Tys} {deep : Bool} {l : L} {s : S} {q : real.V (.sl e cs) × S} (h : arr1 (A := real) e cs deep l s = some q) : Wane s q.2 := by
  unfold arr1 at h
  split at h
  · split at h
    · injection h with h; subst h; exact .refl _
    · cases h
  · rename_i id g _
    cases hb : Nat.beq (s.ob id).g g <;> rw [hb] at h
    · cases h
    · simp only [cond_true] at h
      split at h
      · rename_i e' cs' dp x ho
        cases hd : (dp == deep || cs'.plain) <;> rw [hd] at h
        · cases h
        · simp only [cond_true] at h
          split at h
          · injection h with h; subst h; exact .chg (.inl rfl) (by rw [ho]; exact fun e => by cases e)
          · cases h
      · cases h
  · cases h
theorem take1_wane {k : K} {l : L} {s : S} {q : KV real × S} (h : take1 k l s = some q) : Wane s q.2 := by
  cases k with
  | val t =>
    simp only [take1] at h
    cases h1 : pack1 (A := real) false t l s with
    | none => rw [h1] at h; cases h
    | some p => rw [h1] at h; injection h with h; subst h; exact pack1_wane h1
  | arr e cs deep =>
    simp only [take1] at h
    cases h1 : arr1 (A := real) e cs deep l s with
    | none => rw [h1] at h; cases h
    | some p => rw [h1] at h; injection h with h; subst h; exact arr1_wane h1
theorem takes_wane : ∀ {ks : List K} {ls : List L} {s : S} {q : List (KV real) × S}, takes ks ls s = some q → Wane s q.2
  | [], [], s, q, h => by injection h with h; subst h; exact .refl _
  | [], _ :: _, s, q, h => by cases h
  | _ :: _, [], s, q, h => by cases h
  | k :: ks, l :: ls, s, q, h => by
    simp only [takes] at h
    cases h1 : take1 k l s with
    | none => rw [h1] at h; cases h
    | some p =>
      rw [h1] at h
      simp only [] at h
      cases h2 : takes ks ls p.2 with
      | none => rw [h2] at h; cases h
      | some p2 => rw [h2] at h; injection h with h; subst h; exact (show Wane s p2.2 from (take1_wane h1).trans (takes_wane h2))
theorem takeCap_wane {cs : Tys} {c : Cap real} {s : S} {q : List (KV real) × S} (h : takeCap cs c s = some q) : Wane s q.2 := by
  unfold takeCap at h
  split at h
  · split at h
    · rename_i ls hls
      cases h1 : takes cs.ks ls s with
      | none => rw [h1] at h; cases h
      | some p =>
        rw [h1] at h
        simp only [] at h
        split at h
        · rename_i id g _ _ _ c hc
          injection h with h; subst h; exact (takes_wane h1).trans (.chg (.inl rfl) (by rw [hc]; exact fun e => by cases e))
        · cases h
    · cases h
  · split at h
    · injection h with h; subst h; exact .refl _
    · cases h
theorem takeCaps_wane : ∀ {caps : List Tys} {cc : List (Cap real)} {s : S} {q : List (KV real) × S}, takeCaps caps cc s = some q → Wane s q.2
  | [], [], s, q, h => by injection h with h; subst h; exact .refl _
  | [], _ :: _, s, q, h => by cases h
  | _ :: _, [], s, q, h => by cases h
  | cs :: css, c :: cc, s, q, h => by
    simp only [takeCaps] at h
    cases h1 : takeCap cs c s with
    | none => rw [h1] at h; cases h
    | some p =>
      rw [h1] at h
      simp only [] at h
      cases h2 : takeCaps css cc p.2 with
      | none => rw [h2] at h; cases h
      | some p2 => rw [h2] at h; injection h with h; subst h; exact (show Wane s p2.2 from (takeCap_wane h1).trans (takeCaps_wane h2))
theorem takeTV_wane {sh : Sh} {v : TVr} {s : S} {q : List (KV real) × S} (h : takeTV sh v s = some q) : Wane s q.2 := by
  unfold takeTV at h
  split at h
  · exact takeCap_wane h
  · exact takeCap_wane h
  · rename_i f caps f' cc
    cases hb : Nat.beq f f' <;> rw [hb] at h
    · cases h
    · exact takeCaps_wane h
  · exact takes_wane h
  · exact takes_wane h
  · rename_i ks id g
    split at h
    · rename_i ls hls
      split at h
      · rename_i h1
        injection h with h; subst h
        exact (Wane.chg (.inl rfl) (by rw [(blkOf_ok hls).2]; exact fun e => by cases e)).trans (takes_wane h1)
      · cases h
    · cases h
  · cases h
theorem takeAll_wane : ∀ {shs : List Sh} {vs : List TVr} {s : S} {q : List (KV real) × S}, takeAll shs vs s = some q → Wane s q.2
  | [], [], s, q, h => by injection h with h; subst h; exact .refl _
  | [], _ :: _, s, q, h => by cases h
  | _ :: _, [], s, q, h => by cases h
  | sh :: shs, v :: vs, s, q, h => by
    simp only [takeAll] at h
    cases h1 : takeTV sh v s with
    | none => rw [h1] at h; cases h
    | some p =>
      rw [h1] at h
      simp only [] at h
      cases h2 : takeAll shs vs p.2 with
      | none => rw [h2] at h; cases h
      | some p2 => rw [h2] at h; injection h with h; subst h; exact (show Wane s p2.2 from (takeTV_wane h1).trans (takeAll_wane h2))
theorem pack1_wane' {deep : Bool} {t : Ty} {l : L} {s : S} {q : real.V t × S} (h : pack1 (A := real) deep t l s = some q) : Wane s q.2 := by
  cases deep with
  | false => exact pack1_wane h
  | true =>
    unfold pack1 at h
    split at h
    · cases h
    · split at h
      · injection h with h; subst h; exact .refl _
      · cases h
    · split at h
      · injection h with h; subst h; exact .refl _
      · cases h
    · rename_i id g _
      cases hb : Nat.beq (s.ob id).g g with
      | false => rw [hb] at h; cases h
      | true =>
        rw [hb] at h
        simp only [cond_true] at h
        split at h
        · split at h <;> cases h
        · cases h
        · cases h
    · cases h
end
end Go.R

/-! R37: what a step reads of the slots and the objects: other slots, other objects around it. -/
namespace Go.R
abbrev Sl := Nat → TVr
structure Fr where
  sl : Sl
  F : Nat → Bool
  t : Nat → Slot real
/-- Other slots, and other objects but for those in F. -/
def St.mx (s : S) (f : Fr) : S := ⟨f.sl, fun id => bif f.F id then s.ob id else f.t id⟩
section
variable {f : Fr}
theorem mx_ob {s : S} {id : Nat} (h : f.F id = true) : (s.mx f).ob id = s.ob id := by
  show (bif f.F id then s.ob id else f.t id) = _
  rw [h]; rfl
theorem mx_upd {s : S} {id : Nat} (h : f.F id = true) (q : Slot real) : (s.mx f).upd id q = (s.upd id q).mx f := by
  unfold St.mx St.upd
  congr 1
  funext i
  simp only []
  cases hb : Nat.beq i id with
  | true => rw [Nat.eq_of_beq_eq_true hb, h]; rfl
  | false => rfl
theorem mx_chg {s : S} {id : Nat} (h : f.F id = true) (nh : Bool) (o : Ob real) : (s.mx f).chg id nh o = (s.chg id nh o).mx f := by
  unfold St.chg
  rw [mx_ob h]
  exact mx_upd h _
theorem mx_new {s : S} {id : Nat} (h : f.F id = true) (o : Ob real) : (s.mx f).new id o = (s.new id o).mx f := by
  unfold St.new
  rw [mx_ob h]
  exact mx_upd h _
def InF (f : Fr) (ids : List Nat) : Prop := ∀ id ∈ ids, f.F id = true
theorem InF.app {x y : List Nat} (h : InF f (x ++ y)) : InF f x ∧ InF f y := ⟨fun id hi => h id (List.mem_append.2 (.inl hi)), fun id hi => h id (List.mem_append.2 (.inr hi))⟩
def InL (f : Fr) (ls : List L) : Prop := ∀ l ∈ ls, InF f l.rids
theorem InL.hd {l : L} {ls : List L} (h : InL f (l :: ls)) : InF f l.rids := h l (by simp)
theorem InL.tl {l : L} {ls : List L} (h : InL f (l :: ls)) : InL f ls := fun x hx => h x (by simp [hx])
theorem InF.ref {id g h : Nat} {p : Pth} (hf : InF f (Lf.rids (A := real) (.ref id g h p))) : f.F id = true := hf id (by simp [Lf.rids])
theorem InF.ptr {id g off : Nat} (hf : InF f (Lf.rids (A := real) (.ptr id g off))) : f.F id = true := hf id (by simp [Lf.rids])
theorem InF.eptr {id g h off : Nat} {p : Pth} {i : IV} (hf : InF f (Lf.rids (A := real) (.eptr id g h p i off))) : f.F id = true := hf id (by simp [Lf.rids])
/-- .. and so do the cells of the variables among them. -/
def Blks (s : S) (f : Fr) (ids : List Nat) : Prop := ∀ id ∈ ids, ∀ ls, (s.ob id).o = .blk ls → InL f ls

theorem cont_mx {s : S} {id : Nat} (h : f.F id = true) (g hh : Nat) (p : Pth) : (s.mx f).cont id g hh p = s.cont id g hh p := by unfold St.cont; rw [mx_ob h]
theorem blkOf_mx {s : S} {id : Nat} (h : f.F id = true) (g : Nat) : blkOf (s.mx f) id g = blkOf s id g := by unfold blkOf; rw [mx_ob h]
theorem solid_mx {s : S} {l : L} (h : InF f l.rids) : solid (s.mx f) l = solid s l := by
  cases l with
  | ref id g hh p => simp only [solid]; rw [cont_mx h.ref]
  | ptr id g off => simp only [solid]; rw [blkOf_mx h.ptr]
  | eptr id g hh p i off => simp only [solid]; rw [cont_mx h.eptr]
  | _ => rfl
theorem cells?_mx {s : S} {v : TVr} (h : InL f v.lfs) : cells? (s.mx f) v = cells? s v := by
  cases v with
  | one l => simp only [cells?]; rw [solid_mx (h l (by simp [TV.lfs]))]
  | agg ls =>
    have : ls.all (solid (s.mx f)) = ls.all (solid s) := by
      have h : InL f ls := h
      induction ls with
      | nil => rfl
      | cons l ls ih => simp only [List.all_cons]; rw [solid_mx h.hd, ih h.tl h.tl]
    simp only [cells?]; rw [this]
  | tup _ => rfl
theorem cells?_lfs {s : S} {v : TVr} {ls : List L} (h : cells? s v = some ls) : ls = v.lfs := by
  cases v with
  | one l =>
    simp only [cells?] at h
    cases hb : solid s l <;> rw [hb] at h
    · cases h
    · exact (Option.some.inj h).symm
  | agg l =>
    simp only [cells?] at h
    cases hb : l.all (solid s) <;> rw [hb] at h
    · cases h
    · exact (Option.some.inj h).symm
  | tup _ => cases h
theorem loadV_mx {s : S} {l : L} (h : InF f l.rids) (b : Bool) (n : Nat) : loadV (s.mx f) b n l = loadV s b n l := by
  cases l with
  | ptr id g off => simp only [loadV]; rw [blkOf_mx h.ptr]
  | eptr id g hh p i off =>
    have hm : mkAt (s.mx f) id g p i = mkAt s id g p i := by unfold mkAt; rw [mx_ob h.eptr]
    simp only [loadV]; rw [cont_mx h.eptr, hm]
  | _ => rfl
theorem cont?_mx {s : S} {v : TVr} (h : InL f v.lfs) : cont? (s.mx f) v = cont? s v := by
  cases v with
  | one l =>
    cases l with
    | ref id g hh p => simp only [cont?]; exact cont_mx (h (.ref id g hh p) (by simp [TV.lfs])).ref _ _ _
    | val t x => cases t <;> rfl
    | _ => rfl
  | _ => rfl

theorem pack1_mx (deep : Bool) (t : Ty) (l : L) (s : S) (h : InF f l.rids) : pack1 (A := real) deep t l (s.mx f) = (pack1 (A := real) deep t l s).map fun q => (q.1, q.2.mx f) := by
  cases l with
  | val u y =>
    cases u <;> cases deep <;> simp only [pack1, cond_true, cond_false] <;> first
      | rfl
      | (split <;> rfl)
  | nilS e cs =>
    cases t <;> simp only [pack1] <;> first | rfl | (split <;> rfl)
  | ref id g hh p =>
    cases p with
    | cons _ _ => cases t <;> rfl
    | nil =>
      have hid := h.ref
      have hob := mx_ob (s := s) hid
      simp only [pack1, hob]
      cases Nat.beq (s.ob id).g g with
      | false => rfl
      | true =>
        simp only [cond_true]
        cases (s.ob id).o with
        | arr e cs dp x => simp only []; split <;> cases deep <;> first | rfl | (simp only [cond_false, Option.map_some]; rw [mx_chg hid])
        | imm e cs x => cases deep <;> simp only [cond_true, cond_false] <;> first | rfl | (split <;> rfl)
        | blk _ => rfl
        | gone => rfl
  | _ => cases t <;> rfl
theorem packs_mx (deep : Bool) : ∀ (cs : Tys) (ls : List L) (s : S), InL f ls → packs (A := real) deep cs ls (s.mx f) = (packs (A := real) deep cs ls s).map fun q => (q.1, q.2.mx f)
  | .nil, [], _, _ => rfl
  | .nil, _ :: _, _, _ => rfl
  | .cons _ _, [], _, _ => rfl
  | .cons t ts, l :: ls, s, h => by
    simp only [packs]
    rw [pack1_mx _ _ _ _ h.hd]
    cases pack1 (A := real) deep t l s with
    | none => rfl
    | some q =>
      simp only [Option.map_some]
      rw [packs_mx deep ts ls q.2 h.tl]
      cases packs (A := real) deep ts ls q.2 <;> rfl
theorem arr1_mx (e : Nat) (cs : Tys) (deep : Bool) (l : L) (s : S) (h : InF f l.rids) : arr1 (A := real) e cs deep l (s.mx f) = (arr1 (A := real) e cs deep l s).map fun q => (q.1, q.2.mx f) := by
  cases l with
  | nilS e' cs' => simp only [arr1]; split <;> rfl
  | ref id g hh p =>
    cases p with
    | cons _ _ => rfl
    | nil =>
      have hid := h.ref
      have hob := mx_ob (s := s) hid
      simp only [arr1, hob]
      cases Nat.beq (s.ob id).g g with
      | false => rfl
      | true =>
        simp only [cond_true]
        cases (s.ob id).o with
        | arr e' cs' dp x =>
          simp only []
          cases (dp == deep || cs'.plain) with
          | false => rfl
          | true => simp only [cond_true]; split <;> first | rfl | (simp only [Option.map_some]; rw [mx_chg hid])
        | _ => rfl
  | _ => rfl
theorem take1_mx (k : K) (l : L) (s : S) (h : InF f l.rids) : take1 k l (s.mx f) = (take1 k l s).map fun q => (q.1, q.2.mx f) := by
  cases k with
  | val t => simp only [take1]; rw [pack1_mx _ _ _ _ h]; cases pack1 (A := real) false t l s <;> rfl
  | arr e cs deep => simp only [take1]; rw [arr1_mx _ _ _ _ _ h]; cases arr1 (A := real) e cs deep l s <;> rfl
theorem takes_mx : ∀ (ks : List K) (ls : List L) (s : S), InL f ls → takes ks ls (s.mx f) = (takes ks ls s).map fun q => (q.1, q.2.mx f)
  | [], [], _, _ => rfl
  | [], _ :: _, _, _ => rfl
  | _ :: _, [], _, _ => rfl
  | k :: ks, l :: ls, s, h => by
    simp only [takes]
    rw [take1_mx _ _ _ h.hd]
    cases take1 k l s with
    | none => rfl
    | some q =>
      simp only [Option.map_some]
      rw [takes_mx ks ls q.2 h.tl]
      cases takes ks ls q.2 <;> rfl
theorem takeCap_mx (cs : Tys) (c : Cap real) (s : S) (h : InF f c.rids) (hb : Blks s f c.rids) : takeCap cs c (s.mx f) = (takeCap cs c s).map fun q => (q.1, q.2.mx f) := by
  cases c with
  | ro cs' x => simp only [takeCap]; split <;> rfl
  | ptr id g =>
    have hid : f.F id = true := h id (by simp [Cap.rids])
    simp only [takeCap, blkOf_mx hid]
    cases hls : blkOf s id g with
    | none => rfl
    | some ls =>
      simp only []
      have hl : InL f ls := hb id (by simp [Cap.rids]) ls (by
        unfold blkOf at hls
        cases hg : Nat.beq (s.ob id).g g <;> rw [hg] at hls
        · cases hls
        · simp only [cond_true] at hls
          split at hls
          · rename_i cs' hcs; injection hls with hls; rw [hcs, hls]
          · cases hls)
      rw [takes_mx _ _ _ hl]
      cases takes cs.ks ls s with
      | none => rfl
      | some q =>
        simp only [Option.map_some]
        rw [mx_ob hid]
        cases (q.2.ob id).o <;> first | rfl | (simp only [Option.map_some]; rw [mx_chg hid])
theorem Blks.wane {s s' : S} {ids : List Nat} (h : Blks s f ids) (hw : Wane s s') : Blks s' f ids := fun id hi ls hls => h id hi ls (by rw [← hw.blk hls]; exact hls)
theorem Blks.app {s : S} {x y : List Nat} (h : Blks s f (x ++ y)) : Blks s f x ∧ Blks s f y := ⟨fun id hi => h id (List.mem_append.2 (.inl hi)), fun id hi => h id (List.mem_append.2 (.inr hi))⟩
theorem takeCaps_mx : ∀ (caps : List Tys) (cc : List (Cap real)) (s : S), InF f (cc.flatMap Cap.rids) → Blks s f (cc.flatMap Cap.rids) → takeCaps caps cc (s.mx f) = (takeCaps caps cc s).map fun q => (q.1, q.2.mx f)
  | [], [], _, _, _ => rfl
  | [], _ :: _, _, _, _ => rfl
  | _ :: _, [], _, _, _ => rfl
  | cs :: css, c :: cc, s, h, hb => by
    rw [List.flatMap_cons] at h hb
    simp only [takeCaps]
    rw [takeCap_mx _ _ _ h.app.1 hb.app.1]
    cases h1 : takeCap cs c s with
    | none => rfl
    | some q =>
      simp only [Option.map_some]
      rw [takeCaps_mx css cc q.2 h.app.2 (hb.app.2.wane (takeCap_wane h1))]
      cases takeCaps css cc q.2 <;> rfl
theorem takeTV_mx (sh : Sh) (v : TVr) (s : S) (h : InF f v.rids) (hb : Blks s f v.rids) : takeTV sh v (s.mx f) = (takeTV sh v s).map fun q => (q.1, q.2.mx f) := by
  unfold takeTV
  split
  · exact takeCap_mx _ _ _ (by simpa [TV.rids, TV.lfs, Lf.rids, Cap.rids] using h) (by simpa [TV.rids, TV.lfs, Lf.rids, Cap.rids] using hb)
  · exact takeCap_mx _ _ _ (by simp [Cap.rids, InF]) (by simp [Cap.rids, Blks])
  · rename_i g caps g' cc
    cases Nat.beq g g' with
    | false => rfl
    | true => exact takeCaps_mx _ _ _ (by simpa [TV.rids, TV.lfs, Lf.rids] using h) (by simpa [TV.rids, TV.lfs, Lf.rids] using hb)
  · exact takes_mx _ _ _ (fun l hl => by rw [List.mem_singleton] at hl; subst hl; simpa [TV.rids, TV.lfs] using h)
  · rename_i ks ls
    exact takes_mx _ _ _ (fun l hl id hi => h id (List.mem_flatMap.2 ⟨l, hl, hi⟩))
  · rename_i ks id g
    have hid : f.F id = true := h id (by simp [TV.rids, TV.lfs, Lf.rids])
    rw [blkOf_mx hid]
    cases hls : blkOf s id g with
    | none => rfl
    | some ls =>
      have hl : InL f ls := hb id (by simp [TV.rids, TV.lfs, Lf.rids]) ls (blkOf_ok hls).2
      simp only []
      rw [mx_chg hid, takes_mx _ _ _ hl]
      cases takes ks ls (s.chg id true .gone) <;> rfl
  · rfl
def InV (f : Fr) (vs : List TVr) : Prop := ∀ v ∈ vs, InF f v.rids
def BlkV (s : S) (f : Fr) (vs : List TVr) : Prop := ∀ v ∈ vs, Blks s f v.rids
theorem takeAll_mx : ∀ (shs : List Sh) (vs : List TVr) (s : S), InV f vs → BlkV s f vs → takeAll shs vs (s.mx f) = (takeAll shs vs s).map fun q => (q.1, q.2.mx f)
  | [], [], _, _, _ => rfl
  | [], _ :: _, _, _, _ => rfl
  | _ :: _, [], _, _, _ => rfl
  | sh :: shs, v :: vs, s, h, hb => by
    simp only [takeAll]
    rw [takeTV_mx _ _ _ (h v (by simp)) (hb v (by simp))]
    cases h1 : takeTV sh v s with
    | none => rfl
    | some q =>
      simp only [Option.map_some]
      rw [takeAll_mx shs vs q.2 (fun v hv => h v (by simp [hv])) (fun v hv => (hb v (by simp [hv])).wane (takeTV_wane h1))]
      cases takeAll shs vs q.2 <;> rfl
theorem lay1_mx (id : Nat) (v : KV real) (s : S) (h : f.F id = true) : lay1 id v (s.mx f) = ((lay1 id v s).1, (lay1 id v s).2.mx f) := by
  obtain ⟨k, x⟩ := v
  cases k with
  | val t => simp only [lay1]; rw [mx_new h]
  | arr e cs d => simp only [lay1]; rw [mx_new h, mx_ob h]
theorem lays_mx : ∀ (vs : List (KV real)) (id : Nat) (s : S), (∀ i, id ≤ i → i < id + vs.length → f.F i = true) → lays id vs (s.mx f) = ((lays id vs s).1, (lays id vs s).2.mx f)
  | [], _, _, _ => rfl
  | v :: vs, id, s, h => by
    simp only [lays]
    rw [lay1_mx _ _ _ (h id (Nat.le_refl _) (by simp))]
    simp only []
    rw [lays_mx vs (id + 1) _ (fun i h1 h2 => h i (by omega) (by simp only [List.length_cons]; omega))]
theorem layTV_mx (b : Nat) (sh : Sh) (vs : List (KV real)) (s : S) (hl : vs.length ≤ sh.ks.length) (h : ∀ i, b ≤ i → i < b + sh.width → f.F i = true) : layTV b sh vs (s.mx f) = ((layTV b sh vs s).1, (layTV b sh vs s).2.mx f) := by
  cases sh with
  | one k =>
    match vs with
    | [] => rfl
    | [v] => simp only [layTV]; rw [lay1_mx _ _ _ (h b (Nat.le_refl _) (by simp [Sh.width]))]
    | _ :: _ :: _ => rfl
  | agg ks =>
    have hl : vs.length ≤ ks.length := hl
    have hw : (Sh.agg ks).width = ks.length := rfl
    simp only [layTV]; rw [lays_mx _ _ _ (fun i h1 h2 => h i h1 (by omega))]
  | blk ks =>
    have hl : vs.length ≤ ks.length := hl
    have hw : (Sh.blk ks).width = ks.length + 1 := rfl
    have hb := h b (Nat.le_refl _) (by omega)
    simp only [layTV]; rw [lays_mx _ _ _ (fun i h1 h2 => h i (by omega) (by omega))]
    simp only []
    rw [mx_new hb, mx_ob hb]
  | ro cs => simp only [layTV]; cases toVs (A := real) cs vs <;> rfl
  | fn _ _ => rfl
  | fnm _ _ => rfl
theorem layAll_mx : ∀ (shs : List Sh) (vs : List (KV real)) (b : Nat) (s : S), (∀ i, b ≤ i → i < b + widthS shs → f.F i = true) → layAll b shs vs (s.mx f) = ((layAll b shs vs s).1, (layAll b shs vs s).2.mx f)
  | [], _, _, _, _ => rfl
  | sh :: shs, vs, b, s, h => by
    have hw : widthS (sh :: shs) = sh.width + widthS shs := rfl
    simp only [layAll]
    rw [layTV_mx _ _ _ _ (by rw [List.length_take]; omega) (fun i h1 h2 => h i h1 (by omega))]
    simp only []
    rw [layAll_mx shs _ _ _ (fun i h1 h2 => h i (by omega) (by omega))]
theorem storeCellsV_mx (deep : Bool) : ∀ (ls : List L) (cs : Tys) (x : cs.T) (j : Nat) (s : S), InL f ls → storeCellsV (A := real) deep cs x j ls (s.mx f) = (storeCellsV (A := real) deep cs x j ls s).map fun q => (q.1, q.2.mx f)
  | [], _, _, _, _, _ => by simp only [storeCellsV]; rfl
  | l :: ls, cs, x, j, s, h => by
    simp only [storeCellsV]
    cases cellAt (A := real) cs x j with
    | none => rfl
    | some q =>
      obtain ⟨t, y⟩ := q
      simp only []
      rw [pack1_mx _ _ _ _ h.hd]
      cases pack1 (A := real) deep t l s with
      | none => rfl
      | some q =>
        simp only [Option.map_some]
        cases setCell (A := real) cs x j ⟨t, q.1⟩ with
        | none => rfl
        | some y => exact storeCellsV_mx deep ls cs y (j + 1) q.2 h.tl
theorem storeV_mx (p : L) (v : List L) (s : S) (hp : InF f p.rids) (hv : InL f v) : storeV (s.mx f) p v = (storeV s p v).map fun q => q.mx f := by
  cases p with
  | ptr id g off =>
    simp only [storeV, blkOf_mx hp.ptr]
    cases blkOf s id g with
    | none => rfl
    | some cs => simp only []; split <;> first | rfl | (simp only [Option.map_some]; rw [mx_chg hp.ptr])
  | eptr id g h p i off =>
    cases p with
    | cons _ _ => rfl
    | nil =>
      have hid := hp.eptr
      have hob := mx_ob (s := s) hid
      simp only [storeV, hob]
      cases Nat.beq (s.ob id).g g with
      | false => rfl
      | true =>
        simp only [cond_true]
        cases (s.ob id).o with
        | arr e cs dp x =>
          simp only []
          have hst : storeCellsV (A := real) dp cs (real.get x i) off v (s.mx f) = (storeCellsV (A := real) dp cs (real.get x i) off v s).map fun q => (q.1, q.2.mx f) := storeCellsV_mx dp v cs (real.get x i) off s hv
          rw [hst]
          cases storeCellsV (A := real) dp cs (real.get x i) off v s with
          | none => rfl
          | some q =>
            simp only [Option.map_some]
            rw [mx_ob hid]
            cases (q.2.ob id).o <;> first | rfl | (simp only [Option.map_some]; rw [mx_chg hid])
        | _ => rfl
  | _ => rfl
/-- Operands that are read alike. -/
def Alike (E : Env) (s : S) (sl : Sl) (o : Oper) : Prop := ∀ x ∈ opds o.op, ∀ t, ev E ⟨sl, s.ob⟩ t x = ev E s t x
end
end Go.R

/-! R38: a step hangs on its operands and what they refer to alone. -/
namespace Go.R
section
variable {E : Env} {Ψ : FKey → Option FnR}
/-- Other slots and objects around it; what the step itself puts stays. -/
def mrg (dst : Option Nat) (f : Fr) (s' : S) : S := s'.mx ⟨fun i => match dst with | some d => bif Nat.beq i d then s'.sl i else f.sl i | none => f.sl i, f.F, f.t⟩
theorem mrg_set (dst : Option Nat) (f : Fr) (s : S) (v : TVr) : mrg dst f (s.setO dst v) = (s.mx f).setO dst v := by
  cases dst with
  | none => rfl
  | some d =>
    unfold mrg St.mx St.setO St.set
    congr 1
    funext i
    cases h : Nat.beq i d <;> simp [h]
theorem mapFail_on {α : Type} {x : Option α} {f g : α → Option S} {m : S → S} (h : ∀ y, f y = (g y).map m) : mapFail (realC S) x f = (mapFail (realC S) x g).map m := by
  cases x with
  | none => rfl
  | some y => exact h y
theorem mapFail_on' {α : Type} {x : Option α} {f g : α → Option S} {m : S → S} (h : ∀ y, x = some y → f y = (g y).map m) : mapFail (realC S) x f = (mapFail (realC S) x g).map m := by
  cases x with
  | none => rfl
  | some y => exact h y rfl
theorem cond_on {b : Bool} {x y x' y' : Option S} {m : S → S} (hx : x = x'.map m) (hy : y = y'.map m) : (bif b then x else y) = (bif b then x' else y').map m := by
  cases b
  · exact hy
  · exact hx
theorem cond_on' {b : Bool} {x y x' y' : Option S} {m : S → S} (hx : b = true → x = x'.map m) (hy : y = y'.map m) : (bif b then x else y) = (bif b then x' else y').map m := by
  cases b
  · exact hy
  · exact hx rfl
theorem binV_on (tb : Bool) (op : BinOp) (x y : L) (f g : L → Option S) (m : S → S) (h : ∀ l, f l = (g l).map m) : binV (realC S) tb op x y f = (binV (realC S) tb op x y g).map m := by
  have := binV_cps (R := S) tb op x y f g (fun s => some (m s)) (fun l => by rw [h l]; cases g l <;> rfl)
  rw [this]
  cases binV (realC S) tb op x y g <;> rfl
variable {fr : Fr}
theorem InV.one {v : TVr} {vs : List TVr} (h : InV fr vs) (hv : v ∈ vs) : InL fr v.lfs := fun l hl id hi => h v hv id (List.mem_flatMap.2 ⟨l, hl, hi⟩)
theorem builtinV_mx (d : Nat) (b : Builtin) (tys : List Nat) (args : List TVr) (s : S) (f g : TVr → S → Option S) (m : S → S) (ha : InV fr args) (hp : (match b with | .len | .min | .max => False | _ => True) → fr.F (mkId d 0 0) = true) (h : ∀ v s', f v (St.mx s' fr) = (g v s').map m) :
    builtinV E (realC S) d b tys args (s.mx fr) f = (builtinV E (realC S) d b tys args s g).map m := by
  unfold builtinV
  split
  · rename_i x t
    rw [cont?_mx (ha.one (v := x) (by simp))]
    exact cond_on (mapFail_on fun _ => h _ s) (mapFail_on fun _ => mapFail_on fun _ => h _ s)
  · exact mapFail_on fun _ => mapFail_on fun _ => h _ s
  · exact mapFail_on fun _ => mapFail_on fun _ => h _ s
  · rename_i x y t t'
    have hp := hp trivial
    have hx := ha.one (v := x) (by simp)
    rw [cont?_mx hx, cont?_mx (ha.one (v := y) (by simp))]
    refine mapFail_on fun q => mapFail_on fun _ => mapFail_on fun cx => mapFail_on fun cy => cond_on rfl ?_
    cases x with
    | one l =>
      cases l with
      | nilS e cs =>
        simp only []
        refine cond_on rfl ?_
        split
        · rename_i hb
          refine cond_on ?_ rfl
          have := h (.one (.ref (mkId d 0 0) (((s.new (mkId d 0 0) (.arr cx.e cx.cs false (real.cat cx.x (real.cast hb cy.x)))).ob (mkId d 0 0)).g) 0 [])) (s.new (mkId d 0 0) (.arr cx.e cx.cs false (real.cat cx.x (real.cast hb cy.x))))
          rw [mx_new hp, mx_ob hp]
          exact this
        · rfl
      | ref id gg hh p =>
        have hid : fr.F id = true := (hx (.ref id gg hh p) (by simp [TV.lfs])).ref
        cases p with
        | nil =>
          simp only []
          cases cx.md with
          | zero => rfl
          | succ n =>
            simp only []
            refine cond_on rfl ?_
            split
            · rename_i hb
              refine cond_on ?_ rfl
              have := h (.one (.ref (mkId d 0 0) ((((s.chg id true .gone).new (mkId d 0 0) (.arr cx.e cx.cs (Nat.beq (n + 1) 2) (real.cat cx.x (real.cast hb cy.x)))).ob (mkId d 0 0)).g) 0 [])) ((s.chg id true .gone).new (mkId d 0 0) (.arr cx.e cx.cs (Nat.beq (n + 1) 2) (real.cat cx.x (real.cast hb cy.x))))
              rw [mx_chg hid, mx_new hp, mx_ob hp]
              exact this
            · rfl
        | cons _ _ => rfl
      | _ => rfl
    | _ => rfl
  · rfl
theorem mapFail_map {α β : Type} {o : Option α} {q : α → β} {f : β → Option S} {g : α → Option S} {m : S → S} (h : ∀ x, f (q x) = (g x).map m) : mapFail (realC S) (o.map q) f = (mapFail (realC S) o g).map m := by
  cases o with
  | none => rfl
  | some x => exact h x
theorem mapFail_map' {α β : Type} {o : Option α} {q : α → β} {f : β → Option S} {g : α → Option S} {m : S → S} (h : ∀ x, o = some x → f (q x) = (g x).map m) : mapFail (realC S) (o.map q) f = (mapFail (realC S) o g).map m := by
  cases o with
  | none => rfl
  | some x => exact h x rfl
theorem look1_mx (t : Ty) (l : L) (s : S) (h : InF fr l.rids) : look1 (A := real) t l (s.mx fr) = look1 t l s := by
  cases l with
  | ref id g hh p => simp only [look1]; rw [cont_mx h.ref]
  | _ => rfl
theorem look1K_mx (s0 s : S) (k : K) (l : L) (h : InF fr l.rids) : look1K k l (s0.mx fr) (s.mx fr) = look1K k l s0 s := by
  cases k with
  | val t => simp only [look1K]; rw [look1_mx _ _ _ h]
  | arr e cs d =>
    simp only [look1K]
    rw [arr1_mx _ _ _ _ _ h]
    cases arr1 (A := real) e cs d l s0 <;> rfl
theorem looks_mx (s0 s : S) : ∀ (ks : List K) (ls : List L), InL fr ls → looks ks ls (s0.mx fr) (s.mx fr) = looks ks ls s0 s
  | [], [], _ => rfl
  | [], _ :: _, _ => rfl
  | _ :: _, [], _ => rfl
  | k :: ks, l :: ls, h => by
    simp only [looks]
    rw [looks_mx s0 s ks ls h.tl, look1K_mx _ _ _ _ h.hd]
theorem lookCap_mx (s : S) (cs : Tys) (c : Cap real) (h : InF fr c.rids) (hb : Blks s fr c.rids) : lookCap cs c (s.mx fr) = lookCap cs c s := by
  cases c with
  | ro _ _ => rfl
  | ptr id g =>
    have hid : fr.F id = true := h id (by simp [Cap.rids])
    simp only [lookCap, blkOf_mx hid]
    cases hls : blkOf s id g with
    | none => rfl
    | some ls => exact looks_mx s s _ _ (hb id (by simp [Cap.rids]) ls (blkOf_ok hls).2)
theorem lookCaps_mx (s : S) : ∀ (css : List Tys) (cc : List (Cap real)), InF fr (cc.flatMap Cap.rids) → Blks s fr (cc.flatMap Cap.rids) → lookCaps css cc (s.mx fr) = lookCaps css cc s
  | [], [], _, _ => rfl
  | [], _ :: _, _, _ => rfl
  | _ :: _, [], _, _ => rfl
  | cs :: css, c :: cc, h, hb => by
    rw [List.flatMap_cons] at h hb
    simp only [lookCaps]; rw [lookCap_mx _ _ _ h.app.1 hb.app.1, lookCaps_mx s css cc h.app.2 hb.app.2]
theorem lookTV_mx (s0 s : S) (sh : Sh) (v : TVr) (h : InF fr v.rids) (hb : Blks s fr v.rids) : lookTV sh v (s0.mx fr) (s.mx fr) = lookTV sh v s0 s := by
  unfold lookTV
  split
  · exact lookCap_mx _ _ _ (by simpa [TV.rids, TV.lfs, Lf.rids, Cap.rids] using h) (by simpa [TV.rids, TV.lfs, Lf.rids, Cap.rids] using hb)
  · exact lookCap_mx _ _ _ (by simp [Cap.rids, InF]) (by simp [Cap.rids, Blks])
  · rw [lookCaps_mx _ _ _ (by simpa [TV.rids, TV.lfs, Lf.rids] using h) (by simpa [TV.rids, TV.lfs, Lf.rids] using hb)]
  · exact looks_mx _ _ _ _ (fun l hl => by rw [List.mem_singleton] at hl; subst hl; simpa [TV.rids, TV.lfs] using h)
  · rename_i ks ls
    exact looks_mx _ _ _ _ (fun l hl id hi => h id (List.mem_flatMap.2 ⟨l, hl, hi⟩))
  · rfl
theorem lookAll_mx (s0 s : S) : ∀ (shs : List Sh) (vs : List TVr), InV fr vs → BlkV s fr vs → lookAll shs vs (s0.mx fr) (s.mx fr) = lookAll shs vs s0 s
  | [], [], _, _ => rfl
  | [], _ :: _, _, _ => rfl
  | _ :: _, [], _, _ => rfl
  | sh :: shs, v :: vs, h, hb => by simp only [lookAll]; rw [lookTV_mx _ _ _ _ (h v (by simp)) (hb v (by simp)), lookAll_mx s0 s shs vs (fun v hv => h v (by simp [hv])) (fun v hv => hb v (by simp [hv]))]
theorem lend1_mx (k : K) (l : L) (s : S) (h : InF fr l.rids) : lend1 k l (s.mx fr) = (lend1 k l s).map fun q => q.mx fr := by
  cases k with
  | val t => rfl
  | arr e cs d =>
    simp only [lend1]
    cases Nat.ble 1 cs.len with
    | false => rfl
    | true =>
      simp only [cond_true]
      rw [arr1_mx _ _ _ _ _ h]
      cases arr1 (A := real) e cs d l s <;> rfl
theorem lend1_wane {k : K} {l : L} {s s1 : S} (h : lend1 k l s = some s1) : Wane s s1 := by
  cases k with
  | val t => injection h with h; subst h; exact .refl _
  | arr e cs d =>
    simp only [lend1] at h
    cases hf : Nat.ble 1 cs.len with
    | false => rw [hf] at h; cases h
    | true =>
      rw [hf] at h
      simp only [cond_true] at h
      cases ha : arr1 (A := real) e cs d l s with
      | none => rw [ha] at h; cases h
      | some q => rw [ha] at h; injection h with h; subst h; exact arr1_wane ha
theorem lends_wane : ∀ {ks : List K} {ls : List L} {s s1 : S}, lends ks ls s = some s1 → Wane s s1
  | [], [], s, s1, h => by injection h with h; subst h; exact .refl _
  | [], _ :: _, _, _, h => by cases h
  | _ :: _, [], _, _, h => by cases h
  | k :: ks, l :: ls, s, s1, h => by
    simp only [lends] at h
    cases h1 : lend1 k l s with
    | none => rw [h1] at h; cases h
    | some s2 => rw [h1] at h; exact (lend1_wane h1).trans (lends_wane h)
theorem lends_mx : ∀ (ks : List K) (ls : List L) (s : S), InL fr ls → lends ks ls (s.mx fr) = (lends ks ls s).map fun q => q.mx fr
  | [], [], _, _ => rfl
  | [], _ :: _, _, _ => rfl
  | _ :: _, [], _, _ => rfl
  | k :: ks, l :: ls, s, h => by
    simp only [lends]
    rw [lend1_mx _ _ _ h.hd]
    cases lend1 k l s with
    | none => rfl
    | some s1 => exact lends_mx ks ls s1 h.tl
theorem backs_mx : ∀ (ks : List K) (ls : List L) (vs : List (KV real)) (s : S), InL fr ls → backs ks ls vs (s.mx fr) = (backs ks ls vs s).map fun q => q.mx fr := by
  intro ks
  induction ks with
  | nil => intro ls vs s _; cases ls <;> cases vs <;> rfl
  | cons k ks ih =>
    intro ls vs s h
    cases ls with
    | nil => cases k <;> cases vs <;> rfl
    | cons l ls =>
      cases k with
      | val t => simp only [backs]; exact ih ls vs s h.tl
      | arr e cs d =>
        cases vs with
        | nil => cases l with
          | ref id g h p => cases p <;> rfl
          | _ => rfl
        | cons v vs =>
          cases l with
          | nilS _ _ => simp only [backs]; exact ih ls vs s h.tl
          | ref id g hh p =>
            cases p with
            | cons _ _ => rfl
            | nil =>
              obtain ⟨kk, x⟩ := v
              cases kk with
              | val _ => rfl
              | arr e' cs' d' =>
                simp only [backs]
                rw [mx_chg h.hd.ref]
                exact ih ls vs (s.chg id true (.arr e' cs' d' x)) h.tl
          | _ => rfl
theorem backB_mx : ∀ (kss : List (List K)) (ls : List L) (vs : List (KV real)) (s : S), InL fr ls → (∀ l ∈ ls, ∀ id g off, l = .ptr id g off → ∀ i, cellId id ≤ i → i < cellId id + 64 → fr.F i = true) → backB kss ls vs (s.mx fr) = (backB kss ls vs s).map fun q => q.mx fr := by
  intro kss
  induction kss with
  | nil => intro ls vs s _ _; cases ls <;> cases vs <;> rfl
  | cons ks kss ih =>
    intro ls vs s h hc
    cases ls with
    | nil => rfl
    | cons l ls =>
      cases l with
      | ptr id g off =>
        cases off with
        | zero =>
          simp only [backB]
          cases hb : (Nat.ble (id + 1) cellB && (Nat.ble ks.length 64 && Nat.ble ks.length vs.length)) with
          | false => rfl
          | true =>
            simp only [cond_true]
            rw [Bool.and_eq_true, Bool.and_eq_true] at hb
            have h64 := Nat.le_of_ble_eq_true hb.2.1
            rw [lays_mx _ _ _ (fun i h1 h2 => hc (.ptr id g 0) (by simp) id g 0 rfl i h1 (by rw [List.length_take] at h2; omega))]
            simp only []
            rw [mx_chg h.hd.ptr]
            exact ih ls _ ((lays (cellId id) (vs.take ks.length) s).2.chg id true (.blk (lays (cellId id) (vs.take ks.length) s).1)) h.tl (fun l hl => hc l (by simp [hl]))
        | succ _ => rfl
      | _ => rfl
theorem cells_in (sh : Sh) (v : TVr) (h : InF fr v.rids) : InL fr (sh.cells v) := by
  intro l hl
  have dead : ∀ ks : List K, l ∈ (ks.map fun _ => (Lf.dead : L)) → InF fr l.rids := by
    intro ks hl
    obtain ⟨_, _, rfl⟩ := List.mem_map.1 hl
    intro id hi
    cases hi
  cases sh with
  | one k =>
    cases v with
    | one l' =>
      simp only [Sh.cells, List.mem_singleton] at hl
      subst hl
      simpa [TV.rids, TV.lfs] using h
    | _ =>
      simp only [Sh.cells, List.mem_singleton] at hl
      subst hl
      intro id hi
      cases hi
  | agg ks =>
    cases v with
    | agg ls =>
      simp only [Sh.cells] at hl
      cases hb : Nat.beq ls.length ks.length with
      | true =>
        rw [hb] at hl
        exact fun id hi => h id (List.mem_flatMap.2 ⟨l, hl, hi⟩)
      | false => rw [hb] at hl; exact dead ks hl
    | _ => exact dead ks hl
  | _ => cases hl
theorem allCells_in : ∀ (shs : List Sh) (vs : List TVr), InV fr vs → InL fr (allCells shs vs)
  | [], _, _ => fun l hl => by simp [allCells] at hl
  | _ :: _, [], _ => fun l hl => by simp [allCells] at hl
  | sh :: shs, v :: vs, h => fun l hl => by
    simp only [allCells, List.mem_append] at hl
    rcases hl with hl | hl
    · exact cells_in sh v (h v (by simp)) l hl
    · exact allCells_in shs vs (fun v hv => h v (by simp [hv])) l hl
theorem allBl_in : ∀ (shs : List Sh) (vs : List TVr), InV fr vs → InL fr (allBl shs vs)
  | [], _, _ => fun l hl => by simp [allBl] at hl
  | _ :: _, [], _ => fun l hl => by simp [allBl] at hl
  | sh :: shs, v :: vs, h => fun l hl => by
    simp only [allBl, List.mem_append] at hl
    rcases hl with hl | hl
    · cases sh with
      | blk ks =>
        cases v with
        | one l' =>
          simp only [Sh.bls, List.mem_singleton] at hl
          subst hl
          have := h (.one l) (by simp)
          simpa [TV.rids, TV.lfs] using this
        | _ =>
          simp only [Sh.bls, List.mem_singleton] at hl
          subst hl
          intro id hi
          cases hi
      | _ => cases v <;> simp [Sh.bls] at hl
    · exact allBl_in shs vs (fun v hv => h v (by simp [hv])) l hl
theorem allBl_mem : ∀ (shs : List Sh) (vs : List TVr) (id g off : Nat), (Lf.ptr id g off : L) ∈ allBl shs vs → TV.one (.ptr id g off) ∈ vs
  | [], _, _, _, _, h => by simp [allBl] at h
  | _ :: _, [], _, _, _, h => by simp [allBl] at h
  | sh :: shs, v :: vs, id, g, off, h => by
    simp only [allBl, List.mem_append] at h
    rcases h with h | h
    · cases sh with
      | blk ks =>
        cases v with
        | one l' =>
          simp only [Sh.bls, List.mem_singleton] at h
          subst h
          simp
        | _ => simp [Sh.bls] at h
      | _ => cases v <;> simp [Sh.bls] at h
    · exact List.mem_cons_of_mem _ (allBl_mem shs vs id g off h)
theorem callV_mx (F : FnR) (d : Nat) (args : List TVr) (s : S) (f g : TVr → S → Option S) (m : S → S) (ha : InV fr args) (hb : BlkV s fr args) (hp : ∀ i, mkId d 0 0 ≤ i → i < mkId d 0 0 + 2048 → fr.F i = true)
    (hc : ∀ id g off, TV.one (.ptr id g off) ∈ args → ∀ i, cellId id ≤ i → i < cellId id + 64 → fr.F i = true) (h : ∀ v s', f v (St.mx s' fr) = (g v s').map m) :
    callV (realC S) (F.callee S) d args (s.mx fr) f = (callV (realC S) (F.callee S) d args s g).map m := by
  unfold callV
  refine cond_on' (fun hok => ?_) rfl
  have hw : widthS F.rets ≤ 2048 := by
    unfold callOkB at hok
    rw [Bool.and_eq_true] at hok
    exact Nat.le_of_ble_eq_true hok.1
  refine cond_on ?_ (cond_on ?_ rfl)
  · have h1 : lendAll (F.callee S).args args (s.mx fr) = (lendAll (F.callee S).args args s).map fun q => q.mx fr := lends_mx _ _ _ (allCells_in _ _ ha)
    rw [h1]
    cases hl : lendAll (F.callee S).args args s with
    | none => rfl
    | some s1 =>
      simp only [Option.map_some, mapFail]
      have h2 : lookAll (F.callee S).args args (s.mx fr) (s1.mx fr) = lookAll (F.callee S).args args s s1 := lookAll_mx _ _ _ _ ha (fun v hv => (hb v hv).wane (lends_wane hl))
      rw [h2]
      refine mapFail_on (x := lookAll (F.callee S).args args s s1) fun vs => mapFail_on fun x => ?_
      show (F.fn x).bind _ = ((F.fn x).bind _).map m
      cases F.fn x with
      | none => rfl
      | some y =>
        have h3 : ∀ vs, backAll (F.callee S).args args vs (s1.mx fr) = (backAll (F.callee S).args args vs s1).map fun q => q.mx fr := fun vs => backs_mx _ _ _ _ (allCells_in _ _ ha)
        show mapFail (realC S) (backAll (F.callee S).args args _ (s1.mx fr)) _ = (mapFail (realC S) (backAll (F.callee S).args args _ s1) _).map m
        rw [h3]
        refine mapFail_map fun s2 => ?_
        rw [layAll_mx _ _ _ _ (fun i h1 h2 => hp i h1 (by have h2 : i < mkId d 0 0 + widthS F.rets := h2; omega))]
        exact h _ _
  · rw [takeAll_mx _ _ _ ha hb]
    cases takeAll (F.callee S).args args s with
    | none => rfl
    | some q =>
      simp only [Option.map_some, mapFail]
      refine mapFail_on (x := toKTs _ q.1) fun x => ?_
      show (F.fn x).bind _ = ((F.fn x).bind _).map m
      cases F.fn x with
      | none => rfl
      | some y =>
        show mapFail (realC S) (backB (allB (F.callee S).args) (allBl (F.callee S).args args) _ (q.2.mx fr)) _ = (mapFail (realC S) (backB (allB (F.callee S).args) (allBl (F.callee S).args args) _ q.2) _).map m
        rw [backB_mx _ _ _ _ (allBl_in _ _ ha) (fun l hl id g off e => by subst e; exact hc id g off (allBl_mem _ _ _ _ _ hl))]
        refine mapFail_map fun s2 => ?_
        rw [layAll_mx _ _ _ _ (fun i h1 h2 => hp i h1 (by have h2 : i < mkId d 0 0 + widthS F.rets := h2; omega))]
        exact h _ _
theorem sliceFin_mx (d : Nat) (s : S) (x : TVr) (c : Cont real) (b : Bool) (l hi : IV) (f g : TVr → S → Option S) (m : S → S) (hx : InL fr x.lfs) (hp : fr.F (mkId d 0 0) = true) (h : ∀ v s', f v (St.mx s' fr) = (g v s').map m) : sliceFin E (realC S) d (s.mx fr) x c b l hi f = (sliceFin E (realC S) d s x c b l hi g).map m := by
  unfold sliceFin
  cases x with
  | one q =>
    cases q with
    | ref id gg hh p =>
      have hid : fr.F id = true := (hx (.ref id gg hh p) (by simp [TV.lfs])).ref
      cases p with
      | nil =>
        simp only []
        refine cond_on (h _ s) (cond_on (cond_on rfl ?_) ?_)
        · have := h (.one (.ref (mkId d 0 0) ((((s.chg id true .gone).new (mkId d 0 0) (.arr c.e c.cs (Nat.beq c.md 2) (real.sub c.x l hi))).ob (mkId d 0 0)).g) 0 [])) ((s.chg id true .gone).new (mkId d 0 0) (.arr c.e c.cs (Nat.beq c.md 2) (real.sub c.x l hi)))
          rw [mx_chg hid, mx_new hp, mx_ob hp]
          exact this
        · rw [mx_chg hid]; exact h _ _
      | cons _ _ => rfl
    | _ => exact h _ s
  | _ => exact h _ s
end
end Go.R

/-! R39: a step, with other slots and objects around it. -/
namespace Go.R
section
variable {E : Env} {Ψ : FKey → Option FnR} {fr : Fr}
theorem put_mx (o : Oper) (s : S) (v : TVr) : (some ((s.mx fr).setO o.dst v) : Option S) = (some (s.setO o.dst v)).map (mrg o.dst fr) := by
  rw [Option.map_some, mrg_set]
theorem sliceV_mx (d t : Nat) (s : S) (x : TVr) (lo hi mx : Option Operand) (f g : TVr → S → Option S) (m : S → S) (hx : InL fr x.lfs) (hp : fr.F (mkId d 0 0) = true) (h : ∀ v s', f v (St.mx s' fr) = (g v s').map m) (hlo : ∀ o, lo = some o → ev E (s.mx fr) 0 o = ev E s 0 o) (hhi : ∀ o, hi = some o → ev E (s.mx fr) 0 o = ev E s 0 o) :
    sliceV E (realC S) d t (s.mx fr) x lo hi mx f = (sliceV E (realC S) d t s x lo hi mx g).map m := by
  unfold sliceV
  refine mapFail_on fun q => ?_
  rw [cont?_mx hx]
  refine mapFail_on fun c => cond_on (cond_on (h _ s) ?_) rfl
  cases mx with
  | some _ => rfl
  | none =>
    have e1 : ∀ o, lo = some o → int? (ev E (s.mx fr) 0 o) = int? (ev E s 0 o) := fun o ho => by rw [hlo o ho]
    have e2 : ∀ o, hi = some o → int? (ev E (s.mx fr) 0 o) = int? (ev E s 0 o) := fun o ho => by rw [hhi o ho]
    cases lo with
    | none =>
      cases hi with
      | none => exact mapFail_on fun l => mapFail_on fun hh => cond_on (sliceFin_mx _ _ _ _ _ _ _ _ _ _ hx hp h) rfl
      | some b => simp only [e2 b rfl]; exact mapFail_on fun l => mapFail_on fun hh => cond_on (sliceFin_mx _ _ _ _ _ _ _ _ _ _ hx hp h) rfl
    | some a =>
      cases hi with
      | none => simp only [e1 a rfl]; exact mapFail_on fun l => mapFail_on fun hh => cond_on (sliceFin_mx _ _ _ _ _ _ _ _ _ _ hx hp h) rfl
      | some b => simp only [e1 a rfl, e2 b rfl]; exact mapFail_on fun l => mapFail_on fun hh => cond_on (sliceFin_mx _ _ _ _ _ _ _ _ _ _ hx hp h) rfl
theorem litRow_mx (s0 : S) (e : Nat) (cs : Tys) : ∀ (os : List Operand) (x : real.V (.sl e cs)) (s : S), (∀ o ∈ os, (∀ t, ev E (s0.mx fr) t o = ev E s0 t o) ∧ ∀ t, InL fr (ev E s0 t o).lfs) → litRow E (s0.mx fr) e cs os x (s.mx fr) = (litRow E s0 e cs os x s).map fun q => (q.1, q.2.mx fr)
  | [], x, s, _ => by simp only [litRow]; rfl
  | o :: os, x, s, h => by
    simp only [litRow]
    rw [(h o (by simp)).1 0, cells?_mx ((h o (by simp)).2 0)]
    cases hc : cells? s0 (ev E s0 0 o) with
    | none => rfl
    | some ls =>
      simp only []
      have hl : InL fr ls := by rw [cells?_lfs hc]; exact (h o (by simp)).2 0
      rw [packs_mx _ _ _ _ hl]
      cases packs (A := real) false cs ls s with
      | none => rfl
      | some q =>
        simp only [Option.map_some]
        exact litRow_mx s0 e cs os _ q.2 fun o' ho' => h o' (by simp [ho'])
theorem fillCells_mx (flds : List (Nat × Nat × Bool)) {s : S} : ∀ (ps : List (Nat × Operand)) (cs : List L), (∀ x ∈ ps.map (·.2), (∀ t, ev E (s.mx fr) t x = ev E s t x) ∧ ∀ t, InL fr (ev E s t x).lfs) → fillCells flds E (s.mx fr) ps cs = fillCells flds E s ps cs
  | [], _, _ => rfl
  | (i, x) :: r, cs, h => by
    have hx := h x (by simp)
    simp only [fillCells]
    cases flds[i]? with
    | none => rfl
    | some q =>
      simp only []
      rw [hx.1 0, cells?_mx (hx.2 0)]
      cases cells? s (ev E s 0 x) with
      | none => rfl
      | some v =>
        simp only []
        rw [fillCells_mx flds r _ (fun y hy => h y (by simp only [List.map_cons, List.mem_cons]; exact .inr hy))]
theorem capOf_list {s1 s2 : S} (cs : List Operand) (h : ∀ x ∈ cs, ∀ t, ev E s2 t x = ev E s1 t x) : (cs.mapM fun c => capOf (ev E s2 0 c)) = cs.mapM fun c => capOf (ev E s1 0 c) := by
  induction cs with
  | nil => rfl
  | cons c cs ih =>
    simp only [List.mapM_cons]
    rw [h c (by simp) 0, ih (fun x hx => h x (by simp [hx]))]
theorem ev_rids {s : S} (t : Nat) (x : Operand) : (ev E s t x).rids = opdRids s x := by
  cases x with
  | tmp j => rfl
  | const v =>
    show (constTV (A := real) E t v).rids = []
    unfold constTV
    split <;> first | rfl | (split <;> rfl)
  | func f => rfl
  | «global» g => rfl
theorem lfs_in {v : TVr} (h : InF fr v.rids) : InL fr v.lfs := fun l hl id hi => h id (List.mem_flatMap.2 ⟨l, hl, hi⟩)
/-- What a step asks of what is around it. -/
structure Around (E : Env) (s : S) (fr : Fr) (o : Oper) : Prop where
  ev : ∀ x ∈ opds o.op, ∀ t, ev E (s.mx fr) t x = Go.R.ev E s t x
  ids : isCopy o.op = false → ∀ x ∈ opds o.op, InF fr (opdRids s x) ∧ Blks s fr (opdRids s x)
  priv : makes o.op = true → ∀ i, mkId (o.dst.getD 0) 0 0 ≤ i → i < mkId (o.dst.getD 0) 0 0 + 2048 → fr.F i = true
  cells : wild s o = true → ∀ i, cellB ≤ i → fr.F i = true
theorem step_mx {o : Oper} {s : S} (h : Around E s fr o) : step1 E Ψ o (s.mx fr) = (step1 E Ψ o s).map (mrg o.dst fr) := by
  have he := h.ev
  have hi : isCopy o.op = false → ∀ x ∈ opds o.op, ∀ t, InL fr (ev E s t x).lfs := fun hc x hx t => lfs_in (by rw [ev_rids]; exact (h.ids hc x hx).1)
  have hpr := h.priv
  have pt := fun (s : S) (v : TVr) => put_mx (fr := fr) o s v
  have nw : makes o.op = true → fr.F (mkId (o.dst.getD 0) 0 0) = true := fun hm => hpr hm _ (Nat.le_refl _) (by omega)
  unfold step1 stepC
  cases ho : o.op with
  | move x => rw [ho] at he; simp only []; rw [he x (by simp [opds])]; exact pt s _
  | assign x => rw [ho] at he; simp only []; rw [he x (by simp [opds])]; exact pt s _
  | pick c a b =>
    rw [ho] at he
    simp only []
    rw [he c (by simp [opds]), he a (by simp [opds]), he b (by simp [opds])]
    exact mapFail_on fun c => cond_on (pt s _) (pt s _)
  | build t ps =>
    rw [ho] at he hi
    refine mapFail_on fun i => cond_on ?_ rfl
    rw [fillCells_mx _ _ _ fun x hx => ⟨he x hx, hi rfl x hx⟩]
    exact mapFail_on fun cs => pt s _
  | load t p =>
    rw [ho] at he hi
    simp only []
    rw [he p (by simp [opds])]
    refine mapFail_on fun i => ?_
    have hp := hi rfl p (by simp [opds]) 0
    cases hq : Go.R.ev E s 0 p with
    | one l => rw [hq] at hp; simp only []; rw [loadV_mx (hp l (by simp [TV.lfs]))]; exact mapFail_on fun v => pt s _
    | _ => rfl
  | nilCheck x =>
    rw [ho] at he hi
    simp only []
    rw [he x (by simp [opds])]
    have hp := hi rfl x (by simp [opds]) 0
    cases hq : Go.R.ev E s 0 x with
    | one l =>
      rw [hq] at hp
      have hp := hp l (by simp [TV.lfs])
      cases l with
      | ptr id g off => simp only []; rw [blkOf_mx hp.ptr]; exact mapFail_on fun _ => pt s _
      | eptr id g hh p j off => simp only []; rw [cont_mx hp.eptr]; exact mapFail_on fun c => cond_on rfl (pt s _)
      | iptr cs y off => exact pt s _
      | _ => rfl
    | _ => rfl
  | binOp op t x y yt =>
    rw [ho] at he hi
    simp only []
    have hnt : nilTest E (s.mx fr) op t x y = nilTest E s op t x y := by
      unfold nilTest
      rw [he x (by simp [opds]), cont?_mx (hi rfl x (by simp [opds]) t)]
    rw [hnt]
    cases nilTest E s op t x y with
    | some l => exact pt s _
    | none =>
    simp only []
    rw [he x (by simp [opds]), he y (by simp [opds])]
    cases Go.R.ev E s t x with
    | one x =>
      cases Go.R.ev E s t y with
      | one y => exact binV_on _ _ _ _ _ _ _ fun l => pt s _
      | _ => rfl
    | agg xs =>
      cases Go.R.ev E s t y with
      | agg ys => refine mapFail_on fun i => mapFail_on fun b => ?_; cases op <;> first | rfl | exact pt s _
      | _ => rfl
    | tup _ => rfl
  | unOp op t x =>
    rw [ho] at he
    simp only []
    rw [he x (by simp [opds])]
    cases op <;> first | rfl | skip
    all_goals (cases Go.R.ev E s t x with
      | one l => cases l with
        | val tt y => cases tt <;> first | rfl | exact pt s _
        | _ => rfl
      | _ => rfl)
  | convert src dst x =>
    rw [ho] at he
    simp only []
    rw [he x (by simp [opds])]
    refine mapFail_on fun _ => mapFail_on fun i => cond_on rfl ?_
    split <;> first | rfl | exact pt s _
  | makeFunc fn first captured =>
    rw [ho] at he
    cases fn with
    | func f =>
      refine cond_on ?_ rfl
      rw [capOf_list _ fun x hx t => he x (by simpa [opds] using hx) t]
      exact mapFail_on fun cc => pt s _
    | _ => rfl
  | fieldAddr t x f =>
    rw [ho] at he hi
    simp only []
    rw [he x (by simp [opds])]
    have hp := hi rfl x (by simp [opds]) 0
    refine mapFail_on fun i => mapFail_on fun q => cond_on rfl ?_
    cases hq : Go.R.ev E s 0 x with
    | one l =>
      rw [hq] at hp
      have hp := hp l (by simp [TV.lfs])
      cases l with
      | ptr id g off => simp only []; rw [blkOf_mx hp.ptr]; exact mapFail_on fun _ => pt s _
      | eptr id g hh p j off => simp only []; rw [cont_mx hp.eptr]; exact mapFail_on fun c => cond_on rfl (pt s _)
      | iptr cs y off => exact pt s _
      | _ => rfl
    | _ => rfl
  | field t x f =>
    rw [ho] at he
    simp only []
    rw [he x (by simp [opds])]
    refine mapFail_on fun i => mapFail_on fun q => cond_on rfl ?_
    cases Go.R.ev E s t x with
    | agg ls => exact cond_on (pt s _) rfl
    | _ => rfl
  | indexAddr t x i =>
    rw [ho] at he hi
    simp only []
    rw [he x (by simp [opds]), he i (by simp [opds])]
    have hp := hi rfl x (by simp [opds]) t
    refine mapFail_on fun i => mapFail_on fun q => ?_
    cases hq : Go.R.ev E s t x with
    | one l =>
      rw [hq] at hp
      have hp := hp l (by simp [TV.lfs])
      cases l with
      | val tt y =>
        cases tt with
        | sl e cs => exact cond_on (cond_on (pt s _) rfl) rfl
        | _ => rfl
      | ref id g hh p => simp only []; rw [cont_mx hp.ref]; exact mapFail_on fun c => cond_on (cond_on (cond_on (pt s _) (pt s _)) rfl) rfl
      | _ => rfl
    | _ => rfl
  | index t x i =>
    rw [ho] at he
    simp only []
    rw [he x (by simp [opds]), he i (by simp [opds])]
    exact cond_on (mapFail_on fun i => mapFail_on fun x => cond_on (pt s _) rfl) rfl
  | extract t i =>
    rw [ho] at he
    simp only []
    rw [he t (by simp [opds])]
    cases Go.R.ev E s 0 t with
    | tup cs => exact mapFail_on fun c => pt s _
    | _ => rfl
  | alloc t =>
    rw [ho] at nw
    have nw := nw rfl
    refine mapFail_on fun i => ?_
    simp only []
    rw [mx_new nw, mx_ob nw]
    exact pt (s.new (mkId (o.dst.getD 0) 0 0) (.blk (zeroLfs real i.cs))) _
  | box t x =>
    rw [ho] at he nw hi
    have nw := nw rfl
    simp only []
    rw [he x (by simp [opds])]
    refine mapFail_on fun i => ?_
    rw [cells?_mx (hi rfl x (by simp [opds]) t)]
    refine mapFail_on' fun v hv => cond_on (cond_on ?_ ?_) rfl
    · rw [packs_mx _ _ _ _ (by rw [cells?_lfs hv]; exact hi rfl x (by simp [opds]) t)]
      cases packs (A := real) false i.cs v s with
      | none => rfl
      | some r => exact pt r.2 _
    · rw [mx_new nw, mx_ob nw]
      exact pt (s.new (mkId (o.dst.getD 0) 0 0) (.blk v)) _
  | buildSlice t n ps =>
    rw [ho] at he nw hi
    have nw := nw rfl
    simp only []
    refine mapFail_on fun r => cond_on ?_ rfl
    rw [litRow_mx _ _ _ _ _ _ (fun o' ho' => ⟨he o' (by simpa [opds] using ho'), hi rfl o' (by simpa [opds] using ho')⟩)]
    cases litRow (A := real) E s r.1 r.2 (ps.toList.map (·.2)) (real.nilV r.1 r.2) s with
    | none => rfl
    | some q =>
      simp only [Option.map_some, mapFail]
      rw [mx_new nw, mx_ob nw]
      exact pt (q.2.new (mkId (o.dst.getD 0) 0 0) (.arr r.1 r.2 false q.1)) _
  | store t p v =>
    rw [ho] at he hi
    simp only []
    rw [he p (by simp [opds]), he v (by simp [opds])]
    refine mapFail_on fun i => ?_
    have hv := hi rfl v (by simp [opds]) t
    rw [cells?_mx hv]
    refine mapFail_on' fun v' hv' => cond_on ?_ rfl
    have hp := hi rfl p (by simp [opds]) 0
    cases hq : ev E s 0 p with
    | one l =>
      rw [hq] at hp
      simp only []
      rw [storeV_mx _ _ _ (hp l (by simp [TV.lfs])) (by rw [cells?_lfs hv']; exact hv)]
      cases storeV s l v' with
      | none => rfl
      | some s1 => exact pt s1 _
    | _ => rfl
  | makeSlice t n c =>
    rw [ho] at he nw
    have nw := nw rfl
    simp only []
    rw [he n (by simp [opds])]
    refine mapFail_on fun r => mapFail_on fun n' => cond_on (cond_on ?_ rfl) rfl
    rw [mx_new nw, mx_ob nw]
    exact pt (s.new (mkId (o.dst.getD 0) 0 0) (.arr r.1 r.2 (E.deep (o.dst.getD 0)) (real.rep r.1 n' (zeroVs real r.2)))) _
  | slice t x lo hi' mx =>
    rw [ho] at he nw hi
    simp only []
    rw [he x (by simp [opds])]
    exact sliceV_mx _ _ _ _ _ _ _ _ _ _ (hi rfl x (by simp [opds]) t) (nw rfl) (fun v s' => pt s' v) (fun o ho => he o (by simp [opds, ho]) 0) (fun o ho => he o (by simp [opds, ho]) 0)
  | call c =>
    have hids := h.ids
    have hcl := h.cells
    have hwl : ∀ args tys cal, c = ⟨cal, args, tys⟩ → ∀ id g off, TV.one (Lf.ptr id g off : L) ∈ (args.toList.zip tys.toList).map (fun p => ev E s p.2 p.1) → wild s o = true := by
      intro args tys cal e id g off hm
      obtain ⟨p, hp1, hp2⟩ := List.mem_map.1 hm
      unfold wild
      rw [ho, e]
      refine (Bool.or_eq_true _ _).mpr (.inl (List.any_eq_true.2 ⟨p.1, (List.of_mem_zip hp1).1, ?_⟩))
      cases hx : p.1 with
      | tmp j =>
        rw [hx] at hp2
        have : s.sl j = TV.one (Lf.ptr id g off) := hp2
        simp only [this]
      | const v =>
        rw [hx] at hp2
        have h3 : constTV (A := real) E p.2 v = TV.one (Lf.ptr id g off) := hp2
        unfold constTV at h3
        split at h3 <;> first | (cases h3; done) | (split at h3 <;> cases h3)
      | func _ => rw [hx] at hp2; cases hp2
      | «global» _ => rw [hx] at hp2; cases hp2
    rw [ho] at he hi hpr nw hids
    obtain ⟨cal, args, tys⟩ := c
    simp only []
    refine cond_on ?_ rfl
    have hargs : ∀ (l : List (Operand × Nat)), (∀ p ∈ l, p.1 ∈ args.toList) → (l.map fun p => ev E (s.mx fr) p.2 p.1) = l.map fun p => ev E s p.2 p.1 := by
      intro l hl
      exact List.map_congr_left fun p hp => he p.1 (by simp only [opds]; exact List.mem_append.2 (.inr (hl p hp))) p.2
    have hz : ∀ p ∈ args.toList.zip tys.toList, p.1 ∈ args.toList := fun p hp => (List.of_mem_zip hp).1
    rw [hargs _ hz]
    have hin : InV fr ((args.toList.zip tys.toList).map fun p => ev E s p.2 p.1) := by
      intro v hv
      obtain ⟨p, hp1, rfl⟩ := List.mem_map.1 hv
      rw [ev_rids]
      exact (hids rfl p.1 (by simp only [opds]; exact List.mem_append.2 (.inr (hz p hp1)))).1
    cases cal with
    | builtin b =>
      refine builtinV_mx _ _ _ _ _ _ _ _ hin (fun hm => nw ?_) (fun v s' => pt s' v)
      cases b <;> first | rfl | cases hm
    | value f =>
      simp only []
      rw [he f (by simp [opds]) 0]
      cases hf : ev E s 0 f with
      | one l =>
        cases l with
        | fn fid cc =>
          simp only []
          unfold tab
          cases Ψ (fid, fnIds ((args.toList.zip tys.toList).map fun p => ev E s p.2 p.1)) with
          | none => rfl
          | some F =>
            simp only [Option.map_some, mapFail]
            have hfr : ∀ c ∈ cc, InF fr c.rids ∧ Blks s fr c.rids := by
              intro c hc
              have h1 := hids rfl f (by simp [opds])
              rw [← ev_rids (E := E) 0, hf] at h1
              have hsub : ∀ id ∈ c.rids, id ∈ (TV.one (Lf.fn fid cc) : TVr).rids := fun id hi => by
                simp only [TV.rids, TV.lfs, List.flatMap_cons, List.flatMap_nil, List.append_nil, Lf.rids]
                exact List.mem_flatMap.2 ⟨c, hc, hi⟩
              exact ⟨fun id hi => h1.1 id (hsub id hi), fun id hi => h1.2 id (hsub id hi)⟩
            have hcap : ∀ c : Cap real, c.tv.rids = c.rids := fun c => by cases c <;> rfl
            refine callV_mx F _ _ _ _ _ _ (fun v hv => ?_) (fun v hv => ?_) (hpr rfl) (fun id g off hm => ?_) (fun v s' => pt s' v)
            · rcases List.mem_append.1 hv with hv | hv
              · exact hin v hv
              · obtain ⟨c, hc, rfl⟩ := List.mem_map.1 hv
                rw [hcap]
                exact (hfr c hc).1
            · rcases List.mem_append.1 hv with hv | hv
              · obtain ⟨p, hp1, rfl⟩ := List.mem_map.1 hv
                rw [ev_rids]
                exact (hids rfl p.1 (by simp only [opds]; exact List.mem_append.2 (.inr (hz p hp1)))).2
              · obtain ⟨c, hc, rfl⟩ := List.mem_map.1 hv
                rw [hcap]
                exact (hfr c hc).2
            · refine fun i h1 _ => hcl ?_ i (Nat.le_trans (show cellB ≤ cellId id by unfold cellId; omega) h1)
              rcases List.mem_append.1 hm with hm | hm
              · exact hwl args tys _ rfl id g off hm
              · obtain ⟨c, hc, hc2⟩ := List.mem_map.1 hm
                unfold wild
                rw [ho]
                refine (Bool.or_eq_true _ _).mpr (.inr ?_)
                cases f with
                | tmp j =>
                  have : s.sl j = TV.one (Lf.fn fid cc) := hf
                  simp only [this]
                  refine List.any_eq_true.2 ⟨c, hc, ?_⟩
                  cases c with
                  | ptr _ _ => rfl
                  | ro _ _ => cases hc2
                | const v =>
                  have h3 : constTV (A := real) E 0 v = TV.one (Lf.fn fid cc) := hf
                  unfold constTV at h3
                  split at h3 <;> first | (cases h3; done) | (split at h3 <;> cases h3)
                | func q =>
                  have h3 : TV.one (Lf.fn q []) = (TV.one (Lf.fn fid cc) : TVr) := hf
                  injection h3 with h3
                  injection h3 with _ h3
                  subst h3
                  cases hc
                | «global» _ => cases hf
        | _ => rfl
      | _ => rfl
    | invoke _ _ => rfl
  | _ => rfl
end
end Go.R
