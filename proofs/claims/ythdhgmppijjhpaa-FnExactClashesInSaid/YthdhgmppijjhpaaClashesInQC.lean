import Derived.Test.YthdhgmppijjhpaaClashesInQB
/- Plain functions that stand for Go functions, and what they answer. Conditions: none. -/
set_option autoImplicit false
set_option linter.unusedVariables false
set_option linter.unusedSimpArgs false
set_option linter.unusedSimpArgs false
set_option linter.unusedVariables false
namespace Go.Fn
open Go.R Go.Sort
noncomputable def stp (l : List Ev) (x : Int) : Int := (l.getD x.toNat zIIIIIII).2.2.1
theorem l_get0 (P T : List Int) (a : Int) : (P ++ a :: T).getD P.length 0 = a := by induction P <;> simp_all
theorem l_get1 (P T : List Int) (a x : Int) : (P ++ a :: x :: T).getD (P.length + 1) 0 = x := by simp
theorem l_set0 (P T : List Int) (a x : Int) : (P ++ a :: T).set P.length x = P ++ x :: T := by induction P <;> simp_all
theorem l_set1 (P T : List Int) (a b x : Int) : (P ++ a :: b :: T).set (P.length + 1) x = P ++ a :: x :: T := by simp
theorem ins_loop (l : List Ev) (i : Int) (x : Int) (hx : 0 ≤ x ∧ x < l.length) : ∀ (k : Nat) (P S : List Int) (n : Nat), P.length = k → P.length + S.length ≤ 1000 → (∀ y, y ∈ P ++ S → 0 ≤ y ∧ y < l.length) → (∀ y, y ∈ S → stp l x < stp l y) → k < n →
  ∃ A B, iter (spec_OrderOf_b2 (l, i, ())) n (P ++ x :: S, (k : Int), ()) = some (.inl (A ++ x :: B, ())) ∧ A ++ B = P ++ S ∧ (∀ y, y ∈ B → stp l x < stp l y) ∧ (∀ A' a, A = A' ++ [a] → stp l a ≤ stp l x) := by
 intro k
 induction k with
 | zero =>
  intro P S n hP _ _ hS hn
  obtain ⟨n, rfl⟩ : ∃ m, n = m + 1 := ⟨n - 1, by omega⟩
  have : P = [] := List.length_eq_zero_iff.1 hP
  subst this
  refine ⟨[], S, iter_done rfl, rfl, hS, fun A' a h => ?_⟩
  have := congrArg List.length h
  simp at this
 | succ p ih =>
  intro P S n hP hlen hv hS hn
  obtain ⟨n, rfl⟩ : ∃ m, n = m + 1 := ⟨n - 1, by omega⟩
  obtain ⟨P', a, rfl⟩ : ∃ P' a, P = P' ++ [a] := by
   have hne : P ≠ [] := fun h => by rw [h] at hP; cases hP
   exact ⟨P.dropLast, P.getLast hne, (List.dropLast_concat_getLast hne).symm⟩
  have hp : P'.length = p := by simpa using hP
  subst hp
  have ha := hv a (by simp)
  obtain ⟨an, rfl⟩ : ∃ q : Nat, a = (q : Int) := ⟨a.toNat, by omega⟩
  obtain ⟨xn, rfl⟩ : ∃ q : Nat, x = (q : Int) := ⟨x.toNat, by omega⟩
  have e1 : rArith .sub .i64 ((P'.length + 1 : Nat) : Int) 1 = (P'.length : Int) := pred64 (by simp at hlen; omega)
  have hL : (P' ++ [(an : Int)]) ++ (xn : Int) :: S = P' ++ (an : Int) :: (xn : Int) :: S := by simp
  rw [hL]
  have i0 : P'.length < (P' ++ (an : Int) :: (xn : Int) :: S).length := by simp
  have i1 : P'.length + 1 < (P' ++ (an : Int) :: (xn : Int) :: S).length := by simp
  have g0 : rGet zI (P' ++ (an : Int) :: (xn : Int) :: S) (P'.length : Int) = (an : Int) := by rw [get_nat]; exact l_get0 _ _ _
  have g1 : rGet zI (P' ++ (an : Int) :: (xn : Int) :: S) ((P'.length + 1 : Nat) : Int) = (xn : Int) := by rw [get_nat]; exact l_get1 _ _ _ _
  have ia : rInR l (an : Int) = true := inR_lt (by omega)
  have ix : rInR l (xn : Int) = true := inR_lt (by omega)
  by_cases hc : stp l (xn : Int) < stp l (an : Int)
  ·obtain ⟨A, B, k1, k2, k3, k4⟩ := ih P' ((an : Int) :: S) n rfl (by simp at hlen ⊢; omega) (fun y hy => hv y (by simpa using hy)) (fun y hy => by
    rcases List.mem_cons.1 hy with rfl | hy
    ·exact hc
    ·exact hS y hy) (by omega)
   refine ⟨A, B, ?_, by rw [k2]; simp, k3, k4⟩
   rw [← k1]
   refine iter_next ?_
   have hgt : rCmp .gtr (rGet zIIIIIII l (an : Int)).2.2.1 (rGet zIIIIIII l (xn : Int)).2.2.1 = true := by
    rw [get_nat, get_nat]; exact decide_eq_true (by unfold stp at hc; rw [Int.toNat_natCast, Int.toNat_natCast] at hc; exact hc)
   unfold spec_OrderOf_b2
   simp only [gt0, cond_true, e1, inR_lt i0, inR_lt i1, g0, g1, ia, ix, hgt]
   have s1 : rPut (P' ++ (an : Int) :: (xn : Int) :: S) ((P'.length + 1 : Nat) : Int) (an : Int) = P' ++ (an : Int) :: (an : Int) :: S := by rw [put_nat]; exact l_set1 _ _ _ _ _
   have s2 : rPut (P' ++ (an : Int) :: (an : Int) :: S) ((P'.length : Nat) : Int) (xn : Int) = P' ++ (xn : Int) :: (an : Int) :: S := by rw [put_nat]; exact l_set0 _ _ _ _
   have i2 : P'.length < (P' ++ (an : Int) :: (an : Int) :: S).length := by simp
   rw [s1, s2, inR_lt i2]
   rfl
  ·refine ⟨P' ++ [(an : Int)], S, ?_, rfl, hS, fun A' a h => ?_⟩
   ·rw [hL]
    refine iter_done ?_
    have hgt : rCmp .gtr (rGet zIIIIIII l (an : Int)).2.2.1 (rGet zIIIIIII l (xn : Int)).2.2.1 = false := by
     rw [get_nat, get_nat]; exact decide_eq_false (by unfold stp at hc; rw [Int.toNat_natCast, Int.toNat_natCast] at hc; exact hc)
    unfold spec_OrderOf_b2
    simp only [gt0, cond_true, e1, inR_lt i0, inR_lt i1, g0, g1, ia, ix, hgt, cond_false]
   ·have := List.append_inj_right' h rfl
    injection this with h1 _
    rw [← h1]; omega
theorem specO_loop (l : List Ev) (hj : jok l = true) : ∀ (s i : Nat) (out : List Int) (n : Nat), l.length - i ≤ s → i ≤ l.length → out.length = i → (∀ x, x ∈ out ↔ 0 ≤ x ∧ x < i) → out.Pairwise (fun x y => ltO l x y = true) → s < n →
  ∃ r, iter (spec_OrderOf_b0 (l, ())) n (out, (i : Int), ()) = some (.inl (r, ())) ∧ OrdIs l r := by
 have h60 := jok_len hj
 intro s
 induction s with
 | zero =>
  intro i out n hs hi hlen hm hp hn
  obtain ⟨n, rfl⟩ : ∃ m, n = m + 1 := ⟨n - 1, by omega⟩
  have : i = l.length := by omega
  refine ⟨out, iter_done ?_, fun x => by rw [hm, this], hp⟩
  unfold spec_OrderOf_b0
  simp only [lss_len, show ¬ (i < l.length) by omega, decide_false, cond_false]
 | succ s ih =>
  intro i out n hs hi hlen hm hp hn
  obtain ⟨n, rfl⟩ : ∃ m, n = m + 1 := ⟨n - 1, by omega⟩
  by_cases h : i < l.length
  ·have hv : ∀ y, y ∈ out ++ [] → 0 ≤ y ∧ y < (l.length : Int) := fun y hy => by
    have := (hm y).1 (by simpa using hy); omega
   obtain ⟨A, B, k1, k2, k3, k4⟩ := ins_loop l (i : Int) (i : Int) (by omega) i out [] big hlen (by simp; omega) hv (fun y hy => absurd hy List.not_mem_nil) (lt_big (by omega))
   rw [List.append_nil] at k2
   have hout : out.Pairwise (fun x y => ltO l x y = true) := hp
   rw [← k2, List.pairwise_append] at hout
   have hAi : ∀ a, a ∈ A → ltO l a (i : Int) = true := fun a ha => by
    have hao := (hm a).1 (by rw [← k2]; exact List.mem_append_left _ ha)
    have hne : A ≠ [] := fun e => by rw [e] at ha; cases ha
    have hl := k4 _ _ (List.dropLast_concat_getLast hne).symm
    have hle : stp l a ≤ stp l (i : Int) := by
     by_cases e : a = A.getLast hne
     ·rw [e]; exact hl
     ·have hpa := hout.1
      rw [← List.dropLast_concat_getLast hne, List.pairwise_append] at hpa
      have ha2 : a ∈ A.dropLast := by
       have ha' := ha
       rw [← List.dropLast_concat_getLast hne, List.mem_append] at ha'
       rcases ha' with h | h
       ·exact h
       ·rw [List.mem_singleton] at h; exact absurd h e
      have := hpa.2.2 a ha2 (A.getLast hne) (List.mem_singleton.2 rfl)
      unfold ltO at this
      rw [ltK_iff] at this
      unfold stp at hl ⊢
      omega
    obtain ⟨an, rfl⟩ : ∃ q : Nat, a = (q : Int) := ⟨a.toNat, by omega⟩
    by_cases e : stp l (an : Int) = stp l (i : Int)
    ·exact ltO_tri hj (by omega) h (by unfold stp at e; rwa [Int.toNat_natCast, Int.toNat_natCast] at e)
    ·unfold ltO; rw [ltK_iff]; unfold stp at e hle; omega
   have hiB : ∀ y, y ∈ B → ltO l (i : Int) y = true := fun y hy => by
    have := k3 y hy
    unfold ltO; rw [ltK_iff]; unfold stp at this; omega
   obtain ⟨r, r1, r2⟩ := ih (i + 1) (A ++ (i : Int) :: B) n (by omega) h (by
    have := congrArg List.length k2
    simp only [List.length_append, List.length_cons] at this ⊢; omega) (fun x => by
    have := hm x
    rw [← k2, List.mem_append] at this
    rw [List.mem_append, List.mem_cons]
    constructor
    ·rintro (q | q | q)
     ·have := this.1 (.inl q); omega
     ·omega
     ·have := this.1 (.inr q); omega
    ·intro q
     by_cases e : x = (i : Int)
     ·exact .inr (.inl e)
     ·rcases this.2 (by omega) with q | q
      ·exact .inl q
      ·exact .inr (.inr q)) (by
    rw [List.pairwise_append]
    refine ⟨hout.1, List.Pairwise.cons hiB hout.2.1, fun a ha y hy => ?_⟩
    rcases List.mem_cons.1 hy with rfl | hy
    ·exact hAi a ha
    ·exact hout.2.2 a ha y hy) (by omega)
   refine ⟨r, ?_, r2⟩
   rw [← r1]
   refine iter_next ?_
   have hsm : rSmall (out ++ [(i : Int)]) = true := small_of (by simp; omega)
   have hap : List.append (α := Int) out (List.append (α := Int) ([] : List Int) [(i : Int)]) = out ++ [(i : Int)] := rfl
   unfold spec_OrderOf_b0 spec_OrderOf_l2
   simp only [lss_len, h, decide_true, cond_true, specJ_eq, hj, Option.bind_some, hap, hsm, k1, Sum.elim_inl, succ64 (n := i) (by omega)]
  ·have : i = l.length := by omega
   refine ⟨out, iter_done ?_, fun x => by rw [hm, this], hp⟩
   unfold spec_OrderOf_b0
   simp only [lss_len, h, decide_false, cond_false]
theorem implO_loop (l : List Ev) (h60 : l.length ≤ 60) : impl_OrderOf_l0 (rLen l, ()) (l, [], (0 : Int), ()) = some (.inl (l, rangeI l.length, ())) := by
 refine loop_end (body := impl_OrderOf_b0 (rLen l, ())) (fun n => (l, rangeI n, (n : Int), ())) l.length (by omega) _ (fun n hn => ?_) ?_
 ·have hsm : rSmall (rangeI (n + 1)) = true := small_of (by rw [rangeI_len]; omega)
  have hap : List.append (α := Int) (rangeI n) (List.append (α := Int) ([] : List Int) [(n : Int)]) = rangeI (n + 1) := (rangeI_succ n).symm
  unfold impl_OrderOf_b0
  simp only [lss_len, hn, decide_true, cond_true, hap, hsm, succ64 (n := n) (by omega)]
 ·unfold impl_OrderOf_b0
  simp only [lss_len, Nat.lt_irrefl, decide_false, cond_false]
theorem order_both (l : List Ev) : ∃ r, spec_OrderOf l = some (r, ()) ∧ impl_OrderOf l = some (r, ()) ∧ r.length ≤ 60 ∧ (∀ x, x ∈ r → 0 ≤ x ∧ x < l.length) ∧ (r ≠ [] → jok l = true) ∧ (jok l = true → OrdIs l r) := by
 cases hj : jok l with
 | false =>
  refine ⟨[], ?_, ?_, Nat.zero_le _, fun x hx => absurd hx List.not_mem_nil, fun h => absurd rfl h, fun h => by cases h⟩
  ·have it : iter (spec_OrderOf_b0 (l, ())) 1 ([], (0 : Int), ()) = some (.inl ([], ())) := by
    refine iter_done ?_
    unfold spec_OrderOf_b0
    simp only [specJ_eq, hj, Option.bind_some, cond_false]
    cases rCmp .lss (0 : Int) (rLen l) <;> rfl
   unfold spec_OrderOf spec_OrderOf_l0
   rw [iter_mono it (Nat.le_of_lt (lt_big (by omega)))]
   rfl
  ·unfold impl_OrderOf
   rw [implJ_eq, hj]
   rfl
 | true =>
  have h60 := jok_len hj
  obtain ⟨r, r1, r2⟩ := specO_loop l hj 60 0 [] big (by omega) (Nat.zero_le _) rfl (fun x => ⟨fun h => absurd h List.not_mem_nil, fun h => by omega⟩) List.Pairwise.nil (lt_big (by omega))
  obtain ⟨r', q1, q2⟩ := implSort_ok l hj
  have : r' = r := ordIs_ext q2 r2
  subst this
  have hlen : r'.length ≤ 60 := by
   have hp : r'.Perm (rangeI l.length) := by
    refine (List.perm_ext_iff_of_nodup ?_ ?_).2 fun x => by rw [r2.1, rangeI_mem]
    ·exact r2.2.imp fun {a b} h e => by subst e; rw [(ltO_swo l).irrefl] at h; cases h
    ·unfold rangeI
     rw [List.nodup_iff_pairwise_ne, List.pairwise_map]
     exact List.pairwise_lt_range.imp fun {a b} h => by omega
   rw [hp.length_eq, rangeI_len]; exact h60
  refine ⟨r', ?_, ?_, hlen, fun x hx => (r2.1 x).1 hx, fun _ => rfl, fun _ => r2⟩
  ·unfold spec_OrderOf spec_OrderOf_l0
   rw [show (0 : Int) = ((0 : Nat) : Int) from rfl, r1]
   rfl
  ·unfold impl_OrderOf
   simp only [implJ_eq, hj, Option.bind_some, Bool.not_true, cond_false, implO_loop l h60, Sum.elim_inl, q1]
abbrev Fat := Int × Int × Int × Int × Int × Int × Int
noncomputable def fst (r : List Int) (f : Fat) (n : Nat) : Int × Int × Int × Int × Int × Int × Int × Int × Int × Int × Int × Int × Int × Int × (List Int) × Int × Unit := (0, 0, 0, 0, 0, 0, 0, f.1, f.2.1, f.2.2.1, f.2.2.2.1, f.2.2.2.2.1, f.2.2.2.2.2.1, f.2.2.2.2.2.2, r, (n : Int), ())
theorem fate_step (l : List Ev) (hj : jok l = true) (p : Int) (r : List Int) (hr : ∀ x, x ∈ r → 0 ≤ x ∧ x < l.length) (hr2 : r.length ≤ 60) (f : Fat) (n : Nat) (hn : n < r.length) :
  ∃ g : Fat, spec_FateOf_b0 (l, p, ()) (fst r f n) = some (.inl (fst r g (n + 1))) ∧ impl_FateOf_b0 (l, p, rLen r, ()) (fst r f n) = some (.inl (fst r g (n + 1))) := by
 have hx := hr _ (getD_mem hn zI)
 obtain ⟨m, hm⟩ : ∃ q : Nat, r.getD n zI = (q : Int) := ⟨(r.getD n zI).toNat, by omega⟩
 rw [hm] at hx
 have hml : m < l.length := by omega
 have he := evOk_iff.1 (jok_ev hj hml)
 obtain ⟨f1, f2, f3, f4, f5, f6, f7⟩ := f
 unfold spec_FateOf_b0 impl_FateOf_b0 spec_l08Next fst
 simp only [lss_len, hn, decide_true, cond_true, inR_nat, get_nat, hm, hml, succ64 (n := n) (by omega)]
 revert he
 generalize l.getD m zIIIIIII = e
 intro he
 have ne : ∀ x y : Int, rCmp .neq x y = !rCmp .eql x y := fun x y => rfl
 simp only [ne]
 cases hp : rCmp .eql e.2.2.2.2.1 p with
 | false => exact ⟨(_, _, _, _, _, _, _), rfl, rfl⟩
 | true =>
  have hk : e.2.2.2.1 = 1 ∨ e.2.2.2.1 = 2 ∨ e.2.2.2.1 = 3 ∨ e.2.2.2.1 = 4 := by omega
  by_cases q0 : f1 = 0
  ·subst q0
   rcases hk with h | h | h | h <;> rw [h] <;> exact ⟨(_, _, _, _, _, _, _), rfl, rfl⟩
  ·by_cases q1 : f1 = 1
   ·subst q1
    rcases hk with h | h | h | h <;> rw [h] <;> exact ⟨(_, _, _, _, _, _, _), rfl, rfl⟩
   ·have c0 : rCmp .eql f1 (0 : Int) = false := by simpa [rCmp] using q0
    have c1 : rCmp .eql f1 (1 : Int) = false := by simpa [rCmp] using q1
    simp only [c0, c1]
    rcases hk with h | h | h | h <;> rw [h] <;> exact ⟨(_, _, _, _, _, _, _), rfl, rfl⟩
theorem fate_loop (l : List Ev) (p : Int) (r : List Int) (hj : r ≠ [] → jok l = true) (hr : ∀ x, x ∈ r → 0 ≤ x ∧ x < l.length) (hr2 : r.length ≤ 60) : ∀ (s n k : Nat) (f : Fat), r.length - n ≤ s → n ≤ r.length → s < k →
  ∃ g : Fat, iter (spec_FateOf_b0 (l, p, ())) k (fst r f n) = some (.inl (0, 0, 0, 0, 0, 0, 0, g.1, g.2.1, g.2.2.1, g.2.2.2.1, g.2.2.2.2.1, g.2.2.2.2.2.1, g.2.2.2.2.2.2, ())) ∧ iter (impl_FateOf_b0 (l, p, rLen r, ())) k (fst r f n) = some (.inl (0, 0, 0, 0, 0, 0, 0, g.1, g.2.1, g.2.2.1, g.2.2.2.1, g.2.2.2.2.1, g.2.2.2.2.2.1, g.2.2.2.2.2.2, ())) := by
 have done : ∀ (n : Nat) (f : Fat), ¬ (n < r.length) → spec_FateOf_b0 (l, p, ()) (fst r f n) = some (.inr (.inl (0, 0, 0, 0, 0, 0, 0, f.1, f.2.1, f.2.2.1, f.2.2.2.1, f.2.2.2.2.1, f.2.2.2.2.2.1, f.2.2.2.2.2.2, ()))) ∧ impl_FateOf_b0 (l, p, rLen r, ()) (fst r f n) = some (.inr (.inl (0, 0, 0, 0, 0, 0, 0, f.1, f.2.1, f.2.2.1, f.2.2.2.1, f.2.2.2.2.1, f.2.2.2.2.2.1, f.2.2.2.2.2.2, ()))) := fun n f h => by
  unfold spec_FateOf_b0 impl_FateOf_b0 fst
  simp only [lss_len, h, decide_false, cond_false]
  exact ⟨trivial, trivial⟩
 intro s
 induction s with
 | zero =>
  intro n k f hs hn hk
  obtain ⟨k, rfl⟩ : ∃ m, k = m + 1 := ⟨k - 1, by omega⟩
  have := done n f (by omega)
  exact ⟨f, iter_done this.1, iter_done this.2⟩
 | succ s ih =>
  intro n k f hs hn hk
  obtain ⟨k, rfl⟩ : ∃ m, k = m + 1 := ⟨k - 1, by omega⟩
  by_cases h : n < r.length
  ·obtain ⟨g, g1, g2⟩ := fate_step l (hj (fun e => by rw [e] at h; cases h)) p r hr hr2 f n h
   rw [iter_next g1, iter_next g2]
   exact ih (n + 1) k g (by omega) h (by omega)
  ·have := done n f h
   exact ⟨f, iter_done this.1, iter_done this.2⟩
theorem fate_both (l : List Ev) (p : Int) : ∃ g : Fat, spec_FateOf l p = some (g.1, g.2.1, g.2.2.1, g.2.2.2.1, g.2.2.2.2.1, g.2.2.2.2.2.1, g.2.2.2.2.2.2, ()) ∧ impl_FateOf l p = some (g.1, g.2.1, g.2.2.1, g.2.2.2.1, g.2.2.2.2.1, g.2.2.2.2.2.1, g.2.2.2.2.2.2, ()) := by
 obtain ⟨r, r1, r2, r3, r4, r5, _⟩ := order_both l
 obtain ⟨g, g1, g2⟩ := fate_loop l p r r5 r4 r3 60 0 big (0, 0, 0, 0, 0, 0, 0) (by omega) (Nat.zero_le _) (lt_big (by omega))
 refine ⟨g, ?_, ?_⟩
 ·unfold spec_FateOf
  rw [r1]
  simp only [Option.bind_some]
  have g1 : spec_FateOf_l0 (l, p, ()) (0, 0, 0, 0, 0, 0, 0, 0, 0, 0, 0, 0, 0, 0, r, 0, ()) = _ := g1
  rw [g1]
  rfl
 ·unfold impl_FateOf
  rw [r2]
  simp only [Option.bind_some]
  have g2 : impl_FateOf_l0 (l, p, rLen r, ()) (0, 0, 0, 0, 0, 0, 0, 0, 0, 0, 0, 0, 0, 0, r, 0, ()) = _ := g2
  rw [g2]
  rfl
end Go.Fn
set_option linter.unusedSimpArgs false
set_option linter.unusedVariables false
namespace Go.Fn
open Go.R Go.Sort
noncomputable def ltI (x y : Int) : Bool := decide (x < y)
theorem less_eq (x y : Int) : cmp_Less_int_ x y = some (ltI x y, ()) := by
 unfold cmp_Less_int_ cmp_isNaN_int_ ltI
 simp only [neq_self, Option.bind_some, cond_false]
 rfl
theorem n_insertionSort_b2 : slices_insertionSortOrdered_int__b2 = g_insertionSort_b2 (ltI) := by
 funext
 unfold slices_insertionSortOrdered_int__b2 g_insertionSort_b2
 try simp only [less_eq, Option.bind_some]
 try rfl
theorem n_insertionSort_l2 : slices_insertionSortOrdered_int__l2 = g_insertionSort_l2 (ltI) := by
 funext
 unfold slices_insertionSortOrdered_int__l2 g_insertionSort_l2
 try simp only [less_eq, Option.bind_some, n_insertionSort_b2]
 try rfl
theorem n_insertionSort_b0 : slices_insertionSortOrdered_int__b0 = g_insertionSort_b0 (ltI) := by
 funext
 unfold slices_insertionSortOrdered_int__b0 g_insertionSort_b0
 try simp only [less_eq, Option.bind_some, n_insertionSort_b2, n_insertionSort_l2]
 try rfl
theorem n_insertionSort_l0 : slices_insertionSortOrdered_int__l0 = g_insertionSort_l0 (ltI) := by
 funext
 unfold slices_insertionSortOrdered_int__l0 g_insertionSort_l0
 try simp only [less_eq, Option.bind_some, n_insertionSort_b2, n_insertionSort_l2, n_insertionSort_b0]
 try rfl
theorem n_insertionSort : slices_insertionSortOrdered_int_ = g_insertionSort (ltI) := by
 funext
 unfold slices_insertionSortOrdered_int_ g_insertionSort
 try simp only [less_eq, Option.bind_some, n_insertionSort_b2, n_insertionSort_l2, n_insertionSort_b0, n_insertionSort_l0]
 try rfl
theorem n_siftDown_b0 : slices_siftDownOrdered_int__b0 = g_siftDown_b0 (ltI) := by
 funext
 unfold slices_siftDownOrdered_int__b0 g_siftDown_b0
 try simp only [less_eq, Option.bind_some, n_insertionSort_b2, n_insertionSort_l2, n_insertionSort_b0, n_insertionSort_l0, n_insertionSort]
 try rfl
theorem n_siftDown_l0 : slices_siftDownOrdered_int__l0 = g_siftDown_l0 (ltI) := by
 funext
 unfold slices_siftDownOrdered_int__l0 g_siftDown_l0
 try simp only [less_eq, Option.bind_some, n_insertionSort_b2, n_insertionSort_l2, n_insertionSort_b0, n_insertionSort_l0, n_insertionSort, n_siftDown_b0]
 try rfl
theorem n_siftDown : slices_siftDownOrdered_int_ = g_siftDown (ltI) := by
 funext
 unfold slices_siftDownOrdered_int_ g_siftDown
 try simp only [less_eq, Option.bind_some, n_insertionSort_b2, n_insertionSort_l2, n_insertionSort_b0, n_insertionSort_l0, n_insertionSort, n_siftDown_b0, n_siftDown_l0]
 try rfl
theorem n_heapSort_b0 : slices_heapSortOrdered_int__b0 = g_heapSort_b0 (ltI) := by
 funext
 unfold slices_heapSortOrdered_int__b0 g_heapSort_b0
 try simp only [less_eq, Option.bind_some, n_insertionSort_b2, n_insertionSort_l2, n_insertionSort_b0, n_insertionSort_l0, n_insertionSort, n_siftDown_b0, n_siftDown_l0, n_siftDown]
 try rfl
theorem n_heapSort_l0 : slices_heapSortOrdered_int__l0 = g_heapSort_l0 (ltI) := by
 funext
 unfold slices_heapSortOrdered_int__l0 g_heapSort_l0
 try simp only [less_eq, Option.bind_some, n_insertionSort_b2, n_insertionSort_l2, n_insertionSort_b0, n_insertionSort_l0, n_insertionSort, n_siftDown_b0, n_siftDown_l0, n_siftDown, n_heapSort_b0]
 try rfl
theorem n_heapSort_b2 : slices_heapSortOrdered_int__b2 = g_heapSort_b2 (ltI) := by
 funext
 unfold slices_heapSortOrdered_int__b2 g_heapSort_b2
 try simp only [less_eq, Option.bind_some, n_insertionSort_b2, n_insertionSort_l2, n_insertionSort_b0, n_insertionSort_l0, n_insertionSort, n_siftDown_b0, n_siftDown_l0, n_siftDown, n_heapSort_b0, n_heapSort_l0]
 try rfl
theorem n_heapSort_l2 : slices_heapSortOrdered_int__l2 = g_heapSort_l2 (ltI) := by
 funext
 unfold slices_heapSortOrdered_int__l2 g_heapSort_l2
 try simp only [less_eq, Option.bind_some, n_insertionSort_b2, n_insertionSort_l2, n_insertionSort_b0, n_insertionSort_l0, n_insertionSort, n_siftDown_b0, n_siftDown_l0, n_siftDown, n_heapSort_b0, n_heapSort_l0, n_heapSort_b2]
 try rfl
theorem n_heapSort : slices_heapSortOrdered_int_ = g_heapSort (ltI) := by
 funext
 unfold slices_heapSortOrdered_int_ g_heapSort
 try simp only [less_eq, Option.bind_some, n_insertionSort_b2, n_insertionSort_l2, n_insertionSort_b0, n_insertionSort_l0, n_insertionSort, n_siftDown_b0, n_siftDown_l0, n_siftDown, n_heapSort_b0, n_heapSort_l0, n_heapSort_b2, n_heapSort_l2]
 try rfl
theorem n_breakPatterns_b0 : slices_breakPatternsOrdered_int__b0 = g_breakPatterns_b0 (ltI) := by
 funext
 unfold slices_breakPatternsOrdered_int__b0 g_breakPatterns_b0
 try simp only [less_eq, Option.bind_some, n_insertionSort_b2, n_insertionSort_l2, n_insertionSort_b0, n_insertionSort_l0, n_insertionSort, n_siftDown_b0, n_siftDown_l0, n_siftDown, n_heapSort_b0, n_heapSort_l0, n_heapSort_b2, n_heapSort_l2, n_heapSort]
 try rfl
theorem n_breakPatterns_l0 : slices_breakPatternsOrdered_int__l0 = g_breakPatterns_l0 (ltI) := by
 funext
 unfold slices_breakPatternsOrdered_int__l0 g_breakPatterns_l0
 try simp only [less_eq, Option.bind_some, n_insertionSort_b2, n_insertionSort_l2, n_insertionSort_b0, n_insertionSort_l0, n_insertionSort, n_siftDown_b0, n_siftDown_l0, n_siftDown, n_heapSort_b0, n_heapSort_l0, n_heapSort_b2, n_heapSort_l2, n_heapSort, n_breakPatterns_b0]
 try rfl
theorem n_breakPatterns : slices_breakPatternsOrdered_int_ = g_breakPatterns (ltI) := by
 funext
 unfold slices_breakPatternsOrdered_int_ g_breakPatterns
 try simp only [less_eq, Option.bind_some, n_insertionSort_b2, n_insertionSort_l2, n_insertionSort_b0, n_insertionSort_l0, n_insertionSort, n_siftDown_b0, n_siftDown_l0, n_siftDown, n_heapSort_b0, n_heapSort_l0, n_heapSort_b2, n_heapSort_l2, n_heapSort, n_breakPatterns_b0, n_breakPatterns_l0]
 try rfl
theorem n_order2 : slices_order2Ordered_int_ = g_order2 (ltI) := by
 funext
 unfold slices_order2Ordered_int_ g_order2
 try simp only [less_eq, Option.bind_some, n_insertionSort_b2, n_insertionSort_l2, n_insertionSort_b0, n_insertionSort_l0, n_insertionSort, n_siftDown_b0, n_siftDown_l0, n_siftDown, n_heapSort_b0, n_heapSort_l0, n_heapSort_b2, n_heapSort_l2, n_heapSort, n_breakPatterns_b0, n_breakPatterns_l0, n_breakPatterns]
 try rfl
theorem n_median : slices_medianOrdered_int_ = g_median (ltI) := by
 funext
 unfold slices_medianOrdered_int_ g_median
 try simp only [less_eq, Option.bind_some, n_insertionSort_b2, n_insertionSort_l2, n_insertionSort_b0, n_insertionSort_l0, n_insertionSort, n_siftDown_b0, n_siftDown_l0, n_siftDown, n_heapSort_b0, n_heapSort_l0, n_heapSort_b2, n_heapSort_l2, n_heapSort, n_breakPatterns_b0, n_breakPatterns_l0, n_breakPatterns, n_order2]
 try rfl
theorem n_medianAdjacent : slices_medianAdjacentOrdered_int_ = g_medianAdjacent (ltI) := by
 funext
 unfold slices_medianAdjacentOrdered_int_ g_medianAdjacent
 try simp only [less_eq, Option.bind_some, n_insertionSort_b2, n_insertionSort_l2, n_insertionSort_b0, n_insertionSort_l0, n_insertionSort, n_siftDown_b0, n_siftDown_l0, n_siftDown, n_heapSort_b0, n_heapSort_l0, n_heapSort_b2, n_heapSort_l2, n_heapSort, n_breakPatterns_b0, n_breakPatterns_l0, n_breakPatterns, n_order2, n_median]
 try rfl
theorem n_choosePivot : slices_choosePivotOrdered_int_ = g_choosePivot (ltI) := by
 funext
 unfold slices_choosePivotOrdered_int_ g_choosePivot
 try simp only [less_eq, Option.bind_some, n_insertionSort_b2, n_insertionSort_l2, n_insertionSort_b0, n_insertionSort_l0, n_insertionSort, n_siftDown_b0, n_siftDown_l0, n_siftDown, n_heapSort_b0, n_heapSort_l0, n_heapSort_b2, n_heapSort_l2, n_heapSort, n_breakPatterns_b0, n_breakPatterns_l0, n_breakPatterns, n_order2, n_median, n_medianAdjacent]
 try rfl
theorem n_reverseRange_b0 : slices_reverseRangeOrdered_int__b0 = g_reverseRange_b0 (ltI) := by
 funext
 unfold slices_reverseRangeOrdered_int__b0 g_reverseRange_b0
 try simp only [less_eq, Option.bind_some, n_insertionSort_b2, n_insertionSort_l2, n_insertionSort_b0, n_insertionSort_l0, n_insertionSort, n_siftDown_b0, n_siftDown_l0, n_siftDown, n_heapSort_b0, n_heapSort_l0, n_heapSort_b2, n_heapSort_l2, n_heapSort, n_breakPatterns_b0, n_breakPatterns_l0, n_breakPatterns, n_order2, n_median, n_medianAdjacent, n_choosePivot]
 try rfl
theorem n_reverseRange_l0 : slices_reverseRangeOrdered_int__l0 = g_reverseRange_l0 (ltI) := by
 funext
 unfold slices_reverseRangeOrdered_int__l0 g_reverseRange_l0
 try simp only [less_eq, Option.bind_some, n_insertionSort_b2, n_insertionSort_l2, n_insertionSort_b0, n_insertionSort_l0, n_insertionSort, n_siftDown_b0, n_siftDown_l0, n_siftDown, n_heapSort_b0, n_heapSort_l0, n_heapSort_b2, n_heapSort_l2, n_heapSort, n_breakPatterns_b0, n_breakPatterns_l0, n_breakPatterns, n_order2, n_median, n_medianAdjacent, n_choosePivot, n_reverseRange_b0]
 try rfl
theorem n_reverseRange : slices_reverseRangeOrdered_int_ = g_reverseRange (ltI) := by
 funext
 unfold slices_reverseRangeOrdered_int_ g_reverseRange
 try simp only [less_eq, Option.bind_some, n_insertionSort_b2, n_insertionSort_l2, n_insertionSort_b0, n_insertionSort_l0, n_insertionSort, n_siftDown_b0, n_siftDown_l0, n_siftDown, n_heapSort_b0, n_heapSort_l0, n_heapSort_b2, n_heapSort_l2, n_heapSort, n_breakPatterns_b0, n_breakPatterns_l0, n_breakPatterns, n_order2, n_median, n_medianAdjacent, n_choosePivot, n_reverseRange_b0, n_reverseRange_l0]
 try rfl
theorem n_partialInsertionSort_b2 : slices_partialInsertionSortOrdered_int__b2 = g_partialInsertionSort_b2 (ltI) := by
 funext
 unfold slices_partialInsertionSortOrdered_int__b2 g_partialInsertionSort_b2
 try simp only [less_eq, Option.bind_some, n_insertionSort_b2, n_insertionSort_l2, n_insertionSort_b0, n_insertionSort_l0, n_insertionSort, n_siftDown_b0, n_siftDown_l0, n_siftDown, n_heapSort_b0, n_heapSort_l0, n_heapSort_b2, n_heapSort_l2, n_heapSort, n_breakPatterns_b0, n_breakPatterns_l0, n_breakPatterns, n_order2, n_median, n_medianAdjacent, n_choosePivot, n_reverseRange_b0, n_reverseRange_l0, n_reverseRange]
 try rfl
theorem n_partialInsertionSort_l2 : slices_partialInsertionSortOrdered_int__l2 = g_partialInsertionSort_l2 (ltI) := by
 funext
 unfold slices_partialInsertionSortOrdered_int__l2 g_partialInsertionSort_l2
 try simp only [less_eq, Option.bind_some, n_insertionSort_b2, n_insertionSort_l2, n_insertionSort_b0, n_insertionSort_l0, n_insertionSort, n_siftDown_b0, n_siftDown_l0, n_siftDown, n_heapSort_b0, n_heapSort_l0, n_heapSort_b2, n_heapSort_l2, n_heapSort, n_breakPatterns_b0, n_breakPatterns_l0, n_breakPatterns, n_order2, n_median, n_medianAdjacent, n_choosePivot, n_reverseRange_b0, n_reverseRange_l0, n_reverseRange, n_partialInsertionSort_b2]
 try rfl
theorem n_partialInsertionSort_b4 : slices_partialInsertionSortOrdered_int__b4 = g_partialInsertionSort_b4 (ltI) := by
 funext
 unfold slices_partialInsertionSortOrdered_int__b4 g_partialInsertionSort_b4
 try simp only [less_eq, Option.bind_some, n_insertionSort_b2, n_insertionSort_l2, n_insertionSort_b0, n_insertionSort_l0, n_insertionSort, n_siftDown_b0, n_siftDown_l0, n_siftDown, n_heapSort_b0, n_heapSort_l0, n_heapSort_b2, n_heapSort_l2, n_heapSort, n_breakPatterns_b0, n_breakPatterns_l0, n_breakPatterns, n_order2, n_median, n_medianAdjacent, n_choosePivot, n_reverseRange_b0, n_reverseRange_l0, n_reverseRange, n_partialInsertionSort_b2, n_partialInsertionSort_l2]
 try rfl
theorem n_partialInsertionSort_l4 : slices_partialInsertionSortOrdered_int__l4 = g_partialInsertionSort_l4 (ltI) := by
 funext
 unfold slices_partialInsertionSortOrdered_int__l4 g_partialInsertionSort_l4
 try simp only [less_eq, Option.bind_some, n_insertionSort_b2, n_insertionSort_l2, n_insertionSort_b0, n_insertionSort_l0, n_insertionSort, n_siftDown_b0, n_siftDown_l0, n_siftDown, n_heapSort_b0, n_heapSort_l0, n_heapSort_b2, n_heapSort_l2, n_heapSort, n_breakPatterns_b0, n_breakPatterns_l0, n_breakPatterns, n_order2, n_median, n_medianAdjacent, n_choosePivot, n_reverseRange_b0, n_reverseRange_l0, n_reverseRange, n_partialInsertionSort_b2, n_partialInsertionSort_l2, n_partialInsertionSort_b4]
 try rfl
theorem n_partialInsertionSort_b6 : slices_partialInsertionSortOrdered_int__b6 = g_partialInsertionSort_b6 (ltI) := by
 funext
 unfold slices_partialInsertionSortOrdered_int__b6 g_partialInsertionSort_b6
 try simp only [less_eq, Option.bind_some, n_insertionSort_b2, n_insertionSort_l2, n_insertionSort_b0, n_insertionSort_l0, n_insertionSort, n_siftDown_b0, n_siftDown_l0, n_siftDown, n_heapSort_b0, n_heapSort_l0, n_heapSort_b2, n_heapSort_l2, n_heapSort, n_breakPatterns_b0, n_breakPatterns_l0, n_breakPatterns, n_order2, n_median, n_medianAdjacent, n_choosePivot, n_reverseRange_b0, n_reverseRange_l0, n_reverseRange, n_partialInsertionSort_b2, n_partialInsertionSort_l2, n_partialInsertionSort_b4, n_partialInsertionSort_l4]
 try rfl
theorem n_partialInsertionSort_l6 : slices_partialInsertionSortOrdered_int__l6 = g_partialInsertionSort_l6 (ltI) := by
 funext
 unfold slices_partialInsertionSortOrdered_int__l6 g_partialInsertionSort_l6
 try simp only [less_eq, Option.bind_some, n_insertionSort_b2, n_insertionSort_l2, n_insertionSort_b0, n_insertionSort_l0, n_insertionSort, n_siftDown_b0, n_siftDown_l0, n_siftDown, n_heapSort_b0, n_heapSort_l0, n_heapSort_b2, n_heapSort_l2, n_heapSort, n_breakPatterns_b0, n_breakPatterns_l0, n_breakPatterns, n_order2, n_median, n_medianAdjacent, n_choosePivot, n_reverseRange_b0, n_reverseRange_l0, n_reverseRange, n_partialInsertionSort_b2, n_partialInsertionSort_l2, n_partialInsertionSort_b4, n_partialInsertionSort_l4, n_partialInsertionSort_b6]
 try rfl
theorem n_partialInsertionSort_b0 : slices_partialInsertionSortOrdered_int__b0 = g_partialInsertionSort_b0 (ltI) := by
 funext
 unfold slices_partialInsertionSortOrdered_int__b0 g_partialInsertionSort_b0
 try simp only [less_eq, Option.bind_some, n_insertionSort_b2, n_insertionSort_l2, n_insertionSort_b0, n_insertionSort_l0, n_insertionSort, n_siftDown_b0, n_siftDown_l0, n_siftDown, n_heapSort_b0, n_heapSort_l0, n_heapSort_b2, n_heapSort_l2, n_heapSort, n_breakPatterns_b0, n_breakPatterns_l0, n_breakPatterns, n_order2, n_median, n_medianAdjacent, n_choosePivot, n_reverseRange_b0, n_reverseRange_l0, n_reverseRange, n_partialInsertionSort_b2, n_partialInsertionSort_l2, n_partialInsertionSort_b4, n_partialInsertionSort_l4, n_partialInsertionSort_b6, n_partialInsertionSort_l6]
 try rfl
theorem n_partialInsertionSort_l0 : slices_partialInsertionSortOrdered_int__l0 = g_partialInsertionSort_l0 (ltI) := by
 funext
 unfold slices_partialInsertionSortOrdered_int__l0 g_partialInsertionSort_l0
 try simp only [less_eq, Option.bind_some, n_insertionSort_b2, n_insertionSort_l2, n_insertionSort_b0, n_insertionSort_l0, n_insertionSort, n_siftDown_b0, n_siftDown_l0, n_siftDown, n_heapSort_b0, n_heapSort_l0, n_heapSort_b2, n_heapSort_l2, n_heapSort, n_breakPatterns_b0, n_breakPatterns_l0, n_breakPatterns, n_order2, n_median, n_medianAdjacent, n_choosePivot, n_reverseRange_b0, n_reverseRange_l0, n_reverseRange, n_partialInsertionSort_b2, n_partialInsertionSort_l2, n_partialInsertionSort_b4, n_partialInsertionSort_l4, n_partialInsertionSort_b6, n_partialInsertionSort_l6, n_partialInsertionSort_b0]
 try rfl
theorem n_partialInsertionSort : slices_partialInsertionSortOrdered_int_ = g_partialInsertionSort (ltI) := by
 funext
 unfold slices_partialInsertionSortOrdered_int_ g_partialInsertionSort
 try simp only [less_eq, Option.bind_some, n_insertionSort_b2, n_insertionSort_l2, n_insertionSort_b0, n_insertionSort_l0, n_insertionSort, n_siftDown_b0, n_siftDown_l0, n_siftDown, n_heapSort_b0, n_heapSort_l0, n_heapSort_b2, n_heapSort_l2, n_heapSort, n_breakPatterns_b0, n_breakPatterns_l0, n_breakPatterns, n_order2, n_median, n_medianAdjacent, n_choosePivot, n_reverseRange_b0, n_reverseRange_l0, n_reverseRange, n_partialInsertionSort_b2, n_partialInsertionSort_l2, n_partialInsertionSort_b4, n_partialInsertionSort_l4, n_partialInsertionSort_b6, n_partialInsertionSort_l6, n_partialInsertionSort_b0, n_partialInsertionSort_l0]
 try rfl
theorem n_partitionEqual_b2 : slices_partitionEqualOrdered_int__b2 = g_partitionEqual_b2 (ltI) := by
 funext
 unfold slices_partitionEqualOrdered_int__b2 g_partitionEqual_b2
 try simp only [less_eq, Option.bind_some, n_insertionSort_b2, n_insertionSort_l2, n_insertionSort_b0, n_insertionSort_l0, n_insertionSort, n_siftDown_b0, n_siftDown_l0, n_siftDown, n_heapSort_b0, n_heapSort_l0, n_heapSort_b2, n_heapSort_l2, n_heapSort, n_breakPatterns_b0, n_breakPatterns_l0, n_breakPatterns, n_order2, n_median, n_medianAdjacent, n_choosePivot, n_reverseRange_b0, n_reverseRange_l0, n_reverseRange, n_partialInsertionSort_b2, n_partialInsertionSort_l2, n_partialInsertionSort_b4, n_partialInsertionSort_l4, n_partialInsertionSort_b6, n_partialInsertionSort_l6, n_partialInsertionSort_b0, n_partialInsertionSort_l0, n_partialInsertionSort]
 try rfl
theorem n_partitionEqual_l2 : slices_partitionEqualOrdered_int__l2 = g_partitionEqual_l2 (ltI) := by
 funext
 unfold slices_partitionEqualOrdered_int__l2 g_partitionEqual_l2
 try simp only [less_eq, Option.bind_some, n_insertionSort_b2, n_insertionSort_l2, n_insertionSort_b0, n_insertionSort_l0, n_insertionSort, n_siftDown_b0, n_siftDown_l0, n_siftDown, n_heapSort_b0, n_heapSort_l0, n_heapSort_b2, n_heapSort_l2, n_heapSort, n_breakPatterns_b0, n_breakPatterns_l0, n_breakPatterns, n_order2, n_median, n_medianAdjacent, n_choosePivot, n_reverseRange_b0, n_reverseRange_l0, n_reverseRange, n_partialInsertionSort_b2, n_partialInsertionSort_l2, n_partialInsertionSort_b4, n_partialInsertionSort_l4, n_partialInsertionSort_b6, n_partialInsertionSort_l6, n_partialInsertionSort_b0, n_partialInsertionSort_l0, n_partialInsertionSort, n_partitionEqual_b2]
 try rfl
theorem n_partitionEqual_b4 : slices_partitionEqualOrdered_int__b4 = g_partitionEqual_b4 (ltI) := by
 funext
 unfold slices_partitionEqualOrdered_int__b4 g_partitionEqual_b4
 try simp only [less_eq, Option.bind_some, n_insertionSort_b2, n_insertionSort_l2, n_insertionSort_b0, n_insertionSort_l0, n_insertionSort, n_siftDown_b0, n_siftDown_l0, n_siftDown, n_heapSort_b0, n_heapSort_l0, n_heapSort_b2, n_heapSort_l2, n_heapSort, n_breakPatterns_b0, n_breakPatterns_l0, n_breakPatterns, n_order2, n_median, n_medianAdjacent, n_choosePivot, n_reverseRange_b0, n_reverseRange_l0, n_reverseRange, n_partialInsertionSort_b2, n_partialInsertionSort_l2, n_partialInsertionSort_b4, n_partialInsertionSort_l4, n_partialInsertionSort_b6, n_partialInsertionSort_l6, n_partialInsertionSort_b0, n_partialInsertionSort_l0, n_partialInsertionSort, n_partitionEqual_b2, n_partitionEqual_l2]
 try rfl
theorem n_partitionEqual_l4 : slices_partitionEqualOrdered_int__l4 = g_partitionEqual_l4 (ltI) := by
 funext
 unfold slices_partitionEqualOrdered_int__l4 g_partitionEqual_l4
 try simp only [less_eq, Option.bind_some, n_insertionSort_b2, n_insertionSort_l2, n_insertionSort_b0, n_insertionSort_l0, n_insertionSort, n_siftDown_b0, n_siftDown_l0, n_siftDown, n_heapSort_b0, n_heapSort_l0, n_heapSort_b2, n_heapSort_l2, n_heapSort, n_breakPatterns_b0, n_breakPatterns_l0, n_breakPatterns, n_order2, n_median, n_medianAdjacent, n_choosePivot, n_reverseRange_b0, n_reverseRange_l0, n_reverseRange, n_partialInsertionSort_b2, n_partialInsertionSort_l2, n_partialInsertionSort_b4, n_partialInsertionSort_l4, n_partialInsertionSort_b6, n_partialInsertionSort_l6, n_partialInsertionSort_b0, n_partialInsertionSort_l0, n_partialInsertionSort, n_partitionEqual_b2, n_partitionEqual_l2, n_partitionEqual_b4]
 try rfl
theorem n_partitionEqual_b0 : slices_partitionEqualOrdered_int__b0 = g_partitionEqual_b0 (ltI) := by
 funext
 unfold slices_partitionEqualOrdered_int__b0 g_partitionEqual_b0
 try simp only [less_eq, Option.bind_some, n_insertionSort_b2, n_insertionSort_l2, n_insertionSort_b0, n_insertionSort_l0, n_insertionSort, n_siftDown_b0, n_siftDown_l0, n_siftDown, n_heapSort_b0, n_heapSort_l0, n_heapSort_b2, n_heapSort_l2, n_heapSort, n_breakPatterns_b0, n_breakPatterns_l0, n_breakPatterns, n_order2, n_median, n_medianAdjacent, n_choosePivot, n_reverseRange_b0, n_reverseRange_l0, n_reverseRange, n_partialInsertionSort_b2, n_partialInsertionSort_l2, n_partialInsertionSort_b4, n_partialInsertionSort_l4, n_partialInsertionSort_b6, n_partialInsertionSort_l6, n_partialInsertionSort_b0, n_partialInsertionSort_l0, n_partialInsertionSort, n_partitionEqual_b2, n_partitionEqual_l2, n_partitionEqual_b4, n_partitionEqual_l4]
 try rfl
theorem n_partitionEqual_l0 : slices_partitionEqualOrdered_int__l0 = g_partitionEqual_l0 (ltI) := by
 funext
 unfold slices_partitionEqualOrdered_int__l0 g_partitionEqual_l0
 try simp only [less_eq, Option.bind_some, n_insertionSort_b2, n_insertionSort_l2, n_insertionSort_b0, n_insertionSort_l0, n_insertionSort, n_siftDown_b0, n_siftDown_l0, n_siftDown, n_heapSort_b0, n_heapSort_l0, n_heapSort_b2, n_heapSort_l2, n_heapSort, n_breakPatterns_b0, n_breakPatterns_l0, n_breakPatterns, n_order2, n_median, n_medianAdjacent, n_choosePivot, n_reverseRange_b0, n_reverseRange_l0, n_reverseRange, n_partialInsertionSort_b2, n_partialInsertionSort_l2, n_partialInsertionSort_b4, n_partialInsertionSort_l4, n_partialInsertionSort_b6, n_partialInsertionSort_l6, n_partialInsertionSort_b0, n_partialInsertionSort_l0, n_partialInsertionSort, n_partitionEqual_b2, n_partitionEqual_l2, n_partitionEqual_b4, n_partitionEqual_l4, n_partitionEqual_b0]
 try rfl
theorem n_partitionEqual : slices_partitionEqualOrdered_int_ = g_partitionEqual (ltI) := by
 funext
 unfold slices_partitionEqualOrdered_int_ g_partitionEqual
 try simp only [less_eq, Option.bind_some, n_insertionSort_b2, n_insertionSort_l2, n_insertionSort_b0, n_insertionSort_l0, n_insertionSort, n_siftDown_b0, n_siftDown_l0, n_siftDown, n_heapSort_b0, n_heapSort_l0, n_heapSort_b2, n_heapSort_l2, n_heapSort, n_breakPatterns_b0, n_breakPatterns_l0, n_breakPatterns, n_order2, n_median, n_medianAdjacent, n_choosePivot, n_reverseRange_b0, n_reverseRange_l0, n_reverseRange, n_partialInsertionSort_b2, n_partialInsertionSort_l2, n_partialInsertionSort_b4, n_partialInsertionSort_l4, n_partialInsertionSort_b6, n_partialInsertionSort_l6, n_partialInsertionSort_b0, n_partialInsertionSort_l0, n_partialInsertionSort, n_partitionEqual_b2, n_partitionEqual_l2, n_partitionEqual_b4, n_partitionEqual_l4, n_partitionEqual_b0, n_partitionEqual_l0]
 try rfl
theorem n_partition_b0 : slices_partitionOrdered_int__b0 = g_partition_b0 (ltI) := by
 funext
 unfold slices_partitionOrdered_int__b0 g_partition_b0
 try simp only [less_eq, Option.bind_some, n_insertionSort_b2, n_insertionSort_l2, n_insertionSort_b0, n_insertionSort_l0, n_insertionSort, n_siftDown_b0, n_siftDown_l0, n_siftDown, n_heapSort_b0, n_heapSort_l0, n_heapSort_b2, n_heapSort_l2, n_heapSort, n_breakPatterns_b0, n_breakPatterns_l0, n_breakPatterns, n_order2, n_median, n_medianAdjacent, n_choosePivot, n_reverseRange_b0, n_reverseRange_l0, n_reverseRange, n_partialInsertionSort_b2, n_partialInsertionSort_l2, n_partialInsertionSort_b4, n_partialInsertionSort_l4, n_partialInsertionSort_b6, n_partialInsertionSort_l6, n_partialInsertionSort_b0, n_partialInsertionSort_l0, n_partialInsertionSort, n_partitionEqual_b2, n_partitionEqual_l2, n_partitionEqual_b4, n_partitionEqual_l4, n_partitionEqual_b0, n_partitionEqual_l0, n_partitionEqual]
 try rfl
theorem n_partition_l0 : slices_partitionOrdered_int__l0 = g_partition_l0 (ltI) := by
 funext
 unfold slices_partitionOrdered_int__l0 g_partition_l0
 try simp only [less_eq, Option.bind_some, n_insertionSort_b2, n_insertionSort_l2, n_insertionSort_b0, n_insertionSort_l0, n_insertionSort, n_siftDown_b0, n_siftDown_l0, n_siftDown, n_heapSort_b0, n_heapSort_l0, n_heapSort_b2, n_heapSort_l2, n_heapSort, n_breakPatterns_b0, n_breakPatterns_l0, n_breakPatterns, n_order2, n_median, n_medianAdjacent, n_choosePivot, n_reverseRange_b0, n_reverseRange_l0, n_reverseRange, n_partialInsertionSort_b2, n_partialInsertionSort_l2, n_partialInsertionSort_b4, n_partialInsertionSort_l4, n_partialInsertionSort_b6, n_partialInsertionSort_l6, n_partialInsertionSort_b0, n_partialInsertionSort_l0, n_partialInsertionSort, n_partitionEqual_b2, n_partitionEqual_l2, n_partitionEqual_b4, n_partitionEqual_l4, n_partitionEqual_b0, n_partitionEqual_l0, n_partitionEqual, n_partition_b0]
 try rfl
theorem n_partition_b2 : slices_partitionOrdered_int__b2 = g_partition_b2 (ltI) := by
 funext
 unfold slices_partitionOrdered_int__b2 g_partition_b2
 try simp only [less_eq, Option.bind_some, n_insertionSort_b2, n_insertionSort_l2, n_insertionSort_b0, n_insertionSort_l0, n_insertionSort, n_siftDown_b0, n_siftDown_l0, n_siftDown, n_heapSort_b0, n_heapSort_l0, n_heapSort_b2, n_heapSort_l2, n_heapSort, n_breakPatterns_b0, n_breakPatterns_l0, n_breakPatterns, n_order2, n_median, n_medianAdjacent, n_choosePivot, n_reverseRange_b0, n_reverseRange_l0, n_reverseRange, n_partialInsertionSort_b2, n_partialInsertionSort_l2, n_partialInsertionSort_b4, n_partialInsertionSort_l4, n_partialInsertionSort_b6, n_partialInsertionSort_l6, n_partialInsertionSort_b0, n_partialInsertionSort_l0, n_partialInsertionSort, n_partitionEqual_b2, n_partitionEqual_l2, n_partitionEqual_b4, n_partitionEqual_l4, n_partitionEqual_b0, n_partitionEqual_l0, n_partitionEqual, n_partition_b0, n_partition_l0]
 try rfl
theorem n_partition_l2 : slices_partitionOrdered_int__l2 = g_partition_l2 (ltI) := by
 funext
 unfold slices_partitionOrdered_int__l2 g_partition_l2
 try simp only [less_eq, Option.bind_some, n_insertionSort_b2, n_insertionSort_l2, n_insertionSort_b0, n_insertionSort_l0, n_insertionSort, n_siftDown_b0, n_siftDown_l0, n_siftDown, n_heapSort_b0, n_heapSort_l0, n_heapSort_b2, n_heapSort_l2, n_heapSort, n_breakPatterns_b0, n_breakPatterns_l0, n_breakPatterns, n_order2, n_median, n_medianAdjacent, n_choosePivot, n_reverseRange_b0, n_reverseRange_l0, n_reverseRange, n_partialInsertionSort_b2, n_partialInsertionSort_l2, n_partialInsertionSort_b4, n_partialInsertionSort_l4, n_partialInsertionSort_b6, n_partialInsertionSort_l6, n_partialInsertionSort_b0, n_partialInsertionSort_l0, n_partialInsertionSort, n_partitionEqual_b2, n_partitionEqual_l2, n_partitionEqual_b4, n_partitionEqual_l4, n_partitionEqual_b0, n_partitionEqual_l0, n_partitionEqual, n_partition_b0, n_partition_l0, n_partition_b2]
 try rfl
theorem n_partition_b6 : slices_partitionOrdered_int__b6 = g_partition_b6 (ltI) := by
 funext
 unfold slices_partitionOrdered_int__b6 g_partition_b6
 try simp only [less_eq, Option.bind_some, n_insertionSort_b2, n_insertionSort_l2, n_insertionSort_b0, n_insertionSort_l0, n_insertionSort, n_siftDown_b0, n_siftDown_l0, n_siftDown, n_heapSort_b0, n_heapSort_l0, n_heapSort_b2, n_heapSort_l2, n_heapSort, n_breakPatterns_b0, n_breakPatterns_l0, n_breakPatterns, n_order2, n_median, n_medianAdjacent, n_choosePivot, n_reverseRange_b0, n_reverseRange_l0, n_reverseRange, n_partialInsertionSort_b2, n_partialInsertionSort_l2, n_partialInsertionSort_b4, n_partialInsertionSort_l4, n_partialInsertionSort_b6, n_partialInsertionSort_l6, n_partialInsertionSort_b0, n_partialInsertionSort_l0, n_partialInsertionSort, n_partitionEqual_b2, n_partitionEqual_l2, n_partitionEqual_b4, n_partitionEqual_l4, n_partitionEqual_b0, n_partitionEqual_l0, n_partitionEqual, n_partition_b0, n_partition_l0, n_partition_b2, n_partition_l2]
 try rfl
theorem n_partition_l6 : slices_partitionOrdered_int__l6 = g_partition_l6 (ltI) := by
 funext
 unfold slices_partitionOrdered_int__l6 g_partition_l6
 try simp only [less_eq, Option.bind_some, n_insertionSort_b2, n_insertionSort_l2, n_insertionSort_b0, n_insertionSort_l0, n_insertionSort, n_siftDown_b0, n_siftDown_l0, n_siftDown, n_heapSort_b0, n_heapSort_l0, n_heapSort_b2, n_heapSort_l2, n_heapSort, n_breakPatterns_b0, n_breakPatterns_l0, n_breakPatterns, n_order2, n_median, n_medianAdjacent, n_choosePivot, n_reverseRange_b0, n_reverseRange_l0, n_reverseRange, n_partialInsertionSort_b2, n_partialInsertionSort_l2, n_partialInsertionSort_b4, n_partialInsertionSort_l4, n_partialInsertionSort_b6, n_partialInsertionSort_l6, n_partialInsertionSort_b0, n_partialInsertionSort_l0, n_partialInsertionSort, n_partitionEqual_b2, n_partitionEqual_l2, n_partitionEqual_b4, n_partitionEqual_l4, n_partitionEqual_b0, n_partitionEqual_l0, n_partitionEqual, n_partition_b0, n_partition_l0, n_partition_b2, n_partition_l2, n_partition_b6]
 try rfl
theorem n_partition_b8 : slices_partitionOrdered_int__b8 = g_partition_b8 (ltI) := by
 funext
 unfold slices_partitionOrdered_int__b8 g_partition_b8
 try simp only [less_eq, Option.bind_some, n_insertionSort_b2, n_insertionSort_l2, n_insertionSort_b0, n_insertionSort_l0, n_insertionSort, n_siftDown_b0, n_siftDown_l0, n_siftDown, n_heapSort_b0, n_heapSort_l0, n_heapSort_b2, n_heapSort_l2, n_heapSort, n_breakPatterns_b0, n_breakPatterns_l0, n_breakPatterns, n_order2, n_median, n_medianAdjacent, n_choosePivot, n_reverseRange_b0, n_reverseRange_l0, n_reverseRange, n_partialInsertionSort_b2, n_partialInsertionSort_l2, n_partialInsertionSort_b4, n_partialInsertionSort_l4, n_partialInsertionSort_b6, n_partialInsertionSort_l6, n_partialInsertionSort_b0, n_partialInsertionSort_l0, n_partialInsertionSort, n_partitionEqual_b2, n_partitionEqual_l2, n_partitionEqual_b4, n_partitionEqual_l4, n_partitionEqual_b0, n_partitionEqual_l0, n_partitionEqual, n_partition_b0, n_partition_l0, n_partition_b2, n_partition_l2, n_partition_b6, n_partition_l6]
 try rfl
theorem n_partition_l8 : slices_partitionOrdered_int__l8 = g_partition_l8 (ltI) := by
 funext
 unfold slices_partitionOrdered_int__l8 g_partition_l8
 try simp only [less_eq, Option.bind_some, n_insertionSort_b2, n_insertionSort_l2, n_insertionSort_b0, n_insertionSort_l0, n_insertionSort, n_siftDown_b0, n_siftDown_l0, n_siftDown, n_heapSort_b0, n_heapSort_l0, n_heapSort_b2, n_heapSort_l2, n_heapSort, n_breakPatterns_b0, n_breakPatterns_l0, n_breakPatterns, n_order2, n_median, n_medianAdjacent, n_choosePivot, n_reverseRange_b0, n_reverseRange_l0, n_reverseRange, n_partialInsertionSort_b2, n_partialInsertionSort_l2, n_partialInsertionSort_b4, n_partialInsertionSort_l4, n_partialInsertionSort_b6, n_partialInsertionSort_l6, n_partialInsertionSort_b0, n_partialInsertionSort_l0, n_partialInsertionSort, n_partitionEqual_b2, n_partitionEqual_l2, n_partitionEqual_b4, n_partitionEqual_l4, n_partitionEqual_b0, n_partitionEqual_l0, n_partitionEqual, n_partition_b0, n_partition_l0, n_partition_b2, n_partition_l2, n_partition_b6, n_partition_l6, n_partition_b8]
 try rfl
theorem n_partition_b4 : slices_partitionOrdered_int__b4 = g_partition_b4 (ltI) := by
 funext
 unfold slices_partitionOrdered_int__b4 g_partition_b4
 try simp only [less_eq, Option.bind_some, n_insertionSort_b2, n_insertionSort_l2, n_insertionSort_b0, n_insertionSort_l0, n_insertionSort, n_siftDown_b0, n_siftDown_l0, n_siftDown, n_heapSort_b0, n_heapSort_l0, n_heapSort_b2, n_heapSort_l2, n_heapSort, n_breakPatterns_b0, n_breakPatterns_l0, n_breakPatterns, n_order2, n_median, n_medianAdjacent, n_choosePivot, n_reverseRange_b0, n_reverseRange_l0, n_reverseRange, n_partialInsertionSort_b2, n_partialInsertionSort_l2, n_partialInsertionSort_b4, n_partialInsertionSort_l4, n_partialInsertionSort_b6, n_partialInsertionSort_l6, n_partialInsertionSort_b0, n_partialInsertionSort_l0, n_partialInsertionSort, n_partitionEqual_b2, n_partitionEqual_l2, n_partitionEqual_b4, n_partitionEqual_l4, n_partitionEqual_b0, n_partitionEqual_l0, n_partitionEqual, n_partition_b0, n_partition_l0, n_partition_b2, n_partition_l2, n_partition_b6, n_partition_l6, n_partition_b8, n_partition_l8]
 try rfl
theorem n_partition_l4 : slices_partitionOrdered_int__l4 = g_partition_l4 (ltI) := by
 funext
 unfold slices_partitionOrdered_int__l4 g_partition_l4
 try simp only [less_eq, Option.bind_some, n_insertionSort_b2, n_insertionSort_l2, n_insertionSort_b0, n_insertionSort_l0, n_insertionSort, n_siftDown_b0, n_siftDown_l0, n_siftDown, n_heapSort_b0, n_heapSort_l0, n_heapSort_b2, n_heapSort_l2, n_heapSort, n_breakPatterns_b0, n_breakPatterns_l0, n_breakPatterns, n_order2, n_median, n_medianAdjacent, n_choosePivot, n_reverseRange_b0, n_reverseRange_l0, n_reverseRange, n_partialInsertionSort_b2, n_partialInsertionSort_l2, n_partialInsertionSort_b4, n_partialInsertionSort_l4, n_partialInsertionSort_b6, n_partialInsertionSort_l6, n_partialInsertionSort_b0, n_partialInsertionSort_l0, n_partialInsertionSort, n_partitionEqual_b2, n_partitionEqual_l2, n_partitionEqual_b4, n_partitionEqual_l4, n_partitionEqual_b0, n_partitionEqual_l0, n_partitionEqual, n_partition_b0, n_partition_l0, n_partition_b2, n_partition_l2, n_partition_b6, n_partition_l6, n_partition_b8, n_partition_l8, n_partition_b4]
 try rfl
theorem n_partition : slices_partitionOrdered_int_ = g_partition (ltI) := by
 funext
 unfold slices_partitionOrdered_int_ g_partition
 try simp only [less_eq, Option.bind_some, n_insertionSort_b2, n_insertionSort_l2, n_insertionSort_b0, n_insertionSort_l0, n_insertionSort, n_siftDown_b0, n_siftDown_l0, n_siftDown, n_heapSort_b0, n_heapSort_l0, n_heapSort_b2, n_heapSort_l2, n_heapSort, n_breakPatterns_b0, n_breakPatterns_l0, n_breakPatterns, n_order2, n_median, n_medianAdjacent, n_choosePivot, n_reverseRange_b0, n_reverseRange_l0, n_reverseRange, n_partialInsertionSort_b2, n_partialInsertionSort_l2, n_partialInsertionSort_b4, n_partialInsertionSort_l4, n_partialInsertionSort_b6, n_partialInsertionSort_l6, n_partialInsertionSort_b0, n_partialInsertionSort_l0, n_partialInsertionSort, n_partitionEqual_b2, n_partitionEqual_l2, n_partitionEqual_b4, n_partitionEqual_l4, n_partitionEqual_b0, n_partitionEqual_l0, n_partitionEqual, n_partition_b0, n_partition_l0, n_partition_b2, n_partition_l2, n_partition_b6, n_partition_l6, n_partition_b8, n_partition_l8, n_partition_b4, n_partition_l4]
 try rfl
theorem n_pdqsort_b0 : slices_pdqsortOrdered_int__b0 = g_pdqsort_b0 (ltI) := by
 funext
 unfold slices_pdqsortOrdered_int__b0 g_pdqsort_b0
 try simp only [less_eq, Option.bind_some, n_insertionSort_b2, n_insertionSort_l2, n_insertionSort_b0, n_insertionSort_l0, n_insertionSort, n_siftDown_b0, n_siftDown_l0, n_siftDown, n_heapSort_b0, n_heapSort_l0, n_heapSort_b2, n_heapSort_l2, n_heapSort, n_breakPatterns_b0, n_breakPatterns_l0, n_breakPatterns, n_order2, n_median, n_medianAdjacent, n_choosePivot, n_reverseRange_b0, n_reverseRange_l0, n_reverseRange, n_partialInsertionSort_b2, n_partialInsertionSort_l2, n_partialInsertionSort_b4, n_partialInsertionSort_l4, n_partialInsertionSort_b6, n_partialInsertionSort_l6, n_partialInsertionSort_b0, n_partialInsertionSort_l0, n_partialInsertionSort, n_partitionEqual_b2, n_partitionEqual_l2, n_partitionEqual_b4, n_partitionEqual_l4, n_partitionEqual_b0, n_partitionEqual_l0, n_partitionEqual, n_partition_b0, n_partition_l0, n_partition_b2, n_partition_l2, n_partition_b6, n_partition_l6, n_partition_b8, n_partition_l8, n_partition_b4, n_partition_l4, n_partition]
 try rfl
theorem n_pdqsort_l0 : slices_pdqsortOrdered_int__l0 = g_pdqsort_l0 (ltI) := by
 funext
 unfold slices_pdqsortOrdered_int__l0 g_pdqsort_l0
 try simp only [less_eq, Option.bind_some, n_insertionSort_b2, n_insertionSort_l2, n_insertionSort_b0, n_insertionSort_l0, n_insertionSort, n_siftDown_b0, n_siftDown_l0, n_siftDown, n_heapSort_b0, n_heapSort_l0, n_heapSort_b2, n_heapSort_l2, n_heapSort, n_breakPatterns_b0, n_breakPatterns_l0, n_breakPatterns, n_order2, n_median, n_medianAdjacent, n_choosePivot, n_reverseRange_b0, n_reverseRange_l0, n_reverseRange, n_partialInsertionSort_b2, n_partialInsertionSort_l2, n_partialInsertionSort_b4, n_partialInsertionSort_l4, n_partialInsertionSort_b6, n_partialInsertionSort_l6, n_partialInsertionSort_b0, n_partialInsertionSort_l0, n_partialInsertionSort, n_partitionEqual_b2, n_partitionEqual_l2, n_partitionEqual_b4, n_partitionEqual_l4, n_partitionEqual_b0, n_partitionEqual_l0, n_partitionEqual, n_partition_b0, n_partition_l0, n_partition_b2, n_partition_l2, n_partition_b6, n_partition_l6, n_partition_b8, n_partition_l8, n_partition_b4, n_partition_l4, n_partition, n_pdqsort_b0]
 try rfl
theorem n_pdqsort_r : slices_pdqsortOrdered_int__r = g_pdqsort_r (ltI) := by
 funext
 unfold slices_pdqsortOrdered_int__r g_pdqsort_r
 try simp only [less_eq, Option.bind_some, n_insertionSort_b2, n_insertionSort_l2, n_insertionSort_b0, n_insertionSort_l0, n_insertionSort, n_siftDown_b0, n_siftDown_l0, n_siftDown, n_heapSort_b0, n_heapSort_l0, n_heapSort_b2, n_heapSort_l2, n_heapSort, n_breakPatterns_b0, n_breakPatterns_l0, n_breakPatterns, n_order2, n_median, n_medianAdjacent, n_choosePivot, n_reverseRange_b0, n_reverseRange_l0, n_reverseRange, n_partialInsertionSort_b2, n_partialInsertionSort_l2, n_partialInsertionSort_b4, n_partialInsertionSort_l4, n_partialInsertionSort_b6, n_partialInsertionSort_l6, n_partialInsertionSort_b0, n_partialInsertionSort_l0, n_partialInsertionSort, n_partitionEqual_b2, n_partitionEqual_l2, n_partitionEqual_b4, n_partitionEqual_l4, n_partitionEqual_b0, n_partitionEqual_l0, n_partitionEqual, n_partition_b0, n_partition_l0, n_partition_b2, n_partition_l2, n_partition_b6, n_partition_l6, n_partition_b8, n_partition_l8, n_partition_b4, n_partition_l4, n_partition, n_pdqsort_b0, n_pdqsort_l0]
 try rfl
theorem n_pdqsort_f : ∀ n, slices_pdqsortOrdered_int__f n = g_pdqsort_f (ltI) n
 | 0 => rfl
 | n + 1 => by
  unfold slices_pdqsortOrdered_int__f g_pdqsort_f
  rw [n_pdqsort_f n, n_pdqsort_r]
theorem n_pdqsort : slices_pdqsortOrdered_int_ = g_pdqsort (ltI) := by
 funext
 unfold slices_pdqsortOrdered_int_ g_pdqsort
 try simp only [less_eq, Option.bind_some, n_insertionSort_b2, n_insertionSort_l2, n_insertionSort_b0, n_insertionSort_l0, n_insertionSort, n_siftDown_b0, n_siftDown_l0, n_siftDown, n_heapSort_b0, n_heapSort_l0, n_heapSort_b2, n_heapSort_l2, n_heapSort, n_breakPatterns_b0, n_breakPatterns_l0, n_breakPatterns, n_order2, n_median, n_medianAdjacent, n_choosePivot, n_reverseRange_b0, n_reverseRange_l0, n_reverseRange, n_partialInsertionSort_b2, n_partialInsertionSort_l2, n_partialInsertionSort_b4, n_partialInsertionSort_l4, n_partialInsertionSort_b6, n_partialInsertionSort_l6, n_partialInsertionSort_b0, n_partialInsertionSort_l0, n_partialInsertionSort, n_partitionEqual_b2, n_partitionEqual_l2, n_partitionEqual_b4, n_partitionEqual_l4, n_partitionEqual_b0, n_partitionEqual_l0, n_partitionEqual, n_partition_b0, n_partition_l0, n_partition_b2, n_partition_l2, n_partition_b6, n_partition_l6, n_partition_b8, n_partition_l8, n_partition_b4, n_partition_l4, n_partition, n_pdqsort_b0, n_pdqsort_l0, n_pdqsort_r, n_pdqsort_f]
 try rfl
end Go.Fn
set_option linter.unusedSimpArgs false
set_option linter.unusedVariables false
namespace Go.Fn
open Go.R Go.Sort
theorem ltI_swo : SWO ltI := ⟨fun x => decide_eq_false (by omega), fun x y z h1 h2 => decide_eq_true (by have := of_decide_eq_true h1; have := of_decide_eq_true h2; omega), fun x y z h1 h2 => decide_eq_false (by have := of_decide_eq_false h1; have := of_decide_eq_false h2; omega)⟩
theorem sortI_ok (l : List Int) (hl : l.length ≤ 255) : ∃ r : List Int, slices_Sort___int_int_ l = some (r, ()) ∧ r.Perm l ∧ ∀ i j, i < j → j < r.length → r.getD i 0 ≤ r.getD j 0 := by
 obtain ⟨L, hL⟩ := len_ok hl
 obtain ⟨r, h1, h2, h3⟩ := pdq_all ltI_swo l L hl
 refine ⟨r, ?_, h2, fun i j hij hj => ?_⟩
 ·unfold slices_Sort___int_int_
  rw [n_pdqsort, show rConv .u64 (rLen l) = (l.length : Int) from convU (by omega), hL, show rLen l = (l.length : Int) from rfl]
  simp only [Option.bind_some, h1]
 ·have := of_decide_eq_false (h3 i j hij hj)
  have e1 : r.getD i default = r.getD i 0 := rfl
  have e2 : r.getD j default = r.getD j 0 := rfl
  rw [e1, e2] at this
  omega
theorem compact_mem (l : List Int) (x : Int) : x ∈ Lib.compact l ↔ x ∈ l := by
 have key : ∀ j, j < l.length → l.toArray[j]! ∈ Lib.compact l := by
  intro j
  induction j with
  | zero =>
   intro hj
   unfold Lib.compact Lib.compactUpTo
   exact List.mem_map.2 ⟨0, List.mem_filter.2 ⟨List.mem_range.2 hj, by simp [Lib.keeps]⟩, rfl⟩
  | succ j ih =>
   intro hj
   by_cases h : l.toArray[j + 1]! = l.toArray[j]!
   ·rw [h]; exact ih (by omega)
   ·unfold Lib.compact Lib.compactUpTo
    exact List.mem_map.2 ⟨j + 1, List.mem_filter.2 ⟨List.mem_range.2 hj, Lib.keeps_pos h⟩, rfl⟩
 constructor
 ·intro h
  unfold Lib.compact Lib.compactUpTo at h
  obtain ⟨j, hj, rfl⟩ := List.mem_map.1 h
  have hj := List.mem_range.1 (List.mem_filter.1 hj).1
  show l.toArray[j]! ∈ l
  rw [getElem!_pos _ j (by simpa using hj), List.getElem_toArray]
  exact List.getElem_mem _
 ·intro h
  obtain ⟨j, hj, rfl⟩ := List.getElem_of_mem h
  have := key j hj
  rwa [getElem!_pos _ j (by simpa using hj), List.getElem_toArray] at this
theorem compact_lt (l : List Int) (hs : ∀ i j, i < j → j < l.length → l.getD i 0 ≤ l.getD j 0) : (Lib.compact l).Pairwise (fun x y => x < y) := by
 have ga : ∀ i, i < l.length → l.toArray[i]! = l.getD i 0 := fun i hi => by
  rw [getElem!_pos _ i (by simpa using hi), List.getElem_toArray, List.getD_eq_getElem?_getD, List.getElem?_eq_getElem hi]; rfl
 unfold Lib.compact Lib.compactUpTo
 rw [List.pairwise_map]
 refine List.Pairwise.imp_of_mem (fun {i j} hi hj h => ?_) (List.pairwise_lt_range.filter _)
 have hj1 := List.mem_range.1 (List.mem_filter.1 hj).1
 have hj2 := (List.mem_filter.1 hj).2
 have hk : l.toArray[j]! ≠ l.toArray[j - 1]! := by
  unfold Lib.keeps at hj2
  have := of_decide_eq_true hj2
  exact this.resolve_left (by omega)
 show l.toArray[i]! < l.toArray[j]!
 rw [ga j hj1, ga (j - 1) (by omega)] at hk
 rw [ga i (by omega), ga j hj1]
 have h1 := hs (j - 1) j (by omega) hj1
 by_cases e : i = j - 1
 ·subst e; omega
 ·have h2 := hs i (j - 1) (by omega) (by omega)
  omega
noncomputable def ParIs (l : List Ev) (b : Int) (r : List Int) : Prop := (∀ x, x ∈ r ↔ (1 ≤ x ∧ x < b ∧ ∃ e, e ∈ l ∧ e.2.2.2.2.1 = x)) ∧ r.Pairwise (fun x y => x < y)
theorem parIs_ext {l : List Ev} {b : Int} {r s : List Int} (h1 : ParIs l b r) (h2 : ParIs l b s) : r = s :=
 sorted_ext (lt := fun x y : Int => x < y) (fun x h => by omega) (fun x y h => by omega) h1.2 h2.2 fun x => by rw [h1.1, h2.1]
theorem specP_in (l : List Ev) (p : Int) (out : List Int) (hl : l.length ≤ 60) (ho : out.length ≤ 1000) : ∃ o, spec_ParcelsIn_l2 (l, p, ()) (out, (0 : Int), ()) = some (.inl (o, ())) ∧ (((∃ e, e ∈ l ∧ e.2.2.2.2.1 = p) ∧ o = out ++ [p]) ∨ ((¬ ∃ e, e ∈ l ∧ e.2.2.2.2.1 = p) ∧ o = out)) := by
 have hsm : rSmall (out ++ [p]) = true := small_of (by simp; omega)
 have hap : List.append (α := Int) out (List.append (α := Int) ([] : List Int) [p]) = out ++ [p] := rfl
 obtain ⟨y, hy, hc⟩ := loop_find (body := spec_ParcelsIn_b2 (l, p, ())) (fun n => (out, (n : Int), ())) l.length (by omega) (fun n => !decide ((l.getD n zIIIIIII).2.2.2.2.1 = p)) (Sum.inl (out, ())) (fun n => Sum.inl (out ++ [p], ())) (fun n hn => by
   have he : rCmp .eql (l.getD n zIIIIIII).2.2.2.2.1 p = decide ((l.getD n zIIIIIII).2.2.2.2.1 = p) := by simp [rCmp, Bool.beq_eq_decide_eq]
   unfold spec_ParcelsIn_b2
   simp only [lss_len, hn, decide_true, cond_true, inR_nat, get_nat, he, hap, hsm, succ64 (n := n) (by omega)]
   cases decide ((l.getD n zIIIIIII).2.2.2.2.1 = p) <;> rfl) (by
   unfold spec_ParcelsIn_b2
   simp only [lss_len, Nat.lt_irrefl, decide_false, cond_false])
 unfold spec_ParcelsIn_l2
 rw [show (0 : Int) = ((0 : Nat) : Int) from rfl, hy]
 rcases hc with ⟨hall, rfl⟩ | ⟨_, n, hn, rfl, hk⟩
 ·refine ⟨out, rfl, .inr ⟨?_, rfl⟩⟩
  rintro ⟨e, he, hp⟩
  obtain ⟨m, hm, rfl⟩ := List.getElem_of_mem he
  have := (allFrom_iff _ _).1 hall m (Nat.zero_le _) (by omega)
  rw [List.getD_eq_getElem?_getD, List.getElem?_eq_getElem hm, Bool.not_eq_true'] at this
  exact of_decide_eq_false this hp
 ·refine ⟨out ++ [p], rfl, .inl ⟨⟨_, getD_mem hn zIIIIIII, ?_⟩, rfl⟩⟩
  rw [Bool.not_eq_false'] at hk
  exact of_decide_eq_true hk
theorem specP_loop (l : List Ev) (hj : jok l = true) : ∀ (s p : Nat) (out : List Int) (n : Nat), 1000 - p ≤ s → 1 ≤ p → p ≤ 1000 → out.length ≤ p → ParIs l (p : Int) out → s < n →
  ∃ r, iter (spec_ParcelsIn_b0 (l, ())) n (out, (p : Int), ()) = some (.inl (r, ())) ∧ ParIs l 1000 r ∧ r.length ≤ 1000 := by
 intro s
 induction s with
 | zero =>
  intro p out n hs h1 hp hl hi hn
  obtain ⟨n, rfl⟩ : ∃ m, n = m + 1 := ⟨n - 1, by omega⟩
  have : p = 1000 := by omega
  subst this
  refine ⟨out, iter_done ?_, hi, hl⟩
  unfold spec_ParcelsIn_b0
  simp only [show rCmp .leq ((1000 : Nat) : Int) (999 : Int) = false from rfl, cond_false]
 | succ s ih =>
  intro p out n hs h1 hp hl hi hn
  obtain ⟨n, rfl⟩ : ∃ m, n = m + 1 := ⟨n - 1, by omega⟩
  by_cases h : p ≤ 999
  ·obtain ⟨o, o1, o2⟩ := specP_in l (p : Int) out (jok_len hj) (by omega)
   have hle : rCmp .leq (p : Int) (999 : Int) = true := (leS p 999).trans (decide_eq_true h)
   have hpi : ParIs l ((p + 1 : Nat) : Int) o ∧ o.length ≤ p + 1 := by
    rcases o2 with ⟨he, rfl⟩ | ⟨he, rfl⟩
    ·refine ⟨⟨fun x => ?_, ?_⟩, by rw [List.length_append]; simp; omega⟩
     ·rw [List.mem_append, List.mem_singleton, hi.1]
      constructor
      ·rintro (⟨q1, q2, q3⟩ | rfl)
       ·exact ⟨q1, by omega, q3⟩
       ·exact ⟨by omega, by omega, he⟩
      ·rintro ⟨q1, q2, q3⟩
       by_cases e : x = (p : Int)
       ·exact .inr e
       ·exact .inl ⟨q1, by omega, q3⟩
     ·rw [List.pairwise_append]
      refine ⟨hi.2, List.pairwise_singleton _ _, fun x hx y hy => ?_⟩
      rw [List.mem_singleton] at hy
      have := ((hi.1 x).1 hx).2.1
      omega
    ·refine ⟨⟨fun x => ?_, hi.2⟩, by omega⟩
     rw [hi.1]
     constructor
     ·rintro ⟨q1, q2, q3⟩; exact ⟨q1, by omega, q3⟩
     ·rintro ⟨q1, q2, q3⟩
      by_cases e : x = (p : Int)
      ·subst e; exact absurd q3 he
      ·exact ⟨q1, by omega, q3⟩
   obtain ⟨r, r1, r2⟩ := ih (p + 1) o n (by omega) (by omega) (by omega) hpi.2 hpi.1 (by omega)
   refine ⟨r, ?_, r2⟩
   rw [← r1]
   refine iter_next ?_
   unfold spec_ParcelsIn_b0
   simp only [hle, cond_true, specJ_eq, hj, Option.bind_some, o1, Sum.elim_inl, succ64 (n := p) (by omega)]
  ·have : p = 1000 := by omega
   subst this
   refine ⟨out, iter_done ?_, hi, hl⟩
   unfold spec_ParcelsIn_b0
   simp only [show rCmp .leq ((1000 : Nat) : Int) (999 : Int) = false from rfl, cond_false]
theorem parcels_both (l : List Ev) : ∃ r, spec_ParcelsIn l = some (r, ()) ∧ impl_ParcelsIn l = some (r, ()) ∧ r.length ≤ 1000 ∧ (jok l = true → ParIs l 1000 r) ∧ (jok l = false → r = []) := by
 cases hj : jok l with
 | false =>
  refine ⟨[], ?_, ?_, Nat.zero_le _, (fun h => by cases h), fun _ => rfl⟩
  ·have it : iter (spec_ParcelsIn_b0 (l, ())) 1 ([], (1 : Int), ()) = some (.inl ([], ())) := by
    refine iter_done ?_
    unfold spec_ParcelsIn_b0
    simp only [specJ_eq, hj, Option.bind_some, cond_false]
    rfl
   unfold spec_ParcelsIn spec_ParcelsIn_l0
   rw [iter_mono it (Nat.le_of_lt (lt_big (by omega)))]
   rfl
  ·unfold impl_ParcelsIn
   rw [implJ_eq, hj]
   rfl
 | true =>
  have h60 := jok_len hj
  obtain ⟨r, r1, r2, r3⟩ := specP_loop l hj 1000 1 [] big (by omega) (by omega) (by omega) (Nat.zero_le _) ⟨fun x => ⟨fun h => absurd h List.not_mem_nil, fun h => by omega⟩, List.Pairwise.nil⟩ (lt_big (by omega))
  have hloop : impl_ParcelsIn_l0 (l, rLen l, ()) ([], (0 : Int), ()) = some (.inl (l.foldl (fun out e => out ++ [e.2.2.2.2.1]) [], ())) := by
   refine (loop_fold (body := impl_ParcelsIn_b0 (l, rLen l, ())) l zIIIIIII (by omega) (fun out e => out ++ [e.2.2.2.2.1]) (fun out n => (out, (n : Int), ())) (fun n out => out.length ≤ n) (fun out => Sum.inl (out, ())) (fun n out hn ho => ⟨?_, by simp; omega⟩) (fun out ho => ?_) [] (Nat.le_refl _)).1
   ·have hsm : rSmall (out ++ [(l.getD n zIIIIIII).2.2.2.2.1]) = true := small_of (by simp; omega)
    have hap : List.append (α := Int) out (List.append (α := Int) ([] : List Int) [(l.getD n zIIIIIII).2.2.2.2.1]) = out ++ [(l.getD n zIIIIIII).2.2.2.2.1] := rfl
    unfold impl_ParcelsIn_b0
    simp only [lss_len, hn, decide_true, cond_true, inR_nat, get_nat, hap, hsm, succ64 (n := n) (by omega)]
   ·unfold impl_ParcelsIn_b0
    simp only [lss_len, Nat.lt_irrefl, decide_false, cond_false]
  have hfold : ∀ (m : List Ev) (out : List Int), m.foldl (fun out e => out ++ [e.2.2.2.2.1]) out = out ++ m.map (fun e => e.2.2.2.2.1) := by
   intro m
   induction m with
   | nil => intro out; simp
   | cons e m ih => intro out; rw [List.foldl_cons, ih]; simp
  rw [hfold, List.nil_append] at hloop
  obtain ⟨z, z1, z2, z3⟩ := sortI_ok (l.map fun e => e.2.2.2.2.1) (by rw [List.length_map]; omega)
  have hzl : z.length ≤ 60 := by rw [z2.length_eq, List.length_map]; exact h60
  have hzs : rSmall z = true := small_of (by omega)
  have hpar : ParIs l 1000 (Lib.compact z) := by
   refine ⟨fun x => ?_, compact_lt z z3⟩
   rw [compact_mem, z2.mem_iff, List.mem_map]
   constructor
   ·rintro ⟨e, he, rfl⟩
    have := (evOk_iff.1 (jok_all hj e he)).2.2.2.2.1
    exact ⟨by omega, by omega, e, he, rfl⟩
   ·rintro ⟨_, _, e, he, h⟩
    exact ⟨e, he, h⟩
  have heq : Lib.compact z = r := parIs_ext hpar r2
  refine ⟨r, ?_, ?_, r3, fun _ => r2, fun h => by cases h⟩
  ·unfold spec_ParcelsIn spec_ParcelsIn_l0
   rw [show (1 : Int) = ((1 : Nat) : Int) from rfl, r1]
   rfl
  ·unfold impl_ParcelsIn
   simp only [implJ_eq, hj, Option.bind_some, Bool.not_true, cond_false, hloop, Sum.elim_inl, z1]
   unfold slices_Compact___int_int_
   rw [hzs, heq]
   rfl
end Go.Fn
set_option linter.unusedVariables false
namespace Go.Fn
open Go.R
noncomputable def spec_ClashesIn_b0 (k : (List (Int × Int × Int × Int × Int × Int × Int)) × Unit) (x : Int × (List (Int)) × Int × Unit) : Option ((Int × (List (Int)) × Int × Unit) ⊕ (Int × Unit ⊕ Empty)) :=
 (bif (rCmp .lss x.2.2.1 (rLen x.2.1)) then (bif (rInR x.2.1 x.2.2.1) then ((spec_FateOf k.1 (rGet zI x.2.1 x.2.2.1)).bind fun y0 => some (.inl ((rArith .add .i64 x.1 y0.2.2.2.2.2.2.1), x.2.1, (rArith .add .i64 x.2.2.1 (1 : Int)), ()))) else none) else some (.inr (.inl (x.1, ()))))
noncomputable def spec_ClashesIn_l0 (k : (List (Int × Int × Int × Int × Int × Int × Int)) × Unit) (x : Int × (List (Int)) × Int × Unit) : Option (Int × Unit ⊕ Empty) := iter (spec_ClashesIn_b0 k) big x
noncomputable def spec_ClashesIn (a0 : (List (Int × Int × Int × Int × Int × Int × Int))) : Option (Int × Unit) :=
 ((spec_ParcelsIn a0).bind fun y0 => ((spec_ClashesIn_l0 (a0, ()) ((0 : Int), y0.1, (0 : Int), ())).bind fun q1 => (Sum.elim (fun y2 => some (y2.1, ())) (fun q3 => (Empty.elim q3)) q1)))
noncomputable def impl_ClashesIn_b0 (k : (List (Int × Int × Int × Int × Int × Int × Int)) × Int × Unit) (x : Int × (List (Int)) × Int × Unit) : Option ((Int × (List (Int)) × Int × Unit) ⊕ (Int × Unit ⊕ Empty)) :=
 (bif (rCmp .lss x.2.2.1 k.2.1) then (bif (rInR x.2.1 x.2.2.1) then ((impl_FateOf k.1 (rGet zI x.2.1 x.2.2.1)).bind fun y0 => some (.inl ((rArith .add .i64 x.1 y0.2.2.2.2.2.2.1), x.2.1, (rArith .add .i64 x.2.2.1 (1 : Int)), ()))) else none) else some (.inr (.inl (x.1, ()))))
noncomputable def impl_ClashesIn_l0 (k : (List (Int × Int × Int × Int × Int × Int × Int)) × Int × Unit) (x : Int × (List (Int)) × Int × Unit) : Option (Int × Unit ⊕ Empty) := iter (impl_ClashesIn_b0 k) big x
noncomputable def impl_ClashesIn (a0 : (List (Int × Int × Int × Int × Int × Int × Int))) : Option (Int × Unit) :=
 ((impl_ParcelsIn a0).bind fun y0 => ((impl_ClashesIn_l0 (a0, (rLen y0.1), ()) ((0 : Int), y0.1, (0 : Int), ())).bind fun q1 => (Sum.elim (fun y2 => some (y2.1, ())) (fun q3 => (Empty.elim q3)) q1)))
noncomputable def laws_FnExactClashesIn (a0 : (List (Int × Int × Int × Int × Int × Int × Int))) : Option (Bool × Unit) :=
 ((laws_szEventS a0 (1048576 : Int)).bind fun y0 => (bif (rCmp .lss y0.1 (0 : Int)) then some (true, ()) else ((laws_toEventS a0).bind fun y1 => ((spec_ClashesIn y1.1).bind fun y2 => ((laws_toEventS a0).bind fun y3 => ((impl_ClashesIn y3.1).bind fun y4 => (bif (rCmp .neq y4.1 y2.1) then some (false, ()) else ((laws_toEventS a0).bind fun y5 => ((laws_eqEventS y3.1 y5.1).bind fun y6 => (bif (Bool.not y6.1) then some (false, ()) else some (true, ())))))))))))
end Go.Fn
set_option linter.unusedVariables false
set_option linter.unusedSimpArgs false
namespace Go.Fn
open Go.R
noncomputable def clOf (l : List Ev) (p : Int) : Int := match spec_FateOf l p with | some y => y.2.2.2.2.2.2.1 | none => 0
theorem cl_both (l : List Ev) (p : Int) : ∃ y y', spec_FateOf l p = some y ∧ impl_FateOf l p = some y' ∧ y.2.2.2.2.2.2.1 = clOf l p ∧ y'.2.2.2.2.2.2.1 = clOf l p := by
 obtain ⟨g, g1, g2⟩ := fate_both l p
 refine ⟨_, _, g1, g2, ?_, ?_⟩ <;> (unfold clOf; rw [g1])
theorem clashes_both (l : List Ev) : ∃ n, spec_ClashesIn l = some (n, ()) ∧ impl_ClashesIn l = some (n, ()) := by
 obtain ⟨r, r1, r2, r3, _, _⟩ := parcels_both l
 have hs := (loop_fold (body := spec_ClashesIn_b0 (l, ())) r zI (by omega) (fun acc p => rArith .add .i64 acc (clOf l p)) (fun acc n => (acc, r, (n : Int), ())) (fun _ _ => True) (fun acc => .inl (acc, ())) (fun n acc hn _ => ⟨by
   obtain ⟨y, y', h1, _, h3, _⟩ := cl_both l (r.getD n zI)
   unfold spec_ClashesIn_b0
   simp only [lss_len, inR_nat, hn, decide_true, cond_true, get_nat, h1, Option.bind_some, h3, succ64 (n := n) (by omega)], trivial⟩) (fun acc _ => by
   unfold spec_ClashesIn_b0
   simp only [lss_len, Nat.lt_irrefl, decide_false, cond_false]) 0 trivial).1
 have hi := (loop_fold (body := impl_ClashesIn_b0 (l, rLen r, ())) r zI (by omega) (fun acc p => rArith .add .i64 acc (clOf l p)) (fun acc n => (acc, r, (n : Int), ())) (fun _ _ => True) (fun acc => .inl (acc, ())) (fun n acc hn _ => ⟨by
   obtain ⟨y, y', _, h2, _, h4⟩ := cl_both l (r.getD n zI)
   unfold impl_ClashesIn_b0
   simp only [lss_len, inR_nat, hn, decide_true, cond_true, get_nat, h2, Option.bind_some, h4, succ64 (n := n) (by omega)], trivial⟩) (fun acc _ => by
   unfold impl_ClashesIn_b0
   simp only [lss_len, Nat.lt_irrefl, decide_false, cond_false]) 0 trivial).1
 refine ⟨r.foldl (fun acc p => rArith .add .i64 acc (clOf l p)) 0, ?_, ?_⟩
 ·unfold spec_ClashesIn spec_ClashesIn_l0
  rw [r1]
  simp only [Option.bind_some]
  have hs' : iter (spec_ClashesIn_b0 (l, ())) big (0, r, 0, ()) = _ := hs
  rw [hs']
  rfl
 ·unfold impl_ClashesIn impl_ClashesIn_l0
  rw [r2]
  simp only [Option.bind_some]
  have hi' : iter (impl_ClashesIn_b0 (l, rLen r, ())) big (0, r, 0, ()) = _ := hi
  rw [hi']
  rfl
theorem clashesIn_true (l : List Ev) (hl0 : l.length ≤ 9223372036854775807) : laws_FnExactClashesIn l = some (true, ()) := by
 unfold laws_FnExactClashesIn
 rw [szEvS_eq l _ hl0 (by decide) (by decide)]
 simp only [Option.bind_some]
 cases hd : decide ((1048576 : Int) < (l.length : Int)) with
 | true => rfl
 | false =>
  have hd := of_decide_eq_false hd
  have hl : l.length ≤ 1073741824 := by omega
  simp only [cond_false]
  rw [neg_of (by omega)]
  obtain ⟨n, n1, n2⟩ := clashes_both l
  simp only [cond_false, toEvS_eq l hl, Option.bind_some, n1, n2, neq_self, eqEvS_self l hl, Bool.not_true]
end Go.Fn
