import Derived.Test.YtgiakgamcepemaaFnG
import Derived.Test.YtgiakgamcepemaaPH
/- Plain functions that stand for Go functions, and what they answer: PI. Conditions: none. -/
set_option autoImplicit false
set_option linter.unusedVariables false
set_option linter.unusedSimpArgs false
/-! PI: networks: copies, comparisons, measures. -/
set_option linter.unusedSimpArgs false
namespace Go.Fn
open Go.R
theorem toParcel_eq (a0 a1 a2 a3 a4 a5 a6 a7 a8 a9 a10 a11 a12 : Int) : laws_toParcel a0 a1 a2 a3 a4 a5 a6 a7 a8 a9 a10 a11 a12 = some (a0, a1, a2, a3, a4, a5, a6, a7, a8, a9, a10, a11, a12, ()) := rfl
theorem eqLock_self (a0 a1 a2 a3 a4 : Int) : laws_eqLock a0 a1 a2 a3 a4 a0 a1 a2 a3 a4 = some (true, ()) := by
  unfold laws_eqLock
  simp only [neq_self, cond_false]
theorem eqParcel_self (a0 a1 a2 a3 a4 a5 a6 a7 a8 a9 a10 a11 a12 : Int) : laws_eqParcel a0 a1 a2 a3 a4 a5 a6 a7 a8 a9 a10 a11 a12 a0 a1 a2 a3 a4 a5 a6 a7 a8 a9 a10 a11 a12 = some (true, ()) := by
  unfold laws_eqParcel
  simp only [neq_self, cond_false, eqLock_self, Option.bind_some, Bool.not_true]
theorem toBox_eq (a0 : Int) (a1 : Int) (a2 : Int) (a3 : Bool) : laws_toBox a0 a1 a2 a3 = some (a0, a1, a2, a3, ()) := rfl
theorem toBoxS_eq (l : List (Int × Int × Int × Bool)) (hl : l.length ≤ 1073741824) : laws_toBoxS l = some (l, ()) := by
  unfold laws_toBoxS
  rw [repOk_len hl]
  have hloop : laws_toBoxS_l0 (l, ()) (List.replicate l.length (0, 0, 0, false), (0 : Int), ()) = some (Sum.inl (l, ())) := by
    have := loop_end (body := laws_toBoxS_b0 (l, ())) (fun n => (l.take n ++ List.replicate (l.length - n) (0, 0, 0, false), (n : Int), ())) l.length (by omega) (Sum.inl (l, ())) (fun n hn => ?_) ?_
    · unfold laws_toBoxS_l0; simpa using this
    · unfold laws_toBoxS_b0
      have hx : n < (l.take n ++ List.replicate (l.length - n) ((0, 0, 0, false) : Int × Int × Int × Bool)).length := by rw [fill_len _ _ (Nat.le_of_lt hn)]; exact hn
      simp only [lss_len, inR_nat, hn, hx, decide_true, cond_true, get_nat, toBox_eq, Option.bind_some, lets_def, succ64 (n := n) (by omega), put_nat]
      rw [← set_fill l (0, 0, 0, false) hn, getD_lt hn zIIIB (0, 0, 0, false)]
    · unfold laws_toBoxS_b0
      simp only [lss_len, Nat.lt_irrefl, decide_false, cond_false, Nat.sub_self, List.replicate_zero, List.append_nil, List.take_length]
  have hr : rRep (rLen l) (((0 : Int), (0 : Int), (0 : Int), false)) = List.replicate l.length (0, 0, 0, false) := rep_nat _ _
  rw [hr]
  simp only [cond_true]
  rw [hloop]
  rfl
theorem eqBox_self (a0 : Int) (a1 : Int) (a2 : Int) (a3 : Bool) : laws_eqBox a0 a1 a2 a3 a0 a1 a2 a3 = some (true, ()) := by
  unfold laws_eqBox
  simp only [neq_self, rBeq_self, Bool.not_true, cond_false]
theorem eqBoxS_self (l : List (Int × Int × Int × Bool)) (hl : l.length ≤ 1073741824) : laws_eqBoxS l l = some (true, ()) := by
  unfold laws_eqBoxS
  rw [neq_self]
  have hloop : laws_eqBoxS_l0 (l, l, ()) ((0 : Int), ()) = some (Sum.inr (Sum.inl ())) := by
    refine loop_end (fun n => ((n : Int), ())) l.length (by omega) _ (fun n hn => ?_) ?_
    · unfold laws_eqBoxS_b0
      simp only [lss_len, inR_nat, hn, decide_true, cond_true, eqBox_self, Option.bind_some, succ64 (n := n) (by omega)]
      rfl
    · unfold laws_eqBoxS_b0
      simp only [lss_len, Nat.lt_irrefl, decide_false, cond_false]
  simp only [cond_false]
  rw [hloop]
  rfl
theorem szBoxS_eq (l : List (Int × Int × Int × Bool)) (a : Int) (hl : l.length ≤ 9223372036854775807) (ha : 0 ≤ a) (ha' : a ≤ 1048576) : laws_szBoxS l a = some (bif decide (a < (l.length : Int)) then -1 else a - (l.length : Int), ()) := by
  unfold laws_szBoxS
  have h1 : rArith .sub .i64 a (rLen l) = a - (l.length : Int) := sub64 (by unfold rLen; omega) (by unfold rLen; omega)
  rw [h1]
  have h2 : rCmp .lss (a - (l.length : Int)) 0 = decide (a < (l.length : Int)) := by simp only [rCmp, decide_eq_decide]; omega
  rw [h2]
  cases decide (a < (l.length : Int)) <;> rfl
theorem toParcelS_eq (l : List (Int × Int × Int × Int × Int × Int × Int × Int × Int × Int × Int × Int × Int)) (hl : l.length ≤ 1073741824) : laws_toParcelS l = some (l, ()) := by
  unfold laws_toParcelS
  rw [repOk_len hl]
  have hloop : laws_toParcelS_l0 (l, ()) (List.replicate l.length (0, 0, 0, 0, 0, 0, 0, 0, 0, 0, 0, 0, 0), (0 : Int), ()) = some (Sum.inl (l, ())) := by
    have := loop_end (body := laws_toParcelS_b0 (l, ())) (fun n => (l.take n ++ List.replicate (l.length - n) (0, 0, 0, 0, 0, 0, 0, 0, 0, 0, 0, 0, 0), (n : Int), ())) l.length (by omega) (Sum.inl (l, ())) (fun n hn => ?_) ?_
    · unfold laws_toParcelS_l0; simpa using this
    · unfold laws_toParcelS_b0
      have hx : n < (l.take n ++ List.replicate (l.length - n) ((0, 0, 0, 0, 0, 0, 0, 0, 0, 0, 0, 0, 0) : Int × Int × Int × Int × Int × Int × Int × Int × Int × Int × Int × Int × Int)).length := by rw [fill_len _ _ (Nat.le_of_lt hn)]; exact hn
      simp only [lss_len, inR_nat, hn, hx, decide_true, cond_true, get_nat, toParcel_eq, Option.bind_some, lets_def, succ64 (n := n) (by omega), put_nat]
      rw [← set_fill l (0, 0, 0, 0, 0, 0, 0, 0, 0, 0, 0, 0, 0) hn, getD_lt hn zIIIIIIIIIIIII (0, 0, 0, 0, 0, 0, 0, 0, 0, 0, 0, 0, 0)]
    · unfold laws_toParcelS_b0
      simp only [lss_len, Nat.lt_irrefl, decide_false, cond_false, Nat.sub_self, List.replicate_zero, List.append_nil, List.take_length]
  have hr : rRep (rLen l) (((0 : Int), (0 : Int), (0 : Int), (0 : Int), (0 : Int), (0 : Int), (0 : Int), (0 : Int), (0 : Int), (0 : Int), (0 : Int), (0 : Int), (0 : Int))) = List.replicate l.length (0, 0, 0, 0, 0, 0, 0, 0, 0, 0, 0, 0, 0) := rep_nat _ _
  rw [hr]
  simp only [cond_true]
  rw [hloop]
  rfl
theorem eqParcelS_self (l : List (Int × Int × Int × Int × Int × Int × Int × Int × Int × Int × Int × Int × Int)) (hl : l.length ≤ 1073741824) : laws_eqParcelS l l = some (true, ()) := by
  unfold laws_eqParcelS
  rw [neq_self]
  have hloop : laws_eqParcelS_l0 (l, l, ()) ((0 : Int), ()) = some (Sum.inr (Sum.inl ())) := by
    refine loop_end (fun n => ((n : Int), ())) l.length (by omega) _ (fun n hn => ?_) ?_
    · unfold laws_eqParcelS_b0
      simp only [lss_len, inR_nat, hn, decide_true, cond_true, eqParcel_self, Option.bind_some, succ64 (n := n) (by omega)]
      rfl
    · unfold laws_eqParcelS_b0
      simp only [lss_len, Nat.lt_irrefl, decide_false, cond_false]
  simp only [cond_false]
  rw [hloop]
  rfl
theorem szParcelS_eq (l : List (Int × Int × Int × Int × Int × Int × Int × Int × Int × Int × Int × Int × Int)) (a : Int) (hl : l.length ≤ 9223372036854775807) (ha : 0 ≤ a) (ha' : a ≤ 1048576) : laws_szParcelS l a = some (bif decide (a < (l.length : Int)) then -1 else a - (l.length : Int), ()) := by
  unfold laws_szParcelS
  have h1 : rArith .sub .i64 a (rLen l) = a - (l.length : Int) := sub64 (by unfold rLen; omega) (by unfold rLen; omega)
  rw [h1]
  have h2 : rCmp .lss (a - (l.length : Int)) 0 = decide (a < (l.length : Int)) := by simp only [rCmp, decide_eq_decide]; omega
  rw [h2]
  cases decide (a < (l.length : Int)) <;> rfl
theorem toGrant_eq (a0 : Int) (a1 : Int) (a2 : Int) (a3 : Int) (a4 : Int) (a5 : Int) (a6 : Bool) : laws_toGrant a0 a1 a2 a3 a4 a5 a6 = some (a0, a1, a2, a3, a4, a5, a6, ()) := rfl
theorem toGrantS_eq (l : List (Int × Int × Int × Int × Int × Int × Bool)) (hl : l.length ≤ 1073741824) : laws_toGrantS l = some (l, ()) := by
  unfold laws_toGrantS
  rw [repOk_len hl]
  have hloop : laws_toGrantS_l0 (l, ()) (List.replicate l.length (0, 0, 0, 0, 0, 0, false), (0 : Int), ()) = some (Sum.inl (l, ())) := by
    have := loop_end (body := laws_toGrantS_b0 (l, ())) (fun n => (l.take n ++ List.replicate (l.length - n) (0, 0, 0, 0, 0, 0, false), (n : Int), ())) l.length (by omega) (Sum.inl (l, ())) (fun n hn => ?_) ?_
    · unfold laws_toGrantS_l0; simpa using this
    · unfold laws_toGrantS_b0
      have hx : n < (l.take n ++ List.replicate (l.length - n) ((0, 0, 0, 0, 0, 0, false) : Int × Int × Int × Int × Int × Int × Bool)).length := by rw [fill_len _ _ (Nat.le_of_lt hn)]; exact hn
      simp only [lss_len, inR_nat, hn, hx, decide_true, cond_true, get_nat, toGrant_eq, Option.bind_some, lets_def, succ64 (n := n) (by omega), put_nat]
      rw [← set_fill l (0, 0, 0, 0, 0, 0, false) hn, getD_lt hn zIIIIIIB (0, 0, 0, 0, 0, 0, false)]
    · unfold laws_toGrantS_b0
      simp only [lss_len, Nat.lt_irrefl, decide_false, cond_false, Nat.sub_self, List.replicate_zero, List.append_nil, List.take_length]
  have hr : rRep (rLen l) (((0 : Int), (0 : Int), (0 : Int), (0 : Int), (0 : Int), (0 : Int), false)) = List.replicate l.length (0, 0, 0, 0, 0, 0, false) := rep_nat _ _
  rw [hr]
  simp only [cond_true]
  rw [hloop]
  rfl
theorem eqGrant_self (a0 : Int) (a1 : Int) (a2 : Int) (a3 : Int) (a4 : Int) (a5 : Int) (a6 : Bool) : laws_eqGrant a0 a1 a2 a3 a4 a5 a6 a0 a1 a2 a3 a4 a5 a6 = some (true, ()) := by
  unfold laws_eqGrant
  simp only [neq_self, rBeq_self, Bool.not_true, cond_false]
theorem eqGrantS_self (l : List (Int × Int × Int × Int × Int × Int × Bool)) (hl : l.length ≤ 1073741824) : laws_eqGrantS l l = some (true, ()) := by
  unfold laws_eqGrantS
  rw [neq_self]
  have hloop : laws_eqGrantS_l0 (l, l, ()) ((0 : Int), ()) = some (Sum.inr (Sum.inl ())) := by
    refine loop_end (fun n => ((n : Int), ())) l.length (by omega) _ (fun n hn => ?_) ?_
    · unfold laws_eqGrantS_b0
      simp only [lss_len, inR_nat, hn, decide_true, cond_true, eqGrant_self, Option.bind_some, succ64 (n := n) (by omega)]
      rfl
    · unfold laws_eqGrantS_b0
      simp only [lss_len, Nat.lt_irrefl, decide_false, cond_false]
  simp only [cond_false]
  rw [hloop]
  rfl
theorem szGrantS_eq (l : List (Int × Int × Int × Int × Int × Int × Bool)) (a : Int) (hl : l.length ≤ 9223372036854775807) (ha : 0 ≤ a) (ha' : a ≤ 1048576) : laws_szGrantS l a = some (bif decide (a < (l.length : Int)) then -1 else a - (l.length : Int), ()) := by
  unfold laws_szGrantS
  have h1 : rArith .sub .i64 a (rLen l) = a - (l.length : Int) := sub64 (by unfold rLen; omega) (by unfold rLen; omega)
  rw [h1]
  have h2 : rCmp .lss (a - (l.length : Int)) 0 = decide (a < (l.length : Int)) := by simp only [rCmp, decide_eq_decide]; omega
  rw [h2]
  cases decide (a < (l.length : Int)) <;> rfl
/-! ### Lists of structs that hold lists -/
/-- A list is copied, element by element. -/
theorem copy_gen {α : Type} {body : List α × Int × Unit → Option ((List α × Int × Unit) ⊕ (List α × Unit ⊕ Empty))} (l : List α) (zr z : α) (hl : l.length ≤ 1073741824)
    (h : ∀ (n : Nat) (acc : List α), n < l.length → acc.length = l.length → body (acc, (n : Int), ()) = some (.inl (acc.set n (l.getD n z), ((n + 1 : Nat) : Int), ())))
    (hend : ∀ acc : List α, acc.length = l.length → body (acc, (l.length : Int), ()) = some (.inr (.inl (acc, ())))) : iter body big (List.replicate l.length zr, 0, ()) = some (Sum.inl (l, ())) := by
  have := loop_end (body := body) (fun n => (l.take n ++ List.replicate (l.length - n) zr, (n : Int), ())) l.length (by omega) (Sum.inl (l, ())) (fun n hn => ?_) ?_
  · simpa using this
  · show body (l.take n ++ List.replicate (l.length - n) zr, (n : Int), ()) = _
    rw [h n _ hn (fill_len _ _ (Nat.le_of_lt hn)), getD_lt hn z zr, set_fill l zr hn]
  · show body (l.take l.length ++ List.replicate (l.length - l.length) zr, (l.length : Int), ()) = _
    rw [hend _ (fill_len _ _ (Nat.le_refl _))]
    simp
/-- The measure of a list, element by element. -/
theorem size_gen {α : Type} {body : Int × Int × Unit → Option ((Int × Int × Unit) ⊕ (Int × Unit ⊕ (Int × Unit ⊕ Empty)))} (l : List α) (hl : l.length ≤ 1073741824) (small : Nat → Prop)
    (h : ∀ (n : Nat) (a : Int), n < l.length → 0 ≤ a → a ≤ 1048576 → body (a, (n : Int), ()) = some (.inr (.inl (-1, ()))) ∨ ∃ b, body (a, (n : Int), ()) = some (.inl (b, ((n + 1 : Nat) : Int), ())) ∧ 0 ≤ b ∧ b ≤ a ∧ small n)
    (hend : ∀ a, body (a, (l.length : Int), ()) = some (.inr (.inr (.inl (a, ()))))) (a : Int) (ha : 0 ≤ a) (ha' : a ≤ 1048576) :
    ∃ y, iter body big (a, 0, ()) = some y ∧ (y = .inl (-1, ()) ∨ ∃ b, y = .inr (.inl (b, ())) ∧ 0 ≤ b ∧ b ≤ a ∧ ∀ n, n < l.length → small n) := by
  have key : ∀ (k n : Nat) (a : Int), n + k = l.length → 0 ≤ a → a ≤ 1048576 → ∃ y, iter body (k + 1) (a, (n : Int), ()) = some y ∧ (y = .inl (-1, ()) ∨ ∃ b, y = .inr (.inl (b, ())) ∧ 0 ≤ b ∧ b ≤ a ∧ ∀ m, n ≤ m → m < l.length → small m) := by
    intro k
    induction k with
    | zero =>
      intro n a hn h0 h1
      have : n = l.length := by omega
      subst this
      exact ⟨_, iter_done (hend a), .inr ⟨a, rfl, h0, Int.le_refl _, fun m h2 h3 => absurd h3 (by omega)⟩⟩
    | succ k ih =>
      intro n a hn h0 h1
      rcases h n a (by omega) h0 h1 with h | ⟨b, h, b0, b1, hs⟩
      · exact ⟨_, iter_done h, .inl rfl⟩
      · obtain ⟨y, q1, q2⟩ := ih (n + 1) b (by omega) b0 (by omega)
        refine ⟨y, by rw [iter_next h]; exact q1, q2.imp id fun ⟨c, c1, c2, c3, c4⟩ => ⟨c, c1, c2, by omega, fun m h2 h3 => ?_⟩⟩
        rcases Nat.lt_or_ge n m with h4 | h4
        · exact c4 m (by omega) h3
        · have : m = n := by omega
          subst this
          exact hs
  obtain ⟨y, h1, h2⟩ := key l.length 0 a (by omega) ha ha'
  exact ⟨y, iter_mono h1 (lt_big (by omega)), h2.imp id fun ⟨b, b1, b2, b3, b4⟩ => ⟨b, b1, b2, b3, fun n hn => b4 n (Nat.zero_le _) hn⟩⟩
abbrev Bx := Int × Int × Int × Bool
abbrev Col := Int × List Int × List Bx
abbrev Site := List Spn × List Spn × List Col × Int × Int × Bool × Bool × Bool × Int × Int × List Ev
def zCol : Col := zILIlLIIIBl
def zSite : Site := zLIIlLIIlLILIlLIIIBllIIBBBIILIIIIIIIl
/-! Columns -/
def colLe (m : Nat) (c : Col) : Prop := c.2.1.length ≤ m ∧ c.2.2.length ≤ m
theorem toColumn_eq (a0 : Int) (a1 : List Int) (a2 : List Bx) (h1 : a1.length ≤ 1073741824) (h2 : a2.length ≤ 1073741824) : laws_toColumn a0 a1 a2 = some (a0, a1, a2, ()) := by
  unfold laws_toColumn
  rw [toIntS_eq a1 h1]
  simp only [Option.bind_some]
  rw [toBoxS_eq a2 h2]
  rfl
theorem eqColumn_self (a0 : Int) (a1 : List Int) (a2 : List Bx) (h1 : a1.length ≤ 1073741824) (h2 : a2.length ≤ 1073741824) : laws_eqColumn a0 a1 a2 a0 a1 a2 = some (true, ()) := by
  unfold laws_eqColumn
  simp only [neq_self, cond_false, eqIntS_self a1 h1, Option.bind_some, Bool.not_true, eqBoxS_self a2 h2]
theorem szColumn_eq (a0 : Int) (a1 : List Int) (a2 : List Bx) (a : Int) (h1 : a1.length ≤ 9223372036854775807) (h2 : a2.length ≤ 9223372036854775807) (ha : 0 ≤ a) (ha' : a ≤ 1048576) :
    ∃ b, laws_szColumn a0 a1 a2 a = some (b, ()) ∧ (b = -1 ∨ (0 ≤ b ∧ b ≤ a ∧ a1.length ≤ 1073741824 ∧ a2.length ≤ 1073741824)) := by
  unfold laws_szColumn
  rw [szIntS_eq a1 a h1 ha ha']
  simp only [Option.bind_some]
  cases hd : decide (a < (a1.length : Int)) with
  | true => exact ⟨-1, rfl, .inl rfl⟩
  | false =>
    have hd := of_decide_eq_false hd
    simp only [cond_false]
    rw [neg_of (by omega)]
    simp only [cond_false]
    rw [szBoxS_eq a2 _ h2 (by omega) (by omega)]
    simp only [Option.bind_some]
    cases hd2 : decide (a - (a1.length : Int) < (a2.length : Int)) with
    | true => exact ⟨-1, rfl, .inl rfl⟩
    | false =>
      have hd2 := of_decide_eq_false hd2
      simp only [cond_false]
      rw [neg_of (by omega)]
      exact ⟨_, rfl, .inr ⟨by omega, by omega, by show _ ≤ 1073741824; omega, by show _ ≤ 1073741824; omega⟩⟩
theorem getD_mem {α : Type} {l : List α} {n : Nat} (h : n < l.length) (z : α) : l.getD n z ∈ l := by
  rw [List.getD_eq_getElem?_getD, List.getElem?_eq_getElem h]
  exact List.getElem_mem h
theorem toColumnS_eq (l : List Col) (hl : l.length ≤ 1073741824) (hc : ∀ n, n < l.length → colLe 1073741824 (l.getD n zCol)) : laws_toColumnS l = some (l, ()) := by
  unfold laws_toColumnS
  rw [repOk_len hl]
  have hr : rRep (rLen l) (((0 : Int), ([] : List Int), ([] : List Bx))) = List.replicate l.length (0, [], []) := rep_nat _ _
  rw [hr]
  have := copy_gen (body := laws_toColumnS_b0 (l, ())) l (0, [], []) zCol hl (fun n acc hn ha => by
    obtain ⟨c1, c2⟩ := hc n hn
    unfold laws_toColumnS_b0
    simp only [lss_len, inR_nat, hn, ha, decide_true, cond_true, get_nat, lets_def, succ64 (n := n) (show n < 1099511627776 by omega), put_nat]
    show ((laws_toColumn (l.getD n zCol).1 (l.getD n zCol).2.1 (l.getD n zCol).2.2).bind _) = _
    rw [toColumn_eq _ _ _ c1 c2]
    rfl) (fun acc _ => by
    unfold laws_toColumnS_b0
    simp only [lss_len, Nat.lt_irrefl, decide_false, cond_false])
  simp only [cond_true]
  unfold laws_toColumnS_l0
  rw [this]
  rfl
theorem eqColumnS_self (l : List Col) (hl : l.length ≤ 1073741824) (hc : ∀ n, n < l.length → colLe 1073741824 (l.getD n zCol)) : laws_eqColumnS l l = some (true, ()) := by
  unfold laws_eqColumnS
  rw [neq_self]
  have hloop : laws_eqColumnS_l0 (l, l, ()) ((0 : Int), ()) = some (Sum.inr (Sum.inl ())) := by
    refine loop_end (fun n => ((n : Int), ())) l.length (by show _ < _; omega) _ (fun n hn => ?_) ?_
    · obtain ⟨c1, c2⟩ := hc n hn
      unfold laws_eqColumnS_b0
      simp only [lss_len, inR_nat, hn, decide_true, cond_true, get_nat, lets_def, succ64 (n := n) (show n < 1099511627776 by omega)]
      show ((laws_eqColumn (l.getD n zCol).1 (l.getD n zCol).2.1 (l.getD n zCol).2.2 (l.getD n zCol).1 (l.getD n zCol).2.1 (l.getD n zCol).2.2).bind _) = _
      rw [eqColumn_self _ _ _ c1 c2]
      rfl
    · unfold laws_eqColumnS_b0
      simp only [lss_len, Nat.lt_irrefl, decide_false, cond_false]
  simp only [cond_false]
  rw [hloop]
  rfl
theorem szColumnS_eq (l : List Col) (a : Int) (hl : l.length ≤ 9223372036854775807) (hw : ∀ c ∈ l, colLe 9223372036854775807 c) (ha : 0 ≤ a) (ha' : a ≤ 1048576) :
    ∃ b, laws_szColumnS l a = some (b, ()) ∧ (b = -1 ∨ (0 ≤ b ∧ b ≤ a ∧ l.length ≤ 1073741824 ∧ ∀ n, n < l.length → colLe 1073741824 (l.getD n zCol))) := by
  unfold laws_szColumnS
  have h1 : rArith .sub .i64 a (rLen l) = a - (l.length : Int) := sub64 (by unfold rLen; have : l.length ≤ 9223372036854775807 := hl; omega) (by unfold rLen; omega)
  have h2 : rCmp .lss (a - (l.length : Int)) 0 = decide (a < (l.length : Int)) := by simp only [rCmp, decide_eq_decide]; omega
  rw [h1, h2]
  cases hd : decide (a < (l.length : Int)) with
  | true => exact ⟨-1, rfl, .inl rfl⟩
  | false =>
    have hd := of_decide_eq_false hd
    have hl30 : l.length ≤ 1073741824 := by omega
    obtain ⟨y, q1, q2⟩ := size_gen (body := laws_szColumnS_b0 (l, ())) l hl30 (fun n => colLe 1073741824 (l.getD n zCol)) (fun n a hn h0 h1 => by
      obtain ⟨c1, c2⟩ := hw _ (getD_mem hn zCol)
      obtain ⟨b, e1, e2⟩ := szColumn_eq (l.getD n zCol).1 (l.getD n zCol).2.1 (l.getD n zCol).2.2 a c1 c2 h0 h1
      have hb : laws_szColumnS_b0 (l, ()) (a, (n : Int), ()) = (bif rCmp .lss b 0 then some (.inr (.inl (-1, ()))) else some (.inl (b, ((n + 1 : Nat) : Int), ()))) := by
        unfold laws_szColumnS_b0
        simp only [lss_len, inR_nat, hn, decide_true, cond_true, get_nat, lets_def, succ64 (n := n) (show n < 1099511627776 by omega)]
        show ((laws_szColumn (l.getD n zCol).1 (l.getD n zCol).2.1 (l.getD n zCol).2.2 a).bind _) = _
        rw [e1]
        rfl
      rw [hb]
      rcases e2 with rfl | ⟨b0, b1, b2, b3⟩
      · exact .inl rfl
      · rw [neg_of b0]; exact .inr ⟨b, rfl, b0, b1, b2, b3⟩) (fun a => by
      unfold laws_szColumnS_b0
      simp only [lss_len, Nat.lt_irrefl, decide_false, cond_false]) (a - (l.length : Int)) (by omega) (by omega)
    simp only [cond_false]
    unfold laws_szColumnS_l0
    rw [q1]
    rcases q2 with rfl | ⟨b, rfl, b1, b2, b3⟩
    · exact ⟨-1, rfl, .inl rfl⟩
    · exact ⟨b, rfl, .inr ⟨b1, by omega, hl30, b3⟩⟩
/-! Sites -/
structure siteLe (m : Nat) (x : Site) : Prop where
  o : x.1.length ≤ m
  c : x.2.1.length ≤ m
  b : x.2.2.1.length ≤ m
  bs : ∀ n, n < x.2.2.1.length → colLe m (x.2.2.1.getD n zCol)
  j : x.2.2.2.2.2.2.2.2.2.2.length ≤ m
theorem toDoor_eq (a0 a1 : Int) (a2 a3 a4 : Bool) : laws_toDoor a0 a1 a2 a3 a4 = some (a0, a1, a2, a3, a4, ()) := rfl
theorem eqDoor_self (a0 a1 : Int) (a2 a3 a4 : Bool) : laws_eqDoor a0 a1 a2 a3 a4 a0 a1 a2 a3 a4 = some (true, ()) := by
  unfold laws_eqDoor
  simp only [neq_self, rBeq_self, Bool.not_true, cond_false]
theorem toSite_eq (x : Site) (h : siteLe 1073741824 x) : laws_toSite x.1 x.2.1 x.2.2.1 x.2.2.2.1 x.2.2.2.2.1 x.2.2.2.2.2.1 x.2.2.2.2.2.2.1 x.2.2.2.2.2.2.2.1 x.2.2.2.2.2.2.2.2.1 x.2.2.2.2.2.2.2.2.2.1 x.2.2.2.2.2.2.2.2.2.2 =
    some (x.1, x.2.1, x.2.2.1, x.2.2.2.1, x.2.2.2.2.1, x.2.2.2.2.2.1, x.2.2.2.2.2.2.1, x.2.2.2.2.2.2.2.1, x.2.2.2.2.2.2.2.2.1, x.2.2.2.2.2.2.2.2.2.1, x.2.2.2.2.2.2.2.2.2.2, ()) := by
  unfold laws_toSite
  simp only [toWeek_eq _ _ h.o h.c, toColumnS_eq _ h.b h.bs, toDoor_eq, toEvS_eq _ h.j, Option.bind_some]
theorem eqSite_self (x : Site) (h : siteLe 1073741824 x) : laws_eqSite x.1 x.2.1 x.2.2.1 x.2.2.2.1 x.2.2.2.2.1 x.2.2.2.2.2.1 x.2.2.2.2.2.2.1 x.2.2.2.2.2.2.2.1 x.2.2.2.2.2.2.2.2.1 x.2.2.2.2.2.2.2.2.2.1 x.2.2.2.2.2.2.2.2.2.2 x.1 x.2.1 x.2.2.1 x.2.2.2.1 x.2.2.2.2.1 x.2.2.2.2.2.1 x.2.2.2.2.2.2.1 x.2.2.2.2.2.2.2.1 x.2.2.2.2.2.2.2.2.1 x.2.2.2.2.2.2.2.2.2.1 x.2.2.2.2.2.2.2.2.2.2 = some (true, ()) := by
  unfold laws_eqSite
  simp only [eqWeek_self _ _ h.o h.c, eqColumnS_self _ h.b h.bs, eqDoor_self, eqEvS_self _ h.j, Option.bind_some, neq_self, Bool.not_true, cond_false]
structure siteWf (x : Site) : Prop where
  o : x.1.length ≤ 9223372036854775807
  c : x.2.1.length ≤ 9223372036854775807
  b : x.2.2.1.length ≤ 9223372036854775807
  bs : ∀ y ∈ x.2.2.1, colLe 9223372036854775807 y
  j : x.2.2.2.2.2.2.2.2.2.2.length ≤ 9223372036854775807
theorem szSite_eq (x : Site) (a : Int) (h : siteWf x) (ha : 0 ≤ a) (ha' : a ≤ 1048576) :
    ∃ b, laws_szSite x.1 x.2.1 x.2.2.1 x.2.2.2.1 x.2.2.2.2.1 x.2.2.2.2.2.1 x.2.2.2.2.2.2.1 x.2.2.2.2.2.2.2.1 x.2.2.2.2.2.2.2.2.1 x.2.2.2.2.2.2.2.2.2.1 x.2.2.2.2.2.2.2.2.2.2 a = some (b, ()) ∧ (b = -1 ∨ (0 ≤ b ∧ b ≤ a ∧ siteLe 1073741824 x)) := by
  unfold laws_szSite
  rw [szWeek_eq _ _ a h.o h.c ha ha']
  simp only [Option.bind_some]
  cases hd : decide (a < (x.1.length : Int) + (x.2.1.length : Int)) with
  | true => exact ⟨-1, rfl, .inl rfl⟩
  | false =>
    have hd := of_decide_eq_false hd
    simp only [cond_false]
    rw [neg_of (by omega)]
    simp only [cond_false]
    obtain ⟨b, e1, e2⟩ := szColumnS_eq x.2.2.1 (a - (x.1.length : Int) - (x.2.1.length : Int)) h.b h.bs (by omega) (by omega)
    rw [e1]
    simp only [Option.bind_some]
    rcases e2 with rfl | ⟨b0, b1, b2, b3⟩
    · exact ⟨-1, rfl, .inl rfl⟩
    · rw [neg_of b0]
      simp only [cond_false]
      rw [szEvS_eq _ b h.j b0 (by omega)]
      simp only [Option.bind_some]
      cases hd2 : decide (b < (x.2.2.2.2.2.2.2.2.2.2.length : Int)) with
      | true => exact ⟨-1, rfl, .inl rfl⟩
      | false =>
        have hd2 := of_decide_eq_false hd2
        simp only [cond_false]
        rw [neg_of (by omega)]
        exact ⟨_, rfl, .inr ⟨by omega, by omega, ⟨by show _ ≤ 1073741824; omega, by show _ ≤ 1073741824; omega, b2, b3, by show _ ≤ 1073741824; omega⟩⟩⟩
theorem toSiteS_eq (l : List Site) (hl : l.length ≤ 1073741824) (hc : ∀ n, n < l.length → siteLe 1073741824 (l.getD n zSite)) : laws_toSiteS l = some (l, ()) := by
  unfold laws_toSiteS
  rw [repOk_len hl]
  have hr : rRep (rLen l) ((([] : List Spn), ([] : List Spn), ([] : List Col), (0 : Int), (0 : Int), false, false, false, (0 : Int), (0 : Int), ([] : List Ev)) : Site) = List.replicate l.length ([], [], [], 0, 0, false, false, false, 0, 0, []) := rep_nat _ _
  rw [hr]
  have := copy_gen (body := laws_toSiteS_b0 (l, ())) l ([], [], [], 0, 0, false, false, false, 0, 0, []) zSite hl (fun n acc hn ha => by
    have hs := toSite_eq (l.getD n zSite) (hc n hn)
    unfold laws_toSiteS_b0
    simp only [lss_len, inR_nat, hn, ha, decide_true, cond_true, get_nat, lets_def, succ64 (n := n) (show n < 1099511627776 by omega), put_nat]
    show ((laws_toSite (l.getD n zSite).1 (l.getD n zSite).2.1 (l.getD n zSite).2.2.1 (l.getD n zSite).2.2.2.1 (l.getD n zSite).2.2.2.2.1 (l.getD n zSite).2.2.2.2.2.1 (l.getD n zSite).2.2.2.2.2.2.1 (l.getD n zSite).2.2.2.2.2.2.2.1 (l.getD n zSite).2.2.2.2.2.2.2.2.1 (l.getD n zSite).2.2.2.2.2.2.2.2.2.1 (l.getD n zSite).2.2.2.2.2.2.2.2.2.2).bind _) = _
    rw [hs]
    rfl) (fun acc _ => by
    unfold laws_toSiteS_b0
    simp only [lss_len, Nat.lt_irrefl, decide_false, cond_false])
  simp only [cond_true]
  unfold laws_toSiteS_l0
  rw [this]
  rfl
theorem eqSiteS_self (l : List Site) (hl : l.length ≤ 1073741824) (hc : ∀ n, n < l.length → siteLe 1073741824 (l.getD n zSite)) : laws_eqSiteS l l = some (true, ()) := by
  unfold laws_eqSiteS
  rw [neq_self]
  have hloop : laws_eqSiteS_l0 (l, l, ()) ((0 : Int), ()) = some (Sum.inr (Sum.inl ())) := by
    refine loop_end (fun n => ((n : Int), ())) l.length (by show _ < _; omega) _ (fun n hn => ?_) ?_
    · have hs := eqSite_self (l.getD n zSite) (hc n hn)
      unfold laws_eqSiteS_b0
      simp only [lss_len, inR_nat, hn, decide_true, cond_true, get_nat, lets_def, succ64 (n := n) (show n < 1099511627776 by omega)]
      have hs' := congrArg (fun q => q.bind fun (y0 : Bool × Unit) => (bif (Bool.not y0.1) then some (Sum.inr (Sum.inl (false, ()))) else some (Sum.inl (((n + 1 : Nat) : Int), ())) : Option ((Int × Unit) ⊕ (Bool × Unit ⊕ (Unit ⊕ Empty))))) hs
      exact hs'
    · unfold laws_eqSiteS_b0
      simp only [lss_len, Nat.lt_irrefl, decide_false, cond_false]
  simp only [cond_false]
  rw [hloop]
  rfl
theorem szSiteS_eq (l : List Site) (a : Int) (hl : l.length ≤ 9223372036854775807) (hw : ∀ c ∈ l, siteWf c) (ha : 0 ≤ a) (ha' : a ≤ 1048576) :
    ∃ b, laws_szSiteS l a = some (b, ()) ∧ (b = -1 ∨ (0 ≤ b ∧ b ≤ a ∧ l.length ≤ 1073741824 ∧ ∀ n, n < l.length → siteLe 1073741824 (l.getD n zSite))) := by
  unfold laws_szSiteS
  have h1 : rArith .sub .i64 a (rLen l) = a - (l.length : Int) := sub64 (by unfold rLen; have : l.length ≤ 9223372036854775807 := hl; omega) (by unfold rLen; omega)
  have h2 : rCmp .lss (a - (l.length : Int)) 0 = decide (a < (l.length : Int)) := by simp only [rCmp, decide_eq_decide]; omega
  rw [h1, h2]
  cases hd : decide (a < (l.length : Int)) with
  | true => exact ⟨-1, rfl, .inl rfl⟩
  | false =>
    have hd := of_decide_eq_false hd
    have hl30 : l.length ≤ 1073741824 := by omega
    obtain ⟨y, q1, q2⟩ := size_gen (body := laws_szSiteS_b0 (l, ())) l hl30 (fun n => siteLe 1073741824 (l.getD n zSite)) (fun n a hn h0 h1 => by
      obtain ⟨b, e1, e2⟩ := szSite_eq (l.getD n zSite) a (hw _ (getD_mem hn zSite)) h0 h1
      have hb : laws_szSiteS_b0 (l, ()) (a, (n : Int), ()) = (bif rCmp .lss b 0 then some (.inr (.inl (-1, ()))) else some (.inl (b, ((n + 1 : Nat) : Int), ()))) := by
        unfold laws_szSiteS_b0
        simp only [lss_len, inR_nat, hn, decide_true, cond_true, get_nat, lets_def, succ64 (n := n) (show n < 1099511627776 by omega)]
        have hs' := congrArg (fun q => q.bind fun (y0 : Int × Unit) => (bif (rCmp .lss y0.1 (0 : Int)) then some (.inr (.inl ((-1 : Int), ()))) else some (.inl (y0.1, ((n + 1 : Nat) : Int), ())) : Option ((Int × Int × Unit) ⊕ (Int × Unit ⊕ (Int × Unit ⊕ Empty))))) e1
        exact hs'
      rw [hb]
      rcases e2 with rfl | ⟨b0, b1, b2⟩
      · exact .inl rfl
      · rw [neg_of b0]; exact .inr ⟨b, rfl, b0, b1, b2⟩) (fun a => by
      unfold laws_szSiteS_b0
      simp only [lss_len, Nat.lt_irrefl, decide_false, cond_false]) (a - (l.length : Int)) (by omega) (by omega)
    simp only [cond_false]
    unfold laws_szSiteS_l0
    rw [q1]
    rcases q2 with rfl | ⟨b, rfl, b1, b2, b3⟩
    · exact ⟨-1, rfl, .inl rfl⟩
    · exact ⟨b, rfl, .inr ⟨b1, by omega, hl30, b3⟩⟩
end Go.Fn
