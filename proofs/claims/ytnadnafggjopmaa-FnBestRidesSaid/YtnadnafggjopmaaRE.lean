import Derived.Test.YtnadnafggjopmaaRD
import Derived.IntWalk
/- An abstract interpreter over the code of Go functions, proved sound once: what it answers, the code computes. Conditions: none. -/
set_option autoImplicit false
set_option linter.unusedVariables false
set_option linter.unusedSimpArgs false
set_option maxRecDepth 4000
namespace Go.R
theorem w64 {n : Int} (h1 : -9223372036854775808 ≤ n) (h2 : n ≤ 9223372036854775807) : IntKind.i64.wrap n = n := IntWalk.i64_in n ⟨h1, h2⟩
theorem add64 {a b : Int} (h1 : -9223372036854775808 ≤ a + b) (h2 : a + b ≤ 9223372036854775807) : rArith .add .i64 a b = a + b := w64 h1 h2
theorem sub64 {a b : Int} (h1 : -9223372036854775808 ≤ a - b) (h2 : a - b ≤ 9223372036854775807) : rArith .sub .i64 a b = a - b := w64 h1 h2
theorem mul64 {a b : Int} (h1 : -9223372036854775808 ≤ a * b) (h2 : a * b ≤ 9223372036854775807) : rArith .mul .i64 a b = a * b := w64 h1 h2
theorem succ64 {n : Nat} (h : n < 1099511627776) : rArith .add .i64 (n : Int) 1 = ((n + 1 : Nat) : Int) := by rw [add64] <;> omega
theorem pred64 {n : Nat} (h : n < 1099511627776) : rArith .sub .i64 ((n + 1 : Nat) : Int) 1 = (n : Int) := by rw [sub64] <;> omega
theorem lss_nat (a b : Nat) : rCmp .lss (a : Int) (b : Int) = decide (a < b) := by simp [rCmp]
theorem lss_len {α : Type} (a : Nat) (l : List α) : rCmp .lss (a : Int) (rLen l) = decide (a < l.length) := by simp [rCmp, rLen]
theorem inR_nat {α : Type} (l : List α) (n : Nat) : rInR l (n : Int) = decide (n < l.length) := by simp [rInR]
theorem inR_lt {α : Type} {l : List α} {n : Nat} (h : n < l.length) : rInR l (n : Int) = true := by rw [inR_nat]; exact decide_eq_true h
theorem get_nat {α : Type} (z : α) (l : List α) (n : Nat) : rGet z l (n : Int) = l.getD n z := by simp [rGet]
theorem put_nat {α : Type} (l : List α) (n : Nat) (y : α) : rPut l (n : Int) y = l.set n y := by simp [rPut]
theorem rep_nat {α : Type} (n : Nat) (y : α) : rRep (n : Int) y = List.replicate n y := by simp [rRep]
theorem repOk_len {α : Type} {l : List α} (h : l.length ≤ 1073741824) : rRepOk (rLen l) = true := by
 unfold rRepOk rLen limit
 rw [Bool.and_eq_true]
 exact ⟨decide_eq_true (by omega), decide_eq_true (by omega)⟩
theorem lt_big {n : Nat} (h : n < 1099511627776) : n < big := by
 have : big = 1099511627776 := by unfold big; rfl
 omega
section
variable {X Y : Type} {body : X → Option (X ⊕ Y)}
theorem loop_from (st : Nat → X) (len : Nat) (g : Nat → Y) (hstep : ∀ n, n < len → (body (st n) = some (.inl (st (n + 1))) ∧ g n = g (n + 1)) ∨ body (st n) = some (.inr (g n))) (hend : body (st len) = some (.inr (g len))) :
  ∀ (k n : Nat), n + k = len → iter body (k + 1) (st n) = some (g n)
 | 0, n, h => by
  have : n = len := by omega
  subst this
  exact iter_done hend
 | k + 1, n, h => by
  rcases hstep n (by omega) with ⟨h1, h2⟩ | h1
  ·rw [iter_next h1, h2]
   exact loop_from st len g hstep hend k (n + 1) (by omega)
  ·exact iter_done h1
theorem loop_st (st : Nat → X) (len : Nat) (hlen : len < 1099511627776) (g : Nat → Y) (hstep : ∀ n, n < len → (body (st n) = some (.inl (st (n + 1))) ∧ g n = g (n + 1)) ∨ body (st n) = some (.inr (g n))) (hend : body (st len) = some (.inr (g len))) : iter body big (st 0) = some (g 0) :=
 iter_mono (loop_from st len g hstep hend len 0 (by omega)) (lt_big hlen)
theorem loop_end (st : Nat → X) (len : Nat) (hlen : len < 1099511627776) (y : Y) (hstep : ∀ n, n < len → body (st n) = some (.inl (st (n + 1)))) (hend : body (st len) = some (.inr y)) : iter body big (st 0) = some y :=
 loop_st st len hlen (fun _ => y) (fun n hn => .inl ⟨hstep n hn, rfl⟩) hend
def allFrom (ok : Nat → Bool) : Nat → Nat → Bool
 | _, 0 => true
 | n, k + 1 => ok n && allFrom ok (n + 1) k
theorem loop_all (st : Nat → X) (len : Nat) (hlen : len < 1099511627776) (ok : Nat → Bool) (yes no : Y) (hstep : ∀ n, n < len → body (st n) = some (bif ok n then .inl (st (n + 1)) else .inr no)) (hend : body (st len) = some (.inr yes)) :
  iter body big (st 0) = some (bif allFrom ok 0 len then yes else no) := by
 have := loop_st st len hlen (fun n => bif allFrom ok n (len - n) then yes else no) (fun n hn => ?_) (by simpa [allFrom] using hend)
 ·simpa using this
 ·have e : len - n = (len - (n + 1)) + 1 := by omega
  cases ho : ok n with
  | true => exact .inl ⟨by rw [hstep n hn, ho]; rfl, by simp only [e, allFrom, ho, Bool.true_and]⟩
  | false => exact .inr (by rw [hstep n hn, ho]; simp only [e, allFrom, ho, Bool.false_and]; rfl)
end
theorem allFrom_congr {ok ok' : Nat → Bool} : ∀ (k n : Nat), (∀ m, n ≤ m → m < n + k → ok m = ok' m) → allFrom ok n k = allFrom ok' n k
 | 0, _, _ => rfl
 | k + 1, n, h => by
  simp only [allFrom]
  rw [h n (by omega) (by omega), allFrom_congr k (n + 1) fun m h1 h2 => h m (by omega) (by omega)]
theorem allFrom_iff {ok : Nat → Bool} : ∀ (k n : Nat), allFrom ok n k = true ↔ ∀ m, n ≤ m → m < n + k → ok m = true
 | 0, n => ⟨fun _ m h1 h2 => absurd h2 (by omega), fun _ => rfl⟩
 | k + 1, n => by
  simp only [allFrom, Bool.and_eq_true]
  rw [allFrom_iff k (n + 1)]
  constructor
  ·intro ⟨h1, h2⟩ m h3 h4
   rcases Nat.lt_or_ge n m with h | h
   ·exact h2 m (by omega) (by omega)
   ·have : m = n := by omega
    subst this; exact h1
  ·intro h
   exact ⟨h n (by omega) (by omega), fun m h1 h2 => h m (by omega) (by omega)⟩
theorem set_fill {α : Type} (l : List α) (z : α) {n : Nat} (h : n < l.length) : (l.take n ++ List.replicate (l.length - n) z).set n (l.getD n z) = l.take (n + 1) ++ List.replicate (l.length - (n + 1)) z := by
 have h1 : (l.take n).length = n := by rw [List.length_take]; omega
 have e : l.length - n = (l.length - (n + 1)) + 1 := by omega
 rw [List.set_append, if_neg (by omega), h1, Nat.sub_self, e, List.replicate_succ, List.set_cons_zero, List.take_add_one, List.append_assoc]
 congr 1
 rw [List.getElem?_eq_getElem h, List.getD_eq_getElem?_getD, List.getElem?_eq_getElem h]
 rfl
theorem fill_len {α : Type} (l : List α) (z : α) {n : Nat} (h : n ≤ l.length) : (l.take n ++ List.replicate (l.length - n) z).length = l.length := by
 rw [List.length_append, List.length_take, List.length_replicate]; omega
theorem getD_lt {α : Type} {l : List α} {n : Nat} (h : n < l.length) (z z' : α) : l.getD n z = l.getD n z' := by
 rw [List.getD_eq_getElem?_getD, List.getD_eq_getElem?_getD, List.getElem?_eq_getElem h]; rfl
theorem lets_def {α β : Type} (x : α) (k : α → β) : lets x k = k x := rfl
theorem getD_set_self {α : Type} {l : List α} {n : Nat} (h : n < l.length) (y z : α) : (l.set n y).getD n z = y := by
 rw [List.getD_eq_getElem?_getD, List.getElem?_set_self h]; rfl
theorem getD_set_ne {α : Type} {l : List α} {n m : Nat} (h : n ≠ m) (y z : α) : (l.set n y).getD m z = l.getD m z := by
 rw [List.getD_eq_getElem?_getD, List.getElem?_set_ne h, ← List.getD_eq_getElem?_getD]
theorem inR_set {α : Type} (l : List α) (n : Nat) (y : α) (m : Nat) : rInR (l.set n y) (m : Int) = decide (m < l.length) := by rw [inR_nat, List.length_set]
theorem loop_fold {α β X Y : Type} {body : X → Option (X ⊕ Y)} (l : List α) (z : α) (hlen : l.length < 1099511627776) (f : β → α → β) (st : β → Nat → X) (Inv : Nat → β → Prop) (fin : β → Y)
  (hstep : ∀ n acc, n < l.length → Inv n acc → body (st acc n) = some (.inl (st (f acc (l.getD n z)) (n + 1))) ∧ Inv (n + 1) (f acc (l.getD n z))) (hend : ∀ acc, Inv l.length acc → body (st acc l.length) = some (.inr (fin acc))) (b0 : β) (h0 : Inv 0 b0) :
  iter body big (st b0 0) = some (fin (l.foldl f b0)) ∧ Inv l.length (l.foldl f b0) := by
 have htake : ∀ n, n < l.length → (l.take (n + 1)).foldl f b0 = f ((l.take n).foldl f b0) (l.getD n z) := by
  intro n hn
  rw [List.take_add_one, List.foldl_append, List.getElem?_eq_getElem hn, List.getD_eq_getElem?_getD, List.getElem?_eq_getElem hn]
  rfl
 have hinv : ∀ n, n ≤ l.length → Inv n ((l.take n).foldl f b0) := by
  intro n
  induction n with
  | zero => intro _; simpa using h0
  | succ n ih =>
   intro hn
   rw [htake n hn]
   exact (hstep n _ hn (ih (Nat.le_of_lt hn))).2
 have hfin := hinv l.length (Nat.le_refl _)
 rw [List.take_length] at hfin
 refine ⟨?_, hfin⟩
 have := loop_end (body := body) (fun n => st ((l.take n).foldl f b0) n) l.length hlen (fin (l.foldl f b0)) (fun n hn => by
  have := (hstep n _ hn (hinv n (Nat.le_of_lt hn))).1
  rw [← htake n hn] at this
  exact this) (by
  have := hend _ hfin
  rw [List.take_length]
  exact this)
 simpa using this
def runL {α β Y : Type} (step : β → α → β ⊕ Y) (fin : β → Y) : List α → β → Y
 | [], b => fin b
 | a :: l, b => match step b a with
  | .inl b' => runL step fin l b'
  | .inr y => y
theorem drop_getD {α : Type} {l : List α} {n : Nat} (h : n < l.length) (z : α) : l.drop n = l.getD n z :: l.drop (n + 1) := by
 rw [List.drop_eq_getElem_cons h, List.getD_eq_getElem?_getD, List.getElem?_eq_getElem h]
 rfl
theorem loop_run_from {α β X Y : Type} {body : X → Option (X ⊕ Y)} (l : List α) (z : α) (st : β → Nat → X) (step : β → α → β ⊕ Y) (fin : β → Y) (Inv : Nat → β → Prop)
  (hstep : ∀ n acc, n < l.length → Inv n acc → body (st acc n) = some (match step acc (l.getD n z) with | .inl b => .inl (st b (n + 1)) | .inr y => .inr y) ∧ ∀ b, step acc (l.getD n z) = .inl b → Inv (n + 1) b)
  (hend : ∀ acc, Inv l.length acc → body (st acc l.length) = some (.inr (fin acc))) : ∀ (k n : Nat) (b : β), n + k = l.length → Inv n b → iter body (k + 1) (st b n) = some (runL step fin (l.drop n) b)
 | 0, n, b, hk, hi => by
  have : n = l.length := by omega
  subst this
  rw [List.drop_length]
  exact iter_done (hend b hi)
 | k + 1, n, b, hk, hi => by
  have hn : n < l.length := by omega
  obtain ⟨h1, h2⟩ := hstep n b hn hi
  rw [drop_getD hn z]
  simp only [runL]
  cases hs : step b (l.getD n z) with
  | inl b' =>
   rw [hs] at h1
   rw [iter_next h1]
   exact loop_run_from l z st step fin Inv hstep hend k (n + 1) b' (by omega) (h2 b' hs)
  | inr y =>
   rw [hs] at h1
   exact iter_done h1
theorem loop_run {α β X Y : Type} {body : X → Option (X ⊕ Y)} (l : List α) (z : α) (hlen : l.length < 1099511627776) (st : β → Nat → X) (step : β → α → β ⊕ Y) (fin : β → Y) (Inv : Nat → β → Prop)
  (hstep : ∀ n acc, n < l.length → Inv n acc → body (st acc n) = some (match step acc (l.getD n z) with | .inl b => .inl (st b (n + 1)) | .inr y => .inr y) ∧ ∀ b, step acc (l.getD n z) = .inl b → Inv (n + 1) b)
  (hend : ∀ acc, Inv l.length acc → body (st acc l.length) = some (.inr (fin acc))) (b0 : β) (h0 : Inv 0 b0) : iter body big (st b0 0) = some (runL step fin l b0) :=
 iter_mono (loop_run_from l z st step fin Inv hstep hend l.length 0 b0 (by omega) h0) (lt_big hlen)
theorem loop_find {X Y : Type} {body : X → Option (X ⊕ Y)} (st : Nat → X) (len : Nat) (hlen : len < 1099511627776) (ok : Nat → Bool) (yes : Y) (no : Nat → Y) (hstep : ∀ n, n < len → body (st n) = some (bif ok n then .inl (st (n + 1)) else .inr (no n))) (hend : body (st len) = some (.inr yes)) :
    ∃ y, iter body big (st 0) = some y ∧ ((allFrom ok 0 len = true ∧ y = yes) ∨ (allFrom ok 0 len = false ∧ ∃ n, n < len ∧ y = no n ∧ ok n = false)) := by
  have key : ∀ (k n : Nat), n + k = len → ∃ y, iter body (k + 1) (st n) = some y ∧ ((allFrom ok n k = true ∧ y = yes) ∨ (allFrom ok n k = false ∧ ∃ m, m < len ∧ y = no m ∧ ok m = false)) := by
    intro k
    induction k with
    | zero => intro n hn; have : n = len := by omega
              subst this
              exact ⟨yes, iter_done hend, .inl ⟨rfl, rfl⟩⟩
    | succ k ih =>
      intro n hn
      have hs := hstep n (by omega)
      cases ho : ok n with
      | true =>
        rw [ho] at hs
        obtain ⟨y, h1, h2⟩ := ih (n + 1) (by omega)
        refine ⟨y, by rw [iter_next hs]; exact h1, ?_⟩
        simp only [allFrom, ho, Bool.true_and]
        exact h2
      | false =>
        rw [ho] at hs
        exact ⟨no n, iter_done hs, .inr ⟨by simp only [allFrom, ho, Bool.false_and], n, by omega, rfl, ho⟩⟩
  obtain ⟨y, h1, h2⟩ := key len 0 (by omega)
  exact ⟨y, iter_mono h1 (lt_big hlen), h2⟩
end Go.R
