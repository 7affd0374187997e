import Derived.Test.YtgiakgamcepemaaFnH
import Derived.Test.YtgiakgamcepemaaPJ
/- Plain functions that stand for Go functions, and what they answer: PK. Conditions: none. -/
set_option autoImplicit false
set_option linter.unusedVariables false
set_option linter.unusedSimpArgs false
/-! PK: what draws answer: that they answer, and within which bounds. -/
namespace Go.R
/-- It answers, and so. -/
def Yl {α : Type} (x : Option α) (P : α → Prop) : Prop := ∃ a, x = some a ∧ P a
section
variable {α β : Type} {P : α → Prop} {Q : β → Prop}
theorem Yl.ret {a : α} (h : P a) : Yl (some a) P := ⟨a, rfl, h⟩
theorem Yl.bind {x : Option α} {f : α → Option β} (hx : Yl x P) (hf : ∀ a, P a → Yl (f a) Q) : Yl (x.bind f) Q := by
  obtain ⟨a, rfl, ha⟩ := hx
  exact hf a ha
theorem Yl.mono {P' : α → Prop} {x : Option α} (hx : Yl x P) (h : ∀ a, P a → P' a) : Yl x P' := by
  obtain ⟨a, e, ha⟩ := hx
  exact ⟨a, e, h a ha⟩
theorem Yl.cond {b : Bool} {x y : Option α} (hx : b = true → Yl x P) (hy : b = false → Yl y P) : Yl (bif b then x else y) P := by
  cases b
  · exact hy rfl
  · exact hx rfl
theorem Yl.guard {b : Bool} {x : Option α} (hb : b = true) (hx : Yl x P) : Yl (bif b then x else none) P := by
  subst hb; exact hx
theorem Yl.nguard {b : Bool} {x : Option α} (hb : b = false) (hx : Yl x P) : Yl (bif b then none else x) P := by
  subst hb; exact hx
theorem Yl.lets {γ : Type} {v : γ} {k : γ → Option α} (h : Yl (k v) P) : Yl (lets v k) P := h
/-- A loop with a measure. -/
theorem Yl.loop {X Y : Type} {body : X → Option (X ⊕ Y)} (Inv : X → Prop) (m : X → Nat) {R : Y → Prop} (hb : ∀ x, Inv x → Yl (body x) fun r => match r with | .inl y => Inv y ∧ m y < m x | .inr b => R b) :
    ∀ (n : Nat) (x : X), Inv x → m x < n → Yl (iter body n x) R
  | 0, _, _, h => absurd h (Nat.not_lt_zero _)
  | n + 1, x, hi, hm => by
    obtain ⟨r, e, hr⟩ := hb x hi
    cases r with
    | inl y =>
      rw [iter_next e]
      exact Yl.loop Inv m hb n y hr.1 (by omega)
    | inr b => exact ⟨b, iter_done e, hr⟩
end
theorem cmp_gtr {a b : Int} : rCmp .gtr a b = decide (b < a) := rfl
theorem cmp_lss {a b : Int} : rCmp .lss a b = decide (a < b) := rfl
theorem cmp_leq {a b : Int} : rCmp .leq a b = decide (a ≤ b) := rfl
theorem inR_int {α : Type} {l : List α} {i : Int} (h0 : 0 ≤ i) (h1 : i < (l.length : Int)) : rInR l i = true := by
  unfold rInR
  rw [Bool.and_eq_true]
  exact ⟨decide_eq_true h0, decide_eq_true h1⟩
theorem small_of {α : Type} {l : List α} (h : l.length ≤ 1073741824) : rSmall l = true := by
  unfold rSmall limit
  exact decide_eq_true (by omega)
theorem nat_land_le (a b : Nat) : a &&& b ≤ b := Nat.and_le_right
/-- x & c for c from 0 on. -/
theorem and64 (x : Int) {c : Nat} (hc : c < 9223372036854775808) : 0 ≤ rArith .and .i64 x (c : Int) ∧ rArith .and .i64 x (c : Int) ≤ (c : Int) := by
  have h1 : (BitVec.ofInt 64 (c : Int)).toNat = c := by
    rw [BitVec.toNat_ofInt]
    have : ((c : Int) % ((2 ^ 64 : Nat) : Int)) = c := Int.emod_eq_of_lt (by omega) (by omega)
    rw [this]; rfl
  have h2 : (BitVec.ofInt 64 x &&& BitVec.ofInt 64 (c : Int)).toNat ≤ c := by
    rw [BitVec.toNat_and, h1]
    exact Nat.and_le_right
  have e : rArith .and .i64 x (c : Int) = IntKind.i64.wrap (((BitVec.ofInt 64 x &&& BitVec.ofInt 64 (c : Int)).toNat : Nat) : Int) := rfl
  rw [e, w64 (by omega) (by omega)]
  exact ⟨by omega, by omega⟩
/-! ### The cursor -/
open Go.Fn
abbrev Cur (b : List Int) (c : List Int × Int × Int) : Prop := c.1 = b ∧ 0 ≤ c.2.1 ∧ b.length ≤ 1048576
/-- A drawn number, and the cursor behind it. -/
def Drawn (b : List Int) (lo hi : Int) (y : Int × List Int × Int × Int × Unit) : Prop := lo ≤ y.1 ∧ y.1 ≤ hi ∧ y.2.1 = b ∧ 0 ≤ y.2.2.1
theorem byte_yl (b : List Int) (hb : b.length ≤ 1048576) (i h : Int) (hi : 0 ≤ i) : Yl (spec_l01Byte b i h) (Drawn b 0 255) := by
  unfold spec_l01Byte
  refine .nguard rfl (.nguard rfl (.lets (.cond (fun h1 => ?_) fun _ => ?_)))
  · rw [cmp_lss] at h1
    have h1 : i < (b.length : Int) := of_decide_eq_true h1
    refine .guard (inR_int hi h1) (.ret ?_)
    have := and64 (rArith .add .i64 (rArith .and .i64 (rArith .xor .i64 (rShift .shr .i64 (rArith .add .i64 (rArith .mul .i64 h 6364136223846793005) 1442695040888963407) 33) (rShift .shr .i64 (rArith .add .i64 (rArith .mul .i64 h 6364136223846793005) 1442695040888963407) 45)) 255) (rConv .i64 (rGet zI b i))) (c := 255) (by omega)
    refine ⟨this.1, this.2, rfl, ?_⟩
    show 0 ≤ rArith .add .i64 i 1
    rw [add64 (by omega) (by omega)]
    omega
  · have := and64 (rArith .xor .i64 (rShift .shr .i64 (rArith .add .i64 (rArith .mul .i64 h 6364136223846793005) 1442695040888963407) 33) (rShift .shr .i64 (rArith .add .i64 (rArith .mul .i64 h 6364136223846793005) 1442695040888963407) 45)) (c := 255) (by omega)
    exact .ret ⟨this.1, this.2, rfl, hi⟩
/-- A number below n (0 where n is not above 0). -/
theorem below_yl (b : List Int) (hb : b.length ≤ 1048576) (i h n : Int) (hi : 0 ≤ i) (hn : n ≤ 1073741824) : Yl (spec_l01Below b i h n) (Drawn b 0 (max 0 (n - 1))) := by
  unfold spec_l01Below
  have mod : ∀ (x : Int), 0 ≤ x → 0 < n → 0 ≤ rArith .rem .i64 x n ∧ rArith .rem .i64 x n ≤ max 0 (n - 1) := by
    intro x hx hn
    have e : rArith .rem .i64 x n = x.tmod n := rfl
    have h1 := Int.tmod_nonneg n hx
    have h2 := Int.tmod_lt_of_pos x hn
    rw [e]
    omega
  refine .cond (fun _ => .ret ⟨Int.le_refl _, by show (0 : Int) ≤ max 0 (n - 1); omega, rfl, hi⟩) fun h0 => .cond (fun _ => ?_) fun h1 => ?_
  · rw [cmp_leq] at h0
    have h0 := of_decide_eq_false h0
    refine (byte_yl b hb i h hi).bind fun y hy => .nguard (decide_eq_false (by omega)) (.ret ?_)
    have := mod y.1 hy.1 (by omega)
    exact ⟨this.1, this.2, hy.2.2.1, hy.2.2.2⟩
  · rw [cmp_leq] at h0
    have h0 := of_decide_eq_false h0
    refine (byte_yl b hb i h hi).bind fun y hy => ?_
    obtain ⟨y1, y2, y3, y4⟩ := hy
    rw [y3]
    refine (byte_yl b hb _ _ y4).bind fun z hz => ?_
    obtain ⟨z1, z2, z3, z4⟩ := hz
    rw [z3]
    refine (byte_yl b hb _ _ z4).bind fun u hu => ?_
    obtain ⟨u1, u2, u3, u4⟩ := hu
    rw [u3]
    refine (byte_yl b hb _ _ u4).bind fun v hv => .lets (.nguard (decide_eq_false (by omega)) (.ret ?_))
    obtain ⟨v1, v2, v3, v4⟩ := hv
    have e : rArith .add .i64 (rArith .add .i64 (rArith .add .i64 (rArith .mul .i64 y.1 16777216) (rArith .mul .i64 z.1 65536)) (rArith .mul .i64 u.1 256)) v.1 = y.1 * 16777216 + z.1 * 65536 + u.1 * 256 + v.1 := by
      rw [mul64 (a := y.1) (by omega) (by omega), mul64 (a := z.1) (by omega) (by omega), mul64 (a := u.1) (by omega) (by omega), add64 (a := y.1 * 16777216) (by omega) (by omega), add64 (a := y.1 * 16777216 + z.1 * 65536) (by omega) (by omega), add64 (a := y.1 * 16777216 + z.1 * 65536 + u.1 * 256) (by omega) (by omega)]
    have := mod (y.1 * 16777216 + z.1 * 65536 + u.1 * 256 + v.1) (by omega) (by omega)
    rw [e]
    exact ⟨this.1, this.2, v3, v4⟩
theorem once_yl (b : List Int) (hb : b.length ≤ 1048576) (i h n : Int) (hi : 0 ≤ i) (hn : n ≤ 1073741824) : Yl (spec_l01Once b i h n) fun y => y.2.1 = b ∧ 0 ≤ y.2.2.1 := by
  unfold spec_l01Once
  exact (below_yl b hb i h n hi hn).bind fun y hy => .ret ⟨hy.2.2.1, hy.2.2.2⟩
/-- One of a list that is not empty. -/
theorem pickInt_yl (b : List Int) (hb : b.length ≤ 1048576) (i h : Int) (l : List Int) (hi : 0 ≤ i) (h1 : 1 ≤ l.length) (h2 : l.length ≤ 1048576) : Yl (spec_l01PickInt b i h l) fun y => y.1 ∈ l ∧ y.2.1 = b ∧ 0 ≤ y.2.2.1 := by
  unfold spec_l01PickInt
  refine (below_yl b hb i h (rLen l) hi (by unfold rLen; omega)).bind fun y hy => ?_
  obtain ⟨y1, y2, y3, y4⟩ := hy
  have y2 : y.1 ≤ max 0 ((l.length : Int) - 1) := y2
  refine .guard (inR_int y1 (by omega)) (.ret ⟨?_, y3, y4⟩)
  show l.getD y.1.toNat zI ∈ l
  have hlt : y.1.toNat < l.length := by omega
  rw [List.getD_eq_getElem?_getD, List.getElem?_eq_getElem hlt]
  exact List.getElem_mem hlt
theorem new_yl (b : List Int) (hb : b.length ≤ 1048576) : Yl (spec_l01New b) fun y => y.1 = b ∧ y.2.1 = 0 := by
  unfold spec_l01New
  have hl : Yl (spec_l01New_l0 (b, ()) (rArith .add .i64 33183 (rLen b), 0, ())) fun _ => True := by
    unfold spec_l01New_l0
    refine Yl.loop (fun x => 0 ≤ x.2.1) (fun x => b.length + 1 - x.2.1.toNat) (fun x hx => ?_) big _ (by show (0 : Int) ≤ 0; omega) (lt_big (by show b.length + 1 - (0 : Int).toNat < _; omega))
    unfold spec_l01New_b0
    refine .cond (fun h1 => .cond (fun _ => ?_) fun _ => .ret trivial) fun _ => .ret trivial
    rw [cmp_lss] at h1
    have h1 : x.2.1 < (b.length : Int) := of_decide_eq_true h1
    refine .guard (inR_int hx h1) (.ret ?_)
    have e : rArith .add .i64 x.2.1 1 = x.2.1 + 1 := add64 (by omega) (by omega)
    show 0 ≤ rArith .add .i64 x.2.1 1 ∧ b.length + 1 - (rArith .add .i64 x.2.1 1).toNat < b.length + 1 - x.2.1.toNat
    rw [e]
    omega
  refine hl.bind fun q _ => ?_
  cases q with
  | inl y => exact .ret ⟨rfl, rfl⟩
  | inr q => exact nomatch q
end Go.R
