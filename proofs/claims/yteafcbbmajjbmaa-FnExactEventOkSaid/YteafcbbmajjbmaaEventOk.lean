/- For every event the law FnExactEventOk returns true and leaves its argument as it was. Conditions: none beyond the row's. -/
import Derived.Test.YteafcbbmajjbmaaRows
import Derived.Test.YteafcbbmajjbmaaRB
import Derived.WalkKit
import Derived.ProofKit
import Derived.OpenShut
import Derived.ShutString
import Derived.ChangeOld
import Derived.Below
import Derived.SizedLaws
import Derived.KernelRfl
set_option linter.unusedVariables false
set_option linter.unusedSimpArgs false
namespace Go.Proofs.Yteafcbbmajjbmaa.fnExactEventOk
open Go.R
open Go.ChangeShapes Go.WideShapes Go.ChangeAt Go.RowKit
def tI : TI := ⟨.cons (.int .i64) .nil, false, 8, [], none⟩
def tB : TI := ⟨.cons .bool .nil, false, 1, [], none⟩
def csE : Tys := .cons (.int .i64) (.cons (.int .i64) (.cons (.int .i64) (.cons (.int .i64) (.cons (.int .i64) (.cons (.int .i64) (.cons (.int .i64) .nil))))))
def tE : TI := ⟨csE, true, 56, [(0, 1, false), (1, 1, false), (2, 1, false), (3, 1, false), (4, 1, false), (5, 1, false), (6, 1, false)], none⟩
def table : List (Nat × TI) := [(3, tI), (4, tB), (25, tE), (27, tE)]
theorem table_ok : chkAll Try.prog table = true := by kernel_rfl
def env (nt : Nat) : Env := { ti := lookT table, deep := fun _ => false, trunc := fun _ => false, ro := fun _ => false, eqT := fun _ => false, nt := nt }
theorem env_ok (nt : Nat) : EnvOk Try.prog (env nt) := envOk_of table_ok _ rfl (fun _ => rfl)
def kI : K := .val (.int .i64)
def kB : K := .val .bool
def kE : List K := [kI, kI, kI, kI, kI, kI, kI]
def body (fn : Func) : Code := fn.body.getD .skip
abbrev RB := Option (Bool × Unit)

def within (n lo hi : Int) : RB := bif rCmp .geq n lo then some (rCmp .leq n hi, ()) else some (false, ())
def F35 : FnR := ⟨true, [.one kI, .one kI, .one kI], [.one kB], fun x => within x.1 x.2.1 x.2.2.1⟩
theorem ok35 : CallOk Try.prog 35 F35 :=
  func_ok (E := env 15) (Ψ := fun _ => none) (Λ := fun _ => none) (fn := Try.f35) (c := body Try.f35) (env_ok _) (fun _ _ h => nomatch h) Try.func35 (by kernel_rfl) (by kernel_rfl) (by kernel_rfl) (by decide) (fun p hp q hq => nomatch hq) (fun x => by kernel_rfl)
def F34 : FnR := F35
theorem ok34 : CallOk Try.prog 34 F34 :=
  func_ok (E := env 15) (Ψ := fun _ => none) (Λ := fun _ => none) (fn := Try.f34) (c := body Try.f34) (env_ok _) (fun _ _ h => nomatch h) Try.func34 (by kernel_rfl) (by kernel_rfl) (by kernel_rfl) (by decide) (fun p hp q hq => nomatch hq) (fun x => by kernel_rfl)

/-- A small table of functions. -/
def look1F : List (Nat × FnR) → FuncId → Option FnR
  | [], _ => none
  | (f, F) :: r, n => bif Nat.beq f n then some F else look1F r n
theorem look1F_ok {P : Program} : ∀ {l : List (Nat × FnR)}, (∀ p ∈ l, CallOk P p.1 p.2) → ∀ f F, look1F l f = some F → CallOk P f F
  | [], _, _, _, h => by cases h
  | (g, G) :: l, hl, f, F, h => by
    simp only [look1F] at h
    cases hb : Nat.beq g f with
    | true =>
      rw [hb] at h
      have h := Option.some.inj h
      subst h
      have := hl (g, G) (by simp)
      rw [Nat.eq_of_beq_eq_true hb] at this
      exact this
    | false =>
      rw [hb] at h
      exact look1F_ok (fun p hp => hl p (by simp [hp])) f F h
def timeOk (t : Int) : RB := (within t (0 : Int) (20000 : Int)).bind fun y => some (y.1, ())
def F36 : FnR := ⟨true, [.one kI], [.one kB], fun x => timeOk x.1⟩
theorem ok36 : CallOk Try.prog 36 F36 :=
  func_ok (E := env 5) (Ψ := look1F [(35, F35)]) (Λ := fun _ => none) (fn := Try.f36) (c := body Try.f36) (env_ok _) (look1F_ok (by intro p hp; simp at hp; subst hp; exact ok35)) Try.func36 (by kernel_rfl) (by kernel_rfl) (by kernel_rfl) (by decide) (fun p hp q hq => nomatch hq) (fun x => by kernel_rfl)
def evOk (time : Int → RB) (a b c d e f g : Int) : RB :=
  (within a (0 : Int) (5 : Int)).bind fun y => bif y.1 then (within b (1 : Int) (999 : Int)).bind fun y => bif y.1 then (within c (1 : Int) (100000 : Int)).bind fun y => bif y.1 then (within d (1 : Int) (4 : Int)).bind fun y => bif y.1 then
    (within e (1 : Int) (999 : Int)).bind fun y => bif y.1 then (time f).bind fun y => bif y.1 then (time g).bind fun y => some (y.1, ())
    else some (false, ()) else some (false, ()) else some (false, ()) else some (false, ()) else some (false, ()) else some (false, ())
def F13 : FnR := ⟨true, [.agg kE], [.one kB], fun x => evOk timeOk x.1 x.2.1 x.2.2.1 x.2.2.2.1 x.2.2.2.2.1 x.2.2.2.2.2.1 x.2.2.2.2.2.2.1⟩
theorem ok13 : CallOk Try.prog 13 F13 :=
  func_ok (E := env 36) (Ψ := look1F [(35, F35), (36, F36)]) (Λ := fun _ => none) (fn := Try.f13) (c := body Try.f13) (env_ok _) (look1F_ok (by intro p hp; simp at hp; rcases hp with rfl | rfl <;> first | exact ok35 | exact ok36)) Try.func13 (by kernel_rfl) (by kernel_rfl) (by kernel_rfl) (by decide) (fun p hp q hq => nomatch hq) (fun x => by kernel_rfl)
def F11 : FnR := ⟨true, [.agg kE], [.one kB], fun x => evOk (fun t => within t (0 : Int) (20000 : Int)) x.1 x.2.1 x.2.2.1 x.2.2.2.1 x.2.2.2.2.1 x.2.2.2.2.2.1 x.2.2.2.2.2.2.1⟩
theorem ok11 : CallOk Try.prog 11 F11 :=
  func_ok (E := env 36) (Ψ := look1F [(34, F34)]) (Λ := fun _ => none) (fn := Try.f11) (c := body Try.f11) (env_ok _) (look1F_ok (by intro p hp; simp at hp; subst hp; exact ok34)) Try.func11 (by kernel_rfl) (by kernel_rfl) (by kernel_rfl) (by decide) (fun p hp q hq => nomatch hq) (fun x => by kernel_rfl)
def F12 : FnR := ⟨true, [.agg kE], [.agg kE], fun x => some (x.1, x.2.1, x.2.2.1, x.2.2.2.1, x.2.2.2.2.1, x.2.2.2.2.2.1, x.2.2.2.2.2.2.1, ())⟩
theorem ok12 : CallOk Try.prog 12 F12 :=
  func_ok (E := env 26) (Ψ := fun _ => none) (Λ := fun _ => none) (fn := Try.f12) (c := body Try.f12) (env_ok _) (fun _ _ h => nomatch h) Try.func12 (by kernel_rfl) (by kernel_rfl) (by kernel_rfl) (by decide) (fun p hp q hq => nomatch hq) (fun x => by kernel_rfl)
def law (x : KTs real kE) : RB :=
  (F12.fn x).bind fun y => (F11.fn y).bind fun w0 => (F12.fn x).bind fun y => (F13.fn y).bind fun g0 => bif Bool.not (rBeq g0.1 w0.1) then some (false, ()) else some (true, ())
def F4 : FnR := ⟨true, [.agg kE], [.one kB], fun x => law x⟩
theorem ok4 : CallOk Try.prog 4 F4 :=
  func_ok (E := env 14) (Ψ := look1F [(11, F11), (12, F12), (13, F13)]) (Λ := fun _ => none) (fn := Try.f4) (c := body Try.f4) (env_ok _) (look1F_ok (by intro p hp; simp at hp; rcases hp with rfl | rfl | rfl <;> first | exact ok11 | exact ok12 | exact ok13)) Try.func4 (by kernel_rfl) (by kernel_rfl) (by kernel_rfl) (by decide) (fun p hp q hq => nomatch hq) (fun x => by kernel_rfl)
theorem timeOk_eq (t : Int) : timeOk t = within t (0 : Int) (20000 : Int) := by
  unfold timeOk within
  cases rCmp .geq t 0 <;> rfl
theorem within_some (a b c : Int) : ∃ y, within a b c = some y := by
  unfold within
  cases rCmp .geq a b <;> exact ⟨_, rfl⟩
theorem bind_some' {α β : Type} {o : Option α} {f : α → Option β} (ho : ∃ y, o = some y) (hf : ∀ y, ∃ z, f y = some z) : ∃ z, o.bind f = some z := by
  obtain ⟨y, rfl⟩ := ho
  exact hf y
theorem ifs {α : Type} {b : Bool} {x y : Option α} (hx : ∃ z, x = some z) (hy : ∃ z, y = some z) : ∃ z, (bif b then x else y) = some z := by
  cases b
  · exact hy
  · exact hx
theorem evOk_some (a b c d e f g : Int) : ∃ y, evOk (fun t => within t (0 : Int) (20000 : Int)) a b c d e f g = some y := by
  unfold evOk
  refine bind_some' (within_some _ _ _) fun y => ifs ?_ ⟨_, rfl⟩
  refine bind_some' (within_some _ _ _) fun y => ifs ?_ ⟨_, rfl⟩
  refine bind_some' (within_some _ _ _) fun y => ifs ?_ ⟨_, rfl⟩
  refine bind_some' (within_some _ _ _) fun y => ifs ?_ ⟨_, rfl⟩
  refine bind_some' (within_some _ _ _) fun y => ifs ?_ ⟨_, rfl⟩
  refine bind_some' (within_some _ _ _) fun y => ifs ?_ ⟨_, rfl⟩
  exact bind_some' (within_some _ _ _) fun y => ⟨_, rfl⟩
theorem law_true (x : KTs real kE) : law x = some (true, ()) := by
  have h : (fun t => timeOk t) = fun t => within t (0 : Int) (20000 : Int) := funext timeOk_eq
  obtain ⟨y, hy⟩ := evOk_some x.1 x.2.1 x.2.2.1 x.2.2.2.1 x.2.2.2.2.1 x.2.2.2.2.2.1 x.2.2.2.2.2.2.1
  have h1 : F11.fn (x.1, x.2.1, x.2.2.1, x.2.2.2.1, x.2.2.2.2.1, x.2.2.2.2.2.1, x.2.2.2.2.2.2.1, ()) = some y := hy
  have h2 : F13.fn (x.1, x.2.1, x.2.2.1, x.2.2.2.1, x.2.2.2.2.1, x.2.2.2.2.2.1, x.2.2.2.2.2.2.1, ()) = some y := by
    show evOk (fun t => timeOk t) _ _ _ _ _ _ _ = _
    rw [h]; exact hy
  show (F11.fn (x.1, x.2.1, x.2.2.1, x.2.2.2.1, x.2.2.2.2.1, x.2.2.2.2.2.1, x.2.2.2.2.2.2.1, ())).bind _ = _
  rw [h1]
  show (F13.fn (x.1, x.2.1, x.2.2.1, x.2.2.2.1, x.2.2.2.2.1, x.2.2.2.2.2.1, x.2.2.2.2.2.2.1, ())).bind _ = _
  rw [h2]
  show (bif Bool.not (rBeq y.1 y.1) then some (false, ()) else some (true, ())) = _
  unfold rBeq
  simp

theorem own : ownKnob Try.prog.godebug = none := by kernel_rfl
theorem laid : laidOutB Try.prog = true := by kernel_rfl
theorem rowed : mapsRowed Try.prog = true := by kernel_rfl
theorem full : ((List.range Try.prog.types.size).all fun t => match Try.prog.underlying t with | some (.slice e) => decide (0 < Try.prog.cellsOf e) | _ => true) = true := by kernel_rfl
theorem ok_sh : parShs Try.prog [25] = some F4.args := by kernel_rfl
set_option maxRecDepth 100000 in
theorem lifted (os : Os) (started : os.Started) (H : Type) (enc : TypeId × Value → H) :
    ReturnsInHanded {} Try.checked os 4 .any (Rows.fnExactEventOkSpec.pre6 enc Try.prog Try.f4 Rows.fnExactEventOkRow.domain false) (Rows.fnExactEventOkSpec.post enc Try.prog Try.f4 false true false false) := by
  refine returnsInHanded_of_change_sized (C := Try.checked) own started (by kernel_rfl) Try.func4
    (ChangeSpec.witness6 (enc := enc) (C := Try.checked) false ⟨#[], #[.agg #[.int .i64 0, .int .i64 0, .int .i64 0, .int .i64 0, .int .i64 0, .int .i64 0, .int .i64 0]], []⟩ 8 (by kernel_rfl) (by kernel_rfl) (by kernel_rfl) (by kernel_rfl)) ?_
  intro W base args ds gs before hval0 hW hcnd hsz0 _
  have hval : ∀ (j : Nat) t v, Try.f4.params[j]? = some t → args[j]? = some v → Value.okWide Try.prog W .any base t v := hval0
  have hW' := hW
  obtain ⟨p, q, hA0, hV, rfl, hfz, hnd⟩ := hW
  have hA : DataW.TrodAll enc Try.prog W 0 (fun _ => true) true Try.f4.params.toList args.toList ds p := hA0
  rw [Try.params4] at hA hval
  obtain ⟨rfl, rfl⟩ := trodVars_none hV
  have hA1 : DataW.TrodAll enc Try.prog W 0 (fun _ => true) true [25] args.toList ds p := hA
  obtain ⟨v0, vs0, d0, ds0, p0, q0, hargs, hds, hp, h0, r0⟩ := trodAll_cons hA1
  obtain ⟨e1, e2, e3⟩ := trodAll_nil r0
  subst e1 e2 e3 hds
  have hc := law_calls (b0 := base) ok4 ok_sh rfl rfl (fun x _ => ⟨(true, ()), law_true x, rfl⟩) (fun j t v hj hv => hval j t v (by simpa using hj) (by simpa using hv)) hA1
  have hargs' : args.toList.toArray = args := by simp
  rw [hargs'] at hc
  refine hc.mono fun e W' ⟨he, bel⟩ => ?_
  subst he
  exact ⟨_, rfl, _, _, _, [], _, [], hW', trodAll_mk1 (shut_bool Try.underlying4 _), args_again laid rowed full (by kernel_rfl) bel hA1, rfl, bel.frame _, fun h => by cases h⟩
theorem over : Rows.fnExactEventOkRow.holds Try.pinned (OpenSpec.ofChange Rows.fnExactEventOkSpec) :=
  OpenClaim.holds_of_wide 4 Try.f4 rfl rfl rfl rfl rfl rfl rfl ⟨rfl, rfl, rfl, rfl, rfl⟩ rfl rfl rfl rfl rfl (by kernel_rfl) Try.func4 (by kernel_rfl)
    (of_decide_eq_true (by kernel_rfl)) (by unfold Func.isWrapper; first | (rw [if_pos (by decide +kernel)]; kernel_rfl) | (rw [if_neg (by decide +kernel)]; exact ⟨rfl, rfl⟩))
    (fun os started H enc _ => lifted os started H enc)
theorem proved : Rows.FnExactEventOkSaid := over
#print axioms proved
end Go.Proofs.Yteafcbbmajjbmaa.fnExactEventOk
namespace Go.Proofs.Yteafcbbmajjbmaa
/-- The row, under a short name, for the claim. -/
theorem fnExactEventOk_holds : Rows.FnExactEventOkSaid := fnExactEventOk.proved
end Go.Proofs.Yteafcbbmajjbmaa
