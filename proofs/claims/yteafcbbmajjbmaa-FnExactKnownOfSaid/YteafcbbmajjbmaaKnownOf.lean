/- For every argument the law FnExactKnownOf returns true and leaves its arguments as they were. Conditions: none beyond the row's. -/
import Derived.Test.YteafcbbmajjbmaaRows
import Derived.Test.YteafcbbmajjbmaaFnB
import Derived.Test.YteafcbbmajjbmaaPB
import Derived.WalkKit
import Derived.ProofKit
import Derived.OpenShut
import Derived.ShutString
import Derived.ChangeOld
import Derived.Below
import Derived.SizedLaws
import Derived.KernelRfl
set_option linter.unusedVariables false
set_option linter.unusedSimpArgs false
namespace Go.Proofs.Yteafcbbmajjbmaa.fnExactKnownOf
open Go.R Go.Fn
open Go.ChangeShapes Go.WideShapes Go.ChangeAt Go.RowKit
set_option maxRecDepth 100000
def table : List (Nat × TI) := [(2, ⟨(.cons (.int .i64) .nil), false, 8, [], none⟩),
  (3, ⟨(.cons (.int .i64) .nil), false, 8, [], none⟩),
  (4, ⟨(.cons .bool .nil), false, 1, [], none⟩),
  (5, ⟨(.cons (.int .u8) .nil), false, 1, [], none⟩),
  (6, ⟨(.cons (.int .u8) .nil), false, 1, [], none⟩),
  (7, ⟨(.cons (.int .i64) (.cons (.int .i64) (.cons .bool (.cons (.int .u8) .nil)))), true, 24, [(0, 1, false), (1, 1, false), (2, 1, false), (3, 1, false)], none⟩),
  (8, ⟨(.cons (.int .i64) (.cons (.int .i64) (.cons .bool (.cons (.int .u8) .nil)))), true, 24, [(0, 1, false), (1, 1, false), (2, 1, false), (3, 1, false)], none⟩),
  (9, ⟨(.cons .str .nil), false, 16, [], none⟩),
  (10, ⟨(.cons .str .nil), false, 16, [], none⟩),
  (11, ⟨(.cons .str .nil), false, 16, [], none⟩),
  (12, ⟨(.cons (.int .u64) .nil), false, 8, [], none⟩),
  (13, ⟨(.cons .str (.cons (.int .u64) .nil)), true, 24, [(0, 1, false), (1, 1, false)], none⟩),
  (14, ⟨(.cons .str (.cons (.int .u64) .nil)), true, 24, [(0, 1, false), (1, 1, false)], none⟩),
  (21, ⟨(.cons (.int .i32) .nil), false, 4, [], none⟩),
  (24, ⟨(.cons (.int .i64) (.cons (.int .i64) (.cons (.int .i64) (.cons (.int .i64) (.cons (.int .i64) (.cons (.int .i64) (.cons (.int .i64) .nil))))))), true, 56, [(0, 1, false), (1, 1, false), (2, 1, false), (3, 1, false), (4, 1, false), (5, 1, false), (6, 1, false)], none⟩),
  (25, ⟨(.cons (.int .i64) (.cons (.int .i64) (.cons (.int .i64) (.cons (.int .i64) (.cons (.int .i64) (.cons (.int .i64) (.cons (.int .i64) .nil))))))), true, 56, [(0, 1, false), (1, 1, false), (2, 1, false), (3, 1, false), (4, 1, false), (5, 1, false), (6, 1, false)], none⟩),
  (27, ⟨(.cons (.int .i64) (.cons (.int .i64) (.cons (.int .i64) (.cons (.int .i64) (.cons (.int .i64) (.cons (.int .i64) (.cons (.int .i64) .nil))))))), true, 56, [(0, 1, false), (1, 1, false), (2, 1, false), (3, 1, false), (4, 1, false), (5, 1, false), (6, 1, false)], none⟩),
  (30, ⟨(.cons (.sl 25 (.cons (.int .i64) (.cons (.int .i64) (.cons (.int .i64) (.cons (.int .i64) (.cons (.int .i64) (.cons (.int .i64) (.cons (.int .i64) .nil)))))))) .nil), false, 24, [], some 25⟩),
  (33, ⟨(.cons (.sl 27 (.cons (.int .i64) (.cons (.int .i64) (.cons (.int .i64) (.cons (.int .i64) (.cons (.int .i64) (.cons (.int .i64) (.cons (.int .i64) .nil)))))))) .nil), false, 24, [], some 27⟩),
  (37, ⟨(.cons (.sl 3 (.cons (.int .i64) .nil)) .nil), false, 24, [], some 3⟩),
  (42, ⟨(.cons (.sl 37 (.cons (.sl 3 (.cons (.int .i64) .nil)) .nil)) .nil), false, 24, [], some 37⟩),
  (43, ⟨(.cons (.sl 70 (.cons (.int .i64) (.cons (.int .i64) (.cons (.int .i64) (.cons (.int .i64) (.cons (.int .i64) .nil)))))) .nil), false, 24, [], some 70⟩),
  (44, ⟨(.cons (.int .i64) (.cons (.int .i64) (.cons (.sl 37 (.cons (.sl 3 (.cons (.int .i64) .nil)) .nil)) (.cons (.sl 70 (.cons (.int .i64) (.cons (.int .i64) (.cons (.int .i64) (.cons (.int .i64) (.cons (.int .i64) .nil)))))) .nil)))), true, 64, [(0, 1, false), (1, 1, false), (2, 1, false), (3, 1, false)], none⟩),
  (45, ⟨(.cons (.int .i64) (.cons (.int .i64) (.cons (.sl 37 (.cons (.sl 3 (.cons (.int .i64) .nil)) .nil)) (.cons (.sl 70 (.cons (.int .i64) (.cons (.int .i64) (.cons (.int .i64) (.cons (.int .i64) (.cons (.int .i64) .nil)))))) .nil)))), true, 64, [(0, 1, false), (1, 1, false), (2, 1, false), (3, 1, false)], none⟩),
  (48, ⟨(.cons (.sl 63 (.cons (.int .i64) (.cons (.int .i64) (.cons (.int .i64) (.cons (.int .i64) (.cons (.int .i64) .nil)))))) .nil), false, 24, [], some 63⟩),
  (49, ⟨(.cons (.int .i64) (.cons (.int .i64) (.cons (.sl 37 (.cons (.sl 3 (.cons (.int .i64) .nil)) .nil)) (.cons (.sl 63 (.cons (.int .i64) (.cons (.int .i64) (.cons (.int .i64) (.cons (.int .i64) (.cons (.int .i64) .nil)))))) .nil)))), true, 64, [(0, 1, false), (1, 1, false), (2, 1, false), (3, 1, false)], none⟩),
  (50, ⟨(.cons (.int .i64) (.cons (.int .i64) (.cons (.sl 37 (.cons (.sl 3 (.cons (.int .i64) .nil)) .nil)) (.cons (.sl 63 (.cons (.int .i64) (.cons (.int .i64) (.cons (.int .i64) (.cons (.int .i64) (.cons (.int .i64) .nil)))))) .nil)))), true, 64, [(0, 1, false), (1, 1, false), (2, 1, false), (3, 1, false)], none⟩),
  (58, ⟨(.cons (.sl 9 (.cons .str .nil)) .nil), false, 24, [], some 9⟩),
  (62, ⟨(.cons (.int .i64) (.cons (.int .i64) (.cons (.int .i64) (.cons (.int .i64) (.cons (.int .i64) .nil))))), true, 40, [(0, 1, false), (1, 1, false), (2, 1, false), (3, 1, false), (4, 1, false)], none⟩),
  (63, ⟨(.cons (.int .i64) (.cons (.int .i64) (.cons (.int .i64) (.cons (.int .i64) (.cons (.int .i64) .nil))))), true, 40, [(0, 1, false), (1, 1, false), (2, 1, false), (3, 1, false), (4, 1, false)], none⟩),
  (70, ⟨(.cons (.int .i64) (.cons (.int .i64) (.cons (.int .i64) (.cons (.int .i64) (.cons (.int .i64) .nil))))), true, 40, [(0, 1, false), (1, 1, false), (2, 1, false), (3, 1, false), (4, 1, false)], none⟩),
  (80, ⟨(.cons (.int .u32) .nil), false, 4, [], none⟩),
  (81, ⟨(.cons (.int .u8) .nil), false, 1, [], none⟩),
  (82, ⟨(.cons (.int .u8) .nil), false, 1, [], none⟩),
  (85, ⟨(.cons (.int .i32) .nil), false, 4, [], none⟩),
  (86, ⟨(.cons (.int .i32) .nil), false, 4, [], none⟩)]
theorem table_ok : chkAll Try.prog table = true := by kernel_rfl
def env (nt : Nat) : Env := { ti := lookT table, deep := fun _ => false, trunc := fun _ => false, ro := fun _ => false, eqT := fun _ => false, nt := nt }
theorem env_ok (nt : Nat) : EnvOk Try.prog (env nt) := envOk_of (by kernel_rfl) table_ok _ rfl (fun _ => rfl)
def F_laws_szEventS : FnR := ⟨true, [.one (.val (.sl 25 (.cons (.int .i64) (.cons (.int .i64) (.cons (.int .i64) (.cons (.int .i64) (.cons (.int .i64) (.cons (.int .i64) (.cons (.int .i64) .nil))))))))), .one (.val (.int .i64))], [.one (.val (.int .i64))], fun x => laws_szEventS x.1 x.2.1⟩
theorem ok_laws_szEventS : CallOk Try.prog 14 F_laws_szEventS :=
  func_ok (E := env 12) (Ψ := (lookF [])) (Λ := (lookL [])) (fn := Try.f14) (c := body Try.f14) (env_ok _) (lookF_ok (l := []) trivial) Try.func14 (by kernel_rfl) (by kernel_rfl) (by kernel_rfl) (by decide) (loops_eq (l' := []) (by kernel_rfl) (loops_nil (P := Try.prog) (E := env 12) (Λ := (lookL [])) rfl)) (fun x => by kernel_rfl)
def F_laws_toEvent : FnR := ⟨true, [.agg [.val (.int .i64), .val (.int .i64), .val (.int .i64), .val (.int .i64), .val (.int .i64), .val (.int .i64), .val (.int .i64)]], [.agg [.val (.int .i64), .val (.int .i64), .val (.int .i64), .val (.int .i64), .val (.int .i64), .val (.int .i64), .val (.int .i64)]], fun x => laws_toEvent x.1 x.2.1 x.2.2.1 x.2.2.2.1 x.2.2.2.2.1 x.2.2.2.2.2.1 x.2.2.2.2.2.2.1⟩
theorem ok_laws_toEvent : CallOk Try.prog 12 F_laws_toEvent :=
  func_ok (E := env 26) (Ψ := (lookF [])) (Λ := (lookL [])) (fn := Try.f12) (c := body Try.f12) (env_ok _) (lookF_ok (l := []) trivial) Try.func12 (by kernel_rfl) (by kernel_rfl) (by kernel_rfl) (by decide) (loops_eq (l' := []) (by kernel_rfl) (loops_nil (P := Try.prog) (E := env 26) (Λ := (lookL [])) rfl)) (fun x => by kernel_rfl)
def L_laws_toEventS_0 : LoopR := ⟨[(0, .one (.val (.sl 25 (.cons (.int .i64) (.cons (.int .i64) (.cons (.int .i64) (.cons (.int .i64) (.cons (.int .i64) (.cons (.int .i64) (.cons (.int .i64) .nil))))))))))], [(3, .one (.arr 27 (.cons (.int .i64) (.cons (.int .i64) (.cons (.int .i64) (.cons (.int .i64) (.cons (.int .i64) (.cons (.int .i64) (.cons (.int .i64) .nil))))))) false)), (4, .one (.val (.int .i64)))], [(.exit 0, [(3, .one (.arr 27 (.cons (.int .i64) (.cons (.int .i64) (.cons (.int .i64) (.cons (.int .i64) (.cons (.int .i64) (.cons (.int .i64) (.cons (.int .i64) .nil))))))) false))])], fun k x => laws_toEventS_l0 k x⟩
theorem lo_laws_toEventS_0 : LoopOk Try.prog (env 23) (lp 0 (body Try.f16) 0) L_laws_toEventS_0 :=
  loop_ok' (Ψ := (lookF [(12, F_laws_toEvent)])) (Λ := (lookL [])) (env_ok _) (lookF_ok ⟨ok_laws_toEvent, trivial⟩) (n := 0) (keep := [(0, .one (.val (.sl 25 (.cons (.int .i64) (.cons (.int .i64) (.cons (.int .i64) (.cons (.int .i64) (.cons (.int .i64) (.cons (.int .i64) (.cons (.int .i64) .nil))))))))))]) (tmpl := [(3, .one (.arr 27 (.cons (.int .i64) (.cons (.int .i64) (.cons (.int .i64) (.cons (.int .i64) (.cons (.int .i64) (.cons (.int .i64) (.cons (.int .i64) .nil))))))) false)), (4, .one (.val (.int .i64)))]) (exits := [(.exit 0, [(3, .one (.arr 27 (.cons (.int .i64) (.cons (.int .i64) (.cons (.int .i64) (.cons (.int .i64) (.cons (.int .i64) (.cons (.int .i64) (.cons (.int .i64) .nil))))))) false))])]) (loops_eq (l' := []) (by kernel_rfl) (loops_nil (P := Try.prog) (E := env 23) (Λ := (lookL [])) rfl)) (fun k x => laws_toEventS_b0 k x) (fun k x => by kernel_rfl)
def F_laws_toEventS : FnR := ⟨true, [.one (.val (.sl 25 (.cons (.int .i64) (.cons (.int .i64) (.cons (.int .i64) (.cons (.int .i64) (.cons (.int .i64) (.cons (.int .i64) (.cons (.int .i64) .nil)))))))))], [.one (.arr 27 (.cons (.int .i64) (.cons (.int .i64) (.cons (.int .i64) (.cons (.int .i64) (.cons (.int .i64) (.cons (.int .i64) (.cons (.int .i64) .nil))))))) false)], fun x => laws_toEventS x.1⟩
theorem ok_laws_toEventS : CallOk Try.prog 16 F_laws_toEventS :=
  func_ok (E := env 23) (Ψ := (lookF [(12, F_laws_toEvent)])) (Λ := (lookL [(0, L_laws_toEventS_0)])) (fn := Try.f16) (c := body Try.f16) (env_ok _) (lookF_ok ⟨ok_laws_toEvent, trivial⟩) Try.func16 (by kernel_rfl) (by kernel_rfl) (by kernel_rfl) (by decide) (loops_eq (l' := [(0, lp 0 (body Try.f16) 0)]) (by kernel_rfl) (loops_cons (by kernel_rfl) lo_laws_toEventS_0 (loops_nil (P := Try.prog) (E := env 23) (Λ := (lookL [(0, L_laws_toEventS_0)])) rfl))) (fun x => by kernel_rfl)
def F_spec_l01In : FnR := ⟨true, [.one (.val (.int .i64)), .one (.val (.int .i64)), .one (.val (.int .i64))], [.one (.val .bool)], fun x => spec_l01In x.1 x.2.1 x.2.2.1⟩
theorem ok_spec_l01In : CallOk Try.prog 34 F_spec_l01In :=
  func_ok (E := env 15) (Ψ := (lookF [])) (Λ := (lookL [])) (fn := Try.f34) (c := body Try.f34) (env_ok _) (lookF_ok (l := []) trivial) Try.func34 (by kernel_rfl) (by kernel_rfl) (by kernel_rfl) (by decide) (loops_eq (l' := []) (by kernel_rfl) (loops_nil (P := Try.prog) (E := env 15) (Λ := (lookL [])) rfl)) (fun x => by kernel_rfl)
def F_spec_EventOk : FnR := ⟨true, [.agg [.val (.int .i64), .val (.int .i64), .val (.int .i64), .val (.int .i64), .val (.int .i64), .val (.int .i64), .val (.int .i64)]], [.one (.val .bool)], fun x => spec_EventOk x.1 x.2.1 x.2.2.1 x.2.2.2.1 x.2.2.2.2.1 x.2.2.2.2.2.1 x.2.2.2.2.2.2.1⟩
theorem ok_spec_EventOk : CallOk Try.prog 11 F_spec_EventOk :=
  func_ok (E := env 36) (Ψ := (lookF [(34, F_spec_l01In)])) (Λ := (lookL [])) (fn := Try.f11) (c := body Try.f11) (env_ok _) (lookF_ok ⟨ok_spec_l01In, trivial⟩) Try.func11 (by kernel_rfl) (by kernel_rfl) (by kernel_rfl) (by decide) (loops_eq (l' := []) (by kernel_rfl) (loops_nil (P := Try.prog) (E := env 36) (Λ := (lookL [])) rfl)) (fun x => by kernel_rfl)
def L_spec_JournalOk_0 : LoopR := ⟨[(0, .one (.val (.sl 27 (.cons (.int .i64) (.cons (.int .i64) (.cons (.int .i64) (.cons (.int .i64) (.cons (.int .i64) (.cons (.int .i64) (.cons (.int .i64) .nil))))))))))], [(3, .one (.val (.int .i64)))], [(.ret, [(2, .one (.val .bool))]), (.exit 0, [])], fun k x => spec_JournalOk_l0 k x⟩
theorem lo_spec_JournalOk_0 : LoopOk Try.prog (env 73) (lp 0 (body Try.f15) 0) L_spec_JournalOk_0 :=
  loop_ok' (Ψ := (lookF [(11, F_spec_EventOk)])) (Λ := (lookL [])) (env_ok _) (lookF_ok ⟨ok_spec_EventOk, trivial⟩) (n := 0) (keep := [(0, .one (.val (.sl 27 (.cons (.int .i64) (.cons (.int .i64) (.cons (.int .i64) (.cons (.int .i64) (.cons (.int .i64) (.cons (.int .i64) (.cons (.int .i64) .nil))))))))))]) (tmpl := [(3, .one (.val (.int .i64)))]) (exits := [(.ret, [(2, .one (.val .bool))]), (.exit 0, [])]) (loops_eq (l' := []) (by kernel_rfl) (loops_nil (P := Try.prog) (E := env 73) (Λ := (lookL [])) rfl)) (fun k x => spec_JournalOk_b0 k x) (fun k x => by kernel_rfl)
def F_spec_JournalOk : FnR := ⟨true, [.one (.val (.sl 27 (.cons (.int .i64) (.cons (.int .i64) (.cons (.int .i64) (.cons (.int .i64) (.cons (.int .i64) (.cons (.int .i64) (.cons (.int .i64) .nil)))))))))], [.one (.val .bool)], fun x => spec_JournalOk x.1⟩
theorem ok_spec_JournalOk : CallOk Try.prog 15 F_spec_JournalOk :=
  func_ok (E := env 73) (Ψ := (lookF [(11, F_spec_EventOk)])) (Λ := (lookL [(0, L_spec_JournalOk_0)])) (fn := Try.f15) (c := body Try.f15) (env_ok _) (lookF_ok ⟨ok_spec_EventOk, trivial⟩) Try.func15 (by kernel_rfl) (by kernel_rfl) (by kernel_rfl) (by decide) (loops_eq (l' := [(0, lp 0 (body Try.f15) 0)]) (by kernel_rfl) (loops_cons (by kernel_rfl) lo_spec_JournalOk_0 (loops_nil (P := Try.prog) (E := env 73) (Λ := (lookL [(0, L_spec_JournalOk_0)])) rfl))) (fun x => by kernel_rfl)
def L_spec_KnownOf_0 : LoopR := ⟨[(0, .one (.val (.sl 27 (.cons (.int .i64) (.cons (.int .i64) (.cons (.int .i64) (.cons (.int .i64) (.cons (.int .i64) (.cons (.int .i64) (.cons (.int .i64) .nil))))))))))], [(3, .one (.arr 3 (.cons (.int .i64) .nil) false)), (4, .one (.val (.int .i64)))], [(.exit 0, [(3, .one (.arr 3 (.cons (.int .i64) .nil) false))])], fun k x => spec_KnownOf_l0 k x⟩
theorem lo_spec_KnownOf_0 : LoopOk Try.prog (env 44) (lp 0 (body Try.f19) 0) L_spec_KnownOf_0 :=
  loop_ok' (Ψ := (lookF [(15, F_spec_JournalOk)])) (Λ := (lookL [])) (env_ok _) (lookF_ok ⟨ok_spec_JournalOk, trivial⟩) (n := 0) (keep := [(0, .one (.val (.sl 27 (.cons (.int .i64) (.cons (.int .i64) (.cons (.int .i64) (.cons (.int .i64) (.cons (.int .i64) (.cons (.int .i64) (.cons (.int .i64) .nil))))))))))]) (tmpl := [(3, .one (.arr 3 (.cons (.int .i64) .nil) false)), (4, .one (.val (.int .i64)))]) (exits := [(.exit 0, [(3, .one (.arr 3 (.cons (.int .i64) .nil) false))])]) (loops_eq (l' := []) (by kernel_rfl) (loops_nil (P := Try.prog) (E := env 44) (Λ := (lookL [])) rfl)) (fun k x => spec_KnownOf_b0 k x) (fun k x => by kernel_rfl)
def F_spec_KnownOf : FnR := ⟨true, [.one (.val (.sl 27 (.cons (.int .i64) (.cons (.int .i64) (.cons (.int .i64) (.cons (.int .i64) (.cons (.int .i64) (.cons (.int .i64) (.cons (.int .i64) .nil)))))))))], [.one (.arr 3 (.cons (.int .i64) .nil) false)], fun x => spec_KnownOf x.1⟩
theorem ok_spec_KnownOf : CallOk Try.prog 19 F_spec_KnownOf :=
  func_ok (E := env 44) (Ψ := (lookF [(15, F_spec_JournalOk)])) (Λ := (lookL [(0, L_spec_KnownOf_0)])) (fn := Try.f19) (c := body Try.f19) (env_ok _) (lookF_ok ⟨ok_spec_JournalOk, trivial⟩) Try.func19 (by kernel_rfl) (by kernel_rfl) (by kernel_rfl) (by decide) (loops_eq (l' := [(0, lp 0 (body Try.f19) 0)]) (by kernel_rfl) (loops_cons (by kernel_rfl) lo_spec_KnownOf_0 (loops_nil (P := Try.prog) (E := env 44) (Λ := (lookL [(0, L_spec_KnownOf_0)])) rfl))) (fun x => by kernel_rfl)
def F_impl_within : FnR := ⟨true, [.one (.val (.int .i64)), .one (.val (.int .i64)), .one (.val (.int .i64))], [.one (.val .bool)], fun x => impl_within x.1 x.2.1 x.2.2.1⟩
theorem ok_impl_within : CallOk Try.prog 35 F_impl_within :=
  func_ok (E := env 15) (Ψ := (lookF [])) (Λ := (lookL [])) (fn := Try.f35) (c := body Try.f35) (env_ok _) (lookF_ok (l := []) trivial) Try.func35 (by kernel_rfl) (by kernel_rfl) (by kernel_rfl) (by decide) (loops_eq (l' := []) (by kernel_rfl) (loops_nil (P := Try.prog) (E := env 15) (Λ := (lookL [])) rfl)) (fun x => by kernel_rfl)
def F_impl_timeOk : FnR := ⟨true, [.one (.val (.int .i64))], [.one (.val .bool)], fun x => impl_timeOk x.1⟩
theorem ok_impl_timeOk : CallOk Try.prog 36 F_impl_timeOk :=
  func_ok (E := env 5) (Ψ := (lookF [(35, F_impl_within)])) (Λ := (lookL [])) (fn := Try.f36) (c := body Try.f36) (env_ok _) (lookF_ok ⟨ok_impl_within, trivial⟩) Try.func36 (by kernel_rfl) (by kernel_rfl) (by kernel_rfl) (by decide) (loops_eq (l' := []) (by kernel_rfl) (loops_nil (P := Try.prog) (E := env 5) (Λ := (lookL [])) rfl)) (fun x => by kernel_rfl)
def F_impl_EventOk : FnR := ⟨true, [.agg [.val (.int .i64), .val (.int .i64), .val (.int .i64), .val (.int .i64), .val (.int .i64), .val (.int .i64), .val (.int .i64)]], [.one (.val .bool)], fun x => impl_EventOk x.1 x.2.1 x.2.2.1 x.2.2.2.1 x.2.2.2.2.1 x.2.2.2.2.2.1 x.2.2.2.2.2.2.1⟩
theorem ok_impl_EventOk : CallOk Try.prog 13 F_impl_EventOk :=
  func_ok (E := env 36) (Ψ := (lookF [(35, F_impl_within), (36, F_impl_timeOk)])) (Λ := (lookL [])) (fn := Try.f13) (c := body Try.f13) (env_ok _) (lookF_ok ⟨ok_impl_within, ok_impl_timeOk, trivial⟩) Try.func13 (by kernel_rfl) (by kernel_rfl) (by kernel_rfl) (by decide) (loops_eq (l' := []) (by kernel_rfl) (loops_nil (P := Try.prog) (E := env 36) (Λ := (lookL [])) rfl)) (fun x => by kernel_rfl)
def L_impl_JournalOk_0 : LoopR := ⟨[(0, .one (.val (.sl 27 (.cons (.int .i64) (.cons (.int .i64) (.cons (.int .i64) (.cons (.int .i64) (.cons (.int .i64) (.cons (.int .i64) (.cons (.int .i64) .nil)))))))))), (9, .one (.val (.sl 27 (.cons (.int .i64) (.cons (.int .i64) (.cons (.int .i64) (.cons (.int .i64) (.cons (.int .i64) (.cons (.int .i64) (.cons (.int .i64) .nil)))))))))), (10, .one (.val (.int .i64)))], [(11, .one (.val (.int .i64)))], [(.ret, [(2, .one (.val .bool))]), (.exit 0, [])], fun k x => impl_JournalOk_l0 k x⟩
theorem lo_impl_JournalOk_0 : LoopOk Try.prog (env 53) (lp 0 (body Try.f17) 0) L_impl_JournalOk_0 :=
  loop_ok' (Ψ := (lookF [(13, F_impl_EventOk)])) (Λ := (lookL [])) (env_ok _) (lookF_ok ⟨ok_impl_EventOk, trivial⟩) (n := 0) (keep := [(0, .one (.val (.sl 27 (.cons (.int .i64) (.cons (.int .i64) (.cons (.int .i64) (.cons (.int .i64) (.cons (.int .i64) (.cons (.int .i64) (.cons (.int .i64) .nil)))))))))), (9, .one (.val (.sl 27 (.cons (.int .i64) (.cons (.int .i64) (.cons (.int .i64) (.cons (.int .i64) (.cons (.int .i64) (.cons (.int .i64) (.cons (.int .i64) .nil)))))))))), (10, .one (.val (.int .i64)))]) (tmpl := [(11, .one (.val (.int .i64)))]) (exits := [(.ret, [(2, .one (.val .bool))]), (.exit 0, [])]) (loops_eq (l' := []) (by kernel_rfl) (loops_nil (P := Try.prog) (E := env 53) (Λ := (lookL [])) rfl)) (fun k x => impl_JournalOk_b0 k x) (fun k x => by kernel_rfl)
def F_impl_JournalOk : FnR := ⟨true, [.one (.val (.sl 27 (.cons (.int .i64) (.cons (.int .i64) (.cons (.int .i64) (.cons (.int .i64) (.cons (.int .i64) (.cons (.int .i64) (.cons (.int .i64) .nil)))))))))], [.one (.val .bool)], fun x => impl_JournalOk x.1⟩
theorem ok_impl_JournalOk : CallOk Try.prog 17 F_impl_JournalOk :=
  func_ok (E := env 53) (Ψ := (lookF [(13, F_impl_EventOk)])) (Λ := (lookL [(0, L_impl_JournalOk_0)])) (fn := Try.f17) (c := body Try.f17) (env_ok _) (lookF_ok ⟨ok_impl_EventOk, trivial⟩) Try.func17 (by kernel_rfl) (by kernel_rfl) (by kernel_rfl) (by decide) (loops_eq (l' := [(0, lp 0 (body Try.f17) 0)]) (by kernel_rfl) (loops_cons (by kernel_rfl) lo_impl_JournalOk_0 (loops_nil (P := Try.prog) (E := env 53) (Λ := (lookL [(0, L_impl_JournalOk_0)])) rfl))) (fun x => by kernel_rfl)
def L_impl_KnownOf_0 : LoopR := ⟨[(10, .one (.val (.sl 27 (.cons (.int .i64) (.cons (.int .i64) (.cons (.int .i64) (.cons (.int .i64) (.cons (.int .i64) (.cons (.int .i64) (.cons (.int .i64) .nil)))))))))), (11, .one (.val (.int .i64)))], [(3, .one (.arr 3 (.cons (.int .i64) .nil) false)), (12, .one (.val (.int .i64)))], [(.exit 0, [(3, .one (.arr 3 (.cons (.int .i64) .nil) false))])], fun k x => impl_KnownOf_l0 k x⟩
theorem lo_impl_KnownOf_0 : LoopOk Try.prog (env 34) (lp 0 (body Try.f20) 0) L_impl_KnownOf_0 :=
  loop_ok' (Ψ := (lookF [(17, F_impl_JournalOk)])) (Λ := (lookL [])) (env_ok _) (lookF_ok ⟨ok_impl_JournalOk, trivial⟩) (n := 0) (keep := [(10, .one (.val (.sl 27 (.cons (.int .i64) (.cons (.int .i64) (.cons (.int .i64) (.cons (.int .i64) (.cons (.int .i64) (.cons (.int .i64) (.cons (.int .i64) .nil)))))))))), (11, .one (.val (.int .i64)))]) (tmpl := [(3, .one (.arr 3 (.cons (.int .i64) .nil) false)), (12, .one (.val (.int .i64)))]) (exits := [(.exit 0, [(3, .one (.arr 3 (.cons (.int .i64) .nil) false))])]) (loops_eq (l' := []) (by kernel_rfl) (loops_nil (P := Try.prog) (E := env 34) (Λ := (lookL [])) rfl)) (fun k x => impl_KnownOf_b0 k x) (fun k x => by kernel_rfl)
def F_impl_KnownOf : FnR := ⟨true, [.one (.val (.sl 27 (.cons (.int .i64) (.cons (.int .i64) (.cons (.int .i64) (.cons (.int .i64) (.cons (.int .i64) (.cons (.int .i64) (.cons (.int .i64) .nil)))))))))], [.one (.arr 3 (.cons (.int .i64) .nil) false)], fun x => impl_KnownOf x.1⟩
theorem ok_impl_KnownOf : CallOk Try.prog 20 F_impl_KnownOf :=
  func_ok (E := env 34) (Ψ := (lookF [(17, F_impl_JournalOk)])) (Λ := (lookL [(0, L_impl_KnownOf_0)])) (fn := Try.f20) (c := body Try.f20) (env_ok _) (lookF_ok ⟨ok_impl_JournalOk, trivial⟩) Try.func20 (by kernel_rfl) (by kernel_rfl) (by kernel_rfl) (by decide) (loops_eq (l' := [(0, lp 0 (body Try.f20) 0)]) (by kernel_rfl) (loops_cons (by kernel_rfl) lo_impl_KnownOf_0 (loops_nil (P := Try.prog) (E := env 34) (Λ := (lookL [(0, L_impl_KnownOf_0)])) rfl))) (fun x => by kernel_rfl)
def L_laws_eqIntS_0 : LoopR := ⟨[(0, .one (.val (.sl 3 (.cons (.int .i64) .nil)))), (1, .one (.val (.sl 3 (.cons (.int .i64) .nil))))], [(5, .one (.val (.int .i64)))], [(.ret, [(4, .one (.val .bool))]), (.exit 0, [])], fun k x => laws_eqIntS_l0 k x⟩
theorem lo_laws_eqIntS_0 : LoopOk Try.prog (env 26) (lp 0 (body Try.f21) 0) L_laws_eqIntS_0 :=
  loop_ok' (Ψ := (lookF [])) (Λ := (lookL [])) (env_ok _) (lookF_ok (l := []) trivial) (n := 0) (keep := [(0, .one (.val (.sl 3 (.cons (.int .i64) .nil)))), (1, .one (.val (.sl 3 (.cons (.int .i64) .nil))))]) (tmpl := [(5, .one (.val (.int .i64)))]) (exits := [(.ret, [(4, .one (.val .bool))]), (.exit 0, [])]) (loops_eq (l' := []) (by kernel_rfl) (loops_nil (P := Try.prog) (E := env 26) (Λ := (lookL [])) rfl)) (fun k x => laws_eqIntS_b0 k x) (fun k x => by kernel_rfl)
def F_laws_eqIntS : FnR := ⟨true, [.one (.val (.sl 3 (.cons (.int .i64) .nil))), .one (.val (.sl 3 (.cons (.int .i64) .nil)))], [.one (.val .bool)], fun x => laws_eqIntS x.1 x.2.1⟩
theorem ok_laws_eqIntS : CallOk Try.prog 21 F_laws_eqIntS :=
  func_ok (E := env 26) (Ψ := (lookF [])) (Λ := (lookL [(0, L_laws_eqIntS_0)])) (fn := Try.f21) (c := body Try.f21) (env_ok _) (lookF_ok (l := []) trivial) Try.func21 (by kernel_rfl) (by kernel_rfl) (by kernel_rfl) (by decide) (loops_eq (l' := [(0, lp 0 (body Try.f21) 0)]) (by kernel_rfl) (loops_cons (by kernel_rfl) lo_laws_eqIntS_0 (loops_nil (P := Try.prog) (E := env 26) (Λ := (lookL [(0, L_laws_eqIntS_0)])) rfl))) (fun x => by kernel_rfl)
def F_laws_eqEvent : FnR := ⟨true, [.agg [.val (.int .i64), .val (.int .i64), .val (.int .i64), .val (.int .i64), .val (.int .i64), .val (.int .i64), .val (.int .i64)], .agg [.val (.int .i64), .val (.int .i64), .val (.int .i64), .val (.int .i64), .val (.int .i64), .val (.int .i64), .val (.int .i64)]], [.one (.val .bool)], fun x => laws_eqEvent x.1 x.2.1 x.2.2.1 x.2.2.2.1 x.2.2.2.2.1 x.2.2.2.2.2.1 x.2.2.2.2.2.2.1 x.2.2.2.2.2.2.2.1 x.2.2.2.2.2.2.2.2.1 x.2.2.2.2.2.2.2.2.2.1 x.2.2.2.2.2.2.2.2.2.2.1 x.2.2.2.2.2.2.2.2.2.2.2.1 x.2.2.2.2.2.2.2.2.2.2.2.2.1 x.2.2.2.2.2.2.2.2.2.2.2.2.2.1⟩
theorem ok_laws_eqEvent : CallOk Try.prog 37 F_laws_eqEvent :=
  func_ok (E := env 40) (Ψ := (lookF [])) (Λ := (lookL [])) (fn := Try.f37) (c := body Try.f37) (env_ok _) (lookF_ok (l := []) trivial) Try.func37 (by kernel_rfl) (by kernel_rfl) (by kernel_rfl) (by decide) (loops_eq (l' := []) (by kernel_rfl) (loops_nil (P := Try.prog) (E := env 40) (Λ := (lookL [])) rfl)) (fun x => by kernel_rfl)
def L_laws_eqEventS_0 : LoopR := ⟨[(0, .one (.val (.sl 27 (.cons (.int .i64) (.cons (.int .i64) (.cons (.int .i64) (.cons (.int .i64) (.cons (.int .i64) (.cons (.int .i64) (.cons (.int .i64) .nil)))))))))), (1, .one (.val (.sl 27 (.cons (.int .i64) (.cons (.int .i64) (.cons (.int .i64) (.cons (.int .i64) (.cons (.int .i64) (.cons (.int .i64) (.cons (.int .i64) .nil))))))))))], [(5, .one (.val (.int .i64)))], [(.ret, [(4, .one (.val .bool))]), (.exit 0, [])], fun k x => laws_eqEventS_l0 k x⟩
theorem lo_laws_eqEventS_0 : LoopOk Try.prog (env 27) (lp 0 (body Try.f18) 0) L_laws_eqEventS_0 :=
  loop_ok' (Ψ := (lookF [(37, F_laws_eqEvent)])) (Λ := (lookL [])) (env_ok _) (lookF_ok ⟨ok_laws_eqEvent, trivial⟩) (n := 0) (keep := [(0, .one (.val (.sl 27 (.cons (.int .i64) (.cons (.int .i64) (.cons (.int .i64) (.cons (.int .i64) (.cons (.int .i64) (.cons (.int .i64) (.cons (.int .i64) .nil)))))))))), (1, .one (.val (.sl 27 (.cons (.int .i64) (.cons (.int .i64) (.cons (.int .i64) (.cons (.int .i64) (.cons (.int .i64) (.cons (.int .i64) (.cons (.int .i64) .nil))))))))))]) (tmpl := [(5, .one (.val (.int .i64)))]) (exits := [(.ret, [(4, .one (.val .bool))]), (.exit 0, [])]) (loops_eq (l' := []) (by kernel_rfl) (loops_nil (P := Try.prog) (E := env 27) (Λ := (lookL [])) rfl)) (fun k x => laws_eqEventS_b0 k x) (fun k x => by kernel_rfl)
def F_laws_eqEventS : FnR := ⟨true, [.one (.val (.sl 27 (.cons (.int .i64) (.cons (.int .i64) (.cons (.int .i64) (.cons (.int .i64) (.cons (.int .i64) (.cons (.int .i64) (.cons (.int .i64) .nil))))))))), .one (.val (.sl 27 (.cons (.int .i64) (.cons (.int .i64) (.cons (.int .i64) (.cons (.int .i64) (.cons (.int .i64) (.cons (.int .i64) (.cons (.int .i64) .nil)))))))))], [.one (.val .bool)], fun x => laws_eqEventS x.1 x.2.1⟩
theorem ok_laws_eqEventS : CallOk Try.prog 18 F_laws_eqEventS :=
  func_ok (E := env 27) (Ψ := (lookF [(37, F_laws_eqEvent)])) (Λ := (lookL [(0, L_laws_eqEventS_0)])) (fn := Try.f18) (c := body Try.f18) (env_ok _) (lookF_ok ⟨ok_laws_eqEvent, trivial⟩) Try.func18 (by kernel_rfl) (by kernel_rfl) (by kernel_rfl) (by decide) (loops_eq (l' := [(0, lp 0 (body Try.f18) 0)]) (by kernel_rfl) (loops_cons (by kernel_rfl) lo_laws_eqEventS_0 (loops_nil (P := Try.prog) (E := env 27) (Λ := (lookL [(0, L_laws_eqEventS_0)])) rfl))) (fun x => by kernel_rfl)
def L_laws_markEventS_0 : LoopR := ⟨[], [(0, .one (.arr 27 (.cons (.int .i64) (.cons (.int .i64) (.cons (.int .i64) (.cons (.int .i64) (.cons (.int .i64) (.cons (.int .i64) (.cons (.int .i64) .nil))))))) false)), (1, .one (.val (.int .i64))), (5, .one (.val (.int .i64)))], [(.exit 0, [(0, .one (.arr 27 (.cons (.int .i64) (.cons (.int .i64) (.cons (.int .i64) (.cons (.int .i64) (.cons (.int .i64) (.cons (.int .i64) (.cons (.int .i64) .nil))))))) false)), (1, .one (.val (.int .i64)))])], fun k x => laws_markEventS_l0 k x⟩
theorem lo_laws_markEventS_0 : LoopOk Try.prog (env 62) (lp 0 (body Try.f22) 0) L_laws_markEventS_0 :=
  loop_ok' (Ψ := (lookF [])) (Λ := (lookL [])) (env_ok _) (lookF_ok (l := []) trivial) (n := 0) (keep := []) (tmpl := [(0, .one (.arr 27 (.cons (.int .i64) (.cons (.int .i64) (.cons (.int .i64) (.cons (.int .i64) (.cons (.int .i64) (.cons (.int .i64) (.cons (.int .i64) .nil))))))) false)), (1, .one (.val (.int .i64))), (5, .one (.val (.int .i64)))]) (exits := [(.exit 0, [(0, .one (.arr 27 (.cons (.int .i64) (.cons (.int .i64) (.cons (.int .i64) (.cons (.int .i64) (.cons (.int .i64) (.cons (.int .i64) (.cons (.int .i64) .nil))))))) false)), (1, .one (.val (.int .i64)))])]) (loops_eq (l' := []) (by kernel_rfl) (loops_nil (P := Try.prog) (E := env 62) (Λ := (lookL [])) rfl)) (fun k x => laws_markEventS_b0 k x) (fun k x => by kernel_rfl)
def F_laws_markEventS : FnR := ⟨true, [.one (.arr 27 (.cons (.int .i64) (.cons (.int .i64) (.cons (.int .i64) (.cons (.int .i64) (.cons (.int .i64) (.cons (.int .i64) (.cons (.int .i64) .nil))))))) false), .one (.val (.int .i64))], [.one (.val (.int .i64))], fun x => laws_markEventS x.1 x.2.1⟩
theorem ok_laws_markEventS : CallOk Try.prog 22 F_laws_markEventS :=
  func_ok (E := env 62) (Ψ := (lookF [])) (Λ := (lookL [(0, L_laws_markEventS_0)])) (fn := Try.f22) (c := body Try.f22) (env_ok _) (lookF_ok (l := []) trivial) Try.func22 (by kernel_rfl) (by kernel_rfl) (by kernel_rfl) (by decide) (loops_eq (l' := [(0, lp 0 (body Try.f22) 0)]) (by kernel_rfl) (loops_cons (by kernel_rfl) lo_laws_markEventS_0 (loops_nil (P := Try.prog) (E := env 62) (Λ := (lookL [(0, L_laws_markEventS_0)])) rfl))) (fun x => by kernel_rfl)
def L_laws_markIntS_0 : LoopR := ⟨[], [(0, .one (.arr 3 (.cons (.int .i64) .nil) false)), (1, .one (.val (.int .i64))), (5, .one (.val (.int .i64)))], [(.exit 0, [(0, .one (.arr 3 (.cons (.int .i64) .nil) false)), (1, .one (.val (.int .i64)))])], fun k x => laws_markIntS_l0 k x⟩
theorem lo_laws_markIntS_0 : LoopOk Try.prog (env 19) (lp 0 (body Try.f23) 0) L_laws_markIntS_0 :=
  loop_ok' (Ψ := (lookF [])) (Λ := (lookL [])) (env_ok _) (lookF_ok (l := []) trivial) (n := 0) (keep := []) (tmpl := [(0, .one (.arr 3 (.cons (.int .i64) .nil) false)), (1, .one (.val (.int .i64))), (5, .one (.val (.int .i64)))]) (exits := [(.exit 0, [(0, .one (.arr 3 (.cons (.int .i64) .nil) false)), (1, .one (.val (.int .i64)))])]) (loops_eq (l' := []) (by kernel_rfl) (loops_nil (P := Try.prog) (E := env 19) (Λ := (lookL [])) rfl)) (fun k x => laws_markIntS_b0 k x) (fun k x => by kernel_rfl)
def F_laws_markIntS : FnR := ⟨true, [.one (.arr 3 (.cons (.int .i64) .nil) false), .one (.val (.int .i64))], [.one (.val (.int .i64))], fun x => laws_markIntS x.1 x.2.1⟩
theorem ok_laws_markIntS : CallOk Try.prog 23 F_laws_markIntS :=
  func_ok (E := env 19) (Ψ := (lookF [])) (Λ := (lookL [(0, L_laws_markIntS_0)])) (fn := Try.f23) (c := body Try.f23) (env_ok _) (lookF_ok (l := []) trivial) Try.func23 (by kernel_rfl) (by kernel_rfl) (by kernel_rfl) (by decide) (loops_eq (l' := [(0, lp 0 (body Try.f23) 0)]) (by kernel_rfl) (loops_cons (by kernel_rfl) lo_laws_markIntS_0 (loops_nil (P := Try.prog) (E := env 19) (Λ := (lookL [(0, L_laws_markIntS_0)])) rfl))) (fun x => by kernel_rfl)
def L_laws_heldIntS_0 : LoopR := ⟨[(0, .one (.val (.sl 3 (.cons (.int .i64) .nil))))], [(1, .one (.val (.int .i64))), (5, .one (.val (.int .i64)))], [(.ret, [(4, .one (.val (.int .i64)))]), (.exit 0, [(1, .one (.val (.int .i64)))])], fun k x => laws_heldIntS_l0 k x⟩
theorem lo_laws_heldIntS_0 : LoopOk Try.prog (env 21) (lp 0 (body Try.f24) 0) L_laws_heldIntS_0 :=
  loop_ok' (Ψ := (lookF [])) (Λ := (lookL [])) (env_ok _) (lookF_ok (l := []) trivial) (n := 0) (keep := [(0, .one (.val (.sl 3 (.cons (.int .i64) .nil))))]) (tmpl := [(1, .one (.val (.int .i64))), (5, .one (.val (.int .i64)))]) (exits := [(.ret, [(4, .one (.val (.int .i64)))]), (.exit 0, [(1, .one (.val (.int .i64)))])]) (loops_eq (l' := []) (by kernel_rfl) (loops_nil (P := Try.prog) (E := env 21) (Λ := (lookL [])) rfl)) (fun k x => laws_heldIntS_b0 k x) (fun k x => by kernel_rfl)
def F_laws_heldIntS : FnR := ⟨true, [.one (.val (.sl 3 (.cons (.int .i64) .nil))), .one (.val (.int .i64))], [.one (.val (.int .i64))], fun x => laws_heldIntS x.1 x.2.1⟩
theorem ok_laws_heldIntS : CallOk Try.prog 24 F_laws_heldIntS :=
  func_ok (E := env 21) (Ψ := (lookF [])) (Λ := (lookL [(0, L_laws_heldIntS_0)])) (fn := Try.f24) (c := body Try.f24) (env_ok _) (lookF_ok (l := []) trivial) Try.func24 (by kernel_rfl) (by kernel_rfl) (by kernel_rfl) (by decide) (loops_eq (l' := [(0, lp 0 (body Try.f24) 0)]) (by kernel_rfl) (loops_cons (by kernel_rfl) lo_laws_heldIntS_0 (loops_nil (P := Try.prog) (E := env 21) (Λ := (lookL [(0, L_laws_heldIntS_0)])) rfl))) (fun x => by kernel_rfl)
def F_laws_FnExactKnownOf : FnR := ⟨true, [.one (.val (.sl 25 (.cons (.int .i64) (.cons (.int .i64) (.cons (.int .i64) (.cons (.int .i64) (.cons (.int .i64) (.cons (.int .i64) (.cons (.int .i64) .nil)))))))))], [.one (.val .bool)], fun x => laws_FnExactKnownOf x.1⟩
theorem ok_laws_FnExactKnownOf : CallOk Try.prog 6 F_laws_FnExactKnownOf :=
  func_ok (E := env 69) (Ψ := (lookF [(14, F_laws_szEventS), (16, F_laws_toEventS), (19, F_spec_KnownOf), (20, F_impl_KnownOf), (21, F_laws_eqIntS), (18, F_laws_eqEventS), (22, F_laws_markEventS), (23, F_laws_markIntS), (24, F_laws_heldIntS)])) (Λ := (lookL [])) (fn := Try.f6) (c := body Try.f6) (env_ok _) (lookF_ok ⟨ok_laws_szEventS, ok_laws_toEventS, ok_spec_KnownOf, ok_impl_KnownOf, ok_laws_eqIntS, ok_laws_eqEventS, ok_laws_markEventS, ok_laws_markIntS, ok_laws_heldIntS, trivial⟩) Try.func6 (by kernel_rfl) (by kernel_rfl) (by kernel_rfl) (by decide) (loops_eq (l' := []) (by kernel_rfl) (loops_nil (P := Try.prog) (E := env 69) (Λ := (lookL [])) rfl)) (fun x => by kernel_rfl)

theorem law_all (x : KTs real ((F_laws_FnExactKnownOf.args.map Sh.ks).flatten)) (hx : KTs.wf _ x) : ∃ y, F_laws_FnExactKnownOf.fn x = some y ∧ (ofKTs _ y).head? = some ⟨.val .bool, (true : Bool)⟩ := ⟨(true, ()), knownOf_true x.1 (hx _ (.head _)).1, rfl⟩
theorem own : ownKnob Try.prog.godebug = none := by kernel_rfl
theorem laid : laidOutB Try.prog = true := by kernel_rfl
theorem rowed : mapsRowed Try.prog = true := by kernel_rfl
theorem full : ((List.range Try.prog.types.size).all fun t => match Try.prog.underlying t with | some (.slice e) => decide (0 < Try.prog.cellsOf e) | _ => true) = true := by kernel_rfl
theorem ok_sh : parShs Try.prog [30] = some F_laws_FnExactKnownOf.args := by kernel_rfl
theorem lifted (os : Os) (started : os.Started) (H : Type) (enc : TypeId × Value → H) :
    ReturnsInHanded {} Try.checked os 6 .any (Rows.fnExactKnownOfSpec.pre6 enc Try.prog Try.f6 Rows.fnExactKnownOfRow.domain false) (Rows.fnExactKnownOfSpec.post enc Try.prog Try.f6 false true false false) := by
  refine returnsInHanded_of_change_sized (C := Try.checked) own started (by kernel_rfl) Try.func6
    (ChangeSpec.witness6 (enc := enc) (C := Try.checked) false ⟨#[], #[.slice none 0 0], []⟩ 8 (by kernel_rfl) (by kernel_rfl) (by kernel_rfl) (by kernel_rfl)) ?_
  intro W base args ds gs before hval0 hW hcnd hsz0 _
  have hval : ∀ (j : Nat) t v, Try.f6.params[j]? = some t → args[j]? = some v → Value.okWide Try.prog W .any base t v := hval0
  have hW' := hW
  obtain ⟨p, q, hA0, hV, rfl, hfz, hnd⟩ := hW
  have hA : DataW.TrodAll enc Try.prog W 0 (fun _ => true) true Try.f6.params.toList args.toList ds p := hA0
  rw [Try.params6] at hA hval
  obtain ⟨rfl, rfl⟩ := trodVars_none hV
  have hA1 : DataW.TrodAll enc Try.prog W 0 (fun _ => true) true [30] args.toList ds p := hA
  obtain ⟨v0, vs0, d0, ds0, p0, q0, hargs0, hds0, hp0, h0, r0⟩ := trodAll_cons hA1
  obtain ⟨e1, e2, e3⟩ := trodAll_nil r0
  subst e1 e2 e3 hds0
  have hc := law_calls (b0 := base) ok_laws_FnExactKnownOf ok_sh rfl rfl law_all (fun j t v hj hv => hval j t v (by simpa using hj) (by simpa using hv)) hA1
  have hargs' : args.toList.toArray = args := by simp
  rw [hargs'] at hc
  refine hc.mono fun e W' ⟨he, bel⟩ => ?_
  subst he
  exact ⟨_, rfl, _, _, _, [], _, [], hW', trodAll_mk1 (shut_bool Try.underlying4 _), args_again laid rowed full (by kernel_rfl) bel hA1, rfl, bel.frame _, fun h => by cases h⟩
theorem over : Rows.fnExactKnownOfRow.holds Try.pinned (OpenSpec.ofChange Rows.fnExactKnownOfSpec) :=
  OpenClaim.holds_of_wide 6 Try.f6 rfl rfl rfl rfl rfl rfl rfl ⟨rfl, rfl, rfl, rfl, rfl⟩ rfl rfl rfl rfl rfl (by kernel_rfl) Try.func6 (by kernel_rfl)
    (of_decide_eq_true (by kernel_rfl)) (by unfold Func.isWrapper; first | (rw [if_pos (by decide +kernel)]; kernel_rfl) | (rw [if_neg (by decide +kernel)]; exact ⟨rfl, rfl⟩))
    (fun os started H enc _ => lifted os started H enc)
theorem proved : Rows.FnExactKnownOfSaid := over
#print axioms proved
end Go.Proofs.Yteafcbbmajjbmaa.fnExactKnownOf
namespace Go.Proofs.Yteafcbbmajjbmaa
/-- The row, under a short name, for the claim. -/
theorem fnExactKnownOf_holds : Rows.FnExactKnownOfSaid := fnExactKnownOf.proved
end Go.Proofs.Yteafcbbmajjbmaa
