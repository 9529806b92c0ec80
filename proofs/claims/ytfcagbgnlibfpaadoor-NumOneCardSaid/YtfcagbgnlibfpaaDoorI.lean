/- num: contracts of num.One and of the functions of one number, but for those that count bits; the helper 'known' of the laws returns true. -/
import Derived.Test.YtfcagbgnlibfpaaDoorH
namespace Go.Proofs.YtfcagbgnlibfpaaDoor.A
open Go.ChangeShapes Go.WideShapes Go.ChangeAt Go.RowKit Go.Proofs.YtfcagbgnlibfpaaDoor.S
set_option linter.unusedVariables false
set_option linter.unusedSimpArgs false
attribute [local go_sem] eql_func eql_nil neq_func44 neq_nil44 neq_func42 neq_nil42

theorem wrap_i8 (n : Int) : IntKind.i8.wrap n = (n + 128) % 256 - 128 := by
  simp [IntKind.wrap, IntKind.bits, IntKind.signed]
  split <;> omega
theorem wrap_i16 (n : Int) : IntKind.i16.wrap n = (n + 32768) % 65536 - 32768 := by
  simp [IntKind.wrap, IntKind.bits, IntKind.signed]
  split <;> omega
/-- The low k bits of a number, as signed, as a number of as many bits as M has. -/
def extI (k M a : Int) : Int := if 2 * (a % k) < k then a % k else a % k + M - k

set_option maxHeartbeats 1000000 in
theorem one_69 (a V : Int) (h0 : 0 ≤ a) (h1 : a < 4294967296) (w : World) (X : ∀ w', Below w.heap.size w w' → Calls Tryd.prog 30 #[.int .u32 a] w' fun e w'' => e = .returned (.int .u64 V) ∧ ∃ n, w'' = w'.drewN n) :
    Calls Tryd.prog 15 #[.int .i64 69, .int .u64 a] w fun e w' => e = .returned (.tuple #[.int .u64 V, .int .i64 0]) ∧ Below w.heap.size w w' := by
  have OA := of32 a (by omega) (by omega)
  rw [show decide (a < 4294967296) = true by simp; omega] at OA
  replace OA := Lib.hid OA
  have R := Lib.hid ruleOf69
  replace X := Lib.hid X
  go_enter Tryd.func15, Tryd.ntmps15
  go_wp2_with (first | (go_at_call 20; refine (R.out _).mono ?_; rintro e w' ⟨rfl, hB⟩; have hB1 := Lib.hid (hB.alloc hB.size (.cells #[.int .i64 32, .int .i64 32, .nilFunc, .func (.func 30) #[] #[], .nilFunc] 46))) | (go_at_call 21; (with_reducible refine (OA.out _).mono ?_); rintro e w' ⟨rfl, rfl⟩) | (go_at_call 30; (with_reducible refine (X.out _ hB1.out).mono ?_); rintro e w2 ⟨rfl, n, rfl⟩))
  go_ret2
  refine ⟨rfl, ?_⟩
  repeat' (first | (with_reducible exact hB) | (with_reducible exact hB.size) | (with_reducible refine below_drewN ?_ _) | (with_reducible refine Below.alloc ?_ ?_ _) | omega)

set_option maxHeartbeats 1000000 in
theorem one_69_big (a : Int) (h0 : 4294967296 ≤ a) (h1 : a < 18446744073709551616) (w : World) :
    Calls Tryd.prog 15 #[.int .i64 69, .int .u64 a] w fun e w' => e = .returned (.tuple #[.int .u64 0, .int .i64 2]) ∧ Below w.heap.size w w' := by
  have OA := of32 a (by omega) (by omega)
  rw [show decide (a < 4294967296) = false by simp; omega] at OA
  replace OA := Lib.hid OA
  have R := Lib.hid ruleOf69
  go_enter Tryd.func15, Tryd.ntmps15
  go_wp2_with (first | (go_at_call 20; refine (R.out _).mono ?_; rintro e w' ⟨rfl, hB⟩) | (go_at_call 21; (with_reducible refine (OA.out _).mono ?_); rintro e w' ⟨rfl, rfl⟩))
  go_ret2
  refine ⟨rfl, ?_⟩
  repeat' (first | (with_reducible exact hB) | (with_reducible exact hB.size) | (with_reducible refine below_drewN ?_ _) | (with_reducible refine Below.alloc ?_ ?_ _) | omega)

set_option maxHeartbeats 1000000 in
theorem one_103 (a V : Int) (h0 : 0 ≤ a) (h1 : a < 4294967296) (w : World) (X : ∀ w', Below w.heap.size w w' → Calls Tryd.prog 31 #[.int .u32 a] w' fun e w'' => e = .returned (.int .u64 V) ∧ ∃ n, w'' = w'.drewN n) :
    Calls Tryd.prog 15 #[.int .i64 103, .int .u64 a] w fun e w' => e = .returned (.tuple #[.int .u64 V, .int .i64 0]) ∧ Below w.heap.size w w' := by
  have OA := of32 a (by omega) (by omega)
  rw [show decide (a < 4294967296) = true by simp; omega] at OA
  replace OA := Lib.hid OA
  have R := Lib.hid ruleOf103
  replace X := Lib.hid X
  go_enter Tryd.func15, Tryd.ntmps15
  go_wp2_with (first | (go_at_call 20; refine (R.out _).mono ?_; rintro e w' ⟨rfl, hB⟩; have hB1 := Lib.hid (hB.alloc hB.size (.cells #[.int .i64 32, .int .i64 32, .nilFunc, .func (.func 31) #[] #[], .nilFunc] 46))) | (go_at_call 21; (with_reducible refine (OA.out _).mono ?_); rintro e w' ⟨rfl, rfl⟩) | (go_at_call 31; (with_reducible refine (X.out _ hB1.out).mono ?_); rintro e w2 ⟨rfl, n, rfl⟩))
  go_ret2
  refine ⟨rfl, ?_⟩
  repeat' (first | (with_reducible exact hB) | (with_reducible exact hB.size) | (with_reducible refine below_drewN ?_ _) | (with_reducible refine Below.alloc ?_ ?_ _) | omega)

set_option maxHeartbeats 1000000 in
theorem one_103_big (a : Int) (h0 : 4294967296 ≤ a) (h1 : a < 18446744073709551616) (w : World) :
    Calls Tryd.prog 15 #[.int .i64 103, .int .u64 a] w fun e w' => e = .returned (.tuple #[.int .u64 0, .int .i64 2]) ∧ Below w.heap.size w w' := by
  have OA := of32 a (by omega) (by omega)
  rw [show decide (a < 4294967296) = false by simp; omega] at OA
  replace OA := Lib.hid OA
  have R := Lib.hid ruleOf103
  go_enter Tryd.func15, Tryd.ntmps15
  go_wp2_with (first | (go_at_call 20; refine (R.out _).mono ?_; rintro e w' ⟨rfl, hB⟩) | (go_at_call 21; (with_reducible refine (OA.out _).mono ?_); rintro e w' ⟨rfl, rfl⟩))
  go_ret2
  refine ⟨rfl, ?_⟩
  repeat' (first | (with_reducible exact hB) | (with_reducible exact hB.size) | (with_reducible refine below_drewN ?_ _) | (with_reducible refine Below.alloc ?_ ?_ _) | omega)

set_option maxHeartbeats 1000000 in
theorem one_104 (a V : Int) (h0 : 0 ≤ a) (h1 : a < 4294967296) (w : World) (X : ∀ w', Below w.heap.size w w' → Calls Tryd.prog 32 #[.int .u32 a] w' fun e w'' => e = .returned (.int .u64 V) ∧ ∃ n, w'' = w'.drewN n) :
    Calls Tryd.prog 15 #[.int .i64 104, .int .u64 a] w fun e w' => e = .returned (.tuple #[.int .u64 V, .int .i64 0]) ∧ Below w.heap.size w w' := by
  have OA := of32 a (by omega) (by omega)
  rw [show decide (a < 4294967296) = true by simp; omega] at OA
  replace OA := Lib.hid OA
  have R := Lib.hid ruleOf104
  replace X := Lib.hid X
  go_enter Tryd.func15, Tryd.ntmps15
  go_wp2_with (first | (go_at_call 20; refine (R.out _).mono ?_; rintro e w' ⟨rfl, hB⟩; have hB1 := Lib.hid (hB.alloc hB.size (.cells #[.int .i64 32, .int .i64 32, .nilFunc, .func (.func 32) #[] #[], .nilFunc] 46))) | (go_at_call 21; (with_reducible refine (OA.out _).mono ?_); rintro e w' ⟨rfl, rfl⟩) | (go_at_call 32; (with_reducible refine (X.out _ hB1.out).mono ?_); rintro e w2 ⟨rfl, n, rfl⟩))
  go_ret2
  refine ⟨rfl, ?_⟩
  repeat' (first | (with_reducible exact hB) | (with_reducible exact hB.size) | (with_reducible refine below_drewN ?_ _) | (with_reducible refine Below.alloc ?_ ?_ _) | omega)

set_option maxHeartbeats 1000000 in
theorem one_104_big (a : Int) (h0 : 4294967296 ≤ a) (h1 : a < 18446744073709551616) (w : World) :
    Calls Tryd.prog 15 #[.int .i64 104, .int .u64 a] w fun e w' => e = .returned (.tuple #[.int .u64 0, .int .i64 2]) ∧ Below w.heap.size w w' := by
  have OA := of32 a (by omega) (by omega)
  rw [show decide (a < 4294967296) = false by simp; omega] at OA
  replace OA := Lib.hid OA
  have R := Lib.hid ruleOf104
  go_enter Tryd.func15, Tryd.ntmps15
  go_wp2_with (first | (go_at_call 20; refine (R.out _).mono ?_; rintro e w' ⟨rfl, hB⟩) | (go_at_call 21; (with_reducible refine (OA.out _).mono ?_); rintro e w' ⟨rfl, rfl⟩))
  go_ret2
  refine ⟨rfl, ?_⟩
  repeat' (first | (with_reducible exact hB) | (with_reducible exact hB.size) | (with_reducible refine below_drewN ?_ _) | (with_reducible refine Below.alloc ?_ ?_ _) | omega)

set_option maxHeartbeats 1000000 in
theorem one_105 (a V : Int) (h0 : 0 ≤ a) (h1 : a < 4294967296) (w : World) (X : ∀ w', Below w.heap.size w w' → Calls Tryd.prog 33 #[.int .u32 a] w' fun e w'' => e = .returned (.int .u64 V) ∧ ∃ n, w'' = w'.drewN n) :
    Calls Tryd.prog 15 #[.int .i64 105, .int .u64 a] w fun e w' => e = .returned (.tuple #[.int .u64 V, .int .i64 0]) ∧ Below w.heap.size w w' := by
  have OA := of32 a (by omega) (by omega)
  rw [show decide (a < 4294967296) = true by simp; omega] at OA
  replace OA := Lib.hid OA
  have R := Lib.hid ruleOf105
  replace X := Lib.hid X
  go_enter Tryd.func15, Tryd.ntmps15
  go_wp2_with (first | (go_at_call 20; refine (R.out _).mono ?_; rintro e w' ⟨rfl, hB⟩; have hB1 := Lib.hid (hB.alloc hB.size (.cells #[.int .i64 32, .int .i64 32, .nilFunc, .func (.func 33) #[] #[], .nilFunc] 46))) | (go_at_call 21; (with_reducible refine (OA.out _).mono ?_); rintro e w' ⟨rfl, rfl⟩) | (go_at_call 33; (with_reducible refine (X.out _ hB1.out).mono ?_); rintro e w2 ⟨rfl, n, rfl⟩))
  go_ret2
  refine ⟨rfl, ?_⟩
  repeat' (first | (with_reducible exact hB) | (with_reducible exact hB.size) | (with_reducible refine below_drewN ?_ _) | (with_reducible refine Below.alloc ?_ ?_ _) | omega)

set_option maxHeartbeats 1000000 in
theorem one_105_big (a : Int) (h0 : 4294967296 ≤ a) (h1 : a < 18446744073709551616) (w : World) :
    Calls Tryd.prog 15 #[.int .i64 105, .int .u64 a] w fun e w' => e = .returned (.tuple #[.int .u64 0, .int .i64 2]) ∧ Below w.heap.size w w' := by
  have OA := of32 a (by omega) (by omega)
  rw [show decide (a < 4294967296) = false by simp; omega] at OA
  replace OA := Lib.hid OA
  have R := Lib.hid ruleOf105
  go_enter Tryd.func15, Tryd.ntmps15
  go_wp2_with (first | (go_at_call 20; refine (R.out _).mono ?_; rintro e w' ⟨rfl, hB⟩) | (go_at_call 21; (with_reducible refine (OA.out _).mono ?_); rintro e w' ⟨rfl, rfl⟩))
  go_ret2
  refine ⟨rfl, ?_⟩
  repeat' (first | (with_reducible exact hB) | (with_reducible exact hB.size) | (with_reducible refine below_drewN ?_ _) | (with_reducible refine Below.alloc ?_ ?_ _) | omega)

set_option maxHeartbeats 1000000 in
theorem one_192 (a V : Int) (h0 : 0 ≤ a) (h1 : a < 4294967296) (w : World) (X : ∀ w', Below w.heap.size w w' → Calls Tryd.prog 34 #[.int .u32 a] w' fun e w'' => e = .returned (.int .u64 V) ∧ ∃ n, w'' = w'.drewN n) :
    Calls Tryd.prog 15 #[.int .i64 192, .int .u64 a] w fun e w' => e = .returned (.tuple #[.int .u64 V, .int .i64 0]) ∧ Below w.heap.size w w' := by
  have OA := of32 a (by omega) (by omega)
  rw [show decide (a < 4294967296) = true by simp; omega] at OA
  replace OA := Lib.hid OA
  have R := Lib.hid ruleOf192
  replace X := Lib.hid X
  go_enter Tryd.func15, Tryd.ntmps15
  go_wp2_with (first | (go_at_call 20; refine (R.out _).mono ?_; rintro e w' ⟨rfl, hB⟩; have hB1 := Lib.hid (hB.alloc hB.size (.cells #[.int .i64 32, .int .i64 32, .nilFunc, .func (.func 34) #[] #[], .nilFunc] 46))) | (go_at_call 21; (with_reducible refine (OA.out _).mono ?_); rintro e w' ⟨rfl, rfl⟩) | (go_at_call 34; (with_reducible refine (X.out _ hB1.out).mono ?_); rintro e w2 ⟨rfl, n, rfl⟩))
  go_ret2
  refine ⟨rfl, ?_⟩
  repeat' (first | (with_reducible exact hB) | (with_reducible exact hB.size) | (with_reducible refine below_drewN ?_ _) | (with_reducible refine Below.alloc ?_ ?_ _) | omega)

set_option maxHeartbeats 1000000 in
theorem one_192_big (a : Int) (h0 : 4294967296 ≤ a) (h1 : a < 18446744073709551616) (w : World) :
    Calls Tryd.prog 15 #[.int .i64 192, .int .u64 a] w fun e w' => e = .returned (.tuple #[.int .u64 0, .int .i64 2]) ∧ Below w.heap.size w w' := by
  have OA := of32 a (by omega) (by omega)
  rw [show decide (a < 4294967296) = false by simp; omega] at OA
  replace OA := Lib.hid OA
  have R := Lib.hid ruleOf192
  go_enter Tryd.func15, Tryd.ntmps15
  go_wp2_with (first | (go_at_call 20; refine (R.out _).mono ?_; rintro e w' ⟨rfl, hB⟩) | (go_at_call 21; (with_reducible refine (OA.out _).mono ?_); rintro e w' ⟨rfl, rfl⟩))
  go_ret2
  refine ⟨rfl, ?_⟩
  repeat' (first | (with_reducible exact hB) | (with_reducible exact hB.size) | (with_reducible refine below_drewN ?_ _) | (with_reducible refine Below.alloc ?_ ?_ _) | omega)

set_option maxHeartbeats 1000000 in
theorem one_193 (a V : Int) (h0 : 0 ≤ a) (h1 : a < 4294967296) (w : World) (X : ∀ w', Below w.heap.size w w' → Calls Tryd.prog 35 #[.int .u32 a] w' fun e w'' => e = .returned (.int .u64 V) ∧ ∃ n, w'' = w'.drewN n) :
    Calls Tryd.prog 15 #[.int .i64 193, .int .u64 a] w fun e w' => e = .returned (.tuple #[.int .u64 V, .int .i64 0]) ∧ Below w.heap.size w w' := by
  have OA := of32 a (by omega) (by omega)
  rw [show decide (a < 4294967296) = true by simp; omega] at OA
  replace OA := Lib.hid OA
  have R := Lib.hid ruleOf193
  replace X := Lib.hid X
  go_enter Tryd.func15, Tryd.ntmps15
  go_wp2_with (first | (go_at_call 20; refine (R.out _).mono ?_; rintro e w' ⟨rfl, hB⟩; have hB1 := Lib.hid (hB.alloc hB.size (.cells #[.int .i64 32, .int .i64 32, .nilFunc, .func (.func 35) #[] #[], .nilFunc] 46))) | (go_at_call 21; (with_reducible refine (OA.out _).mono ?_); rintro e w' ⟨rfl, rfl⟩) | (go_at_call 35; (with_reducible refine (X.out _ hB1.out).mono ?_); rintro e w2 ⟨rfl, n, rfl⟩))
  go_ret2
  refine ⟨rfl, ?_⟩
  repeat' (first | (with_reducible exact hB) | (with_reducible exact hB.size) | (with_reducible refine below_drewN ?_ _) | (with_reducible refine Below.alloc ?_ ?_ _) | omega)

set_option maxHeartbeats 1000000 in
theorem one_193_big (a : Int) (h0 : 4294967296 ≤ a) (h1 : a < 18446744073709551616) (w : World) :
    Calls Tryd.prog 15 #[.int .i64 193, .int .u64 a] w fun e w' => e = .returned (.tuple #[.int .u64 0, .int .i64 2]) ∧ Below w.heap.size w w' := by
  have OA := of32 a (by omega) (by omega)
  rw [show decide (a < 4294967296) = false by simp; omega] at OA
  replace OA := Lib.hid OA
  have R := Lib.hid ruleOf193
  go_enter Tryd.func15, Tryd.ntmps15
  go_wp2_with (first | (go_at_call 20; refine (R.out _).mono ?_; rintro e w' ⟨rfl, hB⟩) | (go_at_call 21; (with_reducible refine (OA.out _).mono ?_); rintro e w' ⟨rfl, rfl⟩))
  go_ret2
  refine ⟨rfl, ?_⟩
  repeat' (first | (with_reducible exact hB) | (with_reducible exact hB.size) | (with_reducible refine below_drewN ?_ _) | (with_reducible refine Below.alloc ?_ ?_ _) | omega)

set_option maxHeartbeats 1000000 in
theorem one_172 (a V : Int) (h0 : 0 ≤ a) (h1 : a < 4294967296) (w : World) (X : ∀ w', Below w.heap.size w w' → Calls Tryd.prog 36 #[.int .u32 a] w' fun e w'' => e = .returned (.int .u64 V) ∧ ∃ n, w'' = w'.drewN n) :
    Calls Tryd.prog 15 #[.int .i64 172, .int .u64 a] w fun e w' => e = .returned (.tuple #[.int .u64 V, .int .i64 0]) ∧ Below w.heap.size w w' := by
  have OA := of32 a (by omega) (by omega)
  rw [show decide (a < 4294967296) = true by simp; omega] at OA
  replace OA := Lib.hid OA
  have R := Lib.hid ruleOf172
  replace X := Lib.hid X
  go_enter Tryd.func15, Tryd.ntmps15
  go_wp2_with (first | (go_at_call 20; refine (R.out _).mono ?_; rintro e w' ⟨rfl, hB⟩; have hB1 := Lib.hid (hB.alloc hB.size (.cells #[.int .i64 32, .int .i64 64, .nilFunc, .func (.func 36) #[] #[], .nilFunc] 46))) | (go_at_call 21; (with_reducible refine (OA.out _).mono ?_); rintro e w' ⟨rfl, rfl⟩) | (go_at_call 36; (with_reducible refine (X.out _ hB1.out).mono ?_); rintro e w2 ⟨rfl, n, rfl⟩))
  go_ret2
  refine ⟨rfl, ?_⟩
  repeat' (first | (with_reducible exact hB) | (with_reducible exact hB.size) | (with_reducible refine below_drewN ?_ _) | (with_reducible refine Below.alloc ?_ ?_ _) | omega)

set_option maxHeartbeats 1000000 in
theorem one_172_big (a : Int) (h0 : 4294967296 ≤ a) (h1 : a < 18446744073709551616) (w : World) :
    Calls Tryd.prog 15 #[.int .i64 172, .int .u64 a] w fun e w' => e = .returned (.tuple #[.int .u64 0, .int .i64 2]) ∧ Below w.heap.size w w' := by
  have OA := of32 a (by omega) (by omega)
  rw [show decide (a < 4294967296) = false by simp; omega] at OA
  replace OA := Lib.hid OA
  have R := Lib.hid ruleOf172
  go_enter Tryd.func15, Tryd.ntmps15
  go_wp2_with (first | (go_at_call 20; refine (R.out _).mono ?_; rintro e w' ⟨rfl, hB⟩) | (go_at_call 21; (with_reducible refine (OA.out _).mono ?_); rintro e w' ⟨rfl, rfl⟩))
  go_ret2
  refine ⟨rfl, ?_⟩
  repeat' (first | (with_reducible exact hB) | (with_reducible exact hB.size) | (with_reducible refine below_drewN ?_ _) | (with_reducible refine Below.alloc ?_ ?_ _) | omega)

set_option maxHeartbeats 1000000 in
theorem one_173 (a V : Int) (h0 : 0 ≤ a) (h1 : a < 4294967296) (w : World) (X : ∀ w', Below w.heap.size w w' → Calls Tryd.prog 37 #[.int .u32 a] w' fun e w'' => e = .returned (.int .u64 V) ∧ ∃ n, w'' = w'.drewN n) :
    Calls Tryd.prog 15 #[.int .i64 173, .int .u64 a] w fun e w' => e = .returned (.tuple #[.int .u64 V, .int .i64 0]) ∧ Below w.heap.size w w' := by
  have OA := of32 a (by omega) (by omega)
  rw [show decide (a < 4294967296) = true by simp; omega] at OA
  replace OA := Lib.hid OA
  have R := Lib.hid ruleOf173
  replace X := Lib.hid X
  go_enter Tryd.func15, Tryd.ntmps15
  go_wp2_with (first | (go_at_call 20; refine (R.out _).mono ?_; rintro e w' ⟨rfl, hB⟩; have hB1 := Lib.hid (hB.alloc hB.size (.cells #[.int .i64 32, .int .i64 64, .nilFunc, .func (.func 37) #[] #[], .nilFunc] 46))) | (go_at_call 21; (with_reducible refine (OA.out _).mono ?_); rintro e w' ⟨rfl, rfl⟩) | (go_at_call 37; (with_reducible refine (X.out _ hB1.out).mono ?_); rintro e w2 ⟨rfl, n, rfl⟩))
  go_ret2
  refine ⟨rfl, ?_⟩
  repeat' (first | (with_reducible exact hB) | (with_reducible exact hB.size) | (with_reducible refine below_drewN ?_ _) | (with_reducible refine Below.alloc ?_ ?_ _) | omega)

set_option maxHeartbeats 1000000 in
theorem one_173_big (a : Int) (h0 : 4294967296 ≤ a) (h1 : a < 18446744073709551616) (w : World) :
    Calls Tryd.prog 15 #[.int .i64 173, .int .u64 a] w fun e w' => e = .returned (.tuple #[.int .u64 0, .int .i64 2]) ∧ Below w.heap.size w w' := by
  have OA := of32 a (by omega) (by omega)
  rw [show decide (a < 4294967296) = false by simp; omega] at OA
  replace OA := Lib.hid OA
  have R := Lib.hid ruleOf173
  go_enter Tryd.func15, Tryd.ntmps15
  go_wp2_with (first | (go_at_call 20; refine (R.out _).mono ?_; rintro e w' ⟨rfl, hB⟩) | (go_at_call 21; (with_reducible refine (OA.out _).mono ?_); rintro e w' ⟨rfl, rfl⟩))
  go_ret2
  refine ⟨rfl, ?_⟩
  repeat' (first | (with_reducible exact hB) | (with_reducible exact hB.size) | (with_reducible refine below_drewN ?_ _) | (with_reducible refine Below.alloc ?_ ?_ _) | omega)

set_option maxHeartbeats 1000000 in
theorem one_80 (a V : Int) (h0 : 0 ≤ a) (h1 : a < 18446744073709551616) (w : World) (X : ∀ w', Below w.heap.size w w' → Calls Tryd.prog 38 #[.int .u64 a] w' fun e w'' => e = .returned (.int .u64 V) ∧ ∃ n, w'' = w'.drewN n) :
    Calls Tryd.prog 15 #[.int .i64 80, .int .u64 a] w fun e w' => e = .returned (.tuple #[.int .u64 V, .int .i64 0]) ∧ Below w.heap.size w w' := by
  have OA := of64 a (by omega) (by omega)
  replace OA := Lib.hid OA
  have R := Lib.hid ruleOf80
  replace X := Lib.hid X
  go_enter Tryd.func15, Tryd.ntmps15
  go_wp2_with (first | (go_at_call 20; refine (R.out _).mono ?_; rintro e w' ⟨rfl, hB⟩; have hB1 := Lib.hid (hB.alloc hB.size (.cells #[.int .i64 64, .int .i64 32, .func (.func 38) #[] #[], .nilFunc, .nilFunc] 46))) | (go_at_call 21; (with_reducible refine (OA.out _).mono ?_); rintro e w' ⟨rfl, rfl⟩) | (go_at_call 38; (with_reducible refine (X.out _ hB1.out).mono ?_); rintro e w2 ⟨rfl, n, rfl⟩))
  go_ret2
  refine ⟨rfl, ?_⟩
  repeat' (first | (with_reducible exact hB) | (with_reducible exact hB.size) | (with_reducible refine below_drewN ?_ _) | (with_reducible refine Below.alloc ?_ ?_ _) | omega)

set_option maxHeartbeats 1000000 in
theorem one_121 (a V : Int) (h0 : 0 ≤ a) (h1 : a < 18446744073709551616) (w : World) (X : ∀ w', Below w.heap.size w w' → Calls Tryd.prog 39 #[.int .u64 a] w' fun e w'' => e = .returned (.int .u64 V) ∧ ∃ n, w'' = w'.drewN n) :
    Calls Tryd.prog 15 #[.int .i64 121, .int .u64 a] w fun e w' => e = .returned (.tuple #[.int .u64 V, .int .i64 0]) ∧ Below w.heap.size w w' := by
  have OA := of64 a (by omega) (by omega)
  replace OA := Lib.hid OA
  have R := Lib.hid ruleOf121
  replace X := Lib.hid X
  go_enter Tryd.func15, Tryd.ntmps15
  go_wp2_with (first | (go_at_call 20; refine (R.out _).mono ?_; rintro e w' ⟨rfl, hB⟩; have hB1 := Lib.hid (hB.alloc hB.size (.cells #[.int .i64 64, .int .i64 64, .func (.func 39) #[] #[], .nilFunc, .nilFunc] 46))) | (go_at_call 21; (with_reducible refine (OA.out _).mono ?_); rintro e w' ⟨rfl, rfl⟩) | (go_at_call 39; (with_reducible refine (X.out _ hB1.out).mono ?_); rintro e w2 ⟨rfl, n, rfl⟩))
  go_ret2
  refine ⟨rfl, ?_⟩
  repeat' (first | (with_reducible exact hB) | (with_reducible exact hB.size) | (with_reducible refine below_drewN ?_ _) | (with_reducible refine Below.alloc ?_ ?_ _) | omega)

set_option maxHeartbeats 1000000 in
theorem one_122 (a V : Int) (h0 : 0 ≤ a) (h1 : a < 18446744073709551616) (w : World) (X : ∀ w', Below w.heap.size w w' → Calls Tryd.prog 40 #[.int .u64 a] w' fun e w'' => e = .returned (.int .u64 V) ∧ ∃ n, w'' = w'.drewN n) :
    Calls Tryd.prog 15 #[.int .i64 122, .int .u64 a] w fun e w' => e = .returned (.tuple #[.int .u64 V, .int .i64 0]) ∧ Below w.heap.size w w' := by
  have OA := of64 a (by omega) (by omega)
  replace OA := Lib.hid OA
  have R := Lib.hid ruleOf122
  replace X := Lib.hid X
  go_enter Tryd.func15, Tryd.ntmps15
  go_wp2_with (first | (go_at_call 20; refine (R.out _).mono ?_; rintro e w' ⟨rfl, hB⟩; have hB1 := Lib.hid (hB.alloc hB.size (.cells #[.int .i64 64, .int .i64 64, .func (.func 40) #[] #[], .nilFunc, .nilFunc] 46))) | (go_at_call 21; (with_reducible refine (OA.out _).mono ?_); rintro e w' ⟨rfl, rfl⟩) | (go_at_call 40; (with_reducible refine (X.out _ hB1.out).mono ?_); rintro e w2 ⟨rfl, n, rfl⟩))
  go_ret2
  refine ⟨rfl, ?_⟩
  repeat' (first | (with_reducible exact hB) | (with_reducible exact hB.size) | (with_reducible refine below_drewN ?_ _) | (with_reducible refine Below.alloc ?_ ?_ _) | omega)

set_option maxHeartbeats 1000000 in
theorem one_123 (a V : Int) (h0 : 0 ≤ a) (h1 : a < 18446744073709551616) (w : World) (X : ∀ w', Below w.heap.size w w' → Calls Tryd.prog 41 #[.int .u64 a] w' fun e w'' => e = .returned (.int .u64 V) ∧ ∃ n, w'' = w'.drewN n) :
    Calls Tryd.prog 15 #[.int .i64 123, .int .u64 a] w fun e w' => e = .returned (.tuple #[.int .u64 V, .int .i64 0]) ∧ Below w.heap.size w w' := by
  have OA := of64 a (by omega) (by omega)
  replace OA := Lib.hid OA
  have R := Lib.hid ruleOf123
  replace X := Lib.hid X
  go_enter Tryd.func15, Tryd.ntmps15
  go_wp2_with (first | (go_at_call 20; refine (R.out _).mono ?_; rintro e w' ⟨rfl, hB⟩; have hB1 := Lib.hid (hB.alloc hB.size (.cells #[.int .i64 64, .int .i64 64, .func (.func 41) #[] #[], .nilFunc, .nilFunc] 46))) | (go_at_call 21; (with_reducible refine (OA.out _).mono ?_); rintro e w' ⟨rfl, rfl⟩) | (go_at_call 41; (with_reducible refine (X.out _ hB1.out).mono ?_); rintro e w2 ⟨rfl, n, rfl⟩))
  go_ret2
  refine ⟨rfl, ?_⟩
  repeat' (first | (with_reducible exact hB) | (with_reducible exact hB.size) | (with_reducible refine below_drewN ?_ _) | (with_reducible refine Below.alloc ?_ ?_ _) | omega)

set_option maxHeartbeats 1000000 in
theorem one_194 (a V : Int) (h0 : 0 ≤ a) (h1 : a < 18446744073709551616) (w : World) (X : ∀ w', Below w.heap.size w w' → Calls Tryd.prog 42 #[.int .u64 a] w' fun e w'' => e = .returned (.int .u64 V) ∧ ∃ n, w'' = w'.drewN n) :
    Calls Tryd.prog 15 #[.int .i64 194, .int .u64 a] w fun e w' => e = .returned (.tuple #[.int .u64 V, .int .i64 0]) ∧ Below w.heap.size w w' := by
  have OA := of64 a (by omega) (by omega)
  replace OA := Lib.hid OA
  have R := Lib.hid ruleOf194
  replace X := Lib.hid X
  go_enter Tryd.func15, Tryd.ntmps15
  go_wp2_with (first | (go_at_call 20; refine (R.out _).mono ?_; rintro e w' ⟨rfl, hB⟩; have hB1 := Lib.hid (hB.alloc hB.size (.cells #[.int .i64 64, .int .i64 64, .func (.func 42) #[] #[], .nilFunc, .nilFunc] 46))) | (go_at_call 21; (with_reducible refine (OA.out _).mono ?_); rintro e w' ⟨rfl, rfl⟩) | (go_at_call 42; (with_reducible refine (X.out _ hB1.out).mono ?_); rintro e w2 ⟨rfl, n, rfl⟩))
  go_ret2
  refine ⟨rfl, ?_⟩
  repeat' (first | (with_reducible exact hB) | (with_reducible exact hB.size) | (with_reducible refine below_drewN ?_ _) | (with_reducible refine Below.alloc ?_ ?_ _) | omega)

set_option maxHeartbeats 1000000 in
theorem one_195 (a V : Int) (h0 : 0 ≤ a) (h1 : a < 18446744073709551616) (w : World) (X : ∀ w', Below w.heap.size w w' → Calls Tryd.prog 43 #[.int .u64 a] w' fun e w'' => e = .returned (.int .u64 V) ∧ ∃ n, w'' = w'.drewN n) :
    Calls Tryd.prog 15 #[.int .i64 195, .int .u64 a] w fun e w' => e = .returned (.tuple #[.int .u64 V, .int .i64 0]) ∧ Below w.heap.size w w' := by
  have OA := of64 a (by omega) (by omega)
  replace OA := Lib.hid OA
  have R := Lib.hid ruleOf195
  replace X := Lib.hid X
  go_enter Tryd.func15, Tryd.ntmps15
  go_wp2_with (first | (go_at_call 20; refine (R.out _).mono ?_; rintro e w' ⟨rfl, hB⟩; have hB1 := Lib.hid (hB.alloc hB.size (.cells #[.int .i64 64, .int .i64 64, .func (.func 43) #[] #[], .nilFunc, .nilFunc] 46))) | (go_at_call 21; (with_reducible refine (OA.out _).mono ?_); rintro e w' ⟨rfl, rfl⟩) | (go_at_call 43; (with_reducible refine (X.out _ hB1.out).mono ?_); rintro e w2 ⟨rfl, n, rfl⟩))
  go_ret2
  refine ⟨rfl, ?_⟩
  repeat' (first | (with_reducible exact hB) | (with_reducible exact hB.size) | (with_reducible refine below_drewN ?_ _) | (with_reducible refine Below.alloc ?_ ?_ _) | omega)

set_option maxHeartbeats 1000000 in
theorem one_196 (a V : Int) (h0 : 0 ≤ a) (h1 : a < 18446744073709551616) (w : World) (X : ∀ w', Below w.heap.size w w' → Calls Tryd.prog 44 #[.int .u64 a] w' fun e w'' => e = .returned (.int .u64 V) ∧ ∃ n, w'' = w'.drewN n) :
    Calls Tryd.prog 15 #[.int .i64 196, .int .u64 a] w fun e w' => e = .returned (.tuple #[.int .u64 V, .int .i64 0]) ∧ Below w.heap.size w w' := by
  have OA := of64 a (by omega) (by omega)
  replace OA := Lib.hid OA
  have R := Lib.hid ruleOf196
  replace X := Lib.hid X
  go_enter Tryd.func15, Tryd.ntmps15
  go_wp2_with (first | (go_at_call 20; refine (R.out _).mono ?_; rintro e w' ⟨rfl, hB⟩; have hB1 := Lib.hid (hB.alloc hB.size (.cells #[.int .i64 64, .int .i64 64, .func (.func 44) #[] #[], .nilFunc, .nilFunc] 46))) | (go_at_call 21; (with_reducible refine (OA.out _).mono ?_); rintro e w' ⟨rfl, rfl⟩) | (go_at_call 44; (with_reducible refine (X.out _ hB1.out).mono ?_); rintro e w2 ⟨rfl, n, rfl⟩))
  go_ret2
  refine ⟨rfl, ?_⟩
  repeat' (first | (with_reducible exact hB) | (with_reducible exact hB.size) | (with_reducible refine below_drewN ?_ _) | (with_reducible refine Below.alloc ?_ ?_ _) | omega)

set_option maxHeartbeats 1000000 in
theorem one_167 (a V : Int) (h0 : 0 ≤ a) (h1 : a < 18446744073709551616) (w : World) (X : ∀ w', Below w.heap.size w w' → Calls Tryd.prog 45 #[.int .u64 a] w' fun e w'' => e = .returned (.int .u64 V) ∧ ∃ n, w'' = w'.drewN n) :
    Calls Tryd.prog 15 #[.int .i64 167, .int .u64 a] w fun e w' => e = .returned (.tuple #[.int .u64 V, .int .i64 0]) ∧ Below w.heap.size w w' := by
  have OA := of64 a (by omega) (by omega)
  replace OA := Lib.hid OA
  have R := Lib.hid ruleOf167
  replace X := Lib.hid X
  go_enter Tryd.func15, Tryd.ntmps15
  go_wp2_with (first | (go_at_call 20; refine (R.out _).mono ?_; rintro e w' ⟨rfl, hB⟩; have hB1 := Lib.hid (hB.alloc hB.size (.cells #[.int .i64 64, .int .i64 32, .func (.func 45) #[] #[], .nilFunc, .nilFunc] 46))) | (go_at_call 21; (with_reducible refine (OA.out _).mono ?_); rintro e w' ⟨rfl, rfl⟩) | (go_at_call 45; (with_reducible refine (X.out _ hB1.out).mono ?_); rintro e w2 ⟨rfl, n, rfl⟩))
  go_ret2
  refine ⟨rfl, ?_⟩
  repeat' (first | (with_reducible exact hB) | (with_reducible exact hB.size) | (with_reducible refine below_drewN ?_ _) | (with_reducible refine Below.alloc ?_ ?_ _) | omega)

theorem u_69 (a : Int) (h0 : 0 ≤ a) (h1 : a < 4294967296) (w : World) : Calls Tryd.prog 30 #[.int .u32 a] w fun e w' => e = .returned (.int .u64 (tr (a == 0))) ∧ ∃ n, w' = w.drewN n := by
  have T := Lib.hid truth
  go_enter Tryd.func30, Tryd.ntmps30
  go_wp2_with (go_at_call 51; (with_reducible refine (T.out _ _).mono ?_); rintro e w' ⟨rfl, rfl⟩)
  go_ret
  exact ⟨rfl, 0, rfl⟩

theorem u_192 (a : Int) (h0 : 0 ≤ a) (h1 : a < 4294967296) (w : World) : Calls Tryd.prog 34 #[.int .u32 a] w fun e w' => e = .returned (.int .u64 (extI 256 4294967296 a)) ∧ ∃ n, w' = w.drewN n := by
  go_enter Tryd.func34, Tryd.ntmps34
  go_wp2
  go_ret
  exact ⟨ret_int (by unfold extI; simp only [IntKind.wrap_u64, IntKind.wrap_u32, wrap64, wrap32, wrap_i8, wrap_i16]; split <;> omega), 0, rfl⟩

theorem u_193 (a : Int) (h0 : 0 ≤ a) (h1 : a < 4294967296) (w : World) : Calls Tryd.prog 35 #[.int .u32 a] w fun e w' => e = .returned (.int .u64 (extI 65536 4294967296 a)) ∧ ∃ n, w' = w.drewN n := by
  go_enter Tryd.func35, Tryd.ntmps35
  go_wp2
  go_ret
  exact ⟨ret_int (by unfold extI; simp only [IntKind.wrap_u64, IntKind.wrap_u32, wrap64, wrap32, wrap_i8, wrap_i16]; split <;> omega), 0, rfl⟩

theorem u_172 (a : Int) (h0 : 0 ≤ a) (h1 : a < 4294967296) (w : World) : Calls Tryd.prog 36 #[.int .u32 a] w fun e w' => e = .returned (.int .u64 (extI 4294967296 18446744073709551616 a)) ∧ ∃ n, w' = w.drewN n := by
  go_enter Tryd.func36, Tryd.ntmps36
  go_wp2
  go_ret
  exact ⟨ret_int (by unfold extI; simp only [IntKind.wrap_u64, IntKind.wrap_u32, wrap64, wrap32, wrap_i8, wrap_i16]; split <;> omega), 0, rfl⟩

theorem u_173 (a : Int) (h0 : 0 ≤ a) (h1 : a < 4294967296) (w : World) : Calls Tryd.prog 37 #[.int .u32 a] w fun e w' => e = .returned (.int .u64 (a)) ∧ ∃ n, w' = w.drewN n := by
  go_enter Tryd.func37, Tryd.ntmps37
  go_wp2
  go_ret
  exact ⟨ret_int (by first | rfl | omega), 0, rfl⟩

theorem u_80 (a : Int) (h0 : 0 ≤ a) (h1 : a < 18446744073709551616) (w : World) : Calls Tryd.prog 38 #[.int .u64 a] w fun e w' => e = .returned (.int .u64 (tr (a == 0))) ∧ ∃ n, w' = w.drewN n := by
  have T := Lib.hid truth
  go_enter Tryd.func38, Tryd.ntmps38
  go_wp2_with (go_at_call 51; (with_reducible refine (T.out _ _).mono ?_); rintro e w' ⟨rfl, rfl⟩)
  go_ret
  exact ⟨rfl, 0, rfl⟩

theorem u_194 (a : Int) (h0 : 0 ≤ a) (h1 : a < 18446744073709551616) (w : World) : Calls Tryd.prog 42 #[.int .u64 a] w fun e w' => e = .returned (.int .u64 (extI 256 18446744073709551616 a)) ∧ ∃ n, w' = w.drewN n := by
  go_enter Tryd.func42, Tryd.ntmps42
  go_wp2
  go_ret
  exact ⟨ret_int (by unfold extI; simp only [IntKind.wrap_u64, IntKind.wrap_u32, wrap64, wrap32, wrap_i8, wrap_i16]; split <;> omega), 0, rfl⟩

theorem u_195 (a : Int) (h0 : 0 ≤ a) (h1 : a < 18446744073709551616) (w : World) : Calls Tryd.prog 43 #[.int .u64 a] w fun e w' => e = .returned (.int .u64 (extI 65536 18446744073709551616 a)) ∧ ∃ n, w' = w.drewN n := by
  go_enter Tryd.func43, Tryd.ntmps43
  go_wp2
  go_ret
  exact ⟨ret_int (by unfold extI; simp only [IntKind.wrap_u64, IntKind.wrap_u32, wrap64, wrap32, wrap_i8, wrap_i16]; split <;> omega), 0, rfl⟩

theorem u_196 (a : Int) (h0 : 0 ≤ a) (h1 : a < 18446744073709551616) (w : World) : Calls Tryd.prog 44 #[.int .u64 a] w fun e w' => e = .returned (.int .u64 (extI 4294967296 18446744073709551616 a)) ∧ ∃ n, w' = w.drewN n := by
  go_enter Tryd.func44, Tryd.ntmps44
  go_wp2
  go_ret
  exact ⟨ret_int (by unfold extI; simp only [IntKind.wrap_u64, IntKind.wrap_u32, wrap64, wrap32, wrap_i8, wrap_i16]; split <;> omega), 0, rfl⟩

theorem u_167 (a : Int) (h0 : 0 ≤ a) (h1 : a < 18446744073709551616) (w : World) : Calls Tryd.prog 45 #[.int .u64 a] w fun e w' => e = .returned (.int .u64 (a % 4294967296)) ∧ ∃ n, w' = w.drewN n := by
  go_enter Tryd.func45, Tryd.ntmps45
  go_wp2
  go_ret
  exact ⟨ret_int (by first | rfl | (simp only [IntKind.wrap_u32, IntKind.wrap_u64]; omega)), 0, rfl⟩

theorem known_two (op a b v e : Int) (h0 : 0 ≤ a) (h1 : a < 18446744073709551616) (g0 : 0 ≤ b) (g1 : b < 18446744073709551616) (hv : twoV op a b = v) (he : twoE op a b = e) (w : World) :
    Calls Tryd.prog 10 #[.int .i64 op, .int .u64 a, .int .u64 b] w fun e' w' => e' = .returned (.tuple #[.int .u64 v, .int .i64 e]) ∧ Below w.heap.size w w' := by
  subst hv; subst he; exact Two op a b h0 h1 g0 g1 w
set_option maxHeartbeats 1000000 in
theorem known (w : World) : Calls Tryd.prog 12 #[] w fun e w' => e = .returned (.bool true) ∧ Below w.heap.size w w' := by
  have R1 := Lib.hid (known_two 124 18446744073709551615 2 1 0 (by decide) (by decide) (by decide) (by decide) (by decide +kernel) (by decide +kernel))
  have R2 := Lib.hid (known_two 109 2147483648 4294967295 0 31 (by decide) (by decide) (by decide) (by decide) (by decide +kernel) (by decide +kernel))
  have R3 := Lib.hid (known_two 117 2147483648 33 3221225472 0 (by decide) (by decide) (by decide) (by decide) (by decide +kernel) (by decide +kernel))
  have R4 := fun w => one_172 2147483648 _ (by decide) (by decide) w (fun w' _ => u_172 2147483648 (by decide) (by decide) w')
  rw [show extI 4294967296 18446744073709551616 2147483648 = 18446744071562067968 by decide] at R4
  replace R4 := Lib.hid R4
  have R5 := Lib.hid (one_103_big 4294967296 (by decide) (by decide))
  have hB := Below.refl w.heap.size w
  go_enter Tryd.func12, Tryd.ntmps12
  go_wp2_with (first | (go_at_call 10; (with_reducible refine (R1.out _).mono ?_); rintro e w' ⟨rfl, hb⟩; replace hB := below_step (w := w) (by repeat (first | exact hB | refine Below.drew ?_ | refine below_drewN ?_ _ | refine Below.alloc ?_ (by have h9 := hB.size; first | omega | (simp; done) | (simp at h9 ⊢; omega) | (simp; omega)) _)) hb; clear hb) | (go_at_call 10; (with_reducible refine (R2.out _).mono ?_); rintro e w' ⟨rfl, hb⟩; replace hB := below_step (w := w) (by repeat (first | exact hB | refine Below.drew ?_ | refine below_drewN ?_ _ | refine Below.alloc ?_ (by have h9 := hB.size; first | omega | (simp; done) | (simp at h9 ⊢; omega) | (simp; omega)) _)) hb; clear hb) | (go_at_call 10; (with_reducible refine (R3.out _).mono ?_); rintro e w' ⟨rfl, hb⟩; replace hB := below_step (w := w) (by repeat (first | exact hB | refine Below.drew ?_ | refine below_drewN ?_ _ | refine Below.alloc ?_ (by have h9 := hB.size; first | omega | (simp; done) | (simp at h9 ⊢; omega) | (simp; omega)) _)) hb; clear hb) | (go_at_call 15; (with_reducible refine (R4.out _).mono ?_); rintro e w' ⟨rfl, hb⟩; replace hB := below_step (w := w) (by repeat (first | exact hB | refine Below.drew ?_ | refine below_drewN ?_ _ | refine Below.alloc ?_ (by have h9 := hB.size; first | omega | (simp; done) | (simp at h9 ⊢; omega) | (simp; omega)) _)) hb; clear hb) | (go_at_call 15; (with_reducible refine (R5.out _).mono ?_); rintro e w' ⟨rfl, hb⟩; replace hB := below_step (w := w) (by repeat (first | exact hB | refine Below.drew ?_ | refine below_drewN ?_ _ | refine Below.alloc ?_ (by have h9 := hB.size; first | omega | (simp; done) | (simp at h9 ⊢; omega) | (simp; omega)) _)) hb; clear hb))
  go_ret
  exact ⟨rfl, hB⟩
end Go.Proofs.YtfcagbgnlibfpaaDoor.A
