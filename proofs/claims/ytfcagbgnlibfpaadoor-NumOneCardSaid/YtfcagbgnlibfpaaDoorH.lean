/- num: the contract of num.Two: what it returns, whatever operation and numbers it is given; no memory that was there turns. -/
import Derived.Test.YtfcagbgnlibfpaaDoorG0
import Derived.Test.YtfcagbgnlibfpaaDoorG1
import Derived.Test.YtfcagbgnlibfpaaDoorG2
import Derived.Test.YtfcagbgnlibfpaaDoorG3
import Derived.Test.YtfcagbgnlibfpaaDoorG4
import Derived.Test.YtfcagbgnlibfpaaDoorG5
import Derived.Test.YtfcagbgnlibfpaaDoorG6
namespace Go.Proofs.YtfcagbgnlibfpaaDoor.A
open Go.ChangeShapes Go.WideShapes Go.ChangeAt Go.RowKit Go.Proofs.YtfcagbgnlibfpaaDoor.S
set_option linter.unusedVariables false
set_option linter.unusedSimpArgs false

/-- What an operation of two numbers comes to, and its error. -/
def twoV (op a b : Int) : Int :=
  if 70 ≤ op ∧ op ≤ 79 then (if a < 4294967296 ∧ b < 4294967296 then askI 32 (op - 70).toNat a b else 0)
  else if 81 ≤ op ∧ op ≤ 90 then askI 64 (op - 81).toNat a b
  else if 106 ≤ op ∧ op ≤ 120 then (if a < 4294967296 ∧ b < 4294967296 then sumI 32 (op - 106).toNat a b else 0)
  else if 124 ≤ op ∧ op ≤ 138 then sumI 64 (op - 124).toNat a b
  else 0
def twoE (op a b : Int) : Int :=
  if 70 ≤ op ∧ op ≤ 79 then (if a < 4294967296 ∧ b < 4294967296 then 0 else 2)
  else if 81 ≤ op ∧ op ≤ 90 then 0
  else if 106 ≤ op ∧ op ≤ 120 then (if a < 4294967296 ∧ b < 4294967296 then errI 32 (op - 106).toNat a b else 2)
  else if 124 ≤ op ∧ op ≤ 138 then errI 64 (op - 124).toNat a b
  else 2

theorem callf (f : Nat) (h : f = 91 ∨ f = 92 ∨ f = 71 ∨ f = 74 ∨ f = 93) (args : Array Value) (w : World) : (callFunc f args).run Tryd.prog w = .ok (.enter f args) w := by
  rcases h with rfl | rfl | rfl | rfl | rfl <;> kernel_rfl
theorem eql_func (T : Nat) (hT : T = 44) (f : Nat) (cap : Array Value) (w : World) : (binOp .eql T (.func (.func f) #[] cap) .nilFunc).run Tryd.prog w = .ok (.bool false) w := by subst hT; kernel_rfl
theorem eql_nil (w : World) : (binOp .eql 44 .nilFunc .nilFunc).run Tryd.prog w = .ok (.bool true) w := by kernel_rfl
theorem neq_func44 (f : Nat) (cap : Array Value) (w : World) : (binOp .neq 44 (.func (.func f) #[] cap) .nilFunc).run Tryd.prog w = .ok (.bool true) w := by kernel_rfl
theorem neq_nil44 (w : World) : (binOp .neq 44 .nilFunc .nilFunc).run Tryd.prog w = .ok (.bool false) w := by kernel_rfl
theorem neq_func42 (f : Nat) (cap : Array Value) (w : World) : (binOp .neq 42 (.func (.func f) #[] cap) .nilFunc).run Tryd.prog w = .ok (.bool true) w := by kernel_rfl
theorem neq_nil42 (w : World) : (binOp .neq 42 .nilFunc .nilFunc).run Tryd.prog w = .ok (.bool false) w := by kernel_rfl
attribute [local go_sem] eql_func eql_nil neq_func44 neq_nil44 neq_func42 neq_nil42
theorem CloA.fn' {i f x : Nat} {w : World} (h : CloA i f x w) : f = 91 ∨ f = 92 ∨ f = 71 ∨ f = 74 ∨ f = 93 := by have := h.fn; omega
theorem CloS.fn' {i f x y : Nat} {w : World} (h : CloS i f x y w) : f = 91 ∨ f = 92 ∨ f = 71 ∨ f = 74 ∨ f = 93 := by have := h.fn; omega

set_option maxHeartbeats 2000000 in
theorem two0_ok (op a b : Int) (k1 : 70 ≤ op) (k2 : op ≤ 79) (h0 : 0 ≤ a) (h1 : a < 4294967296) (g0 : 0 ≤ b) (g1 : b < 4294967296) (w : World) :
    Calls Tryd.prog 10 #[.int .i64 op, .int .u64 a, .int .u64 b] w fun e w' => e = .returned (.tuple #[.int .u64 (askI 32 (op - 70).toNat a b), .int .i64 (0)]) ∧ Below w.heap.size w w' := by
  have OA := of32 a (by omega) (by omega)
  have OB := of32 b (by omega) (by omega)
  rw [show decide (a < 4294967296) = true by simp; omega] at OA
  rw [show decide (b < 4294967296) = true by simp; omega] at OB
  replace OA := Lib.hid OA
  replace OB := Lib.hid OB
  have R := Lib.hid (rule0 op k1 k2)
  go_enter Tryd.func10, Tryd.ntmps10
  go_wp2_with (first | (go_at_call 20; refine (R.out _).mono ?_; rintro e w' ⟨f, x, rfl, hclo, hB⟩; have hcf := callf f hclo.fn'; have hC := Lib.hid hclo; clear hclo) | (go_at_call 21; (first | (with_reducible refine (OA.out _).mono ?_) | (with_reducible refine (OB.out _).mono ?_)); rintro e w' ⟨rfl, rfl⟩) | ((with_reducible refine (cloA_32 (hC.out.alloc _) a b h0 h1 g0 g1).mono ?_); rintro e w2 ⟨rfl, n, rfl⟩))
  go_ret2
  refine ⟨rfl, ?_⟩
  repeat' (first | (with_reducible exact hB) | (with_reducible exact hB.size) | (with_reducible exact below_drewN ?_ _) | (with_reducible refine below_drewN ?_ _) | (with_reducible refine Below.alloc ?_ ?_ _) | omega)

set_option maxHeartbeats 2000000 in
theorem two0_a (op a b : Int) (k1 : 70 ≤ op) (k2 : op ≤ 79) (h0 : 4294967296 ≤ a) (h1 : a < 18446744073709551616) (g0 : 0 ≤ b) (g1 : b < 18446744073709551616) (w : World) :
    Calls Tryd.prog 10 #[.int .i64 op, .int .u64 a, .int .u64 b] w fun e w' => e = .returned (.tuple #[.int .u64 (0), .int .i64 (2)]) ∧ Below w.heap.size w w' := by
  have OA := of32 a (by omega) (by omega)
  have OB := of32 b (by omega) (by omega)
  rw [show decide (a < 4294967296) = false by simp; omega] at OA
  replace OA := Lib.hid OA
  replace OB := Lib.hid OB
  have R := Lib.hid (rule0 op k1 k2)
  go_enter Tryd.func10, Tryd.ntmps10
  go_wp2_with (first | (go_at_call 20; refine (R.out _).mono ?_; rintro e w' ⟨f, x, rfl, hclo, hB⟩; have hcf := callf f hclo.fn'; have hC := Lib.hid hclo; clear hclo) | (go_at_call 21; (first | (with_reducible refine (OA.out _).mono ?_) | (with_reducible refine (OB.out _).mono ?_)); rintro e w' ⟨rfl, rfl⟩))
  go_ret2
  refine ⟨rfl, ?_⟩
  repeat' (first | (with_reducible exact hB) | (with_reducible exact hB.size) | (with_reducible exact below_drewN ?_ _) | (with_reducible refine below_drewN ?_ _) | (with_reducible refine Below.alloc ?_ ?_ _) | omega)

set_option maxHeartbeats 2000000 in
theorem two0_b (op a b : Int) (k1 : 70 ≤ op) (k2 : op ≤ 79) (h0 : 0 ≤ a) (h1 : a < 4294967296) (g0 : 4294967296 ≤ b) (g1 : b < 18446744073709551616) (w : World) :
    Calls Tryd.prog 10 #[.int .i64 op, .int .u64 a, .int .u64 b] w fun e w' => e = .returned (.tuple #[.int .u64 (0), .int .i64 (2)]) ∧ Below w.heap.size w w' := by
  have OA := of32 a (by omega) (by omega)
  have OB := of32 b (by omega) (by omega)
  rw [show decide (a < 4294967296) = true by simp; omega] at OA
  rw [show decide (b < 4294967296) = false by simp; omega] at OB
  replace OA := Lib.hid OA
  replace OB := Lib.hid OB
  have R := Lib.hid (rule0 op k1 k2)
  go_enter Tryd.func10, Tryd.ntmps10
  go_wp2_with (first | (go_at_call 20; refine (R.out _).mono ?_; rintro e w' ⟨f, x, rfl, hclo, hB⟩; have hcf := callf f hclo.fn'; have hC := Lib.hid hclo; clear hclo) | (go_at_call 21; (first | (with_reducible refine (OA.out _).mono ?_) | (with_reducible refine (OB.out _).mono ?_)); rintro e w' ⟨rfl, rfl⟩))
  go_ret2
  refine ⟨rfl, ?_⟩
  repeat' (first | (with_reducible exact hB) | (with_reducible exact hB.size) | (with_reducible exact below_drewN ?_ _) | (with_reducible refine below_drewN ?_ _) | (with_reducible refine Below.alloc ?_ ?_ _) | omega)

set_option maxHeartbeats 2000000 in
theorem two1_ok (op a b : Int) (k1 : 81 ≤ op) (k2 : op ≤ 90) (h0 : 0 ≤ a) (h1 : a < 18446744073709551616) (g0 : 0 ≤ b) (g1 : b < 18446744073709551616) (w : World) :
    Calls Tryd.prog 10 #[.int .i64 op, .int .u64 a, .int .u64 b] w fun e w' => e = .returned (.tuple #[.int .u64 (askI 64 (op - 81).toNat a b), .int .i64 (0)]) ∧ Below w.heap.size w w' := by
  have OA := Lib.hid (of64 a h0 h1)
  have OB := Lib.hid (of64 b g0 g1)
  have R := Lib.hid (rule1 op k1 k2)
  go_enter Tryd.func10, Tryd.ntmps10
  go_wp2_with (first | (go_at_call 20; refine (R.out _).mono ?_; rintro e w' ⟨f, x, rfl, hclo, hB⟩; have hcf := callf f hclo.fn'; have hC := Lib.hid hclo; clear hclo) | (go_at_call 21; (first | (with_reducible refine (OA.out _).mono ?_) | (with_reducible refine (OB.out _).mono ?_)); rintro e w' ⟨rfl, rfl⟩) | ((with_reducible refine (cloA_64 (hC.out.alloc _) a b h0 h1 g0 g1).mono ?_); rintro e w2 ⟨rfl, n, rfl⟩))
  go_ret2
  refine ⟨rfl, ?_⟩
  repeat' (first | (with_reducible exact hB) | (with_reducible exact hB.size) | (with_reducible exact below_drewN ?_ _) | (with_reducible refine below_drewN ?_ _) | (with_reducible refine Below.alloc ?_ ?_ _) | omega)

set_option maxHeartbeats 2000000 in
theorem two2_ok (op a b : Int) (k1 : 106 ≤ op) (k2 : op ≤ 120) (h0 : 0 ≤ a) (h1 : a < 4294967296) (g0 : 0 ≤ b) (g1 : b < 4294967296) (w : World) :
    Calls Tryd.prog 10 #[.int .i64 op, .int .u64 a, .int .u64 b] w fun e w' => e = .returned (.tuple #[.int .u64 (sumI 32 (op - 106).toNat a b), .int .i64 (errI 32 (op - 106).toNat a b)]) ∧ Below w.heap.size w w' := by
  have OA := of32 a (by omega) (by omega)
  have OB := of32 b (by omega) (by omega)
  rw [show decide (a < 4294967296) = true by simp; omega] at OA
  rw [show decide (b < 4294967296) = true by simp; omega] at OB
  replace OA := Lib.hid OA
  replace OB := Lib.hid OB
  have R := Lib.hid (rule2 op k1 k2)
  go_enter Tryd.func10, Tryd.ntmps10
  go_wp2_with (first | (go_at_call 20; refine (R.out _).mono ?_; rintro e w' ⟨f, x, y, rfl, hclo, hB⟩; have hcf := callf f hclo.fn'; have hC := Lib.hid hclo; clear hclo) | (go_at_call 21; (first | (with_reducible refine (OA.out _).mono ?_) | (with_reducible refine (OB.out _).mono ?_)); rintro e w' ⟨rfl, rfl⟩) | ((with_reducible refine (cloS_32 (hC.out.alloc _) a b h0 h1 g0 g1).mono ?_); rintro e w2 ⟨rfl, n, rfl⟩))
  go_ret2
  refine ⟨rfl, ?_⟩
  repeat' (first | (with_reducible exact hB) | (with_reducible exact hB.size) | (with_reducible exact below_drewN ?_ _) | (with_reducible refine below_drewN ?_ _) | (with_reducible refine Below.alloc ?_ ?_ _) | omega)

set_option maxHeartbeats 2000000 in
theorem two2_a (op a b : Int) (k1 : 106 ≤ op) (k2 : op ≤ 120) (h0 : 4294967296 ≤ a) (h1 : a < 18446744073709551616) (g0 : 0 ≤ b) (g1 : b < 18446744073709551616) (w : World) :
    Calls Tryd.prog 10 #[.int .i64 op, .int .u64 a, .int .u64 b] w fun e w' => e = .returned (.tuple #[.int .u64 (0), .int .i64 (2)]) ∧ Below w.heap.size w w' := by
  have OA := of32 a (by omega) (by omega)
  have OB := of32 b (by omega) (by omega)
  rw [show decide (a < 4294967296) = false by simp; omega] at OA
  replace OA := Lib.hid OA
  replace OB := Lib.hid OB
  have R := Lib.hid (rule2 op k1 k2)
  go_enter Tryd.func10, Tryd.ntmps10
  go_wp2_with (first | (go_at_call 20; refine (R.out _).mono ?_; rintro e w' ⟨f, x, y, rfl, hclo, hB⟩; have hcf := callf f hclo.fn'; have hC := Lib.hid hclo; clear hclo) | (go_at_call 21; (first | (with_reducible refine (OA.out _).mono ?_) | (with_reducible refine (OB.out _).mono ?_)); rintro e w' ⟨rfl, rfl⟩))
  go_ret2
  refine ⟨rfl, ?_⟩
  repeat' (first | (with_reducible exact hB) | (with_reducible exact hB.size) | (with_reducible exact below_drewN ?_ _) | (with_reducible refine below_drewN ?_ _) | (with_reducible refine Below.alloc ?_ ?_ _) | omega)

set_option maxHeartbeats 2000000 in
theorem two2_b (op a b : Int) (k1 : 106 ≤ op) (k2 : op ≤ 120) (h0 : 0 ≤ a) (h1 : a < 4294967296) (g0 : 4294967296 ≤ b) (g1 : b < 18446744073709551616) (w : World) :
    Calls Tryd.prog 10 #[.int .i64 op, .int .u64 a, .int .u64 b] w fun e w' => e = .returned (.tuple #[.int .u64 (0), .int .i64 (2)]) ∧ Below w.heap.size w w' := by
  have OA := of32 a (by omega) (by omega)
  have OB := of32 b (by omega) (by omega)
  rw [show decide (a < 4294967296) = true by simp; omega] at OA
  rw [show decide (b < 4294967296) = false by simp; omega] at OB
  replace OA := Lib.hid OA
  replace OB := Lib.hid OB
  have R := Lib.hid (rule2 op k1 k2)
  go_enter Tryd.func10, Tryd.ntmps10
  go_wp2_with (first | (go_at_call 20; refine (R.out _).mono ?_; rintro e w' ⟨f, x, y, rfl, hclo, hB⟩; have hcf := callf f hclo.fn'; have hC := Lib.hid hclo; clear hclo) | (go_at_call 21; (first | (with_reducible refine (OA.out _).mono ?_) | (with_reducible refine (OB.out _).mono ?_)); rintro e w' ⟨rfl, rfl⟩))
  go_ret2
  refine ⟨rfl, ?_⟩
  repeat' (first | (with_reducible exact hB) | (with_reducible exact hB.size) | (with_reducible exact below_drewN ?_ _) | (with_reducible refine below_drewN ?_ _) | (with_reducible refine Below.alloc ?_ ?_ _) | omega)

set_option maxHeartbeats 2000000 in
theorem two3_ok (op a b : Int) (k1 : 124 ≤ op) (k2 : op ≤ 138) (h0 : 0 ≤ a) (h1 : a < 18446744073709551616) (g0 : 0 ≤ b) (g1 : b < 18446744073709551616) (w : World) :
    Calls Tryd.prog 10 #[.int .i64 op, .int .u64 a, .int .u64 b] w fun e w' => e = .returned (.tuple #[.int .u64 (sumI 64 (op - 124).toNat a b), .int .i64 (errI 64 (op - 124).toNat a b)]) ∧ Below w.heap.size w w' := by
  have OA := Lib.hid (of64 a h0 h1)
  have OB := Lib.hid (of64 b g0 g1)
  have R := Lib.hid (rule3 op k1 k2)
  go_enter Tryd.func10, Tryd.ntmps10
  go_wp2_with (first | (go_at_call 20; refine (R.out _).mono ?_; rintro e w' ⟨f, x, y, rfl, hclo, hB⟩; have hcf := callf f hclo.fn'; have hC := Lib.hid hclo; clear hclo) | (go_at_call 21; (first | (with_reducible refine (OA.out _).mono ?_) | (with_reducible refine (OB.out _).mono ?_)); rintro e w' ⟨rfl, rfl⟩) | ((with_reducible refine (cloS_64 (hC.out.alloc _) a b h0 h1 g0 g1).mono ?_); rintro e w2 ⟨rfl, n, rfl⟩))
  go_ret2
  refine ⟨rfl, ?_⟩
  repeat' (first | (with_reducible exact hB) | (with_reducible exact hB.size) | (with_reducible exact below_drewN ?_ _) | (with_reducible refine below_drewN ?_ _) | (with_reducible refine Below.alloc ?_ ?_ _) | omega)

/-- What 'ruleOf' hands back of an operation of one number. -/
def RuleOne (w : World) (e : Ending) (w' : World) : Prop := ∃ (f t : Int) (n : Nat), (e = .returned (.tuple #[.agg #[.int .i64 f, .int .i64 t, .func (.func n) #[] #[], .nilFunc, .nilFunc], .bool true]) ∨ e = .returned (.tuple #[.agg #[.int .i64 f, .int .i64 t, .nilFunc, .func (.func n) #[] #[], .nilFunc], .bool true])) ∧ Below w.heap.size w w'
theorem one_cases (op : Int) (h : onesB op = true) : op = 69 ∨ op = 103 ∨ op = 104 ∨ op = 105 ∨ op = 192 ∨ op = 193 ∨ op = 172 ∨ op = 173 ∨ op = 80 ∨ op = 121 ∨ op = 122 ∨ op = 123 ∨ op = 194 ∨ op = 195 ∨ op = 196 ∨ op = 167 := by
  unfold onesB at h
  simp only [Bool.or_eq_true, beq_iff_eq] at h
  omega
theorem rule_one (op : Int) (h : onesB op = true) (w : World) : Calls Tryd.prog 20 #[.int .i64 op] w (RuleOne w) := by
  rcases one_cases op h with rfl | rfl | rfl | rfl | rfl | rfl | rfl | rfl | rfl | rfl | rfl | rfl | rfl | rfl | rfl | rfl
  · exact (ruleOf69 w).mono fun e w' ⟨he, hb⟩ => ⟨32, 32, 30, .inr he, hb⟩
  · exact (ruleOf103 w).mono fun e w' ⟨he, hb⟩ => ⟨32, 32, 31, .inr he, hb⟩
  · exact (ruleOf104 w).mono fun e w' ⟨he, hb⟩ => ⟨32, 32, 32, .inr he, hb⟩
  · exact (ruleOf105 w).mono fun e w' ⟨he, hb⟩ => ⟨32, 32, 33, .inr he, hb⟩
  · exact (ruleOf192 w).mono fun e w' ⟨he, hb⟩ => ⟨32, 32, 34, .inr he, hb⟩
  · exact (ruleOf193 w).mono fun e w' ⟨he, hb⟩ => ⟨32, 32, 35, .inr he, hb⟩
  · exact (ruleOf172 w).mono fun e w' ⟨he, hb⟩ => ⟨32, 64, 36, .inr he, hb⟩
  · exact (ruleOf173 w).mono fun e w' ⟨he, hb⟩ => ⟨32, 64, 37, .inr he, hb⟩
  · exact (ruleOf80 w).mono fun e w' ⟨he, hb⟩ => ⟨64, 32, 38, .inl he, hb⟩
  · exact (ruleOf121 w).mono fun e w' ⟨he, hb⟩ => ⟨64, 64, 39, .inl he, hb⟩
  · exact (ruleOf122 w).mono fun e w' ⟨he, hb⟩ => ⟨64, 64, 40, .inl he, hb⟩
  · exact (ruleOf123 w).mono fun e w' ⟨he, hb⟩ => ⟨64, 64, 41, .inl he, hb⟩
  · exact (ruleOf194 w).mono fun e w' ⟨he, hb⟩ => ⟨64, 64, 42, .inl he, hb⟩
  · exact (ruleOf195 w).mono fun e w' ⟨he, hb⟩ => ⟨64, 64, 43, .inl he, hb⟩
  · exact (ruleOf196 w).mono fun e w' ⟨he, hb⟩ => ⟨64, 64, 44, .inl he, hb⟩
  · exact (ruleOf167 w).mono fun e w' ⟨he, hb⟩ => ⟨64, 32, 45, .inl he, hb⟩

theorem no_cases (op : Int) (h : onesB op = false) (h0 : ¬ (70 ≤ op ∧ op ≤ 79)) (h1 : ¬ (81 ≤ op ∧ op ≤ 90)) (h2 : ¬ (106 ≤ op ∧ op ≤ 120)) (h3 : ¬ (124 ≤ op ∧ op ≤ 138)) : op < 70 ∨ (90 < op ∧ op < 106) ∨ 138 < op := by
  unfold onesB at h
  simp only [Bool.or_eq_false_iff, beq_eq_false_iff_ne] at h
  omega
theorem rule_no (op : Int) (h : onesB op = false) (h0 : ¬ (70 ≤ op ∧ op ≤ 79)) (h1 : ¬ (81 ≤ op ∧ op ≤ 90)) (h2 : ¬ (106 ≤ op ∧ op ≤ 120)) (h3 : ¬ (124 ≤ op ∧ op ≤ 138)) (w : World) :
    Calls Tryd.prog 20 #[.int .i64 op] w fun e w' => e = .returned (.tuple #[.agg #[.int .i64 0, .int .i64 0, .nilFunc, .nilFunc, .nilFunc], .bool false]) ∧ Below w.heap.size w w' := by
  rcases no_cases op h h0 h1 h2 h3 with g | ⟨g, g'⟩ | g
  · exact rule_no_a op g h w
  · exact rule_no_b op g g' h w
  · exact rule_no_c op g h w

set_option maxHeartbeats 2000000 in
theorem two_one (op a b : Int) (h : onesB op = true) (w : World) :
    Calls Tryd.prog 10 #[.int .i64 op, .int .u64 a, .int .u64 b] w fun e w' => e = .returned (.tuple #[.int .u64 0, .int .i64 2]) ∧ Below w.heap.size w w' := by
  have R := Lib.hid (rule_one op h)
  clear h
  go_enter Tryd.func10, Tryd.ntmps10
  go_wp2_with (go_at_call 20; refine (R.out _).mono ?_; rintro e w' ⟨f, t, n, rfl | rfl, hB⟩)
  all_goals
    go_wp2
    go_ret2
    refine ⟨rfl, ?_⟩
    repeat' (first | (with_reducible exact hB) | (with_reducible exact hB.size) | (with_reducible exact below_drewN ?_ _) | (with_reducible refine below_drewN ?_ _) | (with_reducible refine Below.alloc ?_ ?_ _) | omega)
set_option maxHeartbeats 2000000 in
theorem two_no (op a b : Int) (h : onesB op = false) (h0 : ¬ (70 ≤ op ∧ op ≤ 79)) (h1 : ¬ (81 ≤ op ∧ op ≤ 90)) (h2 : ¬ (106 ≤ op ∧ op ≤ 120)) (h3 : ¬ (124 ≤ op ∧ op ≤ 138)) (w : World) :
    Calls Tryd.prog 10 #[.int .i64 op, .int .u64 a, .int .u64 b] w fun e w' => e = .returned (.tuple #[.int .u64 0, .int .i64 2]) ∧ Below w.heap.size w w' := by
  have R := Lib.hid (rule_no op h h0 h1 h2 h3)
  clear h h0 h1 h2 h3
  go_enter Tryd.func10, Tryd.ntmps10
  go_wp2_with (go_at_call 20; refine (R.out _).mono ?_; rintro e w' ⟨rfl, hB⟩)
  go_ret2
  refine ⟨rfl, ?_⟩
  repeat' (first | (with_reducible exact hB) | (with_reducible exact hB.size) | (with_reducible exact below_drewN ?_ _) | (with_reducible refine below_drewN ?_ _) | (with_reducible refine Below.alloc ?_ ?_ _) | omega)

theorem one_not (op : Int) (h : onesB op = true) : ¬ (70 ≤ op ∧ op ≤ 79) ∧ ¬ (81 ≤ op ∧ op ≤ 90) ∧ ¬ (106 ≤ op ∧ op ≤ 120) ∧ ¬ (124 ≤ op ∧ op ≤ 138) := by
  have := one_cases op h; omega
/-- The contract of num.Two. -/
theorem Two (op a b : Int) (h0 : 0 ≤ a) (h1 : a < 18446744073709551616) (g0 : 0 ≤ b) (g1 : b < 18446744073709551616) (w : World) :
    Calls Tryd.prog 10 #[.int .i64 op, .int .u64 a, .int .u64 b] w fun e w' => e = .returned (.tuple #[.int .u64 (twoV op a b), .int .i64 (twoE op a b)]) ∧ Below w.heap.size w w' := by
  unfold twoV twoE
  by_cases c0 : 70 ≤ op ∧ op ≤ 79
  · simp only [if_pos c0]
    by_cases ha : a < 4294967296
    · by_cases hb : b < 4294967296
      · simp only [if_pos (And.intro ha hb)]; exact two0_ok op a b c0.1 c0.2 h0 ha g0 hb w
      · rw [if_neg (fun h => hb h.2), if_neg (fun h => hb h.2)]; exact two0_b op a b c0.1 c0.2 h0 ha (by omega) g1 w
    · rw [if_neg (fun h => ha h.1), if_neg (fun h => ha h.1)]; exact two0_a op a b c0.1 c0.2 (by omega) h1 g0 g1 w
  simp only [if_neg c0]
  by_cases c1 : 81 ≤ op ∧ op ≤ 90
  · simp only [if_pos c1]; exact two1_ok op a b c1.1 c1.2 h0 h1 g0 g1 w
  simp only [if_neg c1]
  by_cases c2 : 106 ≤ op ∧ op ≤ 120
  · simp only [if_pos c2]
    by_cases ha : a < 4294967296
    · by_cases hb : b < 4294967296
      · simp only [if_pos (And.intro ha hb)]; exact two2_ok op a b c2.1 c2.2 h0 ha g0 hb w
      · rw [if_neg (fun h => hb h.2), if_neg (fun h => hb h.2)]; exact two2_b op a b c2.1 c2.2 h0 ha (by omega) g1 w
    · rw [if_neg (fun h => ha h.1), if_neg (fun h => ha h.1)]; exact two2_a op a b c2.1 c2.2 (by omega) h1 g0 g1 w
  simp only [if_neg c2]
  by_cases c3 : 124 ≤ op ∧ op ≤ 138
  · simp only [if_pos c3]; exact two3_ok op a b c3.1 c3.2 h0 h1 g0 g1 w
  simp only [if_neg c3]
  cases ho : onesB op with
  | true => exact two_one op a b ho w
  | false => exact two_no op a b ho c0 c1 c2 c3 w
end Go.Proofs.YtfcagbgnlibfpaaDoor.A
