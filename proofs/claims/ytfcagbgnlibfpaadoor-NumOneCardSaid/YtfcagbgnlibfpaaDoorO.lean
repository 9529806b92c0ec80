/- num: what num.Bits and num.One come to at every operation that is none of one number; what num.Bits comes to at those of one number. -/
import Derived.Test.YtfcagbgnlibfpaaDoorI
namespace Go.Proofs.YtfcagbgnlibfpaaDoor.A
open Go.ChangeShapes Go.WideShapes Go.ChangeAt Go.RowKit Go.Proofs.YtfcagbgnlibfpaaDoor.S
set_option linter.unusedVariables false
set_option linter.unusedSimpArgs false

set_option maxHeartbeats 2000000 in
theorem Bits_no (op : Int) (h : onesB op = false) (h0 : ¬ (70 ≤ op ∧ op ≤ 79)) (h1 : ¬ (81 ≤ op ∧ op ≤ 90)) (h2 : ¬ (106 ≤ op ∧ op ≤ 120)) (h3 : ¬ (124 ≤ op ∧ op ≤ 138)) (w : World) :
    Calls Tryd.prog 18 #[.int .i64 op] w fun e w' => e = .returned (.tuple #[.int .i64 0, .int .i64 0, .int .i64 0]) ∧ Below w.heap.size w w' := by
  have R := Lib.hid (rule_no op h h0 h1 h2 h3)
  clear h h0 h1 h2 h3
  go_enter Tryd.func18, Tryd.ntmps18
  go_wp2_with (go_at_call 20; refine (R.out _).mono ?_; rintro e w' ⟨rfl, hB⟩)
  go_ret3
  refine ⟨rfl, ?_⟩
  repeat' (first | (with_reducible exact hB) | (with_reducible exact hB.size) | (with_reducible exact below_drewN ?_ _) | (with_reducible refine below_drewN ?_ _) | (with_reducible refine Below.drew ?_) | (with_reducible refine Below.alloc ?_ ?_ _) | omega)
set_option maxHeartbeats 2000000 in
theorem One_no (op a : Int) (h : onesB op = false) (h0 : ¬ (70 ≤ op ∧ op ≤ 79)) (h1 : ¬ (81 ≤ op ∧ op ≤ 90)) (h2 : ¬ (106 ≤ op ∧ op ≤ 120)) (h3 : ¬ (124 ≤ op ∧ op ≤ 138)) (w : World) :
    Calls Tryd.prog 15 #[.int .i64 op, .int .u64 a] w fun e w' => e = .returned (.tuple #[.int .u64 0, .int .i64 2]) ∧ Below w.heap.size w w' := by
  have R := Lib.hid (rule_no op h h0 h1 h2 h3)
  clear h h0 h1 h2 h3
  go_enter Tryd.func15, Tryd.ntmps15
  go_wp2_with (go_at_call 20; refine (R.out _).mono ?_; rintro e w' ⟨rfl, hB⟩)
  go_ret2
  refine ⟨rfl, ?_⟩
  repeat' (first | (with_reducible exact hB) | (with_reducible exact hB.size) | (with_reducible exact below_drewN ?_ _) | (with_reducible refine below_drewN ?_ _) | (with_reducible refine Below.drew ?_) | (with_reducible refine Below.alloc ?_ ?_ _) | omega)
set_option maxHeartbeats 2000000 in
theorem Bits_0 (op : Int) (k1 : 70 ≤ op) (k2 : op ≤ 79) (w : World) :
    Calls Tryd.prog 18 #[.int .i64 op] w fun e w' => e = .returned (.tuple #[.int .i64 32, .int .i64 32, .int .i64 2]) ∧ Below w.heap.size w w' := by
  have R := Lib.hid (rule0 op k1 k2)
  clear k1 k2
  have N1 := neq_func44
  have N2 := neq_nil44
  go_enter Tryd.func18, Tryd.ntmps18
  go_wp2_with (go_at_call 20; refine (R.out _).mono ?_; rintro e w' ⟨f, x, rfl, hclo, hB⟩; clear hclo)
  go_region
  go_wp2
  go_ret3
  refine ⟨rfl, ?_⟩
  repeat' (first | (with_reducible exact hB) | (with_reducible exact hB.size) | (with_reducible exact below_drewN ?_ _) | (with_reducible refine below_drewN ?_ _) | (with_reducible refine Below.drew ?_) | (with_reducible refine Below.alloc ?_ ?_ _) | omega)
set_option maxHeartbeats 2000000 in
theorem One_0 (op a : Int) (k1 : 70 ≤ op) (k2 : op ≤ 79) (w : World) :
    Calls Tryd.prog 15 #[.int .i64 op, .int .u64 a] w fun e w' => e = .returned (.tuple #[.int .u64 0, .int .i64 2]) ∧ Below w.heap.size w w' := by
  have R := Lib.hid (rule0 op k1 k2)
  clear k1 k2
  have N1 := neq_func44
  have N2 := neq_nil44
  go_enter Tryd.func15, Tryd.ntmps15
  go_wp2_with (go_at_call 20; refine (R.out _).mono ?_; rintro e w' ⟨f, x, rfl, hclo, hB⟩; clear hclo)
  go_ret2
  refine ⟨rfl, ?_⟩
  repeat' (first | (with_reducible exact hB) | (with_reducible exact hB.size) | (with_reducible exact below_drewN ?_ _) | (with_reducible refine below_drewN ?_ _) | (with_reducible refine Below.drew ?_) | (with_reducible refine Below.alloc ?_ ?_ _) | omega)
set_option maxHeartbeats 2000000 in
theorem Bits_1 (op : Int) (k1 : 81 ≤ op) (k2 : op ≤ 90) (w : World) :
    Calls Tryd.prog 18 #[.int .i64 op] w fun e w' => e = .returned (.tuple #[.int .i64 64, .int .i64 32, .int .i64 2]) ∧ Below w.heap.size w w' := by
  have R := Lib.hid (rule1 op k1 k2)
  clear k1 k2
  have N1 := neq_func44
  have N2 := neq_nil44
  go_enter Tryd.func18, Tryd.ntmps18
  go_wp2_with (go_at_call 20; refine (R.out _).mono ?_; rintro e w' ⟨f, x, rfl, hclo, hB⟩; clear hclo)
  go_region
  go_wp2
  go_ret3
  refine ⟨rfl, ?_⟩
  repeat' (first | (with_reducible exact hB) | (with_reducible exact hB.size) | (with_reducible exact below_drewN ?_ _) | (with_reducible refine below_drewN ?_ _) | (with_reducible refine Below.drew ?_) | (with_reducible refine Below.alloc ?_ ?_ _) | omega)
set_option maxHeartbeats 2000000 in
theorem One_1 (op a : Int) (k1 : 81 ≤ op) (k2 : op ≤ 90) (w : World) :
    Calls Tryd.prog 15 #[.int .i64 op, .int .u64 a] w fun e w' => e = .returned (.tuple #[.int .u64 0, .int .i64 2]) ∧ Below w.heap.size w w' := by
  have R := Lib.hid (rule1 op k1 k2)
  clear k1 k2
  have N1 := neq_func44
  have N2 := neq_nil44
  go_enter Tryd.func15, Tryd.ntmps15
  go_wp2_with (go_at_call 20; refine (R.out _).mono ?_; rintro e w' ⟨f, x, rfl, hclo, hB⟩; clear hclo)
  go_ret2
  refine ⟨rfl, ?_⟩
  repeat' (first | (with_reducible exact hB) | (with_reducible exact hB.size) | (with_reducible exact below_drewN ?_ _) | (with_reducible refine below_drewN ?_ _) | (with_reducible refine Below.drew ?_) | (with_reducible refine Below.alloc ?_ ?_ _) | omega)
set_option maxHeartbeats 2000000 in
theorem Bits_2 (op : Int) (k1 : 106 ≤ op) (k2 : op ≤ 120) (w : World) :
    Calls Tryd.prog 18 #[.int .i64 op] w fun e w' => e = .returned (.tuple #[.int .i64 32, .int .i64 32, .int .i64 2]) ∧ Below w.heap.size w w' := by
  have R := Lib.hid (rule2 op k1 k2)
  clear k1 k2
  have N1 := neq_func44
  have N2 := neq_nil44
  go_enter Tryd.func18, Tryd.ntmps18
  go_wp2_with (go_at_call 20; refine (R.out _).mono ?_; rintro e w' ⟨f, x, y, rfl, hclo, hB⟩; clear hclo)
  go_region
  go_wp2
  go_ret3
  refine ⟨rfl, ?_⟩
  repeat' (first | (with_reducible exact hB) | (with_reducible exact hB.size) | (with_reducible exact below_drewN ?_ _) | (with_reducible refine below_drewN ?_ _) | (with_reducible refine Below.drew ?_) | (with_reducible refine Below.alloc ?_ ?_ _) | omega)
set_option maxHeartbeats 2000000 in
theorem One_2 (op a : Int) (k1 : 106 ≤ op) (k2 : op ≤ 120) (w : World) :
    Calls Tryd.prog 15 #[.int .i64 op, .int .u64 a] w fun e w' => e = .returned (.tuple #[.int .u64 0, .int .i64 2]) ∧ Below w.heap.size w w' := by
  have R := Lib.hid (rule2 op k1 k2)
  clear k1 k2
  have N1 := neq_func44
  have N2 := neq_nil44
  go_enter Tryd.func15, Tryd.ntmps15
  go_wp2_with (go_at_call 20; refine (R.out _).mono ?_; rintro e w' ⟨f, x, y, rfl, hclo, hB⟩; clear hclo)
  go_ret2
  refine ⟨rfl, ?_⟩
  repeat' (first | (with_reducible exact hB) | (with_reducible exact hB.size) | (with_reducible exact below_drewN ?_ _) | (with_reducible refine below_drewN ?_ _) | (with_reducible refine Below.drew ?_) | (with_reducible refine Below.alloc ?_ ?_ _) | omega)
set_option maxHeartbeats 2000000 in
theorem Bits_3 (op : Int) (k1 : 124 ≤ op) (k2 : op ≤ 138) (w : World) :
    Calls Tryd.prog 18 #[.int .i64 op] w fun e w' => e = .returned (.tuple #[.int .i64 64, .int .i64 64, .int .i64 2]) ∧ Below w.heap.size w w' := by
  have R := Lib.hid (rule3 op k1 k2)
  clear k1 k2
  have N1 := neq_func44
  have N2 := neq_nil44
  go_enter Tryd.func18, Tryd.ntmps18
  go_wp2_with (go_at_call 20; refine (R.out _).mono ?_; rintro e w' ⟨f, x, y, rfl, hclo, hB⟩; clear hclo)
  go_region
  go_wp2
  go_ret3
  refine ⟨rfl, ?_⟩
  repeat' (first | (with_reducible exact hB) | (with_reducible exact hB.size) | (with_reducible exact below_drewN ?_ _) | (with_reducible refine below_drewN ?_ _) | (with_reducible refine Below.drew ?_) | (with_reducible refine Below.alloc ?_ ?_ _) | omega)
set_option maxHeartbeats 2000000 in
theorem One_3 (op a : Int) (k1 : 124 ≤ op) (k2 : op ≤ 138) (w : World) :
    Calls Tryd.prog 15 #[.int .i64 op, .int .u64 a] w fun e w' => e = .returned (.tuple #[.int .u64 0, .int .i64 2]) ∧ Below w.heap.size w w' := by
  have R := Lib.hid (rule3 op k1 k2)
  clear k1 k2
  have N1 := neq_func44
  have N2 := neq_nil44
  go_enter Tryd.func15, Tryd.ntmps15
  go_wp2_with (go_at_call 20; refine (R.out _).mono ?_; rintro e w' ⟨f, x, y, rfl, hclo, hB⟩; clear hclo)
  go_ret2
  refine ⟨rfl, ?_⟩
  repeat' (first | (with_reducible exact hB) | (with_reducible exact hB.size) | (with_reducible exact below_drewN ?_ _) | (with_reducible refine below_drewN ?_ _) | (with_reducible refine Below.drew ?_) | (with_reducible refine Below.alloc ?_ ?_ _) | omega)
set_option maxHeartbeats 2000000 in
theorem Bits_69 (w : World) : Calls Tryd.prog 18 #[.int .i64 69] w fun e w' => e = .returned (.tuple #[.int .i64 32, .int .i64 32, .int .i64 1]) ∧ Below w.heap.size w w' := by
  have R := Lib.hid ruleOf69
  have N2 := neq_nil44
  go_enter Tryd.func18, Tryd.ntmps18
  go_wp2_with (go_at_call 20; refine (R.out _).mono ?_; rintro e w' ⟨rfl, hB⟩)
  go_region
  go_wp2
  go_ret3
  refine ⟨rfl, ?_⟩
  repeat' (first | (with_reducible exact hB) | (with_reducible exact hB.size) | (with_reducible exact below_drewN ?_ _) | (with_reducible refine below_drewN ?_ _) | (with_reducible refine Below.drew ?_) | (with_reducible refine Below.alloc ?_ ?_ _) | omega)
set_option maxHeartbeats 2000000 in
theorem Bits_103 (w : World) : Calls Tryd.prog 18 #[.int .i64 103] w fun e w' => e = .returned (.tuple #[.int .i64 32, .int .i64 32, .int .i64 1]) ∧ Below w.heap.size w w' := by
  have R := Lib.hid ruleOf103
  have N2 := neq_nil44
  go_enter Tryd.func18, Tryd.ntmps18
  go_wp2_with (go_at_call 20; refine (R.out _).mono ?_; rintro e w' ⟨rfl, hB⟩)
  go_region
  go_wp2
  go_ret3
  refine ⟨rfl, ?_⟩
  repeat' (first | (with_reducible exact hB) | (with_reducible exact hB.size) | (with_reducible exact below_drewN ?_ _) | (with_reducible refine below_drewN ?_ _) | (with_reducible refine Below.drew ?_) | (with_reducible refine Below.alloc ?_ ?_ _) | omega)
set_option maxHeartbeats 2000000 in
theorem Bits_104 (w : World) : Calls Tryd.prog 18 #[.int .i64 104] w fun e w' => e = .returned (.tuple #[.int .i64 32, .int .i64 32, .int .i64 1]) ∧ Below w.heap.size w w' := by
  have R := Lib.hid ruleOf104
  have N2 := neq_nil44
  go_enter Tryd.func18, Tryd.ntmps18
  go_wp2_with (go_at_call 20; refine (R.out _).mono ?_; rintro e w' ⟨rfl, hB⟩)
  go_region
  go_wp2
  go_ret3
  refine ⟨rfl, ?_⟩
  repeat' (first | (with_reducible exact hB) | (with_reducible exact hB.size) | (with_reducible exact below_drewN ?_ _) | (with_reducible refine below_drewN ?_ _) | (with_reducible refine Below.drew ?_) | (with_reducible refine Below.alloc ?_ ?_ _) | omega)
set_option maxHeartbeats 2000000 in
theorem Bits_105 (w : World) : Calls Tryd.prog 18 #[.int .i64 105] w fun e w' => e = .returned (.tuple #[.int .i64 32, .int .i64 32, .int .i64 1]) ∧ Below w.heap.size w w' := by
  have R := Lib.hid ruleOf105
  have N2 := neq_nil44
  go_enter Tryd.func18, Tryd.ntmps18
  go_wp2_with (go_at_call 20; refine (R.out _).mono ?_; rintro e w' ⟨rfl, hB⟩)
  go_region
  go_wp2
  go_ret3
  refine ⟨rfl, ?_⟩
  repeat' (first | (with_reducible exact hB) | (with_reducible exact hB.size) | (with_reducible exact below_drewN ?_ _) | (with_reducible refine below_drewN ?_ _) | (with_reducible refine Below.drew ?_) | (with_reducible refine Below.alloc ?_ ?_ _) | omega)
set_option maxHeartbeats 2000000 in
theorem Bits_192 (w : World) : Calls Tryd.prog 18 #[.int .i64 192] w fun e w' => e = .returned (.tuple #[.int .i64 32, .int .i64 32, .int .i64 1]) ∧ Below w.heap.size w w' := by
  have R := Lib.hid ruleOf192
  have N2 := neq_nil44
  go_enter Tryd.func18, Tryd.ntmps18
  go_wp2_with (go_at_call 20; refine (R.out _).mono ?_; rintro e w' ⟨rfl, hB⟩)
  go_region
  go_wp2
  go_ret3
  refine ⟨rfl, ?_⟩
  repeat' (first | (with_reducible exact hB) | (with_reducible exact hB.size) | (with_reducible exact below_drewN ?_ _) | (with_reducible refine below_drewN ?_ _) | (with_reducible refine Below.drew ?_) | (with_reducible refine Below.alloc ?_ ?_ _) | omega)
set_option maxHeartbeats 2000000 in
theorem Bits_193 (w : World) : Calls Tryd.prog 18 #[.int .i64 193] w fun e w' => e = .returned (.tuple #[.int .i64 32, .int .i64 32, .int .i64 1]) ∧ Below w.heap.size w w' := by
  have R := Lib.hid ruleOf193
  have N2 := neq_nil44
  go_enter Tryd.func18, Tryd.ntmps18
  go_wp2_with (go_at_call 20; refine (R.out _).mono ?_; rintro e w' ⟨rfl, hB⟩)
  go_region
  go_wp2
  go_ret3
  refine ⟨rfl, ?_⟩
  repeat' (first | (with_reducible exact hB) | (with_reducible exact hB.size) | (with_reducible exact below_drewN ?_ _) | (with_reducible refine below_drewN ?_ _) | (with_reducible refine Below.drew ?_) | (with_reducible refine Below.alloc ?_ ?_ _) | omega)
set_option maxHeartbeats 2000000 in
theorem Bits_172 (w : World) : Calls Tryd.prog 18 #[.int .i64 172] w fun e w' => e = .returned (.tuple #[.int .i64 32, .int .i64 64, .int .i64 1]) ∧ Below w.heap.size w w' := by
  have R := Lib.hid ruleOf172
  have N2 := neq_nil44
  go_enter Tryd.func18, Tryd.ntmps18
  go_wp2_with (go_at_call 20; refine (R.out _).mono ?_; rintro e w' ⟨rfl, hB⟩)
  go_region
  go_wp2
  go_ret3
  refine ⟨rfl, ?_⟩
  repeat' (first | (with_reducible exact hB) | (with_reducible exact hB.size) | (with_reducible exact below_drewN ?_ _) | (with_reducible refine below_drewN ?_ _) | (with_reducible refine Below.drew ?_) | (with_reducible refine Below.alloc ?_ ?_ _) | omega)
set_option maxHeartbeats 2000000 in
theorem Bits_173 (w : World) : Calls Tryd.prog 18 #[.int .i64 173] w fun e w' => e = .returned (.tuple #[.int .i64 32, .int .i64 64, .int .i64 1]) ∧ Below w.heap.size w w' := by
  have R := Lib.hid ruleOf173
  have N2 := neq_nil44
  go_enter Tryd.func18, Tryd.ntmps18
  go_wp2_with (go_at_call 20; refine (R.out _).mono ?_; rintro e w' ⟨rfl, hB⟩)
  go_region
  go_wp2
  go_ret3
  refine ⟨rfl, ?_⟩
  repeat' (first | (with_reducible exact hB) | (with_reducible exact hB.size) | (with_reducible exact below_drewN ?_ _) | (with_reducible refine below_drewN ?_ _) | (with_reducible refine Below.drew ?_) | (with_reducible refine Below.alloc ?_ ?_ _) | omega)
set_option maxHeartbeats 2000000 in
theorem Bits_80 (w : World) : Calls Tryd.prog 18 #[.int .i64 80] w fun e w' => e = .returned (.tuple #[.int .i64 64, .int .i64 32, .int .i64 1]) ∧ Below w.heap.size w w' := by
  have R := Lib.hid ruleOf80
  have N2 := neq_nil44
  go_enter Tryd.func18, Tryd.ntmps18
  go_wp2_with (go_at_call 20; refine (R.out _).mono ?_; rintro e w' ⟨rfl, hB⟩)
  go_region
  go_wp2
  go_ret3
  refine ⟨rfl, ?_⟩
  repeat' (first | (with_reducible exact hB) | (with_reducible exact hB.size) | (with_reducible exact below_drewN ?_ _) | (with_reducible refine below_drewN ?_ _) | (with_reducible refine Below.drew ?_) | (with_reducible refine Below.alloc ?_ ?_ _) | omega)
set_option maxHeartbeats 2000000 in
theorem Bits_121 (w : World) : Calls Tryd.prog 18 #[.int .i64 121] w fun e w' => e = .returned (.tuple #[.int .i64 64, .int .i64 64, .int .i64 1]) ∧ Below w.heap.size w w' := by
  have R := Lib.hid ruleOf121
  have N2 := neq_nil44
  go_enter Tryd.func18, Tryd.ntmps18
  go_wp2_with (go_at_call 20; refine (R.out _).mono ?_; rintro e w' ⟨rfl, hB⟩)
  go_region
  go_wp2
  go_ret3
  refine ⟨rfl, ?_⟩
  repeat' (first | (with_reducible exact hB) | (with_reducible exact hB.size) | (with_reducible exact below_drewN ?_ _) | (with_reducible refine below_drewN ?_ _) | (with_reducible refine Below.drew ?_) | (with_reducible refine Below.alloc ?_ ?_ _) | omega)
set_option maxHeartbeats 2000000 in
theorem Bits_122 (w : World) : Calls Tryd.prog 18 #[.int .i64 122] w fun e w' => e = .returned (.tuple #[.int .i64 64, .int .i64 64, .int .i64 1]) ∧ Below w.heap.size w w' := by
  have R := Lib.hid ruleOf122
  have N2 := neq_nil44
  go_enter Tryd.func18, Tryd.ntmps18
  go_wp2_with (go_at_call 20; refine (R.out _).mono ?_; rintro e w' ⟨rfl, hB⟩)
  go_region
  go_wp2
  go_ret3
  refine ⟨rfl, ?_⟩
  repeat' (first | (with_reducible exact hB) | (with_reducible exact hB.size) | (with_reducible exact below_drewN ?_ _) | (with_reducible refine below_drewN ?_ _) | (with_reducible refine Below.drew ?_) | (with_reducible refine Below.alloc ?_ ?_ _) | omega)
set_option maxHeartbeats 2000000 in
theorem Bits_123 (w : World) : Calls Tryd.prog 18 #[.int .i64 123] w fun e w' => e = .returned (.tuple #[.int .i64 64, .int .i64 64, .int .i64 1]) ∧ Below w.heap.size w w' := by
  have R := Lib.hid ruleOf123
  have N2 := neq_nil44
  go_enter Tryd.func18, Tryd.ntmps18
  go_wp2_with (go_at_call 20; refine (R.out _).mono ?_; rintro e w' ⟨rfl, hB⟩)
  go_region
  go_wp2
  go_ret3
  refine ⟨rfl, ?_⟩
  repeat' (first | (with_reducible exact hB) | (with_reducible exact hB.size) | (with_reducible exact below_drewN ?_ _) | (with_reducible refine below_drewN ?_ _) | (with_reducible refine Below.drew ?_) | (with_reducible refine Below.alloc ?_ ?_ _) | omega)
set_option maxHeartbeats 2000000 in
theorem Bits_194 (w : World) : Calls Tryd.prog 18 #[.int .i64 194] w fun e w' => e = .returned (.tuple #[.int .i64 64, .int .i64 64, .int .i64 1]) ∧ Below w.heap.size w w' := by
  have R := Lib.hid ruleOf194
  have N2 := neq_nil44
  go_enter Tryd.func18, Tryd.ntmps18
  go_wp2_with (go_at_call 20; refine (R.out _).mono ?_; rintro e w' ⟨rfl, hB⟩)
  go_region
  go_wp2
  go_ret3
  refine ⟨rfl, ?_⟩
  repeat' (first | (with_reducible exact hB) | (with_reducible exact hB.size) | (with_reducible exact below_drewN ?_ _) | (with_reducible refine below_drewN ?_ _) | (with_reducible refine Below.drew ?_) | (with_reducible refine Below.alloc ?_ ?_ _) | omega)
set_option maxHeartbeats 2000000 in
theorem Bits_195 (w : World) : Calls Tryd.prog 18 #[.int .i64 195] w fun e w' => e = .returned (.tuple #[.int .i64 64, .int .i64 64, .int .i64 1]) ∧ Below w.heap.size w w' := by
  have R := Lib.hid ruleOf195
  have N2 := neq_nil44
  go_enter Tryd.func18, Tryd.ntmps18
  go_wp2_with (go_at_call 20; refine (R.out _).mono ?_; rintro e w' ⟨rfl, hB⟩)
  go_region
  go_wp2
  go_ret3
  refine ⟨rfl, ?_⟩
  repeat' (first | (with_reducible exact hB) | (with_reducible exact hB.size) | (with_reducible exact below_drewN ?_ _) | (with_reducible refine below_drewN ?_ _) | (with_reducible refine Below.drew ?_) | (with_reducible refine Below.alloc ?_ ?_ _) | omega)
set_option maxHeartbeats 2000000 in
theorem Bits_196 (w : World) : Calls Tryd.prog 18 #[.int .i64 196] w fun e w' => e = .returned (.tuple #[.int .i64 64, .int .i64 64, .int .i64 1]) ∧ Below w.heap.size w w' := by
  have R := Lib.hid ruleOf196
  have N2 := neq_nil44
  go_enter Tryd.func18, Tryd.ntmps18
  go_wp2_with (go_at_call 20; refine (R.out _).mono ?_; rintro e w' ⟨rfl, hB⟩)
  go_region
  go_wp2
  go_ret3
  refine ⟨rfl, ?_⟩
  repeat' (first | (with_reducible exact hB) | (with_reducible exact hB.size) | (with_reducible exact below_drewN ?_ _) | (with_reducible refine below_drewN ?_ _) | (with_reducible refine Below.drew ?_) | (with_reducible refine Below.alloc ?_ ?_ _) | omega)
set_option maxHeartbeats 2000000 in
theorem Bits_167 (w : World) : Calls Tryd.prog 18 #[.int .i64 167] w fun e w' => e = .returned (.tuple #[.int .i64 64, .int .i64 32, .int .i64 1]) ∧ Below w.heap.size w w' := by
  have R := Lib.hid ruleOf167
  have N2 := neq_nil44
  go_enter Tryd.func18, Tryd.ntmps18
  go_wp2_with (go_at_call 20; refine (R.out _).mono ?_; rintro e w' ⟨rfl, hB⟩)
  go_region
  go_wp2
  go_ret3
  refine ⟨rfl, ?_⟩
  repeat' (first | (with_reducible exact hB) | (with_reducible exact hB.size) | (with_reducible exact below_drewN ?_ _) | (with_reducible refine below_drewN ?_ _) | (with_reducible refine Below.drew ?_) | (with_reducible refine Below.alloc ?_ ?_ _) | omega)
end Go.Proofs.YtfcagbgnlibfpaaDoor.A
