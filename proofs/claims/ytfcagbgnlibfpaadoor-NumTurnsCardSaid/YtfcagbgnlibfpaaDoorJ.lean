/- num: contracts of the law's helper 'two' at each operation that the laws use. -/
import Derived.Test.YtfcagbgnlibfpaaDoorI
import Derived.Test.YtfcagbgnlibfpaaDoorV
namespace Go.Proofs.YtfcagbgnlibfpaaDoor.A
open Go.ChangeShapes Go.WideShapes Go.ChangeAt Go.RowKit Go.Proofs.YtfcagbgnlibfpaaDoor.S
set_option linter.unusedVariables false
set_option linter.unusedSimpArgs false

theorem tw32 (op a b : Int) (k0 : 0 ≤ op) (k1 : op ≤ 1000) (h0 : 0 ≤ a) (h1 : a < 18446744073709551616) (g0 : 0 ≤ b) (g1 : b < 18446744073709551616) (w : World) :
    Calls Tryd.prog 13 #[.int .i64 32, .int .i64 op, .int .u64 a, .int .u64 b] w fun e w' => e = .returned (.int .u64 (twoV op a b)) ∧ Below w.heap.size w w' := by
  have R := Lib.hid (Two op a b h0 h1 g0 g1)
  go_enter Tryd.func13, Tryd.ntmps13
  go_wp2_with (go_at_call 10; (with_reducible refine (R.out _).mono ?_); rintro e w' ⟨rfl, hb⟩)
  go_ret
  exact ⟨rfl, hb⟩
theorem tw64a (op a b : Int) (k0 : 0 ≤ op) (k1 : op ≤ 79) (h0 : 0 ≤ a) (h1 : a < 18446744073709551616) (g0 : 0 ≤ b) (g1 : b < 18446744073709551616) (w : World) :
    Calls Tryd.prog 13 #[.int .i64 64, .int .i64 op, .int .u64 a, .int .u64 b] w fun e w' => e = .returned (.int .u64 (twoV (op + 11) a b)) ∧ Below w.heap.size w w' := by
  have R := Lib.hid (Two (op + 11) a b h0 h1 g0 g1)
  go_enter Tryd.func13, Tryd.ntmps13
  go_wp2_with (go_at_call 10; (with_reducible refine (R.out _).mono ?_); rintro e w' ⟨rfl, hb⟩)
  go_ret
  exact ⟨rfl, hb⟩
theorem tw64b (op a b : Int) (k0 : 79 < op) (k1 : op ≤ 1000) (h0 : 0 ≤ a) (h1 : a < 18446744073709551616) (g0 : 0 ≤ b) (g1 : b < 18446744073709551616) (w : World) :
    Calls Tryd.prog 13 #[.int .i64 64, .int .i64 op, .int .u64 a, .int .u64 b] w fun e w' => e = .returned (.int .u64 (twoV (op + 18) a b)) ∧ Below w.heap.size w w' := by
  have R := Lib.hid (Two (op + 18) a b h0 h1 g0 g1)
  go_enter Tryd.func13, Tryd.ntmps13
  go_wp2_with (go_at_call 10; (with_reducible refine (R.out _).mono ?_); rintro e w' ⟨rfl, hb⟩)
  go_ret
  exact ⟨rfl, hb⟩
theorem tq32_70 (a b : Int) (h0 : 0 ≤ a) (h1 : a < 4294967296) (g0 : 0 ≤ b) (g1 : b < 4294967296) (w : World) : Calls Tryd.prog 13 #[.int .i64 32, .int .i64 70, .int .u64 a, .int .u64 b] w fun e w' => e = .returned (.int .u64 (askI 32 0 a b)) ∧ Below w.heap.size w w' := by
  have e : twoV 70 a b = askI 32 0 a b := by unfold twoV; rw [if_pos (by omega), if_pos ⟨h1, g1⟩]; rfl
  have := tw32 70 a b (by decide) (by decide) (by omega) (by omega) (by omega) (by omega) w
  rw [e] at this; exact this
theorem tq32_71 (a b : Int) (h0 : 0 ≤ a) (h1 : a < 4294967296) (g0 : 0 ≤ b) (g1 : b < 4294967296) (w : World) : Calls Tryd.prog 13 #[.int .i64 32, .int .i64 71, .int .u64 a, .int .u64 b] w fun e w' => e = .returned (.int .u64 (askI 32 1 a b)) ∧ Below w.heap.size w w' := by
  have e : twoV 71 a b = askI 32 1 a b := by unfold twoV; rw [if_pos (by omega), if_pos ⟨h1, g1⟩]; rfl
  have := tw32 71 a b (by decide) (by decide) (by omega) (by omega) (by omega) (by omega) w
  rw [e] at this; exact this
theorem tq32_72 (a b : Int) (h0 : 0 ≤ a) (h1 : a < 4294967296) (g0 : 0 ≤ b) (g1 : b < 4294967296) (w : World) : Calls Tryd.prog 13 #[.int .i64 32, .int .i64 72, .int .u64 a, .int .u64 b] w fun e w' => e = .returned (.int .u64 (askI 32 2 a b)) ∧ Below w.heap.size w w' := by
  have e : twoV 72 a b = askI 32 2 a b := by unfold twoV; rw [if_pos (by omega), if_pos ⟨h1, g1⟩]; rfl
  have := tw32 72 a b (by decide) (by decide) (by omega) (by omega) (by omega) (by omega) w
  rw [e] at this; exact this
theorem tq32_73 (a b : Int) (h0 : 0 ≤ a) (h1 : a < 4294967296) (g0 : 0 ≤ b) (g1 : b < 4294967296) (w : World) : Calls Tryd.prog 13 #[.int .i64 32, .int .i64 73, .int .u64 a, .int .u64 b] w fun e w' => e = .returned (.int .u64 (askI 32 3 a b)) ∧ Below w.heap.size w w' := by
  have e : twoV 73 a b = askI 32 3 a b := by unfold twoV; rw [if_pos (by omega), if_pos ⟨h1, g1⟩]; rfl
  have := tw32 73 a b (by decide) (by decide) (by omega) (by omega) (by omega) (by omega) w
  rw [e] at this; exact this
theorem tq32_74 (a b : Int) (h0 : 0 ≤ a) (h1 : a < 4294967296) (g0 : 0 ≤ b) (g1 : b < 4294967296) (w : World) : Calls Tryd.prog 13 #[.int .i64 32, .int .i64 74, .int .u64 a, .int .u64 b] w fun e w' => e = .returned (.int .u64 (askI 32 4 a b)) ∧ Below w.heap.size w w' := by
  have e : twoV 74 a b = askI 32 4 a b := by unfold twoV; rw [if_pos (by omega), if_pos ⟨h1, g1⟩]; rfl
  have := tw32 74 a b (by decide) (by decide) (by omega) (by omega) (by omega) (by omega) w
  rw [e] at this; exact this
theorem tq32_75 (a b : Int) (h0 : 0 ≤ a) (h1 : a < 4294967296) (g0 : 0 ≤ b) (g1 : b < 4294967296) (w : World) : Calls Tryd.prog 13 #[.int .i64 32, .int .i64 75, .int .u64 a, .int .u64 b] w fun e w' => e = .returned (.int .u64 (askI 32 5 a b)) ∧ Below w.heap.size w w' := by
  have e : twoV 75 a b = askI 32 5 a b := by unfold twoV; rw [if_pos (by omega), if_pos ⟨h1, g1⟩]; rfl
  have := tw32 75 a b (by decide) (by decide) (by omega) (by omega) (by omega) (by omega) w
  rw [e] at this; exact this
theorem tq32_76 (a b : Int) (h0 : 0 ≤ a) (h1 : a < 4294967296) (g0 : 0 ≤ b) (g1 : b < 4294967296) (w : World) : Calls Tryd.prog 13 #[.int .i64 32, .int .i64 76, .int .u64 a, .int .u64 b] w fun e w' => e = .returned (.int .u64 (askI 32 6 a b)) ∧ Below w.heap.size w w' := by
  have e : twoV 76 a b = askI 32 6 a b := by unfold twoV; rw [if_pos (by omega), if_pos ⟨h1, g1⟩]; rfl
  have := tw32 76 a b (by decide) (by decide) (by omega) (by omega) (by omega) (by omega) w
  rw [e] at this; exact this
theorem tq32_77 (a b : Int) (h0 : 0 ≤ a) (h1 : a < 4294967296) (g0 : 0 ≤ b) (g1 : b < 4294967296) (w : World) : Calls Tryd.prog 13 #[.int .i64 32, .int .i64 77, .int .u64 a, .int .u64 b] w fun e w' => e = .returned (.int .u64 (askI 32 7 a b)) ∧ Below w.heap.size w w' := by
  have e : twoV 77 a b = askI 32 7 a b := by unfold twoV; rw [if_pos (by omega), if_pos ⟨h1, g1⟩]; rfl
  have := tw32 77 a b (by decide) (by decide) (by omega) (by omega) (by omega) (by omega) w
  rw [e] at this; exact this
theorem tq32_78 (a b : Int) (h0 : 0 ≤ a) (h1 : a < 4294967296) (g0 : 0 ≤ b) (g1 : b < 4294967296) (w : World) : Calls Tryd.prog 13 #[.int .i64 32, .int .i64 78, .int .u64 a, .int .u64 b] w fun e w' => e = .returned (.int .u64 (askI 32 8 a b)) ∧ Below w.heap.size w w' := by
  have e : twoV 78 a b = askI 32 8 a b := by unfold twoV; rw [if_pos (by omega), if_pos ⟨h1, g1⟩]; rfl
  have := tw32 78 a b (by decide) (by decide) (by omega) (by omega) (by omega) (by omega) w
  rw [e] at this; exact this
theorem tq32_79 (a b : Int) (h0 : 0 ≤ a) (h1 : a < 4294967296) (g0 : 0 ≤ b) (g1 : b < 4294967296) (w : World) : Calls Tryd.prog 13 #[.int .i64 32, .int .i64 79, .int .u64 a, .int .u64 b] w fun e w' => e = .returned (.int .u64 (askI 32 9 a b)) ∧ Below w.heap.size w w' := by
  have e : twoV 79 a b = askI 32 9 a b := by unfold twoV; rw [if_pos (by omega), if_pos ⟨h1, g1⟩]; rfl
  have := tw32 79 a b (by decide) (by decide) (by omega) (by omega) (by omega) (by omega) w
  rw [e] at this; exact this
theorem tq32_106 (a b : Int) (h0 : 0 ≤ a) (h1 : a < 4294967296) (g0 : 0 ≤ b) (g1 : b < 4294967296) (w : World) : Calls Tryd.prog 13 #[.int .i64 32, .int .i64 106, .int .u64 a, .int .u64 b] w fun e w' => e = .returned (.int .u64 (sumI 32 0 a b)) ∧ Below w.heap.size w w' := by
  have e : twoV 106 a b = sumI 32 0 a b := by unfold twoV; rw [if_neg (by omega), if_neg (by omega), if_pos (by omega), if_pos ⟨h1, g1⟩]; rfl
  have := tw32 106 a b (by decide) (by decide) (by omega) (by omega) (by omega) (by omega) w
  rw [e] at this; exact this
theorem tq32_107 (a b : Int) (h0 : 0 ≤ a) (h1 : a < 4294967296) (g0 : 0 ≤ b) (g1 : b < 4294967296) (w : World) : Calls Tryd.prog 13 #[.int .i64 32, .int .i64 107, .int .u64 a, .int .u64 b] w fun e w' => e = .returned (.int .u64 (sumI 32 1 a b)) ∧ Below w.heap.size w w' := by
  have e : twoV 107 a b = sumI 32 1 a b := by unfold twoV; rw [if_neg (by omega), if_neg (by omega), if_pos (by omega), if_pos ⟨h1, g1⟩]; rfl
  have := tw32 107 a b (by decide) (by decide) (by omega) (by omega) (by omega) (by omega) w
  rw [e] at this; exact this
theorem tq32_108 (a b : Int) (h0 : 0 ≤ a) (h1 : a < 4294967296) (g0 : 0 ≤ b) (g1 : b < 4294967296) (w : World) : Calls Tryd.prog 13 #[.int .i64 32, .int .i64 108, .int .u64 a, .int .u64 b] w fun e w' => e = .returned (.int .u64 (sumI 32 2 a b)) ∧ Below w.heap.size w w' := by
  have e : twoV 108 a b = sumI 32 2 a b := by unfold twoV; rw [if_neg (by omega), if_neg (by omega), if_pos (by omega), if_pos ⟨h1, g1⟩]; rfl
  have := tw32 108 a b (by decide) (by decide) (by omega) (by omega) (by omega) (by omega) w
  rw [e] at this; exact this
theorem tq32_109 (a b : Int) (h0 : 0 ≤ a) (h1 : a < 4294967296) (g0 : 0 ≤ b) (g1 : b < 4294967296) (w : World) : Calls Tryd.prog 13 #[.int .i64 32, .int .i64 109, .int .u64 a, .int .u64 b] w fun e w' => e = .returned (.int .u64 (sumI 32 3 a b)) ∧ Below w.heap.size w w' := by
  have e : twoV 109 a b = sumI 32 3 a b := by unfold twoV; rw [if_neg (by omega), if_neg (by omega), if_pos (by omega), if_pos ⟨h1, g1⟩]; rfl
  have := tw32 109 a b (by decide) (by decide) (by omega) (by omega) (by omega) (by omega) w
  rw [e] at this; exact this
theorem tq32_110 (a b : Int) (h0 : 0 ≤ a) (h1 : a < 4294967296) (g0 : 0 ≤ b) (g1 : b < 4294967296) (w : World) : Calls Tryd.prog 13 #[.int .i64 32, .int .i64 110, .int .u64 a, .int .u64 b] w fun e w' => e = .returned (.int .u64 (sumI 32 4 a b)) ∧ Below w.heap.size w w' := by
  have e : twoV 110 a b = sumI 32 4 a b := by unfold twoV; rw [if_neg (by omega), if_neg (by omega), if_pos (by omega), if_pos ⟨h1, g1⟩]; rfl
  have := tw32 110 a b (by decide) (by decide) (by omega) (by omega) (by omega) (by omega) w
  rw [e] at this; exact this
theorem tq32_111 (a b : Int) (h0 : 0 ≤ a) (h1 : a < 4294967296) (g0 : 0 ≤ b) (g1 : b < 4294967296) (w : World) : Calls Tryd.prog 13 #[.int .i64 32, .int .i64 111, .int .u64 a, .int .u64 b] w fun e w' => e = .returned (.int .u64 (sumI 32 5 a b)) ∧ Below w.heap.size w w' := by
  have e : twoV 111 a b = sumI 32 5 a b := by unfold twoV; rw [if_neg (by omega), if_neg (by omega), if_pos (by omega), if_pos ⟨h1, g1⟩]; rfl
  have := tw32 111 a b (by decide) (by decide) (by omega) (by omega) (by omega) (by omega) w
  rw [e] at this; exact this
theorem tq32_112 (a b : Int) (h0 : 0 ≤ a) (h1 : a < 4294967296) (g0 : 0 ≤ b) (g1 : b < 4294967296) (w : World) : Calls Tryd.prog 13 #[.int .i64 32, .int .i64 112, .int .u64 a, .int .u64 b] w fun e w' => e = .returned (.int .u64 (sumI 32 6 a b)) ∧ Below w.heap.size w w' := by
  have e : twoV 112 a b = sumI 32 6 a b := by unfold twoV; rw [if_neg (by omega), if_neg (by omega), if_pos (by omega), if_pos ⟨h1, g1⟩]; rfl
  have := tw32 112 a b (by decide) (by decide) (by omega) (by omega) (by omega) (by omega) w
  rw [e] at this; exact this
theorem tq32_113 (a b : Int) (h0 : 0 ≤ a) (h1 : a < 4294967296) (g0 : 0 ≤ b) (g1 : b < 4294967296) (w : World) : Calls Tryd.prog 13 #[.int .i64 32, .int .i64 113, .int .u64 a, .int .u64 b] w fun e w' => e = .returned (.int .u64 (sumI 32 7 a b)) ∧ Below w.heap.size w w' := by
  have e : twoV 113 a b = sumI 32 7 a b := by unfold twoV; rw [if_neg (by omega), if_neg (by omega), if_pos (by omega), if_pos ⟨h1, g1⟩]; rfl
  have := tw32 113 a b (by decide) (by decide) (by omega) (by omega) (by omega) (by omega) w
  rw [e] at this; exact this
theorem tq32_114 (a b : Int) (h0 : 0 ≤ a) (h1 : a < 4294967296) (g0 : 0 ≤ b) (g1 : b < 4294967296) (w : World) : Calls Tryd.prog 13 #[.int .i64 32, .int .i64 114, .int .u64 a, .int .u64 b] w fun e w' => e = .returned (.int .u64 (sumI 32 8 a b)) ∧ Below w.heap.size w w' := by
  have e : twoV 114 a b = sumI 32 8 a b := by unfold twoV; rw [if_neg (by omega), if_neg (by omega), if_pos (by omega), if_pos ⟨h1, g1⟩]; rfl
  have := tw32 114 a b (by decide) (by decide) (by omega) (by omega) (by omega) (by omega) w
  rw [e] at this; exact this
theorem tq32_115 (a b : Int) (h0 : 0 ≤ a) (h1 : a < 4294967296) (g0 : 0 ≤ b) (g1 : b < 4294967296) (w : World) : Calls Tryd.prog 13 #[.int .i64 32, .int .i64 115, .int .u64 a, .int .u64 b] w fun e w' => e = .returned (.int .u64 (sumI 32 9 a b)) ∧ Below w.heap.size w w' := by
  have e : twoV 115 a b = sumI 32 9 a b := by unfold twoV; rw [if_neg (by omega), if_neg (by omega), if_pos (by omega), if_pos ⟨h1, g1⟩]; rfl
  have := tw32 115 a b (by decide) (by decide) (by omega) (by omega) (by omega) (by omega) w
  rw [e] at this; exact this
theorem tq32_116 (a b : Int) (h0 : 0 ≤ a) (h1 : a < 4294967296) (g0 : 0 ≤ b) (g1 : b < 4294967296) (w : World) : Calls Tryd.prog 13 #[.int .i64 32, .int .i64 116, .int .u64 a, .int .u64 b] w fun e w' => e = .returned (.int .u64 (sumI 32 10 a b)) ∧ Below w.heap.size w w' := by
  have e : twoV 116 a b = sumI 32 10 a b := by unfold twoV; rw [if_neg (by omega), if_neg (by omega), if_pos (by omega), if_pos ⟨h1, g1⟩]; rfl
  have := tw32 116 a b (by decide) (by decide) (by omega) (by omega) (by omega) (by omega) w
  rw [e] at this; exact this
theorem tq32_117 (a b : Int) (h0 : 0 ≤ a) (h1 : a < 4294967296) (g0 : 0 ≤ b) (g1 : b < 4294967296) (w : World) : Calls Tryd.prog 13 #[.int .i64 32, .int .i64 117, .int .u64 a, .int .u64 b] w fun e w' => e = .returned (.int .u64 (sumI 32 11 a b)) ∧ Below w.heap.size w w' := by
  have e : twoV 117 a b = sumI 32 11 a b := by unfold twoV; rw [if_neg (by omega), if_neg (by omega), if_pos (by omega), if_pos ⟨h1, g1⟩]; rfl
  have := tw32 117 a b (by decide) (by decide) (by omega) (by omega) (by omega) (by omega) w
  rw [e] at this; exact this
theorem tq32_118 (a b : Int) (h0 : 0 ≤ a) (h1 : a < 4294967296) (g0 : 0 ≤ b) (g1 : b < 4294967296) (w : World) : Calls Tryd.prog 13 #[.int .i64 32, .int .i64 118, .int .u64 a, .int .u64 b] w fun e w' => e = .returned (.int .u64 (sumI 32 12 a b)) ∧ Below w.heap.size w w' := by
  have e : twoV 118 a b = sumI 32 12 a b := by unfold twoV; rw [if_neg (by omega), if_neg (by omega), if_pos (by omega), if_pos ⟨h1, g1⟩]; rfl
  have := tw32 118 a b (by decide) (by decide) (by omega) (by omega) (by omega) (by omega) w
  rw [e] at this; exact this
theorem tq32_119 (a b : Int) (h0 : 0 ≤ a) (h1 : a < 4294967296) (g0 : 0 ≤ b) (g1 : b < 4294967296) (w : World) : Calls Tryd.prog 13 #[.int .i64 32, .int .i64 119, .int .u64 a, .int .u64 b] w fun e w' => e = .returned (.int .u64 (sumI 32 13 a b)) ∧ Below w.heap.size w w' := by
  have e : twoV 119 a b = sumI 32 13 a b := by unfold twoV; rw [if_neg (by omega), if_neg (by omega), if_pos (by omega), if_pos ⟨h1, g1⟩]; rfl
  have := tw32 119 a b (by decide) (by decide) (by omega) (by omega) (by omega) (by omega) w
  rw [e] at this; exact this
theorem tq32_120 (a b : Int) (h0 : 0 ≤ a) (h1 : a < 4294967296) (g0 : 0 ≤ b) (g1 : b < 4294967296) (w : World) : Calls Tryd.prog 13 #[.int .i64 32, .int .i64 120, .int .u64 a, .int .u64 b] w fun e w' => e = .returned (.int .u64 (sumI 32 14 a b)) ∧ Below w.heap.size w w' := by
  have e : twoV 120 a b = sumI 32 14 a b := by unfold twoV; rw [if_neg (by omega), if_neg (by omega), if_pos (by omega), if_pos ⟨h1, g1⟩]; rfl
  have := tw32 120 a b (by decide) (by decide) (by omega) (by omega) (by omega) (by omega) w
  rw [e] at this; exact this
theorem tq64_70 (a b : Int) (h0 : 0 ≤ a) (h1 : a < 18446744073709551616) (g0 : 0 ≤ b) (g1 : b < 18446744073709551616) (w : World) : Calls Tryd.prog 13 #[.int .i64 64, .int .i64 70, .int .u64 a, .int .u64 b] w fun e w' => e = .returned (.int .u64 (askI 64 0 a b)) ∧ Below w.heap.size w w' := by
  have e : twoV 81 a b = askI 64 0 a b := by unfold twoV; rw [if_neg (by omega), if_pos (by omega)]; rfl
  have := tw64a 70 a b (by decide) (by decide) (by omega) (by omega) (by omega) (by omega) w
  rw [show (70 : Int) + 11 = 81 from rfl] at this; rw [e] at this; exact this
theorem tq64_71 (a b : Int) (h0 : 0 ≤ a) (h1 : a < 18446744073709551616) (g0 : 0 ≤ b) (g1 : b < 18446744073709551616) (w : World) : Calls Tryd.prog 13 #[.int .i64 64, .int .i64 71, .int .u64 a, .int .u64 b] w fun e w' => e = .returned (.int .u64 (askI 64 1 a b)) ∧ Below w.heap.size w w' := by
  have e : twoV 82 a b = askI 64 1 a b := by unfold twoV; rw [if_neg (by omega), if_pos (by omega)]; rfl
  have := tw64a 71 a b (by decide) (by decide) (by omega) (by omega) (by omega) (by omega) w
  rw [show (71 : Int) + 11 = 82 from rfl] at this; rw [e] at this; exact this
theorem tq64_72 (a b : Int) (h0 : 0 ≤ a) (h1 : a < 18446744073709551616) (g0 : 0 ≤ b) (g1 : b < 18446744073709551616) (w : World) : Calls Tryd.prog 13 #[.int .i64 64, .int .i64 72, .int .u64 a, .int .u64 b] w fun e w' => e = .returned (.int .u64 (askI 64 2 a b)) ∧ Below w.heap.size w w' := by
  have e : twoV 83 a b = askI 64 2 a b := by unfold twoV; rw [if_neg (by omega), if_pos (by omega)]; rfl
  have := tw64a 72 a b (by decide) (by decide) (by omega) (by omega) (by omega) (by omega) w
  rw [show (72 : Int) + 11 = 83 from rfl] at this; rw [e] at this; exact this
theorem tq64_73 (a b : Int) (h0 : 0 ≤ a) (h1 : a < 18446744073709551616) (g0 : 0 ≤ b) (g1 : b < 18446744073709551616) (w : World) : Calls Tryd.prog 13 #[.int .i64 64, .int .i64 73, .int .u64 a, .int .u64 b] w fun e w' => e = .returned (.int .u64 (askI 64 3 a b)) ∧ Below w.heap.size w w' := by
  have e : twoV 84 a b = askI 64 3 a b := by unfold twoV; rw [if_neg (by omega), if_pos (by omega)]; rfl
  have := tw64a 73 a b (by decide) (by decide) (by omega) (by omega) (by omega) (by omega) w
  rw [show (73 : Int) + 11 = 84 from rfl] at this; rw [e] at this; exact this
theorem tq64_74 (a b : Int) (h0 : 0 ≤ a) (h1 : a < 18446744073709551616) (g0 : 0 ≤ b) (g1 : b < 18446744073709551616) (w : World) : Calls Tryd.prog 13 #[.int .i64 64, .int .i64 74, .int .u64 a, .int .u64 b] w fun e w' => e = .returned (.int .u64 (askI 64 4 a b)) ∧ Below w.heap.size w w' := by
  have e : twoV 85 a b = askI 64 4 a b := by unfold twoV; rw [if_neg (by omega), if_pos (by omega)]; rfl
  have := tw64a 74 a b (by decide) (by decide) (by omega) (by omega) (by omega) (by omega) w
  rw [show (74 : Int) + 11 = 85 from rfl] at this; rw [e] at this; exact this
theorem tq64_75 (a b : Int) (h0 : 0 ≤ a) (h1 : a < 18446744073709551616) (g0 : 0 ≤ b) (g1 : b < 18446744073709551616) (w : World) : Calls Tryd.prog 13 #[.int .i64 64, .int .i64 75, .int .u64 a, .int .u64 b] w fun e w' => e = .returned (.int .u64 (askI 64 5 a b)) ∧ Below w.heap.size w w' := by
  have e : twoV 86 a b = askI 64 5 a b := by unfold twoV; rw [if_neg (by omega), if_pos (by omega)]; rfl
  have := tw64a 75 a b (by decide) (by decide) (by omega) (by omega) (by omega) (by omega) w
  rw [show (75 : Int) + 11 = 86 from rfl] at this; rw [e] at this; exact this
theorem tq64_76 (a b : Int) (h0 : 0 ≤ a) (h1 : a < 18446744073709551616) (g0 : 0 ≤ b) (g1 : b < 18446744073709551616) (w : World) : Calls Tryd.prog 13 #[.int .i64 64, .int .i64 76, .int .u64 a, .int .u64 b] w fun e w' => e = .returned (.int .u64 (askI 64 6 a b)) ∧ Below w.heap.size w w' := by
  have e : twoV 87 a b = askI 64 6 a b := by unfold twoV; rw [if_neg (by omega), if_pos (by omega)]; rfl
  have := tw64a 76 a b (by decide) (by decide) (by omega) (by omega) (by omega) (by omega) w
  rw [show (76 : Int) + 11 = 87 from rfl] at this; rw [e] at this; exact this
theorem tq64_77 (a b : Int) (h0 : 0 ≤ a) (h1 : a < 18446744073709551616) (g0 : 0 ≤ b) (g1 : b < 18446744073709551616) (w : World) : Calls Tryd.prog 13 #[.int .i64 64, .int .i64 77, .int .u64 a, .int .u64 b] w fun e w' => e = .returned (.int .u64 (askI 64 7 a b)) ∧ Below w.heap.size w w' := by
  have e : twoV 88 a b = askI 64 7 a b := by unfold twoV; rw [if_neg (by omega), if_pos (by omega)]; rfl
  have := tw64a 77 a b (by decide) (by decide) (by omega) (by omega) (by omega) (by omega) w
  rw [show (77 : Int) + 11 = 88 from rfl] at this; rw [e] at this; exact this
theorem tq64_78 (a b : Int) (h0 : 0 ≤ a) (h1 : a < 18446744073709551616) (g0 : 0 ≤ b) (g1 : b < 18446744073709551616) (w : World) : Calls Tryd.prog 13 #[.int .i64 64, .int .i64 78, .int .u64 a, .int .u64 b] w fun e w' => e = .returned (.int .u64 (askI 64 8 a b)) ∧ Below w.heap.size w w' := by
  have e : twoV 89 a b = askI 64 8 a b := by unfold twoV; rw [if_neg (by omega), if_pos (by omega)]; rfl
  have := tw64a 78 a b (by decide) (by decide) (by omega) (by omega) (by omega) (by omega) w
  rw [show (78 : Int) + 11 = 89 from rfl] at this; rw [e] at this; exact this
theorem tq64_79 (a b : Int) (h0 : 0 ≤ a) (h1 : a < 18446744073709551616) (g0 : 0 ≤ b) (g1 : b < 18446744073709551616) (w : World) : Calls Tryd.prog 13 #[.int .i64 64, .int .i64 79, .int .u64 a, .int .u64 b] w fun e w' => e = .returned (.int .u64 (askI 64 9 a b)) ∧ Below w.heap.size w w' := by
  have e : twoV 90 a b = askI 64 9 a b := by unfold twoV; rw [if_neg (by omega), if_pos (by omega)]; rfl
  have := tw64a 79 a b (by decide) (by decide) (by omega) (by omega) (by omega) (by omega) w
  rw [show (79 : Int) + 11 = 90 from rfl] at this; rw [e] at this; exact this
theorem tq64_106 (a b : Int) (h0 : 0 ≤ a) (h1 : a < 18446744073709551616) (g0 : 0 ≤ b) (g1 : b < 18446744073709551616) (w : World) : Calls Tryd.prog 13 #[.int .i64 64, .int .i64 106, .int .u64 a, .int .u64 b] w fun e w' => e = .returned (.int .u64 (sumI 64 0 a b)) ∧ Below w.heap.size w w' := by
  have e : twoV 124 a b = sumI 64 0 a b := by unfold twoV; rw [if_neg (by omega), if_neg (by omega), if_neg (by omega), if_pos (by omega)]; rfl
  have := tw64b 106 a b (by decide) (by decide) (by omega) (by omega) (by omega) (by omega) w
  rw [show (106 : Int) + 18 = 124 from rfl] at this; rw [e] at this; exact this
theorem tq64_107 (a b : Int) (h0 : 0 ≤ a) (h1 : a < 18446744073709551616) (g0 : 0 ≤ b) (g1 : b < 18446744073709551616) (w : World) : Calls Tryd.prog 13 #[.int .i64 64, .int .i64 107, .int .u64 a, .int .u64 b] w fun e w' => e = .returned (.int .u64 (sumI 64 1 a b)) ∧ Below w.heap.size w w' := by
  have e : twoV 125 a b = sumI 64 1 a b := by unfold twoV; rw [if_neg (by omega), if_neg (by omega), if_neg (by omega), if_pos (by omega)]; rfl
  have := tw64b 107 a b (by decide) (by decide) (by omega) (by omega) (by omega) (by omega) w
  rw [show (107 : Int) + 18 = 125 from rfl] at this; rw [e] at this; exact this
theorem tq64_108 (a b : Int) (h0 : 0 ≤ a) (h1 : a < 18446744073709551616) (g0 : 0 ≤ b) (g1 : b < 18446744073709551616) (w : World) : Calls Tryd.prog 13 #[.int .i64 64, .int .i64 108, .int .u64 a, .int .u64 b] w fun e w' => e = .returned (.int .u64 (sumI 64 2 a b)) ∧ Below w.heap.size w w' := by
  have e : twoV 126 a b = sumI 64 2 a b := by unfold twoV; rw [if_neg (by omega), if_neg (by omega), if_neg (by omega), if_pos (by omega)]; rfl
  have := tw64b 108 a b (by decide) (by decide) (by omega) (by omega) (by omega) (by omega) w
  rw [show (108 : Int) + 18 = 126 from rfl] at this; rw [e] at this; exact this
theorem tq64_109 (a b : Int) (h0 : 0 ≤ a) (h1 : a < 18446744073709551616) (g0 : 0 ≤ b) (g1 : b < 18446744073709551616) (w : World) : Calls Tryd.prog 13 #[.int .i64 64, .int .i64 109, .int .u64 a, .int .u64 b] w fun e w' => e = .returned (.int .u64 (sumI 64 3 a b)) ∧ Below w.heap.size w w' := by
  have e : twoV 127 a b = sumI 64 3 a b := by unfold twoV; rw [if_neg (by omega), if_neg (by omega), if_neg (by omega), if_pos (by omega)]; rfl
  have := tw64b 109 a b (by decide) (by decide) (by omega) (by omega) (by omega) (by omega) w
  rw [show (109 : Int) + 18 = 127 from rfl] at this; rw [e] at this; exact this
theorem tq64_110 (a b : Int) (h0 : 0 ≤ a) (h1 : a < 18446744073709551616) (g0 : 0 ≤ b) (g1 : b < 18446744073709551616) (w : World) : Calls Tryd.prog 13 #[.int .i64 64, .int .i64 110, .int .u64 a, .int .u64 b] w fun e w' => e = .returned (.int .u64 (sumI 64 4 a b)) ∧ Below w.heap.size w w' := by
  have e : twoV 128 a b = sumI 64 4 a b := by unfold twoV; rw [if_neg (by omega), if_neg (by omega), if_neg (by omega), if_pos (by omega)]; rfl
  have := tw64b 110 a b (by decide) (by decide) (by omega) (by omega) (by omega) (by omega) w
  rw [show (110 : Int) + 18 = 128 from rfl] at this; rw [e] at this; exact this
theorem tq64_111 (a b : Int) (h0 : 0 ≤ a) (h1 : a < 18446744073709551616) (g0 : 0 ≤ b) (g1 : b < 18446744073709551616) (w : World) : Calls Tryd.prog 13 #[.int .i64 64, .int .i64 111, .int .u64 a, .int .u64 b] w fun e w' => e = .returned (.int .u64 (sumI 64 5 a b)) ∧ Below w.heap.size w w' := by
  have e : twoV 129 a b = sumI 64 5 a b := by unfold twoV; rw [if_neg (by omega), if_neg (by omega), if_neg (by omega), if_pos (by omega)]; rfl
  have := tw64b 111 a b (by decide) (by decide) (by omega) (by omega) (by omega) (by omega) w
  rw [show (111 : Int) + 18 = 129 from rfl] at this; rw [e] at this; exact this
theorem tq64_112 (a b : Int) (h0 : 0 ≤ a) (h1 : a < 18446744073709551616) (g0 : 0 ≤ b) (g1 : b < 18446744073709551616) (w : World) : Calls Tryd.prog 13 #[.int .i64 64, .int .i64 112, .int .u64 a, .int .u64 b] w fun e w' => e = .returned (.int .u64 (sumI 64 6 a b)) ∧ Below w.heap.size w w' := by
  have e : twoV 130 a b = sumI 64 6 a b := by unfold twoV; rw [if_neg (by omega), if_neg (by omega), if_neg (by omega), if_pos (by omega)]; rfl
  have := tw64b 112 a b (by decide) (by decide) (by omega) (by omega) (by omega) (by omega) w
  rw [show (112 : Int) + 18 = 130 from rfl] at this; rw [e] at this; exact this
theorem tq64_113 (a b : Int) (h0 : 0 ≤ a) (h1 : a < 18446744073709551616) (g0 : 0 ≤ b) (g1 : b < 18446744073709551616) (w : World) : Calls Tryd.prog 13 #[.int .i64 64, .int .i64 113, .int .u64 a, .int .u64 b] w fun e w' => e = .returned (.int .u64 (sumI 64 7 a b)) ∧ Below w.heap.size w w' := by
  have e : twoV 131 a b = sumI 64 7 a b := by unfold twoV; rw [if_neg (by omega), if_neg (by omega), if_neg (by omega), if_pos (by omega)]; rfl
  have := tw64b 113 a b (by decide) (by decide) (by omega) (by omega) (by omega) (by omega) w
  rw [show (113 : Int) + 18 = 131 from rfl] at this; rw [e] at this; exact this
theorem tq64_114 (a b : Int) (h0 : 0 ≤ a) (h1 : a < 18446744073709551616) (g0 : 0 ≤ b) (g1 : b < 18446744073709551616) (w : World) : Calls Tryd.prog 13 #[.int .i64 64, .int .i64 114, .int .u64 a, .int .u64 b] w fun e w' => e = .returned (.int .u64 (sumI 64 8 a b)) ∧ Below w.heap.size w w' := by
  have e : twoV 132 a b = sumI 64 8 a b := by unfold twoV; rw [if_neg (by omega), if_neg (by omega), if_neg (by omega), if_pos (by omega)]; rfl
  have := tw64b 114 a b (by decide) (by decide) (by omega) (by omega) (by omega) (by omega) w
  rw [show (114 : Int) + 18 = 132 from rfl] at this; rw [e] at this; exact this
theorem tq64_115 (a b : Int) (h0 : 0 ≤ a) (h1 : a < 18446744073709551616) (g0 : 0 ≤ b) (g1 : b < 18446744073709551616) (w : World) : Calls Tryd.prog 13 #[.int .i64 64, .int .i64 115, .int .u64 a, .int .u64 b] w fun e w' => e = .returned (.int .u64 (sumI 64 9 a b)) ∧ Below w.heap.size w w' := by
  have e : twoV 133 a b = sumI 64 9 a b := by unfold twoV; rw [if_neg (by omega), if_neg (by omega), if_neg (by omega), if_pos (by omega)]; rfl
  have := tw64b 115 a b (by decide) (by decide) (by omega) (by omega) (by omega) (by omega) w
  rw [show (115 : Int) + 18 = 133 from rfl] at this; rw [e] at this; exact this
theorem tq64_116 (a b : Int) (h0 : 0 ≤ a) (h1 : a < 18446744073709551616) (g0 : 0 ≤ b) (g1 : b < 18446744073709551616) (w : World) : Calls Tryd.prog 13 #[.int .i64 64, .int .i64 116, .int .u64 a, .int .u64 b] w fun e w' => e = .returned (.int .u64 (sumI 64 10 a b)) ∧ Below w.heap.size w w' := by
  have e : twoV 134 a b = sumI 64 10 a b := by unfold twoV; rw [if_neg (by omega), if_neg (by omega), if_neg (by omega), if_pos (by omega)]; rfl
  have := tw64b 116 a b (by decide) (by decide) (by omega) (by omega) (by omega) (by omega) w
  rw [show (116 : Int) + 18 = 134 from rfl] at this; rw [e] at this; exact this
theorem tq64_117 (a b : Int) (h0 : 0 ≤ a) (h1 : a < 18446744073709551616) (g0 : 0 ≤ b) (g1 : b < 18446744073709551616) (w : World) : Calls Tryd.prog 13 #[.int .i64 64, .int .i64 117, .int .u64 a, .int .u64 b] w fun e w' => e = .returned (.int .u64 (sumI 64 11 a b)) ∧ Below w.heap.size w w' := by
  have e : twoV 135 a b = sumI 64 11 a b := by unfold twoV; rw [if_neg (by omega), if_neg (by omega), if_neg (by omega), if_pos (by omega)]; rfl
  have := tw64b 117 a b (by decide) (by decide) (by omega) (by omega) (by omega) (by omega) w
  rw [show (117 : Int) + 18 = 135 from rfl] at this; rw [e] at this; exact this
theorem tq64_118 (a b : Int) (h0 : 0 ≤ a) (h1 : a < 18446744073709551616) (g0 : 0 ≤ b) (g1 : b < 18446744073709551616) (w : World) : Calls Tryd.prog 13 #[.int .i64 64, .int .i64 118, .int .u64 a, .int .u64 b] w fun e w' => e = .returned (.int .u64 (sumI 64 12 a b)) ∧ Below w.heap.size w w' := by
  have e : twoV 136 a b = sumI 64 12 a b := by unfold twoV; rw [if_neg (by omega), if_neg (by omega), if_neg (by omega), if_pos (by omega)]; rfl
  have := tw64b 118 a b (by decide) (by decide) (by omega) (by omega) (by omega) (by omega) w
  rw [show (118 : Int) + 18 = 136 from rfl] at this; rw [e] at this; exact this
theorem tq64_119 (a b : Int) (h0 : 0 ≤ a) (h1 : a < 18446744073709551616) (g0 : 0 ≤ b) (g1 : b < 18446744073709551616) (w : World) : Calls Tryd.prog 13 #[.int .i64 64, .int .i64 119, .int .u64 a, .int .u64 b] w fun e w' => e = .returned (.int .u64 (sumI 64 13 a b)) ∧ Below w.heap.size w w' := by
  have e : twoV 137 a b = sumI 64 13 a b := by unfold twoV; rw [if_neg (by omega), if_neg (by omega), if_neg (by omega), if_pos (by omega)]; rfl
  have := tw64b 119 a b (by decide) (by decide) (by omega) (by omega) (by omega) (by omega) w
  rw [show (119 : Int) + 18 = 137 from rfl] at this; rw [e] at this; exact this
theorem tq64_120 (a b : Int) (h0 : 0 ≤ a) (h1 : a < 18446744073709551616) (g0 : 0 ≤ b) (g1 : b < 18446744073709551616) (w : World) : Calls Tryd.prog 13 #[.int .i64 64, .int .i64 120, .int .u64 a, .int .u64 b] w fun e w' => e = .returned (.int .u64 (sumI 64 14 a b)) ∧ Below w.heap.size w w' := by
  have e : twoV 138 a b = sumI 64 14 a b := by unfold twoV; rw [if_neg (by omega), if_neg (by omega), if_neg (by omega), if_pos (by omega)]; rfl
  have := tw64b 120 a b (by decide) (by decide) (by omega) (by omega) (by omega) (by omega) w
  rw [show (120 : Int) + 18 = 138 from rfl] at this; rw [e] at this; exact this
end Go.Proofs.YtfcagbgnlibfpaaDoor.A
