/- num: contracts of low, signed, truth, of, divided: what each returns; they only read. -/
import Derived.Test.YtfcagbgnlibfpaaDoorA
import Derived.Test.YtfcagbgnlibfpaaDoorS
namespace Go.Proofs.YtfcagbgnlibfpaaDoor.A
open Go.ChangeShapes Go.WideShapes Go.ChangeAt Go.RowKit
set_option linter.unusedVariables false
set_option linter.unusedSimpArgs false

theorem ret_int {k : IntKind} {a b : Int} (h : a = b) : Ending.returned (.int k a) = .returned (.int k b) := by rw [h]
theorem ret_two {k l : IntKind} {a b c d : Int} (h : a = b) (h' : c = d) : Ending.returned (.tuple #[.int k a, .int l c]) = .returned (.tuple #[.int k b, .int l d]) := by rw [h, h']
theorem ret_three {k l m : IntKind} {a b c d e f : Int} (h : a = b) (h' : c = d) (h'' : e = f) : Ending.returned (.tuple #[.int k a, .int l c, .int m e]) = .returned (.tuple #[.int k b, .int l d, .int m f]) := by rw [h, h', h'']


theorem sg64_bd (a : Int) (h0 : 0 ≤ a) (h1 : a < 18446744073709551616) : -9223372036854775808 ≤ sg64 a ∧ sg64 a ≤ 9223372036854775807 := by unfold sg64; split <;> omega
theorem sg32_bd (a : Int) (h0 : 0 ≤ a) (h1 : a < 4294967296) : -2147483648 ≤ sg32 a ∧ sg32 a ≤ 2147483647 := by unfold sg32; split <;> omega

theorem low64 (a : Int) (h0 : 0 ≤ a) (h1 : a < 18446744073709551616) (w : World) :
    Calls Tryd.prog 47 #[.int .i64 64, .int .u64 a] w fun e w' => e = .returned (.int .u64 a) ∧ w' = w := by
  go_enter Tryd.func47, Tryd.ntmps47
  go_wp2
  go_ret
  exact ⟨rfl, rfl⟩
theorem low32 (a : Int) (h0 : 0 ≤ a) (h1 : a < 18446744073709551616) (w : World) :
    Calls Tryd.prog 47 #[.int .i64 32, .int .u64 a] w fun e w' => e = .returned (.int .u64 (a % 4294967296)) ∧ w' = w := by
  go_enter Tryd.func47, Tryd.ntmps47
  go_wp2
  go_ret
  exact ⟨ret_int (by rw [IntKind.wrap_u64]; omega), rfl⟩
theorem signed64 (a : Int) (h0 : 0 ≤ a) (h1 : a < 18446744073709551616) (w : World) :
    Calls Tryd.prog 85 #[.int .i64 64, .int .u64 a] w fun e w' => e = .returned (.int .i64 (sg64 a)) ∧ w' = w := by
  go_enter Tryd.func85, Tryd.ntmps85
  go_wp2
  go_ret
  exact ⟨ret_int (by unfold wrap64 sg64; split <;> omega), rfl⟩
theorem signed32 (a : Int) (h0 : 0 ≤ a) (h1 : a < 4294967296) (w : World) :
    Calls Tryd.prog 85 #[.int .i64 32, .int .u64 a] w fun e w' => e = .returned (.int .i64 (sg32 a)) ∧ w' = w := by
  go_enter Tryd.func85, Tryd.ntmps85
  go_wp2
  go_ret
  exact ⟨ret_int (by unfold wrap64 sg32; split <;> omega), rfl⟩
theorem truth (c : Bool) (w : World) :
    Calls Tryd.prog 51 #[.bool c] w fun e w' => e = .returned (.int .u64 (tr c)) ∧ w' = w := by
  cases c with
  | true =>
    go_enter Tryd.func51, Tryd.ntmps51
    go_wp2
    go_ret
    exact ⟨rfl, rfl⟩
  | false =>
    go_enter Tryd.func51, Tryd.ntmps51
    go_wp2
    go_ret
    exact ⟨rfl, rfl⟩
theorem of64 (a : Int) (h0 : 0 ≤ a) (h1 : a < 18446744073709551616) (w : World) :
    Calls Tryd.prog 21 #[.int .i64 64, .int .u64 a] w fun e w' => e = .returned (.bool true) ∧ w' = w := by
  go_enter Tryd.func21, Tryd.ntmps21
  go_wp2_with (go_at_call 47; refine (low64 a h0 h1 _).mono ?_; rintro e w' ⟨rfl, rfl⟩)
  go_ret
  exact ⟨rfl, rfl⟩
theorem of32 (a : Int) (h0 : 0 ≤ a) (h1 : a < 18446744073709551616) (w : World) :
    Calls Tryd.prog 21 #[.int .i64 32, .int .u64 a] w fun e w' => e = .returned (.bool (decide (a < 4294967296))) ∧ w' = w := by
  have e : decide (a < 4294967296) = (a % 4294967296 == a) := by rw [Bool.eq_iff_iff]; simp; omega
  rw [e]; clear e
  go_enter Tryd.func21, Tryd.ntmps21
  go_wp2_with (go_at_call 47; refine (low32 a h0 h1 _).mono ?_; rintro e w' ⟨rfl, rfl⟩)
  go_ret
  exact ⟨rfl, rfl⟩

theorem div_u (W a b : Int) (h0 : 0 ≤ a) (h1 : a < 18446744073709551616) (g0 : 1 ≤ b) (g1 : b < 18446744073709551616) (w : World) :
    Calls Tryd.prog 72 #[.int .i64 W, .int .u64 a, .int .u64 b, .bool false] w fun e w' => e = .returned (.tuple #[.int .u64 (a / b), .int .u64 (a % b), .int .i64 0]) ∧ ∃ n, w' = w.drewN n := by
  have hb : (b == 0) = false := by rw [beq_eq_false_iff_ne]; omega
  go_enter Tryd.func72, Tryd.ntmps72
  go_wp2
  go_quiet (fail)
  go_wp2
  go_ret3
  exact ⟨rfl, _, rfl⟩
theorem div_0 (W a : Int) (s : Bool) (w : World) :
    Calls Tryd.prog 72 #[.int .i64 W, .int .u64 a, .int .u64 0, .bool s] w fun e w' => e = .returned (.tuple #[.int .u64 0, .int .u64 0, .int .i64 30]) ∧ ∃ n, w' = w.drewN n := by
  go_enter Tryd.func72, Tryd.ntmps72
  go_wp2
  go_ret3
  exact ⟨rfl, 0, rfl⟩
theorem low64w (z : Int) (w : World) : Calls Tryd.prog 47 #[.int .i64 64, .int .u64 (IntKind.u64.wrap z)] w fun e w' => e = .returned (.int .u64 (z % 18446744073709551616)) ∧ w' = w := by
  have h : IntKind.u64.wrap z = z % 18446744073709551616 := IntKind.wrap_u64 z
  have := low64 (IntKind.u64.wrap z) (by rw [h]; omega) (by rw [h]; omega) w
  rw [h] at this ⊢
  exact this
theorem low32w (z : Int) (w : World) : Calls Tryd.prog 47 #[.int .i64 32, .int .u64 (IntKind.u64.wrap z)] w fun e w' => e = .returned (.int .u64 (z % 4294967296)) ∧ w' = w := by
  have h : IntKind.u64.wrap z = z % 18446744073709551616 := IntKind.wrap_u64 z
  have := low32 (IntKind.u64.wrap z) (by rw [h]; omega) (by rw [h]; omega) w
  rw [h] at this ⊢
  rw [show z % 18446744073709551616 % 4294967296 = z % 4294967296 by omega] at this
  exact this
theorem div_over64 (w : World) :
    Calls Tryd.prog 72 #[.int .i64 64, .int .u64 9223372036854775808, .int .u64 18446744073709551615, .bool true] w fun e w' => e = .returned (.tuple #[.int .u64 0, .int .u64 0, .int .i64 31]) ∧ ∃ n, w' = w.drewN n := by
  have S1 := signed64 18446744073709551615 (by decide) (by decide)
  rw [show sg64 18446744073709551615 = -1 by decide] at S1
  replace S1 := Lib.hid S1
  have S2 := Lib.hid (signed64 9223372036854775808 (by decide) (by decide))
  go_enter Tryd.func72, Tryd.ntmps72
  go_wp2_with (first | (go_at_call 85; (with_reducible refine (S1.out _).mono ?_); rintro e w' ⟨rfl, rfl⟩) | (go_at_call 85; (with_reducible refine (S2.out _).mono ?_); rintro e w' ⟨rfl, rfl⟩) | (go_at_call 47; (with_reducible refine (low64w _ _).mono ?_); rintro e w' ⟨rfl, rfl⟩))
  go_ret3
  exact ⟨rfl, 0, rfl⟩
theorem div_neg64 (a : Int) (h0 : 0 ≤ a) (h1 : a < 18446744073709551616) (hne : a ≠ 9223372036854775808) (w : World) :
    Calls Tryd.prog 72 #[.int .i64 64, .int .u64 a, .int .u64 18446744073709551615, .bool true] w fun e w' => e = .returned (.tuple #[.int .u64 ((- sg64 a) % 18446744073709551616), .int .u64 0, .int .i64 0]) ∧ ∃ n, w' = w.drewN n := by
  have S1 := signed64 18446744073709551615 (by decide) (by decide)
  rw [show sg64 18446744073709551615 = -1 by decide] at S1
  replace S1 := Lib.hid S1
  have S2 := Lib.hid (signed64 a h0 h1)
  have hn : (a == 9223372036854775808) = false := by rw [beq_eq_false_iff_ne]; exact hne
  obtain ⟨b1, b2⟩ := sg64_bd a h0 h1
  clear hne
  go_enter Tryd.func72, Tryd.ntmps72
  go_wp2_with (first | (go_at_call 85; (with_reducible refine (S1.out _).mono ?_); rintro e w' ⟨rfl, rfl⟩) | (go_at_call 85; (with_reducible refine (S2.out _).mono ?_); rintro e w' ⟨rfl, rfl⟩) | (go_at_call 47; (with_reducible refine (low64w _ _).mono ?_); rintro e w' ⟨rfl, rfl⟩))
  go_ret3
  exact ⟨ret_three (by (try unfold wrap64) <;> omega) rfl rfl, 0, rfl⟩
theorem div_s64 (a b : Int) (h0 : 0 ≤ a) (h1 : a < 18446744073709551616) (g0 : 1 ≤ b) (g1 : b < 18446744073709551615) (w : World) :
    Calls Tryd.prog 72 #[.int .i64 64, .int .u64 a, .int .u64 b, .bool true] w fun e w' => e = .returned (.tuple #[.int .u64 (wrap64 ((sg64 a).tdiv (sg64 b)) % 18446744073709551616), .int .u64 ((sg64 a).tmod (sg64 b) % 18446744073709551616), .int .i64 0]) ∧ ∃ n, w' = w.drewN n := by
  have hb : (b == 0) = false := by rw [beq_eq_false_iff_ne]; omega
  have S1 := Lib.hid (signed64 a h0 h1)
  have S2 := Lib.hid (signed64 b (by omega) (by omega))
  have hY : (sg64 b == -1) = false := by rw [beq_eq_false_iff_ne]; unfold sg64; split <;> omega
  have hY0 : (sg64 b == 0) = false := by rw [beq_eq_false_iff_ne]; unfold sg64; split <;> omega
  have hY1 : ¬ sg64 b = 0 := by unfold sg64; split <;> omega
  obtain ⟨b1, b2⟩ := sg64_bd a h0 h1
  obtain ⟨b3, b4⟩ := sg64_bd b (by omega) (by omega)
  clear h0 h1 g0 g1
  go_enter Tryd.func72, Tryd.ntmps72
  go_wp2_with (first | (go_at_call 85; (with_reducible refine (S1.out _).mono ?_); rintro e w' ⟨rfl, rfl⟩) | (go_at_call 85; (with_reducible refine (S2.out _).mono ?_); rintro e w' ⟨rfl, rfl⟩) | (go_at_call 47; (with_reducible refine (low64w _ _).mono ?_); rintro e w' ⟨rfl, rfl⟩))
  go_quiet ((go_at_call 47; exact Calls.quiet_of_same (low64w _ _)))
  go_wp2
  go_ret3
  exact ⟨rfl, _, rfl⟩
theorem div_over32 (w : World) :
    Calls Tryd.prog 72 #[.int .i64 32, .int .u64 2147483648, .int .u64 4294967295, .bool true] w fun e w' => e = .returned (.tuple #[.int .u64 0, .int .u64 0, .int .i64 31]) ∧ ∃ n, w' = w.drewN n := by
  have S1 := signed32 4294967295 (by decide) (by decide)
  rw [show sg32 4294967295 = -1 by decide] at S1
  replace S1 := Lib.hid S1
  have S2 := Lib.hid (signed32 2147483648 (by decide) (by decide))
  go_enter Tryd.func72, Tryd.ntmps72
  go_wp2_with (first | (go_at_call 85; (with_reducible refine (S1.out _).mono ?_); rintro e w' ⟨rfl, rfl⟩) | (go_at_call 85; (with_reducible refine (S2.out _).mono ?_); rintro e w' ⟨rfl, rfl⟩) | (go_at_call 47; (with_reducible refine (low32w _ _).mono ?_); rintro e w' ⟨rfl, rfl⟩))
  go_ret3
  exact ⟨rfl, 0, rfl⟩
theorem div_neg32 (a : Int) (h0 : 0 ≤ a) (h1 : a < 4294967296) (hne : a ≠ 2147483648) (w : World) :
    Calls Tryd.prog 72 #[.int .i64 32, .int .u64 a, .int .u64 4294967295, .bool true] w fun e w' => e = .returned (.tuple #[.int .u64 ((- sg32 a) % 4294967296), .int .u64 0, .int .i64 0]) ∧ ∃ n, w' = w.drewN n := by
  have S1 := signed32 4294967295 (by decide) (by decide)
  rw [show sg32 4294967295 = -1 by decide] at S1
  replace S1 := Lib.hid S1
  have S2 := Lib.hid (signed32 a h0 h1)
  have hn : (a == 2147483648) = false := by rw [beq_eq_false_iff_ne]; exact hne
  obtain ⟨b1, b2⟩ := sg32_bd a h0 h1
  clear hne
  go_enter Tryd.func72, Tryd.ntmps72
  go_wp2_with (first | (go_at_call 85; (with_reducible refine (S1.out _).mono ?_); rintro e w' ⟨rfl, rfl⟩) | (go_at_call 85; (with_reducible refine (S2.out _).mono ?_); rintro e w' ⟨rfl, rfl⟩) | (go_at_call 47; (with_reducible refine (low32w _ _).mono ?_); rintro e w' ⟨rfl, rfl⟩))
  go_ret3
  exact ⟨ret_three (by (try unfold wrap64) <;> omega) rfl rfl, 0, rfl⟩
theorem div_s32 (a b : Int) (h0 : 0 ≤ a) (h1 : a < 4294967296) (g0 : 1 ≤ b) (g1 : b < 4294967295) (w : World) :
    Calls Tryd.prog 72 #[.int .i64 32, .int .u64 a, .int .u64 b, .bool true] w fun e w' => e = .returned (.tuple #[.int .u64 (wrap64 ((sg32 a).tdiv (sg32 b)) % 4294967296), .int .u64 ((sg32 a).tmod (sg32 b) % 4294967296), .int .i64 0]) ∧ ∃ n, w' = w.drewN n := by
  have hb : (b == 0) = false := by rw [beq_eq_false_iff_ne]; omega
  have S1 := Lib.hid (signed32 a h0 h1)
  have S2 := Lib.hid (signed32 b (by omega) (by omega))
  have hY : (sg32 b == -1) = false := by rw [beq_eq_false_iff_ne]; unfold sg32; split <;> omega
  have hY0 : (sg32 b == 0) = false := by rw [beq_eq_false_iff_ne]; unfold sg32; split <;> omega
  have hY1 : ¬ sg32 b = 0 := by unfold sg32; split <;> omega
  obtain ⟨b1, b2⟩ := sg32_bd a h0 h1
  obtain ⟨b3, b4⟩ := sg32_bd b (by omega) (by omega)
  clear h0 h1 g0 g1
  go_enter Tryd.func72, Tryd.ntmps72
  go_wp2_with (first | (go_at_call 85; (with_reducible refine (S1.out _).mono ?_); rintro e w' ⟨rfl, rfl⟩) | (go_at_call 85; (with_reducible refine (S2.out _).mono ?_); rintro e w' ⟨rfl, rfl⟩) | (go_at_call 47; (with_reducible refine (low32w _ _).mono ?_); rintro e w' ⟨rfl, rfl⟩))
  go_quiet ((go_at_call 47; exact Calls.quiet_of_same (low32w _ _)))
  go_wp2
  go_ret3
  exact ⟨rfl, _, rfl⟩
end Go.Proofs.YtfcagbgnlibfpaaDoor.A
