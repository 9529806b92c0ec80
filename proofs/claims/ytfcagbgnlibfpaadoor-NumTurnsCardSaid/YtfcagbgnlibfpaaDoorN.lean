/- num: the helper 'one' of the laws: what it comes to at the questions of one number. -/
import Derived.Test.YtfcagbgnlibfpaaDoorJ
import Derived.Test.YtfcagbgnlibfpaaDoorM
import Derived.Test.YtfcagbgnlibfpaaDoorMPop
namespace Go.Proofs.YtfcagbgnlibfpaaDoor.A
open Go.ChangeShapes Go.WideShapes Go.ChangeAt Go.RowKit Go.Proofs.YtfcagbgnlibfpaaDoor.S Go.Proofs
set_option linter.unusedVariables false
set_option linter.unusedSimpArgs false

theorem u_105 (a : Int) (h0 : 0 ≤ a) (h1 : a < 4294967296) (w : World) : Calls Tryd.prog 33 #[.int .u32 a] w fun e w' => e = .returned (.int .u64 (Lib.popAux 32 a.toNat : Int)) ∧ ∃ n, w' = w.drewN n := by
  have T := Lib.hid (ones32 a h0 h1 w)
  have B := popAux_le 32 a.toNat
  generalize Lib.popAux 32 a.toNat = k at *
  go_enter Tryd.func33, Tryd.ntmps33
  go_wp2_with (go_at_call 54; (with_reducible refine (T.out).mono ?_); rintro e w' ⟨rfl, n, rfl⟩)
  go_ret
  exact ⟨ret_int (by first | omega | (simp only [IntKind.wrap_u64, wrap64]; omega)), n, rfl⟩
theorem u_123 (a : Int) (h0 : 0 ≤ a) (h1 : a < 18446744073709551616) (w : World) : Calls Tryd.prog 41 #[.int .u64 a] w fun e w' => e = .returned (.int .u64 (Lib.popAux 64 a.toNat : Int)) ∧ ∃ n, w' = w.drewN n := by
  have T := Lib.hid (by have := ones64 a.toNat (by omega) w; rwa [Int.toNat_of_nonneg h0] at this : Calls Tryd.prog 57 #[.int .u64 a] w fun e w' => e = .returned (.int .i64 (Lib.popAux 64 a.toNat)) ∧ w' = w)
  have B := popAux_le 64 a.toNat
  generalize Lib.popAux 64 a.toNat = k at *
  go_enter Tryd.func41, Tryd.ntmps41
  go_wp2_with (go_at_call 57; (with_reducible refine (T.out).mono ?_); rintro e w' ⟨rfl, rfl⟩)
  go_ret
  exact ⟨ret_int (by first | omega | (simp only [IntKind.wrap_u64, wrap64]; omega)), 0, rfl⟩
theorem oq32_69 (a : Int) (h0 : 0 ≤ a) (h1 : a < 4294967296) (w : World) : Calls Tryd.prog 14 #[.int .i64 32, .int .i64 69, .int .u64 a] w fun e w' => e = .returned (.int .u64 (tr (a == 0))) ∧ Below w.heap.size w w' := by
  have R := Lib.hid (one_69 a _ h0 h1 w (fun w' hb => u_69 a h0 h1 w'))
  go_enter Tryd.func14, Tryd.ntmps14
  go_wp2_with (go_at_call 15; (with_reducible refine (R.out).mono ?_); rintro e w' ⟨rfl, hb⟩)
  go_ret
  exact ⟨rfl, hb⟩
theorem oq32_103 (a : Int) (h0 : 0 ≤ a) (h1 : a < 4294967296) (w : World) : Calls Tryd.prog 14 #[.int .i64 32, .int .i64 103, .int .u64 a] w fun e w' => e = .returned (.int .u64 (32 - (Lib.bitLen a.toNat : Int))) ∧ Below w.heap.size w w' := by
  have R := Lib.hid (one_103 a _ h0 h1 w (fun w' hb => u_103 a h0 h1 w'))
  go_enter Tryd.func14, Tryd.ntmps14
  go_wp2_with (go_at_call 15; (with_reducible refine (R.out).mono ?_); rintro e w' ⟨rfl, hb⟩)
  go_ret
  exact ⟨rfl, hb⟩
theorem oq32_104 (a : Int) (h0 : 0 ≤ a) (h1 : a < 4294967296) (w : World) (hT : Tabs w) : Calls Tryd.prog 14 #[.int .i64 32, .int .i64 104, .int .u64 a] w fun e w' => e = .returned (.int .u64 ((Lib.ctz 32 a.toNat : Int))) ∧ Below w.heap.size w w' := by
  have R := Lib.hid (one_104 a _ h0 h1 w (fun w' hb => u_104 a h0 h1 w' (hT.below hb)))
  go_enter Tryd.func14, Tryd.ntmps14
  go_wp2_with (go_at_call 15; (with_reducible refine (R.out).mono ?_); rintro e w' ⟨rfl, hb⟩)
  go_ret
  exact ⟨rfl, hb⟩
theorem oq32_105 (a : Int) (h0 : 0 ≤ a) (h1 : a < 4294967296) (w : World) : Calls Tryd.prog 14 #[.int .i64 32, .int .i64 105, .int .u64 a] w fun e w' => e = .returned (.int .u64 ((Lib.popAux 32 a.toNat : Int))) ∧ Below w.heap.size w w' := by
  have R := Lib.hid (one_105 a _ h0 h1 w (fun w' hb => u_105 a h0 h1 w'))
  go_enter Tryd.func14, Tryd.ntmps14
  go_wp2_with (go_at_call 15; (with_reducible refine (R.out).mono ?_); rintro e w' ⟨rfl, hb⟩)
  go_ret
  exact ⟨rfl, hb⟩
theorem oq64_69 (a : Int) (h0 : 0 ≤ a) (h1 : a < 18446744073709551616) (w : World) : Calls Tryd.prog 14 #[.int .i64 64, .int .i64 69, .int .u64 a] w fun e w' => e = .returned (.int .u64 (tr (a == 0))) ∧ Below w.heap.size w w' := by
  have R := Lib.hid (one_80 a _ h0 h1 w (fun w' hb => u_80 a h0 h1 w'))
  go_enter Tryd.func14, Tryd.ntmps14
  go_wp2_with (go_at_call 15; (with_reducible refine (R.out).mono ?_); rintro e w' ⟨rfl, hb⟩)
  go_ret
  exact ⟨rfl, hb⟩
theorem oq64_103 (a : Int) (h0 : 0 ≤ a) (h1 : a < 18446744073709551616) (w : World) : Calls Tryd.prog 14 #[.int .i64 64, .int .i64 103, .int .u64 a] w fun e w' => e = .returned (.int .u64 (64 - (Lib.bitLen a.toNat : Int))) ∧ Below w.heap.size w w' := by
  have R := Lib.hid (one_121 a _ h0 h1 w (fun w' hb => u_121 a h0 h1 w'))
  go_enter Tryd.func14, Tryd.ntmps14
  go_wp2_with (go_at_call 15; (with_reducible refine (R.out).mono ?_); rintro e w' ⟨rfl, hb⟩)
  go_ret
  exact ⟨rfl, hb⟩
theorem oq64_104 (a : Int) (h0 : 0 ≤ a) (h1 : a < 18446744073709551616) (w : World) (hT : Tabs w) : Calls Tryd.prog 14 #[.int .i64 64, .int .i64 104, .int .u64 a] w fun e w' => e = .returned (.int .u64 ((Lib.ctz 64 a.toNat : Int))) ∧ Below w.heap.size w w' := by
  have R := Lib.hid (one_122 a _ h0 h1 w (fun w' hb => u_122 a h0 h1 w' (hT.below hb)))
  go_enter Tryd.func14, Tryd.ntmps14
  go_wp2_with (go_at_call 15; (with_reducible refine (R.out).mono ?_); rintro e w' ⟨rfl, hb⟩)
  go_ret
  exact ⟨rfl, hb⟩
theorem oq64_105 (a : Int) (h0 : 0 ≤ a) (h1 : a < 18446744073709551616) (w : World) : Calls Tryd.prog 14 #[.int .i64 64, .int .i64 105, .int .u64 a] w fun e w' => e = .returned (.int .u64 ((Lib.popAux 64 a.toNat : Int))) ∧ Below w.heap.size w w' := by
  have R := Lib.hid (one_123 a _ h0 h1 w (fun w' hb => u_123 a h0 h1 w'))
  go_enter Tryd.func14, Tryd.ntmps14
  go_wp2_with (go_at_call 15; (with_reducible refine (R.out).mono ?_); rintro e w' ⟨rfl, hb⟩)
  go_ret
  exact ⟨rfl, hb⟩
end Go.Proofs.YtfcagbgnlibfpaaDoor.A
