/- num: contracts of the closures that 'twos' hands back, in the words of the plain text. -/
import Derived.Test.YtfcagbgnlibfpaaDoorC
namespace Go.Proofs.YtfcagbgnlibfpaaDoor.A
open Go.ChangeShapes Go.WideShapes Go.ChangeAt Go.RowKit
set_option linter.unusedVariables false
set_option linter.unusedSimpArgs false


theorem c_ask0_64 (a b : Int) (h0 : 0 ≤ a) (h1 : a < 18446744073709551616) (g0 : 0 ≤ b) (g1 : b < 18446744073709551616) (x : Nat) (w : World) (hx : w.cell? ⟨x, 0, none⟩ = some (.func (.func 59) #[] #[])) : Calls Tryd.prog 91 #[.int .i64 64, .int .u64 a, .int .u64 b, .pointer (some ⟨x, 0, none⟩)] w fun e w' => e = .returned (.tuple #[.int .u64 (tr ((a == b))), .int .i64 0]) ∧ ∃ n, w' = w.drewN n := by
  have T := Lib.hid truth
  have I : ∀ w, Calls Tryd.prog 59 #[.int .u64 a, .int .u64 b] w fun e w' => e = .returned (.bool ((a == b))) ∧ w' = w := by
    intro w
    go_enter Tryd.func59, Tryd.ntmps59
    go_wp2
    go_ret
    exact ⟨rfl, rfl⟩
  replace I := Lib.hid I
  go_enter Tryd.func91, Tryd.ntmps91
  go_wp2_with (first | (go_at_call 59; (with_reducible refine (I.out _).mono ?_); rintro e w' ⟨rfl, rfl⟩) | (go_at_call 51; (with_reducible refine (T.out _ _).mono ?_); rintro e w' ⟨rfl, rfl⟩))
  go_ret2
  exact ⟨rfl, 0, rfl⟩

theorem c_ask1_64 (a b : Int) (h0 : 0 ≤ a) (h1 : a < 18446744073709551616) (g0 : 0 ≤ b) (g1 : b < 18446744073709551616) (x : Nat) (w : World) (hx : w.cell? ⟨x, 0, none⟩ = some (.func (.func 60) #[] #[])) : Calls Tryd.prog 91 #[.int .i64 64, .int .u64 a, .int .u64 b, .pointer (some ⟨x, 0, none⟩)] w fun e w' => e = .returned (.tuple #[.int .u64 (tr ((a != b))), .int .i64 0]) ∧ ∃ n, w' = w.drewN n := by
  have T := Lib.hid truth
  have I : ∀ w, Calls Tryd.prog 60 #[.int .u64 a, .int .u64 b] w fun e w' => e = .returned (.bool ((a != b))) ∧ w' = w := by
    intro w
    go_enter Tryd.func60, Tryd.ntmps60
    go_wp2
    go_ret
    exact ⟨rfl, rfl⟩
  replace I := Lib.hid I
  go_enter Tryd.func91, Tryd.ntmps91
  go_wp2_with (first | (go_at_call 60; (with_reducible refine (I.out _).mono ?_); rintro e w' ⟨rfl, rfl⟩) | (go_at_call 51; (with_reducible refine (T.out _ _).mono ?_); rintro e w' ⟨rfl, rfl⟩))
  go_ret2
  exact ⟨rfl, 0, rfl⟩

theorem c_ask2_64 (a b : Int) (h0 : 0 ≤ a) (h1 : a < 18446744073709551616) (g0 : 0 ≤ b) (g1 : b < 18446744073709551616) (x : Nat) (w : World) (hx : w.cell? ⟨x, 0, none⟩ = some (.func (.func 62) #[] #[])) : Calls Tryd.prog 92 #[.int .i64 64, .int .u64 a, .int .u64 b, .pointer (some ⟨x, 0, none⟩)] w fun e w' => e = .returned (.tuple #[.int .u64 (tr (decide (sg64 a < sg64 b))), .int .i64 0]) ∧ ∃ n, w' = w.drewN n := by
  have T := Lib.hid truth
  have SA := Lib.hid (signed64 a h0 h1)
  have SB := Lib.hid (signed64 b g0 g1)
  have I : ∀ X Y : Int, ∀ w, Calls Tryd.prog 62 #[.int .i64 X, .int .i64 Y] w fun e w' => e = .returned (.bool (decide (X < Y))) ∧ w' = w := by
    intro X Y w
    go_enter Tryd.func62, Tryd.ntmps62
    go_wp2
    go_ret
    exact ⟨rfl, rfl⟩
  replace I := Lib.hid I
  go_enter Tryd.func92, Tryd.ntmps92
  go_wp2
  go_quiet ((first | (go_at_call 85; (first | (with_reducible exact Calls.quiet_of_same (SA.out _)) | (with_reducible exact Calls.quiet_of_same (SB.out _)))) | (go_at_call 62; exact Calls.quiet_of_same (I.out _ _ _)) | (go_at_call 51; exact Calls.quiet_of_same (T.out _ _))))
  go_wp2
  go_ret2
  exact ⟨rfl, _, rfl⟩

theorem c_ask3_64 (a b : Int) (h0 : 0 ≤ a) (h1 : a < 18446744073709551616) (g0 : 0 ≤ b) (g1 : b < 18446744073709551616) (x : Nat) (w : World) (hx : w.cell? ⟨x, 0, none⟩ = some (.func (.func 63) #[] #[])) : Calls Tryd.prog 91 #[.int .i64 64, .int .u64 a, .int .u64 b, .pointer (some ⟨x, 0, none⟩)] w fun e w' => e = .returned (.tuple #[.int .u64 (tr (decide (a < b))), .int .i64 0]) ∧ ∃ n, w' = w.drewN n := by
  have T := Lib.hid truth
  have I : ∀ w, Calls Tryd.prog 63 #[.int .u64 a, .int .u64 b] w fun e w' => e = .returned (.bool (decide (a < b))) ∧ w' = w := by
    intro w
    go_enter Tryd.func63, Tryd.ntmps63
    go_wp2
    go_ret
    exact ⟨rfl, rfl⟩
  replace I := Lib.hid I
  go_enter Tryd.func91, Tryd.ntmps91
  go_wp2_with (first | (go_at_call 63; (with_reducible refine (I.out _).mono ?_); rintro e w' ⟨rfl, rfl⟩) | (go_at_call 51; (with_reducible refine (T.out _ _).mono ?_); rintro e w' ⟨rfl, rfl⟩))
  go_ret2
  exact ⟨rfl, 0, rfl⟩

theorem c_ask4_64 (a b : Int) (h0 : 0 ≤ a) (h1 : a < 18446744073709551616) (g0 : 0 ≤ b) (g1 : b < 18446744073709551616) (x : Nat) (w : World) (hx : w.cell? ⟨x, 0, none⟩ = some (.func (.func 64) #[] #[])) : Calls Tryd.prog 92 #[.int .i64 64, .int .u64 a, .int .u64 b, .pointer (some ⟨x, 0, none⟩)] w fun e w' => e = .returned (.tuple #[.int .u64 (tr (decide (sg64 b < sg64 a))), .int .i64 0]) ∧ ∃ n, w' = w.drewN n := by
  have T := Lib.hid truth
  have SA := Lib.hid (signed64 a h0 h1)
  have SB := Lib.hid (signed64 b g0 g1)
  have I : ∀ X Y : Int, ∀ w, Calls Tryd.prog 64 #[.int .i64 X, .int .i64 Y] w fun e w' => e = .returned (.bool (decide (Y < X))) ∧ w' = w := by
    intro X Y w
    go_enter Tryd.func64, Tryd.ntmps64
    go_wp2
    go_ret
    exact ⟨rfl, rfl⟩
  replace I := Lib.hid I
  go_enter Tryd.func92, Tryd.ntmps92
  go_wp2
  go_quiet ((first | (go_at_call 85; (first | (with_reducible exact Calls.quiet_of_same (SA.out _)) | (with_reducible exact Calls.quiet_of_same (SB.out _)))) | (go_at_call 64; exact Calls.quiet_of_same (I.out _ _ _)) | (go_at_call 51; exact Calls.quiet_of_same (T.out _ _))))
  go_wp2
  go_ret2
  exact ⟨rfl, _, rfl⟩

theorem c_ask5_64 (a b : Int) (h0 : 0 ≤ a) (h1 : a < 18446744073709551616) (g0 : 0 ≤ b) (g1 : b < 18446744073709551616) (x : Nat) (w : World) (hx : w.cell? ⟨x, 0, none⟩ = some (.func (.func 65) #[] #[])) : Calls Tryd.prog 91 #[.int .i64 64, .int .u64 a, .int .u64 b, .pointer (some ⟨x, 0, none⟩)] w fun e w' => e = .returned (.tuple #[.int .u64 (tr (decide (b < a))), .int .i64 0]) ∧ ∃ n, w' = w.drewN n := by
  have T := Lib.hid truth
  have I : ∀ w, Calls Tryd.prog 65 #[.int .u64 a, .int .u64 b] w fun e w' => e = .returned (.bool (decide (b < a))) ∧ w' = w := by
    intro w
    go_enter Tryd.func65, Tryd.ntmps65
    go_wp2
    go_ret
    exact ⟨rfl, rfl⟩
  replace I := Lib.hid I
  go_enter Tryd.func91, Tryd.ntmps91
  go_wp2_with (first | (go_at_call 65; (with_reducible refine (I.out _).mono ?_); rintro e w' ⟨rfl, rfl⟩) | (go_at_call 51; (with_reducible refine (T.out _ _).mono ?_); rintro e w' ⟨rfl, rfl⟩))
  go_ret2
  exact ⟨rfl, 0, rfl⟩

theorem c_ask6_64 (a b : Int) (h0 : 0 ≤ a) (h1 : a < 18446744073709551616) (g0 : 0 ≤ b) (g1 : b < 18446744073709551616) (x : Nat) (w : World) (hx : w.cell? ⟨x, 0, none⟩ = some (.func (.func 66) #[] #[])) : Calls Tryd.prog 92 #[.int .i64 64, .int .u64 a, .int .u64 b, .pointer (some ⟨x, 0, none⟩)] w fun e w' => e = .returned (.tuple #[.int .u64 (tr (decide (sg64 a ≤ sg64 b))), .int .i64 0]) ∧ ∃ n, w' = w.drewN n := by
  have T := Lib.hid truth
  have SA := Lib.hid (signed64 a h0 h1)
  have SB := Lib.hid (signed64 b g0 g1)
  have I : ∀ X Y : Int, ∀ w, Calls Tryd.prog 66 #[.int .i64 X, .int .i64 Y] w fun e w' => e = .returned (.bool (decide (X ≤ Y))) ∧ w' = w := by
    intro X Y w
    go_enter Tryd.func66, Tryd.ntmps66
    go_wp2
    go_ret
    exact ⟨rfl, rfl⟩
  replace I := Lib.hid I
  go_enter Tryd.func92, Tryd.ntmps92
  go_wp2
  go_quiet ((first | (go_at_call 85; (first | (with_reducible exact Calls.quiet_of_same (SA.out _)) | (with_reducible exact Calls.quiet_of_same (SB.out _)))) | (go_at_call 66; exact Calls.quiet_of_same (I.out _ _ _)) | (go_at_call 51; exact Calls.quiet_of_same (T.out _ _))))
  go_wp2
  go_ret2
  exact ⟨rfl, _, rfl⟩

theorem c_ask7_64 (a b : Int) (h0 : 0 ≤ a) (h1 : a < 18446744073709551616) (g0 : 0 ≤ b) (g1 : b < 18446744073709551616) (x : Nat) (w : World) (hx : w.cell? ⟨x, 0, none⟩ = some (.func (.func 67) #[] #[])) : Calls Tryd.prog 91 #[.int .i64 64, .int .u64 a, .int .u64 b, .pointer (some ⟨x, 0, none⟩)] w fun e w' => e = .returned (.tuple #[.int .u64 (tr (decide (a ≤ b))), .int .i64 0]) ∧ ∃ n, w' = w.drewN n := by
  have T := Lib.hid truth
  have I : ∀ w, Calls Tryd.prog 67 #[.int .u64 a, .int .u64 b] w fun e w' => e = .returned (.bool (decide (a ≤ b))) ∧ w' = w := by
    intro w
    go_enter Tryd.func67, Tryd.ntmps67
    go_wp2
    go_ret
    exact ⟨rfl, rfl⟩
  replace I := Lib.hid I
  go_enter Tryd.func91, Tryd.ntmps91
  go_wp2_with (first | (go_at_call 67; (with_reducible refine (I.out _).mono ?_); rintro e w' ⟨rfl, rfl⟩) | (go_at_call 51; (with_reducible refine (T.out _ _).mono ?_); rintro e w' ⟨rfl, rfl⟩))
  go_ret2
  exact ⟨rfl, 0, rfl⟩

theorem c_ask8_64 (a b : Int) (h0 : 0 ≤ a) (h1 : a < 18446744073709551616) (g0 : 0 ≤ b) (g1 : b < 18446744073709551616) (x : Nat) (w : World) (hx : w.cell? ⟨x, 0, none⟩ = some (.func (.func 68) #[] #[])) : Calls Tryd.prog 92 #[.int .i64 64, .int .u64 a, .int .u64 b, .pointer (some ⟨x, 0, none⟩)] w fun e w' => e = .returned (.tuple #[.int .u64 (tr (decide (sg64 b ≤ sg64 a))), .int .i64 0]) ∧ ∃ n, w' = w.drewN n := by
  have T := Lib.hid truth
  have SA := Lib.hid (signed64 a h0 h1)
  have SB := Lib.hid (signed64 b g0 g1)
  have I : ∀ X Y : Int, ∀ w, Calls Tryd.prog 68 #[.int .i64 X, .int .i64 Y] w fun e w' => e = .returned (.bool (decide (Y ≤ X))) ∧ w' = w := by
    intro X Y w
    go_enter Tryd.func68, Tryd.ntmps68
    go_wp2
    go_ret
    exact ⟨rfl, rfl⟩
  replace I := Lib.hid I
  go_enter Tryd.func92, Tryd.ntmps92
  go_wp2
  go_quiet ((first | (go_at_call 85; (first | (with_reducible exact Calls.quiet_of_same (SA.out _)) | (with_reducible exact Calls.quiet_of_same (SB.out _)))) | (go_at_call 68; exact Calls.quiet_of_same (I.out _ _ _)) | (go_at_call 51; exact Calls.quiet_of_same (T.out _ _))))
  go_wp2
  go_ret2
  exact ⟨rfl, _, rfl⟩

theorem c_ask9_64 (a b : Int) (h0 : 0 ≤ a) (h1 : a < 18446744073709551616) (g0 : 0 ≤ b) (g1 : b < 18446744073709551616) (x : Nat) (w : World) (hx : w.cell? ⟨x, 0, none⟩ = some (.func (.func 69) #[] #[])) : Calls Tryd.prog 91 #[.int .i64 64, .int .u64 a, .int .u64 b, .pointer (some ⟨x, 0, none⟩)] w fun e w' => e = .returned (.tuple #[.int .u64 (tr (decide (b ≤ a))), .int .i64 0]) ∧ ∃ n, w' = w.drewN n := by
  have T := Lib.hid truth
  have I : ∀ w, Calls Tryd.prog 69 #[.int .u64 a, .int .u64 b] w fun e w' => e = .returned (.bool (decide (b ≤ a))) ∧ w' = w := by
    intro w
    go_enter Tryd.func69, Tryd.ntmps69
    go_wp2
    go_ret
    exact ⟨rfl, rfl⟩
  replace I := Lib.hid I
  go_enter Tryd.func91, Tryd.ntmps91
  go_wp2_with (first | (go_at_call 69; (with_reducible refine (I.out _).mono ?_); rintro e w' ⟨rfl, rfl⟩) | (go_at_call 51; (with_reducible refine (T.out _ _).mono ?_); rintro e w' ⟨rfl, rfl⟩))
  go_ret2
  exact ⟨rfl, 0, rfl⟩

theorem c_add64 (a b : Int) (h0 : 0 ≤ a) (h1 : a < 18446744073709551616) (g0 : 0 ≤ b) (g1 : b < 18446744073709551616) (x : Nat) (w : World) (hx : w.cell? ⟨x, 0, none⟩ = some (.func (.func 77) #[] #[])) : Calls Tryd.prog 93 #[.int .i64 64, .int .u64 a, .int .u64 b, .pointer (some ⟨x, 0, none⟩)] w fun e w' => e = .returned (.tuple #[.int .u64 ((IntKind.u64.wrap (a + b)) % 18446744073709551616), .int .i64 0]) ∧ ∃ n, w' = w.drewN n := by
  have hb : 0 ≤ (IntKind.u64.wrap (a + b)) ∧ (IntKind.u64.wrap (a + b)) < 18446744073709551616 := by exact wrap_bd _
  obtain ⟨hb1, hb2⟩ := hb
  have T := Lib.hid (t_add64 a b h0 h1 g0 g1)
  have L := Lib.hid (lowm64 (IntKind.u64.wrap (a + b)) hb1 hb2)
  go_enter Tryd.func93, Tryd.ntmps93
  go_wp2_with (first | (go_at_call 77; (with_reducible refine (T.out _).mono ?_); rintro e w' ⟨rfl, n, rfl⟩) | (go_at_call 47; (with_reducible refine (L.out _).mono ?_); rintro e w' ⟨rfl, rfl⟩))
  go_ret2
  exact ⟨rfl, n, rfl⟩

theorem c_sub64 (a b : Int) (h0 : 0 ≤ a) (h1 : a < 18446744073709551616) (g0 : 0 ≤ b) (g1 : b < 18446744073709551616) (x : Nat) (w : World) (hx : w.cell? ⟨x, 0, none⟩ = some (.func (.func 78) #[] #[])) : Calls Tryd.prog 93 #[.int .i64 64, .int .u64 a, .int .u64 b, .pointer (some ⟨x, 0, none⟩)] w fun e w' => e = .returned (.tuple #[.int .u64 ((IntKind.u64.wrap (a - b)) % 18446744073709551616), .int .i64 0]) ∧ ∃ n, w' = w.drewN n := by
  have hb : 0 ≤ (IntKind.u64.wrap (a - b)) ∧ (IntKind.u64.wrap (a - b)) < 18446744073709551616 := by exact wrap_bd _
  obtain ⟨hb1, hb2⟩ := hb
  have T := Lib.hid (t_sub64 a b h0 h1 g0 g1)
  have L := Lib.hid (lowm64 (IntKind.u64.wrap (a - b)) hb1 hb2)
  go_enter Tryd.func93, Tryd.ntmps93
  go_wp2_with (first | (go_at_call 78; (with_reducible refine (T.out _).mono ?_); rintro e w' ⟨rfl, n, rfl⟩) | (go_at_call 47; (with_reducible refine (L.out _).mono ?_); rintro e w' ⟨rfl, rfl⟩))
  go_ret2
  exact ⟨rfl, n, rfl⟩

theorem c_mul64 (a b : Int) (h0 : 0 ≤ a) (h1 : a < 18446744073709551616) (g0 : 0 ≤ b) (g1 : b < 18446744073709551616) (x : Nat) (w : World) (hx : w.cell? ⟨x, 0, none⟩ = some (.func (.func 79) #[] #[])) : Calls Tryd.prog 93 #[.int .i64 64, .int .u64 a, .int .u64 b, .pointer (some ⟨x, 0, none⟩)] w fun e w' => e = .returned (.tuple #[.int .u64 ((IntKind.u64.wrap (a * b)) % 18446744073709551616), .int .i64 0]) ∧ ∃ n, w' = w.drewN n := by
  have hb : 0 ≤ (IntKind.u64.wrap (a * b)) ∧ (IntKind.u64.wrap (a * b)) < 18446744073709551616 := by exact wrap_bd _
  obtain ⟨hb1, hb2⟩ := hb
  have T := Lib.hid (t_mul64 a b h0 h1 g0 g1)
  have L := Lib.hid (lowm64 (IntKind.u64.wrap (a * b)) hb1 hb2)
  go_enter Tryd.func93, Tryd.ntmps93
  go_wp2_with (first | (go_at_call 79; (with_reducible refine (T.out _).mono ?_); rintro e w' ⟨rfl, n, rfl⟩) | (go_at_call 47; (with_reducible refine (L.out _).mono ?_); rintro e w' ⟨rfl, rfl⟩))
  go_ret2
  exact ⟨rfl, n, rfl⟩

theorem c_and64 (a b : Int) (h0 : 0 ≤ a) (h1 : a < 18446744073709551616) (g0 : 0 ≤ b) (g1 : b < 18446744073709551616) (x : Nat) (w : World) (hx : w.cell? ⟨x, 0, none⟩ = some (.func (.func 80) #[] #[])) : Calls Tryd.prog 93 #[.int .i64 64, .int .u64 a, .int .u64 b, .pointer (some ⟨x, 0, none⟩)] w fun e w' => e = .returned (.tuple #[.int .u64 ((bits .and .u64 a b) % 18446744073709551616), .int .i64 0]) ∧ ∃ n, w' = w.drewN n := by
  have hb : 0 ≤ (bits .and .u64 a b) ∧ (bits .and .u64 a b) < 18446744073709551616 := by exact and_bd a b
  obtain ⟨hb1, hb2⟩ := hb
  have T := Lib.hid (t_and64 a b h0 h1 g0 g1)
  have L := Lib.hid (lowm64 (bits .and .u64 a b) hb1 hb2)
  go_enter Tryd.func93, Tryd.ntmps93
  go_wp2_with (first | (go_at_call 80; (with_reducible refine (T.out _).mono ?_); rintro e w' ⟨rfl, n, rfl⟩) | (go_at_call 47; (with_reducible refine (L.out _).mono ?_); rintro e w' ⟨rfl, rfl⟩))
  go_ret2
  exact ⟨rfl, n, rfl⟩

theorem c_or64 (a b : Int) (h0 : 0 ≤ a) (h1 : a < 18446744073709551616) (g0 : 0 ≤ b) (g1 : b < 18446744073709551616) (x : Nat) (w : World) (hx : w.cell? ⟨x, 0, none⟩ = some (.func (.func 81) #[] #[])) : Calls Tryd.prog 93 #[.int .i64 64, .int .u64 a, .int .u64 b, .pointer (some ⟨x, 0, none⟩)] w fun e w' => e = .returned (.tuple #[.int .u64 ((bits .or .u64 a b) % 18446744073709551616), .int .i64 0]) ∧ ∃ n, w' = w.drewN n := by
  have hb : 0 ≤ (bits .or .u64 a b) ∧ (bits .or .u64 a b) < 18446744073709551616 := by exact or_bd a b
  obtain ⟨hb1, hb2⟩ := hb
  have T := Lib.hid (t_or64 a b h0 h1 g0 g1)
  have L := Lib.hid (lowm64 (bits .or .u64 a b) hb1 hb2)
  go_enter Tryd.func93, Tryd.ntmps93
  go_wp2_with (first | (go_at_call 81; (with_reducible refine (T.out _).mono ?_); rintro e w' ⟨rfl, n, rfl⟩) | (go_at_call 47; (with_reducible refine (L.out _).mono ?_); rintro e w' ⟨rfl, rfl⟩))
  go_ret2
  exact ⟨rfl, n, rfl⟩

theorem c_xor64 (a b : Int) (h0 : 0 ≤ a) (h1 : a < 18446744073709551616) (g0 : 0 ≤ b) (g1 : b < 18446744073709551616) (x : Nat) (w : World) (hx : w.cell? ⟨x, 0, none⟩ = some (.func (.func 82) #[] #[])) : Calls Tryd.prog 93 #[.int .i64 64, .int .u64 a, .int .u64 b, .pointer (some ⟨x, 0, none⟩)] w fun e w' => e = .returned (.tuple #[.int .u64 ((bits .xor .u64 a b) % 18446744073709551616), .int .i64 0]) ∧ ∃ n, w' = w.drewN n := by
  have hb : 0 ≤ (bits .xor .u64 a b) ∧ (bits .xor .u64 a b) < 18446744073709551616 := by exact xor_bd a b
  obtain ⟨hb1, hb2⟩ := hb
  have T := Lib.hid (t_xor64 a b h0 h1 g0 g1)
  have L := Lib.hid (lowm64 (bits .xor .u64 a b) hb1 hb2)
  go_enter Tryd.func93, Tryd.ntmps93
  go_wp2_with (first | (go_at_call 82; (with_reducible refine (T.out _).mono ?_); rintro e w' ⟨rfl, n, rfl⟩) | (go_at_call 47; (with_reducible refine (L.out _).mono ?_); rintro e w' ⟨rfl, rfl⟩))
  go_ret2
  exact ⟨rfl, n, rfl⟩

theorem c_shl64 (a b : Int) (h0 : 0 ≤ a) (h1 : a < 18446744073709551616) (g0 : 0 ≤ b) (g1 : b < 18446744073709551616) (x : Nat) (w : World) (hx : w.cell? ⟨x, 0, none⟩ = some (.func (.func 83) #[] #[])) : Calls Tryd.prog 93 #[.int .i64 64, .int .u64 a, .int .u64 b, .pointer (some ⟨x, 0, none⟩)] w fun e w' => e = .returned (.tuple #[.int .u64 ((IntKind.u64.wrap (a * 2 ^ (b % 64).toNat)) % 18446744073709551616), .int .i64 0]) ∧ ∃ n, w' = w.drewN n := by
  have hb : 0 ≤ (IntKind.u64.wrap (a * 2 ^ (b % 64).toNat)) ∧ (IntKind.u64.wrap (a * 2 ^ (b % 64).toNat)) < 18446744073709551616 := by exact wrap_bd _
  obtain ⟨hb1, hb2⟩ := hb
  have T := Lib.hid (t_shl64 a b h0 h1 g0 g1)
  have L := Lib.hid (lowm64 (IntKind.u64.wrap (a * 2 ^ (b % 64).toNat)) hb1 hb2)
  go_enter Tryd.func93, Tryd.ntmps93
  go_wp2_with (first | (go_at_call 83; (with_reducible refine (T.out _).mono ?_); rintro e w' ⟨rfl, n, rfl⟩) | (go_at_call 47; (with_reducible refine (L.out _).mono ?_); rintro e w' ⟨rfl, rfl⟩))
  go_ret2
  exact ⟨rfl, n, rfl⟩

theorem c_shrs64 (a b : Int) (h0 : 0 ≤ a) (h1 : a < 18446744073709551616) (g0 : 0 ≤ b) (g1 : b < 18446744073709551616) (x : Nat) (w : World) (hx : w.cell? ⟨x, 0, none⟩ = some (.func (.func 84) #[] #[])) : Calls Tryd.prog 93 #[.int .i64 64, .int .u64 a, .int .u64 b, .pointer (some ⟨x, 0, none⟩)] w fun e w' => e = .returned (.tuple #[.int .u64 ((IntKind.u64.wrap (sg64 a / 2 ^ (b % 64).toNat)) % 18446744073709551616), .int .i64 0]) ∧ ∃ n, w' = w.drewN n := by
  have hb : 0 ≤ (IntKind.u64.wrap (sg64 a / 2 ^ (b % 64).toNat)) ∧ (IntKind.u64.wrap (sg64 a / 2 ^ (b % 64).toNat)) < 18446744073709551616 := by exact wrap_bd _
  obtain ⟨hb1, hb2⟩ := hb
  have T := Lib.hid (t_shrs64 a b h0 h1 g0 g1)
  have L := Lib.hid (lowm64 (IntKind.u64.wrap (sg64 a / 2 ^ (b % 64).toNat)) hb1 hb2)
  go_enter Tryd.func93, Tryd.ntmps93
  go_wp2_with (first | (go_at_call 84; (with_reducible refine (T.out _).mono ?_); rintro e w' ⟨rfl, n, rfl⟩) | (go_at_call 47; (with_reducible refine (L.out _).mono ?_); rintro e w' ⟨rfl, rfl⟩))
  go_ret2
  exact ⟨rfl, n, rfl⟩

theorem c_shru64 (a b : Int) (h0 : 0 ≤ a) (h1 : a < 18446744073709551616) (g0 : 0 ≤ b) (g1 : b < 18446744073709551616) (x : Nat) (w : World) (hx : w.cell? ⟨x, 0, none⟩ = some (.func (.func 86) #[] #[])) : Calls Tryd.prog 93 #[.int .i64 64, .int .u64 a, .int .u64 b, .pointer (some ⟨x, 0, none⟩)] w fun e w' => e = .returned (.tuple #[.int .u64 ((a / 2 ^ (b % 64).toNat) % 18446744073709551616), .int .i64 0]) ∧ ∃ n, w' = w.drewN n := by
  have hb : 0 ≤ (a / 2 ^ (b % 64).toNat) ∧ (a / 2 ^ (b % 64).toNat) < 18446744073709551616 := by have := div_bd a 18446744073709551616 (b % 64).toNat h0 h1; exact ⟨this.1, by omega⟩
  obtain ⟨hb1, hb2⟩ := hb
  have T := Lib.hid (t_shru64 a b h0 h1 g0 g1)
  have L := Lib.hid (lowm64 (a / 2 ^ (b % 64).toNat) hb1 hb2)
  go_enter Tryd.func93, Tryd.ntmps93
  go_wp2_with (first | (go_at_call 86; (with_reducible refine (T.out _).mono ?_); rintro e w' ⟨rfl, n, rfl⟩) | (go_at_call 47; (with_reducible refine (L.out _).mono ?_); rintro e w' ⟨rfl, rfl⟩))
  go_ret2
  exact ⟨rfl, n, rfl⟩

theorem c_rotl64 (a b : Int) (h0 : 0 ≤ a) (h1 : a < 18446744073709551616) (g0 : 0 ≤ b) (g1 : b < 18446744073709551616) (x : Nat) (w : World) (y : Nat) (hx : w.cell? ⟨x, 0, none⟩ = some (.func (.func 87) #[] #[.pointer (some ⟨y, 0, none⟩)])) (hy : w.cell? ⟨y, 0, none⟩ = some (.func (.func 75) #[] #[])) : Calls Tryd.prog 93 #[.int .i64 64, .int .u64 a, .int .u64 b, .pointer (some ⟨x, 0, none⟩)] w fun e w' => e = .returned (.tuple #[.int .u64 ((bits .or .u64 (IntKind.u64.wrap (a * 2 ^ ((b % 64)).toNat)) (a / 2 ^ (64 - (b % 64)).toNat)) % 18446744073709551616), .int .i64 0]) ∧ ∃ n, w' = w.drewN n := by
  have hb : 0 ≤ (bits .or .u64 (IntKind.u64.wrap (a * 2 ^ ((b % 64)).toNat)) (a / 2 ^ (64 - (b % 64)).toNat)) ∧ (bits .or .u64 (IntKind.u64.wrap (a * 2 ^ ((b % 64)).toNat)) (a / 2 ^ (64 - (b % 64)).toNat)) < 18446744073709551616 := by exact or_bd _ _
  obtain ⟨hb1, hb2⟩ := hb
  have T := Lib.hid (t_rotl64 a b h0 h1 g0 g1 y)
  have L := Lib.hid (lowm64 (bits .or .u64 (IntKind.u64.wrap (a * 2 ^ ((b % 64)).toNat)) (a / 2 ^ (64 - (b % 64)).toNat)) hb1 hb2)
  go_enter Tryd.func93, Tryd.ntmps93
  go_wp2_with (first | (go_at_call 87; (with_reducible refine (T.out _ hy).mono ?_); rintro e w' ⟨rfl, n, rfl⟩) | (go_at_call 47; (with_reducible refine (L.out _).mono ?_); rintro e w' ⟨rfl, rfl⟩))
  go_ret2
  exact ⟨rfl, n, rfl⟩

theorem c_rotr64 (a b : Int) (h0 : 0 ≤ a) (h1 : a < 18446744073709551616) (g0 : 0 ≤ b) (g1 : b < 18446744073709551616) (x : Nat) (w : World) (y : Nat) (hx : w.cell? ⟨x, 0, none⟩ = some (.func (.func 88) #[] #[.pointer (some ⟨y, 0, none⟩)])) (hy : w.cell? ⟨y, 0, none⟩ = some (.func (.func 75) #[] #[])) : Calls Tryd.prog 93 #[.int .i64 64, .int .u64 a, .int .u64 b, .pointer (some ⟨x, 0, none⟩)] w fun e w' => e = .returned (.tuple #[.int .u64 ((bits .or .u64 (IntKind.u64.wrap (a * 2 ^ ((-(b % 64) % 64)).toNat)) (a / 2 ^ (64 - (-(b % 64) % 64)).toNat)) % 18446744073709551616), .int .i64 0]) ∧ ∃ n, w' = w.drewN n := by
  have hb : 0 ≤ (bits .or .u64 (IntKind.u64.wrap (a * 2 ^ ((-(b % 64) % 64)).toNat)) (a / 2 ^ (64 - (-(b % 64) % 64)).toNat)) ∧ (bits .or .u64 (IntKind.u64.wrap (a * 2 ^ ((-(b % 64) % 64)).toNat)) (a / 2 ^ (64 - (-(b % 64) % 64)).toNat)) < 18446744073709551616 := by exact or_bd _ _
  obtain ⟨hb1, hb2⟩ := hb
  have T := Lib.hid (t_rotr64 a b h0 h1 g0 g1 y)
  have L := Lib.hid (lowm64 (bits .or .u64 (IntKind.u64.wrap (a * 2 ^ ((-(b % 64) % 64)).toNat)) (a / 2 ^ (64 - (-(b % 64) % 64)).toNat)) hb1 hb2)
  go_enter Tryd.func93, Tryd.ntmps93
  go_wp2_with (first | (go_at_call 88; (with_reducible refine (T.out _ hy).mono ?_); rintro e w' ⟨rfl, n, rfl⟩) | (go_at_call 47; (with_reducible refine (L.out _).mono ?_); rintro e w' ⟨rfl, rfl⟩))
  go_ret2
  exact ⟨rfl, n, rfl⟩

theorem c_quos64 (a b : Int) (h0 : 0 ≤ a) (h1 : a < 18446744073709551616) (g0 : 0 ≤ b) (g1 : b < 18446744073709551616) (x : Nat) (w : World) (hb : 1 ≤ b) (hb2 : b < 18446744073709551615) (hx : w.cell? ⟨x, 0, none⟩ = some (.bool true)) : Calls Tryd.prog 71 #[.int .i64 64, .int .u64 a, .int .u64 b, .pointer (some ⟨x, 0, none⟩)] w fun e w' => e = .returned (.tuple #[.int .u64 (wrap64 ((sg64 a).tdiv (sg64 b)) % 18446744073709551616), .int .i64 0]) ∧ ∃ n, w' = w.drewN n := by
  have D := Lib.hid (div_s64 a b h0 (by omega) hb hb2)
  go_enter Tryd.func71, Tryd.ntmps71
  go_wp2_with (go_at_call 72; (with_reducible refine (D.out _).mono ?_); rintro e w' ⟨rfl, n, rfl⟩)
  go_ret2
  exact ⟨rfl, n, rfl⟩

theorem c_quon64 (a : Int) (h0 : 0 ≤ a) (h1 : a < 18446744073709551616) (hne : a ≠ 9223372036854775808) (x : Nat) (w : World) (hx : w.cell? ⟨x, 0, none⟩ = some (.bool true)) : Calls Tryd.prog 71 #[.int .i64 64, .int .u64 a, .int .u64 18446744073709551615, .pointer (some ⟨x, 0, none⟩)] w fun e w' => e = .returned (.tuple #[.int .u64 ((- sg64 a) % 18446744073709551616), .int .i64 0]) ∧ ∃ n, w' = w.drewN n := by
  have D := Lib.hid (div_neg64 a h0 h1 hne)
  go_enter Tryd.func71, Tryd.ntmps71
  go_wp2_with (go_at_call 72; (with_reducible refine (D.out _).mono ?_); rintro e w' ⟨rfl, n, rfl⟩)
  go_ret2
  exact ⟨rfl, n, rfl⟩

theorem c_quoo64 (x : Nat) (w : World) (hx : w.cell? ⟨x, 0, none⟩ = some (.bool true)) : Calls Tryd.prog 71 #[.int .i64 64, .int .u64 9223372036854775808, .int .u64 18446744073709551615, .pointer (some ⟨x, 0, none⟩)] w fun e w' => e = .returned (.tuple #[.int .u64 0, .int .i64 31]) ∧ ∃ n, w' = w.drewN n := by
  have D := Lib.hid div_over64
  go_enter Tryd.func71, Tryd.ntmps71
  go_wp2_with (go_at_call 72; (with_reducible refine (D.out _).mono ?_); rintro e w' ⟨rfl, n, rfl⟩)
  go_ret2
  exact ⟨rfl, n, rfl⟩

theorem c_quou64 (a b : Int) (h0 : 0 ≤ a) (h1 : a < 18446744073709551616) (g0 : 0 ≤ b) (g1 : b < 18446744073709551616) (x : Nat) (w : World) (hb : 1 ≤ b) (hx : w.cell? ⟨x, 0, none⟩ = some (.bool false)) : Calls Tryd.prog 71 #[.int .i64 64, .int .u64 a, .int .u64 b, .pointer (some ⟨x, 0, none⟩)] w fun e w' => e = .returned (.tuple #[.int .u64 (a / b), .int .i64 0]) ∧ ∃ n, w' = w.drewN n := by
  have D := Lib.hid (div_u 64 a b h0 (by omega) hb (by omega))
  go_enter Tryd.func71, Tryd.ntmps71
  go_wp2_with (go_at_call 72; (with_reducible refine (D.out _).mono ?_); rintro e w' ⟨rfl, n, rfl⟩)
  go_ret2
  exact ⟨rfl, n, rfl⟩

theorem c_quoz64 (a : Int) (t : Bool) (x : Nat) (w : World) (hx : w.cell? ⟨x, 0, none⟩ = some (.bool t)) : Calls Tryd.prog 71 #[.int .i64 64, .int .u64 a, .int .u64 0, .pointer (some ⟨x, 0, none⟩)] w fun e w' => e = .returned (.tuple #[.int .u64 0, .int .i64 30]) ∧ ∃ n, w' = w.drewN n := by
  have D := Lib.hid (div_0 64 a t)
  go_enter Tryd.func71, Tryd.ntmps71
  go_wp2_with (go_at_call 72; (with_reducible refine (D.out _).mono ?_); rintro e w' ⟨rfl, n, rfl⟩)
  go_ret2
  exact ⟨rfl, n, rfl⟩

theorem c_rests64 (a b : Int) (h0 : 0 ≤ a) (h1 : a < 18446744073709551616) (g0 : 0 ≤ b) (g1 : b < 18446744073709551616) (x : Nat) (w : World) (hb : 1 ≤ b) (hb2 : b < 18446744073709551615) (hx : w.cell? ⟨x, 0, none⟩ = some (.bool true)) : Calls Tryd.prog 74 #[.int .i64 64, .int .u64 a, .int .u64 b, .pointer (some ⟨x, 0, none⟩)] w fun e w' => e = .returned (.tuple #[.int .u64 ((sg64 a).tmod (sg64 b) % 18446744073709551616), .int .i64 0]) ∧ ∃ n, w' = w.drewN n := by
  have D := Lib.hid (div_s64 a b h0 (by omega) hb hb2)
  go_enter Tryd.func74, Tryd.ntmps74
  go_wp2_with (go_at_call 72; (with_reducible refine (D.out _).mono ?_); rintro e w' ⟨rfl, n, rfl⟩)
  go_ret2
  exact ⟨rfl, n, rfl⟩

theorem c_restn64 (a : Int) (h0 : 0 ≤ a) (h1 : a < 18446744073709551616) (hne : a ≠ 9223372036854775808) (x : Nat) (w : World) (hx : w.cell? ⟨x, 0, none⟩ = some (.bool true)) : Calls Tryd.prog 74 #[.int .i64 64, .int .u64 a, .int .u64 18446744073709551615, .pointer (some ⟨x, 0, none⟩)] w fun e w' => e = .returned (.tuple #[.int .u64 (0), .int .i64 0]) ∧ ∃ n, w' = w.drewN n := by
  have D := Lib.hid (div_neg64 a h0 h1 hne)
  go_enter Tryd.func74, Tryd.ntmps74
  go_wp2_with (go_at_call 72; (with_reducible refine (D.out _).mono ?_); rintro e w' ⟨rfl, n, rfl⟩)
  go_ret2
  exact ⟨rfl, n, rfl⟩

theorem c_resto64 (x : Nat) (w : World) (hx : w.cell? ⟨x, 0, none⟩ = some (.bool true)) : Calls Tryd.prog 74 #[.int .i64 64, .int .u64 9223372036854775808, .int .u64 18446744073709551615, .pointer (some ⟨x, 0, none⟩)] w fun e w' => e = .returned (.tuple #[.int .u64 0, .int .i64 0]) ∧ ∃ n, w' = w.drewN n := by
  have D := Lib.hid div_over64
  go_enter Tryd.func74, Tryd.ntmps74
  go_wp2_with (go_at_call 72; (with_reducible refine (D.out _).mono ?_); rintro e w' ⟨rfl, n, rfl⟩)
  go_ret2
  exact ⟨rfl, n, rfl⟩

theorem c_restu64 (a b : Int) (h0 : 0 ≤ a) (h1 : a < 18446744073709551616) (g0 : 0 ≤ b) (g1 : b < 18446744073709551616) (x : Nat) (w : World) (hb : 1 ≤ b) (hx : w.cell? ⟨x, 0, none⟩ = some (.bool false)) : Calls Tryd.prog 74 #[.int .i64 64, .int .u64 a, .int .u64 b, .pointer (some ⟨x, 0, none⟩)] w fun e w' => e = .returned (.tuple #[.int .u64 (a % b), .int .i64 0]) ∧ ∃ n, w' = w.drewN n := by
  have D := Lib.hid (div_u 64 a b h0 (by omega) hb (by omega))
  go_enter Tryd.func74, Tryd.ntmps74
  go_wp2_with (go_at_call 72; (with_reducible refine (D.out _).mono ?_); rintro e w' ⟨rfl, n, rfl⟩)
  go_ret2
  exact ⟨rfl, n, rfl⟩

theorem c_restz64 (a : Int) (t : Bool) (x : Nat) (w : World) (hx : w.cell? ⟨x, 0, none⟩ = some (.bool t)) : Calls Tryd.prog 74 #[.int .i64 64, .int .u64 a, .int .u64 0, .pointer (some ⟨x, 0, none⟩)] w fun e w' => e = .returned (.tuple #[.int .u64 0, .int .i64 30]) ∧ ∃ n, w' = w.drewN n := by
  have D := Lib.hid (div_0 64 a t)
  go_enter Tryd.func74, Tryd.ntmps74
  go_wp2_with (go_at_call 72; (with_reducible refine (D.out _).mono ?_); rintro e w' ⟨rfl, n, rfl⟩)
  go_ret2
  exact ⟨rfl, n, rfl⟩

theorem c_ask0_32 (a b : Int) (h0 : 0 ≤ a) (h1 : a < 4294967296) (g0 : 0 ≤ b) (g1 : b < 4294967296) (x : Nat) (w : World) (hx : w.cell? ⟨x, 0, none⟩ = some (.func (.func 59) #[] #[])) : Calls Tryd.prog 91 #[.int .i64 32, .int .u64 a, .int .u64 b, .pointer (some ⟨x, 0, none⟩)] w fun e w' => e = .returned (.tuple #[.int .u64 (tr ((a == b))), .int .i64 0]) ∧ ∃ n, w' = w.drewN n := by
  have T := Lib.hid truth
  have I : ∀ w, Calls Tryd.prog 59 #[.int .u64 a, .int .u64 b] w fun e w' => e = .returned (.bool ((a == b))) ∧ w' = w := by
    intro w
    go_enter Tryd.func59, Tryd.ntmps59
    go_wp2
    go_ret
    exact ⟨rfl, rfl⟩
  replace I := Lib.hid I
  go_enter Tryd.func91, Tryd.ntmps91
  go_wp2_with (first | (go_at_call 59; (with_reducible refine (I.out _).mono ?_); rintro e w' ⟨rfl, rfl⟩) | (go_at_call 51; (with_reducible refine (T.out _ _).mono ?_); rintro e w' ⟨rfl, rfl⟩))
  go_ret2
  exact ⟨rfl, 0, rfl⟩

theorem c_ask1_32 (a b : Int) (h0 : 0 ≤ a) (h1 : a < 4294967296) (g0 : 0 ≤ b) (g1 : b < 4294967296) (x : Nat) (w : World) (hx : w.cell? ⟨x, 0, none⟩ = some (.func (.func 60) #[] #[])) : Calls Tryd.prog 91 #[.int .i64 32, .int .u64 a, .int .u64 b, .pointer (some ⟨x, 0, none⟩)] w fun e w' => e = .returned (.tuple #[.int .u64 (tr ((a != b))), .int .i64 0]) ∧ ∃ n, w' = w.drewN n := by
  have T := Lib.hid truth
  have I : ∀ w, Calls Tryd.prog 60 #[.int .u64 a, .int .u64 b] w fun e w' => e = .returned (.bool ((a != b))) ∧ w' = w := by
    intro w
    go_enter Tryd.func60, Tryd.ntmps60
    go_wp2
    go_ret
    exact ⟨rfl, rfl⟩
  replace I := Lib.hid I
  go_enter Tryd.func91, Tryd.ntmps91
  go_wp2_with (first | (go_at_call 60; (with_reducible refine (I.out _).mono ?_); rintro e w' ⟨rfl, rfl⟩) | (go_at_call 51; (with_reducible refine (T.out _ _).mono ?_); rintro e w' ⟨rfl, rfl⟩))
  go_ret2
  exact ⟨rfl, 0, rfl⟩

theorem c_ask2_32 (a b : Int) (h0 : 0 ≤ a) (h1 : a < 4294967296) (g0 : 0 ≤ b) (g1 : b < 4294967296) (x : Nat) (w : World) (hx : w.cell? ⟨x, 0, none⟩ = some (.func (.func 62) #[] #[])) : Calls Tryd.prog 92 #[.int .i64 32, .int .u64 a, .int .u64 b, .pointer (some ⟨x, 0, none⟩)] w fun e w' => e = .returned (.tuple #[.int .u64 (tr (decide (sg32 a < sg32 b))), .int .i64 0]) ∧ ∃ n, w' = w.drewN n := by
  have T := Lib.hid truth
  have SA := Lib.hid (signed32 a h0 h1)
  have SB := Lib.hid (signed32 b g0 g1)
  have I : ∀ X Y : Int, ∀ w, Calls Tryd.prog 62 #[.int .i64 X, .int .i64 Y] w fun e w' => e = .returned (.bool (decide (X < Y))) ∧ w' = w := by
    intro X Y w
    go_enter Tryd.func62, Tryd.ntmps62
    go_wp2
    go_ret
    exact ⟨rfl, rfl⟩
  replace I := Lib.hid I
  go_enter Tryd.func92, Tryd.ntmps92
  go_wp2
  go_quiet ((first | (go_at_call 85; (first | (with_reducible exact Calls.quiet_of_same (SA.out _)) | (with_reducible exact Calls.quiet_of_same (SB.out _)))) | (go_at_call 62; exact Calls.quiet_of_same (I.out _ _ _)) | (go_at_call 51; exact Calls.quiet_of_same (T.out _ _))))
  go_wp2
  go_ret2
  exact ⟨rfl, _, rfl⟩

theorem c_ask3_32 (a b : Int) (h0 : 0 ≤ a) (h1 : a < 4294967296) (g0 : 0 ≤ b) (g1 : b < 4294967296) (x : Nat) (w : World) (hx : w.cell? ⟨x, 0, none⟩ = some (.func (.func 63) #[] #[])) : Calls Tryd.prog 91 #[.int .i64 32, .int .u64 a, .int .u64 b, .pointer (some ⟨x, 0, none⟩)] w fun e w' => e = .returned (.tuple #[.int .u64 (tr (decide (a < b))), .int .i64 0]) ∧ ∃ n, w' = w.drewN n := by
  have T := Lib.hid truth
  have I : ∀ w, Calls Tryd.prog 63 #[.int .u64 a, .int .u64 b] w fun e w' => e = .returned (.bool (decide (a < b))) ∧ w' = w := by
    intro w
    go_enter Tryd.func63, Tryd.ntmps63
    go_wp2
    go_ret
    exact ⟨rfl, rfl⟩
  replace I := Lib.hid I
  go_enter Tryd.func91, Tryd.ntmps91
  go_wp2_with (first | (go_at_call 63; (with_reducible refine (I.out _).mono ?_); rintro e w' ⟨rfl, rfl⟩) | (go_at_call 51; (with_reducible refine (T.out _ _).mono ?_); rintro e w' ⟨rfl, rfl⟩))
  go_ret2
  exact ⟨rfl, 0, rfl⟩

theorem c_ask4_32 (a b : Int) (h0 : 0 ≤ a) (h1 : a < 4294967296) (g0 : 0 ≤ b) (g1 : b < 4294967296) (x : Nat) (w : World) (hx : w.cell? ⟨x, 0, none⟩ = some (.func (.func 64) #[] #[])) : Calls Tryd.prog 92 #[.int .i64 32, .int .u64 a, .int .u64 b, .pointer (some ⟨x, 0, none⟩)] w fun e w' => e = .returned (.tuple #[.int .u64 (tr (decide (sg32 b < sg32 a))), .int .i64 0]) ∧ ∃ n, w' = w.drewN n := by
  have T := Lib.hid truth
  have SA := Lib.hid (signed32 a h0 h1)
  have SB := Lib.hid (signed32 b g0 g1)
  have I : ∀ X Y : Int, ∀ w, Calls Tryd.prog 64 #[.int .i64 X, .int .i64 Y] w fun e w' => e = .returned (.bool (decide (Y < X))) ∧ w' = w := by
    intro X Y w
    go_enter Tryd.func64, Tryd.ntmps64
    go_wp2
    go_ret
    exact ⟨rfl, rfl⟩
  replace I := Lib.hid I
  go_enter Tryd.func92, Tryd.ntmps92
  go_wp2
  go_quiet ((first | (go_at_call 85; (first | (with_reducible exact Calls.quiet_of_same (SA.out _)) | (with_reducible exact Calls.quiet_of_same (SB.out _)))) | (go_at_call 64; exact Calls.quiet_of_same (I.out _ _ _)) | (go_at_call 51; exact Calls.quiet_of_same (T.out _ _))))
  go_wp2
  go_ret2
  exact ⟨rfl, _, rfl⟩

theorem c_ask5_32 (a b : Int) (h0 : 0 ≤ a) (h1 : a < 4294967296) (g0 : 0 ≤ b) (g1 : b < 4294967296) (x : Nat) (w : World) (hx : w.cell? ⟨x, 0, none⟩ = some (.func (.func 65) #[] #[])) : Calls Tryd.prog 91 #[.int .i64 32, .int .u64 a, .int .u64 b, .pointer (some ⟨x, 0, none⟩)] w fun e w' => e = .returned (.tuple #[.int .u64 (tr (decide (b < a))), .int .i64 0]) ∧ ∃ n, w' = w.drewN n := by
  have T := Lib.hid truth
  have I : ∀ w, Calls Tryd.prog 65 #[.int .u64 a, .int .u64 b] w fun e w' => e = .returned (.bool (decide (b < a))) ∧ w' = w := by
    intro w
    go_enter Tryd.func65, Tryd.ntmps65
    go_wp2
    go_ret
    exact ⟨rfl, rfl⟩
  replace I := Lib.hid I
  go_enter Tryd.func91, Tryd.ntmps91
  go_wp2_with (first | (go_at_call 65; (with_reducible refine (I.out _).mono ?_); rintro e w' ⟨rfl, rfl⟩) | (go_at_call 51; (with_reducible refine (T.out _ _).mono ?_); rintro e w' ⟨rfl, rfl⟩))
  go_ret2
  exact ⟨rfl, 0, rfl⟩

theorem c_ask6_32 (a b : Int) (h0 : 0 ≤ a) (h1 : a < 4294967296) (g0 : 0 ≤ b) (g1 : b < 4294967296) (x : Nat) (w : World) (hx : w.cell? ⟨x, 0, none⟩ = some (.func (.func 66) #[] #[])) : Calls Tryd.prog 92 #[.int .i64 32, .int .u64 a, .int .u64 b, .pointer (some ⟨x, 0, none⟩)] w fun e w' => e = .returned (.tuple #[.int .u64 (tr (decide (sg32 a ≤ sg32 b))), .int .i64 0]) ∧ ∃ n, w' = w.drewN n := by
  have T := Lib.hid truth
  have SA := Lib.hid (signed32 a h0 h1)
  have SB := Lib.hid (signed32 b g0 g1)
  have I : ∀ X Y : Int, ∀ w, Calls Tryd.prog 66 #[.int .i64 X, .int .i64 Y] w fun e w' => e = .returned (.bool (decide (X ≤ Y))) ∧ w' = w := by
    intro X Y w
    go_enter Tryd.func66, Tryd.ntmps66
    go_wp2
    go_ret
    exact ⟨rfl, rfl⟩
  replace I := Lib.hid I
  go_enter Tryd.func92, Tryd.ntmps92
  go_wp2
  go_quiet ((first | (go_at_call 85; (first | (with_reducible exact Calls.quiet_of_same (SA.out _)) | (with_reducible exact Calls.quiet_of_same (SB.out _)))) | (go_at_call 66; exact Calls.quiet_of_same (I.out _ _ _)) | (go_at_call 51; exact Calls.quiet_of_same (T.out _ _))))
  go_wp2
  go_ret2
  exact ⟨rfl, _, rfl⟩

theorem c_ask7_32 (a b : Int) (h0 : 0 ≤ a) (h1 : a < 4294967296) (g0 : 0 ≤ b) (g1 : b < 4294967296) (x : Nat) (w : World) (hx : w.cell? ⟨x, 0, none⟩ = some (.func (.func 67) #[] #[])) : Calls Tryd.prog 91 #[.int .i64 32, .int .u64 a, .int .u64 b, .pointer (some ⟨x, 0, none⟩)] w fun e w' => e = .returned (.tuple #[.int .u64 (tr (decide (a ≤ b))), .int .i64 0]) ∧ ∃ n, w' = w.drewN n := by
  have T := Lib.hid truth
  have I : ∀ w, Calls Tryd.prog 67 #[.int .u64 a, .int .u64 b] w fun e w' => e = .returned (.bool (decide (a ≤ b))) ∧ w' = w := by
    intro w
    go_enter Tryd.func67, Tryd.ntmps67
    go_wp2
    go_ret
    exact ⟨rfl, rfl⟩
  replace I := Lib.hid I
  go_enter Tryd.func91, Tryd.ntmps91
  go_wp2_with (first | (go_at_call 67; (with_reducible refine (I.out _).mono ?_); rintro e w' ⟨rfl, rfl⟩) | (go_at_call 51; (with_reducible refine (T.out _ _).mono ?_); rintro e w' ⟨rfl, rfl⟩))
  go_ret2
  exact ⟨rfl, 0, rfl⟩

theorem c_ask8_32 (a b : Int) (h0 : 0 ≤ a) (h1 : a < 4294967296) (g0 : 0 ≤ b) (g1 : b < 4294967296) (x : Nat) (w : World) (hx : w.cell? ⟨x, 0, none⟩ = some (.func (.func 68) #[] #[])) : Calls Tryd.prog 92 #[.int .i64 32, .int .u64 a, .int .u64 b, .pointer (some ⟨x, 0, none⟩)] w fun e w' => e = .returned (.tuple #[.int .u64 (tr (decide (sg32 b ≤ sg32 a))), .int .i64 0]) ∧ ∃ n, w' = w.drewN n := by
  have T := Lib.hid truth
  have SA := Lib.hid (signed32 a h0 h1)
  have SB := Lib.hid (signed32 b g0 g1)
  have I : ∀ X Y : Int, ∀ w, Calls Tryd.prog 68 #[.int .i64 X, .int .i64 Y] w fun e w' => e = .returned (.bool (decide (Y ≤ X))) ∧ w' = w := by
    intro X Y w
    go_enter Tryd.func68, Tryd.ntmps68
    go_wp2
    go_ret
    exact ⟨rfl, rfl⟩
  replace I := Lib.hid I
  go_enter Tryd.func92, Tryd.ntmps92
  go_wp2
  go_quiet ((first | (go_at_call 85; (first | (with_reducible exact Calls.quiet_of_same (SA.out _)) | (with_reducible exact Calls.quiet_of_same (SB.out _)))) | (go_at_call 68; exact Calls.quiet_of_same (I.out _ _ _)) | (go_at_call 51; exact Calls.quiet_of_same (T.out _ _))))
  go_wp2
  go_ret2
  exact ⟨rfl, _, rfl⟩

theorem c_ask9_32 (a b : Int) (h0 : 0 ≤ a) (h1 : a < 4294967296) (g0 : 0 ≤ b) (g1 : b < 4294967296) (x : Nat) (w : World) (hx : w.cell? ⟨x, 0, none⟩ = some (.func (.func 69) #[] #[])) : Calls Tryd.prog 91 #[.int .i64 32, .int .u64 a, .int .u64 b, .pointer (some ⟨x, 0, none⟩)] w fun e w' => e = .returned (.tuple #[.int .u64 (tr (decide (b ≤ a))), .int .i64 0]) ∧ ∃ n, w' = w.drewN n := by
  have T := Lib.hid truth
  have I : ∀ w, Calls Tryd.prog 69 #[.int .u64 a, .int .u64 b] w fun e w' => e = .returned (.bool (decide (b ≤ a))) ∧ w' = w := by
    intro w
    go_enter Tryd.func69, Tryd.ntmps69
    go_wp2
    go_ret
    exact ⟨rfl, rfl⟩
  replace I := Lib.hid I
  go_enter Tryd.func91, Tryd.ntmps91
  go_wp2_with (first | (go_at_call 69; (with_reducible refine (I.out _).mono ?_); rintro e w' ⟨rfl, rfl⟩) | (go_at_call 51; (with_reducible refine (T.out _ _).mono ?_); rintro e w' ⟨rfl, rfl⟩))
  go_ret2
  exact ⟨rfl, 0, rfl⟩

theorem c_add32 (a b : Int) (h0 : 0 ≤ a) (h1 : a < 4294967296) (g0 : 0 ≤ b) (g1 : b < 4294967296) (x : Nat) (w : World) (hx : w.cell? ⟨x, 0, none⟩ = some (.func (.func 77) #[] #[])) : Calls Tryd.prog 93 #[.int .i64 32, .int .u64 a, .int .u64 b, .pointer (some ⟨x, 0, none⟩)] w fun e w' => e = .returned (.tuple #[.int .u64 (((a + b)) % 4294967296), .int .i64 0]) ∧ ∃ n, w' = w.drewN n := by
  have hb : 0 ≤ ((a + b)) ∧ ((a + b)) < 18446744073709551616 := by omega
  obtain ⟨hb1, hb2⟩ := hb
  have T := Lib.hid (t_add32 a b h0 h1 g0 g1)
  have L := Lib.hid (lowm32 ((a + b)) hb1 hb2)
  go_enter Tryd.func93, Tryd.ntmps93
  go_wp2_with (first | (go_at_call 77; (with_reducible refine (T.out _).mono ?_); rintro e w' ⟨rfl, n, rfl⟩) | (go_at_call 47; (with_reducible refine (L.out _).mono ?_); rintro e w' ⟨rfl, rfl⟩))
  go_ret2
  exact ⟨rfl, n, rfl⟩

theorem c_sub32 (a b : Int) (h0 : 0 ≤ a) (h1 : a < 4294967296) (g0 : 0 ≤ b) (g1 : b < 4294967296) (x : Nat) (w : World) (hx : w.cell? ⟨x, 0, none⟩ = some (.func (.func 78) #[] #[])) : Calls Tryd.prog 93 #[.int .i64 32, .int .u64 a, .int .u64 b, .pointer (some ⟨x, 0, none⟩)] w fun e w' => e = .returned (.tuple #[.int .u64 ((IntKind.u64.wrap (a - b)) % 4294967296), .int .i64 0]) ∧ ∃ n, w' = w.drewN n := by
  have hb : 0 ≤ (IntKind.u64.wrap (a - b)) ∧ (IntKind.u64.wrap (a - b)) < 18446744073709551616 := by exact wrap_bd _
  obtain ⟨hb1, hb2⟩ := hb
  have T := Lib.hid (t_sub32 a b h0 h1 g0 g1)
  have L := Lib.hid (lowm32 (IntKind.u64.wrap (a - b)) hb1 hb2)
  go_enter Tryd.func93, Tryd.ntmps93
  go_wp2_with (first | (go_at_call 78; (with_reducible refine (T.out _).mono ?_); rintro e w' ⟨rfl, n, rfl⟩) | (go_at_call 47; (with_reducible refine (L.out _).mono ?_); rintro e w' ⟨rfl, rfl⟩))
  go_ret2
  exact ⟨rfl, n, rfl⟩

theorem c_mul32 (a b : Int) (h0 : 0 ≤ a) (h1 : a < 4294967296) (g0 : 0 ≤ b) (g1 : b < 4294967296) (x : Nat) (w : World) (hx : w.cell? ⟨x, 0, none⟩ = some (.func (.func 79) #[] #[])) : Calls Tryd.prog 93 #[.int .i64 32, .int .u64 a, .int .u64 b, .pointer (some ⟨x, 0, none⟩)] w fun e w' => e = .returned (.tuple #[.int .u64 ((IntKind.u64.wrap (a * b)) % 4294967296), .int .i64 0]) ∧ ∃ n, w' = w.drewN n := by
  have hb : 0 ≤ (IntKind.u64.wrap (a * b)) ∧ (IntKind.u64.wrap (a * b)) < 18446744073709551616 := by exact wrap_bd _
  obtain ⟨hb1, hb2⟩ := hb
  have T := Lib.hid (t_mul32 a b h0 h1 g0 g1)
  have L := Lib.hid (lowm32 (IntKind.u64.wrap (a * b)) hb1 hb2)
  go_enter Tryd.func93, Tryd.ntmps93
  go_wp2_with (first | (go_at_call 79; (with_reducible refine (T.out _).mono ?_); rintro e w' ⟨rfl, n, rfl⟩) | (go_at_call 47; (with_reducible refine (L.out _).mono ?_); rintro e w' ⟨rfl, rfl⟩))
  go_ret2
  exact ⟨rfl, n, rfl⟩

theorem c_and32 (a b : Int) (h0 : 0 ≤ a) (h1 : a < 4294967296) (g0 : 0 ≤ b) (g1 : b < 4294967296) (x : Nat) (w : World) (hx : w.cell? ⟨x, 0, none⟩ = some (.func (.func 80) #[] #[])) : Calls Tryd.prog 93 #[.int .i64 32, .int .u64 a, .int .u64 b, .pointer (some ⟨x, 0, none⟩)] w fun e w' => e = .returned (.tuple #[.int .u64 ((bits .and .u64 a b) % 4294967296), .int .i64 0]) ∧ ∃ n, w' = w.drewN n := by
  have hb : 0 ≤ (bits .and .u64 a b) ∧ (bits .and .u64 a b) < 18446744073709551616 := by exact and_bd a b
  obtain ⟨hb1, hb2⟩ := hb
  have T := Lib.hid (t_and32 a b h0 h1 g0 g1)
  have L := Lib.hid (lowm32 (bits .and .u64 a b) hb1 hb2)
  go_enter Tryd.func93, Tryd.ntmps93
  go_wp2_with (first | (go_at_call 80; (with_reducible refine (T.out _).mono ?_); rintro e w' ⟨rfl, n, rfl⟩) | (go_at_call 47; (with_reducible refine (L.out _).mono ?_); rintro e w' ⟨rfl, rfl⟩))
  go_ret2
  exact ⟨rfl, n, rfl⟩

theorem c_or32 (a b : Int) (h0 : 0 ≤ a) (h1 : a < 4294967296) (g0 : 0 ≤ b) (g1 : b < 4294967296) (x : Nat) (w : World) (hx : w.cell? ⟨x, 0, none⟩ = some (.func (.func 81) #[] #[])) : Calls Tryd.prog 93 #[.int .i64 32, .int .u64 a, .int .u64 b, .pointer (some ⟨x, 0, none⟩)] w fun e w' => e = .returned (.tuple #[.int .u64 ((bits .or .u64 a b) % 4294967296), .int .i64 0]) ∧ ∃ n, w' = w.drewN n := by
  have hb : 0 ≤ (bits .or .u64 a b) ∧ (bits .or .u64 a b) < 18446744073709551616 := by exact or_bd a b
  obtain ⟨hb1, hb2⟩ := hb
  have T := Lib.hid (t_or32 a b h0 h1 g0 g1)
  have L := Lib.hid (lowm32 (bits .or .u64 a b) hb1 hb2)
  go_enter Tryd.func93, Tryd.ntmps93
  go_wp2_with (first | (go_at_call 81; (with_reducible refine (T.out _).mono ?_); rintro e w' ⟨rfl, n, rfl⟩) | (go_at_call 47; (with_reducible refine (L.out _).mono ?_); rintro e w' ⟨rfl, rfl⟩))
  go_ret2
  exact ⟨rfl, n, rfl⟩

theorem c_xor32 (a b : Int) (h0 : 0 ≤ a) (h1 : a < 4294967296) (g0 : 0 ≤ b) (g1 : b < 4294967296) (x : Nat) (w : World) (hx : w.cell? ⟨x, 0, none⟩ = some (.func (.func 82) #[] #[])) : Calls Tryd.prog 93 #[.int .i64 32, .int .u64 a, .int .u64 b, .pointer (some ⟨x, 0, none⟩)] w fun e w' => e = .returned (.tuple #[.int .u64 ((bits .xor .u64 a b) % 4294967296), .int .i64 0]) ∧ ∃ n, w' = w.drewN n := by
  have hb : 0 ≤ (bits .xor .u64 a b) ∧ (bits .xor .u64 a b) < 18446744073709551616 := by exact xor_bd a b
  obtain ⟨hb1, hb2⟩ := hb
  have T := Lib.hid (t_xor32 a b h0 h1 g0 g1)
  have L := Lib.hid (lowm32 (bits .xor .u64 a b) hb1 hb2)
  go_enter Tryd.func93, Tryd.ntmps93
  go_wp2_with (first | (go_at_call 82; (with_reducible refine (T.out _).mono ?_); rintro e w' ⟨rfl, n, rfl⟩) | (go_at_call 47; (with_reducible refine (L.out _).mono ?_); rintro e w' ⟨rfl, rfl⟩))
  go_ret2
  exact ⟨rfl, n, rfl⟩

theorem c_shl32 (a b : Int) (h0 : 0 ≤ a) (h1 : a < 4294967296) (g0 : 0 ≤ b) (g1 : b < 4294967296) (x : Nat) (w : World) (hx : w.cell? ⟨x, 0, none⟩ = some (.func (.func 83) #[] #[])) : Calls Tryd.prog 93 #[.int .i64 32, .int .u64 a, .int .u64 b, .pointer (some ⟨x, 0, none⟩)] w fun e w' => e = .returned (.tuple #[.int .u64 ((IntKind.u64.wrap (a * 2 ^ (b % 32).toNat)) % 4294967296), .int .i64 0]) ∧ ∃ n, w' = w.drewN n := by
  have hb : 0 ≤ (IntKind.u64.wrap (a * 2 ^ (b % 32).toNat)) ∧ (IntKind.u64.wrap (a * 2 ^ (b % 32).toNat)) < 18446744073709551616 := by exact wrap_bd _
  obtain ⟨hb1, hb2⟩ := hb
  have T := Lib.hid (t_shl32 a b h0 h1 g0 g1)
  have L := Lib.hid (lowm32 (IntKind.u64.wrap (a * 2 ^ (b % 32).toNat)) hb1 hb2)
  go_enter Tryd.func93, Tryd.ntmps93
  go_wp2_with (first | (go_at_call 83; (with_reducible refine (T.out _).mono ?_); rintro e w' ⟨rfl, n, rfl⟩) | (go_at_call 47; (with_reducible refine (L.out _).mono ?_); rintro e w' ⟨rfl, rfl⟩))
  go_ret2
  exact ⟨rfl, n, rfl⟩

theorem c_shrs32 (a b : Int) (h0 : 0 ≤ a) (h1 : a < 4294967296) (g0 : 0 ≤ b) (g1 : b < 4294967296) (x : Nat) (w : World) (hx : w.cell? ⟨x, 0, none⟩ = some (.func (.func 84) #[] #[])) : Calls Tryd.prog 93 #[.int .i64 32, .int .u64 a, .int .u64 b, .pointer (some ⟨x, 0, none⟩)] w fun e w' => e = .returned (.tuple #[.int .u64 ((IntKind.u64.wrap (sg32 a / 2 ^ (b % 32).toNat)) % 4294967296), .int .i64 0]) ∧ ∃ n, w' = w.drewN n := by
  have hb : 0 ≤ (IntKind.u64.wrap (sg32 a / 2 ^ (b % 32).toNat)) ∧ (IntKind.u64.wrap (sg32 a / 2 ^ (b % 32).toNat)) < 18446744073709551616 := by exact wrap_bd _
  obtain ⟨hb1, hb2⟩ := hb
  have T := Lib.hid (t_shrs32 a b h0 h1 g0 g1)
  have L := Lib.hid (lowm32 (IntKind.u64.wrap (sg32 a / 2 ^ (b % 32).toNat)) hb1 hb2)
  go_enter Tryd.func93, Tryd.ntmps93
  go_wp2_with (first | (go_at_call 84; (with_reducible refine (T.out _).mono ?_); rintro e w' ⟨rfl, n, rfl⟩) | (go_at_call 47; (with_reducible refine (L.out _).mono ?_); rintro e w' ⟨rfl, rfl⟩))
  go_ret2
  exact ⟨rfl, n, rfl⟩

theorem c_shru32 (a b : Int) (h0 : 0 ≤ a) (h1 : a < 4294967296) (g0 : 0 ≤ b) (g1 : b < 4294967296) (x : Nat) (w : World) (hx : w.cell? ⟨x, 0, none⟩ = some (.func (.func 86) #[] #[])) : Calls Tryd.prog 93 #[.int .i64 32, .int .u64 a, .int .u64 b, .pointer (some ⟨x, 0, none⟩)] w fun e w' => e = .returned (.tuple #[.int .u64 ((a / 2 ^ (b % 32).toNat) % 4294967296), .int .i64 0]) ∧ ∃ n, w' = w.drewN n := by
  have hb : 0 ≤ (a / 2 ^ (b % 32).toNat) ∧ (a / 2 ^ (b % 32).toNat) < 18446744073709551616 := by have := div_bd a 4294967296 (b % 32).toNat h0 h1; exact ⟨this.1, by omega⟩
  obtain ⟨hb1, hb2⟩ := hb
  have T := Lib.hid (t_shru32 a b h0 h1 g0 g1)
  have L := Lib.hid (lowm32 (a / 2 ^ (b % 32).toNat) hb1 hb2)
  go_enter Tryd.func93, Tryd.ntmps93
  go_wp2_with (first | (go_at_call 86; (with_reducible refine (T.out _).mono ?_); rintro e w' ⟨rfl, n, rfl⟩) | (go_at_call 47; (with_reducible refine (L.out _).mono ?_); rintro e w' ⟨rfl, rfl⟩))
  go_ret2
  exact ⟨rfl, n, rfl⟩

theorem c_rotl32 (a b : Int) (h0 : 0 ≤ a) (h1 : a < 4294967296) (g0 : 0 ≤ b) (g1 : b < 4294967296) (x : Nat) (w : World) (y : Nat) (hx : w.cell? ⟨x, 0, none⟩ = some (.func (.func 87) #[] #[.pointer (some ⟨y, 0, none⟩)])) (hy : w.cell? ⟨y, 0, none⟩ = some (.func (.func 75) #[] #[])) : Calls Tryd.prog 93 #[.int .i64 32, .int .u64 a, .int .u64 b, .pointer (some ⟨x, 0, none⟩)] w fun e w' => e = .returned (.tuple #[.int .u64 ((bits .or .u64 (IntKind.u64.wrap (a * 2 ^ ((b % 32)).toNat)) (a / 2 ^ (32 - (b % 32)).toNat)) % 4294967296), .int .i64 0]) ∧ ∃ n, w' = w.drewN n := by
  have hb : 0 ≤ (bits .or .u64 (IntKind.u64.wrap (a * 2 ^ ((b % 32)).toNat)) (a / 2 ^ (32 - (b % 32)).toNat)) ∧ (bits .or .u64 (IntKind.u64.wrap (a * 2 ^ ((b % 32)).toNat)) (a / 2 ^ (32 - (b % 32)).toNat)) < 18446744073709551616 := by exact or_bd _ _
  obtain ⟨hb1, hb2⟩ := hb
  have T := Lib.hid (t_rotl32 a b h0 h1 g0 g1 y)
  have L := Lib.hid (lowm32 (bits .or .u64 (IntKind.u64.wrap (a * 2 ^ ((b % 32)).toNat)) (a / 2 ^ (32 - (b % 32)).toNat)) hb1 hb2)
  go_enter Tryd.func93, Tryd.ntmps93
  go_wp2_with (first | (go_at_call 87; (with_reducible refine (T.out _ hy).mono ?_); rintro e w' ⟨rfl, n, rfl⟩) | (go_at_call 47; (with_reducible refine (L.out _).mono ?_); rintro e w' ⟨rfl, rfl⟩))
  go_ret2
  exact ⟨rfl, n, rfl⟩

theorem c_rotr32 (a b : Int) (h0 : 0 ≤ a) (h1 : a < 4294967296) (g0 : 0 ≤ b) (g1 : b < 4294967296) (x : Nat) (w : World) (y : Nat) (hx : w.cell? ⟨x, 0, none⟩ = some (.func (.func 88) #[] #[.pointer (some ⟨y, 0, none⟩)])) (hy : w.cell? ⟨y, 0, none⟩ = some (.func (.func 75) #[] #[])) : Calls Tryd.prog 93 #[.int .i64 32, .int .u64 a, .int .u64 b, .pointer (some ⟨x, 0, none⟩)] w fun e w' => e = .returned (.tuple #[.int .u64 ((bits .or .u64 (IntKind.u64.wrap (a * 2 ^ ((-(b % 32) % 32)).toNat)) (a / 2 ^ (32 - (-(b % 32) % 32)).toNat)) % 4294967296), .int .i64 0]) ∧ ∃ n, w' = w.drewN n := by
  have hb : 0 ≤ (bits .or .u64 (IntKind.u64.wrap (a * 2 ^ ((-(b % 32) % 32)).toNat)) (a / 2 ^ (32 - (-(b % 32) % 32)).toNat)) ∧ (bits .or .u64 (IntKind.u64.wrap (a * 2 ^ ((-(b % 32) % 32)).toNat)) (a / 2 ^ (32 - (-(b % 32) % 32)).toNat)) < 18446744073709551616 := by exact or_bd _ _
  obtain ⟨hb1, hb2⟩ := hb
  have T := Lib.hid (t_rotr32 a b h0 h1 g0 g1 y)
  have L := Lib.hid (lowm32 (bits .or .u64 (IntKind.u64.wrap (a * 2 ^ ((-(b % 32) % 32)).toNat)) (a / 2 ^ (32 - (-(b % 32) % 32)).toNat)) hb1 hb2)
  go_enter Tryd.func93, Tryd.ntmps93
  go_wp2_with (first | (go_at_call 88; (with_reducible refine (T.out _ hy).mono ?_); rintro e w' ⟨rfl, n, rfl⟩) | (go_at_call 47; (with_reducible refine (L.out _).mono ?_); rintro e w' ⟨rfl, rfl⟩))
  go_ret2
  exact ⟨rfl, n, rfl⟩

theorem c_quos32 (a b : Int) (h0 : 0 ≤ a) (h1 : a < 4294967296) (g0 : 0 ≤ b) (g1 : b < 4294967296) (x : Nat) (w : World) (hb : 1 ≤ b) (hb2 : b < 4294967295) (hx : w.cell? ⟨x, 0, none⟩ = some (.bool true)) : Calls Tryd.prog 71 #[.int .i64 32, .int .u64 a, .int .u64 b, .pointer (some ⟨x, 0, none⟩)] w fun e w' => e = .returned (.tuple #[.int .u64 (wrap64 ((sg32 a).tdiv (sg32 b)) % 4294967296), .int .i64 0]) ∧ ∃ n, w' = w.drewN n := by
  have D := Lib.hid (div_s32 a b h0 (by omega) hb hb2)
  go_enter Tryd.func71, Tryd.ntmps71
  go_wp2_with (go_at_call 72; (with_reducible refine (D.out _).mono ?_); rintro e w' ⟨rfl, n, rfl⟩)
  go_ret2
  exact ⟨rfl, n, rfl⟩

theorem c_quon32 (a : Int) (h0 : 0 ≤ a) (h1 : a < 4294967296) (hne : a ≠ 2147483648) (x : Nat) (w : World) (hx : w.cell? ⟨x, 0, none⟩ = some (.bool true)) : Calls Tryd.prog 71 #[.int .i64 32, .int .u64 a, .int .u64 4294967295, .pointer (some ⟨x, 0, none⟩)] w fun e w' => e = .returned (.tuple #[.int .u64 ((- sg32 a) % 4294967296), .int .i64 0]) ∧ ∃ n, w' = w.drewN n := by
  have D := Lib.hid (div_neg32 a h0 h1 hne)
  go_enter Tryd.func71, Tryd.ntmps71
  go_wp2_with (go_at_call 72; (with_reducible refine (D.out _).mono ?_); rintro e w' ⟨rfl, n, rfl⟩)
  go_ret2
  exact ⟨rfl, n, rfl⟩

theorem c_quoo32 (x : Nat) (w : World) (hx : w.cell? ⟨x, 0, none⟩ = some (.bool true)) : Calls Tryd.prog 71 #[.int .i64 32, .int .u64 2147483648, .int .u64 4294967295, .pointer (some ⟨x, 0, none⟩)] w fun e w' => e = .returned (.tuple #[.int .u64 0, .int .i64 31]) ∧ ∃ n, w' = w.drewN n := by
  have D := Lib.hid div_over32
  go_enter Tryd.func71, Tryd.ntmps71
  go_wp2_with (go_at_call 72; (with_reducible refine (D.out _).mono ?_); rintro e w' ⟨rfl, n, rfl⟩)
  go_ret2
  exact ⟨rfl, n, rfl⟩

theorem c_quou32 (a b : Int) (h0 : 0 ≤ a) (h1 : a < 4294967296) (g0 : 0 ≤ b) (g1 : b < 4294967296) (x : Nat) (w : World) (hb : 1 ≤ b) (hx : w.cell? ⟨x, 0, none⟩ = some (.bool false)) : Calls Tryd.prog 71 #[.int .i64 32, .int .u64 a, .int .u64 b, .pointer (some ⟨x, 0, none⟩)] w fun e w' => e = .returned (.tuple #[.int .u64 (a / b), .int .i64 0]) ∧ ∃ n, w' = w.drewN n := by
  have D := Lib.hid (div_u 32 a b h0 (by omega) hb (by omega))
  go_enter Tryd.func71, Tryd.ntmps71
  go_wp2_with (go_at_call 72; (with_reducible refine (D.out _).mono ?_); rintro e w' ⟨rfl, n, rfl⟩)
  go_ret2
  exact ⟨rfl, n, rfl⟩

theorem c_quoz32 (a : Int) (t : Bool) (x : Nat) (w : World) (hx : w.cell? ⟨x, 0, none⟩ = some (.bool t)) : Calls Tryd.prog 71 #[.int .i64 32, .int .u64 a, .int .u64 0, .pointer (some ⟨x, 0, none⟩)] w fun e w' => e = .returned (.tuple #[.int .u64 0, .int .i64 30]) ∧ ∃ n, w' = w.drewN n := by
  have D := Lib.hid (div_0 32 a t)
  go_enter Tryd.func71, Tryd.ntmps71
  go_wp2_with (go_at_call 72; (with_reducible refine (D.out _).mono ?_); rintro e w' ⟨rfl, n, rfl⟩)
  go_ret2
  exact ⟨rfl, n, rfl⟩

theorem c_rests32 (a b : Int) (h0 : 0 ≤ a) (h1 : a < 4294967296) (g0 : 0 ≤ b) (g1 : b < 4294967296) (x : Nat) (w : World) (hb : 1 ≤ b) (hb2 : b < 4294967295) (hx : w.cell? ⟨x, 0, none⟩ = some (.bool true)) : Calls Tryd.prog 74 #[.int .i64 32, .int .u64 a, .int .u64 b, .pointer (some ⟨x, 0, none⟩)] w fun e w' => e = .returned (.tuple #[.int .u64 ((sg32 a).tmod (sg32 b) % 4294967296), .int .i64 0]) ∧ ∃ n, w' = w.drewN n := by
  have D := Lib.hid (div_s32 a b h0 (by omega) hb hb2)
  go_enter Tryd.func74, Tryd.ntmps74
  go_wp2_with (go_at_call 72; (with_reducible refine (D.out _).mono ?_); rintro e w' ⟨rfl, n, rfl⟩)
  go_ret2
  exact ⟨rfl, n, rfl⟩

theorem c_restn32 (a : Int) (h0 : 0 ≤ a) (h1 : a < 4294967296) (hne : a ≠ 2147483648) (x : Nat) (w : World) (hx : w.cell? ⟨x, 0, none⟩ = some (.bool true)) : Calls Tryd.prog 74 #[.int .i64 32, .int .u64 a, .int .u64 4294967295, .pointer (some ⟨x, 0, none⟩)] w fun e w' => e = .returned (.tuple #[.int .u64 (0), .int .i64 0]) ∧ ∃ n, w' = w.drewN n := by
  have D := Lib.hid (div_neg32 a h0 h1 hne)
  go_enter Tryd.func74, Tryd.ntmps74
  go_wp2_with (go_at_call 72; (with_reducible refine (D.out _).mono ?_); rintro e w' ⟨rfl, n, rfl⟩)
  go_ret2
  exact ⟨rfl, n, rfl⟩

theorem c_resto32 (x : Nat) (w : World) (hx : w.cell? ⟨x, 0, none⟩ = some (.bool true)) : Calls Tryd.prog 74 #[.int .i64 32, .int .u64 2147483648, .int .u64 4294967295, .pointer (some ⟨x, 0, none⟩)] w fun e w' => e = .returned (.tuple #[.int .u64 0, .int .i64 0]) ∧ ∃ n, w' = w.drewN n := by
  have D := Lib.hid div_over32
  go_enter Tryd.func74, Tryd.ntmps74
  go_wp2_with (go_at_call 72; (with_reducible refine (D.out _).mono ?_); rintro e w' ⟨rfl, n, rfl⟩)
  go_ret2
  exact ⟨rfl, n, rfl⟩

theorem c_restu32 (a b : Int) (h0 : 0 ≤ a) (h1 : a < 4294967296) (g0 : 0 ≤ b) (g1 : b < 4294967296) (x : Nat) (w : World) (hb : 1 ≤ b) (hx : w.cell? ⟨x, 0, none⟩ = some (.bool false)) : Calls Tryd.prog 74 #[.int .i64 32, .int .u64 a, .int .u64 b, .pointer (some ⟨x, 0, none⟩)] w fun e w' => e = .returned (.tuple #[.int .u64 (a % b), .int .i64 0]) ∧ ∃ n, w' = w.drewN n := by
  have D := Lib.hid (div_u 32 a b h0 (by omega) hb (by omega))
  go_enter Tryd.func74, Tryd.ntmps74
  go_wp2_with (go_at_call 72; (with_reducible refine (D.out _).mono ?_); rintro e w' ⟨rfl, n, rfl⟩)
  go_ret2
  exact ⟨rfl, n, rfl⟩

theorem c_restz32 (a : Int) (t : Bool) (x : Nat) (w : World) (hx : w.cell? ⟨x, 0, none⟩ = some (.bool t)) : Calls Tryd.prog 74 #[.int .i64 32, .int .u64 a, .int .u64 0, .pointer (some ⟨x, 0, none⟩)] w fun e w' => e = .returned (.tuple #[.int .u64 0, .int .i64 30]) ∧ ∃ n, w' = w.drewN n := by
  have D := Lib.hid (div_0 32 a t)
  go_enter Tryd.func74, Tryd.ntmps74
  go_wp2_with (go_at_call 72; (with_reducible refine (D.out _).mono ?_); rintro e w' ⟨rfl, n, rfl⟩)
  go_ret2
  exact ⟨rfl, n, rfl⟩
end Go.Proofs.YtfcagbgnlibfpaaDoor.A
