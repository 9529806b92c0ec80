/- num: contracts of the functions of two numbers, as the closures that 'twos' makes: what each returns; they only read. -/
import Derived.Test.YtfcagbgnlibfpaaDoorB
namespace Go.Proofs.YtfcagbgnlibfpaaDoor.A
open Go.ChangeShapes Go.WideShapes Go.ChangeAt Go.RowKit
set_option linter.unusedVariables false
set_option linter.unusedSimpArgs false

theorem lowm64 (x : Int) (h0 : 0 ≤ x) (h1 : x < 18446744073709551616) (w : World) : Calls Tryd.prog 47 #[.int .i64 64, .int .u64 x] w fun e w' => e = .returned (.int .u64 (x % 18446744073709551616)) ∧ w' = w := by
  rw [Int.emod_eq_of_lt h0 h1]; exact low64 x h0 h1 w
theorem lowm32 (x : Int) (h0 : 0 ≤ x) (h1 : x < 18446744073709551616) (w : World) : Calls Tryd.prog 47 #[.int .i64 32, .int .u64 x] w fun e w' => e = .returned (.int .u64 (x % 4294967296)) ∧ w' = w := low32 x h0 h1 w
theorem wrap_bd (z : Int) : 0 ≤ IntKind.u64.wrap z ∧ IntKind.u64.wrap z < 18446744073709551616 := by rw [IntKind.wrap_u64]; omega
theorem and_bd (a b : Int) : 0 ≤ bits .and .u64 a b ∧ bits .and .u64 a b < 18446744073709551616 := wrap_bd _
theorem or_bd (a b : Int) : 0 ≤ bits .or .u64 a b ∧ bits .or .u64 a b < 18446744073709551616 := wrap_bd _
theorem xor_bd (a b : Int) : 0 ≤ bits .xor .u64 a b ∧ bits .xor .u64 a b < 18446744073709551616 := wrap_bd _
theorem div_bd (a M : Int) (n : Nat) (h0 : 0 ≤ a) (h1 : a < M) : 0 ≤ a / 2 ^ n ∧ a / 2 ^ n < M := by
  have hp : (0 : Int) < 2 ^ n := Int.pow_pos (by omega)
  refine ⟨Int.ediv_nonneg h0 (by omega), ?_⟩
  have := Int.ediv_le_self (2 ^ n) h0
  omega


theorem t_add64 (a b : Int) (h0 : 0 ≤ a) (h1 : a < 18446744073709551616) (g0 : 0 ≤ b) (g1 : b < 18446744073709551616) (w : World) : Calls Tryd.prog 77 #[.int .i64 64, .int .u64 a, .int .u64 b] w fun e w' => e = .returned (.int .u64 (IntKind.u64.wrap (a + b))) ∧ ∃ n, w' = w.drewN n := by
  go_enter Tryd.func77, Tryd.ntmps77
  go_wp2
  go_ret
  exact ⟨rfl, 0, rfl⟩

theorem t_sub64 (a b : Int) (h0 : 0 ≤ a) (h1 : a < 18446744073709551616) (g0 : 0 ≤ b) (g1 : b < 18446744073709551616) (w : World) : Calls Tryd.prog 78 #[.int .i64 64, .int .u64 a, .int .u64 b] w fun e w' => e = .returned (.int .u64 (IntKind.u64.wrap (a - b))) ∧ ∃ n, w' = w.drewN n := by
  go_enter Tryd.func78, Tryd.ntmps78
  go_wp2
  go_ret
  exact ⟨rfl, 0, rfl⟩

theorem t_mul64 (a b : Int) (h0 : 0 ≤ a) (h1 : a < 18446744073709551616) (g0 : 0 ≤ b) (g1 : b < 18446744073709551616) (w : World) : Calls Tryd.prog 79 #[.int .i64 64, .int .u64 a, .int .u64 b] w fun e w' => e = .returned (.int .u64 (IntKind.u64.wrap (a * b))) ∧ ∃ n, w' = w.drewN n := by
  go_enter Tryd.func79, Tryd.ntmps79
  go_wp2
  go_ret
  exact ⟨rfl, 0, rfl⟩

theorem t_and64 (a b : Int) (h0 : 0 ≤ a) (h1 : a < 18446744073709551616) (g0 : 0 ≤ b) (g1 : b < 18446744073709551616) (w : World) : Calls Tryd.prog 80 #[.int .i64 64, .int .u64 a, .int .u64 b] w fun e w' => e = .returned (.int .u64 (bits .and .u64 a b)) ∧ ∃ n, w' = w.drewN n := by
  go_enter Tryd.func80, Tryd.ntmps80
  go_wp2
  go_ret
  exact ⟨rfl, 0, rfl⟩

theorem t_or64 (a b : Int) (h0 : 0 ≤ a) (h1 : a < 18446744073709551616) (g0 : 0 ≤ b) (g1 : b < 18446744073709551616) (w : World) : Calls Tryd.prog 81 #[.int .i64 64, .int .u64 a, .int .u64 b] w fun e w' => e = .returned (.int .u64 (bits .or .u64 a b)) ∧ ∃ n, w' = w.drewN n := by
  go_enter Tryd.func81, Tryd.ntmps81
  go_wp2
  go_ret
  exact ⟨rfl, 0, rfl⟩

theorem t_xor64 (a b : Int) (h0 : 0 ≤ a) (h1 : a < 18446744073709551616) (g0 : 0 ≤ b) (g1 : b < 18446744073709551616) (w : World) : Calls Tryd.prog 82 #[.int .i64 64, .int .u64 a, .int .u64 b] w fun e w' => e = .returned (.int .u64 (bits .xor .u64 a b)) ∧ ∃ n, w' = w.drewN n := by
  go_enter Tryd.func82, Tryd.ntmps82
  go_wp2
  go_ret
  exact ⟨rfl, 0, rfl⟩

theorem t_shl64 (a b : Int) (h0 : 0 ≤ a) (h1 : a < 18446744073709551616) (g0 : 0 ≤ b) (g1 : b < 18446744073709551616) (w : World) : Calls Tryd.prog 83 #[.int .i64 64, .int .u64 a, .int .u64 b] w fun e w' => e = .returned (.int .u64 (IntKind.u64.wrap (a * 2 ^ (b % 64).toNat))) ∧ ∃ n, w' = w.drewN n := by
  go_enter Tryd.func83, Tryd.ntmps83
  go_wp2
  go_ret
  exact ⟨rfl, 0, rfl⟩

theorem t_shrs64 (a b : Int) (h0 : 0 ≤ a) (h1 : a < 18446744073709551616) (g0 : 0 ≤ b) (g1 : b < 18446744073709551616) (w : World) : Calls Tryd.prog 84 #[.int .i64 64, .int .u64 a, .int .u64 b] w fun e w' => e = .returned (.int .u64 (IntKind.u64.wrap (sg64 a / 2 ^ (b % 64).toNat))) ∧ ∃ n, w' = w.drewN n := by
  go_enter Tryd.func84, Tryd.ntmps84
  go_wp2
  go_quiet ((go_at_call 85; exact Calls.quiet_of_same (signed64 a h0 h1 _)))
  go_wp2
  go_ret
  exact ⟨rfl, _, rfl⟩

theorem t_shru64 (a b : Int) (h0 : 0 ≤ a) (h1 : a < 18446744073709551616) (g0 : 0 ≤ b) (g1 : b < 18446744073709551616) (w : World) : Calls Tryd.prog 86 #[.int .i64 64, .int .u64 a, .int .u64 b] w fun e w' => e = .returned (.int .u64 (a / 2 ^ (b % 64).toNat)) ∧ ∃ n, w' = w.drewN n := by
  go_enter Tryd.func86, Tryd.ntmps86
  go_wp2
  go_ret
  exact ⟨rfl, 0, rfl⟩

theorem t_turn64 (a n : Int) (h0 : 0 ≤ a) (h1 : a < 18446744073709551616) (g0 : 0 ≤ n) (g1 : n < 64) (w : World) : Calls Tryd.prog 75 #[.int .i64 64, .int .u64 a, .int .u64 n] w fun e w' => e = .returned (.int .u64 (bits .or .u64 (IntKind.u64.wrap (a * 2 ^ (n).toNat)) (a / 2 ^ (64 - n).toNat))) ∧ w' = w := by
  go_enter Tryd.func75, Tryd.ntmps75
  go_wp2_with (go_at_call 47; refine (low64 a h0 (by omega) _).mono ?_; rintro e w' ⟨rfl, rfl⟩)
  go_ret
  exact ⟨ret_int (by first | rfl | (rw [Int.emod_eq_of_lt h0 h1])), rfl⟩

theorem t_rotl64 (a b : Int) (h0 : 0 ≤ a) (h1 : a < 18446744073709551616) (g0 : 0 ≤ b) (g1 : b < 18446744073709551616) (x : Nat) (w : World) (hx : w.cell? ⟨x, 0, none⟩ = some (.func (.func 75) #[] #[])) : Calls Tryd.prog 87 #[.int .i64 64, .int .u64 a, .int .u64 b, .pointer (some ⟨x, 0, none⟩)] w fun e w' => e = .returned (.int .u64 (bits .or .u64 (IntKind.u64.wrap (a * 2 ^ ((b % 64)).toNat)) (a / 2 ^ (64 - (b % 64)).toNat))) ∧ ∃ n, w' = w.drewN n := by
  have c1 : 0 ≤ (b % 64) := by omega
  have c2 : (b % 64) < 64 := by omega
  go_enter Tryd.func87, Tryd.ntmps87
  go_wp2
  go_quiet ((go_at_call 75; exact Calls.quiet_of_same (t_turn64 a (b % 64) h0 h1 c1 c2 _)))
  go_wp2
  go_ret
  exact ⟨rfl, _, rfl⟩

theorem t_rotr64 (a b : Int) (h0 : 0 ≤ a) (h1 : a < 18446744073709551616) (g0 : 0 ≤ b) (g1 : b < 18446744073709551616) (x : Nat) (w : World) (hx : w.cell? ⟨x, 0, none⟩ = some (.func (.func 75) #[] #[])) : Calls Tryd.prog 88 #[.int .i64 64, .int .u64 a, .int .u64 b, .pointer (some ⟨x, 0, none⟩)] w fun e w' => e = .returned (.int .u64 (bits .or .u64 (IntKind.u64.wrap (a * 2 ^ ((-(b % 64) % 64)).toNat)) (a / 2 ^ (64 - (-(b % 64) % 64)).toNat))) ∧ ∃ n, w' = w.drewN n := by
  have c1 : 0 ≤ (-(b % 64) % 64) := by omega
  have c2 : (-(b % 64) % 64) < 64 := by omega
  go_enter Tryd.func88, Tryd.ntmps88
  go_wp2
  go_quiet ((go_at_call 75; exact Calls.quiet_of_same (t_turn64 a (-(b % 64) % 64) h0 h1 c1 c2 _)))
  go_wp2
  go_ret
  exact ⟨rfl, _, rfl⟩

theorem t_add32 (a b : Int) (h0 : 0 ≤ a) (h1 : a < 4294967296) (g0 : 0 ≤ b) (g1 : b < 4294967296) (w : World) : Calls Tryd.prog 77 #[.int .i64 32, .int .u64 a, .int .u64 b] w fun e w' => e = .returned (.int .u64 ((a + b))) ∧ ∃ n, w' = w.drewN n := by
  go_enter Tryd.func77, Tryd.ntmps77
  go_wp2
  go_ret
  exact ⟨rfl, 0, rfl⟩

theorem t_sub32 (a b : Int) (h0 : 0 ≤ a) (h1 : a < 4294967296) (g0 : 0 ≤ b) (g1 : b < 4294967296) (w : World) : Calls Tryd.prog 78 #[.int .i64 32, .int .u64 a, .int .u64 b] w fun e w' => e = .returned (.int .u64 (IntKind.u64.wrap (a - b))) ∧ ∃ n, w' = w.drewN n := by
  go_enter Tryd.func78, Tryd.ntmps78
  go_wp2
  go_ret
  exact ⟨rfl, 0, rfl⟩

theorem t_mul32 (a b : Int) (h0 : 0 ≤ a) (h1 : a < 4294967296) (g0 : 0 ≤ b) (g1 : b < 4294967296) (w : World) : Calls Tryd.prog 79 #[.int .i64 32, .int .u64 a, .int .u64 b] w fun e w' => e = .returned (.int .u64 (IntKind.u64.wrap (a * b))) ∧ ∃ n, w' = w.drewN n := by
  go_enter Tryd.func79, Tryd.ntmps79
  go_wp2
  go_ret
  exact ⟨rfl, 0, rfl⟩

theorem t_and32 (a b : Int) (h0 : 0 ≤ a) (h1 : a < 4294967296) (g0 : 0 ≤ b) (g1 : b < 4294967296) (w : World) : Calls Tryd.prog 80 #[.int .i64 32, .int .u64 a, .int .u64 b] w fun e w' => e = .returned (.int .u64 (bits .and .u64 a b)) ∧ ∃ n, w' = w.drewN n := by
  go_enter Tryd.func80, Tryd.ntmps80
  go_wp2
  go_ret
  exact ⟨rfl, 0, rfl⟩

theorem t_or32 (a b : Int) (h0 : 0 ≤ a) (h1 : a < 4294967296) (g0 : 0 ≤ b) (g1 : b < 4294967296) (w : World) : Calls Tryd.prog 81 #[.int .i64 32, .int .u64 a, .int .u64 b] w fun e w' => e = .returned (.int .u64 (bits .or .u64 a b)) ∧ ∃ n, w' = w.drewN n := by
  go_enter Tryd.func81, Tryd.ntmps81
  go_wp2
  go_ret
  exact ⟨rfl, 0, rfl⟩

theorem t_xor32 (a b : Int) (h0 : 0 ≤ a) (h1 : a < 4294967296) (g0 : 0 ≤ b) (g1 : b < 4294967296) (w : World) : Calls Tryd.prog 82 #[.int .i64 32, .int .u64 a, .int .u64 b] w fun e w' => e = .returned (.int .u64 (bits .xor .u64 a b)) ∧ ∃ n, w' = w.drewN n := by
  go_enter Tryd.func82, Tryd.ntmps82
  go_wp2
  go_ret
  exact ⟨rfl, 0, rfl⟩

theorem t_shl32 (a b : Int) (h0 : 0 ≤ a) (h1 : a < 4294967296) (g0 : 0 ≤ b) (g1 : b < 4294967296) (w : World) : Calls Tryd.prog 83 #[.int .i64 32, .int .u64 a, .int .u64 b] w fun e w' => e = .returned (.int .u64 (IntKind.u64.wrap (a * 2 ^ (b % 32).toNat))) ∧ ∃ n, w' = w.drewN n := by
  go_enter Tryd.func83, Tryd.ntmps83
  go_wp2
  go_ret
  exact ⟨rfl, 0, rfl⟩

theorem t_shrs32 (a b : Int) (h0 : 0 ≤ a) (h1 : a < 4294967296) (g0 : 0 ≤ b) (g1 : b < 4294967296) (w : World) : Calls Tryd.prog 84 #[.int .i64 32, .int .u64 a, .int .u64 b] w fun e w' => e = .returned (.int .u64 (IntKind.u64.wrap (sg32 a / 2 ^ (b % 32).toNat))) ∧ ∃ n, w' = w.drewN n := by
  go_enter Tryd.func84, Tryd.ntmps84
  go_wp2
  go_quiet ((go_at_call 85; exact Calls.quiet_of_same (signed32 a h0 h1 _)))
  go_wp2
  go_ret
  exact ⟨rfl, _, rfl⟩

theorem t_shru32 (a b : Int) (h0 : 0 ≤ a) (h1 : a < 4294967296) (g0 : 0 ≤ b) (g1 : b < 4294967296) (w : World) : Calls Tryd.prog 86 #[.int .i64 32, .int .u64 a, .int .u64 b] w fun e w' => e = .returned (.int .u64 (a / 2 ^ (b % 32).toNat)) ∧ ∃ n, w' = w.drewN n := by
  go_enter Tryd.func86, Tryd.ntmps86
  go_wp2
  go_ret
  exact ⟨rfl, 0, rfl⟩

theorem t_turn32 (a n : Int) (h0 : 0 ≤ a) (h1 : a < 4294967296) (g0 : 0 ≤ n) (g1 : n < 32) (w : World) : Calls Tryd.prog 75 #[.int .i64 32, .int .u64 a, .int .u64 n] w fun e w' => e = .returned (.int .u64 (bits .or .u64 (IntKind.u64.wrap (a * 2 ^ (n).toNat)) (a / 2 ^ (32 - n).toNat))) ∧ w' = w := by
  go_enter Tryd.func75, Tryd.ntmps75
  go_wp2_with (go_at_call 47; refine (low32 a h0 (by omega) _).mono ?_; rintro e w' ⟨rfl, rfl⟩)
  go_ret
  exact ⟨ret_int (by first | rfl | (rw [Int.emod_eq_of_lt h0 h1])), rfl⟩

theorem t_rotl32 (a b : Int) (h0 : 0 ≤ a) (h1 : a < 4294967296) (g0 : 0 ≤ b) (g1 : b < 4294967296) (x : Nat) (w : World) (hx : w.cell? ⟨x, 0, none⟩ = some (.func (.func 75) #[] #[])) : Calls Tryd.prog 87 #[.int .i64 32, .int .u64 a, .int .u64 b, .pointer (some ⟨x, 0, none⟩)] w fun e w' => e = .returned (.int .u64 (bits .or .u64 (IntKind.u64.wrap (a * 2 ^ ((b % 32)).toNat)) (a / 2 ^ (32 - (b % 32)).toNat))) ∧ ∃ n, w' = w.drewN n := by
  have c1 : 0 ≤ (b % 32) := by omega
  have c2 : (b % 32) < 32 := by omega
  go_enter Tryd.func87, Tryd.ntmps87
  go_wp2
  go_quiet ((go_at_call 75; exact Calls.quiet_of_same (t_turn32 a (b % 32) h0 h1 c1 c2 _)))
  go_wp2
  go_ret
  exact ⟨rfl, _, rfl⟩

theorem t_rotr32 (a b : Int) (h0 : 0 ≤ a) (h1 : a < 4294967296) (g0 : 0 ≤ b) (g1 : b < 4294967296) (x : Nat) (w : World) (hx : w.cell? ⟨x, 0, none⟩ = some (.func (.func 75) #[] #[])) : Calls Tryd.prog 88 #[.int .i64 32, .int .u64 a, .int .u64 b, .pointer (some ⟨x, 0, none⟩)] w fun e w' => e = .returned (.int .u64 (bits .or .u64 (IntKind.u64.wrap (a * 2 ^ ((-(b % 32) % 32)).toNat)) (a / 2 ^ (32 - (-(b % 32) % 32)).toNat))) ∧ ∃ n, w' = w.drewN n := by
  have c1 : 0 ≤ (-(b % 32) % 32) := by omega
  have c2 : (-(b % 32) % 32) < 32 := by omega
  go_enter Tryd.func88, Tryd.ntmps88
  go_wp2
  go_quiet ((go_at_call 75; exact Calls.quiet_of_same (t_turn32 a (-(b % 32) % 32) h0 h1 c1 c2 _)))
  go_wp2
  go_ret
  exact ⟨rfl, _, rfl⟩
end Go.Proofs.YtfcagbgnlibfpaaDoor.A
