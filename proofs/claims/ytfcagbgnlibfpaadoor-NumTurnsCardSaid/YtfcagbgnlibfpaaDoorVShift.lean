/- num, plain: the laws of shifts on the plain words. No program in it. -/
import Derived.Test.YtfcagbgnlibfpaaDoorV
namespace Go.Proofs.YtfcagbgnlibfpaaDoor.S
open Go.RowKit Go.Proofs.YtfcagbgnlibfpaaDoor.A
set_option linter.unusedVariables false
set_option linter.unusedSimpArgs false

theorem sh_any {W : Nat} (i : Nat) (hi : i = 0 ∨ i = 1 ∨ i = 2 ∨ 6 < i) (a b : Int) : sumI W i a b = toI (sumB W i (ofI W a) (ofI W b)) := sumI_eq (by omega) a b
/-- The greatest number is minus one. -/
theorem ofI_neg {W : Nat} : ofI W (sumI W 1 0 1) = BitVec.allOnes W := by
  rw [ofI_sumI (by omega)]
  show ofI W 0 - ofI W 1 = _
  rw [show ofI W 0 = 0#W by simp [ofI], show ofI W 1 = 1#W by simp [ofI], BitVec.zero_sub, BitVec.neg_one_eq_allOnes]
theorem not_of {W : Nat} (x : Int) : ofI W (sumI W 9 x (sumI W 1 0 1)) = ~~~ (ofI W x) := by
  rw [ofI_sumI (by omega)]
  show ofI W x ^^^ ofI W (sumI W 1 0 1) = _
  rw [ofI_neg, BitVec.xor_allOnes]
theorem ask_neg {W : Nat} (x : Int) : askI W 2 x 0 = if (ofI W x).msb then 1 else 0 := by
  unfold askI
  show (if (ofI W x).slt (ofI W 0) = true then (1 : Int) else 0) = _
  rw [show ofI W 0 = 0#W by simp [ofI], BitVec.slt_zero_eq_msb]
theorem shs_neg {W : Nat} (x b : Int) (h : (ofI W x).msb = true) : sumI W 11 x b = sumI W 9 (sumI W 12 (sumI W 9 x (sumI W 1 0 1)) b) (sumI W 1 0 1) := by
  rw [sumI_eq (by omega) x b, sumI_eq (i := 9) (by omega)]
  show toI ((ofI W x).sshiftRight _) = toI (ofI W (sumI W 12 (sumI W 9 x (sumI W 1 0 1)) b) ^^^ ofI W (sumI W 1 0 1))
  rw [ofI_neg, BitVec.xor_allOnes, ofI_sumI (by omega), BitVec.sshiftRight_eq_of_msb_true h]
  show _ = toI (~~~ (ofI W (sumI W 9 x (sumI W 1 0 1)) >>> _))
  rw [not_of]
theorem shs_pos {W : Nat} (x b : Int) (h : (ofI W x).msb = false) : sumI W 11 x b = sumI W 12 x b := by
  rw [sumI_eq (by omega) x b, sumI_eq (by omega) x b]
  show toI ((ofI W x).sshiftRight _) = toI (ofI W x >>> _)
  rw [BitVec.sshiftRight_eq_of_msb_false h]

theorem pow_lt32 (k : Nat) (h : k < 32) : (1 : Int) ≤ 2 ^ k ∧ (2 : Int) ^ k < 4294967296 := by
  have h1 : (2 : Int) ^ k < 2 ^ 32 := Int.pow_lt_pow_of_lt (by omega) h
  have h2 : (0 : Int) < 2 ^ k := Int.pow_pos (by omega)
  exact ⟨h2, by simpa using h1⟩
theorem pw32 (b : Int) (h0 : 0 ≤ b) (h1 : b < 4294967296) : sumI 32 10 1 (b % 32) = 2 ^ (b % 32).toNat := by
  rw [sum10_32 1 (b % 32) (by omega) (by omega) (by omega) (by omega), IntKind.wrap_u64, show b % 32 % 32 = b % 32 by omega]
  have P := pow_lt32 (b % 32).toNat (by omega)
  rw [Int.one_mul]
  generalize (2 : Int) ^ (b % 32).toNat = p at *
  omega
theorem shift1_32 (x b : Int) (h0 : 0 ≤ x) (h1 : x < 4294967296) (g0 : 0 ≤ b) (g1 : b < 4294967296) : sumI 32 10 x b = sumI 32 2 x (sumI 32 10 1 (b % 32)) := by
  rw [pw32 b g0 g1, sum10_32 x b h0 h1 g0 g1, sum2_32]
theorem shift2_32 (x b : Int) (h0 : 0 ≤ x) (h1 : x < 4294967296) (g0 : 0 ≤ b) (g1 : b < 4294967296) : sumI 32 12 x b = sumI 32 4 x (sumI 32 10 1 (b % 32)) := by
  have P := pow_lt32 (b % 32).toNat (by omega)
  have E := pw32 b g0 g1
  rw [E, sum12_32 x b h0 h1 g0 g1]
  generalize (2 : Int) ^ (b % 32).toNat = p at *
  rw [(div_u32 x p h0 h1 (by omega) (by omega) (by omega)).2.1]
  exact Int.emod_eq_of_lt (Int.ediv_nonneg h0 (by omega)) (Int.lt_of_le_of_lt (Int.ediv_le_self p h0) h1)
theorem shift3_32 (x b : Int) (h0 : 0 ≤ x) (h1 : x < 4294967296) (g0 : 0 ≤ b) (g1 : b < 4294967296) : sumI 32 0 (sumI 32 10 (sumI 32 12 x b) (b % 32)) (sumI 32 6 x (sumI 32 10 1 (b % 32))) = x := by
  rw [shift2_32 x b h0 h1 g0 g1]
  have E := pw32 b g0 g1
  have P := pow_lt32 (b % 32).toNat (by omega)
  have Q := shift1_32 (sumI 32 4 x (sumI 32 10 1 (b % 32))) (b % 32) (sum32_bd _ _ _).1 (sum32_bd _ _ _).2 (by omega) (by omega)
  rw [show b % 32 % 32 = b % 32 by omega] at Q
  rw [Q, E]
  generalize (2 : Int) ^ (b % 32).toNat = p at *
  exact quo_u32 x p h0 h1 (by omega) (by omega)

theorem pow_lt64 (k : Nat) (h : k < 64) : (1 : Int) ≤ 2 ^ k ∧ (2 : Int) ^ k < 18446744073709551616 := by
  have h1 : (2 : Int) ^ k < 2 ^ 64 := Int.pow_lt_pow_of_lt (by omega) h
  have h2 : (0 : Int) < 2 ^ k := Int.pow_pos (by omega)
  exact ⟨h2, by simpa using h1⟩
theorem pw64 (b : Int) (h0 : 0 ≤ b) (h1 : b < 18446744073709551616) : sumI 64 10 1 (b % 64) = 2 ^ (b % 64).toNat := by
  rw [sum10_64 1 (b % 64) (by omega) (by omega) (by omega) (by omega), IntKind.wrap_u64, show b % 64 % 64 = b % 64 by omega]
  have P := pow_lt64 (b % 64).toNat (by omega)
  rw [Int.one_mul]
  generalize (2 : Int) ^ (b % 64).toNat = p at *
  omega
theorem shift1_64 (x b : Int) (h0 : 0 ≤ x) (h1 : x < 18446744073709551616) (g0 : 0 ≤ b) (g1 : b < 18446744073709551616) : sumI 64 10 x b = sumI 64 2 x (sumI 64 10 1 (b % 64)) := by
  rw [pw64 b g0 g1, sum10_64 x b h0 h1 g0 g1, sum2_64]
theorem shift2_64 (x b : Int) (h0 : 0 ≤ x) (h1 : x < 18446744073709551616) (g0 : 0 ≤ b) (g1 : b < 18446744073709551616) : sumI 64 12 x b = sumI 64 4 x (sumI 64 10 1 (b % 64)) := by
  have P := pow_lt64 (b % 64).toNat (by omega)
  have E := pw64 b g0 g1
  rw [E, sum12_64 x b h0 h1 g0 g1]
  generalize (2 : Int) ^ (b % 64).toNat = p at *
  rw [(div_u64 x p h0 h1 (by omega) (by omega) (by omega)).2.1]
  exact Int.emod_eq_of_lt (Int.ediv_nonneg h0 (by omega)) (Int.lt_of_le_of_lt (Int.ediv_le_self p h0) h1)
theorem shift3_64 (x b : Int) (h0 : 0 ≤ x) (h1 : x < 18446744073709551616) (g0 : 0 ≤ b) (g1 : b < 18446744073709551616) : sumI 64 0 (sumI 64 10 (sumI 64 12 x b) (b % 64)) (sumI 64 6 x (sumI 64 10 1 (b % 64))) = x := by
  rw [shift2_64 x b h0 h1 g0 g1]
  have E := pw64 b g0 g1
  have P := pow_lt64 (b % 64).toNat (by omega)
  have Q := shift1_64 (sumI 64 4 x (sumI 64 10 1 (b % 64))) (b % 64) (sum64_bd _ _ _).1 (sum64_bd _ _ _).2 (by omega) (by omega)
  rw [show b % 64 % 64 = b % 64 by omega] at Q
  rw [Q, E]
  generalize (2 : Int) ^ (b % 64).toNat = p at *
  exact quo_u64 x p h0 h1 (by omega) (by omega)
end Go.Proofs.YtfcagbgnlibfpaaDoor.S
