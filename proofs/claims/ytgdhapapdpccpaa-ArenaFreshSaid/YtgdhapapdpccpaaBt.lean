/- arena: the bits of a block's head. -/
import Derived.Test.YtgdhapapdpccpaaG
import Derived.Laws.BitsAllLaws
namespace Go.Proofs.Ytgdhapapdpccpaa.A
open Go.RowKit Go.Proofs
set_option linter.unusedVariables false
set_option linter.unusedSimpArgs false

theorem and1 (h : Int) (h0 : 0 ≤ h) (h1 : h < 18446744073709551616) : bits .and .u64 h 1 = h % 2 := by
  rw [u64_and h 1 h0 h1 (by decide) (by decide), show (1 : Int).toNat = 1 from rfl, Nat.and_one_is_mod]
  omega
theorem and3 (h : Int) (h0 : 0 ≤ h) (h1 : h < 18446744073709551616) : bits .and .u64 h 3 = h % 4 := by
  rw [u64_and h 3 h0 h1 (by decide) (by decide), show (3 : Int).toNat = 2 ^ 2 - 1 from rfl, Nat.and_two_pow_sub_one_eq_mod]
  omega
theorem and2n (n : Nat) : n &&& 2 = (n / 2 % 2) * 2 := by
  apply Nat.eq_of_testBit_eq
  intro i
  rw [Nat.testBit_and]
  match i with
  | 0 => simp [Nat.testBit_zero]
  | 1 =>
    rw [Nat.testBit_succ n, Nat.testBit_succ 2, Nat.testBit_succ (_ * 2), Nat.mul_div_cancel _ (by decide)]
    simp [Nat.testBit_zero]
  | k + 2 =>
    rw [Nat.testBit_succ 2, Nat.testBit_succ (2 / 2), Nat.testBit_succ (_ * 2), Nat.mul_div_cancel _ (by decide), Nat.testBit_succ (n / 2 % 2)]
    have : n / 2 % 2 / 2 = 0 := by omega
    rw [this]
    simp
theorem and2 (h : Int) (h0 : 0 ≤ h) (h1 : h < 18446744073709551616) : bits .and .u64 h 2 = (h / 2 % 2) * 2 := by
  rw [u64_and h 2 h0 h1 (by decide) (by decide), show (2 : Int).toNat = 2 from rfl, and2n]
  omega
theorem or2 (s : Nat) (hs : (s : Int) < 4611686018427387904) : bits .or .u64 (s * 4 + 1) 2 = s * 4 + 3 := by
  rw [u64_or _ 2 (by omega) (by omega) (by decide) (by decide), show ((s : Int) * 4 + 1).toNat = s <<< 2 + 1 by rw [Nat.shiftLeft_eq]; omega, show (2 : Int).toNat = 2 from rfl,
    Nat.shiftLeft_add_eq_or_of_lt (by decide : 1 < 2 ^ 2), Nat.or_assoc, show (1 : Nat) ||| 2 = 3 from rfl, ← Nat.shiftLeft_add_eq_or_of_lt (by decide : 3 < 2 ^ 2), Nat.shiftLeft_eq]
  omega
theorem andNot2 (s : Nat) (hs : (s : Int) < 4611686018427387904) : bits .andNot .u64 (s * 4 + 3) 2 = s * 4 + 1 := by
  rw [u64_andNot _ 2 (by omega) (by omega) (by decide) (by decide), show ((s : Int) * 4 + 3).toNat = s * 4 + 3 by omega, show (18446744073709551615 - (2 : Int).toNat) = 2 ^ 64 - (2 + 1) from rfl]
  have : (s * 4 + 3) &&& (2 ^ 64 - (2 + 1)) = s * 4 + 1 := by
    apply Nat.eq_of_testBit_eq
    intro i
    rw [Nat.testBit_and, Nat.testBit_two_pow_sub_succ (by decide)]
    match i with
    | 0 => simp [Nat.testBit_zero]; omega
    | 1 =>
      rw [Nat.testBit_succ (s * 4 + 3), Nat.testBit_succ (s * 4 + 1), Nat.testBit_succ 2, show (s * 4 + 3) / 2 = s * 2 + 1 by omega, show (s * 4 + 1) / 2 = s * 2 by omega, Nat.testBit_zero, Nat.testBit_zero, Nat.testBit_zero]
      simp
    | k + 2 =>
      rw [Nat.testBit_succ, Nat.testBit_succ, Nat.testBit_succ (s * 4 + 1), Nat.testBit_succ _ k, show (s * 4 + 3) / 2 / 2 = s by omega, show (s * 4 + 1) / 2 / 2 = s by omega, Nat.testBit_succ, Nat.testBit_succ]
      by_cases hk : s.testBit k = true
      · have : k < 62 := by
          apply Classical.byContradiction
          intro hn
          have h2 : s < 2 ^ k := Nat.lt_of_lt_of_le (show s < 2 ^ 62 by omega) (Nat.pow_le_pow_right (by decide) (by omega))
          rw [Nat.testBit_lt_two_pow h2] at hk
          cases hk
        rw [hk, decide_eq_true (by omega)]
        simp
      · rw [Bool.eq_false_iff.2 hk]; simp
  rw [this]
  omega
end Go.Proofs.Ytgdhapapdpccpaa.A
