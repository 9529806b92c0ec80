/- num, plain: the laws of and, or, xor on the plain words; as many ones are in both. No program in it. -/
import Derived.Test.YtfcagbgnlibfpaaDoorVShift
import Derived.Test.YtfcagbgnlibfpaaDoorVPop
namespace Go.Proofs.YtfcagbgnlibfpaaDoor.S
open Go.RowKit Go.Proofs.YtfcagbgnlibfpaaDoor.A
set_option linter.unusedVariables false
set_option linter.unusedSimpArgs false

theorem logic1 {W : Nat} (x y : Int) : sumI W 9 (sumI W 7 x y) (sumI W 1 0 1) = sumI W 8 (sumI W 9 x (sumI W 1 0 1)) (sumI W 9 y (sumI W 1 0 1)) := by
  rw [sumI_eq (i := 9) (by omega) (sumI W 7 x y), sumI_eq (i := 8) (by omega)]
  show toI (ofI W (sumI W 7 x y) ^^^ ofI W (sumI W 1 0 1)) = toI (ofI W (sumI W 9 x (sumI W 1 0 1)) ||| ofI W (sumI W 9 y (sumI W 1 0 1)))
  rw [not_of, not_of, ofI_neg, BitVec.xor_allOnes, ofI_sumI (by omega)]
  show toI (~~~ (ofI W x &&& ofI W y)) = _
  rw [BitVec.not_and]
theorem xor_sub {W : Nat} (x y : BitVec W) : x ^^^ y = (x ||| y) - (x &&& y) := by
  have h : (x ^^^ y) + (x &&& y) = (x ||| y) := by
    rw [BitVec.add_eq_or_of_and_eq_zero]
    · ext i hi
      simp
      cases x[i] <;> cases y[i] <;> simp
    · ext i hi
      simp
      cases x[i] <;> cases y[i] <;> simp
  rw [← h, BitVec.add_sub_cancel]
theorem logic2 {W : Nat} (x y : Int) : sumI W 9 x y = sumI W 1 (sumI W 8 x y) (sumI W 7 x y) := by
  rw [sumI_eq (i := 9) (by omega), sumI_eq (i := 1) (by omega), ofI_sumI (by omega), ofI_sumI (by omega)]
  exact congrArg toI (xor_sub (ofI W x) (ofI W y))
theorem pop_and_or (n x y : Nat) : Lib.popAux n x + Lib.popAux n y = Lib.popAux n (x &&& y) + Lib.popAux n (x ||| y) := by
  induction n generalizing x y with
  | zero => rfl
  | succ n ih =>
    have h := ih (x / 2) (y / 2)
    rw [Lib.popAux, Lib.popAux, Lib.popAux, Lib.popAux, Nat.and_div_two, Nat.or_div_two]
    have e1 : (x &&& y) % 2 = x % 2 &&& y % 2 := Nat.and_mod_two_pow (n := 1)
    have e2 : (x ||| y) % 2 = x % 2 ||| y % 2 := Nat.or_mod_two_pow (n := 1)
    rw [e1, e2]
    have hx : x % 2 < 2 := Nat.mod_lt _ (by omega)
    have hy : y % 2 < 2 := Nat.mod_lt _ (by omega)
    have e3 : x % 2 + y % 2 = (x % 2 &&& y % 2) + (x % 2 ||| y % 2) := by
      rcases (by omega : x % 2 = 0 ∨ x % 2 = 1) with a | a <;> rcases (by omega : y % 2 = 0 ∨ y % 2 = 1) with b | b <;> rw [a, b] <;> rfl
    omega
theorem xor_high (k a p : Nat) (ha : a < 2 ^ k) : (a + 2 ^ k * p) ^^^ 2 ^ k = a + 2 ^ k * (p ^^^ 1) := by
  apply Nat.eq_of_testBit_eq
  intro i
  have e : (2 : Nat) ^ k = 2 ^ k * 1 + 0 := by omega
  rw [Nat.testBit_xor, Nat.add_comm a, Nat.add_comm a, Nat.testBit_two_pow_mul_add _ ha, Nat.testBit_two_pow_mul_add _ ha]
  conv => lhs; rhs; rw [e]
  rw [Nat.testBit_two_pow_mul_add _ (Nat.two_pow_pos k)]
  split
  · simp
  · rw [Nat.testBit_xor]
theorem high32 : sumI 32 10 1 31 = 2147483648 := pw32 31 (by decide) (by decide)
theorem turn_high32 (x : Int) (h0 : 0 ≤ x) (h1 : x < 4294967296) : sumI 32 9 x 2147483648 = if x < 2147483648 then x + 2147483648 else x - 2147483648 := by
  rw [sumI_eq (by omega)]
  show toI (ofI 32 x ^^^ ofI 32 2147483648) = _
  unfold toI
  have e1 : (ofI 32 x).toNat = x.toNat := toNat_ofI x h0 (by simpa using h1)
  have e2 : (ofI 32 2147483648).toNat = 2147483648 := by decide
  rw [BitVec.toNat_xor, e1, e2]
  have X := xor_high 31
  simp only [Nat.reducePow] at X
  split
  · have := X x.toNat 0 (by omega)
    rw [Nat.mul_zero, Nat.add_zero] at this
    rw [this, show (0 ^^^ 1 : Nat) = 1 from rfl]
    omega
  · have := X (x.toNat - 2147483648) 1 (by omega)
    rw [Nat.mul_one, Nat.sub_add_cancel (by omega)] at this
    rw [this, show (1 ^^^ 1 : Nat) = 0 from rfl]
    omega
theorem logic4_32 (x y : Int) (h0 : 0 ≤ x) (h1 : x < 4294967296) (g0 : 0 ≤ y) (g1 : y < 4294967296) : askI 32 2 x y = askI 32 3 (sumI 32 9 x (sumI 32 10 1 31)) (sumI 32 9 y (sumI 32 10 1 31)) := by
  rw [high32, turn_high32 x h0 h1, turn_high32 y g0 g1, ask2_32 x y h0 h1 g0 g1]
  rw [ask3_32 _ _ (by split <;> omega) (by split <;> omega) (by split <;> omega) (by split <;> omega)]
  congr 1
  rw [decide_eq_decide]
  unfold sg32
  split <;> split <;> omega
theorem high64 : sumI 64 10 1 63 = 9223372036854775808 := pw64 63 (by decide) (by decide)
theorem turn_high64 (x : Int) (h0 : 0 ≤ x) (h1 : x < 18446744073709551616) : sumI 64 9 x 9223372036854775808 = if x < 9223372036854775808 then x + 9223372036854775808 else x - 9223372036854775808 := by
  rw [sumI_eq (by omega)]
  show toI (ofI 64 x ^^^ ofI 64 9223372036854775808) = _
  unfold toI
  have e1 : (ofI 64 x).toNat = x.toNat := toNat_ofI x h0 (by simpa using h1)
  have e2 : (ofI 64 9223372036854775808).toNat = 9223372036854775808 := by decide
  rw [BitVec.toNat_xor, e1, e2]
  have X := xor_high 63
  simp only [Nat.reducePow] at X
  split
  · have := X x.toNat 0 (by omega)
    rw [Nat.mul_zero, Nat.add_zero] at this
    rw [this, show (0 ^^^ 1 : Nat) = 1 from rfl]
    omega
  · have := X (x.toNat - 9223372036854775808) 1 (by omega)
    rw [Nat.mul_one, Nat.sub_add_cancel (by omega)] at this
    rw [this, show (1 ^^^ 1 : Nat) = 0 from rfl]
    omega
theorem logic4_64 (x y : Int) (h0 : 0 ≤ x) (h1 : x < 18446744073709551616) (g0 : 0 ≤ y) (g1 : y < 18446744073709551616) : askI 64 2 x y = askI 64 3 (sumI 64 9 x (sumI 64 10 1 63)) (sumI 64 9 y (sumI 64 10 1 63)) := by
  rw [high64, turn_high64 x h0 h1, turn_high64 y g0 g1, ask2_64 x y h0 h1 g0 g1]
  rw [ask3_64 _ _ (by split <;> omega) (by split <;> omega) (by split <;> omega) (by split <;> omega)]
  congr 1
  rw [decide_eq_decide]
  unfold sg64
  split <;> split <;> omega
end Go.Proofs.YtfcagbgnlibfpaaDoor.S
