/- num, plain: the laws of sums, products and quotients on the plain words. No program in it. -/
import Derived.Test.YtfcagbgnlibfpaaDoorU
namespace Go.Proofs.YtfcagbgnlibfpaaDoor.S
open Go.RowKit Go.Proofs.YtfcagbgnlibfpaaDoor.A
set_option linter.unusedVariables false
set_option linter.unusedSimpArgs false

theorem sumI_eq {W i : Nat} (h : i < 3 ∨ 6 < i) (a b : Int) : sumI W i a b = toI (sumB W i (ofI W a) (ofI W b)) := sum_of h rfl
theorem ofI_sumI {W i : Nat} (h : i < 3 ∨ 6 < i) (a b : Int) : ofI W (sumI W i a b) = sumB W i (ofI W a) (ofI W b) := by rw [sumI_eq h, ofI_toI]
theorem sumI_bd (W i : Nat) (a b : Int) : 0 ≤ sumI W i a b ∧ sumI W i a b < 2 ^ W := by
  unfold sumI
  split
  · exact toI_bd _
  · exact ⟨Int.le_refl _, Int.pow_pos (by omega)⟩
theorem sum64_bd (i : Nat) (a b : Int) : 0 ≤ sumI 64 i a b ∧ sumI 64 i a b < 18446744073709551616 := sumI_bd 64 i a b
theorem sum32_bd (i : Nat) (a b : Int) : 0 ≤ sumI 32 i a b ∧ sumI 32 i a b < 4294967296 := sumI_bd 32 i a b
theorem askI_bd (W i : Nat) (a b : Int) : 0 ≤ askI W i a b ∧ askI W i a b ≤ 1 := by unfold askI; split <;> omega

section
variable {W : Nat} (a b c : Int)
theorem ring1 (h0 : 0 ≤ a) (h1 : a < 2 ^ W) : sumI W 1 (sumI W 0 a b) b = a := by
  rw [sumI_eq (by omega), ofI_sumI (by omega)]
  show toI (ofI W a + ofI W b - ofI W b) = a
  rw [BitVec.add_sub_cancel]; exact toI_ofI a h0 h1
theorem ring2 : sumI W 0 a b = sumI W 0 b a := by
  rw [sumI_eq (by omega), sumI_eq (by omega)]
  show toI (ofI W a + ofI W b) = toI (ofI W b + ofI W a)
  rw [BitVec.add_comm]
theorem ring3 : sumI W 2 a b = sumI W 2 b a := by
  rw [sumI_eq (by omega), sumI_eq (by omega)]
  show toI (ofI W a * ofI W b) = toI (ofI W b * ofI W a)
  rw [BitVec.mul_comm]
theorem ring4 : sumI W 2 a (sumI W 0 b c) = sumI W 0 (sumI W 2 a b) (sumI W 2 a c) := by
  rw [sumI_eq (by omega), sumI_eq (i := 0) (by omega) (sumI W 2 a b), ofI_sumI (by omega), ofI_sumI (by omega), ofI_sumI (by omega)]
  show toI (ofI W a * (ofI W b + ofI W c)) = toI (ofI W a * ofI W b + ofI W a * ofI W c)
  rw [BitVec.mul_add]
theorem ring5 : sumI W 2 (sumI W 2 a b) c = sumI W 2 a (sumI W 2 b c) := by
  rw [sumI_eq (by omega) (sumI W 2 a b) c, sumI_eq (by omega) a (sumI W 2 b c), ofI_sumI (by omega), ofI_sumI (by omega)]
  show toI (ofI W a * ofI W b * ofI W c) = toI (ofI W a * (ofI W b * ofI W c))
  rw [BitVec.mul_assoc]
end
/-- Of a sum of a product, on numbers. -/
theorem mul_add_raw {W : Nat} (q b r : Int) : sumI W 0 (sumI W 2 q b) r = (q * b + r) % 2 ^ W := by
  rw [sumI_eq (by omega), ofI_sumI (by omega)]
  refine toI_mod _ _ ?_
  show ofI W q * ofI W b + ofI W r = BitVec.ofInt W (q * b + r)
  rw [BitVec.ofInt_add, BitVec.ofInt_mul]
theorem emod_split (M q b r z : Int) (h : (q * b + r) % M = z % M) (Q R : Int) (hQ : Q % M = q % M) (hR : R % M = r % M) : (Q * b + R) % M = z % M := by
  rw [← h, Int.add_emod, Int.mul_emod, hQ, hR, ← Int.mul_emod, ← Int.add_emod]

theorem quo_u64 (a b : Int) (h0 : 0 ≤ a) (h1 : a < 18446744073709551616) (g0 : 1 ≤ b) (g1 : b < 18446744073709551616) : sumI 64 0 (sumI 64 2 (sumI 64 4 a b) b) (sumI 64 6 a b) = a := by
  have D := div_u64 a b h0 h1 (by omega) g1 g0
  rw [D.2.1, D.2.2.2, mul_add_raw, Int.ediv_mul_add_emod]
  exact Int.emod_eq_of_lt h0 h1
theorem sg_mod64 (a : Int) (h0 : 0 ≤ a) (h1 : a < 18446744073709551616) : sg64 a % 18446744073709551616 = a := by unfold sg64; split <;> omega
theorem quo_s64 (a b : Int) (h0 : 0 ≤ a) (h1 : a < 18446744073709551616) (g0 : 1 ≤ b) (g1 : b < 18446744073709551615) : sumI 64 0 (sumI 64 2 (sumI 64 3 a b) b) (sumI 64 5 a b) = a := by
  have D := div_s64 a b h0 h1 (by omega) (by omega) g0 (by omega)
  have R := rem_s64 a b h0 h1 (by omega) (by omega) g0
  rw [D.2, R.2, mul_add_raw]
  have hb : sg64 b % 18446744073709551616 = b % 18446744073709551616 := by rw [sg_mod64 b (by omega) (by omega)]; omega
  have e : ((sg64 a).tdiv (sg64 b) * sg64 b + (sg64 a).tmod (sg64 b)) % 18446744073709551616 = a % 18446744073709551616 := by
    rw [Int.tdiv_mul_add_tmod, sg_mod64 a h0 h1]; omega
  have e2 := emod_split 18446744073709551616 _ _ _ _ e ((sg64 a).tdiv (sg64 b) % 18446744073709551616) ((sg64 a).tmod (sg64 b) % 18446744073709551616) (Int.emod_emod _ _) (Int.emod_emod _ _)
  have e3 : ((sg64 a).tdiv (sg64 b) % 18446744073709551616 * b + (sg64 a).tmod (sg64 b) % 18446744073709551616) % 18446744073709551616 = ((sg64 a).tdiv (sg64 b) % 18446744073709551616 * sg64 b + (sg64 a).tmod (sg64 b) % 18446744073709551616) % 18446744073709551616 := by
    rw [Int.add_emod, Int.mul_emod, ← hb, ← Int.mul_emod, ← Int.add_emod]
  show _ % 18446744073709551616 = a
  rw [e3, e2]; omega
theorem neg_one64 (b : Int) (g0 : 0 ≤ b) (g1 : b < 18446744073709551616) : sumI 64 1 0 b = if b = 0 then 0 else 18446744073709551616 - b := by
  rw [sum1_64, IntKind.wrap_u64]; split <;> omega

theorem quo_u32 (a b : Int) (h0 : 0 ≤ a) (h1 : a < 4294967296) (g0 : 1 ≤ b) (g1 : b < 4294967296) : sumI 32 0 (sumI 32 2 (sumI 32 4 a b) b) (sumI 32 6 a b) = a := by
  have D := div_u32 a b h0 h1 (by omega) g1 g0
  rw [D.2.1, D.2.2.2, mul_add_raw, Int.ediv_mul_add_emod]
  exact Int.emod_eq_of_lt h0 h1
theorem sg_mod32 (a : Int) (h0 : 0 ≤ a) (h1 : a < 4294967296) : sg32 a % 4294967296 = a := by unfold sg32; split <;> omega
theorem quo_s32 (a b : Int) (h0 : 0 ≤ a) (h1 : a < 4294967296) (g0 : 1 ≤ b) (g1 : b < 4294967295) : sumI 32 0 (sumI 32 2 (sumI 32 3 a b) b) (sumI 32 5 a b) = a := by
  have D := div_s32 a b h0 h1 (by omega) (by omega) g0 (by omega)
  have R := rem_s32 a b h0 h1 (by omega) (by omega) g0
  rw [D.2, R.2, mul_add_raw]
  have hb : sg32 b % 4294967296 = b % 4294967296 := by rw [sg_mod32 b (by omega) (by omega)]; omega
  have e : ((sg32 a).tdiv (sg32 b) * sg32 b + (sg32 a).tmod (sg32 b)) % 4294967296 = a % 4294967296 := by
    rw [Int.tdiv_mul_add_tmod, sg_mod32 a h0 h1]; omega
  have e2 := emod_split 4294967296 _ _ _ _ e ((sg32 a).tdiv (sg32 b) % 4294967296) ((sg32 a).tmod (sg32 b) % 4294967296) (Int.emod_emod _ _) (Int.emod_emod _ _)
  have e3 : ((sg32 a).tdiv (sg32 b) % 4294967296 * b + (sg32 a).tmod (sg32 b) % 4294967296) % 4294967296 = ((sg32 a).tdiv (sg32 b) % 4294967296 * sg32 b + (sg32 a).tmod (sg32 b) % 4294967296) % 4294967296 := by
    rw [Int.add_emod, Int.mul_emod, ← hb, ← Int.mul_emod, ← Int.add_emod]
  show _ % 4294967296 = a
  rw [e3, e2]; omega
theorem neg_one32 (b : Int) (g0 : 0 ≤ b) (g1 : b < 4294967296) : sumI 32 1 0 b = if b = 0 then 0 else 4294967296 - b := by
  rw [sum1_32, IntKind.wrap_u64]; split <;> omega
end Go.Proofs.YtfcagbgnlibfpaaDoor.S
