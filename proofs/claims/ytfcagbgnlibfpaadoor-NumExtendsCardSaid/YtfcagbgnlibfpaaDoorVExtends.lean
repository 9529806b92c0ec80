/- num, plain: the laws of extending, on the plain words. No program in it. -/
import Derived.Test.YtfcagbgnlibfpaaDoorI
namespace Go.Proofs.YtfcagbgnlibfpaaDoor.S
open Go.RowKit Go.Proofs.YtfcagbgnlibfpaaDoor.A
set_option linter.unusedVariables false
set_option linter.unusedSimpArgs false

theorem ext_192 (a : Int) (h0 : 0 ≤ a) (h1 : a < 4294967296) : extI 256 4294967296 (extI 256 4294967296 a) = extI 256 4294967296 a ∧ (extI 256 4294967296 a) % 256 = a % 256 ∧ 0 ≤ extI 256 4294967296 a ∧ extI 256 4294967296 a < 4294967296 := by
  unfold extI
  refine ⟨?_, ?_, ?_, ?_⟩ <;> (repeat' split) <;> omega
theorem ext_193 (a : Int) (h0 : 0 ≤ a) (h1 : a < 4294967296) : extI 65536 4294967296 (extI 65536 4294967296 a) = extI 65536 4294967296 a ∧ (extI 65536 4294967296 a) % 256 = a % 256 ∧ 0 ≤ extI 65536 4294967296 a ∧ extI 65536 4294967296 a < 4294967296 := by
  unfold extI
  refine ⟨?_, ?_, ?_, ?_⟩ <;> (repeat' split) <;> omega
theorem ext_194 (a : Int) (h0 : 0 ≤ a) (h1 : a < 18446744073709551616) : extI 256 18446744073709551616 (extI 256 18446744073709551616 a) = extI 256 18446744073709551616 a ∧ (extI 256 18446744073709551616 a) % 256 = a % 256 ∧ 0 ≤ extI 256 18446744073709551616 a ∧ extI 256 18446744073709551616 a < 18446744073709551616 := by
  unfold extI
  refine ⟨?_, ?_, ?_, ?_⟩ <;> (repeat' split) <;> omega
theorem ext_195 (a : Int) (h0 : 0 ≤ a) (h1 : a < 18446744073709551616) : extI 65536 18446744073709551616 (extI 65536 18446744073709551616 a) = extI 65536 18446744073709551616 a ∧ (extI 65536 18446744073709551616 a) % 256 = a % 256 ∧ 0 ≤ extI 65536 18446744073709551616 a ∧ extI 65536 18446744073709551616 a < 18446744073709551616 := by
  unfold extI
  refine ⟨?_, ?_, ?_, ?_⟩ <;> (repeat' split) <;> omega
theorem ext_196 (a : Int) (h0 : 0 ≤ a) (h1 : a < 18446744073709551616) : extI 4294967296 18446744073709551616 (extI 4294967296 18446744073709551616 a) = extI 4294967296 18446744073709551616 a ∧ (extI 4294967296 18446744073709551616 a) % 256 = a % 256 ∧ 0 ≤ extI 4294967296 18446744073709551616 a ∧ extI 4294967296 18446744073709551616 a < 18446744073709551616 := by
  unfold extI
  refine ⟨?_, ?_, ?_, ?_⟩ <;> (repeat' split) <;> omega
theorem ext_172 (a : Int) (h0 : 0 ≤ a) (h1 : a < 4294967296) : extI 4294967296 18446744073709551616 a % 4294967296 = a ∧ 0 ≤ extI 4294967296 18446744073709551616 a ∧ extI 4294967296 18446744073709551616 a < 18446744073709551616 := by
  unfold extI
  refine ⟨?_, ?_, ?_⟩ <;> (repeat' split) <;> omega
theorem sg_ext (a : Int) (h0 : 0 ≤ a) (h1 : a < 4294967296) : sg64 (extI 4294967296 18446744073709551616 a) = sg32 a := by
  unfold extI sg64 sg32
  (repeat' split) <;> omega
theorem ext_ask2 (a b : Int) (h0 : 0 ≤ a) (h1 : a < 4294967296) (g0 : 0 ≤ b) (g1 : b < 4294967296) : askI 64 2 (extI 4294967296 18446744073709551616 a) (extI 4294967296 18446744073709551616 b) = askI 32 2 a b := by
  obtain ⟨_, a1, a2⟩ := ext_172 a h0 h1
  obtain ⟨_, b1, b2⟩ := ext_172 b g0 g1
  rw [ask2_32 a b h0 h1 g0 g1, ask2_64 _ _ a1 a2 b1 b2, sg_ext a h0 h1, sg_ext b g0 g1]
theorem ext_ask3 (a b : Int) (h0 : 0 ≤ a) (h1 : a < 4294967296) (g0 : 0 ≤ b) (g1 : b < 4294967296) : askI 64 3 a b = askI 32 3 a b := by
  rw [ask3_32 a b h0 h1 g0 g1, ask3_64 a b h0 (by omega) g0 (by omega)]
theorem low8 (a b : Int) (h0 : 0 ≤ a) (h1 : a < 18446744073709551616) (g0 : 0 ≤ b) (g1 : b < 18446744073709551616) (h : a % 256 = b % 256) : bits .and .u64 a 255 = bits .and .u64 b 255 := by
  rw [u64_and a 255 h0 h1 (by decide) (by decide), u64_and b 255 g0 g1 (by decide) (by decide)]
  have e : (255 : Int).toNat = 2 ^ 8 - 1 := by decide
  rw [e, Nat.and_two_pow_sub_one_eq_mod, Nat.and_two_pow_sub_one_eq_mod]
  omega
end Go.Proofs.YtfcagbgnlibfpaaDoor.S
