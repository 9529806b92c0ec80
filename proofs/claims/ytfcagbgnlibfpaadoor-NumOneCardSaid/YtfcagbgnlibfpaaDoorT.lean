/- num, plain: what the program's sums, shifts and quotients come to, said in the words of bit vectors. No program in it. -/
import Derived.Test.YtfcagbgnlibfpaaDoorS
namespace Go.Proofs.YtfcagbgnlibfpaaDoor.S
open Go.RowKit Go.Proofs.YtfcagbgnlibfpaaDoor.A
set_option linter.unusedVariables false
set_option linter.unusedSimpArgs false

theorem toInt64 (a : Int) (h0 : 0 ≤ a) (h1 : a < 18446744073709551616) : (ofI 64 a).toInt = sg64 a := ofI_toInt (W := 64) a (by decide) h0 h1
theorem toInt32 (a : Int) (h0 : 0 ≤ a) (h1 : a < 4294967296) : (ofI 32 a).toInt = sg32 a := ofI_toInt (W := 32) a (by decide) h0 h1
theorem inj {W : Nat} (a b : Int) (h0 : 0 ≤ a) (h1 : a < 2 ^ W) (g0 : 0 ≤ b) (g1 : b < 2 ^ W) : ofI W a = ofI W b ↔ a = b := by
  constructor
  · intro h
    have := congrArg toI h
    rwa [toI_ofI a h0 h1, toI_ofI b g0 g1] at this
  · rintro rfl; rfl
theorem beq_ofI {W : Nat} (a b : Int) (h0 : 0 ≤ a) (h1 : a < 2 ^ W) (g0 : 0 ≤ b) (g1 : b < 2 ^ W) : (ofI W a == ofI W b) = (a == b) := by
  rw [Bool.eq_iff_iff]; simp only [beq_iff_eq]; exact inj a b h0 h1 g0 g1
theorem ult_ofI {W : Nat} (a b : Int) (h0 : 0 ≤ a) (h1 : a < 2 ^ W) (g0 : 0 ≤ b) (g1 : b < 2 ^ W) : (ofI W a).ult (ofI W b) = decide (a < b) := by
  rw [Bool.eq_iff_iff]
  simp only [BitVec.ult, decide_eq_true_eq]
  have := ofI_toNat (W := W) a h0 h1
  have := ofI_toNat (W := W) b g0 g1
  omega
theorem slt_ofI {W : Nat} (x y : BitVec W) : x.slt y = decide (x.toInt < y.toInt) := rfl
theorem nlt (a b : Int) : (!decide (a < b)) = decide (b ≤ a) := by rw [Bool.eq_iff_iff]; simp

/-- toInt and the number. -/
theorem toI_toInt {W : Nat} (x : BitVec W) : toI x = x.toInt % 2 ^ W := by
  unfold toI
  rw [BitVec.toInt_eq_toNat_bmod]
  have e2 : ((2 : Int) ^ W) = ((2 ^ W : Nat) : Int) := by simp
  rw [e2, Int.bmod_emod]
  exact (Int.emod_eq_of_lt (by omega) (by exact_mod_cast x.isLt)).symm

theorem pow_nat (n : Int) (h : 0 ≤ n) : ((2 : Int) ^ n.toNat) = ((2 ^ n.toNat : Nat) : Int) := by simp

section
variable {W : Nat} (a b : Int) (h0 : 0 ≤ a) (h1 : a < 2 ^ W) (g0 : 0 ≤ b) (g1 : b < 2 ^ W)
theorem add_raw : toI (ofI W a + ofI W b) = (a + b) % 2 ^ W := toI_mod _ _ (by simp [BitVec.ofInt_add])
theorem sub_raw : toI (ofI W a - ofI W b) = (a - b) % 2 ^ W := toI_mod _ _ (by show _ = BitVec.ofInt W (a - b); rw [Int.sub_eq_add_neg, BitVec.ofInt_add, BitVec.ofInt_neg, BitVec.sub_eq_add_neg])
theorem mul_raw : toI (ofI W a * ofI W b) = (a * b) % 2 ^ W := toI_mod _ _ (by simp [BitVec.ofInt_mul])
include h0 h1 in
theorem shl_raw (k : Nat) : toI (ofI W a <<< k) = (a * 2 ^ k) % 2 ^ W := by
  unfold toI
  rw [BitVec.toNat_shiftLeft, Nat.shiftLeft_eq]
  have := ofI_toNat (W := W) a h0 h1
  simp only [Int.natCast_emod, Int.natCast_mul, Int.natCast_pow, Int.cast_ofNat_Int, this]
include h0 h1 in
theorem shru_raw (k : Nat) : toI (ofI W a >>> k) = a / 2 ^ k := by
  unfold toI
  rw [BitVec.toNat_ushiftRight, Nat.shiftRight_eq_div_pow]
  have := ofI_toNat (W := W) a h0 h1
  simp only [Int.natCast_ediv, Int.natCast_pow, Int.cast_ofNat_Int, this]
theorem shrs_raw (x : BitVec W) (k : Nat) : toI (x.sshiftRight k) = (x.toInt / 2 ^ k) % 2 ^ W := by
  rw [toI_toInt, BitVec.toInt_sshiftRight, Int.shiftRight_eq_div_pow]
  simp
theorem sdiv_raw (x y : BitVec W) : toI (x.sdiv y) = (x.toInt.tdiv y.toInt) % 2 ^ W := by
  rw [toI_toInt, BitVec.toInt_sdiv, show ((2 : Int) ^ W) = ((2 ^ W : Nat) : Int) by simp, Int.bmod_emod]
theorem srem_raw (x y : BitVec W) : toI (x.srem y) = (x.toInt.tmod y.toInt) % 2 ^ W := by
  rw [toI_toInt, BitVec.toInt_srem]
include h0 h1 g0 g1 in
theorem udiv_raw : toI (ofI W a / ofI W b) = a / b := by
  unfold toI
  rw [BitVec.toNat_udiv, Int.natCast_ediv, ofI_toNat a h0 h1, ofI_toNat b g0 g1]
include h0 h1 g0 g1 in
theorem umod_raw : toI (ofI W a % ofI W b) = a % b := by
  unfold toI
  rw [BitVec.toNat_umod, Int.natCast_emod, ofI_toNat a h0 h1, ofI_toNat b g0 g1]

theorem nat_of (a : Int) (h : 0 ≤ a) : (a.toNat : Int) = a := by omega
include h0 h1 in
theorem toNat_ofI : (ofI W a).toNat = a.toNat := by have := ofI_toNat (W := W) a h0 h1; omega
end
section
variable {W : Nat} (hW : W ≤ 64) (a b : Int) (h0 : 0 ≤ a) (h1 : a < 2 ^ W) (g0 : 0 ≤ b) (g1 : b < 2 ^ W)
include hW h1 in
theorem lt64 : a < 18446744073709551616 := by
  have : (2 : Int) ^ W ≤ 2 ^ 64 := by
    have := Nat.pow_le_pow_right (n := 2) (by omega) hW
    exact_mod_cast this
  omega
include hW h0 h1 g0 g1 in
theorem and_raw : toI (ofI W a &&& ofI W b) = bits .and .u64 a b % 2 ^ W := by
  rw [u64_and a b h0 (lt64 hW a h1) g0 (lt64 hW b g1)]
  have hlt : a.toNat &&& b.toNat < 2 ^ W := Nat.and_lt_two_pow _ (by have := toNat_ofI (W := W) b g0 g1; have := (ofI W b).isLt; omega)
  rw [Int.emod_eq_of_lt (by omega) (by exact_mod_cast hlt)]
  unfold toI
  rw [BitVec.toNat_and, toNat_ofI a h0 h1, toNat_ofI b g0 g1]
include hW h0 h1 g0 g1 in
theorem or_raw : toI (ofI W a ||| ofI W b) = bits .or .u64 a b % 2 ^ W := by
  rw [u64_or a b h0 (lt64 hW a h1) g0 (lt64 hW b g1)]
  have hlt : a.toNat ||| b.toNat < 2 ^ W := Nat.or_lt_two_pow (by have := toNat_ofI (W := W) a h0 h1; have := (ofI W a).isLt; omega) (by have := toNat_ofI (W := W) b g0 g1; have := (ofI W b).isLt; omega)
  rw [Int.emod_eq_of_lt (by omega) (by exact_mod_cast hlt)]
  unfold toI
  rw [BitVec.toNat_or, toNat_ofI a h0 h1, toNat_ofI b g0 g1]
include hW h0 h1 g0 g1 in
theorem xor_raw : toI (ofI W a ^^^ ofI W b) = bits .xor .u64 a b % 2 ^ W := by
  rw [u64_xor a b h0 (lt64 hW a h1) g0 (lt64 hW b g1)]
  have hlt : a.toNat ^^^ b.toNat < 2 ^ W := Nat.xor_lt_two_pow (by have := toNat_ofI (W := W) a h0 h1; have := (ofI W a).isLt; omega) (by have := toNat_ofI (W := W) b g0 g1; have := (ofI W b).isLt; omega)
  rw [Int.emod_eq_of_lt (by omega) (by exact_mod_cast hlt)]
  unfold toI
  rw [BitVec.toNat_xor, toNat_ofI a h0 h1, toNat_ofI b g0 g1]

theorem wrap_or (W : Nat) (hW : W ≤ 64) (p q : Int) (hp : 0 ≤ p) (hq : 0 ≤ q) (hq2 : q < 2 ^ W) : bits .or .u64 (IntKind.u64.wrap p) q % 2 ^ W = (((p.toNat % 2 ^ W) ||| q.toNat : Nat) : Int) := by
  have hw : IntKind.u64.wrap p = p % 18446744073709551616 := IntKind.wrap_u64 p
  rw [u64_or _ q (by rw [hw]; omega) (by rw [hw]; omega) hq (lt64 hW q hq2)]
  rw [hw]
  have e1 : (p % 18446744073709551616).toNat = p.toNat % 18446744073709551616 := by omega
  rw [e1]
  have hqn : q.toNat < 2 ^ W := by
    have : (q.toNat : Int) < ((2 ^ W : Nat) : Int) := by rw [nat_of q hq]; simpa using hq2
    exact_mod_cast this
  rw [show ((2 : Int) ^ W) = ((2 ^ W : Nat) : Int) by simp, ← Int.natCast_emod, Nat.or_mod_two_pow, Nat.mod_eq_of_lt hqn]
  congr 2
  rw [show (18446744073709551616 : Nat) = 2 ^ 64 by decide, Nat.mod_mod_of_dvd _ (Nat.pow_dvd_pow 2 hW)]

include hW h0 h1 in
theorem turn_raw (k : Nat) (hk : k < W) : toI ((ofI W a).rotateLeft k) = bits .or .u64 (IntKind.u64.wrap (a * 2 ^ k)) (a / 2 ^ (W - k)) % 2 ^ W := by
  have hp : (0 : Int) < 2 ^ (W - k) := Int.pow_pos (by omega)
  have hd : 0 ≤ a / 2 ^ (W - k) := Int.ediv_nonneg h0 (by omega)
  have hd2 : a / 2 ^ (W - k) < 2 ^ W := by have := Int.ediv_le_self (2 ^ (W - k)) h0; omega
  have hm : 0 ≤ a * 2 ^ k := Int.mul_nonneg h0 (Int.le_of_lt (Int.pow_pos (by omega)))
  rw [wrap_or W hW _ _ hm hd hd2]
  unfold toI
  rw [BitVec.toNat_rotateLeft, Nat.mod_eq_of_lt hk, toNat_ofI a h0 h1, Nat.shiftLeft_eq, Nat.shiftRight_eq_div_pow]
  obtain ⟨n, rfl⟩ := Int.eq_ofNat_of_zero_le h0
  congr 2
include hW h0 h1 in
theorem turnr_raw (k : Nat) (hk : k < W) : toI ((ofI W a).rotateRight k) = bits .or .u64 (IntKind.u64.wrap (a * 2 ^ ((W - k) % W))) (a / 2 ^ (W - (W - k) % W)) % 2 ^ W := by
  rcases Nat.eq_zero_or_pos k with rfl | hk0
  · rw [Nat.sub_zero, Nat.mod_self, ← turn_raw hW a h0 h1 0 hk]
    congr 1
    apply BitVec.eq_of_toNat_eq
    rw [BitVec.toNat_rotateLeft, BitVec.toNat_rotateRight]
    have h9 := (ofI W a).isLt
    rw [Nat.zero_mod, Nat.shiftLeft_eq, Nat.shiftRight_eq_div_pow, Nat.shiftLeft_eq, Nat.shiftRight_eq_div_pow, Nat.pow_zero, Nat.mul_one, Nat.div_one, Nat.sub_zero, Nat.div_eq_of_lt h9, Nat.mod_eq_of_lt h9, Nat.mul_mod_left]
  · have hm : (W - k) % W = W - k := Nat.mod_eq_of_lt (by omega)
    rw [hm, ← turn_raw hW a h0 h1 (W - k) (by omega)]
    congr 1
    apply BitVec.eq_of_toNat_eq
    rw [BitVec.toNat_rotateLeft, BitVec.toNat_rotateRight, Nat.mod_eq_of_lt hk, hm, show W - (W - k) = k by omega]
    rw [Nat.or_comm]
end
end Go.Proofs.YtfcagbgnlibfpaaDoor.S
