/- num, plain: the answers of the program's closures are those of the plain text. No program in it. -/
import Derived.Test.YtfcagbgnlibfpaaDoorT
namespace Go.Proofs.YtfcagbgnlibfpaaDoor.S
open Go.RowKit Go.Proofs.YtfcagbgnlibfpaaDoor.A
set_option linter.unusedVariables false
set_option linter.unusedSimpArgs false

theorem tr_of {W i : Nat} {a b : Int} {c : Bool} (h : askB W i (ofI W a) (ofI W b) = c) : askI W i a b = tr c := by
  subst h; rfl
theorem err_0 {W i : Nat} {a b : Int} (h : i < 3 ∨ 6 < i) : errI W i a b = 0 := by
  unfold errI sumE
  rw [if_neg (by omega), if_neg (by omega)]
theorem sum_of {W i : Nat} {a b v : Int} (h : i < 3 ∨ 6 < i) (hv : toI (sumB W i (ofI W a) (ofI W b)) = v) : sumI W i a b = v := by
  unfold sumI
  rw [if_pos (err_0 h), hv]
theorem ofI_zero (W : Nat) : ofI W 0 = 0#W := by simp [ofI]

section
variable (a b : Int) (h0 : 0 ≤ a) (h1 : a < 18446744073709551616) (g0 : 0 ≤ b) (g1 : b < 18446744073709551616)
include h0 h1 g0 g1 in
theorem ask0_64 : askI 64 0 a b = tr ((a == b)) := tr_of (beq_ofI (W := 64) a b h0 h1 g0 g1)
include h0 h1 g0 g1 in
theorem ask1_64 : askI 64 1 a b = tr ((a != b)) := tr_of (by show (!(ofI 64 a == ofI 64 b)) = _; rw [beq_ofI (W := 64) a b h0 h1 g0 g1]; rfl)
include h0 h1 g0 g1 in
theorem ask2_64 : askI 64 2 a b = tr (decide (sg64 a < sg64 b)) := tr_of (by show (ofI 64 a).slt (ofI 64 b) = _; rw [slt_ofI, toInt64 a h0 h1, toInt64 b g0 g1])
include h0 h1 g0 g1 in
theorem ask3_64 : askI 64 3 a b = tr (decide (a < b)) := tr_of (ult_ofI (W := 64) a b h0 h1 g0 g1)
include h0 h1 g0 g1 in
theorem ask4_64 : askI 64 4 a b = tr (decide (sg64 b < sg64 a)) := tr_of (by show (ofI 64 b).slt (ofI 64 a) = _; rw [slt_ofI, toInt64 a h0 h1, toInt64 b g0 g1])
include h0 h1 g0 g1 in
theorem ask5_64 : askI 64 5 a b = tr (decide (b < a)) := tr_of (ult_ofI (W := 64) b a g0 g1 h0 h1)
include h0 h1 g0 g1 in
theorem ask6_64 : askI 64 6 a b = tr (decide (sg64 a ≤ sg64 b)) := tr_of (by show (!(ofI 64 b).slt (ofI 64 a)) = _; rw [slt_ofI, toInt64 a h0 h1, toInt64 b g0 g1, nlt])
include h0 h1 g0 g1 in
theorem ask7_64 : askI 64 7 a b = tr (decide (a ≤ b)) := tr_of (by show (!(ofI 64 b).ult (ofI 64 a)) = _; rw [ult_ofI (W := 64) b a g0 g1 h0 h1, nlt])
include h0 h1 g0 g1 in
theorem ask8_64 : askI 64 8 a b = tr (decide (sg64 b ≤ sg64 a)) := tr_of (by show (!(ofI 64 a).slt (ofI 64 b)) = _; rw [slt_ofI, toInt64 a h0 h1, toInt64 b g0 g1, nlt])
include h0 h1 g0 g1 in
theorem ask9_64 : askI 64 9 a b = tr (decide (b ≤ a)) := tr_of (by show (!(ofI 64 a).ult (ofI 64 b)) = _; rw [ult_ofI (W := 64) a b h0 h1 g0 g1, nlt])
theorem sum0_64 : sumI 64 0 a b = (IntKind.u64.wrap (a + b)) % 18446744073709551616 := sum_of (by omega) ((add_raw (W := 64) a b).trans (by rw [IntKind.wrap_u64]; omega))
theorem sum1_64 : sumI 64 1 a b = (IntKind.u64.wrap (a - b)) % 18446744073709551616 := sum_of (by omega) ((sub_raw (W := 64) a b).trans (by rw [IntKind.wrap_u64]; omega))
theorem sum2_64 : sumI 64 2 a b = (IntKind.u64.wrap (a * b)) % 18446744073709551616 := sum_of (by omega) ((mul_raw (W := 64) a b).trans (by rw [IntKind.wrap_u64]; generalize a * b = z; omega))
include h0 h1 g0 g1 in
theorem sum7_64 : sumI 64 7 a b = (bits .and .u64 a b) % 18446744073709551616 := sum_of (by omega) (and_raw (W := 64) (by decide) a b h0 h1 g0 g1)
include h0 h1 g0 g1 in
theorem sum8_64 : sumI 64 8 a b = (bits .or .u64 a b) % 18446744073709551616 := sum_of (by omega) (or_raw (W := 64) (by decide) a b h0 h1 g0 g1)
include h0 h1 g0 g1 in
theorem sum9_64 : sumI 64 9 a b = (bits .xor .u64 a b) % 18446744073709551616 := sum_of (by omega) (xor_raw (W := 64) (by decide) a b h0 h1 g0 g1)
include g0 g1 in
theorem kk64 : (ofI 64 b).toNat % 64 = (b % 64).toNat := by rw [toNat_ofI (W := 64) b g0 g1]; omega
include h0 h1 g0 g1 in
theorem sum10_64 : sumI 64 10 a b = (IntKind.u64.wrap (a * 2 ^ (b % 64).toNat)) % 18446744073709551616 := sum_of (by omega) (by
  show toI (ofI 64 a <<< ((ofI 64 b).toNat % 64)) = _
  rw [kk64 b g0 g1, shl_raw (W := 64) a h0 h1, IntKind.wrap_u64]
  generalize a * 2 ^ (b % 64).toNat = z; omega)
include h0 h1 g0 g1 in
theorem sum11_64 : sumI 64 11 a b = (IntKind.u64.wrap (sg64 a / 2 ^ (b % 64).toNat)) % 18446744073709551616 := sum_of (by omega) (by
  show toI ((ofI 64 a).sshiftRight ((ofI 64 b).toNat % 64)) = _
  rw [kk64 b g0 g1, shrs_raw, toInt64 a h0 h1, IntKind.wrap_u64]
  generalize sg64 a / 2 ^ (b % 64).toNat = z; omega)
include h0 h1 g0 g1 in
theorem sum12_64 : sumI 64 12 a b = (a / 2 ^ (b % 64).toNat) % 18446744073709551616 := sum_of (by omega) (by
  show toI (ofI 64 a >>> ((ofI 64 b).toNat % 64)) = _
  rw [kk64 b g0 g1, shru_raw (W := 64) a h0 h1]
  have hp : (0 : Int) < 2 ^ (b % 64).toNat := Int.pow_pos (by omega)
  have hd := Int.ediv_nonneg h0 (Int.le_of_lt hp)
  have hd2 := Int.ediv_le_self (2 ^ (b % 64).toNat) h0
  exact (Int.emod_eq_of_lt hd (by omega)).symm)
include h0 h1 g0 g1 in
theorem sum13_64 : sumI 64 13 a b = (bits .or .u64 (IntKind.u64.wrap (a * 2 ^ ((b % 64)).toNat)) (a / 2 ^ (64 - (b % 64)).toNat)) % 18446744073709551616 := sum_of (by omega) (by
  show toI ((ofI 64 a).rotateLeft ((ofI 64 b).toNat % 64)) = _
  rw [kk64 b g0 g1, turn_raw (W := 64) (by decide) a h0 h1 _ (by omega)]
  rw [show 64 - (b % 64).toNat = (64 - b % 64).toNat by omega]
  rfl)
include h0 h1 g0 g1 in
theorem sum14_64 : sumI 64 14 a b = (bits .or .u64 (IntKind.u64.wrap (a * 2 ^ ((-(b % 64) % 64)).toNat)) (a / 2 ^ (64 - (-(b % 64) % 64)).toNat)) % 18446744073709551616 := sum_of (by omega) (by
  show toI ((ofI 64 a).rotateRight ((ofI 64 b).toNat % 64)) = _
  rw [kk64 b g0 g1, turnr_raw (W := 64) (by decide) a h0 h1 _ (by omega)]
  rw [show (64 - (b % 64).toNat) % 64 = (-(b % 64) % 64).toNat by omega, show 64 - (-(b % 64) % 64).toNat = (64 - -(b % 64) % 64).toNat by omega]
  rfl)
theorem sg_neg64 : sg64 18446744073709551615 = -1 := by decide
/-- Division by nought. -/
theorem div_z64 (i : Nat) (hi : 3 ≤ i ∧ i ≤ 6) : errI 64 i a 0 = 30 ∧ sumI 64 i a 0 = 0 := by
  have e : errI 64 i a 0 = 30 := by
    unfold errI sumE
    rw [if_pos ⟨hi, ofI_zero 64⟩]
  exact ⟨e, by unfold sumI; rw [e]; rfl⟩
include g0 g1 in
theorem ne_z64 (hb : 1 ≤ b) : ¬ ofI 64 b = 0#64 := by
  rw [← ofI_zero, inj (W := 64) b 0 g0 g1 (by omega) (by omega)]; omega
include h0 h1 g0 g1 in
theorem div_u64 (hb : 1 ≤ b) : errI 64 4 a b = 0 ∧ sumI 64 4 a b = a / b ∧ errI 64 6 a b = 0 ∧ sumI 64 6 a b = a % b := by
  have e4 : errI 64 4 a b = 0 := by
    unfold errI sumE
    rw [if_neg (fun h => ne_z64 b g0 g1 hb h.2), if_neg (by omega)]
  have e6 : errI 64 6 a b = 0 := by
    unfold errI sumE
    rw [if_neg (fun h => ne_z64 b g0 g1 hb h.2), if_neg (by omega)]
  refine ⟨e4, ?_, e6, ?_⟩
  · unfold sumI; rw [if_pos e4]; exact udiv_raw (W := 64) a b h0 h1 g0 g1
  · unfold sumI; rw [if_pos e6]; exact umod_raw (W := 64) a b h0 h1 g0 g1
theorem ofI_neg64 : ofI 64 18446744073709551615 = -1#64 := by decide
theorem ofI_min64 : ofI 64 9223372036854775808 = BitVec.intMin 64 := by decide
include h0 h1 g0 g1 in
theorem div_s64 (hb : 1 ≤ b) (hov : ¬ (a = 9223372036854775808 ∧ b = 18446744073709551615)) : errI 64 3 a b = 0 ∧ sumI 64 3 a b = ((sg64 a).tdiv (sg64 b)) % 18446744073709551616 := by
  have e3 : errI 64 3 a b = 0 := by
    unfold errI sumE
    rw [if_neg (fun h => ne_z64 b g0 g1 hb h.2), if_neg ?_]
    rintro ⟨_, h, h'⟩
    rw [← ofI_min64, inj (W := 64) a _ h0 h1 (by decide) (by decide)] at h
    rw [← ofI_neg64, inj (W := 64) b _ g0 g1 (by decide) (by decide)] at h'
    exact hov ⟨h, h'⟩
  refine ⟨e3, ?_⟩
  unfold sumI; rw [if_pos e3]
  show toI ((ofI 64 a).sdiv (ofI 64 b)) = _
  rw [sdiv_raw, toInt64 a h0 h1, toInt64 b g0 g1]; rfl
include h0 h1 g0 g1 in
theorem rem_s64 (hb : 1 ≤ b) : errI 64 5 a b = 0 ∧ sumI 64 5 a b = ((sg64 a).tmod (sg64 b)) % 18446744073709551616 := by
  have e5 : errI 64 5 a b = 0 := by
    unfold errI sumE
    rw [if_neg (fun h => ne_z64 b g0 g1 hb h.2), if_neg (by omega)]
  refine ⟨e5, ?_⟩
  unfold sumI; rw [if_pos e5]
  show toI ((ofI 64 a).srem (ofI 64 b)) = _
  rw [srem_raw, toInt64 a h0 h1, toInt64 b g0 g1]; rfl
theorem div_o64 : errI 64 3 9223372036854775808 18446744073709551615 = 31 ∧ sumI 64 3 9223372036854775808 18446744073709551615 = 0 := by
  have e3 : errI 64 3 9223372036854775808 18446744073709551615 = 31 := by
    unfold errI sumE
    rw [if_neg (fun h => ne_z64 18446744073709551615 (by decide) (by decide) (by decide) h.2), if_pos ⟨rfl, ofI_min64, ofI_neg64⟩]
  exact ⟨e3, by unfold sumI; rw [e3]; rfl⟩
end

section
variable (a b : Int) (h0 : 0 ≤ a) (h1 : a < 4294967296) (g0 : 0 ≤ b) (g1 : b < 4294967296)
include h0 h1 g0 g1 in
theorem ask0_32 : askI 32 0 a b = tr ((a == b)) := tr_of (beq_ofI (W := 32) a b h0 h1 g0 g1)
include h0 h1 g0 g1 in
theorem ask1_32 : askI 32 1 a b = tr ((a != b)) := tr_of (by show (!(ofI 32 a == ofI 32 b)) = _; rw [beq_ofI (W := 32) a b h0 h1 g0 g1]; rfl)
include h0 h1 g0 g1 in
theorem ask2_32 : askI 32 2 a b = tr (decide (sg32 a < sg32 b)) := tr_of (by show (ofI 32 a).slt (ofI 32 b) = _; rw [slt_ofI, toInt32 a h0 h1, toInt32 b g0 g1])
include h0 h1 g0 g1 in
theorem ask3_32 : askI 32 3 a b = tr (decide (a < b)) := tr_of (ult_ofI (W := 32) a b h0 h1 g0 g1)
include h0 h1 g0 g1 in
theorem ask4_32 : askI 32 4 a b = tr (decide (sg32 b < sg32 a)) := tr_of (by show (ofI 32 b).slt (ofI 32 a) = _; rw [slt_ofI, toInt32 a h0 h1, toInt32 b g0 g1])
include h0 h1 g0 g1 in
theorem ask5_32 : askI 32 5 a b = tr (decide (b < a)) := tr_of (ult_ofI (W := 32) b a g0 g1 h0 h1)
include h0 h1 g0 g1 in
theorem ask6_32 : askI 32 6 a b = tr (decide (sg32 a ≤ sg32 b)) := tr_of (by show (!(ofI 32 b).slt (ofI 32 a)) = _; rw [slt_ofI, toInt32 a h0 h1, toInt32 b g0 g1, nlt])
include h0 h1 g0 g1 in
theorem ask7_32 : askI 32 7 a b = tr (decide (a ≤ b)) := tr_of (by show (!(ofI 32 b).ult (ofI 32 a)) = _; rw [ult_ofI (W := 32) b a g0 g1 h0 h1, nlt])
include h0 h1 g0 g1 in
theorem ask8_32 : askI 32 8 a b = tr (decide (sg32 b ≤ sg32 a)) := tr_of (by show (!(ofI 32 a).slt (ofI 32 b)) = _; rw [slt_ofI, toInt32 a h0 h1, toInt32 b g0 g1, nlt])
include h0 h1 g0 g1 in
theorem ask9_32 : askI 32 9 a b = tr (decide (b ≤ a)) := tr_of (by show (!(ofI 32 a).ult (ofI 32 b)) = _; rw [ult_ofI (W := 32) a b h0 h1 g0 g1, nlt])
theorem sum0_32 : sumI 32 0 a b = ((a + b)) % 4294967296 := sum_of (by omega) ((add_raw (W := 32) a b).trans (rfl))
theorem sum1_32 : sumI 32 1 a b = (IntKind.u64.wrap (a - b)) % 4294967296 := sum_of (by omega) ((sub_raw (W := 32) a b).trans (by rw [IntKind.wrap_u64]; omega))
theorem sum2_32 : sumI 32 2 a b = (IntKind.u64.wrap (a * b)) % 4294967296 := sum_of (by omega) ((mul_raw (W := 32) a b).trans (by rw [IntKind.wrap_u64]; generalize a * b = z; omega))
include h0 h1 g0 g1 in
theorem sum7_32 : sumI 32 7 a b = (bits .and .u64 a b) % 4294967296 := sum_of (by omega) (and_raw (W := 32) (by decide) a b h0 h1 g0 g1)
include h0 h1 g0 g1 in
theorem sum8_32 : sumI 32 8 a b = (bits .or .u64 a b) % 4294967296 := sum_of (by omega) (or_raw (W := 32) (by decide) a b h0 h1 g0 g1)
include h0 h1 g0 g1 in
theorem sum9_32 : sumI 32 9 a b = (bits .xor .u64 a b) % 4294967296 := sum_of (by omega) (xor_raw (W := 32) (by decide) a b h0 h1 g0 g1)
include g0 g1 in
theorem kk32 : (ofI 32 b).toNat % 32 = (b % 32).toNat := by rw [toNat_ofI (W := 32) b g0 g1]; omega
include h0 h1 g0 g1 in
theorem sum10_32 : sumI 32 10 a b = (IntKind.u64.wrap (a * 2 ^ (b % 32).toNat)) % 4294967296 := sum_of (by omega) (by
  show toI (ofI 32 a <<< ((ofI 32 b).toNat % 32)) = _
  rw [kk32 b g0 g1, shl_raw (W := 32) a h0 h1, IntKind.wrap_u64]
  generalize a * 2 ^ (b % 32).toNat = z; omega)
include h0 h1 g0 g1 in
theorem sum11_32 : sumI 32 11 a b = (IntKind.u64.wrap (sg32 a / 2 ^ (b % 32).toNat)) % 4294967296 := sum_of (by omega) (by
  show toI ((ofI 32 a).sshiftRight ((ofI 32 b).toNat % 32)) = _
  rw [kk32 b g0 g1, shrs_raw, toInt32 a h0 h1, IntKind.wrap_u64]
  generalize sg32 a / 2 ^ (b % 32).toNat = z; omega)
include h0 h1 g0 g1 in
theorem sum12_32 : sumI 32 12 a b = (a / 2 ^ (b % 32).toNat) % 4294967296 := sum_of (by omega) (by
  show toI (ofI 32 a >>> ((ofI 32 b).toNat % 32)) = _
  rw [kk32 b g0 g1, shru_raw (W := 32) a h0 h1]
  have hp : (0 : Int) < 2 ^ (b % 32).toNat := Int.pow_pos (by omega)
  have hd := Int.ediv_nonneg h0 (Int.le_of_lt hp)
  have hd2 := Int.ediv_le_self (2 ^ (b % 32).toNat) h0
  exact (Int.emod_eq_of_lt hd (by omega)).symm)
include h0 h1 g0 g1 in
theorem sum13_32 : sumI 32 13 a b = (bits .or .u64 (IntKind.u64.wrap (a * 2 ^ ((b % 32)).toNat)) (a / 2 ^ (32 - (b % 32)).toNat)) % 4294967296 := sum_of (by omega) (by
  show toI ((ofI 32 a).rotateLeft ((ofI 32 b).toNat % 32)) = _
  rw [kk32 b g0 g1, turn_raw (W := 32) (by decide) a h0 h1 _ (by omega)]
  rw [show 32 - (b % 32).toNat = (32 - b % 32).toNat by omega]
  rfl)
include h0 h1 g0 g1 in
theorem sum14_32 : sumI 32 14 a b = (bits .or .u64 (IntKind.u64.wrap (a * 2 ^ ((-(b % 32) % 32)).toNat)) (a / 2 ^ (32 - (-(b % 32) % 32)).toNat)) % 4294967296 := sum_of (by omega) (by
  show toI ((ofI 32 a).rotateRight ((ofI 32 b).toNat % 32)) = _
  rw [kk32 b g0 g1, turnr_raw (W := 32) (by decide) a h0 h1 _ (by omega)]
  rw [show (32 - (b % 32).toNat) % 32 = (-(b % 32) % 32).toNat by omega, show 32 - (-(b % 32) % 32).toNat = (32 - -(b % 32) % 32).toNat by omega]
  rfl)
theorem sg_neg32 : sg32 4294967295 = -1 := by decide
/-- Division by nought. -/
theorem div_z32 (i : Nat) (hi : 3 ≤ i ∧ i ≤ 6) : errI 32 i a 0 = 30 ∧ sumI 32 i a 0 = 0 := by
  have e : errI 32 i a 0 = 30 := by
    unfold errI sumE
    rw [if_pos ⟨hi, ofI_zero 32⟩]
  exact ⟨e, by unfold sumI; rw [e]; rfl⟩
include g0 g1 in
theorem ne_z32 (hb : 1 ≤ b) : ¬ ofI 32 b = 0#32 := by
  rw [← ofI_zero, inj (W := 32) b 0 g0 g1 (by omega) (by omega)]; omega
include h0 h1 g0 g1 in
theorem div_u32 (hb : 1 ≤ b) : errI 32 4 a b = 0 ∧ sumI 32 4 a b = a / b ∧ errI 32 6 a b = 0 ∧ sumI 32 6 a b = a % b := by
  have e4 : errI 32 4 a b = 0 := by
    unfold errI sumE
    rw [if_neg (fun h => ne_z32 b g0 g1 hb h.2), if_neg (by omega)]
  have e6 : errI 32 6 a b = 0 := by
    unfold errI sumE
    rw [if_neg (fun h => ne_z32 b g0 g1 hb h.2), if_neg (by omega)]
  refine ⟨e4, ?_, e6, ?_⟩
  · unfold sumI; rw [if_pos e4]; exact udiv_raw (W := 32) a b h0 h1 g0 g1
  · unfold sumI; rw [if_pos e6]; exact umod_raw (W := 32) a b h0 h1 g0 g1
theorem ofI_neg32 : ofI 32 4294967295 = -1#32 := by decide
theorem ofI_min32 : ofI 32 2147483648 = BitVec.intMin 32 := by decide
include h0 h1 g0 g1 in
theorem div_s32 (hb : 1 ≤ b) (hov : ¬ (a = 2147483648 ∧ b = 4294967295)) : errI 32 3 a b = 0 ∧ sumI 32 3 a b = ((sg32 a).tdiv (sg32 b)) % 4294967296 := by
  have e3 : errI 32 3 a b = 0 := by
    unfold errI sumE
    rw [if_neg (fun h => ne_z32 b g0 g1 hb h.2), if_neg ?_]
    rintro ⟨_, h, h'⟩
    rw [← ofI_min32, inj (W := 32) a _ h0 h1 (by decide) (by decide)] at h
    rw [← ofI_neg32, inj (W := 32) b _ g0 g1 (by decide) (by decide)] at h'
    exact hov ⟨h, h'⟩
  refine ⟨e3, ?_⟩
  unfold sumI; rw [if_pos e3]
  show toI ((ofI 32 a).sdiv (ofI 32 b)) = _
  rw [sdiv_raw, toInt32 a h0 h1, toInt32 b g0 g1]; rfl
include h0 h1 g0 g1 in
theorem rem_s32 (hb : 1 ≤ b) : errI 32 5 a b = 0 ∧ sumI 32 5 a b = ((sg32 a).tmod (sg32 b)) % 4294967296 := by
  have e5 : errI 32 5 a b = 0 := by
    unfold errI sumE
    rw [if_neg (fun h => ne_z32 b g0 g1 hb h.2), if_neg (by omega)]
  refine ⟨e5, ?_⟩
  unfold sumI; rw [if_pos e5]
  show toI ((ofI 32 a).srem (ofI 32 b)) = _
  rw [srem_raw, toInt32 a h0 h1, toInt32 b g0 g1]; rfl
theorem div_o32 : errI 32 3 2147483648 4294967295 = 31 ∧ sumI 32 3 2147483648 4294967295 = 0 := by
  have e3 : errI 32 3 2147483648 4294967295 = 31 := by
    unfold errI sumE
    rw [if_neg (fun h => ne_z32 4294967295 (by decide) (by decide) (by decide) h.2), if_pos ⟨rfl, ofI_min32, ofI_neg32⟩]
  exact ⟨e3, by unfold sumI; rw [e3]; rfl⟩
end
end Go.Proofs.YtfcagbgnlibfpaaDoor.S
