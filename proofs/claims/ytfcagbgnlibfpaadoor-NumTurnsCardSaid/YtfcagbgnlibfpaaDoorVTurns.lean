/- num, plain: the laws of turning bits round, of counting ones and zeros, and of the questions, on the plain words. No program in it. -/
import Derived.Test.YtfcagbgnlibfpaaDoorVShift
import Derived.Test.YtfcagbgnlibfpaaDoorVPop
import Derived.Test.YtfcagbgnlibfpaaDoorVLogic
import Derived.Lib.TrailingZeros
namespace Go.Proofs.YtfcagbgnlibfpaaDoor.S
open Go.RowKit Go.Proofs.YtfcagbgnlibfpaaDoor.A
set_option linter.unusedVariables false
set_option linter.unusedSimpArgs false

/-- A turn to the left, as low bits and high bits that change places. -/
theorem rotl_nat (W k x : Nat) (hk : k ≤ W) (hx : x < 2 ^ W) : (x <<< k) % 2 ^ W ||| x >>> (W - k) = (x % 2 ^ (W - k)) * 2 ^ k + x / 2 ^ (W - k) := by
  have e : 2 ^ W = 2 ^ (W - k) * 2 ^ k := by rw [← Nat.pow_add]; congr 1; omega
  have hd : x / 2 ^ (W - k) < 2 ^ k := by
    rw [Nat.div_lt_iff_lt_mul (Nat.two_pow_pos _), Nat.mul_comm, ← e]; exact hx
  rw [Nat.shiftLeft_eq, Nat.shiftRight_eq_div_pow, e, Nat.mul_mod_mul_right, ← Nat.shiftLeft_eq, Nat.shiftLeft_add_eq_or_of_lt hd]
theorem two_pow_cut (W k : Nat) (hk : k ≤ W) : 2 ^ W = 2 ^ (W - k) * 2 ^ k := by rw [← Nat.pow_add]; congr 1; omega
theorem rotr_rotl {W : Nat} (v : BitVec W) (k : Nat) (hk : k < W) : (v.rotateLeft k).rotateRight k = v := by
  apply BitVec.eq_of_toNat_eq
  rw [BitVec.toNat_rotateRight, BitVec.toNat_rotateLeft, Nat.mod_eq_of_lt hk]
  have hx := v.isLt
  generalize v.toNat = x at *
  rw [rotl_nat W k x (Nat.le_of_lt hk) hx]
  have e := two_pow_cut W k (Nat.le_of_lt hk)
  have hd : x / 2 ^ (W - k) < 2 ^ k := by
    rw [Nat.div_lt_iff_lt_mul (Nat.two_pow_pos _), Nat.mul_comm, ← e]; exact hx
  have hm : x % 2 ^ (W - k) < 2 ^ (W - k) := Nat.mod_lt _ (Nat.two_pow_pos _)
  have hz : (x % 2 ^ (W - k)) * 2 ^ k + x / 2 ^ (W - k) < 2 ^ W := by
    rw [e]
    have : (x % 2 ^ (W - k) + 1) * 2 ^ k ≤ 2 ^ (W - k) * 2 ^ k := Nat.mul_le_mul_right _ hm
    rw [Nat.add_mul, Nat.one_mul] at this
    omega
  have R := rotl_nat W (W - k) _ (Nat.sub_le _ _) hz
  rw [show W - (W - k) = k by omega] at R
  rw [Nat.or_comm, R]
  rw [Nat.mul_comm (x % 2 ^ (W - k)), Nat.mul_add_mod, Nat.mod_eq_of_lt hd, Nat.mul_add_div (Nat.two_pow_pos k), Nat.div_eq_of_lt hd, Nat.add_zero]
  rw [Nat.mul_comm]
  exact Nat.div_add_mod x _
theorem pop_rotl {W : Nat} (v : BitVec W) (k : Nat) (hk : k < W) : Lib.popAux W (v.rotateLeft k).toNat = Lib.popAux W v.toNat := by
  rw [BitVec.toNat_rotateLeft, Nat.mod_eq_of_lt hk]
  have hx := v.isLt
  generalize v.toNat = x at *
  rw [rotl_nat W k x (Nat.le_of_lt hk) hx]
  have e := two_pow_cut W k (Nat.le_of_lt hk)
  have hd : x / 2 ^ (W - k) < 2 ^ k := by
    rw [Nat.div_lt_iff_lt_mul (Nat.two_pow_pos _), Nat.mul_comm, ← e]; exact hx
  have A1 := popAux_add k (W - k) (x % 2 ^ (W - k) * 2 ^ k + x / 2 ^ (W - k))
  have A2 := popAux_add (W - k) k x
  rw [show k + (W - k) = W by omega] at A1
  rw [show W - k + k = W by omega] at A2
  rw [A1, A2, ← popAux_mod k, Nat.mul_comm (x % 2 ^ (W - k)), Nat.mul_add_mod, Nat.mod_eq_of_lt hd, Nat.mul_add_div (Nat.two_pow_pos k), Nat.div_eq_of_lt hd, Nat.add_zero, popAux_mod, Nat.add_comm]
theorem rotl_parts {W : Nat} (v : BitVec W) (k : Nat) (hk : k < W) : v.rotateLeft k = (v <<< k) ||| (v >>> (W - k)) := by
  rw [BitVec.rotateLeft_def, Nat.mod_eq_of_lt hk]

theorem turns1 {W : Nat} (hW : 0 < W) (x y : Int) (h0 : 0 ≤ x) (h1 : x < 2 ^ W) : sumI W 14 (sumI W 13 x y) y = x := by
  rw [sumI_eq (i := 14) (by omega), ofI_sumI (by omega)]
  show toI (((ofI W x).rotateLeft ((ofI W y).toNat % W)).rotateRight ((ofI W y).toNat % W)) = x
  rw [rotr_rotl _ _ (Nat.mod_lt _ hW), toI_ofI x h0 h1]
theorem turns2 {W : Nat} (hW : 0 < W) (x y : Int) (h0 : 0 ≤ x) (h1 : x < 2 ^ W) : Lib.popAux W (sumI W 13 x y).toNat = Lib.popAux W x.toNat := by
  rw [sumI_eq (i := 13) (by omega)]
  show Lib.popAux W (toI ((ofI W x).rotateLeft ((ofI W y).toNat % W))).toNat = _
  unfold toI
  rw [Int.toNat_natCast, pop_rotl _ _ (Nat.mod_lt _ hW), toNat_ofI x h0 h1]
theorem turns3_of {W : Nat} (x y : Int) (hk : (ofI W (sumI W 1 0 y)).toNat % W = W - (ofI W y).toNat % W) (hk1 : (ofI W y).toNat % W < W) : sumI W 8 (sumI W 10 x y) (sumI W 12 x (sumI W 1 0 y)) = sumI W 13 x y := by
  rw [sumI_eq (i := 8) (by omega), sumI_eq (i := 13) (by omega), ofI_sumI (i := 10) (by omega), ofI_sumI (i := 12) (by omega)]
  show toI ((ofI W x <<< ((ofI W y).toNat % W)) ||| (ofI W x >>> ((ofI W (sumI W 1 0 y)).toNat % W))) = toI ((ofI W x).rotateLeft ((ofI W y).toNat % W))
  rw [rotl_parts _ _ hk1, hk]
theorem turns3_32 (x y : Int) (g0 : 0 ≤ y) (g1 : y < 4294967296) (h : ¬ y % 32 = 0) : sumI 32 8 (sumI 32 10 x y) (sumI 32 12 x (sumI 32 1 0 y)) = sumI 32 13 x y := by
  refine turns3_of x y ?_ (Nat.mod_lt _ (by omega))
  rw [neg_one32 y g0 g1]
  rw [toNat_ofI (W := 32) y g0 g1]
  rw [if_neg (by omega), toNat_ofI (W := 32) (4294967296 - y) (by omega) (by simp only [Int.reducePow]; omega)]
  omega
theorem turns3_64 (x y : Int) (g0 : 0 ≤ y) (g1 : y < 18446744073709551616) (h : ¬ y % 64 = 0) : sumI 64 8 (sumI 64 10 x y) (sumI 64 12 x (sumI 64 1 0 y)) = sumI 64 13 x y := by
  refine turns3_of x y ?_ (Nat.mod_lt _ (by omega))
  rw [neg_one64 y g0 g1]
  rw [toNat_ofI (W := 64) y g0 g1]
  rw [if_neg (by omega), toNat_ofI (W := 64) (18446744073709551616 - y) (by omega) (by simp only [Int.reducePow]; omega)]
  omega

/-- The questions: of <, =, > just one; not above or above; not below or below. -/
theorem turns3z_32 (x y : Int) (h0 : 0 ≤ x) (h1 : x < 4294967296) (g0 : 0 ≤ y) (g1 : y < 4294967296) : sumI 32 8 (sumI 32 10 x y) (sumI 32 12 x (sumI 32 1 0 y)) = sumI 32 13 x y := by
  by_cases h : y % 32 = 0
  · have k1 : (ofI 32 y).toNat % 32 = 0 := by rw [toNat_ofI (W := 32) y g0 g1]; omega
    have k2 : (ofI 32 (sumI 32 1 0 y)).toNat % 32 = 0 := by
      rw [neg_one32 y g0 g1]
      split
      · rw [ofI_zero]; rfl
      · rw [toNat_ofI (W := 32) (4294967296 - y) (by omega) (by simp only [Int.reducePow]; omega)]; omega
    rw [sumI_eq (i := 8) (by omega), sumI_eq (i := 13) (by omega), ofI_sumI (i := 10) (by omega), ofI_sumI (i := 12) (by omega)]
    show toI ((ofI 32 x <<< ((ofI 32 y).toNat % 32)) ||| (ofI 32 x >>> ((ofI 32 (sumI 32 1 0 y)).toNat % 32))) = toI ((ofI 32 x).rotateLeft ((ofI 32 y).toNat % 32))
    rw [rotl_parts _ _ (Nat.mod_lt _ (by omega)), k1, k2]
    congr 1
    apply BitVec.eq_of_toNat_eq
    have h9 := (ofI 32 x).isLt
    rw [BitVec.toNat_or, BitVec.toNat_or, BitVec.toNat_ushiftRight, BitVec.toNat_ushiftRight, BitVec.toNat_shiftLeft, Nat.shiftRight_eq_div_pow, Nat.shiftRight_eq_div_pow, Nat.shiftLeft_eq, Nat.pow_zero, Nat.mul_one, Nat.div_one, Nat.mod_eq_of_lt h9, Nat.sub_zero, Nat.div_eq_of_lt h9, Nat.or_self, Nat.or_zero]
  · exact turns3_32 x y g0 g1 h
theorem turns3z_64 (x y : Int) (h0 : 0 ≤ x) (h1 : x < 18446744073709551616) (g0 : 0 ≤ y) (g1 : y < 18446744073709551616) : sumI 64 8 (sumI 64 10 x y) (sumI 64 12 x (sumI 64 1 0 y)) = sumI 64 13 x y := by
  by_cases h : y % 64 = 0
  · have k1 : (ofI 64 y).toNat % 64 = 0 := by rw [toNat_ofI (W := 64) y g0 g1]; omega
    have k2 : (ofI 64 (sumI 64 1 0 y)).toNat % 64 = 0 := by
      rw [neg_one64 y g0 g1]
      split
      · rw [ofI_zero]; rfl
      · rw [toNat_ofI (W := 64) (18446744073709551616 - y) (by omega) (by simp only [Int.reducePow]; omega)]; omega
    rw [sumI_eq (i := 8) (by omega), sumI_eq (i := 13) (by omega), ofI_sumI (i := 10) (by omega), ofI_sumI (i := 12) (by omega)]
    show toI ((ofI 64 x <<< ((ofI 64 y).toNat % 64)) ||| (ofI 64 x >>> ((ofI 64 (sumI 64 1 0 y)).toNat % 64))) = toI ((ofI 64 x).rotateLeft ((ofI 64 y).toNat % 64))
    rw [rotl_parts _ _ (Nat.mod_lt _ (by omega)), k1, k2]
    congr 1
    apply BitVec.eq_of_toNat_eq
    have h9 := (ofI 64 x).isLt
    rw [BitVec.toNat_or, BitVec.toNat_or, BitVec.toNat_ushiftRight, BitVec.toNat_ushiftRight, BitVec.toNat_shiftLeft, Nat.shiftRight_eq_div_pow, Nat.shiftRight_eq_div_pow, Nat.shiftLeft_eq, Nat.pow_zero, Nat.mul_one, Nat.div_one, Nat.mod_eq_of_lt h9, Nat.sub_zero, Nat.div_eq_of_lt h9, Nat.or_self, Nat.or_zero]
  · exact turns3_64 x y g0 g1 h
theorem asks_gs (W : Nat) (x y : Int) : askI W 6 x y + askI W 4 x y = 1 ∧ askI W 7 x y + askI W 5 x y = 1 ∧ askI W 8 x y + askI W 2 x y = 1 ∧ askI W 9 x y + askI W 3 x y = 1 ∧ askI W 1 x y + askI W 0 x y = 1 := by
  have h : ∀ c : Bool, (if (!c) = true then (1 : Int) else 0) + (if c = true then 1 else 0) = 1 := by decide
  refine ⟨h _, h _, h _, h _, h _⟩
theorem tr_cases (c : Bool) : (c = true ∧ tr c = 1) ∨ (c = false ∧ tr c = 0) := by cases c <;> decide
theorem asks3s_32 (x y : Int) (h0 : 0 ≤ x) (h1 : x < 4294967296) (g0 : 0 ≤ y) (g1 : y < 4294967296) : askI 32 0 x y + askI 32 2 x y + askI 32 4 x y = 1 ∧ askI 32 0 x y + askI 32 3 x y + askI 32 5 x y = 1 := by
  rw [ask0_32 x y h0 h1 g0 g1, ask2_32 x y h0 h1 g0 g1, ask3_32 x y h0 h1 g0 g1, ask4_32 x y h0 h1 g0 g1, ask5_32 x y h0 h1 g0 g1]
  unfold tr sg32
  simp only [beq_iff_eq, decide_eq_true_eq]
  constructor <;> (repeat' split) <;> omega
theorem asks3s_64 (x y : Int) (h0 : 0 ≤ x) (h1 : x < 18446744073709551616) (g0 : 0 ≤ y) (g1 : y < 18446744073709551616) : askI 64 0 x y + askI 64 2 x y + askI 64 4 x y = 1 ∧ askI 64 0 x y + askI 64 3 x y + askI 64 5 x y = 1 := by
  rw [ask0_64 x y h0 h1 g0 g1, ask2_64 x y h0 h1 g0 g1, ask3_64 x y h0 h1 g0 g1, ask4_64 x y h0 h1 g0 g1, ask5_64 x y h0 h1 g0 g1]
  unfold tr sg64
  simp only [beq_iff_eq, decide_eq_true_eq]
  constructor <;> (repeat' split) <;> omega
theorem eqz_32 (x : Int) (h0 : 0 ≤ x) (h1 : x < 4294967296) : tr (x == 0) = askI 32 0 x 0 := (ask0_32 x 0 h0 h1 (by omega) (by omega)).symm
theorem eqz_64 (x : Int) (h0 : 0 ≤ x) (h1 : x < 18446744073709551616) : tr (x == 0) = askI 64 0 x 0 := (ask0_64 x 0 h0 h1 (by omega) (by omega)).symm

theorem bitLenAux_lt : ∀ (f x : Nat), x < 2 ^ f → x < 2 ^ Lib.bitLenAux f x
  | 0, x, h => by simpa [Lib.bitLenAux] using h
  | f + 1, x, h => by
    rw [Lib.bitLenAux]
    split
    · omega
    · have c := bitLenAux_lt f (x / 2) (by rw [Nat.pow_succ] at h; omega)
      rw [Nat.add_comm 1, Nat.pow_succ]; omega
theorem popAux_zero (n : Nat) : Lib.popAux n 0 = 0 := by
  induction n with
  | zero => rfl
  | succ n ih => rw [Lib.popAux, Nat.zero_div, ih]
/-- Zeros in front, zeros behind and ones are no more than there are bits. -/
theorem pop_between (W c b x : Nat) (hcb : c ≤ b) (hb : b ≤ W) (h1 : x % 2 ^ c = 0) (h2 : x < 2 ^ b) : Lib.popAux W x + c ≤ b := by
  have A1 := popAux_add c (W - c) x
  rw [show c + (W - c) = W by omega, ← popAux_mod c, h1, popAux_zero] at A1
  have A2 := popAux_add (b - c) (W - b) (x / 2 ^ c)
  rw [show b - c + (W - b) = W - c by omega, Nat.div_div_eq_div_mul, ← Nat.pow_add, show c + (b - c) = b by omega, Nat.div_eq_of_lt h2, popAux_zero] at A2
  have A3 := popAux_le (b - c) (x / 2 ^ c)
  omega
theorem counts {W : Nat} (hW : W ≤ 64) (x : Nat) (h : x ≠ 0) (h1 : x < 2 ^ W) : Lib.popAux W x + Lib.ctz W x ≤ Lib.bitLen x ∧ Lib.bitLen x ≤ W := by
  have hb := Lib.bitLen_le x W hW h1
  have hlt : x < 2 ^ 64 := Nat.lt_of_lt_of_le h1 (Nat.pow_le_pow_right (by omega) hW)
  have hB := bitLenAux_lt 64 x hlt
  change x < 2 ^ Lib.bitLen x at hB
  obtain ⟨m, hm, hc⟩ := Lib.ctzFrom_spec W x (by omega) h1
  have hcz : Lib.ctz W x = Lib.ctzFrom W x := if_neg h
  rw [hcz]
  generalize Lib.ctzFrom W x = c at *
  have hle : 2 ^ c ≤ x := by
    have : 2 ^ c * 1 ≤ 2 ^ c * (2 * m + 1) := Nat.mul_le_mul_left _ (by omega)
    omega
  have hcb : c < Lib.bitLen x := (Nat.pow_lt_pow_iff_right (by omega)).1 (Nat.lt_of_le_of_lt hle hB)
  exact ⟨pop_between W c _ x (Nat.le_of_lt hcb) hb (by rw [hm, Nat.mul_mod_right]) hB, hb⟩
end Go.Proofs.YtfcagbgnlibfpaaDoor.S
