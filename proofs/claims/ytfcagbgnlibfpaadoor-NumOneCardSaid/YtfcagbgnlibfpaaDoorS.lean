/- num, plain: what the operations of two numbers come to, on bit vectors; what the model's sums, shifts and quotients come to, said in these words. No program in it. -/
import Derived.WalkKit
namespace Go.Proofs.YtfcagbgnlibfpaaDoor.A
def sg64 (a : Int) : Int := if a < 9223372036854775808 then a else a - 18446744073709551616
def sg32 (a : Int) : Int := if a < 2147483648 then a else a - 4294967296
/-- 1 or 0. -/
def tr (c : Bool) : Int := if c = true then 1 else 0
end Go.Proofs.YtfcagbgnlibfpaaDoor.A
namespace Go.Proofs.YtfcagbgnlibfpaaDoor.S
open Go.RowKit
set_option linter.unusedVariables false
set_option linter.unusedSimpArgs false

/-- The number of a bit vector, the bit vector of a number. -/
def toI {W : Nat} (x : BitVec W) : Int := (x.toNat : Int)
abbrev ofI (W : Nat) (a : Int) : BitVec W := BitVec.ofInt W a

def askB (W : Nat) (i : Nat) (x y : BitVec W) : Bool :=
  match i with
  | 0 => x == y
  | 1 => x != y
  | 2 => x.slt y
  | 3 => x.ult y
  | 4 => y.slt x
  | 5 => y.ult x
  | 6 => !y.slt x
  | 7 => !y.ult x
  | 8 => !x.slt y
  | _ => !x.ult y

def sumB (W : Nat) (i : Nat) (x y : BitVec W) : BitVec W :=
  match i with
  | 0 => x + y
  | 1 => x - y
  | 2 => x * y
  | 3 => x.sdiv y
  | 4 => x / y
  | 5 => x.srem y
  | 6 => x % y
  | 7 => x &&& y
  | 8 => x ||| y
  | 9 => x ^^^ y
  | 10 => x <<< (y.toNat % W)
  | 11 => x.sshiftRight (y.toNat % W)
  | 12 => x >>> (y.toNat % W)
  | 13 => x.rotateLeft (y.toNat % W)
  | _ => x.rotateRight (y.toNat % W)

def sumE (W : Nat) (i : Nat) (x y : BitVec W) : Int :=
  if (3 ≤ i ∧ i ≤ 6) ∧ y = 0#W then 30 else if i = 3 ∧ x = BitVec.intMin W ∧ y = -1#W then 31 else 0

/-- Of how many bits, on numbers. -/
def askI (W : Nat) (i : Nat) (a b : Int) : Int := if askB W i (ofI W a) (ofI W b) then 1 else 0
def errI (W : Nat) (i : Nat) (a b : Int) : Int := sumE W i (ofI W a) (ofI W b)
def sumI (W : Nat) (i : Nat) (a b : Int) : Int := if errI W i a b = 0 then toI (sumB W i (ofI W a) (ofI W b)) else 0

theorem ofI_toNat {W : Nat} (a : Int) (h0 : 0 ≤ a) (h1 : a < 2 ^ W) : ((ofI W a).toNat : Int) = a := by
  rw [BitVec.toNat_ofInt]
  have : a % ((2 ^ W : Nat) : Int) = a := Int.emod_eq_of_lt h0 (by simpa using h1)
  omega
theorem toI_ofI {W : Nat} (a : Int) (h0 : 0 ≤ a) (h1 : a < 2 ^ W) : toI (ofI W a) = a := ofI_toNat a h0 h1
theorem ofI_toI {W : Nat} (x : BitVec W) : ofI W (toI x) = x := by
  apply BitVec.eq_of_toNat_eq
  unfold toI
  rw [BitVec.toNat_ofInt]
  have : ((x.toNat : Int) % ((2 ^ W : Nat) : Int)) = x.toNat := Int.emod_eq_of_lt (by omega) (by exact_mod_cast x.isLt)
  omega
theorem toI_bd {W : Nat} (x : BitVec W) : 0 ≤ toI x ∧ toI x < 2 ^ W := by
  unfold toI
  exact ⟨by omega, by exact_mod_cast x.isLt⟩
theorem toI_mod {W : Nat} (x : BitVec W) (z : Int) (h : x = ofI W z) : toI x = z % 2 ^ W := by
  subst h
  unfold toI
  rw [BitVec.toNat_ofInt]
  have : 0 ≤ z % ((2 ^ W : Nat) : Int) := Int.emod_nonneg _ (by have := Nat.two_pow_pos W; omega)
  rw [show ((2 : Int) ^ W) = ((2 ^ W : Nat) : Int) by simp]
  omega
/-- As signed. -/
theorem ofI_toInt {W : Nat} (a : Int) (hW : 0 < W) (h0 : 0 ≤ a) (h1 : a < 2 ^ W) : (ofI W a).toInt = if a < 2 ^ (W - 1) then a else a - 2 ^ W := by
  rw [BitVec.toInt_eq_toNat_cond]
  have := ofI_toNat (W := W) a h0 h1
  have e : ((2 : Int) ^ W) = 2 * 2 ^ (W - 1) := by
    obtain ⟨k, rfl⟩ : ∃ k, W = k + 1 := ⟨W - 1, by omega⟩
    simp [Int.pow_succ]; omega
  have e2 : ((2 ^ W : Nat) : Int) = (2 : Int) ^ W := by simp
  by_cases h : a < 2 ^ (W - 1)
  · rw [if_pos h, if_pos (by omega), this]
  · rw [if_neg h, if_neg (by omega), this, e2]

end Go.Proofs.YtfcagbgnlibfpaaDoor.S
