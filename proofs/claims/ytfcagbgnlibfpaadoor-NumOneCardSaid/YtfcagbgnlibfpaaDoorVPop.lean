/- num, plain: counting ones: what the library's sums of fields come to; the laws of counting. No program in it. -/
import Derived.Lib.BitFns
import Derived.Lib.TrailingZeros
namespace Go.Proofs.YtfcagbgnlibfpaaDoor.S
set_option linter.unusedVariables false
set_option linter.unusedSimpArgs false

/-- The sum of the n lowest digits of x to the base M. -/
def ds (M : Nat) : Nat → Nat → Nat
  | 0, _ => 0
  | n + 1, x => x % M + ds M n (x / M)
theorem ds_pop (n x : Nat) : ds 2 n x = Lib.popAux n x := by
  induction n generalizing x with
  | zero => rfl
  | succ n ih => rw [ds, Lib.popAux, ih]
/-- The mask that takes every second digit to the base M. -/
def mk (M : Nat) : Nat → Nat
  | 0 => 0
  | n + 1 => (M - 1) + M * M * mk M n
theorem and_low (k a b x y : Nat) (ha : a < 2 ^ k) (hb : b < 2 ^ k) : (a + 2 ^ k * x) &&& (b + 2 ^ k * y) = (a &&& b) + 2 ^ k * (x &&& y) := by
  apply Nat.eq_of_testBit_eq
  intro i
  have hab : a &&& b < 2 ^ k := Nat.lt_of_le_of_lt Nat.and_le_left ha
  rw [Nat.testBit_and, Nat.add_comm a, Nat.add_comm b, Nat.add_comm (a &&& b), Nat.testBit_two_pow_mul_add _ ha, Nat.testBit_two_pow_mul_add _ hb, Nat.testBit_two_pow_mul_add _ hab]
  split <;> rw [Nat.testBit_and]
/-- One step of the sum: digits by pairs. -/
theorem step_ds (k : Nat) (hk : 1 ≤ k) : ∀ (n x : Nat), ds (2 ^ k * 2 ^ k) n ((x / 2 ^ k &&& mk (2 ^ k) n) + (x &&& mk (2 ^ k) n)) = ds (2 ^ k) (2 * n) x := by
  intro n
  induction n with
  | zero => intro x; rfl
  | succ n ih =>
    intro x
    have hM : 2 ≤ 2 ^ k := by
      calc 2 = 2 ^ 1 := rfl
        _ ≤ 2 ^ k := Nat.pow_le_pow_right (by omega) hk
    have e2 : (2 : Nat) ^ k * 2 ^ k = 2 ^ (k + k) := (Nat.pow_add 2 k k).symm
    have key : ∀ z : Nat, z &&& mk (2 ^ k) (n + 1) = z % 2 ^ k + 2 ^ (k + k) * (z / 2 ^ k / 2 ^ k &&& mk (2 ^ k) n) := by
      intro z
      have hz : z = z % 2 ^ (k + k) + 2 ^ (k + k) * (z / 2 ^ k / 2 ^ k) := by
        rw [Nat.div_div_eq_div_mul, e2, Nat.mod_add_div]
      have h1 : 2 ^ k - 1 < 2 ^ (k + k) := by
        have : 2 ^ k ≤ 2 ^ (k + k) := Nat.pow_le_pow_right (by omega) (by omega)
        omega
      rw [mk, e2]
      conv => lhs; rw [hz]
      rw [and_low (k + k) _ _ _ _ (Nat.mod_lt _ (Nat.two_pow_pos _)) h1, Nat.and_two_pow_sub_one_eq_mod, Nat.mod_mod_of_dvd _ (Nat.pow_dvd_pow 2 (by omega))]
    rw [key, key]
    show _ = ds (2 ^ k) (2 * n + 1 + 1) x
    rw [ds, ds, ds]
    have ihx := ih (x / 2 ^ k / 2 ^ k)
    rw [← e2] at *
    generalize hp : (x / 2 ^ k / 2 ^ k / 2 ^ k &&& mk (2 ^ k) n) = p at *
    generalize hq : (x / 2 ^ k / 2 ^ k &&& mk (2 ^ k) n) = q at *
    generalize hM' : (2 : Nat) ^ k = M at *
    have ha : x / M % M < M := Nat.mod_lt _ (by omega)
    have hb : x % M < M := Nat.mod_lt _ (by omega)
    have hMM : M + M ≤ M * M := by
      have := Nat.mul_le_mul_right M hM
      omega
    have hs : x / M % M + M * M * p + (x % M + M * M * q) = (x / M % M + x % M) + M * M * (p + q) := by rw [Nat.mul_add]; omega
    rw [hs]
    generalize x / M % M = u at *
    generalize x % M = v at *
    have hMM0 : 0 < M * M := by omega
    rw [Nat.add_mul_mod_self_left, Nat.mod_eq_of_lt (by omega : u + v < M * M), Nat.add_mul_div_left _ _ hMM0, Nat.div_eq_of_lt (by omega : u + v < M * M), Nat.zero_add, ihx]
    omega

theorem mk_key (k n z : Nat) (hk : 1 ≤ k) : z &&& mk (2 ^ k) (n + 1) = z % 2 ^ k + 2 ^ k * 2 ^ k * (z / 2 ^ k / 2 ^ k &&& mk (2 ^ k) n) := by
  have e2 : (2 : Nat) ^ k * 2 ^ k = 2 ^ (k + k) := (Nat.pow_add 2 k k).symm
  have hz : z = z % 2 ^ (k + k) + 2 ^ (k + k) * (z / 2 ^ k / 2 ^ k) := by
    rw [Nat.div_div_eq_div_mul, e2, Nat.mod_add_div]
  have h1 : 2 ^ k - 1 < 2 ^ (k + k) := by
    have : 2 ^ k ≤ 2 ^ (k + k) := Nat.pow_le_pow_right (by omega) (by omega)
    have := Nat.two_pow_pos k
    omega
  rw [mk, e2]
  conv => lhs; rw [hz]
  rw [and_low (k + k) _ _ _ _ (Nat.mod_lt _ (Nat.two_pow_pos _)) h1, Nat.and_two_pow_sub_one_eq_mod, Nat.mod_mod_of_dvd _ (Nat.pow_dvd_pow 2 (by omega))]
/-- Each digit to the base M is at most b. -/
def small (M b x : Nat) : Prop := ∀ i, x / M ^ i % M ≤ b
theorem small_div {M b x : Nat} (h : small M b x) : small M b (x / M) := fun i => by
  have := h (i + 1)
  rwa [Nat.pow_succ, Nat.mul_comm, ← Nat.div_div_eq_div_mul] at this
theorem small_step (k : Nat) (hk : 1 ≤ k) : ∀ (n u v : Nat), small (2 ^ k * 2 ^ k) (2 * (2 ^ k - 1)) ((u &&& mk (2 ^ k) n) + (v &&& mk (2 ^ k) n)) := by
  intro n
  induction n with
  | zero => intro u v i; simp [mk]
  | succ n ih =>
    intro u v i
    rw [mk_key k n u hk, mk_key k n v hk]
    have hM : 2 ≤ 2 ^ k := by
      calc 2 = 2 ^ 1 := rfl
        _ ≤ 2 ^ k := Nat.pow_le_pow_right (by omega) hk
    have ih' := ih (u / 2 ^ k / 2 ^ k) (v / 2 ^ k / 2 ^ k)
    generalize (u / 2 ^ k / 2 ^ k &&& mk (2 ^ k) n) = p at *
    generalize (v / 2 ^ k / 2 ^ k &&& mk (2 ^ k) n) = q at *
    generalize (2 : Nat) ^ k = M at *
    have ha : u % M < M := Nat.mod_lt _ (by omega)
    have hb : v % M < M := Nat.mod_lt _ (by omega)
    have hMM : M + M ≤ M * M := by
      have := Nat.mul_le_mul_right M hM
      omega
    generalize u % M = a at *
    generalize v % M = b at *
    have hs : a + M * M * p + (b + M * M * q) = (a + b) + M * M * (p + q) := by rw [Nat.mul_add]; omega
    rw [hs]
    cases i with
    | zero => rw [Nat.pow_zero, Nat.div_one, Nat.add_mul_mod_self_left, Nat.mod_eq_of_lt (by omega : a + b < M * M)]; omega
    | succ i =>
      have := ih' i
      rw [Nat.pow_succ, Nat.mul_comm ((M * M) ^ i), ← Nat.div_div_eq_div_mul, Nat.add_mul_div_left _ _ (by omega : 0 < M * M), Nat.div_eq_of_lt (by omega : a + b < M * M), Nat.zero_add]
      exact this
theorem dig16 (y : Nat) : y = y % 16 + 16 * (y / 16) := by omega
/-- No digit runs over: the sum may be taken before the mask. -/
theorem mask_late : ∀ (n x : Nat), small 16 7 x → (x / 16 + x) &&& mk 16 n = (x / 16 &&& mk 16 n) + (x &&& mk 16 n) := by
  intro n
  induction n with
  | zero => intro x _; simp [mk]
  | succ n ih =>
    intro x h
    have k1 := mk_key 4 n (x / 16 + x) (by omega)
    have k2 := mk_key 4 n (x / 16) (by omega)
    have k3 := mk_key 4 n x (by omega)
    have h0 := h 0
    have h1 := h 1
    have h2 := h 2
    simp only [Nat.reducePow, Nat.reduceMul, Nat.div_one] at k1 k2 k3 h0 h1 h2
    have ihx := ih (x / 16 / 16) (small_div (small_div h))
    have g0 := dig16 x
    have g1 := dig16 (x / 16)
    have g2 := dig16 (x / 16 / 16)
    rw [show (256 : Nat) = 16 * 16 from rfl, ← Nat.div_div_eq_div_mul] at h2
    have e1 : (x / 16 + x) / 16 = x / 16 + x / 16 / 16 := by omega
    have e2 : (x / 16 + x / 16 / 16) / 16 = x / 16 / 16 / 16 + x / 16 / 16 := by omega
    have e3 : (x / 16 + x) % 16 = x / 16 % 16 + x % 16 := by omega
    rw [k1, k2, k3, e1, e2, e3, ihx]
    omega
/-- One digit more. -/
theorem dig (y : Nat) : y = y % 256 + 256 * (y / 256) := by omega
theorem fold_lt (y : Nat) (hy : y / 72057594037927936 ≤ 30) :
    y + y / 256 < 2 ^ 64 ∧ (y + y / 256) + (y + y / 256) / 65536 < 2 ^ 64 ∧
    (y + y / 256) + (y + y / 256) / 65536 + ((y + y / 256) + (y + y / 256) / 65536) / 4294967296 < 2 ^ 64 := by
  have h1 : y < 2233785415175766016 := by omega
  clear hy
  have h2 : y / 256 ≤ y := Nat.div_le_self _ _
  generalize hz : y + y / 256 = z at *
  have h3 : z < 2251799813685248000 * 2 := by omega
  have h4 : z / 65536 ≤ 68719476736000 := by omega
  generalize hu : z + z / 65536 = u at *
  omega
theorem fold (y : Nat) (h : small 256 30 y) (h8 : y / 256 ^ 8 = 0) :
    ((y + y / 256) + (y + y / 256) / 65536 + ((y + y / 256) + (y + y / 256) / 65536) / 4294967296) % 128 = ds 256 8 y % 128 := by
  have h0 := h 0
  have h1 := h 1
  have h2 := h 2
  have h3 := h 3
  have h4 := h 4
  have h5 := h 5
  have h6 := h 6
  have h7 := h 7
  simp only [ds, Nat.pow_succ, Nat.pow_zero, Nat.one_mul, Nat.div_one, ← Nat.div_div_eq_div_mul] at *
  have e0 := dig y
  generalize y / 256 = Y1 at *
  have e1 := dig Y1
  generalize Y1 / 256 = Y2 at *
  have e2 := dig Y2
  generalize Y2 / 256 = Y3 at *
  have e3 := dig Y3
  generalize Y3 / 256 = Y4 at *
  have e4 := dig Y4
  generalize Y4 / 256 = Y5 at *
  have e5 := dig Y5
  generalize Y5 / 256 = Y6 at *
  have e6 := dig Y6
  generalize Y6 / 256 = Y7 at *
  have e7 := dig Y7
  rw [h8] at e7
  clear h8 h
  generalize y % 256 = d0 at *
  generalize Y1 % 256 = d1 at *
  generalize Y2 % 256 = d2 at *
  generalize Y3 % 256 = d3 at *
  generalize Y4 % 256 = d4 at *
  generalize Y5 % 256 = d5 at *
  generalize Y6 % 256 = d6 at *
  generalize Y7 % 256 = d7 at *
  have a1 : y + Y1 = (d0 + d1) + 256 * (Y1 + Y2) := by omega
  have dv : ∀ a b : Nat, a < 256 → (a + 256 * b) / 256 = b := by omega
  have a2 : (y + Y1) / 65536 = Y2 + Y3 := by
    rw [a1, show (65536 : Nat) = 256 * 256 from rfl, ← Nat.div_div_eq_div_mul, dv (d0 + d1) (Y1 + Y2) (by omega),
      show Y1 + Y2 = (d1 + d2) + 256 * (Y2 + Y3) by omega, dv (d1 + d2) (Y2 + Y3) (by omega)]
  rw [a2, a1]
  have a3 : d0 + d1 + 256 * (Y1 + Y2) + (Y2 + Y3) = (d0 + d1 + d2 + d3) + 256 * (Y1 + Y2 + Y3 + Y4) := by omega
  have a4 : (d0 + d1 + d2 + d3 + 256 * (Y1 + Y2 + Y3 + Y4)) / 4294967296 = Y4 + Y5 + Y6 + Y7 := by
    rw [show (4294967296 : Nat) = 256 * 256 * 256 * 256 from rfl, ← Nat.div_div_eq_div_mul, ← Nat.div_div_eq_div_mul, ← Nat.div_div_eq_div_mul, dv (d0 + d1 + d2 + d3) _ (by omega),
      show Y1 + Y2 + Y3 + Y4 = (d1 + d2 + d3 + d4) + 256 * (Y2 + Y3 + Y4 + Y5) by omega, dv (d1 + d2 + d3 + d4) _ (by omega),
      show Y2 + Y3 + Y4 + Y5 = (d2 + d3 + d4 + d5) + 256 * (Y3 + Y4 + Y5 + Y6) by omega, dv (d2 + d3 + d4 + d5) _ (by omega),
      show Y3 + Y4 + Y5 + Y6 = (d3 + d4 + d5 + d6) + 256 * (Y4 + Y5 + Y6 + Y7) by omega, dv (d3 + d4 + d5 + d6) _ (by omega)]
  rw [a3, a4]
  have a5 : d0 + d1 + d2 + d3 + 256 * (Y1 + Y2 + Y3 + Y4) + (Y4 + Y5 + Y6 + Y7) = (d0 + d1 + d2 + d3 + d4 + d5 + d6 + d7) + 128 * (2 * (Y1 + Y2 + Y3 + Y4 + Y5 + Y6 + Y7)) := by omega
  rw [a5, Nat.add_mul_mod_self_left]
  congr 1
  omega
theorem popAux_le (n x : Nat) : Lib.popAux n x ≤ n := by
  induction n generalizing x with
  | zero => exact Nat.le_refl _
  | succ n ih =>
    rw [Lib.popAux]
    have := ih (x / 2)
    omega
theorem popAux_add (m n x : Nat) : Lib.popAux (m + n) x = Lib.popAux m x + Lib.popAux n (x / 2 ^ m) := by
  induction m generalizing x with
  | zero => simp [Lib.popAux]
  | succ m ih =>
    rw [show m + 1 + n = (m + n) + 1 by omega, Lib.popAux, Lib.popAux, ih, Nat.pow_succ, Nat.mul_comm (2 ^ m), ← Nat.div_div_eq_div_mul]
    omega
theorem popAux_mod (m x : Nat) : Lib.popAux m (x % 2 ^ m) = Lib.popAux m x := by
  induction m generalizing x with
  | zero => rfl
  | succ m ih =>
    rw [Lib.popAux, Lib.popAux, Nat.pow_succ, Nat.mul_comm (2 ^ m), Nat.mod_mul_right_div_self, ih, Nat.mod_mul_right_mod]
theorem mk_1 : mk (2 ^ 1) 32 = 6148914691236517205 := by decide
theorem mk_2 : mk (2 ^ 2) 16 = 3689348814741910323 := by decide
theorem mk_4 : mk (2 ^ 4) 8 = 1085102592571150095 := by decide
/-- The library's sum of fields: 64 bits. -/
theorem pop64 (x y1 y2 y3 : Nat) (e1 : y1 = (x / 2 &&& 6148914691236517205) + (x &&& 6148914691236517205)) (e2 : y2 = (y1 / 4 &&& 3689348814741910323) + (y1 &&& 3689348814741910323))
    (e3 : y3 = (y2 / 16 + y2) &&& 1085102592571150095) :
    y3 + y3 / 256 < 2 ^ 64 ∧ (y3 + y3 / 256) + (y3 + y3 / 256) / 65536 < 2 ^ 64 ∧
    (y3 + y3 / 256) + (y3 + y3 / 256) / 65536 + ((y3 + y3 / 256) + (y3 + y3 / 256) / 65536) / 4294967296 < 2 ^ 64 ∧
    ((y3 + y3 / 256) + (y3 + y3 / 256) / 65536 + ((y3 + y3 / 256) + (y3 + y3 / 256) / 65536) / 4294967296) % 128 = Lib.popAux 64 x := by
  have s1 := step_ds 1 (by omega) 32 x
  have s2 := step_ds 2 (by omega) 16 y1
  have s3 := step_ds 4 (by omega) 8 y2
  have m2 := small_step 2 (by omega) 16 (y1 / 4) y1
  have m3 := small_step 4 (by omega) 8 (y2 / 16) y2
  rw [mk_1] at s1
  rw [mk_2] at s2 m2
  rw [mk_4] at s3 m3
  simp only [Nat.reducePow, Nat.reduceMul, Nat.reduceSub] at s1 s2 s3 m2 m3
  rw [← e1] at s1
  rw [← e2] at s2 m2
  have l := mask_late 8 y2 (fun i => Nat.le_trans (m2 i) (by decide))
  rw [show mk 16 8 = 1085102592571150095 by decide] at l
  rw [← l, ← e3] at s3 m3
  have b3 : y3 ≤ 1085102592571150095 := by rw [e3]; exact Nat.and_le_right
  have f1 := fold_lt y3 (by omega)
  have f2 := fold y3 m3 (Nat.div_eq_of_lt (by simp only [Nat.reducePow]; omega))
  refine ⟨f1.1, f1.2.1, f1.2.2, ?_⟩
  rw [f2, s3, s2, s1, ds_pop]
  have := popAux_le 64 x
  omega
end Go.Proofs.YtfcagbgnlibfpaaDoor.S
