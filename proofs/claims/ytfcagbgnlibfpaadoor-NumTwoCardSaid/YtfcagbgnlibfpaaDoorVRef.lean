/- num, plain: the reference's functions, as the printed texts spell them: what Bits, Number, Fits, cut, Bit, less, minus, asks come to. No program in it. -/
import Derived.Test.YtfcagbgnlibfpaaDoorPNumTwox3
import Derived.Test.YtfcagbgnlibfpaaDoorU
namespace Go.Proofs.YtfcagbgnlibfpaaDoor.S
open Go.RowKit Go.Proofs.YtfcagbgnlibfpaaDoor.A Go.Proofs.YtfcagbgnlibfpaaDoor.PNumTwo Go.Proofs.YtfcagbgnlibfpaaDoorW.PrintWords
set_option linter.unusedVariables false
set_option linter.unusedSimpArgs false

theorem w64 (n : Int) (h0 : -9223372036854775808 ≤ n) (h1 : n < 9223372036854775808) : wrap64 n = n := by unfold wrap64; omega
theorem u64w (n : Int) (h0 : 0 ≤ n) (h1 : n < 18446744073709551616) : IntKind.u64.wrap n = n := by rw [IntKind.wrap_u64]; omega
theorem tdiv2 (x : Int) (h : 0 ≤ x) : Int.tdiv x 2 = x / 2 := Int.tdiv_eq_ediv_of_nonneg h
theorem tmod2 (x : Int) (h : 0 ≤ x) : Int.tmod x 2 = x % 2 := Int.tmod_eq_emod_of_nonneg h

/-- A number's bits, from the lowest one on; a number of bits. -/
def bl : Int → Nat → List Int
  | _, 0 => []
  | x, m + 1 => x % 2 :: bl (x / 2) m
def nb : List Int → Int
  | [] => 0
  | b :: r => b + 2 * nb r
theorem bl_length (m : Nat) : ∀ x, (bl x m).length = m := by
  induction m with
  | zero => intro x; rfl
  | succ m ih => intro x; simp [bl, ih]
theorem bl_get (m : Nat) : ∀ (x : Int) (i : Nat), i < m → (bl x m).getD i 0 = x / 2 ^ i % 2 := by
  induction m with
  | zero => intro x i h; omega
  | succ m ih =>
    intro x i h
    cases i with
    | zero => simp [bl]
    | succ i =>
      have := ih (x / 2) i (by omega)
      simp only [bl, List.getD_cons_succ]
      rw [this, Int.ediv_ediv_of_nonneg (by omega), Int.pow_succ, Int.mul_comm]
theorem nb_bl (m : Nat) : ∀ (x : Int), nb (bl x m) = x % 2 ^ m := by
  induction m with
  | zero => intro x; simp [bl, nb]
  | succ m ih =>
    intro x
    show x % 2 + 2 * nb (bl (x / 2) m) = _
    rw [ih, Int.pow_succ]
    have hp : (0 : Int) < 2 ^ m := Int.pow_pos (by omega)
    generalize (2 : Int) ^ m = p at *
    have h1 := Int.emod_add_mul_ediv (x / 2) p
    have h2 := Int.emod_nonneg (x / 2) (by omega : p ≠ 0)
    have h3 := Int.emod_lt_of_pos (x / 2) hp
    have e : x = (x % 2 + 2 * (x / 2 % p)) + (p * 2) * (x / 2 / p) := by
      have h4 : (p * 2) * (x / 2 / p) = 2 * (p * (x / 2 / p)) := by rw [Int.mul_comm p 2, Int.mul_assoc]
      rw [h4]
      generalize p * (x / 2 / p) = t at *
      omega
    have h5 : (x % 2 + 2 * (x / 2 % p) + (p * 2) * (x / 2 / p)) % (p * 2) = x % 2 + 2 * (x / 2 % p) := by
      rw [Int.add_mul_emod_self_left]
      exact Int.emod_eq_of_lt (by omega) (by omega)
    rw [← e] at h5
    exact h5.symm
/-- Noughts and ones. -/
def isB (l : List Int) : Prop := ∀ b ∈ l, b = 0 ∨ b = 1
theorem bl_isB (m : Nat) : ∀ x, isB (bl x m) := by
  induction m with
  | zero => intro x b hb; cases hb
  | succ m ih =>
    intro x b hb
    rcases List.mem_cons.1 hb with rfl | hb
    · omega
    · exact ih _ b hb
theorem nb_bd : ∀ (l : List Int), isB l → 0 ≤ nb l ∧ nb l < 2 ^ l.length
  | [], _ => by simp [nb]
  | b :: r, h => by
    have ih := nb_bd r (fun x hx => h x (List.mem_cons_of_mem _ hx))
    have hb := h b (List.mem_cons_self ..)
    simp only [nb, List.length_cons, Int.pow_succ]
    omega
theorem Bits_l0 (W : Nat) (hW : W ≤ 64) : ∀ (m k : Nat) (x : Int) (acc : List Int) (i : Nat), i + m = W → m < k → 0 ≤ x → x < 18446744073709551616 → acc.length = i →
    geoderef03_Bits.l0 k x (W : Int) acc (i : Int) = some (acc ++ bl x m)
  | 0, k + 1, x, acc, i, hi, hk, h0, h1, ha => by
    simp only [geoderef03_Bits.l0]
    rw [if_neg (by omega)]
    simp [bl]
  | m + 1, k + 1, x, acc, i, hi, hk, h0, h1, ha => by
    simp only [geoderef03_Bits.l0]
    rw [if_pos (by omega), if_pos (by omega), tdiv2 x h0, tmod2 x h0, u64w _ (by omega) (by omega), w64 (x % 2) (by omega) (by omega), w64 ((i : Int) + 1) (by omega) (by omega)]
    have := Bits_l0 W hW m k (x / 2) (acc ++ [x % 2]) (i + 1) (by omega) (by omega) (by omega) (by omega) (by simp [ha])
    rw [show ((i + 1 : Nat) : Int) = (i : Int) + 1 by omega] at this
    rw [this]
    simp [bl]
theorem Bits_f (W : Nat) (hW : W ≤ 64) (k : Nat) (hk : W < k) (x : Int) (h0 : 0 ≤ x) (h1 : x < 18446744073709551616) : geoderef03_Bits.f k x W = some (bl x W) := by
  have := Bits_l0 W hW W k x [] 0 (by omega) hk h0 h1 rfl
  simpa [geoderef03_Bits.f] using this
theorem drop_cons (l : List Int) (i : Nat) (h : i < l.length) : l.drop i = l.getD i 0 :: l.drop (i + 1) := by
  rw [List.drop_eq_getElem_cons h]; simp [List.getD, h]
theorem Number_l0 (l : List Int) (hl : l.length ≤ 64) (hb : isB l) : ∀ (m k : Nat), m ≤ l.length → m < k → geoderef03_Number.l0 k l (nb (l.drop m)) ((m : Int) - 1) = some (nb l)
  | 0, k + 1, hm, hk => by
    simp only [geoderef03_Number.l0]
    rw [if_neg (by omega)]
    simp
  | m + 1, k + 1, hm, hk => by
    have ih := Number_l0 l hl hb m k (by omega) (by omega)
    have hd := drop_cons l m (by omega)
    have hB : isB (l.drop m) := fun b hb' => hb b (List.mem_of_mem_drop hb')
    have h1 := nb_bd _ hB
    have hlen : (l.drop m).length ≤ 64 := by simp; omega
    have hp : (2 : Int) ^ (l.drop m).length ≤ 2 ^ 64 := by
      have := Nat.pow_le_pow_right (n := 2) (by omega) hlen
      exact_mod_cast this
    have hbit := hB (l.getD m 0) (by rw [hd]; exact List.mem_cons_self ..)
    have hn : nb (l.drop m) = l.getD m 0 + 2 * nb (l.drop (m + 1)) := by conv => lhs; rw [hd]; simp only [nb]
    simp only [Int.reducePow] at hp
    have hrd : rd l ((m + 1 : Nat) - 1 : Int) = l.getD m 0 := by
      unfold rd
      congr 1
      omega
    simp only [geoderef03_Number.l0]
    rw [if_pos (by omega), if_pos (by omega), if_pos (by omega), hrd]
    generalize l.getD m 0 = b at *
    generalize nb (l.drop (m + 1)) = n1 at *
    rw [hn] at h1 ih
    rw [u64w (n1 * 2) (by omega) (by omega), u64w b (by omega) (by omega), u64w (n1 * 2 + b) (by omega) (by omega), w64 _ (by omega) (by omega)]
    rw [show n1 * 2 + b = b + 2 * n1 by omega, show ((m + 1 : Nat) : Int) - 1 - 1 = (m : Int) - 1 by omega]
    exact ih
theorem Number_f (l : List Int) (hl : l.length ≤ 64) (hb : isB l) (k : Nat) (hk : l.length < k) : geoderef03_Number.f k l = some (nb l) := by
  have := Number_l0 l hl hb l.length k (Nat.le_refl _) hk
  rw [List.drop_length] at this
  unfold geoderef03_Number.f
  rw [w64 _ (by omega) (by omega)]
  exact this

theorem nb_small (x : Int) (W : Nat) : nb (bl x W) = x % 2 ^ W := nb_bl W x
theorem cut_f (W : Nat) (hW : W ≤ 64) (k : Nat) (hk : W < k) (x : Int) (h0 : 0 ≤ x) (h1 : x < 18446744073709551616) : geoderef03_cut.f k x W = some (x % 2 ^ W) := by
  unfold geoderef03_cut.f
  rw [Bits_f W hW k hk x h0 h1]
  show (geoderef03_Number.f k (bl x W)).bind _ = _
  rw [Number_f _ (by rw [bl_length]; exact hW) (bl_isB _ _) k (by rw [bl_length]; exact hk), nb_bl]
  rfl
theorem Fits_f (W : Nat) (hW : W ≤ 64) (k : Nat) (hk : W < k) (x : Int) (h0 : 0 ≤ x) (h1 : x < 18446744073709551616) : geoderef03_Fits.f k x W = some (x % 2 ^ W == x) := by
  unfold geoderef03_Fits.f
  rw [Bits_f W hW k hk x h0 h1]
  show (geoderef03_Number.f k (bl x W)).bind _ = _
  rw [Number_f _ (by rw [bl_length]; exact hW) (bl_isB _ _) k (by rw [bl_length]; exact hk), nb_bl]
  rfl
theorem Bit_l0 (p : Nat) (hp : p ≤ 64) : ∀ (m k : Nat) (x : Int) (i : Nat), i + m = p → m < k → 0 ≤ x → x < 18446744073709551616 → geoderef03_Bit.l0 k x (p : Int) (i : Int) = some (x / 2 ^ m % 2)
  | 0, k + 1, x, i, hi, hk, h0, h1 => by
    simp only [geoderef03_Bit.l0]
    rw [if_neg (by omega), tmod2 x h0, w64 _ (by omega) (by omega)]
    simp
  | m + 1, k + 1, x, i, hi, hk, h0, h1 => by
    simp only [geoderef03_Bit.l0]
    rw [if_pos (by omega), tdiv2 x h0, u64w _ (by omega) (by omega), w64 ((i : Int) + 1) (by omega) (by omega)]
    have := Bit_l0 p hp m k (x / 2) (i + 1) (by omega) (by omega) (by omega) (by omega)
    rw [show ((i + 1 : Nat) : Int) = (i : Int) + 1 by omega] at this
    rw [this, Int.ediv_ediv_of_nonneg (by omega), Int.pow_succ, Int.mul_comm]
theorem Bit_f (p : Nat) (hp : p ≤ 64) (k : Nat) (hk : p < k) (x : Int) (h0 : 0 ≤ x) (h1 : x < 18446744073709551616) : geoderef03_Bit.f k x p = some (x / 2 ^ p % 2) := by
  have := Bit_l0 p hp p k x 0 (by omega) hk h0 h1
  simpa [geoderef03_Bit.f] using this
theorem yes_f (c : Bool) : geoderef03_yes.f c = some (tr c) := by cases c <;> rfl
theorem Bit_32 (k : Nat) (hk : 64 < k) (x : Int) (h0 : 0 ≤ x) (h1 : x < 4294967296) : geoderef03_Bit.f k x (wrap64 ((32 : Int) - 1)) = some (if x < 2147483648 then 0 else 1) := by
  have := Bit_f 31 (by decide) k (by omega) x h0 (by omega)
  rw [w64 _ (by decide) (by decide)]
  rw [show ((32 : Int) - 1) = ((31 : Nat) : Int) by decide, this]
  congr 1
  simp only [Int.reducePow]
  split <;> omega
theorem less_32 (k : Nat) (hk : 64 < k) (a b : Int) (h0 : 0 ≤ a) (h1 : a < 4294967296) (g0 : 0 ≤ b) (g1 : b < 4294967296) : geoderef03_less.f k a b 32 = some (decide (sg32 a < sg32 b)) := by
  unfold geoderef03_less.f
  rw [Bit_32 k hk a h0 h1, Bit_32 k hk b g0 g1]
  simp only [Option.bind_some]
  unfold sg32
  by_cases ha : a < 2147483648 <;> by_cases hb : b < 2147483648
  · rw [if_pos ha, if_pos hb, if_pos ha, if_pos hb, if_pos rfl]
  · rw [if_pos ha, if_neg hb, if_pos ha, if_neg hb, if_neg (by decide)]
    congr 1
    rw [decide_eq_false (by omega)]; rfl
  · rw [if_neg ha, if_pos hb, if_neg ha, if_pos hb, if_neg (by decide)]
    congr 1
    rw [decide_eq_true (by omega)]; rfl
  · rw [if_neg ha, if_neg hb, if_neg ha, if_neg hb, if_pos rfl]
    congr 1
    rw [decide_eq_decide]
    omega
theorem asks_32 (k : Nat) (hk : 64 < k) (i : Nat) (hi : i < 10) (a b : Int) (h0 : 0 ≤ a) (h1 : a < 4294967296) (g0 : 0 ≤ b) (g1 : b < 4294967296) : (geoderef03_asks.f k (10 + i : Nat) 32 a b).bind (fun t => geoderef03_yes.f t) = some (askI 32 i a b) := by
  have L1 := less_32 k hk a b h0 h1 g0 g1
  have L2 := less_32 k hk b a g0 g1 h0 h1
  unfold geoderef03_asks.f
  rw [L1, L2]
  match i, hi with
  | 0, _ => rw [ask0_32 a b h0 h1 g0 g1]; exact yes_f _
  | 1, _ => rw [ask1_32 a b h0 h1 g0 g1]; exact yes_f _
  | 2, _ => rw [ask2_32 a b h0 h1 g0 g1]; exact yes_f _
  | 3, _ => rw [ask3_32 a b h0 h1 g0 g1]; exact yes_f _
  | 4, _ => rw [ask4_32 a b h0 h1 g0 g1]; exact yes_f _
  | 5, _ => rw [ask5_32 a b h0 h1 g0 g1]; exact yes_f _
  | 6, _ => rw [ask6_32 a b h0 h1 g0 g1]; exact (yes_f _).trans (congrArg (fun c => some (tr c)) (nlt _ _))
  | 7, _ => rw [ask7_32 a b h0 h1 g0 g1]; exact yes_f _
  | 8, _ => rw [ask8_32 a b h0 h1 g0 g1]; exact (yes_f _).trans (congrArg (fun c => some (tr c)) (nlt _ _))
  | 9, _ => rw [ask9_32 a b h0 h1 g0 g1]; exact yes_f _
theorem minus_32 (k : Nat) (hk : 64 < k) (a : Int) (h0 : 0 ≤ a) (h1 : a < 18446744073709551616) : geoderef03_minus.f k a 32 = some ((-a) % 4294967296) := by
  unfold geoderef03_minus.f
  have hw : IntKind.u64.wrap (-a) = (-a) % 18446744073709551616 := IntKind.wrap_u64 _
  have := cut_f 32 (by decide) k (by omega) (IntKind.u64.wrap (-a)) (by rw [hw]; omega) (by rw [hw]; omega)
  rw [show (((32 : Nat) : Int)) = 32 from rfl] at this
  rw [this]
  simp only [Option.bind_some, Int.reducePow]
  congr 1
  rw [hw]
  omega
theorem Bit_64 (k : Nat) (hk : 64 < k) (x : Int) (h0 : 0 ≤ x) (h1 : x < 18446744073709551616) : geoderef03_Bit.f k x (wrap64 ((64 : Int) - 1)) = some (if x < 9223372036854775808 then 0 else 1) := by
  have := Bit_f 63 (by decide) k (by omega) x h0 (by omega)
  rw [w64 _ (by decide) (by decide)]
  rw [show ((64 : Int) - 1) = ((63 : Nat) : Int) by decide, this]
  congr 1
  simp only [Int.reducePow]
  split <;> omega
theorem less_64 (k : Nat) (hk : 64 < k) (a b : Int) (h0 : 0 ≤ a) (h1 : a < 18446744073709551616) (g0 : 0 ≤ b) (g1 : b < 18446744073709551616) : geoderef03_less.f k a b 64 = some (decide (sg64 a < sg64 b)) := by
  unfold geoderef03_less.f
  rw [Bit_64 k hk a h0 h1, Bit_64 k hk b g0 g1]
  simp only [Option.bind_some]
  unfold sg64
  by_cases ha : a < 9223372036854775808 <;> by_cases hb : b < 9223372036854775808
  · rw [if_pos ha, if_pos hb, if_pos ha, if_pos hb, if_pos rfl]
  · rw [if_pos ha, if_neg hb, if_pos ha, if_neg hb, if_neg (by decide)]
    congr 1
    rw [decide_eq_false (by omega)]; rfl
  · rw [if_neg ha, if_pos hb, if_neg ha, if_pos hb, if_neg (by decide)]
    congr 1
    rw [decide_eq_true (by omega)]; rfl
  · rw [if_neg ha, if_neg hb, if_neg ha, if_neg hb, if_pos rfl]
    congr 1
    rw [decide_eq_decide]
    omega
theorem asks_64 (k : Nat) (hk : 64 < k) (i : Nat) (hi : i < 10) (a b : Int) (h0 : 0 ≤ a) (h1 : a < 18446744073709551616) (g0 : 0 ≤ b) (g1 : b < 18446744073709551616) : (geoderef03_asks.f k (10 + i : Nat) 64 a b).bind (fun t => geoderef03_yes.f t) = some (askI 64 i a b) := by
  have L1 := less_64 k hk a b h0 h1 g0 g1
  have L2 := less_64 k hk b a g0 g1 h0 h1
  unfold geoderef03_asks.f
  rw [L1, L2]
  match i, hi with
  | 0, _ => rw [ask0_64 a b h0 h1 g0 g1]; exact yes_f _
  | 1, _ => rw [ask1_64 a b h0 h1 g0 g1]; exact yes_f _
  | 2, _ => rw [ask2_64 a b h0 h1 g0 g1]; exact yes_f _
  | 3, _ => rw [ask3_64 a b h0 h1 g0 g1]; exact yes_f _
  | 4, _ => rw [ask4_64 a b h0 h1 g0 g1]; exact yes_f _
  | 5, _ => rw [ask5_64 a b h0 h1 g0 g1]; exact yes_f _
  | 6, _ => rw [ask6_64 a b h0 h1 g0 g1]; exact (yes_f _).trans (congrArg (fun c => some (tr c)) (nlt _ _))
  | 7, _ => rw [ask7_64 a b h0 h1 g0 g1]; exact yes_f _
  | 8, _ => rw [ask8_64 a b h0 h1 g0 g1]; exact (yes_f _).trans (congrArg (fun c => some (tr c)) (nlt _ _))
  | 9, _ => rw [ask9_64 a b h0 h1 g0 g1]; exact yes_f _
theorem minus_64 (k : Nat) (hk : 64 < k) (a : Int) (h0 : 0 ≤ a) (h1 : a < 18446744073709551616) : geoderef03_minus.f k a 64 = some ((-a) % 18446744073709551616) := by
  unfold geoderef03_minus.f
  have hw : IntKind.u64.wrap (-a) = (-a) % 18446744073709551616 := IntKind.wrap_u64 _
  have := cut_f 64 (by decide) k (by omega) (IntKind.u64.wrap (-a)) (by rw [hw]; omega) (by rw [hw]; omega)
  rw [show (((64 : Nat) : Int)) = 64 from rfl] at this
  rw [this]
  simp only [Option.bind_some, Int.reducePow]
  congr 1
  rw [hw]
  omega
end Go.Proofs.YtfcagbgnlibfpaaDoor.S
