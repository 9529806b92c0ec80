/- num, plain: the reference's function One and those it calls, as the printed texts spell them: what Bits, Number, Fits, cut, Bit, less, minus, asks come to. No program in it. -/
import Derived.Test.YtfcagbgnlibfpaaDoorPNumOnex3
import Derived.Test.YtfcagbgnlibfpaaDoorPNumOnex2
import Derived.Test.YtfcagbgnlibfpaaDoorPNumOnex4
import Derived.Test.YtfcagbgnlibfpaaDoorU
import Derived.Test.YtfcagbgnlibfpaaDoorI
import Derived.Test.YtfcagbgnlibfpaaDoorVPop
import Derived.Lib.TrailingZeros
namespace Go.Proofs.YtfcagbgnlibfpaaDoor.S1
open Go.RowKit Go.Proofs.YtfcagbgnlibfpaaDoor.A Go.Proofs.YtfcagbgnlibfpaaDoor.S Go.Proofs.YtfcagbgnlibfpaaDoor.PNumOne Go.Proofs.YtfcagbgnlibfpaaDoorW.PrintWords
set_option linter.unusedVariables false
set_option linter.unusedSimpArgs false

theorem w64 (n : Int) (h0 : -9223372036854775808 ≤ n) (h1 : n < 9223372036854775808) : wrap64 n = n := by unfold wrap64; omega
theorem u64w (n : Int) (h0 : 0 ≤ n) (h1 : n < 18446744073709551616) : IntKind.u64.wrap n = n := by rw [IntKind.wrap_u64]; omega
theorem tdiv2 (x : Int) (h : 0 ≤ x) : Int.tdiv x 2 = x / 2 := Int.tdiv_eq_ediv_of_nonneg h
theorem tmod2 (x : Int) (h : 0 ≤ x) : Int.tmod x 2 = x % 2 := Int.tmod_eq_emod_of_nonneg h

/-- A number's bits, from the lowest one on; a number of bits. -/
def bl : Int → Nat → List Int
  | _, 0 => []
  | x, m + 1 => x % 2 :: bl (x / 2) m
def nb : List Int → Int
  | [] => 0
  | b :: r => b + 2 * nb r
theorem bl_length (m : Nat) : ∀ x, (bl x m).length = m := by
  induction m with
  | zero => intro x; rfl
  | succ m ih => intro x; simp [bl, ih]
theorem bl_get (m : Nat) : ∀ (x : Int) (i : Nat), i < m → (bl x m).getD i 0 = x / 2 ^ i % 2 := by
  induction m with
  | zero => intro x i h; omega
  | succ m ih =>
    intro x i h
    cases i with
    | zero => simp [bl]
    | succ i =>
      have := ih (x / 2) i (by omega)
      simp only [bl, List.getD_cons_succ]
      rw [this, Int.ediv_ediv_of_nonneg (by omega), Int.pow_succ, Int.mul_comm]
theorem nb_bl (m : Nat) : ∀ (x : Int), nb (bl x m) = x % 2 ^ m := by
  induction m with
  | zero => intro x; simp [bl, nb]
  | succ m ih =>
    intro x
    show x % 2 + 2 * nb (bl (x / 2) m) = _
    rw [ih, Int.pow_succ]
    have hp : (0 : Int) < 2 ^ m := Int.pow_pos (by omega)
    generalize (2 : Int) ^ m = p at *
    have h1 := Int.emod_add_mul_ediv (x / 2) p
    have h2 := Int.emod_nonneg (x / 2) (by omega : p ≠ 0)
    have h3 := Int.emod_lt_of_pos (x / 2) hp
    have e : x = (x % 2 + 2 * (x / 2 % p)) + (p * 2) * (x / 2 / p) := by
      have h4 : (p * 2) * (x / 2 / p) = 2 * (p * (x / 2 / p)) := by rw [Int.mul_comm p 2, Int.mul_assoc]
      rw [h4]
      generalize p * (x / 2 / p) = t at *
      omega
    have h5 : (x % 2 + 2 * (x / 2 % p) + (p * 2) * (x / 2 / p)) % (p * 2) = x % 2 + 2 * (x / 2 % p) := by
      rw [Int.add_mul_emod_self_left]
      exact Int.emod_eq_of_lt (by omega) (by omega)
    rw [← e] at h5
    exact h5.symm
/-- Noughts and ones. -/
def isB (l : List Int) : Prop := ∀ b ∈ l, b = 0 ∨ b = 1
theorem bl_isB (m : Nat) : ∀ x, isB (bl x m) := by
  induction m with
  | zero => intro x b hb; cases hb
  | succ m ih =>
    intro x b hb
    rcases List.mem_cons.1 hb with rfl | hb
    · omega
    · exact ih _ b hb
theorem nb_bd : ∀ (l : List Int), isB l → 0 ≤ nb l ∧ nb l < 2 ^ l.length
  | [], _ => by simp [nb]
  | b :: r, h => by
    have ih := nb_bd r (fun x hx => h x (List.mem_cons_of_mem _ hx))
    have hb := h b (List.mem_cons_self ..)
    simp only [nb, List.length_cons, Int.pow_succ]
    omega
theorem Bits_l0 (W : Nat) (hW : W ≤ 64) : ∀ (m k : Nat) (x : Int) (acc : List Int) (i : Nat), i + m = W → m < k → 0 ≤ x → x < 18446744073709551616 → acc.length = i →
    geoderef03_Bits.l0 k x (W : Int) acc (i : Int) = some (acc ++ bl x m)
  | 0, k + 1, x, acc, i, hi, hk, h0, h1, ha => by
    simp only [geoderef03_Bits.l0]
    rw [if_neg (by omega)]
    simp [bl]
  | m + 1, k + 1, x, acc, i, hi, hk, h0, h1, ha => by
    simp only [geoderef03_Bits.l0]
    rw [if_pos (by omega), if_pos (by omega), tdiv2 x h0, tmod2 x h0, u64w _ (by omega) (by omega), w64 (x % 2) (by omega) (by omega), w64 ((i : Int) + 1) (by omega) (by omega)]
    have := Bits_l0 W hW m k (x / 2) (acc ++ [x % 2]) (i + 1) (by omega) (by omega) (by omega) (by omega) (by simp [ha])
    rw [show ((i + 1 : Nat) : Int) = (i : Int) + 1 by omega] at this
    rw [this]
    simp [bl]
theorem Bits_f (W : Nat) (hW : W ≤ 64) (k : Nat) (hk : W < k) (x : Int) (h0 : 0 ≤ x) (h1 : x < 18446744073709551616) : geoderef03_Bits.f k x W = some (bl x W) := by
  have := Bits_l0 W hW W k x [] 0 (by omega) hk h0 h1 rfl
  simpa [geoderef03_Bits.f] using this
theorem drop_cons (l : List Int) (i : Nat) (h : i < l.length) : l.drop i = l.getD i 0 :: l.drop (i + 1) := by
  rw [List.drop_eq_getElem_cons h]; simp [List.getD, h]
theorem Number_l0 (l : List Int) (hl : l.length ≤ 64) (hb : isB l) : ∀ (m k : Nat), m ≤ l.length → m < k → geoderef03_Number.l0 k l (nb (l.drop m)) ((m : Int) - 1) = some (nb l)
  | 0, k + 1, hm, hk => by
    simp only [geoderef03_Number.l0]
    rw [if_neg (by omega)]
    simp
  | m + 1, k + 1, hm, hk => by
    have ih := Number_l0 l hl hb m k (by omega) (by omega)
    have hd := drop_cons l m (by omega)
    have hB : isB (l.drop m) := fun b hb' => hb b (List.mem_of_mem_drop hb')
    have h1 := nb_bd _ hB
    have hlen : (l.drop m).length ≤ 64 := by simp; omega
    have hp : (2 : Int) ^ (l.drop m).length ≤ 2 ^ 64 := by
      have := Nat.pow_le_pow_right (n := 2) (by omega) hlen
      exact_mod_cast this
    have hbit := hB (l.getD m 0) (by rw [hd]; exact List.mem_cons_self ..)
    have hn : nb (l.drop m) = l.getD m 0 + 2 * nb (l.drop (m + 1)) := by conv => lhs; rw [hd]; simp only [nb]
    simp only [Int.reducePow] at hp
    have hrd : rd l ((m + 1 : Nat) - 1 : Int) = l.getD m 0 := by
      unfold rd
      congr 1
      omega
    simp only [geoderef03_Number.l0]
    rw [if_pos (by omega), if_pos (by omega), if_pos (by omega), hrd]
    generalize l.getD m 0 = b at *
    generalize nb (l.drop (m + 1)) = n1 at *
    rw [hn] at h1 ih
    rw [u64w (n1 * 2) (by omega) (by omega), u64w b (by omega) (by omega), u64w (n1 * 2 + b) (by omega) (by omega), w64 _ (by omega) (by omega)]
    rw [show n1 * 2 + b = b + 2 * n1 by omega, show ((m + 1 : Nat) : Int) - 1 - 1 = (m : Int) - 1 by omega]
    exact ih
theorem Number_f (l : List Int) (hl : l.length ≤ 64) (hb : isB l) (k : Nat) (hk : l.length < k) : geoderef03_Number.f k l = some (nb l) := by
  have := Number_l0 l hl hb l.length k (Nat.le_refl _) hk
  rw [List.drop_length] at this
  unfold geoderef03_Number.f
  rw [w64 _ (by omega) (by omega)]
  exact this

theorem nb_small (x : Int) (W : Nat) : nb (bl x W) = x % 2 ^ W := nb_bl W x
theorem cut_f (W : Nat) (hW : W ≤ 64) (k : Nat) (hk : W < k) (x : Int) (h0 : 0 ≤ x) (h1 : x < 18446744073709551616) : geoderef03_cut.f k x W = some (x % 2 ^ W) := by
  unfold geoderef03_cut.f
  rw [Bits_f W hW k hk x h0 h1]
  show (geoderef03_Number.f k (bl x W)).bind _ = _
  rw [Number_f _ (by rw [bl_length]; exact hW) (bl_isB _ _) k (by rw [bl_length]; exact hk), nb_bl]
  rfl
theorem Fits_f (W : Nat) (hW : W ≤ 64) (k : Nat) (hk : W < k) (x : Int) (h0 : 0 ≤ x) (h1 : x < 18446744073709551616) : geoderef03_Fits.f k x W = some (x % 2 ^ W == x) := by
  unfold geoderef03_Fits.f
  rw [Bits_f W hW k hk x h0 h1]
  show (geoderef03_Number.f k (bl x W)).bind _ = _
  rw [Number_f _ (by rw [bl_length]; exact hW) (bl_isB _ _) k (by rw [bl_length]; exact hk), nb_bl]
  rfl
theorem yes_f (c : Bool) : geoderef03_yes.f c = some (tr c) := by cases c <;> rfl

/-! ### Extending -/
theorem nb_append : ∀ (l r : List Int), nb (l ++ r) = nb l + 2 ^ l.length * nb r
  | [], r => by simp [nb]
  | b :: l, r => by
    simp only [List.cons_append, nb, List.length_cons, Int.pow_succ]
    rw [nb_append l r, Int.mul_comm (2 ^ l.length) 2, Int.mul_assoc]
    generalize 2 ^ l.length * nb r = t
    omega
theorem nb_rep0 : ∀ m, nb (List.replicate m 0) = 0
  | 0 => rfl
  | m + 1 => by simp only [List.replicate_succ, nb]; rw [nb_rep0 m]; rfl
theorem nb_rep1 : ∀ m, nb (List.replicate m 1) = 2 ^ m - 1
  | 0 => rfl
  | m + 1 => by simp only [List.replicate_succ, nb, Int.pow_succ]; rw [nb_rep1 m]; omega
theorem isB_append {l r : List Int} (h1 : isB l) (h2 : isB r) : isB (l ++ r) := fun b hb => by
  rcases List.mem_append.1 hb with h | h
  · exact h1 b h
  · exact h2 b h
theorem Extend_l0 (low w : Nat) (hl : 1 ≤ low) (hw : w ≤ 64) (hlw : low ≤ w) (sb : Int) : ∀ (m k : Nat) (acc : List Int), acc.length + m = w → low ≤ acc.length → acc.getD (low - 1) 0 = sb → isB acc → (sb = 0 ∨ sb = 1) → w + 1 < k →
    geoderef03_Extend.l0 (m + k) (low : Int) (w : Int) acc = some (nb (acc ++ List.replicate m sb))
  | 0, k, acc, h1, h2, h3, h4, h5, hk => by
    obtain ⟨k, rfl⟩ : ∃ k', k = k' + 1 := ⟨k - 1, by omega⟩
    rw [Nat.zero_add, geoderef03_Extend.l0, if_neg (by omega), Number_f acc (by omega) h4 k (by omega)]
    simp
  | m + 1, k, acc, h1, h2, h3, h4, h5, hk => by
    have e1 : wrap64 ((low : Int) - 1) = ((low - 1 : Nat) : Int) := by rw [w64 _ (by omega) (by omega)]; omega
    have e2 : rd acc ((low - 1 : Nat) : Int) = sb := by unfold rd; rw [Int.toNat_natCast, h3]
    have ih := Extend_l0 low w hl hw hlw sb m k (acc ++ [sb]) (by simp; omega) (by simp; omega) (by
      rw [List.getD_eq_getElem?_getD, List.getElem?_append_left (by omega), ← List.getD_eq_getElem?_getD, h3]) (isB_append h4 (fun b hb => by rw [List.mem_singleton.1 hb]; exact h5)) h5 hk
    have c1 : (acc.length : Int) < (w : Int) := by omega
    have c2 : ((low - 1 : Nat) : Int) < (acc.length : Int) := by omega
    have c3 : acc.length < 17592186044416 := by omega
    rw [show m + 1 + k = (m + k) + 1 by omega, geoderef03_Extend.l0, if_pos c1, e1, if_pos (Int.natCast_nonneg _), if_pos c2, if_pos c3, e2, ih]
    simp [List.replicate_succ]
theorem Extend_f (low w : Nat) (hl : 1 ≤ low) (hw : w ≤ 64) (hlw : low ≤ w) (k : Nat) (hk : 150 < k) (a : Int) (h0 : 0 ≤ a) (h1 : a < 18446744073709551616) :
    geoderef03_Extend.f k a low w = some (a % 2 ^ low + 2 ^ low * (if a / 2 ^ (low - 1) % 2 = 0 then 0 else 2 ^ (w - low) - 1)) := by
  obtain ⟨k, rfl⟩ : ∃ k', k = (w - low) + k' := ⟨k - (w - low), by omega⟩
  unfold geoderef03_Extend.f
  rw [Bits_f low (by omega) _ (by omega) a h0 h1]
  have hg := bl_get low a (low - 1) (by omega)
  have L := Extend_l0 low w hl hw hlw (a / 2 ^ (low - 1) % 2) (w - low) k (bl a low) (by rw [bl_length]; omega) (by rw [bl_length]; omega) hg (bl_isB _ _) (by omega) (by omega)
  refine Eq.trans L ?_
  rw [nb_append, nb_bl, bl_length]
  by_cases h : a / 2 ^ (low - 1) % 2 = 0
  · rw [h, nb_rep0, if_pos rfl]
  · rw [if_neg h, show a / 2 ^ (low - 1) % 2 = 1 by omega, nb_rep1]
theorem ext_8_32 (k : Nat) (hk : 150 < k) (a : Int) (h0 : 0 ≤ a) (h1 : a < 18446744073709551616) : geoderef03_Extend.f k a 8 32 = some (extI 256 4294967296 a) := by
  refine (Extend_f 8 32 (by decide) (by decide) (by decide) k hk a h0 h1).trans ?_
  congr 1
  unfold extI
  simp only [Nat.reduceSub, Int.reducePow]
  by_cases h : a / 128 % 2 = 0
  · rw [if_pos h, if_pos (by omega)]; omega
  · rw [if_neg h, if_neg (by omega)]; omega
theorem ext_16_32 (k : Nat) (hk : 150 < k) (a : Int) (h0 : 0 ≤ a) (h1 : a < 18446744073709551616) : geoderef03_Extend.f k a 16 32 = some (extI 65536 4294967296 a) := by
  refine (Extend_f 16 32 (by decide) (by decide) (by decide) k hk a h0 h1).trans ?_
  congr 1
  unfold extI
  simp only [Nat.reduceSub, Int.reducePow]
  by_cases h : a / 32768 % 2 = 0
  · rw [if_pos h, if_pos (by omega)]; omega
  · rw [if_neg h, if_neg (by omega)]; omega
theorem ext_32_64 (k : Nat) (hk : 150 < k) (a : Int) (h0 : 0 ≤ a) (h1 : a < 18446744073709551616) : geoderef03_Extend.f k a 32 64 = some (extI 4294967296 18446744073709551616 a) := by
  refine (Extend_f 32 64 (by decide) (by decide) (by decide) k hk a h0 h1).trans ?_
  congr 1
  unfold extI
  simp only [Nat.reduceSub, Int.reducePow]
  by_cases h : a / 2147483648 % 2 = 0
  · rw [if_pos h, if_pos (by omega)]; omega
  · rw [if_neg h, if_neg (by omega)]; omega
theorem ext_8_64 (k : Nat) (hk : 150 < k) (a : Int) (h0 : 0 ≤ a) (h1 : a < 18446744073709551616) : geoderef03_Extend.f k a 8 64 = some (extI 256 18446744073709551616 a) := by
  refine (Extend_f 8 64 (by decide) (by decide) (by decide) k hk a h0 h1).trans ?_
  congr 1
  unfold extI
  simp only [Nat.reduceSub, Int.reducePow]
  by_cases h : a / 128 % 2 = 0
  · rw [if_pos h, if_pos (by omega)]; omega
  · rw [if_neg h, if_neg (by omega)]; omega
theorem ext_16_64 (k : Nat) (hk : 150 < k) (a : Int) (h0 : 0 ≤ a) (h1 : a < 18446744073709551616) : geoderef03_Extend.f k a 16 64 = some (extI 65536 18446744073709551616 a) := by
  refine (Extend_f 16 64 (by decide) (by decide) (by decide) k hk a h0 h1).trans ?_
  congr 1
  unfold extI
  simp only [Nat.reduceSub, Int.reducePow]
  by_cases h : a / 32768 % 2 = 0
  · rw [if_pos h, if_pos (by omega)]; omega
  · rw [if_neg h, if_neg (by omega)]; omega

/-! ### Counting -/
theorem pop_step (l : List Int) (i : Nat) (h : i < l.length) : (l.drop i).sum = l.getD i 0 + (l.drop (i + 1)).sum := by rw [drop_cons l i h, List.sum_cons]
theorem sum_bl (m : Nat) : ∀ x : Int, 0 ≤ x → (bl x m).sum = (Lib.popAux m x.toNat : Int) := by
  induction m with
  | zero => intro x h; rfl
  | succ m ih =>
    intro x h
    simp only [bl, List.sum_cons, Lib.popAux]
    rw [ih (x / 2) (by omega), show (x / 2).toNat = x.toNat / 2 by omega]
    omega
theorem sum_le : ∀ (l : List Int), isB l → 0 ≤ l.sum ∧ l.sum ≤ l.length
  | [], _ => by simp
  | b :: r, h => by
    have ih := sum_le r (fun x hx => h x (List.mem_cons_of_mem _ hx))
    have hb := h b (List.mem_cons_self ..)
    simp only [List.sum_cons, List.length_cons]
    omega
theorem ones_l0 (a : Int) (l : List Int) (hl : l.length ≤ 64) (hb : isB l) (P F T n : Int) : ∀ (m k i : Nat) (acc : Int), i + m = l.length → 0 ≤ acc → acc ≤ i →
    geoderef03_One.l0 (m + 1 + k) a l acc (i : Int) P F T n = geoderef03_One.l1 k a l (acc + (l.drop i).sum) 0 P F T n
  | 0, k, i, acc, hi, h0, h1 => by
    rw [show 0 + 1 + k = k + 1 by omega, geoderef03_One.l0, if_neg (by omega), show i = l.length by omega, List.drop_length]
    simp
  | m + 1, k, i, acc, hi, h0, h1 => by
    have hbit := hb (l.getD i 0) (by rw [List.getD_eq_getElem?_getD]; simp [show i < l.length by omega])
    have e1 : rd l (i : Int) = l.getD i 0 := by unfold rd; rw [Int.toNat_natCast]
    have e2 : wrap64 ((i : Int) + 1) = ((i + 1 : Nat) : Int) := by rw [w64 _ (by omega) (by omega)]; omega
    have c1 : (i : Int) < (l.length : Int) := by omega
    have ih := ones_l0 a l hl hb P F T n m k (i + 1) (acc + l.getD i 0) (by omega) (by omega) (by omega)
    have e3 : wrap64 (acc + l.getD i 0) = acc + l.getD i 0 := w64 _ (by omega) (by omega)
    rw [show m + 1 + 1 + k = (m + 1 + k) + 1 by omega, geoderef03_One.l0, if_pos c1, if_pos (Int.natCast_nonneg i), e1, e3, e2, ih, pop_step l i (by omega), Int.add_assoc]
theorem ahead_l1 (a : Int) (l : List Int) (hl : l.length ≤ 64) (P F T n so : Int) (C : Nat) (hC : C ≤ l.length) (hz : ∀ j, j < C → l.getD (l.length - 1 - j) 0 = 0) (hstop : C < l.length → ¬ l.getD (l.length - 1 - C) 0 = 0) :
    ∀ (m k h : Nat), h + m = C → geoderef03_One.l1 (m + 1 + k) a l so (h : Int) P F T n = geoderef03_One.j3 k a l so (C : Int) P F T n
  | 0, k, h, hh => by
    obtain rfl : h = C := by omega
    rw [show 0 + 1 + k = k + 1 by omega, geoderef03_One.l1]
    by_cases hc : h < l.length
    · have e1 : wrap64 (wrap64 ((l.length : Int) - 1) - (h : Int)) = ((l.length - 1 - h : Nat) : Int) := by rw [w64 ((l.length : Int) - 1) (by omega) (by omega), w64 _ (by omega) (by omega)]; omega
      have c1 : (h : Int) < (l.length : Int) := by omega
      have c2 : ((l.length - 1 - h : Nat) : Int) < (l.length : Int) := by omega
      have e2 : rd l ((l.length - 1 - h : Nat) : Int) = l.getD (l.length - 1 - h) 0 := by unfold rd; rw [Int.toNat_natCast]
      rw [if_pos c1, e1, if_pos (Int.natCast_nonneg _), if_pos c2, e2, if_neg (hstop hc)]
    · rw [if_neg (by omega)]
  | m + 1, k, h, hh => by
    have e1 : wrap64 (wrap64 ((l.length : Int) - 1) - (h : Int)) = ((l.length - 1 - h : Nat) : Int) := by rw [w64 ((l.length : Int) - 1) (by omega) (by omega), w64 _ (by omega) (by omega)]; omega
    have c1 : (h : Int) < (l.length : Int) := by omega
    have c2 : ((l.length - 1 - h : Nat) : Int) < (l.length : Int) := by omega
    have e2 : rd l ((l.length - 1 - h : Nat) : Int) = l.getD (l.length - 1 - h) 0 := by unfold rd; rw [Int.toNat_natCast]
    have e3 : wrap64 ((h : Int) + 1) = ((h + 1 : Nat) : Int) := by rw [w64 _ (by omega) (by omega)]; omega
    have ih := ahead_l1 a l hl P F T n so C hC hz hstop m k (h + 1) (by omega)
    rw [show m + 1 + 1 + k = (m + 1 + k) + 1 by omega, geoderef03_One.l1, if_pos c1, e1, if_pos (Int.natCast_nonneg _), if_pos c2, e2, if_pos (hz h (by omega)), e3, ih]
theorem behind_l2 (a : Int) (l : List Int) (hl : l.length ≤ 64) (P F T n so ah : Int) (C : Nat) (hC : C ≤ l.length) (hz : ∀ j, j < C → l.getD j 0 = 0) (hstop : C < l.length → ¬ l.getD C 0 = 0) :
    ∀ (m k h : Nat), h + m = C → geoderef03_One.l2 (m + 1 + k) a l so ah (h : Int) P F T n = geoderef03_One.j5 k a so ah (C : Int) P F T n
  | 0, k, h, hh => by
    obtain rfl : h = C := by omega
    rw [show 0 + 1 + k = k + 1 by omega, geoderef03_One.l2]
    by_cases hc : h < l.length
    · have c1 : (h : Int) < (l.length : Int) := by omega
      have e2 : rd l (h : Int) = l.getD h 0 := by unfold rd; rw [Int.toNat_natCast]
      rw [if_pos c1, if_pos (Int.natCast_nonneg _), e2, if_neg (hstop hc)]
    · rw [if_neg (by omega)]
  | m + 1, k, h, hh => by
    have c1 : (h : Int) < (l.length : Int) := by omega
    have e2 : rd l (h : Int) = l.getD h 0 := by unfold rd; rw [Int.toNat_natCast]
    have e3 : wrap64 ((h : Int) + 1) = ((h + 1 : Nat) : Int) := by rw [w64 _ (by omega) (by omega)]; omega
    have ih := behind_l2 a l hl P F T n so ah C hC hz hstop m k (h + 1) (by omega)
    rw [show m + 1 + 1 + k = (m + 1 + k) + 1 by omega, geoderef03_One.l2, if_pos c1, if_pos (Int.natCast_nonneg _), e2, if_pos (hz h (by omega)), e3, ih]

theorem bitLenAux_lt : ∀ (f x : Nat), x < 2 ^ f → x < 2 ^ Lib.bitLenAux f x
  | 0, x, h => by simpa [Lib.bitLenAux] using h
  | f + 1, x, h => by
    rw [Lib.bitLenAux]
    split
    · omega
    · have c := bitLenAux_lt f (x / 2) (by rw [Nat.pow_succ] at h; omega)
      rw [Nat.add_comm 1, Nat.pow_succ]; omega
theorem bitLenAux_ge : ∀ (f x : Nat), x < 2 ^ f → x ≠ 0 → 1 ≤ Lib.bitLenAux f x ∧ 2 ^ (Lib.bitLenAux f x - 1) ≤ x
  | 0, x, h, h0 => by simp at h; omega
  | f + 1, x, h, h0 => by
    rw [Lib.bitLenAux, if_neg h0]
    by_cases h2 : x / 2 = 0
    · have e : Lib.bitLenAux f 0 = 0 := by cases f <;> simp [Lib.bitLenAux]
      rw [h2, e]
      simp
      omega
    · obtain ⟨a, b⟩ := bitLenAux_ge f (x / 2) (by rw [Nat.pow_succ] at h; omega) h2
      generalize Lib.bitLenAux f (x / 2) = L at a b ⊢
      obtain ⟨k, rfl⟩ : ∃ k, L = k + 1 := ⟨L - 1, by omega⟩
      simp only [Nat.add_sub_cancel] at b
      refine ⟨by omega, ?_⟩
      rw [show 1 + (k + 1) - 1 = k + 1 by omega, Nat.pow_succ]; omega
theorem nat_bit (x i : Nat) : (x : Int) / 2 ^ i % 2 = ((x / 2 ^ i % 2 : Nat) : Int) := by simp
theorem ahead_ok {W : Nat} (hW : W ≤ 64) (a : Int) (h0 : 0 ≤ a) (h1 : a < 2 ^ W) :
    W - Lib.bitLen a.toNat ≤ (bl a W).length ∧ (∀ j, j < W - Lib.bitLen a.toNat → (bl a W).getD ((bl a W).length - 1 - j) 0 = 0) ∧ (W - Lib.bitLen a.toNat < (bl a W).length → ¬ (bl a W).getD ((bl a W).length - 1 - (W - Lib.bitLen a.toNat)) 0 = 0) := by
  obtain ⟨x, rfl⟩ := Int.eq_ofNat_of_zero_le h0
  have hx : x < 2 ^ W := by exact_mod_cast h1
  have hx64 : x < 2 ^ 64 := Nat.lt_of_lt_of_le hx (Nat.pow_le_pow_right (by omega) hW)
  have hL := Lib.bitLen_le x W hW hx
  have hlt : x < 2 ^ Lib.bitLen x := bitLenAux_lt 64 x hx64
  rw [bl_length, Int.toNat_natCast]
  refine ⟨Nat.sub_le _ _, fun j hj => ?_, fun hlt2 => ?_⟩
  · rw [bl_get W _ _ (by omega), nat_bit]
    have : x < 2 ^ (W - 1 - j) := Nat.lt_of_lt_of_le hlt (Nat.pow_le_pow_right (by omega) (by omega))
    rw [Nat.div_eq_of_lt this]; rfl
  · have hx0 : x ≠ 0 := fun e => by
      subst e
      have : Lib.bitLen 0 = 0 := rfl
      omega
    obtain ⟨g1, g2⟩ := bitLenAux_ge 64 x hx64 hx0
    change 1 ≤ Lib.bitLen x at g1
    change 2 ^ (Lib.bitLen x - 1) ≤ x at g2
    rw [show W - 1 - (W - Lib.bitLen x) = Lib.bitLen x - 1 by omega, bl_get W _ _ (by omega), nat_bit]
    have e : x / 2 ^ (Lib.bitLen x - 1) = 1 := by
      have hp := Nat.two_pow_pos (Lib.bitLen x - 1)
      have h2 : x < 2 * 2 ^ (Lib.bitLen x - 1) := by
        have e9 : (Lib.bitLen x - 1).succ = Lib.bitLen x := by omega
        rw [Nat.mul_comm, ← Nat.pow_succ, e9]; exact hlt
      exact Nat.div_eq_of_lt_le (by omega) (by omega)
    rw [e]; decide
theorem behind_ok {W : Nat} (a : Int) (h0 : 0 ≤ a) (h1 : a < 2 ^ W) :
    Lib.ctz W a.toNat ≤ (bl a W).length ∧ (∀ j, j < Lib.ctz W a.toNat → (bl a W).getD j 0 = 0) ∧ (Lib.ctz W a.toNat < (bl a W).length → ¬ (bl a W).getD (Lib.ctz W a.toNat) 0 = 0) := by
  obtain ⟨x, rfl⟩ := Int.eq_ofNat_of_zero_le h0
  have hx : x < 2 ^ W := by exact_mod_cast h1
  rw [bl_length, Int.toNat_natCast]
  by_cases hx0 : x = 0
  · subst hx0
    have e : Lib.ctz W 0 = W := rfl
    rw [e]
    refine ⟨Nat.le_refl _, fun j hj => ?_, fun h => absurd h (Nat.lt_irrefl _)⟩
    rw [bl_get W _ _ hj, nat_bit, Nat.zero_div]; rfl
  · obtain ⟨m, hm, hc⟩ := Lib.ctzFrom_spec W x (by omega) hx
    have e : Lib.ctz W x = Lib.ctzFrom W x := if_neg hx0
    rw [e]
    generalize Lib.ctzFrom W x = c at *
    refine ⟨Nat.le_of_lt hc, fun j hj => ?_, fun h => ?_⟩
    · rw [bl_get W _ _ (by omega), nat_bit, hm]
      have e2 : 2 ^ c * (2 * m + 1) / 2 ^ j = 2 ^ (c - j) * (2 * m + 1) := by
        rw [show 2 ^ c = 2 ^ j * 2 ^ (c - j) by rw [← Nat.pow_add]; congr 1; omega, Nat.mul_assoc, Nat.mul_div_cancel_left _ (Nat.two_pow_pos j)]
      rw [e2, show c - j = (c - j - 1) + 1 by omega, Nat.pow_succ, Nat.mul_assoc, Nat.mul_comm (2 ^ (c - j - 1)), Nat.mul_assoc, Nat.mul_mod_right]; rfl
    · rw [bl_get W _ _ hc, nat_bit, hm, Nat.mul_div_cancel_left _ (Nat.two_pow_pos c)]
      have : (2 * m + 1) % 2 = 1 := by omega
      rw [this]; decide

/-- One, up to the parting of the places: how many loops' rounds it takes hangs on the number. -/
theorem One_j0 {W : Nat} (hW : W ≤ 64) (k : Nat) (hk : 200 < k) (a : Int) (h0 : 0 ≤ a) (h1 : a < 2 ^ W) (h2 : a < 18446744073709551616) (P T n : Int) (z : Option (Int × Int))
    (e : geoderef03_One.j5 k a (Lib.popAux W a.toNat : Int) ((W - Lib.bitLen a.toNat : Nat) : Int) (Lib.ctz W a.toNat : Int) P (W : Int) T n = z) :
    ∃ K, k ≤ K ∧ geoderef03_One.j0 (K + 1) a false P (W : Int) T n = z := by
  obtain ⟨c1, c2, c3⟩ := ahead_ok hW a h0 h1
  obtain ⟨d1, d2, d3⟩ := behind_ok (W := W) a h0 h1
  refine ⟨W + 1 + (W - Lib.bitLen a.toNat + 1 + (Lib.ctz W a.toNat + 1 + k + 1)), by omega, ?_⟩
  rw [geoderef03_One.j0, if_neg (by decide), Bits_f W hW _ (by omega) a h0 h2]
  simp only [Option.bind_some]
  have L0 := ones_l0 a (bl a W) (by rw [bl_length]; exact hW) (bl_isB _ _) P (W : Int) T n W (W - Lib.bitLen a.toNat + 1 + (Lib.ctz W a.toNat + 1 + k + 1)) 0 0 (by rw [bl_length]; omega) (by omega) (by omega)
  rw [List.drop_zero, sum_bl W a h0, Int.zero_add] at L0
  have L1 := ahead_l1 a (bl a W) (by rw [bl_length]; exact hW) P (W : Int) T n (Lib.popAux W a.toNat : Int) (W - Lib.bitLen a.toNat) c1 c2 c3 (W - Lib.bitLen a.toNat) (Lib.ctz W a.toNat + 1 + k + 1) 0 (by omega)
  have L2 := behind_l2 a (bl a W) (by rw [bl_length]; exact hW) P (W : Int) T n (Lib.popAux W a.toNat : Int) ((W - Lib.bitLen a.toNat : Nat) : Int) (Lib.ctz W a.toNat) d1 d2 d3 (Lib.ctz W a.toNat) k 0 (by omega)
  refine Eq.trans L0 (Eq.trans L1 ?_)
  rw [geoderef03_One.j3]
  exact Eq.trans L2 e

theorem fits1_32 (k : Nat) (hk : 64 < k) (a : Int) (h0 : 0 ≤ a) (h1 : a < 18446744073709551616) : geoderef03_Fits.f k a 32 = some (decide (a < 4294967296)) := by
  refine (Fits_f 32 (by decide) k (by omega) a h0 h1).trans ?_
  congr 1
  simp only [Int.reducePow]
  rw [Bool.eq_iff_iff, beq_iff_eq, decide_eq_true_eq]
  omega
theorem fits1_64 (k : Nat) (hk : 64 < k) (a : Int) (h0 : 0 ≤ a) (h1 : a < 18446744073709551616) : geoderef03_Fits.f k a 64 = some true := by
  refine (Fits_f 64 (by decide) k (by omega) a h0 h1).trans ?_
  congr 1
  simp only [Int.reducePow]
  rw [beq_iff_eq]
  omega
theorem no_j0 (k : Nat) (a F P t n : Int) : geoderef03_One.j0 (k + 1) a true P F t n = some (0, 2) := by
  rw [geoderef03_One.j0, if_pos rfl]
theorem of_69 (k : Nat) : geoderef03_Of.f (k + 9) 69 = some (0, 32, 32, 1) := by kernel_rfl
theorem ref_69 (a : Int) (h0 : 0 ≤ a) (h1 : a < 4294967296) : ∃ K, geoderef03_One.f K 69 a = some (tr (a == 0), 0) := by
  obtain ⟨K, hK, e⟩ := One_j0 (W := 32) (by decide) 401 (by decide) a h0 h1 (by omega) 0 32 1 (some (tr (a == 0), 0)) (by rw [geoderef03_One.j5, if_pos rfl, yes_f]; rfl)
  refine ⟨K + 1, ?_⟩
  obtain ⟨k9, hk9⟩ : ∃ k9, K + 1 = k9 + 9 := ⟨K - 8, by omega⟩
  unfold geoderef03_One.f
  rw [hk9, of_69 k9, ← hk9]
  simp only [Option.bind_some]
  rw [if_pos trivial, fits1_32 (K + 1) (by omega) a h0 (by omega)]
  simp only [Option.bind_some]
  rw [decide_eq_true h1]
  exact e
theorem big_69 (a : Int) (h0 : 4294967296 ≤ a) (h1 : a < 18446744073709551616) : geoderef03_One.f 109 69 a = some (0, 2) := by
  unfold geoderef03_One.f
  rw [of_69 100]
  simp only [Option.bind_some]
  rw [if_pos trivial, fits1_32 109 (by decide) a (by omega) h1]
  simp only [Option.bind_some]
  rw [decide_eq_false (by omega)]
  exact no_j0 108 _ _ _ _ _
theorem of_103 (k : Nat) : geoderef03_Of.f (k + 9) 103 = some (1, 32, 32, 1) := by kernel_rfl
theorem ref_103 (a : Int) (h0 : 0 ≤ a) (h1 : a < 4294967296) : ∃ K, geoderef03_One.f K 103 a = some (32 - (Lib.bitLen a.toNat : Int), 0) := by
  have hL := Lib.bitLen_le a.toNat 32 (by decide) (by simp only [Nat.reducePow]; omega)
  obtain ⟨K, hK, e⟩ := One_j0 (W := 32) (by decide) 401 (by decide) a h0 h1 (by omega) 1 32 1 (some (32 - (Lib.bitLen a.toNat : Int), 0)) (by rw [geoderef03_One.j5, if_neg (by decide), if_pos rfl, u64w _ (Int.natCast_nonneg _) (by have := Nat.sub_le 32 (Lib.bitLen a.toNat); omega)]; congr 2; omega)
  refine ⟨K + 1, ?_⟩
  obtain ⟨k9, hk9⟩ : ∃ k9, K + 1 = k9 + 9 := ⟨K - 8, by omega⟩
  unfold geoderef03_One.f
  rw [hk9, of_103 k9, ← hk9]
  simp only [Option.bind_some]
  rw [if_pos trivial, fits1_32 (K + 1) (by omega) a h0 (by omega)]
  simp only [Option.bind_some]
  rw [decide_eq_true h1]
  exact e
theorem big_103 (a : Int) (h0 : 4294967296 ≤ a) (h1 : a < 18446744073709551616) : geoderef03_One.f 109 103 a = some (0, 2) := by
  unfold geoderef03_One.f
  rw [of_103 100]
  simp only [Option.bind_some]
  rw [if_pos trivial, fits1_32 109 (by decide) a (by omega) h1]
  simp only [Option.bind_some]
  rw [decide_eq_false (by omega)]
  exact no_j0 108 _ _ _ _ _
theorem of_104 (k : Nat) : geoderef03_Of.f (k + 9) 104 = some (2, 32, 32, 1) := by kernel_rfl
theorem ref_104 (a : Int) (h0 : 0 ≤ a) (h1 : a < 4294967296) : ∃ K, geoderef03_One.f K 104 a = some ((Lib.ctz 32 a.toNat : Int), 0) := by
  obtain ⟨K, hK, e⟩ := One_j0 (W := 32) (by decide) 401 (by decide) a h0 h1 (by omega) 2 32 1 (some ((Lib.ctz 32 a.toNat : Int), 0)) (by rw [geoderef03_One.j5, if_neg (by decide), if_neg (by decide), if_pos rfl, u64w _ (Int.natCast_nonneg _) (by have := (behind_ok (W := 32) a h0 h1).1; rw [bl_length] at this; omega)])
  refine ⟨K + 1, ?_⟩
  obtain ⟨k9, hk9⟩ : ∃ k9, K + 1 = k9 + 9 := ⟨K - 8, by omega⟩
  unfold geoderef03_One.f
  rw [hk9, of_104 k9, ← hk9]
  simp only [Option.bind_some]
  rw [if_pos trivial, fits1_32 (K + 1) (by omega) a h0 (by omega)]
  simp only [Option.bind_some]
  rw [decide_eq_true h1]
  exact e
theorem big_104 (a : Int) (h0 : 4294967296 ≤ a) (h1 : a < 18446744073709551616) : geoderef03_One.f 109 104 a = some (0, 2) := by
  unfold geoderef03_One.f
  rw [of_104 100]
  simp only [Option.bind_some]
  rw [if_pos trivial, fits1_32 109 (by decide) a (by omega) h1]
  simp only [Option.bind_some]
  rw [decide_eq_false (by omega)]
  exact no_j0 108 _ _ _ _ _
theorem of_105 (k : Nat) : geoderef03_Of.f (k + 9) 105 = some (3, 32, 32, 1) := by kernel_rfl
theorem ref_105 (a : Int) (h0 : 0 ≤ a) (h1 : a < 4294967296) : ∃ K, geoderef03_One.f K 105 a = some ((Lib.popAux 32 a.toNat : Int), 0) := by
  obtain ⟨K, hK, e⟩ := One_j0 (W := 32) (by decide) 401 (by decide) a h0 h1 (by omega) 3 32 1 (some ((Lib.popAux 32 a.toNat : Int), 0)) (by rw [geoderef03_One.j5, if_neg (by decide), if_neg (by decide), if_neg (by decide), if_pos rfl, u64w _ (Int.natCast_nonneg _) (by have := popAux_le 32 a.toNat; omega)])
  refine ⟨K + 1, ?_⟩
  obtain ⟨k9, hk9⟩ : ∃ k9, K + 1 = k9 + 9 := ⟨K - 8, by omega⟩
  unfold geoderef03_One.f
  rw [hk9, of_105 k9, ← hk9]
  simp only [Option.bind_some]
  rw [if_pos trivial, fits1_32 (K + 1) (by omega) a h0 (by omega)]
  simp only [Option.bind_some]
  rw [decide_eq_true h1]
  exact e
theorem big_105 (a : Int) (h0 : 4294967296 ≤ a) (h1 : a < 18446744073709551616) : geoderef03_One.f 109 105 a = some (0, 2) := by
  unfold geoderef03_One.f
  rw [of_105 100]
  simp only [Option.bind_some]
  rw [if_pos trivial, fits1_32 109 (by decide) a (by omega) h1]
  simp only [Option.bind_some]
  rw [decide_eq_false (by omega)]
  exact no_j0 108 _ _ _ _ _
theorem of_192 (k : Nat) : geoderef03_Of.f (k + 9) 192 = some (4, 32, 32, 1) := by kernel_rfl
theorem ref_192 (a : Int) (h0 : 0 ≤ a) (h1 : a < 4294967296) : ∃ K, geoderef03_One.f K 192 a = some (extI 256 4294967296 a, 0) := by
  obtain ⟨K, hK, e⟩ := One_j0 (W := 32) (by decide) 401 (by decide) a h0 h1 (by omega) 4 32 1 (some (extI 256 4294967296 a, 0)) (by rw [geoderef03_One.j5, if_neg (by decide), if_neg (by decide), if_neg (by decide), if_neg (by decide), if_pos rfl, ext_8_32 400 (by decide) a h0 (by omega)]; rfl)
  refine ⟨K + 1, ?_⟩
  obtain ⟨k9, hk9⟩ : ∃ k9, K + 1 = k9 + 9 := ⟨K - 8, by omega⟩
  unfold geoderef03_One.f
  rw [hk9, of_192 k9, ← hk9]
  simp only [Option.bind_some]
  rw [if_pos trivial, fits1_32 (K + 1) (by omega) a h0 (by omega)]
  simp only [Option.bind_some]
  rw [decide_eq_true h1]
  exact e
theorem big_192 (a : Int) (h0 : 4294967296 ≤ a) (h1 : a < 18446744073709551616) : geoderef03_One.f 109 192 a = some (0, 2) := by
  unfold geoderef03_One.f
  rw [of_192 100]
  simp only [Option.bind_some]
  rw [if_pos trivial, fits1_32 109 (by decide) a (by omega) h1]
  simp only [Option.bind_some]
  rw [decide_eq_false (by omega)]
  exact no_j0 108 _ _ _ _ _
theorem of_193 (k : Nat) : geoderef03_Of.f (k + 9) 193 = some (5, 32, 32, 1) := by kernel_rfl
theorem ref_193 (a : Int) (h0 : 0 ≤ a) (h1 : a < 4294967296) : ∃ K, geoderef03_One.f K 193 a = some (extI 65536 4294967296 a, 0) := by
  obtain ⟨K, hK, e⟩ := One_j0 (W := 32) (by decide) 401 (by decide) a h0 h1 (by omega) 5 32 1 (some (extI 65536 4294967296 a, 0)) (by rw [geoderef03_One.j5, if_neg (by decide), if_neg (by decide), if_neg (by decide), if_neg (by decide), if_neg (by decide), if_pos rfl, ext_16_32 400 (by decide) a h0 (by omega)]; rfl)
  refine ⟨K + 1, ?_⟩
  obtain ⟨k9, hk9⟩ : ∃ k9, K + 1 = k9 + 9 := ⟨K - 8, by omega⟩
  unfold geoderef03_One.f
  rw [hk9, of_193 k9, ← hk9]
  simp only [Option.bind_some]
  rw [if_pos trivial, fits1_32 (K + 1) (by omega) a h0 (by omega)]
  simp only [Option.bind_some]
  rw [decide_eq_true h1]
  exact e
theorem big_193 (a : Int) (h0 : 4294967296 ≤ a) (h1 : a < 18446744073709551616) : geoderef03_One.f 109 193 a = some (0, 2) := by
  unfold geoderef03_One.f
  rw [of_193 100]
  simp only [Option.bind_some]
  rw [if_pos trivial, fits1_32 109 (by decide) a (by omega) h1]
  simp only [Option.bind_some]
  rw [decide_eq_false (by omega)]
  exact no_j0 108 _ _ _ _ _
theorem of_172 (k : Nat) : geoderef03_Of.f (k + 9) 172 = some (8, 32, 64, 1) := by kernel_rfl
theorem ref_172 (a : Int) (h0 : 0 ≤ a) (h1 : a < 4294967296) : ∃ K, geoderef03_One.f K 172 a = some (extI 4294967296 18446744073709551616 a, 0) := by
  obtain ⟨K, hK, e⟩ := One_j0 (W := 32) (by decide) 401 (by decide) a h0 h1 (by omega) 8 64 1 (some (extI 4294967296 18446744073709551616 a, 0)) (by rw [geoderef03_One.j5, if_neg (by decide), if_neg (by decide), if_neg (by decide), if_neg (by decide), if_neg (by decide), if_neg (by decide), if_neg (by decide), if_neg (by decide), if_pos rfl, ext_32_64 400 (by decide) a h0 (by omega)]; rfl)
  refine ⟨K + 1, ?_⟩
  obtain ⟨k9, hk9⟩ : ∃ k9, K + 1 = k9 + 9 := ⟨K - 8, by omega⟩
  unfold geoderef03_One.f
  rw [hk9, of_172 k9, ← hk9]
  simp only [Option.bind_some]
  rw [if_pos trivial, fits1_32 (K + 1) (by omega) a h0 (by omega)]
  simp only [Option.bind_some]
  rw [decide_eq_true h1]
  exact e
theorem big_172 (a : Int) (h0 : 4294967296 ≤ a) (h1 : a < 18446744073709551616) : geoderef03_One.f 109 172 a = some (0, 2) := by
  unfold geoderef03_One.f
  rw [of_172 100]
  simp only [Option.bind_some]
  rw [if_pos trivial, fits1_32 109 (by decide) a (by omega) h1]
  simp only [Option.bind_some]
  rw [decide_eq_false (by omega)]
  exact no_j0 108 _ _ _ _ _
theorem of_173 (k : Nat) : geoderef03_Of.f (k + 9) 173 = some (9, 32, 64, 1) := by kernel_rfl
theorem ref_173 (a : Int) (h0 : 0 ≤ a) (h1 : a < 4294967296) : ∃ K, geoderef03_One.f K 173 a = some (a, 0) := by
  obtain ⟨K, hK, e⟩ := One_j0 (W := 32) (by decide) 401 (by decide) a h0 h1 (by omega) 9 64 1 (some (a, 0)) (by rw [geoderef03_One.j5, if_neg (by decide), if_neg (by decide), if_neg (by decide), if_neg (by decide), if_neg (by decide), if_neg (by decide), if_neg (by decide), if_neg (by decide), if_neg (by decide)])
  refine ⟨K + 1, ?_⟩
  obtain ⟨k9, hk9⟩ : ∃ k9, K + 1 = k9 + 9 := ⟨K - 8, by omega⟩
  unfold geoderef03_One.f
  rw [hk9, of_173 k9, ← hk9]
  simp only [Option.bind_some]
  rw [if_pos trivial, fits1_32 (K + 1) (by omega) a h0 (by omega)]
  simp only [Option.bind_some]
  rw [decide_eq_true h1]
  exact e
theorem big_173 (a : Int) (h0 : 4294967296 ≤ a) (h1 : a < 18446744073709551616) : geoderef03_One.f 109 173 a = some (0, 2) := by
  unfold geoderef03_One.f
  rw [of_173 100]
  simp only [Option.bind_some]
  rw [if_pos trivial, fits1_32 109 (by decide) a (by omega) h1]
  simp only [Option.bind_some]
  rw [decide_eq_false (by omega)]
  exact no_j0 108 _ _ _ _ _
theorem of_80 (k : Nat) : geoderef03_Of.f (k + 9) 80 = some (0, 64, 32, 1) := by kernel_rfl
theorem ref_80 (a : Int) (h0 : 0 ≤ a) (h1 : a < 18446744073709551616) : ∃ K, geoderef03_One.f K 80 a = some (tr (a == 0), 0) := by
  obtain ⟨K, hK, e⟩ := One_j0 (W := 64) (by decide) 401 (by decide) a h0 h1 (by omega) 0 32 1 (some (tr (a == 0), 0)) (by rw [geoderef03_One.j5, if_pos rfl, yes_f]; rfl)
  refine ⟨K + 1, ?_⟩
  obtain ⟨k9, hk9⟩ : ∃ k9, K + 1 = k9 + 9 := ⟨K - 8, by omega⟩
  unfold geoderef03_One.f
  rw [hk9, of_80 k9, ← hk9]
  simp only [Option.bind_some]
  rw [if_pos trivial, fits1_64 (K + 1) (by omega) a h0 (by omega)]
  simp only [Option.bind_some]
  skip
  exact e
theorem of_121 (k : Nat) : geoderef03_Of.f (k + 9) 121 = some (1, 64, 64, 1) := by kernel_rfl
theorem ref_121 (a : Int) (h0 : 0 ≤ a) (h1 : a < 18446744073709551616) : ∃ K, geoderef03_One.f K 121 a = some (64 - (Lib.bitLen a.toNat : Int), 0) := by
  have hL := Lib.bitLen_le a.toNat 64 (by decide) (by simp only [Nat.reducePow]; omega)
  obtain ⟨K, hK, e⟩ := One_j0 (W := 64) (by decide) 401 (by decide) a h0 h1 (by omega) 1 64 1 (some (64 - (Lib.bitLen a.toNat : Int), 0)) (by rw [geoderef03_One.j5, if_neg (by decide), if_pos rfl, u64w _ (Int.natCast_nonneg _) (by have := Nat.sub_le 64 (Lib.bitLen a.toNat); omega)]; congr 2; omega)
  refine ⟨K + 1, ?_⟩
  obtain ⟨k9, hk9⟩ : ∃ k9, K + 1 = k9 + 9 := ⟨K - 8, by omega⟩
  unfold geoderef03_One.f
  rw [hk9, of_121 k9, ← hk9]
  simp only [Option.bind_some]
  rw [if_pos trivial, fits1_64 (K + 1) (by omega) a h0 (by omega)]
  simp only [Option.bind_some]
  skip
  exact e
theorem of_122 (k : Nat) : geoderef03_Of.f (k + 9) 122 = some (2, 64, 64, 1) := by kernel_rfl
theorem ref_122 (a : Int) (h0 : 0 ≤ a) (h1 : a < 18446744073709551616) : ∃ K, geoderef03_One.f K 122 a = some ((Lib.ctz 64 a.toNat : Int), 0) := by
  obtain ⟨K, hK, e⟩ := One_j0 (W := 64) (by decide) 401 (by decide) a h0 h1 (by omega) 2 64 1 (some ((Lib.ctz 64 a.toNat : Int), 0)) (by rw [geoderef03_One.j5, if_neg (by decide), if_neg (by decide), if_pos rfl, u64w _ (Int.natCast_nonneg _) (by have := (behind_ok (W := 64) a h0 h1).1; rw [bl_length] at this; omega)])
  refine ⟨K + 1, ?_⟩
  obtain ⟨k9, hk9⟩ : ∃ k9, K + 1 = k9 + 9 := ⟨K - 8, by omega⟩
  unfold geoderef03_One.f
  rw [hk9, of_122 k9, ← hk9]
  simp only [Option.bind_some]
  rw [if_pos trivial, fits1_64 (K + 1) (by omega) a h0 (by omega)]
  simp only [Option.bind_some]
  skip
  exact e
theorem of_123 (k : Nat) : geoderef03_Of.f (k + 9) 123 = some (3, 64, 64, 1) := by kernel_rfl
theorem ref_123 (a : Int) (h0 : 0 ≤ a) (h1 : a < 18446744073709551616) : ∃ K, geoderef03_One.f K 123 a = some ((Lib.popAux 64 a.toNat : Int), 0) := by
  obtain ⟨K, hK, e⟩ := One_j0 (W := 64) (by decide) 401 (by decide) a h0 h1 (by omega) 3 64 1 (some ((Lib.popAux 64 a.toNat : Int), 0)) (by rw [geoderef03_One.j5, if_neg (by decide), if_neg (by decide), if_neg (by decide), if_pos rfl, u64w _ (Int.natCast_nonneg _) (by have := popAux_le 64 a.toNat; omega)])
  refine ⟨K + 1, ?_⟩
  obtain ⟨k9, hk9⟩ : ∃ k9, K + 1 = k9 + 9 := ⟨K - 8, by omega⟩
  unfold geoderef03_One.f
  rw [hk9, of_123 k9, ← hk9]
  simp only [Option.bind_some]
  rw [if_pos trivial, fits1_64 (K + 1) (by omega) a h0 (by omega)]
  simp only [Option.bind_some]
  skip
  exact e
theorem of_194 (k : Nat) : geoderef03_Of.f (k + 9) 194 = some (4, 64, 64, 1) := by kernel_rfl
theorem ref_194 (a : Int) (h0 : 0 ≤ a) (h1 : a < 18446744073709551616) : ∃ K, geoderef03_One.f K 194 a = some (extI 256 18446744073709551616 a, 0) := by
  obtain ⟨K, hK, e⟩ := One_j0 (W := 64) (by decide) 401 (by decide) a h0 h1 (by omega) 4 64 1 (some (extI 256 18446744073709551616 a, 0)) (by rw [geoderef03_One.j5, if_neg (by decide), if_neg (by decide), if_neg (by decide), if_neg (by decide), if_pos rfl, ext_8_64 400 (by decide) a h0 (by omega)]; rfl)
  refine ⟨K + 1, ?_⟩
  obtain ⟨k9, hk9⟩ : ∃ k9, K + 1 = k9 + 9 := ⟨K - 8, by omega⟩
  unfold geoderef03_One.f
  rw [hk9, of_194 k9, ← hk9]
  simp only [Option.bind_some]
  rw [if_pos trivial, fits1_64 (K + 1) (by omega) a h0 (by omega)]
  simp only [Option.bind_some]
  skip
  exact e
theorem of_195 (k : Nat) : geoderef03_Of.f (k + 9) 195 = some (5, 64, 64, 1) := by kernel_rfl
theorem ref_195 (a : Int) (h0 : 0 ≤ a) (h1 : a < 18446744073709551616) : ∃ K, geoderef03_One.f K 195 a = some (extI 65536 18446744073709551616 a, 0) := by
  obtain ⟨K, hK, e⟩ := One_j0 (W := 64) (by decide) 401 (by decide) a h0 h1 (by omega) 5 64 1 (some (extI 65536 18446744073709551616 a, 0)) (by rw [geoderef03_One.j5, if_neg (by decide), if_neg (by decide), if_neg (by decide), if_neg (by decide), if_neg (by decide), if_pos rfl, ext_16_64 400 (by decide) a h0 (by omega)]; rfl)
  refine ⟨K + 1, ?_⟩
  obtain ⟨k9, hk9⟩ : ∃ k9, K + 1 = k9 + 9 := ⟨K - 8, by omega⟩
  unfold geoderef03_One.f
  rw [hk9, of_195 k9, ← hk9]
  simp only [Option.bind_some]
  rw [if_pos trivial, fits1_64 (K + 1) (by omega) a h0 (by omega)]
  simp only [Option.bind_some]
  skip
  exact e
theorem of_196 (k : Nat) : geoderef03_Of.f (k + 9) 196 = some (6, 64, 64, 1) := by kernel_rfl
theorem ref_196 (a : Int) (h0 : 0 ≤ a) (h1 : a < 18446744073709551616) : ∃ K, geoderef03_One.f K 196 a = some (extI 4294967296 18446744073709551616 a, 0) := by
  obtain ⟨K, hK, e⟩ := One_j0 (W := 64) (by decide) 401 (by decide) a h0 h1 (by omega) 6 64 1 (some (extI 4294967296 18446744073709551616 a, 0)) (by rw [geoderef03_One.j5, if_neg (by decide), if_neg (by decide), if_neg (by decide), if_neg (by decide), if_neg (by decide), if_neg (by decide), if_pos rfl, ext_32_64 400 (by decide) a h0 (by omega)]; rfl)
  refine ⟨K + 1, ?_⟩
  obtain ⟨k9, hk9⟩ : ∃ k9, K + 1 = k9 + 9 := ⟨K - 8, by omega⟩
  unfold geoderef03_One.f
  rw [hk9, of_196 k9, ← hk9]
  simp only [Option.bind_some]
  rw [if_pos trivial, fits1_64 (K + 1) (by omega) a h0 (by omega)]
  simp only [Option.bind_some]
  skip
  exact e
theorem of_167 (k : Nat) : geoderef03_Of.f (k + 9) 167 = some (7, 64, 32, 1) := by kernel_rfl
theorem ref_167 (a : Int) (h0 : 0 ≤ a) (h1 : a < 18446744073709551616) : ∃ K, geoderef03_One.f K 167 a = some (a % 4294967296, 0) := by
  obtain ⟨K, hK, e⟩ := One_j0 (W := 64) (by decide) 401 (by decide) a h0 h1 (by omega) 7 32 1 (some (a % 4294967296, 0)) (by rw [geoderef03_One.j5, if_neg (by decide), if_neg (by decide), if_neg (by decide), if_neg (by decide), if_neg (by decide), if_neg (by decide), if_neg (by decide), if_pos rfl]; refine (congrArg (fun o => Option.bind o _) (cut_f 32 (by decide) 400 (by decide) a h0 (by omega))).trans ?_; rfl)
  refine ⟨K + 1, ?_⟩
  obtain ⟨k9, hk9⟩ : ∃ k9, K + 1 = k9 + 9 := ⟨K - 8, by omega⟩
  unfold geoderef03_One.f
  rw [hk9, of_167 k9, ← hk9]
  simp only [Option.bind_some]
  rw [if_pos trivial, fits1_64 (K + 1) (by omega) a h0 (by omega)]
  simp only [Option.bind_some]
  skip
  exact e
theorem oft_0 (k : Nat) (op : Int) (h0 : 70 ≤ op) (h1 : op ≤ 79) : ∃ P, geoderef03_Of.f (k + 9) op = some (P, 32, 32, 2) := by
  unfold geoderef03_Of.f
  rw [if_neg (by omega), if_pos (by omega), geoderef03_Of.j0, decide_eq_true h1, if_pos rfl]
  exact ⟨_, rfl⟩
theorem oft_1 (k : Nat) (op : Int) (h0 : 81 ≤ op) (h1 : op ≤ 90) : ∃ P, geoderef03_Of.f (k + 9) op = some (P, 64, 32, 2) := by
  unfold geoderef03_Of.f
  rw [if_neg (by omega), if_pos (by omega), geoderef03_Of.j0, decide_eq_false (by omega), if_neg (by decide), if_neg (by omega), if_pos (by omega), geoderef03_Of.j1, decide_eq_true h1, if_pos rfl]
  exact ⟨_, rfl⟩
theorem oft_2 (k : Nat) (op : Int) (h0 : 106 ≤ op) (h1 : op ≤ 120) : ∃ P, geoderef03_Of.f (k + 9) op = some (P, 32, 32, 2) := by
  unfold geoderef03_Of.f
  rw [if_neg (by omega), if_pos (by omega), geoderef03_Of.j0, decide_eq_false (by omega), if_neg (by decide), if_neg (by omega), if_pos (by omega), geoderef03_Of.j1, decide_eq_false (by omega), if_neg (by decide), if_pos (by omega), geoderef03_Of.j2, decide_eq_false (by omega), if_neg (by decide), if_pos (by omega), geoderef03_Of.j3, decide_eq_true h1, if_pos rfl]
  exact ⟨_, rfl⟩
theorem oft_3 (k : Nat) (op : Int) (h0 : 124 ≤ op) (h1 : op ≤ 138) : ∃ P, geoderef03_Of.f (k + 9) op = some (P, 64, 64, 2) := by
  unfold geoderef03_Of.f
  rw [if_neg (by omega), if_pos (by omega), geoderef03_Of.j0, decide_eq_false (by omega), if_neg (by decide), if_neg (by omega), if_pos (by omega), geoderef03_Of.j1, decide_eq_false (by omega), if_neg (by decide), if_pos (by omega), geoderef03_Of.j2, decide_eq_false (by omega), if_neg (by decide), if_pos (by omega), geoderef03_Of.j3, decide_eq_false (by omega), if_neg (by decide), if_pos (by omega), geoderef03_Of.j4, decide_eq_false (by omega), if_neg (by decide), if_pos (by omega), geoderef03_Of.j5, decide_eq_true h1, if_pos rfl]
  exact ⟨_, rfl⟩
def isZ (o : Option (Int × Int × Int × Int)) : Prop := o = some (0, 0, 0, 0)
theorem isZ_ite {c : Prop} [Decidable c] {x y : Option (Int × Int × Int × Int)} (h1 : c → isZ x) (h2 : ¬ c → isZ y) : isZ (if c then x else y) := by
  by_cases h : c
  · rw [if_pos h]; exact h1 h
  · rw [if_neg h]; exact h2 h
theorem of_none (k : Nat) (op : Int) (h : onesB op = false) (c0 : ¬ (70 ≤ op ∧ op ≤ 79)) (c1 : ¬ (81 ≤ op ∧ op ≤ 90)) (c2 : ¬ (106 ≤ op ∧ op ≤ 120)) (c3 : ¬ (124 ≤ op ∧ op ≤ 138)) : isZ (geoderef03_Of.f (k + 9) op) := by
  unfold onesB at h
  simp only [Bool.or_eq_false_iff, beq_eq_false_iff_ne] at h
  simp only [geoderef03_Of.f, geoderef03_Of.j0, geoderef03_Of.j1, geoderef03_Of.j2, geoderef03_Of.j3, geoderef03_Of.j4, geoderef03_Of.j5, geoderef03_Of.j6, geoderef03_Of.j7, decide_eq_true_eq, beq_iff_eq, Bool.false_eq_true, ↓reduceIte]
  (repeat' (refine isZ_ite (fun _ => ?_) (fun _ => ?_))) <;> first | exact rfl | (exfalso; omega)
theorem One_other (op a P F T m : Int) (e : geoderef03_Of.f 109 op = some (P, F, T, m)) (hm : m ≠ 1) : geoderef03_One.f 109 op a = some (0, 2) := by
  unfold geoderef03_One.f
  rw [e]
  simp only [Option.bind_some]
  rw [if_neg hm]
  exact no_j0 108 _ _ _ _ _
end Go.Proofs.YtfcagbgnlibfpaaDoor.S1
