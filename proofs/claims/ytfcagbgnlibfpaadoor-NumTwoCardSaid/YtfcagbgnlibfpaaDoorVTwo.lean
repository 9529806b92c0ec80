/- num, plain: the reference's function Two, as the printed text spells it, comes to what the plain text says. No program in it. -/
import Derived.Test.YtfcagbgnlibfpaaDoorVRef
import Derived.Test.YtfcagbgnlibfpaaDoorPTwo
import Derived.Test.YtfcagbgnlibfpaaDoorH
import Derived.Test.YtfcagbgnlibfpaaDoorV
namespace Go.Proofs.YtfcagbgnlibfpaaDoor.S
open Go.RowKit Go.Proofs.YtfcagbgnlibfpaaDoor.A Go.Proofs.YtfcagbgnlibfpaaDoor.PNumTwo Go.Proofs.YtfcagbgnlibfpaaDoorW.PrintWords
set_option linter.unusedVariables false
set_option linter.unusedSimpArgs false

/-! ### Quotients as signed -/
theorem big_q (x y h : Int) (hx : 0 ≤ x) (hxh : x ≤ h) (hy : 2 ≤ y) (hh : 1 ≤ h) : x / y < h := by
  have h1 : x / y * y ≤ x := Int.ediv_mul_le x (by omega)
  have h0 : 0 ≤ x / y := Int.ediv_nonneg hx (by omega)
  have h2 : x / y * 2 ≤ x / y * y := Int.mul_le_mul_of_nonneg_left hy h0
  omega
theorem q_bd (x y : Int) (hx : 0 ≤ x) (hy : 1 ≤ y) : 0 ≤ x / y ∧ x / y ≤ x ∧ 0 ≤ x % y ∧ x % y ≤ x := by
  refine ⟨Int.ediv_nonneg hx (by omega), Int.ediv_le_self y hx, Int.emod_nonneg x (by omega), ?_⟩
  have h1 := Int.emod_add_mul_ediv x y
  have h2 := Int.mul_nonneg (by omega : 0 ≤ y) (Int.ediv_nonneg hx (by omega : 0 ≤ y))
  omega
theorem abs_32 (a : Int) (h0 : 0 ≤ a) (h1 : a < 4294967296) : (if a < 2147483648 then (0 : Int) else 1) = 1 ∧ (-a) % 4294967296 = 4294967296 - a ∧ 2147483648 ≤ a ∨ (if a < 2147483648 then (0 : Int) else 1) = 0 ∧ a < 2147483648 := by
  by_cases h : a < 2147483648
  · exact .inr ⟨if_pos h, h⟩
  · exact .inl ⟨if_neg h, by omega, by omega⟩
theorem divide_32 (k : Nat) (hk : 64 < k) (a b : Int) (h0 : 0 ≤ a) (h1 : a < 4294967296) (g0 : 1 ≤ b) (g1 : b < 4294967296) :
    ∃ q ov, geoderef03_divide.f (k + 3) 32 a b = some (q, sumI 32 5 a b, ov) ∧ errI 32 3 a b = (if ov = true then 31 else 0) ∧ (ov = false → q = sumI 32 3 a b) := by
  have R := (rem_s32 a b h0 h1 (by omega) g1 g0).2
  have B3 := fun (x : Int) (p0 : 0 ≤ x) (p1 : x < 4294967296) => Bit_32 (k + 3) (by omega) x p0 p1
  have B2 := fun (x : Int) (p0 : 0 ≤ x) (p1 : x < 4294967296) => Bit_32 (k + 2) (by omega) x p0 p1
  have B1 := fun (x : Int) (p0 : 0 ≤ x) (p1 : x < 4294967296) => Bit_32 (k + 1) (by omega) x p0 p1
  have B0 := fun (x : Int) (p0 : 0 ≤ x) (p1 : x < 4294967296) => Bit_32 k (by omega) x p0 p1
  have N3 := fun (x : Int) (p0 : 0 ≤ x) (p1 : x < 18446744073709551616) => minus_32 (k + 3) (by omega) x p0 p1
  have N2 := fun (x : Int) (p0 : 0 ≤ x) (p1 : x < 18446744073709551616) => minus_32 (k + 2) (by omega) x p0 p1
  have N1 := fun (x : Int) (p0 : 0 ≤ x) (p1 : x < 18446744073709551616) => minus_32 (k + 1) (by omega) x p0 p1
  have N0 := fun (x : Int) (p0 : 0 ≤ x) (p1 : x < 18446744073709551616) => minus_32 k (by omega) x p0 p1
  rcases abs_32 a h0 h1 with ⟨ea, na, ha⟩ | ⟨ea, ha⟩ <;> rcases abs_32 b (by omega) g1 with ⟨eb, nb', hb⟩ | ⟨eb, hb⟩
  · -- both below 0
    have Q := q_bd (4294967296 - a) (4294967296 - b) (by omega) (by omega)
    have sa : sg32 a = -(4294967296 - a) := by unfold sg32; rw [if_neg (by omega)]; omega
    have sb : sg32 b = -(4294967296 - b) := by unfold sg32; rw [if_neg (by omega)]; omega
    rw [sa, sb, Int.tmod_neg, Int.neg_tmod, Int.tmod_eq_emod_of_nonneg (by omega)] at R
    have key : geoderef03_divide.f (k + 3) 32 a b = some ((4294967296 - a) / (4294967296 - b), sumI 32 5 a b, (if (4294967296 - a) / (4294967296 - b) < 2147483648 then (0 : Int) else 1) == 1) := by
      simp only [geoderef03_divide.f, geoderef03_divide.j0, geoderef03_divide.j1, geoderef03_divide.j2]
      rw [B3 a h0 h1, B2 b (by omega) g1, N3 a h0 (by omega), N2 b (by omega) (by omega), B1 a h0 h1, B1 b (by omega) g1, B0 a h0 h1]
      simp only [Option.bind_some, ea, eb, na, nb', if_true]
      rw [if_neg (by omega), Int.tdiv_eq_ediv_of_nonneg (by omega), Int.tmod_eq_emod_of_nonneg (by omega), u64w _ Q.1 (by omega), B1 _ Q.1 (by omega), N0 _ Q.2.2.1 (by omega)]
      simp only [Option.bind_some]
      rw [R]
    refine ⟨_, _, key, ?_, ?_⟩
    · by_cases hov : a = 2147483648 ∧ b = 4294967295
      · obtain ⟨rfl, rfl⟩ := hov
        rw [div_o32.1]; decide
      · rw [(S.div_s32 a b h0 h1 (by omega) g1 g0 hov).1]
        have : (4294967296 - a) / (4294967296 - b) < 2147483648 := by
          by_cases hb1 : b = 4294967295
          · subst hb1
            rw [show (4294967296 : Int) - 4294967295 = 1 by decide, Int.ediv_one]
            have : a ≠ 2147483648 := fun e => hov ⟨e, rfl⟩
            omega
          · exact big_q _ _ 2147483648 (by omega) (by omega) (by omega) (by decide)
        rw [if_pos this]; rfl
    · intro hov
      have hlt : (4294967296 - a) / (4294967296 - b) < 2147483648 := by
        by_cases hlt : (4294967296 - a) / (4294967296 - b) < 2147483648
        · exact hlt
        · rw [if_neg hlt] at hov; cases hov
      have hno : ¬ (a = 2147483648 ∧ b = 4294967295) := by
        rintro ⟨rfl, rfl⟩
        exact absurd hlt (by decide)
      rw [(S.div_s32 a b h0 h1 (by omega) g1 g0 hno).2, sa, sb, Int.tdiv_neg, Int.neg_tdiv, Int.neg_neg, Int.tdiv_eq_ediv_of_nonneg (by omega)]
      omega
  · -- a below 0
    have Q := q_bd (4294967296 - a) b (by omega) (by omega)
    have sa : sg32 a = -(4294967296 - a) := by unfold sg32; rw [if_neg (by omega)]; omega
    have sb : sg32 b = b := by unfold sg32; rw [if_pos (by omega)]
    have hno : ¬ (a = 2147483648 ∧ b = 4294967295) := by omega
    have D := S.div_s32 a b h0 h1 (by omega) g1 g0 hno
    rw [sa, sb, Int.neg_tdiv, Int.tdiv_eq_ediv_of_nonneg (by omega)] at D
    rw [sa, sb, Int.neg_tmod, Int.tmod_eq_emod_of_nonneg (by omega)] at R
    refine ⟨sumI 32 3 a b, false, ?_, D.1, fun _ => rfl⟩
    simp only [geoderef03_divide.f, geoderef03_divide.j0, geoderef03_divide.j1, geoderef03_divide.j2]
    rw [B3 a h0 h1, B2 b (by omega) g1, N3 a h0 (by omega), B1 a h0 h1, B1 b (by omega) g1, B0 a h0 h1]
    simp only [Option.bind_some, ea, eb, na, if_true]
    rw [if_neg (by decide), if_neg (by omega), if_neg (by decide), Int.tdiv_eq_ediv_of_nonneg (by omega), Int.tmod_eq_emod_of_nonneg (by omega), u64w _ Q.1 (by omega), N1 _ Q.1 (by omega)]
    simp only [Option.bind_some]
    rw [N0 _ Q.2.2.1 (by omega)]
    simp only [Option.bind_some]
    rw [R, D.2]
  · -- b below 0
    have Q := q_bd a (4294967296 - b) (by omega) (by omega)
    have sa : sg32 a = a := by unfold sg32; rw [if_pos (by omega)]
    have sb : sg32 b = -(4294967296 - b) := by unfold sg32; rw [if_neg (by omega)]; omega
    have hno : ¬ (a = 2147483648 ∧ b = 4294967295) := by omega
    have D := S.div_s32 a b h0 h1 (by omega) g1 g0 hno
    rw [sa, sb, Int.tdiv_neg, Int.tdiv_eq_ediv_of_nonneg (by omega)] at D
    rw [sa, sb, Int.tmod_neg, Int.tmod_eq_emod_of_nonneg (by omega)] at R
    refine ⟨sumI 32 3 a b, false, ?_, D.1, fun _ => rfl⟩
    simp only [geoderef03_divide.f, geoderef03_divide.j0, geoderef03_divide.j1, geoderef03_divide.j2]
    rw [B3 a h0 h1, B2 b (by omega) g1, N2 b (by omega) (by omega), B1 a h0 h1, B1 b (by omega) g1, B0 a h0 h1]
    simp only [Option.bind_some, ea, eb, nb', if_true]
    rw [if_neg (by decide), if_neg (by omega), if_neg (by decide), Int.tdiv_eq_ediv_of_nonneg (by omega), Int.tmod_eq_emod_of_nonneg (by omega), u64w _ Q.1 (by omega), N1 _ Q.1 (by omega)]
    simp only [Option.bind_some]
    rw [if_neg (by decide), R, D.2]
    congr 3
    omega
  · -- none below 0
    have Q := q_bd a b (by omega) (by omega)
    have sa : sg32 a = a := by unfold sg32; rw [if_pos (by omega)]
    have sb : sg32 b = b := by unfold sg32; rw [if_pos (by omega)]
    have hno : ¬ (a = 2147483648 ∧ b = 4294967295) := by omega
    have D := S.div_s32 a b h0 h1 (by omega) g1 g0 hno
    rw [sa, sb, Int.tdiv_eq_ediv_of_nonneg (by omega)] at D
    rw [sa, sb, Int.tmod_eq_emod_of_nonneg (by omega)] at R
    refine ⟨sumI 32 3 a b, false, ?_, D.1, fun _ => rfl⟩
    simp only [geoderef03_divide.f, geoderef03_divide.j0, geoderef03_divide.j1, geoderef03_divide.j2]
    rw [B3 a h0 h1, B2 b (by omega) g1, B1 a h0 h1, B1 b (by omega) g1, B0 a h0 h1]
    simp only [Option.bind_some, ea, eb, if_true]
    rw [if_neg (by decide), if_neg (by decide), if_neg (by omega), Int.tdiv_eq_ediv_of_nonneg (by omega), Int.tmod_eq_emod_of_nonneg (by omega), u64w _ Q.1 (by omega), B1 _ Q.1 (by omega)]
    simp only [Option.bind_some]
    rw [if_neg (show ¬ ((0 : Int) = 1) by decide), if_pos (show a / b < 2147483648 by omega), R, D.2, Int.emod_eq_of_lt Q.1 (by omega), Int.emod_eq_of_lt Q.2.2.1 (by omega)]
    rfl
theorem abs_64 (a : Int) (h0 : 0 ≤ a) (h1 : a < 18446744073709551616) : (if a < 9223372036854775808 then (0 : Int) else 1) = 1 ∧ (-a) % 18446744073709551616 = 18446744073709551616 - a ∧ 9223372036854775808 ≤ a ∨ (if a < 9223372036854775808 then (0 : Int) else 1) = 0 ∧ a < 9223372036854775808 := by
  by_cases h : a < 9223372036854775808
  · exact .inr ⟨if_pos h, h⟩
  · exact .inl ⟨if_neg h, by omega, by omega⟩
theorem divide_64 (k : Nat) (hk : 64 < k) (a b : Int) (h0 : 0 ≤ a) (h1 : a < 18446744073709551616) (g0 : 1 ≤ b) (g1 : b < 18446744073709551616) :
    ∃ q ov, geoderef03_divide.f (k + 3) 64 a b = some (q, sumI 64 5 a b, ov) ∧ errI 64 3 a b = (if ov = true then 31 else 0) ∧ (ov = false → q = sumI 64 3 a b) := by
  have R := (rem_s64 a b h0 h1 (by omega) g1 g0).2
  have B3 := fun (x : Int) (p0 : 0 ≤ x) (p1 : x < 18446744073709551616) => Bit_64 (k + 3) (by omega) x p0 p1
  have B2 := fun (x : Int) (p0 : 0 ≤ x) (p1 : x < 18446744073709551616) => Bit_64 (k + 2) (by omega) x p0 p1
  have B1 := fun (x : Int) (p0 : 0 ≤ x) (p1 : x < 18446744073709551616) => Bit_64 (k + 1) (by omega) x p0 p1
  have B0 := fun (x : Int) (p0 : 0 ≤ x) (p1 : x < 18446744073709551616) => Bit_64 k (by omega) x p0 p1
  have N3 := fun (x : Int) (p0 : 0 ≤ x) (p1 : x < 18446744073709551616) => minus_64 (k + 3) (by omega) x p0 p1
  have N2 := fun (x : Int) (p0 : 0 ≤ x) (p1 : x < 18446744073709551616) => minus_64 (k + 2) (by omega) x p0 p1
  have N1 := fun (x : Int) (p0 : 0 ≤ x) (p1 : x < 18446744073709551616) => minus_64 (k + 1) (by omega) x p0 p1
  have N0 := fun (x : Int) (p0 : 0 ≤ x) (p1 : x < 18446744073709551616) => minus_64 k (by omega) x p0 p1
  rcases abs_64 a h0 h1 with ⟨ea, na, ha⟩ | ⟨ea, ha⟩ <;> rcases abs_64 b (by omega) g1 with ⟨eb, nb', hb⟩ | ⟨eb, hb⟩
  · -- both below 0
    have Q := q_bd (18446744073709551616 - a) (18446744073709551616 - b) (by omega) (by omega)
    have sa : sg64 a = -(18446744073709551616 - a) := by unfold sg64; rw [if_neg (by omega)]; omega
    have sb : sg64 b = -(18446744073709551616 - b) := by unfold sg64; rw [if_neg (by omega)]; omega
    rw [sa, sb, Int.tmod_neg, Int.neg_tmod, Int.tmod_eq_emod_of_nonneg (by omega)] at R
    have key : geoderef03_divide.f (k + 3) 64 a b = some ((18446744073709551616 - a) / (18446744073709551616 - b), sumI 64 5 a b, (if (18446744073709551616 - a) / (18446744073709551616 - b) < 9223372036854775808 then (0 : Int) else 1) == 1) := by
      simp only [geoderef03_divide.f, geoderef03_divide.j0, geoderef03_divide.j1, geoderef03_divide.j2]
      rw [B3 a h0 h1, B2 b (by omega) g1, N3 a h0 (by omega), N2 b (by omega) (by omega), B1 a h0 h1, B1 b (by omega) g1, B0 a h0 h1]
      simp only [Option.bind_some, ea, eb, na, nb', if_true]
      rw [if_neg (by omega), Int.tdiv_eq_ediv_of_nonneg (by omega), Int.tmod_eq_emod_of_nonneg (by omega), u64w _ Q.1 (by omega), B1 _ Q.1 (by omega), N0 _ Q.2.2.1 (by omega)]
      simp only [Option.bind_some]
      rw [R]
    refine ⟨_, _, key, ?_, ?_⟩
    · by_cases hov : a = 9223372036854775808 ∧ b = 18446744073709551615
      · obtain ⟨rfl, rfl⟩ := hov
        rw [div_o64.1]; decide
      · rw [(S.div_s64 a b h0 h1 (by omega) g1 g0 hov).1]
        have : (18446744073709551616 - a) / (18446744073709551616 - b) < 9223372036854775808 := by
          by_cases hb1 : b = 18446744073709551615
          · subst hb1
            rw [show (18446744073709551616 : Int) - 18446744073709551615 = 1 by decide, Int.ediv_one]
            have : a ≠ 9223372036854775808 := fun e => hov ⟨e, rfl⟩
            omega
          · exact big_q _ _ 9223372036854775808 (by omega) (by omega) (by omega) (by decide)
        rw [if_pos this]; rfl
    · intro hov
      have hlt : (18446744073709551616 - a) / (18446744073709551616 - b) < 9223372036854775808 := by
        by_cases hlt : (18446744073709551616 - a) / (18446744073709551616 - b) < 9223372036854775808
        · exact hlt
        · rw [if_neg hlt] at hov; cases hov
      have hno : ¬ (a = 9223372036854775808 ∧ b = 18446744073709551615) := by
        rintro ⟨rfl, rfl⟩
        exact absurd hlt (by decide)
      rw [(S.div_s64 a b h0 h1 (by omega) g1 g0 hno).2, sa, sb, Int.tdiv_neg, Int.neg_tdiv, Int.neg_neg, Int.tdiv_eq_ediv_of_nonneg (by omega)]
      omega
  · -- a below 0
    have Q := q_bd (18446744073709551616 - a) b (by omega) (by omega)
    have sa : sg64 a = -(18446744073709551616 - a) := by unfold sg64; rw [if_neg (by omega)]; omega
    have sb : sg64 b = b := by unfold sg64; rw [if_pos (by omega)]
    have hno : ¬ (a = 9223372036854775808 ∧ b = 18446744073709551615) := by omega
    have D := S.div_s64 a b h0 h1 (by omega) g1 g0 hno
    rw [sa, sb, Int.neg_tdiv, Int.tdiv_eq_ediv_of_nonneg (by omega)] at D
    rw [sa, sb, Int.neg_tmod, Int.tmod_eq_emod_of_nonneg (by omega)] at R
    refine ⟨sumI 64 3 a b, false, ?_, D.1, fun _ => rfl⟩
    simp only [geoderef03_divide.f, geoderef03_divide.j0, geoderef03_divide.j1, geoderef03_divide.j2]
    rw [B3 a h0 h1, B2 b (by omega) g1, N3 a h0 (by omega), B1 a h0 h1, B1 b (by omega) g1, B0 a h0 h1]
    simp only [Option.bind_some, ea, eb, na, if_true]
    rw [if_neg (by decide), if_neg (by omega), if_neg (by decide), Int.tdiv_eq_ediv_of_nonneg (by omega), Int.tmod_eq_emod_of_nonneg (by omega), u64w _ Q.1 (by omega), N1 _ Q.1 (by omega)]
    simp only [Option.bind_some]
    rw [N0 _ Q.2.2.1 (by omega)]
    simp only [Option.bind_some]
    rw [R, D.2]
  · -- b below 0
    have Q := q_bd a (18446744073709551616 - b) (by omega) (by omega)
    have sa : sg64 a = a := by unfold sg64; rw [if_pos (by omega)]
    have sb : sg64 b = -(18446744073709551616 - b) := by unfold sg64; rw [if_neg (by omega)]; omega
    have hno : ¬ (a = 9223372036854775808 ∧ b = 18446744073709551615) := by omega
    have D := S.div_s64 a b h0 h1 (by omega) g1 g0 hno
    rw [sa, sb, Int.tdiv_neg, Int.tdiv_eq_ediv_of_nonneg (by omega)] at D
    rw [sa, sb, Int.tmod_neg, Int.tmod_eq_emod_of_nonneg (by omega)] at R
    refine ⟨sumI 64 3 a b, false, ?_, D.1, fun _ => rfl⟩
    simp only [geoderef03_divide.f, geoderef03_divide.j0, geoderef03_divide.j1, geoderef03_divide.j2]
    rw [B3 a h0 h1, B2 b (by omega) g1, N2 b (by omega) (by omega), B1 a h0 h1, B1 b (by omega) g1, B0 a h0 h1]
    simp only [Option.bind_some, ea, eb, nb', if_true]
    rw [if_neg (by decide), if_neg (by omega), if_neg (by decide), Int.tdiv_eq_ediv_of_nonneg (by omega), Int.tmod_eq_emod_of_nonneg (by omega), u64w _ Q.1 (by omega), N1 _ Q.1 (by omega)]
    simp only [Option.bind_some]
    rw [if_neg (by decide), R, D.2]
    congr 3
    omega
  · -- none below 0
    have Q := q_bd a b (by omega) (by omega)
    have sa : sg64 a = a := by unfold sg64; rw [if_pos (by omega)]
    have sb : sg64 b = b := by unfold sg64; rw [if_pos (by omega)]
    have hno : ¬ (a = 9223372036854775808 ∧ b = 18446744073709551615) := by omega
    have D := S.div_s64 a b h0 h1 (by omega) g1 g0 hno
    rw [sa, sb, Int.tdiv_eq_ediv_of_nonneg (by omega)] at D
    rw [sa, sb, Int.tmod_eq_emod_of_nonneg (by omega)] at R
    refine ⟨sumI 64 3 a b, false, ?_, D.1, fun _ => rfl⟩
    simp only [geoderef03_divide.f, geoderef03_divide.j0, geoderef03_divide.j1, geoderef03_divide.j2]
    rw [B3 a h0 h1, B2 b (by omega) g1, B1 a h0 h1, B1 b (by omega) g1, B0 a h0 h1]
    simp only [Option.bind_some, ea, eb, if_true]
    rw [if_neg (by decide), if_neg (by decide), if_neg (by omega), Int.tdiv_eq_ediv_of_nonneg (by omega), Int.tmod_eq_emod_of_nonneg (by omega), u64w _ Q.1 (by omega), B1 _ Q.1 (by omega)]
    simp only [Option.bind_some]
    rw [if_neg (show ¬ ((0 : Int) = 1) by decide), if_pos (show a / b < 9223372036854775808 by omega), R, D.2, Int.emod_eq_of_lt Q.1 (by omega), Int.emod_eq_of_lt Q.2.2.1 (by omega)]
    rfl

/-! ### The bits of a sum -/
def b2i (c : Bool) : Int := if c = true then 1 else 0
theorem b2i_isB (c : Bool) : b2i c = 0 ∨ b2i c = 1 := by cases c <;> simp [b2i]
theorem bit_of {W : Nat} (v : BitVec W) (i : Nat) : toI v / 2 ^ i % 2 = b2i (v.getLsbD i) := by
  unfold toI b2i
  have h : v.getLsbD i = decide (v.toNat / 2 ^ i % 2 = 1) := by
    show v.toNat.testBit i = _
    rw [Nat.testBit_eq_decide_div_mod_eq]
  rw [h]
  have h2 : ((v.toNat : Int) / 2 ^ i % 2) = ((v.toNat / 2 ^ i % 2 : Nat) : Int) := by simp
  rw [h2]
  by_cases h3 : v.toNat / 2 ^ i % 2 = 1
  · rw [h3]; simp
  · rw [decide_eq_false h3]
    have : v.toNat / 2 ^ i % 2 = 0 := by omega
    rw [this]; simp
theorem bl_bit {W : Nat} (a : Int) (h0 : 0 ≤ a) (h1 : a < 2 ^ W) (i : Nat) (hi : i < W) : (bl a W).getD i 0 = b2i ((ofI W a).getLsbD i) := by
  rw [bl_get W a i hi, ← bit_of, toI_ofI a h0 h1]
/-- The first i bits, then noughts. -/
def outs {W : Nat} (v : BitVec W) (i : Nat) : List Int := (List.range W).map fun j => if j < i then b2i (v.getLsbD j) else 0
theorem outs_length {W : Nat} (v : BitVec W) (i : Nat) : (outs v i).length = W := by simp [outs]
theorem outs_get {W : Nat} (v : BitVec W) (i j : Nat) (hj : j < W) : (outs v i)[j]? = some (if j < i then b2i (v.getLsbD j) else 0) := by simp [outs, hj]
theorem outs_set {W : Nat} (v : BitVec W) (i : Nat) (hi : i < W) : (outs v i).set i (b2i (v.getLsbD i)) = outs v (i + 1) := by
  apply List.ext_getElem?
  intro j
  by_cases hj : j < W
  · rw [outs_get v (i + 1) j hj, List.getElem?_set]
    by_cases h : i = j
    · subst h
      rw [if_pos rfl, if_pos (by rw [outs_length]; exact hi), if_pos (by omega)]
    · rw [if_neg h, outs_get v i j hj]
      congr 1
      by_cases h2 : j < i
      · rw [if_pos h2, if_pos (by omega)]
      · rw [if_neg h2, if_neg (by omega)]
  · rw [List.getElem?_eq_none (by simp [outs]; omega), List.getElem?_eq_none (by simp [outs]; omega)]
theorem outs_skip {W : Nat} (v : BitVec W) (i : Nat) (hi : i < W) (h : v.getLsbD i = false) : outs v i = outs v (i + 1) := by
  rw [← outs_set v i hi, h]
  apply List.ext_getElem?
  intro j
  rw [List.getElem?_set]
  split
  · rename_i e
    subst e
    rw [outs_length, if_pos hi, outs_get v i i hi, if_neg (Nat.lt_irrefl _)]
    rfl
  · rfl
theorem outs_zero {W : Nat} (v : BitVec W) : outs v 0 = List.replicate W 0 := by
  apply List.ext_getElem?
  intro j
  by_cases hj : j < W
  · rw [outs_get v 0 j hj, List.getElem?_replicate, if_pos hj]; rfl
  · rw [List.getElem?_eq_none (by simp [outs]; omega), List.getElem?_eq_none (by simp; omega)]
theorem outs_all {W : Nat} (v : BitVec W) : outs v W = bl (toI v) W := by
  apply List.ext_getElem?
  intro j
  by_cases hj : j < W
  · rw [outs_get v W j hj, if_pos hj, ← bit_of, ← bl_get W (toI v) j hj]
    rw [List.getD_eq_getElem?_getD]
    have : j < (bl (toI v) W).length := by rw [bl_length]; exact hj
    simp [this]
  · rw [List.getElem?_eq_none (by simp [outs]; omega), List.getElem?_eq_none (by rw [bl_length]; omega)]
theorem outs_isB {W : Nat} (v : BitVec W) : isB (outs v W) := by rw [outs_all]; exact bl_isB _ _
theorem outs_nb {W : Nat} (v : BitVec W) : nb (outs v W) = toI v := by
  rw [outs_all, nb_bl]
  have := toI_bd v
  exact Int.emod_eq_of_lt this.1 this.2
/-- The loop, whatever the place, where each round sets the next bit. -/
theorem loop_f {W : Nat} (hW : W ≤ 64) (l m : List Int) (by_ P f t n : Int) (v : BitVec W)
    (step : ∀ k i, i < W → ∃ k', k ≤ k' ∧ geoderef03_Two.l0 (k + 2) (W : Int) l m by_ (outs v i) (i : Int) P f t n = geoderef03_Two.l0 k' (W : Int) l m by_ (outs v (i + 1)) ((i + 1 : Nat) : Int) P f t n) :
    ∀ (r k i : Nat), i + r = W → 2 * r + 70 < k → geoderef03_Two.l0 k (W : Int) l m by_ (outs v i) (i : Int) P f t n = some (toI v, 0)
  | 0, k + 1, i, hi, hk => by
    obtain rfl : i = W := by omega
    simp only [geoderef03_Two.l0]
    rw [if_neg (by omega), Number_f _ (by rw [outs_length]; exact hW) (outs_isB v) k (by rw [outs_length]; omega), outs_nb]
    rfl
  | r + 1, k, i, hi, hk => by
    obtain ⟨k0, rfl⟩ : ∃ k0, k = k0 + 2 := ⟨k - 2, by omega⟩
    obtain ⟨k', h1, h2⟩ := step k0 i (by omega)
    rw [h2]
    exact loop_f hW l m by_ P f t n v step r k' (i + 1) (by omega) (by omega)

/-! ### A round, place by place -/
theorem wsucc (i W : Nat) (hi : i < W) (hW : W ≤ 64) : wrap64 ((i : Int) + 1) = ((i + 1 : Nat) : Int) := by rw [w64 _ (by omega) (by omega)]; omega
theorem turn_l (i sh W : Nat) (hi : i < W) (hs : sh < W) (hW : W ≤ 64) : wrap64 (wrap64 ((i : Int) + (W : Int)) - (sh : Int)) = (i : Int) + W - sh ∧ ∃ j : Nat, j < W ∧ Int.tmod ((i : Int) + W - sh) (W : Int) = (j : Int) ∧ j = if i < sh then W - sh + i else i - sh := by
  refine ⟨by rw [w64 ((i : Int) + (W : Int)) (by omega) (by omega), w64 _ (by omega) (by omega)], ?_⟩
  rw [Int.tmod_eq_emod_of_nonneg (by omega)]
  by_cases hc : i < sh
  · exact ⟨W - sh + i, by omega, by rw [Int.emod_eq_of_lt (by omega) (by omega)]; omega, by rw [if_pos hc]⟩
  · refine ⟨i - sh, by omega, ?_, by rw [if_neg hc]⟩
    rw [show (i : Int) + W - sh = ((i : Int) - sh) + W by omega, Int.add_emod_right, Int.emod_eq_of_lt (by omega) (by omega)]
    omega
theorem turn_r (i sh W : Nat) (hi : i < W) (hs : sh < W) (hW : W ≤ 64) : wrap64 ((i : Int) + (sh : Int)) = (i : Int) + sh ∧ ∃ j : Nat, j < W ∧ Int.tmod ((i : Int) + sh) (W : Int) = (j : Int) ∧ j = if i < W - sh then sh + i else i - (W - sh) := by
  refine ⟨w64 _ (by omega) (by omega), ?_⟩
  rw [Int.tmod_eq_emod_of_nonneg (by omega)]
  by_cases hc : i < W - sh
  · exact ⟨sh + i, by omega, by rw [Int.emod_eq_of_lt (by omega) (by omega)]; omega, by rw [if_pos hc]⟩
  · refine ⟨i - (W - sh), by omega, ?_, by rw [if_neg hc]⟩
    rw [show (i : Int) + sh = ((i : Int) + sh - W) + W by omega, Int.add_emod_right, Int.emod_eq_of_lt (by omega) (by omega)]
    omega
section
variable {W : Nat} (hW0 : 0 < W) (hW : W ≤ 64) (a b : Int) (h0 : 0 ≤ a) (h1 : a < 2 ^ W) (g0 : 0 ≤ b) (g1 : b < 2 ^ W) (sh : Nat) (hs : sh < W) (f t n : Int)
include h0 h1 in
theorem rd_bit (j : Nat) (hj : j < W) (z : Int) (hz : z = j) : rd (bl a W) z = b2i ((ofI W a).getLsbD j) := by
  subst hz
  unfold rd
  rw [Int.toNat_natCast, bl_bit a h0 h1 j hj]
theorem len_lt (c : Int) (i : Nat) (hi : i < W) : (i : Int) < ((bl c W).length : Int) := by rw [bl_length]; omega
theorem out_lt {v : BitVec W} (i j : Nat) (hi : i < W) : (i : Int) < ((outs v j).length : Int) := by rw [outs_length]; omega
include hW0 hW h0 h1 g0 g1 hs in
theorem step_27 : ∀ k i, i < W → ∃ k', k ≤ k' ∧ geoderef03_Two.l0 (k + 2) (W : Int) (bl a W) (bl b W) (sh : Int) (outs (ofI W a &&& ofI W b) i) (i : Int) 27 f t n = geoderef03_Two.l0 k' (W : Int) (bl a W) (bl b W) (sh : Int) (outs (ofI W a &&& ofI W b) (i + 1)) ((i + 1 : Nat) : Int) 27 f t n := by
  intro k i hi
  have used := And.intro hW0 hs
  have w1 := wsucc i W hi hW
  have ra := rd_bit a h0 h1 i hi (i : Int) rfl
  have rb := rd_bit b g0 g1 i hi (i : Int) rfl
  have p1 : (i : Int) < (W : Int) := Int.ofNat_lt.2 hi
  have p2 : (0 : Int) ≤ (i : Int) := Int.natCast_nonneg i
  have p3 := len_lt a i hi
  have p4 := len_lt b i hi
  have p5 := out_lt (v := ofI W a &&& ofI W b) i i hi
  have e : wrap64 (rd (bl a W) (i : Int) * rd (bl b W) (i : Int)) = b2i ((ofI W a &&& ofI W b).getLsbD i) := by
    rw [ra, rb, BitVec.getLsbD_and]
    cases (ofI W a).getLsbD i <;> cases (ofI W b).getLsbD i <;> decide +kernel
  refine ⟨k + 1, by omega, ?_⟩
  conv => lhs; rw [geoderef03_Two.l0]
  rw [if_pos p1, if_pos rfl, if_pos p2, if_pos p3, if_pos p4, if_pos p5, e, Int.toNat_natCast, outs_set _ i hi, w1]
include hW0 hW h0 h1 g0 g1 hs in
theorem step_28 : ∀ k i, i < W → ∃ k', k ≤ k' ∧ geoderef03_Two.l0 (k + 2) (W : Int) (bl a W) (bl b W) (sh : Int) (outs (ofI W a ||| ofI W b) i) (i : Int) 28 f t n = geoderef03_Two.l0 k' (W : Int) (bl a W) (bl b W) (sh : Int) (outs (ofI W a ||| ofI W b) (i + 1)) ((i + 1 : Nat) : Int) 28 f t n := by
  intro k i hi
  have used := And.intro hW0 hs
  have w1 := wsucc i W hi hW
  have ra := rd_bit a h0 h1 i hi (i : Int) rfl
  have rb := rd_bit b g0 g1 i hi (i : Int) rfl
  have p1 : (i : Int) < (W : Int) := Int.ofNat_lt.2 hi
  have p2 : (0 : Int) ≤ (i : Int) := Int.natCast_nonneg i
  have p3 := len_lt a i hi
  have p4 := len_lt b i hi
  have p5 := out_lt (v := ofI W a ||| ofI W b) i i hi
  have e : wrap64 (Int.tdiv (wrap64 (wrap64 (rd (bl a W) (i : Int) + rd (bl b W) (i : Int)) + 1)) 2) = b2i ((ofI W a ||| ofI W b).getLsbD i) := by
    rw [ra, rb, BitVec.getLsbD_or]
    cases (ofI W a).getLsbD i <;> cases (ofI W b).getLsbD i <;> decide +kernel
  refine ⟨k + 1, by omega, ?_⟩
  conv => lhs; rw [geoderef03_Two.l0]
  rw [if_pos p1, if_neg (by decide), if_pos rfl, if_pos p2, if_pos p3, if_pos p4, if_pos p5, e, Int.toNat_natCast, outs_set _ i hi, w1]
include hW0 hW h0 h1 g0 g1 hs in
theorem step_29 : ∀ k i, i < W → ∃ k', k ≤ k' ∧ geoderef03_Two.l0 (k + 2) (W : Int) (bl a W) (bl b W) (sh : Int) (outs (ofI W a ^^^ ofI W b) i) (i : Int) 29 f t n = geoderef03_Two.l0 k' (W : Int) (bl a W) (bl b W) (sh : Int) (outs (ofI W a ^^^ ofI W b) (i + 1)) ((i + 1 : Nat) : Int) 29 f t n := by
  intro k i hi
  have used := And.intro hW0 hs
  have w1 := wsucc i W hi hW
  have ra := rd_bit a h0 h1 i hi (i : Int) rfl
  have rb := rd_bit b g0 g1 i hi (i : Int) rfl
  have p1 : (i : Int) < (W : Int) := Int.ofNat_lt.2 hi
  have p2 : (0 : Int) ≤ (i : Int) := Int.natCast_nonneg i
  have p3 := len_lt a i hi
  have p4 := len_lt b i hi
  have p5 := out_lt (v := ofI W a ^^^ ofI W b) i i hi
  have e : Int.tmod (wrap64 (rd (bl a W) (i : Int) + rd (bl b W) (i : Int))) 2 = b2i ((ofI W a ^^^ ofI W b).getLsbD i) := by
    rw [ra, rb, BitVec.getLsbD_xor]
    cases (ofI W a).getLsbD i <;> cases (ofI W b).getLsbD i <;> decide +kernel
  refine ⟨k + 1, by omega, ?_⟩
  conv => lhs; rw [geoderef03_Two.l0]
  rw [if_pos p1, if_neg (by decide), if_neg (by decide), if_pos rfl, if_pos p2, if_pos p3, if_pos p4, if_pos p5, e, Int.toNat_natCast, outs_set _ i hi, w1]
include hW0 hW h0 h1 g0 g1 hs in
theorem step_30 : ∀ k i, i < W → ∃ k', k ≤ k' ∧ geoderef03_Two.l0 (k + 2) (W : Int) (bl a W) (bl b W) (sh : Int) (outs (ofI W a <<< sh) i) (i : Int) 30 f t n = geoderef03_Two.l0 k' (W : Int) (bl a W) (bl b W) (sh : Int) (outs (ofI W a <<< sh) (i + 1)) ((i + 1 : Nat) : Int) 30 f t n := by
  intro k i hi
  have used := And.intro hW0 hs
  have w1 := wsucc i W hi hW
  have ra := rd_bit a h0 h1 i hi (i : Int) rfl
  have rb := rd_bit b g0 g1 i hi (i : Int) rfl
  have p1 : (i : Int) < (W : Int) := Int.ofNat_lt.2 hi
  have p2 : (0 : Int) ≤ (i : Int) := Int.natCast_nonneg i
  have p3 := len_lt a i hi
  have p4 := len_lt b i hi
  have p5 := out_lt (v := ofI W a <<< sh) i i hi
  have bv : (ofI W a <<< sh).getLsbD i = (!decide (i < sh) && (ofI W a).getLsbD (i - sh)) := by
    rw [BitVec.getLsbD_shiftLeft, decide_eq_true hi]; rfl
  refine ⟨k + 1, by omega, ?_⟩
  conv => lhs; rw [geoderef03_Two.l0]
  rw [if_pos p1, if_neg (by decide), if_neg (by decide), if_neg (by decide), if_pos rfl]
  by_cases hc : i < sh
  · rw [if_neg (by omega), w1, outs_skip _ i hi (by rw [bv, decide_eq_true hc]; rfl)]
  · have e : rd (bl a W) (wrap64 ((i : Int) - (sh : Int))) = b2i ((ofI W a <<< sh).getLsbD i) := by
      rw [rd_bit a h0 h1 (i - sh) (by omega) _ (by rw [w64 _ (by omega) (by omega)]; omega), bv, decide_eq_false hc]; rfl
    rw [if_pos (by omega), if_pos (by rw [w64 _ (by omega) (by omega)]; omega), if_pos (by rw [w64 _ (by omega) (by omega), bl_length]; omega), if_pos p2, if_pos p5, e, Int.toNat_natCast, outs_set _ i hi, w1]
include hW0 hW h0 h1 g0 g1 hs in
theorem step_31 : ∀ k i, i < W → ∃ k', k ≤ k' ∧ geoderef03_Two.l0 (k + 2) (W : Int) (bl a W) (bl b W) (sh : Int) (outs ((ofI W a).sshiftRight sh) i) (i : Int) 31 f t n = geoderef03_Two.l0 k' (W : Int) (bl a W) (bl b W) (sh : Int) (outs ((ofI W a).sshiftRight sh) (i + 1)) ((i + 1 : Nat) : Int) 31 f t n := by
  intro k i hi
  have used := And.intro hW0 hs
  have w1 := wsucc i W hi hW
  have ra := rd_bit a h0 h1 i hi (i : Int) rfl
  have rb := rd_bit b g0 g1 i hi (i : Int) rfl
  have p1 : (i : Int) < (W : Int) := Int.ofNat_lt.2 hi
  have p2 : (0 : Int) ≤ (i : Int) := Int.natCast_nonneg i
  have p3 := len_lt a i hi
  have p4 := len_lt b i hi
  have p5 := out_lt (v := (ofI W a).sshiftRight sh) i i hi
  have bv : ((ofI W a).sshiftRight sh).getLsbD i = if sh + i < W then (ofI W a).getLsbD (sh + i) else (ofI W a).getLsbD (W - 1) := by
    rw [BitVec.getLsbD_sshiftRight, decide_eq_false (by omega)]
    split
    · rfl
    · rw [BitVec.msb_eq_getLsbD_last]; rfl
  refine ⟨k, Nat.le_refl _, ?_⟩
  conv => lhs; rw [geoderef03_Two.l0]
  rw [if_pos p1, if_neg (by decide), if_neg (by decide), if_neg (by decide), if_neg (by decide), if_pos rfl]
  rw [geoderef03_Two.j4, if_pos (by decide)]
  by_cases hc : sh + i < W
  · have e : rd (bl a W) (wrap64 ((i : Int) + (sh : Int))) = b2i (((ofI W a).sshiftRight sh).getLsbD i) := by
      rw [rd_bit a h0 h1 (sh + i) (by omega) _ (by rw [w64 _ (by omega) (by omega)]; omega), bv, if_pos hc]
    rw [if_pos (by rw [w64 _ (by omega) (by omega)]; omega), if_pos (by rw [w64 _ (by omega) (by omega)]; omega), if_pos (by rw [w64 _ (by omega) (by omega), bl_length]; omega), if_pos p2, if_pos p5, e, Int.toNat_natCast, outs_set _ i hi, w1]
  · have e : rd (bl a W) (wrap64 ((W : Int) - 1)) = b2i (((ofI W a).sshiftRight sh).getLsbD i) := by
      rw [rd_bit a h0 h1 (W - 1) (by omega) _ (by rw [w64 _ (by omega) (by omega)]; omega), bv, if_neg hc]
    rw [if_neg (by rw [w64 _ (by omega) (by omega)]; omega), if_pos rfl, if_pos (by rw [w64 _ (by omega) (by omega)]; omega), if_pos (by rw [w64 _ (by omega) (by omega), bl_length]; omega), if_pos p2, if_pos p5, e, Int.toNat_natCast, outs_set _ i hi, w1]
include hW0 hW h0 h1 g0 g1 hs in
theorem step_32 : ∀ k i, i < W → ∃ k', k ≤ k' ∧ geoderef03_Two.l0 (k + 2) (W : Int) (bl a W) (bl b W) (sh : Int) (outs (ofI W a >>> sh) i) (i : Int) 32 f t n = geoderef03_Two.l0 k' (W : Int) (bl a W) (bl b W) (sh : Int) (outs (ofI W a >>> sh) (i + 1)) ((i + 1 : Nat) : Int) 32 f t n := by
  intro k i hi
  have used := And.intro hW0 hs
  have w1 := wsucc i W hi hW
  have ra := rd_bit a h0 h1 i hi (i : Int) rfl
  have rb := rd_bit b g0 g1 i hi (i : Int) rfl
  have p1 : (i : Int) < (W : Int) := Int.ofNat_lt.2 hi
  have p2 : (0 : Int) ≤ (i : Int) := Int.natCast_nonneg i
  have p3 := len_lt a i hi
  have p4 := len_lt b i hi
  have p5 := out_lt (v := ofI W a >>> sh) i i hi
  have bv : (ofI W a >>> sh).getLsbD i = (ofI W a).getLsbD (sh + i) := by rw [BitVec.getLsbD_ushiftRight]
  refine ⟨k, Nat.le_refl _, ?_⟩
  conv => lhs; rw [geoderef03_Two.l0]
  rw [if_pos p1, if_neg (by decide), if_neg (by decide), if_neg (by decide), if_neg (by decide), if_neg (by decide)]
  rw [geoderef03_Two.j4, if_pos (by decide)]
  by_cases hc : sh + i < W
  · have e : rd (bl a W) (wrap64 ((i : Int) + (sh : Int))) = b2i ((ofI W a >>> sh).getLsbD i) := by
      rw [rd_bit a h0 h1 (sh + i) (by omega) _ (by rw [w64 _ (by omega) (by omega)]; omega), bv]
    rw [if_pos (by rw [w64 _ (by omega) (by omega)]; omega), if_pos (by rw [w64 _ (by omega) (by omega)]; omega), if_pos (by rw [w64 _ (by omega) (by omega), bl_length]; omega), if_pos p2, if_pos p5, e, Int.toNat_natCast, outs_set _ i hi, w1]
  · rw [if_neg (by rw [w64 _ (by omega) (by omega)]; omega), if_neg (by decide), w1, outs_skip _ i hi (by rw [bv]; exact BitVec.getLsbD_of_ge _ _ (by omega))]
include hW0 hW h0 h1 g0 g1 hs in
theorem step_33 : ∀ k i, i < W → ∃ k', k ≤ k' ∧ geoderef03_Two.l0 (k + 2) (W : Int) (bl a W) (bl b W) (sh : Int) (outs ((ofI W a).rotateLeft sh) i) (i : Int) 33 f t n = geoderef03_Two.l0 k' (W : Int) (bl a W) (bl b W) (sh : Int) (outs ((ofI W a).rotateLeft sh) (i + 1)) ((i + 1 : Nat) : Int) 33 f t n := by
  intro k i hi
  have used := And.intro hW0 hs
  have w1 := wsucc i W hi hW
  have ra := rd_bit a h0 h1 i hi (i : Int) rfl
  have rb := rd_bit b g0 g1 i hi (i : Int) rfl
  have p1 : (i : Int) < (W : Int) := Int.ofNat_lt.2 hi
  have p2 : (0 : Int) ≤ (i : Int) := Int.natCast_nonneg i
  have p3 := len_lt a i hi
  have p4 := len_lt b i hi
  have p5 := out_lt (v := (ofI W a).rotateLeft sh) i i hi
  have hm : sh % W = sh := Nat.mod_eq_of_lt hs
  have pW : ¬ (W : Int) = 0 := fun e => absurd (Int.natCast_eq_zero.1 e) (Nat.ne_of_gt hW0)
  obtain ⟨e2, j, hj, e3, hjv⟩ := turn_l i sh W hi hs hW
  have bv : ((ofI W a).rotateLeft sh).getLsbD i = (ofI W a).getLsbD j := by
    rw [BitVec.getLsbD_rotateLeft, hm, hjv]
    by_cases hc : i < sh
    · rw [decide_eq_true hc, if_pos hc]; rfl
    · rw [decide_eq_false hc, if_neg hc, decide_eq_true hi]; rfl
  have e : rd (bl a W) (j : Int) = b2i (((ofI W a).rotateLeft sh).getLsbD i) := by rw [rd_bit a h0 h1 j hj _ rfl, bv]
  refine ⟨k, Nat.le_refl _, ?_⟩
  conv => lhs; rw [geoderef03_Two.l0]
  rw [if_pos p1, if_neg (by decide), if_neg (by decide), if_neg (by decide), if_neg (by decide), if_neg (by decide), geoderef03_Two.j4, if_neg (by decide), if_pos rfl, if_neg pW, e2, e3, if_pos (Int.natCast_nonneg j), if_pos (len_lt a j hj), if_pos p2, if_pos p5, e, Int.toNat_natCast, outs_set _ i hi, w1]
include hW0 hW h0 h1 g0 g1 hs in
theorem step_34 : ∀ k i, i < W → ∃ k', k ≤ k' ∧ geoderef03_Two.l0 (k + 2) (W : Int) (bl a W) (bl b W) (sh : Int) (outs ((ofI W a).rotateRight sh) i) (i : Int) 34 f t n = geoderef03_Two.l0 k' (W : Int) (bl a W) (bl b W) (sh : Int) (outs ((ofI W a).rotateRight sh) (i + 1)) ((i + 1 : Nat) : Int) 34 f t n := by
  intro k i hi
  have used := And.intro hW0 hs
  have w1 := wsucc i W hi hW
  have ra := rd_bit a h0 h1 i hi (i : Int) rfl
  have rb := rd_bit b g0 g1 i hi (i : Int) rfl
  have p1 : (i : Int) < (W : Int) := Int.ofNat_lt.2 hi
  have p2 : (0 : Int) ≤ (i : Int) := Int.natCast_nonneg i
  have p3 := len_lt a i hi
  have p4 := len_lt b i hi
  have p5 := out_lt (v := (ofI W a).rotateRight sh) i i hi
  have hm : sh % W = sh := Nat.mod_eq_of_lt hs
  have pW : ¬ (W : Int) = 0 := fun e => absurd (Int.natCast_eq_zero.1 e) (Nat.ne_of_gt hW0)
  obtain ⟨e2, j, hj, e3, hjv⟩ := turn_r i sh W hi hs hW
  have bv : ((ofI W a).rotateRight sh).getLsbD i = (ofI W a).getLsbD j := by
    rw [BitVec.getLsbD_rotateRight, hm, hjv]
    by_cases hc : i < W - sh
    · rw [decide_eq_true hc, if_pos hc]; rfl
    · rw [decide_eq_false hc, if_neg hc, decide_eq_true hi]; rfl
  have e : rd (bl a W) (j : Int) = b2i (((ofI W a).rotateRight sh).getLsbD i) := by rw [rd_bit a h0 h1 j hj _ rfl, bv]
  refine ⟨k, Nat.le_refl _, ?_⟩
  conv => lhs; rw [geoderef03_Two.l0]
  rw [if_pos p1, if_neg (by decide), if_neg (by decide), if_neg (by decide), if_neg (by decide), if_neg (by decide), geoderef03_Two.j4, if_neg (by decide), if_neg (by decide), if_pos rfl, if_neg pW, e2, e3, if_pos (Int.natCast_nonneg j), if_pos (len_lt a j hj), if_pos p2, if_pos p5, e, Int.toNat_natCast, outs_set _ i hi, w1]
end

/-! ### Place by place -/
theorem by_eq (b W : Int) (h0 : 0 ≤ b) (hW : 0 < W) (hW2 : W ≤ 64) : wrap64 (Int.tmod b (IntKind.u64.wrap W)) = ((b % W).toNat : Int) := by
  rw [u64w W (by omega) (by omega), Int.tmod_eq_emod_of_nonneg h0]
  have h1 := Int.emod_nonneg b (by omega : W ≠ 0)
  have h2 := Int.emod_lt_of_pos b hW
  rw [w64 _ (by omega) (by omega)]
  omega
section
variable (k : Nat) (hk : 220 < k) (a b : Int) (h0 : 0 ≤ a) (h1 : a < 4294967296) (g0 : 0 ≤ b) (g1 : b < 4294967296) (f t n : Int)
include hk h0 h1 g0 g1 in
theorem ask_32 (i : Nat) (hi : i < 10) : geoderef03_Two.j0 (k + 7) a b 32 false ((10 + i : Nat) : Int) f t n = some (askI 32 i a b, 0) := by
  have A := asks_32 (k + 6) (by omega) i hi a b h0 h1 g0 g1
  obtain ⟨c, c1, c2⟩ := Option.bind_eq_some_iff.1 A
  rw [geoderef03_Two.j0, if_neg (by decide), if_pos (by omega), c1]
  show (geoderef03_yes.f c).bind _ = _
  rw [c2]
  rfl
include hk h0 h1 g0 g1 in
/-- Up to the parting of the places. -/
theorem into_32 (P : Int) (z : Option (Int × Int)) (hP : 20 ≤ P) (hz : ¬ (23 ≤ P ∧ P ≤ 26 ∧ b = 0))
    (e : (if P = 20 then (geoderef03_cut.f (k + 5) (IntKind.u64.wrap (a + b)) 32).bind fun t150 => some (t150, 0) else if P = 21 then (geoderef03_cut.f (k + 5) (IntKind.u64.wrap (a - b)) 32).bind fun t151 => some (t151, 0) else if P = 22 then (geoderef03_cut.f (k + 5) (IntKind.u64.wrap (a * b)) 32).bind fun t152 => some (t152, 0) else
      if P = 23 then geoderef03_Two.j2 (k + 5) a b 32 (bl a 32) (bl b 32) ((b % 32).toNat : Int) (List.replicate 32 0) P (P == 23) P f t n else geoderef03_Two.j2 (k + 5) a b 32 (bl a 32) (bl b 32) ((b % 32).toNat : Int) (List.replicate 32 0) P (P == 25) P f t n) = z) :
    geoderef03_Two.j0 (k + 7) a b 32 false P f t n = z := by
  have B1 : geoderef03_Bits.f (k + 5) a 32 = some (bl a 32) := Bits_f 32 (by decide) (k + 5) (by omega) a h0 (by omega)
  have B2 : geoderef03_Bits.f (k + 5) b 32 = some (bl b 32) := Bits_f 32 (by decide) (k + 5) (by omega) b g0 (by omega)
  have C := by_eq b 32 g0 (by decide) (by decide)
  have J : geoderef03_Two.j1 (k + 6) a b 32 false P f t n = z := by
    rw [geoderef03_Two.j1, if_neg (by decide), B1, B2]
    simp only [Option.bind_some]
    rw [if_neg (by decide), if_pos (by decide), if_pos (by decide), C]
    exact e
  rw [geoderef03_Two.j0, if_neg (by decide), if_neg (by omega)]
  by_cases c1 : P ≥ 23
  · rw [if_pos c1]
    by_cases c2 : P ≤ 26
    · rw [if_pos c2, show (b == 0) = false from beq_eq_false_iff_ne.2 (fun h => hz ⟨c1, c2, h⟩)]
      exact J
    · rw [if_neg c2]; exact J
  · rw [if_neg c1]; exact J
include hk h0 h1 g0 g1 in
theorem zero_32 (P : Int) (hP : 23 ≤ P) (hP2 : P ≤ 26) (hb : b = 0) : geoderef03_Two.j0 (k + 7) a b 32 false P f t n = some (0, 30) := by
  have used := And.intro hk (And.intro h0 (And.intro h1 (And.intro g0 g1)))
  subst hb
  rw [geoderef03_Two.j0, if_neg (by decide), if_neg (by omega), if_pos (by omega), if_pos (by omega), geoderef03_Two.j1, if_pos (by decide)]
include hk h0 h1 g0 g1 in
theorem sum_32 (i : Nat) (hi : i < 15) : geoderef03_Two.j0 (k + 7) a b 32 false ((20 + i : Nat) : Int) f t n = some (sumI 32 i a b, errI 32 i a b) := by
  have CU : ∀ z, 0 ≤ z → z < 18446744073709551616 → geoderef03_cut.f (k + 5) z 32 = some (z % 4294967296) := fun z p q => cut_f 32 (by decide) (k + 5) (by omega) z p q
  have WR : ∀ z : Int, IntKind.u64.wrap z = z % 18446744073709551616 := fun z => IntKind.wrap_u64 z
  have hs : (b % 32).toNat < 32 := by omega
  have kk := kk32 b g0 g1
  have Z : outs (ofI 32 a &&& ofI 32 b) 0 = List.replicate 32 0 := outs_zero _
  match i, hi with
  | 0, _ =>
    refine into_32 k hk a b h0 h1 g0 g1 f t n _ _ (by decide) (by omega) ?_
    rw [if_pos (by decide), CU _ (by rw [WR]; omega) (by rw [WR]; omega), err_0 (by omega), sumI_eq (by omega)]
    show some (IntKind.u64.wrap (a + b) % 4294967296, (0 : Int)) = some (toI (sumB 32 0 (ofI 32 a) (ofI 32 b)), 0)
    have := add_raw (W := 32) a b
    simp only [Int.reducePow] at this
    rw [WR, show toI (sumB 32 0 (ofI 32 a) (ofI 32 b)) = (a + b) % 4294967296 from this]
    generalize a + b = z
    congr 2
    omega
  | 1, _ =>
    refine into_32 k hk a b h0 h1 g0 g1 f t n _ _ (by decide) (by omega) ?_
    rw [if_neg (by decide), if_pos (by decide), CU _ (by rw [WR]; omega) (by rw [WR]; omega), err_0 (by omega), sumI_eq (by omega)]
    show some (IntKind.u64.wrap (a - b) % 4294967296, (0 : Int)) = some (toI (sumB 32 1 (ofI 32 a) (ofI 32 b)), 0)
    have := sub_raw (W := 32) a b
    simp only [Int.reducePow] at this
    rw [WR, show toI (sumB 32 1 (ofI 32 a) (ofI 32 b)) = (a - b) % 4294967296 from this]
    generalize a - b = z
    congr 2
    omega
  | 2, _ =>
    refine into_32 k hk a b h0 h1 g0 g1 f t n _ _ (by decide) (by omega) ?_
    rw [if_neg (by decide), if_neg (by decide), if_pos (by decide), CU _ (by rw [WR]; omega) (by rw [WR]; omega), err_0 (by omega), sumI_eq (by omega)]
    show some (IntKind.u64.wrap (a * b) % 4294967296, (0 : Int)) = some (toI (sumB 32 2 (ofI 32 a) (ofI 32 b)), 0)
    have := mul_raw (W := 32) a b
    simp only [Int.reducePow] at this
    rw [WR, show toI (sumB 32 2 (ofI 32 a) (ofI 32 b)) = (a * b) % 4294967296 from this]
    generalize a * b = z
    congr 2
    omega
  | 3, _ =>
    by_cases hb : b = 0
    · rw [zero_32 k hk a b h0 h1 g0 g1 f t n _ (by decide) (by decide) hb, hb, (div_z32 a 3 (by omega)).1, (div_z32 a 3 (by omega)).2]
    · obtain ⟨q, ov, d1, d2, d3⟩ := divide_32 (k + 1) (by omega) a b h0 h1 (by omega) g1
      refine into_32 k hk a b h0 h1 g0 g1 f t n _ _ (by decide) (fun h => hb h.2.2) ?_
      rw [if_neg (by decide), if_neg (by decide), if_neg (by decide), if_pos (by decide), geoderef03_Two.j2, if_pos (by decide), d1]
      show (if ((20 + 3 : Nat) : Int) = 25 then some (sumI 32 5 a b, 0) else if ov = true then some (0, 31) else some (q, 0)) = _
      rw [if_neg (by decide)]
      cases ov with
      | true =>
        rw [if_pos rfl, d2, if_pos rfl]
        unfold sumI
        rw [d2]
        rfl
      | false => rw [if_neg (by decide), d2, if_neg (by decide), d3 rfl]
  | 5, _ =>
    by_cases hb : b = 0
    · rw [zero_32 k hk a b h0 h1 g0 g1 f t n _ (by decide) (by decide) hb, hb, (div_z32 a 5 (by omega)).1, (div_z32 a 5 (by omega)).2]
    · obtain ⟨q, ov, d1, d2, d3⟩ := divide_32 (k + 1) (by omega) a b h0 h1 (by omega) g1
      refine into_32 k hk a b h0 h1 g0 g1 f t n _ _ (by decide) (fun h => hb h.2.2) ?_
      rw [if_neg (by decide), if_neg (by decide), if_neg (by decide), if_neg (by decide), geoderef03_Two.j2, if_pos (by decide), d1]
      show (if ((20 + 5 : Nat) : Int) = 25 then some (sumI 32 5 a b, 0) else if ov = true then some (0, 31) else some (q, 0)) = _
      rw [if_pos (by decide), (rem_s32 a b h0 h1 g0 g1 (by omega)).1]
  | 4, _ =>
    by_cases hb : b = 0
    · rw [zero_32 k hk a b h0 h1 g0 g1 f t n _ (by decide) (by decide) hb, hb, (div_z32 a 4 (by omega)).1, (div_z32 a 4 (by omega)).2]
    · have D := div_u32 a b h0 h1 g0 g1 (by omega)
      refine into_32 k hk a b h0 h1 g0 g1 f t n _ _ (by decide) (fun h => hb h.2.2) ?_
      rw [if_neg (by decide), if_neg (by decide), if_neg (by decide), if_neg (by decide), geoderef03_Two.j2, if_neg (by decide), if_pos (by decide), if_neg hb, Int.tdiv_eq_ediv_of_nonneg h0, u64w _ (Int.ediv_nonneg h0 g0) (by have := Int.ediv_le_self b h0; omega), D.1, D.2.1]
  | 6, _ =>
    by_cases hb : b = 0
    · rw [zero_32 k hk a b h0 h1 g0 g1 f t n _ (by decide) (by decide) hb, hb, (div_z32 a 6 (by omega)).1, (div_z32 a 6 (by omega)).2]
    · have D := div_u32 a b h0 h1 g0 g1 (by omega)
      refine into_32 k hk a b h0 h1 g0 g1 f t n _ _ (by decide) (fun h => hb h.2.2) ?_
      rw [if_neg (by decide), if_neg (by decide), if_neg (by decide), if_neg (by decide), geoderef03_Two.j2, if_neg (by decide), if_neg (by decide), if_pos (by decide), if_neg hb, Int.tmod_eq_emod_of_nonneg h0, D.2.2.1, D.2.2.2]
  | 7, _ =>
    have L := loop_f (W := 32) (by decide) (bl a 32) (bl b 32) ((b % 32).toNat : Int) 27 f t n (ofI 32 a &&& ofI 32 b) (step_27 (by decide) (by decide) a b h0 h1 g0 g1 (b % 32).toNat hs f t n) 32 (k + 4) 0 (by omega) (by omega)
    rw [outs_zero] at L
    refine into_32 k hk a b h0 h1 g0 g1 f t n _ _ (by decide) (by omega) ?_
    rw [if_neg (by decide), if_neg (by decide), if_neg (by decide), if_neg (by decide), geoderef03_Two.j2, if_neg (by decide), if_neg (by decide), if_neg (by decide)]
    refine Eq.trans L ?_
    rw [err_0 (by omega), sumI_eq (by omega)]
    rfl
  | 8, _ =>
    have L := loop_f (W := 32) (by decide) (bl a 32) (bl b 32) ((b % 32).toNat : Int) 28 f t n (ofI 32 a ||| ofI 32 b) (step_28 (by decide) (by decide) a b h0 h1 g0 g1 (b % 32).toNat hs f t n) 32 (k + 4) 0 (by omega) (by omega)
    rw [outs_zero] at L
    refine into_32 k hk a b h0 h1 g0 g1 f t n _ _ (by decide) (by omega) ?_
    rw [if_neg (by decide), if_neg (by decide), if_neg (by decide), if_neg (by decide), geoderef03_Two.j2, if_neg (by decide), if_neg (by decide), if_neg (by decide)]
    refine Eq.trans L ?_
    rw [err_0 (by omega), sumI_eq (by omega)]
    rfl
  | 9, _ =>
    have L := loop_f (W := 32) (by decide) (bl a 32) (bl b 32) ((b % 32).toNat : Int) 29 f t n (ofI 32 a ^^^ ofI 32 b) (step_29 (by decide) (by decide) a b h0 h1 g0 g1 (b % 32).toNat hs f t n) 32 (k + 4) 0 (by omega) (by omega)
    rw [outs_zero] at L
    refine into_32 k hk a b h0 h1 g0 g1 f t n _ _ (by decide) (by omega) ?_
    rw [if_neg (by decide), if_neg (by decide), if_neg (by decide), if_neg (by decide), geoderef03_Two.j2, if_neg (by decide), if_neg (by decide), if_neg (by decide)]
    refine Eq.trans L ?_
    rw [err_0 (by omega), sumI_eq (by omega)]
    rfl
  | 10, _ =>
    have L := loop_f (W := 32) (by decide) (bl a 32) (bl b 32) ((b % 32).toNat : Int) 30 f t n (ofI 32 a <<< (b % 32).toNat) (step_30 (by decide) (by decide) a b h0 h1 g0 g1 (b % 32).toNat hs f t n) 32 (k + 4) 0 (by omega) (by omega)
    rw [outs_zero] at L
    refine into_32 k hk a b h0 h1 g0 g1 f t n _ _ (by decide) (by omega) ?_
    rw [if_neg (by decide), if_neg (by decide), if_neg (by decide), if_neg (by decide), geoderef03_Two.j2, if_neg (by decide), if_neg (by decide), if_neg (by decide)]
    refine Eq.trans L ?_
    rw [err_0 (by omega), sumI_eq (by omega)]
    show _ = some (toI (ofI 32 a <<< ((ofI 32 b).toNat % 32)), _)
    rw [kk]
  | 11, _ =>
    have L := loop_f (W := 32) (by decide) (bl a 32) (bl b 32) ((b % 32).toNat : Int) 31 f t n ((ofI 32 a).sshiftRight (b % 32).toNat) (step_31 (by decide) (by decide) a b h0 h1 g0 g1 (b % 32).toNat hs f t n) 32 (k + 4) 0 (by omega) (by omega)
    rw [outs_zero] at L
    refine into_32 k hk a b h0 h1 g0 g1 f t n _ _ (by decide) (by omega) ?_
    rw [if_neg (by decide), if_neg (by decide), if_neg (by decide), if_neg (by decide), geoderef03_Two.j2, if_neg (by decide), if_neg (by decide), if_neg (by decide)]
    refine Eq.trans L ?_
    rw [err_0 (by omega), sumI_eq (by omega)]
    show _ = some (toI ((ofI 32 a).sshiftRight ((ofI 32 b).toNat % 32)), _)
    rw [kk]
  | 12, _ =>
    have L := loop_f (W := 32) (by decide) (bl a 32) (bl b 32) ((b % 32).toNat : Int) 32 f t n (ofI 32 a >>> (b % 32).toNat) (step_32 (by decide) (by decide) a b h0 h1 g0 g1 (b % 32).toNat hs f t n) 32 (k + 4) 0 (by omega) (by omega)
    rw [outs_zero] at L
    refine into_32 k hk a b h0 h1 g0 g1 f t n _ _ (by decide) (by omega) ?_
    rw [if_neg (by decide), if_neg (by decide), if_neg (by decide), if_neg (by decide), geoderef03_Two.j2, if_neg (by decide), if_neg (by decide), if_neg (by decide)]
    refine Eq.trans L ?_
    rw [err_0 (by omega), sumI_eq (by omega)]
    show _ = some (toI (ofI 32 a >>> ((ofI 32 b).toNat % 32)), _)
    rw [kk]
  | 13, _ =>
    have L := loop_f (W := 32) (by decide) (bl a 32) (bl b 32) ((b % 32).toNat : Int) 33 f t n ((ofI 32 a).rotateLeft (b % 32).toNat) (step_33 (by decide) (by decide) a b h0 h1 g0 g1 (b % 32).toNat hs f t n) 32 (k + 4) 0 (by omega) (by omega)
    rw [outs_zero] at L
    refine into_32 k hk a b h0 h1 g0 g1 f t n _ _ (by decide) (by omega) ?_
    rw [if_neg (by decide), if_neg (by decide), if_neg (by decide), if_neg (by decide), geoderef03_Two.j2, if_neg (by decide), if_neg (by decide), if_neg (by decide)]
    refine Eq.trans L ?_
    rw [err_0 (by omega), sumI_eq (by omega)]
    show _ = some (toI ((ofI 32 a).rotateLeft ((ofI 32 b).toNat % 32)), _)
    rw [kk]
  | 14, _ =>
    have L := loop_f (W := 32) (by decide) (bl a 32) (bl b 32) ((b % 32).toNat : Int) 34 f t n ((ofI 32 a).rotateRight (b % 32).toNat) (step_34 (by decide) (by decide) a b h0 h1 g0 g1 (b % 32).toNat hs f t n) 32 (k + 4) 0 (by omega) (by omega)
    rw [outs_zero] at L
    refine into_32 k hk a b h0 h1 g0 g1 f t n _ _ (by decide) (by omega) ?_
    rw [if_neg (by decide), if_neg (by decide), if_neg (by decide), if_neg (by decide), geoderef03_Two.j2, if_neg (by decide), if_neg (by decide), if_neg (by decide)]
    refine Eq.trans L ?_
    rw [err_0 (by omega), sumI_eq (by omega)]
    show _ = some (toI ((ofI 32 a).rotateRight ((ofI 32 b).toNat % 32)), _)
    rw [kk]
end
section
variable (k : Nat) (hk : 220 < k) (a b : Int) (h0 : 0 ≤ a) (h1 : a < 18446744073709551616) (g0 : 0 ≤ b) (g1 : b < 18446744073709551616) (f t n : Int)
include hk h0 h1 g0 g1 in
theorem ask_64 (i : Nat) (hi : i < 10) : geoderef03_Two.j0 (k + 7) a b 64 false ((10 + i : Nat) : Int) f t n = some (askI 64 i a b, 0) := by
  have A := asks_64 (k + 6) (by omega) i hi a b h0 h1 g0 g1
  obtain ⟨c, c1, c2⟩ := Option.bind_eq_some_iff.1 A
  rw [geoderef03_Two.j0, if_neg (by decide), if_pos (by omega), c1]
  show (geoderef03_yes.f c).bind _ = _
  rw [c2]
  rfl
include hk h0 h1 g0 g1 in
/-- Up to the parting of the places. -/
theorem into_64 (P : Int) (z : Option (Int × Int)) (hP : 20 ≤ P) (hz : ¬ (23 ≤ P ∧ P ≤ 26 ∧ b = 0))
    (e : (if P = 20 then (geoderef03_cut.f (k + 5) (IntKind.u64.wrap (a + b)) 64).bind fun t150 => some (t150, 0) else if P = 21 then (geoderef03_cut.f (k + 5) (IntKind.u64.wrap (a - b)) 64).bind fun t151 => some (t151, 0) else if P = 22 then (geoderef03_cut.f (k + 5) (IntKind.u64.wrap (a * b)) 64).bind fun t152 => some (t152, 0) else
      if P = 23 then geoderef03_Two.j2 (k + 5) a b 64 (bl a 64) (bl b 64) ((b % 64).toNat : Int) (List.replicate 64 0) P (P == 23) P f t n else geoderef03_Two.j2 (k + 5) a b 64 (bl a 64) (bl b 64) ((b % 64).toNat : Int) (List.replicate 64 0) P (P == 25) P f t n) = z) :
    geoderef03_Two.j0 (k + 7) a b 64 false P f t n = z := by
  have B1 : geoderef03_Bits.f (k + 5) a 64 = some (bl a 64) := Bits_f 64 (by decide) (k + 5) (by omega) a h0 (by omega)
  have B2 : geoderef03_Bits.f (k + 5) b 64 = some (bl b 64) := Bits_f 64 (by decide) (k + 5) (by omega) b g0 (by omega)
  have C := by_eq b 64 g0 (by decide) (by decide)
  have J : geoderef03_Two.j1 (k + 6) a b 64 false P f t n = z := by
    rw [geoderef03_Two.j1, if_neg (by decide), B1, B2]
    simp only [Option.bind_some]
    rw [if_neg (by decide), if_pos (by decide), if_pos (by decide), C]
    exact e
  rw [geoderef03_Two.j0, if_neg (by decide), if_neg (by omega)]
  by_cases c1 : P ≥ 23
  · rw [if_pos c1]
    by_cases c2 : P ≤ 26
    · rw [if_pos c2, show (b == 0) = false from beq_eq_false_iff_ne.2 (fun h => hz ⟨c1, c2, h⟩)]
      exact J
    · rw [if_neg c2]; exact J
  · rw [if_neg c1]; exact J
include hk h0 h1 g0 g1 in
theorem zero_64 (P : Int) (hP : 23 ≤ P) (hP2 : P ≤ 26) (hb : b = 0) : geoderef03_Two.j0 (k + 7) a b 64 false P f t n = some (0, 30) := by
  have used := And.intro hk (And.intro h0 (And.intro h1 (And.intro g0 g1)))
  subst hb
  rw [geoderef03_Two.j0, if_neg (by decide), if_neg (by omega), if_pos (by omega), if_pos (by omega), geoderef03_Two.j1, if_pos (by decide)]
include hk h0 h1 g0 g1 in
theorem sum_64 (i : Nat) (hi : i < 15) : geoderef03_Two.j0 (k + 7) a b 64 false ((20 + i : Nat) : Int) f t n = some (sumI 64 i a b, errI 64 i a b) := by
  have CU : ∀ z, 0 ≤ z → z < 18446744073709551616 → geoderef03_cut.f (k + 5) z 64 = some (z % 18446744073709551616) := fun z p q => cut_f 64 (by decide) (k + 5) (by omega) z p q
  have WR : ∀ z : Int, IntKind.u64.wrap z = z % 18446744073709551616 := fun z => IntKind.wrap_u64 z
  have hs : (b % 64).toNat < 64 := by omega
  have kk := kk64 b g0 g1
  have Z : outs (ofI 64 a &&& ofI 64 b) 0 = List.replicate 64 0 := outs_zero _
  match i, hi with
  | 0, _ =>
    refine into_64 k hk a b h0 h1 g0 g1 f t n _ _ (by decide) (by omega) ?_
    rw [if_pos (by decide), CU _ (by rw [WR]; omega) (by rw [WR]; omega), err_0 (by omega), sumI_eq (by omega)]
    show some (IntKind.u64.wrap (a + b) % 18446744073709551616, (0 : Int)) = some (toI (sumB 64 0 (ofI 64 a) (ofI 64 b)), 0)
    have := add_raw (W := 64) a b
    simp only [Int.reducePow] at this
    rw [WR, show toI (sumB 64 0 (ofI 64 a) (ofI 64 b)) = (a + b) % 18446744073709551616 from this]
    generalize a + b = z
    congr 2
    omega
  | 1, _ =>
    refine into_64 k hk a b h0 h1 g0 g1 f t n _ _ (by decide) (by omega) ?_
    rw [if_neg (by decide), if_pos (by decide), CU _ (by rw [WR]; omega) (by rw [WR]; omega), err_0 (by omega), sumI_eq (by omega)]
    show some (IntKind.u64.wrap (a - b) % 18446744073709551616, (0 : Int)) = some (toI (sumB 64 1 (ofI 64 a) (ofI 64 b)), 0)
    have := sub_raw (W := 64) a b
    simp only [Int.reducePow] at this
    rw [WR, show toI (sumB 64 1 (ofI 64 a) (ofI 64 b)) = (a - b) % 18446744073709551616 from this]
    generalize a - b = z
    congr 2
    omega
  | 2, _ =>
    refine into_64 k hk a b h0 h1 g0 g1 f t n _ _ (by decide) (by omega) ?_
    rw [if_neg (by decide), if_neg (by decide), if_pos (by decide), CU _ (by rw [WR]; omega) (by rw [WR]; omega), err_0 (by omega), sumI_eq (by omega)]
    show some (IntKind.u64.wrap (a * b) % 18446744073709551616, (0 : Int)) = some (toI (sumB 64 2 (ofI 64 a) (ofI 64 b)), 0)
    have := mul_raw (W := 64) a b
    simp only [Int.reducePow] at this
    rw [WR, show toI (sumB 64 2 (ofI 64 a) (ofI 64 b)) = (a * b) % 18446744073709551616 from this]
    generalize a * b = z
    congr 2
    omega
  | 3, _ =>
    by_cases hb : b = 0
    · rw [zero_64 k hk a b h0 h1 g0 g1 f t n _ (by decide) (by decide) hb, hb, (div_z64 a 3 (by omega)).1, (div_z64 a 3 (by omega)).2]
    · obtain ⟨q, ov, d1, d2, d3⟩ := divide_64 (k + 1) (by omega) a b h0 h1 (by omega) g1
      refine into_64 k hk a b h0 h1 g0 g1 f t n _ _ (by decide) (fun h => hb h.2.2) ?_
      rw [if_neg (by decide), if_neg (by decide), if_neg (by decide), if_pos (by decide), geoderef03_Two.j2, if_pos (by decide), d1]
      show (if ((20 + 3 : Nat) : Int) = 25 then some (sumI 64 5 a b, 0) else if ov = true then some (0, 31) else some (q, 0)) = _
      rw [if_neg (by decide)]
      cases ov with
      | true =>
        rw [if_pos rfl, d2, if_pos rfl]
        unfold sumI
        rw [d2]
        rfl
      | false => rw [if_neg (by decide), d2, if_neg (by decide), d3 rfl]
  | 5, _ =>
    by_cases hb : b = 0
    · rw [zero_64 k hk a b h0 h1 g0 g1 f t n _ (by decide) (by decide) hb, hb, (div_z64 a 5 (by omega)).1, (div_z64 a 5 (by omega)).2]
    · obtain ⟨q, ov, d1, d2, d3⟩ := divide_64 (k + 1) (by omega) a b h0 h1 (by omega) g1
      refine into_64 k hk a b h0 h1 g0 g1 f t n _ _ (by decide) (fun h => hb h.2.2) ?_
      rw [if_neg (by decide), if_neg (by decide), if_neg (by decide), if_neg (by decide), geoderef03_Two.j2, if_pos (by decide), d1]
      show (if ((20 + 5 : Nat) : Int) = 25 then some (sumI 64 5 a b, 0) else if ov = true then some (0, 31) else some (q, 0)) = _
      rw [if_pos (by decide), (rem_s64 a b h0 h1 g0 g1 (by omega)).1]
  | 4, _ =>
    by_cases hb : b = 0
    · rw [zero_64 k hk a b h0 h1 g0 g1 f t n _ (by decide) (by decide) hb, hb, (div_z64 a 4 (by omega)).1, (div_z64 a 4 (by omega)).2]
    · have D := div_u64 a b h0 h1 g0 g1 (by omega)
      refine into_64 k hk a b h0 h1 g0 g1 f t n _ _ (by decide) (fun h => hb h.2.2) ?_
      rw [if_neg (by decide), if_neg (by decide), if_neg (by decide), if_neg (by decide), geoderef03_Two.j2, if_neg (by decide), if_pos (by decide), if_neg hb, Int.tdiv_eq_ediv_of_nonneg h0, u64w _ (Int.ediv_nonneg h0 g0) (by have := Int.ediv_le_self b h0; omega), D.1, D.2.1]
  | 6, _ =>
    by_cases hb : b = 0
    · rw [zero_64 k hk a b h0 h1 g0 g1 f t n _ (by decide) (by decide) hb, hb, (div_z64 a 6 (by omega)).1, (div_z64 a 6 (by omega)).2]
    · have D := div_u64 a b h0 h1 g0 g1 (by omega)
      refine into_64 k hk a b h0 h1 g0 g1 f t n _ _ (by decide) (fun h => hb h.2.2) ?_
      rw [if_neg (by decide), if_neg (by decide), if_neg (by decide), if_neg (by decide), geoderef03_Two.j2, if_neg (by decide), if_neg (by decide), if_pos (by decide), if_neg hb, Int.tmod_eq_emod_of_nonneg h0, D.2.2.1, D.2.2.2]
  | 7, _ =>
    have L := loop_f (W := 64) (by decide) (bl a 64) (bl b 64) ((b % 64).toNat : Int) 27 f t n (ofI 64 a &&& ofI 64 b) (step_27 (by decide) (by decide) a b h0 h1 g0 g1 (b % 64).toNat hs f t n) 64 (k + 4) 0 (by omega) (by omega)
    rw [outs_zero] at L
    refine into_64 k hk a b h0 h1 g0 g1 f t n _ _ (by decide) (by omega) ?_
    rw [if_neg (by decide), if_neg (by decide), if_neg (by decide), if_neg (by decide), geoderef03_Two.j2, if_neg (by decide), if_neg (by decide), if_neg (by decide)]
    refine Eq.trans L ?_
    rw [err_0 (by omega), sumI_eq (by omega)]
    rfl
  | 8, _ =>
    have L := loop_f (W := 64) (by decide) (bl a 64) (bl b 64) ((b % 64).toNat : Int) 28 f t n (ofI 64 a ||| ofI 64 b) (step_28 (by decide) (by decide) a b h0 h1 g0 g1 (b % 64).toNat hs f t n) 64 (k + 4) 0 (by omega) (by omega)
    rw [outs_zero] at L
    refine into_64 k hk a b h0 h1 g0 g1 f t n _ _ (by decide) (by omega) ?_
    rw [if_neg (by decide), if_neg (by decide), if_neg (by decide), if_neg (by decide), geoderef03_Two.j2, if_neg (by decide), if_neg (by decide), if_neg (by decide)]
    refine Eq.trans L ?_
    rw [err_0 (by omega), sumI_eq (by omega)]
    rfl
  | 9, _ =>
    have L := loop_f (W := 64) (by decide) (bl a 64) (bl b 64) ((b % 64).toNat : Int) 29 f t n (ofI 64 a ^^^ ofI 64 b) (step_29 (by decide) (by decide) a b h0 h1 g0 g1 (b % 64).toNat hs f t n) 64 (k + 4) 0 (by omega) (by omega)
    rw [outs_zero] at L
    refine into_64 k hk a b h0 h1 g0 g1 f t n _ _ (by decide) (by omega) ?_
    rw [if_neg (by decide), if_neg (by decide), if_neg (by decide), if_neg (by decide), geoderef03_Two.j2, if_neg (by decide), if_neg (by decide), if_neg (by decide)]
    refine Eq.trans L ?_
    rw [err_0 (by omega), sumI_eq (by omega)]
    rfl
  | 10, _ =>
    have L := loop_f (W := 64) (by decide) (bl a 64) (bl b 64) ((b % 64).toNat : Int) 30 f t n (ofI 64 a <<< (b % 64).toNat) (step_30 (by decide) (by decide) a b h0 h1 g0 g1 (b % 64).toNat hs f t n) 64 (k + 4) 0 (by omega) (by omega)
    rw [outs_zero] at L
    refine into_64 k hk a b h0 h1 g0 g1 f t n _ _ (by decide) (by omega) ?_
    rw [if_neg (by decide), if_neg (by decide), if_neg (by decide), if_neg (by decide), geoderef03_Two.j2, if_neg (by decide), if_neg (by decide), if_neg (by decide)]
    refine Eq.trans L ?_
    rw [err_0 (by omega), sumI_eq (by omega)]
    show _ = some (toI (ofI 64 a <<< ((ofI 64 b).toNat % 64)), _)
    rw [kk]
  | 11, _ =>
    have L := loop_f (W := 64) (by decide) (bl a 64) (bl b 64) ((b % 64).toNat : Int) 31 f t n ((ofI 64 a).sshiftRight (b % 64).toNat) (step_31 (by decide) (by decide) a b h0 h1 g0 g1 (b % 64).toNat hs f t n) 64 (k + 4) 0 (by omega) (by omega)
    rw [outs_zero] at L
    refine into_64 k hk a b h0 h1 g0 g1 f t n _ _ (by decide) (by omega) ?_
    rw [if_neg (by decide), if_neg (by decide), if_neg (by decide), if_neg (by decide), geoderef03_Two.j2, if_neg (by decide), if_neg (by decide), if_neg (by decide)]
    refine Eq.trans L ?_
    rw [err_0 (by omega), sumI_eq (by omega)]
    show _ = some (toI ((ofI 64 a).sshiftRight ((ofI 64 b).toNat % 64)), _)
    rw [kk]
  | 12, _ =>
    have L := loop_f (W := 64) (by decide) (bl a 64) (bl b 64) ((b % 64).toNat : Int) 32 f t n (ofI 64 a >>> (b % 64).toNat) (step_32 (by decide) (by decide) a b h0 h1 g0 g1 (b % 64).toNat hs f t n) 64 (k + 4) 0 (by omega) (by omega)
    rw [outs_zero] at L
    refine into_64 k hk a b h0 h1 g0 g1 f t n _ _ (by decide) (by omega) ?_
    rw [if_neg (by decide), if_neg (by decide), if_neg (by decide), if_neg (by decide), geoderef03_Two.j2, if_neg (by decide), if_neg (by decide), if_neg (by decide)]
    refine Eq.trans L ?_
    rw [err_0 (by omega), sumI_eq (by omega)]
    show _ = some (toI (ofI 64 a >>> ((ofI 64 b).toNat % 64)), _)
    rw [kk]
  | 13, _ =>
    have L := loop_f (W := 64) (by decide) (bl a 64) (bl b 64) ((b % 64).toNat : Int) 33 f t n ((ofI 64 a).rotateLeft (b % 64).toNat) (step_33 (by decide) (by decide) a b h0 h1 g0 g1 (b % 64).toNat hs f t n) 64 (k + 4) 0 (by omega) (by omega)
    rw [outs_zero] at L
    refine into_64 k hk a b h0 h1 g0 g1 f t n _ _ (by decide) (by omega) ?_
    rw [if_neg (by decide), if_neg (by decide), if_neg (by decide), if_neg (by decide), geoderef03_Two.j2, if_neg (by decide), if_neg (by decide), if_neg (by decide)]
    refine Eq.trans L ?_
    rw [err_0 (by omega), sumI_eq (by omega)]
    show _ = some (toI ((ofI 64 a).rotateLeft ((ofI 64 b).toNat % 64)), _)
    rw [kk]
  | 14, _ =>
    have L := loop_f (W := 64) (by decide) (bl a 64) (bl b 64) ((b % 64).toNat : Int) 34 f t n ((ofI 64 a).rotateRight (b % 64).toNat) (step_34 (by decide) (by decide) a b h0 h1 g0 g1 (b % 64).toNat hs f t n) 64 (k + 4) 0 (by omega) (by omega)
    rw [outs_zero] at L
    refine into_64 k hk a b h0 h1 g0 g1 f t n _ _ (by decide) (by omega) ?_
    rw [if_neg (by decide), if_neg (by decide), if_neg (by decide), if_neg (by decide), geoderef03_Two.j2, if_neg (by decide), if_neg (by decide), if_neg (by decide)]
    refine Eq.trans L ?_
    rw [err_0 (by omega), sumI_eq (by omega)]
    show _ = some (toI ((ofI 64 a).rotateRight ((ofI 64 b).toNat % 64)), _)
    rw [kk]
end

/-! ### Which place -/
theorem of_0 (k : Nat) (op : Int) (h0 : 70 ≤ op) (h1 : op ≤ 79) : geoderef03_Of.f (k + 9) op = some (((10 + (op - 70).toNat : Nat) : Int), 32, 32, 2) := by
  unfold geoderef03_Of.f
  rw [if_neg (by omega), if_pos (by omega), geoderef03_Of.j0, decide_eq_true h1, if_pos rfl, w64 (10 + op) (by omega) (by omega), w64 _ (by omega) (by omega)]
  congr 2
  omega
theorem of_1 (k : Nat) (op : Int) (h0 : 81 ≤ op) (h1 : op ≤ 90) : geoderef03_Of.f (k + 9) op = some (((10 + (op - 81).toNat : Nat) : Int), 64, 32, 2) := by
  unfold geoderef03_Of.f
  rw [if_neg (by omega), if_pos (by omega), geoderef03_Of.j0, decide_eq_false (by omega), if_neg (by decide), if_neg (by omega), if_pos (by omega), geoderef03_Of.j1, decide_eq_true h1, if_pos rfl, w64 (10 + op) (by omega) (by omega), w64 _ (by omega) (by omega)]
  congr 2
  omega
theorem of_2 (k : Nat) (op : Int) (h0 : 106 ≤ op) (h1 : op ≤ 120) : geoderef03_Of.f (k + 9) op = some (((20 + (op - 106).toNat : Nat) : Int), 32, 32, 2) := by
  unfold geoderef03_Of.f
  rw [if_neg (by omega), if_pos (by omega), geoderef03_Of.j0, decide_eq_false (by omega), if_neg (by decide), if_neg (by omega), if_pos (by omega), geoderef03_Of.j1, decide_eq_false (by omega), if_neg (by decide), if_pos (by omega),
    geoderef03_Of.j2, decide_eq_false (by omega), if_neg (by decide), if_pos (by omega), geoderef03_Of.j3, decide_eq_true h1, if_pos rfl, w64 (20 + op) (by omega) (by omega), w64 _ (by omega) (by omega)]
  congr 2
  omega
theorem of_3 (k : Nat) (op : Int) (h0 : 124 ≤ op) (h1 : op ≤ 138) : geoderef03_Of.f (k + 9) op = some (((20 + (op - 124).toNat : Nat) : Int), 64, 64, 2) := by
  unfold geoderef03_Of.f
  rw [if_neg (by omega), if_pos (by omega), geoderef03_Of.j0, decide_eq_false (by omega), if_neg (by decide), if_neg (by omega), if_pos (by omega), geoderef03_Of.j1, decide_eq_false (by omega), if_neg (by decide), if_pos (by omega),
    geoderef03_Of.j2, decide_eq_false (by omega), if_neg (by decide), if_pos (by omega), geoderef03_Of.j3, decide_eq_false (by omega), if_neg (by decide), if_pos (by omega), geoderef03_Of.j4, decide_eq_false (by omega), if_neg (by decide), if_pos (by omega),
    geoderef03_Of.j5, decide_eq_true h1, if_pos rfl, w64 (20 + op) (by omega) (by omega), w64 _ (by omega) (by omega)]
  congr 2
  omega
def noTwo (o : Option (Int × Int × Int × Int)) : Prop := o.isSome = true ∧ o.map (fun r => r.2.2.2) ≠ some 2
theorem noTwo_mk (P F T m : Int) (h : m ≠ 2) : noTwo (some (P, F, T, m)) := ⟨rfl, fun e => h (Option.some.inj e)⟩
theorem noTwo_ite {c : Prop} [Decidable c] {x y : Option (Int × Int × Int × Int)} (h1 : c → noTwo x) (h2 : ¬ c → noTwo y) : noTwo (if c then x else y) := by
  by_cases h : c
  · rw [if_pos h]; exact h1 h
  · rw [if_neg h]; exact h2 h
theorem of_no' (k : Nat) (op : Int) (c0 : ¬ (70 ≤ op ∧ op ≤ 79)) (c1 : ¬ (81 ≤ op ∧ op ≤ 90)) (c2 : ¬ (106 ≤ op ∧ op ≤ 120)) (c3 : ¬ (124 ≤ op ∧ op ≤ 138)) : noTwo (geoderef03_Of.f (k + 9) op) := by
  simp only [geoderef03_Of.f, geoderef03_Of.j0, geoderef03_Of.j1, geoderef03_Of.j2, geoderef03_Of.j3, geoderef03_Of.j4, geoderef03_Of.j5, geoderef03_Of.j6, geoderef03_Of.j7, decide_eq_true_eq, beq_iff_eq, Bool.false_eq_true, ↓reduceIte]
  (repeat' (refine noTwo_ite (fun _ => ?_) (fun _ => ?_))) <;> first | exact noTwo_mk _ _ _ _ (by decide) | (exfalso; omega)
theorem of_no (k : Nat) (op : Int) (c0 : ¬ (70 ≤ op ∧ op ≤ 79)) (c1 : ¬ (81 ≤ op ∧ op ≤ 90)) (c2 : ¬ (106 ≤ op ∧ op ≤ 120)) (c3 : ¬ (124 ≤ op ∧ op ≤ 138)) :
    ∃ P F T m, geoderef03_Of.f (k + 9) op = some (P, F, T, m) ∧ m ≠ 2 := by
  obtain ⟨h1, h2⟩ := of_no' k op c0 c1 c2 c3
  obtain ⟨⟨P, F, T, m⟩, e⟩ := Option.isSome_iff_exists.1 h1
  rw [e] at h2
  exact ⟨P, F, T, m, e, fun hm => h2 (by rw [hm]; rfl)⟩

theorem fits_32 (k : Nat) (hk : 64 < k) (a : Int) (h0 : 0 ≤ a) (h1 : a < 18446744073709551616) : geoderef03_Fits.f k a 32 = some (decide (a < 4294967296)) := by
  have := Fits_f 32 (by decide) k (by omega) a h0 h1
  refine this.trans ?_
  congr 1
  simp only [Int.reducePow]
  rw [Bool.eq_iff_iff, beq_iff_eq, decide_eq_true_eq]
  omega
theorem fits_64 (k : Nat) (hk : 64 < k) (a : Int) (h0 : 0 ≤ a) (h1 : a < 18446744073709551616) : geoderef03_Fits.f k a 64 = some true := by
  have := Fits_f 64 (by decide) k (by omega) a h0 h1
  refine this.trans ?_
  congr 1
  simp only [Int.reducePow]
  rw [beq_iff_eq]
  omega
theorem no_j0 (k : Nat) (a b F P f t n : Int) : geoderef03_Two.j0 (k + 1) a b F true P f t n = some (0, 2) := by
  rw [geoderef03_Two.j0, if_pos rfl]
/-- The reference's Two comes to what the program's does. -/
theorem ref_two (op a b : Int) (h0 : 0 ≤ a) (h1 : a < 18446744073709551616) (g0 : 0 ≤ b) (g1 : b < 18446744073709551616) : geoderef03_Two.f 309 op a b = some (twoV op a b, twoE op a b) := by
  unfold geoderef03_Two.f twoV twoE
  by_cases c0 : 70 ≤ op ∧ op ≤ 79
  · simp only [if_pos c0]
    rw [of_0 300 op c0.1 c0.2]
    simp only [Option.bind_some]
    rw [if_pos trivial, fits_32 309 (by decide) a h0 h1, fits_32 309 (by decide) b g0 g1]
    simp only [Option.bind_some]
    by_cases ha : a < 4294967296
    · rw [decide_eq_true ha, if_pos rfl]
      by_cases hb : b < 4294967296
      · rw [decide_eq_true hb, if_pos ⟨ha, hb⟩, if_pos ⟨ha, hb⟩]
        exact ask_32 302 (by decide) a b h0 ha g0 hb 32 32 2 (op - 70).toNat (by omega)
      · rw [decide_eq_false hb, if_neg (fun h => hb h.2), if_neg (fun h => hb h.2)]
        exact no_j0 308 _ _ _ _ _ _ _
    · rw [decide_eq_false ha, if_neg (by decide), if_neg (fun h => ha h.1), if_neg (fun h => ha h.1)]
      exact no_j0 308 _ _ _ _ _ _ _
  simp only [if_neg c0]
  by_cases c1 : 81 ≤ op ∧ op ≤ 90
  · simp only [if_pos c1]
    rw [of_1 300 op c1.1 c1.2]
    simp only [Option.bind_some]
    rw [if_pos trivial, fits_64 309 (by decide) a h0 h1, fits_64 309 (by decide) b g0 g1]
    simp only [Option.bind_some]
    exact ask_64 302 (by decide) a b h0 h1 g0 g1 64 32 2 (op - 81).toNat (by omega)
  simp only [if_neg c1]
  by_cases c2 : 106 ≤ op ∧ op ≤ 120
  · simp only [if_pos c2]
    rw [of_2 300 op c2.1 c2.2]
    simp only [Option.bind_some]
    rw [if_pos trivial, fits_32 309 (by decide) a h0 h1, fits_32 309 (by decide) b g0 g1]
    simp only [Option.bind_some]
    by_cases ha : a < 4294967296
    · rw [decide_eq_true ha, if_pos rfl]
      by_cases hb : b < 4294967296
      · rw [decide_eq_true hb, if_pos ⟨ha, hb⟩, if_pos ⟨ha, hb⟩]
        exact sum_32 302 (by decide) a b h0 ha g0 hb 32 32 2 (op - 106).toNat (by omega)
      · rw [decide_eq_false hb, if_neg (fun h => hb h.2), if_neg (fun h => hb h.2)]
        exact no_j0 308 _ _ _ _ _ _ _
    · rw [decide_eq_false ha, if_neg (by decide), if_neg (fun h => ha h.1), if_neg (fun h => ha h.1)]
      exact no_j0 308 _ _ _ _ _ _ _
  simp only [if_neg c2]
  by_cases c3 : 124 ≤ op ∧ op ≤ 138
  · simp only [if_pos c3]
    rw [of_3 300 op c3.1 c3.2]
    simp only [Option.bind_some]
    rw [if_pos trivial, fits_64 309 (by decide) a h0 h1, fits_64 309 (by decide) b g0 g1]
    simp only [Option.bind_some]
    exact sum_64 302 (by decide) a b h0 h1 g0 g1 64 64 2 (op - 124).toNat (by omega)
  simp only [if_neg c3]
  obtain ⟨P, F, T, m, e, hm⟩ := of_no 300 op c0 c1 c2 c3
  rw [e]
  simp only [Option.bind_some]
  rw [if_neg hm]
  exact no_j0 308 _ _ _ _ _ _ _
end Go.Proofs.YtfcagbgnlibfpaaDoor.S
