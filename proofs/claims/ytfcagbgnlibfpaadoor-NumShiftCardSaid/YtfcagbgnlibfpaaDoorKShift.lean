/- num: the walk of the law NumShift: it returns true, whatever numbers it is given; no memory that was there turns. -/
import Derived.Test.YtfcagbgnlibfpaaDoorKRing
import Derived.Test.YtfcagbgnlibfpaaDoorVShift
namespace Go.Proofs.YtfcagbgnlibfpaaDoor.A
open Go.ChangeShapes Go.WideShapes Go.ChangeAt Go.RowKit Go.Proofs.YtfcagbgnlibfpaaDoor.S
set_option linter.unusedVariables false
set_option linter.unusedSimpArgs false

theorem shiftS_32 (x b : Int) : ((askI 32 2 x 0 == 1) = true ∧ (askI 32 2 x 0 == 0) = false ∧ (sumI 32 11 x b != sumI 32 9 (sumI 32 12 (sumI 32 9 x (sumI 32 1 0 1)) b) (sumI 32 1 0 1)) = false) ∨
    ((askI 32 2 x 0 == 1) = false ∧ (askI 32 2 x 0 == 0) = true ∧ (sumI 32 11 x b != sumI 32 12 x b) = false) := by
  rw [ask_neg]
  cases h : (ofI 32 x).msb
  · exact .inr ⟨rfl, rfl, ne_false (shs_pos x b h)⟩
  · exact .inl ⟨rfl, rfl, ne_false (shs_neg x b h)⟩
theorem shiftS_64 (x b : Int) : ((askI 64 2 x 0 == 1) = true ∧ (askI 64 2 x 0 == 0) = false ∧ (sumI 64 11 x b != sumI 64 9 (sumI 64 12 (sumI 64 9 x (sumI 64 1 0 1)) b) (sumI 64 1 0 1)) = false) ∨
    ((askI 64 2 x 0 == 1) = false ∧ (askI 64 2 x 0 == 0) = true ∧ (sumI 64 11 x b != sumI 64 12 x b) = false) := by
  rw [ask_neg]
  cases h : (ofI 64 x).msb
  · exact .inr ⟨rfl, rfl, ne_false (shs_pos x b h)⟩
  · exact .inl ⟨rfl, rfl, ne_false (shs_neg x b h)⟩
set_option maxHeartbeats 16000000 in
set_option maxRecDepth 100000 in
theorem numShift (a b : Int) (ha0 : 0 ≤ a) (ha1 : a < 18446744073709551616) (hb0 : 0 ≤ b) (hb1 : b < 18446744073709551616) (w : World) :
    Calls Tryd.prog 7 #[.int .u64 a, .int .u64 b] w fun e w' => e = .returned (.bool true) ∧ Below w.heap.size w w' := by
  go_enter Tryd.func7, Tryd.ntmps7
  have hB : Below w.heap.size w w := Below.refl _ _
  have q32 : 0 ≤ (a / 4294967296) ∧ (a / 4294967296) < 4294967296 ∧ 0 ≤ (b % 4294967296) ∧ (b % 4294967296) < 4294967296 := by omega
  generalize hA : a / 4294967296 = a' at *
  generalize hBB : b % 4294967296 = b' at *
  obtain ⟨e321, e322, e323, e324⟩ := q32
  have n321 := ne_false (shift1_32 a' b' e321 e322 e323 e324)
  have n322 := ne_false (shift2_32 a' b' e321 e322 e323 e324)
  have n323 := ne_false (shift3_32 a' b' e321 e322 e323 e324)
  have m320 : 0 ≤ b' % 32 := by omega
  have m321 : b' % 32 < 4294967296 := by omega
  generalize hk32 : b' % 32 = k32 at *
  have q64 : 0 ≤ a ∧ a < 18446744073709551616 ∧ 0 ≤ b ∧ b < 18446744073709551616 := by omega
  obtain ⟨e641, e642, e643, e644⟩ := q64
  have n641 := ne_false (shift1_64 a b e641 e642 e643 e644)
  have n642 := ne_false (shift2_64 a b e641 e642 e643 e644)
  have n643 := ne_false (shift3_64 a b e641 e642 e643 e644)
  have m640 : 0 ≤ b % 64 := by omega
  have m641 : b % 64 < 18446744073709551616 := by omega
  generalize hk64 : b % 64 = k64 at *
  rcases shiftS_32 a' b' with ⟨s1, s2, s3⟩ | ⟨s1, s2, s3⟩ <;> rcases shiftS_64 a b with ⟨t1, t2, t3⟩ | ⟨t1, t2, t3⟩
  all_goals
    go_wp2
    refine wp_loop_rounds 3 ?_
    rw [rounds_succ]
    go_wp2_with (go_at_call 13; (first | (with_reducible refine (tq32_116 _ _ ?_ ?_ ?_ ?_ _).mono ?_) | (with_reducible refine (tq32_108 _ _ ?_ ?_ ?_ ?_ _).mono ?_) | (with_reducible refine (tq32_118 _ _ ?_ ?_ ?_ ?_ _).mono ?_) | (with_reducible refine (tq32_110 _ _ ?_ ?_ ?_ ?_ _).mono ?_) | (with_reducible refine (tq32_112 _ _ ?_ ?_ ?_ ?_ _).mono ?_) | (with_reducible refine (tq32_106 _ _ ?_ ?_ ?_ ?_ _).mono ?_) | (with_reducible refine (tq32_107 _ _ ?_ ?_ ?_ ?_ _).mono ?_) | (with_reducible refine (tq32_72 _ _ ?_ ?_ ?_ ?_ _).mono ?_) | (with_reducible refine (tq32_117 _ _ ?_ ?_ ?_ ?_ _).mono ?_) | (with_reducible refine (tq32_115 _ _ ?_ ?_ ?_ ?_ _).mono ?_)); (any_goals (first | (with_reducible assumption) | (with_reducible exact (sum32_bd _ _ _).1) | (with_reducible exact (sum32_bd _ _ _).2) | omega)); rintro e w' ⟨rfl, hb⟩; replace hB := below_step (w := w) (by repeat (first | (with_reducible exact hB) | (with_reducible refine Below.drew ?_) | (with_reducible refine below_drewN ?_ _) | (with_reducible refine Below.alloc ?_ (by have h9 := hB.size; first | omega | (simp; done) | (simp at h9 ⊢; omega) | (simp; omega)) _))) hb; clear hb)
    rw [rounds_succ]
    go_wp2_with (go_at_call 13; (first | (with_reducible refine (tq64_116 _ _ ?_ ?_ ?_ ?_ _).mono ?_) | (with_reducible refine (tq64_108 _ _ ?_ ?_ ?_ ?_ _).mono ?_) | (with_reducible refine (tq64_118 _ _ ?_ ?_ ?_ ?_ _).mono ?_) | (with_reducible refine (tq64_110 _ _ ?_ ?_ ?_ ?_ _).mono ?_) | (with_reducible refine (tq64_112 _ _ ?_ ?_ ?_ ?_ _).mono ?_) | (with_reducible refine (tq64_106 _ _ ?_ ?_ ?_ ?_ _).mono ?_) | (with_reducible refine (tq64_107 _ _ ?_ ?_ ?_ ?_ _).mono ?_) | (with_reducible refine (tq64_72 _ _ ?_ ?_ ?_ ?_ _).mono ?_) | (with_reducible refine (tq64_117 _ _ ?_ ?_ ?_ ?_ _).mono ?_) | (with_reducible refine (tq64_115 _ _ ?_ ?_ ?_ ?_ _).mono ?_)); (any_goals (first | (with_reducible assumption) | (with_reducible exact (sum64_bd _ _ _).1) | (with_reducible exact (sum64_bd _ _ _).2) | omega)); rintro e w' ⟨rfl, hb⟩; replace hB := below_step (w := w) (by repeat (first | (with_reducible exact hB) | (with_reducible refine Below.drew ?_) | (with_reducible refine below_drewN ?_ _) | (with_reducible refine Below.alloc ?_ (by have h9 := hB.size; first | omega | (simp; done) | (simp at h9 ⊢; omega) | (simp; omega)) _))) hb; clear hb)
    rw [rounds_succ]
    go_wp2_with (go_at_call 12; (with_reducible refine (known _).mono ?_); rintro e w' ⟨rfl, hb⟩; replace hB := below_step (w := w) (by repeat (first | (with_reducible exact hB) | (with_reducible refine Below.drew ?_) | (with_reducible refine below_drewN ?_ _) | (with_reducible refine Below.alloc ?_ (by have h9 := hB.size; first | omega | (simp; done) | (simp at h9 ⊢; omega) | (simp; omega)) _))) hb; clear hb)
    go_ret
    exact ⟨rfl, hB⟩
end Go.Proofs.YtfcagbgnlibfpaaDoor.A
