/- num: the walk of the law NumRing: it returns true, whatever numbers it is given; no memory that was there turns. -/
import Derived.Test.YtfcagbgnlibfpaaDoorJ
namespace Go.Proofs.YtfcagbgnlibfpaaDoor.A
open Go.ChangeShapes Go.WideShapes Go.ChangeAt Go.RowKit Go.Proofs.YtfcagbgnlibfpaaDoor.S
set_option linter.unusedVariables false
set_option linter.unusedSimpArgs false

theorem ne_false {a b : Int} (h : a = b) : (a != b) = false := by simp [h]
theorem ne_true {a b : Int} (h : a ≠ b) : (a != b) = true := by simp [h]
theorem beq_false {a b : Int} (h : a ≠ b) : (a == b) = false := by simp [h]
set_option maxHeartbeats 16000000 in
set_option maxRecDepth 100000 in
theorem numRing (a b c : Int) (ha0 : 0 ≤ a) (ha1 : a < 18446744073709551616) (hb0 : 0 ≤ b) (hb1 : b < 18446744073709551616) (hc0 : 0 ≤ c) (hc1 : c < 18446744073709551616) (w : World) :
    Calls Tryd.prog 4 #[.int .u64 a, .int .u64 b, .int .u64 c] w fun e w' => e = .returned (.bool true) ∧ Below w.heap.size w w' := by
  go_enter Tryd.func4, Tryd.ntmps4
  go_wp2
  go_loopw [0, 1, 2, 7] (fun va vb vc vw wr => ∃ (W a b c : Int), (W = 32 ∨ W = 64 ∨ W = 96) ∧ va = .int .u64 a ∧ vb = .int .u64 b ∧ vc = .int .u64 c ∧ vw = .int .i64 W ∧ (0 ≤ a ∧ a < 18446744073709551616) ∧ (0 ≤ b ∧ b < 18446744073709551616) ∧ (0 ≤ c ∧ c < 18446744073709551616) ∧ Below w.heap.size w wr) (fun _ _ _ vw _ => (96 - intOf vw).toNat)
  case atStart => exact ⟨32, a, b, c, .inl rfl, rfl, rfl, rfl, rfl, ⟨ha0, ha1⟩, ⟨hb0, hb1⟩, ⟨hc0, hc1⟩, Below.refl _ _⟩
  case round =>
    clear ha0 ha1 hb0 hb1 hc0 hc1 a b c
    obtain ⟨W, a, b, c, hW, rfl, rfl, rfl, rfl, ⟨a0, a1⟩, ⟨b0, b1⟩, ⟨c0, c1⟩, hB⟩ := hrel
    rcases hW with rfl | rfl | rfl
    · have e1 : 0 ≤ a / 4294967296 ∧ a / 4294967296 < 4294967296 := by omega
      have e2 : 0 ≤ b / 4294967296 ∧ b / 4294967296 < 4294967296 := by omega
      have e3 : 0 ≤ c / 4294967296 ∧ c / 4294967296 < 4294967296 := by omega
      have n1 := ne_false (ring1 (W := 32) (a / 4294967296) (b / 4294967296) e1.1 e1.2)
      have n2 := ne_false (ring2 (W := 32) (a / 4294967296) (b / 4294967296))
      have n3 := ne_false (ring3 (W := 32) (a / 4294967296) (b / 4294967296))
      have n4 := ne_false (ring4 (W := 32) (a / 4294967296) (b / 4294967296) (c / 4294967296))
      have n5 := ne_false (ring5 (W := 32) (a / 4294967296) (b / 4294967296) (c / 4294967296))
      obtain ⟨e11, e12⟩ := e1
      obtain ⟨e21, e22⟩ := e2
      obtain ⟨e31, e32⟩ := e3
      generalize hA : a / 4294967296 = a' at *
      generalize hBB : b / 4294967296 = b' at *
      generalize hC : c / 4294967296 = c' at *
      go_wp2_with (go_at_call 13; (first | (with_reducible refine (tq32_106 _ _ ?_ ?_ ?_ ?_ _).mono ?_) | (with_reducible refine (tq32_107 _ _ ?_ ?_ ?_ ?_ _).mono ?_) | (with_reducible refine (tq32_108 _ _ ?_ ?_ ?_ ?_ _).mono ?_)); (any_goals (first | (with_reducible assumption) | (with_reducible exact (sum32_bd _ _ _).1) | (with_reducible exact (sum32_bd _ _ _).2) | omega)); rintro e w' ⟨rfl, hb⟩; replace hB := below_step (w := w) (by repeat (first | (with_reducible exact hB) | (with_reducible refine Below.drew ?_) | (with_reducible refine below_drewN ?_ _) | (with_reducible refine Below.alloc ?_ (by have h9 := hB.size; first | omega | (simp; done) | (simp at h9 ⊢; omega) | (simp; omega)) _))) hb; clear hb)
      rcases Decidable.em (b' = 0) with z | z
      · replace z := ne_false z
        refine wp_loop_rounds 1 ?_
        rw [rounds_succ]
        go_wp2_with (go_at_call 13; (first | (with_reducible refine (tq32_106 _ _ ?_ ?_ ?_ ?_ _).mono ?_) | (with_reducible refine (tq32_107 _ _ ?_ ?_ ?_ ?_ _).mono ?_) | (with_reducible refine (tq32_108 _ _ ?_ ?_ ?_ ?_ _).mono ?_)); (any_goals (first | (with_reducible assumption) | (with_reducible exact (sum32_bd _ _ _).1) | (with_reducible exact (sum32_bd _ _ _).2) | omega)); rintro e w' ⟨rfl, hb⟩; replace hB := below_step (w := w) (by repeat (first | (with_reducible exact hB) | (with_reducible refine Below.drew ?_) | (with_reducible refine below_drewN ?_ _) | (with_reducible refine Below.alloc ?_ (by have h9 := hB.size; first | omega | (simp; done) | (simp at h9 ⊢; omega) | (simp; omega)) _))) hb; clear hb)
        exact ⟨⟨64, _, _, _, .inr (.inl rfl), rfl, rfl, rfl, rfl, or_bd _ _, or_bd _ _, or_bd _ _, hB⟩, by decide⟩
      · have n8 := ne_false (quo_u32 a' b' e11 e12 (by omega) e22)
        rcases Decidable.em (b' = 4294967295) with y | y
        · have n6 : (sumI 32 1 0 b' == 1) = true := by rw [neg_one32 b' e21 e22, if_neg z, y]; rfl
          replace z := ne_true z
          clear y
          refine wp_loop_rounds 3 ?_
          rw [rounds_succ]
          go_wp2_with (go_at_call 13; (first | (with_reducible refine (tq32_106 _ _ ?_ ?_ ?_ ?_ _).mono ?_) | (with_reducible refine (tq32_107 _ _ ?_ ?_ ?_ ?_ _).mono ?_) | (with_reducible refine (tq32_108 _ _ ?_ ?_ ?_ ?_ _).mono ?_) | (with_reducible refine (tq32_109 _ _ ?_ ?_ ?_ ?_ _).mono ?_) | (with_reducible refine (tq32_110 _ _ ?_ ?_ ?_ ?_ _).mono ?_) | (with_reducible refine (tq32_111 _ _ ?_ ?_ ?_ ?_ _).mono ?_) | (with_reducible refine (tq32_112 _ _ ?_ ?_ ?_ ?_ _).mono ?_)); (any_goals (first | (with_reducible assumption) | (with_reducible exact (sum32_bd _ _ _).1) | (with_reducible exact (sum32_bd _ _ _).2) | omega)); rintro e w' ⟨rfl, hb⟩; replace hB := below_step (w := w) (by repeat (first | (with_reducible exact hB) | (with_reducible refine Below.drew ?_) | (with_reducible refine below_drewN ?_ _) | (with_reducible refine Below.alloc ?_ (by have h9 := hB.size; first | omega | (simp; done) | (simp at h9 ⊢; omega) | (simp; omega)) _))) hb; clear hb)
          rw [rounds_succ]
          go_wp2_with (go_at_call 13; (first | (with_reducible refine (tq32_106 _ _ ?_ ?_ ?_ ?_ _).mono ?_) | (with_reducible refine (tq32_107 _ _ ?_ ?_ ?_ ?_ _).mono ?_) | (with_reducible refine (tq32_108 _ _ ?_ ?_ ?_ ?_ _).mono ?_) | (with_reducible refine (tq32_109 _ _ ?_ ?_ ?_ ?_ _).mono ?_) | (with_reducible refine (tq32_110 _ _ ?_ ?_ ?_ ?_ _).mono ?_) | (with_reducible refine (tq32_111 _ _ ?_ ?_ ?_ ?_ _).mono ?_) | (with_reducible refine (tq32_112 _ _ ?_ ?_ ?_ ?_ _).mono ?_)); (any_goals (first | (with_reducible assumption) | (with_reducible exact (sum32_bd _ _ _).1) | (with_reducible exact (sum32_bd _ _ _).2) | omega)); rintro e w' ⟨rfl, hb⟩; replace hB := below_step (w := w) (by repeat (first | (with_reducible exact hB) | (with_reducible refine Below.drew ?_) | (with_reducible refine below_drewN ?_ _) | (with_reducible refine Below.alloc ?_ (by have h9 := hB.size; first | omega | (simp; done) | (simp at h9 ⊢; omega) | (simp; omega)) _))) hb; clear hb)
          rw [rounds_succ]
          go_wp2_with (go_at_call 13; (first | (with_reducible refine (tq32_106 _ _ ?_ ?_ ?_ ?_ _).mono ?_) | (with_reducible refine (tq32_107 _ _ ?_ ?_ ?_ ?_ _).mono ?_) | (with_reducible refine (tq32_108 _ _ ?_ ?_ ?_ ?_ _).mono ?_) | (with_reducible refine (tq32_109 _ _ ?_ ?_ ?_ ?_ _).mono ?_) | (with_reducible refine (tq32_110 _ _ ?_ ?_ ?_ ?_ _).mono ?_) | (with_reducible refine (tq32_111 _ _ ?_ ?_ ?_ ?_ _).mono ?_) | (with_reducible refine (tq32_112 _ _ ?_ ?_ ?_ ?_ _).mono ?_)); (any_goals (first | (with_reducible assumption) | (with_reducible exact (sum32_bd _ _ _).1) | (with_reducible exact (sum32_bd _ _ _).2) | omega)); rintro e w' ⟨rfl, hb⟩; replace hB := below_step (w := w) (by repeat (first | (with_reducible exact hB) | (with_reducible refine Below.drew ?_) | (with_reducible refine below_drewN ?_ _) | (with_reducible refine Below.alloc ?_ (by have h9 := hB.size; first | omega | (simp; done) | (simp at h9 ⊢; omega) | (simp; omega)) _))) hb; clear hb)
          exact ⟨⟨64, _, _, _, .inr (.inl rfl), rfl, rfl, rfl, rfl, or_bd _ _, or_bd _ _, or_bd _ _, hB⟩, by decide⟩
        · have n6 : (sumI 32 1 0 b' == 1) = false := by
            rw [neg_one32 b' e21 e22, if_neg z]; exact beq_false (by omega)
          have n7 := ne_false (quo_s32 a' b' e11 e12 (by omega) (by omega))
          replace z := ne_true z
          clear y
          refine wp_loop_rounds 3 ?_
          rw [rounds_succ]
          go_wp2_with (go_at_call 13; (first | (with_reducible refine (tq32_106 _ _ ?_ ?_ ?_ ?_ _).mono ?_) | (with_reducible refine (tq32_107 _ _ ?_ ?_ ?_ ?_ _).mono ?_) | (with_reducible refine (tq32_108 _ _ ?_ ?_ ?_ ?_ _).mono ?_) | (with_reducible refine (tq32_109 _ _ ?_ ?_ ?_ ?_ _).mono ?_) | (with_reducible refine (tq32_110 _ _ ?_ ?_ ?_ ?_ _).mono ?_) | (with_reducible refine (tq32_111 _ _ ?_ ?_ ?_ ?_ _).mono ?_) | (with_reducible refine (tq32_112 _ _ ?_ ?_ ?_ ?_ _).mono ?_)); (any_goals (first | (with_reducible assumption) | (with_reducible exact (sum32_bd _ _ _).1) | (with_reducible exact (sum32_bd _ _ _).2) | omega)); rintro e w' ⟨rfl, hb⟩; replace hB := below_step (w := w) (by repeat (first | (with_reducible exact hB) | (with_reducible refine Below.drew ?_) | (with_reducible refine below_drewN ?_ _) | (with_reducible refine Below.alloc ?_ (by have h9 := hB.size; first | omega | (simp; done) | (simp at h9 ⊢; omega) | (simp; omega)) _))) hb; clear hb)
          rw [rounds_succ]
          go_wp2_with (go_at_call 13; (first | (with_reducible refine (tq32_106 _ _ ?_ ?_ ?_ ?_ _).mono ?_) | (with_reducible refine (tq32_107 _ _ ?_ ?_ ?_ ?_ _).mono ?_) | (with_reducible refine (tq32_108 _ _ ?_ ?_ ?_ ?_ _).mono ?_) | (with_reducible refine (tq32_109 _ _ ?_ ?_ ?_ ?_ _).mono ?_) | (with_reducible refine (tq32_110 _ _ ?_ ?_ ?_ ?_ _).mono ?_) | (with_reducible refine (tq32_111 _ _ ?_ ?_ ?_ ?_ _).mono ?_) | (with_reducible refine (tq32_112 _ _ ?_ ?_ ?_ ?_ _).mono ?_)); (any_goals (first | (with_reducible assumption) | (with_reducible exact (sum32_bd _ _ _).1) | (with_reducible exact (sum32_bd _ _ _).2) | omega)); rintro e w' ⟨rfl, hb⟩; replace hB := below_step (w := w) (by repeat (first | (with_reducible exact hB) | (with_reducible refine Below.drew ?_) | (with_reducible refine below_drewN ?_ _) | (with_reducible refine Below.alloc ?_ (by have h9 := hB.size; first | omega | (simp; done) | (simp at h9 ⊢; omega) | (simp; omega)) _))) hb; clear hb)
          rw [rounds_succ]
          go_wp2_with (go_at_call 13; (first | (with_reducible refine (tq32_106 _ _ ?_ ?_ ?_ ?_ _).mono ?_) | (with_reducible refine (tq32_107 _ _ ?_ ?_ ?_ ?_ _).mono ?_) | (with_reducible refine (tq32_108 _ _ ?_ ?_ ?_ ?_ _).mono ?_) | (with_reducible refine (tq32_109 _ _ ?_ ?_ ?_ ?_ _).mono ?_) | (with_reducible refine (tq32_110 _ _ ?_ ?_ ?_ ?_ _).mono ?_) | (with_reducible refine (tq32_111 _ _ ?_ ?_ ?_ ?_ _).mono ?_) | (with_reducible refine (tq32_112 _ _ ?_ ?_ ?_ ?_ _).mono ?_)); (any_goals (first | (with_reducible assumption) | (with_reducible exact (sum32_bd _ _ _).1) | (with_reducible exact (sum32_bd _ _ _).2) | omega)); rintro e w' ⟨rfl, hb⟩; replace hB := below_step (w := w) (by repeat (first | (with_reducible exact hB) | (with_reducible refine Below.drew ?_) | (with_reducible refine below_drewN ?_ _) | (with_reducible refine Below.alloc ?_ (by have h9 := hB.size; first | omega | (simp; done) | (simp at h9 ⊢; omega) | (simp; omega)) _))) hb; clear hb)
          exact ⟨⟨64, _, _, _, .inr (.inl rfl), rfl, rfl, rfl, rfl, or_bd _ _, or_bd _ _, or_bd _ _, hB⟩, by decide⟩
    · have e1 : 0 ≤ a ∧ a < 18446744073709551616 := by omega
      have e2 : 0 ≤ b ∧ b < 18446744073709551616 := by omega
      have e3 : 0 ≤ c ∧ c < 18446744073709551616 := by omega
      have n1 := ne_false (ring1 (W := 64) (a) (b) e1.1 e1.2)
      have n2 := ne_false (ring2 (W := 64) (a) (b))
      have n3 := ne_false (ring3 (W := 64) (a) (b))
      have n4 := ne_false (ring4 (W := 64) (a) (b) (c))
      have n5 := ne_false (ring5 (W := 64) (a) (b) (c))
      obtain ⟨e11, e12⟩ := e1
      obtain ⟨e21, e22⟩ := e2
      obtain ⟨e31, e32⟩ := e3
      generalize hA : a = a' at *
      generalize hBB : b = b' at *
      generalize hC : c = c' at *
      go_wp2_with (go_at_call 13; (first | (with_reducible refine (tq64_106 _ _ ?_ ?_ ?_ ?_ _).mono ?_) | (with_reducible refine (tq64_107 _ _ ?_ ?_ ?_ ?_ _).mono ?_) | (with_reducible refine (tq64_108 _ _ ?_ ?_ ?_ ?_ _).mono ?_)); (any_goals (first | (with_reducible assumption) | (with_reducible exact (sum64_bd _ _ _).1) | (with_reducible exact (sum64_bd _ _ _).2) | omega)); rintro e w' ⟨rfl, hb⟩; replace hB := below_step (w := w) (by repeat (first | (with_reducible exact hB) | (with_reducible refine Below.drew ?_) | (with_reducible refine below_drewN ?_ _) | (with_reducible refine Below.alloc ?_ (by have h9 := hB.size; first | omega | (simp; done) | (simp at h9 ⊢; omega) | (simp; omega)) _))) hb; clear hb)
      rcases Decidable.em (b' = 0) with z | z
      · replace z := ne_false z
        refine wp_loop_rounds 1 ?_
        rw [rounds_succ]
        go_wp2_with (go_at_call 13; (first | (with_reducible refine (tq64_106 _ _ ?_ ?_ ?_ ?_ _).mono ?_) | (with_reducible refine (tq64_107 _ _ ?_ ?_ ?_ ?_ _).mono ?_) | (with_reducible refine (tq64_108 _ _ ?_ ?_ ?_ ?_ _).mono ?_)); (any_goals (first | (with_reducible assumption) | (with_reducible exact (sum64_bd _ _ _).1) | (with_reducible exact (sum64_bd _ _ _).2) | omega)); rintro e w' ⟨rfl, hb⟩; replace hB := below_step (w := w) (by repeat (first | (with_reducible exact hB) | (with_reducible refine Below.drew ?_) | (with_reducible refine below_drewN ?_ _) | (with_reducible refine Below.alloc ?_ (by have h9 := hB.size; first | omega | (simp; done) | (simp at h9 ⊢; omega) | (simp; omega)) _))) hb; clear hb)
        exact ⟨⟨96, _, _, _, .inr (.inr rfl), rfl, rfl, rfl, rfl, or_bd _ _, or_bd _ _, or_bd _ _, hB⟩, by decide⟩
      · have n8 := ne_false (quo_u64 a' b' e11 e12 (by omega) e22)
        rcases Decidable.em (b' = 18446744073709551615) with y | y
        · have n6 : (sumI 64 1 0 b' == 1) = true := by rw [neg_one64 b' e21 e22, if_neg z, y]; rfl
          replace z := ne_true z
          clear y
          refine wp_loop_rounds 3 ?_
          rw [rounds_succ]
          go_wp2_with (go_at_call 13; (first | (with_reducible refine (tq64_106 _ _ ?_ ?_ ?_ ?_ _).mono ?_) | (with_reducible refine (tq64_107 _ _ ?_ ?_ ?_ ?_ _).mono ?_) | (with_reducible refine (tq64_108 _ _ ?_ ?_ ?_ ?_ _).mono ?_) | (with_reducible refine (tq64_109 _ _ ?_ ?_ ?_ ?_ _).mono ?_) | (with_reducible refine (tq64_110 _ _ ?_ ?_ ?_ ?_ _).mono ?_) | (with_reducible refine (tq64_111 _ _ ?_ ?_ ?_ ?_ _).mono ?_) | (with_reducible refine (tq64_112 _ _ ?_ ?_ ?_ ?_ _).mono ?_)); (any_goals (first | (with_reducible assumption) | (with_reducible exact (sum64_bd _ _ _).1) | (with_reducible exact (sum64_bd _ _ _).2) | omega)); rintro e w' ⟨rfl, hb⟩; replace hB := below_step (w := w) (by repeat (first | (with_reducible exact hB) | (with_reducible refine Below.drew ?_) | (with_reducible refine below_drewN ?_ _) | (with_reducible refine Below.alloc ?_ (by have h9 := hB.size; first | omega | (simp; done) | (simp at h9 ⊢; omega) | (simp; omega)) _))) hb; clear hb)
          rw [rounds_succ]
          go_wp2_with (go_at_call 13; (first | (with_reducible refine (tq64_106 _ _ ?_ ?_ ?_ ?_ _).mono ?_) | (with_reducible refine (tq64_107 _ _ ?_ ?_ ?_ ?_ _).mono ?_) | (with_reducible refine (tq64_108 _ _ ?_ ?_ ?_ ?_ _).mono ?_) | (with_reducible refine (tq64_109 _ _ ?_ ?_ ?_ ?_ _).mono ?_) | (with_reducible refine (tq64_110 _ _ ?_ ?_ ?_ ?_ _).mono ?_) | (with_reducible refine (tq64_111 _ _ ?_ ?_ ?_ ?_ _).mono ?_) | (with_reducible refine (tq64_112 _ _ ?_ ?_ ?_ ?_ _).mono ?_)); (any_goals (first | (with_reducible assumption) | (with_reducible exact (sum64_bd _ _ _).1) | (with_reducible exact (sum64_bd _ _ _).2) | omega)); rintro e w' ⟨rfl, hb⟩; replace hB := below_step (w := w) (by repeat (first | (with_reducible exact hB) | (with_reducible refine Below.drew ?_) | (with_reducible refine below_drewN ?_ _) | (with_reducible refine Below.alloc ?_ (by have h9 := hB.size; first | omega | (simp; done) | (simp at h9 ⊢; omega) | (simp; omega)) _))) hb; clear hb)
          rw [rounds_succ]
          go_wp2_with (go_at_call 13; (first | (with_reducible refine (tq64_106 _ _ ?_ ?_ ?_ ?_ _).mono ?_) | (with_reducible refine (tq64_107 _ _ ?_ ?_ ?_ ?_ _).mono ?_) | (with_reducible refine (tq64_108 _ _ ?_ ?_ ?_ ?_ _).mono ?_) | (with_reducible refine (tq64_109 _ _ ?_ ?_ ?_ ?_ _).mono ?_) | (with_reducible refine (tq64_110 _ _ ?_ ?_ ?_ ?_ _).mono ?_) | (with_reducible refine (tq64_111 _ _ ?_ ?_ ?_ ?_ _).mono ?_) | (with_reducible refine (tq64_112 _ _ ?_ ?_ ?_ ?_ _).mono ?_)); (any_goals (first | (with_reducible assumption) | (with_reducible exact (sum64_bd _ _ _).1) | (with_reducible exact (sum64_bd _ _ _).2) | omega)); rintro e w' ⟨rfl, hb⟩; replace hB := below_step (w := w) (by repeat (first | (with_reducible exact hB) | (with_reducible refine Below.drew ?_) | (with_reducible refine below_drewN ?_ _) | (with_reducible refine Below.alloc ?_ (by have h9 := hB.size; first | omega | (simp; done) | (simp at h9 ⊢; omega) | (simp; omega)) _))) hb; clear hb)
          exact ⟨⟨96, _, _, _, .inr (.inr rfl), rfl, rfl, rfl, rfl, or_bd _ _, or_bd _ _, or_bd _ _, hB⟩, by decide⟩
        · have n6 : (sumI 64 1 0 b' == 1) = false := by
            rw [neg_one64 b' e21 e22, if_neg z]; exact beq_false (by omega)
          have n7 := ne_false (quo_s64 a' b' e11 e12 (by omega) (by omega))
          replace z := ne_true z
          clear y
          refine wp_loop_rounds 3 ?_
          rw [rounds_succ]
          go_wp2_with (go_at_call 13; (first | (with_reducible refine (tq64_106 _ _ ?_ ?_ ?_ ?_ _).mono ?_) | (with_reducible refine (tq64_107 _ _ ?_ ?_ ?_ ?_ _).mono ?_) | (with_reducible refine (tq64_108 _ _ ?_ ?_ ?_ ?_ _).mono ?_) | (with_reducible refine (tq64_109 _ _ ?_ ?_ ?_ ?_ _).mono ?_) | (with_reducible refine (tq64_110 _ _ ?_ ?_ ?_ ?_ _).mono ?_) | (with_reducible refine (tq64_111 _ _ ?_ ?_ ?_ ?_ _).mono ?_) | (with_reducible refine (tq64_112 _ _ ?_ ?_ ?_ ?_ _).mono ?_)); (any_goals (first | (with_reducible assumption) | (with_reducible exact (sum64_bd _ _ _).1) | (with_reducible exact (sum64_bd _ _ _).2) | omega)); rintro e w' ⟨rfl, hb⟩; replace hB := below_step (w := w) (by repeat (first | (with_reducible exact hB) | (with_reducible refine Below.drew ?_) | (with_reducible refine below_drewN ?_ _) | (with_reducible refine Below.alloc ?_ (by have h9 := hB.size; first | omega | (simp; done) | (simp at h9 ⊢; omega) | (simp; omega)) _))) hb; clear hb)
          rw [rounds_succ]
          go_wp2_with (go_at_call 13; (first | (with_reducible refine (tq64_106 _ _ ?_ ?_ ?_ ?_ _).mono ?_) | (with_reducible refine (tq64_107 _ _ ?_ ?_ ?_ ?_ _).mono ?_) | (with_reducible refine (tq64_108 _ _ ?_ ?_ ?_ ?_ _).mono ?_) | (with_reducible refine (tq64_109 _ _ ?_ ?_ ?_ ?_ _).mono ?_) | (with_reducible refine (tq64_110 _ _ ?_ ?_ ?_ ?_ _).mono ?_) | (with_reducible refine (tq64_111 _ _ ?_ ?_ ?_ ?_ _).mono ?_) | (with_reducible refine (tq64_112 _ _ ?_ ?_ ?_ ?_ _).mono ?_)); (any_goals (first | (with_reducible assumption) | (with_reducible exact (sum64_bd _ _ _).1) | (with_reducible exact (sum64_bd _ _ _).2) | omega)); rintro e w' ⟨rfl, hb⟩; replace hB := below_step (w := w) (by repeat (first | (with_reducible exact hB) | (with_reducible refine Below.drew ?_) | (with_reducible refine below_drewN ?_ _) | (with_reducible refine Below.alloc ?_ (by have h9 := hB.size; first | omega | (simp; done) | (simp at h9 ⊢; omega) | (simp; omega)) _))) hb; clear hb)
          rw [rounds_succ]
          go_wp2_with (go_at_call 13; (first | (with_reducible refine (tq64_106 _ _ ?_ ?_ ?_ ?_ _).mono ?_) | (with_reducible refine (tq64_107 _ _ ?_ ?_ ?_ ?_ _).mono ?_) | (with_reducible refine (tq64_108 _ _ ?_ ?_ ?_ ?_ _).mono ?_) | (with_reducible refine (tq64_109 _ _ ?_ ?_ ?_ ?_ _).mono ?_) | (with_reducible refine (tq64_110 _ _ ?_ ?_ ?_ ?_ _).mono ?_) | (with_reducible refine (tq64_111 _ _ ?_ ?_ ?_ ?_ _).mono ?_) | (with_reducible refine (tq64_112 _ _ ?_ ?_ ?_ ?_ _).mono ?_)); (any_goals (first | (with_reducible assumption) | (with_reducible exact (sum64_bd _ _ _).1) | (with_reducible exact (sum64_bd _ _ _).2) | omega)); rintro e w' ⟨rfl, hb⟩; replace hB := below_step (w := w) (by repeat (first | (with_reducible exact hB) | (with_reducible refine Below.drew ?_) | (with_reducible refine below_drewN ?_ _) | (with_reducible refine Below.alloc ?_ (by have h9 := hB.size; first | omega | (simp; done) | (simp at h9 ⊢; omega) | (simp; omega)) _))) hb; clear hb)
          exact ⟨⟨96, _, _, _, .inr (.inr rfl), rfl, rfl, rfl, rfl, or_bd _ _, or_bd _ _, or_bd _ _, hB⟩, by decide⟩
    · go_wp2_with (go_at_call 12; (with_reducible refine (known _).mono ?_); rintro e w' ⟨rfl, hb⟩; replace hB := below_step (w := w) (by repeat (first | (with_reducible exact hB) | (with_reducible refine Below.drew ?_) | (with_reducible refine below_drewN ?_ _) | (with_reducible refine Below.alloc ?_ (by have h9 := hB.size; first | omega | (simp; done) | (simp at h9 ⊢; omega) | (simp; omega)) _))) hb; clear hb)
      go_ret
      exact ⟨rfl, hB⟩
end Go.Proofs.YtfcagbgnlibfpaaDoor.A
