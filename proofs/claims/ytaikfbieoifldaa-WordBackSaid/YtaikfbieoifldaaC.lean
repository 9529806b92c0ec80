/- The law's own helper 'known' returns true; the walks of the laws of package word: each returns true; no memory that was there turns. -/
import Derived.Test.YtaikfbieoifldaaB
namespace Go.Proofs.Ytaikfbieoifldaa.A
open Go.ChangeShapes Go.WideShapes Go.ChangeAt Go.RowKit
set_option linter.unusedVariables false
set_option linter.unusedSimpArgs false

set_option maxHeartbeats 4000000 in
theorem known (w : World) :
    Calls Try.prog 14 #[] w fun e w' => e = .returned (.bool true) ∧ Below w.heap.size w w' := by
  have R1 := Ref 1 5 (by decide)
  rw [show refV 1 5 = 41 by decide, show refE 1 5 = 0 by decide] at R1
  have R2 := Ref 2 0 (by decide)
  rw [show refV 2 0 = 0 by decide, show refE 2 0 = 2 by decide] at R2
  have R3 := Ref 0 1 (by decide)
  rw [show refV 0 1 = 0 by decide, show refE 0 1 = 2 by decide] at R3
  have R4 := Of 41 (by decide) (by decide)
  rw [show ofK 41 = 1 by decide, show ofN 41 = 5 by decide, show ofE 41 = 0 by decide] at R4
  have R5 := I31 4294967295 (by decide)
  rw [show i31 4294967295 = 17179869177 by decide] at R5
  have R6 := Open 3 0 (by decide) (by decide)
  rw [show opK 3 0 = 3 by decide, show opR 3 0 = 0 by decide, show opN 3 0 = 0 by decide, show opE 3 0 = 0 by decide] at R6
  have R7 := Number 17179869177 true (by decide) (by decide)
  rw [show num 17179869177 true = 4294967295 by decide] at R7
  replace R1 := Lib.hid R1
  replace R2 := Lib.hid R2
  replace R3 := Lib.hid R3
  replace R4 := Lib.hid R4
  replace R5 := Lib.hid R5
  replace R6 := Lib.hid R6
  replace R7 := Lib.hid R7
  have hB := Below.refl w.heap.size w
  go_enter Try.func14, Try.ntmps14
  go_wp2_with (first | (go_at_call 7; (with_reducible refine (R1.out _).mono ?_); rintro e w' ⟨rfl, hb⟩; replace hB := below_step (w := w) (by repeat (first | exact hB | refine Below.drew ?_ | refine below_drewN ?_ _ | refine Below.setCell ?_ (by have h9 := hB.size; first | omega | (simp; done) | (simp at h9 ⊢; omega) | (simp; omega)) _ | refine Below.alloc ?_ (by have h9 := hB.size; first | omega | (simp; done) | (simp at h9 ⊢; omega) | (simp; omega)) _)) hb; clear hb) | (go_at_call 7; (with_reducible refine (R2.out _).mono ?_); rintro e w' ⟨rfl, hb⟩; replace hB := below_step (w := w) (by repeat (first | exact hB | refine Below.drew ?_ | refine below_drewN ?_ _ | refine Below.setCell ?_ (by have h9 := hB.size; first | omega | (simp; done) | (simp at h9 ⊢; omega) | (simp; omega)) _ | refine Below.alloc ?_ (by have h9 := hB.size; first | omega | (simp; done) | (simp at h9 ⊢; omega) | (simp; omega)) _)) hb; clear hb) | (go_at_call 7; (with_reducible refine (R3.out _).mono ?_); rintro e w' ⟨rfl, hb⟩; replace hB := below_step (w := w) (by repeat (first | exact hB | refine Below.drew ?_ | refine below_drewN ?_ _ | refine Below.setCell ?_ (by have h9 := hB.size; first | omega | (simp; done) | (simp at h9 ⊢; omega) | (simp; omega)) _ | refine Below.alloc ?_ (by have h9 := hB.size; first | omega | (simp; done) | (simp at h9 ⊢; omega) | (simp; omega)) _)) hb; clear hb) | (go_at_call 9; (with_reducible refine (R4.out _).mono ?_); rintro e w' ⟨rfl, hb⟩; replace hB := below_step (w := w) (by repeat (first | exact hB | refine Below.drew ?_ | refine below_drewN ?_ _ | refine Below.setCell ?_ (by have h9 := hB.size; first | omega | (simp; done) | (simp at h9 ⊢; omega) | (simp; omega)) _ | refine Below.alloc ?_ (by have h9 := hB.size; first | omega | (simp; done) | (simp at h9 ⊢; omega) | (simp; omega)) _)) hb; clear hb) | (go_at_call 11; (with_reducible refine (R5.out _).mono ?_); rintro e w' ⟨rfl, hb⟩; replace hB := below_step (w := w) (by repeat (first | exact hB | refine Below.drew ?_ | refine below_drewN ?_ _ | refine Below.setCell ?_ (by have h9 := hB.size; first | omega | (simp; done) | (simp at h9 ⊢; omega) | (simp; omega)) _ | refine Below.alloc ?_ (by have h9 := hB.size; first | omega | (simp; done) | (simp at h9 ⊢; omega) | (simp; omega)) _)) hb; clear hb) | (go_at_call 16; (with_reducible refine (R6.out _).mono ?_); rintro e w' ⟨rfl, hb⟩; replace hB := below_step (w := w) (by repeat (first | exact hB | refine Below.drew ?_ | refine below_drewN ?_ _ | refine Below.setCell ?_ (by have h9 := hB.size; first | omega | (simp; done) | (simp at h9 ⊢; omega) | (simp; omega)) _ | refine Below.alloc ?_ (by have h9 := hB.size; first | omega | (simp; done) | (simp at h9 ⊢; omega) | (simp; omega)) _)) hb; clear hb) | (go_at_call 12; (with_reducible refine (R7.out _).mono ?_); rintro e w1 ⟨rfl, hb⟩; obtain ⟨hc1, hf1⟩ := bcell hb; have hz1 : w'.heap.size < w1.heap.size := (by (have := hb.size; simp at this; omega)); replace hB := below_step (w := w) (by repeat (first | exact hB | refine Below.drew ?_ | refine below_drewN ?_ _ | refine Below.setCell ?_ (by have h9 := hB.size; first | omega | (simp; done) | (simp at h9 ⊢; omega) | (simp; omega)) _ | refine Below.alloc ?_ (by have h9 := hB.size; first | omega | (simp; done) | (simp at h9 ⊢; omega) | (simp; omega)) _)) hb; clear hb))
  go_ret
  exact ⟨rfl, hB⟩


/-! ### WordRefs -/
theorem i31_ref (n : Int) (h : 0 ≤ n) : refV 1 (n % 2147483648) = i31 n := by
  unfold refV i31
  rw [if_pos (there_iff.2 (by unfold loK hiK; simp; omega))]; omega

set_option maxHeartbeats 4000000 in
theorem wordRefs (k n v : Int) (s : Bool) (hn : 0 ≤ n) (hn2 : n < 18446744073709551616) (hv : 0 ≤ v) (hv2 : v < 18446744073709551616) (w : World) :
    Calls Try.prog 3 #[.int .i64 k, .int .u64 n, .int .u64 v, .bool s] w fun e w' => e = .returned (.bool true) ∧ Below w.heap.size w w' := by
  have R1 := Lib.hid (Ref k n hn)
  have R2 := Lib.hid (RRef k n hn)
  have R3 := Lib.hid (Of v hv hv2)
  have R4 := Lib.hid (ROf v hv hv2)
  have R5 := RRef 1 (n % 2147483648) (by omega)
  rw [i31_ref n hn] at R5
  replace R5 := Lib.hid R5
  have R6 := Lib.hid (I31 n hn)
  have R7 := Lib.hid (Number v s hv hv2)
  have R8 := Lib.hid (RNumber v s hv hv2)
  have R9 := Lib.hid known
  have hB := Below.refl w.heap.size w
  go_enter Try.func3, Try.ntmps3
  go_wp2_with (first | (go_at_call 7; (with_reducible refine (R1.out _).mono ?_); rintro e w' ⟨rfl, hb⟩; replace hB := below_step (w := w) (by repeat (first | exact hB | refine Below.drew ?_ | refine below_drewN ?_ _ | refine Below.setCell ?_ (by have h9 := hB.size; first | omega | (simp; done) | (simp at h9 ⊢; omega) | (simp; omega)) _ | refine Below.alloc ?_ (by have h9 := hB.size; first | omega | (simp; done) | (simp at h9 ⊢; omega) | (simp; omega)) _)) hb; clear hb) | (go_at_call 8; (with_reducible refine (R2.out _).mono ?_); rintro e w' ⟨rfl, rfl⟩) | (go_at_call 8; (with_reducible refine (R5.out _).mono ?_); rintro e w' ⟨rfl, rfl⟩) | (go_at_call 9; (with_reducible refine (R3.out _).mono ?_); rintro e w' ⟨rfl, hb⟩; replace hB := below_step (w := w) (by repeat (first | exact hB | refine Below.drew ?_ | refine below_drewN ?_ _ | refine Below.setCell ?_ (by have h9 := hB.size; first | omega | (simp; done) | (simp at h9 ⊢; omega) | (simp; omega)) _ | refine Below.alloc ?_ (by have h9 := hB.size; first | omega | (simp; done) | (simp at h9 ⊢; omega) | (simp; omega)) _)) hb; clear hb) | (go_at_call 10; (with_reducible refine (R4.out _).mono ?_); rintro e w' ⟨rfl, rfl⟩) | (go_at_call 11; (with_reducible refine (R6.out _).mono ?_); rintro e w' ⟨rfl, hb⟩; replace hB := below_step (w := w) (by repeat (first | exact hB | refine Below.drew ?_ | refine below_drewN ?_ _ | refine Below.setCell ?_ (by have h9 := hB.size; first | omega | (simp; done) | (simp at h9 ⊢; omega) | (simp; omega)) _ | refine Below.alloc ?_ (by have h9 := hB.size; first | omega | (simp; done) | (simp at h9 ⊢; omega) | (simp; omega)) _)) hb; clear hb) | (go_at_call 12; (with_reducible refine (R7.out _).mono ?_); rintro e w' ⟨rfl, hb⟩; replace hB := below_step (w := w) (by repeat (first | exact hB | refine Below.drew ?_ | refine below_drewN ?_ _ | refine Below.setCell ?_ (by have h9 := hB.size; first | omega | (simp; done) | (simp at h9 ⊢; omega) | (simp; omega)) _ | refine Below.alloc ?_ (by have h9 := hB.size; first | omega | (simp; done) | (simp at h9 ⊢; omega) | (simp; omega)) _)) hb; clear hb) | (go_at_call 13; (with_reducible refine (R8.out _).mono ?_); rintro e w' ⟨rfl, rfl⟩) | (go_at_call 14; (with_reducible refine (R9.out _).mono ?_); rintro e w' ⟨rfl, hb⟩; replace hB := below_step (w := w) (by repeat (first | exact hB | refine Below.drew ?_ | refine below_drewN ?_ _ | refine Below.setCell ?_ (by have h9 := hB.size; first | omega | (simp; done) | (simp at h9 ⊢; omega) | (simp; omega)) _ | refine Below.alloc ?_ (by have h9 := hB.size; first | omega | (simp; done) | (simp at h9 ⊢; omega) | (simp; omega)) _)) hb; clear hb))
  go_ret
  exact ⟨rfl, hB⟩


/-! ### WordApart -/
theorem ref_cases (k n : Int) (hn : 0 ≤ n) : (refE k n = 0 ∧ 0 ≤ k ∧ k ≤ 5 ∧ refV k n = 8 * n + k ∧ (refV k n = 0 ↔ k = 0)) ∨ (refE k n = 2) := by
  by_cases h : thereB k n = true
  · obtain ⟨h3, h4, h5⟩ := there_lt h
    obtain ⟨h6, h7⟩ := there_iff.1 h
    refine .inl ⟨by unfold refE; rw [if_pos h], h3, h4, by unfold refV; rw [if_pos h], ?_⟩
    unfold refV; rw [if_pos h]
    constructor
    · intro _; omega
    · rintro rfl
      unfold loK hiK at *
      simp at h6 h7; omega
  · exact .inr (by unfold refE; rw [if_neg h])

theorem or_top (m : Int) (h0 : 0 ≤ m) (h1 : m < 18446744073709551616) : bits .or .u64 m 9223372036854775808 = if m < 9223372036854775808 then m + 9223372036854775808 else m := by
  obtain ⟨k, rfl⟩ := Int.eq_ofNat_of_zero_le h0
  have := u64_or_nat k 9223372036854775808 (by omega) (by omega)
  rw [show ((9223372036854775808 : Nat) : Int) = 9223372036854775808 from rfl] at this
  rw [this]
  have hk : k < 2 ^ 64 := by omega
  have e : k ||| 9223372036854775808 = if k < 9223372036854775808 then k + 9223372036854775808 else k := by
    by_cases hlt : k < 9223372036854775808
    · rw [if_pos hlt]
      have := Nat.two_pow_add_eq_or_of_lt (i := 63) (b := k) (by omega) 1
      rw [Nat.or_comm, show (9223372036854775808 : Nat) = 2 ^ 63 * 1 by decide, ← this]; omega
    · rw [if_neg hlt]
      apply Nat.eq_of_testBit_eq
      intro i
      rw [Nat.testBit_or]
      by_cases hi : i = 63
      · subst hi
        have h1 : k.testBit 63 = true := by
          rw [Nat.testBit_eq_decide_div_mod_eq]; simp; omega
        rw [h1]; rfl
      · have : Nat.testBit 9223372036854775808 i = false := by
          rw [show (9223372036854775808 : Nat) = 2 ^ 63 by decide, Nat.testBit_two_pow]; simp; omega
        rw [this, Bool.or_false]
  rw [e]
  by_cases hlt : k < 9223372036854775808
  · rw [if_pos hlt, if_pos (by omega)]; omega
  · rw [if_neg hlt, if_neg (by omega)]

theorem of_top (q : Int) (q1 : 9223372036854775808 ≤ q) : ofK q = 0 ∧ ofN q = 0 ∧ ofE q = 2 := by
  have hno : ¬ thereB (q % 8) (q / 8) = true := by
    intro h
    have := (there_lt h).2.2; omega
  exact ⟨by unfold ofK; rw [if_neg hno], by unfold ofN; rw [if_neg hno], by unfold ofE; rw [if_neg hno]⟩

set_option maxHeartbeats 8000000 in
theorem wordApart (j k m n : Int) (hm : 0 ≤ m) (hm2 : m < 18446744073709551616) (hn : 0 ≤ n) (hn2 : n < 18446744073709551616) (w : World) :
    Calls Try.prog 5 #[.int .i64 j, .int .i64 k, .int .u64 m, .int .u64 n] w fun e w' => e = .returned (.bool true) ∧ Below w.heap.size w w' := by
  have R9 := Lib.hid known
  have hB := Below.refl w.heap.size w
  have R3 := Ref 0 0 (by decide)
  rw [show refV 0 0 = 0 by decide, show refE 0 0 = 0 by decide] at R3
  replace R3 := Lib.hid R3
  have hor := or_top m hm hm2
  generalize hq : (if m < 9223372036854775808 then m + 9223372036854775808 else m) = q at hor
  have q1 : 9223372036854775808 ≤ q ∧ q < 18446744073709551616 := by split at hq <;> omega
  obtain ⟨q1, q2⟩ := q1
  clear hq
  have R4 := Of q (by omega) q2
  obtain ⟨t1, t2, t3⟩ := of_top q q1
  rw [t1, t2, t3] at R4
  clear t1 t2 t3
  replace R4 := Lib.hid R4
  have R1 := Ref j m hm
  have R2 := Ref k n hn
  rcases ref_cases j m hm with ⟨e1, j0, j5, v1, z1⟩ | e1
  · have hz : ((refV j m == 0) = (j == 0)) := by rw [Bool.eq_iff_iff]; simp [z1]
    rw [e1] at R1
    rcases ref_cases k n hn with ⟨e2, k0, k5, v2, z2⟩ | e2
    · rw [e2] at R2
      clear z1 z2
      by_cases hj : j = k
      · by_cases hmn : m = n
        · subst hj; subst hmn
          clear e1 e2 v1 v2 R2
          generalize refV j m = a at *
          replace R1 := Lib.hid R1
          go_enter Try.func5, Try.ntmps5
          go_wp2_with (first | (go_at_call 7; (with_reducible refine (R1.out _).mono ?_); rintro e w' ⟨rfl, hb⟩; replace hB := below_step (w := w) (by repeat (first | exact hB | refine Below.drew ?_ | refine below_drewN ?_ _ | refine Below.setCell ?_ (by have h9 := hB.size; first | omega | (simp; done) | (simp at h9 ⊢; omega) | (simp; omega)) _ | refine Below.alloc ?_ (by have h9 := hB.size; first | omega | (simp; done) | (simp at h9 ⊢; omega) | (simp; omega)) _)) hb; clear hb) | (go_at_call 7; (with_reducible refine (R2.out _).mono ?_); rintro e w' ⟨rfl, hb⟩; replace hB := below_step (w := w) (by repeat (first | exact hB | refine Below.drew ?_ | refine below_drewN ?_ _ | refine Below.setCell ?_ (by have h9 := hB.size; first | omega | (simp; done) | (simp at h9 ⊢; omega) | (simp; omega)) _ | refine Below.alloc ?_ (by have h9 := hB.size; first | omega | (simp; done) | (simp at h9 ⊢; omega) | (simp; omega)) _)) hb; clear hb) | (go_at_call 7; (with_reducible refine (R3.out _).mono ?_); rintro e w' ⟨rfl, hb⟩; replace hB := below_step (w := w) (by repeat (first | exact hB | refine Below.drew ?_ | refine below_drewN ?_ _ | refine Below.setCell ?_ (by have h9 := hB.size; first | omega | (simp; done) | (simp at h9 ⊢; omega) | (simp; omega)) _ | refine Below.alloc ?_ (by have h9 := hB.size; first | omega | (simp; done) | (simp at h9 ⊢; omega) | (simp; omega)) _)) hb; clear hb) | (go_at_call 9; (with_reducible refine (R4.out _).mono ?_); rintro e w' ⟨rfl, hb⟩; replace hB := below_step (w := w) (by repeat (first | exact hB | refine Below.drew ?_ | refine below_drewN ?_ _ | refine Below.setCell ?_ (by have h9 := hB.size; first | omega | (simp; done) | (simp at h9 ⊢; omega) | (simp; omega)) _ | refine Below.alloc ?_ (by have h9 := hB.size; first | omega | (simp; done) | (simp at h9 ⊢; omega) | (simp; omega)) _)) hb; clear hb) | (go_at_call 14; (with_reducible refine (R9.out _).mono ?_); rintro e w' ⟨rfl, hb⟩; replace hB := below_step (w := w) (by repeat (first | exact hB | refine Below.drew ?_ | refine below_drewN ?_ _ | refine Below.setCell ?_ (by have h9 := hB.size; first | omega | (simp; done) | (simp at h9 ⊢; omega) | (simp; omega)) _ | refine Below.alloc ?_ (by have h9 := hB.size; first | omega | (simp; done) | (simp at h9 ⊢; omega) | (simp; omega)) _)) hb; clear hb))
          go_ret
          exact ⟨rfl, hB⟩
        · have heq : ((refV j m == refV k n) = false) := by rw [beq_eq_false_iff_ne]; omega
          have hmn' : (m == n) = false := by rw [beq_eq_false_iff_ne]; exact hmn
          subst hj
          clear hmn e1 e2 v1 v2
          generalize refV j m = a at *
          generalize refV j n = b at *
          replace R1 := Lib.hid R1
          replace R2 := Lib.hid R2
          go_enter Try.func5, Try.ntmps5
          go_wp2_with (first | (go_at_call 7; (with_reducible refine (R1.out _).mono ?_); rintro e w' ⟨rfl, hb⟩; replace hB := below_step (w := w) (by repeat (first | exact hB | refine Below.drew ?_ | refine below_drewN ?_ _ | refine Below.setCell ?_ (by have h9 := hB.size; first | omega | (simp; done) | (simp at h9 ⊢; omega) | (simp; omega)) _ | refine Below.alloc ?_ (by have h9 := hB.size; first | omega | (simp; done) | (simp at h9 ⊢; omega) | (simp; omega)) _)) hb; clear hb) | (go_at_call 7; (with_reducible refine (R2.out _).mono ?_); rintro e w' ⟨rfl, hb⟩; replace hB := below_step (w := w) (by repeat (first | exact hB | refine Below.drew ?_ | refine below_drewN ?_ _ | refine Below.setCell ?_ (by have h9 := hB.size; first | omega | (simp; done) | (simp at h9 ⊢; omega) | (simp; omega)) _ | refine Below.alloc ?_ (by have h9 := hB.size; first | omega | (simp; done) | (simp at h9 ⊢; omega) | (simp; omega)) _)) hb; clear hb) | (go_at_call 7; (with_reducible refine (R3.out _).mono ?_); rintro e w' ⟨rfl, hb⟩; replace hB := below_step (w := w) (by repeat (first | exact hB | refine Below.drew ?_ | refine below_drewN ?_ _ | refine Below.setCell ?_ (by have h9 := hB.size; first | omega | (simp; done) | (simp at h9 ⊢; omega) | (simp; omega)) _ | refine Below.alloc ?_ (by have h9 := hB.size; first | omega | (simp; done) | (simp at h9 ⊢; omega) | (simp; omega)) _)) hb; clear hb) | (go_at_call 9; (with_reducible refine (R4.out _).mono ?_); rintro e w' ⟨rfl, hb⟩; replace hB := below_step (w := w) (by repeat (first | exact hB | refine Below.drew ?_ | refine below_drewN ?_ _ | refine Below.setCell ?_ (by have h9 := hB.size; first | omega | (simp; done) | (simp at h9 ⊢; omega) | (simp; omega)) _ | refine Below.alloc ?_ (by have h9 := hB.size; first | omega | (simp; done) | (simp at h9 ⊢; omega) | (simp; omega)) _)) hb; clear hb) | (go_at_call 14; (with_reducible refine (R9.out _).mono ?_); rintro e w' ⟨rfl, hb⟩; replace hB := below_step (w := w) (by repeat (first | exact hB | refine Below.drew ?_ | refine below_drewN ?_ _ | refine Below.setCell ?_ (by have h9 := hB.size; first | omega | (simp; done) | (simp at h9 ⊢; omega) | (simp; omega)) _ | refine Below.alloc ?_ (by have h9 := hB.size; first | omega | (simp; done) | (simp at h9 ⊢; omega) | (simp; omega)) _)) hb; clear hb))
          go_ret
          exact ⟨rfl, hB⟩
      · have heq : ((refV j m == refV k n) = false) := by rw [beq_eq_false_iff_ne]; omega
        have hj' : (j == k) = false := by rw [beq_eq_false_iff_ne]; exact hj
        clear hj e1 e2 v1 v2
        generalize refV j m = a at *
        generalize refV k n = b at *
        replace R1 := Lib.hid R1
        replace R2 := Lib.hid R2
        go_enter Try.func5, Try.ntmps5
        go_wp2_with (first | (go_at_call 7; (with_reducible refine (R1.out _).mono ?_); rintro e w' ⟨rfl, hb⟩; replace hB := below_step (w := w) (by repeat (first | exact hB | refine Below.drew ?_ | refine below_drewN ?_ _ | refine Below.setCell ?_ (by have h9 := hB.size; first | omega | (simp; done) | (simp at h9 ⊢; omega) | (simp; omega)) _ | refine Below.alloc ?_ (by have h9 := hB.size; first | omega | (simp; done) | (simp at h9 ⊢; omega) | (simp; omega)) _)) hb; clear hb) | (go_at_call 7; (with_reducible refine (R2.out _).mono ?_); rintro e w' ⟨rfl, hb⟩; replace hB := below_step (w := w) (by repeat (first | exact hB | refine Below.drew ?_ | refine below_drewN ?_ _ | refine Below.setCell ?_ (by have h9 := hB.size; first | omega | (simp; done) | (simp at h9 ⊢; omega) | (simp; omega)) _ | refine Below.alloc ?_ (by have h9 := hB.size; first | omega | (simp; done) | (simp at h9 ⊢; omega) | (simp; omega)) _)) hb; clear hb) | (go_at_call 7; (with_reducible refine (R3.out _).mono ?_); rintro e w' ⟨rfl, hb⟩; replace hB := below_step (w := w) (by repeat (first | exact hB | refine Below.drew ?_ | refine below_drewN ?_ _ | refine Below.setCell ?_ (by have h9 := hB.size; first | omega | (simp; done) | (simp at h9 ⊢; omega) | (simp; omega)) _ | refine Below.alloc ?_ (by have h9 := hB.size; first | omega | (simp; done) | (simp at h9 ⊢; omega) | (simp; omega)) _)) hb; clear hb) | (go_at_call 9; (with_reducible refine (R4.out _).mono ?_); rintro e w' ⟨rfl, hb⟩; replace hB := below_step (w := w) (by repeat (first | exact hB | refine Below.drew ?_ | refine below_drewN ?_ _ | refine Below.setCell ?_ (by have h9 := hB.size; first | omega | (simp; done) | (simp at h9 ⊢; omega) | (simp; omega)) _ | refine Below.alloc ?_ (by have h9 := hB.size; first | omega | (simp; done) | (simp at h9 ⊢; omega) | (simp; omega)) _)) hb; clear hb) | (go_at_call 14; (with_reducible refine (R9.out _).mono ?_); rintro e w' ⟨rfl, hb⟩; replace hB := below_step (w := w) (by repeat (first | exact hB | refine Below.drew ?_ | refine below_drewN ?_ _ | refine Below.setCell ?_ (by have h9 := hB.size; first | omega | (simp; done) | (simp at h9 ⊢; omega) | (simp; omega)) _ | refine Below.alloc ?_ (by have h9 := hB.size; first | omega | (simp; done) | (simp at h9 ⊢; omega) | (simp; omega)) _)) hb; clear hb))
        go_ret
        exact ⟨rfl, hB⟩
    · rw [e2] at R2
      clear z1 e1 e2 v1
      generalize refV j m = a at *
      generalize refV k n = b at *
      replace R1 := Lib.hid R1
      replace R2 := Lib.hid R2
      go_enter Try.func5, Try.ntmps5
      go_wp2_with (first | (go_at_call 7; (with_reducible refine (R1.out _).mono ?_); rintro e w' ⟨rfl, hb⟩; replace hB := below_step (w := w) (by repeat (first | exact hB | refine Below.drew ?_ | refine below_drewN ?_ _ | refine Below.setCell ?_ (by have h9 := hB.size; first | omega | (simp; done) | (simp at h9 ⊢; omega) | (simp; omega)) _ | refine Below.alloc ?_ (by have h9 := hB.size; first | omega | (simp; done) | (simp at h9 ⊢; omega) | (simp; omega)) _)) hb; clear hb) | (go_at_call 7; (with_reducible refine (R2.out _).mono ?_); rintro e w' ⟨rfl, hb⟩; replace hB := below_step (w := w) (by repeat (first | exact hB | refine Below.drew ?_ | refine below_drewN ?_ _ | refine Below.setCell ?_ (by have h9 := hB.size; first | omega | (simp; done) | (simp at h9 ⊢; omega) | (simp; omega)) _ | refine Below.alloc ?_ (by have h9 := hB.size; first | omega | (simp; done) | (simp at h9 ⊢; omega) | (simp; omega)) _)) hb; clear hb) | (go_at_call 7; (with_reducible refine (R3.out _).mono ?_); rintro e w' ⟨rfl, hb⟩; replace hB := below_step (w := w) (by repeat (first | exact hB | refine Below.drew ?_ | refine below_drewN ?_ _ | refine Below.setCell ?_ (by have h9 := hB.size; first | omega | (simp; done) | (simp at h9 ⊢; omega) | (simp; omega)) _ | refine Below.alloc ?_ (by have h9 := hB.size; first | omega | (simp; done) | (simp at h9 ⊢; omega) | (simp; omega)) _)) hb; clear hb) | (go_at_call 9; (with_reducible refine (R4.out _).mono ?_); rintro e w' ⟨rfl, hb⟩; replace hB := below_step (w := w) (by repeat (first | exact hB | refine Below.drew ?_ | refine below_drewN ?_ _ | refine Below.setCell ?_ (by have h9 := hB.size; first | omega | (simp; done) | (simp at h9 ⊢; omega) | (simp; omega)) _ | refine Below.alloc ?_ (by have h9 := hB.size; first | omega | (simp; done) | (simp at h9 ⊢; omega) | (simp; omega)) _)) hb; clear hb) | (go_at_call 14; (with_reducible refine (R9.out _).mono ?_); rintro e w' ⟨rfl, hb⟩; replace hB := below_step (w := w) (by repeat (first | exact hB | refine Below.drew ?_ | refine below_drewN ?_ _ | refine Below.setCell ?_ (by have h9 := hB.size; first | omega | (simp; done) | (simp at h9 ⊢; omega) | (simp; omega)) _ | refine Below.alloc ?_ (by have h9 := hB.size; first | omega | (simp; done) | (simp at h9 ⊢; omega) | (simp; omega)) _)) hb; clear hb))
      go_ret
      exact ⟨rfl, hB⟩
  · rw [e1] at R1
    clear e1
    generalize refV j m = a at *
    generalize refV k n = b at *
    generalize refE k n = f at *
    replace R1 := Lib.hid R1
    replace R2 := Lib.hid R2
    go_enter Try.func5, Try.ntmps5
    go_wp2_with (first | (go_at_call 7; (with_reducible refine (R1.out _).mono ?_); rintro e w' ⟨rfl, hb⟩; replace hB := below_step (w := w) (by repeat (first | exact hB | refine Below.drew ?_ | refine below_drewN ?_ _ | refine Below.setCell ?_ (by have h9 := hB.size; first | omega | (simp; done) | (simp at h9 ⊢; omega) | (simp; omega)) _ | refine Below.alloc ?_ (by have h9 := hB.size; first | omega | (simp; done) | (simp at h9 ⊢; omega) | (simp; omega)) _)) hb; clear hb) | (go_at_call 7; (with_reducible refine (R2.out _).mono ?_); rintro e w' ⟨rfl, hb⟩; replace hB := below_step (w := w) (by repeat (first | exact hB | refine Below.drew ?_ | refine below_drewN ?_ _ | refine Below.setCell ?_ (by have h9 := hB.size; first | omega | (simp; done) | (simp at h9 ⊢; omega) | (simp; omega)) _ | refine Below.alloc ?_ (by have h9 := hB.size; first | omega | (simp; done) | (simp at h9 ⊢; omega) | (simp; omega)) _)) hb; clear hb) | (go_at_call 7; (with_reducible refine (R3.out _).mono ?_); rintro e w' ⟨rfl, hb⟩; replace hB := below_step (w := w) (by repeat (first | exact hB | refine Below.drew ?_ | refine below_drewN ?_ _ | refine Below.setCell ?_ (by have h9 := hB.size; first | omega | (simp; done) | (simp at h9 ⊢; omega) | (simp; omega)) _ | refine Below.alloc ?_ (by have h9 := hB.size; first | omega | (simp; done) | (simp at h9 ⊢; omega) | (simp; omega)) _)) hb; clear hb) | (go_at_call 9; (with_reducible refine (R4.out _).mono ?_); rintro e w' ⟨rfl, hb⟩; replace hB := below_step (w := w) (by repeat (first | exact hB | refine Below.drew ?_ | refine below_drewN ?_ _ | refine Below.setCell ?_ (by have h9 := hB.size; first | omega | (simp; done) | (simp at h9 ⊢; omega) | (simp; omega)) _ | refine Below.alloc ?_ (by have h9 := hB.size; first | omega | (simp; done) | (simp at h9 ⊢; omega) | (simp; omega)) _)) hb; clear hb) | (go_at_call 14; (with_reducible refine (R9.out _).mono ?_); rintro e w' ⟨rfl, hb⟩; replace hB := below_step (w := w) (by repeat (first | exact hB | refine Below.drew ?_ | refine below_drewN ?_ _ | refine Below.setCell ?_ (by have h9 := hB.size; first | omega | (simp; done) | (simp at h9 ⊢; omega) | (simp; omega)) _ | refine Below.alloc ?_ (by have h9 := hB.size; first | omega | (simp; done) | (simp at h9 ⊢; omega) | (simp; omega)) _)) hb; clear hb))
    go_ret
    exact ⟨rfl, hB⟩
end Go.Proofs.Ytaikfbieoifldaa.A
