/- Contracts of the reference's functions: they return what package word's do, whatever numbers they are given; no memory that was there turns. -/
import Derived.Test.YtaikfbieoifldaaA
namespace Go.Proofs.Ytaikfbieoifldaa.A
open Go.ChangeShapes Go.WideShapes Go.ChangeAt Go.RowKit
set_option linter.unusedVariables false
set_option linter.unusedSimpArgs false

theorem there_form (k n : Int) (hn : 0 ≤ n) : thereB k n =
    (if k = 0 then (n == 0) else if k = 1 then decide (n < 2147483648) else if k = 2 ∨ k = 5 then (decide (1 ≤ n) && decide (n < 1099511627776)) else if k = 3 ∨ k = 4 then decide (n < 1099511627776) else false) := by
  rw [Bool.eq_iff_iff, there_iff]
  unfold loK hiK
  by_cases h0 : k = 0
  · subst h0; simp; omega
  by_cases h1 : k = 1
  · subst h1; simp; omega
  by_cases h2 : k = 2
  · subst h2; simp
  by_cases h3 : k = 3
  · subst h3; simp; omega
  by_cases h4 : k = 4
  · subst h4; simp; omega
  by_cases h5 : k = 5
  · subst h5; simp
  simp only [h0, h1, h2, h3, h4, h5, if_false, false_or]
  by_cases hc : k < 0 ∨ 5 < k
  · simp only [if_pos hc]; constructor
    · omega
    · simp
  · omega

set_option maxHeartbeats 2000000 in
theorem There (k n : Int) (hn : 0 ≤ n) (w : World) :
    Calls Try.prog 21 #[.int .i64 k, .int .u64 n] w fun e w' => e = .returned (.bool (thereB k n)) ∧ w = w' := by
  rw [there_form k n hn]
  by_cases h0 : k = 0
  · subst h0
    simp only [if_true]
    go_enter Try.func21, Try.ntmps21
    go_wp2
    go_ret
    exact ⟨rfl, rfl⟩
  by_cases h1 : k = 1
  · subst h1
    rw [if_neg (by decide), if_pos rfl]
    go_enter Try.func21, Try.ntmps21
    go_wp2
    go_ret
    exact ⟨rfl, rfl⟩
  rw [if_neg h0, if_neg h1]
  by_cases h2 : k = 2 ∨ k = 5
  · rw [if_pos h2]
    by_cases hn1 : 1 ≤ n
    · rcases h2 with rfl | rfl
      all_goals
        go_enter Try.func21, Try.ntmps21
        go_wp2
        go_ret
        exact ⟨by simp [hn1], rfl⟩
    · rcases h2 with rfl | rfl
      all_goals
        go_enter Try.func21, Try.ntmps21
        go_wp2
        go_ret
        exact ⟨by simp [show ¬ 1 ≤ n by omega], rfl⟩
  rw [if_neg h2]
  by_cases h3 : k = 3 ∨ k = 4
  · rw [if_pos h3]
    rcases h3 with rfl | rfl
    all_goals
      go_enter Try.func21, Try.ntmps21
      go_wp2
      go_ret
      exact ⟨rfl, rfl⟩
  rw [if_neg h3]
  have g2 : ¬ k = 2 := by omega
  have g5 : ¬ k = 5 := by omega
  have g3 : ¬ k = 3 := by omega
  have g4 : ¬ k = 4 := by omega
  clear h2 h3
  go_enter Try.func21, Try.ntmps21
  go_wp2
  go_ret
  exact ⟨rfl, rfl⟩

theorem There_yes (k n : Int) (hn : 0 ≤ n) (h : thereB k n = true) (w : World) :
    Calls Try.prog 21 #[.int .i64 k, .int .u64 n] w fun e w' => e = .returned (.bool true) ∧ w = w' := by
  have := There k n hn w; rw [h] at this; exact this
theorem There_no (k n : Int) (hn : 0 ≤ n) (h : ¬ thereB k n = true) (w : World) :
    Calls Try.prog 21 #[.int .i64 k, .int .u64 n] w fun e w' => e = .returned (.bool false) ∧ w = w' := by
  have := There k n hn w; rw [Bool.eq_false_iff.2 h] at this; exact this

theorem RRef (k n : Int) (hn : 0 ≤ n) (w : World) :
    Calls Try.prog 8 #[.int .i64 k, .int .u64 n] w fun e w' => e = .returned (.tuple #[.int .u64 (refV k n), .int .i64 (refE k n)]) ∧ w = w' := by
  by_cases h : thereB k n = true
  · have e1 : refV k n = 8 * n + k := by unfold refV; rw [if_pos h]
    have e2 : refE k n = 0 := by unfold refE; rw [if_pos h]
    rw [e1, e2]; clear e1 e2
    obtain ⟨h3, h4, h5⟩ := there_lt h
    have C := Lib.hid (There_yes k n hn h)
    clear h
    go_enter Try.func8, Try.ntmps8
    go_wp2_with (go_at_call 21; refine (C.out _).mono ?_; rintro e w' ⟨rfl, rfl⟩)
    go_ret2
    exact ⟨rfl, rfl⟩
  · have e1 : refV k n = 0 := by unfold refV; rw [if_neg h]
    have e2 : refE k n = 2 := by unfold refE; rw [if_neg h]
    rw [e1, e2]; clear e1 e2
    have C := Lib.hid (There_no k n hn h)
    clear h
    go_enter Try.func8, Try.ntmps8
    go_wp2_with (go_at_call 21; refine (C.out _).mono ?_; rintro e w' ⟨rfl, rfl⟩)
    go_ret2
    exact ⟨rfl, rfl⟩

theorem ROf (n : Int) (hn : 0 ≤ n) (hn2 : n < 18446744073709551616) (w : World) :
    Calls Try.prog 10 #[.int .u64 n] w fun e w' => e = .returned (.tuple #[.int .i64 (ofK n), .int .u64 (ofN n), .int .i64 (ofE n)]) ∧ w = w' := by
  by_cases h : thereB (n % 8) (n / 8) = true
  · have e1 : ofK n = n % 8 := by unfold ofK; rw [if_pos h]
    have e2 : ofN n = n / 8 := by unfold ofN; rw [if_pos h]
    have e3 : ofE n = 0 := by unfold ofE; rw [if_pos h]
    rw [e1, e2, e3]; clear e1 e2 e3
    have C := Lib.hid (There_yes (n % 8) (n / 8) (by omega) h)
    clear h
    go_enter Try.func10, Try.ntmps10
    go_wp2_with (go_at_call 21; refine (C.out _).mono ?_; rintro e w' ⟨rfl, rfl⟩)
    go_ret3
    exact ⟨rfl, rfl⟩
  · have e1 : ofK n = 0 := by unfold ofK; rw [if_neg h]
    have e2 : ofN n = 0 := by unfold ofN; rw [if_neg h]
    have e3 : ofE n = 2 := by unfold ofE; rw [if_neg h]
    rw [e1, e2, e3]; clear e1 e2 e3
    have C := Lib.hid (There_no (n % 8) (n / 8) (by omega) h)
    clear h
    go_enter Try.func10, Try.ntmps10
    go_wp2_with (go_at_call 21; refine (C.out _).mono ?_; rintro e w' ⟨rfl, rfl⟩)
    go_ret3
    exact ⟨rfl, rfl⟩

theorem RNumber (n : Int) (s : Bool) (hn : 0 ≤ n) (hn2 : n < 18446744073709551616) (w : World) :
    Calls Try.prog 13 #[.int .u64 n, .bool s] w fun e w' => e = .returned (.int .u64 (num n s)) ∧ w = w' := by
  obtain ⟨b1, b2, b3, b4, b5⟩ := of_bd n hn
  have C := Lib.hid (ROf n hn hn2)
  by_cases h0 : ofE n = 0
  · by_cases h1 : ofK n = 1
    · rw [h0, h1] at C
      cases s with
      | false =>
        have e : num n false = ofN n := by unfold num; rw [if_pos ⟨h0, h1⟩]; simp
        rw [e]; clear e
        clear h0 h1 b5
        go_enter Try.func13, Try.ntmps13
        go_wp2_with (go_at_call 10; refine (C.out _).mono ?_; rintro e w' ⟨rfl, rfl⟩)
        go_ret
        exact ⟨rfl, rfl⟩
      | true =>
        by_cases h2 : 1073741824 ≤ ofN n
        · have e : num n true = ofN n + 2147483648 := by unfold num; rw [if_pos ⟨h0, h1⟩, if_pos ⟨rfl, h2⟩]
          rw [e]; clear e
          clear h0 h1 b5
          go_enter Try.func13, Try.ntmps13
          go_wp2_with (go_at_call 10; refine (C.out _).mono ?_; rintro e w' ⟨rfl, rfl⟩)
          go_ret
          exact ⟨rfl, rfl⟩
        · have e : num n true = ofN n := by unfold num; rw [if_pos ⟨h0, h1⟩, if_neg (by omega)]
          rw [e]; clear e
          clear h0 h1 b5
          go_enter Try.func13, Try.ntmps13
          go_wp2_with (go_at_call 10; refine (C.out _).mono ?_; rintro e w' ⟨rfl, rfl⟩)
          go_ret
          exact ⟨rfl, rfl⟩
    · have e : num n s = 0 := by unfold num; rw [if_neg (by omega)]
      rw [e]; clear e
      rw [h0] at C
      have h1' : (ofK n != 1) = true := by simpa using h1
      clear h0 b5 h1
      go_enter Try.func13, Try.ntmps13
      go_wp2_with (go_at_call 10; refine (C.out _).mono ?_; rintro e w' ⟨rfl, rfl⟩)
      go_ret
      exact ⟨rfl, rfl⟩
  · have e : num n s = 0 := by unfold num; rw [if_neg (by omega)]
    rw [e]; clear e
    have h2 : ofE n = 2 := by omega
    rw [h2] at C
    clear h0 b5 h2
    go_enter Try.func13, Try.ntmps13
    go_wp2_with (go_at_call 10; refine (C.out _).mono ?_; rintro e w' ⟨rfl, rfl⟩)
    go_ret
    exact ⟨rfl, rfl⟩

/-! ### values -/
def packN (kd k n : Int) : Int := if kd = 3 then refV k n else if k = 0 ∧ (kd = 2 ∨ (kd = 1 ∧ n < 4294967296)) then n else 0
def packE (kd k n : Int) : Int := if kd = 3 then refE k n else if k = 0 ∧ (kd = 2 ∨ (kd = 1 ∧ n < 4294967296)) then 0 else 2

theorem below_new (w : World) (o : Obj) : Below w.heap.size w (w.alloc o) := (Below.refl _ _).alloc (Nat.le_refl _) _

set_option maxHeartbeats 4000000 in
theorem Pack (kd k n : Int) (hn : 0 ≤ n) (hn2 : n < 18446744073709551616) (w : World) :
    Calls Try.prog 15 #[.agg #[.int .i64 kd, .int .i64 k, .int .u64 n]] w fun e w' => e = .returned (.tuple #[.int .u64 (packN kd k n), .int .i64 (packE kd k n)]) ∧ Below w.heap.size w w' := by
  by_cases h3 : kd = 3
  · subst h3
    have e1 : packN 3 k n = refV k n := by unfold packN; rw [if_pos rfl]
    have e2 : packE 3 k n = refE k n := by unfold packE; rw [if_pos rfl]
    rw [e1, e2]; clear e1 e2
    have C := Lib.hid (Ref k n hn)
    go_enter Try.func15, Try.ntmps15
    go_wp2_with (go_at_call 7; refine (C.out _).mono ?_; rintro e w' ⟨rfl, hb⟩)
    go_ret2
    exact ⟨rfl, below_step (below_new _ _) hb⟩
  by_cases ok : k = 0 ∧ (kd = 2 ∨ (kd = 1 ∧ n < 4294967296))
  · have e1 : packN kd k n = n := by unfold packN; rw [if_neg h3, if_pos ok]
    have e2 : packE kd k n = 0 := by unfold packE; rw [if_neg h3, if_pos ok]
    rw [e1, e2]; clear e1 e2
    obtain ⟨rfl, rfl | ⟨rfl, hlt⟩⟩ := ok
    · go_enter Try.func15, Try.ntmps15
      go_wp2
      go_ret2
      exact ⟨rfl, below_new _ _⟩
    · have he : (n == n % 4294967296) = true := by rw [beq_iff_eq]; omega
      clear h3
      go_enter Try.func15, Try.ntmps15
      go_wp2
      go_ret2
      exact ⟨rfl, below_new _ _⟩
  · have e1 : packN kd k n = 0 := by unfold packN; rw [if_neg h3, if_neg ok]
    have e2 : packE kd k n = 2 := by unfold packE; rw [if_neg h3, if_neg ok]
    rw [e1, e2]; clear e1 e2
    by_cases k0 : k = 0
    · subst k0
      by_cases h1 : kd = 1
      · subst h1
        have he : (n == n % 4294967296) = false := by rw [beq_eq_false_iff_ne]; omega
        clear ok h3
        go_enter Try.func15, Try.ntmps15
        go_wp2
        go_ret2
        exact ⟨rfl, below_new _ _⟩
      · have h1' : (kd == 1) = false := by rw [beq_eq_false_iff_ne]; omega
        have h2' : (kd == 2) = false := by rw [beq_eq_false_iff_ne]; omega
        have h3' : (kd != 3) = true := by rw [bne_iff_ne]; omega
        clear ok h3 h1
        go_enter Try.func15, Try.ntmps15
        go_wp2
        go_ret2
        exact ⟨rfl, below_new _ _⟩
    · have hk : (k == 0) = false := by rw [beq_eq_false_iff_ne]; omega
      have h3' : (kd != 3) = true := by rw [bne_iff_ne]; omega
      clear ok h3 k0
      go_enter Try.func15, Try.ntmps15
      go_wp2
      go_ret2
      exact ⟨rfl, below_new _ _⟩

set_option maxHeartbeats 4000000 in
theorem RPack (kd k n : Int) (hn : 0 ≤ n) (hn2 : n < 18446744073709551616) (w : World) :
    Calls Try.prog 17 #[.agg #[.int .i64 kd, .int .i64 k, .int .u64 n]] w fun e w' => e = .returned (.tuple #[.int .u64 (packN kd k n), .int .i64 (packE kd k n)]) ∧ Below w.heap.size w w' := by
  by_cases h3 : kd = 3
  · subst h3
    have e1 : packN 3 k n = refV k n := by unfold packN; rw [if_pos rfl]
    have e2 : packE 3 k n = refE k n := by unfold packE; rw [if_pos rfl]
    rw [e1, e2]; clear e1 e2
    have C := Lib.hid (RRef k n hn)
    go_enter Try.func17, Try.ntmps17
    go_wp2_with (go_at_call 8; refine (C.out _).mono ?_; rintro e w' ⟨rfl, rfl⟩)
    go_ret2
    exact ⟨rfl, below_new _ _⟩
  have h3' : (kd == 3) = false := by rw [beq_eq_false_iff_ne]; exact h3
  by_cases ok : k = 0 ∧ (kd = 2 ∨ (kd = 1 ∧ n < 4294967296))
  · have e1 : packN kd k n = n := by unfold packN; rw [if_neg h3, if_pos ok]
    have e2 : packE kd k n = 0 := by unfold packE; rw [if_neg h3, if_pos ok]
    rw [e1, e2]; clear e1 e2
    obtain ⟨rfl, rfl | ⟨rfl, hlt⟩⟩ := ok
    · clear h3 h3'
      go_enter Try.func17, Try.ntmps17
      go_wp2
      go_ret2
      exact ⟨rfl, below_new _ _⟩
    · clear h3 h3'
      go_enter Try.func17, Try.ntmps17
      go_wp2
      go_ret2
      exact ⟨rfl, below_new _ _⟩
  · have e1 : packN kd k n = 0 := by unfold packN; rw [if_neg h3, if_neg ok]
    have e2 : packE kd k n = 2 := by unfold packE; rw [if_neg h3, if_neg ok]
    rw [e1, e2]; clear e1 e2
    by_cases k0 : k = 0
    · subst k0
      by_cases h1 : kd = 1
      · subst h1
        have he : 4294967296 ≤ n := by omega
        clear ok h3 h3'
        go_enter Try.func17, Try.ntmps17
        go_wp2
        go_ret2
        exact ⟨rfl, below_new _ _⟩
      · have h1' : (kd != 1) = true := by rw [bne_iff_ne]; omega
        have h2' : (kd != 2) = true := by rw [bne_iff_ne]; omega
        clear ok h3 h1
        go_enter Try.func17, Try.ntmps17
        go_wp2
        go_ret2
        exact ⟨rfl, below_new _ _⟩
    · have hk : (k != 0) = true := by rw [bne_iff_ne]; omega
      clear ok h3 k0
      go_enter Try.func17, Try.ntmps17
      go_wp2
      go_ret2
      exact ⟨rfl, below_new _ _⟩

theorem bcell {W w1 : World} (hb : Below W.heap.size W w1) : (∀ b o, b < W.heap.size → w1.cell? ⟨b, o, none⟩ = W.cell? ⟨b, o, none⟩) ∧ (∀ b o, b < W.heap.size → w1.frozen? ⟨b, o, none⟩ = W.frozen? ⟨b, o, none⟩) :=
  ⟨fun b o h => hb.cell (p := ⟨b, o, none⟩) h, fun b o h => hb.frozen (p := ⟨b, o, none⟩) h⟩

theorem cell_self (w : World) (b o : Nat) (v : Value) : (w.setCell ⟨b, o, none⟩ v).cell? ⟨b, o, none⟩ = (w.cell? ⟨b, o, none⟩).map fun _ => v := by
  cases h : w.cell? ⟨b, o, none⟩ with
  | some u => exact World.cell?_setCell_same _ _ _ h
  | none =>
    simp only [World.cell?, World.setCell, Array.getElem?_modify, ↓reduceIte] at *
    cases hb : w.heap[b]? with
    | none => rfl
    | some x => cases x <;> simp_all

def opK (kd w : Int) : Int := if kd = 3 then (if ofE w = 0 then 3 else 0) else if kd = 2 ∨ (kd = 1 ∧ w < 4294967296) then kd else 0
def opR (kd w : Int) : Int := if kd = 3 then ofK w else 0
def opN (kd w : Int) : Int := if kd = 3 then ofN w else if kd = 2 ∨ (kd = 1 ∧ w < 4294967296) then w else 0
def opE (kd w : Int) : Int := if kd = 3 then ofE w else if kd = 2 ∨ (kd = 1 ∧ w < 4294967296) then 0 else 2

theorem of_cases (n : Int) (hn : 0 ≤ n) : (ofE n = 0 ∧ thereB (ofK n) (ofN n) = true ∧ refV (ofK n) (ofN n) = n) ∨ (ofE n = 2 ∧ ofK n = 0 ∧ ofN n = 0) := by
  unfold ofK ofN ofE
  by_cases h : thereB (n % 8) (n / 8) = true
  · rw [if_pos h, if_pos h, if_pos h]; exact .inl ⟨rfl, h, by unfold refV; rw [if_pos h]; omega⟩
  · rw [if_neg h, if_neg h, if_neg h]; exact .inr ⟨rfl, rfl, rfl⟩

set_option maxHeartbeats 4000000 in
theorem Open (kd n : Int) (hn : 0 ≤ n) (hn2 : n < 18446744073709551616) (w : World) :
    Calls Try.prog 16 #[.int .i64 kd, .int .u64 n] w fun e w' => e = .returned (.tuple #[.agg #[.int .i64 (opK kd n), .int .i64 (opR kd n), .int .u64 (opN kd n)], .int .i64 (opE kd n)]) ∧ Below w.heap.size w w' := by
  by_cases h3 : kd = 3
  · subst h3
    have e3 : opR 3 n = ofK n := by unfold opR; rw [if_pos rfl]
    have e4 : opN 3 n = ofN n := by unfold opN; rw [if_pos rfl]
    have e5 : opE 3 n = ofE n := by unfold opE; rw [if_pos rfl]
    obtain ⟨b1, b2, b3, b4, b5⟩ := of_bd n hn
    rcases of_cases n hn with ⟨h0, ht, hv⟩ | ⟨h2, hk0, hn0⟩
    · have e6 : opK 3 n = 3 := by unfold opK; rw [if_pos rfl, if_pos h0]
      rw [e3, e4, e5, e6, h0]; clear e3 e4 e5 e6
      have C := Lib.hid (Of n hn hn2)
      rw [h0] at C
      have p1 : packN 3 (ofK n) (ofN n) = n := by unfold packN; rw [if_pos rfl, hv]
      have p2 : packE 3 (ofK n) (ofN n) = 0 := by unfold packE; rw [if_pos rfl]; unfold refE; rw [if_pos ht]
      have D := Lib.hid (Pack 3 (ofK n) (ofN n) b3 (by omega))
      rw [p1, p2] at D
      clear p1 p2 h0 ht hv b5
      go_enter Try.func16, Try.ntmps16
      go_wp2_with (first | (go_at_call 9; refine (C.out _).mono ?_; rintro e w' ⟨rfl, hb⟩; obtain ⟨hc, hf⟩ := bcell hb; have hz : w.heap.size + 1 < w'.heap.size := (by (have := hb.size; simp at this; omega)); have hy : w.heap.size < w'.heap.size := by omega) | (go_at_call 15; refine (D.out _).mono ?_; rintro e w1 ⟨rfl, hb1⟩; obtain ⟨hc1, hf1⟩ := bcell hb1; have hz1 : w.heap.size + 1 < w1.heap.size := (by (have := hb1.size; simp at this; omega)); have hy1 : w.heap.size < w1.heap.size := by omega))
      refine bodyPost_ret (v := .tuple #[.agg #[.int .i64 3, .int .i64 (ofK n), .int .u64 (ofN n)], .int .i64 0]) ?_ rfl ?_
      · rw [results_cell_tmp (show Try.f16.results = _ from Try.results16)]; simp [go_sem, cell_self, hc1, hz1, hy1, hc, hz, hy]
      · exact ⟨rfl, by repeat (first | exact Below.refl _ _ | refine Below.drew ?_ | refine below_drewN ?_ _ | refine Below.alloc ?_ (by simp) _ | refine Below.setCell ?_ (by simp) _ | refine below_step ?_ hb1 | refine below_step ?_ hb)⟩
    · have e6 : opK 3 n = 0 := by unfold opK; rw [if_pos rfl, if_neg (by omega)]
      rw [e3, e4, e5, e6, hk0, hn0, h2]; clear e3 e4 e5 e6
      have C := Lib.hid (Of n hn hn2)
      rw [hk0, hn0, h2] at C
      clear h2 hk0 hn0 b1 b2 b3 b4 b5
      go_enter Try.func16, Try.ntmps16
      go_wp2_with (first | (go_at_call 9; refine (C.out _).mono ?_; rintro e w' ⟨rfl, hb⟩; obtain ⟨hc, hf⟩ := bcell hb; have hz : w.heap.size + 1 < w'.heap.size := (by (have := hb.size; simp at this; omega)); have hy : w.heap.size < w'.heap.size := by omega))
      refine bodyPost_ret (v := .tuple #[.agg #[.int .i64 0, .int .i64 0, .int .u64 0], .int .i64 2]) ?_ rfl ?_
      · rw [results_cell_tmp (show Try.f16.results = _ from Try.results16)]; simp [go_sem, cell_self, hc, hz, hy]
      · exact ⟨rfl, by repeat (first | exact Below.refl _ _ | refine Below.drew ?_ | refine below_drewN ?_ _ | refine Below.alloc ?_ (by simp) _ | refine Below.setCell ?_ (by simp) _ | refine below_step ?_ hb1 | refine below_step ?_ hb)⟩
  · have h3' : (kd == 3) = false := by rw [beq_eq_false_iff_ne]; exact h3
    have e3 : opR kd n = 0 := by unfold opR; rw [if_neg h3]
    rw [e3]; clear e3
    have D := Lib.hid (Pack kd 0 n hn hn2)
    by_cases ok : kd = 2 ∨ (kd = 1 ∧ n < 4294967296)
    · have e1 : opK kd n = kd := by unfold opK; rw [if_neg h3, if_pos ok]
      have e4 : opN kd n = n := by unfold opN; rw [if_neg h3, if_pos ok]
      have e5 : opE kd n = 0 := by unfold opE; rw [if_neg h3, if_pos ok]
      have p1 : packN kd 0 n = n := by unfold packN; rw [if_neg h3, if_pos ⟨rfl, ok⟩]
      have p2 : packE kd 0 n = 0 := by unfold packE; rw [if_neg h3, if_pos ⟨rfl, ok⟩]
      rw [e1, e4, e5]; rw [p1, p2] at D; clear e1 e4 e5 p1 p2 ok h3
      go_enter Try.func16, Try.ntmps16
      go_wp2_with (first | (go_at_call 15; refine (D.out _).mono ?_; rintro e w1 ⟨rfl, hb1⟩; obtain ⟨hc1, hf1⟩ := bcell hb1; have hz1 : w.heap.size + 1 < w1.heap.size := (by (have := hb1.size; simp at this; omega)); have hy1 : w.heap.size < w1.heap.size := by omega))
      refine bodyPost_ret (v := .tuple #[.agg #[.int .i64 kd, .int .i64 0, .int .u64 n], .int .i64 0]) ?_ rfl ?_
      · rw [results_cell_tmp (show Try.f16.results = _ from Try.results16)]; simp [go_sem, cell_self, hc1, hz1, hy1]
      · exact ⟨rfl, by repeat (first | exact Below.refl _ _ | refine Below.drew ?_ | refine below_drewN ?_ _ | refine Below.alloc ?_ (by simp) _ | refine Below.setCell ?_ (by simp) _ | refine below_step ?_ hb1 | refine below_step ?_ hb)⟩
    · have e1 : opK kd n = 0 := by unfold opK; rw [if_neg h3, if_neg ok]
      have e4 : opN kd n = 0 := by unfold opN; rw [if_neg h3, if_neg ok]
      have e5 : opE kd n = 2 := by unfold opE; rw [if_neg h3, if_neg ok]
      have p1 : packN kd 0 n = 0 := by unfold packN; rw [if_neg h3, if_neg (by omega)]
      have p2 : packE kd 0 n = 2 := by unfold packE; rw [if_neg h3, if_neg (by omega)]
      rw [e1, e4, e5]; rw [p1, p2] at D; clear e1 e4 e5 p1 p2 ok h3
      go_enter Try.func16, Try.ntmps16
      go_wp2_with (first | (go_at_call 15; refine (D.out _).mono ?_; rintro e w1 ⟨rfl, hb1⟩; obtain ⟨hc1, hf1⟩ := bcell hb1; have hz1 : w.heap.size + 1 < w1.heap.size := (by (have := hb1.size; simp at this; omega)); have hy1 : w.heap.size < w1.heap.size := by omega))
      refine bodyPost_ret (v := .tuple #[.agg #[.int .i64 0, .int .i64 0, .int .u64 0], .int .i64 2]) ?_ rfl ?_
      · rw [results_cell_tmp (show Try.f16.results = _ from Try.results16)]; simp [go_sem, cell_self, hc1, hz1, hy1]
      · exact ⟨rfl, by repeat (first | exact Below.refl _ _ | refine Below.drew ?_ | refine below_drewN ?_ _ | refine Below.alloc ?_ (by simp) _ | refine Below.setCell ?_ (by simp) _ | refine below_step ?_ hb1 | refine below_step ?_ hb)⟩

set_option maxHeartbeats 4000000 in
theorem ROpen (kd n : Int) (hn : 0 ≤ n) (hn2 : n < 18446744073709551616) (w : World) :
    Calls Try.prog 18 #[.int .i64 kd, .int .u64 n] w fun e w' => e = .returned (.tuple #[.agg #[.int .i64 (opK kd n), .int .i64 (opR kd n), .int .u64 (opN kd n)], .int .i64 (opE kd n)]) ∧ Below w.heap.size w w' := by
  by_cases h3 : kd = 3
  · subst h3
    have e3 : opR 3 n = ofK n := by unfold opR; rw [if_pos rfl]
    have e4 : opN 3 n = ofN n := by unfold opN; rw [if_pos rfl]
    have e5 : opE 3 n = ofE n := by unfold opE; rw [if_pos rfl]
    obtain ⟨b1, b2, b3, b4, b5⟩ := of_bd n hn
    rcases of_cases n hn with ⟨h0, ht, hv⟩ | ⟨h2, hk0, hn0⟩
    · have e6 : opK 3 n = 3 := by unfold opK; rw [if_pos rfl, if_pos h0]
      rw [e3, e4, e5, e6, h0]; clear e3 e4 e5 e6
      have C := Lib.hid (ROf n hn hn2)
      rw [h0] at C
      clear h0 ht hv b5
      go_enter Try.func18, Try.ntmps18
      go_wp2_with (go_at_call 10; refine (C.out _).mono ?_; rintro e w' ⟨rfl, rfl⟩)
      refine bodyPost_ret (v := .tuple #[.agg #[.int .i64 3, .int .i64 (ofK n), .int .u64 (ofN n)], .int .i64 0]) ?_ rfl ?_
      · simp [results, Try.results18, go_sem]
      · exact ⟨rfl, by repeat (first | exact Below.refl _ _ | refine Below.drew ?_ | refine below_drewN ?_ _ | refine Below.alloc ?_ (by simp) _ | refine Below.setCell ?_ (by simp) _)⟩
    · have e6 : opK 3 n = 0 := by unfold opK; rw [if_pos rfl, if_neg (by omega)]
      rw [e3, e4, e5, e6, hk0, hn0, h2]; clear e3 e4 e5 e6
      have C := Lib.hid (ROf n hn hn2)
      rw [hk0, hn0, h2] at C
      clear h2 hk0 hn0 b1 b2 b3 b4 b5
      go_enter Try.func18, Try.ntmps18
      go_wp2_with (go_at_call 10; refine (C.out _).mono ?_; rintro e w' ⟨rfl, rfl⟩)
      refine bodyPost_ret (v := .tuple #[.agg #[.int .i64 0, .int .i64 0, .int .u64 0], .int .i64 2]) ?_ rfl ?_
      · simp [results, Try.results18, go_sem]
      · exact ⟨rfl, by repeat (first | exact Below.refl _ _ | refine Below.drew ?_ | refine below_drewN ?_ _ | refine Below.alloc ?_ (by simp) _ | refine Below.setCell ?_ (by simp) _)⟩
  · have h3' : (kd == 3) = false := by rw [beq_eq_false_iff_ne]; exact h3
    have e3 : opR kd n = 0 := by unfold opR; rw [if_neg h3]
    rw [e3]; clear e3
    by_cases ok : kd = 2 ∨ (kd = 1 ∧ n < 4294967296)
    · have e1 : opK kd n = kd := by unfold opK; rw [if_neg h3, if_pos ok]
      have e4 : opN kd n = n := by unfold opN; rw [if_neg h3, if_pos ok]
      have e5 : opE kd n = 0 := by unfold opE; rw [if_neg h3, if_pos ok]
      rw [e1, e4, e5]; clear e1 e4 e5 h3
      rcases ok with rfl | ⟨rfl, hlt⟩
      all_goals
        clear h3'
        go_enter Try.func18, Try.ntmps18
        go_wp2
        refine bodyPost_ret (by simp [results, Try.results18, go_sem]; rfl) rfl ?_
        · exact ⟨rfl, by repeat (first | exact Below.refl _ _ | refine Below.drew ?_ | refine below_drewN ?_ _ | refine Below.alloc ?_ (by simp) _ | refine Below.setCell ?_ (by simp) _)⟩
    · have e1 : opK kd n = 0 := by unfold opK; rw [if_neg h3, if_neg ok]
      have e4 : opN kd n = 0 := by unfold opN; rw [if_neg h3, if_neg ok]
      have e5 : opE kd n = 2 := by unfold opE; rw [if_neg h3, if_neg ok]
      rw [e1, e4, e5]; clear e1 e4 e5 h3
      by_cases h1 : kd = 1
      · subst h1
        have hlt : 4294967296 ≤ n := by omega
        clear ok h3'
        go_enter Try.func18, Try.ntmps18
        go_wp2
        refine bodyPost_ret (v := .tuple #[.agg #[.int .i64 0, .int .i64 0, .int .u64 0], .int .i64 2]) ?_ rfl ?_
        · simp [results, Try.results18, go_sem]
        · exact ⟨rfl, by repeat (first | exact Below.refl _ _ | refine Below.drew ?_ | refine below_drewN ?_ _ | refine Below.alloc ?_ (by simp) _ | refine Below.setCell ?_ (by simp) _)⟩
      · have h1' : (kd != 1) = true := by rw [bne_iff_ne]; omega
        have h2' : (kd != 2) = true := by rw [bne_iff_ne]; omega
        clear ok h1
        go_enter Try.func18, Try.ntmps18
        go_wp2
        refine bodyPost_ret (v := .tuple #[.agg #[.int .i64 0, .int .i64 0, .int .u64 0], .int .i64 2]) ?_ rfl ?_
        · simp [results, Try.results18, go_sem]
        · exact ⟨rfl, by repeat (first | exact Below.refl _ _ | refine Below.drew ?_ | refine below_drewN ?_ _ | refine Below.alloc ?_ (by simp) _ | refine Below.setCell ?_ (by simp) _)⟩
end Go.Proofs.Ytaikfbieoifldaa.A
