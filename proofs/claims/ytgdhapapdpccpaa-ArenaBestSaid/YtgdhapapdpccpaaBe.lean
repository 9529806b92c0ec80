/- arena: the law ArenaBest. -/
import Derived.Test.YtgdhapapdpccpaaKn
import Derived.Test.YtgdhapapdpccpaaVb
namespace Go.Proofs.Ytgdhapapdpccpaa.A
open Go.RowKit Go.Proofs
set_option linter.unusedVariables false
set_option linter.unusedSimpArgs false

set_option maxRecDepth 100000 in
set_option maxHeartbeats 8000000 in
theorem arenaBest (x y z : Int) (w : World) : Calls Try.prog 6 #[.int .i64 x, .int .i64 y, .int .i64 z] w fun e W' => e = .returned (.bool true) ∧ Below w.heap.size w W' := by
  have K := Lib.hid (known20 w w (Below.refl _ _))
  by_cases x0 : 1 ≤ x
  case neg =>
    have q : x < 1 := by omega
    clear x0
    go_enter Try.func6, Try.ntmps6
    go_wp2_with (go_at_call 13; (with_reducible refine (K.out).mono ?_); rintro e W1 ⟨rfl, hB1⟩)
    go_ret
    exact ⟨rfl, hB1⟩
  by_cases x1 : x ≤ 20
  case neg =>
    have q : 20 < x := by omega
    clear x1
    go_enter Try.func6, Try.ntmps6
    go_wp2_with (go_at_call 13; (with_reducible refine (K.out).mono ?_); rintro e W1 ⟨rfl, hB1⟩)
    go_ret
    exact ⟨rfl, hB1⟩
  by_cases y0 : 1 ≤ y
  case neg =>
    have q : y < 1 := by omega
    clear y0
    go_enter Try.func6, Try.ntmps6
    go_wp2_with (go_at_call 13; (with_reducible refine (K.out).mono ?_); rintro e W1 ⟨rfl, hB1⟩)
    go_ret
    exact ⟨rfl, hB1⟩
  by_cases y1 : y ≤ 20
  case neg =>
    have q : 20 < y := by omega
    clear y1
    go_enter Try.func6, Try.ntmps6
    go_wp2_with (go_at_call 13; (with_reducible refine (K.out).mono ?_); rintro e W1 ⟨rfl, hB1⟩)
    go_ret
    exact ⟨rfl, hB1⟩
  by_cases z0 : 1 ≤ z
  case neg =>
    have q : z < 1 := by omega
    clear z0
    go_enter Try.func6, Try.ntmps6
    go_wp2_with (go_at_call 13; (with_reducible refine (K.out).mono ?_); rintro e W1 ⟨rfl, hB1⟩)
    go_ret
    exact ⟨rfl, hB1⟩
  by_cases z1 : z ≤ 20
  case neg =>
    have q : 20 < z := by omega
    clear z1
    go_enter Try.func6, Try.ntmps6
    go_wp2_with (go_at_call 13; (with_reducible refine (K.out).mono ?_); rintro e W1 ⟨rfl, hB1⟩)
    go_ret
    exact ⟨rfl, hB1⟩
  obtain ⟨X, rfl⟩ : ∃ X : Nat, x = X := ⟨x.toNat, by omega⟩
  obtain ⟨Y, rfl⟩ : ∃ Y : Nat, y = Y := ⟨y.toNat, by omega⟩
  obtain ⟨Z, rfl⟩ : ∃ Z : Nat, z = Z := ⟨z.toNat, by omega⟩
  have X0 : 1 ≤ X := by omega
  have X1 : X ≤ 20 := by omega
  have Y0 : 1 ≤ Y := by omega
  have Y1 : Y ≤ 20 := by omega
  have Z0 : 1 ≤ Z := by omega
  have Z1 : Z ≤ 20 := by omega
  obtain ⟨t1, t2, t3, t4⟩ := bb_all X Y Z X1 X0 Y1 Y0 Z1 Z0
  obtain ⟨S, hS⟩ : ∃ S, 99 - X - 1 - Y - 1 - Z - 1 - 1 - 1 = S := ⟨_, rfl⟩
  have S0 : 30 ≤ S := by omega
  rw [hS] at t4
  have f2 := bb_free2 X Y Z S S0
  have k2 := bb_take2 X Y Z S Y0 Y1 S0
  have f1 := bb_free1 X Y Z S
  have f3 := bb_free3 X Y Z S
  have s1 := bb_size1 X Y Z S
  have s3 := bb_size3 X Y Z S
  have KA := Lib.hid (fun W (h : Below w.heap.size w W) => new_at 100 (by decide) w W h)
  have T1 : ∀ p W, At w W p 100 [.free 99] → Calls Try.prog 14 #[.pointer (some ⟨p, 0, none⟩), .int .i64 (X : Int)] W fun e W' => e = .returned (.tuple #[.int .i64 (1), .int .i64 0]) ∧ At w W' p 100 [U X, .free (99 - X - 1)] := fun p W h => by
    have := take_at h (by decide) (X : Int)
    rw [t1] at this
    exact this
  replace T1 := Lib.hid T1
  have T2 : ∀ p W, At w W p 100 [U X, .free (99 - X - 1)] → Calls Try.prog 14 #[.pointer (some ⟨p, 0, none⟩), .int .i64 (Y : Int)] W fun e W' => e = .returned (.tuple #[.int .i64 ((X : Int) + 2), .int .i64 0]) ∧ At w W' p 100 [U X, U Y, .free (99 - X - 1 - Y - 1)] := fun p W h => by
    have := take_at h (by decide) (Y : Int)
    rw [t2] at this
    exact this
  replace T2 := Lib.hid T2
  have T3 : ∀ p W, At w W p 100 [U X, U Y, .free (99 - X - 1 - Y - 1)] → Calls Try.prog 14 #[.pointer (some ⟨p, 0, none⟩), .int .i64 (Z : Int)] W fun e W' => e = .returned (.tuple #[.int .i64 ((X : Int) + (Y : Int) + 3), .int .i64 0]) ∧ At w W' p 100 [U X, U Y, U Z, .free (99 - X - 1 - Y - 1 - Z - 1)] := fun p W h => by
    have := take_at h (by decide) (Z : Int)
    rw [t3] at this
    exact this
  replace T3 := Lib.hid T3
  have T4 : ∀ p W, At w W p 100 [U X, U Y, U Z, .free (99 - X - 1 - Y - 1 - Z - 1)] → Calls Try.prog 14 #[.pointer (some ⟨p, 0, none⟩), .int .i64 1] W fun e W' => e = .returned (.tuple #[.int .i64 ((X : Int) + (Y : Int) + (Z : Int) + 4), .int .i64 0]) ∧ At w W' p 100 (B5 S (U X) (U Y) (U Z)) := fun p W h => by
    have := take_at h (by decide) 1
    rw [t4] at this
    exact this
  replace T4 := Lib.hid T4
  have T5 : ∀ p W, At w W p 100 (B5 S (U X) (U Y) (U Z)) → Calls Try.prog 17 #[.pointer (some ⟨p, 0, none⟩), .int .i64 ((X : Int) + 2)] W fun e W' => e = .returned (.int .i64 0) ∧ At w W' p 100 (B5 S (U X) (.free Y) (U Z)) := fun p W h => by
    have := free_at h ((X : Int) + 2)
    rw [f2] at this
    exact this
  replace T5 := Lib.hid T5
  have T6 : ∀ p W, At w W p 100 (B5 S (U X) (.free Y) (U Z)) → Calls Try.prog 14 #[.pointer (some ⟨p, 0, none⟩), .int .i64 (Y : Int)] W fun e W' => e = .returned (.tuple #[.int .i64 ((X : Int) + 2), .int .i64 0]) ∧ At w W' p 100 (B5 S (U X) (U Y) (U Z)) := fun p W h => by
    have := take_at h (by decide) (Y : Int)
    rw [k2] at this
    exact this
  replace T6 := Lib.hid T6
  have T7 : ∀ p W, At w W p 100 (B5 S (U X) (U Y) (U Z)) → Calls Try.prog 17 #[.pointer (some ⟨p, 0, none⟩), .int .i64 (1)] W fun e W' => e = .returned (.int .i64 0) ∧ At w W' p 100 (B5 S (.free X) (U Y) (U Z)) := fun p W h => by
    have := free_at h (1)
    rw [f1] at this
    exact this
  replace T7 := Lib.hid T7
  have T8 : ∀ p W, At w W p 100 (B5 S (.free X) (U Y) (U Z)) → Calls Try.prog 17 #[.pointer (some ⟨p, 0, none⟩), .int .i64 ((X : Int) + (Y : Int) + 3)] W fun e W' => e = .returned (.int .i64 0) ∧ At w W' p 100 (B5 S (.free X) (U Y) (.free Z)) := fun p W h => by
    have := free_at h ((X : Int) + (Y : Int) + 3)
    rw [f3] at this
    exact this
  replace T8 := Lib.hid T8
  have ONE : ∀ (n : Nat), 1 ≤ n → n ≤ 20 → ∀ W, (∀ W', Below W.heap.size W W' → Calls Try.prog 32 #[.int .i64 ((n : Int) + 2)] W' fun e W'' => ∃ p, e = .returned (.pointer (some ⟨p, 0, none⟩)) ∧ At W W'' p (n + 2) [.free (n + 1)]) ∧
      (∀ p W', At W W' p (n + 2) [.free (n + 1)] → Calls Try.prog 14 #[.pointer (some ⟨p, 0, none⟩), .int .i64 n] W' fun e W'' => e = .returned (.tuple #[.int .i64 1, .int .i64 0]) ∧ At W W'' p (n + 2) [U (n + 1)]) ∧
      (∀ p W', At W W' p (n + 2) [U (n + 1)] → Calls Try.prog 19 #[.pointer (some ⟨p, 0, none⟩), .int .i64 1] W' fun e W'' => e = .returned (.int .i64 ((n : Int) + 1)) ∧ W' = W'') := fun n n0 n1 W => by
    obtain ⟨o1, o2⟩ := bb_one n n0
    refine ⟨fun W' hb => ?_, fun p W' h => ?_, fun p W' h => ?_⟩
    · have := new_at ((n : Int) + 2) (by omega) W W' hb
      rw [show ((n : Int) + 2).toNat = n + 2 by omega, show newR (n + 2) = [.free (n + 1)] by unfold newR; rw [if_neg (by omega)]; rfl] at this
      exact this
    · have := take_at h (by omega) n
      rw [o1] at this
      exact this
    · have := sizeM_at h 1
      rw [o2] at this
      exact this.mono (fun e W'' q => ⟨q.1, q.2.symm⟩)
  replace ONE := Lib.hid ONE
  have SZ1 : ∀ p W, At w W p 100 (B5 S (U X) (U Y) (U Z)) → Calls Try.prog 19 #[.pointer (some ⟨p, 0, none⟩), .int .i64 1] W fun e W' => e = .returned (.int .i64 (X : Int)) ∧ W = W' := fun p W h => by
    have := sizeM_at h 1
    rw [s1] at this
    exact this.mono (fun e W'' q => ⟨q.1, q.2.symm⟩)
  have SZ3 : ∀ p W, At w W p 100 (B5 S (U X) (U Y) (U Z)) → Calls Try.prog 19 #[.pointer (some ⟨p, 0, none⟩), .int .i64 ((X : Int) + (Y : Int) + 3)] W fun e W' => e = .returned (.int .i64 (Z : Int)) ∧ W = W' := fun p W h => by
    have := sizeM_at h ((X : Int) + (Y : Int) + 3)
    rw [s3] at this
    exact this.mono (fun e W'' q => ⟨q.1, q.2.symm⟩)
  replace SZ1 := Lib.hid SZ1
  replace SZ3 := Lib.hid SZ3
  have hbs := bb_small X Y Z S
  have hbb := bb_big X Y Z S X0 X1 S0
  have hbf := bb_first X Y Z S X0
  have hbt := bb_second X Y Z S Z0 Z1 S0
  replace hbs := Lib.hid hbs
  replace hbb := Lib.hid hbb
  replace hbf := Lib.hid hbf
  replace hbt := Lib.hid hbt
  have XS := Lib.hid (And.intro X0 (And.intro X1 (And.intro Z0 (And.intro Z1 S0))))
  clear t1 t2 t3 t4 f2 k2 f1 f3 s1 s3 hS X0 X1 Y0 Y1 Z0 Z1 S0
  by_cases hzx : Z < X
  case pos =>
    have U1 : ∀ p W, At w W p 100 (B5 S (.free X) (U Y) (.free Z)) → Calls Try.prog 14 #[.pointer (some ⟨p, 0, none⟩), .int .i64 (Z : Int)] W fun e W' => e = .returned (.tuple #[.int .i64 ((X : Int) + (Y : Int) + 3), .int .i64 0]) ∧ At w W' p 100 (B5 S (.free X) (U Y) (U Z)) := fun p W h => by
      have := take_at h (by decide) (Z : Int)
      rw [hbs.out (XS.out.2.2.1) hzx (XS.out.2.1) (XS.out.2.2.2.2)] at this
      exact this
    have U2 : ∀ p W, At w W p 100 (B5 S (.free X) (U Y) (U Z)) → Calls Try.prog 14 #[.pointer (some ⟨p, 0, none⟩), .int .i64 (X : Int)] W fun e W' => e = .returned (.tuple #[.int .i64 1, .int .i64 0]) ∧ At w W' p 100 (B5 S (U X) (U Y) (U Z)) := fun p W h => by
      have := take_at h (by decide) (X : Int)
      rw [hbb.out] at this
      exact this
    have m1 : min (X : Int) (Z : Int) = (Z : Int) := by omega
    have m2 : max (X : Int) (Z : Int) = (X : Int) := by omega
    have c1 : (Z : Int) < (X : Int) := by omega
    replace U1 := Lib.hid U1
    replace U2 := Lib.hid U2
    have n0 : 1 ≤ Z := XS.out.2.2.1
    have n1 : Z ≤ 20 := XS.out.2.2.2.1
    have n1' : (Z : Int) ≤ 20 := by omega
    have hzx' := Lib.hid hzx
    clear hzx hbs hbb hbf hbt XS
    go_enter Try.func6, Try.ntmps6
    go_wp2_with (go_at_call 13; (with_reducible refine (K.out).mono ?_); rintro e W1 ⟨rfl, hB1⟩)
    go_wp2_with (go_at_call 32; (with_reducible refine (KA.out _ hB1).mono ?_); clear KA hB1; rintro e V0 ⟨p, rfl, A0⟩)
    have B0 : Hid (At w V0 p 100 [.free 99]) := Lib.hid A0
    clear A0 K
    have C1 := Lib.hid (T1.out p V0 B0.out)
    clear T1 B0
    go_wp2_with (go_at_call 14; (with_reducible refine (C1.out).mono ?_); clear C1; rintro e V1 ⟨rfl, A1⟩)
    have B1 := Lib.hid A1
    clear A1
    have C2 := Lib.hid (T2.out p V1 B1.out)
    clear T2 B1
    go_wp2_with (go_at_call 14; (with_reducible refine (C2.out).mono ?_); clear C2; rintro e V2 ⟨rfl, A2⟩)
    have B2 := Lib.hid A2
    clear A2
    have C3 := Lib.hid (T3.out p V2 B2.out)
    clear T3 B2
    go_wp2_with (go_at_call 14; (with_reducible refine (C3.out).mono ?_); clear C3; rintro e V3 ⟨rfl, A3⟩)
    have B3 := Lib.hid A3
    clear A3
    have C4 := Lib.hid (T4.out p V3 B3.out)
    clear T4 B3
    go_wp2_with (go_at_call 14; (with_reducible refine (C4.out).mono ?_); clear C4; rintro e V4 ⟨rfl, A4⟩)
    have B4 := Lib.hid A4
    clear A4
    have C5 := Lib.hid (T5.out p V4 B4.out)
    clear T5 B4
    go_wp2_with (go_at_call 17; (with_reducible refine (C5.out).mono ?_); clear C5; rintro e V5 ⟨rfl, A5⟩)
    have B5 := Lib.hid A5
    clear A5
    have C6 := Lib.hid (T6.out p V5 B5.out)
    clear T6 B5
    go_wp2_with (go_at_call 14; (with_reducible refine (C6.out).mono ?_); clear C6; rintro e V6 ⟨rfl, A6⟩)
    have B6 := Lib.hid A6
    clear A6
    have C7 := Lib.hid (T7.out p V6 B6.out)
    clear T7 B6
    go_wp2_with (go_at_call 17; (with_reducible refine (C7.out).mono ?_); clear C7; rintro e V7 ⟨rfl, A7⟩)
    have B7 := Lib.hid A7
    clear A7
    have C8 := Lib.hid (T8.out p V7 B7.out)
    clear T8 B7
    go_wp2_with (go_at_call 17; (with_reducible refine (C8.out).mono ?_); clear C8; rintro e V8 ⟨rfl, A8⟩)
    have B8 := Lib.hid A8
    clear A8
    have C9 := Lib.hid (U1.out p V8 B8.out)
    clear U1 B8
    go_wp2_with (go_at_call 14; (with_reducible refine (C9.out).mono ?_); clear C9; rintro e V9 ⟨rfl, A9⟩)
    have B9 := Lib.hid A9
    clear A9
    have C10 := Lib.hid (U2.out p V9 B9.out)
    clear U2 B9
    by_cases h1 : 1 < Z
    · have h1' : 1 < (Z : Int) := by omega
      go_wp2_with (go_at_call 14; (with_reducible refine (C10.out).mono ?_); clear C10; rintro e V10 ⟨rfl, A10⟩)
      have B10 := Lib.hid A10
      clear A10
      obtain ⟨O1, O2, O3⟩ := ONE.out Z n0 n1 V10
      have P1 := Lib.hid (O1 V10 (Below.refl _ _))
      have P2 := Lib.hid O2
      have P3 := Lib.hid O3
      clear O1 O2 O3 ONE h1 n0 n1
      go_wp2_with (go_at_call 32; (with_reducible refine (P1.out).mono ?_); clear P1; rintro e Q1 ⟨pw, rfl, A1⟩)
      have D1 := Lib.hid (P2.out pw Q1 A1)
      clear P2 A1
      go_wp2_with (go_at_call 14; (with_reducible refine (D1.out).mono ?_); clear D1; rintro e Q2 ⟨rfl, A2⟩)
      have D2 := Lib.hid (P3.out pw Q2 A2)
      have E2 := Lib.hid (SZ3.out p Q2 (B10.out.read A2.below))
      have R2 := Lib.hid (B10.out.read A2.below)
      clear P3 A2 SZ1 SZ3 B10
      go_wp2_with (go_at_call 19; (with_reducible refine (D2.out).mono ?_); clear D2; rintro e Q3 ⟨rfl, rfl⟩)
      go_wp2_with (go_at_call 19; (with_reducible refine (E2.out).mono ?_); clear E2; rintro e Q3 ⟨rfl, rfl⟩)
      go_ret
      exact ⟨rfl, R2.out.below⟩
    · have h1' : decide ((Z : Int) > 1) = false := decide_eq_false (by omega)
      go_wp2_with (go_at_call 14; (with_reducible refine (C10.out).mono ?_); clear C10; rintro e V10 ⟨rfl, A10⟩)
      have B10 := Lib.hid A10
      clear A10
      have E2 := Lib.hid (SZ3.out p V10 B10.out)
      clear ONE h1 SZ1 SZ3 n0 n1
      go_wp2_with (go_at_call 19; (with_reducible refine (E2.out).mono ?_); clear E2; rintro e Q3 ⟨rfl, rfl⟩)
      go_ret
      exact ⟨rfl, B10.out.below⟩
  case neg =>
    have U1 : ∀ p W, At w W p 100 (B5 S (.free X) (U Y) (.free Z)) → Calls Try.prog 14 #[.pointer (some ⟨p, 0, none⟩), .int .i64 (X : Int)] W fun e W' => e = .returned (.tuple #[.int .i64 1, .int .i64 0]) ∧ At w W' p 100 (B5 S (U X) (U Y) (.free Z)) := fun p W h => by
      have := take_at h (by decide) (X : Int)
      rw [hbf.out (by omega) (XS.out.2.1) (XS.out.2.2.2.2)] at this
      exact this
    have U2 : ∀ p W, At w W p 100 (B5 S (U X) (U Y) (.free Z)) → Calls Try.prog 14 #[.pointer (some ⟨p, 0, none⟩), .int .i64 (Z : Int)] W fun e W' => e = .returned (.tuple #[.int .i64 ((X : Int) + (Y : Int) + 3), .int .i64 0]) ∧ At w W' p 100 (B5 S (U X) (U Y) (U Z)) := fun p W h => by
      have := take_at h (by decide) (Z : Int)
      rw [hbt.out] at this
      exact this
    have m1 : min (X : Int) (Z : Int) = (X : Int) := by omega
    have m2 : max (X : Int) (Z : Int) = (Z : Int) := by omega
    have c1 : decide ((Z : Int) < (X : Int)) = false := decide_eq_false (by omega)
    replace U1 := Lib.hid U1
    replace U2 := Lib.hid U2
    have n0 : 1 ≤ X := XS.out.1
    have n1 : X ≤ 20 := XS.out.2.1
    have n1' : (X : Int) ≤ 20 := by omega
    have hzx' := Lib.hid hzx
    clear hzx hbs hbb hbf hbt XS
    go_enter Try.func6, Try.ntmps6
    go_wp2_with (go_at_call 13; (with_reducible refine (K.out).mono ?_); rintro e W1 ⟨rfl, hB1⟩)
    go_wp2_with (go_at_call 32; (with_reducible refine (KA.out _ hB1).mono ?_); clear KA hB1; rintro e V0 ⟨p, rfl, A0⟩)
    have B0 : Hid (At w V0 p 100 [.free 99]) := Lib.hid A0
    clear A0 K
    have C1 := Lib.hid (T1.out p V0 B0.out)
    clear T1 B0
    go_wp2_with (go_at_call 14; (with_reducible refine (C1.out).mono ?_); clear C1; rintro e V1 ⟨rfl, A1⟩)
    have B1 := Lib.hid A1
    clear A1
    have C2 := Lib.hid (T2.out p V1 B1.out)
    clear T2 B1
    go_wp2_with (go_at_call 14; (with_reducible refine (C2.out).mono ?_); clear C2; rintro e V2 ⟨rfl, A2⟩)
    have B2 := Lib.hid A2
    clear A2
    have C3 := Lib.hid (T3.out p V2 B2.out)
    clear T3 B2
    go_wp2_with (go_at_call 14; (with_reducible refine (C3.out).mono ?_); clear C3; rintro e V3 ⟨rfl, A3⟩)
    have B3 := Lib.hid A3
    clear A3
    have C4 := Lib.hid (T4.out p V3 B3.out)
    clear T4 B3
    go_wp2_with (go_at_call 14; (with_reducible refine (C4.out).mono ?_); clear C4; rintro e V4 ⟨rfl, A4⟩)
    have B4 := Lib.hid A4
    clear A4
    have C5 := Lib.hid (T5.out p V4 B4.out)
    clear T5 B4
    go_wp2_with (go_at_call 17; (with_reducible refine (C5.out).mono ?_); clear C5; rintro e V5 ⟨rfl, A5⟩)
    have B5 := Lib.hid A5
    clear A5
    have C6 := Lib.hid (T6.out p V5 B5.out)
    clear T6 B5
    go_wp2_with (go_at_call 14; (with_reducible refine (C6.out).mono ?_); clear C6; rintro e V6 ⟨rfl, A6⟩)
    have B6 := Lib.hid A6
    clear A6
    have C7 := Lib.hid (T7.out p V6 B6.out)
    clear T7 B6
    go_wp2_with (go_at_call 17; (with_reducible refine (C7.out).mono ?_); clear C7; rintro e V7 ⟨rfl, A7⟩)
    have B7 := Lib.hid A7
    clear A7
    have C8 := Lib.hid (T8.out p V7 B7.out)
    clear T8 B7
    go_wp2_with (go_at_call 17; (with_reducible refine (C8.out).mono ?_); clear C8; rintro e V8 ⟨rfl, A8⟩)
    have B8 := Lib.hid A8
    clear A8
    have C9 := Lib.hid (U1.out p V8 B8.out)
    clear U1 B8
    go_wp2_with (go_at_call 14; (with_reducible refine (C9.out).mono ?_); clear C9; rintro e V9 ⟨rfl, A9⟩)
    have B9 := Lib.hid A9
    clear A9
    have C10 := Lib.hid (U2.out p V9 B9.out)
    clear U2 B9
    by_cases h1 : 1 < X
    · have h1' : 1 < (X : Int) := by omega
      go_wp2_with (go_at_call 14; (with_reducible refine (C10.out).mono ?_); clear C10; rintro e V10 ⟨rfl, A10⟩)
      have B10 := Lib.hid A10
      clear A10
      obtain ⟨O1, O2, O3⟩ := ONE.out X n0 n1 V10
      have P1 := Lib.hid (O1 V10 (Below.refl _ _))
      have P2 := Lib.hid O2
      have P3 := Lib.hid O3
      clear O1 O2 O3 ONE h1 n0 n1
      go_wp2_with (go_at_call 32; (with_reducible refine (P1.out).mono ?_); clear P1; rintro e Q1 ⟨pw, rfl, A1⟩)
      have D1 := Lib.hid (P2.out pw Q1 A1)
      clear P2 A1
      go_wp2_with (go_at_call 14; (with_reducible refine (D1.out).mono ?_); clear D1; rintro e Q2 ⟨rfl, A2⟩)
      have D2 := Lib.hid (P3.out pw Q2 A2)
      have E2 := Lib.hid (SZ1.out p Q2 (B10.out.read A2.below))
      have R2 := Lib.hid (B10.out.read A2.below)
      clear P3 A2 SZ1 SZ3 B10
      go_wp2_with (go_at_call 19; (with_reducible refine (D2.out).mono ?_); clear D2; rintro e Q3 ⟨rfl, rfl⟩)
      go_wp2_with (go_at_call 19; (with_reducible refine (E2.out).mono ?_); clear E2; rintro e Q3 ⟨rfl, rfl⟩)
      go_ret
      exact ⟨rfl, R2.out.below⟩
    · have h1' : decide ((X : Int) > 1) = false := decide_eq_false (by omega)
      go_wp2_with (go_at_call 14; (with_reducible refine (C10.out).mono ?_); clear C10; rintro e V10 ⟨rfl, A10⟩)
      have B10 := Lib.hid A10
      clear A10
      have E2 := Lib.hid (SZ1.out p V10 B10.out)
      clear ONE h1 SZ1 SZ3 n0 n1
      go_wp2_with (go_at_call 19; (with_reducible refine (E2.out).mono ?_); clear E2; rintro e Q3 ⟨rfl, rfl⟩)
      go_ret
      exact ⟨rfl, B10.out.below⟩
end Go.Proofs.Ytgdhapapdpccpaa.A
