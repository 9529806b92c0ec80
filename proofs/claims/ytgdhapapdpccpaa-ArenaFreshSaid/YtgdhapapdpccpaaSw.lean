/- arena: Sweep, of an arena as a row of blocks. -/
import Derived.Test.YtgdhapapdpccpaaQ
namespace Go.Proofs.Ytgdhapapdpccpaa.A
open Go.RowKit Go.Proofs
set_option linter.unusedVariables false
set_option linter.unusedSimpArgs false

theorem Own.bd {w : World} {p : Nat} {F : Nat → Prop} {N : Nat} {bs : List Blk} (h : Own w p F N bs) : N ≤ 1048576 ∧ (bs ≠ [] → spanB bs = N) ∧ usedB bs ≤ N ∧ Good bs ∧ (bs = [] → N ≤ 1) := by
  obtain ⟨⟨A, rfl, R, I, hF⟩, lt⟩ := h
  have h1 := R.sz
  have h2 := I.len
  refine ⟨by omega, I.spanN, ?_, I.good, I.tiny⟩
  by_cases hb : bs = []
  · subst hb; simp [usedB]
  · have := usedB_le bs; have := I.spanN hb; omega
theorem Own.c0 {w : World} {p : Nat} {F : Nat → Prop} {N : Nat} {bs : List Blk} (h : Own w p F N bs) : ∃ pw : Nat, w.cell? ⟨p, 0, none⟩ = some (.slice (some ⟨pw, 0, none⟩) N N) := by
  obtain ⟨⟨A, rfl, R, I, hF⟩, lt⟩ := h
  have c0 := R.c0
  rw [I.len] at c0
  exact ⟨A.pw, c0⟩
theorem Own.c1 {w : World} {p : Nat} {F : Nat → Prop} {N : Nat} {bs : List Blk} (h : Own w p F N bs) : w.cell? ⟨p, 1, none⟩ = some (.int .i64 (usedB bs)) := by
  obtain ⟨⟨A, rfl, R, I, hF⟩, lt⟩ := h
  have c1 := R.c1
  rw [I.us] at c1
  exact c1
theorem head_free {w : World} {p : Nat} {F : Nat → Prop} {N : Nat} {d r : List Blk} {n : Nat} (h : Own w p F N (d ++ .free n :: r)) (q : Int) (hq : q = 1 + spanB d) :
    ∃ pw : Nat, w.cell? ⟨p, 0, none⟩ = some (.slice (some ⟨pw, 0, none⟩) N N) ∧ w.cell? ⟨pw, q.toNat - 1, none⟩ = some (.int .u64 (n * 4)) := by
  obtain ⟨⟨A, rfl, R, I, hF⟩, lt⟩ := h
  obtain ⟨rpre, x, rpost, k1, k2, k3, k4, k5, k6, k7⟩ := I.spot
  have c0 := R.c0
  simp only [Blk.sz] at k7
  have cw := R.cw (q.toNat - 1) (by omega)
  rw [k1.head _ (by omega), k3.1.1, k3.2] at cw
  rw [I.len] at c0
  exact ⟨A.pw, c0, cw⟩
theorem sweep_freed {d r pre' X post' : List Blk} {n k : Nat} (h : Freed d n r pre' X post' k) : sweepGo (snocF d n) r = sweepGo (pre' ++ [.free k]) post' := by
  obtain ⟨P, rfl, rfl, hX, hP, hL, hH, _, rfl, _⟩ := h
  have e : snocF (pre' ++ P) n = pre' ++ [.free (spanB P + n)] := by
    rcases hP with rfl | ⟨j, rfl⟩
    · rw [List.append_nil, snocF_used hL]; simp [spanB]
    · rw [snocF_free]
      simp only [spanB, Blk.sz]
      rw [show j + n + 1 = j + 1 + 0 + n by omega]
  rw [e]
  rcases hX with rfl | ⟨j, rfl⟩
  · simp [spanB]
  · simp only [List.cons_append, List.nil_append, sweepGo, spanB, Blk.sz]
    rw [snocF_free, show spanB P + n + j + 1 = spanB P + n + (j + 1 + 0) by omega]
theorem sweep_nil (w : World) : Calls Try.prog 22 #[.pointer none] w fun e w' => e = .returned (.int .i64 0) ∧ w' = w := by
  go_enter Try.func22, Try.ntmps22
  go_wp2
  go_ret
  exact ⟨rfl, rfl⟩
theorem sub_num (a b : Nat) (h : a ≤ 1048576) (h1 : b ≤ 1048576) : IntKind.i64.wrap ((a : Int) - (b : Int)) = (a : Int) - (b : Int) ∧ wrap64 ((a : Int) - (b : Int)) = (a : Int) - (b : Int) :=
  ⟨i64w _ (by omega) (by omega), w64 _ (by omega) (by omega)⟩
set_option maxRecDepth 100000 in
set_option maxHeartbeats 1000000 in
theorem sweep_own {w : World} {p : Nat} {F : Nat → Prop} {N : Nat} {bs : List Blk} (h : Own w p F N bs) :
    Calls Try.prog 22 #[.pointer (some ⟨p, 0, none⟩)] w fun e w' => e = .returned (.int .i64 ((usedB bs : Int) - usedB (sweepR bs))) ∧ ∃ F', Own w' p F' N (sweepR bs) ∧ Mv w F w' F' := by
  have c1 := h.c1
  have B0 := Lib.hid h.bd
  have hu : usedB bs ≤ 1048576 := by have := h.bd; omega
  have H := Lib.hid h
  clear h
  go_enter Try.func22, Try.ntmps22
  go_wp2_with fail
  clear c1
  go_loopg [4, 5] (spanB bs + 1) (fun gk v4 v5 wr => ∃ (d r : List Blk) (ahead q : Int) (F' : Nat → Prop), v4 = .int .i64 ahead ∧ v5 = .int .i64 q ∧ q = 1 + spanB d ∧ AheadOf d ahead ∧ Own wr p F' N (d ++ r) ∧ Mv w F wr F' ∧ sweepGo d r = sweepR bs ∧ spanB r < gk)
  case atStart => exact ⟨[], bs, 0, 1, F, rfl, rfl, rfl, .inl ⟨rfl, rfl⟩, H.out, Mv.refl _ _, rfl, by omega⟩
  case round =>
    obtain ⟨d, r, ahead, q, F', rfl, rfl, hq, hah, O, M, hsp, hgk⟩ := hrel
    obtain ⟨b1, b2, b3, b4, b5⟩ := O.bd
    cases r with
    | nil =>
      rw [List.append_nil] at O b2 b5
      have hsp' : d = sweepR bs := hsp
      subst hsp'
      obtain ⟨pw, c0⟩ := O.c0
      have c1 := O.c1
      have b3' : usedB (sweepR bs) ≤ N := by simpa using b3
      obtain ⟨k1, k2⟩ := sub_num (usedB bs) (usedB (sweepR bs)) hu (by omega)
      have T : Hid (∃ F', Own wr p F' N (sweepR bs) ∧ Mv w F wr F') := Lib.hid ⟨F', O, M⟩
      by_cases hN : N ≤ 1
      · have q2 : decide ((N : Int) > 1) = false := decide_eq_false (by omega)
        by_cases hqN : q ≤ N
        · clear hq hah O M hsp hgk b1 b2 b3 b4 b5 b3' hN
          go_wp2_with fail
          go_ret
          exact ⟨rfl, T.out⟩
        · have q1 : decide (q ≤ (N : Int)) = false := decide_eq_false hqN
          clear hq hah O M hsp hgk b1 b2 b3 b4 b5 b3' hN hqN
          go_wp2_with fail
          go_ret
          exact ⟨rfl, T.out⟩
      · have hqN : ¬ q ≤ N := by
          have : sweepR bs ≠ [] := fun e => hN (b5 e)
          have := b2 this
          omega
        have q1 : decide (q ≤ (N : Int)) = false := decide_eq_false hqN
        clear hq hah O M hsp hgk b1 b2 b3 b4 b5 b3' hN hqN
        go_wp2_with fail
        go_ret
        exact ⟨rfl, T.out⟩
    | cons b r =>
      have hs := b2 (by simp)
      rw [spanB_append] at hs
      simp only [spanB] at hs hgk
      have hsz := b4.parts.2.1
      have q1 : q ≤ (N : Int) := by omega
      have q2 : 1 < (N : Int) := by omega
      have q3 : 0 ≤ q - 1 := by omega
      have q4 : q - 1 < (N : Int) := by omega
      have KQ := Lib.hid (next_num' q (by omega) (by omega))
      cases b with
      | free n =>
        obtain ⟨pw, c0, cw⟩ := head_free O q hq
        simp only [Blk.sz] at hs hgk hsz
        have B : bits .and .u64 ((n : Int) * 4) 3 = 0 := by rw [and3 _ (by omega) (by omega)]; omega
        have S := size_own O q hq
        simp only [Blk.sz] at S
        replace S := Lib.hid S
        have KF := Lib.hid (free_num q n (by omega) (by omega))
        have hL := (NoAdj.free_parts b4.1).2.2.1
        rw [show sweepGo d (.free n :: r) = sweepGo (snocF d n) r from rfl, snocF_used hL] at hsp
        have T : Hid (∃ F', q + (n + 1) = 1 + spanB (d ++ [.free n]) ∧ AheadOf (d ++ [.free n]) q ∧ Own wr p F' N ((d ++ [.free n]) ++ r) ∧ Mv w F wr F' ∧ sweepGo (d ++ [.free n]) r = sweepR bs) := Lib.hid ⟨F', by rw [spanB_append]; simp only [spanB, Blk.sz]; omega, .inr ⟨d, _, rfl, hq⟩, by simpa using O, M, hsp⟩
        have hgk' : spanB r + 1 < gk + 0 := by omega
        clear hq hah O M hsp hgk b1 b2 b3 b4 b5 hs hsz hL
        obtain ⟨k1, k2⟩ := KQ.out
        obtain ⟨k3, k4, k5, k6⟩ := KF.out
        clear KQ KF
        generalize (n : Int) = L at *
        go_wp2_with (go_at_call 52; (with_reducible refine (S.out).mono ?_); rintro e w' ⟨rfl, rfl⟩)
        go_roundg (spanB r + 1)
        case measure => exact hgk'
        case rel =>
          obtain ⟨F2, t1, t2, t3, t4, t5⟩ := T.out
          exact ⟨_, r, q, _, F2, rfl, rfl, t1, t2, t3, t4, t5, Nat.lt_succ_self _⟩
      | used m ws =>
        have hat : at? q 1 (d ++ .used m ws :: r) = some (m, ws) := by rw [hq]; exact at_mid ..
        obtain ⟨pw, c0, cw, z, _, _, _, HO⟩ := head_own O hat
        simp only [Blk.sz] at hs hgk hsz
        cases m with
        | true =>
          simp only [if_true] at cw
          have B : bits .and .u64 ((ws.length : Int) * 4 + 1 + 2) 3 = 3 := by rw [and3 _ (by omega) (by omega)]; omega
          have C : bits .andNot .u64 ((ws.length : Int) * 4 + 1 + 2) 2 = (ws.length : Int) * 4 + 1 := by
            have := andNot2 ws.length (by omega)
            rw [show (ws.length : Int) * 4 + 1 + 2 = (ws.length : Int) * 4 + 3 by omega]
            exact this
          obtain ⟨F2, O2, M2⟩ := HO false
          simp only [Bool.false_eq_true, if_false, Int.add_zero] at O2 M2
          rw [show put? q (.used false ws) 1 (d ++ .used true ws :: r) = d ++ .used false ws :: r by rw [hq]; exact put_mid ..] at O2
          have S := Lib.hid (size_own O2 q hq)
          simp only [Blk.sz] at S
          have KF := Lib.hid (free_num q ws.length (by omega) (by omega))
          rw [show sweepGo d (.used true ws :: r) = sweepGo (d ++ [.used false ws]) r from rfl] at hsp
          have T := Lib.hid (And.intro (show q + (ws.length + 1) = 1 + spanB (d ++ [.used false ws]) by rw [spanB_append]; simp only [spanB, Blk.sz]; omega) (And.intro (show AheadOf (d ++ [.used false ws]) q from .inr ⟨d, _, rfl, hq⟩) (And.intro (show Own _ p F2 N ((d ++ [.used false ws]) ++ r) by simpa using O2) (And.intro (M.trans M2) hsp))))
          have hgk' : spanB r + 1 < gk + 0 := by omega
          clear hq hah O M hsp hgk b1 b2 b3 b4 b5 hs hsz HO O2 M2 hat
          obtain ⟨k1, k2⟩ := KQ.out
          obtain ⟨k3, k4, k5, k6⟩ := KF.out
          clear KQ KF
          generalize (ws.length : Int) = L at *
          go_wp2_with (go_at_call 52; (with_reducible refine (S.out).mono ?_); rintro e w' ⟨rfl, rfl⟩)
          go_roundg (spanB r + 1)
          case measure => exact hgk'
          case rel =>
            obtain ⟨t1, t2, t3, t4, t5⟩ := T.out
            exact ⟨_, r, q, _, F2, rfl, rfl, t1, t2, t3, t4, t5, Nat.lt_succ_self _⟩
        | false =>
          simp only [Bool.false_eq_true, if_false, Int.add_zero] at cw
          have B : bits .and .u64 ((ws.length : Int) * 4 + 1) 3 = 1 := by rw [and3 _ (by omega) (by omega)]; omega
          rw [show sweepGo d (.used false ws :: r) = sweepGo (snocF d ws.length) r from rfl] at hsp
          have RL : Hid (Calls Try.prog 59 #[.pointer (some ⟨p, 0, none⟩), .int .i64 q, .int .i64 ahead] wr fun e w' => ∃ (q' : Int) (k : Nat), e = .returned (.int .i64 q') ∧
              (Calls Try.prog 52 #[.pointer (some ⟨p, 0, none⟩), .int .i64 q'] w' fun e w'' => e = .returned (.int .i64 k) ∧ w'' = w') ∧ (0 ≤ q' ∧ q' + k + 1 ≤ 4194304) ∧
              ∃ (d' r' : List Blk) (F2 : Nat → Prop), q' + (k + 1) = 1 + spanB d' ∧ AheadOf d' q' ∧ Own w' p F2 N (d' ++ r') ∧ Mv w F w' F2 ∧ sweepGo d' r' = sweepR bs ∧ spanB r' ≤ spanB r) := Lib.hid (by
            refine (release_own O q ahead hq hah).mono ?_
            rintro e w' ⟨pre', X, post', k, fr, rfl, F2, O2, M2⟩
            have e1 := sweep_freed fr
            obtain ⟨P, rfl, rfl, _⟩ := fr
            have S := size_own O2 _ rfl
            have bd := O2.bd.2.1 (by simp)
            have bd2 := O2.bd.1
            rw [spanB_append] at bd
            simp only [spanB, Blk.sz] at bd
            refine ⟨_, k, rfl, S, by omega, pre' ++ [.free k], post', F2, by rw [spanB_append]; simp only [spanB, Blk.sz]; omega, .inr ⟨pre', _, rfl, rfl⟩, by simpa using O2, M.trans M2, by rw [← e1]; exact hsp, by rw [spanB_append]; omega⟩)
          have hgk' : spanB r + 1 < gk + 0 := by omega
          clear hq hah O M hsp hgk b1 b2 b3 b4 b5 hs hsz HO hat
          obtain ⟨k1, k2⟩ := KQ.out
          clear KQ
          generalize (ws.length : Int) = L at *
          go_upto_region 11 with (go_at_call 59; (with_reducible refine (RL.out).mono ?_); rintro e w' ⟨q', k, rfl, S, hb, T⟩)
          obtain ⟨k3, k4, k5, k6⟩ := free_num q' k hb.1 hb.2
          replace S := Lib.hid S
          replace T := Lib.hid T
          clear hb RL
          go_wp2_with (go_at_call 52; (with_reducible refine (S.out).mono ?_); rintro e w' ⟨rfl, rfl⟩)
          obtain ⟨d', r', F2, t1, t2, t3, t4, t5, t6⟩ := T.out
          go_roundg (spanB r + 1)
          case measure => exact hgk'
          case rel => exact ⟨d', r', q', _, F2, rfl, rfl, t1, t2, t3, t4, t5, by omega⟩
end Go.Proofs.Ytgdhapapdpccpaa.A
