/- arena: the law ArenaFresh. -/
import Derived.Test.YtgdhapapdpccpaaKn
import Derived.Test.YtgdhapapdpccpaaVf
namespace Go.Proofs.Ytgdhapapdpccpaa.A
open Go.RowKit Go.Proofs
set_option linter.unusedVariables false
set_option linter.unusedSimpArgs false

theorem At.bd {w0 W : World} {p N : Nat} {bs : List Blk} (h : At w0 W p N bs) : N ≤ 1048576 ∧ (bs ≠ [] → spanB bs = N) ∧ usedB bs ≤ N ∧ Good bs ∧ (bs = [] → N ≤ 1) := by
  obtain ⟨F, O, _, _⟩ := h
  exact O.bd
theorem fr_num (k n K : Nat) (h : k * (n + 1) = K) (hK : K ≤ 300) (hk : k ≤ 300) (hn : n ≤ 40) : IntKind.i64.wrap ((k : Int) * ((n : Int) + 1)) = (K : Int) ∧ wrap64 ((k : Int) * ((n : Int) + 1)) = (K : Int) ∧ (k : Int) * ((n : Int) + 1) = (K : Int) ∧ IntKind.i64.wrap ((k : Int) + 1) = (k : Int) + 1 ∧ wrap64 ((k : Int) + 1) = (k : Int) + 1 := by
  have e : (k : Int) * ((n : Int) + 1) = (K : Int) := by rw [← h]; push_cast; rfl
  rw [e]
  exact ⟨i64w _ (by omega) (by omega), w64 _ (by omega) (by omega), rfl, i64w _ (by omega) (by omega), w64 _ (by omega) (by omega)⟩
theorem fr_div (N n q : Nat) (hq : q = N / (n + 1)) : (N : Int) / ((n : Int) + 1) = (q : Int) ∧ q * (n + 1) ≤ N ∧ N < (q + 1) * (n + 1) := by
  subst hq
  refine ⟨by push_cast; rfl, Nat.div_mul_le_self N (n + 1), ?_⟩
  have h1 := Nat.div_add_mod N (n + 1)
  have h2 := Nat.mod_lt N (show 0 < n + 1 from Nat.succ_pos n)
  rw [Nat.succ_mul, Nat.mul_comm]
  omega
set_option maxRecDepth 100000 in
set_option maxHeartbeats 8000000 in
theorem arenaFresh (words n0 : Int) (odd : Bool) (w : World) : Calls Try.prog 5 #[.int .i64 words, .int .i64 n0, .bool odd] w fun e W' => e = .returned (.bool true) ∧ Below w.heap.size w W' := by
  have K := Lib.hid (known20 w w (Below.refl _ _))
  by_cases x0 : 2 ≤ words
  case neg =>
    have q : words < 2 := by omega
    clear x0
    go_enter Try.func5, Try.ntmps5
    go_wp2_with (go_at_call 13; (with_reducible refine (K.out).mono ?_); rintro e W1 ⟨rfl, hB1⟩)
    go_ret
    exact ⟨rfl, hB1⟩
  by_cases x1 : words ≤ 300
  case neg =>
    have q : 300 < words := by omega
    clear x1
    go_enter Try.func5, Try.ntmps5
    go_wp2_with (go_at_call 13; (with_reducible refine (K.out).mono ?_); rintro e W1 ⟨rfl, hB1⟩)
    go_ret
    exact ⟨rfl, hB1⟩
  by_cases y0 : 1 ≤ n0
  case neg =>
    have q : n0 < 1 := by omega
    clear y0
    go_enter Try.func5, Try.ntmps5
    go_wp2_with (go_at_call 13; (with_reducible refine (K.out).mono ?_); rintro e W1 ⟨rfl, hB1⟩)
    go_ret
    exact ⟨rfl, hB1⟩
  by_cases y1 : n0 ≤ 40
  case neg =>
    have q : 40 < n0 := by omega
    clear y1
    go_enter Try.func5, Try.ntmps5
    go_wp2_with (go_at_call 13; (with_reducible refine (K.out).mono ?_); rintro e W1 ⟨rfl, hB1⟩)
    go_ret
    exact ⟨rfl, hB1⟩
  obtain ⟨N, rfl⟩ : ∃ N : Nat, words = N := ⟨words.toNat, by omega⟩
  obtain ⟨n, rfl⟩ : ∃ n : Nat, n0 = n := ⟨n0.toNat, by omega⟩
  have N0 : 2 ≤ N := by omega
  have N1 : N ≤ 300 := by omega
  have M0 : 1 ≤ n := by omega
  have M1 : n ≤ 40 := by omega
  obtain ⟨q, hq⟩ : ∃ q, q = N / (n + 1) := ⟨_, rfl⟩
  obtain ⟨d1, d2, d3⟩ := fr_div N n q hq
  have q300 : q ≤ 300 := by
    have := Nat.le_mul_of_pos_right q (show 0 < n + 1 from Nat.succ_pos n)
    omega
  have KA := Lib.hid (fun W (h : Below w.heap.size w W) => (show Calls Try.prog 32 #[.int .i64 (N : Int)] W fun e W' => ∃ p, e = .returned (.pointer (some ⟨p, 0, none⟩)) ∧ At w W' p N (fresh N n 0) by
    have := new_at (N : Int) (by omega) w W h
    rw [show (N : Int).toNat = N by omega, ← fresh_zero N n N0] at this
    exact this))
  have NX := Lib.hid (fun k (h : (k + 1) * (n + 1) ≤ N) => And.intro (fresh_next N n k M0 h) (size_fresh N n k M0 h))
  have FU := Lib.hid (fresh_full N n q M0 d2 d3)
  have US := Lib.hid (used_fresh N n q M0 N0 d2 d3)
  have LF := Lib.hid (at_fresh N n q M0 N0 d2 d3)
  have QQ := Lib.hid (And.intro N0 (And.intro N1 (And.intro M0 (And.intro M1 (And.intro q300 (And.intro d2 d3))))))
  have QI := Lib.hid d1
  clear hq d1 d2 d3 N0 N1 M0 M1 q300
  go_enter Try.func5, Try.ntmps5
  go_wp2_with (go_at_call 13; (with_reducible refine (K.out).mono ?_); rintro e W1 ⟨rfl, hB1⟩)
  go_wp2_with (go_at_call 32; (with_reducible refine (KA.out _ hB1).mono ?_); clear KA hB1; rintro e V0 ⟨p, rfl, A0⟩)
  have B0 := Lib.hid A0
  clear A0 K
  go_wp2_with fail
  go_loopg [8] (q + 1) (fun gk v8 wr => ∃ k : Nat, v8 = .int .i64 k ∧ k ≤ q ∧ At w wr p N (fresh N n k) ∧ q - k < gk)
  case atStart => exact ⟨0, rfl, Nat.zero_le _, B0.out, by omega⟩
  case round =>
    clear B0
    obtain ⟨k, rfl, hk, hA, hgk⟩ := hrel
    obtain ⟨N0, N1, M0, M1, q300, d2, d3⟩ := QQ.out
    by_cases hkq : k < q
    · have hle : (k + 1) * (n + 1) ≤ N := Nat.le_trans (Nat.mul_le_mul_right _ hkq) d2
      obtain ⟨tk, sz⟩ := NX.out k hle
      have T := take_at hA (by omega) n
      rw [tk] at T
      have S := fun W (h : At w W p N (fresh N n (k + 1))) => sizeM_at h (1 + ((k * (n + 1) : Nat) : Int))
      have hKN : k * (n + 1) ≤ 300 := by rw [Nat.succ_mul] at hle; omega
      have FN := Lib.hid (fr_num k n _ rfl hKN (by omega) M1)
      have hgk' : q - (k + 1) + 1 < gk + 0 := by omega
      have hKN' : ((k * (n + 1) : Nat) : Int) ≤ 300 := by omega
      generalize k * (n + 1) = KK at *
      generalize sizeR (fresh N n (k + 1)) (1 + (KK : Int)) = ss at *
      dsimp only at T
      replace T := Lib.hid T
      replace S := Lib.hid S
      have hkq' := Lib.hid hkq
      clear tk hA hgk hk NX FU US LF QQ QI N0 N1 M0 q300 d2 d3 hle hKN hkq
      obtain ⟨f1, f2, f3, f4, f5⟩ := FN.out
      clear FN
      rcases sz with rfl | rfl
      · go_wp2_with (first | (go_at_call 14; (with_reducible refine (T.out).mono ?_); clear T; rintro e V1 ⟨rfl, A1⟩; have S1 := Lib.hid (S.out V1 A1); have A1' := Lib.hid A1; clear A1) | (go_at_call 19; (with_reducible refine (S1.out).mono ?_); rintro e V2 ⟨rfl, rfl⟩))
        go_roundg (q - (k + 1) + 1)
        case measure => exact hgk'
        case rel => exact ⟨k + 1, rfl, hkq'.out, A1'.out, Nat.lt_succ_self _⟩
      · go_wp2_with (first | (go_at_call 14; (with_reducible refine (T.out).mono ?_); clear T; rintro e V1 ⟨rfl, A1⟩; have S1 := Lib.hid (S.out V1 A1); have A1' := Lib.hid A1; clear A1) | (go_at_call 19; (with_reducible refine (S1.out).mono ?_); rintro e V2 ⟨rfl, rfl⟩))
        go_roundg (q - (k + 1) + 1)
        case measure => exact hgk'
        case rel => exact ⟨k + 1, rfl, hkq'.out, A1'.out, Nat.lt_succ_self _⟩
    · obtain rfl : k = q := by omega
      have T := take_at hA (by omega) n
      rw [FU.out] at T
      dsimp only at T
      replace T := Lib.hid T
      have UE := Lib.hid (fun W (h : At w W p N (fresh N n k)) => used_at h)
      obtain ⟨u0, u1⟩ := US.out
      have u0' : (usedB (fresh N n k) : Int) ≤ (N : Int) := by omega
      have u1' : (N : Int) - (usedB (fresh N n k) : Int) ≤ (n : Int) + 1 := by omega
      have N1' : (N : Int) ≤ 300 := by omega
      have n1' : (n : Int) ≤ 40 := by omega
      have dd1 : decide (N < usedB (fresh N n k)) = false := decide_eq_false (by omega)
      have dd2 : decide ((n : Int) + 1 < (N : Int) - (usedB (fresh N n k) : Int)) = false := decide_eq_false (by omega)
      generalize usedB (fresh N n k) = uu at *
      have di := QI.out
      have q3' : (k : Int) ≤ 300 := by omega
      replace QQ := Lib.hid (And.intro N0 (And.intro N1 (And.intro M0 (And.intro M1 (And.intro q300 (And.intro d2 d3))))))
      clear hA hgk hk NX FU US u0 u1 u1' N0 N1 M0 M1 q300 d2 d3 QI hkq
      go_wp2_with (first | (go_at_call 14; (with_reducible refine (T.out).mono ?_); clear T; rintro e V1 ⟨rfl, A1⟩; have U1 := Lib.hid (UE.out V1 A1); have A1' := Lib.hid A1; clear A1) | (go_at_call 24; (with_reducible refine (U1.out).mono ?_); rintro e V2 ⟨rfl, rfl⟩))
      clear UE U1 di dd1 dd2 u0'
      have L0 : Left n k (left odd 0 0) (fresh N n k) := fun c => (LF.out c).trans ⟨fun ⟨j, h1, h2⟩ => ⟨j, h1, left_start odd j, h2⟩, fun ⟨j, h1, _, h2⟩ => ⟨j, h1, h2⟩⟩
      have LA := Lib.hid (And.intro A1'.out L0)
      clear L0 LF A1'
      go_loopg [11] 3 (fun gj v11 wr => ∃ (tn : Nat) (bs : List Blk), v11 = .int .i64 tn ∧ tn ≤ 2 ∧ At w wr p N bs ∧ Left n k (left odd tn 0) bs ∧ 2 - tn < gj)
      case atStart => exact ⟨0, _, rfl, by decide, LA.out.1, LA.out.2, by decide⟩
      case round =>
        clear LA
        obtain ⟨tn, bs, rfl, ht, hA, hL, hgj⟩ := hrel
        by_cases ht2 : tn < 2
        · have ht3 : (tn : Int) < 2 := by omega
          have ht4 : tn = 0 ∨ tn = 1 := by omega
          have hgj' : 2 - (tn + 1) + 1 < gk + 0 := by omega
          have hAL := Lib.hid (And.intro hA hL)
          have tq : IntKind.i64.wrap ((tn : Int) + 1) = (tn : Int) + 1 ∧ wrap64 ((tn : Int) + 1) = (tn : Int) + 1 := ⟨i64w _ (by omega) (by omega), w64 _ (by omega) (by omega)⟩
          replace tq := Lib.hid tq
          have ht2' := Lib.hid ht2
          clear hA hL hgj ht ht2
          rcases ht4 with rfl | rfl
          · rw [show ((0 : Nat) : Int) = 0 from rfl]
            rw [show ((0 : Nat) : Int) = 0 from rfl] at tq
            clear ht3
            go_wp2_with fail
            go_loopg [12] (k + 1) (fun gi v12 wi => ∃ (i : Nat) (bs : List Blk), v12 = .int .i64 i ∧ i ≤ k ∧ At w wi p N bs ∧ Left n k (left odd 0 i) bs ∧ k - i < gi)
            case atStart => exact ⟨0, bs, rfl, Nat.zero_le _, hAL.out.1, hAL.out.2, by omega⟩
            case round =>
              clear hAL
              obtain ⟨i, bi, rfl, hi, hAi, hLi, hgi⟩ := hrel
              obtain ⟨N0, N1, M0, M1, q300, d2, d3⟩ := QQ.out
              by_cases hik : i < k
              · have hle : (i + 1) * (n + 1) ≤ N := Nat.le_trans (Nat.mul_le_mul_right _ hik) d2
                have hKN : i * (n + 1) ≤ 300 := by rw [Nat.succ_mul] at hle; omega
                have FN := Lib.hid (fr_num i n _ rfl hKN (by omega) M1)
                have FA := Lib.hid (fun (hs : sel odd 0 i = true) => hLi.free ht2'.out hik hs)
                have FB := Lib.hid (fun (hs : sel odd 0 i = false) => hLi.congr (fun j _ => left_skip odd 0 i j hs))
                have FC := Lib.hid (fun (e : (freeE bi (1 + ((i * (n + 1) : Nat) : Int))).1 = 0) => (show Calls Try.prog 17 #[.pointer (some ⟨p, 0, none⟩), .int .i64 (1 + ((i * (n + 1) : Nat) : Int))] _ fun e W' => e = .returned (.int .i64 0) ∧ At w W' p N (freeE bi (1 + ((i * (n + 1) : Nat) : Int))).2 by
                  have := free_at hAi (1 + ((i * (n + 1) : Nat) : Int))
                  rw [e] at this
                  exact this))
                have hKN' : ((i * (n + 1) : Nat) : Int) ≤ 300 := by omega
                have hgi' : k - (i + 1) + 1 < gk + 0 := by omega
                have hpar : (i : Int) % 2 = 0 ∨ (i : Int) % 2 = 1 := by omega
                have hp0 : (i : Int) % 2 = 0 → i % 2 = 0 := by omega
                have hp1 : (i : Int) % 2 = 1 → i % 2 = 1 := by omega
                have hik' := Lib.hid hik
                have hik2 : (i : Int) < (k : Int) := by omega
                generalize i * (n + 1) = KK at *
                have hB' := Lib.hid hAi
                clear hgi hi hAi hLi N0 N1 M0 M1 q300 d2 d3 hle hKN hik
                cases hsel : sel odd 0 i with
                | true =>
                  obtain ⟨e1, hL'⟩ := FA.out hsel
                  have C := Lib.hid (FC.out e1)
                  have hL2 := Lib.hid hL'
                  generalize (freeE bi (1 + (KK : Int))).2 = b2 at *
                  clear FA FB FC e1 hL'
                  rcases hpar with hp | hp <;> cases odd
                  all_goals first
                    | (exfalso; have hN2 := hp0 hp; revert hsel; simp [sel, hN2]; done)
                    | (exfalso; have hN2 := hp1 hp; revert hsel; simp [sel, hN2]; done)
                    | (obtain ⟨f1, f2, f3, f4, f5⟩ := FN.out
                       clear FN hsel hp0 hp1 f1 f2 f4 f5
                       go_wp2_with (go_at_call 17; (with_reducible refine (C.out).mono ?_); clear C; rintro e V5 ⟨rfl, A5⟩; have A5' := Lib.hid A5; clear A5)
                       go_roundg (k - (i + 1) + 1)
                       case measure => exact hgi'
                       case rel => exact ⟨i + 1, b2, rfl, hik'.out, A5'.out, hL2.out, Nat.lt_succ_self _⟩)
                | false =>
                  have hL2 := Lib.hid (FB.out hsel)
                  clear FA FB FC
                  rcases hpar with hp | hp <;> cases odd
                  all_goals first
                    | (exfalso; have hN2 := hp0 hp; revert hsel; simp [sel, hN2]; done)
                    | (exfalso; have hN2 := hp1 hp; revert hsel; simp [sel, hN2]; done)
                    | (obtain ⟨f1, f2, f3, f4, f5⟩ := FN.out
                       clear FN hsel hp0 hp1 f1 f2 f4 f5
                       go_wp2_with fail
                       go_roundg (k - (i + 1) + 1)
                       case measure => exact hgi'
                       case rel => exact ⟨i + 1, bi, rfl, hik'.out, hB'.out, hL2.out, Nat.lt_succ_self _⟩)
              · obtain rfl : i = k := by omega
                have hL2 : Left n i (left odd (0 + 1) 0) bi := hLi.congr (fun j hj => by first | exact left_turn odd i j hj | exact left_end odd i j hj)
                have hB' := Lib.hid (And.intro hAi hL2)
                obtain ⟨tq1, tq2⟩ := tq.out
                clear hgi hi hAi hLi N0 N1 M0 M1 q300 d2 d3 hik hL2 tq
                go_wp2_with fail
                go_roundg (2 - (0 + 1) + 1)
                case measure => exact hgj'
                case rel => exact ⟨1, bi, rfl, by decide, hB'.out.1, hB'.out.2, Nat.lt_succ_self _⟩
          · rw [show ((1 : Nat) : Int) = 1 from rfl]
            rw [show ((1 : Nat) : Int) = 1 from rfl] at tq
            clear ht3
            go_wp2_with fail
            go_loopg [12] (k + 1) (fun gi v12 wi => ∃ (i : Nat) (bs : List Blk), v12 = .int .i64 i ∧ i ≤ k ∧ At w wi p N bs ∧ Left n k (left odd 1 i) bs ∧ k - i < gi)
            case atStart => exact ⟨0, bs, rfl, Nat.zero_le _, hAL.out.1, hAL.out.2, by omega⟩
            case round =>
              clear hAL
              obtain ⟨i, bi, rfl, hi, hAi, hLi, hgi⟩ := hrel
              obtain ⟨N0, N1, M0, M1, q300, d2, d3⟩ := QQ.out
              by_cases hik : i < k
              · have hle : (i + 1) * (n + 1) ≤ N := Nat.le_trans (Nat.mul_le_mul_right _ hik) d2
                have hKN : i * (n + 1) ≤ 300 := by rw [Nat.succ_mul] at hle; omega
                have FN := Lib.hid (fr_num i n _ rfl hKN (by omega) M1)
                have FA := Lib.hid (fun (hs : sel odd 1 i = true) => hLi.free ht2'.out hik hs)
                have FB := Lib.hid (fun (hs : sel odd 1 i = false) => hLi.congr (fun j _ => left_skip odd 1 i j hs))
                have FC := Lib.hid (fun (e : (freeE bi (1 + ((i * (n + 1) : Nat) : Int))).1 = 0) => (show Calls Try.prog 17 #[.pointer (some ⟨p, 0, none⟩), .int .i64 (1 + ((i * (n + 1) : Nat) : Int))] _ fun e W' => e = .returned (.int .i64 0) ∧ At w W' p N (freeE bi (1 + ((i * (n + 1) : Nat) : Int))).2 by
                  have := free_at hAi (1 + ((i * (n + 1) : Nat) : Int))
                  rw [e] at this
                  exact this))
                have hKN' : ((i * (n + 1) : Nat) : Int) ≤ 300 := by omega
                have hgi' : k - (i + 1) + 1 < gk + 0 := by omega
                have hpar : (i : Int) % 2 = 0 ∨ (i : Int) % 2 = 1 := by omega
                have hp0 : (i : Int) % 2 = 0 → i % 2 = 0 := by omega
                have hp1 : (i : Int) % 2 = 1 → i % 2 = 1 := by omega
                have hik' := Lib.hid hik
                have hik2 : (i : Int) < (k : Int) := by omega
                generalize i * (n + 1) = KK at *
                have hB' := Lib.hid hAi
                clear hgi hi hAi hLi N0 N1 M0 M1 q300 d2 d3 hle hKN hik
                cases hsel : sel odd 1 i with
                | true =>
                  obtain ⟨e1, hL'⟩ := FA.out hsel
                  have C := Lib.hid (FC.out e1)
                  have hL2 := Lib.hid hL'
                  generalize (freeE bi (1 + (KK : Int))).2 = b2 at *
                  clear FA FB FC e1 hL'
                  rcases hpar with hp | hp <;> cases odd
                  all_goals first
                    | (exfalso; have hN2 := hp0 hp; revert hsel; simp [sel, hN2]; done)
                    | (exfalso; have hN2 := hp1 hp; revert hsel; simp [sel, hN2]; done)
                    | (obtain ⟨f1, f2, f3, f4, f5⟩ := FN.out
                       clear FN hsel hp0 hp1 f1 f2 f4 f5
                       go_wp2_with (go_at_call 17; (with_reducible refine (C.out).mono ?_); clear C; rintro e V5 ⟨rfl, A5⟩; have A5' := Lib.hid A5; clear A5)
                       go_roundg (k - (i + 1) + 1)
                       case measure => exact hgi'
                       case rel => exact ⟨i + 1, b2, rfl, hik'.out, A5'.out, hL2.out, Nat.lt_succ_self _⟩)
                | false =>
                  have hL2 := Lib.hid (FB.out hsel)
                  clear FA FB FC
                  rcases hpar with hp | hp <;> cases odd
                  all_goals first
                    | (exfalso; have hN2 := hp0 hp; revert hsel; simp [sel, hN2]; done)
                    | (exfalso; have hN2 := hp1 hp; revert hsel; simp [sel, hN2]; done)
                    | (obtain ⟨f1, f2, f3, f4, f5⟩ := FN.out
                       clear FN hsel hp0 hp1 f1 f2 f4 f5
                       go_wp2_with fail
                       go_roundg (k - (i + 1) + 1)
                       case measure => exact hgi'
                       case rel => exact ⟨i + 1, bi, rfl, hik'.out, hB'.out, hL2.out, Nat.lt_succ_self _⟩)
              · obtain rfl : i = k := by omega
                have hL2 : Left n i (left odd (1 + 1) 0) bi := hLi.congr (fun j hj => by first | exact left_turn odd i j hj | exact left_end odd i j hj)
                have hB' := Lib.hid (And.intro hAi hL2)
                obtain ⟨tq1, tq2⟩ := tq.out
                clear hgi hi hAi hLi N0 N1 M0 M1 q300 d2 d3 hik hL2 tq
                go_wp2_with fail
                go_roundg (2 - (1 + 1) + 1)
                case measure => exact hgj'
                case rel => exact ⟨2, bi, rfl, by decide, hB'.out.1, hB'.out.2, Nat.lt_succ_self _⟩
        · obtain rfl : tn = 2 := by omega
          obtain ⟨b1, b2, b3, b4, b5⟩ := hA.bd
          obtain ⟨hu, hr⟩ := hL.none b4 b2 b5 QQ.out.1
          have UE := used_at hA
          rw [hu] at UE
          have RE := room_at hA (by have := QQ.out.2.1; omega)
          rw [hr] at RE
          have hN := QQ.out.1
          have e1 : ((N - 1 : Nat) : Int) = (N : Int) - 1 := by omega
          rw [e1] at RE
          replace UE := Lib.hid UE
          replace RE := Lib.hid RE
          clear hA hL hgj ht ht2 b1 b2 b3 b4 b5 hu hr hN e1
          go_wp2_with (first | (go_at_call 24; (with_reducible refine (UE.out).mono ?_); rintro e V6 ⟨rfl, rfl⟩) | (go_at_call 25; (with_reducible refine (RE.out).mono ?_); rintro e V7 ⟨rfl, A7⟩; have A7' := Lib.hid A7; clear A7))
          go_ret
          exact ⟨rfl, A7'.out.below⟩
end Go.Proofs.Ytgdhapapdpccpaa.A
