/- arena: the small methods: is, size, word, Get, Set, Size, Mark, Marked, Cap, Used. -/
import Derived.Test.YtgdhapapdpccpaaI
namespace Go.Proofs.Ytgdhapapdpccpaa.A
open Go.RowKit Go.Proofs
set_option linter.unusedVariables false
set_option linter.unusedSimpArgs false

theorem getD_wd (xs : List Int) (h : Int) (ys zs : List Int) (k i : Nat) (hk : k = xs.length + 1 + i) (hi : i < ys.length) : (xs ++ h :: (ys ++ zs)).getD k 0 = ys.getD i 0 := by
  subst hk
  simp only [List.getD]
  rw [List.getElem?_append_right (by omega), show xs.length + 1 + i - xs.length = i + 1 by omega, List.getElem?_cons_succ, List.getElem?_append_left hi]
theorem set_wd (xs : List Int) (h : Int) (ys zs : List Int) (k i : Nat) (x : Int) (hk : k = xs.length + 1 + i) (hi : i < ys.length) : (xs ++ h :: (ys ++ zs)).set k x = xs ++ h :: (ys.set i x ++ zs) := by
  subst hk
  rw [List.set_append_right _ _ (by omega), show xs.length + 1 + i - xs.length = i + 1 by omega, List.set_cons_succ, List.set_append_left _ _ hi]
section
variable {A : Ar} {pre : List RB} {b : RB} {post : List RB}
theorem Is.word (h : Is A (pre ++ b :: post)) (k i : Nat) (hk : k = span pre + 1 + i) (hi : i < b.sz) : A.ws.getD k 0 = b.wd.getD i 0 := by
  rw [h.ws, flat_append]
  exact getD_wd _ _ _ _ _ _ (by rw [hk, flat_length]) hi
theorem Is.setWd (h : Is A (pre ++ b :: post)) (k i : Nat) (hk : k = span pre + 1 + i) (hi : i < b.sz) (x : Int) : Is { A with ws := A.ws.set k x } (pre ++ { b with wd := b.wd.set i x } :: post) where
  ws := by
    show A.ws.set k x = _
    rw [h.ws, flat_append, flat_append]
    exact set_wd _ _ _ _ _ _ _ (by rw [hk, flat_length]) hi
  lv := h.lv.trans (by rw [flags_append, flags_append]; simp [flags, RB.sz])
  fs c hc := (h.fs c hc).trans (by
    rw [frees_append, frees_append]
    simp only [frees]
    have e : ({ b with wd := b.wd.set i x } : RB).sz = b.sz := by simp [RB.sz]
    rw [e])
end

/-- What is known of a block at its address. -/
structure Spot (A : Ar) (bs : List Blk) (a : Int) (b : Blk) (rpre : List RB) (r : RB) (rpost : List RB) : Prop where
  is : Is A (rpre ++ r :: rpost)
  fit : Fit b r
  at_ : a = 1 + span rpre
theorem Inv.spot {A : Ar} {N : Nat} {pre post : List Blk} {b : Blk} (h : Inv A N (pre ++ b :: post)) : ∃ rpre r rpost, Is A (rpre ++ r :: rpost) ∧ Fits pre rpre ∧ Fit b r ∧ Fits post rpost ∧ span rpre = spanB pre ∧ span rpost = spanB post ∧ A.ws.length = spanB pre + (b.sz + 1 + spanB post) := by
  obtain ⟨rs, h1, h2⟩ := h.fits (by simp)
  obtain ⟨r1, r, r2, rfl, k1, k2, k3⟩ := h2.mid
  refine ⟨r1, r, r2, h1, k1, k2, k3, k1.span, k3.span, ?_⟩
  rw [h1.len, span_append, k1.span]
  simp only [span]
  rw [k2.sz, k3.span]

section
variable {w : World} {p : Nat} {F : Nat → Prop} {N : Nat} {bs : List Blk} (h : Own w p F N bs)
include h
theorem is_own (a : Int) : Calls Try.prog 58 #[.pointer (some ⟨p, 0, none⟩), .int .i64 a] w fun e w' => e = .returned (.bool (at? a 1 bs).isSome) ∧ w' = w := by
  obtain ⟨⟨A, rfl, R, I, hF⟩, lt⟩ := h
  rw [← I.has a]
  exact is_calls R a
theorem cap_own : Calls Try.prog 23 #[.pointer (some ⟨p, 0, none⟩)] w fun e w' => e = .returned (.int .i64 N) ∧ w' = w := by
  obtain ⟨⟨A, rfl, R, I, hF⟩, lt⟩ := h
  have c0 := R.c0
  rw [I.len] at c0
  clear R I hF lt
  go_enter Try.func23, Try.ntmps23
  go_wp2
  go_ret
  exact ⟨rfl, rfl⟩
theorem used_own : Calls Try.prog 24 #[.pointer (some ⟨p, 0, none⟩)] w fun e w' => e = .returned (.int .i64 (usedB bs)) ∧ w' = w := by
  obtain ⟨⟨A, rfl, R, I, hF⟩, lt⟩ := h
  have c1 := R.c1
  rw [I.us] at c1
  clear R I hF lt
  go_enter Try.func24, Try.ntmps24
  go_wp2
  go_ret
  exact ⟨rfl, rfl⟩
end
theorem size_own {w : World} {p : Nat} {F : Nat → Prop} {N : Nat} {pre post : List Blk} {b : Blk} (h : Own w p F N (pre ++ b :: post)) (a : Int) (ha : a = 1 + spanB pre) :
    Calls Try.prog 52 #[.pointer (some ⟨p, 0, none⟩), .int .i64 a] w fun e w' => e = .returned (.int .i64 b.sz) ∧ w' = w := by
  obtain ⟨⟨A, rfl, R, I, hF⟩, lt⟩ := h
  obtain ⟨rpre, r, rpost, k1, k2, k3, k4, k5, k6, k7⟩ := I.spot
  have := size_at R k1 k3.hd4 a (by rw [ha, k5])
  rw [k3.sz] at this
  exact this

/-- Where the word of a block is. -/
def wordR (bs : List Blk) (a i : Int) : Int × Int := match at? a 1 bs with
  | none => (0, 4)
  | some (_, ws) => if 0 ≤ i ∧ i < ws.length then (a + i, 0) else (0, 2)
theorem word_own {w : World} {p : Nat} {F : Nat → Prop} {N : Nat} {bs : List Blk} (h : Own w p F N bs) (a i : Int) :
    Calls Try.prog 56 #[.pointer (some ⟨p, 0, none⟩), .int .i64 a, .int .i64 i] w fun e w' => e = .returned (.tuple #[.int .i64 (wordR bs a i).1, .int .i64 (wordR bs a i).2]) ∧ w' = w := by
  have T := Lib.hid (is_own h a)
  unfold wordR
  cases hat : at? a 1 bs with
  | none =>
    rw [hat] at T
    simp only [Option.isSome_none] at T
    clear h hat
    go_enter Try.func56, Try.ntmps56
    go_wp2_with (first | (go_at_call 58; (with_reducible refine (T.out).mono ?_); rintro e w' ⟨rfl, rfl⟩))
    go_ret2
    exact ⟨rfl, rfl⟩
  | some x =>
    obtain ⟨m, ws⟩ := x
    rw [hat] at T
    simp only [Option.isSome_some] at T
    obtain ⟨pre, post, rfl, ha⟩ := at_some hat
    have S := Lib.hid (size_own h a ha)
    have hN : (a + ws.length : Int) ≤ 1048576 ∧ 1 ≤ a := by
      obtain ⟨⟨A, rfl, R, I, hF⟩, lt⟩ := h
      obtain ⟨rpre, r, rpost, k1, k2, k3, k4, k5, k6, k7⟩ := I.spot
      have := R.sz
      simp only [Blk.sz] at k7
      omega
    simp only [Blk.sz] at S
    clear h hat ha
    dsimp only
    generalize ws.length = L at *
    by_cases h1 : 0 ≤ i
    · by_cases h2 : i < (L : Int)
      · have e : (if 0 ≤ i ∧ i < (L : Int) then (a + i, (0 : Int)) else (0, 2)) = (a + i, 0) := if_pos ⟨h1, h2⟩
        rw [e]
        have k := w64 (a + i) (by omega) (by omega)
        have k' := i64w (a + i) (by omega) (by omega)
        have q1 : decide (i < 0) = false := decide_eq_false (by omega)
        have q2 : decide (i ≥ (L : Int)) = false := decide_eq_false (by omega)
        clear hN e
        go_enter Try.func56, Try.ntmps56
        go_wp2_with (first | (go_at_call 58; (with_reducible refine (T.out).mono ?_); rintro e w' ⟨rfl, rfl⟩) | (go_at_call 52; (with_reducible refine (S.out).mono ?_); rintro e w' ⟨rfl, rfl⟩))
        go_ret2
        exact ⟨rfl, rfl⟩
      · have e : (if 0 ≤ i ∧ i < (L : Int) then (a + i, (0 : Int)) else (0, 2)) = (0, 2) := if_neg (fun h => h2 h.2)
        rw [e]
        have q1 : decide (i < 0) = false := decide_eq_false (by omega)
        have q2 : decide (i ≥ (L : Int)) = true := decide_eq_true (by omega)
        clear hN e
        go_enter Try.func56, Try.ntmps56
        go_wp2_with (first | (go_at_call 58; (with_reducible refine (T.out).mono ?_); rintro e w' ⟨rfl, rfl⟩) | (go_at_call 52; (with_reducible refine (S.out).mono ?_); rintro e w' ⟨rfl, rfl⟩))
        go_ret2
        exact ⟨rfl, rfl⟩
    · have e : (if 0 ≤ i ∧ i < (L : Int) then (a + i, (0 : Int)) else (0, 2)) = (0, 2) := if_neg (fun h => h1 h.1)
      rw [e]
      have q1 : decide (i < 0) = true := decide_eq_true (by omega)
      clear hN e
      go_enter Try.func56, Try.ntmps56
      go_wp2_with (first | (go_at_call 58; (with_reducible refine (T.out).mono ?_); rintro e w' ⟨rfl, rfl⟩) | (go_at_call 52; (with_reducible refine (S.out).mono ?_); rintro e w' ⟨rfl, rfl⟩))
      go_ret2
      exact ⟨rfl, rfl⟩
/-- A block's word. -/
def getR (bs : List Blk) (a i : Int) : Int × Int := match at? a 1 bs with
  | none => (0, 4)
  | some (_, ws) => if 0 ≤ i ∧ i < ws.length then (ws.getD i.toNat 0, 0) else (0, 2)
theorem get_own {w : World} {p : Nat} {F : Nat → Prop} {N : Nat} {bs : List Blk} (h : Own w p F N bs) (a i : Int) :
    Calls Try.prog 15 #[.pointer (some ⟨p, 0, none⟩), .int .i64 a, .int .i64 i] w fun e w' => e = .returned (.tuple #[.int .u64 (getR bs a i).1, .int .i64 (getR bs a i).2]) ∧ w' = w := by
  have T := word_own h a i
  unfold getR
  unfold wordR at T
  cases hat : at? a 1 bs with
  | none =>
    rw [hat] at T
    replace T := Lib.hid T
    clear h hat
    go_enter Try.func15, Try.ntmps15
    go_wp2_with (first | (go_at_call 56; (with_reducible refine (T.out).mono ?_); rintro e w' ⟨rfl, rfl⟩))
    go_ret2
    exact ⟨rfl, rfl⟩
  | some x =>
    obtain ⟨m, ws⟩ := x
    rw [hat] at T
    simp only at T
    by_cases hi : 0 ≤ i ∧ i < (ws.length : Int)
    · rw [if_pos hi] at T
      simp only [if_pos hi]
      replace T := Lib.hid T
      obtain ⟨pre, post, rfl, ha⟩ := at_some hat
      obtain ⟨⟨A, rfl, R, I, hF⟩, lt⟩ := h
      obtain ⟨rpre, r, rpost, k1, k2, k3, k4, k5, k6, k7⟩ := I.spot
      have sz := R.sz
      simp only [Blk.sz] at k7
      have c0 := R.c0
      have cw := R.cw (a + i).toNat (by omega)
      rw [k1.word (a + i).toNat i.toNat (by omega) (by rw [k3.sz]; simp only [Blk.sz]; omega), k3.2.2.2] at cw
      generalize ws.getD i.toNat 0 = x at *
      have q1 : 0 ≤ a + i := by omega
      have q2 : a + i < A.ws.length := by omega
      clear hat ha R I hF lt k1 k2 k3 k4 k5 k6 k7 hi
      go_enter Try.func15, Try.ntmps15
      go_wp2_with (first | (go_at_call 56; (with_reducible refine (T.out).mono ?_); rintro e w' ⟨rfl, rfl⟩))
      go_ret2
      exact ⟨rfl, rfl⟩
    · rw [if_neg hi] at T
      simp only [if_neg hi]
      replace T := Lib.hid T
      clear h hat hi
      go_enter Try.func15, Try.ntmps15
      go_wp2_with (first | (go_at_call 56; (with_reducible refine (T.out).mono ?_); rintro e w' ⟨rfl, rfl⟩))
      go_ret2
      exact ⟨rfl, rfl⟩
/-- The row of blocks behind Set, and its answer. -/
def setR (bs : List Blk) (a i x : Int) : List Blk := match at? a 1 bs with
  | none => bs
  | some (m, ws) => if 0 ≤ i ∧ i < ws.length then put? a (.used m (ws.set i.toNat x)) 1 bs else bs
theorem good_put {pre post : List Blk} {m m' : Bool} {ws ws' : List Int} (h : Good (pre ++ .used m ws :: post)) (hl : ws'.length = ws.length) : Good (pre ++ .used m' ws' :: post) := by
  constructor
  · have := h.1
    clear h
    induction pre with
    | nil => exact this
    | cons x r ih =>
      cases x with
      | used => exact ih this
      | free n =>
        cases r with
        | nil => exact this
        | cons y r' => cases y with
          | free => exact this.elim
          | used => exact ih this
  · intro b hb
    have h2 := h.2
    rcases List.mem_append.1 hb with h1 | h1
    · exact h2 b (List.mem_append_left _ h1)
    · rcases List.mem_cons.1 h1 with rfl | h1
      · have := h2 (.used m ws) (List.mem_append_right _ (List.mem_cons_self ..))
        simp only [Blk.sz] at this ⊢
        omega
      · exact h2 b (List.mem_append_right _ (List.mem_cons_of_mem _ h1))
theorem inv_put {A A' : Ar} {N : Nat} {pre post : List Blk} {m m' : Bool} {ws ws' : List Int} (I : Inv A N (pre ++ .used m ws :: post)) (hl : ws'.length = ws.length) {rpre rpost : List RB} {r : RB} (h1 : Is A' (rpre ++ r :: rpost)) (k2 : Fits pre rpre) (k3 : Fit (.used m' ws') r) (k4 : Fits post rpost) (hu : A'.us = A.us) :
    Inv A' N (pre ++ .used m' ws' :: post) :=
  Inv.mk' h1 (Fits.mid_mk k2 k3 k4) (by
    rw [← I.spanN (by simp), spanB_append, spanB_append]
    simp only [spanB, Blk.sz, hl]) (by
    rw [hu, I.us, usedB_append, usedB_append]
    simp only [usedB, hl]) (good_put I.good hl)
theorem set_own {w : World} {p : Nat} {F : Nat → Prop} {N : Nat} {bs : List Blk} (h : Own w p F N bs) (a i x : Int) (x0 : 0 ≤ x) (x1 : x < 18446744073709551616) :
    Calls Try.prog 18 #[.pointer (some ⟨p, 0, none⟩), .int .i64 a, .int .i64 i, .int .u64 x] w fun e w' => e = .returned (.int .i64 (getR bs a i).2) ∧ ∃ F', Own w' p F' N (setR bs a i x) ∧ Mv w F w' F' := by
  have T := word_own h a i
  unfold getR setR
  unfold wordR at T
  cases hat : at? a 1 bs with
  | none =>
    rw [hat] at T
    replace T := Lib.hid T
    replace h := Lib.hid h
    clear hat
    go_enter Try.func18, Try.ntmps18
    go_wp2_with (first | (go_at_call 56; (with_reducible refine (T.out).mono ?_); rintro e w' ⟨rfl, rfl⟩))
    go_ret
    exact ⟨rfl, F, h.out, Mv.refl _ _⟩
  | some y =>
    obtain ⟨m, ws⟩ := y
    rw [hat] at T
    simp only at T
    by_cases hi : 0 ≤ i ∧ i < (ws.length : Int)
    · rw [if_pos hi] at T
      simp only [if_pos hi]
      replace T := Lib.hid T
      obtain ⟨pre, post, rfl, ha⟩ := at_some hat
      obtain ⟨⟨A, rfl, R, I, hF⟩, lt⟩ := h
      obtain ⟨rpre, r, rpost, k1, k2, k3, k4, k5, k6, k7⟩ := I.spot
      have sz := R.sz
      simp only [Blk.sz] at k7
      have hr : r.sz = ws.length := k3.sz
      have c0 := R.c0
      have cw := R.cw (a + i).toNat (by omega)
      have zw := R.zw (a + i).toNat
      have R1 := R.setW (a + i).toNat x ⟨x0, x1⟩
      have S1 := Steps.setW (w := w) (A := A) (a + i).toNat x
      have I1 := inv_put (ws' := ws.set i.toNat x) (m' := m) I (by simp) (k1.setWd (a + i).toNat i.toNat (by omega) (by omega) x) k2 (by
        obtain ⟨e1, e2, e3, e4⟩ := k3
        exact ⟨by simp [e1], e2, e3, by simp [e4]⟩) k4 rfl
      have OS := Own.step rfl hF lt R1 S1 I1
      have hput : put? a (.used m (ws.set i.toNat x)) 1 (pre ++ .used m ws :: post) = pre ++ .used m (ws.set i.toNat x) :: post := by rw [ha]; exact put_mid ..
      rw [← hput] at OS
      replace OS := Lib.hid OS
      have q1 : 0 ≤ a + i := by omega
      have q2 : a + i < A.ws.length := by omega
      clear hat ha R I hF lt k1 k2 k3 k4 k5 k6 k7 hi R1 S1 I1 hput hr
      go_enter Try.func18, Try.ntmps18
      go_wp2_with (first | (go_at_call 56; (with_reducible refine (T.out).mono ?_); rintro e w' ⟨rfl, rfl⟩))
      go_ret
      exact ⟨rfl, OS.out⟩
    · rw [if_neg hi] at T
      simp only [if_neg hi]
      replace T := Lib.hid T
      replace h := Lib.hid h
      clear hat hi
      go_enter Try.func18, Try.ntmps18
      go_wp2_with (first | (go_at_call 56; (with_reducible refine (T.out).mono ?_); rintro e w' ⟨rfl, rfl⟩))
      go_ret
      exact ⟨rfl, F, h.out, Mv.refl _ _⟩
end Go.Proofs.Ytgdhapapdpccpaa.A
