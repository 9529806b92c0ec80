/- arena: Size, Mark, Marked. -/
import Derived.Test.YtgdhapapdpccpaaJ
namespace Go.Proofs.Ytgdhapapdpccpaa.A
open Go.RowKit Go.Proofs
set_option linter.unusedVariables false
set_option linter.unusedSimpArgs false

def sizeR (bs : List Blk) (a : Int) : Int := match at? a 1 bs with
  | none => 0
  | some (_, ws) => ws.length
def markedR (bs : List Blk) (a : Int) : Bool := match at? a 1 bs with
  | none => false
  | some (m, _) => m
theorem sizeM_own {w : World} {p : Nat} {F : Nat → Prop} {N : Nat} {bs : List Blk} (h : Own w p F N bs) (a : Int) :
    Calls Try.prog 19 #[.pointer (some ⟨p, 0, none⟩), .int .i64 a] w fun e w' => e = .returned (.int .i64 (sizeR bs a)) ∧ w' = w := by
  have T := is_own h a
  unfold sizeR
  cases hat : at? a 1 bs with
  | none =>
    rw [hat] at T
    simp only [Option.isSome_none] at T
    replace T := Lib.hid T
    clear h hat
    go_enter Try.func19, Try.ntmps19
    go_wp2_with (first | (go_at_call 58; (with_reducible refine (T.out).mono ?_); rintro e w' ⟨rfl, rfl⟩))
    go_ret
    exact ⟨rfl, rfl⟩
  | some x =>
    obtain ⟨m, ws⟩ := x
    rw [hat] at T
    simp only [Option.isSome_some] at T
    replace T := Lib.hid T
    obtain ⟨pre, post, rfl, ha⟩ := at_some hat
    have S := size_own h a ha
    simp only [Blk.sz] at S
    replace S := Lib.hid S
    clear h hat ha
    dsimp only
    generalize ws.length = L at *
    go_enter Try.func19, Try.ntmps19
    go_wp2_with (first | (go_at_call 58; (with_reducible refine (T.out).mono ?_); rintro e w' ⟨rfl, rfl⟩) | (go_at_call 52; (with_reducible refine (S.out).mono ?_); rintro e w' ⟨rfl, rfl⟩))
    go_ret
    exact ⟨rfl, rfl⟩
/-- The head of a used block, as a walk reads it. -/
theorem head_own {w : World} {p : Nat} {F : Nat → Prop} {N : Nat} {bs : List Blk} (h : Own w p F N bs) {a : Int} {m : Bool} {ws : List Int} (hat : at? a 1 bs = some (m, ws)) :
    ∃ pw : Nat, w.cell? ⟨p, 0, none⟩ = some (.slice (some ⟨pw, 0, none⟩) N N) ∧ w.cell? ⟨pw, a.toNat - 1, none⟩ = some (.int .u64 (ws.length * 4 + 1 + (if m then 2 else 0))) ∧ w.frozen? ⟨pw, a.toNat - 1, none⟩ = false ∧
      1 ≤ a ∧ a + ws.length ≤ N ∧ N ≤ 1048576 ∧ ∀ m' : Bool, ∃ F', Own (w.setCell ⟨pw, a.toNat - 1, none⟩ (.int .u64 (ws.length * 4 + 1 + (if m' then 2 else 0)))) p F' N (put? a (.used m' ws) 1 bs) ∧ Mv w F (w.setCell ⟨pw, a.toNat - 1, none⟩ (.int .u64 (ws.length * 4 + 1 + (if m' then 2 else 0)))) F' := by
  obtain ⟨pre, post, rfl, ha⟩ := at_some hat
  obtain ⟨⟨A, rfl, R, I, hF⟩, lt⟩ := h
  obtain ⟨rpre, r, rpost, k1, k2, k3, k4, k5, k6, k7⟩ := I.spot
  have sz := R.sz
  simp only [Blk.sz] at k7
  have hl := I.len
  have c0 := R.c0
  have cw := R.cw (a.toNat - 1) (by omega)
  rw [k1.head _ (by omega), k3.1] at cw
  rw [hl] at c0
  refine ⟨A.pw, c0, cw, R.zw _, by omega, by omega, by omega, fun m' => ?_⟩
  have hx : (0 : Int) ≤ ws.length * 4 + 1 + (if m' then 2 else 0) ∧ (ws.length * 4 + 1 + (if m' then 2 else 0) : Int) < 18446744073709551616 := by
    cases m' <;> simp <;> omega
  have R1 := R.setW (a.toNat - 1) _ hx
  have S1 := Steps.setW (w := w) (A := A) (a.toNat - 1) (ws.length * 4 + 1 + (if m' then 2 else 0))
  have I1 := inv_put (ws' := ws) (m' := m') I rfl (k1.setHd (a.toNat - 1) (by omega) (ws.length * 4 + 1 + (if m' then 2 else 0))) k2 (by
    obtain ⟨e1, e2, e3, e4⟩ := k3
    exact ⟨rfl, e2, e3, e4⟩) k4 rfl
  have hput : put? a (.used m' ws) 1 (pre ++ .used m ws :: post) = pre ++ .used m' ws :: post := by rw [ha]; exact put_mid ..
  rw [hput]
  exact Own.step rfl hF lt R1 S1 I1
theorem marked_own {w : World} {p : Nat} {F : Nat → Prop} {N : Nat} {bs : List Blk} (h : Own w p F N bs) (a : Int) :
    Calls Try.prog 21 #[.pointer (some ⟨p, 0, none⟩), .int .i64 a] w fun e w' => e = .returned (.bool (markedR bs a)) ∧ w' = w := by
  have T := is_own h a
  unfold markedR
  cases hat : at? a 1 bs with
  | none =>
    rw [hat] at T
    simp only [Option.isSome_none] at T
    replace T := Lib.hid T
    clear h hat
    go_enter Try.func21, Try.ntmps21
    go_wp2_with (first | (go_at_call 58; (with_reducible refine (T.out).mono ?_); rintro e w' ⟨rfl, rfl⟩))
    go_ret
    exact ⟨rfl, rfl⟩
  | some x =>
    obtain ⟨m, ws⟩ := x
    rw [hat] at T
    simp only [Option.isSome_some] at T
    replace T := Lib.hid T
    obtain ⟨pw, c0, cw, z, a0, a1, n1, _⟩ := head_own h hat
    dsimp only
    generalize hL : ws.length = L at *
    have K := next_num' a a0 (by omega)
    obtain ⟨q1, q2⟩ := K
    have q3 : 0 ≤ a - 1 := by omega
    have q4 : a - 1 < (N : Int) := by omega
    have B : bits .and .u64 ((L : Int) * 4 + 1 + (if m then 2 else 0)) 2 = (if m then 2 else 0) := by
      rw [and2 _ (by cases m <;> simp <;> omega) (by cases m <;> simp <;> omega)]
      cases m <;> simp <;> omega
    clear h hat a0 a1 hL
    cases m
    · simp only [Bool.false_eq_true, if_false, Int.add_zero] at *
      go_enter Try.func21, Try.ntmps21
      go_wp2_with (first | (go_at_call 58; (with_reducible refine (T.out).mono ?_); rintro e w' ⟨rfl, rfl⟩))
      go_ret
      exact ⟨rfl, rfl⟩
    · simp only [if_true] at *
      go_enter Try.func21, Try.ntmps21
      go_wp2_with (first | (go_at_call 58; (with_reducible refine (T.out).mono ?_); rintro e w' ⟨rfl, rfl⟩))
      go_ret
      exact ⟨rfl, rfl⟩
/-- Is a mark new there, and the row of blocks behind it. -/
def markR (bs : List Blk) (a : Int) : Bool × List Blk := match at? a 1 bs with
  | some (false, ws) => (true, put? a (.used true ws) 1 bs)
  | _ => (false, bs)
theorem mark_own {w : World} {p : Nat} {F : Nat → Prop} {N : Nat} {bs : List Blk} (h : Own w p F N bs) (a : Int) :
    Calls Try.prog 20 #[.pointer (some ⟨p, 0, none⟩), .int .i64 a] w fun e w' => e = .returned (.bool (markR bs a).1) ∧ ∃ F', Own w' p F' N (markR bs a).2 ∧ Mv w F w' F' := by
  have T := is_own h a
  unfold markR
  cases hat : at? a 1 bs with
  | none =>
    rw [hat] at T
    simp only [Option.isSome_none] at T
    replace T := Lib.hid T
    replace h := Lib.hid h
    clear hat
    go_enter Try.func20, Try.ntmps20
    go_wp2_with (first | (go_at_call 58; (with_reducible refine (T.out).mono ?_); rintro e w' ⟨rfl, rfl⟩))
    go_ret
    exact ⟨rfl, F, h.out, Mv.refl _ _⟩
  | some x =>
    obtain ⟨m, ws⟩ := x
    rw [hat] at T
    simp only [Option.isSome_some] at T
    replace T := Lib.hid T
    obtain ⟨pw, c0, cw, z, a0, a1, n1, O⟩ := head_own h hat
    have O1 := O true
    have K := next_num' a a0 (by omega)
    obtain ⟨q1, q2⟩ := K
    have q3 : 0 ≤ a - 1 := by omega
    have q4 : a - 1 < (N : Int) := by omega
    replace h := Lib.hid h
    cases m
    · simp only [Bool.false_eq_true, if_false, if_true, Int.add_zero] at cw O1
      dsimp only
      generalize hL : ws.length = L at *
      have B : bits .and .u64 ((L : Int) * 4 + 1) 2 = 0 := by
        rw [and2 _ (by omega) (by omega)]
        omega
      have C : bits .or .u64 ((L : Int) * 4 + 1) 2 = (L : Int) * 4 + 1 + 2 := by
        rw [or2 L (by omega)]
        omega
      replace O1 := Lib.hid O1
      clear O hat a0 a1 hL
      go_enter Try.func20, Try.ntmps20
      go_wp2_with (first | (go_at_call 58; (with_reducible refine (T.out).mono ?_); rintro e w' ⟨rfl, rfl⟩))
      go_ret
      exact ⟨rfl, O1.out⟩
    · simp only [if_true] at cw O1
      dsimp only
      generalize hL : ws.length = L at *
      have B : bits .and .u64 ((L : Int) * 4 + 1 + 2) 2 = 2 := by
        rw [and2 _ (by omega) (by omega)]
        omega
      clear O O1 hat a0 a1 hL
      go_enter Try.func20, Try.ntmps20
      go_wp2_with (first | (go_at_call 58; (with_reducible refine (T.out).mono ?_); rintro e w' ⟨rfl, rfl⟩))
      go_ret
      exact ⟨rfl, F, h.out, Mv.refl _ _⟩
end Go.Proofs.Ytgdhapapdpccpaa.A
