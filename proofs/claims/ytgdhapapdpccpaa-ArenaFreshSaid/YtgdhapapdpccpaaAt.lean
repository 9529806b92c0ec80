/- arena: one arena above a base: the methods' contracts in one word. -/
import Derived.Test.YtgdhapapdpccpaaRo
namespace Go.Proofs.Ytgdhapapdpccpaa.A
open Go.RowKit Go.Proofs
set_option linter.unusedVariables false
set_option linter.unusedSimpArgs false

/-- In world W, the arena at p stands as bs says; all that it owns, and all that has turned since w0, lies above what lay in w0. -/
def At (w0 W : World) (p N : Nat) (bs : List Blk) : Prop := ∃ F, Own W p F N bs ∧ (∀ b, F b → w0.heap.size ≤ b) ∧ Below w0.heap.size w0 W
section
variable {w0 W : World} {p N : Nat} {bs : List Blk}
theorem At.step {W' : World} {F : Nat → Prop} {bs' : List Blk} (hF : ∀ b, F b → w0.heap.size ≤ b) (hB : Below w0.heap.size w0 W) (k : ∃ F', Own W' p F' N bs' ∧ Mv W F W' F') : At w0 W' p N bs' := by
  obtain ⟨F', O, M⟩ := k
  exact ⟨F', O, fun b hb => (M.ext b hb).elim (hF b) (fun h => by have := hB.size; omega), hB.trans (M.but.below hF hB.size)⟩
theorem At.below (h : At w0 W p N bs) : Below w0.heap.size w0 W := by obtain ⟨F, _, _, h⟩ := h; exact h
theorem At.drewN (h : At w0 W p N bs) (q : Nat) : At w0 (W.drewN q) p N bs := by
  obtain ⟨F, O, hF, hB⟩ := h
  exact ⟨F, O.drewN q, hF, ⟨hB.os, hB.tape, hB.output, hB.size, hB.block⟩⟩
theorem At.alloc (h : At w0 W p N bs) (o : Obj) : At w0 (W.alloc o) p N bs := by
  obtain ⟨F, O, hF, hB⟩ := h
  exact ⟨F, O.alloc o, hF, hB.alloc hB.size _⟩
theorem At.read {W' : World} (h : At w0 W p N bs) (k : Below W.heap.size W W') : At w0 W' p N bs := by
  obtain ⟨F, O, hF, hB⟩ := h
  exact ⟨F, O.congr k.size (fun b hb => k.block b (O.lt b hb)), hF, hB.trans (k.mono hB.size)⟩
theorem new_at (words : Int) (h : words ≤ 100000) (w0 W : World) (hB : Below w0.heap.size w0 W) : Calls Try.prog 32 #[.int .i64 words] W fun e W' => ∃ p, e = .returned (.pointer (some ⟨p, 0, none⟩)) ∧ At w0 W' p words.toNat (newR words.toNat) := by
  refine (new_own words h W).mono ?_
  rintro e W' ⟨p, F, rfl, O, hF, hB'⟩
  exact ⟨p, rfl, F, O, fun b hb => by have := hF b hb; have := hB.size; omega, hB.trans (hB'.mono hB.size)⟩
variable (h : At w0 W p N bs)
include h
theorem take_at (hN : N ≤ 100000) (n : Int) : Calls Try.prog 14 #[.pointer (some ⟨p, 0, none⟩), .int .i64 n] W fun e W' => e = .returned (.tuple #[.int .i64 (takeE bs n).1.1, .int .i64 (takeE bs n).1.2]) ∧ At w0 W' p N (takeE bs n).2 := by
  obtain ⟨F, O, hF, hB⟩ := h
  exact (take_own O hN n).mono fun e W' ⟨h1, h2⟩ => ⟨h1, At.step hF hB h2⟩
theorem free_at (a : Int) : Calls Try.prog 17 #[.pointer (some ⟨p, 0, none⟩), .int .i64 a] W fun e W' => e = .returned (.int .i64 (freeE bs a).1) ∧ At w0 W' p N (freeE bs a).2 := by
  obtain ⟨F, O, hF, hB⟩ := h
  exact (free_own O a).mono fun e W' ⟨h1, h2⟩ => ⟨h1, At.step hF hB h2⟩
theorem sweep_at : Calls Try.prog 22 #[.pointer (some ⟨p, 0, none⟩)] W fun e W' => e = .returned (.int .i64 ((usedB bs : Int) - usedB (sweepR bs))) ∧ At w0 W' p N (sweepR bs) := by
  obtain ⟨F, O, hF, hB⟩ := h
  exact (sweep_own O).mono fun e W' ⟨h1, h2⟩ => ⟨h1, At.step hF hB h2⟩
theorem mark_at (a : Int) : Calls Try.prog 20 #[.pointer (some ⟨p, 0, none⟩), .int .i64 a] W fun e W' => e = .returned (.bool (markR bs a).1) ∧ At w0 W' p N (markR bs a).2 := by
  obtain ⟨F, O, hF, hB⟩ := h
  exact (mark_own O a).mono fun e W' ⟨h1, h2⟩ => ⟨h1, At.step hF hB h2⟩
theorem set_at (a i x : Int) (x0 : 0 ≤ x) (x1 : x < 18446744073709551616) : Calls Try.prog 18 #[.pointer (some ⟨p, 0, none⟩), .int .i64 a, .int .i64 i, .int .u64 x] W fun e W' => e = .returned (.int .i64 (getR bs a i).2) ∧ At w0 W' p N (setR bs a i x) := by
  obtain ⟨F, O, hF, hB⟩ := h
  exact (set_own O a i x x0 x1).mono fun e W' ⟨h1, h2⟩ => ⟨h1, At.step hF hB h2⟩
theorem get_at (a i : Int) : Calls Try.prog 15 #[.pointer (some ⟨p, 0, none⟩), .int .i64 a, .int .i64 i] W fun e W' => e = .returned (.tuple #[.int .u64 (getR bs a i).1, .int .i64 (getR bs a i).2]) ∧ W' = W := by
  obtain ⟨F, O, hF, hB⟩ := h
  exact get_own O a i
theorem sizeM_at (a : Int) : Calls Try.prog 19 #[.pointer (some ⟨p, 0, none⟩), .int .i64 a] W fun e W' => e = .returned (.int .i64 (sizeR bs a)) ∧ W' = W := by
  obtain ⟨F, O, hF, hB⟩ := h
  exact sizeM_own O a
theorem marked_at (a : Int) : Calls Try.prog 21 #[.pointer (some ⟨p, 0, none⟩), .int .i64 a] W fun e W' => e = .returned (.bool (markedR bs a)) ∧ W' = W := by
  obtain ⟨F, O, hF, hB⟩ := h
  exact marked_own O a
theorem cap_at : Calls Try.prog 23 #[.pointer (some ⟨p, 0, none⟩)] W fun e W' => e = .returned (.int .i64 N) ∧ W' = W := by
  obtain ⟨F, O, hF, hB⟩ := h
  exact cap_own O
theorem used_at : Calls Try.prog 24 #[.pointer (some ⟨p, 0, none⟩)] W fun e W' => e = .returned (.int .i64 (usedB bs)) ∧ W' = W := by
  obtain ⟨F, O, hF, hB⟩ := h
  exact used_own O
theorem room_at (hN : N ≤ 100000) : Calls Try.prog 25 #[.pointer (some ⟨p, 0, none⟩)] W fun e W' => e = .returned (.int .i64 (roomR bs)) ∧ At w0 W' p N bs := by
  obtain ⟨F, O, hF, hB⟩ := h
  exact (room_own O (by omega)).mono fun e W' ⟨h1, h2⟩ => ⟨h1, At.read ⟨F, O, hF, hB⟩ h2⟩
end
/-! ### An arena that is not there -/
theorem get_nil (a i : Int) (w : World) : Calls Try.prog 15 #[.pointer none, .int .i64 a, .int .i64 i] w fun e w' => e = .returned (.tuple #[.int .u64 0, .int .i64 1]) ∧ w' = w := by
  have T : Hid (Calls Try.prog 56 #[.pointer none, .int .i64 a, .int .i64 i] w fun e w' => e = .returned (.tuple #[.int .i64 0, .int .i64 1]) ∧ w' = w) := Lib.hid (by
    go_enter Try.func56, Try.ntmps56
    go_wp2
    go_ret2
    exact ⟨rfl, rfl⟩)
  go_enter Try.func15, Try.ntmps15
  go_wp2_with (go_at_call 56; (with_reducible refine (T.out).mono ?_); rintro e w' ⟨rfl, rfl⟩)
  go_ret2
  exact ⟨rfl, rfl⟩
theorem set_nil (a i x : Int) (w : World) : Calls Try.prog 18 #[.pointer none, .int .i64 a, .int .i64 i, .int .u64 x] w fun e w' => e = .returned (.int .i64 1) ∧ w' = w := by
  have T : Hid (Calls Try.prog 56 #[.pointer none, .int .i64 a, .int .i64 i] w fun e w' => e = .returned (.tuple #[.int .i64 0, .int .i64 1]) ∧ w' = w) := Lib.hid (by
    go_enter Try.func56, Try.ntmps56
    go_wp2
    go_ret2
    exact ⟨rfl, rfl⟩)
  go_enter Try.func18, Try.ntmps18
  go_wp2_with (go_at_call 56; (with_reducible refine (T.out).mono ?_); rintro e w' ⟨rfl, rfl⟩)
  go_ret
  exact ⟨rfl, rfl⟩
theorem size_nil (a : Int) (w : World) : Calls Try.prog 19 #[.pointer none, .int .i64 a] w fun e w' => e = .returned (.int .i64 0) ∧ w' = w := by
  have T := Lib.hid (is_none a w)
  go_enter Try.func19, Try.ntmps19
  go_wp2_with (go_at_call 58; (with_reducible refine (T.out).mono ?_); rintro e w' ⟨rfl, rfl⟩)
  go_ret
  exact ⟨rfl, rfl⟩
theorem mark_nil (a : Int) (w : World) : Calls Try.prog 20 #[.pointer none, .int .i64 a] w fun e w' => e = .returned (.bool false) ∧ w' = w := by
  have T := Lib.hid (is_none a w)
  go_enter Try.func20, Try.ntmps20
  go_wp2_with (go_at_call 58; (with_reducible refine (T.out).mono ?_); rintro e w' ⟨rfl, rfl⟩)
  go_ret
  exact ⟨rfl, rfl⟩
theorem marked_nil (a : Int) (w : World) : Calls Try.prog 21 #[.pointer none, .int .i64 a] w fun e w' => e = .returned (.bool false) ∧ w' = w := by
  have T := Lib.hid (is_none a w)
  go_enter Try.func21, Try.ntmps21
  go_wp2_with (go_at_call 58; (with_reducible refine (T.out).mono ?_); rintro e w' ⟨rfl, rfl⟩)
  go_ret
  exact ⟨rfl, rfl⟩
theorem cap_nil (w : World) : Calls Try.prog 23 #[.pointer none] w fun e w' => e = .returned (.int .i64 0) ∧ w' = w := by
  go_enter Try.func23, Try.ntmps23
  go_wp2
  go_ret
  exact ⟨rfl, rfl⟩
theorem used_nil (w : World) : Calls Try.prog 24 #[.pointer none] w fun e w' => e = .returned (.int .i64 0) ∧ w' = w := by
  go_enter Try.func24, Try.ntmps24
  go_wp2
  go_ret
  exact ⟨rfl, rfl⟩
theorem copy_nil (w : World) : Calls Try.prog 26 #[.pointer none] w fun e w' => e = .returned (.pointer none) ∧ w' = w := by
  go_enter Try.func26, Try.ntmps26
  go_wp2
  go_ret
  exact ⟨rfl, rfl⟩
end Go.Proofs.Ytgdhapapdpccpaa.A
