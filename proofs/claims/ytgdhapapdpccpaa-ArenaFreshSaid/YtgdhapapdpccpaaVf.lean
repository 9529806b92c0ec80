/- arena: what ArenaFresh's takes and frees come to; no program in sight. -/
import Derived.Test.YtgdhapapdpccpaaVb
namespace Go.Proofs.Ytgdhapapdpccpaa.A
open Go.RowKit Go.Proofs
set_option linter.unusedVariables false
set_option linter.unusedSimpArgs false

theorem best_row (ps : List Nat) (n : Nat) (r : List Blk) : best? n (ps.map U ++ r) = (best? n r).map (fun x => (ps.map U ++ x.1, x.2)) := by
  induction ps with
  | nil => simp
  | cons q qs ih =>
    simp only [List.map_cons, List.cons_append]
    rw [best_U, ih]
    cases best? n r <;> rfl
theorem takeE_whole (ps : List Nat) (s n : Nat) (n0 : 1 ≤ n) (h1 : n ≤ s) (h2 : s < n + 2) : takeE (ps.map U ++ [.free s]) n = ((1 + (spanB (ps.map U) : Int), 0), ps.map U ++ [U s]) := by
  have hb : best? n (ps.map U ++ [.free s]) = some (ps.map U, s, []) := by
    rw [best_row, best_take n s [] h1 (fun x hx => by cases hx)]
    simp
  rw [takeE_of n0 hb, if_neg (by omega)]
theorem room_row (ps : List Nat) (r : List Blk) : roomR (ps.map U ++ r) = roomR r := by
  induction ps with
  | nil => rfl
  | cons q qs ih => simp only [List.map_cons, List.cons_append]; exact ih
/-- k blocks of n words. -/
def rowN (n k : Nat) : List Blk := (List.replicate k n).map U
theorem span_rowN (n k : Nat) : spanB (rowN n k) = k * (n + 1) := by
  unfold rowN
  induction k with
  | zero => simp [spanB]
  | succ k ih => simp only [List.replicate_succ, List.map_cons, spanB, U_sz, ih]; rw [Nat.succ_mul]; omega
theorem rowN_snoc (n k : Nat) : rowN n (k + 1) = rowN n k ++ [U n] := by
  unfold rowN
  rw [show List.replicate (k + 1) n = List.replicate k n ++ [n] from List.replicate_succ', List.map_append]
  rfl
theorem used_rowN (n k : Nat) : usedB (rowN n k) = k * (n + 1) := by
  unfold rowN
  induction k with
  | zero => simp [usedB]
  | succ k ih => simp only [List.replicate_succ, List.map_cons]; show _ + usedB _ = _; rw [ih, Nat.succ_mul, List.length_replicate]; omega
/-- The arena of N words behind k takes of n. -/
def fresh (N n k : Nat) : List Blk := if N - k * (n + 1) = 0 then rowN n k else if N - k * (n + 1) = 1 then rowN n (k - 1) ++ [U (n + 1)] else rowN n k ++ [.free (N - k * (n + 1) - 1)]
theorem fresh_zero (N n : Nat) (hN : 2 ≤ N) : fresh N n 0 = newR N := by
  unfold fresh newR
  rw [if_neg (by omega), if_neg (by omega), if_neg (by omega)]
  simp [rowN]
theorem fresh_next (N n k : Nat) (n0 : 1 ≤ n) (h : (k + 1) * (n + 1) ≤ N) : takeE (fresh N n k) n = ((1 + ((k * (n + 1) : Nat) : Int), 0), fresh N n (k + 1)) := by
  have hs : N - (k + 1) * (n + 1) = N - k * (n + 1) - (n + 1) := by rw [Nat.succ_mul]; omega
  have hk : k * (n + 1) + (n + 1) ≤ N := by rw [← Nat.succ_mul]; exact h
  unfold fresh
  rw [hs]
  generalize hM : k * (n + 1) = M at *
  rw [if_neg (by omega), if_neg (by omega)]
  have hsp : (1 + (spanB ((List.replicate k n).map U) : Int)) = 1 + (M : Int) := by have := span_rowN n k; unfold rowN at this; rw [this, hM]
  by_cases h2 : n + 2 ≤ N - M - 1
  · rw [if_neg (by omega), if_neg (by omega)]
    have := takeE_last (List.replicate k n) (N - M - 1) n n0 h2
    rw [hsp] at this
    rw [rowN_snoc, List.append_assoc]
    rw [show N - M - (n + 1) - 1 = N - M - 1 - n - 1 by omega]
    exact this
  · have := takeE_whole (List.replicate k n) (N - M - 1) n n0 (by omega) (by omega)
    rw [hsp] at this
    by_cases h3 : N - M - (n + 1) = 0
    · rw [if_pos h3, rowN_snoc]
      rw [show N - M - 1 = n by omega] at this ⊢
      exact this
    · rw [if_neg h3, if_pos (by omega)]
      rw [show N - M - 1 = n + 1 by omega] at this ⊢
      exact this
theorem fresh_full (N n k : Nat) (n0 : 1 ≤ n) (h : k * (n + 1) ≤ N) (h2 : N < (k + 1) * (n + 1)) : takeE (fresh N n k) n = ((0, 5), fresh N n k) := by
  refine takeE_none n0 ?_
  rw [Nat.succ_mul] at h2
  unfold fresh
  generalize k * (n + 1) = M at *
  split
  · have := room_row (List.replicate k n) []
    rw [List.append_nil] at this
    unfold rowN
    rw [this]
    simp only [roomR]; omega
  · split
    · rw [rowN, room_row]
      simp only [roomR, U]; omega
    · rw [rowN, room_row]
      simp only [roomR]; omega
theorem at_rowN (n k : Nat) (c p : Int) : (at? c p (rowN n k)).isSome = true ↔ ∃ j : Nat, j < k ∧ c = p + ((j * (n + 1) : Nat) : Int) := by
  induction k with
  | zero => simp [rowN, at?]
  | succ k ih =>
    rw [rowN_snoc, at_append, span_rowN]
    have e : at? c (p + ((k * (n + 1) : Nat) : Int)) [U n] = if p + ((k * (n + 1) : Nat) : Int) = c then some (false, List.replicate n 0) else none := by
      show (if _ then _ else _) = _
      rfl
    rw [e]
    constructor
    · intro h
      cases hr : at? c p (rowN n k) with
      | some v =>
        obtain ⟨j, hj, hc⟩ := ih.1 (by rw [hr]; rfl)
        exact ⟨j, by omega, hc⟩
      | none =>
        rw [hr, Option.none_or] at h
        split at h
        · rename_i hc
          exact ⟨k, by omega, hc.symm⟩
        · cases h
    · rintro ⟨j, hj, hc⟩
      by_cases hjk : j < k
      · have := ih.2 ⟨j, hjk, hc⟩
        cases hr : at? c p (rowN n k) with
        | some v => rfl
        | none => rw [hr] at this; cases this
      · obtain rfl : j = k := by omega
        rw [if_pos hc.symm]
        cases at? c p (rowN n j) <;> rfl
/-- Which addresses are used behind all takes. -/
theorem at_fresh (N n q : Nat) (n0 : 1 ≤ n) (hN : 2 ≤ N) (h : q * (n + 1) ≤ N) (h2 : N < (q + 1) * (n + 1)) (c : Int) : (at? c 1 (fresh N n q)).isSome = true ↔ ∃ j : Nat, j < q ∧ c = 1 + ((j * (n + 1) : Nat) : Int) := by
  unfold fresh
  split
  · exact at_rowN n q c 1
  · split
    · rename_i h3 h4
      obtain ⟨k, rfl⟩ : ∃ k, q = k + 1 := ⟨q - 1, by
        cases q with
        | zero => simp at h4; omega
        | succ k => rfl⟩
      rw [Nat.add_sub_cancel]
      have e1 := at_rowN n (k + 1) c 1
      rw [rowN_snoc, at_append, span_rowN] at e1
      rw [at_append, span_rowN]
      have e2 : ∀ x : Nat, at? c (1 + ((k * (n + 1) : Nat) : Int)) [U x] = if 1 + ((k * (n + 1) : Nat) : Int) = c then some (false, List.replicate x 0) else none := fun x => rfl
      rw [e2] at e1
      rw [e2]
      refine Iff.trans ?_ e1
      cases at? c 1 (rowN n k) with
      | some v => exact Iff.rfl
      | none => rw [Option.none_or, Option.none_or]; split <;> exact Iff.rfl
    · rw [at_append, at_free]
      rw [show at? c (1 + (spanB (rowN n q) : Int) + ((N - q * (n + 1) - 1 : Nat) : Int) + 1) [] = none from rfl, Option.or_none]
      exact at_rowN n q c 1
theorem size_fresh (N n k : Nat) (n0 : 1 ≤ n) (h : (k + 1) * (n + 1) ≤ N) : sizeR (fresh N n (k + 1)) (1 + ((k * (n + 1) : Nat) : Int)) = n ∨ sizeR (fresh N n (k + 1)) (1 + ((k * (n + 1) : Nat) : Int)) = n + 1 := by
  have key : ∀ (x : Nat) (r : List Blk), sizeR (rowN n k ++ (U x :: r)) (1 + ((k * (n + 1) : Nat) : Int)) = x := fun x r => by
    have := at_mid (rowN n k) (U x) r 1
    rw [span_rowN] at this
    unfold sizeR
    rw [this]
    simp [U]
  unfold fresh
  split
  · rw [rowN_snoc]; exact .inl (key n [])
  · split
    · rw [Nat.add_sub_cancel]; exact .inr (by have := key (n + 1) []; rw [this]; omega)
    · rw [rowN_snoc, List.append_assoc]; exact .inl (key n _)
theorem used_fresh (N n q : Nat) (n0 : 1 ≤ n) (hN : 2 ≤ N) (h : q * (n + 1) ≤ N) (h2 : N < (q + 1) * (n + 1)) : usedB (fresh N n q) ≤ N ∧ N - usedB (fresh N n q) ≤ n + 1 := by
  rw [Nat.succ_mul] at h2
  unfold fresh
  split
  · rw [used_rowN]; omega
  · split
    · rename_i h3 h4
      obtain ⟨k, rfl⟩ : ∃ k, q = k + 1 := ⟨q - 1, by
        cases q with
        | zero => simp at h4; omega
        | succ k => rfl⟩
      rw [Nat.add_sub_cancel, usedB_append, used_rowN]
      show _ + (List.replicate (n + 1) (0 : Int)).length + 1 + 0 ≤ N ∧ _
      rw [Nat.succ_mul] at *
      simp only [usedB, U, List.length_replicate]
      omega
    · rw [usedB_append, used_rowN]
      simp only [usedB]
      omega
/-! ### The frees -/
/-- Is the block of that number freed in that turn? -/
def sel (odd : Bool) (k j : Nat) : Bool := (j % 2 == k) == odd
/-- Which blocks are left in turn k, before block i. -/
def left (odd : Bool) (k i j : Nat) : Bool := match k with
  | 0 => !(decide (j < i) && sel odd 0 j)
  | 1 => sel odd 1 j && !decide (j < i)
  | _ => false
def Left (n q : Nat) (R : Nat → Bool) (bs : List Blk) : Prop := ∀ c : Int, (at? c 1 bs).isSome = true ↔ ∃ j : Nat, j < q ∧ R j = true ∧ c = 1 + ((j * (n + 1) : Nat) : Int)
theorem Left.congr {n q : Nat} {R S : Nat → Bool} {bs : List Blk} (h : Left n q R bs) (e : ∀ j, j < q → R j = S j) : Left n q S bs := fun c => (h c).trans
  ⟨fun ⟨j, h1, h2, h3⟩ => ⟨j, h1, (e j h1) ▸ h2, h3⟩, fun ⟨j, h1, h2, h3⟩ => ⟨j, h1, (e j h1).symm ▸ h2, h3⟩⟩
theorem sel_two (odd : Bool) (j : Nat) : sel odd 1 j = !sel odd 0 j := by
  unfold sel
  have : j % 2 = 0 ∨ j % 2 = 1 := by omega
  rcases this with h | h <;> rw [h] <;> cases odd <;> rfl
theorem left_start (odd : Bool) (j : Nat) : left odd 0 0 j = true := by simp [left]
theorem left_turn (odd : Bool) (q j : Nat) (hj : j < q) : left odd 0 q j = left odd 1 0 j := by
  simp [left, hj, sel_two]
theorem left_end (odd : Bool) (q j : Nat) (hj : j < q) : left odd 1 q j = left odd 2 0 j := by simp [left, hj]
theorem left_skip (odd : Bool) (k i j : Nat) (h : sel odd k i = false) : left odd k i j = left odd k (i + 1) j := by
  match k with
  | 0 =>
    simp only [left]
    by_cases hj : j = i
    · subst hj; simp [h]
    · by_cases h2 : j < i
      · simp [h2, show j < i + 1 by omega]
      · simp [h2, show ¬ j < i + 1 by omega]
  | 1 =>
    simp only [left]
    by_cases hj : j = i
    · subst hj; simp [h]
    · by_cases h2 : j < i
      · simp [h2, show j < i + 1 by omega]
      · simp [h2, show ¬ j < i + 1 by omega]
  | k + 2 => rfl
theorem left_take (odd : Bool) (k i j : Nat) (hk : k < 2) (h : sel odd k i = true) : left odd k i i = true ∧ left odd k (i + 1) j = (left odd k i j && !(j == i)) := by
  match k, hk with
  | 0, _ =>
    simp only [left]
    refine ⟨by simp, ?_⟩
    by_cases hj : j = i
    · subst hj; simp [h]
    · by_cases h2 : j < i
      · simp [h2, show j < i + 1 by omega, hj]
      · simp [h2, show ¬ j < i + 1 by omega, hj]
  | 1, _ =>
    simp only [left]
    refine ⟨by simp [h], ?_⟩
    by_cases hj : j = i
    · subst hj; simp
    · by_cases h2 : j < i
      · simp [h2, show j < i + 1 by omega, hj]
      · simp [h2, show ¬ j < i + 1 by omega, hj]
theorem mul_inj (n a b : Nat) (h : a * (n + 1) = b * (n + 1)) : a = b := Nat.eq_of_mul_eq_mul_right (Nat.succ_pos n) h
/-- One free. -/
theorem Left.free {odd : Bool} {n q k i : Nat} {bs : List Blk} (h : Left n q (left odd k i) bs) (hk : k < 2) (hi : i < q) (hs : sel odd k i = true) :
    (freeE bs (1 + ((i * (n + 1) : Nat) : Int))).1 = 0 ∧ Left n q (left odd k (i + 1)) (freeE bs (1 + ((i * (n + 1) : Nat) : Int))).2 := by
  have hsome := (h (1 + ((i * (n + 1) : Nat) : Int))).2 ⟨i, hi, (left_take odd k i i hk hs).1, rfl⟩
  obtain ⟨⟨m, ws⟩, hv⟩ := Option.isSome_iff_exists.1 hsome
  obtain ⟨e1, e2, e3⟩ := freeE_some hv
  refine ⟨e1, fun c => ?_⟩
  rw [e2 c]
  by_cases hc : c = 1 + ((i * (n + 1) : Nat) : Int)
  · rw [if_pos hc]
    constructor
    · intro h; cases h
    · rintro ⟨j, h1, h2, h3⟩
      have : j = i := mul_inj n j i (by omega)
      rw [(left_take odd k i j hk hs).2, this] at h2
      simp at h2
  · rw [if_neg hc, h c]
    constructor
    · rintro ⟨j, h1, h2, h3⟩
      have : j ≠ i := fun e => hc (by rw [h3, e])
      exact ⟨j, h1, by rw [(left_take odd k i j hk hs).2, h2]; simp [this], h3⟩
    · rintro ⟨j, h1, h2, h3⟩
      rw [(left_take odd k i j hk hs).2, Bool.and_eq_true] at h2
      exact ⟨j, h1, h2.1, h3⟩
theorem Left.none {n q N : Nat} {bs : List Blk} {odd : Bool} (h : Left n q (left odd 2 0) bs) (g : Good bs) (hs : bs ≠ [] → spanB bs = N) (ht : bs = [] → N ≤ 1) (hN : 2 ≤ N) : usedB bs = 0 ∧ roomR bs = N - 1 := by
  have hu := at_none_used bs 1 (fun c => by
    cases hc : at? c 1 bs with
    | none => rfl
    | some v =>
      obtain ⟨j, _, h2, _⟩ := (h c).1 (by rw [hc]; rfl)
      cases h2)
  refine ⟨hu, ?_⟩
  rcases used_zero bs g hu with e | e
  · have := ht e; omega
  · have := hs (by rw [e]; simp)
    rw [this] at e
    rw [e]
    simp only [roomR]; omega
end Go.Proofs.Ytgdhapapdpccpaa.A
