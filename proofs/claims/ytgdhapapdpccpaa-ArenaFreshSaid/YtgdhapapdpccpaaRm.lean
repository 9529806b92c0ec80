/- arena: Room: the greatest of the free blocks: MaxFunc with its comparison; slices.Backward. -/
import Derived.Test.YtgdhapapdpccpaaNw
import Derived.RangeFuncNested
import Derived.RangeFuncBound
import Derived.RangeFuncCalls
import Derived.RangeFuncLeaves
import Derived.RangeFuncBox
import Derived.Shelf.Abstract
import Derived.Shelf.RegionOpen
import Derived.OwnWalkIn
import Derived.TacticsInMore
import Derived.LoopNIn
import Derived.LoopIn
namespace Go.Proofs.Ytgdhapapdpccpaa.A
open Go.RowKit Go.Proofs
set_option linter.unusedVariables false
set_option linter.unusedSimpArgs false

set_option maxRecDepth 100000 in
theorem cmp_calls {w : World} {A : Ar} (R : Rep w A) (g : Nat) (hg : w.cell? ⟨g, 0, none⟩ = some (.pointer (some ⟨A.p, 0, none⟩))) (x y : Int) (x0 : 1 ≤ x) (x1 : x ≤ A.ws.length) (y0 : 1 ≤ y) (y1 : y ≤ A.ws.length)
    (sx : 0 ≤ A.size x ∧ A.size x ≤ 1048576) (sy : 0 ≤ A.size y ∧ A.size y ≤ 1048576) :
    Calls Try.prog 62 #[.int .i64 x, .int .i64 y, .pointer (some ⟨g, 0, none⟩)] w fun e w' => e = .returned (.int .i64 (A.size x - A.size y)) ∧ ∃ q, w' = w.drewN q := by
  have T := Lib.hid (fun (q : Nat) (z : Int) (hz : z = x ∨ z = y) => size_calls (R.drewN q) z (by rcases hz with rfl | rfl <;> assumption) (by rcases hz with rfl | rfl <;> assumption))
  have k1 : IntKind.i64.wrap (A.size x - A.size y) = A.size x - A.size y := i64w _ (by omega) (by omega)
  have k2 : wrap64 (A.size x - A.size y) = A.size x - A.size y := w64 _ (by omega) (by omega)
  clear sx sy R x0 x1 y0 y1
  go_enter Try.func62, Try.ntmps62
  go_wp2_with fail
  go_quiet ((go_at_call 52; exact Calls.quiet_of_same (T.out _ _ (by first | exact Or.inl rfl | exact Or.inr rfl))))
  go_wp2_with fail
  go_ret
  exact ⟨rfl, _, rfl⟩

/-- The first of the greatest. -/
def maxBy (g : Int → Int) (m : Int) (xs : List Int) : Int := xs.foldl (fun m x => if 0 < g x - g m then x else m) m
theorem maxBy_snoc (g : Int → Int) (m : Int) (xs : List Int) (x : Int) : maxBy g m (xs ++ [x]) = if 0 < g x - g (maxBy g m xs) then x else maxBy g m xs := by simp [maxBy]
theorem maxBy_mem (g : Int → Int) : ∀ (xs : List Int) (m : Int), maxBy g m xs = m ∨ maxBy g m xs ∈ xs
  | [], m => .inl rfl
  | x :: r, m => by
    show maxBy g (if 0 < g x - g m then x else m) r = m ∨ maxBy g (if 0 < g x - g m then x else m) r ∈ x :: r
    split
    · rcases maxBy_mem g r x with h | h
      · rw [h]; exact .inr (List.mem_cons_self ..)
      · exact .inr (List.mem_cons_of_mem _ h)
    · rcases maxBy_mem g r m with h | h
      · exact .inl h
      · exact .inr (List.mem_cons_of_mem _ h)
theorem maxBy_ge (g : Int → Int) : ∀ (xs : List Int) (m : Int), g m ≤ g (maxBy g m xs) ∧ ∀ x ∈ xs, g x ≤ g (maxBy g m xs)
  | [], m => ⟨Int.le_refl _, fun x hx => by cases hx⟩
  | x :: r, m => by
    show g m ≤ g (maxBy g (if 0 < g x - g m then x else m) r) ∧ ∀ y ∈ x :: r, g y ≤ g (maxBy g (if 0 < g x - g m then x else m) r)
    split
    · have ih := maxBy_ge g r x
      refine ⟨by omega, fun y hy => ?_⟩
      rcases List.mem_cons.1 hy with rfl | hy
      · exact ih.1
      · exact ih.2 y hy
    · have ih := maxBy_ge g r m
      refine ⟨ih.1, fun y hy => ?_⟩
      rcases List.mem_cons.1 hy with rfl | hy
      · omega
      · exact ih.2 y hy

set_option maxRecDepth 100000 in
set_option maxHeartbeats 1000000 in
theorem max_calls {w : World} {A : Ar} (R : Rep w A) (g : Nat) (hg : w.cell? ⟨g, 0, none⟩ = some (.pointer (some ⟨A.p, 0, none⟩))) {f : FS} (hf : f.ok w) (b : Nat) (hb : f.blk = some b) (x : Int) (xs : List Int) (hx : f.xs = x :: xs) (hl : f.xs.length ≤ 1048576)
    (hs : ∀ y ∈ f.xs, 1 ≤ y ∧ y ≤ A.ws.length ∧ 0 ≤ A.size y ∧ A.size y ≤ 1048576) :
    Calls Try.prog 61 #[f.val, .func (.func 62) #[] #[.pointer (some ⟨g, 0, none⟩)]] w fun e w' => e = .returned (.int .i64 (maxBy A.size x xs)) ∧ ∃ q, w' = w.drewN q := by
  have hval : f.val = .slice (some ⟨b, 0, none⟩) (xs.length + 1) f.cap := by unfold FS.val; rw [hb, hx]; rfl
  rw [hval]
  have hlen : xs.length + 1 ≤ 1048576 := by rw [hx] at hl; exact hl
  have EL := Lib.hid (fun (k : Nat) (hk : k < f.xs.length) => FS.elem hf hb k hk)
  have CM := Lib.hid (fun (q : Nat) (y z : Int) (hy : y ∈ f.xs) (hz : z ∈ f.xs) => cmp_calls (R.drewN q) g (by simpa using hg) y z (hs y hy).1 (hs y hy).2.1 (hs z hz).1 (hs z hz).2.1 (hs y hy).2.2 (hs z hz).2.2)
  have e0 : w.cell? ⟨b, 0, none⟩ = some (.int .i64 x) := by have := FS.elem hf hb 0 (by rw [hx]; simp); rw [hx] at this; exact this
  have SZ := Lib.hid (fun y hy => (hs y hy).2.2)
  have hx' := Lib.hid hx
  clear R hg hf hb hs hval hl hx
  generalize hL : xs.length = L at *
  have l0 : (0 : Int) < (L : Int) + 1 := by omega
  have l1 : (1 : Int) ≤ (L : Int) + 1 := by omega
  have hL' := Lib.hid hL
  clear hL
  go_enter Try.func61, Try.ntmps61
  go_wp2_with fail
  go_loopg [5, 6] (L + 1) (fun gk v5 v6 wr => ∃ (k q : Nat), v6 = .int .i64 ((k : Int) + 1) ∧ k ≤ L ∧ v5 = .int .i64 (maxBy A.size x (xs.take k)) ∧ wr = w.drewN q ∧ L - k < gk)
  case atStart => exact ⟨0, 0, rfl, Nat.zero_le _, rfl, rfl, by omega⟩
  case round =>
    obtain ⟨k, q, rfl, hk, rfl, rfl, hgk⟩ := hrel
    by_cases hkl : k < L
    · have hy : xs.getD k 0 ∈ f.xs := by rw [hx'.out]; refine List.mem_cons_of_mem _ ?_; simp [List.getD, hL'.out, hkl]
      have hm : maxBy A.size x (xs.take k) ∈ f.xs := by
        rw [hx'.out]
        rcases maxBy_mem A.size (xs.take k) x with h | h
        · rw [h]; exact List.mem_cons_self ..
        · exact List.mem_cons_of_mem _ (List.mem_of_mem_take h)
      have el := EL.out (k + 1) (by rw [hx'.out, List.length_cons, hL'.out]; omega)
      rw [hx'.out, List.getD_cons_succ] at el
      have C := Lib.hid (CM.out q _ _ hy hm)
      have s1 := SZ.out _ hy
      have s2 := SZ.out _ hm
      have tk := maxBy_snoc A.size x (xs.take k) (xs.getD k 0)
      rw [← take_snoc xs k (by rw [hL'.out]; exact hkl)] at tk
      clear hy hm CM EL SZ
      generalize xs.getD k 0 = y at *
      generalize maxBy A.size x (xs.take k) = m at *
      have z1 : (k : Int) + 1 < (L : Int) + 1 := by omega
      have z2 : (0 : Int) ≤ (k : Int) + 1 := by omega
      have q3 : ((k : Int) + 1).toNat = k + 1 := by omega
      have hgk' : L - (k + 1) + 1 < gk + 0 := by omega
      have hk1 : k + 1 ≤ L := hkl
      have K := Lib.hid (free_num ((k : Int) + 1) 0 (by omega) (by omega))
      clear hgk hlen hk
      have q1 : IntKind.i64.wrap ((k : Int) + 1 + 1) = (k : Int) + 1 + 1 := by have := K.out.2.2.1; simpa using this
      have q2 : wrap64 ((k : Int) + 1 + 1) = (k : Int) + 1 + 1 := by have := K.out.2.2.2; simpa using this
      clear K s1 s2
      by_cases hc : 0 < A.size y - A.size m
      · rw [if_pos hc] at tk
        have tk' := Lib.hid tk
        clear tk
        go_wp2_with (first | (go_at_call 62; (with_reducible refine (C.out).mono ?_); rintro e w' ⟨rfl, q', rfl⟩))
        go_roundg (L - (k + 1) + 1)
        case measure => exact hgk'
        case rel => exact ⟨k + 1, q + q', by simp, hk1, by rw [tk'.out], rfl, Nat.lt_succ_self _⟩
      · rw [if_neg hc] at tk
        have tk' := Lib.hid tk
        have hc' : decide (A.size m < A.size y) = false := decide_eq_false (fun h => hc (Int.sub_pos.2 h))
        clear tk hc
        go_wp2_with (first | (go_at_call 62; (with_reducible refine (C.out).mono ?_); rintro e w' ⟨rfl, q', rfl⟩))
        go_roundg (L - (k + 1) + 1)
        case measure => exact hgk'
        case rel => exact ⟨k + 1, q + q', by simp, hk1, by rw [tk'.out], rfl, Nat.lt_succ_self _⟩
    · obtain rfl : k = L := by omega
      have hend : xs.take k = xs := by rw [← hL'.out, List.take_length]
      rw [hend]
      have hlt : decide ((k : Int) + 1 < (k : Int) + 1) = false := decide_eq_false (by omega)
      clear hend hkl hgk hk hlen l0 l1 CM EL SZ
      go_wp2_with fail
      go_ret
      exact ⟨rfl, q, rfl⟩
end Go.Proofs.Ytgdhapapdpccpaa.A
