/- arena: what ArenaBest's takes and frees come to; no program in sight. -/
import Derived.Test.YtgdhapapdpccpaaV
namespace Go.Proofs.Ytgdhapapdpccpaa.A
open Go.RowKit Go.Proofs
set_option linter.unusedVariables false
set_option linter.unusedSimpArgs false

/-- A used block of noughts. -/
def U (k : Nat) : Blk := .used false (List.replicate k 0)
theorem U_sz (k : Nat) : (U k).sz = k := by simp [U, Blk.sz]
theorem F_sz (n : Nat) : (Blk.free n).sz = n := rfl
theorem best_U (n k : Nat) (r : List Blk) : best? n (U k :: r) = (best? n r).map (fun x => (U k :: x.1, x.2)) := rfl
theorem best_nil (n : Nat) : best? n [] = none := rfl
theorem best_take (n s : Nat) (r : List Blk) (h : n ≤ s) (hr : ∀ x, best? n r = some x → s ≤ x.2.1) : best? n (.free s :: r) = some ([], s, r) := by
  simp only [best?]
  rw [if_pos h]
  cases hb : best? n r with
  | none => rfl
  | some x => have := hr x hb; simp only; rw [if_neg (by omega)]
theorem best_more (n s : Nat) (r : List Blk) (x : List Blk × Nat × List Blk) (h : n ≤ s) (hx : best? n r = some x) (hl : x.2.1 < s) : best? n (.free s :: r) = some (.free s :: x.1, x.2) := by
  simp only [best?]
  rw [if_pos h, hx]
  simp only
  rw [if_pos hl]
theorem best_skip (n s : Nat) (r : List Blk) (h : s < n) : best? n (.free s :: r) = (best? n r).map (fun x => (.free s :: x.1, x.2)) := by
  simp only [best?]
  rw [if_neg (by omega)]
theorem takeE_of {n : Nat} {bs pre post : List Blk} {s : Nat} (n0 : 1 ≤ n) (h : best? n bs = some (pre, s, post)) :
    takeE bs n = ((1 + (spanB pre : Int), 0), if n + 2 ≤ s then pre ++ U n :: .free (s - n - 1) :: post else pre ++ U s :: post) := by
  unfold takeE takeR
  rw [if_neg (by omega), show (n : Int).toNat = n by omega, h]
  rfl
/-- A block cut off the free one that stands last. -/
theorem takeE_last (ps : List Nat) (s n : Nat) (n0 : 1 ≤ n) (h : n + 2 ≤ s) : takeE (ps.map U ++ [.free s]) n = ((1 + (spanB (ps.map U) : Int), 0), ps.map U ++ [U n, .free (s - n - 1)]) := by
  have hb : ∀ qs : List Nat, best? n (qs.map U ++ [.free s]) = some (qs.map U, s, []) := by
    intro qs
    induction qs with
    | nil => exact best_take n s [] (by omega) (fun x hx => by cases hx)
    | cons q qs ih => simp only [List.map_cons, List.cons_append]; rw [best_U, ih]; rfl
  rw [takeE_of n0 (hb ps), if_pos h]
section
variable (x y z s : Nat)
theorem bb_last (hs : 40 ≤ s) (n : Nat) (hn : n ≤ 20) : best? n [.free s] = some ([], s, []) := best_take n s [] (by omega) (fun x hx => by cases hx)
/-- The five blocks: x, y, z, one word, and the rest. -/
def B5 (a b c : Blk) : List Blk := [a, b, c, U 1, .free s]
theorem bb_free2 (hs : 30 ≤ s) : freeE (B5 s (U x) (U y) (U z)) (x + 2) = (0, B5 s (U x) (.free y) (U z)) := by
  have := freeE_mid [U x] false (List.replicate y 0) [U z, U 1, .free s] (x + 2) (by simp only [List.map_cons, List.map_nil, spanB, U_sz, F_sz]; omega)
  rw [List.length_replicate] at this
  exact this
theorem bb_take2 (hy : 1 ≤ y) (hy2 : y ≤ 20) (hs : 30 ≤ s) : takeE (B5 s (U x) (.free y) (U z)) y = (((x : Int) + 2, 0), B5 s (U x) (U y) (U z)) := by
  have h : best? y (B5 s (U x) (.free y) (U z)) = some ([U x], y, [U z, U 1, .free s]) := by
    unfold B5
    rw [best_U, best_take y y _ (Nat.le_refl _) (fun t ht => by
      rw [best_U, best_U, best_take y s [] (by omega) (fun x hx => by cases hx)] at ht
      simp only [Option.map_some, Option.some.injEq] at ht
      rw [← ht]; show y ≤ s; omega)]
    rfl
  rw [takeE_of hy h, if_neg (by omega)]
  have : (1 + (spanB [U x] : Int)) = x + 2 := by simp only [List.map_cons, List.map_nil, spanB, U_sz, F_sz]; omega
  rw [this]
  rfl
theorem bb_free1 : freeE (B5 s (U x) (U y) (U z)) 1 = (0, B5 s (.free x) (U y) (U z)) := by
  have := freeE_mid [] false (List.replicate x 0) [U y, U z, U 1, .free s] 1 rfl
  rw [List.length_replicate] at this
  exact this
theorem bb_free3 : freeE (B5 s (.free x) (U y) (U z)) (x + y + 3) = (0, B5 s (.free x) (U y) (.free z)) := by
  have := freeE_mid [.free x, U y] false (List.replicate z 0) [U 1, .free s] (x + y + 3) (by simp only [spanB, U_sz, F_sz]; omega)
  rw [List.length_replicate] at this
  exact this
theorem bb_small (hz : 1 ≤ z) (h : z < x) (hx : x ≤ 20) (hs : 30 ≤ s) : takeE (B5 s (.free x) (U y) (.free z)) z = (((x : Int) + y + 3, 0), B5 s (.free x) (U y) (U z)) := by
  have h3 : best? z [.free z, U 1, .free s] = some ([], z, [U 1, .free s]) := best_take z z _ (Nat.le_refl _) (fun t ht => by
    rw [best_U, best_take z s [] (by omega) (fun x hx => by cases hx)] at ht
    simp only [Option.map_some, Option.some.injEq] at ht
    rw [← ht]; show z ≤ s; omega)
  have h2 : best? z [U y, .free z, U 1, .free s] = some ([U y], z, [U 1, .free s]) := by rw [best_U, h3]; rfl
  have h1 : best? z (B5 s (.free x) (U y) (.free z)) = some ([.free x, U y], z, [U 1, .free s]) := best_more z x _ _ (by omega) h2 h
  rw [takeE_of hz h1, if_neg (by omega)]
  have : (1 + (spanB [.free x, U y] : Int)) = x + y + 3 := by simp only [spanB, U_sz, F_sz]; omega
  rw [this]
  rfl
theorem bb_big (hx : 1 ≤ x) (hx2 : x ≤ 20) (hs : 30 ≤ s) : takeE (B5 s (.free x) (U y) (U z)) x = ((1, 0), B5 s (U x) (U y) (U z)) := by
  have h1 : best? x (B5 s (.free x) (U y) (U z)) = some ([], x, [U y, U z, U 1, .free s]) := best_take x x _ (Nat.le_refl _) (fun t ht => by
    rw [best_U, best_U, best_U, best_take x s [] (by omega) (fun x hx => by cases hx)] at ht
    simp only [Option.map_some, Option.some.injEq] at ht
    rw [← ht]; show x ≤ s; omega)
  rw [takeE_of hx h1, if_neg (by omega)]
  rfl
theorem bb_first (hx : 1 ≤ x) (h : x ≤ z) (hx2 : x ≤ 20) (hs : 30 ≤ s) : takeE (B5 s (.free x) (U y) (.free z)) x = ((1, 0), B5 s (U x) (U y) (.free z)) := by
  have h1 : best? x (B5 s (.free x) (U y) (.free z)) = some ([], x, [U y, .free z, U 1, .free s]) := best_take x x _ (Nat.le_refl _) (fun t ht => by
    have k := best_some x _ t ht
    exact k.fits)
  rw [takeE_of hx h1, if_neg (by omega)]
  rfl
theorem bb_second (hz : 1 ≤ z) (hz2 : z ≤ 20) (hs : 30 ≤ s) : takeE (B5 s (U x) (U y) (.free z)) z = (((x : Int) + y + 3, 0), B5 s (U x) (U y) (U z)) := by
  have h3 : best? z [.free z, U 1, .free s] = some ([], z, [U 1, .free s]) := best_take z z _ (Nat.le_refl _) (fun t ht => (best_some z _ t ht).fits)
  have h1 : best? z (B5 s (U x) (U y) (.free z)) = some ([U x, U y], z, [U 1, .free s]) := by
    unfold B5
    rw [best_U, best_U, h3]; rfl
  rw [takeE_of hz h1, if_neg (by omega)]
  have : (1 + (spanB [U x, U y] : Int)) = x + y + 3 := by simp only [List.map_cons, List.map_nil, spanB, U_sz, F_sz]; omega
  rw [this]
  rfl
theorem bb_size1 : sizeR (B5 s (U x) (U y) (U z)) 1 = x := by simp [sizeR, at?, B5, U]
theorem bb_size3 : sizeR (B5 s (U x) (U y) (U z)) (x + y + 3) = z := by
  have h : at? (x + y + 3) 1 ([U x, U y] ++ U z :: [U 1, .free s]) = some (false, List.replicate z 0) := by
    have := at_mid [U x, U y] (U z) [U 1, .free s] 1
    rw [show (1 : Int) + (spanB [U x, U y] : Int) = x + y + 3 by simp only [List.map_cons, List.map_nil, spanB, U_sz, F_sz]; omega] at this
    exact this
  unfold sizeR
  rw [show B5 s (U x) (U y) (U z) = [U x, U y] ++ U z :: [U 1, .free s] from rfl, h]
  simp
theorem bb_all (hx : x ≤ 20) (hx0 : 1 ≤ x) (hy : y ≤ 20) (hy0 : 1 ≤ y) (hz : z ≤ 20) (hz0 : 1 ≤ z) :
    takeE [.free 99] x = ((1, 0), [U x, .free (99 - x - 1)]) ∧ takeE [U x, .free (99 - x - 1)] y = (((x : Int) + 2, 0), [U x, U y, .free (99 - x - 1 - y - 1)]) ∧
    takeE [U x, U y, .free (99 - x - 1 - y - 1)] z = (((x : Int) + y + 3, 0), [U x, U y, U z, .free (99 - x - 1 - y - 1 - z - 1)]) ∧
    takeE [U x, U y, U z, .free (99 - x - 1 - y - 1 - z - 1)] 1 = (((x : Int) + y + z + 4, 0), B5 (99 - x - 1 - y - 1 - z - 1 - 1 - 1) (U x) (U y) (U z)) := by
  have e1 : (1 + (spanB ([x].map U) : Int)) = x + 2 := by simp only [List.map_cons, List.map_nil, spanB, U_sz, F_sz]; omega
  have e2 : (1 + (spanB ([x, y].map U) : Int)) = x + y + 3 := by simp only [List.map_cons, List.map_nil, spanB, U_sz, F_sz]; omega
  have e3 : (1 + (spanB ([x, y, z].map U) : Int)) = x + y + z + 4 := by simp only [List.map_cons, List.map_nil, spanB, U_sz, F_sz]; omega
  have t0 := takeE_last [] 99 x hx0 (by omega)
  have t1 := takeE_last [x] (99 - x - 1) y hy0 (by omega)
  have t2 := takeE_last [x, y] (99 - x - 1 - y - 1) z hz0 (by omega)
  have t3 := takeE_last [x, y, z] (99 - x - 1 - y - 1 - z - 1) 1 (by decide) (by omega)
  rw [e1] at t1
  rw [e2] at t2
  rw [e3] at t3
  exact ⟨t0, t1, t2, t3⟩
theorem bb_one (n : Nat) (n0 : 1 ≤ n) : takeE [.free (n + 1)] n = ((1, 0), [U (n + 1)]) ∧ sizeR [U (n + 1)] 1 = n + 1 := by
  refine ⟨?_, by simp [sizeR, at?, U]⟩
  rw [takeE_of n0 (best_take n (n + 1) [] (by omega) (fun x hx => by cases hx)), if_neg (by omega)]
  rfl
end
end Go.Proofs.Ytgdhapapdpccpaa.A
