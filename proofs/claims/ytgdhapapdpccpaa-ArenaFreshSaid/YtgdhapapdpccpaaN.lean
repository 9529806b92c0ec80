/- arena: rows of blocks: best fit, freeing, sweeping, as plain functions; no program in sight. -/
import Derived.Test.YtgdhapapdpccpaaK
import Derived.Lib.ItoaNum
namespace Go.Proofs.Ytgdhapapdpccpaa.A
open Go.RowKit Go.Proofs
set_option linter.unusedVariables false
set_option linter.unusedSimpArgs false

theorem cls_mono (a b : Nat) (h0 : 1 ≤ a) (h : a ≤ b) (h1 : b ≤ 1048576) : cls (a : Int) ≤ cls (b : Int) := by
  unfold cls Lib.bitLen
  rw [Int.toNat_natCast, Int.toNat_natCast]
  have k1 := Lib.bitLenAux_bounds 64 a (by omega) (by omega)
  have k2 := Lib.bitLenAux_bounds 64 b (by omega) (by omega)
  have : 2 ^ (Lib.bitLenAux 64 a - 1) < 2 ^ Lib.bitLenAux 64 b := by omega
  have := (Nat.pow_lt_pow_iff_right (by decide : 1 < 2)).1 this
  omega

/-! ### Best fit -/
/-- The first of the least free blocks of so many words at least: what is ahead of it, its size, what is behind it. -/
def best? (n : Nat) : List Blk → Option (List Blk × Nat × List Blk)
  | [] => none
  | .used m ws :: r => (best? n r).map (fun x => (.used m ws :: x.1, x.2))
  | .free s :: r =>
    if n ≤ s then match best? n r with
      | none => some ([], s, r)
      | some x => if x.2.1 < s then some (.free s :: x.1, x.2) else some ([], s, r)
    else (best? n r).map (fun x => (.free s :: x.1, x.2))
def takeR (n : Nat) (bs : List Blk) : Option (Int × List Blk) := (best? n bs).map (fun x => (1 + (spanB x.1 : Int),
  if n + 2 ≤ x.2.1 then x.1 ++ .used false (List.replicate n 0) :: .free (x.2.1 - n - 1) :: x.2.2 else x.1 ++ .used false (List.replicate x.2.1 0) :: x.2.2))
/-- The best is among the blocks, is great enough, and no other is better. -/
structure Best (n : Nat) (bs : List Blk) (pre : List Blk) (s : Nat) (post : List Blk) : Prop where
  eq : bs = pre ++ .free s :: post
  fits : n ≤ s
  least : ∀ pre' s' post', bs = pre' ++ .free s' :: post' → n ≤ s' → s < s' ∨ (s = s' ∧ spanB pre ≤ spanB pre')
theorem best_none (n : Nat) : ∀ bs, best? n bs = none → ∀ s, Blk.free s ∈ bs → s < n
  | [], _, s, h => by cases h
  | .used m ws :: r, h, s, hs => by
    simp only [best?, Option.map_eq_none_iff] at h
    rcases List.mem_cons.1 hs with h1 | h1
    · cases h1
    · exact best_none n r h s h1
  | .free k :: r, h, s, hs => by
    simp only [best?] at h
    split at h
    · split at h
      · cases h
      · split at h <;> cases h
    · rename_i hk
      simp only [Option.map_eq_none_iff] at h
      rcases List.mem_cons.1 hs with h1 | h1
      · cases h1; omega
      · exact best_none n r h s h1
theorem Best.cons {n : Nat} {bs pre post : List Blk} {s : Nat} (h : Best n bs pre s post) (b : Blk) (hb : ∀ k, b = .free k → n ≤ k → s < k) : Best n (b :: bs) (b :: pre) s post where
  eq := by rw [h.eq]; rfl
  fits := h.fits
  least pre' s' post' he hn := by
    cases pre' with
    | nil =>
      simp only [List.nil_append, List.cons.injEq] at he
      exact .inl (hb s' he.1 hn)
    | cons x p =>
      simp only [List.cons_append, List.cons.injEq] at he
      obtain ⟨rfl, he⟩ := he
      rcases h.least p s' post' he hn with k | k
      · exact .inl k
      · exact .inr ⟨k.1, by simp only [spanB]; omega⟩
theorem best_some (n : Nat) : ∀ bs x, best? n bs = some x → Best n bs x.1 x.2.1 x.2.2
  | [], x, h => by cases h
  | .used m ws :: r, x, h => by
    simp only [best?, Option.map_eq_some_iff] at h
    obtain ⟨y, hy, rfl⟩ := h
    exact (best_some n r y hy).cons _ (fun k hk => by cases hk)
  | .free k :: r, x, h => by
    simp only [best?] at h
    split at h
    · rename_i hk
      split at h
      · rename_i hn
        cases h
        refine ⟨rfl, hk, fun pre' s' post' he hs => ?_⟩
        cases pre' with
        | nil =>
          simp only [List.nil_append, List.cons.injEq, Blk.free.injEq] at he
          exact .inr ⟨he.1, Nat.zero_le _⟩
        | cons y p =>
          simp only [List.cons_append, List.cons.injEq] at he
          have := best_none n r hn s' (by rw [he.2]; simp)
          omega
      · rename_i y hy
        have ih := best_some n r y hy
        split at h
        · rename_i hl
          cases h
          exact ih.cons _ (fun j hj hn => by cases hj; exact hl)
        · rename_i hl
          cases h
          refine ⟨rfl, hk, fun pre' s' post' he hs => ?_⟩
          cases pre' with
          | nil =>
            simp only [List.nil_append, List.cons.injEq, Blk.free.injEq] at he
            exact .inr ⟨he.1, Nat.zero_le _⟩
          | cons z p =>
            simp only [List.cons_append, List.cons.injEq] at he
            have := ih.least p s' post' he.2 hs
            by_cases e : k = s'
            · exact .inr ⟨e, Nat.zero_le _⟩
            · exact .inl (by show k < s'; omega)
    · rename_i hk
      simp only [Option.map_eq_some_iff] at h
      obtain ⟨y, hy, rfl⟩ := h
      exact (best_some n r y hy).cons _ (fun j hj hn => by cases hj; omega)
theorem split_span : ∀ (pre pre' : List Blk) (x y : Blk) (post post' : List Blk), pre ++ x :: post = pre' ++ y :: post' → spanB pre = spanB pre' → pre = pre' ∧ x = y ∧ post = post'
  | [], [], x, y, post, post', h, _ => by simp at h; exact ⟨rfl, h.1, h.2⟩
  | [], b :: p, x, y, post, post', h, hs => by simp only [spanB] at hs; omega
  | b :: p, [], x, y, post, post', h, hs => by simp only [spanB] at hs; omega
  | b :: p, b' :: p', x, y, post, post', h, hs => by
    simp only [List.cons_append, List.cons.injEq] at h
    obtain ⟨rfl, h⟩ := h
    simp only [spanB] at hs
    obtain ⟨rfl, h2⟩ := split_span p p' x y post post' h (by omega)
    exact ⟨rfl, h2⟩
theorem Best.unique {n : Nat} {bs pre pre' post post' : List Blk} {s s' : Nat} (h : Best n bs pre s post) (k : Best n bs pre' s' post') : pre = pre' ∧ s = s' ∧ post = post' := by
  have h1 := h.least pre' s' post' k.eq k.fits
  have h2 := k.least pre s post h.eq h.fits
  have e : spanB pre = spanB pre' := by omega
  obtain ⟨e1, e2, e3⟩ := split_span pre pre' _ _ post post' (h.eq.symm.trans k.eq) e
  exact ⟨e1, Blk.free.inj e2, e3⟩
theorem takeR_best {n : Nat} {bs pre post : List Blk} {s : Nat} (h : Best n bs pre s post) : best? n bs = some (pre, s, post) := by
  cases hb : best? n bs with
  | none =>
    have := best_none n bs hb s (by rw [h.eq]; simp)
    have := h.fits
    omega
  | some x =>
    obtain ⟨e1, e2, e3⟩ := (best_some n bs x hb).unique h
    rw [← e1, ← e2, ← e3]

/-! ### Side by side -/
theorem NoAdj.tail {b : Blk} {r : List Blk} (h : NoAdj (b :: r)) : NoAdj r := by
  cases b with
  | used => exact h
  | free n => cases r with
    | nil => trivial
    | cons y r => cases y with
      | free => exact h.elim
      | used => exact h
theorem NoAdj.parts : ∀ {xs ys : List Blk}, NoAdj (xs ++ ys) → NoAdj xs ∧ NoAdj ys
  | [], ys, h => ⟨trivial, h⟩
  | [b], ys, h => ⟨by cases b <;> trivial, h.tail⟩
  | b :: c :: r, ys, h => by
    have ih := NoAdj.parts (xs := c :: r) (ys := ys) h.tail
    refine ⟨?_, ih.2⟩
    cases b with
    | used => exact ih.1
    | free n => cases c with
      | free => exact h.elim
      | used => exact ih.1
theorem NoAdj.used : ∀ {xs ys : List Blk} {m : Bool} {ws : List Int}, NoAdj (xs ++ .used m ws :: ys) ↔ NoAdj xs ∧ NoAdj ys
  | [], ys, m, ws => ⟨fun h => ⟨trivial, h⟩, fun h => h.2⟩
  | [.used _ _], ys, m, ws => ⟨fun h => ⟨trivial, h⟩, fun h => h.2⟩
  | [.free _], ys, m, ws => ⟨fun h => ⟨trivial, h⟩, fun h => h.2⟩
  | .used _ _ :: c :: r, ys, m, ws => NoAdj.used (xs := c :: r)
  | .free _ :: .free _ :: r, ys, m, ws => ⟨fun h => h.elim, fun h => h.1.elim⟩
  | .free _ :: .used a b :: r, ys, m, ws => NoAdj.used (xs := .used a b :: r)
theorem NoAdj.size {n k : Nat} {ys : List Blk} (h : NoAdj (.free n :: ys)) : NoAdj (.free k :: ys) := by
  cases ys with
  | nil => trivial
  | cons y r => cases y with
    | free => exact h.elim
    | used => exact h
/-- The last block is no free one; the first is none. -/
def LastU (xs : List Blk) : Prop := xs = [] ∨ ∃ p m ws, xs = p ++ [.used m ws]
def HeadU (xs : List Blk) : Prop := xs = [] ∨ ∃ m ws r, xs = .used m ws :: r
theorem last_cases (xs : List Blk) : LastU xs ∨ ∃ p n, xs = p ++ [.free n] := by
  rcases List.eq_nil_or_concat xs with rfl | ⟨p, b, rfl⟩
  · exact .inl (.inl rfl)
  · cases b with
    | free n => exact .inr ⟨p, n, by simp⟩
    | used m ws => exact .inl (.inr ⟨p, m, ws, by simp⟩)
theorem head_cases (xs : List Blk) : HeadU xs ∨ ∃ n r, xs = .free n :: r := by
  match xs with
  | [] => exact .inl (.inl rfl)
  | .free n :: r => exact .inr ⟨n, r, rfl⟩
  | .used m ws :: r => exact .inl (.inr ⟨m, ws, r, rfl⟩)
theorem NoAdj.join {xs ys : List Blk} {n : Nat} (h1 : NoAdj xs) (h2 : NoAdj ys) (hx : LastU xs) (hy : HeadU ys) : NoAdj (xs ++ .free n :: ys) := by
  have k : NoAdj (.free n :: ys) := by
    rcases hy with rfl | ⟨m, ws, r, rfl⟩
    · trivial
    · exact h2
  rcases hx with rfl | ⟨p, m, ws, rfl⟩
  · exact k
  · rw [List.append_assoc]
    exact NoAdj.used.2 ⟨(NoAdj.parts h1).1, k⟩
theorem NoAdj.free_parts {xs ys : List Blk} {n : Nat} (h : NoAdj (xs ++ .free n :: ys)) : NoAdj xs ∧ NoAdj ys ∧ LastU xs ∧ HeadU ys := by
  have h1 := NoAdj.parts h
  refine ⟨h1.1, h1.2.tail, ?_, ?_⟩
  · rcases last_cases xs with h2 | ⟨p, k, rfl⟩
    · exact h2
    · rw [List.append_assoc] at h
      exact (NoAdj.parts h).2.elim
  · rcases head_cases ys with h2 | ⟨k, r, rfl⟩
    · exact h2
    · exact h1.2.elim

/-! ### Joining -/
/-- One free block more behind a row. -/
def snocF (xs : List Blk) (n : Nat) : List Blk := match xs.reverse with
  | .free k :: r => r.reverse ++ [.free (k + n + 1)]
  | _ => xs ++ [.free n]
theorem snocF_free (p : List Blk) (k n : Nat) : snocF (p ++ [.free k]) n = p ++ [.free (k + n + 1)] := by simp [snocF]
theorem snocF_used {xs : List Blk} (h : LastU xs) (n : Nat) : snocF xs n = xs ++ [.free n] := by
  rcases h with rfl | ⟨p, m, ws, rfl⟩
  · rfl
  · simp [snocF]
/-- All blocks that are not marked are free. -/
def sweepGo : List Blk → List Blk → List Blk
  | d, [] => d
  | d, .free n :: r => sweepGo (snocF d n) r
  | d, .used true ws :: r => sweepGo (d ++ [.used false ws]) r
  | d, .used false ws :: r => sweepGo (snocF d ws.length) r
def sweepR (bs : List Blk) : List Blk := sweepGo [] bs
/-- Free blocks side by side are one. -/
def joinGo : List Blk → List Blk → List Blk
  | d, [] => d
  | d, .free n :: r => joinGo (snocF d n) r
  | d, .used m ws :: r => joinGo (d ++ [.used m ws]) r
/-- The used block of an address is free. -/
def freeAt (a : Int) : Int → List Blk → List Blk
  | _, [] => []
  | p, b :: r => if p = a then .free b.sz :: r else b :: freeAt a (p + b.sz + 1) r
theorem freeAt_mid (pre : List Blk) (b : Blk) (post : List Blk) (p : Int) : freeAt (p + spanB pre) p (pre ++ b :: post) = pre ++ .free b.sz :: post := by
  induction pre generalizing p with
  | nil => simp [freeAt, spanB]
  | cons y r ih =>
    simp only [List.cons_append, freeAt, spanB]
    rw [if_neg (by omega), show p + ((y.sz + 1 + spanB r : Nat) : Int) = (p + y.sz + 1) + spanB r by omega, ih]
def freeR (bs : List Blk) (a : Int) : List Blk := joinGo [] (freeAt a 1 bs)
theorem noAdj_snoc {d : List Blk} {b : Blk} {r : List Blk} (h : NoAdj (d ++ b :: r)) : NoAdj ((d ++ [b]) ++ r) := by rwa [List.append_assoc]
theorem joinGo_good : ∀ (r d : List Blk), NoAdj (d ++ r) → joinGo d r = d ++ r
  | [], d, _ => by simp [joinGo]
  | .free n :: r, d, h => by
    simp only [joinGo]
    rw [snocF_used (NoAdj.free_parts h).2.2.1, joinGo_good r _ (noAdj_snoc h), List.append_assoc]
    rfl
  | .used m ws :: r, d, h => by
    simp only [joinGo]
    rw [joinGo_good r _ (noAdj_snoc h), List.append_assoc]
    rfl
theorem joinGo_append : ∀ (x y d : List Blk), joinGo d (x ++ y) = joinGo (joinGo d x) y
  | [], y, d => rfl
  | .free n :: r, y, d => by simp only [List.cons_append, joinGo]; exact joinGo_append r y _
  | .used m ws :: r, y, d => by simp only [List.cons_append, joinGo]; exact joinGo_append r y _
/-- What is released: the free blocks on both sides come to it. -/
theorem free_form (pre : List Blk) (n : Nat) (post : List Blk) (h1 : NoAdj pre) (h2 : NoAdj post) :
    ∃ (pre' P X post' : List Blk) , pre = pre' ++ P ∧ post = X ++ post' ∧ (P = [] ∨ ∃ k, P = [.free k]) ∧ (X = [] ∨ ∃ k, X = [.free k]) ∧ LastU pre' ∧ HeadU post' ∧
      joinGo [] (pre ++ .free n :: post) = pre' ++ .free (spanB P + n + spanB X) :: post' ∧ NoAdj (pre' ++ .free (spanB P + n + spanB X) :: post') := by
  obtain ⟨pre', P, rfl, hP, hL, e1⟩ : ∃ pre' P, pre = pre' ++ P ∧ (P = [] ∨ ∃ k, P = [.free k]) ∧ LastU pre' ∧ snocF pre n = pre' ++ [.free (spanB P + n)] := by
    rcases last_cases pre with h | ⟨p, k, rfl⟩
    · exact ⟨pre, [], by simp, .inl rfl, h, by rw [snocF_used h]; simp [spanB]⟩
    · refine ⟨p, [.free k], rfl, .inr ⟨k, rfl⟩, ?_, ?_⟩
      · exact (NoAdj.free_parts h1).2.2.1
      · rw [snocF_free]
        simp only [spanB, Blk.sz]
        rw [show k + n + 1 = k + 1 + 0 + n by omega]
  obtain ⟨X, post', rfl, hX, hH, e2⟩ : ∃ X post', post = X ++ post' ∧ (X = [] ∨ ∃ k, X = [.free k]) ∧ HeadU post' ∧ joinGo (pre' ++ [.free (spanB P + n)]) post = joinGo (pre' ++ [.free (spanB P + n + spanB X)]) post' := by
    rcases head_cases post with h | ⟨k, r, rfl⟩
    · exact ⟨[], post, rfl, .inl rfl, h, by simp [spanB]⟩
    · refine ⟨[.free k], r, rfl, .inr ⟨k, rfl⟩, (NoAdj.free_parts (xs := []) h2).2.2.2, ?_⟩
      simp only [joinGo, spanB, Blk.sz]
      rw [snocF_free]
      rw [show spanB P + n + k + 1 = spanB P + n + (k + 1 + 0) by omega]
  have k1 := (NoAdj.parts h1).1
  have k2 := (NoAdj.parts h2).2
  have hj : NoAdj (pre' ++ .free (spanB P + n + spanB X) :: post') := NoAdj.join k1 k2 hL hH
  refine ⟨pre', P, X, post', rfl, rfl, hP, hX, hL, hH, ?_, hj⟩
  rw [joinGo_append, joinGo_good (pre' ++ P) [] h1]
  simp only [joinGo, List.nil_append]
  rw [e1, e2, joinGo_good post' _ (noAdj_snoc hj), List.append_assoc]
  rfl
end Go.Proofs.Ytgdhapapdpccpaa.A
