/- arena: a row of blocks as what stands at each address: what Take, Free, Sweep, Mark, Set do to that; which blocks lie apart. No program in sight. -/
import Derived.Test.YtgdhapapdpccpaaAt
namespace Go.Proofs.Ytgdhapapdpccpaa.A
open Go.RowKit Go.Proofs
set_option linter.unusedVariables false
set_option linter.unusedSimpArgs false

theorem at_append : ∀ (xs ys : List Blk) (c p : Int), at? c p (xs ++ ys) = (at? c p xs).or (at? c (p + spanB xs) ys)
  | [], ys, c, p => by simp [at?, spanB]
  | b :: r, ys, c, p => by
    simp only [List.cons_append, at?, spanB]
    by_cases h : p = c
    · rw [if_pos h, if_pos h]
      cases b with
      | used m ws => rfl
      | free n => rw [at_above ys c _ (by omega)]; rfl
    · rw [if_neg h, if_neg h, at_append r ys c]
      rw [show p + (b.sz : Int) + 1 + (spanB r : Int) = p + ((b.sz + 1 + spanB r : Nat) : Int) by omega]
theorem at_free (n : Nat) (ys : List Blk) (c p : Int) : at? c p (.free n :: ys) = at? c (p + n + 1) ys := by
  simp only [at?]
  by_cases h : p = c
  · rw [if_pos h, at_above ys c _ (by omega)]
  · rw [if_neg h]; rfl
theorem at_used (m : Bool) (ws : List Int) (ys : List Blk) (c p : Int) : at? c p (.used m ws :: ys) = if p = c then some (m, ws) else at? c (p + ws.length + 1) ys := rfl
theorem at_below (xs : List Blk) (c p : Int) (v : Bool × List Int) (h : at? c p xs = some v) : p ≤ c ∧ c + v.2.length + 1 ≤ p + spanB xs := by
  obtain ⟨m, ws⟩ := v
  obtain ⟨pre, post, rfl, rfl⟩ := at_some h
  rw [spanB_append]
  simp only [spanB, Blk.sz]
  omega
/-- Two used blocks lie apart. -/
theorem at_apart (bs : List Blk) (a b p : Int) (u v : Bool × List Int) (ha : at? a p bs = some u) (hb : at? b p bs = some v) (h : a < b) : a + u.2.length + 1 ≤ b := by
  obtain ⟨m, ws⟩ := u
  obtain ⟨pre, post, rfl, rfl⟩ := at_some ha
  rw [at_append] at hb
  cases hp : at? b p pre with
  | some x => have := at_below pre b p x hp; omega
  | none =>
    rw [hp, Option.none_or, at_used, if_neg (by omega)] at hb
    have := at_below post b _ v hb
    show p + (spanB pre : Int) + ws.length + 1 ≤ b
    omega
/-- No used block: nothing is used. -/
theorem at_none_used : ∀ (bs : List Blk) (p : Int), (∀ c, at? c p bs = none) → usedB bs = 0
  | [], _, _ => rfl
  | .free n :: r, p, h => at_none_used r (p + n + 1) (fun c => by rw [← at_free]; exact h c)
  | .used m ws :: r, p, h => by have := h p; rw [at_used, if_pos rfl] at this; cases this
theorem used_zero : ∀ (bs : List Blk), Good bs → usedB bs = 0 → bs = [] ∨ bs = [.free (spanB bs - 1)]
  | [], _, _ => .inl rfl
  | .used m ws :: r, _, h => by simp only [usedB] at h; omega
  | [.free n], _, _ => .inr (by simp [spanB, Blk.sz])
  | .free n :: .free k :: r, g, _ => g.1.elim
  | .free n :: .used m ws :: r, _, h => by simp only [usedB] at h; omega

/-! ### Take -/
theorem roomR_none {bs : List Blk} {n : Nat} (n0 : 1 ≤ n) (h : roomR bs < n) : takeR n bs = none := by
  unfold takeR
  cases hb : best? n bs with
  | none => rfl
  | some x =>
    have k := best_some n bs x hb
    have := roomR_ge bs x.2.1 (by rw [k.eq]; simp)
    have := k.fits
    omega
theorem roomR_some {bs : List Blk} {n : Nat} (n0 : 1 ≤ n) (h : n ≤ roomR bs) : ∃ pre s post, Best n bs pre s post := by
  cases hb : best? n bs with
  | none =>
    rcases roomR_mem bs with h0 | h0
    · omega
    · have := best_none n bs hb _ h0; omega
  | some x => exact ⟨_, _, _, best_some n bs x hb⟩
/-- What Take does, said of the addresses. -/
theorem takeE_some {bs : List Blk} {n : Nat} (n0 : 1 ≤ n) (h : n ≤ roomR bs) :
    ∃ (a : Int) (z : Nat), (takeE bs n).1 = (a, 0) ∧ 1 ≤ a ∧ (z = n ∨ z = n + 1) ∧ at? a 1 bs = none ∧ (∀ c, at? c 1 (takeE bs n).2 = if c = a then some (false, List.replicate z 0) else at? c 1 bs) ∧ usedB (takeE bs n).2 = usedB bs + (z + 1) := by
  obtain ⟨pre, s, post, k⟩ := roomR_some n0 h
  have hr := takeR_best k
  have hn := k.fits
  have he := k.eq
  subst he
  unfold takeE
  rw [if_neg (by omega)]
  have e : takeR (n : Int).toNat (pre ++ .free s :: post) = some (1 + (spanB pre : Int), if n + 2 ≤ s then pre ++ .used false (List.replicate n 0) :: .free (s - n - 1) :: post else pre ++ .used false (List.replicate s 0) :: post) := by
    unfold takeR
    rw [show (n : Int).toNat = n by omega, hr]
    rfl
  rw [e]
  refine ⟨1 + (spanB pre : Int), if n + 2 ≤ s then n else s, rfl, by omega, by split <;> omega, ?_, fun c => ?_, ?_⟩
  · exact at_mid pre (.free s) post 1
  · have hl : at? c 1 (pre ++ .free s :: post) = (at? c 1 pre).or (at? c (1 + spanB pre + s + 1) post) := by rw [at_append, at_free]
    rw [hl]
    have hc : c = 1 + (spanB pre : Int) → at? c 1 pre = none := fun hc => by
      cases hp : at? c 1 pre with
      | none => rfl
      | some v => have := at_below pre c 1 v hp; omega
    by_cases h2 : n + 2 ≤ s
    · simp only [if_pos h2]
      rw [at_append, at_used, at_free, List.length_replicate]
      by_cases hca : c = 1 + (spanB pre : Int)
      · rw [hc hca, if_pos hca, if_pos hca.symm, Option.none_or]
      · rw [if_neg hca, if_neg (fun h => hca h.symm)]
        rw [show (1 + (spanB pre : Int) + n + 1 + ((s - n - 1 : Nat) : Int) + 1) = 1 + spanB pre + s + 1 by omega]
    · simp only [if_neg h2]
      rw [at_append, at_used, List.length_replicate]
      by_cases hca : c = 1 + (spanB pre : Int)
      · rw [hc hca, if_pos hca, if_pos hca.symm, Option.none_or]
      · rw [if_neg hca, if_neg (fun h => hca h.symm)]
  · by_cases h2 : n + 2 ≤ s
    · simp only [if_pos h2]
      rw [usedB_append, usedB_append]
      simp only [usedB, List.length_replicate]
      omega
    · simp only [if_neg h2]
      rw [usedB_append, usedB_append]
      simp only [usedB, List.length_replicate]
      omega
theorem takeE_none {bs : List Blk} {n : Nat} (n0 : 1 ≤ n) (h : roomR bs < n) : takeE bs n = ((0, 5), bs) := by
  unfold takeE
  rw [if_neg (by omega), show (n : Int).toNat = n by omega, roomR_none n0 h]

/-! ### Free -/
theorem at_snocF (d : List Blk) (n : Nat) (c p : Int) : at? c p (snocF d n) = at? c p d := by
  rcases last_cases d with h | ⟨q, k, rfl⟩
  · rw [snocF_used h, at_append]
    simp [at?]
  · rw [snocF_free, at_append, at_append]
    simp [at?]
theorem span_snocF (d : List Blk) (n : Nat) : spanB (snocF d n) = spanB d + (n + 1) := by
  rcases last_cases d with h | ⟨q, k, rfl⟩
  · rw [snocF_used h, spanB_append]; simp [spanB, Blk.sz]
  · rw [snocF_free, spanB_append, spanB_append]; simp only [spanB, Blk.sz]; omega
theorem used_snocF (d : List Blk) (n : Nat) : usedB (snocF d n) = usedB d := by
  rcases last_cases d with h | ⟨q, k, rfl⟩
  · rw [snocF_used h, usedB_append]; simp [usedB]
  · rw [snocF_free, usedB_append, usedB_append]; simp [usedB]
theorem at_joinGo : ∀ (r d : List Blk) (c p : Int), at? c p (joinGo d r) = at? c p (d ++ r)
  | [], d, c, p => by simp [joinGo]
  | .free n :: r, d, c, p => by
    simp only [joinGo]
    rw [at_joinGo r, at_append, at_append, at_snocF, span_snocF, at_free]
    rw [show p + ((spanB d + (n + 1) : Nat) : Int) = p + spanB d + n + 1 by omega]
  | .used m ws :: r, d, c, p => by
    simp only [joinGo]
    rw [at_joinGo r, List.append_assoc]
    rfl
theorem used_joinGo : ∀ (r d : List Blk), usedB (joinGo d r) = usedB d + usedB r
  | [], d => by simp [joinGo, usedB]
  | .free n :: r, d => by simp only [joinGo, usedB]; rw [used_joinGo r, used_snocF]
  | .used m ws :: r, d => by simp only [joinGo, usedB]; rw [used_joinGo r, usedB_append]; simp only [usedB]; omega
theorem freeE_some {bs : List Blk} {a : Int} {m : Bool} {ws : List Int} (h : at? a 1 bs = some (m, ws)) :
    (freeE bs a).1 = 0 ∧ (∀ c, at? c 1 (freeE bs a).2 = if c = a then none else at? c 1 bs) ∧ usedB (freeE bs a).2 + (ws.length + 1) = usedB bs := by
  unfold freeE
  rw [h]
  obtain ⟨pre, post, rfl, rfl⟩ := at_some h
  have e : freeR (pre ++ .used m ws :: post) (1 + (spanB pre : Int)) = joinGo [] (pre ++ .free ws.length :: post) := by
    unfold freeR
    rw [freeAt_mid]
    rfl
  refine ⟨rfl, fun c => ?_, ?_⟩
  · show at? c 1 (freeR _ _) = _
    rw [e, at_joinGo, List.nil_append, at_append, at_append, at_free, at_used]
    by_cases hc : c = 1 + (spanB pre : Int)
    · rw [if_pos hc, at_above post c _ (by omega)]
      cases hp : at? c 1 pre with
      | none => rfl
      | some v => have := at_below pre c 1 v hp; omega
    · rw [if_neg hc, if_neg (fun h => hc h.symm)]
  · show usedB (freeR _ _) + _ = _
    rw [e, used_joinGo, usedB_append, usedB_append]
    simp only [usedB]
    omega
theorem freeE_none {bs : List Blk} {a : Int} (h : at? a 1 bs = none) : freeE bs a = (4, bs) := by
  unfold freeE
  rw [h]
/-- Of a block in the midst. -/
theorem freeE_mid (pre : List Blk) (m : Bool) (ws : List Int) (post : List Blk) (a : Int) (ha : a = 1 + spanB pre) : freeE (pre ++ .used m ws :: post) a = (0, joinGo [] (pre ++ .free ws.length :: post)) := by
  have h : at? a 1 (pre ++ .used m ws :: post) = some (m, ws) := by rw [ha]; exact at_mid ..
  unfold freeE
  rw [h]
  unfold freeR
  rw [ha, freeAt_mid]
  rfl

/-! ### Sweep, Mark, Set -/
def keepM : Option (Bool × List Int) → Option (Bool × List Int)
  | some (true, ws) => some (false, ws)
  | _ => none
theorem at_sweepGo : ∀ (r d : List Blk) (c p : Int), at? c p (sweepGo d r) = (at? c p d).or (keepM (at? c (p + spanB d) r))
  | [], d, c, p => by simp [sweepGo, at?, keepM]
  | .free n :: r, d, c, p => by
    simp only [sweepGo]
    rw [at_sweepGo r, at_snocF, span_snocF, at_free]
    rw [show p + ((spanB d + (n + 1) : Nat) : Int) = p + spanB d + n + 1 by omega]
  | .used true ws :: r, d, c, p => by
    simp only [sweepGo]
    rw [at_sweepGo r, at_append, spanB_append, at_used, at_used]
    simp only [spanB, Blk.sz, at?]
    by_cases h : p + (spanB d : Int) = c
    · rw [if_pos h, if_pos h]
      cases at? c p d <;> simp [keepM]
    · rw [if_neg h, if_neg h, Option.or_none]
      rw [show p + ((spanB d + (ws.length + 1 + 0) : Nat) : Int) = p + spanB d + ws.length + 1 by omega]
  | .used false ws :: r, d, c, p => by
    simp only [sweepGo]
    rw [at_sweepGo r, at_snocF, span_snocF, at_used]
    by_cases h : p + (spanB d : Int) = c
    · rw [if_pos h, at_above r c _ (by omega)]
      rfl
    · rw [if_neg h, show p + ((spanB d + (ws.length + 1) : Nat) : Int) = p + spanB d + ws.length + 1 by omega]
theorem at_sweepR (bs : List Blk) (c : Int) : at? c 1 (sweepR bs) = keepM (at? c 1 bs) := by
  unfold sweepR
  rw [at_sweepGo]
  simp [at?, spanB]
theorem at_markR (bs : List Blk) (a c : Int) : at? c 1 (markR bs a).2 = if c = a then (at? a 1 bs).map (fun v => (true, v.2)) else at? c 1 bs := by
  unfold markR
  cases h : at? a 1 bs with
  | none =>
    by_cases hc : c = a
    · rw [if_pos hc, hc, h]; rfl
    · rw [if_neg hc]
  | some v =>
    obtain ⟨m, ws⟩ := v
    cases m with
    | true =>
      by_cases hc : c = a
      · rw [if_pos hc, hc]; exact h
      · rw [if_neg hc]
    | false =>
      show at? c 1 (put? a (.used true ws) 1 bs) = _
      rw [at_put h rfl]
      by_cases hc : c = a
      · rw [if_pos hc, if_pos hc]; rfl
      · rw [if_neg hc, if_neg hc]
theorem used_put {a p : Int} {bs : List Blk} {m m' : Bool} {ws ws' : List Int} (h : at? a p bs = some (m, ws)) (hl : ws'.length = ws.length) : usedB (put? a (.used m' ws') p bs) = usedB bs := by
  obtain ⟨pre, post, rfl, rfl⟩ := at_some h
  rw [put_mid, usedB_append, usedB_append]
  simp only [usedB, hl]
theorem room_put {a p : Int} {bs : List Blk} {m m' : Bool} {ws ws' : List Int} (h : at? a p bs = some (m, ws)) : roomR (put? a (.used m' ws') p bs) = roomR bs := by
  obtain ⟨pre, post, rfl, rfl⟩ := at_some h
  rw [put_mid]
  clear h
  induction pre with
  | nil => rfl
  | cons x r ih => cases x <;> simp only [List.cons_append, roomR, ih]
theorem used_markR (bs : List Blk) (a : Int) : usedB (markR bs a).2 = usedB bs := by
  unfold markR
  cases h : at? a 1 bs with
  | none => rfl
  | some v =>
    obtain ⟨m, ws⟩ := v
    cases m with
    | true => rfl
    | false => exact used_put h rfl
theorem room_markR (bs : List Blk) (a : Int) : roomR (markR bs a).2 = roomR bs := by
  unfold markR
  cases h : at? a 1 bs with
  | none => rfl
  | some v =>
    obtain ⟨m, ws⟩ := v
    cases m with
    | true => rfl
    | false => exact room_put h
theorem at_setR (bs : List Blk) (a i x c : Int) : at? c 1 (setR bs a i x) = if c = a then (at? a 1 bs).map (fun v => (v.1, if 0 ≤ i ∧ i < v.2.length then v.2.set i.toNat x else v.2)) else at? c 1 bs := by
  unfold setR
  cases h : at? a 1 bs with
  | none =>
    by_cases hc : c = a
    · rw [if_pos hc, hc, h]; rfl
    · rw [if_neg hc]
  | some v =>
    obtain ⟨m, ws⟩ := v
    by_cases hi : 0 ≤ i ∧ i < (ws.length : Int)
    · simp only [if_pos hi]
      rw [at_put h (by simp)]
      by_cases hc : c = a
      · rw [if_pos hc, if_pos hc]; simp [hi]
      · rw [if_neg hc, if_neg hc]
    · simp only [if_neg hi]
      by_cases hc : c = a
      · rw [if_pos hc, hc, h]; simp [hi]
      · rw [if_neg hc]
theorem used_setR (bs : List Blk) (a i x : Int) : usedB (setR bs a i x) = usedB bs := by
  unfold setR
  cases h : at? a 1 bs with
  | none => rfl
  | some v =>
    obtain ⟨m, ws⟩ := v
    dsimp only
    split
    · exact used_put h (by simp)
    · rfl
theorem room_setR (bs : List Blk) (a i x : Int) : roomR (setR bs a i x) = roomR bs := by
  unfold setR
  cases h : at? a 1 bs with
  | none => rfl
  | some v =>
    obtain ⟨m, ws⟩ := v
    dsimp only
    split
    · exact room_put h
    · rfl
end Go.Proofs.Ytgdhapapdpccpaa.A
