/- arena: what the library's Insert, Clone, Delete and BinarySearch do to a list of addresses, in this text's own words. -/
import Derived.Test.YtgdhapapdpccpaaA
import Derived.Test.YtgdhapapdpccpaaL
namespace Go.Proofs.Ytgdhapapdpccpaa.A
open Go.RowKit Go.Proofs
set_option linter.unusedVariables false
set_option linter.unusedSimpArgs false

/-! ### A row of stores -/
theorem heap_sets_other (b k : Nat) (h : k ≠ b) : ∀ (vs : List Value) (o : Nat) (w : World), (w.setCells b o vs).heap[k]? = w.heap[k]?
  | [], _, _ => rfl
  | v :: r, o, w => (heap_sets_other b k h r (o + 1) _).trans (heap_set_other h)
theorem heap_sets_same (b : Nat) (e : TypeId) (fz : Nat × Nat) : ∀ (vs : List Value) (o : Nat) (w : World) (c : Array Value), w.heap[b]? = some (.cells c e fz) → o + vs.length ≤ c.size →
    ∃ c', (w.setCells b o vs).heap[b]? = some (.cells c' e fz) ∧ c'.size = c.size ∧ ∀ j, c'[j]? = if o ≤ j ∧ j < o + vs.length then vs[j - o]? else c[j]?
  | [], o, w, c, h, _ => ⟨c, h, rfl, fun j => by rw [if_neg (by simp only [List.length_nil]; omega)]⟩
  | v :: r, o, w, c, h, hs => by
    simp only [List.length_cons] at hs
    obtain ⟨c', h1, h2, h3⟩ := heap_sets_same b e fz r (o + 1) (w.setCell ⟨b, o, none⟩ v) _ (heap_set_same h) (by simp; omega)
    refine ⟨c', h1, by simpa using h2, fun j => ?_⟩
    rw [h3 j]
    simp only [List.length_cons]
    by_cases h4 : o + 1 ≤ j ∧ j < o + 1 + r.length
    · rw [if_pos h4, if_pos (by omega), show j - o = (j - (o + 1)) + 1 by omega, List.getElem?_cons_succ]
    · rw [if_neg h4]
      by_cases h5 : j = o
      · subst h5
        rw [if_pos (by omega), Nat.sub_self, Array.getElem?_setIfInBounds_self_of_lt (by omega)]
        rfl
      · rw [if_neg (by omega), Array.getElem?_setIfInBounds_ne (by omega)]
theorem sets_size (b : Nat) : ∀ (vs : List Value) (o : Nat) (w : World), (w.setCells b o vs).heap.size = w.heap.size
  | [], _, _ => rfl
  | v :: r, o, w => (sets_size b r (o + 1) _).trans (by simp [World.setCell])
theorem sets_os (b : Nat) : ∀ (vs : List Value) (o : Nat) (w : World), (w.setCells b o vs).os = w.os ∧ (w.setCells b o vs).tape = w.tape ∧ (w.setCells b o vs).output = w.output
  | [], _, _ => ⟨rfl, rfl, rfl⟩
  | v :: r, o, w => sets_os b r (o + 1) (w.setCell ⟨b, o, none⟩ v)

/-- No block has turned but perhaps the one of f. -/
structure But (F : Nat → Prop) (w w' : World) : Prop where
  os : w'.os = w.os
  tape : w'.tape = w.tape
  output : w'.output = w.output
  size : w.heap.size ≤ w'.heap.size
  off : ∀ k, k < w.heap.size → ¬ F k → w'.heap[k]? = w.heap[k]?
theorem But.refl (F : Nat → Prop) (w : World) : But F w w := ⟨rfl, rfl, rfl, Nat.le_refl _, fun _ _ _ => rfl⟩
theorem But.trans {F G : Nat → Prop} {a b c : World} (h : But F a b) (k : But G b c) (hG : ∀ x, x < a.heap.size → G x → F x) : But F a c :=
  ⟨k.os.trans h.os, k.tape.trans h.tape, k.output.trans h.output, Nat.le_trans h.size k.size, fun x hx hn => (k.off x (Nat.lt_of_lt_of_le hx h.size) (fun g => hn (hG x hx g))).trans (h.off x hx hn)⟩
theorem But.of_below {F : Nat → Prop} {w w' : World} (h : Below w.heap.size w w') : But F w w' := ⟨h.os, h.tape, h.output, h.size, fun k hk _ => h.block k hk⟩
theorem But.below {F : Nat → Prop} {w w' : World} {B : Nat} (h : But F w w') (hB : ∀ b, F b → B ≤ b) (hs : B ≤ w.heap.size) : Below B w w' :=
  ⟨h.os, h.tape, h.output, h.size, fun k hk => h.off k (by omega) (fun hf => by have := hB k hf; omega)⟩
theorem But.keep {F : Nat → Prop} {w w' : World} (h : But F w w') {b : Nat} {o : Obj} (hb : w.heap[b]? = some o) (hn : ¬ F b) : w'.heap[b]? = some o := (h.off b (heap_lt hb) hn).trans hb

def ins (xs : List Int) (i : Nat) (x : Int) : List Int := xs.take i ++ x :: xs.drop i
theorem ins_length (xs : List Int) (i : Nat) (x : Int) (hi : i ≤ xs.length) : (ins xs i x).length = xs.length + 1 := by simp [ins]; omega
theorem ins_getD (xs : List Int) (i : Nat) (x : Int) (hi : i ≤ xs.length) (j : Nat) : (ins xs i x).getD j 0 = if j < i then xs.getD j 0 else if j = i then x else xs.getD (j - 1) 0 := by
  unfold ins
  simp only [List.getD_eq_getElem?_getD]
  by_cases h : j < i
  · rw [if_pos h, List.getElem?_append_left (by simp; omega), List.getElem?_take_of_lt h]
  · rw [if_neg h, List.getElem?_append_right (by simp; omega)]
    rw [show (xs.take i).length = i by simp; omega]
    by_cases h2 : j = i
    · subst h2; simp
    · rw [if_neg h2, show j - i = (j - 1 - i) + 1 by omega, List.getElem?_cons_succ, List.getElem?_drop, show i + (j - 1 - i) = j - 1 by omega]

/-- A slice as a list of values. -/
theorem FS.cells {w : World} {f : FS} {b : Nat} (hf : f.ok w) (hb : f.blk = some b) : ∃ cur, w.heap[b]? = some (.cells cur 3 (0, 0)) ∧ cur.size = f.cap ∧ f.xs.length ≤ f.cap ∧ f.cap ≤ maxLen ∧ ∀ j, j < f.xs.length → cur[j]? = some (.int .i64 (f.xs.getD j 0)) := by
  unfold FS.ok at hf; rw [hb] at hf; exact hf
theorem FS.ok_some {w : World} {b cap : Nat} {xs : List Int} {cur : Array Value} (h1 : w.heap[b]? = some (.cells cur 3 (0, 0))) (h2 : cur.size = cap) (h3 : xs.length ≤ cap) (h4 : cap ≤ maxLen) (h5 : ∀ j, j < xs.length → cur[j]? = some (.int .i64 (xs.getD j 0))) : FS.ok w ⟨some b, cap, xs⟩ := ⟨cur, h1, h2, h3, h4, h5⟩
theorem getD_map (xs : List Int) (j : Nat) (v : Value) (h : (xs.map (Value.int .i64))[j]? = some v) : j < xs.length ∧ v = .int .i64 (xs.getD j 0) := by
  rw [List.getElem?_map] at h
  obtain ⟨x, hx, rfl⟩ := Option.map_eq_some_iff.1 h
  have hj := (List.getElem?_eq_some_iff.1 hx).1
  refine ⟨hj, ?_⟩
  simp [List.getD, hx]
theorem map_getD (xs : List Int) (j : Nat) (h : j < xs.length) : (xs.map (Value.int .i64))[j]? = some (.int .i64 (xs.getD j 0)) := by simp [List.getD, h]
theorem zero_size (k : Nat) : (Builtin.zeroCells (Value.int .i64 0).cells k).size = k := by
  rw [size_zeroCells]; simp [Value.cells]

/-- Insert, of one number: the slice with the number in it, in its own block or in a new one. -/
theorem insert_calls {w : World} {f : FS} (hf : f.ok w) (i : Nat) (hi : i ≤ f.xs.length) (x : Int) (vb : Nat) (hv : w.heap[vb]? = some (.cells #[.int .i64 x] 3 (0, 0))) (hvf : f.blk ≠ some vb) (hl : f.xs.length ≤ 1048576) :
    Calls Try.prog 68 #[f.val, .int .i64 i, .slice (some ⟨vb, 0, none⟩) 1 1] w fun e w' => ∃ f' : FS, e = .returned f'.val ∧ f'.ok w' ∧ f'.xs = ins f.xs i x ∧ (∃ b, f'.blk = some b ∧ (f.blk = some b ∨ w.heap.size ≤ b)) ∧ But (fun b => f.blk = some b) w w' := by
  have hvs : ∀ (j : Nat) (v : Value), ([Value.int .i64 x] : List Value)[j]? = some v → w.cell? ⟨vb, 0 + j, none⟩ = some v := fun j v h => by
    rw [cell_of hv]
    rw [Nat.zero_add]
    simpa using h
  have h1v : ∀ v ∈ ([Value.int .i64 x] : List Value), v.oneCell' = true := fun v h => by
    simp only [List.mem_singleton] at h
    subst h; rfl
  have hml : maxLen = 9223372036854775807 := by unfold maxLen; rfl
  by_cases hend : i = f.xs.length
  · by_cases hroom : f.xs.length + 1 ≤ f.cap ∧ f.blk ≠ none
    · obtain ⟨b, hb⟩ : ∃ b, f.blk = some b := Option.ne_none_iff_exists'.1 hroom.2
      obtain ⟨cur, h1, h2, h3, h4, h5⟩ := FS.cells hf hb
      have hval : f.val = .slice (some ⟨b, 0, none⟩) f.xs.length f.cap := by unfold FS.val; rw [hb]
      rw [hval, hend]
      refine (Any2.slices_Insert_int_end_room laysNm221 b 0 f.xs.length f.cap vb 0 1 1 [.int .i64 x] w (by omega) hroom.1 (by omega) rfl (fun j hj => ?_) (fun j hj => frozen_of h1) hvs h1v).mono ?_
      · rw [cell_of h1, Array.getElem?_eq_getElem (by omega)]; rfl
      · rintro e w' ⟨rfl, rfl⟩
        obtain ⟨c', k1, k2, k3⟩ := heap_sets_same b 3 (0, 0) [.int .i64 x] (0 + f.xs.length) w cur h1 (by simp only [List.length_singleton]; omega)
        refine ⟨⟨some b, f.cap, ins f.xs f.xs.length x⟩, by unfold FS.val; simp [ins_length], FS.ok_some k1 (by omega) (by rw [ins_length _ _ _ (Nat.le_refl _)]; exact hroom.1) h4 (fun j hj => ?_), rfl, ⟨b, rfl, .inl hb⟩, ?_⟩
        · rw [ins_length _ _ _ (Nat.le_refl _)] at hj
          rw [k3 j, ins_getD _ _ _ (Nat.le_refl _)]
          simp only [List.length_singleton, Nat.zero_add]
          by_cases hj2 : j = f.xs.length
          · rw [if_pos (by omega), if_neg (by omega), if_pos hj2, hj2, Nat.sub_self]; rfl
          · rw [if_neg (by omega), if_pos (by omega)]; exact h5 j (by omega)
        · exact ⟨(sets_os _ _ _ _).1, (sets_os _ _ _ _).2.1, (sets_os _ _ _ _).2.2, by rw [sets_size]; exact Nat.le_refl _, fun k hk hn => heap_sets_other _ _ (fun e => hn (by rw [e]; exact hb)) _ _ _⟩
    · -- a new row
      have key : ∀ (base : Option Addr) (cap : Nat), f.val = .slice base f.xs.length cap → f.xs.length ≤ cap → cap < f.xs.length + 1 → (base = none → f.xs.length = 0) → (∀ a, base = some a → ∀ j v, (f.xs.map (Value.int .i64))[j]? = some v → w.cell? (a.add j) = some v) →
          Calls Try.prog 68 #[f.val, .int .i64 i, .slice (some ⟨vb, 0, none⟩) 1 1] w fun e w' => ∃ f' : FS, e = .returned f'.val ∧ f'.ok w' ∧ f'.xs = ins f.xs i x ∧ (∃ b, f'.blk = some b ∧ (f.blk = some b ∨ w.heap.size ≤ b)) ∧ But (fun b => f.blk = some b) w w' := by
        intro base cap hval hc1 hc2 hnil hcs
        rw [hval, hend]
        refine (Any2.slices_Insert_int_end_grow laysNm221 base f.xs.length cap vb 0 1 1 (f.xs.map (Value.int .i64)) [.int .i64 x] w (by omega) hc1 hc2 (by omega) (by simp) rfl hnil hcs hvs h1v).mono ?_
        rintro e w' ⟨rfl, rfl⟩
        have g1 := grownCap_ge w (f.xs.length + 1) cap 3
        have g2 := grownCap_le_maxLen w (f.xs.length + 1) cap 3 (by omega)
        change _ ≤ grownCap w (f.xs.length + 1) cap (laysNm221_ren.t 3) at g1
        change grownCap w (f.xs.length + 1) cap (laysNm221_ren.t 3) ≤ _ at g2
        generalize grownCap w (f.xs.length + 1) cap (laysNm221_ren.t 3) = G at *
        refine ⟨⟨some w.heap.size, G, ins f.xs f.xs.length x⟩, by unfold FS.val; simp [ins_length], FS.ok_some (heap_alloc_new (w := w.drew)) ?_ (by rw [ins_length _ _ _ (Nat.le_refl _)]; exact g1) g2 (fun j hj => ?_), rfl, ⟨w.heap.size, rfl, .inr (Nat.le_refl _)⟩, ?_⟩
        · rw [Array.size_append, zero_size]; simp; omega
        · rw [ins_length _ _ _ (Nat.le_refl _)] at hj
          rw [ins_getD _ _ _ (Nat.le_refl _), Array.getElem?_append_left (by simp; omega)]
          simp only [List.getElem?_toArray]
          by_cases hj2 : j = f.xs.length
          · rw [List.getElem?_append_right (by simp; omega), if_neg (by omega), if_pos hj2, hj2]; simp
          · rw [List.getElem?_append_left (by simp; omega), if_pos (by omega)]; exact map_getD _ _ (by omega)
        · exact ⟨rfl, rfl, rfl, by simp, fun k hk hn => (Below.heap_alloc w.drew _ k hk)⟩
      cases hb : f.blk with
      | none =>
        have hx : f.xs = [] := by unfold FS.ok at hf; rw [hb] at hf; exact hf
        have hval : f.val = .slice none f.xs.length 0 := by unfold FS.val; rw [hb, hx]; rfl
        have := key none 0 hval (by rw [hx]; exact Nat.le_refl _) (by omega) (fun _ => by rw [hx]; rfl) (fun a h => by cases h)
        rw [hb] at this
        exact this
      | some b =>
        obtain ⟨cur, h1, h2, h3, h4, h5⟩ := FS.cells hf hb
        have hval : f.val = .slice (some ⟨b, 0, none⟩) f.xs.length f.cap := by unfold FS.val; rw [hb]
        have hr : ¬ f.xs.length + 1 ≤ f.cap := fun h => hroom ⟨h, by rw [hb]; simp⟩
        have := key (some ⟨b, 0, none⟩) f.cap hval h3 (by omega) (fun h => by cases h) (fun a h j v hj => by
          cases h
          obtain ⟨hj1, rfl⟩ := getD_map _ _ _ hj
          rw [Addr.add_lit, cell_of h1, Nat.zero_add]
          exact h5 j hj1)
        rw [hb] at this
        exact this
  · -- in the middle
    have hi2 : i < f.xs.length := by omega
    cases hb : f.blk with
    | none =>
      have hx : f.xs = [] := by unfold FS.ok at hf; rw [hb] at hf; exact hf
      rw [hx] at hi2
      simp at hi2
    | some b =>
      obtain ⟨cur, h1, h2, h3, h4, h5⟩ := FS.cells hf hb
      have hval : f.val = .slice (some ⟨b, 0, none⟩) f.xs.length f.cap := by unfold FS.val; rw [hb]
      have hne : vb ≠ b := fun e => hvf (by rw [hb, e])
      have hcs : ∀ (j : Nat) (v : Value), (f.xs.map (Value.int .i64))[j]? = some v → w.cell? ⟨b, 0 + j, none⟩ = some v := fun j v hj => by
        obtain ⟨hj1, rfl⟩ := getD_map _ _ _ hj
        rw [cell_of h1, Nat.zero_add]
        exact h5 j hj1
      have h1c : ∀ v ∈ f.xs.map (Value.int .i64), v.oneCell' = true := fun v h => by
        obtain ⟨z, _, rfl⟩ := List.mem_map.1 h
        rfl
      rw [hval]
      by_cases hroom : f.xs.length + 1 ≤ f.cap
      · refine (Any2.slices_Insert_int_shift laysNm221 b 0 f.xs.length f.cap i vb 0 1 1 (f.xs.map (Value.int .i64)) [.int .i64 x] w hi2 (by omega) hroom (by omega) hne (by simp) rfl hcs (fun j hj => ?_) (fun j hj => frozen_of h1) hvs h1c h1v 3 3 1 f.cap ?_ ?_ (by omega) (frozen_of hv) (frozen_of hv)).mono ?_
        · rw [cell_of h1, Array.getElem?_eq_getElem (by omega)]; rfl
        · simp [World.shape?, hv]
        · simp [World.shape?, h1, h2]
        · rintro e w' ⟨rfl, rfl⟩
          obtain ⟨c1, k1, k2, k3⟩ := heap_sets_same b 3 (0, 0) ((f.xs.map (Value.int .i64)).drop i) (0 + (i + 1)) w.drew cur h1 (by simp; omega)
          obtain ⟨c2, m1, m2, m3⟩ := heap_sets_same b 3 (0, 0) [.int .i64 x] (0 + i) _ c1 k1 (by simp only [List.length_singleton]; omega)
          refine ⟨⟨some b, f.cap, ins f.xs i x⟩, by unfold FS.val; simp [ins_length _ _ _ hi], FS.ok_some m1 (by omega) (by rw [ins_length _ _ _ hi]; exact hroom) h4 (fun j hj => ?_), rfl, ⟨b, rfl, .inl rfl⟩, ?_⟩
          · rw [ins_length _ _ _ hi] at hj
            rw [m3 j, k3 j, ins_getD _ _ _ hi]
            simp only [List.length_singleton, Nat.zero_add, List.length_drop, List.length_map]
            by_cases hj1 : j < i
            · rw [if_neg (by omega), if_neg (by omega), if_pos hj1]; exact h5 j (by omega)
            · by_cases hj2 : j = i
              · rw [if_pos (by omega), if_neg hj1, if_pos hj2, hj2, Nat.sub_self]; rfl
              · rw [if_neg (by omega), if_pos (by omega), if_neg hj1, if_neg hj2, List.getElem?_drop, show i + (j - (i + 1)) = j - 1 by omega]; exact map_getD _ _ (by omega)
          · refine ⟨?_, ?_, ?_, ?_, fun k hk hn => ?_⟩
            · rw [(sets_os _ _ _ _).1, (sets_os _ _ _ _).1]; rfl
            · rw [(sets_os _ _ _ _).2.1, (sets_os _ _ _ _).2.1]; rfl
            · rw [(sets_os _ _ _ _).2.2, (sets_os _ _ _ _).2.2]; rfl
            · rw [sets_size, sets_size]; exact Nat.le_refl _
            · have hk2 : k ≠ b := fun e => hn (by rw [e])
              rw [heap_sets_other _ _ hk2, heap_sets_other _ _ hk2]; rfl
      · refine (Any2.slices_Insert_int_grow laysNm221 b 0 f.xs.length f.cap i vb 0 1 1 (f.xs.map (Value.int .i64)) [.int .i64 x] w hi2 (by omega) h3 (by omega) (by omega) (by simp) rfl hcs hvs h1c h1v).mono ?_
        rintro e w' ⟨rfl, rfl⟩
        have g1 := grownCap_ge w (f.xs.length + 1) f.cap 3
        have g2 := grownCap_le_maxLen w (f.xs.length + 1) f.cap 3 (by omega)
        change _ ≤ grownCap w (f.xs.length + 1) f.cap (laysNm221_ren.t 3) at g1
        change grownCap w (f.xs.length + 1) f.cap (laysNm221_ren.t 3) ≤ _ at g2
        generalize grownCap w (f.xs.length + 1) f.cap (laysNm221_ren.t 3) = G at *
        have hA := heap_alloc_new (w := w) (o := .cells (((f.xs.map (Value.int .i64)).take i).toArray ++ Builtin.zeroCells (Value.int .i64 0).cells (f.xs.length + 1 - i) ++ Builtin.zeroCells (Value.int .i64 0).cells (G - (f.xs.length + 1))) 3)
        have hS : (((f.xs.map (Value.int .i64)).take i).toArray ++ Builtin.zeroCells (Value.int .i64 0).cells (f.xs.length + 1 - i) ++ Builtin.zeroCells (Value.int .i64 0).cells (G - (f.xs.length + 1))).size = G := by
          rw [Array.size_append, Array.size_append, zero_size, zero_size]; simp; omega
        have hP : ∀ j, j < i → (((f.xs.map (Value.int .i64)).take i).toArray ++ Builtin.zeroCells (Value.int .i64 0).cells (f.xs.length + 1 - i) ++ Builtin.zeroCells (Value.int .i64 0).cells (G - (f.xs.length + 1)))[j]? = some (.int .i64 (f.xs.getD j 0)) := fun j hj => by
          rw [Array.append_assoc, Array.getElem?_append_left (by simp; omega), List.getElem?_toArray, List.getElem?_take_of_lt hj]
          exact map_getD _ _ (by omega)
        change (w.alloc (.cells (((f.xs.map (Value.int .i64)).take i).toArray ++ Builtin.zeroCells (Value.int .i64 0).cells (f.xs.length + 1 - i) ++ Builtin.zeroCells (Value.int .i64 0).cells (G - (f.xs.length + 1))) (laysNm221_ren.t 3))).heap[w.heap.size]? = _ at hA
        generalize ((f.xs.map (Value.int .i64)).take i).toArray ++ Builtin.zeroCells (Value.int .i64 0).cells (f.xs.length + 1 - i) ++ Builtin.zeroCells (Value.int .i64 0).cells (G - (f.xs.length + 1)) = ROW at *
        have hO : ∀ k, k < w.heap.size → (w.alloc (.cells ROW (laysNm221_ren.t 3))).heap[k]? = w.heap[k]? := fun k hk => Below.heap_alloc _ _ _ hk
        have hz : (w.alloc (.cells ROW (laysNm221_ren.t 3))).heap.size = w.heap.size + 1 := by simp
        have hos : (w.alloc (.cells ROW (laysNm221_ren.t 3))).os = w.os ∧ (w.alloc (.cells ROW (laysNm221_ren.t 3))).tape = w.tape ∧ (w.alloc (.cells ROW (laysNm221_ren.t 3))).output = w.output := ⟨rfl, rfl, rfl⟩
        generalize w.alloc (.cells ROW (laysNm221_ren.t 3)) = wa at *
        obtain ⟨c1, k1, k2, k3⟩ := heap_sets_same w.heap.size 3 (0, 0) [.int .i64 x] i wa.drew ROW hA (by simp only [List.length_singleton]; omega)
        obtain ⟨c2, m1, m2, m3⟩ := heap_sets_same w.heap.size 3 (0, 0) ((f.xs.map (Value.int .i64)).drop i) (i + 1) (wa.drew.setCells w.heap.size i [.int .i64 x]).drew c1 k1 (by simp; omega)
        refine ⟨⟨some w.heap.size, G, ins f.xs i x⟩, by unfold FS.val; simp [ins_length _ _ _ hi], FS.ok_some m1 (by omega) (by rw [ins_length _ _ _ hi]; exact g1) g2 (fun j hj => ?_), rfl, ⟨w.heap.size, rfl, .inr (Nat.le_refl _)⟩, ?_⟩
        · rw [ins_length _ _ _ hi] at hj
          rw [m3 j, k3 j, ins_getD _ _ _ hi]
          simp only [List.length_singleton, List.length_drop, List.length_map]
          by_cases hj1 : j < i
          · rw [if_neg (by omega), if_neg (by omega), if_pos hj1]; exact hP j hj1
          · by_cases hj2 : j = i
            · rw [if_neg (by omega), if_pos (by omega), if_neg hj1, if_pos hj2, hj2, Nat.sub_self]; rfl
            · rw [if_pos (by omega), if_neg hj1, if_neg hj2, List.getElem?_drop, show i + (j - (i + 1)) = j - 1 by omega]; exact map_getD _ _ (by omega)
        · refine ⟨?_, ?_, ?_, ?_, fun k hk hn => ?_⟩
          · rw [(sets_os _ _ _ _).1]; show (wa.drew.setCells _ _ _).os = _; rw [(sets_os _ _ _ _).1]; exact hos.1
          · rw [(sets_os _ _ _ _).2.1]; show (wa.drew.setCells _ _ _).tape = _; rw [(sets_os _ _ _ _).2.1]; exact hos.2.1
          · rw [(sets_os _ _ _ _).2.2]; show (wa.drew.setCells _ _ _).output = _; rw [(sets_os _ _ _ _).2.2]; exact hos.2.2
          · rw [sets_size]; show _ ≤ (wa.drew.setCells _ _ _).heap.size; rw [sets_size]; show _ ≤ wa.heap.size; omega
          · have hk2 : k ≠ w.heap.size := by omega
            rw [heap_sets_other _ _ hk2]; show (wa.drew.setCells _ _ _).heap[k]? = _; rw [heap_sets_other _ _ hk2]; exact hO k hk

/-- Clone: the same list in a block of its own; nil of nil. -/
theorem clone_calls {w : World} {f : FS} (hf : f.ok w) (hl : f.xs.length ≤ 1048576) :
    Calls Try.prog 65 #[f.val] w fun e w' => ∃ f' : FS, e = .returned f'.val ∧ f'.ok w' ∧ f'.xs = f.xs ∧ (∀ b, f'.blk = some b → w.heap.size ≤ b) ∧ Below w.heap.size w w' := by
  cases hb : f.blk with
  | none =>
    have hx : f.xs = [] := by unfold FS.ok at hf; rw [hb] at hf; exact hf
    have hval : f.val = .slice none 0 0 := by unfold FS.val; rw [hb]
    rw [hval]
    refine (slices_Clone_int_nil 0 0 w).mono ?_
    rintro e w' ⟨rfl, rfl⟩
    exact ⟨⟨none, 0, []⟩, rfl, rfl, hx.symm, (fun b h => by cases h), Below.refl _ _⟩
  | some b =>
    obtain ⟨cur, h1, h2, h3, h4, h5⟩ := FS.cells hf hb
    have hval : f.val = .slice (some ⟨b, 0, none⟩) f.xs.length f.cap := by unfold FS.val; rw [hb]
    rw [hval]
    refine (slices_Clone_int b 0 f.xs.length f.cap f.xs w (Nat.le_refl _) (by omega) (fun j hj => ?_)).mono ?_
    · rw [cell_of h1, Nat.zero_add]; exact h5 j hj
    · rintro e w' ⟨v', rfl, ⟨hlen, ho⟩, hne, hB⟩
      rcases ho with ⟨rfl, hn⟩ | ⟨g, cap, cur', rfl, hg, hh, hc1, hc2, hc3, hc4⟩
      · exact absurd rfl hne
      · refine ⟨⟨some g, cap, f.xs⟩, rfl, FS.ok_some hh (by omega) hc1 hc2 (fun j hj => ?_), rfl, fun b' hb' => by cases hb'; exact hg, hB⟩
        have h6 := congrArg (·[j]?) hc4
        simp only [List.take_length, Nat.mul_one] at h6
        rw [List.getElem?_take_of_lt hj, map_getD _ _ hj] at h6
        rw [← h6, Array.getElem?_toList]

/-- BinarySearch: how many elements are below. -/
theorem search_calls {w : World} {f : FS} (hf : f.ok w) (hl : f.xs.length ≤ 1048576) (hs : f.xs.Pairwise (· ≤ ·)) (x : Int) :
    Calls Try.prog 67 #[f.val, .int .i64 x] w fun e w' => e = .returned (.tuple #[.int .i64 (f.xs.countP (· < x) : Nat), .bool (f.xs.contains x)]) ∧ ∃ q, w' = w.drewN q := by
  cases hb : f.blk with
  | none =>
    have hx : f.xs = [] := by unfold FS.ok at hf; rw [hb] at hf; exact hf
    have hval : f.val = .slice none 0 0 := by unfold FS.val; rw [hb]
    rw [hval, hx]
    refine (slices_BinarySearch_int_empty none 0 x w).mono ?_
    rintro e w' ⟨rfl, rfl⟩
    exact ⟨rfl, 0, rfl⟩
  | some b =>
    obtain ⟨cur, h1, h2, h3, h4, h5⟩ := FS.cells hf hb
    have hval : f.val = .slice (some ⟨b, 0, none⟩) f.xs.length f.cap := by unfold FS.val; rw [hb]
    rw [hval]
    refine (slices_BinarySearch_int b 0 f.xs.length f.cap f.xs x w (Nat.le_refl _) (by omega) (fun j hj => ?_) (by rwa [List.take_length])).mono ?_
    · rw [cell_of h1, Nat.zero_add]; exact h5 j hj
    · rintro e w' ⟨rfl, hq⟩
      rw [List.take_length]
      exact ⟨rfl, hq⟩

/-- Delete of one element: in place. -/
theorem delete_calls {w : World} {f : FS} (hf : f.ok w) (i : Nat) (hi : i < f.xs.length) (hl : f.xs.length ≤ 1048576) :
    Calls Try.prog 82 #[f.val, .int .i64 i, .int .i64 (i + 1 : Nat)] w fun e w' => ∃ f' : FS, e = .returned f'.val ∧ f'.ok w' ∧ f'.xs = f.xs.take i ++ f.xs.drop (i + 1) ∧ f'.blk = f.blk ∧ But (fun b => f.blk = some b) w w' := by
  cases hb : f.blk with
  | none =>
    have hx : f.xs = [] := by unfold FS.ok at hf; rw [hb] at hf; exact hf
    rw [hx] at hi; simp at hi
  | some b =>
    obtain ⟨cur, h1, h2, h3, h4, h5⟩ := FS.cells hf hb
    have hval : f.val = .slice (some ⟨b, 0, none⟩) f.xs.length f.cap := by unfold FS.val; rw [hb]
    have hml : maxLen = 9223372036854775807 := by unfold maxLen; rfl
    rw [hval]
    refine (slices_Delete_int_cells b 0 f.xs.length f.cap i (i + 1) f.xs w (Nat.le_refl _) h3 (by omega) (by omega) (by omega) (fun j hj => ?_) (fun j hj => frozen_of h1)).mono ?_
    · rw [cell_of h1, Nat.zero_add]; exact h5 j hj
    · rintro e w' ⟨rfl, q, rfl⟩
      rw [List.take_length, show i + 1 - i = 1 by omega]
      have hlen : (f.xs.take i ++ f.xs.drop (i + 1)).length = f.xs.length - 1 := by simp; omega
      obtain ⟨c', k1, k2, k3⟩ := heap_sets_same b 3 (0, 0) ((f.xs.take i ++ f.xs.drop (i + 1) ++ List.replicate 1 0).map (Value.int .i64)) 0 (w.drewN q) cur h1 (by rw [List.length_map, List.length_append, hlen]; simp; omega)
      refine ⟨⟨some b, f.cap, f.xs.take i ++ f.xs.drop (i + 1)⟩, by unfold FS.val; rw [hlen], FS.ok_some k1 (by omega) (by omega) h4 (fun j hj => ?_), rfl, rfl, ?_⟩
      · rw [hlen] at hj
        rw [k3 j, if_pos (by rw [List.length_map, List.length_append, hlen]; simp; omega), Nat.sub_zero, List.map_append, List.getElem?_append_left (by rw [List.length_map, hlen]; omega)]
        exact map_getD _ _ (by omega)
      · exact ⟨(sets_os _ _ _ _).1, (sets_os _ _ _ _).2.1, (sets_os _ _ _ _).2.2, by rw [sets_size]; exact Nat.le_refl _, fun k hk hn => heap_sets_other _ _ (fun e => hn (by rw [e])) _ _ _⟩
end Go.Proofs.Ytgdhapapdpccpaa.A
