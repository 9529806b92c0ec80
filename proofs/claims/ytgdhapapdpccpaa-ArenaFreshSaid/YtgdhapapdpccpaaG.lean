/- arena: a row of blocks as plain data, and the arena's memory as what that row spells; what drop, put and a release do to the row. No program in sight. -/
import Derived.Test.YtgdhapapdpccpaaE
namespace Go.Proofs.Ytgdhapapdpccpaa.A
open Go.RowKit Go.Proofs
set_option linter.unusedVariables false
set_option linter.unusedSimpArgs false

/-- A block as it lies: its head, whether it is in a list of free blocks, whether its address is a used block's, its words. -/
structure RB where
  hd : Int
  lst : Bool
  liv : Bool
  wd : List Int
def RB.sz (b : RB) : Nat := b.wd.length
def flat : List RB → List Int
  | [] => []
  | b :: r => b.hd :: (b.wd ++ flat r)
def flags : List RB → List Bool
  | [] => []
  | b :: r => b.liv :: (List.replicate b.sz false ++ flags r)
def span : List RB → Nat
  | [] => 0
  | b :: r => b.sz + 1 + span r
def frees (c : Nat) : Int → List RB → List Int
  | _, [] => []
  | p, b :: r => if b.lst = true ∧ cls b.sz = c then p :: frees c (p + b.sz + 1) r else frees c (p + b.sz + 1) r

theorem flat_length : ∀ bs, (flat bs).length = span bs
  | [] => rfl
  | b :: r => by simp only [flat, span, List.length_cons, List.length_append, flat_length r, RB.sz]; omega
theorem flags_length : ∀ bs, (flags bs).length = span bs
  | [] => rfl
  | b :: r => by simp only [flags, span, List.length_cons, List.length_append, flags_length r, RB.sz, List.length_replicate]; omega
theorem flat_append : ∀ xs ys, flat (xs ++ ys) = flat xs ++ flat ys
  | [], _ => rfl
  | b :: r, ys => by simp only [List.cons_append, flat, flat_append r ys, List.append_assoc]
theorem flags_append : ∀ xs ys, flags (xs ++ ys) = flags xs ++ flags ys
  | [], _ => rfl
  | b :: r, ys => by simp only [List.cons_append, flags, flags_append r ys, List.append_assoc]
theorem span_append : ∀ xs ys, span (xs ++ ys) = span xs + span ys
  | [], ys => by simp [span]
  | b :: r, ys => by simp only [List.cons_append, span, span_append r ys]; omega
theorem frees_append (c : Nat) : ∀ (xs ys : List RB) (p : Int), frees c p (xs ++ ys) = frees c p xs ++ frees c (p + span xs) ys
  | [], ys, p => by simp [frees, span]
  | b :: r, ys, p => by
    simp only [List.cons_append, frees, span]
    rw [frees_append c r ys]
    rw [show p + (b.sz : Int) + 1 + (span r : Int) = p + ((b.sz + 1 + span r : Nat) : Int) by omega]
    split <;> simp
theorem frees_bd (c : Nat) : ∀ (bs : List RB) (p x : Int), x ∈ frees c p bs → p ≤ x ∧ x < p + span bs
  | [], p, x, h => by simp [frees] at h
  | b :: r, p, x, h => by
    have ih := frees_bd c r (p + b.sz + 1) x
    simp only [frees] at h
    simp only [span]
    split at h
    · rcases List.mem_cons.1 h with rfl | h
      · omega
      · have := ih h; omega
    · have := ih h; omega
theorem frees_sorted (c : Nat) : ∀ (bs : List RB) (p : Int), (frees c p bs).Pairwise (· < ·)
  | [], p => by simp [frees]
  | b :: r, p => by
    simp only [frees]
    split
    · exact List.pairwise_cons.2 ⟨fun x hx => by have := frees_bd c r _ x hx; omega, frees_sorted c r _⟩
    · exact frees_sorted c r _
theorem frees_len (c : Nat) : ∀ (bs : List RB) (p : Int), (frees c p bs).length ≤ span bs
  | [], p => by simp [frees]
  | b :: r, p => by
    have := frees_len c r (p + b.sz + 1)
    simp only [frees, span]
    split
    · simp only [List.length_cons]; omega
    · omega
/-- What a free block's address is of. -/
theorem frees_mem (c : Nat) : ∀ (bs : List RB) (p x : Int), x ∈ frees c p bs → ∃ pre b post, bs = pre ++ b :: post ∧ x = p + span pre ∧ b.lst = true ∧ cls b.sz = c
  | [], p, x, h => by simp [frees] at h
  | b :: r, p, x, h => by
    have ih := frees_mem c r (p + b.sz + 1) x
    simp only [frees] at h
    have step : x ∈ frees c (p + b.sz + 1) r → ∃ pre b' post, b :: r = pre ++ b' :: post ∧ x = p + span pre ∧ b'.lst = true ∧ cls b'.sz = c := fun h => by
      obtain ⟨pre, b', post, rfl, rfl, h1, h2⟩ := ih h
      exact ⟨b :: pre, b', post, rfl, by simp only [span]; omega, h1, h2⟩
    split at h
    · rename_i hc
      rcases List.mem_cons.1 h with rfl | h
      · exact ⟨[], b, r, rfl, by simp [span], hc.1, hc.2⟩
      · exact step h
    · exact step h
theorem mem_frees (c : Nat) (pre : List RB) (b : RB) (post : List RB) (p : Int) (h1 : b.lst = true) (h2 : cls b.sz = c) : p + span pre ∈ frees c p (pre ++ b :: post) := by
  rw [frees_append]
  simp only [frees]
  rw [if_pos ⟨h1, h2⟩]
  simp
theorem frees_none (c : Nat) : ∀ (bs : List RB) (p : Int), (∀ b ∈ bs, b.lst = false) → frees c p bs = []
  | [], _, _ => rfl
  | b :: r, p, h => by
    simp only [frees]
    rw [if_neg (by rw [h b (List.mem_cons_self ..)]; simp)]
    exact frees_none c r _ (fun x hx => h x (List.mem_cons_of_mem _ hx))
theorem flags_none : ∀ (bs : List RB), (∀ b ∈ bs, b.liv = false) → flags bs = List.replicate (span bs) false
  | [], _ => rfl
  | b :: r, h => by
    simp only [flags, span]
    rw [flags_none r (fun x hx => h x (List.mem_cons_of_mem _ hx)), h b (List.mem_cons_self ..), show b.sz + 1 + span r = (b.sz + span r) + 1 by omega, List.replicate_succ, ← List.replicate_append_replicate]

/-! ### An arena that spells a row of blocks -/
structure Is (A : Ar) (bs : List RB) : Prop where
  ws : A.ws = flat bs
  lv : A.lv = false :: flags bs
  fs : ∀ c, c < 22 → (A.fs c).xs = frees c 1 bs
theorem Is.len {A : Ar} {bs : List RB} (h : Is A bs) : A.ws.length = span bs := by rw [h.ws, flat_length]
theorem getD_mid {α : Type} (xs : List α) (y : α) (zs : List α) (k : Nat) (hk : k = xs.length) (d : α) : (xs ++ y :: zs).getD k d = y := by
  subst hk; simp [List.getD]
theorem set_mid {α : Type} (xs : List α) (y z : α) (zs : List α) (k : Nat) (hk : k = xs.length) : (xs ++ y :: zs).set k z = xs ++ z :: zs := by
  subst hk; simp
section
variable {A : Ar} {pre : List RB} {b : RB} {post : List RB}
theorem Is.head (h : Is A (pre ++ b :: post)) (k : Nat) (hk : k = span pre) : A.ws.getD k 0 = b.hd := by
  rw [h.ws, flat_append]
  exact getD_mid _ _ _ _ (by rw [hk, flat_length]) _
theorem Is.size (h : Is A (pre ++ b :: post)) (at_ : Int) (ha : at_ = 1 + span pre) : A.size at_ = b.hd / 4 := by
  unfold Ar.size
  rw [h.head (at_.toNat - 1) (by omega)]
theorem Is.live (h : Is A (pre ++ b :: post)) (at_ : Int) (ha : at_ = 1 + span pre) : A.lv.getD at_.toNat false = b.liv := by
  rw [h.lv, flags_append, ← List.cons_append]
  exact getD_mid _ _ _ _ (by rw [List.length_cons, flags_length]; omega) _
theorem Is.has (h : Is A (pre ++ b :: post)) (at_ : Int) (ha : at_ = 1 + span pre) : A.has at_ = b.liv := by
  unfold Ar.has
  rw [h.live at_ ha, decide_eq_true (by omega), decide_eq_true, Bool.true_and, Bool.true_and]
  rw [h.lv, List.length_cons, flags_length, span_append]
  simp only [span]
  omega
/-- The head is another. -/
theorem Is.setHd (h : Is A (pre ++ b :: post)) (k : Nat) (hk : k = span pre) (x : Int) : Is { A with ws := A.ws.set k x } (pre ++ { b with hd := x } :: post) where
  ws := by
    show A.ws.set k x = _
    rw [h.ws, flat_append, flat_append]
    exact set_mid _ _ _ _ _ (by rw [hk, flat_length])
  lv := h.lv.trans (by rw [flags_append, flags_append]; rfl)
  fs c hc := (h.fs c hc).trans (by rw [frees_append, frees_append]; rfl)
/-- The address is a used block's, or none. -/
theorem Is.setLiv (h : Is A (pre ++ b :: post)) (k : Nat) (hk : k = span pre + 1) (x : Bool) : Is { A with lv := A.lv.set k x } (pre ++ { b with liv := x } :: post) where
  ws := h.ws.trans (by rw [flat_append, flat_append]; rfl)
  lv := by
    show A.lv.set k x = _
    rw [h.lv, flags_append, flags_append, ← List.cons_append, ← List.cons_append]
    exact set_mid _ _ _ _ _ (by rw [hk, List.length_cons, flags_length])
  fs c hc := (h.fs c hc).trans (by rw [frees_append, frees_append]; rfl)
theorem Is.setUs {bs : List RB} (h : Is A bs) (x : Int) : Is { A with us := x } bs := ⟨h.ws, h.lv, h.fs⟩
end

/-! ### Out of a list and into it -/
theorem countP_below (F1 F2 : List Int) (x : Int) (h1 : ∀ y ∈ F1, y < x) (h2 : ∀ y ∈ F2, x ≤ y) : (F1 ++ F2).countP (· < x) = F1.length := by
  rw [List.countP_append, List.countP_eq_length.2 (fun y hy => by simpa using h1 y hy), List.countP_eq_zero.2 (fun y hy => by simpa using h2 y hy)]
  omega
theorem less_mid (F1 F2 : List Int) (x : Int) (h1 : ∀ y ∈ F1, y < x) (h2 : ∀ y ∈ F2, x ≤ y) :
    (F1 ++ x :: F2).take ((F1 ++ x :: F2).countP (· < x)) ++ (F1 ++ x :: F2).drop ((F1 ++ x :: F2).countP (· < x) + 1) = F1 ++ F2 := by
  rw [countP_below F1 (x :: F2) x h1 (fun y hy => by rcases List.mem_cons.1 hy with rfl | h; · exact Int.le_refl _
                                                     · exact h2 y h)]
  simp
theorem ins_mid (F1 F2 : List Int) (x : Int) (h1 : ∀ y ∈ F1, y < x) (h2 : ∀ y ∈ F2, x ≤ y) : ins (F1 ++ F2) ((F1 ++ F2).countP (· < x)) x = F1 ++ x :: F2 := by
  rw [countP_below F1 F2 x h1 h2]
  unfold ins
  simp
section
variable {A : Ar} {pre : List RB} {b : RB} {post : List RB}
theorem Is.parts (h : Is A (pre ++ b :: post)) (c : Nat) (hc : c < 22) : (A.fs c).xs = frees c 1 pre ++ ((if b.lst = true ∧ cls b.sz = c then [1 + (span pre : Int)] else []) ++ frees c (1 + span pre + b.sz + 1) post) := by
  rw [h.fs c hc, frees_append]
  simp only [frees]
  split <;> rfl
theorem pre_below (c : Nat) (pre : List RB) : ∀ y ∈ frees c 1 pre, y < 1 + (span pre : Int) := fun y hy => (frees_bd c pre 1 y hy).2
theorem post_above (c : Nat) (pre : List RB) (b : RB) (post : List RB) : ∀ y ∈ frees c (1 + span pre + b.sz + 1) post, 1 + (span pre : Int) ≤ y := fun y hy => by have := (frees_bd c post _ y hy).1; omega
/-- drop: the block is in no list. -/
theorem Is.drop (h : Is A (pre ++ b :: post)) (hb : b.lst = true) (at_ : Int) (ha : at_ = 1 + span pre) (c : Nat) (hc : c < 22) (hcls : cls b.sz = c) (f : FS)
    (hf : f.xs = (A.fs c).xs.take ((A.fs c).xs.countP (· < at_)) ++ (A.fs c).xs.drop ((A.fs c).xs.countP (· < at_) + 1)) : Is (A.setF c f) (pre ++ { b with lst := false } :: post) where
  ws := h.ws.trans (by rw [flat_append, flat_append]; rfl)
  lv := h.lv.trans (by rw [flags_append, flags_append]; rfl)
  fs d hd := by
    show (if d = c then f else A.fs d).xs = _
    rw [frees_append]
    simp only [frees, Bool.false_eq_true, false_and, if_false]
    by_cases hdc : d = c
    · subst hdc
      rw [if_pos rfl, hf, h.parts d hd, if_pos ⟨hb, hcls⟩, ha, List.singleton_append]
      exact less_mid _ _ _ (pre_below d pre) (post_above d pre b post)
    · rw [if_neg hdc, h.parts d hd, if_neg (fun e => hdc (by rw [← hcls]; exact e.2.symm))]
      rfl
theorem Is.below (h : Is A (pre ++ b :: post)) (hb : b.lst = true) (at_ : Int) (ha : at_ = 1 + span pre) (c : Nat) (hc : c < 22) (hcls : cls b.sz = c) : (A.fs c).xs.countP (· < at_) < (A.fs c).xs.length := by
  rw [h.parts c hc, if_pos ⟨hb, hcls⟩, ha, countP_below _ _ _ (pre_below c pre) (fun y hy => by
    rcases List.mem_append.1 hy with h1 | h1
    · simp at h1; omega
    · exact post_above c pre b post y h1)]
  simp
/-- put: the head is set, and the block is in its list. -/
theorem Is.put (h : Is A (pre ++ b :: post)) (hb : b.lst = false) (at_ : Int) (ha : at_ = 1 + span pre) (size : Int) (hs : size = b.sz) (c : Nat) (hc : c < 22) (hcls : cls size = c) (f : FS)
    (hf : f.xs = ins (A.fs c).xs ((A.fs c).xs.countP (· < at_)) at_) : Is (({ A with ws := A.ws.set (at_.toNat - 1) (size * 4) } : Ar).setF c f) (pre ++ { b with hd := size * 4, lst := true } :: post) where
  ws := (h.setHd (at_.toNat - 1) (by omega) (size * 4)).ws.trans (by rw [flat_append, flat_append]; rfl)
  lv := h.lv.trans (by rw [flags_append, flags_append]; rfl)
  fs d hd := by
    show (if d = c then f else A.fs d).xs = _
    rw [frees_append]
    simp only [frees, true_and]
    have hb' : ¬ (b.lst = true ∧ cls b.sz = d) := fun e => by rw [hb] at e; simp at e
    by_cases hdc : d = c
    · subst hdc
      rw [if_pos rfl, hf, h.parts d hd, if_neg hb', ha, List.nil_append]
      rw [if_pos (by show cls b.sz = d; rw [← hs]; exact hcls)]
      exact ins_mid _ _ _ (pre_below d pre) (post_above d pre b post)
    · rw [if_neg hdc, h.parts d hd, if_neg hb', if_neg (fun e => hdc (by rw [← hcls, hs]; exact e.symm))]
      rfl
end

/-! ### Blocks as one, and one as blocks -/
/-- Blocks that are in no list and no used ones', as one. -/
def fuse (l : List RB) : RB := ⟨(flat l).headD 0, false, false, (flat l).tail⟩
theorem flat_fuse (l : List RB) (h : l ≠ []) : flat [fuse l] = flat l := by
  cases l with
  | nil => exact absurd rfl h
  | cons b r => simp [fuse, flat]
theorem span_fuse (l : List RB) (h : l ≠ []) : (fuse l).sz + 1 = span l := by
  have := congrArg List.length (flat_fuse l h)
  rw [flat_length, flat_length] at this
  simp only [span] at this
  omega
/-- One row of blocks spells what another spells. -/
theorem Is.alike {A : Ar} {xs ys : List RB} (h : Is A xs) (h1 : flat xs = flat ys) (h2 : flags xs = flags ys) (h3 : ∀ c, frees c 1 xs = frees c 1 ys) : Is A ys :=
  ⟨h.ws.trans h1, h.lv.trans (by rw [h2]), fun c hc => (h.fs c hc).trans (h3 c)⟩
theorem alike_mid (pre post xs ys : List RB) (h1 : flat xs = flat ys) (h2 : flags xs = flags ys) (h3 : ∀ b ∈ xs, b.lst = false) (h4 : ∀ b ∈ ys, b.lst = false) :
    flat (pre ++ (xs ++ post)) = flat (pre ++ (ys ++ post)) ∧ flags (pre ++ (xs ++ post)) = flags (pre ++ (ys ++ post)) ∧ ∀ c, frees c 1 (pre ++ (xs ++ post)) = frees c 1 (pre ++ (ys ++ post)) := by
  refine ⟨?_, ?_, fun c => ?_⟩
  · simp only [flat_append, h1]
  · simp only [flags_append, h2]
  · simp only [frees_append]
    rw [frees_none c xs _ h3, frees_none c ys _ h4, ← flat_length xs, ← flat_length ys, h1]
theorem Is.fuse {A : Ar} {pre post mid : List RB} (h : Is A (pre ++ (mid ++ post))) (hm : mid ≠ []) (h3 : ∀ b ∈ mid, b.lst = false) (h4 : ∀ b ∈ mid, b.liv = false) : Is A (pre ++ fuse mid :: post) := by
  have k := alike_mid pre post mid [_root_.Go.Proofs.Ytgdhapapdpccpaa.A.fuse mid] (flat_fuse mid hm).symm (by
    rw [flags_none mid h4, flags_none [_root_.Go.Proofs.Ytgdhapapdpccpaa.A.fuse mid] (fun b hb => by simp at hb; rw [hb]; rfl)]
    rw [← flat_length, ← flat_length, flat_fuse mid hm]) h3 (fun b hb => by simp at hb; rw [hb]; rfl)
  exact h.alike k.1 k.2.1 k.2.2
/-- A block of so many words, and what is behind them as another. -/
theorem Is.split {A : Ar} {pre post : List RB} {b : RB} (h : Is A (pre ++ b :: post)) (hl : b.lst = false) (hv : b.liv = false) (n : Nat) (hn : n < b.sz) :
    Is A (pre ++ (⟨b.hd, false, false, b.wd.take n⟩ : RB) :: ⟨b.wd.getD n 0, false, false, b.wd.drop (n + 1)⟩ :: post) := by
  have k := alike_mid pre post [b] [(⟨b.hd, false, false, b.wd.take n⟩ : RB), ⟨b.wd.getD n 0, false, false, b.wd.drop (n + 1)⟩] (by
      simp only [flat, List.append_nil]
      have : b.wd = b.wd.take n ++ (b.wd.getD n 0 :: b.wd.drop (n + 1)) := by
        have hn' : n < b.wd.length := hn
        rw [List.getD_eq_getElem?_getD, List.getElem?_eq_getElem hn', Option.getD_some, List.getElem_cons_drop, List.take_append_drop]
      rw [← this]) (by
      rw [flags_none [b] (fun x hx => by simp at hx; rw [hx]; exact hv), flags_none [_, _] (fun x hx => by simp at hx; rcases hx with rfl | rfl <;> rfl)]
      congr 1
      unfold RB.sz at hn
      simp only [span, RB.sz, List.length_take, List.length_drop]
      omega) (fun x hx => by simp at hx; rw [hx]; exact hl) (fun x hx => by simp at hx; rcases hx with rfl | rfl <;> rfl)
  exact h.alike k.1 k.2.1 k.2.2
/-- Words within a block are noughts. -/
theorem zeros_mid (xs ys zs : List Int) (o k : Nat) (ho : o = xs.length) (hk : k = ys.length) : zeros (xs ++ (ys ++ zs)) o k = xs ++ (List.replicate k 0 ++ zs) := by
  subst ho hk
  unfold zeros
  simp
theorem Is.zeros {A : Ar} {pre post : List RB} {b : RB} (h : Is A (pre ++ b :: post)) (o k : Nat) (ho : o = span pre + 1) (hk : k = b.sz) : Is { A with ws := _root_.Go.Proofs.Ytgdhapapdpccpaa.A.zeros A.ws o k } (pre ++ { b with wd := List.replicate k 0 } :: post) where
  ws := by
    show _root_.Go.Proofs.Ytgdhapapdpccpaa.A.zeros A.ws o k = _
    rw [h.ws, flat_append, flat_append]
    simp only [flat]
    rw [show flat pre ++ b.hd :: (b.wd ++ flat post) = (flat pre ++ [b.hd]) ++ (b.wd ++ flat post) by simp, zeros_mid _ _ _ _ _ (by simp [ho, flat_length]) hk]
    simp
  lv := h.lv.trans (by
    rw [flags_append, flags_append]
    simp only [flags, RB.sz, List.length_replicate]
    rw [hk]; rfl)
  fs c hc := (h.fs c hc).trans (by
    rw [frees_append, frees_append]
    simp only [frees, RB.sz, List.length_replicate]
    rw [hk]; rfl)
end Go.Proofs.Ytgdhapapdpccpaa.A
