/- arena: Take: the best free block, and taking it. -/
import Derived.Test.YtgdhapapdpccpaaD
namespace Go.Proofs.Ytgdhapapdpccpaa.A
open Go.RowKit Go.Proofs
set_option linter.unusedVariables false
set_option linter.unusedSimpArgs false

/-- One more block is looked at. -/
def Ar.pick (A : Ar) (n best at_ : Int) : Int := if n ≤ A.size at_ ∧ (best = 0 ∨ A.size at_ < A.size best) then at_ else best
/-- A box and what it holds; nothing else has turned. -/
structure Box (w w' : World) (g : Nat) (v : Value) : Prop where
  but : But (fun b => b = g) w w'
  cell : w'.cell? ⟨g, 0, none⟩ = some v
  fz : w'.frozen? ⟨g, 0, none⟩ = false
theorem Box.same {w : World} {g : Nat} {v : Value} (hc : w.cell? ⟨g, 0, none⟩ = some v) (hf : w.frozen? ⟨g, 0, none⟩ = false) {w' : World} (d : Dr w w') : Box w w' g v :=
  ⟨But.of_dr d (But.refl _ _) , by unfold World.cell? at hc ⊢; rw [d.1]; exact hc, by unfold World.frozen? at hf ⊢; rw [d.1]; exact hf⟩
theorem Box.set {w : World} {g : Nat} {u : Value} (hc : w.cell? ⟨g, 0, none⟩ = some u) (hf : w.frozen? ⟨g, 0, none⟩ = false) (v : Value) {w' : World} (d : Dr (w.setCell ⟨g, 0, none⟩ v) w') : Box w w' g v := by
  have hc' : (w.setCell ⟨g, 0, none⟩ v).cell? ⟨g, 0, none⟩ = some v := World.cell?_setCell_same w _ _ hc
  have hf' : (w.setCell ⟨g, 0, none⟩ v).frozen? ⟨g, 0, none⟩ = false := by simpa using hf
  refine ⟨⟨d.2.1, d.2.2.1, d.2.2.2, by rw [d.1]; simp [World.setCell], fun k hk hn => by rw [d.1]; exact heap_set_other hn⟩, ?_, ?_⟩
  · unfold World.cell? at hc' ⊢; rw [d.1]; exact hc'
  · unfold World.frozen? at hf' ⊢; rw [d.1]; exact hf'

theorem pick_calls {w : World} {A : Ar} (R : Rep w A) (n best at_ : Int) (h0 : 1 ≤ at_) (h1 : at_ ≤ A.ws.length) (hb : best = 0 ∨ (1 ≤ best ∧ best ≤ A.ws.length)) (g0 g1 g2 : Nat)
    (c0 : w.cell? ⟨g0, 0, none⟩ = some (.pointer (some ⟨A.p, 0, none⟩))) (c1 : w.cell? ⟨g1, 0, none⟩ = some (.int .i64 n)) (c2 : w.cell? ⟨g2, 0, none⟩ = some (.int .i64 best)) (f2 : w.frozen? ⟨g2, 0, none⟩ = false) :
    Calls Try.prog 51 #[.int .i64 at_, .pointer (some ⟨g0, 0, none⟩), .pointer (some ⟨g1, 0, none⟩), .pointer (some ⟨g2, 0, none⟩)] w fun e w' => e = .returned (.tuple #[]) ∧ Box w w' g2 (.int .i64 (A.pick n best at_)) := by
  have T := Lib.hid (size_calls R at_ h0 h1)
  have T2 : Hid (best ≠ 0 → Calls Try.prog 52 #[.pointer (some ⟨A.p, 0, none⟩), .int .i64 best] w fun e w' => e = .returned (.int .i64 (A.size best)) ∧ w' = w) := Lib.hid (fun h => size_calls R best (by omega) (by omega))
  have BS := Lib.hid (fun (v : Value) (w' : World) (d : Dr w w') (e : v = .int .i64 best) => (e ▸ Box.same c2 f2 d : Box w w' g2 v))
  have BX := Lib.hid (fun (w' : World) (d : Dr (w.setCell ⟨g2, 0, none⟩ (.int .i64 at_)) w') => Box.set c2 f2 (.int .i64 at_) d)
  clear R h0 h1 hb
  by_cases k1 : n ≤ A.size at_
  · by_cases k2 : best = 0
    · have e : A.pick n best at_ = at_ := by unfold Ar.pick; rw [if_pos ⟨k1, .inl k2⟩]
      rw [e]
      generalize A.size at_ = s at *
      subst k2
      clear T2 BS
      go_enter Try.func51, Try.ntmps51
      go_wp2_with (first | (go_at_call 52; (with_reducible refine (T.out).mono ?_); rintro e w' ⟨rfl, rfl⟩) | (go_at_call 52; (with_reducible refine (T2.out k2).mono ?_); rintro e w' ⟨rfl, rfl⟩))
      go_end0
      exact ⟨rfl, BX.out _ ⟨rfl, rfl, rfl, rfl⟩⟩
    · by_cases k3 : A.size at_ < A.size best
      · have e : A.pick n best at_ = at_ := by unfold Ar.pick; rw [if_pos ⟨k1, .inr k3⟩]
        rw [e]
        generalize A.size at_ = s at *
        generalize A.size best = s2 at *
        clear BS
        go_enter Try.func51, Try.ntmps51
        go_wp2_with (first | (go_at_call 52; (with_reducible refine (T.out).mono ?_); rintro e w' ⟨rfl, rfl⟩) | (go_at_call 52; (with_reducible refine (T2.out k2).mono ?_); rintro e w' ⟨rfl, rfl⟩))
        go_end0
        exact ⟨rfl, BX.out _ ⟨rfl, rfl, rfl, rfl⟩⟩
      · have e : A.pick n best at_ = best := by unfold Ar.pick; rw [if_neg (fun h => h.2.elim k2 k3)]
        rw [e]
        generalize A.size at_ = s at *
        generalize A.size best = s2 at *
        replace k3 : decide (s < s2) = false := decide_eq_false k3
        clear BX
        go_enter Try.func51, Try.ntmps51
        go_wp2_with (first | (go_at_call 52; (with_reducible refine (T.out).mono ?_); rintro e w' ⟨rfl, rfl⟩) | (go_at_call 52; (with_reducible refine (T2.out k2).mono ?_); rintro e w' ⟨rfl, rfl⟩))
        go_end0
        exact ⟨rfl, BS.out _ _ ⟨rfl, rfl, rfl, rfl⟩ rfl⟩
  · have e : A.pick n best at_ = best := by unfold Ar.pick; rw [if_neg (fun h => k1 h.1)]
    rw [e]
    generalize A.size at_ = s at *
    clear BX T2
    go_enter Try.func51, Try.ntmps51
    go_wp2_with (first | (go_at_call 52; (with_reducible refine (T.out).mono ?_); rintro e w' ⟨rfl, rfl⟩))
    go_end0
    exact ⟨rfl, BS.out _ _ ⟨rfl, rfl, rfl, rfl⟩ rfl⟩

/-- All of one list. -/
def Ar.picks (A : Ar) (n best : Int) (xs : List Int) : Int := xs.foldl (A.pick n) best
theorem Ar.picks_snoc (A : Ar) (n best : Int) (xs : List Int) (x : Int) : A.picks n best (xs ++ [x]) = A.pick n (A.picks n best xs) x := by simp [Ar.picks]
/-- List after list, from the one of class c on, till one is found: at most m of them. -/
def Ar.seek (A : Ar) (n : Int) : Nat → Nat → Int → Int
  | 0, _, best => best
  | m + 1, c, best => if best = 0 then A.seek n m (c + 1) (A.picks n best (A.fs c).xs) else best
def Ar.best (A : Ar) (n : Int) : Int := A.seek n (22 - cls n) (cls n) 0
theorem Box.rep {w w' : World} {A : Ar} {g : Nat} {v : Value} (B : Box w w' g v) (R : Rep w A) (hn : ¬ A.foot g) : Rep w' A :=
  R.congr (fun b hb => B.but.off b (R.lt hb) (fun e => hn (e ▸ hb)))
theorem Box.trans {w w' w'' : World} {g : Nat} {v u : Value} (B : Box w w' g v) (C : Box w' w'' g u) : Box w w'' g u :=
  ⟨B.but.trans C.but (fun _ _ h => h), C.cell, C.fz⟩
theorem FS.val_len {w : World} {f : FS} (h : f.ok w) : ∃ ba bc, f.val = .slice ba f.xs.length bc ∧ ∀ k, k < f.xs.length → ∃ b, ba = some ⟨b, 0, none⟩ ∧ f.blk = some b := by
  cases hb : f.blk with
  | none =>
    have hx : f.xs = [] := by unfold FS.ok at h; rw [hb] at h; exact h
    exact ⟨none, 0, by unfold FS.val; rw [hb, hx]; rfl, fun k hk => by rw [hx] at hk; simp at hk⟩
  | some b => exact ⟨some ⟨b, 0, none⟩, f.cap, by unfold FS.val; rw [hb], fun k hk => ⟨b, rfl, rfl⟩⟩
theorem FS.elem {w : World} {f : FS} {b : Nat} (h : f.ok w) (hb : f.blk = some b) (k : Nat) (hk : k < f.xs.length) : w.cell? ⟨b, k, none⟩ = some (.int .i64 (f.xs.getD k 0)) := by
  obtain ⟨cur, h1, h2, h3, h4, h5⟩ := FS.cells h hb
  rw [cell_of h1]; exact h5 k hk
theorem take_snoc (xs : List Int) (k : Nat) (hk : k < xs.length) : xs.take (k + 1) = xs.take k ++ [xs.getD k 0] := by
  rw [List.take_succ_eq_append_getElem hk]; simp [List.getD, hk]
theorem Ar.pick_ok {A : Ar} {n best x : Int} (hx : 1 ≤ x ∧ x ≤ A.ws.length) (hb : best = 0 ∨ (1 ≤ best ∧ best ≤ A.ws.length)) : A.pick n best x = 0 ∨ (1 ≤ A.pick n best x ∧ A.pick n best x ≤ A.ws.length) := by
  unfold Ar.pick; split
  · exact .inr hx
  · exact hb
theorem Ar.picks_ok {A : Ar} {n : Int} : ∀ (xs : List Int) (best : Int), (∀ x ∈ xs, 1 ≤ x ∧ x ≤ A.ws.length) → (best = 0 ∨ (1 ≤ best ∧ best ≤ A.ws.length)) → A.picks n best xs = 0 ∨ (1 ≤ A.picks n best xs ∧ A.picks n best xs ≤ A.ws.length)
  | [], _, _, hb => hb
  | x :: r, best, hx, hb => picks_ok r (A.pick n best x) (fun y hy => hx y (List.mem_cons_of_mem _ hy)) (pick_ok (hx x (List.mem_cons_self ..)) hb)
theorem Ar.seek_succ (A : Ar) (n : Int) (m c : Nat) (best : Int) : A.seek n (m + 1) c best = if best = 0 then A.seek n m (c + 1) (A.picks n best (A.fs c).xs) else best := rfl
theorem Ar.seek_step (A : Ar) (n : Int) (c : Nat) (hc : c < 22) : A.seek n (22 - c) c 0 = A.seek n (22 - (c + 1)) (c + 1) (A.picks n 0 (A.fs c).xs) := by
  generalize h : 22 - (c + 1) = m
  rw [show 22 - c = m + 1 by omega, Ar.seek_succ, if_pos rfl]
theorem Ar.seek_stop (A : Ar) (n : Int) (c : Nat) (best : Int) (hb : ¬ best = 0) : A.seek n (22 - c) c best = best := by
  generalize 22 - c = m
  cases m with
  | zero => rfl
  | succ m => rw [Ar.seek_succ, if_neg hb]
theorem Ar.seek_end (A : Ar) (n : Int) (c : Nat) (best : Int) (hc : ¬ c < 22) : A.seek n (22 - c) c best = best := by
  rw [show 22 - c = 0 by omega]; rfl
theorem Ar.picks_mem (A : Ar) (n : Int) : ∀ (xs : List Int) (b : Int), A.picks n b xs = b ∨ (A.picks n b xs ∈ xs ∧ n ≤ A.size (A.picks n b xs))
  | [], b => .inl rfl
  | x :: r, b => by
    show A.picks n (A.pick n b x) r = b ∨ _
    rcases A.picks_mem n r (A.pick n b x) with h | h
    · have h' : A.picks n b (x :: r) = A.pick n b x := h
      rw [h, h']
      unfold Ar.pick
      split
      · rename_i hc
        exact .inr ⟨List.mem_cons_self .., hc.1⟩
      · exact .inl rfl
    · exact .inr ⟨List.mem_cons_of_mem _ h.1, h.2⟩
theorem Ar.seek_mem (A : Ar) (n : Int) : ∀ (m c : Nat) (b : Int), A.seek n m c b = b ∨ ∃ d, c ≤ d ∧ d < c + m ∧ A.seek n m c b ∈ (A.fs d).xs ∧ n ≤ A.size (A.seek n m c b)
  | 0, c, b => .inl rfl
  | m + 1, c, b => by
    rw [Ar.seek_succ]
    split
    · rename_i hb
      rcases A.seek_mem n m (c + 1) (A.picks n b (A.fs c).xs) with h | ⟨d, h1, h2, h3, h4⟩
      · rw [h]
        rcases A.picks_mem n (A.fs c).xs b with h5 | h5
        · exact .inl h5
        · exact .inr ⟨c, Nat.le_refl _, by omega, h5.1, h5.2⟩
      · exact .inr ⟨d, by omega, by omega, h3, h4⟩
    · exact .inl rfl
theorem Ar.best_mem (A : Ar) (n : Int) (hc : cls n < 22) : A.best n = 0 ∨ ∃ d, d < 22 ∧ A.best n ∈ (A.fs d).xs ∧ n ≤ A.size (A.best n) := by
  rcases A.seek_mem n (22 - cls n) (cls n) 0 with h | ⟨d, h1, h2, h3, h4⟩
  · exact .inl h
  · exact .inr ⟨d, by omega, h3, h4⟩
/-- Noughts from one place on. -/
def zeros (ws : List Int) (o k : Nat) : List Int := ws.take o ++ List.replicate k 0 ++ ws.drop (o + k)
theorem zeros_length (ws : List Int) (o k : Nat) (h : o + k ≤ ws.length) : (zeros ws o k).length = ws.length := by simp [zeros]; omega
theorem zeros_get (ws : List Int) (o k : Nat) (h : o + k ≤ ws.length) (j : Nat) : (zeros ws o k)[j]? = if o ≤ j ∧ j < o + k then some 0 else ws[j]? := by
  unfold zeros
  by_cases h1 : j < o
  · rw [if_neg (by omega), List.append_assoc, List.getElem?_append_left (by simp; omega), List.getElem?_take_of_lt h1]
  · rw [List.append_assoc, List.getElem?_append_right (by simp; omega)]
    rw [show (ws.take o).length = o by simp; omega]
    by_cases h2 : j < o + k
    · rw [if_pos (by omega), List.getElem?_append_left (by simp; omega), List.getElem?_replicate, if_pos (by omega)]
    · rw [if_neg (by omega), List.getElem?_append_right (by simp; omega), List.getElem?_drop]
      congr 1
      simp
      omega
theorem Rep.clear {w : World} {A : Ar} (R : Rep w A) (o k : Nat) (h : o + k ≤ A.ws.length) : Rep (w.setCells A.pw o (List.replicate k (.int .u64 0))) { A with ws := zeros A.ws o k } where
  hp := by
    rw [heap_sets_other _ _ R.n1, R.hp]
    simp only [Ar.cells, zeros_length _ _ _ h]
  hw := by
    obtain ⟨c', h1, h2, h3⟩ := heap_sets_same A.pw 22 (0, 0) (List.replicate k (.int .u64 0)) o w _ R.hw (by simp; omega)
    rw [h1]
    congr 2
    apply Array.ext_getElem?
    intro j
    rw [h3 j]
    simp only [List.length_replicate, List.getElem?_toArray, List.getElem?_map]
    rw [zeros_get _ _ _ h j]
    split
    · rename_i hc
      rw [List.getElem?_replicate, if_pos (by omega)]
      rfl
    · rfl
  hl := (heap_sets_other _ _ (Ne.symm R.n3) _ _ _).trans R.hl
  hf c hc := FS.ok_congr (R.hf c hc) (fun b hb => heap_sets_other _ _ (R.n4 c b hc hb).2.1 _ _ _)
  n1 := R.n1
  n2 := R.n2
  n3 := R.n3
  n4 := R.n4
  n5 := R.n5
  sz := by show (zeros A.ws o k).length ≤ _; rw [zeros_length _ _ _ h]; exact R.sz
  ll := by show A.lv.length = (zeros A.ws o k).length + 1; rw [zeros_length _ _ _ h]; exact R.ll
  us0 := R.us0
  wb j := by
    have := R.wb j
    simp only [List.getD_eq_getElem?_getD] at this ⊢
    rw [zeros_get _ _ _ h j]
    split
    · exact ⟨Int.le_refl _, by decide⟩
    · exact this
theorem Steps.clear {w : World} {A : Ar} (o k : Nat) (h : o + k ≤ A.ws.length) : Steps w A (w.setCells A.pw o (List.replicate k (.int .u64 0))) { A with ws := zeros A.ws o k } where
  p := rfl
  pw := rfl
  pl := rfl
  len := zeros_length _ _ _ h
  foot b h := .inl h
  os := (sets_os _ _ _ _).1
  tape := (sets_os _ _ _ _).2.1
  output := (sets_os _ _ _ _).2.2
  size := by rw [sets_size]; exact Nat.le_refl _
  off j hj hn := heap_sets_other _ _ (fun e => hn (.inr (.inl e))) _ _ _
theorem Steps.box {w w' w'' : World} {A A' : Ar} (S : Steps w A w' A') {g : Nat} {v : Value} (B : Box w' w'' g v) (hg : w.heap.size ≤ g) : Steps w A w'' A' where
  p := S.p
  pw := S.pw
  pl := S.pl
  len := S.len
  foot := S.foot
  os := B.but.os.trans S.os
  tape := B.but.tape.trans S.tape
  output := B.but.output.trans S.output
  size := Nat.le_trans S.size B.but.size
  off k hk hn := (B.but.off k (Nat.lt_of_lt_of_le hk S.size) (by omega)).trans (S.off k hk hn)
/-- A sorted list's place of one of its elements. -/
theorem count_lt : ∀ (xs : List Int) (x : Int), xs.Pairwise (· < ·) → x ∈ xs → xs.countP (· < x) < xs.length
  | y :: r, x, hp, hx => by
    rw [List.pairwise_cons] at hp
    rw [List.countP_cons, List.length_cons]
    rcases List.mem_cons.1 hx with rfl | h
    · have : r.countP (· < x) ≤ r.length := List.countP_le_length
      simp
      omega
    · have := count_lt r x hp.2 h
      split <;> omega
theorem Steps.cell {w w' : World} {A A' : Ar} (S : Steps w A w' A') {b o : Nat} {v : Value} (hc : w.cell? ⟨b, o, none⟩ = some v) (hn : ¬ A.foot b) : w'.cell? ⟨b, o, none⟩ = some v := by
  have hb : b < w.heap.size := World.block_lt_of_cell? w _ hc
  have := S.off b hb hn
  unfold World.cell? at hc ⊢
  rw [this]; exact hc
theorem erase_sorted (xs : List Int) (i : Nat) (h : xs.Pairwise (· < ·)) : (xs.take i ++ xs.drop (i + 1)).Pairwise (· < ·) := by
  rw [← List.eraseIdx_eq_take_drop_succ]
  exact h.sublist (List.eraseIdx_sublist _ _)
theorem erase_len (xs : List Int) (i : Nat) : (xs.take i ++ xs.drop (i + 1)).length ≤ xs.length := by simp; omega
/-- The list of a size behind the taking out of one of its blocks. -/
def Ar.less (A : Ar) (b s : Int) : List Int := (A.fs (cls s)).xs.take ((A.fs (cls s)).xs.countP (· < b)) ++ (A.fs (cls s)).xs.drop ((A.fs (cls s)).xs.countP (· < b) + 1)
/-- The arena behind drop, and behind put of what is left of a block that is too great; how many words the block has then. -/
def Ar.cutTo (A : Ar) (n b s : Int) (A2 : Ar) (z : Int) : Prop :=
  ∃ f1 : FS, f1.xs = A.less b s ∧ ((¬ 2 ≤ s - n ∧ z = s ∧ A2 = A.setF (cls s) f1) ∨
    (2 ≤ s - n ∧ z = n ∧ ∃ f2 : FS, f2.xs = ins ((A.setF (cls s) f1).fs (cls (s - n - 1))).xs (((A.setF (cls s) f1).fs (cls (s - n - 1))).xs.countP (· < b + n + 1)) (b + n + 1) ∧
      A2 = ({ A.setF (cls s) f1 with ws := A.ws.set ((b + n + 1).toNat - 1) ((s - n - 1) * 4) } : Ar).setF (cls (s - n - 1)) f2))
theorem cut_put {w2 : World} {A : Ar} (n b s : Int) (f1 : FS) (x1 : f1.xs = A.less b s) (R : Rep w2 (A.setF (cls s) f1)) (n0 : 1 ≤ n) (hb : 1 ≤ b) (hs0 : 1 ≤ s) (hsn : 2 ≤ s - n) (hbs : b + s ≤ A.ws.length) (hs : ∀ c, c < 22 → (A.fs c).xs.Pairwise (· < ·)) (hlen : ∀ c, c < 22 → (A.fs c).xs.length ≤ 1048575) :
    Calls Try.prog 55 #[.pointer (some ⟨A.p, 0, none⟩), .int .i64 (b + n + 1), .int .i64 (s - n - 1)] w2 fun e w3 => e = .returned (.tuple #[]) ∧ ∃ A2, A.cutTo n b s A2 n ∧ Rep w3 A2 ∧ Steps w2 (A.setF (cls s) f1) w3 A2 := by
  have sz := R.sz
  have sz2 : A.ws.length ≤ 1048576 := sz
  have c1 := cls_lt s hs0 (by omega)
  have c2 := cls_lt (s - n - 1) (by omega) (by omega)
  have L : ∀ c, c < 22 → ((A.setF (cls s) f1).fs c).xs.Pairwise (· < ·) ∧ ((A.setF (cls s) f1).fs c).xs.length ≤ 1048575 := fun c hc => by
    simp only [Ar.setF]
    split
    · rw [x1]
      exact ⟨erase_sorted _ _ (hs _ c1), Nat.le_trans (erase_len _ _) (hlen _ c1)⟩
    · exact ⟨hs c hc, hlen c hc⟩
  refine (put_calls R (b + n + 1) (s - n - 1) (by omega) (by show b + n + 1 ≤ (A.ws.length : Int); omega) (by omega) (by omega) (L _ c2).2 ((L _ c2).1.imp (fun h => Int.le_of_lt h)) _ rfl _ rfl).mono ?_
  rintro e w3 ⟨f2, x2, rfl, R3, S3⟩
  exact ⟨rfl, _, ⟨f1, x1, .inr ⟨hsn, rfl, f2, x2, rfl⟩⟩, R3, S3⟩
theorem Ar.cutTo_us {A : Ar} {n b s : Int} {A2 : Ar} {z : Int} (h : A.cutTo n b s A2 z) : A2.us = A.us := by
  obtain ⟨f1, _, h⟩ := h
  rcases h with ⟨_, _, rfl⟩ | ⟨_, _, f2, _, rfl⟩ <;> rfl
/-- The block is marked as used, its words are noughts, and how much is used is told. -/
def Ar.finish (A2 : Ar) (b z : Int) : Ar := { A2 with ws := _root_.Go.Proofs.Ytgdhapapdpccpaa.A.zeros (A2.ws.set (b.toNat - 1) (z * 4 + 1)) b.toNat z.toNat, lv := A2.lv.set b.toNat true, us := A2.us + (z + 1) }
end Go.Proofs.Ytgdhapapdpccpaa.A
