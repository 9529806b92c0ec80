/- arena: an arena as a row of blocks, free ones and used ones; who owns which memory. -/
import Derived.Test.YtgdhapapdpccpaaH
namespace Go.Proofs.Ytgdhapapdpccpaa.A
open Go.RowKit Go.Proofs
set_option linter.unusedVariables false
set_option linter.unusedSimpArgs false

inductive Blk where
  | free (n : Nat)
  | used (m : Bool) (ws : List Int)
def Blk.sz : Blk → Nat
  | .free n => n
  | .used _ ws => ws.length
def Blk.isU : Blk → Bool
  | .free _ => false
  | .used _ _ => true
def spanB : List Blk → Nat
  | [] => 0
  | b :: r => b.sz + 1 + spanB r
def usedB : List Blk → Nat
  | [] => 0
  | .free _ :: r => usedB r
  | .used _ ws :: r => ws.length + 1 + usedB r
theorem spanB_append : ∀ xs ys, spanB (xs ++ ys) = spanB xs + spanB ys
  | [], ys => by simp [spanB]
  | b :: r, ys => by simp only [List.cons_append, spanB, spanB_append r ys]; omega
theorem usedB_append : ∀ xs ys, usedB (xs ++ ys) = usedB xs + usedB ys
  | [], ys => by simp [usedB]
  | .free _ :: r, ys => by simp only [List.cons_append, usedB, usedB_append r ys]
  | .used _ _ :: r, ys => by simp only [List.cons_append, usedB, usedB_append r ys]; omega
theorem usedB_le : ∀ xs, usedB xs ≤ spanB xs
  | [] => Nat.le_refl _
  | .free n :: r => by have := usedB_le r; simp only [usedB, spanB, Blk.sz]; omega
  | .used m ws :: r => by have := usedB_le r; simp only [usedB, spanB, Blk.sz]; omega
/-- A block as it lies. -/
def Fit : Blk → RB → Prop
  | .free n, r => r.Free ∧ r.sz = n
  | .used m ws, r => r.hd = ws.length * 4 + 1 + (if m then 2 else 0) ∧ r.lst = false ∧ r.liv = true ∧ r.wd = ws
def Fits : List Blk → List RB → Prop
  | [], [] => True
  | b :: bs, r :: rs => Fit b r ∧ Fits bs rs
  | _, _ => False
theorem Fit.sz {b : Blk} {r : RB} (h : Fit b r) : r.sz = b.sz := by
  cases b with
  | free n => exact h.2
  | used m ws => show r.wd.length = _; rw [h.2.2.2]; rfl
theorem Fit.used {m : Bool} {ws : List Int} {r : RB} (h : Fit (.used m ws) r) : r.Used := by
  obtain ⟨h1, h2, h3, h4⟩ := h
  have e : r.sz = ws.length := by show r.wd.length = _; rw [h4]
  refine ⟨?_, h2, h3⟩
  rw [h1, e]
  cases m
  · left; simp
  · right; simp; omega
theorem Fit.hd4 {b : Blk} {r : RB} (h : Fit b r) : r.hd / 4 = r.sz := by
  cases b with
  | free n => rw [h.1.1]; omega
  | used m ws => rcases h.used.1 with h | h <;> omega
theorem Fits.span : ∀ {bs : List Blk} {rs : List RB}, Fits bs rs → span rs = spanB bs
  | [], [], _ => rfl
  | b :: bs, r :: rs, h => by simp only [_root_.Go.Proofs.Ytgdhapapdpccpaa.A.span, spanB, h.1.sz, Fits.span h.2]
theorem Fits.append : ∀ {xs ys : List Blk} {rs qs : List RB}, Fits xs rs → Fits ys qs → Fits (xs ++ ys) (rs ++ qs)
  | [], ys, [], qs, _, h => h
  | b :: bs, ys, r :: rs, qs, h, k => ⟨h.1, Fits.append h.2 k⟩
theorem Fits.parts : ∀ {xs ys : List Blk} {rs : List RB}, Fits (xs ++ ys) rs → ∃ r1 r2, rs = r1 ++ r2 ∧ Fits xs r1 ∧ Fits ys r2
  | [], ys, rs, h => ⟨[], rs, rfl, trivial, h⟩
  | b :: bs, ys, [], h => by cases h
  | b :: bs, ys, r :: rs, h => by
    obtain ⟨r1, r2, rfl, h1, h2⟩ := Fits.parts h.2
    exact ⟨r :: r1, r2, rfl, ⟨h.1, h1⟩, h2⟩
theorem Fits.cons {b : Blk} {bs : List Blk} {rs : List RB} (h : Fits (b :: bs) rs) : ∃ r rs', rs = r :: rs' ∧ Fit b r ∧ Fits bs rs' := by
  cases rs with
  | nil => cases h
  | cons r rs => exact ⟨r, rs, rfl, h.1, h.2⟩
theorem Fits.nil {rs : List RB} (h : Fits [] rs) : rs = [] := by
  cases rs with
  | nil => rfl
  | cons => cases h
theorem Fits.mid {pre post : List Blk} {b : Blk} {rs : List RB} (h : Fits (pre ++ b :: post) rs) : ∃ r1 r r2, rs = r1 ++ r :: r2 ∧ Fits pre r1 ∧ Fit b r ∧ Fits post r2 := by
  obtain ⟨r1, r2, rfl, h1, h2⟩ := Fits.parts h
  obtain ⟨r, r3, rfl, h3, h4⟩ := h2.cons
  exact ⟨r1, r, r3, rfl, h1, h3, h4⟩
theorem Fits.mid_mk {pre post : List Blk} {b : Blk} {r1 r2 : List RB} {r : RB} (h1 : Fits pre r1) (h2 : Fit b r) (h3 : Fits post r2) : Fits (pre ++ b :: post) (r1 ++ r :: r2) := h1.append ⟨h2, h3⟩
/-- No two free blocks stand side by side. -/
def NoAdj : List Blk → Prop
  | .free _ :: .free _ :: _ => False
  | _ :: r => NoAdj r
  | [] => True
def Good (bs : List Blk) : Prop := NoAdj bs ∧ ∀ b ∈ bs, 1 ≤ b.sz
structure Inv (A : Ar) (N : Nat) (bs : List Blk) : Prop where
  rows : ∃ rs, Is A rs ∧ (Fits bs rs ∨ bs = [] ∧ N ≤ 1 ∧ rs = List.replicate N ⟨0, false, false, []⟩)
  len : A.ws.length = N
  us : A.us = usedB bs
  good : Good bs
  tiny : bs = [] → N ≤ 1
theorem Inv.fits {A : Ar} {N : Nat} {bs : List Blk} (h : Inv A N bs) (hb : bs ≠ []) : ∃ rs, Is A rs ∧ Fits bs rs := by
  obtain ⟨rs, h1, h2 | h2⟩ := h.rows
  · exact ⟨rs, h1, h2⟩
  · exact absurd h2.1 hb
theorem Inv.spanN {A : Ar} {N : Nat} {bs : List Blk} (h : Inv A N bs) (hb : bs ≠ []) : spanB bs = N := by
  obtain ⟨rs, h1, h2⟩ := h.fits hb
  rw [← h.len, h1.len, h2.span]
theorem Inv.mk' {A : Ar} {N : Nat} {bs : List Blk} {rs : List RB} (h1 : Is A rs) (h2 : Fits bs rs) (hN : spanB bs = N) (us : A.us = usedB bs) (good : Good bs) : Inv A N bs where
  rows := ⟨rs, h1, .inl h2⟩
  len := by rw [h1.len, h2.span, hN]
  us := us
  good := good
  tiny h := by subst h; simp [spanB] at hN; omega

/-! ### What stands at an address -/
/-- The used block of an address. -/
def at? (a : Int) : Int → List Blk → Option (Bool × List Int)
  | _, [] => none
  | p, b :: r => if p = a then (match b with | .used m ws => some (m, ws) | .free _ => none) else at? a (p + b.sz + 1) r
/-- Another block of that size at an address. -/
def put? (a : Int) (x : Blk) : Int → List Blk → List Blk
  | _, [] => []
  | p, b :: r => if p = a then x :: r else b :: put? a x (p + b.sz + 1) r
theorem at_mid (pre : List Blk) (b : Blk) (post : List Blk) (p : Int) : at? (p + spanB pre) p (pre ++ b :: post) = (match b with | .used m ws => some (m, ws) | .free _ => none) := by
  induction pre generalizing p with
  | nil => simp [at?, spanB]
  | cons x r ih =>
    simp only [List.cons_append, at?, spanB]
    rw [if_neg (by omega), ← ih (p + x.sz + 1)]
    congr 1
    omega
theorem put_mid (pre : List Blk) (b x : Blk) (post : List Blk) (p : Int) : put? (p + spanB pre) x p (pre ++ b :: post) = pre ++ x :: post := by
  induction pre generalizing p with
  | nil => simp [put?, spanB]
  | cons y r ih =>
    simp only [List.cons_append, put?, spanB]
    rw [if_neg (by omega), show p + ((y.sz + 1 + spanB r : Nat) : Int) = (p + y.sz + 1) + spanB r by omega, ih]
theorem at_some : ∀ {a : Int} {bs : List Blk} {p : Int} {m : Bool} {ws : List Int}, at? a p bs = some (m, ws) → ∃ pre post, bs = pre ++ .used m ws :: post ∧ a = p + spanB pre
  | a, [], p, m, ws, h => by simp [at?] at h
  | a, b :: r, p, m, ws, h => by
    simp only [at?] at h
    split at h
    · rename_i hp
      cases b with
      | free n => simp at h
      | used m' ws' =>
        simp only [Option.some.injEq, Prod.mk.injEq] at h
        obtain ⟨rfl, rfl⟩ := h
        exact ⟨[], r, rfl, by simp [spanB, hp]⟩
    · obtain ⟨pre, post, rfl, rfl⟩ := at_some h
      exact ⟨b :: pre, post, rfl, by simp only [spanB]; omega⟩
theorem put_same {a : Int} {bs : List Blk} {p : Int} {m : Bool} {ws : List Int} (h : at? a p bs = some (m, ws)) : put? a (.used m ws) p bs = bs := by
  obtain ⟨pre, post, rfl, rfl⟩ := at_some h
  exact put_mid ..
theorem at_put {a : Int} {bs : List Blk} {p : Int} {m m' : Bool} {ws ws' : List Int} (h : at? a p bs = some (m, ws)) (hl : ws'.length = ws.length) (c : Int) : at? c p (put? a (.used m' ws') p bs) = if c = a then some (m', ws') else at? c p bs := by
  obtain ⟨pre, post, rfl, rfl⟩ := at_some h
  rw [put_mid]
  clear h
  induction pre generalizing p with
  | nil =>
    simp only [List.nil_append, at?, spanB, Blk.sz, hl]
    by_cases hc : p = c
    · rw [if_pos hc, if_pos (by omega)]
    · rw [if_neg hc, if_neg (by omega), if_neg hc]
  | cons x r ih =>
    have e : p + (spanB (x :: r) : Int) = p + x.sz + 1 + spanB r := by simp only [spanB]; omega
    have ih := @ih (p + x.sz + 1)
    rw [e]
    simp only [List.cons_append, at?]
    by_cases hc : p = c
    · rw [if_pos hc, if_pos hc, if_neg (by omega)]
    · rw [if_neg hc, if_neg hc, ih]

/-- Where a row of blocks has a used one: by the table of addresses. -/
theorem flags_at : ∀ (bs : List Blk) (rs : List RB), Fits bs rs → ∀ (p a : Int), p ≤ a → ((flags rs).getD (a - p).toNat false = (at? a p bs).isSome)
  | [], [], _, p, a, h => by simp [flags, at?, List.getD]
  | b :: bs, r :: rs, h, p, a, hpa => by
    simp only [flags, at?]
    by_cases he : p = a
    · rw [if_pos he, show (a - p).toNat = 0 by omega]
      cases b with
      | free n => simp [List.getD, h.1.1.2.2]
      | used m ws => simp [List.getD, h.1.2.2.1]
    · rw [if_neg he, show (a - p).toNat = (a - p - 1).toNat + 1 by omega, List.getD_cons_succ]
      by_cases hin : (a - p - 1).toNat < r.sz
      · have e : (List.replicate r.sz false ++ flags rs).getD (a - p - 1).toNat false = false := by
          simp only [List.getD]
          rw [List.getElem?_append_left (by simpa using hin), List.getElem?_replicate, if_pos hin]
          rfl
        rw [e]
        have nb : ∀ (q : Int) (l : List Blk), a < q → at? a q l = none := by
          intro q l
          induction l generalizing q with
          | nil => intro _; rfl
          | cons x l ih =>
            intro hq
            simp only [at?]
            rw [if_neg (by omega)]
            exact ih _ (by omega)
        have hs := h.1.sz
        rw [nb _ _ (by omega)]
        rfl
      · have hs := h.1.sz
        have := flags_at bs rs h.2 (p + b.sz + 1) a (by omega)
        rw [← this]
        simp only [List.getD]
        rw [List.getElem?_append_right (by simp; omega)]
        simp only [List.length_replicate]
        congr 2
        omega
theorem at_above : ∀ (bs : List Blk) (a p : Int), a < p → at? a p bs = none
  | [], _, _, _ => rfl
  | b :: r, a, p, h => by
    simp only [at?]
    rw [if_neg (by omega)]
    exact at_above r a _ (by omega)
theorem Inv.has {A : Ar} {N : Nat} {bs : List Blk} (h : Inv A N bs) (a : Int) : A.has a = (at? a 1 bs).isSome := by
  obtain ⟨rs, h1, h2⟩ := h.rows
  unfold Ar.has
  by_cases h0 : 0 < a
  · rw [decide_eq_true h0, Bool.true_and]
    have hl : ∀ x : Bool, A.lv.getD a.toNat false = x → (decide (a < (A.lv.length : Int)) && A.lv.getD a.toNat false) = x := fun x hx => by
      by_cases hlt : a < A.lv.length
      · rw [decide_eq_true hlt, hx, Bool.true_and]
      · rw [decide_eq_false hlt, Bool.false_and, ← hx]
        simp only [List.getD]
        rw [List.getElem?_eq_none (by omega)]
        rfl
    apply hl
    rw [h1.lv, show a.toNat = (a - 1).toNat + 1 by omega, List.getD_cons_succ]
    rcases h2 with h2 | ⟨rfl, _, rfl⟩
    · exact flags_at bs rs h2 1 a (by omega)
    · rw [flags_none _ (fun x hx => by rw [List.eq_of_mem_replicate hx])]
      simp only [List.getD, List.getElem?_replicate, at?]
      split <;> rfl
  · rw [decide_eq_false h0, at_above bs a 1 (by omega)]
    rfl

/-! ### Who owns what -/
structure Own (w : World) (p : Nat) (F : Nat → Prop) (N : Nat) (bs : List Blk) : Prop where
  ar : ∃ A : Ar, A.p = p ∧ Rep w A ∧ Inv A N bs ∧ ∀ b, A.foot b → F b
  lt : ∀ b, F b → b < w.heap.size
/-- From one owned memory to the next. -/
structure Mv (w : World) (F : Nat → Prop) (w' : World) (F' : Nat → Prop) : Prop where
  ext : ∀ b, F' b → F b ∨ w.heap.size ≤ b
  but : But F w w'
theorem Own.congr {w w' : World} {p : Nat} {F : Nat → Prop} {N : Nat} {bs : List Blk} (h : Own w p F N bs) (hs : w.heap.size ≤ w'.heap.size) (hc : ∀ b, F b → w'.heap[b]? = w.heap[b]?) : Own w' p F N bs := by
  obtain ⟨⟨A, h1, R, h2, h3⟩, lt⟩ := h
  exact ⟨⟨A, h1, R.congr (fun b hb => hc b (h3 b hb)), h2, h3⟩, fun b hb => Nat.lt_of_lt_of_le (lt b hb) hs⟩
theorem Own.keep {w w' : World} {p : Nat} {F G : Nat → Prop} {N : Nat} {bs : List Blk} (h : Own w p F N bs) (k : But G w w') (hd : ∀ b, F b → ¬ G b) : Own w' p F N bs :=
  h.congr k.size (fun b hb => k.off b (h.lt b hb) (hd b hb))
theorem Own.drewN {w : World} {p : Nat} {F : Nat → Prop} {N : Nat} {bs : List Blk} (h : Own w p F N bs) (n : Nat) : Own (w.drewN n) p F N bs := h.congr (Nat.le_refl _) (fun _ _ => rfl)
theorem Own.drew {w : World} {p : Nat} {F : Nat → Prop} {N : Nat} {bs : List Blk} (h : Own w p F N bs) : Own w.drew p F N bs := h.congr (Nat.le_refl _) (fun _ _ => rfl)
theorem Own.alloc {w : World} {p : Nat} {F : Nat → Prop} {N : Nat} {bs : List Blk} (h : Own w p F N bs) (o : Obj) : Own (w.alloc o) p F N bs := h.congr (by simp) (fun b hb => Below.heap_alloc _ _ _ (h.lt b hb))
theorem Own.set {w : World} {p : Nat} {F : Nat → Prop} {N : Nat} {bs : List Blk} (h : Own w p F N bs) (b o : Nat) (v : Value) (hb : ¬ F b) : Own (w.setCell ⟨b, o, none⟩ v) p F N bs := h.congr (by simp [World.setCell]) (fun k hk => heap_set_other (fun e => hb (e ▸ hk)))
theorem Mv.refl (w : World) (F : Nat → Prop) : Mv w F w F := ⟨fun _ h => .inl h, But.refl _ _⟩
theorem Mv.trans {a b c : World} {F G H : Nat → Prop} (h : Mv a F b G) (k : Mv b G c H) : Mv a F c H :=
  ⟨fun x hx => (k.ext x hx).elim (fun g => h.ext x g) (fun g => .inr (Nat.le_trans h.but.size g)), h.but.trans k.but (fun x hx g => (h.ext x g).elim id (fun g => absurd g (by omega)))⟩
/-- A step of the arena's memory, as a step of who owns what. -/
theorem Own.step {w w' : World} {p : Nat} {F : Nat → Prop} {N : Nat} {bs' : List Blk} {A A' : Ar} (hA : A.p = p) (hF : ∀ b, A.foot b → F b) (lt : ∀ b, F b → b < w.heap.size) (R' : Rep w' A') (S : Steps w A w' A') (I : Inv A' N bs') :
    ∃ F', Own w' p F' N bs' ∧ Mv w F w' F' :=
  ⟨A'.foot, ⟨⟨A', S.p.trans hA, R', I, fun _ h => h⟩, fun b hb => R'.lt hb⟩, ⟨fun b hb => (S.foot b hb).imp (hF b) id, ⟨S.os, S.tape, S.output, S.size, fun k hk hn => S.off k hk (fun hf => hn (hF k hf))⟩⟩⟩
end Go.Proofs.Ytgdhapapdpccpaa.A
