/- arena: what Take's search finds is the best block. -/
import Derived.Test.YtgdhapapdpccpaaN
namespace Go.Proofs.Ytgdhapapdpccpaa.A
open Go.RowKit Go.Proofs
set_option linter.unusedVariables false
set_option linter.unusedSimpArgs false

theorem picks_spec (A : Ar) (n : Int) : ∀ (xs : List Int) (b : Int), (∀ x ∈ xs, 0 < x) → xs.Pairwise (· < ·) → (b ≠ 0 → n ≤ A.size b ∧ ∀ x ∈ xs, b < x) →
    (A.picks n b xs = 0 → b = 0 ∧ ∀ x ∈ xs, A.size x < n) ∧ (A.picks n b xs ≠ 0 → n ≤ A.size (A.picks n b xs) ∧ (A.picks n b xs = b ∨ A.picks n b xs ∈ xs) ∧
      ∀ x, (b ≠ 0 ∧ x = b ∨ x ∈ xs) → n ≤ A.size x → A.size (A.picks n b xs) < A.size x ∨ (A.size (A.picks n b xs) = A.size x ∧ A.picks n b xs ≤ x))
  | [], b, _, _, hb => by
    refine ⟨fun h => ⟨h, fun x hx => by cases hx⟩, fun h => ⟨(hb h).1, .inl rfl, fun x hx hn => ?_⟩⟩
    rcases hx with ⟨_, rfl⟩ | hx
    · exact .inr ⟨rfl, Int.le_refl _⟩
    · cases hx
  | y :: r, b, h0, hp, hb => by
    have hy := h0 y (List.mem_cons_self ..)
    rw [List.pairwise_cons] at hp
    have hr : ∀ x ∈ r, 0 < x := fun x hx => h0 x (List.mem_cons_of_mem _ hx)
    have e : A.picks n b (y :: r) = A.picks n (A.pick n b y) r := rfl
    rw [e]
    by_cases hc : n ≤ A.size y ∧ (b = 0 ∨ A.size y < A.size b)
    · have e2 : A.pick n b y = y := if_pos hc
      rw [e2]
      have ih := picks_spec A n r y hr hp.2 (fun _ => ⟨hc.1, hp.1⟩)
      refine ⟨fun h => absurd (ih.1 h).1 (by omega), fun h => ?_⟩
      obtain ⟨i1, i2, i3⟩ := ih.2 h
      refine ⟨i1, .inr (i2.elim (fun h => by rw [h]; exact List.mem_cons_self ..) (fun h => List.mem_cons_of_mem _ h)), fun x hx hn => ?_⟩
      have iy := i3 y (.inl ⟨by omega, rfl⟩) hc.1
      rcases hx with ⟨h1, rfl⟩ | hx
      · have := hc.2.resolve_left h1
        exact .inl (by omega)
      · rcases List.mem_cons.1 hx with rfl | hx
        · exact iy
        · exact i3 x (.inr hx) hn
    · have e2 : A.pick n b y = b := if_neg hc
      rw [e2]
      have ih := picks_spec A n r b hr hp.2 (fun h => ⟨(hb h).1, fun x hx => (hb h).2 x (List.mem_cons_of_mem _ hx)⟩)
      refine ⟨fun h => ⟨(ih.1 h).1, fun x hx => ?_⟩, fun h => ?_⟩
      · rcases List.mem_cons.1 hx with rfl | hx
        · have := (ih.1 h).1
          exact Int.not_le.1 (fun k => hc ⟨k, .inl this⟩)
        · exact (ih.1 h).2 x hx
      · obtain ⟨i1, i2, i3⟩ := ih.2 h
        refine ⟨i1, i2.imp id (fun h => List.mem_cons_of_mem _ h), fun x hx hn => ?_⟩
        rcases hx with ⟨h1, rfl⟩ | hx
        · exact i3 x (.inl ⟨h1, rfl⟩) hn
        · rcases List.mem_cons.1 hx with rfl | hx
          · have hb0 : b ≠ 0 := fun k => hc ⟨hn, .inl k⟩
            have hbx := (hb hb0).2 x (List.mem_cons_self ..)
            have hsz : A.size b ≤ A.size x := Int.not_lt.1 (fun k => hc ⟨hn, .inr k⟩)
            rcases i3 b (.inl ⟨hb0, rfl⟩) (hb hb0).1 with k | k
            · exact .inl (by omega)
            · by_cases e3 : A.size b = A.size x
              · exact .inr ⟨by omega, by omega⟩
              · exact .inl (by omega)
          · exact i3 x (.inr hx) hn
theorem seek_spec (A : Ar) (n : Int) (h0 : ∀ d, d < 22 → ∀ x ∈ (A.fs d).xs, 0 < x) (hp : ∀ d, d < 22 → (A.fs d).xs.Pairwise (· < ·)) : ∀ (m c : Nat), c + m ≤ 22 →
    (A.seek n m c 0 = 0 → ∀ d, c ≤ d → d < c + m → ∀ x ∈ (A.fs d).xs, A.size x < n) ∧ (A.seek n m c 0 ≠ 0 → ∃ d, c ≤ d ∧ d < c + m ∧ A.seek n m c 0 ∈ (A.fs d).xs ∧ n ≤ A.size (A.seek n m c 0) ∧
      (∀ x ∈ (A.fs d).xs, n ≤ A.size x → A.size (A.seek n m c 0) < A.size x ∨ (A.size (A.seek n m c 0) = A.size x ∧ A.seek n m c 0 ≤ x)) ∧ ∀ e, c ≤ e → e < d → ∀ x ∈ (A.fs e).xs, A.size x < n)
  | 0, c, hc => ⟨fun _ d h1 h2 => by omega, fun h => absurd rfl h⟩
  | m + 1, c, hc => by
    have P := picks_spec A n (A.fs c).xs 0 (h0 c (by omega)) (hp c (by omega)) (fun h => absurd rfl h)
    rw [Ar.seek_succ, if_pos rfl]
    by_cases hz : A.picks n 0 (A.fs c).xs = 0
    · rw [hz]
      have ih := seek_spec A n h0 hp m (c + 1) (by omega)
      refine ⟨fun h d h1 h2 x hx => ?_, fun h => ?_⟩
      · by_cases e : d = c
        · subst e; exact (P.1 hz).2 x hx
        · exact ih.1 h d (by omega) (by omega) x hx
      · obtain ⟨d, i1, i2, i3, i4, i5, i6⟩ := ih.2 h
        refine ⟨d, by omega, by omega, i3, i4, i5, fun e e1 e2 x hx => ?_⟩
        by_cases ee : e = c
        · subst ee; exact (P.1 hz).2 x hx
        · exact i6 e (by omega) e2 x hx
    · have es : A.seek n m (c + 1) (A.picks n 0 (A.fs c).xs) = A.picks n 0 (A.fs c).xs := by
        cases m with
        | zero => rfl
        | succ m => rw [Ar.seek_succ, if_neg hz]
      rw [es]
      obtain ⟨i1, i2, i3⟩ := P.2 hz
      refine ⟨fun h => absurd h hz, fun _ => ⟨c, Nat.le_refl _, by omega, i2.resolve_left hz, i1, fun x hx hn => i3 x (.inr hx) hn, fun e e1 e2 => by omega⟩⟩

/-- Blocks in lists are free ones of one word at least. -/
def LF (rs : List RB) : Prop := ∀ r ∈ rs, r.lst = true → r.Free ∧ 1 ≤ r.sz
theorem Inv.lf {A : Ar} {N : Nat} {bs : List Blk} (I : Inv A N bs) {rs : List RB} (h : Fits bs rs ∨ bs = [] ∧ N ≤ 1 ∧ rs = List.replicate N ⟨0, false, false, []⟩) : LF rs := by
  rcases h with h | ⟨_, _, rfl⟩
  · intro r hr hl
    obtain ⟨r1, r2, rfl⟩ := List.append_of_mem hr
    have : ∀ (bs : List Blk) (r1 : List RB), Fits bs (r1 ++ r :: r2) → ∃ b ∈ bs, Fit b r := by
      intro bs r1
      induction r1 generalizing bs with
      | nil => intro h; cases bs with
        | nil => cases h
        | cons b bs => exact ⟨b, List.mem_cons_self .., h.1⟩
      | cons x r1 ih => intro h; cases bs with
        | nil => cases h
        | cons b bs =>
          obtain ⟨b', hb', k⟩ := ih bs h.2
          exact ⟨b', List.mem_cons_of_mem _ hb', k⟩
    obtain ⟨b, hb, k⟩ := this bs r1 h
    have hs := I.good.2 b hb
    cases b with
    | free n => exact ⟨k.1, by rw [k.sz]; exact hs⟩
    | used m ws => rw [k.2.1] at hl; cases hl
  · intro r hr hl
    rw [List.eq_of_mem_replicate hr] at hl
    cases hl
/-- What the search asks of the lists. -/
theorem lists_ok {A : Ar} {rs : List RB} (h : Is A rs) (hl : LF rs) (hN : span rs ≤ 1048575) : (∀ c, c < 22 → ∀ x ∈ (A.fs c).xs, 1 ≤ x ∧ 1 ≤ A.size x ∧ x + A.size x ≤ A.ws.length ∧ cls (A.size x) = c) ∧ (∀ c, c < 22 → (A.fs c).xs.Pairwise (· < ·)) ∧ ∀ c, c < 22 → (A.fs c).xs.length ≤ 1048575 := by
  refine ⟨fun c hc x hx => ?_, fun c hc => by rw [h.fs c hc]; exact frees_sorted _ _ _, fun c hc => by rw [h.fs c hc]; have := frees_len c rs 1; omega⟩
  rw [h.fs c hc] at hx
  obtain ⟨pre, b, post, rfl, rfl, k1, k2⟩ := frees_mem c rs 1 x hx
  obtain ⟨f1, f2⟩ := hl b (by simp) k1
  have hs : A.size (1 + span pre) = b.sz := by rw [h.size _ rfl, f1.1]; omega
  have hn := h.len
  rw [span_append] at hn
  simp only [span] at hn
  rw [hs]
  exact ⟨by omega, by omega, by omega, k2⟩
/-- The search, said of the blocks. -/
theorem best_of {A : Ar} {N : Nat} {bs : List Blk} (I : Inv A N bs) (hN : N ≤ 1048575) (n : Nat) (n0 : 1 ≤ n) (n1 : n ≤ N) :
    (A.best n = 0 ∧ ∀ s, Blk.free s ∈ bs → s < n) ∨ ∃ pre s post, A.best n = 1 + spanB pre ∧ Best n bs pre s post := by
  obtain ⟨rs, h1, h2⟩ := I.rows
  have hl := I.lf h2
  have hsp : span rs ≤ 1048575 := by rw [← h1.len, I.len]; exact hN
  obtain ⟨L1, L2, L3⟩ := lists_ok h1 hl hsp
  have c22 : cls (n : Int) < 22 := cls_lt n (by omega) (by omega)
  have S := seek_spec A n (fun d hd x hx => by have := L1 d hd x hx; omega) L2 (22 - cls n) (cls n) (by omega)
  -- a free block stands in its list
  have inl : ∀ (pre' : List Blk) (s' : Nat) (post' : List Blk), bs = pre' ++ .free s' :: post' → 1 ≤ s' ∧ s' ≤ (1048575 : Nat) ∧ A.size (1 + spanB pre') = s' ∧ (1 + spanB pre' : Int) ∈ (A.fs (cls s')).xs ∧ cls (s' : Int) < 22 := by
    intro pre' s' post' he
    have hs1 := I.good.2 (.free s') (by rw [he]; simp)
    simp only [Blk.sz] at hs1
    rcases h2 with h2 | ⟨h3, _⟩
    · rw [he] at h2
      obtain ⟨r1, r, r2, rfl, k1, k2, k3⟩ := h2.mid
      have hsz : r.sz = s' := k2.2
      have hsz2 : A.size (1 + spanB pre') = s' := by rw [h1.size _ (by rw [k1.span]), k2.1.1]; omega
      have hb : s' ≤ 1048575 := by
        rw [span_append] at hsp
        simp only [span] at hsp
        omega
      have c2 : cls (s' : Int) < 22 := cls_lt s' (by omega) (by omega)
      refine ⟨hs1, hb, hsz2, ?_, c2⟩
      rw [h1.fs _ c2, ← k1.span]
      exact mem_frees _ _ _ _ _ k2.1.2.1 (by rw [hsz])
    · rw [h3] at he; simp at he
  by_cases hz : A.best n = 0
  · refine .inl ⟨hz, fun s hs => ?_⟩
    obtain ⟨pre', post', he⟩ := List.append_of_mem hs
    obtain ⟨i1, i2, i3, i4, i5⟩ := inl pre' s post' he
    apply Classical.byContradiction
    intro hcon
    have hm := cls_mono n s n0 (by omega) (by omega)
    have := S.1 hz (cls s) hm (by omega) _ i4
    omega
  · obtain ⟨d, s1, s2, s3, s4, s5, s6⟩ := S.2 hz
    change A.best n ∈ _ at s3
    change (n : Int) ≤ A.size (A.best n) at s4
    have hd : d < 22 := by omega
    have s3' := s3
    rw [h1.fs d hd] at s3'
    obtain ⟨r1, r, r2, rfl, hx, k1, k2⟩ := frees_mem d rs 1 _ s3'
    obtain ⟨f1, f2⟩ := hl r (by simp) k1
    rcases h2 with h2 | ⟨h3, h4, h5⟩
    · have : ∀ (r1 : List RB) (bs : List Blk), Fits bs (r1 ++ r :: r2) → ∃ pre b post, bs = pre ++ b :: post ∧ Fits pre r1 ∧ Fit b r ∧ Fits post r2 := by
        intro r1
        induction r1 with
        | nil => intro bs h; cases bs with
          | nil => cases h
          | cons b bs => exact ⟨[], b, bs, rfl, trivial, h.1, h.2⟩
        | cons x r1 ih => intro bs h; cases bs with
          | nil => cases h
          | cons b bs =>
            obtain ⟨pre, b', post, rfl, k1, k2, k3⟩ := ih bs h.2
            exact ⟨b :: pre, b', post, rfl, ⟨h.1, k1⟩, k2, k3⟩
      obtain ⟨pre, b, post, he, g1, g2, g3⟩ := this r1 bs h2
      cases b with
      | used m ws => rw [g2.2.1] at k1; cases k1
      | free s =>
        have hxs : A.best n = 1 + spanB pre := by rw [hx, g1.span]
        obtain ⟨i1, i2, i3, i4, i5⟩ := inl pre s post he
        rw [hxs, i3] at s4
        have hcd : cls (s : Int) = d := by rw [← k2, g2.2]
        refine .inr ⟨pre, s, post, hxs, he, by omega, fun pre' s' post' he' hn => ?_⟩
        obtain ⟨j1, j2, j3, j4, j5⟩ := inl pre' s' post' he'
        have hm := cls_mono n s' n0 hn (by omega)
        by_cases c1 : cls (s' : Int) < d
        · have := s6 _ hm c1 _ j4
          omega
        · by_cases c2 : cls (s' : Int) = d
          · rw [c2] at j4
            have k := s5 _ j4 (by rw [j3]; omega)
            change A.size (A.best n) < _ ∨ A.size (A.best n) = _ ∧ A.best n ≤ _ at k
            rw [hxs, i3, j3] at k
            omega
          · left
            apply Classical.byContradiction
            intro hcon
            have := cls_mono s' s j1 (by omega) (by omega)
            omega
    · have : r ∈ List.replicate N ({ hd := 0, lst := false, liv := false, wd := [] } : RB) := by rw [← h5]; simp
      rw [List.eq_of_mem_replicate this] at k1
      cases k1
end Go.Proofs.Ytgdhapapdpccpaa.A
