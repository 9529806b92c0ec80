/- arena: Room, of an arena as a row of blocks. -/
import Derived.Test.YtgdhapapdpccpaaRn
namespace Go.Proofs.Ytgdhapapdpccpaa.A
open Go.RowKit Go.Proofs
set_option linter.unusedVariables false
set_option linter.unusedSimpArgs false

theorem room_spec (A : Ar) : ∀ l : List (Fin 22), l.Pairwise (fun a b => b.val < a.val) →
    (A.room l = 0 ∧ ∀ c ∈ l, (A.fs c.val).xs = []) ∨ ∃ c ∈ l, (A.fs c.val).xs ≠ [] ∧ A.room l = A.top (A.fs c.val).xs ∧ ∀ d ∈ l, c.val < d.val → (A.fs d.val).xs = []
  | [], _ => .inl ⟨rfl, fun c hc => by cases hc⟩
  | a :: r, hp => by
    rw [List.pairwise_cons] at hp
    simp only [Ar.room]
    by_cases h : (A.fs a.val).xs = []
    · rw [if_pos h]
      rcases room_spec A r hp.2 with ⟨h1, h2⟩ | ⟨c, h1, h2, h3, h4⟩
      · refine .inl ⟨h1, fun c hc => ?_⟩
        rcases List.mem_cons.1 hc with rfl | hc
        · exact h
        · exact h2 c hc
      · refine .inr ⟨c, List.mem_cons_of_mem _ h1, h2, h3, fun d hd hlt => ?_⟩
        rcases List.mem_cons.1 hd with rfl | hd
        · exact h
        · exact h4 d hd hlt
    · rw [if_neg h]
      refine .inr ⟨a, List.mem_cons_self .., h, rfl, fun d hd hlt => ?_⟩
      rcases List.mem_cons.1 hd with rfl | hd
      · omega
      · have := hp.1 d hd; omega
theorem bk_all : (upto bk 22).Pairwise (fun a b => b.val < a.val) := by decide
theorem bk_mem (c : Fin 22) : c ∈ upto bk 22 := by revert c; decide
theorem top_spec (A : Ar) (xs : List Int) (h : xs ≠ []) : (∃ x ∈ xs, A.top xs = A.size x) ∧ ∀ x ∈ xs, A.size x ≤ A.top xs := by
  cases xs with
  | nil => exact absurd rfl h
  | cons x r =>
    have g := maxBy_ge A.size r x
    refine ⟨⟨maxBy A.size x r, ?_, rfl⟩, fun y hy => ?_⟩
    · rcases maxBy_mem A.size r x with h | h
      · rw [h]; exact List.mem_cons_self ..
      · exact List.mem_cons_of_mem _ h
    · rcases List.mem_cons.1 hy with rfl | hy
      · exact g.1
      · exact g.2 y hy
/-- The greatest free block's size. -/
def roomR : List Blk → Nat
  | [] => 0
  | .free n :: r => max n (roomR r)
  | .used _ _ :: r => roomR r
theorem roomR_ge : ∀ (bs : List Blk) (s : Nat), Blk.free s ∈ bs → s ≤ roomR bs
  | [], s, h => by cases h
  | .free n :: r, s, h => by
    simp only [roomR]
    rcases List.mem_cons.1 h with h | h
    · cases h; omega
    · have := roomR_ge r s h; omega
  | .used _ _ :: r, s, h => by
    rcases List.mem_cons.1 h with h | h
    · cases h
    · exact roomR_ge r s h
theorem roomR_mem : ∀ (bs : List Blk), roomR bs = 0 ∨ Blk.free (roomR bs) ∈ bs
  | [] => .inl rfl
  | .free n :: r => by
    simp only [roomR]
    rcases roomR_mem r with h | h
    · rw [h, Nat.max_zero]; exact .inr (List.mem_cons_self ..)
    · by_cases hn : n ≤ roomR r
      · rw [Nat.max_eq_right hn]; exact .inr (List.mem_cons_of_mem _ h)
      · rw [Nat.max_eq_left (by omega)]; exact .inr (List.mem_cons_self ..)
  | .used _ _ :: r => by
    rcases roomR_mem r with h | h
    · exact .inl h
    · exact .inr (List.mem_cons_of_mem _ h)
theorem room_of {A : Ar} {N : Nat} {bs : List Blk} (I : Inv A N bs) (hN : N ≤ 1048575) : A.room (upto bk 22) = roomR bs := by
  obtain ⟨rs, h1, h2⟩ := I.rows
  have hl := I.lf h2
  have hsp : span rs ≤ 1048575 := by rw [← h1.len, I.len]; exact hN
  have inl : ∀ (s : Nat), Blk.free s ∈ bs → 1 ≤ s ∧ s ≤ (1048575 : Nat) ∧ cls (s : Int) < 22 ∧ ∃ x ∈ (A.fs (cls s)).xs, A.size x = s := by
    intro s hm
    obtain ⟨pre', post', he⟩ := List.append_of_mem hm
    have hs1 := I.good.2 (.free s) hm
    simp only [Blk.sz] at hs1
    rcases h2 with h2 | ⟨h3, _⟩
    · rw [he] at h2
      obtain ⟨r1, r, r2, rfl, k1, k2, k3⟩ := h2.mid
      have hsz : r.sz = s := k2.2
      have hsz2 : A.size (1 + span r1) = s := by rw [h1.size _ rfl, k2.1.1]; omega
      have hb : s ≤ 1048575 := by
        rw [span_append] at hsp
        simp only [span] at hsp
        omega
      have c2 : cls (s : Int) < 22 := cls_lt s (by omega) (by omega)
      refine ⟨hs1, hb, c2, 1 + span r1, ?_, hsz2⟩
      rw [h1.fs _ c2]
      exact mem_frees _ _ _ _ _ k2.1.2.1 (by rw [hsz])
    · rw [h3] at hm; cases hm
  have outl : ∀ (c : Nat), c < 22 → ∀ x ∈ (A.fs c).xs, ∃ s : Nat, Blk.free s ∈ bs ∧ A.size x = s ∧ cls (s : Int) = c := by
    intro c hc x hx
    rw [h1.fs c hc] at hx
    obtain ⟨r1, r, r2, rfl, hx, k1, k2⟩ := frees_mem c rs 1 x hx
    obtain ⟨f1, f2⟩ := hl r (by simp) k1
    have hsx : A.size x = r.sz := by rw [hx, h1.size _ rfl, f1.1]; omega
    rcases h2 with h2 | ⟨h3, h4, h5⟩
    · have : ∀ (r1 : List RB) (bs : List Blk), Fits bs (r1 ++ r :: r2) → ∃ b ∈ bs, Fit b r := by
        intro r1
        induction r1 with
        | nil => intro bs h; cases bs with
          | nil => cases h
          | cons b bs => exact ⟨b, List.mem_cons_self .., h.1⟩
        | cons x r1 ih => intro bs h; cases bs with
          | nil => cases h
          | cons b bs =>
            obtain ⟨b', hb', k⟩ := ih bs h.2
            exact ⟨b', List.mem_cons_of_mem _ hb', k⟩
      obtain ⟨b, hb, k⟩ := this r1 bs h2
      cases b with
      | used m ws => rw [k.2.1] at k1; cases k1
      | free s => exact ⟨s, hb, by rw [hsx, k.2], by rw [← k2, k.2]⟩
    · have : r ∈ List.replicate N ({ hd := 0, lst := false, liv := false, wd := [] } : RB) := by rw [← h5]; simp
      rw [List.eq_of_mem_replicate this] at k1
      cases k1
  rcases room_spec A _ bk_all with ⟨e, h⟩ | ⟨c, _, hne, e, h⟩
  · rw [e]
    rcases roomR_mem bs with h0 | h0
    · rw [h0]; rfl
    · obtain ⟨_, _, c2, x, hx, _⟩ := inl _ h0
      have := h ⟨cls (roomR bs), c2⟩ (bk_mem _)
      rw [show ((⟨cls (roomR bs), c2⟩ : Fin 22).val) = cls (roomR bs) from rfl] at this
      rw [this] at hx
      cases hx
  · rw [e]
    obtain ⟨⟨x, hx, e1⟩, e2⟩ := top_spec A _ hne
    obtain ⟨s, hs, e3, e4⟩ := outl c.val c.isLt x hx
    have hge := roomR_ge bs s hs
    have hi := inl s hs
    rcases roomR_mem bs with h0 | h0
    · omega
    · obtain ⟨i1, i2, i3, y, hy, i4⟩ := inl _ h0
      have hm := cls_mono s (roomR bs) hi.1 hge (by omega)
      by_cases hc : c.val < cls (roomR bs)
      · have := h ⟨cls (roomR bs), i3⟩ (bk_mem _) hc
        rw [show ((⟨cls (roomR bs), i3⟩ : Fin 22).val) = cls (roomR bs) from rfl] at this
        rw [this] at hy
        cases hy
      · have hcc : cls (roomR bs : Int) = c.val := by omega
        rw [hcc] at hy
        have := e2 y hy
        omega
theorem room_own {w : World} {p : Nat} {F : Nat → Prop} {N : Nat} {bs : List Blk} (h : Own w p F N bs) (hN : N ≤ 1048575) :
    Calls Try.prog 25 #[.pointer (some ⟨p, 0, none⟩)] w fun e w' => e = .returned (.int .i64 (roomR bs)) ∧ Below w.heap.size w w' := by
  obtain ⟨⟨A, rfl, R, I, hF⟩, lt⟩ := h
  obtain ⟨rs, h1, h2⟩ := I.rows
  have hl := I.lf h2
  have hsp : span rs ≤ 1048575 := by rw [← h1.len, I.len]; exact hN
  obtain ⟨L1, L2, L3⟩ := lists_ok h1 hl hsp
  have := room_in 3 (Nat.le_refl _) R (fun c hc => by have := L3 c hc; omega) (fun c hc y hy => by have := L1 c hc y hy; have := I.len; omega)
  rw [room_of I hN] at this
  exact callsIn_wide.1 this
theorem room_nil (w : World) : Calls Try.prog 25 #[.pointer none] w fun e w' => e = .returned (.int .i64 0) ∧ Below w.heap.size w w' := by
  go_enter Try.func25, Try.ntmps25
  go_wp2
  exact bodyPost_ret (v := .int .i64 0) (by simp [results, Try.f25, go_sem]) rfl ⟨rfl, ((Below.refl _ _).alloc (Nat.le_refl _) _).alloc (by simp) _⟩
end Go.Proofs.Ytgdhapapdpccpaa.A
