/- arena: New. -/
import Derived.Test.YtgdhapapdpccpaaSw
import Derived.RegionTactic
import Derived.Laws.MakeOwn
import Derived.Laws.AppendOwn
namespace Go.Proofs.Ytgdhapapdpccpaa.A
open Go.RowKit Go.Proofs
set_option linter.unusedVariables false
set_option linter.unusedSimpArgs false

theorem info22 : (Try.prog.info? 22).map (fun i => (i.zero, i.size, i.bytes)) = some (some (.int .u64 0), 1, 8) := by kernel_rfl
theorem info4 : (Try.prog.info? 4).map (fun i => (i.zero, i.size, i.bytes)) = some (some (.bool false), 1, 1) := by kernel_rfl
/-- n cells of one value. -/
def fill (v : Value) (n : Nat) : Array Value := (List.replicate n v).toArray
theorem made_fill (v : Value) (hv : v.cells = #[v]) (n : Nat) : madeCells v.cells (n * 1) = fill v n := by
  rw [hv, Nat.mul_one]
  unfold madeCells fill
  apply Array.ext
  · simp
  · intro i h1 h2
    simp
    rw [Nat.mod_one]
    rfl
theorem make_u64 (N : Nat) (hN : N ≤ 200000) (W : World) : Sem.run Try.prog (Instr.makeSlice 41 (.int .i64 N) (.int .i64 N)) W = .ok (.slice (some ⟨W.heap.size, 0, none⟩) N N) (W.alloc (.cells (fill (.int .u64 0) N) 22)) := by
  obtain ⟨i0, hi, hz0, hz1, hz2⟩ := info_parts info22
  have := run_make (P := Try.prog) W 41 22 i0 (.int .u64 0) Try.underlying41 hi hz0 .i64 .i64 N N (by omega) (Int.le_refl _) (by rw [hz2]; omega) (by omega)
  rw [hz1, Int.toNat_natCast, made_fill _ rfl] at this
  exact this
theorem make_bool (N : Nat) (hN : N ≤ 200000) (W : World) : Sem.run Try.prog (Instr.makeSlice 75 (.int .i64 N) (.int .i64 N)) W = .ok (.slice (some ⟨W.heap.size, 0, none⟩) N N) (W.alloc (.cells (fill (.bool false) N) 4)) := by
  obtain ⟨i0, hi, hz0, hz1, hz2⟩ := info_parts info4
  have := run_make (P := Try.prog) W 75 4 i0 (.bool false) Try.underlying75 hi hz0 .i64 .i64 N N (by omega) (Int.le_refl _) (by rw [hz2]; omega) (by omega)
  rw [hz1, Int.toNat_natCast, made_fill _ rfl] at this
  exact this

/-- A new arena, before its one block is in a list. -/
def Ar0 (p pw pl N : Nat) : Ar := ⟨p, pw, pl, fun _ => ⟨none, 0, []⟩, List.replicate N 0, 0, List.replicate (N + 1) false⟩
theorem new_rep {W : World} {p pw pl N : Nat} (hN : N ≤ 100000) (n1 : p ≠ pw) (n2 : p ≠ pl) (n3 : pw ≠ pl)
    (hp : W.heap[p]? = some (.cells #[.slice (some ⟨pw, 0, none⟩) N N, .int .i64 0, .slice none 0 0, .slice none 0 0, .slice none 0 0, .slice none 0 0, .slice none 0 0, .slice none 0 0, .slice none 0 0, .slice none 0 0, .slice none 0 0, .slice none 0 0, .slice none 0 0, .slice none 0 0, .slice none 0 0, .slice none 0 0, .slice none 0 0, .slice none 0 0, .slice none 0 0, .slice none 0 0, .slice none 0 0, .slice none 0 0, .slice none 0 0, .slice none 0 0, .slice (some ⟨pl, 0, none⟩) (N + 1) (N + 1)] 93))
    (hw : W.heap[pw]? = some (.cells (fill (.int .u64 0) N) 22)) (hl : W.heap[pl]? = some (.cells (fill (.bool false) (N + 1)) 4)) : Rep W (Ar0 p pw pl N) where
  hp := by
    refine hp.trans ?_
    simp [Ar0, Ar.cells, FS.val, List.range, List.range.loop]
  hw := by
    refine hw.trans ?_
    simp [Ar0, fill]
  hl := by
    refine hl.trans ?_
    simp [Ar0, fill, List.replicate_succ]
  hf c hc := rfl
  n1 := n1
  n2 := n2
  n3 := n3
  n4 c b _ h := by cases h
  n5 c d b _ _ _ h := by cases h
  sz := by simp [Ar0]; omega
  ll := by simp [Ar0]
  us0 := by simp [Ar0]
  wb j := by
    simp only [Ar0, List.getD_eq_getElem?_getD, List.getElem?_replicate]
    split <;> simp
theorem alloc3 (w : World) (X Y Z : Obj) : ((((w.alloc X).alloc Y).alloc Z).drew).heap[w.heap.size]? = some X ∧ ((((w.alloc X).alloc Y).alloc Z).drew).heap[w.heap.size + 1]? = some Y ∧ ((((w.alloc X).alloc Y).alloc Z).drew).heap[w.heap.size + 1 + 1]? = some Z ∧
    Below w.heap.size w (((w.alloc X).alloc Y).alloc Z).drew ∧ ((((w.alloc X).alloc Y).alloc Z).drew).heap.size = w.heap.size + 3 := by
  have e1 : (w.alloc X).heap.size = w.heap.size + 1 := by simp
  have e2 : ((w.alloc X).alloc Y).heap.size = w.heap.size + 1 + 1 := by simp
  refine ⟨heap_alloc_old (heap_alloc_old heap_alloc_new), heap_alloc_old (e1 ▸ heap_alloc_new), ?_, ?_, by show (((w.alloc X).alloc Y).alloc Z).heap.size = _; simp⟩
  · have := heap_alloc_new (w := (w.alloc X).alloc Y) (o := Z)
    rw [e2] at this
    exact this
  · exact ((((Below.refl _ _).alloc (Nat.le_refl _) _).alloc (by omega) _).alloc (by omega) _).drew
/-- The row of blocks of a new arena. -/
def newR (N : Nat) : List Blk := if N ≤ 1 then [] else [.free (N - 1)]
theorem flat_one (N : Nat) (hN : 1 ≤ N) : flat [(⟨0, false, false, List.replicate (N - 1) 0⟩ : RB)] = List.replicate N 0 := by
  obtain ⟨k, rfl⟩ : ∃ k, N = k + 1 := ⟨N - 1, by omega⟩
  simp [flat, List.replicate_succ]
theorem Ar0.is (p pw pl N : Nat) : Is (Ar0 p pw pl N) (if N = 0 then [] else [⟨0, false, false, List.replicate (N - 1) 0⟩]) := by
  by_cases h : N = 0
  · subst h
    exact ⟨rfl, rfl, fun c hc => rfl⟩
  · rw [if_neg h]
    refine ⟨(flat_one N (by omega)).symm, ?_, fun c hc => ?_⟩
    · obtain ⟨k, rfl⟩ : ∃ k, N = k + 1 := ⟨N - 1, by omega⟩
      simp [Ar0, flags, RB.sz, List.replicate_succ]
    · simp [Ar0, frees]
set_option maxRecDepth 100000 in
theorem new_own (words : Int) (h : words ≤ 100000) (w : World) :
    Calls Try.prog 32 #[.int .i64 words] w fun e w' => ∃ (p : Nat) (F : Nat → Prop), e = .returned (.pointer (some ⟨p, 0, none⟩)) ∧ Own w' p F words.toNat (newR words.toNat) ∧ (∀ b, F b → w.heap.size ≤ b) ∧ Below w.heap.size w w' := by
  obtain ⟨N, hN, hN2, hN3⟩ : ∃ N : Nat, min (max 0 words) 1048576 = (N : Int) ∧ N ≤ 100000 ∧ words.toNat = N := ⟨words.toNat, by omega, by omega, rfl⟩
  rw [hN3]
  have mk1 := make_u64 N (by omega)
  have mk2 := make_bool (N + 1) (by omega)
  rw [show ((N + 1 : Nat) : Int) = (N : Int) + 1 by omega] at mk2
  have k1 : IntKind.i64.wrap ((N : Int) + 1) = (N : Int) + 1 := i64w _ (by omega) (by omega)
  have k2 : wrap64 ((N : Int) + 1) = (N : Int) + 1 := w64 _ (by omega) (by omega)
  have k3 : (0 : Int) ≤ (N : Int) := by omega
  have k4 : (0 : Int) ≤ (N : Int) + 1 := by omega
  have A3 := Lib.hid (alloc3 w)
  have NR := Lib.hid (fun (W : World) (p pw pl : Nat) => new_rep (W := W) (p := p) (pw := pw) (pl := pl) hN2)
  go_enter Try.func32, Try.ntmps32
  go_upto_region 2 with fail
  go_cut [4] (fun v4 wc => ∃ (p pw pl : Nat), v4 = .pointer (some ⟨p, 0, none⟩) ∧ Rep wc (Ar0 p pw pl N) ∧ (w.heap.size ≤ p ∧ w.heap.size ≤ pw ∧ w.heap.size ≤ pl) ∧ Below w.heap.size w wc)
  case first =>
    go_region
    · go_wp2_with fail
      go_meet
      case rel =>
        obtain ⟨x1, x2, x3, x4, x5⟩ := A3.out (.cells (fill (.int .u64 0) N) 22) (.cells (fill (.bool false) (N + 1)) 4) _
        exact ⟨_, _, _, rfl, NR.out _ _ _ _ (by omega) (by omega) (by omega) x3 x1 x2, by omega, x4⟩
    · go_wp2_with fail
      go_meet
      case rel =>
        obtain ⟨x1, x2, x3, x4, x5⟩ := A3.out (.cells (fill (.bool false) (N + 1)) 4) (.cells (fill (.int .u64 0) N) 22) _
        exact ⟨_, _, _, rfl, NR.out _ _ _ _ (by omega) (by omega) (by omega) x3 x2 x1, by omega, x4⟩
  case rest =>
    obtain ⟨p, pw, pl, rfl, R, hb, hB⟩ := hcut
    rename World => wa
    clear mk1 mk2 k1 k2 k3 k4 A3 NR
    have I := Ar0.is p pw pl N
    have c0 := R.c0
    have c0' : wa.cell? ⟨p, 0, none⟩ = some (.slice (some ⟨pw, 0, none⟩) N N) := by rw [show (Ar0 p pw pl N).p = p from rfl] at c0; rw [c0]; simp [Ar0]
    clear c0
    have hF : ∀ b, (Ar0 p pw pl N).foot b → w.heap.size ≤ b := fun b hb' => by
      rcases hb' with rfl | rfl | rfl | ⟨c, _, h⟩
      · exact hb.1
      · exact hb.2.1
      · exact hb.2.2
      · cases h
    have hsz := hB.size
    by_cases h1 : N ≤ 1
    · have O : Own wa p (Ar0 p pw pl N).foot N (newR N) := ⟨⟨_, rfl, R, {
          rows := ⟨_, I, .inr ⟨if_pos h1, h1, by match N, h1 with
            | 0, _ => rfl
            | 1, _ => rfl⟩⟩
          len := by simp [Ar0]
          us := by unfold newR; rw [if_pos h1]; rfl
          good := by unfold newR; rw [if_pos h1]; exact ⟨trivial, fun b hb => by cases hb⟩
          tiny := fun _ => h1 }, fun _ h => h⟩, fun b hb => R.lt hb⟩
      have q : decide ((N : Int) > 1) = false := decide_eq_false (by omega)
      have O' := Lib.hid O
      have hF' := Lib.hid hF
      have hB' := Lib.hid hB
      clear O R I hb hF hB h1 hN hN2 hN3 h hsz
      go_wp2_with fail
      go_ret
      exact ⟨p, _, rfl, O'.out, hF'.out, hB'.out⟩
    · rw [if_neg (by omega)] at I
      have T := put_at R (pre := []) I (by show 1 ≤ (List.replicate (N - 1) (0 : Int)).length; simp; omega) rfl 1 ((N : Int) - 1) rfl (by show _ = (((List.replicate (N - 1) (0 : Int)).length : Nat) : Int); simp; omega)
      have k1 := next_num' (N : Int) (by omega) (by omega)
      have FIN : Hid (∀ (w' : World) (A' : Ar), Is A' ([] ++ { ({ hd := 0, lst := false, liv := false, wd := List.replicate (N - 1) 0 } : RB) with hd := ((N : Int) - 1) * 4, lst := true } :: []) → A'.us = 0 → Rep w' A' → Steps wa (Ar0 p pw pl N) w' A' → ∃ (F : Nat → Prop), Own w' p F N (newR N) ∧ (∀ b, F b → w.heap.size ≤ b) ∧ Below w.heap.size w w') := Lib.hid (fun w' A' i' u' R' S' => by
        refine ⟨A'.foot, ⟨⟨A', S'.p, R', ?_, fun _ h => h⟩, fun b hb => R'.lt hb⟩, fun b hb => (S'.foot b hb).elim (hF b) (fun h => by omega), hB.trans (S'.below hF hsz)⟩
        unfold newR
        rw [if_neg h1]
        refine Inv.mk' i' ⟨⟨⟨?_, rfl, rfl⟩, by simp [RB.sz]⟩, trivial⟩ (by simp only [spanB, Blk.sz]; omega) u' ⟨trivial, fun b hb => ?_⟩
        · show ((N : Int) - 1) * 4 = (((List.replicate (N - 1) (0 : Int)).length : Nat) : Int) * 4
          simp only [List.length_replicate]
          omega
        · simp only [List.mem_singleton] at hb
          subst hb
          simp only [Blk.sz]
          omega)
      have q : decide ((N : Int) > 1) = true := decide_eq_true (by omega)
      have q' : 1 < (N : Int) := by omega
      rw [show (Ar0 p pw pl N).p = p from rfl] at T
      replace T := Lib.hid T
      obtain ⟨k2, k3⟩ := k1
      clear R I hb hF hB h1 hN hN2 hN3 h hsz
      go_wp2_with (go_at_call 55; (with_reducible refine (T.out).mono ?_); rintro e w6 ⟨rfl, A6, h6, u6, R6, S6⟩)
      go_ret
      obtain ⟨F, f1, f2, f3⟩ := FIN.out _ A6 h6 u6 R6 S6
      exact ⟨p, F, rfl, f1, f2, f3⟩
end Go.Proofs.Ytgdhapapdpccpaa.A
