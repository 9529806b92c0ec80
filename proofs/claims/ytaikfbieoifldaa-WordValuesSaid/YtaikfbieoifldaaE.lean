/- The walk of the law WordValues: it returns true, whatever value, kind and word it is given; no memory that was there turns. -/
import Derived.Test.YtaikfbieoifldaaD
namespace Go.Proofs.Ytaikfbieoifldaa.A
open Go.ChangeShapes Go.WideShapes Go.ChangeAt Go.RowKit
set_option linter.unusedVariables false
set_option linter.unusedSimpArgs false


theorem Zero (v : Value) (cs : Array Value) (hv : v = .agg cs) (hc : cs.size = 4) (w : World) :
    Calls Try.prog 19 #[v] w fun e w' => e = .returned (.int .u64 0) ∧ Below w.heap.size w w' := by
  obtain ⟨l⟩ := cs
  match l, hc with
  | [c0, c1, c2, c3], _ =>
    subst hv
    go_enter Try.func19, Try.ntmps19
    go_wp2
    go_ret
    exact ⟨rfl, below_new _ _⟩

theorem last_lt {W w' : World} {o : Obj} (hb : Below (W.alloc o).heap.size (W.alloc o) w') : W.heap.size < w'.heap.size := by
  have := hb.size; simp at this; omega

theorem two_boxes' {w w' W1 : World} {A B : Array Value} {t u : TypeId} (hW : W1 = (w.alloc (.cells A t)).alloc (.cells B u)) (h : Below (w.heap.size + 2) W1 w') :
    (∀ o, w'.cell? ⟨w.heap.size, o, none⟩ = A[o]?) ∧ (∀ o, w'.cell? ⟨w.heap.size + 1, o, none⟩ = B[o]?) := by
  subst hW
  constructor
  · intro o
    rw [h.cell (by simp)]
    exact World.cell?_alloc2_first A t _ o
  · intro o
    rw [h.cell (by simp)]
    exact World.cell?_alloc2_new _ B u o

set_option maxHeartbeats 16000000 in
theorem wordValues (kd k n kind v t0 t2 t3 : Int) (t1 : Bool) (hn : 0 ≤ n) (hn2 : n < 18446744073709551616) (hv : 0 ≤ v) (hv2 : v < 18446744073709551616) (w : World) :
    Calls Try.prog 6 #[.agg #[.int .i64 kd, .int .i64 k, .int .u64 n], .int .i64 kind, .int .u64 v, .agg #[.int .i64 t0, .bool t1, .int .i64 t2, .int .i64 t3]] w fun e w' => e = .returned (.bool true) ∧ Below w.heap.size w w' := by
  have R9 := Lib.hid known
  have hB := Below.refl w.heap.size w
  obtain ⟨W1, hW1⟩ : ∃ W1 : World, W1 = (w.alloc (.cells #[.int .i64 kd, .int .i64 k, .int .u64 n] 35)).alloc (.cells #[.int .i64 t0, .bool t1, .int .i64 t2, .int .i64 t3] 45) := ⟨_, rfl⟩
  have hX : Below (w.heap.size + 2) W1 ((w.alloc (.cells #[.int .i64 kd, .int .i64 k, .int .u64 n] 35)).alloc (.cells #[.int .i64 t0, .bool t1, .int .i64 t2, .int .i64 t3] 45)) := by rw [hW1]; exact Below.refl _ _
  have hS1 : w.heap.size + 2 ≤ W1.heap.size := by rw [hW1]; simp
  replace hW1 := Lib.hid hW1
  have P1 := Lib.hid (Pack kd k n hn hn2)
  have P2 := Lib.hid (RPack kd k n hn hn2)
  have O1 := Lib.hid (Open kind v hv hv2)
  have O2 := Lib.hid (ROpen kind v hv hv2)
  have Z := Lib.hid (Zero (.agg #[.int .i64 t0, .bool t1, .int .i64 t2, .int .i64 t3]) _ rfl rfl)
  go_enter Try.func6, Try.ntmps6
  go_wp2_with (first | (go_at_call 15; (with_reducible refine (P1.out _).mono ?_); rintro e w' ⟨rfl, hb⟩; replace hB := below_step (w := w) (by repeat (first | exact hB | refine Below.drew ?_ | refine below_drewN ?_ _ | refine Below.setCell ?_ (by have h9 := hB.size; first | omega | (simp; done) | (simp at h9 ⊢; omega) | (simp; omega)) _ | refine Below.alloc ?_ (by have h9 := hB.size; first | omega | (simp; done) | (simp at h9 ⊢; omega) | (simp; omega)) _)) hb; replace hX := below_step1 (B := w.heap.size + 2) (w := W1) (by repeat (first | exact hX | refine Below.drew ?_ | refine below_drewN ?_ _ | refine Below.setCell ?_ (by have h9 := hX.size; first | omega | (simp; done) | (simp at h9 ⊢; omega) | (simp; omega)) _ | refine Below.alloc ?_ (by have h9 := hX.size; first | omega | (simp; done) | (simp at h9 ⊢; omega) | (simp; omega)) _)) (by have h9 := hX.size; first | omega | (simp; done) | (simp at h9 ⊢; omega) | (simp; omega)) hb; clear hb; obtain ⟨hbx, hby⟩ := two_boxes' hW1.out hX; have hz2 : w.heap.size + 1 < w'.heap.size := (by have h9 := hX.size; first | omega | (simp at h9 ⊢; omega)); have hz1 : w.heap.size < w'.heap.size := by omega) | (go_at_call 17; (with_reducible refine (P2.out _).mono ?_); rintro e w' ⟨rfl, hb⟩; replace hB := below_step (w := w) (by repeat (first | exact hB | refine Below.drew ?_ | refine below_drewN ?_ _ | refine Below.setCell ?_ (by have h9 := hB.size; first | omega | (simp; done) | (simp at h9 ⊢; omega) | (simp; omega)) _ | refine Below.alloc ?_ (by have h9 := hB.size; first | omega | (simp; done) | (simp at h9 ⊢; omega) | (simp; omega)) _)) hb; replace hX := below_step1 (B := w.heap.size + 2) (w := W1) (by repeat (first | exact hX | refine Below.drew ?_ | refine below_drewN ?_ _ | refine Below.setCell ?_ (by have h9 := hX.size; first | omega | (simp; done) | (simp at h9 ⊢; omega) | (simp; omega)) _ | refine Below.alloc ?_ (by have h9 := hX.size; first | omega | (simp; done) | (simp at h9 ⊢; omega) | (simp; omega)) _)) (by have h9 := hX.size; first | omega | (simp; done) | (simp at h9 ⊢; omega) | (simp; omega)) hb; clear hb; obtain ⟨hbx, hby⟩ := two_boxes' hW1.out hX; have hz2 : w.heap.size + 1 < w'.heap.size := (by have h9 := hX.size; first | omega | (simp at h9 ⊢; omega)); have hz1 : w.heap.size < w'.heap.size := by omega) | (go_at_call 16; (with_reducible refine (O1.out _).mono ?_); rintro e w' ⟨rfl, hb⟩; replace hB := below_step (w := w) (by repeat (first | exact hB | refine Below.drew ?_ | refine below_drewN ?_ _ | refine Below.setCell ?_ (by have h9 := hB.size; first | omega | (simp; done) | (simp at h9 ⊢; omega) | (simp; omega)) _ | refine Below.alloc ?_ (by have h9 := hB.size; first | omega | (simp; done) | (simp at h9 ⊢; omega) | (simp; omega)) _)) hb; replace hX := below_step1 (B := w.heap.size + 2) (w := W1) (by repeat (first | exact hX | refine Below.drew ?_ | refine below_drewN ?_ _ | refine Below.setCell ?_ (by have h9 := hX.size; first | omega | (simp; done) | (simp at h9 ⊢; omega) | (simp; omega)) _ | refine Below.alloc ?_ (by have h9 := hX.size; first | omega | (simp; done) | (simp at h9 ⊢; omega) | (simp; omega)) _)) (by have h9 := hX.size; first | omega | (simp; done) | (simp at h9 ⊢; omega) | (simp; omega)) hb; clear hb; obtain ⟨hbx, hby⟩ := two_boxes' hW1.out hX; have hz2 : w.heap.size + 1 < w'.heap.size := (by have h9 := hX.size; first | omega | (simp at h9 ⊢; omega)); have hz1 : w.heap.size < w'.heap.size := by omega) | (go_at_call 18; (with_reducible refine (O2.out _).mono ?_); rintro e w' ⟨rfl, hb⟩; have hl := last_stays hb; have hlz := last_lt hb; replace hB := below_step (w := w) (by repeat (first | exact hB | refine Below.drew ?_ | refine below_drewN ?_ _ | refine Below.setCell ?_ (by have h9 := hB.size; first | omega | (simp; done) | (simp at h9 ⊢; omega) | (simp; omega)) _ | refine Below.alloc ?_ (by have h9 := hB.size; first | omega | (simp; done) | (simp at h9 ⊢; omega) | (simp; omega)) _)) hb; replace hX := below_step1 (B := w.heap.size + 2) (w := W1) (by repeat (first | exact hX | refine Below.drew ?_ | refine below_drewN ?_ _ | refine Below.setCell ?_ (by have h9 := hX.size; first | omega | (simp; done) | (simp at h9 ⊢; omega) | (simp; omega)) _ | refine Below.alloc ?_ (by have h9 := hX.size; first | omega | (simp; done) | (simp at h9 ⊢; omega) | (simp; omega)) _)) (by have h9 := hX.size; first | omega | (simp; done) | (simp at h9 ⊢; omega) | (simp; omega)) hb; clear hb; obtain ⟨hbx, hby⟩ := two_boxes' hW1.out hX; have hz2 : w.heap.size + 1 < w'.heap.size := (by have h9 := hX.size; first | omega | (simp at h9 ⊢; omega)); have hz1 : w.heap.size < w'.heap.size := by omega) | (go_at_call 19; (with_reducible refine (Z.out _).mono ?_); rintro e w' ⟨rfl, hb⟩; replace hB := below_step (w := w) (by repeat (first | exact hB | refine Below.drew ?_ | refine below_drewN ?_ _ | refine Below.setCell ?_ (by have h9 := hB.size; first | omega | (simp; done) | (simp at h9 ⊢; omega) | (simp; omega)) _ | refine Below.alloc ?_ (by have h9 := hB.size; first | omega | (simp; done) | (simp at h9 ⊢; omega) | (simp; omega)) _)) hb; replace hX := below_step1 (B := w.heap.size + 2) (w := W1) (by repeat (first | exact hX | refine Below.drew ?_ | refine below_drewN ?_ _ | refine Below.setCell ?_ (by have h9 := hX.size; first | omega | (simp; done) | (simp at h9 ⊢; omega) | (simp; omega)) _ | refine Below.alloc ?_ (by have h9 := hX.size; first | omega | (simp; done) | (simp at h9 ⊢; omega) | (simp; omega)) _)) (by have h9 := hX.size; first | omega | (simp; done) | (simp at h9 ⊢; omega) | (simp; omega)) hb; clear hb; obtain ⟨hbx, hby⟩ := two_boxes' hW1.out hX; have hz2 : w.heap.size + 1 < w'.heap.size := (by have h9 := hX.size; first | omega | (simp at h9 ⊢; omega)); have hz1 : w.heap.size < w'.heap.size := by omega) | (go_at_call 14; (with_reducible refine (R9.out _).mono ?_); rintro e w' ⟨rfl, hb⟩; replace hB := below_step (w := w) (by repeat (first | exact hB | refine Below.drew ?_ | refine below_drewN ?_ _ | refine Below.setCell ?_ (by have h9 := hB.size; first | omega | (simp; done) | (simp at h9 ⊢; omega) | (simp; omega)) _ | refine Below.alloc ?_ (by have h9 := hB.size; first | omega | (simp; done) | (simp at h9 ⊢; omega) | (simp; omega)) _)) hb; replace hX := below_step1 (B := w.heap.size + 2) (w := W1) (by repeat (first | exact hX | refine Below.drew ?_ | refine below_drewN ?_ _ | refine Below.setCell ?_ (by have h9 := hX.size; first | omega | (simp; done) | (simp at h9 ⊢; omega) | (simp; omega)) _ | refine Below.alloc ?_ (by have h9 := hX.size; first | omega | (simp; done) | (simp at h9 ⊢; omega) | (simp; omega)) _)) (by have h9 := hX.size; first | omega | (simp; done) | (simp at h9 ⊢; omega) | (simp; omega)) hb; clear hb; obtain ⟨hbx, hby⟩ := two_boxes' hW1.out hX; have hz2 : w.heap.size + 1 < w'.heap.size := (by have h9 := hX.size; first | omega | (simp at h9 ⊢; omega)); have hz1 : w.heap.size < w'.heap.size := by omega))
  go_ret
  exact ⟨rfl, hB⟩
end Go.Proofs.Ytaikfbieoifldaa.A
