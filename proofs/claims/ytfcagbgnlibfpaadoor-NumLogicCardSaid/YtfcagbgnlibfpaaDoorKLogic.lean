/- num: the walk of the law NumLogic: it returns true, whatever numbers it is given; no memory that was there turns. -/
import Derived.Test.YtfcagbgnlibfpaaDoorKRing
import Derived.Test.YtfcagbgnlibfpaaDoorN
import Derived.Test.YtfcagbgnlibfpaaDoorVLogic
import Derived.Deep.RegionHeld
namespace Go.Proofs.YtfcagbgnlibfpaaDoor.A
open Go.ChangeShapes Go.WideShapes Go.ChangeAt Go.RowKit Go.Proofs.YtfcagbgnlibfpaaDoor.S
set_option linter.unusedVariables false
set_option linter.unusedSimpArgs false

theorem cell_lt {w : World} {g : Nat} {v : Value} (h : w.cell? ⟨g, 0, none⟩ = some v) : g < w.heap.size := by
  rcases Nat.lt_or_ge g w.heap.size with h2 | h2
  · exact h2
  · have : w.heap[g]? = none := by simpa using h2
    simp [World.cell?, this] at h
theorem below_cell {w w' : World} {g : Nat} {v : Value} (hb : Below w.heap.size w w') (h : w.cell? ⟨g, 0, none⟩ = some v) : w'.cell? ⟨g, 0, none⟩ = some v :=
  ((bcell hb).1 g 0 (cell_lt h)).trans h
theorem held_step {w w1 w2 : World} {b1 b2 : Nat} {v1 v2 : Value} (hb : Below w1.heap.size w1 w2) (h : w1.cell? ⟨b1, 0, none⟩ = some v1 ∧ w1.cell? ⟨b2, 0, none⟩ = some v2 ∧ Below w.heap.size w w1) :
    w2.cell? ⟨b1, 0, none⟩ = some v1 ∧ w2.cell? ⟨b2, 0, none⟩ = some v2 ∧ Below w.heap.size w w2 :=
  ⟨below_cell hb h.1, below_cell hb h.2.1, below_step h.2.2 hb⟩
theorem held_drew {w w1 : World} {b1 b2 : Nat} {v1 v2 : Value} (h : w1.cell? ⟨b1, 0, none⟩ = some v1 ∧ w1.cell? ⟨b2, 0, none⟩ = some v2 ∧ Below w.heap.size w w1) :
    w1.drew.cell? ⟨b1, 0, none⟩ = some v1 ∧ w1.drew.cell? ⟨b2, 0, none⟩ = some v2 ∧ Below w.heap.size w w1.drew :=
  ⟨h.1, h.2.1, Below.drew h.2.2⟩
theorem held_two {w w1 : World} {b1 b2 : Nat} {v1 v2 : Value} (h : w1.cell? ⟨b1, 0, none⟩ = some v1 ∧ w1.cell? ⟨b2, 0, none⟩ = some v2 ∧ Below w.heap.size w w1) :
    w1.cell? ⟨b1, 0, none⟩ = some v1 ∧ w1.cell? ⟨b2, 0, none⟩ = some v2 := ⟨h.1, h.2.1⟩
theorem held_new {w0 w w1 : World} {v1 : Value} {t1 t2 : Nat} {v2 : Value} (hb : Below (w.alloc (Obj.cells #[v1] t1)).heap.size (w.alloc (Obj.cells #[v1] t1)) w1) (hB : Below w0.heap.size w0 w1) :
    (w1.alloc (Obj.cells #[v2] t2)).cell? ⟨w.heap.size, 0, none⟩ = some v1 ∧ (w1.alloc (Obj.cells #[v2] t2)).cell? ⟨w1.heap.size, 0, none⟩ = some v2 ∧ Below w0.heap.size w0 (w1.alloc (Obj.cells #[v2] t2)) := by
  have c : (w.alloc (Obj.cells #[v1] t1)).cell? ⟨w.heap.size, 0, none⟩ = some v1 := by simp
  have c2 := below_cell hb c
  have c3 := cell_lt c2
  refine ⟨(World.cell?_alloc_lt _ _ _ c3).trans c2, by simp, hB.alloc hB.size _⟩
theorem pops_32 (x y : Int) (h0 : 0 ≤ x) (h1 : x < 4294967296) (g0 : 0 ≤ y) (g1 : y < 4294967296) :
    (IntKind.u64.wrap (((Lib.popAux 32 x.toNat : Nat) : Int) + ((Lib.popAux 32 y.toNat : Nat) : Int)) != IntKind.u64.wrap (((Lib.popAux 32 (sumI 32 7 x y).toNat : Nat) : Int) + ((Lib.popAux 32 (sumI 32 8 x y).toNat : Nat) : Int))) = false := by
  have e7 : (sumI 32 7 x y).toNat = x.toNat &&& y.toNat := by
    rw [sumI_eq (by omega)]
    show (toI (ofI 32 x &&& ofI 32 y)).toNat = _
    unfold toI
    rw [Int.toNat_natCast, BitVec.toNat_and, toNat_ofI (W := 32) x h0 h1, toNat_ofI (W := 32) y g0 g1]
  have e8 : (sumI 32 8 x y).toNat = x.toNat ||| y.toNat := by
    rw [sumI_eq (by omega)]
    show (toI (ofI 32 x ||| ofI 32 y)).toNat = _
    unfold toI
    rw [Int.toNat_natCast, BitVec.toNat_or, toNat_ofI (W := 32) x h0 h1, toNat_ofI (W := 32) y g0 g1]
  rw [e7, e8]
  have h := pop_and_or 32 x.toNat y.toNat
  refine ne_false (congrArg _ ?_)
  omega
theorem pops_64 (x y : Int) (h0 : 0 ≤ x) (h1 : x < 18446744073709551616) (g0 : 0 ≤ y) (g1 : y < 18446744073709551616) :
    (IntKind.u64.wrap (((Lib.popAux 64 x.toNat : Nat) : Int) + ((Lib.popAux 64 y.toNat : Nat) : Int)) != IntKind.u64.wrap (((Lib.popAux 64 (sumI 64 7 x y).toNat : Nat) : Int) + ((Lib.popAux 64 (sumI 64 8 x y).toNat : Nat) : Int))) = false := by
  have e7 : (sumI 64 7 x y).toNat = x.toNat &&& y.toNat := by
    rw [sumI_eq (by omega)]
    show (toI (ofI 64 x &&& ofI 64 y)).toNat = _
    unfold toI
    rw [Int.toNat_natCast, BitVec.toNat_and, toNat_ofI (W := 64) x h0 h1, toNat_ofI (W := 64) y g0 g1]
  have e8 : (sumI 64 8 x y).toNat = x.toNat ||| y.toNat := by
    rw [sumI_eq (by omega)]
    show (toI (ofI 64 x ||| ofI 64 y)).toNat = _
    unfold toI
    rw [Int.toNat_natCast, BitVec.toNat_or, toNat_ofI (W := 64) x h0 h1, toNat_ofI (W := 64) y g0 g1]
  rw [e7, e8]
  have h := pop_and_or 64 x.toNat y.toNat
  refine ne_false (congrArg _ ?_)
  omega
set_option maxHeartbeats 1000000 in
theorem not_32 (x : Int) (h0 : 0 ≤ x) (h1 : x < 4294967296) (g1 g2 : Nat) (w : World) (c : w.cell? ⟨g1, 0, none⟩ = some (Value.int .i64 32) ∧ w.cell? ⟨g2, 0, none⟩ = some (Value.int .u64 (sumI 32 1 0 1))) :
    Calls Tryd.prog 16 #[.int .u64 x, .pointer (some ⟨g1, 0, none⟩), .pointer (some ⟨g2, 0, none⟩)] w fun e w' => e = .returned (.int .u64 (sumI 32 9 x (sumI 32 1 0 1))) ∧ Below w.heap.size w w' := by
  obtain ⟨c1, c2⟩ := c
  have hB : Below w.heap.size w w := Below.refl _ _
  go_enter Tryd.func16, Tryd.ntmps16
  go_wp2_with (go_at_call 13; (with_reducible refine (tq32_115 _ _ ?_ ?_ ?_ ?_ _).mono ?_); (any_goals (first | (with_reducible assumption) | (with_reducible exact (sum32_bd _ _ _).1) | (with_reducible exact (sum32_bd _ _ _).2) | omega)); rintro e w' ⟨rfl, hb⟩)
  go_ret
  exact ⟨rfl, hb⟩
set_option maxHeartbeats 1000000 in
theorem not_64 (x : Int) (h0 : 0 ≤ x) (h1 : x < 18446744073709551616) (g1 g2 : Nat) (w : World) (c : w.cell? ⟨g1, 0, none⟩ = some (Value.int .i64 64) ∧ w.cell? ⟨g2, 0, none⟩ = some (Value.int .u64 (sumI 64 1 0 1))) :
    Calls Tryd.prog 16 #[.int .u64 x, .pointer (some ⟨g1, 0, none⟩), .pointer (some ⟨g2, 0, none⟩)] w fun e w' => e = .returned (.int .u64 (sumI 64 9 x (sumI 64 1 0 1))) ∧ Below w.heap.size w w' := by
  obtain ⟨c1, c2⟩ := c
  have hB : Below w.heap.size w w := Below.refl _ _
  go_enter Tryd.func16, Tryd.ntmps16
  go_wp2_with (go_at_call 13; (with_reducible refine (tq64_115 _ _ ?_ ?_ ?_ ?_ _).mono ?_); (any_goals (first | (with_reducible assumption) | (with_reducible exact (sum64_bd _ _ _).1) | (with_reducible exact (sum64_bd _ _ _).2) | omega)); rintro e w' ⟨rfl, hb⟩)
  go_ret
  exact ⟨rfl, hb⟩
set_option maxHeartbeats 16000000 in
set_option maxRecDepth 100000 in
theorem numLogic (a b : Int) (ha0 : 0 ≤ a) (ha1 : a < 18446744073709551616) (hb0 : 0 ≤ b) (hb1 : b < 18446744073709551616) (w : World) :
    Calls Tryd.prog 8 #[.int .u64 a, .int .u64 b] w fun e w' => e = .returned (.bool true) ∧ Below w.heap.size w w' := by
  go_enter Tryd.func8, Tryd.ntmps8
  have hB : Below w.heap.size w w := Below.refl _ _
  have q32 : 0 ≤ (a / 4294967296) ∧ (a / 4294967296) < 4294967296 ∧ 0 ≤ (b / 4294967296) ∧ (b / 4294967296) < 4294967296 := by omega
  generalize hA : a / 4294967296 = x at *
  generalize hBB : b / 4294967296 = y at *
  obtain ⟨x0, x1, y0, y1⟩ := q32
  have n321 := ne_false (logic1 (W := 32) x y)
  have n322 := ne_false (logic2 (W := 32) x y)
  have n323 := pops_32 x y x0 x1 y0 y1
  have n324 := ne_false (logic4_32 x y x0 x1 y0 y1)
  have n641 := ne_false (logic1 (W := 64) a b)
  have n642 := ne_false (logic2 (W := 64) a b)
  have n643 := pops_64 a b ha0 ha1 hb0 hb1
  have n644 := ne_false (logic4_64 a b ha0 ha1 hb0 hb1)
  go_wp2
  refine wp_loop_rounds 3 ?_
  rw [rounds_succ]
  go_wp2_with (go_at_call 13; (with_reducible refine (tq32_107 _ _ ?_ ?_ ?_ ?_ _).mono ?_); (any_goals (first | (with_reducible assumption) | (with_reducible exact (sum32_bd _ _ _).1) | (with_reducible exact (sum32_bd _ _ _).2) | omega)); rintro e w1 ⟨rfl, hb⟩; have b1 := below_new; replace hB := below_step (w := w) (by repeat (first | (with_reducible exact hB) | (with_reducible refine Below.drew ?_) | (with_reducible refine below_drewN ?_ _) | (with_reducible refine Below.alloc ?_ (by have h9 := hB.size; first | omega | (simp; done) | (simp at h9 ⊢; omega) | (simp; omega)) _))) hb)
  have H0 := held_new (v2 := (Value.int .u64 (sumI 32 1 0 1))) (t2 := 23) hb hB
  generalize hW1 : w1.alloc (Obj.cells #[Value.int .u64 (sumI 32 1 0 1)] 23) = cur at *
  clear hW1 hb hB b1
  go_region_held (fun w' => w'.cell? ⟨w.heap.size, 0, none⟩ = some (Value.int .i64 32) ∧ w'.cell? ⟨w1.heap.size, 0, none⟩ = some (Value.int .u64 (sumI 32 1 0 1)) ∧ Below w.heap.size w w') (first | assumption | (refine held_drew ?_; assumption)) ((go_at_call 13; (first | (with_reducible refine (tq32_115 _ _ ?_ ?_ ?_ ?_ _).mono ?_) | (with_reducible refine (tq32_113 _ _ ?_ ?_ ?_ ?_ _).mono ?_) | (with_reducible refine (tq32_114 _ _ ?_ ?_ ?_ ?_ _).mono ?_) | (with_reducible refine (tq32_107 _ _ ?_ ?_ ?_ ?_ _).mono ?_) | (with_reducible refine (tq32_116 _ _ ?_ ?_ ?_ ?_ _).mono ?_) | (with_reducible refine (tq32_72 _ _ ?_ ?_ ?_ ?_ _).mono ?_) | (with_reducible refine (tq32_73 _ _ ?_ ?_ ?_ ?_ _).mono ?_)); (any_goals (first | (with_reducible assumption) | (with_reducible exact (sum32_bd _ _ _).1) | (with_reducible exact (sum32_bd _ _ _).2) | omega)); rintro e w' ⟨rfl, hb⟩; have hHeld := held_step hb (by assumption); clear hb))
  go_wp2_with (first | (first | (go_at_call 13; (first | (with_reducible refine (tq32_115 _ _ ?_ ?_ ?_ ?_ _).mono ?_) | (with_reducible refine (tq32_113 _ _ ?_ ?_ ?_ ?_ _).mono ?_) | (with_reducible refine (tq32_114 _ _ ?_ ?_ ?_ ?_ _).mono ?_) | (with_reducible refine (tq32_107 _ _ ?_ ?_ ?_ ?_ _).mono ?_) | (with_reducible refine (tq32_116 _ _ ?_ ?_ ?_ ?_ _).mono ?_) | (with_reducible refine (tq32_72 _ _ ?_ ?_ ?_ ?_ _).mono ?_) | (with_reducible refine (tq32_73 _ _ ?_ ?_ ?_ ?_ _).mono ?_)); (any_goals (first | (with_reducible assumption) | (with_reducible exact (sum32_bd _ _ _).1) | (with_reducible exact (sum32_bd _ _ _).2) | omega)); rintro e w' ⟨rfl, hb⟩; have hHeld := held_step hb (by assumption); clear hb) | (go_at_call 16; (with_reducible refine (not_32 _ ?_ ?_ _ _ _ ?hc).mono ?_); (case hc => exact held_two (by assumption)); (any_goals (first | (with_reducible assumption) | (with_reducible exact (sum32_bd _ _ _).1) | (with_reducible exact (sum32_bd _ _ _).2) | omega)); rintro e w' ⟨rfl, hb⟩; have hHeld := held_step hb (by assumption); clear hb) | (go_at_call 14; (first | (with_reducible refine (oq32_105 _ ?_ ?_ _).mono ?_)); (any_goals (first | (with_reducible assumption) | (with_reducible exact (sum32_bd _ _ _).1) | (with_reducible exact (sum32_bd _ _ _).2) | omega)); rintro e w' ⟨rfl, hb⟩; have hHeld := held_step hb (by assumption); clear hb)) | go_in)
  go_region_held (fun w' => w'.cell? ⟨w.heap.size, 0, none⟩ = some (Value.int .i64 32) ∧ w'.cell? ⟨w1.heap.size, 0, none⟩ = some (Value.int .u64 (sumI 32 1 0 1)) ∧ Below w.heap.size w w') (first | assumption | (refine held_drew ?_; assumption)) ((first | (go_at_call 13; (first | (with_reducible refine (tq32_115 _ _ ?_ ?_ ?_ ?_ _).mono ?_) | (with_reducible refine (tq32_113 _ _ ?_ ?_ ?_ ?_ _).mono ?_) | (with_reducible refine (tq32_114 _ _ ?_ ?_ ?_ ?_ _).mono ?_) | (with_reducible refine (tq32_107 _ _ ?_ ?_ ?_ ?_ _).mono ?_) | (with_reducible refine (tq32_116 _ _ ?_ ?_ ?_ ?_ _).mono ?_) | (with_reducible refine (tq32_72 _ _ ?_ ?_ ?_ ?_ _).mono ?_) | (with_reducible refine (tq32_73 _ _ ?_ ?_ ?_ ?_ _).mono ?_)); (any_goals (first | (with_reducible assumption) | (with_reducible exact (sum32_bd _ _ _).1) | (with_reducible exact (sum32_bd _ _ _).2) | omega)); rintro e w' ⟨rfl, hb⟩; have hHeld := held_step hb (by assumption); clear hb) | (go_at_call 16; (with_reducible refine (not_32 _ ?_ ?_ _ _ _ ?hc).mono ?_); (case hc => exact held_two (by assumption)); (any_goals (first | (with_reducible assumption) | (with_reducible exact (sum32_bd _ _ _).1) | (with_reducible exact (sum32_bd _ _ _).2) | omega)); rintro e w' ⟨rfl, hb⟩; have hHeld := held_step hb (by assumption); clear hb) | (go_at_call 14; (first | (with_reducible refine (oq32_105 _ ?_ ?_ _).mono ?_)); (any_goals (first | (with_reducible assumption) | (with_reducible exact (sum32_bd _ _ _).1) | (with_reducible exact (sum32_bd _ _ _).2) | omega)); rintro e w' ⟨rfl, hb⟩; have hHeld := held_step hb (by assumption); clear hb)))
  go_wp2_with (first | (first | (go_at_call 13; (first | (with_reducible refine (tq32_115 _ _ ?_ ?_ ?_ ?_ _).mono ?_) | (with_reducible refine (tq32_113 _ _ ?_ ?_ ?_ ?_ _).mono ?_) | (with_reducible refine (tq32_114 _ _ ?_ ?_ ?_ ?_ _).mono ?_) | (with_reducible refine (tq32_107 _ _ ?_ ?_ ?_ ?_ _).mono ?_) | (with_reducible refine (tq32_116 _ _ ?_ ?_ ?_ ?_ _).mono ?_) | (with_reducible refine (tq32_72 _ _ ?_ ?_ ?_ ?_ _).mono ?_) | (with_reducible refine (tq32_73 _ _ ?_ ?_ ?_ ?_ _).mono ?_)); (any_goals (first | (with_reducible assumption) | (with_reducible exact (sum32_bd _ _ _).1) | (with_reducible exact (sum32_bd _ _ _).2) | omega)); rintro e w' ⟨rfl, hb⟩; have hHeld := held_step hb (by assumption); clear hb) | (go_at_call 16; (with_reducible refine (not_32 _ ?_ ?_ _ _ _ ?hc).mono ?_); (case hc => exact held_two (by assumption)); (any_goals (first | (with_reducible assumption) | (with_reducible exact (sum32_bd _ _ _).1) | (with_reducible exact (sum32_bd _ _ _).2) | omega)); rintro e w' ⟨rfl, hb⟩; have hHeld := held_step hb (by assumption); clear hb) | (go_at_call 14; (first | (with_reducible refine (oq32_105 _ ?_ ?_ _).mono ?_)); (any_goals (first | (with_reducible assumption) | (with_reducible exact (sum32_bd _ _ _).1) | (with_reducible exact (sum32_bd _ _ _).2) | omega)); rintro e w' ⟨rfl, hb⟩; have hHeld := held_step hb (by assumption); clear hb)) | go_in)
  go_region_held (fun w' => w'.cell? ⟨w.heap.size, 0, none⟩ = some (Value.int .i64 32) ∧ w'.cell? ⟨w1.heap.size, 0, none⟩ = some (Value.int .u64 (sumI 32 1 0 1)) ∧ Below w.heap.size w w') (first | assumption | (refine held_drew ?_; assumption)) ((first | (go_at_call 13; (first | (with_reducible refine (tq32_115 _ _ ?_ ?_ ?_ ?_ _).mono ?_) | (with_reducible refine (tq32_113 _ _ ?_ ?_ ?_ ?_ _).mono ?_) | (with_reducible refine (tq32_114 _ _ ?_ ?_ ?_ ?_ _).mono ?_) | (with_reducible refine (tq32_107 _ _ ?_ ?_ ?_ ?_ _).mono ?_) | (with_reducible refine (tq32_116 _ _ ?_ ?_ ?_ ?_ _).mono ?_) | (with_reducible refine (tq32_72 _ _ ?_ ?_ ?_ ?_ _).mono ?_) | (with_reducible refine (tq32_73 _ _ ?_ ?_ ?_ ?_ _).mono ?_)); (any_goals (first | (with_reducible assumption) | (with_reducible exact (sum32_bd _ _ _).1) | (with_reducible exact (sum32_bd _ _ _).2) | omega)); rintro e w' ⟨rfl, hb⟩; have hHeld := held_step hb (by assumption); clear hb) | (go_at_call 16; (with_reducible refine (not_32 _ ?_ ?_ _ _ _ ?hc).mono ?_); (case hc => exact held_two (by assumption)); (any_goals (first | (with_reducible assumption) | (with_reducible exact (sum32_bd _ _ _).1) | (with_reducible exact (sum32_bd _ _ _).2) | omega)); rintro e w' ⟨rfl, hb⟩; have hHeld := held_step hb (by assumption); clear hb) | (go_at_call 14; (first | (with_reducible refine (oq32_105 _ ?_ ?_ _).mono ?_)); (any_goals (first | (with_reducible assumption) | (with_reducible exact (sum32_bd _ _ _).1) | (with_reducible exact (sum32_bd _ _ _).2) | omega)); rintro e w' ⟨rfl, hb⟩; have hHeld := held_step hb (by assumption); clear hb)))
  go_wp2_with (first | (first | (go_at_call 13; (first | (with_reducible refine (tq32_115 _ _ ?_ ?_ ?_ ?_ _).mono ?_) | (with_reducible refine (tq32_113 _ _ ?_ ?_ ?_ ?_ _).mono ?_) | (with_reducible refine (tq32_114 _ _ ?_ ?_ ?_ ?_ _).mono ?_) | (with_reducible refine (tq32_107 _ _ ?_ ?_ ?_ ?_ _).mono ?_) | (with_reducible refine (tq32_116 _ _ ?_ ?_ ?_ ?_ _).mono ?_) | (with_reducible refine (tq32_72 _ _ ?_ ?_ ?_ ?_ _).mono ?_) | (with_reducible refine (tq32_73 _ _ ?_ ?_ ?_ ?_ _).mono ?_)); (any_goals (first | (with_reducible assumption) | (with_reducible exact (sum32_bd _ _ _).1) | (with_reducible exact (sum32_bd _ _ _).2) | omega)); rintro e w' ⟨rfl, hb⟩; have hHeld := held_step hb (by assumption); clear hb) | (go_at_call 16; (with_reducible refine (not_32 _ ?_ ?_ _ _ _ ?hc).mono ?_); (case hc => exact held_two (by assumption)); (any_goals (first | (with_reducible assumption) | (with_reducible exact (sum32_bd _ _ _).1) | (with_reducible exact (sum32_bd _ _ _).2) | omega)); rintro e w' ⟨rfl, hb⟩; have hHeld := held_step hb (by assumption); clear hb) | (go_at_call 14; (first | (with_reducible refine (oq32_105 _ ?_ ?_ _).mono ?_)); (any_goals (first | (with_reducible assumption) | (with_reducible exact (sum32_bd _ _ _).1) | (with_reducible exact (sum32_bd _ _ _).2) | omega)); rintro e w' ⟨rfl, hb⟩; have hHeld := held_step hb (by assumption); clear hb)) | go_in)
  rw [rounds_succ]
  obtain ⟨_, _, hB⟩ := ‹_ ∧ _ ∧ Below w.heap.size w w'›
  clear H0
  generalize hv : w' = v at *
  go_wp2_with (go_at_call 13; (with_reducible refine (tq64_107 _ _ ?_ ?_ ?_ ?_ _).mono ?_); (any_goals (first | (with_reducible assumption) | (with_reducible exact (sum64_bd _ _ _).1) | (with_reducible exact (sum64_bd _ _ _).2) | omega)); rintro e w1 ⟨rfl, hb⟩; have b1 := below_new; replace hB := below_step (w := w) (by repeat (first | (with_reducible exact hB) | (with_reducible refine Below.drew ?_) | (with_reducible refine below_drewN ?_ _) | (with_reducible refine Below.alloc ?_ (by have h9 := hB.size; first | omega | (simp; done) | (simp at h9 ⊢; omega) | (simp; omega)) _))) hb)
  have H0 := held_new (v2 := (Value.int .u64 (sumI 64 1 0 1))) (t2 := 23) hb hB
  generalize hW1 : w1.alloc (Obj.cells #[Value.int .u64 (sumI 64 1 0 1)] 23) = cur at *
  clear hW1 hb hB b1
  go_region_held (fun w' => w'.cell? ⟨v.heap.size, 0, none⟩ = some (Value.int .i64 64) ∧ w'.cell? ⟨w1.heap.size, 0, none⟩ = some (Value.int .u64 (sumI 64 1 0 1)) ∧ Below w.heap.size w w') (first | assumption | (refine held_drew ?_; assumption)) ((go_at_call 13; (first | (with_reducible refine (tq64_115 _ _ ?_ ?_ ?_ ?_ _).mono ?_) | (with_reducible refine (tq64_113 _ _ ?_ ?_ ?_ ?_ _).mono ?_) | (with_reducible refine (tq64_114 _ _ ?_ ?_ ?_ ?_ _).mono ?_) | (with_reducible refine (tq64_107 _ _ ?_ ?_ ?_ ?_ _).mono ?_) | (with_reducible refine (tq64_116 _ _ ?_ ?_ ?_ ?_ _).mono ?_) | (with_reducible refine (tq64_72 _ _ ?_ ?_ ?_ ?_ _).mono ?_) | (with_reducible refine (tq64_73 _ _ ?_ ?_ ?_ ?_ _).mono ?_)); (any_goals (first | (with_reducible assumption) | (with_reducible exact (sum64_bd _ _ _).1) | (with_reducible exact (sum64_bd _ _ _).2) | omega)); rintro e w' ⟨rfl, hb⟩; have hHeld := held_step hb (by assumption); clear hb))
  go_wp2_with (first | (first | (go_at_call 13; (first | (with_reducible refine (tq64_115 _ _ ?_ ?_ ?_ ?_ _).mono ?_) | (with_reducible refine (tq64_113 _ _ ?_ ?_ ?_ ?_ _).mono ?_) | (with_reducible refine (tq64_114 _ _ ?_ ?_ ?_ ?_ _).mono ?_) | (with_reducible refine (tq64_107 _ _ ?_ ?_ ?_ ?_ _).mono ?_) | (with_reducible refine (tq64_116 _ _ ?_ ?_ ?_ ?_ _).mono ?_) | (with_reducible refine (tq64_72 _ _ ?_ ?_ ?_ ?_ _).mono ?_) | (with_reducible refine (tq64_73 _ _ ?_ ?_ ?_ ?_ _).mono ?_)); (any_goals (first | (with_reducible assumption) | (with_reducible exact (sum64_bd _ _ _).1) | (with_reducible exact (sum64_bd _ _ _).2) | omega)); rintro e w' ⟨rfl, hb⟩; have hHeld := held_step hb (by assumption); clear hb) | (go_at_call 16; (with_reducible refine (not_64 _ ?_ ?_ _ _ _ ?hc).mono ?_); (case hc => exact held_two (by assumption)); (any_goals (first | (with_reducible assumption) | (with_reducible exact (sum64_bd _ _ _).1) | (with_reducible exact (sum64_bd _ _ _).2) | omega)); rintro e w' ⟨rfl, hb⟩; have hHeld := held_step hb (by assumption); clear hb) | (go_at_call 14; (first | (with_reducible refine (oq64_105 _ ?_ ?_ _).mono ?_)); (any_goals (first | (with_reducible assumption) | (with_reducible exact (sum64_bd _ _ _).1) | (with_reducible exact (sum64_bd _ _ _).2) | omega)); rintro e w' ⟨rfl, hb⟩; have hHeld := held_step hb (by assumption); clear hb)) | go_in)
  go_region_held (fun w' => w'.cell? ⟨v.heap.size, 0, none⟩ = some (Value.int .i64 64) ∧ w'.cell? ⟨w1.heap.size, 0, none⟩ = some (Value.int .u64 (sumI 64 1 0 1)) ∧ Below w.heap.size w w') (first | assumption | (refine held_drew ?_; assumption)) ((first | (go_at_call 13; (first | (with_reducible refine (tq64_115 _ _ ?_ ?_ ?_ ?_ _).mono ?_) | (with_reducible refine (tq64_113 _ _ ?_ ?_ ?_ ?_ _).mono ?_) | (with_reducible refine (tq64_114 _ _ ?_ ?_ ?_ ?_ _).mono ?_) | (with_reducible refine (tq64_107 _ _ ?_ ?_ ?_ ?_ _).mono ?_) | (with_reducible refine (tq64_116 _ _ ?_ ?_ ?_ ?_ _).mono ?_) | (with_reducible refine (tq64_72 _ _ ?_ ?_ ?_ ?_ _).mono ?_) | (with_reducible refine (tq64_73 _ _ ?_ ?_ ?_ ?_ _).mono ?_)); (any_goals (first | (with_reducible assumption) | (with_reducible exact (sum64_bd _ _ _).1) | (with_reducible exact (sum64_bd _ _ _).2) | omega)); rintro e w' ⟨rfl, hb⟩; have hHeld := held_step hb (by assumption); clear hb) | (go_at_call 16; (with_reducible refine (not_64 _ ?_ ?_ _ _ _ ?hc).mono ?_); (case hc => exact held_two (by assumption)); (any_goals (first | (with_reducible assumption) | (with_reducible exact (sum64_bd _ _ _).1) | (with_reducible exact (sum64_bd _ _ _).2) | omega)); rintro e w' ⟨rfl, hb⟩; have hHeld := held_step hb (by assumption); clear hb) | (go_at_call 14; (first | (with_reducible refine (oq64_105 _ ?_ ?_ _).mono ?_)); (any_goals (first | (with_reducible assumption) | (with_reducible exact (sum64_bd _ _ _).1) | (with_reducible exact (sum64_bd _ _ _).2) | omega)); rintro e w' ⟨rfl, hb⟩; have hHeld := held_step hb (by assumption); clear hb)))
  go_wp2_with (first | (first | (go_at_call 13; (first | (with_reducible refine (tq64_115 _ _ ?_ ?_ ?_ ?_ _).mono ?_) | (with_reducible refine (tq64_113 _ _ ?_ ?_ ?_ ?_ _).mono ?_) | (with_reducible refine (tq64_114 _ _ ?_ ?_ ?_ ?_ _).mono ?_) | (with_reducible refine (tq64_107 _ _ ?_ ?_ ?_ ?_ _).mono ?_) | (with_reducible refine (tq64_116 _ _ ?_ ?_ ?_ ?_ _).mono ?_) | (with_reducible refine (tq64_72 _ _ ?_ ?_ ?_ ?_ _).mono ?_) | (with_reducible refine (tq64_73 _ _ ?_ ?_ ?_ ?_ _).mono ?_)); (any_goals (first | (with_reducible assumption) | (with_reducible exact (sum64_bd _ _ _).1) | (with_reducible exact (sum64_bd _ _ _).2) | omega)); rintro e w' ⟨rfl, hb⟩; have hHeld := held_step hb (by assumption); clear hb) | (go_at_call 16; (with_reducible refine (not_64 _ ?_ ?_ _ _ _ ?hc).mono ?_); (case hc => exact held_two (by assumption)); (any_goals (first | (with_reducible assumption) | (with_reducible exact (sum64_bd _ _ _).1) | (with_reducible exact (sum64_bd _ _ _).2) | omega)); rintro e w' ⟨rfl, hb⟩; have hHeld := held_step hb (by assumption); clear hb) | (go_at_call 14; (first | (with_reducible refine (oq64_105 _ ?_ ?_ _).mono ?_)); (any_goals (first | (with_reducible assumption) | (with_reducible exact (sum64_bd _ _ _).1) | (with_reducible exact (sum64_bd _ _ _).2) | omega)); rintro e w' ⟨rfl, hb⟩; have hHeld := held_step hb (by assumption); clear hb)) | go_in)
  go_region_held (fun w' => w'.cell? ⟨v.heap.size, 0, none⟩ = some (Value.int .i64 64) ∧ w'.cell? ⟨w1.heap.size, 0, none⟩ = some (Value.int .u64 (sumI 64 1 0 1)) ∧ Below w.heap.size w w') (first | assumption | (refine held_drew ?_; assumption)) ((first | (go_at_call 13; (first | (with_reducible refine (tq64_115 _ _ ?_ ?_ ?_ ?_ _).mono ?_) | (with_reducible refine (tq64_113 _ _ ?_ ?_ ?_ ?_ _).mono ?_) | (with_reducible refine (tq64_114 _ _ ?_ ?_ ?_ ?_ _).mono ?_) | (with_reducible refine (tq64_107 _ _ ?_ ?_ ?_ ?_ _).mono ?_) | (with_reducible refine (tq64_116 _ _ ?_ ?_ ?_ ?_ _).mono ?_) | (with_reducible refine (tq64_72 _ _ ?_ ?_ ?_ ?_ _).mono ?_) | (with_reducible refine (tq64_73 _ _ ?_ ?_ ?_ ?_ _).mono ?_)); (any_goals (first | (with_reducible assumption) | (with_reducible exact (sum64_bd _ _ _).1) | (with_reducible exact (sum64_bd _ _ _).2) | omega)); rintro e w' ⟨rfl, hb⟩; have hHeld := held_step hb (by assumption); clear hb) | (go_at_call 16; (with_reducible refine (not_64 _ ?_ ?_ _ _ _ ?hc).mono ?_); (case hc => exact held_two (by assumption)); (any_goals (first | (with_reducible assumption) | (with_reducible exact (sum64_bd _ _ _).1) | (with_reducible exact (sum64_bd _ _ _).2) | omega)); rintro e w' ⟨rfl, hb⟩; have hHeld := held_step hb (by assumption); clear hb) | (go_at_call 14; (first | (with_reducible refine (oq64_105 _ ?_ ?_ _).mono ?_)); (any_goals (first | (with_reducible assumption) | (with_reducible exact (sum64_bd _ _ _).1) | (with_reducible exact (sum64_bd _ _ _).2) | omega)); rintro e w' ⟨rfl, hb⟩; have hHeld := held_step hb (by assumption); clear hb)))
  go_wp2_with (first | (first | (go_at_call 13; (first | (with_reducible refine (tq64_115 _ _ ?_ ?_ ?_ ?_ _).mono ?_) | (with_reducible refine (tq64_113 _ _ ?_ ?_ ?_ ?_ _).mono ?_) | (with_reducible refine (tq64_114 _ _ ?_ ?_ ?_ ?_ _).mono ?_) | (with_reducible refine (tq64_107 _ _ ?_ ?_ ?_ ?_ _).mono ?_) | (with_reducible refine (tq64_116 _ _ ?_ ?_ ?_ ?_ _).mono ?_) | (with_reducible refine (tq64_72 _ _ ?_ ?_ ?_ ?_ _).mono ?_) | (with_reducible refine (tq64_73 _ _ ?_ ?_ ?_ ?_ _).mono ?_)); (any_goals (first | (with_reducible assumption) | (with_reducible exact (sum64_bd _ _ _).1) | (with_reducible exact (sum64_bd _ _ _).2) | omega)); rintro e w' ⟨rfl, hb⟩; have hHeld := held_step hb (by assumption); clear hb) | (go_at_call 16; (with_reducible refine (not_64 _ ?_ ?_ _ _ _ ?hc).mono ?_); (case hc => exact held_two (by assumption)); (any_goals (first | (with_reducible assumption) | (with_reducible exact (sum64_bd _ _ _).1) | (with_reducible exact (sum64_bd _ _ _).2) | omega)); rintro e w' ⟨rfl, hb⟩; have hHeld := held_step hb (by assumption); clear hb) | (go_at_call 14; (first | (with_reducible refine (oq64_105 _ ?_ ?_ _).mono ?_)); (any_goals (first | (with_reducible assumption) | (with_reducible exact (sum64_bd _ _ _).1) | (with_reducible exact (sum64_bd _ _ _).2) | omega)); rintro e w' ⟨rfl, hb⟩; have hHeld := held_step hb (by assumption); clear hb)) | go_in)
  rw [rounds_succ]
  obtain ⟨_, _, hB⟩ := ‹_ ∧ _ ∧ Below w.heap.size w w'›
  clear H0
  go_wp2_with (first | (go_at_call 12; (with_reducible refine (known _).mono ?_); rintro e w' ⟨rfl, hb⟩; replace hB := below_step (w := w) (by repeat (first | (with_reducible exact hB) | (with_reducible refine Below.drew ?_) | (with_reducible refine below_drewN ?_ _) | (with_reducible refine Below.alloc ?_ (by have h9 := hB.size; first | omega | (simp; done) | (simp at h9 ⊢; omega) | (simp; omega)) _))) hb; clear hb) | (go_at_call 15; (with_reducible refine (one_69_big _ ?_ ?_ _).mono ?_); (any_goals omega); rintro e w' ⟨rfl, hb⟩; replace hB := below_step (w := w) (by repeat (first | (with_reducible exact hB) | (with_reducible refine Below.drew ?_) | (with_reducible refine below_drewN ?_ _) | (with_reducible refine Below.alloc ?_ (by have h9 := hB.size; first | omega | (simp; done) | (simp at h9 ⊢; omega) | (simp; omega)) _))) hb; clear hb))
  go_ret
  exact ⟨rfl, hB⟩
end Go.Proofs.YtfcagbgnlibfpaaDoor.A
