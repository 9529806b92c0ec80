/- num: the contract of the reference's function Two: printed by the kit's tool (print.sh); each of its parts an auxiliary lemma of its own (as_aux_lemma), for the kernel's sake. -/
import Derived.Test.YtfcagbgnlibfpaaDoorPTwo
namespace Go.Proofs.YtfcagbgnlibfpaaDoor.PNumTwo
open Go.RowKit Go.Proofs.YtfcagbgnlibfpaaDoorW.PrintWords Go.Proofs.YtfcagbgnlibfpaaDoorW.PrintLast Go.Proofs.YtfcagbgnlibfpaaDoorW.PrintMore
attribute [local go_sem] max2_int min2_int max_two min_two max_three min_three max_four min_four   -- for this text's walks alone
set_option linter.unusedVariables false
set_option linter.unusedSimpArgs false

set_option maxHeartbeats 8000000 in
set_option maxRecDepth 100000 in
theorem geoderef03_Two.calls (k : Nat) (a0 : Int) (a1 : Int) (a2 : Int) (r1 : Int) (r2 : Int) (w : World) (h : geoderef03_Two.f k a0 a1 a2 = some (r1, r2)) :
    Calls Tryd.prog 11 #[.int .i64 a0, .int .u64 a1, .int .u64 a2] w fun e w' => e = .returned (.tuple #[.int .u64 r1, .int .i64 r2]) ∧ Below w.heap.size w w' := by
  have hu39 := Tryd.underlying39
  have HB := Aside0.mk (Below.refl w.heap.size w)
  have H : ((geoderef03_Of.f k a0).bind fun bt132 => (if bt132.2.2.2 = 2 then ((geoderef03_Fits.f k a1 bt132.2.1).bind fun t137 => (if t137 = true then ((geoderef03_Fits.f k a2 bt132.2.1).bind fun t138 => (geoderef03_Two.j0 k a1 a2 bt132.2.1 (!t138) bt132.1 bt132.2.1 bt132.2.2.1 bt132.2.2.2)) else (geoderef03_Two.j0 k a1 a2 bt132.2.1 true bt132.1 bt132.2.1 bt132.2.2.1 bt132.2.2.2))) else (geoderef03_Two.j0 k a1 a2 bt132.2.1 true bt132.1 bt132.2.1 bt132.2.2.1 bt132.2.2.2))) = some (r1, r2) := h
  clear h
  replace H := Option.bind_eq_some_iff.mp H
  obtain ⟨⟨t132, t133, t134, t135⟩, A40, H⟩ := H
  replace H : (if t135 = 2 then ((geoderef03_Fits.f k a1 t133).bind fun t137 => (if t137 = true then ((geoderef03_Fits.f k a2 t133).bind fun t138 => (geoderef03_Two.j0 k a1 a2 t133 (!t138) t132 t133 t134 t135)) else (geoderef03_Two.j0 k a1 a2 t133 true t132 t133 t134 t135))) else (geoderef03_Two.j0 k a1 a2 t133 true t132 t133 t134 t135)) = some (r1, r2) := H
  have A4 := Aside0.mk A40
  clear A40
  have HC5 := Aside0.mk H
  clear H
  go_enter Tryd.func11, Tryd.ntmps11
  go_upto_region 3 with (first | ((with_reducible refine gate_callee (f := 19) rfl ?_); refine goesL_ (some 19) rfl rfl Tryd.func19 (by kernel_rfl) rfl #[.int .i64 a0] rfl (by (try simp only [List.map_toArray, List.map_cons, List.map_nil]); first | done | rfl | (simp only [List.length_drop, List.length_take]; rfl)) ?_; (with_reducible refine (geoderef03_Of.calls k a0 t132 t133 t134 t135 _ A4.out).mono ?_); rintro e w6 ⟨rfl, hb⟩; refine ⟨_, rfl, ?_⟩; have n0_ := Aside0.mk (below_step (by repeat (first | (with_reducible first | exact HB.out | apply below_alloc | apply pw_below_drewN | apply below_drew1) | exact HB.out)) hb); clear HB; have HB := n0_; clear n0_; (try clear hb); (try clear hb2); (try clear hk); (try clear hi)) | ((with_reducible refine gate_dst (N := 8) rfl ?_); refine box_event ?hg (N := 8) ?hd (cs := #[.int .i64 0, .int .i64 0, .int .i64 0, .int .i64 0]) (t := 39) ?hr ?_; (case hd => rfl); (case hg => rfl); (case hr => first | (go_simp; done) | (go_simp; rfl)); intro gb136 hg w7 hbox hb; have n0_ := Aside0.mk (below_step (by repeat (first | (with_reducible first | exact HB.out | apply below_alloc | apply pw_below_drewN | apply below_drew1) | exact HB.out)) hb); have n1_ := Aside0.mk (hbox); have n2_ := Aside0.mk ((by rw [hg]; exact (below_size (by repeat (first | (with_reducible first | exact HB.out | apply below_alloc | apply pw_below_drewN | apply below_drew1) | exact HB.out))) : w.heap.size ≤ gb136)); have n3_ := Aside0.mk ((by rw [hg]; exact (below_size (by repeat (first | (with_reducible first | exact HB.out | apply below_alloc | apply pw_below_drewN | apply below_drew1) | exact HB.out))) : w.heap.size ≤ gb136)); clear HB; have HB := n0_; have BK136 := n1_; have GW136 := n2_; have GE136 := n3_; clear n0_ n1_ n2_ n3_; clear hb hbox hg; have hcz8_0 : w7.cell? ⟨gb136, 0, none⟩ = some (.int .i64 0) := (blk_cell BK136.out 0).trans rfl; have hcz8_1 : w7.cell? ⟨gb136, 1, none⟩ = some (.int .i64 0) := (blk_cell BK136.out 1).trans rfl; have hcz8_2 : w7.cell? ⟨gb136, 2, none⟩ = some (.int .i64 0) := (blk_cell BK136.out 2).trans rfl; have hcz8_3 : w7.cell? ⟨gb136, 3, none⟩ = some (.int .i64 0) := (blk_cell BK136.out 3).trans rfl; have hfz8_0 := blk_frozen BK136.out 0; have hfz8_1 := blk_frozen BK136.out 1; have hfz8_2 := blk_frozen BK136.out 2; have hfz8_3 := blk_frozen BK136.out 3))
  (try simp only [Act.put, List.setIfInBounds_toArray, List.set_cons_zero, List.set_cons_succ])
  go_cut [36] (fun v36 wc => ∃ (kq : Nat) (x36_4 : Bool), v36 = .bool x36_4 ∧ Aside0 (geoderef03_Two.j0 kq a1 a2 t133 x36_4 t132 t133 t134 t135 = some (r1, r2)) ∧ Aside0 (kq ≤ k) ∧ Aside0 (wc.heap[gb136]? = some (.cells #[.int .i64 t132, .int .i64 t133, .int .i64 t134, .int .i64 t135] 39 (0, 0))) ∧ Aside0 (Below w.heap.size w wc))
  case first =>
    as_aux_lemma =>
      have H := HC5.out
      clear HC5
      by_cases c9 : t135 = 2
      · rw [if_pos c9] at H
        have c9b0 : (t135 == 2) = true := beq_iff_eq.mpr c9
        have c9b1 : (t135 != 2) = false := bne_eq_false_iff_eq.mpr c9
        clear c9
        (first | rw [c9b0] | (simp only [i64_w, i32_w]; rw [c9b0]) | skip)
        replace H := Option.bind_eq_some_iff.mp H
        obtain ⟨t137, A100, H⟩ := H
        replace H : (if t137 = true then ((geoderef03_Fits.f k a2 t133).bind fun t138 => (geoderef03_Two.j0 k a1 a2 t133 (!t138) t132 t133 t134 t135)) else (geoderef03_Two.j0 k a1 a2 t133 true t132 t133 t134 t135)) = some (r1, r2) := H
        have A10 := Aside0.mk A100
        clear A100
        by_cases c11 : t137 = true
        · subst c11
          have H1 : ((geoderef03_Fits.f k a2 t133).bind fun t138 => (geoderef03_Two.j0 k a1 a2 t133 (!t138) t132 t133 t134 t135)) = some (r1, r2) := by rw [if_pos rfl] at H; exact H
          clear H
          have H := H1
          clear H1
          replace H := Option.bind_eq_some_iff.mp H
          obtain ⟨t138, A120, H⟩ := H
          replace H : (geoderef03_Two.j0 k a1 a2 t133 (!t138) t132 t133 t134 t135) = some (r1, r2) := H
          have A12 := Aside0.mk A120
          clear A120
          have H' := Aside0.mk H
          clear H
          have hcz13_0 : w7.cell? ⟨gb136, 0, none⟩ = some (.int .i64 0) := (blk_cell BK136.out 0).trans rfl
          have hcz13_1 : w7.cell? ⟨gb136, 1, none⟩ = some (.int .i64 0) := (blk_cell BK136.out 1).trans rfl
          have hcz13_2 : w7.cell? ⟨gb136, 2, none⟩ = some (.int .i64 0) := (blk_cell BK136.out 2).trans rfl
          have hcz13_3 : w7.cell? ⟨gb136, 3, none⟩ = some (.int .i64 0) := (blk_cell BK136.out 3).trans rfl
          have hfz13_0 := blk_frozen BK136.out 0
          have hfz13_1 := blk_frozen BK136.out 1
          have hfz13_2 := blk_frozen BK136.out 2
          have hfz13_3 := blk_frozen BK136.out 3
          go_wp2_with (first | (go_at_call 22; (with_reducible refine (geoderef03_Fits.calls k a1 t133 true _ A10.out).mono ?_); rintro e w14 ⟨rfl, hb⟩; have n0_ := Aside0.mk (blk_below (g := gb136) (o := .cells #[.int .i64 t132, .int .i64 t133, .int .i64 t134, .int .i64 t135] 39 (0, 0)) (by (with_reducible repeat (first | refine blk_drewN ?_ _ | refine blk_drew ?_ | refine blk_alloc ?_ _)); refine blk_put (cs := #[.int .i64 t132, .int .i64 t133, .int .i64 t134, .int .i64 0]) ?_ 3 _ rfl; (with_reducible repeat (first | refine blk_drewN ?_ _ | refine blk_drew ?_ | refine blk_alloc ?_ _)); refine blk_put (cs := #[.int .i64 t132, .int .i64 t133, .int .i64 0, .int .i64 0]) ?_ 2 _ rfl; (with_reducible repeat (first | refine blk_drewN ?_ _ | refine blk_drew ?_ | refine blk_alloc ?_ _)); refine blk_put (cs := #[.int .i64 t132, .int .i64 0, .int .i64 0, .int .i64 0]) ?_ 1 _ rfl; (with_reducible repeat (first | refine blk_drewN ?_ _ | refine blk_drew ?_ | refine blk_alloc ?_ _)); refine blk_put (cs := #[.int .i64 0, .int .i64 0, .int .i64 0, .int .i64 0]) ?_ 0 _ rfl; (with_reducible repeat (first | refine blk_drewN ?_ _ | refine blk_drew ?_ | refine blk_alloc ?_ _)); exact BK136.out) hb); have n1_ := Aside0.mk (below_step (by repeat (first | (with_reducible first | exact HB.out | apply below_alloc | apply pw_below_drewN | apply below_drew1 | refine below_set ?_ GE136.out) | exact HB.out)) hb); clear BK136; clear HB; have BK136 := n0_; have HB := n1_; clear n0_ n1_; (try clear hb); (try clear hb2); (try clear hk); (try clear hi)) | (go_at_call 22; (with_reducible refine (geoderef03_Fits.calls k a2 t133 t138 _ A12.out).mono ?_); rintro e w15 ⟨rfl, hb⟩; have n0_ := Aside0.mk (blk_below (g := gb136) (o := .cells #[.int .i64 t132, .int .i64 t133, .int .i64 t134, .int .i64 t135] 39 (0, 0)) (by (with_reducible repeat (first | refine blk_drewN ?_ _ | refine blk_drew ?_ | refine blk_alloc ?_ _)); exact BK136.out) hb); have n1_ := Aside0.mk (below_step (by repeat (first | (with_reducible first | exact HB.out | apply below_alloc | apply pw_below_drewN | apply below_drew1 | refine below_set ?_ GE136.out) | exact HB.out)) hb); clear BK136; clear HB; have BK136 := n0_; have HB := n1_; clear n0_ n1_; (try clear hb); (try clear hb2); (try clear hk); (try clear hi)))
          go_meet
          case rel => exact ⟨_, (!t138), (by first | rfl | (simp; done) | (simp [*]; done)), H', ⟨by first | omega | exact Nat.le_refl _⟩, ⟨by (with_reducible repeat (first | refine blk_drewN ?_ _ | refine blk_drew ?_ | refine blk_alloc ?_ _)); exact BK136.out⟩, ⟨by repeat (first | (with_reducible first | exact HB.out | apply below_alloc | apply pw_below_drewN | apply below_drew1 | refine below_set ?_ GE136.out) | exact HB.out)⟩⟩
        · replace c11 := Bool.eq_false_iff.mpr c11
          subst c11
          have H1 : (geoderef03_Two.j0 k a1 a2 t133 true t132 t133 t134 t135) = some (r1, r2) := by rw [if_neg (show ¬ (false = true) by decide)] at H; exact H
          clear H
          have H := H1
          clear H1
          have H' := Aside0.mk H
          clear H
          have hcz16_0 : w7.cell? ⟨gb136, 0, none⟩ = some (.int .i64 0) := (blk_cell BK136.out 0).trans rfl
          have hcz16_1 : w7.cell? ⟨gb136, 1, none⟩ = some (.int .i64 0) := (blk_cell BK136.out 1).trans rfl
          have hcz16_2 : w7.cell? ⟨gb136, 2, none⟩ = some (.int .i64 0) := (blk_cell BK136.out 2).trans rfl
          have hcz16_3 : w7.cell? ⟨gb136, 3, none⟩ = some (.int .i64 0) := (blk_cell BK136.out 3).trans rfl
          have hfz16_0 := blk_frozen BK136.out 0
          have hfz16_1 := blk_frozen BK136.out 1
          have hfz16_2 := blk_frozen BK136.out 2
          have hfz16_3 := blk_frozen BK136.out 3
          go_wp2_with (first | (go_at_call 22; (with_reducible refine (geoderef03_Fits.calls k a1 t133 false _ A10.out).mono ?_); rintro e w17 ⟨rfl, hb⟩; have n0_ := Aside0.mk (blk_below (g := gb136) (o := .cells #[.int .i64 t132, .int .i64 t133, .int .i64 t134, .int .i64 t135] 39 (0, 0)) (by (with_reducible repeat (first | refine blk_drewN ?_ _ | refine blk_drew ?_ | refine blk_alloc ?_ _)); refine blk_put (cs := #[.int .i64 t132, .int .i64 t133, .int .i64 t134, .int .i64 0]) ?_ 3 _ rfl; (with_reducible repeat (first | refine blk_drewN ?_ _ | refine blk_drew ?_ | refine blk_alloc ?_ _)); refine blk_put (cs := #[.int .i64 t132, .int .i64 t133, .int .i64 0, .int .i64 0]) ?_ 2 _ rfl; (with_reducible repeat (first | refine blk_drewN ?_ _ | refine blk_drew ?_ | refine blk_alloc ?_ _)); refine blk_put (cs := #[.int .i64 t132, .int .i64 0, .int .i64 0, .int .i64 0]) ?_ 1 _ rfl; (with_reducible repeat (first | refine blk_drewN ?_ _ | refine blk_drew ?_ | refine blk_alloc ?_ _)); refine blk_put (cs := #[.int .i64 0, .int .i64 0, .int .i64 0, .int .i64 0]) ?_ 0 _ rfl; (with_reducible repeat (first | refine blk_drewN ?_ _ | refine blk_drew ?_ | refine blk_alloc ?_ _)); exact BK136.out) hb); have n1_ := Aside0.mk (below_step (by repeat (first | (with_reducible first | exact HB.out | apply below_alloc | apply pw_below_drewN | apply below_drew1 | refine below_set ?_ GE136.out) | exact HB.out)) hb); clear BK136; clear HB; have BK136 := n0_; have HB := n1_; clear n0_ n1_; (try clear hb); (try clear hb2); (try clear hk); (try clear hi)))
          go_meet
          case rel => exact ⟨_, (true), (by first | rfl | (simp; done) | (simp [*]; done)), H', ⟨by first | omega | exact Nat.le_refl _⟩, ⟨by (with_reducible repeat (first | refine blk_drewN ?_ _ | refine blk_drew ?_ | refine blk_alloc ?_ _)); exact BK136.out⟩, ⟨by repeat (first | (with_reducible first | exact HB.out | apply below_alloc | apply pw_below_drewN | apply below_drew1 | refine below_set ?_ GE136.out) | exact HB.out)⟩⟩
      · rw [if_neg c9] at H
        have c9b0 : (t135 == 2) = false := beq_eq_false_iff_ne.mpr c9
        have c9b1 : (t135 != 2) = true := bne_iff_ne.mpr c9
        (first | rw [c9b0] | (simp only [i64_w, i32_w]; rw [c9b0]) | skip)
        have H' := Aside0.mk H
        clear H
        have hcz18_0 : w7.cell? ⟨gb136, 0, none⟩ = some (.int .i64 0) := (blk_cell BK136.out 0).trans rfl
        have hcz18_1 : w7.cell? ⟨gb136, 1, none⟩ = some (.int .i64 0) := (blk_cell BK136.out 1).trans rfl
        have hcz18_2 : w7.cell? ⟨gb136, 2, none⟩ = some (.int .i64 0) := (blk_cell BK136.out 2).trans rfl
        have hcz18_3 : w7.cell? ⟨gb136, 3, none⟩ = some (.int .i64 0) := (blk_cell BK136.out 3).trans rfl
        have hfz18_0 := blk_frozen BK136.out 0
        have hfz18_1 := blk_frozen BK136.out 1
        have hfz18_2 := blk_frozen BK136.out 2
        have hfz18_3 := blk_frozen BK136.out 3
        go_wp2
        go_meet
        case rel => exact ⟨_, (true), (by first | rfl | (simp; done) | (simp [*]; done)), H', ⟨by first | omega | exact Nat.le_refl _⟩, ⟨by (with_reducible repeat (first | refine blk_drewN ?_ _ | refine blk_drew ?_ | refine blk_alloc ?_ _)); refine blk_put (cs := #[.int .i64 t132, .int .i64 t133, .int .i64 t134, .int .i64 0]) ?_ 3 _ rfl; (with_reducible repeat (first | refine blk_drewN ?_ _ | refine blk_drew ?_ | refine blk_alloc ?_ _)); refine blk_put (cs := #[.int .i64 t132, .int .i64 t133, .int .i64 0, .int .i64 0]) ?_ 2 _ rfl; (with_reducible repeat (first | refine blk_drewN ?_ _ | refine blk_drew ?_ | refine blk_alloc ?_ _)); refine blk_put (cs := #[.int .i64 t132, .int .i64 0, .int .i64 0, .int .i64 0]) ?_ 1 _ rfl; (with_reducible repeat (first | refine blk_drewN ?_ _ | refine blk_drew ?_ | refine blk_alloc ?_ _)); refine blk_put (cs := #[.int .i64 0, .int .i64 0, .int .i64 0, .int .i64 0]) ?_ 0 _ rfl; (with_reducible repeat (first | refine blk_drewN ?_ _ | refine blk_drew ?_ | refine blk_alloc ?_ _)); exact BK136.out⟩, ⟨by repeat (first | (with_reducible first | exact HB.out | apply below_alloc | apply pw_below_drewN | apply below_drew1 | refine below_set ?_ GE136.out) | exact HB.out)⟩⟩
  case rest =>
    as_aux_lemma =>
      clear HC5
      try clear c1
      try clear p2
      try clear c9
      try clear c9b0
      try clear c9b1
      try clear c11
      try clear hcz13_0
      try clear hcz13_1
      try clear hcz13_2
      try clear hcz13_3
      try clear hcz16_0
      try clear hcz16_1
      try clear hcz16_2
      try clear hcz16_3
      try clear hcz18_0
      try clear hcz18_1
      try clear hcz18_2
      try clear hcz18_3
      try clear hcz8_0
      try clear hcz8_1
      try clear hcz8_2
      try clear hcz8_3
      try clear hfz13_0
      try clear hfz13_1
      try clear hfz13_2
      try clear hfz13_3
      try clear hfz16_0
      try clear hfz16_1
      try clear hfz16_2
      try clear hfz16_3
      try clear hfz18_0
      try clear hfz18_1
      try clear hfz18_2
      try clear hfz18_3
      try clear hfz8_0
      try clear hfz8_1
      try clear hfz8_2
      try clear hfz8_3
      obtain ⟨kq, x36_4, rfl, HA, HJ4, BK136, HB⟩ := hcut
      cases kq with
      | zero => exact absurd HA.out (by simp [geoderef03_Two.j0])
      | succ kj4 =>
        have H := HA.out
        clear HA
        simp only [geoderef03_Two.j0] at H
        by_cases c19 : x36_4 = true
        · subst c19
          have H1 : (some (0, 2)) = some (r1, r2) := by rw [if_pos rfl] at H; exact H
          clear H
          have H := H1
          clear H1
          simp only [Option.some.injEq, Prod.mk.injEq] at H
          obtain ⟨rfl, rfl⟩ := H
          go_wp2
          go_ret2
          exact ⟨by first | rfl | (simp [errW_none, errW_some] <;> rfl) | (simp [*, errW_none, errW_some] <;> rfl), by repeat (first | (with_reducible first | exact HB.out | apply below_alloc | apply pw_below_drewN | apply below_drew1 | refine below_set ?_ GE136.out) | exact HB.out)⟩
        · replace c19 := Bool.eq_false_iff.mpr c19
          subst c19
          have H1 : (if t132 < 20 then ((geoderef03_asks.f kj4 t132 t133 a1 a2).bind fun t139 => ((geoderef03_yes.f t139).bind fun t140 => (some (t140, 0)))) else (if t132 ≥ 23 then (if t132 ≤ 26 then (geoderef03_Two.j1 kj4 a1 a2 t133 (a2 == 0) t132 t133 t134 t135) else (geoderef03_Two.j1 kj4 a1 a2 t133 false t132 t133 t134 t135)) else (geoderef03_Two.j1 kj4 a1 a2 t133 false t132 t133 t134 t135))) = some (r1, r2) := by rw [if_neg (show ¬ (false = true) by decide)] at H; exact H
          clear H
          have H := H1
          clear H1
          by_cases c20 : t132 < 20
          · rw [if_pos c20] at H
            have c20b0 : decide (t132 < 20) = true := decide_eq_true c20
            clear c20
            replace H := Option.bind_eq_some_iff.mp H
            obtain ⟨t139, A210, H⟩ := H
            replace H : ((geoderef03_yes.f t139).bind fun t140 => (some (t140, 0))) = some (r1, r2) := H
            have A21 := Aside0.mk A210
            clear A210
            replace H := Option.bind_eq_some_iff.mp H
            obtain ⟨t140, A220, H⟩ := H
            replace H : (some (t140, 0)) = some (r1, r2) := H
            have A22 := Aside0.mk A220
            clear A220
            simp only [Option.some.injEq, Prod.mk.injEq] at H
            obtain ⟨rfl, rfl⟩ := H
            have hcz23_0 : wc.cell? ⟨gb136, 0, none⟩ = some (.int .i64 t132) := (blk_cell BK136.out 0).trans rfl
            have hcz23_1 : wc.cell? ⟨gb136, 1, none⟩ = some (.int .i64 t133) := (blk_cell BK136.out 1).trans rfl
            have hcz23_2 : wc.cell? ⟨gb136, 2, none⟩ = some (.int .i64 t134) := (blk_cell BK136.out 2).trans rfl
            have hcz23_3 : wc.cell? ⟨gb136, 3, none⟩ = some (.int .i64 t135) := (blk_cell BK136.out 3).trans rfl
            have hfz23_0 := blk_frozen BK136.out 0
            have hfz23_1 := blk_frozen BK136.out 1
            have hfz23_2 := blk_frozen BK136.out 2
            have hfz23_3 := blk_frozen BK136.out 3
            go_wp2_with (first | ((with_reducible refine gate_callee (f := 24) rfl ?_); refine goesL_ (some 45) rfl rfl Tryd.func24 (by kernel_rfl) rfl #[.int .i64 t132, .int .i64 t133, .int .u64 a1, .int .u64 a2] rfl (by (try simp only [List.map_toArray, List.map_cons, List.map_nil]); first | done | rfl | (simp only [List.length_drop, List.length_take]; rfl)) ?_; (with_reducible refine (geoderef03_asks.calls kj4 t132 t133 a1 a2 t139 _ A21.out).mono ?_); rintro e w' ⟨rfl, ⟨nd, rfl⟩⟩; refine ⟨_, rfl, ?_⟩) | ((with_reducible refine gate_callee (f := 23) rfl ?_); refine goesL_ (some 46) rfl rfl Tryd.func23 (by kernel_rfl) rfl #[.bool t139] rfl (by (try simp only [List.map_toArray, List.map_cons, List.map_nil]); first | done | rfl | (simp only [List.length_drop, List.length_take]; rfl)) ?_; (with_reducible refine (geoderef03_yes.calls t139 t140 _ A22.out).mono ?_); rintro e w' ⟨rfl, ⟨nd, rfl⟩⟩; refine ⟨_, rfl, ?_⟩))
            go_ret2
            exact ⟨by first | rfl | (simp [errW_none, errW_some] <;> rfl) | (simp [*, errW_none, errW_some] <;> rfl), by repeat (first | (with_reducible first | exact HB.out | apply below_alloc | apply pw_below_drewN | apply below_drew1 | refine below_set ?_ GE136.out) | exact HB.out)⟩
          · rw [if_neg c20] at H
            have c20b0 : decide (t132 < 20) = false := decide_eq_false c20
            clear c20
            have HC24 := Aside0.mk H
            clear H
            have hcz25_0 : wc.cell? ⟨gb136, 0, none⟩ = some (.int .i64 t132) := (blk_cell BK136.out 0).trans rfl
            have hcz25_1 : wc.cell? ⟨gb136, 1, none⟩ = some (.int .i64 t133) := (blk_cell BK136.out 1).trans rfl
            have hcz25_2 : wc.cell? ⟨gb136, 2, none⟩ = some (.int .i64 t134) := (blk_cell BK136.out 2).trans rfl
            have hcz25_3 : wc.cell? ⟨gb136, 3, none⟩ = some (.int .i64 t135) := (blk_cell BK136.out 3).trans rfl
            have hfz25_0 := blk_frozen BK136.out 0
            have hfz25_1 := blk_frozen BK136.out 1
            have hfz25_2 := blk_frozen BK136.out 2
            have hfz25_3 := blk_frozen BK136.out 3
            go_upto_region 7 with (fail)
            go_cut [58] (fun v58 wc => ∃ (kq : Nat) (x58_23 : Bool), v58 = .bool x58_23 ∧ Aside0 (geoderef03_Two.j1 kq a1 a2 t133 x58_23 t132 t133 t134 t135 = some (r1, r2)) ∧ Aside0 (kq ≤ kj4) ∧ Aside0 (wc.heap[gb136]? = some (.cells #[.int .i64 t132, .int .i64 t133, .int .i64 t134, .int .i64 t135] 39 (0, 0))) ∧ Aside0 (Below w.heap.size w wc))
            case first =>
              as_aux_lemma =>
                have H := HC24.out
                clear HC24
                by_cases c26 : t132 ≥ 23
                · rw [if_pos c26] at H
                  have c26b0 : decide (23 ≤ t132) = true := decide_eq_true c26
                  clear c26
                  (first | rw [c26b0] | (simp only [i64_w, i32_w]; rw [c26b0]) | skip)
                  by_cases c27 : t132 ≤ 26
                  · rw [if_pos c27] at H
                    have c27b0 : decide (t132 ≤ 26) = true := decide_eq_true c27
                    clear c27
                    have H' := Aside0.mk H
                    clear H
                    have hcz28_0 : wc.cell? ⟨gb136, 0, none⟩ = some (.int .i64 t132) := (blk_cell BK136.out 0).trans rfl
                    have hcz28_1 : wc.cell? ⟨gb136, 1, none⟩ = some (.int .i64 t133) := (blk_cell BK136.out 1).trans rfl
                    have hcz28_2 : wc.cell? ⟨gb136, 2, none⟩ = some (.int .i64 t134) := (blk_cell BK136.out 2).trans rfl
                    have hcz28_3 : wc.cell? ⟨gb136, 3, none⟩ = some (.int .i64 t135) := (blk_cell BK136.out 3).trans rfl
                    have hfz28_0 := blk_frozen BK136.out 0
                    have hfz28_1 := blk_frozen BK136.out 1
                    have hfz28_2 := blk_frozen BK136.out 2
                    have hfz28_3 := blk_frozen BK136.out 3
                    go_wp2
                    go_meet
                    case rel => exact ⟨_, ((a2 == 0)), (by first | rfl | (simp; done) | (simp [*]; done)), H', ⟨by have := HJ4.out; first | omega | exact Nat.le_refl _⟩, ⟨by (with_reducible repeat (first | refine blk_drewN ?_ _ | refine blk_drew ?_ | refine blk_alloc ?_ _)); exact BK136.out⟩, ⟨by repeat (first | (with_reducible first | exact HB.out | apply below_alloc | apply pw_below_drewN | apply below_drew1 | refine below_set ?_ GE136.out) | exact HB.out)⟩⟩
                  · rw [if_neg c27] at H
                    have c27b0 : decide (t132 ≤ 26) = false := decide_eq_false c27
                    clear c27
                    have H' := Aside0.mk H
                    clear H
                    have hcz29_0 : wc.cell? ⟨gb136, 0, none⟩ = some (.int .i64 t132) := (blk_cell BK136.out 0).trans rfl
                    have hcz29_1 : wc.cell? ⟨gb136, 1, none⟩ = some (.int .i64 t133) := (blk_cell BK136.out 1).trans rfl
                    have hcz29_2 : wc.cell? ⟨gb136, 2, none⟩ = some (.int .i64 t134) := (blk_cell BK136.out 2).trans rfl
                    have hcz29_3 : wc.cell? ⟨gb136, 3, none⟩ = some (.int .i64 t135) := (blk_cell BK136.out 3).trans rfl
                    have hfz29_0 := blk_frozen BK136.out 0
                    have hfz29_1 := blk_frozen BK136.out 1
                    have hfz29_2 := blk_frozen BK136.out 2
                    have hfz29_3 := blk_frozen BK136.out 3
                    go_wp2
                    go_meet
                    case rel => exact ⟨_, (false), (by first | rfl | (simp; done) | (simp [*]; done)), H', ⟨by have := HJ4.out; first | omega | exact Nat.le_refl _⟩, ⟨by (with_reducible repeat (first | refine blk_drewN ?_ _ | refine blk_drew ?_ | refine blk_alloc ?_ _)); exact BK136.out⟩, ⟨by repeat (first | (with_reducible first | exact HB.out | apply below_alloc | apply pw_below_drewN | apply below_drew1 | refine below_set ?_ GE136.out) | exact HB.out)⟩⟩
                · rw [if_neg c26] at H
                  have c26b0 : decide (23 ≤ t132) = false := decide_eq_false c26
                  clear c26
                  (first | rw [c26b0] | (simp only [i64_w, i32_w]; rw [c26b0]) | skip)
                  have H' := Aside0.mk H
                  clear H
                  have hcz30_0 : wc.cell? ⟨gb136, 0, none⟩ = some (.int .i64 t132) := (blk_cell BK136.out 0).trans rfl
                  have hcz30_1 : wc.cell? ⟨gb136, 1, none⟩ = some (.int .i64 t133) := (blk_cell BK136.out 1).trans rfl
                  have hcz30_2 : wc.cell? ⟨gb136, 2, none⟩ = some (.int .i64 t134) := (blk_cell BK136.out 2).trans rfl
                  have hcz30_3 : wc.cell? ⟨gb136, 3, none⟩ = some (.int .i64 t135) := (blk_cell BK136.out 3).trans rfl
                  have hfz30_0 := blk_frozen BK136.out 0
                  have hfz30_1 := blk_frozen BK136.out 1
                  have hfz30_2 := blk_frozen BK136.out 2
                  have hfz30_3 := blk_frozen BK136.out 3
                  go_wp2
                  go_meet
                  case rel => exact ⟨_, (false), (by first | rfl | (simp; done) | (simp [*]; done)), H', ⟨by have := HJ4.out; first | omega | exact Nat.le_refl _⟩, ⟨by (with_reducible repeat (first | refine blk_drewN ?_ _ | refine blk_drew ?_ | refine blk_alloc ?_ _)); exact BK136.out⟩, ⟨by repeat (first | (with_reducible first | exact HB.out | apply below_alloc | apply pw_below_drewN | apply below_drew1 | refine below_set ?_ GE136.out) | exact HB.out)⟩⟩
            case rest =>
              as_aux_lemma =>
                clear HC24
                try clear c1
                try clear c2
                try clear p2
                try clear c9
                try clear c9b0
                try clear c9b1
                try clear c11
                try clear c19
                try clear c20
                try clear c20b0
                try clear c23
                try clear c24
                try clear c26
                try clear c26b0
                try clear c27
                try clear c27b0
                try clear hcz13_0
                try clear hcz13_1
                try clear hcz13_2
                try clear hcz13_3
                try clear hcz16_0
                try clear hcz16_1
                try clear hcz16_2
                try clear hcz16_3
                try clear hcz18_0
                try clear hcz18_1
                try clear hcz18_2
                try clear hcz18_3
                try clear hcz23_0
                try clear hcz23_1
                try clear hcz23_2
                try clear hcz23_3
                try clear hcz25_0
                try clear hcz25_1
                try clear hcz25_2
                try clear hcz25_3
                try clear hcz28_0
                try clear hcz28_1
                try clear hcz28_2
                try clear hcz28_3
                try clear hcz29_0
                try clear hcz29_1
                try clear hcz29_2
                try clear hcz29_3
                try clear hcz30_0
                try clear hcz30_1
                try clear hcz30_2
                try clear hcz30_3
                try clear hcz8_0
                try clear hcz8_1
                try clear hcz8_2
                try clear hcz8_3
                try clear hfz13_0
                try clear hfz13_1
                try clear hfz13_2
                try clear hfz13_3
                try clear hfz16_0
                try clear hfz16_1
                try clear hfz16_2
                try clear hfz16_3
                try clear hfz18_0
                try clear hfz18_1
                try clear hfz18_2
                try clear hfz18_3
                try clear hfz23_0
                try clear hfz23_1
                try clear hfz23_2
                try clear hfz23_3
                try clear hfz25_0
                try clear hfz25_1
                try clear hfz25_2
                try clear hfz25_3
                try clear hfz28_0
                try clear hfz28_1
                try clear hfz28_2
                try clear hfz28_3
                try clear hfz29_0
                try clear hfz29_1
                try clear hfz29_2
                try clear hfz29_3
                try clear hfz30_0
                try clear hfz30_1
                try clear hfz30_2
                try clear hfz30_3
                try clear hfz8_0
                try clear hfz8_1
                try clear hfz8_2
                try clear hfz8_3
                try clear p2
                obtain ⟨kq, x58_23, rfl, HA, HJ23, BK136, HB⟩ := hcut
                cases kq with
                | zero => exact absurd HA.out (by simp [geoderef03_Two.j1])
                | succ kj23 =>
                  have H := HA.out
                  clear HA
                  simp only [geoderef03_Two.j1] at H
                  by_cases c31 : x58_23 = true
                  · subst c31
                    have H1 : (some (0, 30)) = some (r1, r2) := by rw [if_pos rfl] at H; exact H
                    clear H
                    have H := H1
                    clear H1
                    simp only [Option.some.injEq, Prod.mk.injEq] at H
                    obtain ⟨rfl, rfl⟩ := H
                    go_wp2
                    go_ret2
                    exact ⟨by first | rfl | (simp [errW_none, errW_some] <;> rfl) | (simp [*, errW_none, errW_some] <;> rfl), by repeat (first | (with_reducible first | exact HB.out | apply below_alloc | apply pw_below_drewN | apply below_drew1 | refine below_set ?_ GE136.out) | exact HB.out)⟩
                  · replace c31 := Bool.eq_false_iff.mpr c31
                    subst c31
                    have H1 : ((geoderef03_Bits.f kj23 a1 t133).bind fun t141 => ((geoderef03_Bits.f kj23 a2 t133).bind fun t144 => (if (IntKind.u64.wrap (t133)) = 0 then (none) else (if 0 ≤ t133 then (if (t133 : Int).toNat ≤ 35184372088832 then ((some (List.replicate (t133 : Int).toNat 0 : List Int)).bind fun y147 => (if t132 = 20 then ((geoderef03_cut.f kj23 (IntKind.u64.wrap (a1 + a2)) t133).bind fun t150 => (some (t150, 0))) else (if t132 = 21 then ((geoderef03_cut.f kj23 (IntKind.u64.wrap (a1 - a2)) t133).bind fun t151 => (some (t151, 0))) else (if t132 = 22 then ((geoderef03_cut.f kj23 (IntKind.u64.wrap (a1 * a2)) t133).bind fun t152 => (some (t152, 0))) else (if t132 = 23 then (geoderef03_Two.j2 kj23 a1 a2 t133 t141 t144 (wrap64 (Int.tmod a2 (IntKind.u64.wrap (t133)))) y147 t132 (t132 == 23) t132 t133 t134 t135) else (geoderef03_Two.j2 kj23 a1 a2 t133 t141 t144 (wrap64 (Int.tmod a2 (IntKind.u64.wrap (t133)))) y147 t132 (t132 == 25) t132 t133 t134 t135)))))) else (none)) else (none))))) = some (r1, r2) := by rw [if_neg (show ¬ (false = true) by decide)] at H; exact H
                    clear H
                    have H := H1
                    clear H1
                    replace H := Option.bind_eq_some_iff.mp H
                    obtain ⟨t141, A320, H⟩ := H
                    replace H : ((geoderef03_Bits.f kj23 a2 t133).bind fun t144 => (if (IntKind.u64.wrap (t133)) = 0 then (none) else (if 0 ≤ t133 then (if (t133 : Int).toNat ≤ 35184372088832 then ((some (List.replicate (t133 : Int).toNat 0 : List Int)).bind fun y147 => (if t132 = 20 then ((geoderef03_cut.f kj23 (IntKind.u64.wrap (a1 + a2)) t133).bind fun t150 => (some (t150, 0))) else (if t132 = 21 then ((geoderef03_cut.f kj23 (IntKind.u64.wrap (a1 - a2)) t133).bind fun t151 => (some (t151, 0))) else (if t132 = 22 then ((geoderef03_cut.f kj23 (IntKind.u64.wrap (a1 * a2)) t133).bind fun t152 => (some (t152, 0))) else (if t132 = 23 then (geoderef03_Two.j2 kj23 a1 a2 t133 t141 t144 (wrap64 (Int.tmod a2 (IntKind.u64.wrap (t133)))) y147 t132 (t132 == 23) t132 t133 t134 t135) else (geoderef03_Two.j2 kj23 a1 a2 t133 t141 t144 (wrap64 (Int.tmod a2 (IntKind.u64.wrap (t133)))) y147 t132 (t132 == 25) t132 t133 t134 t135)))))) else (none)) else (none)))) = some (r1, r2) := H
                    have A32 := Aside0.mk A320
                    clear A320
                    replace H := Option.bind_eq_some_iff.mp H
                    obtain ⟨t144, A330, H⟩ := H
                    replace H : (if (IntKind.u64.wrap (t133)) = 0 then (none) else (if 0 ≤ t133 then (if (t133 : Int).toNat ≤ 35184372088832 then ((some (List.replicate (t133 : Int).toNat 0 : List Int)).bind fun y147 => (if t132 = 20 then ((geoderef03_cut.f kj23 (IntKind.u64.wrap (a1 + a2)) t133).bind fun t150 => (some (t150, 0))) else (if t132 = 21 then ((geoderef03_cut.f kj23 (IntKind.u64.wrap (a1 - a2)) t133).bind fun t151 => (some (t151, 0))) else (if t132 = 22 then ((geoderef03_cut.f kj23 (IntKind.u64.wrap (a1 * a2)) t133).bind fun t152 => (some (t152, 0))) else (if t132 = 23 then (geoderef03_Two.j2 kj23 a1 a2 t133 t141 t144 (wrap64 (Int.tmod a2 (IntKind.u64.wrap (t133)))) y147 t132 (t132 == 23) t132 t133 t134 t135) else (geoderef03_Two.j2 kj23 a1 a2 t133 t141 t144 (wrap64 (Int.tmod a2 (IntKind.u64.wrap (t133)))) y147 t132 (t132 == 25) t132 t133 t134 t135)))))) else (none)) else (none))) = some (r1, r2) := H
                    have A33 := Aside0.mk A330
                    clear A330
                    by_cases c34 : (IntKind.u64.wrap (t133)) = 0
                    · rw [if_pos c34] at H
                      exact absurd H (by simp)
                    · rw [if_neg c34] at H
                      have c34b0 : ((IntKind.u64.wrap (t133)) == 0) = false := beq_eq_false_iff_ne.mpr c34
                      have c34b1 : ((IntKind.u64.wrap (t133)) != 0) = true := bne_iff_ne.mpr c34
                      by_cases c35 : 0 ≤ t133
                      · rw [if_pos c35] at H
                        have c35b0 := eq_true c35
                        have c35b1 : decide (0 ≤ t133) = true := decide_eq_true c35
                        clear c35
                        by_cases c36 : (t133 : Int).toNat ≤ 35184372088832
                        · rw [if_pos c36] at H
                          have c36b0 := eq_true c36
                          have c36b1 : decide ((t133 : Int).toNat ≤ 35184372088832) = true := decide_eq_true c36
                          clear c36
                          obtain ⟨y147, hy147⟩ : ∃ y_ : List Int, y_ = (List.replicate (t133 : Int).toNat 0) := ⟨_, rfl⟩
                          replace H : (if t132 = 20 then ((geoderef03_cut.f kj23 (IntKind.u64.wrap (a1 + a2)) t133).bind fun t150 => (some (t150, 0))) else (if t132 = 21 then ((geoderef03_cut.f kj23 (IntKind.u64.wrap (a1 - a2)) t133).bind fun t151 => (some (t151, 0))) else (if t132 = 22 then ((geoderef03_cut.f kj23 (IntKind.u64.wrap (a1 * a2)) t133).bind fun t152 => (some (t152, 0))) else (if t132 = 23 then (geoderef03_Two.j2 kj23 a1 a2 t133 t141 t144 (wrap64 (Int.tmod a2 (IntKind.u64.wrap (t133)))) y147 t132 (t132 == 23) t132 t133 t134 t135) else (geoderef03_Two.j2 kj23 a1 a2 t133 t141 t144 (wrap64 (Int.tmod a2 (IntKind.u64.wrap (t133)))) y147 t132 (t132 == 25) t132 t133 t134 t135))))) = some (r1, r2) := by first | (rw [hy147]; with_reducible exact H) | (have H2_ := (Option.bind_some _ _).symm.trans H; rw [hy147]; with_reducible exact H2_) | (have H2_ := (Option.bind_some _ _).symm.trans H; with_reducible exact H2_) | with_reducible exact H | (rw [hy147]; exact H) | exact H
                          have Ny147 := Aside0.mk hy147
                          clear hy147
                          by_cases c37 : t132 = 20
                          · rw [if_pos c37] at H
                            have c37b0 : (t132 == 20) = true := beq_iff_eq.mpr c37
                            have c37b1 : (t132 != 20) = false := bne_eq_false_iff_eq.mpr c37
                            clear c37
                            replace H := Option.bind_eq_some_iff.mp H
                            obtain ⟨t150, A380, H⟩ := H
                            replace H : (some (t150, 0)) = some (r1, r2) := H
                            have A38 := Aside0.mk A380
                            clear A380
                            simp only [Option.some.injEq, Prod.mk.injEq] at H
                            obtain ⟨rfl, rfl⟩ := H
                            go_wp2_with (first | ((with_reducible refine gate_callee (f := 25) rfl ?_); refine goesL_ (some 61) rfl rfl Tryd.func25 (by kernel_rfl) rfl #[.int .u64 a1, .int .i64 t133] rfl (by (try simp only [List.map_toArray, List.map_cons, List.map_nil]); first | done | rfl | (simp only [List.length_drop, List.length_take]; rfl)) ?_; (with_reducible refine (geoderef03_Bits.calls kj23 a1 t133 t141 _ A32.out).mono ?_); rintro e w39 ⟨v142, rfl, ho0, hb⟩; refine ⟨_, rfl, ?_⟩; have n0_ := Aside0.mk (Kd.R_lower ho0 (below_size (by repeat (first | (with_reducible first | exact HB.out | apply below_alloc | apply pw_below_drewN | apply below_drew1 | refine below_set ?_ GE136.out) | exact HB.out)))); have n1_ := Aside0.mk (blk_below (g := gb136) (o := .cells #[.int .i64 t132, .int .i64 t133, .int .i64 t134, .int .i64 t135] 39 (0, 0)) (by (with_reducible repeat (first | refine blk_drewN ?_ _ | refine blk_drew ?_ | refine blk_alloc ?_ _)); exact BK136.out) hb); have n2_ := Aside0.mk (below_step (by repeat (first | (with_reducible first | exact HB.out | apply below_alloc | apply pw_below_drewN | apply below_drew1 | refine below_set ?_ GE136.out) | exact HB.out)) hb); clear BK136; clear HB; have HO143 := n0_; have BK136 := n1_; have HB := n2_; clear n0_ n1_ n2_; (try clear hb); (try clear hb2); (try clear hk); (try clear hi); (try clear ho0)) | ((with_reducible refine gate_callee (f := 25) rfl ?_); refine goesL_ (some 64) rfl rfl Tryd.func25 (by kernel_rfl) rfl #[.int .u64 a2, .int .i64 t133] rfl (by (try simp only [List.map_toArray, List.map_cons, List.map_nil]); first | done | rfl | (simp only [List.length_drop, List.length_take]; rfl)) ?_; (with_reducible refine (geoderef03_Bits.calls kj23 a2 t133 t144 _ A33.out).mono ?_); rintro e w40 ⟨v145, rfl, ho0, hb⟩; refine ⟨_, rfl, ?_⟩; have n0_ := Aside0.mk (Kd.R_elder' (by (with_reducible repeat (first | apply Kd.R_alloc | apply Kd.R_drewN | apply Kd.R_drew)); exact HO143.out) (Kd.R_base ho0) hb); have n1_ := Aside0.mk (Kd.R_lower (Kd.R_new' ho0 (Kd.R_lt (by (with_reducible repeat (first | apply Kd.R_alloc | apply Kd.R_drewN | apply Kd.R_drew)); exact HO143.out))) (below_size (by repeat (first | (with_reducible first | exact HB.out | apply below_alloc | apply pw_below_drewN | apply below_drew1 | refine below_set ?_ GE136.out) | exact HB.out)))); have n2_ := Aside0.mk (blk_below (g := gb136) (o := .cells #[.int .i64 t132, .int .i64 t133, .int .i64 t134, .int .i64 t135] 39 (0, 0)) (by (with_reducible repeat (first | refine blk_drewN ?_ _ | refine blk_drew ?_ | refine blk_alloc ?_ _)); exact BK136.out) hb); have n3_ := Aside0.mk (below_step (by repeat (first | (with_reducible first | exact HB.out | apply below_alloc | apply pw_below_drewN | apply below_drew1 | refine below_set ?_ GE136.out) | exact HB.out)) hb); clear HO143; clear BK136; clear HB; have HO143 := n0_; have HO146 := n1_; have BK136 := n2_; have HB := n3_; clear n0_ n1_ n2_ n3_; (try clear hb); (try clear hb2); (try clear hk); (try clear hi); (try clear ho0)) | ((with_reducible refine gate_dst (N := 71) rfl ?_); refine Kd.R_make (Kd.int .i64) _ 3 rfl (N := 71) rfl 53 _ _ rfl t133 rfl rfl Tryd.underlying53 (.int .i64 0) 8 info3 rfl (by decide) (by omega) 0 (ok := fun _ => True) (okp := fun _ => True) rfl (fun _ hk => hk) trivial (of_decide_eq_true (by first | (with_reducible assumption) | assumption)) (Nat.le_trans (Nat.mul_le_mul_right _ (of_decide_eq_true (by first | (with_reducible assumption) | assumption) : t133.toNat ≤ 35184372088832)) (by omega)) (Below.refl _ _) (Nat.le_refl _) ?_; intro v148 w41 ho42 hb hg_ hnew_; clear hg_ hnew_; (first | rw [← Ny147.out] at ho42 | (simp only [Int.reduceToNat] at ho42; rw [← Ny147.out] at ho42)); have n0_ := Aside0.mk (Kd.R_elder' (by (with_reducible repeat (first | apply Kd.R_alloc | apply Kd.R_drewN | apply Kd.R_drew)); exact HO143.out) (Kd.R_base ho42) hb); have n1_ := Aside0.mk (Kd.R_elder' (by (with_reducible repeat (first | apply Kd.R_alloc | apply Kd.R_drewN | apply Kd.R_drew)); exact HO146.out) (Kd.R_base ho42) hb); have n2_ := Aside0.mk (Kd.R_lower (Kd.R_new' (Kd.R_new' ho42 (Kd.R_lt (by (with_reducible repeat (first | apply Kd.R_alloc | apply Kd.R_drewN | apply Kd.R_drew)); exact HO143.out))) (Kd.R_lt (by (with_reducible repeat (first | apply Kd.R_alloc | apply Kd.R_drewN | apply Kd.R_drew)); exact HO146.out))) (below_size (by repeat (first | (with_reducible first | exact HB.out | apply below_alloc | apply pw_below_drewN | apply below_drew1 | refine below_set ?_ GE136.out) | exact HB.out)))); have n3_ := Aside0.mk (blk_below (g := gb136) (o := .cells #[.int .i64 t132, .int .i64 t133, .int .i64 t134, .int .i64 t135] 39 (0, 0)) (by (with_reducible repeat (first | refine blk_drewN ?_ _ | refine blk_drew ?_ | refine blk_alloc ?_ _)); exact BK136.out) hb); have n4_ := Aside0.mk (below_step (by repeat (first | (with_reducible first | exact HB.out | apply below_alloc | apply pw_below_drewN | apply below_drew1 | refine below_set ?_ GE136.out) | exact HB.out)) hb); clear HO143; clear HO146; clear BK136; clear HB; have HO143 := n0_; have HO146 := n1_; have HO149 := n2_; have BK136 := n3_; have HB := n4_; clear n0_ n1_ n2_ n3_ n4_; clear hb ho42; have hcz43_0 : w41.cell? ⟨gb136, 0, none⟩ = some (.int .i64 t132) := (blk_cell BK136.out 0).trans rfl; have hcz43_1 : w41.cell? ⟨gb136, 1, none⟩ = some (.int .i64 t133) := (blk_cell BK136.out 1).trans rfl; have hcz43_2 : w41.cell? ⟨gb136, 2, none⟩ = some (.int .i64 t134) := (blk_cell BK136.out 2).trans rfl; have hcz43_3 : w41.cell? ⟨gb136, 3, none⟩ = some (.int .i64 t135) := (blk_cell BK136.out 3).trans rfl; have hfz43_0 := blk_frozen BK136.out 0; have hfz43_1 := blk_frozen BK136.out 1; have hfz43_2 := blk_frozen BK136.out 2; have hfz43_3 := blk_frozen BK136.out 3) | ((with_reducible refine gate_callee (f := 26) rfl ?_); refine goesL_ (some 80) rfl rfl Tryd.func26 (by kernel_rfl) rfl #[.int .u64 (IntKind.u64.wrap (a1 + a2)), .int .i64 t133] rfl (by (try simp only [List.map_toArray, List.map_cons, List.map_nil]); first | done | rfl | (simp only [List.length_drop, List.length_take]; rfl)) ?_; (with_reducible refine (geoderef03_cut.calls kj23 (IntKind.u64.wrap (a1 + a2)) t133 t150 _ A38.out).mono ?_); rintro e w44 ⟨rfl, hb⟩; refine ⟨_, rfl, ?_⟩; have n0_ := Aside0.mk (Kd.R_below (by (with_reducible repeat (first | apply Kd.R_alloc | apply Kd.R_drewN | apply Kd.R_drew)); exact HO143.out) hb); have n1_ := Aside0.mk (Kd.R_below (by (with_reducible repeat (first | apply Kd.R_alloc | apply Kd.R_drewN | apply Kd.R_drew)); exact HO146.out) hb); have n2_ := Aside0.mk (Kd.R_below (by (with_reducible repeat (first | apply Kd.R_alloc | apply Kd.R_drewN | apply Kd.R_drew)); exact HO149.out) hb); have n3_ := Aside0.mk (blk_below (g := gb136) (o := .cells #[.int .i64 t132, .int .i64 t133, .int .i64 t134, .int .i64 t135] 39 (0, 0)) (by (with_reducible repeat (first | refine blk_drewN ?_ _ | refine blk_drew ?_ | refine blk_alloc ?_ _)); exact BK136.out) hb); have n4_ := Aside0.mk (below_step (by repeat (first | (with_reducible first | exact HB.out | apply below_alloc | apply pw_below_drewN | apply below_drew1 | refine below_set ?_ GE136.out) | exact HB.out)) hb); clear HO143; clear HO146; clear HO149; clear BK136; clear HB; have HO143 := n0_; have HO146 := n1_; have HO149 := n2_; have BK136 := n3_; have HB := n4_; clear n0_ n1_ n2_ n3_ n4_; (try clear hb); (try clear hb2); (try clear hk); (try clear hi)))
                            go_ret2
                            exact ⟨by first | rfl | (simp [errW_none, errW_some] <;> rfl) | (simp [*, errW_none, errW_some] <;> rfl), by repeat (first | (with_reducible first | exact HB.out | apply below_alloc | apply pw_below_drewN | apply below_drew1 | refine below_set ?_ GE136.out) | exact HB.out)⟩
                          · rw [if_neg c37] at H
                            have c37b0 : (t132 == 20) = false := beq_eq_false_iff_ne.mpr c37
                            have c37b1 : (t132 != 20) = true := bne_iff_ne.mpr c37
                            by_cases c45 : t132 = 21
                            · rw [if_pos c45] at H
                              have c45b0 : (t132 == 21) = true := beq_iff_eq.mpr c45
                              have c45b1 : (t132 != 21) = false := bne_eq_false_iff_eq.mpr c45
                              clear c45
                              replace H := Option.bind_eq_some_iff.mp H
                              obtain ⟨t151, A460, H⟩ := H
                              replace H : (some (t151, 0)) = some (r1, r2) := H
                              have A46 := Aside0.mk A460
                              clear A460
                              simp only [Option.some.injEq, Prod.mk.injEq] at H
                              obtain ⟨rfl, rfl⟩ := H
                              go_wp2_with (first | ((with_reducible refine gate_callee (f := 25) rfl ?_); refine goesL_ (some 61) rfl rfl Tryd.func25 (by kernel_rfl) rfl #[.int .u64 a1, .int .i64 t133] rfl (by (try simp only [List.map_toArray, List.map_cons, List.map_nil]); first | done | rfl | (simp only [List.length_drop, List.length_take]; rfl)) ?_; (with_reducible refine (geoderef03_Bits.calls kj23 a1 t133 t141 _ A32.out).mono ?_); rintro e w47 ⟨v142, rfl, ho0, hb⟩; refine ⟨_, rfl, ?_⟩; have n0_ := Aside0.mk (Kd.R_lower ho0 (below_size (by repeat (first | (with_reducible first | exact HB.out | apply below_alloc | apply pw_below_drewN | apply below_drew1 | refine below_set ?_ GE136.out) | exact HB.out)))); have n1_ := Aside0.mk (blk_below (g := gb136) (o := .cells #[.int .i64 t132, .int .i64 t133, .int .i64 t134, .int .i64 t135] 39 (0, 0)) (by (with_reducible repeat (first | refine blk_drewN ?_ _ | refine blk_drew ?_ | refine blk_alloc ?_ _)); exact BK136.out) hb); have n2_ := Aside0.mk (below_step (by repeat (first | (with_reducible first | exact HB.out | apply below_alloc | apply pw_below_drewN | apply below_drew1 | refine below_set ?_ GE136.out) | exact HB.out)) hb); clear BK136; clear HB; have HO143 := n0_; have BK136 := n1_; have HB := n2_; clear n0_ n1_ n2_; (try clear hb); (try clear hb2); (try clear hk); (try clear hi); (try clear ho0)) | ((with_reducible refine gate_callee (f := 25) rfl ?_); refine goesL_ (some 64) rfl rfl Tryd.func25 (by kernel_rfl) rfl #[.int .u64 a2, .int .i64 t133] rfl (by (try simp only [List.map_toArray, List.map_cons, List.map_nil]); first | done | rfl | (simp only [List.length_drop, List.length_take]; rfl)) ?_; (with_reducible refine (geoderef03_Bits.calls kj23 a2 t133 t144 _ A33.out).mono ?_); rintro e w48 ⟨v145, rfl, ho0, hb⟩; refine ⟨_, rfl, ?_⟩; have n0_ := Aside0.mk (Kd.R_elder' (by (with_reducible repeat (first | apply Kd.R_alloc | apply Kd.R_drewN | apply Kd.R_drew)); exact HO143.out) (Kd.R_base ho0) hb); have n1_ := Aside0.mk (Kd.R_lower (Kd.R_new' ho0 (Kd.R_lt (by (with_reducible repeat (first | apply Kd.R_alloc | apply Kd.R_drewN | apply Kd.R_drew)); exact HO143.out))) (below_size (by repeat (first | (with_reducible first | exact HB.out | apply below_alloc | apply pw_below_drewN | apply below_drew1 | refine below_set ?_ GE136.out) | exact HB.out)))); have n2_ := Aside0.mk (blk_below (g := gb136) (o := .cells #[.int .i64 t132, .int .i64 t133, .int .i64 t134, .int .i64 t135] 39 (0, 0)) (by (with_reducible repeat (first | refine blk_drewN ?_ _ | refine blk_drew ?_ | refine blk_alloc ?_ _)); exact BK136.out) hb); have n3_ := Aside0.mk (below_step (by repeat (first | (with_reducible first | exact HB.out | apply below_alloc | apply pw_below_drewN | apply below_drew1 | refine below_set ?_ GE136.out) | exact HB.out)) hb); clear HO143; clear BK136; clear HB; have HO143 := n0_; have HO146 := n1_; have BK136 := n2_; have HB := n3_; clear n0_ n1_ n2_ n3_; (try clear hb); (try clear hb2); (try clear hk); (try clear hi); (try clear ho0)) | ((with_reducible refine gate_dst (N := 71) rfl ?_); refine Kd.R_make (Kd.int .i64) _ 3 rfl (N := 71) rfl 53 _ _ rfl t133 rfl rfl Tryd.underlying53 (.int .i64 0) 8 info3 rfl (by decide) (by omega) 0 (ok := fun _ => True) (okp := fun _ => True) rfl (fun _ hk => hk) trivial (of_decide_eq_true (by first | (with_reducible assumption) | assumption)) (Nat.le_trans (Nat.mul_le_mul_right _ (of_decide_eq_true (by first | (with_reducible assumption) | assumption) : t133.toNat ≤ 35184372088832)) (by omega)) (Below.refl _ _) (Nat.le_refl _) ?_; intro v148 w49 ho50 hb hg_ hnew_; clear hg_ hnew_; (first | rw [← Ny147.out] at ho50 | (simp only [Int.reduceToNat] at ho50; rw [← Ny147.out] at ho50)); have n0_ := Aside0.mk (Kd.R_elder' (by (with_reducible repeat (first | apply Kd.R_alloc | apply Kd.R_drewN | apply Kd.R_drew)); exact HO143.out) (Kd.R_base ho50) hb); have n1_ := Aside0.mk (Kd.R_elder' (by (with_reducible repeat (first | apply Kd.R_alloc | apply Kd.R_drewN | apply Kd.R_drew)); exact HO146.out) (Kd.R_base ho50) hb); have n2_ := Aside0.mk (Kd.R_lower (Kd.R_new' (Kd.R_new' ho50 (Kd.R_lt (by (with_reducible repeat (first | apply Kd.R_alloc | apply Kd.R_drewN | apply Kd.R_drew)); exact HO143.out))) (Kd.R_lt (by (with_reducible repeat (first | apply Kd.R_alloc | apply Kd.R_drewN | apply Kd.R_drew)); exact HO146.out))) (below_size (by repeat (first | (with_reducible first | exact HB.out | apply below_alloc | apply pw_below_drewN | apply below_drew1 | refine below_set ?_ GE136.out) | exact HB.out)))); have n3_ := Aside0.mk (blk_below (g := gb136) (o := .cells #[.int .i64 t132, .int .i64 t133, .int .i64 t134, .int .i64 t135] 39 (0, 0)) (by (with_reducible repeat (first | refine blk_drewN ?_ _ | refine blk_drew ?_ | refine blk_alloc ?_ _)); exact BK136.out) hb); have n4_ := Aside0.mk (below_step (by repeat (first | (with_reducible first | exact HB.out | apply below_alloc | apply pw_below_drewN | apply below_drew1 | refine below_set ?_ GE136.out) | exact HB.out)) hb); clear HO143; clear HO146; clear BK136; clear HB; have HO143 := n0_; have HO146 := n1_; have HO149 := n2_; have BK136 := n3_; have HB := n4_; clear n0_ n1_ n2_ n3_ n4_; clear hb ho50; have hcz51_0 : w49.cell? ⟨gb136, 0, none⟩ = some (.int .i64 t132) := (blk_cell BK136.out 0).trans rfl; have hcz51_1 : w49.cell? ⟨gb136, 1, none⟩ = some (.int .i64 t133) := (blk_cell BK136.out 1).trans rfl; have hcz51_2 : w49.cell? ⟨gb136, 2, none⟩ = some (.int .i64 t134) := (blk_cell BK136.out 2).trans rfl; have hcz51_3 : w49.cell? ⟨gb136, 3, none⟩ = some (.int .i64 t135) := (blk_cell BK136.out 3).trans rfl; have hfz51_0 := blk_frozen BK136.out 0; have hfz51_1 := blk_frozen BK136.out 1; have hfz51_2 := blk_frozen BK136.out 2; have hfz51_3 := blk_frozen BK136.out 3) | ((with_reducible refine gate_callee (f := 26) rfl ?_); refine goesL_ (some 87) rfl rfl Tryd.func26 (by kernel_rfl) rfl #[.int .u64 (IntKind.u64.wrap (a1 - a2)), .int .i64 t133] rfl (by (try simp only [List.map_toArray, List.map_cons, List.map_nil]); first | done | rfl | (simp only [List.length_drop, List.length_take]; rfl)) ?_; (with_reducible refine (geoderef03_cut.calls kj23 (IntKind.u64.wrap (a1 - a2)) t133 t151 _ A46.out).mono ?_); rintro e w52 ⟨rfl, hb⟩; refine ⟨_, rfl, ?_⟩; have n0_ := Aside0.mk (Kd.R_below (by (with_reducible repeat (first | apply Kd.R_alloc | apply Kd.R_drewN | apply Kd.R_drew)); exact HO143.out) hb); have n1_ := Aside0.mk (Kd.R_below (by (with_reducible repeat (first | apply Kd.R_alloc | apply Kd.R_drewN | apply Kd.R_drew)); exact HO146.out) hb); have n2_ := Aside0.mk (Kd.R_below (by (with_reducible repeat (first | apply Kd.R_alloc | apply Kd.R_drewN | apply Kd.R_drew)); exact HO149.out) hb); have n3_ := Aside0.mk (blk_below (g := gb136) (o := .cells #[.int .i64 t132, .int .i64 t133, .int .i64 t134, .int .i64 t135] 39 (0, 0)) (by (with_reducible repeat (first | refine blk_drewN ?_ _ | refine blk_drew ?_ | refine blk_alloc ?_ _)); exact BK136.out) hb); have n4_ := Aside0.mk (below_step (by repeat (first | (with_reducible first | exact HB.out | apply below_alloc | apply pw_below_drewN | apply below_drew1 | refine below_set ?_ GE136.out) | exact HB.out)) hb); clear HO143; clear HO146; clear HO149; clear BK136; clear HB; have HO143 := n0_; have HO146 := n1_; have HO149 := n2_; have BK136 := n3_; have HB := n4_; clear n0_ n1_ n2_ n3_ n4_; (try clear hb); (try clear hb2); (try clear hk); (try clear hi)))
                              go_ret2
                              exact ⟨by first | rfl | (simp [errW_none, errW_some] <;> rfl) | (simp [*, errW_none, errW_some] <;> rfl), by repeat (first | (with_reducible first | exact HB.out | apply below_alloc | apply pw_below_drewN | apply below_drew1 | refine below_set ?_ GE136.out) | exact HB.out)⟩
                            · rw [if_neg c45] at H
                              have c45b0 : (t132 == 21) = false := beq_eq_false_iff_ne.mpr c45
                              have c45b1 : (t132 != 21) = true := bne_iff_ne.mpr c45
                              by_cases c53 : t132 = 22
                              · rw [if_pos c53] at H
                                have c53b0 : (t132 == 22) = true := beq_iff_eq.mpr c53
                                have c53b1 : (t132 != 22) = false := bne_eq_false_iff_eq.mpr c53
                                clear c53
                                replace H := Option.bind_eq_some_iff.mp H
                                obtain ⟨t152, A540, H⟩ := H
                                replace H : (some (t152, 0)) = some (r1, r2) := H
                                have A54 := Aside0.mk A540
                                clear A540
                                simp only [Option.some.injEq, Prod.mk.injEq] at H
                                obtain ⟨rfl, rfl⟩ := H
                                go_wp2_with (first | ((with_reducible refine gate_callee (f := 25) rfl ?_); refine goesL_ (some 61) rfl rfl Tryd.func25 (by kernel_rfl) rfl #[.int .u64 a1, .int .i64 t133] rfl (by (try simp only [List.map_toArray, List.map_cons, List.map_nil]); first | done | rfl | (simp only [List.length_drop, List.length_take]; rfl)) ?_; (with_reducible refine (geoderef03_Bits.calls kj23 a1 t133 t141 _ A32.out).mono ?_); rintro e w55 ⟨v142, rfl, ho0, hb⟩; refine ⟨_, rfl, ?_⟩; have n0_ := Aside0.mk (Kd.R_lower ho0 (below_size (by repeat (first | (with_reducible first | exact HB.out | apply below_alloc | apply pw_below_drewN | apply below_drew1 | refine below_set ?_ GE136.out) | exact HB.out)))); have n1_ := Aside0.mk (blk_below (g := gb136) (o := .cells #[.int .i64 t132, .int .i64 t133, .int .i64 t134, .int .i64 t135] 39 (0, 0)) (by (with_reducible repeat (first | refine blk_drewN ?_ _ | refine blk_drew ?_ | refine blk_alloc ?_ _)); exact BK136.out) hb); have n2_ := Aside0.mk (below_step (by repeat (first | (with_reducible first | exact HB.out | apply below_alloc | apply pw_below_drewN | apply below_drew1 | refine below_set ?_ GE136.out) | exact HB.out)) hb); clear BK136; clear HB; have HO143 := n0_; have BK136 := n1_; have HB := n2_; clear n0_ n1_ n2_; (try clear hb); (try clear hb2); (try clear hk); (try clear hi); (try clear ho0)) | ((with_reducible refine gate_callee (f := 25) rfl ?_); refine goesL_ (some 64) rfl rfl Tryd.func25 (by kernel_rfl) rfl #[.int .u64 a2, .int .i64 t133] rfl (by (try simp only [List.map_toArray, List.map_cons, List.map_nil]); first | done | rfl | (simp only [List.length_drop, List.length_take]; rfl)) ?_; (with_reducible refine (geoderef03_Bits.calls kj23 a2 t133 t144 _ A33.out).mono ?_); rintro e w56 ⟨v145, rfl, ho0, hb⟩; refine ⟨_, rfl, ?_⟩; have n0_ := Aside0.mk (Kd.R_elder' (by (with_reducible repeat (first | apply Kd.R_alloc | apply Kd.R_drewN | apply Kd.R_drew)); exact HO143.out) (Kd.R_base ho0) hb); have n1_ := Aside0.mk (Kd.R_lower (Kd.R_new' ho0 (Kd.R_lt (by (with_reducible repeat (first | apply Kd.R_alloc | apply Kd.R_drewN | apply Kd.R_drew)); exact HO143.out))) (below_size (by repeat (first | (with_reducible first | exact HB.out | apply below_alloc | apply pw_below_drewN | apply below_drew1 | refine below_set ?_ GE136.out) | exact HB.out)))); have n2_ := Aside0.mk (blk_below (g := gb136) (o := .cells #[.int .i64 t132, .int .i64 t133, .int .i64 t134, .int .i64 t135] 39 (0, 0)) (by (with_reducible repeat (first | refine blk_drewN ?_ _ | refine blk_drew ?_ | refine blk_alloc ?_ _)); exact BK136.out) hb); have n3_ := Aside0.mk (below_step (by repeat (first | (with_reducible first | exact HB.out | apply below_alloc | apply pw_below_drewN | apply below_drew1 | refine below_set ?_ GE136.out) | exact HB.out)) hb); clear HO143; clear BK136; clear HB; have HO143 := n0_; have HO146 := n1_; have BK136 := n2_; have HB := n3_; clear n0_ n1_ n2_ n3_; (try clear hb); (try clear hb2); (try clear hk); (try clear hi); (try clear ho0)) | ((with_reducible refine gate_dst (N := 71) rfl ?_); refine Kd.R_make (Kd.int .i64) _ 3 rfl (N := 71) rfl 53 _ _ rfl t133 rfl rfl Tryd.underlying53 (.int .i64 0) 8 info3 rfl (by decide) (by omega) 0 (ok := fun _ => True) (okp := fun _ => True) rfl (fun _ hk => hk) trivial (of_decide_eq_true (by first | (with_reducible assumption) | assumption)) (Nat.le_trans (Nat.mul_le_mul_right _ (of_decide_eq_true (by first | (with_reducible assumption) | assumption) : t133.toNat ≤ 35184372088832)) (by omega)) (Below.refl _ _) (Nat.le_refl _) ?_; intro v148 w57 ho58 hb hg_ hnew_; clear hg_ hnew_; (first | rw [← Ny147.out] at ho58 | (simp only [Int.reduceToNat] at ho58; rw [← Ny147.out] at ho58)); have n0_ := Aside0.mk (Kd.R_elder' (by (with_reducible repeat (first | apply Kd.R_alloc | apply Kd.R_drewN | apply Kd.R_drew)); exact HO143.out) (Kd.R_base ho58) hb); have n1_ := Aside0.mk (Kd.R_elder' (by (with_reducible repeat (first | apply Kd.R_alloc | apply Kd.R_drewN | apply Kd.R_drew)); exact HO146.out) (Kd.R_base ho58) hb); have n2_ := Aside0.mk (Kd.R_lower (Kd.R_new' (Kd.R_new' ho58 (Kd.R_lt (by (with_reducible repeat (first | apply Kd.R_alloc | apply Kd.R_drewN | apply Kd.R_drew)); exact HO143.out))) (Kd.R_lt (by (with_reducible repeat (first | apply Kd.R_alloc | apply Kd.R_drewN | apply Kd.R_drew)); exact HO146.out))) (below_size (by repeat (first | (with_reducible first | exact HB.out | apply below_alloc | apply pw_below_drewN | apply below_drew1 | refine below_set ?_ GE136.out) | exact HB.out)))); have n3_ := Aside0.mk (blk_below (g := gb136) (o := .cells #[.int .i64 t132, .int .i64 t133, .int .i64 t134, .int .i64 t135] 39 (0, 0)) (by (with_reducible repeat (first | refine blk_drewN ?_ _ | refine blk_drew ?_ | refine blk_alloc ?_ _)); exact BK136.out) hb); have n4_ := Aside0.mk (below_step (by repeat (first | (with_reducible first | exact HB.out | apply below_alloc | apply pw_below_drewN | apply below_drew1 | refine below_set ?_ GE136.out) | exact HB.out)) hb); clear HO143; clear HO146; clear BK136; clear HB; have HO143 := n0_; have HO146 := n1_; have HO149 := n2_; have BK136 := n3_; have HB := n4_; clear n0_ n1_ n2_ n3_ n4_; clear hb ho58; have hcz59_0 : w57.cell? ⟨gb136, 0, none⟩ = some (.int .i64 t132) := (blk_cell BK136.out 0).trans rfl; have hcz59_1 : w57.cell? ⟨gb136, 1, none⟩ = some (.int .i64 t133) := (blk_cell BK136.out 1).trans rfl; have hcz59_2 : w57.cell? ⟨gb136, 2, none⟩ = some (.int .i64 t134) := (blk_cell BK136.out 2).trans rfl; have hcz59_3 : w57.cell? ⟨gb136, 3, none⟩ = some (.int .i64 t135) := (blk_cell BK136.out 3).trans rfl; have hfz59_0 := blk_frozen BK136.out 0; have hfz59_1 := blk_frozen BK136.out 1; have hfz59_2 := blk_frozen BK136.out 2; have hfz59_3 := blk_frozen BK136.out 3) | ((with_reducible refine gate_callee (f := 26) rfl ?_); refine goesL_ (some 94) rfl rfl Tryd.func26 (by kernel_rfl) rfl #[.int .u64 (IntKind.u64.wrap (a1 * a2)), .int .i64 t133] rfl (by (try simp only [List.map_toArray, List.map_cons, List.map_nil]); first | done | rfl | (simp only [List.length_drop, List.length_take]; rfl)) ?_; (with_reducible refine (geoderef03_cut.calls kj23 (IntKind.u64.wrap (a1 * a2)) t133 t152 _ A54.out).mono ?_); rintro e w60 ⟨rfl, hb⟩; refine ⟨_, rfl, ?_⟩; have n0_ := Aside0.mk (Kd.R_below (by (with_reducible repeat (first | apply Kd.R_alloc | apply Kd.R_drewN | apply Kd.R_drew)); exact HO143.out) hb); have n1_ := Aside0.mk (Kd.R_below (by (with_reducible repeat (first | apply Kd.R_alloc | apply Kd.R_drewN | apply Kd.R_drew)); exact HO146.out) hb); have n2_ := Aside0.mk (Kd.R_below (by (with_reducible repeat (first | apply Kd.R_alloc | apply Kd.R_drewN | apply Kd.R_drew)); exact HO149.out) hb); have n3_ := Aside0.mk (blk_below (g := gb136) (o := .cells #[.int .i64 t132, .int .i64 t133, .int .i64 t134, .int .i64 t135] 39 (0, 0)) (by (with_reducible repeat (first | refine blk_drewN ?_ _ | refine blk_drew ?_ | refine blk_alloc ?_ _)); exact BK136.out) hb); have n4_ := Aside0.mk (below_step (by repeat (first | (with_reducible first | exact HB.out | apply below_alloc | apply pw_below_drewN | apply below_drew1 | refine below_set ?_ GE136.out) | exact HB.out)) hb); clear HO143; clear HO146; clear HO149; clear BK136; clear HB; have HO143 := n0_; have HO146 := n1_; have HO149 := n2_; have BK136 := n3_; have HB := n4_; clear n0_ n1_ n2_ n3_ n4_; (try clear hb); (try clear hb2); (try clear hk); (try clear hi)))
                                go_ret2
                                exact ⟨by first | rfl | (simp [errW_none, errW_some] <;> rfl) | (simp [*, errW_none, errW_some] <;> rfl), by repeat (first | (with_reducible first | exact HB.out | apply below_alloc | apply pw_below_drewN | apply below_drew1 | refine below_set ?_ GE136.out) | exact HB.out)⟩
                              · rw [if_neg c53] at H
                                have c53b0 : (t132 == 22) = false := beq_eq_false_iff_ne.mpr c53
                                have c53b1 : (t132 != 22) = true := bne_iff_ne.mpr c53
                                have HC61 := Aside0.mk H
                                clear H
                                go_upto_if 95 with (first | ((with_reducible refine gate_callee (f := 25) rfl ?_); refine goesL_ (some 61) rfl rfl Tryd.func25 (by kernel_rfl) rfl #[.int .u64 a1, .int .i64 t133] rfl (by (try simp only [List.map_toArray, List.map_cons, List.map_nil]); first | done | rfl | (simp only [List.length_drop, List.length_take]; rfl)) ?_; (with_reducible refine (geoderef03_Bits.calls kj23 a1 t133 t141 _ A32.out).mono ?_); rintro e w62 ⟨v142, rfl, ho0, hb⟩; refine ⟨_, rfl, ?_⟩; have n0_ := Aside0.mk (Kd.R_lower ho0 (below_size (by repeat (first | (with_reducible first | exact HB.out | apply below_alloc | apply pw_below_drewN | apply below_drew1 | refine below_set ?_ GE136.out) | exact HB.out)))); have n1_ := Aside0.mk (blk_below (g := gb136) (o := .cells #[.int .i64 t132, .int .i64 t133, .int .i64 t134, .int .i64 t135] 39 (0, 0)) (by (with_reducible repeat (first | refine blk_drewN ?_ _ | refine blk_drew ?_ | refine blk_alloc ?_ _)); exact BK136.out) hb); have n2_ := Aside0.mk (below_step (by repeat (first | (with_reducible first | exact HB.out | apply below_alloc | apply pw_below_drewN | apply below_drew1 | refine below_set ?_ GE136.out) | exact HB.out)) hb); clear BK136; clear HB; have HO143 := n0_; have BK136 := n1_; have HB := n2_; clear n0_ n1_ n2_; (try clear hb); (try clear hb2); (try clear hk); (try clear hi); (try clear ho0)) | ((with_reducible refine gate_callee (f := 25) rfl ?_); refine goesL_ (some 64) rfl rfl Tryd.func25 (by kernel_rfl) rfl #[.int .u64 a2, .int .i64 t133] rfl (by (try simp only [List.map_toArray, List.map_cons, List.map_nil]); first | done | rfl | (simp only [List.length_drop, List.length_take]; rfl)) ?_; (with_reducible refine (geoderef03_Bits.calls kj23 a2 t133 t144 _ A33.out).mono ?_); rintro e w63 ⟨v145, rfl, ho0, hb⟩; refine ⟨_, rfl, ?_⟩; have n0_ := Aside0.mk (Kd.R_elder' (by (with_reducible repeat (first | apply Kd.R_alloc | apply Kd.R_drewN | apply Kd.R_drew)); exact HO143.out) (Kd.R_base ho0) hb); have n1_ := Aside0.mk (Kd.R_lower (Kd.R_new' ho0 (Kd.R_lt (by (with_reducible repeat (first | apply Kd.R_alloc | apply Kd.R_drewN | apply Kd.R_drew)); exact HO143.out))) (below_size (by repeat (first | (with_reducible first | exact HB.out | apply below_alloc | apply pw_below_drewN | apply below_drew1 | refine below_set ?_ GE136.out) | exact HB.out)))); have n2_ := Aside0.mk (blk_below (g := gb136) (o := .cells #[.int .i64 t132, .int .i64 t133, .int .i64 t134, .int .i64 t135] 39 (0, 0)) (by (with_reducible repeat (first | refine blk_drewN ?_ _ | refine blk_drew ?_ | refine blk_alloc ?_ _)); exact BK136.out) hb); have n3_ := Aside0.mk (below_step (by repeat (first | (with_reducible first | exact HB.out | apply below_alloc | apply pw_below_drewN | apply below_drew1 | refine below_set ?_ GE136.out) | exact HB.out)) hb); clear HO143; clear BK136; clear HB; have HO143 := n0_; have HO146 := n1_; have BK136 := n2_; have HB := n3_; clear n0_ n1_ n2_ n3_; (try clear hb); (try clear hb2); (try clear hk); (try clear hi); (try clear ho0)) | ((with_reducible refine gate_dst (N := 71) rfl ?_); refine Kd.R_make (Kd.int .i64) _ 3 rfl (N := 71) rfl 53 _ _ rfl t133 rfl rfl Tryd.underlying53 (.int .i64 0) 8 info3 rfl (by decide) (by omega) 0 (ok := fun _ => True) (okp := fun _ => True) rfl (fun _ hk => hk) trivial (of_decide_eq_true (by first | (with_reducible assumption) | assumption)) (Nat.le_trans (Nat.mul_le_mul_right _ (of_decide_eq_true (by first | (with_reducible assumption) | assumption) : t133.toNat ≤ 35184372088832)) (by omega)) (Below.refl _ _) (Nat.le_refl _) ?_; intro v148 w64 ho65 hb hg_ hnew_; clear hg_ hnew_; (first | rw [← Ny147.out] at ho65 | (simp only [Int.reduceToNat] at ho65; rw [← Ny147.out] at ho65)); have n0_ := Aside0.mk (Kd.R_elder' (by (with_reducible repeat (first | apply Kd.R_alloc | apply Kd.R_drewN | apply Kd.R_drew)); exact HO143.out) (Kd.R_base ho65) hb); have n1_ := Aside0.mk (Kd.R_elder' (by (with_reducible repeat (first | apply Kd.R_alloc | apply Kd.R_drewN | apply Kd.R_drew)); exact HO146.out) (Kd.R_base ho65) hb); have n2_ := Aside0.mk (Kd.R_lower (Kd.R_new' (Kd.R_new' ho65 (Kd.R_lt (by (with_reducible repeat (first | apply Kd.R_alloc | apply Kd.R_drewN | apply Kd.R_drew)); exact HO143.out))) (Kd.R_lt (by (with_reducible repeat (first | apply Kd.R_alloc | apply Kd.R_drewN | apply Kd.R_drew)); exact HO146.out))) (below_size (by repeat (first | (with_reducible first | exact HB.out | apply below_alloc | apply pw_below_drewN | apply below_drew1 | refine below_set ?_ GE136.out) | exact HB.out)))); have n3_ := Aside0.mk (blk_below (g := gb136) (o := .cells #[.int .i64 t132, .int .i64 t133, .int .i64 t134, .int .i64 t135] 39 (0, 0)) (by (with_reducible repeat (first | refine blk_drewN ?_ _ | refine blk_drew ?_ | refine blk_alloc ?_ _)); exact BK136.out) hb); have n4_ := Aside0.mk (below_step (by repeat (first | (with_reducible first | exact HB.out | apply below_alloc | apply pw_below_drewN | apply below_drew1 | refine below_set ?_ GE136.out) | exact HB.out)) hb); clear HO143; clear HO146; clear BK136; clear HB; have HO143 := n0_; have HO146 := n1_; have HO149 := n2_; have BK136 := n3_; have HB := n4_; clear n0_ n1_ n2_ n3_ n4_; clear hb ho65; have hcz66_0 : w64.cell? ⟨gb136, 0, none⟩ = some (.int .i64 t132) := (blk_cell BK136.out 0).trans rfl; have hcz66_1 : w64.cell? ⟨gb136, 1, none⟩ = some (.int .i64 t133) := (blk_cell BK136.out 1).trans rfl; have hcz66_2 : w64.cell? ⟨gb136, 2, none⟩ = some (.int .i64 t134) := (blk_cell BK136.out 2).trans rfl; have hcz66_3 : w64.cell? ⟨gb136, 3, none⟩ = some (.int .i64 t135) := (blk_cell BK136.out 3).trans rfl; have hfz66_0 := blk_frozen BK136.out 0; have hfz66_1 := blk_frozen BK136.out 1; have hfz66_2 := blk_frozen BK136.out 2; have hfz66_3 := blk_frozen BK136.out 3))
                                (try simp only [Act.put, List.setIfInBounds_toArray, List.set_cons_zero, List.set_cons_succ])
                                go_cut [95] (fun v95 wc => ∃ (kq : Nat) (x95_60 : Bool), v95 = .bool x95_60 ∧ Aside0 (geoderef03_Two.j2 kq a1 a2 t133 t141 t144 (wrap64 (Int.tmod a2 (IntKind.u64.wrap (t133)))) y147 t132 x95_60 t132 t133 t134 t135 = some (r1, r2)) ∧ Aside0 (kq ≤ kj23) ∧ Aside0 (Kd.R (Kd.int .i64) 3 wc w.heap.size (fun k_ => some k_ ≠ (v145 : Value).ownBlock ∧ some k_ ≠ (v148 : Value).ownBlock) v142 t141) ∧ Aside0 (Kd.R (Kd.int .i64) 3 wc w.heap.size (fun k_ => some k_ ≠ (v142 : Value).ownBlock ∧ some k_ ≠ (v148 : Value).ownBlock) v145 t144) ∧ Aside0 (Kd.R (Kd.int .i64) 3 wc w.heap.size (fun k_ => some k_ ≠ (v142 : Value).ownBlock ∧ some k_ ≠ (v145 : Value).ownBlock) v148 y147) ∧ Aside0 (wc.heap[gb136]? = some (.cells #[.int .i64 t132, .int .i64 t133, .int .i64 t134, .int .i64 t135] 39 (0, 0))) ∧ Aside0 (Below w.heap.size w wc))
                                case first =>
                                  as_aux_lemma =>
                                    have H := HC61.out
                                    clear HC61
                                    by_cases c67 : t132 = 23
                                    · rw [if_pos c67] at H
                                      have c67b0 : (t132 == 23) = true := beq_iff_eq.mpr c67
                                      have c67b1 : (t132 != 23) = false := bne_eq_false_iff_eq.mpr c67
                                      clear c67
                                      (first | rw [c67b0] | (simp only [i64_w, i32_w]; rw [c67b0]) | skip)
                                      have H' := Aside0.mk H
                                      clear H
                                      go_wp2
                                      go_meet
                                      case rel => exact ⟨_, ((t132 == 23)), (by first | rfl | (simp; done) | (simp [*]; done)), H', ⟨by have := HJ4.out; have := HJ23.out; first | omega | exact Nat.le_refl _⟩, ⟨by (with_reducible repeat (first | apply Kd.R_alloc | apply Kd.R_drewN | apply Kd.R_drew)); exact Kd.R_mono HO143.out (fun _ hk => ⟨hk.1.2, hk.2⟩)⟩, ⟨by (with_reducible repeat (first | apply Kd.R_alloc | apply Kd.R_drewN | apply Kd.R_drew)); exact Kd.R_mono HO146.out (fun _ hk => ⟨hk.1.2, hk.2⟩)⟩, ⟨by (with_reducible repeat (first | apply Kd.R_alloc | apply Kd.R_drewN | apply Kd.R_drew)); exact Kd.R_mono HO149.out (fun _ hk => ⟨hk.1.2, hk.2⟩)⟩, ⟨by (with_reducible repeat (first | refine blk_drewN ?_ _ | refine blk_drew ?_ | refine blk_alloc ?_ _)); exact BK136.out⟩, ⟨by repeat (first | (with_reducible first | exact HB.out | apply below_alloc | apply pw_below_drewN | apply below_drew1 | refine below_set ?_ GE136.out) | exact HB.out)⟩⟩
                                    · rw [if_neg c67] at H
                                      have c67b0 : (t132 == 23) = false := beq_eq_false_iff_ne.mpr c67
                                      have c67b1 : (t132 != 23) = true := bne_iff_ne.mpr c67
                                      (first | rw [c67b0] | (simp only [i64_w, i32_w]; rw [c67b0]) | skip)
                                      have H' := Aside0.mk H
                                      clear H
                                      go_wp2
                                      go_meet
                                      case rel => exact ⟨_, ((t132 == 25)), (by first | rfl | (simp; done) | (simp [*]; done)), H', ⟨by have := HJ4.out; have := HJ23.out; first | omega | exact Nat.le_refl _⟩, ⟨by (with_reducible repeat (first | apply Kd.R_alloc | apply Kd.R_drewN | apply Kd.R_drew)); exact Kd.R_mono HO143.out (fun _ hk => ⟨hk.1.2, hk.2⟩)⟩, ⟨by (with_reducible repeat (first | apply Kd.R_alloc | apply Kd.R_drewN | apply Kd.R_drew)); exact Kd.R_mono HO146.out (fun _ hk => ⟨hk.1.2, hk.2⟩)⟩, ⟨by (with_reducible repeat (first | apply Kd.R_alloc | apply Kd.R_drewN | apply Kd.R_drew)); exact Kd.R_mono HO149.out (fun _ hk => ⟨hk.1.2, hk.2⟩)⟩, ⟨by (with_reducible repeat (first | refine blk_drewN ?_ _ | refine blk_drew ?_ | refine blk_alloc ?_ _)); exact BK136.out⟩, ⟨by repeat (first | (with_reducible first | exact HB.out | apply below_alloc | apply pw_below_drewN | apply below_drew1 | refine below_set ?_ GE136.out) | exact HB.out)⟩⟩
                                case rest =>
                                  as_aux_lemma =>
                                    clear HC61
                                    try clear c1
                                    try clear c2
                                    try clear p2
                                    try clear c3
                                    try clear c4
                                    try clear c5
                                    try clear c6
                                    try clear p6
                                    try clear c9
                                    try clear c9b0
                                    try clear c9b1
                                    try clear c11
                                    try clear c19
                                    try clear c20
                                    try clear c20b0
                                    try clear c23
                                    try clear c24
                                    try clear c25
                                    try clear c26
                                    try clear c26b0
                                    try clear c27
                                    try clear c27b0
                                    try clear c31
                                    try clear c34
                                    try clear c34b0
                                    try clear c34b1
                                    try clear c35
                                    try clear c35b0
                                    try clear c35b1
                                    try clear c36
                                    try clear c36b0
                                    try clear c36b1
                                    try clear c37
                                    try clear c37b0
                                    try clear c37b1
                                    try clear c45
                                    try clear c45b0
                                    try clear c45b1
                                    try clear c53
                                    try clear c53b0
                                    try clear c53b1
                                    try clear p64
                                    try clear c67
                                    try clear c67b0
                                    try clear c67b1
                                    try clear hcz13_0
                                    try clear hcz13_1
                                    try clear hcz13_2
                                    try clear hcz13_3
                                    try clear hcz16_0
                                    try clear hcz16_1
                                    try clear hcz16_2
                                    try clear hcz16_3
                                    try clear hcz18_0
                                    try clear hcz18_1
                                    try clear hcz18_2
                                    try clear hcz18_3
                                    try clear hcz23_0
                                    try clear hcz23_1
                                    try clear hcz23_2
                                    try clear hcz23_3
                                    try clear hcz25_0
                                    try clear hcz25_1
                                    try clear hcz25_2
                                    try clear hcz25_3
                                    try clear hcz28_0
                                    try clear hcz28_1
                                    try clear hcz28_2
                                    try clear hcz28_3
                                    try clear hcz29_0
                                    try clear hcz29_1
                                    try clear hcz29_2
                                    try clear hcz29_3
                                    try clear hcz30_0
                                    try clear hcz30_1
                                    try clear hcz30_2
                                    try clear hcz30_3
                                    try clear hcz43_0
                                    try clear hcz43_1
                                    try clear hcz43_2
                                    try clear hcz43_3
                                    try clear hcz51_0
                                    try clear hcz51_1
                                    try clear hcz51_2
                                    try clear hcz51_3
                                    try clear hcz59_0
                                    try clear hcz59_1
                                    try clear hcz59_2
                                    try clear hcz59_3
                                    try clear hcz66_0
                                    try clear hcz66_1
                                    try clear hcz66_2
                                    try clear hcz66_3
                                    try clear hcz8_0
                                    try clear hcz8_1
                                    try clear hcz8_2
                                    try clear hcz8_3
                                    try clear hfz13_0
                                    try clear hfz13_1
                                    try clear hfz13_2
                                    try clear hfz13_3
                                    try clear hfz16_0
                                    try clear hfz16_1
                                    try clear hfz16_2
                                    try clear hfz16_3
                                    try clear hfz18_0
                                    try clear hfz18_1
                                    try clear hfz18_2
                                    try clear hfz18_3
                                    try clear hfz23_0
                                    try clear hfz23_1
                                    try clear hfz23_2
                                    try clear hfz23_3
                                    try clear hfz25_0
                                    try clear hfz25_1
                                    try clear hfz25_2
                                    try clear hfz25_3
                                    try clear hfz28_0
                                    try clear hfz28_1
                                    try clear hfz28_2
                                    try clear hfz28_3
                                    try clear hfz29_0
                                    try clear hfz29_1
                                    try clear hfz29_2
                                    try clear hfz29_3
                                    try clear hfz30_0
                                    try clear hfz30_1
                                    try clear hfz30_2
                                    try clear hfz30_3
                                    try clear hfz43_0
                                    try clear hfz43_1
                                    try clear hfz43_2
                                    try clear hfz43_3
                                    try clear hfz51_0
                                    try clear hfz51_1
                                    try clear hfz51_2
                                    try clear hfz51_3
                                    try clear hfz59_0
                                    try clear hfz59_1
                                    try clear hfz59_2
                                    try clear hfz59_3
                                    try clear hfz66_0
                                    try clear hfz66_1
                                    try clear hfz66_2
                                    try clear hfz66_3
                                    try clear hfz8_0
                                    try clear hfz8_1
                                    try clear hfz8_2
                                    try clear hfz8_3
                                    try clear p2
                                    obtain ⟨kq, x95_60, rfl, HA, HJ60, HO_10, HO_11, HO_13, BK136, HB⟩ := hcut
                                    cases kq with
                                    | zero => exact absurd HA.out (by simp [geoderef03_Two.j2])
                                    | succ kj60 =>
                                      have H := HA.out
                                      clear HA
                                      simp only [geoderef03_Two.j2] at H
                                      by_cases c68 : x95_60 = true
                                      · subst c68
                                        have H1 : ((geoderef03_divide.f kj60 t133 a1 a2).bind fun bt153 => (if t132 = 25 then (some (bt153.2.1, 0)) else (if bt153.2.2 = true then (some (0, 31)) else (some (bt153.1, 0))))) = some (r1, r2) := by rw [if_pos rfl] at H; exact H
                                        clear H
                                        have H := H1
                                        clear H1
                                        replace H := Option.bind_eq_some_iff.mp H
                                        obtain ⟨⟨t153, t154, t155⟩, A690, H⟩ := H
                                        replace H : (if t132 = 25 then (some (t154, 0)) else (if t155 = true then (some (0, 31)) else (some (t153, 0)))) = some (r1, r2) := H
                                        have A69 := Aside0.mk A690
                                        clear A690
                                        by_cases c70 : t132 = 25
                                        · rw [if_pos c70] at H
                                          have c70b0 : (t132 == 25) = true := beq_iff_eq.mpr c70
                                          have c70b1 : (t132 != 25) = false := bne_eq_false_iff_eq.mpr c70
                                          clear c70
                                          simp only [Option.some.injEq, Prod.mk.injEq] at H
                                          obtain ⟨rfl, rfl⟩ := H
                                          go_wp2_with (first | ((with_reducible refine gate_callee (f := 27) rfl ?_); refine goesL_ (some 102) rfl rfl Tryd.func27 (by kernel_rfl) rfl #[.int .i64 t133, .int .u64 a1, .int .u64 a2] rfl (by (try simp only [List.map_toArray, List.map_cons, List.map_nil]); first | done | rfl | (simp only [List.length_drop, List.length_take]; rfl)) ?_; (with_reducible refine (geoderef03_divide.calls kj60 t133 a1 a2 t153 t154 t155 _ A69.out).mono ?_); rintro e w71 ⟨rfl, hb⟩; refine ⟨_, rfl, ?_⟩; have n0_ := Aside0.mk (Kd.R_below (by (with_reducible repeat (first | apply Kd.R_alloc | apply Kd.R_drewN | apply Kd.R_drew)); exact HO_10.out) hb); have n1_ := Aside0.mk (Kd.R_below (by (with_reducible repeat (first | apply Kd.R_alloc | apply Kd.R_drewN | apply Kd.R_drew)); exact HO_11.out) hb); have n2_ := Aside0.mk (Kd.R_below (by (with_reducible repeat (first | apply Kd.R_alloc | apply Kd.R_drewN | apply Kd.R_drew)); exact HO_13.out) hb); have n3_ := Aside0.mk (blk_below (g := gb136) (o := .cells #[.int .i64 t132, .int .i64 t133, .int .i64 t134, .int .i64 t135] 39 (0, 0)) (by (with_reducible repeat (first | refine blk_drewN ?_ _ | refine blk_drew ?_ | refine blk_alloc ?_ _)); exact BK136.out) hb); have n4_ := Aside0.mk (below_step (by repeat (first | (with_reducible first | exact HB.out | apply below_alloc | apply pw_below_drewN | apply below_drew1 | refine below_set ?_ GE136.out) | exact HB.out)) hb); clear HO_10; clear HO_11; clear HO_13; clear BK136; clear HB; have HO_10 := n0_; have HO_11 := n1_; have HO_13 := n2_; have BK136 := n3_; have HB := n4_; clear n0_ n1_ n2_ n3_ n4_; (try clear hb); (try clear hb2); (try clear hk); (try clear hi); have hcz72_0 : w71.cell? ⟨gb136, 0, none⟩ = some (.int .i64 t132) := (blk_cell BK136.out 0).trans rfl; have hcz72_1 : w71.cell? ⟨gb136, 1, none⟩ = some (.int .i64 t133) := (blk_cell BK136.out 1).trans rfl; have hcz72_2 : w71.cell? ⟨gb136, 2, none⟩ = some (.int .i64 t134) := (blk_cell BK136.out 2).trans rfl; have hcz72_3 : w71.cell? ⟨gb136, 3, none⟩ = some (.int .i64 t135) := (blk_cell BK136.out 3).trans rfl; have hfz72_0 := blk_frozen BK136.out 0; have hfz72_1 := blk_frozen BK136.out 1; have hfz72_2 := blk_frozen BK136.out 2; have hfz72_3 := blk_frozen BK136.out 3))
                                          go_ret2
                                          exact ⟨by first | rfl | (simp [errW_none, errW_some] <;> rfl) | (simp [*, errW_none, errW_some] <;> rfl), by repeat (first | (with_reducible first | exact HB.out | apply below_alloc | apply pw_below_drewN | apply below_drew1 | refine below_set ?_ GE136.out) | exact HB.out)⟩
                                        · rw [if_neg c70] at H
                                          have c70b0 : (t132 == 25) = false := beq_eq_false_iff_ne.mpr c70
                                          have c70b1 : (t132 != 25) = true := bne_iff_ne.mpr c70
                                          by_cases c73 : t155 = true
                                          · subst c73
                                            have H1 : (some (0, 31)) = some (r1, r2) := by rw [if_pos rfl] at H; exact H
                                            clear H
                                            have H := H1
                                            clear H1
                                            simp only [Option.some.injEq, Prod.mk.injEq] at H
                                            obtain ⟨rfl, rfl⟩ := H
                                            go_wp2_with (first | ((with_reducible refine gate_callee (f := 27) rfl ?_); refine goesL_ (some 102) rfl rfl Tryd.func27 (by kernel_rfl) rfl #[.int .i64 t133, .int .u64 a1, .int .u64 a2] rfl (by (try simp only [List.map_toArray, List.map_cons, List.map_nil]); first | done | rfl | (simp only [List.length_drop, List.length_take]; rfl)) ?_; (with_reducible refine (geoderef03_divide.calls kj60 t133 a1 a2 t153 t154 true _ A69.out).mono ?_); rintro e w74 ⟨rfl, hb⟩; refine ⟨_, rfl, ?_⟩; have n0_ := Aside0.mk (Kd.R_below (by (with_reducible repeat (first | apply Kd.R_alloc | apply Kd.R_drewN | apply Kd.R_drew)); exact HO_10.out) hb); have n1_ := Aside0.mk (Kd.R_below (by (with_reducible repeat (first | apply Kd.R_alloc | apply Kd.R_drewN | apply Kd.R_drew)); exact HO_11.out) hb); have n2_ := Aside0.mk (Kd.R_below (by (with_reducible repeat (first | apply Kd.R_alloc | apply Kd.R_drewN | apply Kd.R_drew)); exact HO_13.out) hb); have n3_ := Aside0.mk (blk_below (g := gb136) (o := .cells #[.int .i64 t132, .int .i64 t133, .int .i64 t134, .int .i64 t135] 39 (0, 0)) (by (with_reducible repeat (first | refine blk_drewN ?_ _ | refine blk_drew ?_ | refine blk_alloc ?_ _)); exact BK136.out) hb); have n4_ := Aside0.mk (below_step (by repeat (first | (with_reducible first | exact HB.out | apply below_alloc | apply pw_below_drewN | apply below_drew1 | refine below_set ?_ GE136.out) | exact HB.out)) hb); clear HO_10; clear HO_11; clear HO_13; clear BK136; clear HB; have HO_10 := n0_; have HO_11 := n1_; have HO_13 := n2_; have BK136 := n3_; have HB := n4_; clear n0_ n1_ n2_ n3_ n4_; (try clear hb); (try clear hb2); (try clear hk); (try clear hi); have hcz75_0 : w74.cell? ⟨gb136, 0, none⟩ = some (.int .i64 t132) := (blk_cell BK136.out 0).trans rfl; have hcz75_1 : w74.cell? ⟨gb136, 1, none⟩ = some (.int .i64 t133) := (blk_cell BK136.out 1).trans rfl; have hcz75_2 : w74.cell? ⟨gb136, 2, none⟩ = some (.int .i64 t134) := (blk_cell BK136.out 2).trans rfl; have hcz75_3 : w74.cell? ⟨gb136, 3, none⟩ = some (.int .i64 t135) := (blk_cell BK136.out 3).trans rfl; have hfz75_0 := blk_frozen BK136.out 0; have hfz75_1 := blk_frozen BK136.out 1; have hfz75_2 := blk_frozen BK136.out 2; have hfz75_3 := blk_frozen BK136.out 3))
                                            go_ret2
                                            exact ⟨by first | rfl | (simp [errW_none, errW_some] <;> rfl) | (simp [*, errW_none, errW_some] <;> rfl), by repeat (first | (with_reducible first | exact HB.out | apply below_alloc | apply pw_below_drewN | apply below_drew1 | refine below_set ?_ GE136.out) | exact HB.out)⟩
                                          · replace c73 := Bool.eq_false_iff.mpr c73
                                            subst c73
                                            have H1 : (some (t153, 0)) = some (r1, r2) := by rw [if_neg (show ¬ (false = true) by decide)] at H; exact H
                                            clear H
                                            have H := H1
                                            clear H1
                                            simp only [Option.some.injEq, Prod.mk.injEq] at H
                                            obtain ⟨rfl, rfl⟩ := H
                                            go_wp2_with (first | ((with_reducible refine gate_callee (f := 27) rfl ?_); refine goesL_ (some 102) rfl rfl Tryd.func27 (by kernel_rfl) rfl #[.int .i64 t133, .int .u64 a1, .int .u64 a2] rfl (by (try simp only [List.map_toArray, List.map_cons, List.map_nil]); first | done | rfl | (simp only [List.length_drop, List.length_take]; rfl)) ?_; (with_reducible refine (geoderef03_divide.calls kj60 t133 a1 a2 t153 t154 false _ A69.out).mono ?_); rintro e w76 ⟨rfl, hb⟩; refine ⟨_, rfl, ?_⟩; have n0_ := Aside0.mk (Kd.R_below (by (with_reducible repeat (first | apply Kd.R_alloc | apply Kd.R_drewN | apply Kd.R_drew)); exact HO_10.out) hb); have n1_ := Aside0.mk (Kd.R_below (by (with_reducible repeat (first | apply Kd.R_alloc | apply Kd.R_drewN | apply Kd.R_drew)); exact HO_11.out) hb); have n2_ := Aside0.mk (Kd.R_below (by (with_reducible repeat (first | apply Kd.R_alloc | apply Kd.R_drewN | apply Kd.R_drew)); exact HO_13.out) hb); have n3_ := Aside0.mk (blk_below (g := gb136) (o := .cells #[.int .i64 t132, .int .i64 t133, .int .i64 t134, .int .i64 t135] 39 (0, 0)) (by (with_reducible repeat (first | refine blk_drewN ?_ _ | refine blk_drew ?_ | refine blk_alloc ?_ _)); exact BK136.out) hb); have n4_ := Aside0.mk (below_step (by repeat (first | (with_reducible first | exact HB.out | apply below_alloc | apply pw_below_drewN | apply below_drew1 | refine below_set ?_ GE136.out) | exact HB.out)) hb); clear HO_10; clear HO_11; clear HO_13; clear BK136; clear HB; have HO_10 := n0_; have HO_11 := n1_; have HO_13 := n2_; have BK136 := n3_; have HB := n4_; clear n0_ n1_ n2_ n3_ n4_; (try clear hb); (try clear hb2); (try clear hk); (try clear hi); have hcz77_0 : w76.cell? ⟨gb136, 0, none⟩ = some (.int .i64 t132) := (blk_cell BK136.out 0).trans rfl; have hcz77_1 : w76.cell? ⟨gb136, 1, none⟩ = some (.int .i64 t133) := (blk_cell BK136.out 1).trans rfl; have hcz77_2 : w76.cell? ⟨gb136, 2, none⟩ = some (.int .i64 t134) := (blk_cell BK136.out 2).trans rfl; have hcz77_3 : w76.cell? ⟨gb136, 3, none⟩ = some (.int .i64 t135) := (blk_cell BK136.out 3).trans rfl; have hfz77_0 := blk_frozen BK136.out 0; have hfz77_1 := blk_frozen BK136.out 1; have hfz77_2 := blk_frozen BK136.out 2; have hfz77_3 := blk_frozen BK136.out 3))
                                            go_ret2
                                            exact ⟨by first | rfl | (simp [errW_none, errW_some] <;> rfl) | (simp [*, errW_none, errW_some] <;> rfl), by repeat (first | (with_reducible first | exact HB.out | apply below_alloc | apply pw_below_drewN | apply below_drew1 | refine below_set ?_ GE136.out) | exact HB.out)⟩
                                      · replace c68 := Bool.eq_false_iff.mpr c68
                                        subst c68
                                        have H1 : (if t132 = 24 then (if a2 = 0 then (none) else (some (IntKind.u64.wrap (Int.tdiv a1 a2), 0))) else (if t132 = 26 then (if a2 = 0 then (none) else (some (Int.tmod a1 a2, 0))) else (geoderef03_Two.l0 kj60 t133 t141 t144 (wrap64 (Int.tmod a2 (IntKind.u64.wrap (t133)))) y147 0 t132 t133 t134 t135))) = some (r1, r2) := by rw [if_neg (show ¬ (false = true) by decide)] at H; exact H
                                        clear H
                                        have H := H1
                                        clear H1
                                        by_cases c78 : t132 = 24
                                        · rw [if_pos c78] at H
                                          have c78b0 : (t132 == 24) = true := beq_iff_eq.mpr c78
                                          have c78b1 : (t132 != 24) = false := bne_eq_false_iff_eq.mpr c78
                                          clear c78
                                          by_cases c79 : a2 = 0
                                          · rw [if_pos c79] at H
                                            exact absurd H (by simp)
                                          · rw [if_neg c79] at H
                                            have c79b0 : (a2 == 0) = false := beq_eq_false_iff_ne.mpr c79
                                            have c79b1 : (a2 != 0) = true := bne_iff_ne.mpr c79
                                            simp only [Option.some.injEq, Prod.mk.injEq] at H
                                            obtain ⟨rfl, rfl⟩ := H
                                            go_wp2
                                            go_ret2
                                            exact ⟨by first | rfl | (simp [errW_none, errW_some] <;> rfl) | (simp [*, errW_none, errW_some] <;> rfl), by repeat (first | (with_reducible first | exact HB.out | apply below_alloc | apply pw_below_drewN | apply below_drew1 | refine below_set ?_ GE136.out) | exact HB.out)⟩
                                        · rw [if_neg c78] at H
                                          have c78b0 : (t132 == 24) = false := beq_eq_false_iff_ne.mpr c78
                                          have c78b1 : (t132 != 24) = true := bne_iff_ne.mpr c78
                                          by_cases c80 : t132 = 26
                                          · rw [if_pos c80] at H
                                            have c80b0 : (t132 == 26) = true := beq_iff_eq.mpr c80
                                            have c80b1 : (t132 != 26) = false := bne_eq_false_iff_eq.mpr c80
                                            clear c80
                                            by_cases c81 : a2 = 0
                                            · rw [if_pos c81] at H
                                              exact absurd H (by simp)
                                            · rw [if_neg c81] at H
                                              have c81b0 : (a2 == 0) = false := beq_eq_false_iff_ne.mpr c81
                                              have c81b1 : (a2 != 0) = true := bne_iff_ne.mpr c81
                                              simp only [Option.some.injEq, Prod.mk.injEq] at H
                                              obtain ⟨rfl, rfl⟩ := H
                                              go_wp2
                                              go_ret2
                                              exact ⟨by first | rfl | (simp [errW_none, errW_some] <;> rfl) | (simp [*, errW_none, errW_some] <;> rfl), by repeat (first | (with_reducible first | exact HB.out | apply below_alloc | apply pw_below_drewN | apply below_drew1 | refine below_set ?_ GE136.out) | exact HB.out)⟩
                                          · rw [if_neg c80] at H
                                            have c80b0 : (t132 == 26) = false := beq_eq_false_iff_ne.mpr c80
                                            have c80b1 : (t132 != 26) = true := bne_iff_ne.mpr c80
                                            have H' := Aside0.mk H
                                            clear H
                                            go_wp2
                                            go_loopg [17] kj60 (fun kq v17 w' => ∃ (x13_4 : List Int) (x17_4 : Int), v17 = .int .i64 x17_4 ∧ Aside0 (geoderef03_Two.l0 kq t133 t141 t144 (wrap64 (Int.tmod a2 (IntKind.u64.wrap (t133)))) x13_4 x17_4 t132 t133 t134 t135 = some (r1, r2)) ∧ Aside0 (kq ≤ kj60) ∧ Aside0 (Kd.R (Kd.int .i64) 3 w' w.heap.size (fun k_ => some k_ ≠ (v145 : Value).ownBlock ∧ some k_ ≠ (v148 : Value).ownBlock) v142 t141) ∧ Aside0 (Kd.R (Kd.int .i64) 3 w' w.heap.size (fun k_ => some k_ ≠ (v142 : Value).ownBlock ∧ some k_ ≠ (v148 : Value).ownBlock) v145 t144) ∧ Aside0 (Kd.R (Kd.int .i64) 3 w' w.heap.size (fun k_ => some k_ ≠ (v142 : Value).ownBlock ∧ some k_ ≠ (v145 : Value).ownBlock) v148 x13_4) ∧ Aside0 (w'.heap[gb136]? = some (.cells #[.int .i64 t132, .int .i64 t133, .int .i64 t134, .int .i64 t135] 39 (0, 0))) ∧ Aside0 (Below w.heap.size w w'))
                                            case atStart => exact ⟨(y147), (0), (by first | rfl | (simp; done) | (simp [*]; done)), H', ⟨Nat.le_refl _⟩, ⟨by (with_reducible repeat (first | apply Kd.R_alloc | apply Kd.R_drewN | apply Kd.R_drew)); exact HO_10.out⟩, ⟨by (with_reducible repeat (first | apply Kd.R_alloc | apply Kd.R_drewN | apply Kd.R_drew)); exact HO_11.out⟩, ⟨by (with_reducible repeat (first | apply Kd.R_alloc | apply Kd.R_drewN | apply Kd.R_drew)); exact HO_13.out⟩, ⟨by (with_reducible repeat (first | refine blk_drewN ?_ _ | refine blk_drew ?_ | refine blk_alloc ?_ _)); exact BK136.out⟩, ⟨by repeat (first | (with_reducible first | exact HB.out | apply below_alloc | apply pw_below_drewN | apply below_drew1 | refine below_set ?_ GE136.out) | exact HB.out)⟩⟩
                                            case round =>
                                              clear H'
                                              try clear c1
                                              try clear c2
                                              try clear p2
                                              try clear c3
                                              try clear c4
                                              try clear c5
                                              try clear c6
                                              try clear p6
                                              try clear c7
                                              try clear c8
                                              try clear c9
                                              try clear c9b0
                                              try clear c9b1
                                              try clear c11
                                              try clear c19
                                              try clear c20
                                              try clear c20b0
                                              try clear c23
                                              try clear c24
                                              try clear c25
                                              try clear c26
                                              try clear c26b0
                                              try clear c27
                                              try clear c27b0
                                              try clear c31
                                              try clear c34
                                              try clear c34b0
                                              try clear c34b1
                                              try clear c35
                                              try clear c35b0
                                              try clear c35b1
                                              try clear c36
                                              try clear c36b0
                                              try clear c36b1
                                              try clear c37
                                              try clear c37b0
                                              try clear c37b1
                                              try clear c45
                                              try clear c45b0
                                              try clear c45b1
                                              try clear c53
                                              try clear c53b0
                                              try clear c53b1
                                              try clear p64
                                              try clear c67
                                              try clear c67b0
                                              try clear c67b1
                                              try clear c68
                                              try clear c70
                                              try clear c70b0
                                              try clear c70b1
                                              try clear c73
                                              try clear c78
                                              try clear c78b0
                                              try clear c78b1
                                              try clear c79
                                              try clear c79b0
                                              try clear c79b1
                                              try clear c80
                                              try clear c80b0
                                              try clear c80b1
                                              try clear c81
                                              try clear c81b0
                                              try clear c81b1
                                              try clear hcz13_0
                                              try clear hcz13_1
                                              try clear hcz13_2
                                              try clear hcz13_3
                                              try clear hcz16_0
                                              try clear hcz16_1
                                              try clear hcz16_2
                                              try clear hcz16_3
                                              try clear hcz18_0
                                              try clear hcz18_1
                                              try clear hcz18_2
                                              try clear hcz18_3
                                              try clear hcz23_0
                                              try clear hcz23_1
                                              try clear hcz23_2
                                              try clear hcz23_3
                                              try clear hcz25_0
                                              try clear hcz25_1
                                              try clear hcz25_2
                                              try clear hcz25_3
                                              try clear hcz28_0
                                              try clear hcz28_1
                                              try clear hcz28_2
                                              try clear hcz28_3
                                              try clear hcz29_0
                                              try clear hcz29_1
                                              try clear hcz29_2
                                              try clear hcz29_3
                                              try clear hcz30_0
                                              try clear hcz30_1
                                              try clear hcz30_2
                                              try clear hcz30_3
                                              try clear hcz43_0
                                              try clear hcz43_1
                                              try clear hcz43_2
                                              try clear hcz43_3
                                              try clear hcz51_0
                                              try clear hcz51_1
                                              try clear hcz51_2
                                              try clear hcz51_3
                                              try clear hcz59_0
                                              try clear hcz59_1
                                              try clear hcz59_2
                                              try clear hcz59_3
                                              try clear hcz66_0
                                              try clear hcz66_1
                                              try clear hcz66_2
                                              try clear hcz66_3
                                              try clear hcz72_0
                                              try clear hcz72_1
                                              try clear hcz72_2
                                              try clear hcz72_3
                                              try clear hcz75_0
                                              try clear hcz75_1
                                              try clear hcz75_2
                                              try clear hcz75_3
                                              try clear hcz77_0
                                              try clear hcz77_1
                                              try clear hcz77_2
                                              try clear hcz77_3
                                              try clear hcz8_0
                                              try clear hcz8_1
                                              try clear hcz8_2
                                              try clear hcz8_3
                                              try clear hfz13_0
                                              try clear hfz13_1
                                              try clear hfz13_2
                                              try clear hfz13_3
                                              try clear hfz16_0
                                              try clear hfz16_1
                                              try clear hfz16_2
                                              try clear hfz16_3
                                              try clear hfz18_0
                                              try clear hfz18_1
                                              try clear hfz18_2
                                              try clear hfz18_3
                                              try clear hfz23_0
                                              try clear hfz23_1
                                              try clear hfz23_2
                                              try clear hfz23_3
                                              try clear hfz25_0
                                              try clear hfz25_1
                                              try clear hfz25_2
                                              try clear hfz25_3
                                              try clear hfz28_0
                                              try clear hfz28_1
                                              try clear hfz28_2
                                              try clear hfz28_3
                                              try clear hfz29_0
                                              try clear hfz29_1
                                              try clear hfz29_2
                                              try clear hfz29_3
                                              try clear hfz30_0
                                              try clear hfz30_1
                                              try clear hfz30_2
                                              try clear hfz30_3
                                              try clear hfz43_0
                                              try clear hfz43_1
                                              try clear hfz43_2
                                              try clear hfz43_3
                                              try clear hfz51_0
                                              try clear hfz51_1
                                              try clear hfz51_2
                                              try clear hfz51_3
                                              try clear hfz59_0
                                              try clear hfz59_1
                                              try clear hfz59_2
                                              try clear hfz59_3
                                              try clear hfz66_0
                                              try clear hfz66_1
                                              try clear hfz66_2
                                              try clear hfz66_3
                                              try clear hfz72_0
                                              try clear hfz72_1
                                              try clear hfz72_2
                                              try clear hfz72_3
                                              try clear hfz75_0
                                              try clear hfz75_1
                                              try clear hfz75_2
                                              try clear hfz75_3
                                              try clear hfz77_0
                                              try clear hfz77_1
                                              try clear hfz77_2
                                              try clear hfz77_3
                                              try clear hfz8_0
                                              try clear hfz8_1
                                              try clear hfz8_2
                                              try clear hfz8_3
                                              try clear p2
                                              try clear p6
                                              try clear p64
                                              obtain ⟨x13_4, x17_4, rfl, HA, HK4, HO_10, HO_11, HO_13, BK136, HB⟩ := hrel
                                              cases gk with
                                              | zero => exact absurd HA.out (by simp [geoderef03_Two.l0])
                                              | succ k4 =>
                                                have H := HA.out
                                                clear HA
                                                simp only [geoderef03_Two.l0] at H
                                                by_cases c82 : x17_4 < t133
                                                · rw [if_pos c82] at H
                                                  have c82b0 : decide (x17_4 < t133) = true := decide_eq_true c82
                                                  clear c82
                                                  by_cases c83 : t132 = 27
                                                  · rw [if_pos c83] at H
                                                    have c83b0 : (t132 == 27) = true := beq_iff_eq.mpr c83
                                                    have c83b1 : (t132 != 27) = false := bne_eq_false_iff_eq.mpr c83
                                                    clear c83
                                                    by_cases c84 : 0 ≤ x17_4
                                                    · rw [if_pos c84] at H
                                                      have c84b0 : decide (0 ≤ x17_4) = true := decide_eq_true c84
                                                      clear c84
                                                      by_cases c85 : x17_4 < (t141.length : Int)
                                                      · rw [if_pos c85] at H
                                                        have c85b0 : decide (x17_4 < (t141.length : Int)) = true := decide_eq_true c85
                                                        clear c85
                                                        by_cases c86 : x17_4 < (t144.length : Int)
                                                        · rw [if_pos c86] at H
                                                          have c86b0 : decide (x17_4 < (t144.length : Int)) = true := decide_eq_true c86
                                                          clear c86
                                                          by_cases c87 : x17_4 < (x13_4.length : Int)
                                                          · rw [if_pos c87] at H
                                                            have c87b0 : decide (x17_4 < (x13_4.length : Int)) = true := decide_eq_true c87
                                                            clear c87
                                                            obtain ⟨y159, hy159⟩ : ∃ y_ : List Int, y_ = (x13_4.set (x17_4 : Int).toNat (wrap64 ((rd t141 x17_4) * (rd t144 x17_4)))) := ⟨_, rfl⟩
                                                            replace H : (geoderef03_Two.l0 k4 t133 t141 t144 (wrap64 (Int.tmod a2 (IntKind.u64.wrap (t133)))) y159 (wrap64 (x17_4 + 1)) t132 t133 t134 t135) = some (r1, r2) := by first | (rw [hy159]; with_reducible exact H) | (have H2_ := (Option.bind_some _ _).symm.trans H; rw [hy159]; with_reducible exact H2_) | (have H2_ := (Option.bind_some _ _).symm.trans H; with_reducible exact H2_) | with_reducible exact H | (rw [hy159]; exact H) | exact H
                                                            have Ny159 := Aside0.mk hy159
                                                            clear hy159
                                                            have H' := Aside0.mk H
                                                            clear H
                                                            have hcz89_0 : wr.cell? ⟨gb136, 0, none⟩ = some (.int .i64 t132) := (blk_cell BK136.out 0).trans rfl
                                                            have hcz89_1 : wr.cell? ⟨gb136, 1, none⟩ = some (.int .i64 t133) := (blk_cell BK136.out 1).trans rfl
                                                            have hcz89_2 : wr.cell? ⟨gb136, 2, none⟩ = some (.int .i64 t134) := (blk_cell BK136.out 2).trans rfl
                                                            have hcz89_3 : wr.cell? ⟨gb136, 3, none⟩ = some (.int .i64 t135) := (blk_cell BK136.out 3).trans rfl
                                                            have hfz89_0 := blk_frozen BK136.out 0
                                                            have hfz89_1 := blk_frozen BK136.out 1
                                                            have hfz89_2 := blk_frozen BK136.out 2
                                                            have hfz89_3 := blk_frozen BK136.out 3
                                                            try go_wp2
                                                            have n0_ := Aside0.mk (Kd.R_drew HO_10.out)
                                                            have n1_ := Aside0.mk (Kd.R_drew HO_11.out)
                                                            have n2_ := Aside0.mk (Kd.R_drew HO_13.out)
                                                            have n3_ := Aside0.mk (blk_drew BK136.out)
                                                            have n4_ := Aside0.mk (below_drew1 HB.out)
                                                            clear HO_10
                                                            clear HO_11
                                                            clear HO_13
                                                            clear BK136
                                                            clear HB
                                                            have HO_10 := n0_
                                                            have HO_11 := n1_
                                                            have HO_13 := n2_
                                                            have BK136 := n3_
                                                            have HB := n4_
                                                            clear n0_ n1_ n2_ n3_ n4_
                                                            obtain ⟨Ao91, co91, eo91⟩ := Kd.R_slice HO_10.out
                                                            (first | subst eo91 | (injection eo91 with f1_ f2_ f3_; have f4_ := f1_.symm; have f5_ := f3_.symm; clear f1_ f2_ f3_; subst f4_; subst f5_))
                                                            have p157 : 0 ≤ (x17_4 : Int) := of_decide_eq_true (by first | (with_reducible assumption) | assumption)
                                                            have q157 : x17_4 < (t141.length : Int) := of_decide_eq_true (by first | (with_reducible assumption) | assumption)
                                                            obtain ⟨ad157, e157, hx157_0⟩ := Kd.at_int (Kd.R_reads' HO_10.out).2.2 x17_4 p157 q157
                                                            cases e157
                                                            replace p157 := eq_true p157
                                                            replace q157 := eq_true q157
                                                            obtain ⟨Ao92, co92, eo92⟩ := Kd.R_slice HO_11.out
                                                            (first | subst eo92 | (injection eo92 with f1_ f2_ f3_; have f4_ := f1_.symm; have f5_ := f3_.symm; clear f1_ f2_ f3_; subst f4_; subst f5_))
                                                            have p158 : 0 ≤ (x17_4 : Int) := of_decide_eq_true (by first | (with_reducible assumption) | assumption)
                                                            have q158 : x17_4 < (t144.length : Int) := of_decide_eq_true (by first | (with_reducible assumption) | assumption)
                                                            obtain ⟨ad158, e158, hx158_0⟩ := Kd.at_int (Kd.R_reads' HO_11.out).2.2 x17_4 p158 q158
                                                            cases e158
                                                            replace p158 := eq_true p158
                                                            replace q158 := eq_true q158
                                                            have p88 : 0 ≤ (x17_4 : Int) := of_decide_eq_true (by first | (with_reducible assumption) | assumption)
                                                            have q88 : (x17_4 : Int) < ((x13_4.length : Int) : Int) := of_decide_eq_true (by first | (with_reducible assumption) | assumption)
                                                            obtain ⟨go88, co88, eo88, gb88, gl88, cl88, HG88⟩ := Kd.R_form HO_13.out (by omega)
                                                            (first | cases eo88 | (injection eo88 with ea_ en_ ec_; (first | subst ea_ | (injection ea_ with ea_; subst ea_)); subst ec_; clear en_))
                                                            have GB88 := Aside0.mk gb88
                                                            have GG88 := Aside0.mk HG88
                                                            clear gb88 gl88 HG88
                                                            obtain ⟨hx88_0, hf88_0⟩ := Kd.R_celln 0 HO_13.out (x17_4 : Int) p88 q88
                                                            replace p88 := eq_true p88
                                                            replace q88 := eq_true q88
                                                            have HP93 := Kd.R_putn HO_13.out (x17_4 : Int) (wrap64 ((rd t141 x17_4) * (rd t144 x17_4)))
                                                            rw [← Ny159.out] at HP93
                                                            have HQ93 := Aside0.mk HP93
                                                            clear HP93
                                                            refine start_ (n := 13) (S := fun w' => w'.cell? (ad157.add (x17_4).toNat) = some (.int .i64 (rd t141 x17_4)) ∧ w'.cell? (ad158.add (x17_4).toNat) = some (.int .i64 (rd t144 x17_4))) (ds := [12]) #[false, false, false, false, false, false, false, false, false, false, false, false, false] (by kernel_rfl) rfl rfl ⟨hx157_0, hx158_0⟩ (fun hHeld => ?_); refine with_tabW geoderef03_Two.tab37 geoderef03_Two.bits37 (fun HT_ HW_ => ?_)
                                                            generalize wr.drew = w90 at HO_10 HO_11 HO_13 BK136 HB GG88 HQ93 hf88_0 hx157_0 hx158_0 hx88_0 hHeld ⊢
                                                            refine pure_ (i := 0) (N := some 131) (v := ?_) (a' := ?_) #[true, false, false, false, false, false, false, false, false, false, false, false, false] rfl rfl (any_of HT_.out (by kernel_rfl)) (fun _ _ _ h => h) (Or.inl ⟨by rfl, ?_⟩) ?_ ?_
                                                            rotate_left
                                                            · intro w'
                                                              go_simp
                                                              with_reducible rfl
                                                            rotate_left
                                                            · simp only [Act.put, List.setIfInBounds_toArray, List.set_cons_zero, List.set_cons_succ, i64_w, i32_w]
                                                              rfl
                                                            refine pure_ (i := 1) (N := some 132) (v := ?_) (a' := ?_) #[true, true, false, false, false, false, false, false, false, false, false, false, false] rfl rfl (any_of HT_.out (by kernel_rfl)) (fun _ _ _ h => h) (Or.inl ⟨by rfl, ?_⟩) ?_ ?_
                                                            rotate_left
                                                            · intro w'
                                                              go_simp
                                                              with_reducible rfl
                                                            rotate_left
                                                            · simp only [Act.put, List.setIfInBounds_toArray, List.set_cons_zero, List.set_cons_succ, i64_w, i32_w]
                                                              rfl
                                                            refine pure_ (i := 2) (N := some 133) (v := ?_) (a' := ?_) #[true, true, true, false, false, false, false, false, false, false, false, false, false] rfl rfl (any_of HT_.out (by kernel_rfl)) (fun _ _ _ h => h) (Or.inl ⟨by rfl, ?_⟩) ?_ ?_
                                                            rotate_left
                                                            · intro w'
                                                              go_simp
                                                              with_reducible rfl
                                                            rotate_left
                                                            · simp only [Act.put, List.setIfInBounds_toArray, List.set_cons_zero, List.set_cons_succ, i64_w, i32_w]
                                                              rfl
                                                            refine pure_ (i := 3) (N := some 134) (v := ?_) (a' := ?_) #[true, true, true, true, false, false, false, false, false, false, false, false, false] rfl rfl (any_of HT_.out (by kernel_rfl)) (fun _ _ _ h => h) (Or.inl ⟨by rfl, ?_⟩) ?_ ?_
                                                            rotate_left
                                                            · intro w'
                                                              go_simp
                                                              with_reducible rfl
                                                            rotate_left
                                                            · simp only [Act.put, List.setIfInBounds_toArray, List.set_cons_zero, List.set_cons_succ, i64_w, i32_w]
                                                              rfl
                                                            refine pure_ (i := 4) (N := some 135) (v := ?_) (a' := ?_) #[true, true, true, true, true, false, false, false, false, false, false, false, false] rfl rfl (any_of HT_.out (by kernel_rfl)) (fun _ _ _ h => h) (Or.inl ⟨by rfl, ?_⟩) ?_ ?_
                                                            rotate_left
                                                            · intro w'
                                                              go_simp
                                                              with_reducible rfl
                                                            rotate_left
                                                            · simp only [Act.put, List.setIfInBounds_toArray, List.set_cons_zero, List.set_cons_succ, i64_w, i32_w]
                                                              rfl
                                                            refine pure_ (i := 6) (N := some 137) (v := ?_) (a' := ?_) #[true, true, true, true, true, false, true, false, false, false, false, false, false] rfl rfl (any_of HT_.out (by kernel_rfl)) (fun _ _ _ h => h) (Or.inl ⟨by rfl, ?_⟩) ?_ ?_
                                                            rotate_left
                                                            · intro w'
                                                              go_simp
                                                              with_reducible rfl
                                                            rotate_left
                                                            · simp only [Act.put, List.setIfInBounds_toArray, List.set_cons_zero, List.set_cons_succ, i64_w, i32_w]
                                                              rfl
                                                            refine pure_ (i := 7) (N := some 138) (v := ?_) (a' := ?_) #[true, true, true, true, true, false, true, true, false, false, false, false, false] rfl rfl (any_of HT_.out (by kernel_rfl)) (fun _ _ _ h => h) (Or.inl ⟨by rfl, ?_⟩) ?_ ?_
                                                            rotate_left
                                                            · intro w'
                                                              go_simp
                                                              with_reducible rfl
                                                            rotate_left
                                                            · simp only [Act.put, List.setIfInBounds_toArray, List.set_cons_zero, List.set_cons_succ, i64_w, i32_w]
                                                              rfl
                                                            refine pure_ (i := 8) (N := some 139) (v := ?_) (a' := ?_) #[true, true, true, true, true, false, true, true, true, false, false, false, false] rfl rfl (any_of HT_.out (by kernel_rfl)) (fun _ _ _ h => h) (Or.inl ⟨by rfl, ?_⟩) ?_ ?_
                                                            rotate_left
                                                            · intro w'
                                                              go_simp
                                                              with_reducible rfl
                                                            rotate_left
                                                            · simp only [Act.put, List.setIfInBounds_toArray, List.set_cons_zero, List.set_cons_succ, i64_w, i32_w]
                                                              rfl
                                                            refine take_ (i := 5) (N := some 136) (v := ?_) (a' := ?_) #[true, true, true, true, true, true, true, true, true, false, false, false, false] rfl rfl (take_ofW HT_.out HW_.out (by kernel_rfl)) (fun _ _ _ h => h) (Or.inl ⟨by rfl, ?_⟩) hHeld ?_ ?_
                                                            rotate_left
                                                            · rintro w' ⟨s0, s1⟩
                                                              go_simp
                                                              with_reducible rfl
                                                            rotate_left
                                                            · simp only [Act.put, List.setIfInBounds_toArray, List.set_cons_zero, List.set_cons_succ, i64_w, i32_w]
                                                              rfl
                                                            refine take_ (i := 9) (N := some 140) (v := ?_) (a' := ?_) #[true, true, true, true, true, true, true, true, true, true, false, false, false] rfl rfl (take_ofW HT_.out HW_.out (by kernel_rfl)) (fun _ _ _ h => h) (Or.inl ⟨by rfl, ?_⟩) hHeld ?_ ?_
                                                            rotate_left
                                                            · rintro w' ⟨s0, s1⟩
                                                              go_simp
                                                              with_reducible rfl
                                                            rotate_left
                                                            · simp only [Act.put, List.setIfInBounds_toArray, List.set_cons_zero, List.set_cons_succ, i64_w, i32_w]
                                                              rfl
                                                            refine pure_ (i := 10) (N := some 141) (v := ?_) (a' := ?_) #[true, true, true, true, true, true, true, true, true, true, true, false, false] rfl rfl (any_of HT_.out (by kernel_rfl)) (fun _ _ _ h => h) (Or.inl ⟨by rfl, ?_⟩) ?_ ?_
                                                            rotate_left
                                                            · intro w'
                                                              go_simp
                                                              with_reducible rfl
                                                            rotate_left
                                                            · simp only [Act.put, List.setIfInBounds_toArray, List.set_cons_zero, List.set_cons_succ, i64_w, i32_w]
                                                              rfl
                                                            refine pure_ (i := 11) (N := some 142) (v := ?_) (a' := ?_) #[true, true, true, true, true, true, true, true, true, true, true, true, false] rfl rfl (any_of HT_.out (by kernel_rfl)) (fun _ _ _ h => h) (Or.inl ⟨by rfl, ?_⟩) ?_ ?_
                                                            rotate_left
                                                            · intro w'
                                                              go_simp
                                                              with_reducible rfl
                                                            rotate_left
                                                            · simp only [Act.put, List.setIfInBounds_toArray, List.set_cons_zero, List.set_cons_succ, i64_w, i32_w]
                                                              rfl
                                                            refine last_ (i := 12) (N := none) #[true, true, true, true, true, true, true, true, true, true, true, true, true] rfl rfl (one_of HT_.out (by kernel_rfl)) (by decide) (fun K hK => ?_)
                                                            refine skip_ (w1 := ?_) (by rfl) rfl ?_ ?_
                                                            rotate_left
                                                            · go_simp
                                                              rfl
                                                            refine hK.out _ _ ?_
                                                            clear hK K
                                                            refine done_ (done_of HT_.out (by kernel_rfl)) ?_
                                                            try go_wp2
                                                            go_roundg k4
                                                            case measure => have := HJ4.out; have := HJ23.out; have := HJ60.out; have := HK4.out; omega
                                                            case rel => exact ⟨(y159), (wrap64 (x17_4 + 1)), (by first | rfl | (simp; done) | (simp [*]; done)), H', ⟨by have := HJ4.out; have := HJ23.out; have := HJ60.out; have := HK4.out; omega⟩, ⟨by (with_reducible repeat (first | apply Kd.R_alloc | apply Kd.R_drewN | apply Kd.R_drew)); exact Kd.R_mono (Kd.R_far (p := ⟨go88, (x17_4 : Int).toNat, none⟩) (Kd.R_mono HO_10.out (fun k_ hk => (⟨hk, fun e_ => hk.2 (by rw [e_]; rfl)⟩ : _ ∧ k_ ≠ go88))) (fun _ hk => hk.2) (.int .i64 (wrap64 ((rd t141 x17_4) * (rd t144 x17_4))))) (fun _ hk => ⟨hk.1.1, hk.1.2⟩)⟩, ⟨by (with_reducible repeat (first | apply Kd.R_alloc | apply Kd.R_drewN | apply Kd.R_drew)); exact Kd.R_mono (Kd.R_far (p := ⟨go88, (x17_4 : Int).toNat, none⟩) (Kd.R_mono HO_11.out (fun k_ hk => (⟨hk, fun e_ => hk.2 (by rw [e_]; rfl)⟩ : _ ∧ k_ ≠ go88))) (fun _ hk => hk.2) (.int .i64 (wrap64 ((rd t141 x17_4) * (rd t144 x17_4))))) (fun _ hk => ⟨hk.1.1, hk.1.2⟩)⟩, ⟨by (with_reducible repeat (first | apply Kd.R_alloc | apply Kd.R_drewN | apply Kd.R_drew)); exact HQ93.out⟩, ⟨by (with_reducible repeat (first | refine blk_drewN ?_ _ | refine blk_drew ?_ | refine blk_alloc ?_ _)); refine blk_far ?_ (by have h_ := Kd.R_ne HO_13.out BK136.out (by decide); intro e_; exact h_ (by rw [e_]; rfl)) _; (with_reducible repeat (first | refine blk_drewN ?_ _ | refine blk_drew ?_ | refine blk_alloc ?_ _)); exact BK136.out⟩, ⟨by repeat (first | (with_reducible first | exact HB.out | apply below_alloc | apply pw_below_drewN | apply below_drew1 | refine below_set ?_ GB88.out | refine below_set ?_ GE136.out) | exact HB.out)⟩⟩
                                                          · rw [if_neg c87] at H
                                                            exact absurd H (by simp)
                                                        · rw [if_neg c86] at H
                                                          exact absurd H (by simp)
                                                      · rw [if_neg c85] at H
                                                        exact absurd H (by simp)
                                                    · rw [if_neg c84] at H
                                                      exact absurd H (by simp)
                                                  · rw [if_neg c83] at H
                                                    have c83b0 : (t132 == 27) = false := beq_eq_false_iff_ne.mpr c83
                                                    have c83b1 : (t132 != 27) = true := bne_iff_ne.mpr c83
                                                    by_cases c94 : t132 = 28
                                                    · rw [if_pos c94] at H
                                                      have c94b0 : (t132 == 28) = true := beq_iff_eq.mpr c94
                                                      have c94b1 : (t132 != 28) = false := bne_eq_false_iff_eq.mpr c94
                                                      clear c94
                                                      by_cases c95 : 0 ≤ x17_4
                                                      · rw [if_pos c95] at H
                                                        have c95b0 : decide (0 ≤ x17_4) = true := decide_eq_true c95
                                                        clear c95
                                                        by_cases c96 : x17_4 < (t141.length : Int)
                                                        · rw [if_pos c96] at H
                                                          have c96b0 : decide (x17_4 < (t141.length : Int)) = true := decide_eq_true c96
                                                          clear c96
                                                          by_cases c97 : x17_4 < (t144.length : Int)
                                                          · rw [if_pos c97] at H
                                                            have c97b0 : decide (x17_4 < (t144.length : Int)) = true := decide_eq_true c97
                                                            clear c97
                                                            by_cases c98 : x17_4 < (x13_4.length : Int)
                                                            · rw [if_pos c98] at H
                                                              have c98b0 : decide (x17_4 < (x13_4.length : Int)) = true := decide_eq_true c98
                                                              clear c98
                                                              obtain ⟨y162, hy162⟩ : ∃ y_ : List Int, y_ = (x13_4.set (x17_4 : Int).toNat (wrap64 (Int.tdiv (wrap64 ((wrap64 ((rd t141 x17_4) + (rd t144 x17_4))) + 1)) 2))) := ⟨_, rfl⟩
                                                              replace H : (geoderef03_Two.l0 k4 t133 t141 t144 (wrap64 (Int.tmod a2 (IntKind.u64.wrap (t133)))) y162 (wrap64 (x17_4 + 1)) t132 t133 t134 t135) = some (r1, r2) := by first | (rw [hy162]; with_reducible exact H) | (have H2_ := (Option.bind_some _ _).symm.trans H; rw [hy162]; with_reducible exact H2_) | (have H2_ := (Option.bind_some _ _).symm.trans H; with_reducible exact H2_) | with_reducible exact H | (rw [hy162]; exact H) | exact H
                                                              have Ny162 := Aside0.mk hy162
                                                              clear hy162
                                                              have H' := Aside0.mk H
                                                              clear H
                                                              have hcz100_0 : wr.cell? ⟨gb136, 0, none⟩ = some (.int .i64 t132) := (blk_cell BK136.out 0).trans rfl
                                                              have hcz100_1 : wr.cell? ⟨gb136, 1, none⟩ = some (.int .i64 t133) := (blk_cell BK136.out 1).trans rfl
                                                              have hcz100_2 : wr.cell? ⟨gb136, 2, none⟩ = some (.int .i64 t134) := (blk_cell BK136.out 2).trans rfl
                                                              have hcz100_3 : wr.cell? ⟨gb136, 3, none⟩ = some (.int .i64 t135) := (blk_cell BK136.out 3).trans rfl
                                                              have hfz100_0 := blk_frozen BK136.out 0
                                                              have hfz100_1 := blk_frozen BK136.out 1
                                                              have hfz100_2 := blk_frozen BK136.out 2
                                                              have hfz100_3 := blk_frozen BK136.out 3
                                                              try go_wp2
                                                              have n0_ := Aside0.mk (Kd.R_drew HO_10.out)
                                                              have n1_ := Aside0.mk (Kd.R_drew HO_11.out)
                                                              have n2_ := Aside0.mk (Kd.R_drew HO_13.out)
                                                              have n3_ := Aside0.mk (blk_drew BK136.out)
                                                              have n4_ := Aside0.mk (below_drew1 HB.out)
                                                              clear HO_10
                                                              clear HO_11
                                                              clear HO_13
                                                              clear BK136
                                                              clear HB
                                                              have HO_10 := n0_
                                                              have HO_11 := n1_
                                                              have HO_13 := n2_
                                                              have BK136 := n3_
                                                              have HB := n4_
                                                              clear n0_ n1_ n2_ n3_ n4_
                                                              obtain ⟨Ao102, co102, eo102⟩ := Kd.R_slice HO_10.out
                                                              (first | subst eo102 | (injection eo102 with f1_ f2_ f3_; have f4_ := f1_.symm; have f5_ := f3_.symm; clear f1_ f2_ f3_; subst f4_; subst f5_))
                                                              have p160 : 0 ≤ (x17_4 : Int) := of_decide_eq_true (by first | (with_reducible assumption) | assumption)
                                                              have q160 : x17_4 < (t141.length : Int) := of_decide_eq_true (by first | (with_reducible assumption) | assumption)
                                                              obtain ⟨ad160, e160, hx160_0⟩ := Kd.at_int (Kd.R_reads' HO_10.out).2.2 x17_4 p160 q160
                                                              cases e160
                                                              replace p160 := eq_true p160
                                                              replace q160 := eq_true q160
                                                              obtain ⟨Ao103, co103, eo103⟩ := Kd.R_slice HO_11.out
                                                              (first | subst eo103 | (injection eo103 with f1_ f2_ f3_; have f4_ := f1_.symm; have f5_ := f3_.symm; clear f1_ f2_ f3_; subst f4_; subst f5_))
                                                              have p161 : 0 ≤ (x17_4 : Int) := of_decide_eq_true (by first | (with_reducible assumption) | assumption)
                                                              have q161 : x17_4 < (t144.length : Int) := of_decide_eq_true (by first | (with_reducible assumption) | assumption)
                                                              obtain ⟨ad161, e161, hx161_0⟩ := Kd.at_int (Kd.R_reads' HO_11.out).2.2 x17_4 p161 q161
                                                              cases e161
                                                              replace p161 := eq_true p161
                                                              replace q161 := eq_true q161
                                                              have p99 : 0 ≤ (x17_4 : Int) := of_decide_eq_true (by first | (with_reducible assumption) | assumption)
                                                              have q99 : (x17_4 : Int) < ((x13_4.length : Int) : Int) := of_decide_eq_true (by first | (with_reducible assumption) | assumption)
                                                              obtain ⟨go99, co99, eo99, gb99, gl99, cl99, HG99⟩ := Kd.R_form HO_13.out (by omega)
                                                              (first | cases eo99 | (injection eo99 with ea_ en_ ec_; (first | subst ea_ | (injection ea_ with ea_; subst ea_)); subst ec_; clear en_))
                                                              have GB99 := Aside0.mk gb99
                                                              have GG99 := Aside0.mk HG99
                                                              clear gb99 gl99 HG99
                                                              obtain ⟨hx99_0, hf99_0⟩ := Kd.R_celln 0 HO_13.out (x17_4 : Int) p99 q99
                                                              replace p99 := eq_true p99
                                                              replace q99 := eq_true q99
                                                              have HP104 := Kd.R_putn HO_13.out (x17_4 : Int) (wrap64 (Int.tdiv (wrap64 ((wrap64 ((rd t141 x17_4) + (rd t144 x17_4))) + 1)) 2))
                                                              rw [← Ny162.out] at HP104
                                                              have HQ104 := Aside0.mk HP104
                                                              clear HP104
                                                              refine start_ (n := 15) (S := fun w' => w'.cell? (ad160.add (x17_4).toNat) = some (.int .i64 (rd t141 x17_4)) ∧ w'.cell? (ad161.add (x17_4).toNat) = some (.int .i64 (rd t144 x17_4))) (ds := [14]) #[false, false, false, false, false, false, false, false, false, false, false, false, false, false, false] (by kernel_rfl) rfl rfl ⟨hx160_0, hx161_0⟩ (fun hHeld => ?_); refine with_tabW geoderef03_Two.tab39 geoderef03_Two.bits39 (fun HT_ HW_ => ?_)
                                                              generalize wr.drew = w101 at HO_10 HO_11 HO_13 BK136 HB GG99 HQ104 hf99_0 hx160_0 hx161_0 hx99_0 hHeld ⊢
                                                              refine pure_ (i := 0) (N := some 145) (v := ?_) (a' := ?_) #[true, false, false, false, false, false, false, false, false, false, false, false, false, false, false] rfl rfl (any_of HT_.out (by kernel_rfl)) (fun _ _ _ h => h) (Or.inl ⟨by rfl, ?_⟩) ?_ ?_
                                                              rotate_left
                                                              · intro w'
                                                                go_simp
                                                                with_reducible rfl
                                                              rotate_left
                                                              · simp only [Act.put, List.setIfInBounds_toArray, List.set_cons_zero, List.set_cons_succ, i64_w, i32_w]
                                                                rfl
                                                              refine pure_ (i := 1) (N := some 146) (v := ?_) (a' := ?_) #[true, true, false, false, false, false, false, false, false, false, false, false, false, false, false] rfl rfl (any_of HT_.out (by kernel_rfl)) (fun _ _ _ h => h) (Or.inl ⟨by rfl, ?_⟩) ?_ ?_
                                                              rotate_left
                                                              · intro w'
                                                                go_simp
                                                                with_reducible rfl
                                                              rotate_left
                                                              · simp only [Act.put, List.setIfInBounds_toArray, List.set_cons_zero, List.set_cons_succ, i64_w, i32_w]
                                                                rfl
                                                              refine pure_ (i := 2) (N := some 147) (v := ?_) (a' := ?_) #[true, true, true, false, false, false, false, false, false, false, false, false, false, false, false] rfl rfl (any_of HT_.out (by kernel_rfl)) (fun _ _ _ h => h) (Or.inl ⟨by rfl, ?_⟩) ?_ ?_
                                                              rotate_left
                                                              · intro w'
                                                                go_simp
                                                                with_reducible rfl
                                                              rotate_left
                                                              · simp only [Act.put, List.setIfInBounds_toArray, List.set_cons_zero, List.set_cons_succ, i64_w, i32_w]
                                                                rfl
                                                              refine pure_ (i := 3) (N := some 148) (v := ?_) (a' := ?_) #[true, true, true, true, false, false, false, false, false, false, false, false, false, false, false] rfl rfl (any_of HT_.out (by kernel_rfl)) (fun _ _ _ h => h) (Or.inl ⟨by rfl, ?_⟩) ?_ ?_
                                                              rotate_left
                                                              · intro w'
                                                                go_simp
                                                                with_reducible rfl
                                                              rotate_left
                                                              · simp only [Act.put, List.setIfInBounds_toArray, List.set_cons_zero, List.set_cons_succ, i64_w, i32_w]
                                                                rfl
                                                              refine pure_ (i := 4) (N := some 149) (v := ?_) (a' := ?_) #[true, true, true, true, true, false, false, false, false, false, false, false, false, false, false] rfl rfl (any_of HT_.out (by kernel_rfl)) (fun _ _ _ h => h) (Or.inl ⟨by rfl, ?_⟩) ?_ ?_
                                                              rotate_left
                                                              · intro w'
                                                                go_simp
                                                                with_reducible rfl
                                                              rotate_left
                                                              · simp only [Act.put, List.setIfInBounds_toArray, List.set_cons_zero, List.set_cons_succ, i64_w, i32_w]
                                                                rfl
                                                              refine pure_ (i := 6) (N := some 151) (v := ?_) (a' := ?_) #[true, true, true, true, true, false, true, false, false, false, false, false, false, false, false] rfl rfl (any_of HT_.out (by kernel_rfl)) (fun _ _ _ h => h) (Or.inl ⟨by rfl, ?_⟩) ?_ ?_
                                                              rotate_left
                                                              · intro w'
                                                                go_simp
                                                                with_reducible rfl
                                                              rotate_left
                                                              · simp only [Act.put, List.setIfInBounds_toArray, List.set_cons_zero, List.set_cons_succ, i64_w, i32_w]
                                                                rfl
                                                              refine pure_ (i := 7) (N := some 152) (v := ?_) (a' := ?_) #[true, true, true, true, true, false, true, true, false, false, false, false, false, false, false] rfl rfl (any_of HT_.out (by kernel_rfl)) (fun _ _ _ h => h) (Or.inl ⟨by rfl, ?_⟩) ?_ ?_
                                                              rotate_left
                                                              · intro w'
                                                                go_simp
                                                                with_reducible rfl
                                                              rotate_left
                                                              · simp only [Act.put, List.setIfInBounds_toArray, List.set_cons_zero, List.set_cons_succ, i64_w, i32_w]
                                                                rfl
                                                              refine pure_ (i := 8) (N := some 153) (v := ?_) (a' := ?_) #[true, true, true, true, true, false, true, true, true, false, false, false, false, false, false] rfl rfl (any_of HT_.out (by kernel_rfl)) (fun _ _ _ h => h) (Or.inl ⟨by rfl, ?_⟩) ?_ ?_
                                                              rotate_left
                                                              · intro w'
                                                                go_simp
                                                                with_reducible rfl
                                                              rotate_left
                                                              · simp only [Act.put, List.setIfInBounds_toArray, List.set_cons_zero, List.set_cons_succ, i64_w, i32_w]
                                                                rfl
                                                              refine take_ (i := 5) (N := some 150) (v := ?_) (a' := ?_) #[true, true, true, true, true, true, true, true, true, false, false, false, false, false, false] rfl rfl (take_ofW HT_.out HW_.out (by kernel_rfl)) (fun _ _ _ h => h) (Or.inl ⟨by rfl, ?_⟩) hHeld ?_ ?_
                                                              rotate_left
                                                              · rintro w' ⟨s0, s1⟩
                                                                go_simp
                                                                with_reducible rfl
                                                              rotate_left
                                                              · simp only [Act.put, List.setIfInBounds_toArray, List.set_cons_zero, List.set_cons_succ, i64_w, i32_w]
                                                                rfl
                                                              refine take_ (i := 9) (N := some 154) (v := ?_) (a' := ?_) #[true, true, true, true, true, true, true, true, true, true, false, false, false, false, false] rfl rfl (take_ofW HT_.out HW_.out (by kernel_rfl)) (fun _ _ _ h => h) (Or.inl ⟨by rfl, ?_⟩) hHeld ?_ ?_
                                                              rotate_left
                                                              · rintro w' ⟨s0, s1⟩
                                                                go_simp
                                                                with_reducible rfl
                                                              rotate_left
                                                              · simp only [Act.put, List.setIfInBounds_toArray, List.set_cons_zero, List.set_cons_succ, i64_w, i32_w]
                                                                rfl
                                                              refine pure_ (i := 10) (N := some 155) (v := ?_) (a' := ?_) #[true, true, true, true, true, true, true, true, true, true, true, false, false, false, false] rfl rfl (any_of HT_.out (by kernel_rfl)) (fun _ _ _ h => h) (Or.inl ⟨by rfl, ?_⟩) ?_ ?_
                                                              rotate_left
                                                              · intro w'
                                                                go_simp
                                                                with_reducible rfl
                                                              rotate_left
                                                              · simp only [Act.put, List.setIfInBounds_toArray, List.set_cons_zero, List.set_cons_succ, i64_w, i32_w]
                                                                rfl
                                                              refine pure_ (i := 11) (N := some 156) (v := ?_) (a' := ?_) #[true, true, true, true, true, true, true, true, true, true, true, true, false, false, false] rfl rfl (any_of HT_.out (by kernel_rfl)) (fun _ _ _ h => h) (Or.inl ⟨by rfl, ?_⟩) ?_ ?_
                                                              rotate_left
                                                              · intro w'
                                                                go_simp
                                                                with_reducible rfl
                                                              rotate_left
                                                              · simp only [Act.put, List.setIfInBounds_toArray, List.set_cons_zero, List.set_cons_succ, i64_w, i32_w]
                                                                rfl
                                                              refine pure_ (i := 12) (N := some 157) (v := ?_) (a' := ?_) #[true, true, true, true, true, true, true, true, true, true, true, true, true, false, false] rfl rfl (any_of HT_.out (by kernel_rfl)) (fun _ _ _ h => h) (Or.inl ⟨by rfl, ?_⟩) ?_ ?_
                                                              rotate_left
                                                              · intro w'
                                                                go_simp
                                                                with_reducible rfl
                                                              rotate_left
                                                              · simp only [Act.put, List.setIfInBounds_toArray, List.set_cons_zero, List.set_cons_succ, i64_w, i32_w]
                                                                rfl
                                                              refine pure_ (i := 13) (N := some 158) (v := ?_) (a' := ?_) #[true, true, true, true, true, true, true, true, true, true, true, true, true, true, false] rfl rfl (any_of HT_.out (by kernel_rfl)) (fun _ _ _ h => h) (Or.inl ⟨by rfl, ?_⟩) ?_ ?_
                                                              rotate_left
                                                              · intro w'
                                                                go_simp
                                                                with_reducible rfl
                                                              rotate_left
                                                              · simp only [Act.put, List.setIfInBounds_toArray, List.set_cons_zero, List.set_cons_succ, i64_w, i32_w]
                                                                rfl
                                                              refine last_ (i := 14) (N := none) #[true, true, true, true, true, true, true, true, true, true, true, true, true, true, true] rfl rfl (one_of HT_.out (by kernel_rfl)) (by decide) (fun K hK => ?_)
                                                              refine skip_ (w1 := ?_) (by rfl) rfl ?_ ?_
                                                              rotate_left
                                                              · go_simp
                                                                rfl
                                                              refine hK.out _ _ ?_
                                                              clear hK K
                                                              refine done_ (done_of HT_.out (by kernel_rfl)) ?_
                                                              try go_wp2
                                                              go_roundg k4
                                                              case measure => have := HJ4.out; have := HJ23.out; have := HJ60.out; have := HK4.out; omega
                                                              case rel => exact ⟨(y162), (wrap64 (x17_4 + 1)), (by first | rfl | (simp; done) | (simp [*]; done)), H', ⟨by have := HJ4.out; have := HJ23.out; have := HJ60.out; have := HK4.out; omega⟩, ⟨by (with_reducible repeat (first | apply Kd.R_alloc | apply Kd.R_drewN | apply Kd.R_drew)); exact Kd.R_mono (Kd.R_far (p := ⟨go99, (x17_4 : Int).toNat, none⟩) (Kd.R_mono HO_10.out (fun k_ hk => (⟨hk, fun e_ => hk.2 (by rw [e_]; rfl)⟩ : _ ∧ k_ ≠ go99))) (fun _ hk => hk.2) (.int .i64 (wrap64 (Int.tdiv (wrap64 ((wrap64 ((rd t141 x17_4) + (rd t144 x17_4))) + 1)) 2)))) (fun _ hk => ⟨hk.1.1, hk.1.2⟩)⟩, ⟨by (with_reducible repeat (first | apply Kd.R_alloc | apply Kd.R_drewN | apply Kd.R_drew)); exact Kd.R_mono (Kd.R_far (p := ⟨go99, (x17_4 : Int).toNat, none⟩) (Kd.R_mono HO_11.out (fun k_ hk => (⟨hk, fun e_ => hk.2 (by rw [e_]; rfl)⟩ : _ ∧ k_ ≠ go99))) (fun _ hk => hk.2) (.int .i64 (wrap64 (Int.tdiv (wrap64 ((wrap64 ((rd t141 x17_4) + (rd t144 x17_4))) + 1)) 2)))) (fun _ hk => ⟨hk.1.1, hk.1.2⟩)⟩, ⟨by (with_reducible repeat (first | apply Kd.R_alloc | apply Kd.R_drewN | apply Kd.R_drew)); exact HQ104.out⟩, ⟨by (with_reducible repeat (first | refine blk_drewN ?_ _ | refine blk_drew ?_ | refine blk_alloc ?_ _)); refine blk_far ?_ (by have h_ := Kd.R_ne HO_13.out BK136.out (by decide); intro e_; exact h_ (by rw [e_]; rfl)) _; (with_reducible repeat (first | refine blk_drewN ?_ _ | refine blk_drew ?_ | refine blk_alloc ?_ _)); exact BK136.out⟩, ⟨by repeat (first | (with_reducible first | exact HB.out | apply below_alloc | apply pw_below_drewN | apply below_drew1 | refine below_set ?_ GB99.out | refine below_set ?_ GE136.out) | exact HB.out)⟩⟩
                                                            · rw [if_neg c98] at H
                                                              exact absurd H (by simp)
                                                          · rw [if_neg c97] at H
                                                            exact absurd H (by simp)
                                                        · rw [if_neg c96] at H
                                                          exact absurd H (by simp)
                                                      · rw [if_neg c95] at H
                                                        exact absurd H (by simp)
                                                    · rw [if_neg c94] at H
                                                      have c94b0 : (t132 == 28) = false := beq_eq_false_iff_ne.mpr c94
                                                      have c94b1 : (t132 != 28) = true := bne_iff_ne.mpr c94
                                                      by_cases c105 : t132 = 29
                                                      · rw [if_pos c105] at H
                                                        have c105b0 : (t132 == 29) = true := beq_iff_eq.mpr c105
                                                        have c105b1 : (t132 != 29) = false := bne_eq_false_iff_eq.mpr c105
                                                        clear c105
                                                        by_cases c106 : 0 ≤ x17_4
                                                        · rw [if_pos c106] at H
                                                          have c106b0 : decide (0 ≤ x17_4) = true := decide_eq_true c106
                                                          clear c106
                                                          by_cases c107 : x17_4 < (t141.length : Int)
                                                          · rw [if_pos c107] at H
                                                            have c107b0 : decide (x17_4 < (t141.length : Int)) = true := decide_eq_true c107
                                                            clear c107
                                                            by_cases c108 : x17_4 < (t144.length : Int)
                                                            · rw [if_pos c108] at H
                                                              have c108b0 : decide (x17_4 < (t144.length : Int)) = true := decide_eq_true c108
                                                              clear c108
                                                              by_cases c109 : x17_4 < (x13_4.length : Int)
                                                              · rw [if_pos c109] at H
                                                                have c109b0 : decide (x17_4 < (x13_4.length : Int)) = true := decide_eq_true c109
                                                                clear c109
                                                                obtain ⟨y165, hy165⟩ : ∃ y_ : List Int, y_ = (x13_4.set (x17_4 : Int).toNat (Int.tmod (wrap64 ((rd t141 x17_4) + (rd t144 x17_4))) 2)) := ⟨_, rfl⟩
                                                                replace H : (geoderef03_Two.l0 k4 t133 t141 t144 (wrap64 (Int.tmod a2 (IntKind.u64.wrap (t133)))) y165 (wrap64 (x17_4 + 1)) t132 t133 t134 t135) = some (r1, r2) := by first | (rw [hy165]; with_reducible exact H) | (have H2_ := (Option.bind_some _ _).symm.trans H; rw [hy165]; with_reducible exact H2_) | (have H2_ := (Option.bind_some _ _).symm.trans H; with_reducible exact H2_) | with_reducible exact H | (rw [hy165]; exact H) | exact H
                                                                have Ny165 := Aside0.mk hy165
                                                                clear hy165
                                                                have H' := Aside0.mk H
                                                                clear H
                                                                have hcz111_0 : wr.cell? ⟨gb136, 0, none⟩ = some (.int .i64 t132) := (blk_cell BK136.out 0).trans rfl
                                                                have hcz111_1 : wr.cell? ⟨gb136, 1, none⟩ = some (.int .i64 t133) := (blk_cell BK136.out 1).trans rfl
                                                                have hcz111_2 : wr.cell? ⟨gb136, 2, none⟩ = some (.int .i64 t134) := (blk_cell BK136.out 2).trans rfl
                                                                have hcz111_3 : wr.cell? ⟨gb136, 3, none⟩ = some (.int .i64 t135) := (blk_cell BK136.out 3).trans rfl
                                                                have hfz111_0 := blk_frozen BK136.out 0
                                                                have hfz111_1 := blk_frozen BK136.out 1
                                                                have hfz111_2 := blk_frozen BK136.out 2
                                                                have hfz111_3 := blk_frozen BK136.out 3
                                                                try go_wp2
                                                                have n0_ := Aside0.mk (Kd.R_drew HO_10.out)
                                                                have n1_ := Aside0.mk (Kd.R_drew HO_11.out)
                                                                have n2_ := Aside0.mk (Kd.R_drew HO_13.out)
                                                                have n3_ := Aside0.mk (blk_drew BK136.out)
                                                                have n4_ := Aside0.mk (below_drew1 HB.out)
                                                                clear HO_10
                                                                clear HO_11
                                                                clear HO_13
                                                                clear BK136
                                                                clear HB
                                                                have HO_10 := n0_
                                                                have HO_11 := n1_
                                                                have HO_13 := n2_
                                                                have BK136 := n3_
                                                                have HB := n4_
                                                                clear n0_ n1_ n2_ n3_ n4_
                                                                obtain ⟨Ao113, co113, eo113⟩ := Kd.R_slice HO_10.out
                                                                (first | subst eo113 | (injection eo113 with f1_ f2_ f3_; have f4_ := f1_.symm; have f5_ := f3_.symm; clear f1_ f2_ f3_; subst f4_; subst f5_))
                                                                have p163 : 0 ≤ (x17_4 : Int) := of_decide_eq_true (by first | (with_reducible assumption) | assumption)
                                                                have q163 : x17_4 < (t141.length : Int) := of_decide_eq_true (by first | (with_reducible assumption) | assumption)
                                                                obtain ⟨ad163, e163, hx163_0⟩ := Kd.at_int (Kd.R_reads' HO_10.out).2.2 x17_4 p163 q163
                                                                cases e163
                                                                replace p163 := eq_true p163
                                                                replace q163 := eq_true q163
                                                                obtain ⟨Ao114, co114, eo114⟩ := Kd.R_slice HO_11.out
                                                                (first | subst eo114 | (injection eo114 with f1_ f2_ f3_; have f4_ := f1_.symm; have f5_ := f3_.symm; clear f1_ f2_ f3_; subst f4_; subst f5_))
                                                                have p164 : 0 ≤ (x17_4 : Int) := of_decide_eq_true (by first | (with_reducible assumption) | assumption)
                                                                have q164 : x17_4 < (t144.length : Int) := of_decide_eq_true (by first | (with_reducible assumption) | assumption)
                                                                obtain ⟨ad164, e164, hx164_0⟩ := Kd.at_int (Kd.R_reads' HO_11.out).2.2 x17_4 p164 q164
                                                                cases e164
                                                                replace p164 := eq_true p164
                                                                replace q164 := eq_true q164
                                                                have p110 : 0 ≤ (x17_4 : Int) := of_decide_eq_true (by first | (with_reducible assumption) | assumption)
                                                                have q110 : (x17_4 : Int) < ((x13_4.length : Int) : Int) := of_decide_eq_true (by first | (with_reducible assumption) | assumption)
                                                                obtain ⟨go110, co110, eo110, gb110, gl110, cl110, HG110⟩ := Kd.R_form HO_13.out (by omega)
                                                                (first | cases eo110 | (injection eo110 with ea_ en_ ec_; (first | subst ea_ | (injection ea_ with ea_; subst ea_)); subst ec_; clear en_))
                                                                have GB110 := Aside0.mk gb110
                                                                have GG110 := Aside0.mk HG110
                                                                clear gb110 gl110 HG110
                                                                obtain ⟨hx110_0, hf110_0⟩ := Kd.R_celln 0 HO_13.out (x17_4 : Int) p110 q110
                                                                replace p110 := eq_true p110
                                                                replace q110 := eq_true q110
                                                                have HP115 := Kd.R_putn HO_13.out (x17_4 : Int) (Int.tmod (wrap64 ((rd t141 x17_4) + (rd t144 x17_4))) 2)
                                                                rw [← Ny165.out] at HP115
                                                                have HQ115 := Aside0.mk HP115
                                                                clear HP115
                                                                refine start_ (n := 14) (S := fun w' => w'.cell? (ad163.add (x17_4).toNat) = some (.int .i64 (rd t141 x17_4)) ∧ w'.cell? (ad164.add (x17_4).toNat) = some (.int .i64 (rd t144 x17_4))) (ds := [13]) #[false, false, false, false, false, false, false, false, false, false, false, false, false, false] (by kernel_rfl) rfl rfl ⟨hx163_0, hx164_0⟩ (fun hHeld => ?_); refine with_tabW geoderef03_Two.tab41 geoderef03_Two.bits41 (fun HT_ HW_ => ?_)
                                                                generalize wr.drew = w112 at HO_10 HO_11 HO_13 BK136 HB GG110 HQ115 hf110_0 hx110_0 hx163_0 hx164_0 hHeld ⊢
                                                                refine pure_ (i := 0) (N := some 161) (v := ?_) (a' := ?_) #[true, false, false, false, false, false, false, false, false, false, false, false, false, false] rfl rfl (any_of HT_.out (by kernel_rfl)) (fun _ _ _ h => h) (Or.inl ⟨by rfl, ?_⟩) ?_ ?_
                                                                rotate_left
                                                                · intro w'
                                                                  go_simp
                                                                  with_reducible rfl
                                                                rotate_left
                                                                · simp only [Act.put, List.setIfInBounds_toArray, List.set_cons_zero, List.set_cons_succ, i64_w, i32_w]
                                                                  rfl
                                                                refine pure_ (i := 1) (N := some 162) (v := ?_) (a' := ?_) #[true, true, false, false, false, false, false, false, false, false, false, false, false, false] rfl rfl (any_of HT_.out (by kernel_rfl)) (fun _ _ _ h => h) (Or.inl ⟨by rfl, ?_⟩) ?_ ?_
                                                                rotate_left
                                                                · intro w'
                                                                  go_simp
                                                                  with_reducible rfl
                                                                rotate_left
                                                                · simp only [Act.put, List.setIfInBounds_toArray, List.set_cons_zero, List.set_cons_succ, i64_w, i32_w]
                                                                  rfl
                                                                refine pure_ (i := 2) (N := some 163) (v := ?_) (a' := ?_) #[true, true, true, false, false, false, false, false, false, false, false, false, false, false] rfl rfl (any_of HT_.out (by kernel_rfl)) (fun _ _ _ h => h) (Or.inl ⟨by rfl, ?_⟩) ?_ ?_
                                                                rotate_left
                                                                · intro w'
                                                                  go_simp
                                                                  with_reducible rfl
                                                                rotate_left
                                                                · simp only [Act.put, List.setIfInBounds_toArray, List.set_cons_zero, List.set_cons_succ, i64_w, i32_w]
                                                                  rfl
                                                                refine pure_ (i := 3) (N := some 164) (v := ?_) (a' := ?_) #[true, true, true, true, false, false, false, false, false, false, false, false, false, false] rfl rfl (any_of HT_.out (by kernel_rfl)) (fun _ _ _ h => h) (Or.inl ⟨by rfl, ?_⟩) ?_ ?_
                                                                rotate_left
                                                                · intro w'
                                                                  go_simp
                                                                  with_reducible rfl
                                                                rotate_left
                                                                · simp only [Act.put, List.setIfInBounds_toArray, List.set_cons_zero, List.set_cons_succ, i64_w, i32_w]
                                                                  rfl
                                                                refine pure_ (i := 4) (N := some 165) (v := ?_) (a' := ?_) #[true, true, true, true, true, false, false, false, false, false, false, false, false, false] rfl rfl (any_of HT_.out (by kernel_rfl)) (fun _ _ _ h => h) (Or.inl ⟨by rfl, ?_⟩) ?_ ?_
                                                                rotate_left
                                                                · intro w'
                                                                  go_simp
                                                                  with_reducible rfl
                                                                rotate_left
                                                                · simp only [Act.put, List.setIfInBounds_toArray, List.set_cons_zero, List.set_cons_succ, i64_w, i32_w]
                                                                  rfl
                                                                refine pure_ (i := 6) (N := some 167) (v := ?_) (a' := ?_) #[true, true, true, true, true, false, true, false, false, false, false, false, false, false] rfl rfl (any_of HT_.out (by kernel_rfl)) (fun _ _ _ h => h) (Or.inl ⟨by rfl, ?_⟩) ?_ ?_
                                                                rotate_left
                                                                · intro w'
                                                                  go_simp
                                                                  with_reducible rfl
                                                                rotate_left
                                                                · simp only [Act.put, List.setIfInBounds_toArray, List.set_cons_zero, List.set_cons_succ, i64_w, i32_w]
                                                                  rfl
                                                                refine pure_ (i := 7) (N := some 168) (v := ?_) (a' := ?_) #[true, true, true, true, true, false, true, true, false, false, false, false, false, false] rfl rfl (any_of HT_.out (by kernel_rfl)) (fun _ _ _ h => h) (Or.inl ⟨by rfl, ?_⟩) ?_ ?_
                                                                rotate_left
                                                                · intro w'
                                                                  go_simp
                                                                  with_reducible rfl
                                                                rotate_left
                                                                · simp only [Act.put, List.setIfInBounds_toArray, List.set_cons_zero, List.set_cons_succ, i64_w, i32_w]
                                                                  rfl
                                                                refine pure_ (i := 8) (N := some 169) (v := ?_) (a' := ?_) #[true, true, true, true, true, false, true, true, true, false, false, false, false, false] rfl rfl (any_of HT_.out (by kernel_rfl)) (fun _ _ _ h => h) (Or.inl ⟨by rfl, ?_⟩) ?_ ?_
                                                                rotate_left
                                                                · intro w'
                                                                  go_simp
                                                                  with_reducible rfl
                                                                rotate_left
                                                                · simp only [Act.put, List.setIfInBounds_toArray, List.set_cons_zero, List.set_cons_succ, i64_w, i32_w]
                                                                  rfl
                                                                refine take_ (i := 5) (N := some 166) (v := ?_) (a' := ?_) #[true, true, true, true, true, true, true, true, true, false, false, false, false, false] rfl rfl (take_ofW HT_.out HW_.out (by kernel_rfl)) (fun _ _ _ h => h) (Or.inl ⟨by rfl, ?_⟩) hHeld ?_ ?_
                                                                rotate_left
                                                                · rintro w' ⟨s0, s1⟩
                                                                  go_simp
                                                                  with_reducible rfl
                                                                rotate_left
                                                                · simp only [Act.put, List.setIfInBounds_toArray, List.set_cons_zero, List.set_cons_succ, i64_w, i32_w]
                                                                  rfl
                                                                refine take_ (i := 9) (N := some 170) (v := ?_) (a' := ?_) #[true, true, true, true, true, true, true, true, true, true, false, false, false, false] rfl rfl (take_ofW HT_.out HW_.out (by kernel_rfl)) (fun _ _ _ h => h) (Or.inl ⟨by rfl, ?_⟩) hHeld ?_ ?_
                                                                rotate_left
                                                                · rintro w' ⟨s0, s1⟩
                                                                  go_simp
                                                                  with_reducible rfl
                                                                rotate_left
                                                                · simp only [Act.put, List.setIfInBounds_toArray, List.set_cons_zero, List.set_cons_succ, i64_w, i32_w]
                                                                  rfl
                                                                refine pure_ (i := 10) (N := some 171) (v := ?_) (a' := ?_) #[true, true, true, true, true, true, true, true, true, true, true, false, false, false] rfl rfl (any_of HT_.out (by kernel_rfl)) (fun _ _ _ h => h) (Or.inl ⟨by rfl, ?_⟩) ?_ ?_
                                                                rotate_left
                                                                · intro w'
                                                                  go_simp
                                                                  with_reducible rfl
                                                                rotate_left
                                                                · simp only [Act.put, List.setIfInBounds_toArray, List.set_cons_zero, List.set_cons_succ, i64_w, i32_w]
                                                                  rfl
                                                                refine pure_ (i := 11) (N := some 172) (v := ?_) (a' := ?_) #[true, true, true, true, true, true, true, true, true, true, true, true, false, false] rfl rfl (any_of HT_.out (by kernel_rfl)) (fun _ _ _ h => h) (Or.inl ⟨by rfl, ?_⟩) ?_ ?_
                                                                rotate_left
                                                                · intro w'
                                                                  go_simp
                                                                  with_reducible rfl
                                                                rotate_left
                                                                · simp only [Act.put, List.setIfInBounds_toArray, List.set_cons_zero, List.set_cons_succ, i64_w, i32_w]
                                                                  rfl
                                                                refine pure_ (i := 12) (N := some 173) (v := ?_) (a' := ?_) #[true, true, true, true, true, true, true, true, true, true, true, true, true, false] rfl rfl (any_of HT_.out (by kernel_rfl)) (fun _ _ _ h => h) (Or.inl ⟨by rfl, ?_⟩) ?_ ?_
                                                                rotate_left
                                                                · intro w'
                                                                  go_simp
                                                                  with_reducible rfl
                                                                rotate_left
                                                                · simp only [Act.put, List.setIfInBounds_toArray, List.set_cons_zero, List.set_cons_succ, i64_w, i32_w]
                                                                  rfl
                                                                refine last_ (i := 13) (N := none) #[true, true, true, true, true, true, true, true, true, true, true, true, true, true] rfl rfl (one_of HT_.out (by kernel_rfl)) (by decide) (fun K hK => ?_)
                                                                refine skip_ (w1 := ?_) (by rfl) rfl ?_ ?_
                                                                rotate_left
                                                                · go_simp
                                                                  rfl
                                                                refine hK.out _ _ ?_
                                                                clear hK K
                                                                refine done_ (done_of HT_.out (by kernel_rfl)) ?_
                                                                try go_wp2
                                                                go_roundg k4
                                                                case measure => have := HJ4.out; have := HJ23.out; have := HJ60.out; have := HK4.out; omega
                                                                case rel => exact ⟨(y165), (wrap64 (x17_4 + 1)), (by first | rfl | (simp; done) | (simp [*]; done)), H', ⟨by have := HJ4.out; have := HJ23.out; have := HJ60.out; have := HK4.out; omega⟩, ⟨by (with_reducible repeat (first | apply Kd.R_alloc | apply Kd.R_drewN | apply Kd.R_drew)); exact Kd.R_mono (Kd.R_far (p := ⟨go110, (x17_4 : Int).toNat, none⟩) (Kd.R_mono HO_10.out (fun k_ hk => (⟨hk, fun e_ => hk.2 (by rw [e_]; rfl)⟩ : _ ∧ k_ ≠ go110))) (fun _ hk => hk.2) (.int .i64 (Int.tmod (wrap64 ((rd t141 x17_4) + (rd t144 x17_4))) 2))) (fun _ hk => ⟨hk.1.1, hk.1.2⟩)⟩, ⟨by (with_reducible repeat (first | apply Kd.R_alloc | apply Kd.R_drewN | apply Kd.R_drew)); exact Kd.R_mono (Kd.R_far (p := ⟨go110, (x17_4 : Int).toNat, none⟩) (Kd.R_mono HO_11.out (fun k_ hk => (⟨hk, fun e_ => hk.2 (by rw [e_]; rfl)⟩ : _ ∧ k_ ≠ go110))) (fun _ hk => hk.2) (.int .i64 (Int.tmod (wrap64 ((rd t141 x17_4) + (rd t144 x17_4))) 2))) (fun _ hk => ⟨hk.1.1, hk.1.2⟩)⟩, ⟨by (with_reducible repeat (first | apply Kd.R_alloc | apply Kd.R_drewN | apply Kd.R_drew)); exact HQ115.out⟩, ⟨by (with_reducible repeat (first | refine blk_drewN ?_ _ | refine blk_drew ?_ | refine blk_alloc ?_ _)); refine blk_far ?_ (by have h_ := Kd.R_ne HO_13.out BK136.out (by decide); intro e_; exact h_ (by rw [e_]; rfl)) _; (with_reducible repeat (first | refine blk_drewN ?_ _ | refine blk_drew ?_ | refine blk_alloc ?_ _)); exact BK136.out⟩, ⟨by repeat (first | (with_reducible first | exact HB.out | apply below_alloc | apply pw_below_drewN | apply below_drew1 | refine below_set ?_ GB110.out | refine below_set ?_ GE136.out) | exact HB.out)⟩⟩
                                                              · rw [if_neg c109] at H
                                                                exact absurd H (by simp)
                                                            · rw [if_neg c108] at H
                                                              exact absurd H (by simp)
                                                          · rw [if_neg c107] at H
                                                            exact absurd H (by simp)
                                                        · rw [if_neg c106] at H
                                                          exact absurd H (by simp)
                                                      · rw [if_neg c105] at H
                                                        have c105b0 : (t132 == 29) = false := beq_eq_false_iff_ne.mpr c105
                                                        have c105b1 : (t132 != 29) = true := bne_iff_ne.mpr c105
                                                        by_cases c116 : t132 = 30
                                                        · rw [if_pos c116] at H
                                                          have c116b0 : (t132 == 30) = true := beq_iff_eq.mpr c116
                                                          have c116b1 : (t132 != 30) = false := bne_eq_false_iff_eq.mpr c116
                                                          clear c116
                                                          by_cases c117 : x17_4 ≥ (wrap64 (Int.tmod a2 (IntKind.u64.wrap (t133))))
                                                          · rw [if_pos c117] at H
                                                            have c117b0 : decide ((wrap64 (Int.tmod a2 (IntKind.u64.wrap (t133)))) ≤ x17_4) = true := decide_eq_true c117
                                                            clear c117
                                                            obtain ⟨ji118, hji118⟩ : ∃ j_ : Int, (wrap64 (x17_4 - (wrap64 (Int.tmod a2 (IntKind.u64.wrap (t133)))))) = j_ := ⟨_, rfl⟩
                                                            replace H : (if 0 ≤ (ji118) then (if (ji118) < (t141.length : Int) then (if 0 ≤ x17_4 then (if x17_4 < (x13_4.length : Int) then (geoderef03_Two.l0 k4 t133 t141 t144 (wrap64 (Int.tmod a2 (IntKind.u64.wrap (t133)))) (x13_4.set (x17_4 : Int).toNat (rd t141 (ji118))) (wrap64 (x17_4 + 1)) t132 t133 t134 t135) else (none)) else (none)) else (none)) else (none)) = some (r1, r2) := by first | (rw [hji118] at H; exact H) | (simp only [hji118] at H ⊢; exact H)
                                                            have hji118w : (IntKind.i64.wrap (x17_4 - (wrap64 (Int.tmod a2 (IntKind.u64.wrap (t133)))))) = ji118 := (i64_w _).trans hji118
                                                            by_cases c119 : 0 ≤ (ji118)
                                                            · rw [if_pos c119] at H
                                                              have c119b0 : decide (0 ≤ (ji118)) = true := decide_eq_true c119
                                                              clear c119
                                                              by_cases c120 : (ji118) < (t141.length : Int)
                                                              · rw [if_pos c120] at H
                                                                have c120b0 : decide ((ji118) < (t141.length : Int)) = true := decide_eq_true c120
                                                                clear c120
                                                                by_cases c121 : 0 ≤ x17_4
                                                                · rw [if_pos c121] at H
                                                                  have c121b0 : decide (0 ≤ x17_4) = true := decide_eq_true c121
                                                                  clear c121
                                                                  by_cases c122 : x17_4 < (x13_4.length : Int)
                                                                  · rw [if_pos c122] at H
                                                                    have c122b0 : decide (x17_4 < (x13_4.length : Int)) = true := decide_eq_true c122
                                                                    clear c122
                                                                    obtain ⟨y167, hy167⟩ : ∃ y_ : List Int, y_ = (x13_4.set (x17_4 : Int).toNat (rd t141 (ji118))) := ⟨_, rfl⟩
                                                                    replace H : (geoderef03_Two.l0 k4 t133 t141 t144 (wrap64 (Int.tmod a2 (IntKind.u64.wrap (t133)))) y167 (wrap64 (x17_4 + 1)) t132 t133 t134 t135) = some (r1, r2) := by first | (rw [hy167]; with_reducible exact H) | (have H2_ := (Option.bind_some _ _).symm.trans H; rw [hy167]; with_reducible exact H2_) | (have H2_ := (Option.bind_some _ _).symm.trans H; with_reducible exact H2_) | with_reducible exact H | (rw [hy167]; exact H) | exact H
                                                                    have Ny167 := Aside0.mk hy167
                                                                    clear hy167
                                                                    have H' := Aside0.mk H
                                                                    clear H
                                                                    have hcz124_0 : wr.cell? ⟨gb136, 0, none⟩ = some (.int .i64 t132) := (blk_cell BK136.out 0).trans rfl
                                                                    have hcz124_1 : wr.cell? ⟨gb136, 1, none⟩ = some (.int .i64 t133) := (blk_cell BK136.out 1).trans rfl
                                                                    have hcz124_2 : wr.cell? ⟨gb136, 2, none⟩ = some (.int .i64 t134) := (blk_cell BK136.out 2).trans rfl
                                                                    have hcz124_3 : wr.cell? ⟨gb136, 3, none⟩ = some (.int .i64 t135) := (blk_cell BK136.out 3).trans rfl
                                                                    have hfz124_0 := blk_frozen BK136.out 0
                                                                    have hfz124_1 := blk_frozen BK136.out 1
                                                                    have hfz124_2 := blk_frozen BK136.out 2
                                                                    have hfz124_3 := blk_frozen BK136.out 3
                                                                    obtain ⟨Ao125, co125, eo125⟩ := Kd.R_slice HO_10.out
                                                                    subst eo125
                                                                    have p166 : 0 ≤ ((ji118) : Int) := of_decide_eq_true (by first | (with_reducible assumption) | assumption)
                                                                    have q166 : (ji118) < (t141.length : Int) := of_decide_eq_true (by first | (with_reducible assumption) | assumption)
                                                                    obtain ⟨ad166, e166, hx166_0⟩ := Kd.at_int (Kd.R_reads' HO_10.out).2.2 (ji118) p166 q166
                                                                    cases e166
                                                                    replace p166 := eq_true p166
                                                                    replace q166 := eq_true q166
                                                                    have p123 : 0 ≤ (x17_4 : Int) := of_decide_eq_true (by first | (with_reducible assumption) | assumption)
                                                                    have q123 : (x17_4 : Int) < ((x13_4.length : Int) : Int) := of_decide_eq_true (by first | (with_reducible assumption) | assumption)
                                                                    obtain ⟨go123, co123, eo123, gb123, gl123, cl123, HG123⟩ := Kd.R_form HO_13.out (by omega)
                                                                    (first | cases eo123 | (injection eo123 with ea_ en_ ec_; (first | subst ea_ | (injection ea_ with ea_; subst ea_)); subst ec_; clear en_))
                                                                    have GB123 := Aside0.mk gb123
                                                                    have GG123 := Aside0.mk HG123
                                                                    clear gb123 gl123 HG123
                                                                    obtain ⟨hx123_0, hf123_0⟩ := Kd.R_celln 0 HO_13.out (x17_4 : Int) p123 q123
                                                                    replace p123 := eq_true p123
                                                                    replace q123 := eq_true q123
                                                                    have HP126 := Kd.R_putg HO_13.out (x17_4 : Int) (rd t141 (ji118))
                                                                    go_wp2_with (first | ((with_reducible refine gate_store (t := 3) (p := 187) rfl ?_); refine store_event (t := 3) (p := 187) (v := ?vo_w127) (w1 := (wr.setCell ⟨go123, (x17_4 : Int).toNat, none⟩ (.int .i64 (rd t141 (ji118))))) ?hg ?ho ?hn ?hr ?_; (case ho => rfl); (case hg => rfl); (case hn => rfl); (case hr => first | (go_simp; done) | (go_simp; rfl)); intro w127 hw; have hg : wr.grownBy w127 (some go123) := (by rw [hw]; exact HP126.2); have hp_ : Kd.R (Kd.int .i64) 3 w127 w.heap.size (fun k_ => some k_ ≠ (.slice (some ad166) t141.length co125 : Value).ownBlock ∧ some k_ ≠ (v145 : Value).ownBlock) (.slice (some ⟨go123, 0, none⟩) x13_4.length co123) y167 := (by rw [hw, Ny167.out]; exact HP126.1); clear HP126; have n0_ := Aside0.mk (Kd.R_after (v := (.slice (some ⟨go123, 0, none⟩) x13_4.length co123)) (v1 := (.slice (some ⟨go123, 0, none⟩) x13_4.length co123)) (ok := (fun k_ => some k_ ≠ (v145 : Value).ownBlock)) (by (with_reducible repeat (first | apply Kd.R_alloc | apply Kd.R_drewN | apply Kd.R_drew)); exact HO_10.out) hg (.inl rfl)); have n1_ := Aside0.mk (Kd.R_after (v := (.slice (some ⟨go123, 0, none⟩) x13_4.length co123)) (v1 := (.slice (some ⟨go123, 0, none⟩) x13_4.length co123)) (ok := (fun k_ => some k_ ≠ (.slice (some ad166) t141.length co125 : Value).ownBlock)) (by (with_reducible repeat (first | apply Kd.R_alloc | apply Kd.R_drewN | apply Kd.R_drew)); exact HO_11.out) hg (.inl rfl)); have n2_ := Aside0.mk (hp_); have n3_ := Aside0.mk (blk_grown (g := gb136) (o := .cells #[.int .i64 t132, .int .i64 t133, .int .i64 t134, .int .i64 t135] 39 (0, 0)) (by (with_reducible repeat (first | refine blk_drewN ?_ _ | refine blk_drew ?_ | refine blk_alloc ?_ _)); exact BK136.out) hg (Kd.R_ne HO_13.out BK136.out (by decide))); have n4_ := Aside0.mk ((by rw [hw]; exact below_set (HB.out) GB123.out : Below w.heap.size w w127)); clear HO_10; clear HO_11; clear HO_13; clear BK136; clear HB; have HO_10 := n0_; have HO_11 := n1_; have HO_13 := n2_; have BK136 := n3_; have HB := n4_; clear n0_ n1_ n2_ n3_ n4_; clear hg hw hp_))
                                                                    go_roundg k4
                                                                    case measure => have := HJ4.out; have := HJ23.out; have := HJ60.out; have := HK4.out; omega
                                                                    case rel => exact ⟨(y167), (wrap64 (x17_4 + 1)), (by first | rfl | (simp; done) | (simp [*]; done)), H', ⟨by have := HJ4.out; have := HJ23.out; have := HJ60.out; have := HK4.out; omega⟩, ⟨by (with_reducible repeat (first | apply Kd.R_alloc | apply Kd.R_drewN | apply Kd.R_drew)); exact HO_10.out⟩, ⟨by (with_reducible repeat (first | apply Kd.R_alloc | apply Kd.R_drewN | apply Kd.R_drew)); exact HO_11.out⟩, ⟨by (with_reducible repeat (first | apply Kd.R_alloc | apply Kd.R_drewN | apply Kd.R_drew)); exact HO_13.out⟩, ⟨by (with_reducible repeat (first | refine blk_drewN ?_ _ | refine blk_drew ?_ | refine blk_alloc ?_ _)); exact BK136.out⟩, ⟨by repeat (first | (with_reducible first | exact HB.out | apply below_alloc | apply pw_below_drewN | apply below_drew1 | refine below_set ?_ GE136.out) | exact HB.out)⟩⟩
                                                                  · rw [if_neg c122] at H
                                                                    exact absurd H (by simp)
                                                                · rw [if_neg c121] at H
                                                                  exact absurd H (by simp)
                                                              · rw [if_neg c120] at H
                                                                exact absurd H (by simp)
                                                            · rw [if_neg c119] at H
                                                              exact absurd H (by simp)
                                                          · rw [if_neg c117] at H
                                                            have c117b0 : decide ((wrap64 (Int.tmod a2 (IntKind.u64.wrap (t133)))) ≤ x17_4) = false := decide_eq_false c117
                                                            clear c117
                                                            have H' := Aside0.mk H
                                                            clear H
                                                            have hcz128_0 : wr.cell? ⟨gb136, 0, none⟩ = some (.int .i64 t132) := (blk_cell BK136.out 0).trans rfl
                                                            have hcz128_1 : wr.cell? ⟨gb136, 1, none⟩ = some (.int .i64 t133) := (blk_cell BK136.out 1).trans rfl
                                                            have hcz128_2 : wr.cell? ⟨gb136, 2, none⟩ = some (.int .i64 t134) := (blk_cell BK136.out 2).trans rfl
                                                            have hcz128_3 : wr.cell? ⟨gb136, 3, none⟩ = some (.int .i64 t135) := (blk_cell BK136.out 3).trans rfl
                                                            have hfz128_0 := blk_frozen BK136.out 0
                                                            have hfz128_1 := blk_frozen BK136.out 1
                                                            have hfz128_2 := blk_frozen BK136.out 2
                                                            have hfz128_3 := blk_frozen BK136.out 3
                                                            go_wp2
                                                            go_roundg k4
                                                            case measure => have := HJ4.out; have := HJ23.out; have := HJ60.out; have := HK4.out; omega
                                                            case rel => exact ⟨(x13_4), (wrap64 (x17_4 + 1)), (by first | rfl | (simp; done) | (simp [*]; done)), H', ⟨by have := HJ4.out; have := HJ23.out; have := HJ60.out; have := HK4.out; omega⟩, ⟨by (with_reducible repeat (first | apply Kd.R_alloc | apply Kd.R_drewN | apply Kd.R_drew)); exact HO_10.out⟩, ⟨by (with_reducible repeat (first | apply Kd.R_alloc | apply Kd.R_drewN | apply Kd.R_drew)); exact HO_11.out⟩, ⟨by (with_reducible repeat (first | apply Kd.R_alloc | apply Kd.R_drewN | apply Kd.R_drew)); exact HO_13.out⟩, ⟨by (with_reducible repeat (first | refine blk_drewN ?_ _ | refine blk_drew ?_ | refine blk_alloc ?_ _)); exact BK136.out⟩, ⟨by repeat (first | (with_reducible first | exact HB.out | apply below_alloc | apply pw_below_drewN | apply below_drew1 | refine below_set ?_ GE136.out) | exact HB.out)⟩⟩
                                                        · rw [if_neg c116] at H
                                                          have c116b0 : (t132 == 30) = false := beq_eq_false_iff_ne.mpr c116
                                                          have c116b1 : (t132 != 30) = true := bne_iff_ne.mpr c116
                                                          have HC129 := Aside0.mk H
                                                          clear H
                                                          have hcz130_0 : wr.cell? ⟨gb136, 0, none⟩ = some (.int .i64 t132) := (blk_cell BK136.out 0).trans rfl
                                                          have hcz130_1 : wr.cell? ⟨gb136, 1, none⟩ = some (.int .i64 t133) := (blk_cell BK136.out 1).trans rfl
                                                          have hcz130_2 : wr.cell? ⟨gb136, 2, none⟩ = some (.int .i64 t134) := (blk_cell BK136.out 2).trans rfl
                                                          have hcz130_3 : wr.cell? ⟨gb136, 3, none⟩ = some (.int .i64 t135) := (blk_cell BK136.out 3).trans rfl
                                                          have hfz130_0 := blk_frozen BK136.out 0
                                                          have hfz130_1 := blk_frozen BK136.out 1
                                                          have hfz130_2 := blk_frozen BK136.out 2
                                                          have hfz130_3 := blk_frozen BK136.out 3
                                                          go_upto_if 188 with (fail)
                                                          go_cut [188] (fun v188 wc => ∃ (kq : Nat) (x188_128 : Bool), v188 = .bool x188_128 ∧ Aside0 (geoderef03_Two.j4 kq t133 t141 t144 (wrap64 (Int.tmod a2 (IntKind.u64.wrap (t133)))) x13_4 x17_4 t132 x188_128 t132 t133 t134 t135 = some (r1, r2)) ∧ Aside0 (kq ≤ k4) ∧ Aside0 (Kd.R (Kd.int .i64) 3 wc w.heap.size (fun k_ => some k_ ≠ (v145 : Value).ownBlock ∧ some k_ ≠ (v148 : Value).ownBlock) v142 t141) ∧ Aside0 (Kd.R (Kd.int .i64) 3 wc w.heap.size (fun k_ => some k_ ≠ (v142 : Value).ownBlock ∧ some k_ ≠ (v148 : Value).ownBlock) v145 t144) ∧ Aside0 (Kd.R (Kd.int .i64) 3 wc w.heap.size (fun k_ => some k_ ≠ (v142 : Value).ownBlock ∧ some k_ ≠ (v145 : Value).ownBlock) v148 x13_4) ∧ Aside0 (wc.heap[gb136]? = some (.cells #[.int .i64 t132, .int .i64 t133, .int .i64 t134, .int .i64 t135] 39 (0, 0))) ∧ Aside0 (Below w.heap.size w wc))
                                                          case first =>
                                                            as_aux_lemma =>
                                                              have H := HC129.out
                                                              clear HC129
                                                              by_cases c131 : t132 = 31
                                                              · rw [if_pos c131] at H
                                                                have c131b0 : (t132 == 31) = true := beq_iff_eq.mpr c131
                                                                have c131b1 : (t132 != 31) = false := bne_eq_false_iff_eq.mpr c131
                                                                clear c131
                                                                (first | rw [c131b0] | (simp only [i64_w, i32_w]; rw [c131b0]) | skip)
                                                                have H' := Aside0.mk H
                                                                clear H
                                                                go_wp2
                                                                go_meet
                                                                case rel => exact ⟨_, ((t132 == 31)), (by first | rfl | (simp; done) | (simp [*]; done)), H', ⟨by have := HJ4.out; have := HJ23.out; have := HJ60.out; have := HK4.out; first | omega | exact Nat.le_refl _⟩, ⟨by (with_reducible repeat (first | apply Kd.R_alloc | apply Kd.R_drewN | apply Kd.R_drew)); exact HO_10.out⟩, ⟨by (with_reducible repeat (first | apply Kd.R_alloc | apply Kd.R_drewN | apply Kd.R_drew)); exact HO_11.out⟩, ⟨by (with_reducible repeat (first | apply Kd.R_alloc | apply Kd.R_drewN | apply Kd.R_drew)); exact HO_13.out⟩, ⟨by (with_reducible repeat (first | refine blk_drewN ?_ _ | refine blk_drew ?_ | refine blk_alloc ?_ _)); exact BK136.out⟩, ⟨by repeat (first | (with_reducible first | exact HB.out | apply below_alloc | apply pw_below_drewN | apply below_drew1 | refine below_set ?_ GE136.out) | exact HB.out)⟩⟩
                                                              · rw [if_neg c131] at H
                                                                have c131b0 : (t132 == 31) = false := beq_eq_false_iff_ne.mpr c131
                                                                have c131b1 : (t132 != 31) = true := bne_iff_ne.mpr c131
                                                                (first | rw [c131b0] | (simp only [i64_w, i32_w]; rw [c131b0]) | skip)
                                                                have H' := Aside0.mk H
                                                                clear H
                                                                go_wp2
                                                                go_meet
                                                                case rel => exact ⟨_, ((t132 == 32)), (by first | rfl | (simp; done) | (simp [*]; done)), H', ⟨by have := HJ4.out; have := HJ23.out; have := HJ60.out; have := HK4.out; first | omega | exact Nat.le_refl _⟩, ⟨by (with_reducible repeat (first | apply Kd.R_alloc | apply Kd.R_drewN | apply Kd.R_drew)); exact HO_10.out⟩, ⟨by (with_reducible repeat (first | apply Kd.R_alloc | apply Kd.R_drewN | apply Kd.R_drew)); exact HO_11.out⟩, ⟨by (with_reducible repeat (first | apply Kd.R_alloc | apply Kd.R_drewN | apply Kd.R_drew)); exact HO_13.out⟩, ⟨by (with_reducible repeat (first | refine blk_drewN ?_ _ | refine blk_drew ?_ | refine blk_alloc ?_ _)); exact BK136.out⟩, ⟨by repeat (first | (with_reducible first | exact HB.out | apply below_alloc | apply pw_below_drewN | apply below_drew1 | refine below_set ?_ GE136.out) | exact HB.out)⟩⟩
                                                          case rest =>
                                                            as_aux_lemma =>
                                                              clear HC129
                                                              try clear c1
                                                              try clear p1
                                                              try clear q1
                                                              try clear hx1
                                                              try clear p2
                                                              try clear p6
                                                              try clear c8
                                                              try clear c9
                                                              try clear p9
                                                              try clear q9
                                                              try clear hx9
                                                              try clear hf9
                                                              try clear c10
                                                              try clear c11
                                                              try clear p11
                                                              try clear q11
                                                              try clear hx11
                                                              try clear hf11
                                                              try clear c12
                                                              try clear p12
                                                              try clear q12
                                                              try clear hx12
                                                              try clear hf12
                                                              try clear c13
                                                              try clear p16
                                                              try clear q16
                                                              try clear hx16
                                                              try clear p64
                                                              try clear c83
                                                              try clear c83b0
                                                              try clear c83b1
                                                              try clear c84
                                                              try clear c85
                                                              try clear c86
                                                              try clear c87
                                                              try clear c94
                                                              try clear c94b0
                                                              try clear c94b1
                                                              try clear c95
                                                              try clear c95b0
                                                              try clear c96
                                                              try clear c96b0
                                                              try clear c97
                                                              try clear c97b0
                                                              try clear c98
                                                              try clear c98b0
                                                              try clear p99
                                                              try clear q99
                                                              try clear hx99
                                                              try clear hf99
                                                              try clear c105
                                                              try clear c105b0
                                                              try clear c105b1
                                                              try clear c106
                                                              try clear c106b0
                                                              try clear c107
                                                              try clear c107b0
                                                              try clear c108
                                                              try clear c108b0
                                                              try clear c109
                                                              try clear c109b0
                                                              try clear p110
                                                              try clear q110
                                                              try clear hx110
                                                              try clear hf110
                                                              try clear c116
                                                              try clear c116b0
                                                              try clear c116b1
                                                              try clear c117
                                                              try clear c117b0
                                                              try clear c119
                                                              try clear c119b0
                                                              try clear c120
                                                              try clear c120b0
                                                              try clear c121
                                                              try clear c121b0
                                                              try clear c122
                                                              try clear c122b0
                                                              try clear p123
                                                              try clear q123
                                                              try clear hx123
                                                              try clear hf123
                                                              try clear c131
                                                              try clear c131b0
                                                              try clear c131b1
                                                              try clear hcz100_0
                                                              try clear hcz100_1
                                                              try clear hcz100_2
                                                              try clear hcz100_3
                                                              try clear hcz111_0
                                                              try clear hcz111_1
                                                              try clear hcz111_2
                                                              try clear hcz111_3
                                                              try clear hcz124_0
                                                              try clear hcz124_1
                                                              try clear hcz124_2
                                                              try clear hcz124_3
                                                              try clear hcz128_0
                                                              try clear hcz128_1
                                                              try clear hcz128_2
                                                              try clear hcz128_3
                                                              try clear hcz130_0
                                                              try clear hcz130_1
                                                              try clear hcz130_2
                                                              try clear hcz130_3
                                                              try clear hfz100_0
                                                              try clear hfz100_1
                                                              try clear hfz100_2
                                                              try clear hfz100_3
                                                              try clear hfz111_0
                                                              try clear hfz111_1
                                                              try clear hfz111_2
                                                              try clear hfz111_3
                                                              try clear hfz124_0
                                                              try clear hfz124_1
                                                              try clear hfz124_2
                                                              try clear hfz124_3
                                                              try clear hfz128_0
                                                              try clear hfz128_1
                                                              try clear hfz128_2
                                                              try clear hfz128_3
                                                              try clear hfz130_0
                                                              try clear hfz130_1
                                                              try clear hfz130_2
                                                              try clear hfz130_3
                                                              try clear hx110_0
                                                              try clear hx123_0
                                                              try clear hx160_0
                                                              try clear hx161_0
                                                              try clear hx163_0
                                                              try clear hx164_0
                                                              try clear hx166_0
                                                              try clear hx99_0
                                                              try clear p110
                                                              try clear p123
                                                              try clear p160
                                                              try clear p161
                                                              try clear p163
                                                              try clear p164
                                                              try clear p166
                                                              try clear p99
                                                              try clear q110
                                                              try clear q123
                                                              try clear q160
                                                              try clear q161
                                                              try clear q163
                                                              try clear q164
                                                              try clear q166
                                                              try clear q99
                                                              obtain ⟨kq, x188_128, rfl, HA, HJ128, HO_10, HO_11, HO_13, BK136, HB⟩ := hcut
                                                              cases kq with
                                                              | zero => exact absurd HA.out (by simp [geoderef03_Two.j4])
                                                              | succ kj128 =>
                                                                have H := HA.out
                                                                clear HA
                                                                simp only [geoderef03_Two.j4] at H
                                                                by_cases c132 : x188_128 = true
                                                                · subst c132
                                                                  have H1 : (if (wrap64 (x17_4 + (wrap64 (Int.tmod a2 (IntKind.u64.wrap (t133)))))) < t133 then (if 0 ≤ (wrap64 (x17_4 + (wrap64 (Int.tmod a2 (IntKind.u64.wrap (t133)))))) then (if (wrap64 (x17_4 + (wrap64 (Int.tmod a2 (IntKind.u64.wrap (t133)))))) < (t141.length : Int) then (if 0 ≤ x17_4 then (if x17_4 < (x13_4.length : Int) then (geoderef03_Two.l0 kj128 t133 t141 t144 (wrap64 (Int.tmod a2 (IntKind.u64.wrap (t133)))) (x13_4.set (x17_4 : Int).toNat (rd t141 (wrap64 (x17_4 + (wrap64 (Int.tmod a2 (IntKind.u64.wrap (t133)))))))) (wrap64 (x17_4 + 1)) t132 t133 t134 t135) else (none)) else (none)) else (none)) else (none)) else (if t132 = 31 then (if 0 ≤ (wrap64 (t133 - 1)) then (if (wrap64 (t133 - 1)) < (t141.length : Int) then (if 0 ≤ x17_4 then (if x17_4 < (x13_4.length : Int) then (geoderef03_Two.l0 kj128 t133 t141 t144 (wrap64 (Int.tmod a2 (IntKind.u64.wrap (t133)))) (x13_4.set (x17_4 : Int).toNat (rd t141 (wrap64 (t133 - 1)))) (wrap64 (x17_4 + 1)) t132 t133 t134 t135) else (none)) else (none)) else (none)) else (none)) else (geoderef03_Two.l0 kj128 t133 t141 t144 (wrap64 (Int.tmod a2 (IntKind.u64.wrap (t133)))) x13_4 (wrap64 (x17_4 + 1)) t132 t133 t134 t135))) = some (r1, r2) := by rw [if_pos rfl] at H; exact H
                                                                  clear H
                                                                  have H := H1
                                                                  clear H1
                                                                  by_cases c133 : (wrap64 (x17_4 + (wrap64 (Int.tmod a2 (IntKind.u64.wrap (t133)))))) < t133
                                                                  · rw [if_pos c133] at H
                                                                    have c133b0 : decide ((wrap64 (x17_4 + (wrap64 (Int.tmod a2 (IntKind.u64.wrap (t133)))))) < t133) = true := decide_eq_true c133
                                                                    clear c133
                                                                    obtain ⟨ji134, hji134⟩ : ∃ j_ : Int, (wrap64 (x17_4 + (wrap64 (Int.tmod a2 (IntKind.u64.wrap (t133)))))) = j_ := ⟨_, rfl⟩
                                                                    replace H : (if 0 ≤ (ji134) then (if (ji134) < (t141.length : Int) then (if 0 ≤ x17_4 then (if x17_4 < (x13_4.length : Int) then (geoderef03_Two.l0 kj128 t133 t141 t144 (wrap64 (Int.tmod a2 (IntKind.u64.wrap (t133)))) (x13_4.set (x17_4 : Int).toNat (rd t141 (ji134))) (wrap64 (x17_4 + 1)) t132 t133 t134 t135) else (none)) else (none)) else (none)) else (none)) = some (r1, r2) := by first | (rw [hji134] at H; exact H) | (simp only [hji134] at H ⊢; exact H)
                                                                    (try rw [hji134] at c133b0)
                                                                    have hji134w : (IntKind.i64.wrap (x17_4 + (wrap64 (Int.tmod a2 (IntKind.u64.wrap (t133)))))) = ji134 := (i64_w _).trans hji134
                                                                    by_cases c135 : 0 ≤ (ji134)
                                                                    · rw [if_pos c135] at H
                                                                      have c135b0 : decide (0 ≤ (ji134)) = true := decide_eq_true c135
                                                                      clear c135
                                                                      by_cases c136 : (ji134) < (t141.length : Int)
                                                                      · rw [if_pos c136] at H
                                                                        have c136b0 : decide ((ji134) < (t141.length : Int)) = true := decide_eq_true c136
                                                                        clear c136
                                                                        by_cases c137 : 0 ≤ x17_4
                                                                        · rw [if_pos c137] at H
                                                                          have c137b0 : decide (0 ≤ x17_4) = true := decide_eq_true c137
                                                                          clear c137
                                                                          by_cases c138 : x17_4 < (x13_4.length : Int)
                                                                          · rw [if_pos c138] at H
                                                                            have c138b0 : decide (x17_4 < (x13_4.length : Int)) = true := decide_eq_true c138
                                                                            clear c138
                                                                            obtain ⟨y169, hy169⟩ : ∃ y_ : List Int, y_ = (x13_4.set (x17_4 : Int).toNat (rd t141 (ji134))) := ⟨_, rfl⟩
                                                                            replace H : (geoderef03_Two.l0 kj128 t133 t141 t144 (wrap64 (Int.tmod a2 (IntKind.u64.wrap (t133)))) y169 (wrap64 (x17_4 + 1)) t132 t133 t134 t135) = some (r1, r2) := by first | (rw [hy169]; with_reducible exact H) | (have H2_ := (Option.bind_some _ _).symm.trans H; rw [hy169]; with_reducible exact H2_) | (have H2_ := (Option.bind_some _ _).symm.trans H; with_reducible exact H2_) | with_reducible exact H | (rw [hy169]; exact H) | exact H
                                                                            have Ny169 := Aside0.mk hy169
                                                                            clear hy169
                                                                            have H' := Aside0.mk H
                                                                            clear H
                                                                            obtain ⟨Ao140, co140, eo140⟩ := Kd.R_slice HO_10.out
                                                                            subst eo140
                                                                            have p168 : 0 ≤ ((ji134) : Int) := of_decide_eq_true (by first | (with_reducible assumption) | assumption)
                                                                            have q168 : (ji134) < (t141.length : Int) := of_decide_eq_true (by first | (with_reducible assumption) | assumption)
                                                                            obtain ⟨ad168, e168, hx168_0⟩ := Kd.at_int (Kd.R_reads' HO_10.out).2.2 (ji134) p168 q168
                                                                            cases e168
                                                                            replace p168 := eq_true p168
                                                                            replace q168 := eq_true q168
                                                                            have p139 : 0 ≤ (x17_4 : Int) := of_decide_eq_true (by first | (with_reducible assumption) | assumption)
                                                                            have q139 : (x17_4 : Int) < ((x13_4.length : Int) : Int) := of_decide_eq_true (by first | (with_reducible assumption) | assumption)
                                                                            obtain ⟨go139, co139, eo139, gb139, gl139, cl139, HG139⟩ := Kd.R_form HO_13.out (by omega)
                                                                            (first | cases eo139 | (injection eo139 with ea_ en_ ec_; (first | subst ea_ | (injection ea_ with ea_; subst ea_)); subst ec_; clear en_))
                                                                            have GB139 := Aside0.mk gb139
                                                                            have GG139 := Aside0.mk HG139
                                                                            clear gb139 gl139 HG139
                                                                            obtain ⟨hx139_0, hf139_0⟩ := Kd.R_celln 0 HO_13.out (x17_4 : Int) p139 q139
                                                                            replace p139 := eq_true p139
                                                                            replace q139 := eq_true q139
                                                                            have HP141 := Kd.R_putg HO_13.out (x17_4 : Int) (rd t141 (ji134))
                                                                            go_wp2_with (first | ((with_reducible refine gate_store (t := 3) (p := 204) rfl ?_); refine store_event (t := 3) (p := 204) (v := ?vo_w142) (w1 := (wc.setCell ⟨go139, (x17_4 : Int).toNat, none⟩ (.int .i64 (rd t141 (ji134))))) ?hg ?ho ?hn ?hr ?_; (case ho => rfl); (case hg => rfl); (case hn => rfl); (case hr => first | (go_simp; done) | (go_simp; rfl)); intro w142 hw; have hg : wc.grownBy w142 (some go139) := (by rw [hw]; exact HP141.2); have hp_ : Kd.R (Kd.int .i64) 3 w142 w.heap.size (fun k_ => some k_ ≠ (.slice (some ad168) t141.length co140 : Value).ownBlock ∧ some k_ ≠ (v145 : Value).ownBlock) (.slice (some ⟨go139, 0, none⟩) x13_4.length co139) y169 := (by rw [hw, Ny169.out]; exact HP141.1); clear HP141; have n0_ := Aside0.mk (Kd.R_after (v := (.slice (some ⟨go139, 0, none⟩) x13_4.length co139)) (v1 := (.slice (some ⟨go139, 0, none⟩) x13_4.length co139)) (ok := (fun k_ => some k_ ≠ (v145 : Value).ownBlock)) (by (with_reducible repeat (first | apply Kd.R_alloc | apply Kd.R_drewN | apply Kd.R_drew)); exact HO_10.out) hg (.inl rfl)); have n1_ := Aside0.mk (Kd.R_after (v := (.slice (some ⟨go139, 0, none⟩) x13_4.length co139)) (v1 := (.slice (some ⟨go139, 0, none⟩) x13_4.length co139)) (ok := (fun k_ => some k_ ≠ (.slice (some ad168) t141.length co140 : Value).ownBlock)) (by (with_reducible repeat (first | apply Kd.R_alloc | apply Kd.R_drewN | apply Kd.R_drew)); exact HO_11.out) hg (.inl rfl)); have n2_ := Aside0.mk (hp_); have n3_ := Aside0.mk (blk_grown (g := gb136) (o := .cells #[.int .i64 t132, .int .i64 t133, .int .i64 t134, .int .i64 t135] 39 (0, 0)) (by (with_reducible repeat (first | refine blk_drewN ?_ _ | refine blk_drew ?_ | refine blk_alloc ?_ _)); exact BK136.out) hg (Kd.R_ne HO_13.out BK136.out (by decide))); have n4_ := Aside0.mk ((by rw [hw]; exact below_set (HB.out) GB139.out : Below w.heap.size w w142)); clear HO_10; clear HO_11; clear HO_13; clear BK136; clear HB; have HO_10 := n0_; have HO_11 := n1_; have HO_13 := n2_; have BK136 := n3_; have HB := n4_; clear n0_ n1_ n2_ n3_ n4_; clear hg hw hp_))
                                                                            go_roundg kj128
                                                                            case measure => have := HJ4.out; have := HJ23.out; have := HJ60.out; have := HK4.out; have := HJ128.out; omega
                                                                            case rel => exact ⟨(y169), (wrap64 (x17_4 + 1)), (by first | rfl | (simp; done) | (simp [*]; done)), H', ⟨by have := HJ4.out; have := HJ23.out; have := HJ60.out; have := HK4.out; have := HJ128.out; omega⟩, ⟨by (with_reducible repeat (first | apply Kd.R_alloc | apply Kd.R_drewN | apply Kd.R_drew)); exact HO_10.out⟩, ⟨by (with_reducible repeat (first | apply Kd.R_alloc | apply Kd.R_drewN | apply Kd.R_drew)); exact HO_11.out⟩, ⟨by (with_reducible repeat (first | apply Kd.R_alloc | apply Kd.R_drewN | apply Kd.R_drew)); exact HO_13.out⟩, ⟨by (with_reducible repeat (first | refine blk_drewN ?_ _ | refine blk_drew ?_ | refine blk_alloc ?_ _)); exact BK136.out⟩, ⟨by repeat (first | (with_reducible first | exact HB.out | apply below_alloc | apply pw_below_drewN | apply below_drew1 | refine below_set ?_ GE136.out) | exact HB.out)⟩⟩
                                                                          · rw [if_neg c138] at H
                                                                            exact absurd H (by simp)
                                                                        · rw [if_neg c137] at H
                                                                          exact absurd H (by simp)
                                                                      · rw [if_neg c136] at H
                                                                        exact absurd H (by simp)
                                                                    · rw [if_neg c135] at H
                                                                      exact absurd H (by simp)
                                                                  · rw [if_neg c133] at H
                                                                    have c133b0 : decide ((wrap64 (x17_4 + (wrap64 (Int.tmod a2 (IntKind.u64.wrap (t133)))))) < t133) = false := decide_eq_false c133
                                                                    clear c133
                                                                    by_cases c143 : t132 = 31
                                                                    · rw [if_pos c143] at H
                                                                      have c143b0 : (t132 == 31) = true := beq_iff_eq.mpr c143
                                                                      have c143b1 : (t132 != 31) = false := bne_eq_false_iff_eq.mpr c143
                                                                      clear c143
                                                                      obtain ⟨ji144, hji144⟩ : ∃ j_ : Int, (wrap64 (t133 - 1)) = j_ := ⟨_, rfl⟩
                                                                      replace H : (if 0 ≤ (ji144) then (if (ji144) < (t141.length : Int) then (if 0 ≤ x17_4 then (if x17_4 < (x13_4.length : Int) then (geoderef03_Two.l0 kj128 t133 t141 t144 (wrap64 (Int.tmod a2 (IntKind.u64.wrap (t133)))) (x13_4.set (x17_4 : Int).toNat (rd t141 (ji144))) (wrap64 (x17_4 + 1)) t132 t133 t134 t135) else (none)) else (none)) else (none)) else (none)) = some (r1, r2) := by first | (rw [hji144] at H; exact H) | (simp only [hji144] at H ⊢; exact H)
                                                                      have hji144w : (IntKind.i64.wrap (t133 - 1)) = ji144 := (i64_w _).trans hji144
                                                                      by_cases c145 : 0 ≤ (ji144)
                                                                      · rw [if_pos c145] at H
                                                                        have c145b0 : decide (0 ≤ (ji144)) = true := decide_eq_true c145
                                                                        clear c145
                                                                        by_cases c146 : (ji144) < (t141.length : Int)
                                                                        · rw [if_pos c146] at H
                                                                          have c146b0 : decide ((ji144) < (t141.length : Int)) = true := decide_eq_true c146
                                                                          clear c146
                                                                          by_cases c147 : 0 ≤ x17_4
                                                                          · rw [if_pos c147] at H
                                                                            have c147b0 : decide (0 ≤ x17_4) = true := decide_eq_true c147
                                                                            clear c147
                                                                            by_cases c148 : x17_4 < (x13_4.length : Int)
                                                                            · rw [if_pos c148] at H
                                                                              have c148b0 : decide (x17_4 < (x13_4.length : Int)) = true := decide_eq_true c148
                                                                              clear c148
                                                                              obtain ⟨y171, hy171⟩ : ∃ y_ : List Int, y_ = (x13_4.set (x17_4 : Int).toNat (rd t141 (ji144))) := ⟨_, rfl⟩
                                                                              replace H : (geoderef03_Two.l0 kj128 t133 t141 t144 (wrap64 (Int.tmod a2 (IntKind.u64.wrap (t133)))) y171 (wrap64 (x17_4 + 1)) t132 t133 t134 t135) = some (r1, r2) := by first | (rw [hy171]; with_reducible exact H) | (have H2_ := (Option.bind_some _ _).symm.trans H; rw [hy171]; with_reducible exact H2_) | (have H2_ := (Option.bind_some _ _).symm.trans H; with_reducible exact H2_) | with_reducible exact H | (rw [hy171]; exact H) | exact H
                                                                              have Ny171 := Aside0.mk hy171
                                                                              clear hy171
                                                                              have H' := Aside0.mk H
                                                                              clear H
                                                                              have hcz150_0 : wc.cell? ⟨gb136, 0, none⟩ = some (.int .i64 t132) := (blk_cell BK136.out 0).trans rfl
                                                                              have hcz150_1 : wc.cell? ⟨gb136, 1, none⟩ = some (.int .i64 t133) := (blk_cell BK136.out 1).trans rfl
                                                                              have hcz150_2 : wc.cell? ⟨gb136, 2, none⟩ = some (.int .i64 t134) := (blk_cell BK136.out 2).trans rfl
                                                                              have hcz150_3 : wc.cell? ⟨gb136, 3, none⟩ = some (.int .i64 t135) := (blk_cell BK136.out 3).trans rfl
                                                                              have hfz150_0 := blk_frozen BK136.out 0
                                                                              have hfz150_1 := blk_frozen BK136.out 1
                                                                              have hfz150_2 := blk_frozen BK136.out 2
                                                                              have hfz150_3 := blk_frozen BK136.out 3
                                                                              obtain ⟨Ao151, co151, eo151⟩ := Kd.R_slice HO_10.out
                                                                              subst eo151
                                                                              have p170 : 0 ≤ ((ji144) : Int) := of_decide_eq_true (by first | (with_reducible assumption) | assumption)
                                                                              have q170 : (ji144) < (t141.length : Int) := of_decide_eq_true (by first | (with_reducible assumption) | assumption)
                                                                              obtain ⟨ad170, e170, hx170_0⟩ := Kd.at_int (Kd.R_reads' HO_10.out).2.2 (ji144) p170 q170
                                                                              cases e170
                                                                              replace p170 := eq_true p170
                                                                              replace q170 := eq_true q170
                                                                              have p149 : 0 ≤ (x17_4 : Int) := of_decide_eq_true (by first | (with_reducible assumption) | assumption)
                                                                              have q149 : (x17_4 : Int) < ((x13_4.length : Int) : Int) := of_decide_eq_true (by first | (with_reducible assumption) | assumption)
                                                                              obtain ⟨go149, co149, eo149, gb149, gl149, cl149, HG149⟩ := Kd.R_form HO_13.out (by omega)
                                                                              (first | cases eo149 | (injection eo149 with ea_ en_ ec_; (first | subst ea_ | (injection ea_ with ea_; subst ea_)); subst ec_; clear en_))
                                                                              have GB149 := Aside0.mk gb149
                                                                              have GG149 := Aside0.mk HG149
                                                                              clear gb149 gl149 HG149
                                                                              obtain ⟨hx149_0, hf149_0⟩ := Kd.R_celln 0 HO_13.out (x17_4 : Int) p149 q149
                                                                              replace p149 := eq_true p149
                                                                              replace q149 := eq_true q149
                                                                              have HP152 := Kd.R_putg HO_13.out (x17_4 : Int) (rd t141 (ji144))
                                                                              go_wp2_with (first | ((with_reducible refine gate_store (t := 3) (p := 215) rfl ?_); refine store_event (t := 3) (p := 215) (v := ?vo_w153) (w1 := (wc.setCell ⟨go149, (x17_4 : Int).toNat, none⟩ (.int .i64 (rd t141 (ji144))))) ?hg ?ho ?hn ?hr ?_; (case ho => rfl); (case hg => rfl); (case hn => rfl); (case hr => first | (go_simp; done) | (go_simp; rfl)); intro w153 hw; have hg : wc.grownBy w153 (some go149) := (by rw [hw]; exact HP152.2); have hp_ : Kd.R (Kd.int .i64) 3 w153 w.heap.size (fun k_ => some k_ ≠ (.slice (some ad170) t141.length co151 : Value).ownBlock ∧ some k_ ≠ (v145 : Value).ownBlock) (.slice (some ⟨go149, 0, none⟩) x13_4.length co149) y171 := (by rw [hw, Ny171.out]; exact HP152.1); clear HP152; have n0_ := Aside0.mk (Kd.R_after (v := (.slice (some ⟨go149, 0, none⟩) x13_4.length co149)) (v1 := (.slice (some ⟨go149, 0, none⟩) x13_4.length co149)) (ok := (fun k_ => some k_ ≠ (v145 : Value).ownBlock)) (by (with_reducible repeat (first | apply Kd.R_alloc | apply Kd.R_drewN | apply Kd.R_drew)); exact HO_10.out) hg (.inl rfl)); have n1_ := Aside0.mk (Kd.R_after (v := (.slice (some ⟨go149, 0, none⟩) x13_4.length co149)) (v1 := (.slice (some ⟨go149, 0, none⟩) x13_4.length co149)) (ok := (fun k_ => some k_ ≠ (.slice (some ad170) t141.length co151 : Value).ownBlock)) (by (with_reducible repeat (first | apply Kd.R_alloc | apply Kd.R_drewN | apply Kd.R_drew)); exact HO_11.out) hg (.inl rfl)); have n2_ := Aside0.mk (hp_); have n3_ := Aside0.mk (blk_grown (g := gb136) (o := .cells #[.int .i64 t132, .int .i64 t133, .int .i64 t134, .int .i64 t135] 39 (0, 0)) (by (with_reducible repeat (first | refine blk_drewN ?_ _ | refine blk_drew ?_ | refine blk_alloc ?_ _)); exact BK136.out) hg (Kd.R_ne HO_13.out BK136.out (by decide))); have n4_ := Aside0.mk ((by rw [hw]; exact below_set (HB.out) GB149.out : Below w.heap.size w w153)); clear HO_10; clear HO_11; clear HO_13; clear BK136; clear HB; have HO_10 := n0_; have HO_11 := n1_; have HO_13 := n2_; have BK136 := n3_; have HB := n4_; clear n0_ n1_ n2_ n3_ n4_; clear hg hw hp_))
                                                                              go_roundg kj128
                                                                              case measure => have := HJ4.out; have := HJ23.out; have := HJ60.out; have := HK4.out; have := HJ128.out; omega
                                                                              case rel => exact ⟨(y171), (wrap64 (x17_4 + 1)), (by first | rfl | (simp; done) | (simp [*]; done)), H', ⟨by have := HJ4.out; have := HJ23.out; have := HJ60.out; have := HK4.out; have := HJ128.out; omega⟩, ⟨by (with_reducible repeat (first | apply Kd.R_alloc | apply Kd.R_drewN | apply Kd.R_drew)); exact HO_10.out⟩, ⟨by (with_reducible repeat (first | apply Kd.R_alloc | apply Kd.R_drewN | apply Kd.R_drew)); exact HO_11.out⟩, ⟨by (with_reducible repeat (first | apply Kd.R_alloc | apply Kd.R_drewN | apply Kd.R_drew)); exact HO_13.out⟩, ⟨by (with_reducible repeat (first | refine blk_drewN ?_ _ | refine blk_drew ?_ | refine blk_alloc ?_ _)); exact BK136.out⟩, ⟨by repeat (first | (with_reducible first | exact HB.out | apply below_alloc | apply pw_below_drewN | apply below_drew1 | refine below_set ?_ GE136.out) | exact HB.out)⟩⟩
                                                                            · rw [if_neg c148] at H
                                                                              exact absurd H (by simp)
                                                                          · rw [if_neg c147] at H
                                                                            exact absurd H (by simp)
                                                                        · rw [if_neg c146] at H
                                                                          exact absurd H (by simp)
                                                                      · rw [if_neg c145] at H
                                                                        exact absurd H (by simp)
                                                                    · rw [if_neg c143] at H
                                                                      have c143b0 : (t132 == 31) = false := beq_eq_false_iff_ne.mpr c143
                                                                      have c143b1 : (t132 != 31) = true := bne_iff_ne.mpr c143
                                                                      have H' := Aside0.mk H
                                                                      clear H
                                                                      have hcz154_0 : wc.cell? ⟨gb136, 0, none⟩ = some (.int .i64 t132) := (blk_cell BK136.out 0).trans rfl
                                                                      have hcz154_1 : wc.cell? ⟨gb136, 1, none⟩ = some (.int .i64 t133) := (blk_cell BK136.out 1).trans rfl
                                                                      have hcz154_2 : wc.cell? ⟨gb136, 2, none⟩ = some (.int .i64 t134) := (blk_cell BK136.out 2).trans rfl
                                                                      have hcz154_3 : wc.cell? ⟨gb136, 3, none⟩ = some (.int .i64 t135) := (blk_cell BK136.out 3).trans rfl
                                                                      have hfz154_0 := blk_frozen BK136.out 0
                                                                      have hfz154_1 := blk_frozen BK136.out 1
                                                                      have hfz154_2 := blk_frozen BK136.out 2
                                                                      have hfz154_3 := blk_frozen BK136.out 3
                                                                      go_wp2
                                                                      go_roundg kj128
                                                                      case measure => have := HJ4.out; have := HJ23.out; have := HJ60.out; have := HK4.out; have := HJ128.out; omega
                                                                      case rel => exact ⟨(x13_4), (wrap64 (x17_4 + 1)), (by first | rfl | (simp; done) | (simp [*]; done)), H', ⟨by have := HJ4.out; have := HJ23.out; have := HJ60.out; have := HK4.out; have := HJ128.out; omega⟩, ⟨by (with_reducible repeat (first | apply Kd.R_alloc | apply Kd.R_drewN | apply Kd.R_drew)); exact HO_10.out⟩, ⟨by (with_reducible repeat (first | apply Kd.R_alloc | apply Kd.R_drewN | apply Kd.R_drew)); exact HO_11.out⟩, ⟨by (with_reducible repeat (first | apply Kd.R_alloc | apply Kd.R_drewN | apply Kd.R_drew)); exact HO_13.out⟩, ⟨by (with_reducible repeat (first | refine blk_drewN ?_ _ | refine blk_drew ?_ | refine blk_alloc ?_ _)); exact BK136.out⟩, ⟨by repeat (first | (with_reducible first | exact HB.out | apply below_alloc | apply pw_below_drewN | apply below_drew1 | refine below_set ?_ GE136.out) | exact HB.out)⟩⟩
                                                                · replace c132 := Bool.eq_false_iff.mpr c132
                                                                  subst c132
                                                                  have H1 : (if t132 = 33 then (if t133 = 0 then (none) else (if 0 ≤ (Int.tmod (wrap64 ((wrap64 (x17_4 + t133)) - (wrap64 (Int.tmod a2 (IntKind.u64.wrap (t133)))))) t133) then (if (Int.tmod (wrap64 ((wrap64 (x17_4 + t133)) - (wrap64 (Int.tmod a2 (IntKind.u64.wrap (t133)))))) t133) < (t141.length : Int) then (if 0 ≤ x17_4 then (if x17_4 < (x13_4.length : Int) then (geoderef03_Two.l0 kj128 t133 t141 t144 (wrap64 (Int.tmod a2 (IntKind.u64.wrap (t133)))) (x13_4.set (x17_4 : Int).toNat (rd t141 (Int.tmod (wrap64 ((wrap64 (x17_4 + t133)) - (wrap64 (Int.tmod a2 (IntKind.u64.wrap (t133)))))) t133))) (wrap64 (x17_4 + 1)) t132 t133 t134 t135) else (none)) else (none)) else (none)) else (none))) else (if t132 = 34 then (if t133 = 0 then (none) else (if 0 ≤ (Int.tmod (wrap64 (x17_4 + (wrap64 (Int.tmod a2 (IntKind.u64.wrap (t133)))))) t133) then (if (Int.tmod (wrap64 (x17_4 + (wrap64 (Int.tmod a2 (IntKind.u64.wrap (t133)))))) t133) < (t141.length : Int) then (if 0 ≤ x17_4 then (if x17_4 < (x13_4.length : Int) then (geoderef03_Two.l0 kj128 t133 t141 t144 (wrap64 (Int.tmod a2 (IntKind.u64.wrap (t133)))) (x13_4.set (x17_4 : Int).toNat (rd t141 (Int.tmod (wrap64 (x17_4 + (wrap64 (Int.tmod a2 (IntKind.u64.wrap (t133)))))) t133))) (wrap64 (x17_4 + 1)) t132 t133 t134 t135) else (none)) else (none)) else (none)) else (none))) else (geoderef03_Two.l0 kj128 t133 t141 t144 (wrap64 (Int.tmod a2 (IntKind.u64.wrap (t133)))) x13_4 (wrap64 (x17_4 + 1)) t132 t133 t134 t135))) = some (r1, r2) := by rw [if_neg (show ¬ (false = true) by decide)] at H; exact H
                                                                  clear H
                                                                  have H := H1
                                                                  clear H1
                                                                  by_cases c155 : t132 = 33
                                                                  · rw [if_pos c155] at H
                                                                    have c155b0 : (t132 == 33) = true := beq_iff_eq.mpr c155
                                                                    have c155b1 : (t132 != 33) = false := bne_eq_false_iff_eq.mpr c155
                                                                    clear c155
                                                                    by_cases c156 : t133 = 0
                                                                    · rw [if_pos c156] at H
                                                                      exact absurd H (by simp)
                                                                    · rw [if_neg c156] at H
                                                                      have c156b0 : (t133 == 0) = false := beq_eq_false_iff_ne.mpr c156
                                                                      have c156b1 : (t133 != 0) = true := bne_iff_ne.mpr c156
                                                                      obtain ⟨ji157, hji157⟩ : ∃ j_ : Int, (Int.tmod (wrap64 ((wrap64 (x17_4 + t133)) - (wrap64 (Int.tmod a2 (IntKind.u64.wrap (t133)))))) t133) = j_ := ⟨_, rfl⟩
                                                                      replace H : (if 0 ≤ (ji157) then (if (ji157) < (t141.length : Int) then (if 0 ≤ x17_4 then (if x17_4 < (x13_4.length : Int) then (geoderef03_Two.l0 kj128 t133 t141 t144 (wrap64 (Int.tmod a2 (IntKind.u64.wrap (t133)))) (x13_4.set (x17_4 : Int).toNat (rd t141 (ji157))) (wrap64 (x17_4 + 1)) t132 t133 t134 t135) else (none)) else (none)) else (none)) else (none)) = some (r1, r2) := by first | (rw [hji157] at H; exact H) | (simp only [hji157] at H ⊢; exact H)
                                                                      by_cases c158 : 0 ≤ (ji157)
                                                                      · rw [if_pos c158] at H
                                                                        have c158b0 : decide (0 ≤ (ji157)) = true := decide_eq_true c158
                                                                        clear c158
                                                                        by_cases c159 : (ji157) < (t141.length : Int)
                                                                        · rw [if_pos c159] at H
                                                                          have c159b0 : decide ((ji157) < (t141.length : Int)) = true := decide_eq_true c159
                                                                          clear c159
                                                                          by_cases c160 : 0 ≤ x17_4
                                                                          · rw [if_pos c160] at H
                                                                            have c160b0 : decide (0 ≤ x17_4) = true := decide_eq_true c160
                                                                            clear c160
                                                                            by_cases c161 : x17_4 < (x13_4.length : Int)
                                                                            · rw [if_pos c161] at H
                                                                              have c161b0 : decide (x17_4 < (x13_4.length : Int)) = true := decide_eq_true c161
                                                                              clear c161
                                                                              obtain ⟨y173, hy173⟩ : ∃ y_ : List Int, y_ = (x13_4.set (x17_4 : Int).toNat (rd t141 (ji157))) := ⟨_, rfl⟩
                                                                              replace H : (geoderef03_Two.l0 kj128 t133 t141 t144 (wrap64 (Int.tmod a2 (IntKind.u64.wrap (t133)))) y173 (wrap64 (x17_4 + 1)) t132 t133 t134 t135) = some (r1, r2) := by first | (rw [hy173]; with_reducible exact H) | (have H2_ := (Option.bind_some _ _).symm.trans H; rw [hy173]; with_reducible exact H2_) | (have H2_ := (Option.bind_some _ _).symm.trans H; with_reducible exact H2_) | with_reducible exact H | (rw [hy173]; exact H) | exact H
                                                                              have Ny173 := Aside0.mk hy173
                                                                              clear hy173
                                                                              have H' := Aside0.mk H
                                                                              clear H
                                                                              obtain ⟨Ao163, co163, eo163⟩ := Kd.R_slice HO_10.out
                                                                              subst eo163
                                                                              have p172 : 0 ≤ ((ji157) : Int) := of_decide_eq_true (by first | (with_reducible assumption) | assumption)
                                                                              have q172 : (ji157) < (t141.length : Int) := of_decide_eq_true (by first | (with_reducible assumption) | assumption)
                                                                              obtain ⟨ad172, e172, hx172_0⟩ := Kd.at_int (Kd.R_reads' HO_10.out).2.2 (ji157) p172 q172
                                                                              cases e172
                                                                              replace p172 := eq_true p172
                                                                              replace q172 := eq_true q172
                                                                              have p162 : 0 ≤ (x17_4 : Int) := of_decide_eq_true (by first | (with_reducible assumption) | assumption)
                                                                              have q162 : (x17_4 : Int) < ((x13_4.length : Int) : Int) := of_decide_eq_true (by first | (with_reducible assumption) | assumption)
                                                                              obtain ⟨go162, co162, eo162, gb162, gl162, cl162, HG162⟩ := Kd.R_form HO_13.out (by omega)
                                                                              (first | cases eo162 | (injection eo162 with ea_ en_ ec_; (first | subst ea_ | (injection ea_ with ea_; subst ea_)); subst ec_; clear en_))
                                                                              have GB162 := Aside0.mk gb162
                                                                              have GG162 := Aside0.mk HG162
                                                                              clear gb162 gl162 HG162
                                                                              obtain ⟨hx162_0, hf162_0⟩ := Kd.R_celln 0 HO_13.out (x17_4 : Int) p162 q162
                                                                              replace p162 := eq_true p162
                                                                              replace q162 := eq_true q162
                                                                              have HP164 := Kd.R_putg HO_13.out (x17_4 : Int) (rd t141 (ji157))
                                                                              go_wp2_with (first | ((with_reducible refine gate_store (t := 3) (p := 230) rfl ?_); refine store_event (t := 3) (p := 230) (v := ?vo_w165) (w1 := (wc.setCell ⟨go162, (x17_4 : Int).toNat, none⟩ (.int .i64 (rd t141 (ji157))))) ?hg ?ho ?hn ?hr ?_; (case ho => rfl); (case hg => rfl); (case hn => rfl); (case hr => first | (go_simp; done) | (go_simp; rfl)); intro w165 hw; have hg : wc.grownBy w165 (some go162) := (by rw [hw]; exact HP164.2); have hp_ : Kd.R (Kd.int .i64) 3 w165 w.heap.size (fun k_ => some k_ ≠ (.slice (some ad172) t141.length co163 : Value).ownBlock ∧ some k_ ≠ (v145 : Value).ownBlock) (.slice (some ⟨go162, 0, none⟩) x13_4.length co162) y173 := (by rw [hw, Ny173.out]; exact HP164.1); clear HP164; have n0_ := Aside0.mk (Kd.R_after (v := (.slice (some ⟨go162, 0, none⟩) x13_4.length co162)) (v1 := (.slice (some ⟨go162, 0, none⟩) x13_4.length co162)) (ok := (fun k_ => some k_ ≠ (v145 : Value).ownBlock)) (by (with_reducible repeat (first | apply Kd.R_alloc | apply Kd.R_drewN | apply Kd.R_drew)); exact HO_10.out) hg (.inl rfl)); have n1_ := Aside0.mk (Kd.R_after (v := (.slice (some ⟨go162, 0, none⟩) x13_4.length co162)) (v1 := (.slice (some ⟨go162, 0, none⟩) x13_4.length co162)) (ok := (fun k_ => some k_ ≠ (.slice (some ad172) t141.length co163 : Value).ownBlock)) (by (with_reducible repeat (first | apply Kd.R_alloc | apply Kd.R_drewN | apply Kd.R_drew)); exact HO_11.out) hg (.inl rfl)); have n2_ := Aside0.mk (hp_); have n3_ := Aside0.mk (blk_grown (g := gb136) (o := .cells #[.int .i64 t132, .int .i64 t133, .int .i64 t134, .int .i64 t135] 39 (0, 0)) (by (with_reducible repeat (first | refine blk_drewN ?_ _ | refine blk_drew ?_ | refine blk_alloc ?_ _)); exact BK136.out) hg (Kd.R_ne HO_13.out BK136.out (by decide))); have n4_ := Aside0.mk ((by rw [hw]; exact below_set (HB.out) GB162.out : Below w.heap.size w w165)); clear HO_10; clear HO_11; clear HO_13; clear BK136; clear HB; have HO_10 := n0_; have HO_11 := n1_; have HO_13 := n2_; have BK136 := n3_; have HB := n4_; clear n0_ n1_ n2_ n3_ n4_; clear hg hw hp_))
                                                                              go_roundg kj128
                                                                              case measure => have := HJ4.out; have := HJ23.out; have := HJ60.out; have := HK4.out; have := HJ128.out; omega
                                                                              case rel => exact ⟨(y173), (wrap64 (x17_4 + 1)), (by first | rfl | (simp; done) | (simp [*]; done)), H', ⟨by have := HJ4.out; have := HJ23.out; have := HJ60.out; have := HK4.out; have := HJ128.out; omega⟩, ⟨by (with_reducible repeat (first | apply Kd.R_alloc | apply Kd.R_drewN | apply Kd.R_drew)); exact HO_10.out⟩, ⟨by (with_reducible repeat (first | apply Kd.R_alloc | apply Kd.R_drewN | apply Kd.R_drew)); exact HO_11.out⟩, ⟨by (with_reducible repeat (first | apply Kd.R_alloc | apply Kd.R_drewN | apply Kd.R_drew)); exact HO_13.out⟩, ⟨by (with_reducible repeat (first | refine blk_drewN ?_ _ | refine blk_drew ?_ | refine blk_alloc ?_ _)); exact BK136.out⟩, ⟨by repeat (first | (with_reducible first | exact HB.out | apply below_alloc | apply pw_below_drewN | apply below_drew1 | refine below_set ?_ GE136.out) | exact HB.out)⟩⟩
                                                                            · rw [if_neg c161] at H
                                                                              exact absurd H (by simp)
                                                                          · rw [if_neg c160] at H
                                                                            exact absurd H (by simp)
                                                                        · rw [if_neg c159] at H
                                                                          exact absurd H (by simp)
                                                                      · rw [if_neg c158] at H
                                                                        exact absurd H (by simp)
                                                                  · rw [if_neg c155] at H
                                                                    have c155b0 : (t132 == 33) = false := beq_eq_false_iff_ne.mpr c155
                                                                    have c155b1 : (t132 != 33) = true := bne_iff_ne.mpr c155
                                                                    by_cases c166 : t132 = 34
                                                                    · rw [if_pos c166] at H
                                                                      have c166b0 : (t132 == 34) = true := beq_iff_eq.mpr c166
                                                                      have c166b1 : (t132 != 34) = false := bne_eq_false_iff_eq.mpr c166
                                                                      clear c166
                                                                      by_cases c167 : t133 = 0
                                                                      · rw [if_pos c167] at H
                                                                        exact absurd H (by simp)
                                                                      · rw [if_neg c167] at H
                                                                        have c167b0 : (t133 == 0) = false := beq_eq_false_iff_ne.mpr c167
                                                                        have c167b1 : (t133 != 0) = true := bne_iff_ne.mpr c167
                                                                        obtain ⟨ji168, hji168⟩ : ∃ j_ : Int, (Int.tmod (wrap64 (x17_4 + (wrap64 (Int.tmod a2 (IntKind.u64.wrap (t133)))))) t133) = j_ := ⟨_, rfl⟩
                                                                        replace H : (if 0 ≤ (ji168) then (if (ji168) < (t141.length : Int) then (if 0 ≤ x17_4 then (if x17_4 < (x13_4.length : Int) then (geoderef03_Two.l0 kj128 t133 t141 t144 (wrap64 (Int.tmod a2 (IntKind.u64.wrap (t133)))) (x13_4.set (x17_4 : Int).toNat (rd t141 (ji168))) (wrap64 (x17_4 + 1)) t132 t133 t134 t135) else (none)) else (none)) else (none)) else (none)) = some (r1, r2) := by first | (rw [hji168] at H; exact H) | (simp only [hji168] at H ⊢; exact H)
                                                                        by_cases c169 : 0 ≤ (ji168)
                                                                        · rw [if_pos c169] at H
                                                                          have c169b0 : decide (0 ≤ (ji168)) = true := decide_eq_true c169
                                                                          clear c169
                                                                          by_cases c170 : (ji168) < (t141.length : Int)
                                                                          · rw [if_pos c170] at H
                                                                            have c170b0 : decide ((ji168) < (t141.length : Int)) = true := decide_eq_true c170
                                                                            clear c170
                                                                            by_cases c171 : 0 ≤ x17_4
                                                                            · rw [if_pos c171] at H
                                                                              have c171b0 : decide (0 ≤ x17_4) = true := decide_eq_true c171
                                                                              clear c171
                                                                              by_cases c172 : x17_4 < (x13_4.length : Int)
                                                                              · rw [if_pos c172] at H
                                                                                have c172b0 : decide (x17_4 < (x13_4.length : Int)) = true := decide_eq_true c172
                                                                                clear c172
                                                                                obtain ⟨y175, hy175⟩ : ∃ y_ : List Int, y_ = (x13_4.set (x17_4 : Int).toNat (rd t141 (ji168))) := ⟨_, rfl⟩
                                                                                replace H : (geoderef03_Two.l0 kj128 t133 t141 t144 (wrap64 (Int.tmod a2 (IntKind.u64.wrap (t133)))) y175 (wrap64 (x17_4 + 1)) t132 t133 t134 t135) = some (r1, r2) := by first | (rw [hy175]; with_reducible exact H) | (have H2_ := (Option.bind_some _ _).symm.trans H; rw [hy175]; with_reducible exact H2_) | (have H2_ := (Option.bind_some _ _).symm.trans H; with_reducible exact H2_) | with_reducible exact H | (rw [hy175]; exact H) | exact H
                                                                                have Ny175 := Aside0.mk hy175
                                                                                clear hy175
                                                                                have H' := Aside0.mk H
                                                                                clear H
                                                                                obtain ⟨Ao174, co174, eo174⟩ := Kd.R_slice HO_10.out
                                                                                subst eo174
                                                                                have p174 : 0 ≤ ((ji168) : Int) := of_decide_eq_true (by first | (with_reducible assumption) | assumption)
                                                                                have q174 : (ji168) < (t141.length : Int) := of_decide_eq_true (by first | (with_reducible assumption) | assumption)
                                                                                obtain ⟨ad174, e174, hx174_0⟩ := Kd.at_int (Kd.R_reads' HO_10.out).2.2 (ji168) p174 q174
                                                                                cases e174
                                                                                replace p174 := eq_true p174
                                                                                replace q174 := eq_true q174
                                                                                have p173 : 0 ≤ (x17_4 : Int) := of_decide_eq_true (by first | (with_reducible assumption) | assumption)
                                                                                have q173 : (x17_4 : Int) < ((x13_4.length : Int) : Int) := of_decide_eq_true (by first | (with_reducible assumption) | assumption)
                                                                                obtain ⟨go173, co173, eo173, gb173, gl173, cl173, HG173⟩ := Kd.R_form HO_13.out (by omega)
                                                                                (first | cases eo173 | (injection eo173 with ea_ en_ ec_; (first | subst ea_ | (injection ea_ with ea_; subst ea_)); subst ec_; clear en_))
                                                                                have GB173 := Aside0.mk gb173
                                                                                have GG173 := Aside0.mk HG173
                                                                                clear gb173 gl173 HG173
                                                                                obtain ⟨hx173_0, hf173_0⟩ := Kd.R_celln 0 HO_13.out (x17_4 : Int) p173 q173
                                                                                replace p173 := eq_true p173
                                                                                replace q173 := eq_true q173
                                                                                have HP175 := Kd.R_putg HO_13.out (x17_4 : Int) (rd t141 (ji168))
                                                                                go_wp2_with (first | ((with_reducible refine gate_store (t := 3) (p := 243) rfl ?_); refine store_event (t := 3) (p := 243) (v := ?vo_w176) (w1 := (wc.setCell ⟨go173, (x17_4 : Int).toNat, none⟩ (.int .i64 (rd t141 (ji168))))) ?hg ?ho ?hn ?hr ?_; (case ho => rfl); (case hg => rfl); (case hn => rfl); (case hr => first | (go_simp; done) | (go_simp; rfl)); intro w176 hw; have hg : wc.grownBy w176 (some go173) := (by rw [hw]; exact HP175.2); have hp_ : Kd.R (Kd.int .i64) 3 w176 w.heap.size (fun k_ => some k_ ≠ (.slice (some ad174) t141.length co174 : Value).ownBlock ∧ some k_ ≠ (v145 : Value).ownBlock) (.slice (some ⟨go173, 0, none⟩) x13_4.length co173) y175 := (by rw [hw, Ny175.out]; exact HP175.1); clear HP175; have n0_ := Aside0.mk (Kd.R_after (v := (.slice (some ⟨go173, 0, none⟩) x13_4.length co173)) (v1 := (.slice (some ⟨go173, 0, none⟩) x13_4.length co173)) (ok := (fun k_ => some k_ ≠ (v145 : Value).ownBlock)) (by (with_reducible repeat (first | apply Kd.R_alloc | apply Kd.R_drewN | apply Kd.R_drew)); exact HO_10.out) hg (.inl rfl)); have n1_ := Aside0.mk (Kd.R_after (v := (.slice (some ⟨go173, 0, none⟩) x13_4.length co173)) (v1 := (.slice (some ⟨go173, 0, none⟩) x13_4.length co173)) (ok := (fun k_ => some k_ ≠ (.slice (some ad174) t141.length co174 : Value).ownBlock)) (by (with_reducible repeat (first | apply Kd.R_alloc | apply Kd.R_drewN | apply Kd.R_drew)); exact HO_11.out) hg (.inl rfl)); have n2_ := Aside0.mk (hp_); have n3_ := Aside0.mk (blk_grown (g := gb136) (o := .cells #[.int .i64 t132, .int .i64 t133, .int .i64 t134, .int .i64 t135] 39 (0, 0)) (by (with_reducible repeat (first | refine blk_drewN ?_ _ | refine blk_drew ?_ | refine blk_alloc ?_ _)); exact BK136.out) hg (Kd.R_ne HO_13.out BK136.out (by decide))); have n4_ := Aside0.mk ((by rw [hw]; exact below_set (HB.out) GB173.out : Below w.heap.size w w176)); clear HO_10; clear HO_11; clear HO_13; clear BK136; clear HB; have HO_10 := n0_; have HO_11 := n1_; have HO_13 := n2_; have BK136 := n3_; have HB := n4_; clear n0_ n1_ n2_ n3_ n4_; clear hg hw hp_))
                                                                                go_roundg kj128
                                                                                case measure => have := HJ4.out; have := HJ23.out; have := HJ60.out; have := HK4.out; have := HJ128.out; omega
                                                                                case rel => exact ⟨(y175), (wrap64 (x17_4 + 1)), (by first | rfl | (simp; done) | (simp [*]; done)), H', ⟨by have := HJ4.out; have := HJ23.out; have := HJ60.out; have := HK4.out; have := HJ128.out; omega⟩, ⟨by (with_reducible repeat (first | apply Kd.R_alloc | apply Kd.R_drewN | apply Kd.R_drew)); exact HO_10.out⟩, ⟨by (with_reducible repeat (first | apply Kd.R_alloc | apply Kd.R_drewN | apply Kd.R_drew)); exact HO_11.out⟩, ⟨by (with_reducible repeat (first | apply Kd.R_alloc | apply Kd.R_drewN | apply Kd.R_drew)); exact HO_13.out⟩, ⟨by (with_reducible repeat (first | refine blk_drewN ?_ _ | refine blk_drew ?_ | refine blk_alloc ?_ _)); exact BK136.out⟩, ⟨by repeat (first | (with_reducible first | exact HB.out | apply below_alloc | apply pw_below_drewN | apply below_drew1 | refine below_set ?_ GE136.out) | exact HB.out)⟩⟩
                                                                              · rw [if_neg c172] at H
                                                                                exact absurd H (by simp)
                                                                            · rw [if_neg c171] at H
                                                                              exact absurd H (by simp)
                                                                          · rw [if_neg c170] at H
                                                                            exact absurd H (by simp)
                                                                        · rw [if_neg c169] at H
                                                                          exact absurd H (by simp)
                                                                    · rw [if_neg c166] at H
                                                                      have c166b0 : (t132 == 34) = false := beq_eq_false_iff_ne.mpr c166
                                                                      have c166b1 : (t132 != 34) = true := bne_iff_ne.mpr c166
                                                                      have H' := Aside0.mk H
                                                                      clear H
                                                                      go_wp2
                                                                      go_roundg kj128
                                                                      case measure => have := HJ4.out; have := HJ23.out; have := HJ60.out; have := HK4.out; have := HJ128.out; omega
                                                                      case rel => exact ⟨(x13_4), (wrap64 (x17_4 + 1)), (by first | rfl | (simp; done) | (simp [*]; done)), H', ⟨by have := HJ4.out; have := HJ23.out; have := HJ60.out; have := HK4.out; have := HJ128.out; omega⟩, ⟨by (with_reducible repeat (first | apply Kd.R_alloc | apply Kd.R_drewN | apply Kd.R_drew)); exact HO_10.out⟩, ⟨by (with_reducible repeat (first | apply Kd.R_alloc | apply Kd.R_drewN | apply Kd.R_drew)); exact HO_11.out⟩, ⟨by (with_reducible repeat (first | apply Kd.R_alloc | apply Kd.R_drewN | apply Kd.R_drew)); exact HO_13.out⟩, ⟨by (with_reducible repeat (first | refine blk_drewN ?_ _ | refine blk_drew ?_ | refine blk_alloc ?_ _)); exact BK136.out⟩, ⟨by repeat (first | (with_reducible first | exact HB.out | apply below_alloc | apply pw_below_drewN | apply below_drew1 | refine below_set ?_ GE136.out) | exact HB.out)⟩⟩
                                                · rw [if_neg c82] at H
                                                  have c82b0 : decide (x17_4 < t133) = false := decide_eq_false c82
                                                  clear c82
                                                  replace H := Option.bind_eq_some_iff.mp H
                                                  obtain ⟨t156, A1770, H⟩ := H
                                                  replace H : (some (t156, 0)) = some (r1, r2) := H
                                                  have A177 := Aside0.mk A1770
                                                  clear A1770
                                                  simp only [Option.some.injEq, Prod.mk.injEq] at H
                                                  obtain ⟨rfl, rfl⟩ := H
                                                  obtain ⟨Ao178, co178, eo178⟩ := Kd.R_slice HO_13.out
                                                  subst eo178
                                                  go_wp2_with (first | ((with_reducible refine gate_callee (f := 28) rfl ?_); refine goesL_ (some 245) rfl rfl Tryd.func28 (by kernel_rfl) rfl #[.slice Ao178 x13_4.length co178] rfl (by (try simp only [List.map_toArray, List.map_cons, List.map_nil]); first | done | rfl | (simp only [List.length_drop, List.length_take]; rfl)) ?_; (with_reducible refine (geoderef03_Number.calls k4 _ _ x13_4 t156 _ ?side1 ?side2 A177.out).mono ?_); (case side1 => repeat (first | exact (Kd.R_reads' HO_13.out).2.2 | (with_reducible refine Kd.C_alloc ?_ _) | (with_reducible refine Kd.C_drewN ?_ _) | (with_reducible refine Kd.C_drew ?_))); (case side2 => exact (Kd.R_reads' HO_13.out).2.1); rintro e w' ⟨rfl, ⟨nd, rfl⟩⟩; refine ⟨_, rfl, ?_⟩))
                                                  go_ret2
                                                  exact ⟨by first | rfl | (simp [errW_none, errW_some] <;> rfl) | (simp [*, errW_none, errW_some] <;> rfl), by repeat (first | (with_reducible first | exact HB.out | apply below_alloc | apply pw_below_drewN | apply below_drew1 | refine below_set ?_ GE136.out) | exact HB.out)⟩
                        · rw [if_neg c36] at H
                          exact absurd H (by simp)
                      · rw [if_neg c35] at H
                        exact absurd H (by simp)

end Go.Proofs.YtfcagbgnlibfpaaDoor.PNumTwo
