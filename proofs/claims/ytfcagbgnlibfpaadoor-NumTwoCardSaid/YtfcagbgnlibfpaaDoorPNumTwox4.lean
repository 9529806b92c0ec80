-- PRINTED BY print.sh 35421559b90ae4d0a3588c463048766b98c2df88dd9212a6774a882060cdf62d: not written by this session
import Derived.Test.YtfcagbgnlibfpaaDoorPNumTwox0
import Derived.Test.YtfcagbgnlibfpaaDoorPNumTwox3
namespace Go.Proofs.YtfcagbgnlibfpaaDoor.PNumTwo
open Go.RowKit Go.Proofs.YtfcagbgnlibfpaaDoorW.PrintWords Go.Proofs.YtfcagbgnlibfpaaDoorW.PrintLast Go.Proofs.YtfcagbgnlibfpaaDoorW.PrintMore
attribute [local go_sem] max2_int min2_int max_two min_two max_three min_three max_four min_four   -- for this text's walks alone
set_option linter.unusedVariables false
set_option linter.unusedSimpArgs false

/-! ### geoderef03_divide: function 27 -/
mutual
def geoderef03_divide.j0 : Nat → Int → Int → Int → Int → Int → Option (Int × Int × Bool)
  | 0, _, _, _, _, _ => none
  | k + 1, x0, x1, x2, x9, x10 => (geoderef03_Bit.f k x2 (wrap64 (x0 - 1))).bind fun t124 => (if t124 = 1 then ((geoderef03_minus.f k x2 x0).bind fun t125 => (geoderef03_divide.j1 k x0 x1 x2 x9 t125)) else (geoderef03_divide.j1 k x0 x1 x2 x9 x10))
def geoderef03_divide.j1 : Nat → Int → Int → Int → Int → Int → Option (Int × Int × Bool)
  | 0, _, _, _, _, _ => none
  | k + 1, x0, x1, x2, x9, x10 => if x10 = 0 then (none) else ((geoderef03_Bit.f k x1 (wrap64 (x0 - 1))).bind fun t126 => ((geoderef03_Bit.f k x2 (wrap64 (x0 - 1))).bind fun t127 => (if t126 = t127 then ((geoderef03_Bit.f k (IntKind.u64.wrap (Int.tdiv x9 x10)) (wrap64 (x0 - 1))).bind fun t128 => (geoderef03_divide.j2 k x0 x1 (IntKind.u64.wrap (Int.tdiv x9 x10)) (Int.tmod x9 x10) (t128 == 1))) else ((geoderef03_minus.f k (IntKind.u64.wrap (Int.tdiv x9 x10)) x0).bind fun t129 => (geoderef03_divide.j2 k x0 x1 t129 (Int.tmod x9 x10) false)))))
def geoderef03_divide.j2 : Nat → Int → Int → Int → Int → Bool → Option (Int × Int × Bool)
  | 0, _, _, _, _, _ => none
  | k + 1, x0, x1, x11, x12, x13 => (geoderef03_Bit.f k x1 (wrap64 (x0 - 1))).bind fun t130 => (if t130 = 1 then ((geoderef03_minus.f k x12 x0).bind fun t131 => (some (x11, t131, x13))) else (some (x11, x12, x13)))
end
def geoderef03_divide.f (k : Nat) (a0 : Int) (a1 : Int) (a2 : Int) : Option (Int × Int × Bool) := (geoderef03_Bit.f k a1 (wrap64 (a0 - 1))).bind fun t122 => (if t122 = 1 then ((geoderef03_minus.f k a1 a0).bind fun t123 => (geoderef03_divide.j0 k a0 a1 a2 t123 a2)) else (geoderef03_divide.j0 k a0 a1 a2 a1 a2))
theorem geoderef03_divide.mono_l : ∀ k, (∀ y0 y1 y2 y3 y4, LeO (geoderef03_divide.j0 k y0 y1 y2 y3 y4) (geoderef03_divide.j0 (k + 1) y0 y1 y2 y3 y4)) ∧ (∀ y0 y1 y2 y3 y4, LeO (geoderef03_divide.j1 k y0 y1 y2 y3 y4) (geoderef03_divide.j1 (k + 1) y0 y1 y2 y3 y4)) ∧ (∀ y0 y1 y2 y3 y4, LeO (geoderef03_divide.j2 k y0 y1 y2 y3 y4) (geoderef03_divide.j2 (k + 1) y0 y1 y2 y3 y4))
  | 0 => ⟨fun _ _ _ _ _ r h => by simp [geoderef03_divide.j0] at h, fun _ _ _ _ _ r h => by simp [geoderef03_divide.j1] at h, fun _ _ _ _ _ r h => by simp [geoderef03_divide.j2] at h⟩
  | k + 1 => by
    obtain ⟨ih0, ih1, ih2⟩ := geoderef03_divide.mono_l k
    refine ⟨?_, ?_, ?_⟩
    · intro y0 y1 y2 y3 y4
      unfold geoderef03_divide.j0
      repeat' first
      | (with_reducible exact ih0 _ _ _ _ _)
      | (with_reducible exact ih1 _ _ _ _ _)
      | (with_reducible exact ih2 _ _ _ _ _)
      | (with_reducible exact geoderef03_Bit.mono _ _ _)
      | (with_reducible exact geoderef03_minus.mono _ _ _)
      | (with_reducible exact LeO.refl _)
      | (with_reducible exact LeO.none _)
      | (with_reducible refine LeO.ite ?_ ?_)
      | (with_reducible refine LeO.bind ?_ (fun _ => ?_))
      | exact ih0 _ _ _ _ _
      | exact ih1 _ _ _ _ _
      | exact ih2 _ _ _ _ _
      | exact geoderef03_Bit.mono _ _ _
      | exact geoderef03_minus.mono _ _ _
      | exact LeO.none _
      | refine LeO.ite ?_ ?_
      | refine LeO.bind ?_ (fun _ => ?_)
    · intro y0 y1 y2 y3 y4
      unfold geoderef03_divide.j1
      repeat' first
      | (with_reducible exact ih0 _ _ _ _ _)
      | (with_reducible exact ih1 _ _ _ _ _)
      | (with_reducible exact ih2 _ _ _ _ _)
      | (with_reducible exact geoderef03_Bit.mono _ _ _)
      | (with_reducible exact geoderef03_minus.mono _ _ _)
      | (with_reducible exact LeO.refl _)
      | (with_reducible exact LeO.none _)
      | (with_reducible refine LeO.ite ?_ ?_)
      | (with_reducible refine LeO.bind ?_ (fun _ => ?_))
      | exact ih0 _ _ _ _ _
      | exact ih1 _ _ _ _ _
      | exact ih2 _ _ _ _ _
      | exact geoderef03_Bit.mono _ _ _
      | exact geoderef03_minus.mono _ _ _
      | exact LeO.none _
      | refine LeO.ite ?_ ?_
      | refine LeO.bind ?_ (fun _ => ?_)
    · intro y0 y1 y2 y3 y4
      unfold geoderef03_divide.j2
      repeat' first
      | (with_reducible exact ih0 _ _ _ _ _)
      | (with_reducible exact ih1 _ _ _ _ _)
      | (with_reducible exact ih2 _ _ _ _ _)
      | (with_reducible exact geoderef03_Bit.mono _ _ _)
      | (with_reducible exact geoderef03_minus.mono _ _ _)
      | (with_reducible exact LeO.refl _)
      | (with_reducible exact LeO.none _)
      | (with_reducible refine LeO.ite ?_ ?_)
      | (with_reducible refine LeO.bind ?_ (fun _ => ?_))
      | exact ih0 _ _ _ _ _
      | exact ih1 _ _ _ _ _
      | exact ih2 _ _ _ _ _
      | exact geoderef03_Bit.mono _ _ _
      | exact geoderef03_minus.mono _ _ _
      | exact LeO.none _
      | refine LeO.ite ?_ ?_
      | refine LeO.bind ?_ (fun _ => ?_)
theorem geoderef03_divide.mono : ∀ a0 a1 a2 k, LeO (geoderef03_divide.f k a0 a1 a2) (geoderef03_divide.f (k + 1) a0 a1 a2) := by
  intro a0 a1 a2 k
  obtain ⟨ih0, ih1, ih2⟩ := geoderef03_divide.mono_l k
  unfold geoderef03_divide.f
  repeat' first
      | (with_reducible exact ih0 _ _ _ _ _)
      | (with_reducible exact ih1 _ _ _ _ _)
      | (with_reducible exact ih2 _ _ _ _ _)
      | (with_reducible exact geoderef03_Bit.mono _ _ _)
      | (with_reducible exact geoderef03_minus.mono _ _ _)
      | (with_reducible exact LeO.refl _)
      | (with_reducible exact LeO.none _)
      | (with_reducible refine LeO.ite ?_ ?_)
      | (with_reducible refine LeO.bind ?_ (fun _ => ?_))
      | exact ih0 _ _ _ _ _
      | exact ih1 _ _ _ _ _
      | exact ih2 _ _ _ _ _
      | exact geoderef03_Bit.mono _ _ _
      | exact geoderef03_minus.mono _ _ _
      | exact LeO.none _
      | refine LeO.ite ?_ ?_
      | refine LeO.bind ?_ (fun _ => ?_)
set_option maxHeartbeats 8000000 in
set_option maxRecDepth 100000 in
theorem geoderef03_divide.calls (k : Nat) (a0 : Int) (a1 : Int) (a2 : Int) (r1 : Int) (r2 : Int) (r3 : Bool) (w : World) (h : geoderef03_divide.f k a0 a1 a2 = some (r1, r2, r3)) :
    Calls Tryd.prog 27 #[.int .i64 a0, .int .u64 a1, .int .u64 a2] w fun e w' => e = .returned (.tuple #[.int .u64 r1, .int .u64 r2, .bool r3]) ∧ Below w.heap.size w w' := by
  have HB := Aside0.mk (Below.refl w.heap.size w)
  have H : ((geoderef03_Bit.f k a1 (wrap64 (a0 - 1))).bind fun t122 => (if t122 = 1 then ((geoderef03_minus.f k a1 a0).bind fun t123 => (geoderef03_divide.j0 k a0 a1 a2 t123 a2)) else (geoderef03_divide.j0 k a0 a1 a2 a1 a2))) = some (r1, r2, r3) := h
  clear h
  replace H := Option.bind_eq_some_iff.mp H
  obtain ⟨t122, A40, H⟩ := H
  replace H : (if t122 = 1 then ((geoderef03_minus.f k a1 a0).bind fun t123 => (geoderef03_divide.j0 k a0 a1 a2 t123 a2)) else (geoderef03_divide.j0 k a0 a1 a2 a1 a2)) = some (r1, r2, r3) := H
  have A4 := Aside0.mk A40
  clear A40
  have HC5 := Aside0.mk H
  clear H
  go_enter Tryd.func27, Tryd.ntmps27
  go_upto_if 20 with (first | ((with_reducible refine gate_callee (f := 49) rfl ?_); refine goesL_ (some 19) rfl rfl Tryd.func49 (by kernel_rfl) rfl #[.int .u64 a1, .int .i64 (wrap64 (a0 - 1))] rfl (by (try simp only [List.map_toArray, List.map_cons, List.map_nil]); first | done | rfl | (simp only [List.length_drop, List.length_take]; rfl)) ?_; (with_reducible refine (geoderef03_Bit.calls k a1 (wrap64 (a0 - 1)) t122 _ A4.out).mono ?_); rintro e w' ⟨rfl, ⟨nd, rfl⟩⟩; refine ⟨_, rfl, ?_⟩))
  (try simp only [Act.put, List.setIfInBounds_toArray, List.set_cons_zero, List.set_cons_succ])
  go_cut [9] (fun v9 wc => ∃ (kq : Nat) (x9_4 : Int), v9 = .int .u64 x9_4 ∧ Aside0 (geoderef03_divide.j0 kq a0 a1 a2 x9_4 a2 = some (r1, r2, r3)) ∧ Aside0 (kq ≤ k) ∧ Aside0 (Below w.heap.size w wc))
  case first =>
    have H := HC5.out
    clear HC5
    by_cases c6 : t122 = 1
    · rw [if_pos c6] at H
      have c6b0 : (t122 == 1) = true := beq_iff_eq.mpr c6
      have c6b1 : (t122 != 1) = false := bne_eq_false_iff_eq.mpr c6
      clear c6
      (first | rw [c6b0] | (simp only [i64_w, i32_w]; rw [c6b0]) | skip)
      replace H := Option.bind_eq_some_iff.mp H
      obtain ⟨t123, A70, H⟩ := H
      replace H : (geoderef03_divide.j0 k a0 a1 a2 t123 a2) = some (r1, r2, r3) := H
      have A7 := Aside0.mk A70
      clear A70
      have H' := Aside0.mk H
      clear H
      go_wp2_with (first | ((with_reducible refine gate_callee (f := 50) rfl ?_); refine goesL_ (some 23) rfl rfl Tryd.func50 (by kernel_rfl) rfl #[.int .u64 a1, .int .i64 a0] rfl (by (try simp only [List.map_toArray, List.map_cons, List.map_nil]); first | done | rfl | (simp only [List.length_drop, List.length_take]; rfl)) ?_; (with_reducible refine (geoderef03_minus.calls k a1 a0 t123 _ A7.out).mono ?_); rintro e w8 ⟨rfl, hb⟩; refine ⟨_, rfl, ?_⟩; have n0_ := Aside0.mk (below_step (by repeat (first | (with_reducible first | exact HB.out | apply below_alloc | apply pw_below_drewN | apply below_drew1) | exact HB.out)) hb); clear HB; have HB := n0_; clear n0_; (try clear hb); (try clear hb2); (try clear hk); (try clear hi)))
      go_meet
      case rel => exact ⟨_, (t123), (by first | rfl | (simp; done) | (simp [*]; done)), H', ⟨by first | omega | exact Nat.le_refl _⟩, ⟨by repeat (first | (with_reducible first | exact HB.out | apply below_alloc | apply pw_below_drewN | apply below_drew1) | exact HB.out)⟩⟩
    · rw [if_neg c6] at H
      have c6b0 : (t122 == 1) = false := beq_eq_false_iff_ne.mpr c6
      have c6b1 : (t122 != 1) = true := bne_iff_ne.mpr c6
      (first | rw [c6b0] | (simp only [i64_w, i32_w]; rw [c6b0]) | skip)
      have H' := Aside0.mk H
      clear H
      go_wp2
      go_meet
      case rel => exact ⟨_, (a1), (by first | rfl | (simp; done) | (simp [*]; done)), H', ⟨by first | omega | exact Nat.le_refl _⟩, ⟨by repeat (first | (with_reducible first | exact HB.out | apply below_alloc | apply pw_below_drewN | apply below_drew1) | exact HB.out)⟩⟩
  case rest =>
    clear HC5
    try clear c2
    try clear p2
    try clear c4
    try clear c5
    try clear c6
    try clear c6b0
    try clear c6b1
    try clear p6
    obtain ⟨kq, x9_4, rfl, HA, HJ4, HB⟩ := hcut
    cases kq with
    | zero => exact absurd HA.out (by simp [geoderef03_divide.j0])
    | succ kj4 =>
      have H := HA.out
      clear HA
      simp only [geoderef03_divide.j0] at H
      replace H := Option.bind_eq_some_iff.mp H
      obtain ⟨t124, A90, H⟩ := H
      replace H : (if t124 = 1 then ((geoderef03_minus.f kj4 a2 a0).bind fun t125 => (geoderef03_divide.j1 kj4 a0 a1 a2 x9_4 t125)) else (geoderef03_divide.j1 kj4 a0 a1 a2 x9_4 a2)) = some (r1, r2, r3) := H
      have A9 := Aside0.mk A90
      clear A90
      have HC10 := Aside0.mk H
      clear H
      go_upto_if 28 with (first | ((with_reducible refine gate_callee (f := 49) rfl ?_); refine goesL_ (some 27) rfl rfl Tryd.func49 (by kernel_rfl) rfl #[.int .u64 a2, .int .i64 (wrap64 (a0 - 1))] rfl (by (try simp only [List.map_toArray, List.map_cons, List.map_nil]); first | done | rfl | (simp only [List.length_drop, List.length_take]; rfl)) ?_; (with_reducible refine (geoderef03_Bit.calls kj4 a2 (wrap64 (a0 - 1)) t124 _ A9.out).mono ?_); rintro e w' ⟨rfl, ⟨nd, rfl⟩⟩; refine ⟨_, rfl, ?_⟩))
      (try simp only [Act.put, List.setIfInBounds_toArray, List.set_cons_zero, List.set_cons_succ])
      go_cut [10] (fun v10 wc => ∃ (kq : Nat) (x10_9 : Int), v10 = .int .u64 x10_9 ∧ Aside0 (geoderef03_divide.j1 kq a0 a1 a2 x9_4 x10_9 = some (r1, r2, r3)) ∧ Aside0 (kq ≤ kj4) ∧ Aside0 (Below w.heap.size w wc))
      case first =>
        have H := HC10.out
        clear HC10
        by_cases c11 : t124 = 1
        · rw [if_pos c11] at H
          have c11b0 : (t124 == 1) = true := beq_iff_eq.mpr c11
          have c11b1 : (t124 != 1) = false := bne_eq_false_iff_eq.mpr c11
          clear c11
          (first | rw [c11b0] | (simp only [i64_w, i32_w]; rw [c11b0]) | skip)
          replace H := Option.bind_eq_some_iff.mp H
          obtain ⟨t125, A120, H⟩ := H
          replace H : (geoderef03_divide.j1 kj4 a0 a1 a2 x9_4 t125) = some (r1, r2, r3) := H
          have A12 := Aside0.mk A120
          clear A120
          have H' := Aside0.mk H
          clear H
          go_wp2_with (first | ((with_reducible refine gate_callee (f := 50) rfl ?_); refine goesL_ (some 31) rfl rfl Tryd.func50 (by kernel_rfl) rfl #[.int .u64 a2, .int .i64 a0] rfl (by (try simp only [List.map_toArray, List.map_cons, List.map_nil]); first | done | rfl | (simp only [List.length_drop, List.length_take]; rfl)) ?_; (with_reducible refine (geoderef03_minus.calls kj4 a2 a0 t125 _ A12.out).mono ?_); rintro e w13 ⟨rfl, hb⟩; refine ⟨_, rfl, ?_⟩; have n0_ := Aside0.mk (below_step (by repeat (first | (with_reducible first | exact HB.out | apply below_alloc | apply pw_below_drewN | apply below_drew1) | exact HB.out)) hb); clear HB; have HB := n0_; clear n0_; (try clear hb); (try clear hb2); (try clear hk); (try clear hi)))
          go_meet
          case rel => exact ⟨_, (t125), (by first | rfl | (simp; done) | (simp [*]; done)), H', ⟨by have := HJ4.out; first | omega | exact Nat.le_refl _⟩, ⟨by repeat (first | (with_reducible first | exact HB.out | apply below_alloc | apply pw_below_drewN | apply below_drew1) | exact HB.out)⟩⟩
        · rw [if_neg c11] at H
          have c11b0 : (t124 == 1) = false := beq_eq_false_iff_ne.mpr c11
          have c11b1 : (t124 != 1) = true := bne_iff_ne.mpr c11
          (first | rw [c11b0] | (simp only [i64_w, i32_w]; rw [c11b0]) | skip)
          have H' := Aside0.mk H
          clear H
          go_wp2
          go_meet
          case rel => exact ⟨_, (a2), (by first | rfl | (simp; done) | (simp [*]; done)), H', ⟨by have := HJ4.out; first | omega | exact Nat.le_refl _⟩, ⟨by repeat (first | (with_reducible first | exact HB.out | apply below_alloc | apply pw_below_drewN | apply below_drew1) | exact HB.out)⟩⟩
      case rest =>
        clear HC10
        try clear c1
        try clear c2
        try clear p2
        try clear c4
        try clear c5
        try clear c6
        try clear c6b0
        try clear c6b1
        try clear p6
        try clear c11
        try clear c11b0
        try clear c11b1
        try clear p2
        try clear p6
        obtain ⟨kq, x10_9, rfl, HA, HJ9, HB⟩ := hcut
        cases kq with
        | zero => exact absurd HA.out (by simp [geoderef03_divide.j1])
        | succ kj9 =>
          have H := HA.out
          clear HA
          simp only [geoderef03_divide.j1] at H
          by_cases c14 : x10_9 = 0
          · rw [if_pos c14] at H
            exact absurd H (by simp)
          · rw [if_neg c14] at H
            have c14b0 : (x10_9 == 0) = false := beq_eq_false_iff_ne.mpr c14
            have c14b1 : (x10_9 != 0) = true := bne_iff_ne.mpr c14
            replace H := Option.bind_eq_some_iff.mp H
            obtain ⟨t126, A150, H⟩ := H
            replace H : ((geoderef03_Bit.f kj9 a2 (wrap64 (a0 - 1))).bind fun t127 => (if t126 = t127 then ((geoderef03_Bit.f kj9 (IntKind.u64.wrap (Int.tdiv x9_4 x10_9)) (wrap64 (a0 - 1))).bind fun t128 => (geoderef03_divide.j2 kj9 a0 a1 (IntKind.u64.wrap (Int.tdiv x9_4 x10_9)) (Int.tmod x9_4 x10_9) (t128 == 1))) else ((geoderef03_minus.f kj9 (IntKind.u64.wrap (Int.tdiv x9_4 x10_9)) a0).bind fun t129 => (geoderef03_divide.j2 kj9 a0 a1 t129 (Int.tmod x9_4 x10_9) false)))) = some (r1, r2, r3) := H
            have A15 := Aside0.mk A150
            clear A150
            replace H := Option.bind_eq_some_iff.mp H
            obtain ⟨t127, A160, H⟩ := H
            replace H : (if t126 = t127 then ((geoderef03_Bit.f kj9 (IntKind.u64.wrap (Int.tdiv x9_4 x10_9)) (wrap64 (a0 - 1))).bind fun t128 => (geoderef03_divide.j2 kj9 a0 a1 (IntKind.u64.wrap (Int.tdiv x9_4 x10_9)) (Int.tmod x9_4 x10_9) (t128 == 1))) else ((geoderef03_minus.f kj9 (IntKind.u64.wrap (Int.tdiv x9_4 x10_9)) a0).bind fun t129 => (geoderef03_divide.j2 kj9 a0 a1 t129 (Int.tmod x9_4 x10_9) false))) = some (r1, r2, r3) := H
            have A16 := Aside0.mk A160
            clear A160
            have HC17 := Aside0.mk H
            clear H
            go_upto_if 46 with (first | ((with_reducible refine gate_callee (f := 49) rfl ?_); refine goesL_ (some 41) rfl rfl Tryd.func49 (by kernel_rfl) rfl #[.int .u64 a1, .int .i64 (wrap64 (a0 - 1))] rfl (by (try simp only [List.map_toArray, List.map_cons, List.map_nil]); first | done | rfl | (simp only [List.length_drop, List.length_take]; rfl)) ?_; (with_reducible refine (geoderef03_Bit.calls kj9 a1 (wrap64 (a0 - 1)) t126 _ A15.out).mono ?_); rintro e w' ⟨rfl, ⟨nd, rfl⟩⟩; refine ⟨_, rfl, ?_⟩) | ((with_reducible refine gate_callee (f := 49) rfl ?_); refine goesL_ (some 45) rfl rfl Tryd.func49 (by kernel_rfl) rfl #[.int .u64 a2, .int .i64 (wrap64 (a0 - 1))] rfl (by (try simp only [List.map_toArray, List.map_cons, List.map_nil]); first | done | rfl | (simp only [List.length_drop, List.length_take]; rfl)) ?_; (with_reducible refine (geoderef03_Bit.calls kj9 a2 (wrap64 (a0 - 1)) t127 _ A16.out).mono ?_); rintro e w' ⟨rfl, ⟨nd, rfl⟩⟩; refine ⟨_, rfl, ?_⟩))
            (try simp only [Act.put, List.setIfInBounds_toArray, List.set_cons_zero, List.set_cons_succ])
            go_cut [11, 13] (fun v11 v13 wc => ∃ (kq : Nat) (x11_16 : Int) (x13_16 : Bool), v11 = .int .u64 x11_16 ∧ v13 = .bool x13_16 ∧ Aside0 (geoderef03_divide.j2 kq a0 a1 x11_16 (Int.tmod x9_4 x10_9) x13_16 = some (r1, r2, r3)) ∧ Aside0 (kq ≤ kj9) ∧ Aside0 (Below w.heap.size w wc))
            case first =>
              have H := HC17.out
              clear HC17
              by_cases c18 : t126 = t127
              · rw [if_pos c18] at H
                have c18b0 : (t126 == t127) = true := beq_iff_eq.mpr c18
                have c18b1 : (t126 != t127) = false := bne_eq_false_iff_eq.mpr c18
                clear c18
                (first | rw [c18b0] | (simp only [i64_w, i32_w]; rw [c18b0]) | skip)
                replace H := Option.bind_eq_some_iff.mp H
                obtain ⟨t128, A190, H⟩ := H
                replace H : (geoderef03_divide.j2 kj9 a0 a1 (IntKind.u64.wrap (Int.tdiv x9_4 x10_9)) (Int.tmod x9_4 x10_9) (t128 == 1)) = some (r1, r2, r3) := H
                have A19 := Aside0.mk A190
                clear A190
                have H' := Aside0.mk H
                clear H
                go_wp2_with (first | ((with_reducible refine gate_callee (f := 49) rfl ?_); refine goesL_ (some 53) rfl rfl Tryd.func49 (by kernel_rfl) rfl #[.int .u64 (IntKind.u64.wrap (Int.tdiv x9_4 x10_9)), .int .i64 (wrap64 (a0 - 1))] rfl (by (try simp only [List.map_toArray, List.map_cons, List.map_nil]); first | done | rfl | (simp only [List.length_drop, List.length_take]; rfl)) ?_; (with_reducible refine (geoderef03_Bit.calls kj9 (IntKind.u64.wrap (Int.tdiv x9_4 x10_9)) (wrap64 (a0 - 1)) t128 _ A19.out).mono ?_); rintro e w' ⟨rfl, ⟨nd, rfl⟩⟩; refine ⟨_, rfl, ?_⟩))
                go_meet
                case rel => exact ⟨_, (IntKind.u64.wrap (Int.tdiv x9_4 x10_9)), ((t128 == 1)), (by first | rfl | (simp; done) | (simp [*]; done)), (by first | rfl | (simp; done) | (simp [*]; done)), H', ⟨by have := HJ4.out; have := HJ9.out; first | omega | exact Nat.le_refl _⟩, ⟨by repeat (first | (with_reducible first | exact HB.out | apply below_alloc | apply pw_below_drewN | apply below_drew1) | exact HB.out)⟩⟩
              · rw [if_neg c18] at H
                have c18b0 : (t126 == t127) = false := beq_eq_false_iff_ne.mpr c18
                have c18b1 : (t126 != t127) = true := bne_iff_ne.mpr c18
                (first | rw [c18b0] | (simp only [i64_w, i32_w]; rw [c18b0]) | skip)
                replace H := Option.bind_eq_some_iff.mp H
                obtain ⟨t129, A200, H⟩ := H
                replace H : (geoderef03_divide.j2 kj9 a0 a1 t129 (Int.tmod x9_4 x10_9) false) = some (r1, r2, r3) := H
                have A20 := Aside0.mk A200
                clear A200
                have H' := Aside0.mk H
                clear H
                go_wp2_with (first | ((with_reducible refine gate_callee (f := 50) rfl ?_); refine goesL_ (some 49) rfl rfl Tryd.func50 (by kernel_rfl) rfl #[.int .u64 (IntKind.u64.wrap (Int.tdiv x9_4 x10_9)), .int .i64 a0] rfl (by (try simp only [List.map_toArray, List.map_cons, List.map_nil]); first | done | rfl | (simp only [List.length_drop, List.length_take]; rfl)) ?_; (with_reducible refine (geoderef03_minus.calls kj9 (IntKind.u64.wrap (Int.tdiv x9_4 x10_9)) a0 t129 _ A20.out).mono ?_); rintro e w21 ⟨rfl, hb⟩; refine ⟨_, rfl, ?_⟩; have n0_ := Aside0.mk (below_step (by repeat (first | (with_reducible first | exact HB.out | apply below_alloc | apply pw_below_drewN | apply below_drew1) | exact HB.out)) hb); clear HB; have HB := n0_; clear n0_; (try clear hb); (try clear hb2); (try clear hk); (try clear hi)))
                go_meet
                case rel => exact ⟨_, (t129), (false), (by first | rfl | (simp; done) | (simp [*]; done)), (by first | rfl | (simp; done) | (simp [*]; done)), H', ⟨by have := HJ4.out; have := HJ9.out; first | omega | exact Nat.le_refl _⟩, ⟨by repeat (first | (with_reducible first | exact HB.out | apply below_alloc | apply pw_below_drewN | apply below_drew1) | exact HB.out)⟩⟩
            case rest =>
              clear HC17
              try clear c1
              try clear c2
              try clear p2
              try clear c4
              try clear c5
              try clear c6
              try clear c6b0
              try clear c6b1
              try clear p6
              try clear c11
              try clear c11b0
              try clear c11b1
              try clear c14
              try clear c14b0
              try clear c14b1
              try clear c18
              try clear c18b0
              try clear c18b1
              try clear p2
              try clear p6
              obtain ⟨kq, x11_16, x13_16, rfl, rfl, HA, HJ16, HB⟩ := hcut
              cases kq with
              | zero => exact absurd HA.out (by simp [geoderef03_divide.j2])
              | succ kj16 =>
                have H := HA.out
                clear HA
                simp only [geoderef03_divide.j2] at H
                replace H := Option.bind_eq_some_iff.mp H
                obtain ⟨t130, A220, H⟩ := H
                replace H : (if t130 = 1 then ((geoderef03_minus.f kj16 (Int.tmod x9_4 x10_9) a0).bind fun t131 => (some (x11_16, t131, x13_16))) else (some (x11_16, (Int.tmod x9_4 x10_9), x13_16))) = some (r1, r2, r3) := H
                have A22 := Aside0.mk A220
                clear A220
                by_cases c23 : t130 = 1
                · rw [if_pos c23] at H
                  have c23b0 : (t130 == 1) = true := beq_iff_eq.mpr c23
                  have c23b1 : (t130 != 1) = false := bne_eq_false_iff_eq.mpr c23
                  clear c23
                  replace H := Option.bind_eq_some_iff.mp H
                  obtain ⟨t131, A240, H⟩ := H
                  replace H : (some (x11_16, t131, x13_16)) = some (r1, r2, r3) := H
                  have A24 := Aside0.mk A240
                  clear A240
                  simp only [Option.some.injEq, Prod.mk.injEq] at H
                  obtain ⟨rfl, rfl, rfl⟩ := H
                  go_wp2_with (first | ((with_reducible refine gate_callee (f := 49) rfl ?_); refine goesL_ (some 58) rfl rfl Tryd.func49 (by kernel_rfl) rfl #[.int .u64 a1, .int .i64 (wrap64 (a0 - 1))] rfl (by (try simp only [List.map_toArray, List.map_cons, List.map_nil]); first | done | rfl | (simp only [List.length_drop, List.length_take]; rfl)) ?_; (with_reducible refine (geoderef03_Bit.calls kj16 a1 (wrap64 (a0 - 1)) t130 _ A22.out).mono ?_); rintro e w' ⟨rfl, ⟨nd, rfl⟩⟩; refine ⟨_, rfl, ?_⟩) | ((with_reducible refine gate_callee (f := 50) rfl ?_); refine goesL_ (some 62) rfl rfl Tryd.func50 (by kernel_rfl) rfl #[.int .u64 (Int.tmod x9_4 x10_9), .int .i64 a0] rfl (by (try simp only [List.map_toArray, List.map_cons, List.map_nil]); first | done | rfl | (simp only [List.length_drop, List.length_take]; rfl)) ?_; (with_reducible refine (geoderef03_minus.calls kj16 (Int.tmod x9_4 x10_9) a0 t131 _ A24.out).mono ?_); rintro e w25 ⟨rfl, hb⟩; refine ⟨_, rfl, ?_⟩; have n0_ := Aside0.mk (below_step (by repeat (first | (with_reducible first | exact HB.out | apply below_alloc | apply pw_below_drewN | apply below_drew1) | exact HB.out)) hb); clear HB; have HB := n0_; clear n0_; (try clear hb); (try clear hb2); (try clear hk); (try clear hi)))
                  go_ret3
                  exact ⟨by first | rfl | (simp [errW_none, errW_some] <;> rfl) | (simp [*, errW_none, errW_some] <;> rfl), by repeat (first | (with_reducible first | exact HB.out | apply below_alloc | apply pw_below_drewN | apply below_drew1) | exact HB.out)⟩
                · rw [if_neg c23] at H
                  have c23b0 : (t130 == 1) = false := beq_eq_false_iff_ne.mpr c23
                  have c23b1 : (t130 != 1) = true := bne_iff_ne.mpr c23
                  simp only [Option.some.injEq, Prod.mk.injEq] at H
                  obtain ⟨rfl, rfl, rfl⟩ := H
                  go_wp2_with (first | ((with_reducible refine gate_callee (f := 49) rfl ?_); refine goesL_ (some 58) rfl rfl Tryd.func49 (by kernel_rfl) rfl #[.int .u64 a1, .int .i64 (wrap64 (a0 - 1))] rfl (by (try simp only [List.map_toArray, List.map_cons, List.map_nil]); first | done | rfl | (simp only [List.length_drop, List.length_take]; rfl)) ?_; (with_reducible refine (geoderef03_Bit.calls kj16 a1 (wrap64 (a0 - 1)) t130 _ A22.out).mono ?_); rintro e w' ⟨rfl, ⟨nd, rfl⟩⟩; refine ⟨_, rfl, ?_⟩))
                  go_ret3
                  exact ⟨by first | rfl | (simp [errW_none, errW_some] <;> rfl) | (simp [*, errW_none, errW_some] <;> rfl), by repeat (first | (with_reducible first | exact HB.out | apply below_alloc | apply pw_below_drewN | apply below_drew1) | exact HB.out)⟩

end Go.Proofs.YtfcagbgnlibfpaaDoor.PNumTwo
