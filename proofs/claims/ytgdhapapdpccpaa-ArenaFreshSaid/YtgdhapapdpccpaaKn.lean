/- arena: the chapter's rows (known of geodelaw20) come out true. -/
import Derived.Test.YtgdhapapdpccpaaAt
namespace Go.Proofs.Ytgdhapapdpccpaa.A
open Go.RowKit Go.Proofs
set_option linter.unusedVariables false
set_option linter.unusedSimpArgs false

set_option maxRecDepth 100000 in
set_option maxHeartbeats 4000000 in
theorem known20 (w0 W : World) (hB : Below w0.heap.size w0 W) : Calls Try.prog 13 #[] W fun e W' => e = .returned (.bool true) ∧ Below w0.heap.size w0 W' := by
  have T0 := Lib.hid (new_at 10 (by decide) w0 W hB)
  clear hB
  go_enter Try.func13, Try.ntmps13
  go_wp2_with (go_at_call 32; (with_reducible refine (T0.out).mono ?_); rintro e W0 ⟨p, rfl, A0⟩)
  have B0 : Hid (At w0 W0 p 10 [.free 9]) := Lib.hid A0
  clear A0 T0
  have T1 : Hid (Calls Try.prog 14 #[.pointer (some ⟨p, 0, none⟩), .int .i64 3] W0 fun e W' => e = .returned (.tuple #[.int .i64 1, .int .i64 0]) ∧ At w0 W' p 10 [.used false [0, 0, 0], .free 5]) := Lib.hid (take_at B0.out (by decide) 3)
  go_wp2_with (go_at_call 14; (with_reducible refine (T1.out).mono ?_); clear T1; rintro e W1 ⟨rfl, A1⟩)
  have B1 := Lib.hid A1
  clear A1 B0
  have T2 : Hid (Calls Try.prog 14 #[.pointer (some ⟨p, 0, none⟩), .int .i64 2] W1 fun e W' => e = .returned (.tuple #[.int .i64 5, .int .i64 0]) ∧ At w0 W' p 10 [.used false [0, 0, 0], .used false [0, 0], .free 2]) := Lib.hid (take_at B1.out (by decide) 2)
  go_wp2_with (go_at_call 14; (with_reducible refine (T2.out).mono ?_); clear T2; rintro e W2 ⟨rfl, A2⟩)
  have B2 := Lib.hid A2
  clear A2 B1
  have T3 : Hid (Calls Try.prog 14 #[.pointer (some ⟨p, 0, none⟩), .int .i64 3] W2 fun e W' => e = .returned (.tuple #[.int .i64 0, .int .i64 5]) ∧ At w0 W' p 10 [.used false [0, 0, 0], .used false [0, 0], .free 2]) := Lib.hid (take_at B2.out (by decide) 3)
  go_wp2_with (go_at_call 14; (with_reducible refine (T3.out).mono ?_); clear T3; rintro e W3 ⟨rfl, A3⟩)
  have B3 := Lib.hid A3
  clear A3 B2
  have T4 : Hid (Calls Try.prog 24 #[.pointer (some ⟨p, 0, none⟩)] W3 fun e W' => e = .returned (.int .i64 7) ∧ W3 = W') := Lib.hid ((used_at B3.out).mono (fun e W' h => ⟨h.1, h.2.symm⟩))
  go_wp2_with (go_at_call 24; (with_reducible refine (T4.out).mono ?_); clear T4; rintro e W' ⟨rfl, rfl⟩)
  have T4 : Hid (Calls Try.prog 17 #[.pointer (some ⟨p, 0, none⟩), .int .i64 1] W3 fun e W' => e = .returned (.int .i64 0) ∧ At w0 W' p 10 [.free 3, .used false [0, 0], .free 2]) := Lib.hid (free_at B3.out 1)
  go_wp2_with (go_at_call 17; (with_reducible refine (T4.out).mono ?_); clear T4; rintro e W4 ⟨rfl, A4⟩)
  have B4 := Lib.hid A4
  clear A4 B3
  have T5 : Hid (Calls Try.prog 14 #[.pointer (some ⟨p, 0, none⟩), .int .i64 1] W4 fun e W' => e = .returned (.tuple #[.int .i64 8, .int .i64 0]) ∧ At w0 W' p 10 [.free 3, .used false [0, 0], .used false [0, 0]]) := Lib.hid (take_at B4.out (by decide) 1)
  go_wp2_with (go_at_call 14; (with_reducible refine (T5.out).mono ?_); clear T5; rintro e W5 ⟨rfl, A5⟩)
  have B5 := Lib.hid A5
  clear A5 B4
  have T6 : Hid (Calls Try.prog 14 #[.pointer (some ⟨p, 0, none⟩), .int .i64 2] W5 fun e W' => e = .returned (.tuple #[.int .i64 1, .int .i64 0]) ∧ At w0 W' p 10 [.used false [0, 0, 0], .used false [0, 0], .used false [0, 0]]) := Lib.hid (take_at B5.out (by decide) 2)
  go_wp2_with (go_at_call 14; (with_reducible refine (T6.out).mono ?_); clear T6; rintro e W6 ⟨rfl, A6⟩)
  have B6 := Lib.hid A6
  clear A6 B5
  have T7 : Hid (Calls Try.prog 24 #[.pointer (some ⟨p, 0, none⟩)] W6 fun e W' => e = .returned (.int .i64 10) ∧ W6 = W') := Lib.hid ((used_at B6.out).mono (fun e W' h => ⟨h.1, h.2.symm⟩))
  go_wp2_with (go_at_call 24; (with_reducible refine (T7.out).mono ?_); clear T7; rintro e W' ⟨rfl, rfl⟩)
  have T7 : Hid (Calls Try.prog 20 #[.pointer (some ⟨p, 0, none⟩), .int .i64 5] W6 fun e W' => e = .returned (.bool true) ∧ At w0 W' p 10 [.used false [0, 0, 0], .used true [0, 0], .used false [0, 0]]) := Lib.hid (mark_at B6.out 5)
  go_wp2_with (go_at_call 20; (with_reducible refine (T7.out).mono ?_); clear T7; rintro e W7 ⟨rfl, A7⟩)
  have B7 := Lib.hid A7
  clear A7 B6
  have T8 : Hid (Calls Try.prog 20 #[.pointer (some ⟨p, 0, none⟩), .int .i64 5] W7 fun e W' => e = .returned (.bool false) ∧ At w0 W' p 10 [.used false [0, 0, 0], .used true [0, 0], .used false [0, 0]]) := Lib.hid (mark_at B7.out 5)
  go_wp2_with (go_at_call 20; (with_reducible refine (T8.out).mono ?_); clear T8; rintro e W8 ⟨rfl, A8⟩)
  have B8 := Lib.hid A8
  clear A8 B7
  have T9 : Hid (Calls Try.prog 22 #[.pointer (some ⟨p, 0, none⟩)] W8 fun e W' => e = .returned (.int .i64 7) ∧ At w0 W' p 10 [.free 3, .used false [0, 0], .free 2]) := Lib.hid (sweep_at B8.out)
  go_wp2_with (go_at_call 22; (with_reducible refine (T9.out).mono ?_); clear T9; rintro e W9 ⟨rfl, A9⟩)
  have B9 := Lib.hid A9
  clear A9 B8
  have T10 : Hid (Calls Try.prog 24 #[.pointer (some ⟨p, 0, none⟩)] W9 fun e W' => e = .returned (.int .i64 3) ∧ W9 = W') := Lib.hid ((used_at B9.out).mono (fun e W' h => ⟨h.1, h.2.symm⟩))
  go_wp2_with (go_at_call 24; (with_reducible refine (T10.out).mono ?_); clear T10; rintro e W' ⟨rfl, rfl⟩)
  have T10 : Hid (Calls Try.prog 25 #[.pointer (some ⟨p, 0, none⟩)] W9 fun e W' => e = .returned (.int .i64 3) ∧ At w0 W' p 10 [.free 3, .used false [0, 0], .free 2]) := Lib.hid (room_at B9.out (by decide))
  go_wp2_with (go_at_call 25; (with_reducible refine (T10.out).mono ?_); clear T10; rintro e W10 ⟨rfl, A10⟩)
  have B10 := Lib.hid A10
  clear A10 B9
  go_ret
  exact ⟨rfl, B10.out.below⟩
end Go.Proofs.Ytgdhapapdpccpaa.A
