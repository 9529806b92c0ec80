/- num: the walk of the law NumTwo: it returns true, whatever operation and numbers it is given; no memory that was there turns. -/
import Derived.Test.YtfcagbgnlibfpaaDoorI
import Derived.Test.YtfcagbgnlibfpaaDoorVTwo
import Derived.Test.YtfcagbgnlibfpaaDoorPTwoC
namespace Go.Proofs.YtfcagbgnlibfpaaDoor.A
open Go.ChangeShapes Go.WideShapes Go.ChangeAt Go.RowKit Go.Proofs.YtfcagbgnlibfpaaDoor.S
set_option linter.unusedVariables false
set_option linter.unusedSimpArgs false

theorem below_then {w w1 w2 : World} (hB : Below w.heap.size w w1) (hb : Below w1.heap.size w1 w2) : Below w.heap.size w w2 := hB.trans (hb.mono hB.size)
set_option maxHeartbeats 4000000 in
set_option maxRecDepth 100000 in
theorem numTwo (op a b : Int) (ho0 : -9223372036854775808 ≤ op) (ho1 : op < 9223372036854775808) (ha0 : 0 ≤ a) (ha1 : a < 18446744073709551616) (hb0 : 0 ≤ b) (hb1 : b < 18446744073709551616) (w : World) :
    Calls Tryd.prog 3 #[.int .i64 op, .int .u64 a, .int .u64 b] w fun e w' => e = .returned (.bool true) ∧ Below w.heap.size w w' := by
  have T := Lib.hid (fun w => Two op a b ha0 ha1 hb0 hb1 w)
  have U := Lib.hid (fun w => PNumTwo.geoderef03_Two.calls 309 op a b (twoV op a b) (twoE op a b) w (ref_two op a b ha0 ha1 hb0 hb1))
  generalize twoV op a b = v at *
  generalize twoE op a b = e0 at *
  have hB : Below w.heap.size w w := Below.refl _ _
  go_enter Tryd.func3, Tryd.ntmps3
  go_wp2_with (first | (go_at_call 10; (with_reducible refine (T.out _).mono ?_); rintro e w' ⟨rfl, hb⟩; replace hB := below_then hB hb; clear hb) | (go_at_call 11; (with_reducible refine (U.out _).mono ?_); rintro e w' ⟨rfl, hb⟩; replace hB := below_then hB hb; clear hb) | (go_at_call 12; (with_reducible refine (known _).mono ?_); rintro e w' ⟨rfl, hb⟩; replace hB := below_then hB hb; clear hb))
  go_ret
  exact ⟨rfl, hB⟩
end Go.Proofs.YtfcagbgnlibfpaaDoor.A
