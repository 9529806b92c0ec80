/- num: the walk of the law NumOne: it returns true, whatever operation and number it is given, where the two tables lie as start-up laid them; no memory that was there turns. -/
import Derived.Test.YtfcagbgnlibfpaaDoorM
import Derived.Test.YtfcagbgnlibfpaaDoorMPop
import Derived.Test.YtfcagbgnlibfpaaDoorO
import Derived.Test.YtfcagbgnlibfpaaDoorVOne
namespace Go.Proofs.YtfcagbgnlibfpaaDoor.A
open Go.ChangeShapes Go.WideShapes Go.ChangeAt Go.RowKit Go.Proofs.YtfcagbgnlibfpaaDoor.S
set_option linter.unusedVariables false
set_option linter.unusedSimpArgs false

theorem w_105 (a : Int) (h0 : 0 ≤ a) (h1 : a < 4294967296) (w : World) : Calls Tryd.prog 33 #[.int .u32 a] w fun e w' => e = .returned (.int .u64 (Lib.popAux 32 a.toNat : Int)) ∧ ∃ n, w' = w.drewN n := by
  have T := Lib.hid (ones32 a h0 h1 w)
  have B := popAux_le 32 a.toNat
  generalize Lib.popAux 32 a.toNat = k at *
  go_enter Tryd.func33, Tryd.ntmps33
  go_wp2_with (go_at_call 54; (with_reducible refine (T.out).mono ?_); rintro e w' ⟨rfl, n, rfl⟩)
  go_ret
  exact ⟨ret_int (by first | omega | (simp only [IntKind.wrap_u64, wrap64]; omega)), n, rfl⟩
theorem w_123 (a : Int) (h0 : 0 ≤ a) (h1 : a < 18446744073709551616) (w : World) : Calls Tryd.prog 41 #[.int .u64 a] w fun e w' => e = .returned (.int .u64 (Lib.popAux 64 a.toNat : Int)) ∧ ∃ n, w' = w.drewN n := by
  have T := Lib.hid (by have := ones64 a.toNat (by omega) w; rwa [Int.toNat_of_nonneg h0] at this : Calls Tryd.prog 57 #[.int .u64 a] w fun e w' => e = .returned (.int .i64 (Lib.popAux 64 a.toNat)) ∧ w' = w)
  have B := popAux_le 64 a.toNat
  generalize Lib.popAux 64 a.toNat = k at *
  go_enter Tryd.func41, Tryd.ntmps41
  go_wp2_with (go_at_call 57; (with_reducible refine (T.out).mono ?_); rintro e w' ⟨rfl, rfl⟩)
  go_ret
  exact ⟨ret_int (by first | omega | (simp only [IntKind.wrap_u64, wrap64]; omega)), 0, rfl⟩
set_option maxHeartbeats 4000000 in
set_option maxRecDepth 100000 in
theorem one_core (op a V E f t m P : Int) (w : World)
    (T : ∀ w', Below w.heap.size w w' → Calls Tryd.prog 15 #[.int .i64 op, .int .u64 a] w' fun e w'' => e = .returned (.tuple #[.int .u64 V, .int .i64 E]) ∧ Below w'.heap.size w' w'')
    (U : ∀ w', Calls Tryd.prog 17 #[.int .i64 op, .int .u64 a] w' fun e w'' => e = .returned (.tuple #[.int .u64 V, .int .i64 E]) ∧ Below w'.heap.size w' w'')
    (B : ∀ w', Calls Tryd.prog 18 #[.int .i64 op] w' fun e w'' => e = .returned (.tuple #[.int .i64 f, .int .i64 t, .int .i64 m]) ∧ Below w'.heap.size w' w'')
    (O : ∀ w', Calls Tryd.prog 19 #[.int .i64 op] w' fun e w'' => e = .returned (.agg #[.int .i64 P, .int .i64 f, .int .i64 t, .int .i64 m]) ∧ Below w'.heap.size w' w'') :
    Calls Tryd.prog 9 #[.int .i64 op, .int .u64 a] w fun e w' => e = .returned (.bool true) ∧ Below w.heap.size w w' := by
  replace T := Lib.hid T
  replace U := Lib.hid U
  replace B := Lib.hid B
  replace O := Lib.hid O
  have hB : Below w.heap.size w w := Below.refl _ _
  go_enter Tryd.func9, Tryd.ntmps9
  go_wp2_with (first | (go_at_call 15; (with_reducible refine (T.out _ ?_).mono ?_); (with_reducible exact hB); rintro e w' ⟨rfl, hb⟩; (first | (replace hB := below_step hB hb) | (replace hB := below_step (hB.alloc hB.size _) hb)); clear hb) | (go_at_call 17; (with_reducible refine (U.out _).mono ?_); rintro e w' ⟨rfl, hb⟩; (first | (replace hB := below_step hB hb) | (replace hB := below_step (hB.alloc hB.size _) hb)); clear hb) | (go_at_call 18; (with_reducible refine (B.out _).mono ?_); rintro e w' ⟨rfl, hb⟩; (first | (replace hB := below_step hB hb) | (replace hB := below_step (hB.alloc hB.size _) hb)); clear hb) | (go_at_call 19; (with_reducible refine (O.out _).mono ?_); rintro e w' ⟨rfl, hb⟩; (first | (replace hB := below_step hB hb) | (replace hB := below_step (hB.alloc hB.size _) hb)); clear hb) | (go_at_call 12; (with_reducible refine (known _).mono ?_); rintro e w' ⟨rfl, hb⟩; (first | (replace hB := below_step hB hb) | (replace hB := below_step (hB.alloc hB.size _) hb)); clear hb))
  go_ret
  exact ⟨rfl, hB⟩
theorem numOne_69 (a : Int) (h0 : 0 ≤ a) (h1 : a < 18446744073709551616) (w : World) (hT : Tabs w) : Calls Tryd.prog 9 #[.int .i64 69, .int .u64 a] w fun e w' => e = .returned (.bool true) ∧ Below w.heap.size w w' := by
  by_cases ha : a < 4294967296
  · obtain ⟨K, e⟩ := S1.ref_69 a h0 ha
    exact one_core 69 a _ 0 32 32 1 0 w (fun w' hw => one_69 a _ h0 ha w' (fun w'' hb => u_69 a h0 ha w'')) (fun w' => PNumOne.geoderef03_One.calls K 69 a _ 0 w' e) (fun w' => Bits_69 w') (fun w' => PNumOne.geoderef03_Of.calls 109 69 0 32 32 1 w' (S1.of_69 100))
  · exact one_core 69 a 0 2 32 32 1 0 w (fun w' hw => one_69_big a (by omega) h1 w') (fun w' => PNumOne.geoderef03_One.calls 109 69 a 0 2 w' (S1.big_69 a (by omega) h1)) (fun w' => Bits_69 w') (fun w' => PNumOne.geoderef03_Of.calls 109 69 0 32 32 1 w' (S1.of_69 100))
theorem numOne_103 (a : Int) (h0 : 0 ≤ a) (h1 : a < 18446744073709551616) (w : World) (hT : Tabs w) : Calls Tryd.prog 9 #[.int .i64 103, .int .u64 a] w fun e w' => e = .returned (.bool true) ∧ Below w.heap.size w w' := by
  by_cases ha : a < 4294967296
  · obtain ⟨K, e⟩ := S1.ref_103 a h0 ha
    exact one_core 103 a _ 0 32 32 1 1 w (fun w' hw => one_103 a _ h0 ha w' (fun w'' hb => u_103 a h0 ha w'')) (fun w' => PNumOne.geoderef03_One.calls K 103 a _ 0 w' e) (fun w' => Bits_103 w') (fun w' => PNumOne.geoderef03_Of.calls 109 103 1 32 32 1 w' (S1.of_103 100))
  · exact one_core 103 a 0 2 32 32 1 1 w (fun w' hw => one_103_big a (by omega) h1 w') (fun w' => PNumOne.geoderef03_One.calls 109 103 a 0 2 w' (S1.big_103 a (by omega) h1)) (fun w' => Bits_103 w') (fun w' => PNumOne.geoderef03_Of.calls 109 103 1 32 32 1 w' (S1.of_103 100))
theorem numOne_104 (a : Int) (h0 : 0 ≤ a) (h1 : a < 18446744073709551616) (w : World) (hT : Tabs w) : Calls Tryd.prog 9 #[.int .i64 104, .int .u64 a] w fun e w' => e = .returned (.bool true) ∧ Below w.heap.size w w' := by
  by_cases ha : a < 4294967296
  · obtain ⟨K, e⟩ := S1.ref_104 a h0 ha
    exact one_core 104 a _ 0 32 32 1 2 w (fun w' hw => one_104 a _ h0 ha w' (fun w'' hb => u_104 a h0 ha w'' (hT.below (hw.trans (hb.mono hw.size))))) (fun w' => PNumOne.geoderef03_One.calls K 104 a _ 0 w' e) (fun w' => Bits_104 w') (fun w' => PNumOne.geoderef03_Of.calls 109 104 2 32 32 1 w' (S1.of_104 100))
  · exact one_core 104 a 0 2 32 32 1 2 w (fun w' hw => one_104_big a (by omega) h1 w') (fun w' => PNumOne.geoderef03_One.calls 109 104 a 0 2 w' (S1.big_104 a (by omega) h1)) (fun w' => Bits_104 w') (fun w' => PNumOne.geoderef03_Of.calls 109 104 2 32 32 1 w' (S1.of_104 100))
theorem numOne_105 (a : Int) (h0 : 0 ≤ a) (h1 : a < 18446744073709551616) (w : World) (hT : Tabs w) : Calls Tryd.prog 9 #[.int .i64 105, .int .u64 a] w fun e w' => e = .returned (.bool true) ∧ Below w.heap.size w w' := by
  by_cases ha : a < 4294967296
  · obtain ⟨K, e⟩ := S1.ref_105 a h0 ha
    exact one_core 105 a _ 0 32 32 1 3 w (fun w' hw => one_105 a _ h0 ha w' (fun w'' hb => w_105 a h0 ha w'')) (fun w' => PNumOne.geoderef03_One.calls K 105 a _ 0 w' e) (fun w' => Bits_105 w') (fun w' => PNumOne.geoderef03_Of.calls 109 105 3 32 32 1 w' (S1.of_105 100))
  · exact one_core 105 a 0 2 32 32 1 3 w (fun w' hw => one_105_big a (by omega) h1 w') (fun w' => PNumOne.geoderef03_One.calls 109 105 a 0 2 w' (S1.big_105 a (by omega) h1)) (fun w' => Bits_105 w') (fun w' => PNumOne.geoderef03_Of.calls 109 105 3 32 32 1 w' (S1.of_105 100))
theorem numOne_192 (a : Int) (h0 : 0 ≤ a) (h1 : a < 18446744073709551616) (w : World) (hT : Tabs w) : Calls Tryd.prog 9 #[.int .i64 192, .int .u64 a] w fun e w' => e = .returned (.bool true) ∧ Below w.heap.size w w' := by
  by_cases ha : a < 4294967296
  · obtain ⟨K, e⟩ := S1.ref_192 a h0 ha
    exact one_core 192 a _ 0 32 32 1 4 w (fun w' hw => one_192 a _ h0 ha w' (fun w'' hb => u_192 a h0 ha w'')) (fun w' => PNumOne.geoderef03_One.calls K 192 a _ 0 w' e) (fun w' => Bits_192 w') (fun w' => PNumOne.geoderef03_Of.calls 109 192 4 32 32 1 w' (S1.of_192 100))
  · exact one_core 192 a 0 2 32 32 1 4 w (fun w' hw => one_192_big a (by omega) h1 w') (fun w' => PNumOne.geoderef03_One.calls 109 192 a 0 2 w' (S1.big_192 a (by omega) h1)) (fun w' => Bits_192 w') (fun w' => PNumOne.geoderef03_Of.calls 109 192 4 32 32 1 w' (S1.of_192 100))
theorem numOne_193 (a : Int) (h0 : 0 ≤ a) (h1 : a < 18446744073709551616) (w : World) (hT : Tabs w) : Calls Tryd.prog 9 #[.int .i64 193, .int .u64 a] w fun e w' => e = .returned (.bool true) ∧ Below w.heap.size w w' := by
  by_cases ha : a < 4294967296
  · obtain ⟨K, e⟩ := S1.ref_193 a h0 ha
    exact one_core 193 a _ 0 32 32 1 5 w (fun w' hw => one_193 a _ h0 ha w' (fun w'' hb => u_193 a h0 ha w'')) (fun w' => PNumOne.geoderef03_One.calls K 193 a _ 0 w' e) (fun w' => Bits_193 w') (fun w' => PNumOne.geoderef03_Of.calls 109 193 5 32 32 1 w' (S1.of_193 100))
  · exact one_core 193 a 0 2 32 32 1 5 w (fun w' hw => one_193_big a (by omega) h1 w') (fun w' => PNumOne.geoderef03_One.calls 109 193 a 0 2 w' (S1.big_193 a (by omega) h1)) (fun w' => Bits_193 w') (fun w' => PNumOne.geoderef03_Of.calls 109 193 5 32 32 1 w' (S1.of_193 100))
theorem numOne_172 (a : Int) (h0 : 0 ≤ a) (h1 : a < 18446744073709551616) (w : World) (hT : Tabs w) : Calls Tryd.prog 9 #[.int .i64 172, .int .u64 a] w fun e w' => e = .returned (.bool true) ∧ Below w.heap.size w w' := by
  by_cases ha : a < 4294967296
  · obtain ⟨K, e⟩ := S1.ref_172 a h0 ha
    exact one_core 172 a _ 0 32 64 1 8 w (fun w' hw => one_172 a _ h0 ha w' (fun w'' hb => u_172 a h0 ha w'')) (fun w' => PNumOne.geoderef03_One.calls K 172 a _ 0 w' e) (fun w' => Bits_172 w') (fun w' => PNumOne.geoderef03_Of.calls 109 172 8 32 64 1 w' (S1.of_172 100))
  · exact one_core 172 a 0 2 32 64 1 8 w (fun w' hw => one_172_big a (by omega) h1 w') (fun w' => PNumOne.geoderef03_One.calls 109 172 a 0 2 w' (S1.big_172 a (by omega) h1)) (fun w' => Bits_172 w') (fun w' => PNumOne.geoderef03_Of.calls 109 172 8 32 64 1 w' (S1.of_172 100))
theorem numOne_173 (a : Int) (h0 : 0 ≤ a) (h1 : a < 18446744073709551616) (w : World) (hT : Tabs w) : Calls Tryd.prog 9 #[.int .i64 173, .int .u64 a] w fun e w' => e = .returned (.bool true) ∧ Below w.heap.size w w' := by
  by_cases ha : a < 4294967296
  · obtain ⟨K, e⟩ := S1.ref_173 a h0 ha
    exact one_core 173 a _ 0 32 64 1 9 w (fun w' hw => one_173 a _ h0 ha w' (fun w'' hb => u_173 a h0 ha w'')) (fun w' => PNumOne.geoderef03_One.calls K 173 a _ 0 w' e) (fun w' => Bits_173 w') (fun w' => PNumOne.geoderef03_Of.calls 109 173 9 32 64 1 w' (S1.of_173 100))
  · exact one_core 173 a 0 2 32 64 1 9 w (fun w' hw => one_173_big a (by omega) h1 w') (fun w' => PNumOne.geoderef03_One.calls 109 173 a 0 2 w' (S1.big_173 a (by omega) h1)) (fun w' => Bits_173 w') (fun w' => PNumOne.geoderef03_Of.calls 109 173 9 32 64 1 w' (S1.of_173 100))
theorem numOne_80 (a : Int) (h0 : 0 ≤ a) (h1 : a < 18446744073709551616) (w : World) (hT : Tabs w) : Calls Tryd.prog 9 #[.int .i64 80, .int .u64 a] w fun e w' => e = .returned (.bool true) ∧ Below w.heap.size w w' := by
  obtain ⟨K, e⟩ := S1.ref_80 a h0 h1
  exact one_core 80 a _ 0 64 32 1 0 w (fun w' hw => one_80 a _ h0 h1 w' (fun w'' hb => u_80 a h0 h1 w'')) (fun w' => PNumOne.geoderef03_One.calls K 80 a _ 0 w' e) (fun w' => Bits_80 w') (fun w' => PNumOne.geoderef03_Of.calls 109 80 0 64 32 1 w' (S1.of_80 100))
theorem numOne_121 (a : Int) (h0 : 0 ≤ a) (h1 : a < 18446744073709551616) (w : World) (hT : Tabs w) : Calls Tryd.prog 9 #[.int .i64 121, .int .u64 a] w fun e w' => e = .returned (.bool true) ∧ Below w.heap.size w w' := by
  obtain ⟨K, e⟩ := S1.ref_121 a h0 h1
  exact one_core 121 a _ 0 64 64 1 1 w (fun w' hw => one_121 a _ h0 h1 w' (fun w'' hb => u_121 a h0 h1 w'')) (fun w' => PNumOne.geoderef03_One.calls K 121 a _ 0 w' e) (fun w' => Bits_121 w') (fun w' => PNumOne.geoderef03_Of.calls 109 121 1 64 64 1 w' (S1.of_121 100))
theorem numOne_122 (a : Int) (h0 : 0 ≤ a) (h1 : a < 18446744073709551616) (w : World) (hT : Tabs w) : Calls Tryd.prog 9 #[.int .i64 122, .int .u64 a] w fun e w' => e = .returned (.bool true) ∧ Below w.heap.size w w' := by
  obtain ⟨K, e⟩ := S1.ref_122 a h0 h1
  exact one_core 122 a _ 0 64 64 1 2 w (fun w' hw => one_122 a _ h0 h1 w' (fun w'' hb => u_122 a h0 h1 w'' (hT.below (hw.trans (hb.mono hw.size))))) (fun w' => PNumOne.geoderef03_One.calls K 122 a _ 0 w' e) (fun w' => Bits_122 w') (fun w' => PNumOne.geoderef03_Of.calls 109 122 2 64 64 1 w' (S1.of_122 100))
theorem numOne_123 (a : Int) (h0 : 0 ≤ a) (h1 : a < 18446744073709551616) (w : World) (hT : Tabs w) : Calls Tryd.prog 9 #[.int .i64 123, .int .u64 a] w fun e w' => e = .returned (.bool true) ∧ Below w.heap.size w w' := by
  obtain ⟨K, e⟩ := S1.ref_123 a h0 h1
  exact one_core 123 a _ 0 64 64 1 3 w (fun w' hw => one_123 a _ h0 h1 w' (fun w'' hb => w_123 a h0 h1 w'')) (fun w' => PNumOne.geoderef03_One.calls K 123 a _ 0 w' e) (fun w' => Bits_123 w') (fun w' => PNumOne.geoderef03_Of.calls 109 123 3 64 64 1 w' (S1.of_123 100))
theorem numOne_194 (a : Int) (h0 : 0 ≤ a) (h1 : a < 18446744073709551616) (w : World) (hT : Tabs w) : Calls Tryd.prog 9 #[.int .i64 194, .int .u64 a] w fun e w' => e = .returned (.bool true) ∧ Below w.heap.size w w' := by
  obtain ⟨K, e⟩ := S1.ref_194 a h0 h1
  exact one_core 194 a _ 0 64 64 1 4 w (fun w' hw => one_194 a _ h0 h1 w' (fun w'' hb => u_194 a h0 h1 w'')) (fun w' => PNumOne.geoderef03_One.calls K 194 a _ 0 w' e) (fun w' => Bits_194 w') (fun w' => PNumOne.geoderef03_Of.calls 109 194 4 64 64 1 w' (S1.of_194 100))
theorem numOne_195 (a : Int) (h0 : 0 ≤ a) (h1 : a < 18446744073709551616) (w : World) (hT : Tabs w) : Calls Tryd.prog 9 #[.int .i64 195, .int .u64 a] w fun e w' => e = .returned (.bool true) ∧ Below w.heap.size w w' := by
  obtain ⟨K, e⟩ := S1.ref_195 a h0 h1
  exact one_core 195 a _ 0 64 64 1 5 w (fun w' hw => one_195 a _ h0 h1 w' (fun w'' hb => u_195 a h0 h1 w'')) (fun w' => PNumOne.geoderef03_One.calls K 195 a _ 0 w' e) (fun w' => Bits_195 w') (fun w' => PNumOne.geoderef03_Of.calls 109 195 5 64 64 1 w' (S1.of_195 100))
theorem numOne_196 (a : Int) (h0 : 0 ≤ a) (h1 : a < 18446744073709551616) (w : World) (hT : Tabs w) : Calls Tryd.prog 9 #[.int .i64 196, .int .u64 a] w fun e w' => e = .returned (.bool true) ∧ Below w.heap.size w w' := by
  obtain ⟨K, e⟩ := S1.ref_196 a h0 h1
  exact one_core 196 a _ 0 64 64 1 6 w (fun w' hw => one_196 a _ h0 h1 w' (fun w'' hb => u_196 a h0 h1 w'')) (fun w' => PNumOne.geoderef03_One.calls K 196 a _ 0 w' e) (fun w' => Bits_196 w') (fun w' => PNumOne.geoderef03_Of.calls 109 196 6 64 64 1 w' (S1.of_196 100))
theorem numOne_167 (a : Int) (h0 : 0 ≤ a) (h1 : a < 18446744073709551616) (w : World) (hT : Tabs w) : Calls Tryd.prog 9 #[.int .i64 167, .int .u64 a] w fun e w' => e = .returned (.bool true) ∧ Below w.heap.size w w' := by
  obtain ⟨K, e⟩ := S1.ref_167 a h0 h1
  exact one_core 167 a _ 0 64 32 1 7 w (fun w' hw => one_167 a _ h0 h1 w' (fun w'' hb => u_167 a h0 h1 w'')) (fun w' => PNumOne.geoderef03_One.calls K 167 a _ 0 w' e) (fun w' => Bits_167 w') (fun w' => PNumOne.geoderef03_Of.calls 109 167 7 64 32 1 w' (S1.of_167 100))
theorem numOne (op a : Int) (ho0 : -9223372036854775808 ≤ op) (ho1 : op < 9223372036854775808) (h0 : 0 ≤ a) (h1 : a < 18446744073709551616) (w : World) (hT : Tabs w) : Calls Tryd.prog 9 #[.int .i64 op, .int .u64 a] w fun e w' => e = .returned (.bool true) ∧ Below w.heap.size w w' := by
  by_cases c0 : 70 ≤ op ∧ op ≤ 79
  · obtain ⟨P, e⟩ := S1.oft_0 100 op c0.1 c0.2
    exact one_core op a 0 2 32 32 2 P w (fun w' hw => One_0 op a c0.1 c0.2 w') (fun w' => PNumOne.geoderef03_One.calls 109 op a 0 2 w' (S1.One_other op a _ _ _ _ e (by decide))) (fun w' => Bits_0 op c0.1 c0.2 w') (fun w' => PNumOne.geoderef03_Of.calls 109 op P 32 32 2 w' e)
  by_cases c1 : 81 ≤ op ∧ op ≤ 90
  · obtain ⟨P, e⟩ := S1.oft_1 100 op c1.1 c1.2
    exact one_core op a 0 2 64 32 2 P w (fun w' hw => One_1 op a c1.1 c1.2 w') (fun w' => PNumOne.geoderef03_One.calls 109 op a 0 2 w' (S1.One_other op a _ _ _ _ e (by decide))) (fun w' => Bits_1 op c1.1 c1.2 w') (fun w' => PNumOne.geoderef03_Of.calls 109 op P 64 32 2 w' e)
  by_cases c2 : 106 ≤ op ∧ op ≤ 120
  · obtain ⟨P, e⟩ := S1.oft_2 100 op c2.1 c2.2
    exact one_core op a 0 2 32 32 2 P w (fun w' hw => One_2 op a c2.1 c2.2 w') (fun w' => PNumOne.geoderef03_One.calls 109 op a 0 2 w' (S1.One_other op a _ _ _ _ e (by decide))) (fun w' => Bits_2 op c2.1 c2.2 w') (fun w' => PNumOne.geoderef03_Of.calls 109 op P 32 32 2 w' e)
  by_cases c3 : 124 ≤ op ∧ op ≤ 138
  · obtain ⟨P, e⟩ := S1.oft_3 100 op c3.1 c3.2
    exact one_core op a 0 2 64 64 2 P w (fun w' hw => One_3 op a c3.1 c3.2 w') (fun w' => PNumOne.geoderef03_One.calls 109 op a 0 2 w' (S1.One_other op a _ _ _ _ e (by decide))) (fun w' => Bits_3 op c3.1 c3.2 w') (fun w' => PNumOne.geoderef03_Of.calls 109 op P 64 64 2 w' e)
  cases ho : onesB op with
  | true =>
    rcases one_cases op ho with rfl | rfl | rfl | rfl | rfl | rfl | rfl | rfl | rfl | rfl | rfl | rfl | rfl | rfl | rfl | rfl
    · exact numOne_69 a h0 h1 w hT
    · exact numOne_103 a h0 h1 w hT
    · exact numOne_104 a h0 h1 w hT
    · exact numOne_105 a h0 h1 w hT
    · exact numOne_192 a h0 h1 w hT
    · exact numOne_193 a h0 h1 w hT
    · exact numOne_172 a h0 h1 w hT
    · exact numOne_173 a h0 h1 w hT
    · exact numOne_80 a h0 h1 w hT
    · exact numOne_121 a h0 h1 w hT
    · exact numOne_122 a h0 h1 w hT
    · exact numOne_123 a h0 h1 w hT
    · exact numOne_194 a h0 h1 w hT
    · exact numOne_195 a h0 h1 w hT
    · exact numOne_196 a h0 h1 w hT
    · exact numOne_167 a h0 h1 w hT
  | false =>
    have e := S1.of_none 100 op ho c0 c1 c2 c3
    exact one_core op a 0 2 0 0 0 0 w (fun w' hw => One_no op a ho c0 c1 c2 c3 w') (fun w' => PNumOne.geoderef03_One.calls 109 op a 0 2 w' (S1.One_other op a _ _ _ _ e (by decide))) (fun w' => Bits_no op ho c0 c1 c2 c3 w') (fun w' => PNumOne.geoderef03_Of.calls 109 op 0 0 0 0 w' e)
end Go.Proofs.YtfcagbgnlibfpaaDoor.A
