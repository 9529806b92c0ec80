/- num: the rule of an operation of two numbers, and of what is no operation (part 0). -/
import Derived.Test.YtfcagbgnlibfpaaDoorG
import Derived.Deep.RegionHeld
namespace Go.Proofs.YtfcagbgnlibfpaaDoor.A
open Go.ChangeShapes Go.WideShapes Go.ChangeAt Go.RowKit Go.Proofs.YtfcagbgnlibfpaaDoor.S
set_option linter.unusedVariables false
set_option linter.unusedSimpArgs false
attribute [local go_sem] ins0 ins1 ins2 ins3 ins4 ins5 ins6 ins7 ins8 ins9 ins10 ins11 ins12 ins13 ins14 ins15 cell_self a3 a4 a5 a6 d3 d4 d5 d6 f3 f4 f5 f6

set_option maxHeartbeats 8000000 in
theorem rule0 (op : Int) (h1 : 70 ≤ op) (h2 : op ≤ 79) (w : World) : Calls Tryd.prog 20 #[.int .i64 op] w (RuleA 32 op (op - 70).toNat w) := by
  have hmm := @run_makeMap Tryd.prog
  have hl := look_no op (not_one op (by omega))
  go_enter Tryd.func20, Tryd.ntmps20
  go_wp2_with (go_at_call 46; refine (twos _).mono ?_; rintro e w' ⟨A, S, rfl, hb, ht⟩; obtain ⟨hc, hf⟩ := bcell hb; have hz1 : w.heap.size + 2 < w'.heap.size := (by (have := hb.size; simp at this; omega)); have hz2 : w.heap.size < w'.heap.size := (by omega); have hz3 := ht.ltA; have hz4 := ht.ltS; have hz5 : A ≤ w'.heap.size := (by omega); have hz6 : A ≤ w'.heap.size + 1 := (by omega); have hz7 : A ≤ w'.heap.size + 1 + 1 := (by omega); have hz8 : A ≤ w'.heap.size + 1 + 1 + 1 := (by omega); have hy5 : S ≤ w'.heap.size := (by omega); have hy6 : S ≤ w'.heap.size + 1 := (by omega); have hy7 : S ≤ w'.heap.size + 1 + 1 := (by omega); have hy8 : S ≤ w'.heap.size + 1 + 1 + 1 := (by omega); have hx5 : w.heap.size ≤ w'.heap.size := (by omega); have hx6 : w.heap.size ≤ w'.heap.size + 1 := (by omega); have hx7 : w.heap.size ≤ w'.heap.size + 1 + 1 := (by omega); have hx8 : w.heap.size ≤ w'.heap.size + 1 + 1 + 1 := (by omega); obtain ⟨f, x, hxb, hcell, hclo⟩ := ht.asks (op - 70).toNat (by omega); have hxn : w.heap.size + 3 ≤ x := (by simp at hxb; omega))
  refine wp_loop_rounds 1 ?_
  rw [rounds_succ]
  go_wp2
  refine bodyPost_ret (v := .tuple #[.agg #[.int .i64 32, .int .i64 32, .nilFunc, .nilFunc, cloV f x], .bool true]) ?_ rfl ⟨f, x, rfl, ?_, ?_⟩
  · rw [results_cell_tmp (show Tryd.f20.results = _ from Tryd.results20)]; simp [go_sem, hc, hz1, hz2, hx5, hx6, hx7, hx8]
  · repeat' (first | (with_reducible exact hclo) | (with_reducible refine CloA.alloc ?_ _) | (with_reducible refine CloA.set ?_ ?_ _) | omega)
  · repeat' (first | (with_reducible exact Below.refl _ _) | (with_reducible refine Below.setCell ?_ ?_ _) | (with_reducible refine Below.alloc ?_ ?_ _) | (with_reducible refine below_step ?_ hb) | omega | (simp; done) | (simp; omega))
end Go.Proofs.YtfcagbgnlibfpaaDoor.A
