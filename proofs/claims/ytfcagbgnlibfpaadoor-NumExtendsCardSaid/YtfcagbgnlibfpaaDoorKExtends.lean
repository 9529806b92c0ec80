/- num: the walk of the law NumExtends: it returns true, whatever numbers it is given; no memory that was there turns. -/
import Derived.Test.YtfcagbgnlibfpaaDoorKRing
import Derived.Test.YtfcagbgnlibfpaaDoorVExtends
namespace Go.Proofs.YtfcagbgnlibfpaaDoor.A
open Go.ChangeShapes Go.WideShapes Go.ChangeAt Go.RowKit Go.Proofs.YtfcagbgnlibfpaaDoor.S
set_option linter.unusedVariables false
set_option linter.unusedSimpArgs false

def v192 (a : Int) : Int := extI 256 4294967296 a
def v193 (a : Int) : Int := extI 65536 4294967296 a
def v172 (a : Int) : Int := extI 4294967296 18446744073709551616 a
def v194 (a : Int) : Int := extI 256 18446744073709551616 a
def v195 (a : Int) : Int := extI 65536 18446744073709551616 a
def v196 (a : Int) : Int := extI 4294967296 18446744073709551616 a
theorem e_172 (a : Int) (h0 : 0 ≤ a) (h1 : a < 4294967296) (w : World) : Calls Tryd.prog 15 #[.int .i64 172, .int .u64 a] w fun e w' => e = .returned (.tuple #[.int .u64 (v172 a), .int .i64 0]) ∧ Below w.heap.size w w' :=
  one_172 a _ h0 h1 w (fun w' _ => u_172 a h0 h1 w')
theorem e_173 (a : Int) (h0 : 0 ≤ a) (h1 : a < 4294967296) (w : World) : Calls Tryd.prog 15 #[.int .i64 173, .int .u64 a] w fun e w' => e = .returned (.tuple #[.int .u64 (a), .int .i64 0]) ∧ Below w.heap.size w w' :=
  one_173 a _ h0 h1 w (fun w' _ => u_173 a h0 h1 w')
theorem e_167 (a : Int) (h0 : 0 ≤ a) (h1 : a < 18446744073709551616) (w : World) : Calls Tryd.prog 15 #[.int .i64 167, .int .u64 a] w fun e w' => e = .returned (.tuple #[.int .u64 (a % 4294967296), .int .i64 0]) ∧ Below w.heap.size w w' :=
  one_167 a _ h0 h1 w (fun w' _ => u_167 a h0 h1 w')
theorem e_192 (a : Int) (h0 : 0 ≤ a) (h1 : a < 4294967296) (w : World) : Calls Tryd.prog 15 #[.int .i64 192, .int .u64 a] w fun e w' => e = .returned (.tuple #[.int .u64 (v192 a), .int .i64 0]) ∧ Below w.heap.size w w' :=
  one_192 a _ h0 h1 w (fun w' _ => u_192 a h0 h1 w')
theorem e_193 (a : Int) (h0 : 0 ≤ a) (h1 : a < 4294967296) (w : World) : Calls Tryd.prog 15 #[.int .i64 193, .int .u64 a] w fun e w' => e = .returned (.tuple #[.int .u64 (v193 a), .int .i64 0]) ∧ Below w.heap.size w w' :=
  one_193 a _ h0 h1 w (fun w' _ => u_193 a h0 h1 w')
theorem e_194 (a : Int) (h0 : 0 ≤ a) (h1 : a < 18446744073709551616) (w : World) : Calls Tryd.prog 15 #[.int .i64 194, .int .u64 a] w fun e w' => e = .returned (.tuple #[.int .u64 (v194 a), .int .i64 0]) ∧ Below w.heap.size w w' :=
  one_194 a _ h0 h1 w (fun w' _ => u_194 a h0 h1 w')
theorem e_195 (a : Int) (h0 : 0 ≤ a) (h1 : a < 18446744073709551616) (w : World) : Calls Tryd.prog 15 #[.int .i64 195, .int .u64 a] w fun e w' => e = .returned (.tuple #[.int .u64 (v195 a), .int .i64 0]) ∧ Below w.heap.size w w' :=
  one_195 a _ h0 h1 w (fun w' _ => u_195 a h0 h1 w')
theorem e_196 (a : Int) (h0 : 0 ≤ a) (h1 : a < 18446744073709551616) (w : World) : Calls Tryd.prog 15 #[.int .i64 196, .int .u64 a] w fun e w' => e = .returned (.tuple #[.int .u64 (v196 a), .int .i64 0]) ∧ Below w.heap.size w w' :=
  one_196 a _ h0 h1 w (fun w' _ => u_196 a h0 h1 w')
set_option maxHeartbeats 16000000 in
set_option maxRecDepth 100000 in
theorem numExtends (a b : Int) (ha0 : 0 ≤ a) (ha1 : a < 18446744073709551616) (hb0 : 0 ≤ b) (hb1 : b < 18446744073709551616) (w : World) :
    Calls Tryd.prog 6 #[.int .u64 a, .int .u64 b] w fun e w' => e = .returned (.bool true) ∧ Below w.heap.size w w' := by
  go_enter Tryd.func6, Tryd.ntmps6
  have hB : Below w.heap.size w w := Below.refl _ _
  have q : 0 ≤ a / 4294967296 ∧ a / 4294967296 < 4294967296 ∧ 0 ≤ b / 4294967296 ∧ b / 4294967296 < 4294967296 := by omega
  generalize hA : a / 4294967296 = x at *
  generalize hBB : b / 4294967296 = y at *
  obtain ⟨x0, x1, y0, y1⟩ := q
  have f1 : (v172 x % 4294967296 != x) = false := ne_false (ext_172 x x0 x1).1
  obtain ⟨p0, p1⟩ : 0 ≤ v172 x ∧ v172 x < 18446744073709551616 := (ext_172 x x0 x1).2
  obtain ⟨r0, r1⟩ : 0 ≤ v172 y ∧ v172 y < 18446744073709551616 := (ext_172 y y0 y1).2
  have f2 : (askI 64 2 (v172 x) (v172 y) != askI 32 2 x y) = false := ne_false (ext_ask2 x y x0 x1 y0 y1)
  have f3 := ne_false (Int.emod_eq_of_lt x0 x1)
  have f4 := ne_false (ext_ask3 x y x0 x1 y0 y1)
  have x2 : x < 18446744073709551616 := by omega
  have y2 : y < 18446744073709551616 := by omega
  have B192 : 0 ≤ v192 x ∧ v192 x < 4294967296 := (ext_192 x x0 x1).2.2
  have g192 : (v192 x != v192 (v192 x)) = false := ne_false (ext_192 x x0 x1).1.symm
  have m192 : (bits .and .u64 (v192 x) 255 != bits .and .u64 x 255) = false := ne_false (low8 _ _ B192.1 (by omega) x0 (by omega) (ext_192 x x0 x1).2.1)
  clear B192
  obtain ⟨k192, l192⟩ : 0 ≤ v192 x ∧ v192 x < 4294967296 := (ext_192 x x0 x1).2.2
  have B193 : 0 ≤ v193 x ∧ v193 x < 4294967296 := (ext_193 x x0 x1).2.2
  have g193 : (v193 x != v193 (v193 x)) = false := ne_false (ext_193 x x0 x1).1.symm
  have m193 : (bits .and .u64 (v193 x) 255 != bits .and .u64 x 255) = false := ne_false (low8 _ _ B193.1 (by omega) x0 (by omega) (ext_193 x x0 x1).2.1)
  clear B193
  obtain ⟨k193, l193⟩ : 0 ≤ v193 x ∧ v193 x < 4294967296 := (ext_193 x x0 x1).2.2
  have B194 : 0 ≤ v194 a ∧ v194 a < 18446744073709551616 := (ext_194 a ha0 ha1).2.2
  have g194 : (v194 a != v194 (v194 a)) = false := ne_false (ext_194 a ha0 ha1).1.symm
  have m194 : (bits .and .u64 (v194 a) 255 != bits .and .u64 a 255) = false := ne_false (low8 _ _ B194.1 (by omega) ha0 (by omega) (ext_194 a ha0 ha1).2.1)
  clear B194
  obtain ⟨k194, l194⟩ : 0 ≤ v194 a ∧ v194 a < 18446744073709551616 := (ext_194 a ha0 ha1).2.2
  have B195 : 0 ≤ v195 a ∧ v195 a < 18446744073709551616 := (ext_195 a ha0 ha1).2.2
  have g195 : (v195 a != v195 (v195 a)) = false := ne_false (ext_195 a ha0 ha1).1.symm
  have m195 : (bits .and .u64 (v195 a) 255 != bits .and .u64 a 255) = false := ne_false (low8 _ _ B195.1 (by omega) ha0 (by omega) (ext_195 a ha0 ha1).2.1)
  clear B195
  obtain ⟨k195, l195⟩ : 0 ≤ v195 a ∧ v195 a < 18446744073709551616 := (ext_195 a ha0 ha1).2.2
  have B196 : 0 ≤ v196 a ∧ v196 a < 18446744073709551616 := (ext_196 a ha0 ha1).2.2
  have g196 : (v196 a != v196 (v196 a)) = false := ne_false (ext_196 a ha0 ha1).1.symm
  have m196 : (bits .and .u64 (v196 a) 255 != bits .and .u64 a 255) = false := ne_false (low8 _ _ B196.1 (by omega) ha0 (by omega) (ext_196 a ha0 ha1).2.1)
  clear B196
  obtain ⟨k196, l196⟩ : 0 ≤ v196 a ∧ v196 a < 18446744073709551616 := (ext_196 a ha0 ha1).2.2
  go_wp2
  refine wp_loop_rounds 3 ?_
  rw [rounds_succ]
  go_wp2_with (first | (go_at_call 15; (first | (with_reducible refine (e_172 _ ?_ ?_ _).mono ?_) | (with_reducible refine (e_173 _ ?_ ?_ _).mono ?_) | (with_reducible refine (e_167 _ ?_ ?_ _).mono ?_) | (with_reducible refine (e_192 _ ?_ ?_ _).mono ?_) | (with_reducible refine (e_193 _ ?_ ?_ _).mono ?_) | (with_reducible refine (e_194 _ ?_ ?_ _).mono ?_) | (with_reducible refine (e_195 _ ?_ ?_ _).mono ?_) | (with_reducible refine (e_196 _ ?_ ?_ _).mono ?_)); (any_goals (first | (with_reducible assumption) | omega)); rintro e w' ⟨rfl, hb⟩; replace hB := below_step (w := w) (by repeat (first | (with_reducible exact hB) | (with_reducible refine Below.drew ?_) | (with_reducible refine below_drewN ?_ _) | (with_reducible refine Below.alloc ?_ (by have h9 := hB.size; first | omega | (simp; done) | (simp at h9 ⊢; omega) | (simp; omega)) _))) hb; clear hb) | (go_at_call 13; (first | (with_reducible refine (tq64_72 _ _ ?_ ?_ ?_ ?_ _).mono ?_) | (with_reducible refine (tq32_72 _ _ ?_ ?_ ?_ ?_ _).mono ?_) | (with_reducible refine (tq64_73 _ _ ?_ ?_ ?_ ?_ _).mono ?_) | (with_reducible refine (tq32_73 _ _ ?_ ?_ ?_ ?_ _).mono ?_)); (any_goals (first | (with_reducible assumption) | omega)); rintro e w' ⟨rfl, hb⟩; replace hB := below_step (w := w) (by repeat (first | (with_reducible exact hB) | (with_reducible refine Below.drew ?_) | (with_reducible refine below_drewN ?_ _) | (with_reducible refine Below.alloc ?_ (by have h9 := hB.size; first | omega | (simp; done) | (simp at h9 ⊢; omega) | (simp; omega)) _))) hb; clear hb))
  rw [rounds_succ]
  go_wp2_with (first | (go_at_call 15; (first | (with_reducible refine (e_172 _ ?_ ?_ _).mono ?_) | (with_reducible refine (e_173 _ ?_ ?_ _).mono ?_) | (with_reducible refine (e_167 _ ?_ ?_ _).mono ?_) | (with_reducible refine (e_192 _ ?_ ?_ _).mono ?_) | (with_reducible refine (e_193 _ ?_ ?_ _).mono ?_) | (with_reducible refine (e_194 _ ?_ ?_ _).mono ?_) | (with_reducible refine (e_195 _ ?_ ?_ _).mono ?_) | (with_reducible refine (e_196 _ ?_ ?_ _).mono ?_)); (any_goals (first | (with_reducible assumption) | omega)); rintro e w' ⟨rfl, hb⟩; replace hB := below_step (w := w) (by repeat (first | (with_reducible exact hB) | (with_reducible refine Below.drew ?_) | (with_reducible refine below_drewN ?_ _) | (with_reducible refine Below.alloc ?_ (by have h9 := hB.size; first | omega | (simp; done) | (simp at h9 ⊢; omega) | (simp; omega)) _))) hb; clear hb) | (go_at_call 13; (first | (with_reducible refine (tq64_72 _ _ ?_ ?_ ?_ ?_ _).mono ?_) | (with_reducible refine (tq32_72 _ _ ?_ ?_ ?_ ?_ _).mono ?_) | (with_reducible refine (tq64_73 _ _ ?_ ?_ ?_ ?_ _).mono ?_) | (with_reducible refine (tq32_73 _ _ ?_ ?_ ?_ ?_ _).mono ?_)); (any_goals (first | (with_reducible assumption) | omega)); rintro e w' ⟨rfl, hb⟩; replace hB := below_step (w := w) (by repeat (first | (with_reducible exact hB) | (with_reducible refine Below.drew ?_) | (with_reducible refine below_drewN ?_ _) | (with_reducible refine Below.alloc ?_ (by have h9 := hB.size; first | omega | (simp; done) | (simp at h9 ⊢; omega) | (simp; omega)) _))) hb; clear hb))
  rw [rounds_succ]
  go_wp2
  refine wp_loop_rounds 6 ?_
  rw [rounds_succ]
  go_wp2_with (first | (go_at_call 15; (first | (with_reducible refine (e_172 _ ?_ ?_ _).mono ?_) | (with_reducible refine (e_173 _ ?_ ?_ _).mono ?_) | (with_reducible refine (e_167 _ ?_ ?_ _).mono ?_) | (with_reducible refine (e_192 _ ?_ ?_ _).mono ?_) | (with_reducible refine (e_193 _ ?_ ?_ _).mono ?_) | (with_reducible refine (e_194 _ ?_ ?_ _).mono ?_) | (with_reducible refine (e_195 _ ?_ ?_ _).mono ?_) | (with_reducible refine (e_196 _ ?_ ?_ _).mono ?_)); (any_goals (first | (with_reducible assumption) | omega)); rintro e w' ⟨rfl, hb⟩; replace hB := below_step (w := w) (by repeat (first | (with_reducible exact hB) | (with_reducible refine Below.drew ?_) | (with_reducible refine below_drewN ?_ _) | (with_reducible refine Below.alloc ?_ (by have h9 := hB.size; first | omega | (simp; done) | (simp at h9 ⊢; omega) | (simp; omega)) _))) hb; clear hb) | (go_at_call 13; (first | (with_reducible refine (tq64_72 _ _ ?_ ?_ ?_ ?_ _).mono ?_) | (with_reducible refine (tq32_72 _ _ ?_ ?_ ?_ ?_ _).mono ?_) | (with_reducible refine (tq64_73 _ _ ?_ ?_ ?_ ?_ _).mono ?_) | (with_reducible refine (tq32_73 _ _ ?_ ?_ ?_ ?_ _).mono ?_)); (any_goals (first | (with_reducible assumption) | omega)); rintro e w' ⟨rfl, hb⟩; replace hB := below_step (w := w) (by repeat (first | (with_reducible exact hB) | (with_reducible refine Below.drew ?_) | (with_reducible refine below_drewN ?_ _) | (with_reducible refine Below.alloc ?_ (by have h9 := hB.size; first | omega | (simp; done) | (simp at h9 ⊢; omega) | (simp; omega)) _))) hb; clear hb))
  rw [rounds_succ]
  go_wp2_with (first | (go_at_call 15; (first | (with_reducible refine (e_172 _ ?_ ?_ _).mono ?_) | (with_reducible refine (e_173 _ ?_ ?_ _).mono ?_) | (with_reducible refine (e_167 _ ?_ ?_ _).mono ?_) | (with_reducible refine (e_192 _ ?_ ?_ _).mono ?_) | (with_reducible refine (e_193 _ ?_ ?_ _).mono ?_) | (with_reducible refine (e_194 _ ?_ ?_ _).mono ?_) | (with_reducible refine (e_195 _ ?_ ?_ _).mono ?_) | (with_reducible refine (e_196 _ ?_ ?_ _).mono ?_)); (any_goals (first | (with_reducible assumption) | omega)); rintro e w' ⟨rfl, hb⟩; replace hB := below_step (w := w) (by repeat (first | (with_reducible exact hB) | (with_reducible refine Below.drew ?_) | (with_reducible refine below_drewN ?_ _) | (with_reducible refine Below.alloc ?_ (by have h9 := hB.size; first | omega | (simp; done) | (simp at h9 ⊢; omega) | (simp; omega)) _))) hb; clear hb) | (go_at_call 13; (first | (with_reducible refine (tq64_72 _ _ ?_ ?_ ?_ ?_ _).mono ?_) | (with_reducible refine (tq32_72 _ _ ?_ ?_ ?_ ?_ _).mono ?_) | (with_reducible refine (tq64_73 _ _ ?_ ?_ ?_ ?_ _).mono ?_) | (with_reducible refine (tq32_73 _ _ ?_ ?_ ?_ ?_ _).mono ?_)); (any_goals (first | (with_reducible assumption) | omega)); rintro e w' ⟨rfl, hb⟩; replace hB := below_step (w := w) (by repeat (first | (with_reducible exact hB) | (with_reducible refine Below.drew ?_) | (with_reducible refine below_drewN ?_ _) | (with_reducible refine Below.alloc ?_ (by have h9 := hB.size; first | omega | (simp; done) | (simp at h9 ⊢; omega) | (simp; omega)) _))) hb; clear hb))
  rw [rounds_succ]
  go_wp2_with (first | (go_at_call 15; (first | (with_reducible refine (e_172 _ ?_ ?_ _).mono ?_) | (with_reducible refine (e_173 _ ?_ ?_ _).mono ?_) | (with_reducible refine (e_167 _ ?_ ?_ _).mono ?_) | (with_reducible refine (e_192 _ ?_ ?_ _).mono ?_) | (with_reducible refine (e_193 _ ?_ ?_ _).mono ?_) | (with_reducible refine (e_194 _ ?_ ?_ _).mono ?_) | (with_reducible refine (e_195 _ ?_ ?_ _).mono ?_) | (with_reducible refine (e_196 _ ?_ ?_ _).mono ?_)); (any_goals (first | (with_reducible assumption) | omega)); rintro e w' ⟨rfl, hb⟩; replace hB := below_step (w := w) (by repeat (first | (with_reducible exact hB) | (with_reducible refine Below.drew ?_) | (with_reducible refine below_drewN ?_ _) | (with_reducible refine Below.alloc ?_ (by have h9 := hB.size; first | omega | (simp; done) | (simp at h9 ⊢; omega) | (simp; omega)) _))) hb; clear hb) | (go_at_call 13; (first | (with_reducible refine (tq64_72 _ _ ?_ ?_ ?_ ?_ _).mono ?_) | (with_reducible refine (tq32_72 _ _ ?_ ?_ ?_ ?_ _).mono ?_) | (with_reducible refine (tq64_73 _ _ ?_ ?_ ?_ ?_ _).mono ?_) | (with_reducible refine (tq32_73 _ _ ?_ ?_ ?_ ?_ _).mono ?_)); (any_goals (first | (with_reducible assumption) | omega)); rintro e w' ⟨rfl, hb⟩; replace hB := below_step (w := w) (by repeat (first | (with_reducible exact hB) | (with_reducible refine Below.drew ?_) | (with_reducible refine below_drewN ?_ _) | (with_reducible refine Below.alloc ?_ (by have h9 := hB.size; first | omega | (simp; done) | (simp at h9 ⊢; omega) | (simp; omega)) _))) hb; clear hb))
  rw [rounds_succ]
  go_wp2_with (first | (go_at_call 15; (first | (with_reducible refine (e_172 _ ?_ ?_ _).mono ?_) | (with_reducible refine (e_173 _ ?_ ?_ _).mono ?_) | (with_reducible refine (e_167 _ ?_ ?_ _).mono ?_) | (with_reducible refine (e_192 _ ?_ ?_ _).mono ?_) | (with_reducible refine (e_193 _ ?_ ?_ _).mono ?_) | (with_reducible refine (e_194 _ ?_ ?_ _).mono ?_) | (with_reducible refine (e_195 _ ?_ ?_ _).mono ?_) | (with_reducible refine (e_196 _ ?_ ?_ _).mono ?_)); (any_goals (first | (with_reducible assumption) | omega)); rintro e w' ⟨rfl, hb⟩; replace hB := below_step (w := w) (by repeat (first | (with_reducible exact hB) | (with_reducible refine Below.drew ?_) | (with_reducible refine below_drewN ?_ _) | (with_reducible refine Below.alloc ?_ (by have h9 := hB.size; first | omega | (simp; done) | (simp at h9 ⊢; omega) | (simp; omega)) _))) hb; clear hb) | (go_at_call 13; (first | (with_reducible refine (tq64_72 _ _ ?_ ?_ ?_ ?_ _).mono ?_) | (with_reducible refine (tq32_72 _ _ ?_ ?_ ?_ ?_ _).mono ?_) | (with_reducible refine (tq64_73 _ _ ?_ ?_ ?_ ?_ _).mono ?_) | (with_reducible refine (tq32_73 _ _ ?_ ?_ ?_ ?_ _).mono ?_)); (any_goals (first | (with_reducible assumption) | omega)); rintro e w' ⟨rfl, hb⟩; replace hB := below_step (w := w) (by repeat (first | (with_reducible exact hB) | (with_reducible refine Below.drew ?_) | (with_reducible refine below_drewN ?_ _) | (with_reducible refine Below.alloc ?_ (by have h9 := hB.size; first | omega | (simp; done) | (simp at h9 ⊢; omega) | (simp; omega)) _))) hb; clear hb))
  rw [rounds_succ]
  go_wp2_with (first | (go_at_call 15; (first | (with_reducible refine (e_172 _ ?_ ?_ _).mono ?_) | (with_reducible refine (e_173 _ ?_ ?_ _).mono ?_) | (with_reducible refine (e_167 _ ?_ ?_ _).mono ?_) | (with_reducible refine (e_192 _ ?_ ?_ _).mono ?_) | (with_reducible refine (e_193 _ ?_ ?_ _).mono ?_) | (with_reducible refine (e_194 _ ?_ ?_ _).mono ?_) | (with_reducible refine (e_195 _ ?_ ?_ _).mono ?_) | (with_reducible refine (e_196 _ ?_ ?_ _).mono ?_)); (any_goals (first | (with_reducible assumption) | omega)); rintro e w' ⟨rfl, hb⟩; replace hB := below_step (w := w) (by repeat (first | (with_reducible exact hB) | (with_reducible refine Below.drew ?_) | (with_reducible refine below_drewN ?_ _) | (with_reducible refine Below.alloc ?_ (by have h9 := hB.size; first | omega | (simp; done) | (simp at h9 ⊢; omega) | (simp; omega)) _))) hb; clear hb) | (go_at_call 13; (first | (with_reducible refine (tq64_72 _ _ ?_ ?_ ?_ ?_ _).mono ?_) | (with_reducible refine (tq32_72 _ _ ?_ ?_ ?_ ?_ _).mono ?_) | (with_reducible refine (tq64_73 _ _ ?_ ?_ ?_ ?_ _).mono ?_) | (with_reducible refine (tq32_73 _ _ ?_ ?_ ?_ ?_ _).mono ?_)); (any_goals (first | (with_reducible assumption) | omega)); rintro e w' ⟨rfl, hb⟩; replace hB := below_step (w := w) (by repeat (first | (with_reducible exact hB) | (with_reducible refine Below.drew ?_) | (with_reducible refine below_drewN ?_ _) | (with_reducible refine Below.alloc ?_ (by have h9 := hB.size; first | omega | (simp; done) | (simp at h9 ⊢; omega) | (simp; omega)) _))) hb; clear hb))
  rw [rounds_succ]
  go_wp2_with (go_at_call 12; (with_reducible refine (known _).mono ?_); rintro e w' ⟨rfl, hb⟩; replace hB := below_step (w := w) (by repeat (first | (with_reducible exact hB) | (with_reducible refine Below.drew ?_) | (with_reducible refine below_drewN ?_ _) | (with_reducible refine Below.alloc ?_ (by have h9 := hB.size; first | omega | (simp; done) | (simp at h9 ⊢; omega) | (simp; omega)) _))) hb; clear hb)
  go_ret
  exact ⟨rfl, hB⟩
end Go.Proofs.YtfcagbgnlibfpaaDoor.A
