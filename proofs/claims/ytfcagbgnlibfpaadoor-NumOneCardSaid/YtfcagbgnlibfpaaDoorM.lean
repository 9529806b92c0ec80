/- num: contracts of the functions that count zeros. -/
import Derived.Test.YtfcagbgnlibfpaaDoorI
import Derived.Test.YtfcagbgnlibfpaaDoorL
namespace Go.Proofs.YtfcagbgnlibfpaaDoor.A
open Go.ChangeShapes Go.WideShapes Go.ChangeAt Go.RowKit Go.Proofs.YtfcagbgnlibfpaaDoor.S Go.Proofs
set_option linter.unusedVariables false
set_option linter.unusedSimpArgs false

/-- The two tables, where the program's variables lie. -/
def Tabs (w : World) : Prop := TabAt 0 Lib.deBruijn32tab w ∧ TabAt 1 Lib.deBruijn64tab w
theorem Tabs.lt {w : World} (h : Tabs w) : 1 < w.heap.size := by
  have h1 := h.2 0 (by decide)
  rcases Nat.lt_or_ge 1 w.heap.size with h2 | h2
  · exact h2
  · have : w.heap[1]? = none := by simpa using h2
    simp [World.cell?, this] at h1
theorem Tabs.below {w w' : World} (h : Tabs w) (hb : Below w.heap.size w w') : Tabs w' :=
  ⟨fun j hj => ((bcell hb).1 0 j (by have := h.lt; omega)).trans (h.1 j hj), fun j hj => ((bcell hb).1 1 j h.lt).trans (h.2 j hj)⟩

theorem u_103 (a : Int) (h0 : 0 ≤ a) (h1 : a < 4294967296) (w : World) : Calls Tryd.prog 31 #[.int .u32 a] w fun e w' => e = .returned (.int .u64 (32 - (Lib.bitLen a.toNat : Int))) ∧ ∃ n, w' = w.drewN n := by
  have T := Lib.hid (bits_LeadingZeros32 a w h0 (by omega))
  have B := Any.bitLen_le32 a h0 (by omega)
  generalize Lib.bitLen a.toNat = k at *
  go_enter Tryd.func31, Tryd.ntmps31
  go_wp2_with (go_at_call 52; (with_reducible refine (T.out).mono ?_); rintro e w' ⟨rfl, rfl⟩)
  go_ret
  exact ⟨ret_int (by first | omega | (simp only [IntKind.wrap_u64, wrap64]; omega)), 0, rfl⟩
theorem u_121 (a : Int) (h0 : 0 ≤ a) (h1 : a < 18446744073709551616) (w : World) : Calls Tryd.prog 39 #[.int .u64 a] w fun e w' => e = .returned (.int .u64 (64 - (Lib.bitLen a.toNat : Int))) ∧ ∃ n, w' = w.drewN n := by
  have T := Lib.hid (bits_LeadingZeros64 a w h0 (by omega))
  have B := Any.bitLen_le64 a h0 (by omega)
  generalize Lib.bitLen a.toNat = k at *
  go_enter Tryd.func39, Tryd.ntmps39
  go_wp2_with (go_at_call 55; (with_reducible refine (T.out).mono ?_); rintro e w' ⟨rfl, rfl⟩)
  go_ret
  exact ⟨ret_int (by first | omega | (simp only [IntKind.wrap_u64, wrap64]; omega)), 0, rfl⟩
theorem ctz_le (n x : Nat) (h : x < 2 ^ n) : Lib.ctz n x ≤ n := by
  unfold Lib.ctz
  split
  · exact Nat.le_refl _
  · obtain ⟨_, _, h2⟩ := Lib.ctzFrom_spec n x (by omega) h
    omega
theorem u_104 (a : Int) (h0 : 0 ≤ a) (h1 : a < 4294967296) (w : World) (hT : Tabs w) : Calls Tryd.prog 32 #[.int .u32 a] w fun e w' => e = .returned (.int .u64 (Lib.ctz 32 a.toNat : Int)) ∧ ∃ n, w' = w.drewN n := by
  have T : Calls Tryd.prog 53 #[.int .u32 a] w fun e w' => e = .returned (.int .i64 (Lib.ctz 32 a.toNat)) ∧ w' = w := by
    have := Any7.bits_TrailingZeros32 lays7_28 a.toNat (by omega) w (fun _ => hT.1)
    rwa [Int.toNat_of_nonneg h0] at this
  replace T := Lib.hid T
  have B := ctz_le 32 a.toNat (by omega)
  generalize Lib.ctz 32 a.toNat = k at *
  go_enter Tryd.func32, Tryd.ntmps32
  go_wp2_with (go_at_call 53; (with_reducible refine (T.out).mono ?_); rintro e w' ⟨rfl, rfl⟩)
  go_ret
  exact ⟨ret_int (by first | omega | (simp only [IntKind.wrap_u64, wrap64]; omega)), 0, rfl⟩
theorem u_122 (a : Int) (h0 : 0 ≤ a) (h1 : a < 18446744073709551616) (w : World) (hT : Tabs w) : Calls Tryd.prog 40 #[.int .u64 a] w fun e w' => e = .returned (.int .u64 (Lib.ctz 64 a.toNat : Int)) ∧ ∃ n, w' = w.drewN n := by
  have T : Calls Tryd.prog 56 #[.int .u64 a] w fun e w' => e = .returned (.int .i64 (Lib.ctz 64 a.toNat)) ∧ w' = w := by
    have := Any7.bits_TrailingZeros64 lays7_29 a.toNat (by omega) w (fun _ => hT.2)
    rwa [Int.toNat_of_nonneg h0] at this
  replace T := Lib.hid T
  have B := ctz_le 64 a.toNat (by omega)
  generalize Lib.ctz 64 a.toNat = k at *
  go_enter Tryd.func40, Tryd.ntmps40
  go_wp2_with (go_at_call 56; (with_reducible refine (T.out).mono ?_); rintro e w' ⟨rfl, rfl⟩)
  go_ret
  exact ⟨ret_int (by first | omega | (simp only [IntKind.wrap_u64, wrap64]; omega)), 0, rfl⟩
end Go.Proofs.YtfcagbgnlibfpaaDoor.A
