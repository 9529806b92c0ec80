/- num: contracts of the functions that count ones. -/
import Derived.Test.YtfcagbgnlibfpaaDoorA
import Derived.Test.YtfcagbgnlibfpaaDoorVPop
import Derived.Lib.Tables
import Derived.Laws.Bits128
import Derived.Laws.BitsAllLaws
namespace Go.Proofs.YtfcagbgnlibfpaaDoor.A
open Go.ChangeShapes Go.WideShapes Go.ChangeAt Go.RowKit Go.Proofs.YtfcagbgnlibfpaaDoor.S Go.Proofs
set_option linter.unusedVariables false
set_option linter.unusedSimpArgs false

theorem andN (x m : Nat) (hx : x < 18446744073709551616) (hm : m < 18446744073709551616) : bits .and .u64 (x : Int) (m : Int) = ((x &&& m : Nat) : Int) := bits_and_u64_nat x m hx hm
theorem wrapN (z : Nat) (h : z < 2 ^ 64) : IntKind.u64.wrap ((z : Nat) : Int) = (z : Int) := by rw [IntKind.wrap_u64]; omega
theorem ones64_eq (x : Nat) (h : x < 18446744073709551616) (a b c d e f g y1 y2 y3 u v t : Int)
    (ha : bits .and .u64 ((x : Int) / 2) 6148914691236517205 = a) (hb : bits .and .u64 (x : Int) 6148914691236517205 = b) (h1 : IntKind.u64.wrap (a + b) = y1)
    (hc : bits .and .u64 (y1 / 4) 3689348814741910323 = c) (hd : bits .and .u64 y1 3689348814741910323 = d) (h2 : IntKind.u64.wrap (c + d) = y2)
    (he : bits .and .u64 (IntKind.u64.wrap (y2 / 16 + y2)) 1085102592571150095 = y3)
    (hu : IntKind.u64.wrap (y3 + y3 / 256) = u) (hv : IntKind.u64.wrap (u + u / 65536) = v) (ht : IntKind.u64.wrap (v + v / 4294967296) = t) : t % 128 = (Lib.popAux 64 x : Int) ∧ 0 ≤ t ∧ t < 18446744073709551616 := by
  have bd : ∀ p m : Nat, p &&& m ≤ m := fun p m => Nat.and_le_right
  have ea : a = ((x / 2 &&& 6148914691236517205 : Nat) : Int) := by rw [← ha]; exact andN (x / 2) 6148914691236517205 (by omega) (by decide)
  have eb : b = ((x &&& 6148914691236517205 : Nat) : Int) := by rw [← hb]; exact andN x 6148914691236517205 (by omega) (by decide)
  have k1 := bd (x / 2) 6148914691236517205
  have k2 := bd x 6148914691236517205
  generalize n1 : (x / 2 &&& 6148914691236517205) + (x &&& 6148914691236517205) = z1 at *
  have z1' : z1 < 2 ^ 64 := by omega
  have q1 : y1 = (z1 : Int) := by rw [← h1, ea, eb, ← wrapN z1 z1', ← n1]; simp
  have ec : c = ((z1 / 4 &&& 3689348814741910323 : Nat) : Int) := by rw [← hc, q1]; exact andN (z1 / 4) 3689348814741910323 (by omega) (by decide)
  have ed : d = ((z1 &&& 3689348814741910323 : Nat) : Int) := by rw [← hd, q1]; exact andN z1 3689348814741910323 (by omega) (by decide)
  have k3 := bd (z1 / 4) 3689348814741910323
  have k4 := bd z1 3689348814741910323
  generalize n2 : (z1 / 4 &&& 3689348814741910323) + (z1 &&& 3689348814741910323) = z2 at *
  have z2' : z2 ≤ 7378697629483820646 := by omega
  have q2 : y2 = (z2 : Int) := by rw [← h2, ec, ed, ← wrapN z2 (by omega), ← n2]; simp
  have q2' : IntKind.u64.wrap (y2 / 16 + y2) = ((z2 / 16 + z2 : Nat) : Int) := by rw [q2]; exact wrapN (z2 / 16 + z2) (by omega)
  have q3 : y3 = ((z2 / 16 + z2 &&& 1085102592571150095 : Nat) : Int) := by rw [← he, q2']; exact andN (z2 / 16 + z2) 1085102592571150095 (by omega) (by decide)
  generalize n3 : (z2 / 16 + z2 &&& 1085102592571150095) = z3 at *
  obtain ⟨f1, f2, f3, f4⟩ := pop64 x z1 z2 z3 n1.symm n2.symm n3.symm
  have q4 : u = ((z3 + z3 / 256 : Nat) : Int) := by rw [← hu, q3]; exact wrapN (z3 + z3 / 256) f1
  generalize z3 + z3 / 256 = z4 at *
  have q5 : v = ((z4 + z4 / 65536 : Nat) : Int) := by rw [← hv, q4]; exact wrapN (z4 + z4 / 65536) f2
  generalize z4 + z4 / 65536 = z5 at *
  have q6 : t = ((z5 + z5 / 4294967296 : Nat) : Int) := by rw [← ht, q5]; exact wrapN (z5 + z5 / 4294967296) f3
  rw [q6]
  omega
theorem ones64 (x : Nat) (h : x < 18446744073709551616) (w : World) : Calls Tryd.prog 57 #[.int .u64 (x : Int)] w fun e w' => e = .returned (.int .i64 (Lib.popAux 64 x)) ∧ w' = w := by
  generalize ha : bits .and .u64 ((x : Int) / 2) 6148914691236517205 = a at *
  generalize hb : bits .and .u64 (x : Int) 6148914691236517205 = b at *
  generalize h1 : IntKind.u64.wrap (a + b) = y1 at *
  generalize hc : bits .and .u64 (y1 / 4) 3689348814741910323 = c at *
  generalize hd : bits .and .u64 y1 3689348814741910323 = d at *
  generalize h2 : IntKind.u64.wrap (c + d) = y2 at *
  generalize he : bits .and .u64 (IntKind.u64.wrap (y2 / 16 + y2)) 1085102592571150095 = y3 at *
  generalize hu : IntKind.u64.wrap (y3 + y3 / 256) = u at *
  generalize hv : IntKind.u64.wrap (u + u / 65536) = v at *
  generalize ht : IntKind.u64.wrap (v + v / 4294967296) = t at *
  have E := ones64_eq x h a b c d 0 0 0 y1 y2 y3 u v t ha hb h1 hc hd h2 he hu hv ht
  go_enter Tryd.func57, Tryd.ntmps57
  go_wp2
  go_ret
  have k : bits .and .i64 (wrap64 t) 127 = (Lib.popAux 64 x : Int) := by
    rw [i64_and127, ← E.1]
    simp only [wrap64]
    omega
  exact ⟨congrArg (fun z => Ending.returned (.int .i64 z)) k, rfl⟩
theorem and255 (a : Int) (h0 : 0 ≤ a) (h1 : a < 4294967296) : bits .and .u32 a 255 = a % 256 := by
  have := Go.u32_and_nat a.toNat 255 (by omega) (by decide)
  rw [Go.nat_mask8] at this
  rw [show (a.toNat : Int) = a by omega] at this
  exact this.trans (by omega)
theorem pop8_fin : ∀ n : Fin 256, Lib.pop8 (n.val : Int) = (Lib.popAux 8 n.val : Int) := by decide +kernel
theorem pop8_of (i : Int) (h0 : 0 ≤ i) (h1 : i ≤ 255) : Lib.pop8 i = (Lib.popAux 8 i.toNat : Int) := by
  have := pop8_fin ⟨i.toNat, by omega⟩
  simpa [Int.toNat_of_nonneg h0] using this
theorem pop32 (x : Nat) : Lib.popAux 32 x = Lib.popAux 8 (x % 256) + Lib.popAux 8 (x / 256 % 256) + Lib.popAux 8 (x / 65536 % 256) + Lib.popAux 8 (x / 16777216) := by
  rw [popAux_add 8 24 x, popAux_add 8 16 (x / 2 ^ 8), popAux_add 8 8 (x / 2 ^ 8 / 2 ^ 8), Nat.div_div_eq_div_mul, Nat.div_div_eq_div_mul,
    ← popAux_mod 8 x, ← popAux_mod 8 (x / 2 ^ 8), ← popAux_mod 8 (x / (2 ^ 8 * 2 ^ 8))]
  simp only [Nat.reducePow, Nat.reduceMul]
  omega
theorem toPop (l : List UInt8) (h : l.toArray = Lib.pop8tab.data) : (⟨l.toArray⟩ : ByteArray) = Lib.pop8tab := by rw [h]
set_option maxRecDepth 100000 in
theorem ones32 (x : Int) (h0 : 0 ≤ x) (h1 : x < 4294967296) (w : World) : Calls Tryd.prog 54 #[.int .u32 x] w fun e w' => e = .returned (.int .i64 (Lib.popAux 32 x.toNat)) ∧ ∃ n, w' = w.drewN n := by
  have b1 := and255 (x / 65536) (by omega) (by omega)
  have b2 := and255 (x / 256) (by omega) (by omega)
  have b3 := and255 x (by omega) (by omega)
  have c1 : 0 ≤ x / 16777216 ∧ x / 16777216 ≤ 255 := by omega
  have c2 : 0 ≤ x / 65536 % 256 ∧ x / 65536 % 256 ≤ 255 := by omega
  have c3 : 0 ≤ x / 256 % 256 ∧ x / 256 % 256 ≤ 255 := by omega
  have c4 : 0 ≤ x % 256 ∧ x % 256 ≤ 255 := by omega
  obtain ⟨c1, d1⟩ := c1
  obtain ⟨c2, d2⟩ := c2
  obtain ⟨c3, d3⟩ := c3
  obtain ⟨c4, d4⟩ := c4
  have r1 := Lib.run_index_pop8tab (P := Tryd.prog) w 9 .u32 (x / 16777216) Tryd.underlying9 c1 d1
  have r2 := Lib.run_index_pop8tab (P := Tryd.prog) w 9 .u32 (x / 65536 % 256) Tryd.underlying9 c2 d2
  have r3 := Lib.run_index_pop8tab (P := Tryd.prog) w 9 .u32 (x / 256 % 256) Tryd.underlying9 c3 d3
  have r4 := Lib.run_index_pop8tab (P := Tryd.prog) w 9 .u32 (x % 256) Tryd.underlying9 c4 d4
  go_enter Tryd.func54, Tryd.ntmps54
  go_wp2
  rw [toPop _ (by kernel_rfl)]
  go_region
  go_wp2
  go_ret
  have t1 := pop8_of (x / 16777216) c1 d1
  have t2 := pop8_of (x / 65536 % 256) c2 d2
  have t3 := pop8_of (x / 256 % 256) c3 d3
  have t4 := pop8_of (x % 256) c4 d4
  refine ⟨congrArg (fun z => Ending.returned (.int .i64 z)) ?_, 1, rfl⟩
  rw [t1, t2, t3, t4, pop32]
  have g := popAux_le 32 x.toNat
  rw [pop32] at g
  have k1 : (x / 16777216).toNat = x.toNat / 16777216 := by omega
  have k2 : (x / 65536 % 256).toNat = x.toNat / 65536 % 256 := by omega
  have k3 : (x / 256 % 256).toNat = x.toNat / 256 % 256 := by omega
  have k4 : (x % 256).toNat = x.toNat % 256 := by omega
  rw [k1, k2, k3, k4]
  omega
end Go.Proofs.YtfcagbgnlibfpaaDoor.A
