/- num: what the rows' condition on the two tables says of the world: the two tables lie there, cell for cell. -/
import Derived.Test.YtfcagbgnlibfpaaDoorRF
import Derived.Test.YtfcagbgnlibfpaaDoorM
import Derived.Lib.LaidTab
namespace Go.Proofs.YtfcagbgnlibfpaaDoor.A
open Go.ChangeShapes Go.WideShapes Go.ChangeAt Go.RowKit Go.Joins Go.Proofs
set_option linter.unusedVariables false

theorem tab_at {W : World} {name : String} {zs : List Nat} {g t n : Nat} {cs : Array Value} {fuel : Nat} {p : List MemPlace} (hg : Tryd.prog.globalNamed name = some g)
    (ht : Tryd.prog.underlying t = some (.array n 5)) (hct : Tryd.prog.cellsOf t = n) (hv : W.var? Tryd.prog name = some cs)
    (hd : DataW.trod (fun _ => ()) Tryd.prog W 0 (fun _ => true) false fuel t cs.toList = some (Lib.tabData .u8 (zs.map Int.ofNat), p)) : TabAt g zs W := by
  have h1 := Lib.cells_of_tab ht Tryd.underlying5 (by kernel_rfl) hct hd
  have h2 : Lib.TabIs Tryd.prog W name .u8 (zs.map Int.ofNat) := by
    unfold Lib.TabIs
    rw [hv, ← h1]
  intro j hj
  have h3 := h2.cell hg j (by simpa using hj)
  rw [h3]
  congr 2
  simp [List.getD, hj]
theorem tabs_of_laid {W : World} (h : laidMetH Tryd.prog tabs W) : Tabs W := by
  rw [MakeChecks.laidMetH_plain _ _ _ (by kernel_rfl)] at h
  obtain ⟨ps, ⟨g0, t0, cs0, f0, p0, q0, hg0, ht0, hv0, hd0, ⟨g1, t1, cs1, f1, p1, q1, hg1, ht1, hv1, hd1, _, _⟩, _⟩, _, _⟩ := h
  have G0 : Tryd.prog.globalNamed "math/bits.deBruijn32tab" = some 0 := by kernel_rfl
  have G1 : Tryd.prog.globalNamed "math/bits.deBruijn64tab" = some 1 := by kernel_rfl
  obtain rfl := Option.some.inj (G0.symm.trans hg0)
  obtain rfl := Option.some.inj (G1.symm.trans hg1)
  obtain rfl := Option.some.inj ((show (Tryd.prog.globals[0]?).map (·.type) = some 86 by kernel_rfl).symm.trans ht0)
  obtain rfl := Option.some.inj ((show (Tryd.prog.globals[1]?).map (·.type) = some 87 by kernel_rfl).symm.trans ht1)
  exact ⟨tab_at G0 (show Tryd.prog.underlying 86 = some (.array 32 5) by kernel_rfl) (by kernel_rfl) hv0 hd0, tab_at G1 (show Tryd.prog.underlying 87 = some (.array 64 5) by kernel_rfl) (by kernel_rfl) hv1 hd1⟩
end Go.Proofs.YtfcagbgnlibfpaaDoor.A
