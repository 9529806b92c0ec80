/- num: the reference's function Two, as plain data: printed by the kit's tool (print.sh), cut in two here. -/
import Derived.Test.YtfcagbgnlibfpaaDoorPNumTwox0
import Derived.Test.YtfcagbgnlibfpaaDoorPNumTwox2
import Derived.Test.YtfcagbgnlibfpaaDoorPNumTwox3
import Derived.Test.YtfcagbgnlibfpaaDoorPNumTwox4
namespace Go.Proofs.YtfcagbgnlibfpaaDoor.PNumTwo
open Go.RowKit Go.Proofs.YtfcagbgnlibfpaaDoorW.PrintWords Go.Proofs.YtfcagbgnlibfpaaDoorW.PrintLast Go.Proofs.YtfcagbgnlibfpaaDoorW.PrintMore
attribute [local go_sem] max2_int min2_int max_two min_two max_three min_three max_four min_four   -- for this text's walks alone
set_option linter.unusedVariables false
set_option linter.unusedSimpArgs false

/-! ### geoderef03_Two: function 11 -/
mutual
def geoderef03_Two.j0 : Nat → Int → Int → Int → Bool → Int → Int → Int → Int → Option (Int × Int)
  | 0, _, _, _, _, _, _, _, _ => none
  | k + 1, x1, x2, x9, x36, x137000, x137001, x137002, x137003 => if x36 = true then (some (0, 2)) else (if x137000 < 20 then ((geoderef03_asks.f k x137000 x9 x1 x2).bind fun t139 => ((geoderef03_yes.f t139).bind fun t140 => (some (t140, 0)))) else (if x137000 ≥ 23 then (if x137000 ≤ 26 then (geoderef03_Two.j1 k x1 x2 x9 (x2 == 0) x137000 x137001 x137002 x137003) else (geoderef03_Two.j1 k x1 x2 x9 false x137000 x137001 x137002 x137003)) else (geoderef03_Two.j1 k x1 x2 x9 false x137000 x137001 x137002 x137003)))
def geoderef03_Two.j1 : Nat → Int → Int → Int → Bool → Int → Int → Int → Int → Option (Int × Int)
  | 0, _, _, _, _, _, _, _, _ => none
  | k + 1, x1, x2, x9, x58, x137000, x137001, x137002, x137003 => if x58 = true then (some (0, 30)) else ((geoderef03_Bits.f k x1 x9).bind fun t141 => ((geoderef03_Bits.f k x2 x9).bind fun t144 => (if (IntKind.u64.wrap (x9)) = 0 then (none) else (if 0 ≤ x9 then (if (x9 : Int).toNat ≤ 35184372088832 then ((some (List.replicate (x9 : Int).toNat 0 : List Int)).bind fun y147 => (if x137000 = 20 then ((geoderef03_cut.f k (IntKind.u64.wrap (x1 + x2)) x9).bind fun t150 => (some (t150, 0))) else (if x137000 = 21 then ((geoderef03_cut.f k (IntKind.u64.wrap (x1 - x2)) x9).bind fun t151 => (some (t151, 0))) else (if x137000 = 22 then ((geoderef03_cut.f k (IntKind.u64.wrap (x1 * x2)) x9).bind fun t152 => (some (t152, 0))) else (if x137000 = 23 then (geoderef03_Two.j2 k x1 x2 x9 t141 t144 (wrap64 (Int.tmod x2 (IntKind.u64.wrap (x9)))) y147 x137000 (x137000 == 23) x137000 x137001 x137002 x137003) else (geoderef03_Two.j2 k x1 x2 x9 t141 t144 (wrap64 (Int.tmod x2 (IntKind.u64.wrap (x9)))) y147 x137000 (x137000 == 25) x137000 x137001 x137002 x137003)))))) else (none)) else (none)))))
def geoderef03_Two.j2 : Nat → Int → Int → Int → List Int → List Int → Int → List Int → Int → Bool → Int → Int → Int → Int → Option (Int × Int)
  | 0, _, _, _, _, _, _, _, _, _, _, _, _, _ => none
  | k + 1, x1, x2, x9, x10, x11, x12, x13, x73, x95, x137000, x137001, x137002, x137003 => if x95 = true then ((geoderef03_divide.f k x9 x1 x2).bind fun bt153 => (if x137000 = 25 then (some (bt153.2.1, 0)) else (if bt153.2.2 = true then (some (0, 31)) else (some (bt153.1, 0))))) else (if x73 = 24 then (if x2 = 0 then (none) else (some (IntKind.u64.wrap (Int.tdiv x1 x2), 0))) else (if x73 = 26 then (if x2 = 0 then (none) else (some (Int.tmod x1 x2, 0))) else (geoderef03_Two.l0 k x9 x10 x11 x12 x13 0 x137000 x137001 x137002 x137003)))
def geoderef03_Two.l0 : Nat → Int → List Int → List Int → Int → List Int → Int → Int → Int → Int → Int → Option (Int × Int)
  | 0, _, _, _, _, _, _, _, _, _, _ => none
  | k + 1, x9, x10, x11, x12, x13, x17, x137000, x137001, x137002, x137003 => if x17 < x9 then (if x137000 = 27 then (if 0 ≤ x17 then (if x17 < (x10.length : Int) then (if x17 < (x11.length : Int) then (if x17 < (x13.length : Int) then (geoderef03_Two.l0 k x9 x10 x11 x12 (x13.set (x17 : Int).toNat (wrap64 ((rd x10 x17) * (rd x11 x17)))) (wrap64 (x17 + 1)) x137000 x137001 x137002 x137003) else (none)) else (none)) else (none)) else (none)) else (if x137000 = 28 then (if 0 ≤ x17 then (if x17 < (x10.length : Int) then (if x17 < (x11.length : Int) then (if x17 < (x13.length : Int) then (geoderef03_Two.l0 k x9 x10 x11 x12 (x13.set (x17 : Int).toNat (wrap64 (Int.tdiv (wrap64 ((wrap64 ((rd x10 x17) + (rd x11 x17))) + 1)) 2))) (wrap64 (x17 + 1)) x137000 x137001 x137002 x137003) else (none)) else (none)) else (none)) else (none)) else (if x137000 = 29 then (if 0 ≤ x17 then (if x17 < (x10.length : Int) then (if x17 < (x11.length : Int) then (if x17 < (x13.length : Int) then (geoderef03_Two.l0 k x9 x10 x11 x12 (x13.set (x17 : Int).toNat (Int.tmod (wrap64 ((rd x10 x17) + (rd x11 x17))) 2)) (wrap64 (x17 + 1)) x137000 x137001 x137002 x137003) else (none)) else (none)) else (none)) else (none)) else (if x137000 = 30 then (if x17 ≥ x12 then (if 0 ≤ (wrap64 (x17 - x12)) then (if (wrap64 (x17 - x12)) < (x10.length : Int) then (if 0 ≤ x17 then (if x17 < (x13.length : Int) then (geoderef03_Two.l0 k x9 x10 x11 x12 (x13.set (x17 : Int).toNat (rd x10 (wrap64 (x17 - x12)))) (wrap64 (x17 + 1)) x137000 x137001 x137002 x137003) else (none)) else (none)) else (none)) else (none)) else (geoderef03_Two.l0 k x9 x10 x11 x12 x13 (wrap64 (x17 + 1)) x137000 x137001 x137002 x137003)) else (if x137000 = 31 then (geoderef03_Two.j4 k x9 x10 x11 x12 x13 x17 x137000 (x137000 == 31) x137000 x137001 x137002 x137003) else (geoderef03_Two.j4 k x9 x10 x11 x12 x13 x17 x137000 (x137000 == 32) x137000 x137001 x137002 x137003)))))) else ((geoderef03_Number.f k x13).bind fun t156 => (some (t156, 0)))
def geoderef03_Two.j4 : Nat → Int → List Int → List Int → Int → List Int → Int → Int → Bool → Int → Int → Int → Int → Option (Int × Int)
  | 0, _, _, _, _, _, _, _, _, _, _, _, _ => none
  | k + 1, x9, x10, x11, x12, x13, x17, x128, x188, x137000, x137001, x137002, x137003 => if x188 = true then (if (wrap64 (x17 + x12)) < x9 then (if 0 ≤ (wrap64 (x17 + x12)) then (if (wrap64 (x17 + x12)) < (x10.length : Int) then (if 0 ≤ x17 then (if x17 < (x13.length : Int) then (geoderef03_Two.l0 k x9 x10 x11 x12 (x13.set (x17 : Int).toNat (rd x10 (wrap64 (x17 + x12)))) (wrap64 (x17 + 1)) x137000 x137001 x137002 x137003) else (none)) else (none)) else (none)) else (none)) else (if x137000 = 31 then (if 0 ≤ (wrap64 (x9 - 1)) then (if (wrap64 (x9 - 1)) < (x10.length : Int) then (if 0 ≤ x17 then (if x17 < (x13.length : Int) then (geoderef03_Two.l0 k x9 x10 x11 x12 (x13.set (x17 : Int).toNat (rd x10 (wrap64 (x9 - 1)))) (wrap64 (x17 + 1)) x137000 x137001 x137002 x137003) else (none)) else (none)) else (none)) else (none)) else (geoderef03_Two.l0 k x9 x10 x11 x12 x13 (wrap64 (x17 + 1)) x137000 x137001 x137002 x137003))) else (if x128 = 33 then (if x9 = 0 then (none) else (if 0 ≤ (Int.tmod (wrap64 ((wrap64 (x17 + x9)) - x12)) x9) then (if (Int.tmod (wrap64 ((wrap64 (x17 + x9)) - x12)) x9) < (x10.length : Int) then (if 0 ≤ x17 then (if x17 < (x13.length : Int) then (geoderef03_Two.l0 k x9 x10 x11 x12 (x13.set (x17 : Int).toNat (rd x10 (Int.tmod (wrap64 ((wrap64 (x17 + x9)) - x12)) x9))) (wrap64 (x17 + 1)) x137000 x137001 x137002 x137003) else (none)) else (none)) else (none)) else (none))) else (if x128 = 34 then (if x9 = 0 then (none) else (if 0 ≤ (Int.tmod (wrap64 (x17 + x12)) x9) then (if (Int.tmod (wrap64 (x17 + x12)) x9) < (x10.length : Int) then (if 0 ≤ x17 then (if x17 < (x13.length : Int) then (geoderef03_Two.l0 k x9 x10 x11 x12 (x13.set (x17 : Int).toNat (rd x10 (Int.tmod (wrap64 (x17 + x12)) x9))) (wrap64 (x17 + 1)) x137000 x137001 x137002 x137003) else (none)) else (none)) else (none)) else (none))) else (geoderef03_Two.l0 k x9 x10 x11 x12 x13 (wrap64 (x17 + 1)) x137000 x137001 x137002 x137003)))
end
def geoderef03_Two.f (k : Nat) (a0 : Int) (a1 : Int) (a2 : Int) : Option (Int × Int) := (geoderef03_Of.f k a0).bind fun bt132 => (if bt132.2.2.2 = 2 then ((geoderef03_Fits.f k a1 bt132.2.1).bind fun t137 => (if t137 = true then ((geoderef03_Fits.f k a2 bt132.2.1).bind fun t138 => (geoderef03_Two.j0 k a1 a2 bt132.2.1 (!t138) bt132.1 bt132.2.1 bt132.2.2.1 bt132.2.2.2)) else (geoderef03_Two.j0 k a1 a2 bt132.2.1 true bt132.1 bt132.2.1 bt132.2.2.1 bt132.2.2.2))) else (geoderef03_Two.j0 k a1 a2 bt132.2.1 true bt132.1 bt132.2.1 bt132.2.2.1 bt132.2.2.2))
theorem geoderef03_Two.mono_l : ∀ k, (∀ y0 y1 y2 y3 y4 y5 y6 y7, LeO (geoderef03_Two.j0 k y0 y1 y2 y3 y4 y5 y6 y7) (geoderef03_Two.j0 (k + 1) y0 y1 y2 y3 y4 y5 y6 y7)) ∧ (∀ y0 y1 y2 y3 y4 y5 y6 y7, LeO (geoderef03_Two.j1 k y0 y1 y2 y3 y4 y5 y6 y7) (geoderef03_Two.j1 (k + 1) y0 y1 y2 y3 y4 y5 y6 y7)) ∧ (∀ y0 y1 y2 y3 y4 y5 y6 y7 y8 y9 y10 y11 y12, LeO (geoderef03_Two.j2 k y0 y1 y2 y3 y4 y5 y6 y7 y8 y9 y10 y11 y12) (geoderef03_Two.j2 (k + 1) y0 y1 y2 y3 y4 y5 y6 y7 y8 y9 y10 y11 y12)) ∧ (∀ y0 y1 y2 y3 y4 y5 y6 y7 y8 y9, LeO (geoderef03_Two.l0 k y0 y1 y2 y3 y4 y5 y6 y7 y8 y9) (geoderef03_Two.l0 (k + 1) y0 y1 y2 y3 y4 y5 y6 y7 y8 y9)) ∧ (∀ y0 y1 y2 y3 y4 y5 y6 y7 y8 y9 y10 y11, LeO (geoderef03_Two.j4 k y0 y1 y2 y3 y4 y5 y6 y7 y8 y9 y10 y11) (geoderef03_Two.j4 (k + 1) y0 y1 y2 y3 y4 y5 y6 y7 y8 y9 y10 y11))
  | 0 => ⟨fun _ _ _ _ _ _ _ _ r h => by simp [geoderef03_Two.j0] at h, fun _ _ _ _ _ _ _ _ r h => by simp [geoderef03_Two.j1] at h, fun _ _ _ _ _ _ _ _ _ _ _ _ _ r h => by simp [geoderef03_Two.j2] at h, fun _ _ _ _ _ _ _ _ _ _ r h => by simp [geoderef03_Two.l0] at h, fun _ _ _ _ _ _ _ _ _ _ _ _ r h => by simp [geoderef03_Two.j4] at h⟩
  | k + 1 => by
    obtain ⟨ih0, ih1, ih2, ih3, ih4⟩ := geoderef03_Two.mono_l k
    refine ⟨?_, ?_, ?_, ?_, ?_⟩
    · intro y0 y1 y2 y3 y4 y5 y6 y7
      unfold geoderef03_Two.j0
      repeat' first
      | (with_reducible exact ih0 _ _ _ _ _ _ _ _)
      | (with_reducible exact ih1 _ _ _ _ _ _ _ _)
      | (with_reducible exact ih2 _ _ _ _ _ _ _ _ _ _ _ _ _)
      | (with_reducible exact ih3 _ _ _ _ _ _ _ _ _ _)
      | (with_reducible exact ih4 _ _ _ _ _ _ _ _ _ _ _ _)
      | (with_reducible exact geoderef03_Bits.mono _ _ _)
      | (with_reducible exact geoderef03_Fits.mono _ _ _)
      | (with_reducible exact geoderef03_Number.mono _ _)
      | (with_reducible exact geoderef03_Of.mono _ _)
      | (with_reducible exact geoderef03_asks.mono _ _ _ _ _)
      | (with_reducible exact geoderef03_cut.mono _ _ _)
      | (with_reducible exact geoderef03_divide.mono _ _ _ _)
      | (with_reducible exact LeO.refl _)
      | (with_reducible exact LeO.none _)
      | (with_reducible refine LeO.ite ?_ ?_)
      | (with_reducible refine LeO.bind ?_ (fun _ => ?_))
      | exact ih0 _ _ _ _ _ _ _ _
      | exact ih1 _ _ _ _ _ _ _ _
      | exact ih2 _ _ _ _ _ _ _ _ _ _ _ _ _
      | exact ih3 _ _ _ _ _ _ _ _ _ _
      | exact ih4 _ _ _ _ _ _ _ _ _ _ _ _
      | exact geoderef03_Bits.mono _ _ _
      | exact geoderef03_Fits.mono _ _ _
      | exact geoderef03_Number.mono _ _
      | exact geoderef03_Of.mono _ _
      | exact geoderef03_asks.mono _ _ _ _ _
      | exact geoderef03_cut.mono _ _ _
      | exact geoderef03_divide.mono _ _ _ _
      | exact LeO.none _
      | refine LeO.ite ?_ ?_
      | refine LeO.bind ?_ (fun _ => ?_)
    · intro y0 y1 y2 y3 y4 y5 y6 y7
      unfold geoderef03_Two.j1
      repeat' first
      | (with_reducible exact ih0 _ _ _ _ _ _ _ _)
      | (with_reducible exact ih1 _ _ _ _ _ _ _ _)
      | (with_reducible exact ih2 _ _ _ _ _ _ _ _ _ _ _ _ _)
      | (with_reducible exact ih3 _ _ _ _ _ _ _ _ _ _)
      | (with_reducible exact ih4 _ _ _ _ _ _ _ _ _ _ _ _)
      | (with_reducible exact geoderef03_Bits.mono _ _ _)
      | (with_reducible exact geoderef03_Fits.mono _ _ _)
      | (with_reducible exact geoderef03_Number.mono _ _)
      | (with_reducible exact geoderef03_Of.mono _ _)
      | (with_reducible exact geoderef03_asks.mono _ _ _ _ _)
      | (with_reducible exact geoderef03_cut.mono _ _ _)
      | (with_reducible exact geoderef03_divide.mono _ _ _ _)
      | (with_reducible exact LeO.refl _)
      | (with_reducible exact LeO.none _)
      | (with_reducible refine LeO.ite ?_ ?_)
      | (with_reducible refine LeO.bind ?_ (fun _ => ?_))
      | exact ih0 _ _ _ _ _ _ _ _
      | exact ih1 _ _ _ _ _ _ _ _
      | exact ih2 _ _ _ _ _ _ _ _ _ _ _ _ _
      | exact ih3 _ _ _ _ _ _ _ _ _ _
      | exact ih4 _ _ _ _ _ _ _ _ _ _ _ _
      | exact geoderef03_Bits.mono _ _ _
      | exact geoderef03_Fits.mono _ _ _
      | exact geoderef03_Number.mono _ _
      | exact geoderef03_Of.mono _ _
      | exact geoderef03_asks.mono _ _ _ _ _
      | exact geoderef03_cut.mono _ _ _
      | exact geoderef03_divide.mono _ _ _ _
      | exact LeO.none _
      | refine LeO.ite ?_ ?_
      | refine LeO.bind ?_ (fun _ => ?_)
    · intro y0 y1 y2 y3 y4 y5 y6 y7 y8 y9 y10 y11 y12
      unfold geoderef03_Two.j2
      repeat' first
      | (with_reducible exact ih0 _ _ _ _ _ _ _ _)
      | (with_reducible exact ih1 _ _ _ _ _ _ _ _)
      | (with_reducible exact ih2 _ _ _ _ _ _ _ _ _ _ _ _ _)
      | (with_reducible exact ih3 _ _ _ _ _ _ _ _ _ _)
      | (with_reducible exact ih4 _ _ _ _ _ _ _ _ _ _ _ _)
      | (with_reducible exact geoderef03_Bits.mono _ _ _)
      | (with_reducible exact geoderef03_Fits.mono _ _ _)
      | (with_reducible exact geoderef03_Number.mono _ _)
      | (with_reducible exact geoderef03_Of.mono _ _)
      | (with_reducible exact geoderef03_asks.mono _ _ _ _ _)
      | (with_reducible exact geoderef03_cut.mono _ _ _)
      | (with_reducible exact geoderef03_divide.mono _ _ _ _)
      | (with_reducible exact LeO.refl _)
      | (with_reducible exact LeO.none _)
      | (with_reducible refine LeO.ite ?_ ?_)
      | (with_reducible refine LeO.bind ?_ (fun _ => ?_))
      | exact ih0 _ _ _ _ _ _ _ _
      | exact ih1 _ _ _ _ _ _ _ _
      | exact ih2 _ _ _ _ _ _ _ _ _ _ _ _ _
      | exact ih3 _ _ _ _ _ _ _ _ _ _
      | exact ih4 _ _ _ _ _ _ _ _ _ _ _ _
      | exact geoderef03_Bits.mono _ _ _
      | exact geoderef03_Fits.mono _ _ _
      | exact geoderef03_Number.mono _ _
      | exact geoderef03_Of.mono _ _
      | exact geoderef03_asks.mono _ _ _ _ _
      | exact geoderef03_cut.mono _ _ _
      | exact geoderef03_divide.mono _ _ _ _
      | exact LeO.none _
      | refine LeO.ite ?_ ?_
      | refine LeO.bind ?_ (fun _ => ?_)
    · intro y0 y1 y2 y3 y4 y5 y6 y7 y8 y9
      unfold geoderef03_Two.l0
      repeat' first
      | (with_reducible exact ih0 _ _ _ _ _ _ _ _)
      | (with_reducible exact ih1 _ _ _ _ _ _ _ _)
      | (with_reducible exact ih2 _ _ _ _ _ _ _ _ _ _ _ _ _)
      | (with_reducible exact ih3 _ _ _ _ _ _ _ _ _ _)
      | (with_reducible exact ih4 _ _ _ _ _ _ _ _ _ _ _ _)
      | (with_reducible exact geoderef03_Bits.mono _ _ _)
      | (with_reducible exact geoderef03_Fits.mono _ _ _)
      | (with_reducible exact geoderef03_Number.mono _ _)
      | (with_reducible exact geoderef03_Of.mono _ _)
      | (with_reducible exact geoderef03_asks.mono _ _ _ _ _)
      | (with_reducible exact geoderef03_cut.mono _ _ _)
      | (with_reducible exact geoderef03_divide.mono _ _ _ _)
      | (with_reducible exact LeO.refl _)
      | (with_reducible exact LeO.none _)
      | (with_reducible refine LeO.ite ?_ ?_)
      | (with_reducible refine LeO.bind ?_ (fun _ => ?_))
      | exact ih0 _ _ _ _ _ _ _ _
      | exact ih1 _ _ _ _ _ _ _ _
      | exact ih2 _ _ _ _ _ _ _ _ _ _ _ _ _
      | exact ih3 _ _ _ _ _ _ _ _ _ _
      | exact ih4 _ _ _ _ _ _ _ _ _ _ _ _
      | exact geoderef03_Bits.mono _ _ _
      | exact geoderef03_Fits.mono _ _ _
      | exact geoderef03_Number.mono _ _
      | exact geoderef03_Of.mono _ _
      | exact geoderef03_asks.mono _ _ _ _ _
      | exact geoderef03_cut.mono _ _ _
      | exact geoderef03_divide.mono _ _ _ _
      | exact LeO.none _
      | refine LeO.ite ?_ ?_
      | refine LeO.bind ?_ (fun _ => ?_)
    · intro y0 y1 y2 y3 y4 y5 y6 y7 y8 y9 y10 y11
      unfold geoderef03_Two.j4
      repeat' first
      | (with_reducible exact ih0 _ _ _ _ _ _ _ _)
      | (with_reducible exact ih1 _ _ _ _ _ _ _ _)
      | (with_reducible exact ih2 _ _ _ _ _ _ _ _ _ _ _ _ _)
      | (with_reducible exact ih3 _ _ _ _ _ _ _ _ _ _)
      | (with_reducible exact ih4 _ _ _ _ _ _ _ _ _ _ _ _)
      | (with_reducible exact geoderef03_Bits.mono _ _ _)
      | (with_reducible exact geoderef03_Fits.mono _ _ _)
      | (with_reducible exact geoderef03_Number.mono _ _)
      | (with_reducible exact geoderef03_Of.mono _ _)
      | (with_reducible exact geoderef03_asks.mono _ _ _ _ _)
      | (with_reducible exact geoderef03_cut.mono _ _ _)
      | (with_reducible exact geoderef03_divide.mono _ _ _ _)
      | (with_reducible exact LeO.refl _)
      | (with_reducible exact LeO.none _)
      | (with_reducible refine LeO.ite ?_ ?_)
      | (with_reducible refine LeO.bind ?_ (fun _ => ?_))
      | exact ih0 _ _ _ _ _ _ _ _
      | exact ih1 _ _ _ _ _ _ _ _
      | exact ih2 _ _ _ _ _ _ _ _ _ _ _ _ _
      | exact ih3 _ _ _ _ _ _ _ _ _ _
      | exact ih4 _ _ _ _ _ _ _ _ _ _ _ _
      | exact geoderef03_Bits.mono _ _ _
      | exact geoderef03_Fits.mono _ _ _
      | exact geoderef03_Number.mono _ _
      | exact geoderef03_Of.mono _ _
      | exact geoderef03_asks.mono _ _ _ _ _
      | exact geoderef03_cut.mono _ _ _
      | exact geoderef03_divide.mono _ _ _ _
      | exact LeO.none _
      | refine LeO.ite ?_ ?_
      | refine LeO.bind ?_ (fun _ => ?_)
theorem geoderef03_Two.mono : ∀ a0 a1 a2 k, LeO (geoderef03_Two.f k a0 a1 a2) (geoderef03_Two.f (k + 1) a0 a1 a2) := by
  intro a0 a1 a2 k
  obtain ⟨ih0, ih1, ih2, ih3, ih4⟩ := geoderef03_Two.mono_l k
  unfold geoderef03_Two.f
  repeat' first
      | (with_reducible exact ih0 _ _ _ _ _ _ _ _)
      | (with_reducible exact ih1 _ _ _ _ _ _ _ _)
      | (with_reducible exact ih2 _ _ _ _ _ _ _ _ _ _ _ _ _)
      | (with_reducible exact ih3 _ _ _ _ _ _ _ _ _ _)
      | (with_reducible exact ih4 _ _ _ _ _ _ _ _ _ _ _ _)
      | (with_reducible exact geoderef03_Bits.mono _ _ _)
      | (with_reducible exact geoderef03_Fits.mono _ _ _)
      | (with_reducible exact geoderef03_Number.mono _ _)
      | (with_reducible exact geoderef03_Of.mono _ _)
      | (with_reducible exact geoderef03_asks.mono _ _ _ _ _)
      | (with_reducible exact geoderef03_cut.mono _ _ _)
      | (with_reducible exact geoderef03_divide.mono _ _ _ _)
      | (with_reducible exact LeO.refl _)
      | (with_reducible exact LeO.none _)
      | (with_reducible refine LeO.ite ?_ ?_)
      | (with_reducible refine LeO.bind ?_ (fun _ => ?_))
      | exact ih0 _ _ _ _ _ _ _ _
      | exact ih1 _ _ _ _ _ _ _ _
      | exact ih2 _ _ _ _ _ _ _ _ _ _ _ _ _
      | exact ih3 _ _ _ _ _ _ _ _ _ _
      | exact ih4 _ _ _ _ _ _ _ _ _ _ _ _
      | exact geoderef03_Bits.mono _ _ _
      | exact geoderef03_Fits.mono _ _ _
      | exact geoderef03_Number.mono _ _
      | exact geoderef03_Of.mono _ _
      | exact geoderef03_asks.mono _ _ _ _ _
      | exact geoderef03_cut.mono _ _ _
      | exact geoderef03_divide.mono _ _ _ _
      | exact LeO.none _
      | refine LeO.ite ?_ ?_
      | refine LeO.bind ?_ (fun _ => ?_)
def geoderef03_Two.T37 : Bool × List (List Nat × List Nat) := (true, [([], []), ([], []), ([], []), ([], []), ([2, 3], [2, 3]), ([4], [4]), ([], []), ([], []), ([6, 7], [6, 7]), ([8], [8]), ([5, 9], [5, 9]), ([0, 1, 0, 1, 2, 3, 4, 5, 6, 7, 8, 9, 10], [0, 1]), ([11, 10, 0, 1, 2, 3, 4, 5, 6, 7, 8, 9, 10], [10, 11])])
def geoderef03_Two.B37 : List Nat := [0, 0, 0, 0, 12, 28, 0, 0, 192, 448, 1020, 2047, 4095]
theorem geoderef03_Two.tab37 : rtab .any (opsOf Tryd.f11 37) = geoderef03_Two.T37 := by kernel_rfl
theorem geoderef03_Two.bits37 : waitsOk geoderef03_Two.T37.2 geoderef03_Two.B37 = true := by kernel_rfl
def geoderef03_Two.T39 : Bool × List (List Nat × List Nat) := (true, [([], []), ([], []), ([], []), ([], []), ([2, 3], [2, 3]), ([4], [4]), ([], []), ([], []), ([6, 7], [6, 7]), ([8], [8]), ([5, 9], [5, 9]), ([10], [10]), ([11], [11]), ([0, 1, 0, 1, 2, 3, 4, 5, 6, 7, 8, 9, 10, 11, 12], [0, 1]), ([13, 12, 0, 1, 2, 3, 4, 5, 6, 7, 8, 9, 10, 11, 12], [12, 13])])
def geoderef03_Two.B39 : List Nat := [0, 0, 0, 0, 12, 28, 0, 0, 192, 448, 1020, 2044, 4092, 8191, 16383]
theorem geoderef03_Two.tab39 : rtab .any (opsOf Tryd.f11 39) = geoderef03_Two.T39 := by kernel_rfl
theorem geoderef03_Two.bits39 : waitsOk geoderef03_Two.T39.2 geoderef03_Two.B39 = true := by kernel_rfl
def geoderef03_Two.T41 : Bool × List (List Nat × List Nat) := (true, [([], []), ([], []), ([], []), ([], []), ([2, 3], [2, 3]), ([4], [4]), ([], []), ([], []), ([6, 7], [6, 7]), ([8], [8]), ([5, 9], [5, 9]), ([10], [10]), ([0, 1, 0, 1, 2, 3, 4, 5, 6, 7, 8, 9, 10, 11], [0, 1]), ([12, 11, 0, 1, 2, 3, 4, 5, 6, 7, 8, 9, 10, 11], [11, 12])])
def geoderef03_Two.B41 : List Nat := [0, 0, 0, 0, 12, 28, 0, 0, 192, 448, 1020, 2044, 4095, 8191]
theorem geoderef03_Two.tab41 : rtab .any (opsOf Tryd.f11 41) = geoderef03_Two.T41 := by kernel_rfl
theorem geoderef03_Two.bits41 : waitsOk geoderef03_Two.T41.2 geoderef03_Two.B41 = true := by kernel_rfl
end Go.Proofs.YtfcagbgnlibfpaaDoor.PNumTwo
