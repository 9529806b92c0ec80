/- num: the closures that 'twos' hands back, by their place: what they answer, in the words of the plain text; what 'twos' hands back. -/
import Derived.Test.YtfcagbgnlibfpaaDoorD
import Derived.Test.YtfcagbgnlibfpaaDoorU
namespace Go.Proofs.YtfcagbgnlibfpaaDoor.A
open Go.ChangeShapes Go.WideShapes Go.ChangeAt Go.RowKit Go.Proofs.YtfcagbgnlibfpaaDoor.S
set_option linter.unusedVariables false
set_option linter.unusedSimpArgs false

def askF (i : Nat) : Nat := if i = 2 ∨ i = 4 ∨ i = 6 ∨ i = 8 then 92 else 91
def askK (i : Nat) : Nat := [59, 60, 62, 63, 64, 65, 66, 67, 68, 69].getD i 0
def sumF (i : Nat) : Nat := if i = 3 ∨ i = 4 then 71 else if i = 5 ∨ i = 6 then 74 else 93
def fnV (k : Nat) : Value := .func (.func k) #[] #[]
def sumBox (i y : Nat) : Value := [fnV 77, fnV 78, fnV 79, .bool true, .bool false, .bool true, .bool false, fnV 80, fnV 81, fnV 82, fnV 83, fnV 84, fnV 86, .func (.func 87) #[] #[.pointer (some ⟨y, 0, none⟩)], .func (.func 88) #[] #[.pointer (some ⟨y, 0, none⟩)]].getD i undef
/-- The i-th of the first list: a closure over block x. -/
def CloA (i f x : Nat) (w : World) : Prop := i < 10 ∧ f = askF i ∧ w.cell? ⟨x, 0, none⟩ = some (fnV (askK i))
/-- The i-th of the second list: a closure over block x, and perhaps y. -/
def CloS (i f x y : Nat) (w : World) : Prop := i < 15 ∧ f = sumF i ∧ w.cell? ⟨x, 0, none⟩ = some (sumBox i y) ∧ w.cell? ⟨y, 0, none⟩ = some (fnV 75)

theorem cell_below {w w' : World} (hb : Below w.heap.size w w') {x : Nat} {v : Value} (h : w.cell? ⟨x, 0, none⟩ = some v) : w'.cell? ⟨x, 0, none⟩ = some v := by
  rw [hb.cell (p := ⟨x, 0, none⟩) (World.block_lt_of_cell? w _ h)]; exact h
theorem CloA.below {i f x : Nat} {w w' : World} (h : CloA i f x w) (hb : Below w.heap.size w w') : CloA i f x w' := ⟨h.1, h.2.1, cell_below hb h.2.2⟩
theorem CloS.below {i f x y : Nat} {w w' : World} (h : CloS i f x y w) (hb : Below w.heap.size w w') : CloS i f x y w' := ⟨h.1, h.2.1, cell_below hb h.2.2.1, cell_below hb h.2.2.2⟩
theorem CloA.fn {i f x : Nat} {w : World} (h : CloA i f x w) : f = 91 ∨ f = 92 := by have := h.2.1; unfold askF at this; split at this <;> omega
theorem CloS.fn {i f x y : Nat} {w : World} (h : CloS i f x y w) : f = 71 ∨ f = 74 ∨ f = 93 := by have := h.2.1; unfold sumF at this; rw [this]; split <;> (try split) <;> simp

theorem cloA_64 {i f x : Nat} {w : World} (h : CloA i f x w) (a b : Int) (h0 : 0 ≤ a) (h1 : a < 18446744073709551616) (g0 : 0 ≤ b) (g1 : b < 18446744073709551616) :
    Calls Tryd.prog f #[.int .i64 64, .int .u64 a, .int .u64 b, .pointer (some ⟨x, 0, none⟩)] w fun e w' => e = .returned (.tuple #[.int .u64 (askI 64 i a b), .int .i64 0]) ∧ ∃ n, w' = w.drewN n := by
  obtain ⟨hi, rfl, hx⟩ := h
  match i, hi with
  | 0, _ => rw [ask0_64 a b h0 h1 g0 g1]; exact c_ask0_64 a b h0 h1 g0 g1 x w hx
  | 1, _ => rw [ask1_64 a b h0 h1 g0 g1]; exact c_ask1_64 a b h0 h1 g0 g1 x w hx
  | 2, _ => rw [ask2_64 a b h0 h1 g0 g1]; exact c_ask2_64 a b h0 h1 g0 g1 x w hx
  | 3, _ => rw [ask3_64 a b h0 h1 g0 g1]; exact c_ask3_64 a b h0 h1 g0 g1 x w hx
  | 4, _ => rw [ask4_64 a b h0 h1 g0 g1]; exact c_ask4_64 a b h0 h1 g0 g1 x w hx
  | 5, _ => rw [ask5_64 a b h0 h1 g0 g1]; exact c_ask5_64 a b h0 h1 g0 g1 x w hx
  | 6, _ => rw [ask6_64 a b h0 h1 g0 g1]; exact c_ask6_64 a b h0 h1 g0 g1 x w hx
  | 7, _ => rw [ask7_64 a b h0 h1 g0 g1]; exact c_ask7_64 a b h0 h1 g0 g1 x w hx
  | 8, _ => rw [ask8_64 a b h0 h1 g0 g1]; exact c_ask8_64 a b h0 h1 g0 g1 x w hx
  | 9, _ => rw [ask9_64 a b h0 h1 g0 g1]; exact c_ask9_64 a b h0 h1 g0 g1 x w hx

theorem cloS_64 {i f x y : Nat} {w : World} (h : CloS i f x y w) (a b : Int) (h0 : 0 ≤ a) (h1 : a < 18446744073709551616) (g0 : 0 ≤ b) (g1 : b < 18446744073709551616) :
    Calls Tryd.prog f #[.int .i64 64, .int .u64 a, .int .u64 b, .pointer (some ⟨x, 0, none⟩)] w fun e w' => e = .returned (.tuple #[.int .u64 (sumI 64 i a b), .int .i64 (errI 64 i a b)]) ∧ ∃ n, w' = w.drewN n := by
  obtain ⟨hi, rfl, hx, hy⟩ := h
  match i, hi with
  | 0, _ => rw [sum0_64 a b, err_0 (by omega)]; exact c_add64 a b h0 h1 g0 g1 x w hx
  | 1, _ => rw [sum1_64 a b, err_0 (by omega)]; exact c_sub64 a b h0 h1 g0 g1 x w hx
  | 2, _ => rw [sum2_64 a b, err_0 (by omega)]; exact c_mul64 a b h0 h1 g0 g1 x w hx
  | 3, _ =>
    rcases Int.lt_or_le b 1 with hb | hb
    · obtain rfl : b = 0 := by omega
      rw [(div_z64 a 3 (by omega)).1, (div_z64 a 3 (by omega)).2]; exact c_quoz64 a true x w hx
    · by_cases hn : b = 18446744073709551615
      · subst hn
        by_cases ha : a = 9223372036854775808
        · subst ha
          rw [div_o64.1, div_o64.2]; exact c_quoo64 x w hx
        · have D := S.div_s64 a 18446744073709551615 h0 h1 g0 g1 hb (fun h => ha h.1)
          rw [D.1, D.2, sg_neg64, Int.tdiv_neg, Int.tdiv_one]; exact c_quon64 a h0 h1 ha x w hx
      · have D := S.div_s64 a b h0 h1 g0 g1 hb (fun h => hn h.2)
        rw [D.1, D.2]
        have e : wrap64 ((sg64 a).tdiv (sg64 b)) % 18446744073709551616 = (sg64 a).tdiv (sg64 b) % 18446744073709551616 := by unfold wrap64; omega
        rw [← e]
        exact c_quos64 a b h0 h1 g0 g1 x w hb (by omega) hx
  | 4, _ =>
    rcases Int.lt_or_le b 1 with hb | hb
    · obtain rfl : b = 0 := by omega
      rw [(div_z64 a 4 (by omega)).1, (div_z64 a 4 (by omega)).2]; exact c_quoz64 a false x w hx
    · have D := S.div_u64 a b h0 h1 g0 g1 hb
      rw [D.1, D.2.1]; exact c_quou64 a b h0 h1 g0 g1 x w hb hx
  | 5, _ =>
    rcases Int.lt_or_le b 1 with hb | hb
    · obtain rfl : b = 0 := by omega
      rw [(div_z64 a 5 (by omega)).1, (div_z64 a 5 (by omega)).2]; exact c_restz64 a true x w hx
    · by_cases hn : b = 18446744073709551615
      · subst hn
        by_cases ha : a = 9223372036854775808
        · subst ha
          have D := rem_s64 9223372036854775808 18446744073709551615 h0 h1 g0 g1 hb
          rw [D.1, D.2, show (sg64 9223372036854775808).tmod (sg64 18446744073709551615) % 18446744073709551616 = 0 by decide]; exact c_resto64 x w hx
        · have D := rem_s64 a 18446744073709551615 h0 h1 g0 g1 hb
          rw [D.1, D.2, sg_neg64, Int.tmod_neg, Int.tmod_one]; exact c_restn64 a h0 h1 ha x w hx
      · have D := rem_s64 a b h0 h1 g0 g1 hb
        rw [D.1, D.2]
        exact c_rests64 a b h0 h1 g0 g1 x w hb (by omega) hx
  | 6, _ =>
    rcases Int.lt_or_le b 1 with hb | hb
    · obtain rfl : b = 0 := by omega
      rw [(div_z64 a 6 (by omega)).1, (div_z64 a 6 (by omega)).2]; exact c_restz64 a false x w hx
    · have D := S.div_u64 a b h0 h1 g0 g1 hb
      rw [D.2.2.1, D.2.2.2]; exact c_restu64 a b h0 h1 g0 g1 x w hb hx
  | 7, _ => rw [sum7_64 a b h0 h1 g0 g1, err_0 (by omega)]; exact c_and64 a b h0 h1 g0 g1 x w hx
  | 8, _ => rw [sum8_64 a b h0 h1 g0 g1, err_0 (by omega)]; exact c_or64 a b h0 h1 g0 g1 x w hx
  | 9, _ => rw [sum9_64 a b h0 h1 g0 g1, err_0 (by omega)]; exact c_xor64 a b h0 h1 g0 g1 x w hx
  | 10, _ => rw [sum10_64 a b h0 h1 g0 g1, err_0 (by omega)]; exact c_shl64 a b h0 h1 g0 g1 x w hx
  | 11, _ => rw [sum11_64 a b h0 h1 g0 g1, err_0 (by omega)]; exact c_shrs64 a b h0 h1 g0 g1 x w hx
  | 12, _ => rw [sum12_64 a b h0 h1 g0 g1, err_0 (by omega)]; exact c_shru64 a b h0 h1 g0 g1 x w hx
  | 13, _ => rw [sum13_64 a b h0 h1 g0 g1, err_0 (by omega)]; exact c_rotl64 a b h0 h1 g0 g1 x w y hx hy
  | 14, _ => rw [sum14_64 a b h0 h1 g0 g1, err_0 (by omega)]; exact c_rotr64 a b h0 h1 g0 g1 x w y hx hy

theorem cloA_32 {i f x : Nat} {w : World} (h : CloA i f x w) (a b : Int) (h0 : 0 ≤ a) (h1 : a < 4294967296) (g0 : 0 ≤ b) (g1 : b < 4294967296) :
    Calls Tryd.prog f #[.int .i64 32, .int .u64 a, .int .u64 b, .pointer (some ⟨x, 0, none⟩)] w fun e w' => e = .returned (.tuple #[.int .u64 (askI 32 i a b), .int .i64 0]) ∧ ∃ n, w' = w.drewN n := by
  obtain ⟨hi, rfl, hx⟩ := h
  match i, hi with
  | 0, _ => rw [ask0_32 a b h0 h1 g0 g1]; exact c_ask0_32 a b h0 h1 g0 g1 x w hx
  | 1, _ => rw [ask1_32 a b h0 h1 g0 g1]; exact c_ask1_32 a b h0 h1 g0 g1 x w hx
  | 2, _ => rw [ask2_32 a b h0 h1 g0 g1]; exact c_ask2_32 a b h0 h1 g0 g1 x w hx
  | 3, _ => rw [ask3_32 a b h0 h1 g0 g1]; exact c_ask3_32 a b h0 h1 g0 g1 x w hx
  | 4, _ => rw [ask4_32 a b h0 h1 g0 g1]; exact c_ask4_32 a b h0 h1 g0 g1 x w hx
  | 5, _ => rw [ask5_32 a b h0 h1 g0 g1]; exact c_ask5_32 a b h0 h1 g0 g1 x w hx
  | 6, _ => rw [ask6_32 a b h0 h1 g0 g1]; exact c_ask6_32 a b h0 h1 g0 g1 x w hx
  | 7, _ => rw [ask7_32 a b h0 h1 g0 g1]; exact c_ask7_32 a b h0 h1 g0 g1 x w hx
  | 8, _ => rw [ask8_32 a b h0 h1 g0 g1]; exact c_ask8_32 a b h0 h1 g0 g1 x w hx
  | 9, _ => rw [ask9_32 a b h0 h1 g0 g1]; exact c_ask9_32 a b h0 h1 g0 g1 x w hx

theorem cloS_32 {i f x y : Nat} {w : World} (h : CloS i f x y w) (a b : Int) (h0 : 0 ≤ a) (h1 : a < 4294967296) (g0 : 0 ≤ b) (g1 : b < 4294967296) :
    Calls Tryd.prog f #[.int .i64 32, .int .u64 a, .int .u64 b, .pointer (some ⟨x, 0, none⟩)] w fun e w' => e = .returned (.tuple #[.int .u64 (sumI 32 i a b), .int .i64 (errI 32 i a b)]) ∧ ∃ n, w' = w.drewN n := by
  obtain ⟨hi, rfl, hx, hy⟩ := h
  match i, hi with
  | 0, _ => rw [sum0_32 a b, err_0 (by omega)]; exact c_add32 a b h0 h1 g0 g1 x w hx
  | 1, _ => rw [sum1_32 a b, err_0 (by omega)]; exact c_sub32 a b h0 h1 g0 g1 x w hx
  | 2, _ => rw [sum2_32 a b, err_0 (by omega)]; exact c_mul32 a b h0 h1 g0 g1 x w hx
  | 3, _ =>
    rcases Int.lt_or_le b 1 with hb | hb
    · obtain rfl : b = 0 := by omega
      rw [(div_z32 a 3 (by omega)).1, (div_z32 a 3 (by omega)).2]; exact c_quoz32 a true x w hx
    · by_cases hn : b = 4294967295
      · subst hn
        by_cases ha : a = 2147483648
        · subst ha
          rw [div_o32.1, div_o32.2]; exact c_quoo32 x w hx
        · have D := S.div_s32 a 4294967295 h0 h1 g0 g1 hb (fun h => ha h.1)
          rw [D.1, D.2, sg_neg32, Int.tdiv_neg, Int.tdiv_one]; exact c_quon32 a h0 h1 ha x w hx
      · have D := S.div_s32 a b h0 h1 g0 g1 hb (fun h => hn h.2)
        rw [D.1, D.2]
        have e : wrap64 ((sg32 a).tdiv (sg32 b)) % 4294967296 = (sg32 a).tdiv (sg32 b) % 4294967296 := by unfold wrap64; omega
        rw [← e]
        exact c_quos32 a b h0 h1 g0 g1 x w hb (by omega) hx
  | 4, _ =>
    rcases Int.lt_or_le b 1 with hb | hb
    · obtain rfl : b = 0 := by omega
      rw [(div_z32 a 4 (by omega)).1, (div_z32 a 4 (by omega)).2]; exact c_quoz32 a false x w hx
    · have D := S.div_u32 a b h0 h1 g0 g1 hb
      rw [D.1, D.2.1]; exact c_quou32 a b h0 h1 g0 g1 x w hb hx
  | 5, _ =>
    rcases Int.lt_or_le b 1 with hb | hb
    · obtain rfl : b = 0 := by omega
      rw [(div_z32 a 5 (by omega)).1, (div_z32 a 5 (by omega)).2]; exact c_restz32 a true x w hx
    · by_cases hn : b = 4294967295
      · subst hn
        by_cases ha : a = 2147483648
        · subst ha
          have D := rem_s32 2147483648 4294967295 h0 h1 g0 g1 hb
          rw [D.1, D.2, show (sg32 2147483648).tmod (sg32 4294967295) % 4294967296 = 0 by decide]; exact c_resto32 x w hx
        · have D := rem_s32 a 4294967295 h0 h1 g0 g1 hb
          rw [D.1, D.2, sg_neg32, Int.tmod_neg, Int.tmod_one]; exact c_restn32 a h0 h1 ha x w hx
      · have D := rem_s32 a b h0 h1 g0 g1 hb
        rw [D.1, D.2]
        exact c_rests32 a b h0 h1 g0 g1 x w hb (by omega) hx
  | 6, _ =>
    rcases Int.lt_or_le b 1 with hb | hb
    · obtain rfl : b = 0 := by omega
      rw [(div_z32 a 6 (by omega)).1, (div_z32 a 6 (by omega)).2]; exact c_restz32 a false x w hx
    · have D := S.div_u32 a b h0 h1 g0 g1 hb
      rw [D.2.2.1, D.2.2.2]; exact c_restu32 a b h0 h1 g0 g1 x w hb hx
  | 7, _ => rw [sum7_32 a b h0 h1 g0 g1, err_0 (by omega)]; exact c_and32 a b h0 h1 g0 g1 x w hx
  | 8, _ => rw [sum8_32 a b h0 h1 g0 g1, err_0 (by omega)]; exact c_or32 a b h0 h1 g0 g1 x w hx
  | 9, _ => rw [sum9_32 a b h0 h1 g0 g1, err_0 (by omega)]; exact c_xor32 a b h0 h1 g0 g1 x w hx
  | 10, _ => rw [sum10_32 a b h0 h1 g0 g1, err_0 (by omega)]; exact c_shl32 a b h0 h1 g0 g1 x w hx
  | 11, _ => rw [sum11_32 a b h0 h1 g0 g1, err_0 (by omega)]; exact c_shrs32 a b h0 h1 g0 g1 x w hx
  | 12, _ => rw [sum12_32 a b h0 h1 g0 g1, err_0 (by omega)]; exact c_shru32 a b h0 h1 g0 g1 x w hx
  | 13, _ => rw [sum13_32 a b h0 h1 g0 g1, err_0 (by omega)]; exact c_rotl32 a b h0 h1 g0 g1 x w y hx hy
  | 14, _ => rw [sum14_32 a b h0 h1 g0 g1, err_0 (by omega)]; exact c_rotr32 a b h0 h1 g0 g1 x w y hx hy

/-! ### twos -/
def one1 (v : Value) (t : TypeId) : Obj := .cells #[v] t
/-- What 'twos' lays, from block s on. -/
def twObjs (s : Nat) : List Obj := [
  one1 (fnV 59) 33,
  one1 (fnV 60) 33,
  one1 (fnV 62) 79,
  one1 (fnV 63) 33,
  one1 (fnV 64) 79,
  one1 (fnV 65) 33,
  one1 (fnV 66) 79,
  one1 (fnV 67) 33,
  one1 (fnV 68) 79,
  one1 (fnV 69) 33,
  .cells #[.func (.func 91) #[] #[.pointer (some ⟨s + 0, 0, none⟩)], .func (.func 91) #[] #[.pointer (some ⟨s + 1, 0, none⟩)], .func (.func 92) #[] #[.pointer (some ⟨s + 2, 0, none⟩)], .func (.func 91) #[] #[.pointer (some ⟨s + 3, 0, none⟩)], .func (.func 92) #[] #[.pointer (some ⟨s + 4, 0, none⟩)], .func (.func 91) #[] #[.pointer (some ⟨s + 5, 0, none⟩)], .func (.func 92) #[] #[.pointer (some ⟨s + 6, 0, none⟩)], .func (.func 91) #[] #[.pointer (some ⟨s + 7, 0, none⟩)], .func (.func 92) #[] #[.pointer (some ⟨s + 8, 0, none⟩)], .func (.func 91) #[] #[.pointer (some ⟨s + 9, 0, none⟩)]] 44,
  one1 (fnV 75) 83,
  one1 (fnV 77) 83,
  one1 (fnV 78) 83,
  one1 (fnV 79) 83,
  one1 (.bool true) 4,
  one1 (.bool false) 4,
  one1 (.bool true) 4,
  one1 (.bool false) 4,
  one1 (fnV 80) 83,
  one1 (fnV 81) 83,
  one1 (fnV 82) 83,
  one1 (fnV 83) 83,
  one1 (fnV 84) 83,
  one1 (fnV 86) 83,
  one1 (.func (.func 87) #[] #[.pointer (some ⟨s + 11, 0, none⟩)]) 83,
  one1 (.func (.func 88) #[] #[.pointer (some ⟨s + 11, 0, none⟩)]) 83,
  .cells #[.func (.func 93) #[] #[.pointer (some ⟨s + 12, 0, none⟩)], .func (.func 93) #[] #[.pointer (some ⟨s + 13, 0, none⟩)], .func (.func 93) #[] #[.pointer (some ⟨s + 14, 0, none⟩)], .func (.func 71) #[] #[.pointer (some ⟨s + 15, 0, none⟩)], .func (.func 71) #[] #[.pointer (some ⟨s + 16, 0, none⟩)], .func (.func 74) #[] #[.pointer (some ⟨s + 17, 0, none⟩)], .func (.func 74) #[] #[.pointer (some ⟨s + 18, 0, none⟩)], .func (.func 93) #[] #[.pointer (some ⟨s + 19, 0, none⟩)], .func (.func 93) #[] #[.pointer (some ⟨s + 20, 0, none⟩)], .func (.func 93) #[] #[.pointer (some ⟨s + 21, 0, none⟩)], .func (.func 93) #[] #[.pointer (some ⟨s + 22, 0, none⟩)], .func (.func 93) #[] #[.pointer (some ⟨s + 23, 0, none⟩)], .func (.func 93) #[] #[.pointer (some ⟨s + 24, 0, none⟩)], .func (.func 93) #[] #[.pointer (some ⟨s + 25, 0, none⟩)], .func (.func 93) #[] #[.pointer (some ⟨s + 26, 0, none⟩)]] 44]
def allocs (w : World) (l : List Obj) : World := l.foldl World.alloc w
theorem allocs_heap (l : List Obj) : ∀ w : World, (allocs w l).heap = w.heap ++ l.toArray := by
  induction l with
  | nil => intro w; simp [allocs]
  | cons o l ih =>
    intro w
    show (allocs (w.alloc o) l).heap = _
    rw [ih]
    show (w.heap.push o) ++ l.toArray = _
    apply Array.ext'
    simp
theorem allocs_below (l : List Obj) : ∀ w : World, Below w.heap.size w (allocs w l) := by
  induction l with
  | nil => intro w; exact Below.refl _ _
  | cons o l ih => intro w; exact below_step (below_new w o) (ih (w.alloc o))
theorem allocs_at (l : List Obj) (w : World) (k : Nat) (o : Obj) (h : l[k]? = some o) : (allocs w l).heap[w.heap.size + k]? = some o := by
  rw [allocs_heap, Array.getElem?_append_right (by omega), Nat.add_sub_cancel_left, List.getElem?_toArray, h]
theorem cell_of (w : World) (b o : Nat) (c : Array Value) (t : TypeId) (h : w.heap[b]? = some (.cells c t)) : w.cell? ⟨b, o, none⟩ = c[o]? := by
  simp [World.cell?, h]

theorem ask_calls (v : Value) (k : Nat) (hv : v = fnV k) (w : World) : Calls Tryd.prog 58 #[v] w fun e w' => e = .returned (.func (.func 91) #[] #[.pointer (some ⟨w.heap.size, 0, none⟩)]) ∧ w' = w.alloc (one1 v 33) := by
  subst hv
  unfold fnV one1
  go_enter Tryd.func58, Tryd.ntmps58
  go_wp2
  go_ret
  exact ⟨rfl, rfl⟩
theorem askS_calls (v : Value) (k : Nat) (hv : v = fnV k) (w : World) : Calls Tryd.prog 61 #[v] w fun e w' => e = .returned (.func (.func 92) #[] #[.pointer (some ⟨w.heap.size, 0, none⟩)]) ∧ w' = w.alloc (one1 v 79) := by
  subst hv
  unfold fnV one1
  go_enter Tryd.func61, Tryd.ntmps61
  go_wp2
  go_ret
  exact ⟨rfl, rfl⟩
theorem do_calls (k : Nat) (cap : Array Value) (w : World) : Calls Tryd.prog 76 #[.func (.func k) #[] cap] w fun e w' => e = .returned (.func (.func 93) #[] #[.pointer (some ⟨w.heap.size, 0, none⟩)]) ∧ w' = w.alloc (.cells #[.func (.func k) #[] cap] 83) := by
  go_enter Tryd.func76, Tryd.ntmps76
  go_wp2
  go_ret
  exact ⟨rfl, rfl⟩
theorem quo_calls (c : Bool) (w : World) : Calls Tryd.prog 70 #[.bool c] w fun e w' => e = .returned (.func (.func 71) #[] #[.pointer (some ⟨w.heap.size, 0, none⟩)]) ∧ w' = w.alloc (.cells #[.bool c] 4) := by
  go_enter Tryd.func70, Tryd.ntmps70
  go_wp2
  go_ret
  exact ⟨rfl, rfl⟩
theorem rest_calls (c : Bool) (w : World) : Calls Tryd.prog 73 #[.bool c] w fun e w' => e = .returned (.func (.func 74) #[] #[.pointer (some ⟨w.heap.size, 0, none⟩)]) ∧ w' = w.alloc (.cells #[.bool c] 4) := by
  go_enter Tryd.func73, Tryd.ntmps73
  go_wp2
  go_ret
  exact ⟨rfl, rfl⟩
set_option maxHeartbeats 4000000 in
theorem twos_calls (w : World) :
    Calls Tryd.prog 46 #[] w fun e w' => e = .returned (.tuple #[.slice (some ⟨w.heap.size + 10, 0, none⟩) 10 10, .slice (some ⟨w.heap.size + 27, 0, none⟩) 15 15]) ∧ w' = allocs w (twObjs w.heap.size) := by
  have A1 := Lib.hid (fun k w => ask_calls (.func (.func k) #[] #[]) k rfl w)
  have A2 := Lib.hid (fun k w => askS_calls (.func (.func k) #[] #[]) k rfl w)
  go_enter Tryd.func46, Tryd.ntmps46
  go_wp2_with (first | (go_at_call 58; refine (A1.out _ _).mono ?_; rintro e w' ⟨rfl, rfl⟩) | (go_at_call 61; refine (A2.out _ _).mono ?_; rintro e w' ⟨rfl, rfl⟩) | (go_at_call 76; refine (do_calls _ _ _).mono ?_; rintro e w' ⟨rfl, rfl⟩) | (go_at_call 70; refine (quo_calls _ _).mono ?_; rintro e w' ⟨rfl, rfl⟩) | (go_at_call 73; refine (rest_calls _ _).mono ?_; rintro e w' ⟨rfl, rfl⟩))
  go_ret2
  exact ⟨rfl, rfl⟩
end Go.Proofs.YtfcagbgnlibfpaaDoor.A
