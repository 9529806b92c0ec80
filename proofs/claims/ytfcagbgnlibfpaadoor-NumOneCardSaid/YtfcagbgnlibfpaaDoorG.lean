/- num: the rule of an operation of two numbers, and of what is no operation. -/
import Derived.Test.YtfcagbgnlibfpaaDoorF
import Derived.LoopN
namespace Go.Proofs.YtfcagbgnlibfpaaDoor.A
open Go.ChangeShapes Go.WideShapes Go.ChangeAt Go.RowKit Go.Proofs.YtfcagbgnlibfpaaDoor.S
set_option linter.unusedVariables false
set_option linter.unusedSimpArgs false

/-- A closure over block x. -/
abbrev cloV (f x : Nat) : Value := .func (.func f) #[] #[.pointer (some ⟨x, 0, none⟩)]
/-- What 'twos' hands back. -/
structure Twos (B : Nat) (w' : World) (A S : Nat) : Prop where
  ltA : A < w'.heap.size
  ltS : S < w'.heap.size
  asks : ∀ i : Nat, i < 10 → ∃ f x, B ≤ x ∧ w'.cell? ⟨A, i, none⟩ = some (cloV f x) ∧ CloA i f x w'
  sums : ∀ i : Nat, i < 15 → ∃ f x y, B ≤ x ∧ B ≤ y ∧ w'.cell? ⟨S, i, none⟩ = some (cloV f x) ∧ CloS i f x y w'

theorem twos_at (w : World) : Twos w.heap.size (allocs w (twObjs w.heap.size)) (w.heap.size + 10) (w.heap.size + 27) := by
  have hs : (allocs w (twObjs w.heap.size)).heap.size = w.heap.size + 28 := by rw [allocs_heap]; simp [twObjs]
  have at_ : ∀ k o, (twObjs w.heap.size)[k]? = some o → (allocs w (twObjs w.heap.size)).heap[w.heap.size + k]? = some o := fun k o h => allocs_at _ w k o h
  generalize allocs w (twObjs w.heap.size) = W at *
  have hA := at_ 10 _ rfl
  have hS := at_ 27 _ rfl
  have hT := at_ 11 _ rfl
  refine ⟨by omega, by omega, fun i hi => ?_, fun i hi => ?_⟩
  · refine ⟨askF i, w.heap.size + i, by omega, ?_, hi, rfl, ?_⟩
    · rw [cell_of _ _ _ _ _ hA]
      match i, hi with
      | 0, _ => rfl
      | 1, _ => rfl
      | 2, _ => rfl
      | 3, _ => rfl
      | 4, _ => rfl
      | 5, _ => rfl
      | 6, _ => rfl
      | 7, _ => rfl
      | 8, _ => rfl
      | 9, _ => rfl
    · match i, hi with
      | 0, _ => rw [cell_of _ _ _ _ _ (at_ 0 _ rfl)]; rfl
      | 1, _ => rw [cell_of _ _ _ _ _ (at_ 1 _ rfl)]; rfl
      | 2, _ => rw [cell_of _ _ _ _ _ (at_ 2 _ rfl)]; rfl
      | 3, _ => rw [cell_of _ _ _ _ _ (at_ 3 _ rfl)]; rfl
      | 4, _ => rw [cell_of _ _ _ _ _ (at_ 4 _ rfl)]; rfl
      | 5, _ => rw [cell_of _ _ _ _ _ (at_ 5 _ rfl)]; rfl
      | 6, _ => rw [cell_of _ _ _ _ _ (at_ 6 _ rfl)]; rfl
      | 7, _ => rw [cell_of _ _ _ _ _ (at_ 7 _ rfl)]; rfl
      | 8, _ => rw [cell_of _ _ _ _ _ (at_ 8 _ rfl)]; rfl
      | 9, _ => rw [cell_of _ _ _ _ _ (at_ 9 _ rfl)]; rfl
  · refine ⟨sumF i, w.heap.size + (12 + i), w.heap.size + 11, by omega, by omega, ?_, hi, rfl, ?_, ?_⟩
    · rw [cell_of _ _ _ _ _ hS]
      match i, hi with
      | 0, _ => rfl
      | 1, _ => rfl
      | 2, _ => rfl
      | 3, _ => rfl
      | 4, _ => rfl
      | 5, _ => rfl
      | 6, _ => rfl
      | 7, _ => rfl
      | 8, _ => rfl
      | 9, _ => rfl
      | 10, _ => rfl
      | 11, _ => rfl
      | 12, _ => rfl
      | 13, _ => rfl
      | 14, _ => rfl
    · match i, hi with
      | 0, _ => rw [cell_of _ _ _ _ _ (at_ 12 _ rfl)]; rfl
      | 1, _ => rw [cell_of _ _ _ _ _ (at_ 13 _ rfl)]; rfl
      | 2, _ => rw [cell_of _ _ _ _ _ (at_ 14 _ rfl)]; rfl
      | 3, _ => rw [cell_of _ _ _ _ _ (at_ 15 _ rfl)]; rfl
      | 4, _ => rw [cell_of _ _ _ _ _ (at_ 16 _ rfl)]; rfl
      | 5, _ => rw [cell_of _ _ _ _ _ (at_ 17 _ rfl)]; rfl
      | 6, _ => rw [cell_of _ _ _ _ _ (at_ 18 _ rfl)]; rfl
      | 7, _ => rw [cell_of _ _ _ _ _ (at_ 19 _ rfl)]; rfl
      | 8, _ => rw [cell_of _ _ _ _ _ (at_ 20 _ rfl)]; rfl
      | 9, _ => rw [cell_of _ _ _ _ _ (at_ 21 _ rfl)]; rfl
      | 10, _ => rw [cell_of _ _ _ _ _ (at_ 22 _ rfl)]; rfl
      | 11, _ => rw [cell_of _ _ _ _ _ (at_ 23 _ rfl)]; rfl
      | 12, _ => rw [cell_of _ _ _ _ _ (at_ 24 _ rfl)]; rfl
      | 13, _ => rw [cell_of _ _ _ _ _ (at_ 25 _ rfl)]; rfl
      | 14, _ => rw [cell_of _ _ _ _ _ (at_ 26 _ rfl)]; rfl
    · rw [cell_of _ _ _ _ _ hT]; rfl

theorem twos (w : World) : Calls Tryd.prog 46 #[] w fun e w' => ∃ A S, e = .returned (.tuple #[.slice (some ⟨A, 0, none⟩) 10 10, .slice (some ⟨S, 0, none⟩) 15 15]) ∧ Below w.heap.size w w' ∧ Twos w.heap.size w' A S :=
  (twos_calls w).mono fun e w' ⟨he, hw⟩ => ⟨_, _, he, by rw [hw]; exact allocs_below _ w, by rw [hw]; exact twos_at w⟩

/-- What 'ruleOf' hands back of an operation of two numbers. -/
def RuleA (W op : Int) (i : Nat) (w : World) (e : Ending) (w' : World) : Prop := ∃ f x, e = .returned (.tuple #[.agg #[.int .i64 W, .int .i64 32, .nilFunc, .nilFunc, cloV f x], .bool true]) ∧ CloA i f x w' ∧ Below w.heap.size w w'
def RuleS (W op : Int) (i : Nat) (w : World) (e : Ending) (w' : World) : Prop := ∃ f x y, e = .returned (.tuple #[.agg #[.int .i64 W, .int .i64 W, .nilFunc, .nilFunc, cloV f x], .bool true]) ∧ CloS i f x y w' ∧ Below w.heap.size w w'

theorem not_one (op : Int) (h : (70 ≤ op ∧ op ≤ 79) ∨ (81 ≤ op ∧ op ≤ 90) ∨ (106 ≤ op ∧ op ≤ 120) ∨ (124 ≤ op ∧ op ≤ 138)) : onesB op = false := by
  unfold onesB
  simp only [Bool.or_eq_false_iff, beq_eq_false_iff_ne]
  omega

theorem a3 (w : World) (c : Array Value) (t : TypeId) (o1 o2 : Obj) (k : Nat) : (((w.alloc (.cells c t)).alloc o1).alloc o2).cell? ⟨w.heap.size, k, none⟩ = c[k]? := by
  rw [World.cell?_alloc_lt _ _ _ (by simp; try omega)]; rw [World.cell?_alloc_lt _ _ _ (by simp; try omega)]; exact World.cell?_alloc_new w c t k
theorem d3 (w : World) (o1 o2 o3 : Obj) (b k : Nat) (h : b < w.heap.size) : (((w.alloc o1).alloc o2).alloc o3).cell? ⟨b, k, none⟩ = w.cell? ⟨b, k, none⟩ := by
  rw [World.cell?_alloc_lt _ _ _ (by simp; try omega)]; rw [World.cell?_alloc_lt _ _ _ (by simp; try omega)]; rw [World.cell?_alloc_lt _ _ _ (by simp; try omega)]
theorem f3 (w : World) (o1 o2 o3 : Obj) (b k : Nat) (h : b < w.heap.size) : (((w.alloc o1).alloc o2).alloc o3).frozen? ⟨b, k, none⟩ = w.frozen? ⟨b, k, none⟩ := by
  rw [World.frozen?_alloc_old _ _ _ (by simp; try omega)]; rw [World.frozen?_alloc_old _ _ _ (by simp; try omega)]; rw [World.frozen?_alloc_old _ _ _ (by simp; try omega)]
theorem a4 (w : World) (c : Array Value) (t : TypeId) (o1 o2 o3 : Obj) (k : Nat) : ((((w.alloc (.cells c t)).alloc o1).alloc o2).alloc o3).cell? ⟨w.heap.size, k, none⟩ = c[k]? := by
  rw [World.cell?_alloc_lt _ _ _ (by simp; try omega)]; rw [World.cell?_alloc_lt _ _ _ (by simp; try omega)]; rw [World.cell?_alloc_lt _ _ _ (by simp; try omega)]; exact World.cell?_alloc_new w c t k
theorem d4 (w : World) (o1 o2 o3 o4 : Obj) (b k : Nat) (h : b < w.heap.size) : ((((w.alloc o1).alloc o2).alloc o3).alloc o4).cell? ⟨b, k, none⟩ = w.cell? ⟨b, k, none⟩ := by
  rw [World.cell?_alloc_lt _ _ _ (by simp; try omega)]; rw [World.cell?_alloc_lt _ _ _ (by simp; try omega)]; rw [World.cell?_alloc_lt _ _ _ (by simp; try omega)]; rw [World.cell?_alloc_lt _ _ _ (by simp; try omega)]
theorem f4 (w : World) (o1 o2 o3 o4 : Obj) (b k : Nat) (h : b < w.heap.size) : ((((w.alloc o1).alloc o2).alloc o3).alloc o4).frozen? ⟨b, k, none⟩ = w.frozen? ⟨b, k, none⟩ := by
  rw [World.frozen?_alloc_old _ _ _ (by simp; try omega)]; rw [World.frozen?_alloc_old _ _ _ (by simp; try omega)]; rw [World.frozen?_alloc_old _ _ _ (by simp; try omega)]; rw [World.frozen?_alloc_old _ _ _ (by simp; try omega)]
theorem a5 (w : World) (c : Array Value) (t : TypeId) (o1 o2 o3 o4 : Obj) (k : Nat) : (((((w.alloc (.cells c t)).alloc o1).alloc o2).alloc o3).alloc o4).cell? ⟨w.heap.size, k, none⟩ = c[k]? := by
  rw [World.cell?_alloc_lt _ _ _ (by simp; try omega)]; rw [World.cell?_alloc_lt _ _ _ (by simp; try omega)]; rw [World.cell?_alloc_lt _ _ _ (by simp; try omega)]; rw [World.cell?_alloc_lt _ _ _ (by simp; try omega)]; exact World.cell?_alloc_new w c t k
theorem d5 (w : World) (o1 o2 o3 o4 o5 : Obj) (b k : Nat) (h : b < w.heap.size) : (((((w.alloc o1).alloc o2).alloc o3).alloc o4).alloc o5).cell? ⟨b, k, none⟩ = w.cell? ⟨b, k, none⟩ := by
  rw [World.cell?_alloc_lt _ _ _ (by simp; try omega)]; rw [World.cell?_alloc_lt _ _ _ (by simp; try omega)]; rw [World.cell?_alloc_lt _ _ _ (by simp; try omega)]; rw [World.cell?_alloc_lt _ _ _ (by simp; try omega)]; rw [World.cell?_alloc_lt _ _ _ (by simp; try omega)]
theorem f5 (w : World) (o1 o2 o3 o4 o5 : Obj) (b k : Nat) (h : b < w.heap.size) : (((((w.alloc o1).alloc o2).alloc o3).alloc o4).alloc o5).frozen? ⟨b, k, none⟩ = w.frozen? ⟨b, k, none⟩ := by
  rw [World.frozen?_alloc_old _ _ _ (by simp; try omega)]; rw [World.frozen?_alloc_old _ _ _ (by simp; try omega)]; rw [World.frozen?_alloc_old _ _ _ (by simp; try omega)]; rw [World.frozen?_alloc_old _ _ _ (by simp; try omega)]; rw [World.frozen?_alloc_old _ _ _ (by simp; try omega)]
theorem a6 (w : World) (c : Array Value) (t : TypeId) (o1 o2 o3 o4 o5 : Obj) (k : Nat) : ((((((w.alloc (.cells c t)).alloc o1).alloc o2).alloc o3).alloc o4).alloc o5).cell? ⟨w.heap.size, k, none⟩ = c[k]? := by
  rw [World.cell?_alloc_lt _ _ _ (by simp; try omega)]; rw [World.cell?_alloc_lt _ _ _ (by simp; try omega)]; rw [World.cell?_alloc_lt _ _ _ (by simp; try omega)]; rw [World.cell?_alloc_lt _ _ _ (by simp; try omega)]; rw [World.cell?_alloc_lt _ _ _ (by simp; try omega)]; exact World.cell?_alloc_new w c t k
theorem d6 (w : World) (o1 o2 o3 o4 o5 o6 : Obj) (b k : Nat) (h : b < w.heap.size) : ((((((w.alloc o1).alloc o2).alloc o3).alloc o4).alloc o5).alloc o6).cell? ⟨b, k, none⟩ = w.cell? ⟨b, k, none⟩ := by
  rw [World.cell?_alloc_lt _ _ _ (by simp; try omega)]; rw [World.cell?_alloc_lt _ _ _ (by simp; try omega)]; rw [World.cell?_alloc_lt _ _ _ (by simp; try omega)]; rw [World.cell?_alloc_lt _ _ _ (by simp; try omega)]; rw [World.cell?_alloc_lt _ _ _ (by simp; try omega)]; rw [World.cell?_alloc_lt _ _ _ (by simp; try omega)]
theorem f6 (w : World) (o1 o2 o3 o4 o5 o6 : Obj) (b k : Nat) (h : b < w.heap.size) : ((((((w.alloc o1).alloc o2).alloc o3).alloc o4).alloc o5).alloc o6).frozen? ⟨b, k, none⟩ = w.frozen? ⟨b, k, none⟩ := by
  rw [World.frozen?_alloc_old _ _ _ (by simp; try omega)]; rw [World.frozen?_alloc_old _ _ _ (by simp; try omega)]; rw [World.frozen?_alloc_old _ _ _ (by simp; try omega)]; rw [World.frozen?_alloc_old _ _ _ (by simp; try omega)]; rw [World.frozen?_alloc_old _ _ _ (by simp; try omega)]; rw [World.frozen?_alloc_old _ _ _ (by simp; try omega)]
theorem CloA.alloc {i f x : Nat} {w : World} (h : CloA i f x w) (o : Obj) : CloA i f x (w.alloc o) := h.below (below_new w o)
theorem CloS.alloc {i f x y : Nat} {w : World} (h : CloS i f x y w) (o : Obj) : CloS i f x y (w.alloc o) := h.below (below_new w o)
theorem CloA.set {i f x : Nat} {w : World} (h : CloA i f x w) {b o : Nat} (hne : b ≠ x) (v : Value) : CloA i f x (w.setCell ⟨b, o, none⟩ v) :=
  ⟨h.1, h.2.1, by rw [World.cell?_setCell_other _ _ _ _ (by intro e; injection e with e1; exact hne e1)]; exact h.2.2⟩
theorem CloS.set {i f x y : Nat} {w : World} (h : CloS i f x y w) {b o : Nat} (hne : b ≠ x) (hne' : b ≠ y) (v : Value) : CloS i f x y (w.setCell ⟨b, o, none⟩ v) :=
  ⟨h.1, h.2.1, by rw [World.cell?_setCell_other _ _ _ _ (by intro e; injection e with e1; exact hne e1)]; exact h.2.2.1, by rw [World.cell?_setCell_other _ _ _ _ (by intro e; injection e with e1; exact hne' e1)]; exact h.2.2.2⟩

end Go.Proofs.YtfcagbgnlibfpaaDoor.A
