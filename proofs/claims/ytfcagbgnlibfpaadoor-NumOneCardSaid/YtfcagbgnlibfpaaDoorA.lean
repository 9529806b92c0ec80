/- num: lemmas on a map that has just been made, and the rules of the operations of one number. -/
import Derived.Test.YtfcagbgnlibfpaaDoorRows
import Derived.WalkKit
import Derived.ProofKit
import Derived.OpenShut
import Derived.BigQuiet
import Derived.Deep.QuietTactic
import Derived.Lib.Hide
import Derived.Laws.EntriesVeiled
namespace Go.Proofs.YtfcagbgnlibfpaaDoor.A
open Go.ChangeShapes Go.WideShapes Go.ChangeAt Go.RowKit
set_option linter.unusedVariables false
set_option linter.unusedSimpArgs false

theorem cell_self (w : World) (b o : Nat) (v : Value) : (w.setCell ⟨b, o, none⟩ v).cell? ⟨b, o, none⟩ = (w.cell? ⟨b, o, none⟩).map fun _ => v := by
  cases h : w.cell? ⟨b, o, none⟩ with
  | some u => exact World.cell?_setCell_same _ _ _ h
  | none =>
    simp only [World.cell?, World.setCell, Array.getElem?_modify, ↓reduceIte] at *
    cases hb : w.heap[b]? with
    | none => rfl
    | some x => cases x <;> simp_all
theorem below_drewN {B : Nat} {a w : World} (h : Below B a w) (n : Nat) : Below B a (w.drewN n) := ⟨h.os, h.tape, h.output, h.size, h.block⟩
theorem below_step {w a b : World} (h : Below w.heap.size w a) (k : Below a.heap.size a b) : Below w.heap.size w b := h.trans (k.mono h.size)
theorem below_new (w : World) (o : Obj) : Below w.heap.size w (w.alloc o) := (Below.refl _ _).alloc (Nat.le_refl _) _
theorem bcell {W w1 : World} (hb : Below W.heap.size W w1) : (∀ b o, b < W.heap.size → w1.cell? ⟨b, o, none⟩ = W.cell? ⟨b, o, none⟩) ∧ (∀ b o, b < W.heap.size → w1.frozen? ⟨b, o, none⟩ = W.frozen? ⟨b, o, none⟩) :=
  ⟨fun b o h => hb.cell (p := ⟨b, o, none⟩) h, fun b o h => hb.frozen (p := ⟨b, o, none⟩) h⟩
theorem getObj_last {P : Program} (W : World) (es : Array MapEntry) (c r : Nat) (hr : r = W.heap.size) : (getObj r).run P (W.alloc (.map es c)) = .ok (.map es c) (W.alloc (.map es c)) := by
  have : (W.alloc (.map es c)).heap[r]? = some (.map es c) := by subst hr; exact heap_alloc_new W _
  simp [getObj, Sem.run, this]

theorem setObj_last {P : Program} (W : World) (es es' : Array MapEntry) (c c' r : Nat) (hr : r = W.heap.size) : (setObj r (.map es' c')).run P (W.alloc (.map es c)) = .ok () (W.alloc (.map es' c')) := by
  have h : (W.alloc (.map es c)).heap[r]? = some (.map es c) := by subst hr; exact heap_alloc_new W _
  have h2 : ({ (W.alloc (.map es c)) with heap := (W.alloc (.map es c)).heap.setIfInBounds r (.map es' c') } : World) = W.alloc (.map es' c') := by
    subst hr
    show ({ W with heap := (W.heap.push (.map es c)).setIfInBounds W.heap.size (.map es' c') } : World) = { W with heap := W.heap.push (.map es' c') }
    congr 1
    apply Array.ext_getElem?
    intro i
    simp only [Array.getElem?_setIfInBounds, Array.getElem?_push, Array.size_push]
    by_cases hi : W.heap.size = i
    · subst hi; simp
    · simp [hi, Ne.symm hi]
  simp only [setObj, Sem.run, h]
  rw [h2]

theorem checkKey_int {P : Program} {K : TypeId} {kd : IntKind} (hK : P.underlying K = some (.int kd)) (n : Nat) (b : Bool) (v : Value) (w : World) : (Instr.checkKey b (n + 1) K v).run P w = .ok () w := by
  simp [Instr.checkKey, run_underlying hK, Result.andThen]

theorem findKey_now {P : Program} {K : TypeId} {kd : IntKind} (hK : P.underlying K = some (.int kd)) (v : Value) (es : List MapEntry) (x : Option (Nat × Value)) (h : Instr.findNow (.int kd) v es 0 = some x) (w : World) :
    (Instr.findKey K v es).run P w = .ok x w := by
  simp [Instr.findKey, run_underlying hK, Result.andThen, h]

theorem mapUpdate_last {P : Program} {T K E : TypeId} {kd : IntKind} (hT : P.underlying T = some (.map K E)) (hK : P.underlying K = some (.int kd)) (W : World) (es : Array MapEntry) (c r : Nat) (hr : r = W.heap.size) (n : Int) (v : Value)
    (hf : Instr.findNow (.int kd) (.int kd n) es.toList 0 = some none) :
    (Instr.mapUpdate T (.map (some r)) (.int kd n) v).run P (W.alloc (.map es c)) = .ok () (W.alloc (.map (es.push { key := .int kd n, val := v, born := c }) (c + 1))) := by
  simp [Instr.mapUpdate, run_underlying hT, getObj_last W es c r hr, checkKey_int hK, findKey_now hK _ _ _ hf, setObj_last W es _ c _ r hr, Result.andThen]

theorem lookup_last {P : Program} {T K E : TypeId} {kd : IntKind} (hT : P.underlying T = some (.map K E)) (hK : P.underlying K = some (.int kd)) (W : World) (es : Array MapEntry) (c r : Nat) (hr : r = W.heap.size) (n : Int) (i : Nat) (v : Value)
    (hf : Instr.findNow (.int kd) (.int kd n) es.toList 0 = some (some (i, v))) :
    (Instr.lookup T (.map (some r)) (.int kd n) true).run P (W.alloc (.map es c)) = .ok (.tuple #[v, .bool true]) (W.alloc (.map es c)) := by
  simp [Instr.lookup, run_underlying hT, getObj_last W es c r hr, checkKey_int hK, findKey_now hK _ _ _ hf, Result.andThen]

theorem lookup_last_no {P : Program} {T K E : TypeId} {kd : IntKind} (hT : P.underlying T = some (.map K E)) (hK : P.underlying K = some (.int kd)) (W : World) (es : Array MapEntry) (c r : Nat) (hr : r = W.heap.size) (n : Int) (z : Value)
    (hz : ∀ w : World, (zeroValue E).run P w = .ok z w) (hf : Instr.findNow (.int kd) (.int kd n) es.toList 0 = some none) :
    (Instr.lookup T (.map (some r)) (.int kd n) true).run P (W.alloc (.map es c)) = .ok (.tuple #[z, .bool false]) (W.alloc (.map es c)) := by
  simp [Instr.lookup, run_underlying hT, getObj_last W es c r hr, checkKey_int hK, findKey_now hK _ _ _ hf, hz, Result.andThen]

theorem zero46 (w : World) : (zeroValue 46).run Tryd.prog w = .ok (.agg #[.int .i64 0, .int .i64 0, .nilFunc, .nilFunc, .nilFunc]) w := by kernel_rfl
/-- The sixteen rules of one number, as they stand in the map. -/
abbrev ent0 : MapEntry := { key := .int .i64 69, val := .agg #[.int .i64 32, .int .i64 32, .nilFunc, .func (.func 30) #[] #[], .nilFunc], born := 0 }
abbrev ent1 : MapEntry := { key := .int .i64 103, val := .agg #[.int .i64 32, .int .i64 32, .nilFunc, .func (.func 31) #[] #[], .nilFunc], born := 1 }
abbrev ent2 : MapEntry := { key := .int .i64 104, val := .agg #[.int .i64 32, .int .i64 32, .nilFunc, .func (.func 32) #[] #[], .nilFunc], born := 2 }
abbrev ent3 : MapEntry := { key := .int .i64 105, val := .agg #[.int .i64 32, .int .i64 32, .nilFunc, .func (.func 33) #[] #[], .nilFunc], born := 3 }
abbrev ent4 : MapEntry := { key := .int .i64 192, val := .agg #[.int .i64 32, .int .i64 32, .nilFunc, .func (.func 34) #[] #[], .nilFunc], born := 4 }
abbrev ent5 : MapEntry := { key := .int .i64 193, val := .agg #[.int .i64 32, .int .i64 32, .nilFunc, .func (.func 35) #[] #[], .nilFunc], born := 5 }
abbrev ent6 : MapEntry := { key := .int .i64 172, val := .agg #[.int .i64 32, .int .i64 64, .nilFunc, .func (.func 36) #[] #[], .nilFunc], born := 6 }
abbrev ent7 : MapEntry := { key := .int .i64 173, val := .agg #[.int .i64 32, .int .i64 64, .nilFunc, .func (.func 37) #[] #[], .nilFunc], born := 7 }
abbrev ent8 : MapEntry := { key := .int .i64 80, val := .agg #[.int .i64 64, .int .i64 32, .func (.func 38) #[] #[], .nilFunc, .nilFunc], born := 8 }
abbrev ent9 : MapEntry := { key := .int .i64 121, val := .agg #[.int .i64 64, .int .i64 64, .func (.func 39) #[] #[], .nilFunc, .nilFunc], born := 9 }
abbrev ent10 : MapEntry := { key := .int .i64 122, val := .agg #[.int .i64 64, .int .i64 64, .func (.func 40) #[] #[], .nilFunc, .nilFunc], born := 10 }
abbrev ent11 : MapEntry := { key := .int .i64 123, val := .agg #[.int .i64 64, .int .i64 64, .func (.func 41) #[] #[], .nilFunc, .nilFunc], born := 11 }
abbrev ent12 : MapEntry := { key := .int .i64 194, val := .agg #[.int .i64 64, .int .i64 64, .func (.func 42) #[] #[], .nilFunc, .nilFunc], born := 12 }
abbrev ent13 : MapEntry := { key := .int .i64 195, val := .agg #[.int .i64 64, .int .i64 64, .func (.func 43) #[] #[], .nilFunc, .nilFunc], born := 13 }
abbrev ent14 : MapEntry := { key := .int .i64 196, val := .agg #[.int .i64 64, .int .i64 64, .func (.func 44) #[] #[], .nilFunc, .nilFunc], born := 14 }
abbrev ent15 : MapEntry := { key := .int .i64 167, val := .agg #[.int .i64 64, .int .i64 32, .func (.func 45) #[] #[], .nilFunc, .nilFunc], born := 15 }
abbrev ents0 : Array MapEntry := #[]
abbrev ents1 : Array MapEntry := #[ent0]
abbrev ents2 : Array MapEntry := #[ent0, ent1]
abbrev ents3 : Array MapEntry := #[ent0, ent1, ent2]
abbrev ents4 : Array MapEntry := #[ent0, ent1, ent2, ent3]
abbrev ents5 : Array MapEntry := #[ent0, ent1, ent2, ent3, ent4]
abbrev ents6 : Array MapEntry := #[ent0, ent1, ent2, ent3, ent4, ent5]
abbrev ents7 : Array MapEntry := #[ent0, ent1, ent2, ent3, ent4, ent5, ent6]
abbrev ents8 : Array MapEntry := #[ent0, ent1, ent2, ent3, ent4, ent5, ent6, ent7]
abbrev ents9 : Array MapEntry := #[ent0, ent1, ent2, ent3, ent4, ent5, ent6, ent7, ent8]
abbrev ents10 : Array MapEntry := #[ent0, ent1, ent2, ent3, ent4, ent5, ent6, ent7, ent8, ent9]
abbrev ents11 : Array MapEntry := #[ent0, ent1, ent2, ent3, ent4, ent5, ent6, ent7, ent8, ent9, ent10]
abbrev ents12 : Array MapEntry := #[ent0, ent1, ent2, ent3, ent4, ent5, ent6, ent7, ent8, ent9, ent10, ent11]
abbrev ents13 : Array MapEntry := #[ent0, ent1, ent2, ent3, ent4, ent5, ent6, ent7, ent8, ent9, ent10, ent11, ent12]
abbrev ents14 : Array MapEntry := #[ent0, ent1, ent2, ent3, ent4, ent5, ent6, ent7, ent8, ent9, ent10, ent11, ent12, ent13]
abbrev ents15 : Array MapEntry := #[ent0, ent1, ent2, ent3, ent4, ent5, ent6, ent7, ent8, ent9, ent10, ent11, ent12, ent13, ent14]
abbrev ents16 : Array MapEntry := #[ent0, ent1, ent2, ent3, ent4, ent5, ent6, ent7, ent8, ent9, ent10, ent11, ent12, ent13, ent14, ent15]
theorem ins0 (W : World) (r : Nat) (hr : r = W.heap.size) : (Instr.mapUpdate 64 (.map (some r)) (.int .i64 69) (.agg #[.int .i64 32, .int .i64 32, .nilFunc, .func (.func 30) #[] #[], .nilFunc])).run Tryd.prog (W.alloc (.map ents0 0)) = .ok () (W.alloc (.map ents1 1)) :=
  mapUpdate_last Tryd.underlying64 Tryd.underlying22 W ents0 0 r hr _ _ rfl
theorem ins1 (W : World) (r : Nat) (hr : r = W.heap.size) : (Instr.mapUpdate 64 (.map (some r)) (.int .i64 103) (.agg #[.int .i64 32, .int .i64 32, .nilFunc, .func (.func 31) #[] #[], .nilFunc])).run Tryd.prog (W.alloc (.map ents1 1)) = .ok () (W.alloc (.map ents2 2)) :=
  mapUpdate_last Tryd.underlying64 Tryd.underlying22 W ents1 1 r hr _ _ rfl
theorem ins2 (W : World) (r : Nat) (hr : r = W.heap.size) : (Instr.mapUpdate 64 (.map (some r)) (.int .i64 104) (.agg #[.int .i64 32, .int .i64 32, .nilFunc, .func (.func 32) #[] #[], .nilFunc])).run Tryd.prog (W.alloc (.map ents2 2)) = .ok () (W.alloc (.map ents3 3)) :=
  mapUpdate_last Tryd.underlying64 Tryd.underlying22 W ents2 2 r hr _ _ rfl
theorem ins3 (W : World) (r : Nat) (hr : r = W.heap.size) : (Instr.mapUpdate 64 (.map (some r)) (.int .i64 105) (.agg #[.int .i64 32, .int .i64 32, .nilFunc, .func (.func 33) #[] #[], .nilFunc])).run Tryd.prog (W.alloc (.map ents3 3)) = .ok () (W.alloc (.map ents4 4)) :=
  mapUpdate_last Tryd.underlying64 Tryd.underlying22 W ents3 3 r hr _ _ rfl
theorem ins4 (W : World) (r : Nat) (hr : r = W.heap.size) : (Instr.mapUpdate 64 (.map (some r)) (.int .i64 192) (.agg #[.int .i64 32, .int .i64 32, .nilFunc, .func (.func 34) #[] #[], .nilFunc])).run Tryd.prog (W.alloc (.map ents4 4)) = .ok () (W.alloc (.map ents5 5)) :=
  mapUpdate_last Tryd.underlying64 Tryd.underlying22 W ents4 4 r hr _ _ rfl
theorem ins5 (W : World) (r : Nat) (hr : r = W.heap.size) : (Instr.mapUpdate 64 (.map (some r)) (.int .i64 193) (.agg #[.int .i64 32, .int .i64 32, .nilFunc, .func (.func 35) #[] #[], .nilFunc])).run Tryd.prog (W.alloc (.map ents5 5)) = .ok () (W.alloc (.map ents6 6)) :=
  mapUpdate_last Tryd.underlying64 Tryd.underlying22 W ents5 5 r hr _ _ rfl
theorem ins6 (W : World) (r : Nat) (hr : r = W.heap.size) : (Instr.mapUpdate 64 (.map (some r)) (.int .i64 172) (.agg #[.int .i64 32, .int .i64 64, .nilFunc, .func (.func 36) #[] #[], .nilFunc])).run Tryd.prog (W.alloc (.map ents6 6)) = .ok () (W.alloc (.map ents7 7)) :=
  mapUpdate_last Tryd.underlying64 Tryd.underlying22 W ents6 6 r hr _ _ rfl
theorem ins7 (W : World) (r : Nat) (hr : r = W.heap.size) : (Instr.mapUpdate 64 (.map (some r)) (.int .i64 173) (.agg #[.int .i64 32, .int .i64 64, .nilFunc, .func (.func 37) #[] #[], .nilFunc])).run Tryd.prog (W.alloc (.map ents7 7)) = .ok () (W.alloc (.map ents8 8)) :=
  mapUpdate_last Tryd.underlying64 Tryd.underlying22 W ents7 7 r hr _ _ rfl
theorem ins8 (W : World) (r : Nat) (hr : r = W.heap.size) : (Instr.mapUpdate 64 (.map (some r)) (.int .i64 80) (.agg #[.int .i64 64, .int .i64 32, .func (.func 38) #[] #[], .nilFunc, .nilFunc])).run Tryd.prog (W.alloc (.map ents8 8)) = .ok () (W.alloc (.map ents9 9)) :=
  mapUpdate_last Tryd.underlying64 Tryd.underlying22 W ents8 8 r hr _ _ rfl
theorem ins9 (W : World) (r : Nat) (hr : r = W.heap.size) : (Instr.mapUpdate 64 (.map (some r)) (.int .i64 121) (.agg #[.int .i64 64, .int .i64 64, .func (.func 39) #[] #[], .nilFunc, .nilFunc])).run Tryd.prog (W.alloc (.map ents9 9)) = .ok () (W.alloc (.map ents10 10)) :=
  mapUpdate_last Tryd.underlying64 Tryd.underlying22 W ents9 9 r hr _ _ rfl
theorem ins10 (W : World) (r : Nat) (hr : r = W.heap.size) : (Instr.mapUpdate 64 (.map (some r)) (.int .i64 122) (.agg #[.int .i64 64, .int .i64 64, .func (.func 40) #[] #[], .nilFunc, .nilFunc])).run Tryd.prog (W.alloc (.map ents10 10)) = .ok () (W.alloc (.map ents11 11)) :=
  mapUpdate_last Tryd.underlying64 Tryd.underlying22 W ents10 10 r hr _ _ rfl
theorem ins11 (W : World) (r : Nat) (hr : r = W.heap.size) : (Instr.mapUpdate 64 (.map (some r)) (.int .i64 123) (.agg #[.int .i64 64, .int .i64 64, .func (.func 41) #[] #[], .nilFunc, .nilFunc])).run Tryd.prog (W.alloc (.map ents11 11)) = .ok () (W.alloc (.map ents12 12)) :=
  mapUpdate_last Tryd.underlying64 Tryd.underlying22 W ents11 11 r hr _ _ rfl
theorem ins12 (W : World) (r : Nat) (hr : r = W.heap.size) : (Instr.mapUpdate 64 (.map (some r)) (.int .i64 194) (.agg #[.int .i64 64, .int .i64 64, .func (.func 42) #[] #[], .nilFunc, .nilFunc])).run Tryd.prog (W.alloc (.map ents12 12)) = .ok () (W.alloc (.map ents13 13)) :=
  mapUpdate_last Tryd.underlying64 Tryd.underlying22 W ents12 12 r hr _ _ rfl
theorem ins13 (W : World) (r : Nat) (hr : r = W.heap.size) : (Instr.mapUpdate 64 (.map (some r)) (.int .i64 195) (.agg #[.int .i64 64, .int .i64 64, .func (.func 43) #[] #[], .nilFunc, .nilFunc])).run Tryd.prog (W.alloc (.map ents13 13)) = .ok () (W.alloc (.map ents14 14)) :=
  mapUpdate_last Tryd.underlying64 Tryd.underlying22 W ents13 13 r hr _ _ rfl
theorem ins14 (W : World) (r : Nat) (hr : r = W.heap.size) : (Instr.mapUpdate 64 (.map (some r)) (.int .i64 196) (.agg #[.int .i64 64, .int .i64 64, .func (.func 44) #[] #[], .nilFunc, .nilFunc])).run Tryd.prog (W.alloc (.map ents14 14)) = .ok () (W.alloc (.map ents15 15)) :=
  mapUpdate_last Tryd.underlying64 Tryd.underlying22 W ents14 14 r hr _ _ rfl
theorem ins15 (W : World) (r : Nat) (hr : r = W.heap.size) : (Instr.mapUpdate 64 (.map (some r)) (.int .i64 167) (.agg #[.int .i64 64, .int .i64 32, .func (.func 45) #[] #[], .nilFunc, .nilFunc])).run Tryd.prog (W.alloc (.map ents15 15)) = .ok () (W.alloc (.map ents16 16)) :=
  mapUpdate_last Tryd.underlying64 Tryd.underlying22 W ents15 15 r hr _ _ rfl
theorem look0 (W : World) (r : Nat) (hr : r = W.heap.size) : (Instr.lookup 64 (.map (some r)) (.int .i64 69) true).run Tryd.prog (W.alloc (.map ents16 16)) = .ok (.tuple #[.agg #[.int .i64 32, .int .i64 32, .nilFunc, .func (.func 30) #[] #[], .nilFunc], .bool true]) (W.alloc (.map ents16 16)) :=
  lookup_last Tryd.underlying64 Tryd.underlying22 W ents16 16 r hr _ 0 _ rfl
theorem look1 (W : World) (r : Nat) (hr : r = W.heap.size) : (Instr.lookup 64 (.map (some r)) (.int .i64 103) true).run Tryd.prog (W.alloc (.map ents16 16)) = .ok (.tuple #[.agg #[.int .i64 32, .int .i64 32, .nilFunc, .func (.func 31) #[] #[], .nilFunc], .bool true]) (W.alloc (.map ents16 16)) :=
  lookup_last Tryd.underlying64 Tryd.underlying22 W ents16 16 r hr _ 1 _ rfl
theorem look2 (W : World) (r : Nat) (hr : r = W.heap.size) : (Instr.lookup 64 (.map (some r)) (.int .i64 104) true).run Tryd.prog (W.alloc (.map ents16 16)) = .ok (.tuple #[.agg #[.int .i64 32, .int .i64 32, .nilFunc, .func (.func 32) #[] #[], .nilFunc], .bool true]) (W.alloc (.map ents16 16)) :=
  lookup_last Tryd.underlying64 Tryd.underlying22 W ents16 16 r hr _ 2 _ rfl
theorem look3 (W : World) (r : Nat) (hr : r = W.heap.size) : (Instr.lookup 64 (.map (some r)) (.int .i64 105) true).run Tryd.prog (W.alloc (.map ents16 16)) = .ok (.tuple #[.agg #[.int .i64 32, .int .i64 32, .nilFunc, .func (.func 33) #[] #[], .nilFunc], .bool true]) (W.alloc (.map ents16 16)) :=
  lookup_last Tryd.underlying64 Tryd.underlying22 W ents16 16 r hr _ 3 _ rfl
theorem look4 (W : World) (r : Nat) (hr : r = W.heap.size) : (Instr.lookup 64 (.map (some r)) (.int .i64 192) true).run Tryd.prog (W.alloc (.map ents16 16)) = .ok (.tuple #[.agg #[.int .i64 32, .int .i64 32, .nilFunc, .func (.func 34) #[] #[], .nilFunc], .bool true]) (W.alloc (.map ents16 16)) :=
  lookup_last Tryd.underlying64 Tryd.underlying22 W ents16 16 r hr _ 4 _ rfl
theorem look5 (W : World) (r : Nat) (hr : r = W.heap.size) : (Instr.lookup 64 (.map (some r)) (.int .i64 193) true).run Tryd.prog (W.alloc (.map ents16 16)) = .ok (.tuple #[.agg #[.int .i64 32, .int .i64 32, .nilFunc, .func (.func 35) #[] #[], .nilFunc], .bool true]) (W.alloc (.map ents16 16)) :=
  lookup_last Tryd.underlying64 Tryd.underlying22 W ents16 16 r hr _ 5 _ rfl
theorem look6 (W : World) (r : Nat) (hr : r = W.heap.size) : (Instr.lookup 64 (.map (some r)) (.int .i64 172) true).run Tryd.prog (W.alloc (.map ents16 16)) = .ok (.tuple #[.agg #[.int .i64 32, .int .i64 64, .nilFunc, .func (.func 36) #[] #[], .nilFunc], .bool true]) (W.alloc (.map ents16 16)) :=
  lookup_last Tryd.underlying64 Tryd.underlying22 W ents16 16 r hr _ 6 _ rfl
theorem look7 (W : World) (r : Nat) (hr : r = W.heap.size) : (Instr.lookup 64 (.map (some r)) (.int .i64 173) true).run Tryd.prog (W.alloc (.map ents16 16)) = .ok (.tuple #[.agg #[.int .i64 32, .int .i64 64, .nilFunc, .func (.func 37) #[] #[], .nilFunc], .bool true]) (W.alloc (.map ents16 16)) :=
  lookup_last Tryd.underlying64 Tryd.underlying22 W ents16 16 r hr _ 7 _ rfl
theorem look8 (W : World) (r : Nat) (hr : r = W.heap.size) : (Instr.lookup 64 (.map (some r)) (.int .i64 80) true).run Tryd.prog (W.alloc (.map ents16 16)) = .ok (.tuple #[.agg #[.int .i64 64, .int .i64 32, .func (.func 38) #[] #[], .nilFunc, .nilFunc], .bool true]) (W.alloc (.map ents16 16)) :=
  lookup_last Tryd.underlying64 Tryd.underlying22 W ents16 16 r hr _ 8 _ rfl
theorem look9 (W : World) (r : Nat) (hr : r = W.heap.size) : (Instr.lookup 64 (.map (some r)) (.int .i64 121) true).run Tryd.prog (W.alloc (.map ents16 16)) = .ok (.tuple #[.agg #[.int .i64 64, .int .i64 64, .func (.func 39) #[] #[], .nilFunc, .nilFunc], .bool true]) (W.alloc (.map ents16 16)) :=
  lookup_last Tryd.underlying64 Tryd.underlying22 W ents16 16 r hr _ 9 _ rfl
theorem look10 (W : World) (r : Nat) (hr : r = W.heap.size) : (Instr.lookup 64 (.map (some r)) (.int .i64 122) true).run Tryd.prog (W.alloc (.map ents16 16)) = .ok (.tuple #[.agg #[.int .i64 64, .int .i64 64, .func (.func 40) #[] #[], .nilFunc, .nilFunc], .bool true]) (W.alloc (.map ents16 16)) :=
  lookup_last Tryd.underlying64 Tryd.underlying22 W ents16 16 r hr _ 10 _ rfl
theorem look11 (W : World) (r : Nat) (hr : r = W.heap.size) : (Instr.lookup 64 (.map (some r)) (.int .i64 123) true).run Tryd.prog (W.alloc (.map ents16 16)) = .ok (.tuple #[.agg #[.int .i64 64, .int .i64 64, .func (.func 41) #[] #[], .nilFunc, .nilFunc], .bool true]) (W.alloc (.map ents16 16)) :=
  lookup_last Tryd.underlying64 Tryd.underlying22 W ents16 16 r hr _ 11 _ rfl
theorem look12 (W : World) (r : Nat) (hr : r = W.heap.size) : (Instr.lookup 64 (.map (some r)) (.int .i64 194) true).run Tryd.prog (W.alloc (.map ents16 16)) = .ok (.tuple #[.agg #[.int .i64 64, .int .i64 64, .func (.func 42) #[] #[], .nilFunc, .nilFunc], .bool true]) (W.alloc (.map ents16 16)) :=
  lookup_last Tryd.underlying64 Tryd.underlying22 W ents16 16 r hr _ 12 _ rfl
theorem look13 (W : World) (r : Nat) (hr : r = W.heap.size) : (Instr.lookup 64 (.map (some r)) (.int .i64 195) true).run Tryd.prog (W.alloc (.map ents16 16)) = .ok (.tuple #[.agg #[.int .i64 64, .int .i64 64, .func (.func 43) #[] #[], .nilFunc, .nilFunc], .bool true]) (W.alloc (.map ents16 16)) :=
  lookup_last Tryd.underlying64 Tryd.underlying22 W ents16 16 r hr _ 13 _ rfl
theorem look14 (W : World) (r : Nat) (hr : r = W.heap.size) : (Instr.lookup 64 (.map (some r)) (.int .i64 196) true).run Tryd.prog (W.alloc (.map ents16 16)) = .ok (.tuple #[.agg #[.int .i64 64, .int .i64 64, .func (.func 44) #[] #[], .nilFunc, .nilFunc], .bool true]) (W.alloc (.map ents16 16)) :=
  lookup_last Tryd.underlying64 Tryd.underlying22 W ents16 16 r hr _ 14 _ rfl
theorem look15 (W : World) (r : Nat) (hr : r = W.heap.size) : (Instr.lookup 64 (.map (some r)) (.int .i64 167) true).run Tryd.prog (W.alloc (.map ents16 16)) = .ok (.tuple #[.agg #[.int .i64 64, .int .i64 32, .func (.func 45) #[] #[], .nilFunc, .nilFunc], .bool true]) (W.alloc (.map ents16 16)) :=
  lookup_last Tryd.underlying64 Tryd.underlying22 W ents16 16 r hr _ 15 _ rfl
/-- Is it an operation of one number? -/
def onesB (op : Int) : Bool := op == 69 || op == 103 || op == 104 || op == 105 || op == 192 || op == 193 || op == 172 || op == 173 || op == 80 || op == 121 || op == 122 || op == 123 || op == 194 || op == 195 || op == 196 || op == 167
theorem findNow_no (op : Int) : ∀ (es : List MapEntry) (i : Nat), (es.all fun e => match e.key with | .int .i64 k => op != k | _ => false) = true → Instr.findNow (.int .i64) (.int .i64 op) es i = some none
  | [], _, _ => rfl
  | e :: es, i, h => by
    simp only [List.all_cons, Bool.and_eq_true] at h
    obtain ⟨h1, h2⟩ := h
    unfold Instr.findNow
    have : Instr.sameNow (.int .i64) (.int .i64 op) e.key = some false := by
      split at h1
      · rename_i k hk
        rw [hk]
        simp [Instr.sameNow]
        simpa using h1
      · cases h1
    rw [this]
    exact findNow_no op es (i + 1) h2
theorem look_no (op : Int) (h : onesB op = false) (W : World) (r : Nat) (hr : r = W.heap.size) :
    (Instr.lookup 64 (.map (some r)) (.int .i64 op) true).run Tryd.prog (W.alloc (.map ents16 16)) = .ok (.tuple #[.agg #[.int .i64 0, .int .i64 0, .nilFunc, .nilFunc, .nilFunc], .bool false]) (W.alloc (.map ents16 16)) := by
  refine lookup_last_no Tryd.underlying64 Tryd.underlying22 W ents16 16 r hr op _ zero46 (findNow_no op _ _ ?_)
  simp only [onesB, Bool.or_eq_false_iff] at h
  simp [bne, h]
attribute [local go_sem] ins0 ins1 ins2 ins3 ins4 ins5 ins6 ins7 ins8 ins9 ins10 ins11 ins12 ins13 ins14 ins15

attribute [local go_sem] cell_self

set_option maxHeartbeats 4000000 in
theorem ruleOf_w (op f t : Int) (n : Nat) (hl : ∀ (W : World) (r : Nat), r = W.heap.size → (Instr.lookup 64 (.map (some r)) (.int .i64 op) true).run Tryd.prog (W.alloc (.map ents16 16)) = .ok (.tuple #[.agg #[.int .i64 f, .int .i64 t, .func (.func n) #[] #[], .nilFunc, .nilFunc], .bool true]) (W.alloc (.map ents16 16))) (w : World) :
    Calls Tryd.prog 20 #[.int .i64 op] w fun e w' => e = .returned (.tuple #[.agg #[.int .i64 f, .int .i64 t, .func (.func n) #[] #[], .nilFunc, .nilFunc], .bool true]) ∧ Below w.heap.size w w' := by
  have hmm := @run_makeMap Tryd.prog
  go_enter Tryd.func20, Tryd.ntmps20
  go_wp2
  refine bodyPost_ret (v := .tuple #[.agg #[.int .i64 f, .int .i64 t, .func (.func n) #[] #[], .nilFunc, .nilFunc], .bool true]) ?_ rfl ?_
  · rw [results_cell_tmp (show Tryd.f20.results = _ from Tryd.results20)]; simp [go_sem]
  · exact ⟨rfl, by repeat (first | exact Below.refl _ _ | refine Below.drew ?_ | refine Below.setCell ?_ (by first | omega | (simp; done) | (simp; omega)) _ | refine Below.alloc ?_ (by first | omega | (simp; done) | (simp; omega)) _)⟩

set_option maxHeartbeats 4000000 in
theorem ruleOf_n (op f t : Int) (n : Nat) (hl : ∀ (W : World) (r : Nat), r = W.heap.size → (Instr.lookup 64 (.map (some r)) (.int .i64 op) true).run Tryd.prog (W.alloc (.map ents16 16)) = .ok (.tuple #[.agg #[.int .i64 f, .int .i64 t, .nilFunc, .func (.func n) #[] #[], .nilFunc], .bool true]) (W.alloc (.map ents16 16))) (w : World) :
    Calls Tryd.prog 20 #[.int .i64 op] w fun e w' => e = .returned (.tuple #[.agg #[.int .i64 f, .int .i64 t, .nilFunc, .func (.func n) #[] #[], .nilFunc], .bool true]) ∧ Below w.heap.size w w' := by
  have hmm := @run_makeMap Tryd.prog
  go_enter Tryd.func20, Tryd.ntmps20
  go_wp2
  refine bodyPost_ret (v := .tuple #[.agg #[.int .i64 f, .int .i64 t, .nilFunc, .func (.func n) #[] #[], .nilFunc], .bool true]) ?_ rfl ?_
  · rw [results_cell_tmp (show Tryd.f20.results = _ from Tryd.results20)]; simp [go_sem]
  · exact ⟨rfl, by repeat (first | exact Below.refl _ _ | refine Below.drew ?_ | refine Below.setCell ?_ (by first | omega | (simp; done) | (simp; omega)) _ | refine Below.alloc ?_ (by first | omega | (simp; done) | (simp; omega)) _)⟩
theorem ruleOf69 (w : World) : Calls Tryd.prog 20 #[.int .i64 69] w fun e w' => e = .returned (.tuple #[.agg #[.int .i64 32, .int .i64 32, .nilFunc, .func (.func 30) #[] #[], .nilFunc], .bool true]) ∧ Below w.heap.size w w' :=
  ruleOf_n 69 32 32 30 look0 w
theorem ruleOf103 (w : World) : Calls Tryd.prog 20 #[.int .i64 103] w fun e w' => e = .returned (.tuple #[.agg #[.int .i64 32, .int .i64 32, .nilFunc, .func (.func 31) #[] #[], .nilFunc], .bool true]) ∧ Below w.heap.size w w' :=
  ruleOf_n 103 32 32 31 look1 w
theorem ruleOf104 (w : World) : Calls Tryd.prog 20 #[.int .i64 104] w fun e w' => e = .returned (.tuple #[.agg #[.int .i64 32, .int .i64 32, .nilFunc, .func (.func 32) #[] #[], .nilFunc], .bool true]) ∧ Below w.heap.size w w' :=
  ruleOf_n 104 32 32 32 look2 w
theorem ruleOf105 (w : World) : Calls Tryd.prog 20 #[.int .i64 105] w fun e w' => e = .returned (.tuple #[.agg #[.int .i64 32, .int .i64 32, .nilFunc, .func (.func 33) #[] #[], .nilFunc], .bool true]) ∧ Below w.heap.size w w' :=
  ruleOf_n 105 32 32 33 look3 w
theorem ruleOf192 (w : World) : Calls Tryd.prog 20 #[.int .i64 192] w fun e w' => e = .returned (.tuple #[.agg #[.int .i64 32, .int .i64 32, .nilFunc, .func (.func 34) #[] #[], .nilFunc], .bool true]) ∧ Below w.heap.size w w' :=
  ruleOf_n 192 32 32 34 look4 w
theorem ruleOf193 (w : World) : Calls Tryd.prog 20 #[.int .i64 193] w fun e w' => e = .returned (.tuple #[.agg #[.int .i64 32, .int .i64 32, .nilFunc, .func (.func 35) #[] #[], .nilFunc], .bool true]) ∧ Below w.heap.size w w' :=
  ruleOf_n 193 32 32 35 look5 w
theorem ruleOf172 (w : World) : Calls Tryd.prog 20 #[.int .i64 172] w fun e w' => e = .returned (.tuple #[.agg #[.int .i64 32, .int .i64 64, .nilFunc, .func (.func 36) #[] #[], .nilFunc], .bool true]) ∧ Below w.heap.size w w' :=
  ruleOf_n 172 32 64 36 look6 w
theorem ruleOf173 (w : World) : Calls Tryd.prog 20 #[.int .i64 173] w fun e w' => e = .returned (.tuple #[.agg #[.int .i64 32, .int .i64 64, .nilFunc, .func (.func 37) #[] #[], .nilFunc], .bool true]) ∧ Below w.heap.size w w' :=
  ruleOf_n 173 32 64 37 look7 w
theorem ruleOf80 (w : World) : Calls Tryd.prog 20 #[.int .i64 80] w fun e w' => e = .returned (.tuple #[.agg #[.int .i64 64, .int .i64 32, .func (.func 38) #[] #[], .nilFunc, .nilFunc], .bool true]) ∧ Below w.heap.size w w' :=
  ruleOf_w 80 64 32 38 look8 w
theorem ruleOf121 (w : World) : Calls Tryd.prog 20 #[.int .i64 121] w fun e w' => e = .returned (.tuple #[.agg #[.int .i64 64, .int .i64 64, .func (.func 39) #[] #[], .nilFunc, .nilFunc], .bool true]) ∧ Below w.heap.size w w' :=
  ruleOf_w 121 64 64 39 look9 w
theorem ruleOf122 (w : World) : Calls Tryd.prog 20 #[.int .i64 122] w fun e w' => e = .returned (.tuple #[.agg #[.int .i64 64, .int .i64 64, .func (.func 40) #[] #[], .nilFunc, .nilFunc], .bool true]) ∧ Below w.heap.size w w' :=
  ruleOf_w 122 64 64 40 look10 w
theorem ruleOf123 (w : World) : Calls Tryd.prog 20 #[.int .i64 123] w fun e w' => e = .returned (.tuple #[.agg #[.int .i64 64, .int .i64 64, .func (.func 41) #[] #[], .nilFunc, .nilFunc], .bool true]) ∧ Below w.heap.size w w' :=
  ruleOf_w 123 64 64 41 look11 w
theorem ruleOf194 (w : World) : Calls Tryd.prog 20 #[.int .i64 194] w fun e w' => e = .returned (.tuple #[.agg #[.int .i64 64, .int .i64 64, .func (.func 42) #[] #[], .nilFunc, .nilFunc], .bool true]) ∧ Below w.heap.size w w' :=
  ruleOf_w 194 64 64 42 look12 w
theorem ruleOf195 (w : World) : Calls Tryd.prog 20 #[.int .i64 195] w fun e w' => e = .returned (.tuple #[.agg #[.int .i64 64, .int .i64 64, .func (.func 43) #[] #[], .nilFunc, .nilFunc], .bool true]) ∧ Below w.heap.size w w' :=
  ruleOf_w 195 64 64 43 look13 w
theorem ruleOf196 (w : World) : Calls Tryd.prog 20 #[.int .i64 196] w fun e w' => e = .returned (.tuple #[.agg #[.int .i64 64, .int .i64 64, .func (.func 44) #[] #[], .nilFunc, .nilFunc], .bool true]) ∧ Below w.heap.size w w' :=
  ruleOf_w 196 64 64 44 look14 w
theorem ruleOf167 (w : World) : Calls Tryd.prog 20 #[.int .i64 167] w fun e w' => e = .returned (.tuple #[.agg #[.int .i64 64, .int .i64 32, .func (.func 45) #[] #[], .nilFunc, .nilFunc], .bool true]) ∧ Below w.heap.size w w' :=
  ruleOf_w 167 64 32 45 look15 w
end Go.Proofs.YtfcagbgnlibfpaaDoor.A
