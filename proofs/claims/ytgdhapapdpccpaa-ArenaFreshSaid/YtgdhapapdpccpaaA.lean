/- arena: the memory of an arena as plain data: which blocks are its own, what they hold; what a store into one of them leaves. -/
import Derived.WalkKit
import Derived.Below
import Derived.Laws.IdiomCopy
import Derived.Deep.QuietTactic
import Derived.BigQuiet
import Derived.Deep.RegionHeld
import Derived.Lib.Hide
import Derived.Test.YtgdhapapdpccpaaProg
namespace Go.Proofs.Ytgdhapapdpccpaa.A
open Go.RowKit
set_option linter.unusedVariables false
set_option linter.unusedSimpArgs false

/-! ### Memory, block by block -/
theorem heap_set_same {w : World} {b o : Nat} {v : Value} {c : Array Value} {e : TypeId} {fz : Nat × Nat} (h : w.heap[b]? = some (.cells c e fz)) :
    (w.setCell ⟨b, o, none⟩ v).heap[b]? = some (.cells (c.setIfInBounds o v) e fz) := by
  simp [World.setCell, Array.getElem?_modify, h]
theorem heap_set_other {w : World} {b k o : Nat} {v : Value} (h : k ≠ b) : (w.setCell ⟨b, o, none⟩ v).heap[k]? = w.heap[k]? := Below.heap_setCell _ _ _ _ h
theorem heap_lt {w : World} {b : Nat} {o : Obj} (h : w.heap[b]? = some o) : b < w.heap.size := (Array.getElem?_eq_some_iff.1 h).1
theorem heap_alloc_old {w : World} {b : Nat} {o o' : Obj} (h : w.heap[b]? = some o) : (w.alloc o').heap[b]? = some o := (Below.heap_alloc _ _ _ (heap_lt h)).trans h
theorem heap_alloc_new {w : World} {o : Obj} : (w.alloc o).heap[w.heap.size]? = some o := by show (w.heap.push o)[w.heap.size]? = some o; simp
theorem cell_of {w : World} {b o : Nat} {c : Array Value} {e : TypeId} {fz : Nat × Nat} (h : w.heap[b]? = some (.cells c e fz)) : w.cell? ⟨b, o, none⟩ = c[o]? := by
  simp [World.cell?, h]
theorem frozen_of {w : World} {b o : Nat} {c : Array Value} {e : TypeId} (h : w.heap[b]? = some (.cells c e (0, 0))) : w.frozen? ⟨b, o, none⟩ = false := by
  simp [World.frozen?, h]

/-! ### What an arena's memory is -/
/-- A list of addresses as a slice: its block, its capacity, its elements. -/
structure FS where
  blk : Option Nat
  cap : Nat
  xs : List Int
def FS.val (f : FS) : Value := match f.blk with
  | none => .slice none 0 0
  | some b => .slice (some ⟨b, 0, none⟩) f.xs.length f.cap
def FS.ok (w : World) (f : FS) : Prop := match f.blk with
  | none => f.xs = []
  | some b => ∃ cur, w.heap[b]? = some (.cells cur 3 (0, 0)) ∧ cur.size = f.cap ∧ f.xs.length ≤ f.cap ∧ f.cap ≤ maxLen ∧ ∀ j, j < f.xs.length → cur[j]? = some (.int .i64 (f.xs.getD j 0))
/-- An arena: the blocks it stands in, and what they hold. -/
structure Ar where
  p : Nat
  pw : Nat
  pl : Nat
  fs : Nat → FS
  ws : List Int
  us : Int
  lv : List Bool
def Ar.cells (A : Ar) : List Value :=
  .slice (some ⟨A.pw, 0, none⟩) A.ws.length A.ws.length :: .int .i64 A.us :: ((List.range 22).map (fun c => (A.fs c).val) ++ [.slice (some ⟨A.pl, 0, none⟩) A.lv.length A.lv.length])
def Ar.foot (A : Ar) (b : Nat) : Prop := b = A.p ∨ b = A.pw ∨ b = A.pl ∨ ∃ c, c < 22 ∧ (A.fs c).blk = some b
structure Rep (w : World) (A : Ar) : Prop where
  hp : w.heap[A.p]? = some (.cells A.cells.toArray 93 (0, 0))
  hw : w.heap[A.pw]? = some (.cells (A.ws.map (Value.int .u64)).toArray 22 (0, 0))
  hl : w.heap[A.pl]? = some (.cells (A.lv.map Value.bool).toArray 4 (0, 0))
  hf : ∀ c, c < 22 → (A.fs c).ok w
  n1 : A.p ≠ A.pw
  n2 : A.p ≠ A.pl
  n3 : A.pw ≠ A.pl
  n4 : ∀ c b, c < 22 → (A.fs c).blk = some b → b ≠ A.p ∧ b ≠ A.pw ∧ b ≠ A.pl
  n5 : ∀ c d b, c < 22 → d < 22 → c ≠ d → (A.fs c).blk = some b → (A.fs d).blk ≠ some b
  sz : A.ws.length ≤ 1048576
  ll : A.lv.length = A.ws.length + 1
  us0 : 0 ≤ A.us ∧ A.us ≤ 1048576
  wb : ∀ i, 0 ≤ A.ws.getD i 0 ∧ A.ws.getD i 0 < 18446744073709551616

theorem FS.ok_congr {w w' : World} {f : FS} (h : f.ok w) (hs : ∀ b, f.blk = some b → w'.heap[b]? = w.heap[b]?) : f.ok w' := by
  unfold FS.ok at *
  split at h
  · exact h
  · rename_i b hb
    rw [hs b hb]; exact h
theorem Rep.congr {w w' : World} {A : Ar} (R : Rep w A) (h : ∀ b, A.foot b → w'.heap[b]? = w.heap[b]?) : Rep w' A where
  hp := (h _ (.inl rfl)).trans R.hp
  hw := (h _ (.inr (.inl rfl))).trans R.hw
  hl := (h _ (.inr (.inr (.inl rfl)))).trans R.hl
  hf c hc := FS.ok_congr (R.hf c hc) (fun b hb => h b (.inr (.inr (.inr ⟨c, hc, hb⟩))))
  n1 := R.n1
  n2 := R.n2
  n3 := R.n3
  n4 := R.n4
  n5 := R.n5
  sz := R.sz
  ll := R.ll
  us0 := R.us0
  wb := R.wb
theorem Rep.lt {w : World} {A : Ar} (R : Rep w A) {b : Nat} (h : A.foot b) : b < w.heap.size := by
  rcases h with rfl | rfl | rfl | ⟨c, hc, h⟩
  · exact heap_lt R.hp
  · exact heap_lt R.hw
  · exact heap_lt R.hl
  · have := R.hf c hc
    unfold FS.ok at this
    rw [h] at this
    obtain ⟨cur, hb, _⟩ := this
    exact heap_lt hb

/-! ### Cells, as a walk reads them -/
section
variable {w : World} {A : Ar} (R : Rep w A)
include R
theorem Rep.c0 : w.cell? ⟨A.p, 0, none⟩ = some (.slice (some ⟨A.pw, 0, none⟩) A.ws.length A.ws.length) := by rw [cell_of R.hp]; simp [Ar.cells]
theorem Rep.c1 : w.cell? ⟨A.p, 1, none⟩ = some (.int .i64 A.us) := by rw [cell_of R.hp]; simp [Ar.cells]
theorem Rep.cf (c : Nat) (hc : c < 22) : w.cell? ⟨A.p, 2 + c, none⟩ = some (A.fs c).val := by
  rw [cell_of R.hp, show 2 + c = c + 1 + 1 by omega]
  simp only [Ar.cells, List.getElem?_toArray, List.getElem?_cons_succ]
  rw [List.getElem?_append_left (by simpa using hc)]
  simp [hc]
theorem Rep.cl : w.cell? ⟨A.p, 24, none⟩ = some (.slice (some ⟨A.pl, 0, none⟩) A.lv.length A.lv.length) := by rw [cell_of R.hp]; simp [Ar.cells]
theorem Rep.cw (i : Nat) (hi : i < A.ws.length) : w.cell? ⟨A.pw, i, none⟩ = some (.int .u64 (A.ws.getD i 0)) := by
  rw [cell_of R.hw]; simp [List.getD, hi]
theorem Rep.cv (i : Nat) (hi : i < A.lv.length) : w.cell? ⟨A.pl, i, none⟩ = some (.bool (A.lv.getD i false)) := by
  rw [cell_of R.hl]; simp [List.getD, hi]
theorem Rep.zp (o : Nat) : w.frozen? ⟨A.p, o, none⟩ = false := frozen_of R.hp
theorem Rep.zw (o : Nat) : w.frozen? ⟨A.pw, o, none⟩ = false := frozen_of R.hw
theorem Rep.zl (o : Nat) : w.frozen? ⟨A.pl, o, none⟩ = false := frozen_of R.hl
end

/-! ### What a step leaves -/
/-- From one arena and world to the next: no other block that was there has turned; what the arena stands in was its own, or is new. -/
structure Steps (w : World) (A : Ar) (w' : World) (A' : Ar) : Prop where
  p : A'.p = A.p
  pw : A'.pw = A.pw
  pl : A'.pl = A.pl
  len : A'.ws.length = A.ws.length
  foot : ∀ b, A'.foot b → A.foot b ∨ w.heap.size ≤ b
  os : w'.os = w.os
  tape : w'.tape = w.tape
  output : w'.output = w.output
  size : w.heap.size ≤ w'.heap.size
  off : ∀ k, k < w.heap.size → ¬ A.foot k → w'.heap[k]? = w.heap[k]?
theorem Steps.refl (w : World) (A : Ar) : Steps w A w A := ⟨rfl, rfl, rfl, rfl, fun _ h => .inl h, rfl, rfl, rfl, Nat.le_refl _, fun _ _ _ => rfl⟩
theorem Steps.trans {w1 w2 w3 : World} {A1 A2 A3 : Ar} (h : Steps w1 A1 w2 A2) (k : Steps w2 A2 w3 A3) : Steps w1 A1 w3 A3 where
  p := k.p.trans h.p
  pw := k.pw.trans h.pw
  pl := k.pl.trans h.pl
  len := k.len.trans h.len
  foot b hb := by
    rcases k.foot b hb with h2 | h2
    · exact h.foot b h2
    · exact .inr (Nat.le_trans h.size h2)
  os := k.os.trans h.os
  tape := k.tape.trans h.tape
  output := k.output.trans h.output
  size := Nat.le_trans h.size k.size
  off b hb hn := by
    have : ¬ A2.foot b := fun h2 => by
      rcases h.foot b h2 with h3 | h3
      · exact hn h3
      · omega
    exact (k.off b (Nat.lt_of_lt_of_le hb h.size) this).trans (h.off b hb hn)
theorem Steps.below {w w' : World} {A A' : Ar} {B : Nat} (h : Steps w A w' A') (hB : ∀ b, A.foot b → B ≤ b) (hs : B ≤ w.heap.size) : Below B w w' :=
  ⟨h.os, h.tape, h.output, h.size, fun k hk => h.off k (by omega) (fun hf => by have := hB k hf; omega)⟩
theorem Steps.keep {w w' : World} {A A' : Ar} (h : Steps w A w' A') {b : Nat} {o : Obj} (hb : w.heap[b]? = some o) (hn : ¬ A.foot b) : w'.heap[b]? = some o := (h.off b (heap_lt hb) hn).trans hb
theorem Steps.drew {w w' : World} {A A' : Ar} (h : Steps w A w' A') : Steps w A w'.drew A' := ⟨h.p, h.pw, h.pl, h.len, h.foot, h.os, h.tape, h.output, h.size, h.off⟩
theorem Steps.drewN {w w' : World} {A A' : Ar} (h : Steps w A w' A') (n : Nat) : Steps w A (w'.drewN n) A' := ⟨h.p, h.pw, h.pl, h.len, h.foot, h.os, h.tape, h.output, h.size, h.off⟩
theorem Rep.drew {w : World} {A : Ar} (R : Rep w A) : Rep w.drew A := R.congr (fun _ _ => rfl)
theorem Rep.drewN {w : World} {A : Ar} (R : Rep w A) (n : Nat) : Rep (w.drewN n) A := R.congr (fun _ _ => rfl)
theorem Rep.alloc {w : World} {A : Ar} (R : Rep w A) (o : Obj) : Rep (w.alloc o) A := R.congr (fun b hb => Below.heap_alloc _ _ _ (R.lt hb))
theorem Steps.alloc {w w' : World} {A A' : Ar} (h : Steps w A w' A') (o : Obj) : Steps w A (w'.alloc o) A' where
  p := h.p
  pw := h.pw
  pl := h.pl
  len := h.len
  foot := h.foot
  os := h.os
  tape := h.tape
  output := h.output
  size := Nat.le_trans h.size (by simp)
  off k hk hn := (Below.heap_alloc _ _ _ (Nat.lt_of_lt_of_le hk h.size)).trans (h.off k hk hn)

/-- A store into the words. -/
theorem Rep.setW {w : World} {A : Ar} (R : Rep w A) (i : Nat) (x : Int) (hx : 0 ≤ x ∧ x < 18446744073709551616) : Rep (w.setCell ⟨A.pw, i, none⟩ (.int .u64 x)) { A with ws := A.ws.set i x } where
  hp := by
    rw [heap_set_other R.n1, R.hp]
    simp [Ar.cells]
  hw := by
    rw [heap_set_same R.hw]
    simp [List.map_set]
  hl := (heap_set_other (Ne.symm R.n3)).trans R.hl
  hf c hc := FS.ok_congr (R.hf c hc) (fun b hb => heap_set_other (R.n4 c b hc hb).2.1)
  n1 := R.n1
  n2 := R.n2
  n3 := R.n3
  n4 := R.n4
  n5 := R.n5
  sz := by simpa using R.sz
  ll := by simpa using R.ll
  us0 := R.us0
  wb j := by
    simp only [List.getD_eq_getElem?_getD, List.getElem?_set]
    split
    · split
      · exact hx
      · exact ⟨Int.le_refl _, by decide⟩
    · have := R.wb j
      rwa [List.getD_eq_getElem?_getD] at this
theorem Steps.setW {w : World} {A : Ar} (i : Nat) (x : Int) : Steps w A (w.setCell ⟨A.pw, i, none⟩ (.int .u64 x)) { A with ws := A.ws.set i x } where
  p := rfl
  pw := rfl
  pl := rfl
  len := by simp
  foot b h := .inl h
  os := rfl
  tape := rfl
  output := rfl
  size := by simp [World.setCell]
  off k hk hn := heap_set_other (fun e => hn (.inr (.inl e)))
/-- A store into the table of what lives. -/
theorem Rep.setL {w : World} {A : Ar} (R : Rep w A) (i : Nat) (x : Bool) : Rep (w.setCell ⟨A.pl, i, none⟩ (.bool x)) { A with lv := A.lv.set i x } where
  hp := by
    rw [heap_set_other R.n2, R.hp]
    simp [Ar.cells]
  hw := (heap_set_other R.n3).trans R.hw
  hl := by
    rw [heap_set_same R.hl]
    simp [List.map_set]
  hf c hc := FS.ok_congr (R.hf c hc) (fun b hb => heap_set_other (R.n4 c b hc hb).2.2)
  n1 := R.n1
  n2 := R.n2
  n3 := R.n3
  n4 := R.n4
  n5 := R.n5
  sz := R.sz
  ll := by simpa using R.ll
  us0 := R.us0
  wb := R.wb
theorem Steps.setL {w : World} {A : Ar} (i : Nat) (x : Bool) : Steps w A (w.setCell ⟨A.pl, i, none⟩ (.bool x)) { A with lv := A.lv.set i x } where
  p := rfl
  pw := rfl
  pl := rfl
  len := rfl
  foot b h := .inl h
  os := rfl
  tape := rfl
  output := rfl
  size := by simp [World.setCell]
  off k hk hn := heap_set_other (fun e => hn (.inr (.inr (.inl e))))
/-- A store of how much is used. -/
theorem Rep.setU {w : World} {A : Ar} (R : Rep w A) (x : Int) (h0 : 0 ≤ x) (h1 : x ≤ 1048576) : Rep (w.setCell ⟨A.p, 1, none⟩ (.int .i64 x)) { A with us := x } where
  hp := by
    rw [heap_set_same R.hp]
    simp [Ar.cells]
  hw := (heap_set_other (Ne.symm R.n1)).trans R.hw
  hl := (heap_set_other (Ne.symm R.n2)).trans R.hl
  hf c hc := FS.ok_congr (R.hf c hc) (fun b hb => heap_set_other (R.n4 c b hc hb).1)
  n1 := R.n1
  n2 := R.n2
  n3 := R.n3
  n4 := R.n4
  n5 := R.n5
  sz := R.sz
  ll := R.ll
  us0 := ⟨h0, h1⟩
  wb := R.wb
theorem Steps.setU {w : World} {A : Ar} (x : Int) : Steps w A (w.setCell ⟨A.p, 1, none⟩ (.int .i64 x)) { A with us := x } where
  p := rfl
  pw := rfl
  pl := rfl
  len := rfl
  foot b h := .inl h
  os := rfl
  tape := rfl
  output := rfl
  size := by simp [World.setCell]
  off k hk hn := heap_set_other (fun e => hn (.inl e))
end Go.Proofs.Ytgdhapapdpccpaa.A
