/- arena: drop and put: a free block out of its list, and into it. -/
import Derived.Test.YtgdhapapdpccpaaC
import Derived.Deep.RegionHeld3
namespace Go.Proofs.Ytgdhapapdpccpaa.A
open Go.RowKit Go.Proofs
set_option linter.unusedVariables false
set_option linter.unusedSimpArgs false

theorem cls_lt (n : Int) (h0 : 1 ≤ n) (h1 : n ≤ 1048576) : cls n < 22 := by
  unfold cls
  have : Lib.bitLen n.toNat ≤ 21 := Lib.bitLen_le n.toNat 21 (by omega) (by omega)
  omega
theorem FS.ok_drewN {w : World} {f : FS} (h : f.ok w) (q : Nat) : f.ok (w.drewN q) := FS.ok_congr h (fun _ _ => rfl)

/-- The same memory: at most the draws have gone on. -/
def Dr (w w1 : World) : Prop := w1.heap = w.heap ∧ w1.os = w.os ∧ w1.tape = w.tape ∧ w1.output = w.output
theorem FS.ok_dr {w w1 : World} {f : FS} (h : f.ok w) (d : Dr w w1) : f.ok w1 := FS.ok_congr h (fun _ _ => by rw [d.1])
theorem But.of_dr {F : Nat → Prop} {w w1 w2 : World} (d : Dr w w1) (h : But F w1 w2) : But F w w2 :=
  ⟨h.os.trans d.2.1, h.tape.trans d.2.2.1, h.output.trans d.2.2.2, by have := h.size; rw [d.1] at this; exact this, fun k hk hn => by rw [h.off k (by rw [d.1]; exact hk) hn, d.1]⟩
theorem cell_but {F : Nat → Prop} {w w1 : World} (h : But F w w1) {b o : Nat} {v : Value} (hc : w.cell? ⟨b, o, none⟩ = some v) (hn : ¬ F b) : w1.cell? ⟨b, o, none⟩ = some v := by
  have hb : b < w.heap.size := World.block_lt_of_cell? w _ hc
  have := h.off b hb hn
  unfold World.cell? at hc ⊢
  rw [this]; exact hc
theorem frozen_but {F : Nat → Prop} {w w1 : World} (h : But F w w1) {b o : Nat} (hb : b < w.heap.size) (hc : w.frozen? ⟨b, o, none⟩ = false) (hn : ¬ F b) : w1.frozen? ⟨b, o, none⟩ = false := by
  have := h.off b hb hn
  unfold World.frozen? at hc ⊢
  rw [this]; exact hc

theorem FS.val_slice (f : FS) : ∃ a n c, f.val = .slice a n c := by
  unfold FS.val; split <;> exact ⟨_, _, _, rfl⟩
set_option maxHeartbeats 1000000 in
/-- What drop does: the block is no more in the list of its size. -/
theorem drop_calls {w : World} {A : Ar} (R : Rep w A) (at_ : Int) (h0 : 1 ≤ at_) (h1 : at_ ≤ A.ws.length) (s0 : 1 ≤ A.size at_) (s1 : A.size at_ ≤ 1048576)
    (hl : (A.fs (cls (A.size at_))).xs.length ≤ 1048576) (hs : (A.fs (cls (A.size at_))).xs.Pairwise (· ≤ ·)) (i : Nat) (hi : i = (A.fs (cls (A.size at_))).xs.countP (· < at_)) (hi2 : i < (A.fs (cls (A.size at_))).xs.length) :
    Calls Try.prog 54 #[.pointer (some ⟨A.p, 0, none⟩), .int .i64 at_] w fun e w' => ∃ f' : FS, f'.xs = (A.fs (cls (A.size at_))).xs.take i ++ (A.fs (cls (A.size at_))).xs.drop (i + 1) ∧
      e = .returned (.tuple #[]) ∧ Rep w' (A.setF (cls (A.size at_)) f') ∧ Steps w A w' (A.setF (cls (A.size at_)) f') := by
  have c22 := cls_lt _ s0 s1
  have T := Lib.hid (size_calls R at_ h0 h1)
  have U := Lib.hid (class_calls (A.size at_) s0 s1)
  generalize hsz : A.size at_ = s at *
  generalize hc : cls s = c at *
  have hf := R.hf c c22
  have V := Lib.hid (search_calls hf hl hs at_)
  have cf := R.cf c c22
  have zp := R.zp (2 + c)
  have sz := R.sz
  have np : ¬ (A.fs c).blk = some A.p := fun e => (R.n4 c _ c22 e).1 rfl
  have W : ∀ w1, Dr w w1 → Calls Try.prog 82 #[(A.fs c).val, .int .i64 i, .int .i64 (i + 1)] w1 fun e w2 => ∃ (f' : FS) (ba : Option Addr) (bn bc : Nat), e = .returned (.slice ba bn bc) ∧ f'.xs = (A.fs c).xs.take i ++ (A.fs c).xs.drop (i + 1) ∧
      Rep (w2.setCell ⟨A.p, 2 + c, none⟩ (.slice ba bn bc)) (A.setF c f') ∧ Steps w A (w2.setCell ⟨A.p, 2 + c, none⟩ (.slice ba bn bc)) (A.setF c f') ∧ w2.cell? ⟨A.p, 2 + c, none⟩ = some (A.fs c).val ∧ w2.frozen? ⟨A.p, 2 + c, none⟩ = false := fun w1 d => by
    refine (delete_calls (FS.ok_dr hf d) i hi2 hl).mono ?_
    rintro e w2 ⟨f', rfl, k1, k2, k3, k4⟩
    have B := But.of_dr d k4
    have X := R.swap c c22 f' B k1 (fun b' hb' => .inl (k3 ▸ hb'))
    obtain ⟨ba, bn, bc, hv⟩ := f'.val_slice
    rw [hv] at X
    exact ⟨f', ba, bn, bc, by rw [hv], k2, X.1, X.2, cell_but B cf np, frozen_but B (R.lt (.inl rfl)) zp np⟩
  replace W := Lib.hid W
  have k0 : IntKind.i64.wrap ((i : Int) + 1) = (i : Int) + 1 := i64w _ (by omega) (by omega)
  have k1 : wrap64 ((i : Int) + 1) = (i : Int) + 1 := w64 _ (by omega) (by omega)
  have b0 : (0 : Int) ≤ (c : Int) := by omega
  have b1 : (c : Int) < 22 := by omega
  rw [← hi] at V
  clear R hf hs h0 h1 s0 s1 hi
  go_enter Try.func54, Try.ntmps54
  go_wp2_with (first | (go_at_call 52; (with_reducible refine (T.out).mono ?_); rintro e w' ⟨rfl, rfl⟩) | (go_at_call 53; (with_reducible refine (U.out _).mono ?_); rintro e w' ⟨rfl, rfl⟩) | (go_at_call 67; (with_reducible refine (V.out).mono ?_); rintro e w' ⟨rfl, q, rfl⟩))
  go_region_with (first | (go_at_call 82; (with_reducible refine (W.out _ ?_).mono ?_); (exact ⟨rfl, rfl, rfl, rfl⟩); rintro e w2 ⟨f', ba, bn, bc, rfl, g0, g1, g2, g3, g4⟩))
  go_end0
  exact ⟨f', g0, rfl, g1, g2⟩

/-- The parts of a store's address in the words. -/
theorem put_next {w : World} {A : Ar} (R : Rep w A) (at_ size : Int) (h0 : 1 ≤ at_) (h1 : at_ ≤ A.ws.length) (s0 : 1 ≤ size) (s1 : size ≤ 1048576)
    (hl : (A.fs (cls size)).xs.length ≤ 1048575) (i : Nat) (hi2 : i ≤ (A.fs (cls size)).xs.length) (w1 w2 w3 : World) (d1 : Dr w w1) (fc : FS) (kc : Below w1.heap.size w1 w2) (okc : fc.ok w2) (xc : fc.xs = (A.fs (cls size)).xs) (bc : ∀ b, fc.blk = some b → w1.heap.size ≤ b)
    (d3 : Dr (w2.alloc (.cells #[.int .i64 at_] 3)) w3) :
    Calls Try.prog 68 #[fc.val, .int .i64 i, .slice (some ⟨w2.heap.size, 0, none⟩) 1 1] w3 fun e w4 => ∃ (f' : FS) (ba : Option Addr) (bn bc : Nat), f'.xs = ins (A.fs (cls size)).xs i at_ ∧ e = .returned (.slice ba bn bc) ∧
      ∀ w5, Dr w4 w5 → Rep (w5.setCell ⟨A.p, 2 + cls size, none⟩ (.slice ba bn bc)) (A.setF (cls size) f') ∧ Steps w A (w5.setCell ⟨A.p, 2 + cls size, none⟩ (.slice ba bn bc)) (A.setF (cls size) f') ∧
        w5.cell? ⟨A.p, 2 + cls size, none⟩ = some (A.fs (cls size)).val ∧ w5.frozen? ⟨A.p, 2 + cls size, none⟩ = false := by
  have c22 := cls_lt _ s0 s1
  have hz : w1.heap.size = w.heap.size := by rw [d1.1]
  have hok3 : fc.ok w3 := FS.ok_congr okc (fun b hb => by
    rw [d3.1]
    cases hbk : fc.blk with
    | none => rw [hbk] at hb; cases hb
    | some b' =>
      obtain ⟨cur, hc, _⟩ := FS.cells okc hb
      exact Below.heap_alloc _ _ _ (heap_lt hc))
  have hv : w3.heap[w2.heap.size]? = some (.cells #[.int .i64 at_] 3 (0, 0)) := by rw [d3.1]; exact heap_alloc_new
  have hne : fc.blk ≠ some w2.heap.size := fun e => by
    obtain ⟨cur, hc, _⟩ := FS.cells okc e
    have := heap_lt hc
    omega
  refine (insert_calls hok3 i (by rw [xc]; exact hi2) at_ w2.heap.size hv hne (by rw [xc]; omega)).mono ?_
  rintro e w4 ⟨f', rfl, k1, k2, ⟨b, kb, kb2⟩, kB⟩
  obtain ⟨ba, bn, bc9, hval⟩ := f'.val_slice
  refine ⟨f', ba, bn, bc9, by rw [k2, xc], by rw [hval], fun w5 d5 => ?_⟩
  have hle : w.heap.size ≤ w2.heap.size := by have := kc.size; omega
  have h3z : w3.heap.size = w2.heap.size + 1 := by rw [d3.1]; simp
  have B : But (fun b => (A.fs (cls size)).blk = some b) w w5 := {
    os := by rw [d5.2.1, kB.os, d3.2.1, ← d1.2.1]; exact kc.os
    tape := by rw [d5.2.2.1, kB.tape, d3.2.2.1, ← d1.2.2.1]; exact kc.tape
    output := by rw [d5.2.2.2, kB.output, d3.2.2.2, ← d1.2.2.2]; exact kc.output
    size := by have := kB.size; rw [d5.1]; omega
    off := fun k hk hn => by
      rw [d5.1, kB.off k (by omega) (fun e => by have := bc k e; omega), d3.1, Below.heap_alloc _ _ _ (by omega), kc.block k (by omega), d1.1] }
  have hb : ∀ b, f'.blk = some b → (A.fs (cls size)).blk = some b ∨ w.heap.size ≤ b := fun b' hb' => by
    rw [kb] at hb'
    cases hb'
    rcases kb2 with e | e
    · exact .inr (by have := bc b e; omega)
    · exact .inr (by omega)
  have ok5 : f'.ok w5 := FS.ok_dr k1 d5
  have X := R.swap (cls size) c22 f' B ok5 hb
  rw [hval] at X
  have np : ¬ (A.fs (cls size)).blk = some A.p := fun e => (R.n4 _ _ c22 e).1 rfl
  exact ⟨X.1, X.2, cell_but B (R.cf _ c22) np, frozen_but B (R.lt (.inl rfl)) (R.zp _) np⟩

set_option maxHeartbeats 2000000 in
/-- What put does: the head is set, and the block is in the list of its size. -/
theorem put_calls {w : World} {A : Ar} (R : Rep w A) (at_ size : Int) (h0 : 1 ≤ at_) (h1 : at_ ≤ A.ws.length) (s0 : 1 ≤ size) (s1 : size ≤ 1048576)
    (hl : (A.fs (cls size)).xs.length ≤ 1048575) (hs : (A.fs (cls size)).xs.Pairwise (· ≤ ·)) (i : Nat) (hi : i = (A.fs (cls size)).xs.countP (· < at_)) (A1 : Ar) (hA1 : A1 = { A with ws := A.ws.set (at_.toNat - 1) (size * 4) }) :
    Calls Try.prog 55 #[.pointer (some ⟨A.p, 0, none⟩), .int .i64 at_, .int .i64 size] w fun e w' => ∃ f' : FS, f'.xs = ins (A.fs (cls size)).xs i at_ ∧
      e = .returned (.tuple #[]) ∧ Rep w' (A1.setF (cls size) f') ∧ Steps w A w' (A1.setF (cls size) f') := by
  have c22 := cls_lt _ s0 s1
  have hi2 : i ≤ (A.fs (cls size)).xs.length := by rw [hi]; exact List.countP_le_length
  have sz := R.sz
  have c0 := R.c0
  have cw := R.cw (at_.toNat - 1) (by omega)
  have zw := R.zw (at_.toNat - 1)
  have R1 := R.setW (at_.toNat - 1) (size * 4) (by omega)
  have S1 := Steps.setW (w := w) (A := A) (at_.toNat - 1) (size * 4)
  rw [← hA1] at R1 S1
  have e1 : A1.p = A.p := by rw [hA1]
  have e2 : A1.fs = A.fs := by rw [hA1]
  have e3 : A1.ws.length = A.ws.length := by rw [hA1]; simp
  have U := Lib.hid (class_calls size s0 s1)
  have k0 : wrap64 (at_ - 1) = at_ - 1 := w64 _ (by omega) (by omega)
  have k1 : 0 ≤ at_ - 1 := by omega
  have k2 : at_ - 1 < A.ws.length := by omega
  have k3 : IntKind.u64.wrap (size * 4) = size * 4 := by rw [IntKind.wrap_u64]; omega
  have k4 : IntKind.u64.wrap size = size := by rw [IntKind.wrap_u64]; omega
  generalize hc : cls size = c at *
  have hf1 := R1.hf c c22
  have cf1 := R1.cf c c22
  rw [e1, e2] at cf1
  rw [e2] at hf1
  have V := Lib.hid (search_calls hf1 (by omega) hs at_)
  rw [← hi] at V
  have b0 : (0 : Int) ≤ (c : Int) := by omega
  have b1 : (c : Int) < 22 := by omega
  have K : ∀ wa, Dr (w.setCell ⟨A.pw, at_.toNat - 1, none⟩ (.int .u64 (size * 4))) wa → Calls Try.prog 65 #[(A.fs c).val] wa fun e w' => ∃ f' : FS, e = .returned f'.val ∧ f'.ok w' ∧ f'.xs = (A.fs c).xs ∧ (∀ b, f'.blk = some b → wa.heap.size ≤ b) ∧ Below wa.heap.size wa w' :=
    fun wa d => clone_calls (FS.ok_dr hf1 d) (by omega)
  replace K := Lib.hid K
  have PN := put_next R1 at_ size h0 (by rw [e3]; exact h1) s0 s1 (by rw [e2, hc]; exact hl) i (by rw [e2, hc]; exact hi2)
  rw [e1, e2, hc] at PN
  replace PN := Lib.hid PN
  go_enter Try.func55, Try.ntmps55
  go_wp2_with fail
  generalize hw1 : w.setCell ⟨A.pw, at_.toNat - 1, none⟩ (.int .u64 (size * 4)) = w1 at *
  have zp1 := R1.zp (2 + c)
  rw [e1] at zp1
  clear R R1 hf1 hs h0 h1 s0 s1 hi hA1 cw zw c0 k0 k1 k2 k3 k4 hw1
  go_wp2_with (first | (go_at_call 53; (with_reducible refine (U.out _).mono ?_); rintro e w' ⟨rfl, rfl⟩) | (go_at_call 67; (with_reducible refine (V.out).mono ?_); rintro e w' ⟨rfl, q, rfl⟩) | (go_at_call 65; (with_reducible refine (K.out _ ?_).mono ?_); (exact ⟨rfl, rfl, rfl, rfl⟩); rintro e w2 ⟨fc, rfl, okc, xc, bc, kc⟩) | (go_at_call 68; (with_reducible refine (PN.out _ _ _ ?d1 fc kc okc xc bc ?d2).mono ?_); (case d1 => exact ⟨rfl, rfl, rfl, rfl⟩); (case d2 => exact ⟨rfl, rfl, rfl, rfl⟩); rintro e w4 ⟨f', ba, bn, bc9, x', rfl, Z⟩; have Z4 := Z w4 ⟨rfl, rfl, rfl, rfl⟩; obtain ⟨_, _, z3, z4⟩ := Z4))
  go_end0
  have Z4 := Z w4 ⟨rfl, rfl, rfl, rfl⟩
  exact ⟨f', x', rfl, Z4.1, S1.trans Z4.2.1⟩
end Go.Proofs.Ytgdhapapdpccpaa.A
