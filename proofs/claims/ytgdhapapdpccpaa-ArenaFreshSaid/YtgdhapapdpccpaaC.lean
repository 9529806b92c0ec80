/- arena: the small functions: class, size, is. -/
import Derived.Test.YtgdhapapdpccpaaB
namespace Go.Proofs.Ytgdhapapdpccpaa.A
open Go.RowKit Go.Proofs
set_option linter.unusedVariables false
set_option linter.unusedSimpArgs false

theorem w64 (n : Int) (h0 : -9223372036854775808 ≤ n) (h1 : n < 9223372036854775808) : wrap64 n = n := by unfold wrap64; omega
theorem i64w (n : Int) (h0 : -9223372036854775808 ≤ n) (h1 : n < 9223372036854775808) : IntKind.i64.wrap n = n := by rw [IntKind.wrap_i64]; omega
theorem ret_int {z z' : Int} {k : IntKind} (h : z = z') : Ending.returned (Value.int k z) = Ending.returned (Value.int k z') := congrArg _ (congrArg _ h)
/-- The power of 2 of a size. -/
def cls (n : Int) : Nat := Lib.bitLen n.toNat - 1
theorem class_calls (n : Int) (h0 : 1 ≤ n) (h1 : n ≤ 1048576) (w : World) :
    Calls Try.prog 53 #[.int .i64 n] w fun e w' => e = .returned (.int .i64 (cls n : Int)) ∧ w' = w := by
  have T := Lib.hid (bits_Len n w (by omega) (by omega))
  have B : 1 ≤ Lib.bitLen n.toNat ∧ Lib.bitLen n.toNat ≤ 64 := by
    refine ⟨?_, Any.bitLen_leU n (by omega) (by omega)⟩
    unfold Lib.bitLen Lib.bitLenAux
    rw [if_neg (by omega)]
    omega
  unfold cls
  generalize Lib.bitLen n.toNat = k at *
  go_enter Try.func53, Try.ntmps53
  go_wp2_with (go_at_call 81; (with_reducible refine (T.out).mono ?_); rintro e w' ⟨rfl, rfl⟩)
  go_ret
  exact ⟨ret_int (by omega), rfl⟩

/-- A block's size, by its head. -/
def Ar.size (A : Ar) (at_ : Int) : Int := A.ws.getD (at_.toNat - 1) 0 / 4
theorem size_calls {w : World} {A : Ar} (R : Rep w A) (at_ : Int) (h0 : 1 ≤ at_) (h1 : at_ ≤ A.ws.length) :
    Calls Try.prog 52 #[.pointer (some ⟨A.p, 0, none⟩), .int .i64 at_] w fun e w' => e = .returned (.int .i64 (A.size at_)) ∧ w' = w := by
  have c0 := R.c0
  have cw := R.cw (at_.toNat - 1) (by omega)
  have sz := R.sz
  have b := R.wb (at_.toNat - 1)
  have k0 : wrap64 (at_ - 1) = at_ - 1 := w64 _ (by omega) (by omega)
  have k1 : 0 ≤ at_ - 1 := by omega
  have k2 : at_ - 1 < A.ws.length := by omega
  clear h0 h1
  unfold Ar.size
  generalize A.ws.getD (at_.toNat - 1) 0 = x at *
  have k3 : wrap64 (x / 4) = x / 4 := w64 _ (by omega) (by omega)
  go_enter Try.func52, Try.ntmps52
  go_wp2
  go_ret
  exact ⟨rfl, rfl⟩

/-- Is there a used block with that address? -/
def Ar.has (A : Ar) (at_ : Int) : Bool := decide (0 < at_) && decide (at_ < A.lv.length) && A.lv.getD at_.toNat false
theorem is_calls {w : World} {A : Ar} (R : Rep w A) (at_ : Int) :
    Calls Try.prog 58 #[.pointer (some ⟨A.p, 0, none⟩), .int .i64 at_] w fun e w' => e = .returned (.bool (A.has at_)) ∧ w' = w := by
  have cl := R.cl
  have sz := R.sz
  have ll := R.ll
  unfold Ar.has
  by_cases h1 : 0 < at_
  · by_cases h2 : at_ < A.lv.length
    · have cv := R.cv at_.toNat (by omega)
      generalize A.lv.getD at_.toNat false = x at *
      have k1 : 0 ≤ at_ := by omega
      rw [decide_eq_true h1, decide_eq_true h2]
      go_enter Try.func58, Try.ntmps58
      go_wp2
      go_ret
      exact ⟨by simp, rfl⟩
    · rw [decide_eq_false h2]
      go_enter Try.func58, Try.ntmps58
      go_wp2
      go_ret
      exact ⟨by simp, rfl⟩
  · rw [decide_eq_false h1]
    go_enter Try.func58, Try.ntmps58
    go_wp2
    go_ret
    exact ⟨by simp, rfl⟩
theorem is_none (at_ : Int) (w : World) : Calls Try.prog 58 #[.pointer none, .int .i64 at_] w fun e w' => e = .returned (.bool false) ∧ w' = w := by
  go_enter Try.func58, Try.ntmps58
  go_wp2
  go_ret
  exact ⟨rfl, rfl⟩

/-- One list's slice is another. -/
def Ar.setF (A : Ar) (c : Nat) (f : FS) : Ar := { A with fs := fun d => if d = c then f else A.fs d }
theorem Rep.swap {w w' : World} {A : Ar} (R : Rep w A) (c : Nat) (hc : c < 22) (f : FS) (h : But (fun b => (A.fs c).blk = some b) w w') (hok : f.ok w') (hb : ∀ b, f.blk = some b → (A.fs c).blk = some b ∨ w.heap.size ≤ b) :
    Rep (w'.setCell ⟨A.p, 2 + c, none⟩ f.val) (A.setF c f) ∧ Steps w A (w'.setCell ⟨A.p, 2 + c, none⟩ f.val) (A.setF c f) := by
  have np : ¬ (A.fs c).blk = some A.p := fun e => (R.n4 c _ hc e).1 rfl
  have nw : ¬ (A.fs c).blk = some A.pw := fun e => (R.n4 c _ hc e).2.1 rfl
  have nl : ¬ (A.fs c).blk = some A.pl := fun e => (R.n4 c _ hc e).2.2 rfl
  have hp := h.keep R.hp np
  have hw := h.keep R.hw nw
  have hl := h.keep R.hl nl
  have fr : ∀ b, f.blk = some b → b ≠ A.p ∧ b ≠ A.pw ∧ b ≠ A.pl ∧ ∀ d, d < 22 → d ≠ c → (A.fs d).blk ≠ some b := fun b hb' => by
    rcases hb b hb' with h1 | h1
    · exact ⟨(R.n4 c b hc h1).1, (R.n4 c b hc h1).2.1, (R.n4 c b hc h1).2.2, fun d hd hdc e => R.n5 c d b hc hd (Ne.symm hdc) h1 e⟩
    · have a1 := R.lt (b := A.p) (.inl rfl)
      have a2 := R.lt (b := A.pw) (.inr (.inl rfl))
      have a3 := R.lt (b := A.pl) (.inr (.inr (.inl rfl)))
      exact ⟨by omega, by omega, by omega, fun d hd hdc e => by have := R.lt (b := b) (.inr (.inr (.inr ⟨d, hd, e⟩))); omega⟩
  constructor
  · exact {
      hp := by
        show (w'.setCell _ _).heap[A.p]? = _
        rw [heap_set_same hp]
        congr 2
        show A.cells.toArray.setIfInBounds (2 + c) f.val = (A.setF c f).cells.toArray
        apply Array.ext_getElem?
        intro j
        simp only [Ar.cells, Ar.setF]
        by_cases hj : j = 2 + c
        · subst hj
          rw [Array.getElem?_setIfInBounds_self_of_lt (by simp; omega), show 2 + c = c + 1 + 1 by omega]
          simp only [List.getElem?_toArray, List.getElem?_cons_succ]
          rw [List.getElem?_append_left (by simpa using hc)]
          simp [hc]
        · rw [Array.getElem?_setIfInBounds_ne (by omega)]
          match j with
          | 0 => rfl
          | 1 => rfl
          | k + 2 =>
            simp only [List.getElem?_toArray, List.getElem?_cons_succ]
            by_cases hk : k < 22
            · rw [List.getElem?_append_left (by simpa using hk), List.getElem?_append_left (by simpa using hk)]
              simp only [List.getElem?_map, List.getElem?_range hk, Option.map_some]
              rw [if_neg (by omega)]
            · rw [List.getElem?_append_right (by simp; omega), List.getElem?_append_right (by simp; omega)]
              simp
      hw := (heap_set_other (Ne.symm R.n1)).trans hw
      hl := (heap_set_other (Ne.symm R.n2)).trans hl
      hf := fun d hd => by
        by_cases hdc : d = c
        · simp only [Ar.setF, if_pos hdc]
          exact FS.ok_congr hok (fun b hb' => heap_set_other (fr b hb').1)
        · simp only [Ar.setF, if_neg hdc]
          exact FS.ok_congr (R.hf d hd) (fun b hb' => (heap_set_other (R.n4 d b hd hb').1).trans (h.off b (R.lt (.inr (.inr (.inr ⟨d, hd, hb'⟩)))) (fun e => R.n5 d c b hd hc hdc hb' e)))
      n1 := R.n1
      n2 := R.n2
      n3 := R.n3
      n4 := fun d b hd hb' => by
        by_cases hdc : d = c
        · simp only [Ar.setF, if_pos hdc] at hb'
          exact ⟨(fr b hb').1, (fr b hb').2.1, (fr b hb').2.2.1⟩
        · simp only [Ar.setF, if_neg hdc] at hb'
          exact R.n4 d b hd hb'
      n5 := fun d e b hd he hde h1 h2 => by
        simp only [Ar.setF] at h1 h2
        by_cases hdc : d = c
        · rw [if_pos hdc] at h1
          rw [if_neg (by omega)] at h2
          exact (fr b h1).2.2.2 e he (by omega) h2
        · rw [if_neg hdc] at h1
          by_cases hec : e = c
          · rw [if_pos hec] at h2
            exact (fr b h2).2.2.2 d hd hdc h1
          · rw [if_neg hec] at h2
            exact R.n5 d e b hd he hde h1 h2
      sz := R.sz
      ll := R.ll
      us0 := R.us0
      wb := R.wb }
  · exact {
      p := rfl
      pw := rfl
      pl := rfl
      len := rfl
      foot := fun b hb' => by
        rcases hb' with e | e | e | ⟨d, hd, e⟩
        · exact .inl (.inl e)
        · exact .inl (.inr (.inl e))
        · exact .inl (.inr (.inr (.inl e)))
        · simp only [Ar.setF] at e
          by_cases hdc : d = c
          · rw [if_pos hdc] at e
            rcases hb b e with h1 | h1
            · exact .inl (.inr (.inr (.inr ⟨c, hc, h1⟩)))
            · exact .inr h1
          · rw [if_neg hdc] at e
            exact .inl (.inr (.inr (.inr ⟨d, hd, e⟩)))
      os := h.os
      tape := h.tape
      output := h.output
      size := by have := h.size; simp [World.setCell]; exact this
      off := fun k hk hn => (heap_set_other (fun e => hn (.inl e))).trans (h.off k hk (fun e => hn (.inr (.inr (.inr ⟨c, hc, e⟩))))) }
end Go.Proofs.Ytgdhapapdpccpaa.A
