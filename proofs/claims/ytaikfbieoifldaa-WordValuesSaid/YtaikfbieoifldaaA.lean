/- Contracts of the functions of package word and of its reference: what each returns, whatever numbers it is given; no memory that was there turns. -/
import Derived.Test.YtaikfbieoifldaaRows
import Derived.WalkKit
import Derived.ProofKit
import Derived.OpenShut
import Derived.BigQuiet
import Derived.Deep.QuietTactic
import Derived.Lib.Hide
namespace Go.Proofs.Ytaikfbieoifldaa.A
open Go.ChangeShapes Go.WideShapes Go.ChangeAt Go.RowKit
set_option linter.unusedVariables false
set_option linter.unusedSimpArgs false

theorem below_drewN {B : Nat} {a w : World} (h : Below B a w) (n : Nat) : Below B a (w.drewN n) := ⟨h.os, h.tape, h.output, h.size, h.block⟩
theorem below_step {w a b : World} (h : Below w.heap.size w a) (k : Below a.heap.size a b) : Below w.heap.size w b := h.trans (k.mono h.size)

def loK (k : Int) : Int := if k = 2 ∨ k = 5 ∨ k < 0 ∨ 5 < k then 1 else 0
def hiK (k : Int) : Int := if k < 0 ∨ 5 < k then 0 else if k = 0 then 1 else if k = 1 then 2147483648 else 1099511627776


set_option maxHeartbeats 2000000 in
theorem bounds (k : Int) (w : World) :
    Calls Try.prog 20 #[.int .i64 k] w fun e w' => e = .returned (.tuple #[.int .u64 (loK k), .int .u64 (hiK k)]) ∧ Below w.heap.size w w' := by
  by_cases h0 : k < 0
  · have e1 : loK k = 1 := by unfold loK; rw [if_pos (by omega)]
    have e2 : hiK k = 0 := by unfold hiK; rw [if_pos (by omega)]
    rw [e1, e2]; clear e1 e2
    go_enter Try.func20, Try.ntmps20
    go_wp2
    go_ret2
    exact ⟨rfl, by repeat (first | exact Below.refl _ _ | refine Below.drew ?_ | refine below_drewN ?_ _ | refine Below.alloc ?_ (by simp) _)⟩
  · by_cases h5 : 5 < k
    · have e1 : loK k = 1 := by unfold loK; rw [if_pos (by omega)]
      have e2 : hiK k = 0 := by unfold hiK; rw [if_pos (by omega)]
      rw [e1, e2]; clear e1 e2
      go_enter Try.func20, Try.ntmps20
      go_wp2
      go_ret2
      exact ⟨rfl, by repeat (first | exact Below.refl _ _ | refine Below.drew ?_ | refine below_drewN ?_ _ | refine Below.alloc ?_ (by simp) _)⟩
    · have hk : k = 0 ∨ k = 1 ∨ k = 2 ∨ k = 3 ∨ k = 4 ∨ k = 5 := by omega
      clear h0 h5
      rcases hk with rfl | rfl | rfl | rfl | rfl | rfl
      all_goals
        simp only [loK, hiK]
        go_enter Try.func20, Try.ntmps20
        go_wp2
        go_quiet (fail)
        go_wp2
        go_ret2
        exact ⟨rfl, by repeat (first | exact Below.refl _ _ | refine Below.drew ?_ | refine below_drewN ?_ _ | refine Below.alloc ?_ (by simp) _)⟩

/-- Is there such a reference? -/
def thereB (k n : Int) : Bool := decide (loK k ≤ n ∧ n < hiK k)
/-- The word, and the error. -/
def refV (k n : Int) : Int := if thereB k n then 8 * n + k else 0
def refE (k n : Int) : Int := if thereB k n then 0 else 2


theorem there_iff {k n : Int} : thereB k n = true ↔ loK k ≤ n ∧ n < hiK k := by simp [thereB]
theorem there_lt {k n : Int} (h : thereB k n = true) : 0 ≤ k ∧ k ≤ 5 ∧ n < 1099511627776 := by
  obtain ⟨h1, h2⟩ := there_iff.1 h
  have hh : hiK k ≤ 1099511627776 := by unfold hiK; repeat' split <;> omega
  unfold loK hiK at *
  by_cases hc : k < 0 ∨ 5 < k
  · rw [if_pos hc] at h2; rw [if_pos (by omega)] at h1; omega
  · omega

theorem Ref (k n : Int) (hn : 0 ≤ n) (w : World) :
    Calls Try.prog 7 #[.int .i64 k, .int .u64 n] w fun e w' => e = .returned (.tuple #[.int .u64 (refV k n), .int .i64 (refE k n)]) ∧ Below w.heap.size w w' := by
  by_cases h : thereB k n = true
  · have e1 : refV k n = n * 8 + k := by unfold refV; rw [if_pos h]; omega
    have e2 : refE k n = 0 := by unfold refE; rw [if_pos h]
    rw [e1, e2]; clear e1 e2
    obtain ⟨h1, h2⟩ := there_iff.1 h
    obtain ⟨h3, h4, h5⟩ := there_lt h
    clear h
    go_enter Try.func7, Try.ntmps7
    go_wp2_with (go_at_call 20; refine (bounds k _).mono ?_; rintro e w' ⟨rfl, hb⟩)
    go_ret2
    exact ⟨rfl, hb⟩
  · have e1 : refV k n = 0 := by unfold refV; rw [if_neg h]
    have e2 : refE k n = 2 := by unfold refE; rw [if_neg h]
    rw [e1, e2]; clear e1 e2
    rw [there_iff] at h
    by_cases h1 : n < loK k
    · clear h
      go_enter Try.func7, Try.ntmps7
      go_wp2_with (go_at_call 20; refine (bounds k _).mono ?_; rintro e w' ⟨rfl, hb⟩)
      go_ret2
      exact ⟨rfl, hb⟩
    · have h2 : hiK k ≤ n := by omega
      clear h
      go_enter Try.func7, Try.ntmps7
      go_wp2_with (go_at_call 20; refine (bounds k _).mono ?_; rintro e w' ⟨rfl, hb⟩)
      go_ret2
      exact ⟨rfl, hb⟩

def ofK (w : Int) : Int := if thereB (w % 8) (w / 8) then w % 8 else 0
def ofN (w : Int) : Int := if thereB (w % 8) (w / 8) then w / 8 else 0
def ofE (w : Int) : Int := if thereB (w % 8) (w / 8) then 0 else 2

theorem Of (n : Int) (hn : 0 ≤ n) (hn2 : n < 18446744073709551616) (w : World) :
    Calls Try.prog 9 #[.int .u64 n] w fun e w' => e = .returned (.tuple #[.int .i64 (ofK n), .int .u64 (ofN n), .int .i64 (ofE n)]) ∧ Below w.heap.size w w' := by
  by_cases h : thereB (n % 8) (n / 8) = true
  · have e1 : ofK n = n % 8 := by unfold ofK; rw [if_pos h]
    have e2 : ofN n = n / 8 := by unfold ofN; rw [if_pos h]
    have e3 : ofE n = 0 := by unfold ofE; rw [if_pos h]
    rw [e1, e2, e3]; clear e1 e2 e3
    have e1 : refV (n % 8) (n / 8) = n := by unfold refV; rw [if_pos h]; omega
    have e2 : refE (n % 8) (n / 8) = 0 := by unfold refE; rw [if_pos h]
    have C := Ref (n % 8) (n / 8) (by omega)
    rw [e1, e2] at C
    have C := Lib.hid C
    clear e1 e2 h
    go_enter Try.func9, Try.ntmps9
    go_wp2_with (go_at_call 7; refine (C.out _).mono ?_; rintro e w' ⟨rfl, hb⟩)
    go_ret3
    exact ⟨rfl, hb⟩
  · have e1 : ofK n = 0 := by unfold ofK; rw [if_neg h]
    have e2 : ofN n = 0 := by unfold ofN; rw [if_neg h]
    have e3 : ofE n = 2 := by unfold ofE; rw [if_neg h]
    rw [e1, e2, e3]; clear e1 e2 e3
    have e1 : refV (n % 8) (n / 8) = 0 := by unfold refV; rw [if_neg h]
    have e2 : refE (n % 8) (n / 8) = 2 := by unfold refE; rw [if_neg h]
    have C := Ref (n % 8) (n / 8) (by omega)
    rw [e1, e2] at C
    have C := Lib.hid C
    clear e1 e2 h
    go_enter Try.func9, Try.ntmps9
    go_wp2_with (go_at_call 7; refine (C.out _).mono ?_; rintro e w' ⟨rfl, hb⟩)
    go_ret3
    exact ⟨rfl, hb⟩

def i31 (n : Int) : Int := n % 2147483648 * 8 + 1
theorem I31 (n : Int) (hn : 0 ≤ n) (w : World) :
    Calls Try.prog 11 #[.int .u64 n] w fun e w' => e = .returned (.int .u64 (i31 n)) ∧ Below w.heap.size w w' := by
  unfold i31
  go_enter Try.func11, Try.ntmps11
  go_wp2
  go_ret
  exact ⟨rfl, Below.refl _ _⟩

/-- The small number of a word. -/
def num (n : Int) (s : Bool) : Int := if ofE n = 0 ∧ ofK n = 1 then (if s = true ∧ 1073741824 ≤ ofN n then ofN n + 2147483648 else ofN n) else 0

theorem of_bd (n : Int) (hn : 0 ≤ n) : 0 ≤ ofK n ∧ ofK n ≤ 5 ∧ 0 ≤ ofN n ∧ ofN n < 1099511627776 ∧ (ofE n = 0 ∨ ofE n = 2) := by
  unfold ofK ofN ofE
  by_cases h : thereB (n % 8) (n / 8) = true
  · have := there_lt h
    rw [if_pos h, if_pos h, if_pos h]; exact ⟨by omega, by omega, by omega, by omega, .inl rfl⟩
  · rw [if_neg h, if_neg h, if_neg h]; exact ⟨by omega, by omega, by omega, by omega, .inr rfl⟩

theorem Number (n : Int) (s : Bool) (hn : 0 ≤ n) (hn2 : n < 18446744073709551616) (w : World) :
    Calls Try.prog 12 #[.int .u64 n, .bool s] w fun e w' => e = .returned (.int .u64 (num n s)) ∧ Below w.heap.size w w' := by
  obtain ⟨b1, b2, b3, b4, b5⟩ := of_bd n hn
  have C := Lib.hid (Of n hn hn2)
  by_cases h0 : ofE n = 0
  · by_cases h1 : ofK n = 1
    · cases s with
      | false =>
        have e : num n false = ofN n := by unfold num; rw [if_pos ⟨h0, h1⟩]; simp
        rw [e]; clear e
        rw [h0, h1] at C
        clear h0 h1 b5
        go_enter Try.func12, Try.ntmps12
        go_wp2_with (go_at_call 9; refine (C.out _).mono ?_; rintro e w' ⟨rfl, hb⟩)
        go_ret
        exact ⟨rfl, hb⟩
      | true =>
        rw [h0, h1] at C
        by_cases h2 : 1073741824 ≤ ofN n
        · have e : num n true = ofN n + 2147483648 := by unfold num; rw [if_pos ⟨h0, h1⟩, if_pos ⟨rfl, h2⟩]
          rw [e]; clear e
          clear h0 h1 b5
          go_enter Try.func12, Try.ntmps12
          go_wp2_with (go_at_call 9; refine (C.out _).mono ?_; rintro e w' ⟨rfl, hb⟩)
          go_ret
          exact ⟨rfl, hb⟩
        · have e : num n true = ofN n := by unfold num; rw [if_pos ⟨h0, h1⟩, if_neg (by omega)]
          rw [e]; clear e
          clear h0 h1 b5
          go_enter Try.func12, Try.ntmps12
          go_wp2_with (go_at_call 9; refine (C.out _).mono ?_; rintro e w' ⟨rfl, hb⟩)
          go_ret
          exact ⟨rfl, hb⟩
    · have e : num n s = 0 := by unfold num; rw [if_neg (by omega)]
      rw [e]; clear e
      rw [h0] at C
      have h1' : (ofK n != 1) = true := by simpa using h1
      clear h0 b5 h1
      go_enter Try.func12, Try.ntmps12
      go_wp2_with (go_at_call 9; refine (C.out _).mono ?_; rintro e w' ⟨rfl, hb⟩)
      go_ret
      exact ⟨rfl, hb⟩
  · have e : num n s = 0 := by unfold num; rw [if_neg (by omega)]
    rw [e]; clear e
    have h2 : ofE n = 2 := by omega
    rw [h2] at C
    clear h0 b5 h2
    go_enter Try.func12, Try.ntmps12
    go_wp2_with (go_at_call 9; refine (C.out _).mono ?_; rintro e w' ⟨rfl, hb⟩)
    go_ret
    exact ⟨rfl, hb⟩
end Go.Proofs.Ytaikfbieoifldaa.A
