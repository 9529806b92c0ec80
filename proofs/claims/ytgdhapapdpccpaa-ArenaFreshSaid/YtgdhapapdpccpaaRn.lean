/- arena: slices.Backward over the 22 lists, and Room. -/
import Derived.Test.YtgdhapapdpccpaaRm
namespace Go.Proofs.Ytgdhapapdpccpaa.A
open Go.RowKit Go.Proofs Go.Shelf
set_option linter.unusedVariables false
set_option linter.unusedSimpArgs false

attribute [local go_sem] Oper.semAt_some

/-- The list that comes as the k-th. -/
def bk (k : Nat) : Fin 22 := ⟨21 - k, by omega⟩
def upto {α : Type} (f : Nat → α) (k : Nat) : List α := (List.range k).map f
theorem upto_succ {α : Type} (f : Nat → α) (k : Nat) : upto f (k + 1) = upto f k ++ [f k] := by simp [upto, List.range_succ]
theorem upto_split {α : Type} (f : Nat → α) (a b : Nat) : upto f (a + b) = upto f a ++ (List.range b).map (fun j => f (a + j)) := by
  unfold upto
  rw [List.range_add, List.map_append, List.map_map]
  rfl
theorem upto_length {α : Type} (f : Nat → α) (k : Nat) : (upto f k).length = k := by simp [upto]

set_option maxRecDepth 100000 in
set_option maxHeartbeats 2000000 in
theorem back1_in (F : Fence) (n : Nat) (h7 : F.fn 83) (hro : F.round = none) (hn : 1 ≤ n) (l Bs n₀ b : Nat) (vs : Nat → Value) (hb : b < n₀) (J Jx : List (Fin 22) → World → Prop)
    (hY : ∀ pre x W, J pre W → pre.length < 22 → YieldAt F (n - 1) Try.prog l #[.int .i64 (x.val : Int), vs x.val] W fun e W' =>
      (e = .returned (.bool true) ∧ J (pre ++ [x]) W' ∧ Below n₀ W W') ∨ (e = .returned (.bool false) ∧ Jx (pre ++ [x]) W'))
    (W : World) (hBs : W.cell? ⟨Bs, 0, none⟩ = some (.slice (some ⟨b, 2, none⟩) 22 22)) (hBl : Bs < n₀) (hc : ∀ j, j < 22 → W.cell? ⟨b, 2 + j, none⟩ = some (vs j)) (hv : ∀ j, ∃ a m c, vs j = .slice a m c) (h0 : J [] W) :
    CallsIn F n Try.prog 83 #[.func (.yield l) #[] #[], .pointer (some ⟨Bs, 0, none⟩)] W fun e W' => (∃ v, e = .returned v) ∧
      ((∃ ys, ys = upto bk 22 ∧ J ys W') ∨ (∃ pre, (∃ k, k ≤ 22 ∧ pre = upto bk k) ∧ Jx pre W')) := by
  refine callsIn_of_wp Try.func83 rfl h7 ?_ hro
  simp only [Try.ntmps83, List.size_toArray, List.length_cons, List.length_nil, Nat.reduceAdd, Nat.reduceSub, Array.replicate_succ, Array.replicate_zero, List.push_toArray, List.append_toArray, List.nil_append, List.cons_append]
  gi_wp2
  gi_loopw [3] (fun i wr => ∃ k : Nat, k ≤ 22 ∧ i = .int .i64 (21 - (k : Int)) ∧ J (upto bk k) wr ∧ Below n₀ W wr)
    (fun i _ => (intOf i + 1).toNat)
  case atStart => exact ⟨0, Nat.zero_le _, rfl, h0, Below.refl _ _⟩
  case round =>
    obtain ⟨k, hk, rfl, hJs, hnx⟩ := hrel
    by_cases hlt : k < 22
    · have hcx : wr.cell? ⟨b, 2 + (21 - k), none⟩ = some (vs (21 - k)) := (hnx.cell (p := ⟨b, 2 + (21 - k), none⟩) hb).trans (hc (21 - k) (by omega))
      have hcb : wr.cell? ⟨Bs, 0, none⟩ = some (.slice (some ⟨b, 2, none⟩) 22 22) := (hnx.cell (p := ⟨Bs, 0, none⟩) hBl).trans hBs
      obtain ⟨fn, tmps, assign, body, hy, hR⟩ := hY _ (bk k) wr hJs (by rw [upto_length]; exact hlt)
      have e1 : ((bk k).val : Int) = 21 - (k : Int) := by show ((21 - k : Nat) : Int) = _; omega
      have e2 : (bk k).val = 21 - k := rfl
      rw [e1, e2] at hy
      obtain ⟨sa, sm, sc, hs⟩ := hv (21 - k)
      rw [hs] at hcx hy
      obtain ⟨z, hz⟩ : ∃ z : Int, 21 - (k : Int) = z := ⟨_, rfl⟩
      have hz2 : 21 - k = z.toNat := by omega
      rw [hz] at hy ⊢
      rw [hz2] at hcx
      have z1 : 0 ≤ z := by omega
      have z2 : z < 22 := by omega
      have z3 : z - 1 = 21 - ((k + 1 : Nat) : Int) := by omega
      replace hz := Lib.hid hz
      replace z3 := Lib.hid z3
      have hlt' := Lib.hid hlt
      clear hk hlt hz2 e1 e2 hBs hc hv hY h0 hs
      gi_wp2
      refine hR.mono ?_
      rintro e W3 (⟨rfl, hJ3, hk3⟩ | ⟨rfl, hJx3⟩)
      · gi_wp2
        go_roundw
        case rel => exact ⟨k + 1, hlt'.out, congrArg _ z3.out, by rw [upto_succ]; exact hJ3, hnx.trans hk3⟩
        case measure => simp [intOf]; omega
      · gi_wp2
        refine bodyPost_ret (results_none rfl _ _ _) rfl ?_
        exact ⟨⟨_, rfl⟩, .inr ⟨_, ⟨k + 1, hlt'.out, (upto_succ _ _).symm⟩, hJx3⟩⟩
    · obtain rfl : k = 22 := by omega
      rw [show (21 : Int) - ((22 : Nat) : Int) = -1 from rfl]
      clear hY hBs hc hv h0 hk hlt
      gi_wp2
      go_end0
      exact ⟨⟨_, rfl⟩, .inl ⟨_, rfl, hJs⟩⟩

set_option maxHeartbeats 1000000 in
theorem back_in (F : Fence) (n : Nat) (h5 : F.fn 60) (hro : F.round = none) (a : Option Addr) (len cap : Nat) (w : World) :
    CallsIn F n Try.prog 60 #[.slice a len cap] w fun e w' => e = .returned (.func (.func 83) #[] #[.pointer (some ⟨w.heap.size, 0, none⟩)]) ∧ w' = w.alloc (.cells #[.slice a len cap] 102) := by
  refine callsIn_of_wp Try.func60 rfl h5 ?_ hro
  simp only [Try.ntmps60, List.size_toArray, List.length_cons, List.length_nil, Nat.reduceAdd, Nat.reduceSub, Array.replicate_succ, Array.replicate_zero, List.push_toArray, List.append_toArray, List.nil_append, List.cons_append]
  gi_wp2
  go_ret
  exact ⟨rfl, rfl⟩

theorem back_stops (F : Fence) (n : Nat) (h8 : F.fn 83) (hro : F.round = none) (hn : 1 ≤ n) (Bs n₀ b : Nat) (vs : Nat → Value) (w : World) (hBs : Bs < w.heap.size) (hBl : Bs < n₀) (hb : b < n₀) (hn₀ : n₀ ≤ w.heap.size)
    (hc : w.cell? ⟨Bs, 0, none⟩ = some (.slice (some ⟨b, 2, none⟩) 22 22)) (hcs : ∀ j, j < 22 → w.cell? ⟨b, 2 + j, none⟩ = some (vs j)) (hv : ∀ j, ∃ a m c, vs j = .slice a m c) :
    SeqStopsK F n Try.prog 83 #[.pointer (some ⟨Bs, 0, none⟩)] (fun x : Fin 22 => #[Value.int .i64 (x.val : Int), vs x.val]) (Below n₀) (fun ys => ys = upto bk 22)
      (fun pre => ∃ k, k ≤ 22 ∧ pre = upto bk k) 22 w := fun l J Jx W hW _ _ hY h0 => by
  have hW' := hW.mono hn₀
  exact back1_in F n h8 hro hn l Bs n₀ b vs hb J Jx hY W ((hW.cell (p := ⟨Bs, 0, none⟩) hBs).trans hc) hBl (fun j hj => (hW'.cell (p := ⟨b, 2 + j, none⟩) hb).trans (hcs j hj)) hv h0

theorem cell_new_l (W : World) (v : Value) (t : TypeId) : (W.alloc (.cells #[v] t)).cell? ⟨W.heap.size, 0, none⟩ = some v ∧ (W.alloc (.cells #[v] t)).frozen? ⟨W.heap.size, 0, none⟩ = false := ⟨(Boxed.new W t v).cell, (Boxed.new W t v).frozen⟩
theorem cell_alloc_l {W : World} {a : Addr} {v : Value} (o : Obj) (h : W.cell? a = some v) : (W.alloc o).cell? a = some v := cell_kept h (World.grownBy_alloc W o none) (fun r e => by cases e)
theorem frozen_alloc_l {W : World} {a : Addr} {v : Value} (o : Obj) (h : W.cell? a = some v) (hf : W.frozen? a = false) : (W.alloc o).frozen? a = false := (frozen_kept h (World.grownBy_alloc W o none) (fun r e => by cases e)).trans hf
/-- The size of the greatest block of one list. -/
def Ar.top (A : Ar) (xs : List Int) : Int := match xs with
  | [] => 0
  | x :: r => A.size (maxBy A.size x r)
/-- The size of the greatest block of the first list, from the last on, that has any. -/
def Ar.room (A : Ar) : List (Fin 22) → Int
  | [] => 0
  | c :: r => if (A.fs c.val).xs = [] then A.room r else A.top (A.fs c.val).xs
theorem Ar.room_skip (A : Ar) : ∀ (xs ys : List (Fin 22)), (∀ c ∈ xs, (A.fs c.val).xs = []) → A.room (xs ++ ys) = A.room ys
  | [], ys, _ => rfl
  | c :: r, ys, h => by
    simp only [List.cons_append, Ar.room]
    rw [if_pos (h c (List.mem_cons_self ..))]
    exact A.room_skip r ys (fun x hx => h x (List.mem_cons_of_mem _ hx))

set_option maxRecDepth 100000 in
set_option maxHeartbeats 4000000 in
theorem room_in (n : Nat) (hn : 3 ≤ n) {w : World} {A : Ar} (R : Rep w A) (hl : ∀ c, c < 22 → (A.fs c).xs.length ≤ 1048576)
    (hs : ∀ c, c < 22 → ∀ y ∈ (A.fs c).xs, 1 ≤ y ∧ y ≤ A.ws.length ∧ 0 ≤ A.size y ∧ A.size y ≤ 1048576) :
    CallsIn Fence.wide n Try.prog 25 #[.pointer (some ⟨A.p, 0, none⟩)] w fun e W' => e = .returned (.int .i64 (A.room (upto bk 22))) ∧ Below w.heap.size w W' := by
  have h1 : 1 ≤ n := by omega
  have hro : Fence.wide.round = none := rfl
  have hAp : A.p < w.heap.size := R.lt (.inl rfl)
  have RR := Lib.hid (And.intro R (And.intro hl hs))
  have CF := Lib.hid (fun j hj => R.cf j hj)
  have hB0 : Below w.heap.size w (((w.alloc (.cells #[.pointer (some ⟨A.p, 0, none⟩)] 24)).alloc (.cells #[.int .i64 0] 3)).alloc (.cells #[.slice (some ⟨A.p, 2, none⟩) 22 22] 102)) := (((Below.refl _ w).alloc (Nat.le_refl _) _).alloc (by simp) _).alloc (by simp; omega) _
  replace hB0 := Lib.hid hB0
  have c0 := cell_new_l w (.pointer (some ⟨A.p, 0, none⟩)) 24
  have c1 := cell_new_l (w.alloc (.cells #[.pointer (some ⟨A.p, 0, none⟩)] 24)) (.int .i64 0) 3
  have c2 := cell_new_l ((w.alloc (.cells #[.pointer (some ⟨A.p, 0, none⟩)] 24)).alloc (.cells #[.int .i64 0] 3)) (.slice (some ⟨A.p, 2, none⟩) 22 22) 102
  simp only [World.size_alloc] at c1 c2
  replace c0 := Lib.hid c0
  replace c1 := Lib.hid c1
  replace c2 := Lib.hid c2
  clear R hl hs
  refine callsIn_of_wp_marks Try.func25 rfl trivial ?_ hro
  simp only [Try.ntmps25, List.size_toArray, List.length_cons, List.length_nil, Nat.reduceAdd, Nat.reduceSub, Array.replicate_succ, Array.replicate_zero, List.push_toArray, List.append_toArray, List.nil_append, List.cons_append]
  gi_wp2_with (refine ⟨trivial, ?_⟩; gi_at_call 60; refine (back_in Fence.wide (n - 1) trivial rfl _ _ _ _).mono ?_; rintro e w' ⟨rfl, rfl⟩)
  refine wpIn_rangeFunc_ownG hro h1 (gf := 83) (lb := #[.pointer (some ⟨w.heap.size + 1 + 1, 0, none⟩)]) rfl trivial (enters_of Try.func83 (by kernel_rfl) rfl)
    (back_stops Fence.wide (n - 1) trivial rfl (by omega) (w.heap.size + 1 + 1) (w.heap.size + 1 + 1 + 1) A.p (fun j => (A.fs j).val) _ (by simp) (by omega) (by omega) (by simp) c2.out.1 (fun j hj => (hB0.out.cell (p := ⟨A.p, 2 + j, none⟩) hAp).trans (CF.out j hj)) (fun j => FS.val_slice _)) belowK_t (belowK_b (by simp)) (Below.refl _ _) (fun _ => rfl)
    (fun pre W => ((∀ c ∈ pre, (A.fs c.val).xs = []) ∧ W.cell? ⟨w.heap.size, 0, none⟩ = some (.pointer (some ⟨A.p, 0, none⟩)) ∧ W.cell? ⟨w.heap.size + 1, 0, none⟩ = some (.int .i64 0) ∧ W.frozen? ⟨w.heap.size + 1, 0, none⟩ = false) ∧ Below w.heap.size w W)
    (fun c pre W => (c = .ret ∧ ∃ ini last, pre = ini ++ [last] ∧ (∀ c ∈ ini, (A.fs c.val).xs = []) ∧ (A.fs last.val).xs ≠ [] ∧ W.cell? ⟨w.heap.size + 1, 0, none⟩ = some (.int .i64 (A.top (A.fs last.val).xs))) ∧ Below w.heap.size w W)
    (OwnFrom.and (Own.from (fun s A B row hs hg hr => ⟨hs.1, cell_kept hs.2.1 hg hr, cell_kept hs.2.2.1 hg hr, (frozen_kept hs.2.2.1 hg hr).trans hs.2.2.2⟩) _) (ownFrom_below (Nat.le_refl _) (by simp; omega)))
    (fun c => OwnFrom.and (Own.from (fun s A B row hs hg hr => by obtain ⟨hc, ini, last, e1, e2, e3, e4⟩ := hs; exact ⟨hc, ini, last, e1, e2, e3, cell_kept e4 hg hr⟩) _) (ownFrom_below (Nat.le_refl _) (by simp; omega)))
    ⟨⟨by simp, cell_alloc_l _ (cell_alloc_l _ c0.out.1), cell_alloc_l _ c1.out.1, frozen_alloc_l _ c1.out.1 c1.out.2⟩, hB0.out⟩
    (fun x => { tmps := #[.pointer (some ⟨A.p, 0, none⟩), .pointer (some ⟨w.heap.size, 0, none⟩), .pointer (some ⟨w.heap.size + 1, 0, none⟩), undef, (A.fs x.val).val, .pointer (some ⟨A.p, 0, none⟩), .bool false, .pointer (some ⟨A.p, 0, none⟩), .pointer (some ⟨A.p, 0, none⟩), .pointer (some ⟨A.p, 2, none⟩), .slice (some ⟨A.p, 2, none⟩) 22 22, .func (.func 83) #[] #[.pointer (some ⟨w.heap.size + 1 + 1, 0, none⟩)], .int .i64 (x.val : Int), (A.fs x.val).val, undef, undef, undef, undef, undef, undef, undef, undef], defers := [] }) ?assign ?body ?done ?stop
  case assign =>
    intro l x W K hK
    obtain ⟨a, m, c, hv⟩ := (A.fs x.val).val_slice
    rw [hv] at hK ⊢
    gi_wp2
    exact hK
  case body =>
    rintro l pre x W ⟨⟨hp, hcb, hcr, hfr⟩, hB⟩ _
    obtain ⟨R, hl, hs⟩ := RR.out
    have hR : Rep W A := R.congr (fun b hb => hB.block b (R.lt hb))
    have hf := hR.hf x.val x.isLt
    have hN1 : 1 ≤ n - 1 - 1 := by omega
    have hp' := Lib.hid hp
    have hB' := Lib.hid hB
    cases hxs : (A.fs x.val).xs with
    | nil =>
      obtain ⟨ba, bc, hval, _⟩ := FS.val_len hf
      rw [hxs, List.length_nil] at hval
      have hxs' := Lib.hid hxs
      rw [hval]
      clear hxs hval R hl hs hR hf RR CF c0 c1 c2 hp hB hB0
      gi_wp2
      exact ⟨KeepsFrom.refl _ _, Below.refl _ _, ⟨fun p hq => (List.mem_append.1 hq).elim (hp'.out p) (fun e => by simp at e; rw [e]; exact hxs'.out), hcb, hcr, hfr⟩, hB'.out⟩
    | cons y r =>
      obtain ⟨b, hb⟩ : ∃ b, (A.fs x.val).blk = some b := by
        cases hbk : (A.fs x.val).blk with
        | none => unfold FS.ok at hf; rw [hbk] at hf; rw [hf] at hxs; cases hxs
        | some b => exact ⟨b, rfl⟩
      have hval : (A.fs x.val).val = .slice (some ⟨b, 0, none⟩) (r.length + 1) (A.fs x.val).cap := by unfold FS.val; rw [hb, hxs]; rfl
      have cell_dr : ∀ {w1 : World} {a : Addr} {v : Value}, Dr W w1 → W.cell? a = some v → w1.cell? a = some v := fun d h => by unfold World.cell? at h ⊢; rw [d.1]; exact h
      have MX := Lib.hid (fun w1 (d : Dr W w1) => max_calls (hR.congr (fun b _ => by rw [d.1])) w.heap.size (cell_dr d hcb) (FS.ok_dr hf d) b hb y r hxs (hl x.val x.isLt) (hs x.val x.isLt))
      rw [hval] at MX
      have hmem : maxBy A.size y r ∈ (A.fs x.val).xs := by
        rw [hxs]
        rcases maxBy_mem A.size r y with h | h
        · rw [h]; exact List.mem_cons_self ..
        · exact List.mem_cons_of_mem _ h
      have SZ := Lib.hid (fun w1 (d : Dr W w1) => size_calls (hR.congr (fun b _ => by rw [d.1])) (maxBy A.size y r) (hs x.val x.isLt _ hmem).1 (hs x.val x.isLt _ hmem).2.1)
      have hxs' := Lib.hid hxs
      have htop : A.top (A.fs x.val).xs = A.size (maxBy A.size y r) := by rw [hxs]; rfl
      replace htop := Lib.hid htop
      have hmx : Try.prog.follows .mixedOrders = true := by kernel_rfl
      rw [hval]
      clear hxs hval R hl hs hR hf RR CF c0 c1 c2 hp hB hB0 hmem hb cell_dr
      generalize maxBy A.size y r = mm at *
      gi_wp2
      gi_region_with_o (first | (refine ⟨trivial, ?_⟩; gi_at_call 61; refine (CallsIn.inRound l (callsIn_wide.2 (MX.out _ (by exact ⟨rfl, rfl, rfl, rfl⟩)))).mono ?_; rintro e w' ⟨rfl, q, rfl⟩) | (refine ⟨trivial, ?_⟩; gi_at_call 52; refine (CallsIn.inRound l (callsIn_wide.2 (SZ.out _ (by exact ⟨rfl, rfl, rfl, rfl⟩)))).mono ?_; rintro e w' ⟨rfl, rfl⟩))
      all_goals gi_wp2
      all_goals
        refine ⟨((show KeepsOthers W (W.drewN (1 + q)) from ⟨Nat.le_refl _, fun _ _ h _ => h⟩).trans (KeepsOthers.setCell _ _ _)).from _, ⟨rfl, pre, x, rfl, hp'.out, by rw [hxs'.out]; simp, ?_⟩, ?_⟩
        · rw [htop.out]
          exact World.cell?_setCell_same' _ _ _ (by rw [show (W.drewN (1 + q)).cell? ⟨w.heap.size + 1, 0, none⟩ = W.cell? ⟨w.heap.size + 1, 0, none⟩ from rfl, hcr]; rfl)
        · exact (show Below w.heap.size w (W.drewN (1 + q)) from ⟨hB'.out.os, hB'.out.tape, hB'.out.output, hB'.out.size, hB'.out.block⟩).setCell (p := ⟨w.heap.size + 1, 0, none⟩) (by simp) _
  case done =>
    rintro D ys W hD rfl ⟨⟨hne, hcb, hcr, hfr⟩, hB⟩ hK
    have hne' := Lib.hid hne
    have hB' := Lib.hid hB
    clear hne hB
    gi_wp2
    have hK' := (KeepsOthers.setCell W ⟨w.heap.size + 1, 0, none⟩ (.int .i64 0)).same D _ hK rfl
    refine ⟨by simp, .inl ⟨_, _, rfl, run_takeDeferred hK', ?_⟩⟩
    have hc5 := cell_kept (World.cell?_setCell_same' W ⟨w.heap.size + 1, 0, none⟩ (.int .i64 0) (by rw [hcr]; rfl)) (grownBy_putObj' _ D (.deferred none)) (fun r e => by cases e; exact ⟨_, hK', rfl⟩)
    refine ⟨.int .i64 0, ?_, ?_, (hB'.out.setCell (p := ⟨w.heap.size + 1, 0, none⟩) (by simp) _).trans (belowK_b (w := w) (Nat.le_refl _) _ D _ _ (by simp at hD; omega) hK' rfl rfl)⟩
    · simp [results, Try.f25, go_sem, hc5]
    · have := A.room_skip (upto bk 22) [] hne'.out
      rw [List.append_nil] at this
      rw [this]; rfl
  case stop =>
    rintro D c pre W hD ⟨k, hk, rfl⟩ ⟨⟨rfl, ini, last, e1, e2, e3, hcr⟩, hB⟩ hK
    obtain ⟨k', rfl⟩ : ∃ k', k = k' + 1 := by
      cases k with
      | zero => simp [upto] at e1
      | succ k' => exact ⟨k', rfl⟩
    have hroom : A.room (upto bk 22) = A.top (A.fs last.val).xs := by
      obtain ⟨m, hm⟩ : ∃ m, 22 = k' + 1 + m := ⟨22 - (k' + 1), by omega⟩
      have hu : upto bk 22 = upto bk (k' + 1) ++ (List.range m).map (fun j => bk (k' + 1 + j)) := by
        have hm' : ∀ x, x = k' + 1 + m → upto bk x = upto bk (k' + 1) ++ (List.range m).map (fun j => bk (k' + 1 + j)) := fun x hx => by rw [hx]; exact upto_split _ _ _
        exact hm' 22 hm
      rw [hu, e1, List.append_assoc, A.room_skip ini _ e2]
      simp only [List.cons_append, List.nil_append, Ar.room]
      rw [if_neg e3]
    replace hroom := Lib.hid hroom
    have hB' := Lib.hid hB
    clear e1 e2 e3 hB
    gi_wp2
    refine ⟨by simp, .inl ⟨_, _, rfl, run_takeDeferred hK, ?_⟩⟩
    have hc5 := cell_kept hcr (grownBy_putObj' _ D (.deferred none)) (fun r e => by cases e; exact ⟨_, hK, rfl⟩)
    refine ⟨.int .i64 (A.top (A.fs last.val).xs), ?_, by rw [hroom.out], hB'.out.trans (belowK_b (w := w) (Nat.le_refl _) W D _ _ (by simp at hD; omega) hK rfl rfl)⟩
    simp [results, Try.f25, go_sem, hc5]
end Go.Proofs.Ytgdhapapdpccpaa.A
