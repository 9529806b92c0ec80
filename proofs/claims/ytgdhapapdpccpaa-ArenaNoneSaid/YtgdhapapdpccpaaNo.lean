/- arena: the law ArenaNone: an arena that is not there has nothing. -/
import Derived.Test.YtgdhapapdpccpaaKn
namespace Go.Proofs.Ytgdhapapdpccpaa.A
open Go.RowKit Go.Proofs Go.Shelf
set_option linter.unusedVariables false
set_option linter.unusedSimpArgs false

attribute [local go_sem] Oper.semAt_some

/-- The blocks of no arena: none. -/
theorem none_stops (n : Nat) (hn : 1 ≤ n) (Bs : Nat) (w : World) (hBs : Bs < w.heap.size) (hc : w.cell? ⟨Bs, 0, none⟩ = some (.pointer none)) (n₀ : Nat) :
    SeqStopsK Fence.wide n Try.prog 57 #[.pointer (some ⟨Bs, 0, none⟩)] (fun x : Int × Int => #[Value.int .i64 x.1, Value.int .i64 x.2]) (Below n₀) (fun ys => ys = []) (fun pre => False) 0 w := fun l J Jx W hW _ _ hY h0 => by
  have hc' := (hW.cell (p := ⟨Bs, 0, none⟩) hBs).trans hc
  have H := Lib.hid h0
  clear hY hW hc h0
  refine callsIn_of_wp Try.func57 rfl trivial ?_ rfl
  simp only [Try.ntmps57, List.size_toArray, List.length_cons, List.length_nil, Nat.reduceAdd, Nat.reduceSub, Array.replicate_succ, Array.replicate_zero, List.push_toArray, List.append_toArray, List.nil_append, List.cons_append]
  gi_wp2
  refine bodyPost_ret (results_none rfl _ _ _) rfl ?_
  exact ⟨⟨_, rfl⟩, .inl ⟨_, rfl, H.out⟩⟩
theorem blocks_calls (a : Option Addr) (w : World) : Calls Try.prog 16 #[.pointer a] w fun e w' => e = .returned (.func (.func 57) #[] #[.pointer (some ⟨w.heap.size, 0, none⟩)]) ∧ w' = w.alloc (.cells #[.pointer a] 24) := by
  go_enter Try.func16, Try.ntmps16
  go_wp2
  go_ret
  exact ⟨rfl, rfl⟩

set_option maxRecDepth 100000 in
set_option maxHeartbeats 4000000 in
theorem arenaNone (at_ k x : Int) (w : World) :
    Calls Try.prog 3 #[.int .i64 at_, .int .i64 k, .int .u64 x] w fun e W' => e = .returned (.bool true) ∧ Below w.heap.size w W' := by
  refine (callsIn_wide (n := 3)).1 ?_
  have hro : Fence.wide.round = none := rfl
  have K0 := Lib.hid (known20 (w.alloc (.cells #[.bool false] 4)) (w.alloc (.cells #[.bool false] 4)) (Below.refl _ _))
  have c0 := Lib.hid (cell_new_l w (.bool false) 4)
  have hB0 := Lib.hid ((Below.refl w.heap.size w).alloc (Nat.le_refl _) (.cells #[.bool false] 4))
  have TN := Lib.hid (take_nil k)
  have GN := Lib.hid (get_nil at_ k)
  refine callsIn_of_wp_marks Try.func3 rfl trivial ?_ hro
  simp only [Try.ntmps3, List.size_toArray, List.length_cons, List.length_nil, Nat.reduceAdd, Nat.reduceSub, Array.replicate_succ, Array.replicate_zero, List.push_toArray, List.append_toArray, List.nil_append, List.cons_append]
  gi_wp2_with (refine ⟨trivial, ?_⟩; gi_at_call 13; (with_reducible refine (callsIn_wide.2 (K0.out)).mono ?_); rintro e W1 ⟨rfl, hB1⟩)
  replace hB1 := Lib.hid hB1
  gi_wp2_with (refine ⟨trivial, ?_⟩; gi_at_call 14; (with_reducible refine (callsIn_wide.2 (TN.out _)).mono ?_); rintro e W2 ⟨rfl, hB2⟩)
  replace hB2 := Lib.hid hB2
  gi_wp2_with (refine ⟨trivial, ?_⟩; gi_at_call 15; (with_reducible refine (callsIn_wide.2 (GN.out _)).mono ?_); rintro e W3 ⟨rfl, rfl⟩)
  gi_wp2_with (refine ⟨trivial, ?_⟩; gi_at_call 16; (with_reducible refine (callsIn_wide.2 (blocks_calls none _)).mono ?_); rintro e W4 ⟨rfl, rfl⟩)
  have hB12 : Below (w.alloc (.cells #[.bool false] 4)).heap.size (w.alloc (.cells #[.bool false] 4)) W3 := hB1.out.trans (hB2.out.mono hB1.out.size)
  have hsz : (w.alloc (.cells #[.bool false] 4)).heap.size = w.heap.size + 1 := by simp
  have hB13 : Below w.heap.size w W3 := hB0.out.trans (hB12.mono hB0.out.size)
  have hr0 : W3.cell? ⟨w.heap.size, 0, none⟩ = some (.bool false) := (hB12.cell (p := ⟨w.heap.size, 0, none⟩) (by rw [hsz]; exact Nat.lt_succ_self _)).trans c0.out.1
  have hf0 : W3.frozen? ⟨w.heap.size, 0, none⟩ = false := (hB12.frozen (p := ⟨w.heap.size, 0, none⟩) (by rw [hsz]; exact Nat.lt_succ_self _)).trans c0.out.2
  have hb := cell_new_l W3 (.pointer none) 24
  have hle := hB13.size
  clear hB0 hB1 hB2 c0 K0 TN GN hB12 hsz
  refine wpIn_rangeFunc_ownG hro (by decide) (gf := 57) (lb := #[.pointer (some ⟨W3.heap.size, 0, none⟩)]) rfl trivial (enters_of Try.func57 (by kernel_rfl) rfl)
    (none_stops (3 - 1) (by decide) W3.heap.size _ (by simp) hb.1 w.heap.size) belowK_t (belowK_b (by simp; omega)) (Below.refl _ _) (fun _ => rfl)
    (fun pre W => (W.cell? ⟨w.heap.size, 0, none⟩ = some (.bool false) ∧ W.frozen? ⟨w.heap.size, 0, none⟩ = false) ∧ Below w.heap.size w W)
    (fun c pre W => False)
    (OwnFrom.and (Own.from (fun s A B row hs hg hr => ⟨cell_kept hs.1 hg hr, (frozen_kept hs.1 hg hr).trans hs.2⟩) _) (ownFrom_below (Nat.le_refl _) (by simp; omega)))
    (fun _ _ _ _ _ hs _ _ => hs)
    ⟨⟨cell_alloc_l _ hr0, frozen_alloc_l _ hr0 hf0⟩, hB13.alloc hle _⟩
    (fun y => { tmps := #[.int .i64 at_, .int .i64 k, .int .u64 x, undef, undef, undef, .pointer (some ⟨w.heap.size, 0, none⟩), .pointer none, .int .i64 0, .int .i64 1, .int .u64 0, .int .i64 1, .bool true, .bool false, .tuple #[.int .i64 0, .int .i64 1], .pointer none, .int .i64 k, .tuple #[.int .i64 0, .int .i64 1], .int .i64 0, .int .i64 1, .tuple #[.int .u64 0, .int .i64 1], .pointer none, .int .i64 at_, .int .i64 k, .tuple #[.int .u64 0, .int .i64 1], .int .u64 0, .int .i64 1, .pointer none, .func (.func 57) #[] #[.pointer (some ⟨W3.heap.size, 0, none⟩)], .int .i64 y.1, .int .i64 y.2, undef, undef, undef, undef, undef, undef, undef, undef, undef, undef, undef, undef, undef, undef, undef, undef, undef, undef, undef, undef, undef, undef, undef, undef, undef, undef, undef, undef, undef, undef, undef, undef, undef, undef, undef, undef, undef, undef, undef, undef, undef, undef, undef, undef, undef, undef, undef, undef, undef, undef, undef, undef, undef, undef, undef, undef, undef, undef, undef, undef, undef, undef], defers := [] }) ?assign ?body ?done ?stop
  case assign =>
    intro l y W K hK
    gi_wp2
    exact hK
  case body =>
    intro l pre x W _ hlt
    exact absurd hlt (Nat.not_lt_zero _)
  case stop =>
    rintro D c pre W hD h _ _
    exact h.elim
  case done =>
    rintro D ys W hD rfl ⟨⟨hcr, hfr⟩, hB⟩ hK
    have FN := Lib.hid (free_nil at_ W)
    have SN := Lib.hid (set_nil at_ k x W)
    have ZN := Lib.hid (size_nil at_ W)
    have MN := Lib.hid (mark_nil at_ W)
    have DN := Lib.hid (marked_nil at_ W)
    have WN := Lib.hid (sweep_nil W)
    have CN := Lib.hid (cap_nil W)
    have UN := Lib.hid (used_nil W)
    have RN := Lib.hid (room_nil W)
    have hB' := Lib.hid hB
    have hwD : w.heap.size ≤ D := by simp at hD; omega
    have hK' := Lib.hid hK
    have hc' := Lib.hid (And.intro hcr hfr)
    clear hB hK hcr hfr hr0 hf0 hb hle hB13
    gi_wp2_with (first | (refine ⟨trivial, ?_⟩; gi_at_call 17; (with_reducible refine (callsIn_wide.2 (FN.out)).mono ?_); rintro e W' ⟨rfl, rfl⟩) | (refine ⟨trivial, ?_⟩; gi_at_call 18; (with_reducible refine (callsIn_wide.2 (SN.out)).mono ?_); rintro e W' ⟨rfl, rfl⟩) | (refine ⟨trivial, ?_⟩; gi_at_call 19; (with_reducible refine (callsIn_wide.2 (ZN.out)).mono ?_); rintro e W' ⟨rfl, rfl⟩) | (refine ⟨trivial, ?_⟩; gi_at_call 20; (with_reducible refine (callsIn_wide.2 (MN.out)).mono ?_); rintro e W' ⟨rfl, rfl⟩) | (refine ⟨trivial, ?_⟩; gi_at_call 21; (with_reducible refine (callsIn_wide.2 (DN.out)).mono ?_); rintro e W' ⟨rfl, rfl⟩) | (refine ⟨trivial, ?_⟩; gi_at_call 22; (with_reducible refine (callsIn_wide.2 (WN.out)).mono ?_); rintro e W' ⟨rfl, rfl⟩) | (refine ⟨trivial, ?_⟩; gi_at_call 23; (with_reducible refine (callsIn_wide.2 (CN.out)).mono ?_); rintro e W' ⟨rfl, rfl⟩) | (refine ⟨trivial, ?_⟩; gi_at_call 24; (with_reducible refine (callsIn_wide.2 (UN.out)).mono ?_); rintro e W' ⟨rfl, rfl⟩))
    clear FN SN ZN MN DN WN CN UN
    gi_wp2_with (refine ⟨trivial, ?_⟩; gi_at_call 25; (with_reducible refine (callsIn_wide.2 (RN.out)).mono ?_); rintro e W5 ⟨rfl, hB5⟩)
    have CP := Lib.hid (copy_nil W5)
    have K5 := Lib.hid (known20 W' W5 hB5)
    clear RN hB5
    gi_wp2_with (first | (refine ⟨trivial, ?_⟩; gi_at_call 26; (with_reducible refine (callsIn_wide.2 (CP.out)).mono ?_); rintro e W6 ⟨rfl, rfl⟩))
    clear CP
    gi_wp2_with (first | (refine ⟨trivial, ?_⟩; gi_at_call 13; (with_reducible refine (callsIn_wide.2 (K5.out)).mono ?_); rintro e W7 ⟨rfl, hB7⟩; have c7 := (hB7.cell (p := ⟨w.heap.size, 0, none⟩) (World.block_lt_of_cell? W' _ hc'.out.1)).trans hc'.out.1; have f7 := (hB7.frozen (p := ⟨w.heap.size, 0, none⟩) (World.block_lt_of_cell? W' _ hc'.out.1)).trans hc'.out.2))
    have hKt := (hB7.block D (Array.getElem?_eq_some_iff.1 hK'.out).1).trans hK'.out
    have hK2 := (KeepsOthers.setCell W7 ⟨w.heap.size, 0, none⟩ (.bool true)).same D _ hKt rfl
    refine ⟨by simp, .inl ⟨_, _, rfl, run_takeDeferred hK2, ?_⟩⟩
    have hc5 := cell_kept (World.cell?_setCell_same' W7 ⟨w.heap.size, 0, none⟩ (.bool true) (by rw [c7]; rfl)) (grownBy_putObj' _ D (.deferred none)) (fun r e => by cases e; exact ⟨_, hK2, rfl⟩)
    refine ⟨.bool true, ?_, rfl, ((hB'.out.trans (hB7.mono hB'.out.size)).setCell (p := ⟨w.heap.size, 0, none⟩) (Nat.le_refl _) _).trans (belowK_b (w := w) (Nat.le_refl _) _ D _ _ ?_ hK2 rfl rfl)⟩
    · simp [results, Try.f3, go_sem, hc5]
    · exact hwD
end Go.Proofs.Ytgdhapapdpccpaa.A
