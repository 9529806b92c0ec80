/- arena: Take. -/
import Derived.Test.YtgdhapapdpccpaaE
import Derived.Deep.LoopGhost
import Derived.Deep.DeepCutAuto
import Derived.Deep.CutBlock
import Derived.Lib.SliceRun
namespace Go.Proofs.Ytgdhapapdpccpaa.A
open Go.RowKit Go.Proofs
set_option linter.unusedVariables false
set_option linter.unusedSimpArgs false

set_option maxHeartbeats 16000000 in
set_option maxRecDepth 100000 in
theorem take_calls {w : World} {A : Ar} (R : Rep w A) (n : Int) (n0 : 1 ≤ n) (n1 : n ≤ A.ws.length)
    (hw : ∀ c, c < 22 → ∀ x ∈ (A.fs c).xs, 1 ≤ x ∧ 1 ≤ A.size x ∧ x + A.size x ≤ A.ws.length ∧ cls (A.size x) = c) (hs : ∀ c, c < 22 → (A.fs c).xs.Pairwise (· < ·)) (hlen0 : ∀ c, c < 22 → (A.fs c).xs.length ≤ 1048575) (hus0 : A.us + A.size (A.best n) + 1 ≤ 1048576) :
    Calls Try.prog 14 #[.pointer (some ⟨A.p, 0, none⟩), .int .i64 n] w fun e w' => (A.best n = 0 → e = .returned (.tuple #[.int .i64 0, .int .i64 5]) ∧ Rep w' A ∧ Steps w A w' A) ∧ (A.best n ≠ 0 → e = .returned (.tuple #[.int .i64 (A.best n), .int .i64 0]) ∧ ∃ A2 z, A.cutTo n (A.best n) (A.size (A.best n)) A2 z ∧ Rep w' (A2.finish (A.best n) z) ∧ Steps w A w' (A2.finish (A.best n) z)) := by
  have hm : ∀ c, c < 22 → ∀ x ∈ (A.fs c).xs, 1 ≤ x ∧ x ≤ A.ws.length := fun c hc x hx => by have := hw c hc x hx; omega
  have hlen : ∀ c, c < 22 → (A.fs c).xs.length ≤ 1048576 := fun c hc => by have := hlen0 c hc; omega
  have hus := Lib.hid hus0
  clear hus0
  have c0 := R.c0
  have sz := R.sz
  have U := Lib.hid (class_calls n n0 (by omega))
  have nA : ∀ b, A.foot b → b < w.heap.size := fun b hb => R.lt hb
  have R1 := (R.alloc (.cells #[.pointer (some ⟨A.p, 0, none⟩)] 24)).alloc (.cells #[.int .i64 n] 3)
  have S1 := ((Steps.refl w A).alloc (.cells #[.pointer (some ⟨A.p, 0, none⟩)] 24)).alloc (.cells #[.int .i64 n] 3)
  have h0 : ((w.alloc (.cells #[.pointer (some ⟨A.p, 0, none⟩)] 24)).alloc (.cells #[.int .i64 n] 3)).heap[w.heap.size]? = some (.cells #[.pointer (some ⟨A.p, 0, none⟩)] 24) := heap_alloc_old heap_alloc_new
  have h1 : ((w.alloc (.cells #[.pointer (some ⟨A.p, 0, none⟩)] 24)).alloc (.cells #[.int .i64 n] 3)).heap[w.heap.size + 1]? = some (.cells #[.int .i64 n] 3) := by
    have := heap_alloc_new (w := w.alloc (.cells #[.pointer (some ⟨A.p, 0, none⟩)] 24)) (o := .cells #[.int .i64 n] 3)
    rwa [show (w.alloc (.cells #[.pointer (some ⟨A.p, 0, none⟩)] 24)).heap.size = w.heap.size + 1 by simp] at this
  have hz : ((w.alloc (.cells #[.pointer (some ⟨A.p, 0, none⟩)] 24)).alloc (.cells #[.int .i64 n] 3)).heap.size = w.heap.size + 2 := by simp
  have k1 : decide (n < 1) = false := decide_eq_false (by omega)
  have k2 : decide (n > (A.ws.length : Int)) = false := decide_eq_false (by omega)
  go_enter Try.func14, Try.ntmps14
  go_wp2_with (first | (go_at_call 53; (with_reducible refine (U.out _).mono ?_); rintro e w' ⟨rfl, rfl⟩))
  generalize hW : (w.alloc (.cells #[.pointer (some ⟨A.p, 0, none⟩)] 24)).alloc (.cells #[.int .i64 n] 3) = W at *
  have b0 := cell_of (o := 0) h0
  have b1 := cell_of (o := 0) h1
  have a0 := R1.c0
  clear hW c0
  generalize hg : w.heap.size = g at *
  go_region
  go_upto_block 1 with (first | (go_at_call 53; (with_reducible refine (U.out _).mono ?_); rintro e w' ⟨rfl, rfl⟩))
  have R2 := (R1.alloc (.cells #[.int .i64 0] 3)).drew
  have S2 := (S1.alloc (.cells #[.int .i64 0] 3)).drew
  have h2 : ((W.alloc (.cells #[.int .i64 0] 3)).drew).heap[g + 2]? = some (.cells #[.int .i64 0] 3) := by
    have := heap_alloc_new (w := W) (o := .cells #[.int .i64 0] 3)
    rw [hz] at this; exact this
  replace h0 : ((W.alloc (.cells #[.int .i64 0] 3)).drew).heap[g]? = some (.cells #[.pointer (some ⟨A.p, 0, none⟩)] 24) := heap_alloc_old h0
  replace h1 : ((W.alloc (.cells #[.int .i64 0] 3)).drew).heap[g + 1]? = some (.cells #[.int .i64 n] 3) := heap_alloc_old h1
  generalize hW0 : (W.alloc (.cells #[.int .i64 0] 3)).drew = W0 at *
  clear b0 b1 a0 hW0 R1 S1 hz
  have nf : ∀ k, g ≤ k → ¬ A.foot k := fun k hk hf => by have := nA k hf; omega
  have c22 : cls n < 22 := cls_lt n n0 (by omega)
  have BX0 : Box W0 W0 (g + 2) (.int .i64 0) := Box.same (by rw [cell_of h2]; rfl) (frozen_of h2) ⟨rfl, rfl, rfl, rfl⟩
  have hmem := A.best_mem n c22
  have hsz : g + 2 < W0.heap.size := heap_lt h2
  go_cut [8] (fun v8 wc => ∃ (best : Int), A.best n = best ∧ (best = 0 ∨ (1 ≤ best ∧ best ≤ A.ws.length)) ∧ Box W0 wc (g + 2) (.int .i64 best))
  case first =>
    clear hw hs hlen0 hmem hus
    go_wp2_with (first | (go_at_call 53; (with_reducible refine (U.out _).mono ?_); rintro e w' ⟨rfl, rfl⟩))
    have hbest : A.seek n (22 - cls n) (cls n) 0 = A.best n := rfl
    clear U
    generalize cls n = cn at *
    go_loopg [8] 22 (fun gk s8 wr => ∃ (c : Nat) (best : Int), s8 = .int .i64 c ∧ c ≤ 22 ∧ 22 - c ≤ gk ∧ A.seek n (22 - c) c best = A.best n ∧ (best = 0 ∨ (1 ≤ best ∧ best ≤ A.ws.length)) ∧ Box W0 wr (g + 2) (.int .i64 best))
    case atStart => exact ⟨cn, 0, rfl, by omega, by omega, hbest, .inl rfl, BX0⟩
    case round =>
      clear hbest c22
      obtain ⟨c, best, rfl, hc22, hgk, hseek, hbo, hbx⟩ := hrel
      have rr := hbx.rep R2 (nf _ (by omega))
      have q2 := hbx.cell
      have q0 : wr.cell? ⟨g, 0, none⟩ = some (.pointer (some ⟨A.p, 0, none⟩)) := cell_but hbx.but (by rw [cell_of h0]; rfl) (by omega)
      by_cases hc : c < 22
      · by_cases hb0 : best = 0
        · subst hb0
          have okc := rr.hf c hc
          obtain ⟨ba, bc, hval, hba⟩ := FS.val_len okc
          have cf := rr.cf c hc
          rw [hval] at cf
          have z0 : (0 : Int) ≤ (c : Int) := by omega
          have z1 : (c : Int) < 22 := by omega
          have q2' : wr.cell? ⟨g + 2, 0, none⟩ = some (.int .i64 0) := q2
          clear q2
          go_wp2
          have q1 : wr.cell? ⟨g + 1, 0, none⟩ = some (.int .i64 n) := cell_but hbx.but (by rw [cell_of h1]; rfl) (by omega)
          rename World => wo
          have m2 : 22 - (c + 1) < gk := by omega
          have I0 : Box wo wo (g + 2) (.int .i64 0) := Box.same hbx.cell hbx.fz ⟨rfl, rfl, rfl, rfl⟩
          have hmc := hm c hc
          have hlc := hlen c hc
          generalize hxs : (A.fs c).xs = xs at *
          clear q2' cf
          go_loopg [44] xs.length (fun gj s44 wi => ∃ k : Nat, s44 = .int .i64 k ∧ k ≤ xs.length ∧ xs.length - k ≤ gj ∧ Box wo wi (g + 2) (.int .i64 (A.picks n 0 (xs.take k))))
          case atStart => exact ⟨0, rfl, by omega, by omega, I0⟩
          case round =>
            obtain ⟨k, rfl, hk, hgj, hbi⟩ := hrel
            have ri := hbi.rep rr (nf _ (by omega))
            have j0 := cell_but hbi.but q0 (by omega)
            by_cases hkl : k < xs.length
            · obtain ⟨b, rfl, hblk⟩ := hba k hkl
              have el := FS.elem (ri.hf c hc) hblk k (by rw [hxs]; exact hkl)
              rw [hxs] at el
              have mem : xs.getD k 0 ∈ xs := by simp [List.getD, hkl]
              have hx := hmc _ mem
              have pk := A.picks_snoc n 0 (xs.take k) (xs.getD k 0)
              rw [← take_snoc xs k hkl] at pk
              have pok := Ar.picks_ok (A := A) (n := n) (xs.take k) 0 (fun x hx => hmc x (List.mem_of_mem_take hx)) (.inl rfl)
              have j1 := cell_but hbi.but q1 (by omega)
              have PC := Lib.hid (pick_calls ri n (A.picks n 0 (xs.take k)) (xs.getD k 0) hx.1 hx.2 pok g (g + 1) (g + 2) j0 j1 hbi.cell hbi.fz)
              rw [← pk] at PC
              generalize xs.getD k 0 = x at *
              have m1 : xs.length - (k + 1) < gk := by omega
              have z2 : (0 : Int) ≤ (k : Int) := by omega
              have z3 : (k : Int) < (xs.length : Int) := by omega
              have z4 : IntKind.i64.wrap ((k : Int) + 1) = (k : Int) + 1 := i64w _ (by omega) (by omega)
              have z5 : wrap64 ((k : Int) + 1) = (k : Int) + 1 := w64 _ (by omega) (by omega)
              clear hm hlen hmc mem pk pok hba hseek hlc hx hbo hval okc nf
              go_wp2_with (first | (go_at_call 51; (with_reducible refine (PC.out).mono ?_); rintro e w7 ⟨rfl, hb7⟩))
              go_roundg (xs.length - (k + 1))
              case measure => exact m1
              case rel => exact ⟨k + 1, by go_num, hkl, Nat.le_refl _, hbi.trans hb7⟩
            · have hke : k = xs.length := by omega
              subst hke
              rw [List.take_length] at hbi
              have z4 : IntKind.i64.wrap ((c : Int) + 1) = (c : Int) + 1 := i64w _ (by omega) (by omega)
              have z5 : wrap64 ((c : Int) + 1) = (c : Int) + 1 := w64 _ (by omega) (by omega)
              have pfin := Ar.picks_ok (A := A) (n := n) xs 0 hmc (.inl rfl)
              have sfin := Ar.seek_step A n c hc
              rw [hxs] at sfin
              clear hm hlen hmc hba hlc nf
              go_wp2
              go_roundg (22 - (c + 1))
              case measure => exact m2
              case rel =>
                refine ⟨c + 1, A.picks n 0 xs, by go_num, hc, Nat.le_refl _, sfin.symm.trans hseek, pfin, hbx.trans hbi⟩
        · have hq : A.best n = best := by
            rw [← hseek, Ar.seek_stop A n c best hb0]
          have z0 : (c : Int) < 22 := by omega
          clear hm hlen nf
          go_wp2_with fail
          go_meet
          case rel => exact ⟨best, hq, hbo, hbx⟩
      · have hq : A.best n = best := by
          rw [← hseek, Ar.seek_end A n c best hc]
        obtain rfl : c = 22 := by omega
        clear hm hlen nf
        go_wp2_with fail
        go_meet
        case rel => exact ⟨best, hq, hbo, hbx⟩
  case rest =>
    clear U
    obtain ⟨best, hq, hbo, hbx⟩ := hcut
    rename World => wr
    have rr := hbx.rep R2 (nf _ (by omega))
    have q2 := hbx.cell
    have q0 : wr.cell? ⟨g, 0, none⟩ = some (.pointer (some ⟨A.p, 0, none⟩)) := cell_but hbx.but (by rw [cell_of h0]; rfl) (by omega)
    by_cases hb0 : best = 0
    · subst hb0
      have SB := S2.box hbx (by omega)
      have hq' := Lib.hid hq
      clear hm hlen hw hs hlen0 hmem nf hbo hq
      replace rr := Lib.hid rr
      replace SB := Lib.hid SB
      go_wp2_with fail
      go_ret2
      exact ⟨fun _ => ⟨rfl, rr.out, SB.out⟩, fun h => absurd hq'.out h⟩
    · skip
      have rr' := rr
      rcases hmem with hz | ⟨d, hd, hmd, hnd⟩
      · exact absurd (hq.symm.trans hz) hb0
      rw [hq] at hmd hnd
      have wx := hw d hd best hmd
      have hsd := hs d hd
      have hld := hlen0 d hd
      have sz2 := rr.sz
      have T := Lib.hid (size_calls rr best wx.1 (by omega))
      have D := Lib.hid (drop_calls rr best wx.1 (by omega) wx.2.1 (by omega) (by rw [wx.2.2.2]; omega) (by rw [wx.2.2.2]; exact hsd.imp (fun h => Int.le_of_lt h)) _ rfl (by rw [wx.2.2.2]; exact count_lt _ _ hsd hmd))
      rw [wx.2.2.2] at D
      have q1 : wr.cell? ⟨g + 1, 0, none⟩ = some (.int .i64 n) := cell_but hbx.but (by rw [cell_of h1]; rfl) (by omega)
      have k9 : IntKind.i64.wrap (A.size best - n) = A.size best - n := i64w _ (by omega) (by omega)
      have k8 : wrap64 (A.size best - n) = A.size best - n := w64 _ (by omega) (by omega)
      have fo := nf g (Nat.le_refl _)
      have fo1 := nf (g + 1) (by omega)
      have fo2 := nf (g + 2) (by omega)
      have wx' := Lib.hid wx
      have CP := Lib.hid (fun (w2 : World) (f1 : FS) (x1 : f1.xs = A.less best (A.size best)) (R : Rep w2 (A.setF (cls (A.size best)) f1)) (h2 : 2 ≤ A.size best - n) => cut_put n best (A.size best) f1 x1 R n0 wx.1 wx.2.1 h2 wx.2.2.1 hs hlen0)
      simp only [wx.2.2.2] at CP
      have hlt : g + 2 < wr.heap.size := World.block_lt_of_cell? wr _ q2
      have zb : (if 2 ≤ A.size best - n then n else A.size best) = (if 2 ≤ A.size best - n then n else A.size best) := rfl
      clear zb
      have k7 : wrap64 (best + n) = best + n := w64 _ (by omega) (by omega)
      have k6 : wrap64 (best + n + 1) = best + n + 1 := w64 _ (by omega) (by omega)
      have k5 : wrap64 (A.size best - n - 1) = A.size best - n - 1 := w64 _ (by omega) (by omega)
      have hcd : cls (A.size best) = d := wx.2.2.2
      generalize hsv : A.size best = sv at *
      have DL : ∀ (f1 : FS), f1.xs = (A.fs d).xs.take ((A.fs d).xs.countP (· < best)) ++ (A.fs d).xs.drop ((A.fs d).xs.countP (· < best) + 1) → f1.xs = A.less best sv := fun f1 h => by unfold Ar.less; rw [hcd]; exact h
      replace DL := Lib.hid DL
      clear hm hlen nf hbo hw hs hlen0 wx hsd hmd hld
      go_upto_if 63 with (first | (go_at_call 52; (with_reducible refine (T.out).mono ?_); rintro e w7 ⟨rfl, rfl⟩) | (go_at_call 54; (with_reducible refine (D.out).mono ?_); rintro e w2 ⟨f1, x1, rfl, R3, S3⟩; have qa := S3.cell q0 fo; have qb := S3.cell q1 fo1; have qc := S3.cell q2 fo2))
      go_cut [11] (fun v11 wc => ∃ (A2 : Ar) (z : Int), v11 = .int .i64 z ∧ A.cutTo n best sv A2 z ∧ Rep wc A2 ∧ Steps w7 A wc A2)
      case first =>
        have fb1 : ¬ (A.setF d f1).foot (g + 1) := fun h => (S3.foot _ h).elim fo1 (fun h' => absurd hlt (by omega))
        by_cases h2 : 2 ≤ sv - n
        · go_wp2_with (go_at_call 55; (with_reducible refine (CP.out _ f1 (DL.out f1 x1) R3 h2).mono ?_); rintro e w3 ⟨rfl, A2, a2, R4, S4⟩; have qd := S4.cell qb fb1)
          go_meet
          case rel => exact ⟨A2, n, rfl, a2, R4, S3.trans S4⟩
        · replace h2' : decide (sv - n ≥ 2) = false := decide_eq_false h2
          go_wp2_with fail
          go_meet
          case rel => exact ⟨_, sv, rfl, ⟨f1, DL.out f1 x1, .inl ⟨Int.not_le.2 h2, rfl, by rw [hcd]⟩⟩, R3, S3⟩
      case rest =>
        obtain ⟨A2, z, rfl, a2, R4, S4⟩ := hcut
        have qa' := S4.cell q0 fo
        have qb' := S4.cell q1 fo1
        have qc' := S4.cell q2 fo2
        have c0' := R4.c0
        have wx2 := wx'.out
        have cw' := R4.cw (best.toNat - 1) (by rw [S4.len]; omega)
        have zw' := R4.zw (best.toNat - 1)
        rw [S4.p, S4.pw, S4.len] at c0'
        rw [S4.pw] at cw' zw'
        have m1 : wrap64 (best - 1) = best - 1 := w64 _ (by omega) (by omega)
        have m1i : IntKind.i64.wrap (best - 1) = best - 1 := i64w _ (by omega) (by omega)
        have m2 : 0 ≤ best - 1 := by omega
        have m3 : best - 1 < (A.ws.length : Int) := by omega
        have m2a : 1 ≤ best := wx2.1
        have m3a : best ≤ (A.ws.length : Int) := by omega
        have m3b : best < (A.ws.length : Int) + 1 := by omega
        have m2c : (0 : Int) ≤ best := by omega
        have zz : 1 ≤ z ∧ z ≤ sv := by
          obtain ⟨f1', _, h⟩ := a2
          rcases h with ⟨_, rfl, _⟩ | ⟨h1, rfl, _⟩
          · exact ⟨wx2.2.1, Int.le_refl _⟩
          · exact ⟨n0, by omega⟩
        have m4 : IntKind.u64.wrap z = z := by rw [IntKind.wrap_u64]; omega
        have m5 : IntKind.u64.wrap (z * 4) = z * 4 := by rw [IntKind.wrap_u64]; omega
        have m6 : bits .or .u64 (z * 4) 1 = z * 4 + 1 := by
          rw [u64_or (z * 4) 1 (by omega) (by omega) (by decide) (by decide)]
          have e : (z * 4).toNat = z.toNat <<< 2 := by rw [Nat.shiftLeft_eq]; omega
          have e1 : (1 : Int).toNat = 1 := rfl
          rw [e, e1, ← Nat.shiftLeft_add_eq_or_of_lt (by decide : 1 < 2 ^ 2), Nat.shiftLeft_eq]
          omega
        have R5 := R4.setW (best.toNat - 1) (z * 4 + 1) (by omega)
        have S5 := Steps.setW (w := wc) (A := A2) (best.toNat - 1) (z * 4 + 1)
        obtain ⟨A3, hA3⟩ : ∃ A3 : Ar, A3 = { A2 with ws := A2.ws.set (best.toNat - 1) (z * 4 + 1) } := ⟨_, rfl⟩
        rw [← hA3] at R5 S5
        rw [S4.pw] at R5 S5
        have hlt2 : g + 2 < w7.heap.size := hlt
        have S45 := S4.trans S5
        have ya := S45.cell q0 fo
        have yb := S45.cell q1 fo1
        have yc := S45.cell q2 fo2
        have y0 := R5.c0
        have yl := R5.cl
        have y1 := R5.c1
        rw [S45.p, S45.pw, S45.len] at y0
        rw [S45.p, S45.pl] at yl
        rw [S45.p] at y1
        have bz : best + z ≤ (A.ws.length : Int) := by omega
        clear wx2 CP T D DL
        go_upto_region 24 with fail
        go_region_held3 (fun w9 => w9.cell? ⟨g, 0, none⟩ = some (.pointer (some ⟨A.p, 0, none⟩)) ∧ w9.cell? ⟨g + 2, 0, none⟩ = some (.int .i64 best) ∧ w9.cell? ⟨A.p, 0, none⟩ = some (.slice (some ⟨A.pw, 0, none⟩) A.ws.length A.ws.length)) (first | exact ⟨qa', qc', c0'⟩ | exact ⟨ya, yc, y0⟩) (first | fail)
        generalize hW5 : wc.setCell ⟨A.pw, best.toNat - 1, none⟩ (.int .u64 (z * 4 + 1)) = W5 at *
        clear qa' qb' qc' c0' cw' zw' m4 m5 m6 hW5
        have ll : A3.lv.length = A.ws.length + 1 := by rw [R5.ll, S45.len]
        rw [ll] at yl
        have cv := R5.cv best.toNat (by rw [ll]; omega)
        have zl := R5.zl best.toNat
        have R6 := R5.setL best.toNat true
        have S6 := Steps.setL (w := W5) (A := A3) best.toNat true
        obtain ⟨A4, hA4⟩ : ∃ A4 : Ar, A4 = { A3 with lv := A3.lv.set best.toNat true } := ⟨_, rfl⟩
        rw [← hA4] at R6 S6
        rw [S45.pl] at R6 S6 cv zl
        have S46 := S45.trans S6
        have xa := S46.cell q0 fo
        have xb := S46.cell q1 fo1
        have xc := S46.cell q2 fo2
        have x0 := R6.c0
        have xl := R6.cl
        have ll4 : A4.lv.length = A.ws.length + 1 := by rw [R6.ll, S46.len]
        rw [S46.p, S46.pw, S46.len] at x0
        rw [S46.p, S46.pl, ll4] at xl
        go_upto_region 25 with fail
        go_region_held3 (fun w9 => w9.cell? ⟨g, 0, none⟩ = some (.pointer (some ⟨A.p, 0, none⟩)) ∧ w9.cell? ⟨g + 2, 0, none⟩ = some (.int .i64 best) ∧ w9.cell? ⟨A.p, 24, none⟩ = some (.slice (some ⟨A.pl, 0, none⟩) (A.ws.length + 1) (A.ws.length + 1))) (first | exact ⟨ya, yc, yl⟩ | exact ⟨xa, xc, xl⟩) (first | fail)
        generalize hW6 : W5.setCell ⟨A.pl, best.toNat, none⟩ (.bool true) = W6 at *
        clear ya yb yc y0 y1 yl cv zl hW6
        go_upto_region 26 with fail
        have s1 : IntKind.i64.wrap (best + z) = best + z := i64w _ (by omega) (by omega)
        have s2 : wrap64 (best + z) = best + z := w64 _ (by omega) (by omega)
        have s3 : 0 ≤ best := by omega
        have s4 : best ≤ best + z := by omega
        have s6 : 0 ≤ best + z := by omega
        have s7 : 0 ≤ z := by omega
        have len4 : A4.ws.length = A.ws.length := S46.len
        have pw4 : A4.pw = A.pw := S46.pw
        have R66 : Rep W6.drew.drew.drew A4 := R6.drew.drew.drew
        obtain ⟨kz, hkz⟩ : ∃ kz : Nat, (best + z).toNat - best.toNat = kz := ⟨_, rfl⟩
        have hkz2 : kz = z.toNat := by omega
        subst hkz2
        have hkp : 0 < z.toNat := by omega
        have hko : best.toNat + z.toNat ≤ A4.ws.length := by rw [len4]; omega
        have hcl : (Builtin.clear_ #[41] 0 #[.slice (some ⟨A.pw, best.toNat, none⟩) z.toNat (A.ws.length - best.toNat)]).run Try.prog W6.drew.drew.drew = .ok (.tuple #[]) (W6.drew.drew.drew.setCells A.pw best.toNat (List.replicate z.toNat (.int .u64 0))) := by
          refine Lib.run_clear_slice W6.drew.drew.drew 41 22 0 (.int .u64 0) Try.underlying41 Try.zeroValue22 rfl rfl A.pw best.toNat z.toNat (A.ws.length - best.toNat) (by omega) (fun j hj => ?_) (fun j hj => ?_)
          · rw [← pw4, R66.cw (best.toNat + j) (by rw [len4]; omega)]; rfl
          · rw [← pw4]; exact R66.zw _
        have R7 := R66.clear best.toNat z.toNat (by rw [len4]; omega)
        have S7 := Steps.clear (w := W6.drew.drew.drew) (A := A4) best.toNat z.toNat (by rw [len4]; omega)
        obtain ⟨A5, hA5⟩ : ∃ A5 : Ar, A5 = { A4 with ws := _root_.Go.Proofs.Ytgdhapapdpccpaa.A.zeros A4.ws best.toNat z.toNat } := ⟨_, rfl⟩
        rw [← hA5] at R7 S7
        rw [pw4] at R7 S7
        have S47 := (S46.drew.drew.drew).trans S7
        have va := S47.cell q0 fo
        have vb := S47.cell q1 fo1
        have vc := S47.cell q2 fo2
        have v1 := R7.c1
        have vz := R7.zp 1
        rw [S47.p] at v1 vz
        have v0 := R7.c0
        rw [S47.p, S47.pw, S47.len] at v0
        clear R66
        go_region_held3 (fun w9 => w9.cell? ⟨g, 0, none⟩ = some (.pointer (some ⟨A.p, 0, none⟩)) ∧ w9.cell? ⟨g + 2, 0, none⟩ = some (.int .i64 best) ∧ w9.cell? ⟨A.p, 0, none⟩ = some (.slice (some ⟨A.pw, 0, none⟩) A.ws.length A.ws.length)) (first | exact ⟨xa, xc, x0⟩ | exact ⟨va, vc, v0⟩) (first | fail)
        generalize hW7 : W6.drew.drew.drew.setCells A.pw best.toNat (List.replicate z.toNat (.int .u64 0)) = W7 at *
        clear xa xb xc x0 xl hcl hW7
        have us5 : A5.us = A.us := by rw [hA5, hA4, hA3]; show A2.us = A.us; exact Ar.cutTo_us a2
        have ub := R7.us0
        have t1 : IntKind.i64.wrap (z + 1) = z + 1 := i64w _ (by omega) (by omega)
        have t2 : wrap64 (z + 1) = z + 1 := w64 _ (by omega) (by omega)
        have t3 : IntKind.i64.wrap (A5.us + (z + 1)) = A5.us + (z + 1) := i64w _ (by omega) (by omega)
        have t4 : wrap64 (A5.us + (z + 1)) = A5.us + (z + 1) := w64 _ (by omega) (by omega)
        have hu6 : A5.us + (z + 1) ≤ 1048576 := by rw [us5]; have := hus.out; rw [hq, hsv] at this; omega
        have R8 := R7.setU (A5.us + (z + 1)) (by omega) hu6
        have S8 := Steps.setU (w := W7) (A := A5) (A5.us + (z + 1))
        obtain ⟨A6, hA6⟩ : ∃ A6 : Ar, A6 = { A5 with us := A5.us + (z + 1) } := ⟨_, rfl⟩
        rw [← hA6] at R8 S8
        rw [S47.p] at R8 S8
        have fin6 : A6 = A2.finish best z := by rw [hA6, hA5, hA4, hA3]; rfl
        rw [fin6] at R8 S8
        have S9 := ((S2.box hbx (by omega)).trans S47).trans S8
        have wc2 : (W7.setCell ⟨A.p, 1, none⟩ (.int .i64 (A5.us + (z + 1)))).cell? ⟨g + 2, 0, none⟩ = some (.int .i64 best) := by
          rw [World.cell?_setCell_far _ _ _ _ (fun e => fo2 (.inl (by show g + 2 = A.p; exact e.symm)))]; exact vc
        replace R8 := Lib.hid R8
        replace S9 := Lib.hid S9
        have a2' := Lib.hid a2
        clear S8 R5 R6 R7 S5 S6 S7 S45 S46 S47 R4 S4 hA3 hA4 hA5 hA6 fin6 a2 ub us5 hu6 v0 vb
        go_wp2
        go_ret2
        refine ⟨fun h => absurd (hq.symm.trans h) hb0, fun _ => ?_⟩
        rw [hq, hsv]
        exact ⟨rfl, A2, z, a2'.out, R8.out, S9.out⟩
end Go.Proofs.Ytgdhapapdpccpaa.A
