/- arena: Take, of an arena as a row of blocks. -/
import Derived.Test.YtgdhapapdpccpaaO
import Derived.Test.YtgdhapapdpccpaaF
namespace Go.Proofs.Ytgdhapapdpccpaa.A
open Go.RowKit Go.Proofs
set_option linter.unusedVariables false
set_option linter.unusedSimpArgs false

theorem Good.parts {pre post : List Blk} {b : Blk} (h : Good (pre ++ b :: post)) : (∀ x ∈ pre, 1 ≤ x.sz) ∧ 1 ≤ b.sz ∧ ∀ x ∈ post, 1 ≤ x.sz :=
  ⟨fun x hx => h.2 x (List.mem_append_left _ hx), h.2 b (by simp), fun x hx => h.2 x (by simp [hx])⟩
theorem good_mk {xs : List Blk} (h : NoAdj xs) (h2 : ∀ x ∈ xs, 1 ≤ x.sz) : Good xs := ⟨h, h2⟩
theorem Is.finish {A2 : Ar} {rpre rpost : List RB} {r : RB} (h : Is A2 (rpre ++ r :: rpost)) (hl : r.lst = false) (b : Int) (hb : b = 1 + span rpre) (z : Nat) (hz : r.sz = z) :
    Is (A2.finish b z) (rpre ++ ⟨z * 4 + 1, false, true, List.replicate z 0⟩ :: rpost) := by
  have h1 := h.setHd (b.toNat - 1) (by omega) ((z : Int) * 4 + 1)
  have h2 := h1.zeros b.toNat (z : Int).toNat (by omega) (by show _ = r.sz; omega)
  have h3 := h2.setLiv b.toNat (by omega) true
  have h4 := h3.setUs (A2.us + ((z : Int) + 1))
  rw [show (z : Int).toNat = z by omega, hl] at h4
  unfold Ar.finish
  rw [show (z : Int).toNat = z by omega]
  exact h4
theorem finish_inv {A A2 : Ar} {N n s : Nat} {z : Int} {pre post : List Blk} (I : Inv A N (pre ++ .free s :: post)) (n0 : 1 ≤ n) (hn : n ≤ s) (hN : N ≤ 1048575) (hcut : A.cutTo n (1 + spanB pre) s A2 z) :
    Inv (A2.finish (1 + spanB pre) z) N (if n + 2 ≤ s then pre ++ .used false (List.replicate n 0) :: .free (s - n - 1) :: post else pre ++ .used false (List.replicate s 0) :: post) := by
  obtain ⟨rpre, r, rpost, k1, k2, k3, k4, k5, k6, k7⟩ := I.spot
  have us2 := Ar.cutTo_us hcut
  simp only [Blk.sz] at k7
  have hsp := I.spanN (by simp)
  have hl := I.len
  have hsz : r.sz = s := k3.2
  have c22 := cls_lt (s : Int) (by omega) (by omega)
  have G := I.good
  obtain ⟨g1, g2, g3⟩ := G.parts
  obtain ⟨a1, a2, a3, a4⟩ := NoAdj.free_parts G.1
  obtain ⟨f1, x1, hc⟩ := hcut
  have d1 := k1.drop k3.1.2.1 (1 + spanB pre) (by rw [k5]) (cls s) c22 (by rw [hsz]) f1 x1
  rw [spanB_append] at hsp
  simp only [spanB, Blk.sz] at hsp
  rcases hc with ⟨c1, rfl, rfl⟩ | ⟨c1, rfl, f2, x2, rfl⟩
  · rw [if_neg (by omega)]
    have d2 := d1.finish rfl (1 + spanB pre) (by rw [k5]) s hsz
    refine Inv.mk' d2 (Fits.mid_mk k2 ⟨by simp, rfl, rfl, rfl⟩ k4) (by rw [spanB_append]; simp only [spanB, Blk.sz, List.length_replicate]; exact hsp) ?_ ?_
    · show A.us + (s + 1) = _
      rw [I.us, usedB_append, usedB_append]
      simp only [usedB, List.length_replicate]
      omega
    · refine good_mk (NoAdj.used.2 ⟨a1, a2⟩) (fun x hx => ?_)
      rcases List.mem_append.1 hx with h | h
      · exact g1 x h
      · rcases List.mem_cons.1 h with rfl | h
        · simp only [Blk.sz, List.length_replicate] at g2 ⊢; exact g2
        · exact g3 x h
  · rw [if_pos (by omega)]
    have d2 := d1.split rfl k3.1.2.2 n (by show n < r.sz; omega)
    have c22' := cls_lt ((s : Int) - n - 1) (by omega) (by omega)
    have hz2 : ((r.wd.drop (n + 1)).length : Int) = (s : Int) - n - 1 := by
      unfold RB.sz at hsz
      rw [List.length_drop, hsz]; omega
    have hz1 : (r.wd.take n).length = n := by
      unfold RB.sz at hsz
      rw [List.length_take, hsz]; omega
    have d3 : Is (A.setF (cls s) f1) ((rpre ++ [(⟨r.hd, false, false, r.wd.take n⟩ : RB)]) ++ (⟨r.wd.getD n 0, false, false, r.wd.drop (n + 1)⟩ : RB) :: rpost) := by
      rw [List.append_assoc]; exact d2
    have hs1 : span (rpre ++ [(⟨r.hd, false, false, r.wd.take n⟩ : RB)]) = spanB pre + n + 1 := by
      rw [span_append, k5]
      simp only [span, RB.sz, hz1]
      omega
    have d4 := d3.put rfl (1 + spanB pre + n + 1) (by rw [hs1]; omega) ((s : Int) - n - 1) (by show _ = ((r.wd.drop (n + 1)).length : Int); rw [hz2]) (cls ((s : Int) - n - 1)) c22' rfl f2 x2
    rw [List.append_assoc] at d4
    have d5 := d4.finish rfl (1 + spanB pre) (by rw [k5]) n hz1
    refine Inv.mk' d5 (Fits.mid_mk k2 ⟨by simp, rfl, rfl, rfl⟩ ⟨⟨⟨?_, rfl, rfl⟩, ?_⟩, k4⟩) (by rw [spanB_append]; simp only [spanB, Blk.sz, List.length_replicate]; omega) ?_ ?_
    · show _ = ((r.wd.drop (n + 1)).length : Int) * 4
      rw [hz2]
    · show (r.wd.drop (n + 1)).length = s - n - 1
      omega
    · show A.us + ((n : Int) + 1) = _
      rw [I.us, usedB_append, usedB_append]
      simp only [usedB, List.length_replicate]
      omega
    · refine good_mk (NoAdj.used.2 ⟨a1, (NoAdj.parts G.1).2.size⟩) (fun x hx => ?_)
      rcases List.mem_append.1 hx with h | h
      · exact g1 x h
      · rcases List.mem_cons.1 h with rfl | h
        · simp only [Blk.sz, List.length_replicate]; exact n0
        · rcases List.mem_cons.1 h with rfl | h
          · simp only [Blk.sz]; omega
          · exact g3 x h
/-- Take's answer, and the row of blocks behind it. -/
def takeE (bs : List Blk) (n : Int) : (Int × Int) × List Blk := if n < 1 then ((0, 2), bs) else match takeR n.toNat bs with
  | none => ((0, 5), bs)
  | some x => ((x.1, 0), x.2)
theorem own_two {w : World} {p : Nat} {F : Nat → Prop} {N : Nat} {bs : List Blk} (h : Own w p F N bs) (o o' : Obj) : Own ((w.alloc o).alloc o') p F N bs ∧ Mv w F ((w.alloc o).alloc o') F := by
  refine ⟨(h.alloc o).alloc o', fun b hb => .inl hb, ⟨rfl, rfl, rfl, by simp; omega, fun k hk hn => ?_⟩⟩
  rw [Below.heap_alloc _ _ _ (by simp; omega), Below.heap_alloc _ _ _ hk]
theorem Mv.drew {w w' : World} {F F' : Nat → Prop} (h : Mv w F w' F') : Mv w F w'.drew F' := ⟨h.ext, ⟨h.but.os, h.but.tape, h.but.output, h.but.size, h.but.off⟩⟩
theorem take_own {w : World} {p : Nat} {F : Nat → Prop} {N : Nat} {bs : List Blk} (h : Own w p F N bs) (hN : N ≤ 100000) (n : Int) :
    Calls Try.prog 14 #[.pointer (some ⟨p, 0, none⟩), .int .i64 n] w fun e w' => e = .returned (.tuple #[.int .i64 (takeE bs n).1.1, .int .i64 (takeE bs n).1.2]) ∧ ∃ F', Own w' p F' N (takeE bs n).2 ∧ Mv w F w' F' := by
  unfold takeE
  by_cases h1 : n < 1
  · have O := Lib.hid (fun o o' => own_two h o o')
    simp only [if_pos h1]
    clear h
    go_enter Try.func14, Try.ntmps14
    go_wp2_with fail
    go_ret2
    exact ⟨rfl, F, O.out _ _⟩
  · simp only [if_neg h1]
    by_cases h2 : n ≤ N
    · have h' := h
      obtain ⟨⟨A, rfl, R, I, hF⟩, lt⟩ := h
      obtain ⟨m, rfl⟩ : ∃ m : Nat, n = m := ⟨n.toNat, by omega⟩
      obtain ⟨rs, q1, q2⟩ := I.rows
      have hl := I.lf q2
      have hsp : span rs ≤ 1048575 := by rw [← q1.len, I.len]; omega
      obtain ⟨L1, L2, L3⟩ := lists_ok q1 hl hsp
      have B := best_of I (by omega) m (by omega) (by omega)
      have hu : A.us + A.size (A.best m) + 1 ≤ 1048576 := by
        have u1 := usedB_le bs
        have us : A.us ≤ 100000 := by
          rw [I.us]
          by_cases hb : bs = []
          · subst hb; simp [usedB]
          · have := I.spanN hb; omega
        rcases B with ⟨b0, _⟩ | ⟨pre, s, post, b1, b2⟩
        · rw [b0]
          by_cases hb : bs = []
          · rcases q2 with q2 | ⟨_, q3, rfl⟩
            · subst hb
              have := q2.nil
              subst this
              have e : A.size 0 = 0 := by unfold Ar.size; rw [q1.ws]; simp [flat, List.getD]
              rw [e]; omega
            · have e : A.size 0 = 0 := by
                unfold Ar.size
                rw [q1.ws]
                match N, q3 with
                | 0, _ => simp [flat, List.getD]
                | 1, _ => simp [flat, List.getD]
              rw [e]; omega
          · obtain ⟨rs', k1, k2⟩ := I.fits hb
            match bs, hb with
            | b :: r, _ =>
              obtain ⟨x, xs, rfl, k3, k4⟩ := k2.cons
              have e : A.size 0 = A.size 1 := rfl
              rw [e, k1.size (pre := []) 1 (by simp [span]), k3.hd4, k3.sz]
              have := I.spanN (by simp)
              simp only [spanB] at this
              omega
        · have k := I
          rw [b2.eq] at k
          obtain ⟨rpre, r, rpost, k1, k2, k3, k4, k5, k6, k7⟩ := k.spot
          have hs := I.len
          simp only [Blk.sz] at k7
          rw [b1, k1.size _ (by rw [k5]), k3.hd4, k3.sz]
          simp only [Blk.sz]
          omega
      have T := take_calls R m (by omega) (by rw [I.len]; omega) L1 L2 L3 hu
      rcases B with ⟨b0, b1⟩ | ⟨pre, s, post, b1, b2⟩
      · have e : takeR m bs = none := by
          unfold takeR
          cases hb : best? m bs with
          | none => rfl
          | some x =>
            have := best_some m bs x hb
            have := b1 x.2.1 (by rw [this.eq]; simp)
            have := (best_some m bs x hb).fits
            omega
        rw [show (m : Int).toNat = m by omega, e]
        refine T.mono ?_
        rintro e w' ⟨t1, _⟩
        obtain ⟨rfl, R', S'⟩ := t1 b0
        exact ⟨rfl, Own.step rfl hF lt R' S' I⟩
      · have e : takeR m bs = some (1 + (spanB pre : Int), if m + 2 ≤ s then pre ++ .used false (List.replicate m 0) :: .free (s - m - 1) :: post else pre ++ .used false (List.replicate s 0) :: post) := by
          unfold takeR
          rw [takeR_best b2]
          rfl
        rw [show (m : Int).toNat = m by omega, e]
        refine T.mono ?_
        rintro e w' ⟨_, t2⟩
        rw [b1] at t2
        obtain ⟨rfl, A2, z, hcut, R', S'⟩ := t2 (by omega)
        have k := I
        rw [b2.eq] at k
        obtain ⟨rpre, r, rpost, k1, k2, k3, k4, k5, k6, k7⟩ := k.spot
        rw [show A.size (1 + spanB pre) = s by rw [k1.size _ (by rw [k5]), k3.hd4, k3.sz]; rfl] at hcut
        exact ⟨rfl, Own.step rfl hF lt R' S' (finish_inv k (by omega) b2.fits (by omega) hcut)⟩
    · have O := Lib.hid (fun o o' => own_two h o o')
      have e : takeR n.toNat bs = none := by
        unfold takeR
        cases hb : best? n.toNat bs with
        | none => rfl
        | some x =>
          have k := best_some n.toNat bs x hb
          obtain ⟨⟨A, rfl, R, I, hF⟩, lt⟩ := h
          have := I.spanN (by rw [k.eq]; simp)
          rw [k.eq, spanB_append] at this
          simp only [spanB, Blk.sz] at this
          have := k.fits
          omega
      rw [e]
      obtain ⟨⟨A, rfl, R, I, hF⟩, lt⟩ := h
      have c0 := R.c0
      rw [I.len] at c0
      clear R I hF lt e
      have k1 : decide (n < 1) = false := decide_eq_false h1
      have k2 : decide (n > (N : Int)) = true := decide_eq_true (by omega)
      have OO := O (.cells #[.pointer (some ⟨A.p, 0, none⟩)] 24) (.cells #[.int .i64 n] 3)
      have a0 : ((w.alloc (.cells #[.pointer (some ⟨A.p, 0, none⟩)] 24)).alloc (.cells #[.int .i64 n] 3)).cell? ⟨A.p, 0, none⟩ = some (.slice (some ⟨A.pw, 0, none⟩) N N) := by
        rw [cell_but (F := fun _ => False) (But.of_below (((Below.refl w.heap.size w).alloc (Nat.le_refl _) _).alloc (by simp) _)) c0 (fun h => h)]
      have h0 : ((w.alloc (.cells #[.pointer (some ⟨A.p, 0, none⟩)] 24)).alloc (.cells #[.int .i64 n] 3)).heap[w.heap.size]? = some (.cells #[.pointer (some ⟨A.p, 0, none⟩)] 24) := heap_alloc_old heap_alloc_new
      have h1' : ((w.alloc (.cells #[.pointer (some ⟨A.p, 0, none⟩)] 24)).alloc (.cells #[.int .i64 n] 3)).heap[w.heap.size + 1]? = some (.cells #[.int .i64 n] 3) := by
        have := heap_alloc_new (w := w.alloc (.cells #[.pointer (some ⟨A.p, 0, none⟩)] 24)) (o := .cells #[.int .i64 n] 3)
        rwa [show (w.alloc (.cells #[.pointer (some ⟨A.p, 0, none⟩)] 24)).heap.size = w.heap.size + 1 by simp] at this
      have b0 := cell_of (o := 0) h0
      have b1 := cell_of (o := 0) h1'
      have b0' : ((w.alloc (.cells #[.pointer (some ⟨A.p, 0, none⟩)] 24)).alloc (.cells #[.int .i64 n] 3)).cell? ⟨w.heap.size, 0, none⟩ = some (.pointer (some ⟨A.p, 0, none⟩)) := b0
      have b1' : ((w.alloc (.cells #[.pointer (some ⟨A.p, 0, none⟩)] 24)).alloc (.cells #[.int .i64 n] 3)).cell? ⟨w.heap.size + 1, 0, none⟩ = some (.int .i64 n) := b1
      clear h1 h2 hN b0 b1 h0 h1' c0 O
      go_enter Try.func14, Try.ntmps14
      go_wp2_with fail
      generalize hW : (w.alloc (.cells #[.pointer (some ⟨A.p, 0, none⟩)] 24)).alloc (.cells #[.int .i64 n] 3) = W at *
      generalize hg : w.heap.size = g at *
      replace OO := Lib.hid OO
      clear hW hg
      go_region
      go_wp2_with fail
      go_ret2
      exact ⟨rfl, F, OO.out.1.drew, OO.out.2.drew⟩
/-- Of an arena that is not there. -/
theorem take_nil (n : Int) (w : World) : Calls Try.prog 14 #[.pointer none, .int .i64 n] w fun e w' => e = .returned (.tuple #[.int .i64 0, .int .i64 1]) ∧ Below w.heap.size w w' := by
  go_enter Try.func14, Try.ntmps14
  go_wp2_with fail
  go_ret2
  exact ⟨rfl, ((Below.refl _ _).alloc (Nat.le_refl _) _).alloc (by simp) _⟩
end Go.Proofs.Ytgdhapapdpccpaa.A
