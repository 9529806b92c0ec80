/- arena: release and Free, of an arena as a row of blocks. -/
import Derived.Test.YtgdhapapdpccpaaP
namespace Go.Proofs.Ytgdhapapdpccpaa.A
open Go.RowKit Go.Proofs
set_option linter.unusedVariables false
set_option linter.unusedSimpArgs false

/-- The address of the last block of a row; 0: of none. -/
def AheadOf (xs : List Blk) (a : Int) : Prop := (xs = [] ∧ a = 0) ∨ ∃ d x, xs = d ++ [x] ∧ a = 1 + spanB d
theorem Fits.snoc {xs : List Blk} {b : Blk} {rs : List RB} (h : Fits (xs ++ [b]) rs) : ∃ r1 r, rs = r1 ++ [r] ∧ Fits xs r1 ∧ Fit b r := by
  obtain ⟨r1, r, r2, rfl, h1, h2, h3⟩ := h.mid
  have := h3.nil
  subst this
  exact ⟨r1, r, rfl, h1, h2⟩
theorem snoc_inj {α : Type} {xs ys : List α} {x y : α} (h : xs ++ [x] = ys ++ [y]) : xs = ys ∧ x = y := by
  have := List.append_inj' h rfl
  exact ⟨this.1, by simpa using this.2⟩
/-- What a release leaves of a row. -/
def Freed (pre : List Blk) (n : Nat) (post pre' X post' : List Blk) (k : Nat) : Prop :=
  ∃ P, pre = pre' ++ P ∧ post = X ++ post' ∧ (X = [] ∨ ∃ j, X = [.free j]) ∧ (P = [] ∨ ∃ j, P = [.free j]) ∧ LastU pre' ∧ HeadU post' ∧ joinGo [] (pre ++ .free n :: post) = pre' ++ .free k :: post' ∧ k = spanB P + n + spanB X ∧ NoAdj (pre' ++ .free k :: post')
theorem release_own {w : World} {p : Nat} {F : Nat → Prop} {N : Nat} {pre post : List Blk} {m : Bool} {ws : List Int} (h : Own w p F N (pre ++ .used m ws :: post)) (a ahead : Int) (ha : a = 1 + spanB pre) (hah : AheadOf pre ahead) :
    Calls Try.prog 59 #[.pointer (some ⟨p, 0, none⟩), .int .i64 a, .int .i64 ahead] w fun e w' => ∃ pre' X post' k, Freed pre ws.length post pre' X post' k ∧ e = .returned (.int .i64 (1 + spanB pre')) ∧ ∃ F', Own w' p F' N (pre' ++ .free k :: post') ∧ Mv w F w' F' := by
  obtain ⟨⟨A, rfl, R, I, hF⟩, lt⟩ := h
  have G := I.good
  obtain ⟨n1, n2⟩ := NoAdj.used.1 G.1
  obtain ⟨pre', P, X, post', rfl, rfl, hP, hX, hL, hH, hj, hno⟩ := free_form pre ws.length post n1 n2
  obtain ⟨rpre, r, rpost, k1, k2, k3, k4, k5, k6, k7⟩ := I.spot
  obtain ⟨rp, rP, rfl, f1, f2⟩ := k2.parts
  obtain ⟨rX, rq, rfl, f3, f4⟩ := k4.parts
  obtain ⟨g1, g2, g3⟩ := G.parts
  have hr : r.sz = ws.length := k3.sz
  have B : Behind rX rq := by
    rcases hX with rfl | ⟨j, rfl⟩
    · have := f3.nil
      subst this
      refine .inl ⟨rfl, ?_⟩
      rcases hH with rfl | ⟨m', ws', t, rfl⟩
      · exact .inl f4.nil
      · obtain ⟨x, xs, rfl, e1, e2⟩ := f4.cons
        exact .inr ⟨x, xs, rfl, e1.used⟩
    · obtain ⟨x, xs, rfl, e1, e2⟩ := f3.cons
      have := e2.nil
      subst this
      have := g3 (.free j) (by simp)
      exact .inr ⟨x, rfl, e1.1, by rw [e1.2]; exact this⟩
  have Ah : Ahead rp rP ahead := by
    rcases hP with rfl | ⟨j, rfl⟩
    · have := f2.nil
      subst this
      refine .inl ⟨rfl, ?_⟩
      simp only [List.append_nil] at hah
      rcases hah with ⟨rfl, rfl⟩ | ⟨d, x, rfl, rfl⟩
      · exact .inl ⟨f1.nil, rfl⟩
      · obtain ⟨r1, y, rfl, e1, e2⟩ := f1.snoc
        rcases hL with h | ⟨p', m', ws', h⟩
        · simp at h
        · obtain ⟨rfl, rfl⟩ := snoc_inj h
          exact .inr ⟨r1, y, rfl, e2.used, by rw [e1.span]⟩
    · obtain ⟨x, xs, rfl, e1, e2⟩ := f2.cons
      have := e2.nil
      subst this
      have := g1 (.free j) (by simp)
      refine .inr ⟨x, rfl, e1.1, by rw [e1.2]; exact this, ?_⟩
      rcases hah with ⟨h, _⟩ | ⟨d, x, h, rfl⟩
      · simp at h
      · obtain ⟨rfl, rfl⟩ := snoc_inj h
        rw [f1.span]
  have hsum := I.us
  rw [usedB_append] at hsum
  simp only [usedB] at hsum
  have hsp := I.spanN (by simp)
  refine (release_calls R (pre := rp) (P := rP) (X := rX) (post := rq) (b := r) (by rw [← List.append_assoc]; exact k1) k3.used (by rw [hr]; exact g2) B a ahead Ah (by rw [ha, ← k5]) (by rw [hr]; omega)).mono ?_
  rintro e w' ⟨rfl, A', g, q1, q2, q3, q4, q5, q6⟩
  have hg : g.sz = spanB P + ws.length + spanB X := by
    rw [span_append] at q2
    simp only [span] at q2
    rw [f2.span, f3.span, hr] at q2
    omega
  refine ⟨pre', X, post', spanB P + ws.length + spanB X, ⟨P, rfl, rfl, hX, hP, hL, hH, hj, rfl, hno⟩, by rw [f1.span], Own.step rfl hF lt q5 q6 (Inv.mk' q3 (Fits.mid_mk f1 ⟨q1, hg⟩ f4) ?_ ?_ ⟨hno, fun x hx => ?_⟩)⟩
  · rw [← hsp, spanB_append, spanB_append, spanB_append]
    simp only [spanB, Blk.sz]
    rw [spanB_append]
    omega
  · rw [q4, hr, hsum, usedB_append, usedB_append, usedB_append]
    have u1 : usedB P = 0 := by rcases hP with rfl | ⟨j, rfl⟩ <;> rfl
    have u2 : usedB X = 0 := by rcases hX with rfl | ⟨j, rfl⟩ <;> rfl
    simp only [usedB]
    omega
  · rcases List.mem_append.1 hx with h | h
    · exact g1 x (by simp [h])
    · rcases List.mem_cons.1 h with rfl | h
      · simp only [Blk.sz] at g2 ⊢; omega
      · exact g3 x (by simp [h])

def freeE (bs : List Blk) (a : Int) : Int × List Blk := match at? a 1 bs with
  | none => (4, bs)
  | some _ => (0, freeR bs a)
theorem free_nil (a : Int) (w : World) : Calls Try.prog 17 #[.pointer none, .int .i64 a] w fun e w' => e = .returned (.int .i64 1) ∧ w' = w := by
  go_enter Try.func17, Try.ntmps17
  go_wp2
  go_ret
  exact ⟨rfl, rfl⟩
theorem free_num (a : Int) (s : Nat) (h0 : 0 ≤ a) (h1 : a + s + 1 ≤ 4194304) : IntKind.i64.wrap ((s : Int) + 1) = (s : Int) + 1 ∧ wrap64 ((s : Int) + 1) = (s : Int) + 1 ∧ IntKind.i64.wrap (a + ((s : Int) + 1)) = a + ((s : Int) + 1) ∧ wrap64 (a + ((s : Int) + 1)) = a + ((s : Int) + 1) :=
  ⟨i64w _ (by omega) (by omega), w64 _ (by omega) (by omega), i64w _ (by omega) (by omega), w64 _ (by omega) (by omega)⟩
set_option maxRecDepth 100000 in
theorem free_own {w : World} {p : Nat} {F : Nat → Prop} {N : Nat} {bs : List Blk} (h : Own w p F N bs) (a : Int) :
    Calls Try.prog 17 #[.pointer (some ⟨p, 0, none⟩), .int .i64 a] w fun e w' => e = .returned (.int .i64 (freeE bs a).1) ∧ ∃ F', Own w' p F' N (freeE bs a).2 ∧ Mv w F w' F' := by
  have T := is_own h a
  unfold freeE
  cases hat : at? a 1 bs with
  | none =>
    rw [hat] at T
    simp only [Option.isSome_none] at T
    replace T := Lib.hid T
    replace h := Lib.hid h
    clear hat
    go_enter Try.func17, Try.ntmps17
    go_wp2_with (first | (go_at_call 58; (with_reducible refine (T.out).mono ?_); rintro e w' ⟨rfl, rfl⟩))
    go_ret
    exact ⟨rfl, F, h.out, Mv.refl _ _⟩
  | some x =>
    obtain ⟨m, ws⟩ := x
    rw [hat] at T
    simp only [Option.isSome_some] at T
    replace T := Lib.hid T
    obtain ⟨pre, post, rfl, ha⟩ := at_some hat
    have hfr : freeR (pre ++ .used m ws :: post) a = joinGo [] (pre ++ .free ws.length :: post) := by
      unfold freeR
      rw [ha, freeAt_mid]
      rfl
    rw [hfr]
    have hN : N ≤ 1048576 ∧ spanB pre + ws.length + 1 ≤ N := by
      obtain ⟨⟨A, rfl, R, I, hF⟩, lt⟩ := h
      have := I.spanN (by simp)
      rw [spanB_append] at this
      simp only [spanB, Blk.sz] at this
      have := R.sz
      have := I.len
      omega
    have RL := Lib.hid (fun (ahead : Int) (hah : AheadOf pre ahead) => release_own h a ahead ha hah)
    have SZ := Lib.hid (fun (d r : List Blk) (x : Blk) (he : pre = d ++ x :: r) (q : Int) (hq : q = 1 + spanB d) => size_own (pre := d) (b := x) (post := r ++ .used m ws :: post) (by rw [he] at h; simpa using h) q hq)
    have ha' := Lib.hid ha
    clear hat hfr h ha
    dsimp only
    go_enter Try.func17, Try.ntmps17
    go_wp2_with (first | (go_at_call 58; (with_reducible refine (T.out).mono ?_); rintro e w' ⟨rfl, rfl⟩))
    go_loop [5, 6] (fun v5 v6 => ∃ (d r : List Blk) (ahead q : Int), v5 = .int .i64 ahead ∧ v6 = .int .i64 q ∧ pre = d ++ r ∧ q = 1 + spanB d ∧ AheadOf d ahead) (fun _ v6 => (a - intOf v6).toNat)
    case atStart => exact ⟨[], pre, 0, 1, rfl, rfl, rfl, rfl, .inl ⟨rfl, rfl⟩⟩
    case round =>
      obtain ⟨d, r, ahead, q, rfl, rfl, hp, hq, hah⟩ := hrel
      have hspan : spanB pre = spanB d + spanB r := by rw [hp, spanB_append]
      cases r with
      | nil =>
        have hqa : ¬ q < a := by have := ha'.out; simp only [spanB] at hspan; omega
        have hah' : AheadOf pre ahead := by rw [hp]; simpa using hah
        have R1 := Lib.hid (RL.out ahead hah')
        clear hp hq hah hspan SZ RL hah' T hN ha'
        go_wp2_with (go_at_call 59; (with_reducible refine (R1.out).mono ?_); rintro e w' ⟨pre', X, post', k, hfr, rfl, O⟩)
        go_ret
        obtain ⟨P, _, _, _, _, _, _, hj, _⟩ := hfr
        rw [hj]
        exact ⟨rfl, O⟩
      | cons x r =>
        simp only [spanB] at hspan
        have hqa : q < a := by have := ha'.out; omega
        have S1 := Lib.hid (SZ.out d r x hp q hq)
        obtain ⟨k1, k2, k3, k4⟩ := free_num q x.sz (by omega) (by omega)
        have hp' := Lib.hid hp
        have hq' := Lib.hid hq
        have hah' := Lib.hid hah
        have hm : (a - (q + (x.sz + 1))).toNat < (a - q).toNat := by omega
        replace hm := Lib.hid hm
        clear hp hq hah hspan SZ RL T hN
        go_wp2_with (go_at_call 52; (with_reducible refine (S1.out).mono ?_); rintro e w' ⟨rfl, rfl⟩)
        go_round
        case rel => exact ⟨d ++ [x], r, q, q + (x.sz + 1), rfl, rfl, by rw [hp'.out, List.append_assoc]; rfl, by rw [hq'.out, spanB_append]; simp only [spanB]; omega, .inr ⟨d, x, rfl, hq'.out⟩⟩
        case measure => exact hm.out
end Go.Proofs.Ytgdhapapdpccpaa.A
