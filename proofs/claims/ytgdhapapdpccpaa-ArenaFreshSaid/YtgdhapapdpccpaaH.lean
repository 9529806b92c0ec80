/- arena: release: a used block becomes free, with its neighbours. -/
import Derived.Test.YtgdhapapdpccpaaBt
import Derived.Deep.LoopGhost
import Derived.Deep.DeepCutAuto
import Derived.Deep.CutBlock
namespace Go.Proofs.Ytgdhapapdpccpaa.A
open Go.RowKit Go.Proofs
set_option linter.unusedVariables false
set_option linter.unusedSimpArgs false

/-- A free block, and a used one. -/
def RB.Free (b : RB) : Prop := b.hd = b.sz * 4 ∧ b.lst = true ∧ b.liv = false
def RB.Used (b : RB) : Prop := (b.hd = b.sz * 4 + 1 ∨ b.hd = b.sz * 4 + 3) ∧ b.lst = false ∧ b.liv = true
def RB.unl (b : RB) : RB := { b with lst := false }
def RB.dead (b : RB) : RB := { b with liv := false }
theorem size_at {w : World} {A : Ar} {pre post : List RB} {b : RB} (R : Rep w A) (h : Is A (pre ++ b :: post)) (hb : b.hd / 4 = b.sz) (at_ : Int) (ha : at_ = 1 + span pre) :
    Calls Try.prog 52 #[.pointer (some ⟨A.p, 0, none⟩), .int .i64 at_] w fun e w' => e = .returned (.int .i64 b.sz) ∧ w' = w := by
  have hl := h.len
  rw [span_append] at hl
  simp only [span] at hl
  have := size_calls R at_ (by omega) (by omega)
  rw [h.size at_ ha, hb] at this
  exact this
theorem drop_at {w : World} {A : Ar} {pre post : List RB} {b : RB} (R : Rep w A) (h : Is A (pre ++ b :: post)) (hb : b.hd / 4 = b.sz) (h1 : 1 ≤ b.sz) (hl : b.lst = true) (at_ : Int) (ha : at_ = 1 + span pre) :
    Calls Try.prog 54 #[.pointer (some ⟨A.p, 0, none⟩), .int .i64 at_] w fun e w' => e = .returned (.tuple #[]) ∧ ∃ A', Is A' (pre ++ b.unl :: post) ∧ A'.us = A.us ∧ Rep w' A' ∧ Steps w A w' A' := by
  have hn := h.len
  have sz := R.sz
  rw [span_append] at hn
  simp only [span] at hn
  have hs : A.size at_ = b.sz := by rw [h.size at_ ha, hb]
  have c22 := cls_lt (b.sz : Int) (by omega) (by omega)
  have hx := h.fs _ c22
  have D := drop_calls R at_ (by omega) (by omega) (by rw [hs]; omega) (by rw [hs]; omega) (by
      rw [hs, hx]
      have := frees_len (cls b.sz) (pre ++ b :: post) 1
      rw [span_append] at this
      simp only [span] at this
      omega) (by rw [hs, hx]; exact (frees_sorted _ _ _).imp (fun h => Int.le_of_lt h)) _ rfl (by rw [hs]; exact h.below hl at_ ha _ c22 rfl)
  rw [hs] at D
  refine D.mono ?_
  rintro e w' ⟨f', x', rfl, R', S'⟩
  exact ⟨rfl, _, h.drop hl at_ ha _ c22 rfl f' x', rfl, R', S'⟩
theorem put_at {w : World} {A : Ar} {pre post : List RB} {b : RB} (R : Rep w A) (h : Is A (pre ++ b :: post)) (h1 : 1 ≤ b.sz) (hl : b.lst = false) (at_ size : Int) (ha : at_ = 1 + span pre) (hs : size = b.sz) :
    Calls Try.prog 55 #[.pointer (some ⟨A.p, 0, none⟩), .int .i64 at_, .int .i64 size] w fun e w' => e = .returned (.tuple #[]) ∧ ∃ A', Is A' (pre ++ { b with hd := size * 4, lst := true } :: post) ∧ A'.us = A.us ∧ Rep w' A' ∧ Steps w A w' A' := by
  have hn := h.len
  have sz := R.sz
  rw [span_append] at hn
  simp only [span] at hn
  have c22 := cls_lt size (by omega) (by omega)
  have hx := h.fs _ c22
  refine (put_calls R at_ size (by omega) (by omega) (by omega) (by omega) (by
      rw [hx, frees_append]
      have k1 := frees_len (cls size) pre 1
      have k2 := frees_len (cls size) post (1 + span pre + b.sz + 1)
      simp only [frees]
      rw [if_neg (by rw [hl]; simp), List.length_append]
      omega) (by rw [hx]; exact (frees_sorted _ _ _).imp (fun h => Int.le_of_lt h)) _ rfl _ rfl).mono ?_
  rintro e w' ⟨f', x', rfl, R', S'⟩
  exact ⟨rfl, _, h.put hl at_ ha size hs _ c22 rfl f' x', rfl, R', S'⟩

/-- What is behind the block that is released: a free block (X), or none. -/
def Behind (X post : List RB) : Prop := (X = [] ∧ (post = [] ∨ ∃ nx r, post = nx :: r ∧ nx.Used)) ∨ ∃ nx, X = [nx] ∧ nx.Free ∧ 1 ≤ nx.sz
/-- What is ahead of it: a free block (P), or none. -/
def Ahead (pre P : List RB) (ahead : Int) : Prop := (P = [] ∧ ((pre = [] ∧ ahead = 0) ∨ ∃ pre' pv, pre = pre' ++ [pv] ∧ pv.Used ∧ ahead = 1 + span pre')) ∨ ∃ pv, P = [pv] ∧ pv.Free ∧ 1 ≤ pv.sz ∧ ahead = 1 + span pre

theorem rel_num (us : Int) (s : Nat) (a : Int) (h0 : 0 ≤ us ∧ us ≤ 1048576) (h1 : s ≤ 1048576) (h2 : (s : Int) + 1 ≤ us) (h3 : 0 ≤ a) (h4 : a ≤ 1048576) :
    IntKind.i64.wrap ((s : Int) + 1) = (s : Int) + 1 ∧ wrap64 ((s : Int) + 1) = (s : Int) + 1 ∧ IntKind.i64.wrap (us - ((s : Int) + 1)) = us - ((s : Int) + 1) ∧ wrap64 (us - ((s : Int) + 1)) = us - ((s : Int) + 1) ∧
    IntKind.i64.wrap (a + (s : Int)) = a + (s : Int) ∧ wrap64 (a + (s : Int)) = a + (s : Int) ∧ IntKind.i64.wrap (a + (s : Int) + 1) = a + (s : Int) + 1 ∧ wrap64 (a + (s : Int) + 1) = a + (s : Int) + 1 :=
  ⟨i64w _ (by omega) (by omega), w64 _ (by omega) (by omega), i64w _ (by omega) (by omega), w64 _ (by omega) (by omega), i64w _ (by omega) (by omega), w64 _ (by omega) (by omega), i64w _ (by omega) (by omega), w64 _ (by omega) (by omega)⟩

theorem relx_num (x b : Nat) (h : x + 1 + 0 ≤ 1048576) (hb : b ≤ 1048576) : IntKind.i64.wrap ((x : Int) + 1) = (x : Int) + 1 ∧ wrap64 ((x : Int) + 1) = (x : Int) + 1 ∧ IntKind.i64.wrap ((b : Int) + ((x : Int) + 1)) = (b : Int) + ((x : Int) + 1) ∧ wrap64 ((b : Int) + ((x : Int) + 1)) = (b : Int) + ((x : Int) + 1) :=
  ⟨i64w _ (by omega) (by omega), w64 _ (by omega) (by omega), i64w _ (by omega) (by omega), w64 _ (by omega) (by omega)⟩
theorem next_num' (n : Int) (h : 1 ≤ n) (h' : n ≤ 1048576) : IntKind.i64.wrap (n - 1) = n - 1 ∧ wrap64 (n - 1) = n - 1 := ⟨i64w _ (by omega) (by omega), w64 _ (by omega) (by omega)⟩
theorem span_unl : ∀ X : List RB, span (X.map RB.unl) = span X
  | [] => rfl
  | x :: r => by simp only [List.map_cons, span, span_unl r]; rfl
theorem relp_num (p x b : Nat) (h : x + b + p ≤ 1048576) : IntKind.i64.wrap ((p : Int) + 1) = (p : Int) + 1 ∧ wrap64 ((p : Int) + 1) = (p : Int) + 1 ∧ IntKind.i64.wrap ((b : Int) + (x : Int) + ((p : Int) + 1)) = (b : Int) + (x : Int) + ((p : Int) + 1) ∧ wrap64 ((b : Int) + (x : Int) + ((p : Int) + 1)) = (b : Int) + (x : Int) + ((p : Int) + 1) :=
  ⟨i64w _ (by omega) (by omega), w64 _ (by omega) (by omega), i64w _ (by omega) (by omega), w64 _ (by omega) (by omega)⟩
theorem next_num (n : Int) (h : 2 ≤ n ∧ n ≤ 2097154) : IntKind.i64.wrap (n - 1) = n - 1 ∧ wrap64 (n - 1) = n - 1 := ⟨i64w _ (by omega) (by omega), w64 _ (by omega) (by omega)⟩
set_option maxHeartbeats 4000000 in
set_option maxRecDepth 100000 in
theorem release_calls {w : World} {A : Ar} (R : Rep w A) {pre P X post : List RB} {b : RB} (h : Is A (pre ++ (P ++ b :: (X ++ post)))) (hb : b.Used) (hb1 : 1 ≤ b.sz) (hX : Behind X post) (at_ ahead : Int) (hP : Ahead pre P ahead) (ha : at_ = 1 + span (pre ++ P)) (hus : (b.sz : Int) + 1 ≤ A.us) :
    Calls Try.prog 59 #[.pointer (some ⟨A.p, 0, none⟩), .int .i64 at_, .int .i64 ahead] w fun e w' => e = .returned (.int .i64 (1 + span pre)) ∧ ∃ A' g, RB.Free g ∧ g.sz + 1 = span (P ++ b :: X) ∧ Is A' (pre ++ g :: post) ∧ A'.us = A.us - (b.sz + 1) ∧ Rep w' A' ∧ Steps w A w' A' := by
  have hb4 : b.hd / 4 = b.sz := by rcases hb.1 with h | h <;> omega
  have h' : Is A ((pre ++ P) ++ b :: (X ++ post)) := by rw [List.append_assoc]; exact h
  have hn := h'.len
  have sz := R.sz
  have us0 := R.us0
  have HM : Hid (∀ x ∈ P.map RB.unl ++ b.dead :: X.map RB.unl, x.lst = false ∧ x.liv = false) := Lib.hid (fun x hx => by
    rcases List.mem_append.1 hx with h | h
    · obtain ⟨y, hy, rfl⟩ := List.mem_map.1 h
      rcases hP with ⟨rfl, _⟩ | ⟨pv, rfl, nf, _⟩
      · cases hy
      · simp at hy; rw [hy]; exact ⟨rfl, nf.2.2⟩
    · rcases List.mem_cons.1 h with rfl | h
      · exact ⟨hb.2.1, rfl⟩
      · obtain ⟨y, hy, rfl⟩ := List.mem_map.1 h
        rcases hX with ⟨rfl, _⟩ | ⟨pv, rfl, nf, _⟩
        · cases hy
        · simp at hy; rw [hy]; exact ⟨rfl, nf.2.2⟩)
  rw [span_append] at hn
  simp only [span] at hn
  have hal : at_.toNat < A.lv.length := by rw [R.ll]; omega
  have KK := Lib.hid (rel_num A.us b.sz at_ us0 (by omega) hus (by omega) (by omega))
  have n0 : 0 ≤ at_ := by omega
  have n1 : at_ < (A.lv.length : Int) := by omega
  have T := Lib.hid (size_at R h' hb4 at_ ha)
  have c1 := R.c1
  have z1 := R.zp 1
  have R1 := R.setU (A.us - (b.sz + 1)) (by omega) (by omega)
  have S1 := Steps.setU (w := w) (A := A) (A.us - (b.sz + 1))
  have h1 := h'.setUs (A.us - (b.sz + 1))
  obtain ⟨A1, hA1⟩ : ∃ A1 : Ar, A1 = { A with us := A.us - (b.sz + 1) } := ⟨_, rfl⟩
  rw [← hA1] at R1 S1 h1
  have u1 : A1.us = A.us - (b.sz + 1) := by rw [hA1]
  have cv := R1.cv at_.toNat (by rw [hA1]; exact hal)
  have zl := R1.zl at_.toNat
  have cl := R1.cl
  have R2 := R1.setL at_.toNat false
  have S2 := Steps.setL (w := w.setCell ⟨A.p, 1, none⟩ (.int .i64 (A.us - (b.sz + 1)))) (A := A1) at_.toNat false
  have h2 := h1.setLiv at_.toNat (by omega) false
  obtain ⟨A2, hA2⟩ : ∃ A2 : Ar, A2 = { A1 with lv := A1.lv.set at_.toNat false } := ⟨_, rfl⟩
  rw [← hA2] at R2 S2 h2
  have u2 : A2.us = A.us - (b.sz + 1) := by rw [hA2]; exact u1
  have S12 := S1.trans S2
  have e2 : A2.p = A.p := S12.p
  have e3 : A2.ws.length = A.ws.length := S12.len
  have e4 : A2.pw = A.pw := S12.pw
  have e1 : A1.p = A.p := S1.p
  have e5 : A1.pl = A.pl := S1.pl
  have e6 : A1.lv.length = A.lv.length := by rw [hA1]
  rw [e5] at cv zl R2 S12
  rw [e1, e5, e6] at cl
  have F := Lib.hid (And.intro ha (And.intro hn (And.intro u2 (And.intro e2 (And.intro e3 (And.intro e4 (And.intro hb4 (And.intro h2 (And.intro hX hP)))))))))
  have B := Lib.hid (And.intro R2 S12)
  clear S1 S2 R1 h1 hA1 hA2 ha hn u1 u2 e1 e2 e3 e4 e5 e6 hb4 h2 hX hP hb hus h h' us0 hal R S12 R2
  obtain ⟨k1, k2, k3, k4, k5, k6, k7, k8⟩ := KK.out
  clear KK
  go_enter Try.func59, Try.ntmps59
  go_upto_region 5 with (first | (go_at_call 52; (with_reducible refine (T.out).mono ?_); rintro e w' ⟨rfl, rfl⟩))
  obtain ⟨ha, hn, u2, e2, e3, e4, hb4, h2, hX, hP⟩ := F.out
  obtain ⟨R2, S2⟩ := B.out
  generalize hW : (w'.setCell ⟨A.p, 1, none⟩ (.int .i64 (A.us - (b.sz + 1)))).setCell ⟨A.pl, at_.toNat, none⟩ (.bool false) = w2 at *
  clear c1 z1 cv zl cl k1 k2 k3 k4 k5 k6 k7 k8 hW T F B
  have c0 := R2.c0
  rw [e2, e4, e3] at c0
  obtain ⟨tb, htb1, htb2⟩ : ∃ tb : Bool, (tb = true → ∃ nx, X = [nx] ∧ nx.Free ∧ 1 ≤ nx.sz) ∧ (tb = false → X = [] ∧ (post = [] ∨ ∃ nx r, post = nx :: r ∧ nx.Used)) := by
    rcases hX with hX | hX
    · exact ⟨false, fun h => (by cases h), fun _ => hX⟩
    · exact ⟨true, fun _ => hX, fun h => (by cases h)⟩
  have hn2 : (span (pre ++ P) : Int) + b.sz + 1 + span X + span post = A.ws.length := by rw [hn, span_append X post]; omega
  generalize hnxt : at_ + (b.sz : Int) + 1 = nxt at *
  have hnb : 2 ≤ nxt ∧ nxt ≤ 2097154 := by omega
  have J := Lib.hid (next_num nxt hnb)
  have N1 : X = [] ∧ post = [] → ¬ nxt ≤ A.ws.length := fun h => by rw [h.1, h.2] at hn2; simp only [span] at hn2; omega
  have N2 : ∀ y r, X ++ post = y :: r → nxt ≤ A.ws.length ∧ w2.cell? ⟨A.pw, (nxt.toNat - 1), none⟩ = some (.int .u64 y.hd) ∧ 0 ≤ y.hd ∧ y.hd < 18446744073709551616 := fun y r h => by
    have h2' : Is A2 ((pre ++ P ++ [b.dead]) ++ y :: r) := by rw [h] at h2; simpa [RB.dead] using h2
    have hl : A2.ws.length = span (pre ++ P) + (b.sz + 1) + (y.sz + 1 + span r) := by rw [h2'.len, span_append, span_append]; simp only [span]; rfl
    have hs : span (pre ++ P ++ [b.dead]) = span (pre ++ P) + (b.sz + 1) := by rw [span_append]; rfl
    have hk : (nxt.toNat - 1) = span (pre ++ P ++ [b.dead]) := by rw [hs]; omega
    have cw := R2.cw (nxt.toNat - 1) (by omega)
    have wb := R2.wb (nxt.toNat - 1)
    rw [h2'.head _ hk] at cw wb
    rw [e4] at cw
    exact ⟨by omega, cw, wb⟩
  have G := Lib.hid (And.intro ha (And.intro hn2 (And.intro u2 (And.intro e2 (And.intro e3 (And.intro e4 (And.intro hb4 (And.intro h2 hP))))))))
  have R2' := Lib.hid (And.intro R2 S2)
  clear ha hn2 hn u2 e2 e3 e4 hb4 h2 hX hP R2 S2
  have nxt0 : 0 ≤ nxt - 1 := by omega
  have nxt2 : nxt - 1 < 2097154 := by omega
  clear hnb
  go_cut [49] (fun v49 wc => v49 = .bool tb ∧ wc = w2)
  case first =>
    obtain ⟨j1, j2⟩ := J.out
    clear J G
    cases tb with
    | true =>
      obtain ⟨nx, rfl, nf, nx1⟩ := htb1 rfl
      obtain ⟨q1, q2, q3, q4⟩ := N2 nx post rfl
      have q5 : bits .and .u64 nx.hd 1 = 0 := by rw [and1 _ q3 q4, nf.1]; omega
      have q6 : nxt - 1 < A.ws.length := by omega
      clear htb1 htb2 N1 N2 nf
      go_wp2_with fail
      go_meet
      case rel => exact ⟨rfl, rfl⟩
    | false =>
      obtain ⟨rfl, hh⟩ := htb2 rfl
      rcases hh with rfl | ⟨nx, r, rfl, nu⟩
      · have q1 := N1 ⟨rfl, rfl⟩
        have q2 : decide (nxt ≤ (A.ws.length : Int)) = false := decide_eq_false q1
        clear htb1 htb2 N1 N2
        go_wp2_with fail
        go_meet
        case rel => exact ⟨rfl, rfl⟩
      · obtain ⟨q1, q2, q3, q4⟩ := N2 nx r rfl
        have q5 : bits .and .u64 nx.hd 1 = 1 := by rw [and1 _ q3 q4]; rcases nu.1 with h | h <;> omega
        have q6 : nxt - 1 < A.ws.length := by omega
        clear htb1 htb2 N1 N2 nu
        go_wp2_with fail
        go_meet
        case rel => exact ⟨rfl, rfl⟩
  case rest =>
    obtain ⟨rfl, rfl⟩ := hcut
    rename World => wa
    clear N1 N2
    obtain ⟨ha, hn2, u2, e2, e3, e4, hb4, h2, hP⟩ := G.out
    obtain ⟨R2, S2⟩ := R2'.out
    have fb : (if tb = true then (1 : Nat) else 0) ≤ 1 := by split <;> omega
    clear fb
    have LX : span X ≤ 1048576 ∧ (b.sz : Nat) ≤ 1048576 ∧ span (pre ++ P) ≤ 1048576 := by omega
    replace LX := Lib.hid LX
    have DX : Hid (tb = true → ∃ nx, X = [nx] ∧ Calls Try.prog 54 #[.pointer (some ⟨A.p, 0, none⟩), .int .i64 nxt] wa fun e w' => e = .returned (.tuple #[]) ∧ ∃ A3, Is A3 (pre ++ (P ++ b.dead :: (X.map RB.unl ++ post))) ∧ A3.us = A2.us ∧ Rep w' A3 ∧ Steps wa A2 w' A3 ∧
        Calls Try.prog 52 #[.pointer (some ⟨A.p, 0, none⟩), .int .i64 nxt] w' fun e w'' => e = .returned (.int .i64 nx.sz) ∧ w'' = w') := Lib.hid (fun ht => by
      obtain ⟨nx, rfl, nf, nx1⟩ := htb1 ht
      have h2' : Is A2 ((pre ++ P ++ [b.dead]) ++ nx :: post) := by simpa [RB.dead] using h2
      have hk : nxt = 1 + (span (pre ++ P ++ [b.dead]) : Nat) := by
        have : span (pre ++ P ++ [b.dead]) = span (pre ++ P) + (b.sz + 1) := by rw [span_append]; rfl
        rw [this]; omega
      have n4 : nx.hd / 4 = nx.sz := by rw [nf.1]; omega
      have D := drop_at R2 h2' n4 nx1 nf.2.1 nxt hk
      rw [e2] at D
      refine ⟨nx, rfl, D.mono ?_⟩
      rintro e w3 ⟨rfl, A3, h3, u3, R3, S3⟩
      have T := size_at R3 h3 n4 nxt hk
      rw [S3.p, e2] at T
      exact ⟨rfl, A3, by simpa using h3, u3, R3, S3, T⟩)
    have DF : Hid (tb = false → X = [] ∧ Is A2 (pre ++ (P ++ b.dead :: (X.map RB.unl ++ post)))) := Lib.hid (fun ht => by
      obtain ⟨rfl, _⟩ := htb2 ht
      exact ⟨rfl, by simpa [RB.dead] using h2⟩)
    have G2 := Lib.hid (And.intro ha (And.intro u2 (And.intro e2 (And.intro e3 (And.intro e4 (And.intro hb4 hP))))))
    have RS := Lib.hid (And.intro R2 S2)
    clear ha hn2 u2 e2 e3 e4 hb4 h2 hP R2 S2 G R2' J htb1 htb2 nxt0 nxt2 c0
    go_upto_if 49 with fail
    go_cut [7] (fun v7 wd => ∃ A3, v7 = .int .i64 ((b.sz : Int) + span X) ∧ Is A3 (pre ++ (P ++ b.dead :: (X.map RB.unl ++ post))) ∧ A3.us = A2.us ∧ Rep wd A3 ∧ Steps wa A2 wd A3)
    case first =>
      cases tb with
      | true =>
        obtain ⟨nx, rfl, D⟩ := DX.out rfl
        have LX' := LX.out
        have q := relx_num nx.sz b.sz LX'.1 LX'.2.1
        obtain ⟨q1, q2, q3, q4⟩ := q
        clear DX DF LX LX'
        replace D := Lib.hid D
        go_wp2_with (first | (go_at_call 54; (with_reducible refine (D.out).mono ?_); rintro e w3 ⟨rfl, A3, h3, u3, R3, S3, T⟩) | (go_at_call 52; (with_reducible refine T.mono ?_); rintro e w' ⟨rfl, rfl⟩))
        go_meet
        case rel => exact ⟨A3, by simp [span], h3, u3, R3, S3⟩
      | false =>
        obtain ⟨rfl, h3⟩ := DF.out rfl
        clear DX DF LX
        go_wp2_with fail
        go_meet
        case rel => exact ⟨A2, by simp [span], h3, rfl, RS.out.1, Steps.refl _ _⟩
    case rest =>
      obtain ⟨A3, rfl, h3, u3, R3, S3⟩ := hcut
      rename World => wb
      clear DX DF
      obtain ⟨ha, u2, e2, e3, e4, hb4, hP⟩ := G2.out
      obtain ⟨R2, S2⟩ := RS.out
      have f2 : A3.p = A.p := S3.p.trans e2
      have f3 : A3.ws.length = A.ws.length := S3.len.trans e3
      have f4 : A3.pw = A.pw := S3.pw.trans e4
      have f5 : A3.us = A.us - (b.sz + 1) := u3.trans u2
      have S23 := S2.trans S3
      have hl3 := h3.len
      rw [f3, span_append, span_append] at hl3
      simp only [span, span_append] at hl3
      have hsX : span (X.map RB.unl) = span X := span_unl X
      rw [hsX] at hl3
      have hsb : b.dead.sz = b.sz := rfl
      rw [hsb] at hl3
      rw [span_append] at ha
      have c0 := R3.c0
      rw [f2, f3, f4] at c0
      obtain ⟨ta, hta1, hta2⟩ : ∃ ta : Bool, (ta = true → ∃ pv, P = [pv] ∧ pv.Free ∧ 1 ≤ pv.sz ∧ ahead = 1 + span pre) ∧ (ta = false → P = [] ∧ ((pre = [] ∧ ahead = 0) ∨ ∃ pre' pv, pre = pre' ++ [pv] ∧ pv.Used ∧ ahead = 1 + span pre')) := by
        rcases hP with hP | hP
        · exact ⟨false, fun h => (by cases h), fun _ => hP⟩
        · exact ⟨true, fun _ => hP, fun h => (by cases h)⟩
      have N2 : ∀ pre0 y r, pre ++ (P ++ b.dead :: (X.map RB.unl ++ post)) = pre0 ++ y :: r → ahead = 1 + span pre0 → 1 ≤ ahead ∧ ahead ≤ A.ws.length ∧ wb.cell? ⟨A.pw, ahead.toNat - 1, none⟩ = some (.int .u64 y.hd) ∧ 0 ≤ y.hd ∧ y.hd < 18446744073709551616 := fun pre0 y r h hh => by
        have h3' := h3
        rw [h] at h3'
        have hl : A3.ws.length = span pre0 + (y.sz + 1 + span r) := by rw [h3'.len, span_append]; rfl
        have cw := R3.cw (ahead.toNat - 1) (by omega)
        have wb' := R3.wb (ahead.toNat - 1)
        rw [h3'.head _ (by omega)] at cw wb'
        rw [f4] at cw
        exact ⟨by omega, by omega, cw, wb'⟩
      have DP : Hid (ta = true → ∃ pv, P = [pv] ∧ ahead = 1 + span pre ∧ Calls Try.prog 54 #[.pointer (some ⟨A.p, 0, none⟩), .int .i64 ahead] wb fun e w' => e = .returned (.tuple #[]) ∧ ∃ A4, Is A4 (pre ++ (P.map RB.unl ++ b.dead :: (X.map RB.unl ++ post))) ∧ A4.us = A3.us ∧ Rep w' A4 ∧ Steps wb A3 w' A4 ∧
          Calls Try.prog 52 #[.pointer (some ⟨A.p, 0, none⟩), .int .i64 ahead] w' fun e w'' => e = .returned (.int .i64 pv.sz) ∧ w'' = w') := Lib.hid (fun ht => by
        obtain ⟨pv, rfl, nf, nx1, hk⟩ := hta1 ht
        have n4 : pv.hd / 4 = pv.sz := by rw [nf.1]; omega
        have D := drop_at R3 h3 n4 nx1 nf.2.1 ahead hk
        rw [f2] at D
        refine ⟨pv, rfl, hk, D.mono ?_⟩
        rintro e w4 ⟨rfl, A4, h4, u4, R4, S4⟩
        have T := size_at R4 h4 n4 ahead hk
        rw [S4.p, f2] at T
        exact ⟨rfl, A4, h4, u4, R4, S4, T⟩)
      have DQ : Hid (ta = false → P = [] ∧ Is A3 (pre ++ (P.map RB.unl ++ b.dead :: (X.map RB.unl ++ post)))) := Lib.hid (fun ht => by
        obtain ⟨rfl, _⟩ := hta2 ht
        exact ⟨rfl, h3⟩)
      have LP : Hid (span X + b.sz + span P + span pre ≤ 1048576) := Lib.hid (by omega)
      have G3 := Lib.hid (And.intro ha (And.intro f2 (And.intro f3 (And.intro f4 (And.intro f5 S23)))))
      have RS3 := Lib.hid (And.intro R3 hl3)
      clear ha u2 e2 e3 e4 hb4 h3 hP R2 S2 S3 R3 f2 f3 f4 f5 S23 hl3 hsX hsb G2 RS u3 LX
      go_upto_region 8 with fail
      go_cut [72] (fun v72 wc => v72 = .bool ta ∧ wc = wb)
      case first =>
        clear DP DQ LP G3 RS3
        cases ta with
        | true =>
          obtain ⟨pv, rfl, nf, nx1, hk⟩ := hta1 rfl
          obtain ⟨q0, q1, q2, q3, q4⟩ := N2 pre pv _ rfl hk
          have q5 : bits .and .u64 pv.hd 1 = 0 := by rw [and1 _ q3 q4, nf.1]; omega
          have q6 : ahead - 1 < A.ws.length := by omega
          have q7 : 0 ≤ ahead - 1 := by omega
          have q8 := next_num' ahead q0 (by omega)
          obtain ⟨q9, q10⟩ := q8
          have q11 : 0 < ahead := by omega
          clear hta1 hta2 N2 nf hk
          go_wp2_with fail
          go_meet
          case rel => exact ⟨rfl, rfl⟩
        | false =>
          obtain ⟨rfl, hh⟩ := hta2 rfl
          rcases hh with ⟨rfl, rfl⟩ | ⟨pre', pv, rfl, nu, hk⟩
          · clear hta1 hta2 N2
            go_wp2_with fail
            go_meet
            case rel => exact ⟨rfl, rfl⟩
          · obtain ⟨q0, q1, q2, q3, q4⟩ := N2 pre' pv _ (by simp; rfl) hk
            have q5 : bits .and .u64 pv.hd 1 = 1 := by rw [and1 _ q3 q4]; rcases nu.1 with h | h <;> omega
            have q6 : ahead - 1 < A.ws.length := by omega
            have q7 : 0 ≤ ahead - 1 := by omega
            have q8 := next_num' ahead q0 (by omega)
            obtain ⟨q9, q10⟩ := q8
            have q11 : 0 < ahead := by omega
            clear hta1 hta2 N2 nu hk
            go_wp2_with fail
            go_meet
            case rel => exact ⟨rfl, rfl⟩
      case rest =>
        obtain ⟨rfl, rfl⟩ := hcut
        rename World => wb
        clear N2 hta1 hta2 c0
        go_upto_if 72 with fail
        go_cut [1, 7] (fun v1 v7 wd => ∃ A4, v1 = .int .i64 (1 + (span pre : Nat)) ∧ v7 = .int .i64 ((b.sz : Int) + span X + span P) ∧ Is A4 (pre ++ (P.map RB.unl ++ b.dead :: (X.map RB.unl ++ post))) ∧ A4.us = A3.us ∧ Rep wd A4 ∧ Steps wb A3 wd A4)
        case first =>
          cases ta with
          | true =>
            obtain ⟨pv, rfl, hk, D⟩ := DP.out rfl
            have LP' := LP.out
            simp only [span] at LP'
            obtain ⟨q1, q2, q3, q4⟩ := relp_num pv.sz (span X) b.sz (by omega)
            replace hk := Lib.hid hk
            clear DP DQ LP LP' G3 RS3
            replace D := Lib.hid D
            go_wp2_with (first | (go_at_call 54; (with_reducible refine (D.out).mono ?_); rintro e w3 ⟨rfl, A4, h4, u4, R4, S4, T⟩) | (go_at_call 52; (with_reducible refine T.mono ?_); rintro e w' ⟨rfl, rfl⟩))
            go_meet
            case rel => exact ⟨A4, congrArg _ hk.out, by simp [span], h4, u4, R4, S4⟩
          | false =>
            obtain ⟨rfl, h4⟩ := DQ.out rfl
            have G3' := G3.out.1
            simp only [span] at G3'
            have hk : at_ = 1 + (span pre : Nat) := by omega
            replace hk := Lib.hid hk
            clear DP DQ LP G3'
            go_wp2_with fail
            go_meet
            case rel => exact ⟨A3, congrArg _ hk.out, by simp [span], h4, rfl, RS3.out.1, Steps.refl _ _⟩
        case rest =>
          obtain ⟨A4, rfl, rfl, h4, u4, R4, S4⟩ := hcut
          rename World => wf
          clear DP DQ
          obtain ⟨ha, f2, f3, f4, f5, S23⟩ := G3.out
          have h5 : Is A4 (pre ++ ((P.map RB.unl ++ b.dead :: X.map RB.unl) ++ post)) := by simpa using h4
          have hm : P.map RB.unl ++ b.dead :: X.map RB.unl ≠ [] := by simp
          have h6 := h5.fuse hm (fun x hx => (HM.out x hx).1) (fun x hx => (HM.out x hx).2)
          have hs := span_fuse _ hm
          rw [span_append] at hs
          simp only [span] at hs
          rw [span_unl, span_unl, show b.dead.sz = b.sz from rfl] at hs
          have PT := put_at R4 h6 (by omega) rfl (1 + (span pre : Nat)) ((b.sz : Int) + span X + span P) rfl (by omega)
          rw [S4.p, f2] at PT
          have hh : ∀ g : RB, g.sz = (_root_.Go.Proofs.Ytgdhapapdpccpaa.A.fuse (P.map RB.unl ++ b.dead :: X.map RB.unl)).sz → g.sz + 1 = span (P ++ b :: X) := fun g hg => by
            rw [hg, span_append]; simp only [span]; omega
          have S5 := S23.trans S4
          have u5 := u4.trans f5
          have hgl := Lib.hid (show (_root_.Go.Proofs.Ytgdhapapdpccpaa.A.fuse (P.map RB.unl ++ b.dead :: X.map RB.unl)).liv = false from rfl)
          generalize _root_.Go.Proofs.Ytgdhapapdpccpaa.A.fuse (P.map RB.unl ++ b.dead :: X.map RB.unl) = g at *
          have hg := Lib.hid (hh g rfl)
          have u5' := Lib.hid u5
          have S5' := Lib.hid S5
          have PT' := Lib.hid PT
          have hgs : ((b.sz : Int) + span X + span P) = g.sz := by omega
          replace hgs := Lib.hid hgs
          clear ha f2 f3 f4 f5 S23 h4 h5 h6 hm hs PT hh S5 u5 u4 R4 S4 HM G3 RS3 LP
          go_wp2_with (go_at_call 55; (with_reducible refine (PT'.out).mono ?_); rintro e w6 ⟨rfl, A6, h6, u6, R6, S6⟩)
          go_ret
          refine ⟨rfl, A6, _, ⟨?_, rfl, ?_⟩, ?_, h6, ?_, R6, S5'.out.trans S6⟩
          · show (_ : Int) * 4 = _ * 4
            rw [hgs.out]; rfl
          · exact hgl.out
          · exact hg.out
          · rw [u6]; exact u5'.out
end Go.Proofs.Ytgdhapapdpccpaa.A
