/- The law WordValues of package word, for every input: it returns true and its arguments read behind the call as they read before; no condition. -/
import Derived.Test.YtaikfbieoifldaaF
import Derived.Lib.SmallJoins
namespace Go.Proofs.Ytaikfbieoifldaa.A
open Go.ChangeShapes Go.WideShapes Go.ChangeAt Go.RowKit Go.Joins
set_option linter.unusedVariables false
/-- A value of type api.Val is four cells: two integers, a bool, an integer. -/
theorem val_form {H : Type} {enc : TypeId × Value → H} {W : World} {base : Nat} {v : Value} {d : DataW H} {p : List MemPlace} (hv : Value.okWide Try.prog W .any base 45 v) (h : DataW.Trod enc Try.prog W 0 (fun _ => true) true 45 v d p) :
    ∃ (t0 : Int) (t1 : Bool) (t2 t3 : Int), v = .agg #[.int .i64 t0, .bool t1, .int .i64 t2, .int .i64 t3] := by
  obtain ⟨cs, rfl, hsz⟩ := okWide_struct Try.underlying45 hv
  obtain ⟨l⟩ := cs
  match l, hsz.trans cells45 with
  | [c0, c1, c2, c3], _ =>
    obtain ⟨fuel, hf⟩ := h
    obtain ⟨xs, n, _, hx, _, hlen, hg⟩ := DataW.trod_struct Try.underlying45 hf
    have g0 : DataW.trod enc Try.prog W 0 (fun _ => true) true n 33 (([c0, c1, c2, c3].drop 0).take (Try.prog.cellsOf 33)) = xs[0]? := hg 0 _ rfl
    have g1 : DataW.trod enc Try.prog W 0 (fun _ => true) true n 4 (([c0, c1, c2, c3].drop 1).take (Try.prog.cellsOf 4)) = xs[1]? := hg 1 _ rfl
    have g2 : DataW.trod enc Try.prog W 0 (fun _ => true) true n 43 (([c0, c1, c2, c3].drop 2).take (Try.prog.cellsOf 43)) = xs[2]? := hg 2 _ rfl
    rw [show Try.prog.cellsOf 33 = 1 by kernel_rfl] at g0
    rw [show Try.prog.cellsOf 4 = 1 by kernel_rfl] at g1
    rw [cells43] at g2
    match xs, hlen with
    | [y0, y1, y2], _ =>
      simp only [List.drop_zero, List.take_succ_cons, List.take_zero, List.drop_succ_cons, List.getElem?_cons_zero, List.getElem?_cons_succ] at g0 g1 g2
      obtain ⟨t0, e0, rfl, _⟩ := DataW.trod_int Try.underlying33 g0
      obtain ⟨t1, e1, rfl⟩ := DataW.trod_bool Try.underlying4 g1
      obtain ⟨xs', n', _, hx', _, hlen', hg'⟩ := DataW.trod_struct Try.underlying43 g2
      have g3 : DataW.trod enc Try.prog W 0 (fun _ => true) true n' 41 (([c2, c3].drop 0).take (Try.prog.cellsOf 41)) = xs'[0]? := hg' 0 _ rfl
      have g4 : DataW.trod enc Try.prog W 0 (fun _ => true) true n' 3 (([c2, c3].drop 1).take (Try.prog.cellsOf 3)) = xs'[1]? := hg' 1 _ rfl
      rw [show Try.prog.cellsOf 41 = 1 by kernel_rfl] at g3
      rw [show Try.prog.cellsOf 3 = 1 by kernel_rfl] at g4
      match xs', hlen' with
      | [z0, z1], _ =>
        simp only [List.drop_zero, List.take_succ_cons, List.take_zero, List.drop_succ_cons, List.getElem?_cons_zero, List.getElem?_cons_succ] at g3 g4
        obtain ⟨t2, e2, rfl, _⟩ := DataW.trod_int Try.underlying41 g3
        obtain ⟨t3, e3, rfl, _⟩ := DataW.trod_int Try.underlying3 g4
        simp only [List.cons.injEq, and_true] at e0 e1 e2 e3
        subst e0 e1 e2 e3
        exact ⟨_, _, _, _, rfl⟩

theorem reads6 : ∀ ts : List TypeId, ts = [35, 33, 23, 45] → ∀ t ∈ ts, Try.prog.readableRec t = true ∧ t < Try.prog.types.size := by
  intro ts h; subst h
  have h : (List.all [35, 33, 23, 45] fun t => Try.prog.readableRec t && decide (t < Try.prog.types.size)) = true := by kernel_rfl
  intro t ht
  have := List.all_eq_true.1 h t ht
  simpa using this

set_option maxRecDepth 100000 in
theorem wordValues_lifted (os : Os) (started : os.Started) (H : Type) (enc : TypeId × Value → H) :
    ReturnsInHanded {} Try.checked os 6 .any (Rows.wordValuesSpec.pre6 enc Try.prog Try.f6 Rows.wordValuesRow.domain false) (Rows.wordValuesSpec.post enc Try.prog Try.f6 false true false false) := by
  refine returnsInHanded_of_change (C := Try.checked) own started (by kernel_rfl) Try.func6
    (ChangeSpec.witness6 (enc := enc) (C := Try.checked) false ⟨#[], #[.agg #[.int .i64 0, .int .i64 0, .int .u64 0], .int .i64 0, .int .u64 0, .agg #[.int .i64 0, .bool false, .int .i64 0, .int .i64 0]], []⟩ 8 (by kernel_rfl) (by kernel_rfl) (by kernel_rfl) (by kernel_rfl)) ?_
  intro W base args ds gs before hval0 hW hcnd hsz
  have hval : ∀ (j : Nat) t v, Try.f6.params[j]? = some t → args[j]? = some v → Value.okWide Try.prog W .any base t v := hval0
  have hW' := hW
  obtain ⟨p, q, hA0, hV, rfl, hfz, hnd⟩ := hW
  have hA : DataW.TrodAll enc Try.prog W 0 (fun _ => true) true Try.f6.params.toList args.toList ds p := hA0
  rw [Try.params6] at hA hval
  have hA1 := hA
  obtain ⟨v0, vs0, d0, ds0, p0, q0, hargs, rfl, rfl, h0, r0⟩ := trodAll_cons hA
  obtain ⟨v1, vs1, d1, ds1, p1, q1, rfl, rfl, rfl, h1, r1⟩ := trodAll_cons r0
  obtain ⟨v2, vs2, d2, ds2, p2, q2, rfl, rfl, rfl, h2, r2⟩ := trodAll_cons r1
  obtain ⟨v3, vs3, d3, ds3, p3, q3, rfl, rfl, rfl, h3, r3⟩ := trodAll_cons r2
  obtain ⟨rfl, rfl, rfl⟩ := trodAll_nil r3
  obtain rfl : args = #[v0, v1, v2, v3] := by cases args; simp_all
  obtain ⟨rfl, rfl⟩ := trodVars_none hV
  have hlt := hW'.lt
  obtain ⟨c00, c01, c02, y00, y01, y02, m0, rfl, rfl, rfl, g00, g01, g02⟩ := open_agg3 Try.underlying35 (by kernel_rfl) cells35 (hval 0 35 v0 rfl rfl) h0
  obtain ⟨a0, e00, rfl, w00⟩ := DataW.trod_int Try.underlying33 g00
  obtain ⟨a1, e01, rfl, w01⟩ := DataW.trod_int Try.underlying22 g01
  obtain ⟨a2, e02, rfl, w02⟩ := DataW.trod_int Try.underlying23 g02
  simp only [List.cons.injEq, and_true] at e00 e01 e02
  subst e00 e01 e02
  obtain ⟨k, rfl, rfl, rfl, w1⟩ := open_int Try.underlying33 (hval 1 33 v1 rfl rfl) h1
  obtain ⟨s, rfl, rfl, rfl, w2⟩ := open_int Try.underlying23 (hval 2 23 v2 rfl rfl) h2
  obtain ⟨t0, t1, t2, t3, rfl⟩ := val_form (hval 3 45 v3 rfl rfl) h3
  have b0 := u64_bd w02
  have b2 := u64_bd w2
  clear hA0 hval0
  simp only [List.append_nil] at hW' hlt
  refine (wordValues a0 a1 a2 k s t0 t2 t3 t1 b0.1 b0.2 b2.1 b2.2 W).mono fun e W' ⟨he, hg⟩ => ?_
  subst he
  exact ⟨_, rfl, post_of_below (pv := []) hW' (fun _ _ _ => (trodAll_cons_mk (shut_bool Try.underlying4 _) trodAll_mk0)) (fun sp hsp => trodAll_stays laid hg _ (reads6 _ rfl) (by have h := hA1; simp only [List.append_nil] at h; exact h) hlt sp hsp) (fun _ _ => rfl) (by simp)
    hg (ok_one (by kernel_rfl) rfl (okWide_bool_mk Try.underlying4 _))⟩

theorem wordValues_over : Rows.wordValuesRow.holds Try.pinned (OpenSpec.ofChange Rows.wordValuesSpec) :=
  OpenClaim.holds_of_wide 6 Try.f6 rfl rfl rfl rfl rfl rfl rfl ⟨rfl, rfl, rfl, rfl, rfl⟩ rfl rfl rfl rfl rfl (by kernel_rfl) Try.func6 (by kernel_rfl)
    (of_decide_eq_true (by kernel_rfl)) (by unfold Func.isWrapper; first | (rw [if_pos (by decide +kernel)]; kernel_rfl) | (rw [if_neg (by decide +kernel)]; exact ⟨rfl, rfl⟩))
    (fun os started H enc _ => wordValues_lifted os started H enc)

/-- THE STATEMENT -/
theorem wordValues_holds : Rows.WordValuesSaid := wordValues_over
#print axioms wordValues_holds
end Go.Proofs.Ytaikfbieoifldaa.A
