-- Put together by a program of this session (wip/slice.py) out of the seat's texts: what this law needs.
import Derived.Test.YtiaiglihndbjeaaZRowArity8
import Derived.Test.YtiaiglihndbjeaaRows
import Derived.SizedLaws
section
namespace Go.Proofs.Ytiaiglihndbjeaa.rowArity
open Go.ChangeShapes Go.WideShapes Go.ChangeAt Go.RowKit Go.Proofs.Ytiaiglihndbjeaa.PAll Go.Proofs.YtiaiglihndbjeaaW.PrintWords Go.Proofs.YtiaiglihndbjeaaW.PrintLast Go.Proofs.Ytiaiglihndbjeaa.Opens
open Go.ChangeMaps (open_string shut_string)
set_option linter.unusedVariables false
set_option linter.unusedSimpArgs false
theorem own : ownKnob Try.prog.godebug = none := by kernel_rfl
theorem laidOut : laidOutB Try.prog = true := by kernel_rfl
theorem raddlelaw04_RowArity.o39 : Opens Try.prog 39 k39 raddlelaw04_RowArity.WF39 := by
  intro H enc w base spare held fuel cs x h
  obtain ⟨xs, n, _, _, hl, hn, hf⟩ := DataW.trod_struct Try.underlying39 h
  have hcl : cs.length = 3 := hl.trans (by kernel_rfl)
  obtain ⟨v0, a0, b0⟩ : ∃ v, (Kd.int .i64).K w v ((cs.drop 0).take 1) ∧ (fun x_ => (Lit.int .i64 x_).wf = true) v := by
    have h0 : DataW.trod enc Try.prog w base spare held n 3 ((cs.drop 0).take (Try.prog.cellsOf 3)) = xs[0]? := hf 0 _ rfl
    rw [show Try.prog.cellsOf 3 = 1 by kernel_rfl, List.getElem?_eq_getElem (by rw [hn]; decide)] at h0
    exact (Opens.int Try.underlying3) h0
  obtain ⟨v1, a1, b1⟩ : ∃ v, (Kd.int .i64).K w v ((cs.drop 1).take 1) ∧ (fun x_ => (Lit.int .i64 x_).wf = true) v := by
    have h0 : DataW.trod enc Try.prog w base spare held n 3 ((cs.drop 1).take (Try.prog.cellsOf 3)) = xs[1]? := hf 1 _ rfl
    rw [show Try.prog.cellsOf 3 = 1 by kernel_rfl, List.getElem?_eq_getElem (by rw [hn]; decide)] at h0
    exact (Opens.int Try.underlying3) h0
  obtain ⟨v2, a2, b2⟩ : ∃ v, Kd.string.K w v ((cs.drop 2).take 1) ∧ (fun x_ => x_.size ≤ maxLen) v := by
    have h0 : DataW.trod enc Try.prog w base spare held n 9 ((cs.drop 2).take (Try.prog.cellsOf 9)) = xs[2]? := hf 2 _ rfl
    rw [show Try.prog.cellsOf 9 = 1 by kernel_rfl, List.getElem?_eq_getElem (by rw [hn]; decide)] at h0
    exact (Opens.string Try.underlying9) h0
  rw [List.take_of_length_le (by have h_ := hcl; rw [List.length_drop]; omega)] at a2
  rw [List.drop_zero] at a0
  refine ⟨⟨v0, v1, v2⟩, ?_, b0, b1, b2⟩
  have e1 : cs.drop 1 = (cs.drop 1) := by simp only [List.drop_drop]
  rw [e1] at a1
  have e2 : cs.drop 2 = ((cs.drop 1).drop 1) := by simp only [List.drop_drop]
  rw [e2] at a2
  exact pair_mk 1 a0 (pair_mk 1 a1 (a2))
set_option maxRecDepth 100000 in
theorem lifted (os : Os) (started : os.Started) (H : Type) (enc : TypeId × Value → H) :
    ReturnsInHanded {} Try.checked os 6 .any (Rows.rowAritySpec.pre6 enc Try.prog Try.f6 Rows.rowArityRow.domain false) (Rows.rowAritySpec.post enc Try.prog Try.f6 false true false false) := by
  refine returnsInHanded_of_change_sized (C := Try.checked) own started (by kernel_rfl) Try.func6
    (ChangeSpec.witness6 (enc := enc) (C := Try.checked) false ⟨#[], #[.int .i64 0, .agg #[.int .i64 0, .int .i64 0, .string ByteArray.empty]], []⟩ 8 (by kernel_rfl) (by kernel_rfl) (by kernel_rfl) (by kernel_rfl)) ?_
  intro W base args ds gs before hval0 hW hcnd hsz0 _
  clear hsz0
  have hval : ∀ (j : Nat) t v, Try.f6.params[j]? = some t → args[j]? = some v → Value.okWide Try.prog W .any base t v := hval0
  have hW' := hW
  obtain ⟨p, q, hA0, hV, rfl, hfz, hnd⟩ := hW
  have hA : DataW.TrodAll enc Try.prog W 0 (fun _ => true) true Try.f6.params.toList args.toList ds p := hA0
  rw [Try.params6] at hA hval
  obtain ⟨v0, vs0, d0, ds0, p0, q0, hargs, rfl, rfl, h0, r0⟩ := trodAll_cons hA
  obtain ⟨v1, vs1, d1, ds1, p1, q1, rfl, rfl, rfl, h1, r1⟩ := trodAll_cons r0
  obtain ⟨rfl, rfl, rfl⟩ := trodAll_nil r1
  obtain rfl : args = #[v0, v1] := by cases args; simp_all
  obtain ⟨rfl, rfl⟩ := trodVars_none hV
  obtain ⟨x0, rfl, rfl, rfl, hwf0⟩ := open_int Try.underlying3 (hval 0 3 v0 rfl rfl) h0
  have kp1 := h1
  have lt1 : ∀ x ∈ p1, x.block < W.heap.size := by obtain ⟨m, hm⟩ := kp1; exact DataW.trod_lt m _ _ _ hm
  obtain ⟨cs1, rfl⟩ : ∃ cs, v1 = .agg cs := by have hq := (hval 1 39 v1 rfl rfl); unfold Value.okWide at hq; rw [Try.underlying39] at hq; obtain ⟨cs, e, _⟩ := hq; exact ⟨cs, e⟩
  obtain ⟨fuel1, hf1⟩ := h1
  obtain ⟨x1, hK1, hwf1⟩ := raddlelaw04_RowArity.o39 hf1
  obtain he1 := k39_open hK1
  obtain rfl : cs1 = #[.int .i64 x1.f0, .int .i64 x1.f1, .string x1.f2] := by cases cs1; simpa [Value.cells] using he1
  clear hA0 hval0
  obtain ⟨k, hP⟩ := Go.Proofs.Ytiaiglihndbjeaa.Pure.RowArity x0 x1 hwf0 hwf1
  refine (raddlelaw04_RowArity.calls k x0 x1.f0 x1.f1 x1.f2 true W  rfl hP).mono fun e W' ⟨he, bel0⟩ => ?_
  have bel : Below W.heap.size W W' := bel0
  subst he
  exact ⟨_, rfl, _, _, _, [], _, [], hW', trodAll_mk1 (shut_bool Try.underlying4 _), (trodAll_cons_mk (shut_int Try.underlying3 hwf0) (trodAll_cons_mk (Below.trod laidOut (by kernel_rfl) (of_decide_eq_true (by kernel_rfl)) kp1 bel lt1) trodAll_mk0)), rfl, bel.frame _, fun h => by cases h⟩
theorem over : Rows.rowArityRow.holds Try.pinned (OpenSpec.ofChange Rows.rowAritySpec) :=
  OpenClaim.holds_of_wide 6 Try.f6 rfl rfl rfl rfl rfl rfl rfl ⟨rfl, rfl, rfl, rfl, rfl⟩ rfl rfl rfl rfl rfl (by kernel_rfl) Try.func6 (by kernel_rfl)
    (of_decide_eq_true (by kernel_rfl)) (by unfold Func.isWrapper; first | (rw [if_pos (by decide +kernel)]; kernel_rfl) | (rw [if_neg (by decide +kernel)]; exact ⟨rfl, rfl⟩))
    (fun os started H enc _ => lifted os started H enc)
end Go.Proofs.Ytiaiglihndbjeaa.rowArity
namespace Go.Proofs.Ytiaiglihndbjeaa
/-- The row of the statement. -/
theorem rowArity_holds : Rows.RowAritySaid := rowArity.over
end Go.Proofs.Ytiaiglihndbjeaa
end
