/- The statement OpSizes holds. Conditions: none. -/
import Derived.Test.YtjnjfogfpmeacaaZOBp5
import Derived.Test.YtjnjfogfpmeacaaZOpSizes3
import Derived.Test.YtjnjfogfpmeacaaRows
import Derived.SizedLaws
set_option maxHeartbeats 8000000
set_option maxRecDepth 100000
open Go.Proofs.YtjnjfogfpmeacaaW Go.Proofs.Ytjnjfogfpmeacaa
section
namespace Go.Proofs.Ytjnjfogfpmeacaa.opSizes
open Go.ChangeShapes Go.WideShapes Go.ChangeAt Go.RowKit PAll PrintWords PrintLast Opens ZipT PrintWords.Kd PrintMore.Kd
open Go.ChangeMaps (open_string shut_string)
set_option linter.unusedVariables false
set_option linter.unusedSimpArgs false
theorem own : ownKnob Try.prog.godebug = none := by kernel_rfl
theorem laidOut : laidOutB Try.prog = true := by kernel_rfl
theorem raddlelaw07_OpSizes.o25 : Opens Try.prog 25 k25 raddlelaw07_OpSizes.WF25 := by
 intro H enc w base spare held fuel cs x h
 obtain ⟨xs, n, _, _, hl, hn, hf⟩ := DataW.trod_struct Try.underlying25 h
 have hcl : cs.length = 2 := hl.trans z1
 obtain ⟨v0, a0, b0⟩ : ∃ v, (Kd.int .i64).K w v ((cs.drop 0).take 1) ∧ (fun x_ => (Lit.int .i64 x_).wf = true) v := by
  have h0 : DataW.trod enc Try.prog w base spare held n 3 ((cs.drop 0).take (Try.prog.cellsOf 3)) = xs[0]? := hf 0 _ rfl
  rw [show Try.prog.cellsOf 3 = 1 by kernel_rfl, List.getElem?_eq_getElem (by rw [hn]; decide)] at h0
  exact (Opens.int Try.underlying3) h0
 obtain ⟨v1, a1, b1⟩ : ∃ v, (Kd.int .i64).K w v ((cs.drop 1).take 1) ∧ (fun x_ => (Lit.int .i64 x_).wf = true) v := by
  have h0 : DataW.trod enc Try.prog w base spare held n 3 ((cs.drop 1).take (Try.prog.cellsOf 3)) = xs[1]? := hf 1 _ rfl
  rw [show Try.prog.cellsOf 3 = 1 by kernel_rfl, List.getElem?_eq_getElem (by rw [hn]; decide)] at h0
  exact (Opens.int Try.underlying3) h0
 rw [List.take_of_length_le (by have h_ := hcl; rw [List.length_drop]; omega)] at a1
 rw [List.drop_zero] at a0
 refine ⟨⟨v0, v1⟩, ?_, b0, b1⟩
 have e1 : cs.drop 1 = (cs.drop 1) := by simp only [List.drop_drop]
 rw [e1] at a1
 exact pair_mk 1 a0 (a1)
theorem raddlelaw07_OpSizes.o28 : Opens Try.prog 28 k28 raddlelaw07_OpSizes.WF28 := by
 intro H enc w base spare held fuel cs x h
 obtain ⟨xs, n, _, _, hl, hn, hf⟩ := DataW.trod_struct Try.underlying28 h
 have hcl : cs.length = 3 := hl.trans z1
 obtain ⟨v0, a0, b0⟩ : ∃ v, (Kd.int .i64).K w v ((cs.drop 0).take 1) ∧ (fun x_ => (Lit.int .i64 x_).wf = true) v := by
  have h0 : DataW.trod enc Try.prog w base spare held n 3 ((cs.drop 0).take (Try.prog.cellsOf 3)) = xs[0]? := hf 0 _ rfl
  rw [show Try.prog.cellsOf 3 = 1 by kernel_rfl, List.getElem?_eq_getElem (by rw [hn]; decide)] at h0
  exact (Opens.int Try.underlying3) h0
 obtain ⟨v1, a1, b1⟩ : ∃ v, (Kd.int .i64).K w v ((cs.drop 1).take 1) ∧ (fun x_ => (Lit.int .i64 x_).wf = true) v := by
  have h0 : DataW.trod enc Try.prog w base spare held n 3 ((cs.drop 1).take (Try.prog.cellsOf 3)) = xs[1]? := hf 1 _ rfl
  rw [show Try.prog.cellsOf 3 = 1 by kernel_rfl, List.getElem?_eq_getElem (by rw [hn]; decide)] at h0
  exact (Opens.int Try.underlying3) h0
 obtain ⟨v2, a2, b2⟩ : ∃ v, (Kd.int .i64).K w v ((cs.drop 2).take 1) ∧ (fun x_ => (Lit.int .i64 x_).wf = true) v := by
  have h0 : DataW.trod enc Try.prog w base spare held n 3 ((cs.drop 2).take (Try.prog.cellsOf 3)) = xs[2]? := hf 2 _ rfl
  rw [show Try.prog.cellsOf 3 = 1 by kernel_rfl, List.getElem?_eq_getElem (by rw [hn]; decide)] at h0
  exact (Opens.int Try.underlying3) h0
 rw [List.take_of_length_le (by have h_ := hcl; rw [List.length_drop]; omega)] at a2
 rw [List.drop_zero] at a0
 refine ⟨⟨v0, v1, v2⟩, ?_, b0, b1, b2⟩
 have e1 : cs.drop 1 = (cs.drop 1) := by simp only [List.drop_drop]
 rw [e1] at a1
 have e2 : cs.drop 2 = ((cs.drop 1).drop 1) := by simp only [List.drop_drop]
 rw [e2] at a2
 exact pair_mk 1 a0 (pair_mk 1 a1 (a2))
theorem raddlelaw07_OpSizes.o84 : Opens Try.prog 84 k84 raddlelaw07_OpSizes.WF84 := by
 intro H enc w base spare held fuel cs x h
 obtain ⟨xs, n, _, _, hl, hn, hf⟩ := DataW.trod_struct Try.underlying84 h
 have hcl : cs.length = 3 := hl.trans z1
 obtain ⟨v0, a0, b0⟩ : ∃ v, (Kd.int .i64).K w v ((cs.drop 0).take 1) ∧ (fun x_ => (Lit.int .i64 x_).wf = true) v := by
  have h0 : DataW.trod enc Try.prog w base spare held n 3 ((cs.drop 0).take (Try.prog.cellsOf 3)) = xs[0]? := hf 0 _ rfl
  rw [show Try.prog.cellsOf 3 = 1 by kernel_rfl, List.getElem?_eq_getElem (by rw [hn]; decide)] at h0
  exact (Opens.int Try.underlying3) h0
 obtain ⟨v1, a1, b1⟩ : ∃ v, (Kd.int .i64).K w v ((cs.drop 1).take 1) ∧ (fun x_ => (Lit.int .i64 x_).wf = true) v := by
  have h0 : DataW.trod enc Try.prog w base spare held n 3 ((cs.drop 1).take (Try.prog.cellsOf 3)) = xs[1]? := hf 1 _ rfl
  rw [show Try.prog.cellsOf 3 = 1 by kernel_rfl, List.getElem?_eq_getElem (by rw [hn]; decide)] at h0
  exact (Opens.int Try.underlying3) h0
 obtain ⟨v2, a2, b2⟩ : ∃ v, Kd.string.K w v ((cs.drop 2).take 1) ∧ (fun x_ => x_.size ≤ maxLen) v := by
  have h0 : DataW.trod enc Try.prog w base spare held n 9 ((cs.drop 2).take (Try.prog.cellsOf 9)) = xs[2]? := hf 2 _ rfl
  rw [show Try.prog.cellsOf 9 = 1 by kernel_rfl, List.getElem?_eq_getElem (by rw [hn]; decide)] at h0
  exact (Opens.string Try.underlying9) h0
 rw [List.take_of_length_le (by have h_ := hcl; rw [List.length_drop]; omega)] at a2
 rw [List.drop_zero] at a0
 refine ⟨⟨v0, v1, v2⟩, ?_, b0, b1, b2⟩
 have e1 : cs.drop 1 = (cs.drop 1) := by simp only [List.drop_drop]
 rw [e1] at a1
 have e2 : cs.drop 2 = ((cs.drop 1).drop 1) := by simp only [List.drop_drop]
 rw [e2] at a2
 exact pair_mk 1 a0 (pair_mk 1 a1 (a2))
theorem raddlelaw07_OpSizes.o32 : Opens Try.prog 32 k32 raddlelaw07_OpSizes.WF32 := by
 intro H enc w base spare held fuel cs x h
 obtain ⟨xs, n, _, _, hl, hn, hf⟩ := DataW.trod_struct Try.underlying32 h
 have hcl : cs.length = 12 := hl.trans z1
 obtain ⟨v0, a0, b0⟩ : ∃ v, k25.K w v ((cs.drop 0).take 2) ∧ raddlelaw07_OpSizes.WF25 v := by
  have h0 : DataW.trod enc Try.prog w base spare held n 25 ((cs.drop 0).take (Try.prog.cellsOf 25)) = xs[0]? := hf 0 _ rfl
  rw [show Try.prog.cellsOf 25 = 2 by kernel_rfl, List.getElem?_eq_getElem (by rw [hn]; decide)] at h0
  exact raddlelaw07_OpSizes.o25 h0
 obtain ⟨v1, a1, b1⟩ : ∃ v, (Kd.slice 3 (Kd.int .i64)).K w v ((cs.drop 2).take 1) ∧ (fun x_ => (x_.length ≤ maxLen ∧ ∀ x0_ ∈ x_, (Lit.int .i64 x0_).wf = true)) v := by
  have h0 : DataW.trod enc Try.prog w base spare held n 26 ((cs.drop 2).take (Try.prog.cellsOf 26)) = xs[1]? := hf 1 _ rfl
  rw [show Try.prog.cellsOf 26 = 1 by kernel_rfl, List.getElem?_eq_getElem (by rw [hn]; decide)] at h0
  exact (Opens.slice Try.underlying26 z1 (Opens.int Try.underlying3)) h0
 obtain ⟨v2, a2, b2⟩ : ∃ v, k28.K w v ((cs.drop 3).take 3) ∧ raddlelaw07_OpSizes.WF28 v := by
  have h0 : DataW.trod enc Try.prog w base spare held n 28 ((cs.drop 3).take (Try.prog.cellsOf 28)) = xs[2]? := hf 2 _ rfl
  rw [show Try.prog.cellsOf 28 = 3 by kernel_rfl, List.getElem?_eq_getElem (by rw [hn]; decide)] at h0
  exact raddlelaw07_OpSizes.o28 h0
 obtain ⟨v3, a3, b3⟩ : ∃ v, (Kd.int .i64).K w v ((cs.drop 6).take 1) ∧ (fun x_ => (Lit.int .i64 x_).wf = true) v := by
  have h0 : DataW.trod enc Try.prog w base spare held n 3 ((cs.drop 6).take (Try.prog.cellsOf 3)) = xs[3]? := hf 3 _ rfl
  rw [show Try.prog.cellsOf 3 = 1 by kernel_rfl, List.getElem?_eq_getElem (by rw [hn]; decide)] at h0
  exact (Opens.int Try.underlying3) h0
 obtain ⟨v4, a4, b4⟩ : ∃ v, (Kd.int .i64).K w v ((cs.drop 7).take 1) ∧ (fun x_ => (Lit.int .i64 x_).wf = true) v := by
  have h0 : DataW.trod enc Try.prog w base spare held n 3 ((cs.drop 7).take (Try.prog.cellsOf 3)) = xs[4]? := hf 4 _ rfl
  rw [show Try.prog.cellsOf 3 = 1 by kernel_rfl, List.getElem?_eq_getElem (by rw [hn]; decide)] at h0
  exact (Opens.int Try.underlying3) h0
 obtain ⟨v5, a5, b5⟩ : ∃ v, Kd.string.K w v ((cs.drop 8).take 1) ∧ (fun x_ => x_.size ≤ maxLen) v := by
  have h0 : DataW.trod enc Try.prog w base spare held n 9 ((cs.drop 8).take (Try.prog.cellsOf 9)) = xs[5]? := hf 5 _ rfl
  rw [show Try.prog.cellsOf 9 = 1 by kernel_rfl, List.getElem?_eq_getElem (by rw [hn]; decide)] at h0
  exact (Opens.string Try.underlying9) h0
 obtain ⟨v6, a6, b6⟩ : ∃ v, (Kd.int .i64).K w v ((cs.drop 9).take 1) ∧ (fun x_ => (Lit.int .i64 x_).wf = true) v := by
  have h0 : DataW.trod enc Try.prog w base spare held n 3 ((cs.drop 9).take (Try.prog.cellsOf 3)) = xs[6]? := hf 6 _ rfl
  rw [show Try.prog.cellsOf 3 = 1 by kernel_rfl, List.getElem?_eq_getElem (by rw [hn]; decide)] at h0
  exact (Opens.int Try.underlying3) h0
 obtain ⟨v7, a7, b7⟩ : ∃ v, (Kd.slice 84 k84).K w v ((cs.drop 10).take 1) ∧ (fun x_ => (x_.length ≤ maxLen ∧ ∀ x0_ ∈ x_, raddlelaw07_OpSizes.WF84 x0_)) v := by
  have h0 : DataW.trod enc Try.prog w base spare held n 29 ((cs.drop 10).take (Try.prog.cellsOf 29)) = xs[7]? := hf 7 _ rfl
  rw [show Try.prog.cellsOf 29 = 1 by kernel_rfl, List.getElem?_eq_getElem (by rw [hn]; decide)] at h0
  exact (Opens.slice Try.underlying29 z1 raddlelaw07_OpSizes.o84) h0
 obtain ⟨v8, a8, b8⟩ : ∃ v, (Kd.slice 25 k25).K w v ((cs.drop 11).take 1) ∧ (fun x_ => (x_.length ≤ maxLen ∧ ∀ x0_ ∈ x_, raddlelaw07_OpSizes.WF25 x0_)) v := by
  have h0 : DataW.trod enc Try.prog w base spare held n 30 ((cs.drop 11).take (Try.prog.cellsOf 30)) = xs[8]? := hf 8 _ rfl
  rw [show Try.prog.cellsOf 30 = 1 by kernel_rfl, List.getElem?_eq_getElem (by rw [hn]; decide)] at h0
  exact (Opens.slice Try.underlying30 z1 raddlelaw07_OpSizes.o25) h0
 rw [List.take_of_length_le (by have h_ := hcl; rw [List.length_drop]; omega)] at a8
 rw [List.drop_zero] at a0
 refine ⟨⟨v0, v1, v2, v3, v4, v5, v6, v7, v8⟩, ?_, b0, b1, b2, b3, b4, b5, b6, b7, b8⟩
 have e1 : cs.drop 2 = (cs.drop 2) := by simp only [List.drop_drop]
 rw [e1] at a1
 have e2 : cs.drop 3 = ((cs.drop 2).drop 1) := by simp only [List.drop_drop]
 rw [e2] at a2
 have e3 : cs.drop 6 = (((cs.drop 2).drop 1).drop 3) := by simp only [List.drop_drop]
 rw [e3] at a3
 have e4 : cs.drop 7 = ((((cs.drop 2).drop 1).drop 3).drop 1) := by simp only [List.drop_drop]
 rw [e4] at a4
 have e5 : cs.drop 8 = (((((cs.drop 2).drop 1).drop 3).drop 1).drop 1) := by simp only [List.drop_drop]
 rw [e5] at a5
 have e6 : cs.drop 9 = ((((((cs.drop 2).drop 1).drop 3).drop 1).drop 1).drop 1) := by simp only [List.drop_drop]
 rw [e6] at a6
 have e7 : cs.drop 10 = (((((((cs.drop 2).drop 1).drop 3).drop 1).drop 1).drop 1).drop 1) := by simp only [List.drop_drop]
 rw [e7] at a7
 have e8 : cs.drop 11 = ((((((((cs.drop 2).drop 1).drop 3).drop 1).drop 1).drop 1).drop 1).drop 1) := by simp only [List.drop_drop]
 rw [e8] at a8
 exact pair_mk 2 a0 (pair_mk 1 a1 (pair_mk 3 a2 (pair_mk 1 a3 (pair_mk 1 a4 (pair_mk 1 a5 (pair_mk 1 a6 (pair_mk 1 a7 (a8))))))))
theorem lifted (os : Os) (started : os.Started) (H : Type) (enc : TypeId × Value → H) :
  ReturnsInHanded {} Try.checked os 7 .any (Rows.opSizesSpec.pre6 enc Try.prog Try.f7 Rows.opSizesRow.domain false) (Rows.opSizesSpec.post enc Try.prog Try.f7 false true false false) := by
 refine returnsInHanded_of_change_sized (C := Try.checked) own started z1 Try.func7
  (ChangeSpec.witness6 (enc := enc) (C := Try.checked) false ⟨#[], #[.agg #[.int .i64 0, .int .i64 0, .slice none 0 0, .int .i64 0, .int .i64 0, .int .i64 0, .int .i64 0, .int .i64 0, .string ByteArray.empty, .int .i64 0, .slice none 0 0, .slice none 0 0]], []⟩ 8 z1 z1 z1 z1) ?_
 intro W base args ds gs before hval0 hW hcnd hsz0 _
 clear hsz0
 have hval : ∀ (j : Nat) t v, Try.f7.params[j]? = some t → args[j]? = some v → Value.okWide Try.prog W .any base t v := hval0
 have hW' := hW
 obtain ⟨p, q, hA0, hV, rfl, hfz, hnd⟩ := hW
 have hA : DataW.TrodAll enc Try.prog W 0 (fun _ => true) true Try.f7.params.toList args.toList ds p := hA0
 rw [Try.params7] at hA hval
 obtain ⟨v0, vs0, d0, ds0, p0, q0, hargs, rfl, rfl, h0, r0⟩ := trodAll_cons hA
 obtain ⟨rfl, rfl, rfl⟩ := trodAll_nil r0
 obtain rfl : args = #[v0] := by cases args; simp_all
 obtain ⟨rfl, rfl⟩ := trodVars_none hV
 have kp0 := h0
 have lt0 : ∀ x ∈ p0, x.block < W.heap.size := by obtain ⟨m, hm⟩ := kp0; exact DataW.trod_lt m _ _ _ hm
 obtain ⟨cs0, rfl⟩ : ∃ cs, v0 = .agg cs := by have hq := (hval 0 32 v0 rfl rfl); unfold Value.okWide at hq; rw [Try.underlying32] at hq; obtain ⟨cs, e, _⟩ := hq; exact ⟨cs, e⟩
 obtain ⟨fuel0, hf0⟩ := h0
 obtain ⟨x0, hK0, hwf0⟩ := raddlelaw07_OpSizes.o32 hf0
 obtain ⟨A0_2, c0_2, A0_10, c0_10, A0_11, c0_11, he0, hl0_2, hr0_2, hl0_10, hr0_10, hl0_11, hr0_11⟩ := k32_open hK0
 obtain rfl : cs0 = #[.int .i64 x0.f0.f0, .int .i64 x0.f0.f1, .slice A0_2 x0.f1.length c0_2, .int .i64 x0.f2.f0, .int .i64 x0.f2.f1, .int .i64 x0.f2.f2, .int .i64 x0.f3, .int .i64 x0.f4, .string x0.f5, .int .i64 x0.f6, .slice A0_10 x0.f7.length c0_10, .slice A0_11 x0.f8.length c0_11] := by cases cs0; simpa [Value.cells] using he0
 clear hA0 hval0
 obtain ⟨k, hP⟩ := Go.Proofs.Ytjnjfogfpmeacaa.Pure.OpSizes x0 hwf0
 refine (raddlelaw07_OpSizes.calls k x0.f0.f0 x0.f0.f1 _ _ x0.f1 x0.f2.f0 x0.f2.f1 x0.f2.f2 x0.f3 x0.f4 x0.f5 x0.f6 _ _ x0.f7 _ _ x0.f8 true W hr0_2 hl0_2 hr0_10 hl0_10 hr0_11 hl0_11 rfl hP).mono fun e W' ⟨he, bel0⟩ => ?_
 have bel : Below W.heap.size W W' := bel0
 subst he
 exact ⟨_, rfl, _, _, _, [], _, [], hW', trodAll_mk1 (shut_bool Try.underlying4 _), (trodAll_cons_mk (Below.trod laidOut z1 (of_decide_eq_true z1) kp0 bel lt0) trodAll_mk0), rfl, bel.frame _, fun h => by cases h⟩
theorem over : Rows.opSizesRow.holds Try.pinned (OpenSpec.ofChange Rows.opSizesSpec) :=
 OpenClaim.holds_of_wide 7 Try.f7 rfl rfl rfl rfl rfl rfl rfl ⟨rfl, rfl, rfl, rfl, rfl⟩ rfl rfl rfl rfl rfl z1 Try.func7 z1
  (of_decide_eq_true z1) (by unfold Func.isWrapper; first | (rw [if_pos (by decide +kernel)]; kernel_rfl) | (rw [if_neg (by decide +kernel)]; exact ⟨rfl, rfl⟩))
  (fun os started H enc _ => lifted os started H enc)
end Go.Proofs.Ytjnjfogfpmeacaa.opSizes
namespace Go.Proofs.Ytjnjfogfpmeacaa
theorem opSizes_holds : Rows.OpSizesSaid := opSizes.over
end Go.Proofs.Ytjnjfogfpmeacaa
end
