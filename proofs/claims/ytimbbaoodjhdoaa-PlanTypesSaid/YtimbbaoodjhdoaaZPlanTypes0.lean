/- The statement PlanTypes holds. Conditions: none. -/
import Derived.Test.YtimbbaoodjhdoaaZPTp6
import Derived.Test.YtimbbaoodjhdoaaZPTq0
import Derived.Test.YtimbbaoodjhdoaaZPTq1
import Derived.Test.YtimbbaoodjhdoaaZPTq2
import Derived.Test.YtimbbaoodjhdoaaZPTq3
import Derived.Test.YtimbbaoodjhdoaaZPTq4
import Derived.Test.YtimbbaoodjhdoaaZPTq5
import Derived.Test.YtimbbaoodjhdoaaZPTq6
import Derived.Test.YtimbbaoodjhdoaaZPTq7
import Derived.Test.YtimbbaoodjhdoaaZPTq8
import Derived.Test.YtimbbaoodjhdoaaZPTq9
import Derived.Test.YtimbbaoodjhdoaaZPTq10
import Derived.Test.YtimbbaoodjhdoaaZPTq11
import Derived.Test.YtimbbaoodjhdoaaZPTq12
import Derived.Test.YtimbbaoodjhdoaaZPTr0
import Derived.Test.YtimbbaoodjhdoaaRows
import Derived.SizedLaws
set_option maxHeartbeats 8000000
set_option maxRecDepth 100000
open Go.Proofs.YtimbbaoodjhdoaaW Go.Proofs.Ytimbbaoodjhdoaa
section
namespace Go.Proofs.Ytimbbaoodjhdoaa.planTypes
open Go.ChangeShapes Go.WideShapes Go.ChangeAt Go.RowKit PAll PrintWords PrintLast Opens ZipT PrintWords.Kd PrintMore.Kd
open Go.ChangeMaps (open_string shut_string)
set_option linter.unusedVariables false
set_option linter.unusedSimpArgs false
theorem own : ownKnob Try.prog.godebug = none := by kernel_rfl
theorem laidOut : laidOutB Try.prog = true := by kernel_rfl
theorem aJ.o29 : Opens Try.prog 29 k29 aJ.WF29 := by
 intro H enc w base spare held fuel cs x h
 obtain ⟨xs, n, _, _, hl, hn, hf⟩ := DataW.trod_struct Try.underlying29 h
 have hcl : cs.length = 3 := hl.trans z1_
 obtain ⟨v0, a0, b0⟩ : ∃ v, (Kd.int .i64).K w v ((cs.drop 0).take 1) ∧ (fun x_ => (Lit.int .i64 x_).wf = true) v := by
  have h0 : DataW.trod enc Try.prog w base spare held n 3 ((cs.drop 0).take (Try.prog.cellsOf 3)) = xs[0]? := hf 0 _ rfl
  rw [show Try.prog.cellsOf 3 = 1 by kernel_rfl, List.getElem?_eq_getElem (by rw [hn]; decide)] at h0
  exact (Opens.int Try.underlying3) h0
 obtain ⟨v1, a1, b1⟩ : ∃ v, (Kd.int .i64).K w v ((cs.drop 1).take 1) ∧ (fun x_ => (Lit.int .i64 x_).wf = true) v := by
  have h0 : DataW.trod enc Try.prog w base spare held n 3 ((cs.drop 1).take (Try.prog.cellsOf 3)) = xs[1]? := hf 1 _ rfl
  rw [show Try.prog.cellsOf 3 = 1 by kernel_rfl, List.getElem?_eq_getElem (by rw [hn]; decide)] at h0
  exact (Opens.int Try.underlying3) h0
 obtain ⟨v2, a2, b2⟩ : ∃ v, Kd.string.K w v ((cs.drop 2).take 1) ∧ (fun x_ => x_.size ≤ maxLen) v := by
  have h0 : DataW.trod enc Try.prog w base spare held n 9 ((cs.drop 2).take (Try.prog.cellsOf 9)) = xs[2]? := hf 2 _ rfl
  rw [show Try.prog.cellsOf 9 = 1 by kernel_rfl, List.getElem?_eq_getElem (by rw [hn]; decide)] at h0
  exact (Opens.string Try.underlying9) h0
 rw [List.take_of_length_le (by have h_ := hcl; rw [List.length_drop]; omega)] at a2
 rw [List.drop_zero] at a0
 refine ⟨⟨v0, v1, v2⟩, ?_, b0, b1, b2⟩
 have e1 : cs.drop 1 = (cs.drop 1) := by simp only [List.drop_drop]
 rw [e1] at a1
 have e2 : cs.drop 2 = ((cs.drop 1).drop 1) := by simp only [List.drop_drop]
 rw [e2] at a2
 exact eG 1 a0 (eG 1 a1 (a2))
theorem aJ.o31 : Opens Try.prog 31 k31 aJ.WF31 := by
 intro H enc w base spare held fuel cs x h
 obtain ⟨xs, n, _, _, hl, hn, hf⟩ := DataW.trod_struct Try.underlying31 h
 have hcl : cs.length = 6 := hl.trans z1_
 obtain ⟨v0, a0, b0⟩ : ∃ v, (Kd.int .i64).K w v ((cs.drop 0).take 1) ∧ (fun x_ => (Lit.int .i64 x_).wf = true) v := by
  have h0 : DataW.trod enc Try.prog w base spare held n 3 ((cs.drop 0).take (Try.prog.cellsOf 3)) = xs[0]? := hf 0 _ rfl
  rw [show Try.prog.cellsOf 3 = 1 by kernel_rfl, List.getElem?_eq_getElem (by rw [hn]; decide)] at h0
  exact (Opens.int Try.underlying3) h0
 obtain ⟨v1, a1, b1⟩ : ∃ v, (Kd.int .i64).K w v ((cs.drop 1).take 1) ∧ (fun x_ => (Lit.int .i64 x_).wf = true) v := by
  have h0 : DataW.trod enc Try.prog w base spare held n 3 ((cs.drop 1).take (Try.prog.cellsOf 3)) = xs[1]? := hf 1 _ rfl
  rw [show Try.prog.cellsOf 3 = 1 by kernel_rfl, List.getElem?_eq_getElem (by rw [hn]; decide)] at h0
  exact (Opens.int Try.underlying3) h0
 obtain ⟨v2, a2, b2⟩ : ∃ v, (Kd.int .i64).K w v ((cs.drop 2).take 1) ∧ (fun x_ => (Lit.int .i64 x_).wf = true) v := by
  have h0 : DataW.trod enc Try.prog w base spare held n 3 ((cs.drop 2).take (Try.prog.cellsOf 3)) = xs[2]? := hf 2 _ rfl
  rw [show Try.prog.cellsOf 3 = 1 by kernel_rfl, List.getElem?_eq_getElem (by rw [hn]; decide)] at h0
  exact (Opens.int Try.underlying3) h0
 obtain ⟨v3, a3, b3⟩ : ∃ v, k29.K w v ((cs.drop 3).take 3) ∧ aJ.WF29 v := by
  have h0 : DataW.trod enc Try.prog w base spare held n 29 ((cs.drop 3).take (Try.prog.cellsOf 29)) = xs[3]? := hf 3 _ rfl
  rw [show Try.prog.cellsOf 29 = 3 by kernel_rfl, List.getElem?_eq_getElem (by rw [hn]; decide)] at h0
  exact aJ.o29 h0
 rw [List.take_of_length_le (by have h_ := hcl; rw [List.length_drop]; omega)] at a3
 rw [List.drop_zero] at a0
 refine ⟨⟨v0, v1, v2, v3⟩, ?_, b0, b1, b2, b3⟩
 have e1 : cs.drop 1 = (cs.drop 1) := by simp only [List.drop_drop]
 rw [e1] at a1
 have e2 : cs.drop 2 = ((cs.drop 1).drop 1) := by simp only [List.drop_drop]
 rw [e2] at a2
 have e3 : cs.drop 3 = (((cs.drop 1).drop 1).drop 1) := by simp only [List.drop_drop]
 rw [e3] at a3
 exact eG 1 a0 (eG 1 a1 (eG 1 a2 (a3)))
theorem aJ.o34 : Opens Try.prog 34 k34 aJ.WF34 := by
 intro H enc w base spare held fuel cs x h
 obtain ⟨xs, n, _, _, hl, hn, hf⟩ := DataW.trod_struct Try.underlying34 h
 have hcl : cs.length = 14 := hl.trans z1_
 obtain ⟨v0, a0, b0⟩ : ∃ v, (Kd.int .i64).K w v ((cs.drop 0).take 1) ∧ (fun x_ => (Lit.int .i64 x_).wf = true) v := by
  have h0 : DataW.trod enc Try.prog w base spare held n 3 ((cs.drop 0).take (Try.prog.cellsOf 3)) = xs[0]? := hf 0 _ rfl
  rw [show Try.prog.cellsOf 3 = 1 by kernel_rfl, List.getElem?_eq_getElem (by rw [hn]; decide)] at h0
  exact (Opens.int Try.underlying3) h0
 obtain ⟨v1, a1, b1⟩ : ∃ v, (Kd.int .i64).K w v ((cs.drop 1).take 1) ∧ (fun x_ => (Lit.int .i64 x_).wf = true) v := by
  have h0 : DataW.trod enc Try.prog w base spare held n 3 ((cs.drop 1).take (Try.prog.cellsOf 3)) = xs[1]? := hf 1 _ rfl
  rw [show Try.prog.cellsOf 3 = 1 by kernel_rfl, List.getElem?_eq_getElem (by rw [hn]; decide)] at h0
  exact (Opens.int Try.underlying3) h0
 obtain ⟨v2, a2, b2⟩ : ∃ v, (Kd.int .i64).K w v ((cs.drop 2).take 1) ∧ (fun x_ => (Lit.int .i64 x_).wf = true) v := by
  have h0 : DataW.trod enc Try.prog w base spare held n 3 ((cs.drop 2).take (Try.prog.cellsOf 3)) = xs[2]? := hf 2 _ rfl
  rw [show Try.prog.cellsOf 3 = 1 by kernel_rfl, List.getElem?_eq_getElem (by rw [hn]; decide)] at h0
  exact (Opens.int Try.underlying3) h0
 obtain ⟨v3, a3, b3⟩ : ∃ v, (Kd.int .i64).K w v ((cs.drop 3).take 1) ∧ (fun x_ => (Lit.int .i64 x_).wf = true) v := by
  have h0 : DataW.trod enc Try.prog w base spare held n 3 ((cs.drop 3).take (Try.prog.cellsOf 3)) = xs[3]? := hf 3 _ rfl
  rw [show Try.prog.cellsOf 3 = 1 by kernel_rfl, List.getElem?_eq_getElem (by rw [hn]; decide)] at h0
  exact (Opens.int Try.underlying3) h0
 obtain ⟨v4, a4, b4⟩ : ∃ v, k31.K w v ((cs.drop 4).take 6) ∧ aJ.WF31 v := by
  have h0 : DataW.trod enc Try.prog w base spare held n 31 ((cs.drop 4).take (Try.prog.cellsOf 31)) = xs[4]? := hf 4 _ rfl
  rw [show Try.prog.cellsOf 31 = 6 by kernel_rfl, List.getElem?_eq_getElem (by rw [hn]; decide)] at h0
  exact aJ.o31 h0
 obtain ⟨v5, a5, b5⟩ : ∃ v, (Kd.slice 3 (Kd.int .i64)).K w v ((cs.drop 10).take 1) ∧ (fun x_ => (x_.length ≤ maxLen ∧ ∀ x0_ ∈ x_, (Lit.int .i64 x0_).wf = true)) v := by
  have h0 : DataW.trod enc Try.prog w base spare held n 32 ((cs.drop 10).take (Try.prog.cellsOf 32)) = xs[5]? := hf 5 _ rfl
  rw [show Try.prog.cellsOf 32 = 1 by kernel_rfl, List.getElem?_eq_getElem (by rw [hn]; decide)] at h0
  exact (Opens.slice Try.underlying32 z1_ (Opens.int Try.underlying3)) h0
 obtain ⟨v6, a6, b6⟩ : ∃ v, (Kd.slice 3 (Kd.int .i64)).K w v ((cs.drop 11).take 1) ∧ (fun x_ => (x_.length ≤ maxLen ∧ ∀ x0_ ∈ x_, (Lit.int .i64 x0_).wf = true)) v := by
  have h0 : DataW.trod enc Try.prog w base spare held n 32 ((cs.drop 11).take (Try.prog.cellsOf 32)) = xs[6]? := hf 6 _ rfl
  rw [show Try.prog.cellsOf 32 = 1 by kernel_rfl, List.getElem?_eq_getElem (by rw [hn]; decide)] at h0
  exact (Opens.slice Try.underlying32 z1_ (Opens.int Try.underlying3)) h0
 obtain ⟨v7, a7, b7⟩ : ∃ v, (Kd.int .i64).K w v ((cs.drop 12).take 1) ∧ (fun x_ => (Lit.int .i64 x_).wf = true) v := by
  have h0 : DataW.trod enc Try.prog w base spare held n 3 ((cs.drop 12).take (Try.prog.cellsOf 3)) = xs[7]? := hf 7 _ rfl
  rw [show Try.prog.cellsOf 3 = 1 by kernel_rfl, List.getElem?_eq_getElem (by rw [hn]; decide)] at h0
  exact (Opens.int Try.underlying3) h0
 obtain ⟨v8, a8, b8⟩ : ∃ v, (Kd.int .i64).K w v ((cs.drop 13).take 1) ∧ (fun x_ => (Lit.int .i64 x_).wf = true) v := by
  have h0 : DataW.trod enc Try.prog w base spare held n 3 ((cs.drop 13).take (Try.prog.cellsOf 3)) = xs[8]? := hf 8 _ rfl
  rw [show Try.prog.cellsOf 3 = 1 by kernel_rfl, List.getElem?_eq_getElem (by rw [hn]; decide)] at h0
  exact (Opens.int Try.underlying3) h0
 rw [List.take_of_length_le (by have h_ := hcl; rw [List.length_drop]; omega)] at a8
 rw [List.drop_zero] at a0
 refine ⟨⟨v0, v1, v2, v3, v4, v5, v6, v7, v8⟩, ?_, b0, b1, b2, b3, b4, b5, b6, b7, b8⟩
 have e1 : cs.drop 1 = (cs.drop 1) := by simp only [List.drop_drop]
 rw [e1] at a1
 have e2 : cs.drop 2 = ((cs.drop 1).drop 1) := by simp only [List.drop_drop]
 rw [e2] at a2
 have e3 : cs.drop 3 = (((cs.drop 1).drop 1).drop 1) := by simp only [List.drop_drop]
 rw [e3] at a3
 have e4 : cs.drop 4 = ((((cs.drop 1).drop 1).drop 1).drop 1) := by simp only [List.drop_drop]
 rw [e4] at a4
 have e5 : cs.drop 10 = (((((cs.drop 1).drop 1).drop 1).drop 1).drop 6) := by simp only [List.drop_drop]
 rw [e5] at a5
 have e6 : cs.drop 11 = ((((((cs.drop 1).drop 1).drop 1).drop 1).drop 6).drop 1) := by simp only [List.drop_drop]
 rw [e6] at a6
 have e7 : cs.drop 12 = (((((((cs.drop 1).drop 1).drop 1).drop 1).drop 6).drop 1).drop 1) := by simp only [List.drop_drop]
 rw [e7] at a7
 have e8 : cs.drop 13 = ((((((((cs.drop 1).drop 1).drop 1).drop 1).drop 6).drop 1).drop 1).drop 1) := by simp only [List.drop_drop]
 rw [e8] at a8
 exact eG 1 a0 (eG 1 a1 (eG 1 a2 (eG 1 a3 (eG 6 a4 (eG 1 a5 (eG 1 a6 (eG 1 a7 (a8))))))))
theorem aJ.o54 : Opens Try.prog 54 k54 aJ.WF54 := by
 intro H enc w base spare held fuel cs x h
 obtain ⟨xs, n, _, _, hl, hn, hf⟩ := DataW.trod_struct Try.underlying54 h
 have hcl : cs.length = 1 := hl.trans z1_
 obtain ⟨v0, a0, b0⟩ : ∃ v, (Kd.slice 3 (Kd.int .i64)).K w v ((cs.drop 0).take 1) ∧ (fun x_ => (x_.length ≤ maxLen ∧ ∀ x0_ ∈ x_, (Lit.int .i64 x0_).wf = true)) v := by
  have h0 : DataW.trod enc Try.prog w base spare held n 32 ((cs.drop 0).take (Try.prog.cellsOf 32)) = xs[0]? := hf 0 _ rfl
  rw [show Try.prog.cellsOf 32 = 1 by kernel_rfl, List.getElem?_eq_getElem (by rw [hn]; decide)] at h0
  exact (Opens.slice Try.underlying32 z1_ (Opens.int Try.underlying3)) h0
 rw [List.take_of_length_le (by have h_ := hcl; rw [List.length_drop]; omega)] at a0
 rw [List.drop_zero] at a0
 refine ⟨⟨v0⟩, ?_, b0⟩
 exact a0
theorem lifted (os : Os) (started : os.Started) (H : Type) (enc : TypeId × Value → H) :
  ReturnsInHanded {} Try.checked os 6 .any (Rows.planTypesSpec.pre6 enc Try.prog Try.f6 Rows.planTypesRow.domain false) (Rows.planTypesSpec.post enc Try.prog Try.f6 false true false false) := by
 refine returnsInHanded_of_change_sized (C := Try.checked) own started z1_ Try.func6
  (ChangeSpec.witness6 (enc := enc) (C := Try.checked) false ⟨#[], #[.slice none 0 0, .slice none 0 0, .int .i64 0], []⟩ 8 z1_ z1_ z1_ z1_) ?_
 intro W base args ds gs before hval0 hW hcnd hsz0 _
 clear hsz0
 have hval : ∀ (j : Nat) t v, Try.f6.params[j]? = some t → args[j]? = some v → Value.okWide Try.prog W .any base t v := hval0
 have hW' := hW
 obtain ⟨p, q, hA0, hV, rfl, hfz, hnd⟩ := hW
 have hA : DataW.TrodAll enc Try.prog W 0 (fun _ => true) true Try.f6.params.toList args.toList ds p := hA0
 rw [Try.params6] at hA hval
 obtain ⟨v0, vs0, d0, ds0, p0, q0, hargs, rfl, rfl, h0, r0⟩ := trodAll_cons hA
 obtain ⟨v1, vs1, d1, ds1, p1, q1, rfl, rfl, rfl, h1, r1⟩ := trodAll_cons r0
 obtain ⟨v2, vs2, d2, ds2, p2, q2, rfl, rfl, rfl, h2, r2⟩ := trodAll_cons r1
 obtain ⟨rfl, rfl, rfl⟩ := trodAll_nil r2
 obtain rfl : args = #[v0, v1, v2] := by cases args; simp_all
 obtain ⟨rfl, rfl⟩ := trodVars_none hV
 have kp0 := h0
 have lt0 : ∀ x ∈ p0, x.block < W.heap.size := by obtain ⟨m, hm⟩ := kp0; exact DataW.trod_lt m _ _ _ hm
 obtain ⟨a0, len0, cap0, rfl⟩ := okWide_slice Try.underlying35 (hval 0 35 v0 rfl rfl)
 obtain ⟨fuel0, hf0⟩ := h0
 obtain ⟨x0, hK0, hwf0⟩ := (Opens.slice Try.underlying35 z1_ aJ.o34) hf0
 obtain ⟨A0, c0, he0, hl0, hr0⟩ := hK0
 obtain ⟨rfl, rfl, rfl⟩ : a0 = A0 ∧ len0 = x0.length ∧ cap0 = c0 := by simpa [Value.cells] using he0
 have kp1 := h1
 have lt1 : ∀ x ∈ p1, x.block < W.heap.size := by obtain ⟨m, hm⟩ := kp1; exact DataW.trod_lt m _ _ _ hm
 obtain ⟨a1, len1, cap1, rfl⟩ := okWide_slice Try.underlying22 (hval 1 22 v1 rfl rfl)
 obtain ⟨fuel1, hf1⟩ := h1
 obtain ⟨x1, hK1, hwf1⟩ := (Opens.slice Try.underlying22 z1_ aJ.o54) hf1
 obtain ⟨A1, c1, he1, hl1, hr1⟩ := hK1
 obtain ⟨rfl, rfl, rfl⟩ : a1 = A1 ∧ len1 = x1.length ∧ cap1 = c1 := by simpa [Value.cells] using he1
 obtain ⟨x2, rfl, rfl, rfl, hwf2⟩ := open_int Try.underlying3 (hval 2 3 v2 rfl rfl) h2
 clear hA0 hval0
 obtain ⟨k, hP⟩ := Go.Proofs.Ytimbbaoodjhdoaa.Pure.PlanTypes x0 x1 x2 hwf0 hwf1 hwf2
 refine (aJ.calls k _ _ x0 _ _ x1 x2 true W hr0 hl0 hr1 hl1 rfl hP).mono fun e W' ⟨he, bel0⟩ => ?_
 have bel : Below W.heap.size W W' := bel0
 subst he
 exact ⟨_, rfl, _, _, _, [], _, [], hW', trodAll_mk1 (shut_bool Try.underlying4 _), (trodAll_cons_mk (Below.trod laidOut z1_ (of_decide_eq_true z1_) kp0 bel lt0) (trodAll_cons_mk (Below.trod laidOut z1_ (of_decide_eq_true z1_) kp1 bel lt1) (trodAll_cons_mk (shut_int Try.underlying3 hwf2) trodAll_mk0))), rfl, bel.frame _, fun h => by cases h⟩
theorem over : Rows.planTypesRow.holds Try.pinned (OpenSpec.ofChange Rows.planTypesSpec) :=
 OpenClaim.holds_of_wide 6 Try.f6 rfl rfl rfl rfl rfl rfl rfl ⟨rfl, rfl, rfl, rfl, rfl⟩ rfl rfl rfl rfl rfl z1_ Try.func6 z1_
  (of_decide_eq_true z1_) (by unfold Func.isWrapper; first | (rw [if_pos (by decide +kernel)]; kernel_rfl) | (rw [if_neg (by decide +kernel)]; exact ⟨rfl, rfl⟩))
  (fun os started H enc _ => lifted os started H enc)
end Go.Proofs.Ytimbbaoodjhdoaa.planTypes
namespace Go.Proofs.Ytimbbaoodjhdoaa
theorem planTypes_holds : Rows.PlanTypesSaid := planTypes.over
end Go.Proofs.Ytimbbaoodjhdoaa
end
