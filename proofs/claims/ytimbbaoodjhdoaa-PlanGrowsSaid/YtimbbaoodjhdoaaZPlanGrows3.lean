/- The statement PlanGrows holds. Conditions: none. -/
import Derived.Test.YtimbbaoodjhdoaaZB20p7
import Derived.Test.YtimbbaoodjhdoaaZB20q0
import Derived.Test.YtimbbaoodjhdoaaZB20q1
import Derived.Test.YtimbbaoodjhdoaaZB20q2
import Derived.Test.YtimbbaoodjhdoaaZB20q3
import Derived.Test.YtimbbaoodjhdoaaZB20q4
import Derived.Test.YtimbbaoodjhdoaaZB20q5
import Derived.Test.YtimbbaoodjhdoaaZB20q6
import Derived.Test.YtimbbaoodjhdoaaZB20q7
import Derived.Test.YtimbbaoodjhdoaaZB20q8
import Derived.Test.YtimbbaoodjhdoaaZB20q9
import Derived.Test.YtimbbaoodjhdoaaZB20q10
import Derived.Test.YtimbbaoodjhdoaaZB20q11
import Derived.Test.YtimbbaoodjhdoaaZB20q12
import Derived.Test.YtimbbaoodjhdoaaZB20r0
import Derived.Test.YtimbbaoodjhdoaaZPlanGrows2
import Derived.Test.YtimbbaoodjhdoaaRows
import Derived.SizedLaws
section
namespace Go.Proofs.Ytimbbaoodjhdoaa.planGrows
open Go.ChangeShapes Go.WideShapes Go.ChangeAt Go.RowKit Go.Proofs.Ytimbbaoodjhdoaa.PAll Go.Proofs.YtimbbaoodjhdoaaW.PrintWords Go.Proofs.YtimbbaoodjhdoaaW.PrintLast Go.Proofs.Ytimbbaoodjhdoaa.Opens Go.Proofs.Ytimbbaoodjhdoaa.ZipT Go.Proofs.YtimbbaoodjhdoaaW.PrintWords.Kd Go.Proofs.YtimbbaoodjhdoaaW.PrintMore.Kd
open Go.ChangeMaps (open_string shut_string)
set_option linter.unusedVariables false
set_option linter.unusedSimpArgs false
theorem own : ownKnob Try.prog.godebug = none := by kernel_rfl
theorem laidOut : laidOutB Try.prog = true := by kernel_rfl
theorem raddlelaw20_PlanGrows.o54 : Opens Try.prog 54 k54 raddlelaw20_PlanGrows.WF54 := by
 intro H enc w base spare held fuel cs x h
 obtain ⟨xs, n, _, _, hl, hn, hf⟩ := DataW.trod_struct Try.underlying54 h
 have hcl : cs.length = 1 := hl.trans z1
 obtain ⟨v0, a0, b0⟩ : ∃ v, (Kd.slice 3 (Kd.int .i64)).K w v ((cs.drop 0).take 1) ∧ (fun x_ => (x_.length ≤ maxLen ∧ ∀ x0_ ∈ x_, (Lit.int .i64 x0_).wf = true)) v := by
  have h0 : DataW.trod enc Try.prog w base spare held n 32 ((cs.drop 0).take (Try.prog.cellsOf 32)) = xs[0]? := hf 0 _ rfl
  rw [show Try.prog.cellsOf 32 = 1 by kernel_rfl, List.getElem?_eq_getElem (by rw [hn]; decide)] at h0
  exact (Opens.slice Try.underlying32 z1 (Opens.int Try.underlying3)) h0
 rw [List.take_of_length_le (by have h_ := hcl; rw [List.length_drop]; omega)] at a0
 rw [List.drop_zero] at a0
 refine ⟨⟨v0⟩, ?_, b0⟩
 exact a0
set_option maxRecDepth 100000 in
theorem lifted (os : Os) (started : os.Started) (H : Type) (enc : TypeId × Value → H) :
  ReturnsInHanded {} Try.checked os 3 .any (Rows.planGrowsSpec.pre6 enc Try.prog Try.f3 Rows.planGrowsRow.domain false) (Rows.planGrowsSpec.post enc Try.prog Try.f3 false true false false) := by
 refine returnsInHanded_of_change_sized (C := Try.checked) own started z1 Try.func3
  (ChangeSpec.witness6 (enc := enc) (C := Try.checked) false ⟨#[], #[.slice none 0 0, .int .i64 0], []⟩ 8 z1 z1 z1 z1) ?_
 intro W base args ds gs before hval0 hW hcnd hsz0 _
 clear hsz0
 have hval : ∀ (j : Nat) t v, Try.f3.params[j]? = some t → args[j]? = some v → Value.okWide Try.prog W .any base t v := hval0
 have hW' := hW
 obtain ⟨p, q, hA0, hV, rfl, hfz, hnd⟩ := hW
 have hA : DataW.TrodAll enc Try.prog W 0 (fun _ => true) true Try.f3.params.toList args.toList ds p := hA0
 rw [Try.params3] at hA hval
 obtain ⟨v0, vs0, d0, ds0, p0, q0, hargs, rfl, rfl, h0, r0⟩ := trodAll_cons hA
 obtain ⟨v1, vs1, d1, ds1, p1, q1, rfl, rfl, rfl, h1, r1⟩ := trodAll_cons r0
 obtain ⟨rfl, rfl, rfl⟩ := trodAll_nil r1
 obtain rfl : args = #[v0, v1] := by cases args; simp_all
 obtain ⟨rfl, rfl⟩ := trodVars_none hV
 have kp0 := h0
 have lt0 : ∀ x ∈ p0, x.block < W.heap.size := by obtain ⟨m, hm⟩ := kp0; exact DataW.trod_lt m _ _ _ hm
 obtain ⟨a0, len0, cap0, rfl⟩ := okWide_slice Try.underlying22 (hval 0 22 v0 rfl rfl)
 obtain ⟨fuel0, hf0⟩ := h0
 obtain ⟨x0, hK0, hwf0⟩ := (Opens.slice Try.underlying22 z1 raddlelaw20_PlanGrows.o54) hf0
 obtain ⟨A0, c0, he0, hl0, hr0⟩ := hK0
 obtain ⟨rfl, rfl, rfl⟩ : a0 = A0 ∧ len0 = x0.length ∧ cap0 = c0 := by simpa [Value.cells] using he0
 obtain ⟨x1, rfl, rfl, rfl, hwf1⟩ := open_int Try.underlying3 (hval 1 3 v1 rfl rfl) h1
 clear hA0 hval0
 obtain ⟨k, hP⟩ := Go.Proofs.Ytimbbaoodjhdoaa.Pure.PlanGrows x0 x1 hwf0 hwf1
 refine (raddlelaw20_PlanGrows.calls k _ _ x0 x1 true W hr0 hl0 rfl hP).mono fun e W' ⟨he, bel0⟩ => ?_
 have bel : Below W.heap.size W W' := bel0
 subst he
 exact ⟨_, rfl, _, _, _, [], _, [], hW', trodAll_mk1 (shut_bool Try.underlying4 _), (trodAll_cons_mk (Below.trod laidOut z1 (of_decide_eq_true z1) kp0 bel lt0) (trodAll_cons_mk (shut_int Try.underlying3 hwf1) trodAll_mk0)), rfl, bel.frame _, fun h => by cases h⟩
theorem over : Rows.planGrowsRow.holds Try.pinned (OpenSpec.ofChange Rows.planGrowsSpec) :=
 OpenClaim.holds_of_wide 3 Try.f3 rfl rfl rfl rfl rfl rfl rfl ⟨rfl, rfl, rfl, rfl, rfl⟩ rfl rfl rfl rfl rfl z1 Try.func3 z1
  (of_decide_eq_true z1) (by unfold Func.isWrapper; first | (rw [if_pos (by decide +kernel)]; kernel_rfl) | (rw [if_neg (by decide +kernel)]; exact ⟨rfl, rfl⟩))
  (fun os started H enc _ => lifted os started H enc)
end Go.Proofs.Ytimbbaoodjhdoaa.planGrows
namespace Go.Proofs.Ytimbbaoodjhdoaa
theorem planGrows_holds : Rows.PlanGrowsSaid := planGrows.over
end Go.Proofs.Ytimbbaoodjhdoaa
end
