/- The statement PlanNodes holds. Conditions: none. -/
import Derived.Test.YtimbbaoodjhdoaaZB20p7
import Derived.Test.YtimbbaoodjhdoaaZB20q0
import Derived.Test.YtimbbaoodjhdoaaZB20q1
import Derived.Test.YtimbbaoodjhdoaaZB20q2
import Derived.Test.YtimbbaoodjhdoaaZB20q3
import Derived.Test.YtimbbaoodjhdoaaZB20q4
import Derived.Test.YtimbbaoodjhdoaaZB20q5
import Derived.Test.YtimbbaoodjhdoaaZB20q6
import Derived.Test.YtimbbaoodjhdoaaZB20q7
import Derived.Test.YtimbbaoodjhdoaaZB20q8
import Derived.Test.YtimbbaoodjhdoaaZB20q9
import Derived.Test.YtimbbaoodjhdoaaZB20q10
import Derived.Test.YtimbbaoodjhdoaaZB20q11
import Derived.Test.YtimbbaoodjhdoaaZB20q12
import Derived.Test.YtimbbaoodjhdoaaZB20r0
import Derived.Test.YtimbbaoodjhdoaaZPlanNodes2
import Derived.Test.YtimbbaoodjhdoaaRows
import Derived.SizedLaws
section
namespace Go.Proofs.Ytimbbaoodjhdoaa.planNodes
open Go.ChangeShapes Go.WideShapes Go.ChangeAt Go.RowKit Go.Proofs.Ytimbbaoodjhdoaa.PAll Go.Proofs.YtimbbaoodjhdoaaW.PrintWords Go.Proofs.YtimbbaoodjhdoaaW.PrintLast Go.Proofs.Ytimbbaoodjhdoaa.Opens Go.Proofs.Ytimbbaoodjhdoaa.ZipT Go.Proofs.YtimbbaoodjhdoaaW.PrintWords.Kd Go.Proofs.YtimbbaoodjhdoaaW.PrintMore.Kd
open Go.ChangeMaps (open_string shut_string)
set_option linter.unusedVariables false
set_option linter.unusedSimpArgs false
theorem own : ownKnob Try.prog.godebug = none := by kernel_rfl
theorem laidOut : laidOutB Try.prog = true := by kernel_rfl
theorem raddlelaw20_PlanNodes.o54 : Opens Try.prog 54 k54 raddlelaw20_PlanNodes.WF54 := by
 intro H enc w base spare held fuel cs x h
 obtain ⟨xs, n, _, _, hl, hn, hf⟩ := DataW.trod_struct Try.underlying54 h
 have hcl : cs.length = 1 := hl.trans z1
 obtain ⟨v0, a0, b0⟩ : ∃ v, (Kd.slice 3 (Kd.int .i64)).K w v ((cs.drop 0).take 1) ∧ (fun x_ => (x_.length ≤ maxLen ∧ ∀ x0_ ∈ x_, (Lit.int .i64 x0_).wf = true)) v := by
  have h0 : DataW.trod enc Try.prog w base spare held n 32 ((cs.drop 0).take (Try.prog.cellsOf 32)) = xs[0]? := hf 0 _ rfl
  rw [show Try.prog.cellsOf 32 = 1 by kernel_rfl, List.getElem?_eq_getElem (by rw [hn]; decide)] at h0
  exact (Opens.slice Try.underlying32 z1 (Opens.int Try.underlying3)) h0
 rw [List.take_of_length_le (by have h_ := hcl; rw [List.length_drop]; omega)] at a0
 rw [List.drop_zero] at a0
 refine ⟨⟨v0⟩, ?_, b0⟩
 exact a0
set_option maxRecDepth 100000 in
theorem lifted (os : Os) (started : os.Started) (H : Type) (enc : TypeId × Value → H) :
  ReturnsInHanded {} Try.checked os 7 .any (Rows.planNodesSpec.pre6 enc Try.prog Try.f7 Rows.planNodesRow.domain false) (Rows.planNodesSpec.post enc Try.prog Try.f7 false true false false) := by
 refine returnsInHanded_of_change_sized (C := Try.checked) own started z1 Try.func7
  (ChangeSpec.witness6 (enc := enc) (C := Try.checked) false ⟨#[], #[.int .i64 0, .slice none 0 0], []⟩ 8 z1 z1 z1 z1) ?_
 intro W base args ds gs before hval0 hW hcnd hsz0 _
 clear hsz0
 have hval : ∀ (j : Nat) t v, Try.f7.params[j]? = some t → args[j]? = some v → Value.okWide Try.prog W .any base t v := hval0
 have hW' := hW
 obtain ⟨p, q, hA0, hV, rfl, hfz, hnd⟩ := hW
 have hA : DataW.TrodAll enc Try.prog W 0 (fun _ => true) true Try.f7.params.toList args.toList ds p := hA0
 rw [Try.params7] at hA hval
 obtain ⟨v0, vs0, d0, ds0, p0, q0, hargs, rfl, rfl, h0, r0⟩ := trodAll_cons hA
 obtain ⟨v1, vs1, d1, ds1, p1, q1, rfl, rfl, rfl, h1, r1⟩ := trodAll_cons r0
 obtain ⟨rfl, rfl, rfl⟩ := trodAll_nil r1
 obtain rfl : args = #[v0, v1] := by cases args; simp_all
 obtain ⟨rfl, rfl⟩ := trodVars_none hV
 obtain ⟨x0, rfl, rfl, rfl, hwf0⟩ := open_int Try.underlying3 (hval 0 3 v0 rfl rfl) h0
 have kp1 := h1
 have lt1 : ∀ x ∈ p1, x.block < W.heap.size := by obtain ⟨m, hm⟩ := kp1; exact DataW.trod_lt m _ _ _ hm
 obtain ⟨a1, len1, cap1, rfl⟩ := okWide_slice Try.underlying22 (hval 1 22 v1 rfl rfl)
 obtain ⟨fuel1, hf1⟩ := h1
 obtain ⟨x1, hK1, hwf1⟩ := (Opens.slice Try.underlying22 z1 raddlelaw20_PlanNodes.o54) hf1
 obtain ⟨A1, c1, he1, hl1, hr1⟩ := hK1
 obtain ⟨rfl, rfl, rfl⟩ : a1 = A1 ∧ len1 = x1.length ∧ cap1 = c1 := by simpa [Value.cells] using he1
 clear hA0 hval0
 obtain ⟨k, hP⟩ := Go.Proofs.Ytimbbaoodjhdoaa.Pure.PlanNodes x0 x1 hwf0 hwf1
 refine (raddlelaw20_PlanNodes.calls k x0 _ _ x1 true W hr1 hl1 rfl hP).mono fun e W' ⟨he, bel0⟩ => ?_
 have bel : Below W.heap.size W W' := bel0
 subst he
 exact ⟨_, rfl, _, _, _, [], _, [], hW', trodAll_mk1 (shut_bool Try.underlying4 _), (trodAll_cons_mk (shut_int Try.underlying3 hwf0) (trodAll_cons_mk (Below.trod laidOut z1 (of_decide_eq_true z1) kp1 bel lt1) trodAll_mk0)), rfl, bel.frame _, fun h => by cases h⟩
theorem over : Rows.planNodesRow.holds Try.pinned (OpenSpec.ofChange Rows.planNodesSpec) :=
 OpenClaim.holds_of_wide 7 Try.f7 rfl rfl rfl rfl rfl rfl rfl ⟨rfl, rfl, rfl, rfl, rfl⟩ rfl rfl rfl rfl rfl z1 Try.func7 z1
  (of_decide_eq_true z1) (by unfold Func.isWrapper; first | (rw [if_pos (by decide +kernel)]; kernel_rfl) | (rw [if_neg (by decide +kernel)]; exact ⟨rfl, rfl⟩))
  (fun os started H enc _ => lifted os started H enc)
end Go.Proofs.Ytimbbaoodjhdoaa.planNodes
namespace Go.Proofs.Ytimbbaoodjhdoaa
theorem planNodes_holds : Rows.PlanNodesSaid := planNodes.over
end Go.Proofs.Ytimbbaoodjhdoaa
end
