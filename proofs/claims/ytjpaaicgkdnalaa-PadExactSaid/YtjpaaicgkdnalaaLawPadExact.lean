-- Printed by a program of this session (wip/hp.py: the printer of the kit with hooks of our own); Lean checks it.
import Derived.Test.YtjpaaicgkdnalaaRows
import Derived.Test.YtjpaaicgkdnalaaPadExactW
import Derived.Test.YtjpaaicgkdnalaaPHand
import Derived.Test.YtjpaaicgkdnalaaOpens
import Derived.WalkKit
import Derived.ProofKit
import Derived.OpenShut
import Derived.ShutString
import Derived.ChangeOld
import Derived.Below
import Derived.SizedLaws
namespace Go.Proofs.Ytjpaaicgkdnalaa.padExact
open Go.ChangeShapes Go.WideShapes Go.ChangeAt Go.RowKit Go.Proofs.Ytjpaaicgkdnalaa.PAll Go.Proofs.YtjpaaicgkdnalaaW.PrintWords Go.Proofs.YtjpaaicgkdnalaaW.PrintLast Go.Proofs.Ytjpaaicgkdnalaa.Opens
open Go.ChangeMaps (open_string shut_string)
set_option linter.unusedVariables false
set_option linter.unusedSimpArgs false
theorem own : ownKnob Try.prog.godebug = none := by kernel_rfl
theorem laidOut : laidOutB Try.prog = true := by kernel_rfl
theorem hand.o41 : Opens Try.prog 41 k41 hand.WF41 := by
  intro H enc w base spare held fuel cs x h
  obtain ⟨xs, n, _, _, hl, hn, hf⟩ := DataW.trod_struct Try.underlying41 h
  have hcl : cs.length = 5 := hl.trans (by kernel_rfl)
  obtain ⟨v0, a0, b0⟩ : ∃ v, (Kd.int .i64).K w v ((cs.drop 0).take 1) ∧ (fun x_ => (Lit.int .i64 x_).wf = true) v := by
    have h0 : DataW.trod enc Try.prog w base spare held n 3 ((cs.drop 0).take (Try.prog.cellsOf 3)) = xs[0]? := hf 0 _ rfl
    rw [show Try.prog.cellsOf 3 = 1 by kernel_rfl, List.getElem?_eq_getElem (by rw [hn]; decide)] at h0
    exact (Opens.int Try.underlying3) h0
  obtain ⟨v1, a1, b1⟩ : ∃ v, (Kd.int .i64).K w v ((cs.drop 1).take 1) ∧ (fun x_ => (Lit.int .i64 x_).wf = true) v := by
    have h0 : DataW.trod enc Try.prog w base spare held n 3 ((cs.drop 1).take (Try.prog.cellsOf 3)) = xs[1]? := hf 1 _ rfl
    rw [show Try.prog.cellsOf 3 = 1 by kernel_rfl, List.getElem?_eq_getElem (by rw [hn]; decide)] at h0
    exact (Opens.int Try.underlying3) h0
  obtain ⟨v2, a2, b2⟩ : ∃ v, (Kd.slice 5 (Kd.int .u8)).K w v ((cs.drop 2).take 1) ∧ (fun x_ => (x_.length ≤ maxLen ∧ ∀ x0_ ∈ x_, (Lit.int .u8 x0_).wf = true)) v := by
    have h0 : DataW.trod enc Try.prog w base spare held n 29 ((cs.drop 2).take (Try.prog.cellsOf 29)) = xs[2]? := hf 2 _ rfl
    rw [show Try.prog.cellsOf 29 = 1 by kernel_rfl, List.getElem?_eq_getElem (by rw [hn]; decide)] at h0
    exact (Opens.slice Try.underlying29 (by kernel_rfl) (Opens.int Try.underlying5)) h0
  obtain ⟨v3, a3, b3⟩ : ∃ v, (Kd.slice 4 Kd.bool).K w v ((cs.drop 3).take 1) ∧ (fun x_ => (x_.length ≤ maxLen ∧ ∀ x0_ ∈ x_, True)) v := by
    have h0 : DataW.trod enc Try.prog w base spare held n 22 ((cs.drop 3).take (Try.prog.cellsOf 22)) = xs[3]? := hf 3 _ rfl
    rw [show Try.prog.cellsOf 22 = 1 by kernel_rfl, List.getElem?_eq_getElem (by rw [hn]; decide)] at h0
    exact (Opens.slice Try.underlying22 (by kernel_rfl) (Opens.bool Try.underlying4)) h0
  obtain ⟨v4, a4, b4⟩ : ∃ v, (Kd.int .i64).K w v ((cs.drop 4).take 1) ∧ (fun x_ => (Lit.int .i64 x_).wf = true) v := by
    have h0 : DataW.trod enc Try.prog w base spare held n 3 ((cs.drop 4).take (Try.prog.cellsOf 3)) = xs[4]? := hf 4 _ rfl
    rw [show Try.prog.cellsOf 3 = 1 by kernel_rfl, List.getElem?_eq_getElem (by rw [hn]; decide)] at h0
    exact (Opens.int Try.underlying3) h0
  rw [List.take_of_length_le (by have h_ := hcl; rw [List.length_drop]; omega)] at a4
  rw [List.drop_zero] at a0
  refine ⟨⟨v0, v1, v2, v3, v4⟩, ?_, b0, b1, b2, b3, b4⟩
  have e1 : cs.drop 1 = (cs.drop 1) := by simp only [List.drop_drop]
  rw [e1] at a1
  have e2 : cs.drop 2 = ((cs.drop 1).drop 1) := by simp only [List.drop_drop]
  rw [e2] at a2
  have e3 : cs.drop 3 = (((cs.drop 1).drop 1).drop 1) := by simp only [List.drop_drop]
  rw [e3] at a3
  have e4 : cs.drop 4 = ((((cs.drop 1).drop 1).drop 1).drop 1) := by simp only [List.drop_drop]
  rw [e4] at a4
  exact pair_mk 1 a0 (pair_mk 1 a1 (pair_mk 1 a2 (pair_mk 1 a3 (a4))))
set_option maxRecDepth 100000 in
theorem lifted (os : Os) (started : os.Started) (H : Type) (enc : TypeId × Value → H) :
    ReturnsInHanded {} Try.checked os 8 .any (Rows.padExactSpec.pre6 enc Try.prog Try.f8 Rows.padExactRow.domain false) (Rows.padExactSpec.post enc Try.prog Try.f8 false true false false) := by
  refine returnsInHanded_of_change_sized (C := Try.checked) own started (by kernel_rfl) Try.func8
    (ChangeSpec.witness6 (enc := enc) (C := Try.checked) false ⟨#[], #[.slice none 0 0], []⟩ 8 (by kernel_rfl) (by kernel_rfl) (by kernel_rfl) (by kernel_rfl)) ?_
  intro W base args ds gs before hval0 hW hcnd hsz0 _
  clear hsz0
  have hval : ∀ (j : Nat) t v, Try.f8.params[j]? = some t → args[j]? = some v → Value.okWide Try.prog W .any base t v := hval0
  have hW' := hW
  obtain ⟨p, q, hA0, hV, rfl, hfz, hnd⟩ := hW
  have hA : DataW.TrodAll enc Try.prog W 0 (fun _ => true) true Try.f8.params.toList args.toList ds p := hA0
  rw [Try.params8] at hA hval
  obtain ⟨v0, vs0, d0, ds0, p0, q0, hargs, rfl, rfl, h0, r0⟩ := trodAll_cons hA
  obtain ⟨rfl, rfl, rfl⟩ := trodAll_nil r0
  obtain rfl : args = #[v0] := by cases args; simp_all
  obtain ⟨rfl, rfl⟩ := trodVars_none hV
  have kp0 := h0
  have lt0 : ∀ x ∈ p0, x.block < W.heap.size := by obtain ⟨m, hm⟩ := kp0; exact DataW.trod_lt m _ _ _ hm
  obtain ⟨a0, len0, cap0, rfl⟩ := okWide_slice Try.underlying38 (hval 0 38 v0 rfl rfl)
  obtain ⟨fuel0, hf0⟩ := h0
  obtain ⟨x0, hK0, hwf0⟩ := (Opens.slice Try.underlying38 (by kernel_rfl) hand.o41) hf0
  obtain ⟨A0, c0, he0, hl0, hr0⟩ := hK0
  obtain ⟨rfl, rfl, rfl⟩ : a0 = A0 ∧ len0 = x0.length ∧ cap0 = c0 := by simpa [Value.cells] using he0
  clear hA0 hval0
  refine (Go.Proofs.Ytjpaaicgkdnalaa.Pads.exact_law _ _ x0 W hwf0 hr0 hl0).mono fun e W' ⟨he, bel0⟩ => ?_
  have bel : Below W.heap.size W W' := bel0
  subst he
  exact ⟨_, rfl, _, _, _, [], _, [], hW', trodAll_mk1 (shut_bool Try.underlying4 _), (trodAll_cons_mk (Below.trod laidOut (by kernel_rfl) (of_decide_eq_true (by kernel_rfl)) kp0 bel lt0) trodAll_mk0), rfl, bel.frame _, fun h => by cases h⟩
theorem over : Rows.padExactRow.holds Try.pinned (OpenSpec.ofChange Rows.padExactSpec) :=
  OpenClaim.holds_of_wide 8 Try.f8 rfl rfl rfl rfl rfl rfl rfl ⟨rfl, rfl, rfl, rfl, rfl⟩ rfl rfl rfl rfl rfl (by kernel_rfl) Try.func8 (by kernel_rfl)
    (of_decide_eq_true (by kernel_rfl)) (by unfold Func.isWrapper; first | (rw [if_pos (by decide +kernel)]; kernel_rfl) | (rw [if_neg (by decide +kernel)]; exact ⟨rfl, rfl⟩))
    (fun os started H enc _ => lifted os started H enc)
end Go.Proofs.Ytjpaaicgkdnalaa.padExact
namespace Go.Proofs.Ytjpaaicgkdnalaa
/-- The row of the statement. -/
theorem padExact_holds : Rows.PadExactSaid := padExact.over
end Go.Proofs.Ytjpaaicgkdnalaa
