/- The statement RowPicks holds. Conditions: none. -/
import Derived.Test.YtiaiglihndbjeaaZRPp5
import Derived.Test.YtiaiglihndbjeaaRows
import Derived.SizedLaws
section
namespace Go.Proofs.Ytiaiglihndbjeaa.rowPicks
open Go.ChangeShapes Go.WideShapes Go.ChangeAt Go.RowKit Go.Proofs.Ytiaiglihndbjeaa.PAll Go.Proofs.YtiaiglihndbjeaaW.PrintWords Go.Proofs.YtiaiglihndbjeaaW.PrintLast Go.Proofs.Ytiaiglihndbjeaa.Opens Go.Proofs.Ytiaiglihndbjeaa.ZipT Go.Proofs.YtiaiglihndbjeaaW.PrintWords.Kd Go.Proofs.YtiaiglihndbjeaaW.PrintMore.Kd
open Go.ChangeMaps (open_string shut_string)
set_option linter.unusedVariables false
set_option linter.unusedSimpArgs false
theorem own : ownKnob Try.prog.godebug = none := by kernel_rfl
theorem laidOut : laidOutB Try.prog = true := by kernel_rfl
theorem raddlelaw04_RowPicks.o39 : Opens Try.prog 39 k39 raddlelaw04_RowPicks.WF39 := by
 intro H enc w base spare held fuel cs x h
 obtain ⟨xs, n, _, _, hl, hn, hf⟩ := DataW.trod_struct Try.underlying39 h
 have hcl : cs.length = 3 := hl.trans z4_
 obtain ⟨v0, a0, b0⟩ : ∃ v, (Kd.int .i64).K w v ((cs.drop 0).take 1) ∧ (fun x_ => (Lit.int .i64 x_).wf = true) v := by
  have h0 : DataW.trod enc Try.prog w base spare held n 3 ((cs.drop 0).take (Try.prog.cellsOf 3)) = xs[0]? := hf 0 _ rfl
  rw [show Try.prog.cellsOf 3 = 1 by kernel_rfl, List.getElem?_eq_getElem (by rw [hn]; decide)] at h0
  exact (Opens.int Try.underlying3) h0
 obtain ⟨v1, a1, b1⟩ : ∃ v, (Kd.int .i64).K w v ((cs.drop 1).take 1) ∧ (fun x_ => (Lit.int .i64 x_).wf = true) v := by
  have h0 : DataW.trod enc Try.prog w base spare held n 3 ((cs.drop 1).take (Try.prog.cellsOf 3)) = xs[1]? := hf 1 _ rfl
  rw [show Try.prog.cellsOf 3 = 1 by kernel_rfl, List.getElem?_eq_getElem (by rw [hn]; decide)] at h0
  exact (Opens.int Try.underlying3) h0
 obtain ⟨v2, a2, b2⟩ : ∃ v, Kd.string.K w v ((cs.drop 2).take 1) ∧ (fun x_ => x_.size ≤ maxLen) v := by
  have h0 : DataW.trod enc Try.prog w base spare held n 9 ((cs.drop 2).take (Try.prog.cellsOf 9)) = xs[2]? := hf 2 _ rfl
  rw [show Try.prog.cellsOf 9 = 1 by kernel_rfl, List.getElem?_eq_getElem (by rw [hn]; decide)] at h0
  exact (Opens.string Try.underlying9) h0
 rw [List.take_of_length_le (by have h_ := hcl; rw [List.length_drop]; omega)] at a2
 rw [List.drop_zero] at a0
 refine ⟨⟨v0, v1, v2⟩, ?_, b0, b1, b2⟩
 have e1 : cs.drop 1 = (cs.drop 1) := by simp only [List.drop_drop]
 rw [e1] at a1
 have e2 : cs.drop 2 = ((cs.drop 1).drop 1) := by simp only [List.drop_drop]
 rw [e2] at a2
 exact pair_mk 1 a0 (pair_mk 1 a1 (a2))
set_option maxRecDepth 100000 in
theorem lifted (os : Os) (started : os.Started) (H : Type) (enc : TypeId × Value → H) :
  ReturnsInHanded {} Try.checked os 9 .any (Rows.rowPicksSpec.pre6 enc Try.prog Try.f9 Rows.rowPicksRow.domain false) (Rows.rowPicksSpec.post enc Try.prog Try.f9 false true false false) := by
 refine returnsInHanded_of_change_sized (C := Try.checked) own started z4_ Try.func9
  (ChangeSpec.witness6 (enc := enc) (C := Try.checked) false ⟨#[], #[.slice none 0 0, .slice none 0 0, .slice none 0 0, .slice none 0 0], []⟩ 8 z4_ z4_ z4_ z4_) ?_
 intro W base args ds gs before hval0 hW hcnd hsz0 _
 clear hsz0
 have hval : ∀ (j : Nat) t v, Try.f9.params[j]? = some t → args[j]? = some v → Value.okWide Try.prog W .any base t v := hval0
 have hW' := hW
 obtain ⟨p, q, hA0, hV, rfl, hfz, hnd⟩ := hW
 have hA : DataW.TrodAll enc Try.prog W 0 (fun _ => true) true Try.f9.params.toList args.toList ds p := hA0
 rw [Try.params9] at hA hval
 obtain ⟨v0, vs0, d0, ds0, p0, q0, hargs, rfl, rfl, h0, r0⟩ := trodAll_cons hA
 obtain ⟨v1, vs1, d1, ds1, p1, q1, rfl, rfl, rfl, h1, r1⟩ := trodAll_cons r0
 obtain ⟨v2, vs2, d2, ds2, p2, q2, rfl, rfl, rfl, h2, r2⟩ := trodAll_cons r1
 obtain ⟨v3, vs3, d3, ds3, p3, q3, rfl, rfl, rfl, h3, r3⟩ := trodAll_cons r2
 obtain ⟨rfl, rfl, rfl⟩ := trodAll_nil r3
 obtain rfl : args = #[v0, v1, v2, v3] := by cases args; simp_all
 obtain ⟨rfl, rfl⟩ := trodVars_none hV
 have kp0 := h0
 have lt0 : ∀ x ∈ p0, x.block < W.heap.size := by obtain ⟨m, hm⟩ := kp0; exact DataW.trod_lt m _ _ _ hm
 obtain ⟨a0, len0, cap0, rfl⟩ := okWide_slice Try.underlying24 (hval 0 24 v0 rfl rfl)
 obtain ⟨fuel0, hf0⟩ := h0
 obtain ⟨x0, hK0, hwf0⟩ := (Opens.slice Try.underlying24 z4_ raddlelaw04_RowPicks.o39) hf0
 obtain ⟨A0, c0, he0, hl0, hr0⟩ := hK0
 obtain ⟨rfl, rfl, rfl⟩ : a0 = A0 ∧ len0 = x0.length ∧ cap0 = c0 := by simpa [Value.cells] using he0
 have kp1 := h1
 have lt1 : ∀ x ∈ p1, x.block < W.heap.size := by obtain ⟨m, hm⟩ := kp1; exact DataW.trod_lt m _ _ _ hm
 obtain ⟨a1, len1, cap1, rfl⟩ := okWide_slice Try.underlying47 (hval 1 47 v1 rfl rfl)
 obtain ⟨fuel1, hf1⟩ := h1
 obtain ⟨x1, hK1, hwf1⟩ := (Opens.slice Try.underlying47 z4_ (Opens.int Try.underlying3)) hf1
 obtain ⟨A1, c1, he1, hl1, hr1⟩ := hK1
 obtain ⟨rfl, rfl, rfl⟩ : a1 = A1 ∧ len1 = x1.length ∧ cap1 = c1 := by simpa [Value.cells] using he1
 have kp2 := h2
 have lt2 : ∀ x ∈ p2, x.block < W.heap.size := by obtain ⟨m, hm⟩ := kp2; exact DataW.trod_lt m _ _ _ hm
 obtain ⟨a2, len2, cap2, rfl⟩ := okWide_slice Try.underlying47 (hval 2 47 v2 rfl rfl)
 obtain ⟨fuel2, hf2⟩ := h2
 obtain ⟨x2, hK2, hwf2⟩ := (Opens.slice Try.underlying47 z4_ (Opens.int Try.underlying3)) hf2
 obtain ⟨A2, c2, he2, hl2, hr2⟩ := hK2
 obtain ⟨rfl, rfl, rfl⟩ : a2 = A2 ∧ len2 = x2.length ∧ cap2 = c2 := by simpa [Value.cells] using he2
 have kp3 := h3
 have lt3 : ∀ x ∈ p3, x.block < W.heap.size := by obtain ⟨m, hm⟩ := kp3; exact DataW.trod_lt m _ _ _ hm
 obtain ⟨a3, len3, cap3, rfl⟩ := okWide_slice Try.underlying47 (hval 3 47 v3 rfl rfl)
 obtain ⟨fuel3, hf3⟩ := h3
 obtain ⟨x3, hK3, hwf3⟩ := (Opens.slice Try.underlying47 z4_ (Opens.int Try.underlying3)) hf3
 obtain ⟨A3, c3, he3, hl3, hr3⟩ := hK3
 obtain ⟨rfl, rfl, rfl⟩ : a3 = A3 ∧ len3 = x3.length ∧ cap3 = c3 := by simpa [Value.cells] using he3
 clear hA0 hval0
 obtain ⟨k, hP⟩ := Go.Proofs.Ytiaiglihndbjeaa.Pure.RowPicks x0 x1 x2 x3 hwf0 hwf1 hwf2 hwf3
 refine (raddlelaw04_RowPicks.calls k _ _ x0 _ _ x1 _ _ x2 _ _ x3 true W hr0 hl0 hr1 hl1 hr2 hl2 hr3 hl3 rfl hP).mono fun e W' ⟨he, bel0⟩ => ?_
 have bel : Below W.heap.size W W' := bel0
 subst he
 exact ⟨_, rfl, _, _, _, [], _, [], hW', trodAll_mk1 (shut_bool Try.underlying4 _), (trodAll_cons_mk (Below.trod laidOut z4_ (of_decide_eq_true z4_) kp0 bel lt0) (trodAll_cons_mk (Below.trod laidOut z4_ (of_decide_eq_true z4_) kp1 bel lt1) (trodAll_cons_mk (Below.trod laidOut z4_ (of_decide_eq_true z4_) kp2 bel lt2) (trodAll_cons_mk (Below.trod laidOut z4_ (of_decide_eq_true z4_) kp3 bel lt3) trodAll_mk0)))), rfl, bel.frame _, fun h => by cases h⟩
theorem over : Rows.rowPicksRow.holds Try.pinned (OpenSpec.ofChange Rows.rowPicksSpec) :=
 OpenClaim.holds_of_wide 9 Try.f9 rfl rfl rfl rfl rfl rfl rfl ⟨rfl, rfl, rfl, rfl, rfl⟩ rfl rfl rfl rfl rfl z4_ Try.func9 z4_
  (of_decide_eq_true z4_) (by unfold Func.isWrapper; first | (rw [if_pos (by decide +kernel)]; kernel_rfl) | (rw [if_neg (by decide +kernel)]; exact ⟨rfl, rfl⟩))
  (fun os started H enc _ => lifted os started H enc)
end Go.Proofs.Ytiaiglihndbjeaa.rowPicks
namespace Go.Proofs.Ytiaiglihndbjeaa
theorem rowPicks_holds : Rows.RowPicksSaid := rowPicks.over
end Go.Proofs.Ytiaiglihndbjeaa
end
