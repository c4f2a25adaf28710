/- The statement LogJunk holds. Conditions: none. -/
import Derived.Test.YtcbfliajgopdaaaZLJp10
import Derived.Test.YtcbfliajgopdaaaRows
import Derived.SizedLaws
section
namespace Go.Proofs.Ytcbfliajgopdaaa.logJunk
open Go.ChangeShapes Go.WideShapes Go.ChangeAt Go.RowKit Go.Proofs.Ytcbfliajgopdaaa.PAll Go.Proofs.YtcbfliajgopdaaaW.PrintWords Go.Proofs.YtcbfliajgopdaaaW.PrintLast Go.Proofs.Ytcbfliajgopdaaa.Opens Go.Proofs.Ytcbfliajgopdaaa.ZipT Go.Proofs.YtcbfliajgopdaaaW.PrintWords.Kd Go.Proofs.YtcbfliajgopdaaaW.PrintMore.Kd
open Go.ChangeMaps (open_string shut_string)
set_option linter.unusedVariables false
set_option linter.unusedSimpArgs false
theorem own : ownKnob Try.prog.godebug = none := by kernel_rfl
theorem laidOut : laidOutB Try.prog = true := by kernel_rfl
theorem hand.o50 : Opens Try.prog 50 k50 hand.WF50 := by
 intro H enc w base spare held fuel cs x h
 obtain ⟨xs, n, _, _, hl, hn, hf⟩ := DataW.trod_struct Try.underlying50 h
 have hcl : cs.length = 2 := hl.trans z1_
 obtain ⟨v0, a0, b0⟩ : ∃ v, (Kd.int .i64).K w v ((cs.drop 0).take 1) ∧ (fun x_ => (Lit.int .i64 x_).wf = true) v := by
  have h0 : DataW.trod enc Try.prog w base spare held n 3 ((cs.drop 0).take (Try.prog.cellsOf 3)) = xs[0]? := hf 0 _ rfl
  rw [show Try.prog.cellsOf 3 = 1 by kernel_rfl, List.getElem?_eq_getElem (by rw [hn]; decide)] at h0
  exact (Opens.int Try.underlying3) h0
 obtain ⟨v1, a1, b1⟩ : ∃ v, (Kd.int .i64).K w v ((cs.drop 1).take 1) ∧ (fun x_ => (Lit.int .i64 x_).wf = true) v := by
  have h0 : DataW.trod enc Try.prog w base spare held n 3 ((cs.drop 1).take (Try.prog.cellsOf 3)) = xs[1]? := hf 1 _ rfl
  rw [show Try.prog.cellsOf 3 = 1 by kernel_rfl, List.getElem?_eq_getElem (by rw [hn]; decide)] at h0
  exact (Opens.int Try.underlying3) h0
 rw [List.take_of_length_le (by have h_ := hcl; rw [List.length_drop]; omega)] at a1
 rw [List.drop_zero] at a0
 refine ⟨⟨v0, v1⟩, ?_, b0, b1⟩
 have e1 : cs.drop 1 = (cs.drop 1) := by simp only [List.drop_drop]
 rw [e1] at a1
 exact pair_mk 1 a0 (a1)
theorem hand.o26 : Opens Try.prog 26 k26 hand.WF26 := by
 intro H enc w base spare held fuel cs x h
 obtain ⟨xs, n, _, _, hl, hn, hf⟩ := DataW.trod_struct Try.underlying26 h
 have hcl : cs.length = 3 := hl.trans z1_
 obtain ⟨v0, a0, b0⟩ : ∃ v, (Kd.int .i64).K w v ((cs.drop 0).take 1) ∧ (fun x_ => (Lit.int .i64 x_).wf = true) v := by
  have h0 : DataW.trod enc Try.prog w base spare held n 3 ((cs.drop 0).take (Try.prog.cellsOf 3)) = xs[0]? := hf 0 _ rfl
  rw [show Try.prog.cellsOf 3 = 1 by kernel_rfl, List.getElem?_eq_getElem (by rw [hn]; decide)] at h0
  exact (Opens.int Try.underlying3) h0
 obtain ⟨v1, a1, b1⟩ : ∃ v, (Kd.int .i64).K w v ((cs.drop 1).take 1) ∧ (fun x_ => (Lit.int .i64 x_).wf = true) v := by
  have h0 : DataW.trod enc Try.prog w base spare held n 3 ((cs.drop 1).take (Try.prog.cellsOf 3)) = xs[1]? := hf 1 _ rfl
  rw [show Try.prog.cellsOf 3 = 1 by kernel_rfl, List.getElem?_eq_getElem (by rw [hn]; decide)] at h0
  exact (Opens.int Try.underlying3) h0
 obtain ⟨v2, a2, b2⟩ : ∃ v, (Kd.int .i64).K w v ((cs.drop 2).take 1) ∧ (fun x_ => (Lit.int .i64 x_).wf = true) v := by
  have h0 : DataW.trod enc Try.prog w base spare held n 3 ((cs.drop 2).take (Try.prog.cellsOf 3)) = xs[2]? := hf 2 _ rfl
  rw [show Try.prog.cellsOf 3 = 1 by kernel_rfl, List.getElem?_eq_getElem (by rw [hn]; decide)] at h0
  exact (Opens.int Try.underlying3) h0
 rw [List.take_of_length_le (by have h_ := hcl; rw [List.length_drop]; omega)] at a2
 rw [List.drop_zero] at a0
 refine ⟨⟨v0, v1, v2⟩, ?_, b0, b1, b2⟩
 have e1 : cs.drop 1 = (cs.drop 1) := by simp only [List.drop_drop]
 rw [e1] at a1
 have e2 : cs.drop 2 = ((cs.drop 1).drop 1) := by simp only [List.drop_drop]
 rw [e2] at a2
 exact pair_mk 1 a0 (pair_mk 1 a1 (a2))
theorem hand.o89 : Opens Try.prog 89 k89 hand.WF89 := by
 intro H enc w base spare held fuel cs x h
 obtain ⟨xs, n, _, _, hl, hn, hf⟩ := DataW.trod_struct Try.underlying89 h
 have hcl : cs.length = 3 := hl.trans z1_
 obtain ⟨v0, a0, b0⟩ : ∃ v, (Kd.int .i64).K w v ((cs.drop 0).take 1) ∧ (fun x_ => (Lit.int .i64 x_).wf = true) v := by
  have h0 : DataW.trod enc Try.prog w base spare held n 3 ((cs.drop 0).take (Try.prog.cellsOf 3)) = xs[0]? := hf 0 _ rfl
  rw [show Try.prog.cellsOf 3 = 1 by kernel_rfl, List.getElem?_eq_getElem (by rw [hn]; decide)] at h0
  exact (Opens.int Try.underlying3) h0
 obtain ⟨v1, a1, b1⟩ : ∃ v, (Kd.int .i64).K w v ((cs.drop 1).take 1) ∧ (fun x_ => (Lit.int .i64 x_).wf = true) v := by
  have h0 : DataW.trod enc Try.prog w base spare held n 3 ((cs.drop 1).take (Try.prog.cellsOf 3)) = xs[1]? := hf 1 _ rfl
  rw [show Try.prog.cellsOf 3 = 1 by kernel_rfl, List.getElem?_eq_getElem (by rw [hn]; decide)] at h0
  exact (Opens.int Try.underlying3) h0
 obtain ⟨v2, a2, b2⟩ : ∃ v, Kd.string.K w v ((cs.drop 2).take 1) ∧ (fun x_ => x_.size ≤ maxLen) v := by
  have h0 : DataW.trod enc Try.prog w base spare held n 9 ((cs.drop 2).take (Try.prog.cellsOf 9)) = xs[2]? := hf 2 _ rfl
  rw [show Try.prog.cellsOf 9 = 1 by kernel_rfl, List.getElem?_eq_getElem (by rw [hn]; decide)] at h0
  exact (Opens.string Try.underlying9) h0
 rw [List.take_of_length_le (by have h_ := hcl; rw [List.length_drop]; omega)] at a2
 rw [List.drop_zero] at a0
 refine ⟨⟨v0, v1, v2⟩, ?_, b0, b1, b2⟩
 have e1 : cs.drop 1 = (cs.drop 1) := by simp only [List.drop_drop]
 rw [e1] at a1
 have e2 : cs.drop 2 = ((cs.drop 1).drop 1) := by simp only [List.drop_drop]
 rw [e2] at a2
 exact pair_mk 1 a0 (pair_mk 1 a1 (a2))
theorem hand.o54 : Opens Try.prog 54 k54 hand.WF54 := by
 intro H enc w base spare held fuel cs x h
 obtain ⟨xs, n, _, _, hl, hn, hf⟩ := DataW.trod_struct Try.underlying54 h
 have hcl : cs.length = 12 := hl.trans z1_
 obtain ⟨v0, a0, b0⟩ : ∃ v, k50.K w v ((cs.drop 0).take 2) ∧ hand.WF50 v := by
  have h0 : DataW.trod enc Try.prog w base spare held n 50 ((cs.drop 0).take (Try.prog.cellsOf 50)) = xs[0]? := hf 0 _ rfl
  rw [show Try.prog.cellsOf 50 = 2 by kernel_rfl, List.getElem?_eq_getElem (by rw [hn]; decide)] at h0
  exact hand.o50 h0
 obtain ⟨v1, a1, b1⟩ : ∃ v, (Kd.slice 3 (Kd.int .i64)).K w v ((cs.drop 2).take 1) ∧ (fun x_ => (x_.length ≤ maxLen ∧ ∀ x0_ ∈ x_, (Lit.int .i64 x0_).wf = true)) v := by
  have h0 : DataW.trod enc Try.prog w base spare held n 24 ((cs.drop 2).take (Try.prog.cellsOf 24)) = xs[1]? := hf 1 _ rfl
  rw [show Try.prog.cellsOf 24 = 1 by kernel_rfl, List.getElem?_eq_getElem (by rw [hn]; decide)] at h0
  exact (Opens.slice Try.underlying24 z1_ (Opens.int Try.underlying3)) h0
 obtain ⟨v2, a2, b2⟩ : ∃ v, k26.K w v ((cs.drop 3).take 3) ∧ hand.WF26 v := by
  have h0 : DataW.trod enc Try.prog w base spare held n 26 ((cs.drop 3).take (Try.prog.cellsOf 26)) = xs[2]? := hf 2 _ rfl
  rw [show Try.prog.cellsOf 26 = 3 by kernel_rfl, List.getElem?_eq_getElem (by rw [hn]; decide)] at h0
  exact hand.o26 h0
 obtain ⟨v3, a3, b3⟩ : ∃ v, (Kd.int .i64).K w v ((cs.drop 6).take 1) ∧ (fun x_ => (Lit.int .i64 x_).wf = true) v := by
  have h0 : DataW.trod enc Try.prog w base spare held n 3 ((cs.drop 6).take (Try.prog.cellsOf 3)) = xs[3]? := hf 3 _ rfl
  rw [show Try.prog.cellsOf 3 = 1 by kernel_rfl, List.getElem?_eq_getElem (by rw [hn]; decide)] at h0
  exact (Opens.int Try.underlying3) h0
 obtain ⟨v4, a4, b4⟩ : ∃ v, (Kd.int .i64).K w v ((cs.drop 7).take 1) ∧ (fun x_ => (Lit.int .i64 x_).wf = true) v := by
  have h0 : DataW.trod enc Try.prog w base spare held n 3 ((cs.drop 7).take (Try.prog.cellsOf 3)) = xs[4]? := hf 4 _ rfl
  rw [show Try.prog.cellsOf 3 = 1 by kernel_rfl, List.getElem?_eq_getElem (by rw [hn]; decide)] at h0
  exact (Opens.int Try.underlying3) h0
 obtain ⟨v5, a5, b5⟩ : ∃ v, Kd.string.K w v ((cs.drop 8).take 1) ∧ (fun x_ => x_.size ≤ maxLen) v := by
  have h0 : DataW.trod enc Try.prog w base spare held n 9 ((cs.drop 8).take (Try.prog.cellsOf 9)) = xs[5]? := hf 5 _ rfl
  rw [show Try.prog.cellsOf 9 = 1 by kernel_rfl, List.getElem?_eq_getElem (by rw [hn]; decide)] at h0
  exact (Opens.string Try.underlying9) h0
 obtain ⟨v6, a6, b6⟩ : ∃ v, (Kd.int .i64).K w v ((cs.drop 9).take 1) ∧ (fun x_ => (Lit.int .i64 x_).wf = true) v := by
  have h0 : DataW.trod enc Try.prog w base spare held n 3 ((cs.drop 9).take (Try.prog.cellsOf 3)) = xs[6]? := hf 6 _ rfl
  rw [show Try.prog.cellsOf 3 = 1 by kernel_rfl, List.getElem?_eq_getElem (by rw [hn]; decide)] at h0
  exact (Opens.int Try.underlying3) h0
 obtain ⟨v7, a7, b7⟩ : ∃ v, (Kd.slice 89 k89).K w v ((cs.drop 10).take 1) ∧ (fun x_ => (x_.length ≤ maxLen ∧ ∀ x0_ ∈ x_, hand.WF89 x0_)) v := by
  have h0 : DataW.trod enc Try.prog w base spare held n 51 ((cs.drop 10).take (Try.prog.cellsOf 51)) = xs[7]? := hf 7 _ rfl
  rw [show Try.prog.cellsOf 51 = 1 by kernel_rfl, List.getElem?_eq_getElem (by rw [hn]; decide)] at h0
  exact (Opens.slice Try.underlying51 z1_ hand.o89) h0
 obtain ⟨v8, a8, b8⟩ : ∃ v, (Kd.slice 50 k50).K w v ((cs.drop 11).take 1) ∧ (fun x_ => (x_.length ≤ maxLen ∧ ∀ x0_ ∈ x_, hand.WF50 x0_)) v := by
  have h0 : DataW.trod enc Try.prog w base spare held n 52 ((cs.drop 11).take (Try.prog.cellsOf 52)) = xs[8]? := hf 8 _ rfl
  rw [show Try.prog.cellsOf 52 = 1 by kernel_rfl, List.getElem?_eq_getElem (by rw [hn]; decide)] at h0
  exact (Opens.slice Try.underlying52 z1_ hand.o50) h0
 rw [List.take_of_length_le (by have h_ := hcl; rw [List.length_drop]; omega)] at a8
 rw [List.drop_zero] at a0
 refine ⟨⟨v0, v1, v2, v3, v4, v5, v6, v7, v8⟩, ?_, b0, b1, b2, b3, b4, b5, b6, b7, b8⟩
 have e1 : cs.drop 2 = (cs.drop 2) := by simp only [List.drop_drop]
 rw [e1] at a1
 have e2 : cs.drop 3 = ((cs.drop 2).drop 1) := by simp only [List.drop_drop]
 rw [e2] at a2
 have e3 : cs.drop 6 = (((cs.drop 2).drop 1).drop 3) := by simp only [List.drop_drop]
 rw [e3] at a3
 have e4 : cs.drop 7 = ((((cs.drop 2).drop 1).drop 3).drop 1) := by simp only [List.drop_drop]
 rw [e4] at a4
 have e5 : cs.drop 8 = (((((cs.drop 2).drop 1).drop 3).drop 1).drop 1) := by simp only [List.drop_drop]
 rw [e5] at a5
 have e6 : cs.drop 9 = ((((((cs.drop 2).drop 1).drop 3).drop 1).drop 1).drop 1) := by simp only [List.drop_drop]
 rw [e6] at a6
 have e7 : cs.drop 10 = (((((((cs.drop 2).drop 1).drop 3).drop 1).drop 1).drop 1).drop 1) := by simp only [List.drop_drop]
 rw [e7] at a7
 have e8 : cs.drop 11 = ((((((((cs.drop 2).drop 1).drop 3).drop 1).drop 1).drop 1).drop 1).drop 1) := by simp only [List.drop_drop]
 rw [e8] at a8
 exact pair_mk 2 a0 (pair_mk 1 a1 (pair_mk 3 a2 (pair_mk 1 a3 (pair_mk 1 a4 (pair_mk 1 a5 (pair_mk 1 a6 (pair_mk 1 a7 (a8))))))))
set_option maxRecDepth 100000 in
theorem lifted (os : Os) (started : os.Started) (H : Type) (enc : TypeId × Value → H) :
  ReturnsInHanded {} Try.checked os 4 .any (Rows.logJunkSpec.pre6 enc Try.prog Try.f4 Rows.logJunkRow.domain false) (Rows.logJunkSpec.post enc Try.prog Try.f4 false true false false) := by
 refine returnsInHanded_of_change_sized (C := Try.checked) own started z1_ Try.func4
  (ChangeSpec.witness6 (enc := enc) (C := Try.checked) false ⟨#[], #[.slice none 0 0, .int .i64 0, .slice none 0 0], []⟩ 8 z1_ z1_ z1_ z1_) ?_
 intro W base args ds gs before hval0 hW hcnd hsz0 _
 clear hsz0
 have hval : ∀ (j : Nat) t v, Try.f4.params[j]? = some t → args[j]? = some v → Value.okWide Try.prog W .any base t v := hval0
 have hW' := hW
 obtain ⟨p, q, hA0, hV, rfl, hfz, hnd⟩ := hW
 have hA : DataW.TrodAll enc Try.prog W 0 (fun _ => true) true Try.f4.params.toList args.toList ds p := hA0
 rw [Try.params4] at hA hval
 obtain ⟨v0, vs0, d0, ds0, p0, q0, hargs, rfl, rfl, h0, r0⟩ := trodAll_cons hA
 obtain ⟨v1, vs1, d1, ds1, p1, q1, rfl, rfl, rfl, h1, r1⟩ := trodAll_cons r0
 obtain ⟨v2, vs2, d2, ds2, p2, q2, rfl, rfl, rfl, h2, r2⟩ := trodAll_cons r1
 obtain ⟨rfl, rfl, rfl⟩ := trodAll_nil r2
 obtain rfl : args = #[v0, v1, v2] := by cases args; simp_all
 obtain ⟨rfl, rfl⟩ := trodVars_none hV
 have kp0 := h0
 have lt0 : ∀ x ∈ p0, x.block < W.heap.size := by obtain ⟨m, hm⟩ := kp0; exact DataW.trod_lt m _ _ _ hm
 obtain ⟨a0, len0, cap0, rfl⟩ := okWide_slice Try.underlying29 (hval 0 29 v0 rfl rfl)
 obtain ⟨fuel0, hf0⟩ := h0
 obtain ⟨x0, hK0, hwf0⟩ := (Opens.slice Try.underlying29 z1_ hand.o54) hf0
 obtain ⟨A0, c0, he0, hl0, hr0⟩ := hK0
 obtain ⟨rfl, rfl, rfl⟩ : a0 = A0 ∧ len0 = x0.length ∧ cap0 = c0 := by simpa [Value.cells] using he0
 obtain ⟨x1, rfl, rfl, rfl, hwf1⟩ := open_int Try.underlying3 (hval 1 3 v1 rfl rfl) h1
 have kp2 := h2
 have lt2 : ∀ x ∈ p2, x.block < W.heap.size := by obtain ⟨m, hm⟩ := kp2; exact DataW.trod_lt m _ _ _ hm
 obtain ⟨a2, len2, cap2, rfl⟩ := okWide_slice Try.underlying22 (hval 2 22 v2 rfl rfl)
 obtain ⟨fuel2, hf2⟩ := h2
 obtain ⟨x2, hK2, hwf2⟩ := (Opens.slice Try.underlying22 z1_ (Opens.int Try.underlying5)) hf2
 obtain ⟨A2, c2, he2, hl2, hr2⟩ := hK2
 obtain ⟨rfl, rfl, rfl⟩ : a2 = A2 ∧ len2 = x2.length ∧ cap2 = c2 := by simpa [Value.cells] using he2
 clear hA0 hval0
 refine (Go.Proofs.Ytcbfliajgopdaaa.Logs.junk_law _ _ x0 x1 _ _ x2 W hwf0 hwf1 hwf2 hr0 hl0 hr2 hl2).mono fun e W' ⟨he, bel0⟩ => ?_
 have bel : Below W.heap.size W W' := bel0
 subst he
 exact ⟨_, rfl, _, _, _, [], _, [], hW', trodAll_mk1 (shut_bool Try.underlying4 _), (trodAll_cons_mk (Below.trod laidOut z1_ (of_decide_eq_true z1_) kp0 bel lt0) (trodAll_cons_mk (shut_int Try.underlying3 hwf1) (trodAll_cons_mk (Below.trod laidOut z1_ (of_decide_eq_true z1_) kp2 bel lt2) trodAll_mk0))), rfl, bel.frame _, fun h => by cases h⟩
theorem over : Rows.logJunkRow.holds Try.pinned (OpenSpec.ofChange Rows.logJunkSpec) :=
 OpenClaim.holds_of_wide 4 Try.f4 rfl rfl rfl rfl rfl rfl rfl ⟨rfl, rfl, rfl, rfl, rfl⟩ rfl rfl rfl rfl rfl z1_ Try.func4 z1_
  (of_decide_eq_true z1_) (by unfold Func.isWrapper; first | (rw [if_pos (by decide +kernel)]; kernel_rfl) | (rw [if_neg (by decide +kernel)]; exact ⟨rfl, rfl⟩))
  (fun os started H enc _ => lifted os started H enc)
end Go.Proofs.Ytcbfliajgopdaaa.logJunk
namespace Go.Proofs.Ytcbfliajgopdaaa
theorem logJunk_holds : Rows.LogJunkSaid := logJunk.over
end Go.Proofs.Ytcbfliajgopdaaa
end
