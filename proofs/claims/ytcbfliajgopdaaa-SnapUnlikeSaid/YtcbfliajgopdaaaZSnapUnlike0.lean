/- The statement SnapUnlike holds. Conditions: none. -/
import Derived.Test.YtcbfliajgopdaaaZSUp10
import Derived.Test.YtcbfliajgopdaaaRows
set_option maxHeartbeats 8000000
set_option maxRecDepth 100000
open Go.Proofs.YtcbfliajgopdaaaW Go.Proofs.Ytcbfliajgopdaaa
section
namespace Go.Proofs.Ytcbfliajgopdaaa.snapUnlike
open Go.ChangeShapes Go.WideShapes Go.ChangeAt Go.RowKit PAll PrintWords PrintLast Opens ZipT PrintWords.Kd PrintMore.Kd
open Go.ChangeMaps (open_string shut_string)
set_option linter.unusedVariables false
set_option linter.unusedSimpArgs false
theorem own : ownKnob Try.prog.godebug = none := by kernel_rfl
theorem laidOut : laidOutB Try.prog = true := by kernel_rfl
theorem aA.o26 : OpensW Try.prog 26 k26 aA.WF26 := by
 intro H enc w base spare held fuel cs x h hz
 obtain ⟨xs, n, _, rfl, hl, hn, hf⟩ := DataW.trod_struct Try.underlying26 h
 have hcl : cs.length = 3 := hl.trans z1_
 obtain ⟨v0, a0, b0⟩ : ∃ v, (Kd.int .i64).K w v ((cs.drop 0).take 1) ∧ (fun x_ => (Lit.int .i64 x_).wf = true) v := by
  have h0 : DataW.trod enc Try.prog w base spare held n 3 ((cs.drop 0).take (Try.prog.cellsOf 3)) = xs[0]? := hf 0 _ rfl
  rw [show Try.prog.cellsOf 3 = 1 by kernel_rfl, List.getElem?_eq_getElem (by rw [hn]; decide)] at h0
  exact (Opens.sized (Opens.int Try.underlying3)) h0 (dI (j := 0) Try.underlying26 hz rfl (by rw [List.getElem?_map, List.getElem?_eq_getElem (by rw [hn]; decide)]; rfl))
 obtain ⟨v1, a1, b1⟩ : ∃ v, (Kd.int .i64).K w v ((cs.drop 1).take 1) ∧ (fun x_ => (Lit.int .i64 x_).wf = true) v := by
  have h0 : DataW.trod enc Try.prog w base spare held n 3 ((cs.drop 1).take (Try.prog.cellsOf 3)) = xs[1]? := hf 1 _ rfl
  rw [show Try.prog.cellsOf 3 = 1 by kernel_rfl, List.getElem?_eq_getElem (by rw [hn]; decide)] at h0
  exact (Opens.sized (Opens.int Try.underlying3)) h0 (dI (j := 1) Try.underlying26 hz rfl (by rw [List.getElem?_map, List.getElem?_eq_getElem (by rw [hn]; decide)]; rfl))
 obtain ⟨v2, a2, b2⟩ : ∃ v, (Kd.int .i64).K w v ((cs.drop 2).take 1) ∧ (fun x_ => (Lit.int .i64 x_).wf = true) v := by
  have h0 : DataW.trod enc Try.prog w base spare held n 3 ((cs.drop 2).take (Try.prog.cellsOf 3)) = xs[2]? := hf 2 _ rfl
  rw [show Try.prog.cellsOf 3 = 1 by kernel_rfl, List.getElem?_eq_getElem (by rw [hn]; decide)] at h0
  exact (Opens.sized (Opens.int Try.underlying3)) h0 (dI (j := 2) Try.underlying26 hz rfl (by rw [List.getElem?_map, List.getElem?_eq_getElem (by rw [hn]; decide)]; rfl))
 rw [List.take_of_length_le (by have h_ := hcl; rw [List.length_drop]; omega)] at a2
 rw [List.drop_zero] at a0
 refine ⟨⟨v0, v1, v2⟩, ?_, b0, b1, b2⟩
 have e1 : cs.drop 1 = (cs.drop 1) := by simp only [List.drop_drop]
 rw [e1] at a1
 have e2 : cs.drop 2 = ((cs.drop 1).drop 1) := by simp only [List.drop_drop]
 rw [e2] at a2
 exact dZ 1 a0 (dZ 1 a1 (a2))
theorem aA.o50 : OpensW Try.prog 50 k50 aA.WF50 := by
 intro H enc w base spare held fuel cs x h hz
 obtain ⟨xs, n, _, rfl, hl, hn, hf⟩ := DataW.trod_struct Try.underlying50 h
 have hcl : cs.length = 2 := hl.trans z1_
 obtain ⟨v0, a0, b0⟩ : ∃ v, (Kd.int .i64).K w v ((cs.drop 0).take 1) ∧ (fun x_ => (Lit.int .i64 x_).wf = true) v := by
  have h0 : DataW.trod enc Try.prog w base spare held n 3 ((cs.drop 0).take (Try.prog.cellsOf 3)) = xs[0]? := hf 0 _ rfl
  rw [show Try.prog.cellsOf 3 = 1 by kernel_rfl, List.getElem?_eq_getElem (by rw [hn]; decide)] at h0
  exact (Opens.sized (Opens.int Try.underlying3)) h0 (dI (j := 0) Try.underlying50 hz rfl (by rw [List.getElem?_map, List.getElem?_eq_getElem (by rw [hn]; decide)]; rfl))
 obtain ⟨v1, a1, b1⟩ : ∃ v, (Kd.int .i64).K w v ((cs.drop 1).take 1) ∧ (fun x_ => (Lit.int .i64 x_).wf = true) v := by
  have h0 : DataW.trod enc Try.prog w base spare held n 3 ((cs.drop 1).take (Try.prog.cellsOf 3)) = xs[1]? := hf 1 _ rfl
  rw [show Try.prog.cellsOf 3 = 1 by kernel_rfl, List.getElem?_eq_getElem (by rw [hn]; decide)] at h0
  exact (Opens.sized (Opens.int Try.underlying3)) h0 (dI (j := 1) Try.underlying50 hz rfl (by rw [List.getElem?_map, List.getElem?_eq_getElem (by rw [hn]; decide)]; rfl))
 rw [List.take_of_length_le (by have h_ := hcl; rw [List.length_drop]; omega)] at a1
 rw [List.drop_zero] at a0
 refine ⟨⟨v0, v1⟩, ?_, b0, b1⟩
 have e1 : cs.drop 1 = (cs.drop 1) := by simp only [List.drop_drop]
 rw [e1] at a1
 exact dZ 1 a0 (a1)
theorem aA.o89 : OpensW Try.prog 89 k89 aA.WF89 := by
 intro H enc w base spare held fuel cs x h hz
 obtain ⟨xs, n, _, rfl, hl, hn, hf⟩ := DataW.trod_struct Try.underlying89 h
 have hcl : cs.length = 3 := hl.trans z1_
 obtain ⟨v0, a0, b0⟩ : ∃ v, (Kd.int .i64).K w v ((cs.drop 0).take 1) ∧ (fun x_ => (Lit.int .i64 x_).wf = true) v := by
  have h0 : DataW.trod enc Try.prog w base spare held n 3 ((cs.drop 0).take (Try.prog.cellsOf 3)) = xs[0]? := hf 0 _ rfl
  rw [show Try.prog.cellsOf 3 = 1 by kernel_rfl, List.getElem?_eq_getElem (by rw [hn]; decide)] at h0
  exact (Opens.sized (Opens.int Try.underlying3)) h0 (dI (j := 0) Try.underlying89 hz rfl (by rw [List.getElem?_map, List.getElem?_eq_getElem (by rw [hn]; decide)]; rfl))
 obtain ⟨v1, a1, b1⟩ : ∃ v, (Kd.int .i64).K w v ((cs.drop 1).take 1) ∧ (fun x_ => (Lit.int .i64 x_).wf = true) v := by
  have h0 : DataW.trod enc Try.prog w base spare held n 3 ((cs.drop 1).take (Try.prog.cellsOf 3)) = xs[1]? := hf 1 _ rfl
  rw [show Try.prog.cellsOf 3 = 1 by kernel_rfl, List.getElem?_eq_getElem (by rw [hn]; decide)] at h0
  exact (Opens.sized (Opens.int Try.underlying3)) h0 (dI (j := 1) Try.underlying89 hz rfl (by rw [List.getElem?_map, List.getElem?_eq_getElem (by rw [hn]; decide)]; rfl))
 obtain ⟨v2, a2, b2⟩ : ∃ v, Kd.string.K w v ((cs.drop 2).take 1) ∧ (fun x_ => x_.size ≤ maxLen) v := by
  have h0 : DataW.trod enc Try.prog w base spare held n 9 ((cs.drop 2).take (Try.prog.cellsOf 9)) = xs[2]? := hf 2 _ rfl
  rw [show Try.prog.cellsOf 9 = 1 by kernel_rfl, List.getElem?_eq_getElem (by rw [hn]; decide)] at h0
  exact (Opens.sized (Opens.string Try.underlying9)) h0 (dI (j := 2) Try.underlying89 hz rfl (by rw [List.getElem?_map, List.getElem?_eq_getElem (by rw [hn]; decide)]; rfl))
 rw [List.take_of_length_le (by have h_ := hcl; rw [List.length_drop]; omega)] at a2
 rw [List.drop_zero] at a0
 refine ⟨⟨v0, v1, v2⟩, ?_, b0, b1, b2⟩
 have e1 : cs.drop 1 = (cs.drop 1) := by simp only [List.drop_drop]
 rw [e1] at a1
 have e2 : cs.drop 2 = ((cs.drop 1).drop 1) := by simp only [List.drop_drop]
 rw [e2] at a2
 exact dZ 1 a0 (dZ 1 a1 (a2))
theorem aA.o91 : OpensW Try.prog 91 k91 aA.WF91 := by
 intro H enc w base spare held fuel cs x h hz
 obtain ⟨xs, n, _, rfl, hl, hn, hf⟩ := DataW.trod_struct Try.underlying91 h
 have hcl : cs.length = 8 := hl.trans z1_
 obtain ⟨v0, a0, b0⟩ : ∃ v, k89.K w v ((cs.drop 0).take 3) ∧ aA.WF89 v := by
  have h0 : DataW.trod enc Try.prog w base spare held n 89 ((cs.drop 0).take (Try.prog.cellsOf 89)) = xs[0]? := hf 0 _ rfl
  rw [show Try.prog.cellsOf 89 = 3 by kernel_rfl, List.getElem?_eq_getElem (by rw [hn]; decide)] at h0
  exact aA.o89 h0 (dI (j := 0) Try.underlying91 hz rfl (by rw [List.getElem?_map, List.getElem?_eq_getElem (by rw [hn]; decide)]; rfl))
 obtain ⟨v1, a1, b1⟩ : ∃ v, k26.K w v ((cs.drop 3).take 3) ∧ aA.WF26 v := by
  have h0 : DataW.trod enc Try.prog w base spare held n 26 ((cs.drop 3).take (Try.prog.cellsOf 26)) = xs[1]? := hf 1 _ rfl
  rw [show Try.prog.cellsOf 26 = 3 by kernel_rfl, List.getElem?_eq_getElem (by rw [hn]; decide)] at h0
  exact aA.o26 h0 (dI (j := 1) Try.underlying91 hz rfl (by rw [List.getElem?_map, List.getElem?_eq_getElem (by rw [hn]; decide)]; rfl))
 obtain ⟨v2, a2, b2⟩ : ∃ v, k50.K w v ((cs.drop 6).take 2) ∧ aA.WF50 v := by
  have h0 : DataW.trod enc Try.prog w base spare held n 50 ((cs.drop 6).take (Try.prog.cellsOf 50)) = xs[2]? := hf 2 _ rfl
  rw [show Try.prog.cellsOf 50 = 2 by kernel_rfl, List.getElem?_eq_getElem (by rw [hn]; decide)] at h0
  exact aA.o50 h0 (dI (j := 2) Try.underlying91 hz rfl (by rw [List.getElem?_map, List.getElem?_eq_getElem (by rw [hn]; decide)]; rfl))
 rw [List.take_of_length_le (by have h_ := hcl; rw [List.length_drop]; omega)] at a2
 rw [List.drop_zero] at a0
 refine ⟨⟨v0, v1, v2⟩, ?_, b0, b1, b2⟩
 have e1 : cs.drop 3 = (cs.drop 3) := by simp only [List.drop_drop]
 rw [e1] at a1
 have e2 : cs.drop 6 = ((cs.drop 3).drop 3) := by simp only [List.drop_drop]
 rw [e2] at a2
 exact dZ 3 a0 (dZ 3 a1 (a2))
theorem aA.o80 : OpensW Try.prog 80 k80 aA.WF80 := by
 intro H enc w base spare held fuel cs x h hz
 obtain ⟨xs, n, _, rfl, hl, hn, hf⟩ := DataW.trod_struct Try.underlying80 h
 have hcl : cs.length = 3 := hl.trans z1_
 obtain ⟨v0, a0, b0⟩ : ∃ v, Kd.string.K w v ((cs.drop 0).take 1) ∧ (fun x_ => x_.size ≤ maxLen) v := by
  have h0 : DataW.trod enc Try.prog w base spare held n 9 ((cs.drop 0).take (Try.prog.cellsOf 9)) = xs[0]? := hf 0 _ rfl
  rw [show Try.prog.cellsOf 9 = 1 by kernel_rfl, List.getElem?_eq_getElem (by rw [hn]; decide)] at h0
  exact (Opens.sized (Opens.string Try.underlying9)) h0 (dI (j := 0) Try.underlying80 hz rfl (by rw [List.getElem?_map, List.getElem?_eq_getElem (by rw [hn]; decide)]; rfl))
 obtain ⟨v1, a1, b1⟩ : ∃ v, (Kd.slice 50 k50).K w v ((cs.drop 1).take 1) ∧ (fun x_ => (x_.length * 16 ≤ 140737488351232 ∧ ∀ x0_ ∈ x_, aA.WF50 x0_)) v := by
  have h0 : DataW.trod enc Try.prog w base spare held n 52 ((cs.drop 1).take (Try.prog.cellsOf 52)) = xs[1]? := hf 1 _ rfl
  rw [show Try.prog.cellsOf 52 = 1 by kernel_rfl, List.getElem?_eq_getElem (by rw [hn]; decide)] at h0
  exact (OpensW.slice 16 Try.underlying52 z1_ (of_decide_eq_true z1_) aA.o50) h0 (dI (j := 1) Try.underlying80 hz rfl (by rw [List.getElem?_map, List.getElem?_eq_getElem (by rw [hn]; decide)]; rfl))
 obtain ⟨v2, a2, b2⟩ : ∃ v, (Kd.slice 91 k91).K w v ((cs.drop 2).take 1) ∧ (fun x_ => (x_.length * 64 ≤ 140737488351232 ∧ ∀ x0_ ∈ x_, aA.WF91 x0_)) v := by
  have h0 : DataW.trod enc Try.prog w base spare held n 78 ((cs.drop 2).take (Try.prog.cellsOf 78)) = xs[2]? := hf 2 _ rfl
  rw [show Try.prog.cellsOf 78 = 1 by kernel_rfl, List.getElem?_eq_getElem (by rw [hn]; decide)] at h0
  exact (OpensW.slice 64 Try.underlying78 z1_ (of_decide_eq_true z1_) aA.o91) h0 (dI (j := 2) Try.underlying80 hz rfl (by rw [List.getElem?_map, List.getElem?_eq_getElem (by rw [hn]; decide)]; rfl))
 rw [List.take_of_length_le (by have h_ := hcl; rw [List.length_drop]; omega)] at a2
 rw [List.drop_zero] at a0
 refine ⟨⟨v0, v1, v2⟩, ?_, b0, b1, b2⟩
 have e1 : cs.drop 1 = (cs.drop 1) := by simp only [List.drop_drop]
 rw [e1] at a1
 have e2 : cs.drop 2 = ((cs.drop 1).drop 1) := by simp only [List.drop_drop]
 rw [e2] at a2
 exact dZ 1 a0 (dZ 1 a1 (a2))
theorem aA.o54 : OpensW Try.prog 54 k54 aA.WF54 := by
 intro H enc w base spare held fuel cs x h hz
 obtain ⟨xs, n, _, rfl, hl, hn, hf⟩ := DataW.trod_struct Try.underlying54 h
 have hcl : cs.length = 12 := hl.trans z1_
 obtain ⟨v0, a0, b0⟩ : ∃ v, k50.K w v ((cs.drop 0).take 2) ∧ aA.WF50 v := by
  have h0 : DataW.trod enc Try.prog w base spare held n 50 ((cs.drop 0).take (Try.prog.cellsOf 50)) = xs[0]? := hf 0 _ rfl
  rw [show Try.prog.cellsOf 50 = 2 by kernel_rfl, List.getElem?_eq_getElem (by rw [hn]; decide)] at h0
  exact aA.o50 h0 (dI (j := 0) Try.underlying54 hz rfl (by rw [List.getElem?_map, List.getElem?_eq_getElem (by rw [hn]; decide)]; rfl))
 obtain ⟨v1, a1, b1⟩ : ∃ v, (Kd.slice 3 (Kd.int .i64)).K w v ((cs.drop 2).take 1) ∧ (fun x_ => (x_.length * 8 ≤ 140737488351232 ∧ ∀ x0_ ∈ x_, (Lit.int .i64 x0_).wf = true)) v := by
  have h0 : DataW.trod enc Try.prog w base spare held n 24 ((cs.drop 2).take (Try.prog.cellsOf 24)) = xs[1]? := hf 1 _ rfl
  rw [show Try.prog.cellsOf 24 = 1 by kernel_rfl, List.getElem?_eq_getElem (by rw [hn]; decide)] at h0
  exact (OpensW.slice 8 Try.underlying24 z1_ (of_decide_eq_true z1_) (Opens.sized (Opens.int Try.underlying3))) h0 (dI (j := 1) Try.underlying54 hz rfl (by rw [List.getElem?_map, List.getElem?_eq_getElem (by rw [hn]; decide)]; rfl))
 obtain ⟨v2, a2, b2⟩ : ∃ v, k26.K w v ((cs.drop 3).take 3) ∧ aA.WF26 v := by
  have h0 : DataW.trod enc Try.prog w base spare held n 26 ((cs.drop 3).take (Try.prog.cellsOf 26)) = xs[2]? := hf 2 _ rfl
  rw [show Try.prog.cellsOf 26 = 3 by kernel_rfl, List.getElem?_eq_getElem (by rw [hn]; decide)] at h0
  exact aA.o26 h0 (dI (j := 2) Try.underlying54 hz rfl (by rw [List.getElem?_map, List.getElem?_eq_getElem (by rw [hn]; decide)]; rfl))
 obtain ⟨v3, a3, b3⟩ : ∃ v, (Kd.int .i64).K w v ((cs.drop 6).take 1) ∧ (fun x_ => (Lit.int .i64 x_).wf = true) v := by
  have h0 : DataW.trod enc Try.prog w base spare held n 3 ((cs.drop 6).take (Try.prog.cellsOf 3)) = xs[3]? := hf 3 _ rfl
  rw [show Try.prog.cellsOf 3 = 1 by kernel_rfl, List.getElem?_eq_getElem (by rw [hn]; decide)] at h0
  exact (Opens.sized (Opens.int Try.underlying3)) h0 (dI (j := 3) Try.underlying54 hz rfl (by rw [List.getElem?_map, List.getElem?_eq_getElem (by rw [hn]; decide)]; rfl))
 obtain ⟨v4, a4, b4⟩ : ∃ v, (Kd.int .i64).K w v ((cs.drop 7).take 1) ∧ (fun x_ => (Lit.int .i64 x_).wf = true) v := by
  have h0 : DataW.trod enc Try.prog w base spare held n 3 ((cs.drop 7).take (Try.prog.cellsOf 3)) = xs[4]? := hf 4 _ rfl
  rw [show Try.prog.cellsOf 3 = 1 by kernel_rfl, List.getElem?_eq_getElem (by rw [hn]; decide)] at h0
  exact (Opens.sized (Opens.int Try.underlying3)) h0 (dI (j := 4) Try.underlying54 hz rfl (by rw [List.getElem?_map, List.getElem?_eq_getElem (by rw [hn]; decide)]; rfl))
 obtain ⟨v5, a5, b5⟩ : ∃ v, Kd.string.K w v ((cs.drop 8).take 1) ∧ (fun x_ => x_.size ≤ maxLen) v := by
  have h0 : DataW.trod enc Try.prog w base spare held n 9 ((cs.drop 8).take (Try.prog.cellsOf 9)) = xs[5]? := hf 5 _ rfl
  rw [show Try.prog.cellsOf 9 = 1 by kernel_rfl, List.getElem?_eq_getElem (by rw [hn]; decide)] at h0
  exact (Opens.sized (Opens.string Try.underlying9)) h0 (dI (j := 5) Try.underlying54 hz rfl (by rw [List.getElem?_map, List.getElem?_eq_getElem (by rw [hn]; decide)]; rfl))
 obtain ⟨v6, a6, b6⟩ : ∃ v, (Kd.int .i64).K w v ((cs.drop 9).take 1) ∧ (fun x_ => (Lit.int .i64 x_).wf = true) v := by
  have h0 : DataW.trod enc Try.prog w base spare held n 3 ((cs.drop 9).take (Try.prog.cellsOf 3)) = xs[6]? := hf 6 _ rfl
  rw [show Try.prog.cellsOf 3 = 1 by kernel_rfl, List.getElem?_eq_getElem (by rw [hn]; decide)] at h0
  exact (Opens.sized (Opens.int Try.underlying3)) h0 (dI (j := 6) Try.underlying54 hz rfl (by rw [List.getElem?_map, List.getElem?_eq_getElem (by rw [hn]; decide)]; rfl))
 obtain ⟨v7, a7, b7⟩ : ∃ v, (Kd.slice 89 k89).K w v ((cs.drop 10).take 1) ∧ (fun x_ => (x_.length * 24 ≤ 140737488351232 ∧ ∀ x0_ ∈ x_, aA.WF89 x0_)) v := by
  have h0 : DataW.trod enc Try.prog w base spare held n 51 ((cs.drop 10).take (Try.prog.cellsOf 51)) = xs[7]? := hf 7 _ rfl
  rw [show Try.prog.cellsOf 51 = 1 by kernel_rfl, List.getElem?_eq_getElem (by rw [hn]; decide)] at h0
  exact (OpensW.slice 24 Try.underlying51 z1_ (of_decide_eq_true z1_) aA.o89) h0 (dI (j := 7) Try.underlying54 hz rfl (by rw [List.getElem?_map, List.getElem?_eq_getElem (by rw [hn]; decide)]; rfl))
 obtain ⟨v8, a8, b8⟩ : ∃ v, (Kd.slice 50 k50).K w v ((cs.drop 11).take 1) ∧ (fun x_ => (x_.length * 16 ≤ 140737488351232 ∧ ∀ x0_ ∈ x_, aA.WF50 x0_)) v := by
  have h0 : DataW.trod enc Try.prog w base spare held n 52 ((cs.drop 11).take (Try.prog.cellsOf 52)) = xs[8]? := hf 8 _ rfl
  rw [show Try.prog.cellsOf 52 = 1 by kernel_rfl, List.getElem?_eq_getElem (by rw [hn]; decide)] at h0
  exact (OpensW.slice 16 Try.underlying52 z1_ (of_decide_eq_true z1_) aA.o50) h0 (dI (j := 8) Try.underlying54 hz rfl (by rw [List.getElem?_map, List.getElem?_eq_getElem (by rw [hn]; decide)]; rfl))
 rw [List.take_of_length_le (by have h_ := hcl; rw [List.length_drop]; omega)] at a8
 rw [List.drop_zero] at a0
 refine ⟨⟨v0, v1, v2, v3, v4, v5, v6, v7, v8⟩, ?_, b0, b1, b2, b3, b4, b5, b6, b7, b8⟩
 have e1 : cs.drop 2 = (cs.drop 2) := by simp only [List.drop_drop]
 rw [e1] at a1
 have e2 : cs.drop 3 = ((cs.drop 2).drop 1) := by simp only [List.drop_drop]
 rw [e2] at a2
 have e3 : cs.drop 6 = (((cs.drop 2).drop 1).drop 3) := by simp only [List.drop_drop]
 rw [e3] at a3
 have e4 : cs.drop 7 = ((((cs.drop 2).drop 1).drop 3).drop 1) := by simp only [List.drop_drop]
 rw [e4] at a4
 have e5 : cs.drop 8 = (((((cs.drop 2).drop 1).drop 3).drop 1).drop 1) := by simp only [List.drop_drop]
 rw [e5] at a5
 have e6 : cs.drop 9 = ((((((cs.drop 2).drop 1).drop 3).drop 1).drop 1).drop 1) := by simp only [List.drop_drop]
 rw [e6] at a6
 have e7 : cs.drop 10 = (((((((cs.drop 2).drop 1).drop 3).drop 1).drop 1).drop 1).drop 1) := by simp only [List.drop_drop]
 rw [e7] at a7
 have e8 : cs.drop 11 = ((((((((cs.drop 2).drop 1).drop 3).drop 1).drop 1).drop 1).drop 1).drop 1) := by simp only [List.drop_drop]
 rw [e8] at a8
 exact dZ 2 a0 (dZ 1 a1 (dZ 3 a2 (dZ 1 a3 (dZ 1 a4 (dZ 1 a5 (dZ 1 a6 (dZ 1 a7 (a8))))))))
theorem aA.o31 : OpensW Try.prog 31 k31 aA.WF31 := by
 intro H enc w base spare held fuel cs x h hz
 obtain ⟨xs, n, _, rfl, hl, hn, hf⟩ := DataW.trod_struct Try.underlying31 h
 have hcl : cs.length = 7 := hl.trans z1_
 obtain ⟨v0, a0, b0⟩ : ∃ v, (Kd.slice 3 (Kd.int .i64)).K w v ((cs.drop 0).take 1) ∧ (fun x_ => (x_.length * 8 ≤ 140737488351232 ∧ ∀ x0_ ∈ x_, (Lit.int .i64 x0_).wf = true)) v := by
  have h0 : DataW.trod enc Try.prog w base spare held n 24 ((cs.drop 0).take (Try.prog.cellsOf 24)) = xs[0]? := hf 0 _ rfl
  rw [show Try.prog.cellsOf 24 = 1 by kernel_rfl, List.getElem?_eq_getElem (by rw [hn]; decide)] at h0
  exact (OpensW.slice 8 Try.underlying24 z1_ (of_decide_eq_true z1_) (Opens.sized (Opens.int Try.underlying3))) h0 (dI (j := 0) Try.underlying31 hz rfl (by rw [List.getElem?_map, List.getElem?_eq_getElem (by rw [hn]; decide)]; rfl))
 obtain ⟨v1, a1, b1⟩ : ∃ v, k26.K w v ((cs.drop 1).take 3) ∧ aA.WF26 v := by
  have h0 : DataW.trod enc Try.prog w base spare held n 26 ((cs.drop 1).take (Try.prog.cellsOf 26)) = xs[1]? := hf 1 _ rfl
  rw [show Try.prog.cellsOf 26 = 3 by kernel_rfl, List.getElem?_eq_getElem (by rw [hn]; decide)] at h0
  exact aA.o26 h0 (dI (j := 1) Try.underlying31 hz rfl (by rw [List.getElem?_map, List.getElem?_eq_getElem (by rw [hn]; decide)]; rfl))
 obtain ⟨v2, a2, b2⟩ : ∃ v, (Kd.slice 77 (Kd.slice 80 k80)).K w v ((cs.drop 4).take 1) ∧ (fun x_ => (x_.length * 8 ≤ 140737488351232 ∧ ∀ x0_ ∈ x_, (x0_.length * 24 ≤ 140737488351232 ∧ ∀ x1_ ∈ x0_, aA.WF80 x1_))) v := by
  have h0 : DataW.trod enc Try.prog w base spare held n 27 ((cs.drop 4).take (Try.prog.cellsOf 27)) = xs[2]? := hf 2 _ rfl
  rw [show Try.prog.cellsOf 27 = 1 by kernel_rfl, List.getElem?_eq_getElem (by rw [hn]; decide)] at h0
  exact (OpensW.slice 8 Try.underlying27 z1_ (of_decide_eq_true z1_) (OpensW.slice 24 Try.underlying77 z1_ (of_decide_eq_true z1_) aA.o80)) h0 (dI (j := 2) Try.underlying31 hz rfl (by rw [List.getElem?_map, List.getElem?_eq_getElem (by rw [hn]; decide)]; rfl))
 obtain ⟨v3, a3, b3⟩ : ∃ v, (Kd.slice 24 (Kd.slice 3 (Kd.int .i64))).K w v ((cs.drop 5).take 1) ∧ (fun x_ => (x_.length * 8 ≤ 140737488351232 ∧ ∀ x0_ ∈ x_, (x0_.length * 8 ≤ 140737488351232 ∧ ∀ x1_ ∈ x0_, (Lit.int .i64 x1_).wf = true))) v := by
  have h0 : DataW.trod enc Try.prog w base spare held n 28 ((cs.drop 5).take (Try.prog.cellsOf 28)) = xs[3]? := hf 3 _ rfl
  rw [show Try.prog.cellsOf 28 = 1 by kernel_rfl, List.getElem?_eq_getElem (by rw [hn]; decide)] at h0
  exact (OpensW.slice 8 Try.underlying28 z1_ (of_decide_eq_true z1_) (OpensW.slice 8 Try.underlying24 z1_ (of_decide_eq_true z1_) (Opens.sized (Opens.int Try.underlying3)))) h0 (dI (j := 3) Try.underlying31 hz rfl (by rw [List.getElem?_map, List.getElem?_eq_getElem (by rw [hn]; decide)]; rfl))
 obtain ⟨v4, a4, b4⟩ : ∃ v, (Kd.slice 54 k54).K w v ((cs.drop 6).take 1) ∧ (fun x_ => (x_.length * 96 ≤ 140737488351232 ∧ ∀ x0_ ∈ x_, aA.WF54 x0_)) v := by
  have h0 : DataW.trod enc Try.prog w base spare held n 29 ((cs.drop 6).take (Try.prog.cellsOf 29)) = xs[4]? := hf 4 _ rfl
  rw [show Try.prog.cellsOf 29 = 1 by kernel_rfl, List.getElem?_eq_getElem (by rw [hn]; decide)] at h0
  exact (OpensW.slice 96 Try.underlying29 z1_ (of_decide_eq_true z1_) aA.o54) h0 (dI (j := 4) Try.underlying31 hz rfl (by rw [List.getElem?_map, List.getElem?_eq_getElem (by rw [hn]; decide)]; rfl))
 rw [List.take_of_length_le (by have h_ := hcl; rw [List.length_drop]; omega)] at a4
 rw [List.drop_zero] at a0
 refine ⟨⟨v0, v1, v2, v3, v4⟩, ?_, b0, b1, b2, b3, b4⟩
 have e1 : cs.drop 1 = (cs.drop 1) := by simp only [List.drop_drop]
 rw [e1] at a1
 have e2 : cs.drop 4 = ((cs.drop 1).drop 3) := by simp only [List.drop_drop]
 rw [e2] at a2
 have e3 : cs.drop 5 = (((cs.drop 1).drop 3).drop 1) := by simp only [List.drop_drop]
 rw [e3] at a3
 have e4 : cs.drop 6 = ((((cs.drop 1).drop 3).drop 1).drop 1) := by simp only [List.drop_drop]
 rw [e4] at a4
 exact dZ 1 a0 (dZ 3 a1 (dZ 1 a2 (dZ 1 a3 (a4))))
theorem lifted (os : Os) (started : os.Started) (H : Type) (enc : TypeId × Value → H) :
  ReturnsInHanded {} Try.checked os 6 .any (Rows.snapUnlikeSpec.pre6 enc Try.prog Try.f6 Rows.snapUnlikeRow.domain false) (Rows.snapUnlikeSpec.post enc Try.prog Try.f6 false true false false) := by
 refine returnsInHanded_of_change_sized (C := Try.checked) own started z1_ Try.func6
  (ChangeSpec.witness6 (enc := enc) (C := Try.checked) false ⟨#[], #[.agg #[.slice none 0 0, .int .i64 0, .int .i64 0, .int .i64 0, .slice none 0 0, .slice none 0 0, .slice none 0 0], .agg #[.slice none 0 0, .int .i64 0, .int .i64 0, .int .i64 0, .slice none 0 0, .slice none 0 0, .slice none 0 0], .int .i64 0, .int .u8 0], []⟩ 8 z1_ z1_ z1_ z1_) ?_
 intro W base args ds gs before hval0 hW hcnd hsz0 _
 have hval : ∀ (j : Nat) t v, Try.f6.params[j]? = some t → args[j]? = some v → Value.okWide Try.prog W .any base t v := hval0
 have hW' := hW
 obtain ⟨p, q, hA0, hV, rfl, hfz, hnd⟩ := hW
 have hA : DataW.TrodAll enc Try.prog W 0 (fun _ => true) true Try.f6.params.toList args.toList ds p := hA0
 rw [Try.params6] at hA hval
 obtain ⟨v0, vs0, d0, ds0, p0, q0, hargs, rfl, rfl, h0, r0⟩ := trodAll_cons hA
 obtain ⟨v1, vs1, d1, ds1, p1, q1, rfl, rfl, rfl, h1, r1⟩ := trodAll_cons r0
 obtain ⟨v2, vs2, d2, ds2, p2, q2, rfl, rfl, rfl, h2, r2⟩ := trodAll_cons r1
 obtain ⟨v3, vs3, d3, ds3, p3, q3, rfl, rfl, rfl, h3, r3⟩ := trodAll_cons r2
 rw [Try.params6] at hsz0
 have hz0 := fun n_ hn_ => of_decide_eq_true (List.all_eq_true.1 hsz0 n_ (DataW.weights_mem_each (j := 0) (t := 31) rfl rfl n_ hn_))
 have hz1 := fun n_ hn_ => of_decide_eq_true (List.all_eq_true.1 hsz0 n_ (DataW.weights_mem_each (j := 1) (t := 31) rfl rfl n_ hn_))
 have hz2 := fun n_ hn_ => of_decide_eq_true (List.all_eq_true.1 hsz0 n_ (DataW.weights_mem_each (j := 2) (t := 3) rfl rfl n_ hn_))
 have hz3 := fun n_ hn_ => of_decide_eq_true (List.all_eq_true.1 hsz0 n_ (DataW.weights_mem_each (j := 3) (t := 5) rfl rfl n_ hn_))
 clear hsz0
 obtain ⟨rfl, rfl, rfl⟩ := trodAll_nil r3
 obtain rfl : args = #[v0, v1, v2, v3] := by cases args; simp_all
 obtain ⟨rfl, rfl⟩ := trodVars_none hV
 have kp0 := h0
 have lt0 : ∀ x ∈ p0, x.block < W.heap.size := by obtain ⟨m, hm⟩ := kp0; exact DataW.trod_lt m _ _ _ hm
 obtain ⟨cs0, rfl⟩ : ∃ cs, v0 = .agg cs := by have hq := (hval 0 31 v0 rfl rfl); unfold Value.okWide at hq; rw [Try.underlying31] at hq; obtain ⟨cs, e, _⟩ := hq; exact ⟨cs, e⟩
 obtain ⟨fuel0, hf0⟩ := h0
 obtain ⟨x0, hK0, hwf0⟩ := aA.o31 hf0 hz0
 obtain ⟨A0_0, c0_0, A0_4, c0_4, A0_5, c0_5, A0_6, c0_6, he0, hl0_0, hr0_0, hl0_4, hr0_4, hl0_5, hr0_5, hl0_6, hr0_6⟩ := k31_open hK0
 obtain rfl : cs0 = #[.slice A0_0 x0.f0.length c0_0, .int .i64 x0.f1.f0, .int .i64 x0.f1.f1, .int .i64 x0.f1.f2, .slice A0_4 x0.f2.length c0_4, .slice A0_5 x0.f3.length c0_5, .slice A0_6 x0.f4.length c0_6] := by cases cs0; simpa [Value.cells] using he0
 have kp1 := h1
 have lt1 : ∀ x ∈ p1, x.block < W.heap.size := by obtain ⟨m, hm⟩ := kp1; exact DataW.trod_lt m _ _ _ hm
 obtain ⟨cs1, rfl⟩ : ∃ cs, v1 = .agg cs := by have hq := (hval 1 31 v1 rfl rfl); unfold Value.okWide at hq; rw [Try.underlying31] at hq; obtain ⟨cs, e, _⟩ := hq; exact ⟨cs, e⟩
 obtain ⟨fuel1, hf1⟩ := h1
 obtain ⟨x1, hK1, hwf1⟩ := aA.o31 hf1 hz1
 obtain ⟨A1_0, c1_0, A1_4, c1_4, A1_5, c1_5, A1_6, c1_6, he1, hl1_0, hr1_0, hl1_4, hr1_4, hl1_5, hr1_5, hl1_6, hr1_6⟩ := k31_open hK1
 obtain rfl : cs1 = #[.slice A1_0 x1.f0.length c1_0, .int .i64 x1.f1.f0, .int .i64 x1.f1.f1, .int .i64 x1.f1.f2, .slice A1_4 x1.f2.length c1_4, .slice A1_5 x1.f3.length c1_5, .slice A1_6 x1.f4.length c1_6] := by cases cs1; simpa [Value.cells] using he1
 obtain ⟨x2, rfl, rfl, rfl, hwf2⟩ := open_int Try.underlying3 (hval 2 3 v2 rfl rfl) h2
 obtain ⟨x3, rfl, rfl, rfl, hwf3⟩ := open_int Try.underlying5 (hval 3 5 v3 rfl rfl) h3
 clear hA0 hval0
 obtain ⟨k, hP⟩ := Go.Proofs.Ytcbfliajgopdaaa.Pure.SnapUnlike x0 x1 x2 x3 hwf0 hwf1 hwf2 hwf3
 refine (aA.calls k _ _ x0.f0 x0.f1.f0 x0.f1.f1 x0.f1.f2 _ _ x0.f2 _ _ x0.f3 _ _ x0.f4 _ _ x1.f0 x1.f1.f0 x1.f1.f1 x1.f1.f2 _ _ x1.f2 _ _ x1.f3 _ _ x1.f4 x2 x3 true W hr0_0 hl0_0 hr0_4 hl0_4 hr0_5 hl0_5 hr0_6 hl0_6 hr1_0 hl1_0 hr1_4 hl1_4 hr1_5 hl1_5 hr1_6 hl1_6 rfl hP).mono fun e W' ⟨he, bel0⟩ => ?_
 have bel : Below W.heap.size W W' := bel0
 subst he
 exact ⟨_, rfl, _, _, _, [], _, [], hW', trodAll_mk1 (shut_bool Try.underlying4 _), (trodAll_cons_mk (Below.trod laidOut z1_ (of_decide_eq_true z1_) kp0 bel lt0) (trodAll_cons_mk (Below.trod laidOut z1_ (of_decide_eq_true z1_) kp1 bel lt1) (trodAll_cons_mk (shut_int Try.underlying3 hwf2) (trodAll_cons_mk (shut_int Try.underlying5 hwf3) trodAll_mk0)))), rfl, bel.frame _, fun h => by cases h⟩
theorem over : Rows.snapUnlikeRow.holds Try.pinned (OpenSpec.ofChange Rows.snapUnlikeSpec) :=
 OpenClaim.holds_of_wide 6 Try.f6 rfl rfl rfl rfl rfl rfl rfl ⟨rfl, rfl, rfl, rfl, rfl⟩ rfl rfl rfl rfl rfl z1_ Try.func6 z1_
  (of_decide_eq_true z1_) (by unfold Func.isWrapper; first | (rw [if_pos (by decide +kernel)]; kernel_rfl) | (rw [if_neg (by decide +kernel)]; exact ⟨rfl, rfl⟩))
  (fun os started H enc _ => lifted os started H enc)
end Go.Proofs.Ytcbfliajgopdaaa.snapUnlike
namespace Go.Proofs.Ytcbfliajgopdaaa
theorem snapUnlike_holds : Rows.SnapUnlikeSaid := snapUnlike.over
end Go.Proofs.Ytcbfliajgopdaaa
end
