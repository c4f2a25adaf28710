/- The statement OpExact holds. Conditions: none. -/
import Derived.Test.YtjnjfogfpmeacaaGreatZOEp8
import Derived.Test.YtjnjfogfpmeacaaGreatRows
import Derived.SizedLaws
set_option maxHeartbeats 8000000
set_option maxRecDepth 100000
open Go.Proofs.YtjnjfogfpmeacaaGreatW Go.Proofs.YtjnjfogfpmeacaaGreat
section
namespace Go.Proofs.YtjnjfogfpmeacaaGreat.opExact
open Go.ChangeShapes Go.WideShapes Go.ChangeAt Go.RowKit PAll PrintWords PrintLast Opens ZipT PrintWords.Kd PrintMore.Kd
open Go.ChangeMaps (open_string shut_string)
set_option linter.unusedVariables false
set_option linter.unusedSimpArgs false
theorem own : ownKnob Tryz.prog.godebug = none := by kernel_rfl
theorem laidOut : laidOutB Tryz.prog = true := by kernel_rfl
theorem aJ.o53 : Opens Tryz.prog 53 k53 aJ.WF53 := by
 intro H enc w base spare held fuel cs x h
 obtain ⟨xs, n, _, _, hl, hn, hf⟩ := DataW.trod_struct Tryz.underlying53 h
 have hcl : cs.length = 1 := hl.trans z2_
 obtain ⟨v0, a0, b0⟩ : ∃ v, (Kd.slice 3 (Kd.int .i64)).K w v ((cs.drop 0).take 1) ∧ (fun x_ => (x_.length ≤ maxLen ∧ ∀ x0_ ∈ x_, (Lit.int .i64 x0_).wf = true)) v := by
  have h0 : DataW.trod enc Tryz.prog w base spare held n 25 ((cs.drop 0).take (Tryz.prog.cellsOf 25)) = xs[0]? := hf 0 _ rfl
  rw [show Tryz.prog.cellsOf 25 = 1 by kernel_rfl, List.getElem?_eq_getElem (by rw [hn]; decide)] at h0
  exact (Opens.slice Tryz.underlying25 z2_ (Opens.int Tryz.underlying3)) h0
 rw [List.take_of_length_le (by have h_ := hcl; rw [List.length_drop]; omega)] at a0
 rw [List.drop_zero] at a0
 refine ⟨⟨v0⟩, ?_, b0⟩
 exact a0
theorem aJ.o24 : Opens Tryz.prog 24 k24 aJ.WF24 := by
 intro H enc w base spare held fuel cs x h
 obtain ⟨xs, n, _, _, hl, hn, hf⟩ := DataW.trod_struct Tryz.underlying24 h
 have hcl : cs.length = 2 := hl.trans z2_
 obtain ⟨v0, a0, b0⟩ : ∃ v, (Kd.int .i64).K w v ((cs.drop 0).take 1) ∧ (fun x_ => (Lit.int .i64 x_).wf = true) v := by
  have h0 : DataW.trod enc Tryz.prog w base spare held n 3 ((cs.drop 0).take (Tryz.prog.cellsOf 3)) = xs[0]? := hf 0 _ rfl
  rw [show Tryz.prog.cellsOf 3 = 1 by kernel_rfl, List.getElem?_eq_getElem (by rw [hn]; decide)] at h0
  exact (Opens.int Tryz.underlying3) h0
 obtain ⟨v1, a1, b1⟩ : ∃ v, (Kd.int .i64).K w v ((cs.drop 1).take 1) ∧ (fun x_ => (Lit.int .i64 x_).wf = true) v := by
  have h0 : DataW.trod enc Tryz.prog w base spare held n 3 ((cs.drop 1).take (Tryz.prog.cellsOf 3)) = xs[1]? := hf 1 _ rfl
  rw [show Tryz.prog.cellsOf 3 = 1 by kernel_rfl, List.getElem?_eq_getElem (by rw [hn]; decide)] at h0
  exact (Opens.int Tryz.underlying3) h0
 rw [List.take_of_length_le (by have h_ := hcl; rw [List.length_drop]; omega)] at a1
 rw [List.drop_zero] at a0
 refine ⟨⟨v0, v1⟩, ?_, b0, b1⟩
 have e1 : cs.drop 1 = (cs.drop 1) := by simp only [List.drop_drop]
 rw [e1] at a1
 exact fW 1 a0 (a1)
theorem aJ.o27 : Opens Tryz.prog 27 k27 aJ.WF27 := by
 intro H enc w base spare held fuel cs x h
 obtain ⟨xs, n, _, _, hl, hn, hf⟩ := DataW.trod_struct Tryz.underlying27 h
 have hcl : cs.length = 3 := hl.trans z2_
 obtain ⟨v0, a0, b0⟩ : ∃ v, (Kd.int .i64).K w v ((cs.drop 0).take 1) ∧ (fun x_ => (Lit.int .i64 x_).wf = true) v := by
  have h0 : DataW.trod enc Tryz.prog w base spare held n 3 ((cs.drop 0).take (Tryz.prog.cellsOf 3)) = xs[0]? := hf 0 _ rfl
  rw [show Tryz.prog.cellsOf 3 = 1 by kernel_rfl, List.getElem?_eq_getElem (by rw [hn]; decide)] at h0
  exact (Opens.int Tryz.underlying3) h0
 obtain ⟨v1, a1, b1⟩ : ∃ v, (Kd.int .i64).K w v ((cs.drop 1).take 1) ∧ (fun x_ => (Lit.int .i64 x_).wf = true) v := by
  have h0 : DataW.trod enc Tryz.prog w base spare held n 3 ((cs.drop 1).take (Tryz.prog.cellsOf 3)) = xs[1]? := hf 1 _ rfl
  rw [show Tryz.prog.cellsOf 3 = 1 by kernel_rfl, List.getElem?_eq_getElem (by rw [hn]; decide)] at h0
  exact (Opens.int Tryz.underlying3) h0
 obtain ⟨v2, a2, b2⟩ : ∃ v, (Kd.int .i64).K w v ((cs.drop 2).take 1) ∧ (fun x_ => (Lit.int .i64 x_).wf = true) v := by
  have h0 : DataW.trod enc Tryz.prog w base spare held n 3 ((cs.drop 2).take (Tryz.prog.cellsOf 3)) = xs[2]? := hf 2 _ rfl
  rw [show Tryz.prog.cellsOf 3 = 1 by kernel_rfl, List.getElem?_eq_getElem (by rw [hn]; decide)] at h0
  exact (Opens.int Tryz.underlying3) h0
 rw [List.take_of_length_le (by have h_ := hcl; rw [List.length_drop]; omega)] at a2
 rw [List.drop_zero] at a0
 refine ⟨⟨v0, v1, v2⟩, ?_, b0, b1, b2⟩
 have e1 : cs.drop 1 = (cs.drop 1) := by simp only [List.drop_drop]
 rw [e1] at a1
 have e2 : cs.drop 2 = ((cs.drop 1).drop 1) := by simp only [List.drop_drop]
 rw [e2] at a2
 exact fW 1 a0 (fW 1 a1 (a2))
theorem aJ.o102 : Opens Tryz.prog 102 k102 aJ.WF102 := by
 intro H enc w base spare held fuel cs x h
 obtain ⟨xs, n, _, _, hl, hn, hf⟩ := DataW.trod_struct Tryz.underlying102 h
 have hcl : cs.length = 3 := hl.trans z2_
 obtain ⟨v0, a0, b0⟩ : ∃ v, (Kd.int .i64).K w v ((cs.drop 0).take 1) ∧ (fun x_ => (Lit.int .i64 x_).wf = true) v := by
  have h0 : DataW.trod enc Tryz.prog w base spare held n 3 ((cs.drop 0).take (Tryz.prog.cellsOf 3)) = xs[0]? := hf 0 _ rfl
  rw [show Tryz.prog.cellsOf 3 = 1 by kernel_rfl, List.getElem?_eq_getElem (by rw [hn]; decide)] at h0
  exact (Opens.int Tryz.underlying3) h0
 obtain ⟨v1, a1, b1⟩ : ∃ v, (Kd.int .i64).K w v ((cs.drop 1).take 1) ∧ (fun x_ => (Lit.int .i64 x_).wf = true) v := by
  have h0 : DataW.trod enc Tryz.prog w base spare held n 3 ((cs.drop 1).take (Tryz.prog.cellsOf 3)) = xs[1]? := hf 1 _ rfl
  rw [show Tryz.prog.cellsOf 3 = 1 by kernel_rfl, List.getElem?_eq_getElem (by rw [hn]; decide)] at h0
  exact (Opens.int Tryz.underlying3) h0
 obtain ⟨v2, a2, b2⟩ : ∃ v, Kd.string.K w v ((cs.drop 2).take 1) ∧ (fun x_ => x_.size ≤ maxLen) v := by
  have h0 : DataW.trod enc Tryz.prog w base spare held n 9 ((cs.drop 2).take (Tryz.prog.cellsOf 9)) = xs[2]? := hf 2 _ rfl
  rw [show Tryz.prog.cellsOf 9 = 1 by kernel_rfl, List.getElem?_eq_getElem (by rw [hn]; decide)] at h0
  exact (Opens.string Tryz.underlying9) h0
 rw [List.take_of_length_le (by have h_ := hcl; rw [List.length_drop]; omega)] at a2
 rw [List.drop_zero] at a0
 refine ⟨⟨v0, v1, v2⟩, ?_, b0, b1, b2⟩
 have e1 : cs.drop 1 = (cs.drop 1) := by simp only [List.drop_drop]
 rw [e1] at a1
 have e2 : cs.drop 2 = ((cs.drop 1).drop 1) := by simp only [List.drop_drop]
 rw [e2] at a2
 exact fW 1 a0 (fW 1 a1 (a2))
theorem aJ.o31 : Opens Tryz.prog 31 k31 aJ.WF31 := by
 intro H enc w base spare held fuel cs x h
 obtain ⟨xs, n, _, _, hl, hn, hf⟩ := DataW.trod_struct Tryz.underlying31 h
 have hcl : cs.length = 12 := hl.trans z2_
 obtain ⟨v0, a0, b0⟩ : ∃ v, k24.K w v ((cs.drop 0).take 2) ∧ aJ.WF24 v := by
  have h0 : DataW.trod enc Tryz.prog w base spare held n 24 ((cs.drop 0).take (Tryz.prog.cellsOf 24)) = xs[0]? := hf 0 _ rfl
  rw [show Tryz.prog.cellsOf 24 = 2 by kernel_rfl, List.getElem?_eq_getElem (by rw [hn]; decide)] at h0
  exact aJ.o24 h0
 obtain ⟨v1, a1, b1⟩ : ∃ v, (Kd.slice 3 (Kd.int .i64)).K w v ((cs.drop 2).take 1) ∧ (fun x_ => (x_.length ≤ maxLen ∧ ∀ x0_ ∈ x_, (Lit.int .i64 x0_).wf = true)) v := by
  have h0 : DataW.trod enc Tryz.prog w base spare held n 25 ((cs.drop 2).take (Tryz.prog.cellsOf 25)) = xs[1]? := hf 1 _ rfl
  rw [show Tryz.prog.cellsOf 25 = 1 by kernel_rfl, List.getElem?_eq_getElem (by rw [hn]; decide)] at h0
  exact (Opens.slice Tryz.underlying25 z2_ (Opens.int Tryz.underlying3)) h0
 obtain ⟨v2, a2, b2⟩ : ∃ v, k27.K w v ((cs.drop 3).take 3) ∧ aJ.WF27 v := by
  have h0 : DataW.trod enc Tryz.prog w base spare held n 27 ((cs.drop 3).take (Tryz.prog.cellsOf 27)) = xs[2]? := hf 2 _ rfl
  rw [show Tryz.prog.cellsOf 27 = 3 by kernel_rfl, List.getElem?_eq_getElem (by rw [hn]; decide)] at h0
  exact aJ.o27 h0
 obtain ⟨v3, a3, b3⟩ : ∃ v, (Kd.int .i64).K w v ((cs.drop 6).take 1) ∧ (fun x_ => (Lit.int .i64 x_).wf = true) v := by
  have h0 : DataW.trod enc Tryz.prog w base spare held n 3 ((cs.drop 6).take (Tryz.prog.cellsOf 3)) = xs[3]? := hf 3 _ rfl
  rw [show Tryz.prog.cellsOf 3 = 1 by kernel_rfl, List.getElem?_eq_getElem (by rw [hn]; decide)] at h0
  exact (Opens.int Tryz.underlying3) h0
 obtain ⟨v4, a4, b4⟩ : ∃ v, (Kd.int .i64).K w v ((cs.drop 7).take 1) ∧ (fun x_ => (Lit.int .i64 x_).wf = true) v := by
  have h0 : DataW.trod enc Tryz.prog w base spare held n 3 ((cs.drop 7).take (Tryz.prog.cellsOf 3)) = xs[4]? := hf 4 _ rfl
  rw [show Tryz.prog.cellsOf 3 = 1 by kernel_rfl, List.getElem?_eq_getElem (by rw [hn]; decide)] at h0
  exact (Opens.int Tryz.underlying3) h0
 obtain ⟨v5, a5, b5⟩ : ∃ v, Kd.string.K w v ((cs.drop 8).take 1) ∧ (fun x_ => x_.size ≤ maxLen) v := by
  have h0 : DataW.trod enc Tryz.prog w base spare held n 9 ((cs.drop 8).take (Tryz.prog.cellsOf 9)) = xs[5]? := hf 5 _ rfl
  rw [show Tryz.prog.cellsOf 9 = 1 by kernel_rfl, List.getElem?_eq_getElem (by rw [hn]; decide)] at h0
  exact (Opens.string Tryz.underlying9) h0
 obtain ⟨v6, a6, b6⟩ : ∃ v, (Kd.int .i64).K w v ((cs.drop 9).take 1) ∧ (fun x_ => (Lit.int .i64 x_).wf = true) v := by
  have h0 : DataW.trod enc Tryz.prog w base spare held n 3 ((cs.drop 9).take (Tryz.prog.cellsOf 3)) = xs[6]? := hf 6 _ rfl
  rw [show Tryz.prog.cellsOf 3 = 1 by kernel_rfl, List.getElem?_eq_getElem (by rw [hn]; decide)] at h0
  exact (Opens.int Tryz.underlying3) h0
 obtain ⟨v7, a7, b7⟩ : ∃ v, (Kd.slice 102 k102).K w v ((cs.drop 10).take 1) ∧ (fun x_ => (x_.length ≤ maxLen ∧ ∀ x0_ ∈ x_, aJ.WF102 x0_)) v := by
  have h0 : DataW.trod enc Tryz.prog w base spare held n 28 ((cs.drop 10).take (Tryz.prog.cellsOf 28)) = xs[7]? := hf 7 _ rfl
  rw [show Tryz.prog.cellsOf 28 = 1 by kernel_rfl, List.getElem?_eq_getElem (by rw [hn]; decide)] at h0
  exact (Opens.slice Tryz.underlying28 z2_ aJ.o102) h0
 obtain ⟨v8, a8, b8⟩ : ∃ v, (Kd.slice 24 k24).K w v ((cs.drop 11).take 1) ∧ (fun x_ => (x_.length ≤ maxLen ∧ ∀ x0_ ∈ x_, aJ.WF24 x0_)) v := by
  have h0 : DataW.trod enc Tryz.prog w base spare held n 29 ((cs.drop 11).take (Tryz.prog.cellsOf 29)) = xs[8]? := hf 8 _ rfl
  rw [show Tryz.prog.cellsOf 29 = 1 by kernel_rfl, List.getElem?_eq_getElem (by rw [hn]; decide)] at h0
  exact (Opens.slice Tryz.underlying29 z2_ aJ.o24) h0
 rw [List.take_of_length_le (by have h_ := hcl; rw [List.length_drop]; omega)] at a8
 rw [List.drop_zero] at a0
 refine ⟨⟨v0, v1, v2, v3, v4, v5, v6, v7, v8⟩, ?_, b0, b1, b2, b3, b4, b5, b6, b7, b8⟩
 have e1 : cs.drop 2 = (cs.drop 2) := by simp only [List.drop_drop]
 rw [e1] at a1
 have e2 : cs.drop 3 = ((cs.drop 2).drop 1) := by simp only [List.drop_drop]
 rw [e2] at a2
 have e3 : cs.drop 6 = (((cs.drop 2).drop 1).drop 3) := by simp only [List.drop_drop]
 rw [e3] at a3
 have e4 : cs.drop 7 = ((((cs.drop 2).drop 1).drop 3).drop 1) := by simp only [List.drop_drop]
 rw [e4] at a4
 have e5 : cs.drop 8 = (((((cs.drop 2).drop 1).drop 3).drop 1).drop 1) := by simp only [List.drop_drop]
 rw [e5] at a5
 have e6 : cs.drop 9 = ((((((cs.drop 2).drop 1).drop 3).drop 1).drop 1).drop 1) := by simp only [List.drop_drop]
 rw [e6] at a6
 have e7 : cs.drop 10 = (((((((cs.drop 2).drop 1).drop 3).drop 1).drop 1).drop 1).drop 1) := by simp only [List.drop_drop]
 rw [e7] at a7
 have e8 : cs.drop 11 = ((((((((cs.drop 2).drop 1).drop 3).drop 1).drop 1).drop 1).drop 1).drop 1) := by simp only [List.drop_drop]
 rw [e8] at a8
 exact fW 2 a0 (fW 1 a1 (fW 3 a2 (fW 1 a3 (fW 1 a4 (fW 1 a5 (fW 1 a6 (fW 1 a7 (a8))))))))
theorem lifted (os : Os) (started : os.Started) (H : Type) (enc : TypeId × Value → H) :
  ReturnsInHanded {} Tryz.checked os 3 .any (Rows.opExactSpec.pre6 enc Tryz.prog Tryz.f3 Rows.opExactRow.domain false) (Rows.opExactSpec.post enc Tryz.prog Tryz.f3 false true false false) := by
 refine returnsInHanded_of_change_sized (C := Tryz.checked) own started z2_ Tryz.func3
  (ChangeSpec.witness6 (enc := enc) (C := Tryz.checked) false ⟨#[], #[.int .i64 0, .slice none 0 0, .agg #[.int .i64 0, .int .i64 0, .slice none 0 0, .int .i64 0, .int .i64 0, .int .i64 0, .int .i64 0, .int .i64 0, .string ByteArray.empty, .int .i64 0, .slice none 0 0, .slice none 0 0], .string ByteArray.empty], []⟩ 8 z2_ z2_ z2_ z2_) ?_
 intro W base args ds gs before hval0 hW hcnd hsz0 _
 clear hsz0
 have hval : ∀ (j : Nat) t v, Tryz.f3.params[j]? = some t → args[j]? = some v → Value.okWide Tryz.prog W .any base t v := hval0
 have hW' := hW
 obtain ⟨p, q, hA0, hV, rfl, hfz, hnd⟩ := hW
 have hA : DataW.TrodAll enc Tryz.prog W 0 (fun _ => true) true Tryz.f3.params.toList args.toList ds p := hA0
 rw [Tryz.params3] at hA hval
 obtain ⟨v0, vs0, d0, ds0, p0, q0, hargs, rfl, rfl, h0, r0⟩ := trodAll_cons hA
 obtain ⟨v1, vs1, d1, ds1, p1, q1, rfl, rfl, rfl, h1, r1⟩ := trodAll_cons r0
 obtain ⟨v2, vs2, d2, ds2, p2, q2, rfl, rfl, rfl, h2, r2⟩ := trodAll_cons r1
 obtain ⟨v3, vs3, d3, ds3, p3, q3, rfl, rfl, rfl, h3, r3⟩ := trodAll_cons r2
 obtain ⟨rfl, rfl, rfl⟩ := trodAll_nil r3
 obtain rfl : args = #[v0, v1, v2, v3] := by cases args; simp_all
 obtain ⟨rfl, rfl⟩ := trodVars_none hV
 obtain ⟨x0, rfl, rfl, rfl, hwf0⟩ := open_int Tryz.underlying3 (hval 0 3 v0 rfl rfl) h0
 have kp1 := h1
 have lt1 : ∀ x ∈ p1, x.block < W.heap.size := by obtain ⟨m, hm⟩ := kp1; exact DataW.trod_lt m _ _ _ hm
 obtain ⟨a1, len1, cap1, rfl⟩ := okWide_slice Tryz.underlying22 (hval 1 22 v1 rfl rfl)
 obtain ⟨fuel1, hf1⟩ := h1
 obtain ⟨x1, hK1, hwf1⟩ := (Opens.slice Tryz.underlying22 z2_ aJ.o53) hf1
 obtain ⟨A1, c1, he1, hl1, hr1⟩ := hK1
 obtain ⟨rfl, rfl, rfl⟩ : a1 = A1 ∧ len1 = x1.length ∧ cap1 = c1 := by simpa [Value.cells] using he1
 have kp2 := h2
 have lt2 : ∀ x ∈ p2, x.block < W.heap.size := by obtain ⟨m, hm⟩ := kp2; exact DataW.trod_lt m _ _ _ hm
 obtain ⟨cs2, rfl⟩ : ∃ cs, v2 = .agg cs := by have hq := (hval 2 31 v2 rfl rfl); unfold Value.okWide at hq; rw [Tryz.underlying31] at hq; obtain ⟨cs, e, _⟩ := hq; exact ⟨cs, e⟩
 obtain ⟨fuel2, hf2⟩ := h2
 obtain ⟨x2, hK2, hwf2⟩ := aJ.o31 hf2
 obtain ⟨A2_2, c2_2, A2_10, c2_10, A2_11, c2_11, he2, hl2_2, hr2_2, hl2_10, hr2_10, hl2_11, hr2_11⟩ := k31_open hK2
 obtain rfl : cs2 = #[.int .i64 x2.f0.f0, .int .i64 x2.f0.f1, .slice A2_2 x2.f1.length c2_2, .int .i64 x2.f2.f0, .int .i64 x2.f2.f1, .int .i64 x2.f2.f2, .int .i64 x2.f3, .int .i64 x2.f4, .string x2.f5, .int .i64 x2.f6, .slice A2_10 x2.f7.length c2_10, .slice A2_11 x2.f8.length c2_11] := by cases cs2; simpa [Value.cells] using he2
 obtain ⟨x3, rfl, rfl, rfl, hwf3⟩ := open_string Tryz.underlying9 (hval 3 9 v3 rfl rfl) h3
 clear hA0 hval0
 obtain ⟨k, hP⟩ := Go.Proofs.YtjnjfogfpmeacaaGreat.Pure.OpExact x0 x1 x2 x3 hwf0 hwf1 hwf2 hwf3
 refine (aJ.calls k x0 _ _ x1 x2.f0.f0 x2.f0.f1 _ _ x2.f1 x2.f2.f0 x2.f2.f1 x2.f2.f2 x2.f3 x2.f4 x2.f5 x2.f6 _ _ x2.f7 _ _ x2.f8 x3 true W hr1 hl1 hr2_2 hl2_2 hr2_10 hl2_10 hr2_11 hl2_11 rfl hP).mono fun e W' ⟨he, bel0⟩ => ?_
 have bel : Below W.heap.size W W' := bel0
 subst he
 exact ⟨_, rfl, _, _, _, [], _, [], hW', trodAll_mk1 (shut_bool Tryz.underlying4 _), (trodAll_cons_mk (shut_int Tryz.underlying3 hwf0) (trodAll_cons_mk (Below.trod laidOut z2_ (of_decide_eq_true z2_) kp1 bel lt1) (trodAll_cons_mk (Below.trod laidOut z2_ (of_decide_eq_true z2_) kp2 bel lt2) (trodAll_cons_mk (shut_string Tryz.underlying9 hwf3) trodAll_mk0)))), rfl, bel.frame _, fun h => by cases h⟩
theorem over : Rows.opExactRow.holds Tryz.pinned (OpenSpec.ofChange Rows.opExactSpec) :=
 OpenClaim.holds_of_wide 3 Tryz.f3 rfl rfl rfl rfl rfl rfl rfl ⟨rfl, rfl, rfl, rfl, rfl⟩ rfl rfl rfl rfl rfl z2_ Tryz.func3 z2_
  (of_decide_eq_true z2_) (by unfold Func.isWrapper; first | (rw [if_pos (by decide +kernel)]; kernel_rfl) | (rw [if_neg (by decide +kernel)]; exact ⟨rfl, rfl⟩))
  (fun os started H enc _ => lifted os started H enc)
end Go.Proofs.YtjnjfogfpmeacaaGreat.opExact
namespace Go.Proofs.YtjnjfogfpmeacaaGreat
theorem opExact_holds : Rows.OpExactSaid := opExact.over
end Go.Proofs.YtjnjfogfpmeacaaGreat
end
