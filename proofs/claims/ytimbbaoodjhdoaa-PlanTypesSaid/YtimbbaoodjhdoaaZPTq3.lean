-- Put together by a program of this session (wip/slice2.py) out of the seat's texts.
import Derived.Test.YtimbbaoodjhdoaaZPTp6
import Derived.Test.YtimbbaoodjhdoaaZPTq2

set_option maxHeartbeats 8000000
set_option maxRecDepth 100000
open Go.Proofs.YtimbbaoodjhdoaaW Go.Proofs.Ytimbbaoodjhdoaa
section
namespace Go.Proofs.Ytimbbaoodjhdoaa.Plan
open Go.RowKit PAll Plain PrintWords PrintLast PrintMore ZipT PrintWords.Kd PrintMore.Kd
set_option linter.unusedVariables false
set_option linter.unusedSimpArgs false
theorem infoNd : (Try.prog.info? 66).map (fun i => (i.zero, i.size, i.bytes)) = some (some (.agg #[.slice none 0 0, .int .i64 0, .int .i64 0]), 3, 40) := by kernel_rfl
theorem last_calls (AL : Option Addr) (cL : Nat) (l : List No) (A0 : Option Addr) (c0 : Nat) (f : List Tb) (w : World) (hCl : Kd.C k34 w AL l.length l) (hcl : l.length ≤ cL) (hCf : Kd.C k54 w A0 f.length f) (hcf : f.length ≤ c0)
  (hll : l.length ≤ 1000) (hlf : f.length ≤ 1000) (hln : ∀ x ∈ l, x.f5.length ≤ 1000 ∧ x.f6.length ≤ 1000) (hlt : ∀ t ∈ f, t.f0.length ≤ 1000) :
  Calls Try.prog 28 #[.slice AL l.length cL, .slice A0 f.length c0] w fun e w' => ∃ u, e = .returned (.tuple #[.agg #[u, .int .i64 (lastN l f).2.1, .int .i64 (lastN l f).2.2], .int .i64 (planN l f).2]) ∧ (Kd.int .i64).R 3 w' w.heap.size (fun _ => True) u (lastN l f).1 ∧ Below w.heap.size w w' := by
 have HCl := mk_ hCl
 have HCf := mk_ hCf
 have HLL := mk_ hll
 have HLF := mk_ hlf
 have HLN := mk_ hln
 have HLT := mk_ hlt
 have HFE := mk_ (forms_eq (f.length + 10) f hlf z5_)
 clear hCl hCf hll hlf hln hlt
 have hb0 : Below w.heap.size w (w.alloc (.cells #[.slice none 0 0, .int .i64 0, .int .i64 0] 66)) := aM (Below.refl _ _) _
 by_cases he : formsE f ≠ 0
 ·
  have hp : planN l f = ([], formsE f) := by unfold planN; rw [if_pos he]
  have hz : lastN l f = zN := by unfold lastN; rw [hp]; rfl
  rw [hz, hp]
  have hk1 : (formsE f = 0) = False := eq_false he
  have hk2 : decide (formsE f = 0) = false := decide_eq_false he
  have hk3 : (formsE f != 0) = true := bne_iff_ne.2 he
  have hk4 : (formsE f == 0) = false := beq_eq_false_iff_ne.2 he
  clear he hp hz
  generalize formsE f = er at *
  go_enter Try.func28, Try.ntmps28
  go_wp2_with (go_at_call 39; refine (PAll.op_Forms.calls (f.length + 10) A0 c0 f _ _ (aN HCf.out hb0) hcf HFE.out).mono ?_; rintro e W1 ⟨rfl, hq1⟩; have hb1 := aG hb0 hq1; have bR1 := aC (cJ w _) hq1; have hR01 := aA bR1; have fR01 := aD bR1)
  refine bodyPost_ret (aT rfl _ _ _ 66 #[.slice none 0 0, .int .i64 0, .int .i64 0] (0, 0) _ rfl (blkS bR1 _ _ _) Try.underlying66 rfl z1_) rfl ?_
  exact ⟨_, rfl, R_nil _ _ _ _ _, aI (aI (aI hb1 z5_) z5_) z5_⟩
 have he0 : formsE f = 0 := by omega
 rw [he0] at HFE
 by_cases hlen : l.length < 1 ∨ l.length > 12
 ·
  have hp : planN l f = ([], 2) := by unfold planN; rw [if_neg he, if_pos hlen]
  have hz : lastN l f = zN := by unfold lastN; rw [hp]; rfl
  rw [hz, hp]
  by_cases h1 : l.length < 1
  ·
   have hd1 : decide ((l.length : Int) < 1) = true := decide_eq_true z5_
   have hd2 : decide (l.length < 1) = true := decide_eq_true h1
   have hd3 : decide (l.length = 0) = true := decide_eq_true z5_
   clear he hp hz hlen he0 h1
   go_enter Try.func28, Try.ntmps28
   go_wp2_with (go_at_call 39; refine (PAll.op_Forms.calls (f.length + 10) A0 c0 f _ _ (aN HCf.out hb0) hcf HFE.out).mono ?_; rintro e W1 ⟨rfl, hq1⟩; have hb1 := aG hb0 hq1; have bR1 := aC (cJ w _) hq1; have hR01 := aA bR1; have fR01 := aD bR1)
   all_goals refine bodyPost_ret (aT rfl _ _ _ 66 #[.slice none 0 0, .int .i64 0, .int .i64 0] (0, 0) _ rfl (blkS bR1 _ _ _) Try.underlying66 rfl z1_) rfl ?_
   all_goals exact ⟨_, rfl, R_nil _ _ _ _ _, aI (aI (aI hb1 z5_) z5_) z5_⟩
  have hd1 : decide ((l.length : Int) < 1) = false := decide_eq_false z5_
  have hd2 : decide (l.length < 1) = false := decide_eq_false h1
  have hd3 : decide ((12 : Int) < (l.length : Int)) = true := decide_eq_true z5_
  have hd4 : decide (12 < l.length) = true := decide_eq_true z5_
  clear he hp hz hlen he0 h1
  go_enter Try.func28, Try.ntmps28
  go_wp2_with (go_at_call 39; refine (PAll.op_Forms.calls (f.length + 10) A0 c0 f _ _ (aN HCf.out hb0) hcf HFE.out).mono ?_; rintro e W1 ⟨rfl, hq1⟩; have hb1 := aG hb0 hq1; have bR1 := aC (cJ w _) hq1; have hR01 := aA bR1; have fR01 := aD bR1)
  all_goals refine bodyPost_ret (aT rfl _ _ _ 66 #[.slice none 0 0, .int .i64 0, .int .i64 0] (0, 0) _ rfl (blkS bR1 _ _ _) Try.underlying66 rfl z1_) rfl ?_
  all_goals exact ⟨_, rfl, R_nil _ _ _ _ _, aI (aI (aI hb1 z5_) z5_) z5_⟩
 have hd1 : decide ((l.length : Int) < 1) = false := decide_eq_false z5_
 have hd2 : decide (l.length < 1) = false := decide_eq_false z5_
 have hd3 : decide ((12 : Int) < (l.length : Int)) = false := decide_eq_false z5_
 have hd4 : decide (12 < l.length) = false := decide_eq_false z5_
 have HFO := mk_ (show FOk f from he0)
 have HKL := mk_ (show l.length ≤ 12 ∧ 1 ≤ l.length by omega)
 have hp : planN l f = walkN f l [] := gJ he0 z5_ z5_
 unfold lastN
 rw [hp]
 clear he he0 hlen hp
 go_enter Try.func28, Try.ntmps28
 go_wp2_with (go_at_call 39; refine (PAll.op_Forms.calls (f.length + 10) A0 c0 f _ _ (aN HCf.out hb0) hcf HFE.out).mono ?_; rintro e W1 ⟨rfl, hq1⟩; have hb1 := aG hb0 hq1; have bR1 := aC (cJ w _) hq1)
 obtain ⟨g, hgd⟩ : ∃ g, g = W1.heap.size := ⟨_, rfl⟩
 rw [← hgd]
 have hGl0 : w.heap.size + 1 ≤ g := by rw [hgd]; exact aV bR1
 have HST := mk_ (show Below w.heap.size w (W1.alloc (.cells #[.slice A0 f.length c0, .slice none 0 0] 82)) from aM hb1 _)
 have HSR := mk_ (show (W1.alloc (.cells #[.slice A0 f.length c0, .slice none 0 0] 82)).heap[w.heap.size]? = some (.cells #[.slice none 0 0, .int .i64 0, .int .i64 0] 66 (0, 0)) from aY bR1 _)
 have HSW : Aside0 (Wk (W1.alloc (.cells #[.slice A0 f.length c0, .slice none 0 0] 82)) g (w.heap.size + 1) (fun k => w.heap.size + 1 ≤ k ∧ k ≠ g) A0 c0 f (.slice none 0 0) []) :=
  ⟨⟨by rw [hgd]; exact cJ _ _, aN HCf.out HST.out, R_nil _ _ _ _ _, by simp; have := aV bR1; omega⟩⟩
 clear hgd
 go_loopg [34] (l.length + 1) (fun kq v34 W' => ∃ (i : Nat) (v : Value) (ds : List Nd), v34 = .int .i64 (i : Int) ∧ Aside0 (walkN f l [] = walkN f (l.drop i) ds) ∧ Aside0 (ds.length = i ∧ ∀ d ∈ ds, NdOk d) ∧ Aside0 (kq + i = l.length + 1 ∧ i ≤ l.length) ∧ Aside0 (Below w.heap.size w W') ∧ Aside0 (W'.heap[w.heap.size]? = some (.cells #[.slice none 0 0, .int .i64 0, .int .i64 0] 66 (0, 0))) ∧ Aside0 (Wk W' g (w.heap.size + 1) (fun k => w.heap.size + 1 ≤ k ∧ k ≠ g) A0 c0 f v ds))
 case atStart => exact ⟨0, _, [], rfl, ⟨rfl⟩, ⟨rfl, fun d hd => by cases hd⟩, ⟨by omega⟩, HST, HSR, HSW⟩
 case round =>
  clear HST HSR HSW
  obtain ⟨i, v, ds, rfl, HWN, HDL, HK, HB, HR0, HWK⟩ := hrel
  obtain ⟨k1, rfl⟩ : ∃ k1, gk = k1 + 1 := ⟨gk - 1, by have := HK.out; omega⟩
  obtain ⟨AD, cD, hvv, hcD, _⟩ := dE HWK.out.row
  subst hvv
  by_cases hi : i < l.length
  rotate_left
  ·
   have hie : i = l.length := by have := HK.out; omega
   subst hie
   rw [List.drop_length] at HWN
   have hb2' : decide ((l.length : Int) < (l.length : Int)) = false := decide_eq_false z5_
   have hb3' : decide (l.length < l.length) = false := decide_eq_false z5_
   have hle : ds.length = l.length := HDL.out.1
   obtain ⟨gd, cap, B, c, hvv, hcap, hc, h0, h1, h2, h3, h4, hC, hR⟩ := HWK.out.elem (l.length - 1) (by have := HKL.out.2; omega)
   have hsub : IntKind.i64.wrap ((l.length : Int) - 1) = ((l.length - 1 : Nat) : Int) := by have h5 := HKL.out; rw [IntWalk.i64_in _ z5_]; omega
   have hj0 : (0 ≤ ((l.length - 1 : Nat) : Int)) = True := eq_true z5_
   have hj1 : (((l.length - 1 : Nat) : Int) < (l.length : Int)) = True := eq_true (by have := HKL.out.2; omega)
   have hj2 : (((l.length - 1 : Nat) : Int) < (ds.length : Int)) = True := eq_true (by have := HKL.out.2; omega)
   have hR0 := aA HR0.out
   have fR0 := aD HR0.out
   have HRR := mk_ hR
   have hlst : (walkN f l []).1.getD (l.length - 1) zN = nth ds ((l.length - 1 : Nat) : Int) := by rw [HWN.out]; unfold nth; rw [Int.toNat_natCast]; rfl
   have HLS := mk_ hlst
   rw [hle] at h1
   clear hi hC hR hlst hc hcap hvv
   generalize nth ds ((l.length - 1 : Nat) : Int) = d at *
   go_wp2
   refine bodyPost_ret (aT rfl _ _ _ 66 #[.slice B d.1.length c, .int .i64 d.2.1, .int .i64 d.2.2] (0, 0) _ rfl (blkS HR0.out _ _ _) Try.underlying66 rfl z1_) rfl ?_
   rw [HLS.out, HWN.out]
   exact ⟨_, rfl, bT (R_mono (R_far (R_far (R_far HRR.out (p := ⟨w.heap.size, 0, none⟩) (fun k hk => by show k ≠ w.heap.size; omega) _) (p := ⟨w.heap.size, 1, none⟩) (fun k hk => by show k ≠ w.heap.size; omega) _) (p := ⟨w.heap.size, 2, none⟩) (fun k hk => by show k ≠ w.heap.size; omega) _) (fun _ _ => trivial)) z5_, aI (aI (aI HB.out z5_) z5_) z5_⟩
  obtain ⟨ad, A5, c5, A6, c6, hA, hx0, hx1, hx2, hx3, hx4, hx5, hx6, hx7, hx8, hx9, hx10, hx11, hx12, hx13, hl5, hC5, hl6, hC6⟩ := fB HCl.out (i : Int) z5_ z5_
  subst hA
  simp only [Int.toNat_natCast] at hx0 hx1 hx2 hx3 hx4 hx5 hx6 hx7 hx8 hx9 hx10 hx11 hx12 hx13
  replace hx0 := aE HB.out hx0
  replace hx1 := aE HB.out hx1
  replace hx2 := aE HB.out hx2
  replace hx3 := aE HB.out hx3
  replace hx4 := aE HB.out hx4
  replace hx5 := aE HB.out hx5
  replace hx6 := aE HB.out hx6
  replace hx7 := aE HB.out hx7
  replace hx8 := aE HB.out hx8
  replace hx9 := aE HB.out hx9
  replace hx10 := aE HB.out hx10
  replace hx11 := aE HB.out hx11
  replace hx12 := aE HB.out hx12
  replace hx13 := aE HB.out hx13
  have hxm : bM l (i : Int) ∈ l := fN (by rw [Int.toNat_natCast]; exact hi)
  have hdx : l.drop i = bM l (i : Int) :: l.drop (i + 1) := by
   rw [List.drop_eq_getElem_cons hi]
   congr 1
   show _ = l.getD ((i : Int).toNat) _
   rw [Int.toNat_natCast, List.getD_eq_getElem?_getD, List.getElem?_eq_getElem hi]; rfl
  have HLX := mk_ (HLN.out _ hxm)
  have HWX := mk_ (HWN.out.trans (by rw [hdx]; rfl) : walkN f l [] = if (look f ds (bM l (i : Int))).2 = 0 then walkN f (l.drop (i + 1)) (ds ++ [(look f ds (bM l (i : Int))).1]) else ([], (look f ds (bM l (i : Int))).2))
  have HLO := mk_ (fun e => look_ok HFO.out HDL.out.2 (bM l (i : Int)) e)
  have hb0' : (0 ≤ (i : Int)) = True := eq_true z5_
  have hb1' : ((i : Int) < (l.length : Int)) = True := eq_true z5_
  have hb2' : decide ((i : Int) < (l.length : Int)) = true := decide_eq_true z5_
  have hb3' : decide (i < l.length) = true := decide_eq_true hi
  have HI2 := mk_ hi
  have HC5 := mk_ hC5
  have HC6 := mk_ hC6
  have HL5 := mk_ hl5
  have HL6 := mk_ hl6
  clear hi hxm hdx hC5 hC6 hl5 hl6 HWN hcD
  generalize bM l (i : Int) = x at *
  generalize hz : look f ds x = r at *
  obtain ⟨⟨rt, rw_, rv⟩, re⟩ := r
  have HZ := mk_ hz
  clear hz
  have hdl : ds.length ≤ 1000 := by have := HDL.out.1; have := HKL.out.1; have := HI2.out; omega
  by_cases hre : re = 0
  case neg =>
   have HWY := mk_ (HWX.out.trans (if_neg hre))
   have hk1 : (re = 0) = False := eq_false hre
   have hk2 : decide (re = 0) = false := decide_eq_false hre
   have hk3 : (re != 0) = true := bne_iff_ne.2 hre
   have hk4 : (re == 0) = false := beq_eq_false_iff_ne.2 hre
   clear hre HWX HLO
   go_wp2_with (go_at_call 40; refine (look_calls (x := x) (ds := ds) (HWK.out.below (aM (Below.refl _ _) _)) hdl HDL.out.2 (aN HC5.out (aM HB.out _)) HL5.out HLX.out.1 (aN HC6.out (aM HB.out _)) HL6.out HLX.out.2 HLF.out HLT.out).mono ?_; rw [HZ.out]; rintro e V ⟨u, rfl, hru, hq⟩; obtain ⟨Au, cu, rfl⟩ := bE hru; have hqV := aG (aM (Below.refl _ _) _) hq; have hbV := aG HB.out hqV; have bRV := aC HR0.out hqV; have bGV := aC HWK.out.blk hqV; have hR0 := fun a i => aA (aY bRV a) i; have fR0 := fun a i => aD (aY bRV a) i)
   refine bodyPost_ret (aT rfl _ _ _ 66 #[.slice none 0 0, .int .i64 0, .int .i64 0] (0, 0) _ rfl (blkS (aY bRV _) _ _ _) Try.underlying66 rfl z1_) rfl ?_
   rw [HWY.out]
   exact ⟨_, rfl, R_nil _ _ _ _ _, aI (aI (aI (aM hbV _) z5_) z5_) z5_⟩
  subst hre
  have HWY := mk_ (HWX.out.trans (if_pos rfl))
  have HLO2 := mk_ (HLO.out rfl)
  clear HWX HLO
  go_wp2_with (go_at_call 40; refine (look_calls (x := x) (ds := ds) (HWK.out.below (aM (Below.refl _ _) _)) hdl HDL.out.2 (aN HC5.out (aM HB.out _)) HL5.out HLX.out.1 (aN HC6.out (aM HB.out _)) HL6.out HLX.out.2 HLF.out HLT.out).mono ?_; rw [HZ.out]; rintro e V ⟨u, rfl, hru, hq⟩; obtain ⟨Au, cu, rfl⟩ := bE hru; have hqV := aG (aM (Below.refl _ _) _) hq; have hbV := aG HB.out hqV; have bRV := aC HR0.out hqV; have bGV := aC HWK.out.blk hqV; have hR0 := fun a i => aA (aY bRV a) i; have fR0 := fun a i => aD (aY bRV a) i)
  have hGl := hGl0
  have hnk : ∀ k, (((w.heap.size + 1 ≤ k ∧ k ≠ g) ∧ some k ≠ (Value.slice AD ds.length cD).ownBlock) ∨ (wr.alloc (.cells #[.int .i64 x.f0, .int .i64 x.f1, .int .i64 x.f2, .int .i64 x.f3, .int .i64 x.f4.f0, .int .i64 x.f4.f1, .int .i64 x.f4.f2, .int .i64 x.f4.f3.f0, .int .i64 x.f4.f3.f1, .string x.f4.f3.f2, .slice A5 x.f5.length c5, .slice A6 x.f6.length c6, .int .i64 x.f7, .int .i64 x.f8] 34)).heap.size ≤ k) → (w.heap.size + 1 ≤ k ∧ k ≠ g) ∧ some k ≠ (Value.slice AD ds.length cD).ownBlock := fun k hk => by
   rcases hk with hk | hk
   ·
    exact hk
   ·
    have h1 := aV HWK.out.blk
    have h2 : wr.heap.size + 1 ≤ k := by have := hk; simp at this; omega
    exact ⟨⟨by have := HB.out.size; omega, by omega⟩, fun e => by have := (cF HWK.out.row).1 k e.symm; omega⟩
  refine cG (n := 11) (S := fun w' => w'.cell? ⟨g, 1, none⟩ = some (.slice AD ds.length cD) ∧ w'.cell? ⟨V.heap.size, 0, none⟩ = some (.slice Au rt.length cu) ∧ w'.cell? ⟨V.heap.size, 1, none⟩ = some (.int .i64 rw_) ∧ w'.cell? ⟨V.heap.size, 2, none⟩ = some (.int .i64 rv) ∧ True) (ds := [10]) (fun W => Below w.heap.size w W ∧ W.heap[w.heap.size]? = some (.cells #[.slice none 0 0, .int .i64 0, .int .i64 0] 66 (0, 0)) ∧ W.heap[g]? = some (.cells #[.slice A0 f.length c0, .slice AD ds.length cD] 82 (0, 0)) ∧ W.heap[V.heap.size]? = some (.cells #[.slice Au rt.length cu, .int .i64 rw_, .int .i64 rv] 66 (0, 0)) ∧ Below V.heap.size V W) (Steps.Bs 11 0) z1_ rfl rfl ⟨bP (aM hbV _), aU (aY bRV _), aU (aY bGV _), aU (cJ V _), bP (aM (Below.refl _ _) _)⟩ (fun W hJ => ?_) (fun W0 hJ => ?_)
  ·
   obtain ⟨hb0, bR0, bG0, bT0, hbVW⟩ := hJ
   exact ⟨aA bG0 1, aA bT0 0, aA bT0 1, aA bT0 2, trivial⟩
  obtain ⟨hb0, bR0, bG0, bT0, hbVW⟩ := hJ
  have hHeld0 : W0.cell? ⟨g, 1, none⟩ = some (.slice AD ds.length cD) ∧ W0.cell? ⟨V.heap.size, 0, none⟩ = some (.slice Au rt.length cu) ∧ W0.cell? ⟨V.heap.size, 1, none⟩ = some (.int .i64 rw_) ∧ W0.cell? ⟨V.heap.size, 2, none⟩ = some (.int .i64 rv) ∧ True := ⟨aA bG0 1, aA bT0 0, aA bT0 1, aA bT0 2, trivial⟩
  have hl0 : w.heap.size + 1 ≤ W0.heap.size := aV bR0
  refine sI 0 48 11 1 ?_
  refine sI 1 49 11 3 ?_
  refine sI 2 50 11 7 ?_
  refine sI 3 51 11 15 ?_
  refine sT hHeld0 4 52 11 31 ?_
  refine sT hHeld0 5 53 11 63 ?_
  refine one_ (i := 6) (N := some 54) (Steps.Bs 11 127) rfl rfl z1_ z10_ (fun K hK => ?_)
  refine fC (w1 := ?_) (v := ?_) z12_ rfl ?_ ?_
  rotate_left 2
  ·
   go_simp
   constructor
   ·
    rfl
   ·
    rfl
  refine hK.out _ _ ⟨al1 hHeld0.1 _, al1 hHeld0.2.1 _, al1 hHeld0.2.2.1 _, al1 hHeld0.2.2.2.1 _, trivial⟩ (fun _ => ?_)
  clear hK K
  refine nrm 54 ?_
  refine one_ (i := 7) (N := (some 55)) (Steps.Bs 11 255) rfl rfl z1_ z10_ (fun K hK => ?_)
  have hrow : kNd.R 66 W0 (w.heap.size + 1) (fun k => w.heap.size + 1 ≤ k ∧ k ≠ g) (.slice AD ds.length cD) ds := bG (bG HWK.out.row hqV) hbVW
  have hnew : kNd.M W0 (w.heap.size + 1) (fun k => (w.heap.size + 1 ≤ k ∧ k ≠ g) ∧ some k ≠ (Value.slice AD ds.length cD).ownBlock) (rt, rw_, rv) [.slice Au rt.length cu, .int .i64 rw_, .int .i64 rv] := kNd_mk (R_mono (bG hru hbVW) (fun k hk => hnk k hk))
  refine fW kNd (w0 := W0) (W := W0) (w.heap.size + 1) z12_ (.tmp 52) (.tmp 54) 80 66 (.agg #[.slice none 0 0, .int .i64 0, .int .i64 0]) 40 rfl Try.underlying80 infoNd rfl z10_ z5_ (.slice AD ds.length cD) ds (rt, rw_, rv) [.slice Au rt.length cu, .int .i64 rw_, .int .i64 rv] (fun k => w.heap.size + 1 ≤ k ∧ k ≠ g) (fun k => (w.heap.size + 1 ≤ k ∧ k ≠ g) ∧ some k ≠ (Value.slice AD ds.length cD).ownBlock) rfl rfl hnew (fun k hk => hk) (fun k hk => ⟨by omega, by have := aV bG0; omega⟩) hrow (Below.refl _ _) hl0 (by have := HDL.out.1; have := HKL.out.1; omega) ?_
  intro v2 W1 hr2 _ hg2 _
  obtain ⟨A9, c9, rfl⟩ := bE hr2
  rw [List.length_append, List.length_singleton] at hr2
  have hown : ∀ k, (Value.slice AD ds.length cD).ownBlock = some k → w.heap.size + 1 ≤ k ∧ k ≠ g ∧ k < V.heap.size := fun k hk => by have h1 := hrow.1 k hk; have h2 := (cF (bG HWK.out.row hqV)).1 k hk; exact ⟨h1.1, h1.2, h2.2.2.1⟩
  have hb1 : Below w.heap.size w W1 := pw_below_grown hb0 _ z5_ hg2 (fun k hk => by have := (hown k hk).1; omega)
  have bR1 : W1.heap[w.heap.size]? = _ := (hg2.block _ (aV bR0) (fun e => by have := hown _ e.symm; have := hGl; omega)).trans bR0
  have bG1 : W1.heap[g]? = _ := (hg2.block _ (aV bG0) (fun e => by have := hown _ e.symm; have := hGl; omega)).trans bG0
  have bT1 : W1.heap[V.heap.size]? = _ := (hg2.block _ (aV bT0) (fun e => by have := hown _ e.symm; have := hGl; omega)).trans bT0
  have hHeld1 : W1.cell? ⟨g, 1, none⟩ = some (.slice AD ds.length cD) ∧ W1.cell? ⟨V.heap.size, 0, none⟩ = some (.slice Au rt.length cu) ∧ W1.cell? ⟨V.heap.size, 1, none⟩ = some (.int .i64 rw_) ∧ W1.cell? ⟨V.heap.size, 2, none⟩ = some (.int .i64 rv) ∧ True := ⟨aA bG1 1, aA bT1 0, aA bT1 1, aA bT1 2, trivial⟩
  have hl1 : w.heap.size + 1 ≤ W1.heap.size := aV bR1
  refine hK.out _ _ hHeld1 (fun _ => ?_)
  clear hK K
  refine nrm 55 ?_
  refine sI 8 56 11 511 ?_
  refine sI 9 57 11 1023 ?_
  have hc10 := aA bG1 1
  have hf10 := aD bG1 1
  refine last_ (i := 10) (N := none) (Steps.Bs 11 2047) rfl rfl z1_ z10_ (fun K hK => ?_)
  refine skip_ (w1 := ?_) z12_ rfl ?_ ?_
  rotate_left
  ·
   go_simp
   rfl
  refine hK.out _ _ ?_
  clear hK K
  refine done_ z1_ ?_
  go_wp2
  go_roundg k1
  case measure => exact Nat.lt_succ_self _
  case rel =>
   refine ⟨i + 1, .slice A9 (ds.length + 1) c9, ds ++ [(rt, rw_, rv)], by rw [w64 z5_ (by have := HI2.out; have := HKL.out.1; omega)]; rfl, ⟨HWY.out⟩, ⟨by rw [List.length_append, HDL.out.1]; rfl, fun d hd => (List.mem_append.1 hd).elim (HDL.out.2 d) (fun e => by rw [List.mem_singleton.1 e]; exact HLO2.out)⟩, ⟨by have := HK.out; omega, by have := HI2.out; omega⟩, ⟨aI hb1 z5_⟩, ⟨(Below.heap_setCell _ _ _ _ (by show w.heap.size ≠ g; omega)).trans bR1⟩, ⟨⟨bS bG1 _, aN HCf.out (aI hb1 z5_), R_far hr2 (fun k hk => hk.2) _, by simp; omega⟩⟩⟩
end Go.Proofs.Ytimbbaoodjhdoaa.Plan
end
