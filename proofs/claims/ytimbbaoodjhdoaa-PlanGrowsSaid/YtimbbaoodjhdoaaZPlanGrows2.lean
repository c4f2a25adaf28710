-- wip/slice2.py
import Derived.Test.YtimbbaoodjhdoaaZPlanGrows1

section
namespace Go.Proofs.Ytimbbaoodjhdoaa.PAll
open Go.RowKit Go.Proofs.YtimbbaoodjhdoaaW.PrintWords Go.Proofs.YtimbbaoodjhdoaaW.PrintLast Go.Proofs.YtimbbaoodjhdoaaW.PrintMore Go.Proofs.Ytimbbaoodjhdoaa.ZipT Go.Proofs.YtimbbaoodjhdoaaW.PrintWords.Kd Go.Proofs.YtimbbaoodjhdoaaW.PrintMore.Kd
attribute [local go_sem] max2_int min2_int max_two min_two max_three min_three max_four min_four   -- for this text's walks alone
set_option linter.unusedVariables false
set_option linter.unusedSimpArgs false
mutual
def raddlelaw20_PlanGrows.j0 : Nat → List (S54) → Int → Bool → Option (Bool)
 | 0, _, _, _ => none
 | k + 1, x0, x1, x25 => if x25 = true then (some true) else ((raddleref14_Plan.f (([(⟨1, 0, 0, 0, (⟨0, 0, 0, (⟨0, 0, (⟨#[]⟩ : ByteArray)⟩ : S29)⟩ : S31), ([] : List Int), ([] : List Int), 0, 0⟩ : S34)] : List (S34))) x0).bind fun bt343 => (if bt343.2 = 0 then (raddlelaw20_PlanGrows.l0 k x0 (wrap64 (Int.tmod (IntKind.u64.wrap (x1)) 6)) (([(⟨1, 0, 0, 0, (⟨0, 0, 0, (⟨0, 0, (⟨#[]⟩ : ByteArray)⟩ : S29)⟩ : S31), ([] : List Int), ([] : List Int), 0, 0⟩ : S34), (⟨3, 0, 0, 0, (⟨0, 0, 0, (⟨0, 0, (⟨#[]⟩ : ByteArray)⟩ : S29)⟩ : S31), ([] : List Int), ([] : List Int), 0, 0⟩ : S34)] : List (S34))) 0) else (some true)))
def raddlelaw20_PlanGrows.l0 : Nat → List (S54) → Int → List (S34) → Int → Option (Bool)
 | 0, _, _, _, _ => none
 | k + 1, x0, x1, x7, x8 => if x8 < x1 then (if x7.length < 925904528653 then (raddlelaw20_PlanGrows.l0 k x0 x1 (x7 ++ [(⟨4, wrap64 ((x7.length : Int) - 1), 1, 0, (⟨0, 0, 0, (⟨0, 0, (⟨#[]⟩ : ByteArray)⟩ : S29)⟩ : S31), ([] : List Int), ([] : List Int), 0, 0⟩ : S34)]) (wrap64 (x8 + 1))) else (none)) else ((plan_Check.f x7 x0).bind fun bt353 => ((plan_Bound.f x7 x0).bind fun bt357 => (if x1 ≥ 5 then (if bt353.2 = 11 then (if bt357.2.2 = 11 then ((raddlelaw20_wakes.f k).bind fun t360 => (some t360)) else (some false)) else (some false)) else (if bt353.2 = 0 then (if bt357.2.2 = 0 then (if (bt353.1.length : Int) = 0 then (if 0 ≤ (IntKind.u64.wrap (wrap64 (10 * (wrap64 (x1 + 1))))) then (if bt357.1 = (shl .i64 1 (IntKind.u64.wrap (wrap64 (10 * (wrap64 (x1 + 1)))))) then ((raddlelaw20_wakes.f k).bind fun t361 => (some t361)) else (some false)) else (none)) else (some false)) else (some false)) else (some false)))))
end
def raddlelaw20_PlanGrows.f (k : Nat) (l0 : List (S54)) (a1 : Int) : Option (Bool) := (raddlelaw07_HeavyForms.f k l0).bind fun t339 => (if t339 = true then (raddlelaw20_PlanGrows.j0 k l0 a1 true) else (if (l0.length : Int) < 1 then (raddlelaw20_PlanGrows.j0 k l0 a1 true) else (raddlelaw20_PlanGrows.j0 k l0 a1 (decide ((l0.length : Int) > 3)))))
set_option maxHeartbeats 8000000 in
set_option maxRecDepth 100000 in
theorem raddlelaw20_PlanGrows.calls (k : Nat) (A0 : Option Addr) (c0 : Nat) (l0 : List (S54)) (a1 : Int) (r : Bool) (w : World) (hr0 : Kd.C k54 w A0 l0.length l0) (hc0 : l0.length ≤ c0) (hrt : r = true) (h : raddlelaw20_PlanGrows.f k l0 a1 = some r) :
  Calls Try.prog 3 #[.slice A0 l0.length c0, .int .i64 a1] w fun e w' => e = .returned (.bool r) ∧ Below w.heap.size w w' := by
 have hu34 := Try.underlying34
 have HR0 := mk_ hr0
 have HC0 := mk_ hc0
 clear hr0 hc0
 have HB := mk_ (Below.refl w.heap.size w)
 have H : ((raddlelaw07_HeavyForms.f k l0).bind fun t339 => (if t339 = true then (raddlelaw20_PlanGrows.j0 k l0 a1 true) else (if (l0.length : Int) < 1 then (raddlelaw20_PlanGrows.j0 k l0 a1 true) else (raddlelaw20_PlanGrows.j0 k l0 a1 (decide ((l0.length : Int) > 3)))))) = some r := h
 clear h
 have HC3 := mk_ H
 clear H
 go_enter Try.func3, Try.ntmps3
 go_upto_region 1 with (fail)
 go_cut [25] (fun v25 wc => ∃ (kq : Nat) (x25_2 : Bool), v25 = .bool x25_2 ∧ Aside0 (raddlelaw20_PlanGrows.j0 kq l0 a1 x25_2 = some r) ∧ Aside0 (kq ≤ k) ∧ Aside0 (Below w.heap.size w wc))
 case first =>
  have H := HC3.out
  clear HC3
  replace H := Option.bind_eq_some_iff.mp H
  obtain ⟨t339, A40, H⟩ := H
  replace H : (if t339 = true then (raddlelaw20_PlanGrows.j0 k l0 a1 true) else (if (l0.length : Int) < 1 then (raddlelaw20_PlanGrows.j0 k l0 a1 true) else (raddlelaw20_PlanGrows.j0 k l0 a1 (decide ((l0.length : Int) > 3))))) = some r := H
  have A4 := mk_ A40
  clear A40
  by_cases c5 : t339 = true
  ·
   subst c5
   have H1 : (raddlelaw20_PlanGrows.j0 k l0 a1 true) = some r := by rw [if_pos rfl] at H; exact H
   clear H
   have H := H1
   clear H1
   have H' := mk_ H
   clear H
   go_wp2_with (first | ((with_reducible refine gate_callee (f := 10) rfl ?_); refine Short.gL (some 15) Try.func10 #[.slice A0 l0.length c0] (h := ?_); (with_reducible refine (raddlelaw07_HeavyForms.calls k _ _ l0 true _ ?side1 ?side2 A4.out).mono ?_); (case side1 => exact cX_ (C_below HR0.out HB.out)); (case side2 => exact HC0.out); rintro e w' ⟨rfl, ⟨nd, rfl⟩⟩; refine ⟨_, rfl, ?_⟩))
   go_meet
   case rel => exact ⟨_, (true), z9, H', ⟨by first | omega | exact Nat.le_refl _⟩, ⟨Short.hB HB⟩⟩
  ·
   replace c5 := Bool.eq_false_iff.mpr c5
   subst c5
   have H1 : (if (l0.length : Int) < 1 then (raddlelaw20_PlanGrows.j0 k l0 a1 true) else (raddlelaw20_PlanGrows.j0 k l0 a1 (decide ((l0.length : Int) > 3)))) = some r := by rw [if_neg (show ¬ (false = true) by decide)] at H; exact H
   clear H
   have H := H1
   clear H1
   by_cases c6 : (l0.length : Int) < 1
   ·
    rw [if_pos c6] at H
    have c6b0 : decide ((l0.length : Int) < 1) = true := decide_eq_true c6
    have c6b1 : decide (l0.length < 1) = true := decide_eq_true z5
    clear c6
    (first | rw [c6b0] | (simp only [i64_w, i32_w]; rw [c6b0]) | skip)
    have H' := mk_ H
    clear H
    go_wp2_with (first | ((with_reducible refine gate_callee (f := 10) rfl ?_); refine Short.gL (some 15) Try.func10 #[.slice A0 l0.length c0] (h := ?_); (with_reducible refine (raddlelaw07_HeavyForms.calls k _ _ l0 false _ ?side1 ?side2 A4.out).mono ?_); (case side1 => exact cX_ (C_below HR0.out HB.out)); (case side2 => exact HC0.out); rintro e w' ⟨rfl, ⟨nd, rfl⟩⟩; refine ⟨_, rfl, ?_⟩))
    go_meet
    case rel => exact ⟨_, (true), z9, H', ⟨by first | omega | exact Nat.le_refl _⟩, ⟨Short.hB HB⟩⟩
   ·
    rw [if_neg c6] at H
    have c6b0 : decide ((l0.length : Int) < 1) = false := decide_eq_false c6
    have c6b1 : decide (l0.length < 1) = false := decide_eq_false z5
    clear c6
    (first | rw [c6b0] | (simp only [i64_w, i32_w]; rw [c6b0]) | skip)
    have H' := mk_ H
    clear H
    go_wp2_with (first | ((with_reducible refine gate_callee (f := 10) rfl ?_); refine Short.gL (some 15) Try.func10 #[.slice A0 l0.length c0] (h := ?_); (with_reducible refine (raddlelaw07_HeavyForms.calls k _ _ l0 false _ ?side1 ?side2 A4.out).mono ?_); (case side1 => exact cX_ (C_below HR0.out HB.out)); (case side2 => exact HC0.out); rintro e w' ⟨rfl, ⟨nd, rfl⟩⟩; refine ⟨_, rfl, ?_⟩))
    go_meet
    case rel => exact ⟨_, (decide ((l0.length : Int) > 3)), z9, H', ⟨by first | omega | exact Nat.le_refl _⟩, ⟨Short.hB HB⟩⟩
 case rest =>
  clear HC3
  try clear c1
  try clear p2
  try clear c3
  try clear c5
  try clear c6
  try clear c6b0
  try clear c6b1
  obtain ⟨kq, x25_2, rfl, HA, HJ2, HB⟩ := hcut
  cases kq with
  | zero => exact absurd HA.out (by simp [raddlelaw20_PlanGrows.j0])
  | succ kj2 =>
   have H := HA.out
   clear HA
   simp only [raddlelaw20_PlanGrows.j0] at H
   by_cases c7 : x25_2 = true
   ·
    subst c7
    have H1 : (some true) = some r := by rw [if_pos rfl] at H; exact H
    clear H
    have H := H1
    clear H1
    obtain rfl := Option.some.inj H
    go_wp2
    go_ret
    exact ⟨by first | rfl | (simp [errW_none, errW_some] <;> rfl) | (simp [*, errW_none, errW_some] <;> rfl), Short.hB HB⟩
   ·
    replace c7 := Bool.eq_false_iff.mpr c7
    subst c7
    have H1 : ((raddleref14_Plan.f (([(⟨1, 0, 0, 0, (⟨0, 0, 0, (⟨0, 0, (⟨#[]⟩ : ByteArray)⟩ : S29)⟩ : S31), ([] : List Int), ([] : List Int), 0, 0⟩ : S34)] : List (S34))) l0).bind fun bt343 => (if bt343.2 = 0 then (raddlelaw20_PlanGrows.l0 kj2 l0 (wrap64 (Int.tmod (IntKind.u64.wrap (a1)) 6)) (([(⟨1, 0, 0, 0, (⟨0, 0, 0, (⟨0, 0, (⟨#[]⟩ : ByteArray)⟩ : S29)⟩ : S31), ([] : List Int), ([] : List Int), 0, 0⟩ : S34), (⟨3, 0, 0, 0, (⟨0, 0, 0, (⟨0, 0, (⟨#[]⟩ : ByteArray)⟩ : S29)⟩ : S31), ([] : List Int), ([] : List Int), 0, 0⟩ : S34)] : List (S34))) 0) else (some true))) = some r := by rw [if_neg (show ¬ (false = true) by decide)] at H; exact H
    clear H
    have H := H1
    clear H1
    obtain ⟨y340, hy340⟩ : ∃ y_ : List (S34), y_ = (([(⟨1, 0, 0, 0, (⟨0, 0, 0, (⟨0, 0, (⟨#[]⟩ : ByteArray)⟩ : S29)⟩ : S31), ([] : List Int), ([] : List Int), 0, 0⟩ : S34)] : List (S34))) := ⟨_, rfl⟩
    replace H : ((raddleref14_Plan.f y340 l0).bind fun bt343 => (if bt343.2 = 0 then (raddlelaw20_PlanGrows.l0 kj2 l0 (wrap64 (Int.tmod (IntKind.u64.wrap (a1)) 6)) (([(⟨1, 0, 0, 0, (⟨0, 0, 0, (⟨0, 0, (⟨#[]⟩ : ByteArray)⟩ : S29)⟩ : S31), ([] : List Int), ([] : List Int), 0, 0⟩ : S34), (⟨3, 0, 0, 0, (⟨0, 0, 0, (⟨0, 0, (⟨#[]⟩ : ByteArray)⟩ : S29)⟩ : S31), ([] : List Int), ([] : List Int), 0, 0⟩ : S34)] : List (S34))) 0) else (some true))) = some r := by first | (rw [hy340]; with_reducible exact H) | (have H2_ := (Option.bind_some _ _).symm.trans H; rw [hy340]; with_reducible exact H2_) | (have H2_ := (Option.bind_some _ _).symm.trans H; with_reducible exact H2_) | with_reducible exact H | (rw [hy340]; exact H) | exact H
    have Ny340 := mk_ hy340
    clear hy340
    replace H := Option.bind_eq_some_iff.mp H
    obtain ⟨⟨t343, t344⟩, A80, H⟩ := H
    replace H : (if t344 = 0 then (raddlelaw20_PlanGrows.l0 kj2 l0 (wrap64 (Int.tmod (IntKind.u64.wrap (a1)) 6)) (([(⟨1, 0, 0, 0, (⟨0, 0, 0, (⟨0, 0, (⟨#[]⟩ : ByteArray)⟩ : S29)⟩ : S31), ([] : List Int), ([] : List Int), 0, 0⟩ : S34), (⟨3, 0, 0, 0, (⟨0, 0, 0, (⟨0, 0, (⟨#[]⟩ : ByteArray)⟩ : S29)⟩ : S31), ([] : List Int), ([] : List Int), 0, 0⟩ : S34)] : List (S34))) 0) else (some true)) = some r := H
    have A8 := mk_ A80
    clear A80
    by_cases c9 : t344 = 0
    ·
     rw [if_pos c9] at H
     have c9b0 : (t344 == 0) = true := beq_iff_eq.mpr c9
     have c9b1 : (t344 != 0) = false := bne_eq_false_iff_eq.mpr c9
     clear c9
     obtain ⟨y347, hy347⟩ : ∃ y_ : List (S34), y_ = (([(⟨1, 0, 0, 0, (⟨0, 0, 0, (⟨0, 0, (⟨#[]⟩ : ByteArray)⟩ : S29)⟩ : S31), ([] : List Int), ([] : List Int), 0, 0⟩ : S34), (⟨3, 0, 0, 0, (⟨0, 0, 0, (⟨0, 0, (⟨#[]⟩ : ByteArray)⟩ : S29)⟩ : S31), ([] : List Int), ([] : List Int), 0, 0⟩ : S34)] : List (S34))) := ⟨_, rfl⟩
     replace H : (raddlelaw20_PlanGrows.l0 kj2 l0 (wrap64 (Int.tmod (IntKind.u64.wrap (a1)) 6)) y347 0) = some r := by first | (rw [hy347]; with_reducible exact H) | (have H2_ := (Option.bind_some _ _).symm.trans H; rw [hy347]; with_reducible exact H2_) | (have H2_ := (Option.bind_some _ _).symm.trans H; with_reducible exact H2_) | with_reducible exact H | (rw [hy347]; exact H) | exact H
     have Ny347 := mk_ hy347
     clear hy347
     have H' := mk_ H
     clear H
     go_wp2_with (first | ((with_reducible refine gate_dst (N := 28) rfl ?_); refine S_lit k34 _ 34 ?hg (N := 28) ?hd (xs := ([(⟨1, 0, 0, 0, (⟨0, 0, 0, (⟨0, 0, (⟨#[]⟩ : ByteArray)⟩ : S29)⟩ : S31), ([] : List Int), ([] : List Int), 0, 0⟩ : S34)] : List (S34))) (inner := [.int .i64 1, .int .i64 0, .int .i64 0, .int .i64 0, .int .i64 0, .int .i64 0, .int .i64 0, .int .i64 0, .int .i64 0, .string (⟨#[]⟩ : ByteArray), .slice none 0 0, .slice none 0 0, .int .i64 0, .int .i64 0]) (ok := fun _ => True) (okp := fun _ => True) ?hr ?hp (fun _ hk => hk) trivial (Below.refl _ _) (Nat.le_refl _) (by simp) ?_; (case hd => rfl); (case hg => rfl); (case hr => first | (go_simp; done) | (go_simp; rfl)); (case hp => exact (Reps.front (show Kd.M k34 _ _ _ (⟨1, 0, 0, 0, (⟨0, 0, 0, (⟨0, 0, (⟨#[]⟩ : ByteArray)⟩ : S29)⟩ : S31), ([] : List Int), ([] : List Int), 0, 0⟩ : S34) [.int .i64 1, .int .i64 0, .int .i64 0, .int .i64 0, .int .i64 0, .int .i64 0, .int .i64 0, .int .i64 0, .int .i64 0, .string (⟨#[]⟩ : ByteArray), .slice none 0 0, .slice none 0 0, .int .i64 0, .int .i64 0] from (k34_mkM _ _ _ (⟨1, 0, 0, 0, (⟨0, 0, 0, (⟨0, 0, (⟨#[]⟩ : ByteArray)⟩ : S29)⟩ : S31), ([] : List Int), ([] : List Int), 0, 0⟩ : S34) (R_nil _ _ _ _ _) (R_nil _ _ _ _ _))) rfl (Reps.none _ _) rfl)); intro v341 w10 ho11 hb hg_ hnew_; clear hg_ hnew_; (first | rw [← Ny340.out] at ho11 | (simp only [Int.reduceToNat] at ho11; rw [← Ny340.out] at ho11)); have n0_ := mk_ (S_lower ho11 (below_size (Short.hB HB))); have n1_ := mk_ (below_step (Short.hB HB) hb); clear HB; revert n0_ n1_; intro HO342 HB; clear hb ho11; obtain ⟨Ao12, co12, eo12⟩ := S_slice HO342.out; subst eo12) | ((with_reducible refine gate_callee (f := 11) rfl ?_); refine Short.gL (some 30) Try.func11 #[.slice Ao12 y340.length co12, .slice A0 l0.length c0] (h := ?_); (with_reducible refine (raddleref14_Plan.calls _ _ y340 _ _ l0 t343 t344 _ ?side1 ?side2 ?side3 ?side4 A8.out).mono ?_); (case side1 => exact cX_ (S_reads' HO342.out).2.2); (case side2 => exact (S_reads' HO342.out).2.1); (case side3 => exact cX_ (C_below HR0.out HB.out)); (case side4 => exact HC0.out); rintro e w13 ⟨v345, rfl, ho0, hb⟩; refine ⟨_, rfl, ?_⟩; have n0_ := mk_ (S_below (by (with_reducible repeat (first | apply S_alloc | apply S_drewN | apply S_drew)); exact HO342.out) hb); have n1_ := mk_ (S_lower ho0 (below_size (Short.hB HB))); have n2_ := mk_ (below_step (Short.hB HB) hb); clear HO342 HB; revert n0_ n1_ n2_; intro HO342 HO346 HB; (try clear hb ho0)) | ((with_reducible refine gate_dst (N := 41) rfl ?_); refine S_lit k34 _ 34 ?hg (N := 41) ?hd (xs := ([(⟨1, 0, 0, 0, (⟨0, 0, 0, (⟨0, 0, (⟨#[]⟩ : ByteArray)⟩ : S29)⟩ : S31), ([] : List Int), ([] : List Int), 0, 0⟩ : S34), (⟨3, 0, 0, 0, (⟨0, 0, 0, (⟨0, 0, (⟨#[]⟩ : ByteArray)⟩ : S29)⟩ : S31), ([] : List Int), ([] : List Int), 0, 0⟩ : S34)] : List (S34))) (inner := [.int .i64 1, .int .i64 0, .int .i64 0, .int .i64 0, .int .i64 0, .int .i64 0, .int .i64 0, .int .i64 0, .int .i64 0, .string (⟨#[]⟩ : ByteArray), .slice none 0 0, .slice none 0 0, .int .i64 0, .int .i64 0, .int .i64 3, .int .i64 0, .int .i64 0, .int .i64 0, .int .i64 0, .int .i64 0, .int .i64 0, .int .i64 0, .int .i64 0, .string (⟨#[]⟩ : ByteArray), .slice none 0 0, .slice none 0 0, .int .i64 0, .int .i64 0]) (ok := fun _ => True) (okp := fun _ => True) ?hr ?hp (fun _ hk => hk) trivial (Below.refl _ _) (Nat.le_refl _) (by simp) ?_; (case hd => rfl); (case hg => rfl); (case hr => first | (go_simp; done) | (go_simp; rfl)); (case hp => exact (Reps.front (show Kd.M k34 _ _ _ (⟨1, 0, 0, 0, (⟨0, 0, 0, (⟨0, 0, (⟨#[]⟩ : ByteArray)⟩ : S29)⟩ : S31), ([] : List Int), ([] : List Int), 0, 0⟩ : S34) [.int .i64 1, .int .i64 0, .int .i64 0, .int .i64 0, .int .i64 0, .int .i64 0, .int .i64 0, .int .i64 0, .int .i64 0, .string (⟨#[]⟩ : ByteArray), .slice none 0 0, .slice none 0 0, .int .i64 0, .int .i64 0] from (k34_mkM _ _ _ (⟨1, 0, 0, 0, (⟨0, 0, 0, (⟨0, 0, (⟨#[]⟩ : ByteArray)⟩ : S29)⟩ : S31), ([] : List Int), ([] : List Int), 0, 0⟩ : S34) (R_nil _ _ _ _ _) (R_nil _ _ _ _ _))) rfl (Reps.front (show Kd.M k34 _ _ _ (⟨3, 0, 0, 0, (⟨0, 0, 0, (⟨0, 0, (⟨#[]⟩ : ByteArray)⟩ : S29)⟩ : S31), ([] : List Int), ([] : List Int), 0, 0⟩ : S34) [.int .i64 3, .int .i64 0, .int .i64 0, .int .i64 0, .int .i64 0, .int .i64 0, .int .i64 0, .int .i64 0, .int .i64 0, .string (⟨#[]⟩ : ByteArray), .slice none 0 0, .slice none 0 0, .int .i64 0, .int .i64 0] from (k34_mkM _ _ _ (⟨3, 0, 0, 0, (⟨0, 0, 0, (⟨0, 0, (⟨#[]⟩ : ByteArray)⟩ : S29)⟩ : S31), ([] : List Int), ([] : List Int), 0, 0⟩ : S34) (R_nil _ _ _ _ _) (R_nil _ _ _ _ _))) rfl (Reps.none _ _) rfl) rfl)); intro v348 w14 ho15 hb hg_ hnew_; clear hg_ hnew_; (first | rw [← Ny347.out] at ho15 | (simp only [Int.reduceToNat] at ho15; rw [← Ny347.out] at ho15)); have n0_ := mk_ (S_elder' (by (with_reducible repeat (first | apply S_alloc | apply S_drewN | apply S_drew)); exact HO342.out) (S_base ho15) hb); have n1_ := mk_ (S_below (by (with_reducible repeat (first | apply S_alloc | apply S_drewN | apply S_drew)); exact HO346.out) hb); have n2_ := mk_ (S_lower (S_new' ho15 (S_lt (by (with_reducible repeat (first | apply S_alloc | apply S_drewN | apply S_drew)); exact HO342.out))) (below_size (Short.hB HB))); have n3_ := mk_ (below_step (Short.hB HB) hb); clear HO342 HO346 HB; revert n0_ n1_ n2_ n3_; intro HO342 HO346 HO349 HB; clear hb ho15))
     go_loopg [7, 8] kj2 (fun kq v7 v8 w' => ∃ (x7_2 : List (S34)) (x8_2 : Int), v8 = .int .i64 x8_2 ∧ Aside0 (raddlelaw20_PlanGrows.l0 kq l0 (wrap64 (Int.tmod (IntKind.u64.wrap (a1)) 6)) x7_2 x8_2 = some r) ∧ Aside0 (kq ≤ kj2) ∧ Aside0 (Kd.S k34 34 w' w.heap.size (fun _ => True) v7 x7_2) ∧ Aside0 (Below w.heap.size w w'))
     case atStart => exact ⟨(y347), (0), z9, H', ⟨Nat.le_refl _⟩, ⟨by (with_reducible repeat (first | apply S_alloc | apply S_drewN | apply S_drew)); exact S_mono HO349.out (fun _ hk => trivial)⟩, ⟨Short.hB HB⟩⟩
     case round =>
      clear H'
      try clear c1
      try clear p2
      try clear c3
      try clear c5
      try clear c6
      try clear c6b0
      try clear c6b1
      try clear p6
      try clear c7
      try clear c9
      try clear c9b0
      try clear c9b1
      try clear c10
      try clear c11
      try clear p2
      obtain ⟨x7_2, x8_2, rfl, HA, HK2, HO_7, HB⟩ := hrel
      cases gk with
      | zero => exact absurd HA.out (by simp [raddlelaw20_PlanGrows.l0])
      | succ k2 =>
       have H := HA.out
       clear HA
       simp only [raddlelaw20_PlanGrows.l0] at H
       by_cases c16 : x8_2 < (wrap64 (Int.tmod (IntKind.u64.wrap (a1)) 6))
       ·
        rw [if_pos c16] at H
        have c16b0 : decide (x8_2 < (wrap64 (Int.tmod (IntKind.u64.wrap (a1)) 6))) = true := decide_eq_true c16
        clear c16
        by_cases c17 : x7_2.length < 925904528653
        ·
         rw [if_pos c17] at H
         have LMc17 := mk_ c17
         clear c17
         obtain ⟨y350, hy350⟩ : ∃ y_ : List (S34), y_ = (x7_2 ++ [(⟨4, wrap64 ((x7_2.length : Int) - 1), 1, 0, (⟨0, 0, 0, (⟨0, 0, (⟨#[]⟩ : ByteArray)⟩ : S29)⟩ : S31), ([] : List Int), ([] : List Int), 0, 0⟩ : S34)]) := ⟨_, rfl⟩
         replace H : (raddlelaw20_PlanGrows.l0 k2 l0 (wrap64 (Int.tmod (IntKind.u64.wrap (a1)) 6)) y350 (wrap64 (x8_2 + 1))) = some r := by first | (rw [hy350]; with_reducible exact H) | (have H2_ := (Option.bind_some _ _).symm.trans H; rw [hy350]; with_reducible exact H2_) | (have H2_ := (Option.bind_some _ _).symm.trans H; with_reducible exact H2_) | with_reducible exact H | (rw [hy350]; exact H) | exact H
         have Ny350 := mk_ hy350
         clear hy350
         have H' := mk_ H
         clear H
         obtain ⟨Ao18, co18, eo18⟩ := S_slice HO_7.out
         subst eo18
         go_wp2_with (first | ((with_reducible refine gate_builtin (b := .append) (xs := #[.tmp 47, .tmp 52]) rfl ?_); at_builtin; refine S_append k34 (w0 := w) w.heap.size rfl (.tmp 47) (.tmp 52) 35 34 (.agg #[(.int .i64 0), (.int .i64 0), (.int .i64 0), (.int .i64 0), (.int .i64 0), (.int .i64 0), (.int .i64 0), (.int .i64 0), (.int .i64 0), (.string ⟨#[]⟩), (.slice none 0 0), (.slice none 0 0), (.int .i64 0), (.int .i64 0)]) 152 rfl Try.underlying35 info34 rfl z10 z5 (.slice Ao18 x7_2.length co18) x7_2 (⟨4, wrap64 ((x7_2.length : Int) - 1), 1, 0, (⟨0, 0, 0, (⟨0, 0, (⟨#[]⟩ : ByteArray)⟩ : S29)⟩ : S31), ([] : List Int), ([] : List Int), 0, 0⟩ : S34) [.int .i64 4, .int .i64 (wrap64 ((x7_2.length : Int) - 1)), .int .i64 1, .int .i64 0, .int .i64 0, .int .i64 0, .int .i64 0, .int .i64 0, .int .i64 0, .string (⟨#[]⟩ : ByteArray), .slice none 0 0, .slice none 0 0, .int .i64 0, .int .i64 0] (fun _ => True) (fun _ => False) rfl rfl ?aP (fun k_ hk_ => hk_.elim) ?aF ?aO ?aB ?aS ?aL ?_; (case aP => exact k34_mkM _ _ _ (⟨4, wrap64 ((x7_2.length : Int) - 1), 1, 0, (⟨0, 0, 0, (⟨0, 0, (⟨#[]⟩ : ByteArray)⟩ : S29)⟩ : S31), ([] : List Int), ([] : List Int), 0, 0⟩ : S34) (R_nil _ _ _ _ _) (R_nil _ _ _ _ _)); (case aB => exact (Short.hB HB)); (case aF => exact (fun _ _ => trivial)); (case aO => exact (by (with_reducible repeat (first | apply S_alloc | apply S_drewN | apply S_drew)); exact S_mono HO_7.out (fun k_ hk => ⟨trivial, fun e_ => e_⟩))); (case aS => exact (below_size (Short.hB HB))); (case aL => have := LMc17.out; omega); intro v351 w19 ho hb hg hat; rw [← Ny350.out] at ho; have n0_ := mk_ (hb); have n1_ := mk_ (ho); clear HB HO_7; revert n0_ n1_; intro HB HO352; clear ho hb hg hat))
         go_roundg k2
         case measure => have := HJ2.out; have := HK2.out; omega
         case rel => exact ⟨(y350), (wrap64 (x8_2 + 1)), z9, H', ⟨by have := HJ2.out; have := HK2.out; omega⟩, ⟨by (with_reducible repeat (first | apply S_alloc | apply S_drewN | apply S_drew)); exact HO352.out⟩, ⟨Short.hB HB⟩⟩
        ·
         rw [if_neg c17] at H
         exact absurd H (by simp)
       ·
        rw [if_neg c16] at H
        have c16b0 : decide (x8_2 < (wrap64 (Int.tmod (IntKind.u64.wrap (a1)) 6))) = false := decide_eq_false c16
        clear c16
        replace H := Option.bind_eq_some_iff.mp H
        obtain ⟨⟨t353, t354⟩, A200, H⟩ := H
        replace H : ((plan_Bound.f x7_2 l0).bind fun bt357 => (if (wrap64 (Int.tmod (IntKind.u64.wrap (a1)) 6)) ≥ 5 then (if t354 = 11 then (if bt357.2.2 = 11 then ((raddlelaw20_wakes.f k2).bind fun t360 => (some t360)) else (some false)) else (some false)) else (if t354 = 0 then (if bt357.2.2 = 0 then (if (t353.length : Int) = 0 then (if 0 ≤ (IntKind.u64.wrap (wrap64 (10 * (wrap64 ((wrap64 (Int.tmod (IntKind.u64.wrap (a1)) 6)) + 1))))) then (if bt357.1 = (shl .i64 1 (IntKind.u64.wrap (wrap64 (10 * (wrap64 ((wrap64 (Int.tmod (IntKind.u64.wrap (a1)) 6)) + 1)))))) then ((raddlelaw20_wakes.f k2).bind fun t361 => (some t361)) else (some false)) else (none)) else (some false)) else (some false)) else (some false)))) = some r := H
        have A20 := mk_ A200
        clear A200
        replace H := Option.bind_eq_some_iff.mp H
        obtain ⟨⟨t357, t358, t359⟩, A210, H⟩ := H
        replace H : (if (wrap64 (Int.tmod (IntKind.u64.wrap (a1)) 6)) ≥ 5 then (if t354 = 11 then (if t359 = 11 then ((raddlelaw20_wakes.f k2).bind fun t360 => (some t360)) else (some false)) else (some false)) else (if t354 = 0 then (if t359 = 0 then (if (t353.length : Int) = 0 then (if 0 ≤ (IntKind.u64.wrap (wrap64 (10 * (wrap64 ((wrap64 (Int.tmod (IntKind.u64.wrap (a1)) 6)) + 1))))) then (if t357 = (shl .i64 1 (IntKind.u64.wrap (wrap64 (10 * (wrap64 ((wrap64 (Int.tmod (IntKind.u64.wrap (a1)) 6)) + 1)))))) then ((raddlelaw20_wakes.f k2).bind fun t361 => (some t361)) else (some false)) else (none)) else (some false)) else (some false)) else (some false))) = some r := H
        have A21 := mk_ A210
        clear A210
        by_cases c22 : (wrap64 (Int.tmod (IntKind.u64.wrap (a1)) 6)) ≥ 5
        ·
         rw [if_pos c22] at H
         have c22b0 : decide (5 ≤ (wrap64 (Int.tmod (IntKind.u64.wrap (a1)) 6))) = true := decide_eq_true c22
         clear c22
         by_cases c23 : t354 = 11
         ·
          rw [if_pos c23] at H
          have c23b0 : (t354 == 11) = true := beq_iff_eq.mpr c23
          have c23b1 : (t354 != 11) = false := bne_eq_false_iff_eq.mpr c23
          clear c23
          by_cases c24 : t359 = 11
          ·
           rw [if_pos c24] at H
           have c24b0 : (t359 == 11) = true := beq_iff_eq.mpr c24
           have c24b1 : (t359 != 11) = false := bne_eq_false_iff_eq.mpr c24
           clear c24
           replace H := Option.bind_eq_some_iff.mp H
           obtain ⟨t360, A250, H⟩ := H
           replace H : (some t360) = some r := H
           have A25 := mk_ A250
           clear A250
           obtain rfl := Option.some.inj H
           obtain ⟨Ao26, co26, eo26⟩ := S_slice HO_7.out
           subst eo26
           go_wp2_with (first | ((with_reducible refine gate_callee (f := 12) rfl ?_); refine Short.gL (some 57) Try.func12 #[.slice Ao26 x7_2.length co26, .slice A0 l0.length c0] (h := ?_); (with_reducible refine (plan_Check.calls _ _ x7_2 _ _ l0 t353 t354 _ ?side1 ?side2 ?side3 ?side4 A20.out).mono ?_); (case side1 => exact cX_ (S_reads' HO_7.out).2.2); (case side2 => exact (S_reads' HO_7.out).2.1); (case side3 => exact cX_ (C_below HR0.out HB.out)); (case side4 => exact HC0.out); rintro e w27 ⟨v355, rfl, ho0, hb⟩; refine ⟨_, rfl, ?_⟩; have n0_ := mk_ (S_elder' (by (with_reducible repeat (first | apply S_alloc | apply S_drewN | apply S_drew)); exact HO_7.out) (R_base ho0) hb); have n1_ := mk_ (R_lower ho0 (below_size (Short.hB HB))); have n2_ := mk_ (below_step (Short.hB HB) hb); clear HO_7 HB; revert n0_ n1_ n2_; intro HO_7 HO356 HB; (try clear hb ho0)) | ((with_reducible refine gate_callee (f := 13) rfl ?_); refine Short.gL (some 63) Try.func13 #[.slice Ao26 x7_2.length co26, .slice A0 l0.length c0] (h := ?_); (with_reducible refine (plan_Bound.calls _ _ x7_2 _ _ l0 t357 t358 t359 _ ?side1 ?side2 ?side3 ?side4 A21.out).mono ?_); (case side1 => exact cX_ (S_reads' HO_7.out).2.2); (case side2 => exact (S_reads' HO_7.out).2.1); (case side3 => exact cX_ (C_below HR0.out HB.out)); (case side4 => exact HC0.out); rintro e w28 ⟨rfl, hb⟩; refine ⟨_, rfl, ?_⟩; have n0_ := mk_ (S_below (by (with_reducible repeat (first | apply S_alloc | apply S_drewN | apply S_drew)); exact HO_7.out) hb); have n1_ := mk_ (R_below (ZKR HO356) hb); have n2_ := mk_ (below_step (Short.hB HB) hb); clear HO_7 HO356 HB; revert n0_ n1_ n2_; intro HO_7 HO356 HB; (try clear hb)) | (go_at_call 14; (with_reducible refine (raddlelaw20_wakes.calls k2  t360 _ A25.out).mono ?_); rintro e w29 ⟨rfl, hb⟩; have n0_ := mk_ (S_below (by (with_reducible repeat (first | apply S_alloc | apply S_drewN | apply S_drew)); exact HO_7.out) hb); have n1_ := mk_ (R_below (ZKR HO356) hb); have n2_ := mk_ (below_step (Short.hB HB) hb); clear HO_7 HO356 HB; revert n0_ n1_ n2_; intro HO_7 HO356 HB; (try clear hb); (try clear hb2); (try clear hk); (try clear hi)))
           go_ret
           exact ⟨by first | rfl | (simp [errW_none, errW_some] <;> rfl) | (simp [*, errW_none, errW_some] <;> rfl), Short.hB HB⟩
          ·
           rw [if_neg c24] at H
           have c24b0 : (t359 == 11) = false := beq_eq_false_iff_ne.mpr c24
           have c24b1 : (t359 != 11) = true := bne_iff_ne.mpr c24
           exact absurd H (by rw [hrt]; simp)
         ·
          rw [if_neg c23] at H
          have c23b0 : (t354 == 11) = false := beq_eq_false_iff_ne.mpr c23
          have c23b1 : (t354 != 11) = true := bne_iff_ne.mpr c23
          exact absurd H (by rw [hrt]; simp)
        ·
         rw [if_neg c22] at H
         have c22b0 : decide (5 ≤ (wrap64 (Int.tmod (IntKind.u64.wrap (a1)) 6))) = false := decide_eq_false c22
         clear c22
         by_cases c30 : t354 = 0
         ·
          rw [if_pos c30] at H
          have c30b0 : (t354 == 0) = true := beq_iff_eq.mpr c30
          have c30b1 : (t354 != 0) = false := bne_eq_false_iff_eq.mpr c30
          clear c30
          by_cases c31 : t359 = 0
          ·
           rw [if_pos c31] at H
           have c31b0 : (t359 == 0) = true := beq_iff_eq.mpr c31
           have c31b1 : (t359 != 0) = false := bne_eq_false_iff_eq.mpr c31
           clear c31
           by_cases c32 : (t353.length : Int) = 0
           ·
            rw [if_pos c32] at H
            have c32b0 : ((t353.length : Int) == 0) = true := beq_iff_eq.mpr c32
            have c32b1 : ((t353.length : Int) != 0) = false := bne_eq_false_iff_eq.mpr c32
            clear c32
            obtain ⟨ji33, hji33⟩ : ∃ j_ : Int, (IntKind.u64.wrap (wrap64 (10 * (wrap64 ((wrap64 (Int.tmod (IntKind.u64.wrap (a1)) 6)) + 1))))) = j_ := ⟨_, rfl⟩
            replace H : (if 0 ≤ (ji33) then (if t357 = (shl .i64 1 (ji33)) then ((raddlelaw20_wakes.f k2).bind fun t361 => (some t361)) else (some false)) else (none)) = some r := by first | (rw [hji33] at H; exact H) | (simp only [hji33] at H ⊢; exact H)
            (try rw [hji33] at A20)
            (try rw [hji33] at A21)
            by_cases c34 : 0 ≤ (ji33)
            ·
             rw [if_pos c34] at H
             have c34b0 := eq_true c34
             have c34b1 : decide (0 ≤ (ji33)) = true := decide_eq_true c34
             clear c34
             obtain ⟨ji35, hji35⟩ : ∃ j_ : Int, (shl .i64 1 (ji33)) = j_ := ⟨_, rfl⟩
             replace H : (if t357 = (ji35) then ((raddlelaw20_wakes.f k2).bind fun t361 => (some t361)) else (some false)) = some r := by first | (rw [hji35] at H; exact H) | (simp only [hji35] at H ⊢; exact H)
             (try rw [hji35] at A20)
             (try rw [hji35] at A21)
             have hji35_ : (IntKind.i64.wrap (1 * 2 ^ min (ji33).toNat 64)) = ji35 := hji35
             have hji35z : (ji33) ≤ 64 → (IntKind.i64.wrap (1 * 2 ^ (ji33).toNat)) = ji35 := shl_small hji35
             have hji35u : (IntKind.i64.wrap (2 ^ min (ji33).toNat 64)) = ji35 := by have h_ := hji35_; rw [Int.one_mul] at h_; exact h_
             have hji35v : (ji33) ≤ 64 → (IntKind.i64.wrap (2 ^ (ji33).toNat)) = ji35 := fun hle_ => by have h_ := hji35z hle_; rw [Int.one_mul] at h_; exact h_
             have hji35y : (wrap64 (1 * 2 ^ min (ji33).toNat 64)) = ji35 := (i64_w _).symm.trans hji35_
             have hji35x : (ji33) ≤ 64 → (wrap64 (1 * 2 ^ (ji33).toNat)) = ji35 := fun h_ => (i64_w _).symm.trans (hji35z h_)
             by_cases c36 : t357 = (ji35)
             ·
              rw [if_pos c36] at H
              have c36b0 : (t357 == (ji35)) = true := beq_iff_eq.mpr c36
              have c36b1 : (t357 != (ji35)) = false := bne_eq_false_iff_eq.mpr c36
              clear c36
              replace H := Option.bind_eq_some_iff.mp H
              obtain ⟨t361, A370, H⟩ := H
              replace H : (some t361) = some r := H
              have A37 := mk_ A370
              clear A370
              obtain rfl := Option.some.inj H
              obtain ⟨Ao38, co38, eo38⟩ := S_slice HO_7.out
              subst eo38
              go_wp2_with (first | ((with_reducible refine gate_callee (f := 12) rfl ?_); refine Short.gL (some 57) Try.func12 #[.slice Ao38 x7_2.length co38, .slice A0 l0.length c0] (h := ?_); (with_reducible refine (plan_Check.calls _ _ x7_2 _ _ l0 t353 t354 _ ?side1 ?side2 ?side3 ?side4 A20.out).mono ?_); (case side1 => exact cX_ (S_reads' HO_7.out).2.2); (case side2 => exact (S_reads' HO_7.out).2.1); (case side3 => exact cX_ (C_below HR0.out HB.out)); (case side4 => exact HC0.out); rintro e w39 ⟨v355, rfl, ho0, hb⟩; refine ⟨_, rfl, ?_⟩; have n0_ := mk_ (S_elder' (by (with_reducible repeat (first | apply S_alloc | apply S_drewN | apply S_drew)); exact HO_7.out) (R_base ho0) hb); have n1_ := mk_ (R_lower ho0 (below_size (Short.hB HB))); have n2_ := mk_ (below_step (Short.hB HB) hb); clear HO_7 HB; revert n0_ n1_ n2_; intro HO_7 HO356 HB; (try clear hb ho0)) | ((with_reducible refine gate_callee (f := 13) rfl ?_); refine Short.gL (some 63) Try.func13 #[.slice Ao38 x7_2.length co38, .slice A0 l0.length c0] (h := ?_); (with_reducible refine (plan_Bound.calls _ _ x7_2 _ _ l0 t357 t358 t359 _ ?side1 ?side2 ?side3 ?side4 A21.out).mono ?_); (case side1 => exact cX_ (S_reads' HO_7.out).2.2); (case side2 => exact (S_reads' HO_7.out).2.1); (case side3 => exact cX_ (C_below HR0.out HB.out)); (case side4 => exact HC0.out); rintro e w40 ⟨rfl, hb⟩; refine ⟨_, rfl, ?_⟩; have n0_ := mk_ (S_below (by (with_reducible repeat (first | apply S_alloc | apply S_drewN | apply S_drew)); exact HO_7.out) hb); have n1_ := mk_ (R_below (ZKR HO356) hb); have n2_ := mk_ (below_step (Short.hB HB) hb); clear HO_7 HO356 HB; revert n0_ n1_ n2_; intro HO_7 HO356 HB; (try clear hb); obtain ⟨Ao41, co41, eo41⟩ := R_slice HO356.out; subst eo41) | (go_at_call 14; (with_reducible refine (raddlelaw20_wakes.calls k2  t361 _ A37.out).mono ?_); rintro e w42 ⟨rfl, hb⟩; have n0_ := mk_ (S_below (by (with_reducible repeat (first | apply S_alloc | apply S_drewN | apply S_drew)); exact HO_7.out) hb); have n1_ := mk_ (R_below (ZKR HO356) hb); have n2_ := mk_ (below_step (Short.hB HB) hb); clear HO_7 HO356 HB; revert n0_ n1_ n2_; intro HO_7 HO356 HB; (try clear hb); (try clear hb2); (try clear hk); (try clear hi)))
              go_ret
              exact ⟨by first | rfl | (simp [errW_none, errW_some] <;> rfl) | (simp only [← hji33, ← hji35]; first | rfl | (simp [errW_none, errW_some] <;> rfl)) | (simp [*, errW_none, errW_some] <;> rfl), Short.hB HB⟩
             ·
              rw [if_neg c36] at H
              have c36b0 : (t357 == (ji35)) = false := beq_eq_false_iff_ne.mpr c36
              have c36b1 : (t357 != (ji35)) = true := bne_iff_ne.mpr c36
              exact absurd H (by rw [hrt]; simp)
            ·
             rw [if_neg c34] at H
             exact absurd H (by simp)
           ·
            rw [if_neg c32] at H
            have c32b0 : ((t353.length : Int) == 0) = false := beq_eq_false_iff_ne.mpr c32
            have c32b1 : ((t353.length : Int) != 0) = true := bne_iff_ne.mpr c32
            have c32b2 : ¬ (t353 = []) := fun h_ => c32 (by rw [h_]; rfl)
            exact absurd H (by rw [hrt]; simp)
          ·
           rw [if_neg c31] at H
           have c31b0 : (t359 == 0) = false := beq_eq_false_iff_ne.mpr c31
           have c31b1 : (t359 != 0) = true := bne_iff_ne.mpr c31
           exact absurd H (by rw [hrt]; simp)
         ·
          rw [if_neg c30] at H
          have c30b0 : (t354 == 0) = false := beq_eq_false_iff_ne.mpr c30
          have c30b1 : (t354 != 0) = true := bne_iff_ne.mpr c30
          exact absurd H (by rw [hrt]; simp)
    ·
     rw [if_neg c9] at H
     have c9b0 : (t344 == 0) = false := beq_eq_false_iff_ne.mpr c9
     have c9b1 : (t344 != 0) = true := bne_iff_ne.mpr c9
     obtain rfl := Option.some.inj H
     go_wp2_with (first | ((with_reducible refine gate_dst (N := 28) rfl ?_); refine S_lit k34 _ 34 ?hg (N := 28) ?hd (xs := ([(⟨1, 0, 0, 0, (⟨0, 0, 0, (⟨0, 0, (⟨#[]⟩ : ByteArray)⟩ : S29)⟩ : S31), ([] : List Int), ([] : List Int), 0, 0⟩ : S34)] : List (S34))) (inner := [.int .i64 1, .int .i64 0, .int .i64 0, .int .i64 0, .int .i64 0, .int .i64 0, .int .i64 0, .int .i64 0, .int .i64 0, .string (⟨#[]⟩ : ByteArray), .slice none 0 0, .slice none 0 0, .int .i64 0, .int .i64 0]) (ok := fun _ => True) (okp := fun _ => True) ?hr ?hp (fun _ hk => hk) trivial (Below.refl _ _) (Nat.le_refl _) (by simp) ?_; (case hd => rfl); (case hg => rfl); (case hr => first | (go_simp; done) | (go_simp; rfl)); (case hp => exact (Reps.front (show Kd.M k34 _ _ _ (⟨1, 0, 0, 0, (⟨0, 0, 0, (⟨0, 0, (⟨#[]⟩ : ByteArray)⟩ : S29)⟩ : S31), ([] : List Int), ([] : List Int), 0, 0⟩ : S34) [.int .i64 1, .int .i64 0, .int .i64 0, .int .i64 0, .int .i64 0, .int .i64 0, .int .i64 0, .int .i64 0, .int .i64 0, .string (⟨#[]⟩ : ByteArray), .slice none 0 0, .slice none 0 0, .int .i64 0, .int .i64 0] from (k34_mkM _ _ _ (⟨1, 0, 0, 0, (⟨0, 0, 0, (⟨0, 0, (⟨#[]⟩ : ByteArray)⟩ : S29)⟩ : S31), ([] : List Int), ([] : List Int), 0, 0⟩ : S34) (R_nil _ _ _ _ _) (R_nil _ _ _ _ _))) rfl (Reps.none _ _) rfl)); intro v341 w43 ho44 hb hg_ hnew_; clear hg_ hnew_; (first | rw [← Ny340.out] at ho44 | (simp only [Int.reduceToNat] at ho44; rw [← Ny340.out] at ho44)); have n0_ := mk_ (S_lower ho44 (below_size (Short.hB HB))); have n1_ := mk_ (below_step (Short.hB HB) hb); clear HB; revert n0_ n1_; intro HO342 HB; clear hb ho44; obtain ⟨Ao45, co45, eo45⟩ := S_slice HO342.out; subst eo45) | ((with_reducible refine gate_callee (f := 11) rfl ?_); refine Short.gL (some 30) Try.func11 #[.slice Ao45 y340.length co45, .slice A0 l0.length c0] (h := ?_); (with_reducible refine (raddleref14_Plan.calls _ _ y340 _ _ l0 t343 t344 _ ?side1 ?side2 ?side3 ?side4 A8.out).mono ?_); (case side1 => exact cX_ (S_reads' HO342.out).2.2); (case side2 => exact (S_reads' HO342.out).2.1); (case side3 => exact cX_ (C_below HR0.out HB.out)); (case side4 => exact HC0.out); rintro e w46 ⟨v345, rfl, ho0, hb⟩; refine ⟨_, rfl, ?_⟩; have n0_ := mk_ (S_below (by (with_reducible repeat (first | apply S_alloc | apply S_drewN | apply S_drew)); exact HO342.out) hb); have n1_ := mk_ (S_lower ho0 (below_size (Short.hB HB))); have n2_ := mk_ (below_step (Short.hB HB) hb); clear HO342 HB; revert n0_ n1_ n2_; intro HO342 HO346 HB; (try clear hb ho0)))
     go_ret
     exact ⟨by first | rfl | (simp [errW_none, errW_some] <;> rfl) | (simp [*, errW_none, errW_some] <;> rfl), Short.hB HB⟩
def raddlelaw20_PlanGrows.WF54 (x : S54) : Prop := (x.f0.length ≤ maxLen ∧ ∀ x0_ ∈ x.f0, (Lit.int .i64 x0_).wf = true)
def raddlelaw20_PlanGrows.Pure : Prop := ∀ (x0 : List (S54)) (x1 : Int), (x0.length ≤ maxLen ∧ ∀ x0_ ∈ x0, raddlelaw20_PlanGrows.WF54 x0_) → (Lit.int .i64 x1).wf = true → ∃ k, raddlelaw20_PlanGrows.f k x0 x1 = some true
end Go.Proofs.Ytimbbaoodjhdoaa.PAll
end
section
namespace Go.Proofs.Ytimbbaoodjhdoaa.Plan
open Go.RowKit Go.Proofs.Ytimbbaoodjhdoaa.PAll Go.Proofs.Ytimbbaoodjhdoaa.Plain Go.Proofs.YtimbbaoodjhdoaaW.PrintWords Go.Proofs.YtimbbaoodjhdoaaW.PrintLast Go.Proofs.YtimbbaoodjhdoaaW.PrintMore Go.Proofs.Ytimbbaoodjhdoaa.ZipT Go.Proofs.YtimbbaoodjhdoaaW.PrintWords.Kd Go.Proofs.YtimbbaoodjhdoaaW.PrintMore.Kd
set_option linter.unusedVariables false
set_option linter.unusedSimpArgs false
theorem last_nth {l : List No} {f : List Tb} (h : (planN l f).2 = 0) : lastN l f = nth (planN l f).1 ((l.length : Int) - 1) := by
 have := (planN_len h).2.1
 unfold lastN nth
 rw [show ((l.length : Int) - 1).toNat = l.length - 1 by omega]
theorem look_scan (f : List Tb) (done : List Nd) (x : No) (h : x.f0 = 1) (h3 : 0 ≤ x.f3) (h4 : x.f3 < (f.length : Int)) : look f done x = ((4 :: (rd_T54 f x.f3).f0, 1024, 2147483648), 0) := by
 unfold look scanN
 rw [if_pos h, if_neg z5]
end Go.Proofs.Ytimbbaoodjhdoaa.Plan
end
section
namespace Go.Proofs.Ytimbbaoodjhdoaa.Pure
open Go.RowKit Go.Proofs.Ytimbbaoodjhdoaa.PAll Go.Proofs.YtimbbaoodjhdoaaW.PrintWords Go.Proofs.YtimbbaoodjhdoaaW.PrintLast Go.Proofs.YtimbbaoodjhdoaaW.PrintMore Go.Proofs.Ytimbbaoodjhdoaa.Plain Go.Proofs.Ytimbbaoodjhdoaa.Plan Go.Proofs.Ytimbbaoodjhdoaa.ZipT Go.Proofs.YtimbbaoodjhdoaaW.PrintWords.Kd Go.Proofs.YtimbbaoodjhdoaaW.PrintMore.Kd
set_option linter.unusedVariables false
set_option linter.unusedSimpArgs false
def joinT (a : Int) : No := ⟨4, a, 1, 0, ⟨0, 0, 0, ⟨0, 0, (⟨#[]⟩ : ByteArray)⟩⟩, [], [], 0, 0⟩
def proj0 : No := ⟨3, 0, 0, 0, ⟨0, 0, 0, ⟨0, 0, (⟨#[]⟩ : ByteArray)⟩⟩, [], [], 0, 0⟩
def grows (i : Nat) : List No := [scan0, proj0] ++ (List.range i).map fun j => joinT ((j + 1 : Nat) : Int)
theorem grows_len (i : Nat) : (grows i).length = i + 2 := by simp [grows]
theorem grows_succ (i : Nat) : grows (i + 1) = grows i ++ [joinT ((i + 1 : Nat) : Int)] := by unfold grows; rw [List.range_succ, List.map_append, List.append_assoc]; rfl
theorem grows_small (i : Nat) (f : List Tb) (hi : i ≤ 14) (hf : hvF f = false) : planSmall (grows i) f := by
 have h := small_of [scan0] f z10 hf
 refine ⟨by rw [grows_len]; omega, h.2.1, fun x hx => ?_, h.2.2.2⟩
 unfold grows at hx
 rcases List.mem_append.1 hx with e | e
 ·
  simp only [List.mem_cons, List.not_mem_nil, or_false] at e
  rcases e with rfl | rfl <;> exact ⟨Nat.zero_le _, Nat.zero_le _⟩
 ·
  obtain ⟨j, _, rfl⟩ := List.mem_map.1 e
  exact ⟨Nat.zero_le _, Nat.zero_le _⟩
theorem pow_step (i : Nat) : (2 : Int) ^ (10 * (i + 1)) * 1024 = 2 ^ (10 * (i + 2)) := by
 rw [show (10 * (i + 2)) = 10 * (i + 1) + 10 by omega, Int.pow_add]; rfl
theorem join_look (f : List Tb) (d : List Nd) (i : Nat) (w : Int) (hl : d.length = i + 2) (h0 : nth d ((i + 1 : Nat) : Int) = ([], w, 2147483648)) (h1 : nth d 1 = ([], 1024, 2147483648)) :
  Plan.look f d (joinT ((i + 1 : Nat) : Int)) = if w * 1024 ≤ 1125899906842624 then (([], w * 1024, 2147483648), 0) else (zN, 11) := by
 unfold Plan.look
 rw [if_neg (by show ¬ (4 : Int) = 1; decide), if_neg (by show ¬ (4 : Int) = 2; decide), if_neg (by show ¬ (4 : Int) = 3; decide), if_pos z12]
 unfold joinN
 rw [show (joinT ((i + 1 : Nat) : Int)).f1 = ((i + 1 : Nat) : Int) from rfl, show (joinT ((i + 1 : Nat) : Int)).f2 = 1 from rfl, show (joinT ((i + 1 : Nat) : Int)).f5 = [] from rfl, show (joinT ((i + 1 : Nat) : Int)).f6 = [] from rfl, h0, h1]
 rw [if_pos (by exact ⟨by unfold Plan.ahead; rw [decide_eq_true]; omega, by unfold Plan.ahead; rw [decide_eq_true]; omega⟩), if_pos (by exact ⟨rfl, rfl⟩), if_neg (by simp), if_pos rfl]
 rfl
theorem grows_walk (f : List Tb) (hf : 1 ≤ f.length) (i : Nat) (hi : i ≤ 4) : (walkN f (grows i) []).2 = 0 ∧ (walkN f (grows i) []).1.length = i + 2 ∧ nth (walkN f (grows i) []).1 ((i + 1 : Nat) : Int) = ([], 2 ^ (10 * (i + 1)), 2147483648) ∧ nth (walkN f (grows i) []).1 1 = ([], 1024, 2147483648) := by
 induction i with
 | zero =>
  have h : walkN f (grows 0) [] = ([(4 :: (rd_T54 f 0).f0, 1024, 2147483648), ([], 1024, 2147483648)], 0) := by
   show walkN f [scan0, proj0] [] = _
   unfold walkN
   rw [look_scan f [] scan0 rfl z10 (by show (0 : Int) < _; omega), if_pos rfl]
   unfold walkN
   rw [show Plan.look f ([] ++ [((4 :: (rd_T54 f scan0.f3).f0, 1024, 2147483648), (0 : Int)).1]) proj0 = (([], 1024, 2147483648), 0) from rfl, if_pos rfl]
   rfl
  rw [h]
  exact ⟨rfl, rfl, rfl, rfl⟩
 | succ i ih =>
  obtain ⟨a, b, c, d⟩ := ih z5
  rw [grows_succ, walkN_append _ _ _ a]
  generalize (walkN f (grows i) []).1 = D at *
  have hlk := join_look f D i _ b c d
  have hle : (2 : Int) ^ (10 * (i + 1)) * 1024 ≤ 1125899906842624 := by
   have : i = 0 ∨ i = 1 ∨ i = 2 ∨ i = 3 := by omega
   rcases this with rfl | rfl | rfl | rfl <;> decide
  rw [if_pos hle, pow_step] at hlk
  unfold walkN
  rw [hlk, if_pos rfl]
  unfold walkN
  refine ⟨rfl, by simp [b], ?_, ?_⟩
  ·
   unfold nth
   rw [Int.toNat_natCast, List.getD_eq_getElem?_getD, List.getElem?_append_right z5, show i + 1 + 1 - D.length = 0 by omega]; rfl
  ·
   unfold nth at d ⊢
   rw [List.getD_eq_getElem?_getD] at d ⊢
   rw [List.getElem?_append_left (by show (1 : Int).toNat < _; omega)]; exact d
theorem grows_five (f : List Tb) (hf : 1 ≤ f.length) : walkN f (grows 5) [] = ([], 11) := by
 obtain ⟨a, b, c, d⟩ := grows_walk f hf 4 z5
 rw [grows_succ, walkN_append _ _ _ a]
 have hlk := join_look f _ 4 _ b c d
 rw [if_neg z10] at hlk
 unfold walkN
 rw [hlk, if_neg z10]
theorem grows_end (f : List Tb) (hv : hvF f = false) (ho : FOk f) (n : Nat) (hn : n < 6) (k : Nat) (hk : 20 ≤ k) : raddlelaw20_PlanGrows.l0 k f (n : Int) (grows n) (n : Int) = some true := by
 obtain ⟨k, rfl⟩ : ∃ j, k = j + 1 := ⟨k - 1, by omega⟩
 obtain ⟨g1, g2, g3⟩ := ho.forms
 have hs := grows_small n f z5 hv
 have hl := grows_len n
 simp only [raddlelaw20_PlanGrows.l0]
 rw [if_neg z5, check_eq hs, bound_eq hs, Option.bind_some, Option.bind_some]
 have hg := planN_go ho (show 1 ≤ (grows n).length by omega) z5
 by_cases h5 : n = 5
 ·
  subst h5
  have hp : planN (grows 5) f = ([], 11) := by rw [hg]; exact grows_five f g1
  rw [if_pos z10, hp, if_pos (by first | rfl | trivial), if_pos (by first | rfl | trivial), wakes_bind k z5]
 ·
  obtain ⟨a, b, c, d⟩ := grows_walk f g1 n z5
  rw [← hg] at a b c d
  have hz : lastN (grows n) f = ([], 2 ^ (10 * (n + 1)), 2147483648) := by
   rw [last_nth a, hl, ← c]; congr 1; omega
  rw [if_neg z5, a, hz, if_pos (by first | rfl | trivial), if_pos (by first | rfl | trivial), if_pos z12]
  rw [w64 (x := (n : Int) + 1) z5 z5, w64 (x := 10 * ((n : Int) + 1)) z5 z5, wu64 (x := 10 * ((n : Int) + 1)) z5 z5]
  have : n = 0 ∨ n = 1 ∨ n = 2 ∨ n = 3 ∨ n = 4 := by omega
  rcases this with rfl | rfl | rfl | rfl | rfl <;> (rw [if_pos z10, if_pos (by first | decide | rfl), wakes_bind k z5])
theorem grows_l0 (f : List Tb) (hv : hvF f = false) (ho : FOk f) (n : Nat) (hn : n < 6) (j : Nat) : ∀ (k i : Nat), i + j = n → 20 + j ≤ k →
  raddlelaw20_PlanGrows.l0 k f (n : Int) (grows i) (i : Int) = some true := by
 induction j with
 | zero =>
  intro k i h hk
  obtain rfl : i = n := by omega
  exact grows_end f hv ho i hn k z5
 | succ j ih =>
  intro k i h hk
  obtain ⟨k, rfl⟩ : ∃ j, k = j + 1 := ⟨k - 1, by omega⟩
  simp only [raddlelaw20_PlanGrows.l0]
  rw [if_pos z5, if_pos (by rw [grows_len]; omega), wrapn i z5]
  have hs := grows_succ i
  unfold joinT at hs
  rw [show wrap64 (((grows i).length : Int) - 1) = ((i + 1 : Nat) : Int) by rw [grows_len, w64 z5 z5]; omega, ← hs]
  exact ih k (i + 1) z5 z5
theorem PlanGrows : raddlelaw20_PlanGrows.Pure := by
 intro x0 x1 _ _
 refine ⟨200, ?_⟩
 have hj : raddlelaw20_PlanGrows.j0 200 x0 x1 true = some true := rfl
 unfold raddlelaw20_PlanGrows.f
 rw [hvF_eq 200 x0 z5, Option.bind_some]
 by_cases hv : hvF x0 = true
 ·
  rw [if_pos hv]; exact hj
 rw [if_neg hv]
 have hf := Bool.eq_false_iff.mpr hv
 by_cases c1 : (x0.length : Int) < 1
 ·
  rw [if_pos c1]; exact hj
 rw [if_neg c1]
 by_cases c2 : (x0.length : Int) > 3
 ·
  rw [decide_eq_true c2]; exact hj
 rw [decide_eq_false c2]
 simp only [raddlelaw20_PlanGrows.j0]
 rw [if_neg z10, show (⟨1, 0, 0, 0, (⟨0, 0, 0, (⟨0, 0, (⟨#[]⟩ : ByteArray)⟩ : S29)⟩ : S31), ([] : List Int), ([] : List Int), 0, 0⟩ : No) = scan0 from rfl, show (⟨3, 0, 0, 0, (⟨0, 0, 0, (⟨0, 0, (⟨#[]⟩ : ByteArray)⟩ : S29)⟩ : S31), ([] : List Int), ([] : List Int), 0, 0⟩ : No) = proj0 from rfl, plan14_eq (small_of [scan0] x0 z10 hf), Option.bind_some]
 by_cases h0 : (planN [scan0] x0).2 = 0
 ·
  rw [if_pos h0]
  have ho := (planN_len h0).2.2.2
  have hx : 0 ≤ IntKind.u64.wrap x1 := by rw [u64_mod]; exact Int.emod_nonneg _ z10
  rw [Int.tmod_eq_emod_of_nonneg hx]
  have h1 := Int.emod_nonneg (IntKind.u64.wrap x1) (show (6 : Int) ≠ 0 by decide)
  have h2 := Int.emod_lt_of_pos (IntKind.u64.wrap x1) (show (0 : Int) < 6 by decide)
  rw [w64 z5 z5]
  generalize IntKind.u64.wrap x1 % 6 = q at h1 h2 ⊢
  obtain ⟨n, rfl⟩ := Int.eq_ofNat_of_zero_le h1
  exact grows_l0 x0 hf ho n z5 n 199 0 z5 z5
 ·
  rw [if_neg h0]
end Go.Proofs.Ytimbbaoodjhdoaa.Pure
end
