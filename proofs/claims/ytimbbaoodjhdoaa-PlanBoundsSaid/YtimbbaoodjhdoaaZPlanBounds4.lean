-- wip/slice2.py
import Derived.Test.YtimbbaoodjhdoaaZPlanBounds3

section
namespace Go.Proofs.Ytimbbaoodjhdoaa.PAll
open Go.RowKit Go.Proofs.YtimbbaoodjhdoaaW.PrintWords Go.Proofs.YtimbbaoodjhdoaaW.PrintLast Go.Proofs.YtimbbaoodjhdoaaW.PrintMore Go.Proofs.Ytimbbaoodjhdoaa.ZipT Go.Proofs.YtimbbaoodjhdoaaW.PrintWords.Kd Go.Proofs.YtimbbaoodjhdoaaW.PrintMore.Kd
attribute [local go_sem] max2_int min2_int max_two min_two max_three min_three max_four min_four   -- for this text's walks alone
set_option linter.unusedVariables false
set_option linter.unusedSimpArgs false
mutual
def raddlelaw20_PlanBounds.j0 : Nat → List (S34) → List (S54) → Bool → Option (Bool)
 | 0, _, _, _ => none
 | k + 1, x0, x1, x26 => if x26 = true then (some true) else ((raddleref14_Plan.f x0 x1).bind fun bt382 => (if bt382.2 = 0 then ((plan_Bound.f x0 x1).bind fun bt386 => (if bt386.2.2 = 0 then ((raddlelaw20_more.f x0 7 (wrap64 ((x0.length : Int) - 1)) 0 0 0 0 0 0 0 (⟨#[]⟩ : ByteArray) ([] : List Int) ([] : List Int) 0 0).bind fun t389 => ((plan_Bound.f t389 x1).bind fun bt392 => ((raddlelaw20_more.f x0 3 (wrap64 ((x0.length : Int) - 1)) 0 0 0 0 0 0 0 (⟨#[]⟩ : ByteArray) ([] : List Int) ([] : List Int) 0 0).bind fun t395 => ((plan_Bound.f t395 x1).bind fun bt398 => (if bt392.2.2 = 0 then (if bt398.2.2 = 0 then (if bt392.1 = bt386.1 then (if bt392.2.1 = bt386.2.1 then (if bt398.1 = bt386.1 then (raddlelaw20_PlanBounds.j1 k x0 x1 (wrap64 ((x0.length : Int) - 1)) bt386.1 bt386.2.1 (bt398.2.1 != bt386.2.1)) else (raddlelaw20_PlanBounds.j1 k x0 x1 (wrap64 ((x0.length : Int) - 1)) bt386.1 bt386.2.1 true)) else (raddlelaw20_PlanBounds.j1 k x0 x1 (wrap64 ((x0.length : Int) - 1)) bt386.1 bt386.2.1 true)) else (raddlelaw20_PlanBounds.j1 k x0 x1 (wrap64 ((x0.length : Int) - 1)) bt386.1 bt386.2.1 true)) else (raddlelaw20_PlanBounds.j1 k x0 x1 (wrap64 ((x0.length : Int) - 1)) bt386.1 bt386.2.1 true)) else (raddlelaw20_PlanBounds.j1 k x0 x1 (wrap64 ((x0.length : Int) - 1)) bt386.1 bt386.2.1 true)))))) else (some false))) else (some true)))
def raddlelaw20_PlanBounds.j1 : Nat → List (S34) → List (S54) → Int → Int → Int → Bool → Option (Bool)
 | 0, _, _, _, _, _, _ => none
 | k + 1, x0, x1, x7, x8, x9, x92 => if x92 = true then (some false) else ((raddlelaw20_more.f x0 5 x7 x7 0 0 0 0 0 0 (⟨#[]⟩ : ByteArray) ([] : List Int) ([] : List Int) 0 0).bind fun t401 => ((plan_Bound.f t401 x1).bind fun bt404 => (if bt404.2.2 = 0 then (if bt404.1 = (wrap64 (2 * x8)) then (if bt404.2.1 = x9 then (raddlelaw20_PlanBounds.j2 k x0 x1 x7 x8 x9 false) else (raddlelaw20_PlanBounds.j2 k x0 x1 x7 x8 x9 true)) else (raddlelaw20_PlanBounds.j2 k x0 x1 x7 x8 x9 true)) else (if bt404.2.2 = 11 then (raddlelaw20_PlanBounds.j2 k x0 x1 x7 x8 x9 (decide ((wrap64 (2 * x8)) ≤ 1125899906842624))) else (raddlelaw20_PlanBounds.j2 k x0 x1 x7 x8 x9 true)))))
def raddlelaw20_PlanBounds.j2 : Nat → List (S34) → List (S54) → Int → Int → Int → Bool → Option (Bool)
 | 0, _, _, _, _, _, _ => none
 | k + 1, x0, x1, x7, x8, x9, x129 => if x129 = true then (some false) else ((raddlelaw20_more.f x0 8 x7 0 0 0 0 0 0 0 (⟨#[]⟩ : ByteArray) ([] : List Int) ([] : List Int) 1 0).bind fun t407 => ((plan_Bound.f t407 x1).bind fun bt410 => (if bt410.2.2 = 0 then (if bt410.1 = x8 then (if bt410.2.1 = (mx x9 x8) then ((raddlelaw20_wakes.f k).bind fun t413 => (some t413)) else (some false)) else (some false)) else (some false))))
end
def raddlelaw20_PlanBounds.f (k : Nat) (l0 : List (S34)) (l1 : List (S54)) : Option (Bool) := (raddlelaw20_Heavy.f k l0).bind fun t380 => (if t380 = true then (raddlelaw20_PlanBounds.j0 k l0 l1 true) else ((raddlelaw07_HeavyForms.f k l1).bind fun t381 => (if t381 = true then (raddlelaw20_PlanBounds.j0 k l0 l1 true) else (raddlelaw20_PlanBounds.j0 k l0 l1 (decide ((l0.length : Int) ≥ 12))))))
set_option maxHeartbeats 8000000 in
set_option maxRecDepth 100000 in
theorem raddlelaw20_PlanBounds.calls (k : Nat) (A0 : Option Addr) (c0 : Nat) (l0 : List (S34)) (A1 : Option Addr) (c1 : Nat) (l1 : List (S54)) (r : Bool) (w : World) (hr0 : Kd.C k34 w A0 l0.length l0) (hc0 : l0.length ≤ c0) (hr1 : Kd.C k54 w A1 l1.length l1) (hc1 : l1.length ≤ c1) (hrt : r = true) (h : raddlelaw20_PlanBounds.f k l0 l1 = some r) :
  Calls Try.prog 4 #[.slice A0 l0.length c0, .slice A1 l1.length c1] w fun e w' => e = .returned (.bool r) ∧ Below w.heap.size w w' := by
 have hu34 := Try.underlying34
 have HR0 := mk_ hr0
 have HC0 := mk_ hc0
 clear hr0 hc0
 have HR1 := mk_ hr1
 have HC1 := mk_ hc1
 clear hr1 hc1
 have HB := mk_ (Below.refl w.heap.size w)
 have H : ((raddlelaw20_Heavy.f k l0).bind fun t380 => (if t380 = true then (raddlelaw20_PlanBounds.j0 k l0 l1 true) else ((raddlelaw07_HeavyForms.f k l1).bind fun t381 => (if t381 = true then (raddlelaw20_PlanBounds.j0 k l0 l1 true) else (raddlelaw20_PlanBounds.j0 k l0 l1 (decide ((l0.length : Int) ≥ 12))))))) = some r := h
 clear h
 have HC3 := mk_ H
 clear H
 go_enter Try.func4, Try.ntmps4
 go_upto_region 1 with (fail)
 go_cut [26] (fun v26 wc => ∃ (kq : Nat) (x26_2 : Bool), v26 = .bool x26_2 ∧ Aside0 (raddlelaw20_PlanBounds.j0 kq l0 l1 x26_2 = some r) ∧ Aside0 (kq ≤ k) ∧ Aside0 (Below w.heap.size w wc))
 case first =>
  have H := HC3.out
  clear HC3
  replace H := Option.bind_eq_some_iff.mp H
  obtain ⟨t380, A40, H⟩ := H
  replace H : (if t380 = true then (raddlelaw20_PlanBounds.j0 k l0 l1 true) else ((raddlelaw07_HeavyForms.f k l1).bind fun t381 => (if t381 = true then (raddlelaw20_PlanBounds.j0 k l0 l1 true) else (raddlelaw20_PlanBounds.j0 k l0 l1 (decide ((l0.length : Int) ≥ 12)))))) = some r := H
  have A4 := mk_ A40
  clear A40
  by_cases c5 : t380 = true
  ·
   subst c5
   have H1 : (raddlelaw20_PlanBounds.j0 k l0 l1 true) = some r := by rw [if_pos rfl] at H; exact H
   clear H
   have H := H1
   clear H1
   have H' := mk_ H
   clear H
   go_wp2_with (first | ((with_reducible refine gate_callee (f := 15) rfl ?_); refine Short.gL (some 17) Try.func15 #[.slice A0 l0.length c0] (h := ?_); (with_reducible refine (raddlelaw20_Heavy.calls k _ _ l0 true _ ?side1 ?side2 A4.out).mono ?_); (case side1 => exact cX_ (C_below HR0.out HB.out)); (case side2 => exact HC0.out); rintro e w6 ⟨rfl, hb⟩; refine ⟨_, rfl, ?_⟩; have n0_ := mk_ (below_step (Short.hB HB) hb); clear HB; revert n0_; intro HB; (try clear hb)))
   go_meet
   case rel => exact ⟨_, (true), z9, H', ⟨by first | omega | exact Nat.le_refl _⟩, ⟨Short.hB HB⟩⟩
  ·
   replace c5 := Bool.eq_false_iff.mpr c5
   subst c5
   have H1 : ((raddlelaw07_HeavyForms.f k l1).bind fun t381 => (if t381 = true then (raddlelaw20_PlanBounds.j0 k l0 l1 true) else (raddlelaw20_PlanBounds.j0 k l0 l1 (decide ((l0.length : Int) ≥ 12))))) = some r := by rw [if_neg (show ¬ (false = true) by decide)] at H; exact H
   clear H
   have H := H1
   clear H1
   replace H := Option.bind_eq_some_iff.mp H
   obtain ⟨t381, A70, H⟩ := H
   replace H : (if t381 = true then (raddlelaw20_PlanBounds.j0 k l0 l1 true) else (raddlelaw20_PlanBounds.j0 k l0 l1 (decide ((l0.length : Int) ≥ 12)))) = some r := H
   have A7 := mk_ A70
   clear A70
   by_cases c8 : t381 = true
   ·
    subst c8
    have H1 : (raddlelaw20_PlanBounds.j0 k l0 l1 true) = some r := by rw [if_pos rfl] at H; exact H
    clear H
    have H := H1
    clear H1
    have H' := mk_ H
    clear H
    go_wp2_with (first | ((with_reducible refine gate_callee (f := 15) rfl ?_); refine Short.gL (some 17) Try.func15 #[.slice A0 l0.length c0] (h := ?_); (with_reducible refine (raddlelaw20_Heavy.calls k _ _ l0 false _ ?side1 ?side2 A4.out).mono ?_); (case side1 => exact cX_ (C_below HR0.out HB.out)); (case side2 => exact HC0.out); rintro e w9 ⟨rfl, hb⟩; refine ⟨_, rfl, ?_⟩; have n0_ := mk_ (below_step (Short.hB HB) hb); clear HB; revert n0_; intro HB; (try clear hb)) | (go_at_call 10; (with_reducible refine (raddlelaw07_HeavyForms.calls k _ _ l1 true _ ?side1 ?side2 A7.out).mono ?_); (case side1 => exact cX_ (C_below HR1.out HB.out)); (case side2 => exact HC1.out); rintro e w' ⟨rfl, ⟨nd, rfl⟩⟩))
    go_meet
    case rel => exact ⟨_, (true), z9, H', ⟨by first | omega | exact Nat.le_refl _⟩, ⟨Short.hB HB⟩⟩
   ·
    replace c8 := Bool.eq_false_iff.mpr c8
    subst c8
    have H1 : (raddlelaw20_PlanBounds.j0 k l0 l1 (decide ((l0.length : Int) ≥ 12))) = some r := by rw [if_neg (show ¬ (false = true) by decide)] at H; exact H
    clear H
    have H := H1
    clear H1
    have H' := mk_ H
    clear H
    go_wp2_with (first | ((with_reducible refine gate_callee (f := 15) rfl ?_); refine Short.gL (some 17) Try.func15 #[.slice A0 l0.length c0] (h := ?_); (with_reducible refine (raddlelaw20_Heavy.calls k _ _ l0 false _ ?side1 ?side2 A4.out).mono ?_); (case side1 => exact cX_ (C_below HR0.out HB.out)); (case side2 => exact HC0.out); rintro e w10 ⟨rfl, hb⟩; refine ⟨_, rfl, ?_⟩; have n0_ := mk_ (below_step (Short.hB HB) hb); clear HB; revert n0_; intro HB; (try clear hb)) | (go_at_call 10; (with_reducible refine (raddlelaw07_HeavyForms.calls k _ _ l1 false _ ?side1 ?side2 A7.out).mono ?_); (case side1 => exact cX_ (C_below HR1.out HB.out)); (case side2 => exact HC1.out); rintro e w' ⟨rfl, ⟨nd, rfl⟩⟩))
    go_meet
    case rel => exact ⟨_, (decide ((l0.length : Int) ≥ 12)), z9, H', ⟨by first | omega | exact Nat.le_refl _⟩, ⟨Short.hB HB⟩⟩
 case rest =>
  clear HC3
  try clear c1
  try clear p2
  try clear c4
  try clear c5
  try clear c8
  obtain ⟨kq, x26_2, rfl, HA, HJ2, HB⟩ := hcut
  cases kq with
  | zero => exact absurd HA.out (by simp [raddlelaw20_PlanBounds.j0])
  | succ kj2 =>
   have H := HA.out
   clear HA
   simp only [raddlelaw20_PlanBounds.j0] at H
   by_cases c11 : x26_2 = true
   ·
    subst c11
    have H1 : (some true) = some r := by rw [if_pos rfl] at H; exact H
    clear H
    have H := H1
    clear H1
    obtain rfl := Option.some.inj H
    go_wp2
    go_ret
    exact ⟨by first | rfl | (simp [errW_none, errW_some] <;> rfl) | (simp [*, errW_none, errW_some] <;> rfl), Short.hB HB⟩
   ·
    replace c11 := Bool.eq_false_iff.mpr c11
    subst c11
    have H1 : ((raddleref14_Plan.f l0 l1).bind fun bt382 => (if bt382.2 = 0 then ((plan_Bound.f l0 l1).bind fun bt386 => (if bt386.2.2 = 0 then ((raddlelaw20_more.f l0 7 (wrap64 ((l0.length : Int) - 1)) 0 0 0 0 0 0 0 (⟨#[]⟩ : ByteArray) ([] : List Int) ([] : List Int) 0 0).bind fun t389 => ((plan_Bound.f t389 l1).bind fun bt392 => ((raddlelaw20_more.f l0 3 (wrap64 ((l0.length : Int) - 1)) 0 0 0 0 0 0 0 (⟨#[]⟩ : ByteArray) ([] : List Int) ([] : List Int) 0 0).bind fun t395 => ((plan_Bound.f t395 l1).bind fun bt398 => (if bt392.2.2 = 0 then (if bt398.2.2 = 0 then (if bt392.1 = bt386.1 then (if bt392.2.1 = bt386.2.1 then (if bt398.1 = bt386.1 then (raddlelaw20_PlanBounds.j1 kj2 l0 l1 (wrap64 ((l0.length : Int) - 1)) bt386.1 bt386.2.1 (bt398.2.1 != bt386.2.1)) else (raddlelaw20_PlanBounds.j1 kj2 l0 l1 (wrap64 ((l0.length : Int) - 1)) bt386.1 bt386.2.1 true)) else (raddlelaw20_PlanBounds.j1 kj2 l0 l1 (wrap64 ((l0.length : Int) - 1)) bt386.1 bt386.2.1 true)) else (raddlelaw20_PlanBounds.j1 kj2 l0 l1 (wrap64 ((l0.length : Int) - 1)) bt386.1 bt386.2.1 true)) else (raddlelaw20_PlanBounds.j1 kj2 l0 l1 (wrap64 ((l0.length : Int) - 1)) bt386.1 bt386.2.1 true)) else (raddlelaw20_PlanBounds.j1 kj2 l0 l1 (wrap64 ((l0.length : Int) - 1)) bt386.1 bt386.2.1 true)))))) else (some false))) else (some true))) = some r := by rw [if_neg (show ¬ (false = true) by decide)] at H; exact H
    clear H
    have H := H1
    clear H1
    replace H := Option.bind_eq_some_iff.mp H
    obtain ⟨⟨t382, t383⟩, A120, H⟩ := H
    replace H : (if t383 = 0 then ((plan_Bound.f l0 l1).bind fun bt386 => (if bt386.2.2 = 0 then ((raddlelaw20_more.f l0 7 (wrap64 ((l0.length : Int) - 1)) 0 0 0 0 0 0 0 (⟨#[]⟩ : ByteArray) ([] : List Int) ([] : List Int) 0 0).bind fun t389 => ((plan_Bound.f t389 l1).bind fun bt392 => ((raddlelaw20_more.f l0 3 (wrap64 ((l0.length : Int) - 1)) 0 0 0 0 0 0 0 (⟨#[]⟩ : ByteArray) ([] : List Int) ([] : List Int) 0 0).bind fun t395 => ((plan_Bound.f t395 l1).bind fun bt398 => (if bt392.2.2 = 0 then (if bt398.2.2 = 0 then (if bt392.1 = bt386.1 then (if bt392.2.1 = bt386.2.1 then (if bt398.1 = bt386.1 then (raddlelaw20_PlanBounds.j1 kj2 l0 l1 (wrap64 ((l0.length : Int) - 1)) bt386.1 bt386.2.1 (bt398.2.1 != bt386.2.1)) else (raddlelaw20_PlanBounds.j1 kj2 l0 l1 (wrap64 ((l0.length : Int) - 1)) bt386.1 bt386.2.1 true)) else (raddlelaw20_PlanBounds.j1 kj2 l0 l1 (wrap64 ((l0.length : Int) - 1)) bt386.1 bt386.2.1 true)) else (raddlelaw20_PlanBounds.j1 kj2 l0 l1 (wrap64 ((l0.length : Int) - 1)) bt386.1 bt386.2.1 true)) else (raddlelaw20_PlanBounds.j1 kj2 l0 l1 (wrap64 ((l0.length : Int) - 1)) bt386.1 bt386.2.1 true)) else (raddlelaw20_PlanBounds.j1 kj2 l0 l1 (wrap64 ((l0.length : Int) - 1)) bt386.1 bt386.2.1 true)))))) else (some false))) else (some true)) = some r := H
    have A12 := mk_ A120
    clear A120
    by_cases c13 : t383 = 0
    ·
     rw [if_pos c13] at H
     have c13b0 : (t383 == 0) = true := beq_iff_eq.mpr c13
     have c13b1 : (t383 != 0) = false := bne_eq_false_iff_eq.mpr c13
     clear c13
     replace H := Option.bind_eq_some_iff.mp H
     obtain ⟨⟨t386, t387, t388⟩, A140, H⟩ := H
     replace H : (if t388 = 0 then ((raddlelaw20_more.f l0 7 (wrap64 ((l0.length : Int) - 1)) 0 0 0 0 0 0 0 (⟨#[]⟩ : ByteArray) ([] : List Int) ([] : List Int) 0 0).bind fun t389 => ((plan_Bound.f t389 l1).bind fun bt392 => ((raddlelaw20_more.f l0 3 (wrap64 ((l0.length : Int) - 1)) 0 0 0 0 0 0 0 (⟨#[]⟩ : ByteArray) ([] : List Int) ([] : List Int) 0 0).bind fun t395 => ((plan_Bound.f t395 l1).bind fun bt398 => (if bt392.2.2 = 0 then (if bt398.2.2 = 0 then (if bt392.1 = t386 then (if bt392.2.1 = t387 then (if bt398.1 = t386 then (raddlelaw20_PlanBounds.j1 kj2 l0 l1 (wrap64 ((l0.length : Int) - 1)) t386 t387 (bt398.2.1 != t387)) else (raddlelaw20_PlanBounds.j1 kj2 l0 l1 (wrap64 ((l0.length : Int) - 1)) t386 t387 true)) else (raddlelaw20_PlanBounds.j1 kj2 l0 l1 (wrap64 ((l0.length : Int) - 1)) t386 t387 true)) else (raddlelaw20_PlanBounds.j1 kj2 l0 l1 (wrap64 ((l0.length : Int) - 1)) t386 t387 true)) else (raddlelaw20_PlanBounds.j1 kj2 l0 l1 (wrap64 ((l0.length : Int) - 1)) t386 t387 true)) else (raddlelaw20_PlanBounds.j1 kj2 l0 l1 (wrap64 ((l0.length : Int) - 1)) t386 t387 true)))))) else (some false)) = some r := H
     have A14 := mk_ A140
     clear A140
     by_cases c15 : t388 = 0
     ·
      rw [if_pos c15] at H
      have c15b0 : (t388 == 0) = true := beq_iff_eq.mpr c15
      have c15b1 : (t388 != 0) = false := bne_eq_false_iff_eq.mpr c15
      clear c15
      replace H := Option.bind_eq_some_iff.mp H
      obtain ⟨t389, A160, H⟩ := H
      replace H : ((plan_Bound.f t389 l1).bind fun bt392 => ((raddlelaw20_more.f l0 3 (wrap64 ((l0.length : Int) - 1)) 0 0 0 0 0 0 0 (⟨#[]⟩ : ByteArray) ([] : List Int) ([] : List Int) 0 0).bind fun t395 => ((plan_Bound.f t395 l1).bind fun bt398 => (if bt392.2.2 = 0 then (if bt398.2.2 = 0 then (if bt392.1 = t386 then (if bt392.2.1 = t387 then (if bt398.1 = t386 then (raddlelaw20_PlanBounds.j1 kj2 l0 l1 (wrap64 ((l0.length : Int) - 1)) t386 t387 (bt398.2.1 != t387)) else (raddlelaw20_PlanBounds.j1 kj2 l0 l1 (wrap64 ((l0.length : Int) - 1)) t386 t387 true)) else (raddlelaw20_PlanBounds.j1 kj2 l0 l1 (wrap64 ((l0.length : Int) - 1)) t386 t387 true)) else (raddlelaw20_PlanBounds.j1 kj2 l0 l1 (wrap64 ((l0.length : Int) - 1)) t386 t387 true)) else (raddlelaw20_PlanBounds.j1 kj2 l0 l1 (wrap64 ((l0.length : Int) - 1)) t386 t387 true)) else (raddlelaw20_PlanBounds.j1 kj2 l0 l1 (wrap64 ((l0.length : Int) - 1)) t386 t387 true))))) = some r := H
      have A16 := mk_ A160
      clear A160
      replace H := Option.bind_eq_some_iff.mp H
      obtain ⟨⟨t392, t393, t394⟩, A170, H⟩ := H
      replace H : ((raddlelaw20_more.f l0 3 (wrap64 ((l0.length : Int) - 1)) 0 0 0 0 0 0 0 (⟨#[]⟩ : ByteArray) ([] : List Int) ([] : List Int) 0 0).bind fun t395 => ((plan_Bound.f t395 l1).bind fun bt398 => (if t394 = 0 then (if bt398.2.2 = 0 then (if t392 = t386 then (if t393 = t387 then (if bt398.1 = t386 then (raddlelaw20_PlanBounds.j1 kj2 l0 l1 (wrap64 ((l0.length : Int) - 1)) t386 t387 (bt398.2.1 != t387)) else (raddlelaw20_PlanBounds.j1 kj2 l0 l1 (wrap64 ((l0.length : Int) - 1)) t386 t387 true)) else (raddlelaw20_PlanBounds.j1 kj2 l0 l1 (wrap64 ((l0.length : Int) - 1)) t386 t387 true)) else (raddlelaw20_PlanBounds.j1 kj2 l0 l1 (wrap64 ((l0.length : Int) - 1)) t386 t387 true)) else (raddlelaw20_PlanBounds.j1 kj2 l0 l1 (wrap64 ((l0.length : Int) - 1)) t386 t387 true)) else (raddlelaw20_PlanBounds.j1 kj2 l0 l1 (wrap64 ((l0.length : Int) - 1)) t386 t387 true)))) = some r := H
      have A17 := mk_ A170
      clear A170
      replace H := Option.bind_eq_some_iff.mp H
      obtain ⟨t395, A180, H⟩ := H
      replace H : ((plan_Bound.f t395 l1).bind fun bt398 => (if t394 = 0 then (if bt398.2.2 = 0 then (if t392 = t386 then (if t393 = t387 then (if bt398.1 = t386 then (raddlelaw20_PlanBounds.j1 kj2 l0 l1 (wrap64 ((l0.length : Int) - 1)) t386 t387 (bt398.2.1 != t387)) else (raddlelaw20_PlanBounds.j1 kj2 l0 l1 (wrap64 ((l0.length : Int) - 1)) t386 t387 true)) else (raddlelaw20_PlanBounds.j1 kj2 l0 l1 (wrap64 ((l0.length : Int) - 1)) t386 t387 true)) else (raddlelaw20_PlanBounds.j1 kj2 l0 l1 (wrap64 ((l0.length : Int) - 1)) t386 t387 true)) else (raddlelaw20_PlanBounds.j1 kj2 l0 l1 (wrap64 ((l0.length : Int) - 1)) t386 t387 true)) else (raddlelaw20_PlanBounds.j1 kj2 l0 l1 (wrap64 ((l0.length : Int) - 1)) t386 t387 true))) = some r := H
      have A18 := mk_ A180
      clear A180
      replace H := Option.bind_eq_some_iff.mp H
      obtain ⟨⟨t398, t399, t400⟩, A190, H⟩ := H
      replace H : (if t394 = 0 then (if t400 = 0 then (if t392 = t386 then (if t393 = t387 then (if t398 = t386 then (raddlelaw20_PlanBounds.j1 kj2 l0 l1 (wrap64 ((l0.length : Int) - 1)) t386 t387 (t399 != t387)) else (raddlelaw20_PlanBounds.j1 kj2 l0 l1 (wrap64 ((l0.length : Int) - 1)) t386 t387 true)) else (raddlelaw20_PlanBounds.j1 kj2 l0 l1 (wrap64 ((l0.length : Int) - 1)) t386 t387 true)) else (raddlelaw20_PlanBounds.j1 kj2 l0 l1 (wrap64 ((l0.length : Int) - 1)) t386 t387 true)) else (raddlelaw20_PlanBounds.j1 kj2 l0 l1 (wrap64 ((l0.length : Int) - 1)) t386 t387 true)) else (raddlelaw20_PlanBounds.j1 kj2 l0 l1 (wrap64 ((l0.length : Int) - 1)) t386 t387 true)) = some r := H
      have A19 := mk_ A190
      clear A190
      have HC20 := mk_ H
      clear H
      go_upto_region 12 with (first | ((with_reducible refine gate_callee (f := 11) rfl ?_); refine Short.gL (some 30) Try.func11 #[.slice A0 l0.length c0, .slice A1 l1.length c1] (h := ?_); (with_reducible refine (raddleref14_Plan.calls _ _ l0 _ _ l1 t382 t383 _ ?side1 ?side2 ?side3 ?side4 A12.out).mono ?_); (case side1 => exact cX_ (C_below HR0.out HB.out)); (case side2 => exact HC0.out); (case side3 => exact cX_ (C_below HR1.out HB.out)); (case side4 => exact HC1.out); rintro e w21 ⟨v384, rfl, ho0, hb⟩; refine ⟨_, rfl, ?_⟩; have n0_ := mk_ (N_lower (N_mono (ok' := fun k_ => True) (S_N (S_bound ho0)) (fun k_ hk_ => trivial)) (below_size (Short.hB HB))); have n1_ := mk_ (below_step (Short.hB HB) hb); clear HB; revert n0_ n1_; intro HO385 HB; (try clear hb ho0)) | ((with_reducible refine gate_callee (f := 13) rfl ?_); refine Short.gL (some 41) Try.func13 #[.slice A0 l0.length c0, .slice A1 l1.length c1] (h := ?_); (with_reducible refine (plan_Bound.calls _ _ l0 _ _ l1 t386 t387 t388 _ ?side1 ?side2 ?side3 ?side4 A14.out).mono ?_); (case side1 => exact cX_ (C_below HR0.out HB.out)); (case side2 => exact HC0.out); (case side3 => exact cX_ (C_below HR1.out HB.out)); (case side4 => exact HC1.out); rintro e w22 ⟨rfl, hb⟩; refine ⟨_, rfl, ?_⟩; have n0_ := mk_ (N_below (ZKN HO385) hb); have n1_ := mk_ (below_step (Short.hB HB) hb); clear HO385 HB; revert n0_ n1_; intro HO385 HB; (try clear hb)) | ((with_reducible refine gate_callee (f := 16) rfl ?_); refine Short.gL (some 51) Try.func16 #[.slice A0 l0.length c0, .agg #[.int .i64 7, .int .i64 (wrap64 ((l0.length : Int) - 1)), .int .i64 0, .int .i64 0, .int .i64 0, .int .i64 0, .int .i64 0, .int .i64 0, .int .i64 0, .string (⟨#[]⟩ : ByteArray), .slice none 0 0, .slice none 0 0, .int .i64 0, .int .i64 0]] (h := ?_); (refine (raddlelaw20_more.calls (fun k_ => k_ < w.heap.size) _ _ l0 7 (wrap64 ((l0.length : Int) - 1)) 0 0 0 0 0 0 0 (⟨#[]⟩ : ByteArray) (fun k_ => False) _ _ ([] : List Int) (fun k_ => False) _ _ ([] : List Int) 0 0 t389 _ ?side1 ?side2 ?side3 A16.out).mono ?_); (case side1 => exact V_mk HC0.out (F_below (C_F k34_heap HR0.out) (Short.hB HB))); (case side2 => exact V_nil _ _ _ _ _); (case side3 => exact V_nil _ _ _ _ _); rintro e w23 ⟨v390, rfl, ho0, hb⟩; refine ⟨_, rfl, ?_⟩; have n0_ := mk_ (N_elder' (ZKN HO385) (N_base ho0) hb); have n1_ := mk_ (N_lower (N_mono (ok' := fun k_ => nb_ k_ (v384)) ho0 (fun k_ hk_ => fN_ hk_ HO385)) (below_size (Short.hB HB))); have n2_ := mk_ (below_step (Short.hB HB) hb); clear HO385 HB; revert n0_ n1_ n2_; intro HO385 HO391 HB; (try clear hb ho0); obtain ⟨Ao24, co24, eo24⟩ := N_slice HO391.out; subst eo24) | ((with_reducible refine gate_callee (f := 13) rfl ?_); refine Short.gL (some 53) Try.func13 #[.slice Ao24 t389.length co24, .slice A1 l1.length c1] (h := ?_); (with_reducible refine (plan_Bound.calls _ _ t389 _ _ l1 t392 t393 t394 _ ?side1 ?side2 ?side3 ?side4 A17.out).mono ?_); (case side1 => exact cX_ (N_reads' HO391.out).2.2); (case side2 => exact (N_reads' HO391.out).2.1); (case side3 => exact cX_ (C_below HR1.out HB.out)); (case side4 => exact HC1.out); rintro e w25 ⟨rfl, hb⟩; refine ⟨_, rfl, ?_⟩; have n0_ := mk_ (N_below (ZKN HO385) hb); have n1_ := mk_ (N_below (ZKN HO391) hb); have n2_ := mk_ (below_step (Short.hB HB) hb); clear HO385 HO391 HB; revert n0_ n1_ n2_; intro HO385 HO391 HB; (try clear hb)) | ((with_reducible refine gate_callee (f := 16) rfl ?_); refine Short.gL (some 61) Try.func16 #[.slice A0 l0.length c0, .agg #[.int .i64 3, .int .i64 (wrap64 ((l0.length : Int) - 1)), .int .i64 0, .int .i64 0, .int .i64 0, .int .i64 0, .int .i64 0, .int .i64 0, .int .i64 0, .string (⟨#[]⟩ : ByteArray), .slice none 0 0, .slice none 0 0, .int .i64 0, .int .i64 0]] (h := ?_); (refine (raddlelaw20_more.calls (fun k_ => k_ < w.heap.size) _ _ l0 3 (wrap64 ((l0.length : Int) - 1)) 0 0 0 0 0 0 0 (⟨#[]⟩ : ByteArray) (fun k_ => False) _ _ ([] : List Int) (fun k_ => False) _ _ ([] : List Int) 0 0 t395 _ ?side1 ?side2 ?side3 A18.out).mono ?_); (case side1 => exact V_mk HC0.out (F_below (C_F k34_heap HR0.out) (Short.hB HB))); (case side2 => exact V_nil _ _ _ _ _); (case side3 => exact V_nil _ _ _ _ _); rintro e w26 ⟨v396, rfl, ho0, hb⟩; refine ⟨_, rfl, ?_⟩; have n0_ := mk_ (N_elder' (ZKN HO385) (N_base ho0) hb); have n1_ := mk_ (N_elder' (ZKN HO391) (N_base ho0) hb); have n2_ := mk_ (N_lower (N_mono (ok' := fun k_ => nb_ k_ (v384) ∧ nb_ k_ (.slice Ao24 t389.length co24)) ho0 (fun k_ hk_ => ⟨fN_ hk_ HO385, fN_ hk_ HO391⟩)) (below_size (Short.hB HB))); have n3_ := mk_ (below_step (Short.hB HB) hb); clear HO385 HO391 HB; revert n0_ n1_ n2_ n3_; intro HO385 HO391 HO397 HB; (try clear hb ho0); obtain ⟨Ao27, co27, eo27⟩ := N_slice HO397.out; subst eo27) | ((with_reducible refine gate_callee (f := 13) rfl ?_); refine Short.gL (some 63) Try.func13 #[.slice Ao27 t395.length co27, .slice A1 l1.length c1] (h := ?_); (with_reducible refine (plan_Bound.calls _ _ t395 _ _ l1 t398 t399 t400 _ ?side1 ?side2 ?side3 ?side4 A19.out).mono ?_); (case side1 => exact cX_ (N_reads' HO397.out).2.2); (case side2 => exact (N_reads' HO397.out).2.1); (case side3 => exact cX_ (C_below HR1.out HB.out)); (case side4 => exact HC1.out); rintro e w28 ⟨rfl, hb⟩; refine ⟨_, rfl, ?_⟩; have n0_ := mk_ (N_below (ZKN HO385) hb); have n1_ := mk_ (N_below (ZKN HO391) hb); have n2_ := mk_ (N_below (ZKN HO397) hb); have n3_ := mk_ (below_step (Short.hB HB) hb); clear HO385 HO391 HO397 HB; revert n0_ n1_ n2_ n3_; intro HO385 HO391 HO397 HB; (try clear hb)))
      (try simp only [Act.put, List.setIfInBounds_toArray, List.set_cons_zero, List.set_cons_succ])
      go_cut [92] (fun v92 wc => ∃ (kq : Nat) (x92_19 : Bool), v92 = .bool x92_19 ∧ Aside0 (raddlelaw20_PlanBounds.j1 kq l0 l1 (wrap64 ((l0.length : Int) - 1)) t386 t387 x92_19 = some r) ∧ Aside0 (kq ≤ kj2) ∧ Aside0 (Below w.heap.size w wc))
      case first =>
       have H := HC20.out
       clear HC20
       by_cases c29 : t394 = 0
       ·
        rw [if_pos c29] at H
        have c29b0 : (t394 == 0) = true := beq_iff_eq.mpr c29
        have c29b1 : (t394 != 0) = false := bne_eq_false_iff_eq.mpr c29
        clear c29
        (first | rw [c29b0] | (simp only [i64_w, i32_w]; rw [c29b0]) | skip)
        by_cases c30 : t400 = 0
        ·
         rw [if_pos c30] at H
         have c30b0 : (t400 == 0) = true := beq_iff_eq.mpr c30
         have c30b1 : (t400 != 0) = false := bne_eq_false_iff_eq.mpr c30
         clear c30
         by_cases c31 : t392 = t386
         ·
          rw [if_pos c31] at H
          have c31b0 : (t392 == t386) = true := beq_iff_eq.mpr c31
          have c31b1 : (t392 != t386) = false := bne_eq_false_iff_eq.mpr c31
          clear c31
          by_cases c32 : t393 = t387
          ·
           rw [if_pos c32] at H
           have c32b0 : (t393 == t387) = true := beq_iff_eq.mpr c32
           have c32b1 : (t393 != t387) = false := bne_eq_false_iff_eq.mpr c32
           clear c32
           by_cases c33 : t398 = t386
           ·
            rw [if_pos c33] at H
            have c33b0 : (t398 == t386) = true := beq_iff_eq.mpr c33
            have c33b1 : (t398 != t386) = false := bne_eq_false_iff_eq.mpr c33
            clear c33
            have H' := mk_ H
            clear H
            go_wp2
            go_meet
            case rel => exact ⟨_, ((t399 != t387)), z9, H', ⟨by have := HJ2.out; first | omega | exact Nat.le_refl _⟩, ⟨Short.hB HB⟩⟩
           ·
            rw [if_neg c33] at H
            have c33b0 : (t398 == t386) = false := beq_eq_false_iff_ne.mpr c33
            have c33b1 : (t398 != t386) = true := bne_iff_ne.mpr c33
            exact absurd H (by rw [hrt]; cases kj2 <;> simp [raddlelaw20_PlanBounds.j1])
          ·
           rw [if_neg c32] at H
           have c32b0 : (t393 == t387) = false := beq_eq_false_iff_ne.mpr c32
           have c32b1 : (t393 != t387) = true := bne_iff_ne.mpr c32
           exact absurd H (by rw [hrt]; cases kj2 <;> simp [raddlelaw20_PlanBounds.j1])
         ·
          rw [if_neg c31] at H
          have c31b0 : (t392 == t386) = false := beq_eq_false_iff_ne.mpr c31
          have c31b1 : (t392 != t386) = true := bne_iff_ne.mpr c31
          exact absurd H (by rw [hrt]; cases kj2 <;> simp [raddlelaw20_PlanBounds.j1])
        ·
         rw [if_neg c30] at H
         have c30b0 : (t400 == 0) = false := beq_eq_false_iff_ne.mpr c30
         have c30b1 : (t400 != 0) = true := bne_iff_ne.mpr c30
         exact absurd H (by rw [hrt]; cases kj2 <;> simp [raddlelaw20_PlanBounds.j1])
       ·
        rw [if_neg c29] at H
        have c29b0 : (t394 == 0) = false := beq_eq_false_iff_ne.mpr c29
        have c29b1 : (t394 != 0) = true := bne_iff_ne.mpr c29
        (first | rw [c29b0] | (simp only [i64_w, i32_w]; rw [c29b0]) | skip)
        exact absurd H (by rw [hrt]; cases kj2 <;> simp [raddlelaw20_PlanBounds.j1])
      case rest =>
       clear HC20
       try clear c1
       try clear c2
       try clear p2
       try clear c3
       try clear c4
       try clear c5
       try clear p6
       try clear c8
       try clear c11
       try clear c13
       try clear c13b0
       try clear c13b1
       try clear c15
       try clear c15b0
       try clear c15b1
       try clear c16
       try clear c29
       try clear c29b0
       try clear c29b1
       try clear c30
       try clear c30b0
       try clear c30b1
       try clear c31
       try clear c31b0
       try clear c31b1
       try clear c32
       try clear c32b0
       try clear c32b1
       try clear c33
       try clear c33b0
       try clear c33b1
       try clear p2
       obtain ⟨kq, x92_19, rfl, HA, HJ19, HB⟩ := hcut
       cases kq with
       | zero => exact absurd HA.out (by simp [raddlelaw20_PlanBounds.j1])
       | succ kj19 =>
        have H := HA.out
        clear HA
        simp only [raddlelaw20_PlanBounds.j1] at H
        by_cases c34 : x92_19 = true
        ·
         subst c34
         have H1 : (some false) = some r := by rw [if_pos rfl] at H; exact H
         clear H
         have H := H1
         clear H1
         exact absurd H (by rw [hrt]; simp)
        ·
         replace c34 := Bool.eq_false_iff.mpr c34
         subst c34
         have H1 : ((raddlelaw20_more.f l0 5 (wrap64 ((l0.length : Int) - 1)) (wrap64 ((l0.length : Int) - 1)) 0 0 0 0 0 0 (⟨#[]⟩ : ByteArray) ([] : List Int) ([] : List Int) 0 0).bind fun t401 => ((plan_Bound.f t401 l1).bind fun bt404 => (if bt404.2.2 = 0 then (if bt404.1 = (wrap64 (2 * t386)) then (if bt404.2.1 = t387 then (raddlelaw20_PlanBounds.j2 kj19 l0 l1 (wrap64 ((l0.length : Int) - 1)) t386 t387 false) else (raddlelaw20_PlanBounds.j2 kj19 l0 l1 (wrap64 ((l0.length : Int) - 1)) t386 t387 true)) else (raddlelaw20_PlanBounds.j2 kj19 l0 l1 (wrap64 ((l0.length : Int) - 1)) t386 t387 true)) else (if bt404.2.2 = 11 then (raddlelaw20_PlanBounds.j2 kj19 l0 l1 (wrap64 ((l0.length : Int) - 1)) t386 t387 (decide ((wrap64 (2 * t386)) ≤ 1125899906842624))) else (raddlelaw20_PlanBounds.j2 kj19 l0 l1 (wrap64 ((l0.length : Int) - 1)) t386 t387 true))))) = some r := by rw [if_neg (show ¬ (false = true) by decide)] at H; exact H
         clear H
         have H := H1
         clear H1
         replace H := Option.bind_eq_some_iff.mp H
         obtain ⟨t401, A350, H⟩ := H
         replace H : ((plan_Bound.f t401 l1).bind fun bt404 => (if bt404.2.2 = 0 then (if bt404.1 = (wrap64 (2 * t386)) then (if bt404.2.1 = t387 then (raddlelaw20_PlanBounds.j2 kj19 l0 l1 (wrap64 ((l0.length : Int) - 1)) t386 t387 false) else (raddlelaw20_PlanBounds.j2 kj19 l0 l1 (wrap64 ((l0.length : Int) - 1)) t386 t387 true)) else (raddlelaw20_PlanBounds.j2 kj19 l0 l1 (wrap64 ((l0.length : Int) - 1)) t386 t387 true)) else (if bt404.2.2 = 11 then (raddlelaw20_PlanBounds.j2 kj19 l0 l1 (wrap64 ((l0.length : Int) - 1)) t386 t387 (decide ((wrap64 (2 * t386)) ≤ 1125899906842624))) else (raddlelaw20_PlanBounds.j2 kj19 l0 l1 (wrap64 ((l0.length : Int) - 1)) t386 t387 true)))) = some r := H
         have A35 := mk_ A350
         clear A350
         replace H := Option.bind_eq_some_iff.mp H
         obtain ⟨⟨t404, t405, t406⟩, A360, H⟩ := H
         replace H : (if t406 = 0 then (if t404 = (wrap64 (2 * t386)) then (if t405 = t387 then (raddlelaw20_PlanBounds.j2 kj19 l0 l1 (wrap64 ((l0.length : Int) - 1)) t386 t387 false) else (raddlelaw20_PlanBounds.j2 kj19 l0 l1 (wrap64 ((l0.length : Int) - 1)) t386 t387 true)) else (raddlelaw20_PlanBounds.j2 kj19 l0 l1 (wrap64 ((l0.length : Int) - 1)) t386 t387 true)) else (if t406 = 11 then (raddlelaw20_PlanBounds.j2 kj19 l0 l1 (wrap64 ((l0.length : Int) - 1)) t386 t387 (decide ((wrap64 (2 * t386)) ≤ 1125899906842624))) else (raddlelaw20_PlanBounds.j2 kj19 l0 l1 (wrap64 ((l0.length : Int) - 1)) t386 t387 true))) = some r := H
         have A36 := mk_ A360
         clear A360
         have HC37 := mk_ H
         clear H
         go_upto_region 15 with (first | ((with_reducible refine gate_callee (f := 16) rfl ?_); refine Short.gL (some 98) Try.func16 #[.slice A0 l0.length c0, .agg #[.int .i64 5, .int .i64 (wrap64 ((l0.length : Int) - 1)), .int .i64 (wrap64 ((l0.length : Int) - 1)), .int .i64 0, .int .i64 0, .int .i64 0, .int .i64 0, .int .i64 0, .int .i64 0, .string (⟨#[]⟩ : ByteArray), .slice none 0 0, .slice none 0 0, .int .i64 0, .int .i64 0]] (h := ?_); (refine (raddlelaw20_more.calls (fun k_ => k_ < w.heap.size) _ _ l0 5 (wrap64 ((l0.length : Int) - 1)) (wrap64 ((l0.length : Int) - 1)) 0 0 0 0 0 0 (⟨#[]⟩ : ByteArray) (fun k_ => False) _ _ ([] : List Int) (fun k_ => False) _ _ ([] : List Int) 0 0 t401 _ ?side1 ?side2 ?side3 A35.out).mono ?_); (case side1 => exact V_mk HC0.out (F_below (C_F k34_heap HR0.out) (Short.hB HB))); (case side2 => exact V_nil _ _ _ _ _); (case side3 => exact V_nil _ _ _ _ _); rintro e w38 ⟨v402, rfl, ho0, hb⟩; refine ⟨_, rfl, ?_⟩; have n0_ := mk_ (N_lower (N_mono (ok' := fun k_ => True) ho0 (fun k_ hk_ => trivial)) (below_size (Short.hB HB))); have n1_ := mk_ (below_step (Short.hB HB) hb); clear HB; revert n0_ n1_; intro HO403 HB; (try clear hb ho0); obtain ⟨Ao39, co39, eo39⟩ := N_slice HO403.out; subst eo39) | ((with_reducible refine gate_callee (f := 13) rfl ?_); refine Short.gL (some 100) Try.func13 #[.slice Ao39 t401.length co39, .slice A1 l1.length c1] (h := ?_); (with_reducible refine (plan_Bound.calls _ _ t401 _ _ l1 t404 t405 t406 _ ?side1 ?side2 ?side3 ?side4 A36.out).mono ?_); (case side1 => exact cX_ (N_reads' HO403.out).2.2); (case side2 => exact (N_reads' HO403.out).2.1); (case side3 => exact cX_ (C_below HR1.out HB.out)); (case side4 => exact HC1.out); rintro e w40 ⟨rfl, hb⟩; refine ⟨_, rfl, ?_⟩; have n0_ := mk_ (N_below (ZKN HO403) hb); have n1_ := mk_ (below_step (Short.hB HB) hb); clear HO403 HB; revert n0_ n1_; intro HO403 HB; (try clear hb)))
         (try simp only [Act.put, List.setIfInBounds_toArray, List.set_cons_zero, List.set_cons_succ])
         go_cut [129] (fun v129 wc => ∃ (kq : Nat) (x129_36 : Bool), v129 = .bool x129_36 ∧ Aside0 (raddlelaw20_PlanBounds.j2 kq l0 l1 (wrap64 ((l0.length : Int) - 1)) t386 t387 x129_36 = some r) ∧ Aside0 (kq ≤ kj19) ∧ Aside0 (Below w.heap.size w wc))
         case first =>
          have H := HC37.out
          clear HC37
          by_cases c41 : t406 = 0
          ·
           rw [if_pos c41] at H
           have c41b0 : (t406 == 0) = true := beq_iff_eq.mpr c41
           have c41b1 : (t406 != 0) = false := bne_eq_false_iff_eq.mpr c41
           clear c41
           (first | rw [c41b0] | (simp only [i64_w, i32_w]; rw [c41b0]) | skip)
           by_cases c42 : t404 = (wrap64 (2 * t386))
           ·
            rw [if_pos c42] at H
            have c42b0 : (t404 == (wrap64 (2 * t386))) = true := beq_iff_eq.mpr c42
            have c42b1 : (t404 != (wrap64 (2 * t386))) = false := bne_eq_false_iff_eq.mpr c42
            clear c42
            by_cases c43 : t405 = t387
            ·
             rw [if_pos c43] at H
             have c43b0 : (t405 == t387) = true := beq_iff_eq.mpr c43
             have c43b1 : (t405 != t387) = false := bne_eq_false_iff_eq.mpr c43
             clear c43
             have H' := mk_ H
             clear H
             go_wp2
             go_meet
             case rel => exact ⟨_, (false), z9, H', ⟨by have := HJ2.out; have := HJ19.out; first | omega | exact Nat.le_refl _⟩, ⟨Short.hB HB⟩⟩
            ·
             rw [if_neg c43] at H
             have c43b0 : (t405 == t387) = false := beq_eq_false_iff_ne.mpr c43
             have c43b1 : (t405 != t387) = true := bne_iff_ne.mpr c43
             exact absurd H (by rw [hrt]; cases kj19 <;> simp [raddlelaw20_PlanBounds.j2])
           ·
            rw [if_neg c42] at H
            have c42b0 : (t404 == (wrap64 (2 * t386))) = false := beq_eq_false_iff_ne.mpr c42
            have c42b1 : (t404 != (wrap64 (2 * t386))) = true := bne_iff_ne.mpr c42
            exact absurd H (by rw [hrt]; cases kj19 <;> simp [raddlelaw20_PlanBounds.j2])
          ·
           rw [if_neg c41] at H
           have c41b0 : (t406 == 0) = false := beq_eq_false_iff_ne.mpr c41
           have c41b1 : (t406 != 0) = true := bne_iff_ne.mpr c41
           (first | rw [c41b0] | (simp only [i64_w, i32_w]; rw [c41b0]) | skip)
           by_cases c44 : t406 = 11
           ·
            rw [if_pos c44] at H
            have c44b0 : (t406 == 11) = true := beq_iff_eq.mpr c44
            have c44b1 : (t406 != 11) = false := bne_eq_false_iff_eq.mpr c44
            clear c44
            have H' := mk_ H
            clear H
            go_wp2
            go_meet
            case rel => exact ⟨_, (decide ((wrap64 (2 * t386)) ≤ 1125899906842624)), z9, H', ⟨by have := HJ2.out; have := HJ19.out; first | omega | exact Nat.le_refl _⟩, ⟨Short.hB HB⟩⟩
           ·
            rw [if_neg c44] at H
            have c44b0 : (t406 == 11) = false := beq_eq_false_iff_ne.mpr c44
            have c44b1 : (t406 != 11) = true := bne_iff_ne.mpr c44
            exact absurd H (by rw [hrt]; cases kj19 <;> simp [raddlelaw20_PlanBounds.j2])
         case rest =>
          clear HC37
          try clear c1
          try clear c2
          try clear p2
          try clear c3
          try clear c4
          try clear c5
          try clear p6
          try clear c8
          try clear c11
          try clear c13
          try clear c13b0
          try clear c13b1
          try clear c15
          try clear c15b0
          try clear c15b1
          try clear c16
          try clear c29
          try clear c29b0
          try clear c29b1
          try clear c30
          try clear c30b0
          try clear c30b1
          try clear c31
          try clear c31b0
          try clear c31b1
          try clear c32
          try clear c32b0
          try clear c32b1
          try clear c33
          try clear c33b0
          try clear c33b1
          try clear c34
          try clear c41
          try clear c41b0
          try clear c41b1
          try clear c42
          try clear c42b0
          try clear c42b1
          try clear c43
          try clear c43b0
          try clear c43b1
          try clear c44
          try clear c44b0
          try clear c44b1
          try clear p2
          try clear p6
          obtain ⟨kq, x129_36, rfl, HA, HJ36, HB⟩ := hcut
          cases kq with
          | zero => exact absurd HA.out (by simp [raddlelaw20_PlanBounds.j2])
          | succ kj36 =>
           have H := HA.out
           clear HA
           simp only [raddlelaw20_PlanBounds.j2] at H
           by_cases c45 : x129_36 = true
           ·
            subst c45
            have H1 : (some false) = some r := by rw [if_pos rfl] at H; exact H
            clear H
            have H := H1
            clear H1
            exact absurd H (by rw [hrt]; simp)
           ·
            replace c45 := Bool.eq_false_iff.mpr c45
            subst c45
            have H1 : ((raddlelaw20_more.f l0 8 (wrap64 ((l0.length : Int) - 1)) 0 0 0 0 0 0 0 (⟨#[]⟩ : ByteArray) ([] : List Int) ([] : List Int) 1 0).bind fun t407 => ((plan_Bound.f t407 l1).bind fun bt410 => (if bt410.2.2 = 0 then (if bt410.1 = t386 then (if bt410.2.1 = (mx t387 t386) then ((raddlelaw20_wakes.f kj36).bind fun t413 => (some t413)) else (some false)) else (some false)) else (some false)))) = some r := by rw [if_neg (show ¬ (false = true) by decide)] at H; exact H
            clear H
            have H := H1
            clear H1
            replace H := Option.bind_eq_some_iff.mp H
            obtain ⟨t407, A460, H⟩ := H
            replace H : ((plan_Bound.f t407 l1).bind fun bt410 => (if bt410.2.2 = 0 then (if bt410.1 = t386 then (if bt410.2.1 = (mx t387 t386) then ((raddlelaw20_wakes.f kj36).bind fun t413 => (some t413)) else (some false)) else (some false)) else (some false))) = some r := H
            have A46 := mk_ A460
            clear A460
            replace H := Option.bind_eq_some_iff.mp H
            obtain ⟨⟨t410, t411, t412⟩, A470, H⟩ := H
            replace H : (if t412 = 0 then (if t410 = t386 then (if t411 = (mx t387 t386) then ((raddlelaw20_wakes.f kj36).bind fun t413 => (some t413)) else (some false)) else (some false)) else (some false)) = some r := H
            have A47 := mk_ A470
            clear A470
            by_cases c48 : t412 = 0
            ·
             rw [if_pos c48] at H
             have c48b0 : (t412 == 0) = true := beq_iff_eq.mpr c48
             have c48b1 : (t412 != 0) = false := bne_eq_false_iff_eq.mpr c48
             clear c48
             by_cases c49 : t410 = t386
             ·
              rw [if_pos c49] at H
              have c49b0 : (t410 == t386) = true := beq_iff_eq.mpr c49
              have c49b1 : (t410 != t386) = false := bne_eq_false_iff_eq.mpr c49
              clear c49
              obtain ⟨ji50, hji50⟩ : ∃ j_ : Int, (mx t387 t386) = j_ := ⟨_, rfl⟩
              replace H : (if t411 = (ji50) then ((raddlelaw20_wakes.f kj36).bind fun t413 => (some t413)) else (some false)) = some r := by first | (rw [hji50] at H; exact H) | (simp only [hji50] at H ⊢; exact H)
              (try rw [hji50] at A46)
              (try rw [hji50] at A47)
              have hji50_ : (if t387 < t386 then t386 else t387) = ji50 := hji50
              by_cases c51 : t411 = (ji50)
              ·
               rw [if_pos c51] at H
               have c51b0 : (t411 == (ji50)) = true := beq_iff_eq.mpr c51
               have c51b1 : (t411 != (ji50)) = false := bne_eq_false_iff_eq.mpr c51
               clear c51
               replace H := Option.bind_eq_some_iff.mp H
               obtain ⟨t413, A520, H⟩ := H
               replace H : (some t413) = some r := H
               have A52 := mk_ A520
               clear A520
               obtain rfl := Option.some.inj H
               go_wp2_with (first | ((with_reducible refine gate_callee (f := 16) rfl ?_); refine Short.gL (some 134) Try.func16 #[.slice A0 l0.length c0, .agg #[.int .i64 8, .int .i64 (wrap64 ((l0.length : Int) - 1)), .int .i64 0, .int .i64 0, .int .i64 0, .int .i64 0, .int .i64 0, .int .i64 0, .int .i64 0, .string (⟨#[]⟩ : ByteArray), .slice none 0 0, .slice none 0 0, .int .i64 1, .int .i64 0]] (h := ?_); (refine (raddlelaw20_more.calls (fun k_ => k_ < w.heap.size) _ _ l0 8 (wrap64 ((l0.length : Int) - 1)) 0 0 0 0 0 0 0 (⟨#[]⟩ : ByteArray) (fun k_ => False) _ _ ([] : List Int) (fun k_ => False) _ _ ([] : List Int) 1 0 t407 _ ?side1 ?side2 ?side3 A46.out).mono ?_); (case side1 => exact V_mk HC0.out (F_below (C_F k34_heap HR0.out) (Short.hB HB))); (case side2 => exact V_nil _ _ _ _ _); (case side3 => exact V_nil _ _ _ _ _); rintro e w53 ⟨v408, rfl, ho0, hb⟩; refine ⟨_, rfl, ?_⟩; have n0_ := mk_ (N_lower (N_mono (ok' := fun k_ => True) ho0 (fun k_ hk_ => trivial)) (below_size (Short.hB HB))); have n1_ := mk_ (below_step (Short.hB HB) hb); clear HB; revert n0_ n1_; intro HO409 HB; (try clear hb ho0); obtain ⟨Ao54, co54, eo54⟩ := N_slice HO409.out; subst eo54) | ((with_reducible refine gate_callee (f := 13) rfl ?_); refine Short.gL (some 136) Try.func13 #[.slice Ao54 t407.length co54, .slice A1 l1.length c1] (h := ?_); (with_reducible refine (plan_Bound.calls _ _ t407 _ _ l1 t410 t411 t412 _ ?side1 ?side2 ?side3 ?side4 A47.out).mono ?_); (case side1 => exact cX_ (N_reads' HO409.out).2.2); (case side2 => exact (N_reads' HO409.out).2.1); (case side3 => exact cX_ (C_below HR1.out HB.out)); (case side4 => exact HC1.out); rintro e w55 ⟨rfl, hb⟩; refine ⟨_, rfl, ?_⟩; have n0_ := mk_ (N_below (ZKN HO409) hb); have n1_ := mk_ (below_step (Short.hB HB) hb); clear HO409 HB; revert n0_ n1_; intro HO409 HB; (try clear hb)) | (go_at_call 14; (with_reducible refine (raddlelaw20_wakes.calls kj36  t413 _ A52.out).mono ?_); rintro e w56 ⟨rfl, hb⟩; have n0_ := mk_ (N_below (ZKN HO409) hb); have n1_ := mk_ (below_step (Short.hB HB) hb); clear HO409 HB; revert n0_ n1_; intro HO409 HB; (try clear hb); (try clear hb2); (try clear hk); (try clear hi)))
               go_ret
               exact ⟨by first | rfl | (simp [errW_none, errW_some] <;> rfl) | (simp only [← hji50]; first | rfl | (simp [errW_none, errW_some] <;> rfl)) | (simp [*, errW_none, errW_some] <;> rfl), Short.hB HB⟩
              ·
               rw [if_neg c51] at H
               have c51b0 : (t411 == (ji50)) = false := beq_eq_false_iff_ne.mpr c51
               have c51b1 : (t411 != (ji50)) = true := bne_iff_ne.mpr c51
               exact absurd H (by rw [hrt]; simp)
             ·
              rw [if_neg c49] at H
              have c49b0 : (t410 == t386) = false := beq_eq_false_iff_ne.mpr c49
              have c49b1 : (t410 != t386) = true := bne_iff_ne.mpr c49
              exact absurd H (by rw [hrt]; simp)
            ·
             rw [if_neg c48] at H
             have c48b0 : (t412 == 0) = false := beq_eq_false_iff_ne.mpr c48
             have c48b1 : (t412 != 0) = true := bne_iff_ne.mpr c48
             exact absurd H (by rw [hrt]; simp)
     ·
      rw [if_neg c15] at H
      have c15b0 : (t388 == 0) = false := beq_eq_false_iff_ne.mpr c15
      have c15b1 : (t388 != 0) = true := bne_iff_ne.mpr c15
      exact absurd H (by rw [hrt]; simp)
    ·
     rw [if_neg c13] at H
     have c13b0 : (t383 == 0) = false := beq_eq_false_iff_ne.mpr c13
     have c13b1 : (t383 != 0) = true := bne_iff_ne.mpr c13
     obtain rfl := Option.some.inj H
     go_wp2_with (first | ((with_reducible refine gate_callee (f := 11) rfl ?_); refine Short.gL (some 30) Try.func11 #[.slice A0 l0.length c0, .slice A1 l1.length c1] (h := ?_); (with_reducible refine (raddleref14_Plan.calls _ _ l0 _ _ l1 t382 t383 _ ?side1 ?side2 ?side3 ?side4 A12.out).mono ?_); (case side1 => exact cX_ (C_below HR0.out HB.out)); (case side2 => exact HC0.out); (case side3 => exact cX_ (C_below HR1.out HB.out)); (case side4 => exact HC1.out); rintro e w57 ⟨v384, rfl, ho0, hb⟩; refine ⟨_, rfl, ?_⟩; have n0_ := mk_ (N_lower (N_mono (ok' := fun k_ => True) (S_N (S_bound ho0)) (fun k_ hk_ => trivial)) (below_size (Short.hB HB))); have n1_ := mk_ (below_step (Short.hB HB) hb); clear HB; revert n0_ n1_; intro HO385 HB; (try clear hb ho0)))
     go_ret
     exact ⟨by first | rfl | (simp [errW_none, errW_some] <;> rfl) | (simp [*, errW_none, errW_some] <;> rfl), Short.hB HB⟩
def raddlelaw20_PlanBounds.WF29 (x : S29) : Prop := (Lit.int .i64 x.f0).wf = true ∧ (Lit.int .i64 x.f1).wf = true ∧ x.f2.size ≤ maxLen
def raddlelaw20_PlanBounds.WF31 (x : S31) : Prop := (Lit.int .i64 x.f0).wf = true ∧ (Lit.int .i64 x.f1).wf = true ∧ (Lit.int .i64 x.f2).wf = true ∧ raddlelaw20_PlanBounds.WF29 x.f3
def raddlelaw20_PlanBounds.WF34 (x : S34) : Prop := (Lit.int .i64 x.f0).wf = true ∧ (Lit.int .i64 x.f1).wf = true ∧ (Lit.int .i64 x.f2).wf = true ∧ (Lit.int .i64 x.f3).wf = true ∧ raddlelaw20_PlanBounds.WF31 x.f4 ∧ (x.f5.length ≤ maxLen ∧ ∀ x0_ ∈ x.f5, (Lit.int .i64 x0_).wf = true) ∧ (x.f6.length ≤ maxLen ∧ ∀ x0_ ∈ x.f6, (Lit.int .i64 x0_).wf = true) ∧ (Lit.int .i64 x.f7).wf = true ∧ (Lit.int .i64 x.f8).wf = true
def raddlelaw20_PlanBounds.WF54 (x : S54) : Prop := (x.f0.length ≤ maxLen ∧ ∀ x0_ ∈ x.f0, (Lit.int .i64 x0_).wf = true)
def raddlelaw20_PlanBounds.Pure : Prop := ∀ (x0 : List (S34)) (x1 : List (S54)), (x0.length ≤ maxLen ∧ ∀ x0_ ∈ x0, raddlelaw20_PlanBounds.WF34 x0_) → (x1.length ≤ maxLen ∧ ∀ x0_ ∈ x1, raddlelaw20_PlanBounds.WF54 x0_) → ∃ k, raddlelaw20_PlanBounds.f k x0 x1 = some true
end Go.Proofs.Ytimbbaoodjhdoaa.PAll
end
section
namespace Go.Proofs.Ytimbbaoodjhdoaa.Plan
open Go.RowKit Go.Proofs.Ytimbbaoodjhdoaa.PAll Go.Proofs.Ytimbbaoodjhdoaa.Plain Go.Proofs.YtimbbaoodjhdoaaW.PrintWords Go.Proofs.YtimbbaoodjhdoaaW.PrintLast Go.Proofs.YtimbbaoodjhdoaaW.PrintMore Go.Proofs.Ytimbbaoodjhdoaa.ZipT Go.Proofs.YtimbbaoodjhdoaaW.PrintWords.Kd Go.Proofs.YtimbbaoodjhdoaaW.PrintMore.Kd
set_option linter.unusedVariables false
set_option linter.unusedSimpArgs false
theorem rdN_drop {l : List No} {i : Nat} {v : No} {m : List No} (h : l.drop i = v :: m) : rd_T34 l (i : Int) = v := by
 show l.getD (i : Int).toNat _ = v
 rw [Int.toNat_natCast, List.getD_eq_getElem?_getD]
 have := congrArg (·[0]?) h
 simp only [List.getElem?_drop, Nat.add_zero, List.getElem?_cons_zero] at this
 rw [this]; rfl
theorem long_eq (k : Nat) (v : S29) (hk : 2 ≤ k) : raddlelaw03_Long.f k [v] = some (decide (v.f2.size > 300)) := by
 obtain ⟨k, rfl⟩ : ∃ j, k = j + 2 := ⟨k - 2, by omega⟩
 unfold raddlelaw03_Long.f
 simp only [raddlelaw03_Long.l0]
 rw [if_pos (show (0 : Int) < (([v] : List _).length : Int) by rw [List.length_singleton]; decide), if_pos z10]
 show (if (v.f2.size : Int) > 300 then _ else _) = _
 by_cases c : v.f2.size > 300
 ·
  rw [if_pos z5, decide_eq_true c]
 ·
  rw [if_neg z5, decide_eq_false c, if_neg (by rw [List.length_singleton, show wrap64 (0 + 1) = 1 by unfold wrap64; omega]; decide)]
theorem hvN_l0 (l : List No) (hl : l.length ≤ 40) (m : List No) : ∀ (k i : Nat), l.drop i = m → m.length + 3 < k →
  raddlelaw20_Heavy.l0 k l (i : Int) = some (m.any hvX) := by
 induction m with
 | nil =>
  intro k i h hk
  obtain ⟨k, rfl⟩ : ∃ j, k = j + 1 := ⟨k - 1, by omega⟩
  have := List.drop_eq_nil_iff.1 h
  simp only [raddlelaw20_Heavy.l0]
  rw [if_neg z5]; rfl
 | cons v m ih =>
  intro k i h hk
  obtain ⟨k, rfl⟩ : ∃ j, k = j + 1 := ⟨k - 1, by omega⟩
  obtain ⟨h1, h2⟩ := drop_next h
  rw [List.length_cons] at hk
  simp only [raddlelaw20_Heavy.l0]
  rw [if_pos z5, if_pos z5, rdN_drop h, List.any_cons]
  unfold hvX
  by_cases c : v.f5.length > 40
  ·
   rw [if_pos z5, decide_eq_true c]; rfl
  rw [if_neg z5, decide_eq_false c, Bool.false_or]
  by_cases d : v.f6.length > 40
  ·
   rw [if_pos z5, decide_eq_true d]; rfl
  rw [if_neg z5, decide_eq_false d, Bool.false_or, long_eq k _ z5, Option.bind_some]
  by_cases e : v.f4.f3.f2.size > 300
  ·
   rw [decide_eq_true e, if_pos rfl]; rfl
  ·
   rw [decide_eq_false e, if_neg z10, Bool.false_or, wrapn i z5]
   exact ih k (i + 1) h1 z5
theorem hvN_eq (k : Nat) (l : List No) (hk : 60 ≤ k) : raddlelaw20_Heavy.f k l = some (hvN l) := by
 unfold raddlelaw20_Heavy.f hvN
 by_cases c : l.length > 40
 ·
  rw [if_pos z5, decide_eq_true c]; rfl
 ·
  rw [if_neg z5, decide_eq_false c, Bool.false_or]
  exact hvN_l0 l z5 l k 0 rfl z5
theorem lastN_err {l : List No} {f : List Tb} (h : (planN l f).2 ≠ 0) : lastN l f = zN := by unfold lastN; rw [planN_err h]; rfl
theorem walk_ok {l : List No} {f : List Tb} (h : (planN l f).2 = 0) : FOk f ∧ 1 ≤ l.length ∧ l.length ≤ 12 ∧ planN l f = walkN f l [] ∧ (walkN f l []).2 = 0 ∧ (walkN f l []).1.length = l.length := by
 obtain ⟨h1, h2, h3, h4⟩ := planN_len h
 have hg := planN_go h4 h2 h3
 exact ⟨h4, h2, h3, hg, by rw [← hg]; exact h, by rw [← hg]; exact h1⟩
theorem plan_snoc {l : List No} {f : List Tb} (h : (planN l f).2 = 0) (hl : l.length < 12) (x : No) :
  planN (l ++ [x]) f = if (look f (planN l f).1 x).2 = 0 then ((planN l f).1 ++ [(look f (planN l f).1 x).1], 0) else ([], (look f (planN l f).1 x).2) := by
 obtain ⟨h1, h2, h3, h4, h5, h6⟩ := walk_ok h
 rw [planN_go h1 (by rw [List.length_append, List.length_singleton]; omega) (by rw [List.length_append, List.length_singleton]; omega), walkN_append l [x] [] h5, ← h4]
 rfl
theorem last_snoc {l : List No} {f : List Tb} (h : (planN l f).2 = 0) (hl : l.length < 12) (x : No) (hx : (look f (planN l f).1 x).2 = 0) : lastN (l ++ [x]) f = (look f (planN l f).1 x).1 := by
 unfold lastN
 rw [plan_snoc h hl x, if_pos hx]
 have h1 := (planN_len h).1
 simp only [List.length_append, List.length_singleton, Nat.add_sub_cancel]
 rw [List.getD_eq_getElem?_getD, List.getElem?_append_right z5, h1, Nat.sub_self]
 rfl
theorem last_nth {l : List No} {f : List Tb} (h : (planN l f).2 = 0) : lastN l f = nth (planN l f).1 ((l.length : Int) - 1) := by
 have := (planN_len h).2.1
 unfold lastN nth
 rw [show ((l.length : Int) - 1).toNat = l.length - 1 by omega]
theorem ahead_last {l : List No} {f : List Tb} (h : (planN l f).2 = 0) : ahead (planN l f).1 ((l.length : Int) - 1) = true := by
 have := planN_len h
 unfold ahead
 rw [decide_eq_true]; omega
theorem last_ok {l : List No} {f : List Tb} (h : (planN l f).2 = 0) : NdOk (lastN l f) := by
 rw [last_nth h]; exact nth_ok (fun d hd => planN_ok d hd) (ahead_last h)
end Go.Proofs.Ytimbbaoodjhdoaa.Plan
end
section
namespace Go.Proofs.Ytimbbaoodjhdoaa.Pure
open Go.RowKit Go.Proofs.Ytimbbaoodjhdoaa.PAll Go.Proofs.YtimbbaoodjhdoaaW.PrintWords Go.Proofs.YtimbbaoodjhdoaaW.PrintLast Go.Proofs.YtimbbaoodjhdoaaW.PrintMore Go.Proofs.Ytimbbaoodjhdoaa.Plain Go.Proofs.Ytimbbaoodjhdoaa.Plan Go.Proofs.Ytimbbaoodjhdoaa.ZipT Go.Proofs.YtimbbaoodjhdoaaW.PrintWords.Kd Go.Proofs.YtimbbaoodjhdoaaW.PrintMore.Kd
set_option linter.unusedVariables false
set_option linter.unusedSimpArgs false
def nd (k a b t g : Int) : No := ⟨k, a, b, t, ⟨0, 0, 0, ⟨0, 0, (⟨#[]⟩ : ByteArray)⟩⟩, [], [], g, 0⟩
theorem more_eq (l : List No) (hl : l.length ≤ 40) (k a b t g : Int) : raddlelaw20_more.f l k a b t 0 0 0 0 0 (⟨#[]⟩ : ByteArray) [] [] g 0 = some (l ++ [nd k a b t g]) := by
 unfold raddlelaw20_more.f
 rw [if_pos (by rw [List.length_nil]; omega), Option.bind_some, List.nil_append, Option.bind_some, if_pos (by rw [List.length_singleton]; omega)]
 rfl
theorem snoc_bound {l : List No} {f : List Tb} (hs : planSmall l f) (hl : l.length < 12) (h : (planN l f).2 = 0) (k a b t g : Int) :
  plan_Bound.f (l ++ [nd k a b t g]) f = some (if (Plan.look f (planN l f).1 (nd k a b t g)).2 = 0 then ((Plan.look f (planN l f).1 (nd k a b t g)).1.2.1, (Plan.look f (planN l f).1 (nd k a b t g)).1.2.2, 0) else (0, 0, (Plan.look f (planN l f).1 (nd k a b t g)).2)) := by
 rw [bound_eq (Plan.planSmall.snoc hs z5 _ (Nat.zero_le _) (Nat.zero_le _))]
 have hp := plan_snoc h hl (nd k a b t g)
 by_cases hx : (Plan.look f (planN l f).1 (nd k a b t g)).2 = 0
 ·
  rw [last_snoc h hl _ hx, if_pos hx, hp, if_pos hx]
 ·
  rw [if_neg hx] at hp
  rw [if_neg hx, lastN_err (by rw [hp]; exact hx), hp]
  rfl
theorem PlanBounds : raddlelaw20_PlanBounds.Pure := by
 intro l f _ _
 refine ⟨200, ?_⟩
 have hj : raddlelaw20_PlanBounds.j0 200 l f true = some true := rfl
 unfold raddlelaw20_PlanBounds.f
 rw [hvN_eq 200 l z5, Option.bind_some]
 by_cases hv : hvN l = true
 ·
  rw [if_pos hv]; exact hj
 rw [if_neg hv, hvF_eq 200 f z5, Option.bind_some]
 by_cases hw : hvF f = true
 ·
  rw [if_pos hw]; exact hj
 rw [if_neg hw]
 have hs := small_of l f (Bool.eq_false_iff.mpr hv) (Bool.eq_false_iff.mpr hw)
 by_cases c : (l.length : Int) ≥ 12
 ·
  rw [decide_eq_true c]; exact hj
 rw [decide_eq_false c]
 simp only [raddlelaw20_PlanBounds.j0]
 rw [if_neg z10, plan14_eq hs, Option.bind_some]
 by_cases h : (planN l f).2 = 0
 rotate_left
 ·
  rw [if_neg h]
 obtain ⟨g1, g2, g3, g4⟩ := planN_len h
 have ha := ahead_last h
 have hn := (last_nth h).symm
 have hd := last_ok h
 have hl : l.length < 12 := by omega
 rw [if_pos h, bound_eq hs, Option.bind_some, if_pos h, w64 z5 z5]
 rw [more_eq l z5, Option.bind_some, snoc_bound hs hl h, Option.bind_some, more_eq l z5, Option.bind_some, snoc_bound hs hl h, Option.bind_some]
 have k7 : Plan.look f (planN l f).1 (nd 7 ((l.length : Int) - 1) 0 0 0) = (lastN l f, 0) := by
  unfold Plan.look
  rw [if_neg (by simp [nd]), if_neg (by simp [nd]), if_neg (by simp [nd]), if_neg (by simp [nd]), if_neg (by simp [nd]), if_pos z12]
  unfold distinctN
  rw [if_pos (by exact ha)]; exact congrArg (·, 0) hn
 have k3 : Plan.look f (planN l f).1 (nd 3 ((l.length : Int) - 1) 0 0 0) = (([], (lastN l f).2), 0) := by
  unfold Plan.look
  rw [if_neg (by simp [nd]), if_neg (by simp [nd]), if_pos z12]
  unfold projectN
  rw [if_pos (by exact ⟨ha, rfl⟩), if_neg (by simp [nd])]; exact congrArg (fun d : Nd => (([], d.2), 0)) hn
 have k5 : Plan.look f (planN l f).1 (nd 5 ((l.length : Int) - 1) ((l.length : Int) - 1) 0 0) = if 2 * (lastN l f).2.1 ≤ 1125899906842624 then (((lastN l f).1, 2 * (lastN l f).2.1, (lastN l f).2.2), 0) else (zN, 11) := by
  unfold Plan.look
  rw [if_neg (by simp [nd]), if_neg (by simp [nd]), if_neg (by simp [nd]), if_neg (by simp [nd]), if_pos (.inl rfl)]
  unfold bothN
  have e1 : nth (planN l f).1 (nd 5 ((l.length : Int) - 1) ((l.length : Int) - 1) 0 0).f1 = lastN l f := hn
  have e2 : nth (planN l f).1 (nd 5 ((l.length : Int) - 1) ((l.length : Int) - 1) 0 0).f2 = lastN l f := hn
  rw [e1, e2, if_pos (by exact ⟨ha, ha⟩), if_pos rfl, show (lastN l f).2.1 + (lastN l f).2.1 = 2 * (lastN l f).2.1 by omega, Int.max_self]
 have k8 : Plan.look f (planN l f).1 (nd 8 ((l.length : Int) - 1) 0 0 1) = (([3], (lastN l f).2.1, max (lastN l f).2.2 (lastN l f).2.1), 0) := by
  unfold Plan.look
  rw [if_neg (by simp [nd]), if_neg (by simp [nd]), if_neg (by simp [nd]), if_neg (by simp [nd]), if_neg (by simp [nd]), if_neg (by simp [nd]), if_pos z12]
  unfold groupN
  have e1 : nth (planN l f).1 (nd 8 ((l.length : Int) - 1) 0 0 1).f1 = lastN l f := hn
  rw [e1, if_pos (by exact ⟨ha, by simp [nd], by simp [nd]⟩), if_pos (by exact ⟨rfl, .inl rfl⟩), if_neg (by simp [nd]), if_neg (by simp [nd]), if_pos z12]
  rfl
 rw [k7, k3]
 simp only [if_true]
 rw [bne_self_eq_false]
 simp only [raddlelaw20_PlanBounds.j1]
 rw [if_neg z10, more_eq l z5, Option.bind_some, snoc_bound hs hl h, Option.bind_some, k5]
 have hw2 := hd.w2
 have hw1 := hd.w1
 have hj2 : raddlelaw20_PlanBounds.j2 198 l f ((l.length : Int) - 1) (lastN l f).2.1 (lastN l f).2.2 false = some true := by
  simp only [raddlelaw20_PlanBounds.j2]
  rw [if_neg z10, more_eq l z5, Option.bind_some, snoc_bound hs hl h, Option.bind_some, k8]
  simp only [if_true]
  rw [if_pos (by unfold mx; omega), wakes_bind 197 z5]
 rw [w64 z5 z5]
 by_cases h2 : 2 * (lastN l f).2.1 ≤ 1125899906842624
 ·
  rw [if_pos h2]
  simp only [if_true]
  exact hj2
 ·
  rw [if_neg h2]
  simp only [show ((11 : Int) = 0) = False by decide, if_false, if_true]
  rw [decide_eq_false h2]
  exact hj2
end Go.Proofs.Ytimbbaoodjhdoaa.Pure
end
