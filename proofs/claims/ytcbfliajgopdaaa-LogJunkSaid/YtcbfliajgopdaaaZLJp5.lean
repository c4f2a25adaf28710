-- Put together by a program of this session (wip/slice2.py) out of the seat's texts.
import Derived.Test.YtcbfliajgopdaaaZLJp4

section
namespace Go.Proofs.Ytcbfliajgopdaaa.PAll
open Go.RowKit Go.Proofs.YtcbfliajgopdaaaW.PrintWords Go.Proofs.YtcbfliajgopdaaaW.PrintLast Go.Proofs.YtcbfliajgopdaaaW.PrintMore Go.Proofs.Ytcbfliajgopdaaa.ZipT Go.Proofs.YtcbfliajgopdaaaW.PrintWords.Kd Go.Proofs.YtcbfliajgopdaaaW.PrintMore.Kd
attribute [local go_sem] max2_int min2_int max_two min_two max_three min_three max_four min_four   -- for this text's walks alone
set_option linter.unusedVariables false
set_option linter.unusedSimpArgs false
def raddlelaw07_Heavy.l0 : Nat → List (S54) → Int → Option (Bool)
 | 0, _, _ => none
 | k + 1, x0, x3 => if x3 < (x0.length : Int) then (if 0 ≤ x3 then (if (((rd_T54 x0 x3).f1).length : Int) > 30 then (some true) else (if (((rd_T54 x0 x3).f5).size : Int) > 100 then (some true) else ((raddlelaw04_Heavy.f k ((rd_T54 x0 x3).f7)).bind fun t320 => (if t320 = true then (some true) else (if (((rd_T54 x0 x3).f8).length : Int) > 100 then (some true) else (raddlelaw07_Heavy.l0 k x0 (wrap64 (x3 + 1)))))))) else (none)) else (some false)
def raddlelaw07_Heavy.f (k : Nat) (l0 : List (S54)) : Option (Bool) := if (l0.length : Int) > 300 then (some true) else (raddlelaw07_Heavy.l0 k l0 0)
set_option maxHeartbeats 8000000 in
set_option maxRecDepth 100000 in
theorem raddlelaw07_Heavy.calls (k : Nat) (A0 : Option Addr) (c0 : Nat) (l0 : List (S54)) (r : Bool) (w : World) (hr0 : Kd.C k54 w A0 l0.length l0) (hc0 : l0.length ≤ c0) (h : raddlelaw07_Heavy.f k l0 = some r) :
  Calls Try.prog 14 #[.slice A0 l0.length c0] w fun e w' => e = .returned (.bool r) ∧ Drawn0 w w' := by
 have HR0 := mk_ hr0
 have HC0 := mk_ hc0
 clear hr0 hc0
 have H : (if (l0.length : Int) > 300 then (some true) else (raddlelaw07_Heavy.l0 k l0 0)) = some r := h
 clear h
 by_cases c2 : (l0.length : Int) > 300
 ·
  rw [if_pos c2] at H
  have c2b0 : decide (300 < (l0.length : Int)) = true := decide_eq_true c2
  have c2b1 : decide (300 < l0.length) = true := decide_eq_true z2_
  clear c2
  obtain rfl := Option.some.inj H
  go_enter Try.func14, Try.ntmps14
  go_wp2
  go_ret
  exact ⟨z3_, by repeat (first | exact Drawn0.refl _ | apply Drawn0.step)⟩
 ·
  rw [if_neg c2] at H
  have c2b0 : decide (300 < (l0.length : Int)) = false := decide_eq_false c2
  have c2b1 : decide (300 < l0.length) = false := decide_eq_false z2_
  clear c2
  have H' := mk_ H
  clear H
  go_enter Try.func14, Try.ntmps14
  go_wp2
  go_loopg [3] k (fun kq v3 w' => ∃ (x3_1 : Int), v3 = .int .i64 x3_1 ∧ Aside0 (raddlelaw07_Heavy.l0 kq l0 x3_1 = some r) ∧ Aside0 (kq ≤ k) ∧ Drawn0 w w')
  case atStart => exact ⟨(0), z3_, H', ⟨Nat.le_refl _⟩, by repeat (first | exact Drawn0.refl _ | apply Drawn0.step)⟩
  case round =>
   clear H'
   try clear c1
   try clear c2
   try clear c2b0
   try clear c2b1
   try clear p2
   obtain ⟨x3_1, rfl, HA, HK1, ⟨m1, rfl⟩⟩ := hrel
   cases gk with
   | zero => exact absurd HA.out (by simp [raddlelaw07_Heavy.l0])
   | succ k1 =>
    have H := HA.out
    clear HA
    simp only [raddlelaw07_Heavy.l0] at H
    by_cases c3 : x3_1 < (l0.length : Int)
    ·
     rw [if_pos c3] at H
     have c3b0 : decide (x3_1 < (l0.length : Int)) = true := decide_eq_true c3
     clear c3
     by_cases c4 : 0 ≤ x3_1
     ·
      rw [if_pos c4] at H
      have c4b0 : decide (0 ≤ x3_1) = true := decide_eq_true c4
      clear c4
      by_cases c5 : (((rd_T54 l0 x3_1).f1).length : Int) > 30
      ·
       rw [if_pos c5] at H
       have c5b0 : decide (30 < (((rd_T54 l0 x3_1).f1).length : Int)) = true := decide_eq_true c5
       have c5b1 : decide (30 < ((rd_T54 l0 x3_1).f1).length) = true := decide_eq_true z2_
       clear c5
       obtain rfl := Option.some.inj H
       have p317 : 0 ≤ (x3_1 : Int) := of_decide_eq_true z0_
       have q317 : x3_1 < (l0.length : Int) := of_decide_eq_true z0_
       obtain ⟨ad317, A317_2, c317_2, A317_10, c317_10, A317_11, c317_11, e317, hx317_0, hx317_1, hx317_2, hx317_3, hx317_4, hx317_5, hx317_6, hx317_7, hx317_8, hx317_9, hx317_10, hx317_11, hl317_2, hi317_2, hl317_10, hi317_10, hl317_11, hi317_11⟩ := at_T54 HR0.out x3_1 p317 q317
       cases e317
       have HR317_2 := mk_ hi317_2
       have HC317_2 := mk_ hl317_2
       clear hi317_2 hl317_2
       have HR317_10 := mk_ hi317_10
       have HC317_10 := mk_ hl317_10
       clear hi317_10 hl317_10
       have HR317_11 := mk_ hi317_11
       have HC317_11 := mk_ hl317_11
       clear hi317_11 hl317_11
       replace p317 := eq_true p317
       replace q317 := eq_true q317
       go_wp2
       go_ret
       exact ⟨z3_, by repeat (first | exact Drawn0.refl _ | apply Drawn0.step)⟩
      ·
       rw [if_neg c5] at H
       have c5b0 : decide (30 < (((rd_T54 l0 x3_1).f1).length : Int)) = false := decide_eq_false c5
       have c5b1 : decide (30 < ((rd_T54 l0 x3_1).f1).length) = false := decide_eq_false z2_
       clear c5
       by_cases c6 : (((rd_T54 l0 x3_1).f5).size : Int) > 100
       ·
        rw [if_pos c6] at H
        have c6b0 : decide (100 < (((rd_T54 l0 x3_1).f5).size : Int)) = true := decide_eq_true c6
        have c6b1 : decide (100 < ((rd_T54 l0 x3_1).f5).size) = true := decide_eq_true z2_
        clear c6
        obtain rfl := Option.some.inj H
        have p317 : 0 ≤ (x3_1 : Int) := of_decide_eq_true z0_
        have q317 : x3_1 < (l0.length : Int) := of_decide_eq_true z0_
        obtain ⟨ad317, A317_2, c317_2, A317_10, c317_10, A317_11, c317_11, e317, hx317_0, hx317_1, hx317_2, hx317_3, hx317_4, hx317_5, hx317_6, hx317_7, hx317_8, hx317_9, hx317_10, hx317_11, hl317_2, hi317_2, hl317_10, hi317_10, hl317_11, hi317_11⟩ := at_T54 HR0.out x3_1 p317 q317
        cases e317
        have HR317_2 := mk_ hi317_2
        have HC317_2 := mk_ hl317_2
        clear hi317_2 hl317_2
        have HR317_10 := mk_ hi317_10
        have HC317_10 := mk_ hl317_10
        clear hi317_10 hl317_10
        have HR317_11 := mk_ hi317_11
        have HC317_11 := mk_ hl317_11
        clear hi317_11 hl317_11
        replace p317 := eq_true p317
        replace q317 := eq_true q317
        have p318 : 0 ≤ (x3_1 : Int) := of_decide_eq_true z0_
        have q318 : x3_1 < (l0.length : Int) := of_decide_eq_true z0_
        obtain ⟨ad318, A318_2, c318_2, A318_10, c318_10, A318_11, c318_11, e318, hx318_0, hx318_1, hx318_2, hx318_3, hx318_4, hx318_5, hx318_6, hx318_7, hx318_8, hx318_9, hx318_10, hx318_11, hl318_2, hi318_2, hl318_10, hi318_10, hl318_11, hi318_11⟩ := at_T54 HR0.out x3_1 p318 q318
        obtain rfl : ad317 = ad318 := (by injection e318)
        have HR318_2 := mk_ hi318_2
        have HC318_2 := mk_ hl318_2
        clear hi318_2 hl318_2
        have HR318_10 := mk_ hi318_10
        have HC318_10 := mk_ hl318_10
        clear hi318_10 hl318_10
        have HR318_11 := mk_ hi318_11
        have HC318_11 := mk_ hl318_11
        clear hi318_11 hl318_11
        replace p318 := eq_true p318
        replace q318 := eq_true q318
        have ea_ := Option.some.inj (hx317_2.symm.trans hx318_2)
        injection ea_ with ea_ en_ ec_
        subst ea_
        subst ec_
        clear en_
        have ea_ := Option.some.inj (hx317_10.symm.trans hx318_10)
        injection ea_ with ea_ en_ ec_
        subst ea_
        subst ec_
        clear en_
        have ea_ := Option.some.inj (hx317_11.symm.trans hx318_11)
        injection ea_ with ea_ en_ ec_
        subst ea_
        subst ec_
        clear en_
        go_wp2
        go_ret
        exact ⟨z3_, by repeat (first | exact Drawn0.refl _ | apply Drawn0.step)⟩
       ·
        rw [if_neg c6] at H
        have c6b0 : decide (100 < (((rd_T54 l0 x3_1).f5).size : Int)) = false := decide_eq_false c6
        have c6b1 : decide (100 < ((rd_T54 l0 x3_1).f5).size) = false := decide_eq_false z2_
        clear c6
        replace H := Option.bind_eq_some_iff.mp H
        obtain ⟨t320, A70, H⟩ := H
        replace H : (if t320 = true then (some true) else (if (((rd_T54 l0 x3_1).f8).length : Int) > 100 then (some true) else (raddlelaw07_Heavy.l0 k1 l0 (wrap64 (x3_1 + 1))))) = some r := H
        have A7 := mk_ A70
        clear A70
        by_cases c8 : t320 = true
        ·
         subst c8
         have H1 : (some true) = some r := by rw [if_pos rfl] at H; exact H
         clear H
         have H := H1
         clear H1
         obtain rfl := Option.some.inj H
         have p317 : 0 ≤ (x3_1 : Int) := of_decide_eq_true z0_
         have q317 : x3_1 < (l0.length : Int) := of_decide_eq_true z0_
         obtain ⟨ad317, A317_2, c317_2, A317_10, c317_10, A317_11, c317_11, e317, hx317_0, hx317_1, hx317_2, hx317_3, hx317_4, hx317_5, hx317_6, hx317_7, hx317_8, hx317_9, hx317_10, hx317_11, hl317_2, hi317_2, hl317_10, hi317_10, hl317_11, hi317_11⟩ := at_T54 HR0.out x3_1 p317 q317
         cases e317
         have HR317_2 := mk_ hi317_2
         have HC317_2 := mk_ hl317_2
         clear hi317_2 hl317_2
         have HR317_10 := mk_ hi317_10
         have HC317_10 := mk_ hl317_10
         clear hi317_10 hl317_10
         have HR317_11 := mk_ hi317_11
         have HC317_11 := mk_ hl317_11
         clear hi317_11 hl317_11
         replace p317 := eq_true p317
         replace q317 := eq_true q317
         have p318 : 0 ≤ (x3_1 : Int) := of_decide_eq_true z0_
         have q318 : x3_1 < (l0.length : Int) := of_decide_eq_true z0_
         obtain ⟨ad318, A318_2, c318_2, A318_10, c318_10, A318_11, c318_11, e318, hx318_0, hx318_1, hx318_2, hx318_3, hx318_4, hx318_5, hx318_6, hx318_7, hx318_8, hx318_9, hx318_10, hx318_11, hl318_2, hi318_2, hl318_10, hi318_10, hl318_11, hi318_11⟩ := at_T54 HR0.out x3_1 p318 q318
         obtain rfl : ad317 = ad318 := (by injection e318)
         have HR318_2 := mk_ hi318_2
         have HC318_2 := mk_ hl318_2
         clear hi318_2 hl318_2
         have HR318_10 := mk_ hi318_10
         have HC318_10 := mk_ hl318_10
         clear hi318_10 hl318_10
         have HR318_11 := mk_ hi318_11
         have HC318_11 := mk_ hl318_11
         clear hi318_11 hl318_11
         replace p318 := eq_true p318
         replace q318 := eq_true q318
         have ea_ := Option.some.inj (hx317_2.symm.trans hx318_2)
         injection ea_ with ea_ en_ ec_
         subst ea_
         subst ec_
         clear en_
         have ea_ := Option.some.inj (hx317_10.symm.trans hx318_10)
         injection ea_ with ea_ en_ ec_
         subst ea_
         subst ec_
         clear en_
         have ea_ := Option.some.inj (hx317_11.symm.trans hx318_11)
         injection ea_ with ea_ en_ ec_
         subst ea_
         subst ec_
         clear en_
         have p319 : 0 ≤ (x3_1 : Int) := of_decide_eq_true z0_
         have q319 : x3_1 < (l0.length : Int) := of_decide_eq_true z0_
         obtain ⟨ad319, A319_2, c319_2, A319_10, c319_10, A319_11, c319_11, e319, hx319_0, hx319_1, hx319_2, hx319_3, hx319_4, hx319_5, hx319_6, hx319_7, hx319_8, hx319_9, hx319_10, hx319_11, hl319_2, hi319_2, hl319_10, hi319_10, hl319_11, hi319_11⟩ := at_T54 HR0.out x3_1 p319 q319
         obtain rfl : ad317 = ad319 := (by injection e319)
         have HR319_2 := mk_ hi319_2
         have HC319_2 := mk_ hl319_2
         clear hi319_2 hl319_2
         have HR319_10 := mk_ hi319_10
         have HC319_10 := mk_ hl319_10
         clear hi319_10 hl319_10
         have HR319_11 := mk_ hi319_11
         have HC319_11 := mk_ hl319_11
         clear hi319_11 hl319_11
         replace p319 := eq_true p319
         replace q319 := eq_true q319
         have ea_ := Option.some.inj (hx317_2.symm.trans hx319_2)
         injection ea_ with ea_ en_ ec_
         subst ea_
         subst ec_
         clear en_
         have ea_ := Option.some.inj (hx317_10.symm.trans hx319_10)
         injection ea_ with ea_ en_ ec_
         subst ea_
         subst ec_
         clear en_
         have ea_ := Option.some.inj (hx317_11.symm.trans hx319_11)
         injection ea_ with ea_ en_ ec_
         subst ea_
         subst ec_
         clear en_
         go_wp2_with (first | (go_at_call 52; (with_reducible refine (raddlelaw04_Heavy.calls k1 _ _ ((rd_T54 l0 x3_1).f7) true _ ?side1 ?side2 A7.out).mono ?_); (case side1 => repeat (first | exact HR319_10.out | (with_reducible refine C_alloc ?_ _) | (with_reducible refine C_drewN ?_ _) | (with_reducible refine C_drew ?_))); (case side2 => exact HC319_10.out); rintro e w' ⟨rfl, ⟨nd, rfl⟩⟩))
         go_ret
         exact ⟨z3_, by repeat (first | exact Drawn0.refl _ | apply Drawn0.step)⟩
        ·
         replace c8 := Bool.eq_false_iff.mpr c8
         subst c8
         have H1 : (if (((rd_T54 l0 x3_1).f8).length : Int) > 100 then (some true) else (raddlelaw07_Heavy.l0 k1 l0 (wrap64 (x3_1 + 1)))) = some r := by rw [if_neg (show ¬ (false = true) by decide)] at H; exact H
         clear H
         have H := H1
         clear H1
         by_cases c9 : (((rd_T54 l0 x3_1).f8).length : Int) > 100
         ·
          rw [if_pos c9] at H
          have c9b0 : decide (100 < (((rd_T54 l0 x3_1).f8).length : Int)) = true := decide_eq_true c9
          have c9b1 : decide (100 < ((rd_T54 l0 x3_1).f8).length) = true := decide_eq_true z2_
          clear c9
          obtain rfl := Option.some.inj H
          have p317 : 0 ≤ (x3_1 : Int) := of_decide_eq_true z0_
          have q317 : x3_1 < (l0.length : Int) := of_decide_eq_true z0_
          obtain ⟨ad317, A317_2, c317_2, A317_10, c317_10, A317_11, c317_11, e317, hx317_0, hx317_1, hx317_2, hx317_3, hx317_4, hx317_5, hx317_6, hx317_7, hx317_8, hx317_9, hx317_10, hx317_11, hl317_2, hi317_2, hl317_10, hi317_10, hl317_11, hi317_11⟩ := at_T54 HR0.out x3_1 p317 q317
          cases e317
          have HR317_2 := mk_ hi317_2
          have HC317_2 := mk_ hl317_2
          clear hi317_2 hl317_2
          have HR317_10 := mk_ hi317_10
          have HC317_10 := mk_ hl317_10
          clear hi317_10 hl317_10
          have HR317_11 := mk_ hi317_11
          have HC317_11 := mk_ hl317_11
          clear hi317_11 hl317_11
          replace p317 := eq_true p317
          replace q317 := eq_true q317
          have p318 : 0 ≤ (x3_1 : Int) := of_decide_eq_true z0_
          have q318 : x3_1 < (l0.length : Int) := of_decide_eq_true z0_
          obtain ⟨ad318, A318_2, c318_2, A318_10, c318_10, A318_11, c318_11, e318, hx318_0, hx318_1, hx318_2, hx318_3, hx318_4, hx318_5, hx318_6, hx318_7, hx318_8, hx318_9, hx318_10, hx318_11, hl318_2, hi318_2, hl318_10, hi318_10, hl318_11, hi318_11⟩ := at_T54 HR0.out x3_1 p318 q318
          obtain rfl : ad317 = ad318 := (by injection e318)
          have HR318_2 := mk_ hi318_2
          have HC318_2 := mk_ hl318_2
          clear hi318_2 hl318_2
          have HR318_10 := mk_ hi318_10
          have HC318_10 := mk_ hl318_10
          clear hi318_10 hl318_10
          have HR318_11 := mk_ hi318_11
          have HC318_11 := mk_ hl318_11
          clear hi318_11 hl318_11
          replace p318 := eq_true p318
          replace q318 := eq_true q318
          have ea_ := Option.some.inj (hx317_2.symm.trans hx318_2)
          injection ea_ with ea_ en_ ec_
          subst ea_
          subst ec_
          clear en_
          have ea_ := Option.some.inj (hx317_10.symm.trans hx318_10)
          injection ea_ with ea_ en_ ec_
          subst ea_
          subst ec_
          clear en_
          have ea_ := Option.some.inj (hx317_11.symm.trans hx318_11)
          injection ea_ with ea_ en_ ec_
          subst ea_
          subst ec_
          clear en_
          have p319 : 0 ≤ (x3_1 : Int) := of_decide_eq_true z0_
          have q319 : x3_1 < (l0.length : Int) := of_decide_eq_true z0_
          obtain ⟨ad319, A319_2, c319_2, A319_10, c319_10, A319_11, c319_11, e319, hx319_0, hx319_1, hx319_2, hx319_3, hx319_4, hx319_5, hx319_6, hx319_7, hx319_8, hx319_9, hx319_10, hx319_11, hl319_2, hi319_2, hl319_10, hi319_10, hl319_11, hi319_11⟩ := at_T54 HR0.out x3_1 p319 q319
          obtain rfl : ad317 = ad319 := (by injection e319)
          have HR319_2 := mk_ hi319_2
          have HC319_2 := mk_ hl319_2
          clear hi319_2 hl319_2
          have HR319_10 := mk_ hi319_10
          have HC319_10 := mk_ hl319_10
          clear hi319_10 hl319_10
          have HR319_11 := mk_ hi319_11
          have HC319_11 := mk_ hl319_11
          clear hi319_11 hl319_11
          replace p319 := eq_true p319
          replace q319 := eq_true q319
          have ea_ := Option.some.inj (hx317_2.symm.trans hx319_2)
          injection ea_ with ea_ en_ ec_
          subst ea_
          subst ec_
          clear en_
          have ea_ := Option.some.inj (hx317_10.symm.trans hx319_10)
          injection ea_ with ea_ en_ ec_
          subst ea_
          subst ec_
          clear en_
          have ea_ := Option.some.inj (hx317_11.symm.trans hx319_11)
          injection ea_ with ea_ en_ ec_
          subst ea_
          subst ec_
          clear en_
          go_wp2_with (first | (go_at_call 52; (with_reducible refine (raddlelaw04_Heavy.calls k1 _ _ ((rd_T54 l0 x3_1).f7) false _ ?side1 ?side2 A7.out).mono ?_); (case side1 => repeat (first | exact HR319_10.out | (with_reducible refine C_alloc ?_ _) | (with_reducible refine C_drewN ?_ _) | (with_reducible refine C_drew ?_))); (case side2 => exact HC319_10.out); rintro e w' ⟨rfl, ⟨nd, rfl⟩⟩; have p321 : 0 ≤ (x3_1 : Int) := of_decide_eq_true z0_; have q321 : x3_1 < (l0.length : Int) := of_decide_eq_true z0_; obtain ⟨ad321, A321_2, c321_2, A321_10, c321_10, A321_11, c321_11, e321, hx321_0, hx321_1, hx321_2, hx321_3, hx321_4, hx321_5, hx321_6, hx321_7, hx321_8, hx321_9, hx321_10, hx321_11, hl321_2, hi321_2, hl321_10, hi321_10, hl321_11, hi321_11⟩ := at_T54 HR0.out x3_1 p321 q321; obtain rfl : ad317 = ad321 := (by injection e321); have HR321_2 := mk_ hi321_2; have HC321_2 := mk_ hl321_2; clear hi321_2 hl321_2; have HR321_10 := mk_ hi321_10; have HC321_10 := mk_ hl321_10; clear hi321_10 hl321_10; have HR321_11 := mk_ hi321_11; have HC321_11 := mk_ hl321_11; clear hi321_11 hl321_11; replace p321 := eq_true p321; replace q321 := eq_true q321; have ea_ := Option.some.inj (hx317_2.symm.trans hx321_2); injection ea_ with ea_ en_ ec_; subst ea_; subst ec_; clear en_; have ea_ := Option.some.inj (hx317_10.symm.trans hx321_10); injection ea_ with ea_ en_ ec_; subst ea_; subst ec_; clear en_; have ea_ := Option.some.inj (hx317_11.symm.trans hx321_11); injection ea_ with ea_ en_ ec_; subst ea_; subst ec_; clear en_))
          go_ret
          exact ⟨z3_, by repeat (first | exact Drawn0.refl _ | apply Drawn0.step)⟩
         ·
          rw [if_neg c9] at H
          have c9b0 : decide (100 < (((rd_T54 l0 x3_1).f8).length : Int)) = false := decide_eq_false c9
          have c9b1 : decide (100 < ((rd_T54 l0 x3_1).f8).length) = false := decide_eq_false z2_
          clear c9
          have H' := mk_ H
          clear H
          have p317 : 0 ≤ (x3_1 : Int) := of_decide_eq_true z0_
          have q317 : x3_1 < (l0.length : Int) := of_decide_eq_true z0_
          obtain ⟨ad317, A317_2, c317_2, A317_10, c317_10, A317_11, c317_11, e317, hx317_0, hx317_1, hx317_2, hx317_3, hx317_4, hx317_5, hx317_6, hx317_7, hx317_8, hx317_9, hx317_10, hx317_11, hl317_2, hi317_2, hl317_10, hi317_10, hl317_11, hi317_11⟩ := at_T54 HR0.out x3_1 p317 q317
          cases e317
          have HR317_2 := mk_ hi317_2
          have HC317_2 := mk_ hl317_2
          clear hi317_2 hl317_2
          have HR317_10 := mk_ hi317_10
          have HC317_10 := mk_ hl317_10
          clear hi317_10 hl317_10
          have HR317_11 := mk_ hi317_11
          have HC317_11 := mk_ hl317_11
          clear hi317_11 hl317_11
          replace p317 := eq_true p317
          replace q317 := eq_true q317
          have p318 : 0 ≤ (x3_1 : Int) := of_decide_eq_true z0_
          have q318 : x3_1 < (l0.length : Int) := of_decide_eq_true z0_
          obtain ⟨ad318, A318_2, c318_2, A318_10, c318_10, A318_11, c318_11, e318, hx318_0, hx318_1, hx318_2, hx318_3, hx318_4, hx318_5, hx318_6, hx318_7, hx318_8, hx318_9, hx318_10, hx318_11, hl318_2, hi318_2, hl318_10, hi318_10, hl318_11, hi318_11⟩ := at_T54 HR0.out x3_1 p318 q318
          obtain rfl : ad317 = ad318 := (by injection e318)
          have HR318_2 := mk_ hi318_2
          have HC318_2 := mk_ hl318_2
          clear hi318_2 hl318_2
          have HR318_10 := mk_ hi318_10
          have HC318_10 := mk_ hl318_10
          clear hi318_10 hl318_10
          have HR318_11 := mk_ hi318_11
          have HC318_11 := mk_ hl318_11
          clear hi318_11 hl318_11
          replace p318 := eq_true p318
          replace q318 := eq_true q318
          have ea_ := Option.some.inj (hx317_2.symm.trans hx318_2)
          injection ea_ with ea_ en_ ec_
          subst ea_
          subst ec_
          clear en_
          have ea_ := Option.some.inj (hx317_10.symm.trans hx318_10)
          injection ea_ with ea_ en_ ec_
          subst ea_
          subst ec_
          clear en_
          have ea_ := Option.some.inj (hx317_11.symm.trans hx318_11)
          injection ea_ with ea_ en_ ec_
          subst ea_
          subst ec_
          clear en_
          have p319 : 0 ≤ (x3_1 : Int) := of_decide_eq_true z0_
          have q319 : x3_1 < (l0.length : Int) := of_decide_eq_true z0_
          obtain ⟨ad319, A319_2, c319_2, A319_10, c319_10, A319_11, c319_11, e319, hx319_0, hx319_1, hx319_2, hx319_3, hx319_4, hx319_5, hx319_6, hx319_7, hx319_8, hx319_9, hx319_10, hx319_11, hl319_2, hi319_2, hl319_10, hi319_10, hl319_11, hi319_11⟩ := at_T54 HR0.out x3_1 p319 q319
          obtain rfl : ad317 = ad319 := (by injection e319)
          have HR319_2 := mk_ hi319_2
          have HC319_2 := mk_ hl319_2
          clear hi319_2 hl319_2
          have HR319_10 := mk_ hi319_10
          have HC319_10 := mk_ hl319_10
          clear hi319_10 hl319_10
          have HR319_11 := mk_ hi319_11
          have HC319_11 := mk_ hl319_11
          clear hi319_11 hl319_11
          replace p319 := eq_true p319
          replace q319 := eq_true q319
          have ea_ := Option.some.inj (hx317_2.symm.trans hx319_2)
          injection ea_ with ea_ en_ ec_
          subst ea_
          subst ec_
          clear en_
          have ea_ := Option.some.inj (hx317_10.symm.trans hx319_10)
          injection ea_ with ea_ en_ ec_
          subst ea_
          subst ec_
          clear en_
          have ea_ := Option.some.inj (hx317_11.symm.trans hx319_11)
          injection ea_ with ea_ en_ ec_
          subst ea_
          subst ec_
          clear en_
          go_wp2_with (first | (go_at_call 52; (with_reducible refine (raddlelaw04_Heavy.calls k1 _ _ ((rd_T54 l0 x3_1).f7) false _ ?side1 ?side2 A7.out).mono ?_); (case side1 => repeat (first | exact HR319_10.out | (with_reducible refine C_alloc ?_ _) | (with_reducible refine C_drewN ?_ _) | (with_reducible refine C_drew ?_))); (case side2 => exact HC319_10.out); rintro e w' ⟨rfl, ⟨nd, rfl⟩⟩; have p321 : 0 ≤ (x3_1 : Int) := of_decide_eq_true z0_; have q321 : x3_1 < (l0.length : Int) := of_decide_eq_true z0_; obtain ⟨ad321, A321_2, c321_2, A321_10, c321_10, A321_11, c321_11, e321, hx321_0, hx321_1, hx321_2, hx321_3, hx321_4, hx321_5, hx321_6, hx321_7, hx321_8, hx321_9, hx321_10, hx321_11, hl321_2, hi321_2, hl321_10, hi321_10, hl321_11, hi321_11⟩ := at_T54 HR0.out x3_1 p321 q321; obtain rfl : ad317 = ad321 := (by injection e321); have HR321_2 := mk_ hi321_2; have HC321_2 := mk_ hl321_2; clear hi321_2 hl321_2; have HR321_10 := mk_ hi321_10; have HC321_10 := mk_ hl321_10; clear hi321_10 hl321_10; have HR321_11 := mk_ hi321_11; have HC321_11 := mk_ hl321_11; clear hi321_11 hl321_11; replace p321 := eq_true p321; replace q321 := eq_true q321; have ea_ := Option.some.inj (hx317_2.symm.trans hx321_2); injection ea_ with ea_ en_ ec_; subst ea_; subst ec_; clear en_; have ea_ := Option.some.inj (hx317_10.symm.trans hx321_10); injection ea_ with ea_ en_ ec_; subst ea_; subst ec_; clear en_; have ea_ := Option.some.inj (hx317_11.symm.trans hx321_11); injection ea_ with ea_ en_ ec_; subst ea_; subst ec_; clear en_))
          go_roundg k1
          case measure => have := HK1.out; omega
          case rel => exact ⟨(wrap64 (x3_1 + 1)), z3_, H', ⟨by have := HK1.out; omega⟩, by repeat (first | exact Drawn0.refl _ | apply Drawn0.step)⟩
     ·
      rw [if_neg c4] at H
      exact absurd H (by simp)
    ·
     rw [if_neg c3] at H
     have c3b0 : decide (x3_1 < (l0.length : Int)) = false := decide_eq_false c3
     clear c3
     obtain rfl := Option.some.inj H
     go_wp2
     go_ret
     exact ⟨z3_, by repeat (first | exact Drawn0.refl _ | apply Drawn0.step)⟩
def raddleref01_fits.f (a0 : Int) (a1 : Int) : Option (Bool) := if a0 ≥ 0 then (if 0 ≤ (IntKind.u64.wrap (wrap64 (8 * a1))) then (some ((shr .i64 a0 (IntKind.u64.wrap (wrap64 (8 * a1)))) == 0)) else (none)) else (some false)
set_option maxHeartbeats 8000000 in
set_option maxRecDepth 100000 in
theorem raddleref01_fits.calls (a0 : Int) (a1 : Int) (r : Bool) (w : World) (h : raddleref01_fits.f a0 a1 = some r) :
  Calls Try.prog 53 #[.int .i64 a0, .int .i64 a1] w fun e w' => e = .returned (.bool r) ∧ Drawn0 w w' := by
 have H : (if a0 ≥ 0 then (if 0 ≤ (IntKind.u64.wrap (wrap64 (8 * a1))) then (some ((shr .i64 a0 (IntKind.u64.wrap (wrap64 (8 * a1)))) == 0)) else (none)) else (some false)) = some r := h
 clear h
 by_cases c3 : a0 ≥ 0
 ·
  rw [if_pos c3] at H
  have c3b0 : decide (0 ≤ a0) = true := decide_eq_true c3
  clear c3
  obtain ⟨ji4, hji4⟩ : ∃ j_ : Int, (IntKind.u64.wrap (wrap64 (8 * a1))) = j_ := ⟨_, rfl⟩
  replace H : (if 0 ≤ (ji4) then (some ((shr .i64 a0 (ji4)) == 0)) else (none)) = some r := by first | (rw [hji4] at H; exact H) | (simp only [hji4] at H ⊢; exact H)
  by_cases c5 : 0 ≤ (ji4)
  ·
   rw [if_pos c5] at H
   have c5b0 := eq_true c5
   have c5b1 : decide (0 ≤ (ji4)) = true := decide_eq_true c5
   clear c5
   obtain ⟨ji6, hji6⟩ : ∃ j_ : Int, (shr .i64 a0 (ji4)) = j_ := ⟨_, rfl⟩
   replace H : (some ((ji6) == 0)) = some r := by first | (rw [hji6] at H; exact H) | (simp only [hji6] at H ⊢; exact H)
   have hji6_ : (a0 / 2 ^ min (ji4).toNat 64) = ji6 := hji6
   have hji6z : (ji4) ≤ 64 → (a0 / 2 ^ (ji4).toNat) = ji6 := shr_small hji6
   obtain rfl := Option.some.inj H
   go_enter Try.func53, Try.ntmps53
   go_wp2
   go_ret
   exact ⟨by first | rfl | (simp; done) | (simp only [← hji4, ← hji6] <;> (first | rfl | simp)) | (simp [*]; done), by repeat (first | exact Drawn0.refl _ | apply Drawn0.step)⟩
  ·
   rw [if_neg c5] at H
   exact absurd H (by simp)
 ·
  rw [if_neg c3] at H
  have c3b0 : decide (0 ≤ a0) = false := decide_eq_false c3
  clear c3
  obtain rfl := Option.some.inj H
  go_enter Try.func53, Try.ntmps53
  go_wp2
  go_ret
  exact ⟨z3_, by repeat (first | exact Drawn0.refl _ | apply Drawn0.step)⟩
def raddleref01_dotFits.f (a0_0 : Int) (a0_1 : Int) : Option (Bool) := (raddleref01_fits.f a0_0 1).bind fun t323 => (if t323 = true then ((raddleref01_fits.f a0_1 4).bind fun t324 => (some t324)) else (some false))
set_option maxHeartbeats 8000000 in
set_option maxRecDepth 100000 in
theorem raddleref01_dotFits.calls (a0_0 : Int) (a0_1 : Int) (r : Bool) (w : World) (h : raddleref01_dotFits.f a0_0 a0_1 = some r) :
  Calls Try.prog 54 #[.agg #[.int .i64 a0_0, .int .i64 a0_1]] w fun e w' => e = .returned (.bool r) ∧ Below w.heap.size w w' := by
 have hu50 := Try.underlying50
 have HB := mk_ (Below.refl w.heap.size w)
 have H : ((raddleref01_fits.f a0_0 1).bind fun t323 => (if t323 = true then ((raddleref01_fits.f a0_1 4).bind fun t324 => (some t324)) else (some false))) = some r := h
 clear h
 replace H := Option.bind_eq_some_iff.mp H
 obtain ⟨t323, A20, H⟩ := H
 replace H : (if t323 = true then ((raddleref01_fits.f a0_1 4).bind fun t324 => (some t324)) else (some false)) = some r := H
 have A2 := mk_ A20
 clear A20
 by_cases c3 : t323 = true
 ·
  subst c3
  have H1 : ((raddleref01_fits.f a0_1 4).bind fun t324 => (some t324)) = some r := by rw [if_pos rfl] at H; exact H
  clear H
  have H := H1
  clear H1
  replace H := Option.bind_eq_some_iff.mp H
  obtain ⟨t324, A40, H⟩ := H
  replace H : (some t324) = some r := H
  have A4 := mk_ A40
  clear A40
  obtain rfl := Option.some.inj H
  go_enter Try.func54, Try.ntmps54
  go_wp2_with (first | ((with_reducible refine gate_dst (N := 1) rfl ?_); refine box_event ?hg (N := 1) ?hd (cs := #[.int .i64 a0_0, .int .i64 a0_1]) (t := 50) ?hr ?_; (case hd => rfl); (case hg => rfl); (case hr => first | (go_simp; done) | (go_simp; rfl)); intro gb322 hg w5 hbox hb; have n0_ := mk_ (below_step (Short.hB HB) hb); have n1_ := mk_ (hbox); have n2_ := mk_ ((by rw [hg]; exact (below_size (Short.hB HB)) : w.heap.size ≤ gb322)); have n3_ := mk_ ((by rw [hg]; exact (below_size (Short.hB HB)) : w.heap.size ≤ gb322)); clear HB; revert n0_ n1_ n2_ n3_; intro HB BK322 GW322 GE322; clear hb hbox hg; obtain ⟨hcz6_0, hcz6_1, hfz6_0, hfz6_1⟩ := Short.c2 BK322.out) | ((with_reducible refine gate_callee (f := 53) rfl ?_); refine Short.gL (some 5) Try.func53 #[.int .i64 a0_0, .int .i64 1] (h := ?_); (with_reducible refine (raddleref01_fits.calls a0_0 1 true _ A2.out).mono ?_); rintro e w' ⟨rfl, ⟨nd, rfl⟩⟩; refine ⟨_, rfl, ?_⟩) | (go_at_call 53; (with_reducible refine (raddleref01_fits.calls a0_1 4 t324 _ A4.out).mono ?_); rintro e w' ⟨rfl, ⟨nd, rfl⟩⟩))
  go_ret
  exact ⟨by first | rfl | (rw [hrt]; rfl) | (simp [errW_none, errW_some] <;> rfl) | (simp [*, errW_none, errW_some] <;> rfl), Short.hB HB⟩
 ·
  replace c3 := Bool.eq_false_iff.mpr c3
  subst c3
  have H1 : (some false) = some r := by rw [if_neg (show ¬ (false = true) by decide)] at H; exact H
  clear H
  have H := H1
  clear H1
  obtain rfl := Option.some.inj H
  go_enter Try.func54, Try.ntmps54
  go_wp2_with (first | ((with_reducible refine gate_dst (N := 1) rfl ?_); refine box_event ?hg (N := 1) ?hd (cs := #[.int .i64 a0_0, .int .i64 a0_1]) (t := 50) ?hr ?_; (case hd => rfl); (case hg => rfl); (case hr => first | (go_simp; done) | (go_simp; rfl)); intro gb322 hg w7 hbox hb; have n0_ := mk_ (below_step (Short.hB HB) hb); have n1_ := mk_ (hbox); have n2_ := mk_ ((by rw [hg]; exact (below_size (Short.hB HB)) : w.heap.size ≤ gb322)); have n3_ := mk_ ((by rw [hg]; exact (below_size (Short.hB HB)) : w.heap.size ≤ gb322)); clear HB; revert n0_ n1_ n2_ n3_; intro HB BK322 GW322 GE322; clear hb hbox hg; obtain ⟨hcz8_0, hcz8_1, hfz8_0, hfz8_1⟩ := Short.c2 BK322.out) | ((with_reducible refine gate_callee (f := 53) rfl ?_); refine Short.gL (some 5) Try.func53 #[.int .i64 a0_0, .int .i64 1] (h := ?_); (with_reducible refine (raddleref01_fits.calls a0_0 1 false _ A2.out).mono ?_); rintro e w' ⟨rfl, ⟨nd, rfl⟩⟩; refine ⟨_, rfl, ?_⟩))
  go_ret
  exact ⟨by first | rfl | (rw [hrt]; rfl) | (simp [errW_none, errW_some] <;> rfl) | (simp [*, errW_none, errW_some] <;> rfl), Short.hB HB⟩
def raddleref01_vectorFits.l0 : Nat → List Int → Int → Option (Bool)
 | 0, _, _ => none
 | k + 1, x0, x3 => if x3 < (x0.length : Int) then (if 0 ≤ x3 then ((raddleref01_fits.f (rd x0 x3) 4).bind fun t326 => (if t326 = true then (raddleref01_vectorFits.l0 k x0 (wrap64 (x3 + 1))) else (some false))) else (none)) else (some (decide ((x0.length : Int) ≤ 5)))
def raddleref01_vectorFits.f (k : Nat) (l0 : List Int) : Option (Bool) := raddleref01_vectorFits.l0 k l0 0
set_option maxHeartbeats 8000000 in
set_option maxRecDepth 100000 in
theorem raddleref01_vectorFits.calls (k : Nat) (A0 : Option Addr) (c0 : Nat) (l0 : List Int) (r : Bool) (w : World) (hr0 : Kd.C (Kd.int .i64) w A0 l0.length l0) (hc0 : l0.length ≤ c0) (h : raddleref01_vectorFits.f k l0 = some r) :
  Calls Try.prog 55 #[.slice A0 l0.length c0] w fun e w' => e = .returned (.bool r) ∧ Drawn0 w w' := by
 have HR0 := mk_ hr0
 have HC0 := mk_ hc0
 clear hr0 hc0
 have H : (raddleref01_vectorFits.l0 k l0 0) = some r := h
 clear h
 have H' := mk_ H
 clear H
 go_enter Try.func55, Try.ntmps55
 go_wp2
 go_loopg [3] k (fun kq v3 w' => ∃ (x3_1 : Int), v3 = .int .i64 x3_1 ∧ Aside0 (raddleref01_vectorFits.l0 kq l0 x3_1 = some r) ∧ Aside0 (kq ≤ k) ∧ Drawn0 w w')
 case atStart => exact ⟨(0), z3_, H', ⟨Nat.le_refl _⟩, by repeat (first | exact Drawn0.refl _ | apply Drawn0.step)⟩
 case round =>
  clear H'
  obtain ⟨x3_1, rfl, HA, HK1, ⟨m1, rfl⟩⟩ := hrel
  cases gk with
  | zero => exact absurd HA.out (by simp [raddleref01_vectorFits.l0])
  | succ k1 =>
   have H := HA.out
   clear HA
   simp only [raddleref01_vectorFits.l0] at H
   by_cases c2 : x3_1 < (l0.length : Int)
   ·
    rw [if_pos c2] at H
    have c2b0 : decide (x3_1 < (l0.length : Int)) = true := decide_eq_true c2
    clear c2
    by_cases c3 : 0 ≤ x3_1
    ·
     rw [if_pos c3] at H
     have c3b0 : decide (0 ≤ x3_1) = true := decide_eq_true c3
     clear c3
     replace H := Option.bind_eq_some_iff.mp H
     obtain ⟨t326, A40, H⟩ := H
     replace H : (if t326 = true then (raddleref01_vectorFits.l0 k1 l0 (wrap64 (x3_1 + 1))) else (some false)) = some r := H
     have A4 := mk_ A40
     clear A40
     by_cases c5 : t326 = true
     ·
      subst c5
      have H1 : (raddleref01_vectorFits.l0 k1 l0 (wrap64 (x3_1 + 1))) = some r := by rw [if_pos rfl] at H; exact H
      clear H
      have H := H1
      clear H1
      have H' := mk_ H
      clear H
      have p325 : 0 ≤ (x3_1 : Int) := of_decide_eq_true z0_
      have q325 : x3_1 < (l0.length : Int) := of_decide_eq_true z0_
      obtain ⟨ad325, e325, hx325_0⟩ := Kd.at_int HR0.out x3_1 p325 q325
      cases e325
      replace p325 := eq_true p325
      replace q325 := eq_true q325
      go_wp2_with (first | ((with_reducible refine gate_callee (f := 53) rfl ?_); refine Short.gL (some 14) Try.func53 #[.int .i64 (rd l0 x3_1), .int .i64 4] (h := ?_); (with_reducible refine (raddleref01_fits.calls (rd l0 x3_1) 4 true _ A4.out).mono ?_); rintro e w' ⟨rfl, ⟨nd, rfl⟩⟩; refine ⟨_, rfl, ?_⟩))
      go_roundg k1
      case measure => have := HK1.out; omega
      case rel => exact ⟨(wrap64 (x3_1 + 1)), z3_, H', ⟨by have := HK1.out; omega⟩, by repeat (first | exact Drawn0.refl _ | apply Drawn0.step)⟩
     ·
      replace c5 := Bool.eq_false_iff.mpr c5
      subst c5
      have H1 : (some false) = some r := by rw [if_neg (show ¬ (false = true) by decide)] at H; exact H
      clear H
      have H := H1
      clear H1
      obtain rfl := Option.some.inj H
      have p325 : 0 ≤ (x3_1 : Int) := of_decide_eq_true z0_
      have q325 : x3_1 < (l0.length : Int) := of_decide_eq_true z0_
      obtain ⟨ad325, e325, hx325_0⟩ := Kd.at_int HR0.out x3_1 p325 q325
      cases e325
      replace p325 := eq_true p325
      replace q325 := eq_true q325
      go_wp2_with (first | ((with_reducible refine gate_callee (f := 53) rfl ?_); refine Short.gL (some 14) Try.func53 #[.int .i64 (rd l0 x3_1), .int .i64 4] (h := ?_); (with_reducible refine (raddleref01_fits.calls (rd l0 x3_1) 4 false _ A4.out).mono ?_); rintro e w' ⟨rfl, ⟨nd, rfl⟩⟩; refine ⟨_, rfl, ?_⟩))
      go_ret
      exact ⟨z3_, by repeat (first | exact Drawn0.refl _ | apply Drawn0.step)⟩
    ·
     rw [if_neg c3] at H
     exact absurd H (by simp)
   ·
    rw [if_neg c2] at H
    have c2b0 : decide (x3_1 < (l0.length : Int)) = false := decide_eq_false c2
    clear c2
    obtain rfl := Option.some.inj H
    go_wp2
    go_ret
    exact ⟨z3_, by repeat (first | exact Drawn0.refl _ | apply Drawn0.step)⟩
def raddleref01_stampFits.f (a0_0 : Int) (a0_1 : Int) (a0_2 : Int) : Option (Bool) := (raddleref01_fits.f a0_0 6).bind fun t328 => (if t328 = true then ((raddleref01_fits.f a0_1 3).bind fun t329 => (if t329 = true then ((raddleref01_fits.f a0_2 1).bind fun t330 => (some t330)) else (some false))) else (some false))
set_option maxHeartbeats 8000000 in
set_option maxRecDepth 100000 in
theorem raddleref01_stampFits.calls (a0_0 : Int) (a0_1 : Int) (a0_2 : Int) (r : Bool) (w : World) (h : raddleref01_stampFits.f a0_0 a0_1 a0_2 = some r) :
  Calls Try.prog 56 #[.agg #[.int .i64 a0_0, .int .i64 a0_1, .int .i64 a0_2]] w fun e w' => e = .returned (.bool r) ∧ Below w.heap.size w w' := by
 have hu26 := Try.underlying26
 have HB := mk_ (Below.refl w.heap.size w)
 have H : ((raddleref01_fits.f a0_0 6).bind fun t328 => (if t328 = true then ((raddleref01_fits.f a0_1 3).bind fun t329 => (if t329 = true then ((raddleref01_fits.f a0_2 1).bind fun t330 => (some t330)) else (some false))) else (some false))) = some r := h
 clear h
 replace H := Option.bind_eq_some_iff.mp H
 obtain ⟨t328, A20, H⟩ := H
 replace H : (if t328 = true then ((raddleref01_fits.f a0_1 3).bind fun t329 => (if t329 = true then ((raddleref01_fits.f a0_2 1).bind fun t330 => (some t330)) else (some false))) else (some false)) = some r := H
 have A2 := mk_ A20
 clear A20
 by_cases c3 : t328 = true
 ·
  subst c3
  have H1 : ((raddleref01_fits.f a0_1 3).bind fun t329 => (if t329 = true then ((raddleref01_fits.f a0_2 1).bind fun t330 => (some t330)) else (some false))) = some r := by rw [if_pos rfl] at H; exact H
  clear H
  have H := H1
  clear H1
  replace H := Option.bind_eq_some_iff.mp H
  obtain ⟨t329, A40, H⟩ := H
  replace H : (if t329 = true then ((raddleref01_fits.f a0_2 1).bind fun t330 => (some t330)) else (some false)) = some r := H
  have A4 := mk_ A40
  clear A40
  by_cases c5 : t329 = true
  ·
   subst c5
   have H1 : ((raddleref01_fits.f a0_2 1).bind fun t330 => (some t330)) = some r := by rw [if_pos rfl] at H; exact H
   clear H
   have H := H1
   clear H1
   replace H := Option.bind_eq_some_iff.mp H
   obtain ⟨t330, A60, H⟩ := H
   replace H : (some t330) = some r := H
   have A6 := mk_ A60
   clear A60
   obtain rfl := Option.some.inj H
   go_enter Try.func56, Try.ntmps56
   go_wp2_with (first | ((with_reducible refine gate_dst (N := 1) rfl ?_); refine box_event ?hg (N := 1) ?hd (cs := #[.int .i64 a0_0, .int .i64 a0_1, .int .i64 a0_2]) (t := 26) ?hr ?_; (case hd => rfl); (case hg => rfl); (case hr => first | (go_simp; done) | (go_simp; rfl)); intro gb327 hg w7 hbox hb; have n0_ := mk_ (below_step (Short.hB HB) hb); have n1_ := mk_ (hbox); have n2_ := mk_ ((by rw [hg]; exact (below_size (Short.hB HB)) : w.heap.size ≤ gb327)); have n3_ := mk_ ((by rw [hg]; exact (below_size (Short.hB HB)) : w.heap.size ≤ gb327)); clear HB; revert n0_ n1_ n2_ n3_; intro HB BK327 GW327 GE327; clear hb hbox hg; obtain ⟨hcz8_0, hcz8_1, hcz8_2, hfz8_0, hfz8_1, hfz8_2⟩ := Short.c3 BK327.out) | ((with_reducible refine gate_callee (f := 53) rfl ?_); refine Short.gL (some 5) Try.func53 #[.int .i64 a0_0, .int .i64 6] (h := ?_); (with_reducible refine (raddleref01_fits.calls a0_0 6 true _ A2.out).mono ?_); rintro e w' ⟨rfl, ⟨nd, rfl⟩⟩; refine ⟨_, rfl, ?_⟩) | (go_at_call 53; (with_reducible refine (raddleref01_fits.calls a0_1 3 true _ A4.out).mono ?_); rintro e w' ⟨rfl, ⟨nd, rfl⟩⟩) | (go_at_call 53; (with_reducible refine (raddleref01_fits.calls a0_2 1 t330 _ A6.out).mono ?_); rintro e w' ⟨rfl, ⟨nd, rfl⟩⟩))
   go_ret
   exact ⟨by first | rfl | (rw [hrt]; rfl) | (simp [errW_none, errW_some] <;> rfl) | (simp [*, errW_none, errW_some] <;> rfl), Short.hB HB⟩
  ·
   replace c5 := Bool.eq_false_iff.mpr c5
   subst c5
   have H1 : (some false) = some r := by rw [if_neg (show ¬ (false = true) by decide)] at H; exact H
   clear H
   have H := H1
   clear H1
   obtain rfl := Option.some.inj H
   go_enter Try.func56, Try.ntmps56
   go_wp2_with (first | ((with_reducible refine gate_dst (N := 1) rfl ?_); refine box_event ?hg (N := 1) ?hd (cs := #[.int .i64 a0_0, .int .i64 a0_1, .int .i64 a0_2]) (t := 26) ?hr ?_; (case hd => rfl); (case hg => rfl); (case hr => first | (go_simp; done) | (go_simp; rfl)); intro gb327 hg w9 hbox hb; have n0_ := mk_ (below_step (Short.hB HB) hb); have n1_ := mk_ (hbox); have n2_ := mk_ ((by rw [hg]; exact (below_size (Short.hB HB)) : w.heap.size ≤ gb327)); have n3_ := mk_ ((by rw [hg]; exact (below_size (Short.hB HB)) : w.heap.size ≤ gb327)); clear HB; revert n0_ n1_ n2_ n3_; intro HB BK327 GW327 GE327; clear hb hbox hg; obtain ⟨hcz10_0, hcz10_1, hcz10_2, hfz10_0, hfz10_1, hfz10_2⟩ := Short.c3 BK327.out) | ((with_reducible refine gate_callee (f := 53) rfl ?_); refine Short.gL (some 5) Try.func53 #[.int .i64 a0_0, .int .i64 6] (h := ?_); (with_reducible refine (raddleref01_fits.calls a0_0 6 true _ A2.out).mono ?_); rintro e w' ⟨rfl, ⟨nd, rfl⟩⟩; refine ⟨_, rfl, ?_⟩) | (go_at_call 53; (with_reducible refine (raddleref01_fits.calls a0_1 3 false _ A4.out).mono ?_); rintro e w' ⟨rfl, ⟨nd, rfl⟩⟩))
   go_ret
   exact ⟨by first | rfl | (rw [hrt]; rfl) | (simp [errW_none, errW_some] <;> rfl) | (simp [*, errW_none, errW_some] <;> rfl), Short.hB HB⟩
 ·
  replace c3 := Bool.eq_false_iff.mpr c3
  subst c3
  have H1 : (some false) = some r := by rw [if_neg (show ¬ (false = true) by decide)] at H; exact H
  clear H
  have H := H1
  clear H1
  obtain rfl := Option.some.inj H
  go_enter Try.func56, Try.ntmps56
  go_wp2_with (first | ((with_reducible refine gate_dst (N := 1) rfl ?_); refine box_event ?hg (N := 1) ?hd (cs := #[.int .i64 a0_0, .int .i64 a0_1, .int .i64 a0_2]) (t := 26) ?hr ?_; (case hd => rfl); (case hg => rfl); (case hr => first | (go_simp; done) | (go_simp; rfl)); intro gb327 hg w11 hbox hb; have n0_ := mk_ (below_step (Short.hB HB) hb); have n1_ := mk_ (hbox); have n2_ := mk_ ((by rw [hg]; exact (below_size (Short.hB HB)) : w.heap.size ≤ gb327)); have n3_ := mk_ ((by rw [hg]; exact (below_size (Short.hB HB)) : w.heap.size ≤ gb327)); clear HB; revert n0_ n1_ n2_ n3_; intro HB BK327 GW327 GE327; clear hb hbox hg; obtain ⟨hcz12_0, hcz12_1, hcz12_2, hfz12_0, hfz12_1, hfz12_2⟩ := Short.c3 BK327.out) | ((with_reducible refine gate_callee (f := 53) rfl ?_); refine Short.gL (some 5) Try.func53 #[.int .i64 a0_0, .int .i64 6] (h := ?_); (with_reducible refine (raddleref01_fits.calls a0_0 6 false _ A2.out).mono ?_); rintro e w' ⟨rfl, ⟨nd, rfl⟩⟩; refine ⟨_, rfl, ?_⟩))
  go_ret
  exact ⟨by first | rfl | (rw [hrt]; rfl) | (simp [errW_none, errW_some] <;> rfl) | (simp [*, errW_none, errW_some] <;> rfl), Short.hB HB⟩
def raddleref01_in.f (a0 : Int) (a1 : Int) (a2 : Int) : Option (Bool) := if a0 ≥ a1 then (some (decide (a0 ≤ a2))) else (some false)
set_option maxHeartbeats 8000000 in
set_option maxRecDepth 100000 in
theorem raddleref01_in.calls (a0 : Int) (a1 : Int) (a2 : Int) (r : Bool) (w : World) (h : raddleref01_in.f a0 a1 a2 = some r) :
  Calls Try.prog 98 #[.int .i64 a0, .int .i64 a1, .int .i64 a2] w fun e w' => e = .returned (.bool r) ∧ Drawn0 w w' := by
 have H : (if a0 ≥ a1 then (some (decide (a0 ≤ a2))) else (some false)) = some r := h
 clear h
 by_cases c4 : a0 ≥ a1
 ·
  rw [if_pos c4] at H
  have c4b0 : decide (a1 ≤ a0) = true := decide_eq_true c4
  clear c4
  obtain rfl := Option.some.inj H
  go_enter Try.func98, Try.ntmps98
  go_wp2
  go_ret
  exact ⟨z3_, by repeat (first | exact Drawn0.refl _ | apply Drawn0.step)⟩
 ·
  rw [if_neg c4] at H
  have c4b0 : decide (a1 ≤ a0) = false := decide_eq_false c4
  clear c4
  obtain rfl := Option.some.inj H
  go_enter Try.func98, Try.ntmps98
  go_wp2
  go_ret
  exact ⟨z3_, by repeat (first | exact Drawn0.refl _ | apply Drawn0.step)⟩
def raddleref01_Value.f (a0_0 : Int) (a0_1 : Int) (a0_2 : ByteArray) : Option (Bool) := if a0_0 = 1 then (if a0_1 = 0 then (some (a0_2.toList == ([] : List UInt8))) else (some false)) else (if a0_0 = 2 then ((raddleref01_in.f a0_1 0 1).bind fun t332 => (if t332 = true then (some (a0_2.toList == ([] : List UInt8))) else (some false))) else (if a0_0 = 3 then ((raddleref01_in.f a0_1 (-1152921504606846976) 1152921504606846976).bind fun t333 => (if t333 = true then (some (a0_2.toList == ([] : List UInt8))) else (some false))) else (if a0_0 = 4 then (if a0_1 = 0 then (some (decide ((a0_2.size : Int) ≤ 24))) else (some false)) else (some false))))
set_option maxHeartbeats 8000000 in
set_option maxRecDepth 100000 in
theorem raddleref01_Value.calls (a0_0 : Int) (a0_1 : Int) (a0_2 : ByteArray) (r : Bool) (w : World) (h : raddleref01_Value.f a0_0 a0_1 a0_2 = some r) :
  Calls Try.prog 92 #[.agg #[.int .i64 a0_0, .int .i64 a0_1, .string a0_2]] w fun e w' => e = .returned (.bool r) ∧ Below w.heap.size w w' := by
 have hu89 := Try.underlying89
 have HB := mk_ (Below.refl w.heap.size w)
 have H : (if a0_0 = 1 then (if a0_1 = 0 then (some (a0_2.toList == ([] : List UInt8))) else (some false)) else (if a0_0 = 2 then ((raddleref01_in.f a0_1 0 1).bind fun t332 => (if t332 = true then (some (a0_2.toList == ([] : List UInt8))) else (some false))) else (if a0_0 = 3 then ((raddleref01_in.f a0_1 (-1152921504606846976) 1152921504606846976).bind fun t333 => (if t333 = true then (some (a0_2.toList == ([] : List UInt8))) else (some false))) else (if a0_0 = 4 then (if a0_1 = 0 then (some (decide ((a0_2.size : Int) ≤ 24))) else (some false)) else (some false))))) = some r := h
 clear h
 by_cases c2 : a0_0 = 1
 ·
  rw [if_pos c2] at H
  have c2b0 : (a0_0 == 1) = true := beq_iff_eq.mpr c2
  have c2b1 : (a0_0 != 1) = false := bne_eq_false_iff_eq.mpr c2
  clear c2
  by_cases c3 : a0_1 = 0
  ·
   rw [if_pos c3] at H
   have c3b0 : (a0_1 == 0) = true := beq_iff_eq.mpr c3
   have c3b1 : (a0_1 != 0) = false := bne_eq_false_iff_eq.mpr c3
   clear c3
   obtain rfl := Option.some.inj H
   go_enter Try.func92, Try.ntmps92
   go_wp2_with (first | ((with_reducible refine gate_dst (N := 1) rfl ?_); (try (refine gate_guard (by rfl) ?_; dsimp only)); refine box_event ?hg (N := 1) ?hd (cs := #[.int .i64 a0_0, .int .i64 a0_1, .string a0_2]) (t := 89) ?hr ?_; (case hd => rfl); (case hg => rfl); (case hr => first | (go_simp; done) | (go_simp; rfl)); intro gb331 hg w4 hbox hb; have n0_ := mk_ (below_step (Short.hB HB) hb); have n1_ := mk_ (hbox); have n2_ := mk_ ((by rw [hg]; exact (below_size (Short.hB HB)) : w.heap.size ≤ gb331)); have n3_ := mk_ ((by rw [hg]; exact (below_size (Short.hB HB)) : w.heap.size ≤ gb331)); clear HB; revert n0_ n1_ n2_ n3_; intro HB BK331 GW331 GE331; clear hb hbox hg; obtain ⟨hcz5_0, hcz5_1, hcz5_2, hfz5_0, hfz5_1, hfz5_2⟩ := Short.c3 BK331.out))
   go_ret
   exact ⟨by first | rfl | (rw [hrt]; rfl) | (simp [errW_none, errW_some] <;> rfl) | (simp [*, errW_none, errW_some] <;> rfl), Short.hB HB⟩
  ·
   rw [if_neg c3] at H
   have c3b0 : (a0_1 == 0) = false := beq_eq_false_iff_ne.mpr c3
   have c3b1 : (a0_1 != 0) = true := bne_iff_ne.mpr c3
   obtain rfl := Option.some.inj H
   go_enter Try.func92, Try.ntmps92
   go_wp2_with (first | ((with_reducible refine gate_dst (N := 1) rfl ?_); (try (refine gate_guard (by rfl) ?_; dsimp only)); refine box_event ?hg (N := 1) ?hd (cs := #[.int .i64 a0_0, .int .i64 a0_1, .string a0_2]) (t := 89) ?hr ?_; (case hd => rfl); (case hg => rfl); (case hr => first | (go_simp; done) | (go_simp; rfl)); intro gb331 hg w6 hbox hb; have n0_ := mk_ (below_step (Short.hB HB) hb); have n1_ := mk_ (hbox); have n2_ := mk_ ((by rw [hg]; exact (below_size (Short.hB HB)) : w.heap.size ≤ gb331)); have n3_ := mk_ ((by rw [hg]; exact (below_size (Short.hB HB)) : w.heap.size ≤ gb331)); clear HB; revert n0_ n1_ n2_ n3_; intro HB BK331 GW331 GE331; clear hb hbox hg; obtain ⟨hcz7_0, hcz7_1, hcz7_2, hfz7_0, hfz7_1, hfz7_2⟩ := Short.c3 BK331.out))
   go_ret
   exact ⟨by first | rfl | (rw [hrt]; rfl) | (simp [errW_none, errW_some] <;> rfl) | (simp [*, errW_none, errW_some] <;> rfl), Short.hB HB⟩
 ·
  rw [if_neg c2] at H
  have c2b0 : (a0_0 == 1) = false := beq_eq_false_iff_ne.mpr c2
  have c2b1 : (a0_0 != 1) = true := bne_iff_ne.mpr c2
  by_cases c8 : a0_0 = 2
  ·
   rw [if_pos c8] at H
   have c8b0 : (a0_0 == 2) = true := beq_iff_eq.mpr c8
   have c8b1 : (a0_0 != 2) = false := bne_eq_false_iff_eq.mpr c8
   clear c8
   replace H := Option.bind_eq_some_iff.mp H
   obtain ⟨t332, A90, H⟩ := H
   replace H : (if t332 = true then (some (a0_2.toList == ([] : List UInt8))) else (some false)) = some r := H
   have A9 := mk_ A90
   clear A90
   by_cases c10 : t332 = true
   ·
    subst c10
    have H1 : (some (a0_2.toList == ([] : List UInt8))) = some r := by rw [if_pos rfl] at H; exact H
    clear H
    have H := H1
    clear H1
    obtain rfl := Option.some.inj H
    go_enter Try.func92, Try.ntmps92
    go_wp2_with (first | ((with_reducible refine gate_dst (N := 1) rfl ?_); (try (refine gate_guard (by rfl) ?_; dsimp only)); refine box_event ?hg (N := 1) ?hd (cs := #[.int .i64 a0_0, .int .i64 a0_1, .string a0_2]) (t := 89) ?hr ?_; (case hd => rfl); (case hg => rfl); (case hr => first | (go_simp; done) | (go_simp; rfl)); intro gb331 hg w11 hbox hb; have n0_ := mk_ (below_step (Short.hB HB) hb); have n1_ := mk_ (hbox); have n2_ := mk_ ((by rw [hg]; exact (below_size (Short.hB HB)) : w.heap.size ≤ gb331)); have n3_ := mk_ ((by rw [hg]; exact (below_size (Short.hB HB)) : w.heap.size ≤ gb331)); clear HB; revert n0_ n1_ n2_ n3_; intro HB BK331 GW331 GE331; clear hb hbox hg; obtain ⟨hcz12_0, hcz12_1, hcz12_2, hfz12_0, hfz12_1, hfz12_2⟩ := Short.c3 BK331.out) | ((with_reducible refine gate_callee (f := 98) rfl ?_); refine Short.gL (some 19) Try.func98 #[.int .i64 a0_1, .int .i64 0, .int .i64 1] (h := ?_); (with_reducible refine (raddleref01_in.calls a0_1 0 1 true _ A9.out).mono ?_); rintro e w' ⟨rfl, ⟨nd, rfl⟩⟩; refine ⟨_, rfl, ?_⟩))
    go_ret
    exact ⟨by first | rfl | (rw [hrt]; rfl) | (simp [errW_none, errW_some] <;> rfl) | (simp [*, errW_none, errW_some] <;> rfl), Short.hB HB⟩
   ·
    replace c10 := Bool.eq_false_iff.mpr c10
    subst c10
    have H1 : (some false) = some r := by rw [if_neg (show ¬ (false = true) by decide)] at H; exact H
    clear H
    have H := H1
    clear H1
    obtain rfl := Option.some.inj H
    go_enter Try.func92, Try.ntmps92
    go_wp2_with (first | ((with_reducible refine gate_dst (N := 1) rfl ?_); (try (refine gate_guard (by rfl) ?_; dsimp only)); refine box_event ?hg (N := 1) ?hd (cs := #[.int .i64 a0_0, .int .i64 a0_1, .string a0_2]) (t := 89) ?hr ?_; (case hd => rfl); (case hg => rfl); (case hr => first | (go_simp; done) | (go_simp; rfl)); intro gb331 hg w13 hbox hb; have n0_ := mk_ (below_step (Short.hB HB) hb); have n1_ := mk_ (hbox); have n2_ := mk_ ((by rw [hg]; exact (below_size (Short.hB HB)) : w.heap.size ≤ gb331)); have n3_ := mk_ ((by rw [hg]; exact (below_size (Short.hB HB)) : w.heap.size ≤ gb331)); clear HB; revert n0_ n1_ n2_ n3_; intro HB BK331 GW331 GE331; clear hb hbox hg; obtain ⟨hcz14_0, hcz14_1, hcz14_2, hfz14_0, hfz14_1, hfz14_2⟩ := Short.c3 BK331.out) | ((with_reducible refine gate_callee (f := 98) rfl ?_); refine Short.gL (some 19) Try.func98 #[.int .i64 a0_1, .int .i64 0, .int .i64 1] (h := ?_); (with_reducible refine (raddleref01_in.calls a0_1 0 1 false _ A9.out).mono ?_); rintro e w' ⟨rfl, ⟨nd, rfl⟩⟩; refine ⟨_, rfl, ?_⟩))
    go_ret
    exact ⟨by first | rfl | (rw [hrt]; rfl) | (simp [errW_none, errW_some] <;> rfl) | (simp [*, errW_none, errW_some] <;> rfl), Short.hB HB⟩
  ·
   rw [if_neg c8] at H
   have c8b0 : (a0_0 == 2) = false := beq_eq_false_iff_ne.mpr c8
   have c8b1 : (a0_0 != 2) = true := bne_iff_ne.mpr c8
   by_cases c15 : a0_0 = 3
   ·
    rw [if_pos c15] at H
    have c15b0 : (a0_0 == 3) = true := beq_iff_eq.mpr c15
    have c15b1 : (a0_0 != 3) = false := bne_eq_false_iff_eq.mpr c15
    clear c15
    replace H := Option.bind_eq_some_iff.mp H
    obtain ⟨t333, A160, H⟩ := H
    replace H : (if t333 = true then (some (a0_2.toList == ([] : List UInt8))) else (some false)) = some r := H
    have A16 := mk_ A160
    clear A160
    by_cases c17 : t333 = true
    ·
     subst c17
     have H1 : (some (a0_2.toList == ([] : List UInt8))) = some r := by rw [if_pos rfl] at H; exact H
     clear H
     have H := H1
     clear H1
     obtain rfl := Option.some.inj H
     go_enter Try.func92, Try.ntmps92
     go_wp2_with (first | ((with_reducible refine gate_dst (N := 1) rfl ?_); (try (refine gate_guard (by rfl) ?_; dsimp only)); refine box_event ?hg (N := 1) ?hd (cs := #[.int .i64 a0_0, .int .i64 a0_1, .string a0_2]) (t := 89) ?hr ?_; (case hd => rfl); (case hg => rfl); (case hr => first | (go_simp; done) | (go_simp; rfl)); intro gb331 hg w18 hbox hb; have n0_ := mk_ (below_step (Short.hB HB) hb); have n1_ := mk_ (hbox); have n2_ := mk_ ((by rw [hg]; exact (below_size (Short.hB HB)) : w.heap.size ≤ gb331)); have n3_ := mk_ ((by rw [hg]; exact (below_size (Short.hB HB)) : w.heap.size ≤ gb331)); clear HB; revert n0_ n1_ n2_ n3_; intro HB BK331 GW331 GE331; clear hb hbox hg; obtain ⟨hcz19_0, hcz19_1, hcz19_2, hfz19_0, hfz19_1, hfz19_2⟩ := Short.c3 BK331.out) | ((with_reducible refine gate_callee (f := 98) rfl ?_); refine Short.gL (some 29) Try.func98 #[.int .i64 a0_1, .int .i64 (-1152921504606846976), .int .i64 1152921504606846976] (h := ?_); (with_reducible refine (raddleref01_in.calls a0_1 (-1152921504606846976) 1152921504606846976 true _ A16.out).mono ?_); rintro e w' ⟨rfl, ⟨nd, rfl⟩⟩; refine ⟨_, rfl, ?_⟩))
     go_ret
     exact ⟨by first | rfl | (rw [hrt]; rfl) | (simp [errW_none, errW_some] <;> rfl) | (simp [*, errW_none, errW_some] <;> rfl), Short.hB HB⟩
    ·
     replace c17 := Bool.eq_false_iff.mpr c17
     subst c17
     have H1 : (some false) = some r := by rw [if_neg (show ¬ (false = true) by decide)] at H; exact H
     clear H
     have H := H1
     clear H1
     obtain rfl := Option.some.inj H
     go_enter Try.func92, Try.ntmps92
     go_wp2_with (first | ((with_reducible refine gate_dst (N := 1) rfl ?_); (try (refine gate_guard (by rfl) ?_; dsimp only)); refine box_event ?hg (N := 1) ?hd (cs := #[.int .i64 a0_0, .int .i64 a0_1, .string a0_2]) (t := 89) ?hr ?_; (case hd => rfl); (case hg => rfl); (case hr => first | (go_simp; done) | (go_simp; rfl)); intro gb331 hg w20 hbox hb; have n0_ := mk_ (below_step (Short.hB HB) hb); have n1_ := mk_ (hbox); have n2_ := mk_ ((by rw [hg]; exact (below_size (Short.hB HB)) : w.heap.size ≤ gb331)); have n3_ := mk_ ((by rw [hg]; exact (below_size (Short.hB HB)) : w.heap.size ≤ gb331)); clear HB; revert n0_ n1_ n2_ n3_; intro HB BK331 GW331 GE331; clear hb hbox hg; obtain ⟨hcz21_0, hcz21_1, hcz21_2, hfz21_0, hfz21_1, hfz21_2⟩ := Short.c3 BK331.out) | ((with_reducible refine gate_callee (f := 98) rfl ?_); refine Short.gL (some 29) Try.func98 #[.int .i64 a0_1, .int .i64 (-1152921504606846976), .int .i64 1152921504606846976] (h := ?_); (with_reducible refine (raddleref01_in.calls a0_1 (-1152921504606846976) 1152921504606846976 false _ A16.out).mono ?_); rintro e w' ⟨rfl, ⟨nd, rfl⟩⟩; refine ⟨_, rfl, ?_⟩))
     go_ret
     exact ⟨by first | rfl | (rw [hrt]; rfl) | (simp [errW_none, errW_some] <;> rfl) | (simp [*, errW_none, errW_some] <;> rfl), Short.hB HB⟩
   ·
    rw [if_neg c15] at H
    have c15b0 : (a0_0 == 3) = false := beq_eq_false_iff_ne.mpr c15
    have c15b1 : (a0_0 != 3) = true := bne_iff_ne.mpr c15
    by_cases c22 : a0_0 = 4
    ·
     rw [if_pos c22] at H
     have c22b0 : (a0_0 == 4) = true := beq_iff_eq.mpr c22
     have c22b1 : (a0_0 != 4) = false := bne_eq_false_iff_eq.mpr c22
     clear c22
     by_cases c23 : a0_1 = 0
     ·
      rw [if_pos c23] at H
      have c23b0 : (a0_1 == 0) = true := beq_iff_eq.mpr c23
      have c23b1 : (a0_1 != 0) = false := bne_eq_false_iff_eq.mpr c23
      clear c23
      obtain rfl := Option.some.inj H
      go_enter Try.func92, Try.ntmps92
      go_wp2_with (first | ((with_reducible refine gate_dst (N := 1) rfl ?_); (try (refine gate_guard (by rfl) ?_; dsimp only)); refine box_event ?hg (N := 1) ?hd (cs := #[.int .i64 a0_0, .int .i64 a0_1, .string a0_2]) (t := 89) ?hr ?_; (case hd => rfl); (case hg => rfl); (case hr => first | (go_simp; done) | (go_simp; rfl)); intro gb331 hg w24 hbox hb; have n0_ := mk_ (below_step (Short.hB HB) hb); have n1_ := mk_ (hbox); have n2_ := mk_ ((by rw [hg]; exact (below_size (Short.hB HB)) : w.heap.size ≤ gb331)); have n3_ := mk_ ((by rw [hg]; exact (below_size (Short.hB HB)) : w.heap.size ≤ gb331)); clear HB; revert n0_ n1_ n2_ n3_; intro HB BK331 GW331 GE331; clear hb hbox hg; obtain ⟨hcz25_0, hcz25_1, hcz25_2, hfz25_0, hfz25_1, hfz25_2⟩ := Short.c3 BK331.out))
      go_ret
      exact ⟨by first | rfl | (rw [hrt]; rfl) | (simp [errW_none, errW_some] <;> rfl) | (simp [*, errW_none, errW_some] <;> rfl), Short.hB HB⟩
     ·
      rw [if_neg c23] at H
      have c23b0 : (a0_1 == 0) = false := beq_eq_false_iff_ne.mpr c23
      have c23b1 : (a0_1 != 0) = true := bne_iff_ne.mpr c23
      obtain rfl := Option.some.inj H
      go_enter Try.func92, Try.ntmps92
      go_wp2_with (first | ((with_reducible refine gate_dst (N := 1) rfl ?_); (try (refine gate_guard (by rfl) ?_; dsimp only)); refine box_event ?hg (N := 1) ?hd (cs := #[.int .i64 a0_0, .int .i64 a0_1, .string a0_2]) (t := 89) ?hr ?_; (case hd => rfl); (case hg => rfl); (case hr => first | (go_simp; done) | (go_simp; rfl)); intro gb331 hg w26 hbox hb; have n0_ := mk_ (below_step (Short.hB HB) hb); have n1_ := mk_ (hbox); have n2_ := mk_ ((by rw [hg]; exact (below_size (Short.hB HB)) : w.heap.size ≤ gb331)); have n3_ := mk_ ((by rw [hg]; exact (below_size (Short.hB HB)) : w.heap.size ≤ gb331)); clear HB; revert n0_ n1_ n2_ n3_; intro HB BK331 GW331 GE331; clear hb hbox hg; obtain ⟨hcz27_0, hcz27_1, hcz27_2, hfz27_0, hfz27_1, hfz27_2⟩ := Short.c3 BK331.out))
      go_ret
      exact ⟨by first | rfl | (rw [hrt]; rfl) | (simp [errW_none, errW_some] <;> rfl) | (simp [*, errW_none, errW_some] <;> rfl), Short.hB HB⟩
    ·
     rw [if_neg c22] at H
     have c22b0 : (a0_0 == 4) = false := beq_eq_false_iff_ne.mpr c22
     have c22b1 : (a0_0 != 4) = true := bne_iff_ne.mpr c22
     obtain rfl := Option.some.inj H
     go_enter Try.func92, Try.ntmps92
     go_wp2_with (first | ((with_reducible refine gate_dst (N := 1) rfl ?_); (try (refine gate_guard (by rfl) ?_; dsimp only)); refine box_event ?hg (N := 1) ?hd (cs := #[.int .i64 a0_0, .int .i64 a0_1, .string a0_2]) (t := 89) ?hr ?_; (case hd => rfl); (case hg => rfl); (case hr => first | (go_simp; done) | (go_simp; rfl)); intro gb331 hg w28 hbox hb; have n0_ := mk_ (below_step (Short.hB HB) hb); have n1_ := mk_ (hbox); have n2_ := mk_ ((by rw [hg]; exact (below_size (Short.hB HB)) : w.heap.size ≤ gb331)); have n3_ := mk_ ((by rw [hg]; exact (below_size (Short.hB HB)) : w.heap.size ≤ gb331)); clear HB; revert n0_ n1_ n2_ n3_; intro HB BK331 GW331 GE331; clear hb hbox hg; obtain ⟨hcz29_0, hcz29_1, hcz29_2, hfz29_0, hfz29_1, hfz29_2⟩ := Short.c3 BK331.out))
     go_ret
     exact ⟨by first | rfl | (rw [hrt]; rfl) | (simp [errW_none, errW_some] <;> rfl) | (simp [*, errW_none, errW_some] <;> rfl), Short.hB HB⟩
end Go.Proofs.Ytcbfliajgopdaaa.PAll
end
section
namespace Go.Proofs.Ytcbfliajgopdaaa.Plain
open Go.RowKit Go.Proofs.Ytcbfliajgopdaaa.PAll Go.Proofs.YtcbfliajgopdaaaW.PrintWords Go.Proofs.YtcbfliajgopdaaaW.PrintLast Go.Proofs.YtcbfliajgopdaaaW.PrintMore Go.Proofs.Ytcbfliajgopdaaa.ZipT Go.Proofs.YtcbfliajgopdaaaW.PrintWords.Kd Go.Proofs.YtcbfliajgopdaaaW.PrintMore.Kd
set_option linter.unusedVariables false
set_option linter.unusedSimpArgs false
theorem rin_eq (a b c : Int) : raddleref01_in.f a b c = some (decide (b ≤ a ∧ a ≤ c)) := by
 unfold raddleref01_in.f
 by_cases h : a ≥ b
 ·
  rw [if_pos h]; simp [h]
 ·
  rw [if_neg h]; simp [h] <;> omega
theorem sub_cons {l : List Int} {i j : Nat} (hij : i < j) (hj : j ≤ l.length) : sub l i j = rd l (i : Int) :: sub l (i + 1) j := by
 unfold sub
 have hi : i < (l.take j).length := by simp; omega
 rw [List.drop_eq_getElem_cons hi]
 congr 1
 show _ = l.getD ((i : Int).toNat) 0
 rw [Int.toNat_natCast, List.getElem_take, List.getD_eq_getElem?_getD, List.getElem?_eq_getElem z2_]
 rfl
end Go.Proofs.Ytcbfliajgopdaaa.Plain
end
