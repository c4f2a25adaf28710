-- Put together by a program of this session (wip/slice2.py) out of the seat's texts.
import Derived.Test.YtcbfliajgopdaaaZSUp1

set_option maxHeartbeats 8000000
set_option maxRecDepth 100000
open Go.Proofs.YtcbfliajgopdaaaW Go.Proofs.Ytcbfliajgopdaaa
section
namespace Go.Proofs.Ytcbfliajgopdaaa.PAll
open Go.RowKit PrintWords PrintLast PrintMore ZipT PrintWords.Kd PrintMore.Kd
attribute [local go_sem] eC eA eN eR dR dP eD eB   -- for this text's walks alone
set_option linter.unusedVariables false
set_option linter.unusedSimpArgs false
mutual
def bO.j0 : Nat → List Int → Int → Bool → Option (Int × Int × Int)
 | 0, _, _, _ => none
 | k + 1, x0, x1, x15 => if x15 = true then (some (0, 0, 1)) else (if (wrap64 ((x0.length : Int) - x1)) < 9 then (bO.j1 k x0 x1 true) else (if 0 ≤ x1 then (if x1 < (x0.length : Int) then (bO.j1 k x0 x1 (decide ((rd x0 x1) > 1))) else (none)) else (none)))
def bO.j1 : Nat → List Int → Int → Bool → Option (Int × Int × Int)
 | 0, _, _, _ => none
 | k + 1, x0, x1, x27 => if x27 = true then (some (0, 0, 3)) else (if 0 ≤ (wrap64 (x1 + 1)) then (if (wrap64 (x1 + 1)) ≤ (wrap64 (x1 + 9)) then (if (wrap64 (x1 + 9)) ≤ (x0.length : Int) then ((dU.f k ((x0.take ((wrap64 (x1 + 9)) : Int).toNat).drop ((wrap64 (x1 + 1)) : Int).toNat)).bind fun t212 => (if t212 > 1152921504606846976 then (bO.j2 k x0 x1 t212 true) else (if 0 ≤ x1 then (if x1 < (x0.length : Int) then (if (rd x0 x1) = 1 then (bO.j2 k x0 x1 t212 (t212 == 0)) else (bO.j2 k x0 x1 t212 false)) else (none)) else (none)))) else (none)) else (none)) else (none))
def bO.j2 : Nat → List Int → Int → Int → Bool → Option (Int × Int × Int)
 | 0, _, _, _, _ => none
 | k + 1, x0, x1, x7, x35 => if x35 = true then (some (0, 0, 3)) else (if 0 ≤ x1 then (if x1 < (x0.length : Int) then (if (rd x0 x1) = 1 then (some (wrap64 (-(wrap64 (x7))), wrap64 (x1 + 9), 0)) else (some (wrap64 (x7), wrap64 (x1 + 9), 0))) else (none)) else (none))
end
def bO.f (k : Nat) (l0 : List Int) (a1 : Int) : Option (Int × Int × Int) := if a1 < 0 then (bO.j0 k l0 a1 true) else (bO.j0 k l0 a1 (decide (a1 > (l0.length : Int))))
theorem bO.calls (k : Nat) (A0 : Option Addr) (c0 : Nat) (l0 : List Int) (a1 : Int) (r1 : Int) (r2 : Int) (r3 : Int) (w : World) (hr0 : Kd.C (Kd.int .u8) w A0 l0.length l0) (hc0 : l0.length ≤ c0) (h : bO.f k l0 a1 = some (r1, r2, r3)) :
  Calls Try.prog 107 #[.slice A0 l0.length c0, .int .i64 a1] w fun e w' => e = .returned (.tuple #[.int .i64 r1, .int .i64 r2, .int .i64 r3]) ∧ Drawn0 w w' := by
 have HR0 := mk_ hr0
 have HC0 := mk_ hc0
 clear hr0 hc0
 have H : (if a1 < 0 then (bO.j0 k l0 a1 true) else (bO.j0 k l0 a1 (decide (a1 > (l0.length : Int))))) = some (r1, r2, r3) := h
 clear h
 have HC3 := mk_ H
 clear H
 go_enter Try.func107, Try.ntmps107
 go_upto_region 1 with (fail)
 go_cut [15] (fun v15 wc => ∃ (kq : Nat) (x15_2 : Bool), v15 = .bool x15_2 ∧ Aside0 (bO.j0 kq l0 a1 x15_2 = some (r1, r2, r3)) ∧ Aside0 (kq ≤ k) ∧ Drawn0 w wc)
 case first =>
  have H := HC3.out
  clear HC3
  by_cases c4 : a1 < 0
  ·
   rw [if_pos c4] at H
   have c4b0 : decide (a1 < 0) = true := decide_eq_true c4
   clear c4
   (first | rw [c4b0] | (simp only [i64_w, i32_w]; rw [c4b0]) | skip)
   have H' := mk_ H
   clear H
   go_wp2
   go_meet
   case rel => exact ⟨_, (true), z3_, H', ⟨by first | omega | exact Nat.le_refl _⟩, by repeat (first | exact Drawn0.refl _ | apply Drawn0.step)⟩
  rw [if_neg c4] at H
  have c4b0 : decide (a1 < 0) = false := decide_eq_false c4
  clear c4
  (first | rw [c4b0] | (simp only [i64_w, i32_w]; rw [c4b0]) | skip)
  have H' := mk_ H
  clear H
  go_wp2
  go_meet
  case rel => exact ⟨_, (decide (a1 > (l0.length : Int))), z3_, H', ⟨by first | omega | exact Nat.le_refl _⟩, by repeat (first | exact Drawn0.refl _ | apply Drawn0.step)⟩
 case rest => as_aux_lemma =>
  clear HC3
  obtain ⟨kq, x15_2, rfl, HA, HJ2, ⟨mc2, rfl⟩⟩ := hcut
  cases kq with
  | zero => exact absurd HA.out (by simp [bO.j0])
  | succ kj2 =>
   have H := HA.out
   clear HA
   simp only [bO.j0] at H
   by_cases c5 : x15_2 = true
   ·
    subst c5
    rw [if_pos rfl] at H
    simp only [Option.some.injEq, Prod.mk.injEq] at H
    obtain ⟨rfl, rfl, rfl⟩ := H
    go_wp2
    go_ret3
    exact ⟨z3_, by repeat (first | exact Drawn0.refl _ | apply Drawn0.step)⟩
   ·
    replace c5 := Bool.eq_false_iff.mpr c5
    subst c5
    rw [if_neg (show ¬ (false = true) by decide)] at H
    have HC6 := mk_ H
    clear H
    go_upto_region 3 with (fail)
    go_cut [27] (fun v27 wc => ∃ (kq : Nat) (x27_5 : Bool), v27 = .bool x27_5 ∧ Aside0 (bO.j1 kq l0 a1 x27_5 = some (r1, r2, r3)) ∧ Aside0 (kq ≤ kj2) ∧ Drawn0 w wc)
    case first =>
     have H := HC6.out
     clear HC6
     by_cases c7 : (wrap64 ((l0.length : Int) - a1)) < 9
     ·
      rw [if_pos c7] at H
      have c7b0 : decide ((wrap64 ((l0.length : Int) - a1)) < 9) = true := decide_eq_true c7
      clear c7
      (first | rw [c7b0] | (simp only [i64_w, i32_w]; rw [c7b0]) | skip)
      have H' := mk_ H
      clear H
      go_wp2
      go_meet
      case rel => exact ⟨_, (true), z3_, H', ⟨by have := HJ2.out; first | omega | exact Nat.le_refl _⟩, by repeat (first | exact Drawn0.refl _ | apply Drawn0.step)⟩
     ·
      rw [if_neg c7] at H
      have c7b0 : decide ((wrap64 ((l0.length : Int) - a1)) < 9) = false := decide_eq_false c7
      clear c7
      (first | rw [c7b0] | (simp only [i64_w, i32_w]; rw [c7b0]) | skip)
      by_cases c8 : 0 ≤ a1
      ·
       rw [if_pos c8] at H
       have c8b0 : decide (0 ≤ a1) = true := decide_eq_true c8
       clear c8
       by_cases c9 : a1 < (l0.length : Int)
       ·
        rw [if_pos c9] at H
        have c9b0 : decide (a1 < (l0.length : Int)) = true := decide_eq_true c9
        clear c9
        have H' := mk_ H
        clear H
        have p210 : 0 ≤ (a1 : Int) := of_decide_eq_true z0_
        have q210 : a1 < (l0.length : Int) := of_decide_eq_true z0_
        obtain ⟨ad210, e210, hx210_0⟩ := Kd.at_int HR0.out a1 p210 q210
        cases e210
        replace p210 := eq_true p210
        replace q210 := eq_true q210
        go_wp2
        go_meet
        case rel => exact ⟨_, (decide ((rd l0 a1) > 1)), z3_, H', ⟨by have := HJ2.out; first | omega | exact Nat.le_refl _⟩, by repeat (first | exact Drawn0.refl _ | apply Drawn0.step)⟩
       ·
        rw [if_neg c9] at H
        exact absurd H (by simp)
      ·
       rw [if_neg c8] at H
       exact absurd H (by simp)
    case rest => as_aux_lemma =>
     clear HC6
     try clear c5
     obtain ⟨kq, x27_5, rfl, HA, HJ5, ⟨mc5, rfl⟩⟩ := hcut
     cases kq with
     | zero => exact absurd HA.out (by simp [bO.j1])
     | succ kj5 =>
      have H := HA.out
      clear HA
      simp only [bO.j1] at H
      by_cases c10 : x27_5 = true
      ·
       subst c10
       rw [if_pos rfl] at H
       simp only [Option.some.injEq, Prod.mk.injEq] at H
       obtain ⟨rfl, rfl, rfl⟩ := H
       go_wp2
       go_ret3
       exact ⟨z3_, by repeat (first | exact Drawn0.refl _ | apply Drawn0.step)⟩
      ·
       replace c10 := Bool.eq_false_iff.mpr c10
       subst c10
       rw [if_neg (show ¬ (false = true) by decide)] at H
       obtain ⟨ji11, hji11⟩ : ∃ j_ : Int, (wrap64 (a1 + 1)) = j_ := ⟨_, rfl⟩
       replace H : (if 0 ≤ (ji11) then (if (ji11) ≤ (wrap64 (a1 + 9)) then (if (wrap64 (a1 + 9)) ≤ (l0.length : Int) then ((dU.f kj5 ((l0.take ((wrap64 (a1 + 9)) : Int).toNat).drop ((ji11) : Int).toNat)).bind fun t212 => (if t212 > 1152921504606846976 then (bO.j2 kj5 l0 a1 t212 true) else (if 0 ≤ a1 then (if a1 < (l0.length : Int) then (if (rd l0 a1) = 1 then (bO.j2 kj5 l0 a1 t212 (t212 == 0)) else (bO.j2 kj5 l0 a1 t212 false)) else (none)) else (none)))) else (none)) else (none)) else (none)) = some (r1, r2, r3) := by first | (rw [hji11] at H; exact H) | (simp only [hji11] at H ⊢; exact H)
       have hji11w : (IntKind.i64.wrap (a1 + 1)) = ji11 := (i64_w _).trans hji11
       by_cases c12 : 0 ≤ (ji11)
       ·
        rw [if_pos c12] at H
        have c12b0 := eq_true c12
        have c12b1 : decide (0 ≤ (ji11)) = true := decide_eq_true c12
        clear c12
        by_cases c13 : (ji11) ≤ (wrap64 (a1 + 9))
        ·
         rw [if_pos c13] at H
         have c13b0 := eq_true c13
         have c13b1 : decide ((ji11) ≤ (wrap64 (a1 + 9))) = true := decide_eq_true c13
         by_cases c14 : (wrap64 (a1 + 9)) ≤ (l0.length : Int)
         ·
          rw [if_pos c14] at H
          have c14b0 := eq_true c14
          have c14b1 : decide ((wrap64 (a1 + 9)) ≤ (l0.length : Int)) = true := decide_eq_true c14
          obtain ⟨t212, A15, H⟩ := Option.bind_eq_some_iff.mp H
          replace A15 := mk_ A15
          have HC16 := mk_ H
          clear H
          obtain ⟨i017, hi017, _, hsz17, _⟩ := info_parts info5
          obtain ⟨A17, hcut17, hA17, hC17⟩ := iL (P := Try.prog) (Value.int .u8) 0 22 5 .i64 .i64 Try.underlying22 hi017 hsz17 A0 c0 l0 (ji11) (wrap64 (a1 + 9)) (of_decide_eq_true z0_) (by first | omega | exact of_decide_eq_true z0_) (of_decide_eq_true z0_) HC0.out
          have HR211 := mk_ (jV (h1 := fun _ => rfl) (hA17 _ (Kd.reads_of_C HR0.out)))
          have HC211 := mk_ hC17
          clear hA17 hC17 hi017 hsz17
          go_upto_region 6 with (first | ((with_reducible refine aT (f := 95) rfl ?_); refine iN (some 34) rfl rfl Try.func95 z1_ rfl #[.slice A17 ((l0.take ((wrap64 (a1 + 9)) : Int).toNat).drop ((ji11) : Int).toNat).length (c0 - (ji11).toNat)] rfl (by (try simp only [List.map_toArray, List.map_cons, List.map_nil]); first | done | (rw [show ((l0.take ((wrap64 (a1 + 9)) : Int).toNat).drop ((ji11) : Int).toNat).length = ((wrap64 (a1 + 9)).toNat - (ji11).toNat) from (by rw [List.length_drop, List.length_take]; have h_ : ((wrap64 (a1 + 9)) : Int) ≤ (l0.length : Int) := of_decide_eq_true z0_; omega)] <;> rfl) | (simp only [hji11]; rfl) | rfl | (simp only [List.length_drop, List.length_take]; rfl) | (go_simp; done) | (simp; done)) ?_; (with_reducible refine (dU.calls kj5 _ _ ((l0.take ((wrap64 (a1 + 9)) : Int).toNat).drop ((ji11) : Int).toNat) t212 _ ?side1 ?side2 A15.out).mono ?_); (case side1 => repeat (first | exact HR211.out | (with_reducible refine C_alloc ?_ _) | (with_reducible refine C_drewN ?_ _) | (with_reducible refine C_drew ?_))); (case side2 => exact HC211.out); rintro e w' ⟨rfl, ⟨nd, rfl⟩⟩; refine ⟨_, rfl, ?_⟩))
          (try simp only [Act.put, List.setIfInBounds_toArray, List.set_cons_zero, List.set_cons_succ])
          go_cut [35] (fun v35 wc => ∃ (kq : Nat) (x35_15 : Bool), v35 = .bool x35_15 ∧ Aside0 (bO.j2 kq l0 a1 t212 x35_15 = some (r1, r2, r3)) ∧ Aside0 (kq ≤ kj5) ∧ Drawn0 w wc)
          case first =>
           have H := HC16.out
           clear HC16
           by_cases c18 : t212 > 1152921504606846976
           ·
            rw [if_pos c18] at H
            have c18b0 : decide (1152921504606846976 < t212) = true := decide_eq_true c18
            clear c18
            (first | rw [c18b0] | (simp only [i64_w, i32_w]; rw [c18b0]) | skip)
            have H' := mk_ H
            clear H
            go_wp2
            go_meet
            case rel => exact ⟨_, (true), z3_, H', ⟨by have := HJ2.out; have := HJ5.out; first | omega | exact Nat.le_refl _⟩, by repeat (first | exact Drawn0.refl _ | apply Drawn0.step)⟩
           ·
            rw [if_neg c18] at H
            have c18b0 : decide (1152921504606846976 < t212) = false := decide_eq_false c18
            clear c18
            (first | rw [c18b0] | (simp only [i64_w, i32_w]; rw [c18b0]) | skip)
            by_cases c19 : 0 ≤ a1
            ·
             rw [if_pos c19] at H
             have c19b0 : decide (0 ≤ a1) = true := decide_eq_true c19
             clear c19
             by_cases c20 : a1 < (l0.length : Int)
             ·
              rw [if_pos c20] at H
              have c20b0 : decide (a1 < (l0.length : Int)) = true := decide_eq_true c20
              clear c20
              by_cases c21 : (rd l0 a1) = 1
              ·
               rw [if_pos c21] at H
               have c21b0 : ((rd l0 a1) == 1) = true := beq_iff_eq.mpr c21
               have c21b1 : ((rd l0 a1) != 1) = false := bne_eq_false_iff_eq.mpr c21
               clear c21
               have H' := mk_ H
               clear H
               have p213 : 0 ≤ (a1 : Int) := of_decide_eq_true z0_
               have q213 : a1 < (l0.length : Int) := of_decide_eq_true z0_
               obtain ⟨ad213, e213, hx213_0⟩ := Kd.at_int HR0.out a1 p213 q213
               cases e213
               replace p213 := eq_true p213
               replace q213 := eq_true q213
               go_wp2
               go_meet
               case rel => exact ⟨_, ((t212 == 0)), z3_, H', ⟨by have := HJ2.out; have := HJ5.out; first | omega | exact Nat.le_refl _⟩, by repeat (first | exact Drawn0.refl _ | apply Drawn0.step)⟩
              ·
               rw [if_neg c21] at H
               have c21b0 : ((rd l0 a1) == 1) = false := beq_eq_false_iff_ne.mpr c21
               have c21b1 : ((rd l0 a1) != 1) = true := bne_iff_ne.mpr c21
               have H' := mk_ H
               clear H
               have p213 : 0 ≤ (a1 : Int) := of_decide_eq_true z0_
               have q213 : a1 < (l0.length : Int) := of_decide_eq_true z0_
               obtain ⟨ad213, e213, hx213_0⟩ := Kd.at_int HR0.out a1 p213 q213
               cases e213
               replace p213 := eq_true p213
               replace q213 := eq_true q213
               go_wp2
               go_meet
               case rel => exact ⟨_, (false), z3_, H', ⟨by have := HJ2.out; have := HJ5.out; first | omega | exact Nat.le_refl _⟩, by repeat (first | exact Drawn0.refl _ | apply Drawn0.step)⟩
             ·
              rw [if_neg c20] at H
              exact absurd H (by simp)
            ·
             rw [if_neg c19] at H
             exact absurd H (by simp)
          case rest => as_aux_lemma =>
           clear HC16
           try clear c10
           try clear c12
           try clear c12b0
           try clear c12b1
           try clear c13
           try clear c13b0
           try clear c13b1
           try clear c14
           try clear c14b0
           try clear c14b1
           obtain ⟨kq, x35_15, rfl, HA, HJ15, ⟨mc15, rfl⟩⟩ := hcut
           cases kq with
           | zero => exact absurd HA.out (by simp [bO.j2])
           | succ kj15 =>
            have H := HA.out
            clear HA
            simp only [bO.j2] at H
            by_cases c22 : x35_15 = true
            ·
             subst c22
             rw [if_pos rfl] at H
             simp only [Option.some.injEq, Prod.mk.injEq] at H
             obtain ⟨rfl, rfl, rfl⟩ := H
             go_wp2
             go_ret3
             exact ⟨by first | rfl | (simp; done) | (simp only [← hji11] <;> (first | rfl | simp)) | (simp [*]; done), by repeat (first | exact Drawn0.refl _ | apply Drawn0.step)⟩
            ·
             replace c22 := Bool.eq_false_iff.mpr c22
             subst c22
             rw [if_neg (show ¬ (false = true) by decide)] at H
             by_cases c23 : 0 ≤ a1
             ·
              rw [if_pos c23] at H
              have c23b0 : decide (0 ≤ a1) = true := decide_eq_true c23
              clear c23
              by_cases c24 : a1 < (l0.length : Int)
              ·
               rw [if_pos c24] at H
               have c24b0 : decide (a1 < (l0.length : Int)) = true := decide_eq_true c24
               clear c24
               by_cases c25 : (rd l0 a1) = 1
               ·
                rw [if_pos c25] at H
                have c25b0 : ((rd l0 a1) == 1) = true := beq_iff_eq.mpr c25
                have c25b1 : ((rd l0 a1) != 1) = false := bne_eq_false_iff_eq.mpr c25
                clear c25
                simp only [Option.some.injEq, Prod.mk.injEq] at H
                obtain ⟨rfl, rfl, rfl⟩ := H
                have p214 : 0 ≤ (a1 : Int) := of_decide_eq_true z0_
                have q214 : a1 < (l0.length : Int) := of_decide_eq_true z0_
                obtain ⟨ad214, e214, hx214_0⟩ := Kd.at_int HR0.out a1 p214 q214
                cases e214
                replace p214 := eq_true p214
                replace q214 := eq_true q214
                go_wp2
                go_ret3
                exact ⟨by first | rfl | (simp; done) | (simp only [← hji11] <;> (first | rfl | simp)) | (simp [*]; done), by repeat (first | exact Drawn0.refl _ | apply Drawn0.step)⟩
               ·
                rw [if_neg c25] at H
                have c25b0 : ((rd l0 a1) == 1) = false := beq_eq_false_iff_ne.mpr c25
                have c25b1 : ((rd l0 a1) != 1) = true := bne_iff_ne.mpr c25
                simp only [Option.some.injEq, Prod.mk.injEq] at H
                obtain ⟨rfl, rfl, rfl⟩ := H
                have p214 : 0 ≤ (a1 : Int) := of_decide_eq_true z0_
                have q214 : a1 < (l0.length : Int) := of_decide_eq_true z0_
                obtain ⟨ad214, e214, hx214_0⟩ := Kd.at_int HR0.out a1 p214 q214
                cases e214
                replace p214 := eq_true p214
                replace q214 := eq_true q214
                go_wp2
                go_ret3
                exact ⟨by first | rfl | (simp; done) | (simp only [← hji11] <;> (first | rfl | simp)) | (simp [*]; done), by repeat (first | exact Drawn0.refl _ | apply Drawn0.step)⟩
              ·
               rw [if_neg c24] at H
               exact absurd H (by simp)
             ·
              rw [if_neg c23] at H
              exact absurd H (by simp)
         ·
          rw [if_neg c14] at H
          exact absurd H (by simp)
        ·
         rw [if_neg c13] at H
         exact absurd H (by simp)
       ·
        rw [if_neg c12] at H
        exact absurd H (by simp)
def value_Read.f (k : Nat) (l0 : List Int) (a1 : Int) : Option (Int × Int × ByteArray × Int × Int) := (wire_Get.f k l0 a1 1).bind fun bt216 => (if bt216.2.2 = 0 then (if bt216.1 = 2 then ((wire_Get.f k l0 bt216.2.1 1).bind fun bt219 => (if bt219.2.2 = 0 then ((bX.f bt216.1 bt219.1 (⟨#[]⟩ : ByteArray)).bind fun t222 => (if t222 = 0 then (some (bt216.1, bt219.1, (⟨#[]⟩ : ByteArray), bt219.2.1, 0)) else (some (0, 0, (⟨#[]⟩ : ByteArray), 0, 3)))) else (some (0, 0, (⟨#[]⟩ : ByteArray), 0, 3)))) else (if bt216.1 = 3 then ((bO.f k l0 bt216.2.1).bind fun bt223 => (if bt223.2.2 = 0 then ((bX.f bt216.1 bt223.1 (⟨#[]⟩ : ByteArray)).bind fun t226 => (if t226 = 0 then (some (bt216.1, bt223.1, (⟨#[]⟩ : ByteArray), bt223.2.1, 0)) else (some (0, 0, (⟨#[]⟩ : ByteArray), 0, 3)))) else (some (0, 0, (⟨#[]⟩ : ByteArray), 0, 3)))) else (if bt216.1 = 4 then ((wire_GetText.f k l0 bt216.2.1).bind fun bt227 => (if bt227.2.2 = 0 then ((bX.f bt216.1 0 bt227.1).bind fun t230 => (if t230 = 0 then (some (bt216.1, 0, bt227.1, bt227.2.1, 0)) else (some (0, 0, (⟨#[]⟩ : ByteArray), 0, 3)))) else (some (0, 0, (⟨#[]⟩ : ByteArray), 0, 3)))) else ((bX.f bt216.1 0 (⟨#[]⟩ : ByteArray)).bind fun t231 => (if t231 = 0 then (some (bt216.1, 0, (⟨#[]⟩ : ByteArray), bt216.2.1, 0)) else (some (0, 0, (⟨#[]⟩ : ByteArray), 0, 3))))))) else (some (0, 0, (⟨#[]⟩ : ByteArray), 0, bt216.2.2)))
theorem value_Read.calls (k : Nat) (A0 : Option Addr) (c0 : Nat) (l0 : List Int) (a1 : Int) (r1 : Int) (r2 : Int) (r3 : ByteArray) (r4 : Int) (r5 : Int) (w : World) (hr0 : Kd.C (Kd.int .u8) w A0 l0.length l0) (hc0 : l0.length ≤ c0) (h : value_Read.f k l0 a1 = some (r1, r2, r3, r4, r5)) :
  Calls Try.prog 97 #[.slice A0 l0.length c0, .int .i64 a1] w fun e w' => e = .returned (.tuple #[.agg #[.int .i64 r1, .int .i64 r2, .string r3], .int .i64 r4, .int .i64 r5]) ∧ Below w.heap.size w w' := by
 have hu89 := Try.underlying89
 have HR0 := mk_ hr0
 have HC0 := mk_ hc0
 clear hr0 hc0
 have HB := mk_ (Below.refl w.heap.size w)
 have H : ((wire_Get.f k l0 a1 1).bind fun bt216 => (if bt216.2.2 = 0 then (if bt216.1 = 2 then ((wire_Get.f k l0 bt216.2.1 1).bind fun bt219 => (if bt219.2.2 = 0 then ((bX.f bt216.1 bt219.1 (⟨#[]⟩ : ByteArray)).bind fun t222 => (if t222 = 0 then (some (bt216.1, bt219.1, (⟨#[]⟩ : ByteArray), bt219.2.1, 0)) else (some (0, 0, (⟨#[]⟩ : ByteArray), 0, 3)))) else (some (0, 0, (⟨#[]⟩ : ByteArray), 0, 3)))) else (if bt216.1 = 3 then ((bO.f k l0 bt216.2.1).bind fun bt223 => (if bt223.2.2 = 0 then ((bX.f bt216.1 bt223.1 (⟨#[]⟩ : ByteArray)).bind fun t226 => (if t226 = 0 then (some (bt216.1, bt223.1, (⟨#[]⟩ : ByteArray), bt223.2.1, 0)) else (some (0, 0, (⟨#[]⟩ : ByteArray), 0, 3)))) else (some (0, 0, (⟨#[]⟩ : ByteArray), 0, 3)))) else (if bt216.1 = 4 then ((wire_GetText.f k l0 bt216.2.1).bind fun bt227 => (if bt227.2.2 = 0 then ((bX.f bt216.1 0 bt227.1).bind fun t230 => (if t230 = 0 then (some (bt216.1, 0, bt227.1, bt227.2.1, 0)) else (some (0, 0, (⟨#[]⟩ : ByteArray), 0, 3)))) else (some (0, 0, (⟨#[]⟩ : ByteArray), 0, 3)))) else ((bX.f bt216.1 0 (⟨#[]⟩ : ByteArray)).bind fun t231 => (if t231 = 0 then (some (bt216.1, 0, (⟨#[]⟩ : ByteArray), bt216.2.1, 0)) else (some (0, 0, (⟨#[]⟩ : ByteArray), 0, 3))))))) else (some (0, 0, (⟨#[]⟩ : ByteArray), 0, bt216.2.2)))) = some (r1, r2, r3, r4, r5) := h
 clear h
 obtain ⟨⟨t216, t217, t218⟩, A3, H⟩ := Option.bind_eq_some_iff.mp H
 try dsimp only at H
 replace A3 := mk_ A3
 by_cases c4 : t218 = 0
 rotate_left
 rw [if_neg c4] at H
 have c4b0 : (t218 == 0) = false := beq_eq_false_iff_ne.mpr c4
 have c4b1 : (t218 != 0) = true := bne_iff_ne.mpr c4
 simp only [Option.some.injEq, Prod.mk.injEq] at H
 obtain ⟨rfl, rfl, rfl, rfl, rfl⟩ := H
 rotate_right
 rw [if_pos c4] at H
 have c4b0 : (t218 == 0) = true := beq_iff_eq.mpr c4
 have c4b1 : (t218 != 0) = false := bne_eq_false_iff_eq.mpr c4
 clear c4
 by_cases c5 : t216 = 2
 rotate_left
 rw [if_neg c5] at H
 have c5b0 : (t216 == 2) = false := beq_eq_false_iff_ne.mpr c5
 have c5b1 : (t216 != 2) = true := bne_iff_ne.mpr c5
 by_cases c20 : t216 = 3
 rotate_left
 rw [if_neg c20] at H
 have c20b0 : (t216 == 3) = false := beq_eq_false_iff_ne.mpr c20
 have c20b1 : (t216 != 3) = true := bne_iff_ne.mpr c20
 by_cases c35 : t216 = 4
 rotate_left
 rw [if_neg c35] at H
 have c35b0 : (t216 == 4) = false := beq_eq_false_iff_ne.mpr c35
 have c35b1 : (t216 != 4) = true := bne_iff_ne.mpr c35
 obtain ⟨t231, A50, H⟩ := Option.bind_eq_some_iff.mp H
 replace A50 := mk_ A50
 by_cases c51 : t231 = 0
 rotate_left
 rw [if_neg c51] at H
 have c51b0 : (t231 == 0) = false := beq_eq_false_iff_ne.mpr c51
 have c51b1 : (t231 != 0) = true := bne_iff_ne.mpr c51
 simp only [Option.some.injEq, Prod.mk.injEq] at H
 obtain ⟨rfl, rfl, rfl, rfl, rfl⟩ := H
 rotate_right
 rw [if_pos c51] at H
 have c51b0 : (t231 == 0) = true := beq_iff_eq.mpr c51
 have c51b1 : (t231 != 0) = false := bne_eq_false_iff_eq.mpr c51
 clear c51
 simp only [Option.some.injEq, Prod.mk.injEq] at H
 obtain ⟨rfl, rfl, rfl, rfl, rfl⟩ := H
 rotate_right
 rw [if_pos c35] at H
 have c35b0 : (t216 == 4) = true := beq_iff_eq.mpr c35
 have c35b1 : (t216 != 4) = false := bne_eq_false_iff_eq.mpr c35
 clear c35
 obtain ⟨⟨t227, t228, t229⟩, A36, H⟩ := Option.bind_eq_some_iff.mp H
 try dsimp only at H
 replace A36 := mk_ A36
 by_cases c37 : t229 = 0
 rotate_left
 rw [if_neg c37] at H
 have c37b0 : (t229 == 0) = false := beq_eq_false_iff_ne.mpr c37
 have c37b1 : (t229 != 0) = true := bne_iff_ne.mpr c37
 simp only [Option.some.injEq, Prod.mk.injEq] at H
 obtain ⟨rfl, rfl, rfl, rfl, rfl⟩ := H
 rotate_right
 rw [if_pos c37] at H
 have c37b0 : (t229 == 0) = true := beq_iff_eq.mpr c37
 have c37b1 : (t229 != 0) = false := bne_eq_false_iff_eq.mpr c37
 clear c37
 obtain ⟨t230, A38, H⟩ := Option.bind_eq_some_iff.mp H
 replace A38 := mk_ A38
 by_cases c39 : t230 = 0
 rotate_left
 rw [if_neg c39] at H
 have c39b0 : (t230 == 0) = false := beq_eq_false_iff_ne.mpr c39
 have c39b1 : (t230 != 0) = true := bne_iff_ne.mpr c39
 simp only [Option.some.injEq, Prod.mk.injEq] at H
 obtain ⟨rfl, rfl, rfl, rfl, rfl⟩ := H
 rotate_right
 rw [if_pos c39] at H
 have c39b0 : (t230 == 0) = true := beq_iff_eq.mpr c39
 have c39b1 : (t230 != 0) = false := bne_eq_false_iff_eq.mpr c39
 clear c39
 simp only [Option.some.injEq, Prod.mk.injEq] at H
 obtain ⟨rfl, rfl, rfl, rfl, rfl⟩ := H
 rotate_right
 rw [if_pos c20] at H
 have c20b0 : (t216 == 3) = true := beq_iff_eq.mpr c20
 have c20b1 : (t216 != 3) = false := bne_eq_false_iff_eq.mpr c20
 clear c20
 obtain ⟨⟨t223, t224, t225⟩, A21, H⟩ := Option.bind_eq_some_iff.mp H
 try dsimp only at H
 replace A21 := mk_ A21
 by_cases c22 : t225 = 0
 rotate_left
 rw [if_neg c22] at H
 have c22b0 : (t225 == 0) = false := beq_eq_false_iff_ne.mpr c22
 have c22b1 : (t225 != 0) = true := bne_iff_ne.mpr c22
 simp only [Option.some.injEq, Prod.mk.injEq] at H
 obtain ⟨rfl, rfl, rfl, rfl, rfl⟩ := H
 rotate_right
 rw [if_pos c22] at H
 have c22b0 : (t225 == 0) = true := beq_iff_eq.mpr c22
 have c22b1 : (t225 != 0) = false := bne_eq_false_iff_eq.mpr c22
 clear c22
 obtain ⟨t226, A23, H⟩ := Option.bind_eq_some_iff.mp H
 replace A23 := mk_ A23
 by_cases c24 : t226 = 0
 rotate_left
 rw [if_neg c24] at H
 have c24b0 : (t226 == 0) = false := beq_eq_false_iff_ne.mpr c24
 have c24b1 : (t226 != 0) = true := bne_iff_ne.mpr c24
 simp only [Option.some.injEq, Prod.mk.injEq] at H
 obtain ⟨rfl, rfl, rfl, rfl, rfl⟩ := H
 rotate_right
 rw [if_pos c24] at H
 have c24b0 : (t226 == 0) = true := beq_iff_eq.mpr c24
 have c24b1 : (t226 != 0) = false := bne_eq_false_iff_eq.mpr c24
 clear c24
 simp only [Option.some.injEq, Prod.mk.injEq] at H
 obtain ⟨rfl, rfl, rfl, rfl, rfl⟩ := H
 rotate_right
 rw [if_pos c5] at H
 have c5b0 : (t216 == 2) = true := beq_iff_eq.mpr c5
 have c5b1 : (t216 != 2) = false := bne_eq_false_iff_eq.mpr c5
 clear c5
 obtain ⟨⟨t219, t220, t221⟩, A6, H⟩ := Option.bind_eq_some_iff.mp H
 try dsimp only at H
 replace A6 := mk_ A6
 by_cases c7 : t221 = 0
 rotate_left
 rw [if_neg c7] at H
 have c7b0 : (t221 == 0) = false := beq_eq_false_iff_ne.mpr c7
 have c7b1 : (t221 != 0) = true := bne_iff_ne.mpr c7
 simp only [Option.some.injEq, Prod.mk.injEq] at H
 obtain ⟨rfl, rfl, rfl, rfl, rfl⟩ := H
 rotate_right
 rw [if_pos c7] at H
 have c7b0 : (t221 == 0) = true := beq_iff_eq.mpr c7
 have c7b1 : (t221 != 0) = false := bne_eq_false_iff_eq.mpr c7
 clear c7
 obtain ⟨t222, A8, H⟩ := Option.bind_eq_some_iff.mp H
 replace A8 := mk_ A8
 by_cases c9 : t222 = 0
 rotate_left
 rw [if_neg c9] at H
 have c9b0 : (t222 == 0) = false := beq_eq_false_iff_ne.mpr c9
 have c9b1 : (t222 != 0) = true := bne_iff_ne.mpr c9
 simp only [Option.some.injEq, Prod.mk.injEq] at H
 obtain ⟨rfl, rfl, rfl, rfl, rfl⟩ := H
 rotate_right
 rw [if_pos c9] at H
 have c9b0 : (t222 == 0) = true := beq_iff_eq.mpr c9
 have c9b1 : (t222 != 0) = false := bne_eq_false_iff_eq.mpr c9
 clear c9
 simp only [Option.some.injEq, Prod.mk.injEq] at H
 obtain ⟨rfl, rfl, rfl, rfl, rfl⟩ := H
 all_goals
  go_enter Try.func97, Try.ntmps97
  go_wp2_with (first | ((with_reducible refine bP (N := 4) rfl ?_); refine bL ?hg (N := 4) ?hd (cs := #[.int .i64 0, .int .i64 0, .string (⟨#[]⟩ : ByteArray)]) (t := 89) ?hr ?_; (case hd => rfl); (case hg => rfl); (case hr => first | (go_simp; done) | (go_simp; rfl)); intro gb215 hg w_4 hbox hb; have n0_ := mk_ (aI (Short.hB HB) hb); have n1_ := mk_ (hbox); have n2_ := mk_ ((by rw [hg]; exact (aN (Short.hB HB)) : w.heap.size ≤ gb215)); have n3_ := mk_ ((by rw [hg]; exact (aN (Short.hB HB)) : w.heap.size ≤ gb215)); clear HB; revert n0_ n1_ n2_ n3_; intro HB BK215 GW215 GE215; clear hb hbox hg) | ((with_reducible refine aT (f := 72) rfl ?_); refine Short.gL (some 11) Try.func72 #[.slice A0 l0.length c0, .int .i64 a1, .int .i64 1] (h := ?_); (with_reducible refine (wire_Get.calls k _ _ l0 a1 1 t216 t217 t218 _ ?side1 ?side2 A3.out).mono ?_); (case side1 => exact cX_ (aV HR0.out HB.out)); (case side2 => exact HC0.out); rintro e w' ⟨rfl, ⟨nd, rfl⟩⟩; refine ⟨_, rfl, ?_⟩; (try (rw [eE w_4]; generalize hq_ : World.drewN w_4 _ = w_4; have n0_ : Aside0 (w_4.heap[gb215]? = some (.cells #[.int .i64 0, .int .i64 0, .string (⟨#[]⟩ : ByteArray)] 89 (0, 0))) := ⟨by rw [← hq_]; exact (Short.bK BK215)⟩; have n1_ : Aside0 (Below w.heap.size w w_4) := ⟨by rw [← hq_]; exact (Short.hB HB)⟩; clear BK215 HB hq_; revert n0_ n1_; intro BK215 HB)); obtain ⟨hcz_0, hcz_1, hcz_2, hfz_0, hfz_1, hfz_2⟩ := Short.c3 BK215.out) | (go_at_call 108; (with_reducible refine (bX.calls t216 0 (⟨#[]⟩ : ByteArray) t231 _ A50.out).mono ?_); rintro e w_x2 ⟨rfl, hb⟩; have n0_ := mk_ (dB (g := gb215) (o := .cells #[.int .i64 t216, .int .i64 0, .string (⟨#[]⟩ : ByteArray)] 89 (0, 0)) (by (with_reducible repeat (first | refine aG ?_ _ | refine aJ ?_ | refine aE ?_ _)); refine bJ (cs := #[.int .i64 0, .int .i64 0, .string (⟨#[]⟩ : ByteArray)]) ?_ 0 _ rfl; (with_reducible repeat (first | refine aG ?_ _ | refine aJ ?_ | refine aE ?_ _)); exact BK215.out) hb); have n1_ := mk_ (aI (Short.hB HB) hb); clear BK215 HB; revert n0_ n1_; intro BK215 HB; (try clear hb); (try clear hb2); (try clear hk); (try clear hi); obtain ⟨hcz_0, hcz_1, hcz_2, hfz_0, hfz_1, hfz_2⟩ := Short.c3 BK215.out) | ((with_reducible refine aT (f := 96) rfl ?_); refine Short.gL (some 47) Try.func96 #[.slice A0 l0.length c0, .int .i64 t217] (h := ?_); (with_reducible refine (wire_GetText.calls k _ _ l0 t217 t227 t228 t229 _ ?side1 ?side2 A36.out).mono ?_); (case side1 => exact aV HR0.out (Short.hB HB)); (case side2 => exact HC0.out); rintro e w' ⟨rfl, ⟨nd, rfl⟩⟩; refine ⟨_, rfl, ?_⟩) | (go_at_call 108; (with_reducible refine (bX.calls t216 0 t227 t230 _ A38.out).mono ?_); rintro e w_x3 ⟨rfl, hb⟩; have n0_ := mk_ (dB (g := gb215) (o := .cells #[.int .i64 t216, .int .i64 0, .string t227] 89 (0, 0)) (by (with_reducible repeat (first | refine aG ?_ _ | refine aJ ?_ | refine aE ?_ _)); refine bJ (cs := #[.int .i64 t216, .int .i64 0, .string (⟨#[]⟩ : ByteArray)]) ?_ 2 _ rfl; (with_reducible repeat (first | refine aG ?_ _ | refine aJ ?_ | refine aE ?_ _)); refine bJ (cs := #[.int .i64 0, .int .i64 0, .string (⟨#[]⟩ : ByteArray)]) ?_ 0 _ rfl; (with_reducible repeat (first | refine aG ?_ _ | refine aJ ?_ | refine aE ?_ _)); exact BK215.out) hb); have n1_ := mk_ (aI (Short.hB HB) hb); clear BK215 HB; revert n0_ n1_; intro BK215 HB; (try clear hb); (try clear hb2); (try clear hk); (try clear hi); obtain ⟨hcz_0, hcz_1, hcz_2, hfz_0, hfz_1, hfz_2⟩ := Short.c3 BK215.out) | ((with_reducible refine aT (f := 107) rfl ?_); refine Short.gL (some 37) Try.func107 #[.slice A0 l0.length c0, .int .i64 t217] (h := ?_); (with_reducible refine (bO.calls k _ _ l0 t217 t223 t224 t225 _ ?side1 ?side2 A21.out).mono ?_); (case side1 => exact aV HR0.out (Short.hB HB)); (case side2 => exact HC0.out); rintro e w' ⟨rfl, ⟨nd, rfl⟩⟩; refine ⟨_, rfl, ?_⟩) | (go_at_call 108; (with_reducible refine (bX.calls t216 t223 (⟨#[]⟩ : ByteArray) t226 _ A23.out).mono ?_); rintro e w_x3 ⟨rfl, hb⟩; have n0_ := mk_ (dB (g := gb215) (o := .cells #[.int .i64 t216, .int .i64 t223, .string (⟨#[]⟩ : ByteArray)] 89 (0, 0)) (by (with_reducible repeat (first | refine aG ?_ _ | refine aJ ?_ | refine aE ?_ _)); refine bJ (cs := #[.int .i64 t216, .int .i64 0, .string (⟨#[]⟩ : ByteArray)]) ?_ 1 _ rfl; (with_reducible repeat (first | refine aG ?_ _ | refine aJ ?_ | refine aE ?_ _)); refine bJ (cs := #[.int .i64 0, .int .i64 0, .string (⟨#[]⟩ : ByteArray)]) ?_ 0 _ rfl; (with_reducible repeat (first | refine aG ?_ _ | refine aJ ?_ | refine aE ?_ _)); exact BK215.out) hb); have n1_ := mk_ (aI (Short.hB HB) hb); clear BK215 HB; revert n0_ n1_; intro BK215 HB; (try clear hb); (try clear hb2); (try clear hk); (try clear hi); obtain ⟨hcz_0, hcz_1, hcz_2, hfz_0, hfz_1, hfz_2⟩ := Short.c3 BK215.out) | ((with_reducible refine aT (f := 72) rfl ?_); refine Short.gL (some 27) Try.func72 #[.slice A0 l0.length c0, .int .i64 t217, .int .i64 1] (h := ?_); (with_reducible refine (wire_Get.calls k _ _ l0 t217 1 t219 t220 t221 _ ?side1 ?side2 A6.out).mono ?_); (case side1 => exact aV HR0.out (Short.hB HB)); (case side2 => exact HC0.out); rintro e w' ⟨rfl, ⟨nd, rfl⟩⟩; refine ⟨_, rfl, ?_⟩) | (go_at_call 108; (with_reducible refine (bX.calls t216 t219 (⟨#[]⟩ : ByteArray) t222 _ A8.out).mono ?_); rintro e w_x3 ⟨rfl, hb⟩; have n0_ := mk_ (dB (g := gb215) (o := .cells #[.int .i64 t216, .int .i64 t219, .string (⟨#[]⟩ : ByteArray)] 89 (0, 0)) (by (with_reducible repeat (first | refine aG ?_ _ | refine aJ ?_ | refine aE ?_ _)); refine bJ (cs := #[.int .i64 t216, .int .i64 0, .string (⟨#[]⟩ : ByteArray)]) ?_ 1 _ rfl; (with_reducible repeat (first | refine aG ?_ _ | refine aJ ?_ | refine aE ?_ _)); refine bJ (cs := #[.int .i64 0, .int .i64 0, .string (⟨#[]⟩ : ByteArray)]) ?_ 0 _ rfl; (with_reducible repeat (first | refine aG ?_ _ | refine aJ ?_ | refine aE ?_ _)); exact BK215.out) hb); have n1_ := mk_ (aI (Short.hB HB) hb); clear BK215 HB; revert n0_ n1_; intro BK215 HB; (try clear hb); (try clear hb2); (try clear hk); (try clear hi); obtain ⟨hcz_0, hcz_1, hcz_2, hfz_0, hfz_1, hfz_2⟩ := Short.c3 BK215.out))
  first | refine bodyPost_ret (dF rfl _ _ gb215 89 #[.int .i64 0, .int .i64 0, .string (⟨#[]⟩ : ByteArray)] (0, 0) _ rfl (by (with_reducible repeat (first | refine aG ?_ _ | refine aJ ?_ | refine aE ?_ _)); refine bJ (cs := #[.int .i64 0, .int .i64 0, .string (⟨#[]⟩ : ByteArray)]) ?_ 2 _ rfl; (with_reducible repeat (first | refine aG ?_ _ | refine aJ ?_ | refine aE ?_ _)); refine bJ (cs := #[.int .i64 0, .int .i64 0, .string (⟨#[]⟩ : ByteArray)]) ?_ 1 _ rfl; (with_reducible repeat (first | refine aG ?_ _ | refine aJ ?_ | refine aE ?_ _)); refine bJ (cs := #[.int .i64 0, .int .i64 0, .string (⟨#[]⟩ : ByteArray)]) ?_ 0 _ rfl; (with_reducible repeat (first | refine aG ?_ _ | refine aJ ?_ | refine aE ?_ _)); exact BK215.out) Try.underlying89 rfl z1_) rfl ?_ | refine bodyPost_ret (dF rfl _ _ gb215 89 #[.int .i64 0, .int .i64 0, .string (⟨#[]⟩ : ByteArray)] (0, 0) _ rfl (by (with_reducible repeat (first | refine aG ?_ _ | refine aJ ?_ | refine aE ?_ _)); refine bJ (cs := #[.int .i64 0, .int .i64 0, .string (⟨#[]⟩ : ByteArray)]) ?_ 2 _ rfl; (with_reducible repeat (first | refine aG ?_ _ | refine aJ ?_ | refine aE ?_ _)); refine bJ (cs := #[.int .i64 0, .int .i64 0, .string (⟨#[]⟩ : ByteArray)]) ?_ 1 _ rfl; (with_reducible repeat (first | refine aG ?_ _ | refine aJ ?_ | refine aE ?_ _)); refine bJ (cs := #[.int .i64 t216, .int .i64 0, .string (⟨#[]⟩ : ByteArray)]) ?_ 0 _ rfl; (with_reducible repeat (first | refine aG ?_ _ | refine aJ ?_ | refine aE ?_ _)); exact BK215.out) Try.underlying89 rfl z1_) rfl ?_ | refine bodyPost_ret (dF rfl _ _ gb215 89 #[.int .i64 t216, .int .i64 0, .string (⟨#[]⟩ : ByteArray)] (0, 0) _ rfl (by (with_reducible repeat (first | refine aG ?_ _ | refine aJ ?_ | refine aE ?_ _)); refine bJ (cs := #[.int .i64 t216, .int .i64 0, .string (⟨#[]⟩ : ByteArray)]) ?_ 2 _ rfl; (with_reducible repeat (first | refine aG ?_ _ | refine aJ ?_ | refine aE ?_ _)); refine bJ (cs := #[.int .i64 t216, .int .i64 0, .string (⟨#[]⟩ : ByteArray)]) ?_ 1 _ rfl; (with_reducible repeat (first | refine aG ?_ _ | refine aJ ?_ | refine aE ?_ _)); refine bJ (cs := #[.int .i64 t216, .int .i64 0, .string (⟨#[]⟩ : ByteArray)]) ?_ 0 _ rfl; (with_reducible repeat (first | refine aG ?_ _ | refine aJ ?_ | refine aE ?_ _)); exact BK215.out) Try.underlying89 rfl z1_) rfl ?_ | refine bodyPost_ret (dF rfl _ _ gb215 89 #[.int .i64 0, .int .i64 0, .string (⟨#[]⟩ : ByteArray)] (0, 0) _ rfl (by (with_reducible repeat (first | refine aG ?_ _ | refine aJ ?_ | refine aE ?_ _)); refine bJ (cs := #[.int .i64 0, .int .i64 0, .string t227]) ?_ 2 _ rfl; (with_reducible repeat (first | refine aG ?_ _ | refine aJ ?_ | refine aE ?_ _)); refine bJ (cs := #[.int .i64 0, .int .i64 0, .string t227]) ?_ 1 _ rfl; (with_reducible repeat (first | refine aG ?_ _ | refine aJ ?_ | refine aE ?_ _)); refine bJ (cs := #[.int .i64 t216, .int .i64 0, .string t227]) ?_ 0 _ rfl; (with_reducible repeat (first | refine aG ?_ _ | refine aJ ?_ | refine aE ?_ _)); refine bJ (cs := #[.int .i64 t216, .int .i64 0, .string (⟨#[]⟩ : ByteArray)]) ?_ 2 _ rfl; (with_reducible repeat (first | refine aG ?_ _ | refine aJ ?_ | refine aE ?_ _)); refine bJ (cs := #[.int .i64 0, .int .i64 0, .string (⟨#[]⟩ : ByteArray)]) ?_ 0 _ rfl; (with_reducible repeat (first | refine aG ?_ _ | refine aJ ?_ | refine aE ?_ _)); exact BK215.out) Try.underlying89 rfl z1_) rfl ?_ | refine bodyPost_ret (dF rfl _ _ gb215 89 #[.int .i64 0, .int .i64 0, .string (⟨#[]⟩ : ByteArray)] (0, 0) _ rfl (by (with_reducible repeat (first | refine aG ?_ _ | refine aJ ?_ | refine aE ?_ _)); refine bJ (cs := #[.int .i64 0, .int .i64 0, .string t227]) ?_ 2 _ rfl; (with_reducible repeat (first | refine aG ?_ _ | refine aJ ?_ | refine aE ?_ _)); refine bJ (cs := #[.int .i64 0, .int .i64 0, .string t227]) ?_ 1 _ rfl; (with_reducible repeat (first | refine aG ?_ _ | refine aJ ?_ | refine aE ?_ _)); refine bJ (cs := #[.int .i64 t216, .int .i64 0, .string t227]) ?_ 0 _ rfl; (with_reducible repeat (first | refine aG ?_ _ | refine aJ ?_ | refine aE ?_ _)); exact BK215.out) Try.underlying89 rfl z1_) rfl ?_ | refine bodyPost_ret (dF rfl _ _ gb215 89 #[.int .i64 t216, .int .i64 0, .string t227] (0, 0) _ rfl (by (with_reducible repeat (first | refine aG ?_ _ | refine aJ ?_ | refine aE ?_ _)); refine bJ (cs := #[.int .i64 t216, .int .i64 0, .string t227]) ?_ 2 _ rfl; (with_reducible repeat (first | refine aG ?_ _ | refine aJ ?_ | refine aE ?_ _)); refine bJ (cs := #[.int .i64 t216, .int .i64 0, .string t227]) ?_ 1 _ rfl; (with_reducible repeat (first | refine aG ?_ _ | refine aJ ?_ | refine aE ?_ _)); refine bJ (cs := #[.int .i64 t216, .int .i64 0, .string t227]) ?_ 0 _ rfl; (with_reducible repeat (first | refine aG ?_ _ | refine aJ ?_ | refine aE ?_ _)); exact BK215.out) Try.underlying89 rfl z1_) rfl ?_ | refine bodyPost_ret (dF rfl _ _ gb215 89 #[.int .i64 0, .int .i64 0, .string (⟨#[]⟩ : ByteArray)] (0, 0) _ rfl (by (with_reducible repeat (first | refine aG ?_ _ | refine aJ ?_ | refine aE ?_ _)); refine bJ (cs := #[.int .i64 0, .int .i64 0, .string (⟨#[]⟩ : ByteArray)]) ?_ 2 _ rfl; (with_reducible repeat (first | refine aG ?_ _ | refine aJ ?_ | refine aE ?_ _)); refine bJ (cs := #[.int .i64 0, .int .i64 t223, .string (⟨#[]⟩ : ByteArray)]) ?_ 1 _ rfl; (with_reducible repeat (first | refine aG ?_ _ | refine aJ ?_ | refine aE ?_ _)); refine bJ (cs := #[.int .i64 t216, .int .i64 t223, .string (⟨#[]⟩ : ByteArray)]) ?_ 0 _ rfl; (with_reducible repeat (first | refine aG ?_ _ | refine aJ ?_ | refine aE ?_ _)); refine bJ (cs := #[.int .i64 t216, .int .i64 0, .string (⟨#[]⟩ : ByteArray)]) ?_ 1 _ rfl; (with_reducible repeat (first | refine aG ?_ _ | refine aJ ?_ | refine aE ?_ _)); refine bJ (cs := #[.int .i64 0, .int .i64 0, .string (⟨#[]⟩ : ByteArray)]) ?_ 0 _ rfl; (with_reducible repeat (first | refine aG ?_ _ | refine aJ ?_ | refine aE ?_ _)); exact BK215.out) Try.underlying89 rfl z1_) rfl ?_ | refine bodyPost_ret (dF rfl _ _ gb215 89 #[.int .i64 0, .int .i64 0, .string (⟨#[]⟩ : ByteArray)] (0, 0) _ rfl (by (with_reducible repeat (first | refine aG ?_ _ | refine aJ ?_ | refine aE ?_ _)); refine bJ (cs := #[.int .i64 0, .int .i64 0, .string (⟨#[]⟩ : ByteArray)]) ?_ 2 _ rfl; (with_reducible repeat (first | refine aG ?_ _ | refine aJ ?_ | refine aE ?_ _)); refine bJ (cs := #[.int .i64 0, .int .i64 t223, .string (⟨#[]⟩ : ByteArray)]) ?_ 1 _ rfl; (with_reducible repeat (first | refine aG ?_ _ | refine aJ ?_ | refine aE ?_ _)); refine bJ (cs := #[.int .i64 t216, .int .i64 t223, .string (⟨#[]⟩ : ByteArray)]) ?_ 0 _ rfl; (with_reducible repeat (first | refine aG ?_ _ | refine aJ ?_ | refine aE ?_ _)); exact BK215.out) Try.underlying89 rfl z1_) rfl ?_ | refine bodyPost_ret (dF rfl _ _ gb215 89 #[.int .i64 t216, .int .i64 t223, .string (⟨#[]⟩ : ByteArray)] (0, 0) _ rfl (by (with_reducible repeat (first | refine aG ?_ _ | refine aJ ?_ | refine aE ?_ _)); refine bJ (cs := #[.int .i64 t216, .int .i64 t223, .string (⟨#[]⟩ : ByteArray)]) ?_ 2 _ rfl; (with_reducible repeat (first | refine aG ?_ _ | refine aJ ?_ | refine aE ?_ _)); refine bJ (cs := #[.int .i64 t216, .int .i64 t223, .string (⟨#[]⟩ : ByteArray)]) ?_ 1 _ rfl; (with_reducible repeat (first | refine aG ?_ _ | refine aJ ?_ | refine aE ?_ _)); refine bJ (cs := #[.int .i64 t216, .int .i64 t223, .string (⟨#[]⟩ : ByteArray)]) ?_ 0 _ rfl; (with_reducible repeat (first | refine aG ?_ _ | refine aJ ?_ | refine aE ?_ _)); exact BK215.out) Try.underlying89 rfl z1_) rfl ?_ | refine bodyPost_ret (dF rfl _ _ gb215 89 #[.int .i64 0, .int .i64 0, .string (⟨#[]⟩ : ByteArray)] (0, 0) _ rfl (by (with_reducible repeat (first | refine aG ?_ _ | refine aJ ?_ | refine aE ?_ _)); refine bJ (cs := #[.int .i64 0, .int .i64 0, .string (⟨#[]⟩ : ByteArray)]) ?_ 2 _ rfl; (with_reducible repeat (first | refine aG ?_ _ | refine aJ ?_ | refine aE ?_ _)); refine bJ (cs := #[.int .i64 0, .int .i64 t219, .string (⟨#[]⟩ : ByteArray)]) ?_ 1 _ rfl; (with_reducible repeat (first | refine aG ?_ _ | refine aJ ?_ | refine aE ?_ _)); refine bJ (cs := #[.int .i64 t216, .int .i64 t219, .string (⟨#[]⟩ : ByteArray)]) ?_ 0 _ rfl; (with_reducible repeat (first | refine aG ?_ _ | refine aJ ?_ | refine aE ?_ _)); refine bJ (cs := #[.int .i64 t216, .int .i64 0, .string (⟨#[]⟩ : ByteArray)]) ?_ 1 _ rfl; (with_reducible repeat (first | refine aG ?_ _ | refine aJ ?_ | refine aE ?_ _)); refine bJ (cs := #[.int .i64 0, .int .i64 0, .string (⟨#[]⟩ : ByteArray)]) ?_ 0 _ rfl; (with_reducible repeat (first | refine aG ?_ _ | refine aJ ?_ | refine aE ?_ _)); exact BK215.out) Try.underlying89 rfl z1_) rfl ?_ | refine bodyPost_ret (dF rfl _ _ gb215 89 #[.int .i64 0, .int .i64 0, .string (⟨#[]⟩ : ByteArray)] (0, 0) _ rfl (by (with_reducible repeat (first | refine aG ?_ _ | refine aJ ?_ | refine aE ?_ _)); refine bJ (cs := #[.int .i64 0, .int .i64 0, .string (⟨#[]⟩ : ByteArray)]) ?_ 2 _ rfl; (with_reducible repeat (first | refine aG ?_ _ | refine aJ ?_ | refine aE ?_ _)); refine bJ (cs := #[.int .i64 0, .int .i64 t219, .string (⟨#[]⟩ : ByteArray)]) ?_ 1 _ rfl; (with_reducible repeat (first | refine aG ?_ _ | refine aJ ?_ | refine aE ?_ _)); refine bJ (cs := #[.int .i64 t216, .int .i64 t219, .string (⟨#[]⟩ : ByteArray)]) ?_ 0 _ rfl; (with_reducible repeat (first | refine aG ?_ _ | refine aJ ?_ | refine aE ?_ _)); exact BK215.out) Try.underlying89 rfl z1_) rfl ?_ | refine bodyPost_ret (dF rfl _ _ gb215 89 #[.int .i64 t216, .int .i64 t219, .string (⟨#[]⟩ : ByteArray)] (0, 0) _ rfl (by (with_reducible repeat (first | refine aG ?_ _ | refine aJ ?_ | refine aE ?_ _)); refine bJ (cs := #[.int .i64 t216, .int .i64 t219, .string (⟨#[]⟩ : ByteArray)]) ?_ 2 _ rfl; (with_reducible repeat (first | refine aG ?_ _ | refine aJ ?_ | refine aE ?_ _)); refine bJ (cs := #[.int .i64 t216, .int .i64 t219, .string (⟨#[]⟩ : ByteArray)]) ?_ 1 _ rfl; (with_reducible repeat (first | refine aG ?_ _ | refine aJ ?_ | refine aE ?_ _)); refine bJ (cs := #[.int .i64 t216, .int .i64 t219, .string (⟨#[]⟩ : ByteArray)]) ?_ 0 _ rfl; (with_reducible repeat (first | refine aG ?_ _ | refine aJ ?_ | refine aE ?_ _)); exact BK215.out) Try.underlying89 rfl z1_) rfl ?_
  exact ⟨q0, Short.hB HB⟩
def bytes_Equal.f (l0 : List Int) (l1 : List Int) : Option (Bool) := some ((strOfNums l0).toList == (strOfNums l1).toList)
theorem bytes_Equal.calls (A0 : Option Addr) (c0 : Nat) (l0 : List Int) (A1 : Option Addr) (c1 : Nat) (l1 : List Int) (r : Bool) (w : World) (hr0 : Kd.C (Kd.int .u8) w A0 l0.length l0) (hc0 : l0.length ≤ c0) (hr1 : Kd.C (Kd.int .u8) w A1 l1.length l1) (hc1 : l1.length ≤ c1) (h : bytes_Equal.f l0 l1 = some r) :
  Calls Try.prog 33 #[.slice A0 l0.length c0, .slice A1 l1.length c1] w fun e w' => e = .returned (.bool r) ∧ Drawn0 w w' := by
 have HR0 := mk_ hr0
 have HC0 := mk_ hc0
 clear hr0 hc0
 have HR1 := mk_ hr1
 have HC1 := mk_ hc1
 clear hr1 hc1
 have H : (some ((strOfNums l0).toList == (strOfNums l1).toList)) = some r := h
 clear h
 obtain rfl := Option.some.inj H
 have hcv3 := C_string (P := Try.prog) (A := A0) (c := c0) Try.underlying22 Try.underlying5 Try.underlying9 HR0.out
 have hcv4 : ∀ (m_ n_ : Nat), n_ = (l0).length → (convert 22 9 (.slice A0 n_ c0)).run Try.prog (w.drewN m_) = .ok (.string (strOfNums (l0))) (w.drewN m_) := fun m_ n_ h_ => by rw [h_]; exact C_string Try.underlying22 Try.underlying5 Try.underlying9 (C_drewN HR0.out m_)
 have hcv5 := C_string (P := Try.prog) (A := A1) (c := c1) Try.underlying22 Try.underlying5 Try.underlying9 HR1.out
 have hcv6 : ∀ (m_ n_ : Nat), n_ = (l1).length → (convert 22 9 (.slice A1 n_ c1)).run Try.prog (w.drewN m_) = .ok (.string (strOfNums (l1))) (w.drewN m_) := fun m_ n_ h_ => by rw [h_]; exact C_string Try.underlying22 Try.underlying5 Try.underlying9 (C_drewN HR1.out m_)
 go_enter Try.func33, Try.ntmps33
 go_wp2
 go_ret
 exact ⟨z3_, by repeat (first | exact Drawn0.refl _ | apply Drawn0.step)⟩
def row_Read.l0 : Nat → List Int → List (S89) → Int → Int → Int → Option ((List (S89)) × Int × Int)
 | 0, _, _, _, _, _ => none
 | k + 1, x0, x4, x5, x23, x24 => if x24 < x23 then ((value_Read.f k x0 x5).bind fun bt252 => (if bt252.2.2.2.2 = 0 then (if x4.length < 4398046511104 then (row_Read.l0 k x0 (x4 ++ [(⟨bt252.1, bt252.2.1, bt252.2.2.1⟩ : S89)]) bt252.2.2.2.1 x23 (wrap64 (x24 + 1))) else (none)) else (some (([] : List (S89)), 0, 3)))) else (some (x4, x5, 0))
def row_Read.f (k : Nat) (l0 : List Int) (a1 : Int) : Option ((List (S89)) × Int × Int) := (wire_Get.f k l0 a1 1).bind fun bt249 => (if bt249.2.2 = 0 then (if bt249.1 > 12 then (some (([] : List (S89)), 0, 3)) else (row_Read.l0 k l0 ([] : List (S89)) bt249.2.1 bt249.1 0)) else (some (([] : List (S89)), 0, bt249.2.2)))
theorem row_Read.calls (k : Nat) (A0 : Option Addr) (c0 : Nat) (l0 : List Int) (a1 : Int) (r1 : List (S89)) (r2 : Int) (r3 : Int) (w : World) (hr0 : Kd.C (Kd.int .u8) w A0 l0.length l0) (hc0 : l0.length ≤ c0) (h : row_Read.f k l0 a1 = some (r1, r2, r3)) :
  Calls Try.prog 76 #[.slice A0 l0.length c0, .int .i64 a1] w fun e w' => ∃ v0_ : Value, e = .returned (.tuple #[v0_, .int .i64 r2, .int .i64 r3]) ∧ Kd.R k89 89 w' w.heap.size (fun _ => True) v0_ r1 ∧ Below w.heap.size w w' := by
 have hu89 := Try.underlying89
 have HR0 := mk_ hr0
 have HC0 := mk_ hc0
 clear hr0 hc0
 have HB := mk_ (Below.refl w.heap.size w)
 have H : ((wire_Get.f k l0 a1 1).bind fun bt249 => (if bt249.2.2 = 0 then (if bt249.1 > 12 then (some (([] : List (S89)), 0, 3)) else (row_Read.l0 k l0 ([] : List (S89)) bt249.2.1 bt249.1 0)) else (some (([] : List (S89)), 0, bt249.2.2)))) = some (r1, r2, r3) := h
 clear h
 obtain ⟨⟨t249, t250, t251⟩, A3, H⟩ := Option.bind_eq_some_iff.mp H
 try dsimp only at H
 replace A3 := mk_ A3
 by_cases c4 : t251 = 0
 rotate_left
 ·
  rw [if_neg c4] at H
  have c4b0 : (t251 == 0) = false := beq_eq_false_iff_ne.mpr c4
  have c4b1 : (t251 != 0) = true := bne_iff_ne.mpr c4
  simp only [Option.some.injEq, Prod.mk.injEq] at H
  obtain ⟨rfl, rfl, rfl⟩ := H
  go_enter Try.func76, Try.ntmps76
  go_wp2_with (first | ((with_reducible refine aT (f := 72) rfl ?_); refine Short.gL (some 14) Try.func72 #[.slice A0 l0.length c0, .int .i64 a1, .int .i64 1] (h := ?_); (with_reducible refine (wire_Get.calls k _ _ l0 a1 1 t249 t250 t251 _ ?side1 ?side2 A3.out).mono ?_); (case side1 => repeat (first | exact HR0.out | (with_reducible refine C_alloc ?_ _) | (with_reducible refine C_drewN ?_ _) | (with_reducible refine C_drew ?_))); (case side2 => exact HC0.out); rintro e w' ⟨rfl, ⟨nd, rfl⟩⟩; refine ⟨_, rfl, ?_⟩))
  go_ret3
  exact ⟨_, by first | rfl | (simp [bD, bC] <;> rfl) | (simp [*, bD, bC] <;> rfl), by first | exact R_nil _ _ _ _ _ | exact N_nil _ _ _ _ _ | exact V_nil _ _ _ _ _ | exact Q_nil _ _ _ _ _ | exact S_nil _ _ _ _ _, Short.hB HB⟩
 rw [if_pos c4] at H
 have c4b0 : (t251 == 0) = true := beq_iff_eq.mpr c4
 have c4b1 : (t251 != 0) = false := bne_eq_false_iff_eq.mpr c4
 clear c4
 by_cases c5 : t249 > 12
 ·
  rw [if_pos c5] at H
  have c5b0 : decide (12 < t249) = true := decide_eq_true c5
  clear c5
  simp only [Option.some.injEq, Prod.mk.injEq] at H
  obtain ⟨rfl, rfl, rfl⟩ := H
  go_enter Try.func76, Try.ntmps76
  go_wp2_with (first | ((with_reducible refine aT (f := 72) rfl ?_); refine Short.gL (some 14) Try.func72 #[.slice A0 l0.length c0, .int .i64 a1, .int .i64 1] (h := ?_); (with_reducible refine (wire_Get.calls k _ _ l0 a1 1 t249 t250 t251 _ ?side1 ?side2 A3.out).mono ?_); (case side1 => repeat (first | exact HR0.out | (with_reducible refine C_alloc ?_ _) | (with_reducible refine C_drewN ?_ _) | (with_reducible refine C_drew ?_))); (case side2 => exact HC0.out); rintro e w' ⟨rfl, ⟨nd, rfl⟩⟩; refine ⟨_, rfl, ?_⟩))
  go_ret3
  exact ⟨_, by first | rfl | (simp [bD, bC] <;> rfl) | (simp [*, bD, bC] <;> rfl), by first | exact R_nil _ _ _ _ _ | exact N_nil _ _ _ _ _ | exact V_nil _ _ _ _ _ | exact Q_nil _ _ _ _ _ | exact S_nil _ _ _ _ _, Short.hB HB⟩
 rw [if_neg c5] at H
 have c5b0 : decide (12 < t249) = false := decide_eq_false c5
 clear c5
 have H' := mk_ H
 clear H
 go_enter Try.func76, Try.ntmps76
 go_wp2_with (first | ((with_reducible refine aT (f := 72) rfl ?_); refine Short.gL (some 14) Try.func72 #[.slice A0 l0.length c0, .int .i64 a1, .int .i64 1] (h := ?_); (with_reducible refine (wire_Get.calls k _ _ l0 a1 1 t249 t250 t251 _ ?side1 ?side2 A3.out).mono ?_); (case side1 => repeat (first | exact HR0.out | (with_reducible refine C_alloc ?_ _) | (with_reducible refine C_drewN ?_ _) | (with_reducible refine C_drew ?_))); (case side2 => exact HC0.out); rintro e w' ⟨rfl, ⟨nd, rfl⟩⟩; refine ⟨_, rfl, ?_⟩))
 go_loopg [4, 5, 24] k (fun kq v4 v5 v24 w' => ∃ (x4_1 : List (S89)) (x5_1 : Int) (x24_1 : Int), v5 = .int .i64 x5_1 ∧ v24 = .int .i64 x24_1 ∧ Aside0 (row_Read.l0 kq l0 x4_1 x5_1 t249 x24_1 = some (r1, r2, r3)) ∧ Aside0 (kq ≤ k) ∧ Aside0 (Kd.R k89 89 w' w.heap.size (fun _ => True) v4 x4_1) ∧ Aside0 (Below w.heap.size w w'))
 case atStart => exact ⟨(([] : List (S89))), (t250), (0), z3_, z3_, H', ⟨Nat.le_refl _⟩, ⟨by first | exact R_nil _ _ _ _ _ | exact N_nil _ _ _ _ _ | exact V_nil _ _ _ _ _ | exact Q_nil _ _ _ _ _ | exact S_nil _ _ _ _ _⟩, ⟨Short.hB HB⟩⟩
 case round =>
  clear H'
  try clear c4
  try clear c4b0
  try clear c4b1
  try clear c5
  try clear c5b0
  obtain ⟨x4_1, x5_1, x24_1, rfl, rfl, HA, HK1, HO_4, HB⟩ := hrel
  cases gk with
  | zero => exact absurd HA.out (by simp [row_Read.l0])
  | succ k1 =>
   have H := HA.out
   clear HA
   simp only [row_Read.l0] at H
   by_cases c6 : x24_1 < t249
   rotate_left
   ·
    rw [if_neg c6] at H
    have c6b0 : decide (x24_1 < t249) = false := decide_eq_false c6
    clear c6
    simp only [Option.some.injEq, Prod.mk.injEq] at H
    obtain ⟨rfl, rfl, rfl⟩ := H
    go_wp2
    go_ret3
    exact ⟨_, by first | rfl | (simp [bD, bC] <;> rfl) | (simp [*, bD, bC] <;> rfl), by (with_reducible repeat (first | apply R_alloc | apply R_drewN | apply R_drew)); exact HO_4.out, Short.hB HB⟩
   rw [if_pos c6] at H
   have c6b0 : decide (x24_1 < t249) = true := decide_eq_true c6
   clear c6
   obtain ⟨⟨t252, t253, t254, t255, t256⟩, A7, H⟩ := Option.bind_eq_some_iff.mp H
   try dsimp only at H
   replace A7 := mk_ A7
   by_cases c8 : t256 = 0
   rotate_left
   ·
    rw [if_neg c8] at H
    have c8b0 : (t256 == 0) = false := beq_eq_false_iff_ne.mpr c8
    have c8b1 : (t256 != 0) = true := bne_iff_ne.mpr c8
    simp only [Option.some.injEq, Prod.mk.injEq] at H
    obtain ⟨rfl, rfl, rfl⟩ := H
    go_wp2_with (first | ((with_reducible refine aT (f := 97) rfl ?_); refine Short.gL (some 29) Try.func97 #[.slice A0 l0.length c0, .int .i64 x5_1] (h := ?_); (with_reducible refine (value_Read.calls k1 _ _ l0 x5_1 t252 t253 t254 t255 t256 _ ?side1 ?side2 A7.out).mono ?_); (case side1 => exact cX_ (aV HR0.out HB.out)); (case side2 => exact HC0.out); rintro e w14 ⟨rfl, hb⟩; refine ⟨_, rfl, ?_⟩; have n0_ := mk_ (cO (ZKR HO_4) hb); have n1_ := mk_ (aI (Short.hB HB) hb); clear HO_4 HB; revert n0_ n1_; intro HO_4 HB; (try clear hb)) | ((with_reducible refine bP (N := 8) rfl ?_); refine bL ?hg (N := 8) ?hd (cs := #[.int .i64 0, .int .i64 0, .string (⟨#[]⟩ : ByteArray)]) (t := 89) ?hr ?_; (case hd => rfl); (case hg => rfl); (case hr => first | (go_simp; done) | (go_simp; rfl)); intro gb257 hg w15 hbox hb; have n0_ := mk_ (cO (R_elderB (ZKR HO_4) gb257 (Nat.le_of_eq hg.symm)) hb); have n1_ := mk_ (aI (Short.hB HB) hb); have n2_ := mk_ (hbox); have n3_ := mk_ ((by rw [hg]; exact (aN (Short.hB HB)) : w.heap.size ≤ gb257)); have n4_ := mk_ ((by rw [hg]; exact (aN (Short.hB HB)) : w.heap.size ≤ gb257)); clear HO_4 HB; revert n0_ n1_ n2_ n3_ n4_; intro HO_4 HB BK257 GW257 GE257; clear hb hbox hg; obtain ⟨hcz_0, hcz_1, hcz_2, hfz_0, hfz_1, hfz_2⟩ := Short.c3 BK257.out))
    go_ret3
    exact ⟨_, by first | rfl | (simp [bD, bC] <;> rfl) | (simp [*, bD, bC] <;> rfl), by first | exact R_nil _ _ _ _ _ | exact N_nil _ _ _ _ _ | exact V_nil _ _ _ _ _ | exact Q_nil _ _ _ _ _ | exact S_nil _ _ _ _ _, Short.hB HB⟩
   rw [if_pos c8] at H
   have c8b0 : (t256 == 0) = true := beq_iff_eq.mpr c8
   have c8b1 : (t256 != 0) = false := bne_eq_false_iff_eq.mpr c8
   clear c8
   by_cases c9 : x4_1.length < 4398046511104
   rotate_left
   ·
    rw [if_neg c9] at H
    exact absurd H (by simp)
   rw [if_pos c9] at H
   have LMc9 := mk_ c9
   clear c9
   obtain ⟨y258, hy258⟩ : ∃ y_ : List (S89), y_ = (x4_1 ++ [(⟨t252, t253, t254⟩ : S89)]) := ⟨_, rfl⟩
   replace H : (row_Read.l0 k1 l0 y258 t255 t249 (wrap64 (x24_1 + 1))) = some (r1, r2, r3) := by first | (rw [hy258]; with_reducible exact H) | (have H2_ := (Option.bind_some _ _).symm.trans H; rw [hy258]; with_reducible exact H2_) | (have H2_ := (Option.bind_some _ _).symm.trans H; with_reducible exact H2_) | with_reducible exact H | (rw [hy258]; exact H) | exact H
   have Ny258 := mk_ hy258
   clear hy258
   have H' := mk_ H
   clear H
   go_wp2_with (first | ((with_reducible refine aT (f := 97) rfl ?_); refine Short.gL (some 29) Try.func97 #[.slice A0 l0.length c0, .int .i64 x5_1] (h := ?_); (with_reducible refine (value_Read.calls k1 _ _ l0 x5_1 t252 t253 t254 t255 t256 _ ?side1 ?side2 A7.out).mono ?_); (case side1 => exact cX_ (aV HR0.out HB.out)); (case side2 => exact HC0.out); rintro e w10 ⟨rfl, hb⟩; refine ⟨_, rfl, ?_⟩; have n0_ := mk_ (cO (ZKR HO_4) hb); have n1_ := mk_ (aI (Short.hB HB) hb); clear HO_4 HB; revert n0_ n1_; intro HO_4 HB; (try clear hb)) | ((with_reducible refine bP (N := 8) rfl ?_); refine bL ?hg (N := 8) ?hd (cs := #[.int .i64 0, .int .i64 0, .string (⟨#[]⟩ : ByteArray)]) (t := 89) ?hr ?_; (case hd => rfl); (case hg => rfl); (case hr => first | (go_simp; done) | (go_simp; rfl)); intro gb257 hg w11 hbox hb; have n0_ := mk_ (cO (R_elderB (ZKR HO_4) gb257 (Nat.le_of_eq hg.symm)) hb); have n1_ := mk_ (aI (Short.hB HB) hb); have n2_ := mk_ (hbox); have n3_ := mk_ ((by rw [hg]; exact (aN (Short.hB HB)) : w.heap.size ≤ gb257)); have n4_ := mk_ ((by rw [hg]; exact (aN (Short.hB HB)) : w.heap.size ≤ gb257)); clear HO_4 HB; revert n0_ n1_ n2_ n3_ n4_; intro HO_4 HB BK257 GW257 GE257; clear hb hbox hg; obtain ⟨hcz_0, hcz_1, hcz_2, hfz_0, hfz_1, hfz_2⟩ := Short.c3 BK257.out) | ((with_reducible refine cJ (b := .append) (xs := #[.tmp 35, .tmp 37]) rfl ?_); at_builtin; refine fV k89 (w0 := w) w.heap.size rfl (.tmp 35) (.tmp 37) 51 89 (.agg #[(.int .i64 0), (.int .i64 0), (.string ⟨#[]⟩)]) 32 rfl Try.underlying51 info89 rfl z4_ z2_ u4 x4_1 (⟨t252, t253, t254⟩ : S89) [.int .i64 t252, .int .i64 t253, .string t254] (fun k_ => k_ ≠ gb257) (fun _ => False) rfl (by first | (go_simp; done) | (go_simp; rfl)) ?aP (fun _ hk => hk.elim) ?aF ?aO ?aB ?aS ?aL ?_; (case aP => exact k89_mkM _ _ _ (⟨t252, t253, t254⟩ : S89)); (case aB => exact (Short.hB HB)); (case aF => exact (fun k_ hk => Kd.freshB (g := gb257) (o := .cells #[.int .i64 t252, .int .i64 t253, .string t254] 89 (0, 0)) (by (with_reducible repeat (first | refine aG ?_ _ | refine aJ ?_ | refine aE ?_ _)); refine bJ (cs := #[.int .i64 t252, .int .i64 t253, .string (⟨#[]⟩ : ByteArray)]) ?_ 2 _ rfl; (with_reducible repeat (first | refine aG ?_ _ | refine aJ ?_ | refine aE ?_ _)); refine bJ (cs := #[.int .i64 t252, .int .i64 0, .string (⟨#[]⟩ : ByteArray)]) ?_ 1 _ rfl; (with_reducible repeat (first | refine aG ?_ _ | refine aJ ?_ | refine aE ?_ _)); refine bJ (cs := #[.int .i64 0, .int .i64 0, .string (⟨#[]⟩ : ByteArray)]) ?_ 0 _ rfl; (with_reducible repeat (first | refine aG ?_ _ | refine aJ ?_ | refine aE ?_ _)); exact BK257.out) k_ hk)); (case aO => exact (by (with_reducible repeat (first | apply R_alloc | apply R_drewN | apply R_drew)); exact R_mono (R_far (p := ⟨gb257, 2, none⟩) (R_far (p := ⟨gb257, 1, none⟩) (R_far (p := ⟨gb257, 0, none⟩) (R_mono HO_4.out (fun k_ hk => (⟨hk, hk.2⟩ : _ ∧ k_ ≠ gb257))) (fun _ hk => hk.2) (.int .i64 t252)) (fun _ hk => hk.2) (.int .i64 t253)) (fun _ hk => hk.2) (.string t254)) (fun _ hk => hk.1.2))); (case aS => exact (aN (Short.hB HB))); (case aL => have := LMc9.out; omega); intro v259 w13 ho hb hg hat; rw [← Ny258.out] at ho; have n0_ := mk_ (gM (g := gb257) (o := .cells #[.int .i64 t252, .int .i64 t253, .string t254] 89 (0, 0)) (by (with_reducible repeat (first | refine aG ?_ _ | refine aJ ?_ | refine aE ?_ _)); refine bJ (cs := #[.int .i64 t252, .int .i64 t253, .string (⟨#[]⟩ : ByteArray)]) ?_ 2 _ rfl; (with_reducible repeat (first | refine aG ?_ _ | refine aJ ?_ | refine aE ?_ _)); refine bJ (cs := #[.int .i64 t252, .int .i64 0, .string (⟨#[]⟩ : ByteArray)]) ?_ 1 _ rfl; (with_reducible repeat (first | refine aG ?_ _ | refine aJ ?_ | refine aE ?_ _)); refine bJ (cs := #[.int .i64 0, .int .i64 0, .string (⟨#[]⟩ : ByteArray)]) ?_ 0 _ rfl; (with_reducible repeat (first | refine aG ?_ _ | refine aJ ?_ | refine aE ?_ _)); exact BK257.out) hg (R_away HO_4.out (fun _ hk => hk.2))); have n1_ := mk_ (hb); have n2_ := mk_ (ho); clear BK257 HB HO_4; revert n0_ n1_ n2_; intro BK257 HB HO260; clear ho hb hg hat))
   go_roundg k1
   case measure => have := HK1.out; omega
   case rel => exact ⟨(y258), (t255), (wrap64 (x24_1 + 1)), z3_, z3_, H', ⟨by have := HK1.out; omega⟩, ⟨by (with_reducible repeat (first | apply R_alloc | apply R_drewN | apply R_drew)); exact R_mono HO260.out (fun _ hk => trivial)⟩, ⟨Short.hB HB⟩⟩
end Go.Proofs.Ytcbfliajgopdaaa.PAll
end
section
namespace Go.Proofs.Ytcbfliajgopdaaa.Plain
open Go.RowKit PAll PrintWords PrintLast PrintMore ZipT PrintWords.Kd PrintMore.Kd
set_option linter.unusedVariables false
set_option linter.unusedSimpArgs false
theorem pow256 (s : Nat) : (2 : Int) ^ (8 * s) = 256 ^ s := by rw [Int.pow_mul]; rfl
theorem pow256_le {s : Nat} (h : s ≤ 7) : (256 : Int) ^ s ≤ 72057594037927936 := by
 have : s = 0 ∨ s = 1 ∨ s = 2 ∨ s = 3 ∨ s = 4 ∨ s = 5 ∨ s = 6 ∨ s = 7 := by omega
 rcases this with rfl | rfl | rfl | rfl | rfl | rfl | rfl | rfl <;> decide
theorem shr_bytes (n : Int) (i : Nat) (hi : i ≤ 8) : shr .i64 n (8 * i) = n / 256 ^ i := by
 unfold shr
 have h1 : (8 * (i : Int)).toNat = 8 * i := by omega
 rw [h1, Nat.min_eq_left (by simp [IntKind.bits]; omega), pow256]
theorem shl_bytes (i : Nat) (hi : i ≤ 7) : shl .i64 1 (8 * i) = 256 ^ i := by
 unfold shl
 have h1 : (8 * (i : Int)).toNat = 8 * i := by omega
 have h2 := pow256_le hi
 have h3 := pow_pos i
 rw [h1, Nat.min_eq_left (by simp [IntKind.bits]; omega), pow256, wi64, Int.one_mul, w64 z2_ z2_]
theorem kC (l : List Int) (hl : l.length ≤ 1000000) : slices_Clone_byte_byte.f l = some l := by
 unfold slices_Clone_byte_byte.f
 simp only [Option.bind_some, List.length_nil, List.nil_append]
 rw [if_pos z2_]
theorem big_l0 (n : Int) (i : Nat) : ∀ (k : Nat) (out : List Int), i ≤ 8 → out.length + i ≤ 1000000 → i < k → cW.l0 k n out ((i : Int) - 1) = some (out ++ big n i) := by
 induction i with
 | zero =>
  intro k out _ _ hk
  obtain ⟨k, rfl⟩ : ∃ m, k = m + 1 := ⟨k - 1, by omega⟩
  simp only [cW.l0]
  rw [if_neg z2_]
  simp [big]
 | succ i ih =>
  intro k out hi ho hk
  obtain ⟨k, rfl⟩ : ∃ m, k = m + 1 := ⟨k - 1, by omega⟩
  simp only [cW.l0]
  have e : (((i + 1 : Nat) : Int) - 1) = (i : Int) := by omega
  rw [e, if_pos z2_, w64 z2_ z2_, if_pos z2_, if_pos z2_, shr_bytes n i z2_, w64 z2_ z2_, ih k _ z2_ (by simp; omega) z2_]
  simp [big]
theorem big_eq (k : Nat) (l : List Int) (n size : Int) (h0 : 0 ≤ size) (h1 : size ≤ 8) (hl : l.length ≤ 900000) (hk : 10 ≤ k) : cW.f k l n size = some (l ++ big n size.toNat) := by
 obtain ⟨s, rfl⟩ := Int.eq_ofNat_of_zero_le h0
 unfold cW.f
 rw [kC l z2_, Option.bind_some, w64 z2_ z2_, Int.toNat_natCast]
 exact big_l0 n s k l z2_ z2_ z2_
def sPut (l : List Int) (n size : Int) : List Int × Int := if 1 ≤ size ∧ size ≤ 7 ∧ 0 ≤ n ∧ n < 256 ^ size.toNat then (l ++ big n size.toNat, 0) else ([], 1)
theorem put_eq (k : Nat) (l : List Int) (n size : Int) (hl : l.length ≤ 900000) (hk : 10 ≤ k) : wire_Put.f k l n size = some (sPut l n size) := by
 unfold wire_Put.f sPut
 by_cases h1 : size < 1
 ·
  rw [if_pos h1, if_neg z2_]
 rw [if_neg h1]
 by_cases h2 : size > 7
 ·
  rw [if_pos h2, if_neg z2_]
 rw [if_neg h2]
 by_cases h3 : n < 0
 ·
  rw [if_pos h3, if_neg z2_]
 obtain ⟨s, rfl⟩ := Int.eq_ofNat_of_zero_le (show 0 ≤ size by omega)
 rw [if_neg h3, w64 z2_ z2_, if_pos z2_, shl_bytes s z2_, Int.toNat_natCast]
 by_cases h4 : n ≥ 256 ^ s
 ·
  rw [if_pos h4, if_neg z2_]
 rw [if_neg h4, big_eq k l n s z2_ z2_ hl hk, Option.bind_some, Int.toNat_natCast, if_pos z2_]
def intB (n : Int) : List Int := if n < 0 then 1 :: big (-n) 8 else 0 :: big n 8
def sPutInt (l : List Int) (n : Int) : List Int × Int := if -1152921504606846976 ≤ n ∧ n ≤ 1152921504606846976 then (l ++ intB n, 0) else ([], 1)
theorem putInt_eq (k : Nat) (l : List Int) (n : Int) (hl : l.length ≤ 800000) (hk : 20 ≤ k) : cT.f k l n = some (sPutInt l n) := by
 obtain ⟨k, rfl⟩ : ∃ m, k = m + 1 := ⟨k - 1, by omega⟩
 unfold cT.f sPutInt
 by_cases h1 : n < -1152921504606846976
 ·
  rw [if_pos h1, if_neg z2_]
  simp [cT.j0]
 rw [if_neg h1]
 by_cases h2 : n > 1152921504606846976
 ·
  rw [if_neg z2_]
  simp [cT.j0, h2]
 rw [if_pos z2_]
 simp only [cT.j0, h2, decide_false]
 rw [if_neg (by simp)]
 unfold intB
 by_cases h3 : n < 0
 ·
  rw [if_pos h3, if_pos h3, kC l z2_, Option.bind_some, if_pos z2_, w64 z2_ z2_, big_eq k _ _ 8 z2_ z2_ (by simp; omega) z2_]
  simp
 rw [if_neg h3, if_neg h3, kC l z2_, Option.bind_some, if_pos z2_, big_eq k _ _ 8 z2_ z2_ (by simp; omega) z2_]
 simp
def sPutText (l : List Int) (s : ByteArray) : List Int × Int := if s.size ≤ 24 then (l ++ (s.size : Int) :: bytesOf s, 0) else ([], 2)
theorem putText_eq (l : List Int) (s : ByteArray) (hl : l.length ≤ 800000) : wire_PutText.f l s = some (sPutText l s) := by
 unfold wire_PutText.f sPutText
 by_cases h1 : (s.size : Int) > 24
 ·
  rw [if_pos h1, if_neg z2_]
 rw [if_neg h1, if_pos z2_, kC l z2_, Option.bind_some, if_pos z2_]
 simp only [Option.bind_some]
 rw [if_pos (by simp; omega), show ((s.size : Int) % 256) = s.size from by omega]
 simp
theorem gT (l : List Int) : ∀ a : Int, 0 ≤ a → Bytes l → 0 ≤ val a l := by
 induction l with
 | nil => intro a h _; exact h
 | cons b l ih =>
  intro a h hb
  have := hb.head
  exact ih _ (by unfold Byte at this; omega) hb.tail
theorem val_lt (l : List Int) : ∀ a : Int, 0 ≤ a → Bytes l → val a l < (a + 1) * 256 ^ l.length := by
 induction l with
 | nil => intro a h _; simp [val]; omega
 | cons b l ih =>
  intro a h hb
  have h1 := hb.head
  unfold Byte at h1
  have h2 := ih (a * 256 + b) z2_ hb.tail
  have h3 := pow_pos l.length
  rw [val]
  refine Int.lt_of_lt_of_le h2 ?_
  rw [List.length_cons, Int.pow_succ, Int.mul_comm ((256 : Int) ^ l.length), ← Int.mul_assoc]
  exact Int.mul_le_mul_of_nonneg_right z2_ z2_
theorem or_u64 (a b : Int) (h0 : 0 ≤ a) (h1 : a * 256 < 18446744073709551616) (hb : Byte b) : Go.bits .or .u64 (IntKind.u64.wrap (a * 256)) (IntKind.u64.wrap b) = a * 256 + b := by
 unfold Byte at hb
 rw [wu64 z2_ h1, wu64 z2_ z2_]
 exact bits_join .u64 64 z4_ (fun n h h' => wu64 h z2_) 8 _ _ z2_ z2_ z2_ z2_ z2_ z2_
theorem gC {l : List Int} {i : Nat} {b : Int} {m : List Int} (h : l.drop i = b :: m) : rd l i = b := by
 have hi : i < l.length := by
  rcases Nat.lt_or_ge i l.length with h1 | h1
  ·
   exact h1
  ·
   rw [List.drop_eq_nil_of_le h1] at h; cases h
 show l.getD (i : Int).toNat 0 = b
 rw [List.getD_eq_getElem?_getD, Int.toNat_natCast, List.getElem?_eq_getElem hi]
 have := List.drop_eq_getElem_cons hi
 rw [this] at h
 injection h
theorem jJ {l : List Int} {i : Nat} {b : Int} {m : List Int} (h : l.drop i = b :: m) : l.drop (i + 1) = m := by
 have := congrArg List.tail h
 rwa [List.tail_drop] at this
theorem drop_lt {l : List Int} {i : Nat} {b : Int} {m : List Int} (h : l.drop i = b :: m) : i < l.length := by
 rcases Nat.lt_or_ge i l.length with h1 | h1
 ·
  exact h1
 ·
  rw [List.drop_eq_nil_of_le h1] at h; cases h
theorem kB {l : List Int} {i : Nat} (h : l.drop i = []) : l.length ≤ i := by
 rcases Nat.lt_or_ge i l.length with h1 | h1
 ·
  have := List.drop_eq_getElem_cons h1; rw [this] at h; cases h
 ·
  exact h1
theorem num_l0 (l : List Int) (hb : Bytes l) (m : List Int) : ∀ (k i : Nat) (a : Int), l.drop i = m → 0 ≤ a → (a + 1) * 256 ^ m.length ≤ 18446744073709551616 → i + m.length ≤ 1000 → m.length < k →
  dU.l0 k a l (l.length : Int) i = some (val a m) := by
 induction m with
 | nil =>
  intro k i a h h0 h1 hi hk
  obtain ⟨k, rfl⟩ : ∃ m, k = m + 1 := ⟨k - 1, by omega⟩
  have := kB h
  simp only [dU.l0]
  rw [if_neg z2_]
  rfl
 | cons b m ih =>
  intro k i a h h0 h1 hi hk
  obtain ⟨k, rfl⟩ : ∃ m, k = m + 1 := ⟨k - 1, by omega⟩
  have hlt := drop_lt h
  have hbb : Byte b := by have := hb.rd i; rw [gC h] at this; exact this
  have hbb' := hbb
  unfold Byte at hbb'
  simp only [List.length_cons] at hi hk h1
  have hp := pow_pos m.length
  have h2 : (a * 256 + b + 1) * 256 ^ m.length ≤ 18446744073709551616 := by
   refine Int.le_trans ?_ h1
   rw [Int.pow_succ, Int.mul_comm ((256 : Int) ^ m.length), ← Int.mul_assoc]
   exact Int.mul_le_mul_of_nonneg_right z2_ z2_
  have h3 : (a * 256 + b + 1) * 1 ≤ (a * 256 + b + 1) * 256 ^ m.length := Int.mul_le_mul_of_nonneg_left z2_ z2_
  simp only [dU.l0]
  rw [if_pos z2_, if_pos z2_, if_pos z2_, gC h, or_u64 a b h0 z2_ hbb, w64 z2_ z2_]
  exact ih k (i + 1) _ (jJ h) z2_ h2 z2_ z2_
theorem num_eq (k : Nat) (l : List Int) (hb : Bytes l) (hl : l.length ≤ 8) (hk : 10 ≤ k) : dU.f k l = some (val 0 l) := by
 unfold dU.f
 refine num_l0 l hb l k 0 0 rfl z2_ ?_ z2_ z2_
 have : l.length = 8 ∨ l.length ≤ 7 := by omega
 rcases this with h | h
 ·
  rw [h]; decide
 ·
  have := pow256_le h; omega
def sub (l : List Int) (a b : Nat) : List Int := (l.take b).drop a
theorem eT {l : List Int} {a b : Nat} (h : b ≤ l.length) : (sub l a b).length = b - a := by simp [sub]; omega
theorem fG {l : List Int} (h : Bytes l) (a b : Nat) : Bytes (sub l a b) := (h.take b).drop a
def sGet (l : List Int) (at_ size : Int) : Int × Int × Int :=
 if 1 ≤ size ∧ size ≤ 7 ∧ 0 ≤ at_ ∧ at_ ≤ l.length then (if l.length - at_ < size then (0, 0, 3) else (val 0 (sub l at_.toNat (at_ + size).toNat), at_ + size, 0)) else (0, 0, 1)
theorem val7 {l : List Int} (hb : Bytes l) (h : l.length ≤ 7) : 0 ≤ val 0 l ∧ val 0 l < 72057594037927936 := by
 have h1 := val_lt l 0 z2_ hb
 have h2 := pow256_le h
 exact ⟨gT l 0 z2_ hb, by omega⟩
theorem get_eq (k : Nat) (l : List Int) (at_ size : Int) (hb : Bytes l) (hl : l.length ≤ 1000000) (ha : at_ ≤ 9223372036854775807) (hk : 20 ≤ k) : wire_Get.f k l at_ size = some (sGet l at_ size) := by
 obtain ⟨k, rfl⟩ : ∃ m, k = m + 1 := ⟨k - 1, by omega⟩
 unfold wire_Get.f sGet
 by_cases h1 : size < 1
 ·
  rw [if_pos h1, if_neg z2_]; simp [wire_Get.j0]
 rw [if_neg h1]
 by_cases h2 : size > 7
 ·
  rw [if_pos h2, if_neg z2_]; simp [wire_Get.j0]
 rw [if_neg h2]
 by_cases h3 : at_ < 0
 ·
  rw [if_pos h3, if_neg z2_]; simp [wire_Get.j0]
 rw [if_neg h3]
 by_cases h4 : at_ > (l.length : Int)
 ·
  rw [if_neg z2_]; simp [wire_Get.j0, h4]
 rw [if_pos z2_]
 simp only [wire_Get.j0, h4, decide_false]
 rw [if_neg (by simp), w64 z2_ z2_]
 by_cases h5 : (l.length : Int) - at_ < size
 ·
  rw [if_pos h5, if_pos h5]
 have hs : (sub l at_.toNat (at_ + size).toNat).length ≤ 7 := by rw [eT z2_]; omega
 have hv := val7 (fG hb at_.toNat (at_ + size).toNat) hs
 rw [if_neg h5, if_neg h5, w64 z2_ z2_, if_pos z2_, if_pos z2_, if_pos z2_]
 have := num_eq k (sub l at_.toNat (at_ + size).toNat) (fG hb _ _) z2_ z2_
 unfold sub at this
 rw [this, Option.bind_some, ]
 unfold sub at hv
 rw [w64 z2_ z2_]
 rfl
def sGetInt (l : List Int) (at_ : Int) : Int × Int × Int :=
  if 0 ≤ at_ ∧ at_ ≤ l.length then
    (if l.length - at_ < 9 ∨ rd l at_ > 1 ∨ val 0 (sub l (at_ + 1).toNat (at_ + 9).toNat) > 1152921504606846976 ∨ (rd l at_ = 1 ∧ val 0 (sub l (at_ + 1).toNat (at_ + 9).toNat) = 0) then (0, 0, 3)
     else if rd l at_ = 1 then (-(val 0 (sub l (at_ + 1).toNat (at_ + 9).toNat)), at_ + 9, 0) else (val 0 (sub l (at_ + 1).toNat (at_ + 9).toNat), at_ + 9, 0))
  else (0, 0, 1)
theorem getInt_eq (k : Nat) (l : List Int) (at_ : Int) (hb : Bytes l) (hl : l.length ≤ 1000000) (ha : at_ ≤ 9223372036854775807) (hk : 20 ≤ k) : bO.f k l at_ = some (sGetInt l at_) := by
 obtain ⟨k, rfl⟩ : ∃ m, k = m + 3 := ⟨k - 3, by omega⟩
 unfold bO.f sGetInt
 by_cases h1 : at_ < 0
 ·
  rw [if_pos h1, if_neg z2_]; simp [bO.j0]
 rw [if_neg h1]
 by_cases h2 : at_ > (l.length : Int)
 ·
  rw [if_neg z2_]; simp [bO.j0, h2]
 rw [if_pos z2_]
 simp only [bO.j0, h2, decide_false]
 rw [if_neg (by simp), w64 z2_ z2_]
 by_cases h3 : (l.length : Int) - at_ < 9
 ·
  rw [if_pos h3, if_pos (Or.inl h3)]; simp [bO.j1]
 rw [if_neg h3, if_pos z2_, if_pos z2_]
 by_cases h4 : rd l at_ > 1
 ·
  rw [if_pos (Or.inr (Or.inl h4))]; simp [bO.j1, h4]
 have hs : (sub l (at_ + 1).toNat (at_ + 9).toNat).length = 8 := by rw [eT z2_]; omega
 have hn := fun k' (hk' : 10 ≤ k') => num_eq k' (sub l (at_ + 1).toNat (at_ + 9).toNat) (fG hb _ _) z2_ hk'
 have hv := gT (sub l (at_ + 1).toNat (at_ + 9).toNat) 0 z2_ (fG hb _ _)
 have hr := hb.rd at_
 unfold Byte at hr
 simp only [bO.j1, h4, decide_false]
 rw [if_neg (by simp), w64 z2_ z2_, w64 z2_ z2_, if_pos z2_, if_pos z2_, if_pos z2_]
 generalize hV : val 0 (sub l (at_ + 1).toNat (at_ + 9).toNat) = V at *
 unfold sub at hn
 rw [hn _ z2_, Option.bind_some]
 by_cases h5 : V > 1152921504606846976
 ·
  rw [if_pos h5, if_pos z2_]; simp [bO.j2]
 rw [if_neg h5, if_pos z2_, if_pos z2_]
 by_cases h6 : rd l at_ = 1
 rotate_left
 ·
  rw [if_neg h6, if_neg (by simp; omega), if_neg h6]
  simp only [bO.j2]
  rw [if_neg (by simp), if_pos z2_, if_pos z2_, if_neg h6, w64 (x := V) z2_ z2_, w64 (x := at_ + 9) z2_ z2_]
 rw [if_pos h6]
 by_cases h7 : V = 0
 ·
  rw [if_pos z2_]; simp [bO.j2, h7]
 have h7' : (V == 0) = false := by simpa using h7
 rw [if_neg (by simp; omega), if_pos h6]
 simp only [bO.j2, h7']
 rw [if_neg (by simp), if_pos z2_, if_pos z2_, if_pos h6, w64 (x := V) z2_ z2_, w64 (x := -V) z2_ z2_, w64 (x := at_ + 9) z2_ z2_]
def sGetText (l : List Int) (at_ : Int) : ByteArray × Int × Int :=
  if 0 ≤ at_ ∧ at_ ≤ l.length then
    (if at_ = l.length ∨ rd l at_ > 24 ∨ l.length - at_ - 1 < rd l at_ then (⟨#[]⟩, 0, 3)
     else (strOfNums (sub l (at_ + 1).toNat (at_ + 1 + rd l at_).toNat), at_ + 1 + rd l at_, 0))
  else (⟨#[]⟩, 0, 1)
theorem getText_eq (k : Nat) (l : List Int) (at_ : Int) (hb : Bytes l) (hl : l.length ≤ 1000000) (ha : at_ ≤ 9223372036854775807) (hk : 20 ≤ k) : wire_GetText.f k l at_ = some (sGetText l at_) := by
 obtain ⟨k, rfl⟩ : ∃ m, k = m + 1 := ⟨k - 1, by omega⟩
 unfold wire_GetText.f sGetText
 by_cases h1 : at_ < 0
 ·
  rw [if_pos h1, if_neg z2_]; simp [wire_GetText.j0]
 rw [if_neg h1]
 by_cases h2 : at_ > (l.length : Int)
 ·
  rw [if_neg z2_]; simp [wire_GetText.j0, h2]
 rw [if_pos z2_]
 simp only [wire_GetText.j0, h2, decide_false]
 rw [if_neg (by simp)]
 by_cases h3 : at_ = (l.length : Int)
 ·
  rw [if_pos h3, if_pos (Or.inl h3)]
 have hr := hb.rd at_
 unfold Byte at hr
 rw [if_neg h3, if_pos z2_, if_pos z2_, w64 z2_ z2_]
 by_cases h4 : rd l at_ > 24
 ·
  rw [if_pos h4, if_pos (Or.inr (Or.inl h4))]
 rw [if_neg h4, w64 (x := (l.length : Int) - at_) z2_ z2_, w64 z2_ z2_]
 by_cases h5 : (l.length : Int) - at_ - 1 < rd l at_
 ·
  rw [if_pos h5, if_pos (Or.inr (Or.inr h5))]
 rw [if_neg h5, w64 (x := at_ + 1) z2_ z2_, w64 (x := at_ + 1 + rd l at_) z2_ z2_, if_pos z2_, if_pos z2_, if_pos z2_, if_neg z2_]
 rfl
end Go.Proofs.Ytcbfliajgopdaaa.Plain
end
section
namespace Go.Proofs.Ytcbfliajgopdaaa.Plain
open Go.RowKit PAll PrintWords PrintLast PrintMore ZipT PrintWords.Kd PrintMore.Kd
set_option linter.unusedVariables false
set_option linter.unusedSimpArgs false
theorem jZ (s : ByteArray) : strOfNums (bytesOf s) = s := by
 unfold strOfNums bytesOf
 rw [List.map_map]
 have : (fun n : Int => UInt8.ofNat n.toNat) ∘ (fun b : UInt8 => (b.toNat : Int)) = id := by
  funext b; simp
 rw [this, List.map_id]
theorem jM (s : ByteArray) : Bytes (bytesOf s) := by
 intro b hb
 unfold bytesOf at hb
 obtain ⟨c, _, rfl⟩ := List.mem_map.1 hb
 have := c.toNat_lt
 exact ⟨by omega, by omega⟩
theorem fU {l : List Int} (h : Bytes l) : bytesOf (strOfNums l) = l := by
 unfold strOfNums bytesOf
 simp only [List.map_map]
 induction l with
 | nil => rfl
 | cons b l ih =>
  have hb := h.head
  unfold Byte at hb
  rw [List.map_cons, ih h.tail]
  congr 1
  simp
  omega
theorem iS (l : List Int) : (strOfNums l).size = l.length := by
 unfold strOfNums; simp [ByteArray.size]
theorem hO (n : Int) : (intB n).length = 9 := by unfold intB; split <;> simp [dL]
theorem intB_bytes (n : Int) : Bytes (intB n) := by
 unfold intB
 split
 ·
  exact Bytes.cons ⟨by decide, by decide⟩ (dA _ _)
 ·
  exact Bytes.cons ⟨by decide, by decide⟩ (dA _ _)
theorem sub_mid (a b c : List Int) {i j : Nat} (hi : i = a.length) (hj : j = a.length + b.length) : sub (a ++ b ++ c) i j = b := by
 subst hi hj
 unfold sub
 rw [List.take_append_of_le_length (by simp), ← List.length_append, List.take_length, List.drop_left]
theorem hU (a : List Int) (b : Int) (c : List Int) {i : Int} (hi : i = a.length) : rd (a ++ b :: c) i = b := by
 subst hi
 exact gC (m := c) (by rw [List.drop_left])
theorem pow8 : (256 : Int) ^ 8 = 18446744073709551616 := by decide
theorem val_big8 {n : Int} (h0 : 0 ≤ n) (h1 : n < 18446744073709551616) : val 0 (big n 8) = n := by
 rw [val_big, pow8]; omega
theorem getInt_put (a c : List Int) (n : Int) (h0 : -1152921504606846976 ≤ n) (h1 : n ≤ 1152921504606846976) :
  sGetInt (a ++ intB n ++ c) a.length = (n, (a.length : Int) + 9, 0) := by
 unfold sGetInt
 have hl : (a ++ intB n ++ c).length = a.length + 9 + c.length := by simp [hO]; omega
 rw [if_pos z2_]
 by_cases h : n < 0
 rotate_left
 ·
  have e : a ++ intB n ++ c = a ++ 0 :: (big n 8 ++ c) := by unfold intB; rw [if_neg h]; simp
  have e2 : a ++ intB n ++ c = (a ++ [0]) ++ big n 8 ++ c := by unfold intB; rw [if_neg h]; simp
  have hs : sub (a ++ intB n ++ c) ((a.length : Int) + 1).toNat ((a.length : Int) + 9).toNat = big n 8 := by
   rw [e2]; exact sub_mid _ _ _ (by simp <;> omega) (by simp [dL] <;> omega)
  have hr : rd (a ++ intB n ++ c) (a.length : Int) = 0 := by rw [e]; exact hU _ _ _ rfl
  rw [hs, val_big8 z2_ z2_, hr, if_neg z2_, if_neg z4_]
 have e : a ++ intB n ++ c = a ++ 1 :: (big (-n) 8 ++ c) := by unfold intB; rw [if_pos h]; simp
 have e2 : a ++ intB n ++ c = (a ++ [1]) ++ big (-n) 8 ++ c := by unfold intB; rw [if_pos h]; simp
 have hs : sub (a ++ intB n ++ c) ((a.length : Int) + 1).toNat ((a.length : Int) + 9).toNat = big (-n) 8 := by
  rw [e2]; exact sub_mid _ _ _ (by simp <;> omega) (by simp [dL] <;> omega)
 have hr : rd (a ++ intB n ++ c) (a.length : Int) = 1 := by rw [e]; exact hU _ _ _ rfl
 rw [hs, val_big8 z2_ z2_, hr, if_neg z2_, if_pos rfl]
 simp
theorem get_put (a c : List Int) (n : Int) (s : Nat) (hs0 : 1 ≤ s) (hs : s ≤ 7) (h0 : 0 ≤ n) (h1 : n < 256 ^ s) :
  sGet (a ++ big n s ++ c) a.length s = (n, (a.length : Int) + s, 0) := by
 unfold sGet
 have hl : (a ++ big n s ++ c).length = a.length + s + c.length := by simp [dL]; omega
 rw [if_pos z2_, if_neg z2_, sub_mid _ _ _ z2_ (by simp [dL]; omega), val_big]
 simp
 exact Int.emod_eq_of_lt h0 h1
theorem getText_put (a c : List Int) (s : ByteArray) (h : s.size ≤ 24) :
  sGetText (a ++ (s.size : Int) :: bytesOf s ++ c) a.length = (s, (a.length : Int) + 1 + s.size, 0) := by
 unfold sGetText
 have hl : (a ++ (s.size : Int) :: bytesOf s ++ c).length = a.length + 1 + s.size + c.length := by simp [dV]; omega
 have e : a ++ (s.size : Int) :: bytesOf s ++ c = a ++ (s.size : Int) :: (bytesOf s ++ c) := by simp
 have e2 : a ++ (s.size : Int) :: bytesOf s ++ c = (a ++ [(s.size : Int)]) ++ bytesOf s ++ c := by simp
 have hr : rd (a ++ (s.size : Int) :: bytesOf s ++ c) (a.length : Int) = s.size := by rw [e]; exact hU _ _ _ rfl
 have hs : sub (a ++ (s.size : Int) :: bytesOf s ++ c) ((a.length : Int) + 1).toNat ((a.length : Int) + 1 + s.size).toNat = bytesOf s := by
  rw [e2]; exact sub_mid _ _ _ (by simp <;> omega) (by simp [dV] <;> omega)
 rw [if_pos z2_, hr, if_neg z2_, hs, jZ]
end Go.Proofs.Ytcbfliajgopdaaa.Plain
end
