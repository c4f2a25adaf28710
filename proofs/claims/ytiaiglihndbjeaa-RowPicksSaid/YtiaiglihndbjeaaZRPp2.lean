-- Put together by a program of this session (wip/slice2.py) out of the seat's texts.
import Derived.Test.YtiaiglihndbjeaaZRPp1

section
namespace Go.Proofs.Ytiaiglihndbjeaa.PAll
open Go.RowKit Go.Proofs.YtiaiglihndbjeaaW.PrintWords Go.Proofs.YtiaiglihndbjeaaW.PrintLast Go.Proofs.YtiaiglihndbjeaaW.PrintMore Go.Proofs.Ytiaiglihndbjeaa.ZipT Go.Proofs.YtiaiglihndbjeaaW.PrintWords.Kd Go.Proofs.YtiaiglihndbjeaaW.PrintMore.Kd
attribute [local go_sem] max2_int min2_int max_two min_two max_three min_three max_four min_four   -- for this text's walks alone
set_option linter.unusedVariables false
set_option linter.unusedSimpArgs false
mutual
def raddlelaw04_RowPicks.j0 : Nat → List (S39) → List Int → List Int → List Int → Bool → Option (Bool)
 | 0, _, _, _, _, _ => none
 | k + 1, x0, x1, x2, x3, x58 => if x58 = true then (some true) else (raddlelaw04_RowPicks.l0 k x0 x1 x2 x3 ([] : List Int) 0)
def raddlelaw04_RowPicks.l0 : Nat → List (S39) → List Int → List Int → List Int → List Int → Int → Option (Bool)
 | 0, _, _, _, _, _, _ => none
 | k + 1, x0, x1, x2, x3, x9, x14 => if x14 < (x0.length : Int) then ((some (([x14] : List Int) : List Int)).bind fun y275 => (if x9.length + y275.length < 17592186044416 then (raddlelaw04_RowPicks.l0 k x0 x1 x2 x3 (x9 ++ y275) (wrap64 (x14 + 1))) else (none))) else (raddlelaw04_RowPicks.l1 k x0 x1 x2 x3 x9 ([] : List Int) 0)
def raddlelaw04_RowPicks.l1 : Nat → List (S39) → List Int → List Int → List Int → List Int → List Int → Int → Option (Bool)
 | 0, _, _, _, _, _, _, _ => none
 | k + 1, x0, x1, x2, x3, x9, x10, x15 => if x15 < (x2.length : Int) then (if 0 ≤ x15 then (if (IntKind.u64.wrap ((x0.length : Int))) = 0 then (none) else ((some (([wrap64 (Int.tmod (IntKind.u64.wrap (rd x2 x15)) (IntKind.u64.wrap ((x0.length : Int))))] : List Int) : List Int)).bind fun y282 => (if x10.length + y282.length < 17592186044416 then (raddlelaw04_RowPicks.l1 k x0 x1 x2 x3 x9 (x10 ++ y282) (wrap64 (x15 + 1))) else (none)))) else (none)) else (raddlelaw04_RowPicks.l2 k x0 x1 x3 x9 x10 ([] : List Int) ([] : List Int) 0)
def raddlelaw04_RowPicks.l2 : Nat → List (S39) → List Int → List Int → List Int → List Int → List Int → List Int → Int → Option (Bool)
 | 0, _, _, _, _, _, _, _, _ => none
 | k + 1, x0, x1, x3, x9, x10, x11, x12, x16 => if x16 < (x3.length : Int) then (if 0 ≤ x16 then (if (IntKind.u64.wrap ((x10.length : Int))) = 0 then (none) else ((some (([wrap64 (Int.tmod (IntKind.u64.wrap (rd x3 x16)) (IntKind.u64.wrap ((x10.length : Int))))] : List Int) : List Int)).bind fun y289 => (if x11.length + y289.length < 17592186044416 then (if 0 ≤ (wrap64 (Int.tmod (IntKind.u64.wrap (rd x3 x16)) (IntKind.u64.wrap ((x10.length : Int))))) then (if (wrap64 (Int.tmod (IntKind.u64.wrap (rd x3 x16)) (IntKind.u64.wrap ((x10.length : Int))))) < (x10.length : Int) then ((some (([rd x10 (wrap64 (Int.tmod (IntKind.u64.wrap (rd x3 x16)) (IntKind.u64.wrap ((x10.length : Int)))))] : List Int) : List Int)).bind fun y296 => (if x12.length + y296.length < 17592186044416 then (raddlelaw04_RowPicks.l2 k x0 x1 x3 x9 x10 (x11 ++ y289) (x12 ++ y296) (wrap64 (x16 + 1))) else (none))) else (none)) else (none)) else (none)))) else (none)) else ((row_Pick.f k x0 x9).bind fun bt302 => ((row_Pick.f k x0 x10).bind fun bt306 => ((row_Pick.f k bt306.1 x11).bind fun bt310 => ((row_Pick.f k x0 x12).bind fun bt314 => (if bt302.2 = 0 then (if bt306.2 = 0 then (if bt310.2 = 0 then (if bt314.2 = 0 then ((raddlekeep_Row.f k bt302.1 x0).bind fun t318 => (if t318 = true then ((raddlekeep_Row.f k bt310.1 bt314.1).bind fun t319 => (if t319 = true then (raddlelaw04_RowPicks.j4 k x0 x1 x10 ([] : List Int) bt306.1 ((bt306.1.length : Int) != (x10.length : Int))) else (raddlelaw04_RowPicks.j4 k x0 x1 x10 ([] : List Int) bt306.1 true))) else (raddlelaw04_RowPicks.j4 k x0 x1 x10 ([] : List Int) bt306.1 true))) else (raddlelaw04_RowPicks.j4 k x0 x1 x10 ([] : List Int) bt306.1 true)) else (raddlelaw04_RowPicks.j4 k x0 x1 x10 ([] : List Int) bt306.1 true)) else (raddlelaw04_RowPicks.j4 k x0 x1 x10 ([] : List Int) bt306.1 true)) else (raddlelaw04_RowPicks.j4 k x0 x1 x10 ([] : List Int) bt306.1 true))))))
def raddlelaw04_RowPicks.j4 : Nat → List (S39) → List Int → List Int → List Int → List (S39) → Bool → Option (Bool)
 | 0, _, _, _, _, _, _ => none
 | k + 1, x0, x1, x10, x13, x20, x171 => if x171 = true then (some false) else (if (x1.length : Int) = (x0.length : Int) then ((row_Fits.f k x0 x1).bind fun t320 => (raddlelaw04_RowPicks.j5 k x1 x10 x13 x20 t320)) else (raddlelaw04_RowPicks.j5 k x1 x10 x13 x20 false))
def raddlelaw04_RowPicks.j5 : Nat → List Int → List Int → List Int → List (S39) → Bool → Option (Bool)
 | 0, _, _, _, _, _ => none
 | k + 1, x1, x10, x13, x20, x181 => if x181 = true then (raddlelaw04_RowPicks.l3 k x1 x10 x13 x20 0) else ((raddlelaw04_wakes.f k).bind fun t331 => (some t331))
def raddlelaw04_RowPicks.l3 : Nat → List Int → List Int → List Int → List (S39) → Int → Option (Bool)
 | 0, _, _, _, _, _ => none
 | k + 1, x1, x10, x13, x20, x26 => if x26 < (x10.length : Int) then (if 0 ≤ x26 then (if 0 ≤ (rd x10 x26) then (if (rd x10 x26) < (x1.length : Int) then ((some (([rd x1 (rd x10 x26)] : List Int) : List Int)).bind fun y323 => (if x13.length + y323.length < 17592186044416 then (raddlelaw04_RowPicks.l3 k x1 x10 (x13 ++ y323) x20 (wrap64 (x26 + 1))) else (none))) else (none)) else (none)) else (none)) else ((row_Fits.f k x20 x13).bind fun t329 => (if t329 = true then ((raddlelaw04_wakes.f k).bind fun t330 => (some t330)) else (some false)))
end
def raddlelaw04_RowPicks.f (k : Nat) (l0 : List (S39)) (l1 : List Int) (l2 : List Int) (l3 : List Int) : Option (Bool) := (raddlelaw04_Heavy.f k l0).bind fun t274 => (if t274 = true then (raddlelaw04_RowPicks.j0 k l0 l1 l2 l3 true) else (if (l0.length : Int) = 0 then (raddlelaw04_RowPicks.j0 k l0 l1 l2 l3 true) else (if (l0.length : Int) > 12 then (raddlelaw04_RowPicks.j0 k l0 l1 l2 l3 true) else (if (l2.length : Int) = 0 then (raddlelaw04_RowPicks.j0 k l0 l1 l2 l3 true) else (if (l2.length : Int) > 12 then (raddlelaw04_RowPicks.j0 k l0 l1 l2 l3 true) else (if (l3.length : Int) > 12 then (raddlelaw04_RowPicks.j0 k l0 l1 l2 l3 true) else (raddlelaw04_RowPicks.j0 k l0 l1 l2 l3 (decide ((l1.length : Int) > 40)))))))))
def raddlelaw04_RowPicks.T16 : Bool × List (List Nat × List Nat) := (true, [([], []), ([], []), ([1], [1]), ([0, 2], [0, 2]), ([], []), ([], []), ([], []), ([5, 6], [5, 6]), ([7], [7]), ([8], [8]), ([4, 9, 3], [4, 9]), ([3, 10, 0, 1, 2, 3], [0, 3]), ([10, 11, 0, 1, 2, 3, 4, 5, 6, 7, 8, 9, 10, 11], [4, 10])])
def raddlelaw04_RowPicks.B16 : List Nat := [0, 0, 2, 7, 0, 0, 0, 96, 224, 480, 1023, 2047, 4095]
theorem raddlelaw04_RowPicks.tab16 : rtab .any (opsOf Try.f9 16) = raddlelaw04_RowPicks.T16 := by kernel_rfl
theorem raddlelaw04_RowPicks.bits16 : waitsOk raddlelaw04_RowPicks.T16.2 raddlelaw04_RowPicks.B16 = true := by kernel_rfl
set_option maxHeartbeats 8000000 in
set_option maxRecDepth 100000 in
theorem raddlelaw04_RowPicks.calls (k : Nat) (A0 : Option Addr) (c0 : Nat) (l0 : List (S39)) (A1 : Option Addr) (c1 : Nat) (l1 : List Int) (A2 : Option Addr) (c2 : Nat) (l2 : List Int) (A3 : Option Addr) (c3 : Nat) (l3 : List Int) (r : Bool) (w : World) (hr0 : Kd.C k39 w A0 l0.length l0) (hc0 : l0.length ≤ c0) (hr1 : Kd.C (Kd.int .i64) w A1 l1.length l1) (hc1 : l1.length ≤ c1) (hr2 : Kd.C (Kd.int .i64) w A2 l2.length l2) (hc2 : l2.length ≤ c2) (hr3 : Kd.C (Kd.int .i64) w A3 l3.length l3) (hc3 : l3.length ≤ c3) (hrt : r = true) (h : raddlelaw04_RowPicks.f k l0 l1 l2 l3 = some r) :
  Calls Try.prog 9 #[.slice A0 l0.length c0, .slice A1 l1.length c1, .slice A2 l2.length c2, .slice A3 l3.length c3] w fun e w' => e = .returned (.bool r) ∧ Below w.heap.size w w' := by
 have HR0 := mk_ hr0
 have HC0 := mk_ hc0
 clear hr0 hc0
 have HR1 := mk_ hr1
 have HC1 := mk_ hc1
 clear hr1 hc1
 have HR2 := mk_ hr2
 have HC2 := mk_ hc2
 clear hr2 hc2
 have HR3 := mk_ hr3
 have HC3 := mk_ hc3
 clear hr3 hc3
 have HB := mk_ (Below.refl w.heap.size w)
 have H : ((raddlelaw04_Heavy.f k l0).bind fun t274 => (if t274 = true then (raddlelaw04_RowPicks.j0 k l0 l1 l2 l3 true) else (if (l0.length : Int) = 0 then (raddlelaw04_RowPicks.j0 k l0 l1 l2 l3 true) else (if (l0.length : Int) > 12 then (raddlelaw04_RowPicks.j0 k l0 l1 l2 l3 true) else (if (l2.length : Int) = 0 then (raddlelaw04_RowPicks.j0 k l0 l1 l2 l3 true) else (if (l2.length : Int) > 12 then (raddlelaw04_RowPicks.j0 k l0 l1 l2 l3 true) else (if (l3.length : Int) > 12 then (raddlelaw04_RowPicks.j0 k l0 l1 l2 l3 true) else (raddlelaw04_RowPicks.j0 k l0 l1 l2 l3 (decide ((l1.length : Int) > 40)))))))))) = some r := h
 clear h
 have HC5 := mk_ H
 clear H
 go_enter Try.func9, Try.ntmps9
 go_upto_region 1 with (fail)
 go_cut [58] (fun v58 wc => ∃ (kq : Nat) (x58_4 : Bool), v58 = .bool x58_4 ∧ Aside0 (raddlelaw04_RowPicks.j0 kq l0 l1 l2 l3 x58_4 = some r) ∧ Aside0 (kq ≤ k) ∧ Aside0 (Below w.heap.size w wc))
 case first =>
  have H := HC5.out
  clear HC5
  replace H := Option.bind_eq_some_iff.mp H
  obtain ⟨t274, A60, H⟩ := H
  replace H : (if t274 = true then (raddlelaw04_RowPicks.j0 k l0 l1 l2 l3 true) else (if (l0.length : Int) = 0 then (raddlelaw04_RowPicks.j0 k l0 l1 l2 l3 true) else (if (l0.length : Int) > 12 then (raddlelaw04_RowPicks.j0 k l0 l1 l2 l3 true) else (if (l2.length : Int) = 0 then (raddlelaw04_RowPicks.j0 k l0 l1 l2 l3 true) else (if (l2.length : Int) > 12 then (raddlelaw04_RowPicks.j0 k l0 l1 l2 l3 true) else (if (l3.length : Int) > 12 then (raddlelaw04_RowPicks.j0 k l0 l1 l2 l3 true) else (raddlelaw04_RowPicks.j0 k l0 l1 l2 l3 (decide ((l1.length : Int) > 40))))))))) = some r := H
  have A6 := mk_ A60
  clear A60
  by_cases c7 : t274 = true
  ·
   subst c7
   have H1 : (raddlelaw04_RowPicks.j0 k l0 l1 l2 l3 true) = some r := by rw [if_pos rfl] at H; exact H
   clear H
   have H := H1
   clear H1
   have H' := mk_ H
   clear H
   go_wp2_with (first | ((with_reducible refine gate_callee (f := 17) rfl ?_); refine Short.gL (some 28) Try.func17 #[.slice A0 l0.length c0] (h := ?_); (with_reducible refine (raddlelaw04_Heavy.calls k _ _ l0 true _ ?side1 ?side2 A6.out).mono ?_); (case side1 => exact cX_ (C_below HR0.out HB.out)); (case side2 => exact HC0.out); rintro e w' ⟨rfl, ⟨nd, rfl⟩⟩; refine ⟨_, rfl, ?_⟩))
   go_meet
   case rel => exact ⟨_, (true), z1_, H', ⟨by first | omega | exact Nat.le_refl _⟩, ⟨Short.hB HB⟩⟩
  ·
   replace c7 := Bool.eq_false_iff.mpr c7
   subst c7
   have H1 : (if (l0.length : Int) = 0 then (raddlelaw04_RowPicks.j0 k l0 l1 l2 l3 true) else (if (l0.length : Int) > 12 then (raddlelaw04_RowPicks.j0 k l0 l1 l2 l3 true) else (if (l2.length : Int) = 0 then (raddlelaw04_RowPicks.j0 k l0 l1 l2 l3 true) else (if (l2.length : Int) > 12 then (raddlelaw04_RowPicks.j0 k l0 l1 l2 l3 true) else (if (l3.length : Int) > 12 then (raddlelaw04_RowPicks.j0 k l0 l1 l2 l3 true) else (raddlelaw04_RowPicks.j0 k l0 l1 l2 l3 (decide ((l1.length : Int) > 40)))))))) = some r := by rw [if_neg (show ¬ (false = true) by decide)] at H; exact H
   clear H
   have H := H1
   clear H1
   by_cases c8 : (l0.length : Int) = 0
   ·
    rw [if_pos c8] at H
    have c8b0 : ((l0.length : Int) == 0) = true := beq_iff_eq.mpr c8
    have c8b1 : ((l0.length : Int) != 0) = false := bne_eq_false_iff_eq.mpr c8
    clear c8
    (first | rw [c8b0] | (simp only [i64_w, i32_w]; rw [c8b0]) | skip)
    have H' := mk_ H
    clear H
    go_wp2_with (first | ((with_reducible refine gate_callee (f := 17) rfl ?_); refine Short.gL (some 28) Try.func17 #[.slice A0 l0.length c0] (h := ?_); (with_reducible refine (raddlelaw04_Heavy.calls k _ _ l0 false _ ?side1 ?side2 A6.out).mono ?_); (case side1 => exact cX_ (C_below HR0.out HB.out)); (case side2 => exact HC0.out); rintro e w' ⟨rfl, ⟨nd, rfl⟩⟩; refine ⟨_, rfl, ?_⟩))
    go_meet
    case rel => exact ⟨_, (true), z1_, H', ⟨by first | omega | exact Nat.le_refl _⟩, ⟨Short.hB HB⟩⟩
   ·
    rw [if_neg c8] at H
    have c8b0 : ((l0.length : Int) == 0) = false := beq_eq_false_iff_ne.mpr c8
    have c8b1 : ((l0.length : Int) != 0) = true := bne_iff_ne.mpr c8
    have c8b2 : ¬ (l0 = []) := fun h_ => c8 (by rw [h_]; rfl)
    (first | rw [c8b0] | (simp only [i64_w, i32_w]; rw [c8b0]) | skip)
    by_cases c9 : (l0.length : Int) > 12
    ·
     rw [if_pos c9] at H
     have c9b0 : decide (12 < (l0.length : Int)) = true := decide_eq_true c9
     have c9b1 : decide (12 < l0.length) = true := decide_eq_true z2_
     clear c9
     have H' := mk_ H
     clear H
     go_wp2_with (first | ((with_reducible refine gate_callee (f := 17) rfl ?_); refine Short.gL (some 28) Try.func17 #[.slice A0 l0.length c0] (h := ?_); (with_reducible refine (raddlelaw04_Heavy.calls k _ _ l0 false _ ?side1 ?side2 A6.out).mono ?_); (case side1 => exact cX_ (C_below HR0.out HB.out)); (case side2 => exact HC0.out); rintro e w' ⟨rfl, ⟨nd, rfl⟩⟩; refine ⟨_, rfl, ?_⟩))
     go_meet
     case rel => exact ⟨_, (true), z1_, H', ⟨by first | omega | exact Nat.le_refl _⟩, ⟨Short.hB HB⟩⟩
    ·
     rw [if_neg c9] at H
     have c9b0 : decide (12 < (l0.length : Int)) = false := decide_eq_false c9
     have c9b1 : decide (12 < l0.length) = false := decide_eq_false z2_
     clear c9
     by_cases c10 : (l2.length : Int) = 0
     ·
      rw [if_pos c10] at H
      have c10b0 : ((l2.length : Int) == 0) = true := beq_iff_eq.mpr c10
      have c10b1 : ((l2.length : Int) != 0) = false := bne_eq_false_iff_eq.mpr c10
      clear c10
      have H' := mk_ H
      clear H
      go_wp2_with (first | ((with_reducible refine gate_callee (f := 17) rfl ?_); refine Short.gL (some 28) Try.func17 #[.slice A0 l0.length c0] (h := ?_); (with_reducible refine (raddlelaw04_Heavy.calls k _ _ l0 false _ ?side1 ?side2 A6.out).mono ?_); (case side1 => exact cX_ (C_below HR0.out HB.out)); (case side2 => exact HC0.out); rintro e w' ⟨rfl, ⟨nd, rfl⟩⟩; refine ⟨_, rfl, ?_⟩))
      go_meet
      case rel => exact ⟨_, (true), z1_, H', ⟨by first | omega | exact Nat.le_refl _⟩, ⟨Short.hB HB⟩⟩
     ·
      rw [if_neg c10] at H
      have c10b0 : ((l2.length : Int) == 0) = false := beq_eq_false_iff_ne.mpr c10
      have c10b1 : ((l2.length : Int) != 0) = true := bne_iff_ne.mpr c10
      have c10b2 : ¬ (l2 = []) := fun h_ => c10 (by rw [h_]; rfl)
      by_cases c11 : (l2.length : Int) > 12
      ·
       rw [if_pos c11] at H
       have c11b0 : decide (12 < (l2.length : Int)) = true := decide_eq_true c11
       have c11b1 : decide (12 < l2.length) = true := decide_eq_true z2_
       clear c11
       have H' := mk_ H
       clear H
       go_wp2_with (first | ((with_reducible refine gate_callee (f := 17) rfl ?_); refine Short.gL (some 28) Try.func17 #[.slice A0 l0.length c0] (h := ?_); (with_reducible refine (raddlelaw04_Heavy.calls k _ _ l0 false _ ?side1 ?side2 A6.out).mono ?_); (case side1 => exact cX_ (C_below HR0.out HB.out)); (case side2 => exact HC0.out); rintro e w' ⟨rfl, ⟨nd, rfl⟩⟩; refine ⟨_, rfl, ?_⟩))
       go_meet
       case rel => exact ⟨_, (true), z1_, H', ⟨by first | omega | exact Nat.le_refl _⟩, ⟨Short.hB HB⟩⟩
      ·
       rw [if_neg c11] at H
       have c11b0 : decide (12 < (l2.length : Int)) = false := decide_eq_false c11
       have c11b1 : decide (12 < l2.length) = false := decide_eq_false z2_
       clear c11
       by_cases c12 : (l3.length : Int) > 12
       ·
        rw [if_pos c12] at H
        have c12b0 : decide (12 < (l3.length : Int)) = true := decide_eq_true c12
        have c12b1 : decide (12 < l3.length) = true := decide_eq_true z2_
        clear c12
        have H' := mk_ H
        clear H
        go_wp2_with (first | ((with_reducible refine gate_callee (f := 17) rfl ?_); refine Short.gL (some 28) Try.func17 #[.slice A0 l0.length c0] (h := ?_); (with_reducible refine (raddlelaw04_Heavy.calls k _ _ l0 false _ ?side1 ?side2 A6.out).mono ?_); (case side1 => exact cX_ (C_below HR0.out HB.out)); (case side2 => exact HC0.out); rintro e w' ⟨rfl, ⟨nd, rfl⟩⟩; refine ⟨_, rfl, ?_⟩))
        go_meet
        case rel => exact ⟨_, (true), z1_, H', ⟨by first | omega | exact Nat.le_refl _⟩, ⟨Short.hB HB⟩⟩
       ·
        rw [if_neg c12] at H
        have c12b0 : decide (12 < (l3.length : Int)) = false := decide_eq_false c12
        have c12b1 : decide (12 < l3.length) = false := decide_eq_false z2_
        clear c12
        have H' := mk_ H
        clear H
        go_wp2_with (first | ((with_reducible refine gate_callee (f := 17) rfl ?_); refine Short.gL (some 28) Try.func17 #[.slice A0 l0.length c0] (h := ?_); (with_reducible refine (raddlelaw04_Heavy.calls k _ _ l0 false _ ?side1 ?side2 A6.out).mono ?_); (case side1 => exact cX_ (C_below HR0.out HB.out)); (case side2 => exact HC0.out); rintro e w' ⟨rfl, ⟨nd, rfl⟩⟩; refine ⟨_, rfl, ?_⟩))
        go_meet
        case rel => exact ⟨_, (decide ((l1.length : Int) > 40)), z1_, H', ⟨by first | omega | exact Nat.le_refl _⟩, ⟨Short.hB HB⟩⟩
 case rest => as_aux_lemma =>
  clear HC5
  try clear c1
  try clear c2
  try clear p2
  try clear c3
  try clear c7
  try clear c8
  try clear c8b0
  try clear c8b1
  try clear c8b2
  try clear c9
  try clear c9b0
  try clear c9b1
  try clear c10
  try clear c10b0
  try clear c10b1
  try clear c10b2
  try clear c11
  try clear c11b0
  try clear c11b1
  try clear c12
  try clear c12b0
  try clear c12b1
  obtain ⟨kq, x58_4, rfl, HA, HJ4, HB⟩ := hcut
  cases kq with
  | zero => exact absurd HA.out (by simp [raddlelaw04_RowPicks.j0])
  | succ kj4 =>
   have H := HA.out
   clear HA
   simp only [raddlelaw04_RowPicks.j0] at H
   by_cases c13 : x58_4 = true
   ·
    subst c13
    have H1 : (some true) = some r := by rw [if_pos rfl] at H; exact H
    clear H
    have H := H1
    clear H1
    obtain rfl := Option.some.inj H
    go_wp2
    go_ret
    exact ⟨by first | rfl | (simp [errW_none, errW_some] <;> rfl) | (simp [*, errW_none, errW_some] <;> rfl), Short.hB HB⟩
   ·
    replace c13 := Bool.eq_false_iff.mpr c13
    subst c13
    have H1 : (raddlelaw04_RowPicks.l0 kj4 l0 l1 l2 l3 ([] : List Int) 0) = some r := by rw [if_neg (show ¬ (false = true) by decide)] at H; exact H
    clear H
    have H := H1
    clear H1
    have H' := mk_ H
    clear H
    go_wp2
    go_loopg [9, 14] kj4 (fun kq v9 v14 w' => ∃ (x9_2 : List Int) (x14_2 : Int), v14 = .int .i64 x14_2 ∧ Aside0 (raddlelaw04_RowPicks.l0 kq l0 l1 l2 l3 x9_2 x14_2 = some r) ∧ Aside0 (kq ≤ kj4) ∧ Aside0 (Kd.R (Kd.int .i64) 3 w' w.heap.size (fun _ => True) v9 x9_2) ∧ Aside0 (Below w.heap.size w w'))
    case atStart => exact ⟨(([] : List Int)), (0), z1_, H', ⟨Nat.le_refl _⟩, ⟨by first | exact R_nil _ _ _ _ _ | exact N_nil _ _ _ _ _ | exact V_nil _ _ _ _ _ | exact Q_nil _ _ _ _ _ | exact S_nil _ _ _ _ _⟩, ⟨Short.hB HB⟩⟩
    case round =>
     clear H'
     try clear c1
     try clear c2
     try clear p2
     try clear c3
     try clear c7
     try clear c8
     try clear c8b0
     try clear c8b1
     try clear c8b2
     try clear c9
     try clear c9b0
     try clear c9b1
     try clear c10
     try clear c10b0
     try clear c10b1
     try clear c10b2
     try clear c11
     try clear c11b0
     try clear c11b1
     try clear c12
     try clear c12b0
     try clear c12b1
     try clear c13
     try clear p2
     obtain ⟨x9_2, x14_2, rfl, HA, HK2, HO_9, HB⟩ := hrel
     cases gk with
     | zero => exact absurd HA.out (by simp [raddlelaw04_RowPicks.l0])
     | succ k2 =>
      have H := HA.out
      clear HA
      simp only [raddlelaw04_RowPicks.l0] at H
      by_cases c14 : x14_2 < (l0.length : Int)
      ·
       rw [if_pos c14] at H
       have c14b0 : decide (x14_2 < (l0.length : Int)) = true := decide_eq_true c14
       clear c14
       obtain ⟨y275, hy275⟩ : ∃ y_ : List Int, y_ = (([x14_2] : List Int)) := ⟨_, rfl⟩
       replace H : (if x9_2.length + y275.length < 17592186044416 then (raddlelaw04_RowPicks.l0 k2 l0 l1 l2 l3 (x9_2 ++ y275) (wrap64 (x14_2 + 1))) else (none)) = some r := by first | (rw [hy275]; with_reducible exact H) | (have H2_ := (Option.bind_some _ _).symm.trans H; rw [hy275]; with_reducible exact H2_) | (have H2_ := (Option.bind_some _ _).symm.trans H; with_reducible exact H2_) | with_reducible exact H | (rw [hy275]; exact H) | exact H
       have Ny275 := mk_ hy275
       clear hy275
       by_cases c15 : x9_2.length + y275.length < 17592186044416
       ·
        rw [if_pos c15] at H
        have LMc15 := mk_ c15
        clear c15
        obtain ⟨y278, hy278⟩ : ∃ y_ : List Int, y_ = (x9_2 ++ y275) := ⟨_, rfl⟩
        replace H : (raddlelaw04_RowPicks.l0 k2 l0 l1 l2 l3 y278 (wrap64 (x14_2 + 1))) = some r := by first | (rw [hy278]; with_reducible exact H) | (have H2_ := (Option.bind_some _ _).symm.trans H; rw [hy278]; with_reducible exact H2_) | (have H2_ := (Option.bind_some _ _).symm.trans H; with_reducible exact H2_) | with_reducible exact H | (rw [hy278]; exact H) | exact H
        have Ny278 := mk_ hy278
        clear hy278
        have H' := mk_ H
        clear H
        go_wp2_with (first | ((with_reducible refine gate_dst (N := 67) rfl ?_); refine R_lit (Kd.int .i64) _ 3 ?hg (N := 67) ?hd (xs := ([x14_2] : List Int)) (inner := [.int .i64 x14_2]) (ok := fun _ => True) (okp := fun _ => True) ?hr ?hp (fun _ hk => hk) trivial (Below.refl _ _) (Nat.le_refl _) (by simp) ?_; (case hd => rfl); (case hg => rfl); (case hr => first | (go_simp; done) | (go_simp; rfl)); (case hp => exact (Reps.one (show Kd.M (Kd.int .i64) _ _ _ x14_2 [.int .i64 x14_2] from rfl) (Reps.none _ _))); intro v276 w16 ho17 hb hg_ hnew_; clear hg_ hnew_; (first | rw [← Ny275.out] at ho17 | (simp only [Int.reduceToNat] at ho17; rw [← Ny275.out] at ho17)); have n0_ := mk_ (R_elder' (ZKR HO_9) (R_base ho17) hb); have n1_ := mk_ (R_lower (R_new' ho17 (R_lt (ZKR HO_9))) (below_size (Short.hB HB))); have n2_ := mk_ (below_step (Short.hB HB) hb); clear HO_9 HB; revert n0_ n1_ n2_; intro HO_9 HO277 HB; clear hb ho17; obtain ⟨Ao19, co19, eo19⟩ := R_slice HO277.out; subst eo19) | ((with_reducible refine gate_builtin (b := .append) (xs := #[.tmp 65, .tmp 67]) rfl ?_); at_builtin; refine R_append_rows (Kd.int .i64) (w0 := w) w.heap.size rfl (.tmp 65) (.tmp 67) 47 3 (.int .i64 0) 8 rfl Try.underlying47 info3 rfl (by decide) z2_ u9 x9_2 y275 _ _ _ (fun k_ => nb_ k_ (.slice Ao19 y275.length co19)) (fun _ => False) rfl rfl ?aO ?aR (fun _ _ h => h) (fun _ h => h.elim) ?aF ?aB ?aS ?aL ?_; (case aR => exact cX_ (R_reads' HO277.out).2.2); (case aB => exact (Short.hB HB)); (case aF => exact (fun k_ hk => Kd.fresh' (R_lt (ZKR HO277)) k_ hk)); (case aO => exact (rM_ HO_9 (fun _ hk => hk.2))); (case aS => exact (below_size (Short.hB HB))); (case aL => have := LMc15.out; omega); intro v279 w18 ho hb hg hat; rw [← Ny278.out] at ho; have n0_ := mk_ (R_after (ok := (fun _ => True)) (ZKR HO277) hg hat); have n1_ := mk_ (hb); have n2_ := mk_ (ho); clear HO277 HB HO_9; revert n0_ n1_ n2_; intro HO277 HB HO280; clear ho hb hg hat))
        go_roundg k2
        case measure => have := HJ4.out; have := HK2.out; omega
        case rel => exact ⟨(y278), (wrap64 (x14_2 + 1)), z1_, H', ⟨by have := HJ4.out; have := HK2.out; omega⟩, ⟨by (with_reducible repeat (first | apply R_alloc | apply R_drewN | apply R_drew)); exact R_mono HO280.out (fun _ hk => trivial)⟩, ⟨Short.hB HB⟩⟩
       ·
        rw [if_neg c15] at H
        exact absurd H (by simp)
      ·
       rw [if_neg c14] at H
       have c14b0 : decide (x14_2 < (l0.length : Int)) = false := decide_eq_false c14
       clear c14
       have H' := mk_ H
       clear H
       go_wp2
       go_loopg [10, 15] k2 (fun kq v10 v15 w' => ∃ (x10_3 : List Int) (x15_3 : Int), v15 = .int .i64 x15_3 ∧ Aside0 (raddlelaw04_RowPicks.l1 kq l0 l1 l2 l3 x9_2 x10_3 x15_3 = some r) ∧ Aside0 (kq ≤ k2) ∧ Aside0 (Kd.R (Kd.int .i64) 3 w' w.heap.size (fun k_ => nb_ k_ (v10)) u9 x9_2) ∧ Aside0 (Kd.R (Kd.int .i64) 3 w' w.heap.size (fun k_ => nb_ k_ (u9)) v10 x10_3) ∧ Aside0 (Below w.heap.size w w'))
       case atStart => exact ⟨(([] : List Int)), (0), z1_, H', ⟨Nat.le_refl _⟩, ⟨by (with_reducible repeat (first | apply R_alloc | apply R_drewN | apply R_drew)); exact R_mono HO_9.out (fun _ hk => (by simp [Value.ownBlock]))⟩, ⟨by first | exact R_nil _ _ _ _ _ | exact N_nil _ _ _ _ _ | exact V_nil _ _ _ _ _ | exact Q_nil _ _ _ _ _ | exact S_nil _ _ _ _ _⟩, ⟨Short.hB HB⟩⟩
       case round =>
        clear H'
        try clear c1
        try clear c2
        try clear p2
        try clear c3
        try clear p6
        try clear c7
        try clear c8
        try clear c8b0
        try clear c8b1
        try clear c8b2
        try clear c9
        try clear c9b0
        try clear c9b1
        try clear c10
        try clear c10b0
        try clear c10b1
        try clear c10b2
        try clear c11
        try clear c11b0
        try clear c11b1
        try clear c12
        try clear c12b0
        try clear c12b1
        try clear c13
        try clear c14
        try clear c14b0
        try clear c15
        try clear c17
        try clear p2
        obtain ⟨x10_3, x15_3, rfl, HA, HK3, HO_9, HO_10, HB⟩ := hrel
        cases gk with
        | zero => exact absurd HA.out (by simp [raddlelaw04_RowPicks.l1])
        | succ k3 =>
         have H := HA.out
         clear HA
         simp only [raddlelaw04_RowPicks.l1] at H
         by_cases c20 : x15_3 < (l2.length : Int)
         ·
          rw [if_pos c20] at H
          have c20b0 : decide (x15_3 < (l2.length : Int)) = true := decide_eq_true c20
          clear c20
          by_cases c21 : 0 ≤ x15_3
          ·
           rw [if_pos c21] at H
           have c21b0 : decide (0 ≤ x15_3) = true := decide_eq_true c21
           clear c21
           by_cases c22 : (IntKind.u64.wrap ((l0.length : Int))) = 0
           ·
            rw [if_pos c22] at H
            exact absurd H (by simp)
           ·
            rw [if_neg c22] at H
            have c22b0 : ((IntKind.u64.wrap ((l0.length : Int))) == 0) = false := beq_eq_false_iff_ne.mpr c22
            have c22b1 : ((IntKind.u64.wrap ((l0.length : Int))) != 0) = true := bne_iff_ne.mpr c22
            obtain ⟨y282, hy282⟩ : ∃ y_ : List Int, y_ = (([wrap64 (Int.tmod (IntKind.u64.wrap (rd l2 x15_3)) (IntKind.u64.wrap ((l0.length : Int))))] : List Int)) := ⟨_, rfl⟩
            replace H : (if x10_3.length + y282.length < 17592186044416 then (raddlelaw04_RowPicks.l1 k3 l0 l1 l2 l3 x9_2 (x10_3 ++ y282) (wrap64 (x15_3 + 1))) else (none)) = some r := by first | (rw [hy282]; with_reducible exact H) | (have H2_ := (Option.bind_some _ _).symm.trans H; rw [hy282]; with_reducible exact H2_) | (have H2_ := (Option.bind_some _ _).symm.trans H; with_reducible exact H2_) | with_reducible exact H | (rw [hy282]; exact H) | exact H
            have Ny282 := mk_ hy282
            clear hy282
            by_cases c23 : x10_3.length + y282.length < 17592186044416
            ·
             rw [if_pos c23] at H
             have LMc23 := mk_ c23
             clear c23
             obtain ⟨y285, hy285⟩ : ∃ y_ : List Int, y_ = (x10_3 ++ y282) := ⟨_, rfl⟩
             replace H : (raddlelaw04_RowPicks.l1 k3 l0 l1 l2 l3 x9_2 y285 (wrap64 (x15_3 + 1))) = some r := by first | (rw [hy285]; with_reducible exact H) | (have H2_ := (Option.bind_some _ _).symm.trans H; rw [hy285]; with_reducible exact H2_) | (have H2_ := (Option.bind_some _ _).symm.trans H; with_reducible exact H2_) | with_reducible exact H | (rw [hy285]; exact H) | exact H
             have Ny285 := mk_ hy285
             clear hy285
             have H' := mk_ H
             clear H
             have p281 : 0 ≤ (x15_3 : Int) := of_decide_eq_true z0_
             have q281 : x15_3 < (l2.length : Int) := of_decide_eq_true z0_
             obtain ⟨ad281, e281, hx281_0⟩ := Kd.at_int HR2.out x15_3 p281 q281
             cases e281
             replace hx281_0 := (HB.out.cell (World.block_lt_of_cell? w _ hx281_0)).trans hx281_0
             replace p281 := eq_true p281
             replace q281 := eq_true q281
             go_wp2_with (first | ((with_reducible refine gate_dst (N := 86) rfl ?_); refine R_lit (Kd.int .i64) _ 3 ?hg (N := 86) ?hd (xs := ([wrap64 (Int.tmod (IntKind.u64.wrap (rd l2 x15_3)) (IntKind.u64.wrap ((l0.length : Int))))] : List Int)) (inner := [.int .i64 (wrap64 (Int.tmod (IntKind.u64.wrap (rd l2 x15_3)) (IntKind.u64.wrap ((l0.length : Int)))))]) (ok := fun _ => True) (okp := fun _ => True) ?hr ?hp (fun _ hk => hk) trivial (Below.refl _ _) (Nat.le_refl _) (by simp) ?_; (case hd => rfl); (case hg => rfl); (case hr => first | (go_simp; done) | (go_simp; rfl)); (case hp => exact (Reps.one (show Kd.M (Kd.int .i64) _ _ _ (wrap64 (Int.tmod (IntKind.u64.wrap (rd l2 x15_3)) (IntKind.u64.wrap ((l0.length : Int))))) [.int .i64 (wrap64 (Int.tmod (IntKind.u64.wrap (rd l2 x15_3)) (IntKind.u64.wrap ((l0.length : Int)))))] from rfl) (Reps.none _ _))); intro v283 w24 ho25 hb hg_ hnew_; clear hg_ hnew_; (first | rw [← Ny282.out] at ho25 | (simp only [Int.reduceToNat] at ho25; rw [← Ny282.out] at ho25)); have n0_ := mk_ (R_elder' (ZKR HO_9) (R_base ho25) hb); have n1_ := mk_ (R_elder' (ZKR HO_10) (R_base ho25) hb); have n2_ := mk_ (R_lower (R_new' (R_new' ho25 (R_lt (ZKR HO_9))) (R_lt (ZKR HO_10))) (below_size (Short.hB HB))); have n3_ := mk_ (below_step (Short.hB HB) hb); clear HO_9 HO_10 HB; revert n0_ n1_ n2_ n3_; intro HO_9 HO_10 HO284 HB; clear hb ho25; obtain ⟨Ao27, co27, eo27⟩ := R_slice HO284.out; subst eo27) | ((with_reducible refine gate_builtin (b := .append) (xs := #[.tmp 75, .tmp 86]) rfl ?_); at_builtin; refine R_append_rows (Kd.int .i64) (w0 := w) w.heap.size rfl (.tmp 75) (.tmp 86) 47 3 (.int .i64 0) 8 rfl Try.underlying47 info3 rfl (by decide) z2_ u10 x10_3 y282 _ _ _ (fun k_ => nb_ k_ (u9) ∧ nb_ k_ (.slice Ao27 y282.length co27)) (fun _ => False) rfl rfl ?aO ?aR (fun _ _ h => h) (fun _ h => h.elim) ?aF ?aB ?aS ?aL ?_; (case aR => exact cX_ (R_reads' HO284.out).2.2); (case aB => exact (Short.hB HB)); (case aF => exact (fun k_ hk => ⟨Kd.fresh' (R_lt (ZKR HO_9)) k_ hk, Kd.fresh' (R_lt (ZKR HO284)) k_ hk⟩)); (case aO => exact (ZKR HO_10)); (case aS => exact (below_size (Short.hB HB))); (case aL => have := LMc23.out; omega); intro v286 w26 ho hb hg hat; rw [← Ny285.out] at ho; have n0_ := mk_ (R_after (ok := (fun k_ => nb_ k_ (.slice Ao27 y282.length co27))) (rM_ HO_9 (fun _ hk => ⟨hk.2, hk.1⟩)) hg hat); have n1_ := mk_ (R_after (ok := (fun k_ => nb_ k_ (u9))) (rM_ HO284 (fun _ hk => ⟨hk.1.2, hk.2⟩)) hg hat); have n2_ := mk_ (hb); have n3_ := mk_ (ho); clear HO_9 HO284 HB HO_10; revert n0_ n1_ n2_ n3_; intro HO_9 HO284 HB HO287; clear ho hb hg hat))
             go_roundg k3
             case measure => have := HJ4.out; have := HK2.out; have := HK3.out; omega
             case rel => exact ⟨(y285), (wrap64 (x15_3 + 1)), z1_, H', ⟨by have := HJ4.out; have := HK2.out; have := HK3.out; omega⟩, ⟨by (with_reducible repeat (first | apply R_alloc | apply R_drewN | apply R_drew)); exact R_mono HO_9.out (fun _ hk => hk.2)⟩, ⟨by (with_reducible repeat (first | apply R_alloc | apply R_drewN | apply R_drew)); exact R_mono HO287.out (fun _ hk => hk.1)⟩, ⟨Short.hB HB⟩⟩
            ·
             rw [if_neg c23] at H
             exact absurd H (by simp)
          ·
           rw [if_neg c21] at H
           exact absurd H (by simp)
         ·
          rw [if_neg c20] at H
          have c20b0 : decide (x15_3 < (l2.length : Int)) = false := decide_eq_false c20
          clear c20
          have H' := mk_ H
          clear H
          go_wp2
          go_loopg [11, 12, 16] k3 (fun kq v11 v12 v16 w' => ∃ (x11_4 : List Int) (x12_4 : List Int) (x16_4 : Int), v16 = .int .i64 x16_4 ∧ Aside0 (raddlelaw04_RowPicks.l2 kq l0 l1 l3 x9_2 x10_3 x11_4 x12_4 x16_4 = some r) ∧ Aside0 (kq ≤ k3) ∧ Aside0 (Kd.R (Kd.int .i64) 3 w' w.heap.size (fun k_ => nb_ k_ (u10) ∧ nb_ k_ (v11) ∧ nb_ k_ (v12)) u9 x9_2) ∧ Aside0 (Kd.R (Kd.int .i64) 3 w' w.heap.size (fun k_ => nb_ k_ (u9) ∧ nb_ k_ (v11) ∧ nb_ k_ (v12)) u10 x10_3) ∧ Aside0 (Kd.R (Kd.int .i64) 3 w' w.heap.size (fun k_ => nb_ k_ (u9) ∧ nb_ k_ (u10) ∧ nb_ k_ (v12)) v11 x11_4) ∧ Aside0 (Kd.R (Kd.int .i64) 3 w' w.heap.size (fun k_ => nb_ k_ (u9) ∧ nb_ k_ (u10) ∧ nb_ k_ (v11)) v12 x12_4) ∧ Aside0 (Below w.heap.size w w'))
          case atStart => exact ⟨(([] : List Int)), (([] : List Int)), (0), z1_, H', ⟨Nat.le_refl _⟩, ⟨by (with_reducible repeat (first | apply R_alloc | apply R_drewN | apply R_drew)); exact R_mono HO_9.out (fun _ hk => ⟨hk, ⟨(by simp [Value.ownBlock]), (by simp [Value.ownBlock])⟩⟩)⟩, ⟨by (with_reducible repeat (first | apply R_alloc | apply R_drewN | apply R_drew)); exact R_mono HO_10.out (fun _ hk => ⟨hk, ⟨(by simp [Value.ownBlock]), (by simp [Value.ownBlock])⟩⟩)⟩, ⟨by first | exact R_nil _ _ _ _ _ | exact N_nil _ _ _ _ _ | exact V_nil _ _ _ _ _ | exact Q_nil _ _ _ _ _ | exact S_nil _ _ _ _ _⟩, ⟨by first | exact R_nil _ _ _ _ _ | exact N_nil _ _ _ _ _ | exact V_nil _ _ _ _ _ | exact Q_nil _ _ _ _ _ | exact S_nil _ _ _ _ _⟩, ⟨Short.hB HB⟩⟩
          case round =>
           clear H'
           try clear c1
           try clear c2
           try clear p2
           try clear q2
           try clear hx2
           try clear c3
           try clear p6
           try clear c7
           try clear c8
           try clear c8b0
           try clear c8b1
           try clear c8b2
           try clear c9
           try clear c9b0
           try clear c9b1
           try clear c10
           try clear c10b0
           try clear c10b1
           try clear c10b2
           try clear c11
           try clear c11b0
           try clear c11b1
           try clear c12
           try clear c12b0
           try clear c12b1
           try clear c13
           try clear c14
           try clear c14b0
           try clear c15
           try clear c17
           try clear c20
           try clear c20b0
           try clear c21
           try clear c21b0
           try clear c22
           try clear c22b0
           try clear c22b1
           try clear c23
           try clear hx281_0
           try clear p2
           try clear p281
           try clear p6
           try clear q281
           obtain ⟨x11_4, x12_4, x16_4, rfl, HA, HK4, HO_9, HO_10, HO_11, HO_12, HB⟩ := hrel
           cases gk with
           | zero => exact absurd HA.out (by simp [raddlelaw04_RowPicks.l2])
           | succ k4 =>
            have H := HA.out
            clear HA
            simp only [raddlelaw04_RowPicks.l2] at H
            by_cases c28 : x16_4 < (l3.length : Int)
            ·
             rw [if_pos c28] at H
             have c28b0 : decide (x16_4 < (l3.length : Int)) = true := decide_eq_true c28
             clear c28
             by_cases c29 : 0 ≤ x16_4
             ·
              rw [if_pos c29] at H
              have c29b0 : decide (0 ≤ x16_4) = true := decide_eq_true c29
              clear c29
              by_cases c30 : (IntKind.u64.wrap ((x10_3.length : Int))) = 0
              ·
               rw [if_pos c30] at H
               exact absurd H (by simp)
              ·
               rw [if_neg c30] at H
               have c30b0 : ((IntKind.u64.wrap ((x10_3.length : Int))) == 0) = false := beq_eq_false_iff_ne.mpr c30
               have c30b1 : ((IntKind.u64.wrap ((x10_3.length : Int))) != 0) = true := bne_iff_ne.mpr c30
               obtain ⟨y289, hy289⟩ : ∃ y_ : List Int, y_ = (([wrap64 (Int.tmod (IntKind.u64.wrap (rd l3 x16_4)) (IntKind.u64.wrap ((x10_3.length : Int))))] : List Int)) := ⟨_, rfl⟩
               replace H : (if x11_4.length + y289.length < 17592186044416 then (if 0 ≤ (wrap64 (Int.tmod (IntKind.u64.wrap (rd l3 x16_4)) (IntKind.u64.wrap ((x10_3.length : Int))))) then (if (wrap64 (Int.tmod (IntKind.u64.wrap (rd l3 x16_4)) (IntKind.u64.wrap ((x10_3.length : Int))))) < (x10_3.length : Int) then ((some (([rd x10_3 (wrap64 (Int.tmod (IntKind.u64.wrap (rd l3 x16_4)) (IntKind.u64.wrap ((x10_3.length : Int)))))] : List Int) : List Int)).bind fun y296 => (if x12_4.length + y296.length < 17592186044416 then (raddlelaw04_RowPicks.l2 k4 l0 l1 l3 x9_2 x10_3 (x11_4 ++ y289) (x12_4 ++ y296) (wrap64 (x16_4 + 1))) else (none))) else (none)) else (none)) else (none)) = some r := by first | (rw [hy289]; with_reducible exact H) | (have H2_ := (Option.bind_some _ _).symm.trans H; rw [hy289]; with_reducible exact H2_) | (have H2_ := (Option.bind_some _ _).symm.trans H; with_reducible exact H2_) | with_reducible exact H | (rw [hy289]; exact H) | exact H
               have Ny289 := mk_ hy289
               clear hy289
               by_cases c31 : x11_4.length + y289.length < 17592186044416
               ·
                rw [if_pos c31] at H
                have LMc31 := mk_ c31
                clear c31
                obtain ⟨y292, hy292⟩ : ∃ y_ : List Int, y_ = (x11_4 ++ y289) := ⟨_, rfl⟩
                replace H : (if 0 ≤ (wrap64 (Int.tmod (IntKind.u64.wrap (rd l3 x16_4)) (IntKind.u64.wrap ((x10_3.length : Int))))) then (if (wrap64 (Int.tmod (IntKind.u64.wrap (rd l3 x16_4)) (IntKind.u64.wrap ((x10_3.length : Int))))) < (x10_3.length : Int) then ((some (([rd x10_3 (wrap64 (Int.tmod (IntKind.u64.wrap (rd l3 x16_4)) (IntKind.u64.wrap ((x10_3.length : Int)))))] : List Int) : List Int)).bind fun y296 => (if x12_4.length + y296.length < 17592186044416 then (raddlelaw04_RowPicks.l2 k4 l0 l1 l3 x9_2 x10_3 y292 (x12_4 ++ y296) (wrap64 (x16_4 + 1))) else (none))) else (none)) else (none)) = some r := by first | (rw [hy292]; with_reducible exact H) | (have H2_ := (Option.bind_some _ _).symm.trans H; rw [hy292]; with_reducible exact H2_) | (have H2_ := (Option.bind_some _ _).symm.trans H; with_reducible exact H2_) | with_reducible exact H | (rw [hy292]; exact H) | exact H
                have Ny292 := mk_ hy292
                clear hy292
                obtain ⟨ji32, hji32⟩ : ∃ j_ : Int, (wrap64 (Int.tmod (IntKind.u64.wrap (rd l3 x16_4)) (IntKind.u64.wrap ((x10_3.length : Int))))) = j_ := ⟨_, rfl⟩
                replace H : (if 0 ≤ (ji32) then (if (ji32) < (x10_3.length : Int) then ((some (([rd x10_3 (ji32)] : List Int) : List Int)).bind fun y296 => (if x12_4.length + y296.length < 17592186044416 then (raddlelaw04_RowPicks.l2 k4 l0 l1 l3 x9_2 x10_3 y292 (x12_4 ++ y296) (wrap64 (x16_4 + 1))) else (none))) else (none)) else (none)) = some r := by first | (rw [hji32] at H; exact H) | (simp only [hji32] at H ⊢; exact H)
                (try rw [hji32] at Ny289)
                (try rw [hji32] at Ny289)
                have hji32w : (IntKind.i64.wrap (Int.tmod (IntKind.u64.wrap (rd l3 x16_4)) (IntKind.u64.wrap ((x10_3.length : Int))))) = ji32 := (i64_w _).trans hji32
                by_cases c33 : 0 ≤ (ji32)
                ·
                 rw [if_pos c33] at H
                 have c33b0 : decide (0 ≤ (ji32)) = true := decide_eq_true c33
                 clear c33
                 by_cases c34 : (ji32) < (x10_3.length : Int)
                 ·
                  rw [if_pos c34] at H
                  have c34b0 : decide ((ji32) < (x10_3.length : Int)) = true := decide_eq_true c34
                  clear c34
                  obtain ⟨y296, hy296⟩ : ∃ y_ : List Int, y_ = (([rd x10_3 (ji32)] : List Int)) := ⟨_, rfl⟩
                  replace H : (if x12_4.length + y296.length < 17592186044416 then (raddlelaw04_RowPicks.l2 k4 l0 l1 l3 x9_2 x10_3 y292 (x12_4 ++ y296) (wrap64 (x16_4 + 1))) else (none)) = some r := by first | (rw [hy296]; with_reducible exact H) | (have H2_ := (Option.bind_some _ _).symm.trans H; rw [hy296]; with_reducible exact H2_) | (have H2_ := (Option.bind_some _ _).symm.trans H; with_reducible exact H2_) | with_reducible exact H | (rw [hy296]; exact H) | exact H
                  have Ny296 := mk_ hy296
                  clear hy296
                  by_cases c35 : x12_4.length + y296.length < 17592186044416
                  ·
                   rw [if_pos c35] at H
                   have LMc35 := mk_ c35
                   clear c35
                   obtain ⟨y299, hy299⟩ : ∃ y_ : List Int, y_ = (x12_4 ++ y296) := ⟨_, rfl⟩
                   replace H : (raddlelaw04_RowPicks.l2 k4 l0 l1 l3 x9_2 x10_3 y292 y299 (wrap64 (x16_4 + 1))) = some r := by first | (rw [hy299]; with_reducible exact H) | (have H2_ := (Option.bind_some _ _).symm.trans H; rw [hy299]; with_reducible exact H2_) | (have H2_ := (Option.bind_some _ _).symm.trans H; with_reducible exact H2_) | with_reducible exact H | (rw [hy299]; exact H) | exact H
                   have Ny299 := mk_ hy299
                   clear hy299
                   have H' := mk_ H
                   clear H
                   have p288 : 0 ≤ (x16_4 : Int) := of_decide_eq_true z0_
                   have q288 : x16_4 < (l3.length : Int) := of_decide_eq_true z0_
                   obtain ⟨ad288, e288, hx288_0⟩ := Kd.at_int HR3.out x16_4 p288 q288
                   cases e288
                   replace hx288_0 := (HB.out.cell (World.block_lt_of_cell? w _ hx288_0)).trans hx288_0
                   replace p288 := eq_true p288
                   replace q288 := eq_true q288
                   obtain ⟨Ao36, co36, eo36⟩ := R_slice HO_10.out
                   subst eo36
                   obtain ⟨Ao37, co37, eo37⟩ := R_slice HO_11.out
                   subst eo37
                   obtain ⟨Ao38, co38, eo38⟩ := R_slice HO_12.out
                   subst eo38
                   try go_wp2
                   have n0_ := mk_ (R_drew HO_9.out)
                   have n1_ := mk_ (R_drew HO_10.out)
                   have n2_ := mk_ (R_drew HO_11.out)
                   have n3_ := mk_ (R_drew HO_12.out)
                   have n4_ := mk_ (below_drew1 HB.out)
                   clear HO_9 HO_10 HO_11 HO_12 HB
                   revert n0_ n1_ n2_ n3_ n4_
                   intro HO_9 HO_10 HO_11 HO_12 HB
                   have p295 : 0 ≤ ((ji32) : Int) := of_decide_eq_true z0_
                   have q295 : (ji32) < (x10_3.length : Int) := of_decide_eq_true z0_
                   obtain ⟨ad295, e295, hx295_0⟩ := Kd.at_int (R_reads' HO_10.out).2.2 (ji32) p295 q295
                   cases e295
                   replace p295 := eq_true p295
                   replace q295 := eq_true q295
                   refine start_ (n := 13) (S := fun w' => w'.cell? (ad295.add ((ji32)).toNat) = some (.int .i64 (rd x10_3 (ji32)))) (ds := []) (Steps.Bs 13 0) z4_ rfl rfl (hx295_0) (fun hHeld => ?_); refine with_tabW raddlelaw04_RowPicks.tab16 raddlelaw04_RowPicks.bits16 (fun HT_ HW_ => ?_)
                   generalize wr.drew = w39 at HO_9 HO_10 HO_11 HO_12 HB hx295_0 hHeld ⊢
                   refine Steps.pI_ 0 (some 104) (Steps.Bs 13 1) (any_of HT_.out z4_) (h := ?_)
                   refine Steps.pI_ 1 (some 105) (Steps.Bs 13 3) (any_of HT_.out z4_) (h := ?_)
                   refine Steps.pI_ 4 (some 108) (Steps.Bs 13 19) (any_of HT_.out z4_) (h := ?_)
                   refine Steps.pI_ 5 (some 109) (Steps.Bs 13 51) (any_of HT_.out z4_) (h := ?_)
                   refine Steps.pI_ 6 (some 110) (Steps.Bs 13 115) (any_of HT_.out z4_) (h := ?_)
                   refine Steps.pI_ 7 (some 111) (Steps.Bs 13 243) (any_of HT_.out z4_) (h := ?_)
                   refine take_ (i := 8) (N := some 112) (v := ?_) (a' := ?_) (Steps.Bs 13 499) rfl rfl (take_ofW HT_.out HW_.out z4_) (fun _ _ _ h => h) (Or.inl ⟨by rfl, ?_⟩) hHeld ?_ ?_
                   rotate_left
                   ·
                    intro w' s0
                    go_simp
                    with_reducible rfl
                   rotate_left
                   ·
                    simp only [Act.put, List.setIfInBounds_toArray, List.set_cons_zero, List.set_cons_succ, i64_w, i32_w]
                    rfl
                   refine join_ (σ := Value × Value × Value) 3 (Steps.Bs 13 1023) (fun s_ => [(106, s_.1), (107, s_.2.1), (113, s_.2.2)]) (fun s_ w' => (w'.cell? (ad295.add ((ji32)).toNat) = some (.int .i64 (rd x10_3 (ji32)))) ∧ (Kd.R (Kd.int .i64) 3 w' w.heap.size (fun k_ => nb_ k_ (s_.2.1) ∧ nb_ k_ (s_.2.2) ∧ nb_ k_ (.slice (some ad295) x10_3.length co36) ∧ nb_ k_ (.slice Ao38 x12_4.length co38) ∧ nb_ k_ (u9)) s_.1 y289) ∧ (Kd.R (Kd.int .i64) 3 w' w.heap.size (fun k_ => nb_ k_ (s_.1) ∧ nb_ k_ (s_.2.2) ∧ nb_ k_ (.slice (some ad295) x10_3.length co36) ∧ nb_ k_ (.slice Ao38 x12_4.length co38) ∧ nb_ k_ (u9)) s_.2.1 y292) ∧ (Kd.R (Kd.int .i64) 3 w' w.heap.size (fun k_ => nb_ k_ (s_.1) ∧ nb_ k_ (s_.2.1) ∧ nb_ k_ (.slice (some ad295) x10_3.length co36) ∧ nb_ k_ (.slice Ao38 x12_4.length co38) ∧ nb_ k_ (u9)) s_.2.2 y296) ∧ (Kd.R (Kd.int .i64) 3 w' w.heap.size (fun k_ => nb_ k_ (s_.1) ∧ nb_ k_ (s_.2.1) ∧ nb_ k_ (s_.2.2) ∧ nb_ k_ (.slice Ao38 x12_4.length co38) ∧ nb_ k_ (u9)) (.slice (some ad295) x10_3.length co36) x10_3) ∧ (Kd.R (Kd.int .i64) 3 w' w.heap.size (fun k_ => nb_ k_ (s_.1) ∧ nb_ k_ (s_.2.1) ∧ nb_ k_ (s_.2.2) ∧ nb_ k_ (.slice (some ad295) x10_3.length co36) ∧ nb_ k_ (u9)) (.slice Ao38 x12_4.length co38) x12_4) ∧ (Kd.R (Kd.int .i64) 3 w' w.heap.size (fun k_ => nb_ k_ (s_.1) ∧ nb_ k_ (s_.2.1) ∧ nb_ k_ (s_.2.2) ∧ nb_ k_ (.slice (some ad295) x10_3.length co36) ∧ nb_ k_ (.slice Ao38 x12_4.length co38)) u9 x9_2) ∧ (Below w.heap.size w w')) ?_ ?_
                   rotate_left
                   ·
                    intro hCont
                    refine two_ (i := 2) (j := 9) (Ni := some 106) (Nj := some 113) (Steps.Bs 13 503) (Steps.Bs 13 1011) rfl rfl rfl rfl (two_of HT_.out z4_) (by decide) (by decide) (fun K hK => ?_) (fun K hK => ?_)
                    ·
                     skip
                     refine R_lit_step (Kd.int .i64) _ 3 ?hg (N := 106) ?hd (xs := ([ji32] : List Int)) (inner := [.int .i64 ji32]) (ok := fun _ => True) (okp := fun _ => True) ?hr ?hp (fun _ hk => hk) trivial (Below.refl _ _) (Nat.le_refl _) (by simp) ?_; (case hd => rfl); (case hg => rfl); (case hr => first | (go_simp; done) | (go_simp; rfl)); (case hp => exact (Reps.one (show Kd.M (Kd.int .i64) _ _ _ ji32 [.int .i64 ji32] from rfl) (Reps.none _ _)))
                     intro v290 w40 ho41 hb hg_ hnew_
                     have HS0_ := (hb.cell (World.block_lt_of_cell? _ _ (hHeld))).trans (hHeld)
                     clear hg_ hnew_
                     (first | rw [← Ny289.out] at ho41 | (simp only [Int.reduceToNat] at ho41; rw [← Ny289.out] at ho41))
                     have n0_ := mk_ (R_elder' (ZKR HO_9) (R_base ho41) hb)
                     have n1_ := mk_ (R_elder' (ZKR HO_10) (R_base ho41) hb)
                     have n2_ := mk_ (R_elder' (ZKR HO_11) (R_base ho41) hb)
                     have n3_ := mk_ (R_elder' (ZKR HO_12) (R_base ho41) hb)
                     have n4_ := mk_ (R_lower (R_new' (R_new' (R_new' (R_new' ho41 (R_lt (ZKR HO_9))) (R_lt (ZKR HO_10))) (R_lt (ZKR HO_11))) (R_lt (ZKR HO_12))) (below_size (Short.hB HB)))
                     have n5_ := mk_ (below_step (Short.hB HB) hb)
                     clear HO_9 HO_10 HO_11 HO_12 HB
                     revert n0_ n1_ n2_ n3_ n4_ n5_
                     intro HO_9 HO_10 HO_11 HO_12 HO291 HB
                     clear hb ho41
                     obtain ⟨Ao43, co43, eo43⟩ := R_slice HO291.out
                     (first | subst eo43 | (injection eo43 with f1_ f2_ f3_; have f4_ := f1_.symm; have f5_ := f3_.symm; clear f1_ f2_ f3_; subst f4_; subst f5_))
                     refine hK.out _ _ (HS0_) (fun hHeld => ?_)
                     clear hK K
                     refine norm_ (a' := ?_) ?_ ?_
                     rotate_left
                     ·
                      show Act.put _ (some 106) _ = _
                      simp only [Act.put, List.setIfInBounds_toArray, List.set_cons_zero, List.set_cons_succ, i64_w, i32_w]
                      rfl
                     refine two_ (i := 3) (j := 9) (Ni := some 107) (Nj := some 113) (Steps.Bs 13 511) (Steps.Bs 13 1015) rfl rfl rfl rfl (two_of HT_.out z4_) (by decide) (by decide) (fun K hK => ?_) (fun K hK => ?_)
                     ·
                      skip
                      refine R_append_rows_step (Kd.int .i64) (w0 := w) w.heap.size (by rfl) (.tmp 104) (.tmp 106) 47 3 (.int .i64 0) 8 rfl Try.underlying47 info3 rfl (by decide) z2_ (.slice Ao37 x11_4.length co37) x11_4 y289 _ _ _ (fun k_ => nb_ k_ (u9) ∧ nb_ k_ (.slice (some ad295) x10_3.length co36) ∧ nb_ k_ (.slice Ao38 x12_4.length co38) ∧ nb_ k_ (.slice Ao43 y289.length co43)) (fun _ => False) rfl rfl ?aO ?aR (fun _ _ h => h) (fun _ h => h.elim) ?aF ?aB ?aS ?aL ?_
                      (case aR => exact cX_ (R_reads' HO291.out).2.2)
                      (case aB => exact (Short.hB HB))
                      (case aF => exact (fun k_ hk => ⟨Kd.fresh' (R_lt (ZKR HO_9)) k_ hk, Kd.fresh' (R_lt (ZKR HO_10)) k_ hk, Kd.fresh' (R_lt (ZKR HO_12)) k_ hk, Kd.fresh' (R_lt (ZKR HO291)) k_ hk⟩))
                      (case aO => exact (rM_ HO_11 (fun _ hk => ⟨hk.1.1, ⟨hk.1.2.1, ⟨hk.1.2.2, hk.2⟩⟩⟩)))
                      (case aS => exact (below_size (Short.hB HB)))
                      (case aL => have := LMc31.out; omega)
                      intro v293 w42 ho hb hg hat
                      have HS0_ := cell_grown hg (hHeld) (by first | exact (fun e_ => by have h_ := HO_11.out.1 _ e_.symm; first | exact h_ rfl | exact h_.1 rfl | exact h_.2 rfl | exact h_.1.1 rfl | exact h_.1.2 rfl | exact h_.2.1 rfl | exact h_.2.2 rfl | exact h_.1.1.1 rfl | exact h_.1.1.2 rfl | exact h_.1.2.1 rfl | exact h_.1.2.2 rfl | exact h_.2.1.1 rfl | exact h_.2.1.2 rfl | exact h_.2.2.1 rfl | exact h_.2.2.2 rfl | exact h_.1.1.1.1 rfl | exact h_.1.1.1.2 rfl | exact h_.1.1.2.1 rfl | exact h_.1.1.2.2 rfl | exact h_.1.2.1.1 rfl | exact h_.1.2.1.2 rfl | exact h_.1.2.2.1 rfl | exact h_.1.2.2.2 rfl | exact h_.2.1.1.1 rfl | exact h_.2.1.1.2 rfl | exact h_.2.1.2.1 rfl | exact h_.2.1.2.2 rfl | exact h_.2.2.1.1 rfl | exact h_.2.2.1.2 rfl | exact h_.2.2.2.1 rfl | exact h_.2.2.2.2 rfl) | (rw [add_block]; exact (fun e_ => by have h_ := HO_11.out.1 _ e_.symm; first | exact h_ rfl | exact h_.1 rfl | exact h_.2 rfl | exact h_.1.1 rfl | exact h_.1.2 rfl | exact h_.2.1 rfl | exact h_.2.2 rfl | exact h_.1.1.1 rfl | exact h_.1.1.2 rfl | exact h_.1.2.1 rfl | exact h_.1.2.2 rfl | exact h_.2.1.1 rfl | exact h_.2.1.2 rfl | exact h_.2.2.1 rfl | exact h_.2.2.2 rfl | exact h_.1.1.1.1 rfl | exact h_.1.1.1.2 rfl | exact h_.1.1.2.1 rfl | exact h_.1.1.2.2 rfl | exact h_.1.2.1.1 rfl | exact h_.1.2.1.2 rfl | exact h_.1.2.2.1 rfl | exact h_.1.2.2.2 rfl | exact h_.2.1.1.1 rfl | exact h_.2.1.1.2 rfl | exact h_.2.1.2.1 rfl | exact h_.2.1.2.2 rfl | exact h_.2.2.1.1 rfl | exact h_.2.2.1.2 rfl | exact h_.2.2.2.1 rfl | exact h_.2.2.2.2 rfl)) | (show some (Addr.add _ _).block ≠ _; rw [add_block]; exact (fun e_ => by have h_ := HO_11.out.1 _ e_.symm; first | exact h_ rfl | exact h_.1 rfl | exact h_.2 rfl | exact h_.1.1 rfl | exact h_.1.2 rfl | exact h_.2.1 rfl | exact h_.2.2 rfl | exact h_.1.1.1 rfl | exact h_.1.1.2 rfl | exact h_.1.2.1 rfl | exact h_.1.2.2 rfl | exact h_.2.1.1 rfl | exact h_.2.1.2 rfl | exact h_.2.2.1 rfl | exact h_.2.2.2 rfl | exact h_.1.1.1.1 rfl | exact h_.1.1.1.2 rfl | exact h_.1.1.2.1 rfl | exact h_.1.1.2.2 rfl | exact h_.1.2.1.1 rfl | exact h_.1.2.1.2 rfl | exact h_.1.2.2.1 rfl | exact h_.1.2.2.2 rfl | exact h_.2.1.1.1 rfl | exact h_.2.1.1.2 rfl | exact h_.2.1.2.1 rfl | exact h_.2.1.2.2 rfl | exact h_.2.2.1.1 rfl | exact h_.2.2.1.2 rfl | exact h_.2.2.2.1 rfl | exact h_.2.2.2.2 rfl)))
                      rw [← Ny292.out] at ho
                      have n0_ := mk_ (R_after (ok := (fun k_ => nb_ k_ (.slice (some ad295) x10_3.length co36) ∧ nb_ k_ (.slice Ao38 x12_4.length co38) ∧ nb_ k_ (.slice Ao43 y289.length co43))) (rM_ HO_9 (fun _ hk => ⟨⟨hk.1.1, ⟨hk.1.2.2, hk.2⟩⟩, hk.1.2.1⟩)) hg hat)
                      have n1_ := mk_ (R_after (ok := (fun k_ => nb_ k_ (u9) ∧ nb_ k_ (.slice Ao38 x12_4.length co38) ∧ nb_ k_ (.slice Ao43 y289.length co43))) (rM_ HO_10 (fun _ hk => ⟨⟨hk.1.1, ⟨hk.1.2.2, hk.2⟩⟩, hk.1.2.1⟩)) hg hat)
                      have n2_ := mk_ (R_after (ok := (fun k_ => nb_ k_ (u9) ∧ nb_ k_ (.slice (some ad295) x10_3.length co36) ∧ nb_ k_ (.slice Ao43 y289.length co43))) (rM_ HO_12 (fun _ hk => ⟨⟨hk.1.1, ⟨hk.1.2.1, hk.2⟩⟩, hk.1.2.2⟩)) hg hat)
                      have n3_ := mk_ (R_after (ok := (fun k_ => nb_ k_ (u9) ∧ nb_ k_ (.slice (some ad295) x10_3.length co36) ∧ nb_ k_ (.slice Ao38 x12_4.length co38))) (rM_ HO291 (fun _ hk => ⟨⟨hk.1.1.1.2, ⟨hk.1.1.2, hk.2⟩⟩, hk.1.2⟩)) hg hat)
                      have n4_ := mk_ (hb)
                      have n5_ := mk_ (ho)
                      clear HO_9 HO_10 HO_12 HO291 HB HO_11
                      revert n0_ n1_ n2_ n3_ n4_ n5_
                      intro HO_9 HO_10 HO_12 HO291 HB HO294
                      clear ho hb hg hat
                      refine hK.out _ _ (HS0_) (fun hHeld => ?_)
                      clear hK K
                      refine norm_ (a' := ?_) ?_ ?_
                      rotate_left
                      ·
                       show Act.put _ (some 107) _ = _
                       simp only [Act.put, List.setIfInBounds_toArray, List.set_cons_zero, List.set_cons_succ, i64_w, i32_w]
                       rfl
                      refine one_ (i := 9) (N := some 113) (Steps.Bs 13 1023) rfl rfl (one_of HT_.out z4_) (by decide) (fun K hK => ?_)
                      refine R_lit_step (Kd.int .i64) _ 3 ?hg (N := 113) ?hd (xs := ([rd x10_3 (ji32)] : List Int)) (inner := [.int .i64 (rd x10_3 (ji32))]) (ok := fun _ => True) (okp := fun _ => True) ?hr ?hp (fun _ hk => hk) trivial (Below.refl _ _) (Nat.le_refl _) (by simp) ?_; (case hd => rfl); (case hg => rfl); (case hr => first | (go_simp; done) | (go_simp; rfl)); (case hp => exact (Reps.one (show Kd.M (Kd.int .i64) _ _ _ (rd x10_3 (ji32)) [.int .i64 (rd x10_3 (ji32))] from rfl) (Reps.none _ _)))
                      intro v297 w44 ho45 hb hg_ hnew_
                      have HS0_ := (hb.cell (World.block_lt_of_cell? _ _ (hHeld))).trans (hHeld)
                      clear hg_ hnew_
                      (first | rw [← Ny296.out] at ho45 | (simp only [Int.reduceToNat] at ho45; rw [← Ny296.out] at ho45))
                      have n0_ := mk_ (R_elder' (ZKR HO_9) (R_base ho45) hb)
                      have n1_ := mk_ (R_elder' (ZKR HO_10) (R_base ho45) hb)
                      have n2_ := mk_ (R_elder' (ZKR HO_12) (R_base ho45) hb)
                      have n3_ := mk_ (R_elder' (ZKR HO291) (R_base ho45) hb)
                      have n4_ := mk_ (R_elder' (ZKR HO294) (R_base ho45) hb)
                      have n5_ := mk_ (R_lower (R_new' (R_new' (R_new' (R_new' (R_new' ho45 (R_lt (ZKR HO_9))) (R_lt (ZKR HO_10))) (R_lt (ZKR HO_12))) (R_lt (ZKR HO291))) (R_lt (ZKR HO294))) (below_size (Short.hB HB)))
                      have n6_ := mk_ (below_step (Short.hB HB) hb)
                      clear HO_9 HO_10 HO_12 HO291 HO294 HB
                      revert n0_ n1_ n2_ n3_ n4_ n5_ n6_
                      intro HO_9 HO_10 HO_12 HO291 HO294 HO298 HB
                      clear hb ho45
                      refine hK.out _ _ (HS0_) (fun hHeld => ?_)
                      clear hK K
                      refine norm_ (a' := ?_) ?_ ?_
                      rotate_left
                      ·
                       show Act.put _ (some 113) _ = _
                       simp only [Act.put, List.setIfInBounds_toArray, List.set_cons_zero, List.set_cons_succ, i64_w, i32_w]
                       rfl
                      exact norm_ (by simp only [putAll, Act.put, List.setIfInBounds_toArray, List.set_cons_zero, List.set_cons_succ]) (hCont (.slice Ao43 y289.length co43, v293, v297) _ ⟨hHeld, (rM_ HO291 (fun _ hk => ⟨hk.1.2, ⟨hk.2, ⟨hk.1.1.2.1, ⟨hk.1.1.2.2, hk.1.1.1⟩⟩⟩⟩)), (rM_ HO294 (fun _ hk => ⟨hk.1.2.2.2, ⟨hk.2, ⟨hk.1.2.1, ⟨hk.1.2.2.1, hk.1.1⟩⟩⟩⟩)), (rM_ HO298 (fun _ hk => ⟨hk.1.2, ⟨hk.2, ⟨hk.1.1.1.2, ⟨hk.1.1.2, hk.1.1.1.1.2⟩⟩⟩⟩)), (rM_ HO_10 (fun _ hk => ⟨hk.1.1.2.2, ⟨hk.1.2, ⟨hk.2, ⟨hk.1.1.2.1, hk.1.1.1⟩⟩⟩⟩)), (rM_ HO_12 (fun _ hk => ⟨hk.1.1.2.2, ⟨hk.1.2, ⟨hk.2, ⟨hk.1.1.2.1, hk.1.1.1⟩⟩⟩⟩)), (rM_ HO_9 (fun _ hk => ⟨hk.1.1.2.2, ⟨hk.1.2, ⟨hk.2, ⟨hk.1.1.1, hk.1.1.2.1⟩⟩⟩⟩)), (Short.hB HB)⟩)
                     ·
                      skip
                      refine R_lit_step (Kd.int .i64) _ 3 ?hg (N := 113) ?hd (xs := ([rd x10_3 (ji32)] : List Int)) (inner := [.int .i64 (rd x10_3 (ji32))]) (ok := fun _ => True) (okp := fun _ => True) ?hr ?hp (fun _ hk => hk) trivial (Below.refl _ _) (Nat.le_refl _) (by simp) ?_; (case hd => rfl); (case hg => rfl); (case hr => first | (go_simp; done) | (go_simp; rfl)); (case hp => exact (Reps.one (show Kd.M (Kd.int .i64) _ _ _ (rd x10_3 (ji32)) [.int .i64 (rd x10_3 (ji32))] from rfl) (Reps.none _ _)))
                      intro v297 w42 ho43 hb hg_ hnew_
                      have HS0_ := (hb.cell (World.block_lt_of_cell? _ _ (hHeld))).trans (hHeld)
                      clear hg_ hnew_
                      (first | rw [← Ny296.out] at ho43 | (simp only [Int.reduceToNat] at ho43; rw [← Ny296.out] at ho43))
                      have n0_ := mk_ (R_elder' (ZKR HO_9) (R_base ho43) hb)
                      have n1_ := mk_ (R_elder' (ZKR HO_10) (R_base ho43) hb)
                      have n2_ := mk_ (R_elder' (ZKR HO_11) (R_base ho43) hb)
                      have n3_ := mk_ (R_elder' (ZKR HO_12) (R_base ho43) hb)
                      have n4_ := mk_ (R_elder' (ZKR HO291) (R_base ho43) hb)
                      have n5_ := mk_ (R_lower (R_new' (R_new' (R_new' (R_new' (R_new' ho43 (R_lt (ZKR HO_9))) (R_lt (ZKR HO_10))) (R_lt (ZKR HO_11))) (R_lt (ZKR HO_12))) (R_lt (ZKR HO291))) (below_size (Short.hB HB)))
                      have n6_ := mk_ (below_step (Short.hB HB) hb)
                      clear HO_9 HO_10 HO_11 HO_12 HO291 HB
                      revert n0_ n1_ n2_ n3_ n4_ n5_ n6_
                      intro HO_9 HO_10 HO_11 HO_12 HO291 HO298 HB
                      clear hb ho43
                      obtain ⟨Ao45, co45, eo45⟩ := R_slice HO291.out
                      (first | subst eo45 | (injection eo45 with f1_ f2_ f3_; have f4_ := f1_.symm; have f5_ := f3_.symm; clear f1_ f2_ f3_; subst f4_; subst f5_))
                      refine hK.out _ _ (HS0_) (fun hHeld => ?_)
                      clear hK K
                      refine norm_ (a' := ?_) ?_ ?_
                      rotate_left
                      ·
                       show Act.put _ (some 113) _ = _
                       simp only [Act.put, List.setIfInBounds_toArray, List.set_cons_zero, List.set_cons_succ, i64_w, i32_w]
                       rfl
                      refine one_ (i := 3) (N := some 107) (Steps.Bs 13 1023) rfl rfl (one_of HT_.out z4_) (by decide) (fun K hK => ?_)
                      refine R_append_rows_step (Kd.int .i64) (w0 := w) w.heap.size (by rfl) (.tmp 104) (.tmp 106) 47 3 (.int .i64 0) 8 rfl Try.underlying47 info3 rfl (by decide) z2_ (.slice Ao37 x11_4.length co37) x11_4 y289 _ _ _ (fun k_ => nb_ k_ (u9) ∧ nb_ k_ (.slice (some ad295) x10_3.length co36) ∧ nb_ k_ (.slice Ao38 x12_4.length co38) ∧ nb_ k_ (.slice Ao45 y289.length co45) ∧ nb_ k_ (v297)) (fun _ => False) rfl rfl ?aO ?aR (fun _ _ h => h) (fun _ h => h.elim) ?aF ?aB ?aS ?aL ?_
                      (case aR => exact cX_ (R_reads' HO291.out).2.2)
                      (case aB => exact (Short.hB HB))
                      (case aF => exact (fun k_ hk => ⟨Kd.fresh' (R_lt (ZKR HO_9)) k_ hk, Kd.fresh' (R_lt (ZKR HO_10)) k_ hk, Kd.fresh' (R_lt (ZKR HO_12)) k_ hk, Kd.fresh' (R_lt (ZKR HO291)) k_ hk, Kd.fresh' (R_lt (ZKR HO298)) k_ hk⟩))
                      (case aO => exact (rM_ HO_11 (fun _ hk => ⟨hk.1.1.1, ⟨hk.1.1.2.1, ⟨hk.1.1.2.2, ⟨hk.1.2, hk.2⟩⟩⟩⟩)))
                      (case aS => exact (below_size (Short.hB HB)))
                      (case aL => have := LMc31.out; omega)
                      intro v293 w44 ho hb hg hat
                      have HS0_ := cell_grown hg (hHeld) (by first | exact (fun e_ => by have h_ := HO_11.out.1 _ e_.symm; first | exact h_ rfl | exact h_.1 rfl | exact h_.2 rfl | exact h_.1.1 rfl | exact h_.1.2 rfl | exact h_.2.1 rfl | exact h_.2.2 rfl | exact h_.1.1.1 rfl | exact h_.1.1.2 rfl | exact h_.1.2.1 rfl | exact h_.1.2.2 rfl | exact h_.2.1.1 rfl | exact h_.2.1.2 rfl | exact h_.2.2.1 rfl | exact h_.2.2.2 rfl | exact h_.1.1.1.1 rfl | exact h_.1.1.1.2 rfl | exact h_.1.1.2.1 rfl | exact h_.1.1.2.2 rfl | exact h_.1.2.1.1 rfl | exact h_.1.2.1.2 rfl | exact h_.1.2.2.1 rfl | exact h_.1.2.2.2 rfl | exact h_.2.1.1.1 rfl | exact h_.2.1.1.2 rfl | exact h_.2.1.2.1 rfl | exact h_.2.1.2.2 rfl | exact h_.2.2.1.1 rfl | exact h_.2.2.1.2 rfl | exact h_.2.2.2.1 rfl | exact h_.2.2.2.2 rfl) | (rw [add_block]; exact (fun e_ => by have h_ := HO_11.out.1 _ e_.symm; first | exact h_ rfl | exact h_.1 rfl | exact h_.2 rfl | exact h_.1.1 rfl | exact h_.1.2 rfl | exact h_.2.1 rfl | exact h_.2.2 rfl | exact h_.1.1.1 rfl | exact h_.1.1.2 rfl | exact h_.1.2.1 rfl | exact h_.1.2.2 rfl | exact h_.2.1.1 rfl | exact h_.2.1.2 rfl | exact h_.2.2.1 rfl | exact h_.2.2.2 rfl | exact h_.1.1.1.1 rfl | exact h_.1.1.1.2 rfl | exact h_.1.1.2.1 rfl | exact h_.1.1.2.2 rfl | exact h_.1.2.1.1 rfl | exact h_.1.2.1.2 rfl | exact h_.1.2.2.1 rfl | exact h_.1.2.2.2 rfl | exact h_.2.1.1.1 rfl | exact h_.2.1.1.2 rfl | exact h_.2.1.2.1 rfl | exact h_.2.1.2.2 rfl | exact h_.2.2.1.1 rfl | exact h_.2.2.1.2 rfl | exact h_.2.2.2.1 rfl | exact h_.2.2.2.2 rfl)) | (show some (Addr.add _ _).block ≠ _; rw [add_block]; exact (fun e_ => by have h_ := HO_11.out.1 _ e_.symm; first | exact h_ rfl | exact h_.1 rfl | exact h_.2 rfl | exact h_.1.1 rfl | exact h_.1.2 rfl | exact h_.2.1 rfl | exact h_.2.2 rfl | exact h_.1.1.1 rfl | exact h_.1.1.2 rfl | exact h_.1.2.1 rfl | exact h_.1.2.2 rfl | exact h_.2.1.1 rfl | exact h_.2.1.2 rfl | exact h_.2.2.1 rfl | exact h_.2.2.2 rfl | exact h_.1.1.1.1 rfl | exact h_.1.1.1.2 rfl | exact h_.1.1.2.1 rfl | exact h_.1.1.2.2 rfl | exact h_.1.2.1.1 rfl | exact h_.1.2.1.2 rfl | exact h_.1.2.2.1 rfl | exact h_.1.2.2.2 rfl | exact h_.2.1.1.1 rfl | exact h_.2.1.1.2 rfl | exact h_.2.1.2.1 rfl | exact h_.2.1.2.2 rfl | exact h_.2.2.1.1 rfl | exact h_.2.2.1.2 rfl | exact h_.2.2.2.1 rfl | exact h_.2.2.2.2 rfl)))
                      rw [← Ny292.out] at ho
                      have n0_ := mk_ (R_after (ok := (fun k_ => nb_ k_ (.slice (some ad295) x10_3.length co36) ∧ nb_ k_ (.slice Ao38 x12_4.length co38) ∧ nb_ k_ (.slice Ao45 y289.length co45) ∧ nb_ k_ (v297))) (rM_ HO_9 (fun _ hk => ⟨⟨hk.1.1.1, ⟨hk.1.1.2.2, ⟨hk.1.2, hk.2⟩⟩⟩, hk.1.1.2.1⟩)) hg hat)
                      have n1_ := mk_ (R_after (ok := (fun k_ => nb_ k_ (u9) ∧ nb_ k_ (.slice Ao38 x12_4.length co38) ∧ nb_ k_ (.slice Ao45 y289.length co45) ∧ nb_ k_ (v297))) (rM_ HO_10 (fun _ hk => ⟨⟨hk.1.1.1, ⟨hk.1.1.2.2, ⟨hk.1.2, hk.2⟩⟩⟩, hk.1.1.2.1⟩)) hg hat)
                      have n2_ := mk_ (R_after (ok := (fun k_ => nb_ k_ (u9) ∧ nb_ k_ (.slice (some ad295) x10_3.length co36) ∧ nb_ k_ (.slice Ao45 y289.length co45) ∧ nb_ k_ (v297))) (rM_ HO_12 (fun _ hk => ⟨⟨hk.1.1.1, ⟨hk.1.1.2.1, ⟨hk.1.2, hk.2⟩⟩⟩, hk.1.1.2.2⟩)) hg hat)
                      have n3_ := mk_ (R_after (ok := (fun k_ => nb_ k_ (u9) ∧ nb_ k_ (.slice (some ad295) x10_3.length co36) ∧ nb_ k_ (.slice Ao38 x12_4.length co38) ∧ nb_ k_ (v297))) (rM_ HO291 (fun _ hk => ⟨⟨hk.1.1.1.1.2, ⟨hk.1.1.1.2, ⟨hk.1.2, hk.2⟩⟩⟩, hk.1.1.2⟩)) hg hat)
                      have n4_ := mk_ (R_after (ok := (fun k_ => nb_ k_ (u9) ∧ nb_ k_ (.slice (some ad295) x10_3.length co36) ∧ nb_ k_ (.slice Ao38 x12_4.length co38) ∧ nb_ k_ (.slice Ao45 y289.length co45))) (rM_ HO298 (fun _ hk => ⟨⟨hk.1.1.1.1.2, ⟨hk.1.1.1.2, ⟨hk.1.2, hk.2⟩⟩⟩, hk.1.1.2⟩)) hg hat)
                      have n5_ := mk_ (hb)
                      have n6_ := mk_ (ho)
                      clear HO_9 HO_10 HO_12 HO291 HO298 HB HO_11
                      revert n0_ n1_ n2_ n3_ n4_ n5_ n6_
                      intro HO_9 HO_10 HO_12 HO291 HO298 HB HO294
                      clear ho hb hg hat
                      refine hK.out _ _ (HS0_) (fun hHeld => ?_)
                      clear hK K
                      refine norm_ (a' := ?_) ?_ ?_
                      rotate_left
                      ·
                       show Act.put _ (some 107) _ = _
                       simp only [Act.put, List.setIfInBounds_toArray, List.set_cons_zero, List.set_cons_succ, i64_w, i32_w]
                       rfl
                      exact norm_ (by simp only [putAll, Act.put, List.setIfInBounds_toArray, List.set_cons_zero, List.set_cons_succ]) (hCont (.slice Ao45 y289.length co45, v293, v297) _ ⟨hHeld, (rM_ HO291 (fun _ hk => ⟨hk.2, ⟨hk.1.2.2.2, ⟨hk.1.2.1, ⟨hk.1.2.2.1, hk.1.1⟩⟩⟩⟩)), (rM_ HO294 (fun _ hk => ⟨hk.2.2.2.1, ⟨hk.2.2.2.2, ⟨hk.2.1, ⟨hk.2.2.1, hk.1⟩⟩⟩⟩)), (rM_ HO298 (fun _ hk => ⟨hk.1.2.2.2, ⟨hk.2, ⟨hk.1.2.1, ⟨hk.1.2.2.1, hk.1.1⟩⟩⟩⟩)), (rM_ HO_10 (fun _ hk => ⟨hk.1.2.2.1, ⟨hk.2, ⟨hk.1.2.2.2, ⟨hk.1.2.1, hk.1.1⟩⟩⟩⟩)), (rM_ HO_12 (fun _ hk => ⟨hk.1.2.2.1, ⟨hk.2, ⟨hk.1.2.2.2, ⟨hk.1.2.1, hk.1.1⟩⟩⟩⟩)), (rM_ HO_9 (fun _ hk => ⟨hk.1.2.2.1, ⟨hk.2, ⟨hk.1.2.2.2, ⟨hk.1.1, hk.1.2.1⟩⟩⟩⟩)), (Short.hB HB)⟩)
                    ·
                     skip
                     refine R_lit_step (Kd.int .i64) _ 3 ?hg (N := 113) ?hd (xs := ([rd x10_3 (ji32)] : List Int)) (inner := [.int .i64 (rd x10_3 (ji32))]) (ok := fun _ => True) (okp := fun _ => True) ?hr ?hp (fun _ hk => hk) trivial (Below.refl _ _) (Nat.le_refl _) (by simp) ?_; (case hd => rfl); (case hg => rfl); (case hr => first | (go_simp; done) | (go_simp; rfl)); (case hp => exact (Reps.one (show Kd.M (Kd.int .i64) _ _ _ (rd x10_3 (ji32)) [.int .i64 (rd x10_3 (ji32))] from rfl) (Reps.none _ _)))
                     intro v297 w40 ho41 hb hg_ hnew_
                     have HS0_ := (hb.cell (World.block_lt_of_cell? _ _ (hHeld))).trans (hHeld)
                     clear hg_ hnew_
                     (first | rw [← Ny296.out] at ho41 | (simp only [Int.reduceToNat] at ho41; rw [← Ny296.out] at ho41))
                     have n0_ := mk_ (R_elder' (ZKR HO_9) (R_base ho41) hb)
                     have n1_ := mk_ (R_elder' (ZKR HO_10) (R_base ho41) hb)
                     have n2_ := mk_ (R_elder' (ZKR HO_11) (R_base ho41) hb)
                     have n3_ := mk_ (R_elder' (ZKR HO_12) (R_base ho41) hb)
                     have n4_ := mk_ (R_lower (R_new' (R_new' (R_new' (R_new' ho41 (R_lt (ZKR HO_9))) (R_lt (ZKR HO_10))) (R_lt (ZKR HO_11))) (R_lt (ZKR HO_12))) (below_size (Short.hB HB)))
                     have n5_ := mk_ (below_step (Short.hB HB) hb)
                     clear HO_9 HO_10 HO_11 HO_12 HB
                     revert n0_ n1_ n2_ n3_ n4_ n5_
                     intro HO_9 HO_10 HO_11 HO_12 HO298 HB
                     clear hb ho41
                     refine hK.out _ _ (HS0_) (fun hHeld => ?_)
                     clear hK K
                     refine norm_ (a' := ?_) ?_ ?_
                     rotate_left
                     ·
                      show Act.put _ (some 113) _ = _
                      simp only [Act.put, List.setIfInBounds_toArray, List.set_cons_zero, List.set_cons_succ, i64_w, i32_w]
                      rfl
                     refine one_ (i := 2) (N := some 106) (Steps.Bs 13 1015) rfl rfl (one_of HT_.out z4_) (by decide) (fun K hK => ?_)
                     refine R_lit_step (Kd.int .i64) _ 3 ?hg (N := 106) ?hd (xs := ([ji32] : List Int)) (inner := [.int .i64 ji32]) (ok := fun _ => True) (okp := fun _ => True) ?hr ?hp (fun _ hk => hk) trivial (Below.refl _ _) (Nat.le_refl _) (by simp) ?_; (case hd => rfl); (case hg => rfl); (case hr => first | (go_simp; done) | (go_simp; rfl)); (case hp => exact (Reps.one (show Kd.M (Kd.int .i64) _ _ _ ji32 [.int .i64 ji32] from rfl) (Reps.none _ _)))
                     intro v290 w42 ho43 hb hg_ hnew_
                     have HS0_ := (hb.cell (World.block_lt_of_cell? _ _ (hHeld))).trans (hHeld)
                     clear hg_ hnew_
                     (first | rw [← Ny289.out] at ho43 | (simp only [Int.reduceToNat] at ho43; rw [← Ny289.out] at ho43))
                     have n0_ := mk_ (R_elder' (ZKR HO_9) (R_base ho43) hb)
                     have n1_ := mk_ (R_elder' (ZKR HO_10) (R_base ho43) hb)
                     have n2_ := mk_ (R_elder' (ZKR HO_11) (R_base ho43) hb)
                     have n3_ := mk_ (R_elder' (ZKR HO_12) (R_base ho43) hb)
                     have n4_ := mk_ (R_elder' (ZKR HO298) (R_base ho43) hb)
                     have n5_ := mk_ (R_lower (R_new' (R_new' (R_new' (R_new' (R_new' ho43 (R_lt (ZKR HO_9))) (R_lt (ZKR HO_10))) (R_lt (ZKR HO_11))) (R_lt (ZKR HO_12))) (R_lt (ZKR HO298))) (below_size (Short.hB HB)))
                     have n6_ := mk_ (below_step (Short.hB HB) hb)
                     clear HO_9 HO_10 HO_11 HO_12 HO298 HB
                     revert n0_ n1_ n2_ n3_ n4_ n5_ n6_
                     intro HO_9 HO_10 HO_11 HO_12 HO298 HO291 HB
                     clear hb ho43
                     obtain ⟨Ao45, co45, eo45⟩ := R_slice HO291.out
                     (first | subst eo45 | (injection eo45 with f1_ f2_ f3_; have f4_ := f1_.symm; have f5_ := f3_.symm; clear f1_ f2_ f3_; subst f4_; subst f5_))
                     refine hK.out _ _ (HS0_) (fun hHeld => ?_)
                     clear hK K
                     refine norm_ (a' := ?_) ?_ ?_
                     rotate_left
                     ·
                      show Act.put _ (some 106) _ = _
                      simp only [Act.put, List.setIfInBounds_toArray, List.set_cons_zero, List.set_cons_succ, i64_w, i32_w]
                      rfl
                     refine one_ (i := 3) (N := some 107) (Steps.Bs 13 1023) rfl rfl (one_of HT_.out z4_) (by decide) (fun K hK => ?_)
                     refine R_append_rows_step (Kd.int .i64) (w0 := w) w.heap.size (by rfl) (.tmp 104) (.tmp 106) 47 3 (.int .i64 0) 8 rfl Try.underlying47 info3 rfl (by decide) z2_ (.slice Ao37 x11_4.length co37) x11_4 y289 _ _ _ (fun k_ => nb_ k_ (u9) ∧ nb_ k_ (.slice (some ad295) x10_3.length co36) ∧ nb_ k_ (.slice Ao38 x12_4.length co38) ∧ nb_ k_ (v297) ∧ nb_ k_ (.slice Ao45 y289.length co45)) (fun _ => False) rfl rfl ?aO ?aR (fun _ _ h => h) (fun _ h => h.elim) ?aF ?aB ?aS ?aL ?_
                     (case aR => exact cX_ (R_reads' HO291.out).2.2)
                     (case aB => exact (Short.hB HB))
                     (case aF => exact (fun k_ hk => ⟨Kd.fresh' (R_lt (ZKR HO_9)) k_ hk, Kd.fresh' (R_lt (ZKR HO_10)) k_ hk, Kd.fresh' (R_lt (ZKR HO_12)) k_ hk, Kd.fresh' (R_lt (ZKR HO298)) k_ hk, Kd.fresh' (R_lt (ZKR HO291)) k_ hk⟩))
                     (case aO => exact (rM_ HO_11 (fun _ hk => ⟨hk.1.1.1, ⟨hk.1.1.2.1, ⟨hk.1.1.2.2, ⟨hk.1.2, hk.2⟩⟩⟩⟩)))
                     (case aS => exact (below_size (Short.hB HB)))
                     (case aL => have := LMc31.out; omega)
                     intro v293 w44 ho hb hg hat
                     have HS0_ := cell_grown hg (hHeld) (by first | exact (fun e_ => by have h_ := HO_11.out.1 _ e_.symm; first | exact h_ rfl | exact h_.1 rfl | exact h_.2 rfl | exact h_.1.1 rfl | exact h_.1.2 rfl | exact h_.2.1 rfl | exact h_.2.2 rfl | exact h_.1.1.1 rfl | exact h_.1.1.2 rfl | exact h_.1.2.1 rfl | exact h_.1.2.2 rfl | exact h_.2.1.1 rfl | exact h_.2.1.2 rfl | exact h_.2.2.1 rfl | exact h_.2.2.2 rfl | exact h_.1.1.1.1 rfl | exact h_.1.1.1.2 rfl | exact h_.1.1.2.1 rfl | exact h_.1.1.2.2 rfl | exact h_.1.2.1.1 rfl | exact h_.1.2.1.2 rfl | exact h_.1.2.2.1 rfl | exact h_.1.2.2.2 rfl | exact h_.2.1.1.1 rfl | exact h_.2.1.1.2 rfl | exact h_.2.1.2.1 rfl | exact h_.2.1.2.2 rfl | exact h_.2.2.1.1 rfl | exact h_.2.2.1.2 rfl | exact h_.2.2.2.1 rfl | exact h_.2.2.2.2 rfl) | (rw [add_block]; exact (fun e_ => by have h_ := HO_11.out.1 _ e_.symm; first | exact h_ rfl | exact h_.1 rfl | exact h_.2 rfl | exact h_.1.1 rfl | exact h_.1.2 rfl | exact h_.2.1 rfl | exact h_.2.2 rfl | exact h_.1.1.1 rfl | exact h_.1.1.2 rfl | exact h_.1.2.1 rfl | exact h_.1.2.2 rfl | exact h_.2.1.1 rfl | exact h_.2.1.2 rfl | exact h_.2.2.1 rfl | exact h_.2.2.2 rfl | exact h_.1.1.1.1 rfl | exact h_.1.1.1.2 rfl | exact h_.1.1.2.1 rfl | exact h_.1.1.2.2 rfl | exact h_.1.2.1.1 rfl | exact h_.1.2.1.2 rfl | exact h_.1.2.2.1 rfl | exact h_.1.2.2.2 rfl | exact h_.2.1.1.1 rfl | exact h_.2.1.1.2 rfl | exact h_.2.1.2.1 rfl | exact h_.2.1.2.2 rfl | exact h_.2.2.1.1 rfl | exact h_.2.2.1.2 rfl | exact h_.2.2.2.1 rfl | exact h_.2.2.2.2 rfl)) | (show some (Addr.add _ _).block ≠ _; rw [add_block]; exact (fun e_ => by have h_ := HO_11.out.1 _ e_.symm; first | exact h_ rfl | exact h_.1 rfl | exact h_.2 rfl | exact h_.1.1 rfl | exact h_.1.2 rfl | exact h_.2.1 rfl | exact h_.2.2 rfl | exact h_.1.1.1 rfl | exact h_.1.1.2 rfl | exact h_.1.2.1 rfl | exact h_.1.2.2 rfl | exact h_.2.1.1 rfl | exact h_.2.1.2 rfl | exact h_.2.2.1 rfl | exact h_.2.2.2 rfl | exact h_.1.1.1.1 rfl | exact h_.1.1.1.2 rfl | exact h_.1.1.2.1 rfl | exact h_.1.1.2.2 rfl | exact h_.1.2.1.1 rfl | exact h_.1.2.1.2 rfl | exact h_.1.2.2.1 rfl | exact h_.1.2.2.2 rfl | exact h_.2.1.1.1 rfl | exact h_.2.1.1.2 rfl | exact h_.2.1.2.1 rfl | exact h_.2.1.2.2 rfl | exact h_.2.2.1.1 rfl | exact h_.2.2.1.2 rfl | exact h_.2.2.2.1 rfl | exact h_.2.2.2.2 rfl)))
                     rw [← Ny292.out] at ho
                     have n0_ := mk_ (R_after (ok := (fun k_ => nb_ k_ (.slice (some ad295) x10_3.length co36) ∧ nb_ k_ (.slice Ao38 x12_4.length co38) ∧ nb_ k_ (v297) ∧ nb_ k_ (.slice Ao45 y289.length co45))) (rM_ HO_9 (fun _ hk => ⟨⟨hk.1.1.1, ⟨hk.1.1.2.2, ⟨hk.1.2, hk.2⟩⟩⟩, hk.1.1.2.1⟩)) hg hat)
                     have n1_ := mk_ (R_after (ok := (fun k_ => nb_ k_ (u9) ∧ nb_ k_ (.slice Ao38 x12_4.length co38) ∧ nb_ k_ (v297) ∧ nb_ k_ (.slice Ao45 y289.length co45))) (rM_ HO_10 (fun _ hk => ⟨⟨hk.1.1.1, ⟨hk.1.1.2.2, ⟨hk.1.2, hk.2⟩⟩⟩, hk.1.1.2.1⟩)) hg hat)
                     have n2_ := mk_ (R_after (ok := (fun k_ => nb_ k_ (u9) ∧ nb_ k_ (.slice (some ad295) x10_3.length co36) ∧ nb_ k_ (v297) ∧ nb_ k_ (.slice Ao45 y289.length co45))) (rM_ HO_12 (fun _ hk => ⟨⟨hk.1.1.1, ⟨hk.1.1.2.1, ⟨hk.1.2, hk.2⟩⟩⟩, hk.1.1.2.2⟩)) hg hat)
                     have n3_ := mk_ (R_after (ok := (fun k_ => nb_ k_ (u9) ∧ nb_ k_ (.slice (some ad295) x10_3.length co36) ∧ nb_ k_ (.slice Ao38 x12_4.length co38) ∧ nb_ k_ (.slice Ao45 y289.length co45))) (rM_ HO298 (fun _ hk => ⟨⟨hk.1.1.1.1.2, ⟨hk.1.1.1.2, ⟨hk.1.2, hk.2⟩⟩⟩, hk.1.1.2⟩)) hg hat)
                     have n4_ := mk_ (R_after (ok := (fun k_ => nb_ k_ (u9) ∧ nb_ k_ (.slice (some ad295) x10_3.length co36) ∧ nb_ k_ (.slice Ao38 x12_4.length co38) ∧ nb_ k_ (v297))) (rM_ HO291 (fun _ hk => ⟨⟨hk.1.1.1.1.2, ⟨hk.1.1.1.2, ⟨hk.1.2, hk.2⟩⟩⟩, hk.1.1.2⟩)) hg hat)
                     have n5_ := mk_ (hb)
                     have n6_ := mk_ (ho)
                     clear HO_9 HO_10 HO_12 HO298 HO291 HB HO_11
                     revert n0_ n1_ n2_ n3_ n4_ n5_ n6_
                     intro HO_9 HO_10 HO_12 HO298 HO291 HB HO294
                     clear ho hb hg hat
                     refine hK.out _ _ (HS0_) (fun hHeld => ?_)
                     clear hK K
                     refine norm_ (a' := ?_) ?_ ?_
                     rotate_left
                     ·
                      show Act.put _ (some 107) _ = _
                      simp only [Act.put, List.setIfInBounds_toArray, List.set_cons_zero, List.set_cons_succ, i64_w, i32_w]
                      rfl
                     exact norm_ (by simp only [putAll, Act.put, List.setIfInBounds_toArray, List.set_cons_zero, List.set_cons_succ]) (hCont (.slice Ao45 y289.length co45, v293, v297) _ ⟨hHeld, (rM_ HO291 (fun _ hk => ⟨hk.2, ⟨hk.1.2.2.2, ⟨hk.1.2.1, ⟨hk.1.2.2.1, hk.1.1⟩⟩⟩⟩)), (rM_ HO294 (fun _ hk => ⟨hk.2.2.2.2, ⟨hk.2.2.2.1, ⟨hk.2.1, ⟨hk.2.2.1, hk.1⟩⟩⟩⟩)), (rM_ HO298 (fun _ hk => ⟨hk.1.2.2.2, ⟨hk.2, ⟨hk.1.2.1, ⟨hk.1.2.2.1, hk.1.1⟩⟩⟩⟩)), (rM_ HO_10 (fun _ hk => ⟨hk.1.2.2.2, ⟨hk.2, ⟨hk.1.2.2.1, ⟨hk.1.2.1, hk.1.1⟩⟩⟩⟩)), (rM_ HO_12 (fun _ hk => ⟨hk.1.2.2.2, ⟨hk.2, ⟨hk.1.2.2.1, ⟨hk.1.2.1, hk.1.1⟩⟩⟩⟩)), (rM_ HO_9 (fun _ hk => ⟨hk.1.2.2.2, ⟨hk.2, ⟨hk.1.2.2.1, ⟨hk.1.1, hk.1.2.1⟩⟩⟩⟩)), (Short.hB HB)⟩)
                   rintro ⟨v290, v293, v297⟩ w46 ⟨hS_, h0_, h1_, h2_, h3_, h4_, h5_, h6_⟩
                   have n0_ : Aside0 (Kd.R (Kd.int .i64) 3 w46 w.heap.size (fun k_ => nb_ k_ (v293) ∧ nb_ k_ (v297) ∧ nb_ k_ (.slice (some ad295) x10_3.length co36) ∧ nb_ k_ (.slice Ao38 x12_4.length co38) ∧ nb_ k_ (u9)) v290 y289) := ⟨h0_⟩
                   have n1_ : Aside0 (Kd.R (Kd.int .i64) 3 w46 w.heap.size (fun k_ => nb_ k_ (v290) ∧ nb_ k_ (v297) ∧ nb_ k_ (.slice (some ad295) x10_3.length co36) ∧ nb_ k_ (.slice Ao38 x12_4.length co38) ∧ nb_ k_ (u9)) v293 y292) := ⟨h1_⟩
                   have n2_ : Aside0 (Kd.R (Kd.int .i64) 3 w46 w.heap.size (fun k_ => nb_ k_ (v290) ∧ nb_ k_ (v293) ∧ nb_ k_ (.slice (some ad295) x10_3.length co36) ∧ nb_ k_ (.slice Ao38 x12_4.length co38) ∧ nb_ k_ (u9)) v297 y296) := ⟨h2_⟩
                   have n3_ : Aside0 (Kd.R (Kd.int .i64) 3 w46 w.heap.size (fun k_ => nb_ k_ (v290) ∧ nb_ k_ (v293) ∧ nb_ k_ (v297) ∧ nb_ k_ (.slice Ao38 x12_4.length co38) ∧ nb_ k_ (u9)) (.slice (some ad295) x10_3.length co36) x10_3) := ⟨h3_⟩
                   have n4_ : Aside0 (Kd.R (Kd.int .i64) 3 w46 w.heap.size (fun k_ => nb_ k_ (v290) ∧ nb_ k_ (v293) ∧ nb_ k_ (v297) ∧ nb_ k_ (.slice (some ad295) x10_3.length co36) ∧ nb_ k_ (u9)) (.slice Ao38 x12_4.length co38) x12_4) := ⟨h4_⟩
                   have n5_ : Aside0 (Kd.R (Kd.int .i64) 3 w46 w.heap.size (fun k_ => nb_ k_ (v290) ∧ nb_ k_ (v293) ∧ nb_ k_ (v297) ∧ nb_ k_ (.slice (some ad295) x10_3.length co36) ∧ nb_ k_ (.slice Ao38 x12_4.length co38)) u9 x9_2) := ⟨h5_⟩
                   have n6_ : Aside0 (Below w.heap.size w w46) := ⟨h6_⟩
                   clear HO_9 HO_10 HO_11 HO_12 HB
                   clear h0_ h1_ h2_ h3_ h4_ h5_ h6_
                   revert n0_ n1_ n2_ n3_ n4_ n5_ n6_
                   intro HO291 HO294 HO298 HO_10 HO_12 HO_9 HB
                   have hHeld : w46.cell? (ad295.add ((ji32)).toNat) = some (.int .i64 (rd x10_3 (ji32))) := hS_
                   obtain ⟨Ao48, co48, eo48⟩ := R_slice HO298.out
                   (first | subst eo48 | (injection eo48 with f1_ f2_ f3_; have f4_ := f1_.symm; have f5_ := f3_.symm; clear f1_ f2_ f3_; subst f4_; subst f5_))
                   refine norm_ (a' := ?_) ?_ ?_
                   rotate_left
                   ·
                    simp only [putAll, Act.put, List.setIfInBounds_toArray, List.set_cons_zero, List.set_cons_succ]
                    rfl
                   refine one_ (i := 10) (N := some 114) (Steps.Bs 13 2047) rfl rfl (one_of HT_.out z4_) (by decide) (fun K hK => ?_)
                   refine R_append_rows_step (Kd.int .i64) (w0 := w) w.heap.size (by rfl) (.tmp 108) (.tmp 113) 47 3 (.int .i64 0) 8 rfl Try.underlying47 info3 rfl (by decide) z2_ (.slice Ao38 x12_4.length co38) x12_4 y296 _ _ _ (fun k_ => nb_ k_ (u9) ∧ nb_ k_ (.slice (some ad295) x10_3.length co36) ∧ nb_ k_ (v290) ∧ nb_ k_ (v293) ∧ nb_ k_ (.slice Ao48 y296.length co48)) (fun _ => False) rfl rfl ?aO ?aR (fun _ _ h => h) (fun _ h => h.elim) ?aF ?aB ?aS ?aL ?_
                   (case aR => exact cX_ (R_reads' HO298.out).2.2)
                   (case aB => exact (Short.hB HB))
                   (case aF => exact (fun k_ hk => ⟨Kd.fresh' (R_lt (ZKR HO_9)) k_ hk, Kd.fresh' (R_lt (ZKR HO_10)) k_ hk, Kd.fresh' (R_lt (ZKR HO291)) k_ hk, Kd.fresh' (R_lt (ZKR HO294)) k_ hk, Kd.fresh' (R_lt (ZKR HO298)) k_ hk⟩))
                   (case aO => exact (rM_ HO_12 (fun _ hk => ⟨hk.2.2.2.2, ⟨hk.2.2.2.1, ⟨hk.1, ⟨hk.2.1, hk.2.2.1⟩⟩⟩⟩)))
                   (case aS => exact (below_size (Short.hB HB)))
                   (case aL => have := LMc35.out; omega)
                   intro v300 w47 ho hb hg hat
                   have HS0_ := cell_grown hg (hHeld) (by first | exact (fun e_ => by have h_ := HO_12.out.1 _ e_.symm; first | exact h_ rfl | exact h_.1 rfl | exact h_.2 rfl | exact h_.1.1 rfl | exact h_.1.2 rfl | exact h_.2.1 rfl | exact h_.2.2 rfl | exact h_.1.1.1 rfl | exact h_.1.1.2 rfl | exact h_.1.2.1 rfl | exact h_.1.2.2 rfl | exact h_.2.1.1 rfl | exact h_.2.1.2 rfl | exact h_.2.2.1 rfl | exact h_.2.2.2 rfl | exact h_.1.1.1.1 rfl | exact h_.1.1.1.2 rfl | exact h_.1.1.2.1 rfl | exact h_.1.1.2.2 rfl | exact h_.1.2.1.1 rfl | exact h_.1.2.1.2 rfl | exact h_.1.2.2.1 rfl | exact h_.1.2.2.2 rfl | exact h_.2.1.1.1 rfl | exact h_.2.1.1.2 rfl | exact h_.2.1.2.1 rfl | exact h_.2.1.2.2 rfl | exact h_.2.2.1.1 rfl | exact h_.2.2.1.2 rfl | exact h_.2.2.2.1 rfl | exact h_.2.2.2.2 rfl) | (rw [add_block]; exact (fun e_ => by have h_ := HO_12.out.1 _ e_.symm; first | exact h_ rfl | exact h_.1 rfl | exact h_.2 rfl | exact h_.1.1 rfl | exact h_.1.2 rfl | exact h_.2.1 rfl | exact h_.2.2 rfl | exact h_.1.1.1 rfl | exact h_.1.1.2 rfl | exact h_.1.2.1 rfl | exact h_.1.2.2 rfl | exact h_.2.1.1 rfl | exact h_.2.1.2 rfl | exact h_.2.2.1 rfl | exact h_.2.2.2 rfl | exact h_.1.1.1.1 rfl | exact h_.1.1.1.2 rfl | exact h_.1.1.2.1 rfl | exact h_.1.1.2.2 rfl | exact h_.1.2.1.1 rfl | exact h_.1.2.1.2 rfl | exact h_.1.2.2.1 rfl | exact h_.1.2.2.2 rfl | exact h_.2.1.1.1 rfl | exact h_.2.1.1.2 rfl | exact h_.2.1.2.1 rfl | exact h_.2.1.2.2 rfl | exact h_.2.2.1.1 rfl | exact h_.2.2.1.2 rfl | exact h_.2.2.2.1 rfl | exact h_.2.2.2.2 rfl)) | (show some (Addr.add _ _).block ≠ _; rw [add_block]; exact (fun e_ => by have h_ := HO_12.out.1 _ e_.symm; first | exact h_ rfl | exact h_.1 rfl | exact h_.2 rfl | exact h_.1.1 rfl | exact h_.1.2 rfl | exact h_.2.1 rfl | exact h_.2.2 rfl | exact h_.1.1.1 rfl | exact h_.1.1.2 rfl | exact h_.1.2.1 rfl | exact h_.1.2.2 rfl | exact h_.2.1.1 rfl | exact h_.2.1.2 rfl | exact h_.2.2.1 rfl | exact h_.2.2.2 rfl | exact h_.1.1.1.1 rfl | exact h_.1.1.1.2 rfl | exact h_.1.1.2.1 rfl | exact h_.1.1.2.2 rfl | exact h_.1.2.1.1 rfl | exact h_.1.2.1.2 rfl | exact h_.1.2.2.1 rfl | exact h_.1.2.2.2 rfl | exact h_.2.1.1.1 rfl | exact h_.2.1.1.2 rfl | exact h_.2.1.2.1 rfl | exact h_.2.1.2.2 rfl | exact h_.2.2.1.1 rfl | exact h_.2.2.1.2 rfl | exact h_.2.2.2.1 rfl | exact h_.2.2.2.2 rfl)))
                   rw [← Ny299.out] at ho
                   have n0_ := mk_ (R_after (ok := (fun k_ => nb_ k_ (.slice (some ad295) x10_3.length co36) ∧ nb_ k_ (v290) ∧ nb_ k_ (v293) ∧ nb_ k_ (.slice Ao48 y296.length co48))) (rM_ HO_9 (fun _ hk => ⟨⟨hk.2.2.2.1, ⟨hk.1, ⟨hk.2.1, hk.2.2.1⟩⟩⟩, hk.2.2.2.2⟩)) hg hat)
                   have n1_ := mk_ (R_after (ok := (fun k_ => nb_ k_ (u9) ∧ nb_ k_ (v290) ∧ nb_ k_ (v293) ∧ nb_ k_ (.slice Ao48 y296.length co48))) (rM_ HO_10 (fun _ hk => ⟨⟨hk.2.2.2.2, ⟨hk.1, ⟨hk.2.1, hk.2.2.1⟩⟩⟩, hk.2.2.2.1⟩)) hg hat)
                   have n2_ := mk_ (R_after (ok := (fun k_ => nb_ k_ (u9) ∧ nb_ k_ (.slice (some ad295) x10_3.length co36) ∧ nb_ k_ (v293) ∧ nb_ k_ (.slice Ao48 y296.length co48))) (rM_ HO291 (fun _ hk => ⟨⟨hk.2.2.2.2, ⟨hk.2.2.1, ⟨hk.1, hk.2.1⟩⟩⟩, hk.2.2.2.1⟩)) hg hat)
                   have n3_ := mk_ (R_after (ok := (fun k_ => nb_ k_ (u9) ∧ nb_ k_ (.slice (some ad295) x10_3.length co36) ∧ nb_ k_ (v290) ∧ nb_ k_ (.slice Ao48 y296.length co48))) (rM_ HO294 (fun _ hk => ⟨⟨hk.2.2.2.2, ⟨hk.2.2.1, ⟨hk.1, hk.2.1⟩⟩⟩, hk.2.2.2.1⟩)) hg hat)
                   have n4_ := mk_ (R_after (ok := (fun k_ => nb_ k_ (u9) ∧ nb_ k_ (.slice (some ad295) x10_3.length co36) ∧ nb_ k_ (v290) ∧ nb_ k_ (v293))) (rM_ HO298 (fun _ hk => ⟨⟨hk.2.2.2.2, ⟨hk.2.2.1, ⟨hk.1, hk.2.1⟩⟩⟩, hk.2.2.2.1⟩)) hg hat)
                   have n5_ := mk_ (hb)
                   have n6_ := mk_ (ho)
                   clear HO_9 HO_10 HO291 HO294 HO298 HB HO_12
                   revert n0_ n1_ n2_ n3_ n4_ n5_ n6_
                   intro HO_9 HO_10 HO291 HO294 HO298 HB HO301
                   clear ho hb hg hat
                   refine hK.out _ _ (HS0_) (fun hHeld => ?_)
                   clear hK K
                   refine norm_ (a' := ?_) ?_ ?_
                   rotate_left
                   ·
                    show Act.put _ (some 114) _ = _
                    simp only [Act.put, List.setIfInBounds_toArray, List.set_cons_zero, List.set_cons_succ, i64_w, i32_w]
                    rfl
                   refine Steps.pI_ 11 (some 11) (Steps.Bs 13 4095) (any_of HT_.out z4_) (h := ?_)
                   refine Steps.pI_ 12 (some 12) (Steps.Bs 13 8191) (any_of HT_.out z4_) (h := ?_)
                   refine done_ (done_of HT_.out z4_) ?_
                   try go_wp2
                   go_roundg k4
                   case measure => have := HJ4.out; have := HK2.out; have := HK3.out; have := HK4.out; omega
                   case rel => exact ⟨(y292), (y299), (wrap64 (x16_4 + 1)), z1_, H', ⟨by have := HJ4.out; have := HK2.out; have := HK3.out; have := HK4.out; omega⟩, ⟨by (with_reducible repeat (first | apply R_alloc | apply R_drewN | apply R_drew)); exact R_mono HO_9.out (fun _ hk => ⟨hk.1.1, ⟨hk.1.2.2.1, hk.2⟩⟩)⟩, ⟨by (with_reducible repeat (first | apply R_alloc | apply R_drewN | apply R_drew)); exact R_mono HO_10.out (fun _ hk => ⟨hk.1.1, ⟨hk.1.2.2.1, hk.2⟩⟩)⟩, ⟨by (with_reducible repeat (first | apply R_alloc | apply R_drewN | apply R_drew)); exact R_mono HO294.out (fun _ hk => ⟨hk.1.1, ⟨hk.1.2.1, hk.2⟩⟩)⟩, ⟨by (with_reducible repeat (first | apply R_alloc | apply R_drewN | apply R_drew)); exact R_mono HO301.out (fun _ hk => ⟨hk.1, ⟨hk.2.1, hk.2.2.2.1⟩⟩)⟩, ⟨Short.hB HB⟩⟩
                  ·
                   rw [if_neg c35] at H
                   exact absurd H (by simp)
                 ·
                  rw [if_neg c34] at H
                  exact absurd H (by simp)
                ·
                 rw [if_neg c33] at H
                 exact absurd H (by simp)
               ·
                rw [if_neg c31] at H
                exact absurd H (by simp)
             ·
              rw [if_neg c29] at H
              exact absurd H (by simp)
            ·
             rw [if_neg c28] at H
             have c28b0 : decide (x16_4 < (l3.length : Int)) = false := decide_eq_false c28
             clear c28
             replace H := Option.bind_eq_some_iff.mp H
             obtain ⟨⟨t302, t303⟩, A490, H⟩ := H
             replace H : ((row_Pick.f k4 l0 x10_3).bind fun bt306 => ((row_Pick.f k4 bt306.1 x11_4).bind fun bt310 => ((row_Pick.f k4 l0 x12_4).bind fun bt314 => (if t303 = 0 then (if bt306.2 = 0 then (if bt310.2 = 0 then (if bt314.2 = 0 then ((raddlekeep_Row.f k4 t302 l0).bind fun t318 => (if t318 = true then ((raddlekeep_Row.f k4 bt310.1 bt314.1).bind fun t319 => (if t319 = true then (raddlelaw04_RowPicks.j4 k4 l0 l1 x10_3 ([] : List Int) bt306.1 ((bt306.1.length : Int) != (x10_3.length : Int))) else (raddlelaw04_RowPicks.j4 k4 l0 l1 x10_3 ([] : List Int) bt306.1 true))) else (raddlelaw04_RowPicks.j4 k4 l0 l1 x10_3 ([] : List Int) bt306.1 true))) else (raddlelaw04_RowPicks.j4 k4 l0 l1 x10_3 ([] : List Int) bt306.1 true)) else (raddlelaw04_RowPicks.j4 k4 l0 l1 x10_3 ([] : List Int) bt306.1 true)) else (raddlelaw04_RowPicks.j4 k4 l0 l1 x10_3 ([] : List Int) bt306.1 true)) else (raddlelaw04_RowPicks.j4 k4 l0 l1 x10_3 ([] : List Int) bt306.1 true))))) = some r := H
             have A49 := mk_ A490
             clear A490
             replace H := Option.bind_eq_some_iff.mp H
             obtain ⟨⟨t306, t307⟩, A500, H⟩ := H
             replace H : ((row_Pick.f k4 t306 x11_4).bind fun bt310 => ((row_Pick.f k4 l0 x12_4).bind fun bt314 => (if t303 = 0 then (if t307 = 0 then (if bt310.2 = 0 then (if bt314.2 = 0 then ((raddlekeep_Row.f k4 t302 l0).bind fun t318 => (if t318 = true then ((raddlekeep_Row.f k4 bt310.1 bt314.1).bind fun t319 => (if t319 = true then (raddlelaw04_RowPicks.j4 k4 l0 l1 x10_3 ([] : List Int) t306 ((t306.length : Int) != (x10_3.length : Int))) else (raddlelaw04_RowPicks.j4 k4 l0 l1 x10_3 ([] : List Int) t306 true))) else (raddlelaw04_RowPicks.j4 k4 l0 l1 x10_3 ([] : List Int) t306 true))) else (raddlelaw04_RowPicks.j4 k4 l0 l1 x10_3 ([] : List Int) t306 true)) else (raddlelaw04_RowPicks.j4 k4 l0 l1 x10_3 ([] : List Int) t306 true)) else (raddlelaw04_RowPicks.j4 k4 l0 l1 x10_3 ([] : List Int) t306 true)) else (raddlelaw04_RowPicks.j4 k4 l0 l1 x10_3 ([] : List Int) t306 true)))) = some r := H
             have A50 := mk_ A500
             clear A500
             replace H := Option.bind_eq_some_iff.mp H
             obtain ⟨⟨t310, t311⟩, A510, H⟩ := H
             replace H : ((row_Pick.f k4 l0 x12_4).bind fun bt314 => (if t303 = 0 then (if t307 = 0 then (if t311 = 0 then (if bt314.2 = 0 then ((raddlekeep_Row.f k4 t302 l0).bind fun t318 => (if t318 = true then ((raddlekeep_Row.f k4 t310 bt314.1).bind fun t319 => (if t319 = true then (raddlelaw04_RowPicks.j4 k4 l0 l1 x10_3 ([] : List Int) t306 ((t306.length : Int) != (x10_3.length : Int))) else (raddlelaw04_RowPicks.j4 k4 l0 l1 x10_3 ([] : List Int) t306 true))) else (raddlelaw04_RowPicks.j4 k4 l0 l1 x10_3 ([] : List Int) t306 true))) else (raddlelaw04_RowPicks.j4 k4 l0 l1 x10_3 ([] : List Int) t306 true)) else (raddlelaw04_RowPicks.j4 k4 l0 l1 x10_3 ([] : List Int) t306 true)) else (raddlelaw04_RowPicks.j4 k4 l0 l1 x10_3 ([] : List Int) t306 true)) else (raddlelaw04_RowPicks.j4 k4 l0 l1 x10_3 ([] : List Int) t306 true))) = some r := H
             have A51 := mk_ A510
             clear A510
             replace H := Option.bind_eq_some_iff.mp H
             obtain ⟨⟨t314, t315⟩, A520, H⟩ := H
             replace H : (if t303 = 0 then (if t307 = 0 then (if t311 = 0 then (if t315 = 0 then ((raddlekeep_Row.f k4 t302 l0).bind fun t318 => (if t318 = true then ((raddlekeep_Row.f k4 t310 t314).bind fun t319 => (if t319 = true then (raddlelaw04_RowPicks.j4 k4 l0 l1 x10_3 ([] : List Int) t306 ((t306.length : Int) != (x10_3.length : Int))) else (raddlelaw04_RowPicks.j4 k4 l0 l1 x10_3 ([] : List Int) t306 true))) else (raddlelaw04_RowPicks.j4 k4 l0 l1 x10_3 ([] : List Int) t306 true))) else (raddlelaw04_RowPicks.j4 k4 l0 l1 x10_3 ([] : List Int) t306 true)) else (raddlelaw04_RowPicks.j4 k4 l0 l1 x10_3 ([] : List Int) t306 true)) else (raddlelaw04_RowPicks.j4 k4 l0 l1 x10_3 ([] : List Int) t306 true)) else (raddlelaw04_RowPicks.j4 k4 l0 l1 x10_3 ([] : List Int) t306 true)) = some r := H
             have A52 := mk_ A520
             clear A520
             have HC53 := mk_ H
             clear H
             obtain ⟨Ao54, co54, eo54⟩ := R_slice HO_9.out
             subst eo54
             go_upto_region 21 with (first | ((with_reducible refine gate_callee (f := 23) rfl ?_); refine Short.gL (some 118) Try.func23 #[.slice A0 l0.length c0, .slice Ao54 x9_2.length co54] (h := ?_); (with_reducible refine (row_Pick.calls k4 _ _ l0 _ _ x9_2 t302 t303 _ ?side1 ?side2 ?side3 ?side4 A49.out).mono ?_); (case side1 => exact cX_ (C_below HR0.out HB.out)); (case side2 => exact HC0.out); (case side3 => exact cX_ (R_reads' HO_9.out).2.2); (case side4 => exact (R_reads' HO_9.out).2.1); rintro e w55 ⟨v304, rfl, ho0, hb⟩; refine ⟨_, rfl, ?_⟩; have n0_ := mk_ (R_below (ZKR HO_9) hb); have n1_ := mk_ (R_below (ZKR HO_10) hb); have n2_ := mk_ (R_below (ZKR HO_11) hb); have n3_ := mk_ (R_below (ZKR HO_12) hb); have n4_ := mk_ (R_lower ho0 (below_size (Short.hB HB))); have n5_ := mk_ (below_step (Short.hB HB) hb); clear HO_9 HO_10 HO_11 HO_12 HB; revert n0_ n1_ n2_ n3_ n4_ n5_; intro HO_9 HO_10 HO_11 HO_12 HO305 HB; (try clear hb ho0); obtain ⟨Ao56, co56, eo56⟩ := R_slice HO_10.out; subst eo56) | ((with_reducible refine gate_callee (f := 23) rfl ?_); refine Short.gL (some 124) Try.func23 #[.slice A0 l0.length c0, .slice Ao56 x10_3.length co56] (h := ?_); (with_reducible refine (row_Pick.calls k4 _ _ l0 _ _ x10_3 t306 t307 _ ?side1 ?side2 ?side3 ?side4 A50.out).mono ?_); (case side1 => exact cX_ (C_below HR0.out HB.out)); (case side2 => exact HC0.out); (case side3 => exact cX_ (R_reads' HO_10.out).2.2); (case side4 => exact (R_reads' HO_10.out).2.1); rintro e w57 ⟨v308, rfl, ho0, hb⟩; refine ⟨_, rfl, ?_⟩; have n0_ := mk_ (R_below (ZKR HO_9) hb); have n1_ := mk_ (R_below (ZKR HO_10) hb); have n2_ := mk_ (R_below (ZKR HO_11) hb); have n3_ := mk_ (R_below (ZKR HO_12) hb); have n4_ := mk_ (R_elder' (ZKR HO305) (R_base ho0) hb); have n5_ := mk_ (R_lower (R_new' ho0 (R_lt (ZKR HO305))) (below_size (Short.hB HB))); have n6_ := mk_ (below_step (Short.hB HB) hb); clear HO_9 HO_10 HO_11 HO_12 HO305 HB; revert n0_ n1_ n2_ n3_ n4_ n5_ n6_; intro HO_9 HO_10 HO_11 HO_12 HO305 HO309 HB; (try clear hb ho0); obtain ⟨Ao58, co58, eo58⟩ := R_slice HO309.out; subst eo58; obtain ⟨Ao59, co59, eo59⟩ := R_slice HO_11.out; subst eo59) | ((with_reducible refine gate_callee (f := 23) rfl ?_); refine Short.gL (some 130) Try.func23 #[.slice Ao58 t306.length co58, .slice Ao59 x11_4.length co59] (h := ?_); (with_reducible refine (row_Pick.calls k4 _ _ t306 _ _ x11_4 t310 t311 _ ?side1 ?side2 ?side3 ?side4 A51.out).mono ?_); (case side1 => exact cX_ (R_reads' HO309.out).2.2); (case side2 => exact (R_reads' HO309.out).2.1); (case side3 => exact cX_ (R_reads' HO_11.out).2.2); (case side4 => exact (R_reads' HO_11.out).2.1); rintro e w60 ⟨v312, rfl, ho0, hb⟩; refine ⟨_, rfl, ?_⟩; have n0_ := mk_ (R_below (ZKR HO_9) hb); have n1_ := mk_ (R_below (ZKR HO_10) hb); have n2_ := mk_ (R_below (ZKR HO_11) hb); have n3_ := mk_ (R_below (ZKR HO_12) hb); have n4_ := mk_ (R_elder' (ZKR HO305) (R_base ho0) hb); have n5_ := mk_ (R_elder' (ZKR HO309) (R_base ho0) hb); have n6_ := mk_ (R_lower (R_new' (R_new' ho0 (R_lt (ZKR HO305))) (R_lt (ZKR HO309))) (below_size (Short.hB HB))); have n7_ := mk_ (below_step (Short.hB HB) hb); clear HO_9 HO_10 HO_11 HO_12 HO305 HO309 HB; revert n0_ n1_ n2_ n3_ n4_ n5_ n6_ n7_; intro HO_9 HO_10 HO_11 HO_12 HO305 HO309 HO313 HB; (try clear hb ho0); obtain ⟨Ao61, co61, eo61⟩ := R_slice HO_12.out; subst eo61) | ((with_reducible refine gate_callee (f := 23) rfl ?_); refine Short.gL (some 136) Try.func23 #[.slice A0 l0.length c0, .slice Ao61 x12_4.length co61] (h := ?_); (with_reducible refine (row_Pick.calls k4 _ _ l0 _ _ x12_4 t314 t315 _ ?side1 ?side2 ?side3 ?side4 A52.out).mono ?_); (case side1 => exact cX_ (C_below HR0.out HB.out)); (case side2 => exact HC0.out); (case side3 => exact cX_ (R_reads' HO_12.out).2.2); (case side4 => exact (R_reads' HO_12.out).2.1); rintro e w62 ⟨v316, rfl, ho0, hb⟩; refine ⟨_, rfl, ?_⟩; have n0_ := mk_ (R_below (ZKR HO_9) hb); have n1_ := mk_ (R_below (ZKR HO_10) hb); have n2_ := mk_ (R_below (ZKR HO_11) hb); have n3_ := mk_ (R_below (ZKR HO_12) hb); have n4_ := mk_ (R_elder' (ZKR HO305) (R_base ho0) hb); have n5_ := mk_ (R_elder' (ZKR HO309) (R_base ho0) hb); have n6_ := mk_ (R_elder' (ZKR HO313) (R_base ho0) hb); have n7_ := mk_ (R_lower (R_new' (R_new' (R_new' ho0 (R_lt (ZKR HO305))) (R_lt (ZKR HO309))) (R_lt (ZKR HO313))) (below_size (Short.hB HB))); have n8_ := mk_ (below_step (Short.hB HB) hb); clear HO_9 HO_10 HO_11 HO_12 HO305 HO309 HO313 HB; revert n0_ n1_ n2_ n3_ n4_ n5_ n6_ n7_ n8_; intro HO_9 HO_10 HO_11 HO_12 HO305 HO309 HO313 HO317 HB; (try clear hb ho0)))
             (try simp only [Act.put, List.setIfInBounds_toArray, List.set_cons_zero, List.set_cons_succ])
             go_cut [171] (fun v171 wc => ∃ (kq : Nat) (x171_52 : Bool), v171 = .bool x171_52 ∧ Aside0 (raddlelaw04_RowPicks.j4 kq l0 l1 x10_3 ([] : List Int) t306 x171_52 = some r) ∧ Aside0 (kq ≤ k4) ∧ Aside0 (Kd.R (Kd.int .i64) 3 wc w.heap.size (fun k_ => nb_ k_ ((.slice none 0 0))) (.slice Ao56 x10_3.length co56) x10_3) ∧ Aside0 (Kd.R (Kd.int .i64) 3 wc w.heap.size (fun k_ => nb_ k_ ((.slice Ao56 x10_3.length co56))) (.slice none 0 0) ([] : List Int)) ∧ Aside0 (Kd.R k39 39 wc w.heap.size (fun _ => True) (.slice Ao58 t306.length co58) t306) ∧ Aside0 (Below w.heap.size w wc))
             case first =>
              have H := HC53.out
              clear HC53
              by_cases c63 : t303 = 0
              ·
               rw [if_pos c63] at H
               have c63b0 : (t303 == 0) = true := beq_iff_eq.mpr c63
               have c63b1 : (t303 != 0) = false := bne_eq_false_iff_eq.mpr c63
               clear c63
               (first | rw [c63b0] | (simp only [i64_w, i32_w]; rw [c63b0]) | skip)
               by_cases c64 : t307 = 0
               ·
                rw [if_pos c64] at H
                have c64b0 : (t307 == 0) = true := beq_iff_eq.mpr c64
                have c64b1 : (t307 != 0) = false := bne_eq_false_iff_eq.mpr c64
                clear c64
                by_cases c65 : t311 = 0
                ·
                 rw [if_pos c65] at H
                 have c65b0 : (t311 == 0) = true := beq_iff_eq.mpr c65
                 have c65b1 : (t311 != 0) = false := bne_eq_false_iff_eq.mpr c65
                 clear c65
                 by_cases c66 : t315 = 0
                 ·
                  rw [if_pos c66] at H
                  have c66b0 : (t315 == 0) = true := beq_iff_eq.mpr c66
                  have c66b1 : (t315 != 0) = false := bne_eq_false_iff_eq.mpr c66
                  clear c66
                  replace H := Option.bind_eq_some_iff.mp H
                  obtain ⟨t318, A670, H⟩ := H
                  replace H : (if t318 = true then ((raddlekeep_Row.f k4 t310 t314).bind fun t319 => (if t319 = true then (raddlelaw04_RowPicks.j4 k4 l0 l1 x10_3 ([] : List Int) t306 ((t306.length : Int) != (x10_3.length : Int))) else (raddlelaw04_RowPicks.j4 k4 l0 l1 x10_3 ([] : List Int) t306 true))) else (raddlelaw04_RowPicks.j4 k4 l0 l1 x10_3 ([] : List Int) t306 true)) = some r := H
                  have A67 := mk_ A670
                  clear A670
                  by_cases c68 : t318 = true
                  ·
                   subst c68
                   have H1 : ((raddlekeep_Row.f k4 t310 t314).bind fun t319 => (if t319 = true then (raddlelaw04_RowPicks.j4 k4 l0 l1 x10_3 ([] : List Int) t306 ((t306.length : Int) != (x10_3.length : Int))) else (raddlelaw04_RowPicks.j4 k4 l0 l1 x10_3 ([] : List Int) t306 true))) = some r := by rw [if_pos rfl] at H; exact H
                   clear H
                   have H := H1
                   clear H1
                   replace H := Option.bind_eq_some_iff.mp H
                   obtain ⟨t319, A690, H⟩ := H
                   replace H : (if t319 = true then (raddlelaw04_RowPicks.j4 k4 l0 l1 x10_3 ([] : List Int) t306 ((t306.length : Int) != (x10_3.length : Int))) else (raddlelaw04_RowPicks.j4 k4 l0 l1 x10_3 ([] : List Int) t306 true)) = some r := H
                   have A69 := mk_ A690
                   clear A690
                   by_cases c70 : t319 = true
                   ·
                    subst c70
                    have H1 : (raddlelaw04_RowPicks.j4 k4 l0 l1 x10_3 ([] : List Int) t306 ((t306.length : Int) != (x10_3.length : Int))) = some r := by rw [if_pos rfl] at H; exact H
                    clear H
                    have H := H1
                    clear H1
                    have H' := mk_ H
                    clear H
                    obtain ⟨Ao71, co71, eo71⟩ := R_slice HO305.out
                    subst eo71
                    go_wp2_with (first | (go_at_call 13; (with_reducible refine (raddlekeep_Row.calls k4 _ _ t302 _ _ l0 true _ ?side1 ?side2 ?side3 ?side4 A67.out).mono ?_); (case side1 => exact cX_ (R_reads' HO305.out).2.2); (case side2 => exact (R_reads' HO305.out).2.1); (case side3 => exact cX_ (C_below HR0.out HB.out)); (case side4 => exact HC0.out); rintro e w72 ⟨rfl, hb⟩; have n0_ := mk_ (R_below (ZKR HO_9) hb); have n1_ := mk_ (R_below (ZKR HO_10) hb); have n2_ := mk_ (R_below (ZKR HO_11) hb); have n3_ := mk_ (R_below (ZKR HO_12) hb); have n4_ := mk_ (R_below (ZKR HO305) hb); have n5_ := mk_ (R_below (ZKR HO309) hb); have n6_ := mk_ (R_below (ZKR HO313) hb); have n7_ := mk_ (R_below (ZKR HO317) hb); have n8_ := mk_ (below_step (Short.hB HB) hb); clear HO_9 HO_10 HO_11 HO_12 HO305 HO309 HO313 HO317 HB; revert n0_ n1_ n2_ n3_ n4_ n5_ n6_ n7_ n8_; intro HO_9 HO_10 HO_11 HO_12 HO305 HO309 HO313 HO317 HB; (try clear hb); (try clear hb2); (try clear hk); (try clear hi); obtain ⟨Ao73, co73, eo73⟩ := R_slice HO313.out; subst eo73; obtain ⟨Ao74, co74, eo74⟩ := R_slice HO317.out; subst eo74) | (go_at_call 13; (with_reducible refine (raddlekeep_Row.calls k4 _ _ t310 _ _ t314 true _ ?side1 ?side2 ?side3 ?side4 A69.out).mono ?_); (case side1 => exact cX_ (R_reads' HO313.out).2.2); (case side2 => exact (R_reads' HO313.out).2.1); (case side3 => exact cX_ (R_reads' HO317.out).2.2); (case side4 => exact (R_reads' HO317.out).2.1); rintro e w75 ⟨rfl, hb⟩; have n0_ := mk_ (R_below (ZKR HO_9) hb); have n1_ := mk_ (R_below (ZKR HO_10) hb); have n2_ := mk_ (R_below (ZKR HO_11) hb); have n3_ := mk_ (R_below (ZKR HO_12) hb); have n4_ := mk_ (R_below (ZKR HO305) hb); have n5_ := mk_ (R_below (ZKR HO309) hb); have n6_ := mk_ (R_below (ZKR HO313) hb); have n7_ := mk_ (R_below (ZKR HO317) hb); have n8_ := mk_ (below_step (Short.hB HB) hb); clear HO_9 HO_10 HO_11 HO_12 HO305 HO309 HO313 HO317 HB; revert n0_ n1_ n2_ n3_ n4_ n5_ n6_ n7_ n8_; intro HO_9 HO_10 HO_11 HO_12 HO305 HO309 HO313 HO317 HB; (try clear hb); (try clear hb2); (try clear hk); (try clear hi)))
                    go_meet
                    case rel => exact ⟨_, (((t306.length : Int) != (x10_3.length : Int))), z1_, H', ⟨by have := HJ4.out; have := HK2.out; have := HK3.out; have := HK4.out; first | omega | exact Nat.le_refl _⟩, ⟨by (with_reducible repeat (first | apply R_alloc | apply R_drewN | apply R_drew)); exact R_mono HO_10.out (fun _ hk => (by simp [Value.ownBlock]))⟩, ⟨by first | exact R_nil _ _ _ _ _ | exact N_nil _ _ _ _ _ | exact V_nil _ _ _ _ _ | exact Q_nil _ _ _ _ _ | exact S_nil _ _ _ _ _⟩, ⟨by (with_reducible repeat (first | apply R_alloc | apply R_drewN | apply R_drew)); exact R_mono HO309.out (fun _ hk => trivial)⟩, ⟨Short.hB HB⟩⟩
                   ·
                    replace c70 := Bool.eq_false_iff.mpr c70
                    subst c70
                    have H1 : (raddlelaw04_RowPicks.j4 k4 l0 l1 x10_3 ([] : List Int) t306 true) = some r := by rw [if_neg (show ¬ (false = true) by decide)] at H; exact H
                    clear H
                    have H := H1
                    clear H1
                    exact absurd H (by rw [hrt]; cases k4 <;> simp [raddlelaw04_RowPicks.j4])
                  ·
                   replace c68 := Bool.eq_false_iff.mpr c68
                   subst c68
                   have H1 : (raddlelaw04_RowPicks.j4 k4 l0 l1 x10_3 ([] : List Int) t306 true) = some r := by rw [if_neg (show ¬ (false = true) by decide)] at H; exact H
                   clear H
                   have H := H1
                   clear H1
                   exact absurd H (by rw [hrt]; cases k4 <;> simp [raddlelaw04_RowPicks.j4])
                 ·
                  rw [if_neg c66] at H
                  have c66b0 : (t315 == 0) = false := beq_eq_false_iff_ne.mpr c66
                  have c66b1 : (t315 != 0) = true := bne_iff_ne.mpr c66
                  exact absurd H (by rw [hrt]; cases k4 <;> simp [raddlelaw04_RowPicks.j4])
                ·
                 rw [if_neg c65] at H
                 have c65b0 : (t311 == 0) = false := beq_eq_false_iff_ne.mpr c65
                 have c65b1 : (t311 != 0) = true := bne_iff_ne.mpr c65
                 exact absurd H (by rw [hrt]; cases k4 <;> simp [raddlelaw04_RowPicks.j4])
               ·
                rw [if_neg c64] at H
                have c64b0 : (t307 == 0) = false := beq_eq_false_iff_ne.mpr c64
                have c64b1 : (t307 != 0) = true := bne_iff_ne.mpr c64
                exact absurd H (by rw [hrt]; cases k4 <;> simp [raddlelaw04_RowPicks.j4])
              ·
               rw [if_neg c63] at H
               have c63b0 : (t303 == 0) = false := beq_eq_false_iff_ne.mpr c63
               have c63b1 : (t303 != 0) = true := bne_iff_ne.mpr c63
               (first | rw [c63b0] | (simp only [i64_w, i32_w]; rw [c63b0]) | skip)
               exact absurd H (by rw [hrt]; cases k4 <;> simp [raddlelaw04_RowPicks.j4])
             case rest => as_aux_lemma =>
              clear HC53
              try clear c2
              try clear p2
              try clear q2
              try clear hx2
              try clear c3
              try clear c6
              try clear p6
              try clear c7
              try clear c23
              try clear c28
              try clear c28b0
              try clear c29
              try clear p29
              try clear q29
              try clear hx29
              try clear c31
              try clear c33
              try clear c34
              try clear c35
              try clear c63
              try clear c63b0
              try clear c63b1
              try clear c64
              try clear c64b0
              try clear c64b1
              try clear p64
              try clear c65
              try clear c65b0
              try clear c65b1
              try clear c66
              try clear c66b0
              try clear c66b1
              try clear c68
              try clear c70
              try clear hx295_0
              try clear p295
              try clear q295
              obtain ⟨kq, x171_52, rfl, HA, HJ52, HO_10, HO_13, HO_20, HB⟩ := hcut
              cases kq with
              | zero => exact absurd HA.out (by simp [raddlelaw04_RowPicks.j4])
              | succ kj52 =>
               have H := HA.out
               clear HA
               simp only [raddlelaw04_RowPicks.j4] at H
               by_cases c76 : x171_52 = true
               ·
                subst c76
                have H1 : (some false) = some r := by rw [if_pos rfl] at H; exact H
                clear H
                have H := H1
                clear H1
                exact absurd H (by rw [hrt]; simp)
               ·
                replace c76 := Bool.eq_false_iff.mpr c76
                subst c76
                have H1 : (if (l1.length : Int) = (l0.length : Int) then ((row_Fits.f kj52 l0 l1).bind fun t320 => (raddlelaw04_RowPicks.j5 kj52 l1 x10_3 ([] : List Int) t306 t320)) else (raddlelaw04_RowPicks.j5 kj52 l1 x10_3 ([] : List Int) t306 false)) = some r := by rw [if_neg (show ¬ (false = true) by decide)] at H; exact H
                clear H
                have H := H1
                clear H1
                have HC77 := mk_ H
                clear H
                go_upto_region 23 with (fail)
                go_cut [181] (fun v181 wc => ∃ (kq : Nat) (x181_76 : Bool), v181 = .bool x181_76 ∧ Aside0 (raddlelaw04_RowPicks.j5 kq l1 x10_3 ([] : List Int) t306 x181_76 = some r) ∧ Aside0 (kq ≤ kj52) ∧ Aside0 (Kd.R (Kd.int .i64) 3 wc w.heap.size (fun k_ => nb_ k_ ((.slice none 0 0))) (.slice Ao56 x10_3.length co56) x10_3) ∧ Aside0 (Kd.R (Kd.int .i64) 3 wc w.heap.size (fun k_ => nb_ k_ ((.slice Ao56 x10_3.length co56))) (.slice none 0 0) ([] : List Int)) ∧ Aside0 (Kd.R k39 39 wc w.heap.size (fun _ => True) (.slice Ao58 t306.length co58) t306) ∧ Aside0 (Below w.heap.size w wc))
                case first =>
                 have H := HC77.out
                 clear HC77
                 by_cases c78 : (l1.length : Int) = (l0.length : Int)
                 ·
                  rw [if_pos c78] at H
                  have c78b0 : ((l1.length : Int) == (l0.length : Int)) = true := beq_iff_eq.mpr c78
                  have c78b1 : ((l1.length : Int) != (l0.length : Int)) = false := bne_eq_false_iff_eq.mpr c78
                  have c78b2 : (l1.length == l0.length) = true := by first | simpa using c78 | (simp at c78 ⊢; omega)
                  clear c78
                  (first | rw [c78b0] | (simp only [i64_w, i32_w]; rw [c78b0]) | skip)
                  replace H := Option.bind_eq_some_iff.mp H
                  obtain ⟨t320, A790, H⟩ := H
                  replace H : (raddlelaw04_RowPicks.j5 kj52 l1 x10_3 ([] : List Int) t306 t320) = some r := H
                  have A79 := mk_ A790
                  clear A790
                  have H' := mk_ H
                  clear H
                  go_wp2_with (first | (go_at_call 26; (with_reducible refine (row_Fits.calls kj52 _ _ l0 _ _ l1 t320 _ ?side1 ?side2 ?side3 ?side4 A79.out).mono ?_); (case side1 => exact cX_ (C_below HR0.out HB.out)); (case side2 => exact HC0.out); (case side3 => exact cX_ (C_below HR1.out HB.out)); (case side4 => exact HC1.out); rintro e w80 ⟨rfl, hb⟩; have n0_ := mk_ (R_below (ZKR HO_10) hb); have n1_ := mk_ (R_below (ZKR HO_13) hb); have n2_ := mk_ (R_below (ZKR HO_20) hb); have n3_ := mk_ (below_step (Short.hB HB) hb); clear HO_10 HO_13 HO_20 HB; revert n0_ n1_ n2_ n3_; intro HO_10 HO_13 HO_20 HB; (try clear hb); (try clear hb2); (try clear hk); (try clear hi)))
                  go_meet
                  case rel => exact ⟨_, (t320), z1_, H', ⟨by have := HJ4.out; have := HK2.out; have := HK3.out; have := HK4.out; have := HJ52.out; first | omega | exact Nat.le_refl _⟩, ⟨by (with_reducible repeat (first | apply R_alloc | apply R_drewN | apply R_drew)); exact HO_10.out⟩, ⟨by (with_reducible repeat (first | apply R_alloc | apply R_drewN | apply R_drew)); exact HO_13.out⟩, ⟨by (with_reducible repeat (first | apply R_alloc | apply R_drewN | apply R_drew)); exact HO_20.out⟩, ⟨Short.hB HB⟩⟩
                 ·
                  rw [if_neg c78] at H
                  have c78b0 : ((l1.length : Int) == (l0.length : Int)) = false := beq_eq_false_iff_ne.mpr c78
                  have c78b1 : ((l1.length : Int) != (l0.length : Int)) = true := bne_iff_ne.mpr c78
                  have c78b2 : (l1.length == l0.length) = false := by first | simpa using c78 | (simp at c78 ⊢; omega)
                  (first | rw [c78b0] | (simp only [i64_w, i32_w]; rw [c78b0]) | skip)
                  have H' := mk_ H
                  clear H
                  go_wp2
                  go_meet
                  case rel => exact ⟨_, (false), z1_, H', ⟨by have := HJ4.out; have := HK2.out; have := HK3.out; have := HK4.out; have := HJ52.out; first | omega | exact Nat.le_refl _⟩, ⟨by (with_reducible repeat (first | apply R_alloc | apply R_drewN | apply R_drew)); exact HO_10.out⟩, ⟨by (with_reducible repeat (first | apply R_alloc | apply R_drewN | apply R_drew)); exact HO_13.out⟩, ⟨by (with_reducible repeat (first | apply R_alloc | apply R_drewN | apply R_drew)); exact HO_20.out⟩, ⟨Short.hB HB⟩⟩
                case rest => as_aux_lemma =>
                 clear HC77
                 try clear c2
                 try clear p2
                 try clear q2
                 try clear hx2
                 try clear c3
                 try clear c6
                 try clear p6
                 try clear c7
                 try clear c23
                 try clear c28
                 try clear c28b0
                 try clear c29
                 try clear p29
                 try clear q29
                 try clear hx29
                 try clear c31
                 try clear c33
                 try clear c34
                 try clear c35
                 try clear c63
                 try clear c63b0
                 try clear c63b1
                 try clear c64
                 try clear c64b0
                 try clear c64b1
                 try clear p64
                 try clear c65
                 try clear c65b0
                 try clear c65b1
                 try clear c66
                 try clear c66b0
                 try clear c66b1
                 try clear c68
                 try clear c70
                 try clear c76
                 try clear c78
                 try clear c78b0
                 try clear c78b1
                 try clear c78b2
                 try clear hx295_0
                 try clear p2
                 try clear p29
                 try clear p295
                 try clear p6
                 try clear p64
                 try clear q2
                 try clear q29
                 try clear q295
                 obtain ⟨kq, x181_76, rfl, HA, HJ76, HO_10, HO_13, HO_20, HB⟩ := hcut
                 cases kq with
                 | zero => exact absurd HA.out (by simp [raddlelaw04_RowPicks.j5])
                 | succ kj76 =>
                  have H := HA.out
                  clear HA
                  simp only [raddlelaw04_RowPicks.j5] at H
                  by_cases c81 : x181_76 = true
                  ·
                   subst c81
                   have H1 : (raddlelaw04_RowPicks.l3 kj76 l1 x10_3 ([] : List Int) t306 0) = some r := by rw [if_pos rfl] at H; exact H
                   clear H
                   have H := H1
                   clear H1
                   have H' := mk_ H
                   clear H
                   go_wp2
                   go_loopg [13, 26] kj76 (fun kq v13 v26 w' => ∃ (x13_7 : List Int) (x26_7 : Int), v26 = .int .i64 x26_7 ∧ Aside0 (raddlelaw04_RowPicks.l3 kq l1 x10_3 x13_7 t306 x26_7 = some r) ∧ Aside0 (kq ≤ kj76) ∧ Aside0 (Kd.R (Kd.int .i64) 3 w' w.heap.size (fun k_ => nb_ k_ (v13)) (.slice Ao56 x10_3.length co56) x10_3) ∧ Aside0 (Kd.R (Kd.int .i64) 3 w' w.heap.size (fun k_ => nb_ k_ ((.slice Ao56 x10_3.length co56))) v13 x13_7) ∧ Aside0 (Kd.R k39 39 w' w.heap.size (fun _ => True) (.slice Ao58 t306.length co58) t306) ∧ Aside0 (Below w.heap.size w w'))
                   case atStart => exact ⟨(([] : List Int)), (0), z1_, H', ⟨Nat.le_refl _⟩, ⟨by (with_reducible repeat (first | apply R_alloc | apply R_drewN | apply R_drew)); exact HO_10.out⟩, ⟨by (with_reducible repeat (first | apply R_alloc | apply R_drewN | apply R_drew)); exact HO_13.out⟩, ⟨by (with_reducible repeat (first | apply R_alloc | apply R_drewN | apply R_drew)); exact HO_20.out⟩, ⟨Short.hB HB⟩⟩
                   case round =>
                    clear H'
                    try clear c2
                    try clear p2
                    try clear q2
                    try clear hx2
                    try clear c3
                    try clear c6
                    try clear p6
                    try clear c7
                    try clear c8
                    try clear c23
                    try clear c28
                    try clear c28b0
                    try clear c29
                    try clear p29
                    try clear q29
                    try clear hx29
                    try clear c31
                    try clear c33
                    try clear c34
                    try clear c35
                    try clear c63
                    try clear c63b0
                    try clear c63b1
                    try clear c64
                    try clear c64b0
                    try clear c64b1
                    try clear p64
                    try clear c65
                    try clear c65b0
                    try clear c65b1
                    try clear c66
                    try clear c66b0
                    try clear c66b1
                    try clear c68
                    try clear c70
                    try clear c76
                    try clear c78
                    try clear c78b0
                    try clear c78b1
                    try clear c78b2
                    try clear c81
                    try clear hx295_0
                    try clear p2
                    try clear p29
                    try clear p295
                    try clear p6
                    try clear p64
                    try clear q2
                    try clear q29
                    try clear q295
                    obtain ⟨x13_7, x26_7, rfl, HA, HK7, HO_10, HO_13, HO_20, HB⟩ := hrel
                    cases gk with
                    | zero => exact absurd HA.out (by simp [raddlelaw04_RowPicks.l3])
                    | succ k7 =>
                     have H := HA.out
                     clear HA
                     simp only [raddlelaw04_RowPicks.l3] at H
                     by_cases c82 : x26_7 < (x10_3.length : Int)
                     ·
                      rw [if_pos c82] at H
                      have c82b0 : decide (x26_7 < (x10_3.length : Int)) = true := decide_eq_true c82
                      clear c82
                      by_cases c83 : 0 ≤ x26_7
                      ·
                       rw [if_pos c83] at H
                       have c83b0 : decide (0 ≤ x26_7) = true := decide_eq_true c83
                       clear c83
                       by_cases c84 : 0 ≤ (rd x10_3 x26_7)
                       ·
                        rw [if_pos c84] at H
                        have c84b0 : decide (0 ≤ (rd x10_3 x26_7)) = true := decide_eq_true c84
                        clear c84
                        by_cases c85 : (rd x10_3 x26_7) < (l1.length : Int)
                        ·
                         rw [if_pos c85] at H
                         have c85b0 : decide ((rd x10_3 x26_7) < (l1.length : Int)) = true := decide_eq_true c85
                         clear c85
                         obtain ⟨y323, hy323⟩ : ∃ y_ : List Int, y_ = (([rd l1 (rd x10_3 x26_7)] : List Int)) := ⟨_, rfl⟩
                         replace H : (if x13_7.length + y323.length < 17592186044416 then (raddlelaw04_RowPicks.l3 k7 l1 x10_3 (x13_7 ++ y323) t306 (wrap64 (x26_7 + 1))) else (none)) = some r := by first | (rw [hy323]; with_reducible exact H) | (have H2_ := (Option.bind_some _ _).symm.trans H; rw [hy323]; with_reducible exact H2_) | (have H2_ := (Option.bind_some _ _).symm.trans H; with_reducible exact H2_) | with_reducible exact H | (rw [hy323]; exact H) | exact H
                         have Ny323 := mk_ hy323
                         clear hy323
                         by_cases c86 : x13_7.length + y323.length < 17592186044416
                         ·
                          rw [if_pos c86] at H
                          have LMc86 := mk_ c86
                          clear c86
                          obtain ⟨y326, hy326⟩ : ∃ y_ : List Int, y_ = (x13_7 ++ y323) := ⟨_, rfl⟩
                          replace H : (raddlelaw04_RowPicks.l3 k7 l1 x10_3 y326 t306 (wrap64 (x26_7 + 1))) = some r := by first | (rw [hy326]; with_reducible exact H) | (have H2_ := (Option.bind_some _ _).symm.trans H; rw [hy326]; with_reducible exact H2_) | (have H2_ := (Option.bind_some _ _).symm.trans H; with_reducible exact H2_) | with_reducible exact H | (rw [hy326]; exact H) | exact H
                          have Ny326 := mk_ hy326
                          clear hy326
                          have H' := mk_ H
                          clear H
                          have p321 : 0 ≤ (x26_7 : Int) := of_decide_eq_true z0_
                          have q321 : x26_7 < (x10_3.length : Int) := of_decide_eq_true z0_
                          obtain ⟨ad321, e321, hx321_0⟩ := Kd.at_int (R_reads' HO_10.out).2.2 x26_7 p321 q321
                          cases e321
                          replace p321 := eq_true p321
                          replace q321 := eq_true q321
                          have p322 : 0 ≤ ((rd x10_3 x26_7) : Int) := of_decide_eq_true z0_
                          have q322 : (rd x10_3 x26_7) < (l1.length : Int) := of_decide_eq_true z0_
                          obtain ⟨ad322, e322, hx322_0⟩ := Kd.at_int HR1.out (rd x10_3 x26_7) p322 q322
                          cases e322
                          replace hx322_0 := (HB.out.cell (World.block_lt_of_cell? w _ hx322_0)).trans hx322_0
                          replace p322 := eq_true p322
                          replace q322 := eq_true q322
                          go_wp2_with (first | ((with_reducible refine gate_dst (N := 196) rfl ?_); refine R_lit (Kd.int .i64) _ 3 ?hg (N := 196) ?hd (xs := ([rd l1 (rd x10_3 x26_7)] : List Int)) (inner := [.int .i64 (rd l1 (rd x10_3 x26_7))]) (ok := fun _ => True) (okp := fun _ => True) ?hr ?hp (fun _ hk => hk) trivial (Below.refl _ _) (Nat.le_refl _) (by simp) ?_; (case hd => rfl); (case hg => rfl); (case hr => first | (go_simp; done) | (go_simp; rfl)); (case hp => exact (Reps.one (show Kd.M (Kd.int .i64) _ _ _ (rd l1 (rd x10_3 x26_7)) [.int .i64 (rd l1 (rd x10_3 x26_7))] from rfl) (Reps.none _ _))); intro v324 w87 ho88 hb hg_ hnew_; clear hg_ hnew_; (first | rw [← Ny323.out] at ho88 | (simp only [Int.reduceToNat] at ho88; rw [← Ny323.out] at ho88)); have n0_ := mk_ (R_elder' (ZKR HO_10) (R_base ho88) hb); have n1_ := mk_ (R_elder' (ZKR HO_13) (R_base ho88) hb); have n2_ := mk_ (R_below (ZKR HO_20) hb); have n3_ := mk_ (R_lower (R_new' (R_new' ho88 (R_lt (ZKR HO_10))) (R_lt (ZKR HO_13))) (below_size (Short.hB HB))); have n4_ := mk_ (below_step (Short.hB HB) hb); clear HO_10 HO_13 HO_20 HB; revert n0_ n1_ n2_ n3_ n4_; intro HO_10 HO_13 HO_20 HO325 HB; clear hb ho88; obtain ⟨Ao90, co90, eo90⟩ := R_slice HO325.out; subst eo90) | ((with_reducible refine gate_builtin (b := .append) (xs := #[.tmp 188, .tmp 196]) rfl ?_); at_builtin; refine R_append_rows (Kd.int .i64) (w0 := w) w.heap.size rfl (.tmp 188) (.tmp 196) 47 3 (.int .i64 0) 8 rfl Try.underlying47 info3 rfl (by decide) z2_ u13 x13_7 y323 _ _ _ (fun k_ => nb_ k_ (.slice (some ad321) x10_3.length co56) ∧ nb_ k_ (.slice Ao90 y323.length co90)) (fun _ => False) rfl rfl ?aO ?aR (fun _ _ h => h) (fun _ h => h.elim) ?aF ?aB ?aS ?aL ?_; (case aR => exact cX_ (R_reads' HO325.out).2.2); (case aB => exact (Short.hB HB)); (case aF => exact (fun k_ hk => ⟨Kd.fresh' (R_lt (ZKR HO_10)) k_ hk, Kd.fresh' (R_lt (ZKR HO325)) k_ hk⟩)); (case aO => exact (ZKR HO_13)); (case aS => exact (below_size (Short.hB HB))); (case aL => have := LMc86.out; omega); intro v327 w89 ho hb hg hat; rw [← Ny326.out] at ho; have n0_ := mk_ (R_after (ok := (fun k_ => nb_ k_ (.slice Ao90 y323.length co90))) (rM_ HO_10 (fun _ hk => ⟨hk.2, hk.1⟩)) hg hat); have n1_ := mk_ (R_over' (ZKR HO_20) (R_typed (ZKR HO_13)) (by decide) hg); have n2_ := mk_ (R_after (ok := (fun k_ => nb_ k_ (.slice (some ad321) x10_3.length co56))) (rM_ HO325 (fun _ hk => ⟨hk.1.2, hk.2⟩)) hg hat); have n3_ := mk_ (hb); have n4_ := mk_ (ho); clear HO_10 HO_20 HO325 HB HO_13; revert n0_ n1_ n2_ n3_ n4_; intro HO_10 HO_20 HO325 HB HO328; clear ho hb hg hat))
                          go_roundg k7
                          case measure => have := HJ4.out; have := HK2.out; have := HK3.out; have := HK4.out; have := HJ52.out; have := HJ76.out; have := HK7.out; omega
                          case rel => exact ⟨(y326), (wrap64 (x26_7 + 1)), z1_, H', ⟨by have := HJ4.out; have := HK2.out; have := HK3.out; have := HK4.out; have := HJ52.out; have := HJ76.out; have := HK7.out; omega⟩, ⟨by (with_reducible repeat (first | apply R_alloc | apply R_drewN | apply R_drew)); exact R_mono HO_10.out (fun _ hk => hk.2)⟩, ⟨by (with_reducible repeat (first | apply R_alloc | apply R_drewN | apply R_drew)); exact R_mono HO328.out (fun _ hk => hk.1)⟩, ⟨by (with_reducible repeat (first | apply R_alloc | apply R_drewN | apply R_drew)); exact HO_20.out⟩, ⟨Short.hB HB⟩⟩
                         ·
                          rw [if_neg c86] at H
                          exact absurd H (by simp)
                        ·
                         rw [if_neg c85] at H
                         exact absurd H (by simp)
                       ·
                        rw [if_neg c84] at H
                        exact absurd H (by simp)
                      ·
                       rw [if_neg c83] at H
                       exact absurd H (by simp)
                     ·
                      rw [if_neg c82] at H
                      have c82b0 : decide (x26_7 < (x10_3.length : Int)) = false := decide_eq_false c82
                      clear c82
                      replace H := Option.bind_eq_some_iff.mp H
                      obtain ⟨t329, A910, H⟩ := H
                      replace H : (if t329 = true then ((raddlelaw04_wakes.f k7).bind fun t330 => (some t330)) else (some false)) = some r := H
                      have A91 := mk_ A910
                      clear A910
                      by_cases c92 : t329 = true
                      ·
                       subst c92
                       have H1 : ((raddlelaw04_wakes.f k7).bind fun t330 => (some t330)) = some r := by rw [if_pos rfl] at H; exact H
                       clear H
                       have H := H1
                       clear H1
                       replace H := Option.bind_eq_some_iff.mp H
                       obtain ⟨t330, A930, H⟩ := H
                       replace H : (some t330) = some r := H
                       have A93 := mk_ A930
                       clear A930
                       obtain rfl := Option.some.inj H
                       obtain ⟨Ao94, co94, eo94⟩ := R_slice HO_13.out
                       subst eo94
                       go_wp2_with (first | ((with_reducible refine gate_callee (f := 26) rfl ?_); refine Short.gL (some 200) Try.func26 #[.slice Ao58 t306.length co58, .slice Ao94 x13_7.length co94] (h := ?_); (with_reducible refine (row_Fits.calls k7 _ _ t306 _ _ x13_7 true _ ?side1 ?side2 ?side3 ?side4 A91.out).mono ?_); (case side1 => exact cX_ (R_reads' HO_20.out).2.2); (case side2 => exact (R_reads' HO_20.out).2.1); (case side3 => exact cX_ (R_reads' HO_13.out).2.2); (case side4 => exact (R_reads' HO_13.out).2.1); rintro e w95 ⟨rfl, hb⟩; refine ⟨_, rfl, ?_⟩; have n0_ := mk_ (R_below (ZKR HO_10) hb); have n1_ := mk_ (R_below (ZKR HO_13) hb); have n2_ := mk_ (R_below (ZKR HO_20) hb); have n3_ := mk_ (below_step (Short.hB HB) hb); clear HO_10 HO_13 HO_20 HB; revert n0_ n1_ n2_ n3_; intro HO_10 HO_13 HO_20 HB; (try clear hb)) | ((with_reducible refine gate_callee (f := 15) rfl ?_); refine Short.gL (some 202) Try.func15 #[] (h := ?_); (with_reducible refine (raddlelaw04_wakes.calls k7  t330 _ A93.out).mono ?_); rintro e w96 ⟨rfl, hb⟩; refine ⟨_, rfl, ?_⟩; have n0_ := mk_ (R_below (ZKR HO_10) hb); have n1_ := mk_ (R_below (ZKR HO_13) hb); have n2_ := mk_ (R_below (ZKR HO_20) hb); have n3_ := mk_ (below_step (Short.hB HB) hb); clear HO_10 HO_13 HO_20 HB; revert n0_ n1_ n2_ n3_; intro HO_10 HO_13 HO_20 HB; (try clear hb)))
                       go_ret
                       exact ⟨by first | rfl | (simp [errW_none, errW_some] <;> rfl) | (simp [*, errW_none, errW_some] <;> rfl), Short.hB HB⟩
                      ·
                       replace c92 := Bool.eq_false_iff.mpr c92
                       subst c92
                       have H1 : (some false) = some r := by rw [if_neg (show ¬ (false = true) by decide)] at H; exact H
                       clear H
                       have H := H1
                       clear H1
                       exact absurd H (by rw [hrt]; simp)
                  ·
                   replace c81 := Bool.eq_false_iff.mpr c81
                   subst c81
                   have H1 : ((raddlelaw04_wakes.f kj76).bind fun t331 => (some t331)) = some r := by rw [if_neg (show ¬ (false = true) by decide)] at H; exact H
                   clear H
                   have H := H1
                   clear H1
                   replace H := Option.bind_eq_some_iff.mp H
                   obtain ⟨t331, A970, H⟩ := H
                   replace H : (some t331) = some r := H
                   have A97 := mk_ A970
                   clear A970
                   obtain rfl := Option.some.inj H
                   go_wp2_with (first | ((with_reducible refine gate_callee (f := 15) rfl ?_); refine Short.gL (some 202) Try.func15 #[] (h := ?_); (with_reducible refine (raddlelaw04_wakes.calls kj76  t331 _ A97.out).mono ?_); rintro e w98 ⟨rfl, hb⟩; refine ⟨_, rfl, ?_⟩; have n0_ := mk_ (R_below (ZKR HO_10) hb); have n1_ := mk_ (R_below (ZKR HO_13) hb); have n2_ := mk_ (R_below (ZKR HO_20) hb); have n3_ := mk_ (below_step (Short.hB HB) hb); clear HO_10 HO_13 HO_20 HB; revert n0_ n1_ n2_ n3_; intro HO_10 HO_13 HO_20 HB; (try clear hb)))
                   go_ret
                   exact ⟨by first | rfl | (simp [errW_none, errW_some] <;> rfl) | (simp [*, errW_none, errW_some] <;> rfl), Short.hB HB⟩
def raddlelaw04_RowPicks.WF39 (x : S39) : Prop := (Lit.int .i64 x.f0).wf = true ∧ (Lit.int .i64 x.f1).wf = true ∧ x.f2.size ≤ maxLen
def raddlelaw04_RowPicks.Pure : Prop := ∀ (x0 : List (S39)) (x1 : List Int) (x2 : List Int) (x3 : List Int), (x0.length ≤ maxLen ∧ ∀ x0_ ∈ x0, raddlelaw04_RowPicks.WF39 x0_) → (x1.length ≤ maxLen ∧ ∀ x0_ ∈ x1, (Lit.int .i64 x0_).wf = true) → (x2.length ≤ maxLen ∧ ∀ x0_ ∈ x2, (Lit.int .i64 x0_).wf = true) → (x3.length ≤ maxLen ∧ ∀ x0_ ∈ x3, (Lit.int .i64 x0_).wf = true) → ∃ k, raddlelaw04_RowPicks.f k x0 x1 x2 x3 = some true
end Go.Proofs.Ytiaiglihndbjeaa.PAll
end
section
namespace Go.Proofs.Ytiaiglihndbjeaa.Plain
open Go.RowKit Go.Proofs.YtiaiglihndbjeaaW.PrintWords Go.Proofs.YtiaiglihndbjeaaW.PrintLast Go.Proofs.YtiaiglihndbjeaaW.PrintMore Go.Proofs.Ytiaiglihndbjeaa.ZipT Go.Proofs.YtiaiglihndbjeaaW.PrintWords.Kd Go.Proofs.YtiaiglihndbjeaaW.PrintMore.Kd
set_option linter.unusedVariables false
set_option linter.unusedSimpArgs false
theorem w64 {x : Int} (h0 : -9223372036854775808 ≤ x) (h1 : x ≤ 9223372036854775807) : wrap64 x = x := by
 unfold wrap64; omega
theorem wu64 {x : Int} (h0 : 0 ≤ x) (h1 : x < 18446744073709551616) : IntKind.u64.wrap x = x := by
 simp [IntKind.wrap, IntKind.bits, IntKind.signed]; omega
theorem u64_mod (x : Int) : IntKind.u64.wrap x = x % 18446744073709551616 := by
 simp [IntKind.wrap, IntKind.bits, IntKind.signed]
def Byte (b : Int) : Prop := 0 ≤ b ∧ b ≤ 255
def Bytes (l : List Int) : Prop := ∀ b ∈ l, Byte b
theorem Bytes.nil : Bytes [] := fun _ h => by cases h
theorem Bytes.cons {b : Int} {l : List Int} (h : Byte b) (k : Bytes l) : Bytes (b :: l) := fun x hx => by
 rcases List.mem_cons.1 hx with rfl | hx
 ·
  exact h
 ·
  exact k x hx
theorem Bytes.head {b : Int} {l : List Int} (h : Bytes (b :: l)) : Byte b := h b List.mem_cons_self
theorem Bytes.tail {b : Int} {l : List Int} (h : Bytes (b :: l)) : Bytes l := fun x hx => h x (List.mem_cons_of_mem _ hx)
theorem Bytes.append {a b : List Int} (h : Bytes a) (k : Bytes b) : Bytes (a ++ b) := fun x hx => by
 rcases List.mem_append.1 hx with hx | hx
 ·
  exact h x hx
 ·
  exact k x hx
theorem Bytes.take {a : List Int} (h : Bytes a) (n : Nat) : Bytes (a.take n) := fun x hx => h x (List.mem_of_mem_take hx)
theorem Bytes.drop {a : List Int} (h : Bytes a) (n : Nat) : Bytes (a.drop n) := fun x hx => h x (List.mem_of_mem_drop hx)
theorem Bytes.rd {l : List Int} (h : Bytes l) (i : Int) : Byte (rd l i) := by
 show Byte (l.getD i.toNat 0)
 rcases Nat.lt_or_ge i.toNat l.length with hi | hi
 ·
  rw [List.getD_eq_getElem?_getD, List.getElem?_eq_getElem hi]; exact h _ (List.getElem_mem hi)
 ·
  rw [List.getD_eq_getElem?_getD, List.getElem?_eq_none hi]; exact ⟨by decide, by decide⟩
def big (n : Int) : Nat → List Int
 | 0 => []
 | s + 1 => (n / 256 ^ s) % 256 :: big n s
def val : Int → List Int → Int
 | a, [] => a
 | a, b :: l => val (a * 256 + b) l
theorem big_length (n : Int) (s : Nat) : (big n s).length = s := by
 induction s with
 | zero => rfl
 | succ s ih => simp [big, ih]
theorem big_bytes (n : Int) (s : Nat) : Bytes (big n s) := by
 induction s with
 | zero => exact Bytes.nil
 | succ s ih =>
  refine Bytes.cons ⟨?_, ?_⟩ ih
  ·
   exact Int.emod_nonneg _ (by decide)
  ·
   have := Int.emod_lt_of_pos (n / 256 ^ s) (show (0 : Int) < 256 by decide); omega
theorem emod_mul' (n a b : Int) (ha : 0 < a) : n % (a * b) = (n / a % b) * a + n % a := by
 have h1 := Int.emod_add_mul_ediv n a
 have h2 := Int.emod_add_mul_ediv (n / a) b
 have h3 : n % (a * b) = n - a * b * (n / (a * b)) := by have := Int.emod_add_mul_ediv n (a * b); omega
 have h4 : n / (a * b) = n / a / b := (Int.ediv_ediv_of_nonneg z2_).symm
 rw [h3, h4]
 have h5 : a * (n / a) = a * (n / a % b) + a * (b * (n / a / b)) := by rw [← Int.mul_add]; exact congrArg (a * ·) h2.symm
 rw [Int.mul_assoc, Int.mul_comm (n / a % b)]
 omega
theorem pow_pos (s : Nat) : (0 : Int) < 256 ^ s := Int.pow_pos (by decide)
theorem val_big (n : Int) (s : Nat) (a : Int) : val a (big n s) = a * 256 ^ s + n % 256 ^ s := by
 induction s generalizing a with
 | zero => simp [big, val]
 | succ s ih =>
  have hp := pow_pos s
  have h1 : n % 256 ^ (s + 1) = (n / 256 ^ s % 256) * 256 ^ s + n % 256 ^ s := by
   have e : (256 : Int) ^ (s + 1) = 256 ^ s * 256 := Int.pow_succ _ _
   rw [e]; exact emod_mul' _ _ _ hp
  rw [big, val, ih, h1, Int.pow_succ]
  rw [Int.add_mul, Int.mul_assoc, Int.mul_comm 256]
  omega
end Go.Proofs.Ytiaiglihndbjeaa.Plain
end
section
namespace Go.Proofs.Ytiaiglihndbjeaa.Plain
open Go.RowKit Go.Proofs.Ytiaiglihndbjeaa.PAll Go.Proofs.YtiaiglihndbjeaaW.PrintWords Go.Proofs.YtiaiglihndbjeaaW.PrintLast Go.Proofs.YtiaiglihndbjeaaW.PrintMore Go.Proofs.Ytiaiglihndbjeaa.ZipT Go.Proofs.YtiaiglihndbjeaaW.PrintWords.Kd Go.Proofs.YtiaiglihndbjeaaW.PrintMore.Kd
set_option linter.unusedVariables false
set_option linter.unusedSimpArgs false
theorem pow256 (s : Nat) : (2 : Int) ^ (8 * s) = 256 ^ s := by rw [Int.pow_mul]; rfl
theorem pow256_le {s : Nat} (h : s ≤ 7) : (256 : Int) ^ s ≤ 72057594037927936 := by
 have : s = 0 ∨ s = 1 ∨ s = 2 ∨ s = 3 ∨ s = 4 ∨ s = 5 ∨ s = 6 ∨ s = 7 := by omega
 rcases this with rfl | rfl | rfl | rfl | rfl | rfl | rfl | rfl <;> decide
theorem shr_bytes (n : Int) (i : Nat) (hi : i ≤ 8) : shr .i64 n (8 * i) = n / 256 ^ i := by
 unfold shr
 have h1 : (8 * (i : Int)).toNat = 8 * i := by omega
 rw [h1, Nat.min_eq_left (by simp [IntKind.bits]; omega), pow256]
theorem clone_eq (l : List Int) (hl : l.length ≤ 1000000) : slices_Clone_byte_byte.f l = some l := by
 unfold slices_Clone_byte_byte.f
 simp only [Option.bind_some, List.length_nil, List.nil_append]
 rw [if_pos z2_]
theorem big_l0 (n : Int) (i : Nat) : ∀ (k : Nat) (out : List Int), i ≤ 8 → out.length + i ≤ 1000000 → i < k → wire_big.l0 k n out ((i : Int) - 1) = some (out ++ big n i) := by
 induction i with
 | zero =>
  intro k out _ _ hk
  obtain ⟨k, rfl⟩ : ∃ m, k = m + 1 := ⟨k - 1, by omega⟩
  simp only [wire_big.l0]
  rw [if_neg z2_]
  simp [big]
 | succ i ih =>
  intro k out hi ho hk
  obtain ⟨k, rfl⟩ : ∃ m, k = m + 1 := ⟨k - 1, by omega⟩
  simp only [wire_big.l0]
  have e : (((i + 1 : Nat) : Int) - 1) = (i : Int) := by omega
  rw [e, if_pos z2_, w64 z2_ z2_, if_pos z2_, if_pos z2_, shr_bytes n i z2_, w64 z2_ z2_, ih k _ z2_ (by simp; omega) z2_]
  simp [big]
theorem big_eq (k : Nat) (l : List Int) (n size : Int) (h0 : 0 ≤ size) (h1 : size ≤ 8) (hl : l.length ≤ 900000) (hk : 10 ≤ k) : wire_big.f k l n size = some (l ++ big n size.toNat) := by
 obtain ⟨s, rfl⟩ := Int.eq_ofNat_of_zero_le h0
 unfold wire_big.f
 rw [clone_eq l z2_, Option.bind_some, w64 z2_ z2_, Int.toNat_natCast]
 exact big_l0 n s k l z2_ z2_ z2_
def intB (n : Int) : List Int := if n < 0 then 1 :: big (-n) 8 else 0 :: big n 8
def sPutInt (l : List Int) (n : Int) : List Int × Int := if -1152921504606846976 ≤ n ∧ n ≤ 1152921504606846976 then (l ++ intB n, 0) else ([], 1)
theorem putInt_eq (k : Nat) (l : List Int) (n : Int) (hl : l.length ≤ 800000) (hk : 20 ≤ k) : wire_PutInt.f k l n = some (sPutInt l n) := by
 obtain ⟨k, rfl⟩ : ∃ m, k = m + 1 := ⟨k - 1, by omega⟩
 unfold wire_PutInt.f sPutInt
 by_cases h1 : n < -1152921504606846976
 ·
  rw [if_pos h1, if_neg z2_]
  simp [wire_PutInt.j0]
 ·
  rw [if_neg h1]
  by_cases h2 : n > 1152921504606846976
  ·
   rw [if_neg z2_]
   simp [wire_PutInt.j0, h2]
  ·
   rw [if_pos z2_]
   simp only [wire_PutInt.j0, h2, decide_false]
   rw [if_neg (by simp)]
   unfold intB
   by_cases h3 : n < 0
   ·
    rw [if_pos h3, if_pos h3, clone_eq l z2_, Option.bind_some, if_pos z2_, w64 z2_ z2_, big_eq k _ _ 8 z2_ z2_ (by simp; omega) z2_]
    simp
   ·
    rw [if_neg h3, if_neg h3, clone_eq l z2_, Option.bind_some, if_pos z2_, big_eq k _ _ 8 z2_ z2_ (by simp; omega) z2_]
    simp
def sPutText (l : List Int) (s : ByteArray) : List Int × Int := if s.size ≤ 24 then (l ++ (s.size : Int) :: bytesOf s, 0) else ([], 2)
theorem putText_eq (l : List Int) (s : ByteArray) (hl : l.length ≤ 800000) : wire_PutText.f l s = some (sPutText l s) := by
 unfold wire_PutText.f sPutText
 by_cases h1 : (s.size : Int) > 24
 ·
  rw [if_pos h1, if_neg z2_]
 ·
  rw [if_neg h1, if_pos z2_, clone_eq l z2_, Option.bind_some, if_pos z2_]
  simp only [Option.bind_some]
  rw [if_pos (by simp; omega), show ((s.size : Int) % 256) = s.size from by omega]
  simp
theorem val_nonneg (l : List Int) : ∀ a : Int, 0 ≤ a → Bytes l → 0 ≤ val a l := by
 induction l with
 | nil => intro a h _; exact h
 | cons b l ih =>
  intro a h hb
  have := hb.head
  exact ih _ (by unfold Byte at this; omega) hb.tail
theorem val_lt (l : List Int) : ∀ a : Int, 0 ≤ a → Bytes l → val a l < (a + 1) * 256 ^ l.length := by
 induction l with
 | nil => intro a h _; simp [val]; omega
 | cons b l ih =>
  intro a h hb
  have h1 := hb.head
  unfold Byte at h1
  have h2 := ih (a * 256 + b) z2_ hb.tail
  have h3 := pow_pos l.length
  rw [val]
  refine Int.lt_of_lt_of_le h2 ?_
  rw [List.length_cons, Int.pow_succ, Int.mul_comm ((256 : Int) ^ l.length), ← Int.mul_assoc]
  exact Int.mul_le_mul_of_nonneg_right z2_ z2_
theorem or_u64 (a b : Int) (h0 : 0 ≤ a) (h1 : a * 256 < 18446744073709551616) (hb : Byte b) : Go.bits .or .u64 (IntKind.u64.wrap (a * 256)) (IntKind.u64.wrap b) = a * 256 + b := by
 unfold Byte at hb
 rw [wu64 z2_ h1, wu64 z2_ z2_]
 exact bits_join .u64 64 (by decide) (fun n h h' => wu64 h z2_) 8 _ _ z2_ z2_ z2_ z2_ z2_ z2_
theorem rd_drop {l : List Int} {i : Nat} {b : Int} {m : List Int} (h : l.drop i = b :: m) : rd l i = b := by
 have hi : i < l.length := by
  rcases Nat.lt_or_ge i l.length with h1 | h1
  ·
   exact h1
  ·
   rw [List.drop_eq_nil_of_le h1] at h; cases h
 show l.getD (i : Int).toNat 0 = b
 rw [List.getD_eq_getElem?_getD, Int.toNat_natCast, List.getElem?_eq_getElem hi]
 have := List.drop_eq_getElem_cons hi
 rw [this] at h
 injection h
theorem drop_tail {l : List Int} {i : Nat} {b : Int} {m : List Int} (h : l.drop i = b :: m) : l.drop (i + 1) = m := by
 have := congrArg List.tail h
 rwa [List.tail_drop] at this
theorem drop_lt {l : List Int} {i : Nat} {b : Int} {m : List Int} (h : l.drop i = b :: m) : i < l.length := by
 rcases Nat.lt_or_ge i l.length with h1 | h1
 ·
  exact h1
 ·
  rw [List.drop_eq_nil_of_le h1] at h; cases h
theorem drop_end {l : List Int} {i : Nat} (h : l.drop i = []) : l.length ≤ i := by
 rcases Nat.lt_or_ge i l.length with h1 | h1
 ·
  have := List.drop_eq_getElem_cons h1; rw [this] at h; cases h
 ·
  exact h1
theorem num_l0 (l : List Int) (hb : Bytes l) (m : List Int) : ∀ (k i : Nat) (a : Int), l.drop i = m → 0 ≤ a → (a + 1) * 256 ^ m.length ≤ 18446744073709551616 → i + m.length ≤ 1000 → m.length < k →
  wire_num.l0 k a l (l.length : Int) i = some (val a m) := by
 induction m with
 | nil =>
  intro k i a h h0 h1 hi hk
  obtain ⟨k, rfl⟩ : ∃ m, k = m + 1 := ⟨k - 1, by omega⟩
  have := drop_end h
  simp only [wire_num.l0]
  rw [if_neg z2_]
  rfl
 | cons b m ih =>
  intro k i a h h0 h1 hi hk
  obtain ⟨k, rfl⟩ : ∃ m, k = m + 1 := ⟨k - 1, by omega⟩
  have hlt := drop_lt h
  have hbb : Byte b := by have := hb.rd i; rw [rd_drop h] at this; exact this
  have hbb' := hbb
  unfold Byte at hbb'
  simp only [List.length_cons] at hi hk h1
  have hp := pow_pos m.length
  have h2 : (a * 256 + b + 1) * 256 ^ m.length ≤ 18446744073709551616 := by
   refine Int.le_trans ?_ h1
   rw [Int.pow_succ, Int.mul_comm ((256 : Int) ^ m.length), ← Int.mul_assoc]
   exact Int.mul_le_mul_of_nonneg_right z2_ z2_
  have h3 : (a * 256 + b + 1) * 1 ≤ (a * 256 + b + 1) * 256 ^ m.length := Int.mul_le_mul_of_nonneg_left z2_ z2_
  simp only [wire_num.l0]
  rw [if_pos z2_, if_pos z2_, if_pos z2_, rd_drop h, or_u64 a b h0 z2_ hbb, w64 z2_ z2_]
  exact ih k (i + 1) _ (drop_tail h) z2_ h2 z2_ z2_
theorem num_eq (k : Nat) (l : List Int) (hb : Bytes l) (hl : l.length ≤ 8) (hk : 10 ≤ k) : wire_num.f k l = some (val 0 l) := by
 unfold wire_num.f
 refine num_l0 l hb l k 0 0 rfl z2_ ?_ z2_ z2_
 have : l.length = 8 ∨ l.length ≤ 7 := by omega
 rcases this with h | h
 ·
  rw [h]; decide
 ·
  have := pow256_le h; omega
def sub (l : List Int) (a b : Nat) : List Int := (l.take b).drop a
theorem sub_length {l : List Int} {a b : Nat} (h : b ≤ l.length) : (sub l a b).length = b - a := by simp [sub]; omega
theorem sub_bytes {l : List Int} (h : Bytes l) (a b : Nat) : Bytes (sub l a b) := (h.take b).drop a
def sGet (l : List Int) (at_ size : Int) : Int × Int × Int :=
 if 1 ≤ size ∧ size ≤ 7 ∧ 0 ≤ at_ ∧ at_ ≤ l.length then (if l.length - at_ < size then (0, 0, 3) else (val 0 (sub l at_.toNat (at_ + size).toNat), at_ + size, 0)) else (0, 0, 1)
theorem val7 {l : List Int} (hb : Bytes l) (h : l.length ≤ 7) : 0 ≤ val 0 l ∧ val 0 l < 72057594037927936 := by
 have h1 := val_lt l 0 z2_ hb
 have h2 := pow256_le h
 exact ⟨val_nonneg l 0 z2_ hb, by omega⟩
theorem get_eq (k : Nat) (l : List Int) (at_ size : Int) (hb : Bytes l) (hl : l.length ≤ 1000000) (ha : at_ ≤ 9223372036854775807) (hk : 20 ≤ k) : wire_Get.f k l at_ size = some (sGet l at_ size) := by
 obtain ⟨k, rfl⟩ : ∃ m, k = m + 1 := ⟨k - 1, by omega⟩
 unfold wire_Get.f sGet
 by_cases h1 : size < 1
 ·
  rw [if_pos h1, if_neg z2_]; simp [wire_Get.j0]
 ·
  rw [if_neg h1]
  by_cases h2 : size > 7
  ·
   rw [if_pos h2, if_neg z2_]; simp [wire_Get.j0]
  ·
   rw [if_neg h2]
   by_cases h3 : at_ < 0
   ·
    rw [if_pos h3, if_neg z2_]; simp [wire_Get.j0]
   ·
    rw [if_neg h3]
    by_cases h4 : at_ > (l.length : Int)
    ·
     rw [if_neg z2_]; simp [wire_Get.j0, h4]
    ·
     rw [if_pos z2_]
     simp only [wire_Get.j0, h4, decide_false]
     rw [if_neg (by simp), w64 z2_ z2_]
     by_cases h5 : (l.length : Int) - at_ < size
     ·
      rw [if_pos h5, if_pos h5]
     ·
      have hs : (sub l at_.toNat (at_ + size).toNat).length ≤ 7 := by rw [sub_length z2_]; omega
      have hv := val7 (sub_bytes hb at_.toNat (at_ + size).toNat) hs
      rw [if_neg h5, if_neg h5, w64 z2_ z2_, if_pos z2_, if_pos z2_, if_pos z2_]
      have := num_eq k (sub l at_.toNat (at_ + size).toNat) (sub_bytes hb _ _) z2_ z2_
      unfold sub at this
      rw [this, Option.bind_some, ]
      unfold sub at hv
      rw [w64 z2_ z2_]
      rfl
def sGetInt (l : List Int) (at_ : Int) : Int × Int × Int :=
  if 0 ≤ at_ ∧ at_ ≤ l.length then
    (if l.length - at_ < 9 ∨ rd l at_ > 1 ∨ val 0 (sub l (at_ + 1).toNat (at_ + 9).toNat) > 1152921504606846976 ∨ (rd l at_ = 1 ∧ val 0 (sub l (at_ + 1).toNat (at_ + 9).toNat) = 0) then (0, 0, 3)
     else if rd l at_ = 1 then (-(val 0 (sub l (at_ + 1).toNat (at_ + 9).toNat)), at_ + 9, 0) else (val 0 (sub l (at_ + 1).toNat (at_ + 9).toNat), at_ + 9, 0))
  else (0, 0, 1)
theorem getInt_eq (k : Nat) (l : List Int) (at_ : Int) (hb : Bytes l) (hl : l.length ≤ 1000000) (ha : at_ ≤ 9223372036854775807) (hk : 20 ≤ k) : wire_GetInt.f k l at_ = some (sGetInt l at_) := by
 obtain ⟨k, rfl⟩ : ∃ m, k = m + 3 := ⟨k - 3, by omega⟩
 unfold wire_GetInt.f sGetInt
 by_cases h1 : at_ < 0
 ·
  rw [if_pos h1, if_neg z2_]; simp [wire_GetInt.j0]
 ·
  rw [if_neg h1]
  by_cases h2 : at_ > (l.length : Int)
  ·
   rw [if_neg z2_]; simp [wire_GetInt.j0, h2]
  ·
   rw [if_pos z2_]
   simp only [wire_GetInt.j0, h2, decide_false]
   rw [if_neg (by simp), w64 z2_ z2_]
   by_cases h3 : (l.length : Int) - at_ < 9
   ·
    rw [if_pos h3, if_pos (Or.inl h3)]; simp [wire_GetInt.j1]
   ·
    rw [if_neg h3, if_pos z2_, if_pos z2_]
    by_cases h4 : rd l at_ > 1
    ·
     rw [if_pos (Or.inr (Or.inl h4))]; simp [wire_GetInt.j1, h4]
    ·
     have hs : (sub l (at_ + 1).toNat (at_ + 9).toNat).length = 8 := by rw [sub_length z2_]; omega
     have hn := fun k' (hk' : 10 ≤ k') => num_eq k' (sub l (at_ + 1).toNat (at_ + 9).toNat) (sub_bytes hb _ _) z2_ hk'
     have hv := val_nonneg (sub l (at_ + 1).toNat (at_ + 9).toNat) 0 z2_ (sub_bytes hb _ _)
     have hr := hb.rd at_
     unfold Byte at hr
     simp only [wire_GetInt.j1, h4, decide_false]
     rw [if_neg (by simp), w64 z2_ z2_, w64 z2_ z2_, if_pos z2_, if_pos z2_, if_pos z2_]
     generalize hV : val 0 (sub l (at_ + 1).toNat (at_ + 9).toNat) = V at *
     unfold sub at hn
     rw [hn _ z2_, Option.bind_some]
     by_cases h5 : V > 1152921504606846976
     ·
      rw [if_pos h5, if_pos z2_]; simp [wire_GetInt.j2]
     ·
      rw [if_neg h5, if_pos z2_, if_pos z2_]
      by_cases h6 : rd l at_ = 1
      ·
       rw [if_pos h6]
       by_cases h7 : V = 0
       ·
        rw [if_pos z2_]; simp [wire_GetInt.j2, h7]
       ·
        have h7' : (V == 0) = false := by simpa using h7
        rw [if_neg (by simp; omega), if_pos h6]
        simp only [wire_GetInt.j2, h7']
        rw [if_neg (by simp), if_pos z2_, if_pos z2_, if_pos h6, w64 (x := V) z2_ z2_, w64 (x := -V) z2_ z2_, w64 (x := at_ + 9) z2_ z2_]
      ·
       rw [if_neg h6, if_neg (by simp; omega), if_neg h6]
       simp only [wire_GetInt.j2]
       rw [if_neg (by simp), if_pos z2_, if_pos z2_, if_neg h6, w64 (x := V) z2_ z2_, w64 (x := at_ + 9) z2_ z2_]
def sGetText (l : List Int) (at_ : Int) : ByteArray × Int × Int :=
  if 0 ≤ at_ ∧ at_ ≤ l.length then
    (if at_ = l.length ∨ rd l at_ > 24 ∨ l.length - at_ - 1 < rd l at_ then (⟨#[]⟩, 0, 3)
     else (strOfNums (sub l (at_ + 1).toNat (at_ + 1 + rd l at_).toNat), at_ + 1 + rd l at_, 0))
  else (⟨#[]⟩, 0, 1)
theorem getText_eq (k : Nat) (l : List Int) (at_ : Int) (hb : Bytes l) (hl : l.length ≤ 1000000) (ha : at_ ≤ 9223372036854775807) (hk : 20 ≤ k) : wire_GetText.f k l at_ = some (sGetText l at_) := by
 obtain ⟨k, rfl⟩ : ∃ m, k = m + 1 := ⟨k - 1, by omega⟩
 unfold wire_GetText.f sGetText
 by_cases h1 : at_ < 0
 ·
  rw [if_pos h1, if_neg z2_]; simp [wire_GetText.j0]
 ·
  rw [if_neg h1]
  by_cases h2 : at_ > (l.length : Int)
  ·
   rw [if_neg z2_]; simp [wire_GetText.j0, h2]
  ·
   rw [if_pos z2_]
   simp only [wire_GetText.j0, h2, decide_false]
   rw [if_neg (by simp)]
   by_cases h3 : at_ = (l.length : Int)
   ·
    rw [if_pos h3, if_pos (Or.inl h3)]
   ·
    have hr := hb.rd at_
    unfold Byte at hr
    rw [if_neg h3, if_pos z2_, if_pos z2_, w64 z2_ z2_]
    by_cases h4 : rd l at_ > 24
    ·
     rw [if_pos h4, if_pos (Or.inr (Or.inl h4))]
    ·
     rw [if_neg h4, w64 (x := (l.length : Int) - at_) z2_ z2_, w64 z2_ z2_]
     by_cases h5 : (l.length : Int) - at_ - 1 < rd l at_
     ·
      rw [if_pos h5, if_pos (Or.inr (Or.inr h5))]
     ·
      rw [if_neg h5, w64 (x := at_ + 1) z2_ z2_, w64 (x := at_ + 1 + rd l at_) z2_ z2_, if_pos z2_, if_pos z2_, if_pos z2_, if_neg z2_]
      rfl
end Go.Proofs.Ytiaiglihndbjeaa.Plain
end
section
namespace Go.Proofs.Ytiaiglihndbjeaa.Plain
open Go.RowKit Go.Proofs.Ytiaiglihndbjeaa.PAll Go.Proofs.YtiaiglihndbjeaaW.PrintWords Go.Proofs.YtiaiglihndbjeaaW.PrintLast Go.Proofs.YtiaiglihndbjeaaW.PrintMore Go.Proofs.Ytiaiglihndbjeaa.ZipT Go.Proofs.YtiaiglihndbjeaaW.PrintWords.Kd Go.Proofs.YtiaiglihndbjeaaW.PrintMore.Kd
set_option linter.unusedVariables false
set_option linter.unusedSimpArgs false
theorem strOfNums_bytesOf (s : ByteArray) : strOfNums (bytesOf s) = s := by
 unfold strOfNums bytesOf
 rw [List.map_map]
 have : (fun n : Int => UInt8.ofNat n.toNat) ∘ (fun b : UInt8 => (b.toNat : Int)) = id := by
  funext b; simp
 rw [this, List.map_id]
theorem bytesOf_bytes (s : ByteArray) : Bytes (bytesOf s) := by
 intro b hb
 unfold bytesOf at hb
 obtain ⟨c, _, rfl⟩ := List.mem_map.1 hb
 have := c.toNat_lt
 exact ⟨by omega, by omega⟩
theorem bytesOf_strOfNums {l : List Int} (h : Bytes l) : bytesOf (strOfNums l) = l := by
 unfold strOfNums bytesOf
 simp only [List.map_map]
 induction l with
 | nil => rfl
 | cons b l ih =>
  have hb := h.head
  unfold Byte at hb
  rw [List.map_cons, ih h.tail]
  congr 1
  simp
  omega
theorem strOfNums_size (l : List Int) : (strOfNums l).size = l.length := by
 unfold strOfNums; simp [ByteArray.size]
theorem intB_length (n : Int) : (intB n).length = 9 := by unfold intB; split <;> simp [big_length]
theorem intB_bytes (n : Int) : Bytes (intB n) := by
 unfold intB
 split
 ·
  exact Bytes.cons ⟨by decide, by decide⟩ (big_bytes _ _)
 ·
  exact Bytes.cons ⟨by decide, by decide⟩ (big_bytes _ _)
theorem sub_mid (a b c : List Int) {i j : Nat} (hi : i = a.length) (hj : j = a.length + b.length) : sub (a ++ b ++ c) i j = b := by
 subst hi hj
 unfold sub
 rw [List.take_append_of_le_length (by simp), ← List.length_append, List.take_length, List.drop_left]
theorem rd_mid (a : List Int) (b : Int) (c : List Int) {i : Int} (hi : i = a.length) : rd (a ++ b :: c) i = b := by
 subst hi
 exact rd_drop (m := c) (by rw [List.drop_left])
theorem pow8 : (256 : Int) ^ 8 = 18446744073709551616 := by decide
theorem val_big8 {n : Int} (h0 : 0 ≤ n) (h1 : n < 18446744073709551616) : val 0 (big n 8) = n := by
 rw [val_big, pow8]; omega
theorem getInt_put (a c : List Int) (n : Int) (h0 : -1152921504606846976 ≤ n) (h1 : n ≤ 1152921504606846976) :
  sGetInt (a ++ intB n ++ c) a.length = (n, (a.length : Int) + 9, 0) := by
 unfold sGetInt
 have hl : (a ++ intB n ++ c).length = a.length + 9 + c.length := by simp [intB_length]; omega
 rw [if_pos z2_]
 by_cases h : n < 0
 ·
  have e : a ++ intB n ++ c = a ++ 1 :: (big (-n) 8 ++ c) := by unfold intB; rw [if_pos h]; simp
  have e2 : a ++ intB n ++ c = (a ++ [1]) ++ big (-n) 8 ++ c := by unfold intB; rw [if_pos h]; simp
  have hs : sub (a ++ intB n ++ c) ((a.length : Int) + 1).toNat ((a.length : Int) + 9).toNat = big (-n) 8 := by
   rw [e2]; exact sub_mid _ _ _ (by simp <;> omega) (by simp [big_length] <;> omega)
  have hr : rd (a ++ intB n ++ c) (a.length : Int) = 1 := by rw [e]; exact rd_mid _ _ _ rfl
  rw [hs, val_big8 z2_ z2_, hr, if_neg z2_, if_pos rfl]
  simp
 ·
  have e : a ++ intB n ++ c = a ++ 0 :: (big n 8 ++ c) := by unfold intB; rw [if_neg h]; simp
  have e2 : a ++ intB n ++ c = (a ++ [0]) ++ big n 8 ++ c := by unfold intB; rw [if_neg h]; simp
  have hs : sub (a ++ intB n ++ c) ((a.length : Int) + 1).toNat ((a.length : Int) + 9).toNat = big n 8 := by
   rw [e2]; exact sub_mid _ _ _ (by simp <;> omega) (by simp [big_length] <;> omega)
  have hr : rd (a ++ intB n ++ c) (a.length : Int) = 0 := by rw [e]; exact rd_mid _ _ _ rfl
  rw [hs, val_big8 z2_ z2_, hr, if_neg z2_, if_neg (by decide)]
theorem getText_put (a c : List Int) (s : ByteArray) (h : s.size ≤ 24) :
  sGetText (a ++ (s.size : Int) :: bytesOf s ++ c) a.length = (s, (a.length : Int) + 1 + s.size, 0) := by
 unfold sGetText
 have hl : (a ++ (s.size : Int) :: bytesOf s ++ c).length = a.length + 1 + s.size + c.length := by simp [bytesOf_length]; omega
 have e : a ++ (s.size : Int) :: bytesOf s ++ c = a ++ (s.size : Int) :: (bytesOf s ++ c) := by simp
 have e2 : a ++ (s.size : Int) :: bytesOf s ++ c = (a ++ [(s.size : Int)]) ++ bytesOf s ++ c := by simp
 have hr : rd (a ++ (s.size : Int) :: bytesOf s ++ c) (a.length : Int) = s.size := by rw [e]; exact rd_mid _ _ _ rfl
 have hs : sub (a ++ (s.size : Int) :: bytesOf s ++ c) ((a.length : Int) + 1).toNat ((a.length : Int) + 1 + s.size).toNat = bytesOf s := by
  rw [e2]; exact sub_mid _ _ _ (by simp <;> omega) (by simp [bytesOf_length] <;> omega)
 rw [if_pos z2_, hr, if_neg z2_, hs, strOfNums_bytesOf]
end Go.Proofs.Ytiaiglihndbjeaa.Plain
end
