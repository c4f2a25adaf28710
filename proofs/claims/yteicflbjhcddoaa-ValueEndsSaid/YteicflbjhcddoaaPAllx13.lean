-- packed
-- Printed by a program of this session (wip/hp.py: the printer of the kit with hooks of our own); Lean checks it.
import Derived.Test.YteicflbjhcddoaaPAllx0
import Derived.Test.YteicflbjhcddoaaShortB
import Derived.Test.YteicflbjhcddoaaPAllx1
import Derived.Test.YteicflbjhcddoaaPAllx3
import Derived.Test.YteicflbjhcddoaaPAllx5
namespace Go.Proofs.Yteicflbjhcddoaa.PAll
open Go.RowKit Go.Proofs.YteicflbjhcddoaaW.PrintWords Go.Proofs.YteicflbjhcddoaaW.PrintLast Go.Proofs.YteicflbjhcddoaaW.PrintMore
attribute [local go_sem] max2_int min2_int max_two min_two max_three min_three max_four min_four   -- for this text's walks alone
set_option linter.unusedVariables false
set_option linter.unusedSimpArgs false

/-! ### raddlelaw03_ValueEnds: function 8 -/
def raddlelaw03_ValueEnds.j0 : Nat → Int → Int → Int → Option (Bool)
 | 0, _, _, _ => none
 | k + 1, x0, x5, x6 => if 0 ≤ (wrap64 (24 + x0)) then (if (wrap64 (24 + x0) : Int).toNat ≤ 281474976710656 then ((some (List.replicate (wrap64 (24 + x0) : Int).toNat 0 : List Int)).bind fun y437 => ((value_Check.f 3 x5 (⟨#[]⟩ : ByteArray)).bind fun t443 => (if ((t443 == 0) == (x0 == 0)) = true then ((value_Check.f 3 x6 (⟨#[]⟩ : ByteArray)).bind fun t444 => (if t444 = 0 then ((value_Small.f 3 x6 (⟨#[]⟩ : ByteArray)).bind fun t445 => (if (t445 == (x0 == 0)) = true then ((value_Check.f 4 0 (strOfNums y437)).bind fun t446 => (if ((t446 == 0) == (x0 == 0)) = true then ((value_Small.f 4 0 (strOfNums y437)).bind fun t447 => (if (t447 == (x0 == 0)) = true then ((value_Fits.f 4 0 (strOfNums y437) 4).bind fun t448 => (if (t448 == (x0 == 0)) = true then ((raddlelaw03_wakes.f k).bind fun t449 => (some t449)) else (some false))) else (some false))) else (some false))) else (some false))) else (some false))) else (some false)))) else (none)) else (none)
def raddlelaw03_ValueEnds.f (k : Nat) (a0 : Int) (a1 : Bool) : Option (Bool) := if a1 = true then (raddlelaw03_ValueEnds.j0 k (wrap64 (Int.tmod (IntKind.u64.wrap (a0)) 2)) (wrap64 (-(wrap64 (1152921504606846976 + (wrap64 (Int.tmod (IntKind.u64.wrap (a0)) 2)))))) (wrap64 (-(wrap64 (2147483648 + (wrap64 (Int.tmod (IntKind.u64.wrap (a0)) 2))))))) else (raddlelaw03_ValueEnds.j0 k (wrap64 (Int.tmod (IntKind.u64.wrap (a0)) 2)) (wrap64 (1152921504606846976 + (wrap64 (Int.tmod (IntKind.u64.wrap (a0)) 2)))) (wrap64 (2147483648 + (wrap64 (Int.tmod (IntKind.u64.wrap (a0)) 2)))))
theorem raddlelaw03_ValueEnds.mono_l : ∀ k, (∀ y0 y1 y2, LeO (raddlelaw03_ValueEnds.j0 k y0 y1 y2) (raddlelaw03_ValueEnds.j0 (k + 1) y0 y1 y2))
 | 0 => fun _ _ _ r h => by simp [raddlelaw03_ValueEnds.j0] at h
 | k + 1 => by
  have ih0 := raddlelaw03_ValueEnds.mono_l k
  ·
   intro y0 y1 y2
   unfold raddlelaw03_ValueEnds.j0
   repeat' first
   | (with_reducible exact ih0 _ _ _)
   | (with_reducible exact raddlelaw03_wakes.mono _)
   | (with_reducible exact LeO.refl _)
   | (with_reducible exact LeO.none _)
   | (with_reducible refine LeO.ite ?_ ?_)
   | (with_reducible refine LeO.bind ?_ (fun _ => ?_))
   | exact ih0 _ _ _
   | exact raddlelaw03_wakes.mono _
   | exact LeO.none _
   | refine LeO.ite ?_ ?_
   | refine LeO.bind ?_ (fun _ => ?_)
theorem raddlelaw03_ValueEnds.mono : ∀ a0 a1 k, LeO (raddlelaw03_ValueEnds.f k a0 a1) (raddlelaw03_ValueEnds.f (k + 1) a0 a1) := by
 intro a0 a1 k
 have ih0 := raddlelaw03_ValueEnds.mono_l k
 unfold raddlelaw03_ValueEnds.f
 repeat' first
   | (with_reducible exact ih0 _ _ _)
   | (with_reducible exact raddlelaw03_wakes.mono _)
   | (with_reducible exact LeO.refl _)
   | (with_reducible exact LeO.none _)
   | (with_reducible refine LeO.ite ?_ ?_)
   | (with_reducible refine LeO.bind ?_ (fun _ => ?_))
   | exact ih0 _ _ _
   | exact raddlelaw03_wakes.mono _
   | exact LeO.none _
   | refine LeO.ite ?_ ?_
   | refine LeO.bind ?_ (fun _ => ?_)
def raddlelaw03_ValueEnds.T5 : Bool × List (List Nat × List Nat) := (true, [([], []), ([0], [0]), ([], []), ([2], [2]), ([], []), ([4], [4]), ([5, 5], [5]), ([6], [6]), ([7], [7]), ([], []), ([], []), ([], []), ([9, 1, 0, 1, 9, 10, 11], [1, 9]), ([10, 3, 12, 0, 1, 2, 3, 9, 10, 11, 12], [3, 10]), ([11, 8, 13, 0, 1, 2, 3, 4, 5, 6, 7, 8, 9, 10, 11, 12, 13], [8, 11])])
def raddlelaw03_ValueEnds.B5 : List Nat := [0, 1, 0, 4, 0, 16, 48, 112, 240, 0, 0, 0, 3587, 7695, 16383]
theorem raddlelaw03_ValueEnds.tab5 : rtab .any (opsOf Try.f8 5) = raddlelaw03_ValueEnds.T5 := by kernel_rfl
theorem raddlelaw03_ValueEnds.bits5 : waitsOk raddlelaw03_ValueEnds.T5.2 raddlelaw03_ValueEnds.B5 = true := by kernel_rfl
set_option maxHeartbeats 8000000 in
set_option maxRecDepth 100000 in
theorem raddlelaw03_ValueEnds.calls (k : Nat) (a0 : Int) (a1 : Bool) (r : Bool) (w : World) (hrt : r = true) (h : raddlelaw03_ValueEnds.f k a0 a1 = some r) :
  Calls Try.prog 8 #[.int .i64 a0, .bool a1] w fun e w' => e = .returned (.bool r) ∧ Below w.heap.size w w' := by
 have hu23 := Try.underlying23
 have HB := Aside0.mk (Below.refl w.heap.size w)
 have H : (if a1 = true then (raddlelaw03_ValueEnds.j0 k (wrap64 (Int.tmod (IntKind.u64.wrap (a0)) 2)) (wrap64 (-(wrap64 (1152921504606846976 + (wrap64 (Int.tmod (IntKind.u64.wrap (a0)) 2)))))) (wrap64 (-(wrap64 (2147483648 + (wrap64 (Int.tmod (IntKind.u64.wrap (a0)) 2))))))) else (raddlelaw03_ValueEnds.j0 k (wrap64 (Int.tmod (IntKind.u64.wrap (a0)) 2)) (wrap64 (1152921504606846976 + (wrap64 (Int.tmod (IntKind.u64.wrap (a0)) 2)))) (wrap64 (2147483648 + (wrap64 (Int.tmod (IntKind.u64.wrap (a0)) 2)))))) = some r := h
 clear h
 have HC3 := Aside0.mk H
 clear H
 go_enter Try.func8, Try.ntmps8
 go_upto_if 18 with (fail)
 go_cut [5, 6] (fun v5 v6 wc => ∃ (kq : Nat) (x5_2 : Int) (x6_2 : Int), v5 = .int .i64 x5_2 ∧ v6 = .int .i64 x6_2 ∧ Aside0 (raddlelaw03_ValueEnds.j0 kq (wrap64 (Int.tmod (IntKind.u64.wrap (a0)) 2)) x5_2 x6_2 = some r) ∧ Aside0 (kq ≤ k) ∧ Aside0 (Below w.heap.size w wc))
 case first =>
  have H := HC3.out
  clear HC3
  by_cases c4 : a1 = true
  ·
   subst c4
   have H1 : (raddlelaw03_ValueEnds.j0 k (wrap64 (Int.tmod (IntKind.u64.wrap (a0)) 2)) (wrap64 (-(wrap64 (1152921504606846976 + (wrap64 (Int.tmod (IntKind.u64.wrap (a0)) 2)))))) (wrap64 (-(wrap64 (2147483648 + (wrap64 (Int.tmod (IntKind.u64.wrap (a0)) 2))))))) = some r := by rw [if_pos rfl] at H; exact H
   clear H
   have H := H1
   clear H1
   have H' := Aside0.mk H
   clear H
   go_wp2
   go_meet
   case rel => exact ⟨_, (wrap64 (-(wrap64 (1152921504606846976 + (wrap64 (Int.tmod (IntKind.u64.wrap (a0)) 2)))))), (wrap64 (-(wrap64 (2147483648 + (wrap64 (Int.tmod (IntKind.u64.wrap (a0)) 2)))))), (by first | rfl | (simp; done) | (simp [*]; done)), (by first | rfl | (simp; done) | (simp [*]; done)), H', ⟨by first | omega | exact Nat.le_refl _⟩, ⟨Short.hB HB⟩⟩
  ·
   replace c4 := Bool.eq_false_iff.mpr c4
   subst c4
   have H1 : (raddlelaw03_ValueEnds.j0 k (wrap64 (Int.tmod (IntKind.u64.wrap (a0)) 2)) (wrap64 (1152921504606846976 + (wrap64 (Int.tmod (IntKind.u64.wrap (a0)) 2)))) (wrap64 (2147483648 + (wrap64 (Int.tmod (IntKind.u64.wrap (a0)) 2))))) = some r := by rw [if_neg (show ¬ (false = true) by decide)] at H; exact H
   clear H
   have H := H1
   clear H1
   have H' := Aside0.mk H
   clear H
   go_wp2
   go_meet
   case rel => exact ⟨_, (wrap64 (1152921504606846976 + (wrap64 (Int.tmod (IntKind.u64.wrap (a0)) 2)))), (wrap64 (2147483648 + (wrap64 (Int.tmod (IntKind.u64.wrap (a0)) 2)))), (by first | rfl | (simp; done) | (simp [*]; done)), (by first | rfl | (simp; done) | (simp [*]; done)), H', ⟨by first | omega | exact Nat.le_refl _⟩, ⟨Short.hB HB⟩⟩
 case rest => as_aux_lemma =>
  clear HC3
  try clear p2
  try clear c4
  obtain ⟨kq, x5_2, x6_2, rfl, rfl, HA, HJ2, HB⟩ := hcut
  cases kq with
  | zero => exact absurd HA.out (by simp [raddlelaw03_ValueEnds.j0])
  | succ kj2 =>
   have H := HA.out
   clear HA
   simp only [raddlelaw03_ValueEnds.j0] at H
   obtain ⟨ji5, hji5⟩ : ∃ j_ : Int, (wrap64 (24 + (wrap64 (Int.tmod (IntKind.u64.wrap (a0)) 2)))) = j_ := ⟨_, rfl⟩
   replace H : (if 0 ≤ (ji5) then (if (ji5 : Int).toNat ≤ 281474976710656 then ((some (List.replicate (ji5 : Int).toNat 0 : List Int)).bind fun y437 => ((value_Check.f 3 x5_2 (⟨#[]⟩ : ByteArray)).bind fun t443 => (if ((t443 == 0) == ((wrap64 (Int.tmod (IntKind.u64.wrap (a0)) 2)) == 0)) = true then ((value_Check.f 3 x6_2 (⟨#[]⟩ : ByteArray)).bind fun t444 => (if t444 = 0 then ((value_Small.f 3 x6_2 (⟨#[]⟩ : ByteArray)).bind fun t445 => (if (t445 == ((wrap64 (Int.tmod (IntKind.u64.wrap (a0)) 2)) == 0)) = true then ((value_Check.f 4 0 (strOfNums y437)).bind fun t446 => (if ((t446 == 0) == ((wrap64 (Int.tmod (IntKind.u64.wrap (a0)) 2)) == 0)) = true then ((value_Small.f 4 0 (strOfNums y437)).bind fun t447 => (if (t447 == ((wrap64 (Int.tmod (IntKind.u64.wrap (a0)) 2)) == 0)) = true then ((value_Fits.f 4 0 (strOfNums y437) 4).bind fun t448 => (if (t448 == ((wrap64 (Int.tmod (IntKind.u64.wrap (a0)) 2)) == 0)) = true then ((raddlelaw03_wakes.f kj2).bind fun t449 => (some t449)) else (some false))) else (some false))) else (some false))) else (some false))) else (some false))) else (some false)))) else (none)) else (none)) = some r := by first | (rw [hji5] at H; exact H) | (simp only [hji5] at H ⊢; exact H)
   have hji5w : (IntKind.i64.wrap (24 + (wrap64 (Int.tmod (IntKind.u64.wrap (a0)) 2)))) = ji5 := (i64_w _).trans hji5
   by_cases c6 : 0 ≤ (ji5)
   ·
    rw [if_pos c6] at H
    have c6b0 := eq_true c6
    have c6b1 : decide (0 ≤ (ji5)) = true := decide_eq_true c6
    clear c6
    by_cases c7 : (ji5 : Int).toNat ≤ 281474976710656
    ·
     rw [if_pos c7] at H
     have c7b0 := eq_true c7
     have c7b1 : decide ((ji5 : Int).toNat ≤ 281474976710656) = true := decide_eq_true c7
     clear c7
     obtain ⟨y437, hy437⟩ : ∃ y_ : List Int, y_ = (List.replicate (ji5 : Int).toNat 0) := ⟨_, rfl⟩
     replace H : ((value_Check.f 3 x5_2 (⟨#[]⟩ : ByteArray)).bind fun t443 => (if ((t443 == 0) == ((wrap64 (Int.tmod (IntKind.u64.wrap (a0)) 2)) == 0)) = true then ((value_Check.f 3 x6_2 (⟨#[]⟩ : ByteArray)).bind fun t444 => (if t444 = 0 then ((value_Small.f 3 x6_2 (⟨#[]⟩ : ByteArray)).bind fun t445 => (if (t445 == ((wrap64 (Int.tmod (IntKind.u64.wrap (a0)) 2)) == 0)) = true then ((value_Check.f 4 0 (strOfNums y437)).bind fun t446 => (if ((t446 == 0) == ((wrap64 (Int.tmod (IntKind.u64.wrap (a0)) 2)) == 0)) = true then ((value_Small.f 4 0 (strOfNums y437)).bind fun t447 => (if (t447 == ((wrap64 (Int.tmod (IntKind.u64.wrap (a0)) 2)) == 0)) = true then ((value_Fits.f 4 0 (strOfNums y437) 4).bind fun t448 => (if (t448 == ((wrap64 (Int.tmod (IntKind.u64.wrap (a0)) 2)) == 0)) = true then ((raddlelaw03_wakes.f kj2).bind fun t449 => (some t449)) else (some false))) else (some false))) else (some false))) else (some false))) else (some false))) else (some false))) = some r := by first | (rw [hy437]; with_reducible exact H) | (have H2_ := (Option.bind_some _ _).symm.trans H; rw [hy437]; with_reducible exact H2_) | (have H2_ := (Option.bind_some _ _).symm.trans H; with_reducible exact H2_) | with_reducible exact H | (rw [hy437]; exact H) | exact H
     have Ny437 := Aside0.mk hy437
     clear hy437
     replace H := Option.bind_eq_some_iff.mp H
     obtain ⟨t443, A80, H⟩ := H
     replace H : (if ((t443 == 0) == ((wrap64 (Int.tmod (IntKind.u64.wrap (a0)) 2)) == 0)) = true then ((value_Check.f 3 x6_2 (⟨#[]⟩ : ByteArray)).bind fun t444 => (if t444 = 0 then ((value_Small.f 3 x6_2 (⟨#[]⟩ : ByteArray)).bind fun t445 => (if (t445 == ((wrap64 (Int.tmod (IntKind.u64.wrap (a0)) 2)) == 0)) = true then ((value_Check.f 4 0 (strOfNums y437)).bind fun t446 => (if ((t446 == 0) == ((wrap64 (Int.tmod (IntKind.u64.wrap (a0)) 2)) == 0)) = true then ((value_Small.f 4 0 (strOfNums y437)).bind fun t447 => (if (t447 == ((wrap64 (Int.tmod (IntKind.u64.wrap (a0)) 2)) == 0)) = true then ((value_Fits.f 4 0 (strOfNums y437) 4).bind fun t448 => (if (t448 == ((wrap64 (Int.tmod (IntKind.u64.wrap (a0)) 2)) == 0)) = true then ((raddlelaw03_wakes.f kj2).bind fun t449 => (some t449)) else (some false))) else (some false))) else (some false))) else (some false))) else (some false))) else (some false)) = some r := H
     have A8 := Aside0.mk A80
     clear A80
     by_cases c9 : ((t443 == 0) == ((wrap64 (Int.tmod (IntKind.u64.wrap (a0)) 2)) == 0)) = true
     ·
      rw [if_pos c9] at H
      have c9b0 : ((t443 == 0) == ((wrap64 (Int.tmod (IntKind.u64.wrap (a0)) 2)) == 0)) = true := c9
      (try (have c9b1 : decide ((t443 == 0) = ((wrap64 (Int.tmod (IntKind.u64.wrap (a0)) 2)) == 0)) = true := by simpa using c9))
      (try (have c9b2 : ((t443 == 0) == ((wrap64 (Int.tmod (IntKind.u64.wrap (a0)) 2)) == 0)) = true := by simpa using c9))
      clear c9
      replace H := Option.bind_eq_some_iff.mp H
      obtain ⟨t444, A100, H⟩ := H
      replace H : (if t444 = 0 then ((value_Small.f 3 x6_2 (⟨#[]⟩ : ByteArray)).bind fun t445 => (if (t445 == ((wrap64 (Int.tmod (IntKind.u64.wrap (a0)) 2)) == 0)) = true then ((value_Check.f 4 0 (strOfNums y437)).bind fun t446 => (if ((t446 == 0) == ((wrap64 (Int.tmod (IntKind.u64.wrap (a0)) 2)) == 0)) = true then ((value_Small.f 4 0 (strOfNums y437)).bind fun t447 => (if (t447 == ((wrap64 (Int.tmod (IntKind.u64.wrap (a0)) 2)) == 0)) = true then ((value_Fits.f 4 0 (strOfNums y437) 4).bind fun t448 => (if (t448 == ((wrap64 (Int.tmod (IntKind.u64.wrap (a0)) 2)) == 0)) = true then ((raddlelaw03_wakes.f kj2).bind fun t449 => (some t449)) else (some false))) else (some false))) else (some false))) else (some false))) else (some false)) = some r := H
      have A10 := Aside0.mk A100
      clear A100
      by_cases c11 : t444 = 0
      ·
       rw [if_pos c11] at H
       have c11b0 : (t444 == 0) = true := beq_iff_eq.mpr c11
       have c11b1 : (t444 != 0) = false := bne_eq_false_iff_eq.mpr c11
       clear c11
       replace H := Option.bind_eq_some_iff.mp H
       obtain ⟨t445, A120, H⟩ := H
       replace H : (if (t445 == ((wrap64 (Int.tmod (IntKind.u64.wrap (a0)) 2)) == 0)) = true then ((value_Check.f 4 0 (strOfNums y437)).bind fun t446 => (if ((t446 == 0) == ((wrap64 (Int.tmod (IntKind.u64.wrap (a0)) 2)) == 0)) = true then ((value_Small.f 4 0 (strOfNums y437)).bind fun t447 => (if (t447 == ((wrap64 (Int.tmod (IntKind.u64.wrap (a0)) 2)) == 0)) = true then ((value_Fits.f 4 0 (strOfNums y437) 4).bind fun t448 => (if (t448 == ((wrap64 (Int.tmod (IntKind.u64.wrap (a0)) 2)) == 0)) = true then ((raddlelaw03_wakes.f kj2).bind fun t449 => (some t449)) else (some false))) else (some false))) else (some false))) else (some false)) = some r := H
       have A12 := Aside0.mk A120
       clear A120
       by_cases c13 : (t445 == ((wrap64 (Int.tmod (IntKind.u64.wrap (a0)) 2)) == 0)) = true
       ·
        rw [if_pos c13] at H
        have c13b0 : (t445 == ((wrap64 (Int.tmod (IntKind.u64.wrap (a0)) 2)) == 0)) = true := c13
        (try (have c13b1 : decide (t445 = ((wrap64 (Int.tmod (IntKind.u64.wrap (a0)) 2)) == 0)) = true := by simpa using c13))
        (try (have c13b2 : (t445 == ((wrap64 (Int.tmod (IntKind.u64.wrap (a0)) 2)) == 0)) = true := by simpa using c13))
        clear c13
        replace H := Option.bind_eq_some_iff.mp H
        obtain ⟨t446, A140, H⟩ := H
        replace H : (if ((t446 == 0) == ((wrap64 (Int.tmod (IntKind.u64.wrap (a0)) 2)) == 0)) = true then ((value_Small.f 4 0 (strOfNums y437)).bind fun t447 => (if (t447 == ((wrap64 (Int.tmod (IntKind.u64.wrap (a0)) 2)) == 0)) = true then ((value_Fits.f 4 0 (strOfNums y437) 4).bind fun t448 => (if (t448 == ((wrap64 (Int.tmod (IntKind.u64.wrap (a0)) 2)) == 0)) = true then ((raddlelaw03_wakes.f kj2).bind fun t449 => (some t449)) else (some false))) else (some false))) else (some false)) = some r := H
        have A14 := Aside0.mk A140
        clear A140
        by_cases c15 : ((t446 == 0) == ((wrap64 (Int.tmod (IntKind.u64.wrap (a0)) 2)) == 0)) = true
        ·
         rw [if_pos c15] at H
         have c15b0 : ((t446 == 0) == ((wrap64 (Int.tmod (IntKind.u64.wrap (a0)) 2)) == 0)) = true := c15
         (try (have c15b1 : decide ((t446 == 0) = ((wrap64 (Int.tmod (IntKind.u64.wrap (a0)) 2)) == 0)) = true := by simpa using c15))
         (try (have c15b2 : ((t446 == 0) == ((wrap64 (Int.tmod (IntKind.u64.wrap (a0)) 2)) == 0)) = true := by simpa using c15))
         clear c15
         replace H := Option.bind_eq_some_iff.mp H
         obtain ⟨t447, A160, H⟩ := H
         replace H : (if (t447 == ((wrap64 (Int.tmod (IntKind.u64.wrap (a0)) 2)) == 0)) = true then ((value_Fits.f 4 0 (strOfNums y437) 4).bind fun t448 => (if (t448 == ((wrap64 (Int.tmod (IntKind.u64.wrap (a0)) 2)) == 0)) = true then ((raddlelaw03_wakes.f kj2).bind fun t449 => (some t449)) else (some false))) else (some false)) = some r := H
         have A16 := Aside0.mk A160
         clear A160
         by_cases c17 : (t447 == ((wrap64 (Int.tmod (IntKind.u64.wrap (a0)) 2)) == 0)) = true
         ·
          rw [if_pos c17] at H
          have c17b0 : (t447 == ((wrap64 (Int.tmod (IntKind.u64.wrap (a0)) 2)) == 0)) = true := c17
          (try (have c17b1 : decide (t447 = ((wrap64 (Int.tmod (IntKind.u64.wrap (a0)) 2)) == 0)) = true := by simpa using c17))
          (try (have c17b2 : (t447 == ((wrap64 (Int.tmod (IntKind.u64.wrap (a0)) 2)) == 0)) = true := by simpa using c17))
          clear c17
          replace H := Option.bind_eq_some_iff.mp H
          obtain ⟨t448, A180, H⟩ := H
          replace H : (if (t448 == ((wrap64 (Int.tmod (IntKind.u64.wrap (a0)) 2)) == 0)) = true then ((raddlelaw03_wakes.f kj2).bind fun t449 => (some t449)) else (some false)) = some r := H
          have A18 := Aside0.mk A180
          clear A180
          by_cases c19 : (t448 == ((wrap64 (Int.tmod (IntKind.u64.wrap (a0)) 2)) == 0)) = true
          ·
           rw [if_pos c19] at H
           have c19b0 : (t448 == ((wrap64 (Int.tmod (IntKind.u64.wrap (a0)) 2)) == 0)) = true := c19
           (try (have c19b1 : decide (t448 = ((wrap64 (Int.tmod (IntKind.u64.wrap (a0)) 2)) == 0)) = true := by simpa using c19))
           (try (have c19b2 : (t448 == ((wrap64 (Int.tmod (IntKind.u64.wrap (a0)) 2)) == 0)) = true := by simpa using c19))
           clear c19
           replace H := Option.bind_eq_some_iff.mp H
           obtain ⟨t449, A200, H⟩ := H
           replace H : (some t449) = some r := H
           have A20 := Aside0.mk A200
           clear A200
           obtain rfl := Option.some.inj H
           try go_wp2
           have n0_ := Aside0.mk (below_drew1 HB.out)
           clear HB
           have HB := n0_
           clear n0_
           refine start_ (n := 15) (S := fun w' => True) (ds := []) #[false, false, false, false, false, false, false, false, false, false, false, false, false, false, false] (by kernel_rfl) rfl rfl trivial (fun hHeld => ?_); refine with_tabW raddlelaw03_ValueEnds.tab5 raddlelaw03_ValueEnds.bits5 (fun HT_ HW_ => ?_)
           generalize wc.drew = w21 at HB hHeld ⊢
           refine Steps.pI_ 0 (some 23) (Steps.Bs 15 1) (any_of HT_.out (by kernel_rfl)) (h := ?_)
           refine Steps.pI_ 1 (some 24) (Steps.Bs 15 3) (any_of HT_.out (by kernel_rfl)) (h := ?_)
           refine Steps.pI_ 2 (some 25) (Steps.Bs 15 7) (any_of HT_.out (by kernel_rfl)) (h := ?_)
           refine Steps.pI_ 3 (some 26) (Steps.Bs 15 15) (any_of HT_.out (by kernel_rfl)) (h := ?_)
           refine Steps.pI_ 4 (some 27) (Steps.Bs 15 31) (any_of HT_.out (by kernel_rfl)) (h := ?_)
           refine Steps.pI_ 5 (some 28) (Steps.Bs 15 63) (any_of HT_.out (by kernel_rfl)) (h := ?_)
           refine join_ (σ := Value × Nat × Nat × Nat) 1 (Steps.Bs 15 16383) (fun s_ => [(29, s_.1), (30, .string (strOfNums y437)), (7, .pointer (some ⟨s_.2.1, 0, none⟩)), (8, .pointer (some ⟨s_.2.2.1, 0, none⟩)), (9, .pointer (some ⟨s_.2.2.2, 0, none⟩)), (31, .agg #[.int .i64 4, .int .i64 0, .string (strOfNums y437)])]) (fun s_ w' => (Kd.R (Kd.int .u8) 5 w' w.heap.size (fun _ => True) s_.1 y437) ∧ (w'.heap[s_.2.1]? = some (.cells #[.int .i64 3, .int .i64 x5_2, .string (⟨#[]⟩ : ByteArray)] 23 (0, 0))) ∧ (w'.heap[s_.2.2.1]? = some (.cells #[.int .i64 3, .int .i64 x6_2, .string (⟨#[]⟩ : ByteArray)] 23 (0, 0))) ∧ (w'.heap[s_.2.2.2]? = some (.cells #[.int .i64 0, .int .i64 0, .string (⟨#[]⟩ : ByteArray)] 23 (0, 0))) ∧ (w.heap.size ≤ s_.2.1) ∧ (w.heap.size ≤ s_.2.1) ∧ (s_.2.2.1 ≠ s_.2.1) ∧ (s_.2.1 ≠ s_.2.2.1) ∧ (s_.2.2.2 ≠ s_.2.1) ∧ (s_.2.1 ≠ s_.2.2.2) ∧ (w.heap.size ≤ s_.2.2.1) ∧ (w.heap.size ≤ s_.2.2.1) ∧ (s_.2.2.2 ≠ s_.2.2.1) ∧ (s_.2.2.1 ≠ s_.2.2.2) ∧ (w.heap.size ≤ s_.2.2.2) ∧ (w.heap.size ≤ s_.2.2.2) ∧ (Below w.heap.size w w')) ?_ ?_
           rotate_left
           ·
            intro hJ6_7_9_10_11_12_13
            refine join_ (σ := Value × Nat × Nat × Nat) 2 (Steps.Bs 15 8191) (fun s_ => [(29, s_.1), (30, .string (strOfNums y437)), (7, .pointer (some ⟨s_.2.1, 0, none⟩)), (8, .pointer (some ⟨s_.2.2.1, 0, none⟩)), (9, .pointer (some ⟨s_.2.2.2, 0, none⟩)), (31, .agg #[.int .i64 4, .int .i64 0, .string (strOfNums y437)])]) (fun s_ w' => (Kd.R (Kd.int .u8) 5 w' w.heap.size (fun _ => True) s_.1 y437) ∧ (w'.heap[s_.2.1]? = some (.cells #[.int .i64 3, .int .i64 x5_2, .string (⟨#[]⟩ : ByteArray)] 23 (0, 0))) ∧ (w'.heap[s_.2.2.1]? = some (.cells #[.int .i64 0, .int .i64 0, .string (⟨#[]⟩ : ByteArray)] 23 (0, 0))) ∧ (w'.heap[s_.2.2.2]? = some (.cells #[.int .i64 0, .int .i64 0, .string (⟨#[]⟩ : ByteArray)] 23 (0, 0))) ∧ (w.heap.size ≤ s_.2.1) ∧ (w.heap.size ≤ s_.2.1) ∧ (s_.2.2.1 ≠ s_.2.1) ∧ (s_.2.1 ≠ s_.2.2.1) ∧ (s_.2.2.2 ≠ s_.2.1) ∧ (s_.2.1 ≠ s_.2.2.2) ∧ (w.heap.size ≤ s_.2.2.1) ∧ (w.heap.size ≤ s_.2.2.1) ∧ (s_.2.2.2 ≠ s_.2.2.1) ∧ (s_.2.2.1 ≠ s_.2.2.2) ∧ (w.heap.size ≤ s_.2.2.2) ∧ (w.heap.size ≤ s_.2.2.2) ∧ (Below w.heap.size w w')) ?_ ?_
            rotate_left
            ·
             intro hJ6_7_9_10_11_12
             refine join_ (σ := Value × Nat × Nat × Nat) 3 (Steps.Bs 15 15999) (fun s_ => [(29, s_.1), (7, .pointer (some ⟨s_.2.1, 0, none⟩)), (8, .pointer (some ⟨s_.2.2.1, 0, none⟩)), (9, .pointer (some ⟨s_.2.2.2, 0, none⟩))]) (fun s_ w' => (Kd.R (Kd.int .u8) 5 w' w.heap.size (fun _ => True) s_.1 y437) ∧ (w'.heap[s_.2.1]? = some (.cells #[.int .i64 3, .int .i64 x5_2, .string (⟨#[]⟩ : ByteArray)] 23 (0, 0))) ∧ (w'.heap[s_.2.2.1]? = some (.cells #[.int .i64 3, .int .i64 x6_2, .string (⟨#[]⟩ : ByteArray)] 23 (0, 0))) ∧ (w'.heap[s_.2.2.2]? = some (.cells #[.int .i64 0, .int .i64 0, .string (⟨#[]⟩ : ByteArray)] 23 (0, 0))) ∧ (w.heap.size ≤ s_.2.1) ∧ (w.heap.size ≤ s_.2.1) ∧ (s_.2.2.1 ≠ s_.2.1) ∧ (s_.2.1 ≠ s_.2.2.1) ∧ (s_.2.2.2 ≠ s_.2.1) ∧ (s_.2.1 ≠ s_.2.2.2) ∧ (w.heap.size ≤ s_.2.2.1) ∧ (w.heap.size ≤ s_.2.2.1) ∧ (s_.2.2.2 ≠ s_.2.2.1) ∧ (s_.2.2.1 ≠ s_.2.2.2) ∧ (w.heap.size ≤ s_.2.2.2) ∧ (w.heap.size ≤ s_.2.2.2) ∧ (Below w.heap.size w w')) ?_ ?_
             rotate_left
             ·
              intro hJ6_9_10_11_12_13
              refine join_ (σ := Value × Nat × Nat × Nat) 3 (Steps.Bs 15 4095) (fun s_ => [(29, s_.1), (30, .string (strOfNums y437)), (7, .pointer (some ⟨s_.2.1, 0, none⟩)), (8, .pointer (some ⟨s_.2.2.1, 0, none⟩)), (9, .pointer (some ⟨s_.2.2.2, 0, none⟩)), (31, .agg #[.int .i64 4, .int .i64 0, .string (strOfNums y437)])]) (fun s_ w' => (Kd.R (Kd.int .u8) 5 w' w.heap.size (fun _ => True) s_.1 y437) ∧ (w'.heap[s_.2.1]? = some (.cells #[.int .i64 0, .int .i64 0, .string (⟨#[]⟩ : ByteArray)] 23 (0, 0))) ∧ (w'.heap[s_.2.2.1]? = some (.cells #[.int .i64 0, .int .i64 0, .string (⟨#[]⟩ : ByteArray)] 23 (0, 0))) ∧ (w'.heap[s_.2.2.2]? = some (.cells #[.int .i64 0, .int .i64 0, .string (⟨#[]⟩ : ByteArray)] 23 (0, 0))) ∧ (w.heap.size ≤ s_.2.1) ∧ (w.heap.size ≤ s_.2.1) ∧ (s_.2.2.1 ≠ s_.2.1) ∧ (s_.2.1 ≠ s_.2.2.1) ∧ (s_.2.2.2 ≠ s_.2.1) ∧ (s_.2.1 ≠ s_.2.2.2) ∧ (w.heap.size ≤ s_.2.2.1) ∧ (w.heap.size ≤ s_.2.2.1) ∧ (s_.2.2.2 ≠ s_.2.2.1) ∧ (s_.2.2.1 ≠ s_.2.2.2) ∧ (w.heap.size ≤ s_.2.2.2) ∧ (w.heap.size ≤ s_.2.2.2) ∧ (Below w.heap.size w w')) ?_ ?_
              rotate_left
              ·
               intro hJ6_7_9_10_11
               refine join_ (σ := Value × Nat × Nat × Nat) 4 (Steps.Bs 15 7807) (fun s_ => [(29, s_.1), (7, .pointer (some ⟨s_.2.1, 0, none⟩)), (8, .pointer (some ⟨s_.2.2.1, 0, none⟩)), (9, .pointer (some ⟨s_.2.2.2, 0, none⟩))]) (fun s_ w' => (Kd.R (Kd.int .u8) 5 w' w.heap.size (fun _ => True) s_.1 y437) ∧ (w'.heap[s_.2.1]? = some (.cells #[.int .i64 3, .int .i64 x5_2, .string (⟨#[]⟩ : ByteArray)] 23 (0, 0))) ∧ (w'.heap[s_.2.2.1]? = some (.cells #[.int .i64 0, .int .i64 0, .string (⟨#[]⟩ : ByteArray)] 23 (0, 0))) ∧ (w'.heap[s_.2.2.2]? = some (.cells #[.int .i64 0, .int .i64 0, .string (⟨#[]⟩ : ByteArray)] 23 (0, 0))) ∧ (w.heap.size ≤ s_.2.1) ∧ (w.heap.size ≤ s_.2.1) ∧ (s_.2.2.1 ≠ s_.2.1) ∧ (s_.2.1 ≠ s_.2.2.1) ∧ (s_.2.2.2 ≠ s_.2.1) ∧ (s_.2.1 ≠ s_.2.2.2) ∧ (w.heap.size ≤ s_.2.2.1) ∧ (w.heap.size ≤ s_.2.2.1) ∧ (s_.2.2.2 ≠ s_.2.2.1) ∧ (s_.2.2.1 ≠ s_.2.2.2) ∧ (w.heap.size ≤ s_.2.2.2) ∧ (w.heap.size ≤ s_.2.2.2) ∧ (Below w.heap.size w w')) ?_ ?_
               rotate_left
               ·
                intro hJ6_9_10_11_12
                refine join_ (σ := Nat × Nat × Nat) 4 (Steps.Bs 15 15935) (fun s_ => [(7, .pointer (some ⟨s_.1, 0, none⟩)), (8, .pointer (some ⟨s_.2.1, 0, none⟩)), (9, .pointer (some ⟨s_.2.2, 0, none⟩))]) (fun s_ w' => (w'.heap[s_.1]? = some (.cells #[.int .i64 3, .int .i64 x5_2, .string (⟨#[]⟩ : ByteArray)] 23 (0, 0))) ∧ (w'.heap[s_.2.1]? = some (.cells #[.int .i64 3, .int .i64 x6_2, .string (⟨#[]⟩ : ByteArray)] 23 (0, 0))) ∧ (w'.heap[s_.2.2]? = some (.cells #[.int .i64 0, .int .i64 0, .string (⟨#[]⟩ : ByteArray)] 23 (0, 0))) ∧ (w.heap.size ≤ s_.1) ∧ (w.heap.size ≤ s_.1) ∧ (s_.2.1 ≠ s_.1) ∧ (s_.1 ≠ s_.2.1) ∧ (s_.2.2 ≠ s_.1) ∧ (s_.1 ≠ s_.2.2) ∧ (w.heap.size ≤ s_.2.1) ∧ (w.heap.size ≤ s_.2.1) ∧ (s_.2.2 ≠ s_.2.1) ∧ (s_.2.1 ≠ s_.2.2) ∧ (w.heap.size ≤ s_.2.2) ∧ (w.heap.size ≤ s_.2.2) ∧ (Below w.heap.size w w')) ?_ ?_
                rotate_left
                ·
                 intro hJ9_10_11_12_13
                 refine join_ (σ := Value × Nat × Nat) 4 (Steps.Bs 15 2047) (fun s_ => [(29, s_.1), (30, .string (strOfNums y437)), (7, .pointer (some ⟨s_.2.1, 0, none⟩)), (8, .pointer (some ⟨s_.2.2, 0, none⟩)), (31, .agg #[.int .i64 4, .int .i64 0, .string (strOfNums y437)])]) (fun s_ w' => (Kd.R (Kd.int .u8) 5 w' w.heap.size (fun _ => True) s_.1 y437) ∧ (w'.heap[s_.2.1]? = some (.cells #[.int .i64 0, .int .i64 0, .string (⟨#[]⟩ : ByteArray)] 23 (0, 0))) ∧ (w'.heap[s_.2.2]? = some (.cells #[.int .i64 0, .int .i64 0, .string (⟨#[]⟩ : ByteArray)] 23 (0, 0))) ∧ (w.heap.size ≤ s_.2.1) ∧ (w.heap.size ≤ s_.2.1) ∧ (s_.2.2 ≠ s_.2.1) ∧ (s_.2.1 ≠ s_.2.2) ∧ (w.heap.size ≤ s_.2.2) ∧ (w.heap.size ≤ s_.2.2) ∧ (Below w.heap.size w w')) ?_ ?_
                 rotate_left
                 ·
                  intro hJ6_7_9_10
                  refine join_ (σ := Value × Nat × Nat) 4 (Steps.Bs 15 3071) (fun s_ => [(29, s_.1), (30, .string (strOfNums y437)), (7, .pointer (some ⟨s_.2.1, 0, none⟩)), (9, .pointer (some ⟨s_.2.2, 0, none⟩)), (31, .agg #[.int .i64 4, .int .i64 0, .string (strOfNums y437)])]) (fun s_ w' => (Kd.R (Kd.int .u8) 5 w' w.heap.size (fun _ => True) s_.1 y437) ∧ (w'.heap[s_.2.1]? = some (.cells #[.int .i64 0, .int .i64 0, .string (⟨#[]⟩ : ByteArray)] 23 (0, 0))) ∧ (w'.heap[s_.2.2]? = some (.cells #[.int .i64 0, .int .i64 0, .string (⟨#[]⟩ : ByteArray)] 23 (0, 0))) ∧ (w.heap.size ≤ s_.2.1) ∧ (w.heap.size ≤ s_.2.1) ∧ (s_.2.2 ≠ s_.2.1) ∧ (s_.2.1 ≠ s_.2.2) ∧ (w.heap.size ≤ s_.2.2) ∧ (w.heap.size ≤ s_.2.2) ∧ (Below w.heap.size w w')) ?_ ?_
                  rotate_left
                  ·
                   intro hJ6_7_9_11
                   refine join_ (σ := Value × Nat × Nat) 4 (Steps.Bs 15 3583) (fun s_ => [(29, s_.1), (30, .string (strOfNums y437)), (8, .pointer (some ⟨s_.2.1, 0, none⟩)), (9, .pointer (some ⟨s_.2.2, 0, none⟩)), (31, .agg #[.int .i64 4, .int .i64 0, .string (strOfNums y437)])]) (fun s_ w' => (Kd.R (Kd.int .u8) 5 w' w.heap.size (fun _ => True) s_.1 y437) ∧ (w'.heap[s_.2.1]? = some (.cells #[.int .i64 0, .int .i64 0, .string (⟨#[]⟩ : ByteArray)] 23 (0, 0))) ∧ (w'.heap[s_.2.2]? = some (.cells #[.int .i64 0, .int .i64 0, .string (⟨#[]⟩ : ByteArray)] 23 (0, 0))) ∧ (w.heap.size ≤ s_.2.1) ∧ (w.heap.size ≤ s_.2.1) ∧ (s_.2.2 ≠ s_.2.1) ∧ (s_.2.1 ≠ s_.2.2) ∧ (w.heap.size ≤ s_.2.2) ∧ (w.heap.size ≤ s_.2.2) ∧ (Below w.heap.size w w')) ?_ ?_
                   rotate_left
                   ·
                    intro hJ6_7_10_11
                    refine join_ (σ := Value × Nat × Nat × Nat) 5 (Steps.Bs 15 3711) (fun s_ => [(29, s_.1), (7, .pointer (some ⟨s_.2.1, 0, none⟩)), (8, .pointer (some ⟨s_.2.2.1, 0, none⟩)), (9, .pointer (some ⟨s_.2.2.2, 0, none⟩))]) (fun s_ w' => (Kd.R (Kd.int .u8) 5 w' w.heap.size (fun _ => True) s_.1 y437) ∧ (w'.heap[s_.2.1]? = some (.cells #[.int .i64 0, .int .i64 0, .string (⟨#[]⟩ : ByteArray)] 23 (0, 0))) ∧ (w'.heap[s_.2.2.1]? = some (.cells #[.int .i64 0, .int .i64 0, .string (⟨#[]⟩ : ByteArray)] 23 (0, 0))) ∧ (w'.heap[s_.2.2.2]? = some (.cells #[.int .i64 0, .int .i64 0, .string (⟨#[]⟩ : ByteArray)] 23 (0, 0))) ∧ (w.heap.size ≤ s_.2.1) ∧ (w.heap.size ≤ s_.2.1) ∧ (s_.2.2.1 ≠ s_.2.1) ∧ (s_.2.1 ≠ s_.2.2.1) ∧ (s_.2.2.2 ≠ s_.2.1) ∧ (s_.2.1 ≠ s_.2.2.2) ∧ (w.heap.size ≤ s_.2.2.1) ∧ (w.heap.size ≤ s_.2.2.1) ∧ (s_.2.2.2 ≠ s_.2.2.1) ∧ (s_.2.2.1 ≠ s_.2.2.2) ∧ (w.heap.size ≤ s_.2.2.2) ∧ (w.heap.size ≤ s_.2.2.2) ∧ (Below w.heap.size w w')) ?_ ?_
                    rotate_left
                    ·
                     intro hJ6_9_10_11
                     refine join_ (σ := Nat × Nat × Nat) 5 (Steps.Bs 15 7743) (fun s_ => [(7, .pointer (some ⟨s_.1, 0, none⟩)), (8, .pointer (some ⟨s_.2.1, 0, none⟩)), (9, .pointer (some ⟨s_.2.2, 0, none⟩))]) (fun s_ w' => (w'.heap[s_.1]? = some (.cells #[.int .i64 3, .int .i64 x5_2, .string (⟨#[]⟩ : ByteArray)] 23 (0, 0))) ∧ (w'.heap[s_.2.1]? = some (.cells #[.int .i64 0, .int .i64 0, .string (⟨#[]⟩ : ByteArray)] 23 (0, 0))) ∧ (w'.heap[s_.2.2]? = some (.cells #[.int .i64 0, .int .i64 0, .string (⟨#[]⟩ : ByteArray)] 23 (0, 0))) ∧ (w.heap.size ≤ s_.1) ∧ (w.heap.size ≤ s_.1) ∧ (s_.2.1 ≠ s_.1) ∧ (s_.1 ≠ s_.2.1) ∧ (s_.2.2 ≠ s_.1) ∧ (s_.1 ≠ s_.2.2) ∧ (w.heap.size ≤ s_.2.1) ∧ (w.heap.size ≤ s_.2.1) ∧ (s_.2.2 ≠ s_.2.1) ∧ (s_.2.1 ≠ s_.2.2) ∧ (w.heap.size ≤ s_.2.2) ∧ (w.heap.size ≤ s_.2.2) ∧ (Below w.heap.size w w')) ?_ ?_
                     rotate_left
                     ·
                      intro hJ9_10_11_12
                      refine join_ (σ := Value × Nat) 5 (Steps.Bs 15 1023) (fun s_ => [(29, s_.1), (30, .string (strOfNums y437)), (7, .pointer (some ⟨s_.2, 0, none⟩)), (31, .agg #[.int .i64 4, .int .i64 0, .string (strOfNums y437)])]) (fun s_ w' => (Kd.R (Kd.int .u8) 5 w' w.heap.size (fun _ => True) s_.1 y437) ∧ (w'.heap[s_.2]? = some (.cells #[.int .i64 0, .int .i64 0, .string (⟨#[]⟩ : ByteArray)] 23 (0, 0))) ∧ (w.heap.size ≤ s_.2) ∧ (w.heap.size ≤ s_.2) ∧ (Below w.heap.size w w')) ?_ ?_
                      rotate_left
                      ·
                       intro hJ6_7_9
                       refine join_ (σ := Value × Nat) 5 (Steps.Bs 15 1535) (fun s_ => [(29, s_.1), (30, .string (strOfNums y437)), (8, .pointer (some ⟨s_.2, 0, none⟩)), (31, .agg #[.int .i64 4, .int .i64 0, .string (strOfNums y437)])]) (fun s_ w' => (Kd.R (Kd.int .u8) 5 w' w.heap.size (fun _ => True) s_.1 y437) ∧ (w'.heap[s_.2]? = some (.cells #[.int .i64 0, .int .i64 0, .string (⟨#[]⟩ : ByteArray)] 23 (0, 0))) ∧ (w.heap.size ≤ s_.2) ∧ (w.heap.size ≤ s_.2) ∧ (Below w.heap.size w w')) ?_ ?_
                       rotate_left
                       ·
                        intro hJ6_7_10
                        refine join_ (σ := Value × Nat) 5 (Steps.Bs 15 2559) (fun s_ => [(29, s_.1), (30, .string (strOfNums y437)), (9, .pointer (some ⟨s_.2, 0, none⟩)), (31, .agg #[.int .i64 4, .int .i64 0, .string (strOfNums y437)])]) (fun s_ w' => (Kd.R (Kd.int .u8) 5 w' w.heap.size (fun _ => True) s_.1 y437) ∧ (w'.heap[s_.2]? = some (.cells #[.int .i64 0, .int .i64 0, .string (⟨#[]⟩ : ByteArray)] 23 (0, 0))) ∧ (w.heap.size ≤ s_.2) ∧ (w.heap.size ≤ s_.2) ∧ (Below w.heap.size w w')) ?_ ?_
                        rotate_left
                        ·
                         intro hJ6_7_11
                         refine join_ (σ := Value × Nat × Nat) 6 (Steps.Bs 15 1663) (fun s_ => [(29, s_.1), (7, .pointer (some ⟨s_.2.1, 0, none⟩)), (8, .pointer (some ⟨s_.2.2, 0, none⟩))]) (fun s_ w' => (Kd.R (Kd.int .u8) 5 w' w.heap.size (fun _ => True) s_.1 y437) ∧ (w'.heap[s_.2.1]? = some (.cells #[.int .i64 0, .int .i64 0, .string (⟨#[]⟩ : ByteArray)] 23 (0, 0))) ∧ (w'.heap[s_.2.2]? = some (.cells #[.int .i64 0, .int .i64 0, .string (⟨#[]⟩ : ByteArray)] 23 (0, 0))) ∧ (w.heap.size ≤ s_.2.1) ∧ (w.heap.size ≤ s_.2.1) ∧ (s_.2.2 ≠ s_.2.1) ∧ (s_.2.1 ≠ s_.2.2) ∧ (w.heap.size ≤ s_.2.2) ∧ (w.heap.size ≤ s_.2.2) ∧ (Below w.heap.size w w')) ?_ ?_
                         rotate_left
                         ·
                          intro hJ6_9_10
                          refine join_ (σ := Value × Nat × Nat) 6 (Steps.Bs 15 2687) (fun s_ => [(29, s_.1), (7, .pointer (some ⟨s_.2.1, 0, none⟩)), (9, .pointer (some ⟨s_.2.2, 0, none⟩))]) (fun s_ w' => (Kd.R (Kd.int .u8) 5 w' w.heap.size (fun _ => True) s_.1 y437) ∧ (w'.heap[s_.2.1]? = some (.cells #[.int .i64 0, .int .i64 0, .string (⟨#[]⟩ : ByteArray)] 23 (0, 0))) ∧ (w'.heap[s_.2.2]? = some (.cells #[.int .i64 0, .int .i64 0, .string (⟨#[]⟩ : ByteArray)] 23 (0, 0))) ∧ (w.heap.size ≤ s_.2.1) ∧ (w.heap.size ≤ s_.2.1) ∧ (s_.2.2 ≠ s_.2.1) ∧ (s_.2.1 ≠ s_.2.2) ∧ (w.heap.size ≤ s_.2.2) ∧ (w.heap.size ≤ s_.2.2) ∧ (Below w.heap.size w w')) ?_ ?_
                          rotate_left
                          ·
                           intro hJ6_9_11
                           refine join_ (σ := Value × Nat × Nat) 6 (Steps.Bs 15 3199) (fun s_ => [(29, s_.1), (8, .pointer (some ⟨s_.2.1, 0, none⟩)), (9, .pointer (some ⟨s_.2.2, 0, none⟩))]) (fun s_ w' => (Kd.R (Kd.int .u8) 5 w' w.heap.size (fun _ => True) s_.1 y437) ∧ (w'.heap[s_.2.1]? = some (.cells #[.int .i64 0, .int .i64 0, .string (⟨#[]⟩ : ByteArray)] 23 (0, 0))) ∧ (w'.heap[s_.2.2]? = some (.cells #[.int .i64 0, .int .i64 0, .string (⟨#[]⟩ : ByteArray)] 23 (0, 0))) ∧ (w.heap.size ≤ s_.2.1) ∧ (w.heap.size ≤ s_.2.1) ∧ (s_.2.2 ≠ s_.2.1) ∧ (s_.2.1 ≠ s_.2.2) ∧ (w.heap.size ≤ s_.2.2) ∧ (w.heap.size ≤ s_.2.2) ∧ (Below w.heap.size w w')) ?_ ?_
                           rotate_left
                           ·
                            intro hJ6_10_11
                            refine join_ (σ := Nat × Nat × Nat) 6 (Steps.Bs 15 3647) (fun s_ => [(7, .pointer (some ⟨s_.1, 0, none⟩)), (8, .pointer (some ⟨s_.2.1, 0, none⟩)), (9, .pointer (some ⟨s_.2.2, 0, none⟩))]) (fun s_ w' => (w'.heap[s_.1]? = some (.cells #[.int .i64 0, .int .i64 0, .string (⟨#[]⟩ : ByteArray)] 23 (0, 0))) ∧ (w'.heap[s_.2.1]? = some (.cells #[.int .i64 0, .int .i64 0, .string (⟨#[]⟩ : ByteArray)] 23 (0, 0))) ∧ (w'.heap[s_.2.2]? = some (.cells #[.int .i64 0, .int .i64 0, .string (⟨#[]⟩ : ByteArray)] 23 (0, 0))) ∧ (w.heap.size ≤ s_.1) ∧ (w.heap.size ≤ s_.1) ∧ (s_.2.1 ≠ s_.1) ∧ (s_.1 ≠ s_.2.1) ∧ (s_.2.2 ≠ s_.1) ∧ (s_.1 ≠ s_.2.2) ∧ (w.heap.size ≤ s_.2.1) ∧ (w.heap.size ≤ s_.2.1) ∧ (s_.2.2 ≠ s_.2.1) ∧ (s_.2.1 ≠ s_.2.2) ∧ (w.heap.size ≤ s_.2.2) ∧ (w.heap.size ≤ s_.2.2) ∧ (Below w.heap.size w w')) ?_ ?_
                            rotate_left
                            ·
                             intro hJ9_10_11
                             refine join_ (σ := Value) 6 (Steps.Bs 15 511) (fun s_ => [(29, s_), (30, .string (strOfNums y437)), (31, .agg #[.int .i64 4, .int .i64 0, .string (strOfNums y437)])]) (fun s_ w' => (Kd.R (Kd.int .u8) 5 w' w.heap.size (fun _ => True) s_ y437) ∧ (Below w.heap.size w w')) ?_ ?_
                             rotate_left
                             ·
                              intro hJ6_7
                              refine join_ (σ := Value × Nat) 7 (Steps.Bs 15 639) (fun s_ => [(29, s_.1), (7, .pointer (some ⟨s_.2, 0, none⟩))]) (fun s_ w' => (Kd.R (Kd.int .u8) 5 w' w.heap.size (fun _ => True) s_.1 y437) ∧ (w'.heap[s_.2]? = some (.cells #[.int .i64 0, .int .i64 0, .string (⟨#[]⟩ : ByteArray)] 23 (0, 0))) ∧ (w.heap.size ≤ s_.2) ∧ (w.heap.size ≤ s_.2) ∧ (Below w.heap.size w w')) ?_ ?_
                              rotate_left
                              ·
                               intro hJ6_9
                               refine join_ (σ := Value × Nat) 7 (Steps.Bs 15 1151) (fun s_ => [(29, s_.1), (8, .pointer (some ⟨s_.2, 0, none⟩))]) (fun s_ w' => (Kd.R (Kd.int .u8) 5 w' w.heap.size (fun _ => True) s_.1 y437) ∧ (w'.heap[s_.2]? = some (.cells #[.int .i64 0, .int .i64 0, .string (⟨#[]⟩ : ByteArray)] 23 (0, 0))) ∧ (w.heap.size ≤ s_.2) ∧ (w.heap.size ≤ s_.2) ∧ (Below w.heap.size w w')) ?_ ?_
                               rotate_left
                               ·
                                intro hJ6_10
                                refine join_ (σ := Value × Nat) 7 (Steps.Bs 15 2175) (fun s_ => [(29, s_.1), (9, .pointer (some ⟨s_.2, 0, none⟩))]) (fun s_ w' => (Kd.R (Kd.int .u8) 5 w' w.heap.size (fun _ => True) s_.1 y437) ∧ (w'.heap[s_.2]? = some (.cells #[.int .i64 0, .int .i64 0, .string (⟨#[]⟩ : ByteArray)] 23 (0, 0))) ∧ (w.heap.size ≤ s_.2) ∧ (w.heap.size ≤ s_.2) ∧ (Below w.heap.size w w')) ?_ ?_
                                rotate_left
                                ·
                                 intro hJ6_11
                                 refine join_ (σ := Nat × Nat) 7 (Steps.Bs 15 1599) (fun s_ => [(7, .pointer (some ⟨s_.1, 0, none⟩)), (8, .pointer (some ⟨s_.2, 0, none⟩))]) (fun s_ w' => (w'.heap[s_.1]? = some (.cells #[.int .i64 0, .int .i64 0, .string (⟨#[]⟩ : ByteArray)] 23 (0, 0))) ∧ (w'.heap[s_.2]? = some (.cells #[.int .i64 0, .int .i64 0, .string (⟨#[]⟩ : ByteArray)] 23 (0, 0))) ∧ (w.heap.size ≤ s_.1) ∧ (w.heap.size ≤ s_.1) ∧ (s_.2 ≠ s_.1) ∧ (s_.1 ≠ s_.2) ∧ (w.heap.size ≤ s_.2) ∧ (w.heap.size ≤ s_.2) ∧ (Below w.heap.size w w')) ?_ ?_
                                 rotate_left
                                 ·
                                  intro hJ9_10
                                  refine join_ (σ := Nat × Nat) 7 (Steps.Bs 15 2623) (fun s_ => [(7, .pointer (some ⟨s_.1, 0, none⟩)), (9, .pointer (some ⟨s_.2, 0, none⟩))]) (fun s_ w' => (w'.heap[s_.1]? = some (.cells #[.int .i64 0, .int .i64 0, .string (⟨#[]⟩ : ByteArray)] 23 (0, 0))) ∧ (w'.heap[s_.2]? = some (.cells #[.int .i64 0, .int .i64 0, .string (⟨#[]⟩ : ByteArray)] 23 (0, 0))) ∧ (w.heap.size ≤ s_.1) ∧ (w.heap.size ≤ s_.1) ∧ (s_.2 ≠ s_.1) ∧ (s_.1 ≠ s_.2) ∧ (w.heap.size ≤ s_.2) ∧ (w.heap.size ≤ s_.2) ∧ (Below w.heap.size w w')) ?_ ?_
                                  rotate_left
                                  ·
                                   intro hJ9_11
                                   refine join_ (σ := Nat × Nat) 7 (Steps.Bs 15 3135) (fun s_ => [(8, .pointer (some ⟨s_.1, 0, none⟩)), (9, .pointer (some ⟨s_.2, 0, none⟩))]) (fun s_ w' => (w'.heap[s_.1]? = some (.cells #[.int .i64 0, .int .i64 0, .string (⟨#[]⟩ : ByteArray)] 23 (0, 0))) ∧ (w'.heap[s_.2]? = some (.cells #[.int .i64 0, .int .i64 0, .string (⟨#[]⟩ : ByteArray)] 23 (0, 0))) ∧ (w.heap.size ≤ s_.1) ∧ (w.heap.size ≤ s_.1) ∧ (s_.2 ≠ s_.1) ∧ (s_.1 ≠ s_.2) ∧ (w.heap.size ≤ s_.2) ∧ (w.heap.size ≤ s_.2) ∧ (Below w.heap.size w w')) ?_ ?_
                                   rotate_left
                                   ·
                                    intro hJ10_11
                                    refine join_ (σ := Value) 8 (Steps.Bs 15 127) (fun s_ => [(29, s_)]) (fun s_ w' => (Kd.R (Kd.int .u8) 5 w' w.heap.size (fun _ => True) s_ y437) ∧ (Below w.heap.size w w')) ?_ ?_
                                    rotate_left
                                    ·
                                     intro hJ6
                                     refine join_ (σ := Nat) 8 (Steps.Bs 15 575) (fun s_ => [(7, .pointer (some ⟨s_, 0, none⟩))]) (fun s_ w' => (w'.heap[s_]? = some (.cells #[.int .i64 0, .int .i64 0, .string (⟨#[]⟩ : ByteArray)] 23 (0, 0))) ∧ (w.heap.size ≤ s_) ∧ (w.heap.size ≤ s_) ∧ (Below w.heap.size w w')) ?_ ?_
                                     rotate_left
                                     ·
                                      intro hJ9
                                      refine join_ (σ := Nat) 8 (Steps.Bs 15 1087) (fun s_ => [(8, .pointer (some ⟨s_, 0, none⟩))]) (fun s_ w' => (w'.heap[s_]? = some (.cells #[.int .i64 0, .int .i64 0, .string (⟨#[]⟩ : ByteArray)] 23 (0, 0))) ∧ (w.heap.size ≤ s_) ∧ (w.heap.size ≤ s_) ∧ (Below w.heap.size w w')) ?_ ?_
                                      rotate_left
                                      ·
                                       intro hJ10
                                       refine join_ (σ := Nat) 8 (Steps.Bs 15 2111) (fun s_ => [(9, .pointer (some ⟨s_, 0, none⟩))]) (fun s_ w' => (w'.heap[s_]? = some (.cells #[.int .i64 0, .int .i64 0, .string (⟨#[]⟩ : ByteArray)] 23 (0, 0))) ∧ (w.heap.size ≤ s_) ∧ (w.heap.size ≤ s_) ∧ (Below w.heap.size w w')) ?_ ?_
                                       rotate_left
                                       ·
                                        intro hJ11
                                        refine four_ (i := 6) (j := 9) (k := 10) (m := 11) (Ni := some 29) (Nj := some 7) (Nk := some 8) (Nm := some 9) (Steps.Bs 15 127) (Steps.Bs 15 575) (Steps.Bs 15 1087) (Steps.Bs 15 2111) rfl rfl rfl rfl rfl rfl rfl rfl (four_of HT_.out (by kernel_rfl)) (by decide) (by decide) (by decide) (by decide) (fun K hK => ?_) (fun K hK => ?_) (fun K hK => ?_) (fun K hK => ?_)
                                        ·
                                         skip
                                         refine Kd.R_make_step (Kd.int .u8) _ 5 (by rfl) (N := 29) rfl 26 _ _ rfl ji5 rfl rfl Try.underlying26 (.int .u8 0) 1 info5 rfl (by decide) (by omega) 0 (ok := fun _ => True) (okp := fun _ => True) rfl (fun _ hk => hk) trivial (of_decide_eq_true (by first | (with_reducible assumption) | assumption)) (Nat.le_trans (Nat.mul_le_mul_right _ (of_decide_eq_true (by first | (with_reducible assumption) | assumption) : ji5.toNat ≤ 281474976710656)) (by omega)) (Below.refl _ _) (Nat.le_refl _) ?_
                                         intro v438 w22 ho23 hb hg_ hnew_
                                         clear hg_ hnew_
                                         (first | rw [← Ny437.out] at ho23 | (simp only [Int.reduceToNat] at ho23; rw [← Ny437.out] at ho23))
                                         have n0_ := Aside0.mk (Kd.R_lower ho23 (below_size (Short.hB HB)))
                                         have n1_ := Aside0.mk (below_step (Short.hB HB) hb)
                                         clear HB
                                         have HO439 := n0_
                                         have HB := n1_
                                         clear n0_ n1_
                                         clear hb ho23
                                         refine hK.out _ _ trivial (fun hHeld => ?_)
                                         clear hK K
                                         refine norm_ (a' := ?_) ?_ ?_
                                         rotate_left
                                         ·
                                          show Act.put _ (some 29) _ = _
                                          simp only [Act.put, List.setIfInBounds_toArray, List.set_cons_zero, List.set_cons_succ, i64_w, i32_w]
                                          rfl
                                         exact ShortB.nE (hJ6 (v438) _ ⟨(ShortB.rK HO439), (Short.hB HB)⟩)
                                        ·
                                         skip
                                         refine box_step ?hg (N := 7) ?hd (cs := #[.int .i64 0, .int .i64 0, .string (⟨#[]⟩ : ByteArray)]) (t := 23) ?hr ?_; (case hd => rfl); (case hg => rfl); (case hr => first | (go_simp; done) | (go_simp; rfl))
                                         intro gb440 hg w22 hbox hb
                                         have n0_ := Aside0.mk (below_step (Short.hB HB) hb)
                                         have n1_ := Aside0.mk (hbox)
                                         have n2_ := Aside0.mk ((by rw [hg]; exact (below_size (Short.hB HB)) : w.heap.size ≤ gb440))
                                         have n3_ := Aside0.mk ((by rw [hg]; exact (below_size (Short.hB HB)) : w.heap.size ≤ gb440))
                                         clear HB
                                         have HB := n0_
                                         have BK440 := n1_
                                         have GW440 := n2_
                                         have GE440 := n3_
                                         clear n0_ n1_ n2_ n3_
                                         clear hb hbox hg
                                         refine hK.out _ _ trivial (fun hHeld => ?_)
                                         clear hK K
                                         refine norm_ (a' := ?_) ?_ ?_
                                         rotate_left
                                         ·
                                          show Act.put _ (some 7) _ = _
                                          simp only [Act.put, List.setIfInBounds_toArray, List.set_cons_zero, List.set_cons_succ, i64_w, i32_w]
                                          rfl
                                         exact ShortB.nE (hJ9 (gb440) _ ⟨(Short.bK BK440), GW440.out, GE440.out, (Short.hB HB)⟩)
                                        ·
                                         skip
                                         refine box_step ?hg (N := 8) ?hd (cs := #[.int .i64 0, .int .i64 0, .string (⟨#[]⟩ : ByteArray)]) (t := 23) ?hr ?_; (case hd => rfl); (case hg => rfl); (case hr => first | (go_simp; done) | (go_simp; rfl))
                                         intro gb441 hg w22 hbox hb
                                         have n0_ := Aside0.mk (below_step (Short.hB HB) hb)
                                         have n1_ := Aside0.mk (hbox)
                                         have n2_ := Aside0.mk ((by rw [hg]; exact (below_size (Short.hB HB)) : w.heap.size ≤ gb441))
                                         have n3_ := Aside0.mk ((by rw [hg]; exact (below_size (Short.hB HB)) : w.heap.size ≤ gb441))
                                         clear HB
                                         have HB := n0_
                                         have BK441 := n1_
                                         have GW441 := n2_
                                         have GE441 := n3_
                                         clear n0_ n1_ n2_ n3_
                                         clear hb hbox hg
                                         refine hK.out _ _ trivial (fun hHeld => ?_)
                                         clear hK K
                                         refine norm_ (a' := ?_) ?_ ?_
                                         rotate_left
                                         ·
                                          show Act.put _ (some 8) _ = _
                                          simp only [Act.put, List.setIfInBounds_toArray, List.set_cons_zero, List.set_cons_succ, i64_w, i32_w]
                                          rfl
                                         exact ShortB.nE (hJ10 (gb441) _ ⟨(Short.bK BK441), GW441.out, GE441.out, (Short.hB HB)⟩)
                                        ·
                                         skip
                                         refine box_step ?hg (N := 9) ?hd (cs := #[.int .i64 0, .int .i64 0, .string (⟨#[]⟩ : ByteArray)]) (t := 23) ?hr ?_; (case hd => rfl); (case hg => rfl); (case hr => first | (go_simp; done) | (go_simp; rfl))
                                         intro gb442 hg w22 hbox hb
                                         have n0_ := Aside0.mk (below_step (Short.hB HB) hb)
                                         have n1_ := Aside0.mk (hbox)
                                         have n2_ := Aside0.mk ((by rw [hg]; exact (below_size (Short.hB HB)) : w.heap.size ≤ gb442))
                                         have n3_ := Aside0.mk ((by rw [hg]; exact (below_size (Short.hB HB)) : w.heap.size ≤ gb442))
                                         clear HB
                                         have HB := n0_
                                         have BK442 := n1_
                                         have GW442 := n2_
                                         have GE442 := n3_
                                         clear n0_ n1_ n2_ n3_
                                         clear hb hbox hg
                                         refine hK.out _ _ trivial (fun hHeld => ?_)
                                         clear hK K
                                         refine norm_ (a' := ?_) ?_ ?_
                                         rotate_left
                                         ·
                                          show Act.put _ (some 9) _ = _
                                          simp only [Act.put, List.setIfInBounds_toArray, List.set_cons_zero, List.set_cons_succ, i64_w, i32_w]
                                          rfl
                                         exact ShortB.nE (hJ11 (gb442) _ ⟨(Short.bK BK442), GW442.out, GE442.out, (Short.hB HB)⟩)
                                       ·
                                        skip
                                        rintro gb442 w23 ⟨h0_, h1_, h2_, h3_⟩
                                        have n0_ : Aside0 (w23.heap[gb442]? = some (.cells #[.int .i64 0, .int .i64 0, .string (⟨#[]⟩ : ByteArray)] 23 (0, 0))) := ⟨h0_⟩
                                        have n1_ : Aside0 (w.heap.size ≤ gb442) := ⟨h1_⟩
                                        have n2_ : Aside0 (w.heap.size ≤ gb442) := ⟨h2_⟩
                                        have n3_ : Aside0 (Below w.heap.size w w23) := ⟨h3_⟩
                                        clear HB
                                        clear h0_ h1_ h2_ h3_
                                        have BK442 := n0_
                                        have GW442 := n1_
                                        have GE442 := n2_
                                        have HB := n3_
                                        clear n0_ n1_ n2_ n3_
                                        have hHeld := trivial
                                        refine norm_ (a' := ?_) ?_ ?_
                                        rotate_left
                                        ·
                                         simp only [putAll, Act.put, List.setIfInBounds_toArray, List.set_cons_zero, List.set_cons_succ]
                                         rfl
                                        refine three_ (i := 6) (j := 9) (k := 10) (Ni := some 29) (Nj := some 7) (Nk := some 8) (Steps.Bs 15 2175) (Steps.Bs 15 2623) (Steps.Bs 15 3135) rfl rfl rfl rfl rfl rfl (three_of HT_.out (by kernel_rfl)) (by decide) (by decide) (by decide) (fun K hK => ?_) (fun K hK => ?_) (fun K hK => ?_)
                                        ·
                                         skip
                                         refine Kd.R_make_step (Kd.int .u8) _ 5 (by rfl) (N := 29) rfl 26 _ _ rfl ji5 rfl rfl Try.underlying26 (.int .u8 0) 1 info5 rfl (by decide) (by omega) 0 (ok := fun _ => True) (okp := fun _ => True) rfl (fun _ hk => hk) trivial (of_decide_eq_true (by first | (with_reducible assumption) | assumption)) (Nat.le_trans (Nat.mul_le_mul_right _ (of_decide_eq_true (by first | (with_reducible assumption) | assumption) : ji5.toNat ≤ 281474976710656)) (by omega)) (Below.refl _ _) (Nat.le_refl _) ?_
                                         intro v438 w24 ho25 hb hg_ hnew_
                                         clear hg_ hnew_
                                         (first | rw [← Ny437.out] at ho25 | (simp only [Int.reduceToNat] at ho25; rw [← Ny437.out] at ho25))
                                         have n0_ := Aside0.mk (Kd.R_lower ho25 (below_size (Short.hB HB)))
                                         have n1_ := Aside0.mk (blk_below (g := gb442) (o := .cells #[.int .i64 0, .int .i64 0, .string (⟨#[]⟩ : ByteArray)] 23 (0, 0)) (Short.bK BK442) hb)
                                         have n2_ := Aside0.mk (below_step (Short.hB HB) hb)
                                         clear BK442
                                         clear HB
                                         have HO439 := n0_
                                         have BK442 := n1_
                                         have HB := n2_
                                         clear n0_ n1_ n2_
                                         clear hb ho25
                                         refine hK.out _ _ trivial (fun hHeld => ?_)
                                         clear hK K
                                         refine norm_ (a' := ?_) ?_ ?_
                                         rotate_left
                                         ·
                                          show Act.put _ (some 29) _ = _
                                          simp only [Act.put, List.setIfInBounds_toArray, List.set_cons_zero, List.set_cons_succ, i64_w, i32_w]
                                          rfl
                                         exact ShortB.nE (hJ6_11 (v438, gb442) _ ⟨(ShortB.rK HO439), (Short.bK BK442), GW442.out, GE442.out, (Short.hB HB)⟩)
                                        ·
                                         skip
                                         refine box_step ?hg (N := 7) ?hd (cs := #[.int .i64 0, .int .i64 0, .string (⟨#[]⟩ : ByteArray)]) (t := 23) ?hr ?_; (case hd => rfl); (case hg => rfl); (case hr => first | (go_simp; done) | (go_simp; rfl))
                                         intro gb440 hg w24 hbox hb
                                         have n0_ := Aside0.mk (blk_below (g := gb442) (o := .cells #[.int .i64 0, .int .i64 0, .string (⟨#[]⟩ : ByteArray)] 23 (0, 0)) (Short.bK BK442) hb)
                                         have n1_ := Aside0.mk (below_step (Short.hB HB) hb)
                                         have n2_ := Aside0.mk (hbox)
                                         have n3_ := Aside0.mk ((by rw [hg]; exact (below_size (Short.hB HB)) : w.heap.size ≤ gb440))
                                         have n4_ := Aside0.mk ((by rw [hg]; exact (below_size (Short.hB HB)) : w.heap.size ≤ gb440))
                                         have n5_ := Aside0.mk ((by rw [hg]; exact Nat.ne_of_lt (blk_lt (g := gb442) (o := .cells #[.int .i64 0, .int .i64 0, .string (⟨#[]⟩ : ByteArray)] 23 (0, 0)) (Short.bK BK442)) : gb442 ≠ gb440))
                                         have n6_ := Aside0.mk ((by rw [hg]; exact Nat.ne_of_gt (blk_lt (g := gb442) (o := .cells #[.int .i64 0, .int .i64 0, .string (⟨#[]⟩ : ByteArray)] 23 (0, 0)) (Short.bK BK442)) : gb440 ≠ gb442))
                                         clear BK442
                                         clear HB
                                         have BK442 := n0_
                                         have HB := n1_
                                         have BK440 := n2_
                                         have GW440 := n3_
                                         have GE440 := n4_
                                         have NB442_440 := n5_
                                         have NB440_442 := n6_
                                         clear n0_ n1_ n2_ n3_ n4_ n5_ n6_
                                         clear hb hbox hg
                                         refine hK.out _ _ trivial (fun hHeld => ?_)
                                         clear hK K
                                         refine norm_ (a' := ?_) ?_ ?_
                                         rotate_left
                                         ·
                                          show Act.put _ (some 7) _ = _
                                          simp only [Act.put, List.setIfInBounds_toArray, List.set_cons_zero, List.set_cons_succ, i64_w, i32_w]
                                          rfl
                                         exact ShortB.nE (hJ9_11 (gb440, gb442) _ ⟨(Short.bK BK440), (Short.bK BK442), GW440.out, GE440.out, NB442_440.out, NB440_442.out, GW442.out, GE442.out, (Short.hB HB)⟩)
                                        ·
                                         skip
                                         refine box_step ?hg (N := 8) ?hd (cs := #[.int .i64 0, .int .i64 0, .string (⟨#[]⟩ : ByteArray)]) (t := 23) ?hr ?_; (case hd => rfl); (case hg => rfl); (case hr => first | (go_simp; done) | (go_simp; rfl))
                                         intro gb441 hg w24 hbox hb
                                         have n0_ := Aside0.mk (blk_below (g := gb442) (o := .cells #[.int .i64 0, .int .i64 0, .string (⟨#[]⟩ : ByteArray)] 23 (0, 0)) (Short.bK BK442) hb)
                                         have n1_ := Aside0.mk (below_step (Short.hB HB) hb)
                                         have n2_ := Aside0.mk (hbox)
                                         have n3_ := Aside0.mk ((by rw [hg]; exact (below_size (Short.hB HB)) : w.heap.size ≤ gb441))
                                         have n4_ := Aside0.mk ((by rw [hg]; exact (below_size (Short.hB HB)) : w.heap.size ≤ gb441))
                                         have n5_ := Aside0.mk ((by rw [hg]; exact Nat.ne_of_lt (blk_lt (g := gb442) (o := .cells #[.int .i64 0, .int .i64 0, .string (⟨#[]⟩ : ByteArray)] 23 (0, 0)) (Short.bK BK442)) : gb442 ≠ gb441))
                                         have n6_ := Aside0.mk ((by rw [hg]; exact Nat.ne_of_gt (blk_lt (g := gb442) (o := .cells #[.int .i64 0, .int .i64 0, .string (⟨#[]⟩ : ByteArray)] 23 (0, 0)) (Short.bK BK442)) : gb441 ≠ gb442))
                                         clear BK442
                                         clear HB
                                         have BK442 := n0_
                                         have HB := n1_
                                         have BK441 := n2_
                                         have GW441 := n3_
                                         have GE441 := n4_
                                         have NB442_441 := n5_
                                         have NB441_442 := n6_
                                         clear n0_ n1_ n2_ n3_ n4_ n5_ n6_
                                         clear hb hbox hg
                                         refine hK.out _ _ trivial (fun hHeld => ?_)
                                         clear hK K
                                         refine norm_ (a' := ?_) ?_ ?_
                                         rotate_left
                                         ·
                                          show Act.put _ (some 8) _ = _
                                          simp only [Act.put, List.setIfInBounds_toArray, List.set_cons_zero, List.set_cons_succ, i64_w, i32_w]
                                          rfl
                                         exact ShortB.nE (hJ10_11 (gb441, gb442) _ ⟨(Short.bK BK441), (Short.bK BK442), GW441.out, GE441.out, NB442_441.out, NB441_442.out, GW442.out, GE442.out, (Short.hB HB)⟩)
                                      ·
                                       skip
                                       rintro gb441 w23 ⟨h0_, h1_, h2_, h3_⟩
                                       have n0_ : Aside0 (w23.heap[gb441]? = some (.cells #[.int .i64 0, .int .i64 0, .string (⟨#[]⟩ : ByteArray)] 23 (0, 0))) := ⟨h0_⟩
                                       have n1_ : Aside0 (w.heap.size ≤ gb441) := ⟨h1_⟩
                                       have n2_ : Aside0 (w.heap.size ≤ gb441) := ⟨h2_⟩
                                       have n3_ : Aside0 (Below w.heap.size w w23) := ⟨h3_⟩
                                       clear HB
                                       clear h0_ h1_ h2_ h3_
                                       have BK441 := n0_
                                       have GW441 := n1_
                                       have GE441 := n2_
                                       have HB := n3_
                                       clear n0_ n1_ n2_ n3_
                                       have hHeld := trivial
                                       refine norm_ (a' := ?_) ?_ ?_
                                       rotate_left
                                       ·
                                        simp only [putAll, Act.put, List.setIfInBounds_toArray, List.set_cons_zero, List.set_cons_succ]
                                        rfl
                                       refine three_ (i := 6) (j := 9) (k := 11) (Ni := some 29) (Nj := some 7) (Nk := some 9) (Steps.Bs 15 1151) (Steps.Bs 15 1599) (Steps.Bs 15 3135) rfl rfl rfl rfl rfl rfl (three_of HT_.out (by kernel_rfl)) (by decide) (by decide) (by decide) (fun K hK => ?_) (fun K hK => ?_) (fun K hK => ?_)
                                       ·
                                        skip
                                        refine Kd.R_make_step (Kd.int .u8) _ 5 (by rfl) (N := 29) rfl 26 _ _ rfl ji5 rfl rfl Try.underlying26 (.int .u8 0) 1 info5 rfl (by decide) (by omega) 0 (ok := fun _ => True) (okp := fun _ => True) rfl (fun _ hk => hk) trivial (of_decide_eq_true (by first | (with_reducible assumption) | assumption)) (Nat.le_trans (Nat.mul_le_mul_right _ (of_decide_eq_true (by first | (with_reducible assumption) | assumption) : ji5.toNat ≤ 281474976710656)) (by omega)) (Below.refl _ _) (Nat.le_refl _) ?_
                                        intro v438 w24 ho25 hb hg_ hnew_
                                        clear hg_ hnew_
                                        (first | rw [← Ny437.out] at ho25 | (simp only [Int.reduceToNat] at ho25; rw [← Ny437.out] at ho25))
                                        have n0_ := Aside0.mk (Kd.R_lower ho25 (below_size (Short.hB HB)))
                                        have n1_ := Aside0.mk (blk_below (g := gb441) (o := .cells #[.int .i64 0, .int .i64 0, .string (⟨#[]⟩ : ByteArray)] 23 (0, 0)) (Short.bK BK441) hb)
                                        have n2_ := Aside0.mk (below_step (Short.hB HB) hb)
                                        clear BK441
                                        clear HB
                                        have HO439 := n0_
                                        have BK441 := n1_
                                        have HB := n2_
                                        clear n0_ n1_ n2_
                                        clear hb ho25
                                        refine hK.out _ _ trivial (fun hHeld => ?_)
                                        clear hK K
                                        refine norm_ (a' := ?_) ?_ ?_
                                        rotate_left
                                        ·
                                         show Act.put _ (some 29) _ = _
                                         simp only [Act.put, List.setIfInBounds_toArray, List.set_cons_zero, List.set_cons_succ, i64_w, i32_w]
                                         rfl
                                        exact ShortB.nE (hJ6_10 (v438, gb441) _ ⟨(ShortB.rK HO439), (Short.bK BK441), GW441.out, GE441.out, (Short.hB HB)⟩)
                                       ·
                                        skip
                                        refine box_step ?hg (N := 7) ?hd (cs := #[.int .i64 0, .int .i64 0, .string (⟨#[]⟩ : ByteArray)]) (t := 23) ?hr ?_; (case hd => rfl); (case hg => rfl); (case hr => first | (go_simp; done) | (go_simp; rfl))
                                        intro gb440 hg w24 hbox hb
                                        have n0_ := Aside0.mk (blk_below (g := gb441) (o := .cells #[.int .i64 0, .int .i64 0, .string (⟨#[]⟩ : ByteArray)] 23 (0, 0)) (Short.bK BK441) hb)
                                        have n1_ := Aside0.mk (below_step (Short.hB HB) hb)
                                        have n2_ := Aside0.mk (hbox)
                                        have n3_ := Aside0.mk ((by rw [hg]; exact (below_size (Short.hB HB)) : w.heap.size ≤ gb440))
                                        have n4_ := Aside0.mk ((by rw [hg]; exact (below_size (Short.hB HB)) : w.heap.size ≤ gb440))
                                        have n5_ := Aside0.mk ((by rw [hg]; exact Nat.ne_of_lt (blk_lt (g := gb441) (o := .cells #[.int .i64 0, .int .i64 0, .string (⟨#[]⟩ : ByteArray)] 23 (0, 0)) (Short.bK BK441)) : gb441 ≠ gb440))
                                        have n6_ := Aside0.mk ((by rw [hg]; exact Nat.ne_of_gt (blk_lt (g := gb441) (o := .cells #[.int .i64 0, .int .i64 0, .string (⟨#[]⟩ : ByteArray)] 23 (0, 0)) (Short.bK BK441)) : gb440 ≠ gb441))
                                        clear BK441
                                        clear HB
                                        have BK441 := n0_
                                        have HB := n1_
                                        have BK440 := n2_
                                        have GW440 := n3_
                                        have GE440 := n4_
                                        have NB441_440 := n5_
                                        have NB440_441 := n6_
                                        clear n0_ n1_ n2_ n3_ n4_ n5_ n6_
                                        clear hb hbox hg
                                        refine hK.out _ _ trivial (fun hHeld => ?_)
                                        clear hK K
                                        refine norm_ (a' := ?_) ?_ ?_
                                        rotate_left
                                        ·
                                         show Act.put _ (some 7) _ = _
                                         simp only [Act.put, List.setIfInBounds_toArray, List.set_cons_zero, List.set_cons_succ, i64_w, i32_w]
                                         rfl
                                        exact ShortB.nE (hJ9_10 (gb440, gb441) _ ⟨(Short.bK BK440), (Short.bK BK441), GW440.out, GE440.out, NB441_440.out, NB440_441.out, GW441.out, GE441.out, (Short.hB HB)⟩)
                                       ·
                                        skip
                                        refine box_step ?hg (N := 9) ?hd (cs := #[.int .i64 0, .int .i64 0, .string (⟨#[]⟩ : ByteArray)]) (t := 23) ?hr ?_; (case hd => rfl); (case hg => rfl); (case hr => first | (go_simp; done) | (go_simp; rfl))
                                        intro gb442 hg w24 hbox hb
                                        have n0_ := Aside0.mk (blk_below (g := gb441) (o := .cells #[.int .i64 0, .int .i64 0, .string (⟨#[]⟩ : ByteArray)] 23 (0, 0)) (Short.bK BK441) hb)
                                        have n1_ := Aside0.mk (below_step (Short.hB HB) hb)
                                        have n2_ := Aside0.mk (hbox)
                                        have n3_ := Aside0.mk ((by rw [hg]; exact (below_size (Short.hB HB)) : w.heap.size ≤ gb442))
                                        have n4_ := Aside0.mk ((by rw [hg]; exact (below_size (Short.hB HB)) : w.heap.size ≤ gb442))
                                        have n5_ := Aside0.mk ((by rw [hg]; exact Nat.ne_of_lt (blk_lt (g := gb441) (o := .cells #[.int .i64 0, .int .i64 0, .string (⟨#[]⟩ : ByteArray)] 23 (0, 0)) (Short.bK BK441)) : gb441 ≠ gb442))
                                        have n6_ := Aside0.mk ((by rw [hg]; exact Nat.ne_of_gt (blk_lt (g := gb441) (o := .cells #[.int .i64 0, .int .i64 0, .string (⟨#[]⟩ : ByteArray)] 23 (0, 0)) (Short.bK BK441)) : gb442 ≠ gb441))
                                        clear BK441
                                        clear HB
                                        have BK441 := n0_
                                        have HB := n1_
                                        have BK442 := n2_
                                        have GW442 := n3_
                                        have GE442 := n4_
                                        have NB441_442 := n5_
                                        have NB442_441 := n6_
                                        clear n0_ n1_ n2_ n3_ n4_ n5_ n6_
                                        clear hb hbox hg
                                        refine hK.out _ _ trivial (fun hHeld => ?_)
                                        clear hK K
                                        refine norm_ (a' := ?_) ?_ ?_
                                        rotate_left
                                        ·
                                         show Act.put _ (some 9) _ = _
                                         simp only [Act.put, List.setIfInBounds_toArray, List.set_cons_zero, List.set_cons_succ, i64_w, i32_w]
                                         rfl
                                        exact ShortB.nE (hJ10_11 (gb441, gb442) _ ⟨(Short.bK BK441), (Short.bK BK442), GW441.out, GE441.out, NB442_441.out, NB441_442.out, GW442.out, GE442.out, (Short.hB HB)⟩)
                                     ·
                                      skip
                                      rintro gb440 w23 ⟨h0_, h1_, h2_, h3_⟩
                                      have n0_ : Aside0 (w23.heap[gb440]? = some (.cells #[.int .i64 0, .int .i64 0, .string (⟨#[]⟩ : ByteArray)] 23 (0, 0))) := ⟨h0_⟩
                                      have n1_ : Aside0 (w.heap.size ≤ gb440) := ⟨h1_⟩
                                      have n2_ : Aside0 (w.heap.size ≤ gb440) := ⟨h2_⟩
                                      have n3_ : Aside0 (Below w.heap.size w w23) := ⟨h3_⟩
                                      clear HB
                                      clear h0_ h1_ h2_ h3_
                                      have BK440 := n0_
                                      have GW440 := n1_
                                      have GE440 := n2_
                                      have HB := n3_
                                      clear n0_ n1_ n2_ n3_
                                      have hHeld := trivial
                                      refine norm_ (a' := ?_) ?_ ?_
                                      rotate_left
                                      ·
                                       simp only [putAll, Act.put, List.setIfInBounds_toArray, List.set_cons_zero, List.set_cons_succ]
                                       rfl
                                      refine three_ (i := 6) (j := 10) (k := 11) (Ni := some 29) (Nj := some 8) (Nk := some 9) (Steps.Bs 15 639) (Steps.Bs 15 1599) (Steps.Bs 15 2623) rfl rfl rfl rfl rfl rfl (three_of HT_.out (by kernel_rfl)) (by decide) (by decide) (by decide) (fun K hK => ?_) (fun K hK => ?_) (fun K hK => ?_)
                                      ·
                                       skip
                                       refine Kd.R_make_step (Kd.int .u8) _ 5 (by rfl) (N := 29) rfl 26 _ _ rfl ji5 rfl rfl Try.underlying26 (.int .u8 0) 1 info5 rfl (by decide) (by omega) 0 (ok := fun _ => True) (okp := fun _ => True) rfl (fun _ hk => hk) trivial (of_decide_eq_true (by first | (with_reducible assumption) | assumption)) (Nat.le_trans (Nat.mul_le_mul_right _ (of_decide_eq_true (by first | (with_reducible assumption) | assumption) : ji5.toNat ≤ 281474976710656)) (by omega)) (Below.refl _ _) (Nat.le_refl _) ?_
                                       intro v438 w24 ho25 hb hg_ hnew_
                                       clear hg_ hnew_
                                       (first | rw [← Ny437.out] at ho25 | (simp only [Int.reduceToNat] at ho25; rw [← Ny437.out] at ho25))
                                       have n0_ := Aside0.mk (Kd.R_lower ho25 (below_size (Short.hB HB)))
                                       have n1_ := Aside0.mk (blk_below (g := gb440) (o := .cells #[.int .i64 0, .int .i64 0, .string (⟨#[]⟩ : ByteArray)] 23 (0, 0)) (Short.bK BK440) hb)
                                       have n2_ := Aside0.mk (below_step (Short.hB HB) hb)
                                       clear BK440
                                       clear HB
                                       have HO439 := n0_
                                       have BK440 := n1_
                                       have HB := n2_
                                       clear n0_ n1_ n2_
                                       clear hb ho25
                                       refine hK.out _ _ trivial (fun hHeld => ?_)
                                       clear hK K
                                       refine norm_ (a' := ?_) ?_ ?_
                                       rotate_left
                                       ·
                                        show Act.put _ (some 29) _ = _
                                        simp only [Act.put, List.setIfInBounds_toArray, List.set_cons_zero, List.set_cons_succ, i64_w, i32_w]
                                        rfl
                                       exact ShortB.nE (hJ6_9 (v438, gb440) _ ⟨(ShortB.rK HO439), (Short.bK BK440), GW440.out, GE440.out, (Short.hB HB)⟩)
                                      ·
                                       skip
                                       refine box_step ?hg (N := 8) ?hd (cs := #[.int .i64 0, .int .i64 0, .string (⟨#[]⟩ : ByteArray)]) (t := 23) ?hr ?_; (case hd => rfl); (case hg => rfl); (case hr => first | (go_simp; done) | (go_simp; rfl))
                                       intro gb441 hg w24 hbox hb
                                       have n0_ := Aside0.mk (blk_below (g := gb440) (o := .cells #[.int .i64 0, .int .i64 0, .string (⟨#[]⟩ : ByteArray)] 23 (0, 0)) (Short.bK BK440) hb)
                                       have n1_ := Aside0.mk (below_step (Short.hB HB) hb)
                                       have n2_ := Aside0.mk (hbox)
                                       have n3_ := Aside0.mk ((by rw [hg]; exact (below_size (Short.hB HB)) : w.heap.size ≤ gb441))
                                       have n4_ := Aside0.mk ((by rw [hg]; exact (below_size (Short.hB HB)) : w.heap.size ≤ gb441))
                                       have n5_ := Aside0.mk ((by rw [hg]; exact Nat.ne_of_lt (blk_lt (g := gb440) (o := .cells #[.int .i64 0, .int .i64 0, .string (⟨#[]⟩ : ByteArray)] 23 (0, 0)) (Short.bK BK440)) : gb440 ≠ gb441))
                                       have n6_ := Aside0.mk ((by rw [hg]; exact Nat.ne_of_gt (blk_lt (g := gb440) (o := .cells #[.int .i64 0, .int .i64 0, .string (⟨#[]⟩ : ByteArray)] 23 (0, 0)) (Short.bK BK440)) : gb441 ≠ gb440))
                                       clear BK440
                                       clear HB
                                       have BK440 := n0_
                                       have HB := n1_
                                       have BK441 := n2_
                                       have GW441 := n3_
                                       have GE441 := n4_
                                       have NB440_441 := n5_
                                       have NB441_440 := n6_
                                       clear n0_ n1_ n2_ n3_ n4_ n5_ n6_
                                       clear hb hbox hg
                                       refine hK.out _ _ trivial (fun hHeld => ?_)
                                       clear hK K
                                       refine norm_ (a' := ?_) ?_ ?_
                                       rotate_left
                                       ·
                                        show Act.put _ (some 8) _ = _
                                        simp only [Act.put, List.setIfInBounds_toArray, List.set_cons_zero, List.set_cons_succ, i64_w, i32_w]
                                        rfl
                                       exact ShortB.nE (hJ9_10 (gb440, gb441) _ ⟨(Short.bK BK440), (Short.bK BK441), GW440.out, GE440.out, NB441_440.out, NB440_441.out, GW441.out, GE441.out, (Short.hB HB)⟩)
                                      ·
                                       skip
                                       refine box_step ?hg (N := 9) ?hd (cs := #[.int .i64 0, .int .i64 0, .string (⟨#[]⟩ : ByteArray)]) (t := 23) ?hr ?_; (case hd => rfl); (case hg => rfl); (case hr => first | (go_simp; done) | (go_simp; rfl))
                                       intro gb442 hg w24 hbox hb
                                       have n0_ := Aside0.mk (blk_below (g := gb440) (o := .cells #[.int .i64 0, .int .i64 0, .string (⟨#[]⟩ : ByteArray)] 23 (0, 0)) (Short.bK BK440) hb)
                                       have n1_ := Aside0.mk (below_step (Short.hB HB) hb)
                                       have n2_ := Aside0.mk (hbox)
                                       have n3_ := Aside0.mk ((by rw [hg]; exact (below_size (Short.hB HB)) : w.heap.size ≤ gb442))
                                       have n4_ := Aside0.mk ((by rw [hg]; exact (below_size (Short.hB HB)) : w.heap.size ≤ gb442))
                                       have n5_ := Aside0.mk ((by rw [hg]; exact Nat.ne_of_lt (blk_lt (g := gb440) (o := .cells #[.int .i64 0, .int .i64 0, .string (⟨#[]⟩ : ByteArray)] 23 (0, 0)) (Short.bK BK440)) : gb440 ≠ gb442))
                                       have n6_ := Aside0.mk ((by rw [hg]; exact Nat.ne_of_gt (blk_lt (g := gb440) (o := .cells #[.int .i64 0, .int .i64 0, .string (⟨#[]⟩ : ByteArray)] 23 (0, 0)) (Short.bK BK440)) : gb442 ≠ gb440))
                                       clear BK440
                                       clear HB
                                       have BK440 := n0_
                                       have HB := n1_
                                       have BK442 := n2_
                                       have GW442 := n3_
                                       have GE442 := n4_
                                       have NB440_442 := n5_
                                       have NB442_440 := n6_
                                       clear n0_ n1_ n2_ n3_ n4_ n5_ n6_
                                       clear hb hbox hg
                                       refine hK.out _ _ trivial (fun hHeld => ?_)
                                       clear hK K
                                       refine norm_ (a' := ?_) ?_ ?_
                                       rotate_left
                                       ·
                                        show Act.put _ (some 9) _ = _
                                        simp only [Act.put, List.setIfInBounds_toArray, List.set_cons_zero, List.set_cons_succ, i64_w, i32_w]
                                        rfl
                                       exact ShortB.nE (hJ9_11 (gb440, gb442) _ ⟨(Short.bK BK440), (Short.bK BK442), GW440.out, GE440.out, NB442_440.out, NB440_442.out, GW442.out, GE442.out, (Short.hB HB)⟩)
                                    ·
                                     skip
                                     rintro v438 w24 ⟨h0_, h1_⟩
                                     have n0_ : Aside0 (Kd.R (Kd.int .u8) 5 w24 w.heap.size (fun _ => True) v438 y437) := ⟨h0_⟩
                                     have n1_ : Aside0 (Below w.heap.size w w24) := ⟨h1_⟩
                                     clear HB
                                     clear h0_ h1_
                                     have HO439 := n0_
                                     have HB := n1_
                                     clear n0_ n1_
                                     have hHeld := trivial
                                     refine norm_ (a' := ?_) ?_ ?_
                                     rotate_left
                                     ·
                                      simp only [putAll, Act.put, List.setIfInBounds_toArray, List.set_cons_zero, List.set_cons_succ]
                                      rfl
                                     refine four_ (i := 7) (j := 9) (k := 10) (m := 11) (Ni := some 30) (Nj := some 7) (Nk := some 8) (Nm := some 9) (Steps.Bs 15 255) (Steps.Bs 15 639) (Steps.Bs 15 1151) (Steps.Bs 15 2175) rfl rfl rfl rfl rfl rfl rfl rfl (four_of HT_.out (by kernel_rfl)) (by decide) (by decide) (by decide) (by decide) (fun K hK => ?_) (fun K hK => ?_) (fun K hK => ?_) (fun K hK => ?_)
                                     ·
                                      skip
                                      have hcv25 := own_string (P := Try.prog) Try.underlying26 Try.underlying5 Try.underlying9 (Kd.own_of_R HO439.out)
                                      refine value_ (w1 := ?_) (v := ?_) (by rfl) rfl ?_ ?_
                                      rotate_left 2
                                      ·
                                       go_simp
                                       constructor
                                       ·
                                        rfl
                                       ·
                                        rfl
                                      clear hcv25
                                      refine hK.out _ _ trivial (fun hHeld => ?_)
                                      clear hK K
                                      refine norm_ (a' := ?_) ?_ ?_
                                      rotate_left
                                      ·
                                       show Act.put _ (some 30) _ = _
                                       simp only [Act.put, List.setIfInBounds_toArray, List.set_cons_zero, List.set_cons_succ, i64_w, i32_w]
                                       rfl
                                      refine Steps.pI_ 8 (some 31) (Steps.Bs 15 511) (any_of HT_.out (by kernel_rfl)) (h := ?_)
                                      exact ShortB.nE (hJ6_7 (v438) _ ⟨(ShortB.rK HO439), (Short.hB HB)⟩)
                                     ·
                                      skip
                                      refine box_step ?hg (N := 7) ?hd (cs := #[.int .i64 0, .int .i64 0, .string (⟨#[]⟩ : ByteArray)]) (t := 23) ?hr ?_; (case hd => rfl); (case hg => rfl); (case hr => first | (go_simp; done) | (go_simp; rfl))
                                      intro gb440 hg w25 hbox hb
                                      have n0_ := Aside0.mk (Kd.R_below (ShortB.rK HO439) hb)
                                      have n1_ := Aside0.mk (below_step (Short.hB HB) hb)
                                      have n2_ := Aside0.mk (hbox)
                                      have n3_ := Aside0.mk ((by rw [hg]; exact (below_size (Short.hB HB)) : w.heap.size ≤ gb440))
                                      have n4_ := Aside0.mk ((by rw [hg]; exact (below_size (Short.hB HB)) : w.heap.size ≤ gb440))
                                      clear HO439
                                      clear HB
                                      have HO439 := n0_
                                      have HB := n1_
                                      have BK440 := n2_
                                      have GW440 := n3_
                                      have GE440 := n4_
                                      clear n0_ n1_ n2_ n3_ n4_
                                      clear hb hbox hg
                                      refine hK.out _ _ trivial (fun hHeld => ?_)
                                      clear hK K
                                      refine norm_ (a' := ?_) ?_ ?_
                                      rotate_left
                                      ·
                                       show Act.put _ (some 7) _ = _
                                       simp only [Act.put, List.setIfInBounds_toArray, List.set_cons_zero, List.set_cons_succ, i64_w, i32_w]
                                       rfl
                                      exact ShortB.nE (hJ6_9 (v438, gb440) _ ⟨(ShortB.rK HO439), (Short.bK BK440), GW440.out, GE440.out, (Short.hB HB)⟩)
                                     ·
                                      skip
                                      refine box_step ?hg (N := 8) ?hd (cs := #[.int .i64 0, .int .i64 0, .string (⟨#[]⟩ : ByteArray)]) (t := 23) ?hr ?_; (case hd => rfl); (case hg => rfl); (case hr => first | (go_simp; done) | (go_simp; rfl))
                                      intro gb441 hg w25 hbox hb
                                      have n0_ := Aside0.mk (Kd.R_below (ShortB.rK HO439) hb)
                                      have n1_ := Aside0.mk (below_step (Short.hB HB) hb)
                                      have n2_ := Aside0.mk (hbox)
                                      have n3_ := Aside0.mk ((by rw [hg]; exact (below_size (Short.hB HB)) : w.heap.size ≤ gb441))
                                      have n4_ := Aside0.mk ((by rw [hg]; exact (below_size (Short.hB HB)) : w.heap.size ≤ gb441))
                                      clear HO439
                                      clear HB
                                      have HO439 := n0_
                                      have HB := n1_
                                      have BK441 := n2_
                                      have GW441 := n3_
                                      have GE441 := n4_
                                      clear n0_ n1_ n2_ n3_ n4_
                                      clear hb hbox hg
                                      refine hK.out _ _ trivial (fun hHeld => ?_)
                                      clear hK K
                                      refine norm_ (a' := ?_) ?_ ?_
                                      rotate_left
                                      ·
                                       show Act.put _ (some 8) _ = _
                                       simp only [Act.put, List.setIfInBounds_toArray, List.set_cons_zero, List.set_cons_succ, i64_w, i32_w]
                                       rfl
                                      exact ShortB.nE (hJ6_10 (v438, gb441) _ ⟨(ShortB.rK HO439), (Short.bK BK441), GW441.out, GE441.out, (Short.hB HB)⟩)
                                     ·
                                      skip
                                      refine box_step ?hg (N := 9) ?hd (cs := #[.int .i64 0, .int .i64 0, .string (⟨#[]⟩ : ByteArray)]) (t := 23) ?hr ?_; (case hd => rfl); (case hg => rfl); (case hr => first | (go_simp; done) | (go_simp; rfl))
                                      intro gb442 hg w25 hbox hb
                                      have n0_ := Aside0.mk (Kd.R_below (ShortB.rK HO439) hb)
                                      have n1_ := Aside0.mk (below_step (Short.hB HB) hb)
                                      have n2_ := Aside0.mk (hbox)
                                      have n3_ := Aside0.mk ((by rw [hg]; exact (below_size (Short.hB HB)) : w.heap.size ≤ gb442))
                                      have n4_ := Aside0.mk ((by rw [hg]; exact (below_size (Short.hB HB)) : w.heap.size ≤ gb442))
                                      clear HO439
                                      clear HB
                                      have HO439 := n0_
                                      have HB := n1_
                                      have BK442 := n2_
                                      have GW442 := n3_
                                      have GE442 := n4_
                                      clear n0_ n1_ n2_ n3_ n4_
                                      clear hb hbox hg
                                      refine hK.out _ _ trivial (fun hHeld => ?_)
                                      clear hK K
                                      refine norm_ (a' := ?_) ?_ ?_
                                      rotate_left
                                      ·
                                       show Act.put _ (some 9) _ = _
                                       simp only [Act.put, List.setIfInBounds_toArray, List.set_cons_zero, List.set_cons_succ, i64_w, i32_w]
                                       rfl
                                      exact ShortB.nE (hJ6_11 (v438, gb442) _ ⟨(ShortB.rK HO439), (Short.bK BK442), GW442.out, GE442.out, (Short.hB HB)⟩)
                                   ·
                                    skip
                                    rintro ⟨gb441, gb442⟩ w24 ⟨h0_, h1_, h2_, h3_, h4_, h5_, h6_, h7_, h8_⟩
                                    have n0_ : Aside0 (w24.heap[gb441]? = some (.cells #[.int .i64 0, .int .i64 0, .string (⟨#[]⟩ : ByteArray)] 23 (0, 0))) := ⟨h0_⟩
                                    have n1_ : Aside0 (w24.heap[gb442]? = some (.cells #[.int .i64 0, .int .i64 0, .string (⟨#[]⟩ : ByteArray)] 23 (0, 0))) := ⟨h1_⟩
                                    have n2_ : Aside0 (w.heap.size ≤ gb441) := ⟨h2_⟩
                                    have n3_ : Aside0 (w.heap.size ≤ gb441) := ⟨h3_⟩
                                    have n4_ : Aside0 (gb442 ≠ gb441) := ⟨h4_⟩
                                    have n5_ : Aside0 (gb441 ≠ gb442) := ⟨h5_⟩
                                    have n6_ : Aside0 (w.heap.size ≤ gb442) := ⟨h6_⟩
                                    have n7_ : Aside0 (w.heap.size ≤ gb442) := ⟨h7_⟩
                                    have n8_ : Aside0 (Below w.heap.size w w24) := ⟨h8_⟩
                                    clear HB
                                    clear h0_ h1_ h2_ h3_ h4_ h5_ h6_ h7_ h8_
                                    have BK441 := n0_
                                    have BK442 := n1_
                                    have GW441 := n2_
                                    have GE441 := n3_
                                    have NB442_441 := n4_
                                    have NB441_442 := n5_
                                    have GW442 := n6_
                                    have GE442 := n7_
                                    have HB := n8_
                                    clear n0_ n1_ n2_ n3_ n4_ n5_ n6_ n7_ n8_
                                    have hHeld := trivial
                                    refine norm_ (a' := ?_) ?_ ?_
                                    rotate_left
                                    ·
                                     simp only [putAll, Act.put, List.setIfInBounds_toArray, List.set_cons_zero, List.set_cons_succ]
                                     rfl
                                    refine two_ (i := 6) (j := 9) (Ni := some 29) (Nj := some 7) (Steps.Bs 15 3199) (Steps.Bs 15 3647) rfl rfl rfl rfl (two_of HT_.out (by kernel_rfl)) (by decide) (by decide) (fun K hK => ?_) (fun K hK => ?_)
                                    ·
                                     skip
                                     refine Kd.R_make_step (Kd.int .u8) _ 5 (by rfl) (N := 29) rfl 26 _ _ rfl ji5 rfl rfl Try.underlying26 (.int .u8 0) 1 info5 rfl (by decide) (by omega) 0 (ok := fun _ => True) (okp := fun _ => True) rfl (fun _ hk => hk) trivial (of_decide_eq_true (by first | (with_reducible assumption) | assumption)) (Nat.le_trans (Nat.mul_le_mul_right _ (of_decide_eq_true (by first | (with_reducible assumption) | assumption) : ji5.toNat ≤ 281474976710656)) (by omega)) (Below.refl _ _) (Nat.le_refl _) ?_
                                     intro v438 w25 ho26 hb hg_ hnew_
                                     clear hg_ hnew_
                                     (first | rw [← Ny437.out] at ho26 | (simp only [Int.reduceToNat] at ho26; rw [← Ny437.out] at ho26))
                                     have n0_ := Aside0.mk (Kd.R_lower ho26 (below_size (Short.hB HB)))
                                     have n1_ := Aside0.mk (blk_below (g := gb441) (o := .cells #[.int .i64 0, .int .i64 0, .string (⟨#[]⟩ : ByteArray)] 23 (0, 0)) (Short.bK BK441) hb)
                                     have n2_ := Aside0.mk (blk_below (g := gb442) (o := .cells #[.int .i64 0, .int .i64 0, .string (⟨#[]⟩ : ByteArray)] 23 (0, 0)) (Short.bK BK442) hb)
                                     have n3_ := Aside0.mk (below_step (Short.hB HB) hb)
                                     clear BK441
                                     clear BK442
                                     clear HB
                                     have HO439 := n0_
                                     have BK441 := n1_
                                     have BK442 := n2_
                                     have HB := n3_
                                     clear n0_ n1_ n2_ n3_
                                     clear hb ho26
                                     refine hK.out _ _ trivial (fun hHeld => ?_)
                                     clear hK K
                                     refine norm_ (a' := ?_) ?_ ?_
                                     rotate_left
                                     ·
                                      show Act.put _ (some 29) _ = _
                                      simp only [Act.put, List.setIfInBounds_toArray, List.set_cons_zero, List.set_cons_succ, i64_w, i32_w]
                                      rfl
                                     exact ShortB.nE (hJ6_10_11 (v438, gb441, gb442) _ ⟨(ShortB.rK HO439), (Short.bK BK441), (Short.bK BK442), GW441.out, GE441.out, NB442_441.out, NB441_442.out, GW442.out, GE442.out, (Short.hB HB)⟩)
                                    ·
                                     skip
                                     refine box_step ?hg (N := 7) ?hd (cs := #[.int .i64 0, .int .i64 0, .string (⟨#[]⟩ : ByteArray)]) (t := 23) ?hr ?_; (case hd => rfl); (case hg => rfl); (case hr => first | (go_simp; done) | (go_simp; rfl))
                                     intro gb440 hg w25 hbox hb
                                     have n0_ := Aside0.mk (blk_below (g := gb441) (o := .cells #[.int .i64 0, .int .i64 0, .string (⟨#[]⟩ : ByteArray)] 23 (0, 0)) (Short.bK BK441) hb)
                                     have n1_ := Aside0.mk (blk_below (g := gb442) (o := .cells #[.int .i64 0, .int .i64 0, .string (⟨#[]⟩ : ByteArray)] 23 (0, 0)) (Short.bK BK442) hb)
                                     have n2_ := Aside0.mk (below_step (Short.hB HB) hb)
                                     have n3_ := Aside0.mk (hbox)
                                     have n4_ := Aside0.mk ((by rw [hg]; exact (below_size (Short.hB HB)) : w.heap.size ≤ gb440))
                                     have n5_ := Aside0.mk ((by rw [hg]; exact (below_size (Short.hB HB)) : w.heap.size ≤ gb440))
                                     have n6_ := Aside0.mk ((by rw [hg]; exact Nat.ne_of_lt (blk_lt (g := gb441) (o := .cells #[.int .i64 0, .int .i64 0, .string (⟨#[]⟩ : ByteArray)] 23 (0, 0)) (Short.bK BK441)) : gb441 ≠ gb440))
                                     have n7_ := Aside0.mk ((by rw [hg]; exact Nat.ne_of_gt (blk_lt (g := gb441) (o := .cells #[.int .i64 0, .int .i64 0, .string (⟨#[]⟩ : ByteArray)] 23 (0, 0)) (Short.bK BK441)) : gb440 ≠ gb441))
                                     have n8_ := Aside0.mk ((by rw [hg]; exact Nat.ne_of_lt (blk_lt (g := gb442) (o := .cells #[.int .i64 0, .int .i64 0, .string (⟨#[]⟩ : ByteArray)] 23 (0, 0)) (Short.bK BK442)) : gb442 ≠ gb440))
                                     have n9_ := Aside0.mk ((by rw [hg]; exact Nat.ne_of_gt (blk_lt (g := gb442) (o := .cells #[.int .i64 0, .int .i64 0, .string (⟨#[]⟩ : ByteArray)] 23 (0, 0)) (Short.bK BK442)) : gb440 ≠ gb442))
                                     clear BK441
                                     clear BK442
                                     clear HB
                                     have BK441 := n0_
                                     have BK442 := n1_
                                     have HB := n2_
                                     have BK440 := n3_
                                     have GW440 := n4_
                                     have GE440 := n5_
                                     have NB441_440 := n6_
                                     have NB440_441 := n7_
                                     have NB442_440 := n8_
                                     have NB440_442 := n9_
                                     clear n0_ n1_ n2_ n3_ n4_ n5_ n6_ n7_ n8_ n9_
                                     clear hb hbox hg
                                     refine hK.out _ _ trivial (fun hHeld => ?_)
                                     clear hK K
                                     refine norm_ (a' := ?_) ?_ ?_
                                     rotate_left
                                     ·
                                      show Act.put _ (some 7) _ = _
                                      simp only [Act.put, List.setIfInBounds_toArray, List.set_cons_zero, List.set_cons_succ, i64_w, i32_w]
                                      rfl
                                     exact ShortB.nE (hJ9_10_11 (gb440, gb441, gb442) _ ⟨(Short.bK BK440), (Short.bK BK441), (Short.bK BK442), GW440.out, GE440.out, NB441_440.out, NB440_441.out, NB442_440.out, NB440_442.out, GW441.out, GE441.out, NB442_441.out, NB441_442.out, GW442.out, GE442.out, (Short.hB HB)⟩)
                                  ·
                                   skip
                                   rintro ⟨gb440, gb442⟩ w24 ⟨h0_, h1_, h2_, h3_, h4_, h5_, h6_, h7_, h8_⟩
                                   have n0_ : Aside0 (w24.heap[gb440]? = some (.cells #[.int .i64 0, .int .i64 0, .string (⟨#[]⟩ : ByteArray)] 23 (0, 0))) := ⟨h0_⟩
                                   have n1_ : Aside0 (w24.heap[gb442]? = some (.cells #[.int .i64 0, .int .i64 0, .string (⟨#[]⟩ : ByteArray)] 23 (0, 0))) := ⟨h1_⟩
                                   have n2_ : Aside0 (w.heap.size ≤ gb440) := ⟨h2_⟩
                                   have n3_ : Aside0 (w.heap.size ≤ gb440) := ⟨h3_⟩
                                   have n4_ : Aside0 (gb442 ≠ gb440) := ⟨h4_⟩
                                   have n5_ : Aside0 (gb440 ≠ gb442) := ⟨h5_⟩
                                   have n6_ : Aside0 (w.heap.size ≤ gb442) := ⟨h6_⟩
                                   have n7_ : Aside0 (w.heap.size ≤ gb442) := ⟨h7_⟩
                                   have n8_ : Aside0 (Below w.heap.size w w24) := ⟨h8_⟩
                                   clear HB
                                   clear h0_ h1_ h2_ h3_ h4_ h5_ h6_ h7_ h8_
                                   have BK440 := n0_
                                   have BK442 := n1_
                                   have GW440 := n2_
                                   have GE440 := n3_
                                   have NB442_440 := n4_
                                   have NB440_442 := n5_
                                   have GW442 := n6_
                                   have GE442 := n7_
                                   have HB := n8_
                                   clear n0_ n1_ n2_ n3_ n4_ n5_ n6_ n7_ n8_
                                   have hHeld := trivial
                                   refine norm_ (a' := ?_) ?_ ?_
                                   rotate_left
                                   ·
                                    simp only [putAll, Act.put, List.setIfInBounds_toArray, List.set_cons_zero, List.set_cons_succ]
                                    rfl
                                   refine two_ (i := 6) (j := 10) (Ni := some 29) (Nj := some 8) (Steps.Bs 15 2687) (Steps.Bs 15 3647) rfl rfl rfl rfl (two_of HT_.out (by kernel_rfl)) (by decide) (by decide) (fun K hK => ?_) (fun K hK => ?_)
                                   ·
                                    skip
                                    refine Kd.R_make_step (Kd.int .u8) _ 5 (by rfl) (N := 29) rfl 26 _ _ rfl ji5 rfl rfl Try.underlying26 (.int .u8 0) 1 info5 rfl (by decide) (by omega) 0 (ok := fun _ => True) (okp := fun _ => True) rfl (fun _ hk => hk) trivial (of_decide_eq_true (by first | (with_reducible assumption) | assumption)) (Nat.le_trans (Nat.mul_le_mul_right _ (of_decide_eq_true (by first | (with_reducible assumption) | assumption) : ji5.toNat ≤ 281474976710656)) (by omega)) (Below.refl _ _) (Nat.le_refl _) ?_
                                    intro v438 w25 ho26 hb hg_ hnew_
                                    clear hg_ hnew_
                                    (first | rw [← Ny437.out] at ho26 | (simp only [Int.reduceToNat] at ho26; rw [← Ny437.out] at ho26))
                                    have n0_ := Aside0.mk (Kd.R_lower ho26 (below_size (Short.hB HB)))
                                    have n1_ := Aside0.mk (blk_below (g := gb440) (o := .cells #[.int .i64 0, .int .i64 0, .string (⟨#[]⟩ : ByteArray)] 23 (0, 0)) (Short.bK BK440) hb)
                                    have n2_ := Aside0.mk (blk_below (g := gb442) (o := .cells #[.int .i64 0, .int .i64 0, .string (⟨#[]⟩ : ByteArray)] 23 (0, 0)) (Short.bK BK442) hb)
                                    have n3_ := Aside0.mk (below_step (Short.hB HB) hb)
                                    clear BK440
                                    clear BK442
                                    clear HB
                                    have HO439 := n0_
                                    have BK440 := n1_
                                    have BK442 := n2_
                                    have HB := n3_
                                    clear n0_ n1_ n2_ n3_
                                    clear hb ho26
                                    refine hK.out _ _ trivial (fun hHeld => ?_)
                                    clear hK K
                                    refine norm_ (a' := ?_) ?_ ?_
                                    rotate_left
                                    ·
                                     show Act.put _ (some 29) _ = _
                                     simp only [Act.put, List.setIfInBounds_toArray, List.set_cons_zero, List.set_cons_succ, i64_w, i32_w]
                                     rfl
                                    exact ShortB.nE (hJ6_9_11 (v438, gb440, gb442) _ ⟨(ShortB.rK HO439), (Short.bK BK440), (Short.bK BK442), GW440.out, GE440.out, NB442_440.out, NB440_442.out, GW442.out, GE442.out, (Short.hB HB)⟩)
                                   ·
                                    skip
                                    refine box_step ?hg (N := 8) ?hd (cs := #[.int .i64 0, .int .i64 0, .string (⟨#[]⟩ : ByteArray)]) (t := 23) ?hr ?_; (case hd => rfl); (case hg => rfl); (case hr => first | (go_simp; done) | (go_simp; rfl))
                                    intro gb441 hg w25 hbox hb
                                    have n0_ := Aside0.mk (blk_below (g := gb440) (o := .cells #[.int .i64 0, .int .i64 0, .string (⟨#[]⟩ : ByteArray)] 23 (0, 0)) (Short.bK BK440) hb)
                                    have n1_ := Aside0.mk (blk_below (g := gb442) (o := .cells #[.int .i64 0, .int .i64 0, .string (⟨#[]⟩ : ByteArray)] 23 (0, 0)) (Short.bK BK442) hb)
                                    have n2_ := Aside0.mk (below_step (Short.hB HB) hb)
                                    have n3_ := Aside0.mk (hbox)
                                    have n4_ := Aside0.mk ((by rw [hg]; exact (below_size (Short.hB HB)) : w.heap.size ≤ gb441))
                                    have n5_ := Aside0.mk ((by rw [hg]; exact (below_size (Short.hB HB)) : w.heap.size ≤ gb441))
                                    have n6_ := Aside0.mk ((by rw [hg]; exact Nat.ne_of_lt (blk_lt (g := gb440) (o := .cells #[.int .i64 0, .int .i64 0, .string (⟨#[]⟩ : ByteArray)] 23 (0, 0)) (Short.bK BK440)) : gb440 ≠ gb441))
                                    have n7_ := Aside0.mk ((by rw [hg]; exact Nat.ne_of_gt (blk_lt (g := gb440) (o := .cells #[.int .i64 0, .int .i64 0, .string (⟨#[]⟩ : ByteArray)] 23 (0, 0)) (Short.bK BK440)) : gb441 ≠ gb440))
                                    have n8_ := Aside0.mk ((by rw [hg]; exact Nat.ne_of_lt (blk_lt (g := gb442) (o := .cells #[.int .i64 0, .int .i64 0, .string (⟨#[]⟩ : ByteArray)] 23 (0, 0)) (Short.bK BK442)) : gb442 ≠ gb441))
                                    have n9_ := Aside0.mk ((by rw [hg]; exact Nat.ne_of_gt (blk_lt (g := gb442) (o := .cells #[.int .i64 0, .int .i64 0, .string (⟨#[]⟩ : ByteArray)] 23 (0, 0)) (Short.bK BK442)) : gb441 ≠ gb442))
                                    clear BK440
                                    clear BK442
                                    clear HB
                                    have BK440 := n0_
                                    have BK442 := n1_
                                    have HB := n2_
                                    have BK441 := n3_
                                    have GW441 := n4_
                                    have GE441 := n5_
                                    have NB440_441 := n6_
                                    have NB441_440 := n7_
                                    have NB442_441 := n8_
                                    have NB441_442 := n9_
                                    clear n0_ n1_ n2_ n3_ n4_ n5_ n6_ n7_ n8_ n9_
                                    clear hb hbox hg
                                    refine hK.out _ _ trivial (fun hHeld => ?_)
                                    clear hK K
                                    refine norm_ (a' := ?_) ?_ ?_
                                    rotate_left
                                    ·
                                     show Act.put _ (some 8) _ = _
                                     simp only [Act.put, List.setIfInBounds_toArray, List.set_cons_zero, List.set_cons_succ, i64_w, i32_w]
                                     rfl
                                    exact ShortB.nE (hJ9_10_11 (gb440, gb441, gb442) _ ⟨(Short.bK BK440), (Short.bK BK441), (Short.bK BK442), GW440.out, GE440.out, NB441_440.out, NB440_441.out, NB442_440.out, NB440_442.out, GW441.out, GE441.out, NB442_441.out, NB441_442.out, GW442.out, GE442.out, (Short.hB HB)⟩)
                                 ·
                                  skip
                                  rintro ⟨gb440, gb441⟩ w24 ⟨h0_, h1_, h2_, h3_, h4_, h5_, h6_, h7_, h8_⟩
                                  have n0_ : Aside0 (w24.heap[gb440]? = some (.cells #[.int .i64 0, .int .i64 0, .string (⟨#[]⟩ : ByteArray)] 23 (0, 0))) := ⟨h0_⟩
                                  have n1_ : Aside0 (w24.heap[gb441]? = some (.cells #[.int .i64 0, .int .i64 0, .string (⟨#[]⟩ : ByteArray)] 23 (0, 0))) := ⟨h1_⟩
                                  have n2_ : Aside0 (w.heap.size ≤ gb440) := ⟨h2_⟩
                                  have n3_ : Aside0 (w.heap.size ≤ gb440) := ⟨h3_⟩
                                  have n4_ : Aside0 (gb441 ≠ gb440) := ⟨h4_⟩
                                  have n5_ : Aside0 (gb440 ≠ gb441) := ⟨h5_⟩
                                  have n6_ : Aside0 (w.heap.size ≤ gb441) := ⟨h6_⟩
                                  have n7_ : Aside0 (w.heap.size ≤ gb441) := ⟨h7_⟩
                                  have n8_ : Aside0 (Below w.heap.size w w24) := ⟨h8_⟩
                                  clear HB
                                  clear h0_ h1_ h2_ h3_ h4_ h5_ h6_ h7_ h8_
                                  have BK440 := n0_
                                  have BK441 := n1_
                                  have GW440 := n2_
                                  have GE440 := n3_
                                  have NB441_440 := n4_
                                  have NB440_441 := n5_
                                  have GW441 := n6_
                                  have GE441 := n7_
                                  have HB := n8_
                                  clear n0_ n1_ n2_ n3_ n4_ n5_ n6_ n7_ n8_
                                  have hHeld := trivial
                                  refine norm_ (a' := ?_) ?_ ?_
                                  rotate_left
                                  ·
                                   simp only [putAll, Act.put, List.setIfInBounds_toArray, List.set_cons_zero, List.set_cons_succ]
                                   rfl
                                  refine two_ (i := 6) (j := 11) (Ni := some 29) (Nj := some 9) (Steps.Bs 15 1663) (Steps.Bs 15 3647) rfl rfl rfl rfl (two_of HT_.out (by kernel_rfl)) (by decide) (by decide) (fun K hK => ?_) (fun K hK => ?_)
                                  ·
                                   skip
                                   refine Kd.R_make_step (Kd.int .u8) _ 5 (by rfl) (N := 29) rfl 26 _ _ rfl ji5 rfl rfl Try.underlying26 (.int .u8 0) 1 info5 rfl (by decide) (by omega) 0 (ok := fun _ => True) (okp := fun _ => True) rfl (fun _ hk => hk) trivial (of_decide_eq_true (by first | (with_reducible assumption) | assumption)) (Nat.le_trans (Nat.mul_le_mul_right _ (of_decide_eq_true (by first | (with_reducible assumption) | assumption) : ji5.toNat ≤ 281474976710656)) (by omega)) (Below.refl _ _) (Nat.le_refl _) ?_
                                   intro v438 w25 ho26 hb hg_ hnew_
                                   clear hg_ hnew_
                                   (first | rw [← Ny437.out] at ho26 | (simp only [Int.reduceToNat] at ho26; rw [← Ny437.out] at ho26))
                                   have n0_ := Aside0.mk (Kd.R_lower ho26 (below_size (Short.hB HB)))
                                   have n1_ := Aside0.mk (blk_below (g := gb440) (o := .cells #[.int .i64 0, .int .i64 0, .string (⟨#[]⟩ : ByteArray)] 23 (0, 0)) (Short.bK BK440) hb)
                                   have n2_ := Aside0.mk (blk_below (g := gb441) (o := .cells #[.int .i64 0, .int .i64 0, .string (⟨#[]⟩ : ByteArray)] 23 (0, 0)) (Short.bK BK441) hb)
                                   have n3_ := Aside0.mk (below_step (Short.hB HB) hb)
                                   clear BK440
                                   clear BK441
                                   clear HB
                                   have HO439 := n0_
                                   have BK440 := n1_
                                   have BK441 := n2_
                                   have HB := n3_
                                   clear n0_ n1_ n2_ n3_
                                   clear hb ho26
                                   refine hK.out _ _ trivial (fun hHeld => ?_)
                                   clear hK K
                                   refine norm_ (a' := ?_) ?_ ?_
                                   rotate_left
                                   ·
                                    show Act.put _ (some 29) _ = _
                                    simp only [Act.put, List.setIfInBounds_toArray, List.set_cons_zero, List.set_cons_succ, i64_w, i32_w]
                                    rfl
                                   exact ShortB.nE (hJ6_9_10 (v438, gb440, gb441) _ ⟨(ShortB.rK HO439), (Short.bK BK440), (Short.bK BK441), GW440.out, GE440.out, NB441_440.out, NB440_441.out, GW441.out, GE441.out, (Short.hB HB)⟩)
                                  ·
                                   skip
                                   refine box_step ?hg (N := 9) ?hd (cs := #[.int .i64 0, .int .i64 0, .string (⟨#[]⟩ : ByteArray)]) (t := 23) ?hr ?_; (case hd => rfl); (case hg => rfl); (case hr => first | (go_simp; done) | (go_simp; rfl))
                                   intro gb442 hg w25 hbox hb
                                   have n0_ := Aside0.mk (blk_below (g := gb440) (o := .cells #[.int .i64 0, .int .i64 0, .string (⟨#[]⟩ : ByteArray)] 23 (0, 0)) (Short.bK BK440) hb)
                                   have n1_ := Aside0.mk (blk_below (g := gb441) (o := .cells #[.int .i64 0, .int .i64 0, .string (⟨#[]⟩ : ByteArray)] 23 (0, 0)) (Short.bK BK441) hb)
                                   have n2_ := Aside0.mk (below_step (Short.hB HB) hb)
                                   have n3_ := Aside0.mk (hbox)
                                   have n4_ := Aside0.mk ((by rw [hg]; exact (below_size (Short.hB HB)) : w.heap.size ≤ gb442))
                                   have n5_ := Aside0.mk ((by rw [hg]; exact (below_size (Short.hB HB)) : w.heap.size ≤ gb442))
                                   have n6_ := Aside0.mk ((by rw [hg]; exact Nat.ne_of_lt (blk_lt (g := gb440) (o := .cells #[.int .i64 0, .int .i64 0, .string (⟨#[]⟩ : ByteArray)] 23 (0, 0)) (Short.bK BK440)) : gb440 ≠ gb442))
                                   have n7_ := Aside0.mk ((by rw [hg]; exact Nat.ne_of_gt (blk_lt (g := gb440) (o := .cells #[.int .i64 0, .int .i64 0, .string (⟨#[]⟩ : ByteArray)] 23 (0, 0)) (Short.bK BK440)) : gb442 ≠ gb440))
                                   have n8_ := Aside0.mk ((by rw [hg]; exact Nat.ne_of_lt (blk_lt (g := gb441) (o := .cells #[.int .i64 0, .int .i64 0, .string (⟨#[]⟩ : ByteArray)] 23 (0, 0)) (Short.bK BK441)) : gb441 ≠ gb442))
                                   have n9_ := Aside0.mk ((by rw [hg]; exact Nat.ne_of_gt (blk_lt (g := gb441) (o := .cells #[.int .i64 0, .int .i64 0, .string (⟨#[]⟩ : ByteArray)] 23 (0, 0)) (Short.bK BK441)) : gb442 ≠ gb441))
                                   clear BK440
                                   clear BK441
                                   clear HB
                                   have BK440 := n0_
                                   have BK441 := n1_
                                   have HB := n2_
                                   have BK442 := n3_
                                   have GW442 := n4_
                                   have GE442 := n5_
                                   have NB440_442 := n6_
                                   have NB442_440 := n7_
                                   have NB441_442 := n8_
                                   have NB442_441 := n9_
                                   clear n0_ n1_ n2_ n3_ n4_ n5_ n6_ n7_ n8_ n9_
                                   clear hb hbox hg
                                   refine hK.out _ _ trivial (fun hHeld => ?_)
                                   clear hK K
                                   refine norm_ (a' := ?_) ?_ ?_
                                   rotate_left
                                   ·
                                    show Act.put _ (some 9) _ = _
                                    simp only [Act.put, List.setIfInBounds_toArray, List.set_cons_zero, List.set_cons_succ, i64_w, i32_w]
                                    rfl
                                   exact ShortB.nE (hJ9_10_11 (gb440, gb441, gb442) _ ⟨(Short.bK BK440), (Short.bK BK441), (Short.bK BK442), GW440.out, GE440.out, NB441_440.out, NB440_441.out, NB442_440.out, NB440_442.out, GW441.out, GE441.out, NB442_441.out, NB441_442.out, GW442.out, GE442.out, (Short.hB HB)⟩)
                                ·
                                 skip
                                 rintro ⟨v438, gb442⟩ w25 ⟨h0_, h1_, h2_, h3_, h4_⟩
                                 have n0_ : Aside0 (Kd.R (Kd.int .u8) 5 w25 w.heap.size (fun _ => True) v438 y437) := ⟨h0_⟩
                                 have n1_ : Aside0 (w25.heap[gb442]? = some (.cells #[.int .i64 0, .int .i64 0, .string (⟨#[]⟩ : ByteArray)] 23 (0, 0))) := ⟨h1_⟩
                                 have n2_ : Aside0 (w.heap.size ≤ gb442) := ⟨h2_⟩
                                 have n3_ : Aside0 (w.heap.size ≤ gb442) := ⟨h3_⟩
                                 have n4_ : Aside0 (Below w.heap.size w w25) := ⟨h4_⟩
                                 clear HB
                                 clear h0_ h1_ h2_ h3_ h4_
                                 have HO439 := n0_
                                 have BK442 := n1_
                                 have GW442 := n2_
                                 have GE442 := n3_
                                 have HB := n4_
                                 clear n0_ n1_ n2_ n3_ n4_
                                 have hHeld := trivial
                                 refine norm_ (a' := ?_) ?_ ?_
                                 rotate_left
                                 ·
                                  simp only [putAll, Act.put, List.setIfInBounds_toArray, List.set_cons_zero, List.set_cons_succ]
                                  rfl
                                 refine three_ (i := 7) (j := 9) (k := 10) (Ni := some 30) (Nj := some 7) (Nk := some 8) (Steps.Bs 15 2303) (Steps.Bs 15 2687) (Steps.Bs 15 3199) rfl rfl rfl rfl rfl rfl (three_of HT_.out (by kernel_rfl)) (by decide) (by decide) (by decide) (fun K hK => ?_) (fun K hK => ?_) (fun K hK => ?_)
                                 ·
                                  skip
                                  have hcv26 := own_string (P := Try.prog) Try.underlying26 Try.underlying5 Try.underlying9 (Kd.own_of_R HO439.out)
                                  refine value_ (w1 := ?_) (v := ?_) (by rfl) rfl ?_ ?_
                                  rotate_left 2
                                  ·
                                   go_simp
                                   constructor
                                   ·
                                    rfl
                                   ·
                                    rfl
                                  clear hcv26
                                  refine hK.out _ _ trivial (fun hHeld => ?_)
                                  clear hK K
                                  refine norm_ (a' := ?_) ?_ ?_
                                  rotate_left
                                  ·
                                   show Act.put _ (some 30) _ = _
                                   simp only [Act.put, List.setIfInBounds_toArray, List.set_cons_zero, List.set_cons_succ, i64_w, i32_w]
                                   rfl
                                  refine Steps.pI_ 8 (some 31) (Steps.Bs 15 2559) (any_of HT_.out (by kernel_rfl)) (h := ?_)
                                  exact ShortB.nE (hJ6_7_11 (v438, gb442) _ ⟨(ShortB.rK HO439), (Short.bK BK442), GW442.out, GE442.out, (Short.hB HB)⟩)
                                 ·
                                  skip
                                  refine box_step ?hg (N := 7) ?hd (cs := #[.int .i64 0, .int .i64 0, .string (⟨#[]⟩ : ByteArray)]) (t := 23) ?hr ?_; (case hd => rfl); (case hg => rfl); (case hr => first | (go_simp; done) | (go_simp; rfl))
                                  intro gb440 hg w26 hbox hb
                                  have n0_ := Aside0.mk (Kd.R_below (ShortB.rK HO439) hb)
                                  have n1_ := Aside0.mk (blk_below (g := gb442) (o := .cells #[.int .i64 0, .int .i64 0, .string (⟨#[]⟩ : ByteArray)] 23 (0, 0)) (Short.bK BK442) hb)
                                  have n2_ := Aside0.mk (below_step (Short.hB HB) hb)
                                  have n3_ := Aside0.mk (hbox)
                                  have n4_ := Aside0.mk ((by rw [hg]; exact (below_size (Short.hB HB)) : w.heap.size ≤ gb440))
                                  have n5_ := Aside0.mk ((by rw [hg]; exact (below_size (Short.hB HB)) : w.heap.size ≤ gb440))
                                  have n6_ := Aside0.mk ((by rw [hg]; exact Nat.ne_of_lt (blk_lt (g := gb442) (o := .cells #[.int .i64 0, .int .i64 0, .string (⟨#[]⟩ : ByteArray)] 23 (0, 0)) (Short.bK BK442)) : gb442 ≠ gb440))
                                  have n7_ := Aside0.mk ((by rw [hg]; exact Nat.ne_of_gt (blk_lt (g := gb442) (o := .cells #[.int .i64 0, .int .i64 0, .string (⟨#[]⟩ : ByteArray)] 23 (0, 0)) (Short.bK BK442)) : gb440 ≠ gb442))
                                  clear HO439
                                  clear BK442
                                  clear HB
                                  have HO439 := n0_
                                  have BK442 := n1_
                                  have HB := n2_
                                  have BK440 := n3_
                                  have GW440 := n4_
                                  have GE440 := n5_
                                  have NB442_440 := n6_
                                  have NB440_442 := n7_
                                  clear n0_ n1_ n2_ n3_ n4_ n5_ n6_ n7_
                                  clear hb hbox hg
                                  refine hK.out _ _ trivial (fun hHeld => ?_)
                                  clear hK K
                                  refine norm_ (a' := ?_) ?_ ?_
                                  rotate_left
                                  ·
                                   show Act.put _ (some 7) _ = _
                                   simp only [Act.put, List.setIfInBounds_toArray, List.set_cons_zero, List.set_cons_succ, i64_w, i32_w]
                                   rfl
                                  exact ShortB.nE (hJ6_9_11 (v438, gb440, gb442) _ ⟨(ShortB.rK HO439), (Short.bK BK440), (Short.bK BK442), GW440.out, GE440.out, NB442_440.out, NB440_442.out, GW442.out, GE442.out, (Short.hB HB)⟩)
                                 ·
                                  skip
                                  refine box_step ?hg (N := 8) ?hd (cs := #[.int .i64 0, .int .i64 0, .string (⟨#[]⟩ : ByteArray)]) (t := 23) ?hr ?_; (case hd => rfl); (case hg => rfl); (case hr => first | (go_simp; done) | (go_simp; rfl))
                                  intro gb441 hg w26 hbox hb
                                  have n0_ := Aside0.mk (Kd.R_below (ShortB.rK HO439) hb)
                                  have n1_ := Aside0.mk (blk_below (g := gb442) (o := .cells #[.int .i64 0, .int .i64 0, .string (⟨#[]⟩ : ByteArray)] 23 (0, 0)) (Short.bK BK442) hb)
                                  have n2_ := Aside0.mk (below_step (Short.hB HB) hb)
                                  have n3_ := Aside0.mk (hbox)
                                  have n4_ := Aside0.mk ((by rw [hg]; exact (below_size (Short.hB HB)) : w.heap.size ≤ gb441))
                                  have n5_ := Aside0.mk ((by rw [hg]; exact (below_size (Short.hB HB)) : w.heap.size ≤ gb441))
                                  have n6_ := Aside0.mk ((by rw [hg]; exact Nat.ne_of_lt (blk_lt (g := gb442) (o := .cells #[.int .i64 0, .int .i64 0, .string (⟨#[]⟩ : ByteArray)] 23 (0, 0)) (Short.bK BK442)) : gb442 ≠ gb441))
                                  have n7_ := Aside0.mk ((by rw [hg]; exact Nat.ne_of_gt (blk_lt (g := gb442) (o := .cells #[.int .i64 0, .int .i64 0, .string (⟨#[]⟩ : ByteArray)] 23 (0, 0)) (Short.bK BK442)) : gb441 ≠ gb442))
                                  clear HO439
                                  clear BK442
                                  clear HB
                                  have HO439 := n0_
                                  have BK442 := n1_
                                  have HB := n2_
                                  have BK441 := n3_
                                  have GW441 := n4_
                                  have GE441 := n5_
                                  have NB442_441 := n6_
                                  have NB441_442 := n7_
                                  clear n0_ n1_ n2_ n3_ n4_ n5_ n6_ n7_
                                  clear hb hbox hg
                                  refine hK.out _ _ trivial (fun hHeld => ?_)
                                  clear hK K
                                  refine norm_ (a' := ?_) ?_ ?_
                                  rotate_left
                                  ·
                                   show Act.put _ (some 8) _ = _
                                   simp only [Act.put, List.setIfInBounds_toArray, List.set_cons_zero, List.set_cons_succ, i64_w, i32_w]
                                   rfl
                                  exact ShortB.nE (hJ6_10_11 (v438, gb441, gb442) _ ⟨(ShortB.rK HO439), (Short.bK BK441), (Short.bK BK442), GW441.out, GE441.out, NB442_441.out, NB441_442.out, GW442.out, GE442.out, (Short.hB HB)⟩)
                               ·
                                skip
                                rintro ⟨v438, gb441⟩ w25 ⟨h0_, h1_, h2_, h3_, h4_⟩
                                have n0_ : Aside0 (Kd.R (Kd.int .u8) 5 w25 w.heap.size (fun _ => True) v438 y437) := ⟨h0_⟩
                                have n1_ : Aside0 (w25.heap[gb441]? = some (.cells #[.int .i64 0, .int .i64 0, .string (⟨#[]⟩ : ByteArray)] 23 (0, 0))) := ⟨h1_⟩
                                have n2_ : Aside0 (w.heap.size ≤ gb441) := ⟨h2_⟩
                                have n3_ : Aside0 (w.heap.size ≤ gb441) := ⟨h3_⟩
                                have n4_ : Aside0 (Below w.heap.size w w25) := ⟨h4_⟩
                                clear HB
                                clear h0_ h1_ h2_ h3_ h4_
                                have HO439 := n0_
                                have BK441 := n1_
                                have GW441 := n2_
                                have GE441 := n3_
                                have HB := n4_
                                clear n0_ n1_ n2_ n3_ n4_
                                have hHeld := trivial
                                refine norm_ (a' := ?_) ?_ ?_
                                rotate_left
                                ·
                                 simp only [putAll, Act.put, List.setIfInBounds_toArray, List.set_cons_zero, List.set_cons_succ]
                                 rfl
                                refine three_ (i := 7) (j := 9) (k := 11) (Ni := some 30) (Nj := some 7) (Nk := some 9) (Steps.Bs 15 1279) (Steps.Bs 15 1663) (Steps.Bs 15 3199) rfl rfl rfl rfl rfl rfl (three_of HT_.out (by kernel_rfl)) (by decide) (by decide) (by decide) (fun K hK => ?_) (fun K hK => ?_) (fun K hK => ?_)
                                ·
                                 skip
                                 have hcv26 := own_string (P := Try.prog) Try.underlying26 Try.underlying5 Try.underlying9 (Kd.own_of_R HO439.out)
                                 refine value_ (w1 := ?_) (v := ?_) (by rfl) rfl ?_ ?_
                                 rotate_left 2
                                 ·
                                  go_simp
                                  constructor
                                  ·
                                   rfl
                                  ·
                                   rfl
                                 clear hcv26
                                 refine hK.out _ _ trivial (fun hHeld => ?_)
                                 clear hK K
                                 refine norm_ (a' := ?_) ?_ ?_
                                 rotate_left
                                 ·
                                  show Act.put _ (some 30) _ = _
                                  simp only [Act.put, List.setIfInBounds_toArray, List.set_cons_zero, List.set_cons_succ, i64_w, i32_w]
                                  rfl
                                 refine Steps.pI_ 8 (some 31) (Steps.Bs 15 1535) (any_of HT_.out (by kernel_rfl)) (h := ?_)
                                 exact ShortB.nE (hJ6_7_10 (v438, gb441) _ ⟨(ShortB.rK HO439), (Short.bK BK441), GW441.out, GE441.out, (Short.hB HB)⟩)
                                ·
                                 skip
                                 refine box_step ?hg (N := 7) ?hd (cs := #[.int .i64 0, .int .i64 0, .string (⟨#[]⟩ : ByteArray)]) (t := 23) ?hr ?_; (case hd => rfl); (case hg => rfl); (case hr => first | (go_simp; done) | (go_simp; rfl))
                                 intro gb440 hg w26 hbox hb
                                 have n0_ := Aside0.mk (Kd.R_below (ShortB.rK HO439) hb)
                                 have n1_ := Aside0.mk (blk_below (g := gb441) (o := .cells #[.int .i64 0, .int .i64 0, .string (⟨#[]⟩ : ByteArray)] 23 (0, 0)) (Short.bK BK441) hb)
                                 have n2_ := Aside0.mk (below_step (Short.hB HB) hb)
                                 have n3_ := Aside0.mk (hbox)
                                 have n4_ := Aside0.mk ((by rw [hg]; exact (below_size (Short.hB HB)) : w.heap.size ≤ gb440))
                                 have n5_ := Aside0.mk ((by rw [hg]; exact (below_size (Short.hB HB)) : w.heap.size ≤ gb440))
                                 have n6_ := Aside0.mk ((by rw [hg]; exact Nat.ne_of_lt (blk_lt (g := gb441) (o := .cells #[.int .i64 0, .int .i64 0, .string (⟨#[]⟩ : ByteArray)] 23 (0, 0)) (Short.bK BK441)) : gb441 ≠ gb440))
                                 have n7_ := Aside0.mk ((by rw [hg]; exact Nat.ne_of_gt (blk_lt (g := gb441) (o := .cells #[.int .i64 0, .int .i64 0, .string (⟨#[]⟩ : ByteArray)] 23 (0, 0)) (Short.bK BK441)) : gb440 ≠ gb441))
                                 clear HO439
                                 clear BK441
                                 clear HB
                                 have HO439 := n0_
                                 have BK441 := n1_
                                 have HB := n2_
                                 have BK440 := n3_
                                 have GW440 := n4_
                                 have GE440 := n5_
                                 have NB441_440 := n6_
                                 have NB440_441 := n7_
                                 clear n0_ n1_ n2_ n3_ n4_ n5_ n6_ n7_
                                 clear hb hbox hg
                                 refine hK.out _ _ trivial (fun hHeld => ?_)
                                 clear hK K
                                 refine norm_ (a' := ?_) ?_ ?_
                                 rotate_left
                                 ·
                                  show Act.put _ (some 7) _ = _
                                  simp only [Act.put, List.setIfInBounds_toArray, List.set_cons_zero, List.set_cons_succ, i64_w, i32_w]
                                  rfl
                                 exact ShortB.nE (hJ6_9_10 (v438, gb440, gb441) _ ⟨(ShortB.rK HO439), (Short.bK BK440), (Short.bK BK441), GW440.out, GE440.out, NB441_440.out, NB440_441.out, GW441.out, GE441.out, (Short.hB HB)⟩)
                                ·
                                 skip
                                 refine box_step ?hg (N := 9) ?hd (cs := #[.int .i64 0, .int .i64 0, .string (⟨#[]⟩ : ByteArray)]) (t := 23) ?hr ?_; (case hd => rfl); (case hg => rfl); (case hr => first | (go_simp; done) | (go_simp; rfl))
                                 intro gb442 hg w26 hbox hb
                                 have n0_ := Aside0.mk (Kd.R_below (ShortB.rK HO439) hb)
                                 have n1_ := Aside0.mk (blk_below (g := gb441) (o := .cells #[.int .i64 0, .int .i64 0, .string (⟨#[]⟩ : ByteArray)] 23 (0, 0)) (Short.bK BK441) hb)
                                 have n2_ := Aside0.mk (below_step (Short.hB HB) hb)
                                 have n3_ := Aside0.mk (hbox)
                                 have n4_ := Aside0.mk ((by rw [hg]; exact (below_size (Short.hB HB)) : w.heap.size ≤ gb442))
                                 have n5_ := Aside0.mk ((by rw [hg]; exact (below_size (Short.hB HB)) : w.heap.size ≤ gb442))
                                 have n6_ := Aside0.mk ((by rw [hg]; exact Nat.ne_of_lt (blk_lt (g := gb441) (o := .cells #[.int .i64 0, .int .i64 0, .string (⟨#[]⟩ : ByteArray)] 23 (0, 0)) (Short.bK BK441)) : gb441 ≠ gb442))
                                 have n7_ := Aside0.mk ((by rw [hg]; exact Nat.ne_of_gt (blk_lt (g := gb441) (o := .cells #[.int .i64 0, .int .i64 0, .string (⟨#[]⟩ : ByteArray)] 23 (0, 0)) (Short.bK BK441)) : gb442 ≠ gb441))
                                 clear HO439
                                 clear BK441
                                 clear HB
                                 have HO439 := n0_
                                 have BK441 := n1_
                                 have HB := n2_
                                 have BK442 := n3_
                                 have GW442 := n4_
                                 have GE442 := n5_
                                 have NB441_442 := n6_
                                 have NB442_441 := n7_
                                 clear n0_ n1_ n2_ n3_ n4_ n5_ n6_ n7_
                                 clear hb hbox hg
                                 refine hK.out _ _ trivial (fun hHeld => ?_)
                                 clear hK K
                                 refine norm_ (a' := ?_) ?_ ?_
                                 rotate_left
                                 ·
                                  show Act.put _ (some 9) _ = _
                                  simp only [Act.put, List.setIfInBounds_toArray, List.set_cons_zero, List.set_cons_succ, i64_w, i32_w]
                                  rfl
                                 exact ShortB.nE (hJ6_10_11 (v438, gb441, gb442) _ ⟨(ShortB.rK HO439), (Short.bK BK441), (Short.bK BK442), GW441.out, GE441.out, NB442_441.out, NB441_442.out, GW442.out, GE442.out, (Short.hB HB)⟩)
                              ·
                               skip
                               rintro ⟨v438, gb440⟩ w25 ⟨h0_, h1_, h2_, h3_, h4_⟩
                               have n0_ : Aside0 (Kd.R (Kd.int .u8) 5 w25 w.heap.size (fun _ => True) v438 y437) := ⟨h0_⟩
                               have n1_ : Aside0 (w25.heap[gb440]? = some (.cells #[.int .i64 0, .int .i64 0, .string (⟨#[]⟩ : ByteArray)] 23 (0, 0))) := ⟨h1_⟩
                               have n2_ : Aside0 (w.heap.size ≤ gb440) := ⟨h2_⟩
                               have n3_ : Aside0 (w.heap.size ≤ gb440) := ⟨h3_⟩
                               have n4_ : Aside0 (Below w.heap.size w w25) := ⟨h4_⟩
                               clear HB
                               clear h0_ h1_ h2_ h3_ h4_
                               have HO439 := n0_
                               have BK440 := n1_
                               have GW440 := n2_
                               have GE440 := n3_
                               have HB := n4_
                               clear n0_ n1_ n2_ n3_ n4_
                               have hHeld := trivial
                               refine norm_ (a' := ?_) ?_ ?_
                               rotate_left
                               ·
                                simp only [putAll, Act.put, List.setIfInBounds_toArray, List.set_cons_zero, List.set_cons_succ]
                                rfl
                               refine three_ (i := 7) (j := 10) (k := 11) (Ni := some 30) (Nj := some 8) (Nk := some 9) (Steps.Bs 15 767) (Steps.Bs 15 1663) (Steps.Bs 15 2687) rfl rfl rfl rfl rfl rfl (three_of HT_.out (by kernel_rfl)) (by decide) (by decide) (by decide) (fun K hK => ?_) (fun K hK => ?_) (fun K hK => ?_)
                               ·
                                skip
                                have hcv26 := own_string (P := Try.prog) Try.underlying26 Try.underlying5 Try.underlying9 (Kd.own_of_R HO439.out)
                                refine value_ (w1 := ?_) (v := ?_) (by rfl) rfl ?_ ?_
                                rotate_left 2
                                ·
                                 go_simp
                                 constructor
                                 ·
                                  rfl
                                 ·
                                  rfl
                                clear hcv26
                                refine hK.out _ _ trivial (fun hHeld => ?_)
                                clear hK K
                                refine norm_ (a' := ?_) ?_ ?_
                                rotate_left
                                ·
                                 show Act.put _ (some 30) _ = _
                                 simp only [Act.put, List.setIfInBounds_toArray, List.set_cons_zero, List.set_cons_succ, i64_w, i32_w]
                                 rfl
                                refine Steps.pI_ 8 (some 31) (Steps.Bs 15 1023) (any_of HT_.out (by kernel_rfl)) (h := ?_)
                                exact ShortB.nE (hJ6_7_9 (v438, gb440) _ ⟨(ShortB.rK HO439), (Short.bK BK440), GW440.out, GE440.out, (Short.hB HB)⟩)
                               ·
                                skip
                                refine box_step ?hg (N := 8) ?hd (cs := #[.int .i64 0, .int .i64 0, .string (⟨#[]⟩ : ByteArray)]) (t := 23) ?hr ?_; (case hd => rfl); (case hg => rfl); (case hr => first | (go_simp; done) | (go_simp; rfl))
                                intro gb441 hg w26 hbox hb
                                have n0_ := Aside0.mk (Kd.R_below (ShortB.rK HO439) hb)
                                have n1_ := Aside0.mk (blk_below (g := gb440) (o := .cells #[.int .i64 0, .int .i64 0, .string (⟨#[]⟩ : ByteArray)] 23 (0, 0)) (Short.bK BK440) hb)
                                have n2_ := Aside0.mk (below_step (Short.hB HB) hb)
                                have n3_ := Aside0.mk (hbox)
                                have n4_ := Aside0.mk ((by rw [hg]; exact (below_size (Short.hB HB)) : w.heap.size ≤ gb441))
                                have n5_ := Aside0.mk ((by rw [hg]; exact (below_size (Short.hB HB)) : w.heap.size ≤ gb441))
                                have n6_ := Aside0.mk ((by rw [hg]; exact Nat.ne_of_lt (blk_lt (g := gb440) (o := .cells #[.int .i64 0, .int .i64 0, .string (⟨#[]⟩ : ByteArray)] 23 (0, 0)) (Short.bK BK440)) : gb440 ≠ gb441))
                                have n7_ := Aside0.mk ((by rw [hg]; exact Nat.ne_of_gt (blk_lt (g := gb440) (o := .cells #[.int .i64 0, .int .i64 0, .string (⟨#[]⟩ : ByteArray)] 23 (0, 0)) (Short.bK BK440)) : gb441 ≠ gb440))
                                clear HO439
                                clear BK440
                                clear HB
                                have HO439 := n0_
                                have BK440 := n1_
                                have HB := n2_
                                have BK441 := n3_
                                have GW441 := n4_
                                have GE441 := n5_
                                have NB440_441 := n6_
                                have NB441_440 := n7_
                                clear n0_ n1_ n2_ n3_ n4_ n5_ n6_ n7_
                                clear hb hbox hg
                                refine hK.out _ _ trivial (fun hHeld => ?_)
                                clear hK K
                                refine norm_ (a' := ?_) ?_ ?_
                                rotate_left
                                ·
                                 show Act.put _ (some 8) _ = _
                                 simp only [Act.put, List.setIfInBounds_toArray, List.set_cons_zero, List.set_cons_succ, i64_w, i32_w]
                                 rfl
                                exact ShortB.nE (hJ6_9_10 (v438, gb440, gb441) _ ⟨(ShortB.rK HO439), (Short.bK BK440), (Short.bK BK441), GW440.out, GE440.out, NB441_440.out, NB440_441.out, GW441.out, GE441.out, (Short.hB HB)⟩)
                               ·
                                skip
                                refine box_step ?hg (N := 9) ?hd (cs := #[.int .i64 0, .int .i64 0, .string (⟨#[]⟩ : ByteArray)]) (t := 23) ?hr ?_; (case hd => rfl); (case hg => rfl); (case hr => first | (go_simp; done) | (go_simp; rfl))
                                intro gb442 hg w26 hbox hb
                                have n0_ := Aside0.mk (Kd.R_below (ShortB.rK HO439) hb)
                                have n1_ := Aside0.mk (blk_below (g := gb440) (o := .cells #[.int .i64 0, .int .i64 0, .string (⟨#[]⟩ : ByteArray)] 23 (0, 0)) (Short.bK BK440) hb)
                                have n2_ := Aside0.mk (below_step (Short.hB HB) hb)
                                have n3_ := Aside0.mk (hbox)
                                have n4_ := Aside0.mk ((by rw [hg]; exact (below_size (Short.hB HB)) : w.heap.size ≤ gb442))
                                have n5_ := Aside0.mk ((by rw [hg]; exact (below_size (Short.hB HB)) : w.heap.size ≤ gb442))
                                have n6_ := Aside0.mk ((by rw [hg]; exact Nat.ne_of_lt (blk_lt (g := gb440) (o := .cells #[.int .i64 0, .int .i64 0, .string (⟨#[]⟩ : ByteArray)] 23 (0, 0)) (Short.bK BK440)) : gb440 ≠ gb442))
                                have n7_ := Aside0.mk ((by rw [hg]; exact Nat.ne_of_gt (blk_lt (g := gb440) (o := .cells #[.int .i64 0, .int .i64 0, .string (⟨#[]⟩ : ByteArray)] 23 (0, 0)) (Short.bK BK440)) : gb442 ≠ gb440))
                                clear HO439
                                clear BK440
                                clear HB
                                have HO439 := n0_
                                have BK440 := n1_
                                have HB := n2_
                                have BK442 := n3_
                                have GW442 := n4_
                                have GE442 := n5_
                                have NB440_442 := n6_
                                have NB442_440 := n7_
                                clear n0_ n1_ n2_ n3_ n4_ n5_ n6_ n7_
                                clear hb hbox hg
                                refine hK.out _ _ trivial (fun hHeld => ?_)
                                clear hK K
                                refine norm_ (a' := ?_) ?_ ?_
                                rotate_left
                                ·
                                 show Act.put _ (some 9) _ = _
                                 simp only [Act.put, List.setIfInBounds_toArray, List.set_cons_zero, List.set_cons_succ, i64_w, i32_w]
                                 rfl
                                exact ShortB.nE (hJ6_9_11 (v438, gb440, gb442) _ ⟨(ShortB.rK HO439), (Short.bK BK440), (Short.bK BK442), GW440.out, GE440.out, NB442_440.out, NB440_442.out, GW442.out, GE442.out, (Short.hB HB)⟩)
                             ·
                              skip
                              rintro v438 w25 ⟨h0_, h1_⟩
                              have n0_ : Aside0 (Kd.R (Kd.int .u8) 5 w25 w.heap.size (fun _ => True) v438 y437) := ⟨h0_⟩
                              have n1_ : Aside0 (Below w.heap.size w w25) := ⟨h1_⟩
                              clear HB
                              clear h0_ h1_
                              have HO439 := n0_
                              have HB := n1_
                              clear n0_ n1_
                              have hHeld := trivial
                              refine norm_ (a' := ?_) ?_ ?_
                              rotate_left
                              ·
                               simp only [putAll, Act.put, List.setIfInBounds_toArray, List.set_cons_zero, List.set_cons_succ]
                               rfl
                              refine three_ (i := 9) (j := 10) (k := 11) (Ni := some 7) (Nj := some 8) (Nk := some 9) (Steps.Bs 15 1023) (Steps.Bs 15 1535) (Steps.Bs 15 2559) rfl rfl rfl rfl rfl rfl (three_of HT_.out (by kernel_rfl)) (by decide) (by decide) (by decide) (fun K hK => ?_) (fun K hK => ?_) (fun K hK => ?_)
                              ·
                               skip
                               refine box_step ?hg (N := 7) ?hd (cs := #[.int .i64 0, .int .i64 0, .string (⟨#[]⟩ : ByteArray)]) (t := 23) ?hr ?_; (case hd => rfl); (case hg => rfl); (case hr => first | (go_simp; done) | (go_simp; rfl))
                               intro gb440 hg w26 hbox hb
                               have n0_ := Aside0.mk (Kd.R_below (ShortB.rK HO439) hb)
                               have n1_ := Aside0.mk (below_step (Short.hB HB) hb)
                               have n2_ := Aside0.mk (hbox)
                               have n3_ := Aside0.mk ((by rw [hg]; exact (below_size (Short.hB HB)) : w.heap.size ≤ gb440))
                               have n4_ := Aside0.mk ((by rw [hg]; exact (below_size (Short.hB HB)) : w.heap.size ≤ gb440))
                               clear HO439
                               clear HB
                               have HO439 := n0_
                               have HB := n1_
                               have BK440 := n2_
                               have GW440 := n3_
                               have GE440 := n4_
                               clear n0_ n1_ n2_ n3_ n4_
                               clear hb hbox hg
                               refine hK.out _ _ trivial (fun hHeld => ?_)
                               clear hK K
                               refine norm_ (a' := ?_) ?_ ?_
                               rotate_left
                               ·
                                show Act.put _ (some 7) _ = _
                                simp only [Act.put, List.setIfInBounds_toArray, List.set_cons_zero, List.set_cons_succ, i64_w, i32_w]
                                rfl
                               exact ShortB.nE (hJ6_7_9 (v438, gb440) _ ⟨(ShortB.rK HO439), (Short.bK BK440), GW440.out, GE440.out, (Short.hB HB)⟩)
                              ·
                               skip
                               refine box_step ?hg (N := 8) ?hd (cs := #[.int .i64 0, .int .i64 0, .string (⟨#[]⟩ : ByteArray)]) (t := 23) ?hr ?_; (case hd => rfl); (case hg => rfl); (case hr => first | (go_simp; done) | (go_simp; rfl))
                               intro gb441 hg w26 hbox hb
                               have n0_ := Aside0.mk (Kd.R_below (ShortB.rK HO439) hb)
                               have n1_ := Aside0.mk (below_step (Short.hB HB) hb)
                               have n2_ := Aside0.mk (hbox)
                               have n3_ := Aside0.mk ((by rw [hg]; exact (below_size (Short.hB HB)) : w.heap.size ≤ gb441))
                               have n4_ := Aside0.mk ((by rw [hg]; exact (below_size (Short.hB HB)) : w.heap.size ≤ gb441))
                               clear HO439
                               clear HB
                               have HO439 := n0_
                               have HB := n1_
                               have BK441 := n2_
                               have GW441 := n3_
                               have GE441 := n4_
                               clear n0_ n1_ n2_ n3_ n4_
                               clear hb hbox hg
                               refine hK.out _ _ trivial (fun hHeld => ?_)
                               clear hK K
                               refine norm_ (a' := ?_) ?_ ?_
                               rotate_left
                               ·
                                show Act.put _ (some 8) _ = _
                                simp only [Act.put, List.setIfInBounds_toArray, List.set_cons_zero, List.set_cons_succ, i64_w, i32_w]
                                rfl
                               exact ShortB.nE (hJ6_7_10 (v438, gb441) _ ⟨(ShortB.rK HO439), (Short.bK BK441), GW441.out, GE441.out, (Short.hB HB)⟩)
                              ·
                               skip
                               refine box_step ?hg (N := 9) ?hd (cs := #[.int .i64 0, .int .i64 0, .string (⟨#[]⟩ : ByteArray)]) (t := 23) ?hr ?_; (case hd => rfl); (case hg => rfl); (case hr => first | (go_simp; done) | (go_simp; rfl))
                               intro gb442 hg w26 hbox hb
                               have n0_ := Aside0.mk (Kd.R_below (ShortB.rK HO439) hb)
                               have n1_ := Aside0.mk (below_step (Short.hB HB) hb)
                               have n2_ := Aside0.mk (hbox)
                               have n3_ := Aside0.mk ((by rw [hg]; exact (below_size (Short.hB HB)) : w.heap.size ≤ gb442))
                               have n4_ := Aside0.mk ((by rw [hg]; exact (below_size (Short.hB HB)) : w.heap.size ≤ gb442))
                               clear HO439
                               clear HB
                               have HO439 := n0_
                               have HB := n1_
                               have BK442 := n2_
                               have GW442 := n3_
                               have GE442 := n4_
                               clear n0_ n1_ n2_ n3_ n4_
                               clear hb hbox hg
                               refine hK.out _ _ trivial (fun hHeld => ?_)
                               clear hK K
                               refine norm_ (a' := ?_) ?_ ?_
                               rotate_left
                               ·
                                show Act.put _ (some 9) _ = _
                                simp only [Act.put, List.setIfInBounds_toArray, List.set_cons_zero, List.set_cons_succ, i64_w, i32_w]
                                rfl
                               exact ShortB.nE (hJ6_7_11 (v438, gb442) _ ⟨(ShortB.rK HO439), (Short.bK BK442), GW442.out, GE442.out, (Short.hB HB)⟩)
                            ·
                             skip
                             rintro ⟨gb440, gb441, gb442⟩ w25 ⟨h0_, h1_, h2_, h3_, h4_, h5_, h6_, h7_, h8_, h9_, h10_, h11_, h12_, h13_, h14_, h15_⟩
                             have n0_ : Aside0 (w25.heap[gb440]? = some (.cells #[.int .i64 0, .int .i64 0, .string (⟨#[]⟩ : ByteArray)] 23 (0, 0))) := ⟨h0_⟩
                             have n1_ : Aside0 (w25.heap[gb441]? = some (.cells #[.int .i64 0, .int .i64 0, .string (⟨#[]⟩ : ByteArray)] 23 (0, 0))) := ⟨h1_⟩
                             have n2_ : Aside0 (w25.heap[gb442]? = some (.cells #[.int .i64 0, .int .i64 0, .string (⟨#[]⟩ : ByteArray)] 23 (0, 0))) := ⟨h2_⟩
                             have n3_ : Aside0 (w.heap.size ≤ gb440) := ⟨h3_⟩
                             have n4_ : Aside0 (w.heap.size ≤ gb440) := ⟨h4_⟩
                             have n5_ : Aside0 (gb441 ≠ gb440) := ⟨h5_⟩
                             have n6_ : Aside0 (gb440 ≠ gb441) := ⟨h6_⟩
                             have n7_ : Aside0 (gb442 ≠ gb440) := ⟨h7_⟩
                             have n8_ : Aside0 (gb440 ≠ gb442) := ⟨h8_⟩
                             have n9_ : Aside0 (w.heap.size ≤ gb441) := ⟨h9_⟩
                             have n10_ : Aside0 (w.heap.size ≤ gb441) := ⟨h10_⟩
                             have n11_ : Aside0 (gb442 ≠ gb441) := ⟨h11_⟩
                             have n12_ : Aside0 (gb441 ≠ gb442) := ⟨h12_⟩
                             have n13_ : Aside0 (w.heap.size ≤ gb442) := ⟨h13_⟩
                             have n14_ : Aside0 (w.heap.size ≤ gb442) := ⟨h14_⟩
                             have n15_ : Aside0 (Below w.heap.size w w25) := ⟨h15_⟩
                             clear HB
                             clear h0_ h1_ h2_ h3_ h4_ h5_ h6_ h7_ h8_ h9_ h10_ h11_ h12_ h13_ h14_ h15_
                             have BK440 := n0_
                             have BK441 := n1_
                             have BK442 := n2_
                             have GW440 := n3_
                             have GE440 := n4_
                             have NB441_440 := n5_
                             have NB440_441 := n6_
                             have NB442_440 := n7_
                             have NB440_442 := n8_
                             have GW441 := n9_
                             have GE441 := n10_
                             have NB442_441 := n11_
                             have NB441_442 := n12_
                             have GW442 := n13_
                             have GE442 := n14_
                             have HB := n15_
                             clear n0_ n1_ n2_ n3_ n4_ n5_ n6_ n7_ n8_ n9_ n10_ n11_ n12_ n13_ n14_ n15_
                             have hHeld := trivial
                             refine norm_ (a' := ?_) ?_ ?_
                             rotate_left
                             ·
                              simp only [putAll, Act.put, List.setIfInBounds_toArray, List.set_cons_zero, List.set_cons_succ]
                              rfl
                             refine two_ (i := 6) (j := 12) (Ni := some 29) (Nj := none) (Steps.Bs 15 3711) (Steps.Bs 15 7743) rfl rfl rfl rfl (two_of HT_.out (by kernel_rfl)) (by decide) (by decide) (fun K hK => ?_) (fun K hK => ?_)
                             ·
                              skip
                              refine Kd.R_make_step (Kd.int .u8) _ 5 (by rfl) (N := 29) rfl 26 _ _ rfl ji5 rfl rfl Try.underlying26 (.int .u8 0) 1 info5 rfl (by decide) (by omega) 0 (ok := fun _ => True) (okp := fun _ => True) rfl (fun _ hk => hk) trivial (of_decide_eq_true (by first | (with_reducible assumption) | assumption)) (Nat.le_trans (Nat.mul_le_mul_right _ (of_decide_eq_true (by first | (with_reducible assumption) | assumption) : ji5.toNat ≤ 281474976710656)) (by omega)) (Below.refl _ _) (Nat.le_refl _) ?_
                              intro v438 w26 ho27 hb hg_ hnew_
                              clear hg_ hnew_
                              (first | rw [← Ny437.out] at ho27 | (simp only [Int.reduceToNat] at ho27; rw [← Ny437.out] at ho27))
                              have n0_ := Aside0.mk (Kd.R_lower ho27 (below_size (Short.hB HB)))
                              have n1_ := Aside0.mk (blk_below (g := gb440) (o := .cells #[.int .i64 0, .int .i64 0, .string (⟨#[]⟩ : ByteArray)] 23 (0, 0)) (Short.bK BK440) hb)
                              have n2_ := Aside0.mk (blk_below (g := gb441) (o := .cells #[.int .i64 0, .int .i64 0, .string (⟨#[]⟩ : ByteArray)] 23 (0, 0)) (Short.bK BK441) hb)
                              have n3_ := Aside0.mk (blk_below (g := gb442) (o := .cells #[.int .i64 0, .int .i64 0, .string (⟨#[]⟩ : ByteArray)] 23 (0, 0)) (Short.bK BK442) hb)
                              have n4_ := Aside0.mk (below_step (Short.hB HB) hb)
                              clear BK440
                              clear BK441
                              clear BK442
                              clear HB
                              have HO439 := n0_
                              have BK440 := n1_
                              have BK441 := n2_
                              have BK442 := n3_
                              have HB := n4_
                              clear n0_ n1_ n2_ n3_ n4_
                              clear hb ho27
                              refine hK.out _ _ trivial (fun hHeld => ?_)
                              clear hK K
                              refine norm_ (a' := ?_) ?_ ?_
                              rotate_left
                              ·
                               show Act.put _ (some 29) _ = _
                               simp only [Act.put, List.setIfInBounds_toArray, List.set_cons_zero, List.set_cons_succ, i64_w, i32_w]
                               rfl
                              exact ShortB.nE (hJ6_9_10_11 (v438, gb440, gb441, gb442) _ ⟨(ShortB.rK HO439), (Short.bK BK440), (Short.bK BK441), (Short.bK BK442), GW440.out, GE440.out, NB441_440.out, NB440_441.out, NB442_440.out, NB440_442.out, GW441.out, GE441.out, NB442_441.out, NB441_442.out, GW442.out, GE442.out, (Short.hB HB)⟩)
                             ·
                              skip
                              have hs26 : w25.cell? ⟨gb440, 0, none⟩ = some (.int .i64 0) := (blk_cell BK440.out 0).trans rfl
                              have hfs26 := blk_frozen BK440.out 0
                              have hns26_1 := NB441_440.out
                              have hns26_2 := NB442_440.out
                              have hms26_1 := NB440_441.out
                              have hms26_2 := NB440_442.out
                              have hs27 : w25.cell? ⟨gb440, 1, none⟩ = some (.int .i64 0) := (blk_cell BK440.out 1).trans rfl
                              have hfs27 := blk_frozen BK440.out 1
                              have hns27_1 := NB441_440.out
                              have hns27_2 := NB442_440.out
                              have hms27_1 := NB440_441.out
                              have hms27_2 := NB440_442.out
                              have hs28 : w25.cell? ⟨gb440, 2, none⟩ = some (.string (⟨#[]⟩ : ByteArray)) := (blk_cell BK440.out 2).trans rfl
                              have hfs28 := blk_frozen BK440.out 2
                              have hns28_1 := NB441_440.out
                              have hns28_2 := NB442_440.out
                              have hms28_1 := NB440_441.out
                              have hms28_2 := NB440_442.out
                              refine skip_ (w1 := ?_) (by rfl) rfl ?_ ?_
                              rotate_left
                              ·
                               go_simp
                               rfl
                              refine hK.out _ _ trivial (fun hHeld => ?_)
                              clear hK K
                              exact ShortB.nE (hJ9_10_11_12 (gb440, gb441, gb442) _ ⟨(by (with_reducible repeat (first | refine blk_drewN ?_ _ | refine blk_drew ?_ | refine blk_alloc ?_ _)); refine blk_put (cs := #[.int .i64 3, .int .i64 x5_2, .string (⟨#[]⟩ : ByteArray)]) ?_ 2 _ rfl; (with_reducible repeat (first | refine blk_drewN ?_ _ | refine blk_drew ?_ | refine blk_alloc ?_ _)); refine blk_put (cs := #[.int .i64 3, .int .i64 0, .string (⟨#[]⟩ : ByteArray)]) ?_ 1 _ rfl; (with_reducible repeat (first | refine blk_drewN ?_ _ | refine blk_drew ?_ | refine blk_alloc ?_ _)); refine blk_put (cs := #[.int .i64 0, .int .i64 0, .string (⟨#[]⟩ : ByteArray)]) ?_ 0 _ rfl; (with_reducible repeat (first | refine blk_drewN ?_ _ | refine blk_drew ?_ | refine blk_alloc ?_ _)); exact BK440.out), (by (with_reducible repeat (first | refine blk_drewN ?_ _ | refine blk_drew ?_ | refine blk_alloc ?_ _)); refine blk_far ?_ NB441_440.out _; (with_reducible repeat (first | refine blk_drewN ?_ _ | refine blk_drew ?_ | refine blk_alloc ?_ _)); refine blk_far ?_ NB441_440.out _; (with_reducible repeat (first | refine blk_drewN ?_ _ | refine blk_drew ?_ | refine blk_alloc ?_ _)); refine blk_far ?_ NB441_440.out _; (with_reducible repeat (first | refine blk_drewN ?_ _ | refine blk_drew ?_ | refine blk_alloc ?_ _)); exact BK441.out), (by (with_reducible repeat (first | refine blk_drewN ?_ _ | refine blk_drew ?_ | refine blk_alloc ?_ _)); refine blk_far ?_ NB442_440.out _; (with_reducible repeat (first | refine blk_drewN ?_ _ | refine blk_drew ?_ | refine blk_alloc ?_ _)); refine blk_far ?_ NB442_440.out _; (with_reducible repeat (first | refine blk_drewN ?_ _ | refine blk_drew ?_ | refine blk_alloc ?_ _)); refine blk_far ?_ NB442_440.out _; (with_reducible repeat (first | refine blk_drewN ?_ _ | refine blk_drew ?_ | refine blk_alloc ?_ _)); exact BK442.out), GW440.out, GE440.out, NB441_440.out, NB440_441.out, NB442_440.out, NB440_442.out, GW441.out, GE441.out, NB442_441.out, NB441_442.out, GW442.out, GE442.out, (Short.hB HB)⟩)
                           ·
                            skip
                            rintro ⟨v438, gb441, gb442⟩ w26 ⟨h0_, h1_, h2_, h3_, h4_, h5_, h6_, h7_, h8_, h9_⟩
                            have n0_ : Aside0 (Kd.R (Kd.int .u8) 5 w26 w.heap.size (fun _ => True) v438 y437) := ⟨h0_⟩
                            have n1_ : Aside0 (w26.heap[gb441]? = some (.cells #[.int .i64 0, .int .i64 0, .string (⟨#[]⟩ : ByteArray)] 23 (0, 0))) := ⟨h1_⟩
                            have n2_ : Aside0 (w26.heap[gb442]? = some (.cells #[.int .i64 0, .int .i64 0, .string (⟨#[]⟩ : ByteArray)] 23 (0, 0))) := ⟨h2_⟩
                            have n3_ : Aside0 (w.heap.size ≤ gb441) := ⟨h3_⟩
                            have n4_ : Aside0 (w.heap.size ≤ gb441) := ⟨h4_⟩
                            have n5_ : Aside0 (gb442 ≠ gb441) := ⟨h5_⟩
                            have n6_ : Aside0 (gb441 ≠ gb442) := ⟨h6_⟩
                            have n7_ : Aside0 (w.heap.size ≤ gb442) := ⟨h7_⟩
                            have n8_ : Aside0 (w.heap.size ≤ gb442) := ⟨h8_⟩
                            have n9_ : Aside0 (Below w.heap.size w w26) := ⟨h9_⟩
                            clear HB
                            clear h0_ h1_ h2_ h3_ h4_ h5_ h6_ h7_ h8_ h9_
                            have HO439 := n0_
                            have BK441 := n1_
                            have BK442 := n2_
                            have GW441 := n3_
                            have GE441 := n4_
                            have NB442_441 := n5_
                            have NB441_442 := n6_
                            have GW442 := n7_
                            have GE442 := n8_
                            have HB := n9_
                            clear n0_ n1_ n2_ n3_ n4_ n5_ n6_ n7_ n8_ n9_
                            have hHeld := trivial
                            refine norm_ (a' := ?_) ?_ ?_
                            rotate_left
                            ·
                             simp only [putAll, Act.put, List.setIfInBounds_toArray, List.set_cons_zero, List.set_cons_succ]
                             rfl
                            refine two_ (i := 7) (j := 9) (Ni := some 30) (Nj := some 7) (Steps.Bs 15 3327) (Steps.Bs 15 3711) rfl rfl rfl rfl (two_of HT_.out (by kernel_rfl)) (by decide) (by decide) (fun K hK => ?_) (fun K hK => ?_)
                            ·
                             skip
                             have hcv27 := own_string (P := Try.prog) Try.underlying26 Try.underlying5 Try.underlying9 (Kd.own_of_R HO439.out)
                             refine value_ (w1 := ?_) (v := ?_) (by rfl) rfl ?_ ?_
                             rotate_left 2
                             ·
                              go_simp
                              constructor
                              ·
                               rfl
                              ·
                               rfl
                             clear hcv27
                             refine hK.out _ _ trivial (fun hHeld => ?_)
                             clear hK K
                             refine norm_ (a' := ?_) ?_ ?_
                             rotate_left
                             ·
                              show Act.put _ (some 30) _ = _
                              simp only [Act.put, List.setIfInBounds_toArray, List.set_cons_zero, List.set_cons_succ, i64_w, i32_w]
                              rfl
                             refine Steps.pI_ 8 (some 31) (Steps.Bs 15 3583) (any_of HT_.out (by kernel_rfl)) (h := ?_)
                             exact ShortB.nE (hJ6_7_10_11 (v438, gb441, gb442) _ ⟨(ShortB.rK HO439), (Short.bK BK441), (Short.bK BK442), GW441.out, GE441.out, NB442_441.out, NB441_442.out, GW442.out, GE442.out, (Short.hB HB)⟩)
                            ·
                             skip
                             refine box_step ?hg (N := 7) ?hd (cs := #[.int .i64 0, .int .i64 0, .string (⟨#[]⟩ : ByteArray)]) (t := 23) ?hr ?_; (case hd => rfl); (case hg => rfl); (case hr => first | (go_simp; done) | (go_simp; rfl))
                             intro gb440 hg w27 hbox hb
                             have n0_ := Aside0.mk (Kd.R_below (ShortB.rK HO439) hb)
                             have n1_ := Aside0.mk (blk_below (g := gb441) (o := .cells #[.int .i64 0, .int .i64 0, .string (⟨#[]⟩ : ByteArray)] 23 (0, 0)) (Short.bK BK441) hb)
                             have n2_ := Aside0.mk (blk_below (g := gb442) (o := .cells #[.int .i64 0, .int .i64 0, .string (⟨#[]⟩ : ByteArray)] 23 (0, 0)) (Short.bK BK442) hb)
                             have n3_ := Aside0.mk (below_step (Short.hB HB) hb)
                             have n4_ := Aside0.mk (hbox)
                             have n5_ := Aside0.mk ((by rw [hg]; exact (below_size (Short.hB HB)) : w.heap.size ≤ gb440))
                             have n6_ := Aside0.mk ((by rw [hg]; exact (below_size (Short.hB HB)) : w.heap.size ≤ gb440))
                             have n7_ := Aside0.mk ((by rw [hg]; exact Nat.ne_of_lt (blk_lt (g := gb441) (o := .cells #[.int .i64 0, .int .i64 0, .string (⟨#[]⟩ : ByteArray)] 23 (0, 0)) (Short.bK BK441)) : gb441 ≠ gb440))
                             have n8_ := Aside0.mk ((by rw [hg]; exact Nat.ne_of_gt (blk_lt (g := gb441) (o := .cells #[.int .i64 0, .int .i64 0, .string (⟨#[]⟩ : ByteArray)] 23 (0, 0)) (Short.bK BK441)) : gb440 ≠ gb441))
                             have n9_ := Aside0.mk ((by rw [hg]; exact Nat.ne_of_lt (blk_lt (g := gb442) (o := .cells #[.int .i64 0, .int .i64 0, .string (⟨#[]⟩ : ByteArray)] 23 (0, 0)) (Short.bK BK442)) : gb442 ≠ gb440))
                             have n10_ := Aside0.mk ((by rw [hg]; exact Nat.ne_of_gt (blk_lt (g := gb442) (o := .cells #[.int .i64 0, .int .i64 0, .string (⟨#[]⟩ : ByteArray)] 23 (0, 0)) (Short.bK BK442)) : gb440 ≠ gb442))
                             clear HO439
                             clear BK441
                             clear BK442
                             clear HB
                             have HO439 := n0_
                             have BK441 := n1_
                             have BK442 := n2_
                             have HB := n3_
                             have BK440 := n4_
                             have GW440 := n5_
                             have GE440 := n6_
                             have NB441_440 := n7_
                             have NB440_441 := n8_
                             have NB442_440 := n9_
                             have NB440_442 := n10_
                             clear n0_ n1_ n2_ n3_ n4_ n5_ n6_ n7_ n8_ n9_ n10_
                             clear hb hbox hg
                             refine hK.out _ _ trivial (fun hHeld => ?_)
                             clear hK K
                             refine norm_ (a' := ?_) ?_ ?_
                             rotate_left
                             ·
                              show Act.put _ (some 7) _ = _
                              simp only [Act.put, List.setIfInBounds_toArray, List.set_cons_zero, List.set_cons_succ, i64_w, i32_w]
                              rfl
                             exact ShortB.nE (hJ6_9_10_11 (v438, gb440, gb441, gb442) _ ⟨(ShortB.rK HO439), (Short.bK BK440), (Short.bK BK441), (Short.bK BK442), GW440.out, GE440.out, NB441_440.out, NB440_441.out, NB442_440.out, NB440_442.out, GW441.out, GE441.out, NB442_441.out, NB441_442.out, GW442.out, GE442.out, (Short.hB HB)⟩)
                          ·
                           skip
                           rintro ⟨v438, gb440, gb442⟩ w26 ⟨h0_, h1_, h2_, h3_, h4_, h5_, h6_, h7_, h8_, h9_⟩
                           have n0_ : Aside0 (Kd.R (Kd.int .u8) 5 w26 w.heap.size (fun _ => True) v438 y437) := ⟨h0_⟩
                           have n1_ : Aside0 (w26.heap[gb440]? = some (.cells #[.int .i64 0, .int .i64 0, .string (⟨#[]⟩ : ByteArray)] 23 (0, 0))) := ⟨h1_⟩
                           have n2_ : Aside0 (w26.heap[gb442]? = some (.cells #[.int .i64 0, .int .i64 0, .string (⟨#[]⟩ : ByteArray)] 23 (0, 0))) := ⟨h2_⟩
                           have n3_ : Aside0 (w.heap.size ≤ gb440) := ⟨h3_⟩
                           have n4_ : Aside0 (w.heap.size ≤ gb440) := ⟨h4_⟩
                           have n5_ : Aside0 (gb442 ≠ gb440) := ⟨h5_⟩
                           have n6_ : Aside0 (gb440 ≠ gb442) := ⟨h6_⟩
                           have n7_ : Aside0 (w.heap.size ≤ gb442) := ⟨h7_⟩
                           have n8_ : Aside0 (w.heap.size ≤ gb442) := ⟨h8_⟩
                           have n9_ : Aside0 (Below w.heap.size w w26) := ⟨h9_⟩
                           clear HB
                           clear h0_ h1_ h2_ h3_ h4_ h5_ h6_ h7_ h8_ h9_
                           have HO439 := n0_
                           have BK440 := n1_
                           have BK442 := n2_
                           have GW440 := n3_
                           have GE440 := n4_
                           have NB442_440 := n5_
                           have NB440_442 := n6_
                           have GW442 := n7_
                           have GE442 := n8_
                           have HB := n9_
                           clear n0_ n1_ n2_ n3_ n4_ n5_ n6_ n7_ n8_ n9_
                           have hHeld := trivial
                           refine norm_ (a' := ?_) ?_ ?_
                           rotate_left
                           ·
                            simp only [putAll, Act.put, List.setIfInBounds_toArray, List.set_cons_zero, List.set_cons_succ]
                            rfl
                           refine two_ (i := 7) (j := 10) (Ni := some 30) (Nj := some 8) (Steps.Bs 15 2815) (Steps.Bs 15 3711) rfl rfl rfl rfl (two_of HT_.out (by kernel_rfl)) (by decide) (by decide) (fun K hK => ?_) (fun K hK => ?_)
                           ·
                            skip
                            have hcv27 := own_string (P := Try.prog) Try.underlying26 Try.underlying5 Try.underlying9 (Kd.own_of_R HO439.out)
                            refine value_ (w1 := ?_) (v := ?_) (by rfl) rfl ?_ ?_
                            rotate_left 2
                            ·
                             go_simp
                             constructor
                             ·
                              rfl
                             ·
                              rfl
                            clear hcv27
                            refine hK.out _ _ trivial (fun hHeld => ?_)
                            clear hK K
                            refine norm_ (a' := ?_) ?_ ?_
                            rotate_left
                            ·
                             show Act.put _ (some 30) _ = _
                             simp only [Act.put, List.setIfInBounds_toArray, List.set_cons_zero, List.set_cons_succ, i64_w, i32_w]
                             rfl
                            refine Steps.pI_ 8 (some 31) (Steps.Bs 15 3071) (any_of HT_.out (by kernel_rfl)) (h := ?_)
                            exact ShortB.nE (hJ6_7_9_11 (v438, gb440, gb442) _ ⟨(ShortB.rK HO439), (Short.bK BK440), (Short.bK BK442), GW440.out, GE440.out, NB442_440.out, NB440_442.out, GW442.out, GE442.out, (Short.hB HB)⟩)
                           ·
                            skip
                            refine box_step ?hg (N := 8) ?hd (cs := #[.int .i64 0, .int .i64 0, .string (⟨#[]⟩ : ByteArray)]) (t := 23) ?hr ?_; (case hd => rfl); (case hg => rfl); (case hr => first | (go_simp; done) | (go_simp; rfl))
                            intro gb441 hg w27 hbox hb
                            have n0_ := Aside0.mk (Kd.R_below (ShortB.rK HO439) hb)
                            have n1_ := Aside0.mk (blk_below (g := gb440) (o := .cells #[.int .i64 0, .int .i64 0, .string (⟨#[]⟩ : ByteArray)] 23 (0, 0)) (Short.bK BK440) hb)
                            have n2_ := Aside0.mk (blk_below (g := gb442) (o := .cells #[.int .i64 0, .int .i64 0, .string (⟨#[]⟩ : ByteArray)] 23 (0, 0)) (Short.bK BK442) hb)
                            have n3_ := Aside0.mk (below_step (Short.hB HB) hb)
                            have n4_ := Aside0.mk (hbox)
                            have n5_ := Aside0.mk ((by rw [hg]; exact (below_size (Short.hB HB)) : w.heap.size ≤ gb441))
                            have n6_ := Aside0.mk ((by rw [hg]; exact (below_size (Short.hB HB)) : w.heap.size ≤ gb441))
                            have n7_ := Aside0.mk ((by rw [hg]; exact Nat.ne_of_lt (blk_lt (g := gb440) (o := .cells #[.int .i64 0, .int .i64 0, .string (⟨#[]⟩ : ByteArray)] 23 (0, 0)) (Short.bK BK440)) : gb440 ≠ gb441))
                            have n8_ := Aside0.mk ((by rw [hg]; exact Nat.ne_of_gt (blk_lt (g := gb440) (o := .cells #[.int .i64 0, .int .i64 0, .string (⟨#[]⟩ : ByteArray)] 23 (0, 0)) (Short.bK BK440)) : gb441 ≠ gb440))
                            have n9_ := Aside0.mk ((by rw [hg]; exact Nat.ne_of_lt (blk_lt (g := gb442) (o := .cells #[.int .i64 0, .int .i64 0, .string (⟨#[]⟩ : ByteArray)] 23 (0, 0)) (Short.bK BK442)) : gb442 ≠ gb441))
                            have n10_ := Aside0.mk ((by rw [hg]; exact Nat.ne_of_gt (blk_lt (g := gb442) (o := .cells #[.int .i64 0, .int .i64 0, .string (⟨#[]⟩ : ByteArray)] 23 (0, 0)) (Short.bK BK442)) : gb441 ≠ gb442))
                            clear HO439
                            clear BK440
                            clear BK442
                            clear HB
                            have HO439 := n0_
                            have BK440 := n1_
                            have BK442 := n2_
                            have HB := n3_
                            have BK441 := n4_
                            have GW441 := n5_
                            have GE441 := n6_
                            have NB440_441 := n7_
                            have NB441_440 := n8_
                            have NB442_441 := n9_
                            have NB441_442 := n10_
                            clear n0_ n1_ n2_ n3_ n4_ n5_ n6_ n7_ n8_ n9_ n10_
                            clear hb hbox hg
                            refine hK.out _ _ trivial (fun hHeld => ?_)
                            clear hK K
                            refine norm_ (a' := ?_) ?_ ?_
                            rotate_left
                            ·
                             show Act.put _ (some 8) _ = _
                             simp only [Act.put, List.setIfInBounds_toArray, List.set_cons_zero, List.set_cons_succ, i64_w, i32_w]
                             rfl
                            exact ShortB.nE (hJ6_9_10_11 (v438, gb440, gb441, gb442) _ ⟨(ShortB.rK HO439), (Short.bK BK440), (Short.bK BK441), (Short.bK BK442), GW440.out, GE440.out, NB441_440.out, NB440_441.out, NB442_440.out, NB440_442.out, GW441.out, GE441.out, NB442_441.out, NB441_442.out, GW442.out, GE442.out, (Short.hB HB)⟩)
                         ·
                          skip
                          rintro ⟨v438, gb440, gb441⟩ w26 ⟨h0_, h1_, h2_, h3_, h4_, h5_, h6_, h7_, h8_, h9_⟩
                          have n0_ : Aside0 (Kd.R (Kd.int .u8) 5 w26 w.heap.size (fun _ => True) v438 y437) := ⟨h0_⟩
                          have n1_ : Aside0 (w26.heap[gb440]? = some (.cells #[.int .i64 0, .int .i64 0, .string (⟨#[]⟩ : ByteArray)] 23 (0, 0))) := ⟨h1_⟩
                          have n2_ : Aside0 (w26.heap[gb441]? = some (.cells #[.int .i64 0, .int .i64 0, .string (⟨#[]⟩ : ByteArray)] 23 (0, 0))) := ⟨h2_⟩
                          have n3_ : Aside0 (w.heap.size ≤ gb440) := ⟨h3_⟩
                          have n4_ : Aside0 (w.heap.size ≤ gb440) := ⟨h4_⟩
                          have n5_ : Aside0 (gb441 ≠ gb440) := ⟨h5_⟩
                          have n6_ : Aside0 (gb440 ≠ gb441) := ⟨h6_⟩
                          have n7_ : Aside0 (w.heap.size ≤ gb441) := ⟨h7_⟩
                          have n8_ : Aside0 (w.heap.size ≤ gb441) := ⟨h8_⟩
                          have n9_ : Aside0 (Below w.heap.size w w26) := ⟨h9_⟩
                          clear HB
                          clear h0_ h1_ h2_ h3_ h4_ h5_ h6_ h7_ h8_ h9_
                          have HO439 := n0_
                          have BK440 := n1_
                          have BK441 := n2_
                          have GW440 := n3_
                          have GE440 := n4_
                          have NB441_440 := n5_
                          have NB440_441 := n6_
                          have GW441 := n7_
                          have GE441 := n8_
                          have HB := n9_
                          clear n0_ n1_ n2_ n3_ n4_ n5_ n6_ n7_ n8_ n9_
                          have hHeld := trivial
                          refine norm_ (a' := ?_) ?_ ?_
                          rotate_left
                          ·
                           simp only [putAll, Act.put, List.setIfInBounds_toArray, List.set_cons_zero, List.set_cons_succ]
                           rfl
                          refine two_ (i := 7) (j := 11) (Ni := some 30) (Nj := some 9) (Steps.Bs 15 1791) (Steps.Bs 15 3711) rfl rfl rfl rfl (two_of HT_.out (by kernel_rfl)) (by decide) (by decide) (fun K hK => ?_) (fun K hK => ?_)
                          ·
                           skip
                           have hcv27 := own_string (P := Try.prog) Try.underlying26 Try.underlying5 Try.underlying9 (Kd.own_of_R HO439.out)
                           refine value_ (w1 := ?_) (v := ?_) (by rfl) rfl ?_ ?_
                           rotate_left 2
                           ·
                            go_simp
                            constructor
                            ·
                             rfl
                            ·
                             rfl
                           clear hcv27
                           refine hK.out _ _ trivial (fun hHeld => ?_)
                           clear hK K
                           refine norm_ (a' := ?_) ?_ ?_
                           rotate_left
                           ·
                            show Act.put _ (some 30) _ = _
                            simp only [Act.put, List.setIfInBounds_toArray, List.set_cons_zero, List.set_cons_succ, i64_w, i32_w]
                            rfl
                           refine Steps.pI_ 8 (some 31) (Steps.Bs 15 2047) (any_of HT_.out (by kernel_rfl)) (h := ?_)
                           exact ShortB.nE (hJ6_7_9_10 (v438, gb440, gb441) _ ⟨(ShortB.rK HO439), (Short.bK BK440), (Short.bK BK441), GW440.out, GE440.out, NB441_440.out, NB440_441.out, GW441.out, GE441.out, (Short.hB HB)⟩)
                          ·
                           skip
                           refine box_step ?hg (N := 9) ?hd (cs := #[.int .i64 0, .int .i64 0, .string (⟨#[]⟩ : ByteArray)]) (t := 23) ?hr ?_; (case hd => rfl); (case hg => rfl); (case hr => first | (go_simp; done) | (go_simp; rfl))
                           intro gb442 hg w27 hbox hb
                           have n0_ := Aside0.mk (Kd.R_below (ShortB.rK HO439) hb)
                           have n1_ := Aside0.mk (blk_below (g := gb440) (o := .cells #[.int .i64 0, .int .i64 0, .string (⟨#[]⟩ : ByteArray)] 23 (0, 0)) (Short.bK BK440) hb)
                           have n2_ := Aside0.mk (blk_below (g := gb441) (o := .cells #[.int .i64 0, .int .i64 0, .string (⟨#[]⟩ : ByteArray)] 23 (0, 0)) (Short.bK BK441) hb)
                           have n3_ := Aside0.mk (below_step (Short.hB HB) hb)
                           have n4_ := Aside0.mk (hbox)
                           have n5_ := Aside0.mk ((by rw [hg]; exact (below_size (Short.hB HB)) : w.heap.size ≤ gb442))
                           have n6_ := Aside0.mk ((by rw [hg]; exact (below_size (Short.hB HB)) : w.heap.size ≤ gb442))
                           have n7_ := Aside0.mk ((by rw [hg]; exact Nat.ne_of_lt (blk_lt (g := gb440) (o := .cells #[.int .i64 0, .int .i64 0, .string (⟨#[]⟩ : ByteArray)] 23 (0, 0)) (Short.bK BK440)) : gb440 ≠ gb442))
                           have n8_ := Aside0.mk ((by rw [hg]; exact Nat.ne_of_gt (blk_lt (g := gb440) (o := .cells #[.int .i64 0, .int .i64 0, .string (⟨#[]⟩ : ByteArray)] 23 (0, 0)) (Short.bK BK440)) : gb442 ≠ gb440))
                           have n9_ := Aside0.mk ((by rw [hg]; exact Nat.ne_of_lt (blk_lt (g := gb441) (o := .cells #[.int .i64 0, .int .i64 0, .string (⟨#[]⟩ : ByteArray)] 23 (0, 0)) (Short.bK BK441)) : gb441 ≠ gb442))
                           have n10_ := Aside0.mk ((by rw [hg]; exact Nat.ne_of_gt (blk_lt (g := gb441) (o := .cells #[.int .i64 0, .int .i64 0, .string (⟨#[]⟩ : ByteArray)] 23 (0, 0)) (Short.bK BK441)) : gb442 ≠ gb441))
                           clear HO439
                           clear BK440
                           clear BK441
                           clear HB
                           have HO439 := n0_
                           have BK440 := n1_
                           have BK441 := n2_
                           have HB := n3_
                           have BK442 := n4_
                           have GW442 := n5_
                           have GE442 := n6_
                           have NB440_442 := n7_
                           have NB442_440 := n8_
                           have NB441_442 := n9_
                           have NB442_441 := n10_
                           clear n0_ n1_ n2_ n3_ n4_ n5_ n6_ n7_ n8_ n9_ n10_
                           clear hb hbox hg
                           refine hK.out _ _ trivial (fun hHeld => ?_)
                           clear hK K
                           refine norm_ (a' := ?_) ?_ ?_
                           rotate_left
                           ·
                            show Act.put _ (some 9) _ = _
                            simp only [Act.put, List.setIfInBounds_toArray, List.set_cons_zero, List.set_cons_succ, i64_w, i32_w]
                            rfl
                           exact ShortB.nE (hJ6_9_10_11 (v438, gb440, gb441, gb442) _ ⟨(ShortB.rK HO439), (Short.bK BK440), (Short.bK BK441), (Short.bK BK442), GW440.out, GE440.out, NB441_440.out, NB440_441.out, NB442_440.out, NB440_442.out, GW441.out, GE441.out, NB442_441.out, NB441_442.out, GW442.out, GE442.out, (Short.hB HB)⟩)
                        ·
                         skip
                         rintro ⟨v438, gb442⟩ w26 ⟨h0_, h1_, h2_, h3_, h4_⟩
                         have n0_ : Aside0 (Kd.R (Kd.int .u8) 5 w26 w.heap.size (fun _ => True) v438 y437) := ⟨h0_⟩
                         have n1_ : Aside0 (w26.heap[gb442]? = some (.cells #[.int .i64 0, .int .i64 0, .string (⟨#[]⟩ : ByteArray)] 23 (0, 0))) := ⟨h1_⟩
                         have n2_ : Aside0 (w.heap.size ≤ gb442) := ⟨h2_⟩
                         have n3_ : Aside0 (w.heap.size ≤ gb442) := ⟨h3_⟩
                         have n4_ : Aside0 (Below w.heap.size w w26) := ⟨h4_⟩
                         clear HB
                         clear h0_ h1_ h2_ h3_ h4_
                         have HO439 := n0_
                         have BK442 := n1_
                         have GW442 := n2_
                         have GE442 := n3_
                         have HB := n4_
                         clear n0_ n1_ n2_ n3_ n4_
                         have hHeld := trivial
                         refine norm_ (a' := ?_) ?_ ?_
                         rotate_left
                         ·
                          simp only [putAll, Act.put, List.setIfInBounds_toArray, List.set_cons_zero, List.set_cons_succ]
                          rfl
                         refine two_ (i := 9) (j := 10) (Ni := some 7) (Nj := some 8) (Steps.Bs 15 3071) (Steps.Bs 15 3583) rfl rfl rfl rfl (two_of HT_.out (by kernel_rfl)) (by decide) (by decide) (fun K hK => ?_) (fun K hK => ?_)
                         ·
                          skip
                          refine box_step ?hg (N := 7) ?hd (cs := #[.int .i64 0, .int .i64 0, .string (⟨#[]⟩ : ByteArray)]) (t := 23) ?hr ?_; (case hd => rfl); (case hg => rfl); (case hr => first | (go_simp; done) | (go_simp; rfl))
                          intro gb440 hg w27 hbox hb
                          have n0_ := Aside0.mk (Kd.R_below (ShortB.rK HO439) hb)
                          have n1_ := Aside0.mk (blk_below (g := gb442) (o := .cells #[.int .i64 0, .int .i64 0, .string (⟨#[]⟩ : ByteArray)] 23 (0, 0)) (Short.bK BK442) hb)
                          have n2_ := Aside0.mk (below_step (Short.hB HB) hb)
                          have n3_ := Aside0.mk (hbox)
                          have n4_ := Aside0.mk ((by rw [hg]; exact (below_size (Short.hB HB)) : w.heap.size ≤ gb440))
                          have n5_ := Aside0.mk ((by rw [hg]; exact (below_size (Short.hB HB)) : w.heap.size ≤ gb440))
                          have n6_ := Aside0.mk ((by rw [hg]; exact Nat.ne_of_lt (blk_lt (g := gb442) (o := .cells #[.int .i64 0, .int .i64 0, .string (⟨#[]⟩ : ByteArray)] 23 (0, 0)) (Short.bK BK442)) : gb442 ≠ gb440))
                          have n7_ := Aside0.mk ((by rw [hg]; exact Nat.ne_of_gt (blk_lt (g := gb442) (o := .cells #[.int .i64 0, .int .i64 0, .string (⟨#[]⟩ : ByteArray)] 23 (0, 0)) (Short.bK BK442)) : gb440 ≠ gb442))
                          clear HO439
                          clear BK442
                          clear HB
                          have HO439 := n0_
                          have BK442 := n1_
                          have HB := n2_
                          have BK440 := n3_
                          have GW440 := n4_
                          have GE440 := n5_
                          have NB442_440 := n6_
                          have NB440_442 := n7_
                          clear n0_ n1_ n2_ n3_ n4_ n5_ n6_ n7_
                          clear hb hbox hg
                          refine hK.out _ _ trivial (fun hHeld => ?_)
                          clear hK K
                          refine norm_ (a' := ?_) ?_ ?_
                          rotate_left
                          ·
                           show Act.put _ (some 7) _ = _
                           simp only [Act.put, List.setIfInBounds_toArray, List.set_cons_zero, List.set_cons_succ, i64_w, i32_w]
                           rfl
                          exact ShortB.nE (hJ6_7_9_11 (v438, gb440, gb442) _ ⟨(ShortB.rK HO439), (Short.bK BK440), (Short.bK BK442), GW440.out, GE440.out, NB442_440.out, NB440_442.out, GW442.out, GE442.out, (Short.hB HB)⟩)
                         ·
                          skip
                          refine box_step ?hg (N := 8) ?hd (cs := #[.int .i64 0, .int .i64 0, .string (⟨#[]⟩ : ByteArray)]) (t := 23) ?hr ?_; (case hd => rfl); (case hg => rfl); (case hr => first | (go_simp; done) | (go_simp; rfl))
                          intro gb441 hg w27 hbox hb
                          have n0_ := Aside0.mk (Kd.R_below (ShortB.rK HO439) hb)
                          have n1_ := Aside0.mk (blk_below (g := gb442) (o := .cells #[.int .i64 0, .int .i64 0, .string (⟨#[]⟩ : ByteArray)] 23 (0, 0)) (Short.bK BK442) hb)
                          have n2_ := Aside0.mk (below_step (Short.hB HB) hb)
                          have n3_ := Aside0.mk (hbox)
                          have n4_ := Aside0.mk ((by rw [hg]; exact (below_size (Short.hB HB)) : w.heap.size ≤ gb441))
                          have n5_ := Aside0.mk ((by rw [hg]; exact (below_size (Short.hB HB)) : w.heap.size ≤ gb441))
                          have n6_ := Aside0.mk ((by rw [hg]; exact Nat.ne_of_lt (blk_lt (g := gb442) (o := .cells #[.int .i64 0, .int .i64 0, .string (⟨#[]⟩ : ByteArray)] 23 (0, 0)) (Short.bK BK442)) : gb442 ≠ gb441))
                          have n7_ := Aside0.mk ((by rw [hg]; exact Nat.ne_of_gt (blk_lt (g := gb442) (o := .cells #[.int .i64 0, .int .i64 0, .string (⟨#[]⟩ : ByteArray)] 23 (0, 0)) (Short.bK BK442)) : gb441 ≠ gb442))
                          clear HO439
                          clear BK442
                          clear HB
                          have HO439 := n0_
                          have BK442 := n1_
                          have HB := n2_
                          have BK441 := n3_
                          have GW441 := n4_
                          have GE441 := n5_
                          have NB442_441 := n6_
                          have NB441_442 := n7_
                          clear n0_ n1_ n2_ n3_ n4_ n5_ n6_ n7_
                          clear hb hbox hg
                          refine hK.out _ _ trivial (fun hHeld => ?_)
                          clear hK K
                          refine norm_ (a' := ?_) ?_ ?_
                          rotate_left
                          ·
                           show Act.put _ (some 8) _ = _
                           simp only [Act.put, List.setIfInBounds_toArray, List.set_cons_zero, List.set_cons_succ, i64_w, i32_w]
                           rfl
                          exact ShortB.nE (hJ6_7_10_11 (v438, gb441, gb442) _ ⟨(ShortB.rK HO439), (Short.bK BK441), (Short.bK BK442), GW441.out, GE441.out, NB442_441.out, NB441_442.out, GW442.out, GE442.out, (Short.hB HB)⟩)
                       ·
                        skip
                        rintro ⟨v438, gb441⟩ w26 ⟨h0_, h1_, h2_, h3_, h4_⟩
                        have n0_ : Aside0 (Kd.R (Kd.int .u8) 5 w26 w.heap.size (fun _ => True) v438 y437) := ⟨h0_⟩
                        have n1_ : Aside0 (w26.heap[gb441]? = some (.cells #[.int .i64 0, .int .i64 0, .string (⟨#[]⟩ : ByteArray)] 23 (0, 0))) := ⟨h1_⟩
                        have n2_ : Aside0 (w.heap.size ≤ gb441) := ⟨h2_⟩
                        have n3_ : Aside0 (w.heap.size ≤ gb441) := ⟨h3_⟩
                        have n4_ : Aside0 (Below w.heap.size w w26) := ⟨h4_⟩
                        clear HB
                        clear h0_ h1_ h2_ h3_ h4_
                        have HO439 := n0_
                        have BK441 := n1_
                        have GW441 := n2_
                        have GE441 := n3_
                        have HB := n4_
                        clear n0_ n1_ n2_ n3_ n4_
                        have hHeld := trivial
                        refine norm_ (a' := ?_) ?_ ?_
                        rotate_left
                        ·
                         simp only [putAll, Act.put, List.setIfInBounds_toArray, List.set_cons_zero, List.set_cons_succ]
                         rfl
                        refine two_ (i := 9) (j := 11) (Ni := some 7) (Nj := some 9) (Steps.Bs 15 2047) (Steps.Bs 15 3583) rfl rfl rfl rfl (two_of HT_.out (by kernel_rfl)) (by decide) (by decide) (fun K hK => ?_) (fun K hK => ?_)
                        ·
                         skip
                         refine box_step ?hg (N := 7) ?hd (cs := #[.int .i64 0, .int .i64 0, .string (⟨#[]⟩ : ByteArray)]) (t := 23) ?hr ?_; (case hd => rfl); (case hg => rfl); (case hr => first | (go_simp; done) | (go_simp; rfl))
                         intro gb440 hg w27 hbox hb
                         have n0_ := Aside0.mk (Kd.R_below (ShortB.rK HO439) hb)
                         have n1_ := Aside0.mk (blk_below (g := gb441) (o := .cells #[.int .i64 0, .int .i64 0, .string (⟨#[]⟩ : ByteArray)] 23 (0, 0)) (Short.bK BK441) hb)
                         have n2_ := Aside0.mk (below_step (Short.hB HB) hb)
                         have n3_ := Aside0.mk (hbox)
                         have n4_ := Aside0.mk ((by rw [hg]; exact (below_size (Short.hB HB)) : w.heap.size ≤ gb440))
                         have n5_ := Aside0.mk ((by rw [hg]; exact (below_size (Short.hB HB)) : w.heap.size ≤ gb440))
                         have n6_ := Aside0.mk ((by rw [hg]; exact Nat.ne_of_lt (blk_lt (g := gb441) (o := .cells #[.int .i64 0, .int .i64 0, .string (⟨#[]⟩ : ByteArray)] 23 (0, 0)) (Short.bK BK441)) : gb441 ≠ gb440))
                         have n7_ := Aside0.mk ((by rw [hg]; exact Nat.ne_of_gt (blk_lt (g := gb441) (o := .cells #[.int .i64 0, .int .i64 0, .string (⟨#[]⟩ : ByteArray)] 23 (0, 0)) (Short.bK BK441)) : gb440 ≠ gb441))
                         clear HO439
                         clear BK441
                         clear HB
                         have HO439 := n0_
                         have BK441 := n1_
                         have HB := n2_
                         have BK440 := n3_
                         have GW440 := n4_
                         have GE440 := n5_
                         have NB441_440 := n6_
                         have NB440_441 := n7_
                         clear n0_ n1_ n2_ n3_ n4_ n5_ n6_ n7_
                         clear hb hbox hg
                         refine hK.out _ _ trivial (fun hHeld => ?_)
                         clear hK K
                         refine norm_ (a' := ?_) ?_ ?_
                         rotate_left
                         ·
                          show Act.put _ (some 7) _ = _
                          simp only [Act.put, List.setIfInBounds_toArray, List.set_cons_zero, List.set_cons_succ, i64_w, i32_w]
                          rfl
                         exact ShortB.nE (hJ6_7_9_10 (v438, gb440, gb441) _ ⟨(ShortB.rK HO439), (Short.bK BK440), (Short.bK BK441), GW440.out, GE440.out, NB441_440.out, NB440_441.out, GW441.out, GE441.out, (Short.hB HB)⟩)
                        ·
                         skip
                         refine box_step ?hg (N := 9) ?hd (cs := #[.int .i64 0, .int .i64 0, .string (⟨#[]⟩ : ByteArray)]) (t := 23) ?hr ?_; (case hd => rfl); (case hg => rfl); (case hr => first | (go_simp; done) | (go_simp; rfl))
                         intro gb442 hg w27 hbox hb
                         have n0_ := Aside0.mk (Kd.R_below (ShortB.rK HO439) hb)
                         have n1_ := Aside0.mk (blk_below (g := gb441) (o := .cells #[.int .i64 0, .int .i64 0, .string (⟨#[]⟩ : ByteArray)] 23 (0, 0)) (Short.bK BK441) hb)
                         have n2_ := Aside0.mk (below_step (Short.hB HB) hb)
                         have n3_ := Aside0.mk (hbox)
                         have n4_ := Aside0.mk ((by rw [hg]; exact (below_size (Short.hB HB)) : w.heap.size ≤ gb442))
                         have n5_ := Aside0.mk ((by rw [hg]; exact (below_size (Short.hB HB)) : w.heap.size ≤ gb442))
                         have n6_ := Aside0.mk ((by rw [hg]; exact Nat.ne_of_lt (blk_lt (g := gb441) (o := .cells #[.int .i64 0, .int .i64 0, .string (⟨#[]⟩ : ByteArray)] 23 (0, 0)) (Short.bK BK441)) : gb441 ≠ gb442))
                         have n7_ := Aside0.mk ((by rw [hg]; exact Nat.ne_of_gt (blk_lt (g := gb441) (o := .cells #[.int .i64 0, .int .i64 0, .string (⟨#[]⟩ : ByteArray)] 23 (0, 0)) (Short.bK BK441)) : gb442 ≠ gb441))
                         clear HO439
                         clear BK441
                         clear HB
                         have HO439 := n0_
                         have BK441 := n1_
                         have HB := n2_
                         have BK442 := n3_
                         have GW442 := n4_
                         have GE442 := n5_
                         have NB441_442 := n6_
                         have NB442_441 := n7_
                         clear n0_ n1_ n2_ n3_ n4_ n5_ n6_ n7_
                         clear hb hbox hg
                         refine hK.out _ _ trivial (fun hHeld => ?_)
                         clear hK K
                         refine norm_ (a' := ?_) ?_ ?_
                         rotate_left
                         ·
                          show Act.put _ (some 9) _ = _
                          simp only [Act.put, List.setIfInBounds_toArray, List.set_cons_zero, List.set_cons_succ, i64_w, i32_w]
                          rfl
                         exact ShortB.nE (hJ6_7_10_11 (v438, gb441, gb442) _ ⟨(ShortB.rK HO439), (Short.bK BK441), (Short.bK BK442), GW441.out, GE441.out, NB442_441.out, NB441_442.out, GW442.out, GE442.out, (Short.hB HB)⟩)
                      ·
                       skip
                       rintro ⟨v438, gb440⟩ w26 ⟨h0_, h1_, h2_, h3_, h4_⟩
                       have n0_ : Aside0 (Kd.R (Kd.int .u8) 5 w26 w.heap.size (fun _ => True) v438 y437) := ⟨h0_⟩
                       have n1_ : Aside0 (w26.heap[gb440]? = some (.cells #[.int .i64 0, .int .i64 0, .string (⟨#[]⟩ : ByteArray)] 23 (0, 0))) := ⟨h1_⟩
                       have n2_ : Aside0 (w.heap.size ≤ gb440) := ⟨h2_⟩
                       have n3_ : Aside0 (w.heap.size ≤ gb440) := ⟨h3_⟩
                       have n4_ : Aside0 (Below w.heap.size w w26) := ⟨h4_⟩
                       clear HB
                       clear h0_ h1_ h2_ h3_ h4_
                       have HO439 := n0_
                       have BK440 := n1_
                       have GW440 := n2_
                       have GE440 := n3_
                       have HB := n4_
                       clear n0_ n1_ n2_ n3_ n4_
                       have hHeld := trivial
                       refine norm_ (a' := ?_) ?_ ?_
                       rotate_left
                       ·
                        simp only [putAll, Act.put, List.setIfInBounds_toArray, List.set_cons_zero, List.set_cons_succ]
                        rfl
                       refine two_ (i := 10) (j := 11) (Ni := some 8) (Nj := some 9) (Steps.Bs 15 2047) (Steps.Bs 15 3071) rfl rfl rfl rfl (two_of HT_.out (by kernel_rfl)) (by decide) (by decide) (fun K hK => ?_) (fun K hK => ?_)
                       ·
                        skip
                        refine box_step ?hg (N := 8) ?hd (cs := #[.int .i64 0, .int .i64 0, .string (⟨#[]⟩ : ByteArray)]) (t := 23) ?hr ?_; (case hd => rfl); (case hg => rfl); (case hr => first | (go_simp; done) | (go_simp; rfl))
                        intro gb441 hg w27 hbox hb
                        have n0_ := Aside0.mk (Kd.R_below (ShortB.rK HO439) hb)
                        have n1_ := Aside0.mk (blk_below (g := gb440) (o := .cells #[.int .i64 0, .int .i64 0, .string (⟨#[]⟩ : ByteArray)] 23 (0, 0)) (Short.bK BK440) hb)
                        have n2_ := Aside0.mk (below_step (Short.hB HB) hb)
                        have n3_ := Aside0.mk (hbox)
                        have n4_ := Aside0.mk ((by rw [hg]; exact (below_size (Short.hB HB)) : w.heap.size ≤ gb441))
                        have n5_ := Aside0.mk ((by rw [hg]; exact (below_size (Short.hB HB)) : w.heap.size ≤ gb441))
                        have n6_ := Aside0.mk ((by rw [hg]; exact Nat.ne_of_lt (blk_lt (g := gb440) (o := .cells #[.int .i64 0, .int .i64 0, .string (⟨#[]⟩ : ByteArray)] 23 (0, 0)) (Short.bK BK440)) : gb440 ≠ gb441))
                        have n7_ := Aside0.mk ((by rw [hg]; exact Nat.ne_of_gt (blk_lt (g := gb440) (o := .cells #[.int .i64 0, .int .i64 0, .string (⟨#[]⟩ : ByteArray)] 23 (0, 0)) (Short.bK BK440)) : gb441 ≠ gb440))
                        clear HO439
                        clear BK440
                        clear HB
                        have HO439 := n0_
                        have BK440 := n1_
                        have HB := n2_
                        have BK441 := n3_
                        have GW441 := n4_
                        have GE441 := n5_
                        have NB440_441 := n6_
                        have NB441_440 := n7_
                        clear n0_ n1_ n2_ n3_ n4_ n5_ n6_ n7_
                        clear hb hbox hg
                        refine hK.out _ _ trivial (fun hHeld => ?_)
                        clear hK K
                        refine norm_ (a' := ?_) ?_ ?_
                        rotate_left
                        ·
                         show Act.put _ (some 8) _ = _
                         simp only [Act.put, List.setIfInBounds_toArray, List.set_cons_zero, List.set_cons_succ, i64_w, i32_w]
                         rfl
                        exact ShortB.nE (hJ6_7_9_10 (v438, gb440, gb441) _ ⟨(ShortB.rK HO439), (Short.bK BK440), (Short.bK BK441), GW440.out, GE440.out, NB441_440.out, NB440_441.out, GW441.out, GE441.out, (Short.hB HB)⟩)
                       ·
                        skip
                        refine box_step ?hg (N := 9) ?hd (cs := #[.int .i64 0, .int .i64 0, .string (⟨#[]⟩ : ByteArray)]) (t := 23) ?hr ?_; (case hd => rfl); (case hg => rfl); (case hr => first | (go_simp; done) | (go_simp; rfl))
                        intro gb442 hg w27 hbox hb
                        have n0_ := Aside0.mk (Kd.R_below (ShortB.rK HO439) hb)
                        have n1_ := Aside0.mk (blk_below (g := gb440) (o := .cells #[.int .i64 0, .int .i64 0, .string (⟨#[]⟩ : ByteArray)] 23 (0, 0)) (Short.bK BK440) hb)
                        have n2_ := Aside0.mk (below_step (Short.hB HB) hb)
                        have n3_ := Aside0.mk (hbox)
                        have n4_ := Aside0.mk ((by rw [hg]; exact (below_size (Short.hB HB)) : w.heap.size ≤ gb442))
                        have n5_ := Aside0.mk ((by rw [hg]; exact (below_size (Short.hB HB)) : w.heap.size ≤ gb442))
                        have n6_ := Aside0.mk ((by rw [hg]; exact Nat.ne_of_lt (blk_lt (g := gb440) (o := .cells #[.int .i64 0, .int .i64 0, .string (⟨#[]⟩ : ByteArray)] 23 (0, 0)) (Short.bK BK440)) : gb440 ≠ gb442))
                        have n7_ := Aside0.mk ((by rw [hg]; exact Nat.ne_of_gt (blk_lt (g := gb440) (o := .cells #[.int .i64 0, .int .i64 0, .string (⟨#[]⟩ : ByteArray)] 23 (0, 0)) (Short.bK BK440)) : gb442 ≠ gb440))
                        clear HO439
                        clear BK440
                        clear HB
                        have HO439 := n0_
                        have BK440 := n1_
                        have HB := n2_
                        have BK442 := n3_
                        have GW442 := n4_
                        have GE442 := n5_
                        have NB440_442 := n6_
                        have NB442_440 := n7_
                        clear n0_ n1_ n2_ n3_ n4_ n5_ n6_ n7_
                        clear hb hbox hg
                        refine hK.out _ _ trivial (fun hHeld => ?_)
                        clear hK K
                        refine norm_ (a' := ?_) ?_ ?_
                        rotate_left
                        ·
                         show Act.put _ (some 9) _ = _
                         simp only [Act.put, List.setIfInBounds_toArray, List.set_cons_zero, List.set_cons_succ, i64_w, i32_w]
                         rfl
                        exact ShortB.nE (hJ6_7_9_11 (v438, gb440, gb442) _ ⟨(ShortB.rK HO439), (Short.bK BK440), (Short.bK BK442), GW440.out, GE440.out, NB442_440.out, NB440_442.out, GW442.out, GE442.out, (Short.hB HB)⟩)
                     ·
                      skip
                      rintro ⟨gb440, gb441, gb442⟩ w28 ⟨h0_, h1_, h2_, h3_, h4_, h5_, h6_, h7_, h8_, h9_, h10_, h11_, h12_, h13_, h14_, h15_⟩
                      have n0_ : Aside0 (w28.heap[gb440]? = some (.cells #[.int .i64 3, .int .i64 x5_2, .string (⟨#[]⟩ : ByteArray)] 23 (0, 0))) := ⟨h0_⟩
                      have n1_ : Aside0 (w28.heap[gb441]? = some (.cells #[.int .i64 0, .int .i64 0, .string (⟨#[]⟩ : ByteArray)] 23 (0, 0))) := ⟨h1_⟩
                      have n2_ : Aside0 (w28.heap[gb442]? = some (.cells #[.int .i64 0, .int .i64 0, .string (⟨#[]⟩ : ByteArray)] 23 (0, 0))) := ⟨h2_⟩
                      have n3_ : Aside0 (w.heap.size ≤ gb440) := ⟨h3_⟩
                      have n4_ : Aside0 (w.heap.size ≤ gb440) := ⟨h4_⟩
                      have n5_ : Aside0 (gb441 ≠ gb440) := ⟨h5_⟩
                      have n6_ : Aside0 (gb440 ≠ gb441) := ⟨h6_⟩
                      have n7_ : Aside0 (gb442 ≠ gb440) := ⟨h7_⟩
                      have n8_ : Aside0 (gb440 ≠ gb442) := ⟨h8_⟩
                      have n9_ : Aside0 (w.heap.size ≤ gb441) := ⟨h9_⟩
                      have n10_ : Aside0 (w.heap.size ≤ gb441) := ⟨h10_⟩
                      have n11_ : Aside0 (gb442 ≠ gb441) := ⟨h11_⟩
                      have n12_ : Aside0 (gb441 ≠ gb442) := ⟨h12_⟩
                      have n13_ : Aside0 (w.heap.size ≤ gb442) := ⟨h13_⟩
                      have n14_ : Aside0 (w.heap.size ≤ gb442) := ⟨h14_⟩
                      have n15_ : Aside0 (Below w.heap.size w w28) := ⟨h15_⟩
                      clear HB
                      clear h0_ h1_ h2_ h3_ h4_ h5_ h6_ h7_ h8_ h9_ h10_ h11_ h12_ h13_ h14_ h15_
                      have BK440 := n0_
                      have BK441 := n1_
                      have BK442 := n2_
                      have GW440 := n3_
                      have GE440 := n4_
                      have NB441_440 := n5_
                      have NB440_441 := n6_
                      have NB442_440 := n7_
                      have NB440_442 := n8_
                      have GW441 := n9_
                      have GE441 := n10_
                      have NB442_441 := n11_
                      have NB441_442 := n12_
                      have GW442 := n13_
                      have GE442 := n14_
                      have HB := n15_
                      clear n0_ n1_ n2_ n3_ n4_ n5_ n6_ n7_ n8_ n9_ n10_ n11_ n12_ n13_ n14_ n15_
                      have hHeld := trivial
                      refine norm_ (a' := ?_) ?_ ?_
                      rotate_left
                      ·
                       simp only [putAll, Act.put, List.setIfInBounds_toArray, List.set_cons_zero, List.set_cons_succ]
                       rfl
                      refine two_ (i := 6) (j := 13) (Ni := some 29) (Nj := none) (Steps.Bs 15 7807) (Steps.Bs 15 15935) rfl rfl rfl rfl (two_of HT_.out (by kernel_rfl)) (by decide) (by decide) (fun K hK => ?_) (fun K hK => ?_)
                      ·
                       skip
                       refine Kd.R_make_step (Kd.int .u8) _ 5 (by rfl) (N := 29) rfl 26 _ _ rfl ji5 rfl rfl Try.underlying26 (.int .u8 0) 1 info5 rfl (by decide) (by omega) 0 (ok := fun _ => True) (okp := fun _ => True) rfl (fun _ hk => hk) trivial (of_decide_eq_true (by first | (with_reducible assumption) | assumption)) (Nat.le_trans (Nat.mul_le_mul_right _ (of_decide_eq_true (by first | (with_reducible assumption) | assumption) : ji5.toNat ≤ 281474976710656)) (by omega)) (Below.refl _ _) (Nat.le_refl _) ?_
                       intro v438 w29 ho30 hb hg_ hnew_
                       clear hg_ hnew_
                       (first | rw [← Ny437.out] at ho30 | (simp only [Int.reduceToNat] at ho30; rw [← Ny437.out] at ho30))
                       have n0_ := Aside0.mk (Kd.R_lower ho30 (below_size (Short.hB HB)))
                       have n1_ := Aside0.mk (blk_below (g := gb440) (o := .cells #[.int .i64 3, .int .i64 x5_2, .string (⟨#[]⟩ : ByteArray)] 23 (0, 0)) (Short.bK BK440) hb)
                       have n2_ := Aside0.mk (blk_below (g := gb441) (o := .cells #[.int .i64 0, .int .i64 0, .string (⟨#[]⟩ : ByteArray)] 23 (0, 0)) (Short.bK BK441) hb)
                       have n3_ := Aside0.mk (blk_below (g := gb442) (o := .cells #[.int .i64 0, .int .i64 0, .string (⟨#[]⟩ : ByteArray)] 23 (0, 0)) (Short.bK BK442) hb)
                       have n4_ := Aside0.mk (below_step (Short.hB HB) hb)
                       clear BK440
                       clear BK441
                       clear BK442
                       clear HB
                       have HO439 := n0_
                       have BK440 := n1_
                       have BK441 := n2_
                       have BK442 := n3_
                       have HB := n4_
                       clear n0_ n1_ n2_ n3_ n4_
                       clear hb ho30
                       refine hK.out _ _ trivial (fun hHeld => ?_)
                       clear hK K
                       refine norm_ (a' := ?_) ?_ ?_
                       rotate_left
                       ·
                        show Act.put _ (some 29) _ = _
                        simp only [Act.put, List.setIfInBounds_toArray, List.set_cons_zero, List.set_cons_succ, i64_w, i32_w]
                        rfl
                       exact ShortB.nE (hJ6_9_10_11_12 (v438, gb440, gb441, gb442) _ ⟨(ShortB.rK HO439), (Short.bK BK440), (Short.bK BK441), (Short.bK BK442), GW440.out, GE440.out, NB441_440.out, NB440_441.out, NB442_440.out, NB440_442.out, GW441.out, GE441.out, NB442_441.out, NB441_442.out, GW442.out, GE442.out, (Short.hB HB)⟩)
                      ·
                       skip
                       have hs29 : w28.cell? ⟨gb441, 0, none⟩ = some (.int .i64 0) := (blk_cell BK441.out 0).trans rfl
                       have hfs29 := blk_frozen BK441.out 0
                       have hns29_0 := NB440_441.out
                       have hns29_2 := NB442_441.out
                       have hms29_0 := NB441_440.out
                       have hms29_2 := NB441_442.out
                       have hs30 : w28.cell? ⟨gb441, 1, none⟩ = some (.int .i64 0) := (blk_cell BK441.out 1).trans rfl
                       have hfs30 := blk_frozen BK441.out 1
                       have hns30_0 := NB440_441.out
                       have hns30_2 := NB442_441.out
                       have hms30_0 := NB441_440.out
                       have hms30_2 := NB441_442.out
                       have hs31 : w28.cell? ⟨gb441, 2, none⟩ = some (.string (⟨#[]⟩ : ByteArray)) := (blk_cell BK441.out 2).trans rfl
                       have hfs31 := blk_frozen BK441.out 2
                       have hns31_0 := NB440_441.out
                       have hns31_2 := NB442_441.out
                       have hms31_0 := NB441_440.out
                       have hms31_2 := NB441_442.out
                       refine skip_ (w1 := ?_) (by rfl) rfl ?_ ?_
                       rotate_left
                       ·
                        go_simp
                        rfl
                       refine hK.out _ _ trivial (fun hHeld => ?_)
                       clear hK K
                       exact ShortB.nE (hJ9_10_11_12_13 (gb440, gb441, gb442) _ ⟨(by (with_reducible repeat (first | refine blk_drewN ?_ _ | refine blk_drew ?_ | refine blk_alloc ?_ _)); refine blk_far ?_ NB440_441.out _; (with_reducible repeat (first | refine blk_drewN ?_ _ | refine blk_drew ?_ | refine blk_alloc ?_ _)); refine blk_far ?_ NB440_441.out _; (with_reducible repeat (first | refine blk_drewN ?_ _ | refine blk_drew ?_ | refine blk_alloc ?_ _)); refine blk_far ?_ NB440_441.out _; (with_reducible repeat (first | refine blk_drewN ?_ _ | refine blk_drew ?_ | refine blk_alloc ?_ _)); exact BK440.out), (by (with_reducible repeat (first | refine blk_drewN ?_ _ | refine blk_drew ?_ | refine blk_alloc ?_ _)); refine blk_put (cs := #[.int .i64 3, .int .i64 x6_2, .string (⟨#[]⟩ : ByteArray)]) ?_ 2 _ rfl; (with_reducible repeat (first | refine blk_drewN ?_ _ | refine blk_drew ?_ | refine blk_alloc ?_ _)); refine blk_put (cs := #[.int .i64 3, .int .i64 0, .string (⟨#[]⟩ : ByteArray)]) ?_ 1 _ rfl; (with_reducible repeat (first | refine blk_drewN ?_ _ | refine blk_drew ?_ | refine blk_alloc ?_ _)); refine blk_put (cs := #[.int .i64 0, .int .i64 0, .string (⟨#[]⟩ : ByteArray)]) ?_ 0 _ rfl; (with_reducible repeat (first | refine blk_drewN ?_ _ | refine blk_drew ?_ | refine blk_alloc ?_ _)); exact BK441.out), (by (with_reducible repeat (first | refine blk_drewN ?_ _ | refine blk_drew ?_ | refine blk_alloc ?_ _)); refine blk_far ?_ NB442_441.out _; (with_reducible repeat (first | refine blk_drewN ?_ _ | refine blk_drew ?_ | refine blk_alloc ?_ _)); refine blk_far ?_ NB442_441.out _; (with_reducible repeat (first | refine blk_drewN ?_ _ | refine blk_drew ?_ | refine blk_alloc ?_ _)); refine blk_far ?_ NB442_441.out _; (with_reducible repeat (first | refine blk_drewN ?_ _ | refine blk_drew ?_ | refine blk_alloc ?_ _)); exact BK442.out), GW440.out, GE440.out, NB441_440.out, NB440_441.out, NB442_440.out, NB440_442.out, GW441.out, GE441.out, NB442_441.out, NB441_442.out, GW442.out, GE442.out, (Short.hB HB)⟩)
                    ·
                     skip
                     rintro ⟨v438, gb440, gb441, gb442⟩ w27 ⟨h0_, h1_, h2_, h3_, h4_, h5_, h6_, h7_, h8_, h9_, h10_, h11_, h12_, h13_, h14_, h15_, h16_⟩
                     have n0_ : Aside0 (Kd.R (Kd.int .u8) 5 w27 w.heap.size (fun _ => True) v438 y437) := ⟨h0_⟩
                     have n1_ : Aside0 (w27.heap[gb440]? = some (.cells #[.int .i64 0, .int .i64 0, .string (⟨#[]⟩ : ByteArray)] 23 (0, 0))) := ⟨h1_⟩
                     have n2_ : Aside0 (w27.heap[gb441]? = some (.cells #[.int .i64 0, .int .i64 0, .string (⟨#[]⟩ : ByteArray)] 23 (0, 0))) := ⟨h2_⟩
                     have n3_ : Aside0 (w27.heap[gb442]? = some (.cells #[.int .i64 0, .int .i64 0, .string (⟨#[]⟩ : ByteArray)] 23 (0, 0))) := ⟨h3_⟩
                     have n4_ : Aside0 (w.heap.size ≤ gb440) := ⟨h4_⟩
                     have n5_ : Aside0 (w.heap.size ≤ gb440) := ⟨h5_⟩
                     have n6_ : Aside0 (gb441 ≠ gb440) := ⟨h6_⟩
                     have n7_ : Aside0 (gb440 ≠ gb441) := ⟨h7_⟩
                     have n8_ : Aside0 (gb442 ≠ gb440) := ⟨h8_⟩
                     have n9_ : Aside0 (gb440 ≠ gb442) := ⟨h9_⟩
                     have n10_ : Aside0 (w.heap.size ≤ gb441) := ⟨h10_⟩
                     have n11_ : Aside0 (w.heap.size ≤ gb441) := ⟨h11_⟩
                     have n12_ : Aside0 (gb442 ≠ gb441) := ⟨h12_⟩
                     have n13_ : Aside0 (gb441 ≠ gb442) := ⟨h13_⟩
                     have n14_ : Aside0 (w.heap.size ≤ gb442) := ⟨h14_⟩
                     have n15_ : Aside0 (w.heap.size ≤ gb442) := ⟨h15_⟩
                     have n16_ : Aside0 (Below w.heap.size w w27) := ⟨h16_⟩
                     clear HB
                     clear h0_ h1_ h2_ h3_ h4_ h5_ h6_ h7_ h8_ h9_ h10_ h11_ h12_ h13_ h14_ h15_ h16_
                     have HO439 := n0_
                     have BK440 := n1_
                     have BK441 := n2_
                     have BK442 := n3_
                     have GW440 := n4_
                     have GE440 := n5_
                     have NB441_440 := n6_
                     have NB440_441 := n7_
                     have NB442_440 := n8_
                     have NB440_442 := n9_
                     have GW441 := n10_
                     have GE441 := n11_
                     have NB442_441 := n12_
                     have NB441_442 := n13_
                     have GW442 := n14_
                     have GE442 := n15_
                     have HB := n16_
                     clear n0_ n1_ n2_ n3_ n4_ n5_ n6_ n7_ n8_ n9_ n10_ n11_ n12_ n13_ n14_ n15_ n16_
                     have hHeld := trivial
                     refine norm_ (a' := ?_) ?_ ?_
                     rotate_left
                     ·
                      simp only [putAll, Act.put, List.setIfInBounds_toArray, List.set_cons_zero, List.set_cons_succ]
                      rfl
                     refine two_ (i := 7) (j := 12) (Ni := some 30) (Nj := none) (Steps.Bs 15 3839) (Steps.Bs 15 7807) rfl rfl rfl rfl (two_of HT_.out (by kernel_rfl)) (by decide) (by decide) (fun K hK => ?_) (fun K hK => ?_)
                     ·
                      skip
                      have hcv28 := own_string (P := Try.prog) Try.underlying26 Try.underlying5 Try.underlying9 (Kd.own_of_R HO439.out)
                      refine value_ (w1 := ?_) (v := ?_) (by rfl) rfl ?_ ?_
                      rotate_left 2
                      ·
                       go_simp
                       constructor
                       ·
                        rfl
                       ·
                        rfl
                      clear hcv28
                      refine hK.out _ _ trivial (fun hHeld => ?_)
                      clear hK K
                      refine norm_ (a' := ?_) ?_ ?_
                      rotate_left
                      ·
                       show Act.put _ (some 30) _ = _
                       simp only [Act.put, List.setIfInBounds_toArray, List.set_cons_zero, List.set_cons_succ, i64_w, i32_w]
                       rfl
                      refine Steps.pI_ 8 (some 31) (Steps.Bs 15 4095) (any_of HT_.out (by kernel_rfl)) (h := ?_)
                      exact ShortB.nE (hJ6_7_9_10_11 (v438, gb440, gb441, gb442) _ ⟨(ShortB.rK HO439), (Short.bK BK440), (Short.bK BK441), (Short.bK BK442), GW440.out, GE440.out, NB441_440.out, NB440_441.out, NB442_440.out, NB440_442.out, GW441.out, GE441.out, NB442_441.out, NB441_442.out, GW442.out, GE442.out, (Short.hB HB)⟩)
                     ·
                      skip
                      have hs28 : w27.cell? ⟨gb440, 0, none⟩ = some (.int .i64 0) := (blk_cell BK440.out 0).trans rfl
                      have hfs28 := blk_frozen BK440.out 0
                      have hns28_1 := NB441_440.out
                      have hns28_2 := NB442_440.out
                      have hms28_1 := NB440_441.out
                      have hms28_2 := NB440_442.out
                      have hs29 : w27.cell? ⟨gb440, 1, none⟩ = some (.int .i64 0) := (blk_cell BK440.out 1).trans rfl
                      have hfs29 := blk_frozen BK440.out 1
                      have hns29_1 := NB441_440.out
                      have hns29_2 := NB442_440.out
                      have hms29_1 := NB440_441.out
                      have hms29_2 := NB440_442.out
                      have hs30 : w27.cell? ⟨gb440, 2, none⟩ = some (.string (⟨#[]⟩ : ByteArray)) := (blk_cell BK440.out 2).trans rfl
                      have hfs30 := blk_frozen BK440.out 2
                      have hns30_1 := NB441_440.out
                      have hns30_2 := NB442_440.out
                      have hms30_1 := NB440_441.out
                      have hms30_2 := NB440_442.out
                      refine skip_ (w1 := ?_) (by rfl) rfl ?_ ?_
                      rotate_left
                      ·
                       go_simp
                       rfl
                      refine hK.out _ _ trivial (fun hHeld => ?_)
                      clear hK K
                      exact ShortB.nE (hJ6_9_10_11_12 (v438, gb440, gb441, gb442) _ ⟨(by (with_reducible repeat (first | apply Kd.R_alloc | apply Kd.R_drewN | apply Kd.R_drew)); exact Kd.R_mono (Kd.R_far (p := ⟨gb440, 2, none⟩) (Kd.R_far (p := ⟨gb440, 1, none⟩) (Kd.R_far (p := ⟨gb440, 0, none⟩) (Kd.R_types HO439.out BK440.out (by decide)) (fun _ hk => hk.2) (.int .i64 3)) (fun _ hk => hk.2) (.int .i64 x5_2)) (fun _ hk => hk.2) (.string (⟨#[]⟩ : ByteArray))) (fun _ hk => trivial)), (by (with_reducible repeat (first | refine blk_drewN ?_ _ | refine blk_drew ?_ | refine blk_alloc ?_ _)); refine blk_put (cs := #[.int .i64 3, .int .i64 x5_2, .string (⟨#[]⟩ : ByteArray)]) ?_ 2 _ rfl; (with_reducible repeat (first | refine blk_drewN ?_ _ | refine blk_drew ?_ | refine blk_alloc ?_ _)); refine blk_put (cs := #[.int .i64 3, .int .i64 0, .string (⟨#[]⟩ : ByteArray)]) ?_ 1 _ rfl; (with_reducible repeat (first | refine blk_drewN ?_ _ | refine blk_drew ?_ | refine blk_alloc ?_ _)); refine blk_put (cs := #[.int .i64 0, .int .i64 0, .string (⟨#[]⟩ : ByteArray)]) ?_ 0 _ rfl; (with_reducible repeat (first | refine blk_drewN ?_ _ | refine blk_drew ?_ | refine blk_alloc ?_ _)); exact BK440.out), (by (with_reducible repeat (first | refine blk_drewN ?_ _ | refine blk_drew ?_ | refine blk_alloc ?_ _)); refine blk_far ?_ NB441_440.out _; (with_reducible repeat (first | refine blk_drewN ?_ _ | refine blk_drew ?_ | refine blk_alloc ?_ _)); refine blk_far ?_ NB441_440.out _; (with_reducible repeat (first | refine blk_drewN ?_ _ | refine blk_drew ?_ | refine blk_alloc ?_ _)); refine blk_far ?_ NB441_440.out _; (with_reducible repeat (first | refine blk_drewN ?_ _ | refine blk_drew ?_ | refine blk_alloc ?_ _)); exact BK441.out), (by (with_reducible repeat (first | refine blk_drewN ?_ _ | refine blk_drew ?_ | refine blk_alloc ?_ _)); refine blk_far ?_ NB442_440.out _; (with_reducible repeat (first | refine blk_drewN ?_ _ | refine blk_drew ?_ | refine blk_alloc ?_ _)); refine blk_far ?_ NB442_440.out _; (with_reducible repeat (first | refine blk_drewN ?_ _ | refine blk_drew ?_ | refine blk_alloc ?_ _)); refine blk_far ?_ NB442_440.out _; (with_reducible repeat (first | refine blk_drewN ?_ _ | refine blk_drew ?_ | refine blk_alloc ?_ _)); exact BK442.out), GW440.out, GE440.out, NB441_440.out, NB440_441.out, NB442_440.out, NB440_442.out, GW441.out, GE441.out, NB442_441.out, NB441_442.out, GW442.out, GE442.out, (Short.hB HB)⟩)
                   ·
                    skip
                    rintro ⟨v438, gb441, gb442⟩ w27 ⟨h0_, h1_, h2_, h3_, h4_, h5_, h6_, h7_, h8_, h9_⟩
                    have n0_ : Aside0 (Kd.R (Kd.int .u8) 5 w27 w.heap.size (fun _ => True) v438 y437) := ⟨h0_⟩
                    have n1_ : Aside0 (w27.heap[gb441]? = some (.cells #[.int .i64 0, .int .i64 0, .string (⟨#[]⟩ : ByteArray)] 23 (0, 0))) := ⟨h1_⟩
                    have n2_ : Aside0 (w27.heap[gb442]? = some (.cells #[.int .i64 0, .int .i64 0, .string (⟨#[]⟩ : ByteArray)] 23 (0, 0))) := ⟨h2_⟩
                    have n3_ : Aside0 (w.heap.size ≤ gb441) := ⟨h3_⟩
                    have n4_ : Aside0 (w.heap.size ≤ gb441) := ⟨h4_⟩
                    have n5_ : Aside0 (gb442 ≠ gb441) := ⟨h5_⟩
                    have n6_ : Aside0 (gb441 ≠ gb442) := ⟨h6_⟩
                    have n7_ : Aside0 (w.heap.size ≤ gb442) := ⟨h7_⟩
                    have n8_ : Aside0 (w.heap.size ≤ gb442) := ⟨h8_⟩
                    have n9_ : Aside0 (Below w.heap.size w w27) := ⟨h9_⟩
                    clear HB
                    clear h0_ h1_ h2_ h3_ h4_ h5_ h6_ h7_ h8_ h9_
                    have HO439 := n0_
                    have BK441 := n1_
                    have BK442 := n2_
                    have GW441 := n3_
                    have GE441 := n4_
                    have NB442_441 := n5_
                    have NB441_442 := n6_
                    have GW442 := n7_
                    have GE442 := n8_
                    have HB := n9_
                    clear n0_ n1_ n2_ n3_ n4_ n5_ n6_ n7_ n8_ n9_
                    have hHeld := trivial
                    refine norm_ (a' := ?_) ?_ ?_
                    rotate_left
                    ·
                     simp only [putAll, Act.put, List.setIfInBounds_toArray, List.set_cons_zero, List.set_cons_succ]
                     rfl
                    refine one_ (i := 9) (N := some 7) (Steps.Bs 15 4095) rfl rfl (one_of HT_.out (by kernel_rfl)) (by decide) (fun K hK => ?_)
                    refine box_step ?hg (N := 7) ?hd (cs := #[.int .i64 0, .int .i64 0, .string (⟨#[]⟩ : ByteArray)]) (t := 23) ?hr ?_; (case hd => rfl); (case hg => rfl); (case hr => first | (go_simp; done) | (go_simp; rfl))
                    intro gb440 hg w28 hbox hb
                    have n0_ := Aside0.mk (Kd.R_below (ShortB.rK HO439) hb)
                    have n1_ := Aside0.mk (blk_below (g := gb441) (o := .cells #[.int .i64 0, .int .i64 0, .string (⟨#[]⟩ : ByteArray)] 23 (0, 0)) (Short.bK BK441) hb)
                    have n2_ := Aside0.mk (blk_below (g := gb442) (o := .cells #[.int .i64 0, .int .i64 0, .string (⟨#[]⟩ : ByteArray)] 23 (0, 0)) (Short.bK BK442) hb)
                    have n3_ := Aside0.mk (below_step (Short.hB HB) hb)
                    have n4_ := Aside0.mk (hbox)
                    have n5_ := Aside0.mk ((by rw [hg]; exact (below_size (Short.hB HB)) : w.heap.size ≤ gb440))
                    have n6_ := Aside0.mk ((by rw [hg]; exact (below_size (Short.hB HB)) : w.heap.size ≤ gb440))
                    have n7_ := Aside0.mk ((by rw [hg]; exact Nat.ne_of_lt (blk_lt (g := gb441) (o := .cells #[.int .i64 0, .int .i64 0, .string (⟨#[]⟩ : ByteArray)] 23 (0, 0)) (Short.bK BK441)) : gb441 ≠ gb440))
                    have n8_ := Aside0.mk ((by rw [hg]; exact Nat.ne_of_gt (blk_lt (g := gb441) (o := .cells #[.int .i64 0, .int .i64 0, .string (⟨#[]⟩ : ByteArray)] 23 (0, 0)) (Short.bK BK441)) : gb440 ≠ gb441))
                    have n9_ := Aside0.mk ((by rw [hg]; exact Nat.ne_of_lt (blk_lt (g := gb442) (o := .cells #[.int .i64 0, .int .i64 0, .string (⟨#[]⟩ : ByteArray)] 23 (0, 0)) (Short.bK BK442)) : gb442 ≠ gb440))
                    have n10_ := Aside0.mk ((by rw [hg]; exact Nat.ne_of_gt (blk_lt (g := gb442) (o := .cells #[.int .i64 0, .int .i64 0, .string (⟨#[]⟩ : ByteArray)] 23 (0, 0)) (Short.bK BK442)) : gb440 ≠ gb442))
                    clear HO439
                    clear BK441
                    clear BK442
                    clear HB
                    have HO439 := n0_
                    have BK441 := n1_
                    have BK442 := n2_
                    have HB := n3_
                    have BK440 := n4_
                    have GW440 := n5_
                    have GE440 := n6_
                    have NB441_440 := n7_
                    have NB440_441 := n8_
                    have NB442_440 := n9_
                    have NB440_442 := n10_
                    clear n0_ n1_ n2_ n3_ n4_ n5_ n6_ n7_ n8_ n9_ n10_
                    clear hb hbox hg
                    refine hK.out _ _ trivial (fun hHeld => ?_)
                    clear hK K
                    refine norm_ (a' := ?_) ?_ ?_
                    rotate_left
                    ·
                     show Act.put _ (some 7) _ = _
                     simp only [Act.put, List.setIfInBounds_toArray, List.set_cons_zero, List.set_cons_succ, i64_w, i32_w]
                     rfl
                    exact ShortB.nE (hJ6_7_9_10_11 (v438, gb440, gb441, gb442) _ ⟨(ShortB.rK HO439), (Short.bK BK440), (Short.bK BK441), (Short.bK BK442), GW440.out, GE440.out, NB441_440.out, NB440_441.out, NB442_440.out, NB440_442.out, GW441.out, GE441.out, NB442_441.out, NB441_442.out, GW442.out, GE442.out, (Short.hB HB)⟩)
                  ·
                   skip
                   rintro ⟨v438, gb440, gb442⟩ w27 ⟨h0_, h1_, h2_, h3_, h4_, h5_, h6_, h7_, h8_, h9_⟩
                   have n0_ : Aside0 (Kd.R (Kd.int .u8) 5 w27 w.heap.size (fun _ => True) v438 y437) := ⟨h0_⟩
                   have n1_ : Aside0 (w27.heap[gb440]? = some (.cells #[.int .i64 0, .int .i64 0, .string (⟨#[]⟩ : ByteArray)] 23 (0, 0))) := ⟨h1_⟩
                   have n2_ : Aside0 (w27.heap[gb442]? = some (.cells #[.int .i64 0, .int .i64 0, .string (⟨#[]⟩ : ByteArray)] 23 (0, 0))) := ⟨h2_⟩
                   have n3_ : Aside0 (w.heap.size ≤ gb440) := ⟨h3_⟩
                   have n4_ : Aside0 (w.heap.size ≤ gb440) := ⟨h4_⟩
                   have n5_ : Aside0 (gb442 ≠ gb440) := ⟨h5_⟩
                   have n6_ : Aside0 (gb440 ≠ gb442) := ⟨h6_⟩
                   have n7_ : Aside0 (w.heap.size ≤ gb442) := ⟨h7_⟩
                   have n8_ : Aside0 (w.heap.size ≤ gb442) := ⟨h8_⟩
                   have n9_ : Aside0 (Below w.heap.size w w27) := ⟨h9_⟩
                   clear HB
                   clear h0_ h1_ h2_ h3_ h4_ h5_ h6_ h7_ h8_ h9_
                   have HO439 := n0_
                   have BK440 := n1_
                   have BK442 := n2_
                   have GW440 := n3_
                   have GE440 := n4_
                   have NB442_440 := n5_
                   have NB440_442 := n6_
                   have GW442 := n7_
                   have GE442 := n8_
                   have HB := n9_
                   clear n0_ n1_ n2_ n3_ n4_ n5_ n6_ n7_ n8_ n9_
                   have hHeld := trivial
                   refine norm_ (a' := ?_) ?_ ?_
                   rotate_left
                   ·
                    simp only [putAll, Act.put, List.setIfInBounds_toArray, List.set_cons_zero, List.set_cons_succ]
                    rfl
                   refine one_ (i := 10) (N := some 8) (Steps.Bs 15 4095) rfl rfl (one_of HT_.out (by kernel_rfl)) (by decide) (fun K hK => ?_)
                   refine box_step ?hg (N := 8) ?hd (cs := #[.int .i64 0, .int .i64 0, .string (⟨#[]⟩ : ByteArray)]) (t := 23) ?hr ?_; (case hd => rfl); (case hg => rfl); (case hr => first | (go_simp; done) | (go_simp; rfl))
                   intro gb441 hg w28 hbox hb
                   have n0_ := Aside0.mk (Kd.R_below (ShortB.rK HO439) hb)
                   have n1_ := Aside0.mk (blk_below (g := gb440) (o := .cells #[.int .i64 0, .int .i64 0, .string (⟨#[]⟩ : ByteArray)] 23 (0, 0)) (Short.bK BK440) hb)
                   have n2_ := Aside0.mk (blk_below (g := gb442) (o := .cells #[.int .i64 0, .int .i64 0, .string (⟨#[]⟩ : ByteArray)] 23 (0, 0)) (Short.bK BK442) hb)
                   have n3_ := Aside0.mk (below_step (Short.hB HB) hb)
                   have n4_ := Aside0.mk (hbox)
                   have n5_ := Aside0.mk ((by rw [hg]; exact (below_size (Short.hB HB)) : w.heap.size ≤ gb441))
                   have n6_ := Aside0.mk ((by rw [hg]; exact (below_size (Short.hB HB)) : w.heap.size ≤ gb441))
                   have n7_ := Aside0.mk ((by rw [hg]; exact Nat.ne_of_lt (blk_lt (g := gb440) (o := .cells #[.int .i64 0, .int .i64 0, .string (⟨#[]⟩ : ByteArray)] 23 (0, 0)) (Short.bK BK440)) : gb440 ≠ gb441))
                   have n8_ := Aside0.mk ((by rw [hg]; exact Nat.ne_of_gt (blk_lt (g := gb440) (o := .cells #[.int .i64 0, .int .i64 0, .string (⟨#[]⟩ : ByteArray)] 23 (0, 0)) (Short.bK BK440)) : gb441 ≠ gb440))
                   have n9_ := Aside0.mk ((by rw [hg]; exact Nat.ne_of_lt (blk_lt (g := gb442) (o := .cells #[.int .i64 0, .int .i64 0, .string (⟨#[]⟩ : ByteArray)] 23 (0, 0)) (Short.bK BK442)) : gb442 ≠ gb441))
                   have n10_ := Aside0.mk ((by rw [hg]; exact Nat.ne_of_gt (blk_lt (g := gb442) (o := .cells #[.int .i64 0, .int .i64 0, .string (⟨#[]⟩ : ByteArray)] 23 (0, 0)) (Short.bK BK442)) : gb441 ≠ gb442))
                   clear HO439
                   clear BK440
                   clear BK442
                   clear HB
                   have HO439 := n0_
                   have BK440 := n1_
                   have BK442 := n2_
                   have HB := n3_
                   have BK441 := n4_
                   have GW441 := n5_
                   have GE441 := n6_
                   have NB440_441 := n7_
                   have NB441_440 := n8_
                   have NB442_441 := n9_
                   have NB441_442 := n10_
                   clear n0_ n1_ n2_ n3_ n4_ n5_ n6_ n7_ n8_ n9_ n10_
                   clear hb hbox hg
                   refine hK.out _ _ trivial (fun hHeld => ?_)
                   clear hK K
                   refine norm_ (a' := ?_) ?_ ?_
                   rotate_left
                   ·
                    show Act.put _ (some 8) _ = _
                    simp only [Act.put, List.setIfInBounds_toArray, List.set_cons_zero, List.set_cons_succ, i64_w, i32_w]
                    rfl
                   exact ShortB.nE (hJ6_7_9_10_11 (v438, gb440, gb441, gb442) _ ⟨(ShortB.rK HO439), (Short.bK BK440), (Short.bK BK441), (Short.bK BK442), GW440.out, GE440.out, NB441_440.out, NB440_441.out, NB442_440.out, NB440_442.out, GW441.out, GE441.out, NB442_441.out, NB441_442.out, GW442.out, GE442.out, (Short.hB HB)⟩)
                 ·
                  skip
                  rintro ⟨v438, gb440, gb441⟩ w27 ⟨h0_, h1_, h2_, h3_, h4_, h5_, h6_, h7_, h8_, h9_⟩
                  have n0_ : Aside0 (Kd.R (Kd.int .u8) 5 w27 w.heap.size (fun _ => True) v438 y437) := ⟨h0_⟩
                  have n1_ : Aside0 (w27.heap[gb440]? = some (.cells #[.int .i64 0, .int .i64 0, .string (⟨#[]⟩ : ByteArray)] 23 (0, 0))) := ⟨h1_⟩
                  have n2_ : Aside0 (w27.heap[gb441]? = some (.cells #[.int .i64 0, .int .i64 0, .string (⟨#[]⟩ : ByteArray)] 23 (0, 0))) := ⟨h2_⟩
                  have n3_ : Aside0 (w.heap.size ≤ gb440) := ⟨h3_⟩
                  have n4_ : Aside0 (w.heap.size ≤ gb440) := ⟨h4_⟩
                  have n5_ : Aside0 (gb441 ≠ gb440) := ⟨h5_⟩
                  have n6_ : Aside0 (gb440 ≠ gb441) := ⟨h6_⟩
                  have n7_ : Aside0 (w.heap.size ≤ gb441) := ⟨h7_⟩
                  have n8_ : Aside0 (w.heap.size ≤ gb441) := ⟨h8_⟩
                  have n9_ : Aside0 (Below w.heap.size w w27) := ⟨h9_⟩
                  clear HB
                  clear h0_ h1_ h2_ h3_ h4_ h5_ h6_ h7_ h8_ h9_
                  have HO439 := n0_
                  have BK440 := n1_
                  have BK441 := n2_
                  have GW440 := n3_
                  have GE440 := n4_
                  have NB441_440 := n5_
                  have NB440_441 := n6_
                  have GW441 := n7_
                  have GE441 := n8_
                  have HB := n9_
                  clear n0_ n1_ n2_ n3_ n4_ n5_ n6_ n7_ n8_ n9_
                  have hHeld := trivial
                  refine norm_ (a' := ?_) ?_ ?_
                  rotate_left
                  ·
                   simp only [putAll, Act.put, List.setIfInBounds_toArray, List.set_cons_zero, List.set_cons_succ]
                   rfl
                  refine one_ (i := 11) (N := some 9) (Steps.Bs 15 4095) rfl rfl (one_of HT_.out (by kernel_rfl)) (by decide) (fun K hK => ?_)
                  refine box_step ?hg (N := 9) ?hd (cs := #[.int .i64 0, .int .i64 0, .string (⟨#[]⟩ : ByteArray)]) (t := 23) ?hr ?_; (case hd => rfl); (case hg => rfl); (case hr => first | (go_simp; done) | (go_simp; rfl))
                  intro gb442 hg w28 hbox hb
                  have n0_ := Aside0.mk (Kd.R_below (ShortB.rK HO439) hb)
                  have n1_ := Aside0.mk (blk_below (g := gb440) (o := .cells #[.int .i64 0, .int .i64 0, .string (⟨#[]⟩ : ByteArray)] 23 (0, 0)) (Short.bK BK440) hb)
                  have n2_ := Aside0.mk (blk_below (g := gb441) (o := .cells #[.int .i64 0, .int .i64 0, .string (⟨#[]⟩ : ByteArray)] 23 (0, 0)) (Short.bK BK441) hb)
                  have n3_ := Aside0.mk (below_step (Short.hB HB) hb)
                  have n4_ := Aside0.mk (hbox)
                  have n5_ := Aside0.mk ((by rw [hg]; exact (below_size (Short.hB HB)) : w.heap.size ≤ gb442))
                  have n6_ := Aside0.mk ((by rw [hg]; exact (below_size (Short.hB HB)) : w.heap.size ≤ gb442))
                  have n7_ := Aside0.mk ((by rw [hg]; exact Nat.ne_of_lt (blk_lt (g := gb440) (o := .cells #[.int .i64 0, .int .i64 0, .string (⟨#[]⟩ : ByteArray)] 23 (0, 0)) (Short.bK BK440)) : gb440 ≠ gb442))
                  have n8_ := Aside0.mk ((by rw [hg]; exact Nat.ne_of_gt (blk_lt (g := gb440) (o := .cells #[.int .i64 0, .int .i64 0, .string (⟨#[]⟩ : ByteArray)] 23 (0, 0)) (Short.bK BK440)) : gb442 ≠ gb440))
                  have n9_ := Aside0.mk ((by rw [hg]; exact Nat.ne_of_lt (blk_lt (g := gb441) (o := .cells #[.int .i64 0, .int .i64 0, .string (⟨#[]⟩ : ByteArray)] 23 (0, 0)) (Short.bK BK441)) : gb441 ≠ gb442))
                  have n10_ := Aside0.mk ((by rw [hg]; exact Nat.ne_of_gt (blk_lt (g := gb441) (o := .cells #[.int .i64 0, .int .i64 0, .string (⟨#[]⟩ : ByteArray)] 23 (0, 0)) (Short.bK BK441)) : gb442 ≠ gb441))
                  clear HO439
                  clear BK440
                  clear BK441
                  clear HB
                  have HO439 := n0_
                  have BK440 := n1_
                  have BK441 := n2_
                  have HB := n3_
                  have BK442 := n4_
                  have GW442 := n5_
                  have GE442 := n6_
                  have NB440_442 := n7_
                  have NB442_440 := n8_
                  have NB441_442 := n9_
                  have NB442_441 := n10_
                  clear n0_ n1_ n2_ n3_ n4_ n5_ n6_ n7_ n8_ n9_ n10_
                  clear hb hbox hg
                  refine hK.out _ _ trivial (fun hHeld => ?_)
                  clear hK K
                  refine norm_ (a' := ?_) ?_ ?_
                  rotate_left
                  ·
                   show Act.put _ (some 9) _ = _
                   simp only [Act.put, List.setIfInBounds_toArray, List.set_cons_zero, List.set_cons_succ, i64_w, i32_w]
                   rfl
                  exact ShortB.nE (hJ6_7_9_10_11 (v438, gb440, gb441, gb442) _ ⟨(ShortB.rK HO439), (Short.bK BK440), (Short.bK BK441), (Short.bK BK442), GW440.out, GE440.out, NB441_440.out, NB440_441.out, NB442_440.out, NB440_442.out, GW441.out, GE441.out, NB442_441.out, NB441_442.out, GW442.out, GE442.out, (Short.hB HB)⟩)
                ·
                 skip
                 rintro ⟨gb440, gb441, gb442⟩ w31 ⟨h0_, h1_, h2_, h3_, h4_, h5_, h6_, h7_, h8_, h9_, h10_, h11_, h12_, h13_, h14_, h15_⟩
                 have n0_ : Aside0 (w31.heap[gb440]? = some (.cells #[.int .i64 3, .int .i64 x5_2, .string (⟨#[]⟩ : ByteArray)] 23 (0, 0))) := ⟨h0_⟩
                 have n1_ : Aside0 (w31.heap[gb441]? = some (.cells #[.int .i64 3, .int .i64 x6_2, .string (⟨#[]⟩ : ByteArray)] 23 (0, 0))) := ⟨h1_⟩
                 have n2_ : Aside0 (w31.heap[gb442]? = some (.cells #[.int .i64 0, .int .i64 0, .string (⟨#[]⟩ : ByteArray)] 23 (0, 0))) := ⟨h2_⟩
                 have n3_ : Aside0 (w.heap.size ≤ gb440) := ⟨h3_⟩
                 have n4_ : Aside0 (w.heap.size ≤ gb440) := ⟨h4_⟩
                 have n5_ : Aside0 (gb441 ≠ gb440) := ⟨h5_⟩
                 have n6_ : Aside0 (gb440 ≠ gb441) := ⟨h6_⟩
                 have n7_ : Aside0 (gb442 ≠ gb440) := ⟨h7_⟩
                 have n8_ : Aside0 (gb440 ≠ gb442) := ⟨h8_⟩
                 have n9_ : Aside0 (w.heap.size ≤ gb441) := ⟨h9_⟩
                 have n10_ : Aside0 (w.heap.size ≤ gb441) := ⟨h10_⟩
                 have n11_ : Aside0 (gb442 ≠ gb441) := ⟨h11_⟩
                 have n12_ : Aside0 (gb441 ≠ gb442) := ⟨h12_⟩
                 have n13_ : Aside0 (w.heap.size ≤ gb442) := ⟨h13_⟩
                 have n14_ : Aside0 (w.heap.size ≤ gb442) := ⟨h14_⟩
                 have n15_ : Aside0 (Below w.heap.size w w31) := ⟨h15_⟩
                 clear HB
                 clear h0_ h1_ h2_ h3_ h4_ h5_ h6_ h7_ h8_ h9_ h10_ h11_ h12_ h13_ h14_ h15_
                 have BK440 := n0_
                 have BK441 := n1_
                 have BK442 := n2_
                 have GW440 := n3_
                 have GE440 := n4_
                 have NB441_440 := n5_
                 have NB440_441 := n6_
                 have NB442_440 := n7_
                 have NB440_442 := n8_
                 have GW441 := n9_
                 have GE441 := n10_
                 have NB442_441 := n11_
                 have NB441_442 := n12_
                 have GW442 := n13_
                 have GE442 := n14_
                 have HB := n15_
                 clear n0_ n1_ n2_ n3_ n4_ n5_ n6_ n7_ n8_ n9_ n10_ n11_ n12_ n13_ n14_ n15_
                 have hHeld := trivial
                 refine norm_ (a' := ?_) ?_ ?_
                 rotate_left
                 ·
                  simp only [putAll, Act.put, List.setIfInBounds_toArray, List.set_cons_zero, List.set_cons_succ]
                  rfl
                 refine one_ (i := 6) (N := some 29) (Steps.Bs 15 15999) rfl rfl (one_of HT_.out (by kernel_rfl)) (by decide) (fun K hK => ?_)
                 refine Kd.R_make_step (Kd.int .u8) _ 5 (by rfl) (N := 29) rfl 26 _ _ rfl ji5 rfl rfl Try.underlying26 (.int .u8 0) 1 info5 rfl (by decide) (by omega) 0 (ok := fun _ => True) (okp := fun _ => True) rfl (fun _ hk => hk) trivial (of_decide_eq_true (by first | (with_reducible assumption) | assumption)) (Nat.le_trans (Nat.mul_le_mul_right _ (of_decide_eq_true (by first | (with_reducible assumption) | assumption) : ji5.toNat ≤ 281474976710656)) (by omega)) (Below.refl _ _) (Nat.le_refl _) ?_
                 intro v438 w32 ho33 hb hg_ hnew_
                 clear hg_ hnew_
                 (first | rw [← Ny437.out] at ho33 | (simp only [Int.reduceToNat] at ho33; rw [← Ny437.out] at ho33))
                 have n0_ := Aside0.mk (Kd.R_lower ho33 (below_size (Short.hB HB)))
                 have n1_ := Aside0.mk (blk_below (g := gb440) (o := .cells #[.int .i64 3, .int .i64 x5_2, .string (⟨#[]⟩ : ByteArray)] 23 (0, 0)) (Short.bK BK440) hb)
                 have n2_ := Aside0.mk (blk_below (g := gb441) (o := .cells #[.int .i64 3, .int .i64 x6_2, .string (⟨#[]⟩ : ByteArray)] 23 (0, 0)) (Short.bK BK441) hb)
                 have n3_ := Aside0.mk (blk_below (g := gb442) (o := .cells #[.int .i64 0, .int .i64 0, .string (⟨#[]⟩ : ByteArray)] 23 (0, 0)) (Short.bK BK442) hb)
                 have n4_ := Aside0.mk (below_step (Short.hB HB) hb)
                 clear BK440
                 clear BK441
                 clear BK442
                 clear HB
                 have HO439 := n0_
                 have BK440 := n1_
                 have BK441 := n2_
                 have BK442 := n3_
                 have HB := n4_
                 clear n0_ n1_ n2_ n3_ n4_
                 clear hb ho33
                 refine hK.out _ _ trivial (fun hHeld => ?_)
                 clear hK K
                 refine norm_ (a' := ?_) ?_ ?_
                 rotate_left
                 ·
                  show Act.put _ (some 29) _ = _
                  simp only [Act.put, List.setIfInBounds_toArray, List.set_cons_zero, List.set_cons_succ, i64_w, i32_w]
                  rfl
                 exact ShortB.nE (hJ6_9_10_11_12_13 (v438, gb440, gb441, gb442) _ ⟨(ShortB.rK HO439), (Short.bK BK440), (Short.bK BK441), (Short.bK BK442), GW440.out, GE440.out, NB441_440.out, NB440_441.out, NB442_440.out, NB440_442.out, GW441.out, GE441.out, NB442_441.out, NB441_442.out, GW442.out, GE442.out, (Short.hB HB)⟩)
               ·
                skip
                rintro ⟨v438, gb440, gb441, gb442⟩ w30 ⟨h0_, h1_, h2_, h3_, h4_, h5_, h6_, h7_, h8_, h9_, h10_, h11_, h12_, h13_, h14_, h15_, h16_⟩
                have n0_ : Aside0 (Kd.R (Kd.int .u8) 5 w30 w.heap.size (fun _ => True) v438 y437) := ⟨h0_⟩
                have n1_ : Aside0 (w30.heap[gb440]? = some (.cells #[.int .i64 3, .int .i64 x5_2, .string (⟨#[]⟩ : ByteArray)] 23 (0, 0))) := ⟨h1_⟩
                have n2_ : Aside0 (w30.heap[gb441]? = some (.cells #[.int .i64 0, .int .i64 0, .string (⟨#[]⟩ : ByteArray)] 23 (0, 0))) := ⟨h2_⟩
                have n3_ : Aside0 (w30.heap[gb442]? = some (.cells #[.int .i64 0, .int .i64 0, .string (⟨#[]⟩ : ByteArray)] 23 (0, 0))) := ⟨h3_⟩
                have n4_ : Aside0 (w.heap.size ≤ gb440) := ⟨h4_⟩
                have n5_ : Aside0 (w.heap.size ≤ gb440) := ⟨h5_⟩
                have n6_ : Aside0 (gb441 ≠ gb440) := ⟨h6_⟩
                have n7_ : Aside0 (gb440 ≠ gb441) := ⟨h7_⟩
                have n8_ : Aside0 (gb442 ≠ gb440) := ⟨h8_⟩
                have n9_ : Aside0 (gb440 ≠ gb442) := ⟨h9_⟩
                have n10_ : Aside0 (w.heap.size ≤ gb441) := ⟨h10_⟩
                have n11_ : Aside0 (w.heap.size ≤ gb441) := ⟨h11_⟩
                have n12_ : Aside0 (gb442 ≠ gb441) := ⟨h12_⟩
                have n13_ : Aside0 (gb441 ≠ gb442) := ⟨h13_⟩
                have n14_ : Aside0 (w.heap.size ≤ gb442) := ⟨h14_⟩
                have n15_ : Aside0 (w.heap.size ≤ gb442) := ⟨h15_⟩
                have n16_ : Aside0 (Below w.heap.size w w30) := ⟨h16_⟩
                clear HB
                clear h0_ h1_ h2_ h3_ h4_ h5_ h6_ h7_ h8_ h9_ h10_ h11_ h12_ h13_ h14_ h15_ h16_
                have HO439 := n0_
                have BK440 := n1_
                have BK441 := n2_
                have BK442 := n3_
                have GW440 := n4_
                have GE440 := n5_
                have NB441_440 := n6_
                have NB440_441 := n7_
                have NB442_440 := n8_
                have NB440_442 := n9_
                have GW441 := n10_
                have GE441 := n11_
                have NB442_441 := n12_
                have NB441_442 := n13_
                have GW442 := n14_
                have GE442 := n15_
                have HB := n16_
                clear n0_ n1_ n2_ n3_ n4_ n5_ n6_ n7_ n8_ n9_ n10_ n11_ n12_ n13_ n14_ n15_ n16_
                have hHeld := trivial
                refine norm_ (a' := ?_) ?_ ?_
                rotate_left
                ·
                 simp only [putAll, Act.put, List.setIfInBounds_toArray, List.set_cons_zero, List.set_cons_succ]
                 rfl
                refine two_ (i := 7) (j := 13) (Ni := some 30) (Nj := none) (Steps.Bs 15 7935) (Steps.Bs 15 15999) rfl rfl rfl rfl (two_of HT_.out (by kernel_rfl)) (by decide) (by decide) (fun K hK => ?_) (fun K hK => ?_)
                ·
                 skip
                 have hcv31 := own_string (P := Try.prog) Try.underlying26 Try.underlying5 Try.underlying9 (Kd.own_of_R HO439.out)
                 refine value_ (w1 := ?_) (v := ?_) (by rfl) rfl ?_ ?_
                 rotate_left 2
                 ·
                  go_simp
                  constructor
                  ·
                   rfl
                  ·
                   rfl
                 clear hcv31
                 refine hK.out _ _ trivial (fun hHeld => ?_)
                 clear hK K
                 refine norm_ (a' := ?_) ?_ ?_
                 rotate_left
                 ·
                  show Act.put _ (some 30) _ = _
                  simp only [Act.put, List.setIfInBounds_toArray, List.set_cons_zero, List.set_cons_succ, i64_w, i32_w]
                  rfl
                 refine Steps.pI_ 8 (some 31) (Steps.Bs 15 8191) (any_of HT_.out (by kernel_rfl)) (h := ?_)
                 exact ShortB.nE (hJ6_7_9_10_11_12 (v438, gb440, gb441, gb442) _ ⟨(ShortB.rK HO439), (Short.bK BK440), (Short.bK BK441), (Short.bK BK442), GW440.out, GE440.out, NB441_440.out, NB440_441.out, NB442_440.out, NB440_442.out, GW441.out, GE441.out, NB442_441.out, NB441_442.out, GW442.out, GE442.out, (Short.hB HB)⟩)
                ·
                 skip
                 have hs31 : w30.cell? ⟨gb441, 0, none⟩ = some (.int .i64 0) := (blk_cell BK441.out 0).trans rfl
                 have hfs31 := blk_frozen BK441.out 0
                 have hns31_0 := NB440_441.out
                 have hns31_2 := NB442_441.out
                 have hms31_0 := NB441_440.out
                 have hms31_2 := NB441_442.out
                 have hs32 : w30.cell? ⟨gb441, 1, none⟩ = some (.int .i64 0) := (blk_cell BK441.out 1).trans rfl
                 have hfs32 := blk_frozen BK441.out 1
                 have hns32_0 := NB440_441.out
                 have hns32_2 := NB442_441.out
                 have hms32_0 := NB441_440.out
                 have hms32_2 := NB441_442.out
                 have hs33 : w30.cell? ⟨gb441, 2, none⟩ = some (.string (⟨#[]⟩ : ByteArray)) := (blk_cell BK441.out 2).trans rfl
                 have hfs33 := blk_frozen BK441.out 2
                 have hns33_0 := NB440_441.out
                 have hns33_2 := NB442_441.out
                 have hms33_0 := NB441_440.out
                 have hms33_2 := NB441_442.out
                 refine skip_ (w1 := ?_) (by rfl) rfl ?_ ?_
                 rotate_left
                 ·
                  go_simp
                  rfl
                 refine hK.out _ _ trivial (fun hHeld => ?_)
                 clear hK K
                 exact ShortB.nE (hJ6_9_10_11_12_13 (v438, gb440, gb441, gb442) _ ⟨(by (with_reducible repeat (first | apply Kd.R_alloc | apply Kd.R_drewN | apply Kd.R_drew)); exact Kd.R_mono (Kd.R_far (p := ⟨gb441, 2, none⟩) (Kd.R_far (p := ⟨gb441, 1, none⟩) (Kd.R_far (p := ⟨gb441, 0, none⟩) (Kd.R_types HO439.out BK441.out (by decide)) (fun _ hk => hk.2) (.int .i64 3)) (fun _ hk => hk.2) (.int .i64 x6_2)) (fun _ hk => hk.2) (.string (⟨#[]⟩ : ByteArray))) (fun _ hk => trivial)), (by (with_reducible repeat (first | refine blk_drewN ?_ _ | refine blk_drew ?_ | refine blk_alloc ?_ _)); refine blk_far ?_ NB440_441.out _; (with_reducible repeat (first | refine blk_drewN ?_ _ | refine blk_drew ?_ | refine blk_alloc ?_ _)); refine blk_far ?_ NB440_441.out _; (with_reducible repeat (first | refine blk_drewN ?_ _ | refine blk_drew ?_ | refine blk_alloc ?_ _)); refine blk_far ?_ NB440_441.out _; (with_reducible repeat (first | refine blk_drewN ?_ _ | refine blk_drew ?_ | refine blk_alloc ?_ _)); exact BK440.out), (by (with_reducible repeat (first | refine blk_drewN ?_ _ | refine blk_drew ?_ | refine blk_alloc ?_ _)); refine blk_put (cs := #[.int .i64 3, .int .i64 x6_2, .string (⟨#[]⟩ : ByteArray)]) ?_ 2 _ rfl; (with_reducible repeat (first | refine blk_drewN ?_ _ | refine blk_drew ?_ | refine blk_alloc ?_ _)); refine blk_put (cs := #[.int .i64 3, .int .i64 0, .string (⟨#[]⟩ : ByteArray)]) ?_ 1 _ rfl; (with_reducible repeat (first | refine blk_drewN ?_ _ | refine blk_drew ?_ | refine blk_alloc ?_ _)); refine blk_put (cs := #[.int .i64 0, .int .i64 0, .string (⟨#[]⟩ : ByteArray)]) ?_ 0 _ rfl; (with_reducible repeat (first | refine blk_drewN ?_ _ | refine blk_drew ?_ | refine blk_alloc ?_ _)); exact BK441.out), (by (with_reducible repeat (first | refine blk_drewN ?_ _ | refine blk_drew ?_ | refine blk_alloc ?_ _)); refine blk_far ?_ NB442_441.out _; (with_reducible repeat (first | refine blk_drewN ?_ _ | refine blk_drew ?_ | refine blk_alloc ?_ _)); refine blk_far ?_ NB442_441.out _; (with_reducible repeat (first | refine blk_drewN ?_ _ | refine blk_drew ?_ | refine blk_alloc ?_ _)); refine blk_far ?_ NB442_441.out _; (with_reducible repeat (first | refine blk_drewN ?_ _ | refine blk_drew ?_ | refine blk_alloc ?_ _)); exact BK442.out), GW440.out, GE440.out, NB441_440.out, NB440_441.out, NB442_440.out, NB440_442.out, GW441.out, GE441.out, NB442_441.out, NB441_442.out, GW442.out, GE442.out, (Short.hB HB)⟩)
              ·
               skip
               rintro ⟨v438, gb440, gb441, gb442⟩ w28 ⟨h0_, h1_, h2_, h3_, h4_, h5_, h6_, h7_, h8_, h9_, h10_, h11_, h12_, h13_, h14_, h15_, h16_⟩
               have n0_ : Aside0 (Kd.R (Kd.int .u8) 5 w28 w.heap.size (fun _ => True) v438 y437) := ⟨h0_⟩
               have n1_ : Aside0 (w28.heap[gb440]? = some (.cells #[.int .i64 0, .int .i64 0, .string (⟨#[]⟩ : ByteArray)] 23 (0, 0))) := ⟨h1_⟩
               have n2_ : Aside0 (w28.heap[gb441]? = some (.cells #[.int .i64 0, .int .i64 0, .string (⟨#[]⟩ : ByteArray)] 23 (0, 0))) := ⟨h2_⟩
               have n3_ : Aside0 (w28.heap[gb442]? = some (.cells #[.int .i64 0, .int .i64 0, .string (⟨#[]⟩ : ByteArray)] 23 (0, 0))) := ⟨h3_⟩
               have n4_ : Aside0 (w.heap.size ≤ gb440) := ⟨h4_⟩
               have n5_ : Aside0 (w.heap.size ≤ gb440) := ⟨h5_⟩
               have n6_ : Aside0 (gb441 ≠ gb440) := ⟨h6_⟩
               have n7_ : Aside0 (gb440 ≠ gb441) := ⟨h7_⟩
               have n8_ : Aside0 (gb442 ≠ gb440) := ⟨h8_⟩
               have n9_ : Aside0 (gb440 ≠ gb442) := ⟨h9_⟩
               have n10_ : Aside0 (w.heap.size ≤ gb441) := ⟨h10_⟩
               have n11_ : Aside0 (w.heap.size ≤ gb441) := ⟨h11_⟩
               have n12_ : Aside0 (gb442 ≠ gb441) := ⟨h12_⟩
               have n13_ : Aside0 (gb441 ≠ gb442) := ⟨h13_⟩
               have n14_ : Aside0 (w.heap.size ≤ gb442) := ⟨h14_⟩
               have n15_ : Aside0 (w.heap.size ≤ gb442) := ⟨h15_⟩
               have n16_ : Aside0 (Below w.heap.size w w28) := ⟨h16_⟩
               clear HB
               clear h0_ h1_ h2_ h3_ h4_ h5_ h6_ h7_ h8_ h9_ h10_ h11_ h12_ h13_ h14_ h15_ h16_
               have HO439 := n0_
               have BK440 := n1_
               have BK441 := n2_
               have BK442 := n3_
               have GW440 := n4_
               have GE440 := n5_
               have NB441_440 := n6_
               have NB440_441 := n7_
               have NB442_440 := n8_
               have NB440_442 := n9_
               have GW441 := n10_
               have GE441 := n11_
               have NB442_441 := n12_
               have NB441_442 := n13_
               have GW442 := n14_
               have GE442 := n15_
               have HB := n16_
               clear n0_ n1_ n2_ n3_ n4_ n5_ n6_ n7_ n8_ n9_ n10_ n11_ n12_ n13_ n14_ n15_ n16_
               have hHeld := trivial
               refine norm_ (a' := ?_) ?_ ?_
               rotate_left
               ·
                simp only [putAll, Act.put, List.setIfInBounds_toArray, List.set_cons_zero, List.set_cons_succ]
                rfl
               refine one_ (i := 12) (N := none) (Steps.Bs 15 8191) rfl rfl (one_of HT_.out (by kernel_rfl)) (by decide) (fun K hK => ?_)
               have hs29 : w28.cell? ⟨gb440, 0, none⟩ = some (.int .i64 0) := (blk_cell BK440.out 0).trans rfl
               have hfs29 := blk_frozen BK440.out 0
               have hns29_1 := NB441_440.out
               have hns29_2 := NB442_440.out
               have hms29_1 := NB440_441.out
               have hms29_2 := NB440_442.out
               have hs30 : w28.cell? ⟨gb440, 1, none⟩ = some (.int .i64 0) := (blk_cell BK440.out 1).trans rfl
               have hfs30 := blk_frozen BK440.out 1
               have hns30_1 := NB441_440.out
               have hns30_2 := NB442_440.out
               have hms30_1 := NB440_441.out
               have hms30_2 := NB440_442.out
               have hs31 : w28.cell? ⟨gb440, 2, none⟩ = some (.string (⟨#[]⟩ : ByteArray)) := (blk_cell BK440.out 2).trans rfl
               have hfs31 := blk_frozen BK440.out 2
               have hns31_1 := NB441_440.out
               have hns31_2 := NB442_440.out
               have hms31_1 := NB440_441.out
               have hms31_2 := NB440_442.out
               refine skip_ (w1 := ?_) (by rfl) rfl ?_ ?_
               rotate_left
               ·
                go_simp
                rfl
               refine hK.out _ _ trivial (fun hHeld => ?_)
               clear hK K
               exact ShortB.nE (hJ6_7_9_10_11_12 (v438, gb440, gb441, gb442) _ ⟨(by (with_reducible repeat (first | apply Kd.R_alloc | apply Kd.R_drewN | apply Kd.R_drew)); exact Kd.R_mono (Kd.R_far (p := ⟨gb440, 2, none⟩) (Kd.R_far (p := ⟨gb440, 1, none⟩) (Kd.R_far (p := ⟨gb440, 0, none⟩) (Kd.R_types HO439.out BK440.out (by decide)) (fun _ hk => hk.2) (.int .i64 3)) (fun _ hk => hk.2) (.int .i64 x5_2)) (fun _ hk => hk.2) (.string (⟨#[]⟩ : ByteArray))) (fun _ hk => trivial)), (by (with_reducible repeat (first | refine blk_drewN ?_ _ | refine blk_drew ?_ | refine blk_alloc ?_ _)); refine blk_put (cs := #[.int .i64 3, .int .i64 x5_2, .string (⟨#[]⟩ : ByteArray)]) ?_ 2 _ rfl; (with_reducible repeat (first | refine blk_drewN ?_ _ | refine blk_drew ?_ | refine blk_alloc ?_ _)); refine blk_put (cs := #[.int .i64 3, .int .i64 0, .string (⟨#[]⟩ : ByteArray)]) ?_ 1 _ rfl; (with_reducible repeat (first | refine blk_drewN ?_ _ | refine blk_drew ?_ | refine blk_alloc ?_ _)); refine blk_put (cs := #[.int .i64 0, .int .i64 0, .string (⟨#[]⟩ : ByteArray)]) ?_ 0 _ rfl; (with_reducible repeat (first | refine blk_drewN ?_ _ | refine blk_drew ?_ | refine blk_alloc ?_ _)); exact BK440.out), (by (with_reducible repeat (first | refine blk_drewN ?_ _ | refine blk_drew ?_ | refine blk_alloc ?_ _)); refine blk_far ?_ NB441_440.out _; (with_reducible repeat (first | refine blk_drewN ?_ _ | refine blk_drew ?_ | refine blk_alloc ?_ _)); refine blk_far ?_ NB441_440.out _; (with_reducible repeat (first | refine blk_drewN ?_ _ | refine blk_drew ?_ | refine blk_alloc ?_ _)); refine blk_far ?_ NB441_440.out _; (with_reducible repeat (first | refine blk_drewN ?_ _ | refine blk_drew ?_ | refine blk_alloc ?_ _)); exact BK441.out), (by (with_reducible repeat (first | refine blk_drewN ?_ _ | refine blk_drew ?_ | refine blk_alloc ?_ _)); refine blk_far ?_ NB442_440.out _; (with_reducible repeat (first | refine blk_drewN ?_ _ | refine blk_drew ?_ | refine blk_alloc ?_ _)); refine blk_far ?_ NB442_440.out _; (with_reducible repeat (first | refine blk_drewN ?_ _ | refine blk_drew ?_ | refine blk_alloc ?_ _)); refine blk_far ?_ NB442_440.out _; (with_reducible repeat (first | refine blk_drewN ?_ _ | refine blk_drew ?_ | refine blk_alloc ?_ _)); exact BK442.out), GW440.out, GE440.out, NB441_440.out, NB440_441.out, NB442_440.out, NB440_442.out, GW441.out, GE441.out, NB442_441.out, NB441_442.out, GW442.out, GE442.out, (Short.hB HB)⟩)
             ·
              skip
              rintro ⟨v438, gb440, gb441, gb442⟩ w33 ⟨h0_, h1_, h2_, h3_, h4_, h5_, h6_, h7_, h8_, h9_, h10_, h11_, h12_, h13_, h14_, h15_, h16_⟩
              have n0_ : Aside0 (Kd.R (Kd.int .u8) 5 w33 w.heap.size (fun _ => True) v438 y437) := ⟨h0_⟩
              have n1_ : Aside0 (w33.heap[gb440]? = some (.cells #[.int .i64 3, .int .i64 x5_2, .string (⟨#[]⟩ : ByteArray)] 23 (0, 0))) := ⟨h1_⟩
              have n2_ : Aside0 (w33.heap[gb441]? = some (.cells #[.int .i64 3, .int .i64 x6_2, .string (⟨#[]⟩ : ByteArray)] 23 (0, 0))) := ⟨h2_⟩
              have n3_ : Aside0 (w33.heap[gb442]? = some (.cells #[.int .i64 0, .int .i64 0, .string (⟨#[]⟩ : ByteArray)] 23 (0, 0))) := ⟨h3_⟩
              have n4_ : Aside0 (w.heap.size ≤ gb440) := ⟨h4_⟩
              have n5_ : Aside0 (w.heap.size ≤ gb440) := ⟨h5_⟩
              have n6_ : Aside0 (gb441 ≠ gb440) := ⟨h6_⟩
              have n7_ : Aside0 (gb440 ≠ gb441) := ⟨h7_⟩
              have n8_ : Aside0 (gb442 ≠ gb440) := ⟨h8_⟩
              have n9_ : Aside0 (gb440 ≠ gb442) := ⟨h9_⟩
              have n10_ : Aside0 (w.heap.size ≤ gb441) := ⟨h10_⟩
              have n11_ : Aside0 (w.heap.size ≤ gb441) := ⟨h11_⟩
              have n12_ : Aside0 (gb442 ≠ gb441) := ⟨h12_⟩
              have n13_ : Aside0 (gb441 ≠ gb442) := ⟨h13_⟩
              have n14_ : Aside0 (w.heap.size ≤ gb442) := ⟨h14_⟩
              have n15_ : Aside0 (w.heap.size ≤ gb442) := ⟨h15_⟩
              have n16_ : Aside0 (Below w.heap.size w w33) := ⟨h16_⟩
              clear HB
              clear h0_ h1_ h2_ h3_ h4_ h5_ h6_ h7_ h8_ h9_ h10_ h11_ h12_ h13_ h14_ h15_ h16_
              have HO439 := n0_
              have BK440 := n1_
              have BK441 := n2_
              have BK442 := n3_
              have GW440 := n4_
              have GE440 := n5_
              have NB441_440 := n6_
              have NB440_441 := n7_
              have NB442_440 := n8_
              have NB440_442 := n9_
              have GW441 := n10_
              have GE441 := n11_
              have NB442_441 := n12_
              have NB441_442 := n13_
              have GW442 := n14_
              have GE442 := n15_
              have HB := n16_
              clear n0_ n1_ n2_ n3_ n4_ n5_ n6_ n7_ n8_ n9_ n10_ n11_ n12_ n13_ n14_ n15_ n16_
              have hHeld := trivial
              refine norm_ (a' := ?_) ?_ ?_
              rotate_left
              ·
               simp only [putAll, Act.put, List.setIfInBounds_toArray, List.set_cons_zero, List.set_cons_succ]
               rfl
              refine one_ (i := 7) (N := some 30) (Steps.Bs 15 16127) rfl rfl (one_of HT_.out (by kernel_rfl)) (by decide) (fun K hK => ?_)
              have hcv34 := own_string (P := Try.prog) Try.underlying26 Try.underlying5 Try.underlying9 (Kd.own_of_R HO439.out)
              refine value_ (w1 := ?_) (v := ?_) (by rfl) rfl ?_ ?_
              rotate_left 2
              ·
               go_simp
               constructor
               ·
                rfl
               ·
                rfl
              clear hcv34
              refine hK.out _ _ trivial (fun hHeld => ?_)
              clear hK K
              refine norm_ (a' := ?_) ?_ ?_
              rotate_left
              ·
               show Act.put _ (some 30) _ = _
               simp only [Act.put, List.setIfInBounds_toArray, List.set_cons_zero, List.set_cons_succ, i64_w, i32_w]
               rfl
              refine Steps.pI_ 8 (some 31) (Steps.Bs 15 16383) (any_of HT_.out (by kernel_rfl)) (h := ?_)
              exact ShortB.nE (hJ6_7_9_10_11_12_13 (v438, gb440, gb441, gb442) _ ⟨(ShortB.rK HO439), (Short.bK BK440), (Short.bK BK441), (Short.bK BK442), GW440.out, GE440.out, NB441_440.out, NB440_441.out, NB442_440.out, NB440_442.out, GW441.out, GE441.out, NB442_441.out, NB441_442.out, GW442.out, GE442.out, (Short.hB HB)⟩)
            ·
             skip
             rintro ⟨v438, gb440, gb441, gb442⟩ w31 ⟨h0_, h1_, h2_, h3_, h4_, h5_, h6_, h7_, h8_, h9_, h10_, h11_, h12_, h13_, h14_, h15_, h16_⟩
             have n0_ : Aside0 (Kd.R (Kd.int .u8) 5 w31 w.heap.size (fun _ => True) v438 y437) := ⟨h0_⟩
             have n1_ : Aside0 (w31.heap[gb440]? = some (.cells #[.int .i64 3, .int .i64 x5_2, .string (⟨#[]⟩ : ByteArray)] 23 (0, 0))) := ⟨h1_⟩
             have n2_ : Aside0 (w31.heap[gb441]? = some (.cells #[.int .i64 0, .int .i64 0, .string (⟨#[]⟩ : ByteArray)] 23 (0, 0))) := ⟨h2_⟩
             have n3_ : Aside0 (w31.heap[gb442]? = some (.cells #[.int .i64 0, .int .i64 0, .string (⟨#[]⟩ : ByteArray)] 23 (0, 0))) := ⟨h3_⟩
             have n4_ : Aside0 (w.heap.size ≤ gb440) := ⟨h4_⟩
             have n5_ : Aside0 (w.heap.size ≤ gb440) := ⟨h5_⟩
             have n6_ : Aside0 (gb441 ≠ gb440) := ⟨h6_⟩
             have n7_ : Aside0 (gb440 ≠ gb441) := ⟨h7_⟩
             have n8_ : Aside0 (gb442 ≠ gb440) := ⟨h8_⟩
             have n9_ : Aside0 (gb440 ≠ gb442) := ⟨h9_⟩
             have n10_ : Aside0 (w.heap.size ≤ gb441) := ⟨h10_⟩
             have n11_ : Aside0 (w.heap.size ≤ gb441) := ⟨h11_⟩
             have n12_ : Aside0 (gb442 ≠ gb441) := ⟨h12_⟩
             have n13_ : Aside0 (gb441 ≠ gb442) := ⟨h13_⟩
             have n14_ : Aside0 (w.heap.size ≤ gb442) := ⟨h14_⟩
             have n15_ : Aside0 (w.heap.size ≤ gb442) := ⟨h15_⟩
             have n16_ : Aside0 (Below w.heap.size w w31) := ⟨h16_⟩
             clear HB
             clear h0_ h1_ h2_ h3_ h4_ h5_ h6_ h7_ h8_ h9_ h10_ h11_ h12_ h13_ h14_ h15_ h16_
             have HO439 := n0_
             have BK440 := n1_
             have BK441 := n2_
             have BK442 := n3_
             have GW440 := n4_
             have GE440 := n5_
             have NB441_440 := n6_
             have NB440_441 := n7_
             have NB442_440 := n8_
             have NB440_442 := n9_
             have GW441 := n10_
             have GE441 := n11_
             have NB442_441 := n12_
             have NB441_442 := n13_
             have GW442 := n14_
             have GE442 := n15_
             have HB := n16_
             clear n0_ n1_ n2_ n3_ n4_ n5_ n6_ n7_ n8_ n9_ n10_ n11_ n12_ n13_ n14_ n15_ n16_
             have hHeld := trivial
             refine norm_ (a' := ?_) ?_ ?_
             rotate_left
             ·
              simp only [putAll, Act.put, List.setIfInBounds_toArray, List.set_cons_zero, List.set_cons_succ]
              rfl
             refine one_ (i := 13) (N := none) (Steps.Bs 15 16383) rfl rfl (one_of HT_.out (by kernel_rfl)) (by decide) (fun K hK => ?_)
             have hs32 : w31.cell? ⟨gb441, 0, none⟩ = some (.int .i64 0) := (blk_cell BK441.out 0).trans rfl
             have hfs32 := blk_frozen BK441.out 0
             have hns32_0 := NB440_441.out
             have hns32_2 := NB442_441.out
             have hms32_0 := NB441_440.out
             have hms32_2 := NB441_442.out
             have hs33 : w31.cell? ⟨gb441, 1, none⟩ = some (.int .i64 0) := (blk_cell BK441.out 1).trans rfl
             have hfs33 := blk_frozen BK441.out 1
             have hns33_0 := NB440_441.out
             have hns33_2 := NB442_441.out
             have hms33_0 := NB441_440.out
             have hms33_2 := NB441_442.out
             have hs34 : w31.cell? ⟨gb441, 2, none⟩ = some (.string (⟨#[]⟩ : ByteArray)) := (blk_cell BK441.out 2).trans rfl
             have hfs34 := blk_frozen BK441.out 2
             have hns34_0 := NB440_441.out
             have hns34_2 := NB442_441.out
             have hms34_0 := NB441_440.out
             have hms34_2 := NB441_442.out
             refine skip_ (w1 := ?_) (by rfl) rfl ?_ ?_
             rotate_left
             ·
              go_simp
              rfl
             refine hK.out _ _ trivial (fun hHeld => ?_)
             clear hK K
             exact ShortB.nE (hJ6_7_9_10_11_12_13 (v438, gb440, gb441, gb442) _ ⟨(by (with_reducible repeat (first | apply Kd.R_alloc | apply Kd.R_drewN | apply Kd.R_drew)); exact Kd.R_mono (Kd.R_far (p := ⟨gb441, 2, none⟩) (Kd.R_far (p := ⟨gb441, 1, none⟩) (Kd.R_far (p := ⟨gb441, 0, none⟩) (Kd.R_types HO439.out BK441.out (by decide)) (fun _ hk => hk.2) (.int .i64 3)) (fun _ hk => hk.2) (.int .i64 x6_2)) (fun _ hk => hk.2) (.string (⟨#[]⟩ : ByteArray))) (fun _ hk => trivial)), (by (with_reducible repeat (first | refine blk_drewN ?_ _ | refine blk_drew ?_ | refine blk_alloc ?_ _)); refine blk_far ?_ NB440_441.out _; (with_reducible repeat (first | refine blk_drewN ?_ _ | refine blk_drew ?_ | refine blk_alloc ?_ _)); refine blk_far ?_ NB440_441.out _; (with_reducible repeat (first | refine blk_drewN ?_ _ | refine blk_drew ?_ | refine blk_alloc ?_ _)); refine blk_far ?_ NB440_441.out _; (with_reducible repeat (first | refine blk_drewN ?_ _ | refine blk_drew ?_ | refine blk_alloc ?_ _)); exact BK440.out), (by (with_reducible repeat (first | refine blk_drewN ?_ _ | refine blk_drew ?_ | refine blk_alloc ?_ _)); refine blk_put (cs := #[.int .i64 3, .int .i64 x6_2, .string (⟨#[]⟩ : ByteArray)]) ?_ 2 _ rfl; (with_reducible repeat (first | refine blk_drewN ?_ _ | refine blk_drew ?_ | refine blk_alloc ?_ _)); refine blk_put (cs := #[.int .i64 3, .int .i64 0, .string (⟨#[]⟩ : ByteArray)]) ?_ 1 _ rfl; (with_reducible repeat (first | refine blk_drewN ?_ _ | refine blk_drew ?_ | refine blk_alloc ?_ _)); refine blk_put (cs := #[.int .i64 0, .int .i64 0, .string (⟨#[]⟩ : ByteArray)]) ?_ 0 _ rfl; (with_reducible repeat (first | refine blk_drewN ?_ _ | refine blk_drew ?_ | refine blk_alloc ?_ _)); exact BK441.out), (by (with_reducible repeat (first | refine blk_drewN ?_ _ | refine blk_drew ?_ | refine blk_alloc ?_ _)); refine blk_far ?_ NB442_441.out _; (with_reducible repeat (first | refine blk_drewN ?_ _ | refine blk_drew ?_ | refine blk_alloc ?_ _)); refine blk_far ?_ NB442_441.out _; (with_reducible repeat (first | refine blk_drewN ?_ _ | refine blk_drew ?_ | refine blk_alloc ?_ _)); refine blk_far ?_ NB442_441.out _; (with_reducible repeat (first | refine blk_drewN ?_ _ | refine blk_drew ?_ | refine blk_alloc ?_ _)); exact BK442.out), GW440.out, GE440.out, NB441_440.out, NB440_441.out, NB442_440.out, NB440_442.out, GW441.out, GE441.out, NB442_441.out, NB441_442.out, GW442.out, GE442.out, (Short.hB HB)⟩)
           rintro ⟨v438, gb440, gb441, gb442⟩ w34 ⟨h0_, h1_, h2_, h3_, h4_, h5_, h6_, h7_, h8_, h9_, h10_, h11_, h12_, h13_, h14_, h15_, h16_⟩
           have n0_ : Aside0 (Kd.R (Kd.int .u8) 5 w34 w.heap.size (fun _ => True) v438 y437) := ⟨h0_⟩
           have n1_ : Aside0 (w34.heap[gb440]? = some (.cells #[.int .i64 3, .int .i64 x5_2, .string (⟨#[]⟩ : ByteArray)] 23 (0, 0))) := ⟨h1_⟩
           have n2_ : Aside0 (w34.heap[gb441]? = some (.cells #[.int .i64 3, .int .i64 x6_2, .string (⟨#[]⟩ : ByteArray)] 23 (0, 0))) := ⟨h2_⟩
           have n3_ : Aside0 (w34.heap[gb442]? = some (.cells #[.int .i64 0, .int .i64 0, .string (⟨#[]⟩ : ByteArray)] 23 (0, 0))) := ⟨h3_⟩
           have n4_ : Aside0 (w.heap.size ≤ gb440) := ⟨h4_⟩
           have n5_ : Aside0 (w.heap.size ≤ gb440) := ⟨h5_⟩
           have n6_ : Aside0 (gb441 ≠ gb440) := ⟨h6_⟩
           have n7_ : Aside0 (gb440 ≠ gb441) := ⟨h7_⟩
           have n8_ : Aside0 (gb442 ≠ gb440) := ⟨h8_⟩
           have n9_ : Aside0 (gb440 ≠ gb442) := ⟨h9_⟩
           have n10_ : Aside0 (w.heap.size ≤ gb441) := ⟨h10_⟩
           have n11_ : Aside0 (w.heap.size ≤ gb441) := ⟨h11_⟩
           have n12_ : Aside0 (gb442 ≠ gb441) := ⟨h12_⟩
           have n13_ : Aside0 (gb441 ≠ gb442) := ⟨h13_⟩
           have n14_ : Aside0 (w.heap.size ≤ gb442) := ⟨h14_⟩
           have n15_ : Aside0 (w.heap.size ≤ gb442) := ⟨h15_⟩
           have n16_ : Aside0 (Below w.heap.size w w34) := ⟨h16_⟩
           clear HB
           clear h0_ h1_ h2_ h3_ h4_ h5_ h6_ h7_ h8_ h9_ h10_ h11_ h12_ h13_ h14_ h15_ h16_
           have HO439 := n0_
           have BK440 := n1_
           have BK441 := n2_
           have BK442 := n3_
           have GW440 := n4_
           have GE440 := n5_
           have NB441_440 := n6_
           have NB440_441 := n7_
           have NB442_440 := n8_
           have NB440_442 := n9_
           have GW441 := n10_
           have GE441 := n11_
           have NB442_441 := n12_
           have NB441_442 := n13_
           have GW442 := n14_
           have GE442 := n15_
           have HB := n16_
           clear n0_ n1_ n2_ n3_ n4_ n5_ n6_ n7_ n8_ n9_ n10_ n11_ n12_ n13_ n14_ n15_ n16_
           have hHeld := trivial
           refine norm_ (a' := ?_) ?_ ?_
           rotate_left
           ·
            simp only [putAll, Act.put, List.setIfInBounds_toArray, List.set_cons_zero, List.set_cons_succ]
            rfl
           refine one_ (i := 14) (N := none) (Steps.Bs 15 32767) rfl rfl (one_of HT_.out (by kernel_rfl)) (by decide) (fun K hK => ?_)
           have hs35 : w34.cell? ⟨gb442, 0, none⟩ = some (.int .i64 0) := (blk_cell BK442.out 0).trans rfl
           have hfs35 := blk_frozen BK442.out 0
           have hns35_0 := NB440_442.out
           have hns35_1 := NB441_442.out
           have hms35_0 := NB442_440.out
           have hms35_1 := NB442_441.out
           have hs36 : w34.cell? ⟨gb442, 1, none⟩ = some (.int .i64 0) := (blk_cell BK442.out 1).trans rfl
           have hfs36 := blk_frozen BK442.out 1
           have hns36_0 := NB440_442.out
           have hns36_1 := NB441_442.out
           have hms36_0 := NB442_440.out
           have hms36_1 := NB442_441.out
           have hs37 : w34.cell? ⟨gb442, 2, none⟩ = some (.string (⟨#[]⟩ : ByteArray)) := (blk_cell BK442.out 2).trans rfl
           have hfs37 := blk_frozen BK442.out 2
           have hns37_0 := NB440_442.out
           have hns37_1 := NB441_442.out
           have hms37_0 := NB442_440.out
           have hms37_1 := NB442_441.out
           refine skip_ (w1 := ?_) (by rfl) rfl ?_ ?_
           rotate_left
           ·
            go_simp
            rfl
           refine hK.out _ _ trivial (fun hHeld => ?_)
           clear hK K
           refine done_ (done_of HT_.out (by kernel_rfl)) ?_
           have hnb38 := NB440_441.out
           have hnc38 := NB441_440.out
           have hnb39 := NB440_442.out
           have hnc39 := NB442_440.out
           obtain ⟨hcz40_0, hcz40_1, hcz40_2, hfz40_0, hfz40_1, hfz40_2⟩ := Short.c3 BK440.out
           try go_wp2_with (first | ((with_reducible refine gate_callee (f := 12) rfl ?_); refine Short.gL (some 33) Try.func12 #[.agg #[.int .i64 3, .int .i64 x5_2, .string (⟨#[]⟩ : ByteArray)]] (h := ?_); (with_reducible refine (value_Check.calls 3 x5_2 (⟨#[]⟩ : ByteArray) t443 _ A8.out).mono ?_); rintro e w41 ⟨rfl, hb⟩; refine ⟨_, rfl, ?_⟩; have n0_ := Aside0.mk (Kd.R_below (by (with_reducible repeat (first | apply Kd.R_alloc | apply Kd.R_drewN | apply Kd.R_drew)); exact (Kd.R_mono (Kd.R_far (p := ⟨gb442, 2, none⟩) (Kd.R_far (p := ⟨gb442, 1, none⟩) (Kd.R_far (p := ⟨gb442, 0, none⟩) (Kd.R_types HO439.out BK442.out (by decide)) (fun _ hk => hk.2) (.int .i64 4)) (fun _ hk => hk.2) (.int .i64 0)) (fun _ hk => hk.2) (.string (strOfNums y437))) (fun _ h_ => h_.1))) hb); have n1_ := Aside0.mk (blk_below (g := gb440) (o := .cells #[.int .i64 3, .int .i64 x5_2, .string (⟨#[]⟩ : ByteArray)] 23 (0, 0)) (by (with_reducible repeat (first | refine blk_drewN ?_ _ | refine blk_drew ?_ | refine blk_alloc ?_ _)); refine blk_far ?_ NB440_442.out _; (with_reducible repeat (first | refine blk_drewN ?_ _ | refine blk_drew ?_ | refine blk_alloc ?_ _)); refine blk_far ?_ NB440_442.out _; (with_reducible repeat (first | refine blk_drewN ?_ _ | refine blk_drew ?_ | refine blk_alloc ?_ _)); refine blk_far ?_ NB440_442.out _; (with_reducible repeat (first | refine blk_drewN ?_ _ | refine blk_drew ?_ | refine blk_alloc ?_ _)); exact BK440.out) hb); have n2_ := Aside0.mk (blk_below (g := gb441) (o := .cells #[.int .i64 3, .int .i64 x6_2, .string (⟨#[]⟩ : ByteArray)] 23 (0, 0)) (by (with_reducible repeat (first | refine blk_drewN ?_ _ | refine blk_drew ?_ | refine blk_alloc ?_ _)); refine blk_far ?_ NB441_442.out _; (with_reducible repeat (first | refine blk_drewN ?_ _ | refine blk_drew ?_ | refine blk_alloc ?_ _)); refine blk_far ?_ NB441_442.out _; (with_reducible repeat (first | refine blk_drewN ?_ _ | refine blk_drew ?_ | refine blk_alloc ?_ _)); refine blk_far ?_ NB441_442.out _; (with_reducible repeat (first | refine blk_drewN ?_ _ | refine blk_drew ?_ | refine blk_alloc ?_ _)); exact BK441.out) hb); have n3_ := Aside0.mk (blk_below (g := gb442) (o := .cells #[.int .i64 4, .int .i64 0, .string (strOfNums y437)] 23 (0, 0)) (by (with_reducible repeat (first | refine blk_drewN ?_ _ | refine blk_drew ?_ | refine blk_alloc ?_ _)); refine blk_put (cs := #[.int .i64 4, .int .i64 0, .string (⟨#[]⟩ : ByteArray)]) ?_ 2 _ rfl; (with_reducible repeat (first | refine blk_drewN ?_ _ | refine blk_drew ?_ | refine blk_alloc ?_ _)); refine blk_put (cs := #[.int .i64 4, .int .i64 0, .string (⟨#[]⟩ : ByteArray)]) ?_ 1 _ rfl; (with_reducible repeat (first | refine blk_drewN ?_ _ | refine blk_drew ?_ | refine blk_alloc ?_ _)); refine blk_put (cs := #[.int .i64 0, .int .i64 0, .string (⟨#[]⟩ : ByteArray)]) ?_ 0 _ rfl; (with_reducible repeat (first | refine blk_drewN ?_ _ | refine blk_drew ?_ | refine blk_alloc ?_ _)); exact BK442.out) hb); have n4_ := Aside0.mk (below_step (Short.hB HB) hb); clear HO439; clear BK440; clear BK441; clear BK442; clear HB; have HO439 := n0_; have BK440 := n1_; have BK441 := n2_; have BK442 := n3_; have HB := n4_; clear n0_ n1_ n2_ n3_ n4_; (try clear hb); (try clear hb2); (try clear hk); (try clear hi); have hnb42 := NB441_442.out; have hnc42 := NB442_441.out; obtain ⟨hcz43_0, hcz43_1, hcz43_2, hfz43_0, hfz43_1, hfz43_2⟩ := Short.c3 BK441.out) | (go_at_call 12; (with_reducible refine (value_Check.calls 3 x6_2 (⟨#[]⟩ : ByteArray) t444 _ A10.out).mono ?_); rintro e w44 ⟨rfl, hb⟩; have n0_ := Aside0.mk (Kd.R_below (ShortB.rK HO439) hb); have n1_ := Aside0.mk (blk_below (g := gb440) (o := .cells #[.int .i64 3, .int .i64 x5_2, .string (⟨#[]⟩ : ByteArray)] 23 (0, 0)) (Short.bK BK440) hb); have n2_ := Aside0.mk (blk_below (g := gb441) (o := .cells #[.int .i64 3, .int .i64 x6_2, .string (⟨#[]⟩ : ByteArray)] 23 (0, 0)) (Short.bK BK441) hb); have n3_ := Aside0.mk (blk_below (g := gb442) (o := .cells #[.int .i64 4, .int .i64 0, .string (strOfNums y437)] 23 (0, 0)) (Short.bK BK442) hb); have n4_ := Aside0.mk (below_step (Short.hB HB) hb); clear HO439; clear BK440; clear BK441; clear BK442; clear HB; have HO439 := n0_; have BK440 := n1_; have BK441 := n2_; have BK442 := n3_; have HB := n4_; clear n0_ n1_ n2_ n3_ n4_; (try clear hb); (try clear hb2); (try clear hk); (try clear hi); obtain ⟨hcz45_0, hcz45_1, hcz45_2, hfz45_0, hfz45_1, hfz45_2⟩ := Short.c3 BK441.out) | (go_at_call 17; (with_reducible refine (value_Small.calls 3 x6_2 (⟨#[]⟩ : ByteArray) t445 _ A12.out).mono ?_); rintro e w46 ⟨rfl, hb⟩; have n0_ := Aside0.mk (Kd.R_below (ShortB.rK HO439) hb); have n1_ := Aside0.mk (blk_below (g := gb440) (o := .cells #[.int .i64 3, .int .i64 x5_2, .string (⟨#[]⟩ : ByteArray)] 23 (0, 0)) (Short.bK BK440) hb); have n2_ := Aside0.mk (blk_below (g := gb441) (o := .cells #[.int .i64 3, .int .i64 x6_2, .string (⟨#[]⟩ : ByteArray)] 23 (0, 0)) (Short.bK BK441) hb); have n3_ := Aside0.mk (blk_below (g := gb442) (o := .cells #[.int .i64 4, .int .i64 0, .string (strOfNums y437)] 23 (0, 0)) (Short.bK BK442) hb); have n4_ := Aside0.mk (below_step (Short.hB HB) hb); clear HO439; clear BK440; clear BK441; clear BK442; clear HB; have HO439 := n0_; have BK440 := n1_; have BK441 := n2_; have BK442 := n3_; have HB := n4_; clear n0_ n1_ n2_ n3_ n4_; (try clear hb); (try clear hb2); (try clear hk); (try clear hi); obtain ⟨hcz47_0, hcz47_1, hcz47_2, hfz47_0, hfz47_1, hfz47_2⟩ := Short.c3 BK442.out) | (go_at_call 12; (with_reducible refine (value_Check.calls 4 0 (strOfNums y437) t446 _ A14.out).mono ?_); rintro e w48 ⟨rfl, hb⟩; have n0_ := Aside0.mk (Kd.R_below (ShortB.rK HO439) hb); have n1_ := Aside0.mk (blk_below (g := gb440) (o := .cells #[.int .i64 3, .int .i64 x5_2, .string (⟨#[]⟩ : ByteArray)] 23 (0, 0)) (Short.bK BK440) hb); have n2_ := Aside0.mk (blk_below (g := gb441) (o := .cells #[.int .i64 3, .int .i64 x6_2, .string (⟨#[]⟩ : ByteArray)] 23 (0, 0)) (Short.bK BK441) hb); have n3_ := Aside0.mk (blk_below (g := gb442) (o := .cells #[.int .i64 4, .int .i64 0, .string (strOfNums y437)] 23 (0, 0)) (Short.bK BK442) hb); have n4_ := Aside0.mk (below_step (Short.hB HB) hb); clear HO439; clear BK440; clear BK441; clear BK442; clear HB; have HO439 := n0_; have BK440 := n1_; have BK441 := n2_; have BK442 := n3_; have HB := n4_; clear n0_ n1_ n2_ n3_ n4_; (try clear hb); (try clear hb2); (try clear hk); (try clear hi); obtain ⟨hcz49_0, hcz49_1, hcz49_2, hfz49_0, hfz49_1, hfz49_2⟩ := Short.c3 BK442.out) | (go_at_call 17; (with_reducible refine (value_Small.calls 4 0 (strOfNums y437) t447 _ A16.out).mono ?_); rintro e w50 ⟨rfl, hb⟩; have n0_ := Aside0.mk (Kd.R_below (ShortB.rK HO439) hb); have n1_ := Aside0.mk (blk_below (g := gb440) (o := .cells #[.int .i64 3, .int .i64 x5_2, .string (⟨#[]⟩ : ByteArray)] 23 (0, 0)) (Short.bK BK440) hb); have n2_ := Aside0.mk (blk_below (g := gb441) (o := .cells #[.int .i64 3, .int .i64 x6_2, .string (⟨#[]⟩ : ByteArray)] 23 (0, 0)) (Short.bK BK441) hb); have n3_ := Aside0.mk (blk_below (g := gb442) (o := .cells #[.int .i64 4, .int .i64 0, .string (strOfNums y437)] 23 (0, 0)) (Short.bK BK442) hb); have n4_ := Aside0.mk (below_step (Short.hB HB) hb); clear HO439; clear BK440; clear BK441; clear BK442; clear HB; have HO439 := n0_; have BK440 := n1_; have BK441 := n2_; have BK442 := n3_; have HB := n4_; clear n0_ n1_ n2_ n3_ n4_; (try clear hb); (try clear hb2); (try clear hk); (try clear hi); obtain ⟨hcz51_0, hcz51_1, hcz51_2, hfz51_0, hfz51_1, hfz51_2⟩ := Short.c3 BK442.out) | (go_at_call 15; (with_reducible refine (value_Fits.calls 4 0 (strOfNums y437) 4 t448 _ A18.out).mono ?_); rintro e w52 ⟨rfl, hb⟩; have n0_ := Aside0.mk (Kd.R_below (ShortB.rK HO439) hb); have n1_ := Aside0.mk (blk_below (g := gb440) (o := .cells #[.int .i64 3, .int .i64 x5_2, .string (⟨#[]⟩ : ByteArray)] 23 (0, 0)) (Short.bK BK440) hb); have n2_ := Aside0.mk (blk_below (g := gb441) (o := .cells #[.int .i64 3, .int .i64 x6_2, .string (⟨#[]⟩ : ByteArray)] 23 (0, 0)) (Short.bK BK441) hb); have n3_ := Aside0.mk (blk_below (g := gb442) (o := .cells #[.int .i64 4, .int .i64 0, .string (strOfNums y437)] 23 (0, 0)) (Short.bK BK442) hb); have n4_ := Aside0.mk (below_step (Short.hB HB) hb); clear HO439; clear BK440; clear BK441; clear BK442; clear HB; have HO439 := n0_; have BK440 := n1_; have BK441 := n2_; have BK442 := n3_; have HB := n4_; clear n0_ n1_ n2_ n3_ n4_; (try clear hb); (try clear hb2); (try clear hk); (try clear hi)) | (go_at_call 19; (with_reducible refine (raddlelaw03_wakes.calls kj2  t449 _ A20.out).mono ?_); rintro e w53 ⟨rfl, hb⟩; have n0_ := Aside0.mk (Kd.R_below (ShortB.rK HO439) hb); have n1_ := Aside0.mk (blk_below (g := gb440) (o := .cells #[.int .i64 3, .int .i64 x5_2, .string (⟨#[]⟩ : ByteArray)] 23 (0, 0)) (Short.bK BK440) hb); have n2_ := Aside0.mk (blk_below (g := gb441) (o := .cells #[.int .i64 3, .int .i64 x6_2, .string (⟨#[]⟩ : ByteArray)] 23 (0, 0)) (Short.bK BK441) hb); have n3_ := Aside0.mk (blk_below (g := gb442) (o := .cells #[.int .i64 4, .int .i64 0, .string (strOfNums y437)] 23 (0, 0)) (Short.bK BK442) hb); have n4_ := Aside0.mk (below_step (Short.hB HB) hb); clear HO439; clear BK440; clear BK441; clear BK442; clear HB; have HO439 := n0_; have BK440 := n1_; have BK441 := n2_; have BK442 := n3_; have HB := n4_; clear n0_ n1_ n2_ n3_ n4_; (try clear hb); (try clear hb2); (try clear hk); (try clear hi)))
           go_ret
           exact ⟨by first | rfl | (simp [errW_none, errW_some] <;> rfl) | (simp only [← hji5]; first | rfl | (simp [errW_none, errW_some] <;> rfl)) | (simp [*, errW_none, errW_some] <;> rfl), Short.hB HB⟩
          ·
           rw [if_neg c19] at H
           have c19b0 : (t448 == ((wrap64 (Int.tmod (IntKind.u64.wrap (a0)) 2)) == 0)) = false := by simpa using c19
           (try (have c19b1 : decide (t448 = ((wrap64 (Int.tmod (IntKind.u64.wrap (a0)) 2)) == 0)) = false := by simpa using c19))
           (try (have c19b2 : (t448 == ((wrap64 (Int.tmod (IntKind.u64.wrap (a0)) 2)) == 0)) = false := by simpa using c19))
           (try (have c19b3 : ¬ (t448 = ((wrap64 (Int.tmod (IntKind.u64.wrap (a0)) 2)) == 0)) := by simpa using c19))
           clear c19
           exact absurd H (by rw [hrt]; simp)
         ·
          rw [if_neg c17] at H
          have c17b0 : (t447 == ((wrap64 (Int.tmod (IntKind.u64.wrap (a0)) 2)) == 0)) = false := by simpa using c17
          (try (have c17b1 : decide (t447 = ((wrap64 (Int.tmod (IntKind.u64.wrap (a0)) 2)) == 0)) = false := by simpa using c17))
          (try (have c17b2 : (t447 == ((wrap64 (Int.tmod (IntKind.u64.wrap (a0)) 2)) == 0)) = false := by simpa using c17))
          (try (have c17b3 : ¬ (t447 = ((wrap64 (Int.tmod (IntKind.u64.wrap (a0)) 2)) == 0)) := by simpa using c17))
          clear c17
          exact absurd H (by rw [hrt]; simp)
        ·
         rw [if_neg c15] at H
         have c15b0 : ((t446 == 0) == ((wrap64 (Int.tmod (IntKind.u64.wrap (a0)) 2)) == 0)) = false := by simpa using c15
         (try (have c15b1 : decide ((t446 == 0) = ((wrap64 (Int.tmod (IntKind.u64.wrap (a0)) 2)) == 0)) = false := by simpa using c15))
         (try (have c15b2 : ((t446 == 0) == ((wrap64 (Int.tmod (IntKind.u64.wrap (a0)) 2)) == 0)) = false := by simpa using c15))
         (try (have c15b3 : ¬ ((t446 == 0) = ((wrap64 (Int.tmod (IntKind.u64.wrap (a0)) 2)) == 0)) := by simpa using c15))
         clear c15
         exact absurd H (by rw [hrt]; simp)
       ·
        rw [if_neg c13] at H
        have c13b0 : (t445 == ((wrap64 (Int.tmod (IntKind.u64.wrap (a0)) 2)) == 0)) = false := by simpa using c13
        (try (have c13b1 : decide (t445 = ((wrap64 (Int.tmod (IntKind.u64.wrap (a0)) 2)) == 0)) = false := by simpa using c13))
        (try (have c13b2 : (t445 == ((wrap64 (Int.tmod (IntKind.u64.wrap (a0)) 2)) == 0)) = false := by simpa using c13))
        (try (have c13b3 : ¬ (t445 = ((wrap64 (Int.tmod (IntKind.u64.wrap (a0)) 2)) == 0)) := by simpa using c13))
        clear c13
        exact absurd H (by rw [hrt]; simp)
      ·
       rw [if_neg c11] at H
       have c11b0 : (t444 == 0) = false := beq_eq_false_iff_ne.mpr c11
       have c11b1 : (t444 != 0) = true := bne_iff_ne.mpr c11
       exact absurd H (by rw [hrt]; simp)
     ·
      rw [if_neg c9] at H
      have c9b0 : ((t443 == 0) == ((wrap64 (Int.tmod (IntKind.u64.wrap (a0)) 2)) == 0)) = false := by simpa using c9
      (try (have c9b1 : decide ((t443 == 0) = ((wrap64 (Int.tmod (IntKind.u64.wrap (a0)) 2)) == 0)) = false := by simpa using c9))
      (try (have c9b2 : ((t443 == 0) == ((wrap64 (Int.tmod (IntKind.u64.wrap (a0)) 2)) == 0)) = false := by simpa using c9))
      (try (have c9b3 : ¬ ((t443 == 0) = ((wrap64 (Int.tmod (IntKind.u64.wrap (a0)) 2)) == 0)) := by simpa using c9))
      clear c9
      exact absurd H (by rw [hrt]; simp)
    ·
     rw [if_neg c7] at H
     exact absurd H (by simp)
   ·
    rw [if_neg c6] at H
    exact absurd H (by simp)

/-- THE ONE PURE STATEMENT of raddlelaw03_ValueEnds: yours. -/
def raddlelaw03_ValueEnds.Pure : Prop := ∀ (a0 : Int) (a1 : Bool), (Lit.int .i64 a0).wf = true → ∃ k, raddlelaw03_ValueEnds.f k a0 a1 = some true
theorem raddlelaw03_ValueEnds.walk (P : raddlelaw03_ValueEnds.Pure) (a0 : Int) (a1 : Bool) (w : World) (w0 : (Lit.int .i64 a0).wf = true) :
  Calls Try.prog 8 #[.int .i64 a0, .bool a1] w fun e w' => e = .returned (.bool true) ∧ Below w.heap.size w w' := by
 obtain ⟨k, h⟩ := P a0 a1 w0
 refine (raddlelaw03_ValueEnds.calls k a0 a1 true w rfl h).mono ?_
 rintro e w' ⟨rfl, hd⟩
 exact ⟨rfl, hd⟩

end Go.Proofs.Yteicflbjhcddoaa.PAll
