-- Put together by a program of this session (wip/slice.py) out of the seat's texts: what this law needs.
import Derived.Test.YtiaiglihndbjeaaZRowOrder5
section
namespace Go.Proofs.Ytiaiglihndbjeaa.PAll
open Go.RowKit Go.Proofs.YtiaiglihndbjeaaW.PrintWords Go.Proofs.YtiaiglihndbjeaaW.PrintLast Go.Proofs.YtiaiglihndbjeaaW.PrintMore
attribute [local go_sem] max2_int min2_int max_two min_two max_three min_three max_four min_four   -- for this text's walks alone
set_option linter.unusedVariables false
set_option linter.unusedSimpArgs false
/-! ### raddlelaw04_RowOrder: function 4 -/
mutual
def raddlelaw04_RowOrder.j0 : Nat → List (S39) → List (S39) → List (S39) → Int → Bool → Option (Bool)
 | 0, _, _, _, _, _ => none
 | k + 1, x0, x1, x2, x3, x24 => if x24 = true then (some true) else ((row_Compare.f k x0 x1).bind fun t357 => ((row_Compare.f k x1 x2).bind fun t358 => ((row_Compare.f k x0 x2).bind fun t359 => ((row_Compare.f k x1 x0).bind fun t360 => (if t357 = (wrap64 (-t360)) then ((row_Compare.f k x0 x0).bind fun t361 => (if t361 = 0 then ((raddlekeep_Row.f k x0 x1).bind fun t362 => (if ((t357 == 0) != t362) = true then (raddlelaw04_RowOrder.j1 k x0 x1 x3 t357 true) else (if t357 < (-1) then (raddlelaw04_RowOrder.j1 k x0 x1 x3 t357 true) else (if t357 > 1 then (raddlelaw04_RowOrder.j1 k x0 x1 x3 t357 true) else (if t357 > 0 then (if t357 < 0 then (raddlelaw04_RowOrder.j1 k x0 x1 x3 t357 (!true)) else (if t358 < 0 then (raddlelaw04_RowOrder.j1 k x0 x1 x3 t357 (!true)) else (raddlelaw04_RowOrder.j1 k x0 x1 x3 t357 (!(decide (t359 ≥ 0)))))) else (if t358 > 0 then (if t357 < 0 then (raddlelaw04_RowOrder.j1 k x0 x1 x3 t357 (!true)) else (if t358 < 0 then (raddlelaw04_RowOrder.j1 k x0 x1 x3 t357 (!true)) else (raddlelaw04_RowOrder.j1 k x0 x1 x3 t357 (!(decide (t359 ≥ 0)))))) else (if t359 ≤ 0 then (if t357 < 0 then (raddlelaw04_RowOrder.j1 k x0 x1 x3 t357 (!true)) else (if t358 < 0 then (raddlelaw04_RowOrder.j1 k x0 x1 x3 t357 (!true)) else (raddlelaw04_RowOrder.j1 k x0 x1 x3 t357 (!(decide (t359 ≥ 0)))))) else (raddlelaw04_RowOrder.j1 k x0 x1 x3 t357 (!false))))))))) else (raddlelaw04_RowOrder.j1 k x0 x1 x3 t357 true))) else (raddlelaw04_RowOrder.j1 k x0 x1 x3 t357 true))))))
def raddlelaw04_RowOrder.j1 : Nat → List (S39) → List (S39) → Int → Int → Bool → Option (Bool)
 | 0, _, _, _, _, _ => none
 | k + 1, x0, x1, x3, x9, x86 => if x86 = true then (some false) else (if (IntKind.u64.wrap (wrap64 ((x0.length : Int) + 1))) = 0 then (none) else (if 0 ≤ (wrap64 (Int.tmod (IntKind.u64.wrap (x3)) (IntKind.u64.wrap (wrap64 ((x0.length : Int) + 1))))) then (if (wrap64 (Int.tmod (IntKind.u64.wrap (x3)) (IntKind.u64.wrap (wrap64 ((x0.length : Int) + 1))))) ≤ (x0.length : Int) then ((row_Compare.f k (x0.take ((wrap64 (Int.tmod (IntKind.u64.wrap (x3)) (IntKind.u64.wrap (wrap64 ((x0.length : Int) + 1))))) : Int).toNat) x0).bind fun t367 => (if ((t367 == (-1)) != (decide ((wrap64 (Int.tmod (IntKind.u64.wrap (x3)) (IntKind.u64.wrap (wrap64 ((x0.length : Int) + 1))))) < (x0.length : Int)))) = true then (some false) else (raddlelaw04_RowOrder.l0 k x0 x1 x9 0))) else (none)) else (none)))
def raddlelaw04_RowOrder.l0 : Nat → List (S39) → List (S39) → Int → Int → Option (Bool)
 | 0, _, _, _, _ => none
 | k + 1, x0, x1, x9, x13 => if x13 < (x0.length : Int) then (raddlelaw04_RowOrder.j3 k x0 x1 x9 x13 (decide (x13 < (x1.length : Int)))) else (raddlelaw04_RowOrder.j3 k x0 x1 x9 x13 false)
def raddlelaw04_RowOrder.j3 : Nat → List (S39) → List (S39) → Int → Int → Bool → Option (Bool)
 | 0, _, _, _, _, _ => none
 | k + 1, x0, x1, x9, x13, x115 => if x115 = true then (if 0 ≤ x13 then (if x13 < (x0.length : Int) then (if x13 < (x1.length : Int) then ((value_Compare.f k ((rd_T39 x0 x13).f0) ((rd_T39 x0 x13).f1) ((rd_T39 x0 x13).f2) ((rd_T39 x1 x13).f0) ((rd_T39 x1 x13).f1) ((rd_T39 x1 x13).f2)).bind fun t371 => (if t371 = 0 then (raddlelaw04_RowOrder.l0 k x0 x1 x9 (wrap64 (x13 + 1))) else (if x9 = t371 then ((raddlelaw04_wakes.f k).bind fun t372 => (some t372)) else (some false)))) else (none)) else (none)) else (none)) else (if ((x9 == 0) == ((x0.length : Int) == (x1.length : Int))) = true then ((raddlelaw04_wakes.f k).bind fun t368 => (some t368)) else (some false))
end
def raddlelaw04_RowOrder.f (k : Nat) (l0 : List (S39)) (l1 : List (S39)) (l2 : List (S39)) (a3 : Int) : Option (Bool) := (raddlelaw04_Heavy.f k l0).bind fun t354 => (if t354 = true then (raddlelaw04_RowOrder.j0 k l0 l1 l2 a3 true) else ((raddlelaw04_Heavy.f k l1).bind fun t355 => (if t355 = true then (raddlelaw04_RowOrder.j0 k l0 l1 l2 a3 true) else ((raddlelaw04_Heavy.f k l2).bind fun t356 => (raddlelaw04_RowOrder.j0 k l0 l1 l2 a3 t356)))))
def raddlelaw04_RowOrder.T12 : Bool × List (List Nat × List Nat) := (true, [([], []), ([], []), ([0, 1], [0, 1]), ([2], [2]), ([], []), ([], []), ([4, 5], [4, 5]), ([6], [6]), ([3, 7], [3, 7]), ([8, 8, 0, 1, 2, 3, 4, 5, 6, 7, 8], [8])])
def raddlelaw04_RowOrder.B12 : List Nat := [0, 0, 3, 7, 0, 0, 48, 112, 255, 511]
theorem raddlelaw04_RowOrder.tab12 : rtab .any (opsOf Try.f4 12) = raddlelaw04_RowOrder.T12 := by kernel_rfl
theorem raddlelaw04_RowOrder.bits12 : waitsOk raddlelaw04_RowOrder.T12.2 raddlelaw04_RowOrder.B12 = true := by kernel_rfl
set_option maxHeartbeats 8000000 in
set_option maxRecDepth 100000 in
theorem raddlelaw04_RowOrder.calls (k : Nat) (A0 : Option Addr) (c0 : Nat) (l0 : List (S39)) (A1 : Option Addr) (c1 : Nat) (l1 : List (S39)) (A2 : Option Addr) (c2 : Nat) (l2 : List (S39)) (a3 : Int) (r : Bool) (w : World) (hr0 : Kd.C k39 w A0 l0.length l0) (hc0 : l0.length ≤ c0) (hr1 : Kd.C k39 w A1 l1.length l1) (hc1 : l1.length ≤ c1) (hr2 : Kd.C k39 w A2 l2.length l2) (hc2 : l2.length ≤ c2) (hrt : r = true) (h : raddlelaw04_RowOrder.f k l0 l1 l2 a3 = some r) :
  Calls Try.prog 4 #[.slice A0 l0.length c0, .slice A1 l1.length c1, .slice A2 l2.length c2, .int .i64 a3] w fun e w' => e = .returned (.bool r) ∧ Below w.heap.size w w' := by
 have hu39 := Try.underlying39
 have HR0 := Aside0.mk hr0
 have HC0 := Aside0.mk hc0
 clear hr0 hc0
 have HR1 := Aside0.mk hr1
 have HC1 := Aside0.mk hc1
 clear hr1 hc1
 have HR2 := Aside0.mk hr2
 have HC2 := Aside0.mk hc2
 clear hr2 hc2
 have HB := Aside0.mk (Below.refl w.heap.size w)
 have H : ((raddlelaw04_Heavy.f k l0).bind fun t354 => (if t354 = true then (raddlelaw04_RowOrder.j0 k l0 l1 l2 a3 true) else ((raddlelaw04_Heavy.f k l1).bind fun t355 => (if t355 = true then (raddlelaw04_RowOrder.j0 k l0 l1 l2 a3 true) else ((raddlelaw04_Heavy.f k l2).bind fun t356 => (raddlelaw04_RowOrder.j0 k l0 l1 l2 a3 t356)))))) = some r := h
 clear h
 have HC5 := Aside0.mk H
 clear H
 go_enter Try.func4, Try.ntmps4
 go_upto_region 1 with (fail)
 go_cut [24] (fun v24 wc => ∃ (kq : Nat) (x24_4 : Bool), v24 = .bool x24_4 ∧ Aside0 (raddlelaw04_RowOrder.j0 kq l0 l1 l2 a3 x24_4 = some r) ∧ Aside0 (kq ≤ k) ∧ Aside0 (Below w.heap.size w wc))
 case first =>
  have H := HC5.out
  clear HC5
  replace H := Option.bind_eq_some_iff.mp H
  obtain ⟨t354, A60, H⟩ := H
  replace H : (if t354 = true then (raddlelaw04_RowOrder.j0 k l0 l1 l2 a3 true) else ((raddlelaw04_Heavy.f k l1).bind fun t355 => (if t355 = true then (raddlelaw04_RowOrder.j0 k l0 l1 l2 a3 true) else ((raddlelaw04_Heavy.f k l2).bind fun t356 => (raddlelaw04_RowOrder.j0 k l0 l1 l2 a3 t356))))) = some r := H
  have A6 := Aside0.mk A60
  clear A60
  by_cases c7 : t354 = true
  ·
   subst c7
   have H1 : (raddlelaw04_RowOrder.j0 k l0 l1 l2 a3 true) = some r := by rw [if_pos rfl] at H; exact H
   clear H
   have H := H1
   clear H1
   have H' := Aside0.mk H
   clear H
   go_wp2_with (first | ((with_reducible refine gate_callee (f := 17) rfl ?_); refine Short.gL (some 16) Try.func17 #[.slice A0 l0.length c0] (h := ?_); (with_reducible refine (raddlelaw04_Heavy.calls k _ _ l0 true _ ?side1 ?side2 A6.out).mono ?_); (case side1 => repeat (first | exact (Kd.C_below HR0.out HB.out) | (with_reducible refine Kd.C_alloc ?_ _) | (with_reducible refine Kd.C_drewN ?_ _) | (with_reducible refine Kd.C_drew ?_))); (case side2 => exact HC0.out); rintro e w' ⟨rfl, ⟨nd, rfl⟩⟩; refine ⟨_, rfl, ?_⟩))
   go_meet
   case rel => exact ⟨_, (true), (by first | rfl | (simp; done) | (simp [*]; done)), H', ⟨by first | omega | exact Nat.le_refl _⟩, ⟨Short.hB HB⟩⟩
  ·
   replace c7 := Bool.eq_false_iff.mpr c7
   subst c7
   have H1 : ((raddlelaw04_Heavy.f k l1).bind fun t355 => (if t355 = true then (raddlelaw04_RowOrder.j0 k l0 l1 l2 a3 true) else ((raddlelaw04_Heavy.f k l2).bind fun t356 => (raddlelaw04_RowOrder.j0 k l0 l1 l2 a3 t356)))) = some r := by rw [if_neg (show ¬ (false = true) by decide)] at H; exact H
   clear H
   have H := H1
   clear H1
   replace H := Option.bind_eq_some_iff.mp H
   obtain ⟨t355, A80, H⟩ := H
   replace H : (if t355 = true then (raddlelaw04_RowOrder.j0 k l0 l1 l2 a3 true) else ((raddlelaw04_Heavy.f k l2).bind fun t356 => (raddlelaw04_RowOrder.j0 k l0 l1 l2 a3 t356))) = some r := H
   have A8 := Aside0.mk A80
   clear A80
   by_cases c9 : t355 = true
   ·
    subst c9
    have H1 : (raddlelaw04_RowOrder.j0 k l0 l1 l2 a3 true) = some r := by rw [if_pos rfl] at H; exact H
    clear H
    have H := H1
    clear H1
    have H' := Aside0.mk H
    clear H
    go_wp2_with (first | ((with_reducible refine gate_callee (f := 17) rfl ?_); refine Short.gL (some 16) Try.func17 #[.slice A0 l0.length c0] (h := ?_); (with_reducible refine (raddlelaw04_Heavy.calls k _ _ l0 false _ ?side1 ?side2 A6.out).mono ?_); (case side1 => repeat (first | exact (Kd.C_below HR0.out HB.out) | (with_reducible refine Kd.C_alloc ?_ _) | (with_reducible refine Kd.C_drewN ?_ _) | (with_reducible refine Kd.C_drew ?_))); (case side2 => exact HC0.out); rintro e w' ⟨rfl, ⟨nd, rfl⟩⟩; refine ⟨_, rfl, ?_⟩) | (go_at_call 17; (with_reducible refine (raddlelaw04_Heavy.calls k _ _ l1 true _ ?side1 ?side2 A8.out).mono ?_); (case side1 => repeat (first | exact (Kd.C_below HR1.out (Short.hB HB)) | (with_reducible refine Kd.C_alloc ?_ _) | (with_reducible refine Kd.C_drewN ?_ _) | (with_reducible refine Kd.C_drew ?_))); (case side2 => exact HC1.out); rintro e w' ⟨rfl, ⟨nd, rfl⟩⟩))
    go_meet
    case rel => exact ⟨_, (true), (by first | rfl | (simp; done) | (simp [*]; done)), H', ⟨by first | omega | exact Nat.le_refl _⟩, ⟨Short.hB HB⟩⟩
   ·
    replace c9 := Bool.eq_false_iff.mpr c9
    subst c9
    have H1 : ((raddlelaw04_Heavy.f k l2).bind fun t356 => (raddlelaw04_RowOrder.j0 k l0 l1 l2 a3 t356)) = some r := by rw [if_neg (show ¬ (false = true) by decide)] at H; exact H
    clear H
    have H := H1
    clear H1
    replace H := Option.bind_eq_some_iff.mp H
    obtain ⟨t356, A100, H⟩ := H
    replace H : (raddlelaw04_RowOrder.j0 k l0 l1 l2 a3 t356) = some r := H
    have A10 := Aside0.mk A100
    clear A100
    have H' := Aside0.mk H
    clear H
    go_wp2_with (first | ((with_reducible refine gate_callee (f := 17) rfl ?_); refine Short.gL (some 16) Try.func17 #[.slice A0 l0.length c0] (h := ?_); (with_reducible refine (raddlelaw04_Heavy.calls k _ _ l0 false _ ?side1 ?side2 A6.out).mono ?_); (case side1 => repeat (first | exact (Kd.C_below HR0.out HB.out) | (with_reducible refine Kd.C_alloc ?_ _) | (with_reducible refine Kd.C_drewN ?_ _) | (with_reducible refine Kd.C_drew ?_))); (case side2 => exact HC0.out); rintro e w' ⟨rfl, ⟨nd, rfl⟩⟩; refine ⟨_, rfl, ?_⟩) | (go_at_call 17; (with_reducible refine (raddlelaw04_Heavy.calls k _ _ l1 false _ ?side1 ?side2 A8.out).mono ?_); (case side1 => repeat (first | exact (Kd.C_below HR1.out (Short.hB HB)) | (with_reducible refine Kd.C_alloc ?_ _) | (with_reducible refine Kd.C_drewN ?_ _) | (with_reducible refine Kd.C_drew ?_))); (case side2 => exact HC1.out); rintro e w' ⟨rfl, ⟨nd, rfl⟩⟩) | (go_at_call 17; (with_reducible refine (raddlelaw04_Heavy.calls k _ _ l2 t356 _ ?side1 ?side2 A10.out).mono ?_); (case side1 => repeat (first | exact (Kd.C_below HR2.out (Short.hB HB)) | (with_reducible refine Kd.C_alloc ?_ _) | (with_reducible refine Kd.C_drewN ?_ _) | (with_reducible refine Kd.C_drew ?_))); (case side2 => exact HC2.out); rintro e w' ⟨rfl, ⟨nd, rfl⟩⟩))
    go_meet
    case rel => exact ⟨_, (t356), (by first | rfl | (simp; done) | (simp [*]; done)), H', ⟨by first | omega | exact Nat.le_refl _⟩, ⟨Short.hB HB⟩⟩
 case rest => as_aux_lemma =>
  clear HC5
  try clear c1
  try clear c2
  try clear p2
  try clear c4
  try clear c7
  try clear c9
  obtain ⟨kq, x24_4, rfl, HA, HJ4, HB⟩ := hcut
  cases kq with
  | zero => exact absurd HA.out (by simp [raddlelaw04_RowOrder.j0])
  | succ kj4 =>
   have H := HA.out
   clear HA
   simp only [raddlelaw04_RowOrder.j0] at H
   by_cases c11 : x24_4 = true
   ·
    subst c11
    have H1 : (some true) = some r := by rw [if_pos rfl] at H; exact H
    clear H
    have H := H1
    clear H1
    obtain rfl := Option.some.inj H
    go_wp2
    go_ret
    exact ⟨by first | rfl | (simp [errW_none, errW_some] <;> rfl) | (simp [*, errW_none, errW_some] <;> rfl), Short.hB HB⟩
   ·
    replace c11 := Bool.eq_false_iff.mpr c11
    subst c11
    have H1 : ((row_Compare.f kj4 l0 l1).bind fun t357 => ((row_Compare.f kj4 l1 l2).bind fun t358 => ((row_Compare.f kj4 l0 l2).bind fun t359 => ((row_Compare.f kj4 l1 l0).bind fun t360 => (if t357 = (wrap64 (-t360)) then ((row_Compare.f kj4 l0 l0).bind fun t361 => (if t361 = 0 then ((raddlekeep_Row.f kj4 l0 l1).bind fun t362 => (if ((t357 == 0) != t362) = true then (raddlelaw04_RowOrder.j1 kj4 l0 l1 a3 t357 true) else (if t357 < (-1) then (raddlelaw04_RowOrder.j1 kj4 l0 l1 a3 t357 true) else (if t357 > 1 then (raddlelaw04_RowOrder.j1 kj4 l0 l1 a3 t357 true) else (if t357 > 0 then (if t357 < 0 then (raddlelaw04_RowOrder.j1 kj4 l0 l1 a3 t357 (!true)) else (if t358 < 0 then (raddlelaw04_RowOrder.j1 kj4 l0 l1 a3 t357 (!true)) else (raddlelaw04_RowOrder.j1 kj4 l0 l1 a3 t357 (!(decide (t359 ≥ 0)))))) else (if t358 > 0 then (if t357 < 0 then (raddlelaw04_RowOrder.j1 kj4 l0 l1 a3 t357 (!true)) else (if t358 < 0 then (raddlelaw04_RowOrder.j1 kj4 l0 l1 a3 t357 (!true)) else (raddlelaw04_RowOrder.j1 kj4 l0 l1 a3 t357 (!(decide (t359 ≥ 0)))))) else (if t359 ≤ 0 then (if t357 < 0 then (raddlelaw04_RowOrder.j1 kj4 l0 l1 a3 t357 (!true)) else (if t358 < 0 then (raddlelaw04_RowOrder.j1 kj4 l0 l1 a3 t357 (!true)) else (raddlelaw04_RowOrder.j1 kj4 l0 l1 a3 t357 (!(decide (t359 ≥ 0)))))) else (raddlelaw04_RowOrder.j1 kj4 l0 l1 a3 t357 (!false))))))))) else (raddlelaw04_RowOrder.j1 kj4 l0 l1 a3 t357 true))) else (raddlelaw04_RowOrder.j1 kj4 l0 l1 a3 t357 true)))))) = some r := by rw [if_neg (show ¬ (false = true) by decide)] at H; exact H
    clear H
    have H := H1
    clear H1
    replace H := Option.bind_eq_some_iff.mp H
    obtain ⟨t357, A120, H⟩ := H
    replace H : ((row_Compare.f kj4 l1 l2).bind fun t358 => ((row_Compare.f kj4 l0 l2).bind fun t359 => ((row_Compare.f kj4 l1 l0).bind fun t360 => (if t357 = (wrap64 (-t360)) then ((row_Compare.f kj4 l0 l0).bind fun t361 => (if t361 = 0 then ((raddlekeep_Row.f kj4 l0 l1).bind fun t362 => (if ((t357 == 0) != t362) = true then (raddlelaw04_RowOrder.j1 kj4 l0 l1 a3 t357 true) else (if t357 < (-1) then (raddlelaw04_RowOrder.j1 kj4 l0 l1 a3 t357 true) else (if t357 > 1 then (raddlelaw04_RowOrder.j1 kj4 l0 l1 a3 t357 true) else (if t357 > 0 then (if t357 < 0 then (raddlelaw04_RowOrder.j1 kj4 l0 l1 a3 t357 (!true)) else (if t358 < 0 then (raddlelaw04_RowOrder.j1 kj4 l0 l1 a3 t357 (!true)) else (raddlelaw04_RowOrder.j1 kj4 l0 l1 a3 t357 (!(decide (t359 ≥ 0)))))) else (if t358 > 0 then (if t357 < 0 then (raddlelaw04_RowOrder.j1 kj4 l0 l1 a3 t357 (!true)) else (if t358 < 0 then (raddlelaw04_RowOrder.j1 kj4 l0 l1 a3 t357 (!true)) else (raddlelaw04_RowOrder.j1 kj4 l0 l1 a3 t357 (!(decide (t359 ≥ 0)))))) else (if t359 ≤ 0 then (if t357 < 0 then (raddlelaw04_RowOrder.j1 kj4 l0 l1 a3 t357 (!true)) else (if t358 < 0 then (raddlelaw04_RowOrder.j1 kj4 l0 l1 a3 t357 (!true)) else (raddlelaw04_RowOrder.j1 kj4 l0 l1 a3 t357 (!(decide (t359 ≥ 0)))))) else (raddlelaw04_RowOrder.j1 kj4 l0 l1 a3 t357 (!false))))))))) else (raddlelaw04_RowOrder.j1 kj4 l0 l1 a3 t357 true))) else (raddlelaw04_RowOrder.j1 kj4 l0 l1 a3 t357 true))))) = some r := H
    have A12 := Aside0.mk A120
    clear A120
    replace H := Option.bind_eq_some_iff.mp H
    obtain ⟨t358, A130, H⟩ := H
    replace H : ((row_Compare.f kj4 l0 l2).bind fun t359 => ((row_Compare.f kj4 l1 l0).bind fun t360 => (if t357 = (wrap64 (-t360)) then ((row_Compare.f kj4 l0 l0).bind fun t361 => (if t361 = 0 then ((raddlekeep_Row.f kj4 l0 l1).bind fun t362 => (if ((t357 == 0) != t362) = true then (raddlelaw04_RowOrder.j1 kj4 l0 l1 a3 t357 true) else (if t357 < (-1) then (raddlelaw04_RowOrder.j1 kj4 l0 l1 a3 t357 true) else (if t357 > 1 then (raddlelaw04_RowOrder.j1 kj4 l0 l1 a3 t357 true) else (if t357 > 0 then (if t357 < 0 then (raddlelaw04_RowOrder.j1 kj4 l0 l1 a3 t357 (!true)) else (if t358 < 0 then (raddlelaw04_RowOrder.j1 kj4 l0 l1 a3 t357 (!true)) else (raddlelaw04_RowOrder.j1 kj4 l0 l1 a3 t357 (!(decide (t359 ≥ 0)))))) else (if t358 > 0 then (if t357 < 0 then (raddlelaw04_RowOrder.j1 kj4 l0 l1 a3 t357 (!true)) else (if t358 < 0 then (raddlelaw04_RowOrder.j1 kj4 l0 l1 a3 t357 (!true)) else (raddlelaw04_RowOrder.j1 kj4 l0 l1 a3 t357 (!(decide (t359 ≥ 0)))))) else (if t359 ≤ 0 then (if t357 < 0 then (raddlelaw04_RowOrder.j1 kj4 l0 l1 a3 t357 (!true)) else (if t358 < 0 then (raddlelaw04_RowOrder.j1 kj4 l0 l1 a3 t357 (!true)) else (raddlelaw04_RowOrder.j1 kj4 l0 l1 a3 t357 (!(decide (t359 ≥ 0)))))) else (raddlelaw04_RowOrder.j1 kj4 l0 l1 a3 t357 (!false))))))))) else (raddlelaw04_RowOrder.j1 kj4 l0 l1 a3 t357 true))) else (raddlelaw04_RowOrder.j1 kj4 l0 l1 a3 t357 true)))) = some r := H
    have A13 := Aside0.mk A130
    clear A130
    replace H := Option.bind_eq_some_iff.mp H
    obtain ⟨t359, A140, H⟩ := H
    replace H : ((row_Compare.f kj4 l1 l0).bind fun t360 => (if t357 = (wrap64 (-t360)) then ((row_Compare.f kj4 l0 l0).bind fun t361 => (if t361 = 0 then ((raddlekeep_Row.f kj4 l0 l1).bind fun t362 => (if ((t357 == 0) != t362) = true then (raddlelaw04_RowOrder.j1 kj4 l0 l1 a3 t357 true) else (if t357 < (-1) then (raddlelaw04_RowOrder.j1 kj4 l0 l1 a3 t357 true) else (if t357 > 1 then (raddlelaw04_RowOrder.j1 kj4 l0 l1 a3 t357 true) else (if t357 > 0 then (if t357 < 0 then (raddlelaw04_RowOrder.j1 kj4 l0 l1 a3 t357 (!true)) else (if t358 < 0 then (raddlelaw04_RowOrder.j1 kj4 l0 l1 a3 t357 (!true)) else (raddlelaw04_RowOrder.j1 kj4 l0 l1 a3 t357 (!(decide (t359 ≥ 0)))))) else (if t358 > 0 then (if t357 < 0 then (raddlelaw04_RowOrder.j1 kj4 l0 l1 a3 t357 (!true)) else (if t358 < 0 then (raddlelaw04_RowOrder.j1 kj4 l0 l1 a3 t357 (!true)) else (raddlelaw04_RowOrder.j1 kj4 l0 l1 a3 t357 (!(decide (t359 ≥ 0)))))) else (if t359 ≤ 0 then (if t357 < 0 then (raddlelaw04_RowOrder.j1 kj4 l0 l1 a3 t357 (!true)) else (if t358 < 0 then (raddlelaw04_RowOrder.j1 kj4 l0 l1 a3 t357 (!true)) else (raddlelaw04_RowOrder.j1 kj4 l0 l1 a3 t357 (!(decide (t359 ≥ 0)))))) else (raddlelaw04_RowOrder.j1 kj4 l0 l1 a3 t357 (!false))))))))) else (raddlelaw04_RowOrder.j1 kj4 l0 l1 a3 t357 true))) else (raddlelaw04_RowOrder.j1 kj4 l0 l1 a3 t357 true))) = some r := H
    have A14 := Aside0.mk A140
    clear A140
    have HC15 := Aside0.mk H
    clear H
    go_upto_region 4 with (first | ((with_reducible refine gate_callee (f := 18) rfl ?_); refine Short.gL (some 27) Try.func18 #[.slice A0 l0.length c0, .slice A1 l1.length c1] (h := ?_); (with_reducible refine (row_Compare.calls kj4 _ _ l0 _ _ l1 t357 _ ?side1 ?side2 ?side3 ?side4 A12.out).mono ?_); (case side1 => repeat (first | exact (Kd.C_below HR0.out HB.out) | (with_reducible refine Kd.C_alloc ?_ _) | (with_reducible refine Kd.C_drewN ?_ _) | (with_reducible refine Kd.C_drew ?_))); (case side2 => exact HC0.out); (case side3 => repeat (first | exact (Kd.C_below HR1.out HB.out) | (with_reducible refine Kd.C_alloc ?_ _) | (with_reducible refine Kd.C_drewN ?_ _) | (with_reducible refine Kd.C_drew ?_))); (case side4 => exact HC1.out); rintro e w16 ⟨rfl, hb⟩; refine ⟨_, rfl, ?_⟩; have n0_ := Aside0.mk (below_step (Short.hB HB) hb); clear HB; have HB := n0_; clear n0_; (try clear hb); (try clear hb2); (try clear hk); (try clear hi)) | ((with_reducible refine gate_callee (f := 18) rfl ?_); refine Short.gL (some 30) Try.func18 #[.slice A1 l1.length c1, .slice A2 l2.length c2] (h := ?_); (with_reducible refine (row_Compare.calls kj4 _ _ l1 _ _ l2 t358 _ ?side1 ?side2 ?side3 ?side4 A13.out).mono ?_); (case side1 => repeat (first | exact (Kd.C_below HR1.out HB.out) | (with_reducible refine Kd.C_alloc ?_ _) | (with_reducible refine Kd.C_drewN ?_ _) | (with_reducible refine Kd.C_drew ?_))); (case side2 => exact HC1.out); (case side3 => repeat (first | exact (Kd.C_below HR2.out HB.out) | (with_reducible refine Kd.C_alloc ?_ _) | (with_reducible refine Kd.C_drewN ?_ _) | (with_reducible refine Kd.C_drew ?_))); (case side4 => exact HC2.out); rintro e w17 ⟨rfl, hb⟩; refine ⟨_, rfl, ?_⟩; have n0_ := Aside0.mk (below_step (Short.hB HB) hb); clear HB; have HB := n0_; clear n0_; (try clear hb); (try clear hb2); (try clear hk); (try clear hi)) | ((with_reducible refine gate_callee (f := 18) rfl ?_); refine Short.gL (some 33) Try.func18 #[.slice A0 l0.length c0, .slice A2 l2.length c2] (h := ?_); (with_reducible refine (row_Compare.calls kj4 _ _ l0 _ _ l2 t359 _ ?side1 ?side2 ?side3 ?side4 A14.out).mono ?_); (case side1 => repeat (first | exact (Kd.C_below HR0.out HB.out) | (with_reducible refine Kd.C_alloc ?_ _) | (with_reducible refine Kd.C_drewN ?_ _) | (with_reducible refine Kd.C_drew ?_))); (case side2 => exact HC0.out); (case side3 => repeat (first | exact (Kd.C_below HR2.out HB.out) | (with_reducible refine Kd.C_alloc ?_ _) | (with_reducible refine Kd.C_drewN ?_ _) | (with_reducible refine Kd.C_drew ?_))); (case side4 => exact HC2.out); rintro e w18 ⟨rfl, hb⟩; refine ⟨_, rfl, ?_⟩; have n0_ := Aside0.mk (below_step (Short.hB HB) hb); clear HB; have HB := n0_; clear n0_; (try clear hb); (try clear hb2); (try clear hk); (try clear hi)))
    (try simp only [Act.put, List.setIfInBounds_toArray, List.set_cons_zero, List.set_cons_succ])
    go_cut [86] (fun v86 wc => ∃ (kq : Nat) (x86_14 : Bool), v86 = .bool x86_14 ∧ Aside0 (raddlelaw04_RowOrder.j1 kq l0 l1 a3 t357 x86_14 = some r) ∧ Aside0 (kq ≤ kj4) ∧ Aside0 (Below w.heap.size w wc))
    case first =>
     have H := HC15.out
     clear HC15
     replace H := Option.bind_eq_some_iff.mp H
     obtain ⟨t360, A190, H⟩ := H
     replace H : (if t357 = (wrap64 (-t360)) then ((row_Compare.f kj4 l0 l0).bind fun t361 => (if t361 = 0 then ((raddlekeep_Row.f kj4 l0 l1).bind fun t362 => (if ((t357 == 0) != t362) = true then (raddlelaw04_RowOrder.j1 kj4 l0 l1 a3 t357 true) else (if t357 < (-1) then (raddlelaw04_RowOrder.j1 kj4 l0 l1 a3 t357 true) else (if t357 > 1 then (raddlelaw04_RowOrder.j1 kj4 l0 l1 a3 t357 true) else (if t357 > 0 then (if t357 < 0 then (raddlelaw04_RowOrder.j1 kj4 l0 l1 a3 t357 (!true)) else (if t358 < 0 then (raddlelaw04_RowOrder.j1 kj4 l0 l1 a3 t357 (!true)) else (raddlelaw04_RowOrder.j1 kj4 l0 l1 a3 t357 (!(decide (t359 ≥ 0)))))) else (if t358 > 0 then (if t357 < 0 then (raddlelaw04_RowOrder.j1 kj4 l0 l1 a3 t357 (!true)) else (if t358 < 0 then (raddlelaw04_RowOrder.j1 kj4 l0 l1 a3 t357 (!true)) else (raddlelaw04_RowOrder.j1 kj4 l0 l1 a3 t357 (!(decide (t359 ≥ 0)))))) else (if t359 ≤ 0 then (if t357 < 0 then (raddlelaw04_RowOrder.j1 kj4 l0 l1 a3 t357 (!true)) else (if t358 < 0 then (raddlelaw04_RowOrder.j1 kj4 l0 l1 a3 t357 (!true)) else (raddlelaw04_RowOrder.j1 kj4 l0 l1 a3 t357 (!(decide (t359 ≥ 0)))))) else (raddlelaw04_RowOrder.j1 kj4 l0 l1 a3 t357 (!false))))))))) else (raddlelaw04_RowOrder.j1 kj4 l0 l1 a3 t357 true))) else (raddlelaw04_RowOrder.j1 kj4 l0 l1 a3 t357 true)) = some r := H
     have A19 := Aside0.mk A190
     clear A190
     by_cases c20 : t357 = (wrap64 (-t360))
     ·
      rw [if_pos c20] at H
      have c20b0 : (t357 == (wrap64 (-t360))) = true := beq_iff_eq.mpr c20
      have c20b1 : (t357 != (wrap64 (-t360))) = false := bne_eq_false_iff_eq.mpr c20
      clear c20
      (first | rw [c20b0] | (simp only [i64_w, i32_w]; rw [c20b0]) | skip)
      replace H := Option.bind_eq_some_iff.mp H
      obtain ⟨t361, A210, H⟩ := H
      replace H : (if t361 = 0 then ((raddlekeep_Row.f kj4 l0 l1).bind fun t362 => (if ((t357 == 0) != t362) = true then (raddlelaw04_RowOrder.j1 kj4 l0 l1 a3 t357 true) else (if t357 < (-1) then (raddlelaw04_RowOrder.j1 kj4 l0 l1 a3 t357 true) else (if t357 > 1 then (raddlelaw04_RowOrder.j1 kj4 l0 l1 a3 t357 true) else (if t357 > 0 then (if t357 < 0 then (raddlelaw04_RowOrder.j1 kj4 l0 l1 a3 t357 (!true)) else (if t358 < 0 then (raddlelaw04_RowOrder.j1 kj4 l0 l1 a3 t357 (!true)) else (raddlelaw04_RowOrder.j1 kj4 l0 l1 a3 t357 (!(decide (t359 ≥ 0)))))) else (if t358 > 0 then (if t357 < 0 then (raddlelaw04_RowOrder.j1 kj4 l0 l1 a3 t357 (!true)) else (if t358 < 0 then (raddlelaw04_RowOrder.j1 kj4 l0 l1 a3 t357 (!true)) else (raddlelaw04_RowOrder.j1 kj4 l0 l1 a3 t357 (!(decide (t359 ≥ 0)))))) else (if t359 ≤ 0 then (if t357 < 0 then (raddlelaw04_RowOrder.j1 kj4 l0 l1 a3 t357 (!true)) else (if t358 < 0 then (raddlelaw04_RowOrder.j1 kj4 l0 l1 a3 t357 (!true)) else (raddlelaw04_RowOrder.j1 kj4 l0 l1 a3 t357 (!(decide (t359 ≥ 0)))))) else (raddlelaw04_RowOrder.j1 kj4 l0 l1 a3 t357 (!false))))))))) else (raddlelaw04_RowOrder.j1 kj4 l0 l1 a3 t357 true)) = some r := H
      have A21 := Aside0.mk A210
      clear A210
      by_cases c22 : t361 = 0
      ·
       rw [if_pos c22] at H
       have c22b0 : (t361 == 0) = true := beq_iff_eq.mpr c22
       have c22b1 : (t361 != 0) = false := bne_eq_false_iff_eq.mpr c22
       clear c22
       replace H := Option.bind_eq_some_iff.mp H
       obtain ⟨t362, A230, H⟩ := H
       replace H : (if ((t357 == 0) != t362) = true then (raddlelaw04_RowOrder.j1 kj4 l0 l1 a3 t357 true) else (if t357 < (-1) then (raddlelaw04_RowOrder.j1 kj4 l0 l1 a3 t357 true) else (if t357 > 1 then (raddlelaw04_RowOrder.j1 kj4 l0 l1 a3 t357 true) else (if t357 > 0 then (if t357 < 0 then (raddlelaw04_RowOrder.j1 kj4 l0 l1 a3 t357 (!true)) else (if t358 < 0 then (raddlelaw04_RowOrder.j1 kj4 l0 l1 a3 t357 (!true)) else (raddlelaw04_RowOrder.j1 kj4 l0 l1 a3 t357 (!(decide (t359 ≥ 0)))))) else (if t358 > 0 then (if t357 < 0 then (raddlelaw04_RowOrder.j1 kj4 l0 l1 a3 t357 (!true)) else (if t358 < 0 then (raddlelaw04_RowOrder.j1 kj4 l0 l1 a3 t357 (!true)) else (raddlelaw04_RowOrder.j1 kj4 l0 l1 a3 t357 (!(decide (t359 ≥ 0)))))) else (if t359 ≤ 0 then (if t357 < 0 then (raddlelaw04_RowOrder.j1 kj4 l0 l1 a3 t357 (!true)) else (if t358 < 0 then (raddlelaw04_RowOrder.j1 kj4 l0 l1 a3 t357 (!true)) else (raddlelaw04_RowOrder.j1 kj4 l0 l1 a3 t357 (!(decide (t359 ≥ 0)))))) else (raddlelaw04_RowOrder.j1 kj4 l0 l1 a3 t357 (!false)))))))) = some r := H
       have A23 := Aside0.mk A230
       clear A230
       by_cases c24 : ((t357 == 0) != t362) = true
       ·
        rw [if_pos c24] at H
        have c24b0 : ((t357 == 0) != t362) = true := c24
        (try (have c24b1 : decide ((t357 == 0) = t362) = false := by simpa using c24))
        (try (have c24b2 : ((t357 == 0) == t362) = false := by simpa using c24))
        (try (have c24b3 : ¬ ((t357 == 0) = t362) := by simpa using c24))
        clear c24
        exact absurd H (by rw [hrt]; cases kj4 <;> simp [raddlelaw04_RowOrder.j1])
       ·
        rw [if_neg c24] at H
        have c24b0 : ((t357 == 0) != t362) = false := by simpa using c24
        (try (have c24b1 : decide ((t357 == 0) = t362) = true := by simpa using c24))
        (try (have c24b2 : ((t357 == 0) == t362) = true := by simpa using c24))
        clear c24
        by_cases c25 : t357 < (-1)
        ·
         rw [if_pos c25] at H
         have c25b0 : decide (t357 < (-1)) = true := decide_eq_true c25
         clear c25
         exact absurd H (by rw [hrt]; cases kj4 <;> simp [raddlelaw04_RowOrder.j1])
        ·
         rw [if_neg c25] at H
         have c25b0 : decide (t357 < (-1)) = false := decide_eq_false c25
         clear c25
         by_cases c26 : t357 > 1
         ·
          rw [if_pos c26] at H
          have c26b0 : decide (1 < t357) = true := decide_eq_true c26
          clear c26
          exact absurd H (by rw [hrt]; cases kj4 <;> simp [raddlelaw04_RowOrder.j1])
         ·
          rw [if_neg c26] at H
          have c26b0 : decide (1 < t357) = false := decide_eq_false c26
          clear c26
          by_cases c27 : t357 > 0
          ·
           rw [if_pos c27] at H
           have c27b0 : decide (0 < t357) = true := decide_eq_true c27
           clear c27
           by_cases c28 : t357 < 0
           ·
            rw [if_pos c28] at H
            have c28b0 : decide (t357 < 0) = true := decide_eq_true c28
            clear c28
            have H' := Aside0.mk H
            clear H
            go_wp2_with (first | ((with_reducible refine gate_callee (f := 18) rfl ?_); refine Short.gL (some 37) Try.func18 #[.slice A1 l1.length c1, .slice A0 l0.length c0] (h := ?_); (with_reducible refine (row_Compare.calls kj4 _ _ l1 _ _ l0 t360 _ ?side1 ?side2 ?side3 ?side4 A19.out).mono ?_); (case side1 => repeat (first | exact (Kd.C_below HR1.out HB.out) | (with_reducible refine Kd.C_alloc ?_ _) | (with_reducible refine Kd.C_drewN ?_ _) | (with_reducible refine Kd.C_drew ?_))); (case side2 => exact HC1.out); (case side3 => repeat (first | exact (Kd.C_below HR0.out HB.out) | (with_reducible refine Kd.C_alloc ?_ _) | (with_reducible refine Kd.C_drewN ?_ _) | (with_reducible refine Kd.C_drew ?_))); (case side4 => exact HC0.out); rintro e w29 ⟨rfl, hb⟩; refine ⟨_, rfl, ?_⟩; have n0_ := Aside0.mk (below_step (Short.hB HB) hb); clear HB; have HB := n0_; clear n0_; (try clear hb); (try clear hb2); (try clear hk); (try clear hi)) | (go_at_call 18; (with_reducible refine (row_Compare.calls kj4 _ _ l0 _ _ l0 t361 _ ?side1 ?side2 ?side3 ?side4 A21.out).mono ?_); (case side1 => repeat (first | exact (Kd.C_below HR0.out HB.out) | (with_reducible refine Kd.C_alloc ?_ _) | (with_reducible refine Kd.C_drewN ?_ _) | (with_reducible refine Kd.C_drew ?_))); (case side2 => exact HC0.out); (case side3 => repeat (first | exact (Kd.C_below HR0.out HB.out) | (with_reducible refine Kd.C_alloc ?_ _) | (with_reducible refine Kd.C_drewN ?_ _) | (with_reducible refine Kd.C_drew ?_))); (case side4 => exact HC0.out); rintro e w30 ⟨rfl, hb⟩; have n0_ := Aside0.mk (below_step (Short.hB HB) hb); clear HB; have HB := n0_; clear n0_; (try clear hb); (try clear hb2); (try clear hk); (try clear hi)) | (go_at_call 13; (with_reducible refine (raddlekeep_Row.calls kj4 _ _ l0 _ _ l1 t362 _ ?side1 ?side2 ?side3 ?side4 A23.out).mono ?_); (case side1 => repeat (first | exact (Kd.C_below HR0.out HB.out) | (with_reducible refine Kd.C_alloc ?_ _) | (with_reducible refine Kd.C_drewN ?_ _) | (with_reducible refine Kd.C_drew ?_))); (case side2 => exact HC0.out); (case side3 => repeat (first | exact (Kd.C_below HR1.out HB.out) | (with_reducible refine Kd.C_alloc ?_ _) | (with_reducible refine Kd.C_drewN ?_ _) | (with_reducible refine Kd.C_drew ?_))); (case side4 => exact HC1.out); rintro e w31 ⟨rfl, hb⟩; have n0_ := Aside0.mk (below_step (Short.hB HB) hb); clear HB; have HB := n0_; clear n0_; (try clear hb); (try clear hb2); (try clear hk); (try clear hi)))
            go_meet
            case rel => exact ⟨_, (!true), (by first | rfl | (simp; done) | (simp [*]; done)), H', ⟨by have := HJ4.out; first | omega | exact Nat.le_refl _⟩, ⟨Short.hB HB⟩⟩
           ·
            rw [if_neg c28] at H
            have c28b0 : decide (t357 < 0) = false := decide_eq_false c28
            clear c28
            by_cases c32 : t358 < 0
            ·
             rw [if_pos c32] at H
             have c32b0 : decide (t358 < 0) = true := decide_eq_true c32
             clear c32
             have H' := Aside0.mk H
             clear H
             go_wp2_with (first | ((with_reducible refine gate_callee (f := 18) rfl ?_); refine Short.gL (some 37) Try.func18 #[.slice A1 l1.length c1, .slice A0 l0.length c0] (h := ?_); (with_reducible refine (row_Compare.calls kj4 _ _ l1 _ _ l0 t360 _ ?side1 ?side2 ?side3 ?side4 A19.out).mono ?_); (case side1 => repeat (first | exact (Kd.C_below HR1.out HB.out) | (with_reducible refine Kd.C_alloc ?_ _) | (with_reducible refine Kd.C_drewN ?_ _) | (with_reducible refine Kd.C_drew ?_))); (case side2 => exact HC1.out); (case side3 => repeat (first | exact (Kd.C_below HR0.out HB.out) | (with_reducible refine Kd.C_alloc ?_ _) | (with_reducible refine Kd.C_drewN ?_ _) | (with_reducible refine Kd.C_drew ?_))); (case side4 => exact HC0.out); rintro e w33 ⟨rfl, hb⟩; refine ⟨_, rfl, ?_⟩; have n0_ := Aside0.mk (below_step (Short.hB HB) hb); clear HB; have HB := n0_; clear n0_; (try clear hb); (try clear hb2); (try clear hk); (try clear hi)) | (go_at_call 18; (with_reducible refine (row_Compare.calls kj4 _ _ l0 _ _ l0 t361 _ ?side1 ?side2 ?side3 ?side4 A21.out).mono ?_); (case side1 => repeat (first | exact (Kd.C_below HR0.out HB.out) | (with_reducible refine Kd.C_alloc ?_ _) | (with_reducible refine Kd.C_drewN ?_ _) | (with_reducible refine Kd.C_drew ?_))); (case side2 => exact HC0.out); (case side3 => repeat (first | exact (Kd.C_below HR0.out HB.out) | (with_reducible refine Kd.C_alloc ?_ _) | (with_reducible refine Kd.C_drewN ?_ _) | (with_reducible refine Kd.C_drew ?_))); (case side4 => exact HC0.out); rintro e w34 ⟨rfl, hb⟩; have n0_ := Aside0.mk (below_step (Short.hB HB) hb); clear HB; have HB := n0_; clear n0_; (try clear hb); (try clear hb2); (try clear hk); (try clear hi)) | (go_at_call 13; (with_reducible refine (raddlekeep_Row.calls kj4 _ _ l0 _ _ l1 t362 _ ?side1 ?side2 ?side3 ?side4 A23.out).mono ?_); (case side1 => repeat (first | exact (Kd.C_below HR0.out HB.out) | (with_reducible refine Kd.C_alloc ?_ _) | (with_reducible refine Kd.C_drewN ?_ _) | (with_reducible refine Kd.C_drew ?_))); (case side2 => exact HC0.out); (case side3 => repeat (first | exact (Kd.C_below HR1.out HB.out) | (with_reducible refine Kd.C_alloc ?_ _) | (with_reducible refine Kd.C_drewN ?_ _) | (with_reducible refine Kd.C_drew ?_))); (case side4 => exact HC1.out); rintro e w35 ⟨rfl, hb⟩; have n0_ := Aside0.mk (below_step (Short.hB HB) hb); clear HB; have HB := n0_; clear n0_; (try clear hb); (try clear hb2); (try clear hk); (try clear hi)))
             go_meet
             case rel => exact ⟨_, (!true), (by first | rfl | (simp; done) | (simp [*]; done)), H', ⟨by have := HJ4.out; first | omega | exact Nat.le_refl _⟩, ⟨Short.hB HB⟩⟩
            ·
             rw [if_neg c32] at H
             have c32b0 : decide (t358 < 0) = false := decide_eq_false c32
             clear c32
             have H' := Aside0.mk H
             clear H
             go_wp2_with (first | ((with_reducible refine gate_callee (f := 18) rfl ?_); refine Short.gL (some 37) Try.func18 #[.slice A1 l1.length c1, .slice A0 l0.length c0] (h := ?_); (with_reducible refine (row_Compare.calls kj4 _ _ l1 _ _ l0 t360 _ ?side1 ?side2 ?side3 ?side4 A19.out).mono ?_); (case side1 => repeat (first | exact (Kd.C_below HR1.out HB.out) | (with_reducible refine Kd.C_alloc ?_ _) | (with_reducible refine Kd.C_drewN ?_ _) | (with_reducible refine Kd.C_drew ?_))); (case side2 => exact HC1.out); (case side3 => repeat (first | exact (Kd.C_below HR0.out HB.out) | (with_reducible refine Kd.C_alloc ?_ _) | (with_reducible refine Kd.C_drewN ?_ _) | (with_reducible refine Kd.C_drew ?_))); (case side4 => exact HC0.out); rintro e w36 ⟨rfl, hb⟩; refine ⟨_, rfl, ?_⟩; have n0_ := Aside0.mk (below_step (Short.hB HB) hb); clear HB; have HB := n0_; clear n0_; (try clear hb); (try clear hb2); (try clear hk); (try clear hi)) | (go_at_call 18; (with_reducible refine (row_Compare.calls kj4 _ _ l0 _ _ l0 t361 _ ?side1 ?side2 ?side3 ?side4 A21.out).mono ?_); (case side1 => repeat (first | exact (Kd.C_below HR0.out HB.out) | (with_reducible refine Kd.C_alloc ?_ _) | (with_reducible refine Kd.C_drewN ?_ _) | (with_reducible refine Kd.C_drew ?_))); (case side2 => exact HC0.out); (case side3 => repeat (first | exact (Kd.C_below HR0.out HB.out) | (with_reducible refine Kd.C_alloc ?_ _) | (with_reducible refine Kd.C_drewN ?_ _) | (with_reducible refine Kd.C_drew ?_))); (case side4 => exact HC0.out); rintro e w37 ⟨rfl, hb⟩; have n0_ := Aside0.mk (below_step (Short.hB HB) hb); clear HB; have HB := n0_; clear n0_; (try clear hb); (try clear hb2); (try clear hk); (try clear hi)) | (go_at_call 13; (with_reducible refine (raddlekeep_Row.calls kj4 _ _ l0 _ _ l1 t362 _ ?side1 ?side2 ?side3 ?side4 A23.out).mono ?_); (case side1 => repeat (first | exact (Kd.C_below HR0.out HB.out) | (with_reducible refine Kd.C_alloc ?_ _) | (with_reducible refine Kd.C_drewN ?_ _) | (with_reducible refine Kd.C_drew ?_))); (case side2 => exact HC0.out); (case side3 => repeat (first | exact (Kd.C_below HR1.out HB.out) | (with_reducible refine Kd.C_alloc ?_ _) | (with_reducible refine Kd.C_drewN ?_ _) | (with_reducible refine Kd.C_drew ?_))); (case side4 => exact HC1.out); rintro e w38 ⟨rfl, hb⟩; have n0_ := Aside0.mk (below_step (Short.hB HB) hb); clear HB; have HB := n0_; clear n0_; (try clear hb); (try clear hb2); (try clear hk); (try clear hi)))
             go_meet
             case rel => exact ⟨_, (!(decide (t359 ≥ 0))), (by first | rfl | (simp; done) | (simp [*]; done)), H', ⟨by have := HJ4.out; first | omega | exact Nat.le_refl _⟩, ⟨Short.hB HB⟩⟩
          ·
           rw [if_neg c27] at H
           have c27b0 : decide (0 < t357) = false := decide_eq_false c27
           clear c27
           by_cases c39 : t358 > 0
           ·
            rw [if_pos c39] at H
            have c39b0 : decide (0 < t358) = true := decide_eq_true c39
            clear c39
            by_cases c40 : t357 < 0
            ·
             rw [if_pos c40] at H
             have c40b0 : decide (t357 < 0) = true := decide_eq_true c40
             clear c40
             have H' := Aside0.mk H
             clear H
             go_wp2_with (first | ((with_reducible refine gate_callee (f := 18) rfl ?_); refine Short.gL (some 37) Try.func18 #[.slice A1 l1.length c1, .slice A0 l0.length c0] (h := ?_); (with_reducible refine (row_Compare.calls kj4 _ _ l1 _ _ l0 t360 _ ?side1 ?side2 ?side3 ?side4 A19.out).mono ?_); (case side1 => repeat (first | exact (Kd.C_below HR1.out HB.out) | (with_reducible refine Kd.C_alloc ?_ _) | (with_reducible refine Kd.C_drewN ?_ _) | (with_reducible refine Kd.C_drew ?_))); (case side2 => exact HC1.out); (case side3 => repeat (first | exact (Kd.C_below HR0.out HB.out) | (with_reducible refine Kd.C_alloc ?_ _) | (with_reducible refine Kd.C_drewN ?_ _) | (with_reducible refine Kd.C_drew ?_))); (case side4 => exact HC0.out); rintro e w41 ⟨rfl, hb⟩; refine ⟨_, rfl, ?_⟩; have n0_ := Aside0.mk (below_step (Short.hB HB) hb); clear HB; have HB := n0_; clear n0_; (try clear hb); (try clear hb2); (try clear hk); (try clear hi)) | (go_at_call 18; (with_reducible refine (row_Compare.calls kj4 _ _ l0 _ _ l0 t361 _ ?side1 ?side2 ?side3 ?side4 A21.out).mono ?_); (case side1 => repeat (first | exact (Kd.C_below HR0.out HB.out) | (with_reducible refine Kd.C_alloc ?_ _) | (with_reducible refine Kd.C_drewN ?_ _) | (with_reducible refine Kd.C_drew ?_))); (case side2 => exact HC0.out); (case side3 => repeat (first | exact (Kd.C_below HR0.out HB.out) | (with_reducible refine Kd.C_alloc ?_ _) | (with_reducible refine Kd.C_drewN ?_ _) | (with_reducible refine Kd.C_drew ?_))); (case side4 => exact HC0.out); rintro e w42 ⟨rfl, hb⟩; have n0_ := Aside0.mk (below_step (Short.hB HB) hb); clear HB; have HB := n0_; clear n0_; (try clear hb); (try clear hb2); (try clear hk); (try clear hi)) | (go_at_call 13; (with_reducible refine (raddlekeep_Row.calls kj4 _ _ l0 _ _ l1 t362 _ ?side1 ?side2 ?side3 ?side4 A23.out).mono ?_); (case side1 => repeat (first | exact (Kd.C_below HR0.out HB.out) | (with_reducible refine Kd.C_alloc ?_ _) | (with_reducible refine Kd.C_drewN ?_ _) | (with_reducible refine Kd.C_drew ?_))); (case side2 => exact HC0.out); (case side3 => repeat (first | exact (Kd.C_below HR1.out HB.out) | (with_reducible refine Kd.C_alloc ?_ _) | (with_reducible refine Kd.C_drewN ?_ _) | (with_reducible refine Kd.C_drew ?_))); (case side4 => exact HC1.out); rintro e w43 ⟨rfl, hb⟩; have n0_ := Aside0.mk (below_step (Short.hB HB) hb); clear HB; have HB := n0_; clear n0_; (try clear hb); (try clear hb2); (try clear hk); (try clear hi)))
             go_meet
             case rel => exact ⟨_, (!true), (by first | rfl | (simp; done) | (simp [*]; done)), H', ⟨by have := HJ4.out; first | omega | exact Nat.le_refl _⟩, ⟨Short.hB HB⟩⟩
            ·
             rw [if_neg c40] at H
             have c40b0 : decide (t357 < 0) = false := decide_eq_false c40
             clear c40
             by_cases c44 : t358 < 0
             ·
              rw [if_pos c44] at H
              have c44b0 : decide (t358 < 0) = true := decide_eq_true c44
              clear c44
              have H' := Aside0.mk H
              clear H
              go_wp2_with (first | ((with_reducible refine gate_callee (f := 18) rfl ?_); refine Short.gL (some 37) Try.func18 #[.slice A1 l1.length c1, .slice A0 l0.length c0] (h := ?_); (with_reducible refine (row_Compare.calls kj4 _ _ l1 _ _ l0 t360 _ ?side1 ?side2 ?side3 ?side4 A19.out).mono ?_); (case side1 => repeat (first | exact (Kd.C_below HR1.out HB.out) | (with_reducible refine Kd.C_alloc ?_ _) | (with_reducible refine Kd.C_drewN ?_ _) | (with_reducible refine Kd.C_drew ?_))); (case side2 => exact HC1.out); (case side3 => repeat (first | exact (Kd.C_below HR0.out HB.out) | (with_reducible refine Kd.C_alloc ?_ _) | (with_reducible refine Kd.C_drewN ?_ _) | (with_reducible refine Kd.C_drew ?_))); (case side4 => exact HC0.out); rintro e w45 ⟨rfl, hb⟩; refine ⟨_, rfl, ?_⟩; have n0_ := Aside0.mk (below_step (Short.hB HB) hb); clear HB; have HB := n0_; clear n0_; (try clear hb); (try clear hb2); (try clear hk); (try clear hi)) | (go_at_call 18; (with_reducible refine (row_Compare.calls kj4 _ _ l0 _ _ l0 t361 _ ?side1 ?side2 ?side3 ?side4 A21.out).mono ?_); (case side1 => repeat (first | exact (Kd.C_below HR0.out HB.out) | (with_reducible refine Kd.C_alloc ?_ _) | (with_reducible refine Kd.C_drewN ?_ _) | (with_reducible refine Kd.C_drew ?_))); (case side2 => exact HC0.out); (case side3 => repeat (first | exact (Kd.C_below HR0.out HB.out) | (with_reducible refine Kd.C_alloc ?_ _) | (with_reducible refine Kd.C_drewN ?_ _) | (with_reducible refine Kd.C_drew ?_))); (case side4 => exact HC0.out); rintro e w46 ⟨rfl, hb⟩; have n0_ := Aside0.mk (below_step (Short.hB HB) hb); clear HB; have HB := n0_; clear n0_; (try clear hb); (try clear hb2); (try clear hk); (try clear hi)) | (go_at_call 13; (with_reducible refine (raddlekeep_Row.calls kj4 _ _ l0 _ _ l1 t362 _ ?side1 ?side2 ?side3 ?side4 A23.out).mono ?_); (case side1 => repeat (first | exact (Kd.C_below HR0.out HB.out) | (with_reducible refine Kd.C_alloc ?_ _) | (with_reducible refine Kd.C_drewN ?_ _) | (with_reducible refine Kd.C_drew ?_))); (case side2 => exact HC0.out); (case side3 => repeat (first | exact (Kd.C_below HR1.out HB.out) | (with_reducible refine Kd.C_alloc ?_ _) | (with_reducible refine Kd.C_drewN ?_ _) | (with_reducible refine Kd.C_drew ?_))); (case side4 => exact HC1.out); rintro e w47 ⟨rfl, hb⟩; have n0_ := Aside0.mk (below_step (Short.hB HB) hb); clear HB; have HB := n0_; clear n0_; (try clear hb); (try clear hb2); (try clear hk); (try clear hi)))
              go_meet
              case rel => exact ⟨_, (!true), (by first | rfl | (simp; done) | (simp [*]; done)), H', ⟨by have := HJ4.out; first | omega | exact Nat.le_refl _⟩, ⟨Short.hB HB⟩⟩
             ·
              rw [if_neg c44] at H
              have c44b0 : decide (t358 < 0) = false := decide_eq_false c44
              clear c44
              have H' := Aside0.mk H
              clear H
              go_wp2_with (first | ((with_reducible refine gate_callee (f := 18) rfl ?_); refine Short.gL (some 37) Try.func18 #[.slice A1 l1.length c1, .slice A0 l0.length c0] (h := ?_); (with_reducible refine (row_Compare.calls kj4 _ _ l1 _ _ l0 t360 _ ?side1 ?side2 ?side3 ?side4 A19.out).mono ?_); (case side1 => repeat (first | exact (Kd.C_below HR1.out HB.out) | (with_reducible refine Kd.C_alloc ?_ _) | (with_reducible refine Kd.C_drewN ?_ _) | (with_reducible refine Kd.C_drew ?_))); (case side2 => exact HC1.out); (case side3 => repeat (first | exact (Kd.C_below HR0.out HB.out) | (with_reducible refine Kd.C_alloc ?_ _) | (with_reducible refine Kd.C_drewN ?_ _) | (with_reducible refine Kd.C_drew ?_))); (case side4 => exact HC0.out); rintro e w48 ⟨rfl, hb⟩; refine ⟨_, rfl, ?_⟩; have n0_ := Aside0.mk (below_step (Short.hB HB) hb); clear HB; have HB := n0_; clear n0_; (try clear hb); (try clear hb2); (try clear hk); (try clear hi)) | (go_at_call 18; (with_reducible refine (row_Compare.calls kj4 _ _ l0 _ _ l0 t361 _ ?side1 ?side2 ?side3 ?side4 A21.out).mono ?_); (case side1 => repeat (first | exact (Kd.C_below HR0.out HB.out) | (with_reducible refine Kd.C_alloc ?_ _) | (with_reducible refine Kd.C_drewN ?_ _) | (with_reducible refine Kd.C_drew ?_))); (case side2 => exact HC0.out); (case side3 => repeat (first | exact (Kd.C_below HR0.out HB.out) | (with_reducible refine Kd.C_alloc ?_ _) | (with_reducible refine Kd.C_drewN ?_ _) | (with_reducible refine Kd.C_drew ?_))); (case side4 => exact HC0.out); rintro e w49 ⟨rfl, hb⟩; have n0_ := Aside0.mk (below_step (Short.hB HB) hb); clear HB; have HB := n0_; clear n0_; (try clear hb); (try clear hb2); (try clear hk); (try clear hi)) | (go_at_call 13; (with_reducible refine (raddlekeep_Row.calls kj4 _ _ l0 _ _ l1 t362 _ ?side1 ?side2 ?side3 ?side4 A23.out).mono ?_); (case side1 => repeat (first | exact (Kd.C_below HR0.out HB.out) | (with_reducible refine Kd.C_alloc ?_ _) | (with_reducible refine Kd.C_drewN ?_ _) | (with_reducible refine Kd.C_drew ?_))); (case side2 => exact HC0.out); (case side3 => repeat (first | exact (Kd.C_below HR1.out HB.out) | (with_reducible refine Kd.C_alloc ?_ _) | (with_reducible refine Kd.C_drewN ?_ _) | (with_reducible refine Kd.C_drew ?_))); (case side4 => exact HC1.out); rintro e w50 ⟨rfl, hb⟩; have n0_ := Aside0.mk (below_step (Short.hB HB) hb); clear HB; have HB := n0_; clear n0_; (try clear hb); (try clear hb2); (try clear hk); (try clear hi)))
              go_meet
              case rel => exact ⟨_, (!(decide (t359 ≥ 0))), (by first | rfl | (simp; done) | (simp [*]; done)), H', ⟨by have := HJ4.out; first | omega | exact Nat.le_refl _⟩, ⟨Short.hB HB⟩⟩
           ·
            rw [if_neg c39] at H
            have c39b0 : decide (0 < t358) = false := decide_eq_false c39
            clear c39
            by_cases c51 : t359 ≤ 0
            ·
             rw [if_pos c51] at H
             have c51b0 : decide (t359 ≤ 0) = true := decide_eq_true c51
             clear c51
             by_cases c52 : t357 < 0
             ·
              rw [if_pos c52] at H
              have c52b0 : decide (t357 < 0) = true := decide_eq_true c52
              clear c52
              have H' := Aside0.mk H
              clear H
              go_wp2_with (first | ((with_reducible refine gate_callee (f := 18) rfl ?_); refine Short.gL (some 37) Try.func18 #[.slice A1 l1.length c1, .slice A0 l0.length c0] (h := ?_); (with_reducible refine (row_Compare.calls kj4 _ _ l1 _ _ l0 t360 _ ?side1 ?side2 ?side3 ?side4 A19.out).mono ?_); (case side1 => repeat (first | exact (Kd.C_below HR1.out HB.out) | (with_reducible refine Kd.C_alloc ?_ _) | (with_reducible refine Kd.C_drewN ?_ _) | (with_reducible refine Kd.C_drew ?_))); (case side2 => exact HC1.out); (case side3 => repeat (first | exact (Kd.C_below HR0.out HB.out) | (with_reducible refine Kd.C_alloc ?_ _) | (with_reducible refine Kd.C_drewN ?_ _) | (with_reducible refine Kd.C_drew ?_))); (case side4 => exact HC0.out); rintro e w53 ⟨rfl, hb⟩; refine ⟨_, rfl, ?_⟩; have n0_ := Aside0.mk (below_step (Short.hB HB) hb); clear HB; have HB := n0_; clear n0_; (try clear hb); (try clear hb2); (try clear hk); (try clear hi)) | (go_at_call 18; (with_reducible refine (row_Compare.calls kj4 _ _ l0 _ _ l0 t361 _ ?side1 ?side2 ?side3 ?side4 A21.out).mono ?_); (case side1 => repeat (first | exact (Kd.C_below HR0.out HB.out) | (with_reducible refine Kd.C_alloc ?_ _) | (with_reducible refine Kd.C_drewN ?_ _) | (with_reducible refine Kd.C_drew ?_))); (case side2 => exact HC0.out); (case side3 => repeat (first | exact (Kd.C_below HR0.out HB.out) | (with_reducible refine Kd.C_alloc ?_ _) | (with_reducible refine Kd.C_drewN ?_ _) | (with_reducible refine Kd.C_drew ?_))); (case side4 => exact HC0.out); rintro e w54 ⟨rfl, hb⟩; have n0_ := Aside0.mk (below_step (Short.hB HB) hb); clear HB; have HB := n0_; clear n0_; (try clear hb); (try clear hb2); (try clear hk); (try clear hi)) | (go_at_call 13; (with_reducible refine (raddlekeep_Row.calls kj4 _ _ l0 _ _ l1 t362 _ ?side1 ?side2 ?side3 ?side4 A23.out).mono ?_); (case side1 => repeat (first | exact (Kd.C_below HR0.out HB.out) | (with_reducible refine Kd.C_alloc ?_ _) | (with_reducible refine Kd.C_drewN ?_ _) | (with_reducible refine Kd.C_drew ?_))); (case side2 => exact HC0.out); (case side3 => repeat (first | exact (Kd.C_below HR1.out HB.out) | (with_reducible refine Kd.C_alloc ?_ _) | (with_reducible refine Kd.C_drewN ?_ _) | (with_reducible refine Kd.C_drew ?_))); (case side4 => exact HC1.out); rintro e w55 ⟨rfl, hb⟩; have n0_ := Aside0.mk (below_step (Short.hB HB) hb); clear HB; have HB := n0_; clear n0_; (try clear hb); (try clear hb2); (try clear hk); (try clear hi)))
              go_meet
              case rel => exact ⟨_, (!true), (by first | rfl | (simp; done) | (simp [*]; done)), H', ⟨by have := HJ4.out; first | omega | exact Nat.le_refl _⟩, ⟨Short.hB HB⟩⟩
             ·
              rw [if_neg c52] at H
              have c52b0 : decide (t357 < 0) = false := decide_eq_false c52
              clear c52
              by_cases c56 : t358 < 0
              ·
               rw [if_pos c56] at H
               have c56b0 : decide (t358 < 0) = true := decide_eq_true c56
               clear c56
               have H' := Aside0.mk H
               clear H
               go_wp2_with (first | ((with_reducible refine gate_callee (f := 18) rfl ?_); refine Short.gL (some 37) Try.func18 #[.slice A1 l1.length c1, .slice A0 l0.length c0] (h := ?_); (with_reducible refine (row_Compare.calls kj4 _ _ l1 _ _ l0 t360 _ ?side1 ?side2 ?side3 ?side4 A19.out).mono ?_); (case side1 => repeat (first | exact (Kd.C_below HR1.out HB.out) | (with_reducible refine Kd.C_alloc ?_ _) | (with_reducible refine Kd.C_drewN ?_ _) | (with_reducible refine Kd.C_drew ?_))); (case side2 => exact HC1.out); (case side3 => repeat (first | exact (Kd.C_below HR0.out HB.out) | (with_reducible refine Kd.C_alloc ?_ _) | (with_reducible refine Kd.C_drewN ?_ _) | (with_reducible refine Kd.C_drew ?_))); (case side4 => exact HC0.out); rintro e w57 ⟨rfl, hb⟩; refine ⟨_, rfl, ?_⟩; have n0_ := Aside0.mk (below_step (Short.hB HB) hb); clear HB; have HB := n0_; clear n0_; (try clear hb); (try clear hb2); (try clear hk); (try clear hi)) | (go_at_call 18; (with_reducible refine (row_Compare.calls kj4 _ _ l0 _ _ l0 t361 _ ?side1 ?side2 ?side3 ?side4 A21.out).mono ?_); (case side1 => repeat (first | exact (Kd.C_below HR0.out HB.out) | (with_reducible refine Kd.C_alloc ?_ _) | (with_reducible refine Kd.C_drewN ?_ _) | (with_reducible refine Kd.C_drew ?_))); (case side2 => exact HC0.out); (case side3 => repeat (first | exact (Kd.C_below HR0.out HB.out) | (with_reducible refine Kd.C_alloc ?_ _) | (with_reducible refine Kd.C_drewN ?_ _) | (with_reducible refine Kd.C_drew ?_))); (case side4 => exact HC0.out); rintro e w58 ⟨rfl, hb⟩; have n0_ := Aside0.mk (below_step (Short.hB HB) hb); clear HB; have HB := n0_; clear n0_; (try clear hb); (try clear hb2); (try clear hk); (try clear hi)) | (go_at_call 13; (with_reducible refine (raddlekeep_Row.calls kj4 _ _ l0 _ _ l1 t362 _ ?side1 ?side2 ?side3 ?side4 A23.out).mono ?_); (case side1 => repeat (first | exact (Kd.C_below HR0.out HB.out) | (with_reducible refine Kd.C_alloc ?_ _) | (with_reducible refine Kd.C_drewN ?_ _) | (with_reducible refine Kd.C_drew ?_))); (case side2 => exact HC0.out); (case side3 => repeat (first | exact (Kd.C_below HR1.out HB.out) | (with_reducible refine Kd.C_alloc ?_ _) | (with_reducible refine Kd.C_drewN ?_ _) | (with_reducible refine Kd.C_drew ?_))); (case side4 => exact HC1.out); rintro e w59 ⟨rfl, hb⟩; have n0_ := Aside0.mk (below_step (Short.hB HB) hb); clear HB; have HB := n0_; clear n0_; (try clear hb); (try clear hb2); (try clear hk); (try clear hi)))
               go_meet
               case rel => exact ⟨_, (!true), (by first | rfl | (simp; done) | (simp [*]; done)), H', ⟨by have := HJ4.out; first | omega | exact Nat.le_refl _⟩, ⟨Short.hB HB⟩⟩
              ·
               rw [if_neg c56] at H
               have c56b0 : decide (t358 < 0) = false := decide_eq_false c56
               clear c56
               have H' := Aside0.mk H
               clear H
               go_wp2_with (first | ((with_reducible refine gate_callee (f := 18) rfl ?_); refine Short.gL (some 37) Try.func18 #[.slice A1 l1.length c1, .slice A0 l0.length c0] (h := ?_); (with_reducible refine (row_Compare.calls kj4 _ _ l1 _ _ l0 t360 _ ?side1 ?side2 ?side3 ?side4 A19.out).mono ?_); (case side1 => repeat (first | exact (Kd.C_below HR1.out HB.out) | (with_reducible refine Kd.C_alloc ?_ _) | (with_reducible refine Kd.C_drewN ?_ _) | (with_reducible refine Kd.C_drew ?_))); (case side2 => exact HC1.out); (case side3 => repeat (first | exact (Kd.C_below HR0.out HB.out) | (with_reducible refine Kd.C_alloc ?_ _) | (with_reducible refine Kd.C_drewN ?_ _) | (with_reducible refine Kd.C_drew ?_))); (case side4 => exact HC0.out); rintro e w60 ⟨rfl, hb⟩; refine ⟨_, rfl, ?_⟩; have n0_ := Aside0.mk (below_step (Short.hB HB) hb); clear HB; have HB := n0_; clear n0_; (try clear hb); (try clear hb2); (try clear hk); (try clear hi)) | (go_at_call 18; (with_reducible refine (row_Compare.calls kj4 _ _ l0 _ _ l0 t361 _ ?side1 ?side2 ?side3 ?side4 A21.out).mono ?_); (case side1 => repeat (first | exact (Kd.C_below HR0.out HB.out) | (with_reducible refine Kd.C_alloc ?_ _) | (with_reducible refine Kd.C_drewN ?_ _) | (with_reducible refine Kd.C_drew ?_))); (case side2 => exact HC0.out); (case side3 => repeat (first | exact (Kd.C_below HR0.out HB.out) | (with_reducible refine Kd.C_alloc ?_ _) | (with_reducible refine Kd.C_drewN ?_ _) | (with_reducible refine Kd.C_drew ?_))); (case side4 => exact HC0.out); rintro e w61 ⟨rfl, hb⟩; have n0_ := Aside0.mk (below_step (Short.hB HB) hb); clear HB; have HB := n0_; clear n0_; (try clear hb); (try clear hb2); (try clear hk); (try clear hi)) | (go_at_call 13; (with_reducible refine (raddlekeep_Row.calls kj4 _ _ l0 _ _ l1 t362 _ ?side1 ?side2 ?side3 ?side4 A23.out).mono ?_); (case side1 => repeat (first | exact (Kd.C_below HR0.out HB.out) | (with_reducible refine Kd.C_alloc ?_ _) | (with_reducible refine Kd.C_drewN ?_ _) | (with_reducible refine Kd.C_drew ?_))); (case side2 => exact HC0.out); (case side3 => repeat (first | exact (Kd.C_below HR1.out HB.out) | (with_reducible refine Kd.C_alloc ?_ _) | (with_reducible refine Kd.C_drewN ?_ _) | (with_reducible refine Kd.C_drew ?_))); (case side4 => exact HC1.out); rintro e w62 ⟨rfl, hb⟩; have n0_ := Aside0.mk (below_step (Short.hB HB) hb); clear HB; have HB := n0_; clear n0_; (try clear hb); (try clear hb2); (try clear hk); (try clear hi)))
               go_meet
               case rel => exact ⟨_, (!(decide (t359 ≥ 0))), (by first | rfl | (simp; done) | (simp [*]; done)), H', ⟨by have := HJ4.out; first | omega | exact Nat.le_refl _⟩, ⟨Short.hB HB⟩⟩
            ·
             rw [if_neg c51] at H
             have c51b0 : decide (t359 ≤ 0) = false := decide_eq_false c51
             clear c51
             have H' := Aside0.mk H
             clear H
             go_wp2_with (first | ((with_reducible refine gate_callee (f := 18) rfl ?_); refine Short.gL (some 37) Try.func18 #[.slice A1 l1.length c1, .slice A0 l0.length c0] (h := ?_); (with_reducible refine (row_Compare.calls kj4 _ _ l1 _ _ l0 t360 _ ?side1 ?side2 ?side3 ?side4 A19.out).mono ?_); (case side1 => repeat (first | exact (Kd.C_below HR1.out HB.out) | (with_reducible refine Kd.C_alloc ?_ _) | (with_reducible refine Kd.C_drewN ?_ _) | (with_reducible refine Kd.C_drew ?_))); (case side2 => exact HC1.out); (case side3 => repeat (first | exact (Kd.C_below HR0.out HB.out) | (with_reducible refine Kd.C_alloc ?_ _) | (with_reducible refine Kd.C_drewN ?_ _) | (with_reducible refine Kd.C_drew ?_))); (case side4 => exact HC0.out); rintro e w63 ⟨rfl, hb⟩; refine ⟨_, rfl, ?_⟩; have n0_ := Aside0.mk (below_step (Short.hB HB) hb); clear HB; have HB := n0_; clear n0_; (try clear hb); (try clear hb2); (try clear hk); (try clear hi)) | (go_at_call 18; (with_reducible refine (row_Compare.calls kj4 _ _ l0 _ _ l0 t361 _ ?side1 ?side2 ?side3 ?side4 A21.out).mono ?_); (case side1 => repeat (first | exact (Kd.C_below HR0.out HB.out) | (with_reducible refine Kd.C_alloc ?_ _) | (with_reducible refine Kd.C_drewN ?_ _) | (with_reducible refine Kd.C_drew ?_))); (case side2 => exact HC0.out); (case side3 => repeat (first | exact (Kd.C_below HR0.out HB.out) | (with_reducible refine Kd.C_alloc ?_ _) | (with_reducible refine Kd.C_drewN ?_ _) | (with_reducible refine Kd.C_drew ?_))); (case side4 => exact HC0.out); rintro e w64 ⟨rfl, hb⟩; have n0_ := Aside0.mk (below_step (Short.hB HB) hb); clear HB; have HB := n0_; clear n0_; (try clear hb); (try clear hb2); (try clear hk); (try clear hi)) | (go_at_call 13; (with_reducible refine (raddlekeep_Row.calls kj4 _ _ l0 _ _ l1 t362 _ ?side1 ?side2 ?side3 ?side4 A23.out).mono ?_); (case side1 => repeat (first | exact (Kd.C_below HR0.out HB.out) | (with_reducible refine Kd.C_alloc ?_ _) | (with_reducible refine Kd.C_drewN ?_ _) | (with_reducible refine Kd.C_drew ?_))); (case side2 => exact HC0.out); (case side3 => repeat (first | exact (Kd.C_below HR1.out HB.out) | (with_reducible refine Kd.C_alloc ?_ _) | (with_reducible refine Kd.C_drewN ?_ _) | (with_reducible refine Kd.C_drew ?_))); (case side4 => exact HC1.out); rintro e w65 ⟨rfl, hb⟩; have n0_ := Aside0.mk (below_step (Short.hB HB) hb); clear HB; have HB := n0_; clear n0_; (try clear hb); (try clear hb2); (try clear hk); (try clear hi)))
             go_meet
             case rel => exact ⟨_, (!false), (by first | rfl | (simp; done) | (simp [*]; done)), H', ⟨by have := HJ4.out; first | omega | exact Nat.le_refl _⟩, ⟨Short.hB HB⟩⟩
      ·
       rw [if_neg c22] at H
       have c22b0 : (t361 == 0) = false := beq_eq_false_iff_ne.mpr c22
       have c22b1 : (t361 != 0) = true := bne_iff_ne.mpr c22
       exact absurd H (by rw [hrt]; cases kj4 <;> simp [raddlelaw04_RowOrder.j1])
     ·
      rw [if_neg c20] at H
      have c20b0 : (t357 == (wrap64 (-t360))) = false := beq_eq_false_iff_ne.mpr c20
      have c20b1 : (t357 != (wrap64 (-t360))) = true := bne_iff_ne.mpr c20
      (first | rw [c20b0] | (simp only [i64_w, i32_w]; rw [c20b0]) | skip)
      exact absurd H (by rw [hrt]; cases kj4 <;> simp [raddlelaw04_RowOrder.j1])
    case rest => as_aux_lemma =>
     clear HC15
     try clear c1
     try clear c2
     try clear p2
     try clear c3
     try clear c4
     try clear c5
     try clear p6
     try clear c7
     try clear c9
     try clear c11
     try clear c17
     try clear c18
     try clear c20
     try clear c20b0
     try clear c20b1
     try clear c22
     try clear c22b0
     try clear c22b1
     try clear c24
     try clear c24b0
     try clear c24b1
     try clear c24b2
     try clear c25
     try clear c25b0
     try clear c26
     try clear c26b0
     try clear c27
     try clear c27b0
     try clear c28
     try clear c28b0
     try clear c32
     try clear c32b0
     try clear c39
     try clear c39b0
     try clear c40
     try clear c40b0
     try clear c44
     try clear c44b0
     try clear c51
     try clear c51b0
     try clear c52
     try clear c52b0
     try clear c56
     try clear c56b0
     try clear p64
     try clear p2
     obtain ⟨kq, x86_14, rfl, HA, HJ14, HB⟩ := hcut
     cases kq with
     | zero => exact absurd HA.out (by simp [raddlelaw04_RowOrder.j1])
     | succ kj14 =>
      have H := HA.out
      clear HA
      simp only [raddlelaw04_RowOrder.j1] at H
      by_cases c66 : x86_14 = true
      ·
       subst c66
       have H1 : (some false) = some r := by rw [if_pos rfl] at H; exact H
       clear H
       have H := H1
       clear H1
       exact absurd H (by rw [hrt]; simp)
      ·
       replace c66 := Bool.eq_false_iff.mpr c66
       subst c66
       have H1 : (if (IntKind.u64.wrap (wrap64 ((l0.length : Int) + 1))) = 0 then (none) else (if 0 ≤ (wrap64 (Int.tmod (IntKind.u64.wrap (a3)) (IntKind.u64.wrap (wrap64 ((l0.length : Int) + 1))))) then (if (wrap64 (Int.tmod (IntKind.u64.wrap (a3)) (IntKind.u64.wrap (wrap64 ((l0.length : Int) + 1))))) ≤ (l0.length : Int) then ((row_Compare.f kj14 (l0.take ((wrap64 (Int.tmod (IntKind.u64.wrap (a3)) (IntKind.u64.wrap (wrap64 ((l0.length : Int) + 1))))) : Int).toNat) l0).bind fun t367 => (if ((t367 == (-1)) != (decide ((wrap64 (Int.tmod (IntKind.u64.wrap (a3)) (IntKind.u64.wrap (wrap64 ((l0.length : Int) + 1))))) < (l0.length : Int)))) = true then (some false) else (raddlelaw04_RowOrder.l0 kj14 l0 l1 t357 0))) else (none)) else (none))) = some r := by rw [if_neg (show ¬ (false = true) by decide)] at H; exact H
       clear H
       have H := H1
       clear H1
       by_cases c67 : (IntKind.u64.wrap (wrap64 ((l0.length : Int) + 1))) = 0
       ·
        rw [if_pos c67] at H
        exact absurd H (by simp)
       ·
        rw [if_neg c67] at H
        have c67b0 : ((IntKind.u64.wrap (wrap64 ((l0.length : Int) + 1))) == 0) = false := beq_eq_false_iff_ne.mpr c67
        have c67b1 : ((IntKind.u64.wrap (wrap64 ((l0.length : Int) + 1))) != 0) = true := bne_iff_ne.mpr c67
        obtain ⟨ji68, hji68⟩ : ∃ j_ : Int, (wrap64 (Int.tmod (IntKind.u64.wrap (a3)) (IntKind.u64.wrap (wrap64 ((l0.length : Int) + 1))))) = j_ := ⟨_, rfl⟩
        replace H : (if 0 ≤ (ji68) then (if (ji68) ≤ (l0.length : Int) then ((row_Compare.f kj14 (l0.take ((ji68) : Int).toNat) l0).bind fun t367 => (if ((t367 == (-1)) != (decide ((ji68) < (l0.length : Int)))) = true then (some false) else (raddlelaw04_RowOrder.l0 kj14 l0 l1 t357 0))) else (none)) else (none)) = some r := by first | (rw [hji68] at H; exact H) | (simp only [hji68] at H ⊢; exact H)
        have hji68w : (IntKind.i64.wrap (Int.tmod (IntKind.u64.wrap (a3)) (IntKind.u64.wrap (wrap64 ((l0.length : Int) + 1))))) = ji68 := (i64_w _).trans hji68
        by_cases c69 : 0 ≤ (ji68)
        ·
         rw [if_pos c69] at H
         have c69b0 := eq_true c69
         have c69b1 : decide (0 ≤ (ji68)) = true := decide_eq_true c69
         clear c69
         by_cases c70 : (ji68) ≤ (l0.length : Int)
         ·
          rw [if_pos c70] at H
          have c70b0 := eq_true c70
          have c70b1 : decide ((ji68) ≤ (l0.length : Int)) = true := decide_eq_true c70
          clear c70
          obtain ⟨y363, hy363⟩ : ∃ y_ : List (S39), y_ = (l0.take ((ji68) : Int).toNat) := ⟨_, rfl⟩
          replace H : ((row_Compare.f kj14 y363 l0).bind fun t367 => (if ((t367 == (-1)) != (decide ((ji68) < (l0.length : Int)))) = true then (some false) else (raddlelaw04_RowOrder.l0 kj14 l0 l1 t357 0))) = some r := by first | (rw [hy363]; with_reducible exact H) | (have H2_ := (Option.bind_some _ _).symm.trans H; rw [hy363]; with_reducible exact H2_) | (have H2_ := (Option.bind_some _ _).symm.trans H; with_reducible exact H2_) | with_reducible exact H | (rw [hy363]; exact H) | exact H
          have Ny363 := Aside0.mk hy363
          clear hy363
          replace H := Option.bind_eq_some_iff.mp H
          obtain ⟨t367, A710, H⟩ := H
          replace H : (if ((t367 == (-1)) != (decide ((ji68) < (l0.length : Int)))) = true then (some false) else (raddlelaw04_RowOrder.l0 kj14 l0 l1 t357 0)) = some r := H
          have A71 := Aside0.mk A710
          clear A710
          by_cases c72 : ((t367 == (-1)) != (decide ((ji68) < (l0.length : Int)))) = true
          ·
           rw [if_pos c72] at H
           have c72b0 : ((t367 == (-1)) != (decide ((ji68) < (l0.length : Int)))) = true := c72
           (try (have c72b1 : decide ((t367 == (-1)) = (decide ((ji68) < (l0.length : Int)))) = false := by simpa using c72))
           (try (have c72b2 : ((t367 == (-1)) == (decide ((ji68) < (l0.length : Int)))) = false := by simpa using c72))
           (try (have c72b3 : ¬ ((t367 == (-1)) = (decide ((ji68) < (l0.length : Int)))) := by simpa using c72))
           clear c72
           exact absurd H (by rw [hrt]; simp)
          ·
           rw [if_neg c72] at H
           have c72b0 : ((t367 == (-1)) != (decide ((ji68) < (l0.length : Int)))) = false := by simpa using c72
           (try (have c72b1 : decide ((t367 == (-1)) = (decide ((ji68) < (l0.length : Int)))) = true := by simpa using c72))
           (try (have c72b2 : ((t367 == (-1)) == (decide ((ji68) < (l0.length : Int)))) = true := by simpa using c72))
           clear c72
           have H' := Aside0.mk H
           clear H
           have q73 : ((ji68) : Int) ≤ ((l0.length : Int) : Int) := of_decide_eq_true (by first | (with_reducible assumption) | assumption)
           obtain ⟨i073, hi073, _, hsz73, _⟩ := info_parts info39
           have hroom73 : l0.length ≤ c0 := HC0.out
           have hC73 : Kd.C k39 _ A0 l0.length l0 := HR0.out
           have hcut73 := cut_to (P := Try.prog) 24 39 .i64 Try.underlying24 hi073 A0 l0.length c0 (ji68) (of_decide_eq_true (by first | (with_reducible assumption) | assumption)) q73 hroom73
           have hr73 := Kd.C_take (m := ((ji68) : Int).toNat) hC73 (by omega)
           have hy73 : y363.length = ((ji68) : Int).toNat := (by rw [Ny363.out, List.length_take]; omega)
           rw [← Ny363.out] at hr73
           rw [← hy73] at hcut73
           have HR366 := Aside0.mk hr73
           have HC366 := Aside0.mk (show y363.length ≤ c0 from by omega)
           clear hr73 hC73 hroom73 hi073 hsz73
           have KY73 := Aside0.mk hy73
           clear hy73
           replace q73 := eq_true q73
           go_wp2_with (first | ((with_reducible refine gate_callee (f := 18) rfl ?_); refine Short.gL (some 99) Try.func18 #[.slice A0 y363.length c0, .slice A0 l0.length c0] (h := ?_); (with_reducible refine (row_Compare.calls kj14 _ _ y363 _ _ l0 t367 _ ?side1 ?side2 ?side3 ?side4 A71.out).mono ?_); (case side1 => repeat (first | exact (Kd.C_below HR366.out HB.out) | (with_reducible refine Kd.C_alloc ?_ _) | (with_reducible refine Kd.C_drewN ?_ _) | (with_reducible refine Kd.C_drew ?_))); (case side2 => exact HC366.out); (case side3 => repeat (first | exact (Kd.C_below HR0.out HB.out) | (with_reducible refine Kd.C_alloc ?_ _) | (with_reducible refine Kd.C_drewN ?_ _) | (with_reducible refine Kd.C_drew ?_))); (case side4 => exact HC0.out); rintro e w74 ⟨rfl, hb⟩; refine ⟨_, rfl, ?_⟩; have n0_ := Aside0.mk (below_step (Short.hB HB) hb); clear HB; have HB := n0_; clear n0_; (try clear hb); (try clear hb2); (try clear hk); (try clear hi)))
           go_loopg [13] kj14 (fun kq v13 w' => ∃ (x13_3 : Int), v13 = .int .i64 x13_3 ∧ Aside0 (raddlelaw04_RowOrder.l0 kq l0 l1 t357 x13_3 = some r) ∧ Aside0 (kq ≤ kj14) ∧ Aside0 (Below w.heap.size w w'))
           case atStart => exact ⟨(0), (by first | rfl | (simp; done) | (simp [*]; done)), H', ⟨Nat.le_refl _⟩, ⟨Short.hB HB⟩⟩
           case round =>
            clear H'
            try clear c1
            try clear c2
            try clear p2
            try clear c3
            try clear c4
            try clear c5
            try clear c6
            try clear p6
            try clear c7
            try clear q7
            try clear c9
            try clear c11
            try clear c17
            try clear c18
            try clear c20
            try clear c20b0
            try clear c20b1
            try clear c22
            try clear c22b0
            try clear c22b1
            try clear c24
            try clear c24b0
            try clear c24b1
            try clear c24b2
            try clear c25
            try clear c25b0
            try clear c26
            try clear c26b0
            try clear c27
            try clear c27b0
            try clear c28
            try clear c28b0
            try clear c32
            try clear c32b0
            try clear c39
            try clear c39b0
            try clear c40
            try clear c40b0
            try clear c44
            try clear c44b0
            try clear c51
            try clear c51b0
            try clear c52
            try clear c52b0
            try clear c56
            try clear c56b0
            try clear p64
            try clear c66
            try clear c67
            try clear c67b0
            try clear c67b1
            try clear c69
            try clear c69b0
            try clear c69b1
            try clear c70
            try clear c70b0
            try clear c70b1
            try clear c72
            try clear c72b0
            try clear c72b1
            try clear c72b2
            try clear q73
            try clear p2
            try clear p6
            try clear p64
            try clear q73
            obtain ⟨x13_3, rfl, HA, HK3, HB⟩ := hrel
            cases gk with
            | zero => exact absurd HA.out (by simp [raddlelaw04_RowOrder.l0])
            | succ k3 =>
             have H := HA.out
             clear HA
             simp only [raddlelaw04_RowOrder.l0] at H
             have HC75 := Aside0.mk H
             clear H
             go_upto_region 10 with (fail)
             go_cut [115] (fun v115 wc => ∃ (kq : Nat) (x115_74 : Bool), v115 = .bool x115_74 ∧ Aside0 (raddlelaw04_RowOrder.j3 kq l0 l1 t357 x13_3 x115_74 = some r) ∧ Aside0 (kq ≤ k3) ∧ Aside0 (Below w.heap.size w wc))
             case first =>
              have H := HC75.out
              clear HC75
              by_cases c76 : x13_3 < (l0.length : Int)
              ·
               rw [if_pos c76] at H
               have c76b0 : decide (x13_3 < (l0.length : Int)) = true := decide_eq_true c76
               clear c76
               (first | rw [c76b0] | (simp only [i64_w, i32_w]; rw [c76b0]) | skip)
               have H' := Aside0.mk H
               clear H
               go_wp2
               go_meet
               case rel => exact ⟨_, (decide (x13_3 < (l1.length : Int))), (by first | rfl | (simp; done) | (simp [*]; done)), H', ⟨by have := HJ4.out; have := HJ14.out; have := HK3.out; first | omega | exact Nat.le_refl _⟩, ⟨Short.hB HB⟩⟩
              ·
               rw [if_neg c76] at H
               have c76b0 : decide (x13_3 < (l0.length : Int)) = false := decide_eq_false c76
               clear c76
               (first | rw [c76b0] | (simp only [i64_w, i32_w]; rw [c76b0]) | skip)
               have H' := Aside0.mk H
               clear H
               go_wp2
               go_meet
               case rel => exact ⟨_, (false), (by first | rfl | (simp; done) | (simp [*]; done)), H', ⟨by have := HJ4.out; have := HJ14.out; have := HK3.out; first | omega | exact Nat.le_refl _⟩, ⟨Short.hB HB⟩⟩
             case rest => as_aux_lemma =>
              clear HC75
              try clear c1
              try clear c2
              try clear p2
              try clear c3
              try clear c4
              try clear c5
              try clear c6
              try clear p6
              try clear c7
              try clear q7
              try clear c9
              try clear c11
              try clear c17
              try clear c18
              try clear c20
              try clear c20b0
              try clear c20b1
              try clear c22
              try clear c22b0
              try clear c22b1
              try clear c24
              try clear c24b0
              try clear c24b1
              try clear c24b2
              try clear c25
              try clear c25b0
              try clear c26
              try clear c26b0
              try clear c27
              try clear c27b0
              try clear c28
              try clear c28b0
              try clear c32
              try clear c32b0
              try clear c39
              try clear c39b0
              try clear c40
              try clear c40b0
              try clear c44
              try clear c44b0
              try clear c51
              try clear c51b0
              try clear c52
              try clear c52b0
              try clear c56
              try clear c56b0
              try clear p64
              try clear c66
              try clear c67
              try clear c67b0
              try clear c67b1
              try clear c69
              try clear c69b0
              try clear c69b1
              try clear c70
              try clear c70b0
              try clear c70b1
              try clear c72
              try clear c72b0
              try clear c72b1
              try clear c72b2
              try clear q73
              try clear c76
              try clear c76b0
              try clear p2
              try clear p6
              try clear p64
              try clear q7
              try clear q73
              obtain ⟨kq, x115_74, rfl, HA, HJ74, HB⟩ := hcut
              cases kq with
              | zero => exact absurd HA.out (by simp [raddlelaw04_RowOrder.j3])
              | succ kj74 =>
               have H := HA.out
               clear HA
               simp only [raddlelaw04_RowOrder.j3] at H
               by_cases c77 : x115_74 = true
               ·
                subst c77
                have H1 : (if 0 ≤ x13_3 then (if x13_3 < (l0.length : Int) then (if x13_3 < (l1.length : Int) then ((value_Compare.f kj74 ((rd_T39 l0 x13_3).f0) ((rd_T39 l0 x13_3).f1) ((rd_T39 l0 x13_3).f2) ((rd_T39 l1 x13_3).f0) ((rd_T39 l1 x13_3).f1) ((rd_T39 l1 x13_3).f2)).bind fun t371 => (if t371 = 0 then (raddlelaw04_RowOrder.l0 kj74 l0 l1 t357 (wrap64 (x13_3 + 1))) else (if t357 = t371 then ((raddlelaw04_wakes.f kj74).bind fun t372 => (some t372)) else (some false)))) else (none)) else (none)) else (none)) = some r := by rw [if_pos rfl] at H; exact H
                clear H
                have H := H1
                clear H1
                by_cases c78 : 0 ≤ x13_3
                ·
                 rw [if_pos c78] at H
                 have c78b0 : decide (0 ≤ x13_3) = true := decide_eq_true c78
                 clear c78
                 by_cases c79 : x13_3 < (l0.length : Int)
                 ·
                  rw [if_pos c79] at H
                  have c79b0 : decide (x13_3 < (l0.length : Int)) = true := decide_eq_true c79
                  clear c79
                  by_cases c80 : x13_3 < (l1.length : Int)
                  ·
                   rw [if_pos c80] at H
                   have c80b0 : decide (x13_3 < (l1.length : Int)) = true := decide_eq_true c80
                   clear c80
                   replace H := Option.bind_eq_some_iff.mp H
                   obtain ⟨t371, A810, H⟩ := H
                   replace H : (if t371 = 0 then (raddlelaw04_RowOrder.l0 kj74 l0 l1 t357 (wrap64 (x13_3 + 1))) else (if t357 = t371 then ((raddlelaw04_wakes.f kj74).bind fun t372 => (some t372)) else (some false))) = some r := H
                   have A81 := Aside0.mk A810
                   clear A810
                   by_cases c82 : t371 = 0
                   ·
                    rw [if_pos c82] at H
                    have c82b0 : (t371 == 0) = true := beq_iff_eq.mpr c82
                    have c82b1 : (t371 != 0) = false := bne_eq_false_iff_eq.mpr c82
                    clear c82
                    have H' := Aside0.mk H
                    clear H
                    try go_wp2
                    have n0_ := Aside0.mk (below_drew1 HB.out)
                    clear HB
                    have HB := n0_
                    clear n0_
                    have p369 : 0 ≤ (x13_3 : Int) := of_decide_eq_true (by first | (with_reducible assumption) | assumption)
                    have q369 : x13_3 < (l0.length : Int) := of_decide_eq_true (by first | (with_reducible assumption) | assumption)
                    obtain ⟨ad369, e369, hx369_0, hx369_1, hx369_2⟩ := at_T39 HR0.out x13_3 p369 q369
                    have hw369_2 := hx369_2
                    have hw369_1 := hx369_1
                    have hw369_0 := hx369_0
                    cases e369
                    replace hx369_0 := (HB.out.cell (World.block_lt_of_cell? w _ hx369_0)).trans hx369_0
                    replace hx369_1 := (HB.out.cell (World.block_lt_of_cell? w _ hx369_1)).trans hx369_1
                    replace hx369_2 := (HB.out.cell (World.block_lt_of_cell? w _ hx369_2)).trans hx369_2
                    replace p369 := eq_true p369
                    replace q369 := eq_true q369
                    have p370 : 0 ≤ (x13_3 : Int) := of_decide_eq_true (by first | (with_reducible assumption) | assumption)
                    have q370 : x13_3 < (l1.length : Int) := of_decide_eq_true (by first | (with_reducible assumption) | assumption)
                    obtain ⟨ad370, e370, hx370_0, hx370_1, hx370_2⟩ := at_T39 HR1.out x13_3 p370 q370
                    have hw370_2 := hx370_2
                    have hw370_1 := hx370_1
                    have hw370_0 := hx370_0
                    cases e370
                    replace hx370_0 := (HB.out.cell (World.block_lt_of_cell? w _ hx370_0)).trans hx370_0
                    replace hx370_1 := (HB.out.cell (World.block_lt_of_cell? w _ hx370_1)).trans hx370_1
                    replace hx370_2 := (HB.out.cell (World.block_lt_of_cell? w _ hx370_2)).trans hx370_2
                    replace p370 := eq_true p370
                    replace q370 := eq_true q370
                    refine start_ (n := 10) (S := fun w' => w'.cell? (ad369.add ((x13_3).toNat * 3)) = some (.int .i64 ((rd_T39 l0 x13_3).f0)) ∧ w'.cell? ⟨(ad369.add ((x13_3).toNat * 3)).block, (ad369.add ((x13_3).toNat * 3)).off + 1, none⟩ = some (.int .i64 ((rd_T39 l0 x13_3).f1)) ∧ w'.cell? ⟨(ad369.add ((x13_3).toNat * 3)).block, (ad369.add ((x13_3).toNat * 3)).off + 2, none⟩ = some (.string ((rd_T39 l0 x13_3).f2)) ∧ w'.cell? (ad370.add ((x13_3).toNat * 3)) = some (.int .i64 ((rd_T39 l1 x13_3).f0)) ∧ w'.cell? ⟨(ad370.add ((x13_3).toNat * 3)).block, (ad370.add ((x13_3).toNat * 3)).off + 1, none⟩ = some (.int .i64 ((rd_T39 l1 x13_3).f1)) ∧ w'.cell? ⟨(ad370.add ((x13_3).toNat * 3)).block, (ad370.add ((x13_3).toNat * 3)).off + 2, none⟩ = some (.string ((rd_T39 l1 x13_3).f2))) (ds := []) #[false, false, false, false, false, false, false, false, false, false] (by kernel_rfl) rfl rfl ⟨((HB.out.cell (World.block_lt_of_cell? w _ hw369_0)).trans hw369_0), ((HB.out.cell (World.block_lt_of_cell? w _ hw369_1)).trans hw369_1), ((HB.out.cell (World.block_lt_of_cell? w _ hw369_2)).trans hw369_2), ((HB.out.cell (World.block_lt_of_cell? w _ hw370_0)).trans hw370_0), ((HB.out.cell (World.block_lt_of_cell? w _ hw370_1)).trans hw370_1), ((HB.out.cell (World.block_lt_of_cell? w _ hw370_2)).trans hw370_2)⟩ (fun hHeld => ?_); refine with_tabW raddlelaw04_RowOrder.tab12 raddlelaw04_RowOrder.bits12 (fun HT_ HW_ => ?_)
                    generalize wc.drew = w83 at HB hx369_0 hx369_1 hx369_2 hx370_0 hx370_1 hx370_2 hHeld ⊢
                    refine Steps.pI_ 0 (some 118) (Steps.Bs 10 1) (any_of HT_.out (by kernel_rfl)) (h := ?_)
                    refine Steps.pI_ 1 (some 119) (Steps.Bs 10 3) (any_of HT_.out (by kernel_rfl)) (h := ?_)
                    refine Steps.pI_ 2 (some 120) (Steps.Bs 10 7) (any_of HT_.out (by kernel_rfl)) (h := ?_)
                    refine Steps.pI_ 4 (some 122) (Steps.Bs 10 23) (any_of HT_.out (by kernel_rfl)) (h := ?_)
                    refine Steps.pI_ 5 (some 123) (Steps.Bs 10 55) (any_of HT_.out (by kernel_rfl)) (h := ?_)
                    refine Steps.pI_ 6 (some 124) (Steps.Bs 10 119) (any_of HT_.out (by kernel_rfl)) (h := ?_)
                    refine Steps.tI_ 3 (some 121) (Steps.Bs 10 127) (take_ofW HT_.out HW_.out (by kernel_rfl)) hHeld (h := ?_)
                    refine Steps.tI_ 7 (some 125) (Steps.Bs 10 255) (take_ofW HT_.out HW_.out (by kernel_rfl)) hHeld (h := ?_)
                    refine one_ (i := 8) (N := some 126) (Steps.Bs 10 511) rfl rfl (one_of HT_.out (by kernel_rfl)) (by decide) (fun K hK => ?_)
                    refine goes_ Try.func19 (by kernel_rfl) rfl #[.agg #[.int .i64 ((rd_T39 l0 x13_3).f0), .int .i64 ((rd_T39 l0 x13_3).f1), .string ((rd_T39 l0 x13_3).f2)], .agg #[.int .i64 ((rd_T39 l1 x13_3).f0), .int .i64 ((rd_T39 l1 x13_3).f1), .string ((rd_T39 l1 x13_3).f2)]] (by rfl) rfl rfl (by (try simp only [List.map_toArray, List.map_cons, List.map_nil]); first | done | rfl | (simp only [List.length_drop, List.length_take]; rfl) | (go_simp; done) | (simp; done)) ?_
                    with_reducible refine (value_Compare.calls kj74 ((rd_T39 l0 x13_3).f0) ((rd_T39 l0 x13_3).f1) ((rd_T39 l0 x13_3).f2) ((rd_T39 l1 x13_3).f0) ((rd_T39 l1 x13_3).f1) ((rd_T39 l1 x13_3).f2) t371 _ A81.out).mono ?_
                    rintro e w84 ⟨rfl, hb⟩
                    refine ⟨_, rfl, ?_⟩
                    have n0_ := Aside0.mk (below_step (Short.hB HB) hb)
                    clear HB
                    have HB := n0_
                    clear n0_
                    (try clear hb)
                    (try clear hb2)
                    (try clear hk)
                    (try clear hi)
                    refine hK.out _ _ ⟨((HB.out.cell (World.block_lt_of_cell? w _ hw369_0)).trans hw369_0), ((HB.out.cell (World.block_lt_of_cell? w _ hw369_1)).trans hw369_1), ((HB.out.cell (World.block_lt_of_cell? w _ hw369_2)).trans hw369_2), ((HB.out.cell (World.block_lt_of_cell? w _ hw370_0)).trans hw370_0), ((HB.out.cell (World.block_lt_of_cell? w _ hw370_1)).trans hw370_1), ((HB.out.cell (World.block_lt_of_cell? w _ hw370_2)).trans hw370_2)⟩ (fun hHeld => ?_)
                    clear hK K
                    refine norm_ (a' := ?_) ?_ ?_
                    rotate_left
                    ·
                     show Act.put _ (some 126) _ = _
                     simp only [Act.put, List.setIfInBounds_toArray, List.set_cons_zero, List.set_cons_succ, i64_w, i32_w]
                     rfl
                    refine Steps.pI_ 9 (some 14) (Steps.Bs 10 1023) (any_of HT_.out (by kernel_rfl)) (h := ?_)
                    refine done_ (done_of HT_.out (by kernel_rfl)) ?_
                    try go_wp2
                    go_roundg kj74
                    case measure => have := HJ4.out; have := HJ14.out; have := HK3.out; have := HJ74.out; omega
                    case rel => exact ⟨(wrap64 (x13_3 + 1)), (by first | rfl | (simp; done) | (simp [*]; done)), H', ⟨by have := HJ4.out; have := HJ14.out; have := HK3.out; have := HJ74.out; omega⟩, ⟨Short.hB HB⟩⟩
                   ·
                    rw [if_neg c82] at H
                    have c82b0 : (t371 == 0) = false := beq_eq_false_iff_ne.mpr c82
                    have c82b1 : (t371 != 0) = true := bne_iff_ne.mpr c82
                    by_cases c85 : t357 = t371
                    ·
                     rw [if_pos c85] at H
                     have c85b0 : (t357 == t371) = true := beq_iff_eq.mpr c85
                     have c85b1 : (t357 != t371) = false := bne_eq_false_iff_eq.mpr c85
                     clear c85
                     replace H := Option.bind_eq_some_iff.mp H
                     obtain ⟨t372, A860, H⟩ := H
                     replace H : (some t372) = some r := H
                     have A86 := Aside0.mk A860
                     clear A860
                     obtain rfl := Option.some.inj H
                     try go_wp2
                     have n0_ := Aside0.mk (below_drew1 HB.out)
                     clear HB
                     have HB := n0_
                     clear n0_
                     have p369 : 0 ≤ (x13_3 : Int) := of_decide_eq_true (by first | (with_reducible assumption) | assumption)
                     have q369 : x13_3 < (l0.length : Int) := of_decide_eq_true (by first | (with_reducible assumption) | assumption)
                     obtain ⟨ad369, e369, hx369_0, hx369_1, hx369_2⟩ := at_T39 HR0.out x13_3 p369 q369
                     have hw369_2 := hx369_2
                     have hw369_1 := hx369_1
                     have hw369_0 := hx369_0
                     cases e369
                     replace hx369_0 := (HB.out.cell (World.block_lt_of_cell? w _ hx369_0)).trans hx369_0
                     replace hx369_1 := (HB.out.cell (World.block_lt_of_cell? w _ hx369_1)).trans hx369_1
                     replace hx369_2 := (HB.out.cell (World.block_lt_of_cell? w _ hx369_2)).trans hx369_2
                     replace p369 := eq_true p369
                     replace q369 := eq_true q369
                     have p370 : 0 ≤ (x13_3 : Int) := of_decide_eq_true (by first | (with_reducible assumption) | assumption)
                     have q370 : x13_3 < (l1.length : Int) := of_decide_eq_true (by first | (with_reducible assumption) | assumption)
                     obtain ⟨ad370, e370, hx370_0, hx370_1, hx370_2⟩ := at_T39 HR1.out x13_3 p370 q370
                     have hw370_2 := hx370_2
                     have hw370_1 := hx370_1
                     have hw370_0 := hx370_0
                     cases e370
                     replace hx370_0 := (HB.out.cell (World.block_lt_of_cell? w _ hx370_0)).trans hx370_0
                     replace hx370_1 := (HB.out.cell (World.block_lt_of_cell? w _ hx370_1)).trans hx370_1
                     replace hx370_2 := (HB.out.cell (World.block_lt_of_cell? w _ hx370_2)).trans hx370_2
                     replace p370 := eq_true p370
                     replace q370 := eq_true q370
                     refine start_ (n := 10) (S := fun w' => w'.cell? (ad369.add ((x13_3).toNat * 3)) = some (.int .i64 ((rd_T39 l0 x13_3).f0)) ∧ w'.cell? ⟨(ad369.add ((x13_3).toNat * 3)).block, (ad369.add ((x13_3).toNat * 3)).off + 1, none⟩ = some (.int .i64 ((rd_T39 l0 x13_3).f1)) ∧ w'.cell? ⟨(ad369.add ((x13_3).toNat * 3)).block, (ad369.add ((x13_3).toNat * 3)).off + 2, none⟩ = some (.string ((rd_T39 l0 x13_3).f2)) ∧ w'.cell? (ad370.add ((x13_3).toNat * 3)) = some (.int .i64 ((rd_T39 l1 x13_3).f0)) ∧ w'.cell? ⟨(ad370.add ((x13_3).toNat * 3)).block, (ad370.add ((x13_3).toNat * 3)).off + 1, none⟩ = some (.int .i64 ((rd_T39 l1 x13_3).f1)) ∧ w'.cell? ⟨(ad370.add ((x13_3).toNat * 3)).block, (ad370.add ((x13_3).toNat * 3)).off + 2, none⟩ = some (.string ((rd_T39 l1 x13_3).f2))) (ds := []) #[false, false, false, false, false, false, false, false, false, false] (by kernel_rfl) rfl rfl ⟨((HB.out.cell (World.block_lt_of_cell? w _ hw369_0)).trans hw369_0), ((HB.out.cell (World.block_lt_of_cell? w _ hw369_1)).trans hw369_1), ((HB.out.cell (World.block_lt_of_cell? w _ hw369_2)).trans hw369_2), ((HB.out.cell (World.block_lt_of_cell? w _ hw370_0)).trans hw370_0), ((HB.out.cell (World.block_lt_of_cell? w _ hw370_1)).trans hw370_1), ((HB.out.cell (World.block_lt_of_cell? w _ hw370_2)).trans hw370_2)⟩ (fun hHeld => ?_); refine with_tabW raddlelaw04_RowOrder.tab12 raddlelaw04_RowOrder.bits12 (fun HT_ HW_ => ?_)
                     generalize wc.drew = w87 at HB hx369_0 hx369_1 hx369_2 hx370_0 hx370_1 hx370_2 hHeld ⊢
                     refine Steps.pI_ 0 (some 118) (Steps.Bs 10 1) (any_of HT_.out (by kernel_rfl)) (h := ?_)
                     refine Steps.pI_ 1 (some 119) (Steps.Bs 10 3) (any_of HT_.out (by kernel_rfl)) (h := ?_)
                     refine Steps.pI_ 2 (some 120) (Steps.Bs 10 7) (any_of HT_.out (by kernel_rfl)) (h := ?_)
                     refine Steps.pI_ 4 (some 122) (Steps.Bs 10 23) (any_of HT_.out (by kernel_rfl)) (h := ?_)
                     refine Steps.pI_ 5 (some 123) (Steps.Bs 10 55) (any_of HT_.out (by kernel_rfl)) (h := ?_)
                     refine Steps.pI_ 6 (some 124) (Steps.Bs 10 119) (any_of HT_.out (by kernel_rfl)) (h := ?_)
                     refine Steps.tI_ 3 (some 121) (Steps.Bs 10 127) (take_ofW HT_.out HW_.out (by kernel_rfl)) hHeld (h := ?_)
                     refine Steps.tI_ 7 (some 125) (Steps.Bs 10 255) (take_ofW HT_.out HW_.out (by kernel_rfl)) hHeld (h := ?_)
                     refine one_ (i := 8) (N := some 126) (Steps.Bs 10 511) rfl rfl (one_of HT_.out (by kernel_rfl)) (by decide) (fun K hK => ?_)
                     refine goes_ Try.func19 (by kernel_rfl) rfl #[.agg #[.int .i64 ((rd_T39 l0 x13_3).f0), .int .i64 ((rd_T39 l0 x13_3).f1), .string ((rd_T39 l0 x13_3).f2)], .agg #[.int .i64 ((rd_T39 l1 x13_3).f0), .int .i64 ((rd_T39 l1 x13_3).f1), .string ((rd_T39 l1 x13_3).f2)]] (by rfl) rfl rfl (by (try simp only [List.map_toArray, List.map_cons, List.map_nil]); first | done | rfl | (simp only [List.length_drop, List.length_take]; rfl) | (go_simp; done) | (simp; done)) ?_
                     with_reducible refine (value_Compare.calls kj74 ((rd_T39 l0 x13_3).f0) ((rd_T39 l0 x13_3).f1) ((rd_T39 l0 x13_3).f2) ((rd_T39 l1 x13_3).f0) ((rd_T39 l1 x13_3).f1) ((rd_T39 l1 x13_3).f2) t371 _ A81.out).mono ?_
                     rintro e w88 ⟨rfl, hb⟩
                     refine ⟨_, rfl, ?_⟩
                     have n0_ := Aside0.mk (below_step (Short.hB HB) hb)
                     clear HB
                     have HB := n0_
                     clear n0_
                     (try clear hb)
                     (try clear hb2)
                     (try clear hk)
                     (try clear hi)
                     refine hK.out _ _ ⟨((HB.out.cell (World.block_lt_of_cell? w _ hw369_0)).trans hw369_0), ((HB.out.cell (World.block_lt_of_cell? w _ hw369_1)).trans hw369_1), ((HB.out.cell (World.block_lt_of_cell? w _ hw369_2)).trans hw369_2), ((HB.out.cell (World.block_lt_of_cell? w _ hw370_0)).trans hw370_0), ((HB.out.cell (World.block_lt_of_cell? w _ hw370_1)).trans hw370_1), ((HB.out.cell (World.block_lt_of_cell? w _ hw370_2)).trans hw370_2)⟩ (fun hHeld => ?_)
                     clear hK K
                     refine norm_ (a' := ?_) ?_ ?_
                     rotate_left
                     ·
                      show Act.put _ (some 126) _ = _
                      simp only [Act.put, List.setIfInBounds_toArray, List.set_cons_zero, List.set_cons_succ, i64_w, i32_w]
                      rfl
                     refine Steps.pI_ 9 (some 14) (Steps.Bs 10 1023) (any_of HT_.out (by kernel_rfl)) (h := ?_)
                     refine done_ (done_of HT_.out (by kernel_rfl)) ?_
                     try go_wp2_with (first | (go_at_call 15; (with_reducible refine (raddlelaw04_wakes.calls kj74  t372 _ A86.out).mono ?_); rintro e w89 ⟨rfl, hb⟩; have n0_ := Aside0.mk (below_step (Short.hB HB) hb); clear HB; have HB := n0_; clear n0_; (try clear hb); (try clear hb2); (try clear hk); (try clear hi)))
                     go_ret
                     exact ⟨by first | rfl | (simp [errW_none, errW_some] <;> rfl) | (simp only [← hji68]; first | rfl | (simp [errW_none, errW_some] <;> rfl)) | (simp [*, errW_none, errW_some] <;> rfl), Short.hB HB⟩
                    ·
                     rw [if_neg c85] at H
                     have c85b0 : (t357 == t371) = false := beq_eq_false_iff_ne.mpr c85
                     have c85b1 : (t357 != t371) = true := bne_iff_ne.mpr c85
                     exact absurd H (by rw [hrt]; simp)
                  ·
                   rw [if_neg c80] at H
                   exact absurd H (by simp)
                 ·
                  rw [if_neg c79] at H
                  exact absurd H (by simp)
                ·
                 rw [if_neg c78] at H
                 exact absurd H (by simp)
               ·
                replace c77 := Bool.eq_false_iff.mpr c77
                subst c77
                have H1 : (if ((t357 == 0) == ((l0.length : Int) == (l1.length : Int))) = true then ((raddlelaw04_wakes.f kj74).bind fun t368 => (some t368)) else (some false)) = some r := by rw [if_neg (show ¬ (false = true) by decide)] at H; exact H
                clear H
                have H := H1
                clear H1
                by_cases c90 : ((t357 == 0) == ((l0.length : Int) == (l1.length : Int))) = true
                ·
                 rw [if_pos c90] at H
                 have c90b0 : ((t357 == 0) == ((l0.length : Int) == (l1.length : Int))) = true := c90
                 (try (have c90b1 : decide ((t357 == 0) = ((l0.length : Int) == (l1.length : Int))) = true := by simpa using c90))
                 (try (have c90b2 : ((t357 == 0) == ((l0.length : Int) == (l1.length : Int))) = true := by simpa using c90))
                 clear c90
                 replace H := Option.bind_eq_some_iff.mp H
                 obtain ⟨t368, A910, H⟩ := H
                 replace H : (some t368) = some r := H
                 have A91 := Aside0.mk A910
                 clear A910
                 obtain rfl := Option.some.inj H
                 go_wp2_with (first | (go_at_call 15; (with_reducible refine (raddlelaw04_wakes.calls kj74  t368 _ A91.out).mono ?_); rintro e w92 ⟨rfl, hb⟩; have n0_ := Aside0.mk (below_step (Short.hB HB) hb); clear HB; have HB := n0_; clear n0_; (try clear hb); (try clear hb2); (try clear hk); (try clear hi)))
                 go_ret
                 exact ⟨by first | rfl | (simp [errW_none, errW_some] <;> rfl) | (simp only [← hji68]; first | rfl | (simp [errW_none, errW_some] <;> rfl)) | (simp [*, errW_none, errW_some] <;> rfl), Short.hB HB⟩
                ·
                 rw [if_neg c90] at H
                 have c90b0 : ((t357 == 0) == ((l0.length : Int) == (l1.length : Int))) = false := by simpa using c90
                 (try (have c90b1 : decide ((t357 == 0) = ((l0.length : Int) == (l1.length : Int))) = false := by simpa using c90))
                 (try (have c90b2 : ((t357 == 0) == ((l0.length : Int) == (l1.length : Int))) = false := by simpa using c90))
                 (try (have c90b3 : ¬ ((t357 == 0) = ((l0.length : Int) == (l1.length : Int))) := by simpa using c90))
                 clear c90
                 exact absurd H (by rw [hrt]; simp)
         ·
          rw [if_neg c70] at H
          exact absurd H (by simp)
        ·
         rw [if_neg c69] at H
         exact absurd H (by simp)
def raddlelaw04_RowOrder.WF39 (x : S39) : Prop := (Lit.int .i64 x.f0).wf = true ∧ (Lit.int .i64 x.f1).wf = true ∧ x.f2.size ≤ maxLen
/-- THE ONE PURE STATEMENT of raddlelaw04_RowOrder. -/
def raddlelaw04_RowOrder.Pure : Prop := ∀ (x0 : List (S39)) (x1 : List (S39)) (x2 : List (S39)) (x3 : Int), (x0.length ≤ maxLen ∧ ∀ x0_ ∈ x0, raddlelaw04_RowOrder.WF39 x0_) → (x1.length ≤ maxLen ∧ ∀ x0_ ∈ x1, raddlelaw04_RowOrder.WF39 x0_) → (x2.length ≤ maxLen ∧ ∀ x0_ ∈ x2, raddlelaw04_RowOrder.WF39 x0_) → (Lit.int .i64 x3).wf = true → ∃ k, raddlelaw04_RowOrder.f k x0 x1 x2 x3 = some true
end Go.Proofs.Ytiaiglihndbjeaa.PAll
end
section
namespace Go.Proofs.Ytiaiglihndbjeaa.Plain
open Go.RowKit Go.Proofs.YtiaiglihndbjeaaW.PrintWords Go.Proofs.YtiaiglihndbjeaaW.PrintLast Go.Proofs.YtiaiglihndbjeaaW.PrintMore
set_option linter.unusedVariables false
set_option linter.unusedSimpArgs false
theorem w64 {x : Int} (h0 : -9223372036854775808 ≤ x) (h1 : x ≤ 9223372036854775807) : wrap64 x = x := by
  unfold wrap64; omega
theorem wu64 {x : Int} (h0 : 0 ≤ x) (h1 : x < 18446744073709551616) : IntKind.u64.wrap x = x := by
  simp [IntKind.wrap, IntKind.bits, IntKind.signed]; omega
theorem u64_mod (x : Int) : IntKind.u64.wrap x = x % 18446744073709551616 := by
  simp [IntKind.wrap, IntKind.bits, IntKind.signed]
def Byte (b : Int) : Prop := 0 ≤ b ∧ b ≤ 255
def Bytes (l : List Int) : Prop := ∀ b ∈ l, Byte b
theorem Bytes.nil : Bytes [] := fun _ h => by cases h
theorem Bytes.cons {b : Int} {l : List Int} (h : Byte b) (k : Bytes l) : Bytes (b :: l) := fun x hx => by
  rcases List.mem_cons.1 hx with rfl | hx
  · exact h
  · exact k x hx
theorem Bytes.head {b : Int} {l : List Int} (h : Bytes (b :: l)) : Byte b := h b List.mem_cons_self
theorem Bytes.tail {b : Int} {l : List Int} (h : Bytes (b :: l)) : Bytes l := fun x hx => h x (List.mem_cons_of_mem _ hx)
theorem Bytes.append {a b : List Int} (h : Bytes a) (k : Bytes b) : Bytes (a ++ b) := fun x hx => by
  rcases List.mem_append.1 hx with hx | hx
  · exact h x hx
  · exact k x hx
theorem Bytes.take {a : List Int} (h : Bytes a) (n : Nat) : Bytes (a.take n) := fun x hx => h x (List.mem_of_mem_take hx)
theorem Bytes.drop {a : List Int} (h : Bytes a) (n : Nat) : Bytes (a.drop n) := fun x hx => h x (List.mem_of_mem_drop hx)
theorem Bytes.rd {l : List Int} (h : Bytes l) (i : Int) : Byte (rd l i) := by
  show Byte (l.getD i.toNat 0)
  rcases Nat.lt_or_ge i.toNat l.length with hi | hi
  · rw [List.getD_eq_getElem?_getD, List.getElem?_eq_getElem hi]; exact h _ (List.getElem_mem hi)
  · rw [List.getD_eq_getElem?_getD, List.getElem?_eq_none hi]; exact ⟨by decide, by decide⟩
/-! ### Numbers as bytes -/
/-- The s lowest bytes of n, the highest of them first. -/
def big (n : Int) : Nat → List Int
  | 0 => []
  | s + 1 => (n / 256 ^ s) % 256 :: big n s
/-- What bytes are as a number, behind a. -/
def val : Int → List Int → Int
  | a, [] => a
  | a, b :: l => val (a * 256 + b) l
theorem big_length (n : Int) (s : Nat) : (big n s).length = s := by
  induction s with
  | zero => rfl
  | succ s ih => simp [big, ih]
theorem big_bytes (n : Int) (s : Nat) : Bytes (big n s) := by
  induction s with
  | zero => exact Bytes.nil
  | succ s ih =>
    refine Bytes.cons ⟨?_, ?_⟩ ih
    · exact Int.emod_nonneg _ (by decide)
    · have := Int.emod_lt_of_pos (n / 256 ^ s) (show (0 : Int) < 256 by decide); omega
theorem emod_mul' (n a b : Int) (ha : 0 < a) : n % (a * b) = (n / a % b) * a + n % a := by
  have h1 := Int.emod_add_mul_ediv n a
  have h2 := Int.emod_add_mul_ediv (n / a) b
  have h3 : n % (a * b) = n - a * b * (n / (a * b)) := by have := Int.emod_add_mul_ediv n (a * b); omega
  have h4 : n / (a * b) = n / a / b := (Int.ediv_ediv_of_nonneg (by omega)).symm
  rw [h3, h4]
  have h5 : a * (n / a) = a * (n / a % b) + a * (b * (n / a / b)) := by rw [← Int.mul_add]; exact congrArg (a * ·) h2.symm
  rw [Int.mul_assoc, Int.mul_comm (n / a % b)]
  omega
theorem pow_pos (s : Nat) : (0 : Int) < 256 ^ s := Int.pow_pos (by decide)
theorem val_big (n : Int) (s : Nat) (a : Int) : val a (big n s) = a * 256 ^ s + n % 256 ^ s := by
  induction s generalizing a with
  | zero => simp [big, val]
  | succ s ih =>
    have hp := pow_pos s
    have h1 : n % 256 ^ (s + 1) = (n / 256 ^ s % 256) * 256 ^ s + n % 256 ^ s := by
      have e : (256 : Int) ^ (s + 1) = 256 ^ s * 256 := Int.pow_succ _ _
      rw [e]; exact emod_mul' _ _ _ hp
    rw [big, val, ih, h1, Int.pow_succ]
    rw [Int.add_mul, Int.mul_assoc, Int.mul_comm 256]
    omega
end Go.Proofs.Ytiaiglihndbjeaa.Plain
end
