-- Put together by a program of this session (wip/slice.py) out of the seat's texts: what this law needs.
import Derived.Test.YtiaiglihndbjeaaZRowExact6
section
namespace Go.Proofs.Ytiaiglihndbjeaa.PAll
open Go.RowKit Go.Proofs.YtiaiglihndbjeaaW.PrintWords Go.Proofs.YtiaiglihndbjeaaW.PrintLast Go.Proofs.YtiaiglihndbjeaaW.PrintMore
attribute [local go_sem] max2_int min2_int max_two min_two max_three min_three max_four min_four   -- for this text's walks alone
set_option linter.unusedVariables false
set_option linter.unusedSimpArgs false
/-! ### raddlelaw04_RowExact: function 8 -/
mutual
def raddlelaw04_RowExact.j0 : Nat → List (S39) → List (S39) → List Int → List Int → Bool → Option (Bool)
 | 0, _, _, _, _, _ => none
 | k + 1, x0, x1, x2, x3, x36 => if x36 = true then (some true) else ((raddlekeep_TwinRow.f x0).bind fun t531 => ((raddlekeep_TwinInts.f x2).bind fun t534 => ((raddlekeep_TwinInts.f x3).bind fun t537 => ((raddleref01_Row.f k x0).bind fun t540 => ((row_Bytes.f k t531).bind fun bt541 => ((row_Pick.f k t531 t537).bind fun bt545 => ((raddleref01_Pick.f k x0 x3).bind fun bt549 => ((row_Check.f k t531).bind fun t553 => (if t553 = t540 then ((row_Compare.f k t531 x1).bind fun t554 => ((raddleref01_CompareRows.f k x0 x1).bind fun t555 => (if t554 = t555 then ((row_Fits.f k t531 t534).bind fun t556 => ((raddleref01_RowFits.f k x0 x2).bind fun t557 => (if (t556 != t557) = true then (raddlelaw04_RowExact.j1 k x0 x2 x3 t531 t534 t537 t540 bt541.1 bt541.2 bt545.1 true) else (if bt545.2 = bt549.2 then ((raddlekeep_Row.f k bt545.1 bt549.1).bind fun t558 => (raddlelaw04_RowExact.j1 k x0 x2 x3 t531 t534 t537 t540 bt541.1 bt541.2 bt545.1 (!t558))) else (raddlelaw04_RowExact.j1 k x0 x2 x3 t531 t534 t537 t540 bt541.1 bt541.2 bt545.1 true))))) else (raddlelaw04_RowExact.j1 k x0 x2 x3 t531 t534 t537 t540 bt541.1 bt541.2 bt545.1 true)))) else (raddlelaw04_RowExact.j1 k x0 x2 x3 t531 t534 t537 t540 bt541.1 bt541.2 bt545.1 true))))))))))
def raddlelaw04_RowExact.j1 : Nat → List (S39) → List Int → List Int → List (S39) → List Int → List Int → Int → List Int → Int → List (S39) → Bool → Option (Bool)
 | 0, _, _, _, _, _, _, _, _, _, _, _ => none
 | k + 1, x0, x2, x3, x9, x10, x11, x12, x13, x14, x15, x94 => if x94 = true then (some false) else ((raddlekeep_SpoilRow.f k x15).bind fun t559 => ((raddlekeep_Row.f k x9 x0).bind fun t560 => (if t560 = true then ((raddlekeep_Ints.f k x10 x2).bind fun t561 => (if t561 = true then ((raddlekeep_Ints.f k x11 x3).bind fun t562 => (raddlelaw04_RowExact.j2 k x0 x12 x13 x14 (!t562))) else (raddlelaw04_RowExact.j2 k x0 x12 x13 x14 true))) else (raddlelaw04_RowExact.j2 k x0 x12 x13 x14 true))))
def raddlelaw04_RowExact.j2 : Nat → List (S39) → Int → List Int → Int → Bool → Option (Bool)
 | 0, _, _, _, _, _ => none
 | k + 1, x0, x12, x13, x14, x112 => if x112 = true then (some false) else (if x12 = 0 then ((row_Read.f k x13 0).bind fun bt564 => (if x14 = 0 then ((raddleref01_RowBytes.f k x0).bind fun t569 => ((raddlekeep_Bytes.f k x13 t569).bind fun t572 => (if t572 = true then (if bt564.2.2 = 0 then (if bt564.2.1 = (x13.length : Int) then ((raddlekeep_Row.f k bt564.1 x0).bind fun t573 => (if t573 = true then ((raddlelaw04_wakes.f k).bind fun t574 => (some t574)) else (some false))) else (some false)) else (some false)) else (some false)))) else (some false))) else (if x14 = x12 then (if (x13.length : Int) = 0 then ((raddlelaw04_wakes.f k).bind fun t563 => (some t563)) else (some false)) else (some false)))
end
def raddlelaw04_RowExact.f (k : Nat) (l0 : List (S39)) (l1 : List (S39)) (l2 : List Int) (l3 : List Int) : Option (Bool) := (raddlelaw04_Heavy.f k l0).bind fun t529 => (if t529 = true then (raddlelaw04_RowExact.j0 k l0 l1 l2 l3 true) else ((raddlelaw04_Heavy.f k l1).bind fun t530 => (if t530 = true then (raddlelaw04_RowExact.j0 k l0 l1 l2 l3 true) else (if (l2.length : Int) > 40 then (raddlelaw04_RowExact.j0 k l0 l1 l2 l3 true) else (raddlelaw04_RowExact.j0 k l0 l1 l2 l3 (decide ((l3.length : Int) > 40)))))))
set_option maxHeartbeats 8000000 in
set_option maxRecDepth 100000 in
theorem raddlelaw04_RowExact.calls (k : Nat) (A0 : Option Addr) (c0 : Nat) (l0 : List (S39)) (A1 : Option Addr) (c1 : Nat) (l1 : List (S39)) (A2 : Option Addr) (c2 : Nat) (l2 : List Int) (A3 : Option Addr) (c3 : Nat) (l3 : List Int) (r : Bool) (w : World) (hr0 : Kd.C k39 w A0 l0.length l0) (hc0 : l0.length ≤ c0) (hr1 : Kd.C k39 w A1 l1.length l1) (hc1 : l1.length ≤ c1) (hr2 : Kd.C (Kd.int .i64) w A2 l2.length l2) (hc2 : l2.length ≤ c2) (hr3 : Kd.C (Kd.int .i64) w A3 l3.length l3) (hc3 : l3.length ≤ c3) (hrt : r = true) (h : raddlelaw04_RowExact.f k l0 l1 l2 l3 = some r) :
  Calls Try.prog 8 #[.slice A0 l0.length c0, .slice A1 l1.length c1, .slice A2 l2.length c2, .slice A3 l3.length c3] w fun e w' => e = .returned (.bool r) ∧ Below w.heap.size w w' := by
 have HR0 := Aside0.mk hr0
 have HC0 := Aside0.mk hc0
 clear hr0 hc0
 have HR1 := Aside0.mk hr1
 have HC1 := Aside0.mk hc1
 clear hr1 hc1
 have HR2 := Aside0.mk hr2
 have HC2 := Aside0.mk hc2
 clear hr2 hc2
 have HR3 := Aside0.mk hr3
 have HC3 := Aside0.mk hc3
 clear hr3 hc3
 have HB := Aside0.mk (Below.refl w.heap.size w)
 have H : ((raddlelaw04_Heavy.f k l0).bind fun t529 => (if t529 = true then (raddlelaw04_RowExact.j0 k l0 l1 l2 l3 true) else ((raddlelaw04_Heavy.f k l1).bind fun t530 => (if t530 = true then (raddlelaw04_RowExact.j0 k l0 l1 l2 l3 true) else (if (l2.length : Int) > 40 then (raddlelaw04_RowExact.j0 k l0 l1 l2 l3 true) else (raddlelaw04_RowExact.j0 k l0 l1 l2 l3 (decide ((l3.length : Int) > 40)))))))) = some r := h
 clear h
 have HC5 := Aside0.mk H
 clear H
 go_enter Try.func8, Try.ntmps8
 go_upto_region 1 with (fail)
 go_cut [36] (fun v36 wc => ∃ (kq : Nat) (x36_4 : Bool), v36 = .bool x36_4 ∧ Aside0 (raddlelaw04_RowExact.j0 kq l0 l1 l2 l3 x36_4 = some r) ∧ Aside0 (kq ≤ k) ∧ Aside0 (Below w.heap.size w wc))
 case first =>
  have H := HC5.out
  clear HC5
  replace H := Option.bind_eq_some_iff.mp H
  obtain ⟨t529, A60, H⟩ := H
  replace H : (if t529 = true then (raddlelaw04_RowExact.j0 k l0 l1 l2 l3 true) else ((raddlelaw04_Heavy.f k l1).bind fun t530 => (if t530 = true then (raddlelaw04_RowExact.j0 k l0 l1 l2 l3 true) else (if (l2.length : Int) > 40 then (raddlelaw04_RowExact.j0 k l0 l1 l2 l3 true) else (raddlelaw04_RowExact.j0 k l0 l1 l2 l3 (decide ((l3.length : Int) > 40))))))) = some r := H
  have A6 := Aside0.mk A60
  clear A60
  by_cases c7 : t529 = true
  ·
   subst c7
   have H1 : (raddlelaw04_RowExact.j0 k l0 l1 l2 l3 true) = some r := by rw [if_pos rfl] at H; exact H
   clear H
   have H := H1
   clear H1
   have H' := Aside0.mk H
   clear H
   go_wp2_with (first | ((with_reducible refine gate_callee (f := 17) rfl ?_); refine Short.gL (some 22) Try.func17 #[.slice A0 l0.length c0] (h := ?_); (with_reducible refine (raddlelaw04_Heavy.calls k _ _ l0 true _ ?side1 ?side2 A6.out).mono ?_); (case side1 => repeat (first | exact (Kd.C_below HR0.out HB.out) | (with_reducible refine Kd.C_alloc ?_ _) | (with_reducible refine Kd.C_drewN ?_ _) | (with_reducible refine Kd.C_drew ?_))); (case side2 => exact HC0.out); rintro e w' ⟨rfl, ⟨nd, rfl⟩⟩; refine ⟨_, rfl, ?_⟩))
   go_meet
   case rel => exact ⟨_, (true), (by first | rfl | (simp; done) | (simp [*]; done)), H', ⟨by first | omega | exact Nat.le_refl _⟩, ⟨Short.hB HB⟩⟩
  ·
   replace c7 := Bool.eq_false_iff.mpr c7
   subst c7
   have H1 : ((raddlelaw04_Heavy.f k l1).bind fun t530 => (if t530 = true then (raddlelaw04_RowExact.j0 k l0 l1 l2 l3 true) else (if (l2.length : Int) > 40 then (raddlelaw04_RowExact.j0 k l0 l1 l2 l3 true) else (raddlelaw04_RowExact.j0 k l0 l1 l2 l3 (decide ((l3.length : Int) > 40)))))) = some r := by rw [if_neg (show ¬ (false = true) by decide)] at H; exact H
   clear H
   have H := H1
   clear H1
   replace H := Option.bind_eq_some_iff.mp H
   obtain ⟨t530, A80, H⟩ := H
   replace H : (if t530 = true then (raddlelaw04_RowExact.j0 k l0 l1 l2 l3 true) else (if (l2.length : Int) > 40 then (raddlelaw04_RowExact.j0 k l0 l1 l2 l3 true) else (raddlelaw04_RowExact.j0 k l0 l1 l2 l3 (decide ((l3.length : Int) > 40))))) = some r := H
   have A8 := Aside0.mk A80
   clear A80
   by_cases c9 : t530 = true
   ·
    subst c9
    have H1 : (raddlelaw04_RowExact.j0 k l0 l1 l2 l3 true) = some r := by rw [if_pos rfl] at H; exact H
    clear H
    have H := H1
    clear H1
    have H' := Aside0.mk H
    clear H
    go_wp2_with (first | ((with_reducible refine gate_callee (f := 17) rfl ?_); refine Short.gL (some 22) Try.func17 #[.slice A0 l0.length c0] (h := ?_); (with_reducible refine (raddlelaw04_Heavy.calls k _ _ l0 false _ ?side1 ?side2 A6.out).mono ?_); (case side1 => repeat (first | exact (Kd.C_below HR0.out HB.out) | (with_reducible refine Kd.C_alloc ?_ _) | (with_reducible refine Kd.C_drewN ?_ _) | (with_reducible refine Kd.C_drew ?_))); (case side2 => exact HC0.out); rintro e w' ⟨rfl, ⟨nd, rfl⟩⟩; refine ⟨_, rfl, ?_⟩) | (go_at_call 17; (with_reducible refine (raddlelaw04_Heavy.calls k _ _ l1 true _ ?side1 ?side2 A8.out).mono ?_); (case side1 => repeat (first | exact (Kd.C_below HR1.out (Short.hB HB)) | (with_reducible refine Kd.C_alloc ?_ _) | (with_reducible refine Kd.C_drewN ?_ _) | (with_reducible refine Kd.C_drew ?_))); (case side2 => exact HC1.out); rintro e w' ⟨rfl, ⟨nd, rfl⟩⟩))
    go_meet
    case rel => exact ⟨_, (true), (by first | rfl | (simp; done) | (simp [*]; done)), H', ⟨by first | omega | exact Nat.le_refl _⟩, ⟨Short.hB HB⟩⟩
   ·
    replace c9 := Bool.eq_false_iff.mpr c9
    subst c9
    have H1 : (if (l2.length : Int) > 40 then (raddlelaw04_RowExact.j0 k l0 l1 l2 l3 true) else (raddlelaw04_RowExact.j0 k l0 l1 l2 l3 (decide ((l3.length : Int) > 40)))) = some r := by rw [if_neg (show ¬ (false = true) by decide)] at H; exact H
    clear H
    have H := H1
    clear H1
    by_cases c10 : (l2.length : Int) > 40
    ·
     rw [if_pos c10] at H
     have c10b0 : decide (40 < (l2.length : Int)) = true := decide_eq_true c10
     have c10b1 : decide (40 < l2.length) = true := decide_eq_true (by omega)
     clear c10
     (first | rw [c10b0] | (simp only [i64_w, i32_w]; rw [c10b0]) | skip)
     have H' := Aside0.mk H
     clear H
     go_wp2_with (first | ((with_reducible refine gate_callee (f := 17) rfl ?_); refine Short.gL (some 22) Try.func17 #[.slice A0 l0.length c0] (h := ?_); (with_reducible refine (raddlelaw04_Heavy.calls k _ _ l0 false _ ?side1 ?side2 A6.out).mono ?_); (case side1 => repeat (first | exact (Kd.C_below HR0.out HB.out) | (with_reducible refine Kd.C_alloc ?_ _) | (with_reducible refine Kd.C_drewN ?_ _) | (with_reducible refine Kd.C_drew ?_))); (case side2 => exact HC0.out); rintro e w' ⟨rfl, ⟨nd, rfl⟩⟩; refine ⟨_, rfl, ?_⟩) | (go_at_call 17; (with_reducible refine (raddlelaw04_Heavy.calls k _ _ l1 false _ ?side1 ?side2 A8.out).mono ?_); (case side1 => repeat (first | exact (Kd.C_below HR1.out (Short.hB HB)) | (with_reducible refine Kd.C_alloc ?_ _) | (with_reducible refine Kd.C_drewN ?_ _) | (with_reducible refine Kd.C_drew ?_))); (case side2 => exact HC1.out); rintro e w' ⟨rfl, ⟨nd, rfl⟩⟩))
     go_meet
     case rel => exact ⟨_, (true), (by first | rfl | (simp; done) | (simp [*]; done)), H', ⟨by first | omega | exact Nat.le_refl _⟩, ⟨Short.hB HB⟩⟩
    ·
     rw [if_neg c10] at H
     have c10b0 : decide (40 < (l2.length : Int)) = false := decide_eq_false c10
     have c10b1 : decide (40 < l2.length) = false := decide_eq_false (by omega)
     clear c10
     (first | rw [c10b0] | (simp only [i64_w, i32_w]; rw [c10b0]) | skip)
     have H' := Aside0.mk H
     clear H
     go_wp2_with (first | ((with_reducible refine gate_callee (f := 17) rfl ?_); refine Short.gL (some 22) Try.func17 #[.slice A0 l0.length c0] (h := ?_); (with_reducible refine (raddlelaw04_Heavy.calls k _ _ l0 false _ ?side1 ?side2 A6.out).mono ?_); (case side1 => repeat (first | exact (Kd.C_below HR0.out HB.out) | (with_reducible refine Kd.C_alloc ?_ _) | (with_reducible refine Kd.C_drewN ?_ _) | (with_reducible refine Kd.C_drew ?_))); (case side2 => exact HC0.out); rintro e w' ⟨rfl, ⟨nd, rfl⟩⟩; refine ⟨_, rfl, ?_⟩) | (go_at_call 17; (with_reducible refine (raddlelaw04_Heavy.calls k _ _ l1 false _ ?side1 ?side2 A8.out).mono ?_); (case side1 => repeat (first | exact (Kd.C_below HR1.out (Short.hB HB)) | (with_reducible refine Kd.C_alloc ?_ _) | (with_reducible refine Kd.C_drewN ?_ _) | (with_reducible refine Kd.C_drew ?_))); (case side2 => exact HC1.out); rintro e w' ⟨rfl, ⟨nd, rfl⟩⟩))
     go_meet
     case rel => exact ⟨_, (decide ((l3.length : Int) > 40)), (by first | rfl | (simp; done) | (simp [*]; done)), H', ⟨by first | omega | exact Nat.le_refl _⟩, ⟨Short.hB HB⟩⟩
 case rest => as_aux_lemma =>
  clear HC5
  try clear c1
  try clear c2
  try clear p2
  try clear c3
  try clear c7
  try clear c8
  try clear c9
  try clear c10
  try clear c10b0
  try clear c10b1
  obtain ⟨kq, x36_4, rfl, HA, HJ4, HB⟩ := hcut
  cases kq with
  | zero => exact absurd HA.out (by simp [raddlelaw04_RowExact.j0])
  | succ kj4 =>
   have H := HA.out
   clear HA
   simp only [raddlelaw04_RowExact.j0] at H
   by_cases c11 : x36_4 = true
   ·
    subst c11
    have H1 : (some true) = some r := by rw [if_pos rfl] at H; exact H
    clear H
    have H := H1
    clear H1
    obtain rfl := Option.some.inj H
    go_wp2
    go_ret
    exact ⟨by first | rfl | (simp [errW_none, errW_some] <;> rfl) | (simp [*, errW_none, errW_some] <;> rfl), Short.hB HB⟩
   ·
    replace c11 := Bool.eq_false_iff.mpr c11
    subst c11
    have H1 : ((raddlekeep_TwinRow.f l0).bind fun t531 => ((raddlekeep_TwinInts.f l2).bind fun t534 => ((raddlekeep_TwinInts.f l3).bind fun t537 => ((raddleref01_Row.f kj4 l0).bind fun t540 => ((row_Bytes.f kj4 t531).bind fun bt541 => ((row_Pick.f kj4 t531 t537).bind fun bt545 => ((raddleref01_Pick.f kj4 l0 l3).bind fun bt549 => ((row_Check.f kj4 t531).bind fun t553 => (if t553 = t540 then ((row_Compare.f kj4 t531 l1).bind fun t554 => ((raddleref01_CompareRows.f kj4 l0 l1).bind fun t555 => (if t554 = t555 then ((row_Fits.f kj4 t531 t534).bind fun t556 => ((raddleref01_RowFits.f kj4 l0 l2).bind fun t557 => (if (t556 != t557) = true then (raddlelaw04_RowExact.j1 kj4 l0 l2 l3 t531 t534 t537 t540 bt541.1 bt541.2 bt545.1 true) else (if bt545.2 = bt549.2 then ((raddlekeep_Row.f kj4 bt545.1 bt549.1).bind fun t558 => (raddlelaw04_RowExact.j1 kj4 l0 l2 l3 t531 t534 t537 t540 bt541.1 bt541.2 bt545.1 (!t558))) else (raddlelaw04_RowExact.j1 kj4 l0 l2 l3 t531 t534 t537 t540 bt541.1 bt541.2 bt545.1 true))))) else (raddlelaw04_RowExact.j1 kj4 l0 l2 l3 t531 t534 t537 t540 bt541.1 bt541.2 bt545.1 true)))) else (raddlelaw04_RowExact.j1 kj4 l0 l2 l3 t531 t534 t537 t540 bt541.1 bt541.2 bt545.1 true)))))))))) = some r := by rw [if_neg (show ¬ (false = true) by decide)] at H; exact H
    clear H
    have H := H1
    clear H1
    replace H := Option.bind_eq_some_iff.mp H
    obtain ⟨t531, A120, H⟩ := H
    replace H : ((raddlekeep_TwinInts.f l2).bind fun t534 => ((raddlekeep_TwinInts.f l3).bind fun t537 => ((raddleref01_Row.f kj4 l0).bind fun t540 => ((row_Bytes.f kj4 t531).bind fun bt541 => ((row_Pick.f kj4 t531 t537).bind fun bt545 => ((raddleref01_Pick.f kj4 l0 l3).bind fun bt549 => ((row_Check.f kj4 t531).bind fun t553 => (if t553 = t540 then ((row_Compare.f kj4 t531 l1).bind fun t554 => ((raddleref01_CompareRows.f kj4 l0 l1).bind fun t555 => (if t554 = t555 then ((row_Fits.f kj4 t531 t534).bind fun t556 => ((raddleref01_RowFits.f kj4 l0 l2).bind fun t557 => (if (t556 != t557) = true then (raddlelaw04_RowExact.j1 kj4 l0 l2 l3 t531 t534 t537 t540 bt541.1 bt541.2 bt545.1 true) else (if bt545.2 = bt549.2 then ((raddlekeep_Row.f kj4 bt545.1 bt549.1).bind fun t558 => (raddlelaw04_RowExact.j1 kj4 l0 l2 l3 t531 t534 t537 t540 bt541.1 bt541.2 bt545.1 (!t558))) else (raddlelaw04_RowExact.j1 kj4 l0 l2 l3 t531 t534 t537 t540 bt541.1 bt541.2 bt545.1 true))))) else (raddlelaw04_RowExact.j1 kj4 l0 l2 l3 t531 t534 t537 t540 bt541.1 bt541.2 bt545.1 true)))) else (raddlelaw04_RowExact.j1 kj4 l0 l2 l3 t531 t534 t537 t540 bt541.1 bt541.2 bt545.1 true))))))))) = some r := H
    have A12 := Aside0.mk A120
    clear A120
    replace H := Option.bind_eq_some_iff.mp H
    obtain ⟨t534, A130, H⟩ := H
    replace H : ((raddlekeep_TwinInts.f l3).bind fun t537 => ((raddleref01_Row.f kj4 l0).bind fun t540 => ((row_Bytes.f kj4 t531).bind fun bt541 => ((row_Pick.f kj4 t531 t537).bind fun bt545 => ((raddleref01_Pick.f kj4 l0 l3).bind fun bt549 => ((row_Check.f kj4 t531).bind fun t553 => (if t553 = t540 then ((row_Compare.f kj4 t531 l1).bind fun t554 => ((raddleref01_CompareRows.f kj4 l0 l1).bind fun t555 => (if t554 = t555 then ((row_Fits.f kj4 t531 t534).bind fun t556 => ((raddleref01_RowFits.f kj4 l0 l2).bind fun t557 => (if (t556 != t557) = true then (raddlelaw04_RowExact.j1 kj4 l0 l2 l3 t531 t534 t537 t540 bt541.1 bt541.2 bt545.1 true) else (if bt545.2 = bt549.2 then ((raddlekeep_Row.f kj4 bt545.1 bt549.1).bind fun t558 => (raddlelaw04_RowExact.j1 kj4 l0 l2 l3 t531 t534 t537 t540 bt541.1 bt541.2 bt545.1 (!t558))) else (raddlelaw04_RowExact.j1 kj4 l0 l2 l3 t531 t534 t537 t540 bt541.1 bt541.2 bt545.1 true))))) else (raddlelaw04_RowExact.j1 kj4 l0 l2 l3 t531 t534 t537 t540 bt541.1 bt541.2 bt545.1 true)))) else (raddlelaw04_RowExact.j1 kj4 l0 l2 l3 t531 t534 t537 t540 bt541.1 bt541.2 bt545.1 true)))))))) = some r := H
    have A13 := Aside0.mk A130
    clear A130
    replace H := Option.bind_eq_some_iff.mp H
    obtain ⟨t537, A140, H⟩ := H
    replace H : ((raddleref01_Row.f kj4 l0).bind fun t540 => ((row_Bytes.f kj4 t531).bind fun bt541 => ((row_Pick.f kj4 t531 t537).bind fun bt545 => ((raddleref01_Pick.f kj4 l0 l3).bind fun bt549 => ((row_Check.f kj4 t531).bind fun t553 => (if t553 = t540 then ((row_Compare.f kj4 t531 l1).bind fun t554 => ((raddleref01_CompareRows.f kj4 l0 l1).bind fun t555 => (if t554 = t555 then ((row_Fits.f kj4 t531 t534).bind fun t556 => ((raddleref01_RowFits.f kj4 l0 l2).bind fun t557 => (if (t556 != t557) = true then (raddlelaw04_RowExact.j1 kj4 l0 l2 l3 t531 t534 t537 t540 bt541.1 bt541.2 bt545.1 true) else (if bt545.2 = bt549.2 then ((raddlekeep_Row.f kj4 bt545.1 bt549.1).bind fun t558 => (raddlelaw04_RowExact.j1 kj4 l0 l2 l3 t531 t534 t537 t540 bt541.1 bt541.2 bt545.1 (!t558))) else (raddlelaw04_RowExact.j1 kj4 l0 l2 l3 t531 t534 t537 t540 bt541.1 bt541.2 bt545.1 true))))) else (raddlelaw04_RowExact.j1 kj4 l0 l2 l3 t531 t534 t537 t540 bt541.1 bt541.2 bt545.1 true)))) else (raddlelaw04_RowExact.j1 kj4 l0 l2 l3 t531 t534 t537 t540 bt541.1 bt541.2 bt545.1 true))))))) = some r := H
    have A14 := Aside0.mk A140
    clear A140
    replace H := Option.bind_eq_some_iff.mp H
    obtain ⟨t540, A150, H⟩ := H
    replace H : ((row_Bytes.f kj4 t531).bind fun bt541 => ((row_Pick.f kj4 t531 t537).bind fun bt545 => ((raddleref01_Pick.f kj4 l0 l3).bind fun bt549 => ((row_Check.f kj4 t531).bind fun t553 => (if t553 = t540 then ((row_Compare.f kj4 t531 l1).bind fun t554 => ((raddleref01_CompareRows.f kj4 l0 l1).bind fun t555 => (if t554 = t555 then ((row_Fits.f kj4 t531 t534).bind fun t556 => ((raddleref01_RowFits.f kj4 l0 l2).bind fun t557 => (if (t556 != t557) = true then (raddlelaw04_RowExact.j1 kj4 l0 l2 l3 t531 t534 t537 t540 bt541.1 bt541.2 bt545.1 true) else (if bt545.2 = bt549.2 then ((raddlekeep_Row.f kj4 bt545.1 bt549.1).bind fun t558 => (raddlelaw04_RowExact.j1 kj4 l0 l2 l3 t531 t534 t537 t540 bt541.1 bt541.2 bt545.1 (!t558))) else (raddlelaw04_RowExact.j1 kj4 l0 l2 l3 t531 t534 t537 t540 bt541.1 bt541.2 bt545.1 true))))) else (raddlelaw04_RowExact.j1 kj4 l0 l2 l3 t531 t534 t537 t540 bt541.1 bt541.2 bt545.1 true)))) else (raddlelaw04_RowExact.j1 kj4 l0 l2 l3 t531 t534 t537 t540 bt541.1 bt541.2 bt545.1 true)))))) = some r := H
    have A15 := Aside0.mk A150
    clear A150
    replace H := Option.bind_eq_some_iff.mp H
    obtain ⟨⟨t541, t542⟩, A160, H⟩ := H
    replace H : ((row_Pick.f kj4 t531 t537).bind fun bt545 => ((raddleref01_Pick.f kj4 l0 l3).bind fun bt549 => ((row_Check.f kj4 t531).bind fun t553 => (if t553 = t540 then ((row_Compare.f kj4 t531 l1).bind fun t554 => ((raddleref01_CompareRows.f kj4 l0 l1).bind fun t555 => (if t554 = t555 then ((row_Fits.f kj4 t531 t534).bind fun t556 => ((raddleref01_RowFits.f kj4 l0 l2).bind fun t557 => (if (t556 != t557) = true then (raddlelaw04_RowExact.j1 kj4 l0 l2 l3 t531 t534 t537 t540 t541 t542 bt545.1 true) else (if bt545.2 = bt549.2 then ((raddlekeep_Row.f kj4 bt545.1 bt549.1).bind fun t558 => (raddlelaw04_RowExact.j1 kj4 l0 l2 l3 t531 t534 t537 t540 t541 t542 bt545.1 (!t558))) else (raddlelaw04_RowExact.j1 kj4 l0 l2 l3 t531 t534 t537 t540 t541 t542 bt545.1 true))))) else (raddlelaw04_RowExact.j1 kj4 l0 l2 l3 t531 t534 t537 t540 t541 t542 bt545.1 true)))) else (raddlelaw04_RowExact.j1 kj4 l0 l2 l3 t531 t534 t537 t540 t541 t542 bt545.1 true))))) = some r := H
    have A16 := Aside0.mk A160
    clear A160
    replace H := Option.bind_eq_some_iff.mp H
    obtain ⟨⟨t545, t546⟩, A170, H⟩ := H
    replace H : ((raddleref01_Pick.f kj4 l0 l3).bind fun bt549 => ((row_Check.f kj4 t531).bind fun t553 => (if t553 = t540 then ((row_Compare.f kj4 t531 l1).bind fun t554 => ((raddleref01_CompareRows.f kj4 l0 l1).bind fun t555 => (if t554 = t555 then ((row_Fits.f kj4 t531 t534).bind fun t556 => ((raddleref01_RowFits.f kj4 l0 l2).bind fun t557 => (if (t556 != t557) = true then (raddlelaw04_RowExact.j1 kj4 l0 l2 l3 t531 t534 t537 t540 t541 t542 t545 true) else (if t546 = bt549.2 then ((raddlekeep_Row.f kj4 t545 bt549.1).bind fun t558 => (raddlelaw04_RowExact.j1 kj4 l0 l2 l3 t531 t534 t537 t540 t541 t542 t545 (!t558))) else (raddlelaw04_RowExact.j1 kj4 l0 l2 l3 t531 t534 t537 t540 t541 t542 t545 true))))) else (raddlelaw04_RowExact.j1 kj4 l0 l2 l3 t531 t534 t537 t540 t541 t542 t545 true)))) else (raddlelaw04_RowExact.j1 kj4 l0 l2 l3 t531 t534 t537 t540 t541 t542 t545 true)))) = some r := H
    have A17 := Aside0.mk A170
    clear A170
    replace H := Option.bind_eq_some_iff.mp H
    obtain ⟨⟨t549, t550⟩, A180, H⟩ := H
    replace H : ((row_Check.f kj4 t531).bind fun t553 => (if t553 = t540 then ((row_Compare.f kj4 t531 l1).bind fun t554 => ((raddleref01_CompareRows.f kj4 l0 l1).bind fun t555 => (if t554 = t555 then ((row_Fits.f kj4 t531 t534).bind fun t556 => ((raddleref01_RowFits.f kj4 l0 l2).bind fun t557 => (if (t556 != t557) = true then (raddlelaw04_RowExact.j1 kj4 l0 l2 l3 t531 t534 t537 t540 t541 t542 t545 true) else (if t546 = t550 then ((raddlekeep_Row.f kj4 t545 t549).bind fun t558 => (raddlelaw04_RowExact.j1 kj4 l0 l2 l3 t531 t534 t537 t540 t541 t542 t545 (!t558))) else (raddlelaw04_RowExact.j1 kj4 l0 l2 l3 t531 t534 t537 t540 t541 t542 t545 true))))) else (raddlelaw04_RowExact.j1 kj4 l0 l2 l3 t531 t534 t537 t540 t541 t542 t545 true)))) else (raddlelaw04_RowExact.j1 kj4 l0 l2 l3 t531 t534 t537 t540 t541 t542 t545 true))) = some r := H
    have A18 := Aside0.mk A180
    clear A180
    have HC19 := Aside0.mk H
    clear H
    go_upto_region 8 with (first | ((with_reducible refine gate_callee (f := 27) rfl ?_); refine Short.gL (some 38) Try.func27 #[.slice A0 l0.length c0] (h := ?_); (with_reducible refine (raddlekeep_TwinRow.calls _ _ l0 t531 _ ?side1 ?side2 A12.out).mono ?_); (case side1 => repeat (first | exact (Kd.C_below HR0.out HB.out) | (with_reducible refine Kd.C_alloc ?_ _) | (with_reducible refine Kd.C_drewN ?_ _) | (with_reducible refine Kd.C_drew ?_))); (case side2 => exact HC0.out); rintro e w20 ⟨v532, rfl, ho0, hb⟩; refine ⟨_, rfl, ?_⟩; have n0_ := Aside0.mk (Kd.R_lower ho0 (below_size (Short.hB HB))); have n1_ := Aside0.mk (below_step (Short.hB HB) hb); clear HB; have HO533 := n0_; have HB := n1_; clear n0_ n1_; (try clear hb); (try clear hb2); (try clear hk); (try clear hi); (try clear ho0)) | ((with_reducible refine gate_callee (f := 28) rfl ?_); refine Short.gL (some 40) Try.func28 #[.slice A2 l2.length c2] (h := ?_); (with_reducible refine (raddlekeep_TwinInts.calls _ _ l2 t534 _ ?side1 ?side2 A13.out).mono ?_); (case side1 => repeat (first | exact (Kd.C_below HR2.out HB.out) | (with_reducible refine Kd.C_alloc ?_ _) | (with_reducible refine Kd.C_drewN ?_ _) | (with_reducible refine Kd.C_drew ?_))); (case side2 => exact HC2.out); rintro e w21 ⟨v535, rfl, ho0, hb⟩; refine ⟨_, rfl, ?_⟩; have n0_ := Aside0.mk (Kd.R_below (by (with_reducible repeat (first | apply Kd.R_alloc | apply Kd.R_drewN | apply Kd.R_drew)); exact HO533.out) hb); have n1_ := Aside0.mk (Kd.R_lower ho0 (below_size (Short.hB HB))); have n2_ := Aside0.mk (below_step (Short.hB HB) hb); clear HO533; clear HB; have HO533 := n0_; have HO536 := n1_; have HB := n2_; clear n0_ n1_ n2_; (try clear hb); (try clear hb2); (try clear hk); (try clear hi); (try clear ho0)) | ((with_reducible refine gate_callee (f := 28) rfl ?_); refine Short.gL (some 42) Try.func28 #[.slice A3 l3.length c3] (h := ?_); (with_reducible refine (raddlekeep_TwinInts.calls _ _ l3 t537 _ ?side1 ?side2 A14.out).mono ?_); (case side1 => repeat (first | exact (Kd.C_below HR3.out HB.out) | (with_reducible refine Kd.C_alloc ?_ _) | (with_reducible refine Kd.C_drewN ?_ _) | (with_reducible refine Kd.C_drew ?_))); (case side2 => exact HC3.out); rintro e w22 ⟨v538, rfl, ho0, hb⟩; refine ⟨_, rfl, ?_⟩; have n0_ := Aside0.mk (Kd.R_below (by (with_reducible repeat (first | apply Kd.R_alloc | apply Kd.R_drewN | apply Kd.R_drew)); exact HO533.out) hb); have n1_ := Aside0.mk (Kd.R_elder' (by (with_reducible repeat (first | apply Kd.R_alloc | apply Kd.R_drewN | apply Kd.R_drew)); exact HO536.out) (Kd.R_base ho0) hb); have n2_ := Aside0.mk (Kd.R_lower (Kd.R_new' ho0 (Kd.R_lt (by (with_reducible repeat (first | apply Kd.R_alloc | apply Kd.R_drewN | apply Kd.R_drew)); exact HO536.out))) (below_size (Short.hB HB))); have n3_ := Aside0.mk (below_step (Short.hB HB) hb); clear HO533; clear HO536; clear HB; have HO533 := n0_; have HO536 := n1_; have HO539 := n2_; have HB := n3_; clear n0_ n1_ n2_ n3_; (try clear hb); (try clear hb2); (try clear hk); (try clear hi); (try clear ho0)) | ((with_reducible refine gate_callee (f := 20) rfl ?_); refine Short.gL (some 44) Try.func20 #[.slice A0 l0.length c0] (h := ?_); (with_reducible refine (raddleref01_Row.calls kj4 _ _ l0 t540 _ ?side1 ?side2 A15.out).mono ?_); (case side1 => repeat (first | exact (Kd.C_below HR0.out HB.out) | (with_reducible refine Kd.C_alloc ?_ _) | (with_reducible refine Kd.C_drewN ?_ _) | (with_reducible refine Kd.C_drew ?_))); (case side2 => exact HC0.out); rintro e w23 ⟨rfl, hb⟩; refine ⟨_, rfl, ?_⟩; have n0_ := Aside0.mk (Kd.R_below (by (with_reducible repeat (first | apply Kd.R_alloc | apply Kd.R_drewN | apply Kd.R_drew)); exact HO533.out) hb); have n1_ := Aside0.mk (Kd.R_below (by (with_reducible repeat (first | apply Kd.R_alloc | apply Kd.R_drewN | apply Kd.R_drew)); exact HO536.out) hb); have n2_ := Aside0.mk (Kd.R_below (by (with_reducible repeat (first | apply Kd.R_alloc | apply Kd.R_drewN | apply Kd.R_drew)); exact HO539.out) hb); have n3_ := Aside0.mk (below_step (Short.hB HB) hb); clear HO533; clear HO536; clear HO539; clear HB; have HO533 := n0_; have HO536 := n1_; have HO539 := n2_; have HB := n3_; clear n0_ n1_ n2_ n3_; (try clear hb); (try clear hb2); (try clear hk); (try clear hi); obtain ⟨Ao24, co24, eo24⟩ := Kd.R_slice HO533.out; subst eo24) | ((with_reducible refine gate_callee (f := 16) rfl ?_); refine Short.gL (some 47) Try.func16 #[.slice Ao24 t531.length co24] (h := ?_); (with_reducible refine (row_Bytes.calls kj4 _ _ t531 t541 t542 _ ?side1 ?side2 A16.out).mono ?_); (case side1 => repeat (first | exact (Kd.R_reads' HO533.out).2.2 | (with_reducible refine Kd.C_alloc ?_ _) | (with_reducible refine Kd.C_drewN ?_ _) | (with_reducible refine Kd.C_drew ?_))); (case side2 => exact (Kd.R_reads' HO533.out).2.1); rintro e w25 ⟨v543, rfl, ho0, hb⟩; refine ⟨_, rfl, ?_⟩; have n0_ := Aside0.mk (Kd.R_below (by (with_reducible repeat (first | apply Kd.R_alloc | apply Kd.R_drewN | apply Kd.R_drew)); exact HO533.out) hb); have n1_ := Aside0.mk (Kd.R_below (by (with_reducible repeat (first | apply Kd.R_alloc | apply Kd.R_drewN | apply Kd.R_drew)); exact HO536.out) hb); have n2_ := Aside0.mk (Kd.R_below (by (with_reducible repeat (first | apply Kd.R_alloc | apply Kd.R_drewN | apply Kd.R_drew)); exact HO539.out) hb); have n3_ := Aside0.mk (Kd.R_lower ho0 (below_size (Short.hB HB))); have n4_ := Aside0.mk (below_step (Short.hB HB) hb); clear HO533; clear HO536; clear HO539; clear HB; have HO533 := n0_; have HO536 := n1_; have HO539 := n2_; have HO544 := n3_; have HB := n4_; clear n0_ n1_ n2_ n3_ n4_; (try clear hb); (try clear hb2); (try clear hk); (try clear hi); (try clear ho0); obtain ⟨Ao26, co26, eo26⟩ := Kd.R_slice HO539.out; subst eo26) | ((with_reducible refine gate_callee (f := 23) rfl ?_); refine Short.gL (some 53) Try.func23 #[.slice Ao24 t531.length co24, .slice Ao26 t537.length co26] (h := ?_); (with_reducible refine (row_Pick.calls kj4 _ _ t531 _ _ t537 t545 t546 _ ?side1 ?side2 ?side3 ?side4 A17.out).mono ?_); (case side1 => repeat (first | exact (Kd.R_reads' HO533.out).2.2 | (with_reducible refine Kd.C_alloc ?_ _) | (with_reducible refine Kd.C_drewN ?_ _) | (with_reducible refine Kd.C_drew ?_))); (case side2 => exact (Kd.R_reads' HO533.out).2.1); (case side3 => repeat (first | exact (Kd.R_reads' HO539.out).2.2 | (with_reducible refine Kd.C_alloc ?_ _) | (with_reducible refine Kd.C_drewN ?_ _) | (with_reducible refine Kd.C_drew ?_))); (case side4 => exact (Kd.R_reads' HO539.out).2.1); rintro e w27 ⟨v547, rfl, ho0, hb⟩; refine ⟨_, rfl, ?_⟩; have n0_ := Aside0.mk (Kd.R_elder' (by (with_reducible repeat (first | apply Kd.R_alloc | apply Kd.R_drewN | apply Kd.R_drew)); exact HO533.out) (Kd.R_base ho0) hb); have n1_ := Aside0.mk (Kd.R_below (by (with_reducible repeat (first | apply Kd.R_alloc | apply Kd.R_drewN | apply Kd.R_drew)); exact HO536.out) hb); have n2_ := Aside0.mk (Kd.R_below (by (with_reducible repeat (first | apply Kd.R_alloc | apply Kd.R_drewN | apply Kd.R_drew)); exact HO539.out) hb); have n3_ := Aside0.mk (Kd.R_below (by (with_reducible repeat (first | apply Kd.R_alloc | apply Kd.R_drewN | apply Kd.R_drew)); exact HO544.out) hb); have n4_ := Aside0.mk (Kd.R_lower (Kd.R_new' ho0 (Kd.R_lt (by (with_reducible repeat (first | apply Kd.R_alloc | apply Kd.R_drewN | apply Kd.R_drew)); exact HO533.out))) (below_size (Short.hB HB))); have n5_ := Aside0.mk (below_step (Short.hB HB) hb); clear HO533; clear HO536; clear HO539; clear HO544; clear HB; have HO533 := n0_; have HO536 := n1_; have HO539 := n2_; have HO544 := n3_; have HO548 := n4_; have HB := n5_; clear n0_ n1_ n2_ n3_ n4_ n5_; (try clear hb); (try clear hb2); (try clear hk); (try clear hi); (try clear ho0)) | ((with_reducible refine gate_callee (f := 29) rfl ?_); refine Short.gL (some 59) Try.func29 #[.slice A0 l0.length c0, .slice A3 l3.length c3] (h := ?_); (with_reducible refine (raddleref01_Pick.calls kj4 _ _ l0 _ _ l3 t549 t550 _ ?side1 ?side2 ?side3 ?side4 A18.out).mono ?_); (case side1 => repeat (first | exact (Kd.C_below HR0.out HB.out) | (with_reducible refine Kd.C_alloc ?_ _) | (with_reducible refine Kd.C_drewN ?_ _) | (with_reducible refine Kd.C_drew ?_))); (case side2 => exact HC0.out); (case side3 => repeat (first | exact (Kd.C_below HR3.out HB.out) | (with_reducible refine Kd.C_alloc ?_ _) | (with_reducible refine Kd.C_drewN ?_ _) | (with_reducible refine Kd.C_drew ?_))); (case side4 => exact HC3.out); rintro e w28 ⟨v551, rfl, ho0, hb⟩; refine ⟨_, rfl, ?_⟩; have n0_ := Aside0.mk (Kd.R_elder' (by (with_reducible repeat (first | apply Kd.R_alloc | apply Kd.R_drewN | apply Kd.R_drew)); exact HO533.out) (Kd.R_base ho0) hb); have n1_ := Aside0.mk (Kd.R_below (by (with_reducible repeat (first | apply Kd.R_alloc | apply Kd.R_drewN | apply Kd.R_drew)); exact HO536.out) hb); have n2_ := Aside0.mk (Kd.R_below (by (with_reducible repeat (first | apply Kd.R_alloc | apply Kd.R_drewN | apply Kd.R_drew)); exact HO539.out) hb); have n3_ := Aside0.mk (Kd.R_below (by (with_reducible repeat (first | apply Kd.R_alloc | apply Kd.R_drewN | apply Kd.R_drew)); exact HO544.out) hb); have n4_ := Aside0.mk (Kd.R_elder' (by (with_reducible repeat (first | apply Kd.R_alloc | apply Kd.R_drewN | apply Kd.R_drew)); exact HO548.out) (Kd.R_base ho0) hb); have n5_ := Aside0.mk (Kd.R_lower (Kd.R_new' (Kd.R_new' ho0 (Kd.R_lt (by (with_reducible repeat (first | apply Kd.R_alloc | apply Kd.R_drewN | apply Kd.R_drew)); exact HO533.out))) (Kd.R_lt (by (with_reducible repeat (first | apply Kd.R_alloc | apply Kd.R_drewN | apply Kd.R_drew)); exact HO548.out))) (below_size (Short.hB HB))); have n6_ := Aside0.mk (below_step (Short.hB HB) hb); clear HO533; clear HO536; clear HO539; clear HO544; clear HO548; clear HB; have HO533 := n0_; have HO536 := n1_; have HO539 := n2_; have HO544 := n3_; have HO548 := n4_; have HO552 := n5_; have HB := n6_; clear n0_ n1_ n2_ n3_ n4_ n5_ n6_; (try clear hb); (try clear hb2); (try clear hk); (try clear hi); (try clear ho0)))
    (try simp only [Act.put, List.setIfInBounds_toArray, List.set_cons_zero, List.set_cons_succ])
    go_cut [94] (fun v94 wc => ∃ (kq : Nat) (x94_18 : Bool), v94 = .bool x94_18 ∧ Aside0 (raddlelaw04_RowExact.j1 kq l0 l2 l3 t531 t534 t537 t540 t541 t542 t545 x94_18 = some r) ∧ Aside0 (kq ≤ kj4) ∧ Aside0 (Kd.R k39 39 wc w.heap.size (fun k_ => some k_ ≠ (v547 : Value).ownBlock) (.slice Ao24 t531.length co24) t531) ∧ Aside0 (Kd.R (Kd.int .i64) 3 wc w.heap.size (fun k_ => some k_ ≠ ((.slice Ao26 t537.length co26) : Value).ownBlock) v535 t534) ∧ Aside0 (Kd.R (Kd.int .i64) 3 wc w.heap.size (fun k_ => some k_ ≠ (v535 : Value).ownBlock) (.slice Ao26 t537.length co26) t537) ∧ Aside0 (Kd.R (Kd.int .u8) 5 wc w.heap.size (fun _ => True) v543 t541) ∧ Aside0 (Kd.R k39 39 wc w.heap.size (fun k_ => some k_ ≠ ((.slice Ao24 t531.length co24) : Value).ownBlock) v547 t545) ∧ Aside0 (Below w.heap.size w wc))
    case first =>
     have H := HC19.out
     clear HC19
     replace H := Option.bind_eq_some_iff.mp H
     obtain ⟨t553, A290, H⟩ := H
     replace H : (if t553 = t540 then ((row_Compare.f kj4 t531 l1).bind fun t554 => ((raddleref01_CompareRows.f kj4 l0 l1).bind fun t555 => (if t554 = t555 then ((row_Fits.f kj4 t531 t534).bind fun t556 => ((raddleref01_RowFits.f kj4 l0 l2).bind fun t557 => (if (t556 != t557) = true then (raddlelaw04_RowExact.j1 kj4 l0 l2 l3 t531 t534 t537 t540 t541 t542 t545 true) else (if t546 = t550 then ((raddlekeep_Row.f kj4 t545 t549).bind fun t558 => (raddlelaw04_RowExact.j1 kj4 l0 l2 l3 t531 t534 t537 t540 t541 t542 t545 (!t558))) else (raddlelaw04_RowExact.j1 kj4 l0 l2 l3 t531 t534 t537 t540 t541 t542 t545 true))))) else (raddlelaw04_RowExact.j1 kj4 l0 l2 l3 t531 t534 t537 t540 t541 t542 t545 true)))) else (raddlelaw04_RowExact.j1 kj4 l0 l2 l3 t531 t534 t537 t540 t541 t542 t545 true)) = some r := H
     have A29 := Aside0.mk A290
     clear A290
     by_cases c30 : t553 = t540
     ·
      rw [if_pos c30] at H
      have c30b0 : (t553 == t540) = true := beq_iff_eq.mpr c30
      have c30b1 : (t553 != t540) = false := bne_eq_false_iff_eq.mpr c30
      clear c30
      (first | rw [c30b0] | (simp only [i64_w, i32_w]; rw [c30b0]) | skip)
      replace H := Option.bind_eq_some_iff.mp H
      obtain ⟨t554, A310, H⟩ := H
      replace H : ((raddleref01_CompareRows.f kj4 l0 l1).bind fun t555 => (if t554 = t555 then ((row_Fits.f kj4 t531 t534).bind fun t556 => ((raddleref01_RowFits.f kj4 l0 l2).bind fun t557 => (if (t556 != t557) = true then (raddlelaw04_RowExact.j1 kj4 l0 l2 l3 t531 t534 t537 t540 t541 t542 t545 true) else (if t546 = t550 then ((raddlekeep_Row.f kj4 t545 t549).bind fun t558 => (raddlelaw04_RowExact.j1 kj4 l0 l2 l3 t531 t534 t537 t540 t541 t542 t545 (!t558))) else (raddlelaw04_RowExact.j1 kj4 l0 l2 l3 t531 t534 t537 t540 t541 t542 t545 true))))) else (raddlelaw04_RowExact.j1 kj4 l0 l2 l3 t531 t534 t537 t540 t541 t542 t545 true))) = some r := H
      have A31 := Aside0.mk A310
      clear A310
      replace H := Option.bind_eq_some_iff.mp H
      obtain ⟨t555, A320, H⟩ := H
      replace H : (if t554 = t555 then ((row_Fits.f kj4 t531 t534).bind fun t556 => ((raddleref01_RowFits.f kj4 l0 l2).bind fun t557 => (if (t556 != t557) = true then (raddlelaw04_RowExact.j1 kj4 l0 l2 l3 t531 t534 t537 t540 t541 t542 t545 true) else (if t546 = t550 then ((raddlekeep_Row.f kj4 t545 t549).bind fun t558 => (raddlelaw04_RowExact.j1 kj4 l0 l2 l3 t531 t534 t537 t540 t541 t542 t545 (!t558))) else (raddlelaw04_RowExact.j1 kj4 l0 l2 l3 t531 t534 t537 t540 t541 t542 t545 true))))) else (raddlelaw04_RowExact.j1 kj4 l0 l2 l3 t531 t534 t537 t540 t541 t542 t545 true)) = some r := H
      have A32 := Aside0.mk A320
      clear A320
      by_cases c33 : t554 = t555
      ·
       rw [if_pos c33] at H
       have c33b0 : (t554 == t555) = true := beq_iff_eq.mpr c33
       have c33b1 : (t554 != t555) = false := bne_eq_false_iff_eq.mpr c33
       clear c33
       replace H := Option.bind_eq_some_iff.mp H
       obtain ⟨t556, A340, H⟩ := H
       replace H : ((raddleref01_RowFits.f kj4 l0 l2).bind fun t557 => (if (t556 != t557) = true then (raddlelaw04_RowExact.j1 kj4 l0 l2 l3 t531 t534 t537 t540 t541 t542 t545 true) else (if t546 = t550 then ((raddlekeep_Row.f kj4 t545 t549).bind fun t558 => (raddlelaw04_RowExact.j1 kj4 l0 l2 l3 t531 t534 t537 t540 t541 t542 t545 (!t558))) else (raddlelaw04_RowExact.j1 kj4 l0 l2 l3 t531 t534 t537 t540 t541 t542 t545 true)))) = some r := H
       have A34 := Aside0.mk A340
       clear A340
       replace H := Option.bind_eq_some_iff.mp H
       obtain ⟨t557, A350, H⟩ := H
       replace H : (if (t556 != t557) = true then (raddlelaw04_RowExact.j1 kj4 l0 l2 l3 t531 t534 t537 t540 t541 t542 t545 true) else (if t546 = t550 then ((raddlekeep_Row.f kj4 t545 t549).bind fun t558 => (raddlelaw04_RowExact.j1 kj4 l0 l2 l3 t531 t534 t537 t540 t541 t542 t545 (!t558))) else (raddlelaw04_RowExact.j1 kj4 l0 l2 l3 t531 t534 t537 t540 t541 t542 t545 true))) = some r := H
       have A35 := Aside0.mk A350
       clear A350
       by_cases c36 : (t556 != t557) = true
       ·
        rw [if_pos c36] at H
        have c36b0 : (t556 != t557) = true := c36
        (try (have c36b1 : decide (t556 = t557) = false := by simpa using c36))
        (try (have c36b2 : (t556 == t557) = false := by simpa using c36))
        (try (have c36b3 : ¬ (t556 = t557) := by simpa using c36))
        clear c36
        exact absurd H (by rw [hrt]; cases kj4 <;> simp [raddlelaw04_RowExact.j1])
       ·
        rw [if_neg c36] at H
        have c36b0 : (t556 != t557) = false := by simpa using c36
        (try (have c36b1 : decide (t556 = t557) = true := by simpa using c36))
        (try (have c36b2 : (t556 == t557) = true := by simpa using c36))
        clear c36
        by_cases c37 : t546 = t550
        ·
         rw [if_pos c37] at H
         have c37b0 : (t546 == t550) = true := beq_iff_eq.mpr c37
         have c37b1 : (t546 != t550) = false := bne_eq_false_iff_eq.mpr c37
         clear c37
         replace H := Option.bind_eq_some_iff.mp H
         obtain ⟨t558, A380, H⟩ := H
         replace H : (raddlelaw04_RowExact.j1 kj4 l0 l2 l3 t531 t534 t537 t540 t541 t542 t545 (!t558)) = some r := H
         have A38 := Aside0.mk A380
         clear A380
         have H' := Aside0.mk H
         clear H
         go_wp2_with (first | ((with_reducible refine gate_callee (f := 24) rfl ?_); refine Short.gL (some 63) Try.func24 #[.slice Ao24 t531.length co24] (h := ?_); (with_reducible refine (row_Check.calls kj4 _ _ t531 t553 _ ?side1 ?side2 A29.out).mono ?_); (case side1 => repeat (first | exact (Kd.R_reads' HO533.out).2.2 | (with_reducible refine Kd.C_alloc ?_ _) | (with_reducible refine Kd.C_drewN ?_ _) | (with_reducible refine Kd.C_drew ?_))); (case side2 => exact (Kd.R_reads' HO533.out).2.1); rintro e w39 ⟨rfl, hb⟩; refine ⟨_, rfl, ?_⟩; have n0_ := Aside0.mk (Kd.R_below (by (with_reducible repeat (first | apply Kd.R_alloc | apply Kd.R_drewN | apply Kd.R_drew)); exact HO533.out) hb); have n1_ := Aside0.mk (Kd.R_below (by (with_reducible repeat (first | apply Kd.R_alloc | apply Kd.R_drewN | apply Kd.R_drew)); exact HO536.out) hb); have n2_ := Aside0.mk (Kd.R_below (by (with_reducible repeat (first | apply Kd.R_alloc | apply Kd.R_drewN | apply Kd.R_drew)); exact HO539.out) hb); have n3_ := Aside0.mk (Kd.R_below (by (with_reducible repeat (first | apply Kd.R_alloc | apply Kd.R_drewN | apply Kd.R_drew)); exact HO544.out) hb); have n4_ := Aside0.mk (Kd.R_below (by (with_reducible repeat (first | apply Kd.R_alloc | apply Kd.R_drewN | apply Kd.R_drew)); exact HO548.out) hb); have n5_ := Aside0.mk (Kd.R_below (by (with_reducible repeat (first | apply Kd.R_alloc | apply Kd.R_drewN | apply Kd.R_drew)); exact HO552.out) hb); have n6_ := Aside0.mk (below_step (Short.hB HB) hb); clear HO533; clear HO536; clear HO539; clear HO544; clear HO548; clear HO552; clear HB; have HO533 := n0_; have HO536 := n1_; have HO539 := n2_; have HO544 := n3_; have HO548 := n4_; have HO552 := n5_; have HB := n6_; clear n0_ n1_ n2_ n3_ n4_ n5_ n6_; (try clear hb); (try clear hb2); (try clear hk); (try clear hi)) | (go_at_call 18; (with_reducible refine (row_Compare.calls kj4 _ _ t531 _ _ l1 t554 _ ?side1 ?side2 ?side3 ?side4 A31.out).mono ?_); (case side1 => repeat (first | exact (Kd.R_reads' HO533.out).2.2 | (with_reducible refine Kd.C_alloc ?_ _) | (with_reducible refine Kd.C_drewN ?_ _) | (with_reducible refine Kd.C_drew ?_))); (case side2 => exact (Kd.R_reads' HO533.out).2.1); (case side3 => repeat (first | exact (Kd.C_below HR1.out HB.out) | (with_reducible refine Kd.C_alloc ?_ _) | (with_reducible refine Kd.C_drewN ?_ _) | (with_reducible refine Kd.C_drew ?_))); (case side4 => exact HC1.out); rintro e w40 ⟨rfl, hb⟩; have n0_ := Aside0.mk (Kd.R_below (by (with_reducible repeat (first | apply Kd.R_alloc | apply Kd.R_drewN | apply Kd.R_drew)); exact HO533.out) hb); have n1_ := Aside0.mk (Kd.R_below (by (with_reducible repeat (first | apply Kd.R_alloc | apply Kd.R_drewN | apply Kd.R_drew)); exact HO536.out) hb); have n2_ := Aside0.mk (Kd.R_below (by (with_reducible repeat (first | apply Kd.R_alloc | apply Kd.R_drewN | apply Kd.R_drew)); exact HO539.out) hb); have n3_ := Aside0.mk (Kd.R_below (by (with_reducible repeat (first | apply Kd.R_alloc | apply Kd.R_drewN | apply Kd.R_drew)); exact HO544.out) hb); have n4_ := Aside0.mk (Kd.R_below (by (with_reducible repeat (first | apply Kd.R_alloc | apply Kd.R_drewN | apply Kd.R_drew)); exact HO548.out) hb); have n5_ := Aside0.mk (Kd.R_below (by (with_reducible repeat (first | apply Kd.R_alloc | apply Kd.R_drewN | apply Kd.R_drew)); exact HO552.out) hb); have n6_ := Aside0.mk (below_step (Short.hB HB) hb); clear HO533; clear HO536; clear HO539; clear HO544; clear HO548; clear HO552; clear HB; have HO533 := n0_; have HO536 := n1_; have HO539 := n2_; have HO544 := n3_; have HO548 := n4_; have HO552 := n5_; have HB := n6_; clear n0_ n1_ n2_ n3_ n4_ n5_ n6_; (try clear hb); (try clear hb2); (try clear hk); (try clear hi)) | (go_at_call 30; (with_reducible refine (raddleref01_CompareRows.calls kj4 _ _ l0 _ _ l1 t555 _ ?side1 ?side2 ?side3 ?side4 A32.out).mono ?_); (case side1 => repeat (first | exact (Kd.C_below HR0.out HB.out) | (with_reducible refine Kd.C_alloc ?_ _) | (with_reducible refine Kd.C_drewN ?_ _) | (with_reducible refine Kd.C_drew ?_))); (case side2 => exact HC0.out); (case side3 => repeat (first | exact (Kd.C_below HR1.out HB.out) | (with_reducible refine Kd.C_alloc ?_ _) | (with_reducible refine Kd.C_drewN ?_ _) | (with_reducible refine Kd.C_drew ?_))); (case side4 => exact HC1.out); rintro e w41 ⟨rfl, hb⟩; have n0_ := Aside0.mk (Kd.R_below (by (with_reducible repeat (first | apply Kd.R_alloc | apply Kd.R_drewN | apply Kd.R_drew)); exact HO533.out) hb); have n1_ := Aside0.mk (Kd.R_below (by (with_reducible repeat (first | apply Kd.R_alloc | apply Kd.R_drewN | apply Kd.R_drew)); exact HO536.out) hb); have n2_ := Aside0.mk (Kd.R_below (by (with_reducible repeat (first | apply Kd.R_alloc | apply Kd.R_drewN | apply Kd.R_drew)); exact HO539.out) hb); have n3_ := Aside0.mk (Kd.R_below (by (with_reducible repeat (first | apply Kd.R_alloc | apply Kd.R_drewN | apply Kd.R_drew)); exact HO544.out) hb); have n4_ := Aside0.mk (Kd.R_below (by (with_reducible repeat (first | apply Kd.R_alloc | apply Kd.R_drewN | apply Kd.R_drew)); exact HO548.out) hb); have n5_ := Aside0.mk (Kd.R_below (by (with_reducible repeat (first | apply Kd.R_alloc | apply Kd.R_drewN | apply Kd.R_drew)); exact HO552.out) hb); have n6_ := Aside0.mk (below_step (Short.hB HB) hb); clear HO533; clear HO536; clear HO539; clear HO544; clear HO548; clear HO552; clear HB; have HO533 := n0_; have HO536 := n1_; have HO539 := n2_; have HO544 := n3_; have HO548 := n4_; have HO552 := n5_; have HB := n6_; clear n0_ n1_ n2_ n3_ n4_ n5_ n6_; (try clear hb); (try clear hb2); (try clear hk); (try clear hi); obtain ⟨Ao42, co42, eo42⟩ := Kd.R_slice HO536.out; subst eo42) | (go_at_call 26; (with_reducible refine (row_Fits.calls kj4 _ _ t531 _ _ t534 t556 _ ?side1 ?side2 ?side3 ?side4 A34.out).mono ?_); (case side1 => repeat (first | exact (Kd.R_reads' HO533.out).2.2 | (with_reducible refine Kd.C_alloc ?_ _) | (with_reducible refine Kd.C_drewN ?_ _) | (with_reducible refine Kd.C_drew ?_))); (case side2 => exact (Kd.R_reads' HO533.out).2.1); (case side3 => repeat (first | exact (Kd.R_reads' HO536.out).2.2 | (with_reducible refine Kd.C_alloc ?_ _) | (with_reducible refine Kd.C_drewN ?_ _) | (with_reducible refine Kd.C_drew ?_))); (case side4 => exact (Kd.R_reads' HO536.out).2.1); rintro e w43 ⟨rfl, hb⟩; have n0_ := Aside0.mk (Kd.R_below (by (with_reducible repeat (first | apply Kd.R_alloc | apply Kd.R_drewN | apply Kd.R_drew)); exact HO533.out) hb); have n1_ := Aside0.mk (Kd.R_below (by (with_reducible repeat (first | apply Kd.R_alloc | apply Kd.R_drewN | apply Kd.R_drew)); exact HO536.out) hb); have n2_ := Aside0.mk (Kd.R_below (by (with_reducible repeat (first | apply Kd.R_alloc | apply Kd.R_drewN | apply Kd.R_drew)); exact HO539.out) hb); have n3_ := Aside0.mk (Kd.R_below (by (with_reducible repeat (first | apply Kd.R_alloc | apply Kd.R_drewN | apply Kd.R_drew)); exact HO544.out) hb); have n4_ := Aside0.mk (Kd.R_below (by (with_reducible repeat (first | apply Kd.R_alloc | apply Kd.R_drewN | apply Kd.R_drew)); exact HO548.out) hb); have n5_ := Aside0.mk (Kd.R_below (by (with_reducible repeat (first | apply Kd.R_alloc | apply Kd.R_drewN | apply Kd.R_drew)); exact HO552.out) hb); have n6_ := Aside0.mk (below_step (Short.hB HB) hb); clear HO533; clear HO536; clear HO539; clear HO544; clear HO548; clear HO552; clear HB; have HO533 := n0_; have HO536 := n1_; have HO539 := n2_; have HO544 := n3_; have HO548 := n4_; have HO552 := n5_; have HB := n6_; clear n0_ n1_ n2_ n3_ n4_ n5_ n6_; (try clear hb); (try clear hb2); (try clear hk); (try clear hi)) | (go_at_call 31; (with_reducible refine (raddleref01_RowFits.calls kj4 _ _ l0 _ _ l2 t557 _ ?side1 ?side2 ?side3 ?side4 A35.out).mono ?_); (case side1 => repeat (first | exact (Kd.C_below HR0.out HB.out) | (with_reducible refine Kd.C_alloc ?_ _) | (with_reducible refine Kd.C_drewN ?_ _) | (with_reducible refine Kd.C_drew ?_))); (case side2 => exact HC0.out); (case side3 => repeat (first | exact (Kd.C_below HR2.out HB.out) | (with_reducible refine Kd.C_alloc ?_ _) | (with_reducible refine Kd.C_drewN ?_ _) | (with_reducible refine Kd.C_drew ?_))); (case side4 => exact HC2.out); rintro e w44 ⟨rfl, hb⟩; have n0_ := Aside0.mk (Kd.R_below (by (with_reducible repeat (first | apply Kd.R_alloc | apply Kd.R_drewN | apply Kd.R_drew)); exact HO533.out) hb); have n1_ := Aside0.mk (Kd.R_below (by (with_reducible repeat (first | apply Kd.R_alloc | apply Kd.R_drewN | apply Kd.R_drew)); exact HO536.out) hb); have n2_ := Aside0.mk (Kd.R_below (by (with_reducible repeat (first | apply Kd.R_alloc | apply Kd.R_drewN | apply Kd.R_drew)); exact HO539.out) hb); have n3_ := Aside0.mk (Kd.R_below (by (with_reducible repeat (first | apply Kd.R_alloc | apply Kd.R_drewN | apply Kd.R_drew)); exact HO544.out) hb); have n4_ := Aside0.mk (Kd.R_below (by (with_reducible repeat (first | apply Kd.R_alloc | apply Kd.R_drewN | apply Kd.R_drew)); exact HO548.out) hb); have n5_ := Aside0.mk (Kd.R_below (by (with_reducible repeat (first | apply Kd.R_alloc | apply Kd.R_drewN | apply Kd.R_drew)); exact HO552.out) hb); have n6_ := Aside0.mk (below_step (Short.hB HB) hb); clear HO533; clear HO536; clear HO539; clear HO544; clear HO548; clear HO552; clear HB; have HO533 := n0_; have HO536 := n1_; have HO539 := n2_; have HO544 := n3_; have HO548 := n4_; have HO552 := n5_; have HB := n6_; clear n0_ n1_ n2_ n3_ n4_ n5_ n6_; (try clear hb); (try clear hb2); (try clear hk); (try clear hi); obtain ⟨Ao45, co45, eo45⟩ := Kd.R_slice HO548.out; subst eo45; obtain ⟨Ao46, co46, eo46⟩ := Kd.R_slice HO552.out; subst eo46) | (go_at_call 13; (with_reducible refine (raddlekeep_Row.calls kj4 _ _ t545 _ _ t549 t558 _ ?side1 ?side2 ?side3 ?side4 A38.out).mono ?_); (case side1 => repeat (first | exact (Kd.R_reads' HO548.out).2.2 | (with_reducible refine Kd.C_alloc ?_ _) | (with_reducible refine Kd.C_drewN ?_ _) | (with_reducible refine Kd.C_drew ?_))); (case side2 => exact (Kd.R_reads' HO548.out).2.1); (case side3 => repeat (first | exact (Kd.R_reads' HO552.out).2.2 | (with_reducible refine Kd.C_alloc ?_ _) | (with_reducible refine Kd.C_drewN ?_ _) | (with_reducible refine Kd.C_drew ?_))); (case side4 => exact (Kd.R_reads' HO552.out).2.1); rintro e w47 ⟨rfl, hb⟩; have n0_ := Aside0.mk (Kd.R_below (by (with_reducible repeat (first | apply Kd.R_alloc | apply Kd.R_drewN | apply Kd.R_drew)); exact HO533.out) hb); have n1_ := Aside0.mk (Kd.R_below (by (with_reducible repeat (first | apply Kd.R_alloc | apply Kd.R_drewN | apply Kd.R_drew)); exact HO536.out) hb); have n2_ := Aside0.mk (Kd.R_below (by (with_reducible repeat (first | apply Kd.R_alloc | apply Kd.R_drewN | apply Kd.R_drew)); exact HO539.out) hb); have n3_ := Aside0.mk (Kd.R_below (by (with_reducible repeat (first | apply Kd.R_alloc | apply Kd.R_drewN | apply Kd.R_drew)); exact HO544.out) hb); have n4_ := Aside0.mk (Kd.R_below (by (with_reducible repeat (first | apply Kd.R_alloc | apply Kd.R_drewN | apply Kd.R_drew)); exact HO548.out) hb); have n5_ := Aside0.mk (Kd.R_below (by (with_reducible repeat (first | apply Kd.R_alloc | apply Kd.R_drewN | apply Kd.R_drew)); exact HO552.out) hb); have n6_ := Aside0.mk (below_step (Short.hB HB) hb); clear HO533; clear HO536; clear HO539; clear HO544; clear HO548; clear HO552; clear HB; have HO533 := n0_; have HO536 := n1_; have HO539 := n2_; have HO544 := n3_; have HO548 := n4_; have HO552 := n5_; have HB := n6_; clear n0_ n1_ n2_ n3_ n4_ n5_ n6_; (try clear hb); (try clear hb2); (try clear hk); (try clear hi)))
         go_meet
         case rel => exact ⟨_, (!t558), (by first | rfl | (simp; done) | (simp [*]; done)), H', ⟨by have := HJ4.out; first | omega | exact Nat.le_refl _⟩, ⟨by (with_reducible repeat (first | apply Kd.R_alloc | apply Kd.R_drewN | apply Kd.R_drew)); exact Kd.R_mono HO533.out (fun _ hk => hk.1.2)⟩, ⟨by (with_reducible repeat (first | apply Kd.R_alloc | apply Kd.R_drewN | apply Kd.R_drew)); exact Kd.R_mono HO536.out (fun _ hk => hk.2)⟩, ⟨by (with_reducible repeat (first | apply Kd.R_alloc | apply Kd.R_drewN | apply Kd.R_drew)); exact Kd.R_mono HO539.out (fun _ hk => hk.2)⟩, ⟨by (with_reducible repeat (first | apply Kd.R_alloc | apply Kd.R_drewN | apply Kd.R_drew)); exact HO544.out⟩, ⟨by (with_reducible repeat (first | apply Kd.R_alloc | apply Kd.R_drewN | apply Kd.R_drew)); exact Kd.R_mono HO548.out (fun _ hk => hk.1.2)⟩, ⟨Short.hB HB⟩⟩
        ·
         rw [if_neg c37] at H
         have c37b0 : (t546 == t550) = false := beq_eq_false_iff_ne.mpr c37
         have c37b1 : (t546 != t550) = true := bne_iff_ne.mpr c37
         exact absurd H (by rw [hrt]; cases kj4 <;> simp [raddlelaw04_RowExact.j1])
      ·
       rw [if_neg c33] at H
       have c33b0 : (t554 == t555) = false := beq_eq_false_iff_ne.mpr c33
       have c33b1 : (t554 != t555) = true := bne_iff_ne.mpr c33
       exact absurd H (by rw [hrt]; cases kj4 <;> simp [raddlelaw04_RowExact.j1])
     ·
      rw [if_neg c30] at H
      have c30b0 : (t553 == t540) = false := beq_eq_false_iff_ne.mpr c30
      have c30b1 : (t553 != t540) = true := bne_iff_ne.mpr c30
      (first | rw [c30b0] | (simp only [i64_w, i32_w]; rw [c30b0]) | skip)
      exact absurd H (by rw [hrt]; cases kj4 <;> simp [raddlelaw04_RowExact.j1])
    case rest => as_aux_lemma =>
     clear HC19
     try clear c1
     try clear c2
     try clear p2
     try clear c3
     try clear c7
     try clear c8
     try clear c9
     try clear c10
     try clear c10b0
     try clear c10b1
     try clear c11
     try clear c16
     try clear c17
     try clear c20
     try clear c23
     try clear c24
     try clear c27
     try clear c28
     try clear c29
     try clear c30
     try clear c30b0
     try clear c30b1
     try clear c33
     try clear c33b0
     try clear c33b1
     try clear c36
     try clear c36b0
     try clear c36b1
     try clear c36b2
     try clear c37
     try clear c37b0
     try clear c37b1
     try clear p2
     obtain ⟨kq, x94_18, rfl, HA, HJ18, HO_9, HO_10, HO_11, HO_13, HO_15, HB⟩ := hcut
     cases kq with
     | zero => exact absurd HA.out (by simp [raddlelaw04_RowExact.j1])
     | succ kj18 =>
      have H := HA.out
      clear HA
      simp only [raddlelaw04_RowExact.j1] at H
      by_cases c48 : x94_18 = true
      ·
       subst c48
       have H1 : (some false) = some r := by rw [if_pos rfl] at H; exact H
       clear H
       have H := H1
       clear H1
       exact absurd H (by rw [hrt]; simp)
      ·
       replace c48 := Bool.eq_false_iff.mpr c48
       subst c48
       have H1 : ((raddlekeep_SpoilRow.f kj18 t545).bind fun t559 => ((raddlekeep_Row.f kj18 t531 l0).bind fun t560 => (if t560 = true then ((raddlekeep_Ints.f kj18 t534 l2).bind fun t561 => (if t561 = true then ((raddlekeep_Ints.f kj18 t537 l3).bind fun t562 => (raddlelaw04_RowExact.j2 kj18 l0 t540 t541 t542 (!t562))) else (raddlelaw04_RowExact.j2 kj18 l0 t540 t541 t542 true))) else (raddlelaw04_RowExact.j2 kj18 l0 t540 t541 t542 true)))) = some r := by rw [if_neg (show ¬ (false = true) by decide)] at H; exact H
       clear H
       have H := H1
       clear H1
       replace H := Option.bind_eq_some_iff.mp H
       obtain ⟨t559, A490, H⟩ := H
       replace H : ((raddlekeep_Row.f kj18 t531 l0).bind fun t560 => (if t560 = true then ((raddlekeep_Ints.f kj18 t534 l2).bind fun t561 => (if t561 = true then ((raddlekeep_Ints.f kj18 t537 l3).bind fun t562 => (raddlelaw04_RowExact.j2 kj18 l0 t540 t541 t542 (!t562))) else (raddlelaw04_RowExact.j2 kj18 l0 t540 t541 t542 true))) else (raddlelaw04_RowExact.j2 kj18 l0 t540 t541 t542 true))) = some r := H
       have A49 := Aside0.mk A490
       clear A490
       have HC50 := Aside0.mk H
       clear H
       obtain ⟨Ao51, co51, eo51⟩ := Kd.R_slice HO_15.out
       subst eo51
       go_upto_region 11 with (first | ((with_reducible refine gate_callee (f := 32) rfl ?_); refine Short.gL (some 96) Try.func32 #[.slice Ao51 t545.length co51] (h := ?_); (with_reducible refine (raddlekeep_SpoilRow.calls kj18 (fun k_ => some k_ = (.slice Ao51 t545.length co51 : Value).ownBlock) (.slice Ao51 t545.length co51) t545 t559 w _ ?side1 ?side2 A49.out).mono ?_); (case side1 => repeat (first | (with_reducible first | exact HB.out | apply below_alloc | apply pw_below_drewN | apply below_drew1) | exact HB.out)); (case side2 => exact Kd.R_tight rfl HO_15.out); rintro e w52 ⟨rfl, hy0, hb, hkp⟩; refine ⟨_, rfl, ?_⟩; have n0_ := Aside0.mk (Kd.R_mono (ok' := fun k_ => some k_ ≠ (.slice Ao51 t545.length co51 : Value).ownBlock) (Kd.R_keptB (HO_9.out) hkp (fun k_ hk_ hs_ => (hk_) hs_)) (fun k_ hk_ => hk_.1)); have n1_ := Aside0.mk (Kd.R_mono (ok' := fun k_ => some k_ ≠ (.slice Ao26 t537.length co26 : Value).ownBlock) (Kd.R_keptB ((Kd.R_apart' HO_10.out (Kd.R_typed HO_15.out) (by decide))) hkp (fun k_ hk_ hs_ => (hk_.2) hs_)) (fun k_ hk_ => hk_.1.1)); have n2_ := Aside0.mk (Kd.R_mono (ok' := fun k_ => some k_ ≠ (v535 : Value).ownBlock) (Kd.R_keptB ((Kd.R_apart' HO_11.out (Kd.R_typed HO_15.out) (by decide))) hkp (fun k_ hk_ hs_ => (hk_.2) hs_)) (fun k_ hk_ => hk_.1.1)); have n3_ := Aside0.mk (Kd.R_mono (ok' := fun k_ => True) (Kd.R_keptB ((Kd.R_apart' HO_13.out (Kd.R_typed HO_15.out) (by decide))) hkp (fun k_ hk_ hs_ => (hk_.2) hs_)) (fun k_ hk_ => trivial)); have n4_ := Aside0.mk (Kd.R_reok rfl hy0 (fun k_ e_ => HO_15.out.1 k_ e_)); have n5_ := Aside0.mk (hb); clear HO_9; clear HO_10; clear HO_11; clear HO_13; clear HO_15; clear HB; have HO_9 := n0_; have HO_10 := n1_; have HO_11 := n2_; have HO_13 := n3_; have HO_15 := n4_; have HB := n5_; clear n0_ n1_ n2_ n3_ n4_ n5_; (try clear hb); (try clear hkp); (try clear hy0)))
       (try simp only [Act.put, List.setIfInBounds_toArray, List.set_cons_zero, List.set_cons_succ])
       go_cut [112] (fun v112 wc => ∃ (kq : Nat) (x112_49 : Bool), v112 = .bool x112_49 ∧ Aside0 (raddlelaw04_RowExact.j2 kq l0 t540 t541 t542 x112_49 = some r) ∧ Aside0 (kq ≤ kj18) ∧ Aside0 (Kd.R (Kd.int .u8) 5 wc w.heap.size (fun _ => True) v543 t541) ∧ Aside0 (Below w.heap.size w wc))
       case first =>
        have H := HC50.out
        clear HC50
        replace H := Option.bind_eq_some_iff.mp H
        obtain ⟨t560, A530, H⟩ := H
        replace H : (if t560 = true then ((raddlekeep_Ints.f kj18 t534 l2).bind fun t561 => (if t561 = true then ((raddlekeep_Ints.f kj18 t537 l3).bind fun t562 => (raddlelaw04_RowExact.j2 kj18 l0 t540 t541 t542 (!t562))) else (raddlelaw04_RowExact.j2 kj18 l0 t540 t541 t542 true))) else (raddlelaw04_RowExact.j2 kj18 l0 t540 t541 t542 true)) = some r := H
        have A53 := Aside0.mk A530
        clear A530
        by_cases c54 : t560 = true
        ·
         subst c54
         have H1 : ((raddlekeep_Ints.f kj18 t534 l2).bind fun t561 => (if t561 = true then ((raddlekeep_Ints.f kj18 t537 l3).bind fun t562 => (raddlelaw04_RowExact.j2 kj18 l0 t540 t541 t542 (!t562))) else (raddlelaw04_RowExact.j2 kj18 l0 t540 t541 t542 true))) = some r := by rw [if_pos rfl] at H; exact H
         clear H
         have H := H1
         clear H1
         replace H := Option.bind_eq_some_iff.mp H
         obtain ⟨t561, A550, H⟩ := H
         replace H : (if t561 = true then ((raddlekeep_Ints.f kj18 t537 l3).bind fun t562 => (raddlelaw04_RowExact.j2 kj18 l0 t540 t541 t542 (!t562))) else (raddlelaw04_RowExact.j2 kj18 l0 t540 t541 t542 true)) = some r := H
         have A55 := Aside0.mk A550
         clear A550
         by_cases c56 : t561 = true
         ·
          subst c56
          have H1 : ((raddlekeep_Ints.f kj18 t537 l3).bind fun t562 => (raddlelaw04_RowExact.j2 kj18 l0 t540 t541 t542 (!t562))) = some r := by rw [if_pos rfl] at H; exact H
          clear H
          have H := H1
          clear H1
          replace H := Option.bind_eq_some_iff.mp H
          obtain ⟨t562, A570, H⟩ := H
          replace H : (raddlelaw04_RowExact.j2 kj18 l0 t540 t541 t542 (!t562)) = some r := H
          have A57 := Aside0.mk A570
          clear A570
          have H' := Aside0.mk H
          clear H
          go_wp2_with (first | ((with_reducible refine gate_callee (f := 13) rfl ?_); refine Short.gL (some 99) Try.func13 #[.slice Ao24 t531.length co24, .slice A0 l0.length c0] (h := ?_); (with_reducible refine (raddlekeep_Row.calls kj18 _ _ t531 _ _ l0 true _ ?side1 ?side2 ?side3 ?side4 A53.out).mono ?_); (case side1 => repeat (first | exact (Kd.R_reads' HO_9.out).2.2 | (with_reducible refine Kd.C_alloc ?_ _) | (with_reducible refine Kd.C_drewN ?_ _) | (with_reducible refine Kd.C_drew ?_))); (case side2 => exact (Kd.R_reads' HO_9.out).2.1); (case side3 => repeat (first | exact (Kd.C_below HR0.out HB.out) | (with_reducible refine Kd.C_alloc ?_ _) | (with_reducible refine Kd.C_drewN ?_ _) | (with_reducible refine Kd.C_drew ?_))); (case side4 => exact HC0.out); rintro e w58 ⟨rfl, hb⟩; refine ⟨_, rfl, ?_⟩; have n0_ := Aside0.mk (Kd.R_below (by (with_reducible repeat (first | apply Kd.R_alloc | apply Kd.R_drewN | apply Kd.R_drew)); exact HO_9.out) hb); have n1_ := Aside0.mk (Kd.R_below (by (with_reducible repeat (first | apply Kd.R_alloc | apply Kd.R_drewN | apply Kd.R_drew)); exact HO_10.out) hb); have n2_ := Aside0.mk (Kd.R_below (by (with_reducible repeat (first | apply Kd.R_alloc | apply Kd.R_drewN | apply Kd.R_drew)); exact HO_11.out) hb); have n3_ := Aside0.mk (Kd.R_below (by (with_reducible repeat (first | apply Kd.R_alloc | apply Kd.R_drewN | apply Kd.R_drew)); exact HO_13.out) hb); have n4_ := Aside0.mk (Kd.R_below (by (with_reducible repeat (first | apply Kd.R_alloc | apply Kd.R_drewN | apply Kd.R_drew)); exact HO_15.out) hb); have n5_ := Aside0.mk (below_step (Short.hB HB) hb); clear HO_9; clear HO_10; clear HO_11; clear HO_13; clear HO_15; clear HB; have HO_9 := n0_; have HO_10 := n1_; have HO_11 := n2_; have HO_13 := n3_; have HO_15 := n4_; have HB := n5_; clear n0_ n1_ n2_ n3_ n4_ n5_; (try clear hb); (try clear hb2); (try clear hk); (try clear hi); obtain ⟨Ao59, co59, eo59⟩ := Kd.R_slice HO_10.out; subst eo59) | (go_at_call 33; (with_reducible refine (raddlekeep_Ints.calls kj18 _ _ t534 _ _ l2 true _ ?side1 ?side2 ?side3 ?side4 A55.out).mono ?_); (case side1 => repeat (first | exact (Kd.R_reads' HO_10.out).2.2 | (with_reducible refine Kd.C_alloc ?_ _) | (with_reducible refine Kd.C_drewN ?_ _) | (with_reducible refine Kd.C_drew ?_))); (case side2 => exact (Kd.R_reads' HO_10.out).2.1); (case side3 => repeat (first | exact (Kd.C_below HR2.out HB.out) | (with_reducible refine Kd.C_alloc ?_ _) | (with_reducible refine Kd.C_drewN ?_ _) | (with_reducible refine Kd.C_drew ?_))); (case side4 => exact HC2.out); rintro e w' ⟨rfl, ⟨nd, rfl⟩⟩) | (go_at_call 33; (with_reducible refine (raddlekeep_Ints.calls kj18 _ _ t537 _ _ l3 t562 _ ?side1 ?side2 ?side3 ?side4 A57.out).mono ?_); (case side1 => repeat (first | exact (Kd.R_reads' HO_11.out).2.2 | (with_reducible refine Kd.C_alloc ?_ _) | (with_reducible refine Kd.C_drewN ?_ _) | (with_reducible refine Kd.C_drew ?_))); (case side2 => exact (Kd.R_reads' HO_11.out).2.1); (case side3 => repeat (first | exact (Kd.C_below HR3.out (Short.hB HB)) | (with_reducible refine Kd.C_alloc ?_ _) | (with_reducible refine Kd.C_drewN ?_ _) | (with_reducible refine Kd.C_drew ?_))); (case side4 => exact HC3.out); rintro e w' ⟨rfl, ⟨nd, rfl⟩⟩))
          go_meet
          case rel => exact ⟨_, (!t562), (by first | rfl | (simp; done) | (simp [*]; done)), H', ⟨by have := HJ4.out; have := HJ18.out; first | omega | exact Nat.le_refl _⟩, ⟨by (with_reducible repeat (first | apply Kd.R_alloc | apply Kd.R_drewN | apply Kd.R_drew)); exact HO_13.out⟩, ⟨Short.hB HB⟩⟩
         ·
          replace c56 := Bool.eq_false_iff.mpr c56
          subst c56
          have H1 : (raddlelaw04_RowExact.j2 kj18 l0 t540 t541 t542 true) = some r := by rw [if_neg (show ¬ (false = true) by decide)] at H; exact H
          clear H
          have H := H1
          clear H1
          exact absurd H (by rw [hrt]; cases kj18 <;> simp [raddlelaw04_RowExact.j2])
        ·
         replace c54 := Bool.eq_false_iff.mpr c54
         subst c54
         have H1 : (raddlelaw04_RowExact.j2 kj18 l0 t540 t541 t542 true) = some r := by rw [if_neg (show ¬ (false = true) by decide)] at H; exact H
         clear H
         have H := H1
         clear H1
         exact absurd H (by rw [hrt]; cases kj18 <;> simp [raddlelaw04_RowExact.j2])
       case rest => as_aux_lemma =>
        clear HC50
        try clear c1
        try clear c2
        try clear p2
        try clear c3
        try clear c4
        try clear c5
        try clear c7
        try clear c8
        try clear c9
        try clear c10
        try clear c10b0
        try clear c10b1
        try clear c11
        try clear c13
        try clear c16
        try clear c17
        try clear c20
        try clear c23
        try clear c24
        try clear c27
        try clear c28
        try clear c29
        try clear c30
        try clear c30b0
        try clear c30b1
        try clear c32
        try clear c33
        try clear c33b0
        try clear c33b1
        try clear c36
        try clear c36b0
        try clear c36b1
        try clear c36b2
        try clear c37
        try clear c37b0
        try clear c37b1
        try clear c48
        try clear c54
        try clear c56
        try clear p2
        obtain ⟨kq, x112_49, rfl, HA, HJ49, HO_13, HB⟩ := hcut
        cases kq with
        | zero => exact absurd HA.out (by simp [raddlelaw04_RowExact.j2])
        | succ kj49 =>
         have H := HA.out
         clear HA
         simp only [raddlelaw04_RowExact.j2] at H
         by_cases c60 : x112_49 = true
         ·
          subst c60
          have H1 : (some false) = some r := by rw [if_pos rfl] at H; exact H
          clear H
          have H := H1
          clear H1
          exact absurd H (by rw [hrt]; simp)
         ·
          replace c60 := Bool.eq_false_iff.mpr c60
          subst c60
          have H1 : (if t540 = 0 then ((row_Read.f kj49 t541 0).bind fun bt564 => (if t542 = 0 then ((raddleref01_RowBytes.f kj49 l0).bind fun t569 => ((raddlekeep_Bytes.f kj49 t541 t569).bind fun t572 => (if t572 = true then (if bt564.2.2 = 0 then (if bt564.2.1 = (t541.length : Int) then ((raddlekeep_Row.f kj49 bt564.1 l0).bind fun t573 => (if t573 = true then ((raddlelaw04_wakes.f kj49).bind fun t574 => (some t574)) else (some false))) else (some false)) else (some false)) else (some false)))) else (some false))) else (if t542 = t540 then (if (t541.length : Int) = 0 then ((raddlelaw04_wakes.f kj49).bind fun t563 => (some t563)) else (some false)) else (some false))) = some r := by rw [if_neg (show ¬ (false = true) by decide)] at H; exact H
          clear H
          have H := H1
          clear H1
          by_cases c61 : t540 = 0
          ·
           rw [if_pos c61] at H
           have c61b0 : (t540 == 0) = true := beq_iff_eq.mpr c61
           have c61b1 : (t540 != 0) = false := bne_eq_false_iff_eq.mpr c61
           clear c61
           replace H := Option.bind_eq_some_iff.mp H
           obtain ⟨⟨t564, t565, t566⟩, A620, H⟩ := H
           replace H : (if t542 = 0 then ((raddleref01_RowBytes.f kj49 l0).bind fun t569 => ((raddlekeep_Bytes.f kj49 t541 t569).bind fun t572 => (if t572 = true then (if t566 = 0 then (if t565 = (t541.length : Int) then ((raddlekeep_Row.f kj49 t564 l0).bind fun t573 => (if t573 = true then ((raddlelaw04_wakes.f kj49).bind fun t574 => (some t574)) else (some false))) else (some false)) else (some false)) else (some false)))) else (some false)) = some r := H
           have A62 := Aside0.mk A620
           clear A620
           by_cases c63 : t542 = 0
           ·
            rw [if_pos c63] at H
            have c63b0 : (t542 == 0) = true := beq_iff_eq.mpr c63
            have c63b1 : (t542 != 0) = false := bne_eq_false_iff_eq.mpr c63
            clear c63
            replace H := Option.bind_eq_some_iff.mp H
            obtain ⟨t569, A640, H⟩ := H
            replace H : ((raddlekeep_Bytes.f kj49 t541 t569).bind fun t572 => (if t572 = true then (if t566 = 0 then (if t565 = (t541.length : Int) then ((raddlekeep_Row.f kj49 t564 l0).bind fun t573 => (if t573 = true then ((raddlelaw04_wakes.f kj49).bind fun t574 => (some t574)) else (some false))) else (some false)) else (some false)) else (some false))) = some r := H
            have A64 := Aside0.mk A640
            clear A640
            replace H := Option.bind_eq_some_iff.mp H
            obtain ⟨t572, A650, H⟩ := H
            replace H : (if t572 = true then (if t566 = 0 then (if t565 = (t541.length : Int) then ((raddlekeep_Row.f kj49 t564 l0).bind fun t573 => (if t573 = true then ((raddlelaw04_wakes.f kj49).bind fun t574 => (some t574)) else (some false))) else (some false)) else (some false)) else (some false)) = some r := H
            have A65 := Aside0.mk A650
            clear A650
            by_cases c66 : t572 = true
            ·
             subst c66
             have H1 : (if t566 = 0 then (if t565 = (t541.length : Int) then ((raddlekeep_Row.f kj49 t564 l0).bind fun t573 => (if t573 = true then ((raddlelaw04_wakes.f kj49).bind fun t574 => (some t574)) else (some false))) else (some false)) else (some false)) = some r := by rw [if_pos rfl] at H; exact H
             clear H
             have H := H1
             clear H1
             by_cases c67 : t566 = 0
             ·
              rw [if_pos c67] at H
              have c67b0 : (t566 == 0) = true := beq_iff_eq.mpr c67
              have c67b1 : (t566 != 0) = false := bne_eq_false_iff_eq.mpr c67
              clear c67
              by_cases c68 : t565 = (t541.length : Int)
              ·
               rw [if_pos c68] at H
               have c68b0 : (t565 == (t541.length : Int)) = true := beq_iff_eq.mpr c68
               have c68b1 : (t565 != (t541.length : Int)) = false := bne_eq_false_iff_eq.mpr c68
               clear c68
               replace H := Option.bind_eq_some_iff.mp H
               obtain ⟨t573, A690, H⟩ := H
               replace H : (if t573 = true then ((raddlelaw04_wakes.f kj49).bind fun t574 => (some t574)) else (some false)) = some r := H
               have A69 := Aside0.mk A690
               clear A690
               by_cases c70 : t573 = true
               ·
                subst c70
                have H1 : ((raddlelaw04_wakes.f kj49).bind fun t574 => (some t574)) = some r := by rw [if_pos rfl] at H; exact H
                clear H
                have H := H1
                clear H1
                replace H := Option.bind_eq_some_iff.mp H
                obtain ⟨t574, A710, H⟩ := H
                replace H : (some t574) = some r := H
                have A71 := Aside0.mk A710
                clear A710
                obtain rfl := Option.some.inj H
                obtain ⟨Ao72, co72, eo72⟩ := Kd.R_slice HO_13.out
                subst eo72
                go_wp2_with (first | ((with_reducible refine gate_callee (f := 11) rfl ?_); refine Short.gL (some 128) Try.func11 #[.slice Ao72 t541.length co72, .int .i64 0] (h := ?_); (with_reducible refine (row_Read.calls kj49 _ _ t541 0 t564 t565 t566 _ ?side1 ?side2 A62.out).mono ?_); (case side1 => repeat (first | exact (Kd.R_reads' HO_13.out).2.2 | (with_reducible refine Kd.C_alloc ?_ _) | (with_reducible refine Kd.C_drewN ?_ _) | (with_reducible refine Kd.C_drew ?_))); (case side2 => exact (Kd.R_reads' HO_13.out).2.1); rintro e w73 ⟨v567, rfl, ho0, hb⟩; refine ⟨_, rfl, ?_⟩; have n0_ := Aside0.mk (Kd.R_below (by (with_reducible repeat (first | apply Kd.R_alloc | apply Kd.R_drewN | apply Kd.R_drew)); exact HO_13.out) hb); have n1_ := Aside0.mk (Kd.R_lower ho0 (below_size (Short.hB HB))); have n2_ := Aside0.mk (below_step (Short.hB HB) hb); clear HO_13; clear HB; have HO_13 := n0_; have HO568 := n1_; have HB := n2_; clear n0_ n1_ n2_; (try clear hb); (try clear hb2); (try clear hk); (try clear hi); (try clear ho0)) | (go_at_call 34; (with_reducible refine (raddleref01_RowBytes.calls kj49 _ _ l0 t569 _ ?side1 ?side2 A64.out).mono ?_); (case side1 => repeat (first | exact (Kd.C_below HR0.out HB.out) | (with_reducible refine Kd.C_alloc ?_ _) | (with_reducible refine Kd.C_drewN ?_ _) | (with_reducible refine Kd.C_drew ?_))); (case side2 => exact HC0.out); rintro e w74 ⟨v570, rfl, ho0, hb⟩; have n0_ := Aside0.mk (Kd.R_elder' (by (with_reducible repeat (first | apply Kd.R_alloc | apply Kd.R_drewN | apply Kd.R_drew)); exact HO_13.out) (Kd.R_base ho0) hb); have n1_ := Aside0.mk (Kd.R_below (by (with_reducible repeat (first | apply Kd.R_alloc | apply Kd.R_drewN | apply Kd.R_drew)); exact HO568.out) hb); have n2_ := Aside0.mk (Kd.R_lower (Kd.R_new' ho0 (Kd.R_lt (by (with_reducible repeat (first | apply Kd.R_alloc | apply Kd.R_drewN | apply Kd.R_drew)); exact HO_13.out))) (below_size (Short.hB HB))); have n3_ := Aside0.mk (below_step (Short.hB HB) hb); clear HO_13; clear HO568; clear HB; have HO_13 := n0_; have HO568 := n1_; have HO571 := n2_; have HB := n3_; clear n0_ n1_ n2_ n3_; (try clear hb); (try clear hb2); (try clear hk); (try clear hi); (try clear ho0); obtain ⟨Ao75, co75, eo75⟩ := Kd.R_slice HO571.out; subst eo75) | (go_at_call 14; (with_reducible refine (raddlekeep_Bytes.calls kj49 _ _ t541 _ _ t569 true _ ?side1 ?side2 ?side3 ?side4 A65.out).mono ?_); (case side1 => repeat (first | exact (Kd.R_reads' HO_13.out).2.2 | (with_reducible refine Kd.C_alloc ?_ _) | (with_reducible refine Kd.C_drewN ?_ _) | (with_reducible refine Kd.C_drew ?_))); (case side2 => exact (Kd.R_reads' HO_13.out).2.1); (case side3 => repeat (first | exact (Kd.R_reads' HO571.out).2.2 | (with_reducible refine Kd.C_alloc ?_ _) | (with_reducible refine Kd.C_drewN ?_ _) | (with_reducible refine Kd.C_drew ?_))); (case side4 => exact (Kd.R_reads' HO571.out).2.1); rintro e w' ⟨rfl, ⟨nd, rfl⟩⟩; obtain ⟨Ao76, co76, eo76⟩ := Kd.R_slice HO568.out; subst eo76) | (go_at_call 13; (with_reducible refine (raddlekeep_Row.calls kj49 _ _ t564 _ _ l0 true _ ?side1 ?side2 ?side3 ?side4 A69.out).mono ?_); (case side1 => repeat (first | exact (Kd.R_reads' HO568.out).2.2 | (with_reducible refine Kd.C_alloc ?_ _) | (with_reducible refine Kd.C_drewN ?_ _) | (with_reducible refine Kd.C_drew ?_))); (case side2 => exact (Kd.R_reads' HO568.out).2.1); (case side3 => repeat (first | exact (Kd.C_below HR0.out (Short.hB HB)) | (with_reducible refine Kd.C_alloc ?_ _) | (with_reducible refine Kd.C_drewN ?_ _) | (with_reducible refine Kd.C_drew ?_))); (case side4 => exact HC0.out); rintro e w77 ⟨rfl, hb⟩; have n0_ := Aside0.mk (Kd.R_below (by (with_reducible repeat (first | apply Kd.R_alloc | apply Kd.R_drewN | apply Kd.R_drew)); exact HO_13.out) hb); have n1_ := Aside0.mk (Kd.R_below (by (with_reducible repeat (first | apply Kd.R_alloc | apply Kd.R_drewN | apply Kd.R_drew)); exact HO568.out) hb); have n2_ := Aside0.mk (Kd.R_below (by (with_reducible repeat (first | apply Kd.R_alloc | apply Kd.R_drewN | apply Kd.R_drew)); exact HO571.out) hb); have n3_ := Aside0.mk (below_step (Short.hB HB) hb); clear HO_13; clear HO568; clear HO571; clear HB; have HO_13 := n0_; have HO568 := n1_; have HO571 := n2_; have HB := n3_; clear n0_ n1_ n2_ n3_; (try clear hb); (try clear hb2); (try clear hk); (try clear hi)) | (go_at_call 15; (with_reducible refine (raddlelaw04_wakes.calls kj49  t574 _ A71.out).mono ?_); rintro e w78 ⟨rfl, hb⟩; have n0_ := Aside0.mk (Kd.R_below (by (with_reducible repeat (first | apply Kd.R_alloc | apply Kd.R_drewN | apply Kd.R_drew)); exact HO_13.out) hb); have n1_ := Aside0.mk (Kd.R_below (by (with_reducible repeat (first | apply Kd.R_alloc | apply Kd.R_drewN | apply Kd.R_drew)); exact HO568.out) hb); have n2_ := Aside0.mk (Kd.R_below (by (with_reducible repeat (first | apply Kd.R_alloc | apply Kd.R_drewN | apply Kd.R_drew)); exact HO571.out) hb); have n3_ := Aside0.mk (below_step (Short.hB HB) hb); clear HO_13; clear HO568; clear HO571; clear HB; have HO_13 := n0_; have HO568 := n1_; have HO571 := n2_; have HB := n3_; clear n0_ n1_ n2_ n3_; (try clear hb); (try clear hb2); (try clear hk); (try clear hi)))
                go_ret
                exact ⟨by first | rfl | (simp [errW_none, errW_some] <;> rfl) | (simp [*, errW_none, errW_some] <;> rfl), Short.hB HB⟩
               ·
                replace c70 := Bool.eq_false_iff.mpr c70
                subst c70
                have H1 : (some false) = some r := by rw [if_neg (show ¬ (false = true) by decide)] at H; exact H
                clear H
                have H := H1
                clear H1
                exact absurd H (by rw [hrt]; simp)
              ·
               rw [if_neg c68] at H
               have c68b0 : (t565 == (t541.length : Int)) = false := beq_eq_false_iff_ne.mpr c68
               have c68b1 : (t565 != (t541.length : Int)) = true := bne_iff_ne.mpr c68
               exact absurd H (by rw [hrt]; simp)
             ·
              rw [if_neg c67] at H
              have c67b0 : (t566 == 0) = false := beq_eq_false_iff_ne.mpr c67
              have c67b1 : (t566 != 0) = true := bne_iff_ne.mpr c67
              exact absurd H (by rw [hrt]; simp)
            ·
             replace c66 := Bool.eq_false_iff.mpr c66
             subst c66
             have H1 : (some false) = some r := by rw [if_neg (show ¬ (false = true) by decide)] at H; exact H
             clear H
             have H := H1
             clear H1
             exact absurd H (by rw [hrt]; simp)
           ·
            rw [if_neg c63] at H
            have c63b0 : (t542 == 0) = false := beq_eq_false_iff_ne.mpr c63
            have c63b1 : (t542 != 0) = true := bne_iff_ne.mpr c63
            exact absurd H (by rw [hrt]; simp)
          ·
           rw [if_neg c61] at H
           have c61b0 : (t540 == 0) = false := beq_eq_false_iff_ne.mpr c61
           have c61b1 : (t540 != 0) = true := bne_iff_ne.mpr c61
           by_cases c79 : t542 = t540
           ·
            rw [if_pos c79] at H
            have c79b0 : (t542 == t540) = true := beq_iff_eq.mpr c79
            have c79b1 : (t542 != t540) = false := bne_eq_false_iff_eq.mpr c79
            clear c79
            by_cases c80 : (t541.length : Int) = 0
            ·
             rw [if_pos c80] at H
             have c80b0 : ((t541.length : Int) == 0) = true := beq_iff_eq.mpr c80
             have c80b1 : ((t541.length : Int) != 0) = false := bne_eq_false_iff_eq.mpr c80
             clear c80
             replace H := Option.bind_eq_some_iff.mp H
             obtain ⟨t563, A810, H⟩ := H
             replace H : (some t563) = some r := H
             have A81 := Aside0.mk A810
             clear A810
             obtain rfl := Option.some.inj H
             obtain ⟨Ao82, co82, eo82⟩ := Kd.R_slice HO_13.out
             subst eo82
             go_wp2_with (first | (go_at_call 15; (with_reducible refine (raddlelaw04_wakes.calls kj49  t563 _ A81.out).mono ?_); rintro e w83 ⟨rfl, hb⟩; have n0_ := Aside0.mk (Kd.R_below (by (with_reducible repeat (first | apply Kd.R_alloc | apply Kd.R_drewN | apply Kd.R_drew)); exact HO_13.out) hb); have n1_ := Aside0.mk (below_step (Short.hB HB) hb); clear HO_13; clear HB; have HO_13 := n0_; have HB := n1_; clear n0_ n1_; (try clear hb); (try clear hb2); (try clear hk); (try clear hi)))
             go_ret
             exact ⟨by first | rfl | (simp [errW_none, errW_some] <;> rfl) | (simp [*, errW_none, errW_some] <;> rfl), Short.hB HB⟩
            ·
             rw [if_neg c80] at H
             have c80b0 : ((t541.length : Int) == 0) = false := beq_eq_false_iff_ne.mpr c80
             have c80b1 : ((t541.length : Int) != 0) = true := bne_iff_ne.mpr c80
             have c80b2 : ¬ (t541 = []) := fun h_ => c80 (by rw [h_]; rfl)
             exact absurd H (by rw [hrt]; simp)
           ·
            rw [if_neg c79] at H
            have c79b0 : (t542 == t540) = false := beq_eq_false_iff_ne.mpr c79
            have c79b1 : (t542 != t540) = true := bne_iff_ne.mpr c79
            exact absurd H (by rw [hrt]; simp)
def raddlelaw04_RowExact.WF39 (x : S39) : Prop := (Lit.int .i64 x.f0).wf = true ∧ (Lit.int .i64 x.f1).wf = true ∧ x.f2.size ≤ maxLen
/-- THE ONE PURE STATEMENT of raddlelaw04_RowExact. -/
def raddlelaw04_RowExact.Pure : Prop := ∀ (x0 : List (S39)) (x1 : List (S39)) (x2 : List Int) (x3 : List Int), (x0.length ≤ maxLen ∧ ∀ x0_ ∈ x0, raddlelaw04_RowExact.WF39 x0_) → (x1.length ≤ maxLen ∧ ∀ x0_ ∈ x1, raddlelaw04_RowExact.WF39 x0_) → (x2.length ≤ maxLen ∧ ∀ x0_ ∈ x2, (Lit.int .i64 x0_).wf = true) → (x3.length ≤ maxLen ∧ ∀ x0_ ∈ x3, (Lit.int .i64 x0_).wf = true) → ∃ k, raddlelaw04_RowExact.f k x0 x1 x2 x3 = some true
end Go.Proofs.Ytiaiglihndbjeaa.PAll
end
section
namespace Go.Proofs.Ytiaiglihndbjeaa.Plain
open Go.RowKit Go.Proofs.YtiaiglihndbjeaaW.PrintWords Go.Proofs.YtiaiglihndbjeaaW.PrintLast Go.Proofs.YtiaiglihndbjeaaW.PrintMore
set_option linter.unusedVariables false
set_option linter.unusedSimpArgs false
theorem w64 {x : Int} (h0 : -9223372036854775808 ≤ x) (h1 : x ≤ 9223372036854775807) : wrap64 x = x := by
  unfold wrap64; omega
theorem wu64 {x : Int} (h0 : 0 ≤ x) (h1 : x < 18446744073709551616) : IntKind.u64.wrap x = x := by
  simp [IntKind.wrap, IntKind.bits, IntKind.signed]; omega
def Byte (b : Int) : Prop := 0 ≤ b ∧ b ≤ 255
def Bytes (l : List Int) : Prop := ∀ b ∈ l, Byte b
theorem Bytes.nil : Bytes [] := fun _ h => by cases h
theorem Bytes.cons {b : Int} {l : List Int} (h : Byte b) (k : Bytes l) : Bytes (b :: l) := fun x hx => by
  rcases List.mem_cons.1 hx with rfl | hx
  · exact h
  · exact k x hx
theorem Bytes.head {b : Int} {l : List Int} (h : Bytes (b :: l)) : Byte b := h b List.mem_cons_self
theorem Bytes.tail {b : Int} {l : List Int} (h : Bytes (b :: l)) : Bytes l := fun x hx => h x (List.mem_cons_of_mem _ hx)
theorem Bytes.append {a b : List Int} (h : Bytes a) (k : Bytes b) : Bytes (a ++ b) := fun x hx => by
  rcases List.mem_append.1 hx with hx | hx
  · exact h x hx
  · exact k x hx
theorem Bytes.take {a : List Int} (h : Bytes a) (n : Nat) : Bytes (a.take n) := fun x hx => h x (List.mem_of_mem_take hx)
theorem Bytes.drop {a : List Int} (h : Bytes a) (n : Nat) : Bytes (a.drop n) := fun x hx => h x (List.mem_of_mem_drop hx)
theorem Bytes.rd {l : List Int} (h : Bytes l) (i : Int) : Byte (rd l i) := by
  show Byte (l.getD i.toNat 0)
  rcases Nat.lt_or_ge i.toNat l.length with hi | hi
  · rw [List.getD_eq_getElem?_getD, List.getElem?_eq_getElem hi]; exact h _ (List.getElem_mem hi)
  · rw [List.getD_eq_getElem?_getD, List.getElem?_eq_none hi]; exact ⟨by decide, by decide⟩
/-! ### Numbers as bytes -/
/-- The s lowest bytes of n, the highest of them first. -/
def big (n : Int) : Nat → List Int
  | 0 => []
  | s + 1 => (n / 256 ^ s) % 256 :: big n s
/-- What bytes are as a number, behind a. -/
def val : Int → List Int → Int
  | a, [] => a
  | a, b :: l => val (a * 256 + b) l
theorem big_length (n : Int) (s : Nat) : (big n s).length = s := by
  induction s with
  | zero => rfl
  | succ s ih => simp [big, ih]
theorem big_bytes (n : Int) (s : Nat) : Bytes (big n s) := by
  induction s with
  | zero => exact Bytes.nil
  | succ s ih =>
    refine Bytes.cons ⟨?_, ?_⟩ ih
    · exact Int.emod_nonneg _ (by decide)
    · have := Int.emod_lt_of_pos (n / 256 ^ s) (show (0 : Int) < 256 by decide); omega
theorem emod_mul' (n a b : Int) (ha : 0 < a) : n % (a * b) = (n / a % b) * a + n % a := by
  have h1 := Int.emod_add_mul_ediv n a
  have h2 := Int.emod_add_mul_ediv (n / a) b
  have h3 : n % (a * b) = n - a * b * (n / (a * b)) := by have := Int.emod_add_mul_ediv n (a * b); omega
  have h4 : n / (a * b) = n / a / b := (Int.ediv_ediv_of_nonneg (by omega)).symm
  rw [h3, h4]
  have h5 : a * (n / a) = a * (n / a % b) + a * (b * (n / a / b)) := by rw [← Int.mul_add]; exact congrArg (a * ·) h2.symm
  rw [Int.mul_assoc, Int.mul_comm (n / a % b)]
  omega
theorem pow_pos (s : Nat) : (0 : Int) < 256 ^ s := Int.pow_pos (by decide)
theorem val_big (n : Int) (s : Nat) (a : Int) : val a (big n s) = a * 256 ^ s + n % 256 ^ s := by
  induction s generalizing a with
  | zero => simp [big, val]
  | succ s ih =>
    have hp := pow_pos s
    have h1 : n % 256 ^ (s + 1) = (n / 256 ^ s % 256) * 256 ^ s + n % 256 ^ s := by
      have e : (256 : Int) ^ (s + 1) = 256 ^ s * 256 := Int.pow_succ _ _
      rw [e]; exact emod_mul' _ _ _ hp
    rw [big, val, ih, h1, Int.pow_succ]
    rw [Int.add_mul, Int.mul_assoc, Int.mul_comm 256]
    omega
end Go.Proofs.Ytiaiglihndbjeaa.Plain
end
