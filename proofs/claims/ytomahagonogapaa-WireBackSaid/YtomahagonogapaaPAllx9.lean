-- Printed by a program of this session (wip/hp.py: the printer of the kit with hooks of our own); Lean checks it.
import Derived.Test.YtomahagonogapaaPAllx0
import Derived.Test.YtomahagonogapaaPAllx1
import Derived.Test.YtomahagonogapaaPAllx2
import Derived.Test.YtomahagonogapaaPAllx3
import Derived.Test.YtomahagonogapaaPAllx4
namespace Go.Proofs.Ytomahagonogapaa.PAll
open Go.RowKit Go.Proofs.YtomahagonogapaaW.PrintWords Go.Proofs.YtomahagonogapaaW.PrintLast Go.Proofs.YtomahagonogapaaW.PrintMore
attribute [local go_sem] max2_int min2_int max_two min_two max_three min_three max_four min_four   -- for this text's walks alone
set_option linter.unusedVariables false
set_option linter.unusedSimpArgs false

/-! ### raddlelaw01_WireBack: function 7 -/
mutual
def raddlelaw01_WireBack.j0 : Nat → List Int → List ByteArray → Int → Bool → Option (Bool)
  | 0, _, _, _, _ => none
  | k + 1, x0, x1, x2, x35 => if x35 = true then (some true) else (raddlelaw01_WireBack.l0 k x0 x1 (wrap64 (1 + (wrap64 (Int.tmod (IntKind.u64.wrap (x2)) 7)))) ([] : List Int) 0)
def raddlelaw01_WireBack.l0 : Nat → List Int → List ByteArray → Int → List Int → Int → Option (Bool)
  | 0, _, _, _, _, _ => none
  | k + 1, x0, x1, x2, x7, x8 => if x8 < (x0.length : Int) then (if 0 ≤ x8 then (if 0 ≤ (IntKind.u64.wrap (wrap64 (8 * x2))) then ((wire_Put.f k x7 (Go.bits .and .i64 (rd x0 x8) (wrap64 ((shl .i64 1 (IntKind.u64.wrap (wrap64 (8 * x2)))) - 1))) x2).bind fun bt368 => ((raddlelaw01_within.f (rd x0 x8)).bind fun t373 => ((wire_PutInt.f k bt368.1 t373).bind fun bt374 => (if bt368.2 = 0 then (if bt374.2 = 0 then (if (bt368.1.length : Int) = (wrap64 ((x7.length : Int) + x2)) then (if (bt374.1.length : Int) = (wrap64 ((bt368.1.length : Int) + 9)) then (raddlelaw01_WireBack.l0 k x0 x1 x2 bt374.1 (wrap64 (x8 + 1))) else (some false)) else (some false)) else (some false)) else (some false))))) else (none)) else (none)) else (raddlelaw01_WireBack.l1 k x0 x1 x2 x7 0)
def raddlelaw01_WireBack.l1 : Nat → List Int → List ByteArray → Int → List Int → Int → Option (Bool)
  | 0, _, _, _, _, _ => none
  | k + 1, x0, x1, x2, x7, x13 => if x13 < (x1.length : Int) then (if 0 ≤ x13 then (if ((rdOf ByteArray.empty x1 x13).size : Int) > 24 then (some true) else ((wire_PutText.f x7 (rdOf ByteArray.empty x1 x13)).bind fun bt380 => (if bt380.2 = 0 then (if (bt380.1.length : Int) = (wrap64 ((wrap64 ((x7.length : Int) + 1)) + ((rdOf ByteArray.empty x1 x13).size : Int))) then (raddlelaw01_WireBack.l1 k x0 x1 x2 bt380.1 (wrap64 (x13 + 1))) else (some false)) else (some false)))) else (none)) else (raddlelaw01_WireBack.l2 k x0 x1 x2 x7 0 0)
def raddlelaw01_WireBack.l2 : Nat → List Int → List ByteArray → Int → List Int → Int → Int → Option (Bool)
  | 0, _, _, _, _, _, _ => none
  | k + 1, x0, x1, x2, x7, x16, x17 => if x17 < (x0.length : Int) then ((wire_Get.f k x7 x16 x2).bind fun bt385 => ((wire_GetInt.f k x7 bt385.2.1).bind fun bt388 => (if bt385.2.2 = 0 then (if bt388.2.2 = 0 then (if 0 ≤ x17 then (if 0 ≤ (IntKind.u64.wrap (wrap64 (8 * x2))) then (if bt385.1 = (Go.bits .and .i64 (rd x0 x17) (wrap64 ((shl .i64 1 (IntKind.u64.wrap (wrap64 (8 * x2)))) - 1))) then ((raddlelaw01_within.f (rd x0 x17)).bind fun t393 => (if bt388.1 = t393 then (if bt385.2.1 = (wrap64 (x16 + x2)) then (if bt388.2.1 = (wrap64 (bt385.2.1 + 9)) then (raddlelaw01_WireBack.l2 k x0 x1 x2 x7 bt388.2.1 (wrap64 (x17 + 1))) else (some false)) else (some false)) else (some false))) else (some false)) else (none)) else (none)) else (some false)) else (some false)))) else (raddlelaw01_WireBack.l3 k x1 x7 x16 0)
def raddlelaw01_WireBack.l3 : Nat → List ByteArray → List Int → Int → Int → Option (Bool)
  | 0, _, _, _, _ => none
  | k + 1, x1, x7, x16, x24 => if x24 < (x1.length : Int) then ((wire_GetText.f k x7 x16).bind fun bt394 => (if bt394.2.2 = 0 then (if 0 ≤ x24 then (if bt394.1.toList = (rdOf ByteArray.empty x1 x24).toList then (if bt394.2.1 = (wrap64 ((wrap64 (x16 + 1)) + (bt394.1.size : Int))) then (raddlelaw01_WireBack.l3 k x1 x7 bt394.2.1 (wrap64 (x24 + 1))) else (some false)) else (some false)) else (none)) else (some false))) else (if x16 = (x7.length : Int) then ((raddlelaw01_wakes.f k).bind fun t398 => (some t398)) else (some false))
end
def raddlelaw01_WireBack.f (k : Nat) (l0 : List Int) (l1 : List ByteArray) (a2 : Int) : Option (Bool) := if (l0.length : Int) > 30 then (raddlelaw01_WireBack.j0 k l0 l1 a2 true) else (raddlelaw01_WireBack.j0 k l0 l1 a2 (decide ((l1.length : Int) > 30)))
theorem raddlelaw01_WireBack.mono_l : ∀ k, (∀ y0 y1 y2 y3, LeO (raddlelaw01_WireBack.j0 k y0 y1 y2 y3) (raddlelaw01_WireBack.j0 (k + 1) y0 y1 y2 y3)) ∧ (∀ y0 y1 y2 y3 y4, LeO (raddlelaw01_WireBack.l0 k y0 y1 y2 y3 y4) (raddlelaw01_WireBack.l0 (k + 1) y0 y1 y2 y3 y4)) ∧ (∀ y0 y1 y2 y3 y4, LeO (raddlelaw01_WireBack.l1 k y0 y1 y2 y3 y4) (raddlelaw01_WireBack.l1 (k + 1) y0 y1 y2 y3 y4)) ∧ (∀ y0 y1 y2 y3 y4 y5, LeO (raddlelaw01_WireBack.l2 k y0 y1 y2 y3 y4 y5) (raddlelaw01_WireBack.l2 (k + 1) y0 y1 y2 y3 y4 y5)) ∧ (∀ y0 y1 y2 y3, LeO (raddlelaw01_WireBack.l3 k y0 y1 y2 y3) (raddlelaw01_WireBack.l3 (k + 1) y0 y1 y2 y3))
  | 0 => ⟨fun _ _ _ _ r h => by simp [raddlelaw01_WireBack.j0] at h, fun _ _ _ _ _ r h => by simp [raddlelaw01_WireBack.l0] at h, fun _ _ _ _ _ r h => by simp [raddlelaw01_WireBack.l1] at h, fun _ _ _ _ _ _ r h => by simp [raddlelaw01_WireBack.l2] at h, fun _ _ _ _ r h => by simp [raddlelaw01_WireBack.l3] at h⟩
  | k + 1 => by
    obtain ⟨ih0, ih1, ih2, ih3, ih4⟩ := raddlelaw01_WireBack.mono_l k
    refine ⟨?_, ?_, ?_, ?_, ?_⟩
    · intro y0 y1 y2 y3
      unfold raddlelaw01_WireBack.j0
      repeat' first
      | (with_reducible exact ih0 _ _ _ _)
      | (with_reducible exact ih1 _ _ _ _ _)
      | (with_reducible exact ih2 _ _ _ _ _)
      | (with_reducible exact ih3 _ _ _ _ _ _)
      | (with_reducible exact ih4 _ _ _ _)
      | (with_reducible exact raddlelaw01_wakes.mono _)
      | (with_reducible exact wire_Get.mono _ _ _ _)
      | (with_reducible exact wire_GetInt.mono _ _ _)
      | (with_reducible exact wire_GetText.mono _ _ _)
      | (with_reducible exact wire_Put.mono _ _ _ _)
      | (with_reducible exact wire_PutInt.mono _ _ _)
      | (with_reducible exact LeO.refl _)
      | (with_reducible exact LeO.none _)
      | (with_reducible refine LeO.ite ?_ ?_)
      | (with_reducible refine LeO.bind ?_ (fun _ => ?_))
      | exact ih0 _ _ _ _
      | exact ih1 _ _ _ _ _
      | exact ih2 _ _ _ _ _
      | exact ih3 _ _ _ _ _ _
      | exact ih4 _ _ _ _
      | exact raddlelaw01_wakes.mono _
      | exact wire_Get.mono _ _ _ _
      | exact wire_GetInt.mono _ _ _
      | exact wire_GetText.mono _ _ _
      | exact wire_Put.mono _ _ _ _
      | exact wire_PutInt.mono _ _ _
      | exact LeO.none _
      | refine LeO.ite ?_ ?_
      | refine LeO.bind ?_ (fun _ => ?_)
    · intro y0 y1 y2 y3 y4
      unfold raddlelaw01_WireBack.l0
      repeat' first
      | (with_reducible exact ih0 _ _ _ _)
      | (with_reducible exact ih1 _ _ _ _ _)
      | (with_reducible exact ih2 _ _ _ _ _)
      | (with_reducible exact ih3 _ _ _ _ _ _)
      | (with_reducible exact ih4 _ _ _ _)
      | (with_reducible exact raddlelaw01_wakes.mono _)
      | (with_reducible exact wire_Get.mono _ _ _ _)
      | (with_reducible exact wire_GetInt.mono _ _ _)
      | (with_reducible exact wire_GetText.mono _ _ _)
      | (with_reducible exact wire_Put.mono _ _ _ _)
      | (with_reducible exact wire_PutInt.mono _ _ _)
      | (with_reducible exact LeO.refl _)
      | (with_reducible exact LeO.none _)
      | (with_reducible refine LeO.ite ?_ ?_)
      | (with_reducible refine LeO.bind ?_ (fun _ => ?_))
      | exact ih0 _ _ _ _
      | exact ih1 _ _ _ _ _
      | exact ih2 _ _ _ _ _
      | exact ih3 _ _ _ _ _ _
      | exact ih4 _ _ _ _
      | exact raddlelaw01_wakes.mono _
      | exact wire_Get.mono _ _ _ _
      | exact wire_GetInt.mono _ _ _
      | exact wire_GetText.mono _ _ _
      | exact wire_Put.mono _ _ _ _
      | exact wire_PutInt.mono _ _ _
      | exact LeO.none _
      | refine LeO.ite ?_ ?_
      | refine LeO.bind ?_ (fun _ => ?_)
    · intro y0 y1 y2 y3 y4
      unfold raddlelaw01_WireBack.l1
      repeat' first
      | (with_reducible exact ih0 _ _ _ _)
      | (with_reducible exact ih1 _ _ _ _ _)
      | (with_reducible exact ih2 _ _ _ _ _)
      | (with_reducible exact ih3 _ _ _ _ _ _)
      | (with_reducible exact ih4 _ _ _ _)
      | (with_reducible exact raddlelaw01_wakes.mono _)
      | (with_reducible exact wire_Get.mono _ _ _ _)
      | (with_reducible exact wire_GetInt.mono _ _ _)
      | (with_reducible exact wire_GetText.mono _ _ _)
      | (with_reducible exact wire_Put.mono _ _ _ _)
      | (with_reducible exact wire_PutInt.mono _ _ _)
      | (with_reducible exact LeO.refl _)
      | (with_reducible exact LeO.none _)
      | (with_reducible refine LeO.ite ?_ ?_)
      | (with_reducible refine LeO.bind ?_ (fun _ => ?_))
      | exact ih0 _ _ _ _
      | exact ih1 _ _ _ _ _
      | exact ih2 _ _ _ _ _
      | exact ih3 _ _ _ _ _ _
      | exact ih4 _ _ _ _
      | exact raddlelaw01_wakes.mono _
      | exact wire_Get.mono _ _ _ _
      | exact wire_GetInt.mono _ _ _
      | exact wire_GetText.mono _ _ _
      | exact wire_Put.mono _ _ _ _
      | exact wire_PutInt.mono _ _ _
      | exact LeO.none _
      | refine LeO.ite ?_ ?_
      | refine LeO.bind ?_ (fun _ => ?_)
    · intro y0 y1 y2 y3 y4 y5
      unfold raddlelaw01_WireBack.l2
      repeat' first
      | (with_reducible exact ih0 _ _ _ _)
      | (with_reducible exact ih1 _ _ _ _ _)
      | (with_reducible exact ih2 _ _ _ _ _)
      | (with_reducible exact ih3 _ _ _ _ _ _)
      | (with_reducible exact ih4 _ _ _ _)
      | (with_reducible exact raddlelaw01_wakes.mono _)
      | (with_reducible exact wire_Get.mono _ _ _ _)
      | (with_reducible exact wire_GetInt.mono _ _ _)
      | (with_reducible exact wire_GetText.mono _ _ _)
      | (with_reducible exact wire_Put.mono _ _ _ _)
      | (with_reducible exact wire_PutInt.mono _ _ _)
      | (with_reducible exact LeO.refl _)
      | (with_reducible exact LeO.none _)
      | (with_reducible refine LeO.ite ?_ ?_)
      | (with_reducible refine LeO.bind ?_ (fun _ => ?_))
      | exact ih0 _ _ _ _
      | exact ih1 _ _ _ _ _
      | exact ih2 _ _ _ _ _
      | exact ih3 _ _ _ _ _ _
      | exact ih4 _ _ _ _
      | exact raddlelaw01_wakes.mono _
      | exact wire_Get.mono _ _ _ _
      | exact wire_GetInt.mono _ _ _
      | exact wire_GetText.mono _ _ _
      | exact wire_Put.mono _ _ _ _
      | exact wire_PutInt.mono _ _ _
      | exact LeO.none _
      | refine LeO.ite ?_ ?_
      | refine LeO.bind ?_ (fun _ => ?_)
    · intro y0 y1 y2 y3
      unfold raddlelaw01_WireBack.l3
      repeat' first
      | (with_reducible exact ih0 _ _ _ _)
      | (with_reducible exact ih1 _ _ _ _ _)
      | (with_reducible exact ih2 _ _ _ _ _)
      | (with_reducible exact ih3 _ _ _ _ _ _)
      | (with_reducible exact ih4 _ _ _ _)
      | (with_reducible exact raddlelaw01_wakes.mono _)
      | (with_reducible exact wire_Get.mono _ _ _ _)
      | (with_reducible exact wire_GetInt.mono _ _ _)
      | (with_reducible exact wire_GetText.mono _ _ _)
      | (with_reducible exact wire_Put.mono _ _ _ _)
      | (with_reducible exact wire_PutInt.mono _ _ _)
      | (with_reducible exact LeO.refl _)
      | (with_reducible exact LeO.none _)
      | (with_reducible refine LeO.ite ?_ ?_)
      | (with_reducible refine LeO.bind ?_ (fun _ => ?_))
      | exact ih0 _ _ _ _
      | exact ih1 _ _ _ _ _
      | exact ih2 _ _ _ _ _
      | exact ih3 _ _ _ _ _ _
      | exact ih4 _ _ _ _
      | exact raddlelaw01_wakes.mono _
      | exact wire_Get.mono _ _ _ _
      | exact wire_GetInt.mono _ _ _
      | exact wire_GetText.mono _ _ _
      | exact wire_Put.mono _ _ _ _
      | exact wire_PutInt.mono _ _ _
      | exact LeO.none _
      | refine LeO.ite ?_ ?_
      | refine LeO.bind ?_ (fun _ => ?_)
theorem raddlelaw01_WireBack.mono : ∀ a0 a1 a2 k, LeO (raddlelaw01_WireBack.f k a0 a1 a2) (raddlelaw01_WireBack.f (k + 1) a0 a1 a2) := by
  intro a0 a1 a2 k
  obtain ⟨ih0, ih1, ih2, ih3, ih4⟩ := raddlelaw01_WireBack.mono_l k
  unfold raddlelaw01_WireBack.f
  repeat' first
      | (with_reducible exact ih0 _ _ _ _)
      | (with_reducible exact ih1 _ _ _ _ _)
      | (with_reducible exact ih2 _ _ _ _ _)
      | (with_reducible exact ih3 _ _ _ _ _ _)
      | (with_reducible exact ih4 _ _ _ _)
      | (with_reducible exact raddlelaw01_wakes.mono _)
      | (with_reducible exact wire_Get.mono _ _ _ _)
      | (with_reducible exact wire_GetInt.mono _ _ _)
      | (with_reducible exact wire_GetText.mono _ _ _)
      | (with_reducible exact wire_Put.mono _ _ _ _)
      | (with_reducible exact wire_PutInt.mono _ _ _)
      | (with_reducible exact LeO.refl _)
      | (with_reducible exact LeO.none _)
      | (with_reducible refine LeO.ite ?_ ?_)
      | (with_reducible refine LeO.bind ?_ (fun _ => ?_))
      | exact ih0 _ _ _ _
      | exact ih1 _ _ _ _ _
      | exact ih2 _ _ _ _ _
      | exact ih3 _ _ _ _ _ _
      | exact ih4 _ _ _ _
      | exact raddlelaw01_wakes.mono _
      | exact wire_Get.mono _ _ _ _
      | exact wire_GetInt.mono _ _ _
      | exact wire_GetText.mono _ _ _
      | exact wire_Put.mono _ _ _ _
      | exact wire_PutInt.mono _ _ _
      | exact LeO.none _
      | refine LeO.ite ?_ ?_
      | refine LeO.bind ?_ (fun _ => ?_)
set_option maxHeartbeats 8000000 in
set_option maxRecDepth 100000 in
theorem raddlelaw01_WireBack.calls (k : Nat) (A0 : Option Addr) (c0 : Nat) (l0 : List Int) (A1 : Option Addr) (c1 : Nat) (l1 : List ByteArray) (a2 : Int) (r : Bool) (w : World) (hr0 : Kd.C (Kd.int .i64) w A0 l0.length l0) (hc0 : l0.length ≤ c0) (hr1 : Kd.C Kd.string w A1 l1.length l1) (hc1 : l1.length ≤ c1) (h : raddlelaw01_WireBack.f k l0 l1 a2 = some r) :
    Calls Try.prog 7 #[.slice A0 l0.length c0, .slice A1 l1.length c1, .int .i64 a2] w fun e w' => e = .returned (.bool r) ∧ Below w.heap.size w w' := by
  have HR0 := Aside0.mk hr0
  have HC0 := Aside0.mk hc0
  clear hr0 hc0
  have HR1 := Aside0.mk hr1
  have HC1 := Aside0.mk hc1
  clear hr1 hc1
  have HB := Aside0.mk (Below.refl w.heap.size w)
  have H : (if (l0.length : Int) > 30 then (raddlelaw01_WireBack.j0 k l0 l1 a2 true) else (raddlelaw01_WireBack.j0 k l0 l1 a2 (decide ((l1.length : Int) > 30)))) = some r := h
  clear h
  have HC4 := Aside0.mk H
  clear H
  go_enter Try.func7, Try.ntmps7
  go_upto_region 1 with (fail)
  go_cut [35] (fun v35 wc => ∃ (kq : Nat) (x35_3 : Bool), v35 = .bool x35_3 ∧ Aside0 (raddlelaw01_WireBack.j0 kq l0 l1 a2 x35_3 = some r) ∧ Aside0 (kq ≤ k) ∧ Aside0 (Below w.heap.size w wc))
  case first =>
    have H := HC4.out
    clear HC4
    by_cases c5 : (l0.length : Int) > 30
    · rw [if_pos c5] at H
      have c5b0 : decide (30 < (l0.length : Int)) = true := decide_eq_true c5
      have c5b1 : decide (30 < l0.length) = true := decide_eq_true (by omega)
      clear c5
      (first | rw [c5b0] | (simp only [i64_w, i32_w]; rw [c5b0]) | skip)
      have H' := Aside0.mk H
      clear H
      go_wp2
      go_meet
      case rel => exact ⟨_, (true), (by first | rfl | (simp; done) | (simp [*]; done)), H', ⟨by first | omega | exact Nat.le_refl _⟩, ⟨by repeat (first | (with_reducible first | exact HB.out | apply below_alloc | apply pw_below_drewN | apply below_drew1) | exact HB.out)⟩⟩
    · rw [if_neg c5] at H
      have c5b0 : decide (30 < (l0.length : Int)) = false := decide_eq_false c5
      have c5b1 : decide (30 < l0.length) = false := decide_eq_false (by omega)
      clear c5
      (first | rw [c5b0] | (simp only [i64_w, i32_w]; rw [c5b0]) | skip)
      have H' := Aside0.mk H
      clear H
      go_wp2
      go_meet
      case rel => exact ⟨_, (decide ((l1.length : Int) > 30)), (by first | rfl | (simp; done) | (simp [*]; done)), H', ⟨by first | omega | exact Nat.le_refl _⟩, ⟨by repeat (first | (with_reducible first | exact HB.out | apply below_alloc | apply pw_below_drewN | apply below_drew1) | exact HB.out)⟩⟩
  case rest => as_aux_lemma =>
    clear HC4
    try clear c1
    try clear p2
    try clear c5
    try clear c5b0
    try clear c5b1
    obtain ⟨kq, x35_3, rfl, HA, HJ3, HB⟩ := hcut
    cases kq with
    | zero => exact absurd HA.out (by simp [raddlelaw01_WireBack.j0])
    | succ kj3 =>
      have H := HA.out
      clear HA
      simp only [raddlelaw01_WireBack.j0] at H
      by_cases c6 : x35_3 = true
      · subst c6
        have H1 : (some true) = some r := by rw [if_pos rfl] at H; exact H
        clear H
        have H := H1
        clear H1
        obtain rfl := Option.some.inj H
        go_wp2
        go_ret
        exact ⟨by first | rfl | (simp [errW_none, errW_some] <;> rfl) | (simp [*, errW_none, errW_some] <;> rfl), by repeat (first | (with_reducible first | exact HB.out | apply below_alloc | apply pw_below_drewN | apply below_drew1) | exact HB.out)⟩
      · replace c6 := Bool.eq_false_iff.mpr c6
        subst c6
        have H1 : (raddlelaw01_WireBack.l0 kj3 l0 l1 (wrap64 (1 + (wrap64 (Int.tmod (IntKind.u64.wrap (a2)) 7)))) ([] : List Int) 0) = some r := by rw [if_neg (show ¬ (false = true) by decide)] at H; exact H
        clear H
        have H := H1
        clear H1
        have H' := Aside0.mk H
        clear H
        go_wp2
        go_loopg [7, 8] kj3 (fun kq v7 v8 w' => ∃ (x7_2 : List Int) (x8_2 : Int), v8 = .int .i64 x8_2 ∧ Aside0 (raddlelaw01_WireBack.l0 kq l0 l1 (wrap64 (1 + (wrap64 (Int.tmod (IntKind.u64.wrap (a2)) 7)))) x7_2 x8_2 = some r) ∧ Aside0 (kq ≤ kj3) ∧ Aside0 (Kd.R (Kd.int .u8) 5 w' w.heap.size (fun _ => True) v7 x7_2) ∧ Aside0 (Below w.heap.size w w'))
        case atStart => exact ⟨(([] : List Int)), (0), (by first | rfl | (simp; done) | (simp [*]; done)), H', ⟨Nat.le_refl _⟩, ⟨by first | exact Kd.R_nil _ _ _ _ _ | exact Kd.N_nil _ _ _ _ _ | exact Kd.V_nil _ _ _ _ _ | exact Kd.Q_nil _ _ _ _ _ | exact Kd.S_nil _ _ _ _ _⟩, ⟨by repeat (first | (with_reducible first | exact HB.out | apply below_alloc | apply pw_below_drewN | apply below_drew1) | exact HB.out)⟩⟩
        case round =>
          clear H'
          try clear c1
          try clear p2
          try clear c5
          try clear c5b0
          try clear c5b1
          try clear c6
          try clear p6
          try clear p2
          obtain ⟨x7_2, x8_2, rfl, HA, HK2, HO_7, HB⟩ := hrel
          cases gk with
          | zero => exact absurd HA.out (by simp [raddlelaw01_WireBack.l0])
          | succ k2 =>
            have H := HA.out
            clear HA
            simp only [raddlelaw01_WireBack.l0] at H
            by_cases c7 : x8_2 < (l0.length : Int)
            · rw [if_pos c7] at H
              have c7b0 : decide (x8_2 < (l0.length : Int)) = true := decide_eq_true c7
              clear c7
              by_cases c8 : 0 ≤ x8_2
              · rw [if_pos c8] at H
                have c8b0 : decide (0 ≤ x8_2) = true := decide_eq_true c8
                clear c8
                obtain ⟨ji9, hji9⟩ : ∃ j_ : Int, (IntKind.u64.wrap (wrap64 (8 * (wrap64 (1 + (wrap64 (Int.tmod (IntKind.u64.wrap (a2)) 7))))))) = j_ := ⟨_, rfl⟩
                replace H : (if 0 ≤ (ji9) then ((wire_Put.f k2 x7_2 (Go.bits .and .i64 (rd l0 x8_2) (wrap64 ((shl .i64 1 (ji9)) - 1))) (wrap64 (1 + (wrap64 (Int.tmod (IntKind.u64.wrap (a2)) 7))))).bind fun bt368 => ((raddlelaw01_within.f (rd l0 x8_2)).bind fun t373 => ((wire_PutInt.f k2 bt368.1 t373).bind fun bt374 => (if bt368.2 = 0 then (if bt374.2 = 0 then (if (bt368.1.length : Int) = (wrap64 ((x7_2.length : Int) + (wrap64 (1 + (wrap64 (Int.tmod (IntKind.u64.wrap (a2)) 7)))))) then (if (bt374.1.length : Int) = (wrap64 ((bt368.1.length : Int) + 9)) then (raddlelaw01_WireBack.l0 k2 l0 l1 (wrap64 (1 + (wrap64 (Int.tmod (IntKind.u64.wrap (a2)) 7)))) bt374.1 (wrap64 (x8_2 + 1))) else (some false)) else (some false)) else (some false)) else (some false))))) else (none)) = some r := by first | (rw [hji9] at H; exact H) | (simp only [hji9] at H ⊢; exact H)
                by_cases c10 : 0 ≤ (ji9)
                · rw [if_pos c10] at H
                  have c10b0 := eq_true c10
                  have c10b1 : decide (0 ≤ (ji9)) = true := decide_eq_true c10
                  clear c10
                  obtain ⟨ji11, hji11⟩ : ∃ j_ : Int, (shl .i64 1 (ji9)) = j_ := ⟨_, rfl⟩
                  replace H : ((wire_Put.f k2 x7_2 (Go.bits .and .i64 (rd l0 x8_2) (wrap64 ((ji11) - 1))) (wrap64 (1 + (wrap64 (Int.tmod (IntKind.u64.wrap (a2)) 7))))).bind fun bt368 => ((raddlelaw01_within.f (rd l0 x8_2)).bind fun t373 => ((wire_PutInt.f k2 bt368.1 t373).bind fun bt374 => (if bt368.2 = 0 then (if bt374.2 = 0 then (if (bt368.1.length : Int) = (wrap64 ((x7_2.length : Int) + (wrap64 (1 + (wrap64 (Int.tmod (IntKind.u64.wrap (a2)) 7)))))) then (if (bt374.1.length : Int) = (wrap64 ((bt368.1.length : Int) + 9)) then (raddlelaw01_WireBack.l0 k2 l0 l1 (wrap64 (1 + (wrap64 (Int.tmod (IntKind.u64.wrap (a2)) 7)))) bt374.1 (wrap64 (x8_2 + 1))) else (some false)) else (some false)) else (some false)) else (some false))))) = some r := by first | (rw [hji11] at H; exact H) | (simp only [hji11] at H ⊢; exact H)
                  have hji11_ : (IntKind.i64.wrap (1 * 2 ^ min (ji9).toNat 64)) = ji11 := hji11
                  have hji11z : (ji9) ≤ 64 → (IntKind.i64.wrap (1 * 2 ^ (ji9).toNat)) = ji11 := shl_small hji11
                  have hji11u : (IntKind.i64.wrap (2 ^ min (ji9).toNat 64)) = ji11 := by have h_ := hji11_; rw [Int.one_mul] at h_; exact h_
                  have hji11v : (ji9) ≤ 64 → (IntKind.i64.wrap (2 ^ (ji9).toNat)) = ji11 := fun hle_ => by have h_ := hji11z hle_; rw [Int.one_mul] at h_; exact h_
                  have hji11y : (wrap64 (1 * 2 ^ min (ji9).toNat 64)) = ji11 := (i64_w _).symm.trans hji11_
                  have hji11x : (ji9) ≤ 64 → (wrap64 (1 * 2 ^ (ji9).toNat)) = ji11 := fun h_ => (i64_w _).symm.trans (hji11z h_)
                  replace H := Option.bind_eq_some_iff.mp H
                  obtain ⟨⟨t368, t369⟩, A120, H⟩ := H
                  replace H : ((raddlelaw01_within.f (rd l0 x8_2)).bind fun t373 => ((wire_PutInt.f k2 t368 t373).bind fun bt374 => (if t369 = 0 then (if bt374.2 = 0 then (if (t368.length : Int) = (wrap64 ((x7_2.length : Int) + (wrap64 (1 + (wrap64 (Int.tmod (IntKind.u64.wrap (a2)) 7)))))) then (if (bt374.1.length : Int) = (wrap64 ((t368.length : Int) + 9)) then (raddlelaw01_WireBack.l0 k2 l0 l1 (wrap64 (1 + (wrap64 (Int.tmod (IntKind.u64.wrap (a2)) 7)))) bt374.1 (wrap64 (x8_2 + 1))) else (some false)) else (some false)) else (some false)) else (some false)))) = some r := H
                  have A12 := Aside0.mk A120
                  clear A120
                  replace H := Option.bind_eq_some_iff.mp H
                  obtain ⟨t373, A130, H⟩ := H
                  replace H : ((wire_PutInt.f k2 t368 t373).bind fun bt374 => (if t369 = 0 then (if bt374.2 = 0 then (if (t368.length : Int) = (wrap64 ((x7_2.length : Int) + (wrap64 (1 + (wrap64 (Int.tmod (IntKind.u64.wrap (a2)) 7)))))) then (if (bt374.1.length : Int) = (wrap64 ((t368.length : Int) + 9)) then (raddlelaw01_WireBack.l0 k2 l0 l1 (wrap64 (1 + (wrap64 (Int.tmod (IntKind.u64.wrap (a2)) 7)))) bt374.1 (wrap64 (x8_2 + 1))) else (some false)) else (some false)) else (some false)) else (some false))) = some r := H
                  have A13 := Aside0.mk A130
                  clear A130
                  replace H := Option.bind_eq_some_iff.mp H
                  obtain ⟨⟨t374, t375⟩, A140, H⟩ := H
                  replace H : (if t369 = 0 then (if t375 = 0 then (if (t368.length : Int) = (wrap64 ((x7_2.length : Int) + (wrap64 (1 + (wrap64 (Int.tmod (IntKind.u64.wrap (a2)) 7)))))) then (if (t374.length : Int) = (wrap64 ((t368.length : Int) + 9)) then (raddlelaw01_WireBack.l0 k2 l0 l1 (wrap64 (1 + (wrap64 (Int.tmod (IntKind.u64.wrap (a2)) 7)))) t374 (wrap64 (x8_2 + 1))) else (some false)) else (some false)) else (some false)) else (some false)) = some r := H
                  have A14 := Aside0.mk A140
                  clear A140
                  by_cases c15 : t369 = 0
                  · rw [if_pos c15] at H
                    have c15b0 : (t369 == 0) = true := beq_iff_eq.mpr c15
                    have c15b1 : (t369 != 0) = false := bne_eq_false_iff_eq.mpr c15
                    clear c15
                    by_cases c16 : t375 = 0
                    · rw [if_pos c16] at H
                      have c16b0 : (t375 == 0) = true := beq_iff_eq.mpr c16
                      have c16b1 : (t375 != 0) = false := bne_eq_false_iff_eq.mpr c16
                      clear c16
                      by_cases c17 : (t368.length : Int) = (wrap64 ((x7_2.length : Int) + (wrap64 (1 + (wrap64 (Int.tmod (IntKind.u64.wrap (a2)) 7))))))
                      · rw [if_pos c17] at H
                        have c17b0 : ((t368.length : Int) == (wrap64 ((x7_2.length : Int) + (wrap64 (1 + (wrap64 (Int.tmod (IntKind.u64.wrap (a2)) 7))))))) = true := beq_iff_eq.mpr c17
                        have c17b1 : ((t368.length : Int) != (wrap64 ((x7_2.length : Int) + (wrap64 (1 + (wrap64 (Int.tmod (IntKind.u64.wrap (a2)) 7))))))) = false := bne_eq_false_iff_eq.mpr c17
                        clear c17
                        by_cases c18 : (t374.length : Int) = (wrap64 ((t368.length : Int) + 9))
                        · rw [if_pos c18] at H
                          have c18b0 : ((t374.length : Int) == (wrap64 ((t368.length : Int) + 9))) = true := beq_iff_eq.mpr c18
                          have c18b1 : ((t374.length : Int) != (wrap64 ((t368.length : Int) + 9))) = false := bne_eq_false_iff_eq.mpr c18
                          clear c18
                          have H' := Aside0.mk H
                          clear H
                          have p367 : 0 ≤ (x8_2 : Int) := of_decide_eq_true (by first | (with_reducible assumption) | assumption)
                          have q367 : x8_2 < (l0.length : Int) := of_decide_eq_true (by first | (with_reducible assumption) | assumption)
                          obtain ⟨ad367, e367, hx367_0⟩ := Kd.at_int HR0.out x8_2 p367 q367
                          cases e367
                          replace hx367_0 := (HB.out.cell (World.block_lt_of_cell? w _ hx367_0)).trans hx367_0
                          replace p367 := eq_true p367
                          replace q367 := eq_true q367
                          obtain ⟨Ao19, co19, eo19⟩ := Kd.R_slice HO_7.out
                          subst eo19
                          go_wp2_with (first | ((with_reducible refine gate_callee (f := 13) rfl ?_); refine goesL_ (some 60) rfl rfl Try.func13 (by kernel_rfl) rfl #[.slice Ao19 x7_2.length co19, .int .i64 (Go.bits .and .i64 (rd l0 x8_2) (wrap64 ((ji11) - 1))), .int .i64 (wrap64 (1 + (wrap64 (Int.tmod (IntKind.u64.wrap (a2)) 7))))] rfl (by (try simp only [List.map_toArray, List.map_cons, List.map_nil]); first | done | (simp only [hji11]; rfl) | rfl | (simp only [List.length_drop, List.length_take]; rfl)) ?_; (with_reducible refine (wire_Put.calls k2 _ _ x7_2 (Go.bits .and .i64 (rd l0 x8_2) (wrap64 ((ji11) - 1))) (wrap64 (1 + (wrap64 (Int.tmod (IntKind.u64.wrap (a2)) 7)))) t368 t369 _ ?side1 ?side2 A12.out).mono ?_); (case side1 => repeat (first | exact (Kd.R_reads' HO_7.out).2.2 | (with_reducible refine Kd.C_alloc ?_ _) | (with_reducible refine Kd.C_drewN ?_ _) | (with_reducible refine Kd.C_drew ?_))); (case side2 => exact (Kd.R_reads' HO_7.out).2.1); rintro e w20 ⟨v370, rfl, ho0, hb⟩; refine ⟨_, rfl, ?_⟩; have n0_ := Aside0.mk (Kd.R_elder' (by (with_reducible repeat (first | apply Kd.R_alloc | apply Kd.R_drewN | apply Kd.R_drew)); exact HO_7.out) (Kd.R_base ho0) hb); have n1_ := Aside0.mk (Kd.R_lower (Kd.R_new' ho0 (Kd.R_lt (by (with_reducible repeat (first | apply Kd.R_alloc | apply Kd.R_drewN | apply Kd.R_drew)); exact HO_7.out))) (below_size (by repeat (first | (with_reducible first | exact HB.out | apply below_alloc | apply pw_below_drewN | apply below_drew1) | exact HB.out)))); have n2_ := Aside0.mk (below_step (by repeat (first | (with_reducible first | exact HB.out | apply below_alloc | apply pw_below_drewN | apply below_drew1) | exact HB.out)) hb); clear HO_7; clear HB; have HO_7 := n0_; have HO371 := n1_; have HB := n2_; clear n0_ n1_ n2_; (try clear hb); (try clear hb2); (try clear hk); (try clear hi); (try clear ho0); have p372 : 0 ≤ (x8_2 : Int) := of_decide_eq_true (by first | (with_reducible assumption) | assumption); have q372 : x8_2 < (l0.length : Int) := of_decide_eq_true (by first | (with_reducible assumption) | assumption); obtain ⟨ad372, e372, hx372_0⟩ := Kd.at_int HR0.out x8_2 p372 q372; obtain rfl : ad367 = ad372 := (by injection e372); replace hx372_0 := (HB.out.cell (World.block_lt_of_cell? w _ hx372_0)).trans hx372_0; replace p372 := eq_true p372; replace q372 := eq_true q372) | ((with_reducible refine gate_callee (f := 10) rfl ?_); refine goesL_ (some 69) rfl rfl Try.func10 (by kernel_rfl) rfl #[.int .i64 (rd l0 x8_2)] rfl (by (try simp only [List.map_toArray, List.map_cons, List.map_nil]); first | done | rfl | (simp only [List.length_drop, List.length_take]; rfl)) ?_; (with_reducible refine (raddlelaw01_within.calls (rd l0 x8_2) t373 _ A13.out).mono ?_); rintro e w' ⟨rfl, ⟨nd, rfl⟩⟩; refine ⟨_, rfl, ?_⟩; obtain ⟨Ao21, co21, eo21⟩ := Kd.R_slice HO371.out; subst eo21) | ((with_reducible refine gate_callee (f := 9) rfl ?_); refine goesL_ (some 70) rfl rfl Try.func9 (by kernel_rfl) rfl #[.slice Ao21 t368.length co21, .int .i64 t373] rfl (by (try simp only [List.map_toArray, List.map_cons, List.map_nil]); first | done | rfl | (simp only [List.length_drop, List.length_take]; rfl)) ?_; (with_reducible refine (wire_PutInt.calls k2 _ _ t368 t373 t374 t375 _ ?side1 ?side2 A14.out).mono ?_); (case side1 => repeat (first | exact (Kd.R_reads' HO371.out).2.2 | (with_reducible refine Kd.C_alloc ?_ _) | (with_reducible refine Kd.C_drewN ?_ _) | (with_reducible refine Kd.C_drew ?_))); (case side2 => exact (Kd.R_reads' HO371.out).2.1); rintro e w22 ⟨v376, rfl, ho0, hb⟩; refine ⟨_, rfl, ?_⟩; have n0_ := Aside0.mk (Kd.R_elder' (by (with_reducible repeat (first | apply Kd.R_alloc | apply Kd.R_drewN | apply Kd.R_drew)); exact HO_7.out) (Kd.R_base ho0) hb); have n1_ := Aside0.mk (Kd.R_elder' (by (with_reducible repeat (first | apply Kd.R_alloc | apply Kd.R_drewN | apply Kd.R_drew)); exact HO371.out) (Kd.R_base ho0) hb); have n2_ := Aside0.mk (Kd.R_lower (Kd.R_new' (Kd.R_new' ho0 (Kd.R_lt (by (with_reducible repeat (first | apply Kd.R_alloc | apply Kd.R_drewN | apply Kd.R_drew)); exact HO_7.out))) (Kd.R_lt (by (with_reducible repeat (first | apply Kd.R_alloc | apply Kd.R_drewN | apply Kd.R_drew)); exact HO371.out))) (below_size (by repeat (first | (with_reducible first | exact HB.out | apply below_alloc | apply pw_below_drewN | apply below_drew1) | exact HB.out)))); have n3_ := Aside0.mk (below_step (by repeat (first | (with_reducible first | exact HB.out | apply below_alloc | apply pw_below_drewN | apply below_drew1) | exact HB.out)) hb); clear HO_7; clear HO371; clear HB; have HO_7 := n0_; have HO371 := n1_; have HO377 := n2_; have HB := n3_; clear n0_ n1_ n2_ n3_; (try clear hb); (try clear hb2); (try clear hk); (try clear hi); (try clear ho0); obtain ⟨Ao23, co23, eo23⟩ := Kd.R_slice HO377.out; subst eo23))
                          go_roundg k2
                          case measure => have := HJ3.out; have := HK2.out; omega
                          case rel => exact ⟨(t374), (wrap64 (x8_2 + 1)), (by first | rfl | (simp; done) | (simp [*]; done)), H', ⟨by have := HJ3.out; have := HK2.out; omega⟩, ⟨by (with_reducible repeat (first | apply Kd.R_alloc | apply Kd.R_drewN | apply Kd.R_drew)); exact Kd.R_mono HO377.out (fun _ hk => trivial)⟩, ⟨by repeat (first | (with_reducible first | exact HB.out | apply below_alloc | apply pw_below_drewN | apply below_drew1) | exact HB.out)⟩⟩
                        · rw [if_neg c18] at H
                          have c18b0 : ((t374.length : Int) == (wrap64 ((t368.length : Int) + 9))) = false := beq_eq_false_iff_ne.mpr c18
                          have c18b1 : ((t374.length : Int) != (wrap64 ((t368.length : Int) + 9))) = true := bne_iff_ne.mpr c18
                          obtain rfl := Option.some.inj H
                          have p367 : 0 ≤ (x8_2 : Int) := of_decide_eq_true (by first | (with_reducible assumption) | assumption)
                          have q367 : x8_2 < (l0.length : Int) := of_decide_eq_true (by first | (with_reducible assumption) | assumption)
                          obtain ⟨ad367, e367, hx367_0⟩ := Kd.at_int HR0.out x8_2 p367 q367
                          cases e367
                          replace hx367_0 := (HB.out.cell (World.block_lt_of_cell? w _ hx367_0)).trans hx367_0
                          replace p367 := eq_true p367
                          replace q367 := eq_true q367
                          obtain ⟨Ao24, co24, eo24⟩ := Kd.R_slice HO_7.out
                          subst eo24
                          go_wp2_with (first | ((with_reducible refine gate_callee (f := 13) rfl ?_); refine goesL_ (some 60) rfl rfl Try.func13 (by kernel_rfl) rfl #[.slice Ao24 x7_2.length co24, .int .i64 (Go.bits .and .i64 (rd l0 x8_2) (wrap64 ((ji11) - 1))), .int .i64 (wrap64 (1 + (wrap64 (Int.tmod (IntKind.u64.wrap (a2)) 7))))] rfl (by (try simp only [List.map_toArray, List.map_cons, List.map_nil]); first | done | (simp only [hji11]; rfl) | rfl | (simp only [List.length_drop, List.length_take]; rfl)) ?_; (with_reducible refine (wire_Put.calls k2 _ _ x7_2 (Go.bits .and .i64 (rd l0 x8_2) (wrap64 ((ji11) - 1))) (wrap64 (1 + (wrap64 (Int.tmod (IntKind.u64.wrap (a2)) 7)))) t368 t369 _ ?side1 ?side2 A12.out).mono ?_); (case side1 => repeat (first | exact (Kd.R_reads' HO_7.out).2.2 | (with_reducible refine Kd.C_alloc ?_ _) | (with_reducible refine Kd.C_drewN ?_ _) | (with_reducible refine Kd.C_drew ?_))); (case side2 => exact (Kd.R_reads' HO_7.out).2.1); rintro e w25 ⟨v370, rfl, ho0, hb⟩; refine ⟨_, rfl, ?_⟩; have n0_ := Aside0.mk (Kd.R_elder' (by (with_reducible repeat (first | apply Kd.R_alloc | apply Kd.R_drewN | apply Kd.R_drew)); exact HO_7.out) (Kd.R_base ho0) hb); have n1_ := Aside0.mk (Kd.R_lower (Kd.R_new' ho0 (Kd.R_lt (by (with_reducible repeat (first | apply Kd.R_alloc | apply Kd.R_drewN | apply Kd.R_drew)); exact HO_7.out))) (below_size (by repeat (first | (with_reducible first | exact HB.out | apply below_alloc | apply pw_below_drewN | apply below_drew1) | exact HB.out)))); have n2_ := Aside0.mk (below_step (by repeat (first | (with_reducible first | exact HB.out | apply below_alloc | apply pw_below_drewN | apply below_drew1) | exact HB.out)) hb); clear HO_7; clear HB; have HO_7 := n0_; have HO371 := n1_; have HB := n2_; clear n0_ n1_ n2_; (try clear hb); (try clear hb2); (try clear hk); (try clear hi); (try clear ho0); have p372 : 0 ≤ (x8_2 : Int) := of_decide_eq_true (by first | (with_reducible assumption) | assumption); have q372 : x8_2 < (l0.length : Int) := of_decide_eq_true (by first | (with_reducible assumption) | assumption); obtain ⟨ad372, e372, hx372_0⟩ := Kd.at_int HR0.out x8_2 p372 q372; obtain rfl : ad367 = ad372 := (by injection e372); replace hx372_0 := (HB.out.cell (World.block_lt_of_cell? w _ hx372_0)).trans hx372_0; replace p372 := eq_true p372; replace q372 := eq_true q372) | ((with_reducible refine gate_callee (f := 10) rfl ?_); refine goesL_ (some 69) rfl rfl Try.func10 (by kernel_rfl) rfl #[.int .i64 (rd l0 x8_2)] rfl (by (try simp only [List.map_toArray, List.map_cons, List.map_nil]); first | done | rfl | (simp only [List.length_drop, List.length_take]; rfl)) ?_; (with_reducible refine (raddlelaw01_within.calls (rd l0 x8_2) t373 _ A13.out).mono ?_); rintro e w' ⟨rfl, ⟨nd, rfl⟩⟩; refine ⟨_, rfl, ?_⟩; obtain ⟨Ao26, co26, eo26⟩ := Kd.R_slice HO371.out; subst eo26) | ((with_reducible refine gate_callee (f := 9) rfl ?_); refine goesL_ (some 70) rfl rfl Try.func9 (by kernel_rfl) rfl #[.slice Ao26 t368.length co26, .int .i64 t373] rfl (by (try simp only [List.map_toArray, List.map_cons, List.map_nil]); first | done | rfl | (simp only [List.length_drop, List.length_take]; rfl)) ?_; (with_reducible refine (wire_PutInt.calls k2 _ _ t368 t373 t374 t375 _ ?side1 ?side2 A14.out).mono ?_); (case side1 => repeat (first | exact (Kd.R_reads' HO371.out).2.2 | (with_reducible refine Kd.C_alloc ?_ _) | (with_reducible refine Kd.C_drewN ?_ _) | (with_reducible refine Kd.C_drew ?_))); (case side2 => exact (Kd.R_reads' HO371.out).2.1); rintro e w27 ⟨v376, rfl, ho0, hb⟩; refine ⟨_, rfl, ?_⟩; have n0_ := Aside0.mk (Kd.R_elder' (by (with_reducible repeat (first | apply Kd.R_alloc | apply Kd.R_drewN | apply Kd.R_drew)); exact HO_7.out) (Kd.R_base ho0) hb); have n1_ := Aside0.mk (Kd.R_elder' (by (with_reducible repeat (first | apply Kd.R_alloc | apply Kd.R_drewN | apply Kd.R_drew)); exact HO371.out) (Kd.R_base ho0) hb); have n2_ := Aside0.mk (Kd.R_lower (Kd.R_new' (Kd.R_new' ho0 (Kd.R_lt (by (with_reducible repeat (first | apply Kd.R_alloc | apply Kd.R_drewN | apply Kd.R_drew)); exact HO_7.out))) (Kd.R_lt (by (with_reducible repeat (first | apply Kd.R_alloc | apply Kd.R_drewN | apply Kd.R_drew)); exact HO371.out))) (below_size (by repeat (first | (with_reducible first | exact HB.out | apply below_alloc | apply pw_below_drewN | apply below_drew1) | exact HB.out)))); have n3_ := Aside0.mk (below_step (by repeat (first | (with_reducible first | exact HB.out | apply below_alloc | apply pw_below_drewN | apply below_drew1) | exact HB.out)) hb); clear HO_7; clear HO371; clear HB; have HO_7 := n0_; have HO371 := n1_; have HO377 := n2_; have HB := n3_; clear n0_ n1_ n2_ n3_; (try clear hb); (try clear hb2); (try clear hk); (try clear hi); (try clear ho0); obtain ⟨Ao28, co28, eo28⟩ := Kd.R_slice HO377.out; subst eo28))
                          go_ret
                          exact ⟨by first | rfl | (simp [errW_none, errW_some] <;> rfl) | (simp only [← hji9, ← hji11]; first | rfl | (simp [errW_none, errW_some] <;> rfl)) | (simp [*, errW_none, errW_some] <;> rfl), by repeat (first | (with_reducible first | exact HB.out | apply below_alloc | apply pw_below_drewN | apply below_drew1) | exact HB.out)⟩
                      · rw [if_neg c17] at H
                        have c17b0 : ((t368.length : Int) == (wrap64 ((x7_2.length : Int) + (wrap64 (1 + (wrap64 (Int.tmod (IntKind.u64.wrap (a2)) 7))))))) = false := beq_eq_false_iff_ne.mpr c17
                        have c17b1 : ((t368.length : Int) != (wrap64 ((x7_2.length : Int) + (wrap64 (1 + (wrap64 (Int.tmod (IntKind.u64.wrap (a2)) 7))))))) = true := bne_iff_ne.mpr c17
                        obtain rfl := Option.some.inj H
                        have p367 : 0 ≤ (x8_2 : Int) := of_decide_eq_true (by first | (with_reducible assumption) | assumption)
                        have q367 : x8_2 < (l0.length : Int) := of_decide_eq_true (by first | (with_reducible assumption) | assumption)
                        obtain ⟨ad367, e367, hx367_0⟩ := Kd.at_int HR0.out x8_2 p367 q367
                        cases e367
                        replace hx367_0 := (HB.out.cell (World.block_lt_of_cell? w _ hx367_0)).trans hx367_0
                        replace p367 := eq_true p367
                        replace q367 := eq_true q367
                        obtain ⟨Ao29, co29, eo29⟩ := Kd.R_slice HO_7.out
                        subst eo29
                        go_wp2_with (first | ((with_reducible refine gate_callee (f := 13) rfl ?_); refine goesL_ (some 60) rfl rfl Try.func13 (by kernel_rfl) rfl #[.slice Ao29 x7_2.length co29, .int .i64 (Go.bits .and .i64 (rd l0 x8_2) (wrap64 ((ji11) - 1))), .int .i64 (wrap64 (1 + (wrap64 (Int.tmod (IntKind.u64.wrap (a2)) 7))))] rfl (by (try simp only [List.map_toArray, List.map_cons, List.map_nil]); first | done | (simp only [hji11]; rfl) | rfl | (simp only [List.length_drop, List.length_take]; rfl)) ?_; (with_reducible refine (wire_Put.calls k2 _ _ x7_2 (Go.bits .and .i64 (rd l0 x8_2) (wrap64 ((ji11) - 1))) (wrap64 (1 + (wrap64 (Int.tmod (IntKind.u64.wrap (a2)) 7)))) t368 t369 _ ?side1 ?side2 A12.out).mono ?_); (case side1 => repeat (first | exact (Kd.R_reads' HO_7.out).2.2 | (with_reducible refine Kd.C_alloc ?_ _) | (with_reducible refine Kd.C_drewN ?_ _) | (with_reducible refine Kd.C_drew ?_))); (case side2 => exact (Kd.R_reads' HO_7.out).2.1); rintro e w30 ⟨v370, rfl, ho0, hb⟩; refine ⟨_, rfl, ?_⟩; have n0_ := Aside0.mk (Kd.R_elder' (by (with_reducible repeat (first | apply Kd.R_alloc | apply Kd.R_drewN | apply Kd.R_drew)); exact HO_7.out) (Kd.R_base ho0) hb); have n1_ := Aside0.mk (Kd.R_lower (Kd.R_new' ho0 (Kd.R_lt (by (with_reducible repeat (first | apply Kd.R_alloc | apply Kd.R_drewN | apply Kd.R_drew)); exact HO_7.out))) (below_size (by repeat (first | (with_reducible first | exact HB.out | apply below_alloc | apply pw_below_drewN | apply below_drew1) | exact HB.out)))); have n2_ := Aside0.mk (below_step (by repeat (first | (with_reducible first | exact HB.out | apply below_alloc | apply pw_below_drewN | apply below_drew1) | exact HB.out)) hb); clear HO_7; clear HB; have HO_7 := n0_; have HO371 := n1_; have HB := n2_; clear n0_ n1_ n2_; (try clear hb); (try clear hb2); (try clear hk); (try clear hi); (try clear ho0); have p372 : 0 ≤ (x8_2 : Int) := of_decide_eq_true (by first | (with_reducible assumption) | assumption); have q372 : x8_2 < (l0.length : Int) := of_decide_eq_true (by first | (with_reducible assumption) | assumption); obtain ⟨ad372, e372, hx372_0⟩ := Kd.at_int HR0.out x8_2 p372 q372; obtain rfl : ad367 = ad372 := (by injection e372); replace hx372_0 := (HB.out.cell (World.block_lt_of_cell? w _ hx372_0)).trans hx372_0; replace p372 := eq_true p372; replace q372 := eq_true q372) | ((with_reducible refine gate_callee (f := 10) rfl ?_); refine goesL_ (some 69) rfl rfl Try.func10 (by kernel_rfl) rfl #[.int .i64 (rd l0 x8_2)] rfl (by (try simp only [List.map_toArray, List.map_cons, List.map_nil]); first | done | rfl | (simp only [List.length_drop, List.length_take]; rfl)) ?_; (with_reducible refine (raddlelaw01_within.calls (rd l0 x8_2) t373 _ A13.out).mono ?_); rintro e w' ⟨rfl, ⟨nd, rfl⟩⟩; refine ⟨_, rfl, ?_⟩; obtain ⟨Ao31, co31, eo31⟩ := Kd.R_slice HO371.out; subst eo31) | ((with_reducible refine gate_callee (f := 9) rfl ?_); refine goesL_ (some 70) rfl rfl Try.func9 (by kernel_rfl) rfl #[.slice Ao31 t368.length co31, .int .i64 t373] rfl (by (try simp only [List.map_toArray, List.map_cons, List.map_nil]); first | done | rfl | (simp only [List.length_drop, List.length_take]; rfl)) ?_; (with_reducible refine (wire_PutInt.calls k2 _ _ t368 t373 t374 t375 _ ?side1 ?side2 A14.out).mono ?_); (case side1 => repeat (first | exact (Kd.R_reads' HO371.out).2.2 | (with_reducible refine Kd.C_alloc ?_ _) | (with_reducible refine Kd.C_drewN ?_ _) | (with_reducible refine Kd.C_drew ?_))); (case side2 => exact (Kd.R_reads' HO371.out).2.1); rintro e w32 ⟨v376, rfl, ho0, hb⟩; refine ⟨_, rfl, ?_⟩; have n0_ := Aside0.mk (Kd.R_elder' (by (with_reducible repeat (first | apply Kd.R_alloc | apply Kd.R_drewN | apply Kd.R_drew)); exact HO_7.out) (Kd.R_base ho0) hb); have n1_ := Aside0.mk (Kd.R_elder' (by (with_reducible repeat (first | apply Kd.R_alloc | apply Kd.R_drewN | apply Kd.R_drew)); exact HO371.out) (Kd.R_base ho0) hb); have n2_ := Aside0.mk (Kd.R_lower (Kd.R_new' (Kd.R_new' ho0 (Kd.R_lt (by (with_reducible repeat (first | apply Kd.R_alloc | apply Kd.R_drewN | apply Kd.R_drew)); exact HO_7.out))) (Kd.R_lt (by (with_reducible repeat (first | apply Kd.R_alloc | apply Kd.R_drewN | apply Kd.R_drew)); exact HO371.out))) (below_size (by repeat (first | (with_reducible first | exact HB.out | apply below_alloc | apply pw_below_drewN | apply below_drew1) | exact HB.out)))); have n3_ := Aside0.mk (below_step (by repeat (first | (with_reducible first | exact HB.out | apply below_alloc | apply pw_below_drewN | apply below_drew1) | exact HB.out)) hb); clear HO_7; clear HO371; clear HB; have HO_7 := n0_; have HO371 := n1_; have HO377 := n2_; have HB := n3_; clear n0_ n1_ n2_ n3_; (try clear hb); (try clear hb2); (try clear hk); (try clear hi); (try clear ho0)))
                        go_ret
                        exact ⟨by first | rfl | (simp [errW_none, errW_some] <;> rfl) | (simp only [← hji9, ← hji11]; first | rfl | (simp [errW_none, errW_some] <;> rfl)) | (simp [*, errW_none, errW_some] <;> rfl), by repeat (first | (with_reducible first | exact HB.out | apply below_alloc | apply pw_below_drewN | apply below_drew1) | exact HB.out)⟩
                    · rw [if_neg c16] at H
                      have c16b0 : (t375 == 0) = false := beq_eq_false_iff_ne.mpr c16
                      have c16b1 : (t375 != 0) = true := bne_iff_ne.mpr c16
                      obtain rfl := Option.some.inj H
                      have p367 : 0 ≤ (x8_2 : Int) := of_decide_eq_true (by first | (with_reducible assumption) | assumption)
                      have q367 : x8_2 < (l0.length : Int) := of_decide_eq_true (by first | (with_reducible assumption) | assumption)
                      obtain ⟨ad367, e367, hx367_0⟩ := Kd.at_int HR0.out x8_2 p367 q367
                      cases e367
                      replace hx367_0 := (HB.out.cell (World.block_lt_of_cell? w _ hx367_0)).trans hx367_0
                      replace p367 := eq_true p367
                      replace q367 := eq_true q367
                      obtain ⟨Ao33, co33, eo33⟩ := Kd.R_slice HO_7.out
                      subst eo33
                      go_wp2_with (first | ((with_reducible refine gate_callee (f := 13) rfl ?_); refine goesL_ (some 60) rfl rfl Try.func13 (by kernel_rfl) rfl #[.slice Ao33 x7_2.length co33, .int .i64 (Go.bits .and .i64 (rd l0 x8_2) (wrap64 ((ji11) - 1))), .int .i64 (wrap64 (1 + (wrap64 (Int.tmod (IntKind.u64.wrap (a2)) 7))))] rfl (by (try simp only [List.map_toArray, List.map_cons, List.map_nil]); first | done | (simp only [hji11]; rfl) | rfl | (simp only [List.length_drop, List.length_take]; rfl)) ?_; (with_reducible refine (wire_Put.calls k2 _ _ x7_2 (Go.bits .and .i64 (rd l0 x8_2) (wrap64 ((ji11) - 1))) (wrap64 (1 + (wrap64 (Int.tmod (IntKind.u64.wrap (a2)) 7)))) t368 t369 _ ?side1 ?side2 A12.out).mono ?_); (case side1 => repeat (first | exact (Kd.R_reads' HO_7.out).2.2 | (with_reducible refine Kd.C_alloc ?_ _) | (with_reducible refine Kd.C_drewN ?_ _) | (with_reducible refine Kd.C_drew ?_))); (case side2 => exact (Kd.R_reads' HO_7.out).2.1); rintro e w34 ⟨v370, rfl, ho0, hb⟩; refine ⟨_, rfl, ?_⟩; have n0_ := Aside0.mk (Kd.R_elder' (by (with_reducible repeat (first | apply Kd.R_alloc | apply Kd.R_drewN | apply Kd.R_drew)); exact HO_7.out) (Kd.R_base ho0) hb); have n1_ := Aside0.mk (Kd.R_lower (Kd.R_new' ho0 (Kd.R_lt (by (with_reducible repeat (first | apply Kd.R_alloc | apply Kd.R_drewN | apply Kd.R_drew)); exact HO_7.out))) (below_size (by repeat (first | (with_reducible first | exact HB.out | apply below_alloc | apply pw_below_drewN | apply below_drew1) | exact HB.out)))); have n2_ := Aside0.mk (below_step (by repeat (first | (with_reducible first | exact HB.out | apply below_alloc | apply pw_below_drewN | apply below_drew1) | exact HB.out)) hb); clear HO_7; clear HB; have HO_7 := n0_; have HO371 := n1_; have HB := n2_; clear n0_ n1_ n2_; (try clear hb); (try clear hb2); (try clear hk); (try clear hi); (try clear ho0); have p372 : 0 ≤ (x8_2 : Int) := of_decide_eq_true (by first | (with_reducible assumption) | assumption); have q372 : x8_2 < (l0.length : Int) := of_decide_eq_true (by first | (with_reducible assumption) | assumption); obtain ⟨ad372, e372, hx372_0⟩ := Kd.at_int HR0.out x8_2 p372 q372; obtain rfl : ad367 = ad372 := (by injection e372); replace hx372_0 := (HB.out.cell (World.block_lt_of_cell? w _ hx372_0)).trans hx372_0; replace p372 := eq_true p372; replace q372 := eq_true q372) | ((with_reducible refine gate_callee (f := 10) rfl ?_); refine goesL_ (some 69) rfl rfl Try.func10 (by kernel_rfl) rfl #[.int .i64 (rd l0 x8_2)] rfl (by (try simp only [List.map_toArray, List.map_cons, List.map_nil]); first | done | rfl | (simp only [List.length_drop, List.length_take]; rfl)) ?_; (with_reducible refine (raddlelaw01_within.calls (rd l0 x8_2) t373 _ A13.out).mono ?_); rintro e w' ⟨rfl, ⟨nd, rfl⟩⟩; refine ⟨_, rfl, ?_⟩; obtain ⟨Ao35, co35, eo35⟩ := Kd.R_slice HO371.out; subst eo35) | ((with_reducible refine gate_callee (f := 9) rfl ?_); refine goesL_ (some 70) rfl rfl Try.func9 (by kernel_rfl) rfl #[.slice Ao35 t368.length co35, .int .i64 t373] rfl (by (try simp only [List.map_toArray, List.map_cons, List.map_nil]); first | done | rfl | (simp only [List.length_drop, List.length_take]; rfl)) ?_; (with_reducible refine (wire_PutInt.calls k2 _ _ t368 t373 t374 t375 _ ?side1 ?side2 A14.out).mono ?_); (case side1 => repeat (first | exact (Kd.R_reads' HO371.out).2.2 | (with_reducible refine Kd.C_alloc ?_ _) | (with_reducible refine Kd.C_drewN ?_ _) | (with_reducible refine Kd.C_drew ?_))); (case side2 => exact (Kd.R_reads' HO371.out).2.1); rintro e w36 ⟨v376, rfl, ho0, hb⟩; refine ⟨_, rfl, ?_⟩; have n0_ := Aside0.mk (Kd.R_elder' (by (with_reducible repeat (first | apply Kd.R_alloc | apply Kd.R_drewN | apply Kd.R_drew)); exact HO_7.out) (Kd.R_base ho0) hb); have n1_ := Aside0.mk (Kd.R_elder' (by (with_reducible repeat (first | apply Kd.R_alloc | apply Kd.R_drewN | apply Kd.R_drew)); exact HO371.out) (Kd.R_base ho0) hb); have n2_ := Aside0.mk (Kd.R_lower (Kd.R_new' (Kd.R_new' ho0 (Kd.R_lt (by (with_reducible repeat (first | apply Kd.R_alloc | apply Kd.R_drewN | apply Kd.R_drew)); exact HO_7.out))) (Kd.R_lt (by (with_reducible repeat (first | apply Kd.R_alloc | apply Kd.R_drewN | apply Kd.R_drew)); exact HO371.out))) (below_size (by repeat (first | (with_reducible first | exact HB.out | apply below_alloc | apply pw_below_drewN | apply below_drew1) | exact HB.out)))); have n3_ := Aside0.mk (below_step (by repeat (first | (with_reducible first | exact HB.out | apply below_alloc | apply pw_below_drewN | apply below_drew1) | exact HB.out)) hb); clear HO_7; clear HO371; clear HB; have HO_7 := n0_; have HO371 := n1_; have HO377 := n2_; have HB := n3_; clear n0_ n1_ n2_ n3_; (try clear hb); (try clear hb2); (try clear hk); (try clear hi); (try clear ho0)))
                      go_ret
                      exact ⟨by first | rfl | (simp [errW_none, errW_some] <;> rfl) | (simp only [← hji9, ← hji11]; first | rfl | (simp [errW_none, errW_some] <;> rfl)) | (simp [*, errW_none, errW_some] <;> rfl), by repeat (first | (with_reducible first | exact HB.out | apply below_alloc | apply pw_below_drewN | apply below_drew1) | exact HB.out)⟩
                  · rw [if_neg c15] at H
                    have c15b0 : (t369 == 0) = false := beq_eq_false_iff_ne.mpr c15
                    have c15b1 : (t369 != 0) = true := bne_iff_ne.mpr c15
                    obtain rfl := Option.some.inj H
                    have p367 : 0 ≤ (x8_2 : Int) := of_decide_eq_true (by first | (with_reducible assumption) | assumption)
                    have q367 : x8_2 < (l0.length : Int) := of_decide_eq_true (by first | (with_reducible assumption) | assumption)
                    obtain ⟨ad367, e367, hx367_0⟩ := Kd.at_int HR0.out x8_2 p367 q367
                    cases e367
                    replace hx367_0 := (HB.out.cell (World.block_lt_of_cell? w _ hx367_0)).trans hx367_0
                    replace p367 := eq_true p367
                    replace q367 := eq_true q367
                    obtain ⟨Ao37, co37, eo37⟩ := Kd.R_slice HO_7.out
                    subst eo37
                    go_wp2_with (first | ((with_reducible refine gate_callee (f := 13) rfl ?_); refine goesL_ (some 60) rfl rfl Try.func13 (by kernel_rfl) rfl #[.slice Ao37 x7_2.length co37, .int .i64 (Go.bits .and .i64 (rd l0 x8_2) (wrap64 ((ji11) - 1))), .int .i64 (wrap64 (1 + (wrap64 (Int.tmod (IntKind.u64.wrap (a2)) 7))))] rfl (by (try simp only [List.map_toArray, List.map_cons, List.map_nil]); first | done | (simp only [hji11]; rfl) | rfl | (simp only [List.length_drop, List.length_take]; rfl)) ?_; (with_reducible refine (wire_Put.calls k2 _ _ x7_2 (Go.bits .and .i64 (rd l0 x8_2) (wrap64 ((ji11) - 1))) (wrap64 (1 + (wrap64 (Int.tmod (IntKind.u64.wrap (a2)) 7)))) t368 t369 _ ?side1 ?side2 A12.out).mono ?_); (case side1 => repeat (first | exact (Kd.R_reads' HO_7.out).2.2 | (with_reducible refine Kd.C_alloc ?_ _) | (with_reducible refine Kd.C_drewN ?_ _) | (with_reducible refine Kd.C_drew ?_))); (case side2 => exact (Kd.R_reads' HO_7.out).2.1); rintro e w38 ⟨v370, rfl, ho0, hb⟩; refine ⟨_, rfl, ?_⟩; have n0_ := Aside0.mk (Kd.R_elder' (by (with_reducible repeat (first | apply Kd.R_alloc | apply Kd.R_drewN | apply Kd.R_drew)); exact HO_7.out) (Kd.R_base ho0) hb); have n1_ := Aside0.mk (Kd.R_lower (Kd.R_new' ho0 (Kd.R_lt (by (with_reducible repeat (first | apply Kd.R_alloc | apply Kd.R_drewN | apply Kd.R_drew)); exact HO_7.out))) (below_size (by repeat (first | (with_reducible first | exact HB.out | apply below_alloc | apply pw_below_drewN | apply below_drew1) | exact HB.out)))); have n2_ := Aside0.mk (below_step (by repeat (first | (with_reducible first | exact HB.out | apply below_alloc | apply pw_below_drewN | apply below_drew1) | exact HB.out)) hb); clear HO_7; clear HB; have HO_7 := n0_; have HO371 := n1_; have HB := n2_; clear n0_ n1_ n2_; (try clear hb); (try clear hb2); (try clear hk); (try clear hi); (try clear ho0); have p372 : 0 ≤ (x8_2 : Int) := of_decide_eq_true (by first | (with_reducible assumption) | assumption); have q372 : x8_2 < (l0.length : Int) := of_decide_eq_true (by first | (with_reducible assumption) | assumption); obtain ⟨ad372, e372, hx372_0⟩ := Kd.at_int HR0.out x8_2 p372 q372; obtain rfl : ad367 = ad372 := (by injection e372); replace hx372_0 := (HB.out.cell (World.block_lt_of_cell? w _ hx372_0)).trans hx372_0; replace p372 := eq_true p372; replace q372 := eq_true q372) | ((with_reducible refine gate_callee (f := 10) rfl ?_); refine goesL_ (some 69) rfl rfl Try.func10 (by kernel_rfl) rfl #[.int .i64 (rd l0 x8_2)] rfl (by (try simp only [List.map_toArray, List.map_cons, List.map_nil]); first | done | rfl | (simp only [List.length_drop, List.length_take]; rfl)) ?_; (with_reducible refine (raddlelaw01_within.calls (rd l0 x8_2) t373 _ A13.out).mono ?_); rintro e w' ⟨rfl, ⟨nd, rfl⟩⟩; refine ⟨_, rfl, ?_⟩; obtain ⟨Ao39, co39, eo39⟩ := Kd.R_slice HO371.out; subst eo39) | ((with_reducible refine gate_callee (f := 9) rfl ?_); refine goesL_ (some 70) rfl rfl Try.func9 (by kernel_rfl) rfl #[.slice Ao39 t368.length co39, .int .i64 t373] rfl (by (try simp only [List.map_toArray, List.map_cons, List.map_nil]); first | done | rfl | (simp only [List.length_drop, List.length_take]; rfl)) ?_; (with_reducible refine (wire_PutInt.calls k2 _ _ t368 t373 t374 t375 _ ?side1 ?side2 A14.out).mono ?_); (case side1 => repeat (first | exact (Kd.R_reads' HO371.out).2.2 | (with_reducible refine Kd.C_alloc ?_ _) | (with_reducible refine Kd.C_drewN ?_ _) | (with_reducible refine Kd.C_drew ?_))); (case side2 => exact (Kd.R_reads' HO371.out).2.1); rintro e w40 ⟨v376, rfl, ho0, hb⟩; refine ⟨_, rfl, ?_⟩; have n0_ := Aside0.mk (Kd.R_elder' (by (with_reducible repeat (first | apply Kd.R_alloc | apply Kd.R_drewN | apply Kd.R_drew)); exact HO_7.out) (Kd.R_base ho0) hb); have n1_ := Aside0.mk (Kd.R_elder' (by (with_reducible repeat (first | apply Kd.R_alloc | apply Kd.R_drewN | apply Kd.R_drew)); exact HO371.out) (Kd.R_base ho0) hb); have n2_ := Aside0.mk (Kd.R_lower (Kd.R_new' (Kd.R_new' ho0 (Kd.R_lt (by (with_reducible repeat (first | apply Kd.R_alloc | apply Kd.R_drewN | apply Kd.R_drew)); exact HO_7.out))) (Kd.R_lt (by (with_reducible repeat (first | apply Kd.R_alloc | apply Kd.R_drewN | apply Kd.R_drew)); exact HO371.out))) (below_size (by repeat (first | (with_reducible first | exact HB.out | apply below_alloc | apply pw_below_drewN | apply below_drew1) | exact HB.out)))); have n3_ := Aside0.mk (below_step (by repeat (first | (with_reducible first | exact HB.out | apply below_alloc | apply pw_below_drewN | apply below_drew1) | exact HB.out)) hb); clear HO_7; clear HO371; clear HB; have HO_7 := n0_; have HO371 := n1_; have HO377 := n2_; have HB := n3_; clear n0_ n1_ n2_ n3_; (try clear hb); (try clear hb2); (try clear hk); (try clear hi); (try clear ho0)))
                    go_ret
                    exact ⟨by first | rfl | (simp [errW_none, errW_some] <;> rfl) | (simp only [← hji9, ← hji11]; first | rfl | (simp [errW_none, errW_some] <;> rfl)) | (simp [*, errW_none, errW_some] <;> rfl), by repeat (first | (with_reducible first | exact HB.out | apply below_alloc | apply pw_below_drewN | apply below_drew1) | exact HB.out)⟩
                · rw [if_neg c10] at H
                  exact absurd H (by simp)
              · rw [if_neg c8] at H
                exact absurd H (by simp)
            · rw [if_neg c7] at H
              have c7b0 : decide (x8_2 < (l0.length : Int)) = false := decide_eq_false c7
              clear c7
              have H' := Aside0.mk H
              clear H
              go_wp2
              go_loopg [7, 13] k2 (fun kq v7 v13 w' => ∃ (x7_3 : List Int) (x13_3 : Int), v13 = .int .i64 x13_3 ∧ Aside0 (raddlelaw01_WireBack.l1 kq l0 l1 (wrap64 (1 + (wrap64 (Int.tmod (IntKind.u64.wrap (a2)) 7)))) x7_3 x13_3 = some r) ∧ Aside0 (kq ≤ k2) ∧ Aside0 (Kd.R (Kd.int .u8) 5 w' w.heap.size (fun _ => True) v7 x7_3) ∧ Aside0 (Below w.heap.size w w'))
              case atStart => exact ⟨(x7_2), (0), (by first | rfl | (simp; done) | (simp [*]; done)), H', ⟨Nat.le_refl _⟩, ⟨by (with_reducible repeat (first | apply Kd.R_alloc | apply Kd.R_drewN | apply Kd.R_drew)); exact HO_7.out⟩, ⟨by repeat (first | (with_reducible first | exact HB.out | apply below_alloc | apply pw_below_drewN | apply below_drew1) | exact HB.out)⟩⟩
              case round =>
                clear H'
                try clear c1
                try clear p2
                try clear p3
                try clear q3
                try clear hx3
                try clear c5
                try clear c5b0
                try clear c5b1
                try clear c6
                try clear p6
                try clear c7
                try clear c7b0
                try clear c8
                try clear c8b0
                try clear c9
                try clear c10
                try clear c10b0
                try clear c10b1
                try clear c13
                try clear c15
                try clear c15b0
                try clear c15b1
                try clear c16
                try clear c16b0
                try clear c16b1
                try clear c17
                try clear c17b0
                try clear c17b1
                try clear c18
                try clear c18b0
                try clear c18b1
                try clear p36
                try clear q36
                try clear hx36
                try clear p37
                try clear q37
                try clear hx37
                try clear hx367_0
                try clear hx372_0
                try clear p2
                try clear p367
                try clear p372
                try clear p6
                try clear q367
                try clear q372
                obtain ⟨x7_3, x13_3, rfl, HA, HK3, HO_7, HB⟩ := hrel
                cases gk with
                | zero => exact absurd HA.out (by simp [raddlelaw01_WireBack.l1])
                | succ k3 =>
                  have H := HA.out
                  clear HA
                  simp only [raddlelaw01_WireBack.l1] at H
                  by_cases c41 : x13_3 < (l1.length : Int)
                  · rw [if_pos c41] at H
                    have c41b0 : decide (x13_3 < (l1.length : Int)) = true := decide_eq_true c41
                    clear c41
                    by_cases c42 : 0 ≤ x13_3
                    · rw [if_pos c42] at H
                      have c42b0 : decide (0 ≤ x13_3) = true := decide_eq_true c42
                      clear c42
                      by_cases c43 : ((rdOf ByteArray.empty l1 x13_3).size : Int) > 24
                      · rw [if_pos c43] at H
                        have c43b0 : decide (24 < ((rdOf ByteArray.empty l1 x13_3).size : Int)) = true := decide_eq_true c43
                        have c43b1 : decide (24 < (rdOf ByteArray.empty l1 x13_3).size) = true := decide_eq_true (by omega)
                        clear c43
                        obtain rfl := Option.some.inj H
                        have p378 : 0 ≤ (x13_3 : Int) := of_decide_eq_true (by first | (with_reducible assumption) | assumption)
                        have q378 : x13_3 < (l1.length : Int) := of_decide_eq_true (by first | (with_reducible assumption) | assumption)
                        obtain ⟨ad378, e378, hx378_0⟩ := Kd.at_string HR1.out x13_3 p378 q378
                        cases e378
                        replace hx378_0 := (HB.out.cell (World.block_lt_of_cell? w _ hx378_0)).trans hx378_0
                        replace p378 := eq_true p378
                        replace q378 := eq_true q378
                        go_wp2
                        go_ret
                        exact ⟨by first | rfl | (simp [errW_none, errW_some] <;> rfl) | (simp [*, errW_none, errW_some] <;> rfl), by repeat (first | (with_reducible first | exact HB.out | apply below_alloc | apply pw_below_drewN | apply below_drew1) | exact HB.out)⟩
                      · rw [if_neg c43] at H
                        have c43b0 : decide (24 < ((rdOf ByteArray.empty l1 x13_3).size : Int)) = false := decide_eq_false c43
                        have c43b1 : decide (24 < (rdOf ByteArray.empty l1 x13_3).size) = false := decide_eq_false (by omega)
                        clear c43
                        replace H := Option.bind_eq_some_iff.mp H
                        obtain ⟨⟨t380, t381⟩, A440, H⟩ := H
                        replace H : (if t381 = 0 then (if (t380.length : Int) = (wrap64 ((wrap64 ((x7_3.length : Int) + 1)) + ((rdOf ByteArray.empty l1 x13_3).size : Int))) then (raddlelaw01_WireBack.l1 k3 l0 l1 (wrap64 (1 + (wrap64 (Int.tmod (IntKind.u64.wrap (a2)) 7)))) t380 (wrap64 (x13_3 + 1))) else (some false)) else (some false)) = some r := H
                        have A44 := Aside0.mk A440
                        clear A440
                        by_cases c45 : t381 = 0
                        · rw [if_pos c45] at H
                          have c45b0 : (t381 == 0) = true := beq_iff_eq.mpr c45
                          have c45b1 : (t381 != 0) = false := bne_eq_false_iff_eq.mpr c45
                          clear c45
                          by_cases c46 : (t380.length : Int) = (wrap64 ((wrap64 ((x7_3.length : Int) + 1)) + ((rdOf ByteArray.empty l1 x13_3).size : Int)))
                          · rw [if_pos c46] at H
                            have c46b0 : ((t380.length : Int) == (wrap64 ((wrap64 ((x7_3.length : Int) + 1)) + ((rdOf ByteArray.empty l1 x13_3).size : Int)))) = true := beq_iff_eq.mpr c46
                            have c46b1 : ((t380.length : Int) != (wrap64 ((wrap64 ((x7_3.length : Int) + 1)) + ((rdOf ByteArray.empty l1 x13_3).size : Int)))) = false := bne_eq_false_iff_eq.mpr c46
                            clear c46
                            have H' := Aside0.mk H
                            clear H
                            have p378 : 0 ≤ (x13_3 : Int) := of_decide_eq_true (by first | (with_reducible assumption) | assumption)
                            have q378 : x13_3 < (l1.length : Int) := of_decide_eq_true (by first | (with_reducible assumption) | assumption)
                            obtain ⟨ad378, e378, hx378_0⟩ := Kd.at_string HR1.out x13_3 p378 q378
                            cases e378
                            replace hx378_0 := (HB.out.cell (World.block_lt_of_cell? w _ hx378_0)).trans hx378_0
                            replace p378 := eq_true p378
                            replace q378 := eq_true q378
                            have p379 : 0 ≤ (x13_3 : Int) := of_decide_eq_true (by first | (with_reducible assumption) | assumption)
                            have q379 : x13_3 < (l1.length : Int) := of_decide_eq_true (by first | (with_reducible assumption) | assumption)
                            obtain ⟨ad379, e379, hx379_0⟩ := Kd.at_string HR1.out x13_3 p379 q379
                            obtain rfl : ad378 = ad379 := (by injection e379)
                            replace hx379_0 := (HB.out.cell (World.block_lt_of_cell? w _ hx379_0)).trans hx379_0
                            replace p379 := eq_true p379
                            replace q379 := eq_true q379
                            obtain ⟨Ao47, co47, eo47⟩ := Kd.R_slice HO_7.out
                            subst eo47
                            go_wp2_with (first | ((with_reducible refine gate_callee (f := 21) rfl ?_); refine goesL_ (some 115) rfl rfl Try.func21 (by kernel_rfl) rfl #[.slice Ao47 x7_3.length co47, .string (rdOf ByteArray.empty l1 x13_3)] rfl (by (try simp only [List.map_toArray, List.map_cons, List.map_nil]); first | done | rfl | (simp only [List.length_drop, List.length_take]; rfl)) ?_; (with_reducible refine (wire_PutText.calls _ _ x7_3 (rdOf ByteArray.empty l1 x13_3) t380 t381 _ ?side1 ?side2 A44.out).mono ?_); (case side1 => repeat (first | exact (Kd.R_reads' HO_7.out).2.2 | (with_reducible refine Kd.C_alloc ?_ _) | (with_reducible refine Kd.C_drewN ?_ _) | (with_reducible refine Kd.C_drew ?_))); (case side2 => exact (Kd.R_reads' HO_7.out).2.1); rintro e w48 ⟨v382, rfl, ho0, hb⟩; refine ⟨_, rfl, ?_⟩; have n0_ := Aside0.mk (Kd.R_elder' (by (with_reducible repeat (first | apply Kd.R_alloc | apply Kd.R_drewN | apply Kd.R_drew)); exact HO_7.out) (Kd.R_base ho0) hb); have n1_ := Aside0.mk (Kd.R_lower (Kd.R_new' ho0 (Kd.R_lt (by (with_reducible repeat (first | apply Kd.R_alloc | apply Kd.R_drewN | apply Kd.R_drew)); exact HO_7.out))) (below_size (by repeat (first | (with_reducible first | exact HB.out | apply below_alloc | apply pw_below_drewN | apply below_drew1) | exact HB.out)))); have n2_ := Aside0.mk (below_step (by repeat (first | (with_reducible first | exact HB.out | apply below_alloc | apply pw_below_drewN | apply below_drew1) | exact HB.out)) hb); clear HO_7; clear HB; have HO_7 := n0_; have HO383 := n1_; have HB := n2_; clear n0_ n1_ n2_; (try clear hb); (try clear hb2); (try clear hk); (try clear hi); (try clear ho0); obtain ⟨Ao49, co49, eo49⟩ := Kd.R_slice HO383.out; subst eo49; have p384 : 0 ≤ (x13_3 : Int) := of_decide_eq_true (by first | (with_reducible assumption) | assumption); have q384 : x13_3 < (l1.length : Int) := of_decide_eq_true (by first | (with_reducible assumption) | assumption); obtain ⟨ad384, e384, hx384_0⟩ := Kd.at_string HR1.out x13_3 p384 q384; obtain rfl : ad378 = ad384 := (by injection e384); replace hx384_0 := (HB.out.cell (World.block_lt_of_cell? w _ hx384_0)).trans hx384_0; replace p384 := eq_true p384; replace q384 := eq_true q384))
                            go_roundg k3
                            case measure => have := HJ3.out; have := HK2.out; have := HK3.out; omega
                            case rel => exact ⟨(t380), (wrap64 (x13_3 + 1)), (by first | rfl | (simp; done) | (simp [*]; done)), H', ⟨by have := HJ3.out; have := HK2.out; have := HK3.out; omega⟩, ⟨by (with_reducible repeat (first | apply Kd.R_alloc | apply Kd.R_drewN | apply Kd.R_drew)); exact Kd.R_mono HO383.out (fun _ hk => trivial)⟩, ⟨by repeat (first | (with_reducible first | exact HB.out | apply below_alloc | apply pw_below_drewN | apply below_drew1) | exact HB.out)⟩⟩
                          · rw [if_neg c46] at H
                            have c46b0 : ((t380.length : Int) == (wrap64 ((wrap64 ((x7_3.length : Int) + 1)) + ((rdOf ByteArray.empty l1 x13_3).size : Int)))) = false := beq_eq_false_iff_ne.mpr c46
                            have c46b1 : ((t380.length : Int) != (wrap64 ((wrap64 ((x7_3.length : Int) + 1)) + ((rdOf ByteArray.empty l1 x13_3).size : Int)))) = true := bne_iff_ne.mpr c46
                            obtain rfl := Option.some.inj H
                            have p378 : 0 ≤ (x13_3 : Int) := of_decide_eq_true (by first | (with_reducible assumption) | assumption)
                            have q378 : x13_3 < (l1.length : Int) := of_decide_eq_true (by first | (with_reducible assumption) | assumption)
                            obtain ⟨ad378, e378, hx378_0⟩ := Kd.at_string HR1.out x13_3 p378 q378
                            cases e378
                            replace hx378_0 := (HB.out.cell (World.block_lt_of_cell? w _ hx378_0)).trans hx378_0
                            replace p378 := eq_true p378
                            replace q378 := eq_true q378
                            have p379 : 0 ≤ (x13_3 : Int) := of_decide_eq_true (by first | (with_reducible assumption) | assumption)
                            have q379 : x13_3 < (l1.length : Int) := of_decide_eq_true (by first | (with_reducible assumption) | assumption)
                            obtain ⟨ad379, e379, hx379_0⟩ := Kd.at_string HR1.out x13_3 p379 q379
                            obtain rfl : ad378 = ad379 := (by injection e379)
                            replace hx379_0 := (HB.out.cell (World.block_lt_of_cell? w _ hx379_0)).trans hx379_0
                            replace p379 := eq_true p379
                            replace q379 := eq_true q379
                            obtain ⟨Ao50, co50, eo50⟩ := Kd.R_slice HO_7.out
                            subst eo50
                            go_wp2_with (first | ((with_reducible refine gate_callee (f := 21) rfl ?_); refine goesL_ (some 115) rfl rfl Try.func21 (by kernel_rfl) rfl #[.slice Ao50 x7_3.length co50, .string (rdOf ByteArray.empty l1 x13_3)] rfl (by (try simp only [List.map_toArray, List.map_cons, List.map_nil]); first | done | rfl | (simp only [List.length_drop, List.length_take]; rfl)) ?_; (with_reducible refine (wire_PutText.calls _ _ x7_3 (rdOf ByteArray.empty l1 x13_3) t380 t381 _ ?side1 ?side2 A44.out).mono ?_); (case side1 => repeat (first | exact (Kd.R_reads' HO_7.out).2.2 | (with_reducible refine Kd.C_alloc ?_ _) | (with_reducible refine Kd.C_drewN ?_ _) | (with_reducible refine Kd.C_drew ?_))); (case side2 => exact (Kd.R_reads' HO_7.out).2.1); rintro e w51 ⟨v382, rfl, ho0, hb⟩; refine ⟨_, rfl, ?_⟩; have n0_ := Aside0.mk (Kd.R_elder' (by (with_reducible repeat (first | apply Kd.R_alloc | apply Kd.R_drewN | apply Kd.R_drew)); exact HO_7.out) (Kd.R_base ho0) hb); have n1_ := Aside0.mk (Kd.R_lower (Kd.R_new' ho0 (Kd.R_lt (by (with_reducible repeat (first | apply Kd.R_alloc | apply Kd.R_drewN | apply Kd.R_drew)); exact HO_7.out))) (below_size (by repeat (first | (with_reducible first | exact HB.out | apply below_alloc | apply pw_below_drewN | apply below_drew1) | exact HB.out)))); have n2_ := Aside0.mk (below_step (by repeat (first | (with_reducible first | exact HB.out | apply below_alloc | apply pw_below_drewN | apply below_drew1) | exact HB.out)) hb); clear HO_7; clear HB; have HO_7 := n0_; have HO383 := n1_; have HB := n2_; clear n0_ n1_ n2_; (try clear hb); (try clear hb2); (try clear hk); (try clear hi); (try clear ho0); obtain ⟨Ao52, co52, eo52⟩ := Kd.R_slice HO383.out; subst eo52; have p384 : 0 ≤ (x13_3 : Int) := of_decide_eq_true (by first | (with_reducible assumption) | assumption); have q384 : x13_3 < (l1.length : Int) := of_decide_eq_true (by first | (with_reducible assumption) | assumption); obtain ⟨ad384, e384, hx384_0⟩ := Kd.at_string HR1.out x13_3 p384 q384; obtain rfl : ad378 = ad384 := (by injection e384); replace hx384_0 := (HB.out.cell (World.block_lt_of_cell? w _ hx384_0)).trans hx384_0; replace p384 := eq_true p384; replace q384 := eq_true q384))
                            go_ret
                            exact ⟨by first | rfl | (simp [errW_none, errW_some] <;> rfl) | (simp [*, errW_none, errW_some] <;> rfl), by repeat (first | (with_reducible first | exact HB.out | apply below_alloc | apply pw_below_drewN | apply below_drew1) | exact HB.out)⟩
                        · rw [if_neg c45] at H
                          have c45b0 : (t381 == 0) = false := beq_eq_false_iff_ne.mpr c45
                          have c45b1 : (t381 != 0) = true := bne_iff_ne.mpr c45
                          obtain rfl := Option.some.inj H
                          have p378 : 0 ≤ (x13_3 : Int) := of_decide_eq_true (by first | (with_reducible assumption) | assumption)
                          have q378 : x13_3 < (l1.length : Int) := of_decide_eq_true (by first | (with_reducible assumption) | assumption)
                          obtain ⟨ad378, e378, hx378_0⟩ := Kd.at_string HR1.out x13_3 p378 q378
                          cases e378
                          replace hx378_0 := (HB.out.cell (World.block_lt_of_cell? w _ hx378_0)).trans hx378_0
                          replace p378 := eq_true p378
                          replace q378 := eq_true q378
                          have p379 : 0 ≤ (x13_3 : Int) := of_decide_eq_true (by first | (with_reducible assumption) | assumption)
                          have q379 : x13_3 < (l1.length : Int) := of_decide_eq_true (by first | (with_reducible assumption) | assumption)
                          obtain ⟨ad379, e379, hx379_0⟩ := Kd.at_string HR1.out x13_3 p379 q379
                          obtain rfl : ad378 = ad379 := (by injection e379)
                          replace hx379_0 := (HB.out.cell (World.block_lt_of_cell? w _ hx379_0)).trans hx379_0
                          replace p379 := eq_true p379
                          replace q379 := eq_true q379
                          obtain ⟨Ao53, co53, eo53⟩ := Kd.R_slice HO_7.out
                          subst eo53
                          go_wp2_with (first | ((with_reducible refine gate_callee (f := 21) rfl ?_); refine goesL_ (some 115) rfl rfl Try.func21 (by kernel_rfl) rfl #[.slice Ao53 x7_3.length co53, .string (rdOf ByteArray.empty l1 x13_3)] rfl (by (try simp only [List.map_toArray, List.map_cons, List.map_nil]); first | done | rfl | (simp only [List.length_drop, List.length_take]; rfl)) ?_; (with_reducible refine (wire_PutText.calls _ _ x7_3 (rdOf ByteArray.empty l1 x13_3) t380 t381 _ ?side1 ?side2 A44.out).mono ?_); (case side1 => repeat (first | exact (Kd.R_reads' HO_7.out).2.2 | (with_reducible refine Kd.C_alloc ?_ _) | (with_reducible refine Kd.C_drewN ?_ _) | (with_reducible refine Kd.C_drew ?_))); (case side2 => exact (Kd.R_reads' HO_7.out).2.1); rintro e w54 ⟨v382, rfl, ho0, hb⟩; refine ⟨_, rfl, ?_⟩; have n0_ := Aside0.mk (Kd.R_elder' (by (with_reducible repeat (first | apply Kd.R_alloc | apply Kd.R_drewN | apply Kd.R_drew)); exact HO_7.out) (Kd.R_base ho0) hb); have n1_ := Aside0.mk (Kd.R_lower (Kd.R_new' ho0 (Kd.R_lt (by (with_reducible repeat (first | apply Kd.R_alloc | apply Kd.R_drewN | apply Kd.R_drew)); exact HO_7.out))) (below_size (by repeat (first | (with_reducible first | exact HB.out | apply below_alloc | apply pw_below_drewN | apply below_drew1) | exact HB.out)))); have n2_ := Aside0.mk (below_step (by repeat (first | (with_reducible first | exact HB.out | apply below_alloc | apply pw_below_drewN | apply below_drew1) | exact HB.out)) hb); clear HO_7; clear HB; have HO_7 := n0_; have HO383 := n1_; have HB := n2_; clear n0_ n1_ n2_; (try clear hb); (try clear hb2); (try clear hk); (try clear hi); (try clear ho0)))
                          go_ret
                          exact ⟨by first | rfl | (simp [errW_none, errW_some] <;> rfl) | (simp [*, errW_none, errW_some] <;> rfl), by repeat (first | (with_reducible first | exact HB.out | apply below_alloc | apply pw_below_drewN | apply below_drew1) | exact HB.out)⟩
                    · rw [if_neg c42] at H
                      exact absurd H (by simp)
                  · rw [if_neg c41] at H
                    have c41b0 : decide (x13_3 < (l1.length : Int)) = false := decide_eq_false c41
                    clear c41
                    have H' := Aside0.mk H
                    clear H
                    go_wp2
                    go_loopg [16, 17] k3 (fun kq v16 v17 w' => ∃ (x16_4 : Int) (x17_4 : Int), v16 = .int .i64 x16_4 ∧ v17 = .int .i64 x17_4 ∧ Aside0 (raddlelaw01_WireBack.l2 kq l0 l1 (wrap64 (1 + (wrap64 (Int.tmod (IntKind.u64.wrap (a2)) 7)))) x7_3 x16_4 x17_4 = some r) ∧ Aside0 (kq ≤ k3) ∧ Aside0 (Kd.R (Kd.int .u8) 5 w' w.heap.size (fun _ => True) u7 x7_3) ∧ Aside0 (Below w.heap.size w w'))
                    case atStart => exact ⟨(0), (0), (by first | rfl | (simp; done) | (simp [*]; done)), (by first | rfl | (simp; done) | (simp [*]; done)), H', ⟨Nat.le_refl _⟩, ⟨by (with_reducible repeat (first | apply Kd.R_alloc | apply Kd.R_drewN | apply Kd.R_drew)); exact HO_7.out⟩, ⟨by repeat (first | (with_reducible first | exact HB.out | apply below_alloc | apply pw_below_drewN | apply below_drew1) | exact HB.out)⟩⟩
                    case round =>
                      clear H'
                      try clear c1
                      try clear c2
                      try clear p2
                      try clear p3
                      try clear q3
                      try clear hx3
                      try clear c4
                      try clear c5
                      try clear c5b0
                      try clear c5b1
                      try clear c6
                      try clear p6
                      try clear c7
                      try clear c7b0
                      try clear c8
                      try clear c8b0
                      try clear c9
                      try clear c10
                      try clear c10b0
                      try clear c10b1
                      try clear c13
                      try clear c15
                      try clear c15b0
                      try clear c15b1
                      try clear c16
                      try clear c16b0
                      try clear c16b1
                      try clear c17
                      try clear c17b0
                      try clear c17b1
                      try clear c18
                      try clear c18b0
                      try clear c18b1
                      try clear c21
                      try clear p36
                      try clear q36
                      try clear hx36
                      try clear p37
                      try clear q37
                      try clear hx37
                      try clear p38
                      try clear q38
                      try clear hx38
                      try clear c41
                      try clear c41b0
                      try clear c42
                      try clear c42b0
                      try clear c43
                      try clear c43b0
                      try clear c43b1
                      try clear c45
                      try clear c45b0
                      try clear c45b1
                      try clear c46
                      try clear c46b0
                      try clear c46b1
                      try clear hx367_0
                      try clear hx372_0
                      try clear hx378_0
                      try clear hx379_0
                      try clear hx384_0
                      try clear p2
                      try clear p3
                      try clear p36
                      try clear p367
                      try clear p37
                      try clear p372
                      try clear p378
                      try clear p379
                      try clear p384
                      try clear p6
                      try clear q3
                      try clear q36
                      try clear q367
                      try clear q37
                      try clear q372
                      try clear q378
                      try clear q379
                      try clear q384
                      obtain ⟨x16_4, x17_4, rfl, rfl, HA, HK4, HO_7, HB⟩ := hrel
                      cases gk with
                      | zero => exact absurd HA.out (by simp [raddlelaw01_WireBack.l2])
                      | succ k4 =>
                        have H := HA.out
                        clear HA
                        simp only [raddlelaw01_WireBack.l2] at H
                        by_cases c55 : x17_4 < (l0.length : Int)
                        · rw [if_pos c55] at H
                          have c55b0 : decide (x17_4 < (l0.length : Int)) = true := decide_eq_true c55
                          clear c55
                          replace H := Option.bind_eq_some_iff.mp H
                          obtain ⟨⟨t385, t386, t387⟩, A560, H⟩ := H
                          replace H : ((wire_GetInt.f k4 x7_3 t386).bind fun bt388 => (if t387 = 0 then (if bt388.2.2 = 0 then (if 0 ≤ x17_4 then (if 0 ≤ (IntKind.u64.wrap (wrap64 (8 * (wrap64 (1 + (wrap64 (Int.tmod (IntKind.u64.wrap (a2)) 7))))))) then (if t385 = (Go.bits .and .i64 (rd l0 x17_4) (wrap64 ((shl .i64 1 (IntKind.u64.wrap (wrap64 (8 * (wrap64 (1 + (wrap64 (Int.tmod (IntKind.u64.wrap (a2)) 7)))))))) - 1))) then ((raddlelaw01_within.f (rd l0 x17_4)).bind fun t393 => (if bt388.1 = t393 then (if t386 = (wrap64 (x16_4 + (wrap64 (1 + (wrap64 (Int.tmod (IntKind.u64.wrap (a2)) 7)))))) then (if bt388.2.1 = (wrap64 (t386 + 9)) then (raddlelaw01_WireBack.l2 k4 l0 l1 (wrap64 (1 + (wrap64 (Int.tmod (IntKind.u64.wrap (a2)) 7)))) x7_3 bt388.2.1 (wrap64 (x17_4 + 1))) else (some false)) else (some false)) else (some false))) else (some false)) else (none)) else (none)) else (some false)) else (some false))) = some r := H
                          have A56 := Aside0.mk A560
                          clear A560
                          replace H := Option.bind_eq_some_iff.mp H
                          obtain ⟨⟨t388, t389, t390⟩, A570, H⟩ := H
                          replace H : (if t387 = 0 then (if t390 = 0 then (if 0 ≤ x17_4 then (if 0 ≤ (IntKind.u64.wrap (wrap64 (8 * (wrap64 (1 + (wrap64 (Int.tmod (IntKind.u64.wrap (a2)) 7))))))) then (if t385 = (Go.bits .and .i64 (rd l0 x17_4) (wrap64 ((shl .i64 1 (IntKind.u64.wrap (wrap64 (8 * (wrap64 (1 + (wrap64 (Int.tmod (IntKind.u64.wrap (a2)) 7)))))))) - 1))) then ((raddlelaw01_within.f (rd l0 x17_4)).bind fun t393 => (if t388 = t393 then (if t386 = (wrap64 (x16_4 + (wrap64 (1 + (wrap64 (Int.tmod (IntKind.u64.wrap (a2)) 7)))))) then (if t389 = (wrap64 (t386 + 9)) then (raddlelaw01_WireBack.l2 k4 l0 l1 (wrap64 (1 + (wrap64 (Int.tmod (IntKind.u64.wrap (a2)) 7)))) x7_3 t389 (wrap64 (x17_4 + 1))) else (some false)) else (some false)) else (some false))) else (some false)) else (none)) else (none)) else (some false)) else (some false)) = some r := H
                          have A57 := Aside0.mk A570
                          clear A570
                          by_cases c58 : t387 = 0
                          · rw [if_pos c58] at H
                            have c58b0 : (t387 == 0) = true := beq_iff_eq.mpr c58
                            have c58b1 : (t387 != 0) = false := bne_eq_false_iff_eq.mpr c58
                            clear c58
                            by_cases c59 : t390 = 0
                            · rw [if_pos c59] at H
                              have c59b0 : (t390 == 0) = true := beq_iff_eq.mpr c59
                              have c59b1 : (t390 != 0) = false := bne_eq_false_iff_eq.mpr c59
                              clear c59
                              by_cases c60 : 0 ≤ x17_4
                              · rw [if_pos c60] at H
                                have c60b0 : decide (0 ≤ x17_4) = true := decide_eq_true c60
                                clear c60
                                obtain ⟨ji61, hji61⟩ : ∃ j_ : Int, (IntKind.u64.wrap (wrap64 (8 * (wrap64 (1 + (wrap64 (Int.tmod (IntKind.u64.wrap (a2)) 7))))))) = j_ := ⟨_, rfl⟩
                                replace H : (if 0 ≤ (ji61) then (if t385 = (Go.bits .and .i64 (rd l0 x17_4) (wrap64 ((shl .i64 1 (ji61)) - 1))) then ((raddlelaw01_within.f (rd l0 x17_4)).bind fun t393 => (if t388 = t393 then (if t386 = (wrap64 (x16_4 + (wrap64 (1 + (wrap64 (Int.tmod (IntKind.u64.wrap (a2)) 7)))))) then (if t389 = (wrap64 (t386 + 9)) then (raddlelaw01_WireBack.l2 k4 l0 l1 (wrap64 (1 + (wrap64 (Int.tmod (IntKind.u64.wrap (a2)) 7)))) x7_3 t389 (wrap64 (x17_4 + 1))) else (some false)) else (some false)) else (some false))) else (some false)) else (none)) = some r := by first | (rw [hji61] at H; exact H) | (simp only [hji61] at H ⊢; exact H)
                                (try rw [hji61] at A56)
                                (try rw [hji61] at A57)
                                by_cases c62 : 0 ≤ (ji61)
                                · rw [if_pos c62] at H
                                  have c62b0 := eq_true c62
                                  have c62b1 : decide (0 ≤ (ji61)) = true := decide_eq_true c62
                                  clear c62
                                  obtain ⟨ji63, hji63⟩ : ∃ j_ : Int, (shl .i64 1 (ji61)) = j_ := ⟨_, rfl⟩
                                  replace H : (if t385 = (Go.bits .and .i64 (rd l0 x17_4) (wrap64 ((ji63) - 1))) then ((raddlelaw01_within.f (rd l0 x17_4)).bind fun t393 => (if t388 = t393 then (if t386 = (wrap64 (x16_4 + (wrap64 (1 + (wrap64 (Int.tmod (IntKind.u64.wrap (a2)) 7)))))) then (if t389 = (wrap64 (t386 + 9)) then (raddlelaw01_WireBack.l2 k4 l0 l1 (wrap64 (1 + (wrap64 (Int.tmod (IntKind.u64.wrap (a2)) 7)))) x7_3 t389 (wrap64 (x17_4 + 1))) else (some false)) else (some false)) else (some false))) else (some false)) = some r := by first | (rw [hji63] at H; exact H) | (simp only [hji63] at H ⊢; exact H)
                                  (try rw [hji63] at A56)
                                  (try rw [hji63] at A57)
                                  have hji63_ : (IntKind.i64.wrap (1 * 2 ^ min (ji61).toNat 64)) = ji63 := hji63
                                  have hji63z : (ji61) ≤ 64 → (IntKind.i64.wrap (1 * 2 ^ (ji61).toNat)) = ji63 := shl_small hji63
                                  have hji63u : (IntKind.i64.wrap (2 ^ min (ji61).toNat 64)) = ji63 := by have h_ := hji63_; rw [Int.one_mul] at h_; exact h_
                                  have hji63v : (ji61) ≤ 64 → (IntKind.i64.wrap (2 ^ (ji61).toNat)) = ji63 := fun hle_ => by have h_ := hji63z hle_; rw [Int.one_mul] at h_; exact h_
                                  have hji63y : (wrap64 (1 * 2 ^ min (ji61).toNat 64)) = ji63 := (i64_w _).symm.trans hji63_
                                  have hji63x : (ji61) ≤ 64 → (wrap64 (1 * 2 ^ (ji61).toNat)) = ji63 := fun h_ => (i64_w _).symm.trans (hji63z h_)
                                  by_cases c64 : t385 = (Go.bits .and .i64 (rd l0 x17_4) (wrap64 ((ji63) - 1)))
                                  · rw [if_pos c64] at H
                                    have c64b0 : (t385 == (Go.bits .and .i64 (rd l0 x17_4) (wrap64 ((ji63) - 1)))) = true := beq_iff_eq.mpr c64
                                    have c64b1 : (t385 != (Go.bits .and .i64 (rd l0 x17_4) (wrap64 ((ji63) - 1)))) = false := bne_eq_false_iff_eq.mpr c64
                                    clear c64
                                    replace H := Option.bind_eq_some_iff.mp H
                                    obtain ⟨t393, A650, H⟩ := H
                                    replace H : (if t388 = t393 then (if t386 = (wrap64 (x16_4 + (wrap64 (1 + (wrap64 (Int.tmod (IntKind.u64.wrap (a2)) 7)))))) then (if t389 = (wrap64 (t386 + 9)) then (raddlelaw01_WireBack.l2 k4 l0 l1 (wrap64 (1 + (wrap64 (Int.tmod (IntKind.u64.wrap (a2)) 7)))) x7_3 t389 (wrap64 (x17_4 + 1))) else (some false)) else (some false)) else (some false)) = some r := H
                                    have A65 := Aside0.mk A650
                                    clear A650
                                    by_cases c66 : t388 = t393
                                    · rw [if_pos c66] at H
                                      have c66b0 : (t388 == t393) = true := beq_iff_eq.mpr c66
                                      have c66b1 : (t388 != t393) = false := bne_eq_false_iff_eq.mpr c66
                                      clear c66
                                      by_cases c67 : t386 = (wrap64 (x16_4 + (wrap64 (1 + (wrap64 (Int.tmod (IntKind.u64.wrap (a2)) 7))))))
                                      · rw [if_pos c67] at H
                                        have c67b0 : (t386 == (wrap64 (x16_4 + (wrap64 (1 + (wrap64 (Int.tmod (IntKind.u64.wrap (a2)) 7))))))) = true := beq_iff_eq.mpr c67
                                        have c67b1 : (t386 != (wrap64 (x16_4 + (wrap64 (1 + (wrap64 (Int.tmod (IntKind.u64.wrap (a2)) 7))))))) = false := bne_eq_false_iff_eq.mpr c67
                                        clear c67
                                        by_cases c68 : t389 = (wrap64 (t386 + 9))
                                        · rw [if_pos c68] at H
                                          have c68b0 : (t389 == (wrap64 (t386 + 9))) = true := beq_iff_eq.mpr c68
                                          have c68b1 : (t389 != (wrap64 (t386 + 9))) = false := bne_eq_false_iff_eq.mpr c68
                                          clear c68
                                          have H' := Aside0.mk H
                                          clear H
                                          obtain ⟨Ao69, co69, eo69⟩ := Kd.R_slice HO_7.out
                                          subst eo69
                                          go_wp2_with (first | ((with_reducible refine gate_callee (f := 16) rfl ?_); refine goesL_ (some 145) rfl rfl Try.func16 (by kernel_rfl) rfl #[.slice Ao69 x7_3.length co69, .int .i64 x16_4, .int .i64 (wrap64 (1 + (wrap64 (Int.tmod (IntKind.u64.wrap (a2)) 7))))] rfl (by (try simp only [List.map_toArray, List.map_cons, List.map_nil]); first | done | rfl | (simp only [List.length_drop, List.length_take]; rfl)) ?_; (with_reducible refine (wire_Get.calls k4 _ _ x7_3 x16_4 (wrap64 (1 + (wrap64 (Int.tmod (IntKind.u64.wrap (a2)) 7)))) t385 t386 t387 _ ?side1 ?side2 A56.out).mono ?_); (case side1 => repeat (first | exact (Kd.R_reads' HO_7.out).2.2 | (with_reducible refine Kd.C_alloc ?_ _) | (with_reducible refine Kd.C_drewN ?_ _) | (with_reducible refine Kd.C_drew ?_))); (case side2 => exact (Kd.R_reads' HO_7.out).2.1); rintro e w' ⟨rfl, ⟨nd, rfl⟩⟩; refine ⟨_, rfl, ?_⟩) | ((with_reducible refine gate_callee (f := 11) rfl ?_); refine goesL_ (some 152) rfl rfl Try.func11 (by kernel_rfl) rfl #[.slice Ao69 x7_3.length co69, .int .i64 t386] rfl (by (try simp only [List.map_toArray, List.map_cons, List.map_nil]); first | done | rfl | (simp only [List.length_drop, List.length_take]; rfl)) ?_; (with_reducible refine (wire_GetInt.calls k4 _ _ x7_3 t386 t388 t389 t390 _ ?side1 ?side2 A57.out).mono ?_); (case side1 => repeat (first | exact (Kd.R_reads' HO_7.out).2.2 | (with_reducible refine Kd.C_alloc ?_ _) | (with_reducible refine Kd.C_drewN ?_ _) | (with_reducible refine Kd.C_drew ?_))); (case side2 => exact (Kd.R_reads' HO_7.out).2.1); rintro e w' ⟨rfl, ⟨nd, rfl⟩⟩; refine ⟨_, rfl, ?_⟩; have p391 : 0 ≤ (x17_4 : Int) := of_decide_eq_true (by first | (with_reducible assumption) | assumption); have q391 : x17_4 < (l0.length : Int) := of_decide_eq_true (by first | (with_reducible assumption) | assumption); obtain ⟨ad391, e391, hx391_0⟩ := Kd.at_int HR0.out x17_4 p391 q391; cases e391; replace hx391_0 := (HB.out.cell (World.block_lt_of_cell? w _ hx391_0)).trans hx391_0; replace p391 := eq_true p391; replace q391 := eq_true q391; have p392 : 0 ≤ (x17_4 : Int) := of_decide_eq_true (by first | (with_reducible assumption) | assumption); have q392 : x17_4 < (l0.length : Int) := of_decide_eq_true (by first | (with_reducible assumption) | assumption); obtain ⟨ad392, e392, hx392_0⟩ := Kd.at_int HR0.out x17_4 p392 q392; obtain rfl : ad391 = ad392 := (by injection e392); replace hx392_0 := (HB.out.cell (World.block_lt_of_cell? w _ hx392_0)).trans hx392_0; replace p392 := eq_true p392; replace q392 := eq_true q392) | (go_at_call 10; (with_reducible refine (raddlelaw01_within.calls (rd l0 x17_4) t393 _ A65.out).mono ?_); rintro e w' ⟨rfl, ⟨nd, rfl⟩⟩))
                                          go_roundg k4
                                          case measure => have := HJ3.out; have := HK2.out; have := HK3.out; have := HK4.out; omega
                                          case rel => exact ⟨(t389), (wrap64 (x17_4 + 1)), (by first | rfl | (simp; done) | (simp [*]; done)), (by first | rfl | (simp; done) | (simp [*]; done)), H', ⟨by have := HJ3.out; have := HK2.out; have := HK3.out; have := HK4.out; omega⟩, ⟨by (with_reducible repeat (first | apply Kd.R_alloc | apply Kd.R_drewN | apply Kd.R_drew)); exact HO_7.out⟩, ⟨by repeat (first | (with_reducible first | exact HB.out | apply below_alloc | apply pw_below_drewN | apply below_drew1) | exact HB.out)⟩⟩
                                        · rw [if_neg c68] at H
                                          have c68b0 : (t389 == (wrap64 (t386 + 9))) = false := beq_eq_false_iff_ne.mpr c68
                                          have c68b1 : (t389 != (wrap64 (t386 + 9))) = true := bne_iff_ne.mpr c68
                                          obtain rfl := Option.some.inj H
                                          obtain ⟨Ao70, co70, eo70⟩ := Kd.R_slice HO_7.out
                                          subst eo70
                                          go_wp2_with (first | ((with_reducible refine gate_callee (f := 16) rfl ?_); refine goesL_ (some 145) rfl rfl Try.func16 (by kernel_rfl) rfl #[.slice Ao70 x7_3.length co70, .int .i64 x16_4, .int .i64 (wrap64 (1 + (wrap64 (Int.tmod (IntKind.u64.wrap (a2)) 7))))] rfl (by (try simp only [List.map_toArray, List.map_cons, List.map_nil]); first | done | rfl | (simp only [List.length_drop, List.length_take]; rfl)) ?_; (with_reducible refine (wire_Get.calls k4 _ _ x7_3 x16_4 (wrap64 (1 + (wrap64 (Int.tmod (IntKind.u64.wrap (a2)) 7)))) t385 t386 t387 _ ?side1 ?side2 A56.out).mono ?_); (case side1 => repeat (first | exact (Kd.R_reads' HO_7.out).2.2 | (with_reducible refine Kd.C_alloc ?_ _) | (with_reducible refine Kd.C_drewN ?_ _) | (with_reducible refine Kd.C_drew ?_))); (case side2 => exact (Kd.R_reads' HO_7.out).2.1); rintro e w' ⟨rfl, ⟨nd, rfl⟩⟩; refine ⟨_, rfl, ?_⟩) | ((with_reducible refine gate_callee (f := 11) rfl ?_); refine goesL_ (some 152) rfl rfl Try.func11 (by kernel_rfl) rfl #[.slice Ao70 x7_3.length co70, .int .i64 t386] rfl (by (try simp only [List.map_toArray, List.map_cons, List.map_nil]); first | done | rfl | (simp only [List.length_drop, List.length_take]; rfl)) ?_; (with_reducible refine (wire_GetInt.calls k4 _ _ x7_3 t386 t388 t389 t390 _ ?side1 ?side2 A57.out).mono ?_); (case side1 => repeat (first | exact (Kd.R_reads' HO_7.out).2.2 | (with_reducible refine Kd.C_alloc ?_ _) | (with_reducible refine Kd.C_drewN ?_ _) | (with_reducible refine Kd.C_drew ?_))); (case side2 => exact (Kd.R_reads' HO_7.out).2.1); rintro e w' ⟨rfl, ⟨nd, rfl⟩⟩; refine ⟨_, rfl, ?_⟩; have p391 : 0 ≤ (x17_4 : Int) := of_decide_eq_true (by first | (with_reducible assumption) | assumption); have q391 : x17_4 < (l0.length : Int) := of_decide_eq_true (by first | (with_reducible assumption) | assumption); obtain ⟨ad391, e391, hx391_0⟩ := Kd.at_int HR0.out x17_4 p391 q391; cases e391; replace hx391_0 := (HB.out.cell (World.block_lt_of_cell? w _ hx391_0)).trans hx391_0; replace p391 := eq_true p391; replace q391 := eq_true q391; have p392 : 0 ≤ (x17_4 : Int) := of_decide_eq_true (by first | (with_reducible assumption) | assumption); have q392 : x17_4 < (l0.length : Int) := of_decide_eq_true (by first | (with_reducible assumption) | assumption); obtain ⟨ad392, e392, hx392_0⟩ := Kd.at_int HR0.out x17_4 p392 q392; obtain rfl : ad391 = ad392 := (by injection e392); replace hx392_0 := (HB.out.cell (World.block_lt_of_cell? w _ hx392_0)).trans hx392_0; replace p392 := eq_true p392; replace q392 := eq_true q392) | (go_at_call 10; (with_reducible refine (raddlelaw01_within.calls (rd l0 x17_4) t393 _ A65.out).mono ?_); rintro e w' ⟨rfl, ⟨nd, rfl⟩⟩))
                                          go_ret
                                          exact ⟨by first | rfl | (simp [errW_none, errW_some] <;> rfl) | (simp only [← hji61, ← hji63]; first | rfl | (simp [errW_none, errW_some] <;> rfl)) | (simp [*, errW_none, errW_some] <;> rfl), by repeat (first | (with_reducible first | exact HB.out | apply below_alloc | apply pw_below_drewN | apply below_drew1) | exact HB.out)⟩
                                      · rw [if_neg c67] at H
                                        have c67b0 : (t386 == (wrap64 (x16_4 + (wrap64 (1 + (wrap64 (Int.tmod (IntKind.u64.wrap (a2)) 7))))))) = false := beq_eq_false_iff_ne.mpr c67
                                        have c67b1 : (t386 != (wrap64 (x16_4 + (wrap64 (1 + (wrap64 (Int.tmod (IntKind.u64.wrap (a2)) 7))))))) = true := bne_iff_ne.mpr c67
                                        obtain rfl := Option.some.inj H
                                        obtain ⟨Ao71, co71, eo71⟩ := Kd.R_slice HO_7.out
                                        subst eo71
                                        go_wp2_with (first | ((with_reducible refine gate_callee (f := 16) rfl ?_); refine goesL_ (some 145) rfl rfl Try.func16 (by kernel_rfl) rfl #[.slice Ao71 x7_3.length co71, .int .i64 x16_4, .int .i64 (wrap64 (1 + (wrap64 (Int.tmod (IntKind.u64.wrap (a2)) 7))))] rfl (by (try simp only [List.map_toArray, List.map_cons, List.map_nil]); first | done | rfl | (simp only [List.length_drop, List.length_take]; rfl)) ?_; (with_reducible refine (wire_Get.calls k4 _ _ x7_3 x16_4 (wrap64 (1 + (wrap64 (Int.tmod (IntKind.u64.wrap (a2)) 7)))) t385 t386 t387 _ ?side1 ?side2 A56.out).mono ?_); (case side1 => repeat (first | exact (Kd.R_reads' HO_7.out).2.2 | (with_reducible refine Kd.C_alloc ?_ _) | (with_reducible refine Kd.C_drewN ?_ _) | (with_reducible refine Kd.C_drew ?_))); (case side2 => exact (Kd.R_reads' HO_7.out).2.1); rintro e w' ⟨rfl, ⟨nd, rfl⟩⟩; refine ⟨_, rfl, ?_⟩) | ((with_reducible refine gate_callee (f := 11) rfl ?_); refine goesL_ (some 152) rfl rfl Try.func11 (by kernel_rfl) rfl #[.slice Ao71 x7_3.length co71, .int .i64 t386] rfl (by (try simp only [List.map_toArray, List.map_cons, List.map_nil]); first | done | rfl | (simp only [List.length_drop, List.length_take]; rfl)) ?_; (with_reducible refine (wire_GetInt.calls k4 _ _ x7_3 t386 t388 t389 t390 _ ?side1 ?side2 A57.out).mono ?_); (case side1 => repeat (first | exact (Kd.R_reads' HO_7.out).2.2 | (with_reducible refine Kd.C_alloc ?_ _) | (with_reducible refine Kd.C_drewN ?_ _) | (with_reducible refine Kd.C_drew ?_))); (case side2 => exact (Kd.R_reads' HO_7.out).2.1); rintro e w' ⟨rfl, ⟨nd, rfl⟩⟩; refine ⟨_, rfl, ?_⟩; have p391 : 0 ≤ (x17_4 : Int) := of_decide_eq_true (by first | (with_reducible assumption) | assumption); have q391 : x17_4 < (l0.length : Int) := of_decide_eq_true (by first | (with_reducible assumption) | assumption); obtain ⟨ad391, e391, hx391_0⟩ := Kd.at_int HR0.out x17_4 p391 q391; cases e391; replace hx391_0 := (HB.out.cell (World.block_lt_of_cell? w _ hx391_0)).trans hx391_0; replace p391 := eq_true p391; replace q391 := eq_true q391; have p392 : 0 ≤ (x17_4 : Int) := of_decide_eq_true (by first | (with_reducible assumption) | assumption); have q392 : x17_4 < (l0.length : Int) := of_decide_eq_true (by first | (with_reducible assumption) | assumption); obtain ⟨ad392, e392, hx392_0⟩ := Kd.at_int HR0.out x17_4 p392 q392; obtain rfl : ad391 = ad392 := (by injection e392); replace hx392_0 := (HB.out.cell (World.block_lt_of_cell? w _ hx392_0)).trans hx392_0; replace p392 := eq_true p392; replace q392 := eq_true q392) | (go_at_call 10; (with_reducible refine (raddlelaw01_within.calls (rd l0 x17_4) t393 _ A65.out).mono ?_); rintro e w' ⟨rfl, ⟨nd, rfl⟩⟩))
                                        go_ret
                                        exact ⟨by first | rfl | (simp [errW_none, errW_some] <;> rfl) | (simp only [← hji61, ← hji63]; first | rfl | (simp [errW_none, errW_some] <;> rfl)) | (simp [*, errW_none, errW_some] <;> rfl), by repeat (first | (with_reducible first | exact HB.out | apply below_alloc | apply pw_below_drewN | apply below_drew1) | exact HB.out)⟩
                                    · rw [if_neg c66] at H
                                      have c66b0 : (t388 == t393) = false := beq_eq_false_iff_ne.mpr c66
                                      have c66b1 : (t388 != t393) = true := bne_iff_ne.mpr c66
                                      obtain rfl := Option.some.inj H
                                      obtain ⟨Ao72, co72, eo72⟩ := Kd.R_slice HO_7.out
                                      subst eo72
                                      go_wp2_with (first | ((with_reducible refine gate_callee (f := 16) rfl ?_); refine goesL_ (some 145) rfl rfl Try.func16 (by kernel_rfl) rfl #[.slice Ao72 x7_3.length co72, .int .i64 x16_4, .int .i64 (wrap64 (1 + (wrap64 (Int.tmod (IntKind.u64.wrap (a2)) 7))))] rfl (by (try simp only [List.map_toArray, List.map_cons, List.map_nil]); first | done | rfl | (simp only [List.length_drop, List.length_take]; rfl)) ?_; (with_reducible refine (wire_Get.calls k4 _ _ x7_3 x16_4 (wrap64 (1 + (wrap64 (Int.tmod (IntKind.u64.wrap (a2)) 7)))) t385 t386 t387 _ ?side1 ?side2 A56.out).mono ?_); (case side1 => repeat (first | exact (Kd.R_reads' HO_7.out).2.2 | (with_reducible refine Kd.C_alloc ?_ _) | (with_reducible refine Kd.C_drewN ?_ _) | (with_reducible refine Kd.C_drew ?_))); (case side2 => exact (Kd.R_reads' HO_7.out).2.1); rintro e w' ⟨rfl, ⟨nd, rfl⟩⟩; refine ⟨_, rfl, ?_⟩) | ((with_reducible refine gate_callee (f := 11) rfl ?_); refine goesL_ (some 152) rfl rfl Try.func11 (by kernel_rfl) rfl #[.slice Ao72 x7_3.length co72, .int .i64 t386] rfl (by (try simp only [List.map_toArray, List.map_cons, List.map_nil]); first | done | rfl | (simp only [List.length_drop, List.length_take]; rfl)) ?_; (with_reducible refine (wire_GetInt.calls k4 _ _ x7_3 t386 t388 t389 t390 _ ?side1 ?side2 A57.out).mono ?_); (case side1 => repeat (first | exact (Kd.R_reads' HO_7.out).2.2 | (with_reducible refine Kd.C_alloc ?_ _) | (with_reducible refine Kd.C_drewN ?_ _) | (with_reducible refine Kd.C_drew ?_))); (case side2 => exact (Kd.R_reads' HO_7.out).2.1); rintro e w' ⟨rfl, ⟨nd, rfl⟩⟩; refine ⟨_, rfl, ?_⟩; have p391 : 0 ≤ (x17_4 : Int) := of_decide_eq_true (by first | (with_reducible assumption) | assumption); have q391 : x17_4 < (l0.length : Int) := of_decide_eq_true (by first | (with_reducible assumption) | assumption); obtain ⟨ad391, e391, hx391_0⟩ := Kd.at_int HR0.out x17_4 p391 q391; cases e391; replace hx391_0 := (HB.out.cell (World.block_lt_of_cell? w _ hx391_0)).trans hx391_0; replace p391 := eq_true p391; replace q391 := eq_true q391; have p392 : 0 ≤ (x17_4 : Int) := of_decide_eq_true (by first | (with_reducible assumption) | assumption); have q392 : x17_4 < (l0.length : Int) := of_decide_eq_true (by first | (with_reducible assumption) | assumption); obtain ⟨ad392, e392, hx392_0⟩ := Kd.at_int HR0.out x17_4 p392 q392; obtain rfl : ad391 = ad392 := (by injection e392); replace hx392_0 := (HB.out.cell (World.block_lt_of_cell? w _ hx392_0)).trans hx392_0; replace p392 := eq_true p392; replace q392 := eq_true q392) | (go_at_call 10; (with_reducible refine (raddlelaw01_within.calls (rd l0 x17_4) t393 _ A65.out).mono ?_); rintro e w' ⟨rfl, ⟨nd, rfl⟩⟩))
                                      go_ret
                                      exact ⟨by first | rfl | (simp [errW_none, errW_some] <;> rfl) | (simp only [← hji61, ← hji63]; first | rfl | (simp [errW_none, errW_some] <;> rfl)) | (simp [*, errW_none, errW_some] <;> rfl), by repeat (first | (with_reducible first | exact HB.out | apply below_alloc | apply pw_below_drewN | apply below_drew1) | exact HB.out)⟩
                                  · rw [if_neg c64] at H
                                    have c64b0 : (t385 == (Go.bits .and .i64 (rd l0 x17_4) (wrap64 ((ji63) - 1)))) = false := beq_eq_false_iff_ne.mpr c64
                                    have c64b1 : (t385 != (Go.bits .and .i64 (rd l0 x17_4) (wrap64 ((ji63) - 1)))) = true := bne_iff_ne.mpr c64
                                    obtain rfl := Option.some.inj H
                                    obtain ⟨Ao73, co73, eo73⟩ := Kd.R_slice HO_7.out
                                    subst eo73
                                    go_wp2_with (first | ((with_reducible refine gate_callee (f := 16) rfl ?_); refine goesL_ (some 145) rfl rfl Try.func16 (by kernel_rfl) rfl #[.slice Ao73 x7_3.length co73, .int .i64 x16_4, .int .i64 (wrap64 (1 + (wrap64 (Int.tmod (IntKind.u64.wrap (a2)) 7))))] rfl (by (try simp only [List.map_toArray, List.map_cons, List.map_nil]); first | done | rfl | (simp only [List.length_drop, List.length_take]; rfl)) ?_; (with_reducible refine (wire_Get.calls k4 _ _ x7_3 x16_4 (wrap64 (1 + (wrap64 (Int.tmod (IntKind.u64.wrap (a2)) 7)))) t385 t386 t387 _ ?side1 ?side2 A56.out).mono ?_); (case side1 => repeat (first | exact (Kd.R_reads' HO_7.out).2.2 | (with_reducible refine Kd.C_alloc ?_ _) | (with_reducible refine Kd.C_drewN ?_ _) | (with_reducible refine Kd.C_drew ?_))); (case side2 => exact (Kd.R_reads' HO_7.out).2.1); rintro e w' ⟨rfl, ⟨nd, rfl⟩⟩; refine ⟨_, rfl, ?_⟩) | ((with_reducible refine gate_callee (f := 11) rfl ?_); refine goesL_ (some 152) rfl rfl Try.func11 (by kernel_rfl) rfl #[.slice Ao73 x7_3.length co73, .int .i64 t386] rfl (by (try simp only [List.map_toArray, List.map_cons, List.map_nil]); first | done | rfl | (simp only [List.length_drop, List.length_take]; rfl)) ?_; (with_reducible refine (wire_GetInt.calls k4 _ _ x7_3 t386 t388 t389 t390 _ ?side1 ?side2 A57.out).mono ?_); (case side1 => repeat (first | exact (Kd.R_reads' HO_7.out).2.2 | (with_reducible refine Kd.C_alloc ?_ _) | (with_reducible refine Kd.C_drewN ?_ _) | (with_reducible refine Kd.C_drew ?_))); (case side2 => exact (Kd.R_reads' HO_7.out).2.1); rintro e w' ⟨rfl, ⟨nd, rfl⟩⟩; refine ⟨_, rfl, ?_⟩; have p391 : 0 ≤ (x17_4 : Int) := of_decide_eq_true (by first | (with_reducible assumption) | assumption); have q391 : x17_4 < (l0.length : Int) := of_decide_eq_true (by first | (with_reducible assumption) | assumption); obtain ⟨ad391, e391, hx391_0⟩ := Kd.at_int HR0.out x17_4 p391 q391; cases e391; replace hx391_0 := (HB.out.cell (World.block_lt_of_cell? w _ hx391_0)).trans hx391_0; replace p391 := eq_true p391; replace q391 := eq_true q391))
                                    go_ret
                                    exact ⟨by first | rfl | (simp [errW_none, errW_some] <;> rfl) | (simp only [← hji61, ← hji63]; first | rfl | (simp [errW_none, errW_some] <;> rfl)) | (simp [*, errW_none, errW_some] <;> rfl), by repeat (first | (with_reducible first | exact HB.out | apply below_alloc | apply pw_below_drewN | apply below_drew1) | exact HB.out)⟩
                                · rw [if_neg c62] at H
                                  exact absurd H (by simp)
                              · rw [if_neg c60] at H
                                exact absurd H (by simp)
                            · rw [if_neg c59] at H
                              have c59b0 : (t390 == 0) = false := beq_eq_false_iff_ne.mpr c59
                              have c59b1 : (t390 != 0) = true := bne_iff_ne.mpr c59
                              obtain rfl := Option.some.inj H
                              obtain ⟨Ao74, co74, eo74⟩ := Kd.R_slice HO_7.out
                              subst eo74
                              go_wp2_with (first | ((with_reducible refine gate_callee (f := 16) rfl ?_); refine goesL_ (some 145) rfl rfl Try.func16 (by kernel_rfl) rfl #[.slice Ao74 x7_3.length co74, .int .i64 x16_4, .int .i64 (wrap64 (1 + (wrap64 (Int.tmod (IntKind.u64.wrap (a2)) 7))))] rfl (by (try simp only [List.map_toArray, List.map_cons, List.map_nil]); first | done | rfl | (simp only [List.length_drop, List.length_take]; rfl)) ?_; (with_reducible refine (wire_Get.calls k4 _ _ x7_3 x16_4 (wrap64 (1 + (wrap64 (Int.tmod (IntKind.u64.wrap (a2)) 7)))) t385 t386 t387 _ ?side1 ?side2 A56.out).mono ?_); (case side1 => repeat (first | exact (Kd.R_reads' HO_7.out).2.2 | (with_reducible refine Kd.C_alloc ?_ _) | (with_reducible refine Kd.C_drewN ?_ _) | (with_reducible refine Kd.C_drew ?_))); (case side2 => exact (Kd.R_reads' HO_7.out).2.1); rintro e w' ⟨rfl, ⟨nd, rfl⟩⟩; refine ⟨_, rfl, ?_⟩) | ((with_reducible refine gate_callee (f := 11) rfl ?_); refine goesL_ (some 152) rfl rfl Try.func11 (by kernel_rfl) rfl #[.slice Ao74 x7_3.length co74, .int .i64 t386] rfl (by (try simp only [List.map_toArray, List.map_cons, List.map_nil]); first | done | rfl | (simp only [List.length_drop, List.length_take]; rfl)) ?_; (with_reducible refine (wire_GetInt.calls k4 _ _ x7_3 t386 t388 t389 t390 _ ?side1 ?side2 A57.out).mono ?_); (case side1 => repeat (first | exact (Kd.R_reads' HO_7.out).2.2 | (with_reducible refine Kd.C_alloc ?_ _) | (with_reducible refine Kd.C_drewN ?_ _) | (with_reducible refine Kd.C_drew ?_))); (case side2 => exact (Kd.R_reads' HO_7.out).2.1); rintro e w' ⟨rfl, ⟨nd, rfl⟩⟩; refine ⟨_, rfl, ?_⟩))
                              go_ret
                              exact ⟨by first | rfl | (simp [errW_none, errW_some] <;> rfl) | (simp [*, errW_none, errW_some] <;> rfl), by repeat (first | (with_reducible first | exact HB.out | apply below_alloc | apply pw_below_drewN | apply below_drew1) | exact HB.out)⟩
                          · rw [if_neg c58] at H
                            have c58b0 : (t387 == 0) = false := beq_eq_false_iff_ne.mpr c58
                            have c58b1 : (t387 != 0) = true := bne_iff_ne.mpr c58
                            obtain rfl := Option.some.inj H
                            obtain ⟨Ao75, co75, eo75⟩ := Kd.R_slice HO_7.out
                            subst eo75
                            go_wp2_with (first | ((with_reducible refine gate_callee (f := 16) rfl ?_); refine goesL_ (some 145) rfl rfl Try.func16 (by kernel_rfl) rfl #[.slice Ao75 x7_3.length co75, .int .i64 x16_4, .int .i64 (wrap64 (1 + (wrap64 (Int.tmod (IntKind.u64.wrap (a2)) 7))))] rfl (by (try simp only [List.map_toArray, List.map_cons, List.map_nil]); first | done | rfl | (simp only [List.length_drop, List.length_take]; rfl)) ?_; (with_reducible refine (wire_Get.calls k4 _ _ x7_3 x16_4 (wrap64 (1 + (wrap64 (Int.tmod (IntKind.u64.wrap (a2)) 7)))) t385 t386 t387 _ ?side1 ?side2 A56.out).mono ?_); (case side1 => repeat (first | exact (Kd.R_reads' HO_7.out).2.2 | (with_reducible refine Kd.C_alloc ?_ _) | (with_reducible refine Kd.C_drewN ?_ _) | (with_reducible refine Kd.C_drew ?_))); (case side2 => exact (Kd.R_reads' HO_7.out).2.1); rintro e w' ⟨rfl, ⟨nd, rfl⟩⟩; refine ⟨_, rfl, ?_⟩) | ((with_reducible refine gate_callee (f := 11) rfl ?_); refine goesL_ (some 152) rfl rfl Try.func11 (by kernel_rfl) rfl #[.slice Ao75 x7_3.length co75, .int .i64 t386] rfl (by (try simp only [List.map_toArray, List.map_cons, List.map_nil]); first | done | rfl | (simp only [List.length_drop, List.length_take]; rfl)) ?_; (with_reducible refine (wire_GetInt.calls k4 _ _ x7_3 t386 t388 t389 t390 _ ?side1 ?side2 A57.out).mono ?_); (case side1 => repeat (first | exact (Kd.R_reads' HO_7.out).2.2 | (with_reducible refine Kd.C_alloc ?_ _) | (with_reducible refine Kd.C_drewN ?_ _) | (with_reducible refine Kd.C_drew ?_))); (case side2 => exact (Kd.R_reads' HO_7.out).2.1); rintro e w' ⟨rfl, ⟨nd, rfl⟩⟩; refine ⟨_, rfl, ?_⟩))
                            go_ret
                            exact ⟨by first | rfl | (simp [errW_none, errW_some] <;> rfl) | (simp [*, errW_none, errW_some] <;> rfl), by repeat (first | (with_reducible first | exact HB.out | apply below_alloc | apply pw_below_drewN | apply below_drew1) | exact HB.out)⟩
                        · rw [if_neg c55] at H
                          have c55b0 : decide (x17_4 < (l0.length : Int)) = false := decide_eq_false c55
                          clear c55
                          have H' := Aside0.mk H
                          clear H
                          go_wp2
                          go_loopg [16, 24] k4 (fun kq v16 v24 w' => ∃ (x16_5 : Int) (x24_5 : Int), v16 = .int .i64 x16_5 ∧ v24 = .int .i64 x24_5 ∧ Aside0 (raddlelaw01_WireBack.l3 kq l1 x7_3 x16_5 x24_5 = some r) ∧ Aside0 (kq ≤ k4) ∧ Aside0 (Kd.R (Kd.int .u8) 5 w' w.heap.size (fun _ => True) u7 x7_3) ∧ Aside0 (Below w.heap.size w w'))
                          case atStart => exact ⟨(x16_4), (0), (by first | rfl | (simp; done) | (simp [*]; done)), (by first | rfl | (simp; done) | (simp [*]; done)), H', ⟨Nat.le_refl _⟩, ⟨by (with_reducible repeat (first | apply Kd.R_alloc | apply Kd.R_drewN | apply Kd.R_drew)); exact HO_7.out⟩, ⟨by repeat (first | (with_reducible first | exact HB.out | apply below_alloc | apply pw_below_drewN | apply below_drew1) | exact HB.out)⟩⟩
                          case round =>
                            clear H'
                            try clear c1
                            try clear c2
                            try clear p2
                            try clear p3
                            try clear q3
                            try clear hx3
                            try clear c4
                            try clear c5
                            try clear c5b0
                            try clear c5b1
                            try clear c6
                            try clear p6
                            try clear c7
                            try clear c7b0
                            try clear c8
                            try clear c8b0
                            try clear c9
                            try clear c10
                            try clear c10b0
                            try clear c10b1
                            try clear c11
                            try clear c13
                            try clear c15
                            try clear c15b0
                            try clear c15b1
                            try clear c16
                            try clear c16b0
                            try clear c16b1
                            try clear c17
                            try clear c17b0
                            try clear c17b1
                            try clear c18
                            try clear c18b0
                            try clear c18b1
                            try clear c21
                            try clear p36
                            try clear q36
                            try clear hx36
                            try clear p37
                            try clear q37
                            try clear hx37
                            try clear p38
                            try clear q38
                            try clear hx38
                            try clear p39
                            try clear q39
                            try clear hx39
                            try clear c41
                            try clear c41b0
                            try clear c42
                            try clear c42b0
                            try clear c43
                            try clear c43b0
                            try clear c43b1
                            try clear c45
                            try clear c45b0
                            try clear c45b1
                            try clear c46
                            try clear c46b0
                            try clear c46b1
                            try clear c55
                            try clear c55b0
                            try clear c58
                            try clear c58b0
                            try clear c58b1
                            try clear c59
                            try clear c59b0
                            try clear c59b1
                            try clear c60
                            try clear c60b0
                            try clear c62
                            try clear c62b0
                            try clear c62b1
                            try clear c64
                            try clear c64b0
                            try clear c64b1
                            try clear p64
                            try clear c66
                            try clear c66b0
                            try clear c66b1
                            try clear c67
                            try clear c67b0
                            try clear c67b1
                            try clear c68
                            try clear c68b0
                            try clear c68b1
                            try clear hx367_0
                            try clear hx372_0
                            try clear hx378_0
                            try clear hx379_0
                            try clear hx384_0
                            try clear hx391_0
                            try clear hx392_0
                            try clear p2
                            try clear p3
                            try clear p36
                            try clear p367
                            try clear p37
                            try clear p372
                            try clear p378
                            try clear p379
                            try clear p38
                            try clear p384
                            try clear p391
                            try clear p392
                            try clear p6
                            try clear q3
                            try clear q36
                            try clear q367
                            try clear q37
                            try clear q372
                            try clear q378
                            try clear q379
                            try clear q38
                            try clear q384
                            try clear q391
                            try clear q392
                            obtain ⟨x16_5, x24_5, rfl, rfl, HA, HK5, HO_7, HB⟩ := hrel
                            cases gk with
                            | zero => exact absurd HA.out (by simp [raddlelaw01_WireBack.l3])
                            | succ k5 =>
                              have H := HA.out
                              clear HA
                              simp only [raddlelaw01_WireBack.l3] at H
                              by_cases c76 : x24_5 < (l1.length : Int)
                              · rw [if_pos c76] at H
                                have c76b0 : decide (x24_5 < (l1.length : Int)) = true := decide_eq_true c76
                                clear c76
                                replace H := Option.bind_eq_some_iff.mp H
                                obtain ⟨⟨t394, t395, t396⟩, A770, H⟩ := H
                                replace H : (if t396 = 0 then (if 0 ≤ x24_5 then (if t394.toList = (rdOf ByteArray.empty l1 x24_5).toList then (if t395 = (wrap64 ((wrap64 (x16_5 + 1)) + (t394.size : Int))) then (raddlelaw01_WireBack.l3 k5 l1 x7_3 t395 (wrap64 (x24_5 + 1))) else (some false)) else (some false)) else (none)) else (some false)) = some r := H
                                have A77 := Aside0.mk A770
                                clear A770
                                by_cases c78 : t396 = 0
                                · rw [if_pos c78] at H
                                  have c78b0 : (t396 == 0) = true := beq_iff_eq.mpr c78
                                  have c78b1 : (t396 != 0) = false := bne_eq_false_iff_eq.mpr c78
                                  clear c78
                                  by_cases c79 : 0 ≤ x24_5
                                  · rw [if_pos c79] at H
                                    have c79b0 : decide (0 ≤ x24_5) = true := decide_eq_true c79
                                    clear c79
                                    by_cases c80 : t394.toList = (rdOf ByteArray.empty l1 x24_5).toList
                                    · rw [if_pos c80] at H
                                      have c80b0 : (t394.toList == (rdOf ByteArray.empty l1 x24_5).toList) = true := beq_iff_eq.mpr c80
                                      have c80b1 : (t394.toList != (rdOf ByteArray.empty l1 x24_5).toList) = false := bne_eq_false_iff_eq.mpr c80
                                      clear c80
                                      by_cases c81 : t395 = (wrap64 ((wrap64 (x16_5 + 1)) + (t394.size : Int)))
                                      · rw [if_pos c81] at H
                                        have c81b0 : (t395 == (wrap64 ((wrap64 (x16_5 + 1)) + (t394.size : Int)))) = true := beq_iff_eq.mpr c81
                                        have c81b1 : (t395 != (wrap64 ((wrap64 (x16_5 + 1)) + (t394.size : Int)))) = false := bne_eq_false_iff_eq.mpr c81
                                        clear c81
                                        have H' := Aside0.mk H
                                        clear H
                                        obtain ⟨Ao82, co82, eo82⟩ := Kd.R_slice HO_7.out
                                        subst eo82
                                        go_wp2_with (first | ((with_reducible refine gate_callee (f := 17) rfl ?_); refine goesL_ (some 208) rfl rfl Try.func17 (by kernel_rfl) rfl #[.slice Ao82 x7_3.length co82, .int .i64 x16_5] rfl (by (try simp only [List.map_toArray, List.map_cons, List.map_nil]); first | done | rfl | (simp only [List.length_drop, List.length_take]; rfl)) ?_; (with_reducible refine (wire_GetText.calls k5 _ _ x7_3 x16_5 t394 t395 t396 _ ?side1 ?side2 A77.out).mono ?_); (case side1 => repeat (first | exact (Kd.R_reads' HO_7.out).2.2 | (with_reducible refine Kd.C_alloc ?_ _) | (with_reducible refine Kd.C_drewN ?_ _) | (with_reducible refine Kd.C_drew ?_))); (case side2 => exact (Kd.R_reads' HO_7.out).2.1); rintro e w' ⟨rfl, ⟨nd, rfl⟩⟩; refine ⟨_, rfl, ?_⟩; have p397 : 0 ≤ (x24_5 : Int) := of_decide_eq_true (by first | (with_reducible assumption) | assumption); have q397 : x24_5 < (l1.length : Int) := of_decide_eq_true (by first | (with_reducible assumption) | assumption); obtain ⟨ad397, e397, hx397_0⟩ := Kd.at_string HR1.out x24_5 p397 q397; cases e397; replace hx397_0 := (HB.out.cell (World.block_lt_of_cell? w _ hx397_0)).trans hx397_0; replace p397 := eq_true p397; replace q397 := eq_true q397))
                                        go_roundg k5
                                        case measure => have := HJ3.out; have := HK2.out; have := HK3.out; have := HK4.out; have := HK5.out; omega
                                        case rel => exact ⟨(t395), (wrap64 (x24_5 + 1)), (by first | rfl | (simp; done) | (simp [*]; done)), (by first | rfl | (simp; done) | (simp [*]; done)), H', ⟨by have := HJ3.out; have := HK2.out; have := HK3.out; have := HK4.out; have := HK5.out; omega⟩, ⟨by (with_reducible repeat (first | apply Kd.R_alloc | apply Kd.R_drewN | apply Kd.R_drew)); exact HO_7.out⟩, ⟨by repeat (first | (with_reducible first | exact HB.out | apply below_alloc | apply pw_below_drewN | apply below_drew1) | exact HB.out)⟩⟩
                                      · rw [if_neg c81] at H
                                        have c81b0 : (t395 == (wrap64 ((wrap64 (x16_5 + 1)) + (t394.size : Int)))) = false := beq_eq_false_iff_ne.mpr c81
                                        have c81b1 : (t395 != (wrap64 ((wrap64 (x16_5 + 1)) + (t394.size : Int)))) = true := bne_iff_ne.mpr c81
                                        obtain rfl := Option.some.inj H
                                        obtain ⟨Ao83, co83, eo83⟩ := Kd.R_slice HO_7.out
                                        subst eo83
                                        go_wp2_with (first | ((with_reducible refine gate_callee (f := 17) rfl ?_); refine goesL_ (some 208) rfl rfl Try.func17 (by kernel_rfl) rfl #[.slice Ao83 x7_3.length co83, .int .i64 x16_5] rfl (by (try simp only [List.map_toArray, List.map_cons, List.map_nil]); first | done | rfl | (simp only [List.length_drop, List.length_take]; rfl)) ?_; (with_reducible refine (wire_GetText.calls k5 _ _ x7_3 x16_5 t394 t395 t396 _ ?side1 ?side2 A77.out).mono ?_); (case side1 => repeat (first | exact (Kd.R_reads' HO_7.out).2.2 | (with_reducible refine Kd.C_alloc ?_ _) | (with_reducible refine Kd.C_drewN ?_ _) | (with_reducible refine Kd.C_drew ?_))); (case side2 => exact (Kd.R_reads' HO_7.out).2.1); rintro e w' ⟨rfl, ⟨nd, rfl⟩⟩; refine ⟨_, rfl, ?_⟩; have p397 : 0 ≤ (x24_5 : Int) := of_decide_eq_true (by first | (with_reducible assumption) | assumption); have q397 : x24_5 < (l1.length : Int) := of_decide_eq_true (by first | (with_reducible assumption) | assumption); obtain ⟨ad397, e397, hx397_0⟩ := Kd.at_string HR1.out x24_5 p397 q397; cases e397; replace hx397_0 := (HB.out.cell (World.block_lt_of_cell? w _ hx397_0)).trans hx397_0; replace p397 := eq_true p397; replace q397 := eq_true q397))
                                        go_ret
                                        exact ⟨by first | rfl | (simp [errW_none, errW_some] <;> rfl) | (simp [*, errW_none, errW_some] <;> rfl), by repeat (first | (with_reducible first | exact HB.out | apply below_alloc | apply pw_below_drewN | apply below_drew1) | exact HB.out)⟩
                                    · rw [if_neg c80] at H
                                      have c80b0 : (t394.toList == (rdOf ByteArray.empty l1 x24_5).toList) = false := beq_eq_false_iff_ne.mpr c80
                                      have c80b1 : (t394.toList != (rdOf ByteArray.empty l1 x24_5).toList) = true := bne_iff_ne.mpr c80
                                      obtain rfl := Option.some.inj H
                                      obtain ⟨Ao84, co84, eo84⟩ := Kd.R_slice HO_7.out
                                      subst eo84
                                      go_wp2_with (first | ((with_reducible refine gate_callee (f := 17) rfl ?_); refine goesL_ (some 208) rfl rfl Try.func17 (by kernel_rfl) rfl #[.slice Ao84 x7_3.length co84, .int .i64 x16_5] rfl (by (try simp only [List.map_toArray, List.map_cons, List.map_nil]); first | done | rfl | (simp only [List.length_drop, List.length_take]; rfl)) ?_; (with_reducible refine (wire_GetText.calls k5 _ _ x7_3 x16_5 t394 t395 t396 _ ?side1 ?side2 A77.out).mono ?_); (case side1 => repeat (first | exact (Kd.R_reads' HO_7.out).2.2 | (with_reducible refine Kd.C_alloc ?_ _) | (with_reducible refine Kd.C_drewN ?_ _) | (with_reducible refine Kd.C_drew ?_))); (case side2 => exact (Kd.R_reads' HO_7.out).2.1); rintro e w' ⟨rfl, ⟨nd, rfl⟩⟩; refine ⟨_, rfl, ?_⟩; have p397 : 0 ≤ (x24_5 : Int) := of_decide_eq_true (by first | (with_reducible assumption) | assumption); have q397 : x24_5 < (l1.length : Int) := of_decide_eq_true (by first | (with_reducible assumption) | assumption); obtain ⟨ad397, e397, hx397_0⟩ := Kd.at_string HR1.out x24_5 p397 q397; cases e397; replace hx397_0 := (HB.out.cell (World.block_lt_of_cell? w _ hx397_0)).trans hx397_0; replace p397 := eq_true p397; replace q397 := eq_true q397))
                                      go_ret
                                      exact ⟨by first | rfl | (simp [errW_none, errW_some] <;> rfl) | (simp [*, errW_none, errW_some] <;> rfl), by repeat (first | (with_reducible first | exact HB.out | apply below_alloc | apply pw_below_drewN | apply below_drew1) | exact HB.out)⟩
                                  · rw [if_neg c79] at H
                                    exact absurd H (by simp)
                                · rw [if_neg c78] at H
                                  have c78b0 : (t396 == 0) = false := beq_eq_false_iff_ne.mpr c78
                                  have c78b1 : (t396 != 0) = true := bne_iff_ne.mpr c78
                                  obtain rfl := Option.some.inj H
                                  obtain ⟨Ao85, co85, eo85⟩ := Kd.R_slice HO_7.out
                                  subst eo85
                                  go_wp2_with (first | ((with_reducible refine gate_callee (f := 17) rfl ?_); refine goesL_ (some 208) rfl rfl Try.func17 (by kernel_rfl) rfl #[.slice Ao85 x7_3.length co85, .int .i64 x16_5] rfl (by (try simp only [List.map_toArray, List.map_cons, List.map_nil]); first | done | rfl | (simp only [List.length_drop, List.length_take]; rfl)) ?_; (with_reducible refine (wire_GetText.calls k5 _ _ x7_3 x16_5 t394 t395 t396 _ ?side1 ?side2 A77.out).mono ?_); (case side1 => repeat (first | exact (Kd.R_reads' HO_7.out).2.2 | (with_reducible refine Kd.C_alloc ?_ _) | (with_reducible refine Kd.C_drewN ?_ _) | (with_reducible refine Kd.C_drew ?_))); (case side2 => exact (Kd.R_reads' HO_7.out).2.1); rintro e w' ⟨rfl, ⟨nd, rfl⟩⟩; refine ⟨_, rfl, ?_⟩))
                                  go_ret
                                  exact ⟨by first | rfl | (simp [errW_none, errW_some] <;> rfl) | (simp [*, errW_none, errW_some] <;> rfl), by repeat (first | (with_reducible first | exact HB.out | apply below_alloc | apply pw_below_drewN | apply below_drew1) | exact HB.out)⟩
                              · rw [if_neg c76] at H
                                have c76b0 : decide (x24_5 < (l1.length : Int)) = false := decide_eq_false c76
                                clear c76
                                by_cases c86 : x16_5 = (x7_3.length : Int)
                                · rw [if_pos c86] at H
                                  have c86b0 : (x16_5 == (x7_3.length : Int)) = true := beq_iff_eq.mpr c86
                                  have c86b1 : (x16_5 != (x7_3.length : Int)) = false := bne_eq_false_iff_eq.mpr c86
                                  clear c86
                                  replace H := Option.bind_eq_some_iff.mp H
                                  obtain ⟨t398, A870, H⟩ := H
                                  replace H : (some t398) = some r := H
                                  have A87 := Aside0.mk A870
                                  clear A870
                                  obtain rfl := Option.some.inj H
                                  obtain ⟨Ao88, co88, eo88⟩ := Kd.R_slice HO_7.out
                                  subst eo88
                                  go_wp2_with (first | (go_at_call 12; (with_reducible refine (raddlelaw01_wakes.calls k5  t398 _ A87.out).mono ?_); rintro e w89 ⟨rfl, hb⟩; have n0_ := Aside0.mk (Kd.R_below (by (with_reducible repeat (first | apply Kd.R_alloc | apply Kd.R_drewN | apply Kd.R_drew)); exact HO_7.out) hb); have n1_ := Aside0.mk (below_step (by repeat (first | (with_reducible first | exact HB.out | apply below_alloc | apply pw_below_drewN | apply below_drew1) | exact HB.out)) hb); clear HO_7; clear HB; have HO_7 := n0_; have HB := n1_; clear n0_ n1_; (try clear hb); (try clear hb2); (try clear hk); (try clear hi)))
                                  go_ret
                                  exact ⟨by first | rfl | (simp [errW_none, errW_some] <;> rfl) | (simp [*, errW_none, errW_some] <;> rfl), by repeat (first | (with_reducible first | exact HB.out | apply below_alloc | apply pw_below_drewN | apply below_drew1) | exact HB.out)⟩
                                · rw [if_neg c86] at H
                                  have c86b0 : (x16_5 == (x7_3.length : Int)) = false := beq_eq_false_iff_ne.mpr c86
                                  have c86b1 : (x16_5 != (x7_3.length : Int)) = true := bne_iff_ne.mpr c86
                                  obtain rfl := Option.some.inj H
                                  obtain ⟨Ao90, co90, eo90⟩ := Kd.R_slice HO_7.out
                                  subst eo90
                                  go_wp2
                                  go_ret
                                  exact ⟨by first | rfl | (simp [errW_none, errW_some] <;> rfl) | (simp [*, errW_none, errW_some] <;> rfl), by repeat (first | (with_reducible first | exact HB.out | apply below_alloc | apply pw_below_drewN | apply below_drew1) | exact HB.out)⟩
/-- THE ONE PURE STATEMENT of raddlelaw01_WireBack. -/
def raddlelaw01_WireBack.Pure : Prop := ∀ (x0 : List Int) (x1 : List ByteArray) (x2 : Int), (x0.length ≤ maxLen ∧ ∀ x0_ ∈ x0, (Lit.int .i64 x0_).wf = true) → (x1.length ≤ maxLen ∧ ∀ x0_ ∈ x1, x0_.size ≤ maxLen) → (Lit.int .i64 x2).wf = true → ∃ k, raddlelaw01_WireBack.f k x0 x1 x2 = some true

end Go.Proofs.Ytomahagonogapaa.PAll
