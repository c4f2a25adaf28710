-- Put together by a program of this session (wip/slice2.py) out of the seat's texts.
import Derived.Test.YtjnjfogfpmeacaaZOKp2

set_option maxHeartbeats 8000000
set_option maxRecDepth 100000
open Go.Proofs.YtjnjfogfpmeacaaW Go.Proofs.Ytjnjfogfpmeacaa
section
namespace Go.Proofs.Ytjnjfogfpmeacaa.PAll
open Go.RowKit PrintWords PrintLast PrintMore ZipT PrintWords.Kd PrintMore.Kd
attribute [local go_sem] max2_int min2_int max_two min_two max_three min_three max_four min_four   -- for this text's walks alone
set_option linter.unusedVariables false
set_option linter.unusedSimpArgs false
def raddlelaw07_HeavyForms.l0 : Nat → List (S51) → Int → Option (Bool)
 | 0, _, _ => none
 | k + 1, x0, x3 => if x3 < (x0.length : Int) then (if 0 ≤ x3 then (if (((rd_T51 x0 x3).f0).length : Int) > 30 then (some true) else (raddlelaw07_HeavyForms.l0 k x0 (wrap64 (x3 + 1)))) else (none)) else (some false)
def raddlelaw07_HeavyForms.f (k : Nat) (l0 : List (S51)) : Option (Bool) := if (l0.length : Int) > 30 then (some true) else (raddlelaw07_HeavyForms.l0 k l0 0)
theorem raddlelaw07_HeavyForms.calls (k : Nat) (A0 : Option Addr) (c0 : Nat) (l0 : List (S51)) (r : Bool) (w : World) (hr0 : Kd.C k51 w A0 l0.length l0) (hc0 : l0.length ≤ c0) (h : raddlelaw07_HeavyForms.f k l0 = some r) :
  Calls Try.prog 17 #[.slice A0 l0.length c0] w fun e w' => e = .returned (.bool r) ∧ Drawn0 w w' := by
 have HR0 := mk_ hr0
 have HC0 := mk_ hc0
 clear hr0 hc0
 have H : (if (l0.length : Int) > 30 then (some true) else (raddlelaw07_HeavyForms.l0 k l0 0)) = some r := h
 clear h
 by_cases c2 : (l0.length : Int) > 30
 ·
  rw [if_pos c2] at H
  have c2b0 : decide (30 < (l0.length : Int)) = true := decide_eq_true c2
  have c2b1 : decide (30 < l0.length) = true := decide_eq_true z3_
  clear c2
  obtain rfl := Option.some.inj H
  go_enter Try.func17, Try.ntmps17
  go_wp2
  go_ret
  exact ⟨z4_, by repeat (first | exact Drawn0.refl _ | apply Drawn0.step)⟩
 rw [if_neg c2] at H
 have c2b0 : decide (30 < (l0.length : Int)) = false := decide_eq_false c2
 have c2b1 : decide (30 < l0.length) = false := decide_eq_false z3_
 clear c2
 have H' := mk_ H
 clear H
 go_enter Try.func17, Try.ntmps17
 go_wp2
 go_loopg [3] k (fun kq v3 w' => ∃ (x3_1 : Int), v3 = .int .i64 x3_1 ∧ Aside0 (raddlelaw07_HeavyForms.l0 kq l0 x3_1 = some r) ∧ Aside0 (kq ≤ k) ∧ Drawn0 w w')
 case atStart => exact ⟨(0), z4_, H', ⟨Nat.le_refl _⟩, by repeat (first | exact Drawn0.refl _ | apply Drawn0.step)⟩
 case round =>
  clear H'
  try clear c1
  try clear c2
  try clear c2b0
  try clear c2b1
  try clear p2
  obtain ⟨x3_1, rfl, HA, HK1, ⟨m1, rfl⟩⟩ := hrel
  cases gk with
  | zero => exact absurd HA.out (by simp [raddlelaw07_HeavyForms.l0])
  | succ k1 =>
   have H := HA.out
   clear HA
   simp only [raddlelaw07_HeavyForms.l0] at H
   by_cases c3 : x3_1 < (l0.length : Int)
   rotate_left
   ·
    rw [if_neg c3] at H
    have c3b0 : decide (x3_1 < (l0.length : Int)) = false := decide_eq_false c3
    clear c3
    obtain rfl := Option.some.inj H
    go_wp2
    go_ret
    exact ⟨z4_, by repeat (first | exact Drawn0.refl _ | apply Drawn0.step)⟩
   rw [if_pos c3] at H
   have c3b0 : decide (x3_1 < (l0.length : Int)) = true := decide_eq_true c3
   clear c3
   by_cases c4 : 0 ≤ x3_1
   rotate_left
   ·
    rw [if_neg c4] at H
    exact absurd H (by simp)
   rw [if_pos c4] at H
   have c4b0 : decide (0 ≤ x3_1) = true := decide_eq_true c4
   clear c4
   by_cases c5 : (((rd_T51 l0 x3_1).f0).length : Int) > 30
   ·
    rw [if_pos c5] at H
    have c5b0 : decide (30 < (((rd_T51 l0 x3_1).f0).length : Int)) = true := decide_eq_true c5
    have c5b1 : decide (30 < ((rd_T51 l0 x3_1).f0).length) = true := decide_eq_true z3_
    clear c5
    obtain rfl := Option.some.inj H
    have p553 : 0 ≤ (x3_1 : Int) := of_decide_eq_true z1_
    have q553 : x3_1 < (l0.length : Int) := of_decide_eq_true z1_
    obtain ⟨ad553, A553_0, c553_0, e553, hx553_0, hl553_0, hi553_0⟩ := at_T51 HR0.out x3_1 p553 q553
    cases e553
    have HR553_0 := mk_ hi553_0
    have HC553_0 := mk_ hl553_0
    clear hi553_0 hl553_0
    replace p553 := eq_true p553
    replace q553 := eq_true q553
    go_wp2
    go_ret
    exact ⟨z4_, by repeat (first | exact Drawn0.refl _ | apply Drawn0.step)⟩
   rw [if_neg c5] at H
   have c5b0 : decide (30 < (((rd_T51 l0 x3_1).f0).length : Int)) = false := decide_eq_false c5
   have c5b1 : decide (30 < ((rd_T51 l0 x3_1).f0).length) = false := decide_eq_false z3_
   clear c5
   have H' := mk_ H
   clear H
   have p553 : 0 ≤ (x3_1 : Int) := of_decide_eq_true z1_
   have q553 : x3_1 < (l0.length : Int) := of_decide_eq_true z1_
   obtain ⟨ad553, A553_0, c553_0, e553, hx553_0, hl553_0, hi553_0⟩ := at_T51 HR0.out x3_1 p553 q553
   cases e553
   have HR553_0 := mk_ hi553_0
   have HC553_0 := mk_ hl553_0
   clear hi553_0 hl553_0
   replace p553 := eq_true p553
   replace q553 := eq_true q553
   go_wp2
   go_roundg k1
   case measure => have := HK1.out; omega
   case rel => exact ⟨(wrap64 (x3_1 + 1)), z4_, H', ⟨by have := HK1.out; omega⟩, by repeat (first | exact Drawn0.refl _ | apply Drawn0.step)⟩
def raddleref01_Type.f (a0 : Int) : Option (Bool) := (raddleref01_in.f a0 2 4).bind fun t600 => (some t600)
theorem raddleref01_Type.calls (a0 : Int) (r : Bool) (w : World) (h : raddleref01_Type.f a0 = some r) :
  Calls Try.prog 76 #[.int .i64 a0] w fun e w' => e = .returned (.bool r) ∧ Drawn0 w w' := by
 have H : ((raddleref01_in.f a0 2 4).bind fun t600 => (some t600)) = some r := h
 clear h
 obtain ⟨t600, A2, H⟩ := Option.bind_eq_some_iff.mp H
 replace A2 := mk_ A2
 obtain rfl := Option.some.inj H
 go_enter Try.func76, Try.ntmps76
 go_wp2_with (first | ((with_reducible refine gate_callee (f := 27) rfl ?_); refine Short.gL (some 4) Try.func27 #[.int .i64 a0, .int .i64 2, .int .i64 4] (h := ?_); (with_reducible refine (raddleref01_in.calls a0 2 4 t600 _ A2.out).mono ?_); rintro e w' ⟨rfl, ⟨nd, rfl⟩⟩; refine ⟨_, rfl, ?_⟩))
 go_ret
 exact ⟨z4_, by repeat (first | exact Drawn0.refl _ | apply Drawn0.step)⟩
mutual
def raddleref01_Forms.l0 : Nat → List (S51) → Int → Option (Int)
 | 0, _, _ => none
 | k + 1, x0, x3 => if x3 < (x0.length : Int) then (if 0 ≤ x3 then ((raddleref01_in.f (((rd_T51 x0 x3).f0).length : Int) 1 4).bind fun t603 => (if t603 = true then (raddleref01_Forms.l0 k x0 (wrap64 (x3 + 1))) else (some 2))) else (none)) else (raddleref01_Forms.l1 k x0 0)
def raddleref01_Forms.l1 : Nat → List (S51) → Int → Option (Int)
 | 0, _, _ => none
 | k + 1, x0, x4 => if x4 < (x0.length : Int) then (raddleref01_Forms.l2 k x0 x4 0) else (some 0)
def raddleref01_Forms.l2 : Nat → List (S51) → Int → Int → Option (Int)
 | 0, _, _, _ => none
 | k + 1, x0, x4, x5 => if 0 ≤ x4 then (if x4 < (x0.length : Int) then (if x5 < (((rd_T51 x0 x4).f0).length : Int) then (if 0 ≤ x5 then ((raddleref01_Type.f (rd ((rd_T51 x0 x4).f0) x5)).bind fun t607 => (if t607 = true then (raddleref01_Forms.l2 k x0 x4 (wrap64 (x5 + 1))) else (some 10))) else (none)) else (raddleref01_Forms.l1 k x0 (wrap64 (x4 + 1)))) else (none)) else (none)
end
def raddleref01_Forms.f (k : Nat) (l0 : List (S51)) : Option (Int) := (raddleref01_in.f (l0.length : Int) 1 3).bind fun t601 => (if t601 = true then (raddleref01_Forms.l0 k l0 0) else (some 2))
theorem raddleref01_Forms.calls (k : Nat) (A0 : Option Addr) (c0 : Nat) (l0 : List (S51)) (r : Int) (w : World) (hr0 : Kd.C k51 w A0 l0.length l0) (hc0 : l0.length ≤ c0) (h : raddleref01_Forms.f k l0 = some r) :
  Calls Try.prog 37 #[.slice A0 l0.length c0] w fun e w' => e = .returned (.int .i64 r) ∧ Drawn0 w w' := by
 have HR0 := mk_ hr0
 have HC0 := mk_ hc0
 clear hr0 hc0
 have H : ((raddleref01_in.f (l0.length : Int) 1 3).bind fun t601 => (if t601 = true then (raddleref01_Forms.l0 k l0 0) else (some 2))) = some r := h
 clear h
 obtain ⟨t601, A2, H⟩ := Option.bind_eq_some_iff.mp H
 replace A2 := mk_ A2
 by_cases c3 : t601 = true
 rotate_left
 ·
  replace c3 := Bool.eq_false_iff.mpr c3
  subst c3
  rw [if_neg (show ¬ (false = true) by decide)] at H
  obtain rfl := Option.some.inj H
  go_enter Try.func37, Try.ntmps37
  go_wp2_with (first | ((with_reducible refine gate_callee (f := 27) rfl ?_); refine Short.gL (some 8) Try.func27 #[.int .i64 (l0.length : Int), .int .i64 1, .int .i64 3] (h := ?_); (with_reducible refine (raddleref01_in.calls (l0.length : Int) 1 3 false _ A2.out).mono ?_); rintro e w' ⟨rfl, ⟨nd, rfl⟩⟩; refine ⟨_, rfl, ?_⟩))
  go_ret
  exact ⟨z4_, by repeat (first | exact Drawn0.refl _ | apply Drawn0.step)⟩
 subst c3
 rw [if_pos rfl] at H
 have H' := mk_ H
 clear H
 go_enter Try.func37, Try.ntmps37
 go_wp2_with (first | ((with_reducible refine gate_callee (f := 27) rfl ?_); refine Short.gL (some 8) Try.func27 #[.int .i64 (l0.length : Int), .int .i64 1, .int .i64 3] (h := ?_); (with_reducible refine (raddleref01_in.calls (l0.length : Int) 1 3 true _ A2.out).mono ?_); rintro e w' ⟨rfl, ⟨nd, rfl⟩⟩; refine ⟨_, rfl, ?_⟩))
 go_loopg [3] k (fun kq v3 w' => ∃ (x3_1 : Int), v3 = .int .i64 x3_1 ∧ Aside0 (raddleref01_Forms.l0 kq l0 x3_1 = some r) ∧ Aside0 (kq ≤ k) ∧ Drawn0 w w')
 case atStart => exact ⟨(0), z4_, H', ⟨Nat.le_refl _⟩, by repeat (first | exact Drawn0.refl _ | apply Drawn0.step)⟩
 case round =>
  clear H'
  try clear c2
  try clear p2
  try clear c3
  obtain ⟨x3_1, rfl, HA, HK1, ⟨m1, rfl⟩⟩ := hrel
  cases gk with
  | zero => exact absurd HA.out (by simp [raddleref01_Forms.l0])
  | succ k1 =>
   have H := HA.out
   clear HA
   simp only [raddleref01_Forms.l0] at H
   by_cases c4 : x3_1 < (l0.length : Int)
   ·
    rw [if_pos c4] at H
    have c4b0 : decide (x3_1 < (l0.length : Int)) = true := decide_eq_true c4
    clear c4
    by_cases c5 : 0 ≤ x3_1
    rotate_left
    ·
     rw [if_neg c5] at H
     exact absurd H (by simp)
    rw [if_pos c5] at H
    have c5b0 : decide (0 ≤ x3_1) = true := decide_eq_true c5
    clear c5
    obtain ⟨t603, A6, H⟩ := Option.bind_eq_some_iff.mp H
    replace A6 := mk_ A6
    by_cases c7 : t603 = true
    rotate_left
    ·
     replace c7 := Bool.eq_false_iff.mpr c7
     subst c7
     rw [if_neg (show ¬ (false = true) by decide)] at H
     obtain rfl := Option.some.inj H
     have p602 : 0 ≤ (x3_1 : Int) := of_decide_eq_true z1_
     have q602 : x3_1 < (l0.length : Int) := of_decide_eq_true z1_
     obtain ⟨ad602, A602_0, c602_0, e602, hx602_0, hl602_0, hi602_0⟩ := at_T51 HR0.out x3_1 p602 q602
     cases e602
     have HR602_0 := mk_ hi602_0
     have HC602_0 := mk_ hl602_0
     clear hi602_0 hl602_0
     replace p602 := eq_true p602
     replace q602 := eq_true q602
     go_wp2_with (first | ((with_reducible refine gate_callee (f := 27) rfl ?_); refine Short.gL (some 22) Try.func27 #[.int .i64 (((rd_T51 l0 x3_1).f0).length : Int), .int .i64 1, .int .i64 4] (h := ?_); (with_reducible refine (raddleref01_in.calls (((rd_T51 l0 x3_1).f0).length : Int) 1 4 false _ A6.out).mono ?_); rintro e w' ⟨rfl, ⟨nd, rfl⟩⟩; refine ⟨_, rfl, ?_⟩))
     go_ret
     exact ⟨z4_, by repeat (first | exact Drawn0.refl _ | apply Drawn0.step)⟩
    subst c7
    rw [if_pos rfl] at H
    have H' := mk_ H
    clear H
    have p602 : 0 ≤ (x3_1 : Int) := of_decide_eq_true z1_
    have q602 : x3_1 < (l0.length : Int) := of_decide_eq_true z1_
    obtain ⟨ad602, A602_0, c602_0, e602, hx602_0, hl602_0, hi602_0⟩ := at_T51 HR0.out x3_1 p602 q602
    cases e602
    have HR602_0 := mk_ hi602_0
    have HC602_0 := mk_ hl602_0
    clear hi602_0 hl602_0
    replace p602 := eq_true p602
    replace q602 := eq_true q602
    go_wp2_with (first | ((with_reducible refine gate_callee (f := 27) rfl ?_); refine Short.gL (some 22) Try.func27 #[.int .i64 (((rd_T51 l0 x3_1).f0).length : Int), .int .i64 1, .int .i64 4] (h := ?_); (with_reducible refine (raddleref01_in.calls (((rd_T51 l0 x3_1).f0).length : Int) 1 4 true _ A6.out).mono ?_); rintro e w' ⟨rfl, ⟨nd, rfl⟩⟩; refine ⟨_, rfl, ?_⟩))
    go_roundg k1
    case measure => have := HK1.out; omega
    case rel => exact ⟨(wrap64 (x3_1 + 1)), z4_, H', ⟨by have := HK1.out; omega⟩, by repeat (first | exact Drawn0.refl _ | apply Drawn0.step)⟩
   rw [if_neg c4] at H
   have c4b0 : decide (x3_1 < (l0.length : Int)) = false := decide_eq_false c4
   clear c4
   have H' := mk_ H
   clear H
   go_wp2
   go_loopg [4] k1 (fun kq v4 w' => ∃ (x4_2 : Int), v4 = .int .i64 x4_2 ∧ Aside0 (raddleref01_Forms.l1 kq l0 x4_2 = some r) ∧ Aside0 (kq ≤ k1) ∧ Drawn0 w w')
   case atStart => exact ⟨(0), z4_, H', ⟨Nat.le_refl _⟩, by repeat (first | exact Drawn0.refl _ | apply Drawn0.step)⟩
   case round =>
    clear H'
    try clear c2
    try clear p2
    try clear c3
    try clear c4
    try clear c4b0
    try clear c5
    try clear c5b0
    try clear c6
    try clear p6
    try clear q6
    try clear hx6
    try clear c7
    try clear hx602_0
    try clear p2
    try clear p602
    try clear q602
    obtain ⟨x4_2, rfl, HA, HK2, ⟨m2, rfl⟩⟩ := hrel
    cases gk with
    | zero => exact absurd HA.out (by simp [raddleref01_Forms.l1])
    | succ k2 =>
     have H := HA.out
     clear HA
     simp only [raddleref01_Forms.l1] at H
     by_cases c8 : x4_2 < (l0.length : Int)
     rotate_left
     ·
      rw [if_neg c8] at H
      have c8b0 : decide (x4_2 < (l0.length : Int)) = false := decide_eq_false c8
      clear c8
      obtain rfl := Option.some.inj H
      go_wp2
      go_ret
      exact ⟨z4_, by repeat (first | exact Drawn0.refl _ | apply Drawn0.step)⟩
     rw [if_pos c8] at H
     have c8b0 : decide (x4_2 < (l0.length : Int)) = true := decide_eq_true c8
     clear c8
     have H' := mk_ H
     clear H
     go_wp2
     go_loopg [5] k2 (fun kq v5 w' => ∃ (x5_3 : Int), v5 = .int .i64 x5_3 ∧ Aside0 (raddleref01_Forms.l2 kq l0 x4_2 x5_3 = some r) ∧ Aside0 (kq ≤ k2) ∧ Drawn0 w w')
     case atStart => exact ⟨(0), z4_, H', ⟨Nat.le_refl _⟩, by repeat (first | exact Drawn0.refl _ | apply Drawn0.step)⟩
     case round =>
      clear H'
      try clear c2
      try clear p2
      try clear c3
      try clear c4
      try clear c4b0
      try clear c5
      try clear c5b0
      try clear c6
      try clear p6
      try clear q6
      try clear hx6
      try clear c7
      try clear c8
      try clear c8b0
      try clear hx602_0
      try clear p2
      try clear p6
      try clear p602
      try clear q6
      try clear q602
      obtain ⟨x5_3, rfl, HA, HK3, ⟨m3, rfl⟩⟩ := hrel
      cases gk with
      | zero => exact absurd HA.out (by simp [raddleref01_Forms.l2])
      | succ k3 =>
       have H := HA.out
       clear HA
       simp only [raddleref01_Forms.l2] at H
       by_cases c9 : 0 ≤ x4_2
       rotate_left
       ·
        rw [if_neg c9] at H
        exact absurd H (by simp)
       rw [if_pos c9] at H
       have c9b0 : decide (0 ≤ x4_2) = true := decide_eq_true c9
       clear c9
       by_cases c10 : x4_2 < (l0.length : Int)
       rotate_left
       ·
        rw [if_neg c10] at H
        exact absurd H (by simp)
       rw [if_pos c10] at H
       have c10b0 : decide (x4_2 < (l0.length : Int)) = true := decide_eq_true c10
       clear c10
       by_cases c11 : x5_3 < (((rd_T51 l0 x4_2).f0).length : Int)
       rotate_left
       ·
        rw [if_neg c11] at H
        have c11b0 : decide (x5_3 < (((rd_T51 l0 x4_2).f0).length : Int)) = false := decide_eq_false c11
        clear c11
        have H' := mk_ H
        clear H
        have p604 : 0 ≤ (x4_2 : Int) := of_decide_eq_true z1_
        have q604 : x4_2 < (l0.length : Int) := of_decide_eq_true z1_
        obtain ⟨ad604, A604_0, c604_0, e604, hx604_0, hl604_0, hi604_0⟩ := at_T51 HR0.out x4_2 p604 q604
        cases e604
        have HR604_0 := mk_ hi604_0
        have HC604_0 := mk_ hl604_0
        clear hi604_0 hl604_0
        replace p604 := eq_true p604
        replace q604 := eq_true q604
        go_wp2
        go_roundg k3
        case measure => have := HK1.out; have := HK2.out; have := HK3.out; omega
        case rel => exact ⟨(wrap64 (x4_2 + 1)), z4_, H', ⟨by have := HK1.out; have := HK2.out; have := HK3.out; omega⟩, by repeat (first | exact Drawn0.refl _ | apply Drawn0.step)⟩
       rw [if_pos c11] at H
       have c11b0 : decide (x5_3 < (((rd_T51 l0 x4_2).f0).length : Int)) = true := decide_eq_true c11
       clear c11
       by_cases c12 : 0 ≤ x5_3
       rotate_left
       ·
        rw [if_neg c12] at H
        exact absurd H (by simp)
       rw [if_pos c12] at H
       have c12b0 : decide (0 ≤ x5_3) = true := decide_eq_true c12
       clear c12
       obtain ⟨t607, A13, H⟩ := Option.bind_eq_some_iff.mp H
       replace A13 := mk_ A13
       by_cases c14 : t607 = true
       rotate_left
       ·
        replace c14 := Bool.eq_false_iff.mpr c14
        subst c14
        rw [if_neg (show ¬ (false = true) by decide)] at H
        obtain rfl := Option.some.inj H
        have p604 : 0 ≤ (x4_2 : Int) := of_decide_eq_true z1_
        have q604 : x4_2 < (l0.length : Int) := of_decide_eq_true z1_
        obtain ⟨ad604, A604_0, c604_0, e604, hx604_0, hl604_0, hi604_0⟩ := at_T51 HR0.out x4_2 p604 q604
        cases e604
        have HR604_0 := mk_ hi604_0
        have HC604_0 := mk_ hl604_0
        clear hi604_0 hl604_0
        replace p604 := eq_true p604
        replace q604 := eq_true q604
        have p605 : 0 ≤ (x4_2 : Int) := of_decide_eq_true z1_
        have q605 : x4_2 < (l0.length : Int) := of_decide_eq_true z1_
        obtain ⟨ad605, A605_0, c605_0, e605, hx605_0, hl605_0, hi605_0⟩ := at_T51 HR0.out x4_2 p605 q605
        obtain rfl : ad604 = ad605 := (by injection e605)
        have HR605_0 := mk_ hi605_0
        have HC605_0 := mk_ hl605_0
        clear hi605_0 hl605_0
        replace p605 := eq_true p605
        replace q605 := eq_true q605
        have ea_ := Option.some.inj (hx604_0.symm.trans hx605_0)
        injection ea_ with ea_ en_ ec_
        subst ea_
        subst ec_
        clear en_
        have p606 : 0 ≤ (x5_3 : Int) := of_decide_eq_true z1_
        have q606 : x5_3 < (((rd_T51 l0 x4_2).f0).length : Int) := of_decide_eq_true z1_
        obtain ⟨ad606, e606, hx606_0⟩ := Kd.at_int HR605_0.out x5_3 p606 q606
        cases e606
        replace p606 := eq_true p606
        replace q606 := eq_true q606
        go_wp2_with (first | ((with_reducible refine gate_callee (f := 76) rfl ?_); refine Short.gL (some 48) Try.func76 #[.int .i64 (rd ((rd_T51 l0 x4_2).f0) x5_3)] (h := ?_); (with_reducible refine (raddleref01_Type.calls (rd ((rd_T51 l0 x4_2).f0) x5_3) false _ A13.out).mono ?_); rintro e w' ⟨rfl, ⟨nd, rfl⟩⟩; refine ⟨_, rfl, ?_⟩))
        go_ret
        exact ⟨z4_, by repeat (first | exact Drawn0.refl _ | apply Drawn0.step)⟩
       subst c14
       rw [if_pos rfl] at H
       have H' := mk_ H
       clear H
       have p604 : 0 ≤ (x4_2 : Int) := of_decide_eq_true z1_
       have q604 : x4_2 < (l0.length : Int) := of_decide_eq_true z1_
       obtain ⟨ad604, A604_0, c604_0, e604, hx604_0, hl604_0, hi604_0⟩ := at_T51 HR0.out x4_2 p604 q604
       cases e604
       have HR604_0 := mk_ hi604_0
       have HC604_0 := mk_ hl604_0
       clear hi604_0 hl604_0
       replace p604 := eq_true p604
       replace q604 := eq_true q604
       have p605 : 0 ≤ (x4_2 : Int) := of_decide_eq_true z1_
       have q605 : x4_2 < (l0.length : Int) := of_decide_eq_true z1_
       obtain ⟨ad605, A605_0, c605_0, e605, hx605_0, hl605_0, hi605_0⟩ := at_T51 HR0.out x4_2 p605 q605
       obtain rfl : ad604 = ad605 := (by injection e605)
       have HR605_0 := mk_ hi605_0
       have HC605_0 := mk_ hl605_0
       clear hi605_0 hl605_0
       replace p605 := eq_true p605
       replace q605 := eq_true q605
       have ea_ := Option.some.inj (hx604_0.symm.trans hx605_0)
       injection ea_ with ea_ en_ ec_
       subst ea_
       subst ec_
       clear en_
       have p606 : 0 ≤ (x5_3 : Int) := of_decide_eq_true z1_
       have q606 : x5_3 < (((rd_T51 l0 x4_2).f0).length : Int) := of_decide_eq_true z1_
       obtain ⟨ad606, e606, hx606_0⟩ := Kd.at_int HR605_0.out x5_3 p606 q606
       cases e606
       replace p606 := eq_true p606
       replace q606 := eq_true q606
       go_wp2_with (first | ((with_reducible refine gate_callee (f := 76) rfl ?_); refine Short.gL (some 48) Try.func76 #[.int .i64 (rd ((rd_T51 l0 x4_2).f0) x5_3)] (h := ?_); (with_reducible refine (raddleref01_Type.calls (rd ((rd_T51 l0 x4_2).f0) x5_3) true _ A13.out).mono ?_); rintro e w' ⟨rfl, ⟨nd, rfl⟩⟩; refine ⟨_, rfl, ?_⟩))
       go_roundg k3
       case measure => have := HK1.out; have := HK2.out; have := HK3.out; omega
       case rel => exact ⟨(wrap64 (x5_3 + 1)), z4_, H', ⟨by have := HK1.out; have := HK2.out; have := HK3.out; omega⟩, by repeat (first | exact Drawn0.refl _ | apply Drawn0.step)⟩
def raddleref01_Vector.l0 : Nat → List Int → Int → Option (Int)
 | 0, _, _ => none
 | k + 1, x0, x3 => if x3 < (x0.length : Int) then (if 0 ≤ x3 then ((raddleref01_in.f (rd x0 x3) 0 1073741824).bind fun t610 => (if t610 = true then (raddleref01_Vector.l0 k x0 (wrap64 (x3 + 1))) else (some 1))) else (none)) else (some 0)
def raddleref01_Vector.f (k : Nat) (l0 : List Int) : Option (Int) := (raddleref01_in.f (l0.length : Int) 1 5).bind fun t608 => (if t608 = true then (raddleref01_Vector.l0 k l0 0) else (some 2))
theorem raddleref01_Vector.calls (k : Nat) (A0 : Option Addr) (c0 : Nat) (l0 : List Int) (r : Int) (w : World) (hr0 : Kd.C (Kd.int .i64) w A0 l0.length l0) (hc0 : l0.length ≤ c0) (h : raddleref01_Vector.f k l0 = some r) :
  Calls Try.prog 77 #[.slice A0 l0.length c0] w fun e w' => e = .returned (.int .i64 r) ∧ Drawn0 w w' := by
 have HR0 := mk_ hr0
 have HC0 := mk_ hc0
 clear hr0 hc0
 have H : ((raddleref01_in.f (l0.length : Int) 1 5).bind fun t608 => (if t608 = true then (raddleref01_Vector.l0 k l0 0) else (some 2))) = some r := h
 clear h
 obtain ⟨t608, A2, H⟩ := Option.bind_eq_some_iff.mp H
 replace A2 := mk_ A2
 by_cases c3 : t608 = true
 rotate_left
 ·
  replace c3 := Bool.eq_false_iff.mpr c3
  subst c3
  rw [if_neg (show ¬ (false = true) by decide)] at H
  obtain rfl := Option.some.inj H
  go_enter Try.func77, Try.ntmps77
  go_wp2_with (first | ((with_reducible refine gate_callee (f := 27) rfl ?_); refine Short.gL (some 6) Try.func27 #[.int .i64 (l0.length : Int), .int .i64 1, .int .i64 5] (h := ?_); (with_reducible refine (raddleref01_in.calls (l0.length : Int) 1 5 false _ A2.out).mono ?_); rintro e w' ⟨rfl, ⟨nd, rfl⟩⟩; refine ⟨_, rfl, ?_⟩))
  go_ret
  exact ⟨z4_, by repeat (first | exact Drawn0.refl _ | apply Drawn0.step)⟩
 subst c3
 rw [if_pos rfl] at H
 have H' := mk_ H
 clear H
 go_enter Try.func77, Try.ntmps77
 go_wp2_with (first | ((with_reducible refine gate_callee (f := 27) rfl ?_); refine Short.gL (some 6) Try.func27 #[.int .i64 (l0.length : Int), .int .i64 1, .int .i64 5] (h := ?_); (with_reducible refine (raddleref01_in.calls (l0.length : Int) 1 5 true _ A2.out).mono ?_); rintro e w' ⟨rfl, ⟨nd, rfl⟩⟩; refine ⟨_, rfl, ?_⟩))
 go_loopg [3] k (fun kq v3 w' => ∃ (x3_1 : Int), v3 = .int .i64 x3_1 ∧ Aside0 (raddleref01_Vector.l0 kq l0 x3_1 = some r) ∧ Aside0 (kq ≤ k) ∧ Drawn0 w w')
 case atStart => exact ⟨(0), z4_, H', ⟨Nat.le_refl _⟩, by repeat (first | exact Drawn0.refl _ | apply Drawn0.step)⟩
 case round =>
  clear H'
  try clear c2
  try clear p2
  try clear c3
  obtain ⟨x3_1, rfl, HA, HK1, ⟨m1, rfl⟩⟩ := hrel
  cases gk with
  | zero => exact absurd HA.out (by simp [raddleref01_Vector.l0])
  | succ k1 =>
   have H := HA.out
   clear HA
   simp only [raddleref01_Vector.l0] at H
   by_cases c4 : x3_1 < (l0.length : Int)
   rotate_left
   ·
    rw [if_neg c4] at H
    have c4b0 : decide (x3_1 < (l0.length : Int)) = false := decide_eq_false c4
    clear c4
    obtain rfl := Option.some.inj H
    go_wp2
    go_ret
    exact ⟨z4_, by repeat (first | exact Drawn0.refl _ | apply Drawn0.step)⟩
   rw [if_pos c4] at H
   have c4b0 : decide (x3_1 < (l0.length : Int)) = true := decide_eq_true c4
   clear c4
   by_cases c5 : 0 ≤ x3_1
   rotate_left
   ·
    rw [if_neg c5] at H
    exact absurd H (by simp)
   rw [if_pos c5] at H
   have c5b0 : decide (0 ≤ x3_1) = true := decide_eq_true c5
   clear c5
   obtain ⟨t610, A6, H⟩ := Option.bind_eq_some_iff.mp H
   replace A6 := mk_ A6
   by_cases c7 : t610 = true
   rotate_left
   ·
    replace c7 := Bool.eq_false_iff.mpr c7
    subst c7
    rw [if_neg (show ¬ (false = true) by decide)] at H
    obtain rfl := Option.some.inj H
    have p609 : 0 ≤ (x3_1 : Int) := of_decide_eq_true z1_
    have q609 : x3_1 < (l0.length : Int) := of_decide_eq_true z1_
    obtain ⟨ad609, e609, hx609_0⟩ := Kd.at_int HR0.out x3_1 p609 q609
    cases e609
    replace p609 := eq_true p609
    replace q609 := eq_true q609
    go_wp2_with (first | ((with_reducible refine gate_callee (f := 27) rfl ?_); refine Short.gL (some 18) Try.func27 #[.int .i64 (rd l0 x3_1), .int .i64 0, .int .i64 1073741824] (h := ?_); (with_reducible refine (raddleref01_in.calls (rd l0 x3_1) 0 1073741824 false _ A6.out).mono ?_); rintro e w' ⟨rfl, ⟨nd, rfl⟩⟩; refine ⟨_, rfl, ?_⟩))
    go_ret
    exact ⟨z4_, by repeat (first | exact Drawn0.refl _ | apply Drawn0.step)⟩
   subst c7
   rw [if_pos rfl] at H
   have H' := mk_ H
   clear H
   have p609 : 0 ≤ (x3_1 : Int) := of_decide_eq_true z1_
   have q609 : x3_1 < (l0.length : Int) := of_decide_eq_true z1_
   obtain ⟨ad609, e609, hx609_0⟩ := Kd.at_int HR0.out x3_1 p609 q609
   cases e609
   replace p609 := eq_true p609
   replace q609 := eq_true q609
   go_wp2_with (first | ((with_reducible refine gate_callee (f := 27) rfl ?_); refine Short.gL (some 18) Try.func27 #[.int .i64 (rd l0 x3_1), .int .i64 0, .int .i64 1073741824] (h := ?_); (with_reducible refine (raddleref01_in.calls (rd l0 x3_1) 0 1073741824 true _ A6.out).mono ?_); rintro e w' ⟨rfl, ⟨nd, rfl⟩⟩; refine ⟨_, rfl, ?_⟩))
   go_roundg k1
   case measure => have := HK1.out; omega
   case rel => exact ⟨(wrap64 (x3_1 + 1)), z4_, H', ⟨by have := HK1.out; omega⟩, by repeat (first | exact Drawn0.refl _ | apply Drawn0.step)⟩
def raddleref01_Stamp.f (a0_0 : Int) (a0_1 : Int) (a0_2 : Int) : Option (Bool) := (raddleref01_in.f a0_0 0 1099511627776).bind fun t612 => (if t612 = true then ((raddleref01_in.f a0_1 0 65536).bind fun t613 => (if t613 = true then ((raddleref01_in.f a0_2 0 4).bind fun t614 => (some t614)) else (some false))) else (some false))
theorem raddleref01_Stamp.calls (a0_0 : Int) (a0_1 : Int) (a0_2 : Int) (r : Bool) (w : World) (h : raddleref01_Stamp.f a0_0 a0_1 a0_2 = some r) :
  Calls Try.prog 78 #[.agg #[.int .i64 a0_0, .int .i64 a0_1, .int .i64 a0_2]] w fun e w' => e = .returned (.bool r) ∧ Below w.heap.size w w' := by
 have hu28 := Try.underlying28
 have HB := mk_ (Below.refl w.heap.size w)
 have H : ((raddleref01_in.f a0_0 0 1099511627776).bind fun t612 => (if t612 = true then ((raddleref01_in.f a0_1 0 65536).bind fun t613 => (if t613 = true then ((raddleref01_in.f a0_2 0 4).bind fun t614 => (some t614)) else (some false))) else (some false))) = some r := h
 clear h
 obtain ⟨t612, A2, H⟩ := Option.bind_eq_some_iff.mp H
 replace A2 := mk_ A2
 by_cases c3 : t612 = true
 rotate_left
 ·
  replace c3 := Bool.eq_false_iff.mpr c3
  subst c3
  rw [if_neg (show ¬ (false = true) by decide)] at H
  obtain rfl := Option.some.inj H
  go_enter Try.func78, Try.ntmps78
  go_wp2_with (first | ((with_reducible refine gate_dst (N := 1) rfl ?_); refine box_event ?hg (N := 1) ?hd (cs := #[.int .i64 a0_0, .int .i64 a0_1, .int .i64 a0_2]) (t := 28) ?hr ?_; (case hd => rfl); (case hg => rfl); (case hr => first | (go_simp; done) | (go_simp; rfl)); intro gb611 hg w11 hbox hb; have n0_ := mk_ (below_step (Short.hB HB) hb); have n1_ := mk_ (hbox); have n2_ := mk_ ((by rw [hg]; exact (below_size (Short.hB HB)) : w.heap.size ≤ gb611)); have n3_ := mk_ ((by rw [hg]; exact (below_size (Short.hB HB)) : w.heap.size ≤ gb611)); clear HB; revert n0_ n1_ n2_ n3_; intro HB BK611 GW611 GE611; clear hb hbox hg; obtain ⟨hcz_0, hcz_1, hcz_2, hfz_0, hfz_1, hfz_2⟩ := Short.c3 BK611.out) | ((with_reducible refine gate_callee (f := 27) rfl ?_); refine Short.gL (some 5) Try.func27 #[.int .i64 a0_0, .int .i64 0, .int .i64 1099511627776] (h := ?_); (with_reducible refine (raddleref01_in.calls a0_0 0 1099511627776 false _ A2.out).mono ?_); rintro e w' ⟨rfl, ⟨nd, rfl⟩⟩; refine ⟨_, rfl, ?_⟩))
  go_ret
  exact ⟨q0, Short.hB HB⟩
 subst c3
 rw [if_pos rfl] at H
 obtain ⟨t613, A4, H⟩ := Option.bind_eq_some_iff.mp H
 replace A4 := mk_ A4
 by_cases c5 : t613 = true
 rotate_left
 ·
  replace c5 := Bool.eq_false_iff.mpr c5
  subst c5
  rw [if_neg (show ¬ (false = true) by decide)] at H
  obtain rfl := Option.some.inj H
  go_enter Try.func78, Try.ntmps78
  go_wp2_with (first | ((with_reducible refine gate_dst (N := 1) rfl ?_); refine box_event ?hg (N := 1) ?hd (cs := #[.int .i64 a0_0, .int .i64 a0_1, .int .i64 a0_2]) (t := 28) ?hr ?_; (case hd => rfl); (case hg => rfl); (case hr => first | (go_simp; done) | (go_simp; rfl)); intro gb611 hg w9 hbox hb; have n0_ := mk_ (below_step (Short.hB HB) hb); have n1_ := mk_ (hbox); have n2_ := mk_ ((by rw [hg]; exact (below_size (Short.hB HB)) : w.heap.size ≤ gb611)); have n3_ := mk_ ((by rw [hg]; exact (below_size (Short.hB HB)) : w.heap.size ≤ gb611)); clear HB; revert n0_ n1_ n2_ n3_; intro HB BK611 GW611 GE611; clear hb hbox hg; obtain ⟨hcz_0, hcz_1, hcz_2, hfz_0, hfz_1, hfz_2⟩ := Short.c3 BK611.out) | ((with_reducible refine gate_callee (f := 27) rfl ?_); refine Short.gL (some 5) Try.func27 #[.int .i64 a0_0, .int .i64 0, .int .i64 1099511627776] (h := ?_); (with_reducible refine (raddleref01_in.calls a0_0 0 1099511627776 true _ A2.out).mono ?_); rintro e w' ⟨rfl, ⟨nd, rfl⟩⟩; refine ⟨_, rfl, ?_⟩) | (go_at_call 27; (with_reducible refine (raddleref01_in.calls a0_1 0 65536 false _ A4.out).mono ?_); rintro e w' ⟨rfl, ⟨nd, rfl⟩⟩))
  go_ret
  exact ⟨q0, Short.hB HB⟩
 subst c5
 rw [if_pos rfl] at H
 obtain ⟨t614, A6, H⟩ := Option.bind_eq_some_iff.mp H
 replace A6 := mk_ A6
 obtain rfl := Option.some.inj H
 go_enter Try.func78, Try.ntmps78
 go_wp2_with (first | ((with_reducible refine gate_dst (N := 1) rfl ?_); refine box_event ?hg (N := 1) ?hd (cs := #[.int .i64 a0_0, .int .i64 a0_1, .int .i64 a0_2]) (t := 28) ?hr ?_; (case hd => rfl); (case hg => rfl); (case hr => first | (go_simp; done) | (go_simp; rfl)); intro gb611 hg w7 hbox hb; have n0_ := mk_ (below_step (Short.hB HB) hb); have n1_ := mk_ (hbox); have n2_ := mk_ ((by rw [hg]; exact (below_size (Short.hB HB)) : w.heap.size ≤ gb611)); have n3_ := mk_ ((by rw [hg]; exact (below_size (Short.hB HB)) : w.heap.size ≤ gb611)); clear HB; revert n0_ n1_ n2_ n3_; intro HB BK611 GW611 GE611; clear hb hbox hg; obtain ⟨hcz_0, hcz_1, hcz_2, hfz_0, hfz_1, hfz_2⟩ := Short.c3 BK611.out) | ((with_reducible refine gate_callee (f := 27) rfl ?_); refine Short.gL (some 5) Try.func27 #[.int .i64 a0_0, .int .i64 0, .int .i64 1099511627776] (h := ?_); (with_reducible refine (raddleref01_in.calls a0_0 0 1099511627776 true _ A2.out).mono ?_); rintro e w' ⟨rfl, ⟨nd, rfl⟩⟩; refine ⟨_, rfl, ?_⟩) | (go_at_call 27; (with_reducible refine (raddleref01_in.calls a0_1 0 65536 true _ A4.out).mono ?_); rintro e w' ⟨rfl, ⟨nd, rfl⟩⟩) | (go_at_call 27; (with_reducible refine (raddleref01_in.calls a0_2 0 4 t614 _ A6.out).mono ?_); rintro e w' ⟨rfl, ⟨nd, rfl⟩⟩))
 go_ret
 exact ⟨q0, Short.hB HB⟩
def raddleref01_Key.f (a0 : ByteArray) : Option (Bool) := (raddleref01_in.f (a0.size : Int) 1 12).bind fun t615 => (some t615)
theorem raddleref01_Key.calls (a0 : ByteArray) (r : Bool) (w : World) (h : raddleref01_Key.f a0 = some r) :
  Calls Try.prog 79 #[.string a0] w fun e w' => e = .returned (.bool r) ∧ Drawn0 w w' := by
 have H : ((raddleref01_in.f (a0.size : Int) 1 12).bind fun t615 => (some t615)) = some r := h
 clear h
 obtain ⟨t615, A2, H⟩ := Option.bind_eq_some_iff.mp H
 replace A2 := mk_ A2
 obtain rfl := Option.some.inj H
 go_enter Try.func79, Try.ntmps79
 go_wp2_with (first | ((with_reducible refine gate_callee (f := 27) rfl ?_); refine Short.gL (some 5) Try.func27 #[.int .i64 (a0.size : Int), .int .i64 1, .int .i64 12] (h := ?_); (with_reducible refine (raddleref01_in.calls (a0.size : Int) 1 12 t615 _ A2.out).mono ?_); rintro e w' ⟨rfl, ⟨nd, rfl⟩⟩; refine ⟨_, rfl, ?_⟩))
 go_ret
 exact ⟨z4_, by repeat (first | exact Drawn0.refl _ | apply Drawn0.step)⟩
def raddleref01_Small.f (a0_0 : Int) (a0_1 : Int) (a0_2 : ByteArray) : Option (Bool) := (raddleref01_Value.f a0_0 a0_1 a0_2).bind fun t617 => (if t617 = true then (if a0_0 = 3 then ((raddleref01_in.f a0_1 (-2147483648) 2147483648).bind fun t618 => (some t618)) else (some true)) else (some false))
theorem raddleref01_Small.calls (a0_0 : Int) (a0_1 : Int) (a0_2 : ByteArray) (r : Bool) (w : World) (h : raddleref01_Small.f a0_0 a0_1 a0_2 = some r) :
  Calls Try.prog 80 #[.agg #[.int .i64 a0_0, .int .i64 a0_1, .string a0_2]] w fun e w' => e = .returned (.bool r) ∧ Below w.heap.size w w' := by
 have hu84 := Try.underlying84
 have HB := mk_ (Below.refl w.heap.size w)
 have H : ((raddleref01_Value.f a0_0 a0_1 a0_2).bind fun t617 => (if t617 = true then (if a0_0 = 3 then ((raddleref01_in.f a0_1 (-2147483648) 2147483648).bind fun t618 => (some t618)) else (some true)) else (some false))) = some r := h
 clear h
 obtain ⟨t617, A2, H⟩ := Option.bind_eq_some_iff.mp H
 replace A2 := mk_ A2
 by_cases c3 : t617 = true
 rotate_left
 ·
  replace c3 := Bool.eq_false_iff.mpr c3
  subst c3
  rw [if_neg (show ¬ (false = true) by decide)] at H
  obtain rfl := Option.some.inj H
  go_enter Try.func80, Try.ntmps80
  go_wp2_with (first | ((with_reducible refine gate_dst (N := 1) rfl ?_); refine box_event ?hg (N := 1) ?hd (cs := #[.int .i64 a0_0, .int .i64 a0_1, .string a0_2]) (t := 84) ?hr ?_; (case hd => rfl); (case hg => rfl); (case hr => first | (go_simp; done) | (go_simp; rfl)); intro gb616 hg w14 hbox hb; have n0_ := mk_ (below_step (Short.hB HB) hb); have n1_ := mk_ (hbox); have n2_ := mk_ ((by rw [hg]; exact (below_size (Short.hB HB)) : w.heap.size ≤ gb616)); have n3_ := mk_ ((by rw [hg]; exact (below_size (Short.hB HB)) : w.heap.size ≤ gb616)); clear HB; revert n0_ n1_ n2_ n3_; intro HB BK616 GW616 GE616; clear hb hbox hg; obtain ⟨hcz_0, hcz_1, hcz_2, hfz_0, hfz_1, hfz_2⟩ := Short.c3 BK616.out) | ((with_reducible refine gate_callee (f := 84) rfl ?_); refine Short.gL (some 4) Try.func84 #[.agg #[.int .i64 a0_0, .int .i64 a0_1, .string a0_2]] (h := ?_); (with_reducible refine (raddleref01_Value.calls a0_0 a0_1 a0_2 false _ A2.out).mono ?_); rintro e w16 ⟨rfl, hb⟩; refine ⟨_, rfl, ?_⟩; have n0_ := mk_ (bB_ BK616 hb); have n1_ := mk_ (below_step (Short.hB HB) hb); clear BK616 HB; revert n0_ n1_; intro BK616 HB; (try clear hb)))
  go_ret
  exact ⟨q0, Short.hB HB⟩
 subst c3
 rw [if_pos rfl] at H
 by_cases c4 : a0_0 = 3
 rotate_left
 ·
  rw [if_neg c4] at H
  have c4b0 : (a0_0 == 3) = false := beq_eq_false_iff_ne.mpr c4
  have c4b1 : (a0_0 != 3) = true := bne_iff_ne.mpr c4
  obtain rfl := Option.some.inj H
  go_enter Try.func80, Try.ntmps80
  go_wp2_with (first | ((with_reducible refine gate_dst (N := 1) rfl ?_); refine box_event ?hg (N := 1) ?hd (cs := #[.int .i64 a0_0, .int .i64 a0_1, .string a0_2]) (t := 84) ?hr ?_; (case hd => rfl); (case hg => rfl); (case hr => first | (go_simp; done) | (go_simp; rfl)); intro gb616 hg w10 hbox hb; have n0_ := mk_ (below_step (Short.hB HB) hb); have n1_ := mk_ (hbox); have n2_ := mk_ ((by rw [hg]; exact (below_size (Short.hB HB)) : w.heap.size ≤ gb616)); have n3_ := mk_ ((by rw [hg]; exact (below_size (Short.hB HB)) : w.heap.size ≤ gb616)); clear HB; revert n0_ n1_ n2_ n3_; intro HB BK616 GW616 GE616; clear hb hbox hg; obtain ⟨hcz_0, hcz_1, hcz_2, hfz_0, hfz_1, hfz_2⟩ := Short.c3 BK616.out) | ((with_reducible refine gate_callee (f := 84) rfl ?_); refine Short.gL (some 4) Try.func84 #[.agg #[.int .i64 a0_0, .int .i64 a0_1, .string a0_2]] (h := ?_); (with_reducible refine (raddleref01_Value.calls a0_0 a0_1 a0_2 true _ A2.out).mono ?_); rintro e w12 ⟨rfl, hb⟩; refine ⟨_, rfl, ?_⟩; have n0_ := mk_ (bB_ BK616 hb); have n1_ := mk_ (below_step (Short.hB HB) hb); clear BK616 HB; revert n0_ n1_; intro BK616 HB; (try clear hb); obtain ⟨hcz_0, hcz_1, hcz_2, hfz_0, hfz_1, hfz_2⟩ := Short.c3 BK616.out))
  go_ret
  exact ⟨q0, Short.hB HB⟩
 rw [if_pos c4] at H
 have c4b0 : (a0_0 == 3) = true := beq_iff_eq.mpr c4
 have c4b1 : (a0_0 != 3) = false := bne_eq_false_iff_eq.mpr c4
 clear c4
 obtain ⟨t618, A5, H⟩ := Option.bind_eq_some_iff.mp H
 replace A5 := mk_ A5
 obtain rfl := Option.some.inj H
 go_enter Try.func80, Try.ntmps80
 go_wp2_with (first | ((with_reducible refine gate_dst (N := 1) rfl ?_); refine box_event ?hg (N := 1) ?hd (cs := #[.int .i64 a0_0, .int .i64 a0_1, .string a0_2]) (t := 84) ?hr ?_; (case hd => rfl); (case hg => rfl); (case hr => first | (go_simp; done) | (go_simp; rfl)); intro gb616 hg w6 hbox hb; have n0_ := mk_ (below_step (Short.hB HB) hb); have n1_ := mk_ (hbox); have n2_ := mk_ ((by rw [hg]; exact (below_size (Short.hB HB)) : w.heap.size ≤ gb616)); have n3_ := mk_ ((by rw [hg]; exact (below_size (Short.hB HB)) : w.heap.size ≤ gb616)); clear HB; revert n0_ n1_ n2_ n3_; intro HB BK616 GW616 GE616; clear hb hbox hg; obtain ⟨hcz_0, hcz_1, hcz_2, hfz_0, hfz_1, hfz_2⟩ := Short.c3 BK616.out) | ((with_reducible refine gate_callee (f := 84) rfl ?_); refine Short.gL (some 4) Try.func84 #[.agg #[.int .i64 a0_0, .int .i64 a0_1, .string a0_2]] (h := ?_); (with_reducible refine (raddleref01_Value.calls a0_0 a0_1 a0_2 true _ A2.out).mono ?_); rintro e w8 ⟨rfl, hb⟩; refine ⟨_, rfl, ?_⟩; have n0_ := mk_ (bB_ BK616 hb); have n1_ := mk_ (below_step (Short.hB HB) hb); clear BK616 HB; revert n0_ n1_; intro BK616 HB; (try clear hb); obtain ⟨hcz_0, hcz_1, hcz_2, hfz_0, hfz_1, hfz_2⟩ := Short.c3 BK616.out) | (go_at_call 27; (with_reducible refine (raddleref01_in.calls a0_1 (-2147483648) 2147483648 t618 _ A5.out).mono ?_); rintro e w' ⟨rfl, ⟨nd, rfl⟩⟩))
 go_ret
 exact ⟨q0, Short.hB HB⟩
def raddleref01_Fits.f (a0_0 : Int) (a0_1 : Int) (a0_2 : ByteArray) (a1 : Int) : Option (Bool) := (raddleref01_Type.f a1).bind fun t620 => (if t620 = true then ((raddleref01_Value.f a0_0 a0_1 a0_2).bind fun t621 => (if t621 = true then (if a0_0 = a1 then (some true) else (some (a0_0 == 1))) else (some false))) else (some false))
theorem raddleref01_Fits.calls (a0_0 : Int) (a0_1 : Int) (a0_2 : ByteArray) (a1 : Int) (r : Bool) (w : World) (h : raddleref01_Fits.f a0_0 a0_1 a0_2 a1 = some r) :
  Calls Try.prog 81 #[.agg #[.int .i64 a0_0, .int .i64 a0_1, .string a0_2], .int .i64 a1] w fun e w' => e = .returned (.bool r) ∧ Below w.heap.size w w' := by
 have hu84 := Try.underlying84
 have HB := mk_ (Below.refl w.heap.size w)
 have H : ((raddleref01_Type.f a1).bind fun t620 => (if t620 = true then ((raddleref01_Value.f a0_0 a0_1 a0_2).bind fun t621 => (if t621 = true then (if a0_0 = a1 then (some true) else (some (a0_0 == 1))) else (some false))) else (some false))) = some r := h
 clear h
 obtain ⟨t620, A3, H⟩ := Option.bind_eq_some_iff.mp H
 replace A3 := mk_ A3
 by_cases c4 : t620 = true
 rotate_left
 ·
  replace c4 := Bool.eq_false_iff.mpr c4
  subst c4
  rw [if_neg (show ¬ (false = true) by decide)] at H
  obtain rfl := Option.some.inj H
  go_enter Try.func81, Try.ntmps81
  go_wp2_with (first | ((with_reducible refine gate_dst (N := 2) rfl ?_); refine box_event ?hg (N := 2) ?hd (cs := #[.int .i64 a0_0, .int .i64 a0_1, .string a0_2]) (t := 84) ?hr ?_; (case hd => rfl); (case hg => rfl); (case hr => first | (go_simp; done) | (go_simp; rfl)); intro gb619 hg w19 hbox hb; have n0_ := mk_ (below_step (Short.hB HB) hb); have n1_ := mk_ (hbox); have n2_ := mk_ ((by rw [hg]; exact (below_size (Short.hB HB)) : w.heap.size ≤ gb619)); have n3_ := mk_ ((by rw [hg]; exact (below_size (Short.hB HB)) : w.heap.size ≤ gb619)); clear HB; revert n0_ n1_ n2_ n3_; intro HB BK619 GW619 GE619; clear hb hbox hg) | ((with_reducible refine gate_callee (f := 76) rfl ?_); refine Short.gL (some 6) Try.func76 #[.int .i64 a1] (h := ?_); (with_reducible refine (raddleref01_Type.calls a1 false _ A3.out).mono ?_); rintro e w' ⟨rfl, ⟨nd, rfl⟩⟩; refine ⟨_, rfl, ?_⟩))
  go_ret
  exact ⟨q0, Short.hB HB⟩
 subst c4
 rw [if_pos rfl] at H
 obtain ⟨t621, A5, H⟩ := Option.bind_eq_some_iff.mp H
 replace A5 := mk_ A5
 by_cases c6 : t621 = true
 rotate_left
 ·
  replace c6 := Bool.eq_false_iff.mpr c6
  subst c6
  rw [if_neg (show ¬ (false = true) by decide)] at H
  obtain rfl := Option.some.inj H
  go_enter Try.func81, Try.ntmps81
  go_wp2_with (first | ((with_reducible refine gate_dst (N := 2) rfl ?_); refine box_event ?hg (N := 2) ?hd (cs := #[.int .i64 a0_0, .int .i64 a0_1, .string a0_2]) (t := 84) ?hr ?_; (case hd => rfl); (case hg => rfl); (case hr => first | (go_simp; done) | (go_simp; rfl)); intro gb619 hg w16 hbox hb; have n0_ := mk_ (below_step (Short.hB HB) hb); have n1_ := mk_ (hbox); have n2_ := mk_ ((by rw [hg]; exact (below_size (Short.hB HB)) : w.heap.size ≤ gb619)); have n3_ := mk_ ((by rw [hg]; exact (below_size (Short.hB HB)) : w.heap.size ≤ gb619)); clear HB; revert n0_ n1_ n2_ n3_; intro HB BK619 GW619 GE619; clear hb hbox hg) | ((with_reducible refine gate_callee (f := 76) rfl ?_); refine Short.gL (some 6) Try.func76 #[.int .i64 a1] (h := ?_); (with_reducible refine (raddleref01_Type.calls a1 true _ A3.out).mono ?_); rintro e w' ⟨rfl, ⟨nd, rfl⟩⟩; refine ⟨_, rfl, ?_⟩; obtain ⟨hcz_0, hcz_1, hcz_2, hfz_0, hfz_1, hfz_2⟩ := Short.c3 BK619.out) | (go_at_call 84; (with_reducible refine (raddleref01_Value.calls a0_0 a0_1 a0_2 false _ A5.out).mono ?_); rintro e w18 ⟨rfl, hb⟩; have n0_ := mk_ (bB_ BK619 hb); have n1_ := mk_ (below_step (Short.hB HB) hb); clear BK619 HB; revert n0_ n1_; intro BK619 HB; (try clear hb); (try clear hb2); (try clear hk); (try clear hi)))
  go_ret
  exact ⟨q0, Short.hB HB⟩
 subst c6
 rw [if_pos rfl] at H
 by_cases c7 : a0_0 = a1
 rotate_left
 ·
  rw [if_neg c7] at H
  have c7b0 : (a0_0 == a1) = false := beq_eq_false_iff_ne.mpr c7
  have c7b1 : (a0_0 != a1) = true := bne_iff_ne.mpr c7
  obtain rfl := Option.some.inj H
  go_enter Try.func81, Try.ntmps81
  go_wp2_with (first | ((with_reducible refine gate_dst (N := 2) rfl ?_); refine box_event ?hg (N := 2) ?hd (cs := #[.int .i64 a0_0, .int .i64 a0_1, .string a0_2]) (t := 84) ?hr ?_; (case hd => rfl); (case hg => rfl); (case hr => first | (go_simp; done) | (go_simp; rfl)); intro gb619 hg w12 hbox hb; have n0_ := mk_ (below_step (Short.hB HB) hb); have n1_ := mk_ (hbox); have n2_ := mk_ ((by rw [hg]; exact (below_size (Short.hB HB)) : w.heap.size ≤ gb619)); have n3_ := mk_ ((by rw [hg]; exact (below_size (Short.hB HB)) : w.heap.size ≤ gb619)); clear HB; revert n0_ n1_ n2_ n3_; intro HB BK619 GW619 GE619; clear hb hbox hg) | ((with_reducible refine gate_callee (f := 76) rfl ?_); refine Short.gL (some 6) Try.func76 #[.int .i64 a1] (h := ?_); (with_reducible refine (raddleref01_Type.calls a1 true _ A3.out).mono ?_); rintro e w' ⟨rfl, ⟨nd, rfl⟩⟩; refine ⟨_, rfl, ?_⟩; obtain ⟨hcz_0, hcz_1, hcz_2, hfz_0, hfz_1, hfz_2⟩ := Short.c3 BK619.out) | (go_at_call 84; (with_reducible refine (raddleref01_Value.calls a0_0 a0_1 a0_2 true _ A5.out).mono ?_); rintro e w14 ⟨rfl, hb⟩; have n0_ := mk_ (bB_ BK619 hb); have n1_ := mk_ (below_step (Short.hB HB) hb); clear BK619 HB; revert n0_ n1_; intro BK619 HB; (try clear hb); (try clear hb2); (try clear hk); (try clear hi); obtain ⟨hcz_0, hcz_1, hcz_2, hfz_0, hfz_1, hfz_2⟩ := Short.c3 BK619.out))
  go_ret
  exact ⟨q0, Short.hB HB⟩
 rw [if_pos c7] at H
 have c7b0 : (a0_0 == a1) = true := beq_iff_eq.mpr c7
 have c7b1 : (a0_0 != a1) = false := bne_eq_false_iff_eq.mpr c7
 clear c7
 obtain rfl := Option.some.inj H
 go_enter Try.func81, Try.ntmps81
 go_wp2_with (first | ((with_reducible refine gate_dst (N := 2) rfl ?_); refine box_event ?hg (N := 2) ?hd (cs := #[.int .i64 a0_0, .int .i64 a0_1, .string a0_2]) (t := 84) ?hr ?_; (case hd => rfl); (case hg => rfl); (case hr => first | (go_simp; done) | (go_simp; rfl)); intro gb619 hg w8 hbox hb; have n0_ := mk_ (below_step (Short.hB HB) hb); have n1_ := mk_ (hbox); have n2_ := mk_ ((by rw [hg]; exact (below_size (Short.hB HB)) : w.heap.size ≤ gb619)); have n3_ := mk_ ((by rw [hg]; exact (below_size (Short.hB HB)) : w.heap.size ≤ gb619)); clear HB; revert n0_ n1_ n2_ n3_; intro HB BK619 GW619 GE619; clear hb hbox hg) | ((with_reducible refine gate_callee (f := 76) rfl ?_); refine Short.gL (some 6) Try.func76 #[.int .i64 a1] (h := ?_); (with_reducible refine (raddleref01_Type.calls a1 true _ A3.out).mono ?_); rintro e w' ⟨rfl, ⟨nd, rfl⟩⟩; refine ⟨_, rfl, ?_⟩; obtain ⟨hcz_0, hcz_1, hcz_2, hfz_0, hfz_1, hfz_2⟩ := Short.c3 BK619.out) | (go_at_call 84; (with_reducible refine (raddleref01_Value.calls a0_0 a0_1 a0_2 true _ A5.out).mono ?_); rintro e w10 ⟨rfl, hb⟩; have n0_ := mk_ (bB_ BK619 hb); have n1_ := mk_ (below_step (Short.hB HB) hb); clear BK619 HB; revert n0_ n1_; intro BK619 HB; (try clear hb); (try clear hb2); (try clear hk); (try clear hi); obtain ⟨hcz_0, hcz_1, hcz_2, hfz_0, hfz_1, hfz_2⟩ := Short.c3 BK619.out))
 go_ret
 exact ⟨q0, Short.hB HB⟩
end Go.Proofs.Ytjnjfogfpmeacaa.PAll
end
section
namespace Go.Proofs.Ytjnjfogfpmeacaa.PAll
open Go.RowKit PrintWords PrintLast PrintMore ZipT PrintWords.Kd PrintMore.Kd
attribute [local go_sem] max2_int min2_int max_two min_two max_three min_three max_four min_four   -- for this text's walks alone
set_option linter.unusedVariables false
set_option linter.unusedSimpArgs false
def raddleref01_Has.f (l0 : List Int) (a1_0 : Int) (a1_1 : Int) : Option (Bool) := (raddleref01_in.f a1_0 0 (wrap64 ((l0.length : Int) - 1))).bind fun t623 => (if t623 = true then (if a1_1 ≥ 1 then (if 0 ≤ a1_0 then (if a1_0 < (l0.length : Int) then (some (decide (a1_1 ≤ (rd l0 a1_0)))) else (none)) else (none)) else (some false)) else (some false))
theorem raddleref01_Has.calls (A0 : Option Addr) (c0 : Nat) (l0 : List Int) (a1_0 : Int) (a1_1 : Int) (r : Bool) (w : World) (hr0 : Kd.C (Kd.int .i64) w A0 l0.length l0) (hc0 : l0.length ≤ c0) (h : raddleref01_Has.f l0 a1_0 a1_1 = some r) :
  Calls Try.prog 82 #[.slice A0 l0.length c0, .agg #[.int .i64 a1_0, .int .i64 a1_1]] w fun e w' => e = .returned (.bool r) ∧ Below w.heap.size w w' := by
 have hu25 := Try.underlying25
 have HR0 := mk_ hr0
 have HC0 := mk_ hc0
 clear hr0 hc0
 have HB := mk_ (Below.refl w.heap.size w)
 have H : ((raddleref01_in.f a1_0 0 (wrap64 ((l0.length : Int) - 1))).bind fun t623 => (if t623 = true then (if a1_1 ≥ 1 then (if 0 ≤ a1_0 then (if a1_0 < (l0.length : Int) then (some (decide (a1_1 ≤ (rd l0 a1_0)))) else (none)) else (none)) else (some false)) else (some false))) = some r := h
 clear h
 obtain ⟨t623, A3, H⟩ := Option.bind_eq_some_iff.mp H
 replace A3 := mk_ A3
 by_cases c4 : t623 = true
 rotate_left
 ·
  replace c4 := Bool.eq_false_iff.mpr c4
  subst c4
  rw [if_neg (show ¬ (false = true) by decide)] at H
  obtain rfl := Option.some.inj H
  go_enter Try.func82, Try.ntmps82
  go_wp2_with (first | ((with_reducible refine gate_dst (N := 3) rfl ?_); refine box_event ?hg (N := 3) ?hd (cs := #[.int .i64 a1_0, .int .i64 a1_1]) (t := 25) ?hr ?_; (case hd => rfl); (case hg => rfl); (case hr => first | (go_simp; done) | (go_simp; rfl)); intro gb622 hg w12 hbox hb; have n0_ := mk_ (below_step (Short.hB HB) hb); have n1_ := mk_ (hbox); have n2_ := mk_ ((by rw [hg]; exact (below_size (Short.hB HB)) : w.heap.size ≤ gb622)); have n3_ := mk_ ((by rw [hg]; exact (below_size (Short.hB HB)) : w.heap.size ≤ gb622)); clear HB; revert n0_ n1_ n2_ n3_; intro HB BK622 GW622 GE622; clear hb hbox hg; obtain ⟨hcz13_0, hcz13_1, hfz13_0, hfz13_1⟩ := Short.c2 BK622.out) | (go_at_call 27; (try rw [Go.IntWalk.i64_left]); (with_reducible refine (raddleref01_in.calls a1_0 0 (wrap64 ((l0.length : Int) - 1)) false _ A3.out).mono ?_); rintro e w' ⟨rfl, ⟨nd, rfl⟩⟩; (try first | exact ⟨rfl, _, World.drewN_drewN _ _ _⟩ | exact ⟨rfl, _, Eq.trans (World.drewN_drewN _ _ _) (congrArg (World.drewN _) (Nat.add_assoc _ _ _))⟩)))
  repeat (go_quiet (first | ((with_reducible refine gate_dst (N := 3) rfl ?_); refine box_event ?hg (N := 3) ?hd (cs := #[.int .i64 a1_0, .int .i64 a1_1]) (t := 25) ?hr ?_; (case hd => rfl); (case hg => rfl); (case hr => first | (go_simp; done) | (go_simp; rfl)); intro gb622 hg w12 hbox hb; have n0_ := mk_ (below_step (Short.hB HB) hb); have n1_ := mk_ (hbox); have n2_ := mk_ ((by rw [hg]; exact (below_size (Short.hB HB)) : w.heap.size ≤ gb622)); have n3_ := mk_ ((by rw [hg]; exact (below_size (Short.hB HB)) : w.heap.size ≤ gb622)); clear HB; revert n0_ n1_ n2_ n3_; intro HB BK622 GW622 GE622; clear hb hbox hg; obtain ⟨hcz13_0, hcz13_1, hfz13_0, hfz13_1⟩ := Short.c2 BK622.out) | (go_at_call 27; (try rw [Go.IntWalk.i64_left]); (with_reducible refine (raddleref01_in.calls a1_0 0 (wrap64 ((l0.length : Int) - 1)) false _ A3.out).mono ?_); rintro e w' ⟨rfl, ⟨nd, rfl⟩⟩; (try first | exact ⟨rfl, _, World.drewN_drewN _ _ _⟩ | exact ⟨rfl, _, Eq.trans (World.drewN_drewN _ _ _) (congrArg (World.drewN _) (Nat.add_assoc _ _ _))⟩))); try go_wp2_with (first | ((with_reducible refine gate_dst (N := 3) rfl ?_); refine box_event ?hg (N := 3) ?hd (cs := #[.int .i64 a1_0, .int .i64 a1_1]) (t := 25) ?hr ?_; (case hd => rfl); (case hg => rfl); (case hr => first | (go_simp; done) | (go_simp; rfl)); intro gb622 hg w12 hbox hb; have n0_ := mk_ (below_step (Short.hB HB) hb); have n1_ := mk_ (hbox); have n2_ := mk_ ((by rw [hg]; exact (below_size (Short.hB HB)) : w.heap.size ≤ gb622)); have n3_ := mk_ ((by rw [hg]; exact (below_size (Short.hB HB)) : w.heap.size ≤ gb622)); clear HB; revert n0_ n1_ n2_ n3_; intro HB BK622 GW622 GE622; clear hb hbox hg; obtain ⟨hcz13_0, hcz13_1, hfz13_0, hfz13_1⟩ := Short.c2 BK622.out) | (go_at_call 27; (try rw [Go.IntWalk.i64_left]); (with_reducible refine (raddleref01_in.calls a1_0 0 (wrap64 ((l0.length : Int) - 1)) false _ A3.out).mono ?_); rintro e w' ⟨rfl, ⟨nd, rfl⟩⟩; (try first | exact ⟨rfl, _, World.drewN_drewN _ _ _⟩ | exact ⟨rfl, _, Eq.trans (World.drewN_drewN _ _ _) (congrArg (World.drewN _) (Nat.add_assoc _ _ _))⟩))))
  go_ret
  exact ⟨q0, Short.hB HB⟩
 subst c4
 rw [if_pos rfl] at H
 by_cases c5 : a1_1 ≥ 1
 rotate_left
 ·
  rw [if_neg c5] at H
  have c5b0 : decide (1 ≤ a1_1) = false := decide_eq_false c5
  clear c5
  obtain rfl := Option.some.inj H
  go_enter Try.func82, Try.ntmps82
  go_wp2_with (first | ((with_reducible refine gate_dst (N := 3) rfl ?_); refine box_event ?hg (N := 3) ?hd (cs := #[.int .i64 a1_0, .int .i64 a1_1]) (t := 25) ?hr ?_; (case hd => rfl); (case hg => rfl); (case hr => first | (go_simp; done) | (go_simp; rfl)); intro gb622 hg w10 hbox hb; have n0_ := mk_ (below_step (Short.hB HB) hb); have n1_ := mk_ (hbox); have n2_ := mk_ ((by rw [hg]; exact (below_size (Short.hB HB)) : w.heap.size ≤ gb622)); have n3_ := mk_ ((by rw [hg]; exact (below_size (Short.hB HB)) : w.heap.size ≤ gb622)); clear HB; revert n0_ n1_ n2_ n3_; intro HB BK622 GW622 GE622; clear hb hbox hg; obtain ⟨hcz11_0, hcz11_1, hfz11_0, hfz11_1⟩ := Short.c2 BK622.out) | (go_at_call 27; (try rw [Go.IntWalk.i64_left]); (with_reducible refine (raddleref01_in.calls a1_0 0 (wrap64 ((l0.length : Int) - 1)) true _ A3.out).mono ?_); rintro e w' ⟨rfl, ⟨nd, rfl⟩⟩; (try first | exact ⟨rfl, _, World.drewN_drewN _ _ _⟩ | exact ⟨rfl, _, Eq.trans (World.drewN_drewN _ _ _) (congrArg (World.drewN _) (Nat.add_assoc _ _ _))⟩)))
  repeat (go_quiet (first | ((with_reducible refine gate_dst (N := 3) rfl ?_); refine box_event ?hg (N := 3) ?hd (cs := #[.int .i64 a1_0, .int .i64 a1_1]) (t := 25) ?hr ?_; (case hd => rfl); (case hg => rfl); (case hr => first | (go_simp; done) | (go_simp; rfl)); intro gb622 hg w10 hbox hb; have n0_ := mk_ (below_step (Short.hB HB) hb); have n1_ := mk_ (hbox); have n2_ := mk_ ((by rw [hg]; exact (below_size (Short.hB HB)) : w.heap.size ≤ gb622)); have n3_ := mk_ ((by rw [hg]; exact (below_size (Short.hB HB)) : w.heap.size ≤ gb622)); clear HB; revert n0_ n1_ n2_ n3_; intro HB BK622 GW622 GE622; clear hb hbox hg; obtain ⟨hcz11_0, hcz11_1, hfz11_0, hfz11_1⟩ := Short.c2 BK622.out) | (go_at_call 27; (try rw [Go.IntWalk.i64_left]); (with_reducible refine (raddleref01_in.calls a1_0 0 (wrap64 ((l0.length : Int) - 1)) true _ A3.out).mono ?_); rintro e w' ⟨rfl, ⟨nd, rfl⟩⟩; (try first | exact ⟨rfl, _, World.drewN_drewN _ _ _⟩ | exact ⟨rfl, _, Eq.trans (World.drewN_drewN _ _ _) (congrArg (World.drewN _) (Nat.add_assoc _ _ _))⟩))); try go_wp2_with (first | ((with_reducible refine gate_dst (N := 3) rfl ?_); refine box_event ?hg (N := 3) ?hd (cs := #[.int .i64 a1_0, .int .i64 a1_1]) (t := 25) ?hr ?_; (case hd => rfl); (case hg => rfl); (case hr => first | (go_simp; done) | (go_simp; rfl)); intro gb622 hg w10 hbox hb; have n0_ := mk_ (below_step (Short.hB HB) hb); have n1_ := mk_ (hbox); have n2_ := mk_ ((by rw [hg]; exact (below_size (Short.hB HB)) : w.heap.size ≤ gb622)); have n3_ := mk_ ((by rw [hg]; exact (below_size (Short.hB HB)) : w.heap.size ≤ gb622)); clear HB; revert n0_ n1_ n2_ n3_; intro HB BK622 GW622 GE622; clear hb hbox hg; obtain ⟨hcz11_0, hcz11_1, hfz11_0, hfz11_1⟩ := Short.c2 BK622.out) | (go_at_call 27; (try rw [Go.IntWalk.i64_left]); (with_reducible refine (raddleref01_in.calls a1_0 0 (wrap64 ((l0.length : Int) - 1)) true _ A3.out).mono ?_); rintro e w' ⟨rfl, ⟨nd, rfl⟩⟩; (try first | exact ⟨rfl, _, World.drewN_drewN _ _ _⟩ | exact ⟨rfl, _, Eq.trans (World.drewN_drewN _ _ _) (congrArg (World.drewN _) (Nat.add_assoc _ _ _))⟩))))
  go_ret
  exact ⟨q0, Short.hB HB⟩
 rw [if_pos c5] at H
 have c5b0 : decide (1 ≤ a1_1) = true := decide_eq_true c5
 clear c5
 by_cases c6 : 0 ≤ a1_0
 rotate_left
 ·
  rw [if_neg c6] at H
  exact absurd H (by simp)
 rw [if_pos c6] at H
 have c6b0 : decide (0 ≤ a1_0) = true := decide_eq_true c6
 clear c6
 by_cases c7 : a1_0 < (l0.length : Int)
 rotate_left
 ·
  rw [if_neg c7] at H
  exact absurd H (by simp)
 rw [if_pos c7] at H
 have c7b0 : decide (a1_0 < (l0.length : Int)) = true := decide_eq_true c7
 clear c7
 obtain rfl := Option.some.inj H
 go_enter Try.func82, Try.ntmps82
 go_wp2_with (first | ((with_reducible refine gate_dst (N := 3) rfl ?_); refine box_event ?hg (N := 3) ?hd (cs := #[.int .i64 a1_0, .int .i64 a1_1]) (t := 25) ?hr ?_; (case hd => rfl); (case hg => rfl); (case hr => first | (go_simp; done) | (go_simp; rfl)); intro gb622 hg w8 hbox hb; have n0_ := mk_ (below_step (Short.hB HB) hb); have n1_ := mk_ (hbox); have n2_ := mk_ ((by rw [hg]; exact (below_size (Short.hB HB)) : w.heap.size ≤ gb622)); have n3_ := mk_ ((by rw [hg]; exact (below_size (Short.hB HB)) : w.heap.size ≤ gb622)); clear HB; revert n0_ n1_ n2_ n3_; intro HB BK622 GW622 GE622; clear hb hbox hg; obtain ⟨hcz9_0, hcz9_1, hfz9_0, hfz9_1⟩ := Short.c2 BK622.out) | (go_at_call 27; (try rw [Go.IntWalk.i64_left]); (with_reducible refine (raddleref01_in.calls a1_0 0 (wrap64 ((l0.length : Int) - 1)) true _ A3.out).mono ?_); rintro e w' ⟨rfl, ⟨nd, rfl⟩⟩; (try first | exact ⟨rfl, _, World.drewN_drewN _ _ _⟩ | exact ⟨rfl, _, Eq.trans (World.drewN_drewN _ _ _) (congrArg (World.drewN _) (Nat.add_assoc _ _ _))⟩); have p624 : 0 ≤ (a1_0 : Int) := of_decide_eq_true z1_; have q624 : a1_0 < (l0.length : Int) := of_decide_eq_true z1_; obtain ⟨ad624, e624, hx624_0⟩ := Kd.at_int HR0.out a1_0 p624 q624; cases e624; replace hx624_0 := up_ HB hx624_0; replace p624 := eq_true p624; replace q624 := eq_true q624))
 repeat (go_quiet (first | ((with_reducible refine gate_dst (N := 3) rfl ?_); refine box_event ?hg (N := 3) ?hd (cs := #[.int .i64 a1_0, .int .i64 a1_1]) (t := 25) ?hr ?_; (case hd => rfl); (case hg => rfl); (case hr => first | (go_simp; done) | (go_simp; rfl)); intro gb622 hg w8 hbox hb; have n0_ := mk_ (below_step (Short.hB HB) hb); have n1_ := mk_ (hbox); have n2_ := mk_ ((by rw [hg]; exact (below_size (Short.hB HB)) : w.heap.size ≤ gb622)); have n3_ := mk_ ((by rw [hg]; exact (below_size (Short.hB HB)) : w.heap.size ≤ gb622)); clear HB; revert n0_ n1_ n2_ n3_; intro HB BK622 GW622 GE622; clear hb hbox hg; obtain ⟨hcz9_0, hcz9_1, hfz9_0, hfz9_1⟩ := Short.c2 BK622.out) | (go_at_call 27; (try rw [Go.IntWalk.i64_left]); (with_reducible refine (raddleref01_in.calls a1_0 0 (wrap64 ((l0.length : Int) - 1)) true _ A3.out).mono ?_); rintro e w' ⟨rfl, ⟨nd, rfl⟩⟩; (try first | exact ⟨rfl, _, World.drewN_drewN _ _ _⟩ | exact ⟨rfl, _, Eq.trans (World.drewN_drewN _ _ _) (congrArg (World.drewN _) (Nat.add_assoc _ _ _))⟩); have p624 : 0 ≤ (a1_0 : Int) := of_decide_eq_true z1_; have q624 : a1_0 < (l0.length : Int) := of_decide_eq_true z1_; obtain ⟨ad624, e624, hx624_0⟩ := Kd.at_int HR0.out a1_0 p624 q624; cases e624; replace hx624_0 := up_ HB hx624_0; replace p624 := eq_true p624; replace q624 := eq_true q624)); try go_wp2_with (first | ((with_reducible refine gate_dst (N := 3) rfl ?_); refine box_event ?hg (N := 3) ?hd (cs := #[.int .i64 a1_0, .int .i64 a1_1]) (t := 25) ?hr ?_; (case hd => rfl); (case hg => rfl); (case hr => first | (go_simp; done) | (go_simp; rfl)); intro gb622 hg w8 hbox hb; have n0_ := mk_ (below_step (Short.hB HB) hb); have n1_ := mk_ (hbox); have n2_ := mk_ ((by rw [hg]; exact (below_size (Short.hB HB)) : w.heap.size ≤ gb622)); have n3_ := mk_ ((by rw [hg]; exact (below_size (Short.hB HB)) : w.heap.size ≤ gb622)); clear HB; revert n0_ n1_ n2_ n3_; intro HB BK622 GW622 GE622; clear hb hbox hg; obtain ⟨hcz9_0, hcz9_1, hfz9_0, hfz9_1⟩ := Short.c2 BK622.out) | (go_at_call 27; (try rw [Go.IntWalk.i64_left]); (with_reducible refine (raddleref01_in.calls a1_0 0 (wrap64 ((l0.length : Int) - 1)) true _ A3.out).mono ?_); rintro e w' ⟨rfl, ⟨nd, rfl⟩⟩; (try first | exact ⟨rfl, _, World.drewN_drewN _ _ _⟩ | exact ⟨rfl, _, Eq.trans (World.drewN_drewN _ _ _) (congrArg (World.drewN _) (Nat.add_assoc _ _ _))⟩); have p624 : 0 ≤ (a1_0 : Int) := of_decide_eq_true z1_; have q624 : a1_0 < (l0.length : Int) := of_decide_eq_true z1_; obtain ⟨ad624, e624, hx624_0⟩ := Kd.at_int HR0.out a1_0 p624 q624; cases e624; replace hx624_0 := up_ HB hx624_0; replace p624 := eq_true p624; replace q624 := eq_true q624)))
 go_ret
 exact ⟨q0, Short.hB HB⟩
def raddleref01_LessDot.f (a0_0 : Int) (a0_1 : Int) (a1_0 : Int) (a1_1 : Int) : Option (Bool) := if a0_0 < a1_0 then (some true) else (if a0_0 = a1_0 then (some (decide (a0_1 < a1_1))) else (some false))
theorem raddleref01_LessDot.calls (a0_0 : Int) (a0_1 : Int) (a1_0 : Int) (a1_1 : Int) (r : Bool) (w : World) (h : raddleref01_LessDot.f a0_0 a0_1 a1_0 a1_1 = some r) :
  Calls Try.prog 83 #[.agg #[.int .i64 a0_0, .int .i64 a0_1], .agg #[.int .i64 a1_0, .int .i64 a1_1]] w fun e w' => e = .returned (.bool r) ∧ Below w.heap.size w w' := by
 have hu25 := Try.underlying25
 have HB := mk_ (Below.refl w.heap.size w)
 have H : (if a0_0 < a1_0 then (some true) else (if a0_0 = a1_0 then (some (decide (a0_1 < a1_1))) else (some false))) = some r := h
 clear h
 by_cases c3 : a0_0 < a1_0
 ·
  rw [if_pos c3] at H
  have c3b0 : decide (a0_0 < a1_0) = true := decide_eq_true c3
  clear c3
  obtain rfl := Option.some.inj H
  go_enter Try.func83, Try.ntmps83
  go_wp2_with (first | ((with_reducible refine gate_dst (N := 2) rfl ?_); refine box_event ?hg (N := 2) ?hd (cs := #[.int .i64 a0_0, .int .i64 a0_1]) (t := 25) ?hr ?_; (case hd => rfl); (case hg => rfl); (case hr => first | (go_simp; done) | (go_simp; rfl)); intro gb625 hg w4 hbox hb; have n0_ := mk_ (below_step (Short.hB HB) hb); have n1_ := mk_ (hbox); have n2_ := mk_ ((by rw [hg]; exact (below_size (Short.hB HB)) : w.heap.size ≤ gb625)); have n3_ := mk_ ((by rw [hg]; exact (below_size (Short.hB HB)) : w.heap.size ≤ gb625)); clear HB; revert n0_ n1_ n2_ n3_; intro HB BK625 GW625 GE625; clear hb hbox hg) | ((with_reducible refine gate_dst (N := 3) rfl ?_); refine box_event ?hg (N := 3) ?hd (cs := #[.int .i64 a1_0, .int .i64 a1_1]) (t := 25) ?hr ?_; (case hd => rfl); (case hg => rfl); (case hr => first | (go_simp; done) | (go_simp; rfl)); intro gb626 hg w5 hbox hb; have n0_ := mk_ (bB_ BK625 hb); have n1_ := mk_ (below_step (Short.hB HB) hb); have n2_ := mk_ (hbox); have n3_ := mk_ ((by rw [hg]; exact (below_size (Short.hB HB)) : w.heap.size ≤ gb626)); have n4_ := mk_ ((by rw [hg]; exact (below_size (Short.hB HB)) : w.heap.size ≤ gb626)); have n5_ := mk_ ((by rw [hg]; exact Nat.ne_of_lt (blk_lt (Short.bK BK625)) : gb625 ≠ gb626)); have n6_ := mk_ ((by rw [hg]; exact Nat.ne_of_gt (blk_lt (Short.bK BK625)) : gb626 ≠ gb625)); clear BK625 HB; revert n0_ n1_ n2_ n3_ n4_ n5_ n6_; intro BK625 HB BK626 GW626 GE626 NB625_626 NB626_625; clear hb hbox hg; have hnb6 := NB625_626.out; have hnc6 := NB626_625.out; obtain ⟨hcz_0, hcz_1, hfz_0, hfz_1⟩ := Short.c2 BK625.out; obtain ⟨hcz_0, hcz_1, hfz_0, hfz_1⟩ := Short.c2 BK626.out))
  go_ret
  exact ⟨q0, Short.hB HB⟩
 rw [if_neg c3] at H
 have c3b0 : decide (a0_0 < a1_0) = false := decide_eq_false c3
 clear c3
 by_cases c9 : a0_0 = a1_0
 rotate_left
 ·
  rw [if_neg c9] at H
  have c9b0 : (a0_0 == a1_0) = false := beq_eq_false_iff_ne.mpr c9
  have c9b1 : (a0_0 != a1_0) = true := bne_iff_ne.mpr c9
  obtain rfl := Option.some.inj H
  go_enter Try.func83, Try.ntmps83
  go_wp2_with (first | ((with_reducible refine gate_dst (N := 2) rfl ?_); refine box_event ?hg (N := 2) ?hd (cs := #[.int .i64 a0_0, .int .i64 a0_1]) (t := 25) ?hr ?_; (case hd => rfl); (case hg => rfl); (case hr => first | (go_simp; done) | (go_simp; rfl)); intro gb625 hg w15 hbox hb; have n0_ := mk_ (below_step (Short.hB HB) hb); have n1_ := mk_ (hbox); have n2_ := mk_ ((by rw [hg]; exact (below_size (Short.hB HB)) : w.heap.size ≤ gb625)); have n3_ := mk_ ((by rw [hg]; exact (below_size (Short.hB HB)) : w.heap.size ≤ gb625)); clear HB; revert n0_ n1_ n2_ n3_; intro HB BK625 GW625 GE625; clear hb hbox hg) | ((with_reducible refine gate_dst (N := 3) rfl ?_); refine box_event ?hg (N := 3) ?hd (cs := #[.int .i64 a1_0, .int .i64 a1_1]) (t := 25) ?hr ?_; (case hd => rfl); (case hg => rfl); (case hr => first | (go_simp; done) | (go_simp; rfl)); intro gb626 hg w16 hbox hb; have n0_ := mk_ (bB_ BK625 hb); have n1_ := mk_ (below_step (Short.hB HB) hb); have n2_ := mk_ (hbox); have n3_ := mk_ ((by rw [hg]; exact (below_size (Short.hB HB)) : w.heap.size ≤ gb626)); have n4_ := mk_ ((by rw [hg]; exact (below_size (Short.hB HB)) : w.heap.size ≤ gb626)); have n5_ := mk_ ((by rw [hg]; exact Nat.ne_of_lt (blk_lt (Short.bK BK625)) : gb625 ≠ gb626)); have n6_ := mk_ ((by rw [hg]; exact Nat.ne_of_gt (blk_lt (Short.bK BK625)) : gb626 ≠ gb625)); clear BK625 HB; revert n0_ n1_ n2_ n3_ n4_ n5_ n6_; intro BK625 HB BK626 GW626 GE626 NB625_626 NB626_625; clear hb hbox hg; have hnb17 := NB625_626.out; have hnc17 := NB626_625.out; obtain ⟨hcz_0, hcz_1, hfz_0, hfz_1⟩ := Short.c2 BK625.out; obtain ⟨hcz_0, hcz_1, hfz_0, hfz_1⟩ := Short.c2 BK626.out))
  go_ret
  exact ⟨q0, Short.hB HB⟩
 rw [if_pos c9] at H
 have c9b0 : (a0_0 == a1_0) = true := beq_iff_eq.mpr c9
 have c9b1 : (a0_0 != a1_0) = false := bne_eq_false_iff_eq.mpr c9
 clear c9
 obtain rfl := Option.some.inj H
 go_enter Try.func83, Try.ntmps83
 go_wp2_with (first | ((with_reducible refine gate_dst (N := 2) rfl ?_); refine box_event ?hg (N := 2) ?hd (cs := #[.int .i64 a0_0, .int .i64 a0_1]) (t := 25) ?hr ?_; (case hd => rfl); (case hg => rfl); (case hr => first | (go_simp; done) | (go_simp; rfl)); intro gb625 hg w10 hbox hb; have n0_ := mk_ (below_step (Short.hB HB) hb); have n1_ := mk_ (hbox); have n2_ := mk_ ((by rw [hg]; exact (below_size (Short.hB HB)) : w.heap.size ≤ gb625)); have n3_ := mk_ ((by rw [hg]; exact (below_size (Short.hB HB)) : w.heap.size ≤ gb625)); clear HB; revert n0_ n1_ n2_ n3_; intro HB BK625 GW625 GE625; clear hb hbox hg) | ((with_reducible refine gate_dst (N := 3) rfl ?_); refine box_event ?hg (N := 3) ?hd (cs := #[.int .i64 a1_0, .int .i64 a1_1]) (t := 25) ?hr ?_; (case hd => rfl); (case hg => rfl); (case hr => first | (go_simp; done) | (go_simp; rfl)); intro gb626 hg w11 hbox hb; have n0_ := mk_ (bB_ BK625 hb); have n1_ := mk_ (below_step (Short.hB HB) hb); have n2_ := mk_ (hbox); have n3_ := mk_ ((by rw [hg]; exact (below_size (Short.hB HB)) : w.heap.size ≤ gb626)); have n4_ := mk_ ((by rw [hg]; exact (below_size (Short.hB HB)) : w.heap.size ≤ gb626)); have n5_ := mk_ ((by rw [hg]; exact Nat.ne_of_lt (blk_lt (Short.bK BK625)) : gb625 ≠ gb626)); have n6_ := mk_ ((by rw [hg]; exact Nat.ne_of_gt (blk_lt (Short.bK BK625)) : gb626 ≠ gb625)); clear BK625 HB; revert n0_ n1_ n2_ n3_ n4_ n5_ n6_; intro BK625 HB BK626 GW626 GE626 NB625_626 NB626_625; clear hb hbox hg; have hnb12 := NB625_626.out; have hnc12 := NB626_625.out; obtain ⟨hcz_0, hcz_1, hfz_0, hfz_1⟩ := Short.c2 BK625.out; obtain ⟨hcz_0, hcz_1, hfz_0, hfz_1⟩ := Short.c2 BK626.out))
 go_ret
 exact ⟨q0, Short.hB HB⟩
def raddlekeep_TwinInts.f (l0 : List Int) : Option (List Int) := if ([] : List Int).length + l0.length < 17592186044416 then (some (([] : List Int) ++ l0)) else (none)
theorem raddlekeep_TwinInts.calls (A0 : Option Addr) (c0 : Nat) (l0 : List Int) (r : List Int) (w : World) (hr0 : Kd.C (Kd.int .i64) w A0 l0.length l0) (hc0 : l0.length ≤ c0) (h : raddlekeep_TwinInts.f l0 = some r) :
  Calls Try.prog 39 #[.slice A0 l0.length c0] w fun e w' => ∃ v0_ : Value, e = .returned (v0_) ∧ Kd.R (Kd.int .i64) 3 w' w.heap.size (fun _ => True) v0_ r ∧ Below w.heap.size w w' := by
 have HR0 := mk_ hr0
 have HC0 := mk_ hc0
 clear hr0 hc0
 have HB := mk_ (Below.refl w.heap.size w)
 have H : (if ([] : List Int).length + l0.length < 17592186044416 then (some (([] : List Int) ++ l0)) else (none)) = some r := h
 clear h
 by_cases c2 : ([] : List Int).length + l0.length < 17592186044416
 rotate_left
 ·
  rw [if_neg c2] at H
  exact absurd H (by simp)
 rw [if_pos c2] at H
 have LMc2 := mk_ c2
 clear c2
 obtain ⟨y630, hy630⟩ : ∃ y_ : List Int, y_ = (([] : List Int) ++ l0) := ⟨_, rfl⟩
 replace H : (some y630) = some r := by first | (rw [hy630]; with_reducible exact H) | (have H2_ := (Option.bind_some _ _).symm.trans H; rw [hy630]; with_reducible exact H2_) | (have H2_ := (Option.bind_some _ _).symm.trans H; with_reducible exact H2_) | with_reducible exact H | (rw [hy630]; exact H) | exact H
 have Ny630 := mk_ hy630
 clear hy630
 obtain rfl := Option.some.inj H
 go_enter Try.func39, Try.ntmps39
 go_wp2_with (first | ((with_reducible refine gate_builtin (b := .append) (xs := #[.tmp 4, .tmp 5]) rfl ?_); at_builtin; refine R_append_rows (Kd.int .i64) (w0 := w) w.heap.size rfl (.tmp 4) (.tmp 5) 26 3 (.int .i64 0) 8 rfl Try.underlying26 info3 rfl z5_ z3_ (.slice none 0 0) ([] : List Int) l0 _ _ _ (fun _ => True) (fun _ => False) rfl rfl ?aO ?aR (fun _ _ h => h) (fun _ h => h.elim) ?aF ?aB ?aS ?aL ?_; (case aR => repeat (first | exact HR0.out | (with_reducible refine C_alloc ?_ _) | (with_reducible refine C_drewN ?_ _) | (with_reducible refine C_drew ?_))); (case aB => exact (Short.hB HB)); (case aF => exact (fun _ _ => trivial)); (case aO => exact ((R_nil _ _ _ _ (fun _ => True)))); (case aS => exact (below_size (Short.hB HB))); (case aL => have := LMc2.out; omega); intro v631 w3 ho hb hg hat; rw [← Ny630.out] at ho; have n0_ := mk_ (hb); have n1_ := mk_ (ho); clear HB; revert n0_ n1_; intro HB HO632; clear ho hb hg hat))
 go_ret
 exact ⟨_, by first | rfl | (simp [errW_none, errW_some] <;> rfl) | (simp [*, errW_none, errW_some] <;> rfl), by (with_reducible repeat (first | apply R_alloc | apply R_drewN | apply R_drew)); exact HO632.out, Short.hB HB⟩
def raddlekeep_TwinRow.f (l0 : List (S84)) : Option ((List (S84))) := if ([] : List (S84)).length + l0.length < 4398046511104 then (some (([] : List (S84)) ++ l0)) else (none)
theorem raddlekeep_TwinRow.calls (A0 : Option Addr) (c0 : Nat) (l0 : List (S84)) (r : List (S84)) (w : World) (hr0 : Kd.C k84 w A0 l0.length l0) (hc0 : l0.length ≤ c0) (h : raddlekeep_TwinRow.f l0 = some r) :
  Calls Try.prog 40 #[.slice A0 l0.length c0] w fun e w' => ∃ v0_ : Value, e = .returned (v0_) ∧ Kd.R k84 84 w' w.heap.size (fun _ => True) v0_ r ∧ Below w.heap.size w w' := by
 have HR0 := mk_ hr0
 have HC0 := mk_ hc0
 clear hr0 hc0
 have HB := mk_ (Below.refl w.heap.size w)
 have H : (if ([] : List (S84)).length + l0.length < 4398046511104 then (some (([] : List (S84)) ++ l0)) else (none)) = some r := h
 clear h
 by_cases c2 : ([] : List (S84)).length + l0.length < 4398046511104
 rotate_left
 ·
  rw [if_neg c2] at H
  exact absurd H (by simp)
 rw [if_pos c2] at H
 have LMc2 := mk_ c2
 clear c2
 obtain ⟨y633, hy633⟩ : ∃ y_ : List (S84), y_ = (([] : List (S84)) ++ l0) := ⟨_, rfl⟩
 replace H : (some y633) = some r := by first | (rw [hy633]; with_reducible exact H) | (have H2_ := (Option.bind_some _ _).symm.trans H; rw [hy633]; with_reducible exact H2_) | (have H2_ := (Option.bind_some _ _).symm.trans H; with_reducible exact H2_) | with_reducible exact H | (rw [hy633]; exact H) | exact H
 have Ny633 := mk_ hy633
 clear hy633
 obtain rfl := Option.some.inj H
 go_enter Try.func40, Try.ntmps40
 go_wp2_with (first | ((with_reducible refine gate_builtin (b := .append) (xs := #[.tmp 4, .tmp 5]) rfl ?_); at_builtin; refine R_append_rows k84 (w0 := w) w.heap.size rfl (.tmp 4) (.tmp 5) 29 84 (.agg #[(.int .i64 0), (.int .i64 0), (.string ⟨#[]⟩)]) 32 rfl Try.underlying29 info84 rfl z5_ z3_ (.slice none 0 0) ([] : List (S84)) l0 _ _ _ (fun _ => True) (fun _ => False) rfl rfl ?aO ?aR (fun _ _ h => h) (fun _ h => h.elim) ?aF ?aB ?aS ?aL ?_; (case aR => repeat (first | exact HR0.out | (with_reducible refine C_alloc ?_ _) | (with_reducible refine C_drewN ?_ _) | (with_reducible refine C_drew ?_))); (case aB => exact (Short.hB HB)); (case aF => exact (fun _ _ => trivial)); (case aO => exact ((R_nil _ _ _ _ (fun _ => True)))); (case aS => exact (below_size (Short.hB HB))); (case aL => have := LMc2.out; omega); intro v634 w3 ho hb hg hat; rw [← Ny633.out] at ho; have n0_ := mk_ (hb); have n1_ := mk_ (ho); clear HB; revert n0_ n1_; intro HB HO635; clear ho hb hg hat))
 go_ret
 exact ⟨_, by first | rfl | (simp [errW_none, errW_some] <;> rfl) | (simp [*, errW_none, errW_some] <;> rfl), by (with_reducible repeat (first | apply R_alloc | apply R_drewN | apply R_drew)); exact HO635.out, Short.hB HB⟩
def raddlekeep_TwinOp.f (a0_0 : Int) (a0_1 : Int) (l0_2 : List Int) (a0_3 : Int) (a0_4 : Int) (a0_5 : Int) (a0_6 : Int) (a0_7 : Int) (a0_8 : ByteArray) (a0_9 : Int) (l0_10 : List (S84)) (l0_11 : List (S25)) : Option (Int × Int × List Int × Int × Int × Int × Int × Int × ByteArray × Int × (List (S84)) × (List (S25))) := (raddlekeep_TwinInts.f l0_2).bind fun t638 => ((raddlekeep_TwinRow.f l0_10).bind fun t641 => (if ([] : List (S25)).length + l0_11.length < 8796093022208 then (some (a0_0, a0_1, t638, a0_3, a0_4, a0_5, a0_6, a0_7, a0_8, a0_9, t641, (([] : List (S25)) ++ l0_11))) else (none)))
def raddlekeep_TwinOp.T2 : Bool × List (List Nat × List Nat) := (true, [([], []), ([0], [0]), ([1], [1]), ([], []), ([3], [3]), ([4, 2], [4]), ([], []), ([], []), ([7], [7]), ([6, 8, 5], [6, 8]), ([0, 1, 2, 3, 4, 7, 8], []), ([10, 2, 9, 0, 1, 2, 3, 4, 7, 8], [2, 10]), ([0, 1, 2, 3, 4, 5, 7, 8, 10, 11], []), ([12, 5, 11, 0, 1, 2, 3, 4, 5, 7, 8, 10, 11], [5, 12]), ([0, 1, 2, 3, 4, 5, 6, 7, 8, 9, 10, 11, 12, 13], []), ([14, 9, 13, 0, 1, 2, 3, 4, 5, 6, 7, 8, 9, 10, 11, 12, 13], [9, 14])])
def raddlekeep_TwinOp.B2 : List Nat := [0, 1, 3, 0, 8, 31, 0, 0, 128, 511, 415, 2047, 4095, 8191, 16383, 32767]
theorem raddlekeep_TwinOp.tab2 : rtab .any (opsOf Try.f21 2) = raddlekeep_TwinOp.T2 := by kernel_rfl
theorem raddlekeep_TwinOp.bits2 : waitsOk raddlekeep_TwinOp.T2.2 raddlekeep_TwinOp.B2 = true := by kernel_rfl
theorem raddlekeep_TwinOp.calls (a0_0 : Int) (a0_1 : Int) (A0_2 : Option Addr) (c0_2 : Nat) (l0_2 : List Int) (a0_3 : Int) (a0_4 : Int) (a0_5 : Int) (a0_6 : Int) (a0_7 : Int) (a0_8 : ByteArray) (a0_9 : Int) (A0_10 : Option Addr) (c0_10 : Nat) (l0_10 : List (S84)) (A0_11 : Option Addr) (c0_11 : Nat) (l0_11 : List (S25)) (r1 : Int) (r2 : Int) (r3 : List Int) (r4 : Int) (r5 : Int) (r6 : Int) (r7 : Int) (r8 : Int) (r9 : ByteArray) (r10 : Int) (r11 : List (S84)) (r12 : List (S25)) (w : World) (hr0_2 : Kd.C (Kd.int .i64) w A0_2 l0_2.length l0_2) (hc0_2 : l0_2.length ≤ c0_2) (hr0_10 : Kd.C k84 w A0_10 l0_10.length l0_10) (hc0_10 : l0_10.length ≤ c0_10) (hr0_11 : Kd.C k25 w A0_11 l0_11.length l0_11) (hc0_11 : l0_11.length ≤ c0_11) (h : raddlekeep_TwinOp.f a0_0 a0_1 l0_2 a0_3 a0_4 a0_5 a0_6 a0_7 a0_8 a0_9 l0_10 l0_11 = some (r1, r2, r3, r4, r5, r6, r7, r8, r9, r10, r11, r12)) :
  Calls Try.prog 21 #[.agg #[.int .i64 a0_0, .int .i64 a0_1, .slice A0_2 l0_2.length c0_2, .int .i64 a0_3, .int .i64 a0_4, .int .i64 a0_5, .int .i64 a0_6, .int .i64 a0_7, .string a0_8, .int .i64 a0_9, .slice A0_10 l0_10.length c0_10, .slice A0_11 l0_11.length c0_11]] w fun e w' => ∃ v2_ v10_ v11_ : Value, e = .returned (.agg #[.int .i64 r1, .int .i64 r2, v2_, .int .i64 r4, .int .i64 r5, .int .i64 r6, .int .i64 r7, .int .i64 r8, .string r9, .int .i64 r10, v10_, v11_]) ∧ Kd.R (Kd.int .i64) 3 w' w.heap.size (fun _ => True) v2_ r3 ∧ Kd.R k84 84 w' w.heap.size (fun _ => True) v10_ r11 ∧ Kd.R k25 25 w' w.heap.size (fun _ => True) v11_ r12 ∧ Below w.heap.size w w' := by
 have hu32 := Try.underlying32
 have HR0_2 := mk_ hr0_2
 have HC0_2 := mk_ hc0_2
 clear hr0_2 hc0_2
 have HR0_10 := mk_ hr0_10
 have HC0_10 := mk_ hc0_10
 clear hr0_10 hc0_10
 have HR0_11 := mk_ hr0_11
 have HC0_11 := mk_ hc0_11
 clear hr0_11 hc0_11
 have HB := mk_ (Below.refl w.heap.size w)
 have H : ((raddlekeep_TwinInts.f l0_2).bind fun t638 => ((raddlekeep_TwinRow.f l0_10).bind fun t641 => (if ([] : List (S25)).length + l0_11.length < 8796093022208 then (some (a0_0, a0_1, t638, a0_3, a0_4, a0_5, a0_6, a0_7, a0_8, a0_9, t641, (([] : List (S25)) ++ l0_11))) else (none)))) = some (r1, r2, r3, r4, r5, r6, r7, r8, r9, r10, r11, r12) := h
 clear h
 obtain ⟨t638, A2, H⟩ := Option.bind_eq_some_iff.mp H
 replace A2 := mk_ A2
 obtain ⟨t641, A3, H⟩ := Option.bind_eq_some_iff.mp H
 replace A3 := mk_ A3
 by_cases c4 : ([] : List (S25)).length + l0_11.length < 8796093022208
 rotate_left
 ·
  rw [if_neg c4] at H
  exact absurd H (by simp)
 rw [if_pos c4] at H
 have LMc4 := mk_ c4
 clear c4
 obtain ⟨y644, hy644⟩ : ∃ y_ : List (S25), y_ = (([] : List (S25)) ++ l0_11) := ⟨_, rfl⟩
 replace H : (some (a0_0, a0_1, t638, a0_3, a0_4, a0_5, a0_6, a0_7, a0_8, a0_9, t641, y644)) = some (r1, r2, r3, r4, r5, r6, r7, r8, r9, r10, r11, r12) := by first | (rw [hy644]; with_reducible exact H) | (have H2_ := (Option.bind_some _ _).symm.trans H; rw [hy644]; with_reducible exact H2_) | (have H2_ := (Option.bind_some _ _).symm.trans H; with_reducible exact H2_) | with_reducible exact H | (rw [hy644]; exact H) | exact H
 have Ny644 := mk_ hy644
 clear hy644
 simp only [Option.some.injEq, Prod.mk.injEq] at H
 obtain ⟨rfl, rfl, rfl, rfl, rfl, rfl, rfl, rfl, rfl, rfl, rfl, rfl⟩ := H
 go_enter Try.func21, Try.ntmps21
 try go_wp2_with (first | ((with_reducible refine gate_dst (N := 1) rfl ?_); refine box_event ?hg (N := 1) ?hd (cs := #[.int .i64 a0_0, .int .i64 a0_1, .slice A0_2 l0_2.length c0_2, .int .i64 a0_3, .int .i64 a0_4, .int .i64 a0_5, .int .i64 a0_6, .int .i64 a0_7, .string a0_8, .int .i64 a0_9, .slice A0_10 l0_10.length c0_10, .slice A0_11 l0_11.length c0_11]) (t := 32) ?hr ?_; (case hd => rfl); (case hg => rfl); (case hr => first | (go_simp; done) | (go_simp; rfl)); intro gb636 hg w5 hbox hb; have n0_ := mk_ (below_step (Short.hB HB) hb); have n1_ := mk_ (hbox); have n2_ := mk_ ((by rw [hg]; exact (below_size (Short.hB HB)) : w.heap.size ≤ gb636)); have n3_ := mk_ ((by rw [hg]; exact (below_size (Short.hB HB)) : w.heap.size ≤ gb636)); clear HB; revert n0_ n1_ n2_ n3_; intro HB BK636 GW636 GE636; clear hb hbox hg) | ((with_reducible refine gate_dst (N := 2) rfl ?_); refine box_event ?hg (N := 2) ?hd (cs := #[.int .i64 0, .int .i64 0, .slice none 0 0, .int .i64 0, .int .i64 0, .int .i64 0, .int .i64 0, .int .i64 0, .string (⟨#[]⟩ : ByteArray), .int .i64 0, .slice none 0 0, .slice none 0 0]) (t := 32) ?hr ?_; (case hd => rfl); (case hg => rfl); (case hr => first | (go_simp; done) | (go_simp; rfl)); intro gb637 hg w6 hbox hb; have n0_ := mk_ (bB_ BK636 hb); have n1_ := mk_ (below_step (Short.hB HB) hb); have n2_ := mk_ (hbox); have n3_ := mk_ ((by rw [hg]; exact (below_size (Short.hB HB)) : w.heap.size ≤ gb637)); have n4_ := mk_ ((by rw [hg]; exact (below_size (Short.hB HB)) : w.heap.size ≤ gb637)); have n5_ := mk_ ((by rw [hg]; exact Nat.ne_of_lt (blk_lt (Short.bK BK636)) : gb636 ≠ gb637)); have n6_ := mk_ ((by rw [hg]; exact Nat.ne_of_gt (blk_lt (Short.bK BK636)) : gb637 ≠ gb636)); clear BK636 HB; revert n0_ n1_ n2_ n3_ n4_ n5_ n6_; intro BK636 HB BK637 GW637 GE637 NB636_637 NB637_636; clear hb hbox hg))
 have n0_ := mk_ (blk_drew BK636.out)
 have n1_ := mk_ (blk_drew BK637.out)
 have n2_ := mk_ (below_drew1 HB.out)
 clear BK636 BK637 HB
 revert n0_ n1_ n2_
 intro BK636 BK637 HB
 refine start_ (n := 16) (S := fun w' => w'.cell? ⟨gb636, 0, none⟩ = some (.int .i64 a0_0) ∧ w'.cell? ⟨gb636, 1, none⟩ = some (.int .i64 a0_1) ∧ w'.cell? ⟨gb636, 2, none⟩ = some (.slice A0_2 l0_2.length c0_2) ∧ w'.cell? ⟨gb636, 3, none⟩ = some (.int .i64 a0_3) ∧ w'.cell? ⟨gb636, 4, none⟩ = some (.int .i64 a0_4) ∧ w'.cell? ⟨gb636, 5, none⟩ = some (.int .i64 a0_5) ∧ w'.cell? ⟨gb636, 6, none⟩ = some (.int .i64 a0_6) ∧ w'.cell? ⟨gb636, 7, none⟩ = some (.int .i64 a0_7) ∧ w'.cell? ⟨gb636, 8, none⟩ = some (.string a0_8) ∧ w'.cell? ⟨gb636, 9, none⟩ = some (.int .i64 a0_9) ∧ w'.cell? ⟨gb636, 10, none⟩ = some (.slice A0_10 l0_10.length c0_10) ∧ w'.cell? ⟨gb636, 11, none⟩ = some (.slice A0_11 l0_11.length c0_11)) (ds := [11, 13, 15]) (Steps.Bs 16 0) z0_ rfl rfl (k12e_ BK636) (fun hHeld => ?_); refine with_tabW raddlekeep_TwinOp.tab2 raddlekeep_TwinOp.bits2 (fun HT_ HW_ => ?_)
 generalize w6.drew = w7 at BK636 BK637 HB hHeld ⊢
 refine tI HT_ 0 4 16 1 ?_
 refine tI HT_ 3 7 16 9 ?_
 refine tI HT_ 6 10 16 73 ?_
 refine tI HT_ 7 11 16 201 ?_
 refine tT HT_ HW_ hHeld 1 5 16 203 ?_
 refine tT HT_ HW_ hHeld 4 8 16 219 ?_
 refine tT HT_ HW_ hHeld 8 12 16 475 ?_
 refine one_ (i := 2) (N := some 6) (Steps.Bs 16 479) rfl rfl (one_of HT_.out z0_) z5_ (fun K hK => ?_)
 refine goes_ Try.func39 z0_ rfl #[.slice A0_2 l0_2.length c0_2] (by rfl) rfl rfl z2_ ?_
 with_reducible refine (raddlekeep_TwinInts.calls _ _ l0_2 t638 _ ?side1 ?side2 A2.out).mono ?_
 (case side1 => exact cX_ (C_below HR0_2.out HB.out))
 (case side2 => exact HC0_2.out)
 rintro e w8 ⟨v639, rfl, ho0, hb⟩
 refine ⟨_, rfl, ?_⟩
 have n0_ := mk_ (R_lower ho0 (below_size (Short.hB HB)))
 have n1_ := mk_ (bB_ BK636 hb)
 have n2_ := mk_ (bB_ BK637 hb)
 have n3_ := mk_ (below_step (Short.hB HB) hb)
 clear BK636 BK637 HB
 revert n0_ n1_ n2_ n3_
 intro HO640 BK636 BK637 HB
 (try clear hb)
 (try clear hb2)
 (try clear hk)
 (try clear hi)
 (try clear ho0)
 refine hK.out _ _ (k12e_ BK636) (fun hHeld => ?_)
 clear hK K
 refine nrm 6 ?_
 refine tI HT_ 10 14 16 1503 ?_
 refine one_ (i := 5) (N := some 9) (Steps.Bs 16 1535) rfl rfl (one_of HT_.out z0_) z5_ (fun K hK => ?_)
 refine goes_ Try.func40 z0_ rfl #[.slice A0_10 l0_10.length c0_10] (by rfl) rfl rfl z2_ ?_
 with_reducible refine (raddlekeep_TwinRow.calls _ _ l0_10 t641 _ ?side1 ?side2 A3.out).mono ?_
 (case side1 => exact cX_ (C_below HR0_10.out HB.out))
 (case side2 => exact HC0_10.out)
 rintro e w9 ⟨v642, rfl, ho0, hb⟩
 refine ⟨_, rfl, ?_⟩
 have n0_ := mk_ (R_below (ZKR HO640) hb)
 have n1_ := mk_ (R_lower ho0 (below_size (Short.hB HB)))
 have n2_ := mk_ (bB_ BK636 hb)
 have n3_ := mk_ (bB_ BK637 hb)
 have n4_ := mk_ (below_step (Short.hB HB) hb)
 clear HO640 BK636 BK637 HB
 revert n0_ n1_ n2_ n3_ n4_
 intro HO640 HO643 BK636 BK637 HB
 (try clear hb)
 (try clear hb2)
 (try clear hk)
 (try clear hi)
 (try clear ho0)
 refine hK.out _ _ (k12e_ BK636) (fun hHeld => ?_)
 clear hK K
 refine nrm 9 ?_
 refine one_ (i := 9) (N := some 13) (Steps.Bs 16 2047) rfl rfl (one_of HT_.out z0_) z5_ (fun K hK => ?_)
 refine R_append_rows_step k25 (w0 := w) w.heap.size (by rfl) (.tmp 10) (.tmp 12) 30 25 (.agg #[(.int .i64 0), (.int .i64 0)]) 16 rfl Try.underlying30 info25 rfl z5_ z3_ (.slice none 0 0) ([] : List (S25)) l0_11 _ _ _ (fun _ => True) (fun _ => False) rfl rfl ?aO ?aR (fun _ _ h => h) (fun _ h => h.elim) ?aF ?aB ?aS ?aL ?_
 (case aR => exact cX_ (C_below HR0_11.out HB.out))
 (case aB => exact (Short.hB HB))
 (case aF => exact (fun _ _ => trivial))
 (case aO => exact ((R_nil _ _ _ _ (fun _ => True))))
 (case aS => exact (below_size (Short.hB HB)))
 (case aL => have := LMc4.out; omega)
 intro v645 w10 ho hb hg hat
 rw [← Ny644.out] at ho
 have n0_ := mk_ (blk_grown (g := gb636) (o := .cells #[.int .i64 a0_0, .int .i64 a0_1, .slice A0_2 l0_2.length c0_2, .int .i64 a0_3, .int .i64 a0_4, .int .i64 a0_5, .int .i64 a0_6, .int .i64 a0_7, .string a0_8, .int .i64 a0_9, .slice A0_10 l0_10.length c0_10, .slice A0_11 l0_11.length c0_11] 32 (0, 0)) (Short.bK BK636) hg (by simp [Value.ownBlock]))
 have n1_ := mk_ (blk_grown (g := gb637) (o := .cells #[.int .i64 0, .int .i64 0, .slice none 0 0, .int .i64 0, .int .i64 0, .int .i64 0, .int .i64 0, .int .i64 0, .string (⟨#[]⟩ : ByteArray), .int .i64 0, .slice none 0 0, .slice none 0 0] 32 (0, 0)) (Short.bK BK637) hg (by simp [Value.ownBlock]))
 have n2_ := mk_ (R_grown (ZKR HO640) hg (fun _ _ => by simp [Value.ownBlock]))
 have n3_ := mk_ (R_grown (ZKR HO643) hg (fun _ _ => by simp [Value.ownBlock]))
 have n4_ := mk_ (hb)
 have n5_ := mk_ (ho)
 clear BK636 BK637 HO640 HO643 HB
 revert n0_ n1_ n2_ n3_ n4_ n5_
 intro BK636 BK637 HO640 HO643 HB HO646
 clear ho hb hg hat
 obtain ⟨Ao11, co11, eo11⟩ := R_slice HO640.out
 (first | subst eo11 | (injection eo11 with f1_ f2_ f3_; have f4_ := f1_.symm; have f5_ := f3_.symm; clear f1_ f2_ f3_; subst f4_; subst f5_))
 obtain ⟨Ao13, co13, eo13⟩ := R_slice HO643.out
 (first | subst eo13 | (injection eo13 with f1_ f2_ f3_; have f4_ := f1_.symm; have f5_ := f3_.symm; clear f1_ f2_ f3_; subst f4_; subst f5_))
 obtain ⟨Ao15, co15, eo15⟩ := R_slice HO646.out
 (first | subst eo15 | (injection eo15 with f1_ f2_ f3_; have f4_ := f1_.symm; have f5_ := f3_.symm; clear f1_ f2_ f3_; subst f4_; subst f5_))
 refine hK.out _ _ (k12e_ BK636) (fun hHeld => ?_)
 clear hK K
 refine nrm 13 ?_
 refine last_ (i := 11) (N := none) (Steps.Bs 16 4095) rfl rfl (one_of HT_.out z0_) z5_ (fun K hK => ?_)
 have hs12 : w10.cell? ⟨gb636, 2, none⟩ = some (.slice A0_2 l0_2.length c0_2) := kc_ BK636 2
 have hfs12 := blk_frozen BK636.out 2
 have hns12_1 := NB637_636.out
 have hms12_1 := NB636_637.out
 refine skip_ (w1 := ?_) (by rfl) rfl ?_ ?_
 rotate_left
 ·
  go_simp
  rfl
 refine hK.out _ _ ?_
 clear hK K
 refine tI HT_ 12 15 16 8191 ?_
 refine last_ (i := 13) (N := none) (Steps.Bs 16 16383) rfl rfl (one_of HT_.out z0_) z5_ (fun K hK => ?_)
 have hs14 : w10.cell? ⟨gb636, 10, none⟩ = some (.slice A0_10 l0_10.length c0_10) := kc_ BK636 10
 have hfs14 := blk_frozen BK636.out 10
 have hns14_1 := NB637_636.out
 have hms14_1 := NB636_637.out
 refine skip_ (w1 := ?_) (by rfl) rfl ?_ ?_
 rotate_left
 ·
  go_simp
  rfl
 refine hK.out _ _ ?_
 clear hK K
 refine tI HT_ 14 16 16 32767 ?_
 refine last_ (i := 15) (N := none) (Steps.Bs 16 65535) rfl rfl (one_of HT_.out z0_) z5_ (fun K hK => ?_)
 have hs16 : w10.cell? ⟨gb636, 11, none⟩ = some (.slice A0_11 l0_11.length c0_11) := kc_ BK636 11
 have hfs16 := blk_frozen BK636.out 11
 have hns16_1 := NB637_636.out
 have hms16_1 := NB636_637.out
 refine skip_ (w1 := ?_) (by rfl) rfl ?_ ?_
 rotate_left
 ·
  go_simp
  rfl
 refine hK.out _ _ ?_
 clear hK K
 refine done_ (done_of HT_.out z0_) ?_
 have hnb17 := NB636_637.out
 have hnc17 := NB637_636.out
 have hcz_0 := blk_cell BK636.out
 have hfz_0 := blk_frozen BK636.out
 have hcz_0 := blk_cell BK637.out
 have hfz_0 := blk_frozen BK637.out
 try go_wp2
 refine bodyPost_ret (results_cell_row rfl _ _ gb637 32 #[.int .i64 a0_0, .int .i64 a0_1, .slice Ao11 t638.length co11, .int .i64 a0_3, .int .i64 a0_4, .int .i64 a0_5, .int .i64 a0_6, .int .i64 a0_7, .string a0_8, .int .i64 a0_9, .slice Ao13 t641.length co13, .slice Ao15 y644.length co15] (0, 0) _ rfl (by (with_reducible repeat (first | refine blk_drewN ?_ _ | refine blk_drew ?_ | refine blk_alloc ?_ _)); refine blk_put (cs := #[.int .i64 a0_0, .int .i64 a0_1, .slice Ao11 t638.length co11, .int .i64 a0_3, .int .i64 a0_4, .int .i64 a0_5, .int .i64 a0_6, .int .i64 a0_7, .string a0_8, .int .i64 a0_9, .slice Ao13 t641.length co13, .slice none 0 0]) ?_ 11 _ rfl; (with_reducible repeat (first | refine blk_drewN ?_ _ | refine blk_drew ?_ | refine blk_alloc ?_ _)); refine blk_put (cs := #[.int .i64 a0_0, .int .i64 a0_1, .slice Ao11 t638.length co11, .int .i64 a0_3, .int .i64 a0_4, .int .i64 a0_5, .int .i64 a0_6, .int .i64 a0_7, .string a0_8, .int .i64 a0_9, .slice none 0 0, .slice none 0 0]) ?_ 10 _ rfl; (with_reducible repeat (first | refine blk_drewN ?_ _ | refine blk_drew ?_ | refine blk_alloc ?_ _)); refine blk_put (cs := #[.int .i64 a0_0, .int .i64 a0_1, .slice Ao11 t638.length co11, .int .i64 a0_3, .int .i64 a0_4, .int .i64 a0_5, .int .i64 a0_6, .int .i64 a0_7, .string a0_8, .int .i64 0, .slice none 0 0, .slice none 0 0]) ?_ 9 _ rfl; (with_reducible repeat (first | refine blk_drewN ?_ _ | refine blk_drew ?_ | refine blk_alloc ?_ _)); refine blk_put (cs := #[.int .i64 a0_0, .int .i64 a0_1, .slice Ao11 t638.length co11, .int .i64 a0_3, .int .i64 a0_4, .int .i64 a0_5, .int .i64 a0_6, .int .i64 a0_7, .string (⟨#[]⟩ : ByteArray), .int .i64 0, .slice none 0 0, .slice none 0 0]) ?_ 8 _ rfl; (with_reducible repeat (first | refine blk_drewN ?_ _ | refine blk_drew ?_ | refine blk_alloc ?_ _)); refine blk_put (cs := #[.int .i64 a0_0, .int .i64 a0_1, .slice Ao11 t638.length co11, .int .i64 a0_3, .int .i64 a0_4, .int .i64 a0_5, .int .i64 a0_6, .int .i64 0, .string (⟨#[]⟩ : ByteArray), .int .i64 0, .slice none 0 0, .slice none 0 0]) ?_ 7 _ rfl; (with_reducible repeat (first | refine blk_drewN ?_ _ | refine blk_drew ?_ | refine blk_alloc ?_ _)); refine blk_put (cs := #[.int .i64 a0_0, .int .i64 a0_1, .slice Ao11 t638.length co11, .int .i64 a0_3, .int .i64 a0_4, .int .i64 a0_5, .int .i64 0, .int .i64 0, .string (⟨#[]⟩ : ByteArray), .int .i64 0, .slice none 0 0, .slice none 0 0]) ?_ 6 _ rfl; (with_reducible repeat (first | refine blk_drewN ?_ _ | refine blk_drew ?_ | refine blk_alloc ?_ _)); refine blk_put (cs := #[.int .i64 a0_0, .int .i64 a0_1, .slice Ao11 t638.length co11, .int .i64 a0_3, .int .i64 a0_4, .int .i64 0, .int .i64 0, .int .i64 0, .string (⟨#[]⟩ : ByteArray), .int .i64 0, .slice none 0 0, .slice none 0 0]) ?_ 5 _ rfl; (with_reducible repeat (first | refine blk_drewN ?_ _ | refine blk_drew ?_ | refine blk_alloc ?_ _)); refine blk_put (cs := #[.int .i64 a0_0, .int .i64 a0_1, .slice Ao11 t638.length co11, .int .i64 a0_3, .int .i64 0, .int .i64 0, .int .i64 0, .int .i64 0, .string (⟨#[]⟩ : ByteArray), .int .i64 0, .slice none 0 0, .slice none 0 0]) ?_ 4 _ rfl; (with_reducible repeat (first | refine blk_drewN ?_ _ | refine blk_drew ?_ | refine blk_alloc ?_ _)); refine blk_put (cs := #[.int .i64 a0_0, .int .i64 a0_1, .slice Ao11 t638.length co11, .int .i64 0, .int .i64 0, .int .i64 0, .int .i64 0, .int .i64 0, .string (⟨#[]⟩ : ByteArray), .int .i64 0, .slice none 0 0, .slice none 0 0]) ?_ 3 _ rfl; (with_reducible repeat (first | refine blk_drewN ?_ _ | refine blk_drew ?_ | refine blk_alloc ?_ _)); refine blk_put (cs := #[.int .i64 a0_0, .int .i64 a0_1, .slice none 0 0, .int .i64 0, .int .i64 0, .int .i64 0, .int .i64 0, .int .i64 0, .string (⟨#[]⟩ : ByteArray), .int .i64 0, .slice none 0 0, .slice none 0 0]) ?_ 2 _ rfl; (with_reducible repeat (first | refine blk_drewN ?_ _ | refine blk_drew ?_ | refine blk_alloc ?_ _)); refine blk_put (cs := #[.int .i64 a0_0, .int .i64 0, .slice none 0 0, .int .i64 0, .int .i64 0, .int .i64 0, .int .i64 0, .int .i64 0, .string (⟨#[]⟩ : ByteArray), .int .i64 0, .slice none 0 0, .slice none 0 0]) ?_ 1 _ rfl; (with_reducible repeat (first | refine blk_drewN ?_ _ | refine blk_drew ?_ | refine blk_alloc ?_ _)); refine blk_put (cs := #[.int .i64 0, .int .i64 0, .slice none 0 0, .int .i64 0, .int .i64 0, .int .i64 0, .int .i64 0, .int .i64 0, .string (⟨#[]⟩ : ByteArray), .int .i64 0, .slice none 0 0, .slice none 0 0]) ?_ 0 _ rfl; (with_reducible repeat (first | refine blk_drewN ?_ _ | refine blk_drew ?_ | refine blk_alloc ?_ _)); refine blk_far ?_ NB637_636.out _; (with_reducible repeat (first | refine blk_drewN ?_ _ | refine blk_drew ?_ | refine blk_alloc ?_ _)); refine blk_far ?_ NB637_636.out _; (with_reducible repeat (first | refine blk_drewN ?_ _ | refine blk_drew ?_ | refine blk_alloc ?_ _)); refine blk_far ?_ NB637_636.out _; (with_reducible repeat (first | refine blk_drewN ?_ _ | refine blk_drew ?_ | refine blk_alloc ?_ _)); exact BK637.out) Try.underlying32 rfl z0_) rfl ?_
 exact ⟨_, _, _, by first | rfl | (simp [errW_none, errW_some] <;> rfl) | (simp [*, errW_none, errW_some] <;> rfl), by (with_reducible repeat (first | apply R_alloc | apply R_drewN | apply R_drew)); exact R_mono (R_far (p := ⟨gb637, 11, none⟩) (R_far (p := ⟨gb637, 10, none⟩) (R_far (p := ⟨gb637, 9, none⟩) (R_far (p := ⟨gb637, 8, none⟩) (R_far (p := ⟨gb637, 7, none⟩) (R_far (p := ⟨gb637, 6, none⟩) (R_far (p := ⟨gb637, 5, none⟩) (R_far (p := ⟨gb637, 4, none⟩) (R_far (p := ⟨gb637, 3, none⟩) (R_far (p := ⟨gb637, 2, none⟩) (R_far (p := ⟨gb637, 1, none⟩) (R_far (p := ⟨gb637, 0, none⟩) (R_far (p := ⟨gb636, 11, none⟩) (R_far (p := ⟨gb636, 10, none⟩) (R_far (p := ⟨gb636, 2, none⟩) (R_types (R_types HO640.out BK636.out z5_) BK637.out z5_) (fun _ hk => hk.1.2) (.slice Ao11 t638.length co11)) (fun _ hk => hk.1.2) (.slice Ao13 t641.length co13)) (fun _ hk => hk.1.2) (.slice Ao15 y644.length co15)) (fun _ hk => hk.2) (.int .i64 a0_0)) (fun _ hk => hk.2) (.int .i64 a0_1)) (fun _ hk => hk.2) (.slice Ao11 t638.length co11)) (fun _ hk => hk.2) (.int .i64 a0_3)) (fun _ hk => hk.2) (.int .i64 a0_4)) (fun _ hk => hk.2) (.int .i64 a0_5)) (fun _ hk => hk.2) (.int .i64 a0_6)) (fun _ hk => hk.2) (.int .i64 a0_7)) (fun _ hk => hk.2) (.string a0_8)) (fun _ hk => hk.2) (.int .i64 a0_9)) (fun _ hk => hk.2) (.slice Ao13 t641.length co13)) (fun _ hk => hk.2) (.slice Ao15 y644.length co15)) (fun _ hk => trivial), by (with_reducible repeat (first | apply R_alloc | apply R_drewN | apply R_drew)); exact R_mono (R_far (p := ⟨gb637, 11, none⟩) (R_far (p := ⟨gb637, 10, none⟩) (R_far (p := ⟨gb637, 9, none⟩) (R_far (p := ⟨gb637, 8, none⟩) (R_far (p := ⟨gb637, 7, none⟩) (R_far (p := ⟨gb637, 6, none⟩) (R_far (p := ⟨gb637, 5, none⟩) (R_far (p := ⟨gb637, 4, none⟩) (R_far (p := ⟨gb637, 3, none⟩) (R_far (p := ⟨gb637, 2, none⟩) (R_far (p := ⟨gb637, 1, none⟩) (R_far (p := ⟨gb637, 0, none⟩) (R_far (p := ⟨gb636, 11, none⟩) (R_far (p := ⟨gb636, 10, none⟩) (R_far (p := ⟨gb636, 2, none⟩) (R_types (R_types HO643.out BK636.out z5_) BK637.out z5_) (fun _ hk => hk.1.2) (.slice Ao11 t638.length co11)) (fun _ hk => hk.1.2) (.slice Ao13 t641.length co13)) (fun _ hk => hk.1.2) (.slice Ao15 y644.length co15)) (fun _ hk => hk.2) (.int .i64 a0_0)) (fun _ hk => hk.2) (.int .i64 a0_1)) (fun _ hk => hk.2) (.slice Ao11 t638.length co11)) (fun _ hk => hk.2) (.int .i64 a0_3)) (fun _ hk => hk.2) (.int .i64 a0_4)) (fun _ hk => hk.2) (.int .i64 a0_5)) (fun _ hk => hk.2) (.int .i64 a0_6)) (fun _ hk => hk.2) (.int .i64 a0_7)) (fun _ hk => hk.2) (.string a0_8)) (fun _ hk => hk.2) (.int .i64 a0_9)) (fun _ hk => hk.2) (.slice Ao13 t641.length co13)) (fun _ hk => hk.2) (.slice Ao15 y644.length co15)) (fun _ hk => trivial), by (with_reducible repeat (first | apply R_alloc | apply R_drewN | apply R_drew)); exact R_mono (R_far (p := ⟨gb637, 11, none⟩) (R_far (p := ⟨gb637, 10, none⟩) (R_far (p := ⟨gb637, 9, none⟩) (R_far (p := ⟨gb637, 8, none⟩) (R_far (p := ⟨gb637, 7, none⟩) (R_far (p := ⟨gb637, 6, none⟩) (R_far (p := ⟨gb637, 5, none⟩) (R_far (p := ⟨gb637, 4, none⟩) (R_far (p := ⟨gb637, 3, none⟩) (R_far (p := ⟨gb637, 2, none⟩) (R_far (p := ⟨gb637, 1, none⟩) (R_far (p := ⟨gb637, 0, none⟩) (R_far (p := ⟨gb636, 11, none⟩) (R_far (p := ⟨gb636, 10, none⟩) (R_far (p := ⟨gb636, 2, none⟩) (R_types (R_types HO646.out BK636.out z5_) BK637.out z5_) (fun _ hk => hk.1.2) (.slice Ao11 t638.length co11)) (fun _ hk => hk.1.2) (.slice Ao13 t641.length co13)) (fun _ hk => hk.1.2) (.slice Ao15 y644.length co15)) (fun _ hk => hk.2) (.int .i64 a0_0)) (fun _ hk => hk.2) (.int .i64 a0_1)) (fun _ hk => hk.2) (.slice Ao11 t638.length co11)) (fun _ hk => hk.2) (.int .i64 a0_3)) (fun _ hk => hk.2) (.int .i64 a0_4)) (fun _ hk => hk.2) (.int .i64 a0_5)) (fun _ hk => hk.2) (.int .i64 a0_6)) (fun _ hk => hk.2) (.int .i64 a0_7)) (fun _ hk => hk.2) (.string a0_8)) (fun _ hk => hk.2) (.int .i64 a0_9)) (fun _ hk => hk.2) (.slice Ao13 t641.length co13)) (fun _ hk => hk.2) (.slice Ao15 y644.length co15)) (fun _ hk => trivial), Short.hB HB⟩
end Go.Proofs.Ytjnjfogfpmeacaa.PAll
end
section
namespace Go.Proofs.Ytjnjfogfpmeacaa.Plain
open Go.RowKit PrintWords PrintLast PrintMore ZipT PrintWords.Kd PrintMore.Kd
set_option linter.unusedVariables false
set_option linter.unusedSimpArgs false
theorem w64 {x : Int} (h0 : -9223372036854775808 ≤ x) (h1 : x ≤ 9223372036854775807) : wrap64 x = x := by
 unfold wrap64; omega
theorem wu64 {x : Int} (h0 : 0 ≤ x) (h1 : x < 18446744073709551616) : IntKind.u64.wrap x = x := by
 simp [IntKind.wrap, IntKind.bits, IntKind.signed]; omega
theorem wi64 (x : Int) : IntKind.i64.wrap x = wrap64 x := by rw [IntKind.wrap_i64]; unfold wrap64; rfl
def Byte (b : Int) : Prop := 0 ≤ b ∧ b ≤ 255
def Bytes (l : List Int) : Prop := ∀ b ∈ l, Byte b
theorem Bytes.nil : Bytes [] := fun _ h => by cases h
theorem Bytes.cons {b : Int} {l : List Int} (h : Byte b) (k : Bytes l) : Bytes (b :: l) := fun x hx => by
 rcases List.mem_cons.1 hx with rfl | hx
 ·
  exact h
 ·
  exact k x hx
theorem Bytes.head {b : Int} {l : List Int} (h : Bytes (b :: l)) : Byte b := h b List.mem_cons_self
theorem Bytes.tail {b : Int} {l : List Int} (h : Bytes (b :: l)) : Bytes l := fun x hx => h x (List.mem_cons_of_mem _ hx)
theorem Bytes.append {a b : List Int} (h : Bytes a) (k : Bytes b) : Bytes (a ++ b) := fun x hx => by
 rcases List.mem_append.1 hx with hx | hx
 ·
  exact h x hx
 ·
  exact k x hx
theorem Bytes.take {a : List Int} (h : Bytes a) (n : Nat) : Bytes (a.take n) := fun x hx => h x (List.mem_of_mem_take hx)
theorem Bytes.drop {a : List Int} (h : Bytes a) (n : Nat) : Bytes (a.drop n) := fun x hx => h x (List.mem_of_mem_drop hx)
theorem Bytes.rd {l : List Int} (h : Bytes l) (i : Int) : Byte (rd l i) := by
 show Byte (l.getD i.toNat 0)
 rcases Nat.lt_or_ge i.toNat l.length with hi | hi
 ·
  rw [List.getD_eq_getElem?_getD, List.getElem?_eq_getElem hi]; exact h _ (List.getElem_mem hi)
 ·
  rw [List.getD_eq_getElem?_getD, List.getElem?_eq_none hi]; exact ⟨by decide, by decide⟩
def big (n : Int) : Nat → List Int
 | 0 => []
 | s + 1 => (n / 256 ^ s) % 256 :: big n s
def val : Int → List Int → Int
 | a, [] => a
 | a, b :: l => val (a * 256 + b) l
theorem big_length (n : Int) (s : Nat) : (big n s).length = s := by
 induction s with
 | zero => rfl
 | succ s ih => simp [big, ih]
theorem big_bytes (n : Int) (s : Nat) : Bytes (big n s) := by
 induction s with
 | zero => exact Bytes.nil
 | succ s ih =>
  refine Bytes.cons ⟨?_, ?_⟩ ih
  ·
   exact Int.emod_nonneg _ z5_
  ·
   have := Int.emod_lt_of_pos (n / 256 ^ s) (show (0 : Int) < 256 by decide); omega
theorem emod_mul' (n a b : Int) (ha : 0 < a) : n % (a * b) = (n / a % b) * a + n % a := by
 have h1 := Int.emod_add_mul_ediv n a
 have h2 := Int.emod_add_mul_ediv (n / a) b
 have h3 : n % (a * b) = n - a * b * (n / (a * b)) := by have := Int.emod_add_mul_ediv n (a * b); omega
 have h4 : n / (a * b) = n / a / b := (Int.ediv_ediv_of_nonneg z3_).symm
 rw [h3, h4]
 have h5 : a * (n / a) = a * (n / a % b) + a * (b * (n / a / b)) := by rw [← Int.mul_add]; exact congrArg (a * ·) h2.symm
 rw [Int.mul_assoc, Int.mul_comm (n / a % b)]
 omega
theorem pow_pos (s : Nat) : (0 : Int) < 256 ^ s := Int.pow_pos z5_
theorem val_big (n : Int) (s : Nat) (a : Int) : val a (big n s) = a * 256 ^ s + n % 256 ^ s := by
 induction s generalizing a with
 | zero => simp [big, val]
 | succ s ih =>
  have hp := pow_pos s
  have h1 : n % 256 ^ (s + 1) = (n / 256 ^ s % 256) * 256 ^ s + n % 256 ^ s := by
   have e : (256 : Int) ^ (s + 1) = 256 ^ s * 256 := Int.pow_succ _ _
   rw [e]; exact emod_mul' _ _ _ hp
  rw [big, val, ih, h1, Int.pow_succ]
  rw [Int.add_mul, Int.mul_assoc, Int.mul_comm 256]
  omega
end Go.Proofs.Ytjnjfogfpmeacaa.Plain
end
section
namespace Go.Proofs.Ytjnjfogfpmeacaa.Plain
open Go.RowKit PAll PrintWords PrintLast PrintMore ZipT PrintWords.Kd PrintMore.Kd
set_option linter.unusedVariables false
set_option linter.unusedSimpArgs false
theorem pow256 (s : Nat) : (2 : Int) ^ (8 * s) = 256 ^ s := by rw [Int.pow_mul]; rfl
theorem pow256_le {s : Nat} (h : s ≤ 7) : (256 : Int) ^ s ≤ 72057594037927936 := by
 have : s = 0 ∨ s = 1 ∨ s = 2 ∨ s = 3 ∨ s = 4 ∨ s = 5 ∨ s = 6 ∨ s = 7 := by omega
 rcases this with rfl | rfl | rfl | rfl | rfl | rfl | rfl | rfl <;> decide
theorem shr_bytes (n : Int) (i : Nat) (hi : i ≤ 8) : shr .i64 n (8 * i) = n / 256 ^ i := by
 unfold shr
 have h1 : (8 * (i : Int)).toNat = 8 * i := by omega
 rw [h1, Nat.min_eq_left (by simp [IntKind.bits]; omega), pow256]
theorem shl_bytes (i : Nat) (hi : i ≤ 7) : shl .i64 1 (8 * i) = 256 ^ i := by
 unfold shl
 have h1 : (8 * (i : Int)).toNat = 8 * i := by omega
 have h2 := pow256_le hi
 have h3 := pow_pos i
 rw [h1, Nat.min_eq_left (by simp [IntKind.bits]; omega), pow256, wi64, Int.one_mul, w64 z3_ z3_]
theorem clone_eq (l : List Int) (hl : l.length ≤ 1000000) : slices_Clone_byte_byte.f l = some l := by
 unfold slices_Clone_byte_byte.f
 simp only [Option.bind_some, List.length_nil, List.nil_append]
 rw [if_pos z3_]
theorem big_l0 (n : Int) (i : Nat) : ∀ (k : Nat) (out : List Int), i ≤ 8 → out.length + i ≤ 1000000 → i < k → wire_big.l0 k n out ((i : Int) - 1) = some (out ++ big n i) := by
 induction i with
 | zero =>
  intro k out _ _ hk
  obtain ⟨k, rfl⟩ : ∃ m, k = m + 1 := ⟨k - 1, by omega⟩
  simp only [wire_big.l0]
  rw [if_neg z3_]
  simp [big]
 | succ i ih =>
  intro k out hi ho hk
  obtain ⟨k, rfl⟩ : ∃ m, k = m + 1 := ⟨k - 1, by omega⟩
  simp only [wire_big.l0]
  have e : (((i + 1 : Nat) : Int) - 1) = (i : Int) := by omega
  rw [e, if_pos z3_, w64 z3_ z3_, if_pos z3_, if_pos z3_, shr_bytes n i z3_, w64 z3_ z3_, ih k _ z3_ (by simp; omega) z3_]
  simp [big]
theorem big_eq (k : Nat) (l : List Int) (n size : Int) (h0 : 0 ≤ size) (h1 : size ≤ 8) (hl : l.length ≤ 900000) (hk : 10 ≤ k) : wire_big.f k l n size = some (l ++ big n size.toNat) := by
 obtain ⟨s, rfl⟩ := Int.eq_ofNat_of_zero_le h0
 unfold wire_big.f
 rw [clone_eq l z3_, Option.bind_some, w64 z3_ z3_, Int.toNat_natCast]
 exact big_l0 n s k l z3_ z3_ z3_
def sPut (l : List Int) (n size : Int) : List Int × Int := if 1 ≤ size ∧ size ≤ 7 ∧ 0 ≤ n ∧ n < 256 ^ size.toNat then (l ++ big n size.toNat, 0) else ([], 1)
theorem put_eq (k : Nat) (l : List Int) (n size : Int) (hl : l.length ≤ 900000) (hk : 10 ≤ k) : wire_Put.f k l n size = some (sPut l n size) := by
 unfold wire_Put.f sPut
 by_cases h1 : size < 1
 ·
  rw [if_pos h1, if_neg z3_]
 rw [if_neg h1]
 by_cases h2 : size > 7
 ·
  rw [if_pos h2, if_neg z3_]
 rw [if_neg h2]
 by_cases h3 : n < 0
 ·
  rw [if_pos h3, if_neg z3_]
 obtain ⟨s, rfl⟩ := Int.eq_ofNat_of_zero_le (show 0 ≤ size by omega)
 rw [if_neg h3, w64 z3_ z3_, if_pos z3_, shl_bytes s z3_, Int.toNat_natCast]
 by_cases h4 : n ≥ 256 ^ s
 ·
  rw [if_pos h4, if_neg z3_]
 rw [if_neg h4, big_eq k l n s z3_ z3_ hl hk, Option.bind_some, Int.toNat_natCast, if_pos z3_]
def intB (n : Int) : List Int := if n < 0 then 1 :: big (-n) 8 else 0 :: big n 8
def sPutInt (l : List Int) (n : Int) : List Int × Int := if -1152921504606846976 ≤ n ∧ n ≤ 1152921504606846976 then (l ++ intB n, 0) else ([], 1)
theorem putInt_eq (k : Nat) (l : List Int) (n : Int) (hl : l.length ≤ 800000) (hk : 20 ≤ k) : wire_PutInt.f k l n = some (sPutInt l n) := by
 obtain ⟨k, rfl⟩ : ∃ m, k = m + 1 := ⟨k - 1, by omega⟩
 unfold wire_PutInt.f sPutInt
 by_cases h1 : n < -1152921504606846976
 ·
  rw [if_pos h1, if_neg z3_]
  simp [wire_PutInt.j0]
 rw [if_neg h1]
 by_cases h2 : n > 1152921504606846976
 ·
  rw [if_neg z3_]
  simp [wire_PutInt.j0, h2]
 rw [if_pos z3_]
 simp only [wire_PutInt.j0, h2, decide_false]
 rw [if_neg (by simp)]
 unfold intB
 by_cases h3 : n < 0
 ·
  rw [if_pos h3, if_pos h3, clone_eq l z3_, Option.bind_some, if_pos z3_, w64 z3_ z3_, big_eq k _ _ 8 z3_ z3_ (by simp; omega) z3_]
  simp
 rw [if_neg h3, if_neg h3, clone_eq l z3_, Option.bind_some, if_pos z3_, big_eq k _ _ 8 z3_ z3_ (by simp; omega) z3_]
 simp
def sPutText (l : List Int) (s : ByteArray) : List Int × Int := if s.size ≤ 24 then (l ++ (s.size : Int) :: bytesOf s, 0) else ([], 2)
theorem putText_eq (l : List Int) (s : ByteArray) (hl : l.length ≤ 800000) : wire_PutText.f l s = some (sPutText l s) := by
 unfold wire_PutText.f sPutText
 by_cases h1 : (s.size : Int) > 24
 ·
  rw [if_pos h1, if_neg z3_]
 rw [if_neg h1, if_pos z3_, clone_eq l z3_, Option.bind_some, if_pos z3_]
 simp only [Option.bind_some]
 rw [if_pos (by simp; omega), show ((s.size : Int) % 256) = s.size from by omega]
 simp
theorem val_nonneg (l : List Int) : ∀ a : Int, 0 ≤ a → Bytes l → 0 ≤ val a l := by
 induction l with
 | nil => intro a h _; exact h
 | cons b l ih =>
  intro a h hb
  have := hb.head
  exact ih _ (by unfold Byte at this; omega) hb.tail
theorem val_lt (l : List Int) : ∀ a : Int, 0 ≤ a → Bytes l → val a l < (a + 1) * 256 ^ l.length := by
 induction l with
 | nil => intro a h _; simp [val]; omega
 | cons b l ih =>
  intro a h hb
  have h1 := hb.head
  unfold Byte at h1
  have h2 := ih (a * 256 + b) z3_ hb.tail
  have h3 := pow_pos l.length
  rw [val]
  refine Int.lt_of_lt_of_le h2 ?_
  rw [List.length_cons, Int.pow_succ, Int.mul_comm ((256 : Int) ^ l.length), ← Int.mul_assoc]
  exact Int.mul_le_mul_of_nonneg_right z3_ z3_
theorem or_u64 (a b : Int) (h0 : 0 ≤ a) (h1 : a * 256 < 18446744073709551616) (hb : Byte b) : Go.bits .or .u64 (IntKind.u64.wrap (a * 256)) (IntKind.u64.wrap b) = a * 256 + b := by
 unfold Byte at hb
 rw [wu64 z3_ h1, wu64 z3_ z3_]
 exact bits_join .u64 64 z5_ (fun n h h' => wu64 h z3_) 8 _ _ z3_ z3_ z3_ z3_ z3_ z3_
theorem rd_drop {l : List Int} {i : Nat} {b : Int} {m : List Int} (h : l.drop i = b :: m) : rd l i = b := by
 have hi : i < l.length := by
  rcases Nat.lt_or_ge i l.length with h1 | h1
  ·
   exact h1
  ·
   rw [List.drop_eq_nil_of_le h1] at h; cases h
 show l.getD (i : Int).toNat 0 = b
 rw [List.getD_eq_getElem?_getD, Int.toNat_natCast, List.getElem?_eq_getElem hi]
 have := List.drop_eq_getElem_cons hi
 rw [this] at h
 injection h
theorem drop_tail {l : List Int} {i : Nat} {b : Int} {m : List Int} (h : l.drop i = b :: m) : l.drop (i + 1) = m := by
 have := congrArg List.tail h
 rwa [List.tail_drop] at this
theorem drop_lt {l : List Int} {i : Nat} {b : Int} {m : List Int} (h : l.drop i = b :: m) : i < l.length := by
 rcases Nat.lt_or_ge i l.length with h1 | h1
 ·
  exact h1
 ·
  rw [List.drop_eq_nil_of_le h1] at h; cases h
theorem drop_end {l : List Int} {i : Nat} (h : l.drop i = []) : l.length ≤ i := by
 rcases Nat.lt_or_ge i l.length with h1 | h1
 ·
  have := List.drop_eq_getElem_cons h1; rw [this] at h; cases h
 ·
  exact h1
theorem num_l0 (l : List Int) (hb : Bytes l) (m : List Int) : ∀ (k i : Nat) (a : Int), l.drop i = m → 0 ≤ a → (a + 1) * 256 ^ m.length ≤ 18446744073709551616 → i + m.length ≤ 1000 → m.length < k →
  wire_num.l0 k a l (l.length : Int) i = some (val a m) := by
 induction m with
 | nil =>
  intro k i a h h0 h1 hi hk
  obtain ⟨k, rfl⟩ : ∃ m, k = m + 1 := ⟨k - 1, by omega⟩
  have := drop_end h
  simp only [wire_num.l0]
  rw [if_neg z3_]
  rfl
 | cons b m ih =>
  intro k i a h h0 h1 hi hk
  obtain ⟨k, rfl⟩ : ∃ m, k = m + 1 := ⟨k - 1, by omega⟩
  have hlt := drop_lt h
  have hbb : Byte b := by have := hb.rd i; rw [rd_drop h] at this; exact this
  have hbb' := hbb
  unfold Byte at hbb'
  simp only [List.length_cons] at hi hk h1
  have hp := pow_pos m.length
  have h2 : (a * 256 + b + 1) * 256 ^ m.length ≤ 18446744073709551616 := by
   refine Int.le_trans ?_ h1
   rw [Int.pow_succ, Int.mul_comm ((256 : Int) ^ m.length), ← Int.mul_assoc]
   exact Int.mul_le_mul_of_nonneg_right z3_ z3_
  have h3 : (a * 256 + b + 1) * 1 ≤ (a * 256 + b + 1) * 256 ^ m.length := Int.mul_le_mul_of_nonneg_left z3_ z3_
  simp only [wire_num.l0]
  rw [if_pos z3_, if_pos z3_, if_pos z3_, rd_drop h, or_u64 a b h0 z3_ hbb, w64 z3_ z3_]
  exact ih k (i + 1) _ (drop_tail h) z3_ h2 z3_ z3_
theorem num_eq (k : Nat) (l : List Int) (hb : Bytes l) (hl : l.length ≤ 8) (hk : 10 ≤ k) : wire_num.f k l = some (val 0 l) := by
 unfold wire_num.f
 refine num_l0 l hb l k 0 0 rfl z3_ ?_ z3_ z3_
 have : l.length = 8 ∨ l.length ≤ 7 := by omega
 rcases this with h | h
 ·
  rw [h]; decide
 ·
  have := pow256_le h; omega
def sub (l : List Int) (a b : Nat) : List Int := (l.take b).drop a
theorem sub_length {l : List Int} {a b : Nat} (h : b ≤ l.length) : (sub l a b).length = b - a := by simp [sub]; omega
theorem sub_bytes {l : List Int} (h : Bytes l) (a b : Nat) : Bytes (sub l a b) := (h.take b).drop a
def sGet (l : List Int) (at_ size : Int) : Int × Int × Int :=
 if 1 ≤ size ∧ size ≤ 7 ∧ 0 ≤ at_ ∧ at_ ≤ l.length then (if l.length - at_ < size then (0, 0, 3) else (val 0 (sub l at_.toNat (at_ + size).toNat), at_ + size, 0)) else (0, 0, 1)
theorem val7 {l : List Int} (hb : Bytes l) (h : l.length ≤ 7) : 0 ≤ val 0 l ∧ val 0 l < 72057594037927936 := by
 have h1 := val_lt l 0 z3_ hb
 have h2 := pow256_le h
 exact ⟨val_nonneg l 0 z3_ hb, by omega⟩
theorem get_eq (k : Nat) (l : List Int) (at_ size : Int) (hb : Bytes l) (hl : l.length ≤ 1000000) (ha : at_ ≤ 9223372036854775807) (hk : 20 ≤ k) : wire_Get.f k l at_ size = some (sGet l at_ size) := by
 obtain ⟨k, rfl⟩ : ∃ m, k = m + 1 := ⟨k - 1, by omega⟩
 unfold wire_Get.f sGet
 by_cases h1 : size < 1
 ·
  rw [if_pos h1, if_neg z3_]; simp [wire_Get.j0]
 rw [if_neg h1]
 by_cases h2 : size > 7
 ·
  rw [if_pos h2, if_neg z3_]; simp [wire_Get.j0]
 rw [if_neg h2]
 by_cases h3 : at_ < 0
 ·
  rw [if_pos h3, if_neg z3_]; simp [wire_Get.j0]
 rw [if_neg h3]
 by_cases h4 : at_ > (l.length : Int)
 ·
  rw [if_neg z3_]; simp [wire_Get.j0, h4]
 rw [if_pos z3_]
 simp only [wire_Get.j0, h4, decide_false]
 rw [if_neg (by simp), w64 z3_ z3_]
 by_cases h5 : (l.length : Int) - at_ < size
 ·
  rw [if_pos h5, if_pos h5]
 have hs : (sub l at_.toNat (at_ + size).toNat).length ≤ 7 := by rw [sub_length z3_]; omega
 have hv := val7 (sub_bytes hb at_.toNat (at_ + size).toNat) hs
 rw [if_neg h5, if_neg h5, w64 z3_ z3_, if_pos z3_, if_pos z3_, if_pos z3_]
 have := num_eq k (sub l at_.toNat (at_ + size).toNat) (sub_bytes hb _ _) z3_ z3_
 unfold sub at this
 rw [this, Option.bind_some, ]
 unfold sub at hv
 rw [w64 z3_ z3_]
 rfl
def sGetInt (l : List Int) (at_ : Int) : Int × Int × Int :=
  if 0 ≤ at_ ∧ at_ ≤ l.length then
    (if l.length - at_ < 9 ∨ rd l at_ > 1 ∨ val 0 (sub l (at_ + 1).toNat (at_ + 9).toNat) > 1152921504606846976 ∨ (rd l at_ = 1 ∧ val 0 (sub l (at_ + 1).toNat (at_ + 9).toNat) = 0) then (0, 0, 3)
     else if rd l at_ = 1 then (-(val 0 (sub l (at_ + 1).toNat (at_ + 9).toNat)), at_ + 9, 0) else (val 0 (sub l (at_ + 1).toNat (at_ + 9).toNat), at_ + 9, 0))
  else (0, 0, 1)
theorem getInt_eq (k : Nat) (l : List Int) (at_ : Int) (hb : Bytes l) (hl : l.length ≤ 1000000) (ha : at_ ≤ 9223372036854775807) (hk : 20 ≤ k) : wire_GetInt.f k l at_ = some (sGetInt l at_) := by
 obtain ⟨k, rfl⟩ : ∃ m, k = m + 3 := ⟨k - 3, by omega⟩
 unfold wire_GetInt.f sGetInt
 by_cases h1 : at_ < 0
 ·
  rw [if_pos h1, if_neg z3_]; simp [wire_GetInt.j0]
 rw [if_neg h1]
 by_cases h2 : at_ > (l.length : Int)
 ·
  rw [if_neg z3_]; simp [wire_GetInt.j0, h2]
 rw [if_pos z3_]
 simp only [wire_GetInt.j0, h2, decide_false]
 rw [if_neg (by simp), w64 z3_ z3_]
 by_cases h3 : (l.length : Int) - at_ < 9
 ·
  rw [if_pos h3, if_pos (Or.inl h3)]; simp [wire_GetInt.j1]
 rw [if_neg h3, if_pos z3_, if_pos z3_]
 by_cases h4 : rd l at_ > 1
 ·
  rw [if_pos (Or.inr (Or.inl h4))]; simp [wire_GetInt.j1, h4]
 have hs : (sub l (at_ + 1).toNat (at_ + 9).toNat).length = 8 := by rw [sub_length z3_]; omega
 have hn := fun k' (hk' : 10 ≤ k') => num_eq k' (sub l (at_ + 1).toNat (at_ + 9).toNat) (sub_bytes hb _ _) z3_ hk'
 have hv := val_nonneg (sub l (at_ + 1).toNat (at_ + 9).toNat) 0 z3_ (sub_bytes hb _ _)
 have hr := hb.rd at_
 unfold Byte at hr
 simp only [wire_GetInt.j1, h4, decide_false]
 rw [if_neg (by simp), w64 z3_ z3_, w64 z3_ z3_, if_pos z3_, if_pos z3_, if_pos z3_]
 generalize hV : val 0 (sub l (at_ + 1).toNat (at_ + 9).toNat) = V at *
 unfold sub at hn
 rw [hn _ z3_, Option.bind_some]
 by_cases h5 : V > 1152921504606846976
 ·
  rw [if_pos h5, if_pos z3_]; simp [wire_GetInt.j2]
 rw [if_neg h5, if_pos z3_, if_pos z3_]
 by_cases h6 : rd l at_ = 1
 rotate_left
 ·
  rw [if_neg h6, if_neg (by simp; omega), if_neg h6]
  simp only [wire_GetInt.j2]
  rw [if_neg (by simp), if_pos z3_, if_pos z3_, if_neg h6, w64 (x := V) z3_ z3_, w64 (x := at_ + 9) z3_ z3_]
 rw [if_pos h6]
 by_cases h7 : V = 0
 ·
  rw [if_pos z3_]; simp [wire_GetInt.j2, h7]
 have h7' : (V == 0) = false := by simpa using h7
 rw [if_neg (by simp; omega), if_pos h6]
 simp only [wire_GetInt.j2, h7']
 rw [if_neg (by simp), if_pos z3_, if_pos z3_, if_pos h6, w64 (x := V) z3_ z3_, w64 (x := -V) z3_ z3_, w64 (x := at_ + 9) z3_ z3_]
def sGetText (l : List Int) (at_ : Int) : ByteArray × Int × Int :=
  if 0 ≤ at_ ∧ at_ ≤ l.length then
    (if at_ = l.length ∨ rd l at_ > 24 ∨ l.length - at_ - 1 < rd l at_ then (⟨#[]⟩, 0, 3)
     else (strOfNums (sub l (at_ + 1).toNat (at_ + 1 + rd l at_).toNat), at_ + 1 + rd l at_, 0))
  else (⟨#[]⟩, 0, 1)
theorem getText_eq (k : Nat) (l : List Int) (at_ : Int) (hb : Bytes l) (hl : l.length ≤ 1000000) (ha : at_ ≤ 9223372036854775807) (hk : 20 ≤ k) : wire_GetText.f k l at_ = some (sGetText l at_) := by
 obtain ⟨k, rfl⟩ : ∃ m, k = m + 1 := ⟨k - 1, by omega⟩
 unfold wire_GetText.f sGetText
 by_cases h1 : at_ < 0
 ·
  rw [if_pos h1, if_neg z3_]; simp [wire_GetText.j0]
 rw [if_neg h1]
 by_cases h2 : at_ > (l.length : Int)
 ·
  rw [if_neg z3_]; simp [wire_GetText.j0, h2]
 rw [if_pos z3_]
 simp only [wire_GetText.j0, h2, decide_false]
 rw [if_neg (by simp)]
 by_cases h3 : at_ = (l.length : Int)
 ·
  rw [if_pos h3, if_pos (Or.inl h3)]
 have hr := hb.rd at_
 unfold Byte at hr
 rw [if_neg h3, if_pos z3_, if_pos z3_, w64 z3_ z3_]
 by_cases h4 : rd l at_ > 24
 ·
  rw [if_pos h4, if_pos (Or.inr (Or.inl h4))]
 rw [if_neg h4, w64 (x := (l.length : Int) - at_) z3_ z3_, w64 z3_ z3_]
 by_cases h5 : (l.length : Int) - at_ - 1 < rd l at_
 ·
  rw [if_pos h5, if_pos (Or.inr (Or.inr h5))]
 rw [if_neg h5, w64 (x := at_ + 1) z3_ z3_, w64 (x := at_ + 1 + rd l at_) z3_ z3_, if_pos z3_, if_pos z3_, if_pos z3_, if_neg z3_]
 rfl
end Go.Proofs.Ytjnjfogfpmeacaa.Plain
end
section
namespace Go.Proofs.Ytjnjfogfpmeacaa.Plain
open Go.RowKit PAll PrintWords PrintLast PrintMore ZipT PrintWords.Kd PrintMore.Kd
set_option linter.unusedVariables false
set_option linter.unusedSimpArgs false
theorem strOfNums_bytesOf (s : ByteArray) : strOfNums (bytesOf s) = s := by
 unfold strOfNums bytesOf
 rw [List.map_map]
 have : (fun n : Int => UInt8.ofNat n.toNat) ∘ (fun b : UInt8 => (b.toNat : Int)) = id := by
  funext b; simp
 rw [this, List.map_id]
theorem bytesOf_bytes (s : ByteArray) : Bytes (bytesOf s) := by
 intro b hb
 unfold bytesOf at hb
 obtain ⟨c, _, rfl⟩ := List.mem_map.1 hb
 have := c.toNat_lt
 exact ⟨by omega, by omega⟩
theorem bytesOf_strOfNums {l : List Int} (h : Bytes l) : bytesOf (strOfNums l) = l := by
 unfold strOfNums bytesOf
 simp only [List.map_map]
 induction l with
 | nil => rfl
 | cons b l ih =>
  have hb := h.head
  unfold Byte at hb
  rw [List.map_cons, ih h.tail]
  congr 1
  simp
  omega
theorem strOfNums_size (l : List Int) : (strOfNums l).size = l.length := by
 unfold strOfNums; simp [ByteArray.size]
theorem intB_length (n : Int) : (intB n).length = 9 := by unfold intB; split <;> simp [big_length]
theorem intB_bytes (n : Int) : Bytes (intB n) := by
 unfold intB
 split
 ·
  exact Bytes.cons ⟨by decide, by decide⟩ (big_bytes _ _)
 ·
  exact Bytes.cons ⟨by decide, by decide⟩ (big_bytes _ _)
theorem sub_mid (a b c : List Int) {i j : Nat} (hi : i = a.length) (hj : j = a.length + b.length) : sub (a ++ b ++ c) i j = b := by
 subst hi hj
 unfold sub
 rw [List.take_append_of_le_length (by simp), ← List.length_append, List.take_length, List.drop_left]
theorem rd_mid (a : List Int) (b : Int) (c : List Int) {i : Int} (hi : i = a.length) : rd (a ++ b :: c) i = b := by
 subst hi
 exact rd_drop (m := c) (by rw [List.drop_left])
theorem pow8 : (256 : Int) ^ 8 = 18446744073709551616 := by decide
theorem val_big8 {n : Int} (h0 : 0 ≤ n) (h1 : n < 18446744073709551616) : val 0 (big n 8) = n := by
 rw [val_big, pow8]; omega
theorem getInt_put (a c : List Int) (n : Int) (h0 : -1152921504606846976 ≤ n) (h1 : n ≤ 1152921504606846976) :
  sGetInt (a ++ intB n ++ c) a.length = (n, (a.length : Int) + 9, 0) := by
 unfold sGetInt
 have hl : (a ++ intB n ++ c).length = a.length + 9 + c.length := by simp [intB_length]; omega
 rw [if_pos z3_]
 by_cases h : n < 0
 rotate_left
 ·
  have e : a ++ intB n ++ c = a ++ 0 :: (big n 8 ++ c) := by unfold intB; rw [if_neg h]; simp
  have e2 : a ++ intB n ++ c = (a ++ [0]) ++ big n 8 ++ c := by unfold intB; rw [if_neg h]; simp
  have hs : sub (a ++ intB n ++ c) ((a.length : Int) + 1).toNat ((a.length : Int) + 9).toNat = big n 8 := by
   rw [e2]; exact sub_mid _ _ _ (by simp <;> omega) (by simp [big_length] <;> omega)
  have hr : rd (a ++ intB n ++ c) (a.length : Int) = 0 := by rw [e]; exact rd_mid _ _ _ rfl
  rw [hs, val_big8 z3_ z3_, hr, if_neg z3_, if_neg z5_]
 have e : a ++ intB n ++ c = a ++ 1 :: (big (-n) 8 ++ c) := by unfold intB; rw [if_pos h]; simp
 have e2 : a ++ intB n ++ c = (a ++ [1]) ++ big (-n) 8 ++ c := by unfold intB; rw [if_pos h]; simp
 have hs : sub (a ++ intB n ++ c) ((a.length : Int) + 1).toNat ((a.length : Int) + 9).toNat = big (-n) 8 := by
  rw [e2]; exact sub_mid _ _ _ (by simp <;> omega) (by simp [big_length] <;> omega)
 have hr : rd (a ++ intB n ++ c) (a.length : Int) = 1 := by rw [e]; exact rd_mid _ _ _ rfl
 rw [hs, val_big8 z3_ z3_, hr, if_neg z3_, if_pos rfl]
 simp
theorem get_put (a c : List Int) (n : Int) (s : Nat) (hs0 : 1 ≤ s) (hs : s ≤ 7) (h0 : 0 ≤ n) (h1 : n < 256 ^ s) :
  sGet (a ++ big n s ++ c) a.length s = (n, (a.length : Int) + s, 0) := by
 unfold sGet
 have hl : (a ++ big n s ++ c).length = a.length + s + c.length := by simp [big_length]; omega
 rw [if_pos z3_, if_neg z3_, sub_mid _ _ _ z3_ (by simp [big_length]; omega), val_big]
 simp
 exact Int.emod_eq_of_lt h0 h1
theorem getText_put (a c : List Int) (s : ByteArray) (h : s.size ≤ 24) :
  sGetText (a ++ (s.size : Int) :: bytesOf s ++ c) a.length = (s, (a.length : Int) + 1 + s.size, 0) := by
 unfold sGetText
 have hl : (a ++ (s.size : Int) :: bytesOf s ++ c).length = a.length + 1 + s.size + c.length := by simp [bytesOf_length]; omega
 have e : a ++ (s.size : Int) :: bytesOf s ++ c = a ++ (s.size : Int) :: (bytesOf s ++ c) := by simp
 have e2 : a ++ (s.size : Int) :: bytesOf s ++ c = (a ++ [(s.size : Int)]) ++ bytesOf s ++ c := by simp
 have hr : rd (a ++ (s.size : Int) :: bytesOf s ++ c) (a.length : Int) = s.size := by rw [e]; exact rd_mid _ _ _ rfl
 have hs : sub (a ++ (s.size : Int) :: bytesOf s ++ c) ((a.length : Int) + 1).toNat ((a.length : Int) + 1 + s.size).toNat = bytesOf s := by
  rw [e2]; exact sub_mid _ _ _ (by simp <;> omega) (by simp [bytesOf_length] <;> omega)
 rw [if_pos z3_, hr, if_neg z3_, hs, strOfNums_bytesOf]
end Go.Proofs.Ytjnjfogfpmeacaa.Plain
end
section
namespace Go.Proofs.Ytjnjfogfpmeacaa.PAll
open Go.RowKit PrintWords PrintLast PrintMore ZipT PrintWords.Kd PrintMore.Kd
attribute [local go_sem] max2_int min2_int max_two min_two max_three min_three max_four min_four   -- for this text's walks alone
set_option linter.unusedVariables false
set_option linter.unusedSimpArgs false
def raddlelaw03_Long.l0 : Nat → List (S84) → Int → Option (Bool)
 | 0, _, _ => none
 | k + 1, x0, x3 => if x3 < (x0.length : Int) then (if 0 ≤ x3 then (if (((rd_T84 x0 x3).f2).size : Int) > 300 then (some true) else (raddlelaw03_Long.l0 k x0 (wrap64 (x3 + 1)))) else (none)) else (some false)
def raddlelaw03_Long.f (k : Nat) (l0 : List (S84)) : Option (Bool) := raddlelaw03_Long.l0 k l0 0
theorem raddlelaw03_Long.calls (k : Nat) (A0 : Option Addr) (c0 : Nat) (l0 : List (S84)) (r : Bool) (w : World) (hr0 : Kd.C k84 w A0 l0.length l0) (hc0 : l0.length ≤ c0) (h : raddlelaw03_Long.f k l0 = some r) :
  Calls Try.prog 72 #[.slice A0 l0.length c0] w fun e w' => e = .returned (.bool r) ∧ Drawn0 w w' := by
 have HR0 := mk_ hr0
 have HC0 := mk_ hc0
 clear hr0 hc0
 have H : (raddlelaw03_Long.l0 k l0 0) = some r := h
 clear h
 have H' := mk_ H
 clear H
 go_enter Try.func72, Try.ntmps72
 go_wp2
 go_loopg [3] k (fun kq v3 w' => ∃ (x3_1 : Int), v3 = .int .i64 x3_1 ∧ Aside0 (raddlelaw03_Long.l0 kq l0 x3_1 = some r) ∧ Aside0 (kq ≤ k) ∧ Drawn0 w w')
 case atStart => exact ⟨(0), z4_, H', ⟨Nat.le_refl _⟩, by repeat (first | exact Drawn0.refl _ | apply Drawn0.step)⟩
 case round =>
  clear H'
  obtain ⟨x3_1, rfl, HA, HK1, ⟨m1, rfl⟩⟩ := hrel
  cases gk with
  | zero => exact absurd HA.out (by simp [raddlelaw03_Long.l0])
  | succ k1 =>
   have H := HA.out
   clear HA
   simp only [raddlelaw03_Long.l0] at H
   by_cases c2 : x3_1 < (l0.length : Int)
   rotate_left
   ·
    rw [if_neg c2] at H
    have c2b0 : decide (x3_1 < (l0.length : Int)) = false := decide_eq_false c2
    clear c2
    obtain rfl := Option.some.inj H
    go_wp2
    go_ret
    exact ⟨z4_, by repeat (first | exact Drawn0.refl _ | apply Drawn0.step)⟩
   rw [if_pos c2] at H
   have c2b0 : decide (x3_1 < (l0.length : Int)) = true := decide_eq_true c2
   clear c2
   by_cases c3 : 0 ≤ x3_1
   rotate_left
   ·
    rw [if_neg c3] at H
    exact absurd H (by simp)
   rw [if_pos c3] at H
   have c3b0 : decide (0 ≤ x3_1) = true := decide_eq_true c3
   clear c3
   by_cases c4 : (((rd_T84 l0 x3_1).f2).size : Int) > 300
   ·
    rw [if_pos c4] at H
    have c4b0 : decide (300 < (((rd_T84 l0 x3_1).f2).size : Int)) = true := decide_eq_true c4
    have c4b1 : decide (300 < ((rd_T84 l0 x3_1).f2).size) = true := decide_eq_true z3_
    clear c4
    obtain rfl := Option.some.inj H
    have p512 : 0 ≤ (x3_1 : Int) := of_decide_eq_true z1_
    have q512 : x3_1 < (l0.length : Int) := of_decide_eq_true z1_
    obtain ⟨ad512, e512, hx512_0, hx512_1, hx512_2⟩ := at_T84 HR0.out x3_1 p512 q512
    cases e512
    replace p512 := eq_true p512
    replace q512 := eq_true q512
    go_wp2
    go_ret
    exact ⟨z4_, by repeat (first | exact Drawn0.refl _ | apply Drawn0.step)⟩
   rw [if_neg c4] at H
   have c4b0 : decide (300 < (((rd_T84 l0 x3_1).f2).size : Int)) = false := decide_eq_false c4
   have c4b1 : decide (300 < ((rd_T84 l0 x3_1).f2).size) = false := decide_eq_false z3_
   clear c4
   have H' := mk_ H
   clear H
   have p512 : 0 ≤ (x3_1 : Int) := of_decide_eq_true z1_
   have q512 : x3_1 < (l0.length : Int) := of_decide_eq_true z1_
   obtain ⟨ad512, e512, hx512_0, hx512_1, hx512_2⟩ := at_T84 HR0.out x3_1 p512 q512
   cases e512
   replace p512 := eq_true p512
   replace q512 := eq_true q512
   go_wp2
   go_roundg k1
   case measure => have := HK1.out; omega
   case rel => exact ⟨(wrap64 (x3_1 + 1)), z4_, H', ⟨by have := HK1.out; omega⟩, by repeat (first | exact Drawn0.refl _ | apply Drawn0.step)⟩
def raddlelaw04_Heavy.f (k : Nat) (l0 : List (S84)) : Option (Bool) := if (l0.length : Int) > 40 then (some true) else ((raddlelaw03_Long.f k l0).bind fun t513 => (some t513))
theorem raddlelaw04_Heavy.calls (k : Nat) (A0 : Option Addr) (c0 : Nat) (l0 : List (S84)) (r : Bool) (w : World) (hr0 : Kd.C k84 w A0 l0.length l0) (hc0 : l0.length ≤ c0) (h : raddlelaw04_Heavy.f k l0 = some r) :
  Calls Try.prog 35 #[.slice A0 l0.length c0] w fun e w' => e = .returned (.bool r) ∧ Drawn0 w w' := by
 have HR0 := mk_ hr0
 have HC0 := mk_ hc0
 clear hr0 hc0
 have H : (if (l0.length : Int) > 40 then (some true) else ((raddlelaw03_Long.f k l0).bind fun t513 => (some t513))) = some r := h
 clear h
 by_cases c2 : (l0.length : Int) > 40
 ·
  rw [if_pos c2] at H
  have c2b0 : decide (40 < (l0.length : Int)) = true := decide_eq_true c2
  have c2b1 : decide (40 < l0.length) = true := decide_eq_true z3_
  clear c2
  obtain rfl := Option.some.inj H
  go_enter Try.func35, Try.ntmps35
  go_wp2
  go_ret
  exact ⟨z4_, by repeat (first | exact Drawn0.refl _ | apply Drawn0.step)⟩
 rw [if_neg c2] at H
 have c2b0 : decide (40 < (l0.length : Int)) = false := decide_eq_false c2
 have c2b1 : decide (40 < l0.length) = false := decide_eq_false z3_
 clear c2
 obtain ⟨t513, A3, H⟩ := Option.bind_eq_some_iff.mp H
 replace A3 := mk_ A3
 obtain rfl := Option.some.inj H
 go_enter Try.func35, Try.ntmps35
 go_wp2_with (first | (go_at_call 72; (with_reducible refine (raddlelaw03_Long.calls k _ _ l0 t513 _ ?side1 ?side2 A3.out).mono ?_); (case side1 => repeat (first | exact HR0.out | (with_reducible refine C_alloc ?_ _) | (with_reducible refine C_drewN ?_ _) | (with_reducible refine C_drew ?_))); (case side2 => exact HC0.out); rintro e w' ⟨rfl, ⟨nd, rfl⟩⟩))
 go_ret
 exact ⟨z4_, by repeat (first | exact Drawn0.refl _ | apply Drawn0.step)⟩
end Go.Proofs.Ytjnjfogfpmeacaa.PAll
end
