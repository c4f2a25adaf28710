-- Put together by a program of this session (wip/slice2.py) out of the seat's texts.
import Derived.Test.YtjnjfogfpmeacaaGreatZOEp0

set_option maxHeartbeats 8000000
set_option maxRecDepth 100000
open Go.Proofs.YtjnjfogfpmeacaaGreatW Go.Proofs.YtjnjfogfpmeacaaGreat
section
namespace Go.Proofs.YtjnjfogfpmeacaaGreat.PAll
open Go.RowKit PrintWords PrintLast PrintMore ZipT PrintWords.Kd PrintMore.Kd
attribute [local go_sem] eP eN fD fA dS dT eO eK   -- for this text's walks alone
set_option linter.unusedVariables false
set_option linter.unusedSimpArgs false
def bU.l0 : Nat → List (S102) → List (S102) → Int → Option (Bool)
 | 0, _, _, _ => none
 | k + 1, x0, x1, x5 => if x5 < (x0.length : Int) then (if 0 ≤ x5 then (if x5 < (x1.length : Int) then ((eX.f ((aK x0 x5).f0) ((aK x0 x5).f1) ((aK x0 x5).f2) ((aK x1 x5).f0) ((aK x1 x5).f1) ((aK x1 x5).f2)).bind fun t334 => (if t334 = true then (bU.l0 k x0 x1 (wrap64 (x5 + 1))) else (some false))) else (none)) else (none)) else (some true)
def bU.f (k : Nat) (l0 : List (S102)) (l1 : List (S102)) : Option (Bool) := if (l0.length : Int) = (l1.length : Int) then (bU.l0 k l0 l1 0) else (some false)
def bU.T6 : Bool × List (List Nat × List Nat) := (true, [([], []), ([], []), ([0, 1], [0, 1]), ([2], [2]), ([], []), ([], []), ([4, 5], [4, 5]), ([6], [6]), ([3, 7], [3, 7]), ([8], [8])])
def bU.B6 : List Nat := [0, 0, 3, 7, 0, 0, 48, 112, 255, 511]
theorem bU.tab6 : rtab .any (opsOf Tryz.f37 6) = bU.T6 := by kernel_rfl
theorem bU.bits6 : waitsOk bU.T6.2 bU.B6 = true := by kernel_rfl
theorem bU.calls (k : Nat) (A0 : Option Addr) (c0 : Nat) (l0 : List (S102)) (A1 : Option Addr) (c1 : Nat) (l1 : List (S102)) (r : Bool) (w : World) (hr0 : Kd.C k102 w A0 l0.length l0) (hc0 : l0.length ≤ c0) (hr1 : Kd.C k102 w A1 l1.length l1) (hc1 : l1.length ≤ c1) (h : bU.f k l0 l1 = some r) :
  Calls Tryz.prog 37 #[.slice A0 l0.length c0, .slice A1 l1.length c1] w fun e w' => e = .returned (.bool r) ∧ Below w.heap.size w w' := by
 have hu102 := Tryz.underlying102
 have HR0 := mk_ hr0
 have HC0 := mk_ hc0
 clear hr0 hc0
 have HR1 := mk_ hr1
 have HC1 := mk_ hc1
 clear hr1 hc1
 have HB := mk_ (Below.refl w.heap.size w)
 have H : (if (l0.length : Int) = (l1.length : Int) then (bU.l0 k l0 l1 0) else (some false)) = some r := h
 clear h
 by_cases c3 : (l0.length : Int) = (l1.length : Int)
 rotate_left
 ·
  rw [if_neg c3] at H
  have c3b0 : ((l0.length : Int) == (l1.length : Int)) = false := beq_eq_false_iff_ne.mpr c3
  have c3b1 : ((l0.length : Int) != (l1.length : Int)) = true := bne_iff_ne.mpr c3
  have c3b2 : (l0.length == l1.length) = false := by first | simpa using c3 | (simp at c3 ⊢; omega)
  obtain rfl := Option.some.inj H
  go_enter Tryz.func37, Tryz.ntmps37
  go_wp2
  go_ret
  exact ⟨q0, Short.hB HB⟩
 rw [if_pos c3] at H
 have c3b0 : ((l0.length : Int) == (l1.length : Int)) = true := beq_iff_eq.mpr c3
 have c3b1 : ((l0.length : Int) != (l1.length : Int)) = false := bne_eq_false_iff_eq.mpr c3
 have c3b2 : (l0.length == l1.length) = true := by first | simpa using c3 | (simp at c3 ⊢; omega)
 clear c3
 have H' := mk_ H
 clear H
 go_enter Tryz.func37, Tryz.ntmps37
 go_wp2
 go_loopg [5] k (fun kq v5 w' => ∃ (x5_1 : Int), v5 = .int .i64 x5_1 ∧ Aside0 (bU.l0 kq l0 l1 x5_1 = some r) ∧ Aside0 (kq ≤ k) ∧ Aside0 (Below w.heap.size w w'))
 case atStart => exact ⟨(0), z4_, H', ⟨Nat.le_refl _⟩, ⟨Short.hB HB⟩⟩
 case round =>
  clear H'
  try clear c1
  try clear p2
  try clear c3
  try clear c3b0
  try clear c3b1
  try clear c3b2
  obtain ⟨x5_1, rfl, HA, HK1, HB⟩ := hrel
  cases gk with
  | zero => exact absurd HA.out (by simp [bU.l0])
  | succ k1 =>
   have H := HA.out
   clear HA
   simp only [bU.l0] at H
   by_cases c4 : x5_1 < (l0.length : Int)
   rotate_left
   ·
    rw [if_neg c4] at H
    have c4b0 : decide (x5_1 < (l0.length : Int)) = false := decide_eq_false c4
    clear c4
    obtain rfl := Option.some.inj H
    go_wp2
    go_ret
    exact ⟨q0, Short.hB HB⟩
   rw [if_pos c4] at H
   have c4b0 : decide (x5_1 < (l0.length : Int)) = true := decide_eq_true c4
   clear c4
   by_cases c5 : 0 ≤ x5_1
   rotate_left
   ·
    rw [if_neg c5] at H
    exact absurd H z6_
   rw [if_pos c5] at H
   have c5b0 : decide (0 ≤ x5_1) = true := decide_eq_true c5
   clear c5
   by_cases c6 : x5_1 < (l1.length : Int)
   rotate_left
   ·
    rw [if_neg c6] at H
    exact absurd H z6_
   rw [if_pos c6] at H
   have c6b0 : decide (x5_1 < (l1.length : Int)) = true := decide_eq_true c6
   clear c6
   obtain ⟨t334, A7, H⟩ := Option.bind_eq_some_iff.mp H
   replace A7 := mk_ A7
   by_cases c8 : t334 = true
   rotate_left
   ·
    replace c8 := Bool.eq_false_iff.mpr c8
    subst c8
    rw [if_neg (show ¬ (false = true) by decide)] at H
    obtain rfl := Option.some.inj H
    try go_wp2
    have n0_ := mk_ (dE HB.out)
    clear HB
    revert n0_
    intro HB
    have p332 : 0 ≤ (x5_1 : Int) := of_decide_eq_true z1_
    have q332 : x5_1 < (l0.length : Int) := of_decide_eq_true z1_
    obtain ⟨ad332, e332, hx332_0, hx332_1, hx332_2⟩ := fK HR0.out x5_1 p332 q332
    have hw332_2 := hx332_2
    have hw332_1 := hx332_1
    have hw332_0 := hx332_0
    cases e332
    replace hx332_0 := up_ HB hx332_0
    replace hx332_1 := up_ HB hx332_1
    replace hx332_2 := up_ HB hx332_2
    replace p332 := eq_true p332
    replace q332 := eq_true q332
    have p333 : 0 ≤ (x5_1 : Int) := of_decide_eq_true z1_
    have q333 : x5_1 < (l1.length : Int) := of_decide_eq_true z1_
    obtain ⟨ad333, e333, hx333_0, hx333_1, hx333_2⟩ := fK HR1.out x5_1 p333 q333
    have hw333_2 := hx333_2
    have hw333_1 := hx333_1
    have hw333_0 := hx333_0
    cases e333
    replace hx333_0 := up_ HB hx333_0
    replace hx333_1 := up_ HB hx333_1
    replace hx333_2 := up_ HB hx333_2
    replace p333 := eq_true p333
    replace q333 := eq_true q333
    refine fM (n := 10) (S := fun w' => w'.cell? (ad332.add ((x5_1).toNat * 3)) = some (.int .i64 ((aK l0 x5_1).f0)) ∧ w'.cell? ⟨(ad332.add ((x5_1).toNat * 3)).block, (ad332.add ((x5_1).toNat * 3)).off + 1, none⟩ = some (.int .i64 ((aK l0 x5_1).f1)) ∧ w'.cell? ⟨(ad332.add ((x5_1).toNat * 3)).block, (ad332.add ((x5_1).toNat * 3)).off + 2, none⟩ = some (.string ((aK l0 x5_1).f2)) ∧ w'.cell? (ad333.add ((x5_1).toNat * 3)) = some (.int .i64 ((aK l1 x5_1).f0)) ∧ w'.cell? ⟨(ad333.add ((x5_1).toNat * 3)).block, (ad333.add ((x5_1).toNat * 3)).off + 1, none⟩ = some (.int .i64 ((aK l1 x5_1).f1)) ∧ w'.cell? ⟨(ad333.add ((x5_1).toNat * 3)).block, (ad333.add ((x5_1).toNat * 3)).off + 2, none⟩ = some (.string ((aK l1 x5_1).f2))) (ds := []) (Steps.Bs 10 0) z2_ rfl rfl ⟨((HB.out.cell (World.block_lt_of_cell? w _ hw332_0)).trans hw332_0), ((HB.out.cell (World.block_lt_of_cell? w _ hw332_1)).trans hw332_1), ((HB.out.cell (World.block_lt_of_cell? w _ hw332_2)).trans hw332_2), ((HB.out.cell (World.block_lt_of_cell? w _ hw333_0)).trans hw333_0), ((HB.out.cell (World.block_lt_of_cell? w _ hw333_1)).trans hw333_1), ((HB.out.cell (World.block_lt_of_cell? w _ hw333_2)).trans hw333_2)⟩ (fun hHeld => ?_); refine cZ bU.tab6 bU.bits6 (fun HT_ HW_ => ?_)
    generalize wr.drew = w11 at HB hx332_0 hx332_1 hx332_2 hx333_0 hx333_1 hx333_2 hHeld ⊢
    refine tI HT_ 0 17 10 1 ?_
    refine tI HT_ 1 18 10 3 ?_
    refine tI HT_ 2 19 10 7 ?_
    refine tI HT_ 4 21 10 23 ?_
    refine tI HT_ 5 22 10 55 ?_
    refine tI HT_ 6 23 10 119 ?_
    refine tT HT_ HW_ hHeld 3 20 10 127 ?_
    refine tT HT_ HW_ hHeld 7 24 10 255 ?_
    refine one_ (i := 8) (N := some 25) (Steps.Bs 10 511) rfl rfl (cB HT_.out z2_) z5_ (fun K hK => ?_)
    refine goes_ Tryz.func68 z2_ rfl #[.agg #[.int .i64 ((aK l0 x5_1).f0), .int .i64 ((aK l0 x5_1).f1), .string ((aK l0 x5_1).f2)], .agg #[.int .i64 ((aK l1 x5_1).f0), .int .i64 ((aK l1 x5_1).f1), .string ((aK l1 x5_1).f2)]] (by rfl) rfl rfl z0_ ?_
    with_reducible refine (eX.calls ((aK l0 x5_1).f0) ((aK l0 x5_1).f1) ((aK l0 x5_1).f2) ((aK l1 x5_1).f0) ((aK l1 x5_1).f1) ((aK l1 x5_1).f2) false _ A7.out).mono ?_
    rintro e w12 ⟨rfl, hb⟩
    refine ⟨_, rfl, ?_⟩
    have n0_ := mk_ (aC (Short.hB HB) hb)
    clear HB
    revert n0_
    intro HB
    (try clear hb)
    (try clear hb2)
    (try clear hk)
    (try clear hi)
    refine hK.out _ _ ⟨((HB.out.cell (World.block_lt_of_cell? w _ hw332_0)).trans hw332_0), ((HB.out.cell (World.block_lt_of_cell? w _ hw332_1)).trans hw332_1), ((HB.out.cell (World.block_lt_of_cell? w _ hw332_2)).trans hw332_2), ((HB.out.cell (World.block_lt_of_cell? w _ hw333_0)).trans hw333_0), ((HB.out.cell (World.block_lt_of_cell? w _ hw333_1)).trans hw333_1), ((HB.out.cell (World.block_lt_of_cell? w _ hw333_2)).trans hw333_2)⟩ (fun hHeld => ?_)
    clear hK K
    refine nrm 25 ?_
    refine tI HT_ 9 26 10 1023 ?_
    refine done_ (cC HT_.out z2_) ?_
    try go_wp2
    go_ret
    exact ⟨q0, Short.hB HB⟩
   subst c8
   rw [if_pos rfl] at H
   have H' := mk_ H
   clear H
   try go_wp2
   have n0_ := mk_ (dE HB.out)
   clear HB
   revert n0_
   intro HB
   have p332 : 0 ≤ (x5_1 : Int) := of_decide_eq_true z1_
   have q332 : x5_1 < (l0.length : Int) := of_decide_eq_true z1_
   obtain ⟨ad332, e332, hx332_0, hx332_1, hx332_2⟩ := fK HR0.out x5_1 p332 q332
   have hw332_2 := hx332_2
   have hw332_1 := hx332_1
   have hw332_0 := hx332_0
   cases e332
   replace hx332_0 := up_ HB hx332_0
   replace hx332_1 := up_ HB hx332_1
   replace hx332_2 := up_ HB hx332_2
   replace p332 := eq_true p332
   replace q332 := eq_true q332
   have p333 : 0 ≤ (x5_1 : Int) := of_decide_eq_true z1_
   have q333 : x5_1 < (l1.length : Int) := of_decide_eq_true z1_
   obtain ⟨ad333, e333, hx333_0, hx333_1, hx333_2⟩ := fK HR1.out x5_1 p333 q333
   have hw333_2 := hx333_2
   have hw333_1 := hx333_1
   have hw333_0 := hx333_0
   cases e333
   replace hx333_0 := up_ HB hx333_0
   replace hx333_1 := up_ HB hx333_1
   replace hx333_2 := up_ HB hx333_2
   replace p333 := eq_true p333
   replace q333 := eq_true q333
   refine fM (n := 10) (S := fun w' => w'.cell? (ad332.add ((x5_1).toNat * 3)) = some (.int .i64 ((aK l0 x5_1).f0)) ∧ w'.cell? ⟨(ad332.add ((x5_1).toNat * 3)).block, (ad332.add ((x5_1).toNat * 3)).off + 1, none⟩ = some (.int .i64 ((aK l0 x5_1).f1)) ∧ w'.cell? ⟨(ad332.add ((x5_1).toNat * 3)).block, (ad332.add ((x5_1).toNat * 3)).off + 2, none⟩ = some (.string ((aK l0 x5_1).f2)) ∧ w'.cell? (ad333.add ((x5_1).toNat * 3)) = some (.int .i64 ((aK l1 x5_1).f0)) ∧ w'.cell? ⟨(ad333.add ((x5_1).toNat * 3)).block, (ad333.add ((x5_1).toNat * 3)).off + 1, none⟩ = some (.int .i64 ((aK l1 x5_1).f1)) ∧ w'.cell? ⟨(ad333.add ((x5_1).toNat * 3)).block, (ad333.add ((x5_1).toNat * 3)).off + 2, none⟩ = some (.string ((aK l1 x5_1).f2))) (ds := []) (Steps.Bs 10 0) z2_ rfl rfl ⟨((HB.out.cell (World.block_lt_of_cell? w _ hw332_0)).trans hw332_0), ((HB.out.cell (World.block_lt_of_cell? w _ hw332_1)).trans hw332_1), ((HB.out.cell (World.block_lt_of_cell? w _ hw332_2)).trans hw332_2), ((HB.out.cell (World.block_lt_of_cell? w _ hw333_0)).trans hw333_0), ((HB.out.cell (World.block_lt_of_cell? w _ hw333_1)).trans hw333_1), ((HB.out.cell (World.block_lt_of_cell? w _ hw333_2)).trans hw333_2)⟩ (fun hHeld => ?_); refine cZ bU.tab6 bU.bits6 (fun HT_ HW_ => ?_)
   generalize wr.drew = w9 at HB hx332_0 hx332_1 hx332_2 hx333_0 hx333_1 hx333_2 hHeld ⊢
   refine tI HT_ 0 17 10 1 ?_
   refine tI HT_ 1 18 10 3 ?_
   refine tI HT_ 2 19 10 7 ?_
   refine tI HT_ 4 21 10 23 ?_
   refine tI HT_ 5 22 10 55 ?_
   refine tI HT_ 6 23 10 119 ?_
   refine tT HT_ HW_ hHeld 3 20 10 127 ?_
   refine tT HT_ HW_ hHeld 7 24 10 255 ?_
   refine one_ (i := 8) (N := some 25) (Steps.Bs 10 511) rfl rfl (cB HT_.out z2_) z5_ (fun K hK => ?_)
   refine goes_ Tryz.func68 z2_ rfl #[.agg #[.int .i64 ((aK l0 x5_1).f0), .int .i64 ((aK l0 x5_1).f1), .string ((aK l0 x5_1).f2)], .agg #[.int .i64 ((aK l1 x5_1).f0), .int .i64 ((aK l1 x5_1).f1), .string ((aK l1 x5_1).f2)]] (by rfl) rfl rfl z0_ ?_
   with_reducible refine (eX.calls ((aK l0 x5_1).f0) ((aK l0 x5_1).f1) ((aK l0 x5_1).f2) ((aK l1 x5_1).f0) ((aK l1 x5_1).f1) ((aK l1 x5_1).f2) true _ A7.out).mono ?_
   rintro e w10 ⟨rfl, hb⟩
   refine ⟨_, rfl, ?_⟩
   have n0_ := mk_ (aC (Short.hB HB) hb)
   clear HB
   revert n0_
   intro HB
   (try clear hb)
   (try clear hb2)
   (try clear hk)
   (try clear hi)
   refine hK.out _ _ ⟨((HB.out.cell (World.block_lt_of_cell? w _ hw332_0)).trans hw332_0), ((HB.out.cell (World.block_lt_of_cell? w _ hw332_1)).trans hw332_1), ((HB.out.cell (World.block_lt_of_cell? w _ hw332_2)).trans hw332_2), ((HB.out.cell (World.block_lt_of_cell? w _ hw333_0)).trans hw333_0), ((HB.out.cell (World.block_lt_of_cell? w _ hw333_1)).trans hw333_1), ((HB.out.cell (World.block_lt_of_cell? w _ hw333_2)).trans hw333_2)⟩ (fun hHeld => ?_)
   clear hK K
   refine nrm 25 ?_
   refine tI HT_ 9 26 10 1023 ?_
   refine done_ (cC HT_.out z2_) ?_
   try go_wp2
   go_roundg k1
   case measure => have := HK1.out; omega
   case rel => exact ⟨(wrap64 (x5_1 + 1)), z4_, H', ⟨by have := HK1.out; omega⟩, ⟨Short.hB HB⟩⟩
def bT.l0 : Nat → List (S24) → List (S24) → Int → Option (Bool)
 | 0, _, _, _ => none
 | k + 1, x0, x1, x5 => if x5 < (x0.length : Int) then (if 0 ≤ x5 then (if x5 < (x1.length : Int) then ((dX.f ((aW x0 x5).f0) ((aW x0 x5).f1) ((aW x1 x5).f0) ((aW x1 x5).f1)).bind fun t337 => (if t337 = true then (bT.l0 k x0 x1 (wrap64 (x5 + 1))) else (some false))) else (none)) else (none)) else (some true)
def bT.f (k : Nat) (l0 : List (S24)) (l1 : List (S24)) : Option (Bool) := if (l0.length : Int) = (l1.length : Int) then (bT.l0 k l0 l1 0) else (some false)
def bT.T6 : Bool × List (List Nat × List Nat) := (true, [([], []), ([], []), ([0, 1], [0, 1]), ([2], [2]), ([], []), ([], []), ([4, 5], [4, 5]), ([6], [6]), ([3, 7], [3, 7]), ([8], [8])])
def bT.B6 : List Nat := [0, 0, 3, 7, 0, 0, 48, 112, 255, 511]
theorem bT.tab6 : rtab .any (opsOf Tryz.f38 6) = bT.T6 := by kernel_rfl
theorem bT.bits6 : waitsOk bT.T6.2 bT.B6 = true := by kernel_rfl
theorem bT.calls (k : Nat) (A0 : Option Addr) (c0 : Nat) (l0 : List (S24)) (A1 : Option Addr) (c1 : Nat) (l1 : List (S24)) (r : Bool) (w : World) (hr0 : Kd.C k24 w A0 l0.length l0) (hc0 : l0.length ≤ c0) (hr1 : Kd.C k24 w A1 l1.length l1) (hc1 : l1.length ≤ c1) (h : bT.f k l0 l1 = some r) :
  Calls Tryz.prog 38 #[.slice A0 l0.length c0, .slice A1 l1.length c1] w fun e w' => e = .returned (.bool r) ∧ Below w.heap.size w w' := by
 have hu24 := Tryz.underlying24
 have HR0 := mk_ hr0
 have HC0 := mk_ hc0
 clear hr0 hc0
 have HR1 := mk_ hr1
 have HC1 := mk_ hc1
 clear hr1 hc1
 have HB := mk_ (Below.refl w.heap.size w)
 have H : (if (l0.length : Int) = (l1.length : Int) then (bT.l0 k l0 l1 0) else (some false)) = some r := h
 clear h
 by_cases c3 : (l0.length : Int) = (l1.length : Int)
 rotate_left
 ·
  rw [if_neg c3] at H
  have c3b0 : ((l0.length : Int) == (l1.length : Int)) = false := beq_eq_false_iff_ne.mpr c3
  have c3b1 : ((l0.length : Int) != (l1.length : Int)) = true := bne_iff_ne.mpr c3
  have c3b2 : (l0.length == l1.length) = false := by first | simpa using c3 | (simp at c3 ⊢; omega)
  obtain rfl := Option.some.inj H
  go_enter Tryz.func38, Tryz.ntmps38
  go_wp2
  go_ret
  exact ⟨q0, Short.hB HB⟩
 rw [if_pos c3] at H
 have c3b0 : ((l0.length : Int) == (l1.length : Int)) = true := beq_iff_eq.mpr c3
 have c3b1 : ((l0.length : Int) != (l1.length : Int)) = false := bne_eq_false_iff_eq.mpr c3
 have c3b2 : (l0.length == l1.length) = true := by first | simpa using c3 | (simp at c3 ⊢; omega)
 clear c3
 have H' := mk_ H
 clear H
 go_enter Tryz.func38, Tryz.ntmps38
 go_wp2
 go_loopg [5] k (fun kq v5 w' => ∃ (x5_1 : Int), v5 = .int .i64 x5_1 ∧ Aside0 (bT.l0 kq l0 l1 x5_1 = some r) ∧ Aside0 (kq ≤ k) ∧ Aside0 (Below w.heap.size w w'))
 case atStart => exact ⟨(0), z4_, H', ⟨Nat.le_refl _⟩, ⟨Short.hB HB⟩⟩
 case round =>
  clear H'
  try clear c1
  try clear p2
  try clear c3
  try clear c3b0
  try clear c3b1
  try clear c3b2
  obtain ⟨x5_1, rfl, HA, HK1, HB⟩ := hrel
  cases gk with
  | zero => exact absurd HA.out (by simp [bT.l0])
  | succ k1 =>
   have H := HA.out
   clear HA
   simp only [bT.l0] at H
   by_cases c4 : x5_1 < (l0.length : Int)
   rotate_left
   ·
    rw [if_neg c4] at H
    have c4b0 : decide (x5_1 < (l0.length : Int)) = false := decide_eq_false c4
    clear c4
    obtain rfl := Option.some.inj H
    go_wp2
    go_ret
    exact ⟨q0, Short.hB HB⟩
   rw [if_pos c4] at H
   have c4b0 : decide (x5_1 < (l0.length : Int)) = true := decide_eq_true c4
   clear c4
   by_cases c5 : 0 ≤ x5_1
   rotate_left
   ·
    rw [if_neg c5] at H
    exact absurd H z6_
   rw [if_pos c5] at H
   have c5b0 : decide (0 ≤ x5_1) = true := decide_eq_true c5
   clear c5
   by_cases c6 : x5_1 < (l1.length : Int)
   rotate_left
   ·
    rw [if_neg c6] at H
    exact absurd H z6_
   rw [if_pos c6] at H
   have c6b0 : decide (x5_1 < (l1.length : Int)) = true := decide_eq_true c6
   clear c6
   obtain ⟨t337, A7, H⟩ := Option.bind_eq_some_iff.mp H
   replace A7 := mk_ A7
   by_cases c8 : t337 = true
   rotate_left
   ·
    replace c8 := Bool.eq_false_iff.mpr c8
    subst c8
    rw [if_neg (show ¬ (false = true) by decide)] at H
    obtain rfl := Option.some.inj H
    try go_wp2
    have n0_ := mk_ (dE HB.out)
    clear HB
    revert n0_
    intro HB
    have p335 : 0 ≤ (x5_1 : Int) := of_decide_eq_true z1_
    have q335 : x5_1 < (l0.length : Int) := of_decide_eq_true z1_
    obtain ⟨ad335, e335, hx335_0, hx335_1⟩ := fS HR0.out x5_1 p335 q335
    have hw335_1 := hx335_1
    have hw335_0 := hx335_0
    cases e335
    replace hx335_0 := up_ HB hx335_0
    replace hx335_1 := up_ HB hx335_1
    replace p335 := eq_true p335
    replace q335 := eq_true q335
    have p336 : 0 ≤ (x5_1 : Int) := of_decide_eq_true z1_
    have q336 : x5_1 < (l1.length : Int) := of_decide_eq_true z1_
    obtain ⟨ad336, e336, hx336_0, hx336_1⟩ := fS HR1.out x5_1 p336 q336
    have hw336_1 := hx336_1
    have hw336_0 := hx336_0
    cases e336
    replace hx336_0 := up_ HB hx336_0
    replace hx336_1 := up_ HB hx336_1
    replace p336 := eq_true p336
    replace q336 := eq_true q336
    refine fM (n := 10) (S := fun w' => w'.cell? (ad335.add ((x5_1).toNat * 2)) = some (.int .i64 ((aW l0 x5_1).f0)) ∧ w'.cell? ⟨(ad335.add ((x5_1).toNat * 2)).block, (ad335.add ((x5_1).toNat * 2)).off + 1, none⟩ = some (.int .i64 ((aW l0 x5_1).f1)) ∧ w'.cell? (ad336.add ((x5_1).toNat * 2)) = some (.int .i64 ((aW l1 x5_1).f0)) ∧ w'.cell? ⟨(ad336.add ((x5_1).toNat * 2)).block, (ad336.add ((x5_1).toNat * 2)).off + 1, none⟩ = some (.int .i64 ((aW l1 x5_1).f1))) (ds := []) (Steps.Bs 10 0) z2_ rfl rfl ⟨((HB.out.cell (World.block_lt_of_cell? w _ hw335_0)).trans hw335_0), ((HB.out.cell (World.block_lt_of_cell? w _ hw335_1)).trans hw335_1), ((HB.out.cell (World.block_lt_of_cell? w _ hw336_0)).trans hw336_0), ((HB.out.cell (World.block_lt_of_cell? w _ hw336_1)).trans hw336_1)⟩ (fun hHeld => ?_); refine cZ bT.tab6 bT.bits6 (fun HT_ HW_ => ?_)
    generalize wr.drew = w11 at HB hx335_0 hx335_1 hx336_0 hx336_1 hHeld ⊢
    refine tI HT_ 0 17 10 1 ?_
    refine tI HT_ 1 18 10 3 ?_
    refine tI HT_ 2 19 10 7 ?_
    refine tI HT_ 4 21 10 23 ?_
    refine tI HT_ 5 22 10 55 ?_
    refine tI HT_ 6 23 10 119 ?_
    refine tT HT_ HW_ hHeld 3 20 10 127 ?_
    refine tT HT_ HW_ hHeld 7 24 10 255 ?_
    refine one_ (i := 8) (N := some 25) (Steps.Bs 10 511) rfl rfl (cB HT_.out z2_) z5_ (fun K hK => ?_)
    refine goes_ Tryz.func34 z2_ rfl #[.agg #[.int .i64 ((aW l0 x5_1).f0), .int .i64 ((aW l0 x5_1).f1)], .agg #[.int .i64 ((aW l1 x5_1).f0), .int .i64 ((aW l1 x5_1).f1)]] (by rfl) rfl rfl z0_ ?_
    with_reducible refine (dX.calls ((aW l0 x5_1).f0) ((aW l0 x5_1).f1) ((aW l1 x5_1).f0) ((aW l1 x5_1).f1) false _ A7.out).mono ?_
    rintro e w12 ⟨rfl, hb⟩
    refine ⟨_, rfl, ?_⟩
    have n0_ := mk_ (aC (Short.hB HB) hb)
    clear HB
    revert n0_
    intro HB
    (try clear hb)
    (try clear hb2)
    (try clear hk)
    (try clear hi)
    refine hK.out _ _ ⟨((HB.out.cell (World.block_lt_of_cell? w _ hw335_0)).trans hw335_0), ((HB.out.cell (World.block_lt_of_cell? w _ hw335_1)).trans hw335_1), ((HB.out.cell (World.block_lt_of_cell? w _ hw336_0)).trans hw336_0), ((HB.out.cell (World.block_lt_of_cell? w _ hw336_1)).trans hw336_1)⟩ (fun hHeld => ?_)
    clear hK K
    refine nrm 25 ?_
    refine tI HT_ 9 26 10 1023 ?_
    refine done_ (cC HT_.out z2_) ?_
    try go_wp2
    go_ret
    exact ⟨q0, Short.hB HB⟩
   subst c8
   rw [if_pos rfl] at H
   have H' := mk_ H
   clear H
   try go_wp2
   have n0_ := mk_ (dE HB.out)
   clear HB
   revert n0_
   intro HB
   have p335 : 0 ≤ (x5_1 : Int) := of_decide_eq_true z1_
   have q335 : x5_1 < (l0.length : Int) := of_decide_eq_true z1_
   obtain ⟨ad335, e335, hx335_0, hx335_1⟩ := fS HR0.out x5_1 p335 q335
   have hw335_1 := hx335_1
   have hw335_0 := hx335_0
   cases e335
   replace hx335_0 := up_ HB hx335_0
   replace hx335_1 := up_ HB hx335_1
   replace p335 := eq_true p335
   replace q335 := eq_true q335
   have p336 : 0 ≤ (x5_1 : Int) := of_decide_eq_true z1_
   have q336 : x5_1 < (l1.length : Int) := of_decide_eq_true z1_
   obtain ⟨ad336, e336, hx336_0, hx336_1⟩ := fS HR1.out x5_1 p336 q336
   have hw336_1 := hx336_1
   have hw336_0 := hx336_0
   cases e336
   replace hx336_0 := up_ HB hx336_0
   replace hx336_1 := up_ HB hx336_1
   replace p336 := eq_true p336
   replace q336 := eq_true q336
   refine fM (n := 10) (S := fun w' => w'.cell? (ad335.add ((x5_1).toNat * 2)) = some (.int .i64 ((aW l0 x5_1).f0)) ∧ w'.cell? ⟨(ad335.add ((x5_1).toNat * 2)).block, (ad335.add ((x5_1).toNat * 2)).off + 1, none⟩ = some (.int .i64 ((aW l0 x5_1).f1)) ∧ w'.cell? (ad336.add ((x5_1).toNat * 2)) = some (.int .i64 ((aW l1 x5_1).f0)) ∧ w'.cell? ⟨(ad336.add ((x5_1).toNat * 2)).block, (ad336.add ((x5_1).toNat * 2)).off + 1, none⟩ = some (.int .i64 ((aW l1 x5_1).f1))) (ds := []) (Steps.Bs 10 0) z2_ rfl rfl ⟨((HB.out.cell (World.block_lt_of_cell? w _ hw335_0)).trans hw335_0), ((HB.out.cell (World.block_lt_of_cell? w _ hw335_1)).trans hw335_1), ((HB.out.cell (World.block_lt_of_cell? w _ hw336_0)).trans hw336_0), ((HB.out.cell (World.block_lt_of_cell? w _ hw336_1)).trans hw336_1)⟩ (fun hHeld => ?_); refine cZ bT.tab6 bT.bits6 (fun HT_ HW_ => ?_)
   generalize wr.drew = w9 at HB hx335_0 hx335_1 hx336_0 hx336_1 hHeld ⊢
   refine tI HT_ 0 17 10 1 ?_
   refine tI HT_ 1 18 10 3 ?_
   refine tI HT_ 2 19 10 7 ?_
   refine tI HT_ 4 21 10 23 ?_
   refine tI HT_ 5 22 10 55 ?_
   refine tI HT_ 6 23 10 119 ?_
   refine tT HT_ HW_ hHeld 3 20 10 127 ?_
   refine tT HT_ HW_ hHeld 7 24 10 255 ?_
   refine one_ (i := 8) (N := some 25) (Steps.Bs 10 511) rfl rfl (cB HT_.out z2_) z5_ (fun K hK => ?_)
   refine goes_ Tryz.func34 z2_ rfl #[.agg #[.int .i64 ((aW l0 x5_1).f0), .int .i64 ((aW l0 x5_1).f1)], .agg #[.int .i64 ((aW l1 x5_1).f0), .int .i64 ((aW l1 x5_1).f1)]] (by rfl) rfl rfl z0_ ?_
   with_reducible refine (dX.calls ((aW l0 x5_1).f0) ((aW l0 x5_1).f1) ((aW l1 x5_1).f0) ((aW l1 x5_1).f1) true _ A7.out).mono ?_
   rintro e w10 ⟨rfl, hb⟩
   refine ⟨_, rfl, ?_⟩
   have n0_ := mk_ (aC (Short.hB HB) hb)
   clear HB
   revert n0_
   intro HB
   (try clear hb)
   (try clear hb2)
   (try clear hk)
   (try clear hi)
   refine hK.out _ _ ⟨((HB.out.cell (World.block_lt_of_cell? w _ hw335_0)).trans hw335_0), ((HB.out.cell (World.block_lt_of_cell? w _ hw335_1)).trans hw335_1), ((HB.out.cell (World.block_lt_of_cell? w _ hw336_0)).trans hw336_0), ((HB.out.cell (World.block_lt_of_cell? w _ hw336_1)).trans hw336_1)⟩ (fun hHeld => ?_)
   clear hK K
   refine nrm 25 ?_
   refine tI HT_ 9 26 10 1023 ?_
   refine done_ (cC HT_.out z2_) ?_
   try go_wp2
   go_roundg k1
   case measure => have := HK1.out; omega
   case rel => exact ⟨(wrap64 (x5_1 + 1)), z4_, H', ⟨by have := HK1.out; omega⟩, ⟨Short.hB HB⟩⟩
end Go.Proofs.YtjnjfogfpmeacaaGreat.PAll
end
section
namespace Go.Proofs.YtjnjfogfpmeacaaGreat.PAll
open Go.RowKit PrintWords PrintLast PrintMore ZipT PrintWords.Kd PrintMore.Kd
attribute [local go_sem] eP eN fD fA dS dT eO eK   -- for this text's walks alone
set_option linter.unusedVariables false
set_option linter.unusedSimpArgs false
def eQ.f (k : Nat) (a0_0 : Int) (a0_1 : Int) (l0_2 : List Int) (a0_3 : Int) (a0_4 : Int) (a0_5 : Int) (a0_6 : Int) (a0_7 : Int) (a0_8 : ByteArray) (a0_9 : Int) (l0_10 : List (S102)) (l0_11 : List (S24)) (a1_0 : Int) (a1_1 : Int) (l1_2 : List Int) (a1_3 : Int) (a1_4 : Int) (a1_5 : Int) (a1_6 : Int) (a1_7 : Int) (a1_8 : ByteArray) (a1_9 : Int) (l1_10 : List (S102)) (l1_11 : List (S24)) : Option (Bool) := (dX.f a0_0 a0_1 a1_0 a1_1).bind fun t340 => (if t340 = true then ((bR.f k l0_2 l1_2).bind fun t341 => (if t341 = true then ((eM.f a0_3 a0_4 a0_5 a1_3 a1_4 a1_5).bind fun t342 => (if t342 = true then (if a0_6 = a1_6 then (if a0_7 = a1_7 then (if a0_8.toList = a1_8.toList then (if a0_9 = a1_9 then ((bU.f k l0_10 l1_10).bind fun t343 => (if t343 = true then ((bT.f k l0_11 l1_11).bind fun t344 => (some t344)) else (some false))) else (some false)) else (some false)) else (some false)) else (some false)) else (some false))) else (some false))) else (some false))
theorem eQ.calls (k : Nat) (a0_0 : Int) (a0_1 : Int) (A0_2 : Option Addr) (c0_2 : Nat) (l0_2 : List Int) (a0_3 : Int) (a0_4 : Int) (a0_5 : Int) (a0_6 : Int) (a0_7 : Int) (a0_8 : ByteArray) (a0_9 : Int) (A0_10 : Option Addr) (c0_10 : Nat) (l0_10 : List (S102)) (A0_11 : Option Addr) (c0_11 : Nat) (l0_11 : List (S24)) (a1_0 : Int) (a1_1 : Int) (A1_2 : Option Addr) (c1_2 : Nat) (l1_2 : List Int) (a1_3 : Int) (a1_4 : Int) (a1_5 : Int) (a1_6 : Int) (a1_7 : Int) (a1_8 : ByteArray) (a1_9 : Int) (A1_10 : Option Addr) (c1_10 : Nat) (l1_10 : List (S102)) (A1_11 : Option Addr) (c1_11 : Nat) (l1_11 : List (S24)) (r : Bool) (w : World) (hr0_2 : Kd.C (Kd.int .i64) w A0_2 l0_2.length l0_2) (hc0_2 : l0_2.length ≤ c0_2) (hr0_10 : Kd.C k102 w A0_10 l0_10.length l0_10) (hc0_10 : l0_10.length ≤ c0_10) (hr0_11 : Kd.C k24 w A0_11 l0_11.length l0_11) (hc0_11 : l0_11.length ≤ c0_11) (hr1_2 : Kd.C (Kd.int .i64) w A1_2 l1_2.length l1_2) (hc1_2 : l1_2.length ≤ c1_2) (hr1_10 : Kd.C k102 w A1_10 l1_10.length l1_10) (hc1_10 : l1_10.length ≤ c1_10) (hr1_11 : Kd.C k24 w A1_11 l1_11.length l1_11) (hc1_11 : l1_11.length ≤ c1_11) (h : eQ.f k a0_0 a0_1 l0_2 a0_3 a0_4 a0_5 a0_6 a0_7 a0_8 a0_9 l0_10 l0_11 a1_0 a1_1 l1_2 a1_3 a1_4 a1_5 a1_6 a1_7 a1_8 a1_9 l1_10 l1_11 = some r) :
  Calls Tryz.prog 15 #[.agg #[.int .i64 a0_0, .int .i64 a0_1, .slice A0_2 l0_2.length c0_2, .int .i64 a0_3, .int .i64 a0_4, .int .i64 a0_5, .int .i64 a0_6, .int .i64 a0_7, .string a0_8, .int .i64 a0_9, .slice A0_10 l0_10.length c0_10, .slice A0_11 l0_11.length c0_11], .agg #[.int .i64 a1_0, .int .i64 a1_1, .slice A1_2 l1_2.length c1_2, .int .i64 a1_3, .int .i64 a1_4, .int .i64 a1_5, .int .i64 a1_6, .int .i64 a1_7, .string a1_8, .int .i64 a1_9, .slice A1_10 l1_10.length c1_10, .slice A1_11 l1_11.length c1_11]] w fun e w' => e = .returned (.bool r) ∧ Below w.heap.size w w' := by
 have hu31 := Tryz.underlying31
 have hu24 := Tryz.underlying24
 have hu27 := Tryz.underlying27
 have HR0_2 := mk_ hr0_2
 have HC0_2 := mk_ hc0_2
 clear hr0_2 hc0_2
 have HR0_10 := mk_ hr0_10
 have HC0_10 := mk_ hc0_10
 clear hr0_10 hc0_10
 have HR0_11 := mk_ hr0_11
 have HC0_11 := mk_ hc0_11
 clear hr0_11 hc0_11
 have HR1_2 := mk_ hr1_2
 have HC1_2 := mk_ hc1_2
 clear hr1_2 hc1_2
 have HR1_10 := mk_ hr1_10
 have HC1_10 := mk_ hc1_10
 clear hr1_10 hc1_10
 have HR1_11 := mk_ hr1_11
 have HC1_11 := mk_ hc1_11
 clear hr1_11 hc1_11
 have HB := mk_ (Below.refl w.heap.size w)
 have H : ((dX.f a0_0 a0_1 a1_0 a1_1).bind fun t340 => (if t340 = true then ((bR.f k l0_2 l1_2).bind fun t341 => (if t341 = true then ((eM.f a0_3 a0_4 a0_5 a1_3 a1_4 a1_5).bind fun t342 => (if t342 = true then (if a0_6 = a1_6 then (if a0_7 = a1_7 then (if a0_8.toList = a1_8.toList then (if a0_9 = a1_9 then ((bU.f k l0_10 l1_10).bind fun t343 => (if t343 = true then ((bT.f k l0_11 l1_11).bind fun t344 => (some t344)) else (some false))) else (some false)) else (some false)) else (some false)) else (some false)) else (some false))) else (some false))) else (some false))) = some r := h
 clear h
 obtain ⟨t340, A3, H⟩ := Option.bind_eq_some_iff.mp H
 replace A3 := mk_ A3
 by_cases c4 : t340 = true
 rotate_left
 replace c4 := Bool.eq_false_iff.mpr c4
 subst c4
 rw [if_neg (show ¬ (false = true) by decide)] at H
 obtain rfl := Option.some.inj H
 rotate_right
 subst c4
 rw [if_pos rfl] at H
 obtain ⟨t341, A5, H⟩ := Option.bind_eq_some_iff.mp H
 replace A5 := mk_ A5
 by_cases c6 : t341 = true
 rotate_left
 replace c6 := Bool.eq_false_iff.mpr c6
 subst c6
 rw [if_neg (show ¬ (false = true) by decide)] at H
 obtain rfl := Option.some.inj H
 rotate_right
 subst c6
 rw [if_pos rfl] at H
 obtain ⟨t342, A7, H⟩ := Option.bind_eq_some_iff.mp H
 replace A7 := mk_ A7
 by_cases c8 : t342 = true
 rotate_left
 replace c8 := Bool.eq_false_iff.mpr c8
 subst c8
 rw [if_neg (show ¬ (false = true) by decide)] at H
 obtain rfl := Option.some.inj H
 rotate_right
 subst c8
 rw [if_pos rfl] at H
 by_cases c9 : a0_6 = a1_6
 rotate_left
 rw [if_neg c9] at H
 have c9b0 : (a0_6 == a1_6) = false := beq_eq_false_iff_ne.mpr c9
 have c9b1 : (a0_6 != a1_6) = true := bne_iff_ne.mpr c9
 obtain rfl := Option.some.inj H
 rotate_right
 rw [if_pos c9] at H
 have c9b0 : (a0_6 == a1_6) = true := beq_iff_eq.mpr c9
 have c9b1 : (a0_6 != a1_6) = false := bne_eq_false_iff_eq.mpr c9
 clear c9
 by_cases c10 : a0_7 = a1_7
 rotate_left
 rw [if_neg c10] at H
 have c10b0 : (a0_7 == a1_7) = false := beq_eq_false_iff_ne.mpr c10
 have c10b1 : (a0_7 != a1_7) = true := bne_iff_ne.mpr c10
 obtain rfl := Option.some.inj H
 rotate_right
 rw [if_pos c10] at H
 have c10b0 : (a0_7 == a1_7) = true := beq_iff_eq.mpr c10
 have c10b1 : (a0_7 != a1_7) = false := bne_eq_false_iff_eq.mpr c10
 clear c10
 by_cases c11 : a0_8.toList = a1_8.toList
 rotate_left
 rw [if_neg c11] at H
 have c11b0 : (a0_8.toList == a1_8.toList) = false := beq_eq_false_iff_ne.mpr c11
 have c11b1 : (a0_8.toList != a1_8.toList) = true := bne_iff_ne.mpr c11
 obtain rfl := Option.some.inj H
 rotate_right
 rw [if_pos c11] at H
 have c11b0 : (a0_8.toList == a1_8.toList) = true := beq_iff_eq.mpr c11
 have c11b1 : (a0_8.toList != a1_8.toList) = false := bne_eq_false_iff_eq.mpr c11
 clear c11
 by_cases c12 : a0_9 = a1_9
 rotate_left
 rw [if_neg c12] at H
 have c12b0 : (a0_9 == a1_9) = false := beq_eq_false_iff_ne.mpr c12
 have c12b1 : (a0_9 != a1_9) = true := bne_iff_ne.mpr c12
 obtain rfl := Option.some.inj H
 rotate_right
 rw [if_pos c12] at H
 have c12b0 : (a0_9 == a1_9) = true := beq_iff_eq.mpr c12
 have c12b1 : (a0_9 != a1_9) = false := bne_eq_false_iff_eq.mpr c12
 clear c12
 obtain ⟨t343, A13, H⟩ := Option.bind_eq_some_iff.mp H
 replace A13 := mk_ A13
 by_cases c14 : t343 = true
 rotate_left
 replace c14 := Bool.eq_false_iff.mpr c14
 subst c14
 rw [if_neg (show ¬ (false = true) by decide)] at H
 obtain rfl := Option.some.inj H
 rotate_right
 subst c14
 rw [if_pos rfl] at H
 obtain ⟨t344, A15, H⟩ := Option.bind_eq_some_iff.mp H
 replace A15 := mk_ A15
 obtain rfl := Option.some.inj H
 all_goals
  go_enter Tryz.func15, Tryz.ntmps15
  go_wp2_with (first | ((with_reducible refine aQ (N := 2) rfl ?_); refine aN ?hg (N := 2) ?hd (cs := #[.int .i64 a0_0, .int .i64 a0_1, .slice A0_2 l0_2.length c0_2, .int .i64 a0_3, .int .i64 a0_4, .int .i64 a0_5, .int .i64 a0_6, .int .i64 a0_7, .string a0_8, .int .i64 a0_9, .slice A0_10 l0_10.length c0_10, .slice A0_11 l0_11.length c0_11]) (t := 31) ?hr ?_; (case hd => rfl); (case hg => rfl); (case hr => first | (go_simp; done) | (go_simp; rfl)); intro gb338 hg w_2 hbox hb; have n0_ := mk_ (aC (Short.hB HB) hb); have n1_ := mk_ (hbox); have n2_ := mk_ ((by rw [hg]; exact (aA (Short.hB HB)) : w.heap.size ≤ gb338)); have n3_ := mk_ ((by rw [hg]; exact (aA (Short.hB HB)) : w.heap.size ≤ gb338)); clear HB; revert n0_ n1_ n2_ n3_; intro HB BK338 GW338 GE338; clear hb hbox hg) | ((with_reducible refine aQ (N := 3) rfl ?_); refine aN ?hg (N := 3) ?hd (cs := #[.int .i64 a1_0, .int .i64 a1_1, .slice A1_2 l1_2.length c1_2, .int .i64 a1_3, .int .i64 a1_4, .int .i64 a1_5, .int .i64 a1_6, .int .i64 a1_7, .string a1_8, .int .i64 a1_9, .slice A1_10 l1_10.length c1_10, .slice A1_11 l1_11.length c1_11]) (t := 31) ?hr ?_; (case hd => rfl); (case hg => rfl); (case hr => first | (go_simp; done) | (go_simp; rfl)); intro gb339 hg w_3 hbox hb; have n0_ := mk_ (bB_ BK338 hb); have n1_ := mk_ (aC (Short.hB HB) hb); have n2_ := mk_ (hbox); have n3_ := mk_ ((by rw [hg]; exact (aA (Short.hB HB)) : w.heap.size ≤ gb339)); have n4_ := mk_ ((by rw [hg]; exact (aA (Short.hB HB)) : w.heap.size ≤ gb339)); have n5_ := mk_ ((by rw [hg]; exact Nat.ne_of_lt (eA (Short.bK BK338)) : gb338 ≠ gb339)); have n6_ := mk_ ((by rw [hg]; exact Nat.ne_of_gt (eA (Short.bK BK338)) : gb339 ≠ gb338)); clear BK338 HB; revert n0_ n1_ n2_ n3_ n4_ n5_ n6_; intro BK338 HB BK339 GW339 GE339 NB338_339 NB339_338; clear hb hbox hg; have hnb_3 := NB338_339.out; have hnc_3 := NB339_338.out; have hcz_0 := aD BK338.out; have hfz_0 := aX BK338.out; have hcz_0 := aD BK339.out; have hfz_0 := aX BK339.out) | ((with_reducible refine aE (f := 34) rfl ?_); refine Short.gL (some 9) Tryz.func34 #[.agg #[.int .i64 a0_0, .int .i64 a0_1], .agg #[.int .i64 a1_0, .int .i64 a1_1]] (h := ?_); (with_reducible refine (dX.calls a0_0 a0_1 a1_0 a1_1 false _ A3.out).mono ?_); rintro e w_9 ⟨rfl, hb⟩; refine ⟨_, rfl, ?_⟩; have n0_ := mk_ (bB_ BK338 hb); have n1_ := mk_ (bB_ BK339 hb); have n2_ := mk_ (aC (Short.hB HB) hb); clear BK338 BK339 HB; revert n0_ n1_ n2_; intro BK338 BK339 HB; (try clear hb)) | ((with_reducible refine aE (f := 34) rfl ?_); refine Short.gL (some 9) Tryz.func34 #[.agg #[.int .i64 a0_0, .int .i64 a0_1], .agg #[.int .i64 a1_0, .int .i64 a1_1]] (h := ?_); (with_reducible refine (dX.calls a0_0 a0_1 a1_0 a1_1 true _ A3.out).mono ?_); rintro e w_9 ⟨rfl, hb⟩; refine ⟨_, rfl, ?_⟩; have n0_ := mk_ (bB_ BK338 hb); have n1_ := mk_ (bB_ BK339 hb); have n2_ := mk_ (aC (Short.hB HB) hb); clear BK338 BK339 HB; revert n0_ n1_ n2_; intro BK338 BK339 HB; (try clear hb); have hcz_0 := aD BK338.out; have hfz_0 := aX BK338.out; have hcz_0 := aD BK339.out; have hfz_0 := aX BK339.out) | (go_at_call 35; (with_reducible refine (bR.calls k _ _ l0_2 _ _ l1_2 _ _ ?side1 ?side2 ?side3 ?side4 A5.out).mono ?_); (case side1 => exact cX_ (aU HR0_2.out HB.out)); (case side2 => exact HC0_2.out); (case side3 => exact cX_ (aU HR1_2.out HB.out)); (case side4 => exact HC1_2.out); rintro e w' ⟨rfl, ⟨nd, rfl⟩⟩) | (go_at_call 36; (with_reducible refine (eM.calls a0_3 a0_4 a0_5 a1_3 a1_4 a1_5 false _ A7.out).mono ?_); rintro e w_x4 ⟨rfl, hb⟩; have n0_ := mk_ (bB_ BK338 hb); have n1_ := mk_ (bB_ BK339 hb); have n2_ := mk_ (aC (Short.hB HB) hb); clear BK338 BK339 HB; revert n0_ n1_ n2_; intro BK338 BK339 HB; (try clear hb); (try clear hb2); (try clear hk); (try clear hi)) | (go_at_call 36; (with_reducible refine (eM.calls a0_3 a0_4 a0_5 a1_3 a1_4 a1_5 true _ A7.out).mono ?_); rintro e w_x4 ⟨rfl, hb⟩; have n0_ := mk_ (bB_ BK338 hb); have n1_ := mk_ (bB_ BK339 hb); have n2_ := mk_ (aC (Short.hB HB) hb); clear BK338 BK339 HB; revert n0_ n1_ n2_; intro BK338 BK339 HB; (try clear hb); (try clear hb2); (try clear hk); (try clear hi); have hcz_0 := aD BK338.out; have hfz_0 := aX BK338.out; have hcz_0 := aD BK339.out; have hfz_0 := aX BK339.out) | (go_at_call 37; (with_reducible refine (bU.calls k _ _ l0_10 _ _ l1_10 false _ ?side1 ?side2 ?side3 ?side4 A13.out).mono ?_); (case side1 => exact cX_ (aU HR0_10.out HB.out)); (case side2 => exact HC0_10.out); (case side3 => exact cX_ (aU HR1_10.out HB.out)); (case side4 => exact HC1_10.out); rintro e w_x5 ⟨rfl, hb⟩; have n0_ := mk_ (bB_ BK338 hb); have n1_ := mk_ (bB_ BK339 hb); have n2_ := mk_ (aC (Short.hB HB) hb); clear BK338 BK339 HB; revert n0_ n1_ n2_; intro BK338 BK339 HB; (try clear hb); (try clear hb2); (try clear hk); (try clear hi)) | (go_at_call 37; (with_reducible refine (bU.calls k _ _ l0_10 _ _ l1_10 true _ ?side1 ?side2 ?side3 ?side4 A13.out).mono ?_); (case side1 => exact cX_ (aU HR0_10.out HB.out)); (case side2 => exact HC0_10.out); (case side3 => exact cX_ (aU HR1_10.out HB.out)); (case side4 => exact HC1_10.out); rintro e w_x5 ⟨rfl, hb⟩; have n0_ := mk_ (bB_ BK338 hb); have n1_ := mk_ (bB_ BK339 hb); have n2_ := mk_ (aC (Short.hB HB) hb); clear BK338 BK339 HB; revert n0_ n1_ n2_; intro BK338 BK339 HB; (try clear hb); (try clear hb2); (try clear hk); (try clear hi); have hcz_0 := aD BK338.out; have hfz_0 := aX BK338.out; have hcz_0 := aD BK339.out; have hfz_0 := aX BK339.out) | (go_at_call 38; (with_reducible refine (bT.calls k _ _ l0_11 _ _ l1_11 t344 _ ?side1 ?side2 ?side3 ?side4 A15.out).mono ?_); (case side1 => exact cX_ (aU HR0_11.out HB.out)); (case side2 => exact HC0_11.out); (case side3 => exact cX_ (aU HR1_11.out HB.out)); (case side4 => exact HC1_11.out); rintro e w_x6 ⟨rfl, hb⟩; have n0_ := mk_ (bB_ BK338 hb); have n1_ := mk_ (bB_ BK339 hb); have n2_ := mk_ (aC (Short.hB HB) hb); clear BK338 BK339 HB; revert n0_ n1_ n2_; intro BK338 BK339 HB; (try clear hb); (try clear hb2); (try clear hk); (try clear hi)))
  go_ret
  exact ⟨q0, Short.hB HB⟩
def cT.l0 : Nat → List (S53) → List (S53) → Int → Option (Bool)
 | 0, _, _, _ => none
 | k + 1, x0, x1, x5 => if x5 < (x0.length : Int) then (if 0 ≤ x5 then (if x5 < (x1.length : Int) then ((bR.f k ((cP x0 x5).f0) ((cP x1 x5).f0)).bind fun t347 => (if t347 = true then (cT.l0 k x0 x1 (wrap64 (x5 + 1))) else (some false))) else (none)) else (none)) else (some true)
def cT.f (k : Nat) (l0 : List (S53)) (l1 : List (S53)) : Option (Bool) := if (l0.length : Int) = (l1.length : Int) then (cT.l0 k l0 l1 0) else (some false)
theorem cT.calls (k : Nat) (A0 : Option Addr) (c0 : Nat) (l0 : List (S53)) (A1 : Option Addr) (c1 : Nat) (l1 : List (S53)) (r : Bool) (w : World) (hr0 : Kd.C k53 w A0 l0.length l0) (hc0 : l0.length ≤ c0) (hr1 : Kd.C k53 w A1 l1.length l1) (hc1 : l1.length ≤ c1) (h : cT.f k l0 l1 = some r) :
  Calls Tryz.prog 16 #[.slice A0 l0.length c0, .slice A1 l1.length c1] w fun e w' => e = .returned (.bool r) ∧ Drawn0 w w' := by
 have HR0 := mk_ hr0
 have HC0 := mk_ hc0
 clear hr0 hc0
 have HR1 := mk_ hr1
 have HC1 := mk_ hc1
 clear hr1 hc1
 have H : (if (l0.length : Int) = (l1.length : Int) then (cT.l0 k l0 l1 0) else (some false)) = some r := h
 clear h
 by_cases c3 : (l0.length : Int) = (l1.length : Int)
 rotate_left
 ·
  rw [if_neg c3] at H
  have c3b0 : ((l0.length : Int) == (l1.length : Int)) = false := beq_eq_false_iff_ne.mpr c3
  have c3b1 : ((l0.length : Int) != (l1.length : Int)) = true := bne_iff_ne.mpr c3
  have c3b2 : (l0.length == l1.length) = false := by first | simpa using c3 | (simp at c3 ⊢; omega)
  obtain rfl := Option.some.inj H
  go_enter Tryz.func16, Tryz.ntmps16
  go_wp2
  repeat (go_quiet (fail); try go_wp2)
  go_ret
  exact ⟨z4_, by repeat (first | exact Drawn0.refl _ | apply Drawn0.step)⟩
 rw [if_pos c3] at H
 have c3b0 : ((l0.length : Int) == (l1.length : Int)) = true := beq_iff_eq.mpr c3
 have c3b1 : ((l0.length : Int) != (l1.length : Int)) = false := bne_eq_false_iff_eq.mpr c3
 have c3b2 : (l0.length == l1.length) = true := by first | simpa using c3 | (simp at c3 ⊢; omega)
 clear c3
 have H' := mk_ H
 clear H
 go_enter Tryz.func16, Tryz.ntmps16
 go_wp2
 repeat (go_quiet (fail); try go_wp2)
 go_loopg [5] k (fun kq v5 w' => ∃ (x5_1 : Int), v5 = .int .i64 x5_1 ∧ Aside0 (cT.l0 kq l0 l1 x5_1 = some r) ∧ Aside0 (kq ≤ k) ∧ Drawn0 w w')
 case atStart => exact ⟨(0), z4_, H', ⟨Nat.le_refl _⟩, by repeat (first | exact Drawn0.refl _ | apply Drawn0.step)⟩
 case round =>
  clear H'
  try clear c1
  try clear p2
  try clear c3
  try clear c3b0
  try clear c3b1
  try clear c3b2
  obtain ⟨x5_1, rfl, HA, HK1, ⟨m1, rfl⟩⟩ := hrel
  cases gk with
  | zero => exact absurd HA.out (by simp [cT.l0])
  | succ k1 =>
   have H := HA.out
   clear HA
   simp only [cT.l0] at H
   by_cases c4 : x5_1 < (l0.length : Int)
   rotate_left
   ·
    rw [if_neg c4] at H
    have c4b0 : decide (x5_1 < (l0.length : Int)) = false := decide_eq_false c4
    clear c4
    obtain rfl := Option.some.inj H
    go_wp2
    repeat (go_quiet (fail); try go_wp2)
    go_ret
    exact ⟨z4_, by repeat (first | exact Drawn0.refl _ | apply Drawn0.step)⟩
   rw [if_pos c4] at H
   have c4b0 : decide (x5_1 < (l0.length : Int)) = true := decide_eq_true c4
   clear c4
   by_cases c5 : 0 ≤ x5_1
   rotate_left
   ·
    rw [if_neg c5] at H
    exact absurd H z6_
   rw [if_pos c5] at H
   have c5b0 : decide (0 ≤ x5_1) = true := decide_eq_true c5
   clear c5
   by_cases c6 : x5_1 < (l1.length : Int)
   rotate_left
   ·
    rw [if_neg c6] at H
    exact absurd H z6_
   rw [if_pos c6] at H
   have c6b0 : decide (x5_1 < (l1.length : Int)) = true := decide_eq_true c6
   clear c6
   obtain ⟨t347, A7, H⟩ := Option.bind_eq_some_iff.mp H
   replace A7 := mk_ A7
   by_cases c8 : t347 = true
   rotate_left
   ·
    replace c8 := Bool.eq_false_iff.mpr c8
    subst c8
    rw [if_neg (show ¬ (false = true) by decide)] at H
    obtain rfl := Option.some.inj H
    have p345 : 0 ≤ (x5_1 : Int) := of_decide_eq_true z1_
    have q345 : x5_1 < (l0.length : Int) := of_decide_eq_true z1_
    obtain ⟨ad345, A345_0, c345_0, e345, hx345_0, hl345_0, hi345_0⟩ := fQ HR0.out x5_1 p345 q345
    cases e345
    have HR345_0 := mk_ hi345_0
    have HC345_0 := mk_ hl345_0
    clear hi345_0 hl345_0
    replace p345 := eq_true p345
    replace q345 := eq_true q345
    have p346 : 0 ≤ (x5_1 : Int) := of_decide_eq_true z1_
    have q346 : x5_1 < (l1.length : Int) := of_decide_eq_true z1_
    obtain ⟨ad346, A346_0, c346_0, e346, hx346_0, hl346_0, hi346_0⟩ := fQ HR1.out x5_1 p346 q346
    cases e346
    have HR346_0 := mk_ hi346_0
    have HC346_0 := mk_ hl346_0
    clear hi346_0 hl346_0
    replace p346 := eq_true p346
    replace q346 := eq_true q346
    go_wp2_with (first | (go_at_call 35; (with_reducible refine (bR.calls k1 _ _ ((cP l0 x5_1).f0) _ _ ((cP l1 x5_1).f0) false _ ?side1 ?side2 ?side3 ?side4 A7.out).mono ?_); (case side1 => repeat (first | exact HR345_0.out | (with_reducible refine C_alloc ?_ _) | (with_reducible refine C_drewN ?_ _) | (with_reducible refine C_drew ?_))); (case side2 => exact HC345_0.out); (case side3 => repeat (first | exact HR346_0.out | (with_reducible refine C_alloc ?_ _) | (with_reducible refine C_drewN ?_ _) | (with_reducible refine C_drew ?_))); (case side4 => exact HC346_0.out); rintro e w' ⟨rfl, ⟨nd, rfl⟩⟩; (try first | exact ⟨rfl, _, World.drewN_drewN _ _ _⟩ | exact ⟨rfl, _, Eq.trans (World.drewN_drewN _ _ _) (congrArg (World.drewN _) (Nat.add_assoc _ _ _))⟩)))
    repeat (go_quiet (first | (go_at_call 35; (with_reducible refine (bR.calls k1 _ _ ((cP l0 x5_1).f0) _ _ ((cP l1 x5_1).f0) false _ ?side1 ?side2 ?side3 ?side4 A7.out).mono ?_); (case side1 => repeat (first | exact HR345_0.out | (with_reducible refine C_alloc ?_ _) | (with_reducible refine C_drewN ?_ _) | (with_reducible refine C_drew ?_))); (case side2 => exact HC345_0.out); (case side3 => repeat (first | exact HR346_0.out | (with_reducible refine C_alloc ?_ _) | (with_reducible refine C_drewN ?_ _) | (with_reducible refine C_drew ?_))); (case side4 => exact HC346_0.out); rintro e w' ⟨rfl, ⟨nd, rfl⟩⟩; (try first | exact ⟨rfl, _, World.drewN_drewN _ _ _⟩ | exact ⟨rfl, _, Eq.trans (World.drewN_drewN _ _ _) (congrArg (World.drewN _) (Nat.add_assoc _ _ _))⟩))); try go_wp2_with (first | (go_at_call 35; (with_reducible refine (bR.calls k1 _ _ ((cP l0 x5_1).f0) _ _ ((cP l1 x5_1).f0) false _ ?side1 ?side2 ?side3 ?side4 A7.out).mono ?_); (case side1 => repeat (first | exact HR345_0.out | (with_reducible refine C_alloc ?_ _) | (with_reducible refine C_drewN ?_ _) | (with_reducible refine C_drew ?_))); (case side2 => exact HC345_0.out); (case side3 => repeat (first | exact HR346_0.out | (with_reducible refine C_alloc ?_ _) | (with_reducible refine C_drewN ?_ _) | (with_reducible refine C_drew ?_))); (case side4 => exact HC346_0.out); rintro e w' ⟨rfl, ⟨nd, rfl⟩⟩; (try first | exact ⟨rfl, _, World.drewN_drewN _ _ _⟩ | exact ⟨rfl, _, Eq.trans (World.drewN_drewN _ _ _) (congrArg (World.drewN _) (Nat.add_assoc _ _ _))⟩))))
    go_ret
    exact ⟨z4_, by repeat (first | exact Drawn0.refl _ | apply Drawn0.step)⟩
   subst c8
   rw [if_pos rfl] at H
   have H' := mk_ H
   clear H
   have p345 : 0 ≤ (x5_1 : Int) := of_decide_eq_true z1_
   have q345 : x5_1 < (l0.length : Int) := of_decide_eq_true z1_
   obtain ⟨ad345, A345_0, c345_0, e345, hx345_0, hl345_0, hi345_0⟩ := fQ HR0.out x5_1 p345 q345
   cases e345
   have HR345_0 := mk_ hi345_0
   have HC345_0 := mk_ hl345_0
   clear hi345_0 hl345_0
   replace p345 := eq_true p345
   replace q345 := eq_true q345
   have p346 : 0 ≤ (x5_1 : Int) := of_decide_eq_true z1_
   have q346 : x5_1 < (l1.length : Int) := of_decide_eq_true z1_
   obtain ⟨ad346, A346_0, c346_0, e346, hx346_0, hl346_0, hi346_0⟩ := fQ HR1.out x5_1 p346 q346
   cases e346
   have HR346_0 := mk_ hi346_0
   have HC346_0 := mk_ hl346_0
   clear hi346_0 hl346_0
   replace p346 := eq_true p346
   replace q346 := eq_true q346
   go_wp2_with (first | (go_at_call 35; (with_reducible refine (bR.calls k1 _ _ ((cP l0 x5_1).f0) _ _ ((cP l1 x5_1).f0) true _ ?side1 ?side2 ?side3 ?side4 A7.out).mono ?_); (case side1 => repeat (first | exact HR345_0.out | (with_reducible refine C_alloc ?_ _) | (with_reducible refine C_drewN ?_ _) | (with_reducible refine C_drew ?_))); (case side2 => exact HC345_0.out); (case side3 => repeat (first | exact HR346_0.out | (with_reducible refine C_alloc ?_ _) | (with_reducible refine C_drewN ?_ _) | (with_reducible refine C_drew ?_))); (case side4 => exact HC346_0.out); rintro e w' ⟨rfl, ⟨nd, rfl⟩⟩; (try first | exact ⟨rfl, _, World.drewN_drewN _ _ _⟩ | exact ⟨rfl, _, Eq.trans (World.drewN_drewN _ _ _) (congrArg (World.drewN _) (Nat.add_assoc _ _ _))⟩)))
   repeat (go_quiet (first | (go_at_call 35; (with_reducible refine (bR.calls k1 _ _ ((cP l0 x5_1).f0) _ _ ((cP l1 x5_1).f0) true _ ?side1 ?side2 ?side3 ?side4 A7.out).mono ?_); (case side1 => repeat (first | exact HR345_0.out | (with_reducible refine C_alloc ?_ _) | (with_reducible refine C_drewN ?_ _) | (with_reducible refine C_drew ?_))); (case side2 => exact HC345_0.out); (case side3 => repeat (first | exact HR346_0.out | (with_reducible refine C_alloc ?_ _) | (with_reducible refine C_drewN ?_ _) | (with_reducible refine C_drew ?_))); (case side4 => exact HC346_0.out); rintro e w' ⟨rfl, ⟨nd, rfl⟩⟩; (try first | exact ⟨rfl, _, World.drewN_drewN _ _ _⟩ | exact ⟨rfl, _, Eq.trans (World.drewN_drewN _ _ _) (congrArg (World.drewN _) (Nat.add_assoc _ _ _))⟩))); try go_wp2_with (first | (go_at_call 35; (with_reducible refine (bR.calls k1 _ _ ((cP l0 x5_1).f0) _ _ ((cP l1 x5_1).f0) true _ ?side1 ?side2 ?side3 ?side4 A7.out).mono ?_); (case side1 => repeat (first | exact HR345_0.out | (with_reducible refine C_alloc ?_ _) | (with_reducible refine C_drewN ?_ _) | (with_reducible refine C_drew ?_))); (case side2 => exact HC345_0.out); (case side3 => repeat (first | exact HR346_0.out | (with_reducible refine C_alloc ?_ _) | (with_reducible refine C_drewN ?_ _) | (with_reducible refine C_drew ?_))); (case side4 => exact HC346_0.out); rintro e w' ⟨rfl, ⟨nd, rfl⟩⟩; (try first | exact ⟨rfl, _, World.drewN_drewN _ _ _⟩ | exact ⟨rfl, _, Eq.trans (World.drewN_drewN _ _ _) (congrArg (World.drewN _) (Nat.add_assoc _ _ _))⟩))))
   go_roundg k1
   case measure => have := HK1.out; omega
   case rel => exact ⟨(wrap64 (x5_1 + 1)), z4_, H', ⟨by have := HK1.out; omega⟩, by repeat (first | exact Drawn0.refl _ | apply Drawn0.step)⟩
def bL.f (a0 : Int) (a1 : Int) : Option (Bool) := if a0 ≥ 0 then (if 0 ≤ (IntKind.u64.wrap (wrap64 (8 * a1))) then (some ((shr .i64 a0 (IntKind.u64.wrap (wrap64 (8 * a1)))) == 0)) else (none)) else (some false)
theorem bL.calls (a0 : Int) (a1 : Int) (r : Bool) (w : World) (h : bL.f a0 a1 = some r) :
  Calls Tryz.prog 39 #[.int .i64 a0, .int .i64 a1] w fun e w' => e = .returned (.bool r) ∧ Drawn0 w w' := by
 have H : (if a0 ≥ 0 then (if 0 ≤ (IntKind.u64.wrap (wrap64 (8 * a1))) then (some ((shr .i64 a0 (IntKind.u64.wrap (wrap64 (8 * a1)))) == 0)) else (none)) else (some false)) = some r := h
 clear h
 by_cases c3 : a0 ≥ 0
 rotate_left
 rw [if_neg c3] at H
 have c3b0 : decide (0 ≤ a0) = false := decide_eq_false c3
 clear c3
 obtain rfl := Option.some.inj H
 rotate_right
 rw [if_pos c3] at H
 have c3b0 : decide (0 ≤ a0) = true := decide_eq_true c3
 clear c3
 obtain ⟨ji4, hji4⟩ : ∃ j_ : Int, (IntKind.u64.wrap (wrap64 (8 * a1))) = j_ := ⟨_, rfl⟩
 replace H : (if 0 ≤ (ji4) then (some ((shr .i64 a0 (ji4)) == 0)) else (none)) = some r := by first | (rw [hji4] at H; exact H) | (simp only [hji4] at H ⊢; exact H)
 by_cases c5 : 0 ≤ (ji4)
 rotate_left
 rw [if_neg c5] at H
 exact absurd H z6_
 rotate_right
 rw [if_pos c5] at H
 have c5b0 := eq_true c5
 have c5b1 : decide (0 ≤ (ji4)) = true := decide_eq_true c5
 clear c5
 obtain ⟨ji6, hji6⟩ : ∃ j_ : Int, (shr .i64 a0 (ji4)) = j_ := ⟨_, rfl⟩
 replace H : (some ((ji6) == 0)) = some r := by first | (rw [hji6] at H; exact H) | (simp only [hji6] at H ⊢; exact H)
 have hji6_ : (a0 / 2 ^ min (ji4).toNat 64) = ji6 := hji6
 have hji6z : (ji4) ≤ 64 → (a0 / 2 ^ (ji4).toNat) = ji6 := shr_small hji6
 obtain rfl := Option.some.inj H
 all_goals
  go_enter Tryz.func39, Tryz.ntmps39
  go_wp2
  go_ret
  first | exact ⟨z4_, by repeat (first | exact Drawn0.refl _ | apply Drawn0.step)⟩ | exact ⟨by first | rfl | (simp; done) | (simp only [← hji4, ← hji6] <;> (first | rfl | simp)) | (simp [*]; done), by repeat (first | exact Drawn0.refl _ | apply Drawn0.step)⟩
def dL.f (a0_0 : Int) (a0_1 : Int) : Option (Bool) := (bL.f a0_0 1).bind fun t349 => (if t349 = true then ((bL.f a0_1 4).bind fun t350 => (some t350)) else (some false))
theorem dL.calls (a0_0 : Int) (a0_1 : Int) (r : Bool) (w : World) (h : dL.f a0_0 a0_1 = some r) :
  Calls Tryz.prog 40 #[.agg #[.int .i64 a0_0, .int .i64 a0_1]] w fun e w' => e = .returned (.bool r) ∧ Below w.heap.size w w' := by
 have hu24 := Tryz.underlying24
 have HB := mk_ (Below.refl w.heap.size w)
 have H : ((bL.f a0_0 1).bind fun t349 => (if t349 = true then ((bL.f a0_1 4).bind fun t350 => (some t350)) else (some false))) = some r := h
 clear h
 obtain ⟨t349, A2, H⟩ := Option.bind_eq_some_iff.mp H
 replace A2 := mk_ A2
 by_cases c3 : t349 = true
 rotate_left
 replace c3 := Bool.eq_false_iff.mpr c3
 subst c3
 rw [if_neg (show ¬ (false = true) by decide)] at H
 obtain rfl := Option.some.inj H
 rotate_right
 subst c3
 rw [if_pos rfl] at H
 obtain ⟨t350, A4, H⟩ := Option.bind_eq_some_iff.mp H
 replace A4 := mk_ A4
 obtain rfl := Option.some.inj H
 all_goals
  go_enter Tryz.func40, Tryz.ntmps40
  go_wp2_with (first | ((with_reducible refine aQ (N := 1) rfl ?_); refine aN ?hg (N := 1) ?hd (cs := #[.int .i64 a0_0, .int .i64 a0_1]) (t := 24) ?hr ?_; (case hd => rfl); (case hg => rfl); (case hr => first | (go_simp; done) | (go_simp; rfl)); intro gb348 hg w_1 hbox hb; have n0_ := mk_ (aC (Short.hB HB) hb); have n1_ := mk_ (hbox); have n2_ := mk_ ((by rw [hg]; exact (aA (Short.hB HB)) : w.heap.size ≤ gb348)); have n3_ := mk_ ((by rw [hg]; exact (aA (Short.hB HB)) : w.heap.size ≤ gb348)); clear HB; revert n0_ n1_ n2_ n3_; intro HB BK348 GW348 GE348; clear hb hbox hg; obtain ⟨hcz_0, hcz_1, hfz_0, hfz_1⟩ := Short.c2 BK348.out) | ((with_reducible refine aE (f := 39) rfl ?_); refine Short.gL (some 5) Tryz.func39 #[.int .i64 a0_0, .int .i64 1] (h := ?_); (with_reducible refine (bL.calls a0_0 1 _ _ A2.out).mono ?_); rintro e w' ⟨rfl, ⟨nd, rfl⟩⟩; refine ⟨_, rfl, ?_⟩) | (go_at_call 39; (with_reducible refine (bL.calls a0_1 4 t350 _ A4.out).mono ?_); rintro e w' ⟨rfl, ⟨nd, rfl⟩⟩))
  go_ret
  exact ⟨q0, Short.hB HB⟩
def bV.l0 : Nat → List Int → Int → Option (Bool)
 | 0, _, _ => none
 | k + 1, x0, x3 => if x3 < (x0.length : Int) then (if 0 ≤ x3 then ((bL.f (rd x0 x3) 4).bind fun t352 => (if t352 = true then (bV.l0 k x0 (wrap64 (x3 + 1))) else (some false))) else (none)) else (some (decide ((x0.length : Int) ≤ 5)))
def bV.f (k : Nat) (l0 : List Int) : Option (Bool) := bV.l0 k l0 0
theorem bV.calls (k : Nat) (A0 : Option Addr) (c0 : Nat) (l0 : List Int) (r : Bool) (w : World) (hr0 : Kd.C (Kd.int .i64) w A0 l0.length l0) (hc0 : l0.length ≤ c0) (h : bV.f k l0 = some r) :
  Calls Tryz.prog 41 #[.slice A0 l0.length c0] w fun e w' => e = .returned (.bool r) ∧ Drawn0 w w' := by
 have HR0 := mk_ hr0
 have HC0 := mk_ hc0
 clear hr0 hc0
 have H : (bV.l0 k l0 0) = some r := h
 clear h
 have H' := mk_ H
 clear H
 go_enter Tryz.func41, Tryz.ntmps41
 go_wp2
 go_loopg [3] k (fun kq v3 w' => ∃ (x3_1 : Int), v3 = .int .i64 x3_1 ∧ Aside0 (bV.l0 kq l0 x3_1 = some r) ∧ Aside0 (kq ≤ k) ∧ Drawn0 w w')
 case atStart => exact ⟨(0), z4_, H', ⟨Nat.le_refl _⟩, by repeat (first | exact Drawn0.refl _ | apply Drawn0.step)⟩
 case round =>
  clear H'
  obtain ⟨x3_1, rfl, HA, HK1, ⟨m1, rfl⟩⟩ := hrel
  cases gk with
  | zero => exact absurd HA.out (by simp [bV.l0])
  | succ k1 =>
   have H := HA.out
   clear HA
   simp only [bV.l0] at H
   by_cases c2 : x3_1 < (l0.length : Int)
   rotate_left
   ·
    rw [if_neg c2] at H
    have c2b0 : decide (x3_1 < (l0.length : Int)) = false := decide_eq_false c2
    clear c2
    obtain rfl := Option.some.inj H
    go_wp2
    go_ret
    exact ⟨z4_, by repeat (first | exact Drawn0.refl _ | apply Drawn0.step)⟩
   rw [if_pos c2] at H
   have c2b0 : decide (x3_1 < (l0.length : Int)) = true := decide_eq_true c2
   clear c2
   by_cases c3 : 0 ≤ x3_1
   rotate_left
   ·
    rw [if_neg c3] at H
    exact absurd H z6_
   rw [if_pos c3] at H
   have c3b0 : decide (0 ≤ x3_1) = true := decide_eq_true c3
   clear c3
   obtain ⟨t352, A4, H⟩ := Option.bind_eq_some_iff.mp H
   replace A4 := mk_ A4
   by_cases c5 : t352 = true
   rotate_left
   ·
    replace c5 := Bool.eq_false_iff.mpr c5
    subst c5
    rw [if_neg (show ¬ (false = true) by decide)] at H
    obtain rfl := Option.some.inj H
    have p351 : 0 ≤ (x3_1 : Int) := of_decide_eq_true z1_
    have q351 : x3_1 < (l0.length : Int) := of_decide_eq_true z1_
    obtain ⟨ad351, e351, hx351_0⟩ := Kd.at_int HR0.out x3_1 p351 q351
    cases e351
    replace p351 := eq_true p351
    replace q351 := eq_true q351
    go_wp2_with (first | ((with_reducible refine aE (f := 39) rfl ?_); refine Short.gL (some 14) Tryz.func39 #[.int .i64 (rd l0 x3_1), .int .i64 4] (h := ?_); (with_reducible refine (bL.calls (rd l0 x3_1) 4 false _ A4.out).mono ?_); rintro e w' ⟨rfl, ⟨nd, rfl⟩⟩; refine ⟨_, rfl, ?_⟩))
    go_ret
    exact ⟨z4_, by repeat (first | exact Drawn0.refl _ | apply Drawn0.step)⟩
   subst c5
   rw [if_pos rfl] at H
   have H' := mk_ H
   clear H
   have p351 : 0 ≤ (x3_1 : Int) := of_decide_eq_true z1_
   have q351 : x3_1 < (l0.length : Int) := of_decide_eq_true z1_
   obtain ⟨ad351, e351, hx351_0⟩ := Kd.at_int HR0.out x3_1 p351 q351
   cases e351
   replace p351 := eq_true p351
   replace q351 := eq_true q351
   go_wp2_with (first | ((with_reducible refine aE (f := 39) rfl ?_); refine Short.gL (some 14) Tryz.func39 #[.int .i64 (rd l0 x3_1), .int .i64 4] (h := ?_); (with_reducible refine (bL.calls (rd l0 x3_1) 4 true _ A4.out).mono ?_); rintro e w' ⟨rfl, ⟨nd, rfl⟩⟩; refine ⟨_, rfl, ?_⟩))
   go_roundg k1
   case measure => have := HK1.out; omega
   case rel => exact ⟨(wrap64 (x3_1 + 1)), z4_, H', ⟨by have := HK1.out; omega⟩, by repeat (first | exact Drawn0.refl _ | apply Drawn0.step)⟩
def eE.f (a0_0 : Int) (a0_1 : Int) (a0_2 : Int) : Option (Bool) := (bL.f a0_0 6).bind fun t354 => (if t354 = true then ((bL.f a0_1 3).bind fun t355 => (if t355 = true then ((bL.f a0_2 1).bind fun t356 => (some t356)) else (some false))) else (some false))
theorem eE.calls (a0_0 : Int) (a0_1 : Int) (a0_2 : Int) (r : Bool) (w : World) (h : eE.f a0_0 a0_1 a0_2 = some r) :
  Calls Tryz.prog 42 #[.agg #[.int .i64 a0_0, .int .i64 a0_1, .int .i64 a0_2]] w fun e w' => e = .returned (.bool r) ∧ Below w.heap.size w w' := by
 have hu27 := Tryz.underlying27
 have HB := mk_ (Below.refl w.heap.size w)
 have H : ((bL.f a0_0 6).bind fun t354 => (if t354 = true then ((bL.f a0_1 3).bind fun t355 => (if t355 = true then ((bL.f a0_2 1).bind fun t356 => (some t356)) else (some false))) else (some false))) = some r := h
 clear h
 obtain ⟨t354, A2, H⟩ := Option.bind_eq_some_iff.mp H
 replace A2 := mk_ A2
 by_cases c3 : t354 = true
 rotate_left
 replace c3 := Bool.eq_false_iff.mpr c3
 subst c3
 rw [if_neg (show ¬ (false = true) by decide)] at H
 obtain rfl := Option.some.inj H
 rotate_right
 subst c3
 rw [if_pos rfl] at H
 obtain ⟨t355, A4, H⟩ := Option.bind_eq_some_iff.mp H
 replace A4 := mk_ A4
 by_cases c5 : t355 = true
 rotate_left
 replace c5 := Bool.eq_false_iff.mpr c5
 subst c5
 rw [if_neg (show ¬ (false = true) by decide)] at H
 obtain rfl := Option.some.inj H
 rotate_right
 subst c5
 rw [if_pos rfl] at H
 obtain ⟨t356, A6, H⟩ := Option.bind_eq_some_iff.mp H
 replace A6 := mk_ A6
 obtain rfl := Option.some.inj H
 all_goals
  go_enter Tryz.func42, Tryz.ntmps42
  go_wp2_with (first | ((with_reducible refine aQ (N := 1) rfl ?_); refine aN ?hg (N := 1) ?hd (cs := #[.int .i64 a0_0, .int .i64 a0_1, .int .i64 a0_2]) (t := 27) ?hr ?_; (case hd => rfl); (case hg => rfl); (case hr => first | (go_simp; done) | (go_simp; rfl)); intro gb353 hg w_1 hbox hb; have n0_ := mk_ (aC (Short.hB HB) hb); have n1_ := mk_ (hbox); have n2_ := mk_ ((by rw [hg]; exact (aA (Short.hB HB)) : w.heap.size ≤ gb353)); have n3_ := mk_ ((by rw [hg]; exact (aA (Short.hB HB)) : w.heap.size ≤ gb353)); clear HB; revert n0_ n1_ n2_ n3_; intro HB BK353 GW353 GE353; clear hb hbox hg; obtain ⟨hcz_0, hcz_1, hcz_2, hfz_0, hfz_1, hfz_2⟩ := Short.c3 BK353.out) | ((with_reducible refine aE (f := 39) rfl ?_); refine Short.gL (some 5) Tryz.func39 #[.int .i64 a0_0, .int .i64 6] (h := ?_); (with_reducible refine (bL.calls a0_0 6 _ _ A2.out).mono ?_); rintro e w' ⟨rfl, ⟨nd, rfl⟩⟩; refine ⟨_, rfl, ?_⟩) | (go_at_call 39; (with_reducible refine (bL.calls a0_1 3 _ _ A4.out).mono ?_); rintro e w' ⟨rfl, ⟨nd, rfl⟩⟩) | (go_at_call 39; (with_reducible refine (bL.calls a0_2 1 t356 _ A6.out).mono ?_); rintro e w' ⟨rfl, ⟨nd, rfl⟩⟩))
  go_ret
  exact ⟨q0, Short.hB HB⟩
def cX.l0 : Nat → List (S102) → Int → Option (Int)
 | 0, _, _ => none
 | k + 1, x0, x3 => if x3 < (x0.length : Int) then (if 0 ≤ x3 then ((cF.f ((aK x0 x3).f0) ((aK x0 x3).f1) ((aK x0 x3).f2)).bind fun t358 => (if t358 = true then (cX.l0 k x0 (wrap64 (x3 + 1))) else (some 1))) else (none)) else (some 0)
def cX.f (k : Nat) (l0 : List (S102)) : Option (Int) := if (l0.length : Int) > 12 then (some 2) else (cX.l0 k l0 0)
theorem cX.calls (k : Nat) (A0 : Option Addr) (c0 : Nat) (l0 : List (S102)) (r : Int) (w : World) (hr0 : Kd.C k102 w A0 l0.length l0) (hc0 : l0.length ≤ c0) (h : cX.f k l0 = some r) :
  Calls Tryz.prog 43 #[.slice A0 l0.length c0] w fun e w' => e = .returned (.int .i64 r) ∧ Below w.heap.size w w' := by
 have hu102 := Tryz.underlying102
 have HR0 := mk_ hr0
 have HC0 := mk_ hc0
 clear hr0 hc0
 have HB := mk_ (Below.refl w.heap.size w)
 have H : (if (l0.length : Int) > 12 then (some 2) else (cX.l0 k l0 0)) = some r := h
 clear h
 by_cases c2 : (l0.length : Int) > 12
 ·
  rw [if_pos c2] at H
  have c2b0 : decide (12 < (l0.length : Int)) = true := decide_eq_true c2
  have c2b1 : decide (12 < l0.length) = true := decide_eq_true z3_
  clear c2
  obtain rfl := Option.some.inj H
  go_enter Tryz.func43, Tryz.ntmps43
  go_wp2
  go_ret
  exact ⟨q0, Short.hB HB⟩
 rw [if_neg c2] at H
 have c2b0 : decide (12 < (l0.length : Int)) = false := decide_eq_false c2
 have c2b1 : decide (12 < l0.length) = false := decide_eq_false z3_
 clear c2
 have H' := mk_ H
 clear H
 go_enter Tryz.func43, Tryz.ntmps43
 go_wp2
 go_loopg [3] k (fun kq v3 w' => ∃ (x3_1 : Int), v3 = .int .i64 x3_1 ∧ Aside0 (cX.l0 kq l0 x3_1 = some r) ∧ Aside0 (kq ≤ k) ∧ Aside0 (Below w.heap.size w w'))
 case atStart => exact ⟨(0), z4_, H', ⟨Nat.le_refl _⟩, ⟨Short.hB HB⟩⟩
 case round =>
  clear H'
  try clear c2
  try clear c2b0
  try clear c2b1
  try clear p2
  obtain ⟨x3_1, rfl, HA, HK1, HB⟩ := hrel
  cases gk with
  | zero => exact absurd HA.out (by simp [cX.l0])
  | succ k1 =>
   have H := HA.out
   clear HA
   simp only [cX.l0] at H
   by_cases c3 : x3_1 < (l0.length : Int)
   rotate_left
   ·
    rw [if_neg c3] at H
    have c3b0 : decide (x3_1 < (l0.length : Int)) = false := decide_eq_false c3
    clear c3
    obtain rfl := Option.some.inj H
    go_wp2
    go_ret
    exact ⟨q0, Short.hB HB⟩
   rw [if_pos c3] at H
   have c3b0 : decide (x3_1 < (l0.length : Int)) = true := decide_eq_true c3
   clear c3
   by_cases c4 : 0 ≤ x3_1
   rotate_left
   ·
    rw [if_neg c4] at H
    exact absurd H z6_
   rw [if_pos c4] at H
   have c4b0 : decide (0 ≤ x3_1) = true := decide_eq_true c4
   clear c4
   obtain ⟨t358, A5, H⟩ := Option.bind_eq_some_iff.mp H
   replace A5 := mk_ A5
   by_cases c6 : t358 = true
   rotate_left
   ·
    replace c6 := Bool.eq_false_iff.mpr c6
    subst c6
    rw [if_neg (show ¬ (false = true) by decide)] at H
    obtain rfl := Option.some.inj H
    have p357 : 0 ≤ (x3_1 : Int) := of_decide_eq_true z1_
    have q357 : x3_1 < (l0.length : Int) := of_decide_eq_true z1_
    obtain ⟨ad357, e357, hx357_0, hx357_1, hx357_2⟩ := fK HR0.out x3_1 p357 q357
    cases e357
    replace hx357_0 := up_ HB hx357_0
    replace hx357_1 := up_ HB hx357_1
    replace hx357_2 := up_ HB hx357_2
    replace p357 := eq_true p357
    replace q357 := eq_true q357
    go_wp2_with (first | ((with_reducible refine aE (f := 69) rfl ?_); refine Short.gL (some 17) Tryz.func69 #[.agg #[.int .i64 ((aK l0 x3_1).f0), .int .i64 ((aK l0 x3_1).f1), .string ((aK l0 x3_1).f2)]] (h := ?_); (with_reducible refine (cF.calls ((aK l0 x3_1).f0) ((aK l0 x3_1).f1) ((aK l0 x3_1).f2) false _ A5.out).mono ?_); rintro e w8 ⟨rfl, hb⟩; refine ⟨_, rfl, ?_⟩; have n0_ := mk_ (aC (Short.hB HB) hb); clear HB; revert n0_; intro HB; (try clear hb)))
    go_ret
    exact ⟨q0, Short.hB HB⟩
   subst c6
   rw [if_pos rfl] at H
   have H' := mk_ H
   clear H
   have p357 : 0 ≤ (x3_1 : Int) := of_decide_eq_true z1_
   have q357 : x3_1 < (l0.length : Int) := of_decide_eq_true z1_
   obtain ⟨ad357, e357, hx357_0, hx357_1, hx357_2⟩ := fK HR0.out x3_1 p357 q357
   cases e357
   replace hx357_0 := up_ HB hx357_0
   replace hx357_1 := up_ HB hx357_1
   replace hx357_2 := up_ HB hx357_2
   replace p357 := eq_true p357
   replace q357 := eq_true q357
   go_wp2_with (first | ((with_reducible refine aE (f := 69) rfl ?_); refine Short.gL (some 17) Tryz.func69 #[.agg #[.int .i64 ((aK l0 x3_1).f0), .int .i64 ((aK l0 x3_1).f1), .string ((aK l0 x3_1).f2)]] (h := ?_); (with_reducible refine (cF.calls ((aK l0 x3_1).f0) ((aK l0 x3_1).f1) ((aK l0 x3_1).f2) true _ A5.out).mono ?_); rintro e w7 ⟨rfl, hb⟩; refine ⟨_, rfl, ?_⟩; have n0_ := mk_ (aC (Short.hB HB) hb); clear HB; revert n0_; intro HB; (try clear hb)))
   go_roundg k1
   case measure => have := HK1.out; omega
   case rel => exact ⟨(wrap64 (x3_1 + 1)), z4_, H', ⟨by have := HK1.out; omega⟩, ⟨Short.hB HB⟩⟩
def eR.l0 : Nat → Int → List Int → Int → Int → Option (Int)
 | 0, _, _, _, _ => none
 | k + 1, x3, x6, x7, x8 => if x8 < x7 then (if 0 ≤ x8 then (if x8 < (x6.length : Int) then (eR.l0 k (Go.bits .or .u64 (IntKind.u64.wrap (x3 * 256)) (IntKind.u64.wrap (rd x6 x8))) x6 x7 (wrap64 (x8 + 1))) else (none)) else (none)) else (some x3)
def eR.f (k : Nat) (l0 : List Int) : Option (Int) := eR.l0 k 0 l0 (l0.length : Int) 0
theorem eR.calls (k : Nat) (A0 : Option Addr) (c0 : Nat) (l0 : List Int) (r : Int) (w : World) (hr0 : Kd.C (Kd.int .u8) w A0 l0.length l0) (hc0 : l0.length ≤ c0) (h : eR.f k l0 = some r) :
  Calls Tryz.prog 108 #[.slice A0 l0.length c0] w fun e w' => e = .returned (.int .u64 r) ∧ Drawn0 w w' := by
 have HR0 := mk_ hr0
 have HC0 := mk_ hc0
 clear hr0 hc0
 have H : (eR.l0 k 0 l0 (l0.length : Int) 0) = some r := h
 clear h
 have H' := mk_ H
 clear H
 go_enter Tryz.func108, Tryz.ntmps108
 go_wp2
 go_loopg [3, 8] k (fun kq v3 v8 w' => ∃ (x3_1 : Int) (x8_1 : Int), v3 = .int .u64 x3_1 ∧ v8 = .int .i64 x8_1 ∧ Aside0 (eR.l0 kq x3_1 l0 (l0.length : Int) x8_1 = some r) ∧ Aside0 (kq ≤ k) ∧ Drawn0 w w')
 case atStart => exact ⟨(0), (0), z4_, z4_, H', ⟨Nat.le_refl _⟩, by repeat (first | exact Drawn0.refl _ | apply Drawn0.step)⟩
 case round =>
  clear H'
  try clear c1
  obtain ⟨x3_1, x8_1, rfl, rfl, HA, HK1, ⟨m1, rfl⟩⟩ := hrel
  cases gk with
  | zero => exact absurd HA.out (by simp [eR.l0])
  | succ k1 =>
   have H := HA.out
   clear HA
   simp only [eR.l0] at H
   by_cases c2 : x8_1 < (l0.length : Int)
   rotate_left
   ·
    rw [if_neg c2] at H
    have c2b0 : decide (x8_1 < (l0.length : Int)) = false := decide_eq_false c2
    clear c2
    obtain rfl := Option.some.inj H
    go_wp2
    go_ret
    exact ⟨z4_, by repeat (first | exact Drawn0.refl _ | apply Drawn0.step)⟩
   rw [if_pos c2] at H
   have c2b0 : decide (x8_1 < (l0.length : Int)) = true := decide_eq_true c2
   clear c2
   by_cases c3 : 0 ≤ x8_1
   rotate_left
   ·
    rw [if_neg c3] at H
    exact absurd H z6_
   rw [if_pos c3] at H
   have c3b0 : decide (0 ≤ x8_1) = true := decide_eq_true c3
   clear c3
   by_cases c4 : x8_1 < (l0.length : Int)
   rotate_left
   ·
    rw [if_neg c4] at H
    exact absurd H z6_
   rw [if_pos c4] at H
   have c4b0 : decide (x8_1 < (l0.length : Int)) = true := decide_eq_true c4
   clear c4
   have H' := mk_ H
   clear H
   have p359 : 0 ≤ (x8_1 : Int) := of_decide_eq_true z1_
   have q359 : x8_1 < (l0.length : Int) := of_decide_eq_true z1_
   obtain ⟨ad359, e359, hx359_0⟩ := Kd.at_int HR0.out x8_1 p359 q359
   cases e359
   replace p359 := eq_true p359
   replace q359 := eq_true q359
   go_wp2
   go_roundg k1
   case measure => have := HK1.out; omega
   case rel => exact ⟨(Go.bits .or .u64 (IntKind.u64.wrap (x3_1 * 256)) (IntKind.u64.wrap (rd l0 x8_1))), (wrap64 (x8_1 + 1)), z4_, z4_, H', ⟨by have := HK1.out; omega⟩, by repeat (first | exact Drawn0.refl _ | apply Drawn0.step)⟩
end Go.Proofs.YtjnjfogfpmeacaaGreat.PAll
end
section
namespace Go.Proofs.YtjnjfogfpmeacaaGreat.PAll
open Go.RowKit PrintWords PrintLast PrintMore ZipT PrintWords.Kd PrintMore.Kd
attribute [local go_sem] eP eN fD fA dS dT eO eK   -- for this text's walks alone
set_option linter.unusedVariables false
set_option linter.unusedSimpArgs false
def bN.f (a0_0 : Int) (a0_1 : Int) (a0_2 : ByteArray) : Option (Int) := if a0_0 = 1 then (if a0_1 = 0 then (if (a0_2.toList = ([] : List UInt8)) then (some 0) else (some 1)) else (some 1)) else (if a0_0 = 2 then (if a0_1 = 0 then (if (a0_2.toList = ([] : List UInt8)) then (some 0) else (some 1)) else (if a0_1 = 1 then (if (a0_2.toList = ([] : List UInt8)) then (some 0) else (some 1)) else (some 1))) else (if a0_0 = 3 then ((eG.f a0_1 1152921504606846976).bind fun t168 => (if t168 = true then (if (a0_2.toList = ([] : List UInt8)) then (some 0) else (some 1)) else (some 1))) else (if a0_0 = 4 then (if a0_1 = 0 then (if ((a0_2.size : Int) ≤ 24) then (some 0) else (some 1)) else (some 1)) else (some 1))))
theorem bN.calls (a0_0 : Int) (a0_1 : Int) (a0_2 : ByteArray) (r : Int) (w : World) (h : bN.f a0_0 a0_1 a0_2 = some r) :
  Calls Tryz.prog 98 #[.agg #[.int .i64 a0_0, .int .i64 a0_1, .string a0_2]] w fun e w' => e = .returned (.int .i64 r) ∧ Below w.heap.size w w' := by
 have hu102 := Tryz.underlying102
 have HB := mk_ (Below.refl w.heap.size w)
 have H : (if a0_0 = 1 then (if a0_1 = 0 then (if (a0_2.toList = ([] : List UInt8)) then (some 0) else (some 1)) else (some 1)) else (if a0_0 = 2 then (if a0_1 = 0 then (if (a0_2.toList = ([] : List UInt8)) then (some 0) else (some 1)) else (if a0_1 = 1 then (if (a0_2.toList = ([] : List UInt8)) then (some 0) else (some 1)) else (some 1))) else (if a0_0 = 3 then ((eG.f a0_1 1152921504606846976).bind fun t168 => (if t168 = true then (if (a0_2.toList = ([] : List UInt8)) then (some 0) else (some 1)) else (some 1))) else (if a0_0 = 4 then (if a0_1 = 0 then (if ((a0_2.size : Int) ≤ 24) then (some 0) else (some 1)) else (some 1)) else (some 1))))) = some r := h
 clear h
 by_cases c2 : a0_0 = 1
 rotate_left
 rw [if_neg c2] at H
 have c2b0 : (a0_0 == 1) = false := beq_eq_false_iff_ne.mpr c2
 have c2b1 : (a0_0 != 1) = true := bne_iff_ne.mpr c2
 by_cases c11 : a0_0 = 2
 rotate_left
 rw [if_neg c11] at H
 have c11b0 : (a0_0 == 2) = false := beq_eq_false_iff_ne.mpr c11
 have c11b1 : (a0_0 != 2) = true := bne_iff_ne.mpr c11
 by_cases c26 : a0_0 = 3
 rotate_left
 rw [if_neg c26] at H
 have c26b0 : (a0_0 == 3) = false := beq_eq_false_iff_ne.mpr c26
 have c26b1 : (a0_0 != 3) = true := bne_iff_ne.mpr c26
 by_cases c36 : a0_0 = 4
 rotate_left
 rw [if_neg c36] at H
 have c36b0 : (a0_0 == 4) = false := beq_eq_false_iff_ne.mpr c36
 have c36b1 : (a0_0 != 4) = true := bne_iff_ne.mpr c36
 obtain rfl := Option.some.inj H
 rotate_right
 rw [if_pos c36] at H
 have c36b0 : (a0_0 == 4) = true := beq_iff_eq.mpr c36
 have c36b1 : (a0_0 != 4) = false := bne_eq_false_iff_eq.mpr c36
 clear c36
 by_cases c37 : a0_1 = 0
 rotate_left
 rw [if_neg c37] at H
 have c37b0 : (a0_1 == 0) = false := beq_eq_false_iff_ne.mpr c37
 have c37b1 : (a0_1 != 0) = true := bne_iff_ne.mpr c37
 obtain rfl := Option.some.inj H
 rotate_right
 rw [if_pos c37] at H
 have c37b0 : (a0_1 == 0) = true := beq_iff_eq.mpr c37
 have c37b1 : (a0_1 != 0) = false := bne_eq_false_iff_eq.mpr c37
 clear c37
 by_cases c38 : ((a0_2.size : Int) ≤ 24)
 rotate_left
 rw [if_neg c38] at H
 have c38b0 : decide ((a0_2.size : Int) ≤ 24) = false := decide_eq_false c38
 have c38b1 : decide (a0_2.size ≤ 24) = false := decide_eq_false z3_
 clear c38
 obtain rfl := Option.some.inj H
 rotate_right
 rw [if_pos c38] at H
 have c38b0 : decide ((a0_2.size : Int) ≤ 24) = true := decide_eq_true c38
 have c38b1 : decide (a0_2.size ≤ 24) = true := decide_eq_true z3_
 clear c38
 obtain rfl := Option.some.inj H
 rotate_right
 rw [if_pos c26] at H
 have c26b0 : (a0_0 == 3) = true := beq_iff_eq.mpr c26
 have c26b1 : (a0_0 != 3) = false := bne_eq_false_iff_eq.mpr c26
 clear c26
 obtain ⟨t168, A27, H⟩ := Option.bind_eq_some_iff.mp H
 replace A27 := mk_ A27
 by_cases c28 : t168 = true
 rotate_left
 replace c28 := Bool.eq_false_iff.mpr c28
 subst c28
 rw [if_neg (show ¬ (false = true) by decide)] at H
 obtain rfl := Option.some.inj H
 rotate_right
 subst c28
 rw [if_pos rfl] at H
 by_cases c29 : (a0_2.toList = ([] : List UInt8))
 rotate_left
 rw [if_neg c29] at H
 have c29b0 : (a0_2.toList == ([] : List UInt8)) = false := beq_eq_false_iff_ne.mpr c29
 have c29b1 : (a0_2.toList != ([] : List UInt8)) = true := bne_iff_ne.mpr c29
 obtain rfl := Option.some.inj H
 rotate_right
 rw [if_pos c29] at H
 have c29b0 : (a0_2.toList == ([] : List UInt8)) = true := beq_iff_eq.mpr c29
 have c29b1 : (a0_2.toList != ([] : List UInt8)) = false := bne_eq_false_iff_eq.mpr c29
 clear c29
 obtain rfl := Option.some.inj H
 rotate_right
 rw [if_pos c11] at H
 have c11b0 : (a0_0 == 2) = true := beq_iff_eq.mpr c11
 have c11b1 : (a0_0 != 2) = false := bne_eq_false_iff_eq.mpr c11
 clear c11
 by_cases c12 : a0_1 = 0
 rotate_left
 rw [if_neg c12] at H
 have c12b0 : (a0_1 == 0) = false := beq_eq_false_iff_ne.mpr c12
 have c12b1 : (a0_1 != 0) = true := bne_iff_ne.mpr c12
 by_cases c18 : a0_1 = 1
 rotate_left
 rw [if_neg c18] at H
 have c18b0 : (a0_1 == 1) = false := beq_eq_false_iff_ne.mpr c18
 have c18b1 : (a0_1 != 1) = true := bne_iff_ne.mpr c18
 obtain rfl := Option.some.inj H
 rotate_right
 rw [if_pos c18] at H
 have c18b0 : (a0_1 == 1) = true := beq_iff_eq.mpr c18
 have c18b1 : (a0_1 != 1) = false := bne_eq_false_iff_eq.mpr c18
 clear c18
 by_cases c19 : (a0_2.toList = ([] : List UInt8))
 rotate_left
 rw [if_neg c19] at H
 have c19b0 : (a0_2.toList == ([] : List UInt8)) = false := beq_eq_false_iff_ne.mpr c19
 have c19b1 : (a0_2.toList != ([] : List UInt8)) = true := bne_iff_ne.mpr c19
 obtain rfl := Option.some.inj H
 rotate_right
 rw [if_pos c19] at H
 have c19b0 : (a0_2.toList == ([] : List UInt8)) = true := beq_iff_eq.mpr c19
 have c19b1 : (a0_2.toList != ([] : List UInt8)) = false := bne_eq_false_iff_eq.mpr c19
 clear c19
 obtain rfl := Option.some.inj H
 rotate_right
 rw [if_pos c12] at H
 have c12b0 : (a0_1 == 0) = true := beq_iff_eq.mpr c12
 have c12b1 : (a0_1 != 0) = false := bne_eq_false_iff_eq.mpr c12
 clear c12
 by_cases c13 : (a0_2.toList = ([] : List UInt8))
 rotate_left
 rw [if_neg c13] at H
 have c13b0 : (a0_2.toList == ([] : List UInt8)) = false := beq_eq_false_iff_ne.mpr c13
 have c13b1 : (a0_2.toList != ([] : List UInt8)) = true := bne_iff_ne.mpr c13
 obtain rfl := Option.some.inj H
 rotate_right
 rw [if_pos c13] at H
 have c13b0 : (a0_2.toList == ([] : List UInt8)) = true := beq_iff_eq.mpr c13
 have c13b1 : (a0_2.toList != ([] : List UInt8)) = false := bne_eq_false_iff_eq.mpr c13
 clear c13
 obtain rfl := Option.some.inj H
 rotate_right
 rw [if_pos c2] at H
 have c2b0 : (a0_0 == 1) = true := beq_iff_eq.mpr c2
 have c2b1 : (a0_0 != 1) = false := bne_eq_false_iff_eq.mpr c2
 clear c2
 by_cases c3 : a0_1 = 0
 rotate_left
 rw [if_neg c3] at H
 have c3b0 : (a0_1 == 0) = false := beq_eq_false_iff_ne.mpr c3
 have c3b1 : (a0_1 != 0) = true := bne_iff_ne.mpr c3
 obtain rfl := Option.some.inj H
 rotate_right
 rw [if_pos c3] at H
 have c3b0 : (a0_1 == 0) = true := beq_iff_eq.mpr c3
 have c3b1 : (a0_1 != 0) = false := bne_eq_false_iff_eq.mpr c3
 clear c3
 by_cases c4 : (a0_2.toList = ([] : List UInt8))
 rotate_left
 rw [if_neg c4] at H
 have c4b0 : (a0_2.toList == ([] : List UInt8)) = false := beq_eq_false_iff_ne.mpr c4
 have c4b1 : (a0_2.toList != ([] : List UInt8)) = true := bne_iff_ne.mpr c4
 obtain rfl := Option.some.inj H
 rotate_right
 rw [if_pos c4] at H
 have c4b0 : (a0_2.toList == ([] : List UInt8)) = true := beq_iff_eq.mpr c4
 have c4b1 : (a0_2.toList != ([] : List UInt8)) = false := bne_eq_false_iff_eq.mpr c4
 clear c4
 obtain rfl := Option.some.inj H
 all_goals
  go_enter Tryz.func98, Tryz.ntmps98
  go_wp2_with (first | ((with_reducible refine aQ (N := 1) rfl ?_); (try (refine dC (by rfl) ?_; dsimp only)); refine aN ?hg (N := 1) ?hd (cs := #[.int .i64 a0_0, .int .i64 a0_1, .string a0_2]) (t := 102) ?hr ?_; (case hd => rfl); (case hg => rfl); (case hr => first | (go_simp; done) | (go_simp; rfl)); intro gb167 hg w_1 hbox hb; have n0_ := mk_ (aC (Short.hB HB) hb); have n1_ := mk_ (hbox); have n2_ := mk_ ((by rw [hg]; exact (aA (Short.hB HB)) : w.heap.size ≤ gb167)); have n3_ := mk_ ((by rw [hg]; exact (aA (Short.hB HB)) : w.heap.size ≤ gb167)); clear HB; revert n0_ n1_ n2_ n3_; intro HB BK167 GW167 GE167; clear hb hbox hg; obtain ⟨hcz_0, hcz_1, hcz_2, hfz_0, hfz_1, hfz_2⟩ := Short.c3 BK167.out) | ((with_reducible refine aE (f := 105) rfl ?_); refine Short.gL (some 35) Tryz.func105 #[.int .i64 a0_1, .int .i64 1152921504606846976] (h := ?_); (with_reducible refine (eG.calls a0_1 1152921504606846976 _ _ A27.out).mono ?_); rintro e w' ⟨rfl, ⟨nd, rfl⟩⟩; refine ⟨_, rfl, ?_⟩))
  go_ret
  exact ⟨q0, Short.hB HB⟩
def gR.f (a0_0 : Int) (a0_1 : Int) (a0_2 : ByteArray) : Option (Bool) := (bN.f a0_0 a0_1 a0_2).bind fun t170 => (some (t170 != 0))
theorem gR.calls (a0_0 : Int) (a0_1 : Int) (a0_2 : ByteArray) (r : Bool) (w : World) (h : gR.f a0_0 a0_1 a0_2 = some r) :
  Calls Tryz.prog 97 #[.agg #[.int .i64 a0_0, .int .i64 a0_1, .string a0_2]] w fun e w' => e = .returned (.bool r) ∧ Below w.heap.size w w' := by
 have hu102 := Tryz.underlying102
 have HB := mk_ (Below.refl w.heap.size w)
 have H : ((bN.f a0_0 a0_1 a0_2).bind fun t170 => (some (t170 != 0))) = some r := h
 clear h
 obtain ⟨t170, A2, H⟩ := Option.bind_eq_some_iff.mp H
 replace A2 := mk_ A2
 obtain rfl := Option.some.inj H
 go_enter Tryz.func97, Tryz.ntmps97
 go_wp2_with (first | ((with_reducible refine aQ (N := 1) rfl ?_); refine aN ?hg (N := 1) ?hd (cs := #[.int .i64 a0_0, .int .i64 a0_1, .string a0_2]) (t := 102) ?hr ?_; (case hd => rfl); (case hg => rfl); (case hr => first | (go_simp; done) | (go_simp; rfl)); intro gb169 hg w3 hbox hb; have n0_ := mk_ (aC (Short.hB HB) hb); have n1_ := mk_ (hbox); have n2_ := mk_ ((by rw [hg]; exact (aA (Short.hB HB)) : w.heap.size ≤ gb169)); have n3_ := mk_ ((by rw [hg]; exact (aA (Short.hB HB)) : w.heap.size ≤ gb169)); clear HB; revert n0_ n1_ n2_ n3_; intro HB BK169 GW169 GE169; clear hb hbox hg; obtain ⟨hcz_0, hcz_1, hcz_2, hfz_0, hfz_1, hfz_2⟩ := Short.c3 BK169.out) | ((with_reducible refine aE (f := 98) rfl ?_); refine Short.gL (some 4) Tryz.func98 #[.agg #[.int .i64 a0_0, .int .i64 a0_1, .string a0_2]] (h := ?_); (with_reducible refine (bN.calls a0_0 a0_1 a0_2 t170 _ A2.out).mono ?_); rintro e w5 ⟨rfl, hb⟩; refine ⟨_, rfl, ?_⟩; have n0_ := mk_ (bB_ BK169 hb); have n1_ := mk_ (aC (Short.hB HB) hb); clear BK169 HB; revert n0_ n1_; intro BK169 HB; (try clear hb)))
 go_ret
 exact ⟨q0, Short.hB HB⟩
def bM.l0 : Nat → List (S102) → Int → Int → Option (Int)
 | 0, _, _, _ => none
 | k + 1, x0, x7, x8 => if x8 < x7 then (if 0 ≤ x8 then (if x8 < (x0.length : Int) then ((gR.f ((aK x0 x8).f0) ((aK x0 x8).f1) ((aK x0 x8).f2)).bind fun t172 => (if t172 = true then (some x8) else (bM.l0 k x0 x7 (wrap64 (x8 + 1))))) else (none)) else (none)) else (some (-1))
def bM.f (k : Nat) (l0 : List (S102)) (a1 : Unit) : Option (Int) := bM.l0 k l0 (l0.length : Int) 0
theorem bM.calls (k : Nat) (A0 : Option Addr) (c0 : Nat) (l0 : List (S102)) (a1 : Unit) (r : Int) (w : World) (hr0 : Kd.C k102 w A0 l0.length l0) (hc0 : l0.length ≤ c0) (h : bM.f k l0 a1 = some r) :
  Calls Tryz.prog 104 #[.slice A0 l0.length c0, .func (.func 97) #[] #[]] w fun e w' => e = .returned (.int .i64 r) ∧ Below w.heap.size w w' := by
 have hu102 := Tryz.underlying102
 have HR0 := mk_ hr0
 have HC0 := mk_ hc0
 clear hr0 hc0
 have HB := mk_ (Below.refl w.heap.size w)
 have H : (bM.l0 k l0 (l0.length : Int) 0) = some r := h
 clear h
 have H' := mk_ H
 clear H
 go_enter Tryz.func104, Tryz.ntmps104
 go_wp2
 go_loopg [8] k (fun kq v8 w' => ∃ (x8_1 : Int), v8 = .int .i64 x8_1 ∧ Aside0 (bM.l0 kq l0 (l0.length : Int) x8_1 = some r) ∧ Aside0 (kq ≤ k) ∧ Aside0 (Below w.heap.size w w'))
 case atStart => exact ⟨(0), z4_, H', ⟨Nat.le_refl _⟩, ⟨Short.hB HB⟩⟩
 case round =>
  clear H'
  try clear p2
  obtain ⟨x8_1, rfl, HA, HK1, HB⟩ := hrel
  cases gk with
  | zero => exact absurd HA.out (by simp [bM.l0])
  | succ k1 =>
   have H := HA.out
   clear HA
   simp only [bM.l0] at H
   by_cases c3 : x8_1 < (l0.length : Int)
   rotate_left
   ·
    rw [if_neg c3] at H
    have c3b0 : decide (x8_1 < (l0.length : Int)) = false := decide_eq_false c3
    clear c3
    obtain rfl := Option.some.inj H
    go_wp2
    go_ret
    exact ⟨q0, Short.hB HB⟩
   rw [if_pos c3] at H
   have c3b0 : decide (x8_1 < (l0.length : Int)) = true := decide_eq_true c3
   clear c3
   by_cases c4 : 0 ≤ x8_1
   rotate_left
   ·
    rw [if_neg c4] at H
    exact absurd H z6_
   rw [if_pos c4] at H
   have c4b0 : decide (0 ≤ x8_1) = true := decide_eq_true c4
   clear c4
   by_cases c5 : x8_1 < (l0.length : Int)
   rotate_left
   ·
    rw [if_neg c5] at H
    exact absurd H z6_
   rw [if_pos c5] at H
   have c5b0 : decide (x8_1 < (l0.length : Int)) = true := decide_eq_true c5
   clear c5
   obtain ⟨t172, A6, H⟩ := Option.bind_eq_some_iff.mp H
   replace A6 := mk_ A6
   by_cases c7 : t172 = true
   ·
    subst c7
    rw [if_pos rfl] at H
    obtain rfl := Option.some.inj H
    have p171 : 0 ≤ (x8_1 : Int) := of_decide_eq_true z1_
    have q171 : x8_1 < (l0.length : Int) := of_decide_eq_true z1_
    obtain ⟨ad171, e171, hx171_0, hx171_1, hx171_2⟩ := fK HR0.out x8_1 p171 q171
    cases e171
    replace hx171_0 := up_ HB hx171_0
    replace hx171_1 := up_ HB hx171_1
    replace hx171_2 := up_ HB hx171_2
    replace p171 := eq_true p171
    replace q171 := eq_true q171
    go_wp2_with (first | ((first | ((with_reducible refine aE (f := 97) rfl ?_); refine Short.gL (some 16) Tryz.func97 #[.agg #[.int .i64 ((aK l0 x8_1).f0), .int .i64 ((aK l0 x8_1).f1), .string ((aK l0 x8_1).f2)]] (h := ?_)) | ((with_reducible refine Go.Proofs.YtjnjfogfpmeacaaGreat.Steps.gate_any rfl ?_); refine Go.Proofs.YtjnjfogfpmeacaaGreat.Steps.goesV_ (some 16) rfl rfl Tryz.func97 z2_ rfl #[.agg #[.int .i64 ((aK l0 x8_1).f0), .int .i64 ((aK l0 x8_1).f1), .string ((aK l0 x8_1).f2)]] rfl (by first | rfl | go_simp) z0_ ?_)); (with_reducible refine (gR.calls ((aK l0 x8_1).f0) ((aK l0 x8_1).f1) ((aK l0 x8_1).f2) true _ A6.out).mono ?_); rintro e w8 ⟨rfl, hb⟩; refine ⟨_, rfl, ?_⟩; have n0_ := mk_ (aC (Short.hB HB) hb); clear HB; revert n0_; intro HB; (try clear hb)))
    go_ret
    exact ⟨q0, Short.hB HB⟩
   replace c7 := Bool.eq_false_iff.mpr c7
   subst c7
   rw [if_neg (show ¬ (false = true) by decide)] at H
   have H' := mk_ H
   clear H
   have p171 : 0 ≤ (x8_1 : Int) := of_decide_eq_true z1_
   have q171 : x8_1 < (l0.length : Int) := of_decide_eq_true z1_
   obtain ⟨ad171, e171, hx171_0, hx171_1, hx171_2⟩ := fK HR0.out x8_1 p171 q171
   cases e171
   replace hx171_0 := up_ HB hx171_0
   replace hx171_1 := up_ HB hx171_1
   replace hx171_2 := up_ HB hx171_2
   replace p171 := eq_true p171
   replace q171 := eq_true q171
   go_wp2_with (first | ((first | ((with_reducible refine aE (f := 97) rfl ?_); refine Short.gL (some 16) Tryz.func97 #[.agg #[.int .i64 ((aK l0 x8_1).f0), .int .i64 ((aK l0 x8_1).f1), .string ((aK l0 x8_1).f2)]] (h := ?_)) | ((with_reducible refine Go.Proofs.YtjnjfogfpmeacaaGreat.Steps.gate_any rfl ?_); refine Go.Proofs.YtjnjfogfpmeacaaGreat.Steps.goesV_ (some 16) rfl rfl Tryz.func97 z2_ rfl #[.agg #[.int .i64 ((aK l0 x8_1).f0), .int .i64 ((aK l0 x8_1).f1), .string ((aK l0 x8_1).f2)]] rfl (by first | rfl | go_simp) z0_ ?_)); (with_reducible refine (gR.calls ((aK l0 x8_1).f0) ((aK l0 x8_1).f1) ((aK l0 x8_1).f2) false _ A6.out).mono ?_); rintro e w9 ⟨rfl, hb⟩; refine ⟨_, rfl, ?_⟩; have n0_ := mk_ (aC (Short.hB HB) hb); clear HB; revert n0_; intro HB; (try clear hb)))
   go_roundg k1
   case measure => have := HK1.out; omega
   case rel => exact ⟨(wrap64 (x8_1 + 1)), z4_, H', ⟨by have := HK1.out; omega⟩, ⟨Short.hB HB⟩⟩
def cR.f (k : Nat) (l0 : List (S102)) (a1 : Unit) : Option (Bool) := (bM.f k l0 a1).bind fun t173 => (some (decide (t173 ≥ 0)))
theorem cR.calls (k : Nat) (A0 : Option Addr) (c0 : Nat) (l0 : List (S102)) (a1 : Unit) (r : Bool) (w : World) (hr0 : Kd.C k102 w A0 l0.length l0) (hc0 : l0.length ≤ c0) (h : cR.f k l0 a1 = some r) :
  Calls Tryz.prog 86 #[.slice A0 l0.length c0, .func (.func 97) #[] #[]] w fun e w' => e = .returned (.bool r) ∧ Below w.heap.size w w' := by
 have HR0 := mk_ hr0
 have HC0 := mk_ hc0
 clear hr0 hc0
 have HB := mk_ (Below.refl w.heap.size w)
 have H : ((bM.f k l0 a1).bind fun t173 => (some (decide (t173 ≥ 0)))) = some r := h
 clear h
 obtain ⟨t173, A3, H⟩ := Option.bind_eq_some_iff.mp H
 replace A3 := mk_ A3
 obtain rfl := Option.some.inj H
 go_enter Tryz.func86, Tryz.ntmps86
 go_wp2_with (first | ((first | ((with_reducible refine aE (f := 104) rfl ?_); refine Short.gL (some 7) Tryz.func104 #[.slice A0 l0.length c0, .func (.func 97) #[] #[]] (h := ?_)) | ((with_reducible refine Go.Proofs.YtjnjfogfpmeacaaGreat.Steps.gate_any rfl ?_); refine Go.Proofs.YtjnjfogfpmeacaaGreat.Steps.goesV_ (some 7) rfl rfl Tryz.func104 z2_ rfl #[.slice A0 l0.length c0, .func (.func 97) #[] #[]] rfl (by first | rfl | go_simp) z0_ ?_)); (with_reducible refine (bM.calls k _ _ l0 a1 t173 _ ?side1 ?side2 A3.out).mono ?_); (case side1 => repeat (first | exact HR0.out | (with_reducible refine C_alloc ?_ _) | (with_reducible refine C_drewN ?_ _) | (with_reducible refine C_drew ?_))); (case side2 => exact HC0.out); rintro e w4 ⟨rfl, hb⟩; refine ⟨_, rfl, ?_⟩; have n0_ := mk_ (aC (Short.hB HB) hb); clear HB; revert n0_; intro HB; (try clear hb)))
 go_ret
 exact ⟨q0, Short.hB HB⟩
def gI.f (k : Nat) (l0 : List (S102)) : Option (Int) := if (l0.length : Int) > 12 then (some 2) else ((cR.f k l0 ()).bind fun t174 => (if t174 = true then (some 1) else (some 0)))
theorem gI.calls (k : Nat) (A0 : Option Addr) (c0 : Nat) (l0 : List (S102)) (r : Int) (w : World) (hr0 : Kd.C k102 w A0 l0.length l0) (hc0 : l0.length ≤ c0) (h : gI.f k l0 = some r) :
  Calls Tryz.prog 81 #[.slice A0 l0.length c0] w fun e w' => e = .returned (.int .i64 r) ∧ Below w.heap.size w w' := by
 have HR0 := mk_ hr0
 have HC0 := mk_ hc0
 clear hr0 hc0
 have HB := mk_ (Below.refl w.heap.size w)
 have H : (if (l0.length : Int) > 12 then (some 2) else ((cR.f k l0 ()).bind fun t174 => (if t174 = true then (some 1) else (some 0)))) = some r := h
 clear h
 by_cases c2 : (l0.length : Int) > 12
 rotate_left
 rw [if_neg c2] at H
 have c2b0 : decide (12 < (l0.length : Int)) = false := decide_eq_false c2
 have c2b1 : decide (12 < l0.length) = false := decide_eq_false z3_
 clear c2
 obtain ⟨t174, A3, H⟩ := Option.bind_eq_some_iff.mp H
 replace A3 := mk_ A3
 by_cases c4 : t174 = true
 rotate_left
 replace c4 := Bool.eq_false_iff.mpr c4
 subst c4
 rw [if_neg (show ¬ (false = true) by decide)] at H
 obtain rfl := Option.some.inj H
 rotate_right
 subst c4
 rw [if_pos rfl] at H
 obtain rfl := Option.some.inj H
 rotate_right
 rw [if_pos c2] at H
 have c2b0 : decide (12 < (l0.length : Int)) = true := decide_eq_true c2
 have c2b1 : decide (12 < l0.length) = true := decide_eq_true z3_
 clear c2
 obtain rfl := Option.some.inj H
 all_goals
  go_enter Tryz.func81, Tryz.ntmps81
  go_wp2_with (((with_reducible refine aE (f := 86) rfl ?_); refine Short.gL (some 9) Tryz.func86 #[.slice A0 l0.length c0, .func (.func 97) #[] #[]] (h := ?_); (with_reducible refine (cR.calls k _ _ l0 () _ _ ?side1 ?side2 A3.out).mono ?_); (case side1 => repeat (first | exact HR0.out | (with_reducible refine C_alloc ?_ _) | (with_reducible refine C_drewN ?_ _) | (with_reducible refine C_drew ?_))); (case side2 => exact HC0.out); rintro e w_9 ⟨rfl, hb⟩; refine ⟨_, rfl, ?_⟩; have n0_ := mk_ (aC (Short.hB HB) hb); clear HB; revert n0_; intro HB; (try clear hb)))
  go_ret
  exact ⟨q0, Short.hB HB⟩
def dG.j0 : Nat → List Int → Int → Bool → Option (List Int × Int)
 | 0, _, _, _ => none
 | k + 1, x0, x1, x12 => if x12 = true then (some (([] : List Int), 1)) else (if x1 < 0 then ((cA.f x0).bind fun t175 => (if t175.length < 140737488355328 then ((dJ.f k (t175 ++ [1]) (wrap64 (-x1)) 8).bind fun t181 => (some (t181, 0))) else (none))) else ((cA.f x0).bind fun t184 => (if t184.length < 140737488355328 then ((dJ.f k (t184 ++ [0]) x1 8).bind fun t190 => (some (t190, 0))) else (none))))
def dG.f (k : Nat) (l0 : List Int) (a1 : Int) : Option (List Int × Int) := if a1 < (-1152921504606846976) then (dG.j0 k l0 a1 true) else (dG.j0 k l0 a1 (decide (a1 > 1152921504606846976)))
theorem dG.calls (k : Nat) (A0 : Option Addr) (c0 : Nat) (l0 : List Int) (a1 : Int) (r1 : List Int) (r2 : Int) (w : World) (hr0 : Kd.C (Kd.int .u8) w A0 l0.length l0) (hc0 : l0.length ≤ c0) (h : dG.f k l0 a1 = some (r1, r2)) :
  Calls Tryz.prog 99 #[.slice A0 l0.length c0, .int .i64 a1] w fun e w' => ∃ v0_ : Value, e = .returned (.tuple #[v0_, .int .i64 r2]) ∧ Kd.R (Kd.int .u8) 5 w' w.heap.size (fun _ => True) v0_ r1 ∧ Below w.heap.size w w' := by
 have HR0 := mk_ hr0
 have HC0 := mk_ hc0
 clear hr0 hc0
 have HB := mk_ (Below.refl w.heap.size w)
 have H : (if a1 < (-1152921504606846976) then (dG.j0 k l0 a1 true) else (dG.j0 k l0 a1 (decide (a1 > 1152921504606846976)))) = some (r1, r2) := h
 clear h
 have HC3 := mk_ H
 clear H
 go_enter Tryz.func99, Tryz.ntmps99
 go_upto_region 1 with (fail)
 go_cut [12] (fun v12 wc => ∃ (kq : Nat) (x12_2 : Bool), v12 = .bool x12_2 ∧ Aside0 (dG.j0 kq l0 a1 x12_2 = some (r1, r2)) ∧ Aside0 (kq ≤ k) ∧ Aside0 (Below w.heap.size w wc))
 case first =>
  have H := HC3.out
  clear HC3
  by_cases c4 : a1 < (-1152921504606846976)
  ·
   rw [if_pos c4] at H
   have c4b0 : decide (a1 < (-1152921504606846976)) = true := decide_eq_true c4
   clear c4
   (first | rw [c4b0] | (simp only [i64_w, i32_w]; rw [c4b0]) | skip)
   have H' := mk_ H
   clear H
   go_wp2
   go_meet
   case rel => exact ⟨_, (true), z4_, H', ⟨by first | omega | exact Nat.le_refl _⟩, ⟨Short.hB HB⟩⟩
  rw [if_neg c4] at H
  have c4b0 : decide (a1 < (-1152921504606846976)) = false := decide_eq_false c4
  clear c4
  (first | rw [c4b0] | (simp only [i64_w, i32_w]; rw [c4b0]) | skip)
  have H' := mk_ H
  clear H
  go_wp2
  go_meet
  case rel => exact ⟨_, (decide (a1 > 1152921504606846976)), z4_, H', ⟨by first | omega | exact Nat.le_refl _⟩, ⟨Short.hB HB⟩⟩
 case rest => as_aux_lemma =>
  clear HC3
  try clear p2
  try clear c4
  try clear c4b0
  obtain ⟨kq, x12_2, rfl, HA, HJ2, HB⟩ := hcut
  cases kq with
  | zero => exact absurd HA.out (by simp [dG.j0])
  | succ kj2 =>
   have H := HA.out
   clear HA
   simp only [dG.j0] at H
   by_cases c5 : x12_2 = true
   ·
    subst c5
    rw [if_pos rfl] at H
    simp only [Option.some.injEq, Prod.mk.injEq] at H
    obtain ⟨rfl, rfl⟩ := H
    go_wp2
    go_ret2
    exact ⟨_, by first | rfl | (simp [aZ, aY] <;> rfl) | (simp [*, aZ, aY] <;> rfl), by first | exact R_nil _ _ _ _ _ | exact N_nil _ _ _ _ _ | exact V_nil _ _ _ _ _ | exact Q_nil _ _ _ _ _ | exact S_nil _ _ _ _ _, Short.hB HB⟩
   ·
    replace c5 := Bool.eq_false_iff.mpr c5
    subst c5
    rw [if_neg (show ¬ (false = true) by decide)] at H
    by_cases c6 : a1 < 0
    ·
     rw [if_pos c6] at H
     have c6b0 : decide (a1 < 0) = true := decide_eq_true c6
     clear c6
     obtain ⟨t175, A7, H⟩ := Option.bind_eq_some_iff.mp H
     replace A7 := mk_ A7
     by_cases c8 : t175.length < 140737488355328
     ·
      rw [if_pos c8] at H
      have LMc8 := mk_ c8
      clear c8
      obtain ⟨y178, hy178⟩ : ∃ y_ : List Int, y_ = (t175 ++ [1]) := ⟨_, rfl⟩
      replace H : ((dJ.f kj2 y178 (wrap64 (-a1)) 8).bind fun t181 => (some (t181, 0))) = some (r1, r2) := by first | (rw [hy178]; with_reducible exact H) | (have H2_ := (Option.bind_some _ _).symm.trans H; rw [hy178]; with_reducible exact H2_) | (have H2_ := (Option.bind_some _ _).symm.trans H; with_reducible exact H2_) | with_reducible exact H | (rw [hy178]; exact H) | exact H
      have Ny178 := mk_ hy178
      clear hy178
      obtain ⟨t181, A9, H⟩ := Option.bind_eq_some_iff.mp H
      replace A9 := mk_ A9
      simp only [Option.some.injEq, Prod.mk.injEq] at H
      obtain ⟨rfl, rfl⟩ := H
      go_wp2_with (first | ((with_reducible refine aE (f := 96) rfl ?_); refine Short.gL (some 18) Tryz.func96 #[.slice A0 l0.length c0] (h := ?_); (with_reducible refine (cA.calls _ _ l0 t175 _ ?side1 ?side2 A7.out).mono ?_); (case side1 => exact cX_ (aU HR0.out HB.out)); (case side2 => exact HC0.out); rintro e w10 ⟨v176, rfl, ho0, hb⟩; refine ⟨_, rfl, ?_⟩; have n0_ := mk_ (bW ho0 (aA (Short.hB HB))); have n1_ := mk_ (aC (Short.hB HB) hb); clear HB; revert n0_ n1_; intro HO177 HB; (try clear hb ho0)) | ((with_reducible refine cK (b := .append) (xs := #[.tmp 18, .tmp 20]) rfl ?_); at_builtin; refine fU (Kd.int .u8) (w0 := w) w.heap.size rfl (.tmp 18) (.tmp 20) 36 5 (.int .u8 0) 1 rfl Tryz.underlying36 info5 rfl z5_ z3_ v176 t175 1 [.int .u8 1] (fun _ => True) (fun _ => False) rfl rfl ?aP (fun _ hk => hk.elim) ?aF ?aO ?aB ?aS ?aL ?_; (case aP => exact rfl); (case aB => exact (Short.hB HB)); (case aF => exact (fun _ _ => trivial)); (case aO => exact (ZKR HO177)); (case aS => exact (aA (Short.hB HB))); (case aL => have := LMc8.out; omega); intro v179 w11 ho hb hg hat; rw [← Ny178.out] at ho; have n0_ := mk_ (hb); have n1_ := mk_ (ho); clear HB HO177; revert n0_ n1_; intro HB HO180; clear ho hb hg hat; obtain ⟨Ao12, co12, eo12⟩ := cU HO180.out; subst eo12) | ((with_reducible refine aE (f := 95) rfl ?_); refine Short.gL (some 23) Tryz.func95 #[.slice Ao12 y178.length co12, .int .i64 (wrap64 (-a1)), .int .i64 8] (h := ?_); (with_reducible refine (dJ.calls kj2 _ _ y178 (wrap64 (-a1)) 8 t181 _ ?side1 ?side2 A9.out).mono ?_); (case side1 => exact cX_ (R_reads' HO180.out).2.2); (case side2 => exact (R_reads' HO180.out).2.1); rintro e w13 ⟨v182, rfl, ho0, hb⟩; refine ⟨_, rfl, ?_⟩; have n0_ := mk_ (R_elder' (ZKR HO180) (R_base ho0) hb); have n1_ := mk_ (bW (R_new' ho0 (R_lt (ZKR HO180))) (aA (Short.hB HB))); have n2_ := mk_ (aC (Short.hB HB) hb); clear HO180 HB; revert n0_ n1_ n2_; intro HO180 HO183 HB; (try clear hb ho0)))
      go_ret2
      exact ⟨_, by first | rfl | (simp [aZ, aY] <;> rfl) | (simp [*, aZ, aY] <;> rfl), by (with_reducible repeat (first | apply R_alloc | apply R_drewN | apply R_drew)); exact R_mono HO183.out (fun _ hk => trivial), Short.hB HB⟩
     ·
      rw [if_neg c8] at H
      exact absurd H z6_
    ·
     rw [if_neg c6] at H
     have c6b0 : decide (a1 < 0) = false := decide_eq_false c6
     clear c6
     obtain ⟨t184, A14, H⟩ := Option.bind_eq_some_iff.mp H
     replace A14 := mk_ A14
     by_cases c15 : t184.length < 140737488355328
     ·
      rw [if_pos c15] at H
      have LMc15 := mk_ c15
      clear c15
      obtain ⟨y187, hy187⟩ : ∃ y_ : List Int, y_ = (t184 ++ [0]) := ⟨_, rfl⟩
      replace H : ((dJ.f kj2 y187 a1 8).bind fun t190 => (some (t190, 0))) = some (r1, r2) := by first | (rw [hy187]; with_reducible exact H) | (have H2_ := (Option.bind_some _ _).symm.trans H; rw [hy187]; with_reducible exact H2_) | (have H2_ := (Option.bind_some _ _).symm.trans H; with_reducible exact H2_) | with_reducible exact H | (rw [hy187]; exact H) | exact H
      have Ny187 := mk_ hy187
      clear hy187
      obtain ⟨t190, A16, H⟩ := Option.bind_eq_some_iff.mp H
      replace A16 := mk_ A16
      simp only [Option.some.injEq, Prod.mk.injEq] at H
      obtain ⟨rfl, rfl⟩ := H
      go_wp2_with (first | ((with_reducible refine aE (f := 96) rfl ?_); refine Short.gL (some 18) Tryz.func96 #[.slice A0 l0.length c0] (h := ?_); (with_reducible refine (cA.calls _ _ l0 t184 _ ?side1 ?side2 A14.out).mono ?_); (case side1 => exact cX_ (aU HR0.out HB.out)); (case side2 => exact HC0.out); rintro e w17 ⟨v185, rfl, ho0, hb⟩; refine ⟨_, rfl, ?_⟩; have n0_ := mk_ (bW ho0 (aA (Short.hB HB))); have n1_ := mk_ (aC (Short.hB HB) hb); clear HB; revert n0_ n1_; intro HO186 HB; (try clear hb ho0)) | ((with_reducible refine cK (b := .append) (xs := #[.tmp 18, .tmp 20]) rfl ?_); at_builtin; refine fU (Kd.int .u8) (w0 := w) w.heap.size rfl (.tmp 18) (.tmp 20) 36 5 (.int .u8 0) 1 rfl Tryz.underlying36 info5 rfl z5_ z3_ v185 t184 0 [.int .u8 0] (fun _ => True) (fun _ => False) rfl rfl ?aP (fun _ hk => hk.elim) ?aF ?aO ?aB ?aS ?aL ?_; (case aP => exact rfl); (case aB => exact (Short.hB HB)); (case aF => exact (fun _ _ => trivial)); (case aO => exact (ZKR HO186)); (case aS => exact (aA (Short.hB HB))); (case aL => have := LMc15.out; omega); intro v188 w18 ho hb hg hat; rw [← Ny187.out] at ho; have n0_ := mk_ (hb); have n1_ := mk_ (ho); clear HB HO186; revert n0_ n1_; intro HB HO189; clear ho hb hg hat; obtain ⟨Ao19, co19, eo19⟩ := cU HO189.out; subst eo19) | ((with_reducible refine aE (f := 95) rfl ?_); refine Short.gL (some 23) Tryz.func95 #[.slice Ao19 y187.length co19, .int .i64 a1, .int .i64 8] (h := ?_); (with_reducible refine (dJ.calls kj2 _ _ y187 a1 8 t190 _ ?side1 ?side2 A16.out).mono ?_); (case side1 => exact cX_ (R_reads' HO189.out).2.2); (case side2 => exact (R_reads' HO189.out).2.1); rintro e w20 ⟨v191, rfl, ho0, hb⟩; refine ⟨_, rfl, ?_⟩; have n0_ := mk_ (R_elder' (ZKR HO189) (R_base ho0) hb); have n1_ := mk_ (bW (R_new' ho0 (R_lt (ZKR HO189))) (aA (Short.hB HB))); have n2_ := mk_ (aC (Short.hB HB) hb); clear HO189 HB; revert n0_ n1_ n2_; intro HO189 HO192 HB; (try clear hb ho0)))
      go_ret2
      exact ⟨_, by first | rfl | (simp [aZ, aY] <;> rfl) | (simp [*, aZ, aY] <;> rfl), by (with_reducible repeat (first | apply R_alloc | apply R_drewN | apply R_drew)); exact R_mono HO192.out (fun _ hk => trivial), Short.hB HB⟩
     ·
      rw [if_neg c15] at H
      exact absurd H z6_
def gJ.f (k : Nat) (a0_0 : Int) (a0_1 : Int) (a0_2 : ByteArray) : Option (List Int × Int) := (bN.f a0_0 a0_1 a0_2).bind fun t194 => (if t194 = 0 then ((some (([(a0_0) % 256] : List Int) : List Int)).bind fun y195 => (if a0_0 = 2 then (if y195.length < 140737488355328 then (some ((y195 ++ [(a0_1) % 256]), 0)) else (none)) else (if a0_0 = 3 then ((dG.f k y195 a0_1).bind fun bt201 => (some (bt201.1, bt201.2))) else (if a0_0 = 4 then ((wire_PutText.f y195 a0_2).bind fun bt205 => (some (bt205.1, bt205.2))) else (some (y195, 0)))))) else (some (([] : List Int), t194)))
theorem gJ.calls (k : Nat) (a0_0 : Int) (a0_1 : Int) (a0_2 : ByteArray) (r1 : List Int) (r2 : Int) (w : World) (h : gJ.f k a0_0 a0_1 a0_2 = some (r1, r2)) :
  Calls Tryz.prog 82 #[.agg #[.int .i64 a0_0, .int .i64 a0_1, .string a0_2]] w fun e w' => ∃ v0_ : Value, e = .returned (.tuple #[v0_, .int .i64 r2]) ∧ Kd.R (Kd.int .u8) 5 w' w.heap.size (fun _ => True) v0_ r1 ∧ Below w.heap.size w w' := by
 have hu102 := Tryz.underlying102
 have HB := mk_ (Below.refl w.heap.size w)
 have H : ((bN.f a0_0 a0_1 a0_2).bind fun t194 => (if t194 = 0 then ((some (([(a0_0) % 256] : List Int) : List Int)).bind fun y195 => (if a0_0 = 2 then (if y195.length < 140737488355328 then (some ((y195 ++ [(a0_1) % 256]), 0)) else (none)) else (if a0_0 = 3 then ((dG.f k y195 a0_1).bind fun bt201 => (some (bt201.1, bt201.2))) else (if a0_0 = 4 then ((wire_PutText.f y195 a0_2).bind fun bt205 => (some (bt205.1, bt205.2))) else (some (y195, 0)))))) else (some (([] : List Int), t194)))) = some (r1, r2) := h
 clear h
 obtain ⟨t194, A2, H⟩ := Option.bind_eq_some_iff.mp H
 replace A2 := mk_ A2
 by_cases c3 : t194 = 0
 rotate_left
 ·
  rw [if_neg c3] at H
  have c3b0 : (t194 == 0) = false := beq_eq_false_iff_ne.mpr c3
  have c3b1 : (t194 != 0) = true := bne_iff_ne.mpr c3
  simp only [Option.some.injEq, Prod.mk.injEq] at H
  obtain ⟨rfl, rfl⟩ := H
  go_enter Tryz.func82, Tryz.ntmps82
  go_wp2_with (first | ((with_reducible refine aQ (N := 1) rfl ?_); refine aN ?hg (N := 1) ?hd (cs := #[.int .i64 a0_0, .int .i64 a0_1, .string a0_2]) (t := 102) ?hr ?_; (case hd => rfl); (case hg => rfl); (case hr => first | (go_simp; done) | (go_simp; rfl)); intro gb193 hg w43 hbox hb; have n0_ := mk_ (aC (Short.hB HB) hb); have n1_ := mk_ (hbox); have n2_ := mk_ ((by rw [hg]; exact (aA (Short.hB HB)) : w.heap.size ≤ gb193)); have n3_ := mk_ ((by rw [hg]; exact (aA (Short.hB HB)) : w.heap.size ≤ gb193)); clear HB; revert n0_ n1_ n2_ n3_; intro HB BK193 GW193 GE193; clear hb hbox hg; obtain ⟨hcz_0, hcz_1, hcz_2, hfz_0, hfz_1, hfz_2⟩ := Short.c3 BK193.out) | ((with_reducible refine aE (f := 98) rfl ?_); refine Short.gL (some 7) Tryz.func98 #[.agg #[.int .i64 a0_0, .int .i64 a0_1, .string a0_2]] (h := ?_); (with_reducible refine (bN.calls a0_0 a0_1 a0_2 t194 _ A2.out).mono ?_); rintro e w45 ⟨rfl, hb⟩; refine ⟨_, rfl, ?_⟩; have n0_ := mk_ (bB_ BK193 hb); have n1_ := mk_ (aC (Short.hB HB) hb); clear BK193 HB; revert n0_ n1_; intro BK193 HB; (try clear hb)))
  go_ret2
  exact ⟨_, by first | rfl | (simp [aZ, aY] <;> rfl) | (simp [*, aZ, aY] <;> rfl), by first | exact R_nil _ _ _ _ _ | exact N_nil _ _ _ _ _ | exact V_nil _ _ _ _ _ | exact Q_nil _ _ _ _ _ | exact S_nil _ _ _ _ _, Short.hB HB⟩
 rw [if_pos c3] at H
 have c3b0 : (t194 == 0) = true := beq_iff_eq.mpr c3
 have c3b1 : (t194 != 0) = false := bne_eq_false_iff_eq.mpr c3
 clear c3
 obtain ⟨y195, hy195⟩ : ∃ y_ : List Int, y_ = (([(a0_0) % 256] : List Int)) := ⟨_, rfl⟩
 replace H : (if a0_0 = 2 then (if y195.length < 140737488355328 then (some ((y195 ++ [(a0_1) % 256]), 0)) else (none)) else (if a0_0 = 3 then ((dG.f k y195 a0_1).bind fun bt201 => (some (bt201.1, bt201.2))) else (if a0_0 = 4 then ((wire_PutText.f y195 a0_2).bind fun bt205 => (some (bt205.1, bt205.2))) else (some (y195, 0))))) = some (r1, r2) := by first | (rw [hy195]; with_reducible exact H) | (have H2_ := (Option.bind_some _ _).symm.trans H; rw [hy195]; with_reducible exact H2_) | (have H2_ := (Option.bind_some _ _).symm.trans H; with_reducible exact H2_) | with_reducible exact H | (rw [hy195]; exact H) | exact H
 have Ny195 := mk_ hy195
 clear hy195
 by_cases c4 : a0_0 = 2
 ·
  rw [if_pos c4] at H
  have c4b0 : (a0_0 == 2) = true := beq_iff_eq.mpr c4
  have c4b1 : (a0_0 != 2) = false := bne_eq_false_iff_eq.mpr c4
  clear c4
  by_cases c5 : y195.length < 140737488355328
  rotate_left
  ·
   rw [if_neg c5] at H
   exact absurd H z6_
  rw [if_pos c5] at H
  have LMc5 := mk_ c5
  clear c5
  obtain ⟨y198, hy198⟩ : ∃ y_ : List Int, y_ = (y195 ++ [(a0_1) % 256]) := ⟨_, rfl⟩
  replace H : (some (y198, 0)) = some (r1, r2) := by first | (rw [hy198]; with_reducible exact H) | (have H2_ := (Option.bind_some _ _).symm.trans H; rw [hy198]; with_reducible exact H2_) | (have H2_ := (Option.bind_some _ _).symm.trans H; with_reducible exact H2_) | with_reducible exact H | (rw [hy198]; exact H) | exact H
  have Ny198 := mk_ hy198
  clear hy198
  simp only [Option.some.injEq, Prod.mk.injEq] at H
  obtain ⟨rfl, rfl⟩ := H
  go_enter Tryz.func82, Tryz.ntmps82
  go_wp2_with (first | ((with_reducible refine aQ (N := 1) rfl ?_); refine aN ?hg (N := 1) ?hd (cs := #[.int .i64 a0_0, .int .i64 a0_1, .string a0_2]) (t := 102) ?hr ?_; (case hd => rfl); (case hg => rfl); (case hr => first | (go_simp; done) | (go_simp; rfl)); intro gb193 hg w6 hbox hb; have n0_ := mk_ (aC (Short.hB HB) hb); have n1_ := mk_ (hbox); have n2_ := mk_ ((by rw [hg]; exact (aA (Short.hB HB)) : w.heap.size ≤ gb193)); have n3_ := mk_ ((by rw [hg]; exact (aA (Short.hB HB)) : w.heap.size ≤ gb193)); clear HB; revert n0_ n1_ n2_ n3_; intro HB BK193 GW193 GE193; clear hb hbox hg; obtain ⟨hcz_0, hcz_1, hcz_2, hfz_0, hfz_1, hfz_2⟩ := Short.c3 BK193.out) | ((with_reducible refine aE (f := 98) rfl ?_); refine Short.gL (some 7) Tryz.func98 #[.agg #[.int .i64 a0_0, .int .i64 a0_1, .string a0_2]] (h := ?_); (with_reducible refine (bN.calls a0_0 a0_1 a0_2 t194 _ A2.out).mono ?_); rintro e w8 ⟨rfl, hb⟩; refine ⟨_, rfl, ?_⟩; have n0_ := mk_ (bB_ BK193 hb); have n1_ := mk_ (aC (Short.hB HB) hb); clear BK193 HB; revert n0_ n1_; intro BK193 HB; (try clear hb); obtain ⟨hcz_0, hcz_1, hcz_2, hfz_0, hfz_1, hfz_2⟩ := Short.c3 BK193.out) | ((with_reducible refine aQ (N := 14) rfl ?_); refine R_lit (Kd.int .u8) _ 5 ?hg (N := 14) ?hd (xs := ([(a0_0) % 256] : List Int)) (inner := [.int .u8 ((a0_0) % 256)]) (ok := fun _ => True) (okp := fun _ => True) ?hr ?hp (fun _ hk => hk) trivial (Below.refl _ _) (Nat.le_refl _) z6_ ?_; (case hd => rfl); (case hg => rfl); (case hr => first | (go_simp; done) | (go_simp; rfl)); (case hp => exact (Reps.one (show Kd.M (Kd.int .u8) _ _ _ ((a0_0) % 256) [.int .u8 ((a0_0) % 256)] from rfl) (Reps.none _ _))); intro v196 w10 ho11 hb hg_ hnew_; clear hg_ hnew_; (first | rw [← Ny195.out] at ho11 | (simp only [Int.reduceToNat] at ho11; rw [← Ny195.out] at ho11)); have n0_ := mk_ (bW ho11 (aA (Short.hB HB))); have n1_ := mk_ (bB_ BK193 hb); have n2_ := mk_ (aC (Short.hB HB) hb); clear BK193 HB; revert n0_ n1_ n2_; intro HO197 BK193 HB; clear hb ho11; obtain ⟨hcz_0, hcz_1, hcz_2, hfz_0, hfz_1, hfz_2⟩ := Short.c3 BK193.out) | ((with_reducible refine cK (b := .append) (xs := #[.tmp 19, .tmp 23]) rfl ?_); at_builtin; refine fU (Kd.int .u8) (w0 := w) w.heap.size rfl (.tmp 19) (.tmp 23) 36 5 (.int .u8 0) 1 rfl Tryz.underlying36 info5 rfl z5_ z3_ v196 y195 ((a0_1) % 256) [.int .u8 ((a0_1) % 256)] (fun _ => True) (fun _ => False) rfl rfl ?aP (fun _ hk => hk.elim) ?aF ?aO ?aB ?aS ?aL ?_; (case aP => exact rfl); (case aB => exact (Short.hB HB)); (case aF => exact (fun _ _ => trivial)); (case aO => exact (ZKR HO197)); (case aS => exact (aA (Short.hB HB))); (case aL => have := LMc5.out; omega); intro v199 w13 ho hb hg hat; rw [← Ny198.out] at ho; have n0_ := mk_ (dH (g := gb193) (o := .cells #[.int .i64 a0_0, .int .i64 a0_1, .string a0_2] 102 (0, 0)) (Short.bK BK193) hg (R_ne HO197.out BK193.out z5_)); have n1_ := mk_ (hb); have n2_ := mk_ (ho); clear BK193 HB HO197; revert n0_ n1_ n2_; intro BK193 HB HO200; clear ho hb hg hat))
  go_ret2
  exact ⟨_, by first | rfl | (simp [aZ, aY] <;> rfl) | (simp [*, aZ, aY] <;> rfl), by (with_reducible repeat (first | apply R_alloc | apply R_drewN | apply R_drew)); exact HO200.out, Short.hB HB⟩
 rw [if_neg c4] at H
 have c4b0 : (a0_0 == 2) = false := beq_eq_false_iff_ne.mpr c4
 have c4b1 : (a0_0 != 2) = true := bne_iff_ne.mpr c4
 by_cases c14 : a0_0 = 3
 ·
  rw [if_pos c14] at H
  have c14b0 : (a0_0 == 3) = true := beq_iff_eq.mpr c14
  have c14b1 : (a0_0 != 3) = false := bne_eq_false_iff_eq.mpr c14
  clear c14
  obtain ⟨⟨t201, t202⟩, A15, H⟩ := Option.bind_eq_some_iff.mp H
  try dsimp only at H
  replace A15 := mk_ A15
  simp only [Option.some.injEq, Prod.mk.injEq] at H
  obtain ⟨rfl, rfl⟩ := H
  go_enter Tryz.func82, Tryz.ntmps82
  go_wp2_with (first | ((with_reducible refine aQ (N := 1) rfl ?_); refine aN ?hg (N := 1) ?hd (cs := #[.int .i64 a0_0, .int .i64 a0_1, .string a0_2]) (t := 102) ?hr ?_; (case hd => rfl); (case hg => rfl); (case hr => first | (go_simp; done) | (go_simp; rfl)); intro gb193 hg w16 hbox hb; have n0_ := mk_ (aC (Short.hB HB) hb); have n1_ := mk_ (hbox); have n2_ := mk_ ((by rw [hg]; exact (aA (Short.hB HB)) : w.heap.size ≤ gb193)); have n3_ := mk_ ((by rw [hg]; exact (aA (Short.hB HB)) : w.heap.size ≤ gb193)); clear HB; revert n0_ n1_ n2_ n3_; intro HB BK193 GW193 GE193; clear hb hbox hg; obtain ⟨hcz_0, hcz_1, hcz_2, hfz_0, hfz_1, hfz_2⟩ := Short.c3 BK193.out) | ((with_reducible refine aE (f := 98) rfl ?_); refine Short.gL (some 7) Tryz.func98 #[.agg #[.int .i64 a0_0, .int .i64 a0_1, .string a0_2]] (h := ?_); (with_reducible refine (bN.calls a0_0 a0_1 a0_2 t194 _ A2.out).mono ?_); rintro e w18 ⟨rfl, hb⟩; refine ⟨_, rfl, ?_⟩; have n0_ := mk_ (bB_ BK193 hb); have n1_ := mk_ (aC (Short.hB HB) hb); clear BK193 HB; revert n0_ n1_; intro BK193 HB; (try clear hb); obtain ⟨hcz_0, hcz_1, hcz_2, hfz_0, hfz_1, hfz_2⟩ := Short.c3 BK193.out) | ((with_reducible refine aQ (N := 14) rfl ?_); refine R_lit (Kd.int .u8) _ 5 ?hg (N := 14) ?hd (xs := ([(a0_0) % 256] : List Int)) (inner := [.int .u8 ((a0_0) % 256)]) (ok := fun _ => True) (okp := fun _ => True) ?hr ?hp (fun _ hk => hk) trivial (Below.refl _ _) (Nat.le_refl _) z6_ ?_; (case hd => rfl); (case hg => rfl); (case hr => first | (go_simp; done) | (go_simp; rfl)); (case hp => exact (Reps.one (show Kd.M (Kd.int .u8) _ _ _ ((a0_0) % 256) [.int .u8 ((a0_0) % 256)] from rfl) (Reps.none _ _))); intro v196 w20 ho21 hb hg_ hnew_; clear hg_ hnew_; (first | rw [← Ny195.out] at ho21 | (simp only [Int.reduceToNat] at ho21; rw [← Ny195.out] at ho21)); have n0_ := mk_ (bW ho21 (aA (Short.hB HB))); have n1_ := mk_ (bB_ BK193 hb); have n2_ := mk_ (aC (Short.hB HB) hb); clear BK193 HB; revert n0_ n1_ n2_; intro HO197 BK193 HB; clear hb ho21; obtain ⟨hcz_0, hcz_1, hcz_2, hfz_0, hfz_1, hfz_2⟩ := Short.c3 BK193.out; obtain ⟨Ao23, co23, eo23⟩ := cU HO197.out; subst eo23) | ((with_reducible refine aE (f := 99) rfl ?_); refine Short.gL (some 30) Tryz.func99 #[.slice Ao23 y195.length co23, .int .i64 a0_1] (h := ?_); (with_reducible refine (dG.calls k _ _ y195 a0_1 t201 t202 _ ?side1 ?side2 A15.out).mono ?_); (case side1 => exact cX_ (R_reads' HO197.out).2.2); (case side2 => exact (R_reads' HO197.out).2.1); rintro e w24 ⟨v203, rfl, ho0, hb⟩; refine ⟨_, rfl, ?_⟩; have n0_ := mk_ (R_elder' (ZKR HO197) (R_base ho0) hb); have n1_ := mk_ (bW (R_new' ho0 (R_lt (ZKR HO197))) (aA (Short.hB HB))); have n2_ := mk_ (bB_ BK193 hb); have n3_ := mk_ (aC (Short.hB HB) hb); clear HO197 BK193 HB; revert n0_ n1_ n2_ n3_; intro HO197 HO204 BK193 HB; (try clear hb ho0)))
  go_ret2
  exact ⟨_, by first | rfl | (simp [aZ, aY] <;> rfl) | (simp [*, aZ, aY] <;> rfl), by (with_reducible repeat (first | apply R_alloc | apply R_drewN | apply R_drew)); exact R_mono HO204.out (fun _ hk => trivial), Short.hB HB⟩
 rw [if_neg c14] at H
 have c14b0 : (a0_0 == 3) = false := beq_eq_false_iff_ne.mpr c14
 have c14b1 : (a0_0 != 3) = true := bne_iff_ne.mpr c14
 by_cases c25 : a0_0 = 4
 rotate_left
 ·
  rw [if_neg c25] at H
  have c25b0 : (a0_0 == 4) = false := beq_eq_false_iff_ne.mpr c25
  have c25b1 : (a0_0 != 4) = true := bne_iff_ne.mpr c25
  simp only [Option.some.injEq, Prod.mk.injEq] at H
  obtain ⟨rfl, rfl⟩ := H
  go_enter Tryz.func82, Tryz.ntmps82
  go_wp2_with (first | ((with_reducible refine aQ (N := 1) rfl ?_); refine aN ?hg (N := 1) ?hd (cs := #[.int .i64 a0_0, .int .i64 a0_1, .string a0_2]) (t := 102) ?hr ?_; (case hd => rfl); (case hg => rfl); (case hr => first | (go_simp; done) | (go_simp; rfl)); intro gb193 hg w36 hbox hb; have n0_ := mk_ (aC (Short.hB HB) hb); have n1_ := mk_ (hbox); have n2_ := mk_ ((by rw [hg]; exact (aA (Short.hB HB)) : w.heap.size ≤ gb193)); have n3_ := mk_ ((by rw [hg]; exact (aA (Short.hB HB)) : w.heap.size ≤ gb193)); clear HB; revert n0_ n1_ n2_ n3_; intro HB BK193 GW193 GE193; clear hb hbox hg; obtain ⟨hcz_0, hcz_1, hcz_2, hfz_0, hfz_1, hfz_2⟩ := Short.c3 BK193.out) | ((with_reducible refine aE (f := 98) rfl ?_); refine Short.gL (some 7) Tryz.func98 #[.agg #[.int .i64 a0_0, .int .i64 a0_1, .string a0_2]] (h := ?_); (with_reducible refine (bN.calls a0_0 a0_1 a0_2 t194 _ A2.out).mono ?_); rintro e w38 ⟨rfl, hb⟩; refine ⟨_, rfl, ?_⟩; have n0_ := mk_ (bB_ BK193 hb); have n1_ := mk_ (aC (Short.hB HB) hb); clear BK193 HB; revert n0_ n1_; intro BK193 HB; (try clear hb); obtain ⟨hcz_0, hcz_1, hcz_2, hfz_0, hfz_1, hfz_2⟩ := Short.c3 BK193.out) | ((with_reducible refine aQ (N := 14) rfl ?_); refine R_lit (Kd.int .u8) _ 5 ?hg (N := 14) ?hd (xs := ([(a0_0) % 256] : List Int)) (inner := [.int .u8 ((a0_0) % 256)]) (ok := fun _ => True) (okp := fun _ => True) ?hr ?hp (fun _ hk => hk) trivial (Below.refl _ _) (Nat.le_refl _) z6_ ?_; (case hd => rfl); (case hg => rfl); (case hr => first | (go_simp; done) | (go_simp; rfl)); (case hp => exact (Reps.one (show Kd.M (Kd.int .u8) _ _ _ ((a0_0) % 256) [.int .u8 ((a0_0) % 256)] from rfl) (Reps.none _ _))); intro v196 w40 ho41 hb hg_ hnew_; clear hg_ hnew_; (first | rw [← Ny195.out] at ho41 | (simp only [Int.reduceToNat] at ho41; rw [← Ny195.out] at ho41)); have n0_ := mk_ (bW ho41 (aA (Short.hB HB))); have n1_ := mk_ (bB_ BK193 hb); have n2_ := mk_ (aC (Short.hB HB) hb); clear BK193 HB; revert n0_ n1_ n2_; intro HO197 BK193 HB; clear hb ho41; obtain ⟨hcz_0, hcz_1, hcz_2, hfz_0, hfz_1, hfz_2⟩ := Short.c3 BK193.out))
  go_ret2
  exact ⟨_, by first | rfl | (simp [aZ, aY] <;> rfl) | (simp [*, aZ, aY] <;> rfl), by (with_reducible repeat (first | apply R_alloc | apply R_drewN | apply R_drew)); exact HO197.out, Short.hB HB⟩
 rw [if_pos c25] at H
 have c25b0 : (a0_0 == 4) = true := beq_iff_eq.mpr c25
 have c25b1 : (a0_0 != 4) = false := bne_eq_false_iff_eq.mpr c25
 clear c25
 obtain ⟨⟨t205, t206⟩, A26, H⟩ := Option.bind_eq_some_iff.mp H
 try dsimp only at H
 replace A26 := mk_ A26
 simp only [Option.some.injEq, Prod.mk.injEq] at H
 obtain ⟨rfl, rfl⟩ := H
 go_enter Tryz.func82, Tryz.ntmps82
 go_wp2_with (first | ((with_reducible refine aQ (N := 1) rfl ?_); refine aN ?hg (N := 1) ?hd (cs := #[.int .i64 a0_0, .int .i64 a0_1, .string a0_2]) (t := 102) ?hr ?_; (case hd => rfl); (case hg => rfl); (case hr => first | (go_simp; done) | (go_simp; rfl)); intro gb193 hg w27 hbox hb; have n0_ := mk_ (aC (Short.hB HB) hb); have n1_ := mk_ (hbox); have n2_ := mk_ ((by rw [hg]; exact (aA (Short.hB HB)) : w.heap.size ≤ gb193)); have n3_ := mk_ ((by rw [hg]; exact (aA (Short.hB HB)) : w.heap.size ≤ gb193)); clear HB; revert n0_ n1_ n2_ n3_; intro HB BK193 GW193 GE193; clear hb hbox hg; obtain ⟨hcz_0, hcz_1, hcz_2, hfz_0, hfz_1, hfz_2⟩ := Short.c3 BK193.out) | ((with_reducible refine aE (f := 98) rfl ?_); refine Short.gL (some 7) Tryz.func98 #[.agg #[.int .i64 a0_0, .int .i64 a0_1, .string a0_2]] (h := ?_); (with_reducible refine (bN.calls a0_0 a0_1 a0_2 t194 _ A2.out).mono ?_); rintro e w29 ⟨rfl, hb⟩; refine ⟨_, rfl, ?_⟩; have n0_ := mk_ (bB_ BK193 hb); have n1_ := mk_ (aC (Short.hB HB) hb); clear BK193 HB; revert n0_ n1_; intro BK193 HB; (try clear hb); obtain ⟨hcz_0, hcz_1, hcz_2, hfz_0, hfz_1, hfz_2⟩ := Short.c3 BK193.out) | ((with_reducible refine aQ (N := 14) rfl ?_); refine R_lit (Kd.int .u8) _ 5 ?hg (N := 14) ?hd (xs := ([(a0_0) % 256] : List Int)) (inner := [.int .u8 ((a0_0) % 256)]) (ok := fun _ => True) (okp := fun _ => True) ?hr ?hp (fun _ hk => hk) trivial (Below.refl _ _) (Nat.le_refl _) z6_ ?_; (case hd => rfl); (case hg => rfl); (case hr => first | (go_simp; done) | (go_simp; rfl)); (case hp => exact (Reps.one (show Kd.M (Kd.int .u8) _ _ _ ((a0_0) % 256) [.int .u8 ((a0_0) % 256)] from rfl) (Reps.none _ _))); intro v196 w31 ho32 hb hg_ hnew_; clear hg_ hnew_; (first | rw [← Ny195.out] at ho32 | (simp only [Int.reduceToNat] at ho32; rw [← Ny195.out] at ho32)); have n0_ := mk_ (bW ho32 (aA (Short.hB HB))); have n1_ := mk_ (bB_ BK193 hb); have n2_ := mk_ (aC (Short.hB HB) hb); clear BK193 HB; revert n0_ n1_ n2_; intro HO197 BK193 HB; clear hb ho32; obtain ⟨hcz_0, hcz_1, hcz_2, hfz_0, hfz_1, hfz_2⟩ := Short.c3 BK193.out; obtain ⟨Ao34, co34, eo34⟩ := cU HO197.out; subst eo34) | ((with_reducible refine aE (f := 80) rfl ?_); refine Short.gL (some 38) Tryz.func80 #[.slice Ao34 y195.length co34, .string a0_2] (h := ?_); (with_reducible refine (wire_PutText.calls _ _ y195 a0_2 t205 t206 _ ?side1 ?side2 A26.out).mono ?_); (case side1 => exact cX_ (R_reads' HO197.out).2.2); (case side2 => exact (R_reads' HO197.out).2.1); rintro e w35 ⟨v207, rfl, ho0, hb⟩; refine ⟨_, rfl, ?_⟩; have n0_ := mk_ (R_elder' (ZKR HO197) (R_base ho0) hb); have n1_ := mk_ (bW (R_new' ho0 (R_lt (ZKR HO197))) (aA (Short.hB HB))); have n2_ := mk_ (bB_ BK193 hb); have n3_ := mk_ (aC (Short.hB HB) hb); clear HO197 BK193 HB; revert n0_ n1_ n2_ n3_; intro HO197 HO208 BK193 HB; (try clear hb ho0)))
 go_ret2
 exact ⟨_, by first | rfl | (simp [aZ, aY] <;> rfl) | (simp [*, aZ, aY] <;> rfl), by (with_reducible repeat (first | apply R_alloc | apply R_drewN | apply R_drew)); exact R_mono HO208.out (fun _ hk => trivial), Short.hB HB⟩
def row_Bytes.l0 : Nat → List Int → List (S102) → Int → Int → Option (List Int × Int)
 | 0, _, _, _, _ => none
 | k + 1, x5, x19, x20, x21 => if x21 < x20 then (if 0 ≤ x21 then (if x21 < (x19.length : Int) then ((gJ.f k ((aK x19 x21).f0) ((aK x19 x21).f1) ((aK x19 x21).f2)).bind fun bt215 => (if x5.length + bt215.1.length < 140737488355328 then (row_Bytes.l0 k (x5 ++ bt215.1) x19 x20 (wrap64 (x21 + 1))) else (none))) else (none)) else (none)) else (some (x5, 0))
def row_Bytes.f (k : Nat) (l0 : List (S102)) : Option (List Int × Int) := (gI.f k l0).bind fun t209 => (if t209 = 0 then (row_Bytes.l0 k (([((l0.length : Int)) % 256] : List Int)) l0 (l0.length : Int) 0) else (some (([] : List Int), t209)))
theorem row_Bytes.calls (k : Nat) (A0 : Option Addr) (c0 : Nat) (l0 : List (S102)) (r1 : List Int) (r2 : Int) (w : World) (hr0 : Kd.C k102 w A0 l0.length l0) (hc0 : l0.length ≤ c0) (h : row_Bytes.f k l0 = some (r1, r2)) :
  Calls Tryz.prog 56 #[.slice A0 l0.length c0] w fun e w' => ∃ v0_ : Value, e = .returned (.tuple #[v0_, .int .i64 r2]) ∧ Kd.R (Kd.int .u8) 5 w' w.heap.size (fun _ => True) v0_ r1 ∧ Below w.heap.size w w' := by
 have hu102 := Tryz.underlying102
 have HR0 := mk_ hr0
 have HC0 := mk_ hc0
 clear hr0 hc0
 have HB := mk_ (Below.refl w.heap.size w)
 have H : ((gI.f k l0).bind fun t209 => (if t209 = 0 then (row_Bytes.l0 k (([((l0.length : Int)) % 256] : List Int)) l0 (l0.length : Int) 0) else (some (([] : List Int), t209)))) = some (r1, r2) := h
 clear h
 obtain ⟨t209, A2, H⟩ := Option.bind_eq_some_iff.mp H
 replace A2 := mk_ A2
 by_cases c3 : t209 = 0
 rotate_left
 ·
  rw [if_neg c3] at H
  have c3b0 : (t209 == 0) = false := beq_eq_false_iff_ne.mpr c3
  have c3b1 : (t209 != 0) = true := bne_iff_ne.mpr c3
  simp only [Option.some.injEq, Prod.mk.injEq] at H
  obtain ⟨rfl, rfl⟩ := H
  go_enter Tryz.func56, Tryz.ntmps56
  go_wp2_with (first | ((with_reducible refine aE (f := 81) rfl ?_); refine Short.gL (some 11) Tryz.func81 #[.slice A0 l0.length c0] (h := ?_); (with_reducible refine (gI.calls k _ _ l0 t209 _ ?side1 ?side2 A2.out).mono ?_); (case side1 => repeat (first | exact HR0.out | (with_reducible refine C_alloc ?_ _) | (with_reducible refine C_drewN ?_ _) | (with_reducible refine C_drew ?_))); (case side2 => exact HC0.out); rintro e w17 ⟨rfl, hb⟩; refine ⟨_, rfl, ?_⟩; have n0_ := mk_ (aC (Short.hB HB) hb); clear HB; revert n0_; intro HB; (try clear hb)))
  go_ret2
  exact ⟨_, by first | rfl | (simp [aZ, aY] <;> rfl) | (simp [*, aZ, aY] <;> rfl), by first | exact R_nil _ _ _ _ _ | exact N_nil _ _ _ _ _ | exact V_nil _ _ _ _ _ | exact Q_nil _ _ _ _ _ | exact S_nil _ _ _ _ _, Short.hB HB⟩
 rw [if_pos c3] at H
 have c3b0 : (t209 == 0) = true := beq_iff_eq.mpr c3
 have c3b1 : (t209 != 0) = false := bne_eq_false_iff_eq.mpr c3
 clear c3
 obtain ⟨y210, hy210⟩ : ∃ y_ : List Int, y_ = (([((l0.length : Int)) % 256] : List Int)) := ⟨_, rfl⟩
 replace H : (row_Bytes.l0 k y210 l0 (l0.length : Int) 0) = some (r1, r2) := by first | (rw [hy210]; with_reducible exact H) | (have H2_ := (Option.bind_some _ _).symm.trans H; rw [hy210]; with_reducible exact H2_) | (have H2_ := (Option.bind_some _ _).symm.trans H; with_reducible exact H2_) | with_reducible exact H | (rw [hy210]; exact H) | exact H
 have Ny210 := mk_ hy210
 clear hy210
 have H' := mk_ H
 clear H
 go_enter Tryz.func56, Tryz.ntmps56
 go_wp2_with (first | ((with_reducible refine aE (f := 81) rfl ?_); refine Short.gL (some 11) Tryz.func81 #[.slice A0 l0.length c0] (h := ?_); (with_reducible refine (gI.calls k _ _ l0 t209 _ ?side1 ?side2 A2.out).mono ?_); (case side1 => repeat (first | exact HR0.out | (with_reducible refine C_alloc ?_ _) | (with_reducible refine C_drewN ?_ _) | (with_reducible refine C_drew ?_))); (case side2 => exact HC0.out); rintro e w4 ⟨rfl, hb⟩; refine ⟨_, rfl, ?_⟩; have n0_ := mk_ (aC (Short.hB HB) hb); clear HB; revert n0_; intro HB; (try clear hb)) | ((with_reducible refine aQ (N := 18) rfl ?_); refine R_lit (Kd.int .u8) _ 5 ?hg (N := 18) ?hd (xs := ([((l0.length : Int)) % 256] : List Int)) (inner := [.int .u8 (((l0.length : Int)) % 256)]) (ok := fun _ => True) (okp := fun _ => True) ?hr ?hp (fun _ hk => hk) trivial (Below.refl _ _) (Nat.le_refl _) z6_ ?_; (case hd => rfl); (case hg => rfl); (case hr => first | (go_simp; done) | (go_simp; rfl)); (case hp => exact (Reps.one (show Kd.M (Kd.int .u8) _ _ _ (((l0.length : Int)) % 256) [.int .u8 (((l0.length : Int)) % 256)] from rfl) (Reps.none _ _))); intro v211 w5 ho6 hb hg_ hnew_; clear hg_ hnew_; (first | rw [← Ny210.out] at ho6 | (simp only [Int.reduceToNat] at ho6; rw [← Ny210.out] at ho6)); have n0_ := mk_ (bW ho6 (aA (Short.hB HB))); have n1_ := mk_ (aC (Short.hB HB) hb); clear HB; revert n0_ n1_; intro HO212 HB; clear hb ho6))
 go_loopg [5, 21] k (fun kq v5 v21 w' => ∃ (x5_1 : List Int) (x21_1 : Int), v21 = .int .i64 x21_1 ∧ Aside0 (row_Bytes.l0 kq x5_1 l0 (l0.length : Int) x21_1 = some (r1, r2)) ∧ Aside0 (kq ≤ k) ∧ Aside0 (Kd.R (Kd.int .u8) 5 w' w.heap.size (fun _ => True) v5 x5_1) ∧ Aside0 (Below w.heap.size w w'))
 case atStart => exact ⟨(y210), (0), z4_, H', ⟨Nat.le_refl _⟩, ⟨by (with_reducible repeat (first | apply R_alloc | apply R_drewN | apply R_drew)); exact HO212.out⟩, ⟨Short.hB HB⟩⟩
 case round =>
  clear H'
  try clear p2
  try clear c3
  try clear c3b0
  try clear c3b1
  try clear c5
  obtain ⟨x5_1, x21_1, rfl, HA, HK1, HO_5, HB⟩ := hrel
  cases gk with
  | zero => exact absurd HA.out (by simp [row_Bytes.l0])
  | succ k1 =>
   have H := HA.out
   clear HA
   simp only [row_Bytes.l0] at H
   by_cases c7 : x21_1 < (l0.length : Int)
   rotate_left
   ·
    rw [if_neg c7] at H
    have c7b0 : decide (x21_1 < (l0.length : Int)) = false := decide_eq_false c7
    clear c7
    simp only [Option.some.injEq, Prod.mk.injEq] at H
    obtain ⟨rfl, rfl⟩ := H
    go_wp2
    go_ret2
    exact ⟨_, by first | rfl | (simp [aZ, aY] <;> rfl) | (simp [*, aZ, aY] <;> rfl), by (with_reducible repeat (first | apply R_alloc | apply R_drewN | apply R_drew)); exact HO_5.out, Short.hB HB⟩
   rw [if_pos c7] at H
   have c7b0 : decide (x21_1 < (l0.length : Int)) = true := decide_eq_true c7
   clear c7
   by_cases c8 : 0 ≤ x21_1
   rotate_left
   ·
    rw [if_neg c8] at H
    exact absurd H z6_
   rw [if_pos c8] at H
   have c8b0 : decide (0 ≤ x21_1) = true := decide_eq_true c8
   clear c8
   by_cases c9 : x21_1 < (l0.length : Int)
   rotate_left
   ·
    rw [if_neg c9] at H
    exact absurd H z6_
   rw [if_pos c9] at H
   have c9b0 : decide (x21_1 < (l0.length : Int)) = true := decide_eq_true c9
   clear c9
   obtain ⟨⟨t215, t218⟩, A10, H⟩ := Option.bind_eq_some_iff.mp H
   try dsimp only at H
   replace A10 := mk_ A10
   by_cases c11 : x5_1.length + t215.length < 140737488355328
   rotate_left
   ·
    rw [if_neg c11] at H
    exact absurd H z6_
   rw [if_pos c11] at H
   have LMc11 := mk_ c11
   clear c11
   obtain ⟨y219, hy219⟩ : ∃ y_ : List Int, y_ = (x5_1 ++ t215) := ⟨_, rfl⟩
   replace H : (row_Bytes.l0 k1 y219 l0 (l0.length : Int) (wrap64 (x21_1 + 1))) = some (r1, r2) := by first | (rw [hy219]; with_reducible exact H) | (have H2_ := (Option.bind_some _ _).symm.trans H; rw [hy219]; with_reducible exact H2_) | (have H2_ := (Option.bind_some _ _).symm.trans H; with_reducible exact H2_) | with_reducible exact H | (rw [hy219]; exact H) | exact H
   have Ny219 := mk_ hy219
   clear hy219
   have H' := mk_ H
   clear H
   have p213 : 0 ≤ (x21_1 : Int) := of_decide_eq_true z1_
   have q213 : x21_1 < (l0.length : Int) := of_decide_eq_true z1_
   obtain ⟨ad213, e213, hx213_0, hx213_1, hx213_2⟩ := fK HR0.out x21_1 p213 q213
   cases e213
   replace hx213_0 := up_ HB hx213_0
   replace hx213_1 := up_ HB hx213_1
   replace hx213_2 := up_ HB hx213_2
   replace p213 := eq_true p213
   replace q213 := eq_true q213
   go_wp2_with (first | ((with_reducible refine aQ (N := 7) rfl ?_); refine aN ?hg (N := 7) ?hd (cs := #[.int .i64 0, .int .i64 0, .string (⟨#[]⟩ : ByteArray)]) (t := 102) ?hr ?_; (case hd => rfl); (case hg => rfl); (case hr => first | (go_simp; done) | (go_simp; rfl)); intro gb214 hg w12 hbox hb; have n0_ := mk_ (bX (ZKR HO_5) hb); have n1_ := mk_ (aC (Short.hB HB) hb); have n2_ := mk_ (hbox); have n3_ := mk_ ((by rw [hg]; exact (aA (Short.hB HB)) : w.heap.size ≤ gb214)); have n4_ := mk_ ((by rw [hg]; exact (aA (Short.hB HB)) : w.heap.size ≤ gb214)); clear HO_5 HB; revert n0_ n1_ n2_ n3_ n4_; intro HO_5 HB BK214 GW214 GE214; clear hb hbox hg; obtain ⟨hcz_0, hcz_1, hcz_2, hfz_0, hfz_1, hfz_2⟩ := Short.c3 BK214.out) | ((with_reducible refine aE (f := 82) rfl ?_); refine Short.gL (some 27) Tryz.func82 #[.agg #[.int .i64 ((aK l0 x21_1).f0), .int .i64 ((aK l0 x21_1).f1), .string ((aK l0 x21_1).f2)]] (h := ?_); (with_reducible refine (gJ.calls k1 ((aK l0 x21_1).f0) ((aK l0 x21_1).f1) ((aK l0 x21_1).f2) t215 t218 _ A10.out).mono ?_); rintro e w14 ⟨v216, rfl, ho0, hb⟩; refine ⟨_, rfl, ?_⟩; have n0_ := mk_ (R_elder' (by (with_reducible repeat (first | apply R_alloc | apply R_drewN | apply R_drew)); exact (R_mono (R_far (p := ⟨gb214, 2, none⟩) (R_far (p := ⟨gb214, 1, none⟩) (R_far (p := ⟨gb214, 0, none⟩) (eS HO_5.out BK214.out z5_) (fun _ hk => hk.2) (.int .i64 ((aK l0 x21_1).f0))) (fun _ hk => hk.2) (.int .i64 ((aK l0 x21_1).f1))) (fun _ hk => hk.2) (.string ((aK l0 x21_1).f2))) (fun _ h_ => h_.1))) (R_base ho0) hb); have n1_ := mk_ (bW (R_new' ho0 (R_lt (by (with_reducible repeat (first | apply R_alloc | apply R_drewN | apply R_drew)); exact (R_mono (R_far (p := ⟨gb214, 2, none⟩) (R_far (p := ⟨gb214, 1, none⟩) (R_far (p := ⟨gb214, 0, none⟩) (eS HO_5.out BK214.out z5_) (fun _ hk => hk.2) (.int .i64 ((aK l0 x21_1).f0))) (fun _ hk => hk.2) (.int .i64 ((aK l0 x21_1).f1))) (fun _ hk => hk.2) (.string ((aK l0 x21_1).f2))) (fun _ h_ => h_.1))))) (aA (Short.hB HB))); have n2_ := mk_ (bE (g := gb214) (o := .cells #[.int .i64 ((aK l0 x21_1).f0), .int .i64 ((aK l0 x21_1).f1), .string ((aK l0 x21_1).f2)] 102 (0, 0)) (by (with_reducible repeat (first | refine aH ?_ _ | refine aI ?_ | refine aG ?_ _)); refine bA (cs := #[.int .i64 ((aK l0 x21_1).f0), .int .i64 ((aK l0 x21_1).f1), .string (⟨#[]⟩ : ByteArray)]) ?_ 2 _ rfl; (with_reducible repeat (first | refine aH ?_ _ | refine aI ?_ | refine aG ?_ _)); refine bA (cs := #[.int .i64 ((aK l0 x21_1).f0), .int .i64 0, .string (⟨#[]⟩ : ByteArray)]) ?_ 1 _ rfl; (with_reducible repeat (first | refine aH ?_ _ | refine aI ?_ | refine aG ?_ _)); refine bA (cs := #[.int .i64 0, .int .i64 0, .string (⟨#[]⟩ : ByteArray)]) ?_ 0 _ rfl; (with_reducible repeat (first | refine aH ?_ _ | refine aI ?_ | refine aG ?_ _)); exact BK214.out) hb); have n3_ := mk_ (aC (Short.hB HB) hb); clear HO_5 BK214 HB; revert n0_ n1_ n2_ n3_; intro HO_5 HO217 BK214 HB; (try clear hb ho0); obtain ⟨Ao16, co16, eo16⟩ := cU HO217.out; subst eo16) | ((with_reducible refine cK (b := .append) (xs := #[.tmp 30, .tmp 31]) rfl ?_); at_builtin; refine eF (Kd.int .u8) (w0 := w) w.heap.size rfl (.tmp 30) (.tmp 31) 36 5 (.int .u8 0) 1 rfl Tryz.underlying36 info5 rfl z5_ z3_ u5 x5_1 t215 _ _ _ (fun k_ => nb_ k_ (.slice Ao16 t215.length co16)) (fun _ => False) rfl rfl ?aO ?aR (fun _ _ h => h) (fun _ h => h.elim) ?aF ?aB ?aS ?aL ?_; (case aR => exact cX_ (R_reads' HO217.out).2.2); (case aB => exact (Short.hB HB)); (case aF => exact (fun k_ hk => Kd.fresh' (R_lt (ZKR HO217)) k_ hk)); (case aO => exact (rM_ HO_5 (fun _ hk => hk.2))); (case aS => exact (aA (Short.hB HB))); (case aL => have := LMc11.out; omega); intro v220 w15 ho hb hg hat; rw [← Ny219.out] at ho; have n0_ := mk_ (dH (g := gb214) (o := .cells #[.int .i64 ((aK l0 x21_1).f0), .int .i64 ((aK l0 x21_1).f1), .string ((aK l0 x21_1).f2)] 102 (0, 0)) (Short.bK BK214) hg (R_ne HO_5.out BK214.out z5_)); have n1_ := mk_ (dR (ok := (fun _ => True)) (ZKR HO217) hg hat); have n2_ := mk_ (hb); have n3_ := mk_ (ho); clear BK214 HO217 HB HO_5; revert n0_ n1_ n2_ n3_; intro BK214 HO217 HB HO221; clear ho hb hg hat))
   go_roundg k1
   case measure => have := HK1.out; omega
   case rel => exact ⟨(y219), (wrap64 (x21_1 + 1)), z4_, H', ⟨by have := HK1.out; omega⟩, ⟨by (with_reducible repeat (first | apply R_alloc | apply R_drewN | apply R_drew)); exact R_mono HO221.out (fun _ hk => trivial)⟩, ⟨Short.hB HB⟩⟩
end Go.Proofs.YtjnjfogfpmeacaaGreat.PAll
end
section
namespace Go.Proofs.YtjnjfogfpmeacaaGreat.PAll
open Go.RowKit PrintWords PrintLast PrintMore ZipT PrintWords.Kd PrintMore.Kd
attribute [local go_sem] eP eN fD fA dS dT eO eK   -- for this text's walks alone
set_option linter.unusedVariables false
set_option linter.unusedSimpArgs false
def wire_Get.j0 : Nat → List Int → Int → Int → Bool → Option (Int × Int × Int)
 | 0, _, _, _, _ => none
 | k + 1, x0, x1, x2, x9 => if x9 = true then (some (0, 0, 1)) else (if (wrap64 ((x0.length : Int) - x1)) < x2 then (some (0, 0, 3)) else (if 0 ≤ x1 then (if x1 ≤ (wrap64 (x1 + x2)) then (if (wrap64 (x1 + x2)) ≤ (x0.length : Int) then ((eR.f k ((x0.take ((wrap64 (x1 + x2)) : Int).toNat).drop (x1 : Int).toNat)).bind fun t361 => (some (wrap64 (t361), wrap64 (x1 + x2), 0))) else (none)) else (none)) else (none)))
def wire_Get.f (k : Nat) (l0 : List Int) (a1 : Int) (a2 : Int) : Option (Int × Int × Int) := if a2 < 1 then (wire_Get.j0 k l0 a1 a2 true) else (if a2 > 7 then (wire_Get.j0 k l0 a1 a2 true) else (if a1 < 0 then (wire_Get.j0 k l0 a1 a2 true) else (wire_Get.j0 k l0 a1 a2 (decide (a1 > (l0.length : Int))))))
theorem wire_Get.calls (k : Nat) (A0 : Option Addr) (c0 : Nat) (l0 : List Int) (a1 : Int) (a2 : Int) (r1 : Int) (r2 : Int) (r3 : Int) (w : World) (hr0 : Kd.C (Kd.int .u8) w A0 l0.length l0) (hc0 : l0.length ≤ c0) (h : wire_Get.f k l0 a1 a2 = some (r1, r2, r3)) :
  Calls Tryz.prog 91 #[.slice A0 l0.length c0, .int .i64 a1, .int .i64 a2] w fun e w' => e = .returned (.tuple #[.int .i64 r1, .int .i64 r2, .int .i64 r3]) ∧ Drawn0 w w' := by
 have HR0 := mk_ hr0
 have HC0 := mk_ hc0
 clear hr0 hc0
 have H : (if a2 < 1 then (wire_Get.j0 k l0 a1 a2 true) else (if a2 > 7 then (wire_Get.j0 k l0 a1 a2 true) else (if a1 < 0 then (wire_Get.j0 k l0 a1 a2 true) else (wire_Get.j0 k l0 a1 a2 (decide (a1 > (l0.length : Int))))))) = some (r1, r2, r3) := h
 clear h
 have HC4 := mk_ H
 clear H
 go_enter Tryz.func91, Tryz.ntmps91
 go_upto_region 1 with (fail)
 go_cut [9] (fun v9 wc => ∃ (kq : Nat) (x9_3 : Bool), v9 = .bool x9_3 ∧ Aside0 (wire_Get.j0 kq l0 a1 a2 x9_3 = some (r1, r2, r3)) ∧ Aside0 (kq ≤ k) ∧ Drawn0 w wc)
 case first =>
  have H := HC4.out
  clear HC4
  by_cases c5 : a2 < 1
  ·
   rw [if_pos c5] at H
   have c5b0 : decide (a2 < 1) = true := decide_eq_true c5
   clear c5
   (first | rw [c5b0] | (simp only [i64_w, i32_w]; rw [c5b0]) | skip)
   have H' := mk_ H
   clear H
   go_wp2
   go_meet
   case rel => exact ⟨_, (true), z4_, H', ⟨by first | omega | exact Nat.le_refl _⟩, by repeat (first | exact Drawn0.refl _ | apply Drawn0.step)⟩
  rw [if_neg c5] at H
  have c5b0 : decide (a2 < 1) = false := decide_eq_false c5
  clear c5
  (first | rw [c5b0] | (simp only [i64_w, i32_w]; rw [c5b0]) | skip)
  by_cases c6 : a2 > 7
  ·
   rw [if_pos c6] at H
   have c6b0 : decide (7 < a2) = true := decide_eq_true c6
   clear c6
   have H' := mk_ H
   clear H
   go_wp2
   go_meet
   case rel => exact ⟨_, (true), z4_, H', ⟨by first | omega | exact Nat.le_refl _⟩, by repeat (first | exact Drawn0.refl _ | apply Drawn0.step)⟩
  rw [if_neg c6] at H
  have c6b0 : decide (7 < a2) = false := decide_eq_false c6
  clear c6
  by_cases c7 : a1 < 0
  ·
   rw [if_pos c7] at H
   have c7b0 : decide (a1 < 0) = true := decide_eq_true c7
   clear c7
   have H' := mk_ H
   clear H
   go_wp2
   go_meet
   case rel => exact ⟨_, (true), z4_, H', ⟨by first | omega | exact Nat.le_refl _⟩, by repeat (first | exact Drawn0.refl _ | apply Drawn0.step)⟩
  rw [if_neg c7] at H
  have c7b0 : decide (a1 < 0) = false := decide_eq_false c7
  clear c7
  have H' := mk_ H
  clear H
  go_wp2
  go_meet
  case rel => exact ⟨_, (decide (a1 > (l0.length : Int))), z4_, H', ⟨by first | omega | exact Nat.le_refl _⟩, by repeat (first | exact Drawn0.refl _ | apply Drawn0.step)⟩
 case rest => as_aux_lemma =>
  clear HC4
  try clear p2
  try clear c5
  try clear c5b0
  try clear c6
  try clear c6b0
  try clear c7
  try clear c7b0
  obtain ⟨kq, x9_3, rfl, HA, HJ3, ⟨mc3, rfl⟩⟩ := hcut
  cases kq with
  | zero => exact absurd HA.out (by simp [wire_Get.j0])
  | succ kj3 =>
   have H := HA.out
   clear HA
   simp only [wire_Get.j0] at H
   by_cases c8 : x9_3 = true
   ·
    subst c8
    rw [if_pos rfl] at H
    simp only [Option.some.injEq, Prod.mk.injEq] at H
    obtain ⟨rfl, rfl, rfl⟩ := H
    go_wp2
    go_ret3
    exact ⟨z4_, by repeat (first | exact Drawn0.refl _ | apply Drawn0.step)⟩
   ·
    replace c8 := Bool.eq_false_iff.mpr c8
    subst c8
    rw [if_neg (show ¬ (false = true) by decide)] at H
    by_cases c9 : (wrap64 ((l0.length : Int) - a1)) < a2
    ·
     rw [if_pos c9] at H
     have c9b0 : decide ((wrap64 ((l0.length : Int) - a1)) < a2) = true := decide_eq_true c9
     clear c9
     simp only [Option.some.injEq, Prod.mk.injEq] at H
     obtain ⟨rfl, rfl, rfl⟩ := H
     go_wp2
     go_ret3
     exact ⟨z4_, by repeat (first | exact Drawn0.refl _ | apply Drawn0.step)⟩
    ·
     rw [if_neg c9] at H
     have c9b0 : decide ((wrap64 ((l0.length : Int) - a1)) < a2) = false := decide_eq_false c9
     clear c9
     by_cases c10 : 0 ≤ a1
     ·
      rw [if_pos c10] at H
      have c10b0 := eq_true c10
      have c10b1 : decide (0 ≤ a1) = true := decide_eq_true c10
      clear c10
      by_cases c11 : a1 ≤ (wrap64 (a1 + a2))
      ·
       rw [if_pos c11] at H
       have c11b0 := eq_true c11
       have c11b1 : decide (a1 ≤ (wrap64 (a1 + a2))) = true := decide_eq_true c11
       by_cases c12 : (wrap64 (a1 + a2)) ≤ (l0.length : Int)
       ·
        rw [if_pos c12] at H
        have c12b0 := eq_true c12
        have c12b1 : decide ((wrap64 (a1 + a2)) ≤ (l0.length : Int)) = true := decide_eq_true c12
        obtain ⟨t361, A13, H⟩ := Option.bind_eq_some_iff.mp H
        replace A13 := mk_ A13
        simp only [Option.some.injEq, Prod.mk.injEq] at H
        obtain ⟨rfl, rfl, rfl⟩ := H
        obtain ⟨i014, hi014, _, hsz14, _⟩ := info_parts info5
        obtain ⟨A14, hcut14, hA14, hC14⟩ := hU (P := Tryz.prog) (Value.int .u8) 0 36 5 .i64 .i64 Tryz.underlying36 hi014 hsz14 A0 c0 l0 a1 (wrap64 (a1 + a2)) (of_decide_eq_true z1_) (by first | omega | exact of_decide_eq_true z1_) (of_decide_eq_true z1_) HC0.out
        have HR360 := mk_ (iP (h1 := fun _ => rfl) (hA14 _ (Kd.reads_of_C HR0.out)))
        have HC360 := mk_ hC14
        clear hA14 hC14 hi014 hsz14
        go_wp2_with (first | ((with_reducible refine aE (f := 108) rfl ?_); refine goesL_ (some 39) rfl rfl Tryz.func108 z2_ rfl #[.slice A14 ((l0.take ((wrap64 (a1 + a2)) : Int).toNat).drop (a1 : Int).toNat).length (c0 - a1.toNat)] rfl (by (try simp only [List.map_toArray, List.map_cons, List.map_nil]); first | done | (rw [show ((l0.take ((wrap64 (a1 + a2)) : Int).toNat).drop (a1 : Int).toNat).length = ((wrap64 (a1 + a2)).toNat - a1.toNat) from (by rw [List.length_drop, List.length_take]; have h_ : ((wrap64 (a1 + a2)) : Int) ≤ (l0.length : Int) := of_decide_eq_true z1_; omega)] <;> rfl) | rfl | (simp only [List.length_drop, List.length_take]; rfl) | (go_simp; done) | (simp; done)) ?_; (with_reducible refine (eR.calls kj3 _ _ ((l0.take ((wrap64 (a1 + a2)) : Int).toNat).drop (a1 : Int).toNat) t361 _ ?side1 ?side2 A13.out).mono ?_); (case side1 => repeat (first | exact HR360.out | (with_reducible refine C_alloc ?_ _) | (with_reducible refine C_drewN ?_ _) | (with_reducible refine C_drew ?_))); (case side2 => exact HC360.out); rintro e w' ⟨rfl, ⟨nd, rfl⟩⟩; refine ⟨_, rfl, ?_⟩))
        go_ret3
        exact ⟨z4_, by repeat (first | exact Drawn0.refl _ | apply Drawn0.step)⟩
       ·
        rw [if_neg c12] at H
        exact absurd H z6_
      ·
       rw [if_neg c11] at H
       exact absurd H z6_
     ·
      rw [if_neg c10] at H
      exact absurd H z6_
def wire_GetText.j0 : Nat → List Int → Int → Bool → Option (ByteArray × Int × Int)
 | 0, _, _, _ => none
 | k + 1, x0, x1, x7 => if x7 = true then (some ((⟨#[]⟩ : ByteArray), 0, 1)) else (if x1 = (x0.length : Int) then (some ((⟨#[]⟩ : ByteArray), 0, 3)) else (if 0 ≤ x1 then (if x1 < (x0.length : Int) then (if (wrap64 (rd x0 x1)) > 24 then (some ((⟨#[]⟩ : ByteArray), 0, 3)) else (if (wrap64 ((wrap64 ((x0.length : Int) - x1)) - 1)) < (wrap64 (rd x0 x1)) then (some ((⟨#[]⟩ : ByteArray), 0, 3)) else (if 0 ≤ (wrap64 (x1 + 1)) then (if (wrap64 (x1 + 1)) ≤ (wrap64 ((wrap64 (x1 + 1)) + (wrap64 (rd x0 x1)))) then (if (wrap64 ((wrap64 (x1 + 1)) + (wrap64 (rd x0 x1)))) ≤ (x0.length : Int) then (some (strOfNums ((x0.take ((wrap64 ((wrap64 (x1 + 1)) + (wrap64 (rd x0 x1)))) : Int).toNat).drop ((wrap64 (x1 + 1)) : Int).toNat), wrap64 ((wrap64 (x1 + 1)) + (wrap64 (rd x0 x1))), 0)) else (none)) else (none)) else (none)))) else (none)) else (none)))
def wire_GetText.f (k : Nat) (l0 : List Int) (a1 : Int) : Option (ByteArray × Int × Int) := if a1 < 0 then (wire_GetText.j0 k l0 a1 true) else (wire_GetText.j0 k l0 a1 (decide (a1 > (l0.length : Int))))
theorem wire_GetText.calls (k : Nat) (A0 : Option Addr) (c0 : Nat) (l0 : List Int) (a1 : Int) (r1 : ByteArray) (r2 : Int) (r3 : Int) (w : World) (hr0 : Kd.C (Kd.int .u8) w A0 l0.length l0) (hc0 : l0.length ≤ c0) (h : wire_GetText.f k l0 a1 = some (r1, r2, r3)) :
  Calls Tryz.prog 92 #[.slice A0 l0.length c0, .int .i64 a1] w fun e w' => e = .returned (.tuple #[.string r1, .int .i64 r2, .int .i64 r3]) ∧ Drawn0 w w' := by
 have HR0 := mk_ hr0
 have HC0 := mk_ hc0
 clear hr0 hc0
 have H : (if a1 < 0 then (wire_GetText.j0 k l0 a1 true) else (wire_GetText.j0 k l0 a1 (decide (a1 > (l0.length : Int))))) = some (r1, r2, r3) := h
 clear h
 have HC3 := mk_ H
 clear H
 go_enter Tryz.func92, Tryz.ntmps92
 go_upto_region 1 with (fail)
 go_cut [7] (fun v7 wc => ∃ (kq : Nat) (x7_2 : Bool), v7 = .bool x7_2 ∧ Aside0 (wire_GetText.j0 kq l0 a1 x7_2 = some (r1, r2, r3)) ∧ Aside0 (kq ≤ k) ∧ Drawn0 w wc)
 case first =>
  have H := HC3.out
  clear HC3
  by_cases c4 : a1 < 0
  ·
   rw [if_pos c4] at H
   have c4b0 : decide (a1 < 0) = true := decide_eq_true c4
   clear c4
   (first | rw [c4b0] | (simp only [i64_w, i32_w]; rw [c4b0]) | skip)
   have H' := mk_ H
   clear H
   go_wp2
   go_meet
   case rel => exact ⟨_, (true), z4_, H', ⟨by first | omega | exact Nat.le_refl _⟩, by repeat (first | exact Drawn0.refl _ | apply Drawn0.step)⟩
  rw [if_neg c4] at H
  have c4b0 : decide (a1 < 0) = false := decide_eq_false c4
  clear c4
  (first | rw [c4b0] | (simp only [i64_w, i32_w]; rw [c4b0]) | skip)
  have H' := mk_ H
  clear H
  go_wp2
  go_meet
  case rel => exact ⟨_, (decide (a1 > (l0.length : Int))), z4_, H', ⟨by first | omega | exact Nat.le_refl _⟩, by repeat (first | exact Drawn0.refl _ | apply Drawn0.step)⟩
 case rest => as_aux_lemma =>
  clear HC3
  try clear p2
  try clear c4
  try clear c4b0
  obtain ⟨kq, x7_2, rfl, HA, HJ2, ⟨mc2, rfl⟩⟩ := hcut
  cases kq with
  | zero => exact absurd HA.out (by simp [wire_GetText.j0])
  | succ kj2 =>
   have H := HA.out
   clear HA
   simp only [wire_GetText.j0] at H
   by_cases c5 : x7_2 = true
   ·
    subst c5
    rw [if_pos rfl] at H
    simp only [Option.some.injEq, Prod.mk.injEq] at H
    obtain ⟨rfl, rfl, rfl⟩ := H
    go_wp2
    go_ret3
    exact ⟨z4_, by repeat (first | exact Drawn0.refl _ | apply Drawn0.step)⟩
   ·
    replace c5 := Bool.eq_false_iff.mpr c5
    subst c5
    rw [if_neg (show ¬ (false = true) by decide)] at H
    by_cases c6 : a1 = (l0.length : Int)
    ·
     rw [if_pos c6] at H
     have c6b0 : (a1 == (l0.length : Int)) = true := beq_iff_eq.mpr c6
     have c6b1 : (a1 != (l0.length : Int)) = false := bne_eq_false_iff_eq.mpr c6
     clear c6
     simp only [Option.some.injEq, Prod.mk.injEq] at H
     obtain ⟨rfl, rfl, rfl⟩ := H
     go_wp2
     go_ret3
     exact ⟨z4_, by repeat (first | exact Drawn0.refl _ | apply Drawn0.step)⟩
    ·
     rw [if_neg c6] at H
     have c6b0 : (a1 == (l0.length : Int)) = false := beq_eq_false_iff_ne.mpr c6
     have c6b1 : (a1 != (l0.length : Int)) = true := bne_iff_ne.mpr c6
     by_cases c7 : 0 ≤ a1
     ·
      rw [if_pos c7] at H
      have c7b0 : decide (0 ≤ a1) = true := decide_eq_true c7
      clear c7
      by_cases c8 : a1 < (l0.length : Int)
      ·
       rw [if_pos c8] at H
       have c8b0 : decide (a1 < (l0.length : Int)) = true := decide_eq_true c8
       clear c8
       by_cases c9 : (wrap64 (rd l0 a1)) > 24
       ·
        rw [if_pos c9] at H
        have c9b0 : decide (24 < (wrap64 (rd l0 a1))) = true := decide_eq_true c9
        clear c9
        simp only [Option.some.injEq, Prod.mk.injEq] at H
        obtain ⟨rfl, rfl, rfl⟩ := H
        have p367 : 0 ≤ (a1 : Int) := of_decide_eq_true z1_
        have q367 : a1 < (l0.length : Int) := of_decide_eq_true z1_
        obtain ⟨ad367, e367, hx367_0⟩ := Kd.at_int HR0.out a1 p367 q367
        cases e367
        replace p367 := eq_true p367
        replace q367 := eq_true q367
        go_wp2
        go_ret3
        exact ⟨z4_, by repeat (first | exact Drawn0.refl _ | apply Drawn0.step)⟩
       ·
        rw [if_neg c9] at H
        have c9b0 : decide (24 < (wrap64 (rd l0 a1))) = false := decide_eq_false c9
        clear c9
        by_cases c10 : (wrap64 ((wrap64 ((l0.length : Int) - a1)) - 1)) < (wrap64 (rd l0 a1))
        ·
         rw [if_pos c10] at H
         have c10b0 : decide ((wrap64 ((wrap64 ((l0.length : Int) - a1)) - 1)) < (wrap64 (rd l0 a1))) = true := decide_eq_true c10
         clear c10
         simp only [Option.some.injEq, Prod.mk.injEq] at H
         obtain ⟨rfl, rfl, rfl⟩ := H
         have p367 : 0 ≤ (a1 : Int) := of_decide_eq_true z1_
         have q367 : a1 < (l0.length : Int) := of_decide_eq_true z1_
         obtain ⟨ad367, e367, hx367_0⟩ := Kd.at_int HR0.out a1 p367 q367
         cases e367
         replace p367 := eq_true p367
         replace q367 := eq_true q367
         have p368 : 0 ≤ (a1 : Int) := of_decide_eq_true z1_
         have q368 : a1 < (l0.length : Int) := of_decide_eq_true z1_
         obtain ⟨ad368, e368, hx368_0⟩ := Kd.at_int HR0.out a1 p368 q368
         obtain rfl : ad367 = ad368 := (by injection e368)
         replace p368 := eq_true p368
         replace q368 := eq_true q368
         go_wp2
         go_ret3
         exact ⟨z4_, by repeat (first | exact Drawn0.refl _ | apply Drawn0.step)⟩
        ·
         rw [if_neg c10] at H
         have c10b0 : decide ((wrap64 ((wrap64 ((l0.length : Int) - a1)) - 1)) < (wrap64 (rd l0 a1))) = false := decide_eq_false c10
         clear c10
         obtain ⟨ji11, hji11⟩ : ∃ j_ : Int, (wrap64 (a1 + 1)) = j_ := ⟨_, rfl⟩
         replace H : (if 0 ≤ (ji11) then (if (ji11) ≤ (wrap64 ((ji11) + (wrap64 (rd l0 a1)))) then (if (wrap64 ((ji11) + (wrap64 (rd l0 a1)))) ≤ (l0.length : Int) then (some (strOfNums ((l0.take ((wrap64 ((ji11) + (wrap64 (rd l0 a1)))) : Int).toNat).drop ((ji11) : Int).toNat), wrap64 ((ji11) + (wrap64 (rd l0 a1))), 0)) else (none)) else (none)) else (none)) = some (r1, r2, r3) := by first | (rw [hji11] at H; exact H) | (simp only [hji11] at H ⊢; exact H)
         have hji11w : (IntKind.i64.wrap (a1 + 1)) = ji11 := (i64_w _).trans hji11
         by_cases c12 : 0 ≤ (ji11)
         ·
          rw [if_pos c12] at H
          have c12b0 := eq_true c12
          have c12b1 : decide (0 ≤ (ji11)) = true := decide_eq_true c12
          clear c12
          by_cases c13 : (ji11) ≤ (wrap64 ((ji11) + (wrap64 (rd l0 a1))))
          ·
           rw [if_pos c13] at H
           have c13b0 := eq_true c13
           have c13b1 : decide ((ji11) ≤ (wrap64 ((ji11) + (wrap64 (rd l0 a1))))) = true := decide_eq_true c13
           by_cases c14 : (wrap64 ((ji11) + (wrap64 (rd l0 a1)))) ≤ (l0.length : Int)
           ·
            rw [if_pos c14] at H
            have c14b0 := eq_true c14
            have c14b1 : decide ((wrap64 ((ji11) + (wrap64 (rd l0 a1)))) ≤ (l0.length : Int)) = true := decide_eq_true c14
            simp only [Option.some.injEq, Prod.mk.injEq] at H
            obtain ⟨rfl, rfl, rfl⟩ := H
            have p367 : 0 ≤ (a1 : Int) := of_decide_eq_true z1_
            have q367 : a1 < (l0.length : Int) := of_decide_eq_true z1_
            obtain ⟨ad367, e367, hx367_0⟩ := Kd.at_int HR0.out a1 p367 q367
            cases e367
            replace p367 := eq_true p367
            replace q367 := eq_true q367
            have p368 : 0 ≤ (a1 : Int) := of_decide_eq_true z1_
            have q368 : a1 < (l0.length : Int) := of_decide_eq_true z1_
            obtain ⟨ad368, e368, hx368_0⟩ := Kd.at_int HR0.out a1 p368 q368
            obtain rfl : ad367 = ad368 := (by injection e368)
            replace p368 := eq_true p368
            replace q368 := eq_true q368
            have p369 : 0 ≤ (a1 : Int) := of_decide_eq_true z1_
            have q369 : a1 < (l0.length : Int) := of_decide_eq_true z1_
            obtain ⟨ad369, e369, hx369_0⟩ := Kd.at_int HR0.out a1 p369 q369
            obtain rfl : ad367 = ad369 := (by injection e369)
            replace p369 := eq_true p369
            replace q369 := eq_true q369
            obtain ⟨i015, hi015, _, hsz15, _⟩ := info_parts info5
            obtain ⟨A15, hcut15, hA15, hC15⟩ := hU (P := Tryz.prog) (Value.int .u8) 0 36 5 .i64 .i64 Tryz.underlying36 hi015 hsz15 (some ad367) c0 l0 (ji11) (wrap64 ((ji11) + (wrap64 (rd l0 a1)))) (of_decide_eq_true z1_) (by first | omega | exact of_decide_eq_true z1_) (of_decide_eq_true z1_) HC0.out
            have HR370 := mk_ (iP (h1 := fun _ => rfl) (hA15 _ (Kd.reads_of_C HR0.out)))
            have HC370 := mk_ hC15
            clear hA15 hC15 hi015 hsz15
            have hcv16 := C_string (P := Tryz.prog) (A := A15) (c := (c0 - (ji11).toNat)) Tryz.underlying36 Tryz.underlying5 Tryz.underlying9 HR370.out
            have hcv17 : ∀ (m_ n_ : Nat), n_ = ((l0.take ((wrap64 ((ji11) + (wrap64 (rd l0 a1)))) : Int).toNat).drop ((ji11) : Int).toNat).length → (convert 36 9 (.slice A15 n_ (c0 - (ji11).toNat))).run Tryz.prog (w.drewN m_) = .ok (.string (strOfNums ((l0.take ((wrap64 ((ji11) + (wrap64 (rd l0 a1)))) : Int).toNat).drop ((ji11) : Int).toNat))) (w.drewN m_) := fun m_ n_ h_ => by rw [h_]; exact C_string Tryz.underlying36 Tryz.underlying5 Tryz.underlying9 (C_drewN HR370.out m_)
            go_wp2
            go_ret3
            exact ⟨by first | rfl | (simp; done) | (simp only [← hji11] <;> (first | rfl | simp)) | (simp [*]; done), by repeat (first | exact Drawn0.refl _ | apply Drawn0.step)⟩
           ·
            rw [if_neg c14] at H
            exact absurd H z6_
          ·
           rw [if_neg c13] at H
           exact absurd H z6_
         ·
          rw [if_neg c12] at H
          exact absurd H z6_
      ·
       rw [if_neg c8] at H
       exact absurd H z6_
     ·
      rw [if_neg c7] at H
      exact absurd H z6_
mutual
def bQ.j0 : Nat → List Int → Int → Bool → Option (Int × Int × Int)
 | 0, _, _, _ => none
 | k + 1, x0, x1, x15 => if x15 = true then (some (0, 0, 1)) else (if (wrap64 ((x0.length : Int) - x1)) < 9 then (bQ.j1 k x0 x1 true) else (if 0 ≤ x1 then (if x1 < (x0.length : Int) then (bQ.j1 k x0 x1 (decide ((rd x0 x1) > 1))) else (none)) else (none)))
def bQ.j1 : Nat → List Int → Int → Bool → Option (Int × Int × Int)
 | 0, _, _, _ => none
 | k + 1, x0, x1, x27 => if x27 = true then (some (0, 0, 3)) else (if 0 ≤ (wrap64 (x1 + 1)) then (if (wrap64 (x1 + 1)) ≤ (wrap64 (x1 + 9)) then (if (wrap64 (x1 + 9)) ≤ (x0.length : Int) then ((eR.f k ((x0.take ((wrap64 (x1 + 9)) : Int).toNat).drop ((wrap64 (x1 + 1)) : Int).toNat)).bind fun t376 => (if t376 > 1152921504606846976 then (bQ.j2 k x0 x1 t376 true) else (if 0 ≤ x1 then (if x1 < (x0.length : Int) then (if (rd x0 x1) = 1 then (bQ.j2 k x0 x1 t376 (t376 == 0)) else (bQ.j2 k x0 x1 t376 false)) else (none)) else (none)))) else (none)) else (none)) else (none))
def bQ.j2 : Nat → List Int → Int → Int → Bool → Option (Int × Int × Int)
 | 0, _, _, _, _ => none
 | k + 1, x0, x1, x7, x35 => if x35 = true then (some (0, 0, 3)) else (if 0 ≤ x1 then (if x1 < (x0.length : Int) then (if (rd x0 x1) = 1 then (some (wrap64 (-(wrap64 (x7))), wrap64 (x1 + 9), 0)) else (some (wrap64 (x7), wrap64 (x1 + 9), 0))) else (none)) else (none))
end
def bQ.f (k : Nat) (l0 : List Int) (a1 : Int) : Option (Int × Int × Int) := if a1 < 0 then (bQ.j0 k l0 a1 true) else (bQ.j0 k l0 a1 (decide (a1 > (l0.length : Int))))
theorem bQ.calls (k : Nat) (A0 : Option Addr) (c0 : Nat) (l0 : List Int) (a1 : Int) (r1 : Int) (r2 : Int) (r3 : Int) (w : World) (hr0 : Kd.C (Kd.int .u8) w A0 l0.length l0) (hc0 : l0.length ≤ c0) (h : bQ.f k l0 a1 = some (r1, r2, r3)) :
  Calls Tryz.prog 109 #[.slice A0 l0.length c0, .int .i64 a1] w fun e w' => e = .returned (.tuple #[.int .i64 r1, .int .i64 r2, .int .i64 r3]) ∧ Drawn0 w w' := by
 have HR0 := mk_ hr0
 have HC0 := mk_ hc0
 clear hr0 hc0
 have H : (if a1 < 0 then (bQ.j0 k l0 a1 true) else (bQ.j0 k l0 a1 (decide (a1 > (l0.length : Int))))) = some (r1, r2, r3) := h
 clear h
 have HC3 := mk_ H
 clear H
 go_enter Tryz.func109, Tryz.ntmps109
 go_upto_region 1 with (fail)
 go_cut [15] (fun v15 wc => ∃ (kq : Nat) (x15_2 : Bool), v15 = .bool x15_2 ∧ Aside0 (bQ.j0 kq l0 a1 x15_2 = some (r1, r2, r3)) ∧ Aside0 (kq ≤ k) ∧ Drawn0 w wc)
 case first =>
  have H := HC3.out
  clear HC3
  by_cases c4 : a1 < 0
  ·
   rw [if_pos c4] at H
   have c4b0 : decide (a1 < 0) = true := decide_eq_true c4
   clear c4
   (first | rw [c4b0] | (simp only [i64_w, i32_w]; rw [c4b0]) | skip)
   have H' := mk_ H
   clear H
   go_wp2
   go_meet
   case rel => exact ⟨_, (true), z4_, H', ⟨by first | omega | exact Nat.le_refl _⟩, by repeat (first | exact Drawn0.refl _ | apply Drawn0.step)⟩
  rw [if_neg c4] at H
  have c4b0 : decide (a1 < 0) = false := decide_eq_false c4
  clear c4
  (first | rw [c4b0] | (simp only [i64_w, i32_w]; rw [c4b0]) | skip)
  have H' := mk_ H
  clear H
  go_wp2
  go_meet
  case rel => exact ⟨_, (decide (a1 > (l0.length : Int))), z4_, H', ⟨by first | omega | exact Nat.le_refl _⟩, by repeat (first | exact Drawn0.refl _ | apply Drawn0.step)⟩
 case rest => as_aux_lemma =>
  clear HC3
  try clear c1
  try clear p2
  try clear c4
  try clear c4b0
  obtain ⟨kq, x15_2, rfl, HA, HJ2, ⟨mc2, rfl⟩⟩ := hcut
  cases kq with
  | zero => exact absurd HA.out (by simp [bQ.j0])
  | succ kj2 =>
   have H := HA.out
   clear HA
   simp only [bQ.j0] at H
   by_cases c5 : x15_2 = true
   ·
    subst c5
    rw [if_pos rfl] at H
    simp only [Option.some.injEq, Prod.mk.injEq] at H
    obtain ⟨rfl, rfl, rfl⟩ := H
    go_wp2
    go_ret3
    exact ⟨z4_, by repeat (first | exact Drawn0.refl _ | apply Drawn0.step)⟩
   ·
    replace c5 := Bool.eq_false_iff.mpr c5
    subst c5
    rw [if_neg (show ¬ (false = true) by decide)] at H
    have HC6 := mk_ H
    clear H
    go_upto_region 3 with (fail)
    go_cut [27] (fun v27 wc => ∃ (kq : Nat) (x27_5 : Bool), v27 = .bool x27_5 ∧ Aside0 (bQ.j1 kq l0 a1 x27_5 = some (r1, r2, r3)) ∧ Aside0 (kq ≤ kj2) ∧ Drawn0 w wc)
    case first =>
     have H := HC6.out
     clear HC6
     by_cases c7 : (wrap64 ((l0.length : Int) - a1)) < 9
     ·
      rw [if_pos c7] at H
      have c7b0 : decide ((wrap64 ((l0.length : Int) - a1)) < 9) = true := decide_eq_true c7
      clear c7
      (first | rw [c7b0] | (simp only [i64_w, i32_w]; rw [c7b0]) | skip)
      have H' := mk_ H
      clear H
      go_wp2
      go_meet
      case rel => exact ⟨_, (true), z4_, H', ⟨by have := HJ2.out; first | omega | exact Nat.le_refl _⟩, by repeat (first | exact Drawn0.refl _ | apply Drawn0.step)⟩
     ·
      rw [if_neg c7] at H
      have c7b0 : decide ((wrap64 ((l0.length : Int) - a1)) < 9) = false := decide_eq_false c7
      clear c7
      (first | rw [c7b0] | (simp only [i64_w, i32_w]; rw [c7b0]) | skip)
      by_cases c8 : 0 ≤ a1
      ·
       rw [if_pos c8] at H
       have c8b0 : decide (0 ≤ a1) = true := decide_eq_true c8
       clear c8
       by_cases c9 : a1 < (l0.length : Int)
       ·
        rw [if_pos c9] at H
        have c9b0 : decide (a1 < (l0.length : Int)) = true := decide_eq_true c9
        clear c9
        have H' := mk_ H
        clear H
        have p374 : 0 ≤ (a1 : Int) := of_decide_eq_true z1_
        have q374 : a1 < (l0.length : Int) := of_decide_eq_true z1_
        obtain ⟨ad374, e374, hx374_0⟩ := Kd.at_int HR0.out a1 p374 q374
        cases e374
        replace p374 := eq_true p374
        replace q374 := eq_true q374
        go_wp2
        go_meet
        case rel => exact ⟨_, (decide ((rd l0 a1) > 1)), z4_, H', ⟨by have := HJ2.out; first | omega | exact Nat.le_refl _⟩, by repeat (first | exact Drawn0.refl _ | apply Drawn0.step)⟩
       ·
        rw [if_neg c9] at H
        exact absurd H z6_
      ·
       rw [if_neg c8] at H
       exact absurd H z6_
    case rest => as_aux_lemma =>
     clear HC6
     try clear c1
     try clear c2
     try clear p2
     try clear p3
     try clear q3
     try clear hx3
     try clear c4
     try clear c4b0
     try clear c5
     try clear p6
     try clear c7
     try clear c7b0
     try clear c8
     try clear c8b0
     try clear c9
     try clear c9b0
     try clear hx374_0
     try clear p2
     try clear p374
     try clear q374
     obtain ⟨kq, x27_5, rfl, HA, HJ5, ⟨mc5, rfl⟩⟩ := hcut
     cases kq with
     | zero => exact absurd HA.out (by simp [bQ.j1])
     | succ kj5 =>
      have H := HA.out
      clear HA
      simp only [bQ.j1] at H
      by_cases c10 : x27_5 = true
      ·
       subst c10
       rw [if_pos rfl] at H
       simp only [Option.some.injEq, Prod.mk.injEq] at H
       obtain ⟨rfl, rfl, rfl⟩ := H
       go_wp2
       go_ret3
       exact ⟨z4_, by repeat (first | exact Drawn0.refl _ | apply Drawn0.step)⟩
      ·
       replace c10 := Bool.eq_false_iff.mpr c10
       subst c10
       rw [if_neg (show ¬ (false = true) by decide)] at H
       obtain ⟨ji11, hji11⟩ : ∃ j_ : Int, (wrap64 (a1 + 1)) = j_ := ⟨_, rfl⟩
       replace H : (if 0 ≤ (ji11) then (if (ji11) ≤ (wrap64 (a1 + 9)) then (if (wrap64 (a1 + 9)) ≤ (l0.length : Int) then ((eR.f kj5 ((l0.take ((wrap64 (a1 + 9)) : Int).toNat).drop ((ji11) : Int).toNat)).bind fun t376 => (if t376 > 1152921504606846976 then (bQ.j2 kj5 l0 a1 t376 true) else (if 0 ≤ a1 then (if a1 < (l0.length : Int) then (if (rd l0 a1) = 1 then (bQ.j2 kj5 l0 a1 t376 (t376 == 0)) else (bQ.j2 kj5 l0 a1 t376 false)) else (none)) else (none)))) else (none)) else (none)) else (none)) = some (r1, r2, r3) := by first | (rw [hji11] at H; exact H) | (simp only [hji11] at H ⊢; exact H)
       have hji11w : (IntKind.i64.wrap (a1 + 1)) = ji11 := (i64_w _).trans hji11
       by_cases c12 : 0 ≤ (ji11)
       ·
        rw [if_pos c12] at H
        have c12b0 := eq_true c12
        have c12b1 : decide (0 ≤ (ji11)) = true := decide_eq_true c12
        clear c12
        by_cases c13 : (ji11) ≤ (wrap64 (a1 + 9))
        ·
         rw [if_pos c13] at H
         have c13b0 := eq_true c13
         have c13b1 : decide ((ji11) ≤ (wrap64 (a1 + 9))) = true := decide_eq_true c13
         by_cases c14 : (wrap64 (a1 + 9)) ≤ (l0.length : Int)
         ·
          rw [if_pos c14] at H
          have c14b0 := eq_true c14
          have c14b1 : decide ((wrap64 (a1 + 9)) ≤ (l0.length : Int)) = true := decide_eq_true c14
          obtain ⟨t376, A15, H⟩ := Option.bind_eq_some_iff.mp H
          replace A15 := mk_ A15
          have HC16 := mk_ H
          clear H
          obtain ⟨i017, hi017, _, hsz17, _⟩ := info_parts info5
          obtain ⟨A17, hcut17, hA17, hC17⟩ := hU (P := Tryz.prog) (Value.int .u8) 0 36 5 .i64 .i64 Tryz.underlying36 hi017 hsz17 A0 c0 l0 (ji11) (wrap64 (a1 + 9)) (of_decide_eq_true z1_) (by first | omega | exact of_decide_eq_true z1_) (of_decide_eq_true z1_) HC0.out
          have HR375 := mk_ (iP (h1 := fun _ => rfl) (hA17 _ (Kd.reads_of_C HR0.out)))
          have HC375 := mk_ hC17
          clear hA17 hC17 hi017 hsz17
          go_upto_region 6 with (first | ((with_reducible refine aE (f := 108) rfl ?_); refine goesL_ (some 34) rfl rfl Tryz.func108 z2_ rfl #[.slice A17 ((l0.take ((wrap64 (a1 + 9)) : Int).toNat).drop ((ji11) : Int).toNat).length (c0 - (ji11).toNat)] rfl (by (try simp only [List.map_toArray, List.map_cons, List.map_nil]); first | done | (rw [show ((l0.take ((wrap64 (a1 + 9)) : Int).toNat).drop ((ji11) : Int).toNat).length = ((wrap64 (a1 + 9)).toNat - (ji11).toNat) from (by rw [List.length_drop, List.length_take]; have h_ : ((wrap64 (a1 + 9)) : Int) ≤ (l0.length : Int) := of_decide_eq_true z1_; omega)] <;> rfl) | (simp only [hji11]; rfl) | rfl | (simp only [List.length_drop, List.length_take]; rfl) | (go_simp; done) | (simp; done)) ?_; (with_reducible refine (eR.calls kj5 _ _ ((l0.take ((wrap64 (a1 + 9)) : Int).toNat).drop ((ji11) : Int).toNat) t376 _ ?side1 ?side2 A15.out).mono ?_); (case side1 => repeat (first | exact HR375.out | (with_reducible refine C_alloc ?_ _) | (with_reducible refine C_drewN ?_ _) | (with_reducible refine C_drew ?_))); (case side2 => exact HC375.out); rintro e w' ⟨rfl, ⟨nd, rfl⟩⟩; refine ⟨_, rfl, ?_⟩))
          (try simp only [Act.put, List.setIfInBounds_toArray, List.set_cons_zero, List.set_cons_succ])
          go_cut [35] (fun v35 wc => ∃ (kq : Nat) (x35_15 : Bool), v35 = .bool x35_15 ∧ Aside0 (bQ.j2 kq l0 a1 t376 x35_15 = some (r1, r2, r3)) ∧ Aside0 (kq ≤ kj5) ∧ Drawn0 w wc)
          case first =>
           have H := HC16.out
           clear HC16
           by_cases c18 : t376 > 1152921504606846976
           ·
            rw [if_pos c18] at H
            have c18b0 : decide (1152921504606846976 < t376) = true := decide_eq_true c18
            clear c18
            (first | rw [c18b0] | (simp only [i64_w, i32_w]; rw [c18b0]) | skip)
            have H' := mk_ H
            clear H
            go_wp2
            go_meet
            case rel => exact ⟨_, (true), z4_, H', ⟨by have := HJ2.out; have := HJ5.out; first | omega | exact Nat.le_refl _⟩, by repeat (first | exact Drawn0.refl _ | apply Drawn0.step)⟩
           ·
            rw [if_neg c18] at H
            have c18b0 : decide (1152921504606846976 < t376) = false := decide_eq_false c18
            clear c18
            (first | rw [c18b0] | (simp only [i64_w, i32_w]; rw [c18b0]) | skip)
            by_cases c19 : 0 ≤ a1
            ·
             rw [if_pos c19] at H
             have c19b0 : decide (0 ≤ a1) = true := decide_eq_true c19
             clear c19
             by_cases c20 : a1 < (l0.length : Int)
             ·
              rw [if_pos c20] at H
              have c20b0 : decide (a1 < (l0.length : Int)) = true := decide_eq_true c20
              clear c20
              by_cases c21 : (rd l0 a1) = 1
              ·
               rw [if_pos c21] at H
               have c21b0 : ((rd l0 a1) == 1) = true := beq_iff_eq.mpr c21
               have c21b1 : ((rd l0 a1) != 1) = false := bne_eq_false_iff_eq.mpr c21
               clear c21
               have H' := mk_ H
               clear H
               have p377 : 0 ≤ (a1 : Int) := of_decide_eq_true z1_
               have q377 : a1 < (l0.length : Int) := of_decide_eq_true z1_
               obtain ⟨ad377, e377, hx377_0⟩ := Kd.at_int HR0.out a1 p377 q377
               cases e377
               replace p377 := eq_true p377
               replace q377 := eq_true q377
               go_wp2
               go_meet
               case rel => exact ⟨_, ((t376 == 0)), z4_, H', ⟨by have := HJ2.out; have := HJ5.out; first | omega | exact Nat.le_refl _⟩, by repeat (first | exact Drawn0.refl _ | apply Drawn0.step)⟩
              ·
               rw [if_neg c21] at H
               have c21b0 : ((rd l0 a1) == 1) = false := beq_eq_false_iff_ne.mpr c21
               have c21b1 : ((rd l0 a1) != 1) = true := bne_iff_ne.mpr c21
               have H' := mk_ H
               clear H
               have p377 : 0 ≤ (a1 : Int) := of_decide_eq_true z1_
               have q377 : a1 < (l0.length : Int) := of_decide_eq_true z1_
               obtain ⟨ad377, e377, hx377_0⟩ := Kd.at_int HR0.out a1 p377 q377
               cases e377
               replace p377 := eq_true p377
               replace q377 := eq_true q377
               go_wp2
               go_meet
               case rel => exact ⟨_, (false), z4_, H', ⟨by have := HJ2.out; have := HJ5.out; first | omega | exact Nat.le_refl _⟩, by repeat (first | exact Drawn0.refl _ | apply Drawn0.step)⟩
             ·
              rw [if_neg c20] at H
              exact absurd H z6_
            ·
             rw [if_neg c19] at H
             exact absurd H z6_
          case rest => as_aux_lemma =>
           clear HC16
           try clear c1
           try clear c2
           try clear p2
           try clear p3
           try clear q3
           try clear hx3
           try clear c4
           try clear c4b0
           try clear c5
           try clear p6
           try clear c7
           try clear c7b0
           try clear c8
           try clear c8b0
           try clear c9
           try clear c9b0
           try clear c10
           try clear c12
           try clear c12b0
           try clear c12b1
           try clear c13
           try clear c13b0
           try clear c13b1
           try clear c14
           try clear c14b0
           try clear c14b1
           try clear c18
           try clear c18b0
           try clear c19
           try clear c19b0
           try clear c20
           try clear c20b0
           try clear c21
           try clear c21b0
           try clear c21b1
           try clear hx374_0
           try clear hx377_0
           try clear p2
           try clear p3
           try clear p374
           try clear p377
           try clear p6
           try clear q3
           try clear q374
           try clear q377
           obtain ⟨kq, x35_15, rfl, HA, HJ15, ⟨mc15, rfl⟩⟩ := hcut
           cases kq with
           | zero => exact absurd HA.out (by simp [bQ.j2])
           | succ kj15 =>
            have H := HA.out
            clear HA
            simp only [bQ.j2] at H
            by_cases c22 : x35_15 = true
            ·
             subst c22
             rw [if_pos rfl] at H
             simp only [Option.some.injEq, Prod.mk.injEq] at H
             obtain ⟨rfl, rfl, rfl⟩ := H
             go_wp2
             go_ret3
             exact ⟨by first | rfl | (simp; done) | (simp only [← hji11] <;> (first | rfl | simp)) | (simp [*]; done), by repeat (first | exact Drawn0.refl _ | apply Drawn0.step)⟩
            ·
             replace c22 := Bool.eq_false_iff.mpr c22
             subst c22
             rw [if_neg (show ¬ (false = true) by decide)] at H
             by_cases c23 : 0 ≤ a1
             ·
              rw [if_pos c23] at H
              have c23b0 : decide (0 ≤ a1) = true := decide_eq_true c23
              clear c23
              by_cases c24 : a1 < (l0.length : Int)
              ·
               rw [if_pos c24] at H
               have c24b0 : decide (a1 < (l0.length : Int)) = true := decide_eq_true c24
               clear c24
               by_cases c25 : (rd l0 a1) = 1
               ·
                rw [if_pos c25] at H
                have c25b0 : ((rd l0 a1) == 1) = true := beq_iff_eq.mpr c25
                have c25b1 : ((rd l0 a1) != 1) = false := bne_eq_false_iff_eq.mpr c25
                clear c25
                simp only [Option.some.injEq, Prod.mk.injEq] at H
                obtain ⟨rfl, rfl, rfl⟩ := H
                have p378 : 0 ≤ (a1 : Int) := of_decide_eq_true z1_
                have q378 : a1 < (l0.length : Int) := of_decide_eq_true z1_
                obtain ⟨ad378, e378, hx378_0⟩ := Kd.at_int HR0.out a1 p378 q378
                cases e378
                replace p378 := eq_true p378
                replace q378 := eq_true q378
                go_wp2
                go_ret3
                exact ⟨by first | rfl | (simp; done) | (simp only [← hji11] <;> (first | rfl | simp)) | (simp [*]; done), by repeat (first | exact Drawn0.refl _ | apply Drawn0.step)⟩
               ·
                rw [if_neg c25] at H
                have c25b0 : ((rd l0 a1) == 1) = false := beq_eq_false_iff_ne.mpr c25
                have c25b1 : ((rd l0 a1) != 1) = true := bne_iff_ne.mpr c25
                simp only [Option.some.injEq, Prod.mk.injEq] at H
                obtain ⟨rfl, rfl, rfl⟩ := H
                have p378 : 0 ≤ (a1 : Int) := of_decide_eq_true z1_
                have q378 : a1 < (l0.length : Int) := of_decide_eq_true z1_
                obtain ⟨ad378, e378, hx378_0⟩ := Kd.at_int HR0.out a1 p378 q378
                cases e378
                replace p378 := eq_true p378
                replace q378 := eq_true q378
                go_wp2
                go_ret3
                exact ⟨by first | rfl | (simp; done) | (simp only [← hji11] <;> (first | rfl | simp)) | (simp [*]; done), by repeat (first | exact Drawn0.refl _ | apply Drawn0.step)⟩
              ·
               rw [if_neg c24] at H
               exact absurd H z6_
             ·
              rw [if_neg c23] at H
              exact absurd H z6_
         ·
          rw [if_neg c14] at H
          exact absurd H z6_
        ·
         rw [if_neg c13] at H
         exact absurd H z6_
       ·
        rw [if_neg c12] at H
        exact absurd H z6_
end Go.Proofs.YtjnjfogfpmeacaaGreat.PAll
end
