-- Put together by a program of this session (wip/slice2.py) out of the seat's texts.
import Derived.Test.YtjnjfogfpmeacaaGreatZOEp0

set_option maxHeartbeats 8000000
set_option maxRecDepth 100000
open Go.Proofs.YtjnjfogfpmeacaaGreatW Go.Proofs.YtjnjfogfpmeacaaGreat
section
namespace Go.Proofs.YtjnjfogfpmeacaaGreat.PAll
open Go.RowKit PrintWords PrintLast PrintMore ZipT PrintWords.Kd PrintMore.Kd
attribute [local go_sem] eE eG eX eY dQ dP eF eC   -- for this text's walks alone
set_option linter.unusedVariables false
set_option linter.unusedSimpArgs false
def bW.l0 : Nat → List (S102) → List (S102) → Int → Option (Bool)
 | 0, _, _, _ => none
 | k + 1, x0, x1, x5 => if x5 < (x0.length : Int) then (if 0 ≤ x5 then (if x5 < (x1.length : Int) then ((eU.f ((aK x0 x5).f0) ((aK x0 x5).f1) ((aK x0 x5).f2) ((aK x1 x5).f0) ((aK x1 x5).f1) ((aK x1 x5).f2)).bind fun t334 => (if t334 = true then (bW.l0 k x0 x1 (wrap64 (x5 + 1))) else (some false))) else (none)) else (none)) else (some true)
def bW.f (k : Nat) (l0 : List (S102)) (l1 : List (S102)) : Option (Bool) := if (l0.length : Int) = (l1.length : Int) then (bW.l0 k l0 l1 0) else (some false)
def bW.T6 : Bool × List (List Nat × List Nat) := (true, [([], []), ([], []), ([0, 1], [0, 1]), ([2], [2]), ([], []), ([], []), ([4, 5], [4, 5]), ([6], [6]), ([3, 7], [3, 7]), ([8], [8])])
def bW.B6 : List Nat := [0, 0, 3, 7, 0, 0, 48, 112, 255, 511]
theorem bW.tab6 : rtab .any (opsOf Tryz.f37 6) = bW.T6 := by kernel_rfl
theorem bW.bits6 : waitsOk bW.T6.2 bW.B6 = true := by kernel_rfl
theorem bW.calls (k : Nat) (A0 : Option Addr) (c0 : Nat) (l0 : List (S102)) (A1 : Option Addr) (c1 : Nat) (l1 : List (S102)) (r : Bool) (w : World) (hr0 : Kd.C k102 w A0 l0.length l0) (hc0 : l0.length ≤ c0) (hr1 : Kd.C k102 w A1 l1.length l1) (hc1 : l1.length ≤ c1) (h : bW.f k l0 l1 = some r) :
  Calls Tryz.prog 37 #[.slice A0 l0.length c0, .slice A1 l1.length c1] w fun e w' => e = .returned (.bool r) ∧ Below w.heap.size w w' := by
 have hu102 := Tryz.underlying102
 have HR0 := mk_ hr0
 have HC0 := mk_ hc0
 clear hr0 hc0
 have HR1 := mk_ hr1
 have HC1 := mk_ hc1
 clear hr1 hc1
 have HB := mk_ (Below.refl w.heap.size w)
 have H : (if (l0.length : Int) = (l1.length : Int) then (bW.l0 k l0 l1 0) else (some false)) = some r := h
 clear h
 by_cases c3 : (l0.length : Int) = (l1.length : Int)
 rotate_left
 ·
  rw [if_neg c3] at H
  have c3b0 : ((l0.length : Int) == (l1.length : Int)) = false := beq_eq_false_iff_ne.mpr c3
  have c3b1 : ((l0.length : Int) != (l1.length : Int)) = true := bne_iff_ne.mpr c3
  have c3b2 : (l0.length == l1.length) = false := by first | simpa using c3 | (simp at c3 ⊢; omega)
  obtain rfl := Option.some.inj H
  go_enter Tryz.func37, Tryz.ntmps37
  go_wp2
  go_ret
  exact ⟨q0, Short.hB HB⟩
 rw [if_pos c3] at H
 have c3b0 : ((l0.length : Int) == (l1.length : Int)) = true := beq_iff_eq.mpr c3
 have c3b1 : ((l0.length : Int) != (l1.length : Int)) = false := bne_eq_false_iff_eq.mpr c3
 have c3b2 : (l0.length == l1.length) = true := by first | simpa using c3 | (simp at c3 ⊢; omega)
 clear c3
 have H' := mk_ H
 clear H
 go_enter Tryz.func37, Tryz.ntmps37
 go_wp2
 go_loopg [5] k (fun kq v5 w' => ∃ (x5_1 : Int), v5 = .int .i64 x5_1 ∧ Aside0 (bW.l0 kq l0 l1 x5_1 = some r) ∧ Aside0 (kq ≤ k) ∧ Aside0 (Below w.heap.size w w'))
 case atStart => exact ⟨(0), z3_, H', ⟨Nat.le_refl _⟩, ⟨Short.hB HB⟩⟩
 case round =>
  clear H'
  try clear c1
  try clear p2
  try clear c3
  try clear c3b0
  try clear c3b1
  try clear c3b2
  obtain ⟨x5_1, rfl, HA, HK1, HB⟩ := hrel
  cases gk with
  | zero => exact absurd HA.out (by simp [bW.l0])
  | succ k1 =>
   have H := HA.out
   clear HA
   simp only [bW.l0] at H
   by_cases c4 : x5_1 < (l0.length : Int)
   rotate_left
   ·
    rw [if_neg c4] at H
    have c4b0 : decide (x5_1 < (l0.length : Int)) = false := decide_eq_false c4
    clear c4
    obtain rfl := Option.some.inj H
    go_wp2
    go_ret
    exact ⟨q0, Short.hB HB⟩
   rw [if_pos c4] at H
   have c4b0 : decide (x5_1 < (l0.length : Int)) = true := decide_eq_true c4
   clear c4
   by_cases c5 : 0 ≤ x5_1
   rotate_left
   ·
    rw [if_neg c5] at H
    exact absurd H z6_
   rw [if_pos c5] at H
   have c5b0 : decide (0 ≤ x5_1) = true := decide_eq_true c5
   clear c5
   by_cases c6 : x5_1 < (l1.length : Int)
   rotate_left
   ·
    rw [if_neg c6] at H
    exact absurd H z6_
   rw [if_pos c6] at H
   have c6b0 : decide (x5_1 < (l1.length : Int)) = true := decide_eq_true c6
   clear c6
   obtain ⟨t334, A7, H⟩ := Option.bind_eq_some_iff.mp H
   replace A7 := mk_ A7
   by_cases c8 : t334 = true
   rotate_left
   ·
    replace c8 := Bool.eq_false_iff.mpr c8
    subst c8
    rw [if_neg (show ¬ (false = true) by decide)] at H
    obtain rfl := Option.some.inj H
    try go_wp2
    have n0_ := mk_ (dG HB.out)
    clear HB
    revert n0_
    intro HB
    have p332 : 0 ≤ (x5_1 : Int) := of_decide_eq_true z1_
    have q332 : x5_1 < (l0.length : Int) := of_decide_eq_true z1_
    obtain ⟨ad332, e332, hx332_0, hx332_1, hx332_2⟩ := fI HR0.out x5_1 p332 q332
    have hw332_2 := hx332_2
    have hw332_1 := hx332_1
    have hw332_0 := hx332_0
    cases e332
    replace hx332_0 := up_ HB hx332_0
    replace hx332_1 := up_ HB hx332_1
    replace hx332_2 := up_ HB hx332_2
    replace p332 := eq_true p332
    replace q332 := eq_true q332
    have p333 : 0 ≤ (x5_1 : Int) := of_decide_eq_true z1_
    have q333 : x5_1 < (l1.length : Int) := of_decide_eq_true z1_
    obtain ⟨ad333, e333, hx333_0, hx333_1, hx333_2⟩ := fI HR1.out x5_1 p333 q333
    have hw333_2 := hx333_2
    have hw333_1 := hx333_1
    have hw333_0 := hx333_0
    cases e333
    replace hx333_0 := up_ HB hx333_0
    replace hx333_1 := up_ HB hx333_1
    replace hx333_2 := up_ HB hx333_2
    replace p333 := eq_true p333
    replace q333 := eq_true q333
    refine fM (n := 10) (S := fun w' => w'.cell? (ad332.add ((x5_1).toNat * 3)) = some (.int .i64 ((aK l0 x5_1).f0)) ∧ w'.cell? ⟨(ad332.add ((x5_1).toNat * 3)).block, (ad332.add ((x5_1).toNat * 3)).off + 1, none⟩ = some (.int .i64 ((aK l0 x5_1).f1)) ∧ w'.cell? ⟨(ad332.add ((x5_1).toNat * 3)).block, (ad332.add ((x5_1).toNat * 3)).off + 2, none⟩ = some (.string ((aK l0 x5_1).f2)) ∧ w'.cell? (ad333.add ((x5_1).toNat * 3)) = some (.int .i64 ((aK l1 x5_1).f0)) ∧ w'.cell? ⟨(ad333.add ((x5_1).toNat * 3)).block, (ad333.add ((x5_1).toNat * 3)).off + 1, none⟩ = some (.int .i64 ((aK l1 x5_1).f1)) ∧ w'.cell? ⟨(ad333.add ((x5_1).toNat * 3)).block, (ad333.add ((x5_1).toNat * 3)).off + 2, none⟩ = some (.string ((aK l1 x5_1).f2))) (ds := []) (Steps.Bs 10 0) z2_ rfl rfl ⟨((HB.out.cell (World.block_lt_of_cell? w _ hw332_0)).trans hw332_0), ((HB.out.cell (World.block_lt_of_cell? w _ hw332_1)).trans hw332_1), ((HB.out.cell (World.block_lt_of_cell? w _ hw332_2)).trans hw332_2), ((HB.out.cell (World.block_lt_of_cell? w _ hw333_0)).trans hw333_0), ((HB.out.cell (World.block_lt_of_cell? w _ hw333_1)).trans hw333_1), ((HB.out.cell (World.block_lt_of_cell? w _ hw333_2)).trans hw333_2)⟩ (fun hHeld => ?_); refine dA bW.tab6 bW.bits6 (fun HT_ HW_ => ?_)
    generalize wr.drew = w11 at HB hx332_0 hx332_1 hx332_2 hx333_0 hx333_1 hx333_2 hHeld ⊢
    refine tI HT_ 0 17 10 1 ?_
    refine tI HT_ 1 18 10 3 ?_
    refine tI HT_ 2 19 10 7 ?_
    refine tI HT_ 4 21 10 23 ?_
    refine tI HT_ 5 22 10 55 ?_
    refine tI HT_ 6 23 10 119 ?_
    refine tT HT_ HW_ hHeld 3 20 10 127 ?_
    refine tT HT_ HW_ hHeld 7 24 10 255 ?_
    refine one_ (i := 8) (N := some 25) (Steps.Bs 10 511) rfl rfl (cC HT_.out z2_) z5_ (fun K hK => ?_)
    refine goes_ Tryz.func68 z2_ rfl #[.agg #[.int .i64 ((aK l0 x5_1).f0), .int .i64 ((aK l0 x5_1).f1), .string ((aK l0 x5_1).f2)], .agg #[.int .i64 ((aK l1 x5_1).f0), .int .i64 ((aK l1 x5_1).f1), .string ((aK l1 x5_1).f2)]] (by rfl) rfl rfl z0_ ?_
    with_reducible refine (eU.calls ((aK l0 x5_1).f0) ((aK l0 x5_1).f1) ((aK l0 x5_1).f2) ((aK l1 x5_1).f0) ((aK l1 x5_1).f1) ((aK l1 x5_1).f2) false _ A7.out).mono ?_
    rintro e w12 ⟨rfl, hb⟩
    refine ⟨_, rfl, ?_⟩
    have n0_ := mk_ (aA (Short.hB HB) hb)
    clear HB
    revert n0_
    intro HB
    (try clear hb)
    (try clear hb2)
    (try clear hk)
    (try clear hi)
    refine hK.out _ _ ⟨((HB.out.cell (World.block_lt_of_cell? w _ hw332_0)).trans hw332_0), ((HB.out.cell (World.block_lt_of_cell? w _ hw332_1)).trans hw332_1), ((HB.out.cell (World.block_lt_of_cell? w _ hw332_2)).trans hw332_2), ((HB.out.cell (World.block_lt_of_cell? w _ hw333_0)).trans hw333_0), ((HB.out.cell (World.block_lt_of_cell? w _ hw333_1)).trans hw333_1), ((HB.out.cell (World.block_lt_of_cell? w _ hw333_2)).trans hw333_2)⟩ (fun hHeld => ?_)
    clear hK K
    refine nrm 25 ?_
    refine tI HT_ 9 26 10 1023 ?_
    refine done_ (cE HT_.out z2_) ?_
    try go_wp2
    go_ret
    exact ⟨q0, Short.hB HB⟩
   subst c8
   rw [if_pos rfl] at H
   have H' := mk_ H
   clear H
   try go_wp2
   have n0_ := mk_ (dG HB.out)
   clear HB
   revert n0_
   intro HB
   have p332 : 0 ≤ (x5_1 : Int) := of_decide_eq_true z1_
   have q332 : x5_1 < (l0.length : Int) := of_decide_eq_true z1_
   obtain ⟨ad332, e332, hx332_0, hx332_1, hx332_2⟩ := fI HR0.out x5_1 p332 q332
   have hw332_2 := hx332_2
   have hw332_1 := hx332_1
   have hw332_0 := hx332_0
   cases e332
   replace hx332_0 := up_ HB hx332_0
   replace hx332_1 := up_ HB hx332_1
   replace hx332_2 := up_ HB hx332_2
   replace p332 := eq_true p332
   replace q332 := eq_true q332
   have p333 : 0 ≤ (x5_1 : Int) := of_decide_eq_true z1_
   have q333 : x5_1 < (l1.length : Int) := of_decide_eq_true z1_
   obtain ⟨ad333, e333, hx333_0, hx333_1, hx333_2⟩ := fI HR1.out x5_1 p333 q333
   have hw333_2 := hx333_2
   have hw333_1 := hx333_1
   have hw333_0 := hx333_0
   cases e333
   replace hx333_0 := up_ HB hx333_0
   replace hx333_1 := up_ HB hx333_1
   replace hx333_2 := up_ HB hx333_2
   replace p333 := eq_true p333
   replace q333 := eq_true q333
   refine fM (n := 10) (S := fun w' => w'.cell? (ad332.add ((x5_1).toNat * 3)) = some (.int .i64 ((aK l0 x5_1).f0)) ∧ w'.cell? ⟨(ad332.add ((x5_1).toNat * 3)).block, (ad332.add ((x5_1).toNat * 3)).off + 1, none⟩ = some (.int .i64 ((aK l0 x5_1).f1)) ∧ w'.cell? ⟨(ad332.add ((x5_1).toNat * 3)).block, (ad332.add ((x5_1).toNat * 3)).off + 2, none⟩ = some (.string ((aK l0 x5_1).f2)) ∧ w'.cell? (ad333.add ((x5_1).toNat * 3)) = some (.int .i64 ((aK l1 x5_1).f0)) ∧ w'.cell? ⟨(ad333.add ((x5_1).toNat * 3)).block, (ad333.add ((x5_1).toNat * 3)).off + 1, none⟩ = some (.int .i64 ((aK l1 x5_1).f1)) ∧ w'.cell? ⟨(ad333.add ((x5_1).toNat * 3)).block, (ad333.add ((x5_1).toNat * 3)).off + 2, none⟩ = some (.string ((aK l1 x5_1).f2))) (ds := []) (Steps.Bs 10 0) z2_ rfl rfl ⟨((HB.out.cell (World.block_lt_of_cell? w _ hw332_0)).trans hw332_0), ((HB.out.cell (World.block_lt_of_cell? w _ hw332_1)).trans hw332_1), ((HB.out.cell (World.block_lt_of_cell? w _ hw332_2)).trans hw332_2), ((HB.out.cell (World.block_lt_of_cell? w _ hw333_0)).trans hw333_0), ((HB.out.cell (World.block_lt_of_cell? w _ hw333_1)).trans hw333_1), ((HB.out.cell (World.block_lt_of_cell? w _ hw333_2)).trans hw333_2)⟩ (fun hHeld => ?_); refine dA bW.tab6 bW.bits6 (fun HT_ HW_ => ?_)
   generalize wr.drew = w9 at HB hx332_0 hx332_1 hx332_2 hx333_0 hx333_1 hx333_2 hHeld ⊢
   refine tI HT_ 0 17 10 1 ?_
   refine tI HT_ 1 18 10 3 ?_
   refine tI HT_ 2 19 10 7 ?_
   refine tI HT_ 4 21 10 23 ?_
   refine tI HT_ 5 22 10 55 ?_
   refine tI HT_ 6 23 10 119 ?_
   refine tT HT_ HW_ hHeld 3 20 10 127 ?_
   refine tT HT_ HW_ hHeld 7 24 10 255 ?_
   refine one_ (i := 8) (N := some 25) (Steps.Bs 10 511) rfl rfl (cC HT_.out z2_) z5_ (fun K hK => ?_)
   refine goes_ Tryz.func68 z2_ rfl #[.agg #[.int .i64 ((aK l0 x5_1).f0), .int .i64 ((aK l0 x5_1).f1), .string ((aK l0 x5_1).f2)], .agg #[.int .i64 ((aK l1 x5_1).f0), .int .i64 ((aK l1 x5_1).f1), .string ((aK l1 x5_1).f2)]] (by rfl) rfl rfl z0_ ?_
   with_reducible refine (eU.calls ((aK l0 x5_1).f0) ((aK l0 x5_1).f1) ((aK l0 x5_1).f2) ((aK l1 x5_1).f0) ((aK l1 x5_1).f1) ((aK l1 x5_1).f2) true _ A7.out).mono ?_
   rintro e w10 ⟨rfl, hb⟩
   refine ⟨_, rfl, ?_⟩
   have n0_ := mk_ (aA (Short.hB HB) hb)
   clear HB
   revert n0_
   intro HB
   (try clear hb)
   (try clear hb2)
   (try clear hk)
   (try clear hi)
   refine hK.out _ _ ⟨((HB.out.cell (World.block_lt_of_cell? w _ hw332_0)).trans hw332_0), ((HB.out.cell (World.block_lt_of_cell? w _ hw332_1)).trans hw332_1), ((HB.out.cell (World.block_lt_of_cell? w _ hw332_2)).trans hw332_2), ((HB.out.cell (World.block_lt_of_cell? w _ hw333_0)).trans hw333_0), ((HB.out.cell (World.block_lt_of_cell? w _ hw333_1)).trans hw333_1), ((HB.out.cell (World.block_lt_of_cell? w _ hw333_2)).trans hw333_2)⟩ (fun hHeld => ?_)
   clear hK K
   refine nrm 25 ?_
   refine tI HT_ 9 26 10 1023 ?_
   refine done_ (cE HT_.out z2_) ?_
   try go_wp2
   go_roundg k1
   case measure => have := HK1.out; omega
   case rel => exact ⟨(wrap64 (x5_1 + 1)), z3_, H', ⟨by have := HK1.out; omega⟩, ⟨Short.hB HB⟩⟩
def bU.l0 : Nat → List (S24) → List (S24) → Int → Option (Bool)
 | 0, _, _, _ => none
 | k + 1, x0, x1, x5 => if x5 < (x0.length : Int) then (if 0 ≤ x5 then (if x5 < (x1.length : Int) then ((dW.f ((aT x0 x5).f0) ((aT x0 x5).f1) ((aT x1 x5).f0) ((aT x1 x5).f1)).bind fun t337 => (if t337 = true then (bU.l0 k x0 x1 (wrap64 (x5 + 1))) else (some false))) else (none)) else (none)) else (some true)
def bU.f (k : Nat) (l0 : List (S24)) (l1 : List (S24)) : Option (Bool) := if (l0.length : Int) = (l1.length : Int) then (bU.l0 k l0 l1 0) else (some false)
def bU.T6 : Bool × List (List Nat × List Nat) := (true, [([], []), ([], []), ([0, 1], [0, 1]), ([2], [2]), ([], []), ([], []), ([4, 5], [4, 5]), ([6], [6]), ([3, 7], [3, 7]), ([8], [8])])
def bU.B6 : List Nat := [0, 0, 3, 7, 0, 0, 48, 112, 255, 511]
theorem bU.tab6 : rtab .any (opsOf Tryz.f38 6) = bU.T6 := by kernel_rfl
theorem bU.bits6 : waitsOk bU.T6.2 bU.B6 = true := by kernel_rfl
theorem bU.calls (k : Nat) (A0 : Option Addr) (c0 : Nat) (l0 : List (S24)) (A1 : Option Addr) (c1 : Nat) (l1 : List (S24)) (r : Bool) (w : World) (hr0 : Kd.C k24 w A0 l0.length l0) (hc0 : l0.length ≤ c0) (hr1 : Kd.C k24 w A1 l1.length l1) (hc1 : l1.length ≤ c1) (h : bU.f k l0 l1 = some r) :
  Calls Tryz.prog 38 #[.slice A0 l0.length c0, .slice A1 l1.length c1] w fun e w' => e = .returned (.bool r) ∧ Below w.heap.size w w' := by
 have hu24 := Tryz.underlying24
 have HR0 := mk_ hr0
 have HC0 := mk_ hc0
 clear hr0 hc0
 have HR1 := mk_ hr1
 have HC1 := mk_ hc1
 clear hr1 hc1
 have HB := mk_ (Below.refl w.heap.size w)
 have H : (if (l0.length : Int) = (l1.length : Int) then (bU.l0 k l0 l1 0) else (some false)) = some r := h
 clear h
 by_cases c3 : (l0.length : Int) = (l1.length : Int)
 rotate_left
 ·
  rw [if_neg c3] at H
  have c3b0 : ((l0.length : Int) == (l1.length : Int)) = false := beq_eq_false_iff_ne.mpr c3
  have c3b1 : ((l0.length : Int) != (l1.length : Int)) = true := bne_iff_ne.mpr c3
  have c3b2 : (l0.length == l1.length) = false := by first | simpa using c3 | (simp at c3 ⊢; omega)
  obtain rfl := Option.some.inj H
  go_enter Tryz.func38, Tryz.ntmps38
  go_wp2
  go_ret
  exact ⟨q0, Short.hB HB⟩
 rw [if_pos c3] at H
 have c3b0 : ((l0.length : Int) == (l1.length : Int)) = true := beq_iff_eq.mpr c3
 have c3b1 : ((l0.length : Int) != (l1.length : Int)) = false := bne_eq_false_iff_eq.mpr c3
 have c3b2 : (l0.length == l1.length) = true := by first | simpa using c3 | (simp at c3 ⊢; omega)
 clear c3
 have H' := mk_ H
 clear H
 go_enter Tryz.func38, Tryz.ntmps38
 go_wp2
 go_loopg [5] k (fun kq v5 w' => ∃ (x5_1 : Int), v5 = .int .i64 x5_1 ∧ Aside0 (bU.l0 kq l0 l1 x5_1 = some r) ∧ Aside0 (kq ≤ k) ∧ Aside0 (Below w.heap.size w w'))
 case atStart => exact ⟨(0), z3_, H', ⟨Nat.le_refl _⟩, ⟨Short.hB HB⟩⟩
 case round =>
  clear H'
  try clear c1
  try clear p2
  try clear c3
  try clear c3b0
  try clear c3b1
  try clear c3b2
  obtain ⟨x5_1, rfl, HA, HK1, HB⟩ := hrel
  cases gk with
  | zero => exact absurd HA.out (by simp [bU.l0])
  | succ k1 =>
   have H := HA.out
   clear HA
   simp only [bU.l0] at H
   by_cases c4 : x5_1 < (l0.length : Int)
   rotate_left
   ·
    rw [if_neg c4] at H
    have c4b0 : decide (x5_1 < (l0.length : Int)) = false := decide_eq_false c4
    clear c4
    obtain rfl := Option.some.inj H
    go_wp2
    go_ret
    exact ⟨q0, Short.hB HB⟩
   rw [if_pos c4] at H
   have c4b0 : decide (x5_1 < (l0.length : Int)) = true := decide_eq_true c4
   clear c4
   by_cases c5 : 0 ≤ x5_1
   rotate_left
   ·
    rw [if_neg c5] at H
    exact absurd H z6_
   rw [if_pos c5] at H
   have c5b0 : decide (0 ≤ x5_1) = true := decide_eq_true c5
   clear c5
   by_cases c6 : x5_1 < (l1.length : Int)
   rotate_left
   ·
    rw [if_neg c6] at H
    exact absurd H z6_
   rw [if_pos c6] at H
   have c6b0 : decide (x5_1 < (l1.length : Int)) = true := decide_eq_true c6
   clear c6
   obtain ⟨t337, A7, H⟩ := Option.bind_eq_some_iff.mp H
   replace A7 := mk_ A7
   by_cases c8 : t337 = true
   rotate_left
   ·
    replace c8 := Bool.eq_false_iff.mpr c8
    subst c8
    rw [if_neg (show ¬ (false = true) by decide)] at H
    obtain rfl := Option.some.inj H
    try go_wp2
    have n0_ := mk_ (dG HB.out)
    clear HB
    revert n0_
    intro HB
    have p335 : 0 ≤ (x5_1 : Int) := of_decide_eq_true z1_
    have q335 : x5_1 < (l0.length : Int) := of_decide_eq_true z1_
    obtain ⟨ad335, e335, hx335_0, hx335_1⟩ := fP HR0.out x5_1 p335 q335
    have hw335_1 := hx335_1
    have hw335_0 := hx335_0
    cases e335
    replace hx335_0 := up_ HB hx335_0
    replace hx335_1 := up_ HB hx335_1
    replace p335 := eq_true p335
    replace q335 := eq_true q335
    have p336 : 0 ≤ (x5_1 : Int) := of_decide_eq_true z1_
    have q336 : x5_1 < (l1.length : Int) := of_decide_eq_true z1_
    obtain ⟨ad336, e336, hx336_0, hx336_1⟩ := fP HR1.out x5_1 p336 q336
    have hw336_1 := hx336_1
    have hw336_0 := hx336_0
    cases e336
    replace hx336_0 := up_ HB hx336_0
    replace hx336_1 := up_ HB hx336_1
    replace p336 := eq_true p336
    replace q336 := eq_true q336
    refine fM (n := 10) (S := fun w' => w'.cell? (ad335.add ((x5_1).toNat * 2)) = some (.int .i64 ((aT l0 x5_1).f0)) ∧ w'.cell? ⟨(ad335.add ((x5_1).toNat * 2)).block, (ad335.add ((x5_1).toNat * 2)).off + 1, none⟩ = some (.int .i64 ((aT l0 x5_1).f1)) ∧ w'.cell? (ad336.add ((x5_1).toNat * 2)) = some (.int .i64 ((aT l1 x5_1).f0)) ∧ w'.cell? ⟨(ad336.add ((x5_1).toNat * 2)).block, (ad336.add ((x5_1).toNat * 2)).off + 1, none⟩ = some (.int .i64 ((aT l1 x5_1).f1))) (ds := []) (Steps.Bs 10 0) z2_ rfl rfl ⟨((HB.out.cell (World.block_lt_of_cell? w _ hw335_0)).trans hw335_0), ((HB.out.cell (World.block_lt_of_cell? w _ hw335_1)).trans hw335_1), ((HB.out.cell (World.block_lt_of_cell? w _ hw336_0)).trans hw336_0), ((HB.out.cell (World.block_lt_of_cell? w _ hw336_1)).trans hw336_1)⟩ (fun hHeld => ?_); refine dA bU.tab6 bU.bits6 (fun HT_ HW_ => ?_)
    generalize wr.drew = w11 at HB hx335_0 hx335_1 hx336_0 hx336_1 hHeld ⊢
    refine tI HT_ 0 17 10 1 ?_
    refine tI HT_ 1 18 10 3 ?_
    refine tI HT_ 2 19 10 7 ?_
    refine tI HT_ 4 21 10 23 ?_
    refine tI HT_ 5 22 10 55 ?_
    refine tI HT_ 6 23 10 119 ?_
    refine tT HT_ HW_ hHeld 3 20 10 127 ?_
    refine tT HT_ HW_ hHeld 7 24 10 255 ?_
    refine one_ (i := 8) (N := some 25) (Steps.Bs 10 511) rfl rfl (cC HT_.out z2_) z5_ (fun K hK => ?_)
    refine goes_ Tryz.func34 z2_ rfl #[.agg #[.int .i64 ((aT l0 x5_1).f0), .int .i64 ((aT l0 x5_1).f1)], .agg #[.int .i64 ((aT l1 x5_1).f0), .int .i64 ((aT l1 x5_1).f1)]] (by rfl) rfl rfl z0_ ?_
    with_reducible refine (dW.calls ((aT l0 x5_1).f0) ((aT l0 x5_1).f1) ((aT l1 x5_1).f0) ((aT l1 x5_1).f1) false _ A7.out).mono ?_
    rintro e w12 ⟨rfl, hb⟩
    refine ⟨_, rfl, ?_⟩
    have n0_ := mk_ (aA (Short.hB HB) hb)
    clear HB
    revert n0_
    intro HB
    (try clear hb)
    (try clear hb2)
    (try clear hk)
    (try clear hi)
    refine hK.out _ _ ⟨((HB.out.cell (World.block_lt_of_cell? w _ hw335_0)).trans hw335_0), ((HB.out.cell (World.block_lt_of_cell? w _ hw335_1)).trans hw335_1), ((HB.out.cell (World.block_lt_of_cell? w _ hw336_0)).trans hw336_0), ((HB.out.cell (World.block_lt_of_cell? w _ hw336_1)).trans hw336_1)⟩ (fun hHeld => ?_)
    clear hK K
    refine nrm 25 ?_
    refine tI HT_ 9 26 10 1023 ?_
    refine done_ (cE HT_.out z2_) ?_
    try go_wp2
    go_ret
    exact ⟨q0, Short.hB HB⟩
   subst c8
   rw [if_pos rfl] at H
   have H' := mk_ H
   clear H
   try go_wp2
   have n0_ := mk_ (dG HB.out)
   clear HB
   revert n0_
   intro HB
   have p335 : 0 ≤ (x5_1 : Int) := of_decide_eq_true z1_
   have q335 : x5_1 < (l0.length : Int) := of_decide_eq_true z1_
   obtain ⟨ad335, e335, hx335_0, hx335_1⟩ := fP HR0.out x5_1 p335 q335
   have hw335_1 := hx335_1
   have hw335_0 := hx335_0
   cases e335
   replace hx335_0 := up_ HB hx335_0
   replace hx335_1 := up_ HB hx335_1
   replace p335 := eq_true p335
   replace q335 := eq_true q335
   have p336 : 0 ≤ (x5_1 : Int) := of_decide_eq_true z1_
   have q336 : x5_1 < (l1.length : Int) := of_decide_eq_true z1_
   obtain ⟨ad336, e336, hx336_0, hx336_1⟩ := fP HR1.out x5_1 p336 q336
   have hw336_1 := hx336_1
   have hw336_0 := hx336_0
   cases e336
   replace hx336_0 := up_ HB hx336_0
   replace hx336_1 := up_ HB hx336_1
   replace p336 := eq_true p336
   replace q336 := eq_true q336
   refine fM (n := 10) (S := fun w' => w'.cell? (ad335.add ((x5_1).toNat * 2)) = some (.int .i64 ((aT l0 x5_1).f0)) ∧ w'.cell? ⟨(ad335.add ((x5_1).toNat * 2)).block, (ad335.add ((x5_1).toNat * 2)).off + 1, none⟩ = some (.int .i64 ((aT l0 x5_1).f1)) ∧ w'.cell? (ad336.add ((x5_1).toNat * 2)) = some (.int .i64 ((aT l1 x5_1).f0)) ∧ w'.cell? ⟨(ad336.add ((x5_1).toNat * 2)).block, (ad336.add ((x5_1).toNat * 2)).off + 1, none⟩ = some (.int .i64 ((aT l1 x5_1).f1))) (ds := []) (Steps.Bs 10 0) z2_ rfl rfl ⟨((HB.out.cell (World.block_lt_of_cell? w _ hw335_0)).trans hw335_0), ((HB.out.cell (World.block_lt_of_cell? w _ hw335_1)).trans hw335_1), ((HB.out.cell (World.block_lt_of_cell? w _ hw336_0)).trans hw336_0), ((HB.out.cell (World.block_lt_of_cell? w _ hw336_1)).trans hw336_1)⟩ (fun hHeld => ?_); refine dA bU.tab6 bU.bits6 (fun HT_ HW_ => ?_)
   generalize wr.drew = w9 at HB hx335_0 hx335_1 hx336_0 hx336_1 hHeld ⊢
   refine tI HT_ 0 17 10 1 ?_
   refine tI HT_ 1 18 10 3 ?_
   refine tI HT_ 2 19 10 7 ?_
   refine tI HT_ 4 21 10 23 ?_
   refine tI HT_ 5 22 10 55 ?_
   refine tI HT_ 6 23 10 119 ?_
   refine tT HT_ HW_ hHeld 3 20 10 127 ?_
   refine tT HT_ HW_ hHeld 7 24 10 255 ?_
   refine one_ (i := 8) (N := some 25) (Steps.Bs 10 511) rfl rfl (cC HT_.out z2_) z5_ (fun K hK => ?_)
   refine goes_ Tryz.func34 z2_ rfl #[.agg #[.int .i64 ((aT l0 x5_1).f0), .int .i64 ((aT l0 x5_1).f1)], .agg #[.int .i64 ((aT l1 x5_1).f0), .int .i64 ((aT l1 x5_1).f1)]] (by rfl) rfl rfl z0_ ?_
   with_reducible refine (dW.calls ((aT l0 x5_1).f0) ((aT l0 x5_1).f1) ((aT l1 x5_1).f0) ((aT l1 x5_1).f1) true _ A7.out).mono ?_
   rintro e w10 ⟨rfl, hb⟩
   refine ⟨_, rfl, ?_⟩
   have n0_ := mk_ (aA (Short.hB HB) hb)
   clear HB
   revert n0_
   intro HB
   (try clear hb)
   (try clear hb2)
   (try clear hk)
   (try clear hi)
   refine hK.out _ _ ⟨((HB.out.cell (World.block_lt_of_cell? w _ hw335_0)).trans hw335_0), ((HB.out.cell (World.block_lt_of_cell? w _ hw335_1)).trans hw335_1), ((HB.out.cell (World.block_lt_of_cell? w _ hw336_0)).trans hw336_0), ((HB.out.cell (World.block_lt_of_cell? w _ hw336_1)).trans hw336_1)⟩ (fun hHeld => ?_)
   clear hK K
   refine nrm 25 ?_
   refine tI HT_ 9 26 10 1023 ?_
   refine done_ (cE HT_.out z2_) ?_
   try go_wp2
   go_roundg k1
   case measure => have := HK1.out; omega
   case rel => exact ⟨(wrap64 (x5_1 + 1)), z3_, H', ⟨by have := HK1.out; omega⟩, ⟨Short.hB HB⟩⟩
end Go.Proofs.YtjnjfogfpmeacaaGreat.PAll
end
section
namespace Go.Proofs.YtjnjfogfpmeacaaGreat.PAll
open Go.RowKit PrintWords PrintLast PrintMore ZipT PrintWords.Kd PrintMore.Kd
attribute [local go_sem] eE eG eX eY dQ dP eF eC   -- for this text's walks alone
set_option linter.unusedVariables false
set_option linter.unusedSimpArgs false
def eM.f (k : Nat) (a0_0 : Int) (a0_1 : Int) (l0_2 : List Int) (a0_3 : Int) (a0_4 : Int) (a0_5 : Int) (a0_6 : Int) (a0_7 : Int) (a0_8 : ByteArray) (a0_9 : Int) (l0_10 : List (S102)) (l0_11 : List (S24)) (a1_0 : Int) (a1_1 : Int) (l1_2 : List Int) (a1_3 : Int) (a1_4 : Int) (a1_5 : Int) (a1_6 : Int) (a1_7 : Int) (a1_8 : ByteArray) (a1_9 : Int) (l1_10 : List (S102)) (l1_11 : List (S24)) : Option (Bool) := (dW.f a0_0 a0_1 a1_0 a1_1).bind fun t340 => (if t340 = true then ((bR.f k l0_2 l1_2).bind fun t341 => (if t341 = true then ((eK.f a0_3 a0_4 a0_5 a1_3 a1_4 a1_5).bind fun t342 => (if t342 = true then (if a0_6 = a1_6 then (if a0_7 = a1_7 then (if a0_8.toList = a1_8.toList then (if a0_9 = a1_9 then ((bW.f k l0_10 l1_10).bind fun t343 => (if t343 = true then ((bU.f k l0_11 l1_11).bind fun t344 => (some t344)) else (some false))) else (some false)) else (some false)) else (some false)) else (some false)) else (some false))) else (some false))) else (some false))
theorem eM.calls (k : Nat) (a0_0 : Int) (a0_1 : Int) (A0_2 : Option Addr) (c0_2 : Nat) (l0_2 : List Int) (a0_3 : Int) (a0_4 : Int) (a0_5 : Int) (a0_6 : Int) (a0_7 : Int) (a0_8 : ByteArray) (a0_9 : Int) (A0_10 : Option Addr) (c0_10 : Nat) (l0_10 : List (S102)) (A0_11 : Option Addr) (c0_11 : Nat) (l0_11 : List (S24)) (a1_0 : Int) (a1_1 : Int) (A1_2 : Option Addr) (c1_2 : Nat) (l1_2 : List Int) (a1_3 : Int) (a1_4 : Int) (a1_5 : Int) (a1_6 : Int) (a1_7 : Int) (a1_8 : ByteArray) (a1_9 : Int) (A1_10 : Option Addr) (c1_10 : Nat) (l1_10 : List (S102)) (A1_11 : Option Addr) (c1_11 : Nat) (l1_11 : List (S24)) (r : Bool) (w : World) (hr0_2 : Kd.C (Kd.int .i64) w A0_2 l0_2.length l0_2) (hc0_2 : l0_2.length ≤ c0_2) (hr0_10 : Kd.C k102 w A0_10 l0_10.length l0_10) (hc0_10 : l0_10.length ≤ c0_10) (hr0_11 : Kd.C k24 w A0_11 l0_11.length l0_11) (hc0_11 : l0_11.length ≤ c0_11) (hr1_2 : Kd.C (Kd.int .i64) w A1_2 l1_2.length l1_2) (hc1_2 : l1_2.length ≤ c1_2) (hr1_10 : Kd.C k102 w A1_10 l1_10.length l1_10) (hc1_10 : l1_10.length ≤ c1_10) (hr1_11 : Kd.C k24 w A1_11 l1_11.length l1_11) (hc1_11 : l1_11.length ≤ c1_11) (h : eM.f k a0_0 a0_1 l0_2 a0_3 a0_4 a0_5 a0_6 a0_7 a0_8 a0_9 l0_10 l0_11 a1_0 a1_1 l1_2 a1_3 a1_4 a1_5 a1_6 a1_7 a1_8 a1_9 l1_10 l1_11 = some r) :
  Calls Tryz.prog 15 #[.agg #[.int .i64 a0_0, .int .i64 a0_1, .slice A0_2 l0_2.length c0_2, .int .i64 a0_3, .int .i64 a0_4, .int .i64 a0_5, .int .i64 a0_6, .int .i64 a0_7, .string a0_8, .int .i64 a0_9, .slice A0_10 l0_10.length c0_10, .slice A0_11 l0_11.length c0_11], .agg #[.int .i64 a1_0, .int .i64 a1_1, .slice A1_2 l1_2.length c1_2, .int .i64 a1_3, .int .i64 a1_4, .int .i64 a1_5, .int .i64 a1_6, .int .i64 a1_7, .string a1_8, .int .i64 a1_9, .slice A1_10 l1_10.length c1_10, .slice A1_11 l1_11.length c1_11]] w fun e w' => e = .returned (.bool r) ∧ Below w.heap.size w w' := by
 have hu31 := Tryz.underlying31
 have hu24 := Tryz.underlying24
 have hu27 := Tryz.underlying27
 have HR0_2 := mk_ hr0_2
 have HC0_2 := mk_ hc0_2
 clear hr0_2 hc0_2
 have HR0_10 := mk_ hr0_10
 have HC0_10 := mk_ hc0_10
 clear hr0_10 hc0_10
 have HR0_11 := mk_ hr0_11
 have HC0_11 := mk_ hc0_11
 clear hr0_11 hc0_11
 have HR1_2 := mk_ hr1_2
 have HC1_2 := mk_ hc1_2
 clear hr1_2 hc1_2
 have HR1_10 := mk_ hr1_10
 have HC1_10 := mk_ hc1_10
 clear hr1_10 hc1_10
 have HR1_11 := mk_ hr1_11
 have HC1_11 := mk_ hc1_11
 clear hr1_11 hc1_11
 have HB := mk_ (Below.refl w.heap.size w)
 have H : ((dW.f a0_0 a0_1 a1_0 a1_1).bind fun t340 => (if t340 = true then ((bR.f k l0_2 l1_2).bind fun t341 => (if t341 = true then ((eK.f a0_3 a0_4 a0_5 a1_3 a1_4 a1_5).bind fun t342 => (if t342 = true then (if a0_6 = a1_6 then (if a0_7 = a1_7 then (if a0_8.toList = a1_8.toList then (if a0_9 = a1_9 then ((bW.f k l0_10 l1_10).bind fun t343 => (if t343 = true then ((bU.f k l0_11 l1_11).bind fun t344 => (some t344)) else (some false))) else (some false)) else (some false)) else (some false)) else (some false)) else (some false))) else (some false))) else (some false))) = some r := h
 clear h
 obtain ⟨t340, A3, H⟩ := Option.bind_eq_some_iff.mp H
 replace A3 := mk_ A3
 by_cases c4 : t340 = true
 rotate_left
 replace c4 := Bool.eq_false_iff.mpr c4
 subst c4
 rw [if_neg (show ¬ (false = true) by decide)] at H
 obtain rfl := Option.some.inj H
 rotate_right
 subst c4
 rw [if_pos rfl] at H
 obtain ⟨t341, A5, H⟩ := Option.bind_eq_some_iff.mp H
 replace A5 := mk_ A5
 by_cases c6 : t341 = true
 rotate_left
 replace c6 := Bool.eq_false_iff.mpr c6
 subst c6
 rw [if_neg (show ¬ (false = true) by decide)] at H
 obtain rfl := Option.some.inj H
 rotate_right
 subst c6
 rw [if_pos rfl] at H
 obtain ⟨t342, A7, H⟩ := Option.bind_eq_some_iff.mp H
 replace A7 := mk_ A7
 by_cases c8 : t342 = true
 rotate_left
 replace c8 := Bool.eq_false_iff.mpr c8
 subst c8
 rw [if_neg (show ¬ (false = true) by decide)] at H
 obtain rfl := Option.some.inj H
 rotate_right
 subst c8
 rw [if_pos rfl] at H
 by_cases c9 : a0_6 = a1_6
 rotate_left
 rw [if_neg c9] at H
 have c9b0 : (a0_6 == a1_6) = false := beq_eq_false_iff_ne.mpr c9
 have c9b1 : (a0_6 != a1_6) = true := bne_iff_ne.mpr c9
 obtain rfl := Option.some.inj H
 rotate_right
 rw [if_pos c9] at H
 have c9b0 : (a0_6 == a1_6) = true := beq_iff_eq.mpr c9
 have c9b1 : (a0_6 != a1_6) = false := bne_eq_false_iff_eq.mpr c9
 clear c9
 by_cases c10 : a0_7 = a1_7
 rotate_left
 rw [if_neg c10] at H
 have c10b0 : (a0_7 == a1_7) = false := beq_eq_false_iff_ne.mpr c10
 have c10b1 : (a0_7 != a1_7) = true := bne_iff_ne.mpr c10
 obtain rfl := Option.some.inj H
 rotate_right
 rw [if_pos c10] at H
 have c10b0 : (a0_7 == a1_7) = true := beq_iff_eq.mpr c10
 have c10b1 : (a0_7 != a1_7) = false := bne_eq_false_iff_eq.mpr c10
 clear c10
 by_cases c11 : a0_8.toList = a1_8.toList
 rotate_left
 rw [if_neg c11] at H
 have c11b0 : (a0_8.toList == a1_8.toList) = false := beq_eq_false_iff_ne.mpr c11
 have c11b1 : (a0_8.toList != a1_8.toList) = true := bne_iff_ne.mpr c11
 obtain rfl := Option.some.inj H
 rotate_right
 rw [if_pos c11] at H
 have c11b0 : (a0_8.toList == a1_8.toList) = true := beq_iff_eq.mpr c11
 have c11b1 : (a0_8.toList != a1_8.toList) = false := bne_eq_false_iff_eq.mpr c11
 clear c11
 by_cases c12 : a0_9 = a1_9
 rotate_left
 rw [if_neg c12] at H
 have c12b0 : (a0_9 == a1_9) = false := beq_eq_false_iff_ne.mpr c12
 have c12b1 : (a0_9 != a1_9) = true := bne_iff_ne.mpr c12
 obtain rfl := Option.some.inj H
 rotate_right
 rw [if_pos c12] at H
 have c12b0 : (a0_9 == a1_9) = true := beq_iff_eq.mpr c12
 have c12b1 : (a0_9 != a1_9) = false := bne_eq_false_iff_eq.mpr c12
 clear c12
 obtain ⟨t343, A13, H⟩ := Option.bind_eq_some_iff.mp H
 replace A13 := mk_ A13
 by_cases c14 : t343 = true
 rotate_left
 replace c14 := Bool.eq_false_iff.mpr c14
 subst c14
 rw [if_neg (show ¬ (false = true) by decide)] at H
 obtain rfl := Option.some.inj H
 rotate_right
 subst c14
 rw [if_pos rfl] at H
 obtain ⟨t344, A15, H⟩ := Option.bind_eq_some_iff.mp H
 replace A15 := mk_ A15
 obtain rfl := Option.some.inj H
 all_goals
  go_enter Tryz.func15, Tryz.ntmps15
  go_wp2_with (first | ((with_reducible refine aY (N := 2) rfl ?_); refine aZ ?hg (N := 2) ?hd (cs := #[.int .i64 a0_0, .int .i64 a0_1, .slice A0_2 l0_2.length c0_2, .int .i64 a0_3, .int .i64 a0_4, .int .i64 a0_5, .int .i64 a0_6, .int .i64 a0_7, .string a0_8, .int .i64 a0_9, .slice A0_10 l0_10.length c0_10, .slice A0_11 l0_11.length c0_11]) (t := 31) ?hr ?_; (case hd => rfl); (case hg => rfl); (case hr => first | (go_simp; done) | (go_simp; rfl)); intro gb338 hg w_2 hbox hb; have n0_ := mk_ (aA (Short.hB HB) hb); have n1_ := mk_ (hbox); have n2_ := mk_ ((by rw [hg]; exact (aC (Short.hB HB)) : w.heap.size ≤ gb338)); have n3_ := mk_ ((by rw [hg]; exact (aC (Short.hB HB)) : w.heap.size ≤ gb338)); clear HB; revert n0_ n1_ n2_ n3_; intro HB BK338 GW338 GE338; clear hb hbox hg) | ((with_reducible refine aY (N := 3) rfl ?_); refine aZ ?hg (N := 3) ?hd (cs := #[.int .i64 a1_0, .int .i64 a1_1, .slice A1_2 l1_2.length c1_2, .int .i64 a1_3, .int .i64 a1_4, .int .i64 a1_5, .int .i64 a1_6, .int .i64 a1_7, .string a1_8, .int .i64 a1_9, .slice A1_10 l1_10.length c1_10, .slice A1_11 l1_11.length c1_11]) (t := 31) ?hr ?_; (case hd => rfl); (case hg => rfl); (case hr => first | (go_simp; done) | (go_simp; rfl)); intro gb339 hg w_3 hbox hb; have n0_ := mk_ (bB_ BK338 hb); have n1_ := mk_ (aA (Short.hB HB) hb); have n2_ := mk_ (hbox); have n3_ := mk_ ((by rw [hg]; exact (aC (Short.hB HB)) : w.heap.size ≤ gb339)); have n4_ := mk_ ((by rw [hg]; exact (aC (Short.hB HB)) : w.heap.size ≤ gb339)); have n5_ := mk_ ((by rw [hg]; exact Nat.ne_of_lt (eV (Short.bK BK338)) : gb338 ≠ gb339)); have n6_ := mk_ ((by rw [hg]; exact Nat.ne_of_gt (eV (Short.bK BK338)) : gb339 ≠ gb338)); clear BK338 HB; revert n0_ n1_ n2_ n3_ n4_ n5_ n6_; intro BK338 HB BK339 GW339 GE339 NB338_339 NB339_338; clear hb hbox hg; have hnb_3 := NB338_339.out; have hnc_3 := NB339_338.out; have hcz_0 := aD BK338.out; have hfz_0 := aQ BK338.out; have hcz_0 := aD BK339.out; have hfz_0 := aQ BK339.out) | ((with_reducible refine aJ (f := 34) rfl ?_); refine Short.gL (some 9) Tryz.func34 #[.agg #[.int .i64 a0_0, .int .i64 a0_1], .agg #[.int .i64 a1_0, .int .i64 a1_1]] (h := ?_); (with_reducible refine (dW.calls a0_0 a0_1 a1_0 a1_1 false _ A3.out).mono ?_); rintro e w_9 ⟨rfl, hb⟩; refine ⟨_, rfl, ?_⟩; have n0_ := mk_ (bB_ BK338 hb); have n1_ := mk_ (bB_ BK339 hb); have n2_ := mk_ (aA (Short.hB HB) hb); clear BK338 BK339 HB; revert n0_ n1_ n2_; intro BK338 BK339 HB; (try clear hb)) | ((with_reducible refine aJ (f := 34) rfl ?_); refine Short.gL (some 9) Tryz.func34 #[.agg #[.int .i64 a0_0, .int .i64 a0_1], .agg #[.int .i64 a1_0, .int .i64 a1_1]] (h := ?_); (with_reducible refine (dW.calls a0_0 a0_1 a1_0 a1_1 true _ A3.out).mono ?_); rintro e w_9 ⟨rfl, hb⟩; refine ⟨_, rfl, ?_⟩; have n0_ := mk_ (bB_ BK338 hb); have n1_ := mk_ (bB_ BK339 hb); have n2_ := mk_ (aA (Short.hB HB) hb); clear BK338 BK339 HB; revert n0_ n1_ n2_; intro BK338 BK339 HB; (try clear hb); have hcz_0 := aD BK338.out; have hfz_0 := aQ BK338.out; have hcz_0 := aD BK339.out; have hfz_0 := aQ BK339.out) | (go_at_call 35; (with_reducible refine (bR.calls k _ _ l0_2 _ _ l1_2 _ _ ?side1 ?side2 ?side3 ?side4 A5.out).mono ?_); (case side1 => exact cX_ (aV HR0_2.out HB.out)); (case side2 => exact HC0_2.out); (case side3 => exact cX_ (aV HR1_2.out HB.out)); (case side4 => exact HC1_2.out); rintro e w' ⟨rfl, ⟨nd, rfl⟩⟩) | (go_at_call 36; (with_reducible refine (eK.calls a0_3 a0_4 a0_5 a1_3 a1_4 a1_5 false _ A7.out).mono ?_); rintro e w_x4 ⟨rfl, hb⟩; have n0_ := mk_ (bB_ BK338 hb); have n1_ := mk_ (bB_ BK339 hb); have n2_ := mk_ (aA (Short.hB HB) hb); clear BK338 BK339 HB; revert n0_ n1_ n2_; intro BK338 BK339 HB; (try clear hb); (try clear hb2); (try clear hk); (try clear hi)) | (go_at_call 36; (with_reducible refine (eK.calls a0_3 a0_4 a0_5 a1_3 a1_4 a1_5 true _ A7.out).mono ?_); rintro e w_x4 ⟨rfl, hb⟩; have n0_ := mk_ (bB_ BK338 hb); have n1_ := mk_ (bB_ BK339 hb); have n2_ := mk_ (aA (Short.hB HB) hb); clear BK338 BK339 HB; revert n0_ n1_ n2_; intro BK338 BK339 HB; (try clear hb); (try clear hb2); (try clear hk); (try clear hi); have hcz_0 := aD BK338.out; have hfz_0 := aQ BK338.out; have hcz_0 := aD BK339.out; have hfz_0 := aQ BK339.out) | (go_at_call 37; (with_reducible refine (bW.calls k _ _ l0_10 _ _ l1_10 false _ ?side1 ?side2 ?side3 ?side4 A13.out).mono ?_); (case side1 => exact cX_ (aV HR0_10.out HB.out)); (case side2 => exact HC0_10.out); (case side3 => exact cX_ (aV HR1_10.out HB.out)); (case side4 => exact HC1_10.out); rintro e w_x5 ⟨rfl, hb⟩; have n0_ := mk_ (bB_ BK338 hb); have n1_ := mk_ (bB_ BK339 hb); have n2_ := mk_ (aA (Short.hB HB) hb); clear BK338 BK339 HB; revert n0_ n1_ n2_; intro BK338 BK339 HB; (try clear hb); (try clear hb2); (try clear hk); (try clear hi)) | (go_at_call 37; (with_reducible refine (bW.calls k _ _ l0_10 _ _ l1_10 true _ ?side1 ?side2 ?side3 ?side4 A13.out).mono ?_); (case side1 => exact cX_ (aV HR0_10.out HB.out)); (case side2 => exact HC0_10.out); (case side3 => exact cX_ (aV HR1_10.out HB.out)); (case side4 => exact HC1_10.out); rintro e w_x5 ⟨rfl, hb⟩; have n0_ := mk_ (bB_ BK338 hb); have n1_ := mk_ (bB_ BK339 hb); have n2_ := mk_ (aA (Short.hB HB) hb); clear BK338 BK339 HB; revert n0_ n1_ n2_; intro BK338 BK339 HB; (try clear hb); (try clear hb2); (try clear hk); (try clear hi); have hcz_0 := aD BK338.out; have hfz_0 := aQ BK338.out; have hcz_0 := aD BK339.out; have hfz_0 := aQ BK339.out) | (go_at_call 38; (with_reducible refine (bU.calls k _ _ l0_11 _ _ l1_11 t344 _ ?side1 ?side2 ?side3 ?side4 A15.out).mono ?_); (case side1 => exact cX_ (aV HR0_11.out HB.out)); (case side2 => exact HC0_11.out); (case side3 => exact cX_ (aV HR1_11.out HB.out)); (case side4 => exact HC1_11.out); rintro e w_x6 ⟨rfl, hb⟩; have n0_ := mk_ (bB_ BK338 hb); have n1_ := mk_ (bB_ BK339 hb); have n2_ := mk_ (aA (Short.hB HB) hb); clear BK338 BK339 HB; revert n0_ n1_ n2_; intro BK338 BK339 HB; (try clear hb); (try clear hb2); (try clear hk); (try clear hi)))
  go_ret
  exact ⟨q0, Short.hB HB⟩
def cW.l0 : Nat → List (S53) → List (S53) → Int → Option (Bool)
 | 0, _, _, _ => none
 | k + 1, x0, x1, x5 => if x5 < (x0.length : Int) then (if 0 ≤ x5 then (if x5 < (x1.length : Int) then ((bR.f k ((cS x0 x5).f0) ((cS x1 x5).f0)).bind fun t347 => (if t347 = true then (cW.l0 k x0 x1 (wrap64 (x5 + 1))) else (some false))) else (none)) else (none)) else (some true)
def cW.f (k : Nat) (l0 : List (S53)) (l1 : List (S53)) : Option (Bool) := if (l0.length : Int) = (l1.length : Int) then (cW.l0 k l0 l1 0) else (some false)
theorem cW.calls (k : Nat) (A0 : Option Addr) (c0 : Nat) (l0 : List (S53)) (A1 : Option Addr) (c1 : Nat) (l1 : List (S53)) (r : Bool) (w : World) (hr0 : Kd.C k53 w A0 l0.length l0) (hc0 : l0.length ≤ c0) (hr1 : Kd.C k53 w A1 l1.length l1) (hc1 : l1.length ≤ c1) (h : cW.f k l0 l1 = some r) :
  Calls Tryz.prog 16 #[.slice A0 l0.length c0, .slice A1 l1.length c1] w fun e w' => e = .returned (.bool r) ∧ Drawn0 w w' := by
 have HR0 := mk_ hr0
 have HC0 := mk_ hc0
 clear hr0 hc0
 have HR1 := mk_ hr1
 have HC1 := mk_ hc1
 clear hr1 hc1
 have H : (if (l0.length : Int) = (l1.length : Int) then (cW.l0 k l0 l1 0) else (some false)) = some r := h
 clear h
 by_cases c3 : (l0.length : Int) = (l1.length : Int)
 rotate_left
 ·
  rw [if_neg c3] at H
  have c3b0 : ((l0.length : Int) == (l1.length : Int)) = false := beq_eq_false_iff_ne.mpr c3
  have c3b1 : ((l0.length : Int) != (l1.length : Int)) = true := bne_iff_ne.mpr c3
  have c3b2 : (l0.length == l1.length) = false := by first | simpa using c3 | (simp at c3 ⊢; omega)
  obtain rfl := Option.some.inj H
  go_enter Tryz.func16, Tryz.ntmps16
  go_wp2
  repeat (go_quiet (fail); try go_wp2)
  go_ret
  exact ⟨z3_, by repeat (first | exact Drawn0.refl _ | apply Drawn0.step)⟩
 rw [if_pos c3] at H
 have c3b0 : ((l0.length : Int) == (l1.length : Int)) = true := beq_iff_eq.mpr c3
 have c3b1 : ((l0.length : Int) != (l1.length : Int)) = false := bne_eq_false_iff_eq.mpr c3
 have c3b2 : (l0.length == l1.length) = true := by first | simpa using c3 | (simp at c3 ⊢; omega)
 clear c3
 have H' := mk_ H
 clear H
 go_enter Tryz.func16, Tryz.ntmps16
 go_wp2
 repeat (go_quiet (fail); try go_wp2)
 go_loopg [5] k (fun kq v5 w' => ∃ (x5_1 : Int), v5 = .int .i64 x5_1 ∧ Aside0 (cW.l0 kq l0 l1 x5_1 = some r) ∧ Aside0 (kq ≤ k) ∧ Drawn0 w w')
 case atStart => exact ⟨(0), z3_, H', ⟨Nat.le_refl _⟩, by repeat (first | exact Drawn0.refl _ | apply Drawn0.step)⟩
 case round =>
  clear H'
  try clear c1
  try clear p2
  try clear c3
  try clear c3b0
  try clear c3b1
  try clear c3b2
  obtain ⟨x5_1, rfl, HA, HK1, ⟨m1, rfl⟩⟩ := hrel
  cases gk with
  | zero => exact absurd HA.out (by simp [cW.l0])
  | succ k1 =>
   have H := HA.out
   clear HA
   simp only [cW.l0] at H
   by_cases c4 : x5_1 < (l0.length : Int)
   rotate_left
   ·
    rw [if_neg c4] at H
    have c4b0 : decide (x5_1 < (l0.length : Int)) = false := decide_eq_false c4
    clear c4
    obtain rfl := Option.some.inj H
    go_wp2
    repeat (go_quiet (fail); try go_wp2)
    go_ret
    exact ⟨z3_, by repeat (first | exact Drawn0.refl _ | apply Drawn0.step)⟩
   rw [if_pos c4] at H
   have c4b0 : decide (x5_1 < (l0.length : Int)) = true := decide_eq_true c4
   clear c4
   by_cases c5 : 0 ≤ x5_1
   rotate_left
   ·
    rw [if_neg c5] at H
    exact absurd H z6_
   rw [if_pos c5] at H
   have c5b0 : decide (0 ≤ x5_1) = true := decide_eq_true c5
   clear c5
   by_cases c6 : x5_1 < (l1.length : Int)
   rotate_left
   ·
    rw [if_neg c6] at H
    exact absurd H z6_
   rw [if_pos c6] at H
   have c6b0 : decide (x5_1 < (l1.length : Int)) = true := decide_eq_true c6
   clear c6
   obtain ⟨t347, A7, H⟩ := Option.bind_eq_some_iff.mp H
   replace A7 := mk_ A7
   by_cases c8 : t347 = true
   rotate_left
   ·
    replace c8 := Bool.eq_false_iff.mpr c8
    subst c8
    rw [if_neg (show ¬ (false = true) by decide)] at H
    obtain rfl := Option.some.inj H
    have p345 : 0 ≤ (x5_1 : Int) := of_decide_eq_true z1_
    have q345 : x5_1 < (l0.length : Int) := of_decide_eq_true z1_
    obtain ⟨ad345, A345_0, c345_0, e345, hx345_0, hl345_0, hi345_0⟩ := fO HR0.out x5_1 p345 q345
    cases e345
    have HR345_0 := mk_ hi345_0
    have HC345_0 := mk_ hl345_0
    clear hi345_0 hl345_0
    replace p345 := eq_true p345
    replace q345 := eq_true q345
    have p346 : 0 ≤ (x5_1 : Int) := of_decide_eq_true z1_
    have q346 : x5_1 < (l1.length : Int) := of_decide_eq_true z1_
    obtain ⟨ad346, A346_0, c346_0, e346, hx346_0, hl346_0, hi346_0⟩ := fO HR1.out x5_1 p346 q346
    cases e346
    have HR346_0 := mk_ hi346_0
    have HC346_0 := mk_ hl346_0
    clear hi346_0 hl346_0
    replace p346 := eq_true p346
    replace q346 := eq_true q346
    go_wp2_with (first | (go_at_call 35; (with_reducible refine (bR.calls k1 _ _ ((cS l0 x5_1).f0) _ _ ((cS l1 x5_1).f0) false _ ?side1 ?side2 ?side3 ?side4 A7.out).mono ?_); (case side1 => repeat (first | exact HR345_0.out | (with_reducible refine C_alloc ?_ _) | (with_reducible refine C_drewN ?_ _) | (with_reducible refine C_drew ?_))); (case side2 => exact HC345_0.out); (case side3 => repeat (first | exact HR346_0.out | (with_reducible refine C_alloc ?_ _) | (with_reducible refine C_drewN ?_ _) | (with_reducible refine C_drew ?_))); (case side4 => exact HC346_0.out); rintro e w' ⟨rfl, ⟨nd, rfl⟩⟩; (try first | exact ⟨rfl, _, World.drewN_drewN _ _ _⟩ | exact ⟨rfl, _, Eq.trans (World.drewN_drewN _ _ _) (congrArg (World.drewN _) (Nat.add_assoc _ _ _))⟩)))
    repeat (go_quiet (first | (go_at_call 35; (with_reducible refine (bR.calls k1 _ _ ((cS l0 x5_1).f0) _ _ ((cS l1 x5_1).f0) false _ ?side1 ?side2 ?side3 ?side4 A7.out).mono ?_); (case side1 => repeat (first | exact HR345_0.out | (with_reducible refine C_alloc ?_ _) | (with_reducible refine C_drewN ?_ _) | (with_reducible refine C_drew ?_))); (case side2 => exact HC345_0.out); (case side3 => repeat (first | exact HR346_0.out | (with_reducible refine C_alloc ?_ _) | (with_reducible refine C_drewN ?_ _) | (with_reducible refine C_drew ?_))); (case side4 => exact HC346_0.out); rintro e w' ⟨rfl, ⟨nd, rfl⟩⟩; (try first | exact ⟨rfl, _, World.drewN_drewN _ _ _⟩ | exact ⟨rfl, _, Eq.trans (World.drewN_drewN _ _ _) (congrArg (World.drewN _) (Nat.add_assoc _ _ _))⟩))); try go_wp2_with (first | (go_at_call 35; (with_reducible refine (bR.calls k1 _ _ ((cS l0 x5_1).f0) _ _ ((cS l1 x5_1).f0) false _ ?side1 ?side2 ?side3 ?side4 A7.out).mono ?_); (case side1 => repeat (first | exact HR345_0.out | (with_reducible refine C_alloc ?_ _) | (with_reducible refine C_drewN ?_ _) | (with_reducible refine C_drew ?_))); (case side2 => exact HC345_0.out); (case side3 => repeat (first | exact HR346_0.out | (with_reducible refine C_alloc ?_ _) | (with_reducible refine C_drewN ?_ _) | (with_reducible refine C_drew ?_))); (case side4 => exact HC346_0.out); rintro e w' ⟨rfl, ⟨nd, rfl⟩⟩; (try first | exact ⟨rfl, _, World.drewN_drewN _ _ _⟩ | exact ⟨rfl, _, Eq.trans (World.drewN_drewN _ _ _) (congrArg (World.drewN _) (Nat.add_assoc _ _ _))⟩))))
    go_ret
    exact ⟨z3_, by repeat (first | exact Drawn0.refl _ | apply Drawn0.step)⟩
   subst c8
   rw [if_pos rfl] at H
   have H' := mk_ H
   clear H
   have p345 : 0 ≤ (x5_1 : Int) := of_decide_eq_true z1_
   have q345 : x5_1 < (l0.length : Int) := of_decide_eq_true z1_
   obtain ⟨ad345, A345_0, c345_0, e345, hx345_0, hl345_0, hi345_0⟩ := fO HR0.out x5_1 p345 q345
   cases e345
   have HR345_0 := mk_ hi345_0
   have HC345_0 := mk_ hl345_0
   clear hi345_0 hl345_0
   replace p345 := eq_true p345
   replace q345 := eq_true q345
   have p346 : 0 ≤ (x5_1 : Int) := of_decide_eq_true z1_
   have q346 : x5_1 < (l1.length : Int) := of_decide_eq_true z1_
   obtain ⟨ad346, A346_0, c346_0, e346, hx346_0, hl346_0, hi346_0⟩ := fO HR1.out x5_1 p346 q346
   cases e346
   have HR346_0 := mk_ hi346_0
   have HC346_0 := mk_ hl346_0
   clear hi346_0 hl346_0
   replace p346 := eq_true p346
   replace q346 := eq_true q346
   go_wp2_with (first | (go_at_call 35; (with_reducible refine (bR.calls k1 _ _ ((cS l0 x5_1).f0) _ _ ((cS l1 x5_1).f0) true _ ?side1 ?side2 ?side3 ?side4 A7.out).mono ?_); (case side1 => repeat (first | exact HR345_0.out | (with_reducible refine C_alloc ?_ _) | (with_reducible refine C_drewN ?_ _) | (with_reducible refine C_drew ?_))); (case side2 => exact HC345_0.out); (case side3 => repeat (first | exact HR346_0.out | (with_reducible refine C_alloc ?_ _) | (with_reducible refine C_drewN ?_ _) | (with_reducible refine C_drew ?_))); (case side4 => exact HC346_0.out); rintro e w' ⟨rfl, ⟨nd, rfl⟩⟩; (try first | exact ⟨rfl, _, World.drewN_drewN _ _ _⟩ | exact ⟨rfl, _, Eq.trans (World.drewN_drewN _ _ _) (congrArg (World.drewN _) (Nat.add_assoc _ _ _))⟩)))
   repeat (go_quiet (first | (go_at_call 35; (with_reducible refine (bR.calls k1 _ _ ((cS l0 x5_1).f0) _ _ ((cS l1 x5_1).f0) true _ ?side1 ?side2 ?side3 ?side4 A7.out).mono ?_); (case side1 => repeat (first | exact HR345_0.out | (with_reducible refine C_alloc ?_ _) | (with_reducible refine C_drewN ?_ _) | (with_reducible refine C_drew ?_))); (case side2 => exact HC345_0.out); (case side3 => repeat (first | exact HR346_0.out | (with_reducible refine C_alloc ?_ _) | (with_reducible refine C_drewN ?_ _) | (with_reducible refine C_drew ?_))); (case side4 => exact HC346_0.out); rintro e w' ⟨rfl, ⟨nd, rfl⟩⟩; (try first | exact ⟨rfl, _, World.drewN_drewN _ _ _⟩ | exact ⟨rfl, _, Eq.trans (World.drewN_drewN _ _ _) (congrArg (World.drewN _) (Nat.add_assoc _ _ _))⟩))); try go_wp2_with (first | (go_at_call 35; (with_reducible refine (bR.calls k1 _ _ ((cS l0 x5_1).f0) _ _ ((cS l1 x5_1).f0) true _ ?side1 ?side2 ?side3 ?side4 A7.out).mono ?_); (case side1 => repeat (first | exact HR345_0.out | (with_reducible refine C_alloc ?_ _) | (with_reducible refine C_drewN ?_ _) | (with_reducible refine C_drew ?_))); (case side2 => exact HC345_0.out); (case side3 => repeat (first | exact HR346_0.out | (with_reducible refine C_alloc ?_ _) | (with_reducible refine C_drewN ?_ _) | (with_reducible refine C_drew ?_))); (case side4 => exact HC346_0.out); rintro e w' ⟨rfl, ⟨nd, rfl⟩⟩; (try first | exact ⟨rfl, _, World.drewN_drewN _ _ _⟩ | exact ⟨rfl, _, Eq.trans (World.drewN_drewN _ _ _) (congrArg (World.drewN _) (Nat.add_assoc _ _ _))⟩))))
   go_roundg k1
   case measure => have := HK1.out; omega
   case rel => exact ⟨(wrap64 (x5_1 + 1)), z3_, H', ⟨by have := HK1.out; omega⟩, by repeat (first | exact Drawn0.refl _ | apply Drawn0.step)⟩
def aX.f (a0 : Int) (a1 : Int) : Option (Bool) := if a0 ≥ 0 then (if 0 ≤ (IntKind.u64.wrap (wrap64 (8 * a1))) then (some ((shr .i64 a0 (IntKind.u64.wrap (wrap64 (8 * a1)))) == 0)) else (none)) else (some false)
theorem aX.calls (a0 : Int) (a1 : Int) (r : Bool) (w : World) (h : aX.f a0 a1 = some r) :
  Calls Tryz.prog 39 #[.int .i64 a0, .int .i64 a1] w fun e w' => e = .returned (.bool r) ∧ Drawn0 w w' := by
 have H : (if a0 ≥ 0 then (if 0 ≤ (IntKind.u64.wrap (wrap64 (8 * a1))) then (some ((shr .i64 a0 (IntKind.u64.wrap (wrap64 (8 * a1)))) == 0)) else (none)) else (some false)) = some r := h
 clear h
 by_cases c3 : a0 ≥ 0
 rotate_left
 rw [if_neg c3] at H
 have c3b0 : decide (0 ≤ a0) = false := decide_eq_false c3
 clear c3
 obtain rfl := Option.some.inj H
 rotate_right
 rw [if_pos c3] at H
 have c3b0 : decide (0 ≤ a0) = true := decide_eq_true c3
 clear c3
 obtain ⟨ji4, hji4⟩ : ∃ j_ : Int, (IntKind.u64.wrap (wrap64 (8 * a1))) = j_ := ⟨_, rfl⟩
 replace H : (if 0 ≤ (ji4) then (some ((shr .i64 a0 (ji4)) == 0)) else (none)) = some r := by first | (rw [hji4] at H; exact H) | (simp only [hji4] at H ⊢; exact H)
 by_cases c5 : 0 ≤ (ji4)
 rotate_left
 rw [if_neg c5] at H
 exact absurd H z6_
 rotate_right
 rw [if_pos c5] at H
 have c5b0 := eq_true c5
 have c5b1 : decide (0 ≤ (ji4)) = true := decide_eq_true c5
 clear c5
 obtain ⟨ji6, hji6⟩ : ∃ j_ : Int, (shr .i64 a0 (ji4)) = j_ := ⟨_, rfl⟩
 replace H : (some ((ji6) == 0)) = some r := by first | (rw [hji6] at H; exact H) | (simp only [hji6] at H ⊢; exact H)
 have hji6_ : (a0 / 2 ^ min (ji4).toNat 64) = ji6 := hji6
 have hji6z : (ji4) ≤ 64 → (a0 / 2 ^ (ji4).toNat) = ji6 := shr_small hji6
 obtain rfl := Option.some.inj H
 all_goals
  go_enter Tryz.func39, Tryz.ntmps39
  go_wp2
  go_ret
  first | exact ⟨z3_, by repeat (first | exact Drawn0.refl _ | apply Drawn0.step)⟩ | exact ⟨by first | rfl | (simp; done) | (simp only [← hji4, ← hji6] <;> (first | rfl | simp)) | (simp [*]; done), by repeat (first | exact Drawn0.refl _ | apply Drawn0.step)⟩
def cD.f (a0_0 : Int) (a0_1 : Int) : Option (Bool) := (aX.f a0_0 1).bind fun t349 => (if t349 = true then ((aX.f a0_1 4).bind fun t350 => (some t350)) else (some false))
theorem cD.calls (a0_0 : Int) (a0_1 : Int) (r : Bool) (w : World) (h : cD.f a0_0 a0_1 = some r) :
  Calls Tryz.prog 40 #[.agg #[.int .i64 a0_0, .int .i64 a0_1]] w fun e w' => e = .returned (.bool r) ∧ Below w.heap.size w w' := by
 have hu24 := Tryz.underlying24
 have HB := mk_ (Below.refl w.heap.size w)
 have H : ((aX.f a0_0 1).bind fun t349 => (if t349 = true then ((aX.f a0_1 4).bind fun t350 => (some t350)) else (some false))) = some r := h
 clear h
 obtain ⟨t349, A2, H⟩ := Option.bind_eq_some_iff.mp H
 replace A2 := mk_ A2
 by_cases c3 : t349 = true
 rotate_left
 replace c3 := Bool.eq_false_iff.mpr c3
 subst c3
 rw [if_neg (show ¬ (false = true) by decide)] at H
 obtain rfl := Option.some.inj H
 rotate_right
 subst c3
 rw [if_pos rfl] at H
 obtain ⟨t350, A4, H⟩ := Option.bind_eq_some_iff.mp H
 replace A4 := mk_ A4
 obtain rfl := Option.some.inj H
 all_goals
  go_enter Tryz.func40, Tryz.ntmps40
  go_wp2_with (first | ((with_reducible refine aY (N := 1) rfl ?_); refine aZ ?hg (N := 1) ?hd (cs := #[.int .i64 a0_0, .int .i64 a0_1]) (t := 24) ?hr ?_; (case hd => rfl); (case hg => rfl); (case hr => first | (go_simp; done) | (go_simp; rfl)); intro gb348 hg w_1 hbox hb; have n0_ := mk_ (aA (Short.hB HB) hb); have n1_ := mk_ (hbox); have n2_ := mk_ ((by rw [hg]; exact (aC (Short.hB HB)) : w.heap.size ≤ gb348)); have n3_ := mk_ ((by rw [hg]; exact (aC (Short.hB HB)) : w.heap.size ≤ gb348)); clear HB; revert n0_ n1_ n2_ n3_; intro HB BK348 GW348 GE348; clear hb hbox hg; obtain ⟨hcz_0, hcz_1, hfz_0, hfz_1⟩ := Short.c2 BK348.out) | ((with_reducible refine aJ (f := 39) rfl ?_); refine Short.gL (some 5) Tryz.func39 #[.int .i64 a0_0, .int .i64 1] (h := ?_); (with_reducible refine (aX.calls a0_0 1 _ _ A2.out).mono ?_); rintro e w' ⟨rfl, ⟨nd, rfl⟩⟩; refine ⟨_, rfl, ?_⟩) | (go_at_call 39; (with_reducible refine (aX.calls a0_1 4 t350 _ A4.out).mono ?_); rintro e w' ⟨rfl, ⟨nd, rfl⟩⟩))
  go_ret
  exact ⟨q0, Short.hB HB⟩
def bG.l0 : Nat → List Int → Int → Option (Bool)
 | 0, _, _ => none
 | k + 1, x0, x3 => if x3 < (x0.length : Int) then (if 0 ≤ x3 then ((aX.f (rd x0 x3) 4).bind fun t352 => (if t352 = true then (bG.l0 k x0 (wrap64 (x3 + 1))) else (some false))) else (none)) else (some (decide ((x0.length : Int) ≤ 5)))
def bG.f (k : Nat) (l0 : List Int) : Option (Bool) := bG.l0 k l0 0
theorem bG.calls (k : Nat) (A0 : Option Addr) (c0 : Nat) (l0 : List Int) (r : Bool) (w : World) (hr0 : Kd.C (Kd.int .i64) w A0 l0.length l0) (hc0 : l0.length ≤ c0) (h : bG.f k l0 = some r) :
  Calls Tryz.prog 41 #[.slice A0 l0.length c0] w fun e w' => e = .returned (.bool r) ∧ Drawn0 w w' := by
 have HR0 := mk_ hr0
 have HC0 := mk_ hc0
 clear hr0 hc0
 have H : (bG.l0 k l0 0) = some r := h
 clear h
 have H' := mk_ H
 clear H
 go_enter Tryz.func41, Tryz.ntmps41
 go_wp2
 go_loopg [3] k (fun kq v3 w' => ∃ (x3_1 : Int), v3 = .int .i64 x3_1 ∧ Aside0 (bG.l0 kq l0 x3_1 = some r) ∧ Aside0 (kq ≤ k) ∧ Drawn0 w w')
 case atStart => exact ⟨(0), z3_, H', ⟨Nat.le_refl _⟩, by repeat (first | exact Drawn0.refl _ | apply Drawn0.step)⟩
 case round =>
  clear H'
  obtain ⟨x3_1, rfl, HA, HK1, ⟨m1, rfl⟩⟩ := hrel
  cases gk with
  | zero => exact absurd HA.out (by simp [bG.l0])
  | succ k1 =>
   have H := HA.out
   clear HA
   simp only [bG.l0] at H
   by_cases c2 : x3_1 < (l0.length : Int)
   rotate_left
   ·
    rw [if_neg c2] at H
    have c2b0 : decide (x3_1 < (l0.length : Int)) = false := decide_eq_false c2
    clear c2
    obtain rfl := Option.some.inj H
    go_wp2
    go_ret
    exact ⟨z3_, by repeat (first | exact Drawn0.refl _ | apply Drawn0.step)⟩
   rw [if_pos c2] at H
   have c2b0 : decide (x3_1 < (l0.length : Int)) = true := decide_eq_true c2
   clear c2
   by_cases c3 : 0 ≤ x3_1
   rotate_left
   ·
    rw [if_neg c3] at H
    exact absurd H z6_
   rw [if_pos c3] at H
   have c3b0 : decide (0 ≤ x3_1) = true := decide_eq_true c3
   clear c3
   obtain ⟨t352, A4, H⟩ := Option.bind_eq_some_iff.mp H
   replace A4 := mk_ A4
   by_cases c5 : t352 = true
   rotate_left
   ·
    replace c5 := Bool.eq_false_iff.mpr c5
    subst c5
    rw [if_neg (show ¬ (false = true) by decide)] at H
    obtain rfl := Option.some.inj H
    have p351 : 0 ≤ (x3_1 : Int) := of_decide_eq_true z1_
    have q351 : x3_1 < (l0.length : Int) := of_decide_eq_true z1_
    obtain ⟨ad351, e351, hx351_0⟩ := Kd.at_int HR0.out x3_1 p351 q351
    cases e351
    replace p351 := eq_true p351
    replace q351 := eq_true q351
    go_wp2_with (first | ((with_reducible refine aJ (f := 39) rfl ?_); refine Short.gL (some 14) Tryz.func39 #[.int .i64 (rd l0 x3_1), .int .i64 4] (h := ?_); (with_reducible refine (aX.calls (rd l0 x3_1) 4 false _ A4.out).mono ?_); rintro e w' ⟨rfl, ⟨nd, rfl⟩⟩; refine ⟨_, rfl, ?_⟩))
    go_ret
    exact ⟨z3_, by repeat (first | exact Drawn0.refl _ | apply Drawn0.step)⟩
   subst c5
   rw [if_pos rfl] at H
   have H' := mk_ H
   clear H
   have p351 : 0 ≤ (x3_1 : Int) := of_decide_eq_true z1_
   have q351 : x3_1 < (l0.length : Int) := of_decide_eq_true z1_
   obtain ⟨ad351, e351, hx351_0⟩ := Kd.at_int HR0.out x3_1 p351 q351
   cases e351
   replace p351 := eq_true p351
   replace q351 := eq_true q351
   go_wp2_with (first | ((with_reducible refine aJ (f := 39) rfl ?_); refine Short.gL (some 14) Tryz.func39 #[.int .i64 (rd l0 x3_1), .int .i64 4] (h := ?_); (with_reducible refine (aX.calls (rd l0 x3_1) 4 true _ A4.out).mono ?_); rintro e w' ⟨rfl, ⟨nd, rfl⟩⟩; refine ⟨_, rfl, ?_⟩))
   go_roundg k1
   case measure => have := HK1.out; omega
   case rel => exact ⟨(wrap64 (x3_1 + 1)), z3_, H', ⟨by have := HK1.out; omega⟩, by repeat (first | exact Drawn0.refl _ | apply Drawn0.step)⟩
def cQ.f (a0_0 : Int) (a0_1 : Int) (a0_2 : Int) : Option (Bool) := (aX.f a0_0 6).bind fun t354 => (if t354 = true then ((aX.f a0_1 3).bind fun t355 => (if t355 = true then ((aX.f a0_2 1).bind fun t356 => (some t356)) else (some false))) else (some false))
theorem cQ.calls (a0_0 : Int) (a0_1 : Int) (a0_2 : Int) (r : Bool) (w : World) (h : cQ.f a0_0 a0_1 a0_2 = some r) :
  Calls Tryz.prog 42 #[.agg #[.int .i64 a0_0, .int .i64 a0_1, .int .i64 a0_2]] w fun e w' => e = .returned (.bool r) ∧ Below w.heap.size w w' := by
 have hu27 := Tryz.underlying27
 have HB := mk_ (Below.refl w.heap.size w)
 have H : ((aX.f a0_0 6).bind fun t354 => (if t354 = true then ((aX.f a0_1 3).bind fun t355 => (if t355 = true then ((aX.f a0_2 1).bind fun t356 => (some t356)) else (some false))) else (some false))) = some r := h
 clear h
 obtain ⟨t354, A2, H⟩ := Option.bind_eq_some_iff.mp H
 replace A2 := mk_ A2
 by_cases c3 : t354 = true
 rotate_left
 replace c3 := Bool.eq_false_iff.mpr c3
 subst c3
 rw [if_neg (show ¬ (false = true) by decide)] at H
 obtain rfl := Option.some.inj H
 rotate_right
 subst c3
 rw [if_pos rfl] at H
 obtain ⟨t355, A4, H⟩ := Option.bind_eq_some_iff.mp H
 replace A4 := mk_ A4
 by_cases c5 : t355 = true
 rotate_left
 replace c5 := Bool.eq_false_iff.mpr c5
 subst c5
 rw [if_neg (show ¬ (false = true) by decide)] at H
 obtain rfl := Option.some.inj H
 rotate_right
 subst c5
 rw [if_pos rfl] at H
 obtain ⟨t356, A6, H⟩ := Option.bind_eq_some_iff.mp H
 replace A6 := mk_ A6
 obtain rfl := Option.some.inj H
 all_goals
  go_enter Tryz.func42, Tryz.ntmps42
  go_wp2_with (first | ((with_reducible refine aY (N := 1) rfl ?_); refine aZ ?hg (N := 1) ?hd (cs := #[.int .i64 a0_0, .int .i64 a0_1, .int .i64 a0_2]) (t := 27) ?hr ?_; (case hd => rfl); (case hg => rfl); (case hr => first | (go_simp; done) | (go_simp; rfl)); intro gb353 hg w_1 hbox hb; have n0_ := mk_ (aA (Short.hB HB) hb); have n1_ := mk_ (hbox); have n2_ := mk_ ((by rw [hg]; exact (aC (Short.hB HB)) : w.heap.size ≤ gb353)); have n3_ := mk_ ((by rw [hg]; exact (aC (Short.hB HB)) : w.heap.size ≤ gb353)); clear HB; revert n0_ n1_ n2_ n3_; intro HB BK353 GW353 GE353; clear hb hbox hg; obtain ⟨hcz_0, hcz_1, hcz_2, hfz_0, hfz_1, hfz_2⟩ := Short.c3 BK353.out) | ((with_reducible refine aJ (f := 39) rfl ?_); refine Short.gL (some 5) Tryz.func39 #[.int .i64 a0_0, .int .i64 6] (h := ?_); (with_reducible refine (aX.calls a0_0 6 _ _ A2.out).mono ?_); rintro e w' ⟨rfl, ⟨nd, rfl⟩⟩; refine ⟨_, rfl, ?_⟩) | (go_at_call 39; (with_reducible refine (aX.calls a0_1 3 _ _ A4.out).mono ?_); rintro e w' ⟨rfl, ⟨nd, rfl⟩⟩) | (go_at_call 39; (with_reducible refine (aX.calls a0_2 1 t356 _ A6.out).mono ?_); rintro e w' ⟨rfl, ⟨nd, rfl⟩⟩))
  go_ret
  exact ⟨q0, Short.hB HB⟩
def cR.l0 : Nat → List (S102) → Int → Option (Int)
 | 0, _, _ => none
 | k + 1, x0, x3 => if x3 < (x0.length : Int) then (if 0 ≤ x3 then ((cU.f ((aK x0 x3).f0) ((aK x0 x3).f1) ((aK x0 x3).f2)).bind fun t358 => (if t358 = true then (cR.l0 k x0 (wrap64 (x3 + 1))) else (some 1))) else (none)) else (some 0)
def cR.f (k : Nat) (l0 : List (S102)) : Option (Int) := if (l0.length : Int) > 12 then (some 2) else (cR.l0 k l0 0)
theorem cR.calls (k : Nat) (A0 : Option Addr) (c0 : Nat) (l0 : List (S102)) (r : Int) (w : World) (hr0 : Kd.C k102 w A0 l0.length l0) (hc0 : l0.length ≤ c0) (h : cR.f k l0 = some r) :
  Calls Tryz.prog 43 #[.slice A0 l0.length c0] w fun e w' => e = .returned (.int .i64 r) ∧ Below w.heap.size w w' := by
 have hu102 := Tryz.underlying102
 have HR0 := mk_ hr0
 have HC0 := mk_ hc0
 clear hr0 hc0
 have HB := mk_ (Below.refl w.heap.size w)
 have H : (if (l0.length : Int) > 12 then (some 2) else (cR.l0 k l0 0)) = some r := h
 clear h
 by_cases c2 : (l0.length : Int) > 12
 ·
  rw [if_pos c2] at H
  have c2b0 : decide (12 < (l0.length : Int)) = true := decide_eq_true c2
  have c2b1 : decide (12 < l0.length) = true := decide_eq_true z4_
  clear c2
  obtain rfl := Option.some.inj H
  go_enter Tryz.func43, Tryz.ntmps43
  go_wp2
  go_ret
  exact ⟨q0, Short.hB HB⟩
 rw [if_neg c2] at H
 have c2b0 : decide (12 < (l0.length : Int)) = false := decide_eq_false c2
 have c2b1 : decide (12 < l0.length) = false := decide_eq_false z4_
 clear c2
 have H' := mk_ H
 clear H
 go_enter Tryz.func43, Tryz.ntmps43
 go_wp2
 go_loopg [3] k (fun kq v3 w' => ∃ (x3_1 : Int), v3 = .int .i64 x3_1 ∧ Aside0 (cR.l0 kq l0 x3_1 = some r) ∧ Aside0 (kq ≤ k) ∧ Aside0 (Below w.heap.size w w'))
 case atStart => exact ⟨(0), z3_, H', ⟨Nat.le_refl _⟩, ⟨Short.hB HB⟩⟩
 case round =>
  clear H'
  try clear c2
  try clear c2b0
  try clear c2b1
  try clear p2
  obtain ⟨x3_1, rfl, HA, HK1, HB⟩ := hrel
  cases gk with
  | zero => exact absurd HA.out (by simp [cR.l0])
  | succ k1 =>
   have H := HA.out
   clear HA
   simp only [cR.l0] at H
   by_cases c3 : x3_1 < (l0.length : Int)
   rotate_left
   ·
    rw [if_neg c3] at H
    have c3b0 : decide (x3_1 < (l0.length : Int)) = false := decide_eq_false c3
    clear c3
    obtain rfl := Option.some.inj H
    go_wp2
    go_ret
    exact ⟨q0, Short.hB HB⟩
   rw [if_pos c3] at H
   have c3b0 : decide (x3_1 < (l0.length : Int)) = true := decide_eq_true c3
   clear c3
   by_cases c4 : 0 ≤ x3_1
   rotate_left
   ·
    rw [if_neg c4] at H
    exact absurd H z6_
   rw [if_pos c4] at H
   have c4b0 : decide (0 ≤ x3_1) = true := decide_eq_true c4
   clear c4
   obtain ⟨t358, A5, H⟩ := Option.bind_eq_some_iff.mp H
   replace A5 := mk_ A5
   by_cases c6 : t358 = true
   rotate_left
   ·
    replace c6 := Bool.eq_false_iff.mpr c6
    subst c6
    rw [if_neg (show ¬ (false = true) by decide)] at H
    obtain rfl := Option.some.inj H
    have p357 : 0 ≤ (x3_1 : Int) := of_decide_eq_true z1_
    have q357 : x3_1 < (l0.length : Int) := of_decide_eq_true z1_
    obtain ⟨ad357, e357, hx357_0, hx357_1, hx357_2⟩ := fI HR0.out x3_1 p357 q357
    cases e357
    replace hx357_0 := up_ HB hx357_0
    replace hx357_1 := up_ HB hx357_1
    replace hx357_2 := up_ HB hx357_2
    replace p357 := eq_true p357
    replace q357 := eq_true q357
    go_wp2_with (first | ((with_reducible refine aJ (f := 69) rfl ?_); refine Short.gL (some 17) Tryz.func69 #[.agg #[.int .i64 ((aK l0 x3_1).f0), .int .i64 ((aK l0 x3_1).f1), .string ((aK l0 x3_1).f2)]] (h := ?_); (with_reducible refine (cU.calls ((aK l0 x3_1).f0) ((aK l0 x3_1).f1) ((aK l0 x3_1).f2) false _ A5.out).mono ?_); rintro e w8 ⟨rfl, hb⟩; refine ⟨_, rfl, ?_⟩; have n0_ := mk_ (aA (Short.hB HB) hb); clear HB; revert n0_; intro HB; (try clear hb)))
    go_ret
    exact ⟨q0, Short.hB HB⟩
   subst c6
   rw [if_pos rfl] at H
   have H' := mk_ H
   clear H
   have p357 : 0 ≤ (x3_1 : Int) := of_decide_eq_true z1_
   have q357 : x3_1 < (l0.length : Int) := of_decide_eq_true z1_
   obtain ⟨ad357, e357, hx357_0, hx357_1, hx357_2⟩ := fI HR0.out x3_1 p357 q357
   cases e357
   replace hx357_0 := up_ HB hx357_0
   replace hx357_1 := up_ HB hx357_1
   replace hx357_2 := up_ HB hx357_2
   replace p357 := eq_true p357
   replace q357 := eq_true q357
   go_wp2_with (first | ((with_reducible refine aJ (f := 69) rfl ?_); refine Short.gL (some 17) Tryz.func69 #[.agg #[.int .i64 ((aK l0 x3_1).f0), .int .i64 ((aK l0 x3_1).f1), .string ((aK l0 x3_1).f2)]] (h := ?_); (with_reducible refine (cU.calls ((aK l0 x3_1).f0) ((aK l0 x3_1).f1) ((aK l0 x3_1).f2) true _ A5.out).mono ?_); rintro e w7 ⟨rfl, hb⟩; refine ⟨_, rfl, ?_⟩; have n0_ := mk_ (aA (Short.hB HB) hb); clear HB; revert n0_; intro HB; (try clear hb)))
   go_roundg k1
   case measure => have := HK1.out; omega
   case rel => exact ⟨(wrap64 (x3_1 + 1)), z3_, H', ⟨by have := HK1.out; omega⟩, ⟨Short.hB HB⟩⟩
end Go.Proofs.YtjnjfogfpmeacaaGreat.PAll
end
section
namespace Go.Proofs.YtjnjfogfpmeacaaGreat.PAll
open Go.RowKit PrintWords PrintLast PrintMore ZipT PrintWords.Kd PrintMore.Kd
attribute [local go_sem] eE eG eX eY dQ dP eF eC   -- for this text's walks alone
set_option linter.unusedVariables false
set_option linter.unusedSimpArgs false
mutual
def aU.j0 : Nat → Bool → Int → Int → List Int → Int → Int → Int → Int → Int → ByteArray → Int → List (S102) → List (S24) → Option (Bool)
 | 0, _, _, _, _, _, _, _, _, _, _, _, _, _ => none
 | k + 1, x55, x360000, x360001, x360002, x360003, x360004, x360005, x360006, x360007, x360008, x360009, x360010, x360011 => if x55 = true then (some false) else (aU.l0 k 0 x360000 x360001 x360002 x360003 x360004 x360005 x360006 x360007 x360008 x360009 x360010 x360011)
def aU.l0 : Nat → Int → Int → Int → List Int → Int → Int → Int → Int → Int → ByteArray → Int → List (S102) → List (S24) → Option (Bool)
 | 0, _, _, _, _, _, _, _, _, _, _, _, _, _ => none
 | k + 1, x3, x360000, x360001, x360002, x360003, x360004, x360005, x360006, x360007, x360008, x360009, x360010, x360011 => if x3 < (x360011.length : Int) then (if 0 ≤ x3 then ((cD.f ((aT x360011 x3).f0) ((aT x360011 x3).f1)).bind fun t368 => (if t368 = true then (aU.l0 k (wrap64 (x3 + 1)) x360000 x360001 x360002 x360003 x360004 x360005 x360006 x360007 x360008 x360009 x360010 x360011) else (some false))) else (none)) else (some true)
end
def aU.f (k : Nat) (a0_0 : Int) (a0_1 : Int) (l0_2 : List Int) (a0_3 : Int) (a0_4 : Int) (a0_5 : Int) (a0_6 : Int) (a0_7 : Int) (a0_8 : ByteArray) (a0_9 : Int) (l0_10 : List (S102)) (l0_11 : List (S24)) : Option (Bool) := (aX.f a0_6 1).bind fun t360 => (if t360 = true then ((cD.f a0_0 a0_1).bind fun t361 => (if t361 = true then ((bG.f k l0_2).bind fun t362 => (if t362 = true then ((cQ.f a0_3 a0_4 a0_5).bind fun t363 => (if t363 = true then ((aX.f a0_7 1).bind fun t364 => (if t364 = true then (if (a0_8.size : Int) > 24 then (aU.j0 k true a0_0 a0_1 l0_2 a0_3 a0_4 a0_5 a0_6 a0_7 a0_8 a0_9 l0_10 l0_11) else ((aX.f a0_9 1).bind fun t365 => (if t365 = true then ((cR.f k l0_10).bind fun t366 => (if t366 = 0 then (aU.j0 k (decide ((l0_11.length : Int) > 64)) a0_0 a0_1 l0_2 a0_3 a0_4 a0_5 a0_6 a0_7 a0_8 a0_9 l0_10 l0_11) else (aU.j0 k true a0_0 a0_1 l0_2 a0_3 a0_4 a0_5 a0_6 a0_7 a0_8 a0_9 l0_10 l0_11))) else (aU.j0 k true a0_0 a0_1 l0_2 a0_3 a0_4 a0_5 a0_6 a0_7 a0_8 a0_9 l0_10 l0_11)))) else (aU.j0 k true a0_0 a0_1 l0_2 a0_3 a0_4 a0_5 a0_6 a0_7 a0_8 a0_9 l0_10 l0_11))) else (aU.j0 k true a0_0 a0_1 l0_2 a0_3 a0_4 a0_5 a0_6 a0_7 a0_8 a0_9 l0_10 l0_11))) else (aU.j0 k true a0_0 a0_1 l0_2 a0_3 a0_4 a0_5 a0_6 a0_7 a0_8 a0_9 l0_10 l0_11))) else (aU.j0 k true a0_0 a0_1 l0_2 a0_3 a0_4 a0_5 a0_6 a0_7 a0_8 a0_9 l0_10 l0_11))) else (aU.j0 k true a0_0 a0_1 l0_2 a0_3 a0_4 a0_5 a0_6 a0_7 a0_8 a0_9 l0_10 l0_11))
theorem aU.calls (k : Nat) (a0_0 : Int) (a0_1 : Int) (A0_2 : Option Addr) (c0_2 : Nat) (l0_2 : List Int) (a0_3 : Int) (a0_4 : Int) (a0_5 : Int) (a0_6 : Int) (a0_7 : Int) (a0_8 : ByteArray) (a0_9 : Int) (A0_10 : Option Addr) (c0_10 : Nat) (l0_10 : List (S102)) (A0_11 : Option Addr) (c0_11 : Nat) (l0_11 : List (S24)) (r : Bool) (w : World) (hr0_2 : Kd.C (Kd.int .i64) w A0_2 l0_2.length l0_2) (hc0_2 : l0_2.length ≤ c0_2) (hr0_10 : Kd.C k102 w A0_10 l0_10.length l0_10) (hc0_10 : l0_10.length ≤ c0_10) (hr0_11 : Kd.C k24 w A0_11 l0_11.length l0_11) (hc0_11 : l0_11.length ≤ c0_11) (h : aU.f k a0_0 a0_1 l0_2 a0_3 a0_4 a0_5 a0_6 a0_7 a0_8 a0_9 l0_10 l0_11 = some r) :
  Calls Tryz.prog 17 #[.agg #[.int .i64 a0_0, .int .i64 a0_1, .slice A0_2 l0_2.length c0_2, .int .i64 a0_3, .int .i64 a0_4, .int .i64 a0_5, .int .i64 a0_6, .int .i64 a0_7, .string a0_8, .int .i64 a0_9, .slice A0_10 l0_10.length c0_10, .slice A0_11 l0_11.length c0_11]] w fun e w' => e = .returned (.bool r) ∧ Below w.heap.size w w' := by
 have hu31 := Tryz.underlying31
 have hu24 := Tryz.underlying24
 have hu27 := Tryz.underlying27
 have HR0_2 := mk_ hr0_2
 have HC0_2 := mk_ hc0_2
 clear hr0_2 hc0_2
 have HR0_10 := mk_ hr0_10
 have HC0_10 := mk_ hc0_10
 clear hr0_10 hc0_10
 have HR0_11 := mk_ hr0_11
 have HC0_11 := mk_ hc0_11
 clear hr0_11 hc0_11
 have HB := mk_ (Below.refl w.heap.size w)
 have H : ((aX.f a0_6 1).bind fun t360 => (if t360 = true then ((cD.f a0_0 a0_1).bind fun t361 => (if t361 = true then ((bG.f k l0_2).bind fun t362 => (if t362 = true then ((cQ.f a0_3 a0_4 a0_5).bind fun t363 => (if t363 = true then ((aX.f a0_7 1).bind fun t364 => (if t364 = true then (if (a0_8.size : Int) > 24 then (aU.j0 k true a0_0 a0_1 l0_2 a0_3 a0_4 a0_5 a0_6 a0_7 a0_8 a0_9 l0_10 l0_11) else ((aX.f a0_9 1).bind fun t365 => (if t365 = true then ((cR.f k l0_10).bind fun t366 => (if t366 = 0 then (aU.j0 k (decide ((l0_11.length : Int) > 64)) a0_0 a0_1 l0_2 a0_3 a0_4 a0_5 a0_6 a0_7 a0_8 a0_9 l0_10 l0_11) else (aU.j0 k true a0_0 a0_1 l0_2 a0_3 a0_4 a0_5 a0_6 a0_7 a0_8 a0_9 l0_10 l0_11))) else (aU.j0 k true a0_0 a0_1 l0_2 a0_3 a0_4 a0_5 a0_6 a0_7 a0_8 a0_9 l0_10 l0_11)))) else (aU.j0 k true a0_0 a0_1 l0_2 a0_3 a0_4 a0_5 a0_6 a0_7 a0_8 a0_9 l0_10 l0_11))) else (aU.j0 k true a0_0 a0_1 l0_2 a0_3 a0_4 a0_5 a0_6 a0_7 a0_8 a0_9 l0_10 l0_11))) else (aU.j0 k true a0_0 a0_1 l0_2 a0_3 a0_4 a0_5 a0_6 a0_7 a0_8 a0_9 l0_10 l0_11))) else (aU.j0 k true a0_0 a0_1 l0_2 a0_3 a0_4 a0_5 a0_6 a0_7 a0_8 a0_9 l0_10 l0_11))) else (aU.j0 k true a0_0 a0_1 l0_2 a0_3 a0_4 a0_5 a0_6 a0_7 a0_8 a0_9 l0_10 l0_11))) = some r := h
 clear h
 have HC2 := mk_ H
 clear H
 go_enter Tryz.func17, Tryz.ntmps17
 go_upto_region 1 with (first | ((with_reducible refine aY (N := 1) rfl ?_); (try (refine fQ (by rfl) ?_; dsimp only)); refine aZ ?hg (N := 1) ?hd (cs := #[.int .i64 a0_0, .int .i64 a0_1, .slice A0_2 l0_2.length c0_2, .int .i64 a0_3, .int .i64 a0_4, .int .i64 a0_5, .int .i64 a0_6, .int .i64 a0_7, .string a0_8, .int .i64 a0_9, .slice A0_10 l0_10.length c0_10, .slice A0_11 l0_11.length c0_11]) (t := 31) ?hr ?_; (case hd => rfl); (case hg => rfl); (case hr => first | (go_simp; done) | (go_simp; rfl)); intro gb359 hg w3 hbox hb; have n0_ := mk_ (aA (Short.hB HB) hb); have n1_ := mk_ (hbox); have n2_ := mk_ ((by rw [hg]; exact (aC (Short.hB HB)) : w.heap.size ≤ gb359)); have n3_ := mk_ ((by rw [hg]; exact (aC (Short.hB HB)) : w.heap.size ≤ gb359)); clear HB; revert n0_ n1_ n2_ n3_; intro HB BK359 GW359 GE359; clear hb hbox hg))
 (try simp only [Act.put, List.setIfInBounds_toArray, List.set_cons_zero, List.set_cons_succ])
 go_cut [55] (fun v55 wc => ∃ (kq : Nat) (x55_1 : Bool), v55 = .bool x55_1 ∧ Aside0 (aU.j0 kq x55_1 a0_0 a0_1 l0_2 a0_3 a0_4 a0_5 a0_6 a0_7 a0_8 a0_9 l0_10 l0_11 = some r) ∧ Aside0 (kq ≤ k) ∧ Aside0 (wc.heap[gb359]? = some (.cells #[.int .i64 a0_0, .int .i64 a0_1, (.slice A0_2 l0_2.length c0_2), .int .i64 a0_3, .int .i64 a0_4, .int .i64 a0_5, .int .i64 a0_6, .int .i64 a0_7, .string a0_8, .int .i64 a0_9, (.slice A0_10 l0_10.length c0_10), (.slice A0_11 l0_11.length c0_11)] 31 (0, 0))) ∧ Aside0 (Below w.heap.size w wc))
 case first =>
  have H := HC2.out
  clear HC2
  obtain ⟨t360, A4, H⟩ := Option.bind_eq_some_iff.mp H
  replace A4 := mk_ A4
  by_cases c5 : t360 = true
  rotate_left
  ·
   replace c5 := Bool.eq_false_iff.mpr c5
   subst c5
   rw [if_neg (show ¬ (false = true) by decide)] at H
   have H' := mk_ H
   clear H
   have hcz56_0 : w3.cell? ⟨gb359, 0, none⟩ = some (.int .i64 a0_0) := kc_ BK359 0
   have hcz56_1 : w3.cell? ⟨gb359, 1, none⟩ = some (.int .i64 a0_1) := kc_ BK359 1
   have hcz56_2 : w3.cell? ⟨gb359, 2, none⟩ = some (.slice A0_2 l0_2.length c0_2) := kc_ BK359 2
   have hcz56_3 : w3.cell? ⟨gb359, 3, none⟩ = some (.int .i64 a0_3) := kc_ BK359 3
   have hcz56_4 : w3.cell? ⟨gb359, 4, none⟩ = some (.int .i64 a0_4) := kc_ BK359 4
   have hcz56_5 : w3.cell? ⟨gb359, 5, none⟩ = some (.int .i64 a0_5) := kc_ BK359 5
   have hcz56_6 : w3.cell? ⟨gb359, 6, none⟩ = some (.int .i64 a0_6) := kc_ BK359 6
   have hcz56_7 : w3.cell? ⟨gb359, 7, none⟩ = some (.int .i64 a0_7) := kc_ BK359 7
   have hcz56_8 : w3.cell? ⟨gb359, 8, none⟩ = some (.string a0_8) := kc_ BK359 8
   have hcz56_9 : w3.cell? ⟨gb359, 9, none⟩ = some (.int .i64 a0_9) := kc_ BK359 9
   have hcz56_10 : w3.cell? ⟨gb359, 10, none⟩ = some (.slice A0_10 l0_10.length c0_10) := kc_ BK359 10
   have hcz56_11 : w3.cell? ⟨gb359, 11, none⟩ = some (.slice A0_11 l0_11.length c0_11) := kc_ BK359 11
   have hfz56_0 := aQ BK359.out
   go_wp2_with (first | ((with_reducible refine aJ (f := 39) rfl ?_); refine Short.gL (some 6) Tryz.func39 #[.int .i64 a0_6, .int .i64 1] (h := ?_); (with_reducible refine (aX.calls a0_6 1 false _ A4.out).mono ?_); rintro e w' ⟨rfl, ⟨nd, rfl⟩⟩; refine ⟨_, rfl, ?_⟩))
   go_meet
   case rel => exact ⟨_, (true), z3_, H', ⟨by first | omega | exact Nat.le_refl _⟩, ⟨by (with_reducible repeat (first | refine aG ?_ _ | refine aH ?_ | refine aE ?_ _)); exact BK359.out⟩, ⟨Short.hB HB⟩⟩
  subst c5
  rw [if_pos rfl] at H
  obtain ⟨t361, A6, H⟩ := Option.bind_eq_some_iff.mp H
  replace A6 := mk_ A6
  by_cases c7 : t361 = true
  rotate_left
  ·
   replace c7 := Bool.eq_false_iff.mpr c7
   subst c7
   rw [if_neg (show ¬ (false = true) by decide)] at H
   have H' := mk_ H
   clear H
   have hcz54_0 : w3.cell? ⟨gb359, 0, none⟩ = some (.int .i64 a0_0) := kc_ BK359 0
   have hcz54_1 : w3.cell? ⟨gb359, 1, none⟩ = some (.int .i64 a0_1) := kc_ BK359 1
   have hcz54_2 : w3.cell? ⟨gb359, 2, none⟩ = some (.slice A0_2 l0_2.length c0_2) := kc_ BK359 2
   have hcz54_3 : w3.cell? ⟨gb359, 3, none⟩ = some (.int .i64 a0_3) := kc_ BK359 3
   have hcz54_4 : w3.cell? ⟨gb359, 4, none⟩ = some (.int .i64 a0_4) := kc_ BK359 4
   have hcz54_5 : w3.cell? ⟨gb359, 5, none⟩ = some (.int .i64 a0_5) := kc_ BK359 5
   have hcz54_6 : w3.cell? ⟨gb359, 6, none⟩ = some (.int .i64 a0_6) := kc_ BK359 6
   have hcz54_7 : w3.cell? ⟨gb359, 7, none⟩ = some (.int .i64 a0_7) := kc_ BK359 7
   have hcz54_8 : w3.cell? ⟨gb359, 8, none⟩ = some (.string a0_8) := kc_ BK359 8
   have hcz54_9 : w3.cell? ⟨gb359, 9, none⟩ = some (.int .i64 a0_9) := kc_ BK359 9
   have hcz54_10 : w3.cell? ⟨gb359, 10, none⟩ = some (.slice A0_10 l0_10.length c0_10) := kc_ BK359 10
   have hcz54_11 : w3.cell? ⟨gb359, 11, none⟩ = some (.slice A0_11 l0_11.length c0_11) := kc_ BK359 11
   have hfz54_0 := aQ BK359.out
   go_wp2_with (first | ((with_reducible refine aJ (f := 39) rfl ?_); refine Short.gL (some 6) Tryz.func39 #[.int .i64 a0_6, .int .i64 1] (h := ?_); (with_reducible refine (aX.calls a0_6 1 true _ A4.out).mono ?_); rintro e w' ⟨rfl, ⟨nd, rfl⟩⟩; refine ⟨_, rfl, ?_⟩) | (go_at_call 40; (with_reducible refine (cD.calls a0_0 a0_1 false _ A6.out).mono ?_); rintro e w55 ⟨rfl, hb⟩; have n0_ := mk_ (bB_ BK359 hb); have n1_ := mk_ (aA (Short.hB HB) hb); clear BK359 HB; revert n0_ n1_; intro BK359 HB; (try clear hb); (try clear hb2); (try clear hk); (try clear hi)))
   go_meet
   case rel => exact ⟨_, (true), z3_, H', ⟨by first | omega | exact Nat.le_refl _⟩, ⟨by (with_reducible repeat (first | refine aG ?_ _ | refine aH ?_ | refine aE ?_ _)); exact BK359.out⟩, ⟨Short.hB HB⟩⟩
  subst c7
  rw [if_pos rfl] at H
  obtain ⟨t362, A8, H⟩ := Option.bind_eq_some_iff.mp H
  replace A8 := mk_ A8
  by_cases c9 : t362 = true
  rotate_left
  ·
   replace c9 := Bool.eq_false_iff.mpr c9
   subst c9
   rw [if_neg (show ¬ (false = true) by decide)] at H
   have H' := mk_ H
   clear H
   have hcz51_0 : w3.cell? ⟨gb359, 0, none⟩ = some (.int .i64 a0_0) := kc_ BK359 0
   have hcz51_1 : w3.cell? ⟨gb359, 1, none⟩ = some (.int .i64 a0_1) := kc_ BK359 1
   have hcz51_2 : w3.cell? ⟨gb359, 2, none⟩ = some (.slice A0_2 l0_2.length c0_2) := kc_ BK359 2
   have hcz51_3 : w3.cell? ⟨gb359, 3, none⟩ = some (.int .i64 a0_3) := kc_ BK359 3
   have hcz51_4 : w3.cell? ⟨gb359, 4, none⟩ = some (.int .i64 a0_4) := kc_ BK359 4
   have hcz51_5 : w3.cell? ⟨gb359, 5, none⟩ = some (.int .i64 a0_5) := kc_ BK359 5
   have hcz51_6 : w3.cell? ⟨gb359, 6, none⟩ = some (.int .i64 a0_6) := kc_ BK359 6
   have hcz51_7 : w3.cell? ⟨gb359, 7, none⟩ = some (.int .i64 a0_7) := kc_ BK359 7
   have hcz51_8 : w3.cell? ⟨gb359, 8, none⟩ = some (.string a0_8) := kc_ BK359 8
   have hcz51_9 : w3.cell? ⟨gb359, 9, none⟩ = some (.int .i64 a0_9) := kc_ BK359 9
   have hcz51_10 : w3.cell? ⟨gb359, 10, none⟩ = some (.slice A0_10 l0_10.length c0_10) := kc_ BK359 10
   have hcz51_11 : w3.cell? ⟨gb359, 11, none⟩ = some (.slice A0_11 l0_11.length c0_11) := kc_ BK359 11
   have hfz51_0 := aQ BK359.out
   go_wp2_with (first | ((with_reducible refine aJ (f := 39) rfl ?_); refine Short.gL (some 6) Tryz.func39 #[.int .i64 a0_6, .int .i64 1] (h := ?_); (with_reducible refine (aX.calls a0_6 1 true _ A4.out).mono ?_); rintro e w' ⟨rfl, ⟨nd, rfl⟩⟩; refine ⟨_, rfl, ?_⟩) | (go_at_call 40; (with_reducible refine (cD.calls a0_0 a0_1 true _ A6.out).mono ?_); rintro e w52 ⟨rfl, hb⟩; have n0_ := mk_ (bB_ BK359 hb); have n1_ := mk_ (aA (Short.hB HB) hb); clear BK359 HB; revert n0_ n1_; intro BK359 HB; (try clear hb); (try clear hb2); (try clear hk); (try clear hi); have hcz53_0 : w52.cell? ⟨gb359, 0, none⟩ = some (.int .i64 a0_0) := kc_ BK359 0; have hcz53_1 : w52.cell? ⟨gb359, 1, none⟩ = some (.int .i64 a0_1) := kc_ BK359 1; have hcz53_2 : w52.cell? ⟨gb359, 2, none⟩ = some (.slice A0_2 l0_2.length c0_2) := kc_ BK359 2; have hcz53_3 : w52.cell? ⟨gb359, 3, none⟩ = some (.int .i64 a0_3) := kc_ BK359 3; have hcz53_4 : w52.cell? ⟨gb359, 4, none⟩ = some (.int .i64 a0_4) := kc_ BK359 4; have hcz53_5 : w52.cell? ⟨gb359, 5, none⟩ = some (.int .i64 a0_5) := kc_ BK359 5; have hcz53_6 : w52.cell? ⟨gb359, 6, none⟩ = some (.int .i64 a0_6) := kc_ BK359 6; have hcz53_7 : w52.cell? ⟨gb359, 7, none⟩ = some (.int .i64 a0_7) := kc_ BK359 7; have hcz53_8 : w52.cell? ⟨gb359, 8, none⟩ = some (.string a0_8) := kc_ BK359 8; have hcz53_9 : w52.cell? ⟨gb359, 9, none⟩ = some (.int .i64 a0_9) := kc_ BK359 9; have hcz53_10 : w52.cell? ⟨gb359, 10, none⟩ = some (.slice A0_10 l0_10.length c0_10) := kc_ BK359 10; have hcz53_11 : w52.cell? ⟨gb359, 11, none⟩ = some (.slice A0_11 l0_11.length c0_11) := kc_ BK359 11; have hfz53_0 := aQ BK359.out) | (go_at_call 41; (with_reducible refine (bG.calls k _ _ l0_2 false _ ?side1 ?side2 A8.out).mono ?_); (case side1 => exact cX_ (aV HR0_2.out HB.out)); (case side2 => exact HC0_2.out); rintro e w' ⟨rfl, ⟨nd, rfl⟩⟩))
   go_meet
   case rel => exact ⟨_, (true), z3_, H', ⟨by first | omega | exact Nat.le_refl _⟩, ⟨by (with_reducible repeat (first | refine aG ?_ _ | refine aH ?_ | refine aE ?_ _)); exact BK359.out⟩, ⟨Short.hB HB⟩⟩
  subst c9
  rw [if_pos rfl] at H
  obtain ⟨t363, A10, H⟩ := Option.bind_eq_some_iff.mp H
  replace A10 := mk_ A10
  by_cases c11 : t363 = true
  rotate_left
  ·
   replace c11 := Bool.eq_false_iff.mpr c11
   subst c11
   rw [if_neg (show ¬ (false = true) by decide)] at H
   have H' := mk_ H
   clear H
   have hcz47_0 : w3.cell? ⟨gb359, 0, none⟩ = some (.int .i64 a0_0) := kc_ BK359 0
   have hcz47_1 : w3.cell? ⟨gb359, 1, none⟩ = some (.int .i64 a0_1) := kc_ BK359 1
   have hcz47_2 : w3.cell? ⟨gb359, 2, none⟩ = some (.slice A0_2 l0_2.length c0_2) := kc_ BK359 2
   have hcz47_3 : w3.cell? ⟨gb359, 3, none⟩ = some (.int .i64 a0_3) := kc_ BK359 3
   have hcz47_4 : w3.cell? ⟨gb359, 4, none⟩ = some (.int .i64 a0_4) := kc_ BK359 4
   have hcz47_5 : w3.cell? ⟨gb359, 5, none⟩ = some (.int .i64 a0_5) := kc_ BK359 5
   have hcz47_6 : w3.cell? ⟨gb359, 6, none⟩ = some (.int .i64 a0_6) := kc_ BK359 6
   have hcz47_7 : w3.cell? ⟨gb359, 7, none⟩ = some (.int .i64 a0_7) := kc_ BK359 7
   have hcz47_8 : w3.cell? ⟨gb359, 8, none⟩ = some (.string a0_8) := kc_ BK359 8
   have hcz47_9 : w3.cell? ⟨gb359, 9, none⟩ = some (.int .i64 a0_9) := kc_ BK359 9
   have hcz47_10 : w3.cell? ⟨gb359, 10, none⟩ = some (.slice A0_10 l0_10.length c0_10) := kc_ BK359 10
   have hcz47_11 : w3.cell? ⟨gb359, 11, none⟩ = some (.slice A0_11 l0_11.length c0_11) := kc_ BK359 11
   have hfz47_0 := aQ BK359.out
   go_wp2_with (first | ((with_reducible refine aJ (f := 39) rfl ?_); refine Short.gL (some 6) Tryz.func39 #[.int .i64 a0_6, .int .i64 1] (h := ?_); (with_reducible refine (aX.calls a0_6 1 true _ A4.out).mono ?_); rintro e w' ⟨rfl, ⟨nd, rfl⟩⟩; refine ⟨_, rfl, ?_⟩) | (go_at_call 40; (with_reducible refine (cD.calls a0_0 a0_1 true _ A6.out).mono ?_); rintro e w48 ⟨rfl, hb⟩; have n0_ := mk_ (bB_ BK359 hb); have n1_ := mk_ (aA (Short.hB HB) hb); clear BK359 HB; revert n0_ n1_; intro BK359 HB; (try clear hb); (try clear hb2); (try clear hk); (try clear hi); have hcz49_0 : w48.cell? ⟨gb359, 0, none⟩ = some (.int .i64 a0_0) := kc_ BK359 0; have hcz49_1 : w48.cell? ⟨gb359, 1, none⟩ = some (.int .i64 a0_1) := kc_ BK359 1; have hcz49_2 : w48.cell? ⟨gb359, 2, none⟩ = some (.slice A0_2 l0_2.length c0_2) := kc_ BK359 2; have hcz49_3 : w48.cell? ⟨gb359, 3, none⟩ = some (.int .i64 a0_3) := kc_ BK359 3; have hcz49_4 : w48.cell? ⟨gb359, 4, none⟩ = some (.int .i64 a0_4) := kc_ BK359 4; have hcz49_5 : w48.cell? ⟨gb359, 5, none⟩ = some (.int .i64 a0_5) := kc_ BK359 5; have hcz49_6 : w48.cell? ⟨gb359, 6, none⟩ = some (.int .i64 a0_6) := kc_ BK359 6; have hcz49_7 : w48.cell? ⟨gb359, 7, none⟩ = some (.int .i64 a0_7) := kc_ BK359 7; have hcz49_8 : w48.cell? ⟨gb359, 8, none⟩ = some (.string a0_8) := kc_ BK359 8; have hcz49_9 : w48.cell? ⟨gb359, 9, none⟩ = some (.int .i64 a0_9) := kc_ BK359 9; have hcz49_10 : w48.cell? ⟨gb359, 10, none⟩ = some (.slice A0_10 l0_10.length c0_10) := kc_ BK359 10; have hcz49_11 : w48.cell? ⟨gb359, 11, none⟩ = some (.slice A0_11 l0_11.length c0_11) := kc_ BK359 11; have hfz49_0 := aQ BK359.out) | (go_at_call 41; (with_reducible refine (bG.calls k _ _ l0_2 true _ ?side1 ?side2 A8.out).mono ?_); (case side1 => exact cX_ (aV HR0_2.out HB.out)); (case side2 => exact HC0_2.out); rintro e w' ⟨rfl, ⟨nd, rfl⟩⟩) | (go_at_call 42; (with_reducible refine (cQ.calls a0_3 a0_4 a0_5 false _ A10.out).mono ?_); rintro e w50 ⟨rfl, hb⟩; have n0_ := mk_ (bB_ BK359 hb); have n1_ := mk_ (aA (Short.hB HB) hb); clear BK359 HB; revert n0_ n1_; intro BK359 HB; (try clear hb); (try clear hb2); (try clear hk); (try clear hi)))
   go_meet
   case rel => exact ⟨_, (true), z3_, H', ⟨by first | omega | exact Nat.le_refl _⟩, ⟨by (with_reducible repeat (first | refine aG ?_ _ | refine aH ?_ | refine aE ?_ _)); exact BK359.out⟩, ⟨Short.hB HB⟩⟩
  subst c11
  rw [if_pos rfl] at H
  obtain ⟨t364, A12, H⟩ := Option.bind_eq_some_iff.mp H
  replace A12 := mk_ A12
  by_cases c13 : t364 = true
  rotate_left
  ·
   replace c13 := Bool.eq_false_iff.mpr c13
   subst c13
   rw [if_neg (show ¬ (false = true) by decide)] at H
   have H' := mk_ H
   clear H
   have hcz42_0 : w3.cell? ⟨gb359, 0, none⟩ = some (.int .i64 a0_0) := kc_ BK359 0
   have hcz42_1 : w3.cell? ⟨gb359, 1, none⟩ = some (.int .i64 a0_1) := kc_ BK359 1
   have hcz42_2 : w3.cell? ⟨gb359, 2, none⟩ = some (.slice A0_2 l0_2.length c0_2) := kc_ BK359 2
   have hcz42_3 : w3.cell? ⟨gb359, 3, none⟩ = some (.int .i64 a0_3) := kc_ BK359 3
   have hcz42_4 : w3.cell? ⟨gb359, 4, none⟩ = some (.int .i64 a0_4) := kc_ BK359 4
   have hcz42_5 : w3.cell? ⟨gb359, 5, none⟩ = some (.int .i64 a0_5) := kc_ BK359 5
   have hcz42_6 : w3.cell? ⟨gb359, 6, none⟩ = some (.int .i64 a0_6) := kc_ BK359 6
   have hcz42_7 : w3.cell? ⟨gb359, 7, none⟩ = some (.int .i64 a0_7) := kc_ BK359 7
   have hcz42_8 : w3.cell? ⟨gb359, 8, none⟩ = some (.string a0_8) := kc_ BK359 8
   have hcz42_9 : w3.cell? ⟨gb359, 9, none⟩ = some (.int .i64 a0_9) := kc_ BK359 9
   have hcz42_10 : w3.cell? ⟨gb359, 10, none⟩ = some (.slice A0_10 l0_10.length c0_10) := kc_ BK359 10
   have hcz42_11 : w3.cell? ⟨gb359, 11, none⟩ = some (.slice A0_11 l0_11.length c0_11) := kc_ BK359 11
   have hfz42_0 := aQ BK359.out
   go_wp2_with (first | ((with_reducible refine aJ (f := 39) rfl ?_); refine Short.gL (some 6) Tryz.func39 #[.int .i64 a0_6, .int .i64 1] (h := ?_); (with_reducible refine (aX.calls a0_6 1 true _ A4.out).mono ?_); rintro e w' ⟨rfl, ⟨nd, rfl⟩⟩; refine ⟨_, rfl, ?_⟩) | (go_at_call 40; (with_reducible refine (cD.calls a0_0 a0_1 true _ A6.out).mono ?_); rintro e w43 ⟨rfl, hb⟩; have n0_ := mk_ (bB_ BK359 hb); have n1_ := mk_ (aA (Short.hB HB) hb); clear BK359 HB; revert n0_ n1_; intro BK359 HB; (try clear hb); (try clear hb2); (try clear hk); (try clear hi); have hcz44_0 : w43.cell? ⟨gb359, 0, none⟩ = some (.int .i64 a0_0) := kc_ BK359 0; have hcz44_1 : w43.cell? ⟨gb359, 1, none⟩ = some (.int .i64 a0_1) := kc_ BK359 1; have hcz44_2 : w43.cell? ⟨gb359, 2, none⟩ = some (.slice A0_2 l0_2.length c0_2) := kc_ BK359 2; have hcz44_3 : w43.cell? ⟨gb359, 3, none⟩ = some (.int .i64 a0_3) := kc_ BK359 3; have hcz44_4 : w43.cell? ⟨gb359, 4, none⟩ = some (.int .i64 a0_4) := kc_ BK359 4; have hcz44_5 : w43.cell? ⟨gb359, 5, none⟩ = some (.int .i64 a0_5) := kc_ BK359 5; have hcz44_6 : w43.cell? ⟨gb359, 6, none⟩ = some (.int .i64 a0_6) := kc_ BK359 6; have hcz44_7 : w43.cell? ⟨gb359, 7, none⟩ = some (.int .i64 a0_7) := kc_ BK359 7; have hcz44_8 : w43.cell? ⟨gb359, 8, none⟩ = some (.string a0_8) := kc_ BK359 8; have hcz44_9 : w43.cell? ⟨gb359, 9, none⟩ = some (.int .i64 a0_9) := kc_ BK359 9; have hcz44_10 : w43.cell? ⟨gb359, 10, none⟩ = some (.slice A0_10 l0_10.length c0_10) := kc_ BK359 10; have hcz44_11 : w43.cell? ⟨gb359, 11, none⟩ = some (.slice A0_11 l0_11.length c0_11) := kc_ BK359 11; have hfz44_0 := aQ BK359.out) | (go_at_call 41; (with_reducible refine (bG.calls k _ _ l0_2 true _ ?side1 ?side2 A8.out).mono ?_); (case side1 => exact cX_ (aV HR0_2.out HB.out)); (case side2 => exact HC0_2.out); rintro e w' ⟨rfl, ⟨nd, rfl⟩⟩) | (go_at_call 42; (with_reducible refine (cQ.calls a0_3 a0_4 a0_5 true _ A10.out).mono ?_); rintro e w45 ⟨rfl, hb⟩; have n0_ := mk_ (bB_ BK359 hb); have n1_ := mk_ (aA (Short.hB HB) hb); clear BK359 HB; revert n0_ n1_; intro BK359 HB; (try clear hb); (try clear hb2); (try clear hk); (try clear hi); have hcz46_0 : w45.cell? ⟨gb359, 0, none⟩ = some (.int .i64 a0_0) := kc_ BK359 0; have hcz46_1 : w45.cell? ⟨gb359, 1, none⟩ = some (.int .i64 a0_1) := kc_ BK359 1; have hcz46_2 : w45.cell? ⟨gb359, 2, none⟩ = some (.slice A0_2 l0_2.length c0_2) := kc_ BK359 2; have hcz46_3 : w45.cell? ⟨gb359, 3, none⟩ = some (.int .i64 a0_3) := kc_ BK359 3; have hcz46_4 : w45.cell? ⟨gb359, 4, none⟩ = some (.int .i64 a0_4) := kc_ BK359 4; have hcz46_5 : w45.cell? ⟨gb359, 5, none⟩ = some (.int .i64 a0_5) := kc_ BK359 5; have hcz46_6 : w45.cell? ⟨gb359, 6, none⟩ = some (.int .i64 a0_6) := kc_ BK359 6; have hcz46_7 : w45.cell? ⟨gb359, 7, none⟩ = some (.int .i64 a0_7) := kc_ BK359 7; have hcz46_8 : w45.cell? ⟨gb359, 8, none⟩ = some (.string a0_8) := kc_ BK359 8; have hcz46_9 : w45.cell? ⟨gb359, 9, none⟩ = some (.int .i64 a0_9) := kc_ BK359 9; have hcz46_10 : w45.cell? ⟨gb359, 10, none⟩ = some (.slice A0_10 l0_10.length c0_10) := kc_ BK359 10; have hcz46_11 : w45.cell? ⟨gb359, 11, none⟩ = some (.slice A0_11 l0_11.length c0_11) := kc_ BK359 11; have hfz46_0 := aQ BK359.out) | (go_at_call 39; (with_reducible refine (aX.calls a0_7 1 false _ A12.out).mono ?_); rintro e w' ⟨rfl, ⟨nd, rfl⟩⟩))
   go_meet
   case rel => exact ⟨_, (true), z3_, H', ⟨by first | omega | exact Nat.le_refl _⟩, ⟨by (with_reducible repeat (first | refine aG ?_ _ | refine aH ?_ | refine aE ?_ _)); exact BK359.out⟩, ⟨Short.hB HB⟩⟩
  subst c13
  rw [if_pos rfl] at H
  by_cases c14 : (a0_8.size : Int) > 24
  ·
   rw [if_pos c14] at H
   have c14b0 : decide (24 < (a0_8.size : Int)) = true := decide_eq_true c14
   have c14b1 : decide (24 < a0_8.size) = true := decide_eq_true z4_
   clear c14
   (first | rw [c14b0] | (simp only [i64_w, i32_w]; rw [c14b0]) | skip)
   have H' := mk_ H
   clear H
   have hcz15_0 : w3.cell? ⟨gb359, 0, none⟩ = some (.int .i64 a0_0) := kc_ BK359 0
   have hcz15_1 : w3.cell? ⟨gb359, 1, none⟩ = some (.int .i64 a0_1) := kc_ BK359 1
   have hcz15_2 : w3.cell? ⟨gb359, 2, none⟩ = some (.slice A0_2 l0_2.length c0_2) := kc_ BK359 2
   have hcz15_3 : w3.cell? ⟨gb359, 3, none⟩ = some (.int .i64 a0_3) := kc_ BK359 3
   have hcz15_4 : w3.cell? ⟨gb359, 4, none⟩ = some (.int .i64 a0_4) := kc_ BK359 4
   have hcz15_5 : w3.cell? ⟨gb359, 5, none⟩ = some (.int .i64 a0_5) := kc_ BK359 5
   have hcz15_6 : w3.cell? ⟨gb359, 6, none⟩ = some (.int .i64 a0_6) := kc_ BK359 6
   have hcz15_7 : w3.cell? ⟨gb359, 7, none⟩ = some (.int .i64 a0_7) := kc_ BK359 7
   have hcz15_8 : w3.cell? ⟨gb359, 8, none⟩ = some (.string a0_8) := kc_ BK359 8
   have hcz15_9 : w3.cell? ⟨gb359, 9, none⟩ = some (.int .i64 a0_9) := kc_ BK359 9
   have hcz15_10 : w3.cell? ⟨gb359, 10, none⟩ = some (.slice A0_10 l0_10.length c0_10) := kc_ BK359 10
   have hcz15_11 : w3.cell? ⟨gb359, 11, none⟩ = some (.slice A0_11 l0_11.length c0_11) := kc_ BK359 11
   have hfz15_0 := aQ BK359.out
   go_wp2_with (first | ((with_reducible refine aJ (f := 39) rfl ?_); refine Short.gL (some 6) Tryz.func39 #[.int .i64 a0_6, .int .i64 1] (h := ?_); (with_reducible refine (aX.calls a0_6 1 true _ A4.out).mono ?_); rintro e w' ⟨rfl, ⟨nd, rfl⟩⟩; refine ⟨_, rfl, ?_⟩) | (go_at_call 40; (with_reducible refine (cD.calls a0_0 a0_1 true _ A6.out).mono ?_); rintro e w16 ⟨rfl, hb⟩; have n0_ := mk_ (bB_ BK359 hb); have n1_ := mk_ (aA (Short.hB HB) hb); clear BK359 HB; revert n0_ n1_; intro BK359 HB; (try clear hb); (try clear hb2); (try clear hk); (try clear hi); have hcz17_0 : w16.cell? ⟨gb359, 0, none⟩ = some (.int .i64 a0_0) := kc_ BK359 0; have hcz17_1 : w16.cell? ⟨gb359, 1, none⟩ = some (.int .i64 a0_1) := kc_ BK359 1; have hcz17_2 : w16.cell? ⟨gb359, 2, none⟩ = some (.slice A0_2 l0_2.length c0_2) := kc_ BK359 2; have hcz17_3 : w16.cell? ⟨gb359, 3, none⟩ = some (.int .i64 a0_3) := kc_ BK359 3; have hcz17_4 : w16.cell? ⟨gb359, 4, none⟩ = some (.int .i64 a0_4) := kc_ BK359 4; have hcz17_5 : w16.cell? ⟨gb359, 5, none⟩ = some (.int .i64 a0_5) := kc_ BK359 5; have hcz17_6 : w16.cell? ⟨gb359, 6, none⟩ = some (.int .i64 a0_6) := kc_ BK359 6; have hcz17_7 : w16.cell? ⟨gb359, 7, none⟩ = some (.int .i64 a0_7) := kc_ BK359 7; have hcz17_8 : w16.cell? ⟨gb359, 8, none⟩ = some (.string a0_8) := kc_ BK359 8; have hcz17_9 : w16.cell? ⟨gb359, 9, none⟩ = some (.int .i64 a0_9) := kc_ BK359 9; have hcz17_10 : w16.cell? ⟨gb359, 10, none⟩ = some (.slice A0_10 l0_10.length c0_10) := kc_ BK359 10; have hcz17_11 : w16.cell? ⟨gb359, 11, none⟩ = some (.slice A0_11 l0_11.length c0_11) := kc_ BK359 11; have hfz17_0 := aQ BK359.out) | (go_at_call 41; (with_reducible refine (bG.calls k _ _ l0_2 true _ ?side1 ?side2 A8.out).mono ?_); (case side1 => exact cX_ (aV HR0_2.out HB.out)); (case side2 => exact HC0_2.out); rintro e w' ⟨rfl, ⟨nd, rfl⟩⟩) | (go_at_call 42; (with_reducible refine (cQ.calls a0_3 a0_4 a0_5 true _ A10.out).mono ?_); rintro e w18 ⟨rfl, hb⟩; have n0_ := mk_ (bB_ BK359 hb); have n1_ := mk_ (aA (Short.hB HB) hb); clear BK359 HB; revert n0_ n1_; intro BK359 HB; (try clear hb); (try clear hb2); (try clear hk); (try clear hi); have hcz19_0 : w18.cell? ⟨gb359, 0, none⟩ = some (.int .i64 a0_0) := kc_ BK359 0; have hcz19_1 : w18.cell? ⟨gb359, 1, none⟩ = some (.int .i64 a0_1) := kc_ BK359 1; have hcz19_2 : w18.cell? ⟨gb359, 2, none⟩ = some (.slice A0_2 l0_2.length c0_2) := kc_ BK359 2; have hcz19_3 : w18.cell? ⟨gb359, 3, none⟩ = some (.int .i64 a0_3) := kc_ BK359 3; have hcz19_4 : w18.cell? ⟨gb359, 4, none⟩ = some (.int .i64 a0_4) := kc_ BK359 4; have hcz19_5 : w18.cell? ⟨gb359, 5, none⟩ = some (.int .i64 a0_5) := kc_ BK359 5; have hcz19_6 : w18.cell? ⟨gb359, 6, none⟩ = some (.int .i64 a0_6) := kc_ BK359 6; have hcz19_7 : w18.cell? ⟨gb359, 7, none⟩ = some (.int .i64 a0_7) := kc_ BK359 7; have hcz19_8 : w18.cell? ⟨gb359, 8, none⟩ = some (.string a0_8) := kc_ BK359 8; have hcz19_9 : w18.cell? ⟨gb359, 9, none⟩ = some (.int .i64 a0_9) := kc_ BK359 9; have hcz19_10 : w18.cell? ⟨gb359, 10, none⟩ = some (.slice A0_10 l0_10.length c0_10) := kc_ BK359 10; have hcz19_11 : w18.cell? ⟨gb359, 11, none⟩ = some (.slice A0_11 l0_11.length c0_11) := kc_ BK359 11; have hfz19_0 := aQ BK359.out) | (go_at_call 39; (with_reducible refine (aX.calls a0_7 1 true _ A12.out).mono ?_); rintro e w' ⟨rfl, ⟨nd, rfl⟩⟩))
   go_meet
   case rel => exact ⟨_, (true), z3_, H', ⟨by first | omega | exact Nat.le_refl _⟩, ⟨by (with_reducible repeat (first | refine aG ?_ _ | refine aH ?_ | refine aE ?_ _)); exact BK359.out⟩, ⟨Short.hB HB⟩⟩
  rw [if_neg c14] at H
  have c14b0 : decide (24 < (a0_8.size : Int)) = false := decide_eq_false c14
  have c14b1 : decide (24 < a0_8.size) = false := decide_eq_false z4_
  clear c14
  (first | rw [c14b0] | (simp only [i64_w, i32_w]; rw [c14b0]) | skip)
  obtain ⟨t365, A20, H⟩ := Option.bind_eq_some_iff.mp H
  replace A20 := mk_ A20
  by_cases c21 : t365 = true
  rotate_left
  ·
   replace c21 := Bool.eq_false_iff.mpr c21
   subst c21
   rw [if_neg (show ¬ (false = true) by decide)] at H
   have H' := mk_ H
   clear H
   have hcz37_0 : w3.cell? ⟨gb359, 0, none⟩ = some (.int .i64 a0_0) := kc_ BK359 0
   have hcz37_1 : w3.cell? ⟨gb359, 1, none⟩ = some (.int .i64 a0_1) := kc_ BK359 1
   have hcz37_2 : w3.cell? ⟨gb359, 2, none⟩ = some (.slice A0_2 l0_2.length c0_2) := kc_ BK359 2
   have hcz37_3 : w3.cell? ⟨gb359, 3, none⟩ = some (.int .i64 a0_3) := kc_ BK359 3
   have hcz37_4 : w3.cell? ⟨gb359, 4, none⟩ = some (.int .i64 a0_4) := kc_ BK359 4
   have hcz37_5 : w3.cell? ⟨gb359, 5, none⟩ = some (.int .i64 a0_5) := kc_ BK359 5
   have hcz37_6 : w3.cell? ⟨gb359, 6, none⟩ = some (.int .i64 a0_6) := kc_ BK359 6
   have hcz37_7 : w3.cell? ⟨gb359, 7, none⟩ = some (.int .i64 a0_7) := kc_ BK359 7
   have hcz37_8 : w3.cell? ⟨gb359, 8, none⟩ = some (.string a0_8) := kc_ BK359 8
   have hcz37_9 : w3.cell? ⟨gb359, 9, none⟩ = some (.int .i64 a0_9) := kc_ BK359 9
   have hcz37_10 : w3.cell? ⟨gb359, 10, none⟩ = some (.slice A0_10 l0_10.length c0_10) := kc_ BK359 10
   have hcz37_11 : w3.cell? ⟨gb359, 11, none⟩ = some (.slice A0_11 l0_11.length c0_11) := kc_ BK359 11
   have hfz37_0 := aQ BK359.out
   go_wp2_with (first | ((with_reducible refine aJ (f := 39) rfl ?_); refine Short.gL (some 6) Tryz.func39 #[.int .i64 a0_6, .int .i64 1] (h := ?_); (with_reducible refine (aX.calls a0_6 1 true _ A4.out).mono ?_); rintro e w' ⟨rfl, ⟨nd, rfl⟩⟩; refine ⟨_, rfl, ?_⟩) | (go_at_call 40; (with_reducible refine (cD.calls a0_0 a0_1 true _ A6.out).mono ?_); rintro e w38 ⟨rfl, hb⟩; have n0_ := mk_ (bB_ BK359 hb); have n1_ := mk_ (aA (Short.hB HB) hb); clear BK359 HB; revert n0_ n1_; intro BK359 HB; (try clear hb); (try clear hb2); (try clear hk); (try clear hi); have hcz39_0 : w38.cell? ⟨gb359, 0, none⟩ = some (.int .i64 a0_0) := kc_ BK359 0; have hcz39_1 : w38.cell? ⟨gb359, 1, none⟩ = some (.int .i64 a0_1) := kc_ BK359 1; have hcz39_2 : w38.cell? ⟨gb359, 2, none⟩ = some (.slice A0_2 l0_2.length c0_2) := kc_ BK359 2; have hcz39_3 : w38.cell? ⟨gb359, 3, none⟩ = some (.int .i64 a0_3) := kc_ BK359 3; have hcz39_4 : w38.cell? ⟨gb359, 4, none⟩ = some (.int .i64 a0_4) := kc_ BK359 4; have hcz39_5 : w38.cell? ⟨gb359, 5, none⟩ = some (.int .i64 a0_5) := kc_ BK359 5; have hcz39_6 : w38.cell? ⟨gb359, 6, none⟩ = some (.int .i64 a0_6) := kc_ BK359 6; have hcz39_7 : w38.cell? ⟨gb359, 7, none⟩ = some (.int .i64 a0_7) := kc_ BK359 7; have hcz39_8 : w38.cell? ⟨gb359, 8, none⟩ = some (.string a0_8) := kc_ BK359 8; have hcz39_9 : w38.cell? ⟨gb359, 9, none⟩ = some (.int .i64 a0_9) := kc_ BK359 9; have hcz39_10 : w38.cell? ⟨gb359, 10, none⟩ = some (.slice A0_10 l0_10.length c0_10) := kc_ BK359 10; have hcz39_11 : w38.cell? ⟨gb359, 11, none⟩ = some (.slice A0_11 l0_11.length c0_11) := kc_ BK359 11; have hfz39_0 := aQ BK359.out) | (go_at_call 41; (with_reducible refine (bG.calls k _ _ l0_2 true _ ?side1 ?side2 A8.out).mono ?_); (case side1 => exact cX_ (aV HR0_2.out HB.out)); (case side2 => exact HC0_2.out); rintro e w' ⟨rfl, ⟨nd, rfl⟩⟩) | (go_at_call 42; (with_reducible refine (cQ.calls a0_3 a0_4 a0_5 true _ A10.out).mono ?_); rintro e w40 ⟨rfl, hb⟩; have n0_ := mk_ (bB_ BK359 hb); have n1_ := mk_ (aA (Short.hB HB) hb); clear BK359 HB; revert n0_ n1_; intro BK359 HB; (try clear hb); (try clear hb2); (try clear hk); (try clear hi); have hcz41_0 : w40.cell? ⟨gb359, 0, none⟩ = some (.int .i64 a0_0) := kc_ BK359 0; have hcz41_1 : w40.cell? ⟨gb359, 1, none⟩ = some (.int .i64 a0_1) := kc_ BK359 1; have hcz41_2 : w40.cell? ⟨gb359, 2, none⟩ = some (.slice A0_2 l0_2.length c0_2) := kc_ BK359 2; have hcz41_3 : w40.cell? ⟨gb359, 3, none⟩ = some (.int .i64 a0_3) := kc_ BK359 3; have hcz41_4 : w40.cell? ⟨gb359, 4, none⟩ = some (.int .i64 a0_4) := kc_ BK359 4; have hcz41_5 : w40.cell? ⟨gb359, 5, none⟩ = some (.int .i64 a0_5) := kc_ BK359 5; have hcz41_6 : w40.cell? ⟨gb359, 6, none⟩ = some (.int .i64 a0_6) := kc_ BK359 6; have hcz41_7 : w40.cell? ⟨gb359, 7, none⟩ = some (.int .i64 a0_7) := kc_ BK359 7; have hcz41_8 : w40.cell? ⟨gb359, 8, none⟩ = some (.string a0_8) := kc_ BK359 8; have hcz41_9 : w40.cell? ⟨gb359, 9, none⟩ = some (.int .i64 a0_9) := kc_ BK359 9; have hcz41_10 : w40.cell? ⟨gb359, 10, none⟩ = some (.slice A0_10 l0_10.length c0_10) := kc_ BK359 10; have hcz41_11 : w40.cell? ⟨gb359, 11, none⟩ = some (.slice A0_11 l0_11.length c0_11) := kc_ BK359 11; have hfz41_0 := aQ BK359.out) | (go_at_call 39; (with_reducible refine (aX.calls a0_7 1 true _ A12.out).mono ?_); rintro e w' ⟨rfl, ⟨nd, rfl⟩⟩) | (go_at_call 39; (with_reducible refine (aX.calls a0_9 1 false _ A20.out).mono ?_); rintro e w' ⟨rfl, ⟨nd, rfl⟩⟩))
   go_meet
   case rel => exact ⟨_, (true), z3_, H', ⟨by first | omega | exact Nat.le_refl _⟩, ⟨by (with_reducible repeat (first | refine aG ?_ _ | refine aH ?_ | refine aE ?_ _)); exact BK359.out⟩, ⟨Short.hB HB⟩⟩
  subst c21
  rw [if_pos rfl] at H
  obtain ⟨t366, A22, H⟩ := Option.bind_eq_some_iff.mp H
  replace A22 := mk_ A22
  by_cases c23 : t366 = 0
  rotate_left
  ·
   rw [if_neg c23] at H
   have c23b0 : (t366 == 0) = false := beq_eq_false_iff_ne.mpr c23
   have c23b1 : (t366 != 0) = true := bne_iff_ne.mpr c23
   have H' := mk_ H
   clear H
   have hcz31_0 : w3.cell? ⟨gb359, 0, none⟩ = some (.int .i64 a0_0) := kc_ BK359 0
   have hcz31_1 : w3.cell? ⟨gb359, 1, none⟩ = some (.int .i64 a0_1) := kc_ BK359 1
   have hcz31_2 : w3.cell? ⟨gb359, 2, none⟩ = some (.slice A0_2 l0_2.length c0_2) := kc_ BK359 2
   have hcz31_3 : w3.cell? ⟨gb359, 3, none⟩ = some (.int .i64 a0_3) := kc_ BK359 3
   have hcz31_4 : w3.cell? ⟨gb359, 4, none⟩ = some (.int .i64 a0_4) := kc_ BK359 4
   have hcz31_5 : w3.cell? ⟨gb359, 5, none⟩ = some (.int .i64 a0_5) := kc_ BK359 5
   have hcz31_6 : w3.cell? ⟨gb359, 6, none⟩ = some (.int .i64 a0_6) := kc_ BK359 6
   have hcz31_7 : w3.cell? ⟨gb359, 7, none⟩ = some (.int .i64 a0_7) := kc_ BK359 7
   have hcz31_8 : w3.cell? ⟨gb359, 8, none⟩ = some (.string a0_8) := kc_ BK359 8
   have hcz31_9 : w3.cell? ⟨gb359, 9, none⟩ = some (.int .i64 a0_9) := kc_ BK359 9
   have hcz31_10 : w3.cell? ⟨gb359, 10, none⟩ = some (.slice A0_10 l0_10.length c0_10) := kc_ BK359 10
   have hcz31_11 : w3.cell? ⟨gb359, 11, none⟩ = some (.slice A0_11 l0_11.length c0_11) := kc_ BK359 11
   have hfz31_0 := aQ BK359.out
   go_wp2_with (first | ((with_reducible refine aJ (f := 39) rfl ?_); refine Short.gL (some 6) Tryz.func39 #[.int .i64 a0_6, .int .i64 1] (h := ?_); (with_reducible refine (aX.calls a0_6 1 true _ A4.out).mono ?_); rintro e w' ⟨rfl, ⟨nd, rfl⟩⟩; refine ⟨_, rfl, ?_⟩) | (go_at_call 40; (with_reducible refine (cD.calls a0_0 a0_1 true _ A6.out).mono ?_); rintro e w32 ⟨rfl, hb⟩; have n0_ := mk_ (bB_ BK359 hb); have n1_ := mk_ (aA (Short.hB HB) hb); clear BK359 HB; revert n0_ n1_; intro BK359 HB; (try clear hb); (try clear hb2); (try clear hk); (try clear hi); have hcz33_0 : w32.cell? ⟨gb359, 0, none⟩ = some (.int .i64 a0_0) := kc_ BK359 0; have hcz33_1 : w32.cell? ⟨gb359, 1, none⟩ = some (.int .i64 a0_1) := kc_ BK359 1; have hcz33_2 : w32.cell? ⟨gb359, 2, none⟩ = some (.slice A0_2 l0_2.length c0_2) := kc_ BK359 2; have hcz33_3 : w32.cell? ⟨gb359, 3, none⟩ = some (.int .i64 a0_3) := kc_ BK359 3; have hcz33_4 : w32.cell? ⟨gb359, 4, none⟩ = some (.int .i64 a0_4) := kc_ BK359 4; have hcz33_5 : w32.cell? ⟨gb359, 5, none⟩ = some (.int .i64 a0_5) := kc_ BK359 5; have hcz33_6 : w32.cell? ⟨gb359, 6, none⟩ = some (.int .i64 a0_6) := kc_ BK359 6; have hcz33_7 : w32.cell? ⟨gb359, 7, none⟩ = some (.int .i64 a0_7) := kc_ BK359 7; have hcz33_8 : w32.cell? ⟨gb359, 8, none⟩ = some (.string a0_8) := kc_ BK359 8; have hcz33_9 : w32.cell? ⟨gb359, 9, none⟩ = some (.int .i64 a0_9) := kc_ BK359 9; have hcz33_10 : w32.cell? ⟨gb359, 10, none⟩ = some (.slice A0_10 l0_10.length c0_10) := kc_ BK359 10; have hcz33_11 : w32.cell? ⟨gb359, 11, none⟩ = some (.slice A0_11 l0_11.length c0_11) := kc_ BK359 11; have hfz33_0 := aQ BK359.out) | (go_at_call 41; (with_reducible refine (bG.calls k _ _ l0_2 true _ ?side1 ?side2 A8.out).mono ?_); (case side1 => exact cX_ (aV HR0_2.out HB.out)); (case side2 => exact HC0_2.out); rintro e w' ⟨rfl, ⟨nd, rfl⟩⟩) | (go_at_call 42; (with_reducible refine (cQ.calls a0_3 a0_4 a0_5 true _ A10.out).mono ?_); rintro e w34 ⟨rfl, hb⟩; have n0_ := mk_ (bB_ BK359 hb); have n1_ := mk_ (aA (Short.hB HB) hb); clear BK359 HB; revert n0_ n1_; intro BK359 HB; (try clear hb); (try clear hb2); (try clear hk); (try clear hi); have hcz35_0 : w34.cell? ⟨gb359, 0, none⟩ = some (.int .i64 a0_0) := kc_ BK359 0; have hcz35_1 : w34.cell? ⟨gb359, 1, none⟩ = some (.int .i64 a0_1) := kc_ BK359 1; have hcz35_2 : w34.cell? ⟨gb359, 2, none⟩ = some (.slice A0_2 l0_2.length c0_2) := kc_ BK359 2; have hcz35_3 : w34.cell? ⟨gb359, 3, none⟩ = some (.int .i64 a0_3) := kc_ BK359 3; have hcz35_4 : w34.cell? ⟨gb359, 4, none⟩ = some (.int .i64 a0_4) := kc_ BK359 4; have hcz35_5 : w34.cell? ⟨gb359, 5, none⟩ = some (.int .i64 a0_5) := kc_ BK359 5; have hcz35_6 : w34.cell? ⟨gb359, 6, none⟩ = some (.int .i64 a0_6) := kc_ BK359 6; have hcz35_7 : w34.cell? ⟨gb359, 7, none⟩ = some (.int .i64 a0_7) := kc_ BK359 7; have hcz35_8 : w34.cell? ⟨gb359, 8, none⟩ = some (.string a0_8) := kc_ BK359 8; have hcz35_9 : w34.cell? ⟨gb359, 9, none⟩ = some (.int .i64 a0_9) := kc_ BK359 9; have hcz35_10 : w34.cell? ⟨gb359, 10, none⟩ = some (.slice A0_10 l0_10.length c0_10) := kc_ BK359 10; have hcz35_11 : w34.cell? ⟨gb359, 11, none⟩ = some (.slice A0_11 l0_11.length c0_11) := kc_ BK359 11; have hfz35_0 := aQ BK359.out) | (go_at_call 39; (with_reducible refine (aX.calls a0_7 1 true _ A12.out).mono ?_); rintro e w' ⟨rfl, ⟨nd, rfl⟩⟩) | (go_at_call 39; (with_reducible refine (aX.calls a0_9 1 true _ A20.out).mono ?_); rintro e w' ⟨rfl, ⟨nd, rfl⟩⟩) | (go_at_call 43; (with_reducible refine (cR.calls k _ _ l0_10 t366 _ ?side1 ?side2 A22.out).mono ?_); (case side1 => exact cX_ (aV HR0_10.out (Short.hB HB))); (case side2 => exact HC0_10.out); rintro e w36 ⟨rfl, hb⟩; have n0_ := mk_ (bB_ BK359 hb); have n1_ := mk_ (aA (Short.hB HB) hb); clear BK359 HB; revert n0_ n1_; intro BK359 HB; (try clear hb); (try clear hb2); (try clear hk); (try clear hi)))
   go_meet
   case rel => exact ⟨_, (true), z3_, H', ⟨by first | omega | exact Nat.le_refl _⟩, ⟨by (with_reducible repeat (first | refine aG ?_ _ | refine aH ?_ | refine aE ?_ _)); exact BK359.out⟩, ⟨Short.hB HB⟩⟩
  rw [if_pos c23] at H
  have c23b0 : (t366 == 0) = true := beq_iff_eq.mpr c23
  have c23b1 : (t366 != 0) = false := bne_eq_false_iff_eq.mpr c23
  clear c23
  have H' := mk_ H
  clear H
  have hcz24_0 : w3.cell? ⟨gb359, 0, none⟩ = some (.int .i64 a0_0) := kc_ BK359 0
  have hcz24_1 : w3.cell? ⟨gb359, 1, none⟩ = some (.int .i64 a0_1) := kc_ BK359 1
  have hcz24_2 : w3.cell? ⟨gb359, 2, none⟩ = some (.slice A0_2 l0_2.length c0_2) := kc_ BK359 2
  have hcz24_3 : w3.cell? ⟨gb359, 3, none⟩ = some (.int .i64 a0_3) := kc_ BK359 3
  have hcz24_4 : w3.cell? ⟨gb359, 4, none⟩ = some (.int .i64 a0_4) := kc_ BK359 4
  have hcz24_5 : w3.cell? ⟨gb359, 5, none⟩ = some (.int .i64 a0_5) := kc_ BK359 5
  have hcz24_6 : w3.cell? ⟨gb359, 6, none⟩ = some (.int .i64 a0_6) := kc_ BK359 6
  have hcz24_7 : w3.cell? ⟨gb359, 7, none⟩ = some (.int .i64 a0_7) := kc_ BK359 7
  have hcz24_8 : w3.cell? ⟨gb359, 8, none⟩ = some (.string a0_8) := kc_ BK359 8
  have hcz24_9 : w3.cell? ⟨gb359, 9, none⟩ = some (.int .i64 a0_9) := kc_ BK359 9
  have hcz24_10 : w3.cell? ⟨gb359, 10, none⟩ = some (.slice A0_10 l0_10.length c0_10) := kc_ BK359 10
  have hcz24_11 : w3.cell? ⟨gb359, 11, none⟩ = some (.slice A0_11 l0_11.length c0_11) := kc_ BK359 11
  have hfz24_0 := aQ BK359.out
  go_wp2_with (first | ((with_reducible refine aJ (f := 39) rfl ?_); refine Short.gL (some 6) Tryz.func39 #[.int .i64 a0_6, .int .i64 1] (h := ?_); (with_reducible refine (aX.calls a0_6 1 true _ A4.out).mono ?_); rintro e w' ⟨rfl, ⟨nd, rfl⟩⟩; refine ⟨_, rfl, ?_⟩) | (go_at_call 40; (with_reducible refine (cD.calls a0_0 a0_1 true _ A6.out).mono ?_); rintro e w25 ⟨rfl, hb⟩; have n0_ := mk_ (bB_ BK359 hb); have n1_ := mk_ (aA (Short.hB HB) hb); clear BK359 HB; revert n0_ n1_; intro BK359 HB; (try clear hb); (try clear hb2); (try clear hk); (try clear hi); have hcz26_0 : w25.cell? ⟨gb359, 0, none⟩ = some (.int .i64 a0_0) := kc_ BK359 0; have hcz26_1 : w25.cell? ⟨gb359, 1, none⟩ = some (.int .i64 a0_1) := kc_ BK359 1; have hcz26_2 : w25.cell? ⟨gb359, 2, none⟩ = some (.slice A0_2 l0_2.length c0_2) := kc_ BK359 2; have hcz26_3 : w25.cell? ⟨gb359, 3, none⟩ = some (.int .i64 a0_3) := kc_ BK359 3; have hcz26_4 : w25.cell? ⟨gb359, 4, none⟩ = some (.int .i64 a0_4) := kc_ BK359 4; have hcz26_5 : w25.cell? ⟨gb359, 5, none⟩ = some (.int .i64 a0_5) := kc_ BK359 5; have hcz26_6 : w25.cell? ⟨gb359, 6, none⟩ = some (.int .i64 a0_6) := kc_ BK359 6; have hcz26_7 : w25.cell? ⟨gb359, 7, none⟩ = some (.int .i64 a0_7) := kc_ BK359 7; have hcz26_8 : w25.cell? ⟨gb359, 8, none⟩ = some (.string a0_8) := kc_ BK359 8; have hcz26_9 : w25.cell? ⟨gb359, 9, none⟩ = some (.int .i64 a0_9) := kc_ BK359 9; have hcz26_10 : w25.cell? ⟨gb359, 10, none⟩ = some (.slice A0_10 l0_10.length c0_10) := kc_ BK359 10; have hcz26_11 : w25.cell? ⟨gb359, 11, none⟩ = some (.slice A0_11 l0_11.length c0_11) := kc_ BK359 11; have hfz26_0 := aQ BK359.out) | (go_at_call 41; (with_reducible refine (bG.calls k _ _ l0_2 true _ ?side1 ?side2 A8.out).mono ?_); (case side1 => exact cX_ (aV HR0_2.out HB.out)); (case side2 => exact HC0_2.out); rintro e w' ⟨rfl, ⟨nd, rfl⟩⟩) | (go_at_call 42; (with_reducible refine (cQ.calls a0_3 a0_4 a0_5 true _ A10.out).mono ?_); rintro e w27 ⟨rfl, hb⟩; have n0_ := mk_ (bB_ BK359 hb); have n1_ := mk_ (aA (Short.hB HB) hb); clear BK359 HB; revert n0_ n1_; intro BK359 HB; (try clear hb); (try clear hb2); (try clear hk); (try clear hi); have hcz28_0 : w27.cell? ⟨gb359, 0, none⟩ = some (.int .i64 a0_0) := kc_ BK359 0; have hcz28_1 : w27.cell? ⟨gb359, 1, none⟩ = some (.int .i64 a0_1) := kc_ BK359 1; have hcz28_2 : w27.cell? ⟨gb359, 2, none⟩ = some (.slice A0_2 l0_2.length c0_2) := kc_ BK359 2; have hcz28_3 : w27.cell? ⟨gb359, 3, none⟩ = some (.int .i64 a0_3) := kc_ BK359 3; have hcz28_4 : w27.cell? ⟨gb359, 4, none⟩ = some (.int .i64 a0_4) := kc_ BK359 4; have hcz28_5 : w27.cell? ⟨gb359, 5, none⟩ = some (.int .i64 a0_5) := kc_ BK359 5; have hcz28_6 : w27.cell? ⟨gb359, 6, none⟩ = some (.int .i64 a0_6) := kc_ BK359 6; have hcz28_7 : w27.cell? ⟨gb359, 7, none⟩ = some (.int .i64 a0_7) := kc_ BK359 7; have hcz28_8 : w27.cell? ⟨gb359, 8, none⟩ = some (.string a0_8) := kc_ BK359 8; have hcz28_9 : w27.cell? ⟨gb359, 9, none⟩ = some (.int .i64 a0_9) := kc_ BK359 9; have hcz28_10 : w27.cell? ⟨gb359, 10, none⟩ = some (.slice A0_10 l0_10.length c0_10) := kc_ BK359 10; have hcz28_11 : w27.cell? ⟨gb359, 11, none⟩ = some (.slice A0_11 l0_11.length c0_11) := kc_ BK359 11; have hfz28_0 := aQ BK359.out) | (go_at_call 39; (with_reducible refine (aX.calls a0_7 1 true _ A12.out).mono ?_); rintro e w' ⟨rfl, ⟨nd, rfl⟩⟩) | (go_at_call 39; (with_reducible refine (aX.calls a0_9 1 true _ A20.out).mono ?_); rintro e w' ⟨rfl, ⟨nd, rfl⟩⟩) | (go_at_call 43; (with_reducible refine (cR.calls k _ _ l0_10 t366 _ ?side1 ?side2 A22.out).mono ?_); (case side1 => exact cX_ (aV HR0_10.out (Short.hB HB))); (case side2 => exact HC0_10.out); rintro e w29 ⟨rfl, hb⟩; have n0_ := mk_ (bB_ BK359 hb); have n1_ := mk_ (aA (Short.hB HB) hb); clear BK359 HB; revert n0_ n1_; intro BK359 HB; (try clear hb); (try clear hb2); (try clear hk); (try clear hi); have hcz30_0 : w29.cell? ⟨gb359, 0, none⟩ = some (.int .i64 a0_0) := kc_ BK359 0; have hcz30_1 : w29.cell? ⟨gb359, 1, none⟩ = some (.int .i64 a0_1) := kc_ BK359 1; have hcz30_2 : w29.cell? ⟨gb359, 2, none⟩ = some (.slice A0_2 l0_2.length c0_2) := kc_ BK359 2; have hcz30_3 : w29.cell? ⟨gb359, 3, none⟩ = some (.int .i64 a0_3) := kc_ BK359 3; have hcz30_4 : w29.cell? ⟨gb359, 4, none⟩ = some (.int .i64 a0_4) := kc_ BK359 4; have hcz30_5 : w29.cell? ⟨gb359, 5, none⟩ = some (.int .i64 a0_5) := kc_ BK359 5; have hcz30_6 : w29.cell? ⟨gb359, 6, none⟩ = some (.int .i64 a0_6) := kc_ BK359 6; have hcz30_7 : w29.cell? ⟨gb359, 7, none⟩ = some (.int .i64 a0_7) := kc_ BK359 7; have hcz30_8 : w29.cell? ⟨gb359, 8, none⟩ = some (.string a0_8) := kc_ BK359 8; have hcz30_9 : w29.cell? ⟨gb359, 9, none⟩ = some (.int .i64 a0_9) := kc_ BK359 9; have hcz30_10 : w29.cell? ⟨gb359, 10, none⟩ = some (.slice A0_10 l0_10.length c0_10) := kc_ BK359 10; have hcz30_11 : w29.cell? ⟨gb359, 11, none⟩ = some (.slice A0_11 l0_11.length c0_11) := kc_ BK359 11; have hfz30_0 := aQ BK359.out))
  go_meet
  case rel => exact ⟨_, (decide ((l0_11.length : Int) > 64)), z3_, H', ⟨by first | omega | exact Nat.le_refl _⟩, ⟨by (with_reducible repeat (first | refine aG ?_ _ | refine aH ?_ | refine aE ?_ _)); exact BK359.out⟩, ⟨Short.hB HB⟩⟩
 case rest => as_aux_lemma =>
  clear HC2
  try clear c1
  try clear c2
  try clear p2
  try clear c3
  try clear c5
  try clear c7
  try clear c9
  try clear c11
  try clear c13
  try clear c14
  try clear c14b0
  try clear c14b1
  try clear c17
  try clear c21
  try clear c23
  try clear c23b0
  try clear c23b1
  try clear c39
  try clear hcz15_0
  try clear hcz15_1
  try clear hcz15_10
  try clear hcz15_11
  try clear hcz15_2
  try clear hcz15_3
  try clear hcz15_4
  try clear hcz15_5
  try clear hcz15_6
  try clear hcz15_7
  try clear hcz15_8
  try clear hcz15_9
  try clear hcz17_0
  try clear hcz17_1
  try clear hcz17_10
  try clear hcz17_11
  try clear hcz17_2
  try clear hcz17_3
  try clear hcz17_4
  try clear hcz17_5
  try clear hcz17_6
  try clear hcz17_7
  try clear hcz17_8
  try clear hcz17_9
  try clear hcz19_0
  try clear hcz19_1
  try clear hcz19_10
  try clear hcz19_11
  try clear hcz19_2
  try clear hcz19_3
  try clear hcz19_4
  try clear hcz19_5
  try clear hcz19_6
  try clear hcz19_7
  try clear hcz19_8
  try clear hcz19_9
  try clear hcz24_0
  try clear hcz24_1
  try clear hcz24_10
  try clear hcz24_11
  try clear hcz24_2
  try clear hcz24_3
  try clear hcz24_4
  try clear hcz24_5
  try clear hcz24_6
  try clear hcz24_7
  try clear hcz24_8
  try clear hcz24_9
  try clear hcz26_0
  try clear hcz26_1
  try clear hcz26_10
  try clear hcz26_11
  try clear hcz26_2
  try clear hcz26_3
  try clear hcz26_4
  try clear hcz26_5
  try clear hcz26_6
  try clear hcz26_7
  try clear hcz26_8
  try clear hcz26_9
  try clear hcz28_0
  try clear hcz28_1
  try clear hcz28_10
  try clear hcz28_11
  try clear hcz28_2
  try clear hcz28_3
  try clear hcz28_4
  try clear hcz28_5
  try clear hcz28_6
  try clear hcz28_7
  try clear hcz28_8
  try clear hcz28_9
  try clear hcz30_0
  try clear hcz30_1
  try clear hcz30_10
  try clear hcz30_11
  try clear hcz30_2
  try clear hcz30_3
  try clear hcz30_4
  try clear hcz30_5
  try clear hcz30_6
  try clear hcz30_7
  try clear hcz30_8
  try clear hcz30_9
  try clear hcz31_0
  try clear hcz31_1
  try clear hcz31_10
  try clear hcz31_11
  try clear hcz31_2
  try clear hcz31_3
  try clear hcz31_4
  try clear hcz31_5
  try clear hcz31_6
  try clear hcz31_7
  try clear hcz31_8
  try clear hcz31_9
  try clear hcz33_0
  try clear hcz33_1
  try clear hcz33_10
  try clear hcz33_11
  try clear hcz33_2
  try clear hcz33_3
  try clear hcz33_4
  try clear hcz33_5
  try clear hcz33_6
  try clear hcz33_7
  try clear hcz33_8
  try clear hcz33_9
  try clear hcz35_0
  try clear hcz35_1
  try clear hcz35_10
  try clear hcz35_11
  try clear hcz35_2
  try clear hcz35_3
  try clear hcz35_4
  try clear hcz35_5
  try clear hcz35_6
  try clear hcz35_7
  try clear hcz35_8
  try clear hcz35_9
  try clear hcz37_0
  try clear hcz37_1
  try clear hcz37_10
  try clear hcz37_11
  try clear hcz37_2
  try clear hcz37_3
  try clear hcz37_4
  try clear hcz37_5
  try clear hcz37_6
  try clear hcz37_7
  try clear hcz37_8
  try clear hcz37_9
  try clear hcz39_0
  try clear hcz39_1
  try clear hcz39_10
  try clear hcz39_11
  try clear hcz39_2
  try clear hcz39_3
  try clear hcz39_4
  try clear hcz39_5
  try clear hcz39_6
  try clear hcz39_7
  try clear hcz39_8
  try clear hcz39_9
  try clear hcz41_0
  try clear hcz41_1
  try clear hcz41_10
  try clear hcz41_11
  try clear hcz41_2
  try clear hcz41_3
  try clear hcz41_4
  try clear hcz41_5
  try clear hcz41_6
  try clear hcz41_7
  try clear hcz41_8
  try clear hcz41_9
  try clear hcz42_0
  try clear hcz42_1
  try clear hcz42_10
  try clear hcz42_11
  try clear hcz42_2
  try clear hcz42_3
  try clear hcz42_4
  try clear hcz42_5
  try clear hcz42_6
  try clear hcz42_7
  try clear hcz42_8
  try clear hcz42_9
  try clear hcz44_0
  try clear hcz44_1
  try clear hcz44_10
  try clear hcz44_11
  try clear hcz44_2
  try clear hcz44_3
  try clear hcz44_4
  try clear hcz44_5
  try clear hcz44_6
  try clear hcz44_7
  try clear hcz44_8
  try clear hcz44_9
  try clear hcz46_0
  try clear hcz46_1
  try clear hcz46_10
  try clear hcz46_11
  try clear hcz46_2
  try clear hcz46_3
  try clear hcz46_4
  try clear hcz46_5
  try clear hcz46_6
  try clear hcz46_7
  try clear hcz46_8
  try clear hcz46_9
  try clear hcz47_0
  try clear hcz47_1
  try clear hcz47_10
  try clear hcz47_11
  try clear hcz47_2
  try clear hcz47_3
  try clear hcz47_4
  try clear hcz47_5
  try clear hcz47_6
  try clear hcz47_7
  try clear hcz47_8
  try clear hcz47_9
  try clear hcz49_0
  try clear hcz49_1
  try clear hcz49_10
  try clear hcz49_11
  try clear hcz49_2
  try clear hcz49_3
  try clear hcz49_4
  try clear hcz49_5
  try clear hcz49_6
  try clear hcz49_7
  try clear hcz49_8
  try clear hcz49_9
  try clear hcz51_0
  try clear hcz51_1
  try clear hcz51_10
  try clear hcz51_11
  try clear hcz51_2
  try clear hcz51_3
  try clear hcz51_4
  try clear hcz51_5
  try clear hcz51_6
  try clear hcz51_7
  try clear hcz51_8
  try clear hcz51_9
  try clear hcz53_0
  try clear hcz53_1
  try clear hcz53_10
  try clear hcz53_11
  try clear hcz53_2
  try clear hcz53_3
  try clear hcz53_4
  try clear hcz53_5
  try clear hcz53_6
  try clear hcz53_7
  try clear hcz53_8
  try clear hcz53_9
  try clear hcz54_0
  try clear hcz54_1
  try clear hcz54_10
  try clear hcz54_11
  try clear hcz54_2
  try clear hcz54_3
  try clear hcz54_4
  try clear hcz54_5
  try clear hcz54_6
  try clear hcz54_7
  try clear hcz54_8
  try clear hcz54_9
  try clear hcz56_0
  try clear hcz56_1
  try clear hcz56_10
  try clear hcz56_11
  try clear hcz56_2
  try clear hcz56_3
  try clear hcz56_4
  try clear hcz56_5
  try clear hcz56_6
  try clear hcz56_7
  try clear hcz56_8
  try clear hcz56_9
  try clear hfz15_0
  try clear hfz17_0
  try clear hfz19_0
  try clear hfz24_0
  try clear hfz26_0
  try clear hfz28_0
  try clear hfz30_0
  try clear hfz31_0
  try clear hfz33_0
  try clear hfz35_0
  try clear hfz37_0
  try clear hfz39_0
  try clear hfz41_0
  try clear hfz42_0
  try clear hfz44_0
  try clear hfz46_0
  try clear hfz47_0
  try clear hfz49_0
  try clear hfz51_0
  try clear hfz53_0
  try clear hfz54_0
  try clear hfz56_0
  obtain ⟨kq, x55_1, rfl, HA, HJ1, BK359, HB⟩ := hcut
  cases kq with
  | zero => exact absurd HA.out (by simp [aU.j0])
  | succ kj1 =>
   have H := HA.out
   clear HA
   simp only [aU.j0] at H
   by_cases c57 : x55_1 = true
   ·
    subst c57
    rw [if_pos rfl] at H
    obtain rfl := Option.some.inj H
    go_wp2
    go_ret
    exact ⟨q0, Short.hB HB⟩
   ·
    replace c57 := Bool.eq_false_iff.mpr c57
    subst c57
    rw [if_neg (show ¬ (false = true) by decide)] at H
    have H' := mk_ H
    clear H
    go_wp2
    go_loopg [3] kj1 (fun kq v3 w' => ∃ (x3_2 : Int), v3 = .int .i64 x3_2 ∧ Aside0 (aU.l0 kq x3_2 a0_0 a0_1 l0_2 a0_3 a0_4 a0_5 a0_6 a0_7 a0_8 a0_9 l0_10 l0_11 = some r) ∧ Aside0 (kq ≤ kj1) ∧ Aside0 (w'.heap[gb359]? = some (.cells #[.int .i64 a0_0, .int .i64 a0_1, (.slice A0_2 l0_2.length c0_2), .int .i64 a0_3, .int .i64 a0_4, .int .i64 a0_5, .int .i64 a0_6, .int .i64 a0_7, .string a0_8, .int .i64 a0_9, (.slice A0_10 l0_10.length c0_10), (.slice A0_11 l0_11.length c0_11)] 31 (0, 0))) ∧ Aside0 (Below w.heap.size w w'))
    case atStart => exact ⟨(0), z3_, H', ⟨Nat.le_refl _⟩, ⟨by (with_reducible repeat (first | refine aG ?_ _ | refine aH ?_ | refine aE ?_ _)); exact BK359.out⟩, ⟨Short.hB HB⟩⟩
    case round =>
     clear H'
     try clear c1
     try clear c2
     try clear p2
     try clear c3
     try clear c5
     try clear c7
     try clear c9
     try clear c11
     try clear c13
     try clear c14
     try clear c14b0
     try clear c14b1
     try clear c17
     try clear c21
     try clear c23
     try clear c23b0
     try clear c23b1
     try clear c39
     try clear c57
     try clear hcz15_0
     try clear hcz15_1
     try clear hcz15_10
     try clear hcz15_11
     try clear hcz15_2
     try clear hcz15_3
     try clear hcz15_4
     try clear hcz15_5
     try clear hcz15_6
     try clear hcz15_7
     try clear hcz15_8
     try clear hcz15_9
     try clear hcz17_0
     try clear hcz17_1
     try clear hcz17_10
     try clear hcz17_11
     try clear hcz17_2
     try clear hcz17_3
     try clear hcz17_4
     try clear hcz17_5
     try clear hcz17_6
     try clear hcz17_7
     try clear hcz17_8
     try clear hcz17_9
     try clear hcz19_0
     try clear hcz19_1
     try clear hcz19_10
     try clear hcz19_11
     try clear hcz19_2
     try clear hcz19_3
     try clear hcz19_4
     try clear hcz19_5
     try clear hcz19_6
     try clear hcz19_7
     try clear hcz19_8
     try clear hcz19_9
     try clear hcz24_0
     try clear hcz24_1
     try clear hcz24_10
     try clear hcz24_11
     try clear hcz24_2
     try clear hcz24_3
     try clear hcz24_4
     try clear hcz24_5
     try clear hcz24_6
     try clear hcz24_7
     try clear hcz24_8
     try clear hcz24_9
     try clear hcz26_0
     try clear hcz26_1
     try clear hcz26_10
     try clear hcz26_11
     try clear hcz26_2
     try clear hcz26_3
     try clear hcz26_4
     try clear hcz26_5
     try clear hcz26_6
     try clear hcz26_7
     try clear hcz26_8
     try clear hcz26_9
     try clear hcz28_0
     try clear hcz28_1
     try clear hcz28_10
     try clear hcz28_11
     try clear hcz28_2
     try clear hcz28_3
     try clear hcz28_4
     try clear hcz28_5
     try clear hcz28_6
     try clear hcz28_7
     try clear hcz28_8
     try clear hcz28_9
     try clear hcz30_0
     try clear hcz30_1
     try clear hcz30_10
     try clear hcz30_11
     try clear hcz30_2
     try clear hcz30_3
     try clear hcz30_4
     try clear hcz30_5
     try clear hcz30_6
     try clear hcz30_7
     try clear hcz30_8
     try clear hcz30_9
     try clear hcz31_0
     try clear hcz31_1
     try clear hcz31_10
     try clear hcz31_11
     try clear hcz31_2
     try clear hcz31_3
     try clear hcz31_4
     try clear hcz31_5
     try clear hcz31_6
     try clear hcz31_7
     try clear hcz31_8
     try clear hcz31_9
     try clear hcz33_0
     try clear hcz33_1
     try clear hcz33_10
     try clear hcz33_11
     try clear hcz33_2
     try clear hcz33_3
     try clear hcz33_4
     try clear hcz33_5
     try clear hcz33_6
     try clear hcz33_7
     try clear hcz33_8
     try clear hcz33_9
     try clear hcz35_0
     try clear hcz35_1
     try clear hcz35_10
     try clear hcz35_11
     try clear hcz35_2
     try clear hcz35_3
     try clear hcz35_4
     try clear hcz35_5
     try clear hcz35_6
     try clear hcz35_7
     try clear hcz35_8
     try clear hcz35_9
     try clear hcz37_0
     try clear hcz37_1
     try clear hcz37_10
     try clear hcz37_11
     try clear hcz37_2
     try clear hcz37_3
     try clear hcz37_4
     try clear hcz37_5
     try clear hcz37_6
     try clear hcz37_7
     try clear hcz37_8
     try clear hcz37_9
     try clear hcz39_0
     try clear hcz39_1
     try clear hcz39_10
     try clear hcz39_11
     try clear hcz39_2
     try clear hcz39_3
     try clear hcz39_4
     try clear hcz39_5
     try clear hcz39_6
     try clear hcz39_7
     try clear hcz39_8
     try clear hcz39_9
     try clear hcz41_0
     try clear hcz41_1
     try clear hcz41_10
     try clear hcz41_11
     try clear hcz41_2
     try clear hcz41_3
     try clear hcz41_4
     try clear hcz41_5
     try clear hcz41_6
     try clear hcz41_7
     try clear hcz41_8
     try clear hcz41_9
     try clear hcz42_0
     try clear hcz42_1
     try clear hcz42_10
     try clear hcz42_11
     try clear hcz42_2
     try clear hcz42_3
     try clear hcz42_4
     try clear hcz42_5
     try clear hcz42_6
     try clear hcz42_7
     try clear hcz42_8
     try clear hcz42_9
     try clear hcz44_0
     try clear hcz44_1
     try clear hcz44_10
     try clear hcz44_11
     try clear hcz44_2
     try clear hcz44_3
     try clear hcz44_4
     try clear hcz44_5
     try clear hcz44_6
     try clear hcz44_7
     try clear hcz44_8
     try clear hcz44_9
     try clear hcz46_0
     try clear hcz46_1
     try clear hcz46_10
     try clear hcz46_11
     try clear hcz46_2
     try clear hcz46_3
     try clear hcz46_4
     try clear hcz46_5
     try clear hcz46_6
     try clear hcz46_7
     try clear hcz46_8
     try clear hcz46_9
     try clear hcz47_0
     try clear hcz47_1
     try clear hcz47_10
     try clear hcz47_11
     try clear hcz47_2
     try clear hcz47_3
     try clear hcz47_4
     try clear hcz47_5
     try clear hcz47_6
     try clear hcz47_7
     try clear hcz47_8
     try clear hcz47_9
     try clear hcz49_0
     try clear hcz49_1
     try clear hcz49_10
     try clear hcz49_11
     try clear hcz49_2
     try clear hcz49_3
     try clear hcz49_4
     try clear hcz49_5
     try clear hcz49_6
     try clear hcz49_7
     try clear hcz49_8
     try clear hcz49_9
     try clear hcz51_0
     try clear hcz51_1
     try clear hcz51_10
     try clear hcz51_11
     try clear hcz51_2
     try clear hcz51_3
     try clear hcz51_4
     try clear hcz51_5
     try clear hcz51_6
     try clear hcz51_7
     try clear hcz51_8
     try clear hcz51_9
     try clear hcz53_0
     try clear hcz53_1
     try clear hcz53_10
     try clear hcz53_11
     try clear hcz53_2
     try clear hcz53_3
     try clear hcz53_4
     try clear hcz53_5
     try clear hcz53_6
     try clear hcz53_7
     try clear hcz53_8
     try clear hcz53_9
     try clear hcz54_0
     try clear hcz54_1
     try clear hcz54_10
     try clear hcz54_11
     try clear hcz54_2
     try clear hcz54_3
     try clear hcz54_4
     try clear hcz54_5
     try clear hcz54_6
     try clear hcz54_7
     try clear hcz54_8
     try clear hcz54_9
     try clear hcz56_0
     try clear hcz56_1
     try clear hcz56_10
     try clear hcz56_11
     try clear hcz56_2
     try clear hcz56_3
     try clear hcz56_4
     try clear hcz56_5
     try clear hcz56_6
     try clear hcz56_7
     try clear hcz56_8
     try clear hcz56_9
     try clear hfz15_0
     try clear hfz17_0
     try clear hfz19_0
     try clear hfz24_0
     try clear hfz26_0
     try clear hfz28_0
     try clear hfz30_0
     try clear hfz31_0
     try clear hfz33_0
     try clear hfz35_0
     try clear hfz37_0
     try clear hfz39_0
     try clear hfz41_0
     try clear hfz42_0
     try clear hfz44_0
     try clear hfz46_0
     try clear hfz47_0
     try clear hfz49_0
     try clear hfz51_0
     try clear hfz53_0
     try clear hfz54_0
     try clear hfz56_0
     try clear p2
     obtain ⟨x3_2, rfl, HA, HK2, BK359, HB⟩ := hrel
     cases gk with
     | zero => exact absurd HA.out (by simp [aU.l0])
     | succ k2 =>
      have H := HA.out
      clear HA
      simp only [aU.l0] at H
      by_cases c58 : x3_2 < (l0_11.length : Int)
      ·
       rw [if_pos c58] at H
       have c58b0 : decide (x3_2 < (l0_11.length : Int)) = true := decide_eq_true c58
       clear c58
       by_cases c59 : 0 ≤ x3_2
       ·
        rw [if_pos c59] at H
        have c59b0 : decide (0 ≤ x3_2) = true := decide_eq_true c59
        clear c59
        obtain ⟨t368, A60, H⟩ := Option.bind_eq_some_iff.mp H
        replace A60 := mk_ A60
        by_cases c61 : t368 = true
        ·
         subst c61
         rw [if_pos rfl] at H
         have H' := mk_ H
         clear H
         have hcz_0 := aD BK359.out
         have hfz_0 := aQ BK359.out
         have p367 : 0 ≤ (x3_2 : Int) := of_decide_eq_true z1_
         have q367 : x3_2 < (l0_11.length : Int) := of_decide_eq_true z1_
         obtain ⟨ad367, e367, hx367_0, hx367_1⟩ := fP HR0_11.out x3_2 p367 q367
         cases e367
         replace hx367_0 := up_ HB hx367_0
         replace hx367_1 := up_ HB hx367_1
         replace p367 := eq_true p367
         replace q367 := eq_true q367
         go_wp2_with (first | ((with_reducible refine aJ (f := 40) rfl ?_); refine Short.gL (some 68) Tryz.func40 #[.agg #[.int .i64 ((aT l0_11 x3_2).f0), .int .i64 ((aT l0_11 x3_2).f1)]] (h := ?_); (with_reducible refine (cD.calls ((aT l0_11 x3_2).f0) ((aT l0_11 x3_2).f1) true _ A60.out).mono ?_); rintro e w63 ⟨rfl, hb⟩; refine ⟨_, rfl, ?_⟩; have n0_ := mk_ (bB_ BK359 hb); have n1_ := mk_ (aA (Short.hB HB) hb); clear BK359 HB; revert n0_ n1_; intro BK359 HB; (try clear hb)))
         go_roundg k2
         case measure => have := HJ1.out; have := HK2.out; omega
         case rel => exact ⟨(wrap64 (x3_2 + 1)), z3_, H', ⟨by have := HJ1.out; have := HK2.out; omega⟩, ⟨by (with_reducible repeat (first | refine aG ?_ _ | refine aH ?_ | refine aE ?_ _)); exact BK359.out⟩, ⟨Short.hB HB⟩⟩
        ·
         replace c61 := Bool.eq_false_iff.mpr c61
         subst c61
         rw [if_neg (show ¬ (false = true) by decide)] at H
         obtain rfl := Option.some.inj H
         have hcz_0 := aD BK359.out
         have hfz_0 := aQ BK359.out
         have p367 : 0 ≤ (x3_2 : Int) := of_decide_eq_true z1_
         have q367 : x3_2 < (l0_11.length : Int) := of_decide_eq_true z1_
         obtain ⟨ad367, e367, hx367_0, hx367_1⟩ := fP HR0_11.out x3_2 p367 q367
         cases e367
         replace hx367_0 := up_ HB hx367_0
         replace hx367_1 := up_ HB hx367_1
         replace p367 := eq_true p367
         replace q367 := eq_true q367
         go_wp2_with (first | ((with_reducible refine aJ (f := 40) rfl ?_); refine Short.gL (some 68) Tryz.func40 #[.agg #[.int .i64 ((aT l0_11 x3_2).f0), .int .i64 ((aT l0_11 x3_2).f1)]] (h := ?_); (with_reducible refine (cD.calls ((aT l0_11 x3_2).f0) ((aT l0_11 x3_2).f1) false _ A60.out).mono ?_); rintro e w65 ⟨rfl, hb⟩; refine ⟨_, rfl, ?_⟩; have n0_ := mk_ (bB_ BK359 hb); have n1_ := mk_ (aA (Short.hB HB) hb); clear BK359 HB; revert n0_ n1_; intro BK359 HB; (try clear hb)))
         go_ret
         exact ⟨q0, Short.hB HB⟩
       ·
        rw [if_neg c59] at H
        exact absurd H z6_
      ·
       rw [if_neg c58] at H
       have c58b0 : decide (x3_2 < (l0_11.length : Int)) = false := decide_eq_false c58
       clear c58
       obtain rfl := Option.some.inj H
       have hcz_0 := aD BK359.out
       have hfz_0 := aQ BK359.out
       go_wp2
       go_ret
       exact ⟨q0, Short.hB HB⟩
end Go.Proofs.YtjnjfogfpmeacaaGreat.PAll
end
section
namespace Go.Proofs.YtjnjfogfpmeacaaGreat.PAll
open Go.RowKit PrintWords PrintLast PrintMore ZipT PrintWords.Kd PrintMore.Kd
attribute [local go_sem] eE eG eX eY dQ dP eF eC   -- for this text's walks alone
set_option linter.unusedVariables false
set_option linter.unusedSimpArgs false
def cV.l0 : Nat → List Int → List Int → Int → Option (Bool)
 | 0, _, _, _ => none
 | k + 1, x0, x1, x5 => if x5 < (x0.length : Int) then (if 0 ≤ x5 then (if x5 < (x1.length : Int) then (if (rd x0 x5) = (rd x1 x5) then (cV.l0 k x0 x1 (wrap64 (x5 + 1))) else (some false)) else (none)) else (none)) else (some true)
def cV.f (k : Nat) (l0 : List Int) (l1 : List Int) : Option (Bool) := if (l0.length : Int) = (l1.length : Int) then (cV.l0 k l0 l1 0) else (some false)
theorem cV.calls (k : Nat) (A0 : Option Addr) (c0 : Nat) (l0 : List Int) (A1 : Option Addr) (c1 : Nat) (l1 : List Int) (r : Bool) (w : World) (hr0 : Kd.C (Kd.int .u8) w A0 l0.length l0) (hc0 : l0.length ≤ c0) (hr1 : Kd.C (Kd.int .u8) w A1 l1.length l1) (hc1 : l1.length ≤ c1) (h : cV.f k l0 l1 = some r) :
  Calls Tryz.prog 20 #[.slice A0 l0.length c0, .slice A1 l1.length c1] w fun e w' => e = .returned (.bool r) ∧ Drawn0 w w' := by
 have HR0 := mk_ hr0
 have HC0 := mk_ hc0
 clear hr0 hc0
 have HR1 := mk_ hr1
 have HC1 := mk_ hc1
 clear hr1 hc1
 have H : (if (l0.length : Int) = (l1.length : Int) then (cV.l0 k l0 l1 0) else (some false)) = some r := h
 clear h
 by_cases c3 : (l0.length : Int) = (l1.length : Int)
 rotate_left
 ·
  rw [if_neg c3] at H
  have c3b0 : ((l0.length : Int) == (l1.length : Int)) = false := beq_eq_false_iff_ne.mpr c3
  have c3b1 : ((l0.length : Int) != (l1.length : Int)) = true := bne_iff_ne.mpr c3
  have c3b2 : (l0.length == l1.length) = false := by first | simpa using c3 | (simp at c3 ⊢; omega)
  obtain rfl := Option.some.inj H
  go_enter Tryz.func20, Tryz.ntmps20
  go_wp2
  repeat (go_quiet (fail); try go_wp2)
  go_ret
  exact ⟨z3_, by repeat (first | exact Drawn0.refl _ | apply Drawn0.step)⟩
 rw [if_pos c3] at H
 have c3b0 : ((l0.length : Int) == (l1.length : Int)) = true := beq_iff_eq.mpr c3
 have c3b1 : ((l0.length : Int) != (l1.length : Int)) = false := bne_eq_false_iff_eq.mpr c3
 have c3b2 : (l0.length == l1.length) = true := by first | simpa using c3 | (simp at c3 ⊢; omega)
 clear c3
 have H' := mk_ H
 clear H
 go_enter Tryz.func20, Tryz.ntmps20
 go_wp2
 repeat (go_quiet (fail); try go_wp2)
 go_loopg [5] k (fun kq v5 w' => ∃ (x5_1 : Int), v5 = .int .i64 x5_1 ∧ Aside0 (cV.l0 kq l0 l1 x5_1 = some r) ∧ Aside0 (kq ≤ k) ∧ Drawn0 w w')
 case atStart => exact ⟨(0), z3_, H', ⟨Nat.le_refl _⟩, by repeat (first | exact Drawn0.refl _ | apply Drawn0.step)⟩
 case round =>
  clear H'
  try clear c1
  try clear c2
  try clear p2
  try clear c3
  try clear c3b0
  try clear c3b1
  try clear c3b2
  obtain ⟨x5_1, rfl, HA, HK1, ⟨m1, rfl⟩⟩ := hrel
  cases gk with
  | zero => exact absurd HA.out (by simp [cV.l0])
  | succ k1 =>
   have H := HA.out
   clear HA
   simp only [cV.l0] at H
   by_cases c4 : x5_1 < (l0.length : Int)
   rotate_left
   ·
    rw [if_neg c4] at H
    have c4b0 : decide (x5_1 < (l0.length : Int)) = false := decide_eq_false c4
    clear c4
    obtain rfl := Option.some.inj H
    go_wp2
    repeat (go_quiet (fail); try go_wp2)
    go_ret
    exact ⟨z3_, by repeat (first | exact Drawn0.refl _ | apply Drawn0.step)⟩
   rw [if_pos c4] at H
   have c4b0 : decide (x5_1 < (l0.length : Int)) = true := decide_eq_true c4
   clear c4
   by_cases c5 : 0 ≤ x5_1
   rotate_left
   ·
    rw [if_neg c5] at H
    exact absurd H z6_
   rw [if_pos c5] at H
   have c5b0 : decide (0 ≤ x5_1) = true := decide_eq_true c5
   clear c5
   by_cases c6 : x5_1 < (l1.length : Int)
   rotate_left
   ·
    rw [if_neg c6] at H
    exact absurd H z6_
   rw [if_pos c6] at H
   have c6b0 : decide (x5_1 < (l1.length : Int)) = true := decide_eq_true c6
   clear c6
   by_cases c7 : (rd l0 x5_1) = (rd l1 x5_1)
   rotate_left
   ·
    rw [if_neg c7] at H
    have c7b0 : ((rd l0 x5_1) == (rd l1 x5_1)) = false := beq_eq_false_iff_ne.mpr c7
    have c7b1 : ((rd l0 x5_1) != (rd l1 x5_1)) = true := bne_iff_ne.mpr c7
    obtain rfl := Option.some.inj H
    have p419 : 0 ≤ (x5_1 : Int) := of_decide_eq_true z1_
    have q419 : x5_1 < (l0.length : Int) := of_decide_eq_true z1_
    obtain ⟨ad419, e419, hx419_0⟩ := Kd.at_int HR0.out x5_1 p419 q419
    cases e419
    replace p419 := eq_true p419
    replace q419 := eq_true q419
    have p420 : 0 ≤ (x5_1 : Int) := of_decide_eq_true z1_
    have q420 : x5_1 < (l1.length : Int) := of_decide_eq_true z1_
    obtain ⟨ad420, e420, hx420_0⟩ := Kd.at_int HR1.out x5_1 p420 q420
    cases e420
    replace p420 := eq_true p420
    replace q420 := eq_true q420
    go_wp2
    repeat (go_quiet (fail); try go_wp2)
    go_ret
    exact ⟨z3_, by repeat (first | exact Drawn0.refl _ | apply Drawn0.step)⟩
   rw [if_pos c7] at H
   have c7b0 : ((rd l0 x5_1) == (rd l1 x5_1)) = true := beq_iff_eq.mpr c7
   have c7b1 : ((rd l0 x5_1) != (rd l1 x5_1)) = false := bne_eq_false_iff_eq.mpr c7
   clear c7
   have H' := mk_ H
   clear H
   have p419 : 0 ≤ (x5_1 : Int) := of_decide_eq_true z1_
   have q419 : x5_1 < (l0.length : Int) := of_decide_eq_true z1_
   obtain ⟨ad419, e419, hx419_0⟩ := Kd.at_int HR0.out x5_1 p419 q419
   cases e419
   replace p419 := eq_true p419
   replace q419 := eq_true q419
   have p420 : 0 ≤ (x5_1 : Int) := of_decide_eq_true z1_
   have q420 : x5_1 < (l1.length : Int) := of_decide_eq_true z1_
   obtain ⟨ad420, e420, hx420_0⟩ := Kd.at_int HR1.out x5_1 p420 q420
   cases e420
   replace p420 := eq_true p420
   replace q420 := eq_true q420
   go_wp2
   repeat (go_quiet (fail); try go_wp2)
   go_roundg k1
   case measure => have := HK1.out; omega
   case rel => exact ⟨(wrap64 (x5_1 + 1)), z3_, H', ⟨by have := HK1.out; omega⟩, by repeat (first | exact Drawn0.refl _ | apply Drawn0.step)⟩
def bC.l0 : Nat → Int → List Int → Int → Option (List Int)
 | 0, _, _, _ => none
 | k + 1, x0, x5, x6 => if x6 ≥ 0 then (if 0 ≤ (IntKind.u64.wrap (wrap64 (8 * x6))) then (if x5.length < 140737488355328 then (bC.l0 k x0 (x5 ++ [(shr .i64 x0 (IntKind.u64.wrap (wrap64 (8 * x6)))) % 256]) (wrap64 (x6 - 1))) else (none)) else (none)) else (some x5)
def bC.f (k : Nat) (a0 : Int) (a1 : Int) : Option (List Int) := bC.l0 k a0 ([] : List Int) (wrap64 (a1 - 1))
theorem bC.calls (k : Nat) (a0 : Int) (a1 : Int) (r : List Int) (w : World) (h : bC.f k a0 a1 = some r) :
  Calls Tryz.prog 77 #[.int .i64 a0, .int .i64 a1] w fun e w' => ∃ v0_ : Value, e = .returned (v0_) ∧ Kd.R (Kd.int .u8) 5 w' w.heap.size (fun _ => True) v0_ r ∧ Below w.heap.size w w' := by
 have HB := mk_ (Below.refl w.heap.size w)
 have H : (bC.l0 k a0 ([] : List Int) (wrap64 (a1 - 1))) = some r := h
 clear h
 have H' := mk_ H
 clear H
 go_enter Tryz.func77, Tryz.ntmps77
 go_wp2
 go_loopg [5, 6] k (fun kq v5 v6 w' => ∃ (x5_1 : List Int) (x6_1 : Int), v6 = .int .i64 x6_1 ∧ Aside0 (bC.l0 kq a0 x5_1 x6_1 = some r) ∧ Aside0 (kq ≤ k) ∧ Aside0 (Kd.R (Kd.int .u8) 5 w' w.heap.size (fun _ => True) v5 x5_1) ∧ Aside0 (Below w.heap.size w w'))
 case atStart => exact ⟨(([] : List Int)), (wrap64 (a1 - 1)), z3_, H', ⟨Nat.le_refl _⟩, ⟨by first | exact R_nil _ _ _ _ _ | exact N_nil _ _ _ _ _ | exact V_nil _ _ _ _ _ | exact Q_nil _ _ _ _ _ | exact S_nil _ _ _ _ _⟩, ⟨Short.hB HB⟩⟩
 case round =>
  clear H'
  try clear p2
  obtain ⟨x5_1, x6_1, rfl, HA, HK1, HO_5, HB⟩ := hrel
  cases gk with
  | zero => exact absurd HA.out (by simp [bC.l0])
  | succ k1 =>
   have H := HA.out
   clear HA
   simp only [bC.l0] at H
   by_cases c3 : x6_1 ≥ 0
   rotate_left
   ·
    rw [if_neg c3] at H
    have c3b0 : decide (0 ≤ x6_1) = false := decide_eq_false c3
    clear c3
    obtain rfl := Option.some.inj H
    go_wp2
    go_ret
    exact ⟨_, by first | rfl | (simp [bA, bB] <;> rfl) | (simp [*, bA, bB] <;> rfl), by (with_reducible repeat (first | apply R_alloc | apply R_drewN | apply R_drew)); exact HO_5.out, Short.hB HB⟩
   rw [if_pos c3] at H
   have c3b0 : decide (0 ≤ x6_1) = true := decide_eq_true c3
   clear c3
   obtain ⟨ji4, hji4⟩ : ∃ j_ : Int, (IntKind.u64.wrap (wrap64 (8 * x6_1))) = j_ := ⟨_, rfl⟩
   replace H : (if 0 ≤ (ji4) then (if x5_1.length < 140737488355328 then (bC.l0 k1 a0 (x5_1 ++ [(shr .i64 a0 (ji4)) % 256]) (wrap64 (x6_1 - 1))) else (none)) else (none)) = some r := by first | (rw [hji4] at H; exact H) | (simp only [hji4] at H ⊢; exact H)
   by_cases c5 : 0 ≤ (ji4)
   rotate_left
   ·
    rw [if_neg c5] at H
    exact absurd H z6_
   rw [if_pos c5] at H
   have c5b0 := eq_true c5
   have c5b1 : decide (0 ≤ (ji4)) = true := decide_eq_true c5
   clear c5
   obtain ⟨ji6, hji6⟩ : ∃ j_ : Int, (shr .i64 a0 (ji4)) = j_ := ⟨_, rfl⟩
   replace H : (if x5_1.length < 140737488355328 then (bC.l0 k1 a0 (x5_1 ++ [(ji6) % 256]) (wrap64 (x6_1 - 1))) else (none)) = some r := by first | (rw [hji6] at H; exact H) | (simp only [hji6] at H ⊢; exact H)
   have hji6_ : (a0 / 2 ^ min (ji4).toNat 64) = ji6 := hji6
   have hji6z : (ji4) ≤ 64 → (a0 / 2 ^ (ji4).toNat) = ji6 := shr_small hji6
   by_cases c7 : x5_1.length < 140737488355328
   rotate_left
   ·
    rw [if_neg c7] at H
    exact absurd H z6_
   rw [if_pos c7] at H
   have LMc7 := mk_ c7
   clear c7
   obtain ⟨y421, hy421⟩ : ∃ y_ : List Int, y_ = (x5_1 ++ [(ji6) % 256]) := ⟨_, rfl⟩
   replace H : (bC.l0 k1 a0 y421 (wrap64 (x6_1 - 1))) = some r := by first | (rw [hy421]; with_reducible exact H) | (have H2_ := (Option.bind_some _ _).symm.trans H; rw [hy421]; with_reducible exact H2_) | (have H2_ := (Option.bind_some _ _).symm.trans H; with_reducible exact H2_) | with_reducible exact H | (rw [hy421]; exact H) | exact H
   have Ny421 := mk_ hy421
   clear hy421
   have H' := mk_ H
   clear H
   go_wp2_with (first | ((with_reducible refine cM (b := .append) (xs := #[.tmp 13, .tmp 20]) rfl ?_); at_builtin; refine fR (Kd.int .u8) (w0 := w) w.heap.size rfl (.tmp 13) (.tmp 20) 36 5 (.int .u8 0) 1 rfl Tryz.underlying36 info5 rfl z5_ z4_ u5 x5_1 ((ji6) % 256) [.int .u8 ((ji6) % 256)] (fun _ => True) (fun _ => False) rfl rfl ?aP (fun _ hk => hk.elim) ?aF ?aO ?aB ?aS ?aL ?_; (case aP => exact rfl); (case aB => exact (Short.hB HB)); (case aF => exact (fun _ _ => trivial)); (case aO => exact (ZKR HO_5)); (case aS => exact (aC (Short.hB HB))); (case aL => have := LMc7.out; omega); intro v422 w8 ho hb hg hat; rw [← Ny421.out] at ho; have n0_ := mk_ (hb); have n1_ := mk_ (ho); clear HB HO_5; revert n0_ n1_; intro HB HO423; clear ho hb hg hat))
   go_roundg k1
   case measure => have := HK1.out; omega
   case rel => exact ⟨(y421), (wrap64 (x6_1 - 1)), z3_, H', ⟨by have := HK1.out; omega⟩, ⟨by (with_reducible repeat (first | apply R_alloc | apply R_drewN | apply R_drew)); exact HO423.out⟩, ⟨Short.hB HB⟩⟩
def bS.f (k : Nat) (a0_0 : Int) (a0_1 : Int) : Option (List Int) := (some (([(a0_0) % 256] : List Int) : List Int)).bind fun y425 => ((bC.f k a0_1 4).bind fun t428 => (if y425.length + t428.length < 140737488355328 then (some (y425 ++ t428)) else (none)))
def bS.T1 : Bool × List (List Nat × List Nat) := (true, [([], []), ([0], [0]), ([1], [1]), ([2], [2]), ([], []), ([4], [4]), ([5], [5]), ([3, 6, 6], [3, 6]), ([7, 7, 0, 1, 2, 3, 4, 5, 6, 7], [7])])
def bS.B1 : List Nat := [0, 1, 3, 7, 0, 16, 48, 127, 255]
theorem bS.tab1 : rtab .any (opsOf Tryz.f45 1) = bS.T1 := by kernel_rfl
theorem bS.bits1 : waitsOk bS.T1.2 bS.B1 = true := by kernel_rfl
theorem bS.calls (k : Nat) (a0_0 : Int) (a0_1 : Int) (r : List Int) (w : World) (h : bS.f k a0_0 a0_1 = some r) :
  Calls Tryz.prog 45 #[.agg #[.int .i64 a0_0, .int .i64 a0_1]] w fun e w' => ∃ v0_ : Value, e = .returned (v0_) ∧ Kd.R (Kd.int .u8) 5 w' w.heap.size (fun _ => True) v0_ r ∧ Below w.heap.size w w' := by
 have hu24 := Tryz.underlying24
 have HB := mk_ (Below.refl w.heap.size w)
 have H : ((some (([(a0_0) % 256] : List Int) : List Int)).bind fun y425 => ((bC.f k a0_1 4).bind fun t428 => (if y425.length + t428.length < 140737488355328 then (some (y425 ++ t428)) else (none)))) = some r := h
 clear h
 obtain ⟨y425, hy425⟩ : ∃ y_ : List Int, y_ = (([(a0_0) % 256] : List Int)) := ⟨_, rfl⟩
 replace H : ((bC.f k a0_1 4).bind fun t428 => (if y425.length + t428.length < 140737488355328 then (some (y425 ++ t428)) else (none))) = some r := by first | (rw [hy425]; with_reducible exact H) | (have H2_ := (Option.bind_some _ _).symm.trans H; rw [hy425]; with_reducible exact H2_) | (have H2_ := (Option.bind_some _ _).symm.trans H; with_reducible exact H2_) | with_reducible exact H | (rw [hy425]; exact H) | exact H
 have Ny425 := mk_ hy425
 clear hy425
 obtain ⟨t428, A2, H⟩ := Option.bind_eq_some_iff.mp H
 replace A2 := mk_ A2
 by_cases c3 : y425.length + t428.length < 140737488355328
 rotate_left
 ·
  rw [if_neg c3] at H
  exact absurd H z6_
 rw [if_pos c3] at H
 have LMc3 := mk_ c3
 clear c3
 obtain ⟨y431, hy431⟩ : ∃ y_ : List Int, y_ = (y425 ++ t428) := ⟨_, rfl⟩
 replace H : (some y431) = some r := by first | (rw [hy431]; with_reducible exact H) | (have H2_ := (Option.bind_some _ _).symm.trans H; rw [hy431]; with_reducible exact H2_) | (have H2_ := (Option.bind_some _ _).symm.trans H; with_reducible exact H2_) | with_reducible exact H | (rw [hy431]; exact H) | exact H
 have Ny431 := mk_ hy431
 clear hy431
 obtain rfl := Option.some.inj H
 go_enter Tryz.func45, Tryz.ntmps45
 try go_wp2_with (first | ((with_reducible refine aY (N := 1) rfl ?_); refine aZ ?hg (N := 1) ?hd (cs := #[.int .i64 a0_0, .int .i64 a0_1]) (t := 24) ?hr ?_; (case hd => rfl); (case hg => rfl); (case hr => first | (go_simp; done) | (go_simp; rfl)); intro gb424 hg w4 hbox hb; have n0_ := mk_ (aA (Short.hB HB) hb); have n1_ := mk_ (hbox); have n2_ := mk_ ((by rw [hg]; exact (aC (Short.hB HB)) : w.heap.size ≤ gb424)); have n3_ := mk_ ((by rw [hg]; exact (aC (Short.hB HB)) : w.heap.size ≤ gb424)); clear HB; revert n0_ n1_ n2_ n3_; intro HB BK424 GW424 GE424; clear hb hbox hg))
 have n0_ := mk_ (aH BK424.out)
 have n1_ := mk_ (dG HB.out)
 clear BK424 HB
 revert n0_ n1_
 intro BK424 HB
 refine fM (n := 9) (S := fun w' => w'.cell? ⟨gb424, 0, none⟩ = some (.int .i64 a0_0) ∧ w'.cell? ⟨gb424, 1, none⟩ = some (.int .i64 a0_1)) (ds := []) (Steps.Bs 9 0) z2_ rfl rfl ⟨kc_ BK424 0, kc_ BK424 1⟩ (fun hHeld => ?_); refine dA bS.tab1 bS.bits1 (fun HT_ HW_ => ?_)
 generalize w4.drew = w5 at BK424 HB hHeld ⊢
 refine tI HT_ 0 3 9 1 ?_
 refine tI HT_ 4 7 9 17 ?_
 refine tT HT_ HW_ hHeld 1 4 9 19 ?_
 refine tI HT_ 2 5 9 23 ?_
 refine tT HT_ HW_ hHeld 5 8 9 55 ?_
 refine join_ (σ := Value × Value) 2 (Steps.Bs 9 127) (fun s_ => [(6, s_.1), (9, s_.2)]) (fun s_ w' => (w'.cell? ⟨gb424, 0, none⟩ = some (.int .i64 a0_0) ∧ w'.cell? ⟨gb424, 1, none⟩ = some (.int .i64 a0_1)) ∧ (Kd.R (Kd.int .u8) 5 w' w.heap.size (fun k_ => nb_ k_ (s_.2)) s_.1 y425) ∧ (Kd.R (Kd.int .u8) 5 w' w.heap.size (fun k_ => nb_ k_ (s_.1)) s_.2 t428) ∧ (w'.heap[gb424]? = some (.cells #[.int .i64 a0_0, .int .i64 a0_1] 24 (0, 0))) ∧ (Below w.heap.size w w')) ?_ ?_
 rotate_left
 ·
  intro hCont
  refine two_ (i := 3) (j := 6) (Ni := some 6) (Nj := some 9) (Steps.Bs 9 63) (Steps.Bs 9 119) rfl rfl rfl rfl (two_of HT_.out z2_) z5_ z5_ (fun K hK => ?_) (fun K hK => ?_)
  ·
   skip
   refine fK (Kd.int .u8) _ 5 ?hg (N := 6) ?hd (xs := ([(a0_0) % 256] : List Int)) (inner := [.int .u8 ((a0_0) % 256)]) (ok := fun _ => True) (okp := fun _ => True) ?hr ?hp (fun _ hk => hk) trivial (Below.refl _ _) (Nat.le_refl _) z6_ ?_; (case hd => rfl); (case hg => rfl); (case hr => first | (go_simp; done) | (go_simp; rfl)); (case hp => exact (Reps.one (show Kd.M (Kd.int .u8) _ _ _ ((a0_0) % 256) [.int .u8 ((a0_0) % 256)] from rfl) (Reps.none _ _)))
   intro v426 w6 ho7 hb hg_ hnew_
   clear hg_ hnew_
   (first | rw [← Ny425.out] at ho7 | (simp only [Int.reduceToNat] at ho7; rw [← Ny425.out] at ho7))
   have n0_ := mk_ (bX ho7 (aC (Short.hB HB)))
   have n1_ := mk_ (bB_ BK424 hb)
   have n2_ := mk_ (aA (Short.hB HB) hb)
   clear BK424 HB
   revert n0_ n1_ n2_
   intro HO427 BK424 HB
   clear hb ho7
   refine hK.out _ _ ⟨kc_ BK424 0, kc_ BK424 1⟩ (fun hHeld => ?_)
   clear hK K
   refine nrm 6 ?_
   refine one_ (i := 6) (N := some 9) (Steps.Bs 9 127) rfl rfl (cC HT_.out z2_) z5_ (fun K hK => ?_)
   refine goes_ Tryz.func77 z2_ rfl #[.int .i64 a0_1, .int .i64 4] (by rfl) rfl rfl z0_ ?_
   with_reducible refine (bC.calls k a0_1 4 t428 _ A2.out).mono ?_
   rintro e w8 ⟨v429, rfl, ho0, hb⟩
   refine ⟨_, rfl, ?_⟩
   have n0_ := mk_ (R_elder' (ZKR HO427) (R_base ho0) hb)
   have n1_ := mk_ (bX (R_new' ho0 (R_lt (ZKR HO427))) (aC (Short.hB HB)))
   have n2_ := mk_ (bB_ BK424 hb)
   have n3_ := mk_ (aA (Short.hB HB) hb)
   clear HO427 BK424 HB
   revert n0_ n1_ n2_ n3_
   intro HO427 HO430 BK424 HB
   (try clear hb)
   (try clear hb2)
   (try clear hk)
   (try clear hi)
   (try clear ho0)
   refine hK.out _ _ ⟨kc_ BK424 0, kc_ BK424 1⟩ (fun hHeld => ?_)
   clear hK K
   refine nrm 9 ?_
   exact norm_ (by simp only [putAll, Act.put, List.setIfInBounds_toArray, List.set_cons_zero, List.set_cons_succ]) (hCont (v426, v429) _ ⟨hHeld, (rM_ HO427 (fun _ hk => hk.2)), (rM_ HO430 (fun _ hk => hk.2)), (Short.bK BK424), (Short.hB HB)⟩)
  ·
   skip
   refine goes_ Tryz.func77 z2_ rfl #[.int .i64 a0_1, .int .i64 4] (by rfl) rfl rfl z0_ ?_
   with_reducible refine (bC.calls k a0_1 4 t428 _ A2.out).mono ?_
   rintro e w6 ⟨v429, rfl, ho0, hb⟩
   refine ⟨_, rfl, ?_⟩
   have n0_ := mk_ (bX ho0 (aC (Short.hB HB)))
   have n1_ := mk_ (bB_ BK424 hb)
   have n2_ := mk_ (aA (Short.hB HB) hb)
   clear BK424 HB
   revert n0_ n1_ n2_
   intro HO430 BK424 HB
   (try clear hb)
   (try clear hb2)
   (try clear hk)
   (try clear hi)
   (try clear ho0)
   refine hK.out _ _ ⟨kc_ BK424 0, kc_ BK424 1⟩ (fun hHeld => ?_)
   clear hK K
   refine nrm 9 ?_
   refine one_ (i := 3) (N := some 6) (Steps.Bs 9 127) rfl rfl (cC HT_.out z2_) z5_ (fun K hK => ?_)
   refine fK (Kd.int .u8) _ 5 ?hg (N := 6) ?hd (xs := ([(a0_0) % 256] : List Int)) (inner := [.int .u8 ((a0_0) % 256)]) (ok := fun _ => True) (okp := fun _ => True) ?hr ?hp (fun _ hk => hk) trivial (Below.refl _ _) (Nat.le_refl _) z6_ ?_; (case hd => rfl); (case hg => rfl); (case hr => first | (go_simp; done) | (go_simp; rfl)); (case hp => exact (Reps.one (show Kd.M (Kd.int .u8) _ _ _ ((a0_0) % 256) [.int .u8 ((a0_0) % 256)] from rfl) (Reps.none _ _)))
   intro v426 w7 ho8 hb hg_ hnew_
   clear hg_ hnew_
   (first | rw [← Ny425.out] at ho8 | (simp only [Int.reduceToNat] at ho8; rw [← Ny425.out] at ho8))
   have n0_ := mk_ (R_elder' (ZKR HO430) (R_base ho8) hb)
   have n1_ := mk_ (bX (R_new' ho8 (R_lt (ZKR HO430))) (aC (Short.hB HB)))
   have n2_ := mk_ (bB_ BK424 hb)
   have n3_ := mk_ (aA (Short.hB HB) hb)
   clear HO430 BK424 HB
   revert n0_ n1_ n2_ n3_
   intro HO430 HO427 BK424 HB
   clear hb ho8
   refine hK.out _ _ ⟨kc_ BK424 0, kc_ BK424 1⟩ (fun hHeld => ?_)
   clear hK K
   refine nrm 6 ?_
   exact norm_ (by simp only [putAll, Act.put, List.setIfInBounds_toArray, List.set_cons_zero, List.set_cons_succ]) (hCont (v426, v429) _ ⟨hHeld, (rM_ HO427 (fun _ hk => hk.2)), (rM_ HO430 (fun _ hk => hk.2)), (Short.bK BK424), (Short.hB HB)⟩)
 rintro ⟨v426, v429⟩ w9 ⟨hS_, h0_, h1_, h2_, h3_⟩
 have n0_ : Aside0 (Kd.R (Kd.int .u8) 5 w9 w.heap.size (fun k_ => nb_ k_ (v429)) v426 y425) := ⟨h0_⟩
 have n1_ : Aside0 (Kd.R (Kd.int .u8) 5 w9 w.heap.size (fun k_ => nb_ k_ (v426)) v429 t428) := ⟨h1_⟩
 have n2_ : Aside0 (w9.heap[gb424]? = some (.cells #[.int .i64 a0_0, .int .i64 a0_1] 24 (0, 0))) := ⟨h2_⟩
 have n3_ : Aside0 (Below w.heap.size w w9) := ⟨h3_⟩
 clear BK424 HB
 clear h0_ h1_ h2_ h3_
 revert n0_ n1_ n2_ n3_
 intro HO427 HO430 BK424 HB
 have hHeld : w9.cell? ⟨gb424, 0, none⟩ = some (.int .i64 a0_0) ∧ w9.cell? ⟨gb424, 1, none⟩ = some (.int .i64 a0_1) := hS_
 obtain ⟨Ao11, co11, eo11⟩ := cX HO430.out
 (first | subst eo11 | (injection eo11 with f1_ f2_ f3_; have f4_ := f1_.symm; have f5_ := f3_.symm; clear f1_ f2_ f3_; subst f4_; subst f5_))
 refine norm_ (a' := ?_) ?_ ?_
 rotate_left
 ·
  simp only [putAll, Act.put, List.setIfInBounds_toArray, List.set_cons_zero, List.set_cons_succ]
  rfl
 refine one_ (i := 7) (N := some 10) (Steps.Bs 9 255) rfl rfl (cC HT_.out z2_) z5_ (fun K hK => ?_)
 refine cZ (Kd.int .u8) (w0 := w) w.heap.size (by rfl) (.tmp 6) (.tmp 9) 36 5 (.int .u8 0) 1 rfl Tryz.underlying36 info5 rfl z5_ z4_ v426 y425 t428 _ _ _ (fun k_ => nb_ k_ (.slice Ao11 t428.length co11)) (fun _ => False) rfl rfl ?aO ?aR (fun _ _ h => h) (fun _ h => h.elim) ?aF ?aB ?aS ?aL ?_
 (case aR => exact cX_ (R_reads' HO430.out).2.2)
 (case aB => exact (Short.hB HB))
 (case aF => exact (fun k_ hk => Kd.fresh' (R_lt (ZKR HO430)) k_ hk))
 (case aO => exact (ZKR HO427))
 (case aS => exact (aC (Short.hB HB)))
 (case aL => have := LMc3.out; omega)
 intro v432 w10 ho hb hg hat
 rw [← Ny431.out] at ho
 have n0_ := mk_ (dJ (g := gb424) (o := .cells #[.int .i64 a0_0, .int .i64 a0_1] 24 (0, 0)) (Short.bK BK424) hg (R_ne HO427.out BK424.out z5_))
 have n1_ := mk_ (dT (ok := (fun _ => True)) (rM_ HO430 (fun _ hk => ⟨trivial, hk⟩)) hg hat)
 have n2_ := mk_ (hb)
 have n3_ := mk_ (ho)
 clear BK424 HO430 HB HO427
 revert n0_ n1_ n2_ n3_
 intro BK424 HO430 HB HO433
 clear ho hb hg hat
 refine hK.out _ _ ⟨kc_ BK424 0, kc_ BK424 1⟩ (fun hHeld => ?_)
 clear hK K
 refine nrm 10 ?_
 refine tI HT_ 8 2 9 511 ?_
 refine done_ (cE HT_.out z2_) ?_
 try go_wp2
 go_ret
 exact ⟨_, by first | rfl | (simp [bA, bB] <;> rfl) | (simp [*, bA, bB] <;> rfl), by (with_reducible repeat (first | apply R_alloc | apply R_drewN | apply R_drew)); exact R_mono HO433.out (fun _ hk => trivial), Short.hB HB⟩
def bM.l0 : Nat → List Int → List Int → Int → Option (List Int)
 | 0, _, _, _ => none
 | k + 1, x0, x3, x4 => if x4 < (x0.length : Int) then (if 0 ≤ x4 then ((bC.f k (rd x0 x4) 4).bind fun t438 => (if x3.length + t438.length < 140737488355328 then (bM.l0 k x0 (x3 ++ t438) (wrap64 (x4 + 1))) else (none))) else (none)) else (some x3)
def bM.f (k : Nat) (l0 : List Int) : Option (List Int) := bM.l0 k l0 (([((l0.length : Int)) % 256] : List Int)) 0
theorem bM.calls (k : Nat) (A0 : Option Addr) (c0 : Nat) (l0 : List Int) (r : List Int) (w : World) (hr0 : Kd.C (Kd.int .i64) w A0 l0.length l0) (hc0 : l0.length ≤ c0) (h : bM.f k l0 = some r) :
  Calls Tryz.prog 46 #[.slice A0 l0.length c0] w fun e w' => ∃ v0_ : Value, e = .returned (v0_) ∧ Kd.R (Kd.int .u8) 5 w' w.heap.size (fun _ => True) v0_ r ∧ Below w.heap.size w w' := by
 have HR0 := mk_ hr0
 have HC0 := mk_ hc0
 clear hr0 hc0
 have HB := mk_ (Below.refl w.heap.size w)
 have H : (bM.l0 k l0 (([((l0.length : Int)) % 256] : List Int)) 0) = some r := h
 clear h
 obtain ⟨y434, hy434⟩ : ∃ y_ : List Int, y_ = (([((l0.length : Int)) % 256] : List Int)) := ⟨_, rfl⟩
 replace H : (bM.l0 k l0 y434 0) = some r := by first | (rw [hy434]; with_reducible exact H) | (have H2_ := (Option.bind_some _ _).symm.trans H; rw [hy434]; with_reducible exact H2_) | (have H2_ := (Option.bind_some _ _).symm.trans H; with_reducible exact H2_) | with_reducible exact H | (rw [hy434]; exact H) | exact H
 have Ny434 := mk_ hy434
 clear hy434
 have H' := mk_ H
 clear H
 go_enter Tryz.func46, Tryz.ntmps46
 go_wp2_with (first | ((with_reducible refine aY (N := 8) rfl ?_); refine R_lit (Kd.int .u8) _ 5 ?hg (N := 8) ?hd (xs := ([((l0.length : Int)) % 256] : List Int)) (inner := [.int .u8 (((l0.length : Int)) % 256)]) (ok := fun _ => True) (okp := fun _ => True) ?hr ?hp (fun _ hk => hk) trivial (Below.refl _ _) (Nat.le_refl _) z6_ ?_; (case hd => rfl); (case hg => rfl); (case hr => first | (go_simp; done) | (go_simp; rfl)); (case hp => exact (Reps.one (show Kd.M (Kd.int .u8) _ _ _ (((l0.length : Int)) % 256) [.int .u8 (((l0.length : Int)) % 256)] from rfl) (Reps.none _ _))); intro v435 w2 ho3 hb hg_ hnew_; clear hg_ hnew_; (first | rw [← Ny434.out] at ho3 | (simp only [Int.reduceToNat] at ho3; rw [← Ny434.out] at ho3)); have n0_ := mk_ (bX ho3 (aC (Short.hB HB))); have n1_ := mk_ (aA (Short.hB HB) hb); clear HB; revert n0_ n1_; intro HO436 HB; clear hb ho3))
 go_loopg [3, 4] k (fun kq v3 v4 w' => ∃ (x3_1 : List Int) (x4_1 : Int), v4 = .int .i64 x4_1 ∧ Aside0 (bM.l0 kq l0 x3_1 x4_1 = some r) ∧ Aside0 (kq ≤ k) ∧ Aside0 (Kd.R (Kd.int .u8) 5 w' w.heap.size (fun _ => True) v3 x3_1) ∧ Aside0 (Below w.heap.size w w'))
 case atStart => exact ⟨(y434), (0), z3_, H', ⟨Nat.le_refl _⟩, ⟨by (with_reducible repeat (first | apply R_alloc | apply R_drewN | apply R_drew)); exact HO436.out⟩, ⟨Short.hB HB⟩⟩
 case round =>
  clear H'
  try clear p2
  obtain ⟨x3_1, x4_1, rfl, HA, HK1, HO_3, HB⟩ := hrel
  cases gk with
  | zero => exact absurd HA.out (by simp [bM.l0])
  | succ k1 =>
   have H := HA.out
   clear HA
   simp only [bM.l0] at H
   by_cases c4 : x4_1 < (l0.length : Int)
   rotate_left
   ·
    rw [if_neg c4] at H
    have c4b0 : decide (x4_1 < (l0.length : Int)) = false := decide_eq_false c4
    clear c4
    obtain rfl := Option.some.inj H
    go_wp2
    go_ret
    exact ⟨_, by first | rfl | (simp [bA, bB] <;> rfl) | (simp [*, bA, bB] <;> rfl), by (with_reducible repeat (first | apply R_alloc | apply R_drewN | apply R_drew)); exact HO_3.out, Short.hB HB⟩
   rw [if_pos c4] at H
   have c4b0 : decide (x4_1 < (l0.length : Int)) = true := decide_eq_true c4
   clear c4
   by_cases c5 : 0 ≤ x4_1
   rotate_left
   ·
    rw [if_neg c5] at H
    exact absurd H z6_
   rw [if_pos c5] at H
   have c5b0 : decide (0 ≤ x4_1) = true := decide_eq_true c5
   clear c5
   obtain ⟨t438, A6, H⟩ := Option.bind_eq_some_iff.mp H
   replace A6 := mk_ A6
   by_cases c7 : x3_1.length + t438.length < 140737488355328
   rotate_left
   ·
    rw [if_neg c7] at H
    exact absurd H z6_
   rw [if_pos c7] at H
   have LMc7 := mk_ c7
   clear c7
   obtain ⟨y441, hy441⟩ : ∃ y_ : List Int, y_ = (x3_1 ++ t438) := ⟨_, rfl⟩
   replace H : (bM.l0 k1 l0 y441 (wrap64 (x4_1 + 1))) = some r := by first | (rw [hy441]; with_reducible exact H) | (have H2_ := (Option.bind_some _ _).symm.trans H; rw [hy441]; with_reducible exact H2_) | (have H2_ := (Option.bind_some _ _).symm.trans H; with_reducible exact H2_) | with_reducible exact H | (rw [hy441]; exact H) | exact H
   have Ny441 := mk_ hy441
   clear hy441
   have H' := mk_ H
   clear H
   have p437 : 0 ≤ (x4_1 : Int) := of_decide_eq_true z1_
   have q437 : x4_1 < (l0.length : Int) := of_decide_eq_true z1_
   obtain ⟨ad437, e437, hx437_0⟩ := Kd.at_int HR0.out x4_1 p437 q437
   cases e437
   replace hx437_0 := up_ HB hx437_0
   replace p437 := eq_true p437
   replace q437 := eq_true q437
   go_wp2_with (first | ((with_reducible refine aJ (f := 77) rfl ?_); refine Short.gL (some 20) Tryz.func77 #[.int .i64 (rd l0 x4_1), .int .i64 4] (h := ?_); (with_reducible refine (bC.calls k1 (rd l0 x4_1) 4 t438 _ A6.out).mono ?_); rintro e w8 ⟨v439, rfl, ho0, hb⟩; refine ⟨_, rfl, ?_⟩; have n0_ := mk_ (R_elder' (ZKR HO_3) (R_base ho0) hb); have n1_ := mk_ (bX (R_new' ho0 (R_lt (ZKR HO_3))) (aC (Short.hB HB))); have n2_ := mk_ (aA (Short.hB HB) hb); clear HO_3 HB; revert n0_ n1_ n2_; intro HO_3 HO440 HB; (try clear hb ho0); obtain ⟨Ao10, co10, eo10⟩ := cX HO440.out; subst eo10) | ((with_reducible refine cM (b := .append) (xs := #[.tmp 15, .tmp 20]) rfl ?_); at_builtin; refine eD (Kd.int .u8) (w0 := w) w.heap.size rfl (.tmp 15) (.tmp 20) 36 5 (.int .u8 0) 1 rfl Tryz.underlying36 info5 rfl z5_ z4_ u3 x3_1 t438 _ _ _ (fun k_ => nb_ k_ (.slice Ao10 t438.length co10)) (fun _ => False) rfl rfl ?aO ?aR (fun _ _ h => h) (fun _ h => h.elim) ?aF ?aB ?aS ?aL ?_; (case aR => exact cX_ (R_reads' HO440.out).2.2); (case aB => exact (Short.hB HB)); (case aF => exact (fun k_ hk => Kd.fresh' (R_lt (ZKR HO440)) k_ hk)); (case aO => exact (rM_ HO_3 (fun _ hk => hk.2))); (case aS => exact (aC (Short.hB HB))); (case aL => have := LMc7.out; omega); intro v442 w9 ho hb hg hat; rw [← Ny441.out] at ho; have n0_ := mk_ (dT (ok := (fun _ => True)) (ZKR HO440) hg hat); have n1_ := mk_ (hb); have n2_ := mk_ (ho); clear HO440 HB HO_3; revert n0_ n1_ n2_; intro HO440 HB HO443; clear ho hb hg hat))
   go_roundg k1
   case measure => have := HK1.out; omega
   case rel => exact ⟨(y441), (wrap64 (x4_1 + 1)), z3_, H', ⟨by have := HK1.out; omega⟩, ⟨by (with_reducible repeat (first | apply R_alloc | apply R_drewN | apply R_drew)); exact R_mono HO443.out (fun _ hk => trivial)⟩, ⟨Short.hB HB⟩⟩
end Go.Proofs.YtjnjfogfpmeacaaGreat.PAll
end
section
namespace Go.Proofs.YtjnjfogfpmeacaaGreat.PAll
open Go.RowKit PrintWords PrintLast PrintMore ZipT PrintWords.Kd PrintMore.Kd
attribute [local go_sem] eE eG eX eY dQ dP eF eC   -- for this text's walks alone
set_option linter.unusedVariables false
set_option linter.unusedSimpArgs false
def bO.f (k : Nat) (a0_0 : Int) (a0_1 : Int) (a0_2 : Int) : Option (List Int) := (bC.f k a0_0 6).bind fun t445 => ((bC.f k a0_1 3).bind fun t448 => (if t445.length + t448.length < 140737488355328 then ((some (t445 ++ t448 : List Int)).bind fun y451 => ((some (([(a0_2) % 256] : List Int) : List Int)).bind fun y454 => (if y451.length + y454.length < 140737488355328 then (some (y451 ++ y454)) else (none)))) else (none)))
def bO.T1 : Bool × List (List Nat × List Nat) := (true, [([], []), ([0], [0]), ([1], [1]), ([], []), ([3], [3]), ([4, 2], [4]), ([2, 5, 5], [2, 5]), ([], []), ([7], [7]), ([8], [8]), ([9], [9]), ([6, 10, 6], [6, 10]), ([11, 11, 0, 1, 2, 3, 4, 5, 6, 7, 8, 9, 10, 11], [11])])
def bO.B1 : List Nat := [0, 1, 3, 0, 8, 31, 63, 0, 128, 384, 896, 2047, 4095]
theorem bO.tab1 : rtab .any (opsOf Tryz.f47 1) = bO.T1 := by kernel_rfl
theorem bO.bits1 : waitsOk bO.T1.2 bO.B1 = true := by kernel_rfl
theorem bO.calls (k : Nat) (a0_0 : Int) (a0_1 : Int) (a0_2 : Int) (r : List Int) (w : World) (h : bO.f k a0_0 a0_1 a0_2 = some r) :
  Calls Tryz.prog 47 #[.agg #[.int .i64 a0_0, .int .i64 a0_1, .int .i64 a0_2]] w fun e w' => ∃ v0_ : Value, e = .returned (v0_) ∧ Kd.R (Kd.int .u8) 5 w' w.heap.size (fun _ => True) v0_ r ∧ Below w.heap.size w w' := by
 have hu27 := Tryz.underlying27
 have HB := mk_ (Below.refl w.heap.size w)
 have H : ((bC.f k a0_0 6).bind fun t445 => ((bC.f k a0_1 3).bind fun t448 => (if t445.length + t448.length < 140737488355328 then ((some (t445 ++ t448 : List Int)).bind fun y451 => ((some (([(a0_2) % 256] : List Int) : List Int)).bind fun y454 => (if y451.length + y454.length < 140737488355328 then (some (y451 ++ y454)) else (none)))) else (none)))) = some r := h
 clear h
 obtain ⟨t445, A2, H⟩ := Option.bind_eq_some_iff.mp H
 replace A2 := mk_ A2
 obtain ⟨t448, A3, H⟩ := Option.bind_eq_some_iff.mp H
 replace A3 := mk_ A3
 by_cases c4 : t445.length + t448.length < 140737488355328
 rotate_left
 ·
  rw [if_neg c4] at H
  exact absurd H z6_
 rw [if_pos c4] at H
 have LMc4 := mk_ c4
 clear c4
 obtain ⟨y451, hy451⟩ : ∃ y_ : List Int, y_ = (t445 ++ t448) := ⟨_, rfl⟩
 replace H : ((some (([(a0_2) % 256] : List Int) : List Int)).bind fun y454 => (if y451.length + y454.length < 140737488355328 then (some (y451 ++ y454)) else (none))) = some r := by first | (rw [hy451]; with_reducible exact H) | (have H2_ := (Option.bind_some _ _).symm.trans H; rw [hy451]; with_reducible exact H2_) | (have H2_ := (Option.bind_some _ _).symm.trans H; with_reducible exact H2_) | with_reducible exact H | (rw [hy451]; exact H) | exact H
 have Ny451 := mk_ hy451
 clear hy451
 obtain ⟨y454, hy454⟩ : ∃ y_ : List Int, y_ = (([(a0_2) % 256] : List Int)) := ⟨_, rfl⟩
 replace H : (if y451.length + y454.length < 140737488355328 then (some (y451 ++ y454)) else (none)) = some r := by first | (rw [hy454]; with_reducible exact H) | (have H2_ := (Option.bind_some _ _).symm.trans H; rw [hy454]; with_reducible exact H2_) | (have H2_ := (Option.bind_some _ _).symm.trans H; with_reducible exact H2_) | with_reducible exact H | (rw [hy454]; exact H) | exact H
 have Ny454 := mk_ hy454
 clear hy454
 by_cases c5 : y451.length + y454.length < 140737488355328
 rotate_left
 ·
  rw [if_neg c5] at H
  exact absurd H z6_
 rw [if_pos c5] at H
 have LMc5 := mk_ c5
 clear c5
 obtain ⟨y457, hy457⟩ : ∃ y_ : List Int, y_ = (y451 ++ y454) := ⟨_, rfl⟩
 replace H : (some y457) = some r := by first | (rw [hy457]; with_reducible exact H) | (have H2_ := (Option.bind_some _ _).symm.trans H; rw [hy457]; with_reducible exact H2_) | (have H2_ := (Option.bind_some _ _).symm.trans H; with_reducible exact H2_) | with_reducible exact H | (rw [hy457]; exact H) | exact H
 have Ny457 := mk_ hy457
 clear hy457
 obtain rfl := Option.some.inj H
 go_enter Tryz.func47, Tryz.ntmps47
 try go_wp2_with (first | ((with_reducible refine aY (N := 1) rfl ?_); refine aZ ?hg (N := 1) ?hd (cs := #[.int .i64 a0_0, .int .i64 a0_1, .int .i64 a0_2]) (t := 27) ?hr ?_; (case hd => rfl); (case hg => rfl); (case hr => first | (go_simp; done) | (go_simp; rfl)); intro gb444 hg w6 hbox hb; have n0_ := mk_ (aA (Short.hB HB) hb); have n1_ := mk_ (hbox); have n2_ := mk_ ((by rw [hg]; exact (aC (Short.hB HB)) : w.heap.size ≤ gb444)); have n3_ := mk_ ((by rw [hg]; exact (aC (Short.hB HB)) : w.heap.size ≤ gb444)); clear HB; revert n0_ n1_ n2_ n3_; intro HB BK444 GW444 GE444; clear hb hbox hg))
 have n0_ := mk_ (aH BK444.out)
 have n1_ := mk_ (dG HB.out)
 clear BK444 HB
 revert n0_ n1_
 intro BK444 HB
 refine fM (n := 13) (S := fun w' => w'.cell? ⟨gb444, 0, none⟩ = some (.int .i64 a0_0) ∧ w'.cell? ⟨gb444, 1, none⟩ = some (.int .i64 a0_1) ∧ w'.cell? ⟨gb444, 2, none⟩ = some (.int .i64 a0_2)) (ds := []) (Steps.Bs 13 0) z2_ rfl rfl ⟨kc_ BK444 0, kc_ BK444 1, kc_ BK444 2⟩ (fun hHeld => ?_); refine dA bO.tab1 bO.bits1 (fun HT_ HW_ => ?_)
 generalize w6.drew = w7 at BK444 HB hHeld ⊢
 refine tI HT_ 0 3 13 1 ?_
 refine tI HT_ 3 6 13 9 ?_
 refine tI HT_ 7 10 13 137 ?_
 refine tT HT_ HW_ hHeld 1 4 13 139 ?_
 refine tT HT_ HW_ hHeld 4 7 13 155 ?_
 refine tT HT_ HW_ hHeld 8 11 13 411 ?_
 refine tI HT_ 9 12 13 923 ?_
 refine join_ (σ := Value × Value × Value × Value) 2 (Steps.Bs 13 2047) (fun s_ => [(5, s_.1), (8, s_.2.1), (9, s_.2.2.1), (13, s_.2.2.2)]) (fun s_ w' => (w'.cell? ⟨gb444, 0, none⟩ = some (.int .i64 a0_0) ∧ w'.cell? ⟨gb444, 1, none⟩ = some (.int .i64 a0_1) ∧ w'.cell? ⟨gb444, 2, none⟩ = some (.int .i64 a0_2)) ∧ (Kd.R (Kd.int .u8) 5 w' w.heap.size (fun k_ => nb_ k_ (s_.2.2.1) ∧ nb_ k_ (s_.2.2.2)) s_.2.1 t448) ∧ (Kd.R (Kd.int .u8) 5 w' w.heap.size (fun k_ => nb_ k_ (s_.2.1) ∧ nb_ k_ (s_.2.2.2)) s_.2.2.1 y451) ∧ (Kd.R (Kd.int .u8) 5 w' w.heap.size (fun k_ => nb_ k_ (s_.2.1) ∧ nb_ k_ (s_.2.2.1)) s_.2.2.2 y454) ∧ (w'.heap[gb444]? = some (.cells #[.int .i64 a0_0, .int .i64 a0_1, .int .i64 a0_2] 27 (0, 0))) ∧ (Below w.heap.size w w')) ?_ ?_
 rotate_left
 ·
  intro hCont
  refine two_ (i := 2) (j := 10) (Ni := some 5) (Nj := some 13) (Steps.Bs 13 927) (Steps.Bs 13 1947) rfl rfl rfl rfl (two_of HT_.out z2_) z5_ z5_ (fun K hK => ?_) (fun K hK => ?_)
  ·
   skip
   refine goes_ Tryz.func77 z2_ rfl #[.int .i64 a0_0, .int .i64 6] (by rfl) rfl rfl z0_ ?_
   with_reducible refine (bC.calls k a0_0 6 t445 _ A2.out).mono ?_
   rintro e w8 ⟨v446, rfl, ho0, hb⟩
   refine ⟨_, rfl, ?_⟩
   have n0_ := mk_ (bX ho0 (aC (Short.hB HB)))
   have n1_ := mk_ (bB_ BK444 hb)
   have n2_ := mk_ (aA (Short.hB HB) hb)
   clear BK444 HB
   revert n0_ n1_ n2_
   intro HO447 BK444 HB
   (try clear hb)
   (try clear hb2)
   (try clear hk)
   (try clear hi)
   (try clear ho0)
   refine hK.out _ _ ⟨kc_ BK444 0, kc_ BK444 1, kc_ BK444 2⟩ (fun hHeld => ?_)
   clear hK K
   refine nrm 5 ?_
   refine two_ (i := 5) (j := 10) (Ni := some 8) (Nj := some 13) (Steps.Bs 13 959) (Steps.Bs 13 1951) rfl rfl rfl rfl (two_of HT_.out z2_) z5_ z5_ (fun K hK => ?_) (fun K hK => ?_)
   ·
    skip
    refine goes_ Tryz.func77 z2_ rfl #[.int .i64 a0_1, .int .i64 3] (by rfl) rfl rfl z0_ ?_
    with_reducible refine (bC.calls k a0_1 3 t448 _ A3.out).mono ?_
    rintro e w9 ⟨v449, rfl, ho0, hb⟩
    refine ⟨_, rfl, ?_⟩
    have n0_ := mk_ (R_elder' (ZKR HO447) (R_base ho0) hb)
    have n1_ := mk_ (bX (R_new' ho0 (R_lt (ZKR HO447))) (aC (Short.hB HB)))
    have n2_ := mk_ (bB_ BK444 hb)
    have n3_ := mk_ (aA (Short.hB HB) hb)
    clear HO447 BK444 HB
    revert n0_ n1_ n2_ n3_
    intro HO447 HO450 BK444 HB
    (try clear hb)
    (try clear hb2)
    (try clear hk)
    (try clear hi)
    (try clear ho0)
    obtain ⟨Ao11, co11, eo11⟩ := cX HO450.out
    (first | subst eo11 | (injection eo11 with f1_ f2_ f3_; have f4_ := f1_.symm; have f5_ := f3_.symm; clear f1_ f2_ f3_; subst f4_; subst f5_))
    refine hK.out _ _ ⟨kc_ BK444 0, kc_ BK444 1, kc_ BK444 2⟩ (fun hHeld => ?_)
    clear hK K
    refine nrm 8 ?_
    refine two_ (i := 6) (j := 10) (Ni := some 9) (Nj := some 13) (Steps.Bs 13 1023) (Steps.Bs 13 1983) rfl rfl rfl rfl (two_of HT_.out z2_) z5_ z5_ (fun K hK => ?_) (fun K hK => ?_)
    ·
     skip
     refine cZ (Kd.int .u8) (w0 := w) w.heap.size (by rfl) (.tmp 5) (.tmp 8) 36 5 (.int .u8 0) 1 rfl Tryz.underlying36 info5 rfl z5_ z4_ v446 t445 t448 _ _ _ (fun k_ => nb_ k_ (.slice Ao11 t448.length co11)) (fun _ => False) rfl rfl ?aO ?aR (fun _ _ h => h) (fun _ h => h.elim) ?aF ?aB ?aS ?aL ?_
     (case aR => exact cX_ (R_reads' HO450.out).2.2)
     (case aB => exact (Short.hB HB))
     (case aF => exact (fun k_ hk => Kd.fresh' (R_lt (ZKR HO450)) k_ hk))
     (case aO => exact (rM_ HO447 (fun _ hk => hk.2)))
     (case aS => exact (aC (Short.hB HB)))
     (case aL => have := LMc4.out; omega)
     intro v452 w10 ho hb hg hat
     rw [← Ny451.out] at ho
     have n0_ := mk_ (dJ (g := gb444) (o := .cells #[.int .i64 a0_0, .int .i64 a0_1, .int .i64 a0_2] 27 (0, 0)) (Short.bK BK444) hg (R_ne HO447.out BK444.out z5_))
     have n1_ := mk_ (dT (ok := (fun _ => True)) (ZKR HO450) hg hat)
     have n2_ := mk_ (hb)
     have n3_ := mk_ (ho)
     clear BK444 HO450 HB HO447
     revert n0_ n1_ n2_ n3_
     intro BK444 HO450 HB HO453
     clear ho hb hg hat
     refine hK.out _ _ ⟨kc_ BK444 0, kc_ BK444 1, kc_ BK444 2⟩ (fun hHeld => ?_)
     clear hK K
     refine nrm 9 ?_
     refine one_ (i := 10) (N := some 13) (Steps.Bs 13 2047) rfl rfl (cC HT_.out z2_) z5_ (fun K hK => ?_)
     refine fK (Kd.int .u8) _ 5 ?hg (N := 13) ?hd (xs := ([(a0_2) % 256] : List Int)) (inner := [.int .u8 ((a0_2) % 256)]) (ok := fun _ => True) (okp := fun _ => True) ?hr ?hp (fun _ hk => hk) trivial (Below.refl _ _) (Nat.le_refl _) z6_ ?_; (case hd => rfl); (case hg => rfl); (case hr => first | (go_simp; done) | (go_simp; rfl)); (case hp => exact (Reps.one (show Kd.M (Kd.int .u8) _ _ _ ((a0_2) % 256) [.int .u8 ((a0_2) % 256)] from rfl) (Reps.none _ _)))
     intro v455 w12 ho13 hb hg_ hnew_
     clear hg_ hnew_
     (first | rw [← Ny454.out] at ho13 | (simp only [Int.reduceToNat] at ho13; rw [← Ny454.out] at ho13))
     have n0_ := mk_ (R_elder' (ZKR HO450) (R_base ho13) hb)
     have n1_ := mk_ (R_elder' (ZKR HO453) (R_base ho13) hb)
     have n2_ := mk_ (bX (R_new' (R_new' ho13 (R_lt (ZKR HO450))) (R_lt (ZKR HO453))) (aC (Short.hB HB)))
     have n3_ := mk_ (bB_ BK444 hb)
     have n4_ := mk_ (aA (Short.hB HB) hb)
     clear HO450 HO453 BK444 HB
     revert n0_ n1_ n2_ n3_ n4_
     intro HO450 HO453 HO456 BK444 HB
     clear hb ho13
     refine hK.out _ _ ⟨kc_ BK444 0, kc_ BK444 1, kc_ BK444 2⟩ (fun hHeld => ?_)
     clear hK K
     refine nrm 13 ?_
     exact norm_ (by simp only [putAll, Act.put, List.setIfInBounds_toArray, List.set_cons_zero, List.set_cons_succ]) (hCont (v446, .slice Ao11 t448.length co11, v452, v455) _ ⟨hHeld, (rM_ HO450 (fun _ hk => ⟨hk.1.2, hk.2⟩)), (ZKR HO453), (rM_ HO456 (fun _ hk => ⟨hk.1.2, hk.2⟩)), (Short.bK BK444), (Short.hB HB)⟩)
    ·
     skip
     refine fK (Kd.int .u8) _ 5 ?hg (N := 13) ?hd (xs := ([(a0_2) % 256] : List Int)) (inner := [.int .u8 ((a0_2) % 256)]) (ok := fun _ => True) (okp := fun _ => True) ?hr ?hp (fun _ hk => hk) trivial (Below.refl _ _) (Nat.le_refl _) z6_ ?_; (case hd => rfl); (case hg => rfl); (case hr => first | (go_simp; done) | (go_simp; rfl)); (case hp => exact (Reps.one (show Kd.M (Kd.int .u8) _ _ _ ((a0_2) % 256) [.int .u8 ((a0_2) % 256)] from rfl) (Reps.none _ _)))
     intro v455 w10 ho11 hb hg_ hnew_
     clear hg_ hnew_
     (first | rw [← Ny454.out] at ho11 | (simp only [Int.reduceToNat] at ho11; rw [← Ny454.out] at ho11))
     have n0_ := mk_ (R_elder' (ZKR HO447) (R_base ho11) hb)
     have n1_ := mk_ (R_elder' (ZKR HO450) (R_base ho11) hb)
     have n2_ := mk_ (bX (R_new' (R_new' ho11 (R_lt (ZKR HO447))) (R_lt (ZKR HO450))) (aC (Short.hB HB)))
     have n3_ := mk_ (bB_ BK444 hb)
     have n4_ := mk_ (aA (Short.hB HB) hb)
     clear HO447 HO450 BK444 HB
     revert n0_ n1_ n2_ n3_ n4_
     intro HO447 HO450 HO456 BK444 HB
     clear hb ho11
     obtain ⟨Ao13, co13, eo13⟩ := cX HO450.out
     (first | subst eo13 | (injection eo13 with f1_ f2_ f3_; have f4_ := f1_.symm; have f5_ := f3_.symm; clear f1_ f2_ f3_; subst f4_; subst f5_))
     refine hK.out _ _ ⟨kc_ BK444 0, kc_ BK444 1, kc_ BK444 2⟩ (fun hHeld => ?_)
     clear hK K
     refine nrm 13 ?_
     refine one_ (i := 6) (N := some 9) (Steps.Bs 13 2047) rfl rfl (cC HT_.out z2_) z5_ (fun K hK => ?_)
     refine cZ (Kd.int .u8) (w0 := w) w.heap.size (by rfl) (.tmp 5) (.tmp 8) 36 5 (.int .u8 0) 1 rfl Tryz.underlying36 info5 rfl z5_ z4_ v446 t445 t448 _ _ _ (fun k_ => nb_ k_ (.slice Ao13 t448.length co13) ∧ nb_ k_ (v455)) (fun _ => False) rfl rfl ?aO ?aR (fun _ _ h => h) (fun _ h => h.elim) ?aF ?aB ?aS ?aL ?_
     (case aR => exact cX_ (R_reads' HO450.out).2.2)
     (case aB => exact (Short.hB HB))
     (case aF => exact (fun k_ hk => ⟨Kd.fresh' (R_lt (ZKR HO450)) k_ hk, Kd.fresh' (R_lt (ZKR HO456)) k_ hk⟩))
     (case aO => exact (rM_ HO447 (fun _ hk => ⟨hk.1.2, hk.2⟩)))
     (case aS => exact (aC (Short.hB HB)))
     (case aL => have := LMc4.out; omega)
     intro v452 w12 ho hb hg hat
     rw [← Ny451.out] at ho
     have n0_ := mk_ (dJ (g := gb444) (o := .cells #[.int .i64 a0_0, .int .i64 a0_1, .int .i64 a0_2] 27 (0, 0)) (Short.bK BK444) hg (R_ne HO447.out BK444.out z5_))
     have n1_ := mk_ (dT (ok := (fun k_ => nb_ k_ (v455))) (rM_ HO450 (fun _ hk => ⟨hk.2, hk.1.2⟩)) hg hat)
     have n2_ := mk_ (dT (ok := (fun k_ => nb_ k_ (.slice Ao13 t448.length co13))) (rM_ HO456 (fun _ hk => ⟨hk.2, hk.1.2⟩)) hg hat)
     have n3_ := mk_ (hb)
     have n4_ := mk_ (ho)
     clear BK444 HO450 HO456 HB HO447
     revert n0_ n1_ n2_ n3_ n4_
     intro BK444 HO450 HO456 HB HO453
     clear ho hb hg hat
     refine hK.out _ _ ⟨kc_ BK444 0, kc_ BK444 1, kc_ BK444 2⟩ (fun hHeld => ?_)
     clear hK K
     refine nrm 9 ?_
     exact norm_ (by simp only [putAll, Act.put, List.setIfInBounds_toArray, List.set_cons_zero, List.set_cons_succ]) (hCont (v446, .slice Ao13 t448.length co13, v452, v455) _ ⟨hHeld, (rM_ HO450 (fun _ hk => ⟨hk.2, hk.1⟩)), (ZKR HO453), (ZKR HO456), (Short.bK BK444), (Short.hB HB)⟩)
   ·
    skip
    refine fK (Kd.int .u8) _ 5 ?hg (N := 13) ?hd (xs := ([(a0_2) % 256] : List Int)) (inner := [.int .u8 ((a0_2) % 256)]) (ok := fun _ => True) (okp := fun _ => True) ?hr ?hp (fun _ hk => hk) trivial (Below.refl _ _) (Nat.le_refl _) z6_ ?_; (case hd => rfl); (case hg => rfl); (case hr => first | (go_simp; done) | (go_simp; rfl)); (case hp => exact (Reps.one (show Kd.M (Kd.int .u8) _ _ _ ((a0_2) % 256) [.int .u8 ((a0_2) % 256)] from rfl) (Reps.none _ _)))
    intro v455 w9 ho10 hb hg_ hnew_
    clear hg_ hnew_
    (first | rw [← Ny454.out] at ho10 | (simp only [Int.reduceToNat] at ho10; rw [← Ny454.out] at ho10))
    have n0_ := mk_ (R_elder' (ZKR HO447) (R_base ho10) hb)
    have n1_ := mk_ (bX (R_new' ho10 (R_lt (ZKR HO447))) (aC (Short.hB HB)))
    have n2_ := mk_ (bB_ BK444 hb)
    have n3_ := mk_ (aA (Short.hB HB) hb)
    clear HO447 BK444 HB
    revert n0_ n1_ n2_ n3_
    intro HO447 HO456 BK444 HB
    clear hb ho10
    refine hK.out _ _ ⟨kc_ BK444 0, kc_ BK444 1, kc_ BK444 2⟩ (fun hHeld => ?_)
    clear hK K
    refine nrm 13 ?_
    refine one_ (i := 5) (N := some 8) (Steps.Bs 13 1983) rfl rfl (cC HT_.out z2_) z5_ (fun K hK => ?_)
    refine goes_ Tryz.func77 z2_ rfl #[.int .i64 a0_1, .int .i64 3] (by rfl) rfl rfl z0_ ?_
    with_reducible refine (bC.calls k a0_1 3 t448 _ A3.out).mono ?_
    rintro e w11 ⟨v449, rfl, ho0, hb⟩
    refine ⟨_, rfl, ?_⟩
    have n0_ := mk_ (R_elder' (ZKR HO447) (R_base ho0) hb)
    have n1_ := mk_ (R_elder' (ZKR HO456) (R_base ho0) hb)
    have n2_ := mk_ (bX (R_new' (R_new' ho0 (R_lt (ZKR HO447))) (R_lt (ZKR HO456))) (aC (Short.hB HB)))
    have n3_ := mk_ (bB_ BK444 hb)
    have n4_ := mk_ (aA (Short.hB HB) hb)
    clear HO447 HO456 BK444 HB
    revert n0_ n1_ n2_ n3_ n4_
    intro HO447 HO456 HO450 BK444 HB
    (try clear hb)
    (try clear hb2)
    (try clear hk)
    (try clear hi)
    (try clear ho0)
    obtain ⟨Ao13, co13, eo13⟩ := cX HO450.out
    (first | subst eo13 | (injection eo13 with f1_ f2_ f3_; have f4_ := f1_.symm; have f5_ := f3_.symm; clear f1_ f2_ f3_; subst f4_; subst f5_))
    refine hK.out _ _ ⟨kc_ BK444 0, kc_ BK444 1, kc_ BK444 2⟩ (fun hHeld => ?_)
    clear hK K
    refine nrm 8 ?_
    refine one_ (i := 6) (N := some 9) (Steps.Bs 13 2047) rfl rfl (cC HT_.out z2_) z5_ (fun K hK => ?_)
    refine cZ (Kd.int .u8) (w0 := w) w.heap.size (by rfl) (.tmp 5) (.tmp 8) 36 5 (.int .u8 0) 1 rfl Tryz.underlying36 info5 rfl z5_ z4_ v446 t445 t448 _ _ _ (fun k_ => nb_ k_ (v455) ∧ nb_ k_ (.slice Ao13 t448.length co13)) (fun _ => False) rfl rfl ?aO ?aR (fun _ _ h => h) (fun _ h => h.elim) ?aF ?aB ?aS ?aL ?_
    (case aR => exact cX_ (R_reads' HO450.out).2.2)
    (case aB => exact (Short.hB HB))
    (case aF => exact (fun k_ hk => ⟨Kd.fresh' (R_lt (ZKR HO456)) k_ hk, Kd.fresh' (R_lt (ZKR HO450)) k_ hk⟩))
    (case aO => exact (rM_ HO447 (fun _ hk => ⟨hk.1.2, hk.2⟩)))
    (case aS => exact (aC (Short.hB HB)))
    (case aL => have := LMc4.out; omega)
    intro v452 w12 ho hb hg hat
    rw [← Ny451.out] at ho
    have n0_ := mk_ (dJ (g := gb444) (o := .cells #[.int .i64 a0_0, .int .i64 a0_1, .int .i64 a0_2] 27 (0, 0)) (Short.bK BK444) hg (R_ne HO447.out BK444.out z5_))
    have n1_ := mk_ (dT (ok := (fun k_ => nb_ k_ (.slice Ao13 t448.length co13))) (rM_ HO456 (fun _ hk => ⟨hk.2, hk.1.2⟩)) hg hat)
    have n2_ := mk_ (dT (ok := (fun k_ => nb_ k_ (v455))) (rM_ HO450 (fun _ hk => ⟨hk.2, hk.1.2⟩)) hg hat)
    have n3_ := mk_ (hb)
    have n4_ := mk_ (ho)
    clear BK444 HO456 HO450 HB HO447
    revert n0_ n1_ n2_ n3_ n4_
    intro BK444 HO456 HO450 HB HO453
    clear ho hb hg hat
    refine hK.out _ _ ⟨kc_ BK444 0, kc_ BK444 1, kc_ BK444 2⟩ (fun hHeld => ?_)
    clear hK K
    refine nrm 9 ?_
    exact norm_ (by simp only [putAll, Act.put, List.setIfInBounds_toArray, List.set_cons_zero, List.set_cons_succ]) (hCont (v446, .slice Ao13 t448.length co13, v452, v455) _ ⟨hHeld, (rM_ HO450 (fun _ hk => ⟨hk.2, hk.1⟩)), (rM_ HO453 (fun _ hk => ⟨hk.2, hk.1⟩)), (ZKR HO456), (Short.bK BK444), (Short.hB HB)⟩)
  ·
   skip
   refine fK (Kd.int .u8) _ 5 ?hg (N := 13) ?hd (xs := ([(a0_2) % 256] : List Int)) (inner := [.int .u8 ((a0_2) % 256)]) (ok := fun _ => True) (okp := fun _ => True) ?hr ?hp (fun _ hk => hk) trivial (Below.refl _ _) (Nat.le_refl _) z6_ ?_; (case hd => rfl); (case hg => rfl); (case hr => first | (go_simp; done) | (go_simp; rfl)); (case hp => exact (Reps.one (show Kd.M (Kd.int .u8) _ _ _ ((a0_2) % 256) [.int .u8 ((a0_2) % 256)] from rfl) (Reps.none _ _)))
   intro v455 w8 ho9 hb hg_ hnew_
   clear hg_ hnew_
   (first | rw [← Ny454.out] at ho9 | (simp only [Int.reduceToNat] at ho9; rw [← Ny454.out] at ho9))
   have n0_ := mk_ (bX ho9 (aC (Short.hB HB)))
   have n1_ := mk_ (bB_ BK444 hb)
   have n2_ := mk_ (aA (Short.hB HB) hb)
   clear BK444 HB
   revert n0_ n1_ n2_
   intro HO456 BK444 HB
   clear hb ho9
   refine hK.out _ _ ⟨kc_ BK444 0, kc_ BK444 1, kc_ BK444 2⟩ (fun hHeld => ?_)
   clear hK K
   refine nrm 13 ?_
   refine one_ (i := 2) (N := some 5) (Steps.Bs 13 1951) rfl rfl (cC HT_.out z2_) z5_ (fun K hK => ?_)
   refine goes_ Tryz.func77 z2_ rfl #[.int .i64 a0_0, .int .i64 6] (by rfl) rfl rfl z0_ ?_
   with_reducible refine (bC.calls k a0_0 6 t445 _ A2.out).mono ?_
   rintro e w10 ⟨v446, rfl, ho0, hb⟩
   refine ⟨_, rfl, ?_⟩
   have n0_ := mk_ (R_elder' (ZKR HO456) (R_base ho0) hb)
   have n1_ := mk_ (bX (R_new' ho0 (R_lt (ZKR HO456))) (aC (Short.hB HB)))
   have n2_ := mk_ (bB_ BK444 hb)
   have n3_ := mk_ (aA (Short.hB HB) hb)
   clear HO456 BK444 HB
   revert n0_ n1_ n2_ n3_
   intro HO456 HO447 BK444 HB
   (try clear hb)
   (try clear hb2)
   (try clear hk)
   (try clear hi)
   (try clear ho0)
   refine hK.out _ _ ⟨kc_ BK444 0, kc_ BK444 1, kc_ BK444 2⟩ (fun hHeld => ?_)
   clear hK K
   refine nrm 5 ?_
   refine one_ (i := 5) (N := some 8) (Steps.Bs 13 1983) rfl rfl (cC HT_.out z2_) z5_ (fun K hK => ?_)
   refine goes_ Tryz.func77 z2_ rfl #[.int .i64 a0_1, .int .i64 3] (by rfl) rfl rfl z0_ ?_
   with_reducible refine (bC.calls k a0_1 3 t448 _ A3.out).mono ?_
   rintro e w11 ⟨v449, rfl, ho0, hb⟩
   refine ⟨_, rfl, ?_⟩
   have n0_ := mk_ (R_elder' (ZKR HO456) (R_base ho0) hb)
   have n1_ := mk_ (R_elder' (ZKR HO447) (R_base ho0) hb)
   have n2_ := mk_ (bX (R_new' (R_new' ho0 (R_lt (ZKR HO456))) (R_lt (ZKR HO447))) (aC (Short.hB HB)))
   have n3_ := mk_ (bB_ BK444 hb)
   have n4_ := mk_ (aA (Short.hB HB) hb)
   clear HO456 HO447 BK444 HB
   revert n0_ n1_ n2_ n3_ n4_
   intro HO456 HO447 HO450 BK444 HB
   (try clear hb)
   (try clear hb2)
   (try clear hk)
   (try clear hi)
   (try clear ho0)
   obtain ⟨Ao13, co13, eo13⟩ := cX HO450.out
   (first | subst eo13 | (injection eo13 with f1_ f2_ f3_; have f4_ := f1_.symm; have f5_ := f3_.symm; clear f1_ f2_ f3_; subst f4_; subst f5_))
   refine hK.out _ _ ⟨kc_ BK444 0, kc_ BK444 1, kc_ BK444 2⟩ (fun hHeld => ?_)
   clear hK K
   refine nrm 8 ?_
   refine one_ (i := 6) (N := some 9) (Steps.Bs 13 2047) rfl rfl (cC HT_.out z2_) z5_ (fun K hK => ?_)
   refine cZ (Kd.int .u8) (w0 := w) w.heap.size (by rfl) (.tmp 5) (.tmp 8) 36 5 (.int .u8 0) 1 rfl Tryz.underlying36 info5 rfl z5_ z4_ v446 t445 t448 _ _ _ (fun k_ => nb_ k_ (v455) ∧ nb_ k_ (.slice Ao13 t448.length co13)) (fun _ => False) rfl rfl ?aO ?aR (fun _ _ h => h) (fun _ h => h.elim) ?aF ?aB ?aS ?aL ?_
   (case aR => exact cX_ (R_reads' HO450.out).2.2)
   (case aB => exact (Short.hB HB))
   (case aF => exact (fun k_ hk => ⟨Kd.fresh' (R_lt (ZKR HO456)) k_ hk, Kd.fresh' (R_lt (ZKR HO450)) k_ hk⟩))
   (case aO => exact (rM_ HO447 (fun _ hk => ⟨hk.1.2, hk.2⟩)))
   (case aS => exact (aC (Short.hB HB)))
   (case aL => have := LMc4.out; omega)
   intro v452 w12 ho hb hg hat
   rw [← Ny451.out] at ho
   have n0_ := mk_ (dJ (g := gb444) (o := .cells #[.int .i64 a0_0, .int .i64 a0_1, .int .i64 a0_2] 27 (0, 0)) (Short.bK BK444) hg (R_ne HO447.out BK444.out z5_))
   have n1_ := mk_ (dT (ok := (fun k_ => nb_ k_ (.slice Ao13 t448.length co13))) (rM_ HO456 (fun _ hk => ⟨hk.2, hk.1.2⟩)) hg hat)
   have n2_ := mk_ (dT (ok := (fun k_ => nb_ k_ (v455))) (rM_ HO450 (fun _ hk => ⟨hk.1.2, hk.2⟩)) hg hat)
   have n3_ := mk_ (hb)
   have n4_ := mk_ (ho)
   clear BK444 HO456 HO450 HB HO447
   revert n0_ n1_ n2_ n3_ n4_
   intro BK444 HO456 HO450 HB HO453
   clear ho hb hg hat
   refine hK.out _ _ ⟨kc_ BK444 0, kc_ BK444 1, kc_ BK444 2⟩ (fun hHeld => ?_)
   clear hK K
   refine nrm 9 ?_
   exact norm_ (by simp only [putAll, Act.put, List.setIfInBounds_toArray, List.set_cons_zero, List.set_cons_succ]) (hCont (v446, .slice Ao13 t448.length co13, v452, v455) _ ⟨hHeld, (rM_ HO450 (fun _ hk => ⟨hk.2, hk.1⟩)), (rM_ HO453 (fun _ hk => ⟨hk.2, hk.1⟩)), (ZKR HO456), (Short.bK BK444), (Short.hB HB)⟩)
 rintro ⟨v446, v449, v452, v455⟩ w14 ⟨hS_, h0_, h1_, h2_, h3_, h4_⟩
 have n0_ : Aside0 (Kd.R (Kd.int .u8) 5 w14 w.heap.size (fun k_ => nb_ k_ (v452) ∧ nb_ k_ (v455)) v449 t448) := ⟨h0_⟩
 have n1_ : Aside0 (Kd.R (Kd.int .u8) 5 w14 w.heap.size (fun k_ => nb_ k_ (v449) ∧ nb_ k_ (v455)) v452 y451) := ⟨h1_⟩
 have n2_ : Aside0 (Kd.R (Kd.int .u8) 5 w14 w.heap.size (fun k_ => nb_ k_ (v449) ∧ nb_ k_ (v452)) v455 y454) := ⟨h2_⟩
 have n3_ : Aside0 (w14.heap[gb444]? = some (.cells #[.int .i64 a0_0, .int .i64 a0_1, .int .i64 a0_2] 27 (0, 0))) := ⟨h3_⟩
 have n4_ : Aside0 (Below w.heap.size w w14) := ⟨h4_⟩
 clear BK444 HB
 clear h0_ h1_ h2_ h3_ h4_
 revert n0_ n1_ n2_ n3_ n4_
 intro HO450 HO453 HO456 BK444 HB
 have hHeld : w14.cell? ⟨gb444, 0, none⟩ = some (.int .i64 a0_0) ∧ w14.cell? ⟨gb444, 1, none⟩ = some (.int .i64 a0_1) ∧ w14.cell? ⟨gb444, 2, none⟩ = some (.int .i64 a0_2) := hS_
 obtain ⟨Ao16, co16, eo16⟩ := cX HO456.out
 (first | subst eo16 | (injection eo16 with f1_ f2_ f3_; have f4_ := f1_.symm; have f5_ := f3_.symm; clear f1_ f2_ f3_; subst f4_; subst f5_))
 refine norm_ (a' := ?_) ?_ ?_
 rotate_left
 ·
  simp only [putAll, Act.put, List.setIfInBounds_toArray, List.set_cons_zero, List.set_cons_succ]
  rfl
 refine one_ (i := 11) (N := some 14) (Steps.Bs 13 4095) rfl rfl (cC HT_.out z2_) z5_ (fun K hK => ?_)
 refine cZ (Kd.int .u8) (w0 := w) w.heap.size (by rfl) (.tmp 9) (.tmp 13) 36 5 (.int .u8 0) 1 rfl Tryz.underlying36 info5 rfl z5_ z4_ v452 y451 y454 _ _ _ (fun k_ => nb_ k_ (v449) ∧ nb_ k_ (.slice Ao16 y454.length co16)) (fun _ => False) rfl rfl ?aO ?aR (fun _ _ h => h) (fun _ h => h.elim) ?aF ?aB ?aS ?aL ?_
 (case aR => exact cX_ (R_reads' HO456.out).2.2)
 (case aB => exact (Short.hB HB))
 (case aF => exact (fun k_ hk => ⟨Kd.fresh' (R_lt (ZKR HO450)) k_ hk, Kd.fresh' (R_lt (ZKR HO456)) k_ hk⟩))
 (case aO => exact (ZKR HO453))
 (case aS => exact (aC (Short.hB HB)))
 (case aL => have := LMc5.out; omega)
 intro v458 w15 ho hb hg hat
 rw [← Ny457.out] at ho
 have n0_ := mk_ (dJ (g := gb444) (o := .cells #[.int .i64 a0_0, .int .i64 a0_1, .int .i64 a0_2] 27 (0, 0)) (Short.bK BK444) hg (R_ne HO453.out BK444.out z5_))
 have n1_ := mk_ (dT (ok := (fun k_ => nb_ k_ (.slice Ao16 y454.length co16))) (rM_ HO450 (fun _ hk => ⟨hk.2, hk.1⟩)) hg hat)
 have n2_ := mk_ (dT (ok := (fun k_ => nb_ k_ (v449))) (ZKR HO456) hg hat)
 have n3_ := mk_ (hb)
 have n4_ := mk_ (ho)
 clear BK444 HO450 HO456 HB HO453
 revert n0_ n1_ n2_ n3_ n4_
 intro BK444 HO450 HO456 HB HO459
 clear ho hb hg hat
 refine hK.out _ _ ⟨kc_ BK444 0, kc_ BK444 1, kc_ BK444 2⟩ (fun hHeld => ?_)
 clear hK K
 refine nrm 14 ?_
 refine tI HT_ 12 2 13 8191 ?_
 refine done_ (cE HT_.out z2_) ?_
 try go_wp2
 go_ret
 exact ⟨_, by first | rfl | (simp [bA, bB] <;> rfl) | (simp [*, bA, bB] <;> rfl), by (with_reducible repeat (first | apply R_alloc | apply R_drewN | apply R_drew)); exact R_mono HO459.out (fun _ hk => trivial), Short.hB HB⟩
def dN.f (k : Nat) (a0 : Int) : Option (List Int) := if a0 < 0 then ((some (([1] : List Int) : List Int)).bind fun y460 => ((bC.f k (wrap64 (-a0)) 8).bind fun t463 => (if y460.length + t463.length < 140737488355328 then (some (y460 ++ t463)) else (none)))) else ((some (([0] : List Int) : List Int)).bind fun y469 => ((bC.f k a0 8).bind fun t472 => (if y469.length + t472.length < 140737488355328 then (some (y469 ++ t472)) else (none))))
theorem dN.calls (k : Nat) (a0 : Int) (r : List Int) (w : World) (h : dN.f k a0 = some r) :
  Calls Tryz.prog 94 #[.int .i64 a0] w fun e w' => ∃ v0_ : Value, e = .returned (v0_) ∧ Kd.R (Kd.int .u8) 5 w' w.heap.size (fun _ => True) v0_ r ∧ Below w.heap.size w w' := by
 have HB := mk_ (Below.refl w.heap.size w)
 have H : (if a0 < 0 then ((some (([1] : List Int) : List Int)).bind fun y460 => ((bC.f k (wrap64 (-a0)) 8).bind fun t463 => (if y460.length + t463.length < 140737488355328 then (some (y460 ++ t463)) else (none)))) else ((some (([0] : List Int) : List Int)).bind fun y469 => ((bC.f k a0 8).bind fun t472 => (if y469.length + t472.length < 140737488355328 then (some (y469 ++ t472)) else (none))))) = some r := h
 clear h
 by_cases c2 : a0 < 0
 rotate_left
 rw [if_neg c2] at H
 have c2b0 : decide (a0 < 0) = false := decide_eq_false c2
 clear c2
 obtain ⟨y469, hy469⟩ : ∃ y_ : List Int, y_ = (([0] : List Int)) := ⟨_, rfl⟩
 replace H : ((bC.f k a0 8).bind fun t472 => (if y469.length + t472.length < 140737488355328 then (some (y469 ++ t472)) else (none))) = some r := by first | (rw [hy469]; with_reducible exact H) | (have H2_ := (Option.bind_some _ _).symm.trans H; rw [hy469]; with_reducible exact H2_) | (have H2_ := (Option.bind_some _ _).symm.trans H; with_reducible exact H2_) | with_reducible exact H | (rw [hy469]; exact H) | exact H
 have Ny469 := mk_ hy469
 clear hy469
 obtain ⟨t472, A10, H⟩ := Option.bind_eq_some_iff.mp H
 replace A10 := mk_ A10
 by_cases c11 : y469.length + t472.length < 140737488355328
 rotate_left
 rw [if_neg c11] at H
 exact absurd H z6_
 rotate_right
 rw [if_pos c11] at H
 have LMc11 := mk_ c11
 clear c11
 obtain ⟨y475, hy475⟩ : ∃ y_ : List Int, y_ = (y469 ++ t472) := ⟨_, rfl⟩
 replace H : (some y475) = some r := by first | (rw [hy475]; with_reducible exact H) | (have H2_ := (Option.bind_some _ _).symm.trans H; rw [hy475]; with_reducible exact H2_) | (have H2_ := (Option.bind_some _ _).symm.trans H; with_reducible exact H2_) | with_reducible exact H | (rw [hy475]; exact H) | exact H
 have Ny475 := mk_ hy475
 clear hy475
 obtain rfl := Option.some.inj H
 rotate_right
 rw [if_pos c2] at H
 have c2b0 : decide (a0 < 0) = true := decide_eq_true c2
 clear c2
 obtain ⟨y460, hy460⟩ : ∃ y_ : List Int, y_ = (([1] : List Int)) := ⟨_, rfl⟩
 replace H : ((bC.f k (wrap64 (-a0)) 8).bind fun t463 => (if y460.length + t463.length < 140737488355328 then (some (y460 ++ t463)) else (none))) = some r := by first | (rw [hy460]; with_reducible exact H) | (have H2_ := (Option.bind_some _ _).symm.trans H; rw [hy460]; with_reducible exact H2_) | (have H2_ := (Option.bind_some _ _).symm.trans H; with_reducible exact H2_) | with_reducible exact H | (rw [hy460]; exact H) | exact H
 have Ny460 := mk_ hy460
 clear hy460
 obtain ⟨t463, A3, H⟩ := Option.bind_eq_some_iff.mp H
 replace A3 := mk_ A3
 by_cases c4 : y460.length + t463.length < 140737488355328
 rotate_left
 rw [if_neg c4] at H
 exact absurd H z6_
 rotate_right
 rw [if_pos c4] at H
 have LMc4 := mk_ c4
 clear c4
 obtain ⟨y466, hy466⟩ : ∃ y_ : List Int, y_ = (y460 ++ t463) := ⟨_, rfl⟩
 replace H : (some y466) = some r := by first | (rw [hy466]; with_reducible exact H) | (have H2_ := (Option.bind_some _ _).symm.trans H; rw [hy466]; with_reducible exact H2_) | (have H2_ := (Option.bind_some _ _).symm.trans H; with_reducible exact H2_) | with_reducible exact H | (rw [hy466]; exact H) | exact H
 have Ny466 := mk_ hy466
 clear hy466
 obtain rfl := Option.some.inj H
 all_goals
  go_enter Tryz.func94, Tryz.ntmps94
  go_wp2_with (first | ((with_reducible refine aY (N := 10) rfl ?_); refine R_lit (Kd.int .u8) _ 5 ?hg (N := 10) ?hd (xs := ([0] : List Int)) (inner := [.int .u8 0]) (ok := fun _ => True) (okp := fun _ => True) ?hr ?hp (fun _ hk => hk) trivial (Below.refl _ _) (Nat.le_refl _) z6_ ?_; (case hd => rfl); (case hg => rfl); (case hr => first | (go_simp; done) | (go_simp; rfl)); (case hp => exact (Reps.one (show Kd.M (Kd.int .u8) _ _ _ 0 [.int .u8 0] from rfl) (Reps.none _ _))); intro v470 w_10 ho13 hb hg_ hnew_; clear hg_ hnew_; (first | rw [← Ny469.out] at ho13 | (simp only [Int.reduceToNat] at ho13; rw [← Ny469.out] at ho13)); have n0_ := mk_ (bX ho13 (aC (Short.hB HB))); have n1_ := mk_ (aA (Short.hB HB) hb); clear HB; revert n0_ n1_; intro HO471 HB; clear hb ho13) | ((with_reducible refine aJ (f := 77) rfl ?_); refine Short.gL (some 12) Tryz.func77 #[.int .i64 a0, .int .i64 8] (h := ?_); (with_reducible refine (bC.calls k a0 8 t472 _ A10.out).mono ?_); rintro e w_12 ⟨v473, rfl, ho0, hb⟩; refine ⟨_, rfl, ?_⟩; have n0_ := mk_ (R_elder' (ZKR HO471) (R_base ho0) hb); have n1_ := mk_ (bX (R_new' ho0 (R_lt (ZKR HO471))) (aC (Short.hB HB))); have n2_ := mk_ (aA (Short.hB HB) hb); clear HO471 HB; revert n0_ n1_ n2_; intro HO471 HO474 HB; (try clear hb ho0); obtain ⟨Ao16, co16, eo16⟩ := cX HO474.out; subst eo16) | ((with_reducible refine cM (b := .append) (xs := #[.tmp 10, .tmp 12]) rfl ?_); at_builtin; refine eD (Kd.int .u8) (w0 := w) w.heap.size rfl (.tmp 10) (.tmp 12) 36 5 (.int .u8 0) 1 rfl Tryz.underlying36 info5 rfl z5_ z4_ v470 y469 t472 _ _ _ (fun k_ => nb_ k_ (.slice Ao16 t472.length co16)) (fun _ => False) rfl rfl ?aO ?aR (fun _ _ h => h) (fun _ h => h.elim) ?aF ?aB ?aS ?aL ?_; (case aR => exact cX_ (R_reads' HO474.out).2.2); (case aB => exact (Short.hB HB)); (case aF => exact (fun k_ hk => Kd.fresh' (R_lt (ZKR HO474)) k_ hk)); (case aO => exact (rM_ HO471 (fun _ hk => hk.2))); (case aS => exact (aC (Short.hB HB))); (case aL => have := LMc11.out; omega); intro v476 w_x2 ho hb hg hat; rw [← Ny475.out] at ho; have n0_ := mk_ (dT (ok := (fun _ => True)) (ZKR HO474) hg hat); have n1_ := mk_ (hb); have n2_ := mk_ (ho); clear HO474 HB HO471; revert n0_ n1_ n2_; intro HO474 HB HO477; clear ho hb hg hat) | ((with_reducible refine aY (N := 5) rfl ?_); refine R_lit (Kd.int .u8) _ 5 ?hg (N := 5) ?hd (xs := ([1] : List Int)) (inner := [.int .u8 1]) (ok := fun _ => True) (okp := fun _ => True) ?hr ?hp (fun _ hk => hk) trivial (Below.refl _ _) (Nat.le_refl _) z6_ ?_; (case hd => rfl); (case hg => rfl); (case hr => first | (go_simp; done) | (go_simp; rfl)); (case hp => exact (Reps.one (show Kd.M (Kd.int .u8) _ _ _ 1 [.int .u8 1] from rfl) (Reps.none _ _))); intro v461 w_5 ho6 hb hg_ hnew_; clear hg_ hnew_; (first | rw [← Ny460.out] at ho6 | (simp only [Int.reduceToNat] at ho6; rw [← Ny460.out] at ho6)); have n0_ := mk_ (bX ho6 (aC (Short.hB HB))); have n1_ := mk_ (aA (Short.hB HB) hb); clear HB; revert n0_ n1_; intro HO462 HB; clear hb ho6) | ((with_reducible refine aJ (f := 77) rfl ?_); refine Short.gL (some 8) Tryz.func77 #[.int .i64 (wrap64 (-a0)), .int .i64 8] (h := ?_); (with_reducible refine (bC.calls k (wrap64 (-a0)) 8 t463 _ A3.out).mono ?_); rintro e w_8 ⟨v464, rfl, ho0, hb⟩; refine ⟨_, rfl, ?_⟩; have n0_ := mk_ (R_elder' (ZKR HO462) (R_base ho0) hb); have n1_ := mk_ (bX (R_new' ho0 (R_lt (ZKR HO462))) (aC (Short.hB HB))); have n2_ := mk_ (aA (Short.hB HB) hb); clear HO462 HB; revert n0_ n1_ n2_; intro HO462 HO465 HB; (try clear hb ho0); obtain ⟨Ao9, co9, eo9⟩ := cX HO465.out; subst eo9) | ((with_reducible refine cM (b := .append) (xs := #[.tmp 5, .tmp 8]) rfl ?_); at_builtin; refine eD (Kd.int .u8) (w0 := w) w.heap.size rfl (.tmp 5) (.tmp 8) 36 5 (.int .u8 0) 1 rfl Tryz.underlying36 info5 rfl z5_ z4_ v461 y460 t463 _ _ _ (fun k_ => nb_ k_ (.slice Ao9 t463.length co9)) (fun _ => False) rfl rfl ?aO ?aR (fun _ _ h => h) (fun _ h => h.elim) ?aF ?aB ?aS ?aL ?_; (case aR => exact cX_ (R_reads' HO465.out).2.2); (case aB => exact (Short.hB HB)); (case aF => exact (fun k_ hk => Kd.fresh' (R_lt (ZKR HO465)) k_ hk)); (case aO => exact (rM_ HO462 (fun _ hk => hk.2))); (case aS => exact (aC (Short.hB HB))); (case aL => have := LMc4.out; omega); intro v467 w_x2 ho hb hg hat; rw [← Ny466.out] at ho; have n0_ := mk_ (dT (ok := (fun _ => True)) (ZKR HO465) hg hat); have n1_ := mk_ (hb); have n2_ := mk_ (ho); clear HO465 HB HO462; revert n0_ n1_ n2_; intro HO465 HB HO468; clear ho hb hg hat))
  go_ret
  first | exact ⟨_, by first | rfl | (simp [bA, bB] <;> rfl) | (simp [*, bA, bB] <;> rfl), by (with_reducible repeat (first | apply R_alloc | apply R_drewN | apply R_drew)); exact R_mono HO477.out (fun _ hk => trivial), Short.hB HB⟩ | exact ⟨_, by first | rfl | (simp [bA, bB] <;> rfl) | (simp [*, bA, bB] <;> rfl), by (with_reducible repeat (first | apply R_alloc | apply R_drewN | apply R_drew)); exact R_mono HO468.out (fun _ hk => trivial), Short.hB HB⟩
end Go.Proofs.YtjnjfogfpmeacaaGreat.PAll
end
section
namespace Go.Proofs.YtjnjfogfpmeacaaGreat.PAll
open Go.RowKit PrintWords PrintLast PrintMore ZipT PrintWords.Kd PrintMore.Kd
attribute [local go_sem] eE eG eX eY dQ dP eF eC   -- for this text's walks alone
set_option linter.unusedVariables false
set_option linter.unusedSimpArgs false
def cB.f (k : Nat) (a0_0 : Int) (a0_1 : Int) (a0_2 : ByteArray) : Option (List Int) := (some (([(a0_0) % 256] : List Int) : List Int)).bind fun y479 => (if a0_0 = 2 then (if y479.length < 140737488355328 then (some (y479 ++ [(a0_1) % 256])) else (none)) else (if a0_0 = 3 then ((dN.f k a0_1).bind fun t485 => (if y479.length + t485.length < 140737488355328 then (some (y479 ++ t485)) else (none))) else (if a0_0 = 4 then (if y479.length < 140737488355328 then ((some (y479 ++ [((a0_2.size : Int)) % 256] : List Int)).bind fun y491 => (if y491.length + a0_2.size < 140737488355328 then (some (y491 ++ bytesOf a0_2)) else (none))) else (none)) else (some y479))))
def cB.T8 : Bool × List (List Nat × List Nat) := (true, [([], []), ([], []), ([1], [1]), ([2], [2]), ([3], [3]), ([4], [4]), ([0, 5], [0, 5]), ([], []), ([7], [7]), ([6, 8, 6], [6, 8]), ([9, 9, 0, 1, 2, 3, 4, 5, 6, 7, 8, 9], [0, 9])])
def cB.B8 : List Nat := [0, 0, 2, 6, 14, 30, 63, 0, 128, 511, 1023]
theorem cB.tab8 : rtab .any (opsOf Tryz.f78 8) = cB.T8 := by kernel_rfl
theorem cB.bits8 : waitsOk cB.T8.2 cB.B8 = true := by kernel_rfl
theorem cB.calls (k : Nat) (a0_0 : Int) (a0_1 : Int) (a0_2 : ByteArray) (r : List Int) (w : World) (h : cB.f k a0_0 a0_1 a0_2 = some r) :
  Calls Tryz.prog 78 #[.agg #[.int .i64 a0_0, .int .i64 a0_1, .string a0_2]] w fun e w' => ∃ v0_ : Value, e = .returned (v0_) ∧ Kd.R (Kd.int .u8) 5 w' w.heap.size (fun _ => True) v0_ r ∧ Below w.heap.size w w' := by
 have hu102 := Tryz.underlying102
 have HB := mk_ (Below.refl w.heap.size w)
 have H : ((some (([(a0_0) % 256] : List Int) : List Int)).bind fun y479 => (if a0_0 = 2 then (if y479.length < 140737488355328 then (some (y479 ++ [(a0_1) % 256])) else (none)) else (if a0_0 = 3 then ((dN.f k a0_1).bind fun t485 => (if y479.length + t485.length < 140737488355328 then (some (y479 ++ t485)) else (none))) else (if a0_0 = 4 then (if y479.length < 140737488355328 then ((some (y479 ++ [((a0_2.size : Int)) % 256] : List Int)).bind fun y491 => (if y491.length + a0_2.size < 140737488355328 then (some (y491 ++ bytesOf a0_2)) else (none))) else (none)) else (some y479))))) = some r := h
 clear h
 obtain ⟨y479, hy479⟩ : ∃ y_ : List Int, y_ = (([(a0_0) % 256] : List Int)) := ⟨_, rfl⟩
 replace H : (if a0_0 = 2 then (if y479.length < 140737488355328 then (some (y479 ++ [(a0_1) % 256])) else (none)) else (if a0_0 = 3 then ((dN.f k a0_1).bind fun t485 => (if y479.length + t485.length < 140737488355328 then (some (y479 ++ t485)) else (none))) else (if a0_0 = 4 then (if y479.length < 140737488355328 then ((some (y479 ++ [((a0_2.size : Int)) % 256] : List Int)).bind fun y491 => (if y491.length + a0_2.size < 140737488355328 then (some (y491 ++ bytesOf a0_2)) else (none))) else (none)) else (some y479)))) = some r := by first | (rw [hy479]; with_reducible exact H) | (have H2_ := (Option.bind_some _ _).symm.trans H; rw [hy479]; with_reducible exact H2_) | (have H2_ := (Option.bind_some _ _).symm.trans H; with_reducible exact H2_) | with_reducible exact H | (rw [hy479]; exact H) | exact H
 have Ny479 := mk_ hy479
 clear hy479
 by_cases c2 : a0_0 = 2
 ·
  rw [if_pos c2] at H
  have c2b0 : (a0_0 == 2) = true := beq_iff_eq.mpr c2
  have c2b1 : (a0_0 != 2) = false := bne_eq_false_iff_eq.mpr c2
  clear c2
  by_cases c3 : y479.length < 140737488355328
  rotate_left
  ·
   rw [if_neg c3] at H
   exact absurd H z6_
  rw [if_pos c3] at H
  have LMc3 := mk_ c3
  clear c3
  obtain ⟨y482, hy482⟩ : ∃ y_ : List Int, y_ = (y479 ++ [(a0_1) % 256]) := ⟨_, rfl⟩
  replace H : (some y482) = some r := by first | (rw [hy482]; with_reducible exact H) | (have H2_ := (Option.bind_some _ _).symm.trans H; rw [hy482]; with_reducible exact H2_) | (have H2_ := (Option.bind_some _ _).symm.trans H; with_reducible exact H2_) | with_reducible exact H | (rw [hy482]; exact H) | exact H
  have Ny482 := mk_ hy482
  clear hy482
  obtain rfl := Option.some.inj H
  go_enter Tryz.func78, Tryz.ntmps78
  go_wp2_with (first | ((with_reducible refine aY (N := 1) rfl ?_); refine aZ ?hg (N := 1) ?hd (cs := #[.int .i64 a0_0, .int .i64 a0_1, .string a0_2]) (t := 102) ?hr ?_; (case hd => rfl); (case hg => rfl); (case hr => first | (go_simp; done) | (go_simp; rfl)); intro gb478 hg w4 hbox hb; have n0_ := mk_ (aA (Short.hB HB) hb); have n1_ := mk_ (hbox); have n2_ := mk_ ((by rw [hg]; exact (aC (Short.hB HB)) : w.heap.size ≤ gb478)); have n3_ := mk_ ((by rw [hg]; exact (aC (Short.hB HB)) : w.heap.size ≤ gb478)); clear HB; revert n0_ n1_ n2_ n3_; intro HB BK478 GW478 GE478; clear hb hbox hg; obtain ⟨hcz_0, hcz_1, hcz_2, hfz_0, hfz_1, hfz_2⟩ := Short.c3 BK478.out) | ((with_reducible refine aY (N := 7) rfl ?_); refine R_lit (Kd.int .u8) _ 5 ?hg (N := 7) ?hd (xs := ([(a0_0) % 256] : List Int)) (inner := [.int .u8 ((a0_0) % 256)]) (ok := fun _ => True) (okp := fun _ => True) ?hr ?hp (fun _ hk => hk) trivial (Below.refl _ _) (Nat.le_refl _) z6_ ?_; (case hd => rfl); (case hg => rfl); (case hr => first | (go_simp; done) | (go_simp; rfl)); (case hp => exact (Reps.one (show Kd.M (Kd.int .u8) _ _ _ ((a0_0) % 256) [.int .u8 ((a0_0) % 256)] from rfl) (Reps.none _ _))); intro v480 w6 ho7 hb hg_ hnew_; clear hg_ hnew_; (first | rw [← Ny479.out] at ho7 | (simp only [Int.reduceToNat] at ho7; rw [← Ny479.out] at ho7)); have n0_ := mk_ (bX ho7 (aC (Short.hB HB))); have n1_ := mk_ (bB_ BK478 hb); have n2_ := mk_ (aA (Short.hB HB) hb); clear BK478 HB; revert n0_ n1_ n2_; intro HO481 BK478 HB; clear hb ho7; obtain ⟨hcz_0, hcz_1, hcz_2, hfz_0, hfz_1, hfz_2⟩ := Short.c3 BK478.out) | ((with_reducible refine cM (b := .append) (xs := #[.tmp 12, .tmp 16]) rfl ?_); at_builtin; refine fR (Kd.int .u8) (w0 := w) w.heap.size rfl (.tmp 12) (.tmp 16) 36 5 (.int .u8 0) 1 rfl Tryz.underlying36 info5 rfl z5_ z4_ v480 y479 ((a0_1) % 256) [.int .u8 ((a0_1) % 256)] (fun _ => True) (fun _ => False) rfl rfl ?aP (fun _ hk => hk.elim) ?aF ?aO ?aB ?aS ?aL ?_; (case aP => exact rfl); (case aB => exact (Short.hB HB)); (case aF => exact (fun _ _ => trivial)); (case aO => exact (ZKR HO481)); (case aS => exact (aC (Short.hB HB))); (case aL => have := LMc3.out; omega); intro v483 w9 ho hb hg hat; rw [← Ny482.out] at ho; have n0_ := mk_ (dJ (g := gb478) (o := .cells #[.int .i64 a0_0, .int .i64 a0_1, .string a0_2] 102 (0, 0)) (Short.bK BK478) hg (R_ne HO481.out BK478.out z5_)); have n1_ := mk_ (hb); have n2_ := mk_ (ho); clear BK478 HB HO481; revert n0_ n1_ n2_; intro BK478 HB HO484; clear ho hb hg hat))
  go_ret
  exact ⟨_, by first | rfl | (simp [bA, bB] <;> rfl) | (simp [*, bA, bB] <;> rfl), by (with_reducible repeat (first | apply R_alloc | apply R_drewN | apply R_drew)); exact HO484.out, Short.hB HB⟩
 rw [if_neg c2] at H
 have c2b0 : (a0_0 == 2) = false := beq_eq_false_iff_ne.mpr c2
 have c2b1 : (a0_0 != 2) = true := bne_iff_ne.mpr c2
 by_cases c10 : a0_0 = 3
 ·
  rw [if_pos c10] at H
  have c10b0 : (a0_0 == 3) = true := beq_iff_eq.mpr c10
  have c10b1 : (a0_0 != 3) = false := bne_eq_false_iff_eq.mpr c10
  clear c10
  obtain ⟨t485, A11, H⟩ := Option.bind_eq_some_iff.mp H
  replace A11 := mk_ A11
  by_cases c12 : y479.length + t485.length < 140737488355328
  rotate_left
  ·
   rw [if_neg c12] at H
   exact absurd H z6_
  rw [if_pos c12] at H
  have LMc12 := mk_ c12
  clear c12
  obtain ⟨y488, hy488⟩ : ∃ y_ : List Int, y_ = (y479 ++ t485) := ⟨_, rfl⟩
  replace H : (some y488) = some r := by first | (rw [hy488]; with_reducible exact H) | (have H2_ := (Option.bind_some _ _).symm.trans H; rw [hy488]; with_reducible exact H2_) | (have H2_ := (Option.bind_some _ _).symm.trans H; with_reducible exact H2_) | with_reducible exact H | (rw [hy488]; exact H) | exact H
  have Ny488 := mk_ hy488
  clear hy488
  obtain rfl := Option.some.inj H
  go_enter Tryz.func78, Tryz.ntmps78
  go_wp2_with (first | ((with_reducible refine aY (N := 1) rfl ?_); refine aZ ?hg (N := 1) ?hd (cs := #[.int .i64 a0_0, .int .i64 a0_1, .string a0_2]) (t := 102) ?hr ?_; (case hd => rfl); (case hg => rfl); (case hr => first | (go_simp; done) | (go_simp; rfl)); intro gb478 hg w13 hbox hb; have n0_ := mk_ (aA (Short.hB HB) hb); have n1_ := mk_ (hbox); have n2_ := mk_ ((by rw [hg]; exact (aC (Short.hB HB)) : w.heap.size ≤ gb478)); have n3_ := mk_ ((by rw [hg]; exact (aC (Short.hB HB)) : w.heap.size ≤ gb478)); clear HB; revert n0_ n1_ n2_ n3_; intro HB BK478 GW478 GE478; clear hb hbox hg; obtain ⟨hcz_0, hcz_1, hcz_2, hfz_0, hfz_1, hfz_2⟩ := Short.c3 BK478.out) | ((with_reducible refine aY (N := 7) rfl ?_); refine R_lit (Kd.int .u8) _ 5 ?hg (N := 7) ?hd (xs := ([(a0_0) % 256] : List Int)) (inner := [.int .u8 ((a0_0) % 256)]) (ok := fun _ => True) (okp := fun _ => True) ?hr ?hp (fun _ hk => hk) trivial (Below.refl _ _) (Nat.le_refl _) z6_ ?_; (case hd => rfl); (case hg => rfl); (case hr => first | (go_simp; done) | (go_simp; rfl)); (case hp => exact (Reps.one (show Kd.M (Kd.int .u8) _ _ _ ((a0_0) % 256) [.int .u8 ((a0_0) % 256)] from rfl) (Reps.none _ _))); intro v480 w15 ho16 hb hg_ hnew_; clear hg_ hnew_; (first | rw [← Ny479.out] at ho16 | (simp only [Int.reduceToNat] at ho16; rw [← Ny479.out] at ho16)); have n0_ := mk_ (bX ho16 (aC (Short.hB HB))); have n1_ := mk_ (bB_ BK478 hb); have n2_ := mk_ (aA (Short.hB HB) hb); clear BK478 HB; revert n0_ n1_ n2_; intro HO481 BK478 HB; clear hb ho16; obtain ⟨hcz_0, hcz_1, hcz_2, hfz_0, hfz_1, hfz_2⟩ := Short.c3 BK478.out) | ((with_reducible refine aJ (f := 94) rfl ?_); refine Short.gL (some 23) Tryz.func94 #[.int .i64 a0_1] (h := ?_); (with_reducible refine (dN.calls k a0_1 t485 _ A11.out).mono ?_); rintro e w18 ⟨v486, rfl, ho0, hb⟩; refine ⟨_, rfl, ?_⟩; have n0_ := mk_ (R_elder' (ZKR HO481) (R_base ho0) hb); have n1_ := mk_ (bX (R_new' ho0 (R_lt (ZKR HO481))) (aC (Short.hB HB))); have n2_ := mk_ (bB_ BK478 hb); have n3_ := mk_ (aA (Short.hB HB) hb); clear HO481 BK478 HB; revert n0_ n1_ n2_ n3_; intro HO481 HO487 BK478 HB; (try clear hb ho0); obtain ⟨Ao20, co20, eo20⟩ := cX HO487.out; subst eo20) | ((with_reducible refine cM (b := .append) (xs := #[.tmp 20, .tmp 23]) rfl ?_); at_builtin; refine eD (Kd.int .u8) (w0 := w) w.heap.size rfl (.tmp 20) (.tmp 23) 36 5 (.int .u8 0) 1 rfl Tryz.underlying36 info5 rfl z5_ z4_ v480 y479 t485 _ _ _ (fun k_ => nb_ k_ (.slice Ao20 t485.length co20)) (fun _ => False) rfl rfl ?aO ?aR (fun _ _ h => h) (fun _ h => h.elim) ?aF ?aB ?aS ?aL ?_; (case aR => exact cX_ (R_reads' HO487.out).2.2); (case aB => exact (Short.hB HB)); (case aF => exact (fun k_ hk => Kd.fresh' (R_lt (ZKR HO487)) k_ hk)); (case aO => exact (rM_ HO481 (fun _ hk => hk.2))); (case aS => exact (aC (Short.hB HB))); (case aL => have := LMc12.out; omega); intro v489 w19 ho hb hg hat; rw [← Ny488.out] at ho; have n0_ := mk_ (dJ (g := gb478) (o := .cells #[.int .i64 a0_0, .int .i64 a0_1, .string a0_2] 102 (0, 0)) (Short.bK BK478) hg (R_ne HO481.out BK478.out z5_)); have n1_ := mk_ (dT (ok := (fun _ => True)) (ZKR HO487) hg hat); have n2_ := mk_ (hb); have n3_ := mk_ (ho); clear BK478 HO487 HB HO481; revert n0_ n1_ n2_ n3_; intro BK478 HO487 HB HO490; clear ho hb hg hat))
  go_ret
  exact ⟨_, by first | rfl | (simp [bA, bB] <;> rfl) | (simp [*, bA, bB] <;> rfl), by (with_reducible repeat (first | apply R_alloc | apply R_drewN | apply R_drew)); exact R_mono HO490.out (fun _ hk => trivial), Short.hB HB⟩
 rw [if_neg c10] at H
 have c10b0 : (a0_0 == 3) = false := beq_eq_false_iff_ne.mpr c10
 have c10b1 : (a0_0 != 3) = true := bne_iff_ne.mpr c10
 by_cases c21 : a0_0 = 4
 rotate_left
 ·
  rw [if_neg c21] at H
  have c21b0 : (a0_0 == 4) = false := beq_eq_false_iff_ne.mpr c21
  have c21b1 : (a0_0 != 4) = true := bne_iff_ne.mpr c21
  obtain rfl := Option.some.inj H
  go_enter Tryz.func78, Tryz.ntmps78
  go_wp2_with (first | ((with_reducible refine aY (N := 1) rfl ?_); refine aZ ?hg (N := 1) ?hd (cs := #[.int .i64 a0_0, .int .i64 a0_1, .string a0_2]) (t := 102) ?hr ?_; (case hd => rfl); (case hg => rfl); (case hr => first | (go_simp; done) | (go_simp; rfl)); intro gb478 hg w32 hbox hb; have n0_ := mk_ (aA (Short.hB HB) hb); have n1_ := mk_ (hbox); have n2_ := mk_ ((by rw [hg]; exact (aC (Short.hB HB)) : w.heap.size ≤ gb478)); have n3_ := mk_ ((by rw [hg]; exact (aC (Short.hB HB)) : w.heap.size ≤ gb478)); clear HB; revert n0_ n1_ n2_ n3_; intro HB BK478 GW478 GE478; clear hb hbox hg; obtain ⟨hcz_0, hcz_1, hcz_2, hfz_0, hfz_1, hfz_2⟩ := Short.c3 BK478.out) | ((with_reducible refine aY (N := 7) rfl ?_); refine R_lit (Kd.int .u8) _ 5 ?hg (N := 7) ?hd (xs := ([(a0_0) % 256] : List Int)) (inner := [.int .u8 ((a0_0) % 256)]) (ok := fun _ => True) (okp := fun _ => True) ?hr ?hp (fun _ hk => hk) trivial (Below.refl _ _) (Nat.le_refl _) z6_ ?_; (case hd => rfl); (case hg => rfl); (case hr => first | (go_simp; done) | (go_simp; rfl)); (case hp => exact (Reps.one (show Kd.M (Kd.int .u8) _ _ _ ((a0_0) % 256) [.int .u8 ((a0_0) % 256)] from rfl) (Reps.none _ _))); intro v480 w34 ho35 hb hg_ hnew_; clear hg_ hnew_; (first | rw [← Ny479.out] at ho35 | (simp only [Int.reduceToNat] at ho35; rw [← Ny479.out] at ho35)); have n0_ := mk_ (bX ho35 (aC (Short.hB HB))); have n1_ := mk_ (bB_ BK478 hb); have n2_ := mk_ (aA (Short.hB HB) hb); clear BK478 HB; revert n0_ n1_ n2_; intro HO481 BK478 HB; clear hb ho35; obtain ⟨hcz_0, hcz_1, hcz_2, hfz_0, hfz_1, hfz_2⟩ := Short.c3 BK478.out))
  go_ret
  exact ⟨_, by first | rfl | (simp [bA, bB] <;> rfl) | (simp [*, bA, bB] <;> rfl), by (with_reducible repeat (first | apply R_alloc | apply R_drewN | apply R_drew)); exact HO481.out, Short.hB HB⟩
 rw [if_pos c21] at H
 have c21b0 : (a0_0 == 4) = true := beq_iff_eq.mpr c21
 have c21b1 : (a0_0 != 4) = false := bne_eq_false_iff_eq.mpr c21
 clear c21
 by_cases c22 : y479.length < 140737488355328
 rotate_left
 ·
  rw [if_neg c22] at H
  exact absurd H z6_
 rw [if_pos c22] at H
 have LMc22 := mk_ c22
 clear c22
 obtain ⟨y491, hy491⟩ : ∃ y_ : List Int, y_ = (y479 ++ [((a0_2.size : Int)) % 256]) := ⟨_, rfl⟩
 replace H : (if y491.length + a0_2.size < 140737488355328 then (some (y491 ++ bytesOf a0_2)) else (none)) = some r := by first | (rw [hy491]; with_reducible exact H) | (have H2_ := (Option.bind_some _ _).symm.trans H; rw [hy491]; with_reducible exact H2_) | (have H2_ := (Option.bind_some _ _).symm.trans H; with_reducible exact H2_) | with_reducible exact H | (rw [hy491]; exact H) | exact H
 have Ny491 := mk_ hy491
 clear hy491
 by_cases c23 : y491.length + a0_2.size < 140737488355328
 rotate_left
 ·
  rw [if_neg c23] at H
  exact absurd H z6_
 rw [if_pos c23] at H
 have LMc23 := mk_ c23
 clear c23
 obtain ⟨y494, hy494⟩ : ∃ y_ : List Int, y_ = (y491 ++ bytesOf a0_2) := ⟨_, rfl⟩
 replace H : (some y494) = some r := by first | (rw [hy494]; with_reducible exact H) | (have H2_ := (Option.bind_some _ _).symm.trans H; rw [hy494]; with_reducible exact H2_) | (have H2_ := (Option.bind_some _ _).symm.trans H; with_reducible exact H2_) | with_reducible exact H | (rw [hy494]; exact H) | exact H
 have Ny494 := mk_ hy494
 clear hy494
 obtain rfl := Option.some.inj H
 go_enter Tryz.func78, Tryz.ntmps78
 try go_wp2_with (first | ((with_reducible refine aY (N := 1) rfl ?_); refine aZ ?hg (N := 1) ?hd (cs := #[.int .i64 a0_0, .int .i64 a0_1, .string a0_2]) (t := 102) ?hr ?_; (case hd => rfl); (case hg => rfl); (case hr => first | (go_simp; done) | (go_simp; rfl)); intro gb478 hg w24 hbox hb; have n0_ := mk_ (aA (Short.hB HB) hb); have n1_ := mk_ (hbox); have n2_ := mk_ ((by rw [hg]; exact (aC (Short.hB HB)) : w.heap.size ≤ gb478)); have n3_ := mk_ ((by rw [hg]; exact (aC (Short.hB HB)) : w.heap.size ≤ gb478)); clear HB; revert n0_ n1_ n2_ n3_; intro HB BK478 GW478 GE478; clear hb hbox hg; obtain ⟨hcz_0, hcz_1, hcz_2, hfz_0, hfz_1, hfz_2⟩ := Short.c3 BK478.out) | ((with_reducible refine aY (N := 7) rfl ?_); refine R_lit (Kd.int .u8) _ 5 ?hg (N := 7) ?hd (xs := ([(a0_0) % 256] : List Int)) (inner := [.int .u8 ((a0_0) % 256)]) (ok := fun _ => True) (okp := fun _ => True) ?hr ?hp (fun _ hk => hk) trivial (Below.refl _ _) (Nat.le_refl _) z6_ ?_; (case hd => rfl); (case hg => rfl); (case hr => first | (go_simp; done) | (go_simp; rfl)); (case hp => exact (Reps.one (show Kd.M (Kd.int .u8) _ _ _ ((a0_0) % 256) [.int .u8 ((a0_0) % 256)] from rfl) (Reps.none _ _))); intro v480 w26 ho27 hb hg_ hnew_; clear hg_ hnew_; (first | rw [← Ny479.out] at ho27 | (simp only [Int.reduceToNat] at ho27; rw [← Ny479.out] at ho27)); have n0_ := mk_ (bX ho27 (aC (Short.hB HB))); have n1_ := mk_ (bB_ BK478 hb); have n2_ := mk_ (aA (Short.hB HB) hb); clear BK478 HB; revert n0_ n1_ n2_; intro HO481 BK478 HB; clear hb ho27; obtain ⟨hcz_0, hcz_1, hcz_2, hfz_0, hfz_1, hfz_2⟩ := Short.c3 BK478.out))
 have n0_ := mk_ (R_drew HO481.out)
 have n1_ := mk_ (aH BK478.out)
 have n2_ := mk_ (dG HB.out)
 clear HO481 BK478 HB
 revert n0_ n1_ n2_
 intro HO481 BK478 HB
 refine fM (n := 11) (S := fun w' => w'.cell? ⟨gb478, 0, none⟩ = some (.int .i64 a0_0) ∧ w'.cell? ⟨gb478, 1, none⟩ = some (.int .i64 a0_1) ∧ w'.cell? ⟨gb478, 2, none⟩ = some (.string a0_2)) (ds := []) (Steps.Bs 11 0) z2_ rfl rfl ⟨kc_ BK478 0, kc_ BK478 1, kc_ BK478 2⟩ (fun hHeld => ?_); refine dA cB.tab8 cB.bits8 (fun HT_ HW_ => ?_)
 generalize w26.drew = w29 at HO481 BK478 HB hHeld ⊢
 refine tI HT_ 0 27 11 1 ?_
 refine tI HT_ 1 28 11 3 ?_
 refine tI HT_ 7 34 11 131 ?_
 refine tT HT_ HW_ hHeld 2 29 11 135 ?_
 refine tI HT_ 3 30 11 143 ?_
 refine tI HT_ 4 31 11 159 ?_
 refine tT HT_ HW_ hHeld 8 35 11 415 ?_
 refine one_ (i := 5) (N := some 32) (Steps.Bs 11 447) rfl rfl (cC HT_.out z2_) z5_ (fun K hK => ?_)
 refine value_ (w1 := ?_) (v := ?_) (by rfl) rfl ?_ ?_
 rotate_left 2
 ·
  go_simp
  constructor
  ·
   rfl
  ·
   rfl
 refine hK.out _ _ ⟨(aD (aE BK478.out _) 0).trans rfl, (aD (aE BK478.out _) 1).trans rfl, (aD (aE BK478.out _) 2).trans rfl⟩ (fun hHeld => ?_)
 clear hK K
 refine nrm 32 ?_
 refine one_ (i := 6) (N := some 33) (Steps.Bs 11 511) rfl rfl (cC HT_.out z2_) z5_ (fun K hK => ?_)
 refine iJ (Kd.int .u8) (w0 := w) w.heap.size (by rfl) (.tmp 27) (.tmp 32) 36 5 (.int .u8 0) 1 rfl Tryz.underlying36 info5 rfl z5_ z4_ v480 y479 (((a0_2.size : Int)) % 256) [.int .u8 (((a0_2.size : Int)) % 256)] (fun _ => True) (fun _ => False) rfl rfl ?aP (fun _ hk => hk.elim) ?aF ?aO ?aB ?aS ?aL ?_
 (case aP => exact rfl)
 (case aB => exact (Short.hB HB))
 (case aF => exact (fun _ _ => trivial))
 (case aO => exact (ZKR HO481))
 (case aS => exact (aC (Short.hB HB)))
 (case aL => have := LMc22.out; omega)
 intro v492 w30 ho hb hg hat
 rw [← Ny491.out] at ho
 have n0_ := mk_ (dJ (g := gb478) (o := .cells #[.int .i64 a0_0, .int .i64 a0_1, .string a0_2] 102 (0, 0)) (Short.bK BK478) hg (R_ne HO481.out BK478.out z5_))
 have n1_ := mk_ (hb)
 have n2_ := mk_ (ho)
 clear BK478 HB HO481
 revert n0_ n1_ n2_
 intro BK478 HB HO493
 clear ho hb hg hat
 refine hK.out _ _ ⟨kc_ BK478 0, kc_ BK478 1, kc_ BK478 2⟩ (fun hHeld => ?_)
 clear hK K
 refine nrm 33 ?_
 refine one_ (i := 9) (N := some 36) (Steps.Bs 11 1023) rfl rfl (cC HT_.out z2_) z5_ (fun K hK => ?_)
 refine Go.Proofs.YtjnjfogfpmeacaaGreat.Steps.append_str_step (w0 := w) w.heap.size (by rfl) (.tmp 33) _ 36 9 5 rfl Tryz.underlying36 Tryz.underlying9 info5 v492 y491 a0_2 rfl rfl ?aO ?aB ?aS ?aL ?_
 (case aB => exact (Short.hB HB))
 (case aO => exact (Kd.own_of_R (ZKR HO493)))
 (case aS => exact (aC (Short.hB HB)))
 (case aL => have := LMc23.out; omega)
 intro v495 w31 ho0 hb hg
 have ho := R_of_own (h1 := fun _ => rfl) (ok := fun _ => True) ho0 (fun _ _ => trivial)
 clear ho0
 have hat := True.intro
 rw [← Ny494.out] at ho
 change Kd.R (Kd.int .u8) 5 w31 w.heap.size (fun _ => True) v495 y494 at ho
 have n0_ := mk_ (dJ (g := gb478) (o := .cells #[.int .i64 a0_0, .int .i64 a0_1, .string a0_2] 102 (0, 0)) (Short.bK BK478) hg (R_ne HO493.out BK478.out z5_))
 have n1_ := mk_ (hb)
 have n2_ := mk_ (ho)
 clear BK478 HB HO493
 revert n0_ n1_ n2_
 intro BK478 HB HO496
 clear ho hb hg hat
 refine hK.out _ _ ⟨kc_ BK478 0, kc_ BK478 1, kc_ BK478 2⟩ (fun hHeld => ?_)
 clear hK K
 refine nrm 36 ?_
 refine tI HT_ 10 3 11 2047 ?_
 refine done_ (cE HT_.out z2_) ?_
 try go_wp2
 go_ret
 exact ⟨_, by first | rfl | (simp [bA, bB] <;> rfl) | (simp [*, bA, bB] <;> rfl), by (with_reducible repeat (first | apply R_alloc | apply R_drewN | apply R_drew)); exact HO496.out, Short.hB HB⟩
def bE.l0 : Nat → List (S102) → List Int → Int → Option (List Int)
 | 0, _, _, _ => none
 | k + 1, x0, x3, x4 => if x4 < (x0.length : Int) then (if 0 ≤ x4 then ((cB.f k ((aK x0 x4).f0) ((aK x0 x4).f1) ((aK x0 x4).f2)).bind fun t501 => (if x3.length + t501.length < 140737488355328 then (bE.l0 k x0 (x3 ++ t501) (wrap64 (x4 + 1))) else (none))) else (none)) else (some x3)
def bE.f (k : Nat) (l0 : List (S102)) : Option (List Int) := bE.l0 k l0 (([((l0.length : Int)) % 256] : List Int)) 0
theorem bE.calls (k : Nat) (A0 : Option Addr) (c0 : Nat) (l0 : List (S102)) (r : List Int) (w : World) (hr0 : Kd.C k102 w A0 l0.length l0) (hc0 : l0.length ≤ c0) (h : bE.f k l0 = some r) :
  Calls Tryz.prog 48 #[.slice A0 l0.length c0] w fun e w' => ∃ v0_ : Value, e = .returned (v0_) ∧ Kd.R (Kd.int .u8) 5 w' w.heap.size (fun _ => True) v0_ r ∧ Below w.heap.size w w' := by
 have hu102 := Tryz.underlying102
 have HR0 := mk_ hr0
 have HC0 := mk_ hc0
 clear hr0 hc0
 have HB := mk_ (Below.refl w.heap.size w)
 have H : (bE.l0 k l0 (([((l0.length : Int)) % 256] : List Int)) 0) = some r := h
 clear h
 obtain ⟨y497, hy497⟩ : ∃ y_ : List Int, y_ = (([((l0.length : Int)) % 256] : List Int)) := ⟨_, rfl⟩
 replace H : (bE.l0 k l0 y497 0) = some r := by first | (rw [hy497]; with_reducible exact H) | (have H2_ := (Option.bind_some _ _).symm.trans H; rw [hy497]; with_reducible exact H2_) | (have H2_ := (Option.bind_some _ _).symm.trans H; with_reducible exact H2_) | with_reducible exact H | (rw [hy497]; exact H) | exact H
 have Ny497 := mk_ hy497
 clear hy497
 have H' := mk_ H
 clear H
 go_enter Tryz.func48, Tryz.ntmps48
 go_wp2_with (first | ((with_reducible refine aY (N := 8) rfl ?_); refine R_lit (Kd.int .u8) _ 5 ?hg (N := 8) ?hd (xs := ([((l0.length : Int)) % 256] : List Int)) (inner := [.int .u8 (((l0.length : Int)) % 256)]) (ok := fun _ => True) (okp := fun _ => True) ?hr ?hp (fun _ hk => hk) trivial (Below.refl _ _) (Nat.le_refl _) z6_ ?_; (case hd => rfl); (case hg => rfl); (case hr => first | (go_simp; done) | (go_simp; rfl)); (case hp => exact (Reps.one (show Kd.M (Kd.int .u8) _ _ _ (((l0.length : Int)) % 256) [.int .u8 (((l0.length : Int)) % 256)] from rfl) (Reps.none _ _))); intro v498 w2 ho3 hb hg_ hnew_; clear hg_ hnew_; (first | rw [← Ny497.out] at ho3 | (simp only [Int.reduceToNat] at ho3; rw [← Ny497.out] at ho3)); have n0_ := mk_ (bX ho3 (aC (Short.hB HB))); have n1_ := mk_ (aA (Short.hB HB) hb); clear HB; revert n0_ n1_; intro HO499 HB; clear hb ho3))
 go_loopg [3, 4] k (fun kq v3 v4 w' => ∃ (x3_1 : List Int) (x4_1 : Int), v4 = .int .i64 x4_1 ∧ Aside0 (bE.l0 kq l0 x3_1 x4_1 = some r) ∧ Aside0 (kq ≤ k) ∧ Aside0 (Kd.R (Kd.int .u8) 5 w' w.heap.size (fun _ => True) v3 x3_1) ∧ Aside0 (Below w.heap.size w w'))
 case atStart => exact ⟨(y497), (0), z3_, H', ⟨Nat.le_refl _⟩, ⟨by (with_reducible repeat (first | apply R_alloc | apply R_drewN | apply R_drew)); exact HO499.out⟩, ⟨Short.hB HB⟩⟩
 case round =>
  clear H'
  try clear p2
  obtain ⟨x3_1, x4_1, rfl, HA, HK1, HO_3, HB⟩ := hrel
  cases gk with
  | zero => exact absurd HA.out (by simp [bE.l0])
  | succ k1 =>
   have H := HA.out
   clear HA
   simp only [bE.l0] at H
   by_cases c4 : x4_1 < (l0.length : Int)
   rotate_left
   ·
    rw [if_neg c4] at H
    have c4b0 : decide (x4_1 < (l0.length : Int)) = false := decide_eq_false c4
    clear c4
    obtain rfl := Option.some.inj H
    go_wp2
    go_ret
    exact ⟨_, by first | rfl | (simp [bA, bB] <;> rfl) | (simp [*, bA, bB] <;> rfl), by (with_reducible repeat (first | apply R_alloc | apply R_drewN | apply R_drew)); exact HO_3.out, Short.hB HB⟩
   rw [if_pos c4] at H
   have c4b0 : decide (x4_1 < (l0.length : Int)) = true := decide_eq_true c4
   clear c4
   by_cases c5 : 0 ≤ x4_1
   rotate_left
   ·
    rw [if_neg c5] at H
    exact absurd H z6_
   rw [if_pos c5] at H
   have c5b0 : decide (0 ≤ x4_1) = true := decide_eq_true c5
   clear c5
   obtain ⟨t501, A6, H⟩ := Option.bind_eq_some_iff.mp H
   replace A6 := mk_ A6
   by_cases c7 : x3_1.length + t501.length < 140737488355328
   rotate_left
   ·
    rw [if_neg c7] at H
    exact absurd H z6_
   rw [if_pos c7] at H
   have LMc7 := mk_ c7
   clear c7
   obtain ⟨y504, hy504⟩ : ∃ y_ : List Int, y_ = (x3_1 ++ t501) := ⟨_, rfl⟩
   replace H : (bE.l0 k1 l0 y504 (wrap64 (x4_1 + 1))) = some r := by first | (rw [hy504]; with_reducible exact H) | (have H2_ := (Option.bind_some _ _).symm.trans H; rw [hy504]; with_reducible exact H2_) | (have H2_ := (Option.bind_some _ _).symm.trans H; with_reducible exact H2_) | with_reducible exact H | (rw [hy504]; exact H) | exact H
   have Ny504 := mk_ hy504
   clear hy504
   have H' := mk_ H
   clear H
   have p500 : 0 ≤ (x4_1 : Int) := of_decide_eq_true z1_
   have q500 : x4_1 < (l0.length : Int) := of_decide_eq_true z1_
   obtain ⟨ad500, e500, hx500_0, hx500_1, hx500_2⟩ := fI HR0.out x4_1 p500 q500
   cases e500
   replace hx500_0 := up_ HB hx500_0
   replace hx500_1 := up_ HB hx500_1
   replace hx500_2 := up_ HB hx500_2
   replace p500 := eq_true p500
   replace q500 := eq_true q500
   go_wp2_with (first | ((with_reducible refine aJ (f := 78) rfl ?_); refine Short.gL (some 20) Tryz.func78 #[.agg #[.int .i64 ((aK l0 x4_1).f0), .int .i64 ((aK l0 x4_1).f1), .string ((aK l0 x4_1).f2)]] (h := ?_); (with_reducible refine (cB.calls k1 ((aK l0 x4_1).f0) ((aK l0 x4_1).f1) ((aK l0 x4_1).f2) t501 _ A6.out).mono ?_); rintro e w8 ⟨v502, rfl, ho0, hb⟩; refine ⟨_, rfl, ?_⟩; have n0_ := mk_ (R_elder' (ZKR HO_3) (R_base ho0) hb); have n1_ := mk_ (bX (R_new' ho0 (R_lt (ZKR HO_3))) (aC (Short.hB HB))); have n2_ := mk_ (aA (Short.hB HB) hb); clear HO_3 HB; revert n0_ n1_ n2_; intro HO_3 HO503 HB; (try clear hb ho0); obtain ⟨Ao10, co10, eo10⟩ := cX HO503.out; subst eo10) | ((with_reducible refine cM (b := .append) (xs := #[.tmp 15, .tmp 20]) rfl ?_); at_builtin; refine eD (Kd.int .u8) (w0 := w) w.heap.size rfl (.tmp 15) (.tmp 20) 36 5 (.int .u8 0) 1 rfl Tryz.underlying36 info5 rfl z5_ z4_ u3 x3_1 t501 _ _ _ (fun k_ => nb_ k_ (.slice Ao10 t501.length co10)) (fun _ => False) rfl rfl ?aO ?aR (fun _ _ h => h) (fun _ h => h.elim) ?aF ?aB ?aS ?aL ?_; (case aR => exact cX_ (R_reads' HO503.out).2.2); (case aB => exact (Short.hB HB)); (case aF => exact (fun k_ hk => Kd.fresh' (R_lt (ZKR HO503)) k_ hk)); (case aO => exact (rM_ HO_3 (fun _ hk => hk.2))); (case aS => exact (aC (Short.hB HB))); (case aL => have := LMc7.out; omega); intro v505 w9 ho hb hg hat; rw [← Ny504.out] at ho; have n0_ := mk_ (dT (ok := (fun _ => True)) (ZKR HO503) hg hat); have n1_ := mk_ (hb); have n2_ := mk_ (ho); clear HO503 HB HO_3; revert n0_ n1_ n2_; intro HO503 HB HO506; clear ho hb hg hat))
   go_roundg k1
   case measure => have := HK1.out; omega
   case rel => exact ⟨(y504), (wrap64 (x4_1 + 1)), z3_, H', ⟨by have := HK1.out; omega⟩, ⟨by (with_reducible repeat (first | apply R_alloc | apply R_drewN | apply R_drew)); exact R_mono HO506.out (fun _ hk => trivial)⟩, ⟨Short.hB HB⟩⟩
end Go.Proofs.YtjnjfogfpmeacaaGreat.PAll
end
