-- Put together by a program of this session (wip/slice2.py) out of the seat's texts.
import Derived.Test.YtjnjfogfpmeacaaZOBp0

set_option maxHeartbeats 8000000
set_option maxRecDepth 100000
open Go.Proofs.YtjnjfogfpmeacaaW Go.Proofs.Ytjnjfogfpmeacaa
section
namespace Go.Proofs.Ytjnjfogfpmeacaa.PAll
open Go.RowKit PrintWords PrintLast PrintMore ZipT PrintWords.Kd PrintMore.Kd
attribute [local go_sem] max2_int min2_int max_two min_two max_three min_three max_four min_four   -- for this text's walks alone
set_option linter.unusedVariables false
set_option linter.unusedSimpArgs false
def raddlekeep_Dots.l0 : Nat → List (S25) → List (S25) → Int → Option (Bool)
 | 0, _, _, _ => none
 | k + 1, x0, x1, x5 => if x5 < (x0.length : Int) then (if 0 ≤ x5 then (if x5 < (x1.length : Int) then ((raddlekeep_Dot.f ((rd_T25 x0 x5).f0) ((rd_T25 x0 x5).f1) ((rd_T25 x1 x5).f0) ((rd_T25 x1 x5).f1)).bind fun t166 => (if t166 = true then (raddlekeep_Dots.l0 k x0 x1 (wrap64 (x5 + 1))) else (some false))) else (none)) else (none)) else (some true)
def raddlekeep_Dots.f (k : Nat) (l0 : List (S25)) (l1 : List (S25)) : Option (Bool) := if (l0.length : Int) = (l1.length : Int) then (raddlekeep_Dots.l0 k l0 l1 0) else (some false)
def raddlekeep_Dots.T6 : Bool × List (List Nat × List Nat) := (true, [([], []), ([], []), ([0, 1], [0, 1]), ([2], [2]), ([], []), ([], []), ([4, 5], [4, 5]), ([6], [6]), ([3, 7], [3, 7]), ([8], [8])])
def raddlekeep_Dots.B6 : List Nat := [0, 0, 3, 7, 0, 0, 48, 112, 255, 511]
theorem raddlekeep_Dots.tab6 : rtab .any (opsOf Try.f33 6) = raddlekeep_Dots.T6 := by kernel_rfl
theorem raddlekeep_Dots.bits6 : waitsOk raddlekeep_Dots.T6.2 raddlekeep_Dots.B6 = true := by kernel_rfl
theorem raddlekeep_Dots.calls (k : Nat) (A0 : Option Addr) (c0 : Nat) (l0 : List (S25)) (A1 : Option Addr) (c1 : Nat) (l1 : List (S25)) (r : Bool) (w : World) (hr0 : Kd.C k25 w A0 l0.length l0) (hc0 : l0.length ≤ c0) (hr1 : Kd.C k25 w A1 l1.length l1) (hc1 : l1.length ≤ c1) (h : raddlekeep_Dots.f k l0 l1 = some r) :
  Calls Try.prog 33 #[.slice A0 l0.length c0, .slice A1 l1.length c1] w fun e w' => e = .returned (.bool r) ∧ Below w.heap.size w w' := by
 have hu25 := Try.underlying25
 have HR0 := mk_ hr0
 have HC0 := mk_ hc0
 clear hr0 hc0
 have HR1 := mk_ hr1
 have HC1 := mk_ hc1
 clear hr1 hc1
 have HB := mk_ (Below.refl w.heap.size w)
 have H : (if (l0.length : Int) = (l1.length : Int) then (raddlekeep_Dots.l0 k l0 l1 0) else (some false)) = some r := h
 clear h
 by_cases c3 : (l0.length : Int) = (l1.length : Int)
 rotate_left
 ·
  rw [if_neg c3] at H
  have c3b0 : ((l0.length : Int) == (l1.length : Int)) = false := beq_eq_false_iff_ne.mpr c3
  have c3b1 : ((l0.length : Int) != (l1.length : Int)) = true := bne_iff_ne.mpr c3
  have c3b2 : (l0.length == l1.length) = false := by first | simpa using c3 | (simp at c3 ⊢; omega)
  obtain rfl := Option.some.inj H
  go_enter Try.func33, Try.ntmps33
  go_wp2
  go_ret
  exact ⟨q0, Short.hB HB⟩
 rw [if_pos c3] at H
 have c3b0 : ((l0.length : Int) == (l1.length : Int)) = true := beq_iff_eq.mpr c3
 have c3b1 : ((l0.length : Int) != (l1.length : Int)) = false := bne_eq_false_iff_eq.mpr c3
 have c3b2 : (l0.length == l1.length) = true := by first | simpa using c3 | (simp at c3 ⊢; omega)
 clear c3
 have H' := mk_ H
 clear H
 go_enter Try.func33, Try.ntmps33
 go_wp2
 go_loopg [5] k (fun kq v5 w' => ∃ (x5_1 : Int), v5 = .int .i64 x5_1 ∧ Aside0 (raddlekeep_Dots.l0 kq l0 l1 x5_1 = some r) ∧ Aside0 (kq ≤ k) ∧ Aside0 (Below w.heap.size w w'))
 case atStart => exact ⟨(0), z3, H', ⟨Nat.le_refl _⟩, ⟨Short.hB HB⟩⟩
 case round =>
  clear H'
  try clear c1
  try clear p2
  try clear c3
  try clear c3b0
  try clear c3b1
  try clear c3b2
  obtain ⟨x5_1, rfl, HA, HK1, HB⟩ := hrel
  cases gk with
  | zero => exact absurd HA.out (by simp [raddlekeep_Dots.l0])
  | succ k1 =>
   have H := HA.out
   clear HA
   simp only [raddlekeep_Dots.l0] at H
   by_cases c4 : x5_1 < (l0.length : Int)
   rotate_left
   ·
    rw [if_neg c4] at H
    have c4b0 : decide (x5_1 < (l0.length : Int)) = false := decide_eq_false c4
    clear c4
    obtain rfl := Option.some.inj H
    go_wp2
    go_ret
    exact ⟨q0, Short.hB HB⟩
   rw [if_pos c4] at H
   have c4b0 : decide (x5_1 < (l0.length : Int)) = true := decide_eq_true c4
   clear c4
   by_cases c5 : 0 ≤ x5_1
   rotate_left
   ·
    rw [if_neg c5] at H
    exact absurd H (by simp)
   rw [if_pos c5] at H
   have c5b0 : decide (0 ≤ x5_1) = true := decide_eq_true c5
   clear c5
   by_cases c6 : x5_1 < (l1.length : Int)
   rotate_left
   ·
    rw [if_neg c6] at H
    exact absurd H (by simp)
   rw [if_pos c6] at H
   have c6b0 : decide (x5_1 < (l1.length : Int)) = true := decide_eq_true c6
   clear c6
   replace H := Option.bind_eq_some_iff.mp H
   obtain ⟨t166, A70, H⟩ := H
   replace H : (if t166 = true then (raddlekeep_Dots.l0 k1 l0 l1 (wrap64 (x5_1 + 1))) else (some false)) = some r := H
   have A7 := mk_ A70
   clear A70
   by_cases c8 : t166 = true
   rotate_left
   ·
    replace c8 := Bool.eq_false_iff.mpr c8
    subst c8
    have H1 : (some false) = some r := by rw [if_neg (show ¬ (false = true) by decide)] at H; exact H
    clear H
    have H := H1
    clear H1
    obtain rfl := Option.some.inj H
    try go_wp2
    have n0_ := mk_ (below_drew1 HB.out)
    clear HB
    revert n0_
    intro HB
    have p164 : 0 ≤ (x5_1 : Int) := of_decide_eq_true z0
    have q164 : x5_1 < (l0.length : Int) := of_decide_eq_true z0
    obtain ⟨ad164, e164, hx164_0, hx164_1⟩ := at_T25 HR0.out x5_1 p164 q164
    have hw164_1 := hx164_1
    have hw164_0 := hx164_0
    cases e164
    replace hx164_0 := up_ HB hx164_0
    replace hx164_1 := up_ HB hx164_1
    replace p164 := eq_true p164
    replace q164 := eq_true q164
    have p165 : 0 ≤ (x5_1 : Int) := of_decide_eq_true z0
    have q165 : x5_1 < (l1.length : Int) := of_decide_eq_true z0
    obtain ⟨ad165, e165, hx165_0, hx165_1⟩ := at_T25 HR1.out x5_1 p165 q165
    have hw165_1 := hx165_1
    have hw165_0 := hx165_0
    cases e165
    replace hx165_0 := up_ HB hx165_0
    replace hx165_1 := up_ HB hx165_1
    replace p165 := eq_true p165
    replace q165 := eq_true q165
    refine start_ (n := 10) (S := fun w' => w'.cell? (ad164.add ((x5_1).toNat * 2)) = some (.int .i64 ((rd_T25 l0 x5_1).f0)) ∧ w'.cell? ⟨(ad164.add ((x5_1).toNat * 2)).block, (ad164.add ((x5_1).toNat * 2)).off + 1, none⟩ = some (.int .i64 ((rd_T25 l0 x5_1).f1)) ∧ w'.cell? (ad165.add ((x5_1).toNat * 2)) = some (.int .i64 ((rd_T25 l1 x5_1).f0)) ∧ w'.cell? ⟨(ad165.add ((x5_1).toNat * 2)).block, (ad165.add ((x5_1).toNat * 2)).off + 1, none⟩ = some (.int .i64 ((rd_T25 l1 x5_1).f1))) (ds := []) (Steps.Bs 10 0) z1 rfl rfl ⟨((HB.out.cell (World.block_lt_of_cell? w _ hw164_0)).trans hw164_0), ((HB.out.cell (World.block_lt_of_cell? w _ hw164_1)).trans hw164_1), ((HB.out.cell (World.block_lt_of_cell? w _ hw165_0)).trans hw165_0), ((HB.out.cell (World.block_lt_of_cell? w _ hw165_1)).trans hw165_1)⟩ (fun hHeld => ?_); refine with_tabW raddlekeep_Dots.tab6 raddlekeep_Dots.bits6 (fun HT_ HW_ => ?_)
    generalize wr.drew = w11 at HB hx164_0 hx164_1 hx165_0 hx165_1 hHeld ⊢
    refine tI HT_ 0 17 10 1 ?_
    refine tI HT_ 1 18 10 3 ?_
    refine tI HT_ 2 19 10 7 ?_
    refine tI HT_ 4 21 10 23 ?_
    refine tI HT_ 5 22 10 55 ?_
    refine tI HT_ 6 23 10 119 ?_
    refine tT HT_ HW_ hHeld 3 20 10 127 ?_
    refine tT HT_ HW_ hHeld 7 24 10 255 ?_
    refine one_ (i := 8) (N := some 25) (Steps.Bs 10 511) rfl rfl (one_of HT_.out z1) z5 (fun K hK => ?_)
    refine goes_ Try.func29 z1 rfl #[.agg #[.int .i64 ((rd_T25 l0 x5_1).f0), .int .i64 ((rd_T25 l0 x5_1).f1)], .agg #[.int .i64 ((rd_T25 l1 x5_1).f0), .int .i64 ((rd_T25 l1 x5_1).f1)]] (by rfl) rfl rfl z2 ?_
    with_reducible refine (raddlekeep_Dot.calls ((rd_T25 l0 x5_1).f0) ((rd_T25 l0 x5_1).f1) ((rd_T25 l1 x5_1).f0) ((rd_T25 l1 x5_1).f1) false _ A7.out).mono ?_
    rintro e w12 ⟨rfl, hb⟩
    refine ⟨_, rfl, ?_⟩
    have n0_ := mk_ (below_step (Short.hB HB) hb)
    clear HB
    revert n0_
    intro HB
    (try clear hb)
    (try clear hb2)
    (try clear hk)
    (try clear hi)
    refine hK.out _ _ ⟨((HB.out.cell (World.block_lt_of_cell? w _ hw164_0)).trans hw164_0), ((HB.out.cell (World.block_lt_of_cell? w _ hw164_1)).trans hw164_1), ((HB.out.cell (World.block_lt_of_cell? w _ hw165_0)).trans hw165_0), ((HB.out.cell (World.block_lt_of_cell? w _ hw165_1)).trans hw165_1)⟩ (fun hHeld => ?_)
    clear hK K
    refine nrm 25 ?_
    refine tI HT_ 9 26 10 1023 ?_
    refine done_ (done_of HT_.out z1) ?_
    try go_wp2
    go_ret
    exact ⟨q0, Short.hB HB⟩
   subst c8
   have H1 : (raddlekeep_Dots.l0 k1 l0 l1 (wrap64 (x5_1 + 1))) = some r := by rw [if_pos rfl] at H; exact H
   clear H
   have H := H1
   clear H1
   have H' := mk_ H
   clear H
   try go_wp2
   have n0_ := mk_ (below_drew1 HB.out)
   clear HB
   revert n0_
   intro HB
   have p164 : 0 ≤ (x5_1 : Int) := of_decide_eq_true z0
   have q164 : x5_1 < (l0.length : Int) := of_decide_eq_true z0
   obtain ⟨ad164, e164, hx164_0, hx164_1⟩ := at_T25 HR0.out x5_1 p164 q164
   have hw164_1 := hx164_1
   have hw164_0 := hx164_0
   cases e164
   replace hx164_0 := up_ HB hx164_0
   replace hx164_1 := up_ HB hx164_1
   replace p164 := eq_true p164
   replace q164 := eq_true q164
   have p165 : 0 ≤ (x5_1 : Int) := of_decide_eq_true z0
   have q165 : x5_1 < (l1.length : Int) := of_decide_eq_true z0
   obtain ⟨ad165, e165, hx165_0, hx165_1⟩ := at_T25 HR1.out x5_1 p165 q165
   have hw165_1 := hx165_1
   have hw165_0 := hx165_0
   cases e165
   replace hx165_0 := up_ HB hx165_0
   replace hx165_1 := up_ HB hx165_1
   replace p165 := eq_true p165
   replace q165 := eq_true q165
   refine start_ (n := 10) (S := fun w' => w'.cell? (ad164.add ((x5_1).toNat * 2)) = some (.int .i64 ((rd_T25 l0 x5_1).f0)) ∧ w'.cell? ⟨(ad164.add ((x5_1).toNat * 2)).block, (ad164.add ((x5_1).toNat * 2)).off + 1, none⟩ = some (.int .i64 ((rd_T25 l0 x5_1).f1)) ∧ w'.cell? (ad165.add ((x5_1).toNat * 2)) = some (.int .i64 ((rd_T25 l1 x5_1).f0)) ∧ w'.cell? ⟨(ad165.add ((x5_1).toNat * 2)).block, (ad165.add ((x5_1).toNat * 2)).off + 1, none⟩ = some (.int .i64 ((rd_T25 l1 x5_1).f1))) (ds := []) (Steps.Bs 10 0) z1 rfl rfl ⟨((HB.out.cell (World.block_lt_of_cell? w _ hw164_0)).trans hw164_0), ((HB.out.cell (World.block_lt_of_cell? w _ hw164_1)).trans hw164_1), ((HB.out.cell (World.block_lt_of_cell? w _ hw165_0)).trans hw165_0), ((HB.out.cell (World.block_lt_of_cell? w _ hw165_1)).trans hw165_1)⟩ (fun hHeld => ?_); refine with_tabW raddlekeep_Dots.tab6 raddlekeep_Dots.bits6 (fun HT_ HW_ => ?_)
   generalize wr.drew = w9 at HB hx164_0 hx164_1 hx165_0 hx165_1 hHeld ⊢
   refine tI HT_ 0 17 10 1 ?_
   refine tI HT_ 1 18 10 3 ?_
   refine tI HT_ 2 19 10 7 ?_
   refine tI HT_ 4 21 10 23 ?_
   refine tI HT_ 5 22 10 55 ?_
   refine tI HT_ 6 23 10 119 ?_
   refine tT HT_ HW_ hHeld 3 20 10 127 ?_
   refine tT HT_ HW_ hHeld 7 24 10 255 ?_
   refine one_ (i := 8) (N := some 25) (Steps.Bs 10 511) rfl rfl (one_of HT_.out z1) z5 (fun K hK => ?_)
   refine goes_ Try.func29 z1 rfl #[.agg #[.int .i64 ((rd_T25 l0 x5_1).f0), .int .i64 ((rd_T25 l0 x5_1).f1)], .agg #[.int .i64 ((rd_T25 l1 x5_1).f0), .int .i64 ((rd_T25 l1 x5_1).f1)]] (by rfl) rfl rfl z2 ?_
   with_reducible refine (raddlekeep_Dot.calls ((rd_T25 l0 x5_1).f0) ((rd_T25 l0 x5_1).f1) ((rd_T25 l1 x5_1).f0) ((rd_T25 l1 x5_1).f1) true _ A7.out).mono ?_
   rintro e w10 ⟨rfl, hb⟩
   refine ⟨_, rfl, ?_⟩
   have n0_ := mk_ (below_step (Short.hB HB) hb)
   clear HB
   revert n0_
   intro HB
   (try clear hb)
   (try clear hb2)
   (try clear hk)
   (try clear hi)
   refine hK.out _ _ ⟨((HB.out.cell (World.block_lt_of_cell? w _ hw164_0)).trans hw164_0), ((HB.out.cell (World.block_lt_of_cell? w _ hw164_1)).trans hw164_1), ((HB.out.cell (World.block_lt_of_cell? w _ hw165_0)).trans hw165_0), ((HB.out.cell (World.block_lt_of_cell? w _ hw165_1)).trans hw165_1)⟩ (fun hHeld => ?_)
   clear hK K
   refine nrm 25 ?_
   refine tI HT_ 9 26 10 1023 ?_
   refine done_ (done_of HT_.out z1) ?_
   try go_wp2
   go_roundg k1
   case measure => have := HK1.out; omega
   case rel => exact ⟨(wrap64 (x5_1 + 1)), z3, H', ⟨by have := HK1.out; omega⟩, ⟨Short.hB HB⟩⟩
def raddlekeep_Op.f (k : Nat) (a0_0 : Int) (a0_1 : Int) (l0_2 : List Int) (a0_3 : Int) (a0_4 : Int) (a0_5 : Int) (a0_6 : Int) (a0_7 : Int) (a0_8 : ByteArray) (a0_9 : Int) (l0_10 : List (S84)) (l0_11 : List (S25)) (a1_0 : Int) (a1_1 : Int) (l1_2 : List Int) (a1_3 : Int) (a1_4 : Int) (a1_5 : Int) (a1_6 : Int) (a1_7 : Int) (a1_8 : ByteArray) (a1_9 : Int) (l1_10 : List (S84)) (l1_11 : List (S25)) : Option (Bool) := (raddlekeep_Dot.f a0_0 a0_1 a1_0 a1_1).bind fun t169 => (if t169 = true then ((raddlekeep_Ints.f k l0_2 l1_2).bind fun t170 => (if t170 = true then ((raddlekeep_Stamp.f a0_3 a0_4 a0_5 a1_3 a1_4 a1_5).bind fun t171 => (if t171 = true then (if a0_6 = a1_6 then (if a0_7 = a1_7 then (if a0_8.toList = a1_8.toList then (if a0_9 = a1_9 then ((raddlekeep_Row.f k l0_10 l1_10).bind fun t172 => (if t172 = true then ((raddlekeep_Dots.f k l0_11 l1_11).bind fun t173 => (some t173)) else (some false))) else (some false)) else (some false)) else (some false)) else (some false)) else (some false))) else (some false))) else (some false))
theorem raddlekeep_Op.calls (k : Nat) (a0_0 : Int) (a0_1 : Int) (A0_2 : Option Addr) (c0_2 : Nat) (l0_2 : List Int) (a0_3 : Int) (a0_4 : Int) (a0_5 : Int) (a0_6 : Int) (a0_7 : Int) (a0_8 : ByteArray) (a0_9 : Int) (A0_10 : Option Addr) (c0_10 : Nat) (l0_10 : List (S84)) (A0_11 : Option Addr) (c0_11 : Nat) (l0_11 : List (S25)) (a1_0 : Int) (a1_1 : Int) (A1_2 : Option Addr) (c1_2 : Nat) (l1_2 : List Int) (a1_3 : Int) (a1_4 : Int) (a1_5 : Int) (a1_6 : Int) (a1_7 : Int) (a1_8 : ByteArray) (a1_9 : Int) (A1_10 : Option Addr) (c1_10 : Nat) (l1_10 : List (S84)) (A1_11 : Option Addr) (c1_11 : Nat) (l1_11 : List (S25)) (r : Bool) (w : World) (hr0_2 : Kd.C (Kd.int .i64) w A0_2 l0_2.length l0_2) (hc0_2 : l0_2.length ≤ c0_2) (hr0_10 : Kd.C k84 w A0_10 l0_10.length l0_10) (hc0_10 : l0_10.length ≤ c0_10) (hr0_11 : Kd.C k25 w A0_11 l0_11.length l0_11) (hc0_11 : l0_11.length ≤ c0_11) (hr1_2 : Kd.C (Kd.int .i64) w A1_2 l1_2.length l1_2) (hc1_2 : l1_2.length ≤ c1_2) (hr1_10 : Kd.C k84 w A1_10 l1_10.length l1_10) (hc1_10 : l1_10.length ≤ c1_10) (hr1_11 : Kd.C k25 w A1_11 l1_11.length l1_11) (hc1_11 : l1_11.length ≤ c1_11) (h : raddlekeep_Op.f k a0_0 a0_1 l0_2 a0_3 a0_4 a0_5 a0_6 a0_7 a0_8 a0_9 l0_10 l0_11 a1_0 a1_1 l1_2 a1_3 a1_4 a1_5 a1_6 a1_7 a1_8 a1_9 l1_10 l1_11 = some r) :
  Calls Try.prog 13 #[.agg #[.int .i64 a0_0, .int .i64 a0_1, .slice A0_2 l0_2.length c0_2, .int .i64 a0_3, .int .i64 a0_4, .int .i64 a0_5, .int .i64 a0_6, .int .i64 a0_7, .string a0_8, .int .i64 a0_9, .slice A0_10 l0_10.length c0_10, .slice A0_11 l0_11.length c0_11], .agg #[.int .i64 a1_0, .int .i64 a1_1, .slice A1_2 l1_2.length c1_2, .int .i64 a1_3, .int .i64 a1_4, .int .i64 a1_5, .int .i64 a1_6, .int .i64 a1_7, .string a1_8, .int .i64 a1_9, .slice A1_10 l1_10.length c1_10, .slice A1_11 l1_11.length c1_11]] w fun e w' => e = .returned (.bool r) ∧ Below w.heap.size w w' := by
 have hu32 := Try.underlying32
 have hu25 := Try.underlying25
 have hu28 := Try.underlying28
 have HR0_2 := mk_ hr0_2
 have HC0_2 := mk_ hc0_2
 clear hr0_2 hc0_2
 have HR0_10 := mk_ hr0_10
 have HC0_10 := mk_ hc0_10
 clear hr0_10 hc0_10
 have HR0_11 := mk_ hr0_11
 have HC0_11 := mk_ hc0_11
 clear hr0_11 hc0_11
 have HR1_2 := mk_ hr1_2
 have HC1_2 := mk_ hc1_2
 clear hr1_2 hc1_2
 have HR1_10 := mk_ hr1_10
 have HC1_10 := mk_ hc1_10
 clear hr1_10 hc1_10
 have HR1_11 := mk_ hr1_11
 have HC1_11 := mk_ hc1_11
 clear hr1_11 hc1_11
 have HB := mk_ (Below.refl w.heap.size w)
 have H : ((raddlekeep_Dot.f a0_0 a0_1 a1_0 a1_1).bind fun t169 => (if t169 = true then ((raddlekeep_Ints.f k l0_2 l1_2).bind fun t170 => (if t170 = true then ((raddlekeep_Stamp.f a0_3 a0_4 a0_5 a1_3 a1_4 a1_5).bind fun t171 => (if t171 = true then (if a0_6 = a1_6 then (if a0_7 = a1_7 then (if a0_8.toList = a1_8.toList then (if a0_9 = a1_9 then ((raddlekeep_Row.f k l0_10 l1_10).bind fun t172 => (if t172 = true then ((raddlekeep_Dots.f k l0_11 l1_11).bind fun t173 => (some t173)) else (some false))) else (some false)) else (some false)) else (some false)) else (some false)) else (some false))) else (some false))) else (some false))) = some r := h
 clear h
 replace H := Option.bind_eq_some_iff.mp H
 obtain ⟨t169, A30, H⟩ := H
 replace H : (if t169 = true then ((raddlekeep_Ints.f k l0_2 l1_2).bind fun t170 => (if t170 = true then ((raddlekeep_Stamp.f a0_3 a0_4 a0_5 a1_3 a1_4 a1_5).bind fun t171 => (if t171 = true then (if a0_6 = a1_6 then (if a0_7 = a1_7 then (if a0_8.toList = a1_8.toList then (if a0_9 = a1_9 then ((raddlekeep_Row.f k l0_10 l1_10).bind fun t172 => (if t172 = true then ((raddlekeep_Dots.f k l0_11 l1_11).bind fun t173 => (some t173)) else (some false))) else (some false)) else (some false)) else (some false)) else (some false)) else (some false))) else (some false))) else (some false)) = some r := H
 have A3 := mk_ A30
 clear A30
 by_cases c4 : t169 = true
 rotate_left
 ·
  replace c4 := Bool.eq_false_iff.mpr c4
  subst c4
  have H1 : (some false) = some r := by rw [if_neg (show ¬ (false = true) by decide)] at H; exact H
  clear H
  have H := H1
  clear H1
  obtain rfl := Option.some.inj H
  go_enter Try.func13, Try.ntmps13
  go_wp2_with (first | ((with_reducible refine gate_dst (N := 2) rfl ?_); refine box_event ?hg (N := 2) ?hd (cs := #[.int .i64 a0_0, .int .i64 a0_1, .slice A0_2 l0_2.length c0_2, .int .i64 a0_3, .int .i64 a0_4, .int .i64 a0_5, .int .i64 a0_6, .int .i64 a0_7, .string a0_8, .int .i64 a0_9, .slice A0_10 l0_10.length c0_10, .slice A0_11 l0_11.length c0_11]) (t := 32) ?hr ?_; (case hd => rfl); (case hg => rfl); (case hr => first | (go_simp; done) | (go_simp; rfl)); intro gb167 hg w104 hbox hb; have n0_ := mk_ (below_step (Short.hB HB) hb); have n1_ := mk_ (hbox); have n2_ := mk_ ((by rw [hg]; exact (below_size (Short.hB HB)) : w.heap.size ≤ gb167)); have n3_ := mk_ ((by rw [hg]; exact (below_size (Short.hB HB)) : w.heap.size ≤ gb167)); clear HB; revert n0_ n1_ n2_ n3_; intro HB BK167 GW167 GE167; clear hb hbox hg) | ((with_reducible refine gate_dst (N := 3) rfl ?_); refine box_event ?hg (N := 3) ?hd (cs := #[.int .i64 a1_0, .int .i64 a1_1, .slice A1_2 l1_2.length c1_2, .int .i64 a1_3, .int .i64 a1_4, .int .i64 a1_5, .int .i64 a1_6, .int .i64 a1_7, .string a1_8, .int .i64 a1_9, .slice A1_10 l1_10.length c1_10, .slice A1_11 l1_11.length c1_11]) (t := 32) ?hr ?_; (case hd => rfl); (case hg => rfl); (case hr => first | (go_simp; done) | (go_simp; rfl)); intro gb168 hg w105 hbox hb; have n0_ := mk_ (bB_ BK167 hb); have n1_ := mk_ (below_step (Short.hB HB) hb); have n2_ := mk_ (hbox); have n3_ := mk_ ((by rw [hg]; exact (below_size (Short.hB HB)) : w.heap.size ≤ gb168)); have n4_ := mk_ ((by rw [hg]; exact (below_size (Short.hB HB)) : w.heap.size ≤ gb168)); have n5_ := mk_ ((by rw [hg]; exact Nat.ne_of_lt (blk_lt (g := gb167) (o := .cells #[.int .i64 a0_0, .int .i64 a0_1, .slice A0_2 l0_2.length c0_2, .int .i64 a0_3, .int .i64 a0_4, .int .i64 a0_5, .int .i64 a0_6, .int .i64 a0_7, .string a0_8, .int .i64 a0_9, .slice A0_10 l0_10.length c0_10, .slice A0_11 l0_11.length c0_11] 32 (0, 0)) (Short.bK BK167)) : gb167 ≠ gb168)); have n6_ := mk_ ((by rw [hg]; exact Nat.ne_of_gt (blk_lt (g := gb167) (o := .cells #[.int .i64 a0_0, .int .i64 a0_1, .slice A0_2 l0_2.length c0_2, .int .i64 a0_3, .int .i64 a0_4, .int .i64 a0_5, .int .i64 a0_6, .int .i64 a0_7, .string a0_8, .int .i64 a0_9, .slice A0_10 l0_10.length c0_10, .slice A0_11 l0_11.length c0_11] 32 (0, 0)) (Short.bK BK167)) : gb168 ≠ gb167)); clear BK167 HB; revert n0_ n1_ n2_ n3_ n4_ n5_ n6_; intro BK167 HB BK168 GW168 GE168 NB167_168 NB168_167; clear hb hbox hg; have hnb106 := NB167_168.out; have hnc106 := NB168_167.out; have hcz107_0 : w105.cell? ⟨gb167, 0, none⟩ = some (.int .i64 a0_0) := kc_ BK167 0; have hcz107_1 : w105.cell? ⟨gb167, 1, none⟩ = some (.int .i64 a0_1) := kc_ BK167 1; have hcz107_2 : w105.cell? ⟨gb167, 2, none⟩ = some (.slice A0_2 l0_2.length c0_2) := kc_ BK167 2; have hcz107_3 : w105.cell? ⟨gb167, 3, none⟩ = some (.int .i64 a0_3) := kc_ BK167 3; have hcz107_4 : w105.cell? ⟨gb167, 4, none⟩ = some (.int .i64 a0_4) := kc_ BK167 4; have hcz107_5 : w105.cell? ⟨gb167, 5, none⟩ = some (.int .i64 a0_5) := kc_ BK167 5; have hcz107_6 : w105.cell? ⟨gb167, 6, none⟩ = some (.int .i64 a0_6) := kc_ BK167 6; have hcz107_7 : w105.cell? ⟨gb167, 7, none⟩ = some (.int .i64 a0_7) := kc_ BK167 7; have hcz107_8 : w105.cell? ⟨gb167, 8, none⟩ = some (.string a0_8) := kc_ BK167 8; have hcz107_9 : w105.cell? ⟨gb167, 9, none⟩ = some (.int .i64 a0_9) := kc_ BK167 9; have hcz107_10 : w105.cell? ⟨gb167, 10, none⟩ = some (.slice A0_10 l0_10.length c0_10) := kc_ BK167 10; have hcz107_11 : w105.cell? ⟨gb167, 11, none⟩ = some (.slice A0_11 l0_11.length c0_11) := kc_ BK167 11; have hfz107_0 := blk_frozen BK167.out; have hcz108_0 : w105.cell? ⟨gb168, 0, none⟩ = some (.int .i64 a1_0) := kc_ BK168 0; have hcz108_1 : w105.cell? ⟨gb168, 1, none⟩ = some (.int .i64 a1_1) := kc_ BK168 1; have hcz108_2 : w105.cell? ⟨gb168, 2, none⟩ = some (.slice A1_2 l1_2.length c1_2) := kc_ BK168 2; have hcz108_3 : w105.cell? ⟨gb168, 3, none⟩ = some (.int .i64 a1_3) := kc_ BK168 3; have hcz108_4 : w105.cell? ⟨gb168, 4, none⟩ = some (.int .i64 a1_4) := kc_ BK168 4; have hcz108_5 : w105.cell? ⟨gb168, 5, none⟩ = some (.int .i64 a1_5) := kc_ BK168 5; have hcz108_6 : w105.cell? ⟨gb168, 6, none⟩ = some (.int .i64 a1_6) := kc_ BK168 6; have hcz108_7 : w105.cell? ⟨gb168, 7, none⟩ = some (.int .i64 a1_7) := kc_ BK168 7; have hcz108_8 : w105.cell? ⟨gb168, 8, none⟩ = some (.string a1_8) := kc_ BK168 8; have hcz108_9 : w105.cell? ⟨gb168, 9, none⟩ = some (.int .i64 a1_9) := kc_ BK168 9; have hcz108_10 : w105.cell? ⟨gb168, 10, none⟩ = some (.slice A1_10 l1_10.length c1_10) := kc_ BK168 10; have hcz108_11 : w105.cell? ⟨gb168, 11, none⟩ = some (.slice A1_11 l1_11.length c1_11) := kc_ BK168 11; have hfz108_0 := blk_frozen BK168.out) | ((with_reducible refine gate_callee (f := 29) rfl ?_); refine Short.gL (some 9) Try.func29 #[.agg #[.int .i64 a0_0, .int .i64 a0_1], .agg #[.int .i64 a1_0, .int .i64 a1_1]] (h := ?_); (with_reducible refine (raddlekeep_Dot.calls a0_0 a0_1 a1_0 a1_1 false _ A3.out).mono ?_); rintro e w109 ⟨rfl, hb⟩; refine ⟨_, rfl, ?_⟩; have n0_ := mk_ (bB_ BK167 hb); have n1_ := mk_ (bB_ BK168 hb); have n2_ := mk_ (below_step (Short.hB HB) hb); clear BK167 BK168 HB; revert n0_ n1_ n2_; intro BK167 BK168 HB; (try clear hb)))
  go_ret
  exact ⟨q0, Short.hB HB⟩
 subst c4
 have H1 : ((raddlekeep_Ints.f k l0_2 l1_2).bind fun t170 => (if t170 = true then ((raddlekeep_Stamp.f a0_3 a0_4 a0_5 a1_3 a1_4 a1_5).bind fun t171 => (if t171 = true then (if a0_6 = a1_6 then (if a0_7 = a1_7 then (if a0_8.toList = a1_8.toList then (if a0_9 = a1_9 then ((raddlekeep_Row.f k l0_10 l1_10).bind fun t172 => (if t172 = true then ((raddlekeep_Dots.f k l0_11 l1_11).bind fun t173 => (some t173)) else (some false))) else (some false)) else (some false)) else (some false)) else (some false)) else (some false))) else (some false))) = some r := by rw [if_pos rfl] at H; exact H
 clear H
 have H := H1
 clear H1
 replace H := Option.bind_eq_some_iff.mp H
 obtain ⟨t170, A50, H⟩ := H
 replace H : (if t170 = true then ((raddlekeep_Stamp.f a0_3 a0_4 a0_5 a1_3 a1_4 a1_5).bind fun t171 => (if t171 = true then (if a0_6 = a1_6 then (if a0_7 = a1_7 then (if a0_8.toList = a1_8.toList then (if a0_9 = a1_9 then ((raddlekeep_Row.f k l0_10 l1_10).bind fun t172 => (if t172 = true then ((raddlekeep_Dots.f k l0_11 l1_11).bind fun t173 => (some t173)) else (some false))) else (some false)) else (some false)) else (some false)) else (some false)) else (some false))) else (some false)) = some r := H
 have A5 := mk_ A50
 clear A50
 by_cases c6 : t170 = true
 rotate_left
 ·
  replace c6 := Bool.eq_false_iff.mpr c6
  subst c6
  have H1 : (some false) = some r := by rw [if_neg (show ¬ (false = true) by decide)] at H; exact H
  clear H
  have H := H1
  clear H1
  obtain rfl := Option.some.inj H
  go_enter Try.func13, Try.ntmps13
  go_wp2_with (first | ((with_reducible refine gate_dst (N := 2) rfl ?_); refine box_event ?hg (N := 2) ?hd (cs := #[.int .i64 a0_0, .int .i64 a0_1, .slice A0_2 l0_2.length c0_2, .int .i64 a0_3, .int .i64 a0_4, .int .i64 a0_5, .int .i64 a0_6, .int .i64 a0_7, .string a0_8, .int .i64 a0_9, .slice A0_10 l0_10.length c0_10, .slice A0_11 l0_11.length c0_11]) (t := 32) ?hr ?_; (case hd => rfl); (case hg => rfl); (case hr => first | (go_simp; done) | (go_simp; rfl)); intro gb167 hg w96 hbox hb; have n0_ := mk_ (below_step (Short.hB HB) hb); have n1_ := mk_ (hbox); have n2_ := mk_ ((by rw [hg]; exact (below_size (Short.hB HB)) : w.heap.size ≤ gb167)); have n3_ := mk_ ((by rw [hg]; exact (below_size (Short.hB HB)) : w.heap.size ≤ gb167)); clear HB; revert n0_ n1_ n2_ n3_; intro HB BK167 GW167 GE167; clear hb hbox hg) | ((with_reducible refine gate_dst (N := 3) rfl ?_); refine box_event ?hg (N := 3) ?hd (cs := #[.int .i64 a1_0, .int .i64 a1_1, .slice A1_2 l1_2.length c1_2, .int .i64 a1_3, .int .i64 a1_4, .int .i64 a1_5, .int .i64 a1_6, .int .i64 a1_7, .string a1_8, .int .i64 a1_9, .slice A1_10 l1_10.length c1_10, .slice A1_11 l1_11.length c1_11]) (t := 32) ?hr ?_; (case hd => rfl); (case hg => rfl); (case hr => first | (go_simp; done) | (go_simp; rfl)); intro gb168 hg w97 hbox hb; have n0_ := mk_ (bB_ BK167 hb); have n1_ := mk_ (below_step (Short.hB HB) hb); have n2_ := mk_ (hbox); have n3_ := mk_ ((by rw [hg]; exact (below_size (Short.hB HB)) : w.heap.size ≤ gb168)); have n4_ := mk_ ((by rw [hg]; exact (below_size (Short.hB HB)) : w.heap.size ≤ gb168)); have n5_ := mk_ ((by rw [hg]; exact Nat.ne_of_lt (blk_lt (g := gb167) (o := .cells #[.int .i64 a0_0, .int .i64 a0_1, .slice A0_2 l0_2.length c0_2, .int .i64 a0_3, .int .i64 a0_4, .int .i64 a0_5, .int .i64 a0_6, .int .i64 a0_7, .string a0_8, .int .i64 a0_9, .slice A0_10 l0_10.length c0_10, .slice A0_11 l0_11.length c0_11] 32 (0, 0)) (Short.bK BK167)) : gb167 ≠ gb168)); have n6_ := mk_ ((by rw [hg]; exact Nat.ne_of_gt (blk_lt (g := gb167) (o := .cells #[.int .i64 a0_0, .int .i64 a0_1, .slice A0_2 l0_2.length c0_2, .int .i64 a0_3, .int .i64 a0_4, .int .i64 a0_5, .int .i64 a0_6, .int .i64 a0_7, .string a0_8, .int .i64 a0_9, .slice A0_10 l0_10.length c0_10, .slice A0_11 l0_11.length c0_11] 32 (0, 0)) (Short.bK BK167)) : gb168 ≠ gb167)); clear BK167 HB; revert n0_ n1_ n2_ n3_ n4_ n5_ n6_; intro BK167 HB BK168 GW168 GE168 NB167_168 NB168_167; clear hb hbox hg; have hnb98 := NB167_168.out; have hnc98 := NB168_167.out; have hcz99_0 : w97.cell? ⟨gb167, 0, none⟩ = some (.int .i64 a0_0) := kc_ BK167 0; have hcz99_1 : w97.cell? ⟨gb167, 1, none⟩ = some (.int .i64 a0_1) := kc_ BK167 1; have hcz99_2 : w97.cell? ⟨gb167, 2, none⟩ = some (.slice A0_2 l0_2.length c0_2) := kc_ BK167 2; have hcz99_3 : w97.cell? ⟨gb167, 3, none⟩ = some (.int .i64 a0_3) := kc_ BK167 3; have hcz99_4 : w97.cell? ⟨gb167, 4, none⟩ = some (.int .i64 a0_4) := kc_ BK167 4; have hcz99_5 : w97.cell? ⟨gb167, 5, none⟩ = some (.int .i64 a0_5) := kc_ BK167 5; have hcz99_6 : w97.cell? ⟨gb167, 6, none⟩ = some (.int .i64 a0_6) := kc_ BK167 6; have hcz99_7 : w97.cell? ⟨gb167, 7, none⟩ = some (.int .i64 a0_7) := kc_ BK167 7; have hcz99_8 : w97.cell? ⟨gb167, 8, none⟩ = some (.string a0_8) := kc_ BK167 8; have hcz99_9 : w97.cell? ⟨gb167, 9, none⟩ = some (.int .i64 a0_9) := kc_ BK167 9; have hcz99_10 : w97.cell? ⟨gb167, 10, none⟩ = some (.slice A0_10 l0_10.length c0_10) := kc_ BK167 10; have hcz99_11 : w97.cell? ⟨gb167, 11, none⟩ = some (.slice A0_11 l0_11.length c0_11) := kc_ BK167 11; have hfz99_0 := blk_frozen BK167.out; have hcz100_0 : w97.cell? ⟨gb168, 0, none⟩ = some (.int .i64 a1_0) := kc_ BK168 0; have hcz100_1 : w97.cell? ⟨gb168, 1, none⟩ = some (.int .i64 a1_1) := kc_ BK168 1; have hcz100_2 : w97.cell? ⟨gb168, 2, none⟩ = some (.slice A1_2 l1_2.length c1_2) := kc_ BK168 2; have hcz100_3 : w97.cell? ⟨gb168, 3, none⟩ = some (.int .i64 a1_3) := kc_ BK168 3; have hcz100_4 : w97.cell? ⟨gb168, 4, none⟩ = some (.int .i64 a1_4) := kc_ BK168 4; have hcz100_5 : w97.cell? ⟨gb168, 5, none⟩ = some (.int .i64 a1_5) := kc_ BK168 5; have hcz100_6 : w97.cell? ⟨gb168, 6, none⟩ = some (.int .i64 a1_6) := kc_ BK168 6; have hcz100_7 : w97.cell? ⟨gb168, 7, none⟩ = some (.int .i64 a1_7) := kc_ BK168 7; have hcz100_8 : w97.cell? ⟨gb168, 8, none⟩ = some (.string a1_8) := kc_ BK168 8; have hcz100_9 : w97.cell? ⟨gb168, 9, none⟩ = some (.int .i64 a1_9) := kc_ BK168 9; have hcz100_10 : w97.cell? ⟨gb168, 10, none⟩ = some (.slice A1_10 l1_10.length c1_10) := kc_ BK168 10; have hcz100_11 : w97.cell? ⟨gb168, 11, none⟩ = some (.slice A1_11 l1_11.length c1_11) := kc_ BK168 11; have hfz100_0 := blk_frozen BK168.out) | ((with_reducible refine gate_callee (f := 29) rfl ?_); refine Short.gL (some 9) Try.func29 #[.agg #[.int .i64 a0_0, .int .i64 a0_1], .agg #[.int .i64 a1_0, .int .i64 a1_1]] (h := ?_); (with_reducible refine (raddlekeep_Dot.calls a0_0 a0_1 a1_0 a1_1 true _ A3.out).mono ?_); rintro e w101 ⟨rfl, hb⟩; refine ⟨_, rfl, ?_⟩; have n0_ := mk_ (bB_ BK167 hb); have n1_ := mk_ (bB_ BK168 hb); have n2_ := mk_ (below_step (Short.hB HB) hb); clear BK167 BK168 HB; revert n0_ n1_ n2_; intro BK167 BK168 HB; (try clear hb); have hcz102_0 : w101.cell? ⟨gb167, 0, none⟩ = some (.int .i64 a0_0) := kc_ BK167 0; have hcz102_1 : w101.cell? ⟨gb167, 1, none⟩ = some (.int .i64 a0_1) := kc_ BK167 1; have hcz102_2 : w101.cell? ⟨gb167, 2, none⟩ = some (.slice A0_2 l0_2.length c0_2) := kc_ BK167 2; have hcz102_3 : w101.cell? ⟨gb167, 3, none⟩ = some (.int .i64 a0_3) := kc_ BK167 3; have hcz102_4 : w101.cell? ⟨gb167, 4, none⟩ = some (.int .i64 a0_4) := kc_ BK167 4; have hcz102_5 : w101.cell? ⟨gb167, 5, none⟩ = some (.int .i64 a0_5) := kc_ BK167 5; have hcz102_6 : w101.cell? ⟨gb167, 6, none⟩ = some (.int .i64 a0_6) := kc_ BK167 6; have hcz102_7 : w101.cell? ⟨gb167, 7, none⟩ = some (.int .i64 a0_7) := kc_ BK167 7; have hcz102_8 : w101.cell? ⟨gb167, 8, none⟩ = some (.string a0_8) := kc_ BK167 8; have hcz102_9 : w101.cell? ⟨gb167, 9, none⟩ = some (.int .i64 a0_9) := kc_ BK167 9; have hcz102_10 : w101.cell? ⟨gb167, 10, none⟩ = some (.slice A0_10 l0_10.length c0_10) := kc_ BK167 10; have hcz102_11 : w101.cell? ⟨gb167, 11, none⟩ = some (.slice A0_11 l0_11.length c0_11) := kc_ BK167 11; have hfz102_0 := blk_frozen BK167.out; have hcz103_0 : w101.cell? ⟨gb168, 0, none⟩ = some (.int .i64 a1_0) := kc_ BK168 0; have hcz103_1 : w101.cell? ⟨gb168, 1, none⟩ = some (.int .i64 a1_1) := kc_ BK168 1; have hcz103_2 : w101.cell? ⟨gb168, 2, none⟩ = some (.slice A1_2 l1_2.length c1_2) := kc_ BK168 2; have hcz103_3 : w101.cell? ⟨gb168, 3, none⟩ = some (.int .i64 a1_3) := kc_ BK168 3; have hcz103_4 : w101.cell? ⟨gb168, 4, none⟩ = some (.int .i64 a1_4) := kc_ BK168 4; have hcz103_5 : w101.cell? ⟨gb168, 5, none⟩ = some (.int .i64 a1_5) := kc_ BK168 5; have hcz103_6 : w101.cell? ⟨gb168, 6, none⟩ = some (.int .i64 a1_6) := kc_ BK168 6; have hcz103_7 : w101.cell? ⟨gb168, 7, none⟩ = some (.int .i64 a1_7) := kc_ BK168 7; have hcz103_8 : w101.cell? ⟨gb168, 8, none⟩ = some (.string a1_8) := kc_ BK168 8; have hcz103_9 : w101.cell? ⟨gb168, 9, none⟩ = some (.int .i64 a1_9) := kc_ BK168 9; have hcz103_10 : w101.cell? ⟨gb168, 10, none⟩ = some (.slice A1_10 l1_10.length c1_10) := kc_ BK168 10; have hcz103_11 : w101.cell? ⟨gb168, 11, none⟩ = some (.slice A1_11 l1_11.length c1_11) := kc_ BK168 11; have hfz103_0 := blk_frozen BK168.out) | (go_at_call 30; (with_reducible refine (raddlekeep_Ints.calls k _ _ l0_2 _ _ l1_2 false _ ?side1 ?side2 ?side3 ?side4 A5.out).mono ?_); (case side1 => exact cX_ (C_below HR0_2.out HB.out)); (case side2 => exact HC0_2.out); (case side3 => exact cX_ (C_below HR1_2.out HB.out)); (case side4 => exact HC1_2.out); rintro e w' ⟨rfl, ⟨nd, rfl⟩⟩))
  go_ret
  exact ⟨q0, Short.hB HB⟩
 subst c6
 have H1 : ((raddlekeep_Stamp.f a0_3 a0_4 a0_5 a1_3 a1_4 a1_5).bind fun t171 => (if t171 = true then (if a0_6 = a1_6 then (if a0_7 = a1_7 then (if a0_8.toList = a1_8.toList then (if a0_9 = a1_9 then ((raddlekeep_Row.f k l0_10 l1_10).bind fun t172 => (if t172 = true then ((raddlekeep_Dots.f k l0_11 l1_11).bind fun t173 => (some t173)) else (some false))) else (some false)) else (some false)) else (some false)) else (some false)) else (some false))) = some r := by rw [if_pos rfl] at H; exact H
 clear H
 have H := H1
 clear H1
 replace H := Option.bind_eq_some_iff.mp H
 obtain ⟨t171, A70, H⟩ := H
 replace H : (if t171 = true then (if a0_6 = a1_6 then (if a0_7 = a1_7 then (if a0_8.toList = a1_8.toList then (if a0_9 = a1_9 then ((raddlekeep_Row.f k l0_10 l1_10).bind fun t172 => (if t172 = true then ((raddlekeep_Dots.f k l0_11 l1_11).bind fun t173 => (some t173)) else (some false))) else (some false)) else (some false)) else (some false)) else (some false)) else (some false)) = some r := H
 have A7 := mk_ A70
 clear A70
 by_cases c8 : t171 = true
 rotate_left
 ·
  replace c8 := Bool.eq_false_iff.mpr c8
  subst c8
  have H1 : (some false) = some r := by rw [if_neg (show ¬ (false = true) by decide)] at H; exact H
  clear H
  have H := H1
  clear H1
  obtain rfl := Option.some.inj H
  go_enter Try.func13, Try.ntmps13
  go_wp2_with (first | ((with_reducible refine gate_dst (N := 2) rfl ?_); refine box_event ?hg (N := 2) ?hd (cs := #[.int .i64 a0_0, .int .i64 a0_1, .slice A0_2 l0_2.length c0_2, .int .i64 a0_3, .int .i64 a0_4, .int .i64 a0_5, .int .i64 a0_6, .int .i64 a0_7, .string a0_8, .int .i64 a0_9, .slice A0_10 l0_10.length c0_10, .slice A0_11 l0_11.length c0_11]) (t := 32) ?hr ?_; (case hd => rfl); (case hg => rfl); (case hr => first | (go_simp; done) | (go_simp; rfl)); intro gb167 hg w87 hbox hb; have n0_ := mk_ (below_step (Short.hB HB) hb); have n1_ := mk_ (hbox); have n2_ := mk_ ((by rw [hg]; exact (below_size (Short.hB HB)) : w.heap.size ≤ gb167)); have n3_ := mk_ ((by rw [hg]; exact (below_size (Short.hB HB)) : w.heap.size ≤ gb167)); clear HB; revert n0_ n1_ n2_ n3_; intro HB BK167 GW167 GE167; clear hb hbox hg) | ((with_reducible refine gate_dst (N := 3) rfl ?_); refine box_event ?hg (N := 3) ?hd (cs := #[.int .i64 a1_0, .int .i64 a1_1, .slice A1_2 l1_2.length c1_2, .int .i64 a1_3, .int .i64 a1_4, .int .i64 a1_5, .int .i64 a1_6, .int .i64 a1_7, .string a1_8, .int .i64 a1_9, .slice A1_10 l1_10.length c1_10, .slice A1_11 l1_11.length c1_11]) (t := 32) ?hr ?_; (case hd => rfl); (case hg => rfl); (case hr => first | (go_simp; done) | (go_simp; rfl)); intro gb168 hg w88 hbox hb; have n0_ := mk_ (bB_ BK167 hb); have n1_ := mk_ (below_step (Short.hB HB) hb); have n2_ := mk_ (hbox); have n3_ := mk_ ((by rw [hg]; exact (below_size (Short.hB HB)) : w.heap.size ≤ gb168)); have n4_ := mk_ ((by rw [hg]; exact (below_size (Short.hB HB)) : w.heap.size ≤ gb168)); have n5_ := mk_ ((by rw [hg]; exact Nat.ne_of_lt (blk_lt (g := gb167) (o := .cells #[.int .i64 a0_0, .int .i64 a0_1, .slice A0_2 l0_2.length c0_2, .int .i64 a0_3, .int .i64 a0_4, .int .i64 a0_5, .int .i64 a0_6, .int .i64 a0_7, .string a0_8, .int .i64 a0_9, .slice A0_10 l0_10.length c0_10, .slice A0_11 l0_11.length c0_11] 32 (0, 0)) (Short.bK BK167)) : gb167 ≠ gb168)); have n6_ := mk_ ((by rw [hg]; exact Nat.ne_of_gt (blk_lt (g := gb167) (o := .cells #[.int .i64 a0_0, .int .i64 a0_1, .slice A0_2 l0_2.length c0_2, .int .i64 a0_3, .int .i64 a0_4, .int .i64 a0_5, .int .i64 a0_6, .int .i64 a0_7, .string a0_8, .int .i64 a0_9, .slice A0_10 l0_10.length c0_10, .slice A0_11 l0_11.length c0_11] 32 (0, 0)) (Short.bK BK167)) : gb168 ≠ gb167)); clear BK167 HB; revert n0_ n1_ n2_ n3_ n4_ n5_ n6_; intro BK167 HB BK168 GW168 GE168 NB167_168 NB168_167; clear hb hbox hg; have hnb89 := NB167_168.out; have hnc89 := NB168_167.out; have hcz90_0 : w88.cell? ⟨gb167, 0, none⟩ = some (.int .i64 a0_0) := kc_ BK167 0; have hcz90_1 : w88.cell? ⟨gb167, 1, none⟩ = some (.int .i64 a0_1) := kc_ BK167 1; have hcz90_2 : w88.cell? ⟨gb167, 2, none⟩ = some (.slice A0_2 l0_2.length c0_2) := kc_ BK167 2; have hcz90_3 : w88.cell? ⟨gb167, 3, none⟩ = some (.int .i64 a0_3) := kc_ BK167 3; have hcz90_4 : w88.cell? ⟨gb167, 4, none⟩ = some (.int .i64 a0_4) := kc_ BK167 4; have hcz90_5 : w88.cell? ⟨gb167, 5, none⟩ = some (.int .i64 a0_5) := kc_ BK167 5; have hcz90_6 : w88.cell? ⟨gb167, 6, none⟩ = some (.int .i64 a0_6) := kc_ BK167 6; have hcz90_7 : w88.cell? ⟨gb167, 7, none⟩ = some (.int .i64 a0_7) := kc_ BK167 7; have hcz90_8 : w88.cell? ⟨gb167, 8, none⟩ = some (.string a0_8) := kc_ BK167 8; have hcz90_9 : w88.cell? ⟨gb167, 9, none⟩ = some (.int .i64 a0_9) := kc_ BK167 9; have hcz90_10 : w88.cell? ⟨gb167, 10, none⟩ = some (.slice A0_10 l0_10.length c0_10) := kc_ BK167 10; have hcz90_11 : w88.cell? ⟨gb167, 11, none⟩ = some (.slice A0_11 l0_11.length c0_11) := kc_ BK167 11; have hfz90_0 := blk_frozen BK167.out; have hcz91_0 : w88.cell? ⟨gb168, 0, none⟩ = some (.int .i64 a1_0) := kc_ BK168 0; have hcz91_1 : w88.cell? ⟨gb168, 1, none⟩ = some (.int .i64 a1_1) := kc_ BK168 1; have hcz91_2 : w88.cell? ⟨gb168, 2, none⟩ = some (.slice A1_2 l1_2.length c1_2) := kc_ BK168 2; have hcz91_3 : w88.cell? ⟨gb168, 3, none⟩ = some (.int .i64 a1_3) := kc_ BK168 3; have hcz91_4 : w88.cell? ⟨gb168, 4, none⟩ = some (.int .i64 a1_4) := kc_ BK168 4; have hcz91_5 : w88.cell? ⟨gb168, 5, none⟩ = some (.int .i64 a1_5) := kc_ BK168 5; have hcz91_6 : w88.cell? ⟨gb168, 6, none⟩ = some (.int .i64 a1_6) := kc_ BK168 6; have hcz91_7 : w88.cell? ⟨gb168, 7, none⟩ = some (.int .i64 a1_7) := kc_ BK168 7; have hcz91_8 : w88.cell? ⟨gb168, 8, none⟩ = some (.string a1_8) := kc_ BK168 8; have hcz91_9 : w88.cell? ⟨gb168, 9, none⟩ = some (.int .i64 a1_9) := kc_ BK168 9; have hcz91_10 : w88.cell? ⟨gb168, 10, none⟩ = some (.slice A1_10 l1_10.length c1_10) := kc_ BK168 10; have hcz91_11 : w88.cell? ⟨gb168, 11, none⟩ = some (.slice A1_11 l1_11.length c1_11) := kc_ BK168 11; have hfz91_0 := blk_frozen BK168.out) | ((with_reducible refine gate_callee (f := 29) rfl ?_); refine Short.gL (some 9) Try.func29 #[.agg #[.int .i64 a0_0, .int .i64 a0_1], .agg #[.int .i64 a1_0, .int .i64 a1_1]] (h := ?_); (with_reducible refine (raddlekeep_Dot.calls a0_0 a0_1 a1_0 a1_1 true _ A3.out).mono ?_); rintro e w92 ⟨rfl, hb⟩; refine ⟨_, rfl, ?_⟩; have n0_ := mk_ (bB_ BK167 hb); have n1_ := mk_ (bB_ BK168 hb); have n2_ := mk_ (below_step (Short.hB HB) hb); clear BK167 BK168 HB; revert n0_ n1_ n2_; intro BK167 BK168 HB; (try clear hb); have hcz93_0 : w92.cell? ⟨gb167, 0, none⟩ = some (.int .i64 a0_0) := kc_ BK167 0; have hcz93_1 : w92.cell? ⟨gb167, 1, none⟩ = some (.int .i64 a0_1) := kc_ BK167 1; have hcz93_2 : w92.cell? ⟨gb167, 2, none⟩ = some (.slice A0_2 l0_2.length c0_2) := kc_ BK167 2; have hcz93_3 : w92.cell? ⟨gb167, 3, none⟩ = some (.int .i64 a0_3) := kc_ BK167 3; have hcz93_4 : w92.cell? ⟨gb167, 4, none⟩ = some (.int .i64 a0_4) := kc_ BK167 4; have hcz93_5 : w92.cell? ⟨gb167, 5, none⟩ = some (.int .i64 a0_5) := kc_ BK167 5; have hcz93_6 : w92.cell? ⟨gb167, 6, none⟩ = some (.int .i64 a0_6) := kc_ BK167 6; have hcz93_7 : w92.cell? ⟨gb167, 7, none⟩ = some (.int .i64 a0_7) := kc_ BK167 7; have hcz93_8 : w92.cell? ⟨gb167, 8, none⟩ = some (.string a0_8) := kc_ BK167 8; have hcz93_9 : w92.cell? ⟨gb167, 9, none⟩ = some (.int .i64 a0_9) := kc_ BK167 9; have hcz93_10 : w92.cell? ⟨gb167, 10, none⟩ = some (.slice A0_10 l0_10.length c0_10) := kc_ BK167 10; have hcz93_11 : w92.cell? ⟨gb167, 11, none⟩ = some (.slice A0_11 l0_11.length c0_11) := kc_ BK167 11; have hfz93_0 := blk_frozen BK167.out; have hcz94_0 : w92.cell? ⟨gb168, 0, none⟩ = some (.int .i64 a1_0) := kc_ BK168 0; have hcz94_1 : w92.cell? ⟨gb168, 1, none⟩ = some (.int .i64 a1_1) := kc_ BK168 1; have hcz94_2 : w92.cell? ⟨gb168, 2, none⟩ = some (.slice A1_2 l1_2.length c1_2) := kc_ BK168 2; have hcz94_3 : w92.cell? ⟨gb168, 3, none⟩ = some (.int .i64 a1_3) := kc_ BK168 3; have hcz94_4 : w92.cell? ⟨gb168, 4, none⟩ = some (.int .i64 a1_4) := kc_ BK168 4; have hcz94_5 : w92.cell? ⟨gb168, 5, none⟩ = some (.int .i64 a1_5) := kc_ BK168 5; have hcz94_6 : w92.cell? ⟨gb168, 6, none⟩ = some (.int .i64 a1_6) := kc_ BK168 6; have hcz94_7 : w92.cell? ⟨gb168, 7, none⟩ = some (.int .i64 a1_7) := kc_ BK168 7; have hcz94_8 : w92.cell? ⟨gb168, 8, none⟩ = some (.string a1_8) := kc_ BK168 8; have hcz94_9 : w92.cell? ⟨gb168, 9, none⟩ = some (.int .i64 a1_9) := kc_ BK168 9; have hcz94_10 : w92.cell? ⟨gb168, 10, none⟩ = some (.slice A1_10 l1_10.length c1_10) := kc_ BK168 10; have hcz94_11 : w92.cell? ⟨gb168, 11, none⟩ = some (.slice A1_11 l1_11.length c1_11) := kc_ BK168 11; have hfz94_0 := blk_frozen BK168.out) | (go_at_call 30; (with_reducible refine (raddlekeep_Ints.calls k _ _ l0_2 _ _ l1_2 true _ ?side1 ?side2 ?side3 ?side4 A5.out).mono ?_); (case side1 => exact cX_ (C_below HR0_2.out HB.out)); (case side2 => exact HC0_2.out); (case side3 => exact cX_ (C_below HR1_2.out HB.out)); (case side4 => exact HC1_2.out); rintro e w' ⟨rfl, ⟨nd, rfl⟩⟩) | (go_at_call 31; (with_reducible refine (raddlekeep_Stamp.calls a0_3 a0_4 a0_5 a1_3 a1_4 a1_5 false _ A7.out).mono ?_); rintro e w95 ⟨rfl, hb⟩; have n0_ := mk_ (bB_ BK167 hb); have n1_ := mk_ (bB_ BK168 hb); have n2_ := mk_ (below_step (Short.hB HB) hb); clear BK167 BK168 HB; revert n0_ n1_ n2_; intro BK167 BK168 HB; (try clear hb); (try clear hb2); (try clear hk); (try clear hi)))
  go_ret
  exact ⟨q0, Short.hB HB⟩
 subst c8
 have H1 : (if a0_6 = a1_6 then (if a0_7 = a1_7 then (if a0_8.toList = a1_8.toList then (if a0_9 = a1_9 then ((raddlekeep_Row.f k l0_10 l1_10).bind fun t172 => (if t172 = true then ((raddlekeep_Dots.f k l0_11 l1_11).bind fun t173 => (some t173)) else (some false))) else (some false)) else (some false)) else (some false)) else (some false)) = some r := by rw [if_pos rfl] at H; exact H
 clear H
 have H := H1
 clear H1
 by_cases c9 : a0_6 = a1_6
 rotate_left
 ·
  rw [if_neg c9] at H
  have c9b0 : (a0_6 == a1_6) = false := beq_eq_false_iff_ne.mpr c9
  have c9b1 : (a0_6 != a1_6) = true := bne_iff_ne.mpr c9
  obtain rfl := Option.some.inj H
  go_enter Try.func13, Try.ntmps13
  go_wp2_with (first | ((with_reducible refine gate_dst (N := 2) rfl ?_); refine box_event ?hg (N := 2) ?hd (cs := #[.int .i64 a0_0, .int .i64 a0_1, .slice A0_2 l0_2.length c0_2, .int .i64 a0_3, .int .i64 a0_4, .int .i64 a0_5, .int .i64 a0_6, .int .i64 a0_7, .string a0_8, .int .i64 a0_9, .slice A0_10 l0_10.length c0_10, .slice A0_11 l0_11.length c0_11]) (t := 32) ?hr ?_; (case hd => rfl); (case hg => rfl); (case hr => first | (go_simp; done) | (go_simp; rfl)); intro gb167 hg w76 hbox hb; have n0_ := mk_ (below_step (Short.hB HB) hb); have n1_ := mk_ (hbox); have n2_ := mk_ ((by rw [hg]; exact (below_size (Short.hB HB)) : w.heap.size ≤ gb167)); have n3_ := mk_ ((by rw [hg]; exact (below_size (Short.hB HB)) : w.heap.size ≤ gb167)); clear HB; revert n0_ n1_ n2_ n3_; intro HB BK167 GW167 GE167; clear hb hbox hg) | ((with_reducible refine gate_dst (N := 3) rfl ?_); refine box_event ?hg (N := 3) ?hd (cs := #[.int .i64 a1_0, .int .i64 a1_1, .slice A1_2 l1_2.length c1_2, .int .i64 a1_3, .int .i64 a1_4, .int .i64 a1_5, .int .i64 a1_6, .int .i64 a1_7, .string a1_8, .int .i64 a1_9, .slice A1_10 l1_10.length c1_10, .slice A1_11 l1_11.length c1_11]) (t := 32) ?hr ?_; (case hd => rfl); (case hg => rfl); (case hr => first | (go_simp; done) | (go_simp; rfl)); intro gb168 hg w77 hbox hb; have n0_ := mk_ (bB_ BK167 hb); have n1_ := mk_ (below_step (Short.hB HB) hb); have n2_ := mk_ (hbox); have n3_ := mk_ ((by rw [hg]; exact (below_size (Short.hB HB)) : w.heap.size ≤ gb168)); have n4_ := mk_ ((by rw [hg]; exact (below_size (Short.hB HB)) : w.heap.size ≤ gb168)); have n5_ := mk_ ((by rw [hg]; exact Nat.ne_of_lt (blk_lt (g := gb167) (o := .cells #[.int .i64 a0_0, .int .i64 a0_1, .slice A0_2 l0_2.length c0_2, .int .i64 a0_3, .int .i64 a0_4, .int .i64 a0_5, .int .i64 a0_6, .int .i64 a0_7, .string a0_8, .int .i64 a0_9, .slice A0_10 l0_10.length c0_10, .slice A0_11 l0_11.length c0_11] 32 (0, 0)) (Short.bK BK167)) : gb167 ≠ gb168)); have n6_ := mk_ ((by rw [hg]; exact Nat.ne_of_gt (blk_lt (g := gb167) (o := .cells #[.int .i64 a0_0, .int .i64 a0_1, .slice A0_2 l0_2.length c0_2, .int .i64 a0_3, .int .i64 a0_4, .int .i64 a0_5, .int .i64 a0_6, .int .i64 a0_7, .string a0_8, .int .i64 a0_9, .slice A0_10 l0_10.length c0_10, .slice A0_11 l0_11.length c0_11] 32 (0, 0)) (Short.bK BK167)) : gb168 ≠ gb167)); clear BK167 HB; revert n0_ n1_ n2_ n3_ n4_ n5_ n6_; intro BK167 HB BK168 GW168 GE168 NB167_168 NB168_167; clear hb hbox hg; have hnb78 := NB167_168.out; have hnc78 := NB168_167.out; have hcz79_0 : w77.cell? ⟨gb167, 0, none⟩ = some (.int .i64 a0_0) := kc_ BK167 0; have hcz79_1 : w77.cell? ⟨gb167, 1, none⟩ = some (.int .i64 a0_1) := kc_ BK167 1; have hcz79_2 : w77.cell? ⟨gb167, 2, none⟩ = some (.slice A0_2 l0_2.length c0_2) := kc_ BK167 2; have hcz79_3 : w77.cell? ⟨gb167, 3, none⟩ = some (.int .i64 a0_3) := kc_ BK167 3; have hcz79_4 : w77.cell? ⟨gb167, 4, none⟩ = some (.int .i64 a0_4) := kc_ BK167 4; have hcz79_5 : w77.cell? ⟨gb167, 5, none⟩ = some (.int .i64 a0_5) := kc_ BK167 5; have hcz79_6 : w77.cell? ⟨gb167, 6, none⟩ = some (.int .i64 a0_6) := kc_ BK167 6; have hcz79_7 : w77.cell? ⟨gb167, 7, none⟩ = some (.int .i64 a0_7) := kc_ BK167 7; have hcz79_8 : w77.cell? ⟨gb167, 8, none⟩ = some (.string a0_8) := kc_ BK167 8; have hcz79_9 : w77.cell? ⟨gb167, 9, none⟩ = some (.int .i64 a0_9) := kc_ BK167 9; have hcz79_10 : w77.cell? ⟨gb167, 10, none⟩ = some (.slice A0_10 l0_10.length c0_10) := kc_ BK167 10; have hcz79_11 : w77.cell? ⟨gb167, 11, none⟩ = some (.slice A0_11 l0_11.length c0_11) := kc_ BK167 11; have hfz79_0 := blk_frozen BK167.out; have hcz80_0 : w77.cell? ⟨gb168, 0, none⟩ = some (.int .i64 a1_0) := kc_ BK168 0; have hcz80_1 : w77.cell? ⟨gb168, 1, none⟩ = some (.int .i64 a1_1) := kc_ BK168 1; have hcz80_2 : w77.cell? ⟨gb168, 2, none⟩ = some (.slice A1_2 l1_2.length c1_2) := kc_ BK168 2; have hcz80_3 : w77.cell? ⟨gb168, 3, none⟩ = some (.int .i64 a1_3) := kc_ BK168 3; have hcz80_4 : w77.cell? ⟨gb168, 4, none⟩ = some (.int .i64 a1_4) := kc_ BK168 4; have hcz80_5 : w77.cell? ⟨gb168, 5, none⟩ = some (.int .i64 a1_5) := kc_ BK168 5; have hcz80_6 : w77.cell? ⟨gb168, 6, none⟩ = some (.int .i64 a1_6) := kc_ BK168 6; have hcz80_7 : w77.cell? ⟨gb168, 7, none⟩ = some (.int .i64 a1_7) := kc_ BK168 7; have hcz80_8 : w77.cell? ⟨gb168, 8, none⟩ = some (.string a1_8) := kc_ BK168 8; have hcz80_9 : w77.cell? ⟨gb168, 9, none⟩ = some (.int .i64 a1_9) := kc_ BK168 9; have hcz80_10 : w77.cell? ⟨gb168, 10, none⟩ = some (.slice A1_10 l1_10.length c1_10) := kc_ BK168 10; have hcz80_11 : w77.cell? ⟨gb168, 11, none⟩ = some (.slice A1_11 l1_11.length c1_11) := kc_ BK168 11; have hfz80_0 := blk_frozen BK168.out) | ((with_reducible refine gate_callee (f := 29) rfl ?_); refine Short.gL (some 9) Try.func29 #[.agg #[.int .i64 a0_0, .int .i64 a0_1], .agg #[.int .i64 a1_0, .int .i64 a1_1]] (h := ?_); (with_reducible refine (raddlekeep_Dot.calls a0_0 a0_1 a1_0 a1_1 true _ A3.out).mono ?_); rintro e w81 ⟨rfl, hb⟩; refine ⟨_, rfl, ?_⟩; have n0_ := mk_ (bB_ BK167 hb); have n1_ := mk_ (bB_ BK168 hb); have n2_ := mk_ (below_step (Short.hB HB) hb); clear BK167 BK168 HB; revert n0_ n1_ n2_; intro BK167 BK168 HB; (try clear hb); have hcz82_0 : w81.cell? ⟨gb167, 0, none⟩ = some (.int .i64 a0_0) := kc_ BK167 0; have hcz82_1 : w81.cell? ⟨gb167, 1, none⟩ = some (.int .i64 a0_1) := kc_ BK167 1; have hcz82_2 : w81.cell? ⟨gb167, 2, none⟩ = some (.slice A0_2 l0_2.length c0_2) := kc_ BK167 2; have hcz82_3 : w81.cell? ⟨gb167, 3, none⟩ = some (.int .i64 a0_3) := kc_ BK167 3; have hcz82_4 : w81.cell? ⟨gb167, 4, none⟩ = some (.int .i64 a0_4) := kc_ BK167 4; have hcz82_5 : w81.cell? ⟨gb167, 5, none⟩ = some (.int .i64 a0_5) := kc_ BK167 5; have hcz82_6 : w81.cell? ⟨gb167, 6, none⟩ = some (.int .i64 a0_6) := kc_ BK167 6; have hcz82_7 : w81.cell? ⟨gb167, 7, none⟩ = some (.int .i64 a0_7) := kc_ BK167 7; have hcz82_8 : w81.cell? ⟨gb167, 8, none⟩ = some (.string a0_8) := kc_ BK167 8; have hcz82_9 : w81.cell? ⟨gb167, 9, none⟩ = some (.int .i64 a0_9) := kc_ BK167 9; have hcz82_10 : w81.cell? ⟨gb167, 10, none⟩ = some (.slice A0_10 l0_10.length c0_10) := kc_ BK167 10; have hcz82_11 : w81.cell? ⟨gb167, 11, none⟩ = some (.slice A0_11 l0_11.length c0_11) := kc_ BK167 11; have hfz82_0 := blk_frozen BK167.out; have hcz83_0 : w81.cell? ⟨gb168, 0, none⟩ = some (.int .i64 a1_0) := kc_ BK168 0; have hcz83_1 : w81.cell? ⟨gb168, 1, none⟩ = some (.int .i64 a1_1) := kc_ BK168 1; have hcz83_2 : w81.cell? ⟨gb168, 2, none⟩ = some (.slice A1_2 l1_2.length c1_2) := kc_ BK168 2; have hcz83_3 : w81.cell? ⟨gb168, 3, none⟩ = some (.int .i64 a1_3) := kc_ BK168 3; have hcz83_4 : w81.cell? ⟨gb168, 4, none⟩ = some (.int .i64 a1_4) := kc_ BK168 4; have hcz83_5 : w81.cell? ⟨gb168, 5, none⟩ = some (.int .i64 a1_5) := kc_ BK168 5; have hcz83_6 : w81.cell? ⟨gb168, 6, none⟩ = some (.int .i64 a1_6) := kc_ BK168 6; have hcz83_7 : w81.cell? ⟨gb168, 7, none⟩ = some (.int .i64 a1_7) := kc_ BK168 7; have hcz83_8 : w81.cell? ⟨gb168, 8, none⟩ = some (.string a1_8) := kc_ BK168 8; have hcz83_9 : w81.cell? ⟨gb168, 9, none⟩ = some (.int .i64 a1_9) := kc_ BK168 9; have hcz83_10 : w81.cell? ⟨gb168, 10, none⟩ = some (.slice A1_10 l1_10.length c1_10) := kc_ BK168 10; have hcz83_11 : w81.cell? ⟨gb168, 11, none⟩ = some (.slice A1_11 l1_11.length c1_11) := kc_ BK168 11; have hfz83_0 := blk_frozen BK168.out) | (go_at_call 30; (with_reducible refine (raddlekeep_Ints.calls k _ _ l0_2 _ _ l1_2 true _ ?side1 ?side2 ?side3 ?side4 A5.out).mono ?_); (case side1 => exact cX_ (C_below HR0_2.out HB.out)); (case side2 => exact HC0_2.out); (case side3 => exact cX_ (C_below HR1_2.out HB.out)); (case side4 => exact HC1_2.out); rintro e w' ⟨rfl, ⟨nd, rfl⟩⟩) | (go_at_call 31; (with_reducible refine (raddlekeep_Stamp.calls a0_3 a0_4 a0_5 a1_3 a1_4 a1_5 true _ A7.out).mono ?_); rintro e w84 ⟨rfl, hb⟩; have n0_ := mk_ (bB_ BK167 hb); have n1_ := mk_ (bB_ BK168 hb); have n2_ := mk_ (below_step (Short.hB HB) hb); clear BK167 BK168 HB; revert n0_ n1_ n2_; intro BK167 BK168 HB; (try clear hb); (try clear hb2); (try clear hk); (try clear hi); have hcz85_0 : w84.cell? ⟨gb167, 0, none⟩ = some (.int .i64 a0_0) := kc_ BK167 0; have hcz85_1 : w84.cell? ⟨gb167, 1, none⟩ = some (.int .i64 a0_1) := kc_ BK167 1; have hcz85_2 : w84.cell? ⟨gb167, 2, none⟩ = some (.slice A0_2 l0_2.length c0_2) := kc_ BK167 2; have hcz85_3 : w84.cell? ⟨gb167, 3, none⟩ = some (.int .i64 a0_3) := kc_ BK167 3; have hcz85_4 : w84.cell? ⟨gb167, 4, none⟩ = some (.int .i64 a0_4) := kc_ BK167 4; have hcz85_5 : w84.cell? ⟨gb167, 5, none⟩ = some (.int .i64 a0_5) := kc_ BK167 5; have hcz85_6 : w84.cell? ⟨gb167, 6, none⟩ = some (.int .i64 a0_6) := kc_ BK167 6; have hcz85_7 : w84.cell? ⟨gb167, 7, none⟩ = some (.int .i64 a0_7) := kc_ BK167 7; have hcz85_8 : w84.cell? ⟨gb167, 8, none⟩ = some (.string a0_8) := kc_ BK167 8; have hcz85_9 : w84.cell? ⟨gb167, 9, none⟩ = some (.int .i64 a0_9) := kc_ BK167 9; have hcz85_10 : w84.cell? ⟨gb167, 10, none⟩ = some (.slice A0_10 l0_10.length c0_10) := kc_ BK167 10; have hcz85_11 : w84.cell? ⟨gb167, 11, none⟩ = some (.slice A0_11 l0_11.length c0_11) := kc_ BK167 11; have hfz85_0 := blk_frozen BK167.out; have hcz86_0 : w84.cell? ⟨gb168, 0, none⟩ = some (.int .i64 a1_0) := kc_ BK168 0; have hcz86_1 : w84.cell? ⟨gb168, 1, none⟩ = some (.int .i64 a1_1) := kc_ BK168 1; have hcz86_2 : w84.cell? ⟨gb168, 2, none⟩ = some (.slice A1_2 l1_2.length c1_2) := kc_ BK168 2; have hcz86_3 : w84.cell? ⟨gb168, 3, none⟩ = some (.int .i64 a1_3) := kc_ BK168 3; have hcz86_4 : w84.cell? ⟨gb168, 4, none⟩ = some (.int .i64 a1_4) := kc_ BK168 4; have hcz86_5 : w84.cell? ⟨gb168, 5, none⟩ = some (.int .i64 a1_5) := kc_ BK168 5; have hcz86_6 : w84.cell? ⟨gb168, 6, none⟩ = some (.int .i64 a1_6) := kc_ BK168 6; have hcz86_7 : w84.cell? ⟨gb168, 7, none⟩ = some (.int .i64 a1_7) := kc_ BK168 7; have hcz86_8 : w84.cell? ⟨gb168, 8, none⟩ = some (.string a1_8) := kc_ BK168 8; have hcz86_9 : w84.cell? ⟨gb168, 9, none⟩ = some (.int .i64 a1_9) := kc_ BK168 9; have hcz86_10 : w84.cell? ⟨gb168, 10, none⟩ = some (.slice A1_10 l1_10.length c1_10) := kc_ BK168 10; have hcz86_11 : w84.cell? ⟨gb168, 11, none⟩ = some (.slice A1_11 l1_11.length c1_11) := kc_ BK168 11; have hfz86_0 := blk_frozen BK168.out))
  go_ret
  exact ⟨q0, Short.hB HB⟩
 rw [if_pos c9] at H
 have c9b0 : (a0_6 == a1_6) = true := beq_iff_eq.mpr c9
 have c9b1 : (a0_6 != a1_6) = false := bne_eq_false_iff_eq.mpr c9
 clear c9
 by_cases c10 : a0_7 = a1_7
 rotate_left
 ·
  rw [if_neg c10] at H
  have c10b0 : (a0_7 == a1_7) = false := beq_eq_false_iff_ne.mpr c10
  have c10b1 : (a0_7 != a1_7) = true := bne_iff_ne.mpr c10
  obtain rfl := Option.some.inj H
  go_enter Try.func13, Try.ntmps13
  go_wp2_with (first | ((with_reducible refine gate_dst (N := 2) rfl ?_); refine box_event ?hg (N := 2) ?hd (cs := #[.int .i64 a0_0, .int .i64 a0_1, .slice A0_2 l0_2.length c0_2, .int .i64 a0_3, .int .i64 a0_4, .int .i64 a0_5, .int .i64 a0_6, .int .i64 a0_7, .string a0_8, .int .i64 a0_9, .slice A0_10 l0_10.length c0_10, .slice A0_11 l0_11.length c0_11]) (t := 32) ?hr ?_; (case hd => rfl); (case hg => rfl); (case hr => first | (go_simp; done) | (go_simp; rfl)); intro gb167 hg w65 hbox hb; have n0_ := mk_ (below_step (Short.hB HB) hb); have n1_ := mk_ (hbox); have n2_ := mk_ ((by rw [hg]; exact (below_size (Short.hB HB)) : w.heap.size ≤ gb167)); have n3_ := mk_ ((by rw [hg]; exact (below_size (Short.hB HB)) : w.heap.size ≤ gb167)); clear HB; revert n0_ n1_ n2_ n3_; intro HB BK167 GW167 GE167; clear hb hbox hg) | ((with_reducible refine gate_dst (N := 3) rfl ?_); refine box_event ?hg (N := 3) ?hd (cs := #[.int .i64 a1_0, .int .i64 a1_1, .slice A1_2 l1_2.length c1_2, .int .i64 a1_3, .int .i64 a1_4, .int .i64 a1_5, .int .i64 a1_6, .int .i64 a1_7, .string a1_8, .int .i64 a1_9, .slice A1_10 l1_10.length c1_10, .slice A1_11 l1_11.length c1_11]) (t := 32) ?hr ?_; (case hd => rfl); (case hg => rfl); (case hr => first | (go_simp; done) | (go_simp; rfl)); intro gb168 hg w66 hbox hb; have n0_ := mk_ (bB_ BK167 hb); have n1_ := mk_ (below_step (Short.hB HB) hb); have n2_ := mk_ (hbox); have n3_ := mk_ ((by rw [hg]; exact (below_size (Short.hB HB)) : w.heap.size ≤ gb168)); have n4_ := mk_ ((by rw [hg]; exact (below_size (Short.hB HB)) : w.heap.size ≤ gb168)); have n5_ := mk_ ((by rw [hg]; exact Nat.ne_of_lt (blk_lt (g := gb167) (o := .cells #[.int .i64 a0_0, .int .i64 a0_1, .slice A0_2 l0_2.length c0_2, .int .i64 a0_3, .int .i64 a0_4, .int .i64 a0_5, .int .i64 a0_6, .int .i64 a0_7, .string a0_8, .int .i64 a0_9, .slice A0_10 l0_10.length c0_10, .slice A0_11 l0_11.length c0_11] 32 (0, 0)) (Short.bK BK167)) : gb167 ≠ gb168)); have n6_ := mk_ ((by rw [hg]; exact Nat.ne_of_gt (blk_lt (g := gb167) (o := .cells #[.int .i64 a0_0, .int .i64 a0_1, .slice A0_2 l0_2.length c0_2, .int .i64 a0_3, .int .i64 a0_4, .int .i64 a0_5, .int .i64 a0_6, .int .i64 a0_7, .string a0_8, .int .i64 a0_9, .slice A0_10 l0_10.length c0_10, .slice A0_11 l0_11.length c0_11] 32 (0, 0)) (Short.bK BK167)) : gb168 ≠ gb167)); clear BK167 HB; revert n0_ n1_ n2_ n3_ n4_ n5_ n6_; intro BK167 HB BK168 GW168 GE168 NB167_168 NB168_167; clear hb hbox hg; have hnb67 := NB167_168.out; have hnc67 := NB168_167.out; have hcz68_0 : w66.cell? ⟨gb167, 0, none⟩ = some (.int .i64 a0_0) := kc_ BK167 0; have hcz68_1 : w66.cell? ⟨gb167, 1, none⟩ = some (.int .i64 a0_1) := kc_ BK167 1; have hcz68_2 : w66.cell? ⟨gb167, 2, none⟩ = some (.slice A0_2 l0_2.length c0_2) := kc_ BK167 2; have hcz68_3 : w66.cell? ⟨gb167, 3, none⟩ = some (.int .i64 a0_3) := kc_ BK167 3; have hcz68_4 : w66.cell? ⟨gb167, 4, none⟩ = some (.int .i64 a0_4) := kc_ BK167 4; have hcz68_5 : w66.cell? ⟨gb167, 5, none⟩ = some (.int .i64 a0_5) := kc_ BK167 5; have hcz68_6 : w66.cell? ⟨gb167, 6, none⟩ = some (.int .i64 a0_6) := kc_ BK167 6; have hcz68_7 : w66.cell? ⟨gb167, 7, none⟩ = some (.int .i64 a0_7) := kc_ BK167 7; have hcz68_8 : w66.cell? ⟨gb167, 8, none⟩ = some (.string a0_8) := kc_ BK167 8; have hcz68_9 : w66.cell? ⟨gb167, 9, none⟩ = some (.int .i64 a0_9) := kc_ BK167 9; have hcz68_10 : w66.cell? ⟨gb167, 10, none⟩ = some (.slice A0_10 l0_10.length c0_10) := kc_ BK167 10; have hcz68_11 : w66.cell? ⟨gb167, 11, none⟩ = some (.slice A0_11 l0_11.length c0_11) := kc_ BK167 11; have hfz68_0 := blk_frozen BK167.out; have hcz69_0 : w66.cell? ⟨gb168, 0, none⟩ = some (.int .i64 a1_0) := kc_ BK168 0; have hcz69_1 : w66.cell? ⟨gb168, 1, none⟩ = some (.int .i64 a1_1) := kc_ BK168 1; have hcz69_2 : w66.cell? ⟨gb168, 2, none⟩ = some (.slice A1_2 l1_2.length c1_2) := kc_ BK168 2; have hcz69_3 : w66.cell? ⟨gb168, 3, none⟩ = some (.int .i64 a1_3) := kc_ BK168 3; have hcz69_4 : w66.cell? ⟨gb168, 4, none⟩ = some (.int .i64 a1_4) := kc_ BK168 4; have hcz69_5 : w66.cell? ⟨gb168, 5, none⟩ = some (.int .i64 a1_5) := kc_ BK168 5; have hcz69_6 : w66.cell? ⟨gb168, 6, none⟩ = some (.int .i64 a1_6) := kc_ BK168 6; have hcz69_7 : w66.cell? ⟨gb168, 7, none⟩ = some (.int .i64 a1_7) := kc_ BK168 7; have hcz69_8 : w66.cell? ⟨gb168, 8, none⟩ = some (.string a1_8) := kc_ BK168 8; have hcz69_9 : w66.cell? ⟨gb168, 9, none⟩ = some (.int .i64 a1_9) := kc_ BK168 9; have hcz69_10 : w66.cell? ⟨gb168, 10, none⟩ = some (.slice A1_10 l1_10.length c1_10) := kc_ BK168 10; have hcz69_11 : w66.cell? ⟨gb168, 11, none⟩ = some (.slice A1_11 l1_11.length c1_11) := kc_ BK168 11; have hfz69_0 := blk_frozen BK168.out) | ((with_reducible refine gate_callee (f := 29) rfl ?_); refine Short.gL (some 9) Try.func29 #[.agg #[.int .i64 a0_0, .int .i64 a0_1], .agg #[.int .i64 a1_0, .int .i64 a1_1]] (h := ?_); (with_reducible refine (raddlekeep_Dot.calls a0_0 a0_1 a1_0 a1_1 true _ A3.out).mono ?_); rintro e w70 ⟨rfl, hb⟩; refine ⟨_, rfl, ?_⟩; have n0_ := mk_ (bB_ BK167 hb); have n1_ := mk_ (bB_ BK168 hb); have n2_ := mk_ (below_step (Short.hB HB) hb); clear BK167 BK168 HB; revert n0_ n1_ n2_; intro BK167 BK168 HB; (try clear hb); have hcz71_0 : w70.cell? ⟨gb167, 0, none⟩ = some (.int .i64 a0_0) := kc_ BK167 0; have hcz71_1 : w70.cell? ⟨gb167, 1, none⟩ = some (.int .i64 a0_1) := kc_ BK167 1; have hcz71_2 : w70.cell? ⟨gb167, 2, none⟩ = some (.slice A0_2 l0_2.length c0_2) := kc_ BK167 2; have hcz71_3 : w70.cell? ⟨gb167, 3, none⟩ = some (.int .i64 a0_3) := kc_ BK167 3; have hcz71_4 : w70.cell? ⟨gb167, 4, none⟩ = some (.int .i64 a0_4) := kc_ BK167 4; have hcz71_5 : w70.cell? ⟨gb167, 5, none⟩ = some (.int .i64 a0_5) := kc_ BK167 5; have hcz71_6 : w70.cell? ⟨gb167, 6, none⟩ = some (.int .i64 a0_6) := kc_ BK167 6; have hcz71_7 : w70.cell? ⟨gb167, 7, none⟩ = some (.int .i64 a0_7) := kc_ BK167 7; have hcz71_8 : w70.cell? ⟨gb167, 8, none⟩ = some (.string a0_8) := kc_ BK167 8; have hcz71_9 : w70.cell? ⟨gb167, 9, none⟩ = some (.int .i64 a0_9) := kc_ BK167 9; have hcz71_10 : w70.cell? ⟨gb167, 10, none⟩ = some (.slice A0_10 l0_10.length c0_10) := kc_ BK167 10; have hcz71_11 : w70.cell? ⟨gb167, 11, none⟩ = some (.slice A0_11 l0_11.length c0_11) := kc_ BK167 11; have hfz71_0 := blk_frozen BK167.out; have hcz72_0 : w70.cell? ⟨gb168, 0, none⟩ = some (.int .i64 a1_0) := kc_ BK168 0; have hcz72_1 : w70.cell? ⟨gb168, 1, none⟩ = some (.int .i64 a1_1) := kc_ BK168 1; have hcz72_2 : w70.cell? ⟨gb168, 2, none⟩ = some (.slice A1_2 l1_2.length c1_2) := kc_ BK168 2; have hcz72_3 : w70.cell? ⟨gb168, 3, none⟩ = some (.int .i64 a1_3) := kc_ BK168 3; have hcz72_4 : w70.cell? ⟨gb168, 4, none⟩ = some (.int .i64 a1_4) := kc_ BK168 4; have hcz72_5 : w70.cell? ⟨gb168, 5, none⟩ = some (.int .i64 a1_5) := kc_ BK168 5; have hcz72_6 : w70.cell? ⟨gb168, 6, none⟩ = some (.int .i64 a1_6) := kc_ BK168 6; have hcz72_7 : w70.cell? ⟨gb168, 7, none⟩ = some (.int .i64 a1_7) := kc_ BK168 7; have hcz72_8 : w70.cell? ⟨gb168, 8, none⟩ = some (.string a1_8) := kc_ BK168 8; have hcz72_9 : w70.cell? ⟨gb168, 9, none⟩ = some (.int .i64 a1_9) := kc_ BK168 9; have hcz72_10 : w70.cell? ⟨gb168, 10, none⟩ = some (.slice A1_10 l1_10.length c1_10) := kc_ BK168 10; have hcz72_11 : w70.cell? ⟨gb168, 11, none⟩ = some (.slice A1_11 l1_11.length c1_11) := kc_ BK168 11; have hfz72_0 := blk_frozen BK168.out) | (go_at_call 30; (with_reducible refine (raddlekeep_Ints.calls k _ _ l0_2 _ _ l1_2 true _ ?side1 ?side2 ?side3 ?side4 A5.out).mono ?_); (case side1 => exact cX_ (C_below HR0_2.out HB.out)); (case side2 => exact HC0_2.out); (case side3 => exact cX_ (C_below HR1_2.out HB.out)); (case side4 => exact HC1_2.out); rintro e w' ⟨rfl, ⟨nd, rfl⟩⟩) | (go_at_call 31; (with_reducible refine (raddlekeep_Stamp.calls a0_3 a0_4 a0_5 a1_3 a1_4 a1_5 true _ A7.out).mono ?_); rintro e w73 ⟨rfl, hb⟩; have n0_ := mk_ (bB_ BK167 hb); have n1_ := mk_ (bB_ BK168 hb); have n2_ := mk_ (below_step (Short.hB HB) hb); clear BK167 BK168 HB; revert n0_ n1_ n2_; intro BK167 BK168 HB; (try clear hb); (try clear hb2); (try clear hk); (try clear hi); have hcz74_0 : w73.cell? ⟨gb167, 0, none⟩ = some (.int .i64 a0_0) := kc_ BK167 0; have hcz74_1 : w73.cell? ⟨gb167, 1, none⟩ = some (.int .i64 a0_1) := kc_ BK167 1; have hcz74_2 : w73.cell? ⟨gb167, 2, none⟩ = some (.slice A0_2 l0_2.length c0_2) := kc_ BK167 2; have hcz74_3 : w73.cell? ⟨gb167, 3, none⟩ = some (.int .i64 a0_3) := kc_ BK167 3; have hcz74_4 : w73.cell? ⟨gb167, 4, none⟩ = some (.int .i64 a0_4) := kc_ BK167 4; have hcz74_5 : w73.cell? ⟨gb167, 5, none⟩ = some (.int .i64 a0_5) := kc_ BK167 5; have hcz74_6 : w73.cell? ⟨gb167, 6, none⟩ = some (.int .i64 a0_6) := kc_ BK167 6; have hcz74_7 : w73.cell? ⟨gb167, 7, none⟩ = some (.int .i64 a0_7) := kc_ BK167 7; have hcz74_8 : w73.cell? ⟨gb167, 8, none⟩ = some (.string a0_8) := kc_ BK167 8; have hcz74_9 : w73.cell? ⟨gb167, 9, none⟩ = some (.int .i64 a0_9) := kc_ BK167 9; have hcz74_10 : w73.cell? ⟨gb167, 10, none⟩ = some (.slice A0_10 l0_10.length c0_10) := kc_ BK167 10; have hcz74_11 : w73.cell? ⟨gb167, 11, none⟩ = some (.slice A0_11 l0_11.length c0_11) := kc_ BK167 11; have hfz74_0 := blk_frozen BK167.out; have hcz75_0 : w73.cell? ⟨gb168, 0, none⟩ = some (.int .i64 a1_0) := kc_ BK168 0; have hcz75_1 : w73.cell? ⟨gb168, 1, none⟩ = some (.int .i64 a1_1) := kc_ BK168 1; have hcz75_2 : w73.cell? ⟨gb168, 2, none⟩ = some (.slice A1_2 l1_2.length c1_2) := kc_ BK168 2; have hcz75_3 : w73.cell? ⟨gb168, 3, none⟩ = some (.int .i64 a1_3) := kc_ BK168 3; have hcz75_4 : w73.cell? ⟨gb168, 4, none⟩ = some (.int .i64 a1_4) := kc_ BK168 4; have hcz75_5 : w73.cell? ⟨gb168, 5, none⟩ = some (.int .i64 a1_5) := kc_ BK168 5; have hcz75_6 : w73.cell? ⟨gb168, 6, none⟩ = some (.int .i64 a1_6) := kc_ BK168 6; have hcz75_7 : w73.cell? ⟨gb168, 7, none⟩ = some (.int .i64 a1_7) := kc_ BK168 7; have hcz75_8 : w73.cell? ⟨gb168, 8, none⟩ = some (.string a1_8) := kc_ BK168 8; have hcz75_9 : w73.cell? ⟨gb168, 9, none⟩ = some (.int .i64 a1_9) := kc_ BK168 9; have hcz75_10 : w73.cell? ⟨gb168, 10, none⟩ = some (.slice A1_10 l1_10.length c1_10) := kc_ BK168 10; have hcz75_11 : w73.cell? ⟨gb168, 11, none⟩ = some (.slice A1_11 l1_11.length c1_11) := kc_ BK168 11; have hfz75_0 := blk_frozen BK168.out))
  go_ret
  exact ⟨q0, Short.hB HB⟩
 rw [if_pos c10] at H
 have c10b0 : (a0_7 == a1_7) = true := beq_iff_eq.mpr c10
 have c10b1 : (a0_7 != a1_7) = false := bne_eq_false_iff_eq.mpr c10
 clear c10
 by_cases c11 : a0_8.toList = a1_8.toList
 rotate_left
 ·
  rw [if_neg c11] at H
  have c11b0 : (a0_8.toList == a1_8.toList) = false := beq_eq_false_iff_ne.mpr c11
  have c11b1 : (a0_8.toList != a1_8.toList) = true := bne_iff_ne.mpr c11
  obtain rfl := Option.some.inj H
  go_enter Try.func13, Try.ntmps13
  go_wp2_with (first | ((with_reducible refine gate_dst (N := 2) rfl ?_); refine box_event ?hg (N := 2) ?hd (cs := #[.int .i64 a0_0, .int .i64 a0_1, .slice A0_2 l0_2.length c0_2, .int .i64 a0_3, .int .i64 a0_4, .int .i64 a0_5, .int .i64 a0_6, .int .i64 a0_7, .string a0_8, .int .i64 a0_9, .slice A0_10 l0_10.length c0_10, .slice A0_11 l0_11.length c0_11]) (t := 32) ?hr ?_; (case hd => rfl); (case hg => rfl); (case hr => first | (go_simp; done) | (go_simp; rfl)); intro gb167 hg w54 hbox hb; have n0_ := mk_ (below_step (Short.hB HB) hb); have n1_ := mk_ (hbox); have n2_ := mk_ ((by rw [hg]; exact (below_size (Short.hB HB)) : w.heap.size ≤ gb167)); have n3_ := mk_ ((by rw [hg]; exact (below_size (Short.hB HB)) : w.heap.size ≤ gb167)); clear HB; revert n0_ n1_ n2_ n3_; intro HB BK167 GW167 GE167; clear hb hbox hg) | ((with_reducible refine gate_dst (N := 3) rfl ?_); refine box_event ?hg (N := 3) ?hd (cs := #[.int .i64 a1_0, .int .i64 a1_1, .slice A1_2 l1_2.length c1_2, .int .i64 a1_3, .int .i64 a1_4, .int .i64 a1_5, .int .i64 a1_6, .int .i64 a1_7, .string a1_8, .int .i64 a1_9, .slice A1_10 l1_10.length c1_10, .slice A1_11 l1_11.length c1_11]) (t := 32) ?hr ?_; (case hd => rfl); (case hg => rfl); (case hr => first | (go_simp; done) | (go_simp; rfl)); intro gb168 hg w55 hbox hb; have n0_ := mk_ (bB_ BK167 hb); have n1_ := mk_ (below_step (Short.hB HB) hb); have n2_ := mk_ (hbox); have n3_ := mk_ ((by rw [hg]; exact (below_size (Short.hB HB)) : w.heap.size ≤ gb168)); have n4_ := mk_ ((by rw [hg]; exact (below_size (Short.hB HB)) : w.heap.size ≤ gb168)); have n5_ := mk_ ((by rw [hg]; exact Nat.ne_of_lt (blk_lt (g := gb167) (o := .cells #[.int .i64 a0_0, .int .i64 a0_1, .slice A0_2 l0_2.length c0_2, .int .i64 a0_3, .int .i64 a0_4, .int .i64 a0_5, .int .i64 a0_6, .int .i64 a0_7, .string a0_8, .int .i64 a0_9, .slice A0_10 l0_10.length c0_10, .slice A0_11 l0_11.length c0_11] 32 (0, 0)) (Short.bK BK167)) : gb167 ≠ gb168)); have n6_ := mk_ ((by rw [hg]; exact Nat.ne_of_gt (blk_lt (g := gb167) (o := .cells #[.int .i64 a0_0, .int .i64 a0_1, .slice A0_2 l0_2.length c0_2, .int .i64 a0_3, .int .i64 a0_4, .int .i64 a0_5, .int .i64 a0_6, .int .i64 a0_7, .string a0_8, .int .i64 a0_9, .slice A0_10 l0_10.length c0_10, .slice A0_11 l0_11.length c0_11] 32 (0, 0)) (Short.bK BK167)) : gb168 ≠ gb167)); clear BK167 HB; revert n0_ n1_ n2_ n3_ n4_ n5_ n6_; intro BK167 HB BK168 GW168 GE168 NB167_168 NB168_167; clear hb hbox hg; have hnb56 := NB167_168.out; have hnc56 := NB168_167.out; have hcz57_0 : w55.cell? ⟨gb167, 0, none⟩ = some (.int .i64 a0_0) := kc_ BK167 0; have hcz57_1 : w55.cell? ⟨gb167, 1, none⟩ = some (.int .i64 a0_1) := kc_ BK167 1; have hcz57_2 : w55.cell? ⟨gb167, 2, none⟩ = some (.slice A0_2 l0_2.length c0_2) := kc_ BK167 2; have hcz57_3 : w55.cell? ⟨gb167, 3, none⟩ = some (.int .i64 a0_3) := kc_ BK167 3; have hcz57_4 : w55.cell? ⟨gb167, 4, none⟩ = some (.int .i64 a0_4) := kc_ BK167 4; have hcz57_5 : w55.cell? ⟨gb167, 5, none⟩ = some (.int .i64 a0_5) := kc_ BK167 5; have hcz57_6 : w55.cell? ⟨gb167, 6, none⟩ = some (.int .i64 a0_6) := kc_ BK167 6; have hcz57_7 : w55.cell? ⟨gb167, 7, none⟩ = some (.int .i64 a0_7) := kc_ BK167 7; have hcz57_8 : w55.cell? ⟨gb167, 8, none⟩ = some (.string a0_8) := kc_ BK167 8; have hcz57_9 : w55.cell? ⟨gb167, 9, none⟩ = some (.int .i64 a0_9) := kc_ BK167 9; have hcz57_10 : w55.cell? ⟨gb167, 10, none⟩ = some (.slice A0_10 l0_10.length c0_10) := kc_ BK167 10; have hcz57_11 : w55.cell? ⟨gb167, 11, none⟩ = some (.slice A0_11 l0_11.length c0_11) := kc_ BK167 11; have hfz57_0 := blk_frozen BK167.out; have hcz58_0 : w55.cell? ⟨gb168, 0, none⟩ = some (.int .i64 a1_0) := kc_ BK168 0; have hcz58_1 : w55.cell? ⟨gb168, 1, none⟩ = some (.int .i64 a1_1) := kc_ BK168 1; have hcz58_2 : w55.cell? ⟨gb168, 2, none⟩ = some (.slice A1_2 l1_2.length c1_2) := kc_ BK168 2; have hcz58_3 : w55.cell? ⟨gb168, 3, none⟩ = some (.int .i64 a1_3) := kc_ BK168 3; have hcz58_4 : w55.cell? ⟨gb168, 4, none⟩ = some (.int .i64 a1_4) := kc_ BK168 4; have hcz58_5 : w55.cell? ⟨gb168, 5, none⟩ = some (.int .i64 a1_5) := kc_ BK168 5; have hcz58_6 : w55.cell? ⟨gb168, 6, none⟩ = some (.int .i64 a1_6) := kc_ BK168 6; have hcz58_7 : w55.cell? ⟨gb168, 7, none⟩ = some (.int .i64 a1_7) := kc_ BK168 7; have hcz58_8 : w55.cell? ⟨gb168, 8, none⟩ = some (.string a1_8) := kc_ BK168 8; have hcz58_9 : w55.cell? ⟨gb168, 9, none⟩ = some (.int .i64 a1_9) := kc_ BK168 9; have hcz58_10 : w55.cell? ⟨gb168, 10, none⟩ = some (.slice A1_10 l1_10.length c1_10) := kc_ BK168 10; have hcz58_11 : w55.cell? ⟨gb168, 11, none⟩ = some (.slice A1_11 l1_11.length c1_11) := kc_ BK168 11; have hfz58_0 := blk_frozen BK168.out) | ((with_reducible refine gate_callee (f := 29) rfl ?_); refine Short.gL (some 9) Try.func29 #[.agg #[.int .i64 a0_0, .int .i64 a0_1], .agg #[.int .i64 a1_0, .int .i64 a1_1]] (h := ?_); (with_reducible refine (raddlekeep_Dot.calls a0_0 a0_1 a1_0 a1_1 true _ A3.out).mono ?_); rintro e w59 ⟨rfl, hb⟩; refine ⟨_, rfl, ?_⟩; have n0_ := mk_ (bB_ BK167 hb); have n1_ := mk_ (bB_ BK168 hb); have n2_ := mk_ (below_step (Short.hB HB) hb); clear BK167 BK168 HB; revert n0_ n1_ n2_; intro BK167 BK168 HB; (try clear hb); have hcz60_0 : w59.cell? ⟨gb167, 0, none⟩ = some (.int .i64 a0_0) := kc_ BK167 0; have hcz60_1 : w59.cell? ⟨gb167, 1, none⟩ = some (.int .i64 a0_1) := kc_ BK167 1; have hcz60_2 : w59.cell? ⟨gb167, 2, none⟩ = some (.slice A0_2 l0_2.length c0_2) := kc_ BK167 2; have hcz60_3 : w59.cell? ⟨gb167, 3, none⟩ = some (.int .i64 a0_3) := kc_ BK167 3; have hcz60_4 : w59.cell? ⟨gb167, 4, none⟩ = some (.int .i64 a0_4) := kc_ BK167 4; have hcz60_5 : w59.cell? ⟨gb167, 5, none⟩ = some (.int .i64 a0_5) := kc_ BK167 5; have hcz60_6 : w59.cell? ⟨gb167, 6, none⟩ = some (.int .i64 a0_6) := kc_ BK167 6; have hcz60_7 : w59.cell? ⟨gb167, 7, none⟩ = some (.int .i64 a0_7) := kc_ BK167 7; have hcz60_8 : w59.cell? ⟨gb167, 8, none⟩ = some (.string a0_8) := kc_ BK167 8; have hcz60_9 : w59.cell? ⟨gb167, 9, none⟩ = some (.int .i64 a0_9) := kc_ BK167 9; have hcz60_10 : w59.cell? ⟨gb167, 10, none⟩ = some (.slice A0_10 l0_10.length c0_10) := kc_ BK167 10; have hcz60_11 : w59.cell? ⟨gb167, 11, none⟩ = some (.slice A0_11 l0_11.length c0_11) := kc_ BK167 11; have hfz60_0 := blk_frozen BK167.out; have hcz61_0 : w59.cell? ⟨gb168, 0, none⟩ = some (.int .i64 a1_0) := kc_ BK168 0; have hcz61_1 : w59.cell? ⟨gb168, 1, none⟩ = some (.int .i64 a1_1) := kc_ BK168 1; have hcz61_2 : w59.cell? ⟨gb168, 2, none⟩ = some (.slice A1_2 l1_2.length c1_2) := kc_ BK168 2; have hcz61_3 : w59.cell? ⟨gb168, 3, none⟩ = some (.int .i64 a1_3) := kc_ BK168 3; have hcz61_4 : w59.cell? ⟨gb168, 4, none⟩ = some (.int .i64 a1_4) := kc_ BK168 4; have hcz61_5 : w59.cell? ⟨gb168, 5, none⟩ = some (.int .i64 a1_5) := kc_ BK168 5; have hcz61_6 : w59.cell? ⟨gb168, 6, none⟩ = some (.int .i64 a1_6) := kc_ BK168 6; have hcz61_7 : w59.cell? ⟨gb168, 7, none⟩ = some (.int .i64 a1_7) := kc_ BK168 7; have hcz61_8 : w59.cell? ⟨gb168, 8, none⟩ = some (.string a1_8) := kc_ BK168 8; have hcz61_9 : w59.cell? ⟨gb168, 9, none⟩ = some (.int .i64 a1_9) := kc_ BK168 9; have hcz61_10 : w59.cell? ⟨gb168, 10, none⟩ = some (.slice A1_10 l1_10.length c1_10) := kc_ BK168 10; have hcz61_11 : w59.cell? ⟨gb168, 11, none⟩ = some (.slice A1_11 l1_11.length c1_11) := kc_ BK168 11; have hfz61_0 := blk_frozen BK168.out) | (go_at_call 30; (with_reducible refine (raddlekeep_Ints.calls k _ _ l0_2 _ _ l1_2 true _ ?side1 ?side2 ?side3 ?side4 A5.out).mono ?_); (case side1 => exact cX_ (C_below HR0_2.out HB.out)); (case side2 => exact HC0_2.out); (case side3 => exact cX_ (C_below HR1_2.out HB.out)); (case side4 => exact HC1_2.out); rintro e w' ⟨rfl, ⟨nd, rfl⟩⟩) | (go_at_call 31; (with_reducible refine (raddlekeep_Stamp.calls a0_3 a0_4 a0_5 a1_3 a1_4 a1_5 true _ A7.out).mono ?_); rintro e w62 ⟨rfl, hb⟩; have n0_ := mk_ (bB_ BK167 hb); have n1_ := mk_ (bB_ BK168 hb); have n2_ := mk_ (below_step (Short.hB HB) hb); clear BK167 BK168 HB; revert n0_ n1_ n2_; intro BK167 BK168 HB; (try clear hb); (try clear hb2); (try clear hk); (try clear hi); have hcz63_0 : w62.cell? ⟨gb167, 0, none⟩ = some (.int .i64 a0_0) := kc_ BK167 0; have hcz63_1 : w62.cell? ⟨gb167, 1, none⟩ = some (.int .i64 a0_1) := kc_ BK167 1; have hcz63_2 : w62.cell? ⟨gb167, 2, none⟩ = some (.slice A0_2 l0_2.length c0_2) := kc_ BK167 2; have hcz63_3 : w62.cell? ⟨gb167, 3, none⟩ = some (.int .i64 a0_3) := kc_ BK167 3; have hcz63_4 : w62.cell? ⟨gb167, 4, none⟩ = some (.int .i64 a0_4) := kc_ BK167 4; have hcz63_5 : w62.cell? ⟨gb167, 5, none⟩ = some (.int .i64 a0_5) := kc_ BK167 5; have hcz63_6 : w62.cell? ⟨gb167, 6, none⟩ = some (.int .i64 a0_6) := kc_ BK167 6; have hcz63_7 : w62.cell? ⟨gb167, 7, none⟩ = some (.int .i64 a0_7) := kc_ BK167 7; have hcz63_8 : w62.cell? ⟨gb167, 8, none⟩ = some (.string a0_8) := kc_ BK167 8; have hcz63_9 : w62.cell? ⟨gb167, 9, none⟩ = some (.int .i64 a0_9) := kc_ BK167 9; have hcz63_10 : w62.cell? ⟨gb167, 10, none⟩ = some (.slice A0_10 l0_10.length c0_10) := kc_ BK167 10; have hcz63_11 : w62.cell? ⟨gb167, 11, none⟩ = some (.slice A0_11 l0_11.length c0_11) := kc_ BK167 11; have hfz63_0 := blk_frozen BK167.out; have hcz64_0 : w62.cell? ⟨gb168, 0, none⟩ = some (.int .i64 a1_0) := kc_ BK168 0; have hcz64_1 : w62.cell? ⟨gb168, 1, none⟩ = some (.int .i64 a1_1) := kc_ BK168 1; have hcz64_2 : w62.cell? ⟨gb168, 2, none⟩ = some (.slice A1_2 l1_2.length c1_2) := kc_ BK168 2; have hcz64_3 : w62.cell? ⟨gb168, 3, none⟩ = some (.int .i64 a1_3) := kc_ BK168 3; have hcz64_4 : w62.cell? ⟨gb168, 4, none⟩ = some (.int .i64 a1_4) := kc_ BK168 4; have hcz64_5 : w62.cell? ⟨gb168, 5, none⟩ = some (.int .i64 a1_5) := kc_ BK168 5; have hcz64_6 : w62.cell? ⟨gb168, 6, none⟩ = some (.int .i64 a1_6) := kc_ BK168 6; have hcz64_7 : w62.cell? ⟨gb168, 7, none⟩ = some (.int .i64 a1_7) := kc_ BK168 7; have hcz64_8 : w62.cell? ⟨gb168, 8, none⟩ = some (.string a1_8) := kc_ BK168 8; have hcz64_9 : w62.cell? ⟨gb168, 9, none⟩ = some (.int .i64 a1_9) := kc_ BK168 9; have hcz64_10 : w62.cell? ⟨gb168, 10, none⟩ = some (.slice A1_10 l1_10.length c1_10) := kc_ BK168 10; have hcz64_11 : w62.cell? ⟨gb168, 11, none⟩ = some (.slice A1_11 l1_11.length c1_11) := kc_ BK168 11; have hfz64_0 := blk_frozen BK168.out))
  go_ret
  exact ⟨q0, Short.hB HB⟩
 rw [if_pos c11] at H
 have c11b0 : (a0_8.toList == a1_8.toList) = true := beq_iff_eq.mpr c11
 have c11b1 : (a0_8.toList != a1_8.toList) = false := bne_eq_false_iff_eq.mpr c11
 clear c11
 by_cases c12 : a0_9 = a1_9
 rotate_left
 ·
  rw [if_neg c12] at H
  have c12b0 : (a0_9 == a1_9) = false := beq_eq_false_iff_ne.mpr c12
  have c12b1 : (a0_9 != a1_9) = true := bne_iff_ne.mpr c12
  obtain rfl := Option.some.inj H
  go_enter Try.func13, Try.ntmps13
  go_wp2_with (first | ((with_reducible refine gate_dst (N := 2) rfl ?_); refine box_event ?hg (N := 2) ?hd (cs := #[.int .i64 a0_0, .int .i64 a0_1, .slice A0_2 l0_2.length c0_2, .int .i64 a0_3, .int .i64 a0_4, .int .i64 a0_5, .int .i64 a0_6, .int .i64 a0_7, .string a0_8, .int .i64 a0_9, .slice A0_10 l0_10.length c0_10, .slice A0_11 l0_11.length c0_11]) (t := 32) ?hr ?_; (case hd => rfl); (case hg => rfl); (case hr => first | (go_simp; done) | (go_simp; rfl)); intro gb167 hg w43 hbox hb; have n0_ := mk_ (below_step (Short.hB HB) hb); have n1_ := mk_ (hbox); have n2_ := mk_ ((by rw [hg]; exact (below_size (Short.hB HB)) : w.heap.size ≤ gb167)); have n3_ := mk_ ((by rw [hg]; exact (below_size (Short.hB HB)) : w.heap.size ≤ gb167)); clear HB; revert n0_ n1_ n2_ n3_; intro HB BK167 GW167 GE167; clear hb hbox hg) | ((with_reducible refine gate_dst (N := 3) rfl ?_); refine box_event ?hg (N := 3) ?hd (cs := #[.int .i64 a1_0, .int .i64 a1_1, .slice A1_2 l1_2.length c1_2, .int .i64 a1_3, .int .i64 a1_4, .int .i64 a1_5, .int .i64 a1_6, .int .i64 a1_7, .string a1_8, .int .i64 a1_9, .slice A1_10 l1_10.length c1_10, .slice A1_11 l1_11.length c1_11]) (t := 32) ?hr ?_; (case hd => rfl); (case hg => rfl); (case hr => first | (go_simp; done) | (go_simp; rfl)); intro gb168 hg w44 hbox hb; have n0_ := mk_ (bB_ BK167 hb); have n1_ := mk_ (below_step (Short.hB HB) hb); have n2_ := mk_ (hbox); have n3_ := mk_ ((by rw [hg]; exact (below_size (Short.hB HB)) : w.heap.size ≤ gb168)); have n4_ := mk_ ((by rw [hg]; exact (below_size (Short.hB HB)) : w.heap.size ≤ gb168)); have n5_ := mk_ ((by rw [hg]; exact Nat.ne_of_lt (blk_lt (g := gb167) (o := .cells #[.int .i64 a0_0, .int .i64 a0_1, .slice A0_2 l0_2.length c0_2, .int .i64 a0_3, .int .i64 a0_4, .int .i64 a0_5, .int .i64 a0_6, .int .i64 a0_7, .string a0_8, .int .i64 a0_9, .slice A0_10 l0_10.length c0_10, .slice A0_11 l0_11.length c0_11] 32 (0, 0)) (Short.bK BK167)) : gb167 ≠ gb168)); have n6_ := mk_ ((by rw [hg]; exact Nat.ne_of_gt (blk_lt (g := gb167) (o := .cells #[.int .i64 a0_0, .int .i64 a0_1, .slice A0_2 l0_2.length c0_2, .int .i64 a0_3, .int .i64 a0_4, .int .i64 a0_5, .int .i64 a0_6, .int .i64 a0_7, .string a0_8, .int .i64 a0_9, .slice A0_10 l0_10.length c0_10, .slice A0_11 l0_11.length c0_11] 32 (0, 0)) (Short.bK BK167)) : gb168 ≠ gb167)); clear BK167 HB; revert n0_ n1_ n2_ n3_ n4_ n5_ n6_; intro BK167 HB BK168 GW168 GE168 NB167_168 NB168_167; clear hb hbox hg; have hnb45 := NB167_168.out; have hnc45 := NB168_167.out; have hcz46_0 : w44.cell? ⟨gb167, 0, none⟩ = some (.int .i64 a0_0) := kc_ BK167 0; have hcz46_1 : w44.cell? ⟨gb167, 1, none⟩ = some (.int .i64 a0_1) := kc_ BK167 1; have hcz46_2 : w44.cell? ⟨gb167, 2, none⟩ = some (.slice A0_2 l0_2.length c0_2) := kc_ BK167 2; have hcz46_3 : w44.cell? ⟨gb167, 3, none⟩ = some (.int .i64 a0_3) := kc_ BK167 3; have hcz46_4 : w44.cell? ⟨gb167, 4, none⟩ = some (.int .i64 a0_4) := kc_ BK167 4; have hcz46_5 : w44.cell? ⟨gb167, 5, none⟩ = some (.int .i64 a0_5) := kc_ BK167 5; have hcz46_6 : w44.cell? ⟨gb167, 6, none⟩ = some (.int .i64 a0_6) := kc_ BK167 6; have hcz46_7 : w44.cell? ⟨gb167, 7, none⟩ = some (.int .i64 a0_7) := kc_ BK167 7; have hcz46_8 : w44.cell? ⟨gb167, 8, none⟩ = some (.string a0_8) := kc_ BK167 8; have hcz46_9 : w44.cell? ⟨gb167, 9, none⟩ = some (.int .i64 a0_9) := kc_ BK167 9; have hcz46_10 : w44.cell? ⟨gb167, 10, none⟩ = some (.slice A0_10 l0_10.length c0_10) := kc_ BK167 10; have hcz46_11 : w44.cell? ⟨gb167, 11, none⟩ = some (.slice A0_11 l0_11.length c0_11) := kc_ BK167 11; have hfz46_0 := blk_frozen BK167.out; have hcz47_0 : w44.cell? ⟨gb168, 0, none⟩ = some (.int .i64 a1_0) := kc_ BK168 0; have hcz47_1 : w44.cell? ⟨gb168, 1, none⟩ = some (.int .i64 a1_1) := kc_ BK168 1; have hcz47_2 : w44.cell? ⟨gb168, 2, none⟩ = some (.slice A1_2 l1_2.length c1_2) := kc_ BK168 2; have hcz47_3 : w44.cell? ⟨gb168, 3, none⟩ = some (.int .i64 a1_3) := kc_ BK168 3; have hcz47_4 : w44.cell? ⟨gb168, 4, none⟩ = some (.int .i64 a1_4) := kc_ BK168 4; have hcz47_5 : w44.cell? ⟨gb168, 5, none⟩ = some (.int .i64 a1_5) := kc_ BK168 5; have hcz47_6 : w44.cell? ⟨gb168, 6, none⟩ = some (.int .i64 a1_6) := kc_ BK168 6; have hcz47_7 : w44.cell? ⟨gb168, 7, none⟩ = some (.int .i64 a1_7) := kc_ BK168 7; have hcz47_8 : w44.cell? ⟨gb168, 8, none⟩ = some (.string a1_8) := kc_ BK168 8; have hcz47_9 : w44.cell? ⟨gb168, 9, none⟩ = some (.int .i64 a1_9) := kc_ BK168 9; have hcz47_10 : w44.cell? ⟨gb168, 10, none⟩ = some (.slice A1_10 l1_10.length c1_10) := kc_ BK168 10; have hcz47_11 : w44.cell? ⟨gb168, 11, none⟩ = some (.slice A1_11 l1_11.length c1_11) := kc_ BK168 11; have hfz47_0 := blk_frozen BK168.out) | ((with_reducible refine gate_callee (f := 29) rfl ?_); refine Short.gL (some 9) Try.func29 #[.agg #[.int .i64 a0_0, .int .i64 a0_1], .agg #[.int .i64 a1_0, .int .i64 a1_1]] (h := ?_); (with_reducible refine (raddlekeep_Dot.calls a0_0 a0_1 a1_0 a1_1 true _ A3.out).mono ?_); rintro e w48 ⟨rfl, hb⟩; refine ⟨_, rfl, ?_⟩; have n0_ := mk_ (bB_ BK167 hb); have n1_ := mk_ (bB_ BK168 hb); have n2_ := mk_ (below_step (Short.hB HB) hb); clear BK167 BK168 HB; revert n0_ n1_ n2_; intro BK167 BK168 HB; (try clear hb); have hcz49_0 : w48.cell? ⟨gb167, 0, none⟩ = some (.int .i64 a0_0) := kc_ BK167 0; have hcz49_1 : w48.cell? ⟨gb167, 1, none⟩ = some (.int .i64 a0_1) := kc_ BK167 1; have hcz49_2 : w48.cell? ⟨gb167, 2, none⟩ = some (.slice A0_2 l0_2.length c0_2) := kc_ BK167 2; have hcz49_3 : w48.cell? ⟨gb167, 3, none⟩ = some (.int .i64 a0_3) := kc_ BK167 3; have hcz49_4 : w48.cell? ⟨gb167, 4, none⟩ = some (.int .i64 a0_4) := kc_ BK167 4; have hcz49_5 : w48.cell? ⟨gb167, 5, none⟩ = some (.int .i64 a0_5) := kc_ BK167 5; have hcz49_6 : w48.cell? ⟨gb167, 6, none⟩ = some (.int .i64 a0_6) := kc_ BK167 6; have hcz49_7 : w48.cell? ⟨gb167, 7, none⟩ = some (.int .i64 a0_7) := kc_ BK167 7; have hcz49_8 : w48.cell? ⟨gb167, 8, none⟩ = some (.string a0_8) := kc_ BK167 8; have hcz49_9 : w48.cell? ⟨gb167, 9, none⟩ = some (.int .i64 a0_9) := kc_ BK167 9; have hcz49_10 : w48.cell? ⟨gb167, 10, none⟩ = some (.slice A0_10 l0_10.length c0_10) := kc_ BK167 10; have hcz49_11 : w48.cell? ⟨gb167, 11, none⟩ = some (.slice A0_11 l0_11.length c0_11) := kc_ BK167 11; have hfz49_0 := blk_frozen BK167.out; have hcz50_0 : w48.cell? ⟨gb168, 0, none⟩ = some (.int .i64 a1_0) := kc_ BK168 0; have hcz50_1 : w48.cell? ⟨gb168, 1, none⟩ = some (.int .i64 a1_1) := kc_ BK168 1; have hcz50_2 : w48.cell? ⟨gb168, 2, none⟩ = some (.slice A1_2 l1_2.length c1_2) := kc_ BK168 2; have hcz50_3 : w48.cell? ⟨gb168, 3, none⟩ = some (.int .i64 a1_3) := kc_ BK168 3; have hcz50_4 : w48.cell? ⟨gb168, 4, none⟩ = some (.int .i64 a1_4) := kc_ BK168 4; have hcz50_5 : w48.cell? ⟨gb168, 5, none⟩ = some (.int .i64 a1_5) := kc_ BK168 5; have hcz50_6 : w48.cell? ⟨gb168, 6, none⟩ = some (.int .i64 a1_6) := kc_ BK168 6; have hcz50_7 : w48.cell? ⟨gb168, 7, none⟩ = some (.int .i64 a1_7) := kc_ BK168 7; have hcz50_8 : w48.cell? ⟨gb168, 8, none⟩ = some (.string a1_8) := kc_ BK168 8; have hcz50_9 : w48.cell? ⟨gb168, 9, none⟩ = some (.int .i64 a1_9) := kc_ BK168 9; have hcz50_10 : w48.cell? ⟨gb168, 10, none⟩ = some (.slice A1_10 l1_10.length c1_10) := kc_ BK168 10; have hcz50_11 : w48.cell? ⟨gb168, 11, none⟩ = some (.slice A1_11 l1_11.length c1_11) := kc_ BK168 11; have hfz50_0 := blk_frozen BK168.out) | (go_at_call 30; (with_reducible refine (raddlekeep_Ints.calls k _ _ l0_2 _ _ l1_2 true _ ?side1 ?side2 ?side3 ?side4 A5.out).mono ?_); (case side1 => exact cX_ (C_below HR0_2.out HB.out)); (case side2 => exact HC0_2.out); (case side3 => exact cX_ (C_below HR1_2.out HB.out)); (case side4 => exact HC1_2.out); rintro e w' ⟨rfl, ⟨nd, rfl⟩⟩) | (go_at_call 31; (with_reducible refine (raddlekeep_Stamp.calls a0_3 a0_4 a0_5 a1_3 a1_4 a1_5 true _ A7.out).mono ?_); rintro e w51 ⟨rfl, hb⟩; have n0_ := mk_ (bB_ BK167 hb); have n1_ := mk_ (bB_ BK168 hb); have n2_ := mk_ (below_step (Short.hB HB) hb); clear BK167 BK168 HB; revert n0_ n1_ n2_; intro BK167 BK168 HB; (try clear hb); (try clear hb2); (try clear hk); (try clear hi); have hcz52_0 : w51.cell? ⟨gb167, 0, none⟩ = some (.int .i64 a0_0) := kc_ BK167 0; have hcz52_1 : w51.cell? ⟨gb167, 1, none⟩ = some (.int .i64 a0_1) := kc_ BK167 1; have hcz52_2 : w51.cell? ⟨gb167, 2, none⟩ = some (.slice A0_2 l0_2.length c0_2) := kc_ BK167 2; have hcz52_3 : w51.cell? ⟨gb167, 3, none⟩ = some (.int .i64 a0_3) := kc_ BK167 3; have hcz52_4 : w51.cell? ⟨gb167, 4, none⟩ = some (.int .i64 a0_4) := kc_ BK167 4; have hcz52_5 : w51.cell? ⟨gb167, 5, none⟩ = some (.int .i64 a0_5) := kc_ BK167 5; have hcz52_6 : w51.cell? ⟨gb167, 6, none⟩ = some (.int .i64 a0_6) := kc_ BK167 6; have hcz52_7 : w51.cell? ⟨gb167, 7, none⟩ = some (.int .i64 a0_7) := kc_ BK167 7; have hcz52_8 : w51.cell? ⟨gb167, 8, none⟩ = some (.string a0_8) := kc_ BK167 8; have hcz52_9 : w51.cell? ⟨gb167, 9, none⟩ = some (.int .i64 a0_9) := kc_ BK167 9; have hcz52_10 : w51.cell? ⟨gb167, 10, none⟩ = some (.slice A0_10 l0_10.length c0_10) := kc_ BK167 10; have hcz52_11 : w51.cell? ⟨gb167, 11, none⟩ = some (.slice A0_11 l0_11.length c0_11) := kc_ BK167 11; have hfz52_0 := blk_frozen BK167.out; have hcz53_0 : w51.cell? ⟨gb168, 0, none⟩ = some (.int .i64 a1_0) := kc_ BK168 0; have hcz53_1 : w51.cell? ⟨gb168, 1, none⟩ = some (.int .i64 a1_1) := kc_ BK168 1; have hcz53_2 : w51.cell? ⟨gb168, 2, none⟩ = some (.slice A1_2 l1_2.length c1_2) := kc_ BK168 2; have hcz53_3 : w51.cell? ⟨gb168, 3, none⟩ = some (.int .i64 a1_3) := kc_ BK168 3; have hcz53_4 : w51.cell? ⟨gb168, 4, none⟩ = some (.int .i64 a1_4) := kc_ BK168 4; have hcz53_5 : w51.cell? ⟨gb168, 5, none⟩ = some (.int .i64 a1_5) := kc_ BK168 5; have hcz53_6 : w51.cell? ⟨gb168, 6, none⟩ = some (.int .i64 a1_6) := kc_ BK168 6; have hcz53_7 : w51.cell? ⟨gb168, 7, none⟩ = some (.int .i64 a1_7) := kc_ BK168 7; have hcz53_8 : w51.cell? ⟨gb168, 8, none⟩ = some (.string a1_8) := kc_ BK168 8; have hcz53_9 : w51.cell? ⟨gb168, 9, none⟩ = some (.int .i64 a1_9) := kc_ BK168 9; have hcz53_10 : w51.cell? ⟨gb168, 10, none⟩ = some (.slice A1_10 l1_10.length c1_10) := kc_ BK168 10; have hcz53_11 : w51.cell? ⟨gb168, 11, none⟩ = some (.slice A1_11 l1_11.length c1_11) := kc_ BK168 11; have hfz53_0 := blk_frozen BK168.out))
  go_ret
  exact ⟨q0, Short.hB HB⟩
 rw [if_pos c12] at H
 have c12b0 : (a0_9 == a1_9) = true := beq_iff_eq.mpr c12
 have c12b1 : (a0_9 != a1_9) = false := bne_eq_false_iff_eq.mpr c12
 clear c12
 replace H := Option.bind_eq_some_iff.mp H
 obtain ⟨t172, A130, H⟩ := H
 replace H : (if t172 = true then ((raddlekeep_Dots.f k l0_11 l1_11).bind fun t173 => (some t173)) else (some false)) = some r := H
 have A13 := mk_ A130
 clear A130
 by_cases c14 : t172 = true
 rotate_left
 ·
  replace c14 := Bool.eq_false_iff.mpr c14
  subst c14
  have H1 : (some false) = some r := by rw [if_neg (show ¬ (false = true) by decide)] at H; exact H
  clear H
  have H := H1
  clear H1
  obtain rfl := Option.some.inj H
  go_enter Try.func13, Try.ntmps13
  go_wp2_with (first | ((with_reducible refine gate_dst (N := 2) rfl ?_); refine box_event ?hg (N := 2) ?hd (cs := #[.int .i64 a0_0, .int .i64 a0_1, .slice A0_2 l0_2.length c0_2, .int .i64 a0_3, .int .i64 a0_4, .int .i64 a0_5, .int .i64 a0_6, .int .i64 a0_7, .string a0_8, .int .i64 a0_9, .slice A0_10 l0_10.length c0_10, .slice A0_11 l0_11.length c0_11]) (t := 32) ?hr ?_; (case hd => rfl); (case hg => rfl); (case hr => first | (go_simp; done) | (go_simp; rfl)); intro gb167 hg w31 hbox hb; have n0_ := mk_ (below_step (Short.hB HB) hb); have n1_ := mk_ (hbox); have n2_ := mk_ ((by rw [hg]; exact (below_size (Short.hB HB)) : w.heap.size ≤ gb167)); have n3_ := mk_ ((by rw [hg]; exact (below_size (Short.hB HB)) : w.heap.size ≤ gb167)); clear HB; revert n0_ n1_ n2_ n3_; intro HB BK167 GW167 GE167; clear hb hbox hg) | ((with_reducible refine gate_dst (N := 3) rfl ?_); refine box_event ?hg (N := 3) ?hd (cs := #[.int .i64 a1_0, .int .i64 a1_1, .slice A1_2 l1_2.length c1_2, .int .i64 a1_3, .int .i64 a1_4, .int .i64 a1_5, .int .i64 a1_6, .int .i64 a1_7, .string a1_8, .int .i64 a1_9, .slice A1_10 l1_10.length c1_10, .slice A1_11 l1_11.length c1_11]) (t := 32) ?hr ?_; (case hd => rfl); (case hg => rfl); (case hr => first | (go_simp; done) | (go_simp; rfl)); intro gb168 hg w32 hbox hb; have n0_ := mk_ (bB_ BK167 hb); have n1_ := mk_ (below_step (Short.hB HB) hb); have n2_ := mk_ (hbox); have n3_ := mk_ ((by rw [hg]; exact (below_size (Short.hB HB)) : w.heap.size ≤ gb168)); have n4_ := mk_ ((by rw [hg]; exact (below_size (Short.hB HB)) : w.heap.size ≤ gb168)); have n5_ := mk_ ((by rw [hg]; exact Nat.ne_of_lt (blk_lt (g := gb167) (o := .cells #[.int .i64 a0_0, .int .i64 a0_1, .slice A0_2 l0_2.length c0_2, .int .i64 a0_3, .int .i64 a0_4, .int .i64 a0_5, .int .i64 a0_6, .int .i64 a0_7, .string a0_8, .int .i64 a0_9, .slice A0_10 l0_10.length c0_10, .slice A0_11 l0_11.length c0_11] 32 (0, 0)) (Short.bK BK167)) : gb167 ≠ gb168)); have n6_ := mk_ ((by rw [hg]; exact Nat.ne_of_gt (blk_lt (g := gb167) (o := .cells #[.int .i64 a0_0, .int .i64 a0_1, .slice A0_2 l0_2.length c0_2, .int .i64 a0_3, .int .i64 a0_4, .int .i64 a0_5, .int .i64 a0_6, .int .i64 a0_7, .string a0_8, .int .i64 a0_9, .slice A0_10 l0_10.length c0_10, .slice A0_11 l0_11.length c0_11] 32 (0, 0)) (Short.bK BK167)) : gb168 ≠ gb167)); clear BK167 HB; revert n0_ n1_ n2_ n3_ n4_ n5_ n6_; intro BK167 HB BK168 GW168 GE168 NB167_168 NB168_167; clear hb hbox hg; have hnb33 := NB167_168.out; have hnc33 := NB168_167.out; have hcz34_0 : w32.cell? ⟨gb167, 0, none⟩ = some (.int .i64 a0_0) := kc_ BK167 0; have hcz34_1 : w32.cell? ⟨gb167, 1, none⟩ = some (.int .i64 a0_1) := kc_ BK167 1; have hcz34_2 : w32.cell? ⟨gb167, 2, none⟩ = some (.slice A0_2 l0_2.length c0_2) := kc_ BK167 2; have hcz34_3 : w32.cell? ⟨gb167, 3, none⟩ = some (.int .i64 a0_3) := kc_ BK167 3; have hcz34_4 : w32.cell? ⟨gb167, 4, none⟩ = some (.int .i64 a0_4) := kc_ BK167 4; have hcz34_5 : w32.cell? ⟨gb167, 5, none⟩ = some (.int .i64 a0_5) := kc_ BK167 5; have hcz34_6 : w32.cell? ⟨gb167, 6, none⟩ = some (.int .i64 a0_6) := kc_ BK167 6; have hcz34_7 : w32.cell? ⟨gb167, 7, none⟩ = some (.int .i64 a0_7) := kc_ BK167 7; have hcz34_8 : w32.cell? ⟨gb167, 8, none⟩ = some (.string a0_8) := kc_ BK167 8; have hcz34_9 : w32.cell? ⟨gb167, 9, none⟩ = some (.int .i64 a0_9) := kc_ BK167 9; have hcz34_10 : w32.cell? ⟨gb167, 10, none⟩ = some (.slice A0_10 l0_10.length c0_10) := kc_ BK167 10; have hcz34_11 : w32.cell? ⟨gb167, 11, none⟩ = some (.slice A0_11 l0_11.length c0_11) := kc_ BK167 11; have hfz34_0 := blk_frozen BK167.out; have hcz35_0 : w32.cell? ⟨gb168, 0, none⟩ = some (.int .i64 a1_0) := kc_ BK168 0; have hcz35_1 : w32.cell? ⟨gb168, 1, none⟩ = some (.int .i64 a1_1) := kc_ BK168 1; have hcz35_2 : w32.cell? ⟨gb168, 2, none⟩ = some (.slice A1_2 l1_2.length c1_2) := kc_ BK168 2; have hcz35_3 : w32.cell? ⟨gb168, 3, none⟩ = some (.int .i64 a1_3) := kc_ BK168 3; have hcz35_4 : w32.cell? ⟨gb168, 4, none⟩ = some (.int .i64 a1_4) := kc_ BK168 4; have hcz35_5 : w32.cell? ⟨gb168, 5, none⟩ = some (.int .i64 a1_5) := kc_ BK168 5; have hcz35_6 : w32.cell? ⟨gb168, 6, none⟩ = some (.int .i64 a1_6) := kc_ BK168 6; have hcz35_7 : w32.cell? ⟨gb168, 7, none⟩ = some (.int .i64 a1_7) := kc_ BK168 7; have hcz35_8 : w32.cell? ⟨gb168, 8, none⟩ = some (.string a1_8) := kc_ BK168 8; have hcz35_9 : w32.cell? ⟨gb168, 9, none⟩ = some (.int .i64 a1_9) := kc_ BK168 9; have hcz35_10 : w32.cell? ⟨gb168, 10, none⟩ = some (.slice A1_10 l1_10.length c1_10) := kc_ BK168 10; have hcz35_11 : w32.cell? ⟨gb168, 11, none⟩ = some (.slice A1_11 l1_11.length c1_11) := kc_ BK168 11; have hfz35_0 := blk_frozen BK168.out) | ((with_reducible refine gate_callee (f := 29) rfl ?_); refine Short.gL (some 9) Try.func29 #[.agg #[.int .i64 a0_0, .int .i64 a0_1], .agg #[.int .i64 a1_0, .int .i64 a1_1]] (h := ?_); (with_reducible refine (raddlekeep_Dot.calls a0_0 a0_1 a1_0 a1_1 true _ A3.out).mono ?_); rintro e w36 ⟨rfl, hb⟩; refine ⟨_, rfl, ?_⟩; have n0_ := mk_ (bB_ BK167 hb); have n1_ := mk_ (bB_ BK168 hb); have n2_ := mk_ (below_step (Short.hB HB) hb); clear BK167 BK168 HB; revert n0_ n1_ n2_; intro BK167 BK168 HB; (try clear hb); have hcz37_0 : w36.cell? ⟨gb167, 0, none⟩ = some (.int .i64 a0_0) := kc_ BK167 0; have hcz37_1 : w36.cell? ⟨gb167, 1, none⟩ = some (.int .i64 a0_1) := kc_ BK167 1; have hcz37_2 : w36.cell? ⟨gb167, 2, none⟩ = some (.slice A0_2 l0_2.length c0_2) := kc_ BK167 2; have hcz37_3 : w36.cell? ⟨gb167, 3, none⟩ = some (.int .i64 a0_3) := kc_ BK167 3; have hcz37_4 : w36.cell? ⟨gb167, 4, none⟩ = some (.int .i64 a0_4) := kc_ BK167 4; have hcz37_5 : w36.cell? ⟨gb167, 5, none⟩ = some (.int .i64 a0_5) := kc_ BK167 5; have hcz37_6 : w36.cell? ⟨gb167, 6, none⟩ = some (.int .i64 a0_6) := kc_ BK167 6; have hcz37_7 : w36.cell? ⟨gb167, 7, none⟩ = some (.int .i64 a0_7) := kc_ BK167 7; have hcz37_8 : w36.cell? ⟨gb167, 8, none⟩ = some (.string a0_8) := kc_ BK167 8; have hcz37_9 : w36.cell? ⟨gb167, 9, none⟩ = some (.int .i64 a0_9) := kc_ BK167 9; have hcz37_10 : w36.cell? ⟨gb167, 10, none⟩ = some (.slice A0_10 l0_10.length c0_10) := kc_ BK167 10; have hcz37_11 : w36.cell? ⟨gb167, 11, none⟩ = some (.slice A0_11 l0_11.length c0_11) := kc_ BK167 11; have hfz37_0 := blk_frozen BK167.out; have hcz38_0 : w36.cell? ⟨gb168, 0, none⟩ = some (.int .i64 a1_0) := kc_ BK168 0; have hcz38_1 : w36.cell? ⟨gb168, 1, none⟩ = some (.int .i64 a1_1) := kc_ BK168 1; have hcz38_2 : w36.cell? ⟨gb168, 2, none⟩ = some (.slice A1_2 l1_2.length c1_2) := kc_ BK168 2; have hcz38_3 : w36.cell? ⟨gb168, 3, none⟩ = some (.int .i64 a1_3) := kc_ BK168 3; have hcz38_4 : w36.cell? ⟨gb168, 4, none⟩ = some (.int .i64 a1_4) := kc_ BK168 4; have hcz38_5 : w36.cell? ⟨gb168, 5, none⟩ = some (.int .i64 a1_5) := kc_ BK168 5; have hcz38_6 : w36.cell? ⟨gb168, 6, none⟩ = some (.int .i64 a1_6) := kc_ BK168 6; have hcz38_7 : w36.cell? ⟨gb168, 7, none⟩ = some (.int .i64 a1_7) := kc_ BK168 7; have hcz38_8 : w36.cell? ⟨gb168, 8, none⟩ = some (.string a1_8) := kc_ BK168 8; have hcz38_9 : w36.cell? ⟨gb168, 9, none⟩ = some (.int .i64 a1_9) := kc_ BK168 9; have hcz38_10 : w36.cell? ⟨gb168, 10, none⟩ = some (.slice A1_10 l1_10.length c1_10) := kc_ BK168 10; have hcz38_11 : w36.cell? ⟨gb168, 11, none⟩ = some (.slice A1_11 l1_11.length c1_11) := kc_ BK168 11; have hfz38_0 := blk_frozen BK168.out) | (go_at_call 30; (with_reducible refine (raddlekeep_Ints.calls k _ _ l0_2 _ _ l1_2 true _ ?side1 ?side2 ?side3 ?side4 A5.out).mono ?_); (case side1 => exact cX_ (C_below HR0_2.out HB.out)); (case side2 => exact HC0_2.out); (case side3 => exact cX_ (C_below HR1_2.out HB.out)); (case side4 => exact HC1_2.out); rintro e w' ⟨rfl, ⟨nd, rfl⟩⟩) | (go_at_call 31; (with_reducible refine (raddlekeep_Stamp.calls a0_3 a0_4 a0_5 a1_3 a1_4 a1_5 true _ A7.out).mono ?_); rintro e w39 ⟨rfl, hb⟩; have n0_ := mk_ (bB_ BK167 hb); have n1_ := mk_ (bB_ BK168 hb); have n2_ := mk_ (below_step (Short.hB HB) hb); clear BK167 BK168 HB; revert n0_ n1_ n2_; intro BK167 BK168 HB; (try clear hb); (try clear hb2); (try clear hk); (try clear hi); have hcz40_0 : w39.cell? ⟨gb167, 0, none⟩ = some (.int .i64 a0_0) := kc_ BK167 0; have hcz40_1 : w39.cell? ⟨gb167, 1, none⟩ = some (.int .i64 a0_1) := kc_ BK167 1; have hcz40_2 : w39.cell? ⟨gb167, 2, none⟩ = some (.slice A0_2 l0_2.length c0_2) := kc_ BK167 2; have hcz40_3 : w39.cell? ⟨gb167, 3, none⟩ = some (.int .i64 a0_3) := kc_ BK167 3; have hcz40_4 : w39.cell? ⟨gb167, 4, none⟩ = some (.int .i64 a0_4) := kc_ BK167 4; have hcz40_5 : w39.cell? ⟨gb167, 5, none⟩ = some (.int .i64 a0_5) := kc_ BK167 5; have hcz40_6 : w39.cell? ⟨gb167, 6, none⟩ = some (.int .i64 a0_6) := kc_ BK167 6; have hcz40_7 : w39.cell? ⟨gb167, 7, none⟩ = some (.int .i64 a0_7) := kc_ BK167 7; have hcz40_8 : w39.cell? ⟨gb167, 8, none⟩ = some (.string a0_8) := kc_ BK167 8; have hcz40_9 : w39.cell? ⟨gb167, 9, none⟩ = some (.int .i64 a0_9) := kc_ BK167 9; have hcz40_10 : w39.cell? ⟨gb167, 10, none⟩ = some (.slice A0_10 l0_10.length c0_10) := kc_ BK167 10; have hcz40_11 : w39.cell? ⟨gb167, 11, none⟩ = some (.slice A0_11 l0_11.length c0_11) := kc_ BK167 11; have hfz40_0 := blk_frozen BK167.out; have hcz41_0 : w39.cell? ⟨gb168, 0, none⟩ = some (.int .i64 a1_0) := kc_ BK168 0; have hcz41_1 : w39.cell? ⟨gb168, 1, none⟩ = some (.int .i64 a1_1) := kc_ BK168 1; have hcz41_2 : w39.cell? ⟨gb168, 2, none⟩ = some (.slice A1_2 l1_2.length c1_2) := kc_ BK168 2; have hcz41_3 : w39.cell? ⟨gb168, 3, none⟩ = some (.int .i64 a1_3) := kc_ BK168 3; have hcz41_4 : w39.cell? ⟨gb168, 4, none⟩ = some (.int .i64 a1_4) := kc_ BK168 4; have hcz41_5 : w39.cell? ⟨gb168, 5, none⟩ = some (.int .i64 a1_5) := kc_ BK168 5; have hcz41_6 : w39.cell? ⟨gb168, 6, none⟩ = some (.int .i64 a1_6) := kc_ BK168 6; have hcz41_7 : w39.cell? ⟨gb168, 7, none⟩ = some (.int .i64 a1_7) := kc_ BK168 7; have hcz41_8 : w39.cell? ⟨gb168, 8, none⟩ = some (.string a1_8) := kc_ BK168 8; have hcz41_9 : w39.cell? ⟨gb168, 9, none⟩ = some (.int .i64 a1_9) := kc_ BK168 9; have hcz41_10 : w39.cell? ⟨gb168, 10, none⟩ = some (.slice A1_10 l1_10.length c1_10) := kc_ BK168 10; have hcz41_11 : w39.cell? ⟨gb168, 11, none⟩ = some (.slice A1_11 l1_11.length c1_11) := kc_ BK168 11; have hfz41_0 := blk_frozen BK168.out) | (go_at_call 32; (with_reducible refine (raddlekeep_Row.calls k _ _ l0_10 _ _ l1_10 false _ ?side1 ?side2 ?side3 ?side4 A13.out).mono ?_); (case side1 => exact cX_ (C_below HR0_10.out HB.out)); (case side2 => exact HC0_10.out); (case side3 => exact cX_ (C_below HR1_10.out HB.out)); (case side4 => exact HC1_10.out); rintro e w42 ⟨rfl, hb⟩; have n0_ := mk_ (bB_ BK167 hb); have n1_ := mk_ (bB_ BK168 hb); have n2_ := mk_ (below_step (Short.hB HB) hb); clear BK167 BK168 HB; revert n0_ n1_ n2_; intro BK167 BK168 HB; (try clear hb); (try clear hb2); (try clear hk); (try clear hi)))
  go_ret
  exact ⟨q0, Short.hB HB⟩
 subst c14
 have H1 : ((raddlekeep_Dots.f k l0_11 l1_11).bind fun t173 => (some t173)) = some r := by rw [if_pos rfl] at H; exact H
 clear H
 have H := H1
 clear H1
 replace H := Option.bind_eq_some_iff.mp H
 obtain ⟨t173, A150, H⟩ := H
 replace H : (some t173) = some r := H
 have A15 := mk_ A150
 clear A150
 obtain rfl := Option.some.inj H
 go_enter Try.func13, Try.ntmps13
 go_wp2_with (first | ((with_reducible refine gate_dst (N := 2) rfl ?_); refine box_event ?hg (N := 2) ?hd (cs := #[.int .i64 a0_0, .int .i64 a0_1, .slice A0_2 l0_2.length c0_2, .int .i64 a0_3, .int .i64 a0_4, .int .i64 a0_5, .int .i64 a0_6, .int .i64 a0_7, .string a0_8, .int .i64 a0_9, .slice A0_10 l0_10.length c0_10, .slice A0_11 l0_11.length c0_11]) (t := 32) ?hr ?_; (case hd => rfl); (case hg => rfl); (case hr => first | (go_simp; done) | (go_simp; rfl)); intro gb167 hg w16 hbox hb; have n0_ := mk_ (below_step (Short.hB HB) hb); have n1_ := mk_ (hbox); have n2_ := mk_ ((by rw [hg]; exact (below_size (Short.hB HB)) : w.heap.size ≤ gb167)); have n3_ := mk_ ((by rw [hg]; exact (below_size (Short.hB HB)) : w.heap.size ≤ gb167)); clear HB; revert n0_ n1_ n2_ n3_; intro HB BK167 GW167 GE167; clear hb hbox hg) | ((with_reducible refine gate_dst (N := 3) rfl ?_); refine box_event ?hg (N := 3) ?hd (cs := #[.int .i64 a1_0, .int .i64 a1_1, .slice A1_2 l1_2.length c1_2, .int .i64 a1_3, .int .i64 a1_4, .int .i64 a1_5, .int .i64 a1_6, .int .i64 a1_7, .string a1_8, .int .i64 a1_9, .slice A1_10 l1_10.length c1_10, .slice A1_11 l1_11.length c1_11]) (t := 32) ?hr ?_; (case hd => rfl); (case hg => rfl); (case hr => first | (go_simp; done) | (go_simp; rfl)); intro gb168 hg w17 hbox hb; have n0_ := mk_ (bB_ BK167 hb); have n1_ := mk_ (below_step (Short.hB HB) hb); have n2_ := mk_ (hbox); have n3_ := mk_ ((by rw [hg]; exact (below_size (Short.hB HB)) : w.heap.size ≤ gb168)); have n4_ := mk_ ((by rw [hg]; exact (below_size (Short.hB HB)) : w.heap.size ≤ gb168)); have n5_ := mk_ ((by rw [hg]; exact Nat.ne_of_lt (blk_lt (g := gb167) (o := .cells #[.int .i64 a0_0, .int .i64 a0_1, .slice A0_2 l0_2.length c0_2, .int .i64 a0_3, .int .i64 a0_4, .int .i64 a0_5, .int .i64 a0_6, .int .i64 a0_7, .string a0_8, .int .i64 a0_9, .slice A0_10 l0_10.length c0_10, .slice A0_11 l0_11.length c0_11] 32 (0, 0)) (Short.bK BK167)) : gb167 ≠ gb168)); have n6_ := mk_ ((by rw [hg]; exact Nat.ne_of_gt (blk_lt (g := gb167) (o := .cells #[.int .i64 a0_0, .int .i64 a0_1, .slice A0_2 l0_2.length c0_2, .int .i64 a0_3, .int .i64 a0_4, .int .i64 a0_5, .int .i64 a0_6, .int .i64 a0_7, .string a0_8, .int .i64 a0_9, .slice A0_10 l0_10.length c0_10, .slice A0_11 l0_11.length c0_11] 32 (0, 0)) (Short.bK BK167)) : gb168 ≠ gb167)); clear BK167 HB; revert n0_ n1_ n2_ n3_ n4_ n5_ n6_; intro BK167 HB BK168 GW168 GE168 NB167_168 NB168_167; clear hb hbox hg; have hnb18 := NB167_168.out; have hnc18 := NB168_167.out; have hcz19_0 : w17.cell? ⟨gb167, 0, none⟩ = some (.int .i64 a0_0) := kc_ BK167 0; have hcz19_1 : w17.cell? ⟨gb167, 1, none⟩ = some (.int .i64 a0_1) := kc_ BK167 1; have hcz19_2 : w17.cell? ⟨gb167, 2, none⟩ = some (.slice A0_2 l0_2.length c0_2) := kc_ BK167 2; have hcz19_3 : w17.cell? ⟨gb167, 3, none⟩ = some (.int .i64 a0_3) := kc_ BK167 3; have hcz19_4 : w17.cell? ⟨gb167, 4, none⟩ = some (.int .i64 a0_4) := kc_ BK167 4; have hcz19_5 : w17.cell? ⟨gb167, 5, none⟩ = some (.int .i64 a0_5) := kc_ BK167 5; have hcz19_6 : w17.cell? ⟨gb167, 6, none⟩ = some (.int .i64 a0_6) := kc_ BK167 6; have hcz19_7 : w17.cell? ⟨gb167, 7, none⟩ = some (.int .i64 a0_7) := kc_ BK167 7; have hcz19_8 : w17.cell? ⟨gb167, 8, none⟩ = some (.string a0_8) := kc_ BK167 8; have hcz19_9 : w17.cell? ⟨gb167, 9, none⟩ = some (.int .i64 a0_9) := kc_ BK167 9; have hcz19_10 : w17.cell? ⟨gb167, 10, none⟩ = some (.slice A0_10 l0_10.length c0_10) := kc_ BK167 10; have hcz19_11 : w17.cell? ⟨gb167, 11, none⟩ = some (.slice A0_11 l0_11.length c0_11) := kc_ BK167 11; have hfz19_0 := blk_frozen BK167.out; have hcz20_0 : w17.cell? ⟨gb168, 0, none⟩ = some (.int .i64 a1_0) := kc_ BK168 0; have hcz20_1 : w17.cell? ⟨gb168, 1, none⟩ = some (.int .i64 a1_1) := kc_ BK168 1; have hcz20_2 : w17.cell? ⟨gb168, 2, none⟩ = some (.slice A1_2 l1_2.length c1_2) := kc_ BK168 2; have hcz20_3 : w17.cell? ⟨gb168, 3, none⟩ = some (.int .i64 a1_3) := kc_ BK168 3; have hcz20_4 : w17.cell? ⟨gb168, 4, none⟩ = some (.int .i64 a1_4) := kc_ BK168 4; have hcz20_5 : w17.cell? ⟨gb168, 5, none⟩ = some (.int .i64 a1_5) := kc_ BK168 5; have hcz20_6 : w17.cell? ⟨gb168, 6, none⟩ = some (.int .i64 a1_6) := kc_ BK168 6; have hcz20_7 : w17.cell? ⟨gb168, 7, none⟩ = some (.int .i64 a1_7) := kc_ BK168 7; have hcz20_8 : w17.cell? ⟨gb168, 8, none⟩ = some (.string a1_8) := kc_ BK168 8; have hcz20_9 : w17.cell? ⟨gb168, 9, none⟩ = some (.int .i64 a1_9) := kc_ BK168 9; have hcz20_10 : w17.cell? ⟨gb168, 10, none⟩ = some (.slice A1_10 l1_10.length c1_10) := kc_ BK168 10; have hcz20_11 : w17.cell? ⟨gb168, 11, none⟩ = some (.slice A1_11 l1_11.length c1_11) := kc_ BK168 11; have hfz20_0 := blk_frozen BK168.out) | ((with_reducible refine gate_callee (f := 29) rfl ?_); refine Short.gL (some 9) Try.func29 #[.agg #[.int .i64 a0_0, .int .i64 a0_1], .agg #[.int .i64 a1_0, .int .i64 a1_1]] (h := ?_); (with_reducible refine (raddlekeep_Dot.calls a0_0 a0_1 a1_0 a1_1 true _ A3.out).mono ?_); rintro e w21 ⟨rfl, hb⟩; refine ⟨_, rfl, ?_⟩; have n0_ := mk_ (bB_ BK167 hb); have n1_ := mk_ (bB_ BK168 hb); have n2_ := mk_ (below_step (Short.hB HB) hb); clear BK167 BK168 HB; revert n0_ n1_ n2_; intro BK167 BK168 HB; (try clear hb); have hcz22_0 : w21.cell? ⟨gb167, 0, none⟩ = some (.int .i64 a0_0) := kc_ BK167 0; have hcz22_1 : w21.cell? ⟨gb167, 1, none⟩ = some (.int .i64 a0_1) := kc_ BK167 1; have hcz22_2 : w21.cell? ⟨gb167, 2, none⟩ = some (.slice A0_2 l0_2.length c0_2) := kc_ BK167 2; have hcz22_3 : w21.cell? ⟨gb167, 3, none⟩ = some (.int .i64 a0_3) := kc_ BK167 3; have hcz22_4 : w21.cell? ⟨gb167, 4, none⟩ = some (.int .i64 a0_4) := kc_ BK167 4; have hcz22_5 : w21.cell? ⟨gb167, 5, none⟩ = some (.int .i64 a0_5) := kc_ BK167 5; have hcz22_6 : w21.cell? ⟨gb167, 6, none⟩ = some (.int .i64 a0_6) := kc_ BK167 6; have hcz22_7 : w21.cell? ⟨gb167, 7, none⟩ = some (.int .i64 a0_7) := kc_ BK167 7; have hcz22_8 : w21.cell? ⟨gb167, 8, none⟩ = some (.string a0_8) := kc_ BK167 8; have hcz22_9 : w21.cell? ⟨gb167, 9, none⟩ = some (.int .i64 a0_9) := kc_ BK167 9; have hcz22_10 : w21.cell? ⟨gb167, 10, none⟩ = some (.slice A0_10 l0_10.length c0_10) := kc_ BK167 10; have hcz22_11 : w21.cell? ⟨gb167, 11, none⟩ = some (.slice A0_11 l0_11.length c0_11) := kc_ BK167 11; have hfz22_0 := blk_frozen BK167.out; have hcz23_0 : w21.cell? ⟨gb168, 0, none⟩ = some (.int .i64 a1_0) := kc_ BK168 0; have hcz23_1 : w21.cell? ⟨gb168, 1, none⟩ = some (.int .i64 a1_1) := kc_ BK168 1; have hcz23_2 : w21.cell? ⟨gb168, 2, none⟩ = some (.slice A1_2 l1_2.length c1_2) := kc_ BK168 2; have hcz23_3 : w21.cell? ⟨gb168, 3, none⟩ = some (.int .i64 a1_3) := kc_ BK168 3; have hcz23_4 : w21.cell? ⟨gb168, 4, none⟩ = some (.int .i64 a1_4) := kc_ BK168 4; have hcz23_5 : w21.cell? ⟨gb168, 5, none⟩ = some (.int .i64 a1_5) := kc_ BK168 5; have hcz23_6 : w21.cell? ⟨gb168, 6, none⟩ = some (.int .i64 a1_6) := kc_ BK168 6; have hcz23_7 : w21.cell? ⟨gb168, 7, none⟩ = some (.int .i64 a1_7) := kc_ BK168 7; have hcz23_8 : w21.cell? ⟨gb168, 8, none⟩ = some (.string a1_8) := kc_ BK168 8; have hcz23_9 : w21.cell? ⟨gb168, 9, none⟩ = some (.int .i64 a1_9) := kc_ BK168 9; have hcz23_10 : w21.cell? ⟨gb168, 10, none⟩ = some (.slice A1_10 l1_10.length c1_10) := kc_ BK168 10; have hcz23_11 : w21.cell? ⟨gb168, 11, none⟩ = some (.slice A1_11 l1_11.length c1_11) := kc_ BK168 11; have hfz23_0 := blk_frozen BK168.out) | (go_at_call 30; (with_reducible refine (raddlekeep_Ints.calls k _ _ l0_2 _ _ l1_2 true _ ?side1 ?side2 ?side3 ?side4 A5.out).mono ?_); (case side1 => exact cX_ (C_below HR0_2.out HB.out)); (case side2 => exact HC0_2.out); (case side3 => exact cX_ (C_below HR1_2.out HB.out)); (case side4 => exact HC1_2.out); rintro e w' ⟨rfl, ⟨nd, rfl⟩⟩) | (go_at_call 31; (with_reducible refine (raddlekeep_Stamp.calls a0_3 a0_4 a0_5 a1_3 a1_4 a1_5 true _ A7.out).mono ?_); rintro e w24 ⟨rfl, hb⟩; have n0_ := mk_ (bB_ BK167 hb); have n1_ := mk_ (bB_ BK168 hb); have n2_ := mk_ (below_step (Short.hB HB) hb); clear BK167 BK168 HB; revert n0_ n1_ n2_; intro BK167 BK168 HB; (try clear hb); (try clear hb2); (try clear hk); (try clear hi); have hcz25_0 : w24.cell? ⟨gb167, 0, none⟩ = some (.int .i64 a0_0) := kc_ BK167 0; have hcz25_1 : w24.cell? ⟨gb167, 1, none⟩ = some (.int .i64 a0_1) := kc_ BK167 1; have hcz25_2 : w24.cell? ⟨gb167, 2, none⟩ = some (.slice A0_2 l0_2.length c0_2) := kc_ BK167 2; have hcz25_3 : w24.cell? ⟨gb167, 3, none⟩ = some (.int .i64 a0_3) := kc_ BK167 3; have hcz25_4 : w24.cell? ⟨gb167, 4, none⟩ = some (.int .i64 a0_4) := kc_ BK167 4; have hcz25_5 : w24.cell? ⟨gb167, 5, none⟩ = some (.int .i64 a0_5) := kc_ BK167 5; have hcz25_6 : w24.cell? ⟨gb167, 6, none⟩ = some (.int .i64 a0_6) := kc_ BK167 6; have hcz25_7 : w24.cell? ⟨gb167, 7, none⟩ = some (.int .i64 a0_7) := kc_ BK167 7; have hcz25_8 : w24.cell? ⟨gb167, 8, none⟩ = some (.string a0_8) := kc_ BK167 8; have hcz25_9 : w24.cell? ⟨gb167, 9, none⟩ = some (.int .i64 a0_9) := kc_ BK167 9; have hcz25_10 : w24.cell? ⟨gb167, 10, none⟩ = some (.slice A0_10 l0_10.length c0_10) := kc_ BK167 10; have hcz25_11 : w24.cell? ⟨gb167, 11, none⟩ = some (.slice A0_11 l0_11.length c0_11) := kc_ BK167 11; have hfz25_0 := blk_frozen BK167.out; have hcz26_0 : w24.cell? ⟨gb168, 0, none⟩ = some (.int .i64 a1_0) := kc_ BK168 0; have hcz26_1 : w24.cell? ⟨gb168, 1, none⟩ = some (.int .i64 a1_1) := kc_ BK168 1; have hcz26_2 : w24.cell? ⟨gb168, 2, none⟩ = some (.slice A1_2 l1_2.length c1_2) := kc_ BK168 2; have hcz26_3 : w24.cell? ⟨gb168, 3, none⟩ = some (.int .i64 a1_3) := kc_ BK168 3; have hcz26_4 : w24.cell? ⟨gb168, 4, none⟩ = some (.int .i64 a1_4) := kc_ BK168 4; have hcz26_5 : w24.cell? ⟨gb168, 5, none⟩ = some (.int .i64 a1_5) := kc_ BK168 5; have hcz26_6 : w24.cell? ⟨gb168, 6, none⟩ = some (.int .i64 a1_6) := kc_ BK168 6; have hcz26_7 : w24.cell? ⟨gb168, 7, none⟩ = some (.int .i64 a1_7) := kc_ BK168 7; have hcz26_8 : w24.cell? ⟨gb168, 8, none⟩ = some (.string a1_8) := kc_ BK168 8; have hcz26_9 : w24.cell? ⟨gb168, 9, none⟩ = some (.int .i64 a1_9) := kc_ BK168 9; have hcz26_10 : w24.cell? ⟨gb168, 10, none⟩ = some (.slice A1_10 l1_10.length c1_10) := kc_ BK168 10; have hcz26_11 : w24.cell? ⟨gb168, 11, none⟩ = some (.slice A1_11 l1_11.length c1_11) := kc_ BK168 11; have hfz26_0 := blk_frozen BK168.out) | (go_at_call 32; (with_reducible refine (raddlekeep_Row.calls k _ _ l0_10 _ _ l1_10 true _ ?side1 ?side2 ?side3 ?side4 A13.out).mono ?_); (case side1 => exact cX_ (C_below HR0_10.out HB.out)); (case side2 => exact HC0_10.out); (case side3 => exact cX_ (C_below HR1_10.out HB.out)); (case side4 => exact HC1_10.out); rintro e w27 ⟨rfl, hb⟩; have n0_ := mk_ (bB_ BK167 hb); have n1_ := mk_ (bB_ BK168 hb); have n2_ := mk_ (below_step (Short.hB HB) hb); clear BK167 BK168 HB; revert n0_ n1_ n2_; intro BK167 BK168 HB; (try clear hb); (try clear hb2); (try clear hk); (try clear hi); have hcz28_0 : w27.cell? ⟨gb167, 0, none⟩ = some (.int .i64 a0_0) := kc_ BK167 0; have hcz28_1 : w27.cell? ⟨gb167, 1, none⟩ = some (.int .i64 a0_1) := kc_ BK167 1; have hcz28_2 : w27.cell? ⟨gb167, 2, none⟩ = some (.slice A0_2 l0_2.length c0_2) := kc_ BK167 2; have hcz28_3 : w27.cell? ⟨gb167, 3, none⟩ = some (.int .i64 a0_3) := kc_ BK167 3; have hcz28_4 : w27.cell? ⟨gb167, 4, none⟩ = some (.int .i64 a0_4) := kc_ BK167 4; have hcz28_5 : w27.cell? ⟨gb167, 5, none⟩ = some (.int .i64 a0_5) := kc_ BK167 5; have hcz28_6 : w27.cell? ⟨gb167, 6, none⟩ = some (.int .i64 a0_6) := kc_ BK167 6; have hcz28_7 : w27.cell? ⟨gb167, 7, none⟩ = some (.int .i64 a0_7) := kc_ BK167 7; have hcz28_8 : w27.cell? ⟨gb167, 8, none⟩ = some (.string a0_8) := kc_ BK167 8; have hcz28_9 : w27.cell? ⟨gb167, 9, none⟩ = some (.int .i64 a0_9) := kc_ BK167 9; have hcz28_10 : w27.cell? ⟨gb167, 10, none⟩ = some (.slice A0_10 l0_10.length c0_10) := kc_ BK167 10; have hcz28_11 : w27.cell? ⟨gb167, 11, none⟩ = some (.slice A0_11 l0_11.length c0_11) := kc_ BK167 11; have hfz28_0 := blk_frozen BK167.out; have hcz29_0 : w27.cell? ⟨gb168, 0, none⟩ = some (.int .i64 a1_0) := kc_ BK168 0; have hcz29_1 : w27.cell? ⟨gb168, 1, none⟩ = some (.int .i64 a1_1) := kc_ BK168 1; have hcz29_2 : w27.cell? ⟨gb168, 2, none⟩ = some (.slice A1_2 l1_2.length c1_2) := kc_ BK168 2; have hcz29_3 : w27.cell? ⟨gb168, 3, none⟩ = some (.int .i64 a1_3) := kc_ BK168 3; have hcz29_4 : w27.cell? ⟨gb168, 4, none⟩ = some (.int .i64 a1_4) := kc_ BK168 4; have hcz29_5 : w27.cell? ⟨gb168, 5, none⟩ = some (.int .i64 a1_5) := kc_ BK168 5; have hcz29_6 : w27.cell? ⟨gb168, 6, none⟩ = some (.int .i64 a1_6) := kc_ BK168 6; have hcz29_7 : w27.cell? ⟨gb168, 7, none⟩ = some (.int .i64 a1_7) := kc_ BK168 7; have hcz29_8 : w27.cell? ⟨gb168, 8, none⟩ = some (.string a1_8) := kc_ BK168 8; have hcz29_9 : w27.cell? ⟨gb168, 9, none⟩ = some (.int .i64 a1_9) := kc_ BK168 9; have hcz29_10 : w27.cell? ⟨gb168, 10, none⟩ = some (.slice A1_10 l1_10.length c1_10) := kc_ BK168 10; have hcz29_11 : w27.cell? ⟨gb168, 11, none⟩ = some (.slice A1_11 l1_11.length c1_11) := kc_ BK168 11; have hfz29_0 := blk_frozen BK168.out) | (go_at_call 33; (with_reducible refine (raddlekeep_Dots.calls k _ _ l0_11 _ _ l1_11 t173 _ ?side1 ?side2 ?side3 ?side4 A15.out).mono ?_); (case side1 => exact cX_ (C_below HR0_11.out HB.out)); (case side2 => exact HC0_11.out); (case side3 => exact cX_ (C_below HR1_11.out HB.out)); (case side4 => exact HC1_11.out); rintro e w30 ⟨rfl, hb⟩; have n0_ := mk_ (bB_ BK167 hb); have n1_ := mk_ (bB_ BK168 hb); have n2_ := mk_ (below_step (Short.hB HB) hb); clear BK167 BK168 HB; revert n0_ n1_ n2_; intro BK167 BK168 HB; (try clear hb); (try clear hb2); (try clear hk); (try clear hi)))
 go_ret
 exact ⟨q0, Short.hB HB⟩
def row_wrong.f (a0_0 : Int) (a0_1 : Int) (a0_2 : ByteArray) : Option (Bool) := (value_Check.f a0_0 a0_1 a0_2).bind fun t175 => (some (t175 != 0))
theorem row_wrong.calls (a0_0 : Int) (a0_1 : Int) (a0_2 : ByteArray) (r : Bool) (w : World) (h : row_wrong.f a0_0 a0_1 a0_2 = some r) :
  Calls Try.prog 86 #[.agg #[.int .i64 a0_0, .int .i64 a0_1, .string a0_2]] w fun e w' => e = .returned (.bool r) ∧ Below w.heap.size w w' := by
 have hu84 := Try.underlying84
 have HB := mk_ (Below.refl w.heap.size w)
 have H : ((value_Check.f a0_0 a0_1 a0_2).bind fun t175 => (some (t175 != 0))) = some r := h
 clear h
 replace H := Option.bind_eq_some_iff.mp H
 obtain ⟨t175, A20, H⟩ := H
 replace H : (some (t175 != 0)) = some r := H
 have A2 := mk_ A20
 clear A20
 obtain rfl := Option.some.inj H
 go_enter Try.func86, Try.ntmps86
 go_wp2_with (first | ((with_reducible refine gate_dst (N := 1) rfl ?_); refine box_event ?hg (N := 1) ?hd (cs := #[.int .i64 a0_0, .int .i64 a0_1, .string a0_2]) (t := 84) ?hr ?_; (case hd => rfl); (case hg => rfl); (case hr => first | (go_simp; done) | (go_simp; rfl)); intro gb174 hg w3 hbox hb; have n0_ := mk_ (below_step (Short.hB HB) hb); have n1_ := mk_ (hbox); have n2_ := mk_ ((by rw [hg]; exact (below_size (Short.hB HB)) : w.heap.size ≤ gb174)); have n3_ := mk_ ((by rw [hg]; exact (below_size (Short.hB HB)) : w.heap.size ≤ gb174)); clear HB; revert n0_ n1_ n2_ n3_; intro HB BK174 GW174 GE174; clear hb hbox hg; obtain ⟨hcz4_0, hcz4_1, hcz4_2, hfz4_0, hfz4_1, hfz4_2⟩ := Short.c3 BK174.out) | ((with_reducible refine gate_callee (f := 87) rfl ?_); refine Short.gL (some 4) Try.func87 #[.agg #[.int .i64 a0_0, .int .i64 a0_1, .string a0_2]] (h := ?_); (with_reducible refine (value_Check.calls a0_0 a0_1 a0_2 t175 _ A2.out).mono ?_); rintro e w5 ⟨rfl, hb⟩; refine ⟨_, rfl, ?_⟩; have n0_ := mk_ (bB_ BK174 hb); have n1_ := mk_ (below_step (Short.hB HB) hb); clear BK174 HB; revert n0_ n1_; intro BK174 HB; (try clear hb)))
 go_ret
 exact ⟨q0, Short.hB HB⟩
def slices_IndexFunc_at_row_wrong.l0 : Nat → List (S84) → Int → Int → Option (Int)
 | 0, _, _, _ => none
 | k + 1, x0, x7, x8 => if x8 < x7 then (if 0 ≤ x8 then (if x8 < (x0.length : Int) then ((row_wrong.f ((rd_T84 x0 x8).f0) ((rd_T84 x0 x8).f1) ((rd_T84 x0 x8).f2)).bind fun t177 => (if t177 = true then (some x8) else (slices_IndexFunc_at_row_wrong.l0 k x0 x7 (wrap64 (x8 + 1))))) else (none)) else (none)) else (some (-1))
def slices_IndexFunc_at_row_wrong.f (k : Nat) (l0 : List (S84)) (a1 : Unit) : Option (Int) := slices_IndexFunc_at_row_wrong.l0 k l0 (l0.length : Int) 0
theorem slices_IndexFunc_at_row_wrong.calls (k : Nat) (A0 : Option Addr) (c0 : Nat) (l0 : List (S84)) (a1 : Unit) (r : Int) (w : World) (hr0 : Kd.C k84 w A0 l0.length l0) (hc0 : l0.length ≤ c0) (h : slices_IndexFunc_at_row_wrong.f k l0 a1 = some r) :
  Calls Try.prog 106 #[.slice A0 l0.length c0, .func (.func 86) #[] #[]] w fun e w' => e = .returned (.int .i64 r) ∧ Below w.heap.size w w' := by
 have hu84 := Try.underlying84
 have HR0 := mk_ hr0
 have HC0 := mk_ hc0
 clear hr0 hc0
 have HB := mk_ (Below.refl w.heap.size w)
 have H : (slices_IndexFunc_at_row_wrong.l0 k l0 (l0.length : Int) 0) = some r := h
 clear h
 have H' := mk_ H
 clear H
 go_enter Try.func106, Try.ntmps106
 go_wp2
 go_loopg [8] k (fun kq v8 w' => ∃ (x8_1 : Int), v8 = .int .i64 x8_1 ∧ Aside0 (slices_IndexFunc_at_row_wrong.l0 kq l0 (l0.length : Int) x8_1 = some r) ∧ Aside0 (kq ≤ k) ∧ Aside0 (Below w.heap.size w w'))
 case atStart => exact ⟨(0), z3, H', ⟨Nat.le_refl _⟩, ⟨Short.hB HB⟩⟩
 case round =>
  clear H'
  try clear p2
  obtain ⟨x8_1, rfl, HA, HK1, HB⟩ := hrel
  cases gk with
  | zero => exact absurd HA.out (by simp [slices_IndexFunc_at_row_wrong.l0])
  | succ k1 =>
   have H := HA.out
   clear HA
   simp only [slices_IndexFunc_at_row_wrong.l0] at H
   by_cases c3 : x8_1 < (l0.length : Int)
   rotate_left
   ·
    rw [if_neg c3] at H
    have c3b0 : decide (x8_1 < (l0.length : Int)) = false := decide_eq_false c3
    clear c3
    obtain rfl := Option.some.inj H
    go_wp2
    go_ret
    exact ⟨q0, Short.hB HB⟩
   rw [if_pos c3] at H
   have c3b0 : decide (x8_1 < (l0.length : Int)) = true := decide_eq_true c3
   clear c3
   by_cases c4 : 0 ≤ x8_1
   rotate_left
   ·
    rw [if_neg c4] at H
    exact absurd H (by simp)
   rw [if_pos c4] at H
   have c4b0 : decide (0 ≤ x8_1) = true := decide_eq_true c4
   clear c4
   by_cases c5 : x8_1 < (l0.length : Int)
   rotate_left
   ·
    rw [if_neg c5] at H
    exact absurd H (by simp)
   rw [if_pos c5] at H
   have c5b0 : decide (x8_1 < (l0.length : Int)) = true := decide_eq_true c5
   clear c5
   replace H := Option.bind_eq_some_iff.mp H
   obtain ⟨t177, A60, H⟩ := H
   replace H : (if t177 = true then (some x8_1) else (slices_IndexFunc_at_row_wrong.l0 k1 l0 (l0.length : Int) (wrap64 (x8_1 + 1)))) = some r := H
   have A6 := mk_ A60
   clear A60
   by_cases c7 : t177 = true
   ·
    subst c7
    have H1 : (some x8_1) = some r := by rw [if_pos rfl] at H; exact H
    clear H
    have H := H1
    clear H1
    obtain rfl := Option.some.inj H
    have p176 : 0 ≤ (x8_1 : Int) := of_decide_eq_true z0
    have q176 : x8_1 < (l0.length : Int) := of_decide_eq_true z0
    obtain ⟨ad176, e176, hx176_0, hx176_1, hx176_2⟩ := at_T84 HR0.out x8_1 p176 q176
    cases e176
    replace hx176_0 := up_ HB hx176_0
    replace hx176_1 := up_ HB hx176_1
    replace hx176_2 := up_ HB hx176_2
    replace p176 := eq_true p176
    replace q176 := eq_true q176
    go_wp2_with (first | ((first | ((with_reducible refine gate_callee (f := 86) rfl ?_); refine Short.gL (some 16) Try.func86 #[.agg #[.int .i64 ((rd_T84 l0 x8_1).f0), .int .i64 ((rd_T84 l0 x8_1).f1), .string ((rd_T84 l0 x8_1).f2)]] (h := ?_)) | ((with_reducible refine Go.Proofs.Ytjnjfogfpmeacaa.Steps.gate_any rfl ?_); refine Go.Proofs.Ytjnjfogfpmeacaa.Steps.goesV_ (some 16) rfl rfl Try.func86 z1 rfl #[.agg #[.int .i64 ((rd_T84 l0 x8_1).f0), .int .i64 ((rd_T84 l0 x8_1).f1), .string ((rd_T84 l0 x8_1).f2)]] rfl (by first | rfl | go_simp) z2 ?_)); (with_reducible refine (row_wrong.calls ((rd_T84 l0 x8_1).f0) ((rd_T84 l0 x8_1).f1) ((rd_T84 l0 x8_1).f2) true _ A6.out).mono ?_); rintro e w8 ⟨rfl, hb⟩; refine ⟨_, rfl, ?_⟩; have n0_ := mk_ (below_step (Short.hB HB) hb); clear HB; revert n0_; intro HB; (try clear hb)))
    go_ret
    exact ⟨q0, Short.hB HB⟩
   replace c7 := Bool.eq_false_iff.mpr c7
   subst c7
   have H1 : (slices_IndexFunc_at_row_wrong.l0 k1 l0 (l0.length : Int) (wrap64 (x8_1 + 1))) = some r := by rw [if_neg (show ¬ (false = true) by decide)] at H; exact H
   clear H
   have H := H1
   clear H1
   have H' := mk_ H
   clear H
   have p176 : 0 ≤ (x8_1 : Int) := of_decide_eq_true z0
   have q176 : x8_1 < (l0.length : Int) := of_decide_eq_true z0
   obtain ⟨ad176, e176, hx176_0, hx176_1, hx176_2⟩ := at_T84 HR0.out x8_1 p176 q176
   cases e176
   replace hx176_0 := up_ HB hx176_0
   replace hx176_1 := up_ HB hx176_1
   replace hx176_2 := up_ HB hx176_2
   replace p176 := eq_true p176
   replace q176 := eq_true q176
   go_wp2_with (first | ((first | ((with_reducible refine gate_callee (f := 86) rfl ?_); refine Short.gL (some 16) Try.func86 #[.agg #[.int .i64 ((rd_T84 l0 x8_1).f0), .int .i64 ((rd_T84 l0 x8_1).f1), .string ((rd_T84 l0 x8_1).f2)]] (h := ?_)) | ((with_reducible refine Go.Proofs.Ytjnjfogfpmeacaa.Steps.gate_any rfl ?_); refine Go.Proofs.Ytjnjfogfpmeacaa.Steps.goesV_ (some 16) rfl rfl Try.func86 z1 rfl #[.agg #[.int .i64 ((rd_T84 l0 x8_1).f0), .int .i64 ((rd_T84 l0 x8_1).f1), .string ((rd_T84 l0 x8_1).f2)]] rfl (by first | rfl | go_simp) z2 ?_)); (with_reducible refine (row_wrong.calls ((rd_T84 l0 x8_1).f0) ((rd_T84 l0 x8_1).f1) ((rd_T84 l0 x8_1).f2) false _ A6.out).mono ?_); rintro e w9 ⟨rfl, hb⟩; refine ⟨_, rfl, ?_⟩; have n0_ := mk_ (below_step (Short.hB HB) hb); clear HB; revert n0_; intro HB; (try clear hb)))
   go_roundg k1
   case measure => have := HK1.out; omega
   case rel => exact ⟨(wrap64 (x8_1 + 1)), z3, H', ⟨by have := HK1.out; omega⟩, ⟨Short.hB HB⟩⟩
def slices_ContainsFunc_at_row_wrong.f (k : Nat) (l0 : List (S84)) (a1 : Unit) : Option (Bool) := (slices_IndexFunc_at_row_wrong.f k l0 a1).bind fun t178 => (some (decide (t178 ≥ 0)))
theorem slices_ContainsFunc_at_row_wrong.calls (k : Nat) (A0 : Option Addr) (c0 : Nat) (l0 : List (S84)) (a1 : Unit) (r : Bool) (w : World) (hr0 : Kd.C k84 w A0 l0.length l0) (hc0 : l0.length ≤ c0) (h : slices_ContainsFunc_at_row_wrong.f k l0 a1 = some r) :
  Calls Try.prog 85 #[.slice A0 l0.length c0, .func (.func 86) #[] #[]] w fun e w' => e = .returned (.bool r) ∧ Below w.heap.size w w' := by
 have HR0 := mk_ hr0
 have HC0 := mk_ hc0
 clear hr0 hc0
 have HB := mk_ (Below.refl w.heap.size w)
 have H : ((slices_IndexFunc_at_row_wrong.f k l0 a1).bind fun t178 => (some (decide (t178 ≥ 0)))) = some r := h
 clear h
 replace H := Option.bind_eq_some_iff.mp H
 obtain ⟨t178, A30, H⟩ := H
 replace H : (some (decide (t178 ≥ 0))) = some r := H
 have A3 := mk_ A30
 clear A30
 obtain rfl := Option.some.inj H
 go_enter Try.func85, Try.ntmps85
 go_wp2_with (first | ((first | ((with_reducible refine gate_callee (f := 106) rfl ?_); refine Short.gL (some 7) Try.func106 #[.slice A0 l0.length c0, .func (.func 86) #[] #[]] (h := ?_)) | ((with_reducible refine Go.Proofs.Ytjnjfogfpmeacaa.Steps.gate_any rfl ?_); refine Go.Proofs.Ytjnjfogfpmeacaa.Steps.goesV_ (some 7) rfl rfl Try.func106 z1 rfl #[.slice A0 l0.length c0, .func (.func 86) #[] #[]] rfl (by first | rfl | go_simp) z2 ?_)); (with_reducible refine (slices_IndexFunc_at_row_wrong.calls k _ _ l0 a1 t178 _ ?side1 ?side2 A3.out).mono ?_); (case side1 => repeat (first | exact HR0.out | (with_reducible refine C_alloc ?_ _) | (with_reducible refine C_drewN ?_ _) | (with_reducible refine C_drew ?_))); (case side2 => exact HC0.out); rintro e w4 ⟨rfl, hb⟩; refine ⟨_, rfl, ?_⟩; have n0_ := mk_ (below_step (Short.hB HB) hb); clear HB; revert n0_; intro HB; (try clear hb)))
 go_ret
 exact ⟨q0, Short.hB HB⟩
def row_Check.f (k : Nat) (l0 : List (S84)) : Option (Int) := if (l0.length : Int) > 12 then (some 2) else ((slices_ContainsFunc_at_row_wrong.f k l0 ()).bind fun t179 => (if t179 = true then (some 1) else (some 0)))
theorem row_Check.calls (k : Nat) (A0 : Option Addr) (c0 : Nat) (l0 : List (S84)) (r : Int) (w : World) (hr0 : Kd.C k84 w A0 l0.length l0) (hc0 : l0.length ≤ c0) (h : row_Check.f k l0 = some r) :
  Calls Try.prog 46 #[.slice A0 l0.length c0] w fun e w' => e = .returned (.int .i64 r) ∧ Below w.heap.size w w' := by
 have HR0 := mk_ hr0
 have HC0 := mk_ hc0
 clear hr0 hc0
 have HB := mk_ (Below.refl w.heap.size w)
 have H : (if (l0.length : Int) > 12 then (some 2) else ((slices_ContainsFunc_at_row_wrong.f k l0 ()).bind fun t179 => (if t179 = true then (some 1) else (some 0)))) = some r := h
 clear h
 by_cases c2 : (l0.length : Int) > 12
 ·
  rw [if_pos c2] at H
  have c2b0 : decide (12 < (l0.length : Int)) = true := decide_eq_true c2
  have c2b1 : decide (12 < l0.length) = true := decide_eq_true z4
  clear c2
  obtain rfl := Option.some.inj H
  go_enter Try.func46, Try.ntmps46
  go_wp2
  go_ret
  exact ⟨q0, Short.hB HB⟩
 rw [if_neg c2] at H
 have c2b0 : decide (12 < (l0.length : Int)) = false := decide_eq_false c2
 have c2b1 : decide (12 < l0.length) = false := decide_eq_false z4
 clear c2
 replace H := Option.bind_eq_some_iff.mp H
 obtain ⟨t179, A30, H⟩ := H
 replace H : (if t179 = true then (some 1) else (some 0)) = some r := H
 have A3 := mk_ A30
 clear A30
 by_cases c4 : t179 = true
 ·
  subst c4
  have H1 : (some 1) = some r := by rw [if_pos rfl] at H; exact H
  clear H
  have H := H1
  clear H1
  obtain rfl := Option.some.inj H
  go_enter Try.func46, Try.ntmps46
  go_wp2_with (first | ((with_reducible refine gate_callee (f := 85) rfl ?_); refine Short.gL (some 9) Try.func85 #[.slice A0 l0.length c0, .func (.func 86) #[] #[]] (h := ?_); (with_reducible refine (slices_ContainsFunc_at_row_wrong.calls k _ _ l0 () true _ ?side1 ?side2 A3.out).mono ?_); (case side1 => repeat (first | exact HR0.out | (with_reducible refine C_alloc ?_ _) | (with_reducible refine C_drewN ?_ _) | (with_reducible refine C_drew ?_))); (case side2 => exact HC0.out); rintro e w5 ⟨rfl, hb⟩; refine ⟨_, rfl, ?_⟩; have n0_ := mk_ (below_step (Short.hB HB) hb); clear HB; revert n0_; intro HB; (try clear hb)))
  go_ret
  exact ⟨q0, Short.hB HB⟩
 replace c4 := Bool.eq_false_iff.mpr c4
 subst c4
 have H1 : (some 0) = some r := by rw [if_neg (show ¬ (false = true) by decide)] at H; exact H
 clear H
 have H := H1
 clear H1
 obtain rfl := Option.some.inj H
 go_enter Try.func46, Try.ntmps46
 go_wp2_with (first | ((with_reducible refine gate_callee (f := 85) rfl ?_); refine Short.gL (some 9) Try.func85 #[.slice A0 l0.length c0, .func (.func 86) #[] #[]] (h := ?_); (with_reducible refine (slices_ContainsFunc_at_row_wrong.calls k _ _ l0 () false _ ?side1 ?side2 A3.out).mono ?_); (case side1 => repeat (first | exact HR0.out | (with_reducible refine C_alloc ?_ _) | (with_reducible refine C_drewN ?_ _) | (with_reducible refine C_drew ?_))); (case side2 => exact HC0.out); rintro e w6 ⟨rfl, hb⟩; refine ⟨_, rfl, ?_⟩; have n0_ := mk_ (below_step (Short.hB HB) hb); clear HB; revert n0_; intro HB; (try clear hb)))
 go_ret
 exact ⟨q0, Short.hB HB⟩
def slices_Clone_byte_byte.f (l0 : List Int) : Option (List Int) := (some (([] : List Int) : List Int)).bind fun y180 => (if y180.length + l0.length < 140737488355328 then (some (y180 ++ l0)) else (none))
theorem slices_Clone_byte_byte.calls (A0 : Option Addr) (c0 : Nat) (l0 : List Int) (r : List Int) (w : World) (hr0 : Kd.C (Kd.int .u8) w A0 l0.length l0) (hc0 : l0.length ≤ c0) (h : slices_Clone_byte_byte.f l0 = some r) :
  Calls Try.prog 109 #[.slice A0 l0.length c0] w fun e w' => ∃ v0_ : Value, e = .returned (v0_) ∧ Kd.R (Kd.int .u8) 5 w' w.heap.size (fun _ => True) v0_ r ∧ Below w.heap.size w w' := by
 have HR0 := mk_ hr0
 have HC0 := mk_ hc0
 clear hr0 hc0
 cases A0 with
 | none =>
  have hl_ : l0 = [] := by
   rcases l0 with _ | ⟨x_, xs_⟩
   ·
    rfl
   ·
    obtain ⟨ad_, e_, _⟩ := HR0.out.2.2 (by simp)
    exact absurd e_ (by simp)
  subst hl_
  have hr_ : r = [] := by simpa [slices_Clone_byte_byte.f] using h.symm
  subst hr_
  have hnil_ := fun W : World => Lib.run_eql_slice_nil (P := Try.prog) W 22 5 none 0 c0 0 0 Try.underlying22
  go_enter Try.func109, Try.ntmps109
  go_wp2
  go_ret
  exact ⟨_, rfl, R_nil _ _ _ _ _, Below.refl _ _⟩
 | some a0_ =>
 have hnil_ := fun W : World => Lib.run_eql_slice_nil (P := Try.prog) W 22 5 (some a0_) l0.length c0 0 0 Try.underlying22
 have HB := mk_ (Below.refl w.heap.size w)
 have H : ((some (([] : List Int) : List Int)).bind fun y180 => (if y180.length + l0.length < 140737488355328 then (some (y180 ++ l0)) else (none))) = some r := h
 clear h
 obtain ⟨y180, hy180⟩ : ∃ y_ : List Int, y_ = (([] : List Int)) := ⟨_, rfl⟩
 replace H : (if y180.length + l0.length < 140737488355328 then (some (y180 ++ l0)) else (none)) = some r := by first | (rw [hy180]; with_reducible exact H) | (have H2_ := (Option.bind_some _ _).symm.trans H; rw [hy180]; with_reducible exact H2_) | (have H2_ := (Option.bind_some _ _).symm.trans H; with_reducible exact H2_) | with_reducible exact H | (rw [hy180]; exact H) | exact H
 have Ny180 := mk_ hy180
 clear hy180
 by_cases c2 : y180.length + l0.length < 140737488355328
 rotate_left
 ·
  rw [if_neg c2] at H
  exact absurd H (by simp)
 rw [if_pos c2] at H
 have LMc2 := mk_ c2
 clear c2
 obtain ⟨y183, hy183⟩ : ∃ y_ : List Int, y_ = (y180 ++ l0) := ⟨_, rfl⟩
 replace H : (some y183) = some r := by first | (rw [hy183]; with_reducible exact H) | (have H2_ := (Option.bind_some _ _).symm.trans H; rw [hy183]; with_reducible exact H2_) | (have H2_ := (Option.bind_some _ _).symm.trans H; with_reducible exact H2_) | with_reducible exact H | (rw [hy183]; exact H) | exact H
 have Ny183 := mk_ hy183
 clear hy183
 obtain rfl := Option.some.inj H
 go_enter Try.func109, Try.ntmps109
 go_wp2_with (first | ((with_reducible refine gate_dst (N := 5) rfl ?_); refine R_lit (Kd.int .u8) _ 5 ?hg (N := 5) ?hd (xs := ([] : List Int)) (inner := []) (ok := fun _ => True) (okp := fun _ => True) ?hr ?hp (fun _ hk => hk) trivial (Below.refl _ _) (Nat.le_refl _) (by simp) ?_; (case hd => rfl); (case hg => rfl); (case hr => first | (go_simp; done) | (go_simp; rfl)); (case hp => exact (Reps.none _ _)); intro v181 w3 ho4 hb hg_ hnew_; clear hg_ hnew_; (first | rw [← Ny180.out] at ho4 | (simp only [Int.reduceToNat] at ho4; rw [← Ny180.out] at ho4)); have n0_ := mk_ (R_lower ho4 (below_size (Short.hB HB))); have n1_ := mk_ (below_step (Short.hB HB) hb); clear HB; revert n0_ n1_; intro HO182 HB; clear hb ho4) | ((with_reducible refine gate_builtin (b := .append) (xs := #[.tmp 5, .tmp 6]) rfl ?_); at_builtin; refine R_append_rows (Kd.int .u8) (w0 := w) w.heap.size rfl (.tmp 5) (.tmp 6) 22 5 (.int .u8 0) 1 rfl Try.underlying22 info5 rfl z5 z4 v181 y180 l0 _ _ _ (fun _ => True) (fun _ => False) rfl rfl ?aO ?aR (fun _ _ h => h) (fun _ h => h.elim) ?aF ?aB ?aS ?aL ?_; (case aR => exact cX_ (C_below HR0.out HB.out)); (case aB => exact (Short.hB HB)); (case aF => exact (fun _ _ => trivial)); (case aO => exact (ZKR HO182)); (case aS => exact (below_size (Short.hB HB))); (case aL => have := LMc2.out; omega); intro v184 w5 ho hb hg hat; rw [← Ny183.out] at ho; have n0_ := mk_ (hb); have n1_ := mk_ (ho); clear HB HO182; revert n0_ n1_; intro HB HO185; clear ho hb hg hat))
 go_ret
 exact ⟨_, by first | rfl | (simp [errW_none, errW_some] <;> rfl) | (simp [*, errW_none, errW_some] <;> rfl), by (with_reducible repeat (first | apply R_alloc | apply R_drewN | apply R_drew)); exact HO185.out, Short.hB HB⟩
end Go.Proofs.Ytjnjfogfpmeacaa.PAll
end
section
namespace Go.Proofs.Ytjnjfogfpmeacaa.PAll
open Go.RowKit PrintWords PrintLast PrintMore ZipT PrintWords.Kd PrintMore.Kd
attribute [local go_sem] max2_int min2_int max_two min_two max_three min_three max_four min_four   -- for this text's walks alone
set_option linter.unusedVariables false
set_option linter.unusedSimpArgs false
def wire_big.l0 : Nat → Int → List Int → Int → Option (List Int)
 | 0, _, _, _ => none
 | k + 1, x1, x7, x8 => if x8 ≥ 0 then (if 0 ≤ (wrap64 (8 * x8)) then (if x7.length < 140737488355328 then (wire_big.l0 k x1 (x7 ++ [(shr .i64 x1 (wrap64 (8 * x8))) % 256]) (wrap64 (x8 - 1))) else (none)) else (none)) else (some x7)
def wire_big.f (k : Nat) (l0 : List Int) (a1 : Int) (a2 : Int) : Option (List Int) := (slices_Clone_byte_byte.f l0).bind fun t186 => (wire_big.l0 k a1 t186 (wrap64 (a2 - 1)))
theorem wire_big.calls (k : Nat) (A0 : Option Addr) (c0 : Nat) (l0 : List Int) (a1 : Int) (a2 : Int) (r : List Int) (w : World) (hr0 : Kd.C (Kd.int .u8) w A0 l0.length l0) (hc0 : l0.length ≤ c0) (h : wire_big.f k l0 a1 a2 = some r) :
  Calls Try.prog 108 #[.slice A0 l0.length c0, .int .i64 a1, .int .i64 a2] w fun e w' => ∃ v0_ : Value, e = .returned (v0_) ∧ Kd.R (Kd.int .u8) 5 w' w.heap.size (fun _ => True) v0_ r ∧ Below w.heap.size w w' := by
 have HR0 := mk_ hr0
 have HC0 := mk_ hc0
 clear hr0 hc0
 have HB := mk_ (Below.refl w.heap.size w)
 have H : ((slices_Clone_byte_byte.f l0).bind fun t186 => (wire_big.l0 k a1 t186 (wrap64 (a2 - 1)))) = some r := h
 clear h
 replace H := Option.bind_eq_some_iff.mp H
 obtain ⟨t186, A40, H⟩ := H
 replace H : (wire_big.l0 k a1 t186 (wrap64 (a2 - 1))) = some r := H
 have A4 := mk_ A40
 clear A40
 have H' := mk_ H
 clear H
 go_enter Try.func108, Try.ntmps108
 go_wp2_with (first | ((with_reducible refine gate_callee (f := 109) rfl ?_); refine Short.gL (some 10) Try.func109 #[.slice A0 l0.length c0] (h := ?_); (with_reducible refine (slices_Clone_byte_byte.calls _ _ l0 t186 _ ?side1 ?side2 A4.out).mono ?_); (case side1 => repeat (first | exact HR0.out | (with_reducible refine C_alloc ?_ _) | (with_reducible refine C_drewN ?_ _) | (with_reducible refine C_drew ?_))); (case side2 => exact HC0.out); rintro e w5 ⟨v187, rfl, ho0, hb⟩; refine ⟨_, rfl, ?_⟩; have n0_ := mk_ (R_lower ho0 (below_size (Short.hB HB))); have n1_ := mk_ (below_step (Short.hB HB) hb); clear HB; revert n0_ n1_; intro HO188 HB; (try clear hb ho0)))
 go_loopg [7, 8] k (fun kq v7 v8 w' => ∃ (x7_1 : List Int) (x8_1 : Int), v8 = .int .i64 x8_1 ∧ Aside0 (wire_big.l0 kq a1 x7_1 x8_1 = some r) ∧ Aside0 (kq ≤ k) ∧ Aside0 (Kd.R (Kd.int .u8) 5 w' w.heap.size (fun _ => True) v7 x7_1) ∧ Aside0 (Below w.heap.size w w'))
 case atStart => exact ⟨(t186), (wrap64 (a2 - 1)), z3, H', ⟨Nat.le_refl _⟩, ⟨by (with_reducible repeat (first | apply R_alloc | apply R_drewN | apply R_drew)); exact HO188.out⟩, ⟨Short.hB HB⟩⟩
 case round =>
  clear H'
  try clear c1
  try clear p2
  obtain ⟨x7_1, x8_1, rfl, HA, HK1, HO_7, HB⟩ := hrel
  cases gk with
  | zero => exact absurd HA.out (by simp [wire_big.l0])
  | succ k1 =>
   have H := HA.out
   clear HA
   simp only [wire_big.l0] at H
   by_cases c6 : x8_1 ≥ 0
   rotate_left
   ·
    rw [if_neg c6] at H
    have c6b0 : decide (0 ≤ x8_1) = false := decide_eq_false c6
    clear c6
    obtain rfl := Option.some.inj H
    go_wp2
    go_ret
    exact ⟨_, by first | rfl | (simp [errW_none, errW_some] <;> rfl) | (simp [*, errW_none, errW_some] <;> rfl), by (with_reducible repeat (first | apply R_alloc | apply R_drewN | apply R_drew)); exact HO_7.out, Short.hB HB⟩
   rw [if_pos c6] at H
   have c6b0 : decide (0 ≤ x8_1) = true := decide_eq_true c6
   clear c6
   obtain ⟨ji7, hji7⟩ : ∃ j_ : Int, (wrap64 (8 * x8_1)) = j_ := ⟨_, rfl⟩
   replace H : (if 0 ≤ (ji7) then (if x7_1.length < 140737488355328 then (wire_big.l0 k1 a1 (x7_1 ++ [(shr .i64 a1 (ji7)) % 256]) (wrap64 (x8_1 - 1))) else (none)) else (none)) = some r := by first | (rw [hji7] at H; exact H) | (simp only [hji7] at H ⊢; exact H)
   have hji7w : (IntKind.i64.wrap (8 * x8_1)) = ji7 := (i64_w _).trans hji7
   by_cases c8 : 0 ≤ (ji7)
   rotate_left
   ·
    rw [if_neg c8] at H
    exact absurd H (by simp)
   rw [if_pos c8] at H
   have c8b0 := eq_true c8
   have c8b1 : decide (0 ≤ (ji7)) = true := decide_eq_true c8
   clear c8
   obtain ⟨ji9, hji9⟩ : ∃ j_ : Int, (shr .i64 a1 (ji7)) = j_ := ⟨_, rfl⟩
   replace H : (if x7_1.length < 140737488355328 then (wire_big.l0 k1 a1 (x7_1 ++ [(ji9) % 256]) (wrap64 (x8_1 - 1))) else (none)) = some r := by first | (rw [hji9] at H; exact H) | (simp only [hji9] at H ⊢; exact H)
   have hji9_ : (a1 / 2 ^ min (ji7).toNat 64) = ji9 := hji9
   have hji9z : (ji7) ≤ 64 → (a1 / 2 ^ (ji7).toNat) = ji9 := shr_small hji9
   by_cases c10 : x7_1.length < 140737488355328
   rotate_left
   ·
    rw [if_neg c10] at H
    exact absurd H (by simp)
   rw [if_pos c10] at H
   have LMc10 := mk_ c10
   clear c10
   obtain ⟨y189, hy189⟩ : ∃ y_ : List Int, y_ = (x7_1 ++ [(ji9) % 256]) := ⟨_, rfl⟩
   replace H : (wire_big.l0 k1 a1 y189 (wrap64 (x8_1 - 1))) = some r := by first | (rw [hy189]; with_reducible exact H) | (have H2_ := (Option.bind_some _ _).symm.trans H; rw [hy189]; with_reducible exact H2_) | (have H2_ := (Option.bind_some _ _).symm.trans H; with_reducible exact H2_) | with_reducible exact H | (rw [hy189]; exact H) | exact H
   have Ny189 := mk_ hy189
   clear hy189
   have H' := mk_ H
   clear H
   go_wp2_with (first | ((with_reducible refine gate_builtin (b := .append) (xs := #[.tmp 17, .tmp 23]) rfl ?_); at_builtin; refine R_append (Kd.int .u8) (w0 := w) w.heap.size rfl (.tmp 17) (.tmp 23) 22 5 (.int .u8 0) 1 rfl Try.underlying22 info5 rfl z5 z4 u7 x7_1 ((ji9) % 256) [.int .u8 ((ji9) % 256)] (fun _ => True) (fun _ => False) rfl rfl ?aP (fun _ hk => hk.elim) ?aF ?aO ?aB ?aS ?aL ?_; (case aP => exact rfl); (case aB => exact (Short.hB HB)); (case aF => exact (fun _ _ => trivial)); (case aO => exact (ZKR HO_7)); (case aS => exact (below_size (Short.hB HB))); (case aL => have := LMc10.out; omega); intro v190 w11 ho hb hg hat; rw [← Ny189.out] at ho; have n0_ := mk_ (hb); have n1_ := mk_ (ho); clear HB HO_7; revert n0_ n1_; intro HB HO191; clear ho hb hg hat))
   go_roundg k1
   case measure => have := HK1.out; omega
   case rel => exact ⟨(y189), (wrap64 (x8_1 - 1)), z3, H', ⟨by have := HK1.out; omega⟩, ⟨by (with_reducible repeat (first | apply R_alloc | apply R_drewN | apply R_drew)); exact HO191.out⟩, ⟨Short.hB HB⟩⟩
def wire_PutInt.j0 : Nat → List Int → Int → Bool → Option (List Int × Int)
 | 0, _, _, _ => none
 | k + 1, x0, x1, x12 => if x12 = true then (some (([] : List Int), 1)) else (if x1 < 0 then ((slices_Clone_byte_byte.f x0).bind fun t192 => (if t192.length < 140737488355328 then ((wire_big.f k (t192 ++ [1]) (wrap64 (-x1)) 8).bind fun t198 => (some (t198, 0))) else (none))) else ((slices_Clone_byte_byte.f x0).bind fun t201 => (if t201.length < 140737488355328 then ((wire_big.f k (t201 ++ [0]) x1 8).bind fun t207 => (some (t207, 0))) else (none))))
def wire_PutInt.f (k : Nat) (l0 : List Int) (a1 : Int) : Option (List Int × Int) := if a1 < (-1152921504606846976) then (wire_PutInt.j0 k l0 a1 true) else (wire_PutInt.j0 k l0 a1 (decide (a1 > 1152921504606846976)))
theorem wire_PutInt.calls (k : Nat) (A0 : Option Addr) (c0 : Nat) (l0 : List Int) (a1 : Int) (r1 : List Int) (r2 : Int) (w : World) (hr0 : Kd.C (Kd.int .u8) w A0 l0.length l0) (hc0 : l0.length ≤ c0) (h : wire_PutInt.f k l0 a1 = some (r1, r2)) :
  Calls Try.prog 88 #[.slice A0 l0.length c0, .int .i64 a1] w fun e w' => ∃ v0_ : Value, e = .returned (.tuple #[v0_, .int .i64 r2]) ∧ Kd.R (Kd.int .u8) 5 w' w.heap.size (fun _ => True) v0_ r1 ∧ Below w.heap.size w w' := by
 have HR0 := mk_ hr0
 have HC0 := mk_ hc0
 clear hr0 hc0
 have HB := mk_ (Below.refl w.heap.size w)
 have H : (if a1 < (-1152921504606846976) then (wire_PutInt.j0 k l0 a1 true) else (wire_PutInt.j0 k l0 a1 (decide (a1 > 1152921504606846976)))) = some (r1, r2) := h
 clear h
 have HC3 := mk_ H
 clear H
 go_enter Try.func88, Try.ntmps88
 go_upto_region 1 with (fail)
 go_cut [12] (fun v12 wc => ∃ (kq : Nat) (x12_2 : Bool), v12 = .bool x12_2 ∧ Aside0 (wire_PutInt.j0 kq l0 a1 x12_2 = some (r1, r2)) ∧ Aside0 (kq ≤ k) ∧ Aside0 (Below w.heap.size w wc))
 case first =>
  have H := HC3.out
  clear HC3
  by_cases c4 : a1 < (-1152921504606846976)
  ·
   rw [if_pos c4] at H
   have c4b0 : decide (a1 < (-1152921504606846976)) = true := decide_eq_true c4
   clear c4
   (first | rw [c4b0] | (simp only [i64_w, i32_w]; rw [c4b0]) | skip)
   have H' := mk_ H
   clear H
   go_wp2
   go_meet
   case rel => exact ⟨_, (true), z3, H', ⟨by first | omega | exact Nat.le_refl _⟩, ⟨Short.hB HB⟩⟩
  rw [if_neg c4] at H
  have c4b0 : decide (a1 < (-1152921504606846976)) = false := decide_eq_false c4
  clear c4
  (first | rw [c4b0] | (simp only [i64_w, i32_w]; rw [c4b0]) | skip)
  have H' := mk_ H
  clear H
  go_wp2
  go_meet
  case rel => exact ⟨_, (decide (a1 > 1152921504606846976)), z3, H', ⟨by first | omega | exact Nat.le_refl _⟩, ⟨Short.hB HB⟩⟩
 case rest => as_aux_lemma =>
  clear HC3
  try clear p2
  try clear c4
  try clear c4b0
  obtain ⟨kq, x12_2, rfl, HA, HJ2, HB⟩ := hcut
  cases kq with
  | zero => exact absurd HA.out (by simp [wire_PutInt.j0])
  | succ kj2 =>
   have H := HA.out
   clear HA
   simp only [wire_PutInt.j0] at H
   by_cases c5 : x12_2 = true
   ·
    subst c5
    have H1 : (some (([] : List Int), 1)) = some (r1, r2) := by rw [if_pos rfl] at H; exact H
    clear H
    have H := H1
    clear H1
    simp only [Option.some.injEq, Prod.mk.injEq] at H
    obtain ⟨rfl, rfl⟩ := H
    go_wp2
    go_ret2
    exact ⟨_, by first | rfl | (simp [errW_none, errW_some] <;> rfl) | (simp [*, errW_none, errW_some] <;> rfl), by first | exact R_nil _ _ _ _ _ | exact N_nil _ _ _ _ _ | exact V_nil _ _ _ _ _ | exact Q_nil _ _ _ _ _ | exact S_nil _ _ _ _ _, Short.hB HB⟩
   ·
    replace c5 := Bool.eq_false_iff.mpr c5
    subst c5
    have H1 : (if a1 < 0 then ((slices_Clone_byte_byte.f l0).bind fun t192 => (if t192.length < 140737488355328 then ((wire_big.f kj2 (t192 ++ [1]) (wrap64 (-a1)) 8).bind fun t198 => (some (t198, 0))) else (none))) else ((slices_Clone_byte_byte.f l0).bind fun t201 => (if t201.length < 140737488355328 then ((wire_big.f kj2 (t201 ++ [0]) a1 8).bind fun t207 => (some (t207, 0))) else (none)))) = some (r1, r2) := by rw [if_neg (show ¬ (false = true) by decide)] at H; exact H
    clear H
    have H := H1
    clear H1
    by_cases c6 : a1 < 0
    ·
     rw [if_pos c6] at H
     have c6b0 : decide (a1 < 0) = true := decide_eq_true c6
     clear c6
     replace H := Option.bind_eq_some_iff.mp H
     obtain ⟨t192, A70, H⟩ := H
     replace H : (if t192.length < 140737488355328 then ((wire_big.f kj2 (t192 ++ [1]) (wrap64 (-a1)) 8).bind fun t198 => (some (t198, 0))) else (none)) = some (r1, r2) := H
     have A7 := mk_ A70
     clear A70
     by_cases c8 : t192.length < 140737488355328
     ·
      rw [if_pos c8] at H
      have LMc8 := mk_ c8
      clear c8
      obtain ⟨y195, hy195⟩ : ∃ y_ : List Int, y_ = (t192 ++ [1]) := ⟨_, rfl⟩
      replace H : ((wire_big.f kj2 y195 (wrap64 (-a1)) 8).bind fun t198 => (some (t198, 0))) = some (r1, r2) := by first | (rw [hy195]; with_reducible exact H) | (have H2_ := (Option.bind_some _ _).symm.trans H; rw [hy195]; with_reducible exact H2_) | (have H2_ := (Option.bind_some _ _).symm.trans H; with_reducible exact H2_) | with_reducible exact H | (rw [hy195]; exact H) | exact H
      have Ny195 := mk_ hy195
      clear hy195
      replace H := Option.bind_eq_some_iff.mp H
      obtain ⟨t198, A90, H⟩ := H
      replace H : (some (t198, 0)) = some (r1, r2) := H
      have A9 := mk_ A90
      clear A90
      simp only [Option.some.injEq, Prod.mk.injEq] at H
      obtain ⟨rfl, rfl⟩ := H
      go_wp2_with (first | ((with_reducible refine gate_callee (f := 109) rfl ?_); refine Short.gL (some 18) Try.func109 #[.slice A0 l0.length c0] (h := ?_); (with_reducible refine (slices_Clone_byte_byte.calls _ _ l0 t192 _ ?side1 ?side2 A7.out).mono ?_); (case side1 => exact cX_ (C_below HR0.out HB.out)); (case side2 => exact HC0.out); rintro e w10 ⟨v193, rfl, ho0, hb⟩; refine ⟨_, rfl, ?_⟩; have n0_ := mk_ (R_lower ho0 (below_size (Short.hB HB))); have n1_ := mk_ (below_step (Short.hB HB) hb); clear HB; revert n0_ n1_; intro HO194 HB; (try clear hb ho0)) | ((with_reducible refine gate_builtin (b := .append) (xs := #[.tmp 18, .tmp 20]) rfl ?_); at_builtin; refine R_append (Kd.int .u8) (w0 := w) w.heap.size rfl (.tmp 18) (.tmp 20) 22 5 (.int .u8 0) 1 rfl Try.underlying22 info5 rfl z5 z4 v193 t192 1 [.int .u8 1] (fun _ => True) (fun _ => False) rfl rfl ?aP (fun _ hk => hk.elim) ?aF ?aO ?aB ?aS ?aL ?_; (case aP => exact rfl); (case aB => exact (Short.hB HB)); (case aF => exact (fun _ _ => trivial)); (case aO => exact (ZKR HO194)); (case aS => exact (below_size (Short.hB HB))); (case aL => have := LMc8.out; omega); intro v196 w11 ho hb hg hat; rw [← Ny195.out] at ho; have n0_ := mk_ (hb); have n1_ := mk_ (ho); clear HB HO194; revert n0_ n1_; intro HB HO197; clear ho hb hg hat; obtain ⟨Ao12, co12, eo12⟩ := R_slice HO197.out; subst eo12) | ((with_reducible refine gate_callee (f := 108) rfl ?_); refine Short.gL (some 23) Try.func108 #[.slice Ao12 y195.length co12, .int .i64 (wrap64 (-a1)), .int .i64 8] (h := ?_); (with_reducible refine (wire_big.calls kj2 _ _ y195 (wrap64 (-a1)) 8 t198 _ ?side1 ?side2 A9.out).mono ?_); (case side1 => exact cX_ (R_reads' HO197.out).2.2); (case side2 => exact (R_reads' HO197.out).2.1); rintro e w13 ⟨v199, rfl, ho0, hb⟩; refine ⟨_, rfl, ?_⟩; have n0_ := mk_ (R_elder' (ZKR HO197) (R_base ho0) hb); have n1_ := mk_ (R_lower (R_new' ho0 (R_lt (ZKR HO197))) (below_size (Short.hB HB))); have n2_ := mk_ (below_step (Short.hB HB) hb); clear HO197 HB; revert n0_ n1_ n2_; intro HO197 HO200 HB; (try clear hb ho0)))
      go_ret2
      exact ⟨_, by first | rfl | (simp [errW_none, errW_some] <;> rfl) | (simp [*, errW_none, errW_some] <;> rfl), by (with_reducible repeat (first | apply R_alloc | apply R_drewN | apply R_drew)); exact R_mono HO200.out (fun _ hk => trivial), Short.hB HB⟩
     ·
      rw [if_neg c8] at H
      exact absurd H (by simp)
    ·
     rw [if_neg c6] at H
     have c6b0 : decide (a1 < 0) = false := decide_eq_false c6
     clear c6
     replace H := Option.bind_eq_some_iff.mp H
     obtain ⟨t201, A140, H⟩ := H
     replace H : (if t201.length < 140737488355328 then ((wire_big.f kj2 (t201 ++ [0]) a1 8).bind fun t207 => (some (t207, 0))) else (none)) = some (r1, r2) := H
     have A14 := mk_ A140
     clear A140
     by_cases c15 : t201.length < 140737488355328
     ·
      rw [if_pos c15] at H
      have LMc15 := mk_ c15
      clear c15
      obtain ⟨y204, hy204⟩ : ∃ y_ : List Int, y_ = (t201 ++ [0]) := ⟨_, rfl⟩
      replace H : ((wire_big.f kj2 y204 a1 8).bind fun t207 => (some (t207, 0))) = some (r1, r2) := by first | (rw [hy204]; with_reducible exact H) | (have H2_ := (Option.bind_some _ _).symm.trans H; rw [hy204]; with_reducible exact H2_) | (have H2_ := (Option.bind_some _ _).symm.trans H; with_reducible exact H2_) | with_reducible exact H | (rw [hy204]; exact H) | exact H
      have Ny204 := mk_ hy204
      clear hy204
      replace H := Option.bind_eq_some_iff.mp H
      obtain ⟨t207, A160, H⟩ := H
      replace H : (some (t207, 0)) = some (r1, r2) := H
      have A16 := mk_ A160
      clear A160
      simp only [Option.some.injEq, Prod.mk.injEq] at H
      obtain ⟨rfl, rfl⟩ := H
      go_wp2_with (first | ((with_reducible refine gate_callee (f := 109) rfl ?_); refine Short.gL (some 18) Try.func109 #[.slice A0 l0.length c0] (h := ?_); (with_reducible refine (slices_Clone_byte_byte.calls _ _ l0 t201 _ ?side1 ?side2 A14.out).mono ?_); (case side1 => exact cX_ (C_below HR0.out HB.out)); (case side2 => exact HC0.out); rintro e w17 ⟨v202, rfl, ho0, hb⟩; refine ⟨_, rfl, ?_⟩; have n0_ := mk_ (R_lower ho0 (below_size (Short.hB HB))); have n1_ := mk_ (below_step (Short.hB HB) hb); clear HB; revert n0_ n1_; intro HO203 HB; (try clear hb ho0)) | ((with_reducible refine gate_builtin (b := .append) (xs := #[.tmp 18, .tmp 20]) rfl ?_); at_builtin; refine R_append (Kd.int .u8) (w0 := w) w.heap.size rfl (.tmp 18) (.tmp 20) 22 5 (.int .u8 0) 1 rfl Try.underlying22 info5 rfl z5 z4 v202 t201 0 [.int .u8 0] (fun _ => True) (fun _ => False) rfl rfl ?aP (fun _ hk => hk.elim) ?aF ?aO ?aB ?aS ?aL ?_; (case aP => exact rfl); (case aB => exact (Short.hB HB)); (case aF => exact (fun _ _ => trivial)); (case aO => exact (ZKR HO203)); (case aS => exact (below_size (Short.hB HB))); (case aL => have := LMc15.out; omega); intro v205 w18 ho hb hg hat; rw [← Ny204.out] at ho; have n0_ := mk_ (hb); have n1_ := mk_ (ho); clear HB HO203; revert n0_ n1_; intro HB HO206; clear ho hb hg hat; obtain ⟨Ao19, co19, eo19⟩ := R_slice HO206.out; subst eo19) | ((with_reducible refine gate_callee (f := 108) rfl ?_); refine Short.gL (some 23) Try.func108 #[.slice Ao19 y204.length co19, .int .i64 a1, .int .i64 8] (h := ?_); (with_reducible refine (wire_big.calls kj2 _ _ y204 a1 8 t207 _ ?side1 ?side2 A16.out).mono ?_); (case side1 => exact cX_ (R_reads' HO206.out).2.2); (case side2 => exact (R_reads' HO206.out).2.1); rintro e w20 ⟨v208, rfl, ho0, hb⟩; refine ⟨_, rfl, ?_⟩; have n0_ := mk_ (R_elder' (ZKR HO206) (R_base ho0) hb); have n1_ := mk_ (R_lower (R_new' ho0 (R_lt (ZKR HO206))) (below_size (Short.hB HB))); have n2_ := mk_ (below_step (Short.hB HB) hb); clear HO206 HB; revert n0_ n1_ n2_; intro HO206 HO209 HB; (try clear hb ho0)))
      go_ret2
      exact ⟨_, by first | rfl | (simp [errW_none, errW_some] <;> rfl) | (simp [*, errW_none, errW_some] <;> rfl), by (with_reducible repeat (first | apply R_alloc | apply R_drewN | apply R_drew)); exact R_mono HO209.out (fun _ hk => trivial), Short.hB HB⟩
     ·
      rw [if_neg c15] at H
      exact absurd H (by simp)
def wire_PutText.f (l0 : List Int) (a1 : ByteArray) : Option (List Int × Int) := if (a1.size : Int) > 24 then (some (([] : List Int), 2)) else ((slices_Clone_byte_byte.f l0).bind fun t210 => (if t210.length < 140737488355328 then ((some (t210 ++ [((a1.size : Int)) % 256] : List Int)).bind fun y213 => (if y213.length + a1.size < 140737488355328 then (some ((y213 ++ bytesOf a1), 0)) else (none))) else (none)))
theorem wire_PutText.calls (A0 : Option Addr) (c0 : Nat) (l0 : List Int) (a1 : ByteArray) (r1 : List Int) (r2 : Int) (w : World) (hr0 : Kd.C (Kd.int .u8) w A0 l0.length l0) (hc0 : l0.length ≤ c0) (h : wire_PutText.f l0 a1 = some (r1, r2)) :
  Calls Try.prog 89 #[.slice A0 l0.length c0, .string a1] w fun e w' => ∃ v0_ : Value, e = .returned (.tuple #[v0_, .int .i64 r2]) ∧ Kd.R (Kd.int .u8) 5 w' w.heap.size (fun _ => True) v0_ r1 ∧ Below w.heap.size w w' := by
 have HR0 := mk_ hr0
 have HC0 := mk_ hc0
 clear hr0 hc0
 have HB := mk_ (Below.refl w.heap.size w)
 have H : (if (a1.size : Int) > 24 then (some (([] : List Int), 2)) else ((slices_Clone_byte_byte.f l0).bind fun t210 => (if t210.length < 140737488355328 then ((some (t210 ++ [((a1.size : Int)) % 256] : List Int)).bind fun y213 => (if y213.length + a1.size < 140737488355328 then (some ((y213 ++ bytesOf a1), 0)) else (none))) else (none)))) = some (r1, r2) := h
 clear h
 by_cases c3 : (a1.size : Int) > 24
 ·
  rw [if_pos c3] at H
  have c3b0 : decide (24 < (a1.size : Int)) = true := decide_eq_true c3
  have c3b1 : decide (24 < a1.size) = true := decide_eq_true z4
  clear c3
  simp only [Option.some.injEq, Prod.mk.injEq] at H
  obtain ⟨rfl, rfl⟩ := H
  go_enter Try.func89, Try.ntmps89
  go_wp2
  go_ret2
  exact ⟨_, by first | rfl | (simp [errW_none, errW_some] <;> rfl) | (simp [*, errW_none, errW_some] <;> rfl), by first | exact R_nil _ _ _ _ _ | exact N_nil _ _ _ _ _ | exact V_nil _ _ _ _ _ | exact Q_nil _ _ _ _ _ | exact S_nil _ _ _ _ _, Short.hB HB⟩
 rw [if_neg c3] at H
 have c3b0 : decide (24 < (a1.size : Int)) = false := decide_eq_false c3
 have c3b1 : decide (24 < a1.size) = false := decide_eq_false z4
 clear c3
 replace H := Option.bind_eq_some_iff.mp H
 obtain ⟨t210, A40, H⟩ := H
 replace H : (if t210.length < 140737488355328 then ((some (t210 ++ [((a1.size : Int)) % 256] : List Int)).bind fun y213 => (if y213.length + a1.size < 140737488355328 then (some ((y213 ++ bytesOf a1), 0)) else (none))) else (none)) = some (r1, r2) := H
 have A4 := mk_ A40
 clear A40
 by_cases c5 : t210.length < 140737488355328
 rotate_left
 ·
  rw [if_neg c5] at H
  exact absurd H (by simp)
 rw [if_pos c5] at H
 have LMc5 := mk_ c5
 clear c5
 obtain ⟨y213, hy213⟩ : ∃ y_ : List Int, y_ = (t210 ++ [((a1.size : Int)) % 256]) := ⟨_, rfl⟩
 replace H : (if y213.length + a1.size < 140737488355328 then (some ((y213 ++ bytesOf a1), 0)) else (none)) = some (r1, r2) := by first | (rw [hy213]; with_reducible exact H) | (have H2_ := (Option.bind_some _ _).symm.trans H; rw [hy213]; with_reducible exact H2_) | (have H2_ := (Option.bind_some _ _).symm.trans H; with_reducible exact H2_) | with_reducible exact H | (rw [hy213]; exact H) | exact H
 have Ny213 := mk_ hy213
 clear hy213
 by_cases c6 : y213.length + a1.size < 140737488355328
 rotate_left
 ·
  rw [if_neg c6] at H
  exact absurd H (by simp)
 rw [if_pos c6] at H
 have LMc6 := mk_ c6
 clear c6
 obtain ⟨y216, hy216⟩ : ∃ y_ : List Int, y_ = (y213 ++ bytesOf a1) := ⟨_, rfl⟩
 replace H : (some (y216, 0)) = some (r1, r2) := by first | (rw [hy216]; with_reducible exact H) | (have H2_ := (Option.bind_some _ _).symm.trans H; rw [hy216]; with_reducible exact H2_) | (have H2_ := (Option.bind_some _ _).symm.trans H; with_reducible exact H2_) | with_reducible exact H | (rw [hy216]; exact H) | exact H
 have Ny216 := mk_ hy216
 clear hy216
 simp only [Option.some.injEq, Prod.mk.injEq] at H
 obtain ⟨rfl, rfl⟩ := H
 go_enter Try.func89, Try.ntmps89
 go_wp2_with (first | ((with_reducible refine gate_callee (f := 109) rfl ?_); refine Short.gL (some 10) Try.func109 #[.slice A0 l0.length c0] (h := ?_); (with_reducible refine (slices_Clone_byte_byte.calls _ _ l0 t210 _ ?side1 ?side2 A4.out).mono ?_); (case side1 => repeat (first | exact HR0.out | (with_reducible refine C_alloc ?_ _) | (with_reducible refine C_drewN ?_ _) | (with_reducible refine C_drew ?_))); (case side2 => exact HC0.out); rintro e w7 ⟨v211, rfl, ho0, hb⟩; refine ⟨_, rfl, ?_⟩; have n0_ := mk_ (R_lower ho0 (below_size (Short.hB HB))); have n1_ := mk_ (below_step (Short.hB HB) hb); clear HB; revert n0_ n1_; intro HO212 HB; (try clear hb ho0)) | ((with_reducible refine gate_builtin (b := .append) (xs := #[.tmp 10, .tmp 14]) rfl ?_); at_builtin; refine R_append (Kd.int .u8) (w0 := w) w.heap.size rfl (.tmp 10) (.tmp 14) 22 5 (.int .u8 0) 1 rfl Try.underlying22 info5 rfl z5 z4 v211 t210 (((a1.size : Int)) % 256) [.int .u8 (((a1.size : Int)) % 256)] (fun _ => True) (fun _ => False) rfl rfl ?aP (fun _ hk => hk.elim) ?aF ?aO ?aB ?aS ?aL ?_; (case aP => exact rfl); (case aB => exact (Short.hB HB)); (case aF => exact (fun _ _ => trivial)); (case aO => exact (ZKR HO212)); (case aS => exact (below_size (Short.hB HB))); (case aL => have := LMc5.out; omega); intro v214 w8 ho hb hg hat; rw [← Ny213.out] at ho; have n0_ := mk_ (hb); have n1_ := mk_ (ho); clear HB HO212; revert n0_ n1_; intro HB HO215; clear ho hb hg hat) | (at_builtin; refine print_append_str (w0 := w) w.heap.size rfl (.tmp 15) _ 22 9 5 rfl Try.underlying22 Try.underlying9 info5 v214 y213 a1 rfl rfl ?aO ?aB ?aS ?aL ?_; (case aB => exact (Short.hB HB)); (case aO => exact (Kd.own_of_R (ZKR HO215))); (case aS => exact (below_size (Short.hB HB))); (case aL => have := LMc6.out; omega); intro v217 w9 ho0 hb hg; have ho := R_of_own (h1 := fun _ => rfl) (ok := fun _ => True) ho0 (fun _ _ => trivial); clear ho0; have hat := True.intro; rw [← Ny216.out] at ho; change Kd.R (Kd.int .u8) 5 w9 w.heap.size (fun _ => True) v217 y216 at ho; have n0_ := mk_ (hb); have n1_ := mk_ (ho); clear HB HO215; revert n0_ n1_; intro HB HO218; clear ho hb hg hat))
 go_ret2
 exact ⟨_, by first | rfl | (simp [errW_none, errW_some] <;> rfl) | (simp [*, errW_none, errW_some] <;> rfl), by (with_reducible repeat (first | apply R_alloc | apply R_drewN | apply R_drew)); exact HO218.out, Short.hB HB⟩
def value_Bytes.f (k : Nat) (a0_0 : Int) (a0_1 : Int) (a0_2 : ByteArray) : Option (List Int × Int) := (value_Check.f a0_0 a0_1 a0_2).bind fun t220 => (if t220 = 0 then ((some (([(a0_0) % 256] : List Int) : List Int)).bind fun y221 => (if a0_0 = 2 then (if y221.length < 140737488355328 then (some ((y221 ++ [(a0_1) % 256]), 0)) else (none)) else (if a0_0 = 3 then ((wire_PutInt.f k y221 a0_1).bind fun bt227 => (some (bt227.1, bt227.2))) else (if a0_0 = 4 then ((wire_PutText.f y221 a0_2).bind fun bt231 => (some (bt231.1, bt231.2))) else (some (y221, 0)))))) else (some (([] : List Int), t220)))
theorem value_Bytes.calls (k : Nat) (a0_0 : Int) (a0_1 : Int) (a0_2 : ByteArray) (r1 : List Int) (r2 : Int) (w : World) (h : value_Bytes.f k a0_0 a0_1 a0_2 = some (r1, r2)) :
  Calls Try.prog 47 #[.agg #[.int .i64 a0_0, .int .i64 a0_1, .string a0_2]] w fun e w' => ∃ v0_ : Value, e = .returned (.tuple #[v0_, .int .i64 r2]) ∧ Kd.R (Kd.int .u8) 5 w' w.heap.size (fun _ => True) v0_ r1 ∧ Below w.heap.size w w' := by
 have hu84 := Try.underlying84
 have HB := mk_ (Below.refl w.heap.size w)
 have H : ((value_Check.f a0_0 a0_1 a0_2).bind fun t220 => (if t220 = 0 then ((some (([(a0_0) % 256] : List Int) : List Int)).bind fun y221 => (if a0_0 = 2 then (if y221.length < 140737488355328 then (some ((y221 ++ [(a0_1) % 256]), 0)) else (none)) else (if a0_0 = 3 then ((wire_PutInt.f k y221 a0_1).bind fun bt227 => (some (bt227.1, bt227.2))) else (if a0_0 = 4 then ((wire_PutText.f y221 a0_2).bind fun bt231 => (some (bt231.1, bt231.2))) else (some (y221, 0)))))) else (some (([] : List Int), t220)))) = some (r1, r2) := h
 clear h
 replace H := Option.bind_eq_some_iff.mp H
 obtain ⟨t220, A20, H⟩ := H
 replace H : (if t220 = 0 then ((some (([(a0_0) % 256] : List Int) : List Int)).bind fun y221 => (if a0_0 = 2 then (if y221.length < 140737488355328 then (some ((y221 ++ [(a0_1) % 256]), 0)) else (none)) else (if a0_0 = 3 then ((wire_PutInt.f k y221 a0_1).bind fun bt227 => (some (bt227.1, bt227.2))) else (if a0_0 = 4 then ((wire_PutText.f y221 a0_2).bind fun bt231 => (some (bt231.1, bt231.2))) else (some (y221, 0)))))) else (some (([] : List Int), t220))) = some (r1, r2) := H
 have A2 := mk_ A20
 clear A20
 by_cases c3 : t220 = 0
 rotate_left
 ·
  rw [if_neg c3] at H
  have c3b0 : (t220 == 0) = false := beq_eq_false_iff_ne.mpr c3
  have c3b1 : (t220 != 0) = true := bne_iff_ne.mpr c3
  simp only [Option.some.injEq, Prod.mk.injEq] at H
  obtain ⟨rfl, rfl⟩ := H
  go_enter Try.func47, Try.ntmps47
  go_wp2_with (first | ((with_reducible refine gate_dst (N := 1) rfl ?_); refine box_event ?hg (N := 1) ?hd (cs := #[.int .i64 a0_0, .int .i64 a0_1, .string a0_2]) (t := 84) ?hr ?_; (case hd => rfl); (case hg => rfl); (case hr => first | (go_simp; done) | (go_simp; rfl)); intro gb219 hg w43 hbox hb; have n0_ := mk_ (below_step (Short.hB HB) hb); have n1_ := mk_ (hbox); have n2_ := mk_ ((by rw [hg]; exact (below_size (Short.hB HB)) : w.heap.size ≤ gb219)); have n3_ := mk_ ((by rw [hg]; exact (below_size (Short.hB HB)) : w.heap.size ≤ gb219)); clear HB; revert n0_ n1_ n2_ n3_; intro HB BK219 GW219 GE219; clear hb hbox hg; obtain ⟨hcz44_0, hcz44_1, hcz44_2, hfz44_0, hfz44_1, hfz44_2⟩ := Short.c3 BK219.out) | ((with_reducible refine gate_callee (f := 87) rfl ?_); refine Short.gL (some 7) Try.func87 #[.agg #[.int .i64 a0_0, .int .i64 a0_1, .string a0_2]] (h := ?_); (with_reducible refine (value_Check.calls a0_0 a0_1 a0_2 t220 _ A2.out).mono ?_); rintro e w45 ⟨rfl, hb⟩; refine ⟨_, rfl, ?_⟩; have n0_ := mk_ (bB_ BK219 hb); have n1_ := mk_ (below_step (Short.hB HB) hb); clear BK219 HB; revert n0_ n1_; intro BK219 HB; (try clear hb)))
  go_ret2
  exact ⟨_, by first | rfl | (simp [errW_none, errW_some] <;> rfl) | (simp [*, errW_none, errW_some] <;> rfl), by first | exact R_nil _ _ _ _ _ | exact N_nil _ _ _ _ _ | exact V_nil _ _ _ _ _ | exact Q_nil _ _ _ _ _ | exact S_nil _ _ _ _ _, Short.hB HB⟩
 rw [if_pos c3] at H
 have c3b0 : (t220 == 0) = true := beq_iff_eq.mpr c3
 have c3b1 : (t220 != 0) = false := bne_eq_false_iff_eq.mpr c3
 clear c3
 obtain ⟨y221, hy221⟩ : ∃ y_ : List Int, y_ = (([(a0_0) % 256] : List Int)) := ⟨_, rfl⟩
 replace H : (if a0_0 = 2 then (if y221.length < 140737488355328 then (some ((y221 ++ [(a0_1) % 256]), 0)) else (none)) else (if a0_0 = 3 then ((wire_PutInt.f k y221 a0_1).bind fun bt227 => (some (bt227.1, bt227.2))) else (if a0_0 = 4 then ((wire_PutText.f y221 a0_2).bind fun bt231 => (some (bt231.1, bt231.2))) else (some (y221, 0))))) = some (r1, r2) := by first | (rw [hy221]; with_reducible exact H) | (have H2_ := (Option.bind_some _ _).symm.trans H; rw [hy221]; with_reducible exact H2_) | (have H2_ := (Option.bind_some _ _).symm.trans H; with_reducible exact H2_) | with_reducible exact H | (rw [hy221]; exact H) | exact H
 have Ny221 := mk_ hy221
 clear hy221
 by_cases c4 : a0_0 = 2
 ·
  rw [if_pos c4] at H
  have c4b0 : (a0_0 == 2) = true := beq_iff_eq.mpr c4
  have c4b1 : (a0_0 != 2) = false := bne_eq_false_iff_eq.mpr c4
  clear c4
  by_cases c5 : y221.length < 140737488355328
  rotate_left
  ·
   rw [if_neg c5] at H
   exact absurd H (by simp)
  rw [if_pos c5] at H
  have LMc5 := mk_ c5
  clear c5
  obtain ⟨y224, hy224⟩ : ∃ y_ : List Int, y_ = (y221 ++ [(a0_1) % 256]) := ⟨_, rfl⟩
  replace H : (some (y224, 0)) = some (r1, r2) := by first | (rw [hy224]; with_reducible exact H) | (have H2_ := (Option.bind_some _ _).symm.trans H; rw [hy224]; with_reducible exact H2_) | (have H2_ := (Option.bind_some _ _).symm.trans H; with_reducible exact H2_) | with_reducible exact H | (rw [hy224]; exact H) | exact H
  have Ny224 := mk_ hy224
  clear hy224
  simp only [Option.some.injEq, Prod.mk.injEq] at H
  obtain ⟨rfl, rfl⟩ := H
  go_enter Try.func47, Try.ntmps47
  go_wp2_with (first | ((with_reducible refine gate_dst (N := 1) rfl ?_); refine box_event ?hg (N := 1) ?hd (cs := #[.int .i64 a0_0, .int .i64 a0_1, .string a0_2]) (t := 84) ?hr ?_; (case hd => rfl); (case hg => rfl); (case hr => first | (go_simp; done) | (go_simp; rfl)); intro gb219 hg w6 hbox hb; have n0_ := mk_ (below_step (Short.hB HB) hb); have n1_ := mk_ (hbox); have n2_ := mk_ ((by rw [hg]; exact (below_size (Short.hB HB)) : w.heap.size ≤ gb219)); have n3_ := mk_ ((by rw [hg]; exact (below_size (Short.hB HB)) : w.heap.size ≤ gb219)); clear HB; revert n0_ n1_ n2_ n3_; intro HB BK219 GW219 GE219; clear hb hbox hg; obtain ⟨hcz7_0, hcz7_1, hcz7_2, hfz7_0, hfz7_1, hfz7_2⟩ := Short.c3 BK219.out) | ((with_reducible refine gate_callee (f := 87) rfl ?_); refine Short.gL (some 7) Try.func87 #[.agg #[.int .i64 a0_0, .int .i64 a0_1, .string a0_2]] (h := ?_); (with_reducible refine (value_Check.calls a0_0 a0_1 a0_2 t220 _ A2.out).mono ?_); rintro e w8 ⟨rfl, hb⟩; refine ⟨_, rfl, ?_⟩; have n0_ := mk_ (bB_ BK219 hb); have n1_ := mk_ (below_step (Short.hB HB) hb); clear BK219 HB; revert n0_ n1_; intro BK219 HB; (try clear hb); obtain ⟨hcz9_0, hcz9_1, hcz9_2, hfz9_0, hfz9_1, hfz9_2⟩ := Short.c3 BK219.out) | ((with_reducible refine gate_dst (N := 14) rfl ?_); refine R_lit (Kd.int .u8) _ 5 ?hg (N := 14) ?hd (xs := ([(a0_0) % 256] : List Int)) (inner := [.int .u8 ((a0_0) % 256)]) (ok := fun _ => True) (okp := fun _ => True) ?hr ?hp (fun _ hk => hk) trivial (Below.refl _ _) (Nat.le_refl _) (by simp) ?_; (case hd => rfl); (case hg => rfl); (case hr => first | (go_simp; done) | (go_simp; rfl)); (case hp => exact (Reps.one (show Kd.M (Kd.int .u8) _ _ _ ((a0_0) % 256) [.int .u8 ((a0_0) % 256)] from rfl) (Reps.none _ _))); intro v222 w10 ho11 hb hg_ hnew_; clear hg_ hnew_; (first | rw [← Ny221.out] at ho11 | (simp only [Int.reduceToNat] at ho11; rw [← Ny221.out] at ho11)); have n0_ := mk_ (R_lower ho11 (below_size (Short.hB HB))); have n1_ := mk_ (bB_ BK219 hb); have n2_ := mk_ (below_step (Short.hB HB) hb); clear BK219 HB; revert n0_ n1_ n2_; intro HO223 BK219 HB; clear hb ho11; obtain ⟨hcz12_0, hcz12_1, hcz12_2, hfz12_0, hfz12_1, hfz12_2⟩ := Short.c3 BK219.out) | ((with_reducible refine gate_builtin (b := .append) (xs := #[.tmp 19, .tmp 23]) rfl ?_); at_builtin; refine R_append (Kd.int .u8) (w0 := w) w.heap.size rfl (.tmp 19) (.tmp 23) 22 5 (.int .u8 0) 1 rfl Try.underlying22 info5 rfl z5 z4 v222 y221 ((a0_1) % 256) [.int .u8 ((a0_1) % 256)] (fun _ => True) (fun _ => False) rfl rfl ?aP (fun _ hk => hk.elim) ?aF ?aO ?aB ?aS ?aL ?_; (case aP => exact rfl); (case aB => exact (Short.hB HB)); (case aF => exact (fun _ _ => trivial)); (case aO => exact (ZKR HO223)); (case aS => exact (below_size (Short.hB HB))); (case aL => have := LMc5.out; omega); intro v225 w13 ho hb hg hat; rw [← Ny224.out] at ho; have n0_ := mk_ (blk_grown (g := gb219) (o := .cells #[.int .i64 a0_0, .int .i64 a0_1, .string a0_2] 84 (0, 0)) (Short.bK BK219) hg (R_ne HO223.out BK219.out z5)); have n1_ := mk_ (hb); have n2_ := mk_ (ho); clear BK219 HB HO223; revert n0_ n1_ n2_; intro BK219 HB HO226; clear ho hb hg hat))
  go_ret2
  exact ⟨_, by first | rfl | (simp [errW_none, errW_some] <;> rfl) | (simp [*, errW_none, errW_some] <;> rfl), by (with_reducible repeat (first | apply R_alloc | apply R_drewN | apply R_drew)); exact HO226.out, Short.hB HB⟩
 rw [if_neg c4] at H
 have c4b0 : (a0_0 == 2) = false := beq_eq_false_iff_ne.mpr c4
 have c4b1 : (a0_0 != 2) = true := bne_iff_ne.mpr c4
 by_cases c14 : a0_0 = 3
 ·
  rw [if_pos c14] at H
  have c14b0 : (a0_0 == 3) = true := beq_iff_eq.mpr c14
  have c14b1 : (a0_0 != 3) = false := bne_eq_false_iff_eq.mpr c14
  clear c14
  replace H := Option.bind_eq_some_iff.mp H
  obtain ⟨⟨t227, t228⟩, A150, H⟩ := H
  replace H : (some (t227, t228)) = some (r1, r2) := H
  have A15 := mk_ A150
  clear A150
  simp only [Option.some.injEq, Prod.mk.injEq] at H
  obtain ⟨rfl, rfl⟩ := H
  go_enter Try.func47, Try.ntmps47
  go_wp2_with (first | ((with_reducible refine gate_dst (N := 1) rfl ?_); refine box_event ?hg (N := 1) ?hd (cs := #[.int .i64 a0_0, .int .i64 a0_1, .string a0_2]) (t := 84) ?hr ?_; (case hd => rfl); (case hg => rfl); (case hr => first | (go_simp; done) | (go_simp; rfl)); intro gb219 hg w16 hbox hb; have n0_ := mk_ (below_step (Short.hB HB) hb); have n1_ := mk_ (hbox); have n2_ := mk_ ((by rw [hg]; exact (below_size (Short.hB HB)) : w.heap.size ≤ gb219)); have n3_ := mk_ ((by rw [hg]; exact (below_size (Short.hB HB)) : w.heap.size ≤ gb219)); clear HB; revert n0_ n1_ n2_ n3_; intro HB BK219 GW219 GE219; clear hb hbox hg; obtain ⟨hcz17_0, hcz17_1, hcz17_2, hfz17_0, hfz17_1, hfz17_2⟩ := Short.c3 BK219.out) | ((with_reducible refine gate_callee (f := 87) rfl ?_); refine Short.gL (some 7) Try.func87 #[.agg #[.int .i64 a0_0, .int .i64 a0_1, .string a0_2]] (h := ?_); (with_reducible refine (value_Check.calls a0_0 a0_1 a0_2 t220 _ A2.out).mono ?_); rintro e w18 ⟨rfl, hb⟩; refine ⟨_, rfl, ?_⟩; have n0_ := mk_ (bB_ BK219 hb); have n1_ := mk_ (below_step (Short.hB HB) hb); clear BK219 HB; revert n0_ n1_; intro BK219 HB; (try clear hb); obtain ⟨hcz19_0, hcz19_1, hcz19_2, hfz19_0, hfz19_1, hfz19_2⟩ := Short.c3 BK219.out) | ((with_reducible refine gate_dst (N := 14) rfl ?_); refine R_lit (Kd.int .u8) _ 5 ?hg (N := 14) ?hd (xs := ([(a0_0) % 256] : List Int)) (inner := [.int .u8 ((a0_0) % 256)]) (ok := fun _ => True) (okp := fun _ => True) ?hr ?hp (fun _ hk => hk) trivial (Below.refl _ _) (Nat.le_refl _) (by simp) ?_; (case hd => rfl); (case hg => rfl); (case hr => first | (go_simp; done) | (go_simp; rfl)); (case hp => exact (Reps.one (show Kd.M (Kd.int .u8) _ _ _ ((a0_0) % 256) [.int .u8 ((a0_0) % 256)] from rfl) (Reps.none _ _))); intro v222 w20 ho21 hb hg_ hnew_; clear hg_ hnew_; (first | rw [← Ny221.out] at ho21 | (simp only [Int.reduceToNat] at ho21; rw [← Ny221.out] at ho21)); have n0_ := mk_ (R_lower ho21 (below_size (Short.hB HB))); have n1_ := mk_ (bB_ BK219 hb); have n2_ := mk_ (below_step (Short.hB HB) hb); clear BK219 HB; revert n0_ n1_ n2_; intro HO223 BK219 HB; clear hb ho21; obtain ⟨hcz22_0, hcz22_1, hcz22_2, hfz22_0, hfz22_1, hfz22_2⟩ := Short.c3 BK219.out; obtain ⟨Ao23, co23, eo23⟩ := R_slice HO223.out; subst eo23) | ((with_reducible refine gate_callee (f := 88) rfl ?_); refine Short.gL (some 30) Try.func88 #[.slice Ao23 y221.length co23, .int .i64 a0_1] (h := ?_); (with_reducible refine (wire_PutInt.calls k _ _ y221 a0_1 t227 t228 _ ?side1 ?side2 A15.out).mono ?_); (case side1 => exact cX_ (R_reads' HO223.out).2.2); (case side2 => exact (R_reads' HO223.out).2.1); rintro e w24 ⟨v229, rfl, ho0, hb⟩; refine ⟨_, rfl, ?_⟩; have n0_ := mk_ (R_elder' (ZKR HO223) (R_base ho0) hb); have n1_ := mk_ (R_lower (R_new' ho0 (R_lt (ZKR HO223))) (below_size (Short.hB HB))); have n2_ := mk_ (bB_ BK219 hb); have n3_ := mk_ (below_step (Short.hB HB) hb); clear HO223 BK219 HB; revert n0_ n1_ n2_ n3_; intro HO223 HO230 BK219 HB; (try clear hb ho0)))
  go_ret2
  exact ⟨_, by first | rfl | (simp [errW_none, errW_some] <;> rfl) | (simp [*, errW_none, errW_some] <;> rfl), by (with_reducible repeat (first | apply R_alloc | apply R_drewN | apply R_drew)); exact R_mono HO230.out (fun _ hk => trivial), Short.hB HB⟩
 rw [if_neg c14] at H
 have c14b0 : (a0_0 == 3) = false := beq_eq_false_iff_ne.mpr c14
 have c14b1 : (a0_0 != 3) = true := bne_iff_ne.mpr c14
 by_cases c25 : a0_0 = 4
 rotate_left
 ·
  rw [if_neg c25] at H
  have c25b0 : (a0_0 == 4) = false := beq_eq_false_iff_ne.mpr c25
  have c25b1 : (a0_0 != 4) = true := bne_iff_ne.mpr c25
  simp only [Option.some.injEq, Prod.mk.injEq] at H
  obtain ⟨rfl, rfl⟩ := H
  go_enter Try.func47, Try.ntmps47
  go_wp2_with (first | ((with_reducible refine gate_dst (N := 1) rfl ?_); refine box_event ?hg (N := 1) ?hd (cs := #[.int .i64 a0_0, .int .i64 a0_1, .string a0_2]) (t := 84) ?hr ?_; (case hd => rfl); (case hg => rfl); (case hr => first | (go_simp; done) | (go_simp; rfl)); intro gb219 hg w36 hbox hb; have n0_ := mk_ (below_step (Short.hB HB) hb); have n1_ := mk_ (hbox); have n2_ := mk_ ((by rw [hg]; exact (below_size (Short.hB HB)) : w.heap.size ≤ gb219)); have n3_ := mk_ ((by rw [hg]; exact (below_size (Short.hB HB)) : w.heap.size ≤ gb219)); clear HB; revert n0_ n1_ n2_ n3_; intro HB BK219 GW219 GE219; clear hb hbox hg; obtain ⟨hcz37_0, hcz37_1, hcz37_2, hfz37_0, hfz37_1, hfz37_2⟩ := Short.c3 BK219.out) | ((with_reducible refine gate_callee (f := 87) rfl ?_); refine Short.gL (some 7) Try.func87 #[.agg #[.int .i64 a0_0, .int .i64 a0_1, .string a0_2]] (h := ?_); (with_reducible refine (value_Check.calls a0_0 a0_1 a0_2 t220 _ A2.out).mono ?_); rintro e w38 ⟨rfl, hb⟩; refine ⟨_, rfl, ?_⟩; have n0_ := mk_ (bB_ BK219 hb); have n1_ := mk_ (below_step (Short.hB HB) hb); clear BK219 HB; revert n0_ n1_; intro BK219 HB; (try clear hb); obtain ⟨hcz39_0, hcz39_1, hcz39_2, hfz39_0, hfz39_1, hfz39_2⟩ := Short.c3 BK219.out) | ((with_reducible refine gate_dst (N := 14) rfl ?_); refine R_lit (Kd.int .u8) _ 5 ?hg (N := 14) ?hd (xs := ([(a0_0) % 256] : List Int)) (inner := [.int .u8 ((a0_0) % 256)]) (ok := fun _ => True) (okp := fun _ => True) ?hr ?hp (fun _ hk => hk) trivial (Below.refl _ _) (Nat.le_refl _) (by simp) ?_; (case hd => rfl); (case hg => rfl); (case hr => first | (go_simp; done) | (go_simp; rfl)); (case hp => exact (Reps.one (show Kd.M (Kd.int .u8) _ _ _ ((a0_0) % 256) [.int .u8 ((a0_0) % 256)] from rfl) (Reps.none _ _))); intro v222 w40 ho41 hb hg_ hnew_; clear hg_ hnew_; (first | rw [← Ny221.out] at ho41 | (simp only [Int.reduceToNat] at ho41; rw [← Ny221.out] at ho41)); have n0_ := mk_ (R_lower ho41 (below_size (Short.hB HB))); have n1_ := mk_ (bB_ BK219 hb); have n2_ := mk_ (below_step (Short.hB HB) hb); clear BK219 HB; revert n0_ n1_ n2_; intro HO223 BK219 HB; clear hb ho41; obtain ⟨hcz42_0, hcz42_1, hcz42_2, hfz42_0, hfz42_1, hfz42_2⟩ := Short.c3 BK219.out))
  go_ret2
  exact ⟨_, by first | rfl | (simp [errW_none, errW_some] <;> rfl) | (simp [*, errW_none, errW_some] <;> rfl), by (with_reducible repeat (first | apply R_alloc | apply R_drewN | apply R_drew)); exact HO223.out, Short.hB HB⟩
 rw [if_pos c25] at H
 have c25b0 : (a0_0 == 4) = true := beq_iff_eq.mpr c25
 have c25b1 : (a0_0 != 4) = false := bne_eq_false_iff_eq.mpr c25
 clear c25
 replace H := Option.bind_eq_some_iff.mp H
 obtain ⟨⟨t231, t232⟩, A260, H⟩ := H
 replace H : (some (t231, t232)) = some (r1, r2) := H
 have A26 := mk_ A260
 clear A260
 simp only [Option.some.injEq, Prod.mk.injEq] at H
 obtain ⟨rfl, rfl⟩ := H
 go_enter Try.func47, Try.ntmps47
 go_wp2_with (first | ((with_reducible refine gate_dst (N := 1) rfl ?_); refine box_event ?hg (N := 1) ?hd (cs := #[.int .i64 a0_0, .int .i64 a0_1, .string a0_2]) (t := 84) ?hr ?_; (case hd => rfl); (case hg => rfl); (case hr => first | (go_simp; done) | (go_simp; rfl)); intro gb219 hg w27 hbox hb; have n0_ := mk_ (below_step (Short.hB HB) hb); have n1_ := mk_ (hbox); have n2_ := mk_ ((by rw [hg]; exact (below_size (Short.hB HB)) : w.heap.size ≤ gb219)); have n3_ := mk_ ((by rw [hg]; exact (below_size (Short.hB HB)) : w.heap.size ≤ gb219)); clear HB; revert n0_ n1_ n2_ n3_; intro HB BK219 GW219 GE219; clear hb hbox hg; obtain ⟨hcz28_0, hcz28_1, hcz28_2, hfz28_0, hfz28_1, hfz28_2⟩ := Short.c3 BK219.out) | ((with_reducible refine gate_callee (f := 87) rfl ?_); refine Short.gL (some 7) Try.func87 #[.agg #[.int .i64 a0_0, .int .i64 a0_1, .string a0_2]] (h := ?_); (with_reducible refine (value_Check.calls a0_0 a0_1 a0_2 t220 _ A2.out).mono ?_); rintro e w29 ⟨rfl, hb⟩; refine ⟨_, rfl, ?_⟩; have n0_ := mk_ (bB_ BK219 hb); have n1_ := mk_ (below_step (Short.hB HB) hb); clear BK219 HB; revert n0_ n1_; intro BK219 HB; (try clear hb); obtain ⟨hcz30_0, hcz30_1, hcz30_2, hfz30_0, hfz30_1, hfz30_2⟩ := Short.c3 BK219.out) | ((with_reducible refine gate_dst (N := 14) rfl ?_); refine R_lit (Kd.int .u8) _ 5 ?hg (N := 14) ?hd (xs := ([(a0_0) % 256] : List Int)) (inner := [.int .u8 ((a0_0) % 256)]) (ok := fun _ => True) (okp := fun _ => True) ?hr ?hp (fun _ hk => hk) trivial (Below.refl _ _) (Nat.le_refl _) (by simp) ?_; (case hd => rfl); (case hg => rfl); (case hr => first | (go_simp; done) | (go_simp; rfl)); (case hp => exact (Reps.one (show Kd.M (Kd.int .u8) _ _ _ ((a0_0) % 256) [.int .u8 ((a0_0) % 256)] from rfl) (Reps.none _ _))); intro v222 w31 ho32 hb hg_ hnew_; clear hg_ hnew_; (first | rw [← Ny221.out] at ho32 | (simp only [Int.reduceToNat] at ho32; rw [← Ny221.out] at ho32)); have n0_ := mk_ (R_lower ho32 (below_size (Short.hB HB))); have n1_ := mk_ (bB_ BK219 hb); have n2_ := mk_ (below_step (Short.hB HB) hb); clear BK219 HB; revert n0_ n1_ n2_; intro HO223 BK219 HB; clear hb ho32; obtain ⟨hcz33_0, hcz33_1, hcz33_2, hfz33_0, hfz33_1, hfz33_2⟩ := Short.c3 BK219.out; obtain ⟨Ao34, co34, eo34⟩ := R_slice HO223.out; subst eo34) | ((with_reducible refine gate_callee (f := 89) rfl ?_); refine Short.gL (some 38) Try.func89 #[.slice Ao34 y221.length co34, .string a0_2] (h := ?_); (with_reducible refine (wire_PutText.calls _ _ y221 a0_2 t231 t232 _ ?side1 ?side2 A26.out).mono ?_); (case side1 => exact cX_ (R_reads' HO223.out).2.2); (case side2 => exact (R_reads' HO223.out).2.1); rintro e w35 ⟨v233, rfl, ho0, hb⟩; refine ⟨_, rfl, ?_⟩; have n0_ := mk_ (R_elder' (ZKR HO223) (R_base ho0) hb); have n1_ := mk_ (R_lower (R_new' ho0 (R_lt (ZKR HO223))) (below_size (Short.hB HB))); have n2_ := mk_ (bB_ BK219 hb); have n3_ := mk_ (below_step (Short.hB HB) hb); clear HO223 BK219 HB; revert n0_ n1_ n2_ n3_; intro HO223 HO234 BK219 HB; (try clear hb ho0)))
 go_ret2
 exact ⟨_, by first | rfl | (simp [errW_none, errW_some] <;> rfl) | (simp [*, errW_none, errW_some] <;> rfl), by (with_reducible repeat (first | apply R_alloc | apply R_drewN | apply R_drew)); exact R_mono HO234.out (fun _ hk => trivial), Short.hB HB⟩
def row_Bytes.l0 : Nat → List Int → List (S84) → Int → Int → Option (List Int × Int)
 | 0, _, _, _, _ => none
 | k + 1, x5, x19, x20, x21 => if x21 < x20 then (if 0 ≤ x21 then (if x21 < (x19.length : Int) then ((value_Bytes.f k ((rd_T84 x19 x21).f0) ((rd_T84 x19 x21).f1) ((rd_T84 x19 x21).f2)).bind fun bt241 => (if x5.length + bt241.1.length < 140737488355328 then (row_Bytes.l0 k (x5 ++ bt241.1) x19 x20 (wrap64 (x21 + 1))) else (none))) else (none)) else (none)) else (some (x5, 0))
def row_Bytes.f (k : Nat) (l0 : List (S84)) : Option (List Int × Int) := (row_Check.f k l0).bind fun t235 => (if t235 = 0 then (row_Bytes.l0 k (([((l0.length : Int)) % 256] : List Int)) l0 (l0.length : Int) 0) else (some (([] : List Int), t235)))
theorem row_Bytes.calls (k : Nat) (A0 : Option Addr) (c0 : Nat) (l0 : List (S84)) (r1 : List Int) (r2 : Int) (w : World) (hr0 : Kd.C k84 w A0 l0.length l0) (hc0 : l0.length ≤ c0) (h : row_Bytes.f k l0 = some (r1, r2)) :
  Calls Try.prog 23 #[.slice A0 l0.length c0] w fun e w' => ∃ v0_ : Value, e = .returned (.tuple #[v0_, .int .i64 r2]) ∧ Kd.R (Kd.int .u8) 5 w' w.heap.size (fun _ => True) v0_ r1 ∧ Below w.heap.size w w' := by
 have hu84 := Try.underlying84
 have HR0 := mk_ hr0
 have HC0 := mk_ hc0
 clear hr0 hc0
 have HB := mk_ (Below.refl w.heap.size w)
 have H : ((row_Check.f k l0).bind fun t235 => (if t235 = 0 then (row_Bytes.l0 k (([((l0.length : Int)) % 256] : List Int)) l0 (l0.length : Int) 0) else (some (([] : List Int), t235)))) = some (r1, r2) := h
 clear h
 replace H := Option.bind_eq_some_iff.mp H
 obtain ⟨t235, A20, H⟩ := H
 replace H : (if t235 = 0 then (row_Bytes.l0 k (([((l0.length : Int)) % 256] : List Int)) l0 (l0.length : Int) 0) else (some (([] : List Int), t235))) = some (r1, r2) := H
 have A2 := mk_ A20
 clear A20
 by_cases c3 : t235 = 0
 rotate_left
 ·
  rw [if_neg c3] at H
  have c3b0 : (t235 == 0) = false := beq_eq_false_iff_ne.mpr c3
  have c3b1 : (t235 != 0) = true := bne_iff_ne.mpr c3
  simp only [Option.some.injEq, Prod.mk.injEq] at H
  obtain ⟨rfl, rfl⟩ := H
  go_enter Try.func23, Try.ntmps23
  go_wp2_with (first | ((with_reducible refine gate_callee (f := 46) rfl ?_); refine Short.gL (some 11) Try.func46 #[.slice A0 l0.length c0] (h := ?_); (with_reducible refine (row_Check.calls k _ _ l0 t235 _ ?side1 ?side2 A2.out).mono ?_); (case side1 => repeat (first | exact HR0.out | (with_reducible refine C_alloc ?_ _) | (with_reducible refine C_drewN ?_ _) | (with_reducible refine C_drew ?_))); (case side2 => exact HC0.out); rintro e w17 ⟨rfl, hb⟩; refine ⟨_, rfl, ?_⟩; have n0_ := mk_ (below_step (Short.hB HB) hb); clear HB; revert n0_; intro HB; (try clear hb)))
  go_ret2
  exact ⟨_, by first | rfl | (simp [errW_none, errW_some] <;> rfl) | (simp [*, errW_none, errW_some] <;> rfl), by first | exact R_nil _ _ _ _ _ | exact N_nil _ _ _ _ _ | exact V_nil _ _ _ _ _ | exact Q_nil _ _ _ _ _ | exact S_nil _ _ _ _ _, Short.hB HB⟩
 rw [if_pos c3] at H
 have c3b0 : (t235 == 0) = true := beq_iff_eq.mpr c3
 have c3b1 : (t235 != 0) = false := bne_eq_false_iff_eq.mpr c3
 clear c3
 obtain ⟨y236, hy236⟩ : ∃ y_ : List Int, y_ = (([((l0.length : Int)) % 256] : List Int)) := ⟨_, rfl⟩
 replace H : (row_Bytes.l0 k y236 l0 (l0.length : Int) 0) = some (r1, r2) := by first | (rw [hy236]; with_reducible exact H) | (have H2_ := (Option.bind_some _ _).symm.trans H; rw [hy236]; with_reducible exact H2_) | (have H2_ := (Option.bind_some _ _).symm.trans H; with_reducible exact H2_) | with_reducible exact H | (rw [hy236]; exact H) | exact H
 have Ny236 := mk_ hy236
 clear hy236
 have H' := mk_ H
 clear H
 go_enter Try.func23, Try.ntmps23
 go_wp2_with (first | ((with_reducible refine gate_callee (f := 46) rfl ?_); refine Short.gL (some 11) Try.func46 #[.slice A0 l0.length c0] (h := ?_); (with_reducible refine (row_Check.calls k _ _ l0 t235 _ ?side1 ?side2 A2.out).mono ?_); (case side1 => repeat (first | exact HR0.out | (with_reducible refine C_alloc ?_ _) | (with_reducible refine C_drewN ?_ _) | (with_reducible refine C_drew ?_))); (case side2 => exact HC0.out); rintro e w4 ⟨rfl, hb⟩; refine ⟨_, rfl, ?_⟩; have n0_ := mk_ (below_step (Short.hB HB) hb); clear HB; revert n0_; intro HB; (try clear hb)) | ((with_reducible refine gate_dst (N := 18) rfl ?_); refine R_lit (Kd.int .u8) _ 5 ?hg (N := 18) ?hd (xs := ([((l0.length : Int)) % 256] : List Int)) (inner := [.int .u8 (((l0.length : Int)) % 256)]) (ok := fun _ => True) (okp := fun _ => True) ?hr ?hp (fun _ hk => hk) trivial (Below.refl _ _) (Nat.le_refl _) (by simp) ?_; (case hd => rfl); (case hg => rfl); (case hr => first | (go_simp; done) | (go_simp; rfl)); (case hp => exact (Reps.one (show Kd.M (Kd.int .u8) _ _ _ (((l0.length : Int)) % 256) [.int .u8 (((l0.length : Int)) % 256)] from rfl) (Reps.none _ _))); intro v237 w5 ho6 hb hg_ hnew_; clear hg_ hnew_; (first | rw [← Ny236.out] at ho6 | (simp only [Int.reduceToNat] at ho6; rw [← Ny236.out] at ho6)); have n0_ := mk_ (R_lower ho6 (below_size (Short.hB HB))); have n1_ := mk_ (below_step (Short.hB HB) hb); clear HB; revert n0_ n1_; intro HO238 HB; clear hb ho6))
 go_loopg [5, 21] k (fun kq v5 v21 w' => ∃ (x5_1 : List Int) (x21_1 : Int), v21 = .int .i64 x21_1 ∧ Aside0 (row_Bytes.l0 kq x5_1 l0 (l0.length : Int) x21_1 = some (r1, r2)) ∧ Aside0 (kq ≤ k) ∧ Aside0 (Kd.R (Kd.int .u8) 5 w' w.heap.size (fun _ => True) v5 x5_1) ∧ Aside0 (Below w.heap.size w w'))
 case atStart => exact ⟨(y236), (0), z3, H', ⟨Nat.le_refl _⟩, ⟨by (with_reducible repeat (first | apply R_alloc | apply R_drewN | apply R_drew)); exact HO238.out⟩, ⟨Short.hB HB⟩⟩
 case round =>
  clear H'
  try clear c2
  try clear p2
  try clear c3
  try clear c3b0
  try clear c3b1
  try clear c4
  obtain ⟨x5_1, x21_1, rfl, HA, HK1, HO_5, HB⟩ := hrel
  cases gk with
  | zero => exact absurd HA.out (by simp [row_Bytes.l0])
  | succ k1 =>
   have H := HA.out
   clear HA
   simp only [row_Bytes.l0] at H
   by_cases c7 : x21_1 < (l0.length : Int)
   rotate_left
   ·
    rw [if_neg c7] at H
    have c7b0 : decide (x21_1 < (l0.length : Int)) = false := decide_eq_false c7
    clear c7
    simp only [Option.some.injEq, Prod.mk.injEq] at H
    obtain ⟨rfl, rfl⟩ := H
    go_wp2
    go_ret2
    exact ⟨_, by first | rfl | (simp [errW_none, errW_some] <;> rfl) | (simp [*, errW_none, errW_some] <;> rfl), by (with_reducible repeat (first | apply R_alloc | apply R_drewN | apply R_drew)); exact HO_5.out, Short.hB HB⟩
   rw [if_pos c7] at H
   have c7b0 : decide (x21_1 < (l0.length : Int)) = true := decide_eq_true c7
   clear c7
   by_cases c8 : 0 ≤ x21_1
   rotate_left
   ·
    rw [if_neg c8] at H
    exact absurd H (by simp)
   rw [if_pos c8] at H
   have c8b0 : decide (0 ≤ x21_1) = true := decide_eq_true c8
   clear c8
   by_cases c9 : x21_1 < (l0.length : Int)
   rotate_left
   ·
    rw [if_neg c9] at H
    exact absurd H (by simp)
   rw [if_pos c9] at H
   have c9b0 : decide (x21_1 < (l0.length : Int)) = true := decide_eq_true c9
   clear c9
   replace H := Option.bind_eq_some_iff.mp H
   obtain ⟨⟨t241, t244⟩, A100, H⟩ := H
   replace H : (if x5_1.length + t241.length < 140737488355328 then (row_Bytes.l0 k1 (x5_1 ++ t241) l0 (l0.length : Int) (wrap64 (x21_1 + 1))) else (none)) = some (r1, r2) := H
   have A10 := mk_ A100
   clear A100
   by_cases c11 : x5_1.length + t241.length < 140737488355328
   rotate_left
   ·
    rw [if_neg c11] at H
    exact absurd H (by simp)
   rw [if_pos c11] at H
   have LMc11 := mk_ c11
   clear c11
   obtain ⟨y245, hy245⟩ : ∃ y_ : List Int, y_ = (x5_1 ++ t241) := ⟨_, rfl⟩
   replace H : (row_Bytes.l0 k1 y245 l0 (l0.length : Int) (wrap64 (x21_1 + 1))) = some (r1, r2) := by first | (rw [hy245]; with_reducible exact H) | (have H2_ := (Option.bind_some _ _).symm.trans H; rw [hy245]; with_reducible exact H2_) | (have H2_ := (Option.bind_some _ _).symm.trans H; with_reducible exact H2_) | with_reducible exact H | (rw [hy245]; exact H) | exact H
   have Ny245 := mk_ hy245
   clear hy245
   have H' := mk_ H
   clear H
   have p239 : 0 ≤ (x21_1 : Int) := of_decide_eq_true z0
   have q239 : x21_1 < (l0.length : Int) := of_decide_eq_true z0
   obtain ⟨ad239, e239, hx239_0, hx239_1, hx239_2⟩ := at_T84 HR0.out x21_1 p239 q239
   cases e239
   replace hx239_0 := up_ HB hx239_0
   replace hx239_1 := up_ HB hx239_1
   replace hx239_2 := up_ HB hx239_2
   replace p239 := eq_true p239
   replace q239 := eq_true q239
   go_wp2_with (first | ((with_reducible refine gate_dst (N := 7) rfl ?_); refine box_event ?hg (N := 7) ?hd (cs := #[.int .i64 0, .int .i64 0, .string (⟨#[]⟩ : ByteArray)]) (t := 84) ?hr ?_; (case hd => rfl); (case hg => rfl); (case hr => first | (go_simp; done) | (go_simp; rfl)); intro gb240 hg w12 hbox hb; have n0_ := mk_ (R_below (ZKR HO_5) hb); have n1_ := mk_ (below_step (Short.hB HB) hb); have n2_ := mk_ (hbox); have n3_ := mk_ ((by rw [hg]; exact (below_size (Short.hB HB)) : w.heap.size ≤ gb240)); have n4_ := mk_ ((by rw [hg]; exact (below_size (Short.hB HB)) : w.heap.size ≤ gb240)); clear HO_5 HB; revert n0_ n1_ n2_ n3_ n4_; intro HO_5 HB BK240 GW240 GE240; clear hb hbox hg; obtain ⟨hcz13_0, hcz13_1, hcz13_2, hfz13_0, hfz13_1, hfz13_2⟩ := Short.c3 BK240.out) | ((with_reducible refine gate_callee (f := 47) rfl ?_); refine Short.gL (some 27) Try.func47 #[.agg #[.int .i64 ((rd_T84 l0 x21_1).f0), .int .i64 ((rd_T84 l0 x21_1).f1), .string ((rd_T84 l0 x21_1).f2)]] (h := ?_); (with_reducible refine (value_Bytes.calls k1 ((rd_T84 l0 x21_1).f0) ((rd_T84 l0 x21_1).f1) ((rd_T84 l0 x21_1).f2) t241 t244 _ A10.out).mono ?_); rintro e w14 ⟨v242, rfl, ho0, hb⟩; refine ⟨_, rfl, ?_⟩; have n0_ := mk_ (R_elder' (by (with_reducible repeat (first | apply R_alloc | apply R_drewN | apply R_drew)); exact (R_mono (R_far (p := ⟨gb240, 2, none⟩) (R_far (p := ⟨gb240, 1, none⟩) (R_far (p := ⟨gb240, 0, none⟩) (R_types HO_5.out BK240.out z5) (fun _ hk => hk.2) (.int .i64 ((rd_T84 l0 x21_1).f0))) (fun _ hk => hk.2) (.int .i64 ((rd_T84 l0 x21_1).f1))) (fun _ hk => hk.2) (.string ((rd_T84 l0 x21_1).f2))) (fun _ h_ => h_.1))) (R_base ho0) hb); have n1_ := mk_ (R_lower (R_new' ho0 (R_lt (by (with_reducible repeat (first | apply R_alloc | apply R_drewN | apply R_drew)); exact (R_mono (R_far (p := ⟨gb240, 2, none⟩) (R_far (p := ⟨gb240, 1, none⟩) (R_far (p := ⟨gb240, 0, none⟩) (R_types HO_5.out BK240.out z5) (fun _ hk => hk.2) (.int .i64 ((rd_T84 l0 x21_1).f0))) (fun _ hk => hk.2) (.int .i64 ((rd_T84 l0 x21_1).f1))) (fun _ hk => hk.2) (.string ((rd_T84 l0 x21_1).f2))) (fun _ h_ => h_.1))))) (below_size (Short.hB HB))); have n2_ := mk_ (blk_below (g := gb240) (o := .cells #[.int .i64 ((rd_T84 l0 x21_1).f0), .int .i64 ((rd_T84 l0 x21_1).f1), .string ((rd_T84 l0 x21_1).f2)] 84 (0, 0)) (by (with_reducible repeat (first | refine blk_drewN ?_ _ | refine blk_drew ?_ | refine blk_alloc ?_ _)); refine blk_put (cs := #[.int .i64 ((rd_T84 l0 x21_1).f0), .int .i64 ((rd_T84 l0 x21_1).f1), .string (⟨#[]⟩ : ByteArray)]) ?_ 2 _ rfl; (with_reducible repeat (first | refine blk_drewN ?_ _ | refine blk_drew ?_ | refine blk_alloc ?_ _)); refine blk_put (cs := #[.int .i64 ((rd_T84 l0 x21_1).f0), .int .i64 0, .string (⟨#[]⟩ : ByteArray)]) ?_ 1 _ rfl; (with_reducible repeat (first | refine blk_drewN ?_ _ | refine blk_drew ?_ | refine blk_alloc ?_ _)); refine blk_put (cs := #[.int .i64 0, .int .i64 0, .string (⟨#[]⟩ : ByteArray)]) ?_ 0 _ rfl; (with_reducible repeat (first | refine blk_drewN ?_ _ | refine blk_drew ?_ | refine blk_alloc ?_ _)); exact BK240.out) hb); have n3_ := mk_ (below_step (Short.hB HB) hb); clear HO_5 BK240 HB; revert n0_ n1_ n2_ n3_; intro HO_5 HO243 BK240 HB; (try clear hb ho0); obtain ⟨Ao16, co16, eo16⟩ := R_slice HO243.out; subst eo16) | ((with_reducible refine gate_builtin (b := .append) (xs := #[.tmp 30, .tmp 31]) rfl ?_); at_builtin; refine R_append_rows (Kd.int .u8) (w0 := w) w.heap.size rfl (.tmp 30) (.tmp 31) 22 5 (.int .u8 0) 1 rfl Try.underlying22 info5 rfl z5 z4 u5 x5_1 t241 _ _ _ (fun k_ => nb_ k_ (.slice Ao16 t241.length co16)) (fun _ => False) rfl rfl ?aO ?aR (fun _ _ h => h) (fun _ h => h.elim) ?aF ?aB ?aS ?aL ?_; (case aR => exact cX_ (R_reads' HO243.out).2.2); (case aB => exact (Short.hB HB)); (case aF => exact (fun k_ hk => Kd.fresh' (R_lt (ZKR HO243)) k_ hk)); (case aO => exact (rM_ HO_5 (fun _ hk => hk.2))); (case aS => exact (below_size (Short.hB HB))); (case aL => have := LMc11.out; omega); intro v246 w15 ho hb hg hat; rw [← Ny245.out] at ho; have n0_ := mk_ (blk_grown (g := gb240) (o := .cells #[.int .i64 ((rd_T84 l0 x21_1).f0), .int .i64 ((rd_T84 l0 x21_1).f1), .string ((rd_T84 l0 x21_1).f2)] 84 (0, 0)) (Short.bK BK240) hg (R_ne HO_5.out BK240.out z5)); have n1_ := mk_ (R_after (ok := (fun _ => True)) (ZKR HO243) hg hat); have n2_ := mk_ (hb); have n3_ := mk_ (ho); clear BK240 HO243 HB HO_5; revert n0_ n1_ n2_ n3_; intro BK240 HO243 HB HO247; clear ho hb hg hat))
   go_roundg k1
   case measure => have := HK1.out; omega
   case rel => exact ⟨(y245), (wrap64 (x21_1 + 1)), z3, H', ⟨by have := HK1.out; omega⟩, ⟨by (with_reducible repeat (first | apply R_alloc | apply R_drewN | apply R_drew)); exact R_mono HO247.out (fun _ hk => trivial)⟩, ⟨Short.hB HB⟩⟩
def wire_Put.f (k : Nat) (l0 : List Int) (a1 : Int) (a2 : Int) : Option (List Int × Int) := if a2 < 1 then (some (([] : List Int), 1)) else (if a2 > 7 then (some (([] : List Int), 1)) else (if a1 < 0 then (some (([] : List Int), 1)) else (if 0 ≤ (wrap64 (8 * a2)) then (if a1 ≥ (shl .i64 1 (wrap64 (8 * a2))) then (some (([] : List Int), 1)) else ((wire_big.f k l0 a1 a2).bind fun t248 => (some (t248, 0)))) else (none))))
theorem wire_Put.calls (k : Nat) (A0 : Option Addr) (c0 : Nat) (l0 : List Int) (a1 : Int) (a2 : Int) (r1 : List Int) (r2 : Int) (w : World) (hr0 : Kd.C (Kd.int .u8) w A0 l0.length l0) (hc0 : l0.length ≤ c0) (h : wire_Put.f k l0 a1 a2 = some (r1, r2)) :
  Calls Try.prog 98 #[.slice A0 l0.length c0, .int .i64 a1, .int .i64 a2] w fun e w' => ∃ v0_ : Value, e = .returned (.tuple #[v0_, .int .i64 r2]) ∧ Kd.R (Kd.int .u8) 5 w' w.heap.size (fun _ => True) v0_ r1 ∧ Below w.heap.size w w' := by
 have HR0 := mk_ hr0
 have HC0 := mk_ hc0
 clear hr0 hc0
 have HB := mk_ (Below.refl w.heap.size w)
 have H : (if a2 < 1 then (some (([] : List Int), 1)) else (if a2 > 7 then (some (([] : List Int), 1)) else (if a1 < 0 then (some (([] : List Int), 1)) else (if 0 ≤ (wrap64 (8 * a2)) then (if a1 ≥ (shl .i64 1 (wrap64 (8 * a2))) then (some (([] : List Int), 1)) else ((wire_big.f k l0 a1 a2).bind fun t248 => (some (t248, 0)))) else (none))))) = some (r1, r2) := h
 clear h
 by_cases c4 : a2 < 1
 ·
  rw [if_pos c4] at H
  have c4b0 : decide (a2 < 1) = true := decide_eq_true c4
  clear c4
  simp only [Option.some.injEq, Prod.mk.injEq] at H
  obtain ⟨rfl, rfl⟩ := H
  go_enter Try.func98, Try.ntmps98
  go_wp2
  go_ret2
  exact ⟨_, by first | rfl | (simp [errW_none, errW_some] <;> rfl) | (simp [*, errW_none, errW_some] <;> rfl), by first | exact R_nil _ _ _ _ _ | exact N_nil _ _ _ _ _ | exact V_nil _ _ _ _ _ | exact Q_nil _ _ _ _ _ | exact S_nil _ _ _ _ _, Short.hB HB⟩
 rw [if_neg c4] at H
 have c4b0 : decide (a2 < 1) = false := decide_eq_false c4
 clear c4
 by_cases c5 : a2 > 7
 ·
  rw [if_pos c5] at H
  have c5b0 : decide (7 < a2) = true := decide_eq_true c5
  clear c5
  simp only [Option.some.injEq, Prod.mk.injEq] at H
  obtain ⟨rfl, rfl⟩ := H
  go_enter Try.func98, Try.ntmps98
  go_wp2
  go_ret2
  exact ⟨_, by first | rfl | (simp [errW_none, errW_some] <;> rfl) | (simp [*, errW_none, errW_some] <;> rfl), by first | exact R_nil _ _ _ _ _ | exact N_nil _ _ _ _ _ | exact V_nil _ _ _ _ _ | exact Q_nil _ _ _ _ _ | exact S_nil _ _ _ _ _, Short.hB HB⟩
 rw [if_neg c5] at H
 have c5b0 : decide (7 < a2) = false := decide_eq_false c5
 clear c5
 by_cases c6 : a1 < 0
 ·
  rw [if_pos c6] at H
  have c6b0 : decide (a1 < 0) = true := decide_eq_true c6
  clear c6
  simp only [Option.some.injEq, Prod.mk.injEq] at H
  obtain ⟨rfl, rfl⟩ := H
  go_enter Try.func98, Try.ntmps98
  go_wp2
  go_ret2
  exact ⟨_, by first | rfl | (simp [errW_none, errW_some] <;> rfl) | (simp [*, errW_none, errW_some] <;> rfl), by first | exact R_nil _ _ _ _ _ | exact N_nil _ _ _ _ _ | exact V_nil _ _ _ _ _ | exact Q_nil _ _ _ _ _ | exact S_nil _ _ _ _ _, Short.hB HB⟩
 rw [if_neg c6] at H
 have c6b0 : decide (a1 < 0) = false := decide_eq_false c6
 clear c6
 obtain ⟨ji7, hji7⟩ : ∃ j_ : Int, (wrap64 (8 * a2)) = j_ := ⟨_, rfl⟩
 replace H : (if 0 ≤ (ji7) then (if a1 ≥ (shl .i64 1 (ji7)) then (some (([] : List Int), 1)) else ((wire_big.f k l0 a1 a2).bind fun t248 => (some (t248, 0)))) else (none)) = some (r1, r2) := by first | (rw [hji7] at H; exact H) | (simp only [hji7] at H ⊢; exact H)
 have hji7w : (IntKind.i64.wrap (8 * a2)) = ji7 := (i64_w _).trans hji7
 by_cases c8 : 0 ≤ (ji7)
 rotate_left
 ·
  rw [if_neg c8] at H
  exact absurd H (by simp)
 rw [if_pos c8] at H
 have c8b0 := eq_true c8
 have c8b1 : decide (0 ≤ (ji7)) = true := decide_eq_true c8
 clear c8
 obtain ⟨ji9, hji9⟩ : ∃ j_ : Int, (shl .i64 1 (ji7)) = j_ := ⟨_, rfl⟩
 replace H : (if a1 ≥ (ji9) then (some (([] : List Int), 1)) else ((wire_big.f k l0 a1 a2).bind fun t248 => (some (t248, 0)))) = some (r1, r2) := by first | (rw [hji9] at H; exact H) | (simp only [hji9] at H ⊢; exact H)
 have hji9_ : (IntKind.i64.wrap (1 * 2 ^ min (ji7).toNat 64)) = ji9 := hji9
 have hji9z : (ji7) ≤ 64 → (IntKind.i64.wrap (1 * 2 ^ (ji7).toNat)) = ji9 := shl_small hji9
 have hji9u : (IntKind.i64.wrap (2 ^ min (ji7).toNat 64)) = ji9 := by have h_ := hji9_; rw [Int.one_mul] at h_; exact h_
 have hji9v : (ji7) ≤ 64 → (IntKind.i64.wrap (2 ^ (ji7).toNat)) = ji9 := fun hle_ => by have h_ := hji9z hle_; rw [Int.one_mul] at h_; exact h_
 have hji9y : (wrap64 (1 * 2 ^ min (ji7).toNat 64)) = ji9 := (i64_w _).symm.trans hji9_
 have hji9x : (ji7) ≤ 64 → (wrap64 (1 * 2 ^ (ji7).toNat)) = ji9 := fun h_ => (i64_w _).symm.trans (hji9z h_)
 by_cases c10 : a1 ≥ (ji9)
 ·
  rw [if_pos c10] at H
  have c10b0 : decide ((ji9) ≤ a1) = true := decide_eq_true c10
  clear c10
  simp only [Option.some.injEq, Prod.mk.injEq] at H
  obtain ⟨rfl, rfl⟩ := H
  go_enter Try.func98, Try.ntmps98
  go_wp2
  go_ret2
  exact ⟨_, by first | rfl | (simp [errW_none, errW_some] <;> rfl) | (simp only [← hji7, ← hji9]; first | rfl | (simp [errW_none, errW_some] <;> rfl)) | (simp [*, errW_none, errW_some] <;> rfl), by first | exact R_nil _ _ _ _ _ | exact N_nil _ _ _ _ _ | exact V_nil _ _ _ _ _ | exact Q_nil _ _ _ _ _ | exact S_nil _ _ _ _ _, Short.hB HB⟩
 rw [if_neg c10] at H
 have c10b0 : decide ((ji9) ≤ a1) = false := decide_eq_false c10
 clear c10
 replace H := Option.bind_eq_some_iff.mp H
 obtain ⟨t248, A110, H⟩ := H
 replace H : (some (t248, 0)) = some (r1, r2) := H
 have A11 := mk_ A110
 clear A110
 simp only [Option.some.injEq, Prod.mk.injEq] at H
 obtain ⟨rfl, rfl⟩ := H
 go_enter Try.func98, Try.ntmps98
 go_wp2_with (first | ((with_reducible refine gate_callee (f := 108) rfl ?_); refine Short.gL (some 28) Try.func108 #[.slice A0 l0.length c0, .int .i64 a1, .int .i64 a2] (h := ?_); (with_reducible refine (wire_big.calls k _ _ l0 a1 a2 t248 _ ?side1 ?side2 A11.out).mono ?_); (case side1 => repeat (first | exact HR0.out | (with_reducible refine C_alloc ?_ _) | (with_reducible refine C_drewN ?_ _) | (with_reducible refine C_drew ?_))); (case side2 => exact HC0.out); rintro e w12 ⟨v249, rfl, ho0, hb⟩; refine ⟨_, rfl, ?_⟩; have n0_ := mk_ (R_lower ho0 (below_size (Short.hB HB))); have n1_ := mk_ (below_step (Short.hB HB) hb); clear HB; revert n0_ n1_; intro HO250 HB; (try clear hb ho0)))
 go_ret2
 exact ⟨_, by first | rfl | (simp [errW_none, errW_some] <;> rfl) | (simp only [← hji7, ← hji9]; first | rfl | (simp [errW_none, errW_some] <;> rfl)) | (simp [*, errW_none, errW_some] <;> rfl), by (with_reducible repeat (first | apply R_alloc | apply R_drewN | apply R_drew)); exact HO250.out, Short.hB HB⟩
def op_Forms_1.f (l0_0 : List Int) : Option (Bool) := if (l0_0.length : Int) < 1 then (some true) else (some (decide ((l0_0.length : Int) > 4)))
theorem op_Forms_1.calls (A0_0 : Option Addr) (c0_0 : Nat) (l0_0 : List Int) (r : Bool) (w : World) (hr0_0 : Kd.C (Kd.int .i64) w A0_0 l0_0.length l0_0) (hc0_0 : l0_0.length ≤ c0_0) (h : op_Forms_1.f l0_0 = some r) :
  Calls Try.prog 49 #[.agg #[.slice A0_0 l0_0.length c0_0]] w fun e w' => e = .returned (.bool r) ∧ Below w.heap.size w w' := by
 have hu51 := Try.underlying51
 have HR0_0 := mk_ hr0_0
 have HC0_0 := mk_ hc0_0
 clear hr0_0 hc0_0
 have HB := mk_ (Below.refl w.heap.size w)
 have H : (if (l0_0.length : Int) < 1 then (some true) else (some (decide ((l0_0.length : Int) > 4)))) = some r := h
 clear h
 by_cases c2 : (l0_0.length : Int) < 1
 ·
  rw [if_pos c2] at H
  have c2b0 : decide ((l0_0.length : Int) < 1) = true := decide_eq_true c2
  have c2b1 : decide (l0_0.length < 1) = true := decide_eq_true z4
  clear c2
  obtain rfl := Option.some.inj H
  go_enter Try.func49, Try.ntmps49
  go_wp2_with (first | ((with_reducible refine gate_dst (N := 1) rfl ?_); (try (refine gate_guard (by rfl) ?_; dsimp only)); refine box_event ?hg (N := 1) ?hd (cs := #[.slice A0_0 l0_0.length c0_0]) (t := 51) ?hr ?_; (case hd => rfl); (case hg => rfl); (case hr => first | (go_simp; done) | (go_simp; rfl)); intro gb262 hg w3 hbox hb; have n0_ := mk_ (below_step (Short.hB HB) hb); have n1_ := mk_ (hbox); have n2_ := mk_ ((by rw [hg]; exact (below_size (Short.hB HB)) : w.heap.size ≤ gb262)); have n3_ := mk_ ((by rw [hg]; exact (below_size (Short.hB HB)) : w.heap.size ≤ gb262)); clear HB; revert n0_ n1_ n2_ n3_; intro HB BK262 GW262 GE262; clear hb hbox hg; obtain ⟨hcz4_0, hfz4_0⟩ := Short.c1 BK262.out))
  go_ret
  exact ⟨q0, Short.hB HB⟩
 rw [if_neg c2] at H
 have c2b0 : decide ((l0_0.length : Int) < 1) = false := decide_eq_false c2
 have c2b1 : decide (l0_0.length < 1) = false := decide_eq_false z4
 clear c2
 obtain rfl := Option.some.inj H
 go_enter Try.func49, Try.ntmps49
 go_wp2_with (first | ((with_reducible refine gate_dst (N := 1) rfl ?_); (try (refine gate_guard (by rfl) ?_; dsimp only)); refine box_event ?hg (N := 1) ?hd (cs := #[.slice A0_0 l0_0.length c0_0]) (t := 51) ?hr ?_; (case hd => rfl); (case hg => rfl); (case hr => first | (go_simp; done) | (go_simp; rfl)); intro gb262 hg w5 hbox hb; have n0_ := mk_ (below_step (Short.hB HB) hb); have n1_ := mk_ (hbox); have n2_ := mk_ ((by rw [hg]; exact (below_size (Short.hB HB)) : w.heap.size ≤ gb262)); have n3_ := mk_ ((by rw [hg]; exact (below_size (Short.hB HB)) : w.heap.size ≤ gb262)); clear HB; revert n0_ n1_ n2_ n3_; intro HB BK262 GW262 GE262; clear hb hbox hg; obtain ⟨hcz6_0, hfz6_0⟩ := Short.c1 BK262.out))
 go_ret
 exact ⟨q0, Short.hB HB⟩
def op_Forms_2.f (a0 : Int) : Option (Bool) := if a0 < 2 then (some true) else (some (decide (a0 > 4)))
theorem op_Forms_2.calls (a0 : Int) (r : Bool) (w : World) (h : op_Forms_2.f a0 = some r) :
  Calls Try.prog 51 #[.int .i64 a0] w fun e w' => e = .returned (.bool r) ∧ Drawn0 w w' := by
 have H : (if a0 < 2 then (some true) else (some (decide (a0 > 4)))) = some r := h
 clear h
 by_cases c2 : a0 < 2
 ·
  rw [if_pos c2] at H
  have c2b0 : decide (a0 < 2) = true := decide_eq_true c2
  clear c2
  obtain rfl := Option.some.inj H
  go_enter Try.func51, Try.ntmps51
  go_wp2
  go_ret
  exact ⟨z3, by repeat (first | exact Drawn0.refl _ | apply Drawn0.step)⟩
 rw [if_neg c2] at H
 have c2b0 : decide (a0 < 2) = false := decide_eq_false c2
 clear c2
 obtain rfl := Option.some.inj H
 go_enter Try.func51, Try.ntmps51
 go_wp2
 go_ret
 exact ⟨z3, by repeat (first | exact Drawn0.refl _ | apply Drawn0.step)⟩
def slices_IndexFunc_at_op_Forms_1.l0 : Nat → List (S51) → Int → Int → Option (Int)
 | 0, _, _, _ => none
 | k + 1, x0, x7, x8 => if x8 < x7 then (if 0 ≤ x8 then (if x8 < (x0.length : Int) then ((op_Forms_1.f ((rd_T51 x0 x8).f0)).bind fun t264 => (if t264 = true then (some x8) else (slices_IndexFunc_at_op_Forms_1.l0 k x0 x7 (wrap64 (x8 + 1))))) else (none)) else (none)) else (some (-1))
def slices_IndexFunc_at_op_Forms_1.f (k : Nat) (l0 : List (S51)) (a1 : Unit) : Option (Int) := slices_IndexFunc_at_op_Forms_1.l0 k l0 (l0.length : Int) 0
theorem slices_IndexFunc_at_op_Forms_1.calls (k : Nat) (A0 : Option Addr) (c0 : Nat) (l0 : List (S51)) (a1 : Unit) (r : Int) (w : World) (hr0 : Kd.C k51 w A0 l0.length l0) (hc0 : l0.length ≤ c0) (h : slices_IndexFunc_at_op_Forms_1.f k l0 a1 = some r) :
  Calls Try.prog 90 #[.slice A0 l0.length c0, .func (.func 49) #[] #[]] w fun e w' => e = .returned (.int .i64 r) ∧ Below w.heap.size w w' := by
 have hu51 := Try.underlying51
 have HR0 := mk_ hr0
 have HC0 := mk_ hc0
 clear hr0 hc0
 have HB := mk_ (Below.refl w.heap.size w)
 have H : (slices_IndexFunc_at_op_Forms_1.l0 k l0 (l0.length : Int) 0) = some r := h
 clear h
 have H' := mk_ H
 clear H
 go_enter Try.func90, Try.ntmps90
 go_wp2
 go_loopg [8] k (fun kq v8 w' => ∃ (x8_1 : Int), v8 = .int .i64 x8_1 ∧ Aside0 (slices_IndexFunc_at_op_Forms_1.l0 kq l0 (l0.length : Int) x8_1 = some r) ∧ Aside0 (kq ≤ k) ∧ Aside0 (Below w.heap.size w w'))
 case atStart => exact ⟨(0), z3, H', ⟨Nat.le_refl _⟩, ⟨Short.hB HB⟩⟩
 case round =>
  clear H'
  try clear p2
  obtain ⟨x8_1, rfl, HA, HK1, HB⟩ := hrel
  cases gk with
  | zero => exact absurd HA.out (by simp [slices_IndexFunc_at_op_Forms_1.l0])
  | succ k1 =>
   have H := HA.out
   clear HA
   simp only [slices_IndexFunc_at_op_Forms_1.l0] at H
   by_cases c3 : x8_1 < (l0.length : Int)
   rotate_left
   ·
    rw [if_neg c3] at H
    have c3b0 : decide (x8_1 < (l0.length : Int)) = false := decide_eq_false c3
    clear c3
    obtain rfl := Option.some.inj H
    go_wp2
    go_ret
    exact ⟨q0, Short.hB HB⟩
   rw [if_pos c3] at H
   have c3b0 : decide (x8_1 < (l0.length : Int)) = true := decide_eq_true c3
   clear c3
   by_cases c4 : 0 ≤ x8_1
   rotate_left
   ·
    rw [if_neg c4] at H
    exact absurd H (by simp)
   rw [if_pos c4] at H
   have c4b0 : decide (0 ≤ x8_1) = true := decide_eq_true c4
   clear c4
   by_cases c5 : x8_1 < (l0.length : Int)
   rotate_left
   ·
    rw [if_neg c5] at H
    exact absurd H (by simp)
   rw [if_pos c5] at H
   have c5b0 : decide (x8_1 < (l0.length : Int)) = true := decide_eq_true c5
   clear c5
   replace H := Option.bind_eq_some_iff.mp H
   obtain ⟨t264, A60, H⟩ := H
   replace H : (if t264 = true then (some x8_1) else (slices_IndexFunc_at_op_Forms_1.l0 k1 l0 (l0.length : Int) (wrap64 (x8_1 + 1)))) = some r := H
   have A6 := mk_ A60
   clear A60
   by_cases c7 : t264 = true
   ·
    subst c7
    have H1 : (some x8_1) = some r := by rw [if_pos rfl] at H; exact H
    clear H
    have H := H1
    clear H1
    obtain rfl := Option.some.inj H
    have p263 : 0 ≤ (x8_1 : Int) := of_decide_eq_true z0
    have q263 : x8_1 < (l0.length : Int) := of_decide_eq_true z0
    obtain ⟨ad263, A263_0, c263_0, e263, hx263_0, hl263_0, hi263_0⟩ := at_T51 HR0.out x8_1 p263 q263
    cases e263
    replace hx263_0 := up_ HB hx263_0
    have HR263_0 := mk_ hi263_0
    have HC263_0 := mk_ hl263_0
    clear hi263_0 hl263_0
    replace p263 := eq_true p263
    replace q263 := eq_true q263
    go_wp2_with (first | ((first | ((with_reducible refine gate_callee (f := 49) rfl ?_); refine Short.gL (some 16) Try.func49 #[.agg #[.slice A263_0 ((rd_T51 l0 x8_1).f0).length c263_0]] (h := ?_)) | ((with_reducible refine Go.Proofs.Ytjnjfogfpmeacaa.Steps.gate_any rfl ?_); refine Go.Proofs.Ytjnjfogfpmeacaa.Steps.goesV_ (some 16) rfl rfl Try.func49 z1 rfl #[.agg #[.slice A263_0 ((rd_T51 l0 x8_1).f0).length c263_0]] rfl (by first | rfl | go_simp) z2 ?_)); (with_reducible refine (op_Forms_1.calls _ _ ((rd_T51 l0 x8_1).f0) true _ ?side1 ?side2 A6.out).mono ?_); (case side1 => exact cX_ (C_below HR263_0.out HB.out)); (case side2 => exact HC263_0.out); rintro e w8 ⟨rfl, hb⟩; refine ⟨_, rfl, ?_⟩; have n0_ := mk_ (below_step (Short.hB HB) hb); clear HB; revert n0_; intro HB; (try clear hb)))
    go_ret
    exact ⟨q0, Short.hB HB⟩
   replace c7 := Bool.eq_false_iff.mpr c7
   subst c7
   have H1 : (slices_IndexFunc_at_op_Forms_1.l0 k1 l0 (l0.length : Int) (wrap64 (x8_1 + 1))) = some r := by rw [if_neg (show ¬ (false = true) by decide)] at H; exact H
   clear H
   have H := H1
   clear H1
   have H' := mk_ H
   clear H
   have p263 : 0 ≤ (x8_1 : Int) := of_decide_eq_true z0
   have q263 : x8_1 < (l0.length : Int) := of_decide_eq_true z0
   obtain ⟨ad263, A263_0, c263_0, e263, hx263_0, hl263_0, hi263_0⟩ := at_T51 HR0.out x8_1 p263 q263
   cases e263
   replace hx263_0 := up_ HB hx263_0
   have HR263_0 := mk_ hi263_0
   have HC263_0 := mk_ hl263_0
   clear hi263_0 hl263_0
   replace p263 := eq_true p263
   replace q263 := eq_true q263
   go_wp2_with (first | ((first | ((with_reducible refine gate_callee (f := 49) rfl ?_); refine Short.gL (some 16) Try.func49 #[.agg #[.slice A263_0 ((rd_T51 l0 x8_1).f0).length c263_0]] (h := ?_)) | ((with_reducible refine Go.Proofs.Ytjnjfogfpmeacaa.Steps.gate_any rfl ?_); refine Go.Proofs.Ytjnjfogfpmeacaa.Steps.goesV_ (some 16) rfl rfl Try.func49 z1 rfl #[.agg #[.slice A263_0 ((rd_T51 l0 x8_1).f0).length c263_0]] rfl (by first | rfl | go_simp) z2 ?_)); (with_reducible refine (op_Forms_1.calls _ _ ((rd_T51 l0 x8_1).f0) false _ ?side1 ?side2 A6.out).mono ?_); (case side1 => exact cX_ (C_below HR263_0.out HB.out)); (case side2 => exact HC263_0.out); rintro e w9 ⟨rfl, hb⟩; refine ⟨_, rfl, ?_⟩; have n0_ := mk_ (below_step (Short.hB HB) hb); clear HB; revert n0_; intro HB; (try clear hb)))
   go_roundg k1
   case measure => have := HK1.out; omega
   case rel => exact ⟨(wrap64 (x8_1 + 1)), z3, H', ⟨by have := HK1.out; omega⟩, ⟨Short.hB HB⟩⟩
end Go.Proofs.Ytjnjfogfpmeacaa.PAll
end
