-- Put together by a program of this session (wip/slice2.py) out of the seat's texts.
import Derived.Test.YtjnjfogfpmeacaaZOUp0

set_option maxHeartbeats 8000000
set_option maxRecDepth 100000
open Go.Proofs.YtjnjfogfpmeacaaW Go.Proofs.Ytjnjfogfpmeacaa
section
namespace Go.Proofs.Ytjnjfogfpmeacaa.PAll
open Go.RowKit PrintWords PrintLast PrintMore ZipT PrintWords.Kd PrintMore.Kd
attribute [local go_sem] max2_int min2_int max_two min_two max_three min_three max_four min_four   -- for this text's walks alone
set_option linter.unusedVariables false
set_option linter.unusedSimpArgs false
def raddlekeep_Dots.l0 : Nat → List (S25) → List (S25) → Int → Option (Bool)
 | 0, _, _, _ => none
 | k + 1, x0, x1, x5 => if x5 < (x0.length : Int) then (if 0 ≤ x5 then (if x5 < (x1.length : Int) then ((raddlekeep_Dot.f ((rd_T25 x0 x5).f0) ((rd_T25 x0 x5).f1) ((rd_T25 x1 x5).f0) ((rd_T25 x1 x5).f1)).bind fun t166 => (if t166 = true then (raddlekeep_Dots.l0 k x0 x1 (wrap64 (x5 + 1))) else (some false))) else (none)) else (none)) else (some true)
def raddlekeep_Dots.f (k : Nat) (l0 : List (S25)) (l1 : List (S25)) : Option (Bool) := if (l0.length : Int) = (l1.length : Int) then (raddlekeep_Dots.l0 k l0 l1 0) else (some false)
def raddlekeep_Dots.T6 : Bool × List (List Nat × List Nat) := (true, [([], []), ([], []), ([0, 1], [0, 1]), ([2], [2]), ([], []), ([], []), ([4, 5], [4, 5]), ([6], [6]), ([3, 7], [3, 7]), ([8], [8])])
def raddlekeep_Dots.B6 : List Nat := [0, 0, 3, 7, 0, 0, 48, 112, 255, 511]
theorem raddlekeep_Dots.tab6 : rtab .any (opsOf Try.f33 6) = raddlekeep_Dots.T6 := by kernel_rfl
theorem raddlekeep_Dots.bits6 : waitsOk raddlekeep_Dots.T6.2 raddlekeep_Dots.B6 = true := by kernel_rfl
theorem raddlekeep_Dots.calls (k : Nat) (A0 : Option Addr) (c0 : Nat) (l0 : List (S25)) (A1 : Option Addr) (c1 : Nat) (l1 : List (S25)) (r : Bool) (w : World) (hr0 : Kd.C k25 w A0 l0.length l0) (hc0 : l0.length ≤ c0) (hr1 : Kd.C k25 w A1 l1.length l1) (hc1 : l1.length ≤ c1) (h : raddlekeep_Dots.f k l0 l1 = some r) :
  Calls Try.prog 33 #[.slice A0 l0.length c0, .slice A1 l1.length c1] w fun e w' => e = .returned (.bool r) ∧ Below w.heap.size w w' := by
 have hu25 := Try.underlying25
 have HR0 := mk_ hr0
 have HC0 := mk_ hc0
 clear hr0 hc0
 have HR1 := mk_ hr1
 have HC1 := mk_ hc1
 clear hr1 hc1
 have HB := mk_ (Below.refl w.heap.size w)
 have H : (if (l0.length : Int) = (l1.length : Int) then (raddlekeep_Dots.l0 k l0 l1 0) else (some false)) = some r := h
 clear h
 by_cases c3 : (l0.length : Int) = (l1.length : Int)
 rotate_left
 ·
  rw [if_neg c3] at H
  have c3b0 : ((l0.length : Int) == (l1.length : Int)) = false := beq_eq_false_iff_ne.mpr c3
  have c3b1 : ((l0.length : Int) != (l1.length : Int)) = true := bne_iff_ne.mpr c3
  have c3b2 : (l0.length == l1.length) = false := by first | simpa using c3 | (simp at c3 ⊢; omega)
  obtain rfl := Option.some.inj H
  go_enter Try.func33, Try.ntmps33
  go_wp2
  go_ret
  exact ⟨q0, Short.hB HB⟩
 rw [if_pos c3] at H
 have c3b0 : ((l0.length : Int) == (l1.length : Int)) = true := beq_iff_eq.mpr c3
 have c3b1 : ((l0.length : Int) != (l1.length : Int)) = false := bne_eq_false_iff_eq.mpr c3
 have c3b2 : (l0.length == l1.length) = true := by first | simpa using c3 | (simp at c3 ⊢; omega)
 clear c3
 have H' := mk_ H
 clear H
 go_enter Try.func33, Try.ntmps33
 go_wp2
 go_loopg [5] k (fun kq v5 w' => ∃ (x5_1 : Int), v5 = .int .i64 x5_1 ∧ Aside0 (raddlekeep_Dots.l0 kq l0 l1 x5_1 = some r) ∧ Aside0 (kq ≤ k) ∧ Aside0 (Below w.heap.size w w'))
 case atStart => exact ⟨(0), z3_, H', ⟨Nat.le_refl _⟩, ⟨Short.hB HB⟩⟩
 case round =>
  clear H'
  try clear c1
  try clear p2
  try clear c3
  try clear c3b0
  try clear c3b1
  try clear c3b2
  obtain ⟨x5_1, rfl, HA, HK1, HB⟩ := hrel
  cases gk with
  | zero => exact absurd HA.out (by simp [raddlekeep_Dots.l0])
  | succ k1 =>
   have H := HA.out
   clear HA
   simp only [raddlekeep_Dots.l0] at H
   by_cases c4 : x5_1 < (l0.length : Int)
   rotate_left
   ·
    rw [if_neg c4] at H
    have c4b0 : decide (x5_1 < (l0.length : Int)) = false := decide_eq_false c4
    clear c4
    obtain rfl := Option.some.inj H
    go_wp2
    go_ret
    exact ⟨q0, Short.hB HB⟩
   rw [if_pos c4] at H
   have c4b0 : decide (x5_1 < (l0.length : Int)) = true := decide_eq_true c4
   clear c4
   by_cases c5 : 0 ≤ x5_1
   rotate_left
   ·
    rw [if_neg c5] at H
    exact absurd H (by simp)
   rw [if_pos c5] at H
   have c5b0 : decide (0 ≤ x5_1) = true := decide_eq_true c5
   clear c5
   by_cases c6 : x5_1 < (l1.length : Int)
   rotate_left
   ·
    rw [if_neg c6] at H
    exact absurd H (by simp)
   rw [if_pos c6] at H
   have c6b0 : decide (x5_1 < (l1.length : Int)) = true := decide_eq_true c6
   clear c6
   replace H := Option.bind_eq_some_iff.mp H
   obtain ⟨t166, A70, H⟩ := H
   replace H : (if t166 = true then (raddlekeep_Dots.l0 k1 l0 l1 (wrap64 (x5_1 + 1))) else (some false)) = some r := H
   have A7 := mk_ A70
   clear A70
   by_cases c8 : t166 = true
   rotate_left
   ·
    replace c8 := Bool.eq_false_iff.mpr c8
    subst c8
    rw [if_neg (show ¬ (false = true) by decide)] at H
    obtain rfl := Option.some.inj H
    try go_wp2
    have n0_ := mk_ (below_drew1 HB.out)
    clear HB
    revert n0_
    intro HB
    have p164 : 0 ≤ (x5_1 : Int) := of_decide_eq_true z1_
    have q164 : x5_1 < (l0.length : Int) := of_decide_eq_true z1_
    obtain ⟨ad164, e164, hx164_0, hx164_1⟩ := at_T25 HR0.out x5_1 p164 q164
    have hw164_1 := hx164_1
    have hw164_0 := hx164_0
    cases e164
    replace hx164_0 := up_ HB hx164_0
    replace hx164_1 := up_ HB hx164_1
    replace p164 := eq_true p164
    replace q164 := eq_true q164
    have p165 : 0 ≤ (x5_1 : Int) := of_decide_eq_true z1_
    have q165 : x5_1 < (l1.length : Int) := of_decide_eq_true z1_
    obtain ⟨ad165, e165, hx165_0, hx165_1⟩ := at_T25 HR1.out x5_1 p165 q165
    have hw165_1 := hx165_1
    have hw165_0 := hx165_0
    cases e165
    replace hx165_0 := up_ HB hx165_0
    replace hx165_1 := up_ HB hx165_1
    replace p165 := eq_true p165
    replace q165 := eq_true q165
    refine start_ (n := 10) (S := fun w' => w'.cell? (ad164.add ((x5_1).toNat * 2)) = some (.int .i64 ((rd_T25 l0 x5_1).f0)) ∧ w'.cell? ⟨(ad164.add ((x5_1).toNat * 2)).block, (ad164.add ((x5_1).toNat * 2)).off + 1, none⟩ = some (.int .i64 ((rd_T25 l0 x5_1).f1)) ∧ w'.cell? (ad165.add ((x5_1).toNat * 2)) = some (.int .i64 ((rd_T25 l1 x5_1).f0)) ∧ w'.cell? ⟨(ad165.add ((x5_1).toNat * 2)).block, (ad165.add ((x5_1).toNat * 2)).off + 1, none⟩ = some (.int .i64 ((rd_T25 l1 x5_1).f1))) (ds := []) (Steps.Bs 10 0) z0_ rfl rfl ⟨((HB.out.cell (World.block_lt_of_cell? w _ hw164_0)).trans hw164_0), ((HB.out.cell (World.block_lt_of_cell? w _ hw164_1)).trans hw164_1), ((HB.out.cell (World.block_lt_of_cell? w _ hw165_0)).trans hw165_0), ((HB.out.cell (World.block_lt_of_cell? w _ hw165_1)).trans hw165_1)⟩ (fun hHeld => ?_); refine with_tabW raddlekeep_Dots.tab6 raddlekeep_Dots.bits6 (fun HT_ HW_ => ?_)
    generalize wr.drew = w11 at HB hx164_0 hx164_1 hx165_0 hx165_1 hHeld ⊢
    refine tI HT_ 0 17 10 1 ?_
    refine tI HT_ 1 18 10 3 ?_
    refine tI HT_ 2 19 10 7 ?_
    refine tI HT_ 4 21 10 23 ?_
    refine tI HT_ 5 22 10 55 ?_
    refine tI HT_ 6 23 10 119 ?_
    refine tT HT_ HW_ hHeld 3 20 10 127 ?_
    refine tT HT_ HW_ hHeld 7 24 10 255 ?_
    refine one_ (i := 8) (N := some 25) (Steps.Bs 10 511) rfl rfl (one_of HT_.out z0_) z5_ (fun K hK => ?_)
    refine goes_ Try.func29 z0_ rfl #[.agg #[.int .i64 ((rd_T25 l0 x5_1).f0), .int .i64 ((rd_T25 l0 x5_1).f1)], .agg #[.int .i64 ((rd_T25 l1 x5_1).f0), .int .i64 ((rd_T25 l1 x5_1).f1)]] (by rfl) rfl rfl z2_ ?_
    with_reducible refine (raddlekeep_Dot.calls ((rd_T25 l0 x5_1).f0) ((rd_T25 l0 x5_1).f1) ((rd_T25 l1 x5_1).f0) ((rd_T25 l1 x5_1).f1) false _ A7.out).mono ?_
    rintro e w12 ⟨rfl, hb⟩
    refine ⟨_, rfl, ?_⟩
    have n0_ := mk_ (below_step (Short.hB HB) hb)
    clear HB
    revert n0_
    intro HB
    (try clear hb)
    (try clear hb2)
    (try clear hk)
    (try clear hi)
    refine hK.out _ _ ⟨((HB.out.cell (World.block_lt_of_cell? w _ hw164_0)).trans hw164_0), ((HB.out.cell (World.block_lt_of_cell? w _ hw164_1)).trans hw164_1), ((HB.out.cell (World.block_lt_of_cell? w _ hw165_0)).trans hw165_0), ((HB.out.cell (World.block_lt_of_cell? w _ hw165_1)).trans hw165_1)⟩ (fun hHeld => ?_)
    clear hK K
    refine nrm 25 ?_
    refine tI HT_ 9 26 10 1023 ?_
    refine done_ (done_of HT_.out z0_) ?_
    try go_wp2
    go_ret
    exact ⟨q0, Short.hB HB⟩
   subst c8
   rw [if_pos rfl] at H
   have H' := mk_ H
   clear H
   try go_wp2
   have n0_ := mk_ (below_drew1 HB.out)
   clear HB
   revert n0_
   intro HB
   have p164 : 0 ≤ (x5_1 : Int) := of_decide_eq_true z1_
   have q164 : x5_1 < (l0.length : Int) := of_decide_eq_true z1_
   obtain ⟨ad164, e164, hx164_0, hx164_1⟩ := at_T25 HR0.out x5_1 p164 q164
   have hw164_1 := hx164_1
   have hw164_0 := hx164_0
   cases e164
   replace hx164_0 := up_ HB hx164_0
   replace hx164_1 := up_ HB hx164_1
   replace p164 := eq_true p164
   replace q164 := eq_true q164
   have p165 : 0 ≤ (x5_1 : Int) := of_decide_eq_true z1_
   have q165 : x5_1 < (l1.length : Int) := of_decide_eq_true z1_
   obtain ⟨ad165, e165, hx165_0, hx165_1⟩ := at_T25 HR1.out x5_1 p165 q165
   have hw165_1 := hx165_1
   have hw165_0 := hx165_0
   cases e165
   replace hx165_0 := up_ HB hx165_0
   replace hx165_1 := up_ HB hx165_1
   replace p165 := eq_true p165
   replace q165 := eq_true q165
   refine start_ (n := 10) (S := fun w' => w'.cell? (ad164.add ((x5_1).toNat * 2)) = some (.int .i64 ((rd_T25 l0 x5_1).f0)) ∧ w'.cell? ⟨(ad164.add ((x5_1).toNat * 2)).block, (ad164.add ((x5_1).toNat * 2)).off + 1, none⟩ = some (.int .i64 ((rd_T25 l0 x5_1).f1)) ∧ w'.cell? (ad165.add ((x5_1).toNat * 2)) = some (.int .i64 ((rd_T25 l1 x5_1).f0)) ∧ w'.cell? ⟨(ad165.add ((x5_1).toNat * 2)).block, (ad165.add ((x5_1).toNat * 2)).off + 1, none⟩ = some (.int .i64 ((rd_T25 l1 x5_1).f1))) (ds := []) (Steps.Bs 10 0) z0_ rfl rfl ⟨((HB.out.cell (World.block_lt_of_cell? w _ hw164_0)).trans hw164_0), ((HB.out.cell (World.block_lt_of_cell? w _ hw164_1)).trans hw164_1), ((HB.out.cell (World.block_lt_of_cell? w _ hw165_0)).trans hw165_0), ((HB.out.cell (World.block_lt_of_cell? w _ hw165_1)).trans hw165_1)⟩ (fun hHeld => ?_); refine with_tabW raddlekeep_Dots.tab6 raddlekeep_Dots.bits6 (fun HT_ HW_ => ?_)
   generalize wr.drew = w9 at HB hx164_0 hx164_1 hx165_0 hx165_1 hHeld ⊢
   refine tI HT_ 0 17 10 1 ?_
   refine tI HT_ 1 18 10 3 ?_
   refine tI HT_ 2 19 10 7 ?_
   refine tI HT_ 4 21 10 23 ?_
   refine tI HT_ 5 22 10 55 ?_
   refine tI HT_ 6 23 10 119 ?_
   refine tT HT_ HW_ hHeld 3 20 10 127 ?_
   refine tT HT_ HW_ hHeld 7 24 10 255 ?_
   refine one_ (i := 8) (N := some 25) (Steps.Bs 10 511) rfl rfl (one_of HT_.out z0_) z5_ (fun K hK => ?_)
   refine goes_ Try.func29 z0_ rfl #[.agg #[.int .i64 ((rd_T25 l0 x5_1).f0), .int .i64 ((rd_T25 l0 x5_1).f1)], .agg #[.int .i64 ((rd_T25 l1 x5_1).f0), .int .i64 ((rd_T25 l1 x5_1).f1)]] (by rfl) rfl rfl z2_ ?_
   with_reducible refine (raddlekeep_Dot.calls ((rd_T25 l0 x5_1).f0) ((rd_T25 l0 x5_1).f1) ((rd_T25 l1 x5_1).f0) ((rd_T25 l1 x5_1).f1) true _ A7.out).mono ?_
   rintro e w10 ⟨rfl, hb⟩
   refine ⟨_, rfl, ?_⟩
   have n0_ := mk_ (below_step (Short.hB HB) hb)
   clear HB
   revert n0_
   intro HB
   (try clear hb)
   (try clear hb2)
   (try clear hk)
   (try clear hi)
   refine hK.out _ _ ⟨((HB.out.cell (World.block_lt_of_cell? w _ hw164_0)).trans hw164_0), ((HB.out.cell (World.block_lt_of_cell? w _ hw164_1)).trans hw164_1), ((HB.out.cell (World.block_lt_of_cell? w _ hw165_0)).trans hw165_0), ((HB.out.cell (World.block_lt_of_cell? w _ hw165_1)).trans hw165_1)⟩ (fun hHeld => ?_)
   clear hK K
   refine nrm 25 ?_
   refine tI HT_ 9 26 10 1023 ?_
   refine done_ (done_of HT_.out z0_) ?_
   try go_wp2
   go_roundg k1
   case measure => have := HK1.out; omega
   case rel => exact ⟨(wrap64 (x5_1 + 1)), z3_, H', ⟨by have := HK1.out; omega⟩, ⟨Short.hB HB⟩⟩
def raddlekeep_Op.f (k : Nat) (a0_0 : Int) (a0_1 : Int) (l0_2 : List Int) (a0_3 : Int) (a0_4 : Int) (a0_5 : Int) (a0_6 : Int) (a0_7 : Int) (a0_8 : ByteArray) (a0_9 : Int) (l0_10 : List (S84)) (l0_11 : List (S25)) (a1_0 : Int) (a1_1 : Int) (l1_2 : List Int) (a1_3 : Int) (a1_4 : Int) (a1_5 : Int) (a1_6 : Int) (a1_7 : Int) (a1_8 : ByteArray) (a1_9 : Int) (l1_10 : List (S84)) (l1_11 : List (S25)) : Option (Bool) := (raddlekeep_Dot.f a0_0 a0_1 a1_0 a1_1).bind fun t169 => (if t169 = true then ((raddlekeep_Ints.f k l0_2 l1_2).bind fun t170 => (if t170 = true then ((raddlekeep_Stamp.f a0_3 a0_4 a0_5 a1_3 a1_4 a1_5).bind fun t171 => (if t171 = true then (if a0_6 = a1_6 then (if a0_7 = a1_7 then (if a0_8.toList = a1_8.toList then (if a0_9 = a1_9 then ((raddlekeep_Row.f k l0_10 l1_10).bind fun t172 => (if t172 = true then ((raddlekeep_Dots.f k l0_11 l1_11).bind fun t173 => (some t173)) else (some false))) else (some false)) else (some false)) else (some false)) else (some false)) else (some false))) else (some false))) else (some false))
theorem raddlekeep_Op.calls (k : Nat) (a0_0 : Int) (a0_1 : Int) (A0_2 : Option Addr) (c0_2 : Nat) (l0_2 : List Int) (a0_3 : Int) (a0_4 : Int) (a0_5 : Int) (a0_6 : Int) (a0_7 : Int) (a0_8 : ByteArray) (a0_9 : Int) (A0_10 : Option Addr) (c0_10 : Nat) (l0_10 : List (S84)) (A0_11 : Option Addr) (c0_11 : Nat) (l0_11 : List (S25)) (a1_0 : Int) (a1_1 : Int) (A1_2 : Option Addr) (c1_2 : Nat) (l1_2 : List Int) (a1_3 : Int) (a1_4 : Int) (a1_5 : Int) (a1_6 : Int) (a1_7 : Int) (a1_8 : ByteArray) (a1_9 : Int) (A1_10 : Option Addr) (c1_10 : Nat) (l1_10 : List (S84)) (A1_11 : Option Addr) (c1_11 : Nat) (l1_11 : List (S25)) (r : Bool) (w : World) (hr0_2 : Kd.C (Kd.int .i64) w A0_2 l0_2.length l0_2) (hc0_2 : l0_2.length ≤ c0_2) (hr0_10 : Kd.C k84 w A0_10 l0_10.length l0_10) (hc0_10 : l0_10.length ≤ c0_10) (hr0_11 : Kd.C k25 w A0_11 l0_11.length l0_11) (hc0_11 : l0_11.length ≤ c0_11) (hr1_2 : Kd.C (Kd.int .i64) w A1_2 l1_2.length l1_2) (hc1_2 : l1_2.length ≤ c1_2) (hr1_10 : Kd.C k84 w A1_10 l1_10.length l1_10) (hc1_10 : l1_10.length ≤ c1_10) (hr1_11 : Kd.C k25 w A1_11 l1_11.length l1_11) (hc1_11 : l1_11.length ≤ c1_11) (h : raddlekeep_Op.f k a0_0 a0_1 l0_2 a0_3 a0_4 a0_5 a0_6 a0_7 a0_8 a0_9 l0_10 l0_11 a1_0 a1_1 l1_2 a1_3 a1_4 a1_5 a1_6 a1_7 a1_8 a1_9 l1_10 l1_11 = some r) :
  Calls Try.prog 13 #[.agg #[.int .i64 a0_0, .int .i64 a0_1, .slice A0_2 l0_2.length c0_2, .int .i64 a0_3, .int .i64 a0_4, .int .i64 a0_5, .int .i64 a0_6, .int .i64 a0_7, .string a0_8, .int .i64 a0_9, .slice A0_10 l0_10.length c0_10, .slice A0_11 l0_11.length c0_11], .agg #[.int .i64 a1_0, .int .i64 a1_1, .slice A1_2 l1_2.length c1_2, .int .i64 a1_3, .int .i64 a1_4, .int .i64 a1_5, .int .i64 a1_6, .int .i64 a1_7, .string a1_8, .int .i64 a1_9, .slice A1_10 l1_10.length c1_10, .slice A1_11 l1_11.length c1_11]] w fun e w' => e = .returned (.bool r) ∧ Below w.heap.size w w' := by
 have hu32 := Try.underlying32
 have hu25 := Try.underlying25
 have hu28 := Try.underlying28
 have HR0_2 := mk_ hr0_2
 have HC0_2 := mk_ hc0_2
 clear hr0_2 hc0_2
 have HR0_10 := mk_ hr0_10
 have HC0_10 := mk_ hc0_10
 clear hr0_10 hc0_10
 have HR0_11 := mk_ hr0_11
 have HC0_11 := mk_ hc0_11
 clear hr0_11 hc0_11
 have HR1_2 := mk_ hr1_2
 have HC1_2 := mk_ hc1_2
 clear hr1_2 hc1_2
 have HR1_10 := mk_ hr1_10
 have HC1_10 := mk_ hc1_10
 clear hr1_10 hc1_10
 have HR1_11 := mk_ hr1_11
 have HC1_11 := mk_ hc1_11
 clear hr1_11 hc1_11
 have HB := mk_ (Below.refl w.heap.size w)
 have H : ((raddlekeep_Dot.f a0_0 a0_1 a1_0 a1_1).bind fun t169 => (if t169 = true then ((raddlekeep_Ints.f k l0_2 l1_2).bind fun t170 => (if t170 = true then ((raddlekeep_Stamp.f a0_3 a0_4 a0_5 a1_3 a1_4 a1_5).bind fun t171 => (if t171 = true then (if a0_6 = a1_6 then (if a0_7 = a1_7 then (if a0_8.toList = a1_8.toList then (if a0_9 = a1_9 then ((raddlekeep_Row.f k l0_10 l1_10).bind fun t172 => (if t172 = true then ((raddlekeep_Dots.f k l0_11 l1_11).bind fun t173 => (some t173)) else (some false))) else (some false)) else (some false)) else (some false)) else (some false)) else (some false))) else (some false))) else (some false))) = some r := h
 clear h
 replace H := Option.bind_eq_some_iff.mp H
 obtain ⟨t169, A30, H⟩ := H
 replace H : (if t169 = true then ((raddlekeep_Ints.f k l0_2 l1_2).bind fun t170 => (if t170 = true then ((raddlekeep_Stamp.f a0_3 a0_4 a0_5 a1_3 a1_4 a1_5).bind fun t171 => (if t171 = true then (if a0_6 = a1_6 then (if a0_7 = a1_7 then (if a0_8.toList = a1_8.toList then (if a0_9 = a1_9 then ((raddlekeep_Row.f k l0_10 l1_10).bind fun t172 => (if t172 = true then ((raddlekeep_Dots.f k l0_11 l1_11).bind fun t173 => (some t173)) else (some false))) else (some false)) else (some false)) else (some false)) else (some false)) else (some false))) else (some false))) else (some false)) = some r := H
 have A3 := mk_ A30
 clear A30
 by_cases c4 : t169 = true
 rotate_left
 ·
  replace c4 := Bool.eq_false_iff.mpr c4
  subst c4
  rw [if_neg (show ¬ (false = true) by decide)] at H
  obtain rfl := Option.some.inj H
  go_enter Try.func13, Try.ntmps13
  go_wp2_with (first | ((with_reducible refine gate_dst (N := 2) rfl ?_); refine box_event ?hg (N := 2) ?hd (cs := #[.int .i64 a0_0, .int .i64 a0_1, .slice A0_2 l0_2.length c0_2, .int .i64 a0_3, .int .i64 a0_4, .int .i64 a0_5, .int .i64 a0_6, .int .i64 a0_7, .string a0_8, .int .i64 a0_9, .slice A0_10 l0_10.length c0_10, .slice A0_11 l0_11.length c0_11]) (t := 32) ?hr ?_; (case hd => rfl); (case hg => rfl); (case hr => first | (go_simp; done) | (go_simp; rfl)); intro gb167 hg w104 hbox hb; have n0_ := mk_ (below_step (Short.hB HB) hb); have n1_ := mk_ (hbox); have n2_ := mk_ ((by rw [hg]; exact (below_size (Short.hB HB)) : w.heap.size ≤ gb167)); have n3_ := mk_ ((by rw [hg]; exact (below_size (Short.hB HB)) : w.heap.size ≤ gb167)); clear HB; revert n0_ n1_ n2_ n3_; intro HB BK167 GW167 GE167; clear hb hbox hg) | ((with_reducible refine gate_dst (N := 3) rfl ?_); refine box_event ?hg (N := 3) ?hd (cs := #[.int .i64 a1_0, .int .i64 a1_1, .slice A1_2 l1_2.length c1_2, .int .i64 a1_3, .int .i64 a1_4, .int .i64 a1_5, .int .i64 a1_6, .int .i64 a1_7, .string a1_8, .int .i64 a1_9, .slice A1_10 l1_10.length c1_10, .slice A1_11 l1_11.length c1_11]) (t := 32) ?hr ?_; (case hd => rfl); (case hg => rfl); (case hr => first | (go_simp; done) | (go_simp; rfl)); intro gb168 hg w105 hbox hb; have n0_ := mk_ (bB_ BK167 hb); have n1_ := mk_ (below_step (Short.hB HB) hb); have n2_ := mk_ (hbox); have n3_ := mk_ ((by rw [hg]; exact (below_size (Short.hB HB)) : w.heap.size ≤ gb168)); have n4_ := mk_ ((by rw [hg]; exact (below_size (Short.hB HB)) : w.heap.size ≤ gb168)); have n5_ := mk_ ((by rw [hg]; exact Nat.ne_of_lt (blk_lt (Short.bK BK167)) : gb167 ≠ gb168)); have n6_ := mk_ ((by rw [hg]; exact Nat.ne_of_gt (blk_lt (Short.bK BK167)) : gb168 ≠ gb167)); clear BK167 HB; revert n0_ n1_ n2_ n3_ n4_ n5_ n6_; intro BK167 HB BK168 GW168 GE168 NB167_168 NB168_167; clear hb hbox hg; have hnb106 := NB167_168.out; have hnc106 := NB168_167.out; have hcz107_0 := blk_cell BK167.out; have hfz107_0 := blk_frozen BK167.out; have hcz108_0 := blk_cell BK168.out; have hfz108_0 := blk_frozen BK168.out) | ((with_reducible refine gate_callee (f := 29) rfl ?_); refine Short.gL (some 9) Try.func29 #[.agg #[.int .i64 a0_0, .int .i64 a0_1], .agg #[.int .i64 a1_0, .int .i64 a1_1]] (h := ?_); (with_reducible refine (raddlekeep_Dot.calls a0_0 a0_1 a1_0 a1_1 false _ A3.out).mono ?_); rintro e w109 ⟨rfl, hb⟩; refine ⟨_, rfl, ?_⟩; have n0_ := mk_ (bB_ BK167 hb); have n1_ := mk_ (bB_ BK168 hb); have n2_ := mk_ (below_step (Short.hB HB) hb); clear BK167 BK168 HB; revert n0_ n1_ n2_; intro BK167 BK168 HB; (try clear hb)))
  go_ret
  exact ⟨q0, Short.hB HB⟩
 subst c4
 rw [if_pos rfl] at H
 replace H := Option.bind_eq_some_iff.mp H
 obtain ⟨t170, A50, H⟩ := H
 replace H : (if t170 = true then ((raddlekeep_Stamp.f a0_3 a0_4 a0_5 a1_3 a1_4 a1_5).bind fun t171 => (if t171 = true then (if a0_6 = a1_6 then (if a0_7 = a1_7 then (if a0_8.toList = a1_8.toList then (if a0_9 = a1_9 then ((raddlekeep_Row.f k l0_10 l1_10).bind fun t172 => (if t172 = true then ((raddlekeep_Dots.f k l0_11 l1_11).bind fun t173 => (some t173)) else (some false))) else (some false)) else (some false)) else (some false)) else (some false)) else (some false))) else (some false)) = some r := H
 have A5 := mk_ A50
 clear A50
 by_cases c6 : t170 = true
 rotate_left
 ·
  replace c6 := Bool.eq_false_iff.mpr c6
  subst c6
  rw [if_neg (show ¬ (false = true) by decide)] at H
  obtain rfl := Option.some.inj H
  go_enter Try.func13, Try.ntmps13
  go_wp2_with (first | ((with_reducible refine gate_dst (N := 2) rfl ?_); refine box_event ?hg (N := 2) ?hd (cs := #[.int .i64 a0_0, .int .i64 a0_1, .slice A0_2 l0_2.length c0_2, .int .i64 a0_3, .int .i64 a0_4, .int .i64 a0_5, .int .i64 a0_6, .int .i64 a0_7, .string a0_8, .int .i64 a0_9, .slice A0_10 l0_10.length c0_10, .slice A0_11 l0_11.length c0_11]) (t := 32) ?hr ?_; (case hd => rfl); (case hg => rfl); (case hr => first | (go_simp; done) | (go_simp; rfl)); intro gb167 hg w96 hbox hb; have n0_ := mk_ (below_step (Short.hB HB) hb); have n1_ := mk_ (hbox); have n2_ := mk_ ((by rw [hg]; exact (below_size (Short.hB HB)) : w.heap.size ≤ gb167)); have n3_ := mk_ ((by rw [hg]; exact (below_size (Short.hB HB)) : w.heap.size ≤ gb167)); clear HB; revert n0_ n1_ n2_ n3_; intro HB BK167 GW167 GE167; clear hb hbox hg) | ((with_reducible refine gate_dst (N := 3) rfl ?_); refine box_event ?hg (N := 3) ?hd (cs := #[.int .i64 a1_0, .int .i64 a1_1, .slice A1_2 l1_2.length c1_2, .int .i64 a1_3, .int .i64 a1_4, .int .i64 a1_5, .int .i64 a1_6, .int .i64 a1_7, .string a1_8, .int .i64 a1_9, .slice A1_10 l1_10.length c1_10, .slice A1_11 l1_11.length c1_11]) (t := 32) ?hr ?_; (case hd => rfl); (case hg => rfl); (case hr => first | (go_simp; done) | (go_simp; rfl)); intro gb168 hg w97 hbox hb; have n0_ := mk_ (bB_ BK167 hb); have n1_ := mk_ (below_step (Short.hB HB) hb); have n2_ := mk_ (hbox); have n3_ := mk_ ((by rw [hg]; exact (below_size (Short.hB HB)) : w.heap.size ≤ gb168)); have n4_ := mk_ ((by rw [hg]; exact (below_size (Short.hB HB)) : w.heap.size ≤ gb168)); have n5_ := mk_ ((by rw [hg]; exact Nat.ne_of_lt (blk_lt (Short.bK BK167)) : gb167 ≠ gb168)); have n6_ := mk_ ((by rw [hg]; exact Nat.ne_of_gt (blk_lt (Short.bK BK167)) : gb168 ≠ gb167)); clear BK167 HB; revert n0_ n1_ n2_ n3_ n4_ n5_ n6_; intro BK167 HB BK168 GW168 GE168 NB167_168 NB168_167; clear hb hbox hg; have hnb98 := NB167_168.out; have hnc98 := NB168_167.out; have hcz99_0 := blk_cell BK167.out; have hfz99_0 := blk_frozen BK167.out; have hcz100_0 := blk_cell BK168.out; have hfz100_0 := blk_frozen BK168.out) | ((with_reducible refine gate_callee (f := 29) rfl ?_); refine Short.gL (some 9) Try.func29 #[.agg #[.int .i64 a0_0, .int .i64 a0_1], .agg #[.int .i64 a1_0, .int .i64 a1_1]] (h := ?_); (with_reducible refine (raddlekeep_Dot.calls a0_0 a0_1 a1_0 a1_1 true _ A3.out).mono ?_); rintro e w101 ⟨rfl, hb⟩; refine ⟨_, rfl, ?_⟩; have n0_ := mk_ (bB_ BK167 hb); have n1_ := mk_ (bB_ BK168 hb); have n2_ := mk_ (below_step (Short.hB HB) hb); clear BK167 BK168 HB; revert n0_ n1_ n2_; intro BK167 BK168 HB; (try clear hb); have hcz102_0 := blk_cell BK167.out; have hfz102_0 := blk_frozen BK167.out; have hcz103_0 := blk_cell BK168.out; have hfz103_0 := blk_frozen BK168.out) | (go_at_call 30; (with_reducible refine (raddlekeep_Ints.calls k _ _ l0_2 _ _ l1_2 false _ ?side1 ?side2 ?side3 ?side4 A5.out).mono ?_); (case side1 => exact cX_ (C_below HR0_2.out HB.out)); (case side2 => exact HC0_2.out); (case side3 => exact cX_ (C_below HR1_2.out HB.out)); (case side4 => exact HC1_2.out); rintro e w' ⟨rfl, ⟨nd, rfl⟩⟩))
  go_ret
  exact ⟨q0, Short.hB HB⟩
 subst c6
 rw [if_pos rfl] at H
 replace H := Option.bind_eq_some_iff.mp H
 obtain ⟨t171, A70, H⟩ := H
 replace H : (if t171 = true then (if a0_6 = a1_6 then (if a0_7 = a1_7 then (if a0_8.toList = a1_8.toList then (if a0_9 = a1_9 then ((raddlekeep_Row.f k l0_10 l1_10).bind fun t172 => (if t172 = true then ((raddlekeep_Dots.f k l0_11 l1_11).bind fun t173 => (some t173)) else (some false))) else (some false)) else (some false)) else (some false)) else (some false)) else (some false)) = some r := H
 have A7 := mk_ A70
 clear A70
 by_cases c8 : t171 = true
 rotate_left
 ·
  replace c8 := Bool.eq_false_iff.mpr c8
  subst c8
  rw [if_neg (show ¬ (false = true) by decide)] at H
  obtain rfl := Option.some.inj H
  go_enter Try.func13, Try.ntmps13
  go_wp2_with (first | ((with_reducible refine gate_dst (N := 2) rfl ?_); refine box_event ?hg (N := 2) ?hd (cs := #[.int .i64 a0_0, .int .i64 a0_1, .slice A0_2 l0_2.length c0_2, .int .i64 a0_3, .int .i64 a0_4, .int .i64 a0_5, .int .i64 a0_6, .int .i64 a0_7, .string a0_8, .int .i64 a0_9, .slice A0_10 l0_10.length c0_10, .slice A0_11 l0_11.length c0_11]) (t := 32) ?hr ?_; (case hd => rfl); (case hg => rfl); (case hr => first | (go_simp; done) | (go_simp; rfl)); intro gb167 hg w87 hbox hb; have n0_ := mk_ (below_step (Short.hB HB) hb); have n1_ := mk_ (hbox); have n2_ := mk_ ((by rw [hg]; exact (below_size (Short.hB HB)) : w.heap.size ≤ gb167)); have n3_ := mk_ ((by rw [hg]; exact (below_size (Short.hB HB)) : w.heap.size ≤ gb167)); clear HB; revert n0_ n1_ n2_ n3_; intro HB BK167 GW167 GE167; clear hb hbox hg) | ((with_reducible refine gate_dst (N := 3) rfl ?_); refine box_event ?hg (N := 3) ?hd (cs := #[.int .i64 a1_0, .int .i64 a1_1, .slice A1_2 l1_2.length c1_2, .int .i64 a1_3, .int .i64 a1_4, .int .i64 a1_5, .int .i64 a1_6, .int .i64 a1_7, .string a1_8, .int .i64 a1_9, .slice A1_10 l1_10.length c1_10, .slice A1_11 l1_11.length c1_11]) (t := 32) ?hr ?_; (case hd => rfl); (case hg => rfl); (case hr => first | (go_simp; done) | (go_simp; rfl)); intro gb168 hg w88 hbox hb; have n0_ := mk_ (bB_ BK167 hb); have n1_ := mk_ (below_step (Short.hB HB) hb); have n2_ := mk_ (hbox); have n3_ := mk_ ((by rw [hg]; exact (below_size (Short.hB HB)) : w.heap.size ≤ gb168)); have n4_ := mk_ ((by rw [hg]; exact (below_size (Short.hB HB)) : w.heap.size ≤ gb168)); have n5_ := mk_ ((by rw [hg]; exact Nat.ne_of_lt (blk_lt (Short.bK BK167)) : gb167 ≠ gb168)); have n6_ := mk_ ((by rw [hg]; exact Nat.ne_of_gt (blk_lt (Short.bK BK167)) : gb168 ≠ gb167)); clear BK167 HB; revert n0_ n1_ n2_ n3_ n4_ n5_ n6_; intro BK167 HB BK168 GW168 GE168 NB167_168 NB168_167; clear hb hbox hg; have hnb89 := NB167_168.out; have hnc89 := NB168_167.out; have hcz90_0 := blk_cell BK167.out; have hfz90_0 := blk_frozen BK167.out; have hcz91_0 := blk_cell BK168.out; have hfz91_0 := blk_frozen BK168.out) | ((with_reducible refine gate_callee (f := 29) rfl ?_); refine Short.gL (some 9) Try.func29 #[.agg #[.int .i64 a0_0, .int .i64 a0_1], .agg #[.int .i64 a1_0, .int .i64 a1_1]] (h := ?_); (with_reducible refine (raddlekeep_Dot.calls a0_0 a0_1 a1_0 a1_1 true _ A3.out).mono ?_); rintro e w92 ⟨rfl, hb⟩; refine ⟨_, rfl, ?_⟩; have n0_ := mk_ (bB_ BK167 hb); have n1_ := mk_ (bB_ BK168 hb); have n2_ := mk_ (below_step (Short.hB HB) hb); clear BK167 BK168 HB; revert n0_ n1_ n2_; intro BK167 BK168 HB; (try clear hb); have hcz93_0 := blk_cell BK167.out; have hfz93_0 := blk_frozen BK167.out; have hcz94_0 := blk_cell BK168.out; have hfz94_0 := blk_frozen BK168.out) | (go_at_call 30; (with_reducible refine (raddlekeep_Ints.calls k _ _ l0_2 _ _ l1_2 true _ ?side1 ?side2 ?side3 ?side4 A5.out).mono ?_); (case side1 => exact cX_ (C_below HR0_2.out HB.out)); (case side2 => exact HC0_2.out); (case side3 => exact cX_ (C_below HR1_2.out HB.out)); (case side4 => exact HC1_2.out); rintro e w' ⟨rfl, ⟨nd, rfl⟩⟩) | (go_at_call 31; (with_reducible refine (raddlekeep_Stamp.calls a0_3 a0_4 a0_5 a1_3 a1_4 a1_5 false _ A7.out).mono ?_); rintro e w95 ⟨rfl, hb⟩; have n0_ := mk_ (bB_ BK167 hb); have n1_ := mk_ (bB_ BK168 hb); have n2_ := mk_ (below_step (Short.hB HB) hb); clear BK167 BK168 HB; revert n0_ n1_ n2_; intro BK167 BK168 HB; (try clear hb); (try clear hb2); (try clear hk); (try clear hi)))
  go_ret
  exact ⟨q0, Short.hB HB⟩
 subst c8
 rw [if_pos rfl] at H
 by_cases c9 : a0_6 = a1_6
 rotate_left
 ·
  rw [if_neg c9] at H
  have c9b0 : (a0_6 == a1_6) = false := beq_eq_false_iff_ne.mpr c9
  have c9b1 : (a0_6 != a1_6) = true := bne_iff_ne.mpr c9
  obtain rfl := Option.some.inj H
  go_enter Try.func13, Try.ntmps13
  go_wp2_with (first | ((with_reducible refine gate_dst (N := 2) rfl ?_); refine box_event ?hg (N := 2) ?hd (cs := #[.int .i64 a0_0, .int .i64 a0_1, .slice A0_2 l0_2.length c0_2, .int .i64 a0_3, .int .i64 a0_4, .int .i64 a0_5, .int .i64 a0_6, .int .i64 a0_7, .string a0_8, .int .i64 a0_9, .slice A0_10 l0_10.length c0_10, .slice A0_11 l0_11.length c0_11]) (t := 32) ?hr ?_; (case hd => rfl); (case hg => rfl); (case hr => first | (go_simp; done) | (go_simp; rfl)); intro gb167 hg w76 hbox hb; have n0_ := mk_ (below_step (Short.hB HB) hb); have n1_ := mk_ (hbox); have n2_ := mk_ ((by rw [hg]; exact (below_size (Short.hB HB)) : w.heap.size ≤ gb167)); have n3_ := mk_ ((by rw [hg]; exact (below_size (Short.hB HB)) : w.heap.size ≤ gb167)); clear HB; revert n0_ n1_ n2_ n3_; intro HB BK167 GW167 GE167; clear hb hbox hg) | ((with_reducible refine gate_dst (N := 3) rfl ?_); refine box_event ?hg (N := 3) ?hd (cs := #[.int .i64 a1_0, .int .i64 a1_1, .slice A1_2 l1_2.length c1_2, .int .i64 a1_3, .int .i64 a1_4, .int .i64 a1_5, .int .i64 a1_6, .int .i64 a1_7, .string a1_8, .int .i64 a1_9, .slice A1_10 l1_10.length c1_10, .slice A1_11 l1_11.length c1_11]) (t := 32) ?hr ?_; (case hd => rfl); (case hg => rfl); (case hr => first | (go_simp; done) | (go_simp; rfl)); intro gb168 hg w77 hbox hb; have n0_ := mk_ (bB_ BK167 hb); have n1_ := mk_ (below_step (Short.hB HB) hb); have n2_ := mk_ (hbox); have n3_ := mk_ ((by rw [hg]; exact (below_size (Short.hB HB)) : w.heap.size ≤ gb168)); have n4_ := mk_ ((by rw [hg]; exact (below_size (Short.hB HB)) : w.heap.size ≤ gb168)); have n5_ := mk_ ((by rw [hg]; exact Nat.ne_of_lt (blk_lt (Short.bK BK167)) : gb167 ≠ gb168)); have n6_ := mk_ ((by rw [hg]; exact Nat.ne_of_gt (blk_lt (Short.bK BK167)) : gb168 ≠ gb167)); clear BK167 HB; revert n0_ n1_ n2_ n3_ n4_ n5_ n6_; intro BK167 HB BK168 GW168 GE168 NB167_168 NB168_167; clear hb hbox hg; have hnb78 := NB167_168.out; have hnc78 := NB168_167.out; have hcz79_0 := blk_cell BK167.out; have hfz79_0 := blk_frozen BK167.out; have hcz80_0 := blk_cell BK168.out; have hfz80_0 := blk_frozen BK168.out) | ((with_reducible refine gate_callee (f := 29) rfl ?_); refine Short.gL (some 9) Try.func29 #[.agg #[.int .i64 a0_0, .int .i64 a0_1], .agg #[.int .i64 a1_0, .int .i64 a1_1]] (h := ?_); (with_reducible refine (raddlekeep_Dot.calls a0_0 a0_1 a1_0 a1_1 true _ A3.out).mono ?_); rintro e w81 ⟨rfl, hb⟩; refine ⟨_, rfl, ?_⟩; have n0_ := mk_ (bB_ BK167 hb); have n1_ := mk_ (bB_ BK168 hb); have n2_ := mk_ (below_step (Short.hB HB) hb); clear BK167 BK168 HB; revert n0_ n1_ n2_; intro BK167 BK168 HB; (try clear hb); have hcz82_0 := blk_cell BK167.out; have hfz82_0 := blk_frozen BK167.out; have hcz83_0 := blk_cell BK168.out; have hfz83_0 := blk_frozen BK168.out) | (go_at_call 30; (with_reducible refine (raddlekeep_Ints.calls k _ _ l0_2 _ _ l1_2 true _ ?side1 ?side2 ?side3 ?side4 A5.out).mono ?_); (case side1 => exact cX_ (C_below HR0_2.out HB.out)); (case side2 => exact HC0_2.out); (case side3 => exact cX_ (C_below HR1_2.out HB.out)); (case side4 => exact HC1_2.out); rintro e w' ⟨rfl, ⟨nd, rfl⟩⟩) | (go_at_call 31; (with_reducible refine (raddlekeep_Stamp.calls a0_3 a0_4 a0_5 a1_3 a1_4 a1_5 true _ A7.out).mono ?_); rintro e w84 ⟨rfl, hb⟩; have n0_ := mk_ (bB_ BK167 hb); have n1_ := mk_ (bB_ BK168 hb); have n2_ := mk_ (below_step (Short.hB HB) hb); clear BK167 BK168 HB; revert n0_ n1_ n2_; intro BK167 BK168 HB; (try clear hb); (try clear hb2); (try clear hk); (try clear hi); have hcz85_0 := blk_cell BK167.out; have hfz85_0 := blk_frozen BK167.out; have hcz86_0 := blk_cell BK168.out; have hfz86_0 := blk_frozen BK168.out))
  go_ret
  exact ⟨q0, Short.hB HB⟩
 rw [if_pos c9] at H
 have c9b0 : (a0_6 == a1_6) = true := beq_iff_eq.mpr c9
 have c9b1 : (a0_6 != a1_6) = false := bne_eq_false_iff_eq.mpr c9
 clear c9
 by_cases c10 : a0_7 = a1_7
 rotate_left
 ·
  rw [if_neg c10] at H
  have c10b0 : (a0_7 == a1_7) = false := beq_eq_false_iff_ne.mpr c10
  have c10b1 : (a0_7 != a1_7) = true := bne_iff_ne.mpr c10
  obtain rfl := Option.some.inj H
  go_enter Try.func13, Try.ntmps13
  go_wp2_with (first | ((with_reducible refine gate_dst (N := 2) rfl ?_); refine box_event ?hg (N := 2) ?hd (cs := #[.int .i64 a0_0, .int .i64 a0_1, .slice A0_2 l0_2.length c0_2, .int .i64 a0_3, .int .i64 a0_4, .int .i64 a0_5, .int .i64 a0_6, .int .i64 a0_7, .string a0_8, .int .i64 a0_9, .slice A0_10 l0_10.length c0_10, .slice A0_11 l0_11.length c0_11]) (t := 32) ?hr ?_; (case hd => rfl); (case hg => rfl); (case hr => first | (go_simp; done) | (go_simp; rfl)); intro gb167 hg w65 hbox hb; have n0_ := mk_ (below_step (Short.hB HB) hb); have n1_ := mk_ (hbox); have n2_ := mk_ ((by rw [hg]; exact (below_size (Short.hB HB)) : w.heap.size ≤ gb167)); have n3_ := mk_ ((by rw [hg]; exact (below_size (Short.hB HB)) : w.heap.size ≤ gb167)); clear HB; revert n0_ n1_ n2_ n3_; intro HB BK167 GW167 GE167; clear hb hbox hg) | ((with_reducible refine gate_dst (N := 3) rfl ?_); refine box_event ?hg (N := 3) ?hd (cs := #[.int .i64 a1_0, .int .i64 a1_1, .slice A1_2 l1_2.length c1_2, .int .i64 a1_3, .int .i64 a1_4, .int .i64 a1_5, .int .i64 a1_6, .int .i64 a1_7, .string a1_8, .int .i64 a1_9, .slice A1_10 l1_10.length c1_10, .slice A1_11 l1_11.length c1_11]) (t := 32) ?hr ?_; (case hd => rfl); (case hg => rfl); (case hr => first | (go_simp; done) | (go_simp; rfl)); intro gb168 hg w66 hbox hb; have n0_ := mk_ (bB_ BK167 hb); have n1_ := mk_ (below_step (Short.hB HB) hb); have n2_ := mk_ (hbox); have n3_ := mk_ ((by rw [hg]; exact (below_size (Short.hB HB)) : w.heap.size ≤ gb168)); have n4_ := mk_ ((by rw [hg]; exact (below_size (Short.hB HB)) : w.heap.size ≤ gb168)); have n5_ := mk_ ((by rw [hg]; exact Nat.ne_of_lt (blk_lt (Short.bK BK167)) : gb167 ≠ gb168)); have n6_ := mk_ ((by rw [hg]; exact Nat.ne_of_gt (blk_lt (Short.bK BK167)) : gb168 ≠ gb167)); clear BK167 HB; revert n0_ n1_ n2_ n3_ n4_ n5_ n6_; intro BK167 HB BK168 GW168 GE168 NB167_168 NB168_167; clear hb hbox hg; have hnb67 := NB167_168.out; have hnc67 := NB168_167.out; have hcz68_0 := blk_cell BK167.out; have hfz68_0 := blk_frozen BK167.out; have hcz69_0 := blk_cell BK168.out; have hfz69_0 := blk_frozen BK168.out) | ((with_reducible refine gate_callee (f := 29) rfl ?_); refine Short.gL (some 9) Try.func29 #[.agg #[.int .i64 a0_0, .int .i64 a0_1], .agg #[.int .i64 a1_0, .int .i64 a1_1]] (h := ?_); (with_reducible refine (raddlekeep_Dot.calls a0_0 a0_1 a1_0 a1_1 true _ A3.out).mono ?_); rintro e w70 ⟨rfl, hb⟩; refine ⟨_, rfl, ?_⟩; have n0_ := mk_ (bB_ BK167 hb); have n1_ := mk_ (bB_ BK168 hb); have n2_ := mk_ (below_step (Short.hB HB) hb); clear BK167 BK168 HB; revert n0_ n1_ n2_; intro BK167 BK168 HB; (try clear hb); have hcz71_0 := blk_cell BK167.out; have hfz71_0 := blk_frozen BK167.out; have hcz72_0 := blk_cell BK168.out; have hfz72_0 := blk_frozen BK168.out) | (go_at_call 30; (with_reducible refine (raddlekeep_Ints.calls k _ _ l0_2 _ _ l1_2 true _ ?side1 ?side2 ?side3 ?side4 A5.out).mono ?_); (case side1 => exact cX_ (C_below HR0_2.out HB.out)); (case side2 => exact HC0_2.out); (case side3 => exact cX_ (C_below HR1_2.out HB.out)); (case side4 => exact HC1_2.out); rintro e w' ⟨rfl, ⟨nd, rfl⟩⟩) | (go_at_call 31; (with_reducible refine (raddlekeep_Stamp.calls a0_3 a0_4 a0_5 a1_3 a1_4 a1_5 true _ A7.out).mono ?_); rintro e w73 ⟨rfl, hb⟩; have n0_ := mk_ (bB_ BK167 hb); have n1_ := mk_ (bB_ BK168 hb); have n2_ := mk_ (below_step (Short.hB HB) hb); clear BK167 BK168 HB; revert n0_ n1_ n2_; intro BK167 BK168 HB; (try clear hb); (try clear hb2); (try clear hk); (try clear hi); have hcz74_0 := blk_cell BK167.out; have hfz74_0 := blk_frozen BK167.out; have hcz75_0 := blk_cell BK168.out; have hfz75_0 := blk_frozen BK168.out))
  go_ret
  exact ⟨q0, Short.hB HB⟩
 rw [if_pos c10] at H
 have c10b0 : (a0_7 == a1_7) = true := beq_iff_eq.mpr c10
 have c10b1 : (a0_7 != a1_7) = false := bne_eq_false_iff_eq.mpr c10
 clear c10
 by_cases c11 : a0_8.toList = a1_8.toList
 rotate_left
 ·
  rw [if_neg c11] at H
  have c11b0 : (a0_8.toList == a1_8.toList) = false := beq_eq_false_iff_ne.mpr c11
  have c11b1 : (a0_8.toList != a1_8.toList) = true := bne_iff_ne.mpr c11
  obtain rfl := Option.some.inj H
  go_enter Try.func13, Try.ntmps13
  go_wp2_with (first | ((with_reducible refine gate_dst (N := 2) rfl ?_); refine box_event ?hg (N := 2) ?hd (cs := #[.int .i64 a0_0, .int .i64 a0_1, .slice A0_2 l0_2.length c0_2, .int .i64 a0_3, .int .i64 a0_4, .int .i64 a0_5, .int .i64 a0_6, .int .i64 a0_7, .string a0_8, .int .i64 a0_9, .slice A0_10 l0_10.length c0_10, .slice A0_11 l0_11.length c0_11]) (t := 32) ?hr ?_; (case hd => rfl); (case hg => rfl); (case hr => first | (go_simp; done) | (go_simp; rfl)); intro gb167 hg w54 hbox hb; have n0_ := mk_ (below_step (Short.hB HB) hb); have n1_ := mk_ (hbox); have n2_ := mk_ ((by rw [hg]; exact (below_size (Short.hB HB)) : w.heap.size ≤ gb167)); have n3_ := mk_ ((by rw [hg]; exact (below_size (Short.hB HB)) : w.heap.size ≤ gb167)); clear HB; revert n0_ n1_ n2_ n3_; intro HB BK167 GW167 GE167; clear hb hbox hg) | ((with_reducible refine gate_dst (N := 3) rfl ?_); refine box_event ?hg (N := 3) ?hd (cs := #[.int .i64 a1_0, .int .i64 a1_1, .slice A1_2 l1_2.length c1_2, .int .i64 a1_3, .int .i64 a1_4, .int .i64 a1_5, .int .i64 a1_6, .int .i64 a1_7, .string a1_8, .int .i64 a1_9, .slice A1_10 l1_10.length c1_10, .slice A1_11 l1_11.length c1_11]) (t := 32) ?hr ?_; (case hd => rfl); (case hg => rfl); (case hr => first | (go_simp; done) | (go_simp; rfl)); intro gb168 hg w55 hbox hb; have n0_ := mk_ (bB_ BK167 hb); have n1_ := mk_ (below_step (Short.hB HB) hb); have n2_ := mk_ (hbox); have n3_ := mk_ ((by rw [hg]; exact (below_size (Short.hB HB)) : w.heap.size ≤ gb168)); have n4_ := mk_ ((by rw [hg]; exact (below_size (Short.hB HB)) : w.heap.size ≤ gb168)); have n5_ := mk_ ((by rw [hg]; exact Nat.ne_of_lt (blk_lt (Short.bK BK167)) : gb167 ≠ gb168)); have n6_ := mk_ ((by rw [hg]; exact Nat.ne_of_gt (blk_lt (Short.bK BK167)) : gb168 ≠ gb167)); clear BK167 HB; revert n0_ n1_ n2_ n3_ n4_ n5_ n6_; intro BK167 HB BK168 GW168 GE168 NB167_168 NB168_167; clear hb hbox hg; have hnb56 := NB167_168.out; have hnc56 := NB168_167.out; have hcz57_0 := blk_cell BK167.out; have hfz57_0 := blk_frozen BK167.out; have hcz58_0 := blk_cell BK168.out; have hfz58_0 := blk_frozen BK168.out) | ((with_reducible refine gate_callee (f := 29) rfl ?_); refine Short.gL (some 9) Try.func29 #[.agg #[.int .i64 a0_0, .int .i64 a0_1], .agg #[.int .i64 a1_0, .int .i64 a1_1]] (h := ?_); (with_reducible refine (raddlekeep_Dot.calls a0_0 a0_1 a1_0 a1_1 true _ A3.out).mono ?_); rintro e w59 ⟨rfl, hb⟩; refine ⟨_, rfl, ?_⟩; have n0_ := mk_ (bB_ BK167 hb); have n1_ := mk_ (bB_ BK168 hb); have n2_ := mk_ (below_step (Short.hB HB) hb); clear BK167 BK168 HB; revert n0_ n1_ n2_; intro BK167 BK168 HB; (try clear hb); have hcz60_0 := blk_cell BK167.out; have hfz60_0 := blk_frozen BK167.out; have hcz61_0 := blk_cell BK168.out; have hfz61_0 := blk_frozen BK168.out) | (go_at_call 30; (with_reducible refine (raddlekeep_Ints.calls k _ _ l0_2 _ _ l1_2 true _ ?side1 ?side2 ?side3 ?side4 A5.out).mono ?_); (case side1 => exact cX_ (C_below HR0_2.out HB.out)); (case side2 => exact HC0_2.out); (case side3 => exact cX_ (C_below HR1_2.out HB.out)); (case side4 => exact HC1_2.out); rintro e w' ⟨rfl, ⟨nd, rfl⟩⟩) | (go_at_call 31; (with_reducible refine (raddlekeep_Stamp.calls a0_3 a0_4 a0_5 a1_3 a1_4 a1_5 true _ A7.out).mono ?_); rintro e w62 ⟨rfl, hb⟩; have n0_ := mk_ (bB_ BK167 hb); have n1_ := mk_ (bB_ BK168 hb); have n2_ := mk_ (below_step (Short.hB HB) hb); clear BK167 BK168 HB; revert n0_ n1_ n2_; intro BK167 BK168 HB; (try clear hb); (try clear hb2); (try clear hk); (try clear hi); have hcz63_0 := blk_cell BK167.out; have hfz63_0 := blk_frozen BK167.out; have hcz64_0 := blk_cell BK168.out; have hfz64_0 := blk_frozen BK168.out))
  go_ret
  exact ⟨q0, Short.hB HB⟩
 rw [if_pos c11] at H
 have c11b0 : (a0_8.toList == a1_8.toList) = true := beq_iff_eq.mpr c11
 have c11b1 : (a0_8.toList != a1_8.toList) = false := bne_eq_false_iff_eq.mpr c11
 clear c11
 by_cases c12 : a0_9 = a1_9
 rotate_left
 ·
  rw [if_neg c12] at H
  have c12b0 : (a0_9 == a1_9) = false := beq_eq_false_iff_ne.mpr c12
  have c12b1 : (a0_9 != a1_9) = true := bne_iff_ne.mpr c12
  obtain rfl := Option.some.inj H
  go_enter Try.func13, Try.ntmps13
  go_wp2_with (first | ((with_reducible refine gate_dst (N := 2) rfl ?_); refine box_event ?hg (N := 2) ?hd (cs := #[.int .i64 a0_0, .int .i64 a0_1, .slice A0_2 l0_2.length c0_2, .int .i64 a0_3, .int .i64 a0_4, .int .i64 a0_5, .int .i64 a0_6, .int .i64 a0_7, .string a0_8, .int .i64 a0_9, .slice A0_10 l0_10.length c0_10, .slice A0_11 l0_11.length c0_11]) (t := 32) ?hr ?_; (case hd => rfl); (case hg => rfl); (case hr => first | (go_simp; done) | (go_simp; rfl)); intro gb167 hg w43 hbox hb; have n0_ := mk_ (below_step (Short.hB HB) hb); have n1_ := mk_ (hbox); have n2_ := mk_ ((by rw [hg]; exact (below_size (Short.hB HB)) : w.heap.size ≤ gb167)); have n3_ := mk_ ((by rw [hg]; exact (below_size (Short.hB HB)) : w.heap.size ≤ gb167)); clear HB; revert n0_ n1_ n2_ n3_; intro HB BK167 GW167 GE167; clear hb hbox hg) | ((with_reducible refine gate_dst (N := 3) rfl ?_); refine box_event ?hg (N := 3) ?hd (cs := #[.int .i64 a1_0, .int .i64 a1_1, .slice A1_2 l1_2.length c1_2, .int .i64 a1_3, .int .i64 a1_4, .int .i64 a1_5, .int .i64 a1_6, .int .i64 a1_7, .string a1_8, .int .i64 a1_9, .slice A1_10 l1_10.length c1_10, .slice A1_11 l1_11.length c1_11]) (t := 32) ?hr ?_; (case hd => rfl); (case hg => rfl); (case hr => first | (go_simp; done) | (go_simp; rfl)); intro gb168 hg w44 hbox hb; have n0_ := mk_ (bB_ BK167 hb); have n1_ := mk_ (below_step (Short.hB HB) hb); have n2_ := mk_ (hbox); have n3_ := mk_ ((by rw [hg]; exact (below_size (Short.hB HB)) : w.heap.size ≤ gb168)); have n4_ := mk_ ((by rw [hg]; exact (below_size (Short.hB HB)) : w.heap.size ≤ gb168)); have n5_ := mk_ ((by rw [hg]; exact Nat.ne_of_lt (blk_lt (Short.bK BK167)) : gb167 ≠ gb168)); have n6_ := mk_ ((by rw [hg]; exact Nat.ne_of_gt (blk_lt (Short.bK BK167)) : gb168 ≠ gb167)); clear BK167 HB; revert n0_ n1_ n2_ n3_ n4_ n5_ n6_; intro BK167 HB BK168 GW168 GE168 NB167_168 NB168_167; clear hb hbox hg; have hnb45 := NB167_168.out; have hnc45 := NB168_167.out; have hcz46_0 := blk_cell BK167.out; have hfz46_0 := blk_frozen BK167.out; have hcz47_0 := blk_cell BK168.out; have hfz47_0 := blk_frozen BK168.out) | ((with_reducible refine gate_callee (f := 29) rfl ?_); refine Short.gL (some 9) Try.func29 #[.agg #[.int .i64 a0_0, .int .i64 a0_1], .agg #[.int .i64 a1_0, .int .i64 a1_1]] (h := ?_); (with_reducible refine (raddlekeep_Dot.calls a0_0 a0_1 a1_0 a1_1 true _ A3.out).mono ?_); rintro e w48 ⟨rfl, hb⟩; refine ⟨_, rfl, ?_⟩; have n0_ := mk_ (bB_ BK167 hb); have n1_ := mk_ (bB_ BK168 hb); have n2_ := mk_ (below_step (Short.hB HB) hb); clear BK167 BK168 HB; revert n0_ n1_ n2_; intro BK167 BK168 HB; (try clear hb); have hcz49_0 := blk_cell BK167.out; have hfz49_0 := blk_frozen BK167.out; have hcz50_0 := blk_cell BK168.out; have hfz50_0 := blk_frozen BK168.out) | (go_at_call 30; (with_reducible refine (raddlekeep_Ints.calls k _ _ l0_2 _ _ l1_2 true _ ?side1 ?side2 ?side3 ?side4 A5.out).mono ?_); (case side1 => exact cX_ (C_below HR0_2.out HB.out)); (case side2 => exact HC0_2.out); (case side3 => exact cX_ (C_below HR1_2.out HB.out)); (case side4 => exact HC1_2.out); rintro e w' ⟨rfl, ⟨nd, rfl⟩⟩) | (go_at_call 31; (with_reducible refine (raddlekeep_Stamp.calls a0_3 a0_4 a0_5 a1_3 a1_4 a1_5 true _ A7.out).mono ?_); rintro e w51 ⟨rfl, hb⟩; have n0_ := mk_ (bB_ BK167 hb); have n1_ := mk_ (bB_ BK168 hb); have n2_ := mk_ (below_step (Short.hB HB) hb); clear BK167 BK168 HB; revert n0_ n1_ n2_; intro BK167 BK168 HB; (try clear hb); (try clear hb2); (try clear hk); (try clear hi); have hcz52_0 := blk_cell BK167.out; have hfz52_0 := blk_frozen BK167.out; have hcz53_0 := blk_cell BK168.out; have hfz53_0 := blk_frozen BK168.out))
  go_ret
  exact ⟨q0, Short.hB HB⟩
 rw [if_pos c12] at H
 have c12b0 : (a0_9 == a1_9) = true := beq_iff_eq.mpr c12
 have c12b1 : (a0_9 != a1_9) = false := bne_eq_false_iff_eq.mpr c12
 clear c12
 replace H := Option.bind_eq_some_iff.mp H
 obtain ⟨t172, A130, H⟩ := H
 replace H : (if t172 = true then ((raddlekeep_Dots.f k l0_11 l1_11).bind fun t173 => (some t173)) else (some false)) = some r := H
 have A13 := mk_ A130
 clear A130
 by_cases c14 : t172 = true
 rotate_left
 ·
  replace c14 := Bool.eq_false_iff.mpr c14
  subst c14
  rw [if_neg (show ¬ (false = true) by decide)] at H
  obtain rfl := Option.some.inj H
  go_enter Try.func13, Try.ntmps13
  go_wp2_with (first | ((with_reducible refine gate_dst (N := 2) rfl ?_); refine box_event ?hg (N := 2) ?hd (cs := #[.int .i64 a0_0, .int .i64 a0_1, .slice A0_2 l0_2.length c0_2, .int .i64 a0_3, .int .i64 a0_4, .int .i64 a0_5, .int .i64 a0_6, .int .i64 a0_7, .string a0_8, .int .i64 a0_9, .slice A0_10 l0_10.length c0_10, .slice A0_11 l0_11.length c0_11]) (t := 32) ?hr ?_; (case hd => rfl); (case hg => rfl); (case hr => first | (go_simp; done) | (go_simp; rfl)); intro gb167 hg w31 hbox hb; have n0_ := mk_ (below_step (Short.hB HB) hb); have n1_ := mk_ (hbox); have n2_ := mk_ ((by rw [hg]; exact (below_size (Short.hB HB)) : w.heap.size ≤ gb167)); have n3_ := mk_ ((by rw [hg]; exact (below_size (Short.hB HB)) : w.heap.size ≤ gb167)); clear HB; revert n0_ n1_ n2_ n3_; intro HB BK167 GW167 GE167; clear hb hbox hg) | ((with_reducible refine gate_dst (N := 3) rfl ?_); refine box_event ?hg (N := 3) ?hd (cs := #[.int .i64 a1_0, .int .i64 a1_1, .slice A1_2 l1_2.length c1_2, .int .i64 a1_3, .int .i64 a1_4, .int .i64 a1_5, .int .i64 a1_6, .int .i64 a1_7, .string a1_8, .int .i64 a1_9, .slice A1_10 l1_10.length c1_10, .slice A1_11 l1_11.length c1_11]) (t := 32) ?hr ?_; (case hd => rfl); (case hg => rfl); (case hr => first | (go_simp; done) | (go_simp; rfl)); intro gb168 hg w32 hbox hb; have n0_ := mk_ (bB_ BK167 hb); have n1_ := mk_ (below_step (Short.hB HB) hb); have n2_ := mk_ (hbox); have n3_ := mk_ ((by rw [hg]; exact (below_size (Short.hB HB)) : w.heap.size ≤ gb168)); have n4_ := mk_ ((by rw [hg]; exact (below_size (Short.hB HB)) : w.heap.size ≤ gb168)); have n5_ := mk_ ((by rw [hg]; exact Nat.ne_of_lt (blk_lt (Short.bK BK167)) : gb167 ≠ gb168)); have n6_ := mk_ ((by rw [hg]; exact Nat.ne_of_gt (blk_lt (Short.bK BK167)) : gb168 ≠ gb167)); clear BK167 HB; revert n0_ n1_ n2_ n3_ n4_ n5_ n6_; intro BK167 HB BK168 GW168 GE168 NB167_168 NB168_167; clear hb hbox hg; have hnb33 := NB167_168.out; have hnc33 := NB168_167.out; have hcz34_0 := blk_cell BK167.out; have hfz34_0 := blk_frozen BK167.out; have hcz35_0 := blk_cell BK168.out; have hfz35_0 := blk_frozen BK168.out) | ((with_reducible refine gate_callee (f := 29) rfl ?_); refine Short.gL (some 9) Try.func29 #[.agg #[.int .i64 a0_0, .int .i64 a0_1], .agg #[.int .i64 a1_0, .int .i64 a1_1]] (h := ?_); (with_reducible refine (raddlekeep_Dot.calls a0_0 a0_1 a1_0 a1_1 true _ A3.out).mono ?_); rintro e w36 ⟨rfl, hb⟩; refine ⟨_, rfl, ?_⟩; have n0_ := mk_ (bB_ BK167 hb); have n1_ := mk_ (bB_ BK168 hb); have n2_ := mk_ (below_step (Short.hB HB) hb); clear BK167 BK168 HB; revert n0_ n1_ n2_; intro BK167 BK168 HB; (try clear hb); have hcz37_0 := blk_cell BK167.out; have hfz37_0 := blk_frozen BK167.out; have hcz38_0 := blk_cell BK168.out; have hfz38_0 := blk_frozen BK168.out) | (go_at_call 30; (with_reducible refine (raddlekeep_Ints.calls k _ _ l0_2 _ _ l1_2 true _ ?side1 ?side2 ?side3 ?side4 A5.out).mono ?_); (case side1 => exact cX_ (C_below HR0_2.out HB.out)); (case side2 => exact HC0_2.out); (case side3 => exact cX_ (C_below HR1_2.out HB.out)); (case side4 => exact HC1_2.out); rintro e w' ⟨rfl, ⟨nd, rfl⟩⟩) | (go_at_call 31; (with_reducible refine (raddlekeep_Stamp.calls a0_3 a0_4 a0_5 a1_3 a1_4 a1_5 true _ A7.out).mono ?_); rintro e w39 ⟨rfl, hb⟩; have n0_ := mk_ (bB_ BK167 hb); have n1_ := mk_ (bB_ BK168 hb); have n2_ := mk_ (below_step (Short.hB HB) hb); clear BK167 BK168 HB; revert n0_ n1_ n2_; intro BK167 BK168 HB; (try clear hb); (try clear hb2); (try clear hk); (try clear hi); have hcz40_0 := blk_cell BK167.out; have hfz40_0 := blk_frozen BK167.out; have hcz41_0 := blk_cell BK168.out; have hfz41_0 := blk_frozen BK168.out) | (go_at_call 32; (with_reducible refine (raddlekeep_Row.calls k _ _ l0_10 _ _ l1_10 false _ ?side1 ?side2 ?side3 ?side4 A13.out).mono ?_); (case side1 => exact cX_ (C_below HR0_10.out HB.out)); (case side2 => exact HC0_10.out); (case side3 => exact cX_ (C_below HR1_10.out HB.out)); (case side4 => exact HC1_10.out); rintro e w42 ⟨rfl, hb⟩; have n0_ := mk_ (bB_ BK167 hb); have n1_ := mk_ (bB_ BK168 hb); have n2_ := mk_ (below_step (Short.hB HB) hb); clear BK167 BK168 HB; revert n0_ n1_ n2_; intro BK167 BK168 HB; (try clear hb); (try clear hb2); (try clear hk); (try clear hi)))
  go_ret
  exact ⟨q0, Short.hB HB⟩
 subst c14
 rw [if_pos rfl] at H
 replace H := Option.bind_eq_some_iff.mp H
 obtain ⟨t173, A150, H⟩ := H
 replace H : (some t173) = some r := H
 have A15 := mk_ A150
 clear A150
 obtain rfl := Option.some.inj H
 go_enter Try.func13, Try.ntmps13
 go_wp2_with (first | ((with_reducible refine gate_dst (N := 2) rfl ?_); refine box_event ?hg (N := 2) ?hd (cs := #[.int .i64 a0_0, .int .i64 a0_1, .slice A0_2 l0_2.length c0_2, .int .i64 a0_3, .int .i64 a0_4, .int .i64 a0_5, .int .i64 a0_6, .int .i64 a0_7, .string a0_8, .int .i64 a0_9, .slice A0_10 l0_10.length c0_10, .slice A0_11 l0_11.length c0_11]) (t := 32) ?hr ?_; (case hd => rfl); (case hg => rfl); (case hr => first | (go_simp; done) | (go_simp; rfl)); intro gb167 hg w16 hbox hb; have n0_ := mk_ (below_step (Short.hB HB) hb); have n1_ := mk_ (hbox); have n2_ := mk_ ((by rw [hg]; exact (below_size (Short.hB HB)) : w.heap.size ≤ gb167)); have n3_ := mk_ ((by rw [hg]; exact (below_size (Short.hB HB)) : w.heap.size ≤ gb167)); clear HB; revert n0_ n1_ n2_ n3_; intro HB BK167 GW167 GE167; clear hb hbox hg) | ((with_reducible refine gate_dst (N := 3) rfl ?_); refine box_event ?hg (N := 3) ?hd (cs := #[.int .i64 a1_0, .int .i64 a1_1, .slice A1_2 l1_2.length c1_2, .int .i64 a1_3, .int .i64 a1_4, .int .i64 a1_5, .int .i64 a1_6, .int .i64 a1_7, .string a1_8, .int .i64 a1_9, .slice A1_10 l1_10.length c1_10, .slice A1_11 l1_11.length c1_11]) (t := 32) ?hr ?_; (case hd => rfl); (case hg => rfl); (case hr => first | (go_simp; done) | (go_simp; rfl)); intro gb168 hg w17 hbox hb; have n0_ := mk_ (bB_ BK167 hb); have n1_ := mk_ (below_step (Short.hB HB) hb); have n2_ := mk_ (hbox); have n3_ := mk_ ((by rw [hg]; exact (below_size (Short.hB HB)) : w.heap.size ≤ gb168)); have n4_ := mk_ ((by rw [hg]; exact (below_size (Short.hB HB)) : w.heap.size ≤ gb168)); have n5_ := mk_ ((by rw [hg]; exact Nat.ne_of_lt (blk_lt (Short.bK BK167)) : gb167 ≠ gb168)); have n6_ := mk_ ((by rw [hg]; exact Nat.ne_of_gt (blk_lt (Short.bK BK167)) : gb168 ≠ gb167)); clear BK167 HB; revert n0_ n1_ n2_ n3_ n4_ n5_ n6_; intro BK167 HB BK168 GW168 GE168 NB167_168 NB168_167; clear hb hbox hg; have hnb18 := NB167_168.out; have hnc18 := NB168_167.out; have hcz19_0 := blk_cell BK167.out; have hfz19_0 := blk_frozen BK167.out; have hcz20_0 := blk_cell BK168.out; have hfz20_0 := blk_frozen BK168.out) | ((with_reducible refine gate_callee (f := 29) rfl ?_); refine Short.gL (some 9) Try.func29 #[.agg #[.int .i64 a0_0, .int .i64 a0_1], .agg #[.int .i64 a1_0, .int .i64 a1_1]] (h := ?_); (with_reducible refine (raddlekeep_Dot.calls a0_0 a0_1 a1_0 a1_1 true _ A3.out).mono ?_); rintro e w21 ⟨rfl, hb⟩; refine ⟨_, rfl, ?_⟩; have n0_ := mk_ (bB_ BK167 hb); have n1_ := mk_ (bB_ BK168 hb); have n2_ := mk_ (below_step (Short.hB HB) hb); clear BK167 BK168 HB; revert n0_ n1_ n2_; intro BK167 BK168 HB; (try clear hb); have hcz22_0 := blk_cell BK167.out; have hfz22_0 := blk_frozen BK167.out; have hcz23_0 := blk_cell BK168.out; have hfz23_0 := blk_frozen BK168.out) | (go_at_call 30; (with_reducible refine (raddlekeep_Ints.calls k _ _ l0_2 _ _ l1_2 true _ ?side1 ?side2 ?side3 ?side4 A5.out).mono ?_); (case side1 => exact cX_ (C_below HR0_2.out HB.out)); (case side2 => exact HC0_2.out); (case side3 => exact cX_ (C_below HR1_2.out HB.out)); (case side4 => exact HC1_2.out); rintro e w' ⟨rfl, ⟨nd, rfl⟩⟩) | (go_at_call 31; (with_reducible refine (raddlekeep_Stamp.calls a0_3 a0_4 a0_5 a1_3 a1_4 a1_5 true _ A7.out).mono ?_); rintro e w24 ⟨rfl, hb⟩; have n0_ := mk_ (bB_ BK167 hb); have n1_ := mk_ (bB_ BK168 hb); have n2_ := mk_ (below_step (Short.hB HB) hb); clear BK167 BK168 HB; revert n0_ n1_ n2_; intro BK167 BK168 HB; (try clear hb); (try clear hb2); (try clear hk); (try clear hi); have hcz25_0 := blk_cell BK167.out; have hfz25_0 := blk_frozen BK167.out; have hcz26_0 := blk_cell BK168.out; have hfz26_0 := blk_frozen BK168.out) | (go_at_call 32; (with_reducible refine (raddlekeep_Row.calls k _ _ l0_10 _ _ l1_10 true _ ?side1 ?side2 ?side3 ?side4 A13.out).mono ?_); (case side1 => exact cX_ (C_below HR0_10.out HB.out)); (case side2 => exact HC0_10.out); (case side3 => exact cX_ (C_below HR1_10.out HB.out)); (case side4 => exact HC1_10.out); rintro e w27 ⟨rfl, hb⟩; have n0_ := mk_ (bB_ BK167 hb); have n1_ := mk_ (bB_ BK168 hb); have n2_ := mk_ (below_step (Short.hB HB) hb); clear BK167 BK168 HB; revert n0_ n1_ n2_; intro BK167 BK168 HB; (try clear hb); (try clear hb2); (try clear hk); (try clear hi); have hcz28_0 := blk_cell BK167.out; have hfz28_0 := blk_frozen BK167.out; have hcz29_0 := blk_cell BK168.out; have hfz29_0 := blk_frozen BK168.out) | (go_at_call 33; (with_reducible refine (raddlekeep_Dots.calls k _ _ l0_11 _ _ l1_11 t173 _ ?side1 ?side2 ?side3 ?side4 A15.out).mono ?_); (case side1 => exact cX_ (C_below HR0_11.out HB.out)); (case side2 => exact HC0_11.out); (case side3 => exact cX_ (C_below HR1_11.out HB.out)); (case side4 => exact HC1_11.out); rintro e w30 ⟨rfl, hb⟩; have n0_ := mk_ (bB_ BK167 hb); have n1_ := mk_ (bB_ BK168 hb); have n2_ := mk_ (below_step (Short.hB HB) hb); clear BK167 BK168 HB; revert n0_ n1_ n2_; intro BK167 BK168 HB; (try clear hb); (try clear hb2); (try clear hk); (try clear hi)))
 go_ret
 exact ⟨q0, Short.hB HB⟩
def row_wrong.f (a0_0 : Int) (a0_1 : Int) (a0_2 : ByteArray) : Option (Bool) := (value_Check.f a0_0 a0_1 a0_2).bind fun t175 => (some (t175 != 0))
theorem row_wrong.calls (a0_0 : Int) (a0_1 : Int) (a0_2 : ByteArray) (r : Bool) (w : World) (h : row_wrong.f a0_0 a0_1 a0_2 = some r) :
  Calls Try.prog 86 #[.agg #[.int .i64 a0_0, .int .i64 a0_1, .string a0_2]] w fun e w' => e = .returned (.bool r) ∧ Below w.heap.size w w' := by
 have hu84 := Try.underlying84
 have HB := mk_ (Below.refl w.heap.size w)
 have H : ((value_Check.f a0_0 a0_1 a0_2).bind fun t175 => (some (t175 != 0))) = some r := h
 clear h
 replace H := Option.bind_eq_some_iff.mp H
 obtain ⟨t175, A20, H⟩ := H
 replace H : (some (t175 != 0)) = some r := H
 have A2 := mk_ A20
 clear A20
 obtain rfl := Option.some.inj H
 go_enter Try.func86, Try.ntmps86
 go_wp2_with (first | ((with_reducible refine gate_dst (N := 1) rfl ?_); refine box_event ?hg (N := 1) ?hd (cs := #[.int .i64 a0_0, .int .i64 a0_1, .string a0_2]) (t := 84) ?hr ?_; (case hd => rfl); (case hg => rfl); (case hr => first | (go_simp; done) | (go_simp; rfl)); intro gb174 hg w3 hbox hb; have n0_ := mk_ (below_step (Short.hB HB) hb); have n1_ := mk_ (hbox); have n2_ := mk_ ((by rw [hg]; exact (below_size (Short.hB HB)) : w.heap.size ≤ gb174)); have n3_ := mk_ ((by rw [hg]; exact (below_size (Short.hB HB)) : w.heap.size ≤ gb174)); clear HB; revert n0_ n1_ n2_ n3_; intro HB BK174 GW174 GE174; clear hb hbox hg; obtain ⟨hcz4_0, hcz4_1, hcz4_2, hfz4_0, hfz4_1, hfz4_2⟩ := Short.c3 BK174.out) | ((with_reducible refine gate_callee (f := 87) rfl ?_); refine Short.gL (some 4) Try.func87 #[.agg #[.int .i64 a0_0, .int .i64 a0_1, .string a0_2]] (h := ?_); (with_reducible refine (value_Check.calls a0_0 a0_1 a0_2 t175 _ A2.out).mono ?_); rintro e w5 ⟨rfl, hb⟩; refine ⟨_, rfl, ?_⟩; have n0_ := mk_ (bB_ BK174 hb); have n1_ := mk_ (below_step (Short.hB HB) hb); clear BK174 HB; revert n0_ n1_; intro BK174 HB; (try clear hb)))
 go_ret
 exact ⟨q0, Short.hB HB⟩
def slices_IndexFunc_at_row_wrong.l0 : Nat → List (S84) → Int → Int → Option (Int)
 | 0, _, _, _ => none
 | k + 1, x0, x7, x8 => if x8 < x7 then (if 0 ≤ x8 then (if x8 < (x0.length : Int) then ((row_wrong.f ((rd_T84 x0 x8).f0) ((rd_T84 x0 x8).f1) ((rd_T84 x0 x8).f2)).bind fun t177 => (if t177 = true then (some x8) else (slices_IndexFunc_at_row_wrong.l0 k x0 x7 (wrap64 (x8 + 1))))) else (none)) else (none)) else (some (-1))
def slices_IndexFunc_at_row_wrong.f (k : Nat) (l0 : List (S84)) (a1 : Unit) : Option (Int) := slices_IndexFunc_at_row_wrong.l0 k l0 (l0.length : Int) 0
theorem slices_IndexFunc_at_row_wrong.calls (k : Nat) (A0 : Option Addr) (c0 : Nat) (l0 : List (S84)) (a1 : Unit) (r : Int) (w : World) (hr0 : Kd.C k84 w A0 l0.length l0) (hc0 : l0.length ≤ c0) (h : slices_IndexFunc_at_row_wrong.f k l0 a1 = some r) :
  Calls Try.prog 106 #[.slice A0 l0.length c0, .func (.func 86) #[] #[]] w fun e w' => e = .returned (.int .i64 r) ∧ Below w.heap.size w w' := by
 have hu84 := Try.underlying84
 have HR0 := mk_ hr0
 have HC0 := mk_ hc0
 clear hr0 hc0
 have HB := mk_ (Below.refl w.heap.size w)
 have H : (slices_IndexFunc_at_row_wrong.l0 k l0 (l0.length : Int) 0) = some r := h
 clear h
 have H' := mk_ H
 clear H
 go_enter Try.func106, Try.ntmps106
 go_wp2
 go_loopg [8] k (fun kq v8 w' => ∃ (x8_1 : Int), v8 = .int .i64 x8_1 ∧ Aside0 (slices_IndexFunc_at_row_wrong.l0 kq l0 (l0.length : Int) x8_1 = some r) ∧ Aside0 (kq ≤ k) ∧ Aside0 (Below w.heap.size w w'))
 case atStart => exact ⟨(0), z3_, H', ⟨Nat.le_refl _⟩, ⟨Short.hB HB⟩⟩
 case round =>
  clear H'
  try clear p2
  obtain ⟨x8_1, rfl, HA, HK1, HB⟩ := hrel
  cases gk with
  | zero => exact absurd HA.out (by simp [slices_IndexFunc_at_row_wrong.l0])
  | succ k1 =>
   have H := HA.out
   clear HA
   simp only [slices_IndexFunc_at_row_wrong.l0] at H
   by_cases c3 : x8_1 < (l0.length : Int)
   rotate_left
   ·
    rw [if_neg c3] at H
    have c3b0 : decide (x8_1 < (l0.length : Int)) = false := decide_eq_false c3
    clear c3
    obtain rfl := Option.some.inj H
    go_wp2
    go_ret
    exact ⟨q0, Short.hB HB⟩
   rw [if_pos c3] at H
   have c3b0 : decide (x8_1 < (l0.length : Int)) = true := decide_eq_true c3
   clear c3
   by_cases c4 : 0 ≤ x8_1
   rotate_left
   ·
    rw [if_neg c4] at H
    exact absurd H (by simp)
   rw [if_pos c4] at H
   have c4b0 : decide (0 ≤ x8_1) = true := decide_eq_true c4
   clear c4
   by_cases c5 : x8_1 < (l0.length : Int)
   rotate_left
   ·
    rw [if_neg c5] at H
    exact absurd H (by simp)
   rw [if_pos c5] at H
   have c5b0 : decide (x8_1 < (l0.length : Int)) = true := decide_eq_true c5
   clear c5
   replace H := Option.bind_eq_some_iff.mp H
   obtain ⟨t177, A60, H⟩ := H
   replace H : (if t177 = true then (some x8_1) else (slices_IndexFunc_at_row_wrong.l0 k1 l0 (l0.length : Int) (wrap64 (x8_1 + 1)))) = some r := H
   have A6 := mk_ A60
   clear A60
   by_cases c7 : t177 = true
   ·
    subst c7
    rw [if_pos rfl] at H
    obtain rfl := Option.some.inj H
    have p176 : 0 ≤ (x8_1 : Int) := of_decide_eq_true z1_
    have q176 : x8_1 < (l0.length : Int) := of_decide_eq_true z1_
    obtain ⟨ad176, e176, hx176_0, hx176_1, hx176_2⟩ := at_T84 HR0.out x8_1 p176 q176
    cases e176
    replace hx176_0 := up_ HB hx176_0
    replace hx176_1 := up_ HB hx176_1
    replace hx176_2 := up_ HB hx176_2
    replace p176 := eq_true p176
    replace q176 := eq_true q176
    go_wp2_with (first | ((first | ((with_reducible refine gate_callee (f := 86) rfl ?_); refine Short.gL (some 16) Try.func86 #[.agg #[.int .i64 ((rd_T84 l0 x8_1).f0), .int .i64 ((rd_T84 l0 x8_1).f1), .string ((rd_T84 l0 x8_1).f2)]] (h := ?_)) | ((with_reducible refine Go.Proofs.Ytjnjfogfpmeacaa.Steps.gate_any rfl ?_); refine Go.Proofs.Ytjnjfogfpmeacaa.Steps.goesV_ (some 16) rfl rfl Try.func86 z0_ rfl #[.agg #[.int .i64 ((rd_T84 l0 x8_1).f0), .int .i64 ((rd_T84 l0 x8_1).f1), .string ((rd_T84 l0 x8_1).f2)]] rfl (by first | rfl | go_simp) z2_ ?_)); (with_reducible refine (row_wrong.calls ((rd_T84 l0 x8_1).f0) ((rd_T84 l0 x8_1).f1) ((rd_T84 l0 x8_1).f2) true _ A6.out).mono ?_); rintro e w8 ⟨rfl, hb⟩; refine ⟨_, rfl, ?_⟩; have n0_ := mk_ (below_step (Short.hB HB) hb); clear HB; revert n0_; intro HB; (try clear hb)))
    go_ret
    exact ⟨q0, Short.hB HB⟩
   replace c7 := Bool.eq_false_iff.mpr c7
   subst c7
   rw [if_neg (show ¬ (false = true) by decide)] at H
   have H' := mk_ H
   clear H
   have p176 : 0 ≤ (x8_1 : Int) := of_decide_eq_true z1_
   have q176 : x8_1 < (l0.length : Int) := of_decide_eq_true z1_
   obtain ⟨ad176, e176, hx176_0, hx176_1, hx176_2⟩ := at_T84 HR0.out x8_1 p176 q176
   cases e176
   replace hx176_0 := up_ HB hx176_0
   replace hx176_1 := up_ HB hx176_1
   replace hx176_2 := up_ HB hx176_2
   replace p176 := eq_true p176
   replace q176 := eq_true q176
   go_wp2_with (first | ((first | ((with_reducible refine gate_callee (f := 86) rfl ?_); refine Short.gL (some 16) Try.func86 #[.agg #[.int .i64 ((rd_T84 l0 x8_1).f0), .int .i64 ((rd_T84 l0 x8_1).f1), .string ((rd_T84 l0 x8_1).f2)]] (h := ?_)) | ((with_reducible refine Go.Proofs.Ytjnjfogfpmeacaa.Steps.gate_any rfl ?_); refine Go.Proofs.Ytjnjfogfpmeacaa.Steps.goesV_ (some 16) rfl rfl Try.func86 z0_ rfl #[.agg #[.int .i64 ((rd_T84 l0 x8_1).f0), .int .i64 ((rd_T84 l0 x8_1).f1), .string ((rd_T84 l0 x8_1).f2)]] rfl (by first | rfl | go_simp) z2_ ?_)); (with_reducible refine (row_wrong.calls ((rd_T84 l0 x8_1).f0) ((rd_T84 l0 x8_1).f1) ((rd_T84 l0 x8_1).f2) false _ A6.out).mono ?_); rintro e w9 ⟨rfl, hb⟩; refine ⟨_, rfl, ?_⟩; have n0_ := mk_ (below_step (Short.hB HB) hb); clear HB; revert n0_; intro HB; (try clear hb)))
   go_roundg k1
   case measure => have := HK1.out; omega
   case rel => exact ⟨(wrap64 (x8_1 + 1)), z3_, H', ⟨by have := HK1.out; omega⟩, ⟨Short.hB HB⟩⟩
def slices_ContainsFunc_at_row_wrong.f (k : Nat) (l0 : List (S84)) (a1 : Unit) : Option (Bool) := (slices_IndexFunc_at_row_wrong.f k l0 a1).bind fun t178 => (some (decide (t178 ≥ 0)))
theorem slices_ContainsFunc_at_row_wrong.calls (k : Nat) (A0 : Option Addr) (c0 : Nat) (l0 : List (S84)) (a1 : Unit) (r : Bool) (w : World) (hr0 : Kd.C k84 w A0 l0.length l0) (hc0 : l0.length ≤ c0) (h : slices_ContainsFunc_at_row_wrong.f k l0 a1 = some r) :
  Calls Try.prog 85 #[.slice A0 l0.length c0, .func (.func 86) #[] #[]] w fun e w' => e = .returned (.bool r) ∧ Below w.heap.size w w' := by
 have HR0 := mk_ hr0
 have HC0 := mk_ hc0
 clear hr0 hc0
 have HB := mk_ (Below.refl w.heap.size w)
 have H : ((slices_IndexFunc_at_row_wrong.f k l0 a1).bind fun t178 => (some (decide (t178 ≥ 0)))) = some r := h
 clear h
 replace H := Option.bind_eq_some_iff.mp H
 obtain ⟨t178, A30, H⟩ := H
 replace H : (some (decide (t178 ≥ 0))) = some r := H
 have A3 := mk_ A30
 clear A30
 obtain rfl := Option.some.inj H
 go_enter Try.func85, Try.ntmps85
 go_wp2_with (first | ((first | ((with_reducible refine gate_callee (f := 106) rfl ?_); refine Short.gL (some 7) Try.func106 #[.slice A0 l0.length c0, .func (.func 86) #[] #[]] (h := ?_)) | ((with_reducible refine Go.Proofs.Ytjnjfogfpmeacaa.Steps.gate_any rfl ?_); refine Go.Proofs.Ytjnjfogfpmeacaa.Steps.goesV_ (some 7) rfl rfl Try.func106 z0_ rfl #[.slice A0 l0.length c0, .func (.func 86) #[] #[]] rfl (by first | rfl | go_simp) z2_ ?_)); (with_reducible refine (slices_IndexFunc_at_row_wrong.calls k _ _ l0 a1 t178 _ ?side1 ?side2 A3.out).mono ?_); (case side1 => repeat (first | exact HR0.out | (with_reducible refine C_alloc ?_ _) | (with_reducible refine C_drewN ?_ _) | (with_reducible refine C_drew ?_))); (case side2 => exact HC0.out); rintro e w4 ⟨rfl, hb⟩; refine ⟨_, rfl, ?_⟩; have n0_ := mk_ (below_step (Short.hB HB) hb); clear HB; revert n0_; intro HB; (try clear hb)))
 go_ret
 exact ⟨q0, Short.hB HB⟩
def row_Check.f (k : Nat) (l0 : List (S84)) : Option (Int) := if (l0.length : Int) > 12 then (some 2) else ((slices_ContainsFunc_at_row_wrong.f k l0 ()).bind fun t179 => (if t179 = true then (some 1) else (some 0)))
theorem row_Check.calls (k : Nat) (A0 : Option Addr) (c0 : Nat) (l0 : List (S84)) (r : Int) (w : World) (hr0 : Kd.C k84 w A0 l0.length l0) (hc0 : l0.length ≤ c0) (h : row_Check.f k l0 = some r) :
  Calls Try.prog 46 #[.slice A0 l0.length c0] w fun e w' => e = .returned (.int .i64 r) ∧ Below w.heap.size w w' := by
 have HR0 := mk_ hr0
 have HC0 := mk_ hc0
 clear hr0 hc0
 have HB := mk_ (Below.refl w.heap.size w)
 have H : (if (l0.length : Int) > 12 then (some 2) else ((slices_ContainsFunc_at_row_wrong.f k l0 ()).bind fun t179 => (if t179 = true then (some 1) else (some 0)))) = some r := h
 clear h
 by_cases c2 : (l0.length : Int) > 12
 ·
  rw [if_pos c2] at H
  have c2b0 : decide (12 < (l0.length : Int)) = true := decide_eq_true c2
  have c2b1 : decide (12 < l0.length) = true := decide_eq_true z4_
  clear c2
  obtain rfl := Option.some.inj H
  go_enter Try.func46, Try.ntmps46
  go_wp2
  go_ret
  exact ⟨q0, Short.hB HB⟩
 rw [if_neg c2] at H
 have c2b0 : decide (12 < (l0.length : Int)) = false := decide_eq_false c2
 have c2b1 : decide (12 < l0.length) = false := decide_eq_false z4_
 clear c2
 replace H := Option.bind_eq_some_iff.mp H
 obtain ⟨t179, A30, H⟩ := H
 replace H : (if t179 = true then (some 1) else (some 0)) = some r := H
 have A3 := mk_ A30
 clear A30
 by_cases c4 : t179 = true
 ·
  subst c4
  rw [if_pos rfl] at H
  obtain rfl := Option.some.inj H
  go_enter Try.func46, Try.ntmps46
  go_wp2_with (first | ((with_reducible refine gate_callee (f := 85) rfl ?_); refine Short.gL (some 9) Try.func85 #[.slice A0 l0.length c0, .func (.func 86) #[] #[]] (h := ?_); (with_reducible refine (slices_ContainsFunc_at_row_wrong.calls k _ _ l0 () true _ ?side1 ?side2 A3.out).mono ?_); (case side1 => repeat (first | exact HR0.out | (with_reducible refine C_alloc ?_ _) | (with_reducible refine C_drewN ?_ _) | (with_reducible refine C_drew ?_))); (case side2 => exact HC0.out); rintro e w5 ⟨rfl, hb⟩; refine ⟨_, rfl, ?_⟩; have n0_ := mk_ (below_step (Short.hB HB) hb); clear HB; revert n0_; intro HB; (try clear hb)))
  go_ret
  exact ⟨q0, Short.hB HB⟩
 replace c4 := Bool.eq_false_iff.mpr c4
 subst c4
 rw [if_neg (show ¬ (false = true) by decide)] at H
 obtain rfl := Option.some.inj H
 go_enter Try.func46, Try.ntmps46
 go_wp2_with (first | ((with_reducible refine gate_callee (f := 85) rfl ?_); refine Short.gL (some 9) Try.func85 #[.slice A0 l0.length c0, .func (.func 86) #[] #[]] (h := ?_); (with_reducible refine (slices_ContainsFunc_at_row_wrong.calls k _ _ l0 () false _ ?side1 ?side2 A3.out).mono ?_); (case side1 => repeat (first | exact HR0.out | (with_reducible refine C_alloc ?_ _) | (with_reducible refine C_drewN ?_ _) | (with_reducible refine C_drew ?_))); (case side2 => exact HC0.out); rintro e w6 ⟨rfl, hb⟩; refine ⟨_, rfl, ?_⟩; have n0_ := mk_ (below_step (Short.hB HB) hb); clear HB; revert n0_; intro HB; (try clear hb)))
 go_ret
 exact ⟨q0, Short.hB HB⟩
def slices_Clone_byte_byte.f (l0 : List Int) : Option (List Int) := (some (([] : List Int) : List Int)).bind fun y180 => (if y180.length + l0.length < 140737488355328 then (some (y180 ++ l0)) else (none))
theorem slices_Clone_byte_byte.calls (A0 : Option Addr) (c0 : Nat) (l0 : List Int) (r : List Int) (w : World) (hr0 : Kd.C (Kd.int .u8) w A0 l0.length l0) (hc0 : l0.length ≤ c0) (h : slices_Clone_byte_byte.f l0 = some r) :
  Calls Try.prog 109 #[.slice A0 l0.length c0] w fun e w' => ∃ v0_ : Value, e = .returned (v0_) ∧ Kd.R (Kd.int .u8) 5 w' w.heap.size (fun _ => True) v0_ r ∧ Below w.heap.size w w' := by
 have HR0 := mk_ hr0
 have HC0 := mk_ hc0
 clear hr0 hc0
 cases A0 with
 | none =>
  have hl_ : l0 = [] := by
   rcases l0 with _ | ⟨x_, xs_⟩
   ·
    rfl
   ·
    obtain ⟨ad_, e_, _⟩ := HR0.out.2.2 (by simp)
    exact absurd e_ (by simp)
  subst hl_
  have hr_ : r = [] := by simpa [slices_Clone_byte_byte.f] using h.symm
  subst hr_
  have hnil_ := fun W : World => Lib.run_eql_slice_nil (P := Try.prog) W 22 5 none 0 c0 0 0 Try.underlying22
  go_enter Try.func109, Try.ntmps109
  go_wp2
  go_ret
  exact ⟨_, rfl, R_nil _ _ _ _ _, Below.refl _ _⟩
 | some a0_ =>
 have hnil_ := fun W : World => Lib.run_eql_slice_nil (P := Try.prog) W 22 5 (some a0_) l0.length c0 0 0 Try.underlying22
 have HB := mk_ (Below.refl w.heap.size w)
 have H : ((some (([] : List Int) : List Int)).bind fun y180 => (if y180.length + l0.length < 140737488355328 then (some (y180 ++ l0)) else (none))) = some r := h
 clear h
 obtain ⟨y180, hy180⟩ : ∃ y_ : List Int, y_ = (([] : List Int)) := ⟨_, rfl⟩
 replace H : (if y180.length + l0.length < 140737488355328 then (some (y180 ++ l0)) else (none)) = some r := by first | (rw [hy180]; with_reducible exact H) | (have H2_ := (Option.bind_some _ _).symm.trans H; rw [hy180]; with_reducible exact H2_) | (have H2_ := (Option.bind_some _ _).symm.trans H; with_reducible exact H2_) | with_reducible exact H | (rw [hy180]; exact H) | exact H
 have Ny180 := mk_ hy180
 clear hy180
 by_cases c2 : y180.length + l0.length < 140737488355328
 rotate_left
 ·
  rw [if_neg c2] at H
  exact absurd H (by simp)
 rw [if_pos c2] at H
 have LMc2 := mk_ c2
 clear c2
 obtain ⟨y183, hy183⟩ : ∃ y_ : List Int, y_ = (y180 ++ l0) := ⟨_, rfl⟩
 replace H : (some y183) = some r := by first | (rw [hy183]; with_reducible exact H) | (have H2_ := (Option.bind_some _ _).symm.trans H; rw [hy183]; with_reducible exact H2_) | (have H2_ := (Option.bind_some _ _).symm.trans H; with_reducible exact H2_) | with_reducible exact H | (rw [hy183]; exact H) | exact H
 have Ny183 := mk_ hy183
 clear hy183
 obtain rfl := Option.some.inj H
 go_enter Try.func109, Try.ntmps109
 go_wp2_with (first | ((with_reducible refine gate_dst (N := 5) rfl ?_); refine R_lit (Kd.int .u8) _ 5 ?hg (N := 5) ?hd (xs := ([] : List Int)) (inner := []) (ok := fun _ => True) (okp := fun _ => True) ?hr ?hp (fun _ hk => hk) trivial (Below.refl _ _) (Nat.le_refl _) (by simp) ?_; (case hd => rfl); (case hg => rfl); (case hr => first | (go_simp; done) | (go_simp; rfl)); (case hp => exact (Reps.none _ _)); intro v181 w3 ho4 hb hg_ hnew_; clear hg_ hnew_; (first | rw [← Ny180.out] at ho4 | (simp only [Int.reduceToNat] at ho4; rw [← Ny180.out] at ho4)); have n0_ := mk_ (R_lower ho4 (below_size (Short.hB HB))); have n1_ := mk_ (below_step (Short.hB HB) hb); clear HB; revert n0_ n1_; intro HO182 HB; clear hb ho4) | ((with_reducible refine gate_builtin (b := .append) (xs := #[.tmp 5, .tmp 6]) rfl ?_); at_builtin; refine R_append_rows (Kd.int .u8) (w0 := w) w.heap.size rfl (.tmp 5) (.tmp 6) 22 5 (.int .u8 0) 1 rfl Try.underlying22 info5 rfl z5_ z4_ v181 y180 l0 _ _ _ (fun _ => True) (fun _ => False) rfl rfl ?aO ?aR (fun _ _ h => h) (fun _ h => h.elim) ?aF ?aB ?aS ?aL ?_; (case aR => exact cX_ (C_below HR0.out HB.out)); (case aB => exact (Short.hB HB)); (case aF => exact (fun _ _ => trivial)); (case aO => exact (ZKR HO182)); (case aS => exact (below_size (Short.hB HB))); (case aL => have := LMc2.out; omega); intro v184 w5 ho hb hg hat; rw [← Ny183.out] at ho; have n0_ := mk_ (hb); have n1_ := mk_ (ho); clear HB HO182; revert n0_ n1_; intro HB HO185; clear ho hb hg hat))
 go_ret
 exact ⟨_, by first | rfl | (simp [errW_none, errW_some] <;> rfl) | (simp [*, errW_none, errW_some] <;> rfl), by (with_reducible repeat (first | apply R_alloc | apply R_drewN | apply R_drew)); exact HO185.out, Short.hB HB⟩
end Go.Proofs.Ytjnjfogfpmeacaa.PAll
end
section
namespace Go.Proofs.Ytjnjfogfpmeacaa.PAll
open Go.RowKit PrintWords PrintLast PrintMore ZipT PrintWords.Kd PrintMore.Kd
attribute [local go_sem] max2_int min2_int max_two min_two max_three min_three max_four min_four   -- for this text's walks alone
set_option linter.unusedVariables false
set_option linter.unusedSimpArgs false
def wire_big.l0 : Nat → Int → List Int → Int → Option (List Int)
 | 0, _, _, _ => none
 | k + 1, x1, x7, x8 => if x8 ≥ 0 then (if 0 ≤ (wrap64 (8 * x8)) then (if x7.length < 140737488355328 then (wire_big.l0 k x1 (x7 ++ [(shr .i64 x1 (wrap64 (8 * x8))) % 256]) (wrap64 (x8 - 1))) else (none)) else (none)) else (some x7)
def wire_big.f (k : Nat) (l0 : List Int) (a1 : Int) (a2 : Int) : Option (List Int) := (slices_Clone_byte_byte.f l0).bind fun t186 => (wire_big.l0 k a1 t186 (wrap64 (a2 - 1)))
theorem wire_big.calls (k : Nat) (A0 : Option Addr) (c0 : Nat) (l0 : List Int) (a1 : Int) (a2 : Int) (r : List Int) (w : World) (hr0 : Kd.C (Kd.int .u8) w A0 l0.length l0) (hc0 : l0.length ≤ c0) (h : wire_big.f k l0 a1 a2 = some r) :
  Calls Try.prog 108 #[.slice A0 l0.length c0, .int .i64 a1, .int .i64 a2] w fun e w' => ∃ v0_ : Value, e = .returned (v0_) ∧ Kd.R (Kd.int .u8) 5 w' w.heap.size (fun _ => True) v0_ r ∧ Below w.heap.size w w' := by
 have HR0 := mk_ hr0
 have HC0 := mk_ hc0
 clear hr0 hc0
 have HB := mk_ (Below.refl w.heap.size w)
 have H : ((slices_Clone_byte_byte.f l0).bind fun t186 => (wire_big.l0 k a1 t186 (wrap64 (a2 - 1)))) = some r := h
 clear h
 replace H := Option.bind_eq_some_iff.mp H
 obtain ⟨t186, A40, H⟩ := H
 replace H : (wire_big.l0 k a1 t186 (wrap64 (a2 - 1))) = some r := H
 have A4 := mk_ A40
 clear A40
 have H' := mk_ H
 clear H
 go_enter Try.func108, Try.ntmps108
 go_wp2_with (first | ((with_reducible refine gate_callee (f := 109) rfl ?_); refine Short.gL (some 10) Try.func109 #[.slice A0 l0.length c0] (h := ?_); (with_reducible refine (slices_Clone_byte_byte.calls _ _ l0 t186 _ ?side1 ?side2 A4.out).mono ?_); (case side1 => repeat (first | exact HR0.out | (with_reducible refine C_alloc ?_ _) | (with_reducible refine C_drewN ?_ _) | (with_reducible refine C_drew ?_))); (case side2 => exact HC0.out); rintro e w5 ⟨v187, rfl, ho0, hb⟩; refine ⟨_, rfl, ?_⟩; have n0_ := mk_ (R_lower ho0 (below_size (Short.hB HB))); have n1_ := mk_ (below_step (Short.hB HB) hb); clear HB; revert n0_ n1_; intro HO188 HB; (try clear hb ho0)))
 go_loopg [7, 8] k (fun kq v7 v8 w' => ∃ (x7_1 : List Int) (x8_1 : Int), v8 = .int .i64 x8_1 ∧ Aside0 (wire_big.l0 kq a1 x7_1 x8_1 = some r) ∧ Aside0 (kq ≤ k) ∧ Aside0 (Kd.R (Kd.int .u8) 5 w' w.heap.size (fun _ => True) v7 x7_1) ∧ Aside0 (Below w.heap.size w w'))
 case atStart => exact ⟨(t186), (wrap64 (a2 - 1)), z3_, H', ⟨Nat.le_refl _⟩, ⟨by (with_reducible repeat (first | apply R_alloc | apply R_drewN | apply R_drew)); exact HO188.out⟩, ⟨Short.hB HB⟩⟩
 case round =>
  clear H'
  try clear c1
  try clear p2
  obtain ⟨x7_1, x8_1, rfl, HA, HK1, HO_7, HB⟩ := hrel
  cases gk with
  | zero => exact absurd HA.out (by simp [wire_big.l0])
  | succ k1 =>
   have H := HA.out
   clear HA
   simp only [wire_big.l0] at H
   by_cases c6 : x8_1 ≥ 0
   rotate_left
   ·
    rw [if_neg c6] at H
    have c6b0 : decide (0 ≤ x8_1) = false := decide_eq_false c6
    clear c6
    obtain rfl := Option.some.inj H
    go_wp2
    go_ret
    exact ⟨_, by first | rfl | (simp [errW_none, errW_some] <;> rfl) | (simp [*, errW_none, errW_some] <;> rfl), by (with_reducible repeat (first | apply R_alloc | apply R_drewN | apply R_drew)); exact HO_7.out, Short.hB HB⟩
   rw [if_pos c6] at H
   have c6b0 : decide (0 ≤ x8_1) = true := decide_eq_true c6
   clear c6
   obtain ⟨ji7, hji7⟩ : ∃ j_ : Int, (wrap64 (8 * x8_1)) = j_ := ⟨_, rfl⟩
   replace H : (if 0 ≤ (ji7) then (if x7_1.length < 140737488355328 then (wire_big.l0 k1 a1 (x7_1 ++ [(shr .i64 a1 (ji7)) % 256]) (wrap64 (x8_1 - 1))) else (none)) else (none)) = some r := by first | (rw [hji7] at H; exact H) | (simp only [hji7] at H ⊢; exact H)
   have hji7w : (IntKind.i64.wrap (8 * x8_1)) = ji7 := (i64_w _).trans hji7
   by_cases c8 : 0 ≤ (ji7)
   rotate_left
   ·
    rw [if_neg c8] at H
    exact absurd H (by simp)
   rw [if_pos c8] at H
   have c8b0 := eq_true c8
   have c8b1 : decide (0 ≤ (ji7)) = true := decide_eq_true c8
   clear c8
   obtain ⟨ji9, hji9⟩ : ∃ j_ : Int, (shr .i64 a1 (ji7)) = j_ := ⟨_, rfl⟩
   replace H : (if x7_1.length < 140737488355328 then (wire_big.l0 k1 a1 (x7_1 ++ [(ji9) % 256]) (wrap64 (x8_1 - 1))) else (none)) = some r := by first | (rw [hji9] at H; exact H) | (simp only [hji9] at H ⊢; exact H)
   have hji9_ : (a1 / 2 ^ min (ji7).toNat 64) = ji9 := hji9
   have hji9z : (ji7) ≤ 64 → (a1 / 2 ^ (ji7).toNat) = ji9 := shr_small hji9
   by_cases c10 : x7_1.length < 140737488355328
   rotate_left
   ·
    rw [if_neg c10] at H
    exact absurd H (by simp)
   rw [if_pos c10] at H
   have LMc10 := mk_ c10
   clear c10
   obtain ⟨y189, hy189⟩ : ∃ y_ : List Int, y_ = (x7_1 ++ [(ji9) % 256]) := ⟨_, rfl⟩
   replace H : (wire_big.l0 k1 a1 y189 (wrap64 (x8_1 - 1))) = some r := by first | (rw [hy189]; with_reducible exact H) | (have H2_ := (Option.bind_some _ _).symm.trans H; rw [hy189]; with_reducible exact H2_) | (have H2_ := (Option.bind_some _ _).symm.trans H; with_reducible exact H2_) | with_reducible exact H | (rw [hy189]; exact H) | exact H
   have Ny189 := mk_ hy189
   clear hy189
   have H' := mk_ H
   clear H
   go_wp2_with (first | ((with_reducible refine gate_builtin (b := .append) (xs := #[.tmp 17, .tmp 23]) rfl ?_); at_builtin; refine R_append (Kd.int .u8) (w0 := w) w.heap.size rfl (.tmp 17) (.tmp 23) 22 5 (.int .u8 0) 1 rfl Try.underlying22 info5 rfl z5_ z4_ u7 x7_1 ((ji9) % 256) [.int .u8 ((ji9) % 256)] (fun _ => True) (fun _ => False) rfl rfl ?aP (fun _ hk => hk.elim) ?aF ?aO ?aB ?aS ?aL ?_; (case aP => exact rfl); (case aB => exact (Short.hB HB)); (case aF => exact (fun _ _ => trivial)); (case aO => exact (ZKR HO_7)); (case aS => exact (below_size (Short.hB HB))); (case aL => have := LMc10.out; omega); intro v190 w11 ho hb hg hat; rw [← Ny189.out] at ho; have n0_ := mk_ (hb); have n1_ := mk_ (ho); clear HB HO_7; revert n0_ n1_; intro HB HO191; clear ho hb hg hat))
   go_roundg k1
   case measure => have := HK1.out; omega
   case rel => exact ⟨(y189), (wrap64 (x8_1 - 1)), z3_, H', ⟨by have := HK1.out; omega⟩, ⟨by (with_reducible repeat (first | apply R_alloc | apply R_drewN | apply R_drew)); exact HO191.out⟩, ⟨Short.hB HB⟩⟩
def wire_PutInt.j0 : Nat → List Int → Int → Bool → Option (List Int × Int)
 | 0, _, _, _ => none
 | k + 1, x0, x1, x12 => if x12 = true then (some (([] : List Int), 1)) else (if x1 < 0 then ((slices_Clone_byte_byte.f x0).bind fun t192 => (if t192.length < 140737488355328 then ((wire_big.f k (t192 ++ [1]) (wrap64 (-x1)) 8).bind fun t198 => (some (t198, 0))) else (none))) else ((slices_Clone_byte_byte.f x0).bind fun t201 => (if t201.length < 140737488355328 then ((wire_big.f k (t201 ++ [0]) x1 8).bind fun t207 => (some (t207, 0))) else (none))))
def wire_PutInt.f (k : Nat) (l0 : List Int) (a1 : Int) : Option (List Int × Int) := if a1 < (-1152921504606846976) then (wire_PutInt.j0 k l0 a1 true) else (wire_PutInt.j0 k l0 a1 (decide (a1 > 1152921504606846976)))
theorem wire_PutInt.calls (k : Nat) (A0 : Option Addr) (c0 : Nat) (l0 : List Int) (a1 : Int) (r1 : List Int) (r2 : Int) (w : World) (hr0 : Kd.C (Kd.int .u8) w A0 l0.length l0) (hc0 : l0.length ≤ c0) (h : wire_PutInt.f k l0 a1 = some (r1, r2)) :
  Calls Try.prog 88 #[.slice A0 l0.length c0, .int .i64 a1] w fun e w' => ∃ v0_ : Value, e = .returned (.tuple #[v0_, .int .i64 r2]) ∧ Kd.R (Kd.int .u8) 5 w' w.heap.size (fun _ => True) v0_ r1 ∧ Below w.heap.size w w' := by
 have HR0 := mk_ hr0
 have HC0 := mk_ hc0
 clear hr0 hc0
 have HB := mk_ (Below.refl w.heap.size w)
 have H : (if a1 < (-1152921504606846976) then (wire_PutInt.j0 k l0 a1 true) else (wire_PutInt.j0 k l0 a1 (decide (a1 > 1152921504606846976)))) = some (r1, r2) := h
 clear h
 have HC3 := mk_ H
 clear H
 go_enter Try.func88, Try.ntmps88
 go_upto_region 1 with (fail)
 go_cut [12] (fun v12 wc => ∃ (kq : Nat) (x12_2 : Bool), v12 = .bool x12_2 ∧ Aside0 (wire_PutInt.j0 kq l0 a1 x12_2 = some (r1, r2)) ∧ Aside0 (kq ≤ k) ∧ Aside0 (Below w.heap.size w wc))
 case first =>
  have H := HC3.out
  clear HC3
  by_cases c4 : a1 < (-1152921504606846976)
  ·
   rw [if_pos c4] at H
   have c4b0 : decide (a1 < (-1152921504606846976)) = true := decide_eq_true c4
   clear c4
   (first | rw [c4b0] | (simp only [i64_w, i32_w]; rw [c4b0]) | skip)
   have H' := mk_ H
   clear H
   go_wp2
   go_meet
   case rel => exact ⟨_, (true), z3_, H', ⟨by first | omega | exact Nat.le_refl _⟩, ⟨Short.hB HB⟩⟩
  rw [if_neg c4] at H
  have c4b0 : decide (a1 < (-1152921504606846976)) = false := decide_eq_false c4
  clear c4
  (first | rw [c4b0] | (simp only [i64_w, i32_w]; rw [c4b0]) | skip)
  have H' := mk_ H
  clear H
  go_wp2
  go_meet
  case rel => exact ⟨_, (decide (a1 > 1152921504606846976)), z3_, H', ⟨by first | omega | exact Nat.le_refl _⟩, ⟨Short.hB HB⟩⟩
 case rest => as_aux_lemma =>
  clear HC3
  try clear p2
  try clear c4
  try clear c4b0
  obtain ⟨kq, x12_2, rfl, HA, HJ2, HB⟩ := hcut
  cases kq with
  | zero => exact absurd HA.out (by simp [wire_PutInt.j0])
  | succ kj2 =>
   have H := HA.out
   clear HA
   simp only [wire_PutInt.j0] at H
   by_cases c5 : x12_2 = true
   ·
    subst c5
    rw [if_pos rfl] at H
    simp only [Option.some.injEq, Prod.mk.injEq] at H
    obtain ⟨rfl, rfl⟩ := H
    go_wp2
    go_ret2
    exact ⟨_, by first | rfl | (simp [errW_none, errW_some] <;> rfl) | (simp [*, errW_none, errW_some] <;> rfl), by first | exact R_nil _ _ _ _ _ | exact N_nil _ _ _ _ _ | exact V_nil _ _ _ _ _ | exact Q_nil _ _ _ _ _ | exact S_nil _ _ _ _ _, Short.hB HB⟩
   ·
    replace c5 := Bool.eq_false_iff.mpr c5
    subst c5
    rw [if_neg (show ¬ (false = true) by decide)] at H
    by_cases c6 : a1 < 0
    ·
     rw [if_pos c6] at H
     have c6b0 : decide (a1 < 0) = true := decide_eq_true c6
     clear c6
     replace H := Option.bind_eq_some_iff.mp H
     obtain ⟨t192, A70, H⟩ := H
     replace H : (if t192.length < 140737488355328 then ((wire_big.f kj2 (t192 ++ [1]) (wrap64 (-a1)) 8).bind fun t198 => (some (t198, 0))) else (none)) = some (r1, r2) := H
     have A7 := mk_ A70
     clear A70
     by_cases c8 : t192.length < 140737488355328
     ·
      rw [if_pos c8] at H
      have LMc8 := mk_ c8
      clear c8
      obtain ⟨y195, hy195⟩ : ∃ y_ : List Int, y_ = (t192 ++ [1]) := ⟨_, rfl⟩
      replace H : ((wire_big.f kj2 y195 (wrap64 (-a1)) 8).bind fun t198 => (some (t198, 0))) = some (r1, r2) := by first | (rw [hy195]; with_reducible exact H) | (have H2_ := (Option.bind_some _ _).symm.trans H; rw [hy195]; with_reducible exact H2_) | (have H2_ := (Option.bind_some _ _).symm.trans H; with_reducible exact H2_) | with_reducible exact H | (rw [hy195]; exact H) | exact H
      have Ny195 := mk_ hy195
      clear hy195
      replace H := Option.bind_eq_some_iff.mp H
      obtain ⟨t198, A90, H⟩ := H
      replace H : (some (t198, 0)) = some (r1, r2) := H
      have A9 := mk_ A90
      clear A90
      simp only [Option.some.injEq, Prod.mk.injEq] at H
      obtain ⟨rfl, rfl⟩ := H
      go_wp2_with (first | ((with_reducible refine gate_callee (f := 109) rfl ?_); refine Short.gL (some 18) Try.func109 #[.slice A0 l0.length c0] (h := ?_); (with_reducible refine (slices_Clone_byte_byte.calls _ _ l0 t192 _ ?side1 ?side2 A7.out).mono ?_); (case side1 => exact cX_ (C_below HR0.out HB.out)); (case side2 => exact HC0.out); rintro e w10 ⟨v193, rfl, ho0, hb⟩; refine ⟨_, rfl, ?_⟩; have n0_ := mk_ (R_lower ho0 (below_size (Short.hB HB))); have n1_ := mk_ (below_step (Short.hB HB) hb); clear HB; revert n0_ n1_; intro HO194 HB; (try clear hb ho0)) | ((with_reducible refine gate_builtin (b := .append) (xs := #[.tmp 18, .tmp 20]) rfl ?_); at_builtin; refine R_append (Kd.int .u8) (w0 := w) w.heap.size rfl (.tmp 18) (.tmp 20) 22 5 (.int .u8 0) 1 rfl Try.underlying22 info5 rfl z5_ z4_ v193 t192 1 [.int .u8 1] (fun _ => True) (fun _ => False) rfl rfl ?aP (fun _ hk => hk.elim) ?aF ?aO ?aB ?aS ?aL ?_; (case aP => exact rfl); (case aB => exact (Short.hB HB)); (case aF => exact (fun _ _ => trivial)); (case aO => exact (ZKR HO194)); (case aS => exact (below_size (Short.hB HB))); (case aL => have := LMc8.out; omega); intro v196 w11 ho hb hg hat; rw [← Ny195.out] at ho; have n0_ := mk_ (hb); have n1_ := mk_ (ho); clear HB HO194; revert n0_ n1_; intro HB HO197; clear ho hb hg hat; obtain ⟨Ao12, co12, eo12⟩ := R_slice HO197.out; subst eo12) | ((with_reducible refine gate_callee (f := 108) rfl ?_); refine Short.gL (some 23) Try.func108 #[.slice Ao12 y195.length co12, .int .i64 (wrap64 (-a1)), .int .i64 8] (h := ?_); (with_reducible refine (wire_big.calls kj2 _ _ y195 (wrap64 (-a1)) 8 t198 _ ?side1 ?side2 A9.out).mono ?_); (case side1 => exact cX_ (R_reads' HO197.out).2.2); (case side2 => exact (R_reads' HO197.out).2.1); rintro e w13 ⟨v199, rfl, ho0, hb⟩; refine ⟨_, rfl, ?_⟩; have n0_ := mk_ (R_elder' (ZKR HO197) (R_base ho0) hb); have n1_ := mk_ (R_lower (R_new' ho0 (R_lt (ZKR HO197))) (below_size (Short.hB HB))); have n2_ := mk_ (below_step (Short.hB HB) hb); clear HO197 HB; revert n0_ n1_ n2_; intro HO197 HO200 HB; (try clear hb ho0)))
      go_ret2
      exact ⟨_, by first | rfl | (simp [errW_none, errW_some] <;> rfl) | (simp [*, errW_none, errW_some] <;> rfl), by (with_reducible repeat (first | apply R_alloc | apply R_drewN | apply R_drew)); exact R_mono HO200.out (fun _ hk => trivial), Short.hB HB⟩
     ·
      rw [if_neg c8] at H
      exact absurd H (by simp)
    ·
     rw [if_neg c6] at H
     have c6b0 : decide (a1 < 0) = false := decide_eq_false c6
     clear c6
     replace H := Option.bind_eq_some_iff.mp H
     obtain ⟨t201, A140, H⟩ := H
     replace H : (if t201.length < 140737488355328 then ((wire_big.f kj2 (t201 ++ [0]) a1 8).bind fun t207 => (some (t207, 0))) else (none)) = some (r1, r2) := H
     have A14 := mk_ A140
     clear A140
     by_cases c15 : t201.length < 140737488355328
     ·
      rw [if_pos c15] at H
      have LMc15 := mk_ c15
      clear c15
      obtain ⟨y204, hy204⟩ : ∃ y_ : List Int, y_ = (t201 ++ [0]) := ⟨_, rfl⟩
      replace H : ((wire_big.f kj2 y204 a1 8).bind fun t207 => (some (t207, 0))) = some (r1, r2) := by first | (rw [hy204]; with_reducible exact H) | (have H2_ := (Option.bind_some _ _).symm.trans H; rw [hy204]; with_reducible exact H2_) | (have H2_ := (Option.bind_some _ _).symm.trans H; with_reducible exact H2_) | with_reducible exact H | (rw [hy204]; exact H) | exact H
      have Ny204 := mk_ hy204
      clear hy204
      replace H := Option.bind_eq_some_iff.mp H
      obtain ⟨t207, A160, H⟩ := H
      replace H : (some (t207, 0)) = some (r1, r2) := H
      have A16 := mk_ A160
      clear A160
      simp only [Option.some.injEq, Prod.mk.injEq] at H
      obtain ⟨rfl, rfl⟩ := H
      go_wp2_with (first | ((with_reducible refine gate_callee (f := 109) rfl ?_); refine Short.gL (some 18) Try.func109 #[.slice A0 l0.length c0] (h := ?_); (with_reducible refine (slices_Clone_byte_byte.calls _ _ l0 t201 _ ?side1 ?side2 A14.out).mono ?_); (case side1 => exact cX_ (C_below HR0.out HB.out)); (case side2 => exact HC0.out); rintro e w17 ⟨v202, rfl, ho0, hb⟩; refine ⟨_, rfl, ?_⟩; have n0_ := mk_ (R_lower ho0 (below_size (Short.hB HB))); have n1_ := mk_ (below_step (Short.hB HB) hb); clear HB; revert n0_ n1_; intro HO203 HB; (try clear hb ho0)) | ((with_reducible refine gate_builtin (b := .append) (xs := #[.tmp 18, .tmp 20]) rfl ?_); at_builtin; refine R_append (Kd.int .u8) (w0 := w) w.heap.size rfl (.tmp 18) (.tmp 20) 22 5 (.int .u8 0) 1 rfl Try.underlying22 info5 rfl z5_ z4_ v202 t201 0 [.int .u8 0] (fun _ => True) (fun _ => False) rfl rfl ?aP (fun _ hk => hk.elim) ?aF ?aO ?aB ?aS ?aL ?_; (case aP => exact rfl); (case aB => exact (Short.hB HB)); (case aF => exact (fun _ _ => trivial)); (case aO => exact (ZKR HO203)); (case aS => exact (below_size (Short.hB HB))); (case aL => have := LMc15.out; omega); intro v205 w18 ho hb hg hat; rw [← Ny204.out] at ho; have n0_ := mk_ (hb); have n1_ := mk_ (ho); clear HB HO203; revert n0_ n1_; intro HB HO206; clear ho hb hg hat; obtain ⟨Ao19, co19, eo19⟩ := R_slice HO206.out; subst eo19) | ((with_reducible refine gate_callee (f := 108) rfl ?_); refine Short.gL (some 23) Try.func108 #[.slice Ao19 y204.length co19, .int .i64 a1, .int .i64 8] (h := ?_); (with_reducible refine (wire_big.calls kj2 _ _ y204 a1 8 t207 _ ?side1 ?side2 A16.out).mono ?_); (case side1 => exact cX_ (R_reads' HO206.out).2.2); (case side2 => exact (R_reads' HO206.out).2.1); rintro e w20 ⟨v208, rfl, ho0, hb⟩; refine ⟨_, rfl, ?_⟩; have n0_ := mk_ (R_elder' (ZKR HO206) (R_base ho0) hb); have n1_ := mk_ (R_lower (R_new' ho0 (R_lt (ZKR HO206))) (below_size (Short.hB HB))); have n2_ := mk_ (below_step (Short.hB HB) hb); clear HO206 HB; revert n0_ n1_ n2_; intro HO206 HO209 HB; (try clear hb ho0)))
      go_ret2
      exact ⟨_, by first | rfl | (simp [errW_none, errW_some] <;> rfl) | (simp [*, errW_none, errW_some] <;> rfl), by (with_reducible repeat (first | apply R_alloc | apply R_drewN | apply R_drew)); exact R_mono HO209.out (fun _ hk => trivial), Short.hB HB⟩
     ·
      rw [if_neg c15] at H
      exact absurd H (by simp)
def wire_PutText.f (l0 : List Int) (a1 : ByteArray) : Option (List Int × Int) := if (a1.size : Int) > 24 then (some (([] : List Int), 2)) else ((slices_Clone_byte_byte.f l0).bind fun t210 => (if t210.length < 140737488355328 then ((some (t210 ++ [((a1.size : Int)) % 256] : List Int)).bind fun y213 => (if y213.length + a1.size < 140737488355328 then (some ((y213 ++ bytesOf a1), 0)) else (none))) else (none)))
theorem wire_PutText.calls (A0 : Option Addr) (c0 : Nat) (l0 : List Int) (a1 : ByteArray) (r1 : List Int) (r2 : Int) (w : World) (hr0 : Kd.C (Kd.int .u8) w A0 l0.length l0) (hc0 : l0.length ≤ c0) (h : wire_PutText.f l0 a1 = some (r1, r2)) :
  Calls Try.prog 89 #[.slice A0 l0.length c0, .string a1] w fun e w' => ∃ v0_ : Value, e = .returned (.tuple #[v0_, .int .i64 r2]) ∧ Kd.R (Kd.int .u8) 5 w' w.heap.size (fun _ => True) v0_ r1 ∧ Below w.heap.size w w' := by
 have HR0 := mk_ hr0
 have HC0 := mk_ hc0
 clear hr0 hc0
 have HB := mk_ (Below.refl w.heap.size w)
 have H : (if (a1.size : Int) > 24 then (some (([] : List Int), 2)) else ((slices_Clone_byte_byte.f l0).bind fun t210 => (if t210.length < 140737488355328 then ((some (t210 ++ [((a1.size : Int)) % 256] : List Int)).bind fun y213 => (if y213.length + a1.size < 140737488355328 then (some ((y213 ++ bytesOf a1), 0)) else (none))) else (none)))) = some (r1, r2) := h
 clear h
 by_cases c3 : (a1.size : Int) > 24
 ·
  rw [if_pos c3] at H
  have c3b0 : decide (24 < (a1.size : Int)) = true := decide_eq_true c3
  have c3b1 : decide (24 < a1.size) = true := decide_eq_true z4_
  clear c3
  simp only [Option.some.injEq, Prod.mk.injEq] at H
  obtain ⟨rfl, rfl⟩ := H
  go_enter Try.func89, Try.ntmps89
  go_wp2
  go_ret2
  exact ⟨_, by first | rfl | (simp [errW_none, errW_some] <;> rfl) | (simp [*, errW_none, errW_some] <;> rfl), by first | exact R_nil _ _ _ _ _ | exact N_nil _ _ _ _ _ | exact V_nil _ _ _ _ _ | exact Q_nil _ _ _ _ _ | exact S_nil _ _ _ _ _, Short.hB HB⟩
 rw [if_neg c3] at H
 have c3b0 : decide (24 < (a1.size : Int)) = false := decide_eq_false c3
 have c3b1 : decide (24 < a1.size) = false := decide_eq_false z4_
 clear c3
 replace H := Option.bind_eq_some_iff.mp H
 obtain ⟨t210, A40, H⟩ := H
 replace H : (if t210.length < 140737488355328 then ((some (t210 ++ [((a1.size : Int)) % 256] : List Int)).bind fun y213 => (if y213.length + a1.size < 140737488355328 then (some ((y213 ++ bytesOf a1), 0)) else (none))) else (none)) = some (r1, r2) := H
 have A4 := mk_ A40
 clear A40
 by_cases c5 : t210.length < 140737488355328
 rotate_left
 ·
  rw [if_neg c5] at H
  exact absurd H (by simp)
 rw [if_pos c5] at H
 have LMc5 := mk_ c5
 clear c5
 obtain ⟨y213, hy213⟩ : ∃ y_ : List Int, y_ = (t210 ++ [((a1.size : Int)) % 256]) := ⟨_, rfl⟩
 replace H : (if y213.length + a1.size < 140737488355328 then (some ((y213 ++ bytesOf a1), 0)) else (none)) = some (r1, r2) := by first | (rw [hy213]; with_reducible exact H) | (have H2_ := (Option.bind_some _ _).symm.trans H; rw [hy213]; with_reducible exact H2_) | (have H2_ := (Option.bind_some _ _).symm.trans H; with_reducible exact H2_) | with_reducible exact H | (rw [hy213]; exact H) | exact H
 have Ny213 := mk_ hy213
 clear hy213
 by_cases c6 : y213.length + a1.size < 140737488355328
 rotate_left
 ·
  rw [if_neg c6] at H
  exact absurd H (by simp)
 rw [if_pos c6] at H
 have LMc6 := mk_ c6
 clear c6
 obtain ⟨y216, hy216⟩ : ∃ y_ : List Int, y_ = (y213 ++ bytesOf a1) := ⟨_, rfl⟩
 replace H : (some (y216, 0)) = some (r1, r2) := by first | (rw [hy216]; with_reducible exact H) | (have H2_ := (Option.bind_some _ _).symm.trans H; rw [hy216]; with_reducible exact H2_) | (have H2_ := (Option.bind_some _ _).symm.trans H; with_reducible exact H2_) | with_reducible exact H | (rw [hy216]; exact H) | exact H
 have Ny216 := mk_ hy216
 clear hy216
 simp only [Option.some.injEq, Prod.mk.injEq] at H
 obtain ⟨rfl, rfl⟩ := H
 go_enter Try.func89, Try.ntmps89
 go_wp2_with (first | ((with_reducible refine gate_callee (f := 109) rfl ?_); refine Short.gL (some 10) Try.func109 #[.slice A0 l0.length c0] (h := ?_); (with_reducible refine (slices_Clone_byte_byte.calls _ _ l0 t210 _ ?side1 ?side2 A4.out).mono ?_); (case side1 => repeat (first | exact HR0.out | (with_reducible refine C_alloc ?_ _) | (with_reducible refine C_drewN ?_ _) | (with_reducible refine C_drew ?_))); (case side2 => exact HC0.out); rintro e w7 ⟨v211, rfl, ho0, hb⟩; refine ⟨_, rfl, ?_⟩; have n0_ := mk_ (R_lower ho0 (below_size (Short.hB HB))); have n1_ := mk_ (below_step (Short.hB HB) hb); clear HB; revert n0_ n1_; intro HO212 HB; (try clear hb ho0)) | ((with_reducible refine gate_builtin (b := .append) (xs := #[.tmp 10, .tmp 14]) rfl ?_); at_builtin; refine R_append (Kd.int .u8) (w0 := w) w.heap.size rfl (.tmp 10) (.tmp 14) 22 5 (.int .u8 0) 1 rfl Try.underlying22 info5 rfl z5_ z4_ v211 t210 (((a1.size : Int)) % 256) [.int .u8 (((a1.size : Int)) % 256)] (fun _ => True) (fun _ => False) rfl rfl ?aP (fun _ hk => hk.elim) ?aF ?aO ?aB ?aS ?aL ?_; (case aP => exact rfl); (case aB => exact (Short.hB HB)); (case aF => exact (fun _ _ => trivial)); (case aO => exact (ZKR HO212)); (case aS => exact (below_size (Short.hB HB))); (case aL => have := LMc5.out; omega); intro v214 w8 ho hb hg hat; rw [← Ny213.out] at ho; have n0_ := mk_ (hb); have n1_ := mk_ (ho); clear HB HO212; revert n0_ n1_; intro HB HO215; clear ho hb hg hat) | (at_builtin; refine print_append_str (w0 := w) w.heap.size rfl (.tmp 15) _ 22 9 5 rfl Try.underlying22 Try.underlying9 info5 v214 y213 a1 rfl rfl ?aO ?aB ?aS ?aL ?_; (case aB => exact (Short.hB HB)); (case aO => exact (Kd.own_of_R (ZKR HO215))); (case aS => exact (below_size (Short.hB HB))); (case aL => have := LMc6.out; omega); intro v217 w9 ho0 hb hg; have ho := R_of_own (h1 := fun _ => rfl) (ok := fun _ => True) ho0 (fun _ _ => trivial); clear ho0; have hat := True.intro; rw [← Ny216.out] at ho; change Kd.R (Kd.int .u8) 5 w9 w.heap.size (fun _ => True) v217 y216 at ho; have n0_ := mk_ (hb); have n1_ := mk_ (ho); clear HB HO215; revert n0_ n1_; intro HB HO218; clear ho hb hg hat))
 go_ret2
 exact ⟨_, by first | rfl | (simp [errW_none, errW_some] <;> rfl) | (simp [*, errW_none, errW_some] <;> rfl), by (with_reducible repeat (first | apply R_alloc | apply R_drewN | apply R_drew)); exact HO218.out, Short.hB HB⟩
def value_Bytes.f (k : Nat) (a0_0 : Int) (a0_1 : Int) (a0_2 : ByteArray) : Option (List Int × Int) := (value_Check.f a0_0 a0_1 a0_2).bind fun t220 => (if t220 = 0 then ((some (([(a0_0) % 256] : List Int) : List Int)).bind fun y221 => (if a0_0 = 2 then (if y221.length < 140737488355328 then (some ((y221 ++ [(a0_1) % 256]), 0)) else (none)) else (if a0_0 = 3 then ((wire_PutInt.f k y221 a0_1).bind fun bt227 => (some (bt227.1, bt227.2))) else (if a0_0 = 4 then ((wire_PutText.f y221 a0_2).bind fun bt231 => (some (bt231.1, bt231.2))) else (some (y221, 0)))))) else (some (([] : List Int), t220)))
theorem value_Bytes.calls (k : Nat) (a0_0 : Int) (a0_1 : Int) (a0_2 : ByteArray) (r1 : List Int) (r2 : Int) (w : World) (h : value_Bytes.f k a0_0 a0_1 a0_2 = some (r1, r2)) :
  Calls Try.prog 47 #[.agg #[.int .i64 a0_0, .int .i64 a0_1, .string a0_2]] w fun e w' => ∃ v0_ : Value, e = .returned (.tuple #[v0_, .int .i64 r2]) ∧ Kd.R (Kd.int .u8) 5 w' w.heap.size (fun _ => True) v0_ r1 ∧ Below w.heap.size w w' := by
 have hu84 := Try.underlying84
 have HB := mk_ (Below.refl w.heap.size w)
 have H : ((value_Check.f a0_0 a0_1 a0_2).bind fun t220 => (if t220 = 0 then ((some (([(a0_0) % 256] : List Int) : List Int)).bind fun y221 => (if a0_0 = 2 then (if y221.length < 140737488355328 then (some ((y221 ++ [(a0_1) % 256]), 0)) else (none)) else (if a0_0 = 3 then ((wire_PutInt.f k y221 a0_1).bind fun bt227 => (some (bt227.1, bt227.2))) else (if a0_0 = 4 then ((wire_PutText.f y221 a0_2).bind fun bt231 => (some (bt231.1, bt231.2))) else (some (y221, 0)))))) else (some (([] : List Int), t220)))) = some (r1, r2) := h
 clear h
 replace H := Option.bind_eq_some_iff.mp H
 obtain ⟨t220, A20, H⟩ := H
 replace H : (if t220 = 0 then ((some (([(a0_0) % 256] : List Int) : List Int)).bind fun y221 => (if a0_0 = 2 then (if y221.length < 140737488355328 then (some ((y221 ++ [(a0_1) % 256]), 0)) else (none)) else (if a0_0 = 3 then ((wire_PutInt.f k y221 a0_1).bind fun bt227 => (some (bt227.1, bt227.2))) else (if a0_0 = 4 then ((wire_PutText.f y221 a0_2).bind fun bt231 => (some (bt231.1, bt231.2))) else (some (y221, 0)))))) else (some (([] : List Int), t220))) = some (r1, r2) := H
 have A2 := mk_ A20
 clear A20
 by_cases c3 : t220 = 0
 rotate_left
 ·
  rw [if_neg c3] at H
  have c3b0 : (t220 == 0) = false := beq_eq_false_iff_ne.mpr c3
  have c3b1 : (t220 != 0) = true := bne_iff_ne.mpr c3
  simp only [Option.some.injEq, Prod.mk.injEq] at H
  obtain ⟨rfl, rfl⟩ := H
  go_enter Try.func47, Try.ntmps47
  go_wp2_with (first | ((with_reducible refine gate_dst (N := 1) rfl ?_); refine box_event ?hg (N := 1) ?hd (cs := #[.int .i64 a0_0, .int .i64 a0_1, .string a0_2]) (t := 84) ?hr ?_; (case hd => rfl); (case hg => rfl); (case hr => first | (go_simp; done) | (go_simp; rfl)); intro gb219 hg w43 hbox hb; have n0_ := mk_ (below_step (Short.hB HB) hb); have n1_ := mk_ (hbox); have n2_ := mk_ ((by rw [hg]; exact (below_size (Short.hB HB)) : w.heap.size ≤ gb219)); have n3_ := mk_ ((by rw [hg]; exact (below_size (Short.hB HB)) : w.heap.size ≤ gb219)); clear HB; revert n0_ n1_ n2_ n3_; intro HB BK219 GW219 GE219; clear hb hbox hg; obtain ⟨hcz44_0, hcz44_1, hcz44_2, hfz44_0, hfz44_1, hfz44_2⟩ := Short.c3 BK219.out) | ((with_reducible refine gate_callee (f := 87) rfl ?_); refine Short.gL (some 7) Try.func87 #[.agg #[.int .i64 a0_0, .int .i64 a0_1, .string a0_2]] (h := ?_); (with_reducible refine (value_Check.calls a0_0 a0_1 a0_2 t220 _ A2.out).mono ?_); rintro e w45 ⟨rfl, hb⟩; refine ⟨_, rfl, ?_⟩; have n0_ := mk_ (bB_ BK219 hb); have n1_ := mk_ (below_step (Short.hB HB) hb); clear BK219 HB; revert n0_ n1_; intro BK219 HB; (try clear hb)))
  go_ret2
  exact ⟨_, by first | rfl | (simp [errW_none, errW_some] <;> rfl) | (simp [*, errW_none, errW_some] <;> rfl), by first | exact R_nil _ _ _ _ _ | exact N_nil _ _ _ _ _ | exact V_nil _ _ _ _ _ | exact Q_nil _ _ _ _ _ | exact S_nil _ _ _ _ _, Short.hB HB⟩
 rw [if_pos c3] at H
 have c3b0 : (t220 == 0) = true := beq_iff_eq.mpr c3
 have c3b1 : (t220 != 0) = false := bne_eq_false_iff_eq.mpr c3
 clear c3
 obtain ⟨y221, hy221⟩ : ∃ y_ : List Int, y_ = (([(a0_0) % 256] : List Int)) := ⟨_, rfl⟩
 replace H : (if a0_0 = 2 then (if y221.length < 140737488355328 then (some ((y221 ++ [(a0_1) % 256]), 0)) else (none)) else (if a0_0 = 3 then ((wire_PutInt.f k y221 a0_1).bind fun bt227 => (some (bt227.1, bt227.2))) else (if a0_0 = 4 then ((wire_PutText.f y221 a0_2).bind fun bt231 => (some (bt231.1, bt231.2))) else (some (y221, 0))))) = some (r1, r2) := by first | (rw [hy221]; with_reducible exact H) | (have H2_ := (Option.bind_some _ _).symm.trans H; rw [hy221]; with_reducible exact H2_) | (have H2_ := (Option.bind_some _ _).symm.trans H; with_reducible exact H2_) | with_reducible exact H | (rw [hy221]; exact H) | exact H
 have Ny221 := mk_ hy221
 clear hy221
 by_cases c4 : a0_0 = 2
 ·
  rw [if_pos c4] at H
  have c4b0 : (a0_0 == 2) = true := beq_iff_eq.mpr c4
  have c4b1 : (a0_0 != 2) = false := bne_eq_false_iff_eq.mpr c4
  clear c4
  by_cases c5 : y221.length < 140737488355328
  rotate_left
  ·
   rw [if_neg c5] at H
   exact absurd H (by simp)
  rw [if_pos c5] at H
  have LMc5 := mk_ c5
  clear c5
  obtain ⟨y224, hy224⟩ : ∃ y_ : List Int, y_ = (y221 ++ [(a0_1) % 256]) := ⟨_, rfl⟩
  replace H : (some (y224, 0)) = some (r1, r2) := by first | (rw [hy224]; with_reducible exact H) | (have H2_ := (Option.bind_some _ _).symm.trans H; rw [hy224]; with_reducible exact H2_) | (have H2_ := (Option.bind_some _ _).symm.trans H; with_reducible exact H2_) | with_reducible exact H | (rw [hy224]; exact H) | exact H
  have Ny224 := mk_ hy224
  clear hy224
  simp only [Option.some.injEq, Prod.mk.injEq] at H
  obtain ⟨rfl, rfl⟩ := H
  go_enter Try.func47, Try.ntmps47
  go_wp2_with (first | ((with_reducible refine gate_dst (N := 1) rfl ?_); refine box_event ?hg (N := 1) ?hd (cs := #[.int .i64 a0_0, .int .i64 a0_1, .string a0_2]) (t := 84) ?hr ?_; (case hd => rfl); (case hg => rfl); (case hr => first | (go_simp; done) | (go_simp; rfl)); intro gb219 hg w6 hbox hb; have n0_ := mk_ (below_step (Short.hB HB) hb); have n1_ := mk_ (hbox); have n2_ := mk_ ((by rw [hg]; exact (below_size (Short.hB HB)) : w.heap.size ≤ gb219)); have n3_ := mk_ ((by rw [hg]; exact (below_size (Short.hB HB)) : w.heap.size ≤ gb219)); clear HB; revert n0_ n1_ n2_ n3_; intro HB BK219 GW219 GE219; clear hb hbox hg; obtain ⟨hcz7_0, hcz7_1, hcz7_2, hfz7_0, hfz7_1, hfz7_2⟩ := Short.c3 BK219.out) | ((with_reducible refine gate_callee (f := 87) rfl ?_); refine Short.gL (some 7) Try.func87 #[.agg #[.int .i64 a0_0, .int .i64 a0_1, .string a0_2]] (h := ?_); (with_reducible refine (value_Check.calls a0_0 a0_1 a0_2 t220 _ A2.out).mono ?_); rintro e w8 ⟨rfl, hb⟩; refine ⟨_, rfl, ?_⟩; have n0_ := mk_ (bB_ BK219 hb); have n1_ := mk_ (below_step (Short.hB HB) hb); clear BK219 HB; revert n0_ n1_; intro BK219 HB; (try clear hb); obtain ⟨hcz9_0, hcz9_1, hcz9_2, hfz9_0, hfz9_1, hfz9_2⟩ := Short.c3 BK219.out) | ((with_reducible refine gate_dst (N := 14) rfl ?_); refine R_lit (Kd.int .u8) _ 5 ?hg (N := 14) ?hd (xs := ([(a0_0) % 256] : List Int)) (inner := [.int .u8 ((a0_0) % 256)]) (ok := fun _ => True) (okp := fun _ => True) ?hr ?hp (fun _ hk => hk) trivial (Below.refl _ _) (Nat.le_refl _) (by simp) ?_; (case hd => rfl); (case hg => rfl); (case hr => first | (go_simp; done) | (go_simp; rfl)); (case hp => exact (Reps.one (show Kd.M (Kd.int .u8) _ _ _ ((a0_0) % 256) [.int .u8 ((a0_0) % 256)] from rfl) (Reps.none _ _))); intro v222 w10 ho11 hb hg_ hnew_; clear hg_ hnew_; (first | rw [← Ny221.out] at ho11 | (simp only [Int.reduceToNat] at ho11; rw [← Ny221.out] at ho11)); have n0_ := mk_ (R_lower ho11 (below_size (Short.hB HB))); have n1_ := mk_ (bB_ BK219 hb); have n2_ := mk_ (below_step (Short.hB HB) hb); clear BK219 HB; revert n0_ n1_ n2_; intro HO223 BK219 HB; clear hb ho11; obtain ⟨hcz12_0, hcz12_1, hcz12_2, hfz12_0, hfz12_1, hfz12_2⟩ := Short.c3 BK219.out) | ((with_reducible refine gate_builtin (b := .append) (xs := #[.tmp 19, .tmp 23]) rfl ?_); at_builtin; refine R_append (Kd.int .u8) (w0 := w) w.heap.size rfl (.tmp 19) (.tmp 23) 22 5 (.int .u8 0) 1 rfl Try.underlying22 info5 rfl z5_ z4_ v222 y221 ((a0_1) % 256) [.int .u8 ((a0_1) % 256)] (fun _ => True) (fun _ => False) rfl rfl ?aP (fun _ hk => hk.elim) ?aF ?aO ?aB ?aS ?aL ?_; (case aP => exact rfl); (case aB => exact (Short.hB HB)); (case aF => exact (fun _ _ => trivial)); (case aO => exact (ZKR HO223)); (case aS => exact (below_size (Short.hB HB))); (case aL => have := LMc5.out; omega); intro v225 w13 ho hb hg hat; rw [← Ny224.out] at ho; have n0_ := mk_ (blk_grown (g := gb219) (o := .cells #[.int .i64 a0_0, .int .i64 a0_1, .string a0_2] 84 (0, 0)) (Short.bK BK219) hg (R_ne HO223.out BK219.out z5_)); have n1_ := mk_ (hb); have n2_ := mk_ (ho); clear BK219 HB HO223; revert n0_ n1_ n2_; intro BK219 HB HO226; clear ho hb hg hat))
  go_ret2
  exact ⟨_, by first | rfl | (simp [errW_none, errW_some] <;> rfl) | (simp [*, errW_none, errW_some] <;> rfl), by (with_reducible repeat (first | apply R_alloc | apply R_drewN | apply R_drew)); exact HO226.out, Short.hB HB⟩
 rw [if_neg c4] at H
 have c4b0 : (a0_0 == 2) = false := beq_eq_false_iff_ne.mpr c4
 have c4b1 : (a0_0 != 2) = true := bne_iff_ne.mpr c4
 by_cases c14 : a0_0 = 3
 ·
  rw [if_pos c14] at H
  have c14b0 : (a0_0 == 3) = true := beq_iff_eq.mpr c14
  have c14b1 : (a0_0 != 3) = false := bne_eq_false_iff_eq.mpr c14
  clear c14
  replace H := Option.bind_eq_some_iff.mp H
  obtain ⟨⟨t227, t228⟩, A150, H⟩ := H
  replace H : (some (t227, t228)) = some (r1, r2) := H
  have A15 := mk_ A150
  clear A150
  simp only [Option.some.injEq, Prod.mk.injEq] at H
  obtain ⟨rfl, rfl⟩ := H
  go_enter Try.func47, Try.ntmps47
  go_wp2_with (first | ((with_reducible refine gate_dst (N := 1) rfl ?_); refine box_event ?hg (N := 1) ?hd (cs := #[.int .i64 a0_0, .int .i64 a0_1, .string a0_2]) (t := 84) ?hr ?_; (case hd => rfl); (case hg => rfl); (case hr => first | (go_simp; done) | (go_simp; rfl)); intro gb219 hg w16 hbox hb; have n0_ := mk_ (below_step (Short.hB HB) hb); have n1_ := mk_ (hbox); have n2_ := mk_ ((by rw [hg]; exact (below_size (Short.hB HB)) : w.heap.size ≤ gb219)); have n3_ := mk_ ((by rw [hg]; exact (below_size (Short.hB HB)) : w.heap.size ≤ gb219)); clear HB; revert n0_ n1_ n2_ n3_; intro HB BK219 GW219 GE219; clear hb hbox hg; obtain ⟨hcz17_0, hcz17_1, hcz17_2, hfz17_0, hfz17_1, hfz17_2⟩ := Short.c3 BK219.out) | ((with_reducible refine gate_callee (f := 87) rfl ?_); refine Short.gL (some 7) Try.func87 #[.agg #[.int .i64 a0_0, .int .i64 a0_1, .string a0_2]] (h := ?_); (with_reducible refine (value_Check.calls a0_0 a0_1 a0_2 t220 _ A2.out).mono ?_); rintro e w18 ⟨rfl, hb⟩; refine ⟨_, rfl, ?_⟩; have n0_ := mk_ (bB_ BK219 hb); have n1_ := mk_ (below_step (Short.hB HB) hb); clear BK219 HB; revert n0_ n1_; intro BK219 HB; (try clear hb); obtain ⟨hcz19_0, hcz19_1, hcz19_2, hfz19_0, hfz19_1, hfz19_2⟩ := Short.c3 BK219.out) | ((with_reducible refine gate_dst (N := 14) rfl ?_); refine R_lit (Kd.int .u8) _ 5 ?hg (N := 14) ?hd (xs := ([(a0_0) % 256] : List Int)) (inner := [.int .u8 ((a0_0) % 256)]) (ok := fun _ => True) (okp := fun _ => True) ?hr ?hp (fun _ hk => hk) trivial (Below.refl _ _) (Nat.le_refl _) (by simp) ?_; (case hd => rfl); (case hg => rfl); (case hr => first | (go_simp; done) | (go_simp; rfl)); (case hp => exact (Reps.one (show Kd.M (Kd.int .u8) _ _ _ ((a0_0) % 256) [.int .u8 ((a0_0) % 256)] from rfl) (Reps.none _ _))); intro v222 w20 ho21 hb hg_ hnew_; clear hg_ hnew_; (first | rw [← Ny221.out] at ho21 | (simp only [Int.reduceToNat] at ho21; rw [← Ny221.out] at ho21)); have n0_ := mk_ (R_lower ho21 (below_size (Short.hB HB))); have n1_ := mk_ (bB_ BK219 hb); have n2_ := mk_ (below_step (Short.hB HB) hb); clear BK219 HB; revert n0_ n1_ n2_; intro HO223 BK219 HB; clear hb ho21; obtain ⟨hcz22_0, hcz22_1, hcz22_2, hfz22_0, hfz22_1, hfz22_2⟩ := Short.c3 BK219.out; obtain ⟨Ao23, co23, eo23⟩ := R_slice HO223.out; subst eo23) | ((with_reducible refine gate_callee (f := 88) rfl ?_); refine Short.gL (some 30) Try.func88 #[.slice Ao23 y221.length co23, .int .i64 a0_1] (h := ?_); (with_reducible refine (wire_PutInt.calls k _ _ y221 a0_1 t227 t228 _ ?side1 ?side2 A15.out).mono ?_); (case side1 => exact cX_ (R_reads' HO223.out).2.2); (case side2 => exact (R_reads' HO223.out).2.1); rintro e w24 ⟨v229, rfl, ho0, hb⟩; refine ⟨_, rfl, ?_⟩; have n0_ := mk_ (R_elder' (ZKR HO223) (R_base ho0) hb); have n1_ := mk_ (R_lower (R_new' ho0 (R_lt (ZKR HO223))) (below_size (Short.hB HB))); have n2_ := mk_ (bB_ BK219 hb); have n3_ := mk_ (below_step (Short.hB HB) hb); clear HO223 BK219 HB; revert n0_ n1_ n2_ n3_; intro HO223 HO230 BK219 HB; (try clear hb ho0)))
  go_ret2
  exact ⟨_, by first | rfl | (simp [errW_none, errW_some] <;> rfl) | (simp [*, errW_none, errW_some] <;> rfl), by (with_reducible repeat (first | apply R_alloc | apply R_drewN | apply R_drew)); exact R_mono HO230.out (fun _ hk => trivial), Short.hB HB⟩
 rw [if_neg c14] at H
 have c14b0 : (a0_0 == 3) = false := beq_eq_false_iff_ne.mpr c14
 have c14b1 : (a0_0 != 3) = true := bne_iff_ne.mpr c14
 by_cases c25 : a0_0 = 4
 rotate_left
 ·
  rw [if_neg c25] at H
  have c25b0 : (a0_0 == 4) = false := beq_eq_false_iff_ne.mpr c25
  have c25b1 : (a0_0 != 4) = true := bne_iff_ne.mpr c25
  simp only [Option.some.injEq, Prod.mk.injEq] at H
  obtain ⟨rfl, rfl⟩ := H
  go_enter Try.func47, Try.ntmps47
  go_wp2_with (first | ((with_reducible refine gate_dst (N := 1) rfl ?_); refine box_event ?hg (N := 1) ?hd (cs := #[.int .i64 a0_0, .int .i64 a0_1, .string a0_2]) (t := 84) ?hr ?_; (case hd => rfl); (case hg => rfl); (case hr => first | (go_simp; done) | (go_simp; rfl)); intro gb219 hg w36 hbox hb; have n0_ := mk_ (below_step (Short.hB HB) hb); have n1_ := mk_ (hbox); have n2_ := mk_ ((by rw [hg]; exact (below_size (Short.hB HB)) : w.heap.size ≤ gb219)); have n3_ := mk_ ((by rw [hg]; exact (below_size (Short.hB HB)) : w.heap.size ≤ gb219)); clear HB; revert n0_ n1_ n2_ n3_; intro HB BK219 GW219 GE219; clear hb hbox hg; obtain ⟨hcz37_0, hcz37_1, hcz37_2, hfz37_0, hfz37_1, hfz37_2⟩ := Short.c3 BK219.out) | ((with_reducible refine gate_callee (f := 87) rfl ?_); refine Short.gL (some 7) Try.func87 #[.agg #[.int .i64 a0_0, .int .i64 a0_1, .string a0_2]] (h := ?_); (with_reducible refine (value_Check.calls a0_0 a0_1 a0_2 t220 _ A2.out).mono ?_); rintro e w38 ⟨rfl, hb⟩; refine ⟨_, rfl, ?_⟩; have n0_ := mk_ (bB_ BK219 hb); have n1_ := mk_ (below_step (Short.hB HB) hb); clear BK219 HB; revert n0_ n1_; intro BK219 HB; (try clear hb); obtain ⟨hcz39_0, hcz39_1, hcz39_2, hfz39_0, hfz39_1, hfz39_2⟩ := Short.c3 BK219.out) | ((with_reducible refine gate_dst (N := 14) rfl ?_); refine R_lit (Kd.int .u8) _ 5 ?hg (N := 14) ?hd (xs := ([(a0_0) % 256] : List Int)) (inner := [.int .u8 ((a0_0) % 256)]) (ok := fun _ => True) (okp := fun _ => True) ?hr ?hp (fun _ hk => hk) trivial (Below.refl _ _) (Nat.le_refl _) (by simp) ?_; (case hd => rfl); (case hg => rfl); (case hr => first | (go_simp; done) | (go_simp; rfl)); (case hp => exact (Reps.one (show Kd.M (Kd.int .u8) _ _ _ ((a0_0) % 256) [.int .u8 ((a0_0) % 256)] from rfl) (Reps.none _ _))); intro v222 w40 ho41 hb hg_ hnew_; clear hg_ hnew_; (first | rw [← Ny221.out] at ho41 | (simp only [Int.reduceToNat] at ho41; rw [← Ny221.out] at ho41)); have n0_ := mk_ (R_lower ho41 (below_size (Short.hB HB))); have n1_ := mk_ (bB_ BK219 hb); have n2_ := mk_ (below_step (Short.hB HB) hb); clear BK219 HB; revert n0_ n1_ n2_; intro HO223 BK219 HB; clear hb ho41; obtain ⟨hcz42_0, hcz42_1, hcz42_2, hfz42_0, hfz42_1, hfz42_2⟩ := Short.c3 BK219.out))
  go_ret2
  exact ⟨_, by first | rfl | (simp [errW_none, errW_some] <;> rfl) | (simp [*, errW_none, errW_some] <;> rfl), by (with_reducible repeat (first | apply R_alloc | apply R_drewN | apply R_drew)); exact HO223.out, Short.hB HB⟩
 rw [if_pos c25] at H
 have c25b0 : (a0_0 == 4) = true := beq_iff_eq.mpr c25
 have c25b1 : (a0_0 != 4) = false := bne_eq_false_iff_eq.mpr c25
 clear c25
 replace H := Option.bind_eq_some_iff.mp H
 obtain ⟨⟨t231, t232⟩, A260, H⟩ := H
 replace H : (some (t231, t232)) = some (r1, r2) := H
 have A26 := mk_ A260
 clear A260
 simp only [Option.some.injEq, Prod.mk.injEq] at H
 obtain ⟨rfl, rfl⟩ := H
 go_enter Try.func47, Try.ntmps47
 go_wp2_with (first | ((with_reducible refine gate_dst (N := 1) rfl ?_); refine box_event ?hg (N := 1) ?hd (cs := #[.int .i64 a0_0, .int .i64 a0_1, .string a0_2]) (t := 84) ?hr ?_; (case hd => rfl); (case hg => rfl); (case hr => first | (go_simp; done) | (go_simp; rfl)); intro gb219 hg w27 hbox hb; have n0_ := mk_ (below_step (Short.hB HB) hb); have n1_ := mk_ (hbox); have n2_ := mk_ ((by rw [hg]; exact (below_size (Short.hB HB)) : w.heap.size ≤ gb219)); have n3_ := mk_ ((by rw [hg]; exact (below_size (Short.hB HB)) : w.heap.size ≤ gb219)); clear HB; revert n0_ n1_ n2_ n3_; intro HB BK219 GW219 GE219; clear hb hbox hg; obtain ⟨hcz28_0, hcz28_1, hcz28_2, hfz28_0, hfz28_1, hfz28_2⟩ := Short.c3 BK219.out) | ((with_reducible refine gate_callee (f := 87) rfl ?_); refine Short.gL (some 7) Try.func87 #[.agg #[.int .i64 a0_0, .int .i64 a0_1, .string a0_2]] (h := ?_); (with_reducible refine (value_Check.calls a0_0 a0_1 a0_2 t220 _ A2.out).mono ?_); rintro e w29 ⟨rfl, hb⟩; refine ⟨_, rfl, ?_⟩; have n0_ := mk_ (bB_ BK219 hb); have n1_ := mk_ (below_step (Short.hB HB) hb); clear BK219 HB; revert n0_ n1_; intro BK219 HB; (try clear hb); obtain ⟨hcz30_0, hcz30_1, hcz30_2, hfz30_0, hfz30_1, hfz30_2⟩ := Short.c3 BK219.out) | ((with_reducible refine gate_dst (N := 14) rfl ?_); refine R_lit (Kd.int .u8) _ 5 ?hg (N := 14) ?hd (xs := ([(a0_0) % 256] : List Int)) (inner := [.int .u8 ((a0_0) % 256)]) (ok := fun _ => True) (okp := fun _ => True) ?hr ?hp (fun _ hk => hk) trivial (Below.refl _ _) (Nat.le_refl _) (by simp) ?_; (case hd => rfl); (case hg => rfl); (case hr => first | (go_simp; done) | (go_simp; rfl)); (case hp => exact (Reps.one (show Kd.M (Kd.int .u8) _ _ _ ((a0_0) % 256) [.int .u8 ((a0_0) % 256)] from rfl) (Reps.none _ _))); intro v222 w31 ho32 hb hg_ hnew_; clear hg_ hnew_; (first | rw [← Ny221.out] at ho32 | (simp only [Int.reduceToNat] at ho32; rw [← Ny221.out] at ho32)); have n0_ := mk_ (R_lower ho32 (below_size (Short.hB HB))); have n1_ := mk_ (bB_ BK219 hb); have n2_ := mk_ (below_step (Short.hB HB) hb); clear BK219 HB; revert n0_ n1_ n2_; intro HO223 BK219 HB; clear hb ho32; obtain ⟨hcz33_0, hcz33_1, hcz33_2, hfz33_0, hfz33_1, hfz33_2⟩ := Short.c3 BK219.out; obtain ⟨Ao34, co34, eo34⟩ := R_slice HO223.out; subst eo34) | ((with_reducible refine gate_callee (f := 89) rfl ?_); refine Short.gL (some 38) Try.func89 #[.slice Ao34 y221.length co34, .string a0_2] (h := ?_); (with_reducible refine (wire_PutText.calls _ _ y221 a0_2 t231 t232 _ ?side1 ?side2 A26.out).mono ?_); (case side1 => exact cX_ (R_reads' HO223.out).2.2); (case side2 => exact (R_reads' HO223.out).2.1); rintro e w35 ⟨v233, rfl, ho0, hb⟩; refine ⟨_, rfl, ?_⟩; have n0_ := mk_ (R_elder' (ZKR HO223) (R_base ho0) hb); have n1_ := mk_ (R_lower (R_new' ho0 (R_lt (ZKR HO223))) (below_size (Short.hB HB))); have n2_ := mk_ (bB_ BK219 hb); have n3_ := mk_ (below_step (Short.hB HB) hb); clear HO223 BK219 HB; revert n0_ n1_ n2_ n3_; intro HO223 HO234 BK219 HB; (try clear hb ho0)))
 go_ret2
 exact ⟨_, by first | rfl | (simp [errW_none, errW_some] <;> rfl) | (simp [*, errW_none, errW_some] <;> rfl), by (with_reducible repeat (first | apply R_alloc | apply R_drewN | apply R_drew)); exact R_mono HO234.out (fun _ hk => trivial), Short.hB HB⟩
def row_Bytes.l0 : Nat → List Int → List (S84) → Int → Int → Option (List Int × Int)
 | 0, _, _, _, _ => none
 | k + 1, x5, x19, x20, x21 => if x21 < x20 then (if 0 ≤ x21 then (if x21 < (x19.length : Int) then ((value_Bytes.f k ((rd_T84 x19 x21).f0) ((rd_T84 x19 x21).f1) ((rd_T84 x19 x21).f2)).bind fun bt241 => (if x5.length + bt241.1.length < 140737488355328 then (row_Bytes.l0 k (x5 ++ bt241.1) x19 x20 (wrap64 (x21 + 1))) else (none))) else (none)) else (none)) else (some (x5, 0))
def row_Bytes.f (k : Nat) (l0 : List (S84)) : Option (List Int × Int) := (row_Check.f k l0).bind fun t235 => (if t235 = 0 then (row_Bytes.l0 k (([((l0.length : Int)) % 256] : List Int)) l0 (l0.length : Int) 0) else (some (([] : List Int), t235)))
theorem row_Bytes.calls (k : Nat) (A0 : Option Addr) (c0 : Nat) (l0 : List (S84)) (r1 : List Int) (r2 : Int) (w : World) (hr0 : Kd.C k84 w A0 l0.length l0) (hc0 : l0.length ≤ c0) (h : row_Bytes.f k l0 = some (r1, r2)) :
  Calls Try.prog 23 #[.slice A0 l0.length c0] w fun e w' => ∃ v0_ : Value, e = .returned (.tuple #[v0_, .int .i64 r2]) ∧ Kd.R (Kd.int .u8) 5 w' w.heap.size (fun _ => True) v0_ r1 ∧ Below w.heap.size w w' := by
 have hu84 := Try.underlying84
 have HR0 := mk_ hr0
 have HC0 := mk_ hc0
 clear hr0 hc0
 have HB := mk_ (Below.refl w.heap.size w)
 have H : ((row_Check.f k l0).bind fun t235 => (if t235 = 0 then (row_Bytes.l0 k (([((l0.length : Int)) % 256] : List Int)) l0 (l0.length : Int) 0) else (some (([] : List Int), t235)))) = some (r1, r2) := h
 clear h
 replace H := Option.bind_eq_some_iff.mp H
 obtain ⟨t235, A20, H⟩ := H
 replace H : (if t235 = 0 then (row_Bytes.l0 k (([((l0.length : Int)) % 256] : List Int)) l0 (l0.length : Int) 0) else (some (([] : List Int), t235))) = some (r1, r2) := H
 have A2 := mk_ A20
 clear A20
 by_cases c3 : t235 = 0
 rotate_left
 ·
  rw [if_neg c3] at H
  have c3b0 : (t235 == 0) = false := beq_eq_false_iff_ne.mpr c3
  have c3b1 : (t235 != 0) = true := bne_iff_ne.mpr c3
  simp only [Option.some.injEq, Prod.mk.injEq] at H
  obtain ⟨rfl, rfl⟩ := H
  go_enter Try.func23, Try.ntmps23
  go_wp2_with (first | ((with_reducible refine gate_callee (f := 46) rfl ?_); refine Short.gL (some 11) Try.func46 #[.slice A0 l0.length c0] (h := ?_); (with_reducible refine (row_Check.calls k _ _ l0 t235 _ ?side1 ?side2 A2.out).mono ?_); (case side1 => repeat (first | exact HR0.out | (with_reducible refine C_alloc ?_ _) | (with_reducible refine C_drewN ?_ _) | (with_reducible refine C_drew ?_))); (case side2 => exact HC0.out); rintro e w17 ⟨rfl, hb⟩; refine ⟨_, rfl, ?_⟩; have n0_ := mk_ (below_step (Short.hB HB) hb); clear HB; revert n0_; intro HB; (try clear hb)))
  go_ret2
  exact ⟨_, by first | rfl | (simp [errW_none, errW_some] <;> rfl) | (simp [*, errW_none, errW_some] <;> rfl), by first | exact R_nil _ _ _ _ _ | exact N_nil _ _ _ _ _ | exact V_nil _ _ _ _ _ | exact Q_nil _ _ _ _ _ | exact S_nil _ _ _ _ _, Short.hB HB⟩
 rw [if_pos c3] at H
 have c3b0 : (t235 == 0) = true := beq_iff_eq.mpr c3
 have c3b1 : (t235 != 0) = false := bne_eq_false_iff_eq.mpr c3
 clear c3
 obtain ⟨y236, hy236⟩ : ∃ y_ : List Int, y_ = (([((l0.length : Int)) % 256] : List Int)) := ⟨_, rfl⟩
 replace H : (row_Bytes.l0 k y236 l0 (l0.length : Int) 0) = some (r1, r2) := by first | (rw [hy236]; with_reducible exact H) | (have H2_ := (Option.bind_some _ _).symm.trans H; rw [hy236]; with_reducible exact H2_) | (have H2_ := (Option.bind_some _ _).symm.trans H; with_reducible exact H2_) | with_reducible exact H | (rw [hy236]; exact H) | exact H
 have Ny236 := mk_ hy236
 clear hy236
 have H' := mk_ H
 clear H
 go_enter Try.func23, Try.ntmps23
 go_wp2_with (first | ((with_reducible refine gate_callee (f := 46) rfl ?_); refine Short.gL (some 11) Try.func46 #[.slice A0 l0.length c0] (h := ?_); (with_reducible refine (row_Check.calls k _ _ l0 t235 _ ?side1 ?side2 A2.out).mono ?_); (case side1 => repeat (first | exact HR0.out | (with_reducible refine C_alloc ?_ _) | (with_reducible refine C_drewN ?_ _) | (with_reducible refine C_drew ?_))); (case side2 => exact HC0.out); rintro e w4 ⟨rfl, hb⟩; refine ⟨_, rfl, ?_⟩; have n0_ := mk_ (below_step (Short.hB HB) hb); clear HB; revert n0_; intro HB; (try clear hb)) | ((with_reducible refine gate_dst (N := 18) rfl ?_); refine R_lit (Kd.int .u8) _ 5 ?hg (N := 18) ?hd (xs := ([((l0.length : Int)) % 256] : List Int)) (inner := [.int .u8 (((l0.length : Int)) % 256)]) (ok := fun _ => True) (okp := fun _ => True) ?hr ?hp (fun _ hk => hk) trivial (Below.refl _ _) (Nat.le_refl _) (by simp) ?_; (case hd => rfl); (case hg => rfl); (case hr => first | (go_simp; done) | (go_simp; rfl)); (case hp => exact (Reps.one (show Kd.M (Kd.int .u8) _ _ _ (((l0.length : Int)) % 256) [.int .u8 (((l0.length : Int)) % 256)] from rfl) (Reps.none _ _))); intro v237 w5 ho6 hb hg_ hnew_; clear hg_ hnew_; (first | rw [← Ny236.out] at ho6 | (simp only [Int.reduceToNat] at ho6; rw [← Ny236.out] at ho6)); have n0_ := mk_ (R_lower ho6 (below_size (Short.hB HB))); have n1_ := mk_ (below_step (Short.hB HB) hb); clear HB; revert n0_ n1_; intro HO238 HB; clear hb ho6))
 go_loopg [5, 21] k (fun kq v5 v21 w' => ∃ (x5_1 : List Int) (x21_1 : Int), v21 = .int .i64 x21_1 ∧ Aside0 (row_Bytes.l0 kq x5_1 l0 (l0.length : Int) x21_1 = some (r1, r2)) ∧ Aside0 (kq ≤ k) ∧ Aside0 (Kd.R (Kd.int .u8) 5 w' w.heap.size (fun _ => True) v5 x5_1) ∧ Aside0 (Below w.heap.size w w'))
 case atStart => exact ⟨(y236), (0), z3_, H', ⟨Nat.le_refl _⟩, ⟨by (with_reducible repeat (first | apply R_alloc | apply R_drewN | apply R_drew)); exact HO238.out⟩, ⟨Short.hB HB⟩⟩
 case round =>
  clear H'
  try clear c2
  try clear p2
  try clear c3
  try clear c3b0
  try clear c3b1
  try clear c4
  obtain ⟨x5_1, x21_1, rfl, HA, HK1, HO_5, HB⟩ := hrel
  cases gk with
  | zero => exact absurd HA.out (by simp [row_Bytes.l0])
  | succ k1 =>
   have H := HA.out
   clear HA
   simp only [row_Bytes.l0] at H
   by_cases c7 : x21_1 < (l0.length : Int)
   rotate_left
   ·
    rw [if_neg c7] at H
    have c7b0 : decide (x21_1 < (l0.length : Int)) = false := decide_eq_false c7
    clear c7
    simp only [Option.some.injEq, Prod.mk.injEq] at H
    obtain ⟨rfl, rfl⟩ := H
    go_wp2
    go_ret2
    exact ⟨_, by first | rfl | (simp [errW_none, errW_some] <;> rfl) | (simp [*, errW_none, errW_some] <;> rfl), by (with_reducible repeat (first | apply R_alloc | apply R_drewN | apply R_drew)); exact HO_5.out, Short.hB HB⟩
   rw [if_pos c7] at H
   have c7b0 : decide (x21_1 < (l0.length : Int)) = true := decide_eq_true c7
   clear c7
   by_cases c8 : 0 ≤ x21_1
   rotate_left
   ·
    rw [if_neg c8] at H
    exact absurd H (by simp)
   rw [if_pos c8] at H
   have c8b0 : decide (0 ≤ x21_1) = true := decide_eq_true c8
   clear c8
   by_cases c9 : x21_1 < (l0.length : Int)
   rotate_left
   ·
    rw [if_neg c9] at H
    exact absurd H (by simp)
   rw [if_pos c9] at H
   have c9b0 : decide (x21_1 < (l0.length : Int)) = true := decide_eq_true c9
   clear c9
   replace H := Option.bind_eq_some_iff.mp H
   obtain ⟨⟨t241, t244⟩, A100, H⟩ := H
   replace H : (if x5_1.length + t241.length < 140737488355328 then (row_Bytes.l0 k1 (x5_1 ++ t241) l0 (l0.length : Int) (wrap64 (x21_1 + 1))) else (none)) = some (r1, r2) := H
   have A10 := mk_ A100
   clear A100
   by_cases c11 : x5_1.length + t241.length < 140737488355328
   rotate_left
   ·
    rw [if_neg c11] at H
    exact absurd H (by simp)
   rw [if_pos c11] at H
   have LMc11 := mk_ c11
   clear c11
   obtain ⟨y245, hy245⟩ : ∃ y_ : List Int, y_ = (x5_1 ++ t241) := ⟨_, rfl⟩
   replace H : (row_Bytes.l0 k1 y245 l0 (l0.length : Int) (wrap64 (x21_1 + 1))) = some (r1, r2) := by first | (rw [hy245]; with_reducible exact H) | (have H2_ := (Option.bind_some _ _).symm.trans H; rw [hy245]; with_reducible exact H2_) | (have H2_ := (Option.bind_some _ _).symm.trans H; with_reducible exact H2_) | with_reducible exact H | (rw [hy245]; exact H) | exact H
   have Ny245 := mk_ hy245
   clear hy245
   have H' := mk_ H
   clear H
   have p239 : 0 ≤ (x21_1 : Int) := of_decide_eq_true z1_
   have q239 : x21_1 < (l0.length : Int) := of_decide_eq_true z1_
   obtain ⟨ad239, e239, hx239_0, hx239_1, hx239_2⟩ := at_T84 HR0.out x21_1 p239 q239
   cases e239
   replace hx239_0 := up_ HB hx239_0
   replace hx239_1 := up_ HB hx239_1
   replace hx239_2 := up_ HB hx239_2
   replace p239 := eq_true p239
   replace q239 := eq_true q239
   go_wp2_with (first | ((with_reducible refine gate_dst (N := 7) rfl ?_); refine box_event ?hg (N := 7) ?hd (cs := #[.int .i64 0, .int .i64 0, .string (⟨#[]⟩ : ByteArray)]) (t := 84) ?hr ?_; (case hd => rfl); (case hg => rfl); (case hr => first | (go_simp; done) | (go_simp; rfl)); intro gb240 hg w12 hbox hb; have n0_ := mk_ (R_below (ZKR HO_5) hb); have n1_ := mk_ (below_step (Short.hB HB) hb); have n2_ := mk_ (hbox); have n3_ := mk_ ((by rw [hg]; exact (below_size (Short.hB HB)) : w.heap.size ≤ gb240)); have n4_ := mk_ ((by rw [hg]; exact (below_size (Short.hB HB)) : w.heap.size ≤ gb240)); clear HO_5 HB; revert n0_ n1_ n2_ n3_ n4_; intro HO_5 HB BK240 GW240 GE240; clear hb hbox hg; obtain ⟨hcz13_0, hcz13_1, hcz13_2, hfz13_0, hfz13_1, hfz13_2⟩ := Short.c3 BK240.out) | ((with_reducible refine gate_callee (f := 47) rfl ?_); refine Short.gL (some 27) Try.func47 #[.agg #[.int .i64 ((rd_T84 l0 x21_1).f0), .int .i64 ((rd_T84 l0 x21_1).f1), .string ((rd_T84 l0 x21_1).f2)]] (h := ?_); (with_reducible refine (value_Bytes.calls k1 ((rd_T84 l0 x21_1).f0) ((rd_T84 l0 x21_1).f1) ((rd_T84 l0 x21_1).f2) t241 t244 _ A10.out).mono ?_); rintro e w14 ⟨v242, rfl, ho0, hb⟩; refine ⟨_, rfl, ?_⟩; have n0_ := mk_ (R_elder' (by (with_reducible repeat (first | apply R_alloc | apply R_drewN | apply R_drew)); exact (R_mono (R_far (p := ⟨gb240, 2, none⟩) (R_far (p := ⟨gb240, 1, none⟩) (R_far (p := ⟨gb240, 0, none⟩) (R_types HO_5.out BK240.out z5_) (fun _ hk => hk.2) (.int .i64 ((rd_T84 l0 x21_1).f0))) (fun _ hk => hk.2) (.int .i64 ((rd_T84 l0 x21_1).f1))) (fun _ hk => hk.2) (.string ((rd_T84 l0 x21_1).f2))) (fun _ h_ => h_.1))) (R_base ho0) hb); have n1_ := mk_ (R_lower (R_new' ho0 (R_lt (by (with_reducible repeat (first | apply R_alloc | apply R_drewN | apply R_drew)); exact (R_mono (R_far (p := ⟨gb240, 2, none⟩) (R_far (p := ⟨gb240, 1, none⟩) (R_far (p := ⟨gb240, 0, none⟩) (R_types HO_5.out BK240.out z5_) (fun _ hk => hk.2) (.int .i64 ((rd_T84 l0 x21_1).f0))) (fun _ hk => hk.2) (.int .i64 ((rd_T84 l0 x21_1).f1))) (fun _ hk => hk.2) (.string ((rd_T84 l0 x21_1).f2))) (fun _ h_ => h_.1))))) (below_size (Short.hB HB))); have n2_ := mk_ (blk_below (g := gb240) (o := .cells #[.int .i64 ((rd_T84 l0 x21_1).f0), .int .i64 ((rd_T84 l0 x21_1).f1), .string ((rd_T84 l0 x21_1).f2)] 84 (0, 0)) (by (with_reducible repeat (first | refine blk_drewN ?_ _ | refine blk_drew ?_ | refine blk_alloc ?_ _)); refine blk_put (cs := #[.int .i64 ((rd_T84 l0 x21_1).f0), .int .i64 ((rd_T84 l0 x21_1).f1), .string (⟨#[]⟩ : ByteArray)]) ?_ 2 _ rfl; (with_reducible repeat (first | refine blk_drewN ?_ _ | refine blk_drew ?_ | refine blk_alloc ?_ _)); refine blk_put (cs := #[.int .i64 ((rd_T84 l0 x21_1).f0), .int .i64 0, .string (⟨#[]⟩ : ByteArray)]) ?_ 1 _ rfl; (with_reducible repeat (first | refine blk_drewN ?_ _ | refine blk_drew ?_ | refine blk_alloc ?_ _)); refine blk_put (cs := #[.int .i64 0, .int .i64 0, .string (⟨#[]⟩ : ByteArray)]) ?_ 0 _ rfl; (with_reducible repeat (first | refine blk_drewN ?_ _ | refine blk_drew ?_ | refine blk_alloc ?_ _)); exact BK240.out) hb); have n3_ := mk_ (below_step (Short.hB HB) hb); clear HO_5 BK240 HB; revert n0_ n1_ n2_ n3_; intro HO_5 HO243 BK240 HB; (try clear hb ho0); obtain ⟨Ao16, co16, eo16⟩ := R_slice HO243.out; subst eo16) | ((with_reducible refine gate_builtin (b := .append) (xs := #[.tmp 30, .tmp 31]) rfl ?_); at_builtin; refine R_append_rows (Kd.int .u8) (w0 := w) w.heap.size rfl (.tmp 30) (.tmp 31) 22 5 (.int .u8 0) 1 rfl Try.underlying22 info5 rfl z5_ z4_ u5 x5_1 t241 _ _ _ (fun k_ => nb_ k_ (.slice Ao16 t241.length co16)) (fun _ => False) rfl rfl ?aO ?aR (fun _ _ h => h) (fun _ h => h.elim) ?aF ?aB ?aS ?aL ?_; (case aR => exact cX_ (R_reads' HO243.out).2.2); (case aB => exact (Short.hB HB)); (case aF => exact (fun k_ hk => Kd.fresh' (R_lt (ZKR HO243)) k_ hk)); (case aO => exact (rM_ HO_5 (fun _ hk => hk.2))); (case aS => exact (below_size (Short.hB HB))); (case aL => have := LMc11.out; omega); intro v246 w15 ho hb hg hat; rw [← Ny245.out] at ho; have n0_ := mk_ (blk_grown (g := gb240) (o := .cells #[.int .i64 ((rd_T84 l0 x21_1).f0), .int .i64 ((rd_T84 l0 x21_1).f1), .string ((rd_T84 l0 x21_1).f2)] 84 (0, 0)) (Short.bK BK240) hg (R_ne HO_5.out BK240.out z5_)); have n1_ := mk_ (R_after (ok := (fun _ => True)) (ZKR HO243) hg hat); have n2_ := mk_ (hb); have n3_ := mk_ (ho); clear BK240 HO243 HB HO_5; revert n0_ n1_ n2_ n3_; intro BK240 HO243 HB HO247; clear ho hb hg hat))
   go_roundg k1
   case measure => have := HK1.out; omega
   case rel => exact ⟨(y245), (wrap64 (x21_1 + 1)), z3_, H', ⟨by have := HK1.out; omega⟩, ⟨by (with_reducible repeat (first | apply R_alloc | apply R_drewN | apply R_drew)); exact R_mono HO247.out (fun _ hk => trivial)⟩, ⟨Short.hB HB⟩⟩
def wire_Put.f (k : Nat) (l0 : List Int) (a1 : Int) (a2 : Int) : Option (List Int × Int) := if a2 < 1 then (some (([] : List Int), 1)) else (if a2 > 7 then (some (([] : List Int), 1)) else (if a1 < 0 then (some (([] : List Int), 1)) else (if 0 ≤ (wrap64 (8 * a2)) then (if a1 ≥ (shl .i64 1 (wrap64 (8 * a2))) then (some (([] : List Int), 1)) else ((wire_big.f k l0 a1 a2).bind fun t248 => (some (t248, 0)))) else (none))))
theorem wire_Put.calls (k : Nat) (A0 : Option Addr) (c0 : Nat) (l0 : List Int) (a1 : Int) (a2 : Int) (r1 : List Int) (r2 : Int) (w : World) (hr0 : Kd.C (Kd.int .u8) w A0 l0.length l0) (hc0 : l0.length ≤ c0) (h : wire_Put.f k l0 a1 a2 = some (r1, r2)) :
  Calls Try.prog 98 #[.slice A0 l0.length c0, .int .i64 a1, .int .i64 a2] w fun e w' => ∃ v0_ : Value, e = .returned (.tuple #[v0_, .int .i64 r2]) ∧ Kd.R (Kd.int .u8) 5 w' w.heap.size (fun _ => True) v0_ r1 ∧ Below w.heap.size w w' := by
 have HR0 := mk_ hr0
 have HC0 := mk_ hc0
 clear hr0 hc0
 have HB := mk_ (Below.refl w.heap.size w)
 have H : (if a2 < 1 then (some (([] : List Int), 1)) else (if a2 > 7 then (some (([] : List Int), 1)) else (if a1 < 0 then (some (([] : List Int), 1)) else (if 0 ≤ (wrap64 (8 * a2)) then (if a1 ≥ (shl .i64 1 (wrap64 (8 * a2))) then (some (([] : List Int), 1)) else ((wire_big.f k l0 a1 a2).bind fun t248 => (some (t248, 0)))) else (none))))) = some (r1, r2) := h
 clear h
 by_cases c4 : a2 < 1
 ·
  rw [if_pos c4] at H
  have c4b0 : decide (a2 < 1) = true := decide_eq_true c4
  clear c4
  simp only [Option.some.injEq, Prod.mk.injEq] at H
  obtain ⟨rfl, rfl⟩ := H
  go_enter Try.func98, Try.ntmps98
  go_wp2
  go_ret2
  exact ⟨_, by first | rfl | (simp [errW_none, errW_some] <;> rfl) | (simp [*, errW_none, errW_some] <;> rfl), by first | exact R_nil _ _ _ _ _ | exact N_nil _ _ _ _ _ | exact V_nil _ _ _ _ _ | exact Q_nil _ _ _ _ _ | exact S_nil _ _ _ _ _, Short.hB HB⟩
 rw [if_neg c4] at H
 have c4b0 : decide (a2 < 1) = false := decide_eq_false c4
 clear c4
 by_cases c5 : a2 > 7
 ·
  rw [if_pos c5] at H
  have c5b0 : decide (7 < a2) = true := decide_eq_true c5
  clear c5
  simp only [Option.some.injEq, Prod.mk.injEq] at H
  obtain ⟨rfl, rfl⟩ := H
  go_enter Try.func98, Try.ntmps98
  go_wp2
  go_ret2
  exact ⟨_, by first | rfl | (simp [errW_none, errW_some] <;> rfl) | (simp [*, errW_none, errW_some] <;> rfl), by first | exact R_nil _ _ _ _ _ | exact N_nil _ _ _ _ _ | exact V_nil _ _ _ _ _ | exact Q_nil _ _ _ _ _ | exact S_nil _ _ _ _ _, Short.hB HB⟩
 rw [if_neg c5] at H
 have c5b0 : decide (7 < a2) = false := decide_eq_false c5
 clear c5
 by_cases c6 : a1 < 0
 ·
  rw [if_pos c6] at H
  have c6b0 : decide (a1 < 0) = true := decide_eq_true c6
  clear c6
  simp only [Option.some.injEq, Prod.mk.injEq] at H
  obtain ⟨rfl, rfl⟩ := H
  go_enter Try.func98, Try.ntmps98
  go_wp2
  go_ret2
  exact ⟨_, by first | rfl | (simp [errW_none, errW_some] <;> rfl) | (simp [*, errW_none, errW_some] <;> rfl), by first | exact R_nil _ _ _ _ _ | exact N_nil _ _ _ _ _ | exact V_nil _ _ _ _ _ | exact Q_nil _ _ _ _ _ | exact S_nil _ _ _ _ _, Short.hB HB⟩
 rw [if_neg c6] at H
 have c6b0 : decide (a1 < 0) = false := decide_eq_false c6
 clear c6
 obtain ⟨ji7, hji7⟩ : ∃ j_ : Int, (wrap64 (8 * a2)) = j_ := ⟨_, rfl⟩
 replace H : (if 0 ≤ (ji7) then (if a1 ≥ (shl .i64 1 (ji7)) then (some (([] : List Int), 1)) else ((wire_big.f k l0 a1 a2).bind fun t248 => (some (t248, 0)))) else (none)) = some (r1, r2) := by first | (rw [hji7] at H; exact H) | (simp only [hji7] at H ⊢; exact H)
 have hji7w : (IntKind.i64.wrap (8 * a2)) = ji7 := (i64_w _).trans hji7
 by_cases c8 : 0 ≤ (ji7)
 rotate_left
 ·
  rw [if_neg c8] at H
  exact absurd H (by simp)
 rw [if_pos c8] at H
 have c8b0 := eq_true c8
 have c8b1 : decide (0 ≤ (ji7)) = true := decide_eq_true c8
 clear c8
 obtain ⟨ji9, hji9⟩ : ∃ j_ : Int, (shl .i64 1 (ji7)) = j_ := ⟨_, rfl⟩
 replace H : (if a1 ≥ (ji9) then (some (([] : List Int), 1)) else ((wire_big.f k l0 a1 a2).bind fun t248 => (some (t248, 0)))) = some (r1, r2) := by first | (rw [hji9] at H; exact H) | (simp only [hji9] at H ⊢; exact H)
 have hji9_ : (IntKind.i64.wrap (1 * 2 ^ min (ji7).toNat 64)) = ji9 := hji9
 have hji9z : (ji7) ≤ 64 → (IntKind.i64.wrap (1 * 2 ^ (ji7).toNat)) = ji9 := shl_small hji9
 have hji9u : (IntKind.i64.wrap (2 ^ min (ji7).toNat 64)) = ji9 := by have h_ := hji9_; rw [Int.one_mul] at h_; exact h_
 have hji9v : (ji7) ≤ 64 → (IntKind.i64.wrap (2 ^ (ji7).toNat)) = ji9 := fun hle_ => by have h_ := hji9z hle_; rw [Int.one_mul] at h_; exact h_
 have hji9y : (wrap64 (1 * 2 ^ min (ji7).toNat 64)) = ji9 := (i64_w _).symm.trans hji9_
 have hji9x : (ji7) ≤ 64 → (wrap64 (1 * 2 ^ (ji7).toNat)) = ji9 := fun h_ => (i64_w _).symm.trans (hji9z h_)
 by_cases c10 : a1 ≥ (ji9)
 ·
  rw [if_pos c10] at H
  have c10b0 : decide ((ji9) ≤ a1) = true := decide_eq_true c10
  clear c10
  simp only [Option.some.injEq, Prod.mk.injEq] at H
  obtain ⟨rfl, rfl⟩ := H
  go_enter Try.func98, Try.ntmps98
  go_wp2
  go_ret2
  exact ⟨_, by first | rfl | (simp [errW_none, errW_some] <;> rfl) | (simp only [← hji7, ← hji9]; first | rfl | (simp [errW_none, errW_some] <;> rfl)) | (simp [*, errW_none, errW_some] <;> rfl), by first | exact R_nil _ _ _ _ _ | exact N_nil _ _ _ _ _ | exact V_nil _ _ _ _ _ | exact Q_nil _ _ _ _ _ | exact S_nil _ _ _ _ _, Short.hB HB⟩
 rw [if_neg c10] at H
 have c10b0 : decide ((ji9) ≤ a1) = false := decide_eq_false c10
 clear c10
 replace H := Option.bind_eq_some_iff.mp H
 obtain ⟨t248, A110, H⟩ := H
 replace H : (some (t248, 0)) = some (r1, r2) := H
 have A11 := mk_ A110
 clear A110
 simp only [Option.some.injEq, Prod.mk.injEq] at H
 obtain ⟨rfl, rfl⟩ := H
 go_enter Try.func98, Try.ntmps98
 go_wp2_with (first | ((with_reducible refine gate_callee (f := 108) rfl ?_); refine Short.gL (some 28) Try.func108 #[.slice A0 l0.length c0, .int .i64 a1, .int .i64 a2] (h := ?_); (with_reducible refine (wire_big.calls k _ _ l0 a1 a2 t248 _ ?side1 ?side2 A11.out).mono ?_); (case side1 => repeat (first | exact HR0.out | (with_reducible refine C_alloc ?_ _) | (with_reducible refine C_drewN ?_ _) | (with_reducible refine C_drew ?_))); (case side2 => exact HC0.out); rintro e w12 ⟨v249, rfl, ho0, hb⟩; refine ⟨_, rfl, ?_⟩; have n0_ := mk_ (R_lower ho0 (below_size (Short.hB HB))); have n1_ := mk_ (below_step (Short.hB HB) hb); clear HB; revert n0_ n1_; intro HO250 HB; (try clear hb ho0)))
 go_ret2
 exact ⟨_, by first | rfl | (simp [errW_none, errW_some] <;> rfl) | (simp only [← hji7, ← hji9]; first | rfl | (simp [errW_none, errW_some] <;> rfl)) | (simp [*, errW_none, errW_some] <;> rfl), by (with_reducible repeat (first | apply R_alloc | apply R_drewN | apply R_drew)); exact HO250.out, Short.hB HB⟩
def op_Forms_1.f (l0_0 : List Int) : Option (Bool) := if (l0_0.length : Int) < 1 then (some true) else (some (decide ((l0_0.length : Int) > 4)))
theorem op_Forms_1.calls (A0_0 : Option Addr) (c0_0 : Nat) (l0_0 : List Int) (r : Bool) (w : World) (hr0_0 : Kd.C (Kd.int .i64) w A0_0 l0_0.length l0_0) (hc0_0 : l0_0.length ≤ c0_0) (h : op_Forms_1.f l0_0 = some r) :
  Calls Try.prog 49 #[.agg #[.slice A0_0 l0_0.length c0_0]] w fun e w' => e = .returned (.bool r) ∧ Below w.heap.size w w' := by
 have hu51 := Try.underlying51
 have HR0_0 := mk_ hr0_0
 have HC0_0 := mk_ hc0_0
 clear hr0_0 hc0_0
 have HB := mk_ (Below.refl w.heap.size w)
 have H : (if (l0_0.length : Int) < 1 then (some true) else (some (decide ((l0_0.length : Int) > 4)))) = some r := h
 clear h
 by_cases c2 : (l0_0.length : Int) < 1
 ·
  rw [if_pos c2] at H
  have c2b0 : decide ((l0_0.length : Int) < 1) = true := decide_eq_true c2
  have c2b1 : decide (l0_0.length < 1) = true := decide_eq_true z4_
  clear c2
  obtain rfl := Option.some.inj H
  go_enter Try.func49, Try.ntmps49
  go_wp2_with (first | ((with_reducible refine gate_dst (N := 1) rfl ?_); (try (refine gate_guard (by rfl) ?_; dsimp only)); refine box_event ?hg (N := 1) ?hd (cs := #[.slice A0_0 l0_0.length c0_0]) (t := 51) ?hr ?_; (case hd => rfl); (case hg => rfl); (case hr => first | (go_simp; done) | (go_simp; rfl)); intro gb262 hg w3 hbox hb; have n0_ := mk_ (below_step (Short.hB HB) hb); have n1_ := mk_ (hbox); have n2_ := mk_ ((by rw [hg]; exact (below_size (Short.hB HB)) : w.heap.size ≤ gb262)); have n3_ := mk_ ((by rw [hg]; exact (below_size (Short.hB HB)) : w.heap.size ≤ gb262)); clear HB; revert n0_ n1_ n2_ n3_; intro HB BK262 GW262 GE262; clear hb hbox hg; obtain ⟨hcz4_0, hfz4_0⟩ := Short.c1 BK262.out))
  go_ret
  exact ⟨q0, Short.hB HB⟩
 rw [if_neg c2] at H
 have c2b0 : decide ((l0_0.length : Int) < 1) = false := decide_eq_false c2
 have c2b1 : decide (l0_0.length < 1) = false := decide_eq_false z4_
 clear c2
 obtain rfl := Option.some.inj H
 go_enter Try.func49, Try.ntmps49
 go_wp2_with (first | ((with_reducible refine gate_dst (N := 1) rfl ?_); (try (refine gate_guard (by rfl) ?_; dsimp only)); refine box_event ?hg (N := 1) ?hd (cs := #[.slice A0_0 l0_0.length c0_0]) (t := 51) ?hr ?_; (case hd => rfl); (case hg => rfl); (case hr => first | (go_simp; done) | (go_simp; rfl)); intro gb262 hg w5 hbox hb; have n0_ := mk_ (below_step (Short.hB HB) hb); have n1_ := mk_ (hbox); have n2_ := mk_ ((by rw [hg]; exact (below_size (Short.hB HB)) : w.heap.size ≤ gb262)); have n3_ := mk_ ((by rw [hg]; exact (below_size (Short.hB HB)) : w.heap.size ≤ gb262)); clear HB; revert n0_ n1_ n2_ n3_; intro HB BK262 GW262 GE262; clear hb hbox hg; obtain ⟨hcz6_0, hfz6_0⟩ := Short.c1 BK262.out))
 go_ret
 exact ⟨q0, Short.hB HB⟩
def op_Forms_2.f (a0 : Int) : Option (Bool) := if a0 < 2 then (some true) else (some (decide (a0 > 4)))
theorem op_Forms_2.calls (a0 : Int) (r : Bool) (w : World) (h : op_Forms_2.f a0 = some r) :
  Calls Try.prog 51 #[.int .i64 a0] w fun e w' => e = .returned (.bool r) ∧ Drawn0 w w' := by
 have H : (if a0 < 2 then (some true) else (some (decide (a0 > 4)))) = some r := h
 clear h
 by_cases c2 : a0 < 2
 ·
  rw [if_pos c2] at H
  have c2b0 : decide (a0 < 2) = true := decide_eq_true c2
  clear c2
  obtain rfl := Option.some.inj H
  go_enter Try.func51, Try.ntmps51
  go_wp2
  go_ret
  exact ⟨z3_, by repeat (first | exact Drawn0.refl _ | apply Drawn0.step)⟩
 rw [if_neg c2] at H
 have c2b0 : decide (a0 < 2) = false := decide_eq_false c2
 clear c2
 obtain rfl := Option.some.inj H
 go_enter Try.func51, Try.ntmps51
 go_wp2
 go_ret
 exact ⟨z3_, by repeat (first | exact Drawn0.refl _ | apply Drawn0.step)⟩
def slices_IndexFunc_at_op_Forms_1.l0 : Nat → List (S51) → Int → Int → Option (Int)
 | 0, _, _, _ => none
 | k + 1, x0, x7, x8 => if x8 < x7 then (if 0 ≤ x8 then (if x8 < (x0.length : Int) then ((op_Forms_1.f ((rd_T51 x0 x8).f0)).bind fun t264 => (if t264 = true then (some x8) else (slices_IndexFunc_at_op_Forms_1.l0 k x0 x7 (wrap64 (x8 + 1))))) else (none)) else (none)) else (some (-1))
def slices_IndexFunc_at_op_Forms_1.f (k : Nat) (l0 : List (S51)) (a1 : Unit) : Option (Int) := slices_IndexFunc_at_op_Forms_1.l0 k l0 (l0.length : Int) 0
theorem slices_IndexFunc_at_op_Forms_1.calls (k : Nat) (A0 : Option Addr) (c0 : Nat) (l0 : List (S51)) (a1 : Unit) (r : Int) (w : World) (hr0 : Kd.C k51 w A0 l0.length l0) (hc0 : l0.length ≤ c0) (h : slices_IndexFunc_at_op_Forms_1.f k l0 a1 = some r) :
  Calls Try.prog 90 #[.slice A0 l0.length c0, .func (.func 49) #[] #[]] w fun e w' => e = .returned (.int .i64 r) ∧ Below w.heap.size w w' := by
 have hu51 := Try.underlying51
 have HR0 := mk_ hr0
 have HC0 := mk_ hc0
 clear hr0 hc0
 have HB := mk_ (Below.refl w.heap.size w)
 have H : (slices_IndexFunc_at_op_Forms_1.l0 k l0 (l0.length : Int) 0) = some r := h
 clear h
 have H' := mk_ H
 clear H
 go_enter Try.func90, Try.ntmps90
 go_wp2
 go_loopg [8] k (fun kq v8 w' => ∃ (x8_1 : Int), v8 = .int .i64 x8_1 ∧ Aside0 (slices_IndexFunc_at_op_Forms_1.l0 kq l0 (l0.length : Int) x8_1 = some r) ∧ Aside0 (kq ≤ k) ∧ Aside0 (Below w.heap.size w w'))
 case atStart => exact ⟨(0), z3_, H', ⟨Nat.le_refl _⟩, ⟨Short.hB HB⟩⟩
 case round =>
  clear H'
  try clear p2
  obtain ⟨x8_1, rfl, HA, HK1, HB⟩ := hrel
  cases gk with
  | zero => exact absurd HA.out (by simp [slices_IndexFunc_at_op_Forms_1.l0])
  | succ k1 =>
   have H := HA.out
   clear HA
   simp only [slices_IndexFunc_at_op_Forms_1.l0] at H
   by_cases c3 : x8_1 < (l0.length : Int)
   rotate_left
   ·
    rw [if_neg c3] at H
    have c3b0 : decide (x8_1 < (l0.length : Int)) = false := decide_eq_false c3
    clear c3
    obtain rfl := Option.some.inj H
    go_wp2
    go_ret
    exact ⟨q0, Short.hB HB⟩
   rw [if_pos c3] at H
   have c3b0 : decide (x8_1 < (l0.length : Int)) = true := decide_eq_true c3
   clear c3
   by_cases c4 : 0 ≤ x8_1
   rotate_left
   ·
    rw [if_neg c4] at H
    exact absurd H (by simp)
   rw [if_pos c4] at H
   have c4b0 : decide (0 ≤ x8_1) = true := decide_eq_true c4
   clear c4
   by_cases c5 : x8_1 < (l0.length : Int)
   rotate_left
   ·
    rw [if_neg c5] at H
    exact absurd H (by simp)
   rw [if_pos c5] at H
   have c5b0 : decide (x8_1 < (l0.length : Int)) = true := decide_eq_true c5
   clear c5
   replace H := Option.bind_eq_some_iff.mp H
   obtain ⟨t264, A60, H⟩ := H
   replace H : (if t264 = true then (some x8_1) else (slices_IndexFunc_at_op_Forms_1.l0 k1 l0 (l0.length : Int) (wrap64 (x8_1 + 1)))) = some r := H
   have A6 := mk_ A60
   clear A60
   by_cases c7 : t264 = true
   ·
    subst c7
    rw [if_pos rfl] at H
    obtain rfl := Option.some.inj H
    have p263 : 0 ≤ (x8_1 : Int) := of_decide_eq_true z1_
    have q263 : x8_1 < (l0.length : Int) := of_decide_eq_true z1_
    obtain ⟨ad263, A263_0, c263_0, e263, hx263_0, hl263_0, hi263_0⟩ := at_T51 HR0.out x8_1 p263 q263
    cases e263
    replace hx263_0 := up_ HB hx263_0
    have HR263_0 := mk_ hi263_0
    have HC263_0 := mk_ hl263_0
    clear hi263_0 hl263_0
    replace p263 := eq_true p263
    replace q263 := eq_true q263
    go_wp2_with (first | ((first | ((with_reducible refine gate_callee (f := 49) rfl ?_); refine Short.gL (some 16) Try.func49 #[.agg #[.slice A263_0 ((rd_T51 l0 x8_1).f0).length c263_0]] (h := ?_)) | ((with_reducible refine Go.Proofs.Ytjnjfogfpmeacaa.Steps.gate_any rfl ?_); refine Go.Proofs.Ytjnjfogfpmeacaa.Steps.goesV_ (some 16) rfl rfl Try.func49 z0_ rfl #[.agg #[.slice A263_0 ((rd_T51 l0 x8_1).f0).length c263_0]] rfl (by first | rfl | go_simp) z2_ ?_)); (with_reducible refine (op_Forms_1.calls _ _ ((rd_T51 l0 x8_1).f0) true _ ?side1 ?side2 A6.out).mono ?_); (case side1 => exact cX_ (C_below HR263_0.out HB.out)); (case side2 => exact HC263_0.out); rintro e w8 ⟨rfl, hb⟩; refine ⟨_, rfl, ?_⟩; have n0_ := mk_ (below_step (Short.hB HB) hb); clear HB; revert n0_; intro HB; (try clear hb)))
    go_ret
    exact ⟨q0, Short.hB HB⟩
   replace c7 := Bool.eq_false_iff.mpr c7
   subst c7
   rw [if_neg (show ¬ (false = true) by decide)] at H
   have H' := mk_ H
   clear H
   have p263 : 0 ≤ (x8_1 : Int) := of_decide_eq_true z1_
   have q263 : x8_1 < (l0.length : Int) := of_decide_eq_true z1_
   obtain ⟨ad263, A263_0, c263_0, e263, hx263_0, hl263_0, hi263_0⟩ := at_T51 HR0.out x8_1 p263 q263
   cases e263
   replace hx263_0 := up_ HB hx263_0
   have HR263_0 := mk_ hi263_0
   have HC263_0 := mk_ hl263_0
   clear hi263_0 hl263_0
   replace p263 := eq_true p263
   replace q263 := eq_true q263
   go_wp2_with (first | ((first | ((with_reducible refine gate_callee (f := 49) rfl ?_); refine Short.gL (some 16) Try.func49 #[.agg #[.slice A263_0 ((rd_T51 l0 x8_1).f0).length c263_0]] (h := ?_)) | ((with_reducible refine Go.Proofs.Ytjnjfogfpmeacaa.Steps.gate_any rfl ?_); refine Go.Proofs.Ytjnjfogfpmeacaa.Steps.goesV_ (some 16) rfl rfl Try.func49 z0_ rfl #[.agg #[.slice A263_0 ((rd_T51 l0 x8_1).f0).length c263_0]] rfl (by first | rfl | go_simp) z2_ ?_)); (with_reducible refine (op_Forms_1.calls _ _ ((rd_T51 l0 x8_1).f0) false _ ?side1 ?side2 A6.out).mono ?_); (case side1 => exact cX_ (C_below HR263_0.out HB.out)); (case side2 => exact HC263_0.out); rintro e w9 ⟨rfl, hb⟩; refine ⟨_, rfl, ?_⟩; have n0_ := mk_ (below_step (Short.hB HB) hb); clear HB; revert n0_; intro HB; (try clear hb)))
   go_roundg k1
   case measure => have := HK1.out; omega
   case rel => exact ⟨(wrap64 (x8_1 + 1)), z3_, H', ⟨by have := HK1.out; omega⟩, ⟨Short.hB HB⟩⟩
end Go.Proofs.Ytjnjfogfpmeacaa.PAll
end
section
namespace Go.Proofs.Ytjnjfogfpmeacaa.PAll
open Go.RowKit PrintWords PrintLast PrintMore ZipT PrintWords.Kd PrintMore.Kd
attribute [local go_sem] max2_int min2_int max_two min_two max_three min_three max_four min_four   -- for this text's walks alone
set_option linter.unusedVariables false
set_option linter.unusedSimpArgs false
def slices_ContainsFunc_at_op_Forms_1.f (k : Nat) (l0 : List (S51)) (a1 : Unit) : Option (Bool) := (slices_IndexFunc_at_op_Forms_1.f k l0 a1).bind fun t265 => (some (decide (t265 ≥ 0)))
theorem slices_ContainsFunc_at_op_Forms_1.calls (k : Nat) (A0 : Option Addr) (c0 : Nat) (l0 : List (S51)) (a1 : Unit) (r : Bool) (w : World) (hr0 : Kd.C k51 w A0 l0.length l0) (hc0 : l0.length ≤ c0) (h : slices_ContainsFunc_at_op_Forms_1.f k l0 a1 = some r) :
  Calls Try.prog 48 #[.slice A0 l0.length c0, .func (.func 49) #[] #[]] w fun e w' => e = .returned (.bool r) ∧ Below w.heap.size w w' := by
 have HR0 := mk_ hr0
 have HC0 := mk_ hc0
 clear hr0 hc0
 have HB := mk_ (Below.refl w.heap.size w)
 have H : ((slices_IndexFunc_at_op_Forms_1.f k l0 a1).bind fun t265 => (some (decide (t265 ≥ 0)))) = some r := h
 clear h
 replace H := Option.bind_eq_some_iff.mp H
 obtain ⟨t265, A30, H⟩ := H
 replace H : (some (decide (t265 ≥ 0))) = some r := H
 have A3 := mk_ A30
 clear A30
 obtain rfl := Option.some.inj H
 go_enter Try.func48, Try.ntmps48
 go_wp2_with (first | ((first | ((with_reducible refine gate_callee (f := 90) rfl ?_); refine Short.gL (some 7) Try.func90 #[.slice A0 l0.length c0, .func (.func 49) #[] #[]] (h := ?_)) | ((with_reducible refine Go.Proofs.Ytjnjfogfpmeacaa.Steps.gate_any rfl ?_); refine Go.Proofs.Ytjnjfogfpmeacaa.Steps.goesV_ (some 7) rfl rfl Try.func90 z0_ rfl #[.slice A0 l0.length c0, .func (.func 49) #[] #[]] rfl (by first | rfl | go_simp) z2_ ?_)); (with_reducible refine (slices_IndexFunc_at_op_Forms_1.calls k _ _ l0 a1 t265 _ ?side1 ?side2 A3.out).mono ?_); (case side1 => repeat (first | exact HR0.out | (with_reducible refine C_alloc ?_ _) | (with_reducible refine C_drewN ?_ _) | (with_reducible refine C_drew ?_))); (case side2 => exact HC0.out); rintro e w4 ⟨rfl, hb⟩; refine ⟨_, rfl, ?_⟩; have n0_ := mk_ (below_step (Short.hB HB) hb); clear HB; revert n0_; intro HB; (try clear hb)))
 go_ret
 exact ⟨q0, Short.hB HB⟩
def slices_IndexFunc_at_op_Forms_2.l0 : Nat → List Int → Int → Int → Option (Int)
 | 0, _, _, _ => none
 | k + 1, x0, x7, x8 => if x8 < x7 then (if 0 ≤ x8 then (if x8 < (x0.length : Int) then ((op_Forms_2.f (rd x0 x8)).bind fun t267 => (if t267 = true then (some x8) else (slices_IndexFunc_at_op_Forms_2.l0 k x0 x7 (wrap64 (x8 + 1))))) else (none)) else (none)) else (some (-1))
def slices_IndexFunc_at_op_Forms_2.f (k : Nat) (l0 : List Int) (a1 : Unit) : Option (Int) := slices_IndexFunc_at_op_Forms_2.l0 k l0 (l0.length : Int) 0
theorem slices_IndexFunc_at_op_Forms_2.calls (k : Nat) (A0 : Option Addr) (c0 : Nat) (l0 : List Int) (a1 : Unit) (r : Int) (w : World) (hr0 : Kd.C (Kd.int .i64) w A0 l0.length l0) (hc0 : l0.length ≤ c0) (h : slices_IndexFunc_at_op_Forms_2.f k l0 a1 = some r) :
  Calls Try.prog 91 #[.slice A0 l0.length c0, .func (.func 51) #[] #[]] w fun e w' => e = .returned (.int .i64 r) ∧ Drawn0 w w' := by
 have HR0 := mk_ hr0
 have HC0 := mk_ hc0
 clear hr0 hc0
 have H : (slices_IndexFunc_at_op_Forms_2.l0 k l0 (l0.length : Int) 0) = some r := h
 clear h
 have H' := mk_ H
 clear H
 go_enter Try.func91, Try.ntmps91
 go_wp2
 go_loopg [8] k (fun kq v8 w' => ∃ (x8_1 : Int), v8 = .int .i64 x8_1 ∧ Aside0 (slices_IndexFunc_at_op_Forms_2.l0 kq l0 (l0.length : Int) x8_1 = some r) ∧ Aside0 (kq ≤ k) ∧ Drawn0 w w')
 case atStart => exact ⟨(0), z3_, H', ⟨Nat.le_refl _⟩, by repeat (first | exact Drawn0.refl _ | apply Drawn0.step)⟩
 case round =>
  clear H'
  try clear p2
  obtain ⟨x8_1, rfl, HA, HK1, ⟨m1, rfl⟩⟩ := hrel
  cases gk with
  | zero => exact absurd HA.out (by simp [slices_IndexFunc_at_op_Forms_2.l0])
  | succ k1 =>
   have H := HA.out
   clear HA
   simp only [slices_IndexFunc_at_op_Forms_2.l0] at H
   by_cases c3 : x8_1 < (l0.length : Int)
   rotate_left
   ·
    rw [if_neg c3] at H
    have c3b0 : decide (x8_1 < (l0.length : Int)) = false := decide_eq_false c3
    clear c3
    obtain rfl := Option.some.inj H
    go_wp2
    go_ret
    exact ⟨z3_, by repeat (first | exact Drawn0.refl _ | apply Drawn0.step)⟩
   rw [if_pos c3] at H
   have c3b0 : decide (x8_1 < (l0.length : Int)) = true := decide_eq_true c3
   clear c3
   by_cases c4 : 0 ≤ x8_1
   rotate_left
   ·
    rw [if_neg c4] at H
    exact absurd H (by simp)
   rw [if_pos c4] at H
   have c4b0 : decide (0 ≤ x8_1) = true := decide_eq_true c4
   clear c4
   by_cases c5 : x8_1 < (l0.length : Int)
   rotate_left
   ·
    rw [if_neg c5] at H
    exact absurd H (by simp)
   rw [if_pos c5] at H
   have c5b0 : decide (x8_1 < (l0.length : Int)) = true := decide_eq_true c5
   clear c5
   replace H := Option.bind_eq_some_iff.mp H
   obtain ⟨t267, A60, H⟩ := H
   replace H : (if t267 = true then (some x8_1) else (slices_IndexFunc_at_op_Forms_2.l0 k1 l0 (l0.length : Int) (wrap64 (x8_1 + 1)))) = some r := H
   have A6 := mk_ A60
   clear A60
   by_cases c7 : t267 = true
   ·
    subst c7
    rw [if_pos rfl] at H
    obtain rfl := Option.some.inj H
    have p266 : 0 ≤ (x8_1 : Int) := of_decide_eq_true z1_
    have q266 : x8_1 < (l0.length : Int) := of_decide_eq_true z1_
    obtain ⟨ad266, e266, hx266_0⟩ := Kd.at_int HR0.out x8_1 p266 q266
    cases e266
    replace p266 := eq_true p266
    replace q266 := eq_true q266
    go_wp2_with (first | ((first | ((with_reducible refine gate_callee (f := 51) rfl ?_); refine Short.gL (some 16) Try.func51 #[.int .i64 (rd l0 x8_1)] (h := ?_)) | ((with_reducible refine Go.Proofs.Ytjnjfogfpmeacaa.Steps.gate_any rfl ?_); refine Go.Proofs.Ytjnjfogfpmeacaa.Steps.goesV_ (some 16) rfl rfl Try.func51 z0_ rfl #[.int .i64 (rd l0 x8_1)] rfl (by first | rfl | go_simp) z2_ ?_)); (with_reducible refine (op_Forms_2.calls (rd l0 x8_1) true _ A6.out).mono ?_); rintro e w' ⟨rfl, ⟨nd, rfl⟩⟩; refine ⟨_, rfl, ?_⟩))
    go_ret
    exact ⟨z3_, by repeat (first | exact Drawn0.refl _ | apply Drawn0.step)⟩
   replace c7 := Bool.eq_false_iff.mpr c7
   subst c7
   rw [if_neg (show ¬ (false = true) by decide)] at H
   have H' := mk_ H
   clear H
   have p266 : 0 ≤ (x8_1 : Int) := of_decide_eq_true z1_
   have q266 : x8_1 < (l0.length : Int) := of_decide_eq_true z1_
   obtain ⟨ad266, e266, hx266_0⟩ := Kd.at_int HR0.out x8_1 p266 q266
   cases e266
   replace p266 := eq_true p266
   replace q266 := eq_true q266
   go_wp2_with (first | ((first | ((with_reducible refine gate_callee (f := 51) rfl ?_); refine Short.gL (some 16) Try.func51 #[.int .i64 (rd l0 x8_1)] (h := ?_)) | ((with_reducible refine Go.Proofs.Ytjnjfogfpmeacaa.Steps.gate_any rfl ?_); refine Go.Proofs.Ytjnjfogfpmeacaa.Steps.goesV_ (some 16) rfl rfl Try.func51 z0_ rfl #[.int .i64 (rd l0 x8_1)] rfl (by first | rfl | go_simp) z2_ ?_)); (with_reducible refine (op_Forms_2.calls (rd l0 x8_1) false _ A6.out).mono ?_); rintro e w' ⟨rfl, ⟨nd, rfl⟩⟩; refine ⟨_, rfl, ?_⟩))
   go_roundg k1
   case measure => have := HK1.out; omega
   case rel => exact ⟨(wrap64 (x8_1 + 1)), z3_, H', ⟨by have := HK1.out; omega⟩, by repeat (first | exact Drawn0.refl _ | apply Drawn0.step)⟩
def slices_ContainsFunc_at_op_Forms_2.f (k : Nat) (l0 : List Int) (a1 : Unit) : Option (Bool) := (slices_IndexFunc_at_op_Forms_2.f k l0 a1).bind fun t268 => (some (decide (t268 ≥ 0)))
theorem slices_ContainsFunc_at_op_Forms_2.calls (k : Nat) (A0 : Option Addr) (c0 : Nat) (l0 : List Int) (a1 : Unit) (r : Bool) (w : World) (hr0 : Kd.C (Kd.int .i64) w A0 l0.length l0) (hc0 : l0.length ≤ c0) (h : slices_ContainsFunc_at_op_Forms_2.f k l0 a1 = some r) :
  Calls Try.prog 50 #[.slice A0 l0.length c0, .func (.func 51) #[] #[]] w fun e w' => e = .returned (.bool r) ∧ Drawn0 w w' := by
 have HR0 := mk_ hr0
 have HC0 := mk_ hc0
 clear hr0 hc0
 have H : ((slices_IndexFunc_at_op_Forms_2.f k l0 a1).bind fun t268 => (some (decide (t268 ≥ 0)))) = some r := h
 clear h
 replace H := Option.bind_eq_some_iff.mp H
 obtain ⟨t268, A30, H⟩ := H
 replace H : (some (decide (t268 ≥ 0))) = some r := H
 have A3 := mk_ A30
 clear A30
 obtain rfl := Option.some.inj H
 go_enter Try.func50, Try.ntmps50
 go_wp2_with (first | ((first | ((with_reducible refine gate_callee (f := 91) rfl ?_); refine Short.gL (some 7) Try.func91 #[.slice A0 l0.length c0, .func (.func 51) #[] #[]] (h := ?_)) | ((with_reducible refine Go.Proofs.Ytjnjfogfpmeacaa.Steps.gate_any rfl ?_); refine Go.Proofs.Ytjnjfogfpmeacaa.Steps.goesV_ (some 7) rfl rfl Try.func91 z0_ rfl #[.slice A0 l0.length c0, .func (.func 51) #[] #[]] rfl (by first | rfl | go_simp) z2_ ?_)); (with_reducible refine (slices_IndexFunc_at_op_Forms_2.calls k _ _ l0 a1 t268 _ ?side1 ?side2 A3.out).mono ?_); (case side1 => repeat (first | exact HR0.out | (with_reducible refine C_alloc ?_ _) | (with_reducible refine C_drewN ?_ _) | (with_reducible refine C_drew ?_))); (case side2 => exact HC0.out); rintro e w' ⟨rfl, ⟨nd, rfl⟩⟩; refine ⟨_, rfl, ?_⟩))
 go_ret
 exact ⟨z3_, by repeat (first | exact Drawn0.refl _ | apply Drawn0.step)⟩
mutual
def op_Forms.j0 : Nat → List (S51) → Bool → Option (Int)
 | 0, _, _ => none
 | k + 1, x0, x12 => if x12 = true then (some 2) else ((slices_ContainsFunc_at_op_Forms_1.f k x0 ()).bind fun t269 => (if t269 = true then (some 2) else (op_Forms.l0 k x0 (x0.length : Int) 0)))
def op_Forms.l0 : Nat → List (S51) → Int → Int → Option (Int)
 | 0, _, _, _ => none
 | k + 1, x15, x16, x17 => if x17 < x16 then (if 0 ≤ x17 then (if x17 < (x15.length : Int) then ((slices_ContainsFunc_at_op_Forms_2.f k ((rd_T51 x15 x17).f0) ()).bind fun t272 => (if t272 = true then (some 10) else (op_Forms.l0 k x15 x16 (wrap64 (x17 + 1))))) else (none)) else (none)) else (some 0)
end
def op_Forms.f (k : Nat) (l0 : List (S51)) : Option (Int) := if (l0.length : Int) < 1 then (op_Forms.j0 k l0 true) else (op_Forms.j0 k l0 (decide ((l0.length : Int) > 3)))
theorem op_Forms.calls (k : Nat) (A0 : Option Addr) (c0 : Nat) (l0 : List (S51)) (r : Int) (w : World) (hr0 : Kd.C k51 w A0 l0.length l0) (hc0 : l0.length ≤ c0) (h : op_Forms.f k l0 = some r) :
  Calls Try.prog 24 #[.slice A0 l0.length c0] w fun e w' => e = .returned (.int .i64 r) ∧ Below w.heap.size w w' := by
 have hu51 := Try.underlying51
 have HR0 := mk_ hr0
 have HC0 := mk_ hc0
 clear hr0 hc0
 have HB := mk_ (Below.refl w.heap.size w)
 have H : (if (l0.length : Int) < 1 then (op_Forms.j0 k l0 true) else (op_Forms.j0 k l0 (decide ((l0.length : Int) > 3)))) = some r := h
 clear h
 have HC2 := mk_ H
 clear H
 go_enter Try.func24, Try.ntmps24
 go_upto_region 1 with (fail)
 go_cut [12] (fun v12 wc => ∃ (kq : Nat) (x12_1 : Bool), v12 = .bool x12_1 ∧ Aside0 (op_Forms.j0 kq l0 x12_1 = some r) ∧ Aside0 (kq ≤ k) ∧ Aside0 (Below w.heap.size w wc))
 case first =>
  have H := HC2.out
  clear HC2
  by_cases c3 : (l0.length : Int) < 1
  ·
   rw [if_pos c3] at H
   have c3b0 : decide ((l0.length : Int) < 1) = true := decide_eq_true c3
   have c3b1 : decide (l0.length < 1) = true := decide_eq_true z4_
   clear c3
   (first | rw [c3b0] | (simp only [i64_w, i32_w]; rw [c3b0]) | skip)
   have H' := mk_ H
   clear H
   go_wp2
   go_meet
   case rel => exact ⟨_, (true), z3_, H', ⟨by first | omega | exact Nat.le_refl _⟩, ⟨Short.hB HB⟩⟩
  rw [if_neg c3] at H
  have c3b0 : decide ((l0.length : Int) < 1) = false := decide_eq_false c3
  have c3b1 : decide (l0.length < 1) = false := decide_eq_false z4_
  clear c3
  (first | rw [c3b0] | (simp only [i64_w, i32_w]; rw [c3b0]) | skip)
  have H' := mk_ H
  clear H
  go_wp2
  go_meet
  case rel => exact ⟨_, (decide ((l0.length : Int) > 3)), z3_, H', ⟨by first | omega | exact Nat.le_refl _⟩, ⟨Short.hB HB⟩⟩
 case rest => as_aux_lemma =>
  clear HC2
  try clear c2
  try clear p2
  try clear c3
  try clear c3b0
  try clear c3b1
  obtain ⟨kq, x12_1, rfl, HA, HJ1, HB⟩ := hcut
  cases kq with
  | zero => exact absurd HA.out (by simp [op_Forms.j0])
  | succ kj1 =>
   have H := HA.out
   clear HA
   simp only [op_Forms.j0] at H
   by_cases c4 : x12_1 = true
   ·
    subst c4
    rw [if_pos rfl] at H
    obtain rfl := Option.some.inj H
    go_wp2
    go_ret
    exact ⟨q0, Short.hB HB⟩
   ·
    replace c4 := Bool.eq_false_iff.mpr c4
    subst c4
    rw [if_neg (show ¬ (false = true) by decide)] at H
    replace H := Option.bind_eq_some_iff.mp H
    obtain ⟨t269, A50, H⟩ := H
    replace H : (if t269 = true then (some 2) else (op_Forms.l0 kj1 l0 (l0.length : Int) 0)) = some r := H
    have A5 := mk_ A50
    clear A50
    by_cases c6 : t269 = true
    ·
     subst c6
     rw [if_pos rfl] at H
     obtain rfl := Option.some.inj H
     go_wp2_with (first | ((with_reducible refine gate_callee (f := 48) rfl ?_); refine Short.gL (some 14) Try.func48 #[.slice A0 l0.length c0, .func (.func 49) #[] #[]] (h := ?_); (with_reducible refine (slices_ContainsFunc_at_op_Forms_1.calls kj1 _ _ l0 () true _ ?side1 ?side2 A5.out).mono ?_); (case side1 => exact cX_ (C_below HR0.out HB.out)); (case side2 => exact HC0.out); rintro e w7 ⟨rfl, hb⟩; refine ⟨_, rfl, ?_⟩; have n0_ := mk_ (below_step (Short.hB HB) hb); clear HB; revert n0_; intro HB; (try clear hb)))
     go_ret
     exact ⟨q0, Short.hB HB⟩
    ·
     replace c6 := Bool.eq_false_iff.mpr c6
     subst c6
     rw [if_neg (show ¬ (false = true) by decide)] at H
     have H' := mk_ H
     clear H
     go_wp2_with (first | ((with_reducible refine gate_callee (f := 48) rfl ?_); refine Short.gL (some 14) Try.func48 #[.slice A0 l0.length c0, .func (.func 49) #[] #[]] (h := ?_); (with_reducible refine (slices_ContainsFunc_at_op_Forms_1.calls kj1 _ _ l0 () false _ ?side1 ?side2 A5.out).mono ?_); (case side1 => exact cX_ (C_below HR0.out HB.out)); (case side2 => exact HC0.out); rintro e w8 ⟨rfl, hb⟩; refine ⟨_, rfl, ?_⟩; have n0_ := mk_ (below_step (Short.hB HB) hb); clear HB; revert n0_; intro HB; (try clear hb)))
     go_loopg [17] kj1 (fun kq v17 w' => ∃ (x17_2 : Int), v17 = .int .i64 x17_2 ∧ Aside0 (op_Forms.l0 kq l0 (l0.length : Int) x17_2 = some r) ∧ Aside0 (kq ≤ kj1) ∧ Aside0 (Below w.heap.size w w'))
     case atStart => exact ⟨(0), z3_, H', ⟨Nat.le_refl _⟩, ⟨Short.hB HB⟩⟩
     case round =>
      clear H'
      try clear c2
      try clear p2
      try clear c3
      try clear c3b0
      try clear c3b1
      try clear c4
      try clear c6
      try clear p2
      obtain ⟨x17_2, rfl, HA, HK2, HB⟩ := hrel
      cases gk with
      | zero => exact absurd HA.out (by simp [op_Forms.l0])
      | succ k2 =>
       have H := HA.out
       clear HA
       simp only [op_Forms.l0] at H
       by_cases c9 : x17_2 < (l0.length : Int)
       ·
        rw [if_pos c9] at H
        have c9b0 : decide (x17_2 < (l0.length : Int)) = true := decide_eq_true c9
        clear c9
        by_cases c10 : 0 ≤ x17_2
        ·
         rw [if_pos c10] at H
         have c10b0 : decide (0 ≤ x17_2) = true := decide_eq_true c10
         clear c10
         by_cases c11 : x17_2 < (l0.length : Int)
         ·
          rw [if_pos c11] at H
          have c11b0 : decide (x17_2 < (l0.length : Int)) = true := decide_eq_true c11
          clear c11
          replace H := Option.bind_eq_some_iff.mp H
          obtain ⟨t272, A120, H⟩ := H
          replace H : (if t272 = true then (some 10) else (op_Forms.l0 k2 l0 (l0.length : Int) (wrap64 (x17_2 + 1)))) = some r := H
          have A12 := mk_ A120
          clear A120
          by_cases c13 : t272 = true
          ·
           subst c13
           rw [if_pos rfl] at H
           obtain rfl := Option.some.inj H
           have p270 : 0 ≤ (x17_2 : Int) := of_decide_eq_true z1_
           have q270 : x17_2 < (l0.length : Int) := of_decide_eq_true z1_
           obtain ⟨ad270, A270_0, c270_0, e270, hx270_0, hl270_0, hi270_0⟩ := at_T51 HR0.out x17_2 p270 q270
           cases e270
           replace hx270_0 := up_ HB hx270_0
           have HR270_0 := mk_ hi270_0
           have HC270_0 := mk_ hl270_0
           clear hi270_0 hl270_0
           replace p270 := eq_true p270
           replace q270 := eq_true q270
           go_wp2_with (first | ((with_reducible refine gate_dst (N := 4) rfl ?_); (try (refine gate_guard (by rfl) ?_; dsimp only)); refine box_event ?hg (N := 4) ?hd (cs := #[.slice none 0 0]) (t := 51) ?hr ?_; (case hd => rfl); (case hg => rfl); (case hr => first | (go_simp; done) | (go_simp; rfl)); intro gb271 hg w14 hbox hb; have n0_ := mk_ (below_step (Short.hB HB) hb); have n1_ := mk_ (hbox); have n2_ := mk_ ((by rw [hg]; exact (below_size (Short.hB HB)) : w.heap.size ≤ gb271)); have n3_ := mk_ ((by rw [hg]; exact (below_size (Short.hB HB)) : w.heap.size ≤ gb271)); clear HB; revert n0_ n1_ n2_ n3_; intro HB BK271 GW271 GE271; clear hb hbox hg; obtain ⟨hcz15_0, hfz15_0⟩ := Short.c1 BK271.out) | ((with_reducible refine gate_callee (f := 50) rfl ?_); refine Short.gL (some 23) Try.func50 #[.slice A270_0 ((rd_T51 l0 x17_2).f0).length c270_0, .func (.func 51) #[] #[]] (h := ?_); (with_reducible refine (slices_ContainsFunc_at_op_Forms_2.calls k2 _ _ ((rd_T51 l0 x17_2).f0) () true _ ?side1 ?side2 A12.out).mono ?_); (case side1 => exact C_below HR270_0.out (Short.hB HB)); (case side2 => exact HC270_0.out); rintro e w' ⟨rfl, ⟨nd, rfl⟩⟩; refine ⟨_, rfl, ?_⟩))
           go_ret
           exact ⟨q0, Short.hB HB⟩
          ·
           replace c13 := Bool.eq_false_iff.mpr c13
           subst c13
           rw [if_neg (show ¬ (false = true) by decide)] at H
           have H' := mk_ H
           clear H
           have p270 : 0 ≤ (x17_2 : Int) := of_decide_eq_true z1_
           have q270 : x17_2 < (l0.length : Int) := of_decide_eq_true z1_
           obtain ⟨ad270, A270_0, c270_0, e270, hx270_0, hl270_0, hi270_0⟩ := at_T51 HR0.out x17_2 p270 q270
           cases e270
           replace hx270_0 := up_ HB hx270_0
           have HR270_0 := mk_ hi270_0
           have HC270_0 := mk_ hl270_0
           clear hi270_0 hl270_0
           replace p270 := eq_true p270
           replace q270 := eq_true q270
           go_wp2_with (first | ((with_reducible refine gate_dst (N := 4) rfl ?_); (try (refine gate_guard (by rfl) ?_; dsimp only)); refine box_event ?hg (N := 4) ?hd (cs := #[.slice none 0 0]) (t := 51) ?hr ?_; (case hd => rfl); (case hg => rfl); (case hr => first | (go_simp; done) | (go_simp; rfl)); intro gb271 hg w16 hbox hb; have n0_ := mk_ (below_step (Short.hB HB) hb); have n1_ := mk_ (hbox); have n2_ := mk_ ((by rw [hg]; exact (below_size (Short.hB HB)) : w.heap.size ≤ gb271)); have n3_ := mk_ ((by rw [hg]; exact (below_size (Short.hB HB)) : w.heap.size ≤ gb271)); clear HB; revert n0_ n1_ n2_ n3_; intro HB BK271 GW271 GE271; clear hb hbox hg; obtain ⟨hcz17_0, hfz17_0⟩ := Short.c1 BK271.out) | ((with_reducible refine gate_callee (f := 50) rfl ?_); refine Short.gL (some 23) Try.func50 #[.slice A270_0 ((rd_T51 l0 x17_2).f0).length c270_0, .func (.func 51) #[] #[]] (h := ?_); (with_reducible refine (slices_ContainsFunc_at_op_Forms_2.calls k2 _ _ ((rd_T51 l0 x17_2).f0) () false _ ?side1 ?side2 A12.out).mono ?_); (case side1 => exact C_below HR270_0.out (Short.hB HB)); (case side2 => exact HC270_0.out); rintro e w' ⟨rfl, ⟨nd, rfl⟩⟩; refine ⟨_, rfl, ?_⟩))
           go_roundg k2
           case measure => have := HJ1.out; have := HK2.out; omega
           case rel => exact ⟨(wrap64 (x17_2 + 1)), z3_, H', ⟨by have := HJ1.out; have := HK2.out; omega⟩, ⟨Short.hB HB⟩⟩
         ·
          rw [if_neg c11] at H
          exact absurd H (by simp)
        ·
         rw [if_neg c10] at H
         exact absurd H (by simp)
       ·
        rw [if_neg c9] at H
        have c9b0 : decide (x17_2 < (l0.length : Int)) = false := decide_eq_false c9
        clear c9
        obtain rfl := Option.some.inj H
        go_wp2
        go_ret
        exact ⟨q0, Short.hB HB⟩
def op_Key.f (a0 : ByteArray) : Option (Bool) := if (a0.size : Int) ≥ 1 then (some (decide ((a0.size : Int) ≤ 12))) else (some false)
theorem op_Key.calls (a0 : ByteArray) (r : Bool) (w : World) (h : op_Key.f a0 = some r) :
  Calls Try.prog 25 #[.string a0] w fun e w' => e = .returned (.bool r) ∧ Drawn0 w w' := by
 have H : (if (a0.size : Int) ≥ 1 then (some (decide ((a0.size : Int) ≤ 12))) else (some false)) = some r := h
 clear h
 by_cases c2 : (a0.size : Int) ≥ 1
 ·
  rw [if_pos c2] at H
  have c2b0 : decide (1 ≤ (a0.size : Int)) = true := decide_eq_true c2
  have c2b1 : decide (1 ≤ a0.size) = true := decide_eq_true z4_
  clear c2
  obtain rfl := Option.some.inj H
  go_enter Try.func25, Try.ntmps25
  go_wp2
  go_ret
  exact ⟨z3_, by repeat (first | exact Drawn0.refl _ | apply Drawn0.step)⟩
 rw [if_neg c2] at H
 have c2b0 : decide (1 ≤ (a0.size : Int)) = false := decide_eq_false c2
 have c2b1 : decide (1 ≤ a0.size) = false := decide_eq_false z4_
 clear c2
 obtain rfl := Option.some.inj H
 go_enter Try.func25, Try.ntmps25
 go_wp2
 go_ret
 exact ⟨z3_, by repeat (first | exact Drawn0.refl _ | apply Drawn0.step)⟩
def dot_Check_1.f (a0 : Int) : Option (Bool) := if a0 < 0 then (some true) else (some (decide (a0 > 1073741824)))
theorem dot_Check_1.calls (a0 : Int) (r : Bool) (w : World) (h : dot_Check_1.f a0 = some r) :
  Calls Try.prog 113 #[.int .i64 a0] w fun e w' => e = .returned (.bool r) ∧ Drawn0 w w' := by
 have H : (if a0 < 0 then (some true) else (some (decide (a0 > 1073741824)))) = some r := h
 clear h
 by_cases c2 : a0 < 0
 ·
  rw [if_pos c2] at H
  have c2b0 : decide (a0 < 0) = true := decide_eq_true c2
  clear c2
  obtain rfl := Option.some.inj H
  go_enter Try.func113, Try.ntmps113
  go_wp2
  go_ret
  exact ⟨z3_, by repeat (first | exact Drawn0.refl _ | apply Drawn0.step)⟩
 rw [if_neg c2] at H
 have c2b0 : decide (a0 < 0) = false := decide_eq_false c2
 clear c2
 obtain rfl := Option.some.inj H
 go_enter Try.func113, Try.ntmps113
 go_wp2
 go_ret
 exact ⟨z3_, by repeat (first | exact Drawn0.refl _ | apply Drawn0.step)⟩
def slices_IndexFunc_at_dot_Check_1.l0 : Nat → List Int → Int → Int → Option (Int)
 | 0, _, _, _ => none
 | k + 1, x0, x7, x8 => if x8 < x7 then (if 0 ≤ x8 then (if x8 < (x0.length : Int) then ((dot_Check_1.f (rd x0 x8)).bind fun t274 => (if t274 = true then (some x8) else (slices_IndexFunc_at_dot_Check_1.l0 k x0 x7 (wrap64 (x8 + 1))))) else (none)) else (none)) else (some (-1))
def slices_IndexFunc_at_dot_Check_1.f (k : Nat) (l0 : List Int) (a1 : Unit) : Option (Int) := slices_IndexFunc_at_dot_Check_1.l0 k l0 (l0.length : Int) 0
theorem slices_IndexFunc_at_dot_Check_1.calls (k : Nat) (A0 : Option Addr) (c0 : Nat) (l0 : List Int) (a1 : Unit) (r : Int) (w : World) (hr0 : Kd.C (Kd.int .i64) w A0 l0.length l0) (hc0 : l0.length ≤ c0) (h : slices_IndexFunc_at_dot_Check_1.f k l0 a1 = some r) :
  Calls Try.prog 91 #[.slice A0 l0.length c0, .func (.func 113) #[] #[]] w fun e w' => e = .returned (.int .i64 r) ∧ Drawn0 w w' := by
 have HR0 := mk_ hr0
 have HC0 := mk_ hc0
 clear hr0 hc0
 have H : (slices_IndexFunc_at_dot_Check_1.l0 k l0 (l0.length : Int) 0) = some r := h
 clear h
 have H' := mk_ H
 clear H
 go_enter Try.func91, Try.ntmps91
 go_wp2
 go_loopg [8] k (fun kq v8 w' => ∃ (x8_1 : Int), v8 = .int .i64 x8_1 ∧ Aside0 (slices_IndexFunc_at_dot_Check_1.l0 kq l0 (l0.length : Int) x8_1 = some r) ∧ Aside0 (kq ≤ k) ∧ Drawn0 w w')
 case atStart => exact ⟨(0), z3_, H', ⟨Nat.le_refl _⟩, by repeat (first | exact Drawn0.refl _ | apply Drawn0.step)⟩
 case round =>
  clear H'
  try clear p2
  obtain ⟨x8_1, rfl, HA, HK1, ⟨m1, rfl⟩⟩ := hrel
  cases gk with
  | zero => exact absurd HA.out (by simp [slices_IndexFunc_at_dot_Check_1.l0])
  | succ k1 =>
   have H := HA.out
   clear HA
   simp only [slices_IndexFunc_at_dot_Check_1.l0] at H
   by_cases c3 : x8_1 < (l0.length : Int)
   rotate_left
   ·
    rw [if_neg c3] at H
    have c3b0 : decide (x8_1 < (l0.length : Int)) = false := decide_eq_false c3
    clear c3
    obtain rfl := Option.some.inj H
    go_wp2
    go_ret
    exact ⟨z3_, by repeat (first | exact Drawn0.refl _ | apply Drawn0.step)⟩
   rw [if_pos c3] at H
   have c3b0 : decide (x8_1 < (l0.length : Int)) = true := decide_eq_true c3
   clear c3
   by_cases c4 : 0 ≤ x8_1
   rotate_left
   ·
    rw [if_neg c4] at H
    exact absurd H (by simp)
   rw [if_pos c4] at H
   have c4b0 : decide (0 ≤ x8_1) = true := decide_eq_true c4
   clear c4
   by_cases c5 : x8_1 < (l0.length : Int)
   rotate_left
   ·
    rw [if_neg c5] at H
    exact absurd H (by simp)
   rw [if_pos c5] at H
   have c5b0 : decide (x8_1 < (l0.length : Int)) = true := decide_eq_true c5
   clear c5
   replace H := Option.bind_eq_some_iff.mp H
   obtain ⟨t274, A60, H⟩ := H
   replace H : (if t274 = true then (some x8_1) else (slices_IndexFunc_at_dot_Check_1.l0 k1 l0 (l0.length : Int) (wrap64 (x8_1 + 1)))) = some r := H
   have A6 := mk_ A60
   clear A60
   by_cases c7 : t274 = true
   ·
    subst c7
    rw [if_pos rfl] at H
    obtain rfl := Option.some.inj H
    have p273 : 0 ≤ (x8_1 : Int) := of_decide_eq_true z1_
    have q273 : x8_1 < (l0.length : Int) := of_decide_eq_true z1_
    obtain ⟨ad273, e273, hx273_0⟩ := Kd.at_int HR0.out x8_1 p273 q273
    cases e273
    replace p273 := eq_true p273
    replace q273 := eq_true q273
    go_wp2_with (first | ((first | ((with_reducible refine gate_callee (f := 113) rfl ?_); refine Short.gL (some 16) Try.func113 #[.int .i64 (rd l0 x8_1)] (h := ?_)) | ((with_reducible refine Go.Proofs.Ytjnjfogfpmeacaa.Steps.gate_any rfl ?_); refine Go.Proofs.Ytjnjfogfpmeacaa.Steps.goesV_ (some 16) rfl rfl Try.func113 z0_ rfl #[.int .i64 (rd l0 x8_1)] rfl (by first | rfl | go_simp) z2_ ?_)); (with_reducible refine (dot_Check_1.calls (rd l0 x8_1) true _ A6.out).mono ?_); rintro e w' ⟨rfl, ⟨nd, rfl⟩⟩; refine ⟨_, rfl, ?_⟩))
    go_ret
    exact ⟨z3_, by repeat (first | exact Drawn0.refl _ | apply Drawn0.step)⟩
   replace c7 := Bool.eq_false_iff.mpr c7
   subst c7
   rw [if_neg (show ¬ (false = true) by decide)] at H
   have H' := mk_ H
   clear H
   have p273 : 0 ≤ (x8_1 : Int) := of_decide_eq_true z1_
   have q273 : x8_1 < (l0.length : Int) := of_decide_eq_true z1_
   obtain ⟨ad273, e273, hx273_0⟩ := Kd.at_int HR0.out x8_1 p273 q273
   cases e273
   replace p273 := eq_true p273
   replace q273 := eq_true q273
   go_wp2_with (first | ((first | ((with_reducible refine gate_callee (f := 113) rfl ?_); refine Short.gL (some 16) Try.func113 #[.int .i64 (rd l0 x8_1)] (h := ?_)) | ((with_reducible refine Go.Proofs.Ytjnjfogfpmeacaa.Steps.gate_any rfl ?_); refine Go.Proofs.Ytjnjfogfpmeacaa.Steps.goesV_ (some 16) rfl rfl Try.func113 z0_ rfl #[.int .i64 (rd l0 x8_1)] rfl (by first | rfl | go_simp) z2_ ?_)); (with_reducible refine (dot_Check_1.calls (rd l0 x8_1) false _ A6.out).mono ?_); rintro e w' ⟨rfl, ⟨nd, rfl⟩⟩; refine ⟨_, rfl, ?_⟩))
   go_roundg k1
   case measure => have := HK1.out; omega
   case rel => exact ⟨(wrap64 (x8_1 + 1)), z3_, H', ⟨by have := HK1.out; omega⟩, by repeat (first | exact Drawn0.refl _ | apply Drawn0.step)⟩
def slices_ContainsFunc_at_dot_Check_1.f (k : Nat) (l0 : List Int) (a1 : Unit) : Option (Bool) := (slices_IndexFunc_at_dot_Check_1.f k l0 a1).bind fun t275 => (some (decide (t275 ≥ 0)))
theorem slices_ContainsFunc_at_dot_Check_1.calls (k : Nat) (A0 : Option Addr) (c0 : Nat) (l0 : List Int) (a1 : Unit) (r : Bool) (w : World) (hr0 : Kd.C (Kd.int .i64) w A0 l0.length l0) (hc0 : l0.length ≤ c0) (h : slices_ContainsFunc_at_dot_Check_1.f k l0 a1 = some r) :
  Calls Try.prog 50 #[.slice A0 l0.length c0, .func (.func 113) #[] #[]] w fun e w' => e = .returned (.bool r) ∧ Drawn0 w w' := by
 have HR0 := mk_ hr0
 have HC0 := mk_ hc0
 clear hr0 hc0
 have H : ((slices_IndexFunc_at_dot_Check_1.f k l0 a1).bind fun t275 => (some (decide (t275 ≥ 0)))) = some r := h
 clear h
 replace H := Option.bind_eq_some_iff.mp H
 obtain ⟨t275, A30, H⟩ := H
 replace H : (some (decide (t275 ≥ 0))) = some r := H
 have A3 := mk_ A30
 clear A30
 obtain rfl := Option.some.inj H
 go_enter Try.func50, Try.ntmps50
 go_wp2_with (first | ((first | ((with_reducible refine gate_callee (f := 91) rfl ?_); refine Short.gL (some 7) Try.func91 #[.slice A0 l0.length c0, .func (.func 113) #[] #[]] (h := ?_)) | ((with_reducible refine Go.Proofs.Ytjnjfogfpmeacaa.Steps.gate_any rfl ?_); refine Go.Proofs.Ytjnjfogfpmeacaa.Steps.goesV_ (some 7) rfl rfl Try.func91 z0_ rfl #[.slice A0 l0.length c0, .func (.func 113) #[] #[]] rfl (by first | rfl | go_simp) z2_ ?_)); (with_reducible refine (slices_IndexFunc_at_dot_Check_1.calls k _ _ l0 a1 t275 _ ?side1 ?side2 A3.out).mono ?_); (case side1 => repeat (first | exact HR0.out | (with_reducible refine C_alloc ?_ _) | (with_reducible refine C_drewN ?_ _) | (with_reducible refine C_drew ?_))); (case side2 => exact HC0.out); rintro e w' ⟨rfl, ⟨nd, rfl⟩⟩; refine ⟨_, rfl, ?_⟩))
 go_ret
 exact ⟨z3_, by repeat (first | exact Drawn0.refl _ | apply Drawn0.step)⟩
def dot_Check.j0 : Nat → List Int → Bool → Option (Int)
 | 0, _, _ => none
 | k + 1, x0, x3 => if x3 = true then (some 2) else ((slices_ContainsFunc_at_dot_Check_1.f k x0 ()).bind fun t276 => (if t276 = true then (some 1) else (some 0)))
def dot_Check.f (k : Nat) (l0 : List Int) : Option (Int) := if (l0.length : Int) < 1 then (dot_Check.j0 k l0 true) else (dot_Check.j0 k l0 (decide ((l0.length : Int) > 5)))
theorem dot_Check.calls (k : Nat) (A0 : Option Addr) (c0 : Nat) (l0 : List Int) (r : Int) (w : World) (hr0 : Kd.C (Kd.int .i64) w A0 l0.length l0) (hc0 : l0.length ≤ c0) (h : dot_Check.f k l0 = some r) :
  Calls Try.prog 99 #[.slice A0 l0.length c0] w fun e w' => e = .returned (.int .i64 r) ∧ Drawn0 w w' := by
 have HR0 := mk_ hr0
 have HC0 := mk_ hc0
 clear hr0 hc0
 have H : (if (l0.length : Int) < 1 then (dot_Check.j0 k l0 true) else (dot_Check.j0 k l0 (decide ((l0.length : Int) > 5)))) = some r := h
 clear h
 have HC2 := mk_ H
 clear H
 go_enter Try.func99, Try.ntmps99
 go_upto_region 1 with (fail)
 go_cut [3] (fun v3 wc => ∃ (kq : Nat) (x3_1 : Bool), v3 = .bool x3_1 ∧ Aside0 (dot_Check.j0 kq l0 x3_1 = some r) ∧ Aside0 (kq ≤ k) ∧ Drawn0 w wc)
 case first =>
  have H := HC2.out
  clear HC2
  by_cases c3 : (l0.length : Int) < 1
  ·
   rw [if_pos c3] at H
   have c3b0 : decide ((l0.length : Int) < 1) = true := decide_eq_true c3
   have c3b1 : decide (l0.length < 1) = true := decide_eq_true z4_
   clear c3
   (first | rw [c3b0] | (simp only [i64_w, i32_w]; rw [c3b0]) | skip)
   have H' := mk_ H
   clear H
   go_wp2
   go_meet
   case rel => exact ⟨_, (true), z3_, H', ⟨by first | omega | exact Nat.le_refl _⟩, by repeat (first | exact Drawn0.refl _ | apply Drawn0.step)⟩
  rw [if_neg c3] at H
  have c3b0 : decide ((l0.length : Int) < 1) = false := decide_eq_false c3
  have c3b1 : decide (l0.length < 1) = false := decide_eq_false z4_
  clear c3
  (first | rw [c3b0] | (simp only [i64_w, i32_w]; rw [c3b0]) | skip)
  have H' := mk_ H
  clear H
  go_wp2
  go_meet
  case rel => exact ⟨_, (decide ((l0.length : Int) > 5)), z3_, H', ⟨by first | omega | exact Nat.le_refl _⟩, by repeat (first | exact Drawn0.refl _ | apply Drawn0.step)⟩
 case rest => as_aux_lemma =>
  clear HC2
  try clear p2
  try clear c3
  try clear c3b0
  try clear c3b1
  obtain ⟨kq, x3_1, rfl, HA, HJ1, ⟨mc1, rfl⟩⟩ := hcut
  cases kq with
  | zero => exact absurd HA.out (by simp [dot_Check.j0])
  | succ kj1 =>
   have H := HA.out
   clear HA
   simp only [dot_Check.j0] at H
   by_cases c4 : x3_1 = true
   ·
    subst c4
    rw [if_pos rfl] at H
    obtain rfl := Option.some.inj H
    go_wp2
    go_ret
    exact ⟨z3_, by repeat (first | exact Drawn0.refl _ | apply Drawn0.step)⟩
   ·
    replace c4 := Bool.eq_false_iff.mpr c4
    subst c4
    rw [if_neg (show ¬ (false = true) by decide)] at H
    replace H := Option.bind_eq_some_iff.mp H
    obtain ⟨t276, A50, H⟩ := H
    replace H : (if t276 = true then (some 1) else (some 0)) = some r := H
    have A5 := mk_ A50
    clear A50
    by_cases c6 : t276 = true
    ·
     subst c6
     rw [if_pos rfl] at H
     obtain rfl := Option.some.inj H
     go_wp2_with (first | ((with_reducible refine gate_callee (f := 50) rfl ?_); refine Short.gL (some 14) Try.func50 #[.slice A0 l0.length c0, .func (.func 113) #[] #[]] (h := ?_); (with_reducible refine (slices_ContainsFunc_at_dot_Check_1.calls kj1 _ _ l0 () true _ ?side1 ?side2 A5.out).mono ?_); (case side1 => repeat (first | exact HR0.out | (with_reducible refine C_alloc ?_ _) | (with_reducible refine C_drewN ?_ _) | (with_reducible refine C_drew ?_))); (case side2 => exact HC0.out); rintro e w' ⟨rfl, ⟨nd, rfl⟩⟩; refine ⟨_, rfl, ?_⟩))
     go_ret
     exact ⟨z3_, by repeat (first | exact Drawn0.refl _ | apply Drawn0.step)⟩
    ·
     replace c6 := Bool.eq_false_iff.mpr c6
     subst c6
     rw [if_neg (show ¬ (false = true) by decide)] at H
     obtain rfl := Option.some.inj H
     go_wp2_with (first | ((with_reducible refine gate_callee (f := 50) rfl ?_); refine Short.gL (some 14) Try.func50 #[.slice A0 l0.length c0, .func (.func 113) #[] #[]] (h := ?_); (with_reducible refine (slices_ContainsFunc_at_dot_Check_1.calls kj1 _ _ l0 () false _ ?side1 ?side2 A5.out).mono ?_); (case side1 => repeat (first | exact HR0.out | (with_reducible refine C_alloc ?_ _) | (with_reducible refine C_drewN ?_ _) | (with_reducible refine C_drew ?_))); (case side2 => exact HC0.out); rintro e w' ⟨rfl, ⟨nd, rfl⟩⟩; refine ⟨_, rfl, ?_⟩))
     go_ret
     exact ⟨z3_, by repeat (first | exact Drawn0.refl _ | apply Drawn0.step)⟩
def hlc_in.f (a0 : Int) (a1 : Int) : Option (Bool) := if a0 ≥ 0 then (some (decide (a0 ≤ a1))) else (some false)
theorem hlc_in.calls (a0 : Int) (a1 : Int) (r : Bool) (w : World) (h : hlc_in.f a0 a1 = some r) :
  Calls Try.prog 114 #[.int .i64 a0, .int .i64 a1] w fun e w' => e = .returned (.bool r) ∧ Drawn0 w w' := by
 have H : (if a0 ≥ 0 then (some (decide (a0 ≤ a1))) else (some false)) = some r := h
 clear h
 by_cases c3 : a0 ≥ 0
 ·
  rw [if_pos c3] at H
  have c3b0 : decide (0 ≤ a0) = true := decide_eq_true c3
  clear c3
  obtain rfl := Option.some.inj H
  go_enter Try.func114, Try.ntmps114
  go_wp2
  go_ret
  exact ⟨z3_, by repeat (first | exact Drawn0.refl _ | apply Drawn0.step)⟩
 rw [if_neg c3] at H
 have c3b0 : decide (0 ≤ a0) = false := decide_eq_false c3
 clear c3
 obtain rfl := Option.some.inj H
 go_enter Try.func114, Try.ntmps114
 go_wp2
 go_ret
 exact ⟨z3_, by repeat (first | exact Drawn0.refl _ | apply Drawn0.step)⟩
def hlc_Check.f (a0_0 : Int) (a0_1 : Int) (a0_2 : Int) : Option (Int) := (hlc_in.f a0_0 1099511627776).bind fun t278 => (if t278 = true then ((hlc_in.f a0_1 65536).bind fun t279 => (if t279 = true then ((hlc_in.f a0_2 4).bind fun t280 => (if t280 = true then (some 0) else (some 1))) else (some 1))) else (some 1))
theorem hlc_Check.calls (a0_0 : Int) (a0_1 : Int) (a0_2 : Int) (r : Int) (w : World) (h : hlc_Check.f a0_0 a0_1 a0_2 = some r) :
  Calls Try.prog 100 #[.agg #[.int .i64 a0_0, .int .i64 a0_1, .int .i64 a0_2]] w fun e w' => e = .returned (.int .i64 r) ∧ Below w.heap.size w w' := by
 have hu28 := Try.underlying28
 have HB := mk_ (Below.refl w.heap.size w)
 have H : ((hlc_in.f a0_0 1099511627776).bind fun t278 => (if t278 = true then ((hlc_in.f a0_1 65536).bind fun t279 => (if t279 = true then ((hlc_in.f a0_2 4).bind fun t280 => (if t280 = true then (some 0) else (some 1))) else (some 1))) else (some 1))) = some r := h
 clear h
 replace H := Option.bind_eq_some_iff.mp H
 obtain ⟨t278, A20, H⟩ := H
 replace H : (if t278 = true then ((hlc_in.f a0_1 65536).bind fun t279 => (if t279 = true then ((hlc_in.f a0_2 4).bind fun t280 => (if t280 = true then (some 0) else (some 1))) else (some 1))) else (some 1)) = some r := H
 have A2 := mk_ A20
 clear A20
 by_cases c3 : t278 = true
 rotate_left
 ·
  replace c3 := Bool.eq_false_iff.mpr c3
  subst c3
  rw [if_neg (show ¬ (false = true) by decide)] at H
  obtain rfl := Option.some.inj H
  go_enter Try.func100, Try.ntmps100
  go_wp2_with (first | ((with_reducible refine gate_dst (N := 1) rfl ?_); refine box_event ?hg (N := 1) ?hd (cs := #[.int .i64 a0_0, .int .i64 a0_1, .int .i64 a0_2]) (t := 28) ?hr ?_; (case hd => rfl); (case hg => rfl); (case hr => first | (go_simp; done) | (go_simp; rfl)); intro gb277 hg w14 hbox hb; have n0_ := mk_ (below_step (Short.hB HB) hb); have n1_ := mk_ (hbox); have n2_ := mk_ ((by rw [hg]; exact (below_size (Short.hB HB)) : w.heap.size ≤ gb277)); have n3_ := mk_ ((by rw [hg]; exact (below_size (Short.hB HB)) : w.heap.size ≤ gb277)); clear HB; revert n0_ n1_ n2_ n3_; intro HB BK277 GW277 GE277; clear hb hbox hg; obtain ⟨hcz15_0, hcz15_1, hcz15_2, hfz15_0, hfz15_1, hfz15_2⟩ := Short.c3 BK277.out) | ((with_reducible refine gate_callee (f := 114) rfl ?_); refine Short.gL (some 5) Try.func114 #[.int .i64 a0_0, .int .i64 1099511627776] (h := ?_); (with_reducible refine (hlc_in.calls a0_0 1099511627776 false _ A2.out).mono ?_); rintro e w' ⟨rfl, ⟨nd, rfl⟩⟩; refine ⟨_, rfl, ?_⟩))
  go_ret
  exact ⟨q0, Short.hB HB⟩
 subst c3
 rw [if_pos rfl] at H
 replace H := Option.bind_eq_some_iff.mp H
 obtain ⟨t279, A40, H⟩ := H
 replace H : (if t279 = true then ((hlc_in.f a0_2 4).bind fun t280 => (if t280 = true then (some 0) else (some 1))) else (some 1)) = some r := H
 have A4 := mk_ A40
 clear A40
 by_cases c5 : t279 = true
 rotate_left
 ·
  replace c5 := Bool.eq_false_iff.mpr c5
  subst c5
  rw [if_neg (show ¬ (false = true) by decide)] at H
  obtain rfl := Option.some.inj H
  go_enter Try.func100, Try.ntmps100
  go_wp2_with (first | ((with_reducible refine gate_dst (N := 1) rfl ?_); refine box_event ?hg (N := 1) ?hd (cs := #[.int .i64 a0_0, .int .i64 a0_1, .int .i64 a0_2]) (t := 28) ?hr ?_; (case hd => rfl); (case hg => rfl); (case hr => first | (go_simp; done) | (go_simp; rfl)); intro gb277 hg w12 hbox hb; have n0_ := mk_ (below_step (Short.hB HB) hb); have n1_ := mk_ (hbox); have n2_ := mk_ ((by rw [hg]; exact (below_size (Short.hB HB)) : w.heap.size ≤ gb277)); have n3_ := mk_ ((by rw [hg]; exact (below_size (Short.hB HB)) : w.heap.size ≤ gb277)); clear HB; revert n0_ n1_ n2_ n3_; intro HB BK277 GW277 GE277; clear hb hbox hg; obtain ⟨hcz13_0, hcz13_1, hcz13_2, hfz13_0, hfz13_1, hfz13_2⟩ := Short.c3 BK277.out) | ((with_reducible refine gate_callee (f := 114) rfl ?_); refine Short.gL (some 5) Try.func114 #[.int .i64 a0_0, .int .i64 1099511627776] (h := ?_); (with_reducible refine (hlc_in.calls a0_0 1099511627776 true _ A2.out).mono ?_); rintro e w' ⟨rfl, ⟨nd, rfl⟩⟩; refine ⟨_, rfl, ?_⟩) | (go_at_call 114; (with_reducible refine (hlc_in.calls a0_1 65536 false _ A4.out).mono ?_); rintro e w' ⟨rfl, ⟨nd, rfl⟩⟩))
  go_ret
  exact ⟨q0, Short.hB HB⟩
 subst c5
 rw [if_pos rfl] at H
 replace H := Option.bind_eq_some_iff.mp H
 obtain ⟨t280, A60, H⟩ := H
 replace H : (if t280 = true then (some 0) else (some 1)) = some r := H
 have A6 := mk_ A60
 clear A60
 by_cases c7 : t280 = true
 ·
  subst c7
  rw [if_pos rfl] at H
  obtain rfl := Option.some.inj H
  go_enter Try.func100, Try.ntmps100
  go_wp2_with (first | ((with_reducible refine gate_dst (N := 1) rfl ?_); refine box_event ?hg (N := 1) ?hd (cs := #[.int .i64 a0_0, .int .i64 a0_1, .int .i64 a0_2]) (t := 28) ?hr ?_; (case hd => rfl); (case hg => rfl); (case hr => first | (go_simp; done) | (go_simp; rfl)); intro gb277 hg w8 hbox hb; have n0_ := mk_ (below_step (Short.hB HB) hb); have n1_ := mk_ (hbox); have n2_ := mk_ ((by rw [hg]; exact (below_size (Short.hB HB)) : w.heap.size ≤ gb277)); have n3_ := mk_ ((by rw [hg]; exact (below_size (Short.hB HB)) : w.heap.size ≤ gb277)); clear HB; revert n0_ n1_ n2_ n3_; intro HB BK277 GW277 GE277; clear hb hbox hg; obtain ⟨hcz9_0, hcz9_1, hcz9_2, hfz9_0, hfz9_1, hfz9_2⟩ := Short.c3 BK277.out) | ((with_reducible refine gate_callee (f := 114) rfl ?_); refine Short.gL (some 5) Try.func114 #[.int .i64 a0_0, .int .i64 1099511627776] (h := ?_); (with_reducible refine (hlc_in.calls a0_0 1099511627776 true _ A2.out).mono ?_); rintro e w' ⟨rfl, ⟨nd, rfl⟩⟩; refine ⟨_, rfl, ?_⟩) | (go_at_call 114; (with_reducible refine (hlc_in.calls a0_1 65536 true _ A4.out).mono ?_); rintro e w' ⟨rfl, ⟨nd, rfl⟩⟩) | (go_at_call 114; (with_reducible refine (hlc_in.calls a0_2 4 true _ A6.out).mono ?_); rintro e w' ⟨rfl, ⟨nd, rfl⟩⟩))
  go_ret
  exact ⟨q0, Short.hB HB⟩
 replace c7 := Bool.eq_false_iff.mpr c7
 subst c7
 rw [if_neg (show ¬ (false = true) by decide)] at H
 obtain rfl := Option.some.inj H
 go_enter Try.func100, Try.ntmps100
 go_wp2_with (first | ((with_reducible refine gate_dst (N := 1) rfl ?_); refine box_event ?hg (N := 1) ?hd (cs := #[.int .i64 a0_0, .int .i64 a0_1, .int .i64 a0_2]) (t := 28) ?hr ?_; (case hd => rfl); (case hg => rfl); (case hr => first | (go_simp; done) | (go_simp; rfl)); intro gb277 hg w10 hbox hb; have n0_ := mk_ (below_step (Short.hB HB) hb); have n1_ := mk_ (hbox); have n2_ := mk_ ((by rw [hg]; exact (below_size (Short.hB HB)) : w.heap.size ≤ gb277)); have n3_ := mk_ ((by rw [hg]; exact (below_size (Short.hB HB)) : w.heap.size ≤ gb277)); clear HB; revert n0_ n1_ n2_ n3_; intro HB BK277 GW277 GE277; clear hb hbox hg; obtain ⟨hcz11_0, hcz11_1, hcz11_2, hfz11_0, hfz11_1, hfz11_2⟩ := Short.c3 BK277.out) | ((with_reducible refine gate_callee (f := 114) rfl ?_); refine Short.gL (some 5) Try.func114 #[.int .i64 a0_0, .int .i64 1099511627776] (h := ?_); (with_reducible refine (hlc_in.calls a0_0 1099511627776 true _ A2.out).mono ?_); rintro e w' ⟨rfl, ⟨nd, rfl⟩⟩; refine ⟨_, rfl, ?_⟩) | (go_at_call 114; (with_reducible refine (hlc_in.calls a0_1 65536 true _ A4.out).mono ?_); rintro e w' ⟨rfl, ⟨nd, rfl⟩⟩) | (go_at_call 114; (with_reducible refine (hlc_in.calls a0_2 4 false _ A6.out).mono ?_); rintro e w' ⟨rfl, ⟨nd, rfl⟩⟩))
 go_ret
 exact ⟨q0, Short.hB HB⟩
end Go.Proofs.Ytjnjfogfpmeacaa.PAll
end
