-- Put together by a program of this session (wip/slice2.py) out of the seat's texts.
import Derived.Test.YtjnjfogfpmeacaaZOUp2

set_option maxHeartbeats 8000000
set_option maxRecDepth 100000
open Go.Proofs.YtjnjfogfpmeacaaW Go.Proofs.Ytjnjfogfpmeacaa
section
namespace Go.Proofs.Ytjnjfogfpmeacaa.PAll
open Go.RowKit PrintWords PrintLast PrintMore ZipT PrintWords.Kd PrintMore.Kd
attribute [local go_sem] max2_int min2_int max_two min_two max_three min_three max_four min_four   -- for this text's walks alone
set_option linter.unusedVariables false
set_option linter.unusedSimpArgs false
def op_right.j0 : Nat → List (S51) → Bool → Int → Int → List Int → Int → Int → Int → Int → Int → ByteArray → Int → List (S84) → List (S25) → Option (Bool)
 | 0, _, _, _, _, _, _, _, _, _, _, _, _, _, _ => none
 | k + 1, x1, x29, x328000, x328001, x328002, x328003, x328004, x328005, x328006, x328007, x328008, x328009, x328010, x328011 => if x29 = true then (some false) else (if 0 ≤ x328007 then (if x328007 < (x1.length : Int) then (if x328006 = 1 then ((op_small.f k x328010 ((rd_T51 x1 x328007).f0)).bind fun t331 => (if t331 = true then (if x328009 = 0 then (some ((x328011.length : Int) == 0)) else (some false)) else (some false))) else (if x328006 = 2 then (if x328009 ≥ 0 then (if x328009 < (((rd_T51 x1 x328007).f0).length : Int) then (if 0 ≤ x328009 then (if x328009 ≤ (wrap64 (x328009 + 1)) then (if (wrap64 (x328009 + 1)) ≤ (((rd_T51 x1 x328007).f0).length : Int) then ((op_small.f k x328010 ((((rd_T51 x1 x328007).f0).take ((wrap64 (x328009 + 1)) : Int).toNat).drop (x328009 : Int).toNat)).bind fun t333 => (if t333 = true then (some ((x328011.length : Int) == 0)) else (some false))) else (none)) else (none)) else (none)) else (some false)) else (some false)) else (if x328006 = 3 then (if (x328011.length : Int) ≥ 1 then (if (x328011.length : Int) ≤ 64 then ((op_had.f k x328002 x328011).bind fun t334 => (if t334 = true then (if x328009 = 0 then (some ((x328010.length : Int) == 0)) else (some false)) else (some false))) else (some false)) else (some false)) else (some false)))) else (none)) else (none))
def op_right.f (k : Nat) (a0 : Int) (l1 : List (S51)) (a2_0 : Int) (a2_1 : Int) (l2_2 : List Int) (a2_3 : Int) (a2_4 : Int) (a2_5 : Int) (a2_6 : Int) (a2_7 : Int) (a2_8 : ByteArray) (a2_9 : Int) (l2_10 : List (S84)) (l2_11 : List (S25)) : Option (Bool) := (op_whole.f k a0 a2_0 a2_1 l2_2 a2_3 a2_4 a2_5 a2_6 a2_7 a2_8 a2_9 l2_10 l2_11).bind fun t328 => (if t328 = true then (if a2_7 < 0 then (op_right.j0 k l1 true a2_0 a2_1 l2_2 a2_3 a2_4 a2_5 a2_6 a2_7 a2_8 a2_9 l2_10 l2_11) else (if a2_7 ≥ (l1.length : Int) then (op_right.j0 k l1 true a2_0 a2_1 l2_2 a2_3 a2_4 a2_5 a2_6 a2_7 a2_8 a2_9 l2_10 l2_11) else ((op_Key.f a2_8).bind fun t329 => (op_right.j0 k l1 (!t329) a2_0 a2_1 l2_2 a2_3 a2_4 a2_5 a2_6 a2_7 a2_8 a2_9 l2_10 l2_11)))) else (op_right.j0 k l1 true a2_0 a2_1 l2_2 a2_3 a2_4 a2_5 a2_6 a2_7 a2_8 a2_9 l2_10 l2_11))
def op_right.T8 : Bool × List (List Nat × List Nat) := (true, [([], []), ([0], [0]), ([1], [1]), ([2], [2]), ([3], [3]), ([4, 3], [3, 4]), ([3], [3]), ([6, 3], [3, 6]), ([5, 7, 3], [3, 5, 7]), ([3, 8], [3, 8]), ([9, 3], [9]), ([10], [10]), ([11, 10], [10, 11]), ([10], [10]), ([10], [10]), ([14, 10], [10, 14]), ([10], [10]), ([16, 10], [10, 16]), ([17, 10], [10, 17]), ([13, 15, 18, 10], [10, 13, 15, 18]), ([12, 19, 10, 10], [10, 12, 19]), ([10, 20], [10, 20]), ([21, 20], [21]), ([22], [22]), ([23, 22], [22, 23]), ([24, 22], [22, 24]), ([25, 22], [22, 25]), ([22, 26], [22, 26]), ([27, 22, 0, 1, 2, 3, 4, 5, 6, 7, 8, 9, 10, 11, 12, 13, 14, 15, 16, 17, 18, 19, 20, 21, 22, 23, 24, 25, 26, 27], [27])])
def op_right.B8 : List Nat := [0, 1, 3, 7, 15, 31, 15, 79, 255, 511, 1023, 2047, 4095, 2047, 2047, 18431, 2047, 67583, 198655, 518143, 1048575, 2097151, 4194303, 8388607, 16777215, 33554431, 67108863, 134217727, 268435455]
theorem op_right.tab8 : rtab .any (opsOf Try.f36 8) = op_right.T8 := by kernel_rfl
theorem op_right.bits8 : waitsOk op_right.T8.2 op_right.B8 = true := by kernel_rfl
theorem op_right.calls (k : Nat) (a0 : Int) (A1 : Option Addr) (c1 : Nat) (l1 : List (S51)) (a2_0 : Int) (a2_1 : Int) (A2_2 : Option Addr) (c2_2 : Nat) (l2_2 : List Int) (a2_3 : Int) (a2_4 : Int) (a2_5 : Int) (a2_6 : Int) (a2_7 : Int) (a2_8 : ByteArray) (a2_9 : Int) (A2_10 : Option Addr) (c2_10 : Nat) (l2_10 : List (S84)) (A2_11 : Option Addr) (c2_11 : Nat) (l2_11 : List (S25)) (r : Bool) (w : World) (hr1 : Kd.C k51 w A1 l1.length l1) (hc1 : l1.length ≤ c1) (hr2_2 : Kd.C (Kd.int .i64) w A2_2 l2_2.length l2_2) (hc2_2 : l2_2.length ≤ c2_2) (hr2_10 : Kd.C k84 w A2_10 l2_10.length l2_10) (hc2_10 : l2_10.length ≤ c2_10) (hr2_11 : Kd.C k25 w A2_11 l2_11.length l2_11) (hc2_11 : l2_11.length ≤ c2_11) (h : op_right.f k a0 l1 a2_0 a2_1 l2_2 a2_3 a2_4 a2_5 a2_6 a2_7 a2_8 a2_9 l2_10 l2_11 = some r) :
  Calls Try.prog 36 #[.int .i64 a0, .slice A1 l1.length c1, .agg #[.int .i64 a2_0, .int .i64 a2_1, .slice A2_2 l2_2.length c2_2, .int .i64 a2_3, .int .i64 a2_4, .int .i64 a2_5, .int .i64 a2_6, .int .i64 a2_7, .string a2_8, .int .i64 a2_9, .slice A2_10 l2_10.length c2_10, .slice A2_11 l2_11.length c2_11]] w fun e w' => e = .returned (.bool r) ∧ Below w.heap.size w w' := by
 have hu32 := Try.underlying32
 have HR1 := mk_ hr1
 have HC1 := mk_ hc1
 clear hr1 hc1
 have HR2_2 := mk_ hr2_2
 have HC2_2 := mk_ hc2_2
 clear hr2_2 hc2_2
 have HR2_10 := mk_ hr2_10
 have HC2_10 := mk_ hc2_10
 clear hr2_10 hc2_10
 have HR2_11 := mk_ hr2_11
 have HC2_11 := mk_ hc2_11
 clear hr2_11 hc2_11
 have HB := mk_ (Below.refl w.heap.size w)
 have H : ((op_whole.f k a0 a2_0 a2_1 l2_2 a2_3 a2_4 a2_5 a2_6 a2_7 a2_8 a2_9 l2_10 l2_11).bind fun t328 => (if t328 = true then (if a2_7 < 0 then (op_right.j0 k l1 true a2_0 a2_1 l2_2 a2_3 a2_4 a2_5 a2_6 a2_7 a2_8 a2_9 l2_10 l2_11) else (if a2_7 ≥ (l1.length : Int) then (op_right.j0 k l1 true a2_0 a2_1 l2_2 a2_3 a2_4 a2_5 a2_6 a2_7 a2_8 a2_9 l2_10 l2_11) else ((op_Key.f a2_8).bind fun t329 => (op_right.j0 k l1 (!t329) a2_0 a2_1 l2_2 a2_3 a2_4 a2_5 a2_6 a2_7 a2_8 a2_9 l2_10 l2_11)))) else (op_right.j0 k l1 true a2_0 a2_1 l2_2 a2_3 a2_4 a2_5 a2_6 a2_7 a2_8 a2_9 l2_10 l2_11))) = some r := h
 clear h
 have HC4 := mk_ H
 clear H
 go_enter Try.func36, Try.ntmps36
 go_upto_region 1 with (first | ((with_reducible refine gate_dst (N := 5) rfl ?_); (try (refine gate_guard (by rfl) ?_; dsimp only)); refine box_event ?hg (N := 5) ?hd (cs := #[.int .i64 a2_0, .int .i64 a2_1, .slice A2_2 l2_2.length c2_2, .int .i64 a2_3, .int .i64 a2_4, .int .i64 a2_5, .int .i64 a2_6, .int .i64 a2_7, .string a2_8, .int .i64 a2_9, .slice A2_10 l2_10.length c2_10, .slice A2_11 l2_11.length c2_11]) (t := 32) ?hr ?_; (case hd => rfl); (case hg => rfl); (case hr => first | (go_simp; done) | (go_simp; rfl)); intro gb327 hg w5 hbox hb; have n0_ := mk_ (below_step (Short.hB HB) hb); have n1_ := mk_ (hbox); have n2_ := mk_ ((by rw [hg]; exact (below_size (Short.hB HB)) : w.heap.size ≤ gb327)); have n3_ := mk_ ((by rw [hg]; exact (below_size (Short.hB HB)) : w.heap.size ≤ gb327)); clear HB; revert n0_ n1_ n2_ n3_; intro HB BK327 GW327 GE327; clear hb hbox hg))
 (try simp only [Act.put, List.setIfInBounds_toArray, List.set_cons_zero, List.set_cons_succ])
 go_cut [29] (fun v29 wc => ∃ (kq : Nat) (x29_3 : Bool), v29 = .bool x29_3 ∧ Aside0 (op_right.j0 kq l1 x29_3 a2_0 a2_1 l2_2 a2_3 a2_4 a2_5 a2_6 a2_7 a2_8 a2_9 l2_10 l2_11 = some r) ∧ Aside0 (kq ≤ k) ∧ Aside0 (wc.heap[gb327]? = some (.cells #[.int .i64 a2_0, .int .i64 a2_1, (.slice A2_2 l2_2.length c2_2), .int .i64 a2_3, .int .i64 a2_4, .int .i64 a2_5, .int .i64 a2_6, .int .i64 a2_7, .string a2_8, .int .i64 a2_9, (.slice A2_10 l2_10.length c2_10), (.slice A2_11 l2_11.length c2_11)] 32 (0, 0))) ∧ Aside0 (Below w.heap.size w wc))
 case first =>
  have H := HC4.out
  clear HC4
  replace H := Option.bind_eq_some_iff.mp H
  obtain ⟨t328, A60, H⟩ := H
  replace H : (if t328 = true then (if a2_7 < 0 then (op_right.j0 k l1 true a2_0 a2_1 l2_2 a2_3 a2_4 a2_5 a2_6 a2_7 a2_8 a2_9 l2_10 l2_11) else (if a2_7 ≥ (l1.length : Int) then (op_right.j0 k l1 true a2_0 a2_1 l2_2 a2_3 a2_4 a2_5 a2_6 a2_7 a2_8 a2_9 l2_10 l2_11) else ((op_Key.f a2_8).bind fun t329 => (op_right.j0 k l1 (!t329) a2_0 a2_1 l2_2 a2_3 a2_4 a2_5 a2_6 a2_7 a2_8 a2_9 l2_10 l2_11)))) else (op_right.j0 k l1 true a2_0 a2_1 l2_2 a2_3 a2_4 a2_5 a2_6 a2_7 a2_8 a2_9 l2_10 l2_11)) = some r := H
  have A6 := mk_ A60
  clear A60
  by_cases c7 : t328 = true
  rotate_left
  ·
   replace c7 := Bool.eq_false_iff.mpr c7
   subst c7
   rw [if_neg (show ¬ (false = true) by decide)] at H
   have H' := mk_ H
   clear H
   have hcz20_0 : w5.cell? ⟨gb327, 0, none⟩ = some (.int .i64 a2_0) := kc_ BK327 0
   have hcz20_1 : w5.cell? ⟨gb327, 1, none⟩ = some (.int .i64 a2_1) := kc_ BK327 1
   have hcz20_2 : w5.cell? ⟨gb327, 2, none⟩ = some (.slice A2_2 l2_2.length c2_2) := kc_ BK327 2
   have hcz20_3 : w5.cell? ⟨gb327, 3, none⟩ = some (.int .i64 a2_3) := kc_ BK327 3
   have hcz20_4 : w5.cell? ⟨gb327, 4, none⟩ = some (.int .i64 a2_4) := kc_ BK327 4
   have hcz20_5 : w5.cell? ⟨gb327, 5, none⟩ = some (.int .i64 a2_5) := kc_ BK327 5
   have hcz20_6 : w5.cell? ⟨gb327, 6, none⟩ = some (.int .i64 a2_6) := kc_ BK327 6
   have hcz20_7 : w5.cell? ⟨gb327, 7, none⟩ = some (.int .i64 a2_7) := kc_ BK327 7
   have hcz20_8 : w5.cell? ⟨gb327, 8, none⟩ = some (.string a2_8) := kc_ BK327 8
   have hcz20_9 : w5.cell? ⟨gb327, 9, none⟩ = some (.int .i64 a2_9) := kc_ BK327 9
   have hcz20_10 : w5.cell? ⟨gb327, 10, none⟩ = some (.slice A2_10 l2_10.length c2_10) := kc_ BK327 10
   have hcz20_11 : w5.cell? ⟨gb327, 11, none⟩ = some (.slice A2_11 l2_11.length c2_11) := kc_ BK327 11
   have hfz20_0 := blk_frozen BK327.out 0
   have hfz20_1 := blk_frozen BK327.out 1
   have hfz20_2 := blk_frozen BK327.out 2
   have hfz20_3 := blk_frozen BK327.out 3
   have hfz20_4 := blk_frozen BK327.out 4
   have hfz20_5 := blk_frozen BK327.out 5
   have hfz20_6 := blk_frozen BK327.out 6
   have hfz20_7 := blk_frozen BK327.out 7
   have hfz20_8 := blk_frozen BK327.out 8
   have hfz20_9 := blk_frozen BK327.out 9
   have hfz20_10 := blk_frozen BK327.out 10
   have hfz20_11 := blk_frozen BK327.out 11
   go_wp2_with (first | ((with_reducible refine gate_callee (f := 73) rfl ?_); refine Short.gL (some 10) Try.func73 #[.int .i64 a0, .agg #[.int .i64 a2_0, .int .i64 a2_1, .slice A2_2 l2_2.length c2_2, .int .i64 a2_3, .int .i64 a2_4, .int .i64 a2_5, .int .i64 a2_6, .int .i64 a2_7, .string a2_8, .int .i64 a2_9, .slice A2_10 l2_10.length c2_10, .slice A2_11 l2_11.length c2_11]] (h := ?_); (with_reducible refine (op_whole.calls k a0 a2_0 a2_1 _ _ l2_2 a2_3 a2_4 a2_5 a2_6 a2_7 a2_8 a2_9 _ _ l2_10 _ _ l2_11 false _ ?side1 ?side2 ?side3 ?side4 ?side5 ?side6 A6.out).mono ?_); (case side1 => exact cX_ (C_below HR2_2.out HB.out)); (case side2 => exact HC2_2.out); (case side3 => exact cX_ (C_below HR2_10.out HB.out)); (case side4 => exact HC2_10.out); (case side5 => exact cX_ (C_below HR2_11.out HB.out)); (case side6 => exact HC2_11.out); rintro e w21 ⟨rfl, hb⟩; refine ⟨_, rfl, ?_⟩; have n0_ := mk_ (bB_ BK327 hb); have n1_ := mk_ (below_step (Short.hB HB) hb); clear BK327 HB; revert n0_ n1_; intro BK327 HB; (try clear hb)))
   go_meet
   case rel => exact ⟨_, (true), z3_, H', ⟨by first | omega | exact Nat.le_refl _⟩, ⟨by (with_reducible repeat (first | refine blk_drewN ?_ _ | refine blk_drew ?_ | refine blk_alloc ?_ _)); exact BK327.out⟩, ⟨Short.hB HB⟩⟩
  subst c7
  rw [if_pos rfl] at H
  by_cases c8 : a2_7 < 0
  ·
   rw [if_pos c8] at H
   have c8b0 : decide (a2_7 < 0) = true := decide_eq_true c8
   clear c8
   (first | rw [c8b0] | (simp only [i64_w, i32_w]; rw [c8b0]) | skip)
   have H' := mk_ H
   clear H
   have hcz9_0 : w5.cell? ⟨gb327, 0, none⟩ = some (.int .i64 a2_0) := kc_ BK327 0
   have hcz9_1 : w5.cell? ⟨gb327, 1, none⟩ = some (.int .i64 a2_1) := kc_ BK327 1
   have hcz9_2 : w5.cell? ⟨gb327, 2, none⟩ = some (.slice A2_2 l2_2.length c2_2) := kc_ BK327 2
   have hcz9_3 : w5.cell? ⟨gb327, 3, none⟩ = some (.int .i64 a2_3) := kc_ BK327 3
   have hcz9_4 : w5.cell? ⟨gb327, 4, none⟩ = some (.int .i64 a2_4) := kc_ BK327 4
   have hcz9_5 : w5.cell? ⟨gb327, 5, none⟩ = some (.int .i64 a2_5) := kc_ BK327 5
   have hcz9_6 : w5.cell? ⟨gb327, 6, none⟩ = some (.int .i64 a2_6) := kc_ BK327 6
   have hcz9_7 : w5.cell? ⟨gb327, 7, none⟩ = some (.int .i64 a2_7) := kc_ BK327 7
   have hcz9_8 : w5.cell? ⟨gb327, 8, none⟩ = some (.string a2_8) := kc_ BK327 8
   have hcz9_9 : w5.cell? ⟨gb327, 9, none⟩ = some (.int .i64 a2_9) := kc_ BK327 9
   have hcz9_10 : w5.cell? ⟨gb327, 10, none⟩ = some (.slice A2_10 l2_10.length c2_10) := kc_ BK327 10
   have hcz9_11 : w5.cell? ⟨gb327, 11, none⟩ = some (.slice A2_11 l2_11.length c2_11) := kc_ BK327 11
   have hfz9_0 := blk_frozen BK327.out 0
   have hfz9_1 := blk_frozen BK327.out 1
   have hfz9_2 := blk_frozen BK327.out 2
   have hfz9_3 := blk_frozen BK327.out 3
   have hfz9_4 := blk_frozen BK327.out 4
   have hfz9_5 := blk_frozen BK327.out 5
   have hfz9_6 := blk_frozen BK327.out 6
   have hfz9_7 := blk_frozen BK327.out 7
   have hfz9_8 := blk_frozen BK327.out 8
   have hfz9_9 := blk_frozen BK327.out 9
   have hfz9_10 := blk_frozen BK327.out 10
   have hfz9_11 := blk_frozen BK327.out 11
   go_wp2_with (first | ((with_reducible refine gate_callee (f := 73) rfl ?_); refine Short.gL (some 10) Try.func73 #[.int .i64 a0, .agg #[.int .i64 a2_0, .int .i64 a2_1, .slice A2_2 l2_2.length c2_2, .int .i64 a2_3, .int .i64 a2_4, .int .i64 a2_5, .int .i64 a2_6, .int .i64 a2_7, .string a2_8, .int .i64 a2_9, .slice A2_10 l2_10.length c2_10, .slice A2_11 l2_11.length c2_11]] (h := ?_); (with_reducible refine (op_whole.calls k a0 a2_0 a2_1 _ _ l2_2 a2_3 a2_4 a2_5 a2_6 a2_7 a2_8 a2_9 _ _ l2_10 _ _ l2_11 true _ ?side1 ?side2 ?side3 ?side4 ?side5 ?side6 A6.out).mono ?_); (case side1 => exact cX_ (C_below HR2_2.out HB.out)); (case side2 => exact HC2_2.out); (case side3 => exact cX_ (C_below HR2_10.out HB.out)); (case side4 => exact HC2_10.out); (case side5 => exact cX_ (C_below HR2_11.out HB.out)); (case side6 => exact HC2_11.out); rintro e w10 ⟨rfl, hb⟩; refine ⟨_, rfl, ?_⟩; have n0_ := mk_ (bB_ BK327 hb); have n1_ := mk_ (below_step (Short.hB HB) hb); clear BK327 HB; revert n0_ n1_; intro BK327 HB; (try clear hb); have hcz11_0 : w10.cell? ⟨gb327, 0, none⟩ = some (.int .i64 a2_0) := kc_ BK327 0; have hcz11_1 : w10.cell? ⟨gb327, 1, none⟩ = some (.int .i64 a2_1) := kc_ BK327 1; have hcz11_2 : w10.cell? ⟨gb327, 2, none⟩ = some (.slice A2_2 l2_2.length c2_2) := kc_ BK327 2; have hcz11_3 : w10.cell? ⟨gb327, 3, none⟩ = some (.int .i64 a2_3) := kc_ BK327 3; have hcz11_4 : w10.cell? ⟨gb327, 4, none⟩ = some (.int .i64 a2_4) := kc_ BK327 4; have hcz11_5 : w10.cell? ⟨gb327, 5, none⟩ = some (.int .i64 a2_5) := kc_ BK327 5; have hcz11_6 : w10.cell? ⟨gb327, 6, none⟩ = some (.int .i64 a2_6) := kc_ BK327 6; have hcz11_7 : w10.cell? ⟨gb327, 7, none⟩ = some (.int .i64 a2_7) := kc_ BK327 7; have hcz11_8 : w10.cell? ⟨gb327, 8, none⟩ = some (.string a2_8) := kc_ BK327 8; have hcz11_9 : w10.cell? ⟨gb327, 9, none⟩ = some (.int .i64 a2_9) := kc_ BK327 9; have hcz11_10 : w10.cell? ⟨gb327, 10, none⟩ = some (.slice A2_10 l2_10.length c2_10) := kc_ BK327 10; have hcz11_11 : w10.cell? ⟨gb327, 11, none⟩ = some (.slice A2_11 l2_11.length c2_11) := kc_ BK327 11; have hfz11_0 := blk_frozen BK327.out 0; have hfz11_1 := blk_frozen BK327.out 1; have hfz11_2 := blk_frozen BK327.out 2; have hfz11_3 := blk_frozen BK327.out 3; have hfz11_4 := blk_frozen BK327.out 4; have hfz11_5 := blk_frozen BK327.out 5; have hfz11_6 := blk_frozen BK327.out 6; have hfz11_7 := blk_frozen BK327.out 7; have hfz11_8 := blk_frozen BK327.out 8; have hfz11_9 := blk_frozen BK327.out 9; have hfz11_10 := blk_frozen BK327.out 10; have hfz11_11 := blk_frozen BK327.out 11))
   go_meet
   case rel => exact ⟨_, (true), z3_, H', ⟨by first | omega | exact Nat.le_refl _⟩, ⟨by (with_reducible repeat (first | refine blk_drewN ?_ _ | refine blk_drew ?_ | refine blk_alloc ?_ _)); exact BK327.out⟩, ⟨Short.hB HB⟩⟩
  rw [if_neg c8] at H
  have c8b0 : decide (a2_7 < 0) = false := decide_eq_false c8
  clear c8
  (first | rw [c8b0] | (simp only [i64_w, i32_w]; rw [c8b0]) | skip)
  by_cases c12 : a2_7 ≥ (l1.length : Int)
  ·
   rw [if_pos c12] at H
   have c12b0 : decide ((l1.length : Int) ≤ a2_7) = true := decide_eq_true c12
   clear c12
   have H' := mk_ H
   clear H
   have hcz13_0 : w5.cell? ⟨gb327, 0, none⟩ = some (.int .i64 a2_0) := kc_ BK327 0
   have hcz13_1 : w5.cell? ⟨gb327, 1, none⟩ = some (.int .i64 a2_1) := kc_ BK327 1
   have hcz13_2 : w5.cell? ⟨gb327, 2, none⟩ = some (.slice A2_2 l2_2.length c2_2) := kc_ BK327 2
   have hcz13_3 : w5.cell? ⟨gb327, 3, none⟩ = some (.int .i64 a2_3) := kc_ BK327 3
   have hcz13_4 : w5.cell? ⟨gb327, 4, none⟩ = some (.int .i64 a2_4) := kc_ BK327 4
   have hcz13_5 : w5.cell? ⟨gb327, 5, none⟩ = some (.int .i64 a2_5) := kc_ BK327 5
   have hcz13_6 : w5.cell? ⟨gb327, 6, none⟩ = some (.int .i64 a2_6) := kc_ BK327 6
   have hcz13_7 : w5.cell? ⟨gb327, 7, none⟩ = some (.int .i64 a2_7) := kc_ BK327 7
   have hcz13_8 : w5.cell? ⟨gb327, 8, none⟩ = some (.string a2_8) := kc_ BK327 8
   have hcz13_9 : w5.cell? ⟨gb327, 9, none⟩ = some (.int .i64 a2_9) := kc_ BK327 9
   have hcz13_10 : w5.cell? ⟨gb327, 10, none⟩ = some (.slice A2_10 l2_10.length c2_10) := kc_ BK327 10
   have hcz13_11 : w5.cell? ⟨gb327, 11, none⟩ = some (.slice A2_11 l2_11.length c2_11) := kc_ BK327 11
   have hfz13_0 := blk_frozen BK327.out 0
   have hfz13_1 := blk_frozen BK327.out 1
   have hfz13_2 := blk_frozen BK327.out 2
   have hfz13_3 := blk_frozen BK327.out 3
   have hfz13_4 := blk_frozen BK327.out 4
   have hfz13_5 := blk_frozen BK327.out 5
   have hfz13_6 := blk_frozen BK327.out 6
   have hfz13_7 := blk_frozen BK327.out 7
   have hfz13_8 := blk_frozen BK327.out 8
   have hfz13_9 := blk_frozen BK327.out 9
   have hfz13_10 := blk_frozen BK327.out 10
   have hfz13_11 := blk_frozen BK327.out 11
   go_wp2_with (first | ((with_reducible refine gate_callee (f := 73) rfl ?_); refine Short.gL (some 10) Try.func73 #[.int .i64 a0, .agg #[.int .i64 a2_0, .int .i64 a2_1, .slice A2_2 l2_2.length c2_2, .int .i64 a2_3, .int .i64 a2_4, .int .i64 a2_5, .int .i64 a2_6, .int .i64 a2_7, .string a2_8, .int .i64 a2_9, .slice A2_10 l2_10.length c2_10, .slice A2_11 l2_11.length c2_11]] (h := ?_); (with_reducible refine (op_whole.calls k a0 a2_0 a2_1 _ _ l2_2 a2_3 a2_4 a2_5 a2_6 a2_7 a2_8 a2_9 _ _ l2_10 _ _ l2_11 true _ ?side1 ?side2 ?side3 ?side4 ?side5 ?side6 A6.out).mono ?_); (case side1 => exact cX_ (C_below HR2_2.out HB.out)); (case side2 => exact HC2_2.out); (case side3 => exact cX_ (C_below HR2_10.out HB.out)); (case side4 => exact HC2_10.out); (case side5 => exact cX_ (C_below HR2_11.out HB.out)); (case side6 => exact HC2_11.out); rintro e w14 ⟨rfl, hb⟩; refine ⟨_, rfl, ?_⟩; have n0_ := mk_ (bB_ BK327 hb); have n1_ := mk_ (below_step (Short.hB HB) hb); clear BK327 HB; revert n0_ n1_; intro BK327 HB; (try clear hb); have hcz15_0 : w14.cell? ⟨gb327, 0, none⟩ = some (.int .i64 a2_0) := kc_ BK327 0; have hcz15_1 : w14.cell? ⟨gb327, 1, none⟩ = some (.int .i64 a2_1) := kc_ BK327 1; have hcz15_2 : w14.cell? ⟨gb327, 2, none⟩ = some (.slice A2_2 l2_2.length c2_2) := kc_ BK327 2; have hcz15_3 : w14.cell? ⟨gb327, 3, none⟩ = some (.int .i64 a2_3) := kc_ BK327 3; have hcz15_4 : w14.cell? ⟨gb327, 4, none⟩ = some (.int .i64 a2_4) := kc_ BK327 4; have hcz15_5 : w14.cell? ⟨gb327, 5, none⟩ = some (.int .i64 a2_5) := kc_ BK327 5; have hcz15_6 : w14.cell? ⟨gb327, 6, none⟩ = some (.int .i64 a2_6) := kc_ BK327 6; have hcz15_7 : w14.cell? ⟨gb327, 7, none⟩ = some (.int .i64 a2_7) := kc_ BK327 7; have hcz15_8 : w14.cell? ⟨gb327, 8, none⟩ = some (.string a2_8) := kc_ BK327 8; have hcz15_9 : w14.cell? ⟨gb327, 9, none⟩ = some (.int .i64 a2_9) := kc_ BK327 9; have hcz15_10 : w14.cell? ⟨gb327, 10, none⟩ = some (.slice A2_10 l2_10.length c2_10) := kc_ BK327 10; have hcz15_11 : w14.cell? ⟨gb327, 11, none⟩ = some (.slice A2_11 l2_11.length c2_11) := kc_ BK327 11; have hfz15_0 := blk_frozen BK327.out 0; have hfz15_1 := blk_frozen BK327.out 1; have hfz15_2 := blk_frozen BK327.out 2; have hfz15_3 := blk_frozen BK327.out 3; have hfz15_4 := blk_frozen BK327.out 4; have hfz15_5 := blk_frozen BK327.out 5; have hfz15_6 := blk_frozen BK327.out 6; have hfz15_7 := blk_frozen BK327.out 7; have hfz15_8 := blk_frozen BK327.out 8; have hfz15_9 := blk_frozen BK327.out 9; have hfz15_10 := blk_frozen BK327.out 10; have hfz15_11 := blk_frozen BK327.out 11))
   go_meet
   case rel => exact ⟨_, (true), z3_, H', ⟨by first | omega | exact Nat.le_refl _⟩, ⟨by (with_reducible repeat (first | refine blk_drewN ?_ _ | refine blk_drew ?_ | refine blk_alloc ?_ _)); exact BK327.out⟩, ⟨Short.hB HB⟩⟩
  rw [if_neg c12] at H
  have c12b0 : decide ((l1.length : Int) ≤ a2_7) = false := decide_eq_false c12
  clear c12
  replace H := Option.bind_eq_some_iff.mp H
  obtain ⟨t329, A160, H⟩ := H
  replace H : (op_right.j0 k l1 (!t329) a2_0 a2_1 l2_2 a2_3 a2_4 a2_5 a2_6 a2_7 a2_8 a2_9 l2_10 l2_11) = some r := H
  have A16 := mk_ A160
  clear A160
  have H' := mk_ H
  clear H
  have hcz17_0 : w5.cell? ⟨gb327, 0, none⟩ = some (.int .i64 a2_0) := kc_ BK327 0
  have hcz17_1 : w5.cell? ⟨gb327, 1, none⟩ = some (.int .i64 a2_1) := kc_ BK327 1
  have hcz17_2 : w5.cell? ⟨gb327, 2, none⟩ = some (.slice A2_2 l2_2.length c2_2) := kc_ BK327 2
  have hcz17_3 : w5.cell? ⟨gb327, 3, none⟩ = some (.int .i64 a2_3) := kc_ BK327 3
  have hcz17_4 : w5.cell? ⟨gb327, 4, none⟩ = some (.int .i64 a2_4) := kc_ BK327 4
  have hcz17_5 : w5.cell? ⟨gb327, 5, none⟩ = some (.int .i64 a2_5) := kc_ BK327 5
  have hcz17_6 : w5.cell? ⟨gb327, 6, none⟩ = some (.int .i64 a2_6) := kc_ BK327 6
  have hcz17_7 : w5.cell? ⟨gb327, 7, none⟩ = some (.int .i64 a2_7) := kc_ BK327 7
  have hcz17_8 : w5.cell? ⟨gb327, 8, none⟩ = some (.string a2_8) := kc_ BK327 8
  have hcz17_9 : w5.cell? ⟨gb327, 9, none⟩ = some (.int .i64 a2_9) := kc_ BK327 9
  have hcz17_10 : w5.cell? ⟨gb327, 10, none⟩ = some (.slice A2_10 l2_10.length c2_10) := kc_ BK327 10
  have hcz17_11 : w5.cell? ⟨gb327, 11, none⟩ = some (.slice A2_11 l2_11.length c2_11) := kc_ BK327 11
  have hfz17_0 := blk_frozen BK327.out 0
  have hfz17_1 := blk_frozen BK327.out 1
  have hfz17_2 := blk_frozen BK327.out 2
  have hfz17_3 := blk_frozen BK327.out 3
  have hfz17_4 := blk_frozen BK327.out 4
  have hfz17_5 := blk_frozen BK327.out 5
  have hfz17_6 := blk_frozen BK327.out 6
  have hfz17_7 := blk_frozen BK327.out 7
  have hfz17_8 := blk_frozen BK327.out 8
  have hfz17_9 := blk_frozen BK327.out 9
  have hfz17_10 := blk_frozen BK327.out 10
  have hfz17_11 := blk_frozen BK327.out 11
  go_wp2_with (first | ((with_reducible refine gate_callee (f := 73) rfl ?_); refine Short.gL (some 10) Try.func73 #[.int .i64 a0, .agg #[.int .i64 a2_0, .int .i64 a2_1, .slice A2_2 l2_2.length c2_2, .int .i64 a2_3, .int .i64 a2_4, .int .i64 a2_5, .int .i64 a2_6, .int .i64 a2_7, .string a2_8, .int .i64 a2_9, .slice A2_10 l2_10.length c2_10, .slice A2_11 l2_11.length c2_11]] (h := ?_); (with_reducible refine (op_whole.calls k a0 a2_0 a2_1 _ _ l2_2 a2_3 a2_4 a2_5 a2_6 a2_7 a2_8 a2_9 _ _ l2_10 _ _ l2_11 true _ ?side1 ?side2 ?side3 ?side4 ?side5 ?side6 A6.out).mono ?_); (case side1 => exact cX_ (C_below HR2_2.out HB.out)); (case side2 => exact HC2_2.out); (case side3 => exact cX_ (C_below HR2_10.out HB.out)); (case side4 => exact HC2_10.out); (case side5 => exact cX_ (C_below HR2_11.out HB.out)); (case side6 => exact HC2_11.out); rintro e w18 ⟨rfl, hb⟩; refine ⟨_, rfl, ?_⟩; have n0_ := mk_ (bB_ BK327 hb); have n1_ := mk_ (below_step (Short.hB HB) hb); clear BK327 HB; revert n0_ n1_; intro BK327 HB; (try clear hb); have hcz19_0 : w18.cell? ⟨gb327, 0, none⟩ = some (.int .i64 a2_0) := kc_ BK327 0; have hcz19_1 : w18.cell? ⟨gb327, 1, none⟩ = some (.int .i64 a2_1) := kc_ BK327 1; have hcz19_2 : w18.cell? ⟨gb327, 2, none⟩ = some (.slice A2_2 l2_2.length c2_2) := kc_ BK327 2; have hcz19_3 : w18.cell? ⟨gb327, 3, none⟩ = some (.int .i64 a2_3) := kc_ BK327 3; have hcz19_4 : w18.cell? ⟨gb327, 4, none⟩ = some (.int .i64 a2_4) := kc_ BK327 4; have hcz19_5 : w18.cell? ⟨gb327, 5, none⟩ = some (.int .i64 a2_5) := kc_ BK327 5; have hcz19_6 : w18.cell? ⟨gb327, 6, none⟩ = some (.int .i64 a2_6) := kc_ BK327 6; have hcz19_7 : w18.cell? ⟨gb327, 7, none⟩ = some (.int .i64 a2_7) := kc_ BK327 7; have hcz19_8 : w18.cell? ⟨gb327, 8, none⟩ = some (.string a2_8) := kc_ BK327 8; have hcz19_9 : w18.cell? ⟨gb327, 9, none⟩ = some (.int .i64 a2_9) := kc_ BK327 9; have hcz19_10 : w18.cell? ⟨gb327, 10, none⟩ = some (.slice A2_10 l2_10.length c2_10) := kc_ BK327 10; have hcz19_11 : w18.cell? ⟨gb327, 11, none⟩ = some (.slice A2_11 l2_11.length c2_11) := kc_ BK327 11; have hfz19_0 := blk_frozen BK327.out 0; have hfz19_1 := blk_frozen BK327.out 1; have hfz19_2 := blk_frozen BK327.out 2; have hfz19_3 := blk_frozen BK327.out 3; have hfz19_4 := blk_frozen BK327.out 4; have hfz19_5 := blk_frozen BK327.out 5; have hfz19_6 := blk_frozen BK327.out 6; have hfz19_7 := blk_frozen BK327.out 7; have hfz19_8 := blk_frozen BK327.out 8; have hfz19_9 := blk_frozen BK327.out 9; have hfz19_10 := blk_frozen BK327.out 10; have hfz19_11 := blk_frozen BK327.out 11) | (go_at_call 25; (with_reducible refine (op_Key.calls a2_8 t329 _ A16.out).mono ?_); rintro e w' ⟨rfl, ⟨nd, rfl⟩⟩))
  go_meet
  case rel => exact ⟨_, (!t329), z3_, H', ⟨by first | omega | exact Nat.le_refl _⟩, ⟨by (with_reducible repeat (first | refine blk_drewN ?_ _ | refine blk_drew ?_ | refine blk_alloc ?_ _)); exact BK327.out⟩, ⟨Short.hB HB⟩⟩
 case rest => as_aux_lemma =>
  clear HC4
  try clear c1
  try clear c2
  try clear p2
  try clear c3
  try clear c7
  try clear c8
  try clear c8b0
  try clear c12
  try clear c12b0
  try clear hcz11_0
  try clear hcz11_1
  try clear hcz11_10
  try clear hcz11_11
  try clear hcz11_2
  try clear hcz11_3
  try clear hcz11_4
  try clear hcz11_5
  try clear hcz11_6
  try clear hcz11_7
  try clear hcz11_8
  try clear hcz11_9
  try clear hcz13_0
  try clear hcz13_1
  try clear hcz13_10
  try clear hcz13_11
  try clear hcz13_2
  try clear hcz13_3
  try clear hcz13_4
  try clear hcz13_5
  try clear hcz13_6
  try clear hcz13_7
  try clear hcz13_8
  try clear hcz13_9
  try clear hcz15_0
  try clear hcz15_1
  try clear hcz15_10
  try clear hcz15_11
  try clear hcz15_2
  try clear hcz15_3
  try clear hcz15_4
  try clear hcz15_5
  try clear hcz15_6
  try clear hcz15_7
  try clear hcz15_8
  try clear hcz15_9
  try clear hcz17_0
  try clear hcz17_1
  try clear hcz17_10
  try clear hcz17_11
  try clear hcz17_2
  try clear hcz17_3
  try clear hcz17_4
  try clear hcz17_5
  try clear hcz17_6
  try clear hcz17_7
  try clear hcz17_8
  try clear hcz17_9
  try clear hcz19_0
  try clear hcz19_1
  try clear hcz19_10
  try clear hcz19_11
  try clear hcz19_2
  try clear hcz19_3
  try clear hcz19_4
  try clear hcz19_5
  try clear hcz19_6
  try clear hcz19_7
  try clear hcz19_8
  try clear hcz19_9
  try clear hcz20_0
  try clear hcz20_1
  try clear hcz20_10
  try clear hcz20_11
  try clear hcz20_2
  try clear hcz20_3
  try clear hcz20_4
  try clear hcz20_5
  try clear hcz20_6
  try clear hcz20_7
  try clear hcz20_8
  try clear hcz20_9
  try clear hcz9_0
  try clear hcz9_1
  try clear hcz9_10
  try clear hcz9_11
  try clear hcz9_2
  try clear hcz9_3
  try clear hcz9_4
  try clear hcz9_5
  try clear hcz9_6
  try clear hcz9_7
  try clear hcz9_8
  try clear hcz9_9
  try clear hfz11_0
  try clear hfz11_1
  try clear hfz11_10
  try clear hfz11_11
  try clear hfz11_2
  try clear hfz11_3
  try clear hfz11_4
  try clear hfz11_5
  try clear hfz11_6
  try clear hfz11_7
  try clear hfz11_8
  try clear hfz11_9
  try clear hfz13_0
  try clear hfz13_1
  try clear hfz13_10
  try clear hfz13_11
  try clear hfz13_2
  try clear hfz13_3
  try clear hfz13_4
  try clear hfz13_5
  try clear hfz13_6
  try clear hfz13_7
  try clear hfz13_8
  try clear hfz13_9
  try clear hfz15_0
  try clear hfz15_1
  try clear hfz15_10
  try clear hfz15_11
  try clear hfz15_2
  try clear hfz15_3
  try clear hfz15_4
  try clear hfz15_5
  try clear hfz15_6
  try clear hfz15_7
  try clear hfz15_8
  try clear hfz15_9
  try clear hfz17_0
  try clear hfz17_1
  try clear hfz17_10
  try clear hfz17_11
  try clear hfz17_2
  try clear hfz17_3
  try clear hfz17_4
  try clear hfz17_5
  try clear hfz17_6
  try clear hfz17_7
  try clear hfz17_8
  try clear hfz17_9
  try clear hfz19_0
  try clear hfz19_1
  try clear hfz19_10
  try clear hfz19_11
  try clear hfz19_2
  try clear hfz19_3
  try clear hfz19_4
  try clear hfz19_5
  try clear hfz19_6
  try clear hfz19_7
  try clear hfz19_8
  try clear hfz19_9
  try clear hfz20_0
  try clear hfz20_1
  try clear hfz20_10
  try clear hfz20_11
  try clear hfz20_2
  try clear hfz20_3
  try clear hfz20_4
  try clear hfz20_5
  try clear hfz20_6
  try clear hfz20_7
  try clear hfz20_8
  try clear hfz20_9
  try clear hfz9_0
  try clear hfz9_1
  try clear hfz9_10
  try clear hfz9_11
  try clear hfz9_2
  try clear hfz9_3
  try clear hfz9_4
  try clear hfz9_5
  try clear hfz9_6
  try clear hfz9_7
  try clear hfz9_8
  try clear hfz9_9
  obtain ⟨kq, x29_3, rfl, HA, HJ3, BK327, HB⟩ := hcut
  cases kq with
  | zero => exact absurd HA.out (by simp [op_right.j0])
  | succ kj3 =>
   have H := HA.out
   clear HA
   simp only [op_right.j0] at H
   by_cases c22 : x29_3 = true
   ·
    subst c22
    rw [if_pos rfl] at H
    obtain rfl := Option.some.inj H
    go_wp2
    go_ret
    exact ⟨q0, Short.hB HB⟩
   ·
    replace c22 := Bool.eq_false_iff.mpr c22
    subst c22
    rw [if_neg (show ¬ (false = true) by decide)] at H
    by_cases c23 : 0 ≤ a2_7
    ·
     rw [if_pos c23] at H
     have c23b0 : decide (0 ≤ a2_7) = true := decide_eq_true c23
     clear c23
     by_cases c24 : a2_7 < (l1.length : Int)
     ·
      rw [if_pos c24] at H
      have c24b0 : decide (a2_7 < (l1.length : Int)) = true := decide_eq_true c24
      clear c24
      by_cases c25 : a2_6 = 1
      ·
       rw [if_pos c25] at H
       have c25b0 : (a2_6 == 1) = true := beq_iff_eq.mpr c25
       have c25b1 : (a2_6 != 1) = false := bne_eq_false_iff_eq.mpr c25
       clear c25
       replace H := Option.bind_eq_some_iff.mp H
       obtain ⟨t331, A260, H⟩ := H
       replace H : (if t331 = true then (if a2_9 = 0 then (some ((l2_11.length : Int) == 0)) else (some false)) else (some false)) = some r := H
       have A26 := mk_ A260
       clear A260
       by_cases c27 : t331 = true
       ·
        subst c27
        rw [if_pos rfl] at H
        by_cases c28 : a2_9 = 0
        ·
         rw [if_pos c28] at H
         have c28b0 : (a2_9 == 0) = true := beq_iff_eq.mpr c28
         have c28b1 : (a2_9 != 0) = false := bne_eq_false_iff_eq.mpr c28
         clear c28
         obtain rfl := Option.some.inj H
         have hcz29_0 := blk_cell BK327.out
         have hfz29_0 := blk_frozen BK327.out
         have p330 : 0 ≤ (a2_7 : Int) := of_decide_eq_true z1_
         have q330 : a2_7 < (l1.length : Int) := of_decide_eq_true z1_
         obtain ⟨ad330, A330_0, c330_0, e330, hx330_0, hl330_0, hi330_0⟩ := at_T51 HR1.out a2_7 p330 q330
         cases e330
         replace hx330_0 := up_ HB hx330_0
         have HR330_0 := mk_ hi330_0
         have HC330_0 := mk_ hl330_0
         clear hi330_0 hl330_0
         replace p330 := eq_true p330
         replace q330 := eq_true q330
         go_wp2_with (first | ((with_reducible refine gate_callee (f := 74) rfl ?_); refine Short.gL (some 43) Try.func74 #[.slice A2_10 l2_10.length c2_10, .slice A330_0 ((rd_T51 l1 a2_7).f0).length c330_0] (h := ?_); (with_reducible refine (op_small.calls kj3 _ _ l2_10 _ _ ((rd_T51 l1 a2_7).f0) true _ ?side1 ?side2 ?side3 ?side4 A26.out).mono ?_); (case side1 => exact cX_ (C_below HR2_10.out HB.out)); (case side2 => exact HC2_10.out); (case side3 => exact cX_ (C_below HR330_0.out HB.out)); (case side4 => exact HC330_0.out); rintro e w30 ⟨rfl, hb⟩; refine ⟨_, rfl, ?_⟩; have n0_ := mk_ (bB_ BK327 hb); have n1_ := mk_ (below_step (Short.hB HB) hb); clear BK327 HB; revert n0_ n1_; intro BK327 HB; (try clear hb); have hcz31_0 := blk_cell BK327.out; have hfz31_0 := blk_frozen BK327.out))
         go_ret
         exact ⟨q0, Short.hB HB⟩
        ·
         rw [if_neg c28] at H
         have c28b0 : (a2_9 == 0) = false := beq_eq_false_iff_ne.mpr c28
         have c28b1 : (a2_9 != 0) = true := bne_iff_ne.mpr c28
         obtain rfl := Option.some.inj H
         have hcz32_0 := blk_cell BK327.out
         have hfz32_0 := blk_frozen BK327.out
         have p330 : 0 ≤ (a2_7 : Int) := of_decide_eq_true z1_
         have q330 : a2_7 < (l1.length : Int) := of_decide_eq_true z1_
         obtain ⟨ad330, A330_0, c330_0, e330, hx330_0, hl330_0, hi330_0⟩ := at_T51 HR1.out a2_7 p330 q330
         cases e330
         replace hx330_0 := up_ HB hx330_0
         have HR330_0 := mk_ hi330_0
         have HC330_0 := mk_ hl330_0
         clear hi330_0 hl330_0
         replace p330 := eq_true p330
         replace q330 := eq_true q330
         go_wp2_with (first | ((with_reducible refine gate_callee (f := 74) rfl ?_); refine Short.gL (some 43) Try.func74 #[.slice A2_10 l2_10.length c2_10, .slice A330_0 ((rd_T51 l1 a2_7).f0).length c330_0] (h := ?_); (with_reducible refine (op_small.calls kj3 _ _ l2_10 _ _ ((rd_T51 l1 a2_7).f0) true _ ?side1 ?side2 ?side3 ?side4 A26.out).mono ?_); (case side1 => exact cX_ (C_below HR2_10.out HB.out)); (case side2 => exact HC2_10.out); (case side3 => exact cX_ (C_below HR330_0.out HB.out)); (case side4 => exact HC330_0.out); rintro e w33 ⟨rfl, hb⟩; refine ⟨_, rfl, ?_⟩; have n0_ := mk_ (bB_ BK327 hb); have n1_ := mk_ (below_step (Short.hB HB) hb); clear BK327 HB; revert n0_ n1_; intro BK327 HB; (try clear hb); have hcz34_0 := blk_cell BK327.out; have hfz34_0 := blk_frozen BK327.out))
         go_ret
         exact ⟨q0, Short.hB HB⟩
       ·
        replace c27 := Bool.eq_false_iff.mpr c27
        subst c27
        rw [if_neg (show ¬ (false = true) by decide)] at H
        obtain rfl := Option.some.inj H
        have hcz35_0 := blk_cell BK327.out
        have hfz35_0 := blk_frozen BK327.out
        have p330 : 0 ≤ (a2_7 : Int) := of_decide_eq_true z1_
        have q330 : a2_7 < (l1.length : Int) := of_decide_eq_true z1_
        obtain ⟨ad330, A330_0, c330_0, e330, hx330_0, hl330_0, hi330_0⟩ := at_T51 HR1.out a2_7 p330 q330
        cases e330
        replace hx330_0 := up_ HB hx330_0
        have HR330_0 := mk_ hi330_0
        have HC330_0 := mk_ hl330_0
        clear hi330_0 hl330_0
        replace p330 := eq_true p330
        replace q330 := eq_true q330
        go_wp2_with (first | ((with_reducible refine gate_callee (f := 74) rfl ?_); refine Short.gL (some 43) Try.func74 #[.slice A2_10 l2_10.length c2_10, .slice A330_0 ((rd_T51 l1 a2_7).f0).length c330_0] (h := ?_); (with_reducible refine (op_small.calls kj3 _ _ l2_10 _ _ ((rd_T51 l1 a2_7).f0) false _ ?side1 ?side2 ?side3 ?side4 A26.out).mono ?_); (case side1 => exact cX_ (C_below HR2_10.out HB.out)); (case side2 => exact HC2_10.out); (case side3 => exact cX_ (C_below HR330_0.out HB.out)); (case side4 => exact HC330_0.out); rintro e w36 ⟨rfl, hb⟩; refine ⟨_, rfl, ?_⟩; have n0_ := mk_ (bB_ BK327 hb); have n1_ := mk_ (below_step (Short.hB HB) hb); clear BK327 HB; revert n0_ n1_; intro BK327 HB; (try clear hb)))
        go_ret
        exact ⟨q0, Short.hB HB⟩
      ·
       rw [if_neg c25] at H
       have c25b0 : (a2_6 == 1) = false := beq_eq_false_iff_ne.mpr c25
       have c25b1 : (a2_6 != 1) = true := bne_iff_ne.mpr c25
       by_cases c37 : a2_6 = 2
       ·
        rw [if_pos c37] at H
        have c37b0 : (a2_6 == 2) = true := beq_iff_eq.mpr c37
        have c37b1 : (a2_6 != 2) = false := bne_eq_false_iff_eq.mpr c37
        clear c37
        by_cases c38 : a2_9 ≥ 0
        ·
         rw [if_pos c38] at H
         have c38b0 : decide (0 ≤ a2_9) = true := decide_eq_true c38
         clear c38
         by_cases c39 : a2_9 < (((rd_T51 l1 a2_7).f0).length : Int)
         ·
          rw [if_pos c39] at H
          have c39b0 : decide (a2_9 < (((rd_T51 l1 a2_7).f0).length : Int)) = true := decide_eq_true c39
          clear c39
          by_cases c40 : 0 ≤ a2_9
          ·
           rw [if_pos c40] at H
           have c40b0 := eq_true c40
           have c40b1 : decide (0 ≤ a2_9) = true := decide_eq_true c40
           clear c40
           by_cases c41 : a2_9 ≤ (wrap64 (a2_9 + 1))
           ·
            rw [if_pos c41] at H
            have c41b0 := eq_true c41
            have c41b1 : decide (a2_9 ≤ (wrap64 (a2_9 + 1))) = true := decide_eq_true c41
            by_cases c42 : (wrap64 (a2_9 + 1)) ≤ (((rd_T51 l1 a2_7).f0).length : Int)
            ·
             rw [if_pos c42] at H
             have c42b0 := eq_true c42
             have c42b1 : decide ((wrap64 (a2_9 + 1)) ≤ (((rd_T51 l1 a2_7).f0).length : Int)) = true := decide_eq_true c42
             replace H := Option.bind_eq_some_iff.mp H
             obtain ⟨t333, A430, H⟩ := H
             replace H : (if t333 = true then (some ((l2_11.length : Int) == 0)) else (some false)) = some r := H
             have A43 := mk_ A430
             clear A430
             by_cases c44 : t333 = true
             ·
              subst c44
              rw [if_pos rfl] at H
              obtain rfl := Option.some.inj H
              have hcz45_0 := blk_cell BK327.out
              have hfz45_0 := blk_frozen BK327.out
              have p330 : 0 ≤ (a2_7 : Int) := of_decide_eq_true z1_
              have q330 : a2_7 < (l1.length : Int) := of_decide_eq_true z1_
              obtain ⟨ad330, A330_0, c330_0, e330, hx330_0, hl330_0, hi330_0⟩ := at_T51 HR1.out a2_7 p330 q330
              cases e330
              replace hx330_0 := up_ HB hx330_0
              have HR330_0 := mk_ hi330_0
              have HC330_0 := mk_ hl330_0
              clear hi330_0 hl330_0
              replace p330 := eq_true p330
              replace q330 := eq_true q330
              try go_wp2
              have n0_ := mk_ (blk_drew BK327.out)
              have n1_ := mk_ (below_drew1 HB.out)
              clear BK327 HB
              revert n0_ n1_
              intro BK327 HB
              obtain ⟨i047, hi047, _, hsz47, _⟩ := info_parts info3
              obtain ⟨A47, hcut47, hA47, hC47⟩ := print_mid_of (P := Try.prog) (Value.int .i64) 0 26 3 .i64 .i64 Try.underlying26 hi047 hsz47 A330_0 c330_0 ((rd_T51 l1 a2_7).f0) a2_9 (wrap64 (a2_9 + 1)) (of_decide_eq_true z1_) (by first | omega | exact of_decide_eq_true z1_) (of_decide_eq_true z1_) HC330_0.out
              have HR332 := mk_ (C_of_reads (h1 := fun _ => rfl) (hA47 _ (Kd.reads_of_C HR330_0.out)))
              have HC332 := mk_ hC47
              clear hA47 hC47 hi047 hsz47
              refine start_ (n := 29) (S := fun w' => w'.cell? ⟨gb327, 0, none⟩ = some (.int .i64 a2_0) ∧ w'.cell? ⟨gb327, 1, none⟩ = some (.int .i64 a2_1) ∧ w'.cell? ⟨gb327, 2, none⟩ = some (.slice A2_2 l2_2.length c2_2) ∧ w'.cell? ⟨gb327, 3, none⟩ = some (.int .i64 a2_3) ∧ w'.cell? ⟨gb327, 4, none⟩ = some (.int .i64 a2_4) ∧ w'.cell? ⟨gb327, 5, none⟩ = some (.int .i64 a2_5) ∧ w'.cell? ⟨gb327, 6, none⟩ = some (.int .i64 a2_6) ∧ w'.cell? ⟨gb327, 7, none⟩ = some (.int .i64 a2_7) ∧ w'.cell? ⟨gb327, 8, none⟩ = some (.string a2_8) ∧ w'.cell? ⟨gb327, 9, none⟩ = some (.int .i64 a2_9) ∧ w'.cell? ⟨gb327, 10, none⟩ = some (.slice A2_10 l2_10.length c2_10) ∧ w'.cell? ⟨gb327, 11, none⟩ = some (.slice A2_11 l2_11.length c2_11)) (ds := []) (Steps.Bs 29 0) z0_ rfl rfl ⟨kc_ BK327 0, kc_ BK327 1, kc_ BK327 2, kc_ BK327 3, kc_ BK327 4, kc_ BK327 5, kc_ BK327 6, kc_ BK327 7, kc_ BK327 8, kc_ BK327 9, kc_ BK327 10, kc_ BK327 11⟩ (fun hHeld => ?_); refine with_tabW op_right.tab8 op_right.bits8 (fun HT_ HW_ => ?_)
              generalize wc.drew = w46 at BK327 HB HR332 hHeld ⊢
              refine tI HT_ 0 57 29 1 ?_
              refine tT HT_ HW_ hHeld 1 58 29 3 ?_
              refine tI HT_ 2 59 29 7 ?_
              refine tI HT_ 3 60 29 15 ?_
              refine tI HT_ 4 61 29 31 ?_
              refine tI HT_ 6 63 29 95 ?_
              refine tI HT_ 7 64 29 223 ?_
              refine tT HT_ HW_ hHeld 5 62 29 255 ?_
              refine tI HT_ 8 65 29 511 ?_
              refine tI HT_ 9 66 29 1023 ?_
              refine tI HT_ 10 67 29 2047 ?_
              refine tI HT_ 11 68 29 4095 ?_
              refine tI HT_ 13 70 29 12287 ?_
              refine tI HT_ 14 71 29 28671 ?_
              refine tI HT_ 16 73 29 94207 ?_
              refine tT HT_ HW_ hHeld 12 69 29 98303 ?_
              refine tT HT_ HW_ hHeld 15 72 29 131071 ?_
              refine tT HT_ HW_ hHeld 17 74 29 262143 ?_
              refine tI HT_ 18 75 29 524287 ?_
              refine tI HT_ 19 76 29 1048575 ?_
              refine one_ (i := 20) (N := some 77) (Steps.Bs 29 2097151) rfl rfl (one_of HT_.out z0_) z5_ (fun K hK => ?_)
              refine goes_ Try.func74 z0_ rfl #[.slice A2_10 l2_10.length c2_10, .slice A47 ((((rd_T51 l1 a2_7).f0).take ((wrap64 (a2_9 + 1)) : Int).toNat).drop (a2_9 : Int).toNat).length (c330_0 - a2_9.toNat)] (by rfl) rfl rfl (by (try simp only [List.map_toArray, List.map_cons, List.map_nil]); first | done | (rw [show ((((rd_T51 l1 a2_7).f0).take ((wrap64 (a2_9 + 1)) : Int).toNat).drop (a2_9 : Int).toNat).length = ((wrap64 (a2_9 + 1)).toNat - a2_9.toNat) from (by rw [List.length_drop, List.length_take]; have h_ : ((wrap64 (a2_9 + 1)) : Int) ≤ (((rd_T51 l1 a2_7).f0).length : Int) := of_decide_eq_true z1_; omega)] <;> rfl) | rfl | (simp only [List.length_drop, List.length_take]; rfl) | (go_simp; done) | (simp; done)) ?_
              with_reducible refine (op_small.calls kj3 _ _ l2_10 _ _ ((((rd_T51 l1 a2_7).f0).take ((wrap64 (a2_9 + 1)) : Int).toNat).drop (a2_9 : Int).toNat) true _ ?side1 ?side2 ?side3 ?side4 A43.out).mono ?_
              (case side1 => exact cX_ (C_below HR2_10.out HB.out))
              (case side2 => exact HC2_10.out)
              (case side3 => exact cX_ (C_below HR332.out HB.out))
              (case side4 => exact HC332.out)
              rintro e w48 ⟨rfl, hb⟩
              refine ⟨_, rfl, ?_⟩
              have n0_ := mk_ (bB_ BK327 hb)
              have n1_ := mk_ (below_step (Short.hB HB) hb)
              clear BK327 HB
              revert n0_ n1_
              intro BK327 HB
              (try clear hb)
              (try clear hb2)
              (try clear hk)
              (try clear hi)
              refine hK.out _ _ ⟨kc_ BK327 0, kc_ BK327 1, kc_ BK327 2, kc_ BK327 3, kc_ BK327 4, kc_ BK327 5, kc_ BK327 6, kc_ BK327 7, kc_ BK327 8, kc_ BK327 9, kc_ BK327 10, kc_ BK327 11⟩ (fun hHeld => ?_)
              clear hK K
              refine nrm 77 ?_
              refine tI HT_ 21 78 29 4194303 ?_
              refine tI HT_ 22 79 29 8388607 ?_
              refine tI HT_ 23 80 29 16777215 ?_
              refine tT HT_ HW_ hHeld 24 81 29 33554431 ?_
              refine tI HT_ 25 82 29 67108863 ?_
              refine tI HT_ 26 83 29 134217727 ?_
              refine tI HT_ 27 84 29 268435455 ?_
              refine tI HT_ 28 6 29 536870911 ?_
              refine done_ (done_of HT_.out z0_) ?_
              try go_wp2
              go_ret
              exact ⟨q0, Short.hB HB⟩
             ·
              replace c44 := Bool.eq_false_iff.mpr c44
              subst c44
              rw [if_neg (show ¬ (false = true) by decide)] at H
              obtain rfl := Option.some.inj H
              have hcz49_0 := blk_cell BK327.out
              have hfz49_0 := blk_frozen BK327.out
              have p330 : 0 ≤ (a2_7 : Int) := of_decide_eq_true z1_
              have q330 : a2_7 < (l1.length : Int) := of_decide_eq_true z1_
              obtain ⟨ad330, A330_0, c330_0, e330, hx330_0, hl330_0, hi330_0⟩ := at_T51 HR1.out a2_7 p330 q330
              cases e330
              replace hx330_0 := up_ HB hx330_0
              have HR330_0 := mk_ hi330_0
              have HC330_0 := mk_ hl330_0
              clear hi330_0 hl330_0
              replace p330 := eq_true p330
              replace q330 := eq_true q330
              try go_wp2
              have n0_ := mk_ (blk_drew BK327.out)
              have n1_ := mk_ (below_drew1 HB.out)
              clear BK327 HB
              revert n0_ n1_
              intro BK327 HB
              obtain ⟨i051, hi051, _, hsz51, _⟩ := info_parts info3
              obtain ⟨A51, hcut51, hA51, hC51⟩ := print_mid_of (P := Try.prog) (Value.int .i64) 0 26 3 .i64 .i64 Try.underlying26 hi051 hsz51 A330_0 c330_0 ((rd_T51 l1 a2_7).f0) a2_9 (wrap64 (a2_9 + 1)) (of_decide_eq_true z1_) (by first | omega | exact of_decide_eq_true z1_) (of_decide_eq_true z1_) HC330_0.out
              have HR332 := mk_ (C_of_reads (h1 := fun _ => rfl) (hA51 _ (Kd.reads_of_C HR330_0.out)))
              have HC332 := mk_ hC51
              clear hA51 hC51 hi051 hsz51
              refine start_ (n := 29) (S := fun w' => w'.cell? ⟨gb327, 0, none⟩ = some (.int .i64 a2_0) ∧ w'.cell? ⟨gb327, 1, none⟩ = some (.int .i64 a2_1) ∧ w'.cell? ⟨gb327, 2, none⟩ = some (.slice A2_2 l2_2.length c2_2) ∧ w'.cell? ⟨gb327, 3, none⟩ = some (.int .i64 a2_3) ∧ w'.cell? ⟨gb327, 4, none⟩ = some (.int .i64 a2_4) ∧ w'.cell? ⟨gb327, 5, none⟩ = some (.int .i64 a2_5) ∧ w'.cell? ⟨gb327, 6, none⟩ = some (.int .i64 a2_6) ∧ w'.cell? ⟨gb327, 7, none⟩ = some (.int .i64 a2_7) ∧ w'.cell? ⟨gb327, 8, none⟩ = some (.string a2_8) ∧ w'.cell? ⟨gb327, 9, none⟩ = some (.int .i64 a2_9) ∧ w'.cell? ⟨gb327, 10, none⟩ = some (.slice A2_10 l2_10.length c2_10) ∧ w'.cell? ⟨gb327, 11, none⟩ = some (.slice A2_11 l2_11.length c2_11)) (ds := []) (Steps.Bs 29 0) z0_ rfl rfl ⟨kc_ BK327 0, kc_ BK327 1, kc_ BK327 2, kc_ BK327 3, kc_ BK327 4, kc_ BK327 5, kc_ BK327 6, kc_ BK327 7, kc_ BK327 8, kc_ BK327 9, kc_ BK327 10, kc_ BK327 11⟩ (fun hHeld => ?_); refine with_tabW op_right.tab8 op_right.bits8 (fun HT_ HW_ => ?_)
              generalize wc.drew = w50 at BK327 HB HR332 hHeld ⊢
              refine tI HT_ 0 57 29 1 ?_
              refine tT HT_ HW_ hHeld 1 58 29 3 ?_
              refine tI HT_ 2 59 29 7 ?_
              refine tI HT_ 3 60 29 15 ?_
              refine tI HT_ 4 61 29 31 ?_
              refine tI HT_ 6 63 29 95 ?_
              refine tI HT_ 7 64 29 223 ?_
              refine tT HT_ HW_ hHeld 5 62 29 255 ?_
              refine tI HT_ 8 65 29 511 ?_
              refine tI HT_ 9 66 29 1023 ?_
              refine tI HT_ 10 67 29 2047 ?_
              refine tI HT_ 11 68 29 4095 ?_
              refine tI HT_ 13 70 29 12287 ?_
              refine tI HT_ 14 71 29 28671 ?_
              refine tI HT_ 16 73 29 94207 ?_
              refine tT HT_ HW_ hHeld 12 69 29 98303 ?_
              refine tT HT_ HW_ hHeld 15 72 29 131071 ?_
              refine tT HT_ HW_ hHeld 17 74 29 262143 ?_
              refine tI HT_ 18 75 29 524287 ?_
              refine tI HT_ 19 76 29 1048575 ?_
              refine one_ (i := 20) (N := some 77) (Steps.Bs 29 2097151) rfl rfl (one_of HT_.out z0_) z5_ (fun K hK => ?_)
              refine goes_ Try.func74 z0_ rfl #[.slice A2_10 l2_10.length c2_10, .slice A51 ((((rd_T51 l1 a2_7).f0).take ((wrap64 (a2_9 + 1)) : Int).toNat).drop (a2_9 : Int).toNat).length (c330_0 - a2_9.toNat)] (by rfl) rfl rfl (by (try simp only [List.map_toArray, List.map_cons, List.map_nil]); first | done | (rw [show ((((rd_T51 l1 a2_7).f0).take ((wrap64 (a2_9 + 1)) : Int).toNat).drop (a2_9 : Int).toNat).length = ((wrap64 (a2_9 + 1)).toNat - a2_9.toNat) from (by rw [List.length_drop, List.length_take]; have h_ : ((wrap64 (a2_9 + 1)) : Int) ≤ (((rd_T51 l1 a2_7).f0).length : Int) := of_decide_eq_true z1_; omega)] <;> rfl) | rfl | (simp only [List.length_drop, List.length_take]; rfl) | (go_simp; done) | (simp; done)) ?_
              with_reducible refine (op_small.calls kj3 _ _ l2_10 _ _ ((((rd_T51 l1 a2_7).f0).take ((wrap64 (a2_9 + 1)) : Int).toNat).drop (a2_9 : Int).toNat) false _ ?side1 ?side2 ?side3 ?side4 A43.out).mono ?_
              (case side1 => exact cX_ (C_below HR2_10.out HB.out))
              (case side2 => exact HC2_10.out)
              (case side3 => exact cX_ (C_below HR332.out HB.out))
              (case side4 => exact HC332.out)
              rintro e w52 ⟨rfl, hb⟩
              refine ⟨_, rfl, ?_⟩
              have n0_ := mk_ (bB_ BK327 hb)
              have n1_ := mk_ (below_step (Short.hB HB) hb)
              clear BK327 HB
              revert n0_ n1_
              intro BK327 HB
              (try clear hb)
              (try clear hb2)
              (try clear hk)
              (try clear hi)
              refine hK.out _ _ ⟨kc_ BK327 0, kc_ BK327 1, kc_ BK327 2, kc_ BK327 3, kc_ BK327 4, kc_ BK327 5, kc_ BK327 6, kc_ BK327 7, kc_ BK327 8, kc_ BK327 9, kc_ BK327 10, kc_ BK327 11⟩ (fun hHeld => ?_)
              clear hK K
              refine nrm 77 ?_
              refine tI HT_ 21 78 29 4194303 ?_
              refine tI HT_ 22 79 29 8388607 ?_
              refine tR HT_ 23 80 29 16777215 ?_
              refine tR HT_ 24 81 29 33554431 ?_
              refine tR HT_ 25 82 29 67108863 ?_
              refine tR HT_ 26 83 29 134217727 ?_
              refine tI HT_ 27 84 29 268435455 ?_
              refine tI HT_ 28 6 29 536870911 ?_
              refine done_ (done_of HT_.out z0_) ?_
              try go_wp2
              go_ret
              exact ⟨q0, Short.hB HB⟩
            ·
             rw [if_neg c42] at H
             exact absurd H (by simp)
           ·
            rw [if_neg c41] at H
            exact absurd H (by simp)
          ·
           rw [if_neg c40] at H
           exact absurd H (by simp)
         ·
          rw [if_neg c39] at H
          have c39b0 : decide (a2_9 < (((rd_T51 l1 a2_7).f0).length : Int)) = false := decide_eq_false c39
          clear c39
          obtain rfl := Option.some.inj H
          have hcz53_0 := blk_cell BK327.out
          have hfz53_0 := blk_frozen BK327.out
          have p330 : 0 ≤ (a2_7 : Int) := of_decide_eq_true z1_
          have q330 : a2_7 < (l1.length : Int) := of_decide_eq_true z1_
          obtain ⟨ad330, A330_0, c330_0, e330, hx330_0, hl330_0, hi330_0⟩ := at_T51 HR1.out a2_7 p330 q330
          cases e330
          replace hx330_0 := up_ HB hx330_0
          have HR330_0 := mk_ hi330_0
          have HC330_0 := mk_ hl330_0
          clear hi330_0 hl330_0
          replace p330 := eq_true p330
          replace q330 := eq_true q330
          try go_wp2
          have n0_ := mk_ (blk_drew BK327.out)
          have n1_ := mk_ (below_drew1 HB.out)
          clear BK327 HB
          revert n0_ n1_
          intro BK327 HB
          refine start_ (n := 29) (S := fun w' => w'.cell? ⟨gb327, 0, none⟩ = some (.int .i64 a2_0) ∧ w'.cell? ⟨gb327, 1, none⟩ = some (.int .i64 a2_1) ∧ w'.cell? ⟨gb327, 2, none⟩ = some (.slice A2_2 l2_2.length c2_2) ∧ w'.cell? ⟨gb327, 3, none⟩ = some (.int .i64 a2_3) ∧ w'.cell? ⟨gb327, 4, none⟩ = some (.int .i64 a2_4) ∧ w'.cell? ⟨gb327, 5, none⟩ = some (.int .i64 a2_5) ∧ w'.cell? ⟨gb327, 6, none⟩ = some (.int .i64 a2_6) ∧ w'.cell? ⟨gb327, 7, none⟩ = some (.int .i64 a2_7) ∧ w'.cell? ⟨gb327, 8, none⟩ = some (.string a2_8) ∧ w'.cell? ⟨gb327, 9, none⟩ = some (.int .i64 a2_9) ∧ w'.cell? ⟨gb327, 10, none⟩ = some (.slice A2_10 l2_10.length c2_10) ∧ w'.cell? ⟨gb327, 11, none⟩ = some (.slice A2_11 l2_11.length c2_11)) (ds := []) (Steps.Bs 29 0) z0_ rfl rfl ⟨kc_ BK327 0, kc_ BK327 1, kc_ BK327 2, kc_ BK327 3, kc_ BK327 4, kc_ BK327 5, kc_ BK327 6, kc_ BK327 7, kc_ BK327 8, kc_ BK327 9, kc_ BK327 10, kc_ BK327 11⟩ (fun hHeld => ?_); refine with_tabW op_right.tab8 op_right.bits8 (fun HT_ HW_ => ?_)
          generalize wc.drew = w54 at BK327 HB hHeld ⊢
          refine tI HT_ 0 57 29 1 ?_
          refine tT HT_ HW_ hHeld 1 58 29 3 ?_
          refine tI HT_ 2 59 29 7 ?_
          refine tI HT_ 3 60 29 15 ?_
          refine tI HT_ 4 61 29 31 ?_
          refine tI HT_ 6 63 29 95 ?_
          refine tI HT_ 7 64 29 223 ?_
          refine tT HT_ HW_ hHeld 5 62 29 255 ?_
          refine tI HT_ 8 65 29 511 ?_
          refine tI HT_ 9 66 29 1023 ?_
          refine tI HT_ 10 67 29 2047 ?_
          refine tR HT_ 11 68 29 4095 ?_
          refine tR HT_ 12 69 29 8191 ?_
          refine tR HT_ 13 70 29 16383 ?_
          refine tR HT_ 14 71 29 32767 ?_
          refine tR HT_ 15 72 29 65535 ?_
          refine tR HT_ 16 73 29 131071 ?_
          refine tR HT_ 17 74 29 262143 ?_
          refine tR HT_ 18 75 29 524287 ?_
          refine tR HT_ 19 76 29 1048575 ?_
          refine tR HT_ 20 77 29 2097151 ?_
          refine tI HT_ 21 78 29 4194303 ?_
          refine tI HT_ 22 79 29 8388607 ?_
          refine tR HT_ 23 80 29 16777215 ?_
          refine tR HT_ 24 81 29 33554431 ?_
          refine tR HT_ 25 82 29 67108863 ?_
          refine tR HT_ 26 83 29 134217727 ?_
          refine tI HT_ 27 84 29 268435455 ?_
          refine tI HT_ 28 6 29 536870911 ?_
          refine done_ (done_of HT_.out z0_) ?_
          try go_wp2
          go_ret
          exact ⟨q0, Short.hB HB⟩
        ·
         rw [if_neg c38] at H
         have c38b0 : decide (0 ≤ a2_9) = false := decide_eq_false c38
         clear c38
         obtain rfl := Option.some.inj H
         have hcz55_0 := blk_cell BK327.out
         have hfz55_0 := blk_frozen BK327.out
         have p330 : 0 ≤ (a2_7 : Int) := of_decide_eq_true z1_
         have q330 : a2_7 < (l1.length : Int) := of_decide_eq_true z1_
         obtain ⟨ad330, A330_0, c330_0, e330, hx330_0, hl330_0, hi330_0⟩ := at_T51 HR1.out a2_7 p330 q330
         cases e330
         replace hx330_0 := up_ HB hx330_0
         have HR330_0 := mk_ hi330_0
         have HC330_0 := mk_ hl330_0
         clear hi330_0 hl330_0
         replace p330 := eq_true p330
         replace q330 := eq_true q330
         try go_wp2
         have n0_ := mk_ (blk_drew BK327.out)
         have n1_ := mk_ (below_drew1 HB.out)
         clear BK327 HB
         revert n0_ n1_
         intro BK327 HB
         refine start_ (n := 29) (S := fun w' => w'.cell? ⟨gb327, 0, none⟩ = some (.int .i64 a2_0) ∧ w'.cell? ⟨gb327, 1, none⟩ = some (.int .i64 a2_1) ∧ w'.cell? ⟨gb327, 2, none⟩ = some (.slice A2_2 l2_2.length c2_2) ∧ w'.cell? ⟨gb327, 3, none⟩ = some (.int .i64 a2_3) ∧ w'.cell? ⟨gb327, 4, none⟩ = some (.int .i64 a2_4) ∧ w'.cell? ⟨gb327, 5, none⟩ = some (.int .i64 a2_5) ∧ w'.cell? ⟨gb327, 6, none⟩ = some (.int .i64 a2_6) ∧ w'.cell? ⟨gb327, 7, none⟩ = some (.int .i64 a2_7) ∧ w'.cell? ⟨gb327, 8, none⟩ = some (.string a2_8) ∧ w'.cell? ⟨gb327, 9, none⟩ = some (.int .i64 a2_9) ∧ w'.cell? ⟨gb327, 10, none⟩ = some (.slice A2_10 l2_10.length c2_10) ∧ w'.cell? ⟨gb327, 11, none⟩ = some (.slice A2_11 l2_11.length c2_11)) (ds := []) (Steps.Bs 29 0) z0_ rfl rfl ⟨kc_ BK327 0, kc_ BK327 1, kc_ BK327 2, kc_ BK327 3, kc_ BK327 4, kc_ BK327 5, kc_ BK327 6, kc_ BK327 7, kc_ BK327 8, kc_ BK327 9, kc_ BK327 10, kc_ BK327 11⟩ (fun hHeld => ?_); refine with_tabW op_right.tab8 op_right.bits8 (fun HT_ HW_ => ?_)
         generalize wc.drew = w56 at BK327 HB hHeld ⊢
         refine tI HT_ 0 57 29 1 ?_
         refine tT HT_ HW_ hHeld 1 58 29 3 ?_
         refine tI HT_ 2 59 29 7 ?_
         refine tI HT_ 3 60 29 15 ?_
         refine tR HT_ 4 61 29 31 ?_
         refine tR HT_ 5 62 29 63 ?_
         refine tR HT_ 6 63 29 127 ?_
         refine tR HT_ 7 64 29 255 ?_
         refine tR HT_ 8 65 29 511 ?_
         refine tI HT_ 9 66 29 1023 ?_
         refine tI HT_ 10 67 29 2047 ?_
         refine tR HT_ 11 68 29 4095 ?_
         refine tR HT_ 12 69 29 8191 ?_
         refine tR HT_ 13 70 29 16383 ?_
         refine tR HT_ 14 71 29 32767 ?_
         refine tR HT_ 15 72 29 65535 ?_
         refine tR HT_ 16 73 29 131071 ?_
         refine tR HT_ 17 74 29 262143 ?_
         refine tR HT_ 18 75 29 524287 ?_
         refine tR HT_ 19 76 29 1048575 ?_
         refine tR HT_ 20 77 29 2097151 ?_
         refine tI HT_ 21 78 29 4194303 ?_
         refine tI HT_ 22 79 29 8388607 ?_
         refine tR HT_ 23 80 29 16777215 ?_
         refine tR HT_ 24 81 29 33554431 ?_
         refine tR HT_ 25 82 29 67108863 ?_
         refine tR HT_ 26 83 29 134217727 ?_
         refine tI HT_ 27 84 29 268435455 ?_
         refine tI HT_ 28 6 29 536870911 ?_
         refine done_ (done_of HT_.out z0_) ?_
         try go_wp2
         go_ret
         exact ⟨q0, Short.hB HB⟩
       ·
        rw [if_neg c37] at H
        have c37b0 : (a2_6 == 2) = false := beq_eq_false_iff_ne.mpr c37
        have c37b1 : (a2_6 != 2) = true := bne_iff_ne.mpr c37
        by_cases c57 : a2_6 = 3
        ·
         rw [if_pos c57] at H
         have c57b0 : (a2_6 == 3) = true := beq_iff_eq.mpr c57
         have c57b1 : (a2_6 != 3) = false := bne_eq_false_iff_eq.mpr c57
         clear c57
         by_cases c58 : (l2_11.length : Int) ≥ 1
         ·
          rw [if_pos c58] at H
          have c58b0 : decide (1 ≤ (l2_11.length : Int)) = true := decide_eq_true c58
          have c58b1 : decide (1 ≤ l2_11.length) = true := decide_eq_true z4_
          clear c58
          by_cases c59 : (l2_11.length : Int) ≤ 64
          ·
           rw [if_pos c59] at H
           have c59b0 : decide ((l2_11.length : Int) ≤ 64) = true := decide_eq_true c59
           have c59b1 : decide (l2_11.length ≤ 64) = true := decide_eq_true z4_
           clear c59
           replace H := Option.bind_eq_some_iff.mp H
           obtain ⟨t334, A600, H⟩ := H
           replace H : (if t334 = true then (if a2_9 = 0 then (some ((l2_10.length : Int) == 0)) else (some false)) else (some false)) = some r := H
           have A60 := mk_ A600
           clear A600
           by_cases c61 : t334 = true
           ·
            subst c61
            rw [if_pos rfl] at H
            by_cases c62 : a2_9 = 0
            ·
             rw [if_pos c62] at H
             have c62b0 : (a2_9 == 0) = true := beq_iff_eq.mpr c62
             have c62b1 : (a2_9 != 0) = false := bne_eq_false_iff_eq.mpr c62
             clear c62
             obtain rfl := Option.some.inj H
             have hcz63_0 := blk_cell BK327.out
             have hfz63_0 := blk_frozen BK327.out
             have p330 : 0 ≤ (a2_7 : Int) := of_decide_eq_true z1_
             have q330 : a2_7 < (l1.length : Int) := of_decide_eq_true z1_
             obtain ⟨ad330, A330_0, c330_0, e330, hx330_0, hl330_0, hi330_0⟩ := at_T51 HR1.out a2_7 p330 q330
             cases e330
             replace hx330_0 := up_ HB hx330_0
             have HR330_0 := mk_ hi330_0
             have HC330_0 := mk_ hl330_0
             clear hi330_0 hl330_0
             replace p330 := eq_true p330
             replace q330 := eq_true q330
             go_wp2_with (first | (go_at_call 75; (with_reducible refine (op_had.calls kj3 _ _ l2_2 _ _ l2_11 true _ ?side1 ?side2 ?side3 ?side4 A60.out).mono ?_); (case side1 => exact cX_ (C_below HR2_2.out HB.out)); (case side2 => exact HC2_2.out); (case side3 => exact cX_ (C_below HR2_11.out HB.out)); (case side4 => exact HC2_11.out); rintro e w64 ⟨rfl, hb⟩; have n0_ := mk_ (bB_ BK327 hb); have n1_ := mk_ (below_step (Short.hB HB) hb); clear BK327 HB; revert n0_ n1_; intro BK327 HB; (try clear hb); (try clear hb2); (try clear hk); (try clear hi); have hcz65_0 := blk_cell BK327.out; have hfz65_0 := blk_frozen BK327.out))
             go_ret
             exact ⟨q0, Short.hB HB⟩
            ·
             rw [if_neg c62] at H
             have c62b0 : (a2_9 == 0) = false := beq_eq_false_iff_ne.mpr c62
             have c62b1 : (a2_9 != 0) = true := bne_iff_ne.mpr c62
             obtain rfl := Option.some.inj H
             have hcz66_0 := blk_cell BK327.out
             have hfz66_0 := blk_frozen BK327.out
             have p330 : 0 ≤ (a2_7 : Int) := of_decide_eq_true z1_
             have q330 : a2_7 < (l1.length : Int) := of_decide_eq_true z1_
             obtain ⟨ad330, A330_0, c330_0, e330, hx330_0, hl330_0, hi330_0⟩ := at_T51 HR1.out a2_7 p330 q330
             cases e330
             replace hx330_0 := up_ HB hx330_0
             have HR330_0 := mk_ hi330_0
             have HC330_0 := mk_ hl330_0
             clear hi330_0 hl330_0
             replace p330 := eq_true p330
             replace q330 := eq_true q330
             go_wp2_with (first | (go_at_call 75; (with_reducible refine (op_had.calls kj3 _ _ l2_2 _ _ l2_11 true _ ?side1 ?side2 ?side3 ?side4 A60.out).mono ?_); (case side1 => exact cX_ (C_below HR2_2.out HB.out)); (case side2 => exact HC2_2.out); (case side3 => exact cX_ (C_below HR2_11.out HB.out)); (case side4 => exact HC2_11.out); rintro e w67 ⟨rfl, hb⟩; have n0_ := mk_ (bB_ BK327 hb); have n1_ := mk_ (below_step (Short.hB HB) hb); clear BK327 HB; revert n0_ n1_; intro BK327 HB; (try clear hb); (try clear hb2); (try clear hk); (try clear hi); have hcz68_0 := blk_cell BK327.out; have hfz68_0 := blk_frozen BK327.out))
             go_ret
             exact ⟨q0, Short.hB HB⟩
           ·
            replace c61 := Bool.eq_false_iff.mpr c61
            subst c61
            rw [if_neg (show ¬ (false = true) by decide)] at H
            obtain rfl := Option.some.inj H
            have hcz69_0 := blk_cell BK327.out
            have hfz69_0 := blk_frozen BK327.out
            have p330 : 0 ≤ (a2_7 : Int) := of_decide_eq_true z1_
            have q330 : a2_7 < (l1.length : Int) := of_decide_eq_true z1_
            obtain ⟨ad330, A330_0, c330_0, e330, hx330_0, hl330_0, hi330_0⟩ := at_T51 HR1.out a2_7 p330 q330
            cases e330
            replace hx330_0 := up_ HB hx330_0
            have HR330_0 := mk_ hi330_0
            have HC330_0 := mk_ hl330_0
            clear hi330_0 hl330_0
            replace p330 := eq_true p330
            replace q330 := eq_true q330
            go_wp2_with (first | (go_at_call 75; (with_reducible refine (op_had.calls kj3 _ _ l2_2 _ _ l2_11 false _ ?side1 ?side2 ?side3 ?side4 A60.out).mono ?_); (case side1 => exact cX_ (C_below HR2_2.out HB.out)); (case side2 => exact HC2_2.out); (case side3 => exact cX_ (C_below HR2_11.out HB.out)); (case side4 => exact HC2_11.out); rintro e w70 ⟨rfl, hb⟩; have n0_ := mk_ (bB_ BK327 hb); have n1_ := mk_ (below_step (Short.hB HB) hb); clear BK327 HB; revert n0_ n1_; intro BK327 HB; (try clear hb); (try clear hb2); (try clear hk); (try clear hi)))
            go_ret
            exact ⟨q0, Short.hB HB⟩
          ·
           rw [if_neg c59] at H
           have c59b0 : decide ((l2_11.length : Int) ≤ 64) = false := decide_eq_false c59
           have c59b1 : decide (l2_11.length ≤ 64) = false := decide_eq_false z4_
           clear c59
           obtain rfl := Option.some.inj H
           have hcz71_0 := blk_cell BK327.out
           have hfz71_0 := blk_frozen BK327.out
           have p330 : 0 ≤ (a2_7 : Int) := of_decide_eq_true z1_
           have q330 : a2_7 < (l1.length : Int) := of_decide_eq_true z1_
           obtain ⟨ad330, A330_0, c330_0, e330, hx330_0, hl330_0, hi330_0⟩ := at_T51 HR1.out a2_7 p330 q330
           cases e330
           replace hx330_0 := up_ HB hx330_0
           have HR330_0 := mk_ hi330_0
           have HC330_0 := mk_ hl330_0
           clear hi330_0 hl330_0
           replace p330 := eq_true p330
           replace q330 := eq_true q330
           go_wp2
           go_ret
           exact ⟨q0, Short.hB HB⟩
         ·
          rw [if_neg c58] at H
          have c58b0 : decide (1 ≤ (l2_11.length : Int)) = false := decide_eq_false c58
          have c58b1 : decide (1 ≤ l2_11.length) = false := decide_eq_false z4_
          clear c58
          obtain rfl := Option.some.inj H
          have hcz72_0 := blk_cell BK327.out
          have hfz72_0 := blk_frozen BK327.out
          have p330 : 0 ≤ (a2_7 : Int) := of_decide_eq_true z1_
          have q330 : a2_7 < (l1.length : Int) := of_decide_eq_true z1_
          obtain ⟨ad330, A330_0, c330_0, e330, hx330_0, hl330_0, hi330_0⟩ := at_T51 HR1.out a2_7 p330 q330
          cases e330
          replace hx330_0 := up_ HB hx330_0
          have HR330_0 := mk_ hi330_0
          have HC330_0 := mk_ hl330_0
          clear hi330_0 hl330_0
          replace p330 := eq_true p330
          replace q330 := eq_true q330
          go_wp2
          go_ret
          exact ⟨q0, Short.hB HB⟩
        ·
         rw [if_neg c57] at H
         have c57b0 : (a2_6 == 3) = false := beq_eq_false_iff_ne.mpr c57
         have c57b1 : (a2_6 != 3) = true := bne_iff_ne.mpr c57
         obtain rfl := Option.some.inj H
         have hcz73_0 := blk_cell BK327.out
         have hfz73_0 := blk_frozen BK327.out
         have p330 : 0 ≤ (a2_7 : Int) := of_decide_eq_true z1_
         have q330 : a2_7 < (l1.length : Int) := of_decide_eq_true z1_
         obtain ⟨ad330, A330_0, c330_0, e330, hx330_0, hl330_0, hi330_0⟩ := at_T51 HR1.out a2_7 p330 q330
         cases e330
         replace hx330_0 := up_ HB hx330_0
         have HR330_0 := mk_ hi330_0
         have HC330_0 := mk_ hl330_0
         clear hi330_0 hl330_0
         replace p330 := eq_true p330
         replace q330 := eq_true q330
         go_wp2
         go_ret
         exact ⟨q0, Short.hB HB⟩
     ·
      rw [if_neg c24] at H
      exact absurd H (by simp)
    ·
     rw [if_neg c23] at H
     exact absurd H (by simp)
end Go.Proofs.Ytjnjfogfpmeacaa.PAll
end
section
namespace Go.Proofs.Ytjnjfogfpmeacaa.PAll
open Go.RowKit PrintWords PrintLast PrintMore ZipT PrintWords.Kd PrintMore.Kd
attribute [local go_sem] max2_int min2_int max_two min_two max_three min_three max_four min_four   -- for this text's walks alone
set_option linter.unusedVariables false
set_option linter.unusedSimpArgs false
def op_Check.f (k : Nat) (a0 : Int) (l1 : List (S51)) (a2_0 : Int) (a2_1 : Int) (l2_2 : List Int) (a2_3 : Int) (a2_4 : Int) (a2_5 : Int) (a2_6 : Int) (a2_7 : Int) (a2_8 : ByteArray) (a2_9 : Int) (l2_10 : List (S84)) (l2_11 : List (S25)) : Option (Int) := (op_Forms.f k l1).bind fun t336 => (if t336 = 0 then (if a0 < 1 then (some 1) else (if a0 > 5 then (some 1) else ((op_right.f k a0 l1 a2_0 a2_1 l2_2 a2_3 a2_4 a2_5 a2_6 a2_7 a2_8 a2_9 l2_10 l2_11).bind fun t337 => (if t337 = true then (some 0) else (some 1))))) else (some t336))
theorem op_Check.calls (k : Nat) (a0 : Int) (A1 : Option Addr) (c1 : Nat) (l1 : List (S51)) (a2_0 : Int) (a2_1 : Int) (A2_2 : Option Addr) (c2_2 : Nat) (l2_2 : List Int) (a2_3 : Int) (a2_4 : Int) (a2_5 : Int) (a2_6 : Int) (a2_7 : Int) (a2_8 : ByteArray) (a2_9 : Int) (A2_10 : Option Addr) (c2_10 : Nat) (l2_10 : List (S84)) (A2_11 : Option Addr) (c2_11 : Nat) (l2_11 : List (S25)) (r : Int) (w : World) (hr1 : Kd.C k51 w A1 l1.length l1) (hc1 : l1.length ≤ c1) (hr2_2 : Kd.C (Kd.int .i64) w A2_2 l2_2.length l2_2) (hc2_2 : l2_2.length ≤ c2_2) (hr2_10 : Kd.C k84 w A2_10 l2_10.length l2_10) (hc2_10 : l2_10.length ≤ c2_10) (hr2_11 : Kd.C k25 w A2_11 l2_11.length l2_11) (hc2_11 : l2_11.length ≤ c2_11) (h : op_Check.f k a0 l1 a2_0 a2_1 l2_2 a2_3 a2_4 a2_5 a2_6 a2_7 a2_8 a2_9 l2_10 l2_11 = some r) :
  Calls Try.prog 19 #[.int .i64 a0, .slice A1 l1.length c1, .agg #[.int .i64 a2_0, .int .i64 a2_1, .slice A2_2 l2_2.length c2_2, .int .i64 a2_3, .int .i64 a2_4, .int .i64 a2_5, .int .i64 a2_6, .int .i64 a2_7, .string a2_8, .int .i64 a2_9, .slice A2_10 l2_10.length c2_10, .slice A2_11 l2_11.length c2_11]] w fun e w' => e = .returned (.int .i64 r) ∧ Below w.heap.size w w' := by
 have hu32 := Try.underlying32
 have HR1 := mk_ hr1
 have HC1 := mk_ hc1
 clear hr1 hc1
 have HR2_2 := mk_ hr2_2
 have HC2_2 := mk_ hc2_2
 clear hr2_2 hc2_2
 have HR2_10 := mk_ hr2_10
 have HC2_10 := mk_ hc2_10
 clear hr2_10 hc2_10
 have HR2_11 := mk_ hr2_11
 have HC2_11 := mk_ hc2_11
 clear hr2_11 hc2_11
 have HB := mk_ (Below.refl w.heap.size w)
 have H : ((op_Forms.f k l1).bind fun t336 => (if t336 = 0 then (if a0 < 1 then (some 1) else (if a0 > 5 then (some 1) else ((op_right.f k a0 l1 a2_0 a2_1 l2_2 a2_3 a2_4 a2_5 a2_6 a2_7 a2_8 a2_9 l2_10 l2_11).bind fun t337 => (if t337 = true then (some 0) else (some 1))))) else (some t336))) = some r := h
 clear h
 replace H := Option.bind_eq_some_iff.mp H
 obtain ⟨t336, A40, H⟩ := H
 replace H : (if t336 = 0 then (if a0 < 1 then (some 1) else (if a0 > 5 then (some 1) else ((op_right.f k a0 l1 a2_0 a2_1 l2_2 a2_3 a2_4 a2_5 a2_6 a2_7 a2_8 a2_9 l2_10 l2_11).bind fun t337 => (if t337 = true then (some 0) else (some 1))))) else (some t336)) = some r := H
 have A4 := mk_ A40
 clear A40
 by_cases c5 : t336 = 0
 rotate_left
 ·
  rw [if_neg c5] at H
  have c5b0 : (t336 == 0) = false := beq_eq_false_iff_ne.mpr c5
  have c5b1 : (t336 != 0) = true := bne_iff_ne.mpr c5
  obtain rfl := Option.some.inj H
  go_enter Try.func19, Try.ntmps19
  go_wp2_with (first | ((with_reducible refine gate_dst (N := 5) rfl ?_); refine box_event ?hg (N := 5) ?hd (cs := #[.int .i64 a2_0, .int .i64 a2_1, .slice A2_2 l2_2.length c2_2, .int .i64 a2_3, .int .i64 a2_4, .int .i64 a2_5, .int .i64 a2_6, .int .i64 a2_7, .string a2_8, .int .i64 a2_9, .slice A2_10 l2_10.length c2_10, .slice A2_11 l2_11.length c2_11]) (t := 32) ?hr ?_; (case hd => rfl); (case hg => rfl); (case hr => first | (go_simp; done) | (go_simp; rfl)); intro gb335 hg w22 hbox hb; have n0_ := mk_ (below_step (Short.hB HB) hb); have n1_ := mk_ (hbox); have n2_ := mk_ ((by rw [hg]; exact (below_size (Short.hB HB)) : w.heap.size ≤ gb335)); have n3_ := mk_ ((by rw [hg]; exact (below_size (Short.hB HB)) : w.heap.size ≤ gb335)); clear HB; revert n0_ n1_ n2_ n3_; intro HB BK335 GW335 GE335; clear hb hbox hg) | ((with_reducible refine gate_callee (f := 24) rfl ?_); refine Short.gL (some 9) Try.func24 #[.slice A1 l1.length c1] (h := ?_); (with_reducible refine (op_Forms.calls k _ _ l1 t336 _ ?side1 ?side2 A4.out).mono ?_); (case side1 => exact cX_ (C_below HR1.out HB.out)); (case side2 => exact HC1.out); rintro e w23 ⟨rfl, hb⟩; refine ⟨_, rfl, ?_⟩; have n0_ := mk_ (bB_ BK335 hb); have n1_ := mk_ (below_step (Short.hB HB) hb); clear BK335 HB; revert n0_ n1_; intro BK335 HB; (try clear hb)))
  go_ret
  exact ⟨q0, Short.hB HB⟩
 rw [if_pos c5] at H
 have c5b0 : (t336 == 0) = true := beq_iff_eq.mpr c5
 have c5b1 : (t336 != 0) = false := bne_eq_false_iff_eq.mpr c5
 clear c5
 by_cases c6 : a0 < 1
 ·
  rw [if_pos c6] at H
  have c6b0 : decide (a0 < 1) = true := decide_eq_true c6
  clear c6
  obtain rfl := Option.some.inj H
  go_enter Try.func19, Try.ntmps19
  go_wp2_with (first | ((with_reducible refine gate_dst (N := 5) rfl ?_); refine box_event ?hg (N := 5) ?hd (cs := #[.int .i64 a2_0, .int .i64 a2_1, .slice A2_2 l2_2.length c2_2, .int .i64 a2_3, .int .i64 a2_4, .int .i64 a2_5, .int .i64 a2_6, .int .i64 a2_7, .string a2_8, .int .i64 a2_9, .slice A2_10 l2_10.length c2_10, .slice A2_11 l2_11.length c2_11]) (t := 32) ?hr ?_; (case hd => rfl); (case hg => rfl); (case hr => first | (go_simp; done) | (go_simp; rfl)); intro gb335 hg w7 hbox hb; have n0_ := mk_ (below_step (Short.hB HB) hb); have n1_ := mk_ (hbox); have n2_ := mk_ ((by rw [hg]; exact (below_size (Short.hB HB)) : w.heap.size ≤ gb335)); have n3_ := mk_ ((by rw [hg]; exact (below_size (Short.hB HB)) : w.heap.size ≤ gb335)); clear HB; revert n0_ n1_ n2_ n3_; intro HB BK335 GW335 GE335; clear hb hbox hg) | ((with_reducible refine gate_callee (f := 24) rfl ?_); refine Short.gL (some 9) Try.func24 #[.slice A1 l1.length c1] (h := ?_); (with_reducible refine (op_Forms.calls k _ _ l1 t336 _ ?side1 ?side2 A4.out).mono ?_); (case side1 => exact cX_ (C_below HR1.out HB.out)); (case side2 => exact HC1.out); rintro e w8 ⟨rfl, hb⟩; refine ⟨_, rfl, ?_⟩; have n0_ := mk_ (bB_ BK335 hb); have n1_ := mk_ (below_step (Short.hB HB) hb); clear BK335 HB; revert n0_ n1_; intro BK335 HB; (try clear hb)))
  go_ret
  exact ⟨q0, Short.hB HB⟩
 rw [if_neg c6] at H
 have c6b0 : decide (a0 < 1) = false := decide_eq_false c6
 clear c6
 by_cases c9 : a0 > 5
 ·
  rw [if_pos c9] at H
  have c9b0 : decide (5 < a0) = true := decide_eq_true c9
  clear c9
  obtain rfl := Option.some.inj H
  go_enter Try.func19, Try.ntmps19
  go_wp2_with (first | ((with_reducible refine gate_dst (N := 5) rfl ?_); refine box_event ?hg (N := 5) ?hd (cs := #[.int .i64 a2_0, .int .i64 a2_1, .slice A2_2 l2_2.length c2_2, .int .i64 a2_3, .int .i64 a2_4, .int .i64 a2_5, .int .i64 a2_6, .int .i64 a2_7, .string a2_8, .int .i64 a2_9, .slice A2_10 l2_10.length c2_10, .slice A2_11 l2_11.length c2_11]) (t := 32) ?hr ?_; (case hd => rfl); (case hg => rfl); (case hr => first | (go_simp; done) | (go_simp; rfl)); intro gb335 hg w10 hbox hb; have n0_ := mk_ (below_step (Short.hB HB) hb); have n1_ := mk_ (hbox); have n2_ := mk_ ((by rw [hg]; exact (below_size (Short.hB HB)) : w.heap.size ≤ gb335)); have n3_ := mk_ ((by rw [hg]; exact (below_size (Short.hB HB)) : w.heap.size ≤ gb335)); clear HB; revert n0_ n1_ n2_ n3_; intro HB BK335 GW335 GE335; clear hb hbox hg) | ((with_reducible refine gate_callee (f := 24) rfl ?_); refine Short.gL (some 9) Try.func24 #[.slice A1 l1.length c1] (h := ?_); (with_reducible refine (op_Forms.calls k _ _ l1 t336 _ ?side1 ?side2 A4.out).mono ?_); (case side1 => exact cX_ (C_below HR1.out HB.out)); (case side2 => exact HC1.out); rintro e w11 ⟨rfl, hb⟩; refine ⟨_, rfl, ?_⟩; have n0_ := mk_ (bB_ BK335 hb); have n1_ := mk_ (below_step (Short.hB HB) hb); clear BK335 HB; revert n0_ n1_; intro BK335 HB; (try clear hb)))
  go_ret
  exact ⟨q0, Short.hB HB⟩
 rw [if_neg c9] at H
 have c9b0 : decide (5 < a0) = false := decide_eq_false c9
 clear c9
 replace H := Option.bind_eq_some_iff.mp H
 obtain ⟨t337, A120, H⟩ := H
 replace H : (if t337 = true then (some 0) else (some 1)) = some r := H
 have A12 := mk_ A120
 clear A120
 by_cases c13 : t337 = true
 ·
  subst c13
  rw [if_pos rfl] at H
  obtain rfl := Option.some.inj H
  go_enter Try.func19, Try.ntmps19
  go_wp2_with (first | ((with_reducible refine gate_dst (N := 5) rfl ?_); refine box_event ?hg (N := 5) ?hd (cs := #[.int .i64 a2_0, .int .i64 a2_1, .slice A2_2 l2_2.length c2_2, .int .i64 a2_3, .int .i64 a2_4, .int .i64 a2_5, .int .i64 a2_6, .int .i64 a2_7, .string a2_8, .int .i64 a2_9, .slice A2_10 l2_10.length c2_10, .slice A2_11 l2_11.length c2_11]) (t := 32) ?hr ?_; (case hd => rfl); (case hg => rfl); (case hr => first | (go_simp; done) | (go_simp; rfl)); intro gb335 hg w14 hbox hb; have n0_ := mk_ (below_step (Short.hB HB) hb); have n1_ := mk_ (hbox); have n2_ := mk_ ((by rw [hg]; exact (below_size (Short.hB HB)) : w.heap.size ≤ gb335)); have n3_ := mk_ ((by rw [hg]; exact (below_size (Short.hB HB)) : w.heap.size ≤ gb335)); clear HB; revert n0_ n1_ n2_ n3_; intro HB BK335 GW335 GE335; clear hb hbox hg) | ((with_reducible refine gate_callee (f := 24) rfl ?_); refine Short.gL (some 9) Try.func24 #[.slice A1 l1.length c1] (h := ?_); (with_reducible refine (op_Forms.calls k _ _ l1 t336 _ ?side1 ?side2 A4.out).mono ?_); (case side1 => exact cX_ (C_below HR1.out HB.out)); (case side2 => exact HC1.out); rintro e w15 ⟨rfl, hb⟩; refine ⟨_, rfl, ?_⟩; have n0_ := mk_ (bB_ BK335 hb); have n1_ := mk_ (below_step (Short.hB HB) hb); clear BK335 HB; revert n0_ n1_; intro BK335 HB; (try clear hb); have hcz16_0 := blk_cell BK335.out; have hfz16_0 := blk_frozen BK335.out) | (go_at_call 36; (with_reducible refine (op_right.calls k a0 _ _ l1 a2_0 a2_1 _ _ l2_2 a2_3 a2_4 a2_5 a2_6 a2_7 a2_8 a2_9 _ _ l2_10 _ _ l2_11 true _ ?side1 ?side2 ?side3 ?side4 ?side5 ?side6 ?side7 ?side8 A12.out).mono ?_); (case side1 => exact cX_ (C_below HR1.out HB.out)); (case side2 => exact HC1.out); (case side3 => exact cX_ (C_below HR2_2.out HB.out)); (case side4 => exact HC2_2.out); (case side5 => exact cX_ (C_below HR2_10.out HB.out)); (case side6 => exact HC2_10.out); (case side7 => exact cX_ (C_below HR2_11.out HB.out)); (case side8 => exact HC2_11.out); rintro e w17 ⟨rfl, hb⟩; have n0_ := mk_ (bB_ BK335 hb); have n1_ := mk_ (below_step (Short.hB HB) hb); clear BK335 HB; revert n0_ n1_; intro BK335 HB; (try clear hb); (try clear hb2); (try clear hk); (try clear hi)))
  go_ret
  exact ⟨q0, Short.hB HB⟩
 replace c13 := Bool.eq_false_iff.mpr c13
 subst c13
 rw [if_neg (show ¬ (false = true) by decide)] at H
 obtain rfl := Option.some.inj H
 go_enter Try.func19, Try.ntmps19
 go_wp2_with (first | ((with_reducible refine gate_dst (N := 5) rfl ?_); refine box_event ?hg (N := 5) ?hd (cs := #[.int .i64 a2_0, .int .i64 a2_1, .slice A2_2 l2_2.length c2_2, .int .i64 a2_3, .int .i64 a2_4, .int .i64 a2_5, .int .i64 a2_6, .int .i64 a2_7, .string a2_8, .int .i64 a2_9, .slice A2_10 l2_10.length c2_10, .slice A2_11 l2_11.length c2_11]) (t := 32) ?hr ?_; (case hd => rfl); (case hg => rfl); (case hr => first | (go_simp; done) | (go_simp; rfl)); intro gb335 hg w18 hbox hb; have n0_ := mk_ (below_step (Short.hB HB) hb); have n1_ := mk_ (hbox); have n2_ := mk_ ((by rw [hg]; exact (below_size (Short.hB HB)) : w.heap.size ≤ gb335)); have n3_ := mk_ ((by rw [hg]; exact (below_size (Short.hB HB)) : w.heap.size ≤ gb335)); clear HB; revert n0_ n1_ n2_ n3_; intro HB BK335 GW335 GE335; clear hb hbox hg) | ((with_reducible refine gate_callee (f := 24) rfl ?_); refine Short.gL (some 9) Try.func24 #[.slice A1 l1.length c1] (h := ?_); (with_reducible refine (op_Forms.calls k _ _ l1 t336 _ ?side1 ?side2 A4.out).mono ?_); (case side1 => exact cX_ (C_below HR1.out HB.out)); (case side2 => exact HC1.out); rintro e w19 ⟨rfl, hb⟩; refine ⟨_, rfl, ?_⟩; have n0_ := mk_ (bB_ BK335 hb); have n1_ := mk_ (below_step (Short.hB HB) hb); clear BK335 HB; revert n0_ n1_; intro BK335 HB; (try clear hb); have hcz20_0 := blk_cell BK335.out; have hfz20_0 := blk_frozen BK335.out) | (go_at_call 36; (with_reducible refine (op_right.calls k a0 _ _ l1 a2_0 a2_1 _ _ l2_2 a2_3 a2_4 a2_5 a2_6 a2_7 a2_8 a2_9 _ _ l2_10 _ _ l2_11 false _ ?side1 ?side2 ?side3 ?side4 ?side5 ?side6 ?side7 ?side8 A12.out).mono ?_); (case side1 => exact cX_ (C_below HR1.out HB.out)); (case side2 => exact HC1.out); (case side3 => exact cX_ (C_below HR2_2.out HB.out)); (case side4 => exact HC2_2.out); (case side5 => exact cX_ (C_below HR2_10.out HB.out)); (case side6 => exact HC2_10.out); (case side7 => exact cX_ (C_below HR2_11.out HB.out)); (case side8 => exact HC2_11.out); rintro e w21 ⟨rfl, hb⟩; have n0_ := mk_ (bB_ BK335 hb); have n1_ := mk_ (below_step (Short.hB HB) hb); clear BK335 HB; revert n0_ n1_; intro BK335 HB; (try clear hb); (try clear hb2); (try clear hk); (try clear hi)))
 go_ret
 exact ⟨q0, Short.hB HB⟩
end Go.Proofs.Ytjnjfogfpmeacaa.PAll
end
section
namespace Go.Proofs.Ytjnjfogfpmeacaa.PAll
open Go.RowKit PrintWords PrintLast PrintMore ZipT PrintWords.Kd PrintMore.Kd
attribute [local go_sem] max2_int min2_int max_two min_two max_three min_three max_four min_four   -- for this text's walks alone
set_option linter.unusedVariables false
set_option linter.unusedSimpArgs false
def raddlekeep_Bytes.l0 : Nat → List Int → List Int → Int → Option (Bool)
 | 0, _, _, _ => none
 | k + 1, x0, x1, x5 => if x5 < (x0.length : Int) then (if 0 ≤ x5 then (if x5 < (x1.length : Int) then (if (rd x0 x5) = (rd x1 x5) then (raddlekeep_Bytes.l0 k x0 x1 (wrap64 (x5 + 1))) else (some false)) else (none)) else (none)) else (some true)
def raddlekeep_Bytes.f (k : Nat) (l0 : List Int) (l1 : List Int) : Option (Bool) := if (l0.length : Int) = (l1.length : Int) then (raddlekeep_Bytes.l0 k l0 l1 0) else (some false)
theorem raddlekeep_Bytes.calls (k : Nat) (A0 : Option Addr) (c0 : Nat) (l0 : List Int) (A1 : Option Addr) (c1 : Nat) (l1 : List Int) (r : Bool) (w : World) (hr0 : Kd.C (Kd.int .u8) w A0 l0.length l0) (hc0 : l0.length ≤ c0) (hr1 : Kd.C (Kd.int .u8) w A1 l1.length l1) (hc1 : l1.length ≤ c1) (h : raddlekeep_Bytes.f k l0 l1 = some r) :
  Calls Try.prog 14 #[.slice A0 l0.length c0, .slice A1 l1.length c1] w fun e w' => e = .returned (.bool r) ∧ Drawn0 w w' := by
 have HR0 := mk_ hr0
 have HC0 := mk_ hc0
 clear hr0 hc0
 have HR1 := mk_ hr1
 have HC1 := mk_ hc1
 clear hr1 hc1
 have H : (if (l0.length : Int) = (l1.length : Int) then (raddlekeep_Bytes.l0 k l0 l1 0) else (some false)) = some r := h
 clear h
 by_cases c3 : (l0.length : Int) = (l1.length : Int)
 rotate_left
 ·
  rw [if_neg c3] at H
  have c3b0 : ((l0.length : Int) == (l1.length : Int)) = false := beq_eq_false_iff_ne.mpr c3
  have c3b1 : ((l0.length : Int) != (l1.length : Int)) = true := bne_iff_ne.mpr c3
  have c3b2 : (l0.length == l1.length) = false := by first | simpa using c3 | (simp at c3 ⊢; omega)
  obtain rfl := Option.some.inj H
  go_enter Try.func14, Try.ntmps14
  go_wp2
  repeat (go_quiet (fail); try go_wp2)
  go_ret
  exact ⟨z3_, by repeat (first | exact Drawn0.refl _ | apply Drawn0.step)⟩
 rw [if_pos c3] at H
 have c3b0 : ((l0.length : Int) == (l1.length : Int)) = true := beq_iff_eq.mpr c3
 have c3b1 : ((l0.length : Int) != (l1.length : Int)) = false := bne_eq_false_iff_eq.mpr c3
 have c3b2 : (l0.length == l1.length) = true := by first | simpa using c3 | (simp at c3 ⊢; omega)
 clear c3
 have H' := mk_ H
 clear H
 go_enter Try.func14, Try.ntmps14
 go_wp2
 repeat (go_quiet (fail); try go_wp2)
 go_loopg [5] k (fun kq v5 w' => ∃ (x5_1 : Int), v5 = .int .i64 x5_1 ∧ Aside0 (raddlekeep_Bytes.l0 kq l0 l1 x5_1 = some r) ∧ Aside0 (kq ≤ k) ∧ Drawn0 w w')
 case atStart => exact ⟨(0), z3_, H', ⟨Nat.le_refl _⟩, by repeat (first | exact Drawn0.refl _ | apply Drawn0.step)⟩
 case round =>
  clear H'
  try clear c1
  try clear p2
  try clear c3
  try clear c3b0
  try clear c3b1
  try clear c3b2
  obtain ⟨x5_1, rfl, HA, HK1, ⟨m1, rfl⟩⟩ := hrel
  cases gk with
  | zero => exact absurd HA.out (by simp [raddlekeep_Bytes.l0])
  | succ k1 =>
   have H := HA.out
   clear HA
   simp only [raddlekeep_Bytes.l0] at H
   by_cases c4 : x5_1 < (l0.length : Int)
   rotate_left
   ·
    rw [if_neg c4] at H
    have c4b0 : decide (x5_1 < (l0.length : Int)) = false := decide_eq_false c4
    clear c4
    obtain rfl := Option.some.inj H
    go_wp2
    repeat (go_quiet (fail); try go_wp2)
    go_ret
    exact ⟨z3_, by repeat (first | exact Drawn0.refl _ | apply Drawn0.step)⟩
   rw [if_pos c4] at H
   have c4b0 : decide (x5_1 < (l0.length : Int)) = true := decide_eq_true c4
   clear c4
   by_cases c5 : 0 ≤ x5_1
   rotate_left
   ·
    rw [if_neg c5] at H
    exact absurd H (by simp)
   rw [if_pos c5] at H
   have c5b0 : decide (0 ≤ x5_1) = true := decide_eq_true c5
   clear c5
   by_cases c6 : x5_1 < (l1.length : Int)
   rotate_left
   ·
    rw [if_neg c6] at H
    exact absurd H (by simp)
   rw [if_pos c6] at H
   have c6b0 : decide (x5_1 < (l1.length : Int)) = true := decide_eq_true c6
   clear c6
   by_cases c7 : (rd l0 x5_1) = (rd l1 x5_1)
   rotate_left
   ·
    rw [if_neg c7] at H
    have c7b0 : ((rd l0 x5_1) == (rd l1 x5_1)) = false := beq_eq_false_iff_ne.mpr c7
    have c7b1 : ((rd l0 x5_1) != (rd l1 x5_1)) = true := bne_iff_ne.mpr c7
    obtain rfl := Option.some.inj H
    have p455 : 0 ≤ (x5_1 : Int) := of_decide_eq_true z1_
    have q455 : x5_1 < (l0.length : Int) := of_decide_eq_true z1_
    obtain ⟨ad455, e455, hx455_0⟩ := Kd.at_int HR0.out x5_1 p455 q455
    cases e455
    replace p455 := eq_true p455
    replace q455 := eq_true q455
    have p456 : 0 ≤ (x5_1 : Int) := of_decide_eq_true z1_
    have q456 : x5_1 < (l1.length : Int) := of_decide_eq_true z1_
    obtain ⟨ad456, e456, hx456_0⟩ := Kd.at_int HR1.out x5_1 p456 q456
    cases e456
    replace p456 := eq_true p456
    replace q456 := eq_true q456
    go_wp2
    repeat (go_quiet (fail); try go_wp2)
    go_ret
    exact ⟨z3_, by repeat (first | exact Drawn0.refl _ | apply Drawn0.step)⟩
   rw [if_pos c7] at H
   have c7b0 : ((rd l0 x5_1) == (rd l1 x5_1)) = true := beq_iff_eq.mpr c7
   have c7b1 : ((rd l0 x5_1) != (rd l1 x5_1)) = false := bne_eq_false_iff_eq.mpr c7
   clear c7
   have H' := mk_ H
   clear H
   have p455 : 0 ≤ (x5_1 : Int) := of_decide_eq_true z1_
   have q455 : x5_1 < (l0.length : Int) := of_decide_eq_true z1_
   obtain ⟨ad455, e455, hx455_0⟩ := Kd.at_int HR0.out x5_1 p455 q455
   cases e455
   replace p455 := eq_true p455
   replace q455 := eq_true q455
   have p456 : 0 ≤ (x5_1 : Int) := of_decide_eq_true z1_
   have q456 : x5_1 < (l1.length : Int) := of_decide_eq_true z1_
   obtain ⟨ad456, e456, hx456_0⟩ := Kd.at_int HR1.out x5_1 p456 q456
   cases e456
   replace p456 := eq_true p456
   replace q456 := eq_true q456
   go_wp2
   repeat (go_quiet (fail); try go_wp2)
   go_roundg k1
   case measure => have := HK1.out; omega
   case rel => exact ⟨(wrap64 (x5_1 + 1)), z3_, H', ⟨by have := HK1.out; omega⟩, by repeat (first | exact Drawn0.refl _ | apply Drawn0.step)⟩
def raddlelaw03_Long.l0 : Nat → List (S84) → Int → Option (Bool)
 | 0, _, _ => none
 | k + 1, x0, x3 => if x3 < (x0.length : Int) then (if 0 ≤ x3 then (if (((rd_T84 x0 x3).f2).size : Int) > 300 then (some true) else (raddlelaw03_Long.l0 k x0 (wrap64 (x3 + 1)))) else (none)) else (some false)
def raddlelaw03_Long.f (k : Nat) (l0 : List (S84)) : Option (Bool) := raddlelaw03_Long.l0 k l0 0
theorem raddlelaw03_Long.calls (k : Nat) (A0 : Option Addr) (c0 : Nat) (l0 : List (S84)) (r : Bool) (w : World) (hr0 : Kd.C k84 w A0 l0.length l0) (hc0 : l0.length ≤ c0) (h : raddlelaw03_Long.f k l0 = some r) :
  Calls Try.prog 72 #[.slice A0 l0.length c0] w fun e w' => e = .returned (.bool r) ∧ Drawn0 w w' := by
 have HR0 := mk_ hr0
 have HC0 := mk_ hc0
 clear hr0 hc0
 have H : (raddlelaw03_Long.l0 k l0 0) = some r := h
 clear h
 have H' := mk_ H
 clear H
 go_enter Try.func72, Try.ntmps72
 go_wp2
 go_loopg [3] k (fun kq v3 w' => ∃ (x3_1 : Int), v3 = .int .i64 x3_1 ∧ Aside0 (raddlelaw03_Long.l0 kq l0 x3_1 = some r) ∧ Aside0 (kq ≤ k) ∧ Drawn0 w w')
 case atStart => exact ⟨(0), z3_, H', ⟨Nat.le_refl _⟩, by repeat (first | exact Drawn0.refl _ | apply Drawn0.step)⟩
 case round =>
  clear H'
  obtain ⟨x3_1, rfl, HA, HK1, ⟨m1, rfl⟩⟩ := hrel
  cases gk with
  | zero => exact absurd HA.out (by simp [raddlelaw03_Long.l0])
  | succ k1 =>
   have H := HA.out
   clear HA
   simp only [raddlelaw03_Long.l0] at H
   by_cases c2 : x3_1 < (l0.length : Int)
   rotate_left
   ·
    rw [if_neg c2] at H
    have c2b0 : decide (x3_1 < (l0.length : Int)) = false := decide_eq_false c2
    clear c2
    obtain rfl := Option.some.inj H
    go_wp2
    go_ret
    exact ⟨z3_, by repeat (first | exact Drawn0.refl _ | apply Drawn0.step)⟩
   rw [if_pos c2] at H
   have c2b0 : decide (x3_1 < (l0.length : Int)) = true := decide_eq_true c2
   clear c2
   by_cases c3 : 0 ≤ x3_1
   rotate_left
   ·
    rw [if_neg c3] at H
    exact absurd H (by simp)
   rw [if_pos c3] at H
   have c3b0 : decide (0 ≤ x3_1) = true := decide_eq_true c3
   clear c3
   by_cases c4 : (((rd_T84 l0 x3_1).f2).size : Int) > 300
   ·
    rw [if_pos c4] at H
    have c4b0 : decide (300 < (((rd_T84 l0 x3_1).f2).size : Int)) = true := decide_eq_true c4
    have c4b1 : decide (300 < ((rd_T84 l0 x3_1).f2).size) = true := decide_eq_true z4_
    clear c4
    obtain rfl := Option.some.inj H
    have p512 : 0 ≤ (x3_1 : Int) := of_decide_eq_true z1_
    have q512 : x3_1 < (l0.length : Int) := of_decide_eq_true z1_
    obtain ⟨ad512, e512, hx512_0, hx512_1, hx512_2⟩ := at_T84 HR0.out x3_1 p512 q512
    cases e512
    replace p512 := eq_true p512
    replace q512 := eq_true q512
    go_wp2
    go_ret
    exact ⟨z3_, by repeat (first | exact Drawn0.refl _ | apply Drawn0.step)⟩
   rw [if_neg c4] at H
   have c4b0 : decide (300 < (((rd_T84 l0 x3_1).f2).size : Int)) = false := decide_eq_false c4
   have c4b1 : decide (300 < ((rd_T84 l0 x3_1).f2).size) = false := decide_eq_false z4_
   clear c4
   have H' := mk_ H
   clear H
   have p512 : 0 ≤ (x3_1 : Int) := of_decide_eq_true z1_
   have q512 : x3_1 < (l0.length : Int) := of_decide_eq_true z1_
   obtain ⟨ad512, e512, hx512_0, hx512_1, hx512_2⟩ := at_T84 HR0.out x3_1 p512 q512
   cases e512
   replace p512 := eq_true p512
   replace q512 := eq_true q512
   go_wp2
   go_roundg k1
   case measure => have := HK1.out; omega
   case rel => exact ⟨(wrap64 (x3_1 + 1)), z3_, H', ⟨by have := HK1.out; omega⟩, by repeat (first | exact Drawn0.refl _ | apply Drawn0.step)⟩
def raddlelaw04_Heavy.f (k : Nat) (l0 : List (S84)) : Option (Bool) := if (l0.length : Int) > 40 then (some true) else ((raddlelaw03_Long.f k l0).bind fun t513 => (some t513))
theorem raddlelaw04_Heavy.calls (k : Nat) (A0 : Option Addr) (c0 : Nat) (l0 : List (S84)) (r : Bool) (w : World) (hr0 : Kd.C k84 w A0 l0.length l0) (hc0 : l0.length ≤ c0) (h : raddlelaw04_Heavy.f k l0 = some r) :
  Calls Try.prog 35 #[.slice A0 l0.length c0] w fun e w' => e = .returned (.bool r) ∧ Drawn0 w w' := by
 have HR0 := mk_ hr0
 have HC0 := mk_ hc0
 clear hr0 hc0
 have H : (if (l0.length : Int) > 40 then (some true) else ((raddlelaw03_Long.f k l0).bind fun t513 => (some t513))) = some r := h
 clear h
 by_cases c2 : (l0.length : Int) > 40
 ·
  rw [if_pos c2] at H
  have c2b0 : decide (40 < (l0.length : Int)) = true := decide_eq_true c2
  have c2b1 : decide (40 < l0.length) = true := decide_eq_true z4_
  clear c2
  obtain rfl := Option.some.inj H
  go_enter Try.func35, Try.ntmps35
  go_wp2
  go_ret
  exact ⟨z3_, by repeat (first | exact Drawn0.refl _ | apply Drawn0.step)⟩
 rw [if_neg c2] at H
 have c2b0 : decide (40 < (l0.length : Int)) = false := decide_eq_false c2
 have c2b1 : decide (40 < l0.length) = false := decide_eq_false z4_
 clear c2
 replace H := Option.bind_eq_some_iff.mp H
 obtain ⟨t513, A30, H⟩ := H
 replace H : (some t513) = some r := H
 have A3 := mk_ A30
 clear A30
 obtain rfl := Option.some.inj H
 go_enter Try.func35, Try.ntmps35
 go_wp2_with (first | (go_at_call 72; (with_reducible refine (raddlelaw03_Long.calls k _ _ l0 t513 _ ?side1 ?side2 A3.out).mono ?_); (case side1 => repeat (first | exact HR0.out | (with_reducible refine C_alloc ?_ _) | (with_reducible refine C_drewN ?_ _) | (with_reducible refine C_drew ?_))); (case side2 => exact HC0.out); rintro e w' ⟨rfl, ⟨nd, rfl⟩⟩))
 go_ret
 exact ⟨z3_, by repeat (first | exact Drawn0.refl _ | apply Drawn0.step)⟩
end Go.Proofs.Ytjnjfogfpmeacaa.PAll
end
section
namespace Go.Proofs.Ytjnjfogfpmeacaa.PAll
open Go.RowKit PrintWords PrintLast PrintMore ZipT PrintWords.Kd PrintMore.Kd
attribute [local go_sem] max2_int min2_int max_two min_two max_three min_three max_four min_four   -- for this text's walks alone
set_option linter.unusedVariables false
set_option linter.unusedSimpArgs false
def raddlelaw07_HeavyForms.l0 : Nat → List (S51) → Int → Option (Bool)
 | 0, _, _ => none
 | k + 1, x0, x3 => if x3 < (x0.length : Int) then (if 0 ≤ x3 then (if (((rd_T51 x0 x3).f0).length : Int) > 30 then (some true) else (raddlelaw07_HeavyForms.l0 k x0 (wrap64 (x3 + 1)))) else (none)) else (some false)
def raddlelaw07_HeavyForms.f (k : Nat) (l0 : List (S51)) : Option (Bool) := if (l0.length : Int) > 30 then (some true) else (raddlelaw07_HeavyForms.l0 k l0 0)
theorem raddlelaw07_HeavyForms.calls (k : Nat) (A0 : Option Addr) (c0 : Nat) (l0 : List (S51)) (r : Bool) (w : World) (hr0 : Kd.C k51 w A0 l0.length l0) (hc0 : l0.length ≤ c0) (h : raddlelaw07_HeavyForms.f k l0 = some r) :
  Calls Try.prog 17 #[.slice A0 l0.length c0] w fun e w' => e = .returned (.bool r) ∧ Drawn0 w w' := by
 have HR0 := mk_ hr0
 have HC0 := mk_ hc0
 clear hr0 hc0
 have H : (if (l0.length : Int) > 30 then (some true) else (raddlelaw07_HeavyForms.l0 k l0 0)) = some r := h
 clear h
 by_cases c2 : (l0.length : Int) > 30
 ·
  rw [if_pos c2] at H
  have c2b0 : decide (30 < (l0.length : Int)) = true := decide_eq_true c2
  have c2b1 : decide (30 < l0.length) = true := decide_eq_true z4_
  clear c2
  obtain rfl := Option.some.inj H
  go_enter Try.func17, Try.ntmps17
  go_wp2
  go_ret
  exact ⟨z3_, by repeat (first | exact Drawn0.refl _ | apply Drawn0.step)⟩
 rw [if_neg c2] at H
 have c2b0 : decide (30 < (l0.length : Int)) = false := decide_eq_false c2
 have c2b1 : decide (30 < l0.length) = false := decide_eq_false z4_
 clear c2
 have H' := mk_ H
 clear H
 go_enter Try.func17, Try.ntmps17
 go_wp2
 go_loopg [3] k (fun kq v3 w' => ∃ (x3_1 : Int), v3 = .int .i64 x3_1 ∧ Aside0 (raddlelaw07_HeavyForms.l0 kq l0 x3_1 = some r) ∧ Aside0 (kq ≤ k) ∧ Drawn0 w w')
 case atStart => exact ⟨(0), z3_, H', ⟨Nat.le_refl _⟩, by repeat (first | exact Drawn0.refl _ | apply Drawn0.step)⟩
 case round =>
  clear H'
  try clear c1
  try clear c2
  try clear c2b0
  try clear c2b1
  try clear p2
  obtain ⟨x3_1, rfl, HA, HK1, ⟨m1, rfl⟩⟩ := hrel
  cases gk with
  | zero => exact absurd HA.out (by simp [raddlelaw07_HeavyForms.l0])
  | succ k1 =>
   have H := HA.out
   clear HA
   simp only [raddlelaw07_HeavyForms.l0] at H
   by_cases c3 : x3_1 < (l0.length : Int)
   rotate_left
   ·
    rw [if_neg c3] at H
    have c3b0 : decide (x3_1 < (l0.length : Int)) = false := decide_eq_false c3
    clear c3
    obtain rfl := Option.some.inj H
    go_wp2
    go_ret
    exact ⟨z3_, by repeat (first | exact Drawn0.refl _ | apply Drawn0.step)⟩
   rw [if_pos c3] at H
   have c3b0 : decide (x3_1 < (l0.length : Int)) = true := decide_eq_true c3
   clear c3
   by_cases c4 : 0 ≤ x3_1
   rotate_left
   ·
    rw [if_neg c4] at H
    exact absurd H (by simp)
   rw [if_pos c4] at H
   have c4b0 : decide (0 ≤ x3_1) = true := decide_eq_true c4
   clear c4
   by_cases c5 : (((rd_T51 l0 x3_1).f0).length : Int) > 30
   ·
    rw [if_pos c5] at H
    have c5b0 : decide (30 < (((rd_T51 l0 x3_1).f0).length : Int)) = true := decide_eq_true c5
    have c5b1 : decide (30 < ((rd_T51 l0 x3_1).f0).length) = true := decide_eq_true z4_
    clear c5
    obtain rfl := Option.some.inj H
    have p553 : 0 ≤ (x3_1 : Int) := of_decide_eq_true z1_
    have q553 : x3_1 < (l0.length : Int) := of_decide_eq_true z1_
    obtain ⟨ad553, A553_0, c553_0, e553, hx553_0, hl553_0, hi553_0⟩ := at_T51 HR0.out x3_1 p553 q553
    cases e553
    have HR553_0 := mk_ hi553_0
    have HC553_0 := mk_ hl553_0
    clear hi553_0 hl553_0
    replace p553 := eq_true p553
    replace q553 := eq_true q553
    go_wp2
    go_ret
    exact ⟨z3_, by repeat (first | exact Drawn0.refl _ | apply Drawn0.step)⟩
   rw [if_neg c5] at H
   have c5b0 : decide (30 < (((rd_T51 l0 x3_1).f0).length : Int)) = false := decide_eq_false c5
   have c5b1 : decide (30 < ((rd_T51 l0 x3_1).f0).length) = false := decide_eq_false z4_
   clear c5
   have H' := mk_ H
   clear H
   have p553 : 0 ≤ (x3_1 : Int) := of_decide_eq_true z1_
   have q553 : x3_1 < (l0.length : Int) := of_decide_eq_true z1_
   obtain ⟨ad553, A553_0, c553_0, e553, hx553_0, hl553_0, hi553_0⟩ := at_T51 HR0.out x3_1 p553 q553
   cases e553
   have HR553_0 := mk_ hi553_0
   have HC553_0 := mk_ hl553_0
   clear hi553_0 hl553_0
   replace p553 := eq_true p553
   replace q553 := eq_true q553
   go_wp2
   go_roundg k1
   case measure => have := HK1.out; omega
   case rel => exact ⟨(wrap64 (x3_1 + 1)), z3_, H', ⟨by have := HK1.out; omega⟩, by repeat (first | exact Drawn0.refl _ | apply Drawn0.step)⟩
end Go.Proofs.Ytjnjfogfpmeacaa.PAll
end
section
namespace Go.Proofs.Ytjnjfogfpmeacaa.Sep
open Go.RowKit PrintWords ZipT PrintWords.Kd PrintMore.Kd
set_option linter.unusedVariables false
structure Moved (w w' : World) (S : Nat → Prop) : Prop where
 os : w'.os = w.os
 tape : w'.tape = w.tape
 output : w'.output = w.output
 size : w.heap.size ≤ w'.heap.size
 block : ∀ k, k < w.heap.size → ¬ S k → w'.heap[k]? = w.heap[k]?
theorem Moved.refl (w : World) (S : Nat → Prop) : Moved w w S := ⟨rfl, rfl, rfl, Nat.le_refl _, fun _ _ _ => rfl⟩
theorem Moved.trans {w w1 w2 : World} {S S1 : Nat → Prop} (h : Moved w w1 S) (k : Moved w1 w2 S1) (hs : ∀ i, i < w.heap.size → S1 i → S i) : Moved w w2 S :=
 ⟨k.os.trans h.os, k.tape.trans h.tape, k.output.trans h.output, Nat.le_trans h.size k.size, fun i hi hn =>
  (k.block i (Nat.lt_of_lt_of_le hi h.size) (fun e => hn (hs i hi e))).trans (h.block i hi hn)⟩
theorem Moved.wider {w w' : World} {S S' : Nat → Prop} (h : Moved w w' S) (hs : ∀ i, i < w.heap.size → S i → S' i) : Moved w w' S' :=
 ⟨h.os, h.tape, h.output, h.size, fun i hi hn => h.block i hi (fun e => hn (hs i hi e))⟩
theorem Moved.of_below {w w' : World} (h : Below w.heap.size w w') (S : Nat → Prop) : Moved w w' S := ⟨h.os, h.tape, h.output, h.size, fun i hi _ => h.block i hi⟩
theorem Moved.of_grown {w w' : World} {row : Option Nat} (h : w.grownBy w' row) {S : Nat → Prop} (hr : ∀ i, row = some i → i < w.heap.size → S i) : Moved w w' S :=
 ⟨h.os, h.tape, h.output, h.size, fun i hi hn => h.block i hi (fun e => hn (hr i e.symm hi))⟩
theorem Moved.set {w w1 : World} {S : Nat → Prop} (h : Moved w w1 S) {p : Addr} (hp : p.block < w.heap.size → S p.block) (u : Value) : Moved w (w1.setCell p u) S :=
 h.trans (S1 := fun i => i = p.block) ⟨rfl, rfl, rfl, by simp [World.setCell], fun i _ hn => Below.heap_setCell w1 p u i hn⟩ (fun i hi e => by subst e; exact hp hi)
theorem Moved.alloc {w w1 : World} {S : Nat → Prop} (h : Moved w w1 S) (o : Obj) : Moved w (w1.alloc o) S :=
 h.trans (S1 := fun _ => False) (Moved.of_below (below_alloc (Below.refl _ _) o) _) (fun _ _ e => e.elim)
theorem Moved.drewN {w w1 : World} {S : Nat → Prop} (h : Moved w w1 S) (n : Nat) : Moved w (w1.drewN n) S := ⟨h.os, h.tape, h.output, h.size, h.block⟩
theorem Moved.drew {w w1 : World} {S : Nat → Prop} (h : Moved w w1 S) : Moved w w1.drew S := ⟨h.os, h.tape, h.output, h.size, h.block⟩
theorem Moved.below {w w1 w2 : World} {S : Nat → Prop} (h : Moved w w1 S) (k : Below w1.heap.size w1 w2) : Moved w w2 S :=
 h.trans (S1 := fun _ => False) (Moved.of_below k _) (fun _ _ e => e.elim)
theorem Moved.blk {w w' : World} {S : Nat → Prop} (h : Moved w w' S) {g : Nat} {o : Obj} (hg : w.heap[g]? = some o) (hn : ¬ S g) : w'.heap[g]? = some o :=
 (h.block g (Array.getElem?_eq_some_iff.1 hg).1 hn).trans hg
structure Part where
 P : World → (Nat → Prop) → Prop
 mono : ∀ {w ok ok'}, P w ok → (∀ k, k < w.heap.size → ok k → ok' k) → P w ok'
 move : ∀ {w w' ok}, P w ok → Moved w w' (fun k => ¬ ok k) → P w' ok
theorem Part.moved (p : Part) {w w' : World} {ok S : Nat → Prop} (h : p.P w ok) (hm : Moved w w' S) (hd : ∀ k, k < w.heap.size → ok k → ¬ S k) : p.P w' ok :=
 p.move h (hm.wider (fun i hi hs e => hd i hi e hs))
def Sep (w : World) : (Nat → Prop) → List Part → Prop
 | _, [] => True
 | fr, p :: ps => ∃ ok : Nat → Prop, (∀ k, ok k → fr k) ∧ p.P w ok ∧ Sep w (fun k => fr k ∧ ¬ ok k) ps
def Sp (w : World) (ps : List Part) : Prop := Sep w (fun k => k < w.heap.size) ps
theorem Sep.wide {w : World} : ∀ {ps : List Part} {fr fr' : Nat → Prop}, Sep w fr ps → (∀ k, fr k → fr' k) → Sep w fr' ps
 | [], _, _, _, _ => trivial
 | p :: ps, fr, fr', ⟨ok, h1, h2, h3⟩, h => ⟨ok, fun k hk => h k (h1 k hk), h2, Sep.wide h3 (fun k hk => ⟨h k hk.1, hk.2⟩)⟩
theorem Sep.moved {w w' : World} {S : Nat → Prop} (hm : Moved w w' S) : ∀ {ps : List Part} {fr : Nat → Prop}, Sep w fr ps → (∀ k, k < w.heap.size → fr k → ¬ S k) → Sep w' fr ps
 | [], _, _, _ => trivial
 | p :: ps, fr, ⟨ok, h1, h2, h3⟩, h => ⟨ok, h1, p.moved h2 hm (fun k hk hok => h k hk (h1 k hok)), Sep.moved hm h3 (fun k hk hf => h k hk hf.1)⟩
theorem Sep.swap {w : World} {fr : Nat → Prop} {a b : Part} {ps : List Part} : Sep w fr (a :: b :: ps) → Sep w fr (b :: a :: ps) := by
 rintro ⟨ok, h1, h2, ok', h1', h2', h3⟩
 exact ⟨ok', fun k hk => (h1' k hk).1, h2', ok, fun k hk => ⟨h1 k hk, fun hk' => (h1' k hk').2 hk⟩, h2, h3.wide (fun k hk => ⟨⟨hk.1.1, hk.2⟩, hk.1.2⟩)⟩
theorem Sep.cons {w : World} {fr : Nat → Prop} {a : Part} {ps qs : List Part} (f : ∀ fr, Sep w fr ps → Sep w fr qs) : Sep w fr (a :: ps) → Sep w fr (a :: qs) := by
 rintro ⟨ok, h1, h2, h3⟩
 exact ⟨ok, h1, h2, f _ h3⟩
theorem Sep.tail {w : World} {fr : Nat → Prop} {a : Part} {ps : List Part} : Sep w fr (a :: ps) → Sep w fr ps := by
 rintro ⟨ok, h1, h2, h3⟩
 exact h3.wide (fun k hk => hk.1)
theorem Sep.app {w : World} : ∀ {ps qs : List Part} {fr1 fr2 fr : Nat → Prop}, Sep w fr1 ps → Sep w fr2 qs → (∀ k, fr1 k → fr k) → (∀ k, fr2 k → fr k) → (∀ k, fr1 k → ¬ fr2 k) → Sep w fr (ps ++ qs)
 | [], qs, fr1, fr2, fr, _, h, _, h2, _ => h.wide h2
 | p :: ps, qs, fr1, fr2, fr, ⟨ok, h1, h2, h3⟩, h, a, b, d =>
  ⟨ok, fun k hk => a k (h1 k hk), h2, Sep.app h3 h (fun k hk => ⟨a k hk.1, hk.2⟩) (fun k hk => ⟨b k hk, fun hok => d k (h1 k hok) hk⟩) (fun k hk => d k hk.1)⟩
theorem Sep.shrink {w : World} : ∀ {ps : List Part} {fr fr' : Nat → Prop}, Sep w fr ps → (∀ k, k < w.heap.size → fr k → fr' k) → Sep w fr' ps
 | [], _, _, _, _ => trivial
 | p :: ps, fr, fr', ⟨ok, h1, h2, h3⟩, h => ⟨fun k => ok k ∧ k < w.heap.size, fun k hk => h k hk.2 (h1 k hk.1), p.mono h2 (fun k hk hok => ⟨hok, hk⟩), Sep.shrink h3 (fun k hk hf => ⟨h k hk hf.1, fun e => hf.2 e.1⟩)⟩
theorem Sep.split {w : World} : ∀ {ps qs : List Part} {fr : Nat → Prop}, Sep w fr (ps ++ qs) → ∃ ok : Nat → Prop, (∀ k, ok k → fr k) ∧ Sep w ok ps ∧ Sep w (fun k => fr k ∧ ¬ ok k) qs
 | [], qs, fr, h => ⟨fun _ => False, fun _ h => h.elim, trivial, h.wide (fun k hk => ⟨hk, fun e => e⟩)⟩
 | p :: ps, qs, fr, ⟨ok, h1, h2, h3⟩ => by
  obtain ⟨ok', h1', h2', h3'⟩ := Sep.split (ps := ps) h3
  refine ⟨fun k => ok k ∨ ok' k, fun k hk => hk.elim (h1 k) (fun h => (h1' k h).1), ⟨ok, fun k hk => .inl hk, h2, h2'.wide (fun k hk => ⟨.inr hk, (h1' k hk).2⟩)⟩, h3'.wide (fun k hk => ⟨hk.1.1, fun e => e.elim hk.1.2 hk.2⟩)⟩
def Part.all (ps : List Part) : Part where
 P := fun w ok => Sep w ok ps
 mono := fun h hk => h.shrink hk
 move := fun h hm => Sep.moved hm h (fun k _ hk e => e hk)
def Part.ex {α : Type} (f : α → Part) : Part where
 P := fun w ok => ∃ x, (f x).P w ok
 mono := fun ⟨x, h⟩ hk => ⟨x, (f x).mono h hk⟩
 move := fun ⟨x, h⟩ hm => ⟨x, (f x).move h hm⟩
def Part.pure (p : Prop) : Part where
 P := fun _ _ => p
 mono := fun h _ => h
 move := fun h _ => h
section
variable {w w' : World} {a b c d e f : Part} {F G : List Part}
theorem Sp.nil (w : World) : Sp w [] := trivial
theorem Sp.tail (h : Sp w (a :: F)) : Sp w F := Sep.tail h
theorem Sp.s1 (h : Sp w (a :: b :: F)) : Sp w (b :: a :: F) := Sep.swap h
theorem Sp.s2 (h : Sp w (a :: b :: c :: F)) : Sp w (c :: a :: b :: F) := Sp.s1 (Sep.cons (fun _ => Sep.swap) h)
theorem Sp.s3 (h : Sp w (a :: b :: c :: d :: F)) : Sp w (d :: a :: b :: c :: F) := Sp.s1 (Sep.cons (fun _ h => Sep.swap (Sep.cons (fun _ => Sep.swap) h)) h)
theorem Sp.s4 (h : Sp w (a :: b :: c :: d :: e :: F)) : Sp w (e :: a :: b :: c :: d :: F) := Sp.s1 (Sep.cons (fun _ h => Sep.swap (Sep.cons (fun _ h => Sep.swap (Sep.cons (fun _ => Sep.swap) h)) h)) h)
theorem Sp.s5 (h : Sp w (a :: b :: c :: d :: e :: f :: F)) : Sp w (f :: a :: b :: c :: d :: e :: F) := Sp.s1 (Sep.cons (fun _ h => Sep.swap (Sep.cons (fun _ h => Sep.swap (Sep.cons (fun _ h => Sep.swap (Sep.cons (fun _ => Sep.swap) h)) h)) h)) h)
theorem Sp.below (h : Sp w F) (hb : Below w.heap.size w w') : Sp w' F :=
 (Sep.moved (Moved.of_below hb (fun _ => False)) h (fun _ _ _ e => e)).wide (fun _ hk => Nat.lt_of_lt_of_le hk hb.size)
theorem Sp.alloc (h : Sp w F) (o : Obj) : Sp (w.alloc o) F := h.below (below_alloc (Below.refl _ _) o)
theorem Sp.drewN (h : Sp w F) (n : Nat) : Sp (w.drewN n) F := h.below (pw_below_drewN (Below.refl _ _) n)
theorem Sp.drew (h : Sp w F) : Sp w.drew F := h.below (below_drew (Below.refl _ _))
theorem Sp.new (h : Sp w F) (hb : Below w.heap.size w w') (ha : a.P w' (fun k => w.heap.size ≤ k ∧ k < w'.heap.size)) : Sp w' (a :: F) :=
 ⟨fun k => w.heap.size ≤ k ∧ k < w'.heap.size, fun k hk => hk.2, ha, (Sep.moved (Moved.of_below hb (fun _ => False)) h (fun _ _ _ e => e)).wide (fun k hk => ⟨Nat.lt_of_lt_of_le hk hb.size, fun e => by omega⟩)⟩
theorem Sp.head (h : Sp w (a :: F)) : ∃ ok : Nat → Prop, (∀ k, ok k → k < w.heap.size) ∧ a.P w ok ∧
  ∀ w' qs, Moved w w' ok → Sep w' (fun k => ok k ∨ w.heap.size ≤ k ∧ k < w'.heap.size) qs → Sp w' (qs ++ F) := by
 obtain ⟨ok, h1, h2, h3⟩ := h
 refine ⟨ok, h1, h2, fun w' qs hm hq => ?_⟩
 refine Sep.app hq (Sep.moved hm h3 (fun k hk hf => hf.2)) (fun k hk => ?_) (fun k hk => Nat.lt_of_lt_of_le hk.1 hm.size) (fun k hk hf => ?_)
 ·
  rcases hk with hk | hk
  ·
   exact Nat.lt_of_lt_of_le (h1 k hk) hm.size
  ·
   exact hk.2
 ·
  rcases hk with hk | hk
  ·
   exact hf.2 hk
  ·
   omega
theorem Sp.head1 (h : Sp w (a :: F)) : ∃ ok : Nat → Prop, (∀ k, ok k → k < w.heap.size) ∧ a.P w ok ∧
  ∀ w' (q : Part), Moved w w' ok → q.P w' (fun k => ok k ∨ w.heap.size ≤ k ∧ k < w'.heap.size) → Sp w' (q :: F) := by
 obtain ⟨ok, h1, h2, h3⟩ := h.head
 exact ⟨ok, h1, h2, fun w' q hm hq => h3 w' [q] hm ⟨_, fun _ hk => hk, hq, trivial⟩⟩
theorem Sp.ofEx {α : Type} {f : α → Part} (h : Sp w (Part.ex f :: F)) : ∃ x, Sp w (f x :: F) := by
 obtain ⟨ok, h1, ⟨x, h2⟩, h3⟩ := h
 exact ⟨x, ok, h1, h2, h3⟩
theorem Sp.toEx {α : Type} {f : α → Part} (x : α) (h : Sp w (f x :: F)) : Sp w (Part.ex f :: F) := by
 obtain ⟨ok, h1, h2, h3⟩ := h
 exact ⟨ok, h1, ⟨x, h2⟩, h3⟩
theorem Sp.ofAll {ps : List Part} (h : Sp w (Part.all ps :: F)) : Sp w (ps ++ F) := by
 obtain ⟨ok, h1, h2, h3⟩ := h
 exact Sep.app h2 h3 h1 (fun k hk => hk.1) (fun k hk hf => hf.2 hk)
theorem Sp.toAll {ps : List Part} (h : Sp w (ps ++ F)) : Sp w (Part.all ps :: F) := by
 obtain ⟨ok, h1, h2, h3⟩ := Sep.split h
 exact ⟨ok, h1, h2, h3⟩
theorem Sp.has (h : Sp w (a :: F)) : ∃ ok, a.P w ok := by
 obtain ⟨ok, _, h2, _⟩ := h
 exact ⟨ok, h2⟩
end
def Old (w0 : World) : Part where
 P := fun w ok => (∀ k, k < w0.heap.size → ok k) ∧ Below w0.heap.size w0 w
 mono := fun h hk => ⟨fun k hk0 => hk k (Nat.lt_of_lt_of_le hk0 h.2.size) (h.1 k hk0), h.2⟩
 move := fun h hm => ⟨h.1, h.2.trans ⟨hm.os, hm.tape, hm.output, hm.size, fun k hk => hm.block k (Nat.lt_of_lt_of_le hk h.2.size) (fun e => e (h.1 k hk))⟩⟩
theorem Sp.start (w : World) : Sp w [Old w] := ⟨fun k => k < w.heap.size, fun _ h => h, ⟨fun _ h => h, Below.refl _ _⟩, trivial⟩
theorem Sp.old {w w0 : World} {F : List Part} (h : Sp w (Old w0 :: F)) : Below w0.heap.size w0 w := (h.has).elim fun _ h => h.2
def Row {α : Type} (d : Kd α) (e : Nat) (v : Value) (xs : List α) : Part where
 P := fun w ok => d.R e w 0 ok v xs
 mono := fun h hk => R_mono (R_bound h) (fun k hk' => hk k hk'.2.2.1 hk'.1)
 move := fun h hm => R_step h (fun k ho hk => hm.block k hk (fun hn => hn ho))
theorem Sp.row {α : Type} {d : Kd α} {e : Nat} {v : Value} {xs : List α} {w : World} {F : List Part} (h : Sp w (Row d e v xs :: F)) : ∃ A c, v = .slice A xs.length c ∧ xs.length ≤ c ∧ d.C w A xs.length xs := (h.has).elim fun _ h => R_reads h
theorem Sp.made {α : Type} {d : Kd α} {e : Nat} {v : Value} {xs : List α} {w w' : World} {F : List Part} {ok : Nat → Prop} (h : Sp w F) (hb : Below w.heap.size w w') (hr : d.R e w' w.heap.size ok v xs) : Sp w' (Row d e v xs :: F) :=
 h.new (a := Row d e v xs) hb (R_lower (R_mono (R_bound hr) (fun k hk => ⟨hk.2.1, hk.2.2.1⟩)) (Nat.zero_le _))
def Blk (g : Nat) (o : Obj) : Part where
 P := fun w ok => ok g ∧ w.heap[g]? = some o
 mono := fun h hk => ⟨hk g (Array.getElem?_eq_some_iff.1 h.2).1 h.1, h.2⟩
 move := fun h hm => ⟨h.1, hm.blk h.2 (fun hn => hn h.1)⟩
theorem Sp.blk {g : Nat} {o : Obj} {w : World} {F : List Part} (h : Sp w (Blk g o :: F)) : w.heap[g]? = some o := (h.has).elim fun _ h => h.2
theorem Sp.box {w : World} {F : List Part} (h : Sp w F) (o : Obj) : Sp (w.alloc o) (Blk w.heap.size o :: F) :=
 h.new (a := Blk w.heap.size o) (below_alloc (Below.refl _ _) o) ⟨⟨Nat.le_refl _, by simp⟩, blk_new w o⟩
theorem setCell_blk {w : World} {g j : Nat} {cs : Array Value} {t : TypeId} {fz : Nat × Nat} (h : w.heap[g]? = some (.cells cs t fz)) (u : Value) : (w.setCell ⟨g, j, none⟩ u).heap[g]? = some (.cells (cs.setIfInBounds j u) t fz) := by
 simp only [World.setCell, Array.getElem?_modify, if_true, h, Option.map_some]
 rfl
theorem Sp.store {g : Nat} {cs : Array Value} {t : TypeId} {fz : Nat × Nat} {w : World} {F : List Part} (h : Sp w (Blk g (.cells cs t fz) :: F)) (j : Nat) (u : Value) : Sp (w.setCell ⟨g, j, none⟩ u) (Blk g (.cells (cs.setIfInBounds j u) t fz) :: F) := by
 obtain ⟨ok, h1, h2, h3⟩ := h.head1
 exact h3 _ _ ((Moved.refl w ok).set (fun _ => h2.1) u) ⟨.inl h2.1, setCell_blk h2.2 u⟩
def El {α : Type} (d : Kd α) (p : α) (cs : List Value) : Part where
 P := fun w ok => d.M w 0 ok p cs
 mono := fun h hk => d.M_mono (fun k hk' => hk k hk'.2.2.1 hk'.1) (d.M_bound h)
 move := fun h hm => Kd.M_step h (fun k ho hk => hm.block k hk (fun hn => hn ho))
section
variable {P : Program} {ops : Array Oper} {rest : List Oper} {o : Oper} {a : Act} {Q : Exit → Act → World → Prop} {α : Type}
theorem Sp.appended {d : Kd α} {e : TypeId} {W w1 : World} {F : List Part} {v v1 : Value} {ys : List α} {ok1 ok2 : Nat → Prop} (h1 : ∀ k, ok1 k → k < W.heap.size) (h2 : ∀ k, ok2 k → k < W.heap.size)
  (h3 : Sep W (fun k => (k < W.heap.size ∧ ¬ ok1 k) ∧ ¬ ok2 k) F) (hv : ∀ k, v.ownBlock = some k → ok1 k) (hr : d.R e w1 0 (fun k => ok1 k ∨ ok2 k ∨ W.heap.size ≤ k) v1 ys) (hg : W.grownBy w1 v.ownBlock) : Sp w1 (Row d e v1 ys :: F) := by
 refine ⟨fun k => (ok1 k ∨ ok2 k ∨ W.heap.size ≤ k) ∧ k < w1.heap.size, fun k hk => hk.2, R_mono (R_bound hr) (fun k hk => ⟨hk.1, hk.2.2.1⟩), ?_⟩
 refine (Sep.moved (Moved.of_grown hg (S := ok1) (fun i hi _ => hv i hi)) h3 (fun k _ hf => hf.1.2)).wide (fun k hk => ⟨Nat.lt_of_lt_of_le hk.1.1 hg.size, fun e => ?_⟩)
 rcases e.1 with e | e | e
 ·
  exact hk.1.2 e
 ·
  exact hk.2 e
 ·
  have := hk.1.1; omega
theorem Sp.append (d : Kd α) {W : World} {F : List Part} (hgd : o.guard = none) (s x : Operand) (t e : TypeId) (z : Value) (bytes : Nat)
  (ho : o.op = .call { callee := .builtin .append, args := #[s, x], argTypes := #[t, t] })
  (ht : P.underlying t = some (.slice e)) (hinfo : (P.info? e).map (fun i => (i.zero, i.size, i.bytes)) = some (some z, d.sz, bytes)) (hz : z.cells.size = d.sz) (hs0 : 0 < d.sz) (hb0 : 0 < bytes)
  (v : Value) (xs : List α) (p : α) (cs : List Value) (hs : a.eval s = v) (hx : a.eval x = .slice (some ⟨W.heap.size, 0, none⟩) 1 1)
  (hS : Sp W (Row d e v xs :: El d p cs :: F)) (hl : (xs.length + 1) * bytes ≤ 140737488355328)
  (h : ∀ v1 w1, Sp w1 (Row d e v1 (xs ++ [p]) :: F) → wpList P ops Q rest (a.put o.dst v1) w1) :
  wpList P ops Q (o :: rest) a (W.alloc (.cells cs.toArray e)) := by
 obtain ⟨ok1, h1, hr, ok2, h2, hp, h3⟩ := hS
 refine R_append d (w0 := W) 0 hgd s x t e z bytes ho ht hinfo hz hs0 hb0 v xs p cs (fun k => ok1 k ∨ ok2 k ∨ W.heap.size ≤ k) ok2 hs hx hp (fun k hk => ⟨.inr (.inl hk), fun e => (h2 k hk).2 (hr.1 k e.symm)⟩) (fun k hk => .inr (.inr hk)) (R_mono hr (fun k hk => .inl hk)) (Below.refl _ _) (Nat.zero_le _) hl ?_
 intro v1 w1 hr1 _ hg _
 exact h v1 w1 (Sp.appended h1 (fun k hk => (h2 k hk).1) h3 hr.1 hr1 hg)
theorem Sp.appendRow (d : Kd α) {W : World} {F : List Part} (hgd : o.guard = none) (s x : Operand) (t e : TypeId) (z : Value) (bytes : Nat)
  (ho : o.op = .call { callee := .builtin .append, args := #[s, x], argTypes := #[t, t] })
  (ht : P.underlying t = some (.slice e)) (hinfo : (P.info? e).map (fun i => (i.zero, i.size, i.bytes)) = some (some z, d.sz, bytes)) (hz : z.cells.size = d.sz) (hs0 : 0 < d.sz) (hb0 : 0 < bytes)
  (v : Value) (xs ys : List α) (A : Option Addr) (m c : Nat) (hs : a.eval s = v) (hx : a.eval x = .slice A m c)
  (hKM : ∀ x cs, d.K W x cs → d.M W 0 (fun _ => False) x cs) (hS : Sp W (Row d e v xs :: F)) (hR : d.C W A m ys) (hl : (xs.length + m) * bytes ≤ 140737488355328)
  (h : ∀ v1 w1, Sp w1 (Row d e v1 (xs ++ ys) :: F) → wpList P ops Q rest (a.put o.dst v1) w1) :
  wpList P ops Q (o :: rest) a W := by
 obtain ⟨ok1, h1, hr, h3⟩ := hS
 refine R_append_rows d (w0 := W) 0 hgd s x t e z bytes ho ht hinfo hz hs0 hb0 v xs ys A m c (fun k => ok1 k ∨ False ∨ W.heap.size ≤ k) (fun _ => False) hs hx (R_mono hr (fun k hk => .inl hk)) hR hKM (fun _ h => h.elim) (fun k hk => .inr (.inr hk)) (Below.refl _ _) (Nat.zero_le _) hl ?_
 intro v1 w1 hr1 _ hg _
 exact h v1 w1 (Sp.appended (ok2 := fun _ => False) h1 (fun k hk => hk.elim) (h3.wide (fun k hk => ⟨hk, fun e => e⟩)) hr.1 hr1 hg)
end
theorem Sp.elem {α : Type} {d : Kd α} {e g n cap : Nat} {w : World} {xs : List α} {F : List Part} (hS : Sp w (Row d e (.slice (some ⟨g, 0, none⟩) n cap) xs :: F)) (z : α) (i : Nat) (hi : i < n) :
  ∃ c, c.length = d.sz ∧ (∀ j u, c[j]? = some u → w.cell? ⟨g, i * d.sz + j, none⟩ = some u) ∧ (∀ j, w.frozen? ⟨g, i * d.sz + j, none⟩ = false) ∧ d.K w (xs.getD i z) c := by
 obtain ⟨ok, h2⟩ := hS.has
 obtain ⟨c, hcl, hM, hcc, hf⟩ := R_elem h2 z (i : Int) z4_ z4_
 simp only [Int.toNat_natCast] at hM hcc hf
 exact ⟨c, hcl, hcc, hf, d.K_of_M hM⟩
section
variable {P : Program} {ops : Array Oper} {o : Oper} {a : Act} {Q : Exit → Act → World → Prop} {Kc : Act → World → Prop} {α : Type}
theorem Sp.append_step (d : Kd α) {W : World} {F : List Part} (hw : Region.wanted o (yielded ops a.tmps) = true) (s x : Operand) (t e : TypeId) (z : Value) (bytes : Nat)
  (ho : o.op = .call { callee := .builtin .append, args := #[s, x], argTypes := #[t, t] })
  (ht : P.underlying t = some (.slice e)) (hinfo : (P.info? e).map (fun i => (i.zero, i.size, i.bytes)) = some (some z, d.sz, bytes)) (hz : z.cells.size = d.sz) (hs0 : 0 < d.sz) (hb0 : 0 < bytes)
  (v : Value) (xs : List α) (p : α) (cs : List Value) (hs : a.eval s = v) (hx : a.eval x = .slice (some ⟨W.heap.size, 0, none⟩) 1 1)
  (hS : Sp W (Row d e v xs :: El d p cs :: F)) (hl : (xs.length + 1) * bytes ≤ 140737488355328)
  (h : ∀ v1 w1, Sp w1 (Row d e v1 (xs ++ [p]) :: F) → Kc (a.put o.dst v1) w1) :
  if Region.wanted o (yielded ops a.tmps) = true then Oper.wp P o a (W.alloc (.cells cs.toArray e)) Kc Q else Kc (a.put o.dst undef) (W.alloc (.cells cs.toArray e)) := by
 obtain ⟨ok1, h1, hr, ok2, h2, hp, h3⟩ := hS
 refine R_append_step d (w0 := W) 0 hw s x t e z bytes ho ht hinfo hz hs0 hb0 v xs p cs (fun k => ok1 k ∨ ok2 k ∨ W.heap.size ≤ k) ok2 hs hx hp (fun k hk => ⟨.inr (.inl hk), fun e => (h2 k hk).2 (hr.1 k e.symm)⟩) (fun k hk => .inr (.inr hk)) (R_mono hr (fun k hk => .inl hk)) (Below.refl _ _) (Nat.zero_le _) hl ?_
 intro v1 w1 hr1 _ hg _
 exact h v1 w1 (Sp.appended h1 (fun k hk => (h2 k hk).1) h3 hr.1 hr1 hg)
end
theorem Sp.as {w : World} {a b : Part} {F : List Part} (h : Sp w (a :: F)) (hab : ∀ ok, a.P w ok → b.P w ok) : Sp w (b :: F) := by
 obtain ⟨ok, h1, h2, h3⟩ := h
 exact ⟨ok, h1, hab ok h2, h3⟩
end Go.Proofs.Ytjnjfogfpmeacaa.Sep
end
section
namespace Go.Proofs.Ytjnjfogfpmeacaa.Plain
open Go.RowKit PrintWords PrintLast PrintMore ZipT PrintWords.Kd PrintMore.Kd
set_option linter.unusedVariables false
set_option linter.unusedSimpArgs false
theorem w64 {x : Int} (h0 : -9223372036854775808 ≤ x) (h1 : x ≤ 9223372036854775807) : wrap64 x = x := by
 unfold wrap64; omega
theorem wu64 {x : Int} (h0 : 0 ≤ x) (h1 : x < 18446744073709551616) : IntKind.u64.wrap x = x := by
 simp [IntKind.wrap, IntKind.bits, IntKind.signed]; omega
theorem wi64 (x : Int) : IntKind.i64.wrap x = wrap64 x := by rw [IntKind.wrap_i64]; unfold wrap64; rfl
theorem u64_mod (x : Int) : IntKind.u64.wrap x = x % 18446744073709551616 := by
 simp [IntKind.wrap, IntKind.bits, IntKind.signed]
def Byte (b : Int) : Prop := 0 ≤ b ∧ b ≤ 255
def Bytes (l : List Int) : Prop := ∀ b ∈ l, Byte b
theorem Bytes.nil : Bytes [] := fun _ h => by cases h
theorem Bytes.cons {b : Int} {l : List Int} (h : Byte b) (k : Bytes l) : Bytes (b :: l) := fun x hx => by
 rcases List.mem_cons.1 hx with rfl | hx
 ·
  exact h
 ·
  exact k x hx
theorem Bytes.head {b : Int} {l : List Int} (h : Bytes (b :: l)) : Byte b := h b List.mem_cons_self
theorem Bytes.tail {b : Int} {l : List Int} (h : Bytes (b :: l)) : Bytes l := fun x hx => h x (List.mem_cons_of_mem _ hx)
theorem Bytes.append {a b : List Int} (h : Bytes a) (k : Bytes b) : Bytes (a ++ b) := fun x hx => by
 rcases List.mem_append.1 hx with hx | hx
 ·
  exact h x hx
 ·
  exact k x hx
theorem Bytes.take {a : List Int} (h : Bytes a) (n : Nat) : Bytes (a.take n) := fun x hx => h x (List.mem_of_mem_take hx)
theorem Bytes.drop {a : List Int} (h : Bytes a) (n : Nat) : Bytes (a.drop n) := fun x hx => h x (List.mem_of_mem_drop hx)
theorem Bytes.rd {l : List Int} (h : Bytes l) (i : Int) : Byte (rd l i) := by
 show Byte (l.getD i.toNat 0)
 rcases Nat.lt_or_ge i.toNat l.length with hi | hi
 ·
  rw [List.getD_eq_getElem?_getD, List.getElem?_eq_getElem hi]; exact h _ (List.getElem_mem hi)
 ·
  rw [List.getD_eq_getElem?_getD, List.getElem?_eq_none hi]; exact ⟨by decide, by decide⟩
def big (n : Int) : Nat → List Int
 | 0 => []
 | s + 1 => (n / 256 ^ s) % 256 :: big n s
def val : Int → List Int → Int
 | a, [] => a
 | a, b :: l => val (a * 256 + b) l
theorem big_length (n : Int) (s : Nat) : (big n s).length = s := by
 induction s with
 | zero => rfl
 | succ s ih => simp [big, ih]
theorem big_bytes (n : Int) (s : Nat) : Bytes (big n s) := by
 induction s with
 | zero => exact Bytes.nil
 | succ s ih =>
  refine Bytes.cons ⟨?_, ?_⟩ ih
  ·
   exact Int.emod_nonneg _ z5_
  ·
   have := Int.emod_lt_of_pos (n / 256 ^ s) (show (0 : Int) < 256 by decide); omega
theorem emod_mul' (n a b : Int) (ha : 0 < a) : n % (a * b) = (n / a % b) * a + n % a := by
 have h1 := Int.emod_add_mul_ediv n a
 have h2 := Int.emod_add_mul_ediv (n / a) b
 have h3 : n % (a * b) = n - a * b * (n / (a * b)) := by have := Int.emod_add_mul_ediv n (a * b); omega
 have h4 : n / (a * b) = n / a / b := (Int.ediv_ediv_of_nonneg z4_).symm
 rw [h3, h4]
 have h5 : a * (n / a) = a * (n / a % b) + a * (b * (n / a / b)) := by rw [← Int.mul_add]; exact congrArg (a * ·) h2.symm
 rw [Int.mul_assoc, Int.mul_comm (n / a % b)]
 omega
theorem pow_pos (s : Nat) : (0 : Int) < 256 ^ s := Int.pow_pos z5_
theorem val_big (n : Int) (s : Nat) (a : Int) : val a (big n s) = a * 256 ^ s + n % 256 ^ s := by
 induction s generalizing a with
 | zero => simp [big, val]
 | succ s ih =>
  have hp := pow_pos s
  have h1 : n % 256 ^ (s + 1) = (n / 256 ^ s % 256) * 256 ^ s + n % 256 ^ s := by
   have e : (256 : Int) ^ (s + 1) = 256 ^ s * 256 := Int.pow_succ _ _
   rw [e]; exact emod_mul' _ _ _ hp
  rw [big, val, ih, h1, Int.pow_succ]
  rw [Int.add_mul, Int.mul_assoc, Int.mul_comm 256]
  omega
end Go.Proofs.Ytjnjfogfpmeacaa.Plain
end
section
namespace Go.Proofs.Ytjnjfogfpmeacaa.Plain
open Go.RowKit PAll PrintWords PrintLast PrintMore ZipT PrintWords.Kd PrintMore.Kd
set_option linter.unusedVariables false
set_option linter.unusedSimpArgs false
theorem pow256 (s : Nat) : (2 : Int) ^ (8 * s) = 256 ^ s := by rw [Int.pow_mul]; rfl
theorem pow256_le {s : Nat} (h : s ≤ 7) : (256 : Int) ^ s ≤ 72057594037927936 := by
 have : s = 0 ∨ s = 1 ∨ s = 2 ∨ s = 3 ∨ s = 4 ∨ s = 5 ∨ s = 6 ∨ s = 7 := by omega
 rcases this with rfl | rfl | rfl | rfl | rfl | rfl | rfl | rfl <;> decide
theorem shr_bytes (n : Int) (i : Nat) (hi : i ≤ 8) : shr .i64 n (8 * i) = n / 256 ^ i := by
 unfold shr
 have h1 : (8 * (i : Int)).toNat = 8 * i := by omega
 rw [h1, Nat.min_eq_left (by simp [IntKind.bits]; omega), pow256]
theorem shl_bytes (i : Nat) (hi : i ≤ 7) : shl .i64 1 (8 * i) = 256 ^ i := by
 unfold shl
 have h1 : (8 * (i : Int)).toNat = 8 * i := by omega
 have h2 := pow256_le hi
 have h3 := pow_pos i
 rw [h1, Nat.min_eq_left (by simp [IntKind.bits]; omega), pow256, wi64, Int.one_mul, w64 z4_ z4_]
theorem clone_eq (l : List Int) (hl : l.length ≤ 1000000) : slices_Clone_byte_byte.f l = some l := by
 unfold slices_Clone_byte_byte.f
 simp only [Option.bind_some, List.length_nil, List.nil_append]
 rw [if_pos z4_]
theorem big_l0 (n : Int) (i : Nat) : ∀ (k : Nat) (out : List Int), i ≤ 8 → out.length + i ≤ 1000000 → i < k → wire_big.l0 k n out ((i : Int) - 1) = some (out ++ big n i) := by
 induction i with
 | zero =>
  intro k out _ _ hk
  obtain ⟨k, rfl⟩ : ∃ m, k = m + 1 := ⟨k - 1, by omega⟩
  simp only [wire_big.l0]
  rw [if_neg z4_]
  simp [big]
 | succ i ih =>
  intro k out hi ho hk
  obtain ⟨k, rfl⟩ : ∃ m, k = m + 1 := ⟨k - 1, by omega⟩
  simp only [wire_big.l0]
  have e : (((i + 1 : Nat) : Int) - 1) = (i : Int) := by omega
  rw [e, if_pos z4_, w64 z4_ z4_, if_pos z4_, if_pos z4_, shr_bytes n i z4_, w64 z4_ z4_, ih k _ z4_ (by simp; omega) z4_]
  simp [big]
theorem big_eq (k : Nat) (l : List Int) (n size : Int) (h0 : 0 ≤ size) (h1 : size ≤ 8) (hl : l.length ≤ 900000) (hk : 10 ≤ k) : wire_big.f k l n size = some (l ++ big n size.toNat) := by
 obtain ⟨s, rfl⟩ := Int.eq_ofNat_of_zero_le h0
 unfold wire_big.f
 rw [clone_eq l z4_, Option.bind_some, w64 z4_ z4_, Int.toNat_natCast]
 exact big_l0 n s k l z4_ z4_ z4_
def sPut (l : List Int) (n size : Int) : List Int × Int := if 1 ≤ size ∧ size ≤ 7 ∧ 0 ≤ n ∧ n < 256 ^ size.toNat then (l ++ big n size.toNat, 0) else ([], 1)
theorem put_eq (k : Nat) (l : List Int) (n size : Int) (hl : l.length ≤ 900000) (hk : 10 ≤ k) : wire_Put.f k l n size = some (sPut l n size) := by
 unfold wire_Put.f sPut
 by_cases h1 : size < 1
 ·
  rw [if_pos h1, if_neg z4_]
 rw [if_neg h1]
 by_cases h2 : size > 7
 ·
  rw [if_pos h2, if_neg z4_]
 rw [if_neg h2]
 by_cases h3 : n < 0
 ·
  rw [if_pos h3, if_neg z4_]
 obtain ⟨s, rfl⟩ := Int.eq_ofNat_of_zero_le (show 0 ≤ size by omega)
 rw [if_neg h3, w64 z4_ z4_, if_pos z4_, shl_bytes s z4_, Int.toNat_natCast]
 by_cases h4 : n ≥ 256 ^ s
 ·
  rw [if_pos h4, if_neg z4_]
 rw [if_neg h4, big_eq k l n s z4_ z4_ hl hk, Option.bind_some, Int.toNat_natCast, if_pos z4_]
def intB (n : Int) : List Int := if n < 0 then 1 :: big (-n) 8 else 0 :: big n 8
def sPutInt (l : List Int) (n : Int) : List Int × Int := if -1152921504606846976 ≤ n ∧ n ≤ 1152921504606846976 then (l ++ intB n, 0) else ([], 1)
theorem putInt_eq (k : Nat) (l : List Int) (n : Int) (hl : l.length ≤ 800000) (hk : 20 ≤ k) : wire_PutInt.f k l n = some (sPutInt l n) := by
 obtain ⟨k, rfl⟩ : ∃ m, k = m + 1 := ⟨k - 1, by omega⟩
 unfold wire_PutInt.f sPutInt
 by_cases h1 : n < -1152921504606846976
 ·
  rw [if_pos h1, if_neg z4_]
  simp [wire_PutInt.j0]
 rw [if_neg h1]
 by_cases h2 : n > 1152921504606846976
 ·
  rw [if_neg z4_]
  simp [wire_PutInt.j0, h2]
 rw [if_pos z4_]
 simp only [wire_PutInt.j0, h2, decide_false]
 rw [if_neg (by simp)]
 unfold intB
 by_cases h3 : n < 0
 ·
  rw [if_pos h3, if_pos h3, clone_eq l z4_, Option.bind_some, if_pos z4_, w64 z4_ z4_, big_eq k _ _ 8 z4_ z4_ (by simp; omega) z4_]
  simp
 rw [if_neg h3, if_neg h3, clone_eq l z4_, Option.bind_some, if_pos z4_, big_eq k _ _ 8 z4_ z4_ (by simp; omega) z4_]
 simp
def sPutText (l : List Int) (s : ByteArray) : List Int × Int := if s.size ≤ 24 then (l ++ (s.size : Int) :: bytesOf s, 0) else ([], 2)
theorem putText_eq (l : List Int) (s : ByteArray) (hl : l.length ≤ 800000) : wire_PutText.f l s = some (sPutText l s) := by
 unfold wire_PutText.f sPutText
 by_cases h1 : (s.size : Int) > 24
 ·
  rw [if_pos h1, if_neg z4_]
 rw [if_neg h1, if_pos z4_, clone_eq l z4_, Option.bind_some, if_pos z4_]
 simp only [Option.bind_some]
 rw [if_pos (by simp; omega), show ((s.size : Int) % 256) = s.size from by omega]
 simp
theorem val_nonneg (l : List Int) : ∀ a : Int, 0 ≤ a → Bytes l → 0 ≤ val a l := by
 induction l with
 | nil => intro a h _; exact h
 | cons b l ih =>
  intro a h hb
  have := hb.head
  exact ih _ (by unfold Byte at this; omega) hb.tail
theorem val_lt (l : List Int) : ∀ a : Int, 0 ≤ a → Bytes l → val a l < (a + 1) * 256 ^ l.length := by
 induction l with
 | nil => intro a h _; simp [val]; omega
 | cons b l ih =>
  intro a h hb
  have h1 := hb.head
  unfold Byte at h1
  have h2 := ih (a * 256 + b) z4_ hb.tail
  have h3 := pow_pos l.length
  rw [val]
  refine Int.lt_of_lt_of_le h2 ?_
  rw [List.length_cons, Int.pow_succ, Int.mul_comm ((256 : Int) ^ l.length), ← Int.mul_assoc]
  exact Int.mul_le_mul_of_nonneg_right z4_ z4_
theorem or_u64 (a b : Int) (h0 : 0 ≤ a) (h1 : a * 256 < 18446744073709551616) (hb : Byte b) : Go.bits .or .u64 (IntKind.u64.wrap (a * 256)) (IntKind.u64.wrap b) = a * 256 + b := by
 unfold Byte at hb
 rw [wu64 z4_ h1, wu64 z4_ z4_]
 exact bits_join .u64 64 z5_ (fun n h h' => wu64 h z4_) 8 _ _ z4_ z4_ z4_ z4_ z4_ z4_
theorem rd_drop {l : List Int} {i : Nat} {b : Int} {m : List Int} (h : l.drop i = b :: m) : rd l i = b := by
 have hi : i < l.length := by
  rcases Nat.lt_or_ge i l.length with h1 | h1
  ·
   exact h1
  ·
   rw [List.drop_eq_nil_of_le h1] at h; cases h
 show l.getD (i : Int).toNat 0 = b
 rw [List.getD_eq_getElem?_getD, Int.toNat_natCast, List.getElem?_eq_getElem hi]
 have := List.drop_eq_getElem_cons hi
 rw [this] at h
 injection h
theorem drop_tail {l : List Int} {i : Nat} {b : Int} {m : List Int} (h : l.drop i = b :: m) : l.drop (i + 1) = m := by
 have := congrArg List.tail h
 rwa [List.tail_drop] at this
theorem drop_lt {l : List Int} {i : Nat} {b : Int} {m : List Int} (h : l.drop i = b :: m) : i < l.length := by
 rcases Nat.lt_or_ge i l.length with h1 | h1
 ·
  exact h1
 ·
  rw [List.drop_eq_nil_of_le h1] at h; cases h
theorem drop_end {l : List Int} {i : Nat} (h : l.drop i = []) : l.length ≤ i := by
 rcases Nat.lt_or_ge i l.length with h1 | h1
 ·
  have := List.drop_eq_getElem_cons h1; rw [this] at h; cases h
 ·
  exact h1
theorem num_l0 (l : List Int) (hb : Bytes l) (m : List Int) : ∀ (k i : Nat) (a : Int), l.drop i = m → 0 ≤ a → (a + 1) * 256 ^ m.length ≤ 18446744073709551616 → i + m.length ≤ 1000 → m.length < k →
  wire_num.l0 k a l (l.length : Int) i = some (val a m) := by
 induction m with
 | nil =>
  intro k i a h h0 h1 hi hk
  obtain ⟨k, rfl⟩ : ∃ m, k = m + 1 := ⟨k - 1, by omega⟩
  have := drop_end h
  simp only [wire_num.l0]
  rw [if_neg z4_]
  rfl
 | cons b m ih =>
  intro k i a h h0 h1 hi hk
  obtain ⟨k, rfl⟩ : ∃ m, k = m + 1 := ⟨k - 1, by omega⟩
  have hlt := drop_lt h
  have hbb : Byte b := by have := hb.rd i; rw [rd_drop h] at this; exact this
  have hbb' := hbb
  unfold Byte at hbb'
  simp only [List.length_cons] at hi hk h1
  have hp := pow_pos m.length
  have h2 : (a * 256 + b + 1) * 256 ^ m.length ≤ 18446744073709551616 := by
   refine Int.le_trans ?_ h1
   rw [Int.pow_succ, Int.mul_comm ((256 : Int) ^ m.length), ← Int.mul_assoc]
   exact Int.mul_le_mul_of_nonneg_right z4_ z4_
  have h3 : (a * 256 + b + 1) * 1 ≤ (a * 256 + b + 1) * 256 ^ m.length := Int.mul_le_mul_of_nonneg_left z4_ z4_
  simp only [wire_num.l0]
  rw [if_pos z4_, if_pos z4_, if_pos z4_, rd_drop h, or_u64 a b h0 z4_ hbb, w64 z4_ z4_]
  exact ih k (i + 1) _ (drop_tail h) z4_ h2 z4_ z4_
theorem num_eq (k : Nat) (l : List Int) (hb : Bytes l) (hl : l.length ≤ 8) (hk : 10 ≤ k) : wire_num.f k l = some (val 0 l) := by
 unfold wire_num.f
 refine num_l0 l hb l k 0 0 rfl z4_ ?_ z4_ z4_
 have : l.length = 8 ∨ l.length ≤ 7 := by omega
 rcases this with h | h
 ·
  rw [h]; decide
 ·
  have := pow256_le h; omega
def sub (l : List Int) (a b : Nat) : List Int := (l.take b).drop a
theorem sub_length {l : List Int} {a b : Nat} (h : b ≤ l.length) : (sub l a b).length = b - a := by simp [sub]; omega
theorem sub_bytes {l : List Int} (h : Bytes l) (a b : Nat) : Bytes (sub l a b) := (h.take b).drop a
def sGet (l : List Int) (at_ size : Int) : Int × Int × Int :=
 if 1 ≤ size ∧ size ≤ 7 ∧ 0 ≤ at_ ∧ at_ ≤ l.length then (if l.length - at_ < size then (0, 0, 3) else (val 0 (sub l at_.toNat (at_ + size).toNat), at_ + size, 0)) else (0, 0, 1)
theorem val7 {l : List Int} (hb : Bytes l) (h : l.length ≤ 7) : 0 ≤ val 0 l ∧ val 0 l < 72057594037927936 := by
 have h1 := val_lt l 0 z4_ hb
 have h2 := pow256_le h
 exact ⟨val_nonneg l 0 z4_ hb, by omega⟩
theorem get_eq (k : Nat) (l : List Int) (at_ size : Int) (hb : Bytes l) (hl : l.length ≤ 1000000) (ha : at_ ≤ 9223372036854775807) (hk : 20 ≤ k) : wire_Get.f k l at_ size = some (sGet l at_ size) := by
 obtain ⟨k, rfl⟩ : ∃ m, k = m + 1 := ⟨k - 1, by omega⟩
 unfold wire_Get.f sGet
 by_cases h1 : size < 1
 ·
  rw [if_pos h1, if_neg z4_]; simp [wire_Get.j0]
 rw [if_neg h1]
 by_cases h2 : size > 7
 ·
  rw [if_pos h2, if_neg z4_]; simp [wire_Get.j0]
 rw [if_neg h2]
 by_cases h3 : at_ < 0
 ·
  rw [if_pos h3, if_neg z4_]; simp [wire_Get.j0]
 rw [if_neg h3]
 by_cases h4 : at_ > (l.length : Int)
 ·
  rw [if_neg z4_]; simp [wire_Get.j0, h4]
 rw [if_pos z4_]
 simp only [wire_Get.j0, h4, decide_false]
 rw [if_neg (by simp), w64 z4_ z4_]
 by_cases h5 : (l.length : Int) - at_ < size
 ·
  rw [if_pos h5, if_pos h5]
 have hs : (sub l at_.toNat (at_ + size).toNat).length ≤ 7 := by rw [sub_length z4_]; omega
 have hv := val7 (sub_bytes hb at_.toNat (at_ + size).toNat) hs
 rw [if_neg h5, if_neg h5, w64 z4_ z4_, if_pos z4_, if_pos z4_, if_pos z4_]
 have := num_eq k (sub l at_.toNat (at_ + size).toNat) (sub_bytes hb _ _) z4_ z4_
 unfold sub at this
 rw [this, Option.bind_some, ]
 unfold sub at hv
 rw [w64 z4_ z4_]
 rfl
def sGetInt (l : List Int) (at_ : Int) : Int × Int × Int :=
  if 0 ≤ at_ ∧ at_ ≤ l.length then
    (if l.length - at_ < 9 ∨ rd l at_ > 1 ∨ val 0 (sub l (at_ + 1).toNat (at_ + 9).toNat) > 1152921504606846976 ∨ (rd l at_ = 1 ∧ val 0 (sub l (at_ + 1).toNat (at_ + 9).toNat) = 0) then (0, 0, 3)
     else if rd l at_ = 1 then (-(val 0 (sub l (at_ + 1).toNat (at_ + 9).toNat)), at_ + 9, 0) else (val 0 (sub l (at_ + 1).toNat (at_ + 9).toNat), at_ + 9, 0))
  else (0, 0, 1)
theorem getInt_eq (k : Nat) (l : List Int) (at_ : Int) (hb : Bytes l) (hl : l.length ≤ 1000000) (ha : at_ ≤ 9223372036854775807) (hk : 20 ≤ k) : wire_GetInt.f k l at_ = some (sGetInt l at_) := by
 obtain ⟨k, rfl⟩ : ∃ m, k = m + 3 := ⟨k - 3, by omega⟩
 unfold wire_GetInt.f sGetInt
 by_cases h1 : at_ < 0
 ·
  rw [if_pos h1, if_neg z4_]; simp [wire_GetInt.j0]
 rw [if_neg h1]
 by_cases h2 : at_ > (l.length : Int)
 ·
  rw [if_neg z4_]; simp [wire_GetInt.j0, h2]
 rw [if_pos z4_]
 simp only [wire_GetInt.j0, h2, decide_false]
 rw [if_neg (by simp), w64 z4_ z4_]
 by_cases h3 : (l.length : Int) - at_ < 9
 ·
  rw [if_pos h3, if_pos (Or.inl h3)]; simp [wire_GetInt.j1]
 rw [if_neg h3, if_pos z4_, if_pos z4_]
 by_cases h4 : rd l at_ > 1
 ·
  rw [if_pos (Or.inr (Or.inl h4))]; simp [wire_GetInt.j1, h4]
 have hs : (sub l (at_ + 1).toNat (at_ + 9).toNat).length = 8 := by rw [sub_length z4_]; omega
 have hn := fun k' (hk' : 10 ≤ k') => num_eq k' (sub l (at_ + 1).toNat (at_ + 9).toNat) (sub_bytes hb _ _) z4_ hk'
 have hv := val_nonneg (sub l (at_ + 1).toNat (at_ + 9).toNat) 0 z4_ (sub_bytes hb _ _)
 have hr := hb.rd at_
 unfold Byte at hr
 simp only [wire_GetInt.j1, h4, decide_false]
 rw [if_neg (by simp), w64 z4_ z4_, w64 z4_ z4_, if_pos z4_, if_pos z4_, if_pos z4_]
 generalize hV : val 0 (sub l (at_ + 1).toNat (at_ + 9).toNat) = V at *
 unfold sub at hn
 rw [hn _ z4_, Option.bind_some]
 by_cases h5 : V > 1152921504606846976
 ·
  rw [if_pos h5, if_pos z4_]; simp [wire_GetInt.j2]
 rw [if_neg h5, if_pos z4_, if_pos z4_]
 by_cases h6 : rd l at_ = 1
 rotate_left
 ·
  rw [if_neg h6, if_neg (by simp; omega), if_neg h6]
  simp only [wire_GetInt.j2]
  rw [if_neg (by simp), if_pos z4_, if_pos z4_, if_neg h6, w64 (x := V) z4_ z4_, w64 (x := at_ + 9) z4_ z4_]
 rw [if_pos h6]
 by_cases h7 : V = 0
 ·
  rw [if_pos z4_]; simp [wire_GetInt.j2, h7]
 have h7' : (V == 0) = false := by simpa using h7
 rw [if_neg (by simp; omega), if_pos h6]
 simp only [wire_GetInt.j2, h7']
 rw [if_neg (by simp), if_pos z4_, if_pos z4_, if_pos h6, w64 (x := V) z4_ z4_, w64 (x := -V) z4_ z4_, w64 (x := at_ + 9) z4_ z4_]
def sGetText (l : List Int) (at_ : Int) : ByteArray × Int × Int :=
  if 0 ≤ at_ ∧ at_ ≤ l.length then
    (if at_ = l.length ∨ rd l at_ > 24 ∨ l.length - at_ - 1 < rd l at_ then (⟨#[]⟩, 0, 3)
     else (strOfNums (sub l (at_ + 1).toNat (at_ + 1 + rd l at_).toNat), at_ + 1 + rd l at_, 0))
  else (⟨#[]⟩, 0, 1)
theorem getText_eq (k : Nat) (l : List Int) (at_ : Int) (hb : Bytes l) (hl : l.length ≤ 1000000) (ha : at_ ≤ 9223372036854775807) (hk : 20 ≤ k) : wire_GetText.f k l at_ = some (sGetText l at_) := by
 obtain ⟨k, rfl⟩ : ∃ m, k = m + 1 := ⟨k - 1, by omega⟩
 unfold wire_GetText.f sGetText
 by_cases h1 : at_ < 0
 ·
  rw [if_pos h1, if_neg z4_]; simp [wire_GetText.j0]
 rw [if_neg h1]
 by_cases h2 : at_ > (l.length : Int)
 ·
  rw [if_neg z4_]; simp [wire_GetText.j0, h2]
 rw [if_pos z4_]
 simp only [wire_GetText.j0, h2, decide_false]
 rw [if_neg (by simp)]
 by_cases h3 : at_ = (l.length : Int)
 ·
  rw [if_pos h3, if_pos (Or.inl h3)]
 have hr := hb.rd at_
 unfold Byte at hr
 rw [if_neg h3, if_pos z4_, if_pos z4_, w64 z4_ z4_]
 by_cases h4 : rd l at_ > 24
 ·
  rw [if_pos h4, if_pos (Or.inr (Or.inl h4))]
 rw [if_neg h4, w64 (x := (l.length : Int) - at_) z4_ z4_, w64 z4_ z4_]
 by_cases h5 : (l.length : Int) - at_ - 1 < rd l at_
 ·
  rw [if_pos h5, if_pos (Or.inr (Or.inr h5))]
 rw [if_neg h5, w64 (x := at_ + 1) z4_ z4_, w64 (x := at_ + 1 + rd l at_) z4_ z4_, if_pos z4_, if_pos z4_, if_pos z4_, if_neg z4_]
 rfl
end Go.Proofs.Ytjnjfogfpmeacaa.Plain
end
section
namespace Go.Proofs.Ytjnjfogfpmeacaa.Plain
open Go.RowKit PAll PrintWords PrintLast PrintMore ZipT PrintWords.Kd PrintMore.Kd
set_option linter.unusedVariables false
set_option linter.unusedSimpArgs false
theorem strOfNums_bytesOf (s : ByteArray) : strOfNums (bytesOf s) = s := by
 unfold strOfNums bytesOf
 rw [List.map_map]
 have : (fun n : Int => UInt8.ofNat n.toNat) ∘ (fun b : UInt8 => (b.toNat : Int)) = id := by
  funext b; simp
 rw [this, List.map_id]
theorem bytesOf_bytes (s : ByteArray) : Bytes (bytesOf s) := by
 intro b hb
 unfold bytesOf at hb
 obtain ⟨c, _, rfl⟩ := List.mem_map.1 hb
 have := c.toNat_lt
 exact ⟨by omega, by omega⟩
theorem bytesOf_strOfNums {l : List Int} (h : Bytes l) : bytesOf (strOfNums l) = l := by
 unfold strOfNums bytesOf
 simp only [List.map_map]
 induction l with
 | nil => rfl
 | cons b l ih =>
  have hb := h.head
  unfold Byte at hb
  rw [List.map_cons, ih h.tail]
  congr 1
  simp
  omega
theorem strOfNums_size (l : List Int) : (strOfNums l).size = l.length := by
 unfold strOfNums; simp [ByteArray.size]
theorem intB_length (n : Int) : (intB n).length = 9 := by unfold intB; split <;> simp [big_length]
theorem intB_bytes (n : Int) : Bytes (intB n) := by
 unfold intB
 split
 ·
  exact Bytes.cons ⟨by decide, by decide⟩ (big_bytes _ _)
 ·
  exact Bytes.cons ⟨by decide, by decide⟩ (big_bytes _ _)
theorem sub_mid (a b c : List Int) {i j : Nat} (hi : i = a.length) (hj : j = a.length + b.length) : sub (a ++ b ++ c) i j = b := by
 subst hi hj
 unfold sub
 rw [List.take_append_of_le_length (by simp), ← List.length_append, List.take_length, List.drop_left]
theorem rd_mid (a : List Int) (b : Int) (c : List Int) {i : Int} (hi : i = a.length) : rd (a ++ b :: c) i = b := by
 subst hi
 exact rd_drop (m := c) (by rw [List.drop_left])
theorem pow8 : (256 : Int) ^ 8 = 18446744073709551616 := by decide
theorem val_big8 {n : Int} (h0 : 0 ≤ n) (h1 : n < 18446744073709551616) : val 0 (big n 8) = n := by
 rw [val_big, pow8]; omega
theorem getInt_put (a c : List Int) (n : Int) (h0 : -1152921504606846976 ≤ n) (h1 : n ≤ 1152921504606846976) :
  sGetInt (a ++ intB n ++ c) a.length = (n, (a.length : Int) + 9, 0) := by
 unfold sGetInt
 have hl : (a ++ intB n ++ c).length = a.length + 9 + c.length := by simp [intB_length]; omega
 rw [if_pos z4_]
 by_cases h : n < 0
 rotate_left
 ·
  have e : a ++ intB n ++ c = a ++ 0 :: (big n 8 ++ c) := by unfold intB; rw [if_neg h]; simp
  have e2 : a ++ intB n ++ c = (a ++ [0]) ++ big n 8 ++ c := by unfold intB; rw [if_neg h]; simp
  have hs : sub (a ++ intB n ++ c) ((a.length : Int) + 1).toNat ((a.length : Int) + 9).toNat = big n 8 := by
   rw [e2]; exact sub_mid _ _ _ (by simp <;> omega) (by simp [big_length] <;> omega)
  have hr : rd (a ++ intB n ++ c) (a.length : Int) = 0 := by rw [e]; exact rd_mid _ _ _ rfl
  rw [hs, val_big8 z4_ z4_, hr, if_neg z4_, if_neg z5_]
 have e : a ++ intB n ++ c = a ++ 1 :: (big (-n) 8 ++ c) := by unfold intB; rw [if_pos h]; simp
 have e2 : a ++ intB n ++ c = (a ++ [1]) ++ big (-n) 8 ++ c := by unfold intB; rw [if_pos h]; simp
 have hs : sub (a ++ intB n ++ c) ((a.length : Int) + 1).toNat ((a.length : Int) + 9).toNat = big (-n) 8 := by
  rw [e2]; exact sub_mid _ _ _ (by simp <;> omega) (by simp [big_length] <;> omega)
 have hr : rd (a ++ intB n ++ c) (a.length : Int) = 1 := by rw [e]; exact rd_mid _ _ _ rfl
 rw [hs, val_big8 z4_ z4_, hr, if_neg z4_, if_pos rfl]
 simp
theorem get_put (a c : List Int) (n : Int) (s : Nat) (hs0 : 1 ≤ s) (hs : s ≤ 7) (h0 : 0 ≤ n) (h1 : n < 256 ^ s) :
  sGet (a ++ big n s ++ c) a.length s = (n, (a.length : Int) + s, 0) := by
 unfold sGet
 have hl : (a ++ big n s ++ c).length = a.length + s + c.length := by simp [big_length]; omega
 rw [if_pos z4_, if_neg z4_, sub_mid _ _ _ z4_ (by simp [big_length]; omega), val_big]
 simp
 exact Int.emod_eq_of_lt h0 h1
theorem getText_put (a c : List Int) (s : ByteArray) (h : s.size ≤ 24) :
  sGetText (a ++ (s.size : Int) :: bytesOf s ++ c) a.length = (s, (a.length : Int) + 1 + s.size, 0) := by
 unfold sGetText
 have hl : (a ++ (s.size : Int) :: bytesOf s ++ c).length = a.length + 1 + s.size + c.length := by simp [bytesOf_length]; omega
 have e : a ++ (s.size : Int) :: bytesOf s ++ c = a ++ (s.size : Int) :: (bytesOf s ++ c) := by simp
 have e2 : a ++ (s.size : Int) :: bytesOf s ++ c = (a ++ [(s.size : Int)]) ++ bytesOf s ++ c := by simp
 have hr : rd (a ++ (s.size : Int) :: bytesOf s ++ c) (a.length : Int) = s.size := by rw [e]; exact rd_mid _ _ _ rfl
 have hs : sub (a ++ (s.size : Int) :: bytesOf s ++ c) ((a.length : Int) + 1).toNat ((a.length : Int) + 1 + s.size).toNat = bytesOf s := by
  rw [e2]; exact sub_mid _ _ _ (by simp <;> omega) (by simp [bytesOf_length] <;> omega)
 rw [if_pos z4_, hr, if_neg z4_, hs, strOfNums_bytesOf]
end Go.Proofs.Ytjnjfogfpmeacaa.Plain
end
