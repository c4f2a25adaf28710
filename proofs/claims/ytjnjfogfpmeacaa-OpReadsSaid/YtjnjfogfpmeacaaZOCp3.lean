-- Put together by a program of this session (wip/slice2.py) out of the seat's texts.
import Derived.Test.YtjnjfogfpmeacaaZOCp2

set_option maxHeartbeats 8000000
set_option maxRecDepth 100000
open Go.Proofs.YtjnjfogfpmeacaaW Go.Proofs.Ytjnjfogfpmeacaa
section
namespace Go.Proofs.Ytjnjfogfpmeacaa.PAll
open Go.RowKit PrintWords PrintLast PrintMore ZipT PrintWords.Kd PrintMore.Kd
attribute [local go_sem] max2_int min2_int max_two min_two max_three min_three max_four min_four   -- for this text's walks alone
set_option linter.unusedVariables false
set_option linter.unusedSimpArgs false
def op_right.j0 : Nat → List (S51) → Bool → Int → Int → List Int → Int → Int → Int → Int → Int → ByteArray → Int → List (S84) → List (S25) → Option (Bool)
 | 0, _, _, _, _, _, _, _, _, _, _, _, _, _, _ => none
 | k + 1, x1, x29, x328000, x328001, x328002, x328003, x328004, x328005, x328006, x328007, x328008, x328009, x328010, x328011 => if x29 = true then (some false) else (if 0 ≤ x328007 then (if x328007 < (x1.length : Int) then (if x328006 = 1 then ((op_small.f k x328010 ((rd_T51 x1 x328007).f0)).bind fun t331 => (if t331 = true then (if x328009 = 0 then (some ((x328011.length : Int) == 0)) else (some false)) else (some false))) else (if x328006 = 2 then (if x328009 ≥ 0 then (if x328009 < (((rd_T51 x1 x328007).f0).length : Int) then (if 0 ≤ x328009 then (if x328009 ≤ (wrap64 (x328009 + 1)) then (if (wrap64 (x328009 + 1)) ≤ (((rd_T51 x1 x328007).f0).length : Int) then ((op_small.f k x328010 ((((rd_T51 x1 x328007).f0).take ((wrap64 (x328009 + 1)) : Int).toNat).drop (x328009 : Int).toNat)).bind fun t333 => (if t333 = true then (some ((x328011.length : Int) == 0)) else (some false))) else (none)) else (none)) else (none)) else (some false)) else (some false)) else (if x328006 = 3 then (if (x328011.length : Int) ≥ 1 then (if (x328011.length : Int) ≤ 64 then ((op_had.f k x328002 x328011).bind fun t334 => (if t334 = true then (if x328009 = 0 then (some ((x328010.length : Int) == 0)) else (some false)) else (some false))) else (some false)) else (some false)) else (some false)))) else (none)) else (none))
def op_right.f (k : Nat) (a0 : Int) (l1 : List (S51)) (a2_0 : Int) (a2_1 : Int) (l2_2 : List Int) (a2_3 : Int) (a2_4 : Int) (a2_5 : Int) (a2_6 : Int) (a2_7 : Int) (a2_8 : ByteArray) (a2_9 : Int) (l2_10 : List (S84)) (l2_11 : List (S25)) : Option (Bool) := (op_whole.f k a0 a2_0 a2_1 l2_2 a2_3 a2_4 a2_5 a2_6 a2_7 a2_8 a2_9 l2_10 l2_11).bind fun t328 => (if t328 = true then (if a2_7 < 0 then (op_right.j0 k l1 true a2_0 a2_1 l2_2 a2_3 a2_4 a2_5 a2_6 a2_7 a2_8 a2_9 l2_10 l2_11) else (if a2_7 ≥ (l1.length : Int) then (op_right.j0 k l1 true a2_0 a2_1 l2_2 a2_3 a2_4 a2_5 a2_6 a2_7 a2_8 a2_9 l2_10 l2_11) else ((op_Key.f a2_8).bind fun t329 => (op_right.j0 k l1 (!t329) a2_0 a2_1 l2_2 a2_3 a2_4 a2_5 a2_6 a2_7 a2_8 a2_9 l2_10 l2_11)))) else (op_right.j0 k l1 true a2_0 a2_1 l2_2 a2_3 a2_4 a2_5 a2_6 a2_7 a2_8 a2_9 l2_10 l2_11))
def op_right.T8 : Bool × List (List Nat × List Nat) := (true, [([], []), ([0], [0]), ([1], [1]), ([2], [2]), ([3], [3]), ([4, 3], [3, 4]), ([3], [3]), ([6, 3], [3, 6]), ([5, 7, 3], [3, 5, 7]), ([3, 8], [3, 8]), ([9, 3], [9]), ([10], [10]), ([11, 10], [10, 11]), ([10], [10]), ([10], [10]), ([14, 10], [10, 14]), ([10], [10]), ([16, 10], [10, 16]), ([17, 10], [10, 17]), ([13, 15, 18, 10], [10, 13, 15, 18]), ([12, 19, 10, 10], [10, 12, 19]), ([10, 20], [10, 20]), ([21, 20], [21]), ([22], [22]), ([23, 22], [22, 23]), ([24, 22], [22, 24]), ([25, 22], [22, 25]), ([22, 26], [22, 26]), ([27, 22, 0, 1, 2, 3, 4, 5, 6, 7, 8, 9, 10, 11, 12, 13, 14, 15, 16, 17, 18, 19, 20, 21, 22, 23, 24, 25, 26, 27], [27])])
def op_right.B8 : List Nat := [0, 1, 3, 7, 15, 31, 15, 79, 255, 511, 1023, 2047, 4095, 2047, 2047, 18431, 2047, 67583, 198655, 518143, 1048575, 2097151, 4194303, 8388607, 16777215, 33554431, 67108863, 134217727, 268435455]
theorem op_right.tab8 : rtab .any (opsOf Try.f36 8) = op_right.T8 := by kernel_rfl
theorem op_right.bits8 : waitsOk op_right.T8.2 op_right.B8 = true := by kernel_rfl
theorem op_right.calls (k : Nat) (a0 : Int) (A1 : Option Addr) (c1 : Nat) (l1 : List (S51)) (a2_0 : Int) (a2_1 : Int) (A2_2 : Option Addr) (c2_2 : Nat) (l2_2 : List Int) (a2_3 : Int) (a2_4 : Int) (a2_5 : Int) (a2_6 : Int) (a2_7 : Int) (a2_8 : ByteArray) (a2_9 : Int) (A2_10 : Option Addr) (c2_10 : Nat) (l2_10 : List (S84)) (A2_11 : Option Addr) (c2_11 : Nat) (l2_11 : List (S25)) (r : Bool) (w : World) (hr1 : Kd.C k51 w A1 l1.length l1) (hc1 : l1.length ≤ c1) (hr2_2 : Kd.C (Kd.int .i64) w A2_2 l2_2.length l2_2) (hc2_2 : l2_2.length ≤ c2_2) (hr2_10 : Kd.C k84 w A2_10 l2_10.length l2_10) (hc2_10 : l2_10.length ≤ c2_10) (hr2_11 : Kd.C k25 w A2_11 l2_11.length l2_11) (hc2_11 : l2_11.length ≤ c2_11) (h : op_right.f k a0 l1 a2_0 a2_1 l2_2 a2_3 a2_4 a2_5 a2_6 a2_7 a2_8 a2_9 l2_10 l2_11 = some r) :
  Calls Try.prog 36 #[.int .i64 a0, .slice A1 l1.length c1, .agg #[.int .i64 a2_0, .int .i64 a2_1, .slice A2_2 l2_2.length c2_2, .int .i64 a2_3, .int .i64 a2_4, .int .i64 a2_5, .int .i64 a2_6, .int .i64 a2_7, .string a2_8, .int .i64 a2_9, .slice A2_10 l2_10.length c2_10, .slice A2_11 l2_11.length c2_11]] w fun e w' => e = .returned (.bool r) ∧ Below w.heap.size w w' := by
 have hu32 := Try.underlying32
 have HR1 := mk_ hr1
 have HC1 := mk_ hc1
 clear hr1 hc1
 have HR2_2 := mk_ hr2_2
 have HC2_2 := mk_ hc2_2
 clear hr2_2 hc2_2
 have HR2_10 := mk_ hr2_10
 have HC2_10 := mk_ hc2_10
 clear hr2_10 hc2_10
 have HR2_11 := mk_ hr2_11
 have HC2_11 := mk_ hc2_11
 clear hr2_11 hc2_11
 have HB := mk_ (Below.refl w.heap.size w)
 have H : ((op_whole.f k a0 a2_0 a2_1 l2_2 a2_3 a2_4 a2_5 a2_6 a2_7 a2_8 a2_9 l2_10 l2_11).bind fun t328 => (if t328 = true then (if a2_7 < 0 then (op_right.j0 k l1 true a2_0 a2_1 l2_2 a2_3 a2_4 a2_5 a2_6 a2_7 a2_8 a2_9 l2_10 l2_11) else (if a2_7 ≥ (l1.length : Int) then (op_right.j0 k l1 true a2_0 a2_1 l2_2 a2_3 a2_4 a2_5 a2_6 a2_7 a2_8 a2_9 l2_10 l2_11) else ((op_Key.f a2_8).bind fun t329 => (op_right.j0 k l1 (!t329) a2_0 a2_1 l2_2 a2_3 a2_4 a2_5 a2_6 a2_7 a2_8 a2_9 l2_10 l2_11)))) else (op_right.j0 k l1 true a2_0 a2_1 l2_2 a2_3 a2_4 a2_5 a2_6 a2_7 a2_8 a2_9 l2_10 l2_11))) = some r := h
 clear h
 have HC4 := mk_ H
 clear H
 go_enter Try.func36, Try.ntmps36
 go_upto_region 1 with (first | ((with_reducible refine gate_dst (N := 5) rfl ?_); (try (refine gate_guard (by rfl) ?_; dsimp only)); refine box_event ?hg (N := 5) ?hd (cs := #[.int .i64 a2_0, .int .i64 a2_1, .slice A2_2 l2_2.length c2_2, .int .i64 a2_3, .int .i64 a2_4, .int .i64 a2_5, .int .i64 a2_6, .int .i64 a2_7, .string a2_8, .int .i64 a2_9, .slice A2_10 l2_10.length c2_10, .slice A2_11 l2_11.length c2_11]) (t := 32) ?hr ?_; (case hd => rfl); (case hg => rfl); (case hr => first | (go_simp; done) | (go_simp; rfl)); intro gb327 hg w5 hbox hb; have n0_ := mk_ (below_step (Short.hB HB) hb); have n1_ := mk_ (hbox); have n2_ := mk_ ((by rw [hg]; exact (below_size (Short.hB HB)) : w.heap.size ≤ gb327)); have n3_ := mk_ ((by rw [hg]; exact (below_size (Short.hB HB)) : w.heap.size ≤ gb327)); clear HB; revert n0_ n1_ n2_ n3_; intro HB BK327 GW327 GE327; clear hb hbox hg))
 (try simp only [Act.put, List.setIfInBounds_toArray, List.set_cons_zero, List.set_cons_succ])
 go_cut [29] (fun v29 wc => ∃ (kq : Nat) (x29_3 : Bool), v29 = .bool x29_3 ∧ Aside0 (op_right.j0 kq l1 x29_3 a2_0 a2_1 l2_2 a2_3 a2_4 a2_5 a2_6 a2_7 a2_8 a2_9 l2_10 l2_11 = some r) ∧ Aside0 (kq ≤ k) ∧ Aside0 (wc.heap[gb327]? = some (.cells #[.int .i64 a2_0, .int .i64 a2_1, (.slice A2_2 l2_2.length c2_2), .int .i64 a2_3, .int .i64 a2_4, .int .i64 a2_5, .int .i64 a2_6, .int .i64 a2_7, .string a2_8, .int .i64 a2_9, (.slice A2_10 l2_10.length c2_10), (.slice A2_11 l2_11.length c2_11)] 32 (0, 0))) ∧ Aside0 (Below w.heap.size w wc))
 case first =>
  have H := HC4.out
  clear HC4
  replace H := Option.bind_eq_some_iff.mp H
  obtain ⟨t328, A60, H⟩ := H
  replace H : (if t328 = true then (if a2_7 < 0 then (op_right.j0 k l1 true a2_0 a2_1 l2_2 a2_3 a2_4 a2_5 a2_6 a2_7 a2_8 a2_9 l2_10 l2_11) else (if a2_7 ≥ (l1.length : Int) then (op_right.j0 k l1 true a2_0 a2_1 l2_2 a2_3 a2_4 a2_5 a2_6 a2_7 a2_8 a2_9 l2_10 l2_11) else ((op_Key.f a2_8).bind fun t329 => (op_right.j0 k l1 (!t329) a2_0 a2_1 l2_2 a2_3 a2_4 a2_5 a2_6 a2_7 a2_8 a2_9 l2_10 l2_11)))) else (op_right.j0 k l1 true a2_0 a2_1 l2_2 a2_3 a2_4 a2_5 a2_6 a2_7 a2_8 a2_9 l2_10 l2_11)) = some r := H
  have A6 := mk_ A60
  clear A60
  by_cases c7 : t328 = true
  rotate_left
  ·
   replace c7 := Bool.eq_false_iff.mpr c7
   subst c7
   rw [if_neg (show ¬ (false = true) by decide)] at H
   have H' := mk_ H
   clear H
   have hcz20_0 : w5.cell? ⟨gb327, 0, none⟩ = some (.int .i64 a2_0) := kc_ BK327 0
   have hcz20_1 : w5.cell? ⟨gb327, 1, none⟩ = some (.int .i64 a2_1) := kc_ BK327 1
   have hcz20_2 : w5.cell? ⟨gb327, 2, none⟩ = some (.slice A2_2 l2_2.length c2_2) := kc_ BK327 2
   have hcz20_3 : w5.cell? ⟨gb327, 3, none⟩ = some (.int .i64 a2_3) := kc_ BK327 3
   have hcz20_4 : w5.cell? ⟨gb327, 4, none⟩ = some (.int .i64 a2_4) := kc_ BK327 4
   have hcz20_5 : w5.cell? ⟨gb327, 5, none⟩ = some (.int .i64 a2_5) := kc_ BK327 5
   have hcz20_6 : w5.cell? ⟨gb327, 6, none⟩ = some (.int .i64 a2_6) := kc_ BK327 6
   have hcz20_7 : w5.cell? ⟨gb327, 7, none⟩ = some (.int .i64 a2_7) := kc_ BK327 7
   have hcz20_8 : w5.cell? ⟨gb327, 8, none⟩ = some (.string a2_8) := kc_ BK327 8
   have hcz20_9 : w5.cell? ⟨gb327, 9, none⟩ = some (.int .i64 a2_9) := kc_ BK327 9
   have hcz20_10 : w5.cell? ⟨gb327, 10, none⟩ = some (.slice A2_10 l2_10.length c2_10) := kc_ BK327 10
   have hcz20_11 : w5.cell? ⟨gb327, 11, none⟩ = some (.slice A2_11 l2_11.length c2_11) := kc_ BK327 11
   have hfz20_0 := blk_frozen BK327.out 0
   have hfz20_1 := blk_frozen BK327.out 1
   have hfz20_2 := blk_frozen BK327.out 2
   have hfz20_3 := blk_frozen BK327.out 3
   have hfz20_4 := blk_frozen BK327.out 4
   have hfz20_5 := blk_frozen BK327.out 5
   have hfz20_6 := blk_frozen BK327.out 6
   have hfz20_7 := blk_frozen BK327.out 7
   have hfz20_8 := blk_frozen BK327.out 8
   have hfz20_9 := blk_frozen BK327.out 9
   have hfz20_10 := blk_frozen BK327.out 10
   have hfz20_11 := blk_frozen BK327.out 11
   go_wp2_with (first | ((with_reducible refine gate_callee (f := 73) rfl ?_); refine Short.gL (some 10) Try.func73 #[.int .i64 a0, .agg #[.int .i64 a2_0, .int .i64 a2_1, .slice A2_2 l2_2.length c2_2, .int .i64 a2_3, .int .i64 a2_4, .int .i64 a2_5, .int .i64 a2_6, .int .i64 a2_7, .string a2_8, .int .i64 a2_9, .slice A2_10 l2_10.length c2_10, .slice A2_11 l2_11.length c2_11]] (h := ?_); (with_reducible refine (op_whole.calls k a0 a2_0 a2_1 _ _ l2_2 a2_3 a2_4 a2_5 a2_6 a2_7 a2_8 a2_9 _ _ l2_10 _ _ l2_11 false _ ?side1 ?side2 ?side3 ?side4 ?side5 ?side6 A6.out).mono ?_); (case side1 => exact cX_ (C_below HR2_2.out HB.out)); (case side2 => exact HC2_2.out); (case side3 => exact cX_ (C_below HR2_10.out HB.out)); (case side4 => exact HC2_10.out); (case side5 => exact cX_ (C_below HR2_11.out HB.out)); (case side6 => exact HC2_11.out); rintro e w21 ⟨rfl, hb⟩; refine ⟨_, rfl, ?_⟩; have n0_ := mk_ (bB_ BK327 hb); have n1_ := mk_ (below_step (Short.hB HB) hb); clear BK327 HB; revert n0_ n1_; intro BK327 HB; (try clear hb)))
   go_meet
   case rel => exact ⟨_, (true), z3, H', ⟨by first | omega | exact Nat.le_refl _⟩, ⟨by (with_reducible repeat (first | refine blk_drewN ?_ _ | refine blk_drew ?_ | refine blk_alloc ?_ _)); exact BK327.out⟩, ⟨Short.hB HB⟩⟩
  subst c7
  rw [if_pos rfl] at H
  by_cases c8 : a2_7 < 0
  ·
   rw [if_pos c8] at H
   have c8b0 : decide (a2_7 < 0) = true := decide_eq_true c8
   clear c8
   (first | rw [c8b0] | (simp only [i64_w, i32_w]; rw [c8b0]) | skip)
   have H' := mk_ H
   clear H
   have hcz9_0 : w5.cell? ⟨gb327, 0, none⟩ = some (.int .i64 a2_0) := kc_ BK327 0
   have hcz9_1 : w5.cell? ⟨gb327, 1, none⟩ = some (.int .i64 a2_1) := kc_ BK327 1
   have hcz9_2 : w5.cell? ⟨gb327, 2, none⟩ = some (.slice A2_2 l2_2.length c2_2) := kc_ BK327 2
   have hcz9_3 : w5.cell? ⟨gb327, 3, none⟩ = some (.int .i64 a2_3) := kc_ BK327 3
   have hcz9_4 : w5.cell? ⟨gb327, 4, none⟩ = some (.int .i64 a2_4) := kc_ BK327 4
   have hcz9_5 : w5.cell? ⟨gb327, 5, none⟩ = some (.int .i64 a2_5) := kc_ BK327 5
   have hcz9_6 : w5.cell? ⟨gb327, 6, none⟩ = some (.int .i64 a2_6) := kc_ BK327 6
   have hcz9_7 : w5.cell? ⟨gb327, 7, none⟩ = some (.int .i64 a2_7) := kc_ BK327 7
   have hcz9_8 : w5.cell? ⟨gb327, 8, none⟩ = some (.string a2_8) := kc_ BK327 8
   have hcz9_9 : w5.cell? ⟨gb327, 9, none⟩ = some (.int .i64 a2_9) := kc_ BK327 9
   have hcz9_10 : w5.cell? ⟨gb327, 10, none⟩ = some (.slice A2_10 l2_10.length c2_10) := kc_ BK327 10
   have hcz9_11 : w5.cell? ⟨gb327, 11, none⟩ = some (.slice A2_11 l2_11.length c2_11) := kc_ BK327 11
   have hfz9_0 := blk_frozen BK327.out 0
   have hfz9_1 := blk_frozen BK327.out 1
   have hfz9_2 := blk_frozen BK327.out 2
   have hfz9_3 := blk_frozen BK327.out 3
   have hfz9_4 := blk_frozen BK327.out 4
   have hfz9_5 := blk_frozen BK327.out 5
   have hfz9_6 := blk_frozen BK327.out 6
   have hfz9_7 := blk_frozen BK327.out 7
   have hfz9_8 := blk_frozen BK327.out 8
   have hfz9_9 := blk_frozen BK327.out 9
   have hfz9_10 := blk_frozen BK327.out 10
   have hfz9_11 := blk_frozen BK327.out 11
   go_wp2_with (first | ((with_reducible refine gate_callee (f := 73) rfl ?_); refine Short.gL (some 10) Try.func73 #[.int .i64 a0, .agg #[.int .i64 a2_0, .int .i64 a2_1, .slice A2_2 l2_2.length c2_2, .int .i64 a2_3, .int .i64 a2_4, .int .i64 a2_5, .int .i64 a2_6, .int .i64 a2_7, .string a2_8, .int .i64 a2_9, .slice A2_10 l2_10.length c2_10, .slice A2_11 l2_11.length c2_11]] (h := ?_); (with_reducible refine (op_whole.calls k a0 a2_0 a2_1 _ _ l2_2 a2_3 a2_4 a2_5 a2_6 a2_7 a2_8 a2_9 _ _ l2_10 _ _ l2_11 true _ ?side1 ?side2 ?side3 ?side4 ?side5 ?side6 A6.out).mono ?_); (case side1 => exact cX_ (C_below HR2_2.out HB.out)); (case side2 => exact HC2_2.out); (case side3 => exact cX_ (C_below HR2_10.out HB.out)); (case side4 => exact HC2_10.out); (case side5 => exact cX_ (C_below HR2_11.out HB.out)); (case side6 => exact HC2_11.out); rintro e w10 ⟨rfl, hb⟩; refine ⟨_, rfl, ?_⟩; have n0_ := mk_ (bB_ BK327 hb); have n1_ := mk_ (below_step (Short.hB HB) hb); clear BK327 HB; revert n0_ n1_; intro BK327 HB; (try clear hb); have hcz11_0 : w10.cell? ⟨gb327, 0, none⟩ = some (.int .i64 a2_0) := kc_ BK327 0; have hcz11_1 : w10.cell? ⟨gb327, 1, none⟩ = some (.int .i64 a2_1) := kc_ BK327 1; have hcz11_2 : w10.cell? ⟨gb327, 2, none⟩ = some (.slice A2_2 l2_2.length c2_2) := kc_ BK327 2; have hcz11_3 : w10.cell? ⟨gb327, 3, none⟩ = some (.int .i64 a2_3) := kc_ BK327 3; have hcz11_4 : w10.cell? ⟨gb327, 4, none⟩ = some (.int .i64 a2_4) := kc_ BK327 4; have hcz11_5 : w10.cell? ⟨gb327, 5, none⟩ = some (.int .i64 a2_5) := kc_ BK327 5; have hcz11_6 : w10.cell? ⟨gb327, 6, none⟩ = some (.int .i64 a2_6) := kc_ BK327 6; have hcz11_7 : w10.cell? ⟨gb327, 7, none⟩ = some (.int .i64 a2_7) := kc_ BK327 7; have hcz11_8 : w10.cell? ⟨gb327, 8, none⟩ = some (.string a2_8) := kc_ BK327 8; have hcz11_9 : w10.cell? ⟨gb327, 9, none⟩ = some (.int .i64 a2_9) := kc_ BK327 9; have hcz11_10 : w10.cell? ⟨gb327, 10, none⟩ = some (.slice A2_10 l2_10.length c2_10) := kc_ BK327 10; have hcz11_11 : w10.cell? ⟨gb327, 11, none⟩ = some (.slice A2_11 l2_11.length c2_11) := kc_ BK327 11; have hfz11_0 := blk_frozen BK327.out 0; have hfz11_1 := blk_frozen BK327.out 1; have hfz11_2 := blk_frozen BK327.out 2; have hfz11_3 := blk_frozen BK327.out 3; have hfz11_4 := blk_frozen BK327.out 4; have hfz11_5 := blk_frozen BK327.out 5; have hfz11_6 := blk_frozen BK327.out 6; have hfz11_7 := blk_frozen BK327.out 7; have hfz11_8 := blk_frozen BK327.out 8; have hfz11_9 := blk_frozen BK327.out 9; have hfz11_10 := blk_frozen BK327.out 10; have hfz11_11 := blk_frozen BK327.out 11))
   go_meet
   case rel => exact ⟨_, (true), z3, H', ⟨by first | omega | exact Nat.le_refl _⟩, ⟨by (with_reducible repeat (first | refine blk_drewN ?_ _ | refine blk_drew ?_ | refine blk_alloc ?_ _)); exact BK327.out⟩, ⟨Short.hB HB⟩⟩
  rw [if_neg c8] at H
  have c8b0 : decide (a2_7 < 0) = false := decide_eq_false c8
  clear c8
  (first | rw [c8b0] | (simp only [i64_w, i32_w]; rw [c8b0]) | skip)
  by_cases c12 : a2_7 ≥ (l1.length : Int)
  ·
   rw [if_pos c12] at H
   have c12b0 : decide ((l1.length : Int) ≤ a2_7) = true := decide_eq_true c12
   clear c12
   have H' := mk_ H
   clear H
   have hcz13_0 : w5.cell? ⟨gb327, 0, none⟩ = some (.int .i64 a2_0) := kc_ BK327 0
   have hcz13_1 : w5.cell? ⟨gb327, 1, none⟩ = some (.int .i64 a2_1) := kc_ BK327 1
   have hcz13_2 : w5.cell? ⟨gb327, 2, none⟩ = some (.slice A2_2 l2_2.length c2_2) := kc_ BK327 2
   have hcz13_3 : w5.cell? ⟨gb327, 3, none⟩ = some (.int .i64 a2_3) := kc_ BK327 3
   have hcz13_4 : w5.cell? ⟨gb327, 4, none⟩ = some (.int .i64 a2_4) := kc_ BK327 4
   have hcz13_5 : w5.cell? ⟨gb327, 5, none⟩ = some (.int .i64 a2_5) := kc_ BK327 5
   have hcz13_6 : w5.cell? ⟨gb327, 6, none⟩ = some (.int .i64 a2_6) := kc_ BK327 6
   have hcz13_7 : w5.cell? ⟨gb327, 7, none⟩ = some (.int .i64 a2_7) := kc_ BK327 7
   have hcz13_8 : w5.cell? ⟨gb327, 8, none⟩ = some (.string a2_8) := kc_ BK327 8
   have hcz13_9 : w5.cell? ⟨gb327, 9, none⟩ = some (.int .i64 a2_9) := kc_ BK327 9
   have hcz13_10 : w5.cell? ⟨gb327, 10, none⟩ = some (.slice A2_10 l2_10.length c2_10) := kc_ BK327 10
   have hcz13_11 : w5.cell? ⟨gb327, 11, none⟩ = some (.slice A2_11 l2_11.length c2_11) := kc_ BK327 11
   have hfz13_0 := blk_frozen BK327.out 0
   have hfz13_1 := blk_frozen BK327.out 1
   have hfz13_2 := blk_frozen BK327.out 2
   have hfz13_3 := blk_frozen BK327.out 3
   have hfz13_4 := blk_frozen BK327.out 4
   have hfz13_5 := blk_frozen BK327.out 5
   have hfz13_6 := blk_frozen BK327.out 6
   have hfz13_7 := blk_frozen BK327.out 7
   have hfz13_8 := blk_frozen BK327.out 8
   have hfz13_9 := blk_frozen BK327.out 9
   have hfz13_10 := blk_frozen BK327.out 10
   have hfz13_11 := blk_frozen BK327.out 11
   go_wp2_with (first | ((with_reducible refine gate_callee (f := 73) rfl ?_); refine Short.gL (some 10) Try.func73 #[.int .i64 a0, .agg #[.int .i64 a2_0, .int .i64 a2_1, .slice A2_2 l2_2.length c2_2, .int .i64 a2_3, .int .i64 a2_4, .int .i64 a2_5, .int .i64 a2_6, .int .i64 a2_7, .string a2_8, .int .i64 a2_9, .slice A2_10 l2_10.length c2_10, .slice A2_11 l2_11.length c2_11]] (h := ?_); (with_reducible refine (op_whole.calls k a0 a2_0 a2_1 _ _ l2_2 a2_3 a2_4 a2_5 a2_6 a2_7 a2_8 a2_9 _ _ l2_10 _ _ l2_11 true _ ?side1 ?side2 ?side3 ?side4 ?side5 ?side6 A6.out).mono ?_); (case side1 => exact cX_ (C_below HR2_2.out HB.out)); (case side2 => exact HC2_2.out); (case side3 => exact cX_ (C_below HR2_10.out HB.out)); (case side4 => exact HC2_10.out); (case side5 => exact cX_ (C_below HR2_11.out HB.out)); (case side6 => exact HC2_11.out); rintro e w14 ⟨rfl, hb⟩; refine ⟨_, rfl, ?_⟩; have n0_ := mk_ (bB_ BK327 hb); have n1_ := mk_ (below_step (Short.hB HB) hb); clear BK327 HB; revert n0_ n1_; intro BK327 HB; (try clear hb); have hcz15_0 : w14.cell? ⟨gb327, 0, none⟩ = some (.int .i64 a2_0) := kc_ BK327 0; have hcz15_1 : w14.cell? ⟨gb327, 1, none⟩ = some (.int .i64 a2_1) := kc_ BK327 1; have hcz15_2 : w14.cell? ⟨gb327, 2, none⟩ = some (.slice A2_2 l2_2.length c2_2) := kc_ BK327 2; have hcz15_3 : w14.cell? ⟨gb327, 3, none⟩ = some (.int .i64 a2_3) := kc_ BK327 3; have hcz15_4 : w14.cell? ⟨gb327, 4, none⟩ = some (.int .i64 a2_4) := kc_ BK327 4; have hcz15_5 : w14.cell? ⟨gb327, 5, none⟩ = some (.int .i64 a2_5) := kc_ BK327 5; have hcz15_6 : w14.cell? ⟨gb327, 6, none⟩ = some (.int .i64 a2_6) := kc_ BK327 6; have hcz15_7 : w14.cell? ⟨gb327, 7, none⟩ = some (.int .i64 a2_7) := kc_ BK327 7; have hcz15_8 : w14.cell? ⟨gb327, 8, none⟩ = some (.string a2_8) := kc_ BK327 8; have hcz15_9 : w14.cell? ⟨gb327, 9, none⟩ = some (.int .i64 a2_9) := kc_ BK327 9; have hcz15_10 : w14.cell? ⟨gb327, 10, none⟩ = some (.slice A2_10 l2_10.length c2_10) := kc_ BK327 10; have hcz15_11 : w14.cell? ⟨gb327, 11, none⟩ = some (.slice A2_11 l2_11.length c2_11) := kc_ BK327 11; have hfz15_0 := blk_frozen BK327.out 0; have hfz15_1 := blk_frozen BK327.out 1; have hfz15_2 := blk_frozen BK327.out 2; have hfz15_3 := blk_frozen BK327.out 3; have hfz15_4 := blk_frozen BK327.out 4; have hfz15_5 := blk_frozen BK327.out 5; have hfz15_6 := blk_frozen BK327.out 6; have hfz15_7 := blk_frozen BK327.out 7; have hfz15_8 := blk_frozen BK327.out 8; have hfz15_9 := blk_frozen BK327.out 9; have hfz15_10 := blk_frozen BK327.out 10; have hfz15_11 := blk_frozen BK327.out 11))
   go_meet
   case rel => exact ⟨_, (true), z3, H', ⟨by first | omega | exact Nat.le_refl _⟩, ⟨by (with_reducible repeat (first | refine blk_drewN ?_ _ | refine blk_drew ?_ | refine blk_alloc ?_ _)); exact BK327.out⟩, ⟨Short.hB HB⟩⟩
  rw [if_neg c12] at H
  have c12b0 : decide ((l1.length : Int) ≤ a2_7) = false := decide_eq_false c12
  clear c12
  replace H := Option.bind_eq_some_iff.mp H
  obtain ⟨t329, A160, H⟩ := H
  replace H : (op_right.j0 k l1 (!t329) a2_0 a2_1 l2_2 a2_3 a2_4 a2_5 a2_6 a2_7 a2_8 a2_9 l2_10 l2_11) = some r := H
  have A16 := mk_ A160
  clear A160
  have H' := mk_ H
  clear H
  have hcz17_0 : w5.cell? ⟨gb327, 0, none⟩ = some (.int .i64 a2_0) := kc_ BK327 0
  have hcz17_1 : w5.cell? ⟨gb327, 1, none⟩ = some (.int .i64 a2_1) := kc_ BK327 1
  have hcz17_2 : w5.cell? ⟨gb327, 2, none⟩ = some (.slice A2_2 l2_2.length c2_2) := kc_ BK327 2
  have hcz17_3 : w5.cell? ⟨gb327, 3, none⟩ = some (.int .i64 a2_3) := kc_ BK327 3
  have hcz17_4 : w5.cell? ⟨gb327, 4, none⟩ = some (.int .i64 a2_4) := kc_ BK327 4
  have hcz17_5 : w5.cell? ⟨gb327, 5, none⟩ = some (.int .i64 a2_5) := kc_ BK327 5
  have hcz17_6 : w5.cell? ⟨gb327, 6, none⟩ = some (.int .i64 a2_6) := kc_ BK327 6
  have hcz17_7 : w5.cell? ⟨gb327, 7, none⟩ = some (.int .i64 a2_7) := kc_ BK327 7
  have hcz17_8 : w5.cell? ⟨gb327, 8, none⟩ = some (.string a2_8) := kc_ BK327 8
  have hcz17_9 : w5.cell? ⟨gb327, 9, none⟩ = some (.int .i64 a2_9) := kc_ BK327 9
  have hcz17_10 : w5.cell? ⟨gb327, 10, none⟩ = some (.slice A2_10 l2_10.length c2_10) := kc_ BK327 10
  have hcz17_11 : w5.cell? ⟨gb327, 11, none⟩ = some (.slice A2_11 l2_11.length c2_11) := kc_ BK327 11
  have hfz17_0 := blk_frozen BK327.out 0
  have hfz17_1 := blk_frozen BK327.out 1
  have hfz17_2 := blk_frozen BK327.out 2
  have hfz17_3 := blk_frozen BK327.out 3
  have hfz17_4 := blk_frozen BK327.out 4
  have hfz17_5 := blk_frozen BK327.out 5
  have hfz17_6 := blk_frozen BK327.out 6
  have hfz17_7 := blk_frozen BK327.out 7
  have hfz17_8 := blk_frozen BK327.out 8
  have hfz17_9 := blk_frozen BK327.out 9
  have hfz17_10 := blk_frozen BK327.out 10
  have hfz17_11 := blk_frozen BK327.out 11
  go_wp2_with (first | ((with_reducible refine gate_callee (f := 73) rfl ?_); refine Short.gL (some 10) Try.func73 #[.int .i64 a0, .agg #[.int .i64 a2_0, .int .i64 a2_1, .slice A2_2 l2_2.length c2_2, .int .i64 a2_3, .int .i64 a2_4, .int .i64 a2_5, .int .i64 a2_6, .int .i64 a2_7, .string a2_8, .int .i64 a2_9, .slice A2_10 l2_10.length c2_10, .slice A2_11 l2_11.length c2_11]] (h := ?_); (with_reducible refine (op_whole.calls k a0 a2_0 a2_1 _ _ l2_2 a2_3 a2_4 a2_5 a2_6 a2_7 a2_8 a2_9 _ _ l2_10 _ _ l2_11 true _ ?side1 ?side2 ?side3 ?side4 ?side5 ?side6 A6.out).mono ?_); (case side1 => exact cX_ (C_below HR2_2.out HB.out)); (case side2 => exact HC2_2.out); (case side3 => exact cX_ (C_below HR2_10.out HB.out)); (case side4 => exact HC2_10.out); (case side5 => exact cX_ (C_below HR2_11.out HB.out)); (case side6 => exact HC2_11.out); rintro e w18 ⟨rfl, hb⟩; refine ⟨_, rfl, ?_⟩; have n0_ := mk_ (bB_ BK327 hb); have n1_ := mk_ (below_step (Short.hB HB) hb); clear BK327 HB; revert n0_ n1_; intro BK327 HB; (try clear hb); have hcz19_0 : w18.cell? ⟨gb327, 0, none⟩ = some (.int .i64 a2_0) := kc_ BK327 0; have hcz19_1 : w18.cell? ⟨gb327, 1, none⟩ = some (.int .i64 a2_1) := kc_ BK327 1; have hcz19_2 : w18.cell? ⟨gb327, 2, none⟩ = some (.slice A2_2 l2_2.length c2_2) := kc_ BK327 2; have hcz19_3 : w18.cell? ⟨gb327, 3, none⟩ = some (.int .i64 a2_3) := kc_ BK327 3; have hcz19_4 : w18.cell? ⟨gb327, 4, none⟩ = some (.int .i64 a2_4) := kc_ BK327 4; have hcz19_5 : w18.cell? ⟨gb327, 5, none⟩ = some (.int .i64 a2_5) := kc_ BK327 5; have hcz19_6 : w18.cell? ⟨gb327, 6, none⟩ = some (.int .i64 a2_6) := kc_ BK327 6; have hcz19_7 : w18.cell? ⟨gb327, 7, none⟩ = some (.int .i64 a2_7) := kc_ BK327 7; have hcz19_8 : w18.cell? ⟨gb327, 8, none⟩ = some (.string a2_8) := kc_ BK327 8; have hcz19_9 : w18.cell? ⟨gb327, 9, none⟩ = some (.int .i64 a2_9) := kc_ BK327 9; have hcz19_10 : w18.cell? ⟨gb327, 10, none⟩ = some (.slice A2_10 l2_10.length c2_10) := kc_ BK327 10; have hcz19_11 : w18.cell? ⟨gb327, 11, none⟩ = some (.slice A2_11 l2_11.length c2_11) := kc_ BK327 11; have hfz19_0 := blk_frozen BK327.out 0; have hfz19_1 := blk_frozen BK327.out 1; have hfz19_2 := blk_frozen BK327.out 2; have hfz19_3 := blk_frozen BK327.out 3; have hfz19_4 := blk_frozen BK327.out 4; have hfz19_5 := blk_frozen BK327.out 5; have hfz19_6 := blk_frozen BK327.out 6; have hfz19_7 := blk_frozen BK327.out 7; have hfz19_8 := blk_frozen BK327.out 8; have hfz19_9 := blk_frozen BK327.out 9; have hfz19_10 := blk_frozen BK327.out 10; have hfz19_11 := blk_frozen BK327.out 11) | (go_at_call 25; (with_reducible refine (op_Key.calls a2_8 t329 _ A16.out).mono ?_); rintro e w' ⟨rfl, ⟨nd, rfl⟩⟩))
  go_meet
  case rel => exact ⟨_, (!t329), z3, H', ⟨by first | omega | exact Nat.le_refl _⟩, ⟨by (with_reducible repeat (first | refine blk_drewN ?_ _ | refine blk_drew ?_ | refine blk_alloc ?_ _)); exact BK327.out⟩, ⟨Short.hB HB⟩⟩
 case rest => as_aux_lemma =>
  clear HC4
  try clear c1
  try clear c2
  try clear p2
  try clear c3
  try clear c7
  try clear c8
  try clear c8b0
  try clear c12
  try clear c12b0
  try clear hcz11_0
  try clear hcz11_1
  try clear hcz11_10
  try clear hcz11_11
  try clear hcz11_2
  try clear hcz11_3
  try clear hcz11_4
  try clear hcz11_5
  try clear hcz11_6
  try clear hcz11_7
  try clear hcz11_8
  try clear hcz11_9
  try clear hcz13_0
  try clear hcz13_1
  try clear hcz13_10
  try clear hcz13_11
  try clear hcz13_2
  try clear hcz13_3
  try clear hcz13_4
  try clear hcz13_5
  try clear hcz13_6
  try clear hcz13_7
  try clear hcz13_8
  try clear hcz13_9
  try clear hcz15_0
  try clear hcz15_1
  try clear hcz15_10
  try clear hcz15_11
  try clear hcz15_2
  try clear hcz15_3
  try clear hcz15_4
  try clear hcz15_5
  try clear hcz15_6
  try clear hcz15_7
  try clear hcz15_8
  try clear hcz15_9
  try clear hcz17_0
  try clear hcz17_1
  try clear hcz17_10
  try clear hcz17_11
  try clear hcz17_2
  try clear hcz17_3
  try clear hcz17_4
  try clear hcz17_5
  try clear hcz17_6
  try clear hcz17_7
  try clear hcz17_8
  try clear hcz17_9
  try clear hcz19_0
  try clear hcz19_1
  try clear hcz19_10
  try clear hcz19_11
  try clear hcz19_2
  try clear hcz19_3
  try clear hcz19_4
  try clear hcz19_5
  try clear hcz19_6
  try clear hcz19_7
  try clear hcz19_8
  try clear hcz19_9
  try clear hcz20_0
  try clear hcz20_1
  try clear hcz20_10
  try clear hcz20_11
  try clear hcz20_2
  try clear hcz20_3
  try clear hcz20_4
  try clear hcz20_5
  try clear hcz20_6
  try clear hcz20_7
  try clear hcz20_8
  try clear hcz20_9
  try clear hcz9_0
  try clear hcz9_1
  try clear hcz9_10
  try clear hcz9_11
  try clear hcz9_2
  try clear hcz9_3
  try clear hcz9_4
  try clear hcz9_5
  try clear hcz9_6
  try clear hcz9_7
  try clear hcz9_8
  try clear hcz9_9
  try clear hfz11_0
  try clear hfz11_1
  try clear hfz11_10
  try clear hfz11_11
  try clear hfz11_2
  try clear hfz11_3
  try clear hfz11_4
  try clear hfz11_5
  try clear hfz11_6
  try clear hfz11_7
  try clear hfz11_8
  try clear hfz11_9
  try clear hfz13_0
  try clear hfz13_1
  try clear hfz13_10
  try clear hfz13_11
  try clear hfz13_2
  try clear hfz13_3
  try clear hfz13_4
  try clear hfz13_5
  try clear hfz13_6
  try clear hfz13_7
  try clear hfz13_8
  try clear hfz13_9
  try clear hfz15_0
  try clear hfz15_1
  try clear hfz15_10
  try clear hfz15_11
  try clear hfz15_2
  try clear hfz15_3
  try clear hfz15_4
  try clear hfz15_5
  try clear hfz15_6
  try clear hfz15_7
  try clear hfz15_8
  try clear hfz15_9
  try clear hfz17_0
  try clear hfz17_1
  try clear hfz17_10
  try clear hfz17_11
  try clear hfz17_2
  try clear hfz17_3
  try clear hfz17_4
  try clear hfz17_5
  try clear hfz17_6
  try clear hfz17_7
  try clear hfz17_8
  try clear hfz17_9
  try clear hfz19_0
  try clear hfz19_1
  try clear hfz19_10
  try clear hfz19_11
  try clear hfz19_2
  try clear hfz19_3
  try clear hfz19_4
  try clear hfz19_5
  try clear hfz19_6
  try clear hfz19_7
  try clear hfz19_8
  try clear hfz19_9
  try clear hfz20_0
  try clear hfz20_1
  try clear hfz20_10
  try clear hfz20_11
  try clear hfz20_2
  try clear hfz20_3
  try clear hfz20_4
  try clear hfz20_5
  try clear hfz20_6
  try clear hfz20_7
  try clear hfz20_8
  try clear hfz20_9
  try clear hfz9_0
  try clear hfz9_1
  try clear hfz9_10
  try clear hfz9_11
  try clear hfz9_2
  try clear hfz9_3
  try clear hfz9_4
  try clear hfz9_5
  try clear hfz9_6
  try clear hfz9_7
  try clear hfz9_8
  try clear hfz9_9
  obtain ⟨kq, x29_3, rfl, HA, HJ3, BK327, HB⟩ := hcut
  cases kq with
  | zero => exact absurd HA.out (by simp [op_right.j0])
  | succ kj3 =>
   have H := HA.out
   clear HA
   simp only [op_right.j0] at H
   by_cases c22 : x29_3 = true
   ·
    subst c22
    rw [if_pos rfl] at H
    obtain rfl := Option.some.inj H
    go_wp2
    go_ret
    exact ⟨q0, Short.hB HB⟩
   ·
    replace c22 := Bool.eq_false_iff.mpr c22
    subst c22
    rw [if_neg (show ¬ (false = true) by decide)] at H
    by_cases c23 : 0 ≤ a2_7
    ·
     rw [if_pos c23] at H
     have c23b0 : decide (0 ≤ a2_7) = true := decide_eq_true c23
     clear c23
     by_cases c24 : a2_7 < (l1.length : Int)
     ·
      rw [if_pos c24] at H
      have c24b0 : decide (a2_7 < (l1.length : Int)) = true := decide_eq_true c24
      clear c24
      by_cases c25 : a2_6 = 1
      ·
       rw [if_pos c25] at H
       have c25b0 : (a2_6 == 1) = true := beq_iff_eq.mpr c25
       have c25b1 : (a2_6 != 1) = false := bne_eq_false_iff_eq.mpr c25
       clear c25
       replace H := Option.bind_eq_some_iff.mp H
       obtain ⟨t331, A260, H⟩ := H
       replace H : (if t331 = true then (if a2_9 = 0 then (some ((l2_11.length : Int) == 0)) else (some false)) else (some false)) = some r := H
       have A26 := mk_ A260
       clear A260
       by_cases c27 : t331 = true
       ·
        subst c27
        rw [if_pos rfl] at H
        by_cases c28 : a2_9 = 0
        ·
         rw [if_pos c28] at H
         have c28b0 : (a2_9 == 0) = true := beq_iff_eq.mpr c28
         have c28b1 : (a2_9 != 0) = false := bne_eq_false_iff_eq.mpr c28
         clear c28
         obtain rfl := Option.some.inj H
         have hcz29_0 := blk_cell BK327.out
         have hfz29_0 := blk_frozen BK327.out
         have p330 : 0 ≤ (a2_7 : Int) := of_decide_eq_true z1
         have q330 : a2_7 < (l1.length : Int) := of_decide_eq_true z1
         obtain ⟨ad330, A330_0, c330_0, e330, hx330_0, hl330_0, hi330_0⟩ := at_T51 HR1.out a2_7 p330 q330
         cases e330
         replace hx330_0 := up_ HB hx330_0
         have HR330_0 := mk_ hi330_0
         have HC330_0 := mk_ hl330_0
         clear hi330_0 hl330_0
         replace p330 := eq_true p330
         replace q330 := eq_true q330
         go_wp2_with (first | ((with_reducible refine gate_callee (f := 74) rfl ?_); refine Short.gL (some 43) Try.func74 #[.slice A2_10 l2_10.length c2_10, .slice A330_0 ((rd_T51 l1 a2_7).f0).length c330_0] (h := ?_); (with_reducible refine (op_small.calls kj3 _ _ l2_10 _ _ ((rd_T51 l1 a2_7).f0) true _ ?side1 ?side2 ?side3 ?side4 A26.out).mono ?_); (case side1 => exact cX_ (C_below HR2_10.out HB.out)); (case side2 => exact HC2_10.out); (case side3 => exact cX_ (C_below HR330_0.out HB.out)); (case side4 => exact HC330_0.out); rintro e w30 ⟨rfl, hb⟩; refine ⟨_, rfl, ?_⟩; have n0_ := mk_ (bB_ BK327 hb); have n1_ := mk_ (below_step (Short.hB HB) hb); clear BK327 HB; revert n0_ n1_; intro BK327 HB; (try clear hb); have hcz31_0 := blk_cell BK327.out; have hfz31_0 := blk_frozen BK327.out))
         go_ret
         exact ⟨q0, Short.hB HB⟩
        ·
         rw [if_neg c28] at H
         have c28b0 : (a2_9 == 0) = false := beq_eq_false_iff_ne.mpr c28
         have c28b1 : (a2_9 != 0) = true := bne_iff_ne.mpr c28
         obtain rfl := Option.some.inj H
         have hcz32_0 := blk_cell BK327.out
         have hfz32_0 := blk_frozen BK327.out
         have p330 : 0 ≤ (a2_7 : Int) := of_decide_eq_true z1
         have q330 : a2_7 < (l1.length : Int) := of_decide_eq_true z1
         obtain ⟨ad330, A330_0, c330_0, e330, hx330_0, hl330_0, hi330_0⟩ := at_T51 HR1.out a2_7 p330 q330
         cases e330
         replace hx330_0 := up_ HB hx330_0
         have HR330_0 := mk_ hi330_0
         have HC330_0 := mk_ hl330_0
         clear hi330_0 hl330_0
         replace p330 := eq_true p330
         replace q330 := eq_true q330
         go_wp2_with (first | ((with_reducible refine gate_callee (f := 74) rfl ?_); refine Short.gL (some 43) Try.func74 #[.slice A2_10 l2_10.length c2_10, .slice A330_0 ((rd_T51 l1 a2_7).f0).length c330_0] (h := ?_); (with_reducible refine (op_small.calls kj3 _ _ l2_10 _ _ ((rd_T51 l1 a2_7).f0) true _ ?side1 ?side2 ?side3 ?side4 A26.out).mono ?_); (case side1 => exact cX_ (C_below HR2_10.out HB.out)); (case side2 => exact HC2_10.out); (case side3 => exact cX_ (C_below HR330_0.out HB.out)); (case side4 => exact HC330_0.out); rintro e w33 ⟨rfl, hb⟩; refine ⟨_, rfl, ?_⟩; have n0_ := mk_ (bB_ BK327 hb); have n1_ := mk_ (below_step (Short.hB HB) hb); clear BK327 HB; revert n0_ n1_; intro BK327 HB; (try clear hb); have hcz34_0 := blk_cell BK327.out; have hfz34_0 := blk_frozen BK327.out))
         go_ret
         exact ⟨q0, Short.hB HB⟩
       ·
        replace c27 := Bool.eq_false_iff.mpr c27
        subst c27
        rw [if_neg (show ¬ (false = true) by decide)] at H
        obtain rfl := Option.some.inj H
        have hcz35_0 := blk_cell BK327.out
        have hfz35_0 := blk_frozen BK327.out
        have p330 : 0 ≤ (a2_7 : Int) := of_decide_eq_true z1
        have q330 : a2_7 < (l1.length : Int) := of_decide_eq_true z1
        obtain ⟨ad330, A330_0, c330_0, e330, hx330_0, hl330_0, hi330_0⟩ := at_T51 HR1.out a2_7 p330 q330
        cases e330
        replace hx330_0 := up_ HB hx330_0
        have HR330_0 := mk_ hi330_0
        have HC330_0 := mk_ hl330_0
        clear hi330_0 hl330_0
        replace p330 := eq_true p330
        replace q330 := eq_true q330
        go_wp2_with (first | ((with_reducible refine gate_callee (f := 74) rfl ?_); refine Short.gL (some 43) Try.func74 #[.slice A2_10 l2_10.length c2_10, .slice A330_0 ((rd_T51 l1 a2_7).f0).length c330_0] (h := ?_); (with_reducible refine (op_small.calls kj3 _ _ l2_10 _ _ ((rd_T51 l1 a2_7).f0) false _ ?side1 ?side2 ?side3 ?side4 A26.out).mono ?_); (case side1 => exact cX_ (C_below HR2_10.out HB.out)); (case side2 => exact HC2_10.out); (case side3 => exact cX_ (C_below HR330_0.out HB.out)); (case side4 => exact HC330_0.out); rintro e w36 ⟨rfl, hb⟩; refine ⟨_, rfl, ?_⟩; have n0_ := mk_ (bB_ BK327 hb); have n1_ := mk_ (below_step (Short.hB HB) hb); clear BK327 HB; revert n0_ n1_; intro BK327 HB; (try clear hb)))
        go_ret
        exact ⟨q0, Short.hB HB⟩
      ·
       rw [if_neg c25] at H
       have c25b0 : (a2_6 == 1) = false := beq_eq_false_iff_ne.mpr c25
       have c25b1 : (a2_6 != 1) = true := bne_iff_ne.mpr c25
       by_cases c37 : a2_6 = 2
       ·
        rw [if_pos c37] at H
        have c37b0 : (a2_6 == 2) = true := beq_iff_eq.mpr c37
        have c37b1 : (a2_6 != 2) = false := bne_eq_false_iff_eq.mpr c37
        clear c37
        by_cases c38 : a2_9 ≥ 0
        ·
         rw [if_pos c38] at H
         have c38b0 : decide (0 ≤ a2_9) = true := decide_eq_true c38
         clear c38
         by_cases c39 : a2_9 < (((rd_T51 l1 a2_7).f0).length : Int)
         ·
          rw [if_pos c39] at H
          have c39b0 : decide (a2_9 < (((rd_T51 l1 a2_7).f0).length : Int)) = true := decide_eq_true c39
          clear c39
          by_cases c40 : 0 ≤ a2_9
          ·
           rw [if_pos c40] at H
           have c40b0 := eq_true c40
           have c40b1 : decide (0 ≤ a2_9) = true := decide_eq_true c40
           clear c40
           by_cases c41 : a2_9 ≤ (wrap64 (a2_9 + 1))
           ·
            rw [if_pos c41] at H
            have c41b0 := eq_true c41
            have c41b1 : decide (a2_9 ≤ (wrap64 (a2_9 + 1))) = true := decide_eq_true c41
            by_cases c42 : (wrap64 (a2_9 + 1)) ≤ (((rd_T51 l1 a2_7).f0).length : Int)
            ·
             rw [if_pos c42] at H
             have c42b0 := eq_true c42
             have c42b1 : decide ((wrap64 (a2_9 + 1)) ≤ (((rd_T51 l1 a2_7).f0).length : Int)) = true := decide_eq_true c42
             replace H := Option.bind_eq_some_iff.mp H
             obtain ⟨t333, A430, H⟩ := H
             replace H : (if t333 = true then (some ((l2_11.length : Int) == 0)) else (some false)) = some r := H
             have A43 := mk_ A430
             clear A430
             by_cases c44 : t333 = true
             ·
              subst c44
              rw [if_pos rfl] at H
              obtain rfl := Option.some.inj H
              have hcz45_0 := blk_cell BK327.out
              have hfz45_0 := blk_frozen BK327.out
              have p330 : 0 ≤ (a2_7 : Int) := of_decide_eq_true z1
              have q330 : a2_7 < (l1.length : Int) := of_decide_eq_true z1
              obtain ⟨ad330, A330_0, c330_0, e330, hx330_0, hl330_0, hi330_0⟩ := at_T51 HR1.out a2_7 p330 q330
              cases e330
              replace hx330_0 := up_ HB hx330_0
              have HR330_0 := mk_ hi330_0
              have HC330_0 := mk_ hl330_0
              clear hi330_0 hl330_0
              replace p330 := eq_true p330
              replace q330 := eq_true q330
              try go_wp2
              have n0_ := mk_ (blk_drew BK327.out)
              have n1_ := mk_ (below_drew1 HB.out)
              clear BK327 HB
              revert n0_ n1_
              intro BK327 HB
              obtain ⟨i047, hi047, _, hsz47, _⟩ := info_parts info3
              obtain ⟨A47, hcut47, hA47, hC47⟩ := print_mid_of (P := Try.prog) (Value.int .i64) 0 26 3 .i64 .i64 Try.underlying26 hi047 hsz47 A330_0 c330_0 ((rd_T51 l1 a2_7).f0) a2_9 (wrap64 (a2_9 + 1)) (of_decide_eq_true z1) (by first | omega | exact of_decide_eq_true z1) (of_decide_eq_true z1) HC330_0.out
              have HR332 := mk_ (C_of_reads (h1 := fun _ => rfl) (hA47 _ (Kd.reads_of_C HR330_0.out)))
              have HC332 := mk_ hC47
              clear hA47 hC47 hi047 hsz47
              refine start_ (n := 29) (S := fun w' => w'.cell? ⟨gb327, 0, none⟩ = some (.int .i64 a2_0) ∧ w'.cell? ⟨gb327, 1, none⟩ = some (.int .i64 a2_1) ∧ w'.cell? ⟨gb327, 2, none⟩ = some (.slice A2_2 l2_2.length c2_2) ∧ w'.cell? ⟨gb327, 3, none⟩ = some (.int .i64 a2_3) ∧ w'.cell? ⟨gb327, 4, none⟩ = some (.int .i64 a2_4) ∧ w'.cell? ⟨gb327, 5, none⟩ = some (.int .i64 a2_5) ∧ w'.cell? ⟨gb327, 6, none⟩ = some (.int .i64 a2_6) ∧ w'.cell? ⟨gb327, 7, none⟩ = some (.int .i64 a2_7) ∧ w'.cell? ⟨gb327, 8, none⟩ = some (.string a2_8) ∧ w'.cell? ⟨gb327, 9, none⟩ = some (.int .i64 a2_9) ∧ w'.cell? ⟨gb327, 10, none⟩ = some (.slice A2_10 l2_10.length c2_10) ∧ w'.cell? ⟨gb327, 11, none⟩ = some (.slice A2_11 l2_11.length c2_11)) (ds := []) (Steps.Bs 29 0) z0 rfl rfl ⟨kc_ BK327 0, kc_ BK327 1, kc_ BK327 2, kc_ BK327 3, kc_ BK327 4, kc_ BK327 5, kc_ BK327 6, kc_ BK327 7, kc_ BK327 8, kc_ BK327 9, kc_ BK327 10, kc_ BK327 11⟩ (fun hHeld => ?_); refine with_tabW op_right.tab8 op_right.bits8 (fun HT_ HW_ => ?_)
              generalize wc.drew = w46 at BK327 HB HR332 hHeld ⊢
              refine tI HT_ 0 57 29 1 ?_
              refine tT HT_ HW_ hHeld 1 58 29 3 ?_
              refine tI HT_ 2 59 29 7 ?_
              refine tI HT_ 3 60 29 15 ?_
              refine tI HT_ 4 61 29 31 ?_
              refine tI HT_ 6 63 29 95 ?_
              refine tI HT_ 7 64 29 223 ?_
              refine tT HT_ HW_ hHeld 5 62 29 255 ?_
              refine tI HT_ 8 65 29 511 ?_
              refine tI HT_ 9 66 29 1023 ?_
              refine tI HT_ 10 67 29 2047 ?_
              refine tI HT_ 11 68 29 4095 ?_
              refine tI HT_ 13 70 29 12287 ?_
              refine tI HT_ 14 71 29 28671 ?_
              refine tI HT_ 16 73 29 94207 ?_
              refine tT HT_ HW_ hHeld 12 69 29 98303 ?_
              refine tT HT_ HW_ hHeld 15 72 29 131071 ?_
              refine tT HT_ HW_ hHeld 17 74 29 262143 ?_
              refine tI HT_ 18 75 29 524287 ?_
              refine tI HT_ 19 76 29 1048575 ?_
              refine one_ (i := 20) (N := some 77) (Steps.Bs 29 2097151) rfl rfl (one_of HT_.out z0) z5 (fun K hK => ?_)
              refine goes_ Try.func74 z0 rfl #[.slice A2_10 l2_10.length c2_10, .slice A47 ((((rd_T51 l1 a2_7).f0).take ((wrap64 (a2_9 + 1)) : Int).toNat).drop (a2_9 : Int).toNat).length (c330_0 - a2_9.toNat)] (by rfl) rfl rfl (by (try simp only [List.map_toArray, List.map_cons, List.map_nil]); first | done | (rw [show ((((rd_T51 l1 a2_7).f0).take ((wrap64 (a2_9 + 1)) : Int).toNat).drop (a2_9 : Int).toNat).length = ((wrap64 (a2_9 + 1)).toNat - a2_9.toNat) from (by rw [List.length_drop, List.length_take]; have h_ : ((wrap64 (a2_9 + 1)) : Int) ≤ (((rd_T51 l1 a2_7).f0).length : Int) := of_decide_eq_true z1; omega)] <;> rfl) | rfl | (simp only [List.length_drop, List.length_take]; rfl) | (go_simp; done) | (simp; done)) ?_
              with_reducible refine (op_small.calls kj3 _ _ l2_10 _ _ ((((rd_T51 l1 a2_7).f0).take ((wrap64 (a2_9 + 1)) : Int).toNat).drop (a2_9 : Int).toNat) true _ ?side1 ?side2 ?side3 ?side4 A43.out).mono ?_
              (case side1 => exact cX_ (C_below HR2_10.out HB.out))
              (case side2 => exact HC2_10.out)
              (case side3 => exact cX_ (C_below HR332.out HB.out))
              (case side4 => exact HC332.out)
              rintro e w48 ⟨rfl, hb⟩
              refine ⟨_, rfl, ?_⟩
              have n0_ := mk_ (bB_ BK327 hb)
              have n1_ := mk_ (below_step (Short.hB HB) hb)
              clear BK327 HB
              revert n0_ n1_
              intro BK327 HB
              (try clear hb)
              (try clear hb2)
              (try clear hk)
              (try clear hi)
              refine hK.out _ _ ⟨kc_ BK327 0, kc_ BK327 1, kc_ BK327 2, kc_ BK327 3, kc_ BK327 4, kc_ BK327 5, kc_ BK327 6, kc_ BK327 7, kc_ BK327 8, kc_ BK327 9, kc_ BK327 10, kc_ BK327 11⟩ (fun hHeld => ?_)
              clear hK K
              refine nrm 77 ?_
              refine tI HT_ 21 78 29 4194303 ?_
              refine tI HT_ 22 79 29 8388607 ?_
              refine tI HT_ 23 80 29 16777215 ?_
              refine tT HT_ HW_ hHeld 24 81 29 33554431 ?_
              refine tI HT_ 25 82 29 67108863 ?_
              refine tI HT_ 26 83 29 134217727 ?_
              refine tI HT_ 27 84 29 268435455 ?_
              refine tI HT_ 28 6 29 536870911 ?_
              refine done_ (done_of HT_.out z0) ?_
              try go_wp2
              go_ret
              exact ⟨q0, Short.hB HB⟩
             ·
              replace c44 := Bool.eq_false_iff.mpr c44
              subst c44
              rw [if_neg (show ¬ (false = true) by decide)] at H
              obtain rfl := Option.some.inj H
              have hcz49_0 := blk_cell BK327.out
              have hfz49_0 := blk_frozen BK327.out
              have p330 : 0 ≤ (a2_7 : Int) := of_decide_eq_true z1
              have q330 : a2_7 < (l1.length : Int) := of_decide_eq_true z1
              obtain ⟨ad330, A330_0, c330_0, e330, hx330_0, hl330_0, hi330_0⟩ := at_T51 HR1.out a2_7 p330 q330
              cases e330
              replace hx330_0 := up_ HB hx330_0
              have HR330_0 := mk_ hi330_0
              have HC330_0 := mk_ hl330_0
              clear hi330_0 hl330_0
              replace p330 := eq_true p330
              replace q330 := eq_true q330
              try go_wp2
              have n0_ := mk_ (blk_drew BK327.out)
              have n1_ := mk_ (below_drew1 HB.out)
              clear BK327 HB
              revert n0_ n1_
              intro BK327 HB
              obtain ⟨i051, hi051, _, hsz51, _⟩ := info_parts info3
              obtain ⟨A51, hcut51, hA51, hC51⟩ := print_mid_of (P := Try.prog) (Value.int .i64) 0 26 3 .i64 .i64 Try.underlying26 hi051 hsz51 A330_0 c330_0 ((rd_T51 l1 a2_7).f0) a2_9 (wrap64 (a2_9 + 1)) (of_decide_eq_true z1) (by first | omega | exact of_decide_eq_true z1) (of_decide_eq_true z1) HC330_0.out
              have HR332 := mk_ (C_of_reads (h1 := fun _ => rfl) (hA51 _ (Kd.reads_of_C HR330_0.out)))
              have HC332 := mk_ hC51
              clear hA51 hC51 hi051 hsz51
              refine start_ (n := 29) (S := fun w' => w'.cell? ⟨gb327, 0, none⟩ = some (.int .i64 a2_0) ∧ w'.cell? ⟨gb327, 1, none⟩ = some (.int .i64 a2_1) ∧ w'.cell? ⟨gb327, 2, none⟩ = some (.slice A2_2 l2_2.length c2_2) ∧ w'.cell? ⟨gb327, 3, none⟩ = some (.int .i64 a2_3) ∧ w'.cell? ⟨gb327, 4, none⟩ = some (.int .i64 a2_4) ∧ w'.cell? ⟨gb327, 5, none⟩ = some (.int .i64 a2_5) ∧ w'.cell? ⟨gb327, 6, none⟩ = some (.int .i64 a2_6) ∧ w'.cell? ⟨gb327, 7, none⟩ = some (.int .i64 a2_7) ∧ w'.cell? ⟨gb327, 8, none⟩ = some (.string a2_8) ∧ w'.cell? ⟨gb327, 9, none⟩ = some (.int .i64 a2_9) ∧ w'.cell? ⟨gb327, 10, none⟩ = some (.slice A2_10 l2_10.length c2_10) ∧ w'.cell? ⟨gb327, 11, none⟩ = some (.slice A2_11 l2_11.length c2_11)) (ds := []) (Steps.Bs 29 0) z0 rfl rfl ⟨kc_ BK327 0, kc_ BK327 1, kc_ BK327 2, kc_ BK327 3, kc_ BK327 4, kc_ BK327 5, kc_ BK327 6, kc_ BK327 7, kc_ BK327 8, kc_ BK327 9, kc_ BK327 10, kc_ BK327 11⟩ (fun hHeld => ?_); refine with_tabW op_right.tab8 op_right.bits8 (fun HT_ HW_ => ?_)
              generalize wc.drew = w50 at BK327 HB HR332 hHeld ⊢
              refine tI HT_ 0 57 29 1 ?_
              refine tT HT_ HW_ hHeld 1 58 29 3 ?_
              refine tI HT_ 2 59 29 7 ?_
              refine tI HT_ 3 60 29 15 ?_
              refine tI HT_ 4 61 29 31 ?_
              refine tI HT_ 6 63 29 95 ?_
              refine tI HT_ 7 64 29 223 ?_
              refine tT HT_ HW_ hHeld 5 62 29 255 ?_
              refine tI HT_ 8 65 29 511 ?_
              refine tI HT_ 9 66 29 1023 ?_
              refine tI HT_ 10 67 29 2047 ?_
              refine tI HT_ 11 68 29 4095 ?_
              refine tI HT_ 13 70 29 12287 ?_
              refine tI HT_ 14 71 29 28671 ?_
              refine tI HT_ 16 73 29 94207 ?_
              refine tT HT_ HW_ hHeld 12 69 29 98303 ?_
              refine tT HT_ HW_ hHeld 15 72 29 131071 ?_
              refine tT HT_ HW_ hHeld 17 74 29 262143 ?_
              refine tI HT_ 18 75 29 524287 ?_
              refine tI HT_ 19 76 29 1048575 ?_
              refine one_ (i := 20) (N := some 77) (Steps.Bs 29 2097151) rfl rfl (one_of HT_.out z0) z5 (fun K hK => ?_)
              refine goes_ Try.func74 z0 rfl #[.slice A2_10 l2_10.length c2_10, .slice A51 ((((rd_T51 l1 a2_7).f0).take ((wrap64 (a2_9 + 1)) : Int).toNat).drop (a2_9 : Int).toNat).length (c330_0 - a2_9.toNat)] (by rfl) rfl rfl (by (try simp only [List.map_toArray, List.map_cons, List.map_nil]); first | done | (rw [show ((((rd_T51 l1 a2_7).f0).take ((wrap64 (a2_9 + 1)) : Int).toNat).drop (a2_9 : Int).toNat).length = ((wrap64 (a2_9 + 1)).toNat - a2_9.toNat) from (by rw [List.length_drop, List.length_take]; have h_ : ((wrap64 (a2_9 + 1)) : Int) ≤ (((rd_T51 l1 a2_7).f0).length : Int) := of_decide_eq_true z1; omega)] <;> rfl) | rfl | (simp only [List.length_drop, List.length_take]; rfl) | (go_simp; done) | (simp; done)) ?_
              with_reducible refine (op_small.calls kj3 _ _ l2_10 _ _ ((((rd_T51 l1 a2_7).f0).take ((wrap64 (a2_9 + 1)) : Int).toNat).drop (a2_9 : Int).toNat) false _ ?side1 ?side2 ?side3 ?side4 A43.out).mono ?_
              (case side1 => exact cX_ (C_below HR2_10.out HB.out))
              (case side2 => exact HC2_10.out)
              (case side3 => exact cX_ (C_below HR332.out HB.out))
              (case side4 => exact HC332.out)
              rintro e w52 ⟨rfl, hb⟩
              refine ⟨_, rfl, ?_⟩
              have n0_ := mk_ (bB_ BK327 hb)
              have n1_ := mk_ (below_step (Short.hB HB) hb)
              clear BK327 HB
              revert n0_ n1_
              intro BK327 HB
              (try clear hb)
              (try clear hb2)
              (try clear hk)
              (try clear hi)
              refine hK.out _ _ ⟨kc_ BK327 0, kc_ BK327 1, kc_ BK327 2, kc_ BK327 3, kc_ BK327 4, kc_ BK327 5, kc_ BK327 6, kc_ BK327 7, kc_ BK327 8, kc_ BK327 9, kc_ BK327 10, kc_ BK327 11⟩ (fun hHeld => ?_)
              clear hK K
              refine nrm 77 ?_
              refine tI HT_ 21 78 29 4194303 ?_
              refine tI HT_ 22 79 29 8388607 ?_
              refine tR HT_ 23 80 29 16777215 ?_
              refine tR HT_ 24 81 29 33554431 ?_
              refine tR HT_ 25 82 29 67108863 ?_
              refine tR HT_ 26 83 29 134217727 ?_
              refine tI HT_ 27 84 29 268435455 ?_
              refine tI HT_ 28 6 29 536870911 ?_
              refine done_ (done_of HT_.out z0) ?_
              try go_wp2
              go_ret
              exact ⟨q0, Short.hB HB⟩
            ·
             rw [if_neg c42] at H
             exact absurd H (by simp)
           ·
            rw [if_neg c41] at H
            exact absurd H (by simp)
          ·
           rw [if_neg c40] at H
           exact absurd H (by simp)
         ·
          rw [if_neg c39] at H
          have c39b0 : decide (a2_9 < (((rd_T51 l1 a2_7).f0).length : Int)) = false := decide_eq_false c39
          clear c39
          obtain rfl := Option.some.inj H
          have hcz53_0 := blk_cell BK327.out
          have hfz53_0 := blk_frozen BK327.out
          have p330 : 0 ≤ (a2_7 : Int) := of_decide_eq_true z1
          have q330 : a2_7 < (l1.length : Int) := of_decide_eq_true z1
          obtain ⟨ad330, A330_0, c330_0, e330, hx330_0, hl330_0, hi330_0⟩ := at_T51 HR1.out a2_7 p330 q330
          cases e330
          replace hx330_0 := up_ HB hx330_0
          have HR330_0 := mk_ hi330_0
          have HC330_0 := mk_ hl330_0
          clear hi330_0 hl330_0
          replace p330 := eq_true p330
          replace q330 := eq_true q330
          try go_wp2
          have n0_ := mk_ (blk_drew BK327.out)
          have n1_ := mk_ (below_drew1 HB.out)
          clear BK327 HB
          revert n0_ n1_
          intro BK327 HB
          refine start_ (n := 29) (S := fun w' => w'.cell? ⟨gb327, 0, none⟩ = some (.int .i64 a2_0) ∧ w'.cell? ⟨gb327, 1, none⟩ = some (.int .i64 a2_1) ∧ w'.cell? ⟨gb327, 2, none⟩ = some (.slice A2_2 l2_2.length c2_2) ∧ w'.cell? ⟨gb327, 3, none⟩ = some (.int .i64 a2_3) ∧ w'.cell? ⟨gb327, 4, none⟩ = some (.int .i64 a2_4) ∧ w'.cell? ⟨gb327, 5, none⟩ = some (.int .i64 a2_5) ∧ w'.cell? ⟨gb327, 6, none⟩ = some (.int .i64 a2_6) ∧ w'.cell? ⟨gb327, 7, none⟩ = some (.int .i64 a2_7) ∧ w'.cell? ⟨gb327, 8, none⟩ = some (.string a2_8) ∧ w'.cell? ⟨gb327, 9, none⟩ = some (.int .i64 a2_9) ∧ w'.cell? ⟨gb327, 10, none⟩ = some (.slice A2_10 l2_10.length c2_10) ∧ w'.cell? ⟨gb327, 11, none⟩ = some (.slice A2_11 l2_11.length c2_11)) (ds := []) (Steps.Bs 29 0) z0 rfl rfl ⟨kc_ BK327 0, kc_ BK327 1, kc_ BK327 2, kc_ BK327 3, kc_ BK327 4, kc_ BK327 5, kc_ BK327 6, kc_ BK327 7, kc_ BK327 8, kc_ BK327 9, kc_ BK327 10, kc_ BK327 11⟩ (fun hHeld => ?_); refine with_tabW op_right.tab8 op_right.bits8 (fun HT_ HW_ => ?_)
          generalize wc.drew = w54 at BK327 HB hHeld ⊢
          refine tI HT_ 0 57 29 1 ?_
          refine tT HT_ HW_ hHeld 1 58 29 3 ?_
          refine tI HT_ 2 59 29 7 ?_
          refine tI HT_ 3 60 29 15 ?_
          refine tI HT_ 4 61 29 31 ?_
          refine tI HT_ 6 63 29 95 ?_
          refine tI HT_ 7 64 29 223 ?_
          refine tT HT_ HW_ hHeld 5 62 29 255 ?_
          refine tI HT_ 8 65 29 511 ?_
          refine tI HT_ 9 66 29 1023 ?_
          refine tI HT_ 10 67 29 2047 ?_
          refine tR HT_ 11 68 29 4095 ?_
          refine tR HT_ 12 69 29 8191 ?_
          refine tR HT_ 13 70 29 16383 ?_
          refine tR HT_ 14 71 29 32767 ?_
          refine tR HT_ 15 72 29 65535 ?_
          refine tR HT_ 16 73 29 131071 ?_
          refine tR HT_ 17 74 29 262143 ?_
          refine tR HT_ 18 75 29 524287 ?_
          refine tR HT_ 19 76 29 1048575 ?_
          refine tR HT_ 20 77 29 2097151 ?_
          refine tI HT_ 21 78 29 4194303 ?_
          refine tI HT_ 22 79 29 8388607 ?_
          refine tR HT_ 23 80 29 16777215 ?_
          refine tR HT_ 24 81 29 33554431 ?_
          refine tR HT_ 25 82 29 67108863 ?_
          refine tR HT_ 26 83 29 134217727 ?_
          refine tI HT_ 27 84 29 268435455 ?_
          refine tI HT_ 28 6 29 536870911 ?_
          refine done_ (done_of HT_.out z0) ?_
          try go_wp2
          go_ret
          exact ⟨q0, Short.hB HB⟩
        ·
         rw [if_neg c38] at H
         have c38b0 : decide (0 ≤ a2_9) = false := decide_eq_false c38
         clear c38
         obtain rfl := Option.some.inj H
         have hcz55_0 := blk_cell BK327.out
         have hfz55_0 := blk_frozen BK327.out
         have p330 : 0 ≤ (a2_7 : Int) := of_decide_eq_true z1
         have q330 : a2_7 < (l1.length : Int) := of_decide_eq_true z1
         obtain ⟨ad330, A330_0, c330_0, e330, hx330_0, hl330_0, hi330_0⟩ := at_T51 HR1.out a2_7 p330 q330
         cases e330
         replace hx330_0 := up_ HB hx330_0
         have HR330_0 := mk_ hi330_0
         have HC330_0 := mk_ hl330_0
         clear hi330_0 hl330_0
         replace p330 := eq_true p330
         replace q330 := eq_true q330
         try go_wp2
         have n0_ := mk_ (blk_drew BK327.out)
         have n1_ := mk_ (below_drew1 HB.out)
         clear BK327 HB
         revert n0_ n1_
         intro BK327 HB
         refine start_ (n := 29) (S := fun w' => w'.cell? ⟨gb327, 0, none⟩ = some (.int .i64 a2_0) ∧ w'.cell? ⟨gb327, 1, none⟩ = some (.int .i64 a2_1) ∧ w'.cell? ⟨gb327, 2, none⟩ = some (.slice A2_2 l2_2.length c2_2) ∧ w'.cell? ⟨gb327, 3, none⟩ = some (.int .i64 a2_3) ∧ w'.cell? ⟨gb327, 4, none⟩ = some (.int .i64 a2_4) ∧ w'.cell? ⟨gb327, 5, none⟩ = some (.int .i64 a2_5) ∧ w'.cell? ⟨gb327, 6, none⟩ = some (.int .i64 a2_6) ∧ w'.cell? ⟨gb327, 7, none⟩ = some (.int .i64 a2_7) ∧ w'.cell? ⟨gb327, 8, none⟩ = some (.string a2_8) ∧ w'.cell? ⟨gb327, 9, none⟩ = some (.int .i64 a2_9) ∧ w'.cell? ⟨gb327, 10, none⟩ = some (.slice A2_10 l2_10.length c2_10) ∧ w'.cell? ⟨gb327, 11, none⟩ = some (.slice A2_11 l2_11.length c2_11)) (ds := []) (Steps.Bs 29 0) z0 rfl rfl ⟨kc_ BK327 0, kc_ BK327 1, kc_ BK327 2, kc_ BK327 3, kc_ BK327 4, kc_ BK327 5, kc_ BK327 6, kc_ BK327 7, kc_ BK327 8, kc_ BK327 9, kc_ BK327 10, kc_ BK327 11⟩ (fun hHeld => ?_); refine with_tabW op_right.tab8 op_right.bits8 (fun HT_ HW_ => ?_)
         generalize wc.drew = w56 at BK327 HB hHeld ⊢
         refine tI HT_ 0 57 29 1 ?_
         refine tT HT_ HW_ hHeld 1 58 29 3 ?_
         refine tI HT_ 2 59 29 7 ?_
         refine tI HT_ 3 60 29 15 ?_
         refine tR HT_ 4 61 29 31 ?_
         refine tR HT_ 5 62 29 63 ?_
         refine tR HT_ 6 63 29 127 ?_
         refine tR HT_ 7 64 29 255 ?_
         refine tR HT_ 8 65 29 511 ?_
         refine tI HT_ 9 66 29 1023 ?_
         refine tI HT_ 10 67 29 2047 ?_
         refine tR HT_ 11 68 29 4095 ?_
         refine tR HT_ 12 69 29 8191 ?_
         refine tR HT_ 13 70 29 16383 ?_
         refine tR HT_ 14 71 29 32767 ?_
         refine tR HT_ 15 72 29 65535 ?_
         refine tR HT_ 16 73 29 131071 ?_
         refine tR HT_ 17 74 29 262143 ?_
         refine tR HT_ 18 75 29 524287 ?_
         refine tR HT_ 19 76 29 1048575 ?_
         refine tR HT_ 20 77 29 2097151 ?_
         refine tI HT_ 21 78 29 4194303 ?_
         refine tI HT_ 22 79 29 8388607 ?_
         refine tR HT_ 23 80 29 16777215 ?_
         refine tR HT_ 24 81 29 33554431 ?_
         refine tR HT_ 25 82 29 67108863 ?_
         refine tR HT_ 26 83 29 134217727 ?_
         refine tI HT_ 27 84 29 268435455 ?_
         refine tI HT_ 28 6 29 536870911 ?_
         refine done_ (done_of HT_.out z0) ?_
         try go_wp2
         go_ret
         exact ⟨q0, Short.hB HB⟩
       ·
        rw [if_neg c37] at H
        have c37b0 : (a2_6 == 2) = false := beq_eq_false_iff_ne.mpr c37
        have c37b1 : (a2_6 != 2) = true := bne_iff_ne.mpr c37
        by_cases c57 : a2_6 = 3
        ·
         rw [if_pos c57] at H
         have c57b0 : (a2_6 == 3) = true := beq_iff_eq.mpr c57
         have c57b1 : (a2_6 != 3) = false := bne_eq_false_iff_eq.mpr c57
         clear c57
         by_cases c58 : (l2_11.length : Int) ≥ 1
         ·
          rw [if_pos c58] at H
          have c58b0 : decide (1 ≤ (l2_11.length : Int)) = true := decide_eq_true c58
          have c58b1 : decide (1 ≤ l2_11.length) = true := decide_eq_true z4
          clear c58
          by_cases c59 : (l2_11.length : Int) ≤ 64
          ·
           rw [if_pos c59] at H
           have c59b0 : decide ((l2_11.length : Int) ≤ 64) = true := decide_eq_true c59
           have c59b1 : decide (l2_11.length ≤ 64) = true := decide_eq_true z4
           clear c59
           replace H := Option.bind_eq_some_iff.mp H
           obtain ⟨t334, A600, H⟩ := H
           replace H : (if t334 = true then (if a2_9 = 0 then (some ((l2_10.length : Int) == 0)) else (some false)) else (some false)) = some r := H
           have A60 := mk_ A600
           clear A600
           by_cases c61 : t334 = true
           ·
            subst c61
            rw [if_pos rfl] at H
            by_cases c62 : a2_9 = 0
            ·
             rw [if_pos c62] at H
             have c62b0 : (a2_9 == 0) = true := beq_iff_eq.mpr c62
             have c62b1 : (a2_9 != 0) = false := bne_eq_false_iff_eq.mpr c62
             clear c62
             obtain rfl := Option.some.inj H
             have hcz63_0 := blk_cell BK327.out
             have hfz63_0 := blk_frozen BK327.out
             have p330 : 0 ≤ (a2_7 : Int) := of_decide_eq_true z1
             have q330 : a2_7 < (l1.length : Int) := of_decide_eq_true z1
             obtain ⟨ad330, A330_0, c330_0, e330, hx330_0, hl330_0, hi330_0⟩ := at_T51 HR1.out a2_7 p330 q330
             cases e330
             replace hx330_0 := up_ HB hx330_0
             have HR330_0 := mk_ hi330_0
             have HC330_0 := mk_ hl330_0
             clear hi330_0 hl330_0
             replace p330 := eq_true p330
             replace q330 := eq_true q330
             go_wp2_with (first | (go_at_call 75; (with_reducible refine (op_had.calls kj3 _ _ l2_2 _ _ l2_11 true _ ?side1 ?side2 ?side3 ?side4 A60.out).mono ?_); (case side1 => exact cX_ (C_below HR2_2.out HB.out)); (case side2 => exact HC2_2.out); (case side3 => exact cX_ (C_below HR2_11.out HB.out)); (case side4 => exact HC2_11.out); rintro e w64 ⟨rfl, hb⟩; have n0_ := mk_ (bB_ BK327 hb); have n1_ := mk_ (below_step (Short.hB HB) hb); clear BK327 HB; revert n0_ n1_; intro BK327 HB; (try clear hb); (try clear hb2); (try clear hk); (try clear hi); have hcz65_0 := blk_cell BK327.out; have hfz65_0 := blk_frozen BK327.out))
             go_ret
             exact ⟨q0, Short.hB HB⟩
            ·
             rw [if_neg c62] at H
             have c62b0 : (a2_9 == 0) = false := beq_eq_false_iff_ne.mpr c62
             have c62b1 : (a2_9 != 0) = true := bne_iff_ne.mpr c62
             obtain rfl := Option.some.inj H
             have hcz66_0 := blk_cell BK327.out
             have hfz66_0 := blk_frozen BK327.out
             have p330 : 0 ≤ (a2_7 : Int) := of_decide_eq_true z1
             have q330 : a2_7 < (l1.length : Int) := of_decide_eq_true z1
             obtain ⟨ad330, A330_0, c330_0, e330, hx330_0, hl330_0, hi330_0⟩ := at_T51 HR1.out a2_7 p330 q330
             cases e330
             replace hx330_0 := up_ HB hx330_0
             have HR330_0 := mk_ hi330_0
             have HC330_0 := mk_ hl330_0
             clear hi330_0 hl330_0
             replace p330 := eq_true p330
             replace q330 := eq_true q330
             go_wp2_with (first | (go_at_call 75; (with_reducible refine (op_had.calls kj3 _ _ l2_2 _ _ l2_11 true _ ?side1 ?side2 ?side3 ?side4 A60.out).mono ?_); (case side1 => exact cX_ (C_below HR2_2.out HB.out)); (case side2 => exact HC2_2.out); (case side3 => exact cX_ (C_below HR2_11.out HB.out)); (case side4 => exact HC2_11.out); rintro e w67 ⟨rfl, hb⟩; have n0_ := mk_ (bB_ BK327 hb); have n1_ := mk_ (below_step (Short.hB HB) hb); clear BK327 HB; revert n0_ n1_; intro BK327 HB; (try clear hb); (try clear hb2); (try clear hk); (try clear hi); have hcz68_0 := blk_cell BK327.out; have hfz68_0 := blk_frozen BK327.out))
             go_ret
             exact ⟨q0, Short.hB HB⟩
           ·
            replace c61 := Bool.eq_false_iff.mpr c61
            subst c61
            rw [if_neg (show ¬ (false = true) by decide)] at H
            obtain rfl := Option.some.inj H
            have hcz69_0 := blk_cell BK327.out
            have hfz69_0 := blk_frozen BK327.out
            have p330 : 0 ≤ (a2_7 : Int) := of_decide_eq_true z1
            have q330 : a2_7 < (l1.length : Int) := of_decide_eq_true z1
            obtain ⟨ad330, A330_0, c330_0, e330, hx330_0, hl330_0, hi330_0⟩ := at_T51 HR1.out a2_7 p330 q330
            cases e330
            replace hx330_0 := up_ HB hx330_0
            have HR330_0 := mk_ hi330_0
            have HC330_0 := mk_ hl330_0
            clear hi330_0 hl330_0
            replace p330 := eq_true p330
            replace q330 := eq_true q330
            go_wp2_with (first | (go_at_call 75; (with_reducible refine (op_had.calls kj3 _ _ l2_2 _ _ l2_11 false _ ?side1 ?side2 ?side3 ?side4 A60.out).mono ?_); (case side1 => exact cX_ (C_below HR2_2.out HB.out)); (case side2 => exact HC2_2.out); (case side3 => exact cX_ (C_below HR2_11.out HB.out)); (case side4 => exact HC2_11.out); rintro e w70 ⟨rfl, hb⟩; have n0_ := mk_ (bB_ BK327 hb); have n1_ := mk_ (below_step (Short.hB HB) hb); clear BK327 HB; revert n0_ n1_; intro BK327 HB; (try clear hb); (try clear hb2); (try clear hk); (try clear hi)))
            go_ret
            exact ⟨q0, Short.hB HB⟩
          ·
           rw [if_neg c59] at H
           have c59b0 : decide ((l2_11.length : Int) ≤ 64) = false := decide_eq_false c59
           have c59b1 : decide (l2_11.length ≤ 64) = false := decide_eq_false z4
           clear c59
           obtain rfl := Option.some.inj H
           have hcz71_0 := blk_cell BK327.out
           have hfz71_0 := blk_frozen BK327.out
           have p330 : 0 ≤ (a2_7 : Int) := of_decide_eq_true z1
           have q330 : a2_7 < (l1.length : Int) := of_decide_eq_true z1
           obtain ⟨ad330, A330_0, c330_0, e330, hx330_0, hl330_0, hi330_0⟩ := at_T51 HR1.out a2_7 p330 q330
           cases e330
           replace hx330_0 := up_ HB hx330_0
           have HR330_0 := mk_ hi330_0
           have HC330_0 := mk_ hl330_0
           clear hi330_0 hl330_0
           replace p330 := eq_true p330
           replace q330 := eq_true q330
           go_wp2
           go_ret
           exact ⟨q0, Short.hB HB⟩
         ·
          rw [if_neg c58] at H
          have c58b0 : decide (1 ≤ (l2_11.length : Int)) = false := decide_eq_false c58
          have c58b1 : decide (1 ≤ l2_11.length) = false := decide_eq_false z4
          clear c58
          obtain rfl := Option.some.inj H
          have hcz72_0 := blk_cell BK327.out
          have hfz72_0 := blk_frozen BK327.out
          have p330 : 0 ≤ (a2_7 : Int) := of_decide_eq_true z1
          have q330 : a2_7 < (l1.length : Int) := of_decide_eq_true z1
          obtain ⟨ad330, A330_0, c330_0, e330, hx330_0, hl330_0, hi330_0⟩ := at_T51 HR1.out a2_7 p330 q330
          cases e330
          replace hx330_0 := up_ HB hx330_0
          have HR330_0 := mk_ hi330_0
          have HC330_0 := mk_ hl330_0
          clear hi330_0 hl330_0
          replace p330 := eq_true p330
          replace q330 := eq_true q330
          go_wp2
          go_ret
          exact ⟨q0, Short.hB HB⟩
        ·
         rw [if_neg c57] at H
         have c57b0 : (a2_6 == 3) = false := beq_eq_false_iff_ne.mpr c57
         have c57b1 : (a2_6 != 3) = true := bne_iff_ne.mpr c57
         obtain rfl := Option.some.inj H
         have hcz73_0 := blk_cell BK327.out
         have hfz73_0 := blk_frozen BK327.out
         have p330 : 0 ≤ (a2_7 : Int) := of_decide_eq_true z1
         have q330 : a2_7 < (l1.length : Int) := of_decide_eq_true z1
         obtain ⟨ad330, A330_0, c330_0, e330, hx330_0, hl330_0, hi330_0⟩ := at_T51 HR1.out a2_7 p330 q330
         cases e330
         replace hx330_0 := up_ HB hx330_0
         have HR330_0 := mk_ hi330_0
         have HC330_0 := mk_ hl330_0
         clear hi330_0 hl330_0
         replace p330 := eq_true p330
         replace q330 := eq_true q330
         go_wp2
         go_ret
         exact ⟨q0, Short.hB HB⟩
     ·
      rw [if_neg c24] at H
      exact absurd H (by simp)
    ·
     rw [if_neg c23] at H
     exact absurd H (by simp)
end Go.Proofs.Ytjnjfogfpmeacaa.PAll
end
section
namespace Go.Proofs.Ytjnjfogfpmeacaa.PAll
open Go.RowKit PrintWords PrintLast PrintMore ZipT PrintWords.Kd PrintMore.Kd
attribute [local go_sem] max2_int min2_int max_two min_two max_three min_three max_four min_four   -- for this text's walks alone
set_option linter.unusedVariables false
set_option linter.unusedSimpArgs false
def op_Check.f (k : Nat) (a0 : Int) (l1 : List (S51)) (a2_0 : Int) (a2_1 : Int) (l2_2 : List Int) (a2_3 : Int) (a2_4 : Int) (a2_5 : Int) (a2_6 : Int) (a2_7 : Int) (a2_8 : ByteArray) (a2_9 : Int) (l2_10 : List (S84)) (l2_11 : List (S25)) : Option (Int) := (op_Forms.f k l1).bind fun t336 => (if t336 = 0 then (if a0 < 1 then (some 1) else (if a0 > 5 then (some 1) else ((op_right.f k a0 l1 a2_0 a2_1 l2_2 a2_3 a2_4 a2_5 a2_6 a2_7 a2_8 a2_9 l2_10 l2_11).bind fun t337 => (if t337 = true then (some 0) else (some 1))))) else (some t336))
theorem op_Check.calls (k : Nat) (a0 : Int) (A1 : Option Addr) (c1 : Nat) (l1 : List (S51)) (a2_0 : Int) (a2_1 : Int) (A2_2 : Option Addr) (c2_2 : Nat) (l2_2 : List Int) (a2_3 : Int) (a2_4 : Int) (a2_5 : Int) (a2_6 : Int) (a2_7 : Int) (a2_8 : ByteArray) (a2_9 : Int) (A2_10 : Option Addr) (c2_10 : Nat) (l2_10 : List (S84)) (A2_11 : Option Addr) (c2_11 : Nat) (l2_11 : List (S25)) (r : Int) (w : World) (hr1 : Kd.C k51 w A1 l1.length l1) (hc1 : l1.length ≤ c1) (hr2_2 : Kd.C (Kd.int .i64) w A2_2 l2_2.length l2_2) (hc2_2 : l2_2.length ≤ c2_2) (hr2_10 : Kd.C k84 w A2_10 l2_10.length l2_10) (hc2_10 : l2_10.length ≤ c2_10) (hr2_11 : Kd.C k25 w A2_11 l2_11.length l2_11) (hc2_11 : l2_11.length ≤ c2_11) (h : op_Check.f k a0 l1 a2_0 a2_1 l2_2 a2_3 a2_4 a2_5 a2_6 a2_7 a2_8 a2_9 l2_10 l2_11 = some r) :
  Calls Try.prog 19 #[.int .i64 a0, .slice A1 l1.length c1, .agg #[.int .i64 a2_0, .int .i64 a2_1, .slice A2_2 l2_2.length c2_2, .int .i64 a2_3, .int .i64 a2_4, .int .i64 a2_5, .int .i64 a2_6, .int .i64 a2_7, .string a2_8, .int .i64 a2_9, .slice A2_10 l2_10.length c2_10, .slice A2_11 l2_11.length c2_11]] w fun e w' => e = .returned (.int .i64 r) ∧ Below w.heap.size w w' := by
 have hu32 := Try.underlying32
 have HR1 := mk_ hr1
 have HC1 := mk_ hc1
 clear hr1 hc1
 have HR2_2 := mk_ hr2_2
 have HC2_2 := mk_ hc2_2
 clear hr2_2 hc2_2
 have HR2_10 := mk_ hr2_10
 have HC2_10 := mk_ hc2_10
 clear hr2_10 hc2_10
 have HR2_11 := mk_ hr2_11
 have HC2_11 := mk_ hc2_11
 clear hr2_11 hc2_11
 have HB := mk_ (Below.refl w.heap.size w)
 have H : ((op_Forms.f k l1).bind fun t336 => (if t336 = 0 then (if a0 < 1 then (some 1) else (if a0 > 5 then (some 1) else ((op_right.f k a0 l1 a2_0 a2_1 l2_2 a2_3 a2_4 a2_5 a2_6 a2_7 a2_8 a2_9 l2_10 l2_11).bind fun t337 => (if t337 = true then (some 0) else (some 1))))) else (some t336))) = some r := h
 clear h
 replace H := Option.bind_eq_some_iff.mp H
 obtain ⟨t336, A40, H⟩ := H
 replace H : (if t336 = 0 then (if a0 < 1 then (some 1) else (if a0 > 5 then (some 1) else ((op_right.f k a0 l1 a2_0 a2_1 l2_2 a2_3 a2_4 a2_5 a2_6 a2_7 a2_8 a2_9 l2_10 l2_11).bind fun t337 => (if t337 = true then (some 0) else (some 1))))) else (some t336)) = some r := H
 have A4 := mk_ A40
 clear A40
 by_cases c5 : t336 = 0
 rotate_left
 ·
  rw [if_neg c5] at H
  have c5b0 : (t336 == 0) = false := beq_eq_false_iff_ne.mpr c5
  have c5b1 : (t336 != 0) = true := bne_iff_ne.mpr c5
  obtain rfl := Option.some.inj H
  go_enter Try.func19, Try.ntmps19
  go_wp2_with (first | ((with_reducible refine gate_dst (N := 5) rfl ?_); refine box_event ?hg (N := 5) ?hd (cs := #[.int .i64 a2_0, .int .i64 a2_1, .slice A2_2 l2_2.length c2_2, .int .i64 a2_3, .int .i64 a2_4, .int .i64 a2_5, .int .i64 a2_6, .int .i64 a2_7, .string a2_8, .int .i64 a2_9, .slice A2_10 l2_10.length c2_10, .slice A2_11 l2_11.length c2_11]) (t := 32) ?hr ?_; (case hd => rfl); (case hg => rfl); (case hr => first | (go_simp; done) | (go_simp; rfl)); intro gb335 hg w22 hbox hb; have n0_ := mk_ (below_step (Short.hB HB) hb); have n1_ := mk_ (hbox); have n2_ := mk_ ((by rw [hg]; exact (below_size (Short.hB HB)) : w.heap.size ≤ gb335)); have n3_ := mk_ ((by rw [hg]; exact (below_size (Short.hB HB)) : w.heap.size ≤ gb335)); clear HB; revert n0_ n1_ n2_ n3_; intro HB BK335 GW335 GE335; clear hb hbox hg) | ((with_reducible refine gate_callee (f := 24) rfl ?_); refine Short.gL (some 9) Try.func24 #[.slice A1 l1.length c1] (h := ?_); (with_reducible refine (op_Forms.calls k _ _ l1 t336 _ ?side1 ?side2 A4.out).mono ?_); (case side1 => exact cX_ (C_below HR1.out HB.out)); (case side2 => exact HC1.out); rintro e w23 ⟨rfl, hb⟩; refine ⟨_, rfl, ?_⟩; have n0_ := mk_ (bB_ BK335 hb); have n1_ := mk_ (below_step (Short.hB HB) hb); clear BK335 HB; revert n0_ n1_; intro BK335 HB; (try clear hb)))
  go_ret
  exact ⟨q0, Short.hB HB⟩
 rw [if_pos c5] at H
 have c5b0 : (t336 == 0) = true := beq_iff_eq.mpr c5
 have c5b1 : (t336 != 0) = false := bne_eq_false_iff_eq.mpr c5
 clear c5
 by_cases c6 : a0 < 1
 ·
  rw [if_pos c6] at H
  have c6b0 : decide (a0 < 1) = true := decide_eq_true c6
  clear c6
  obtain rfl := Option.some.inj H
  go_enter Try.func19, Try.ntmps19
  go_wp2_with (first | ((with_reducible refine gate_dst (N := 5) rfl ?_); refine box_event ?hg (N := 5) ?hd (cs := #[.int .i64 a2_0, .int .i64 a2_1, .slice A2_2 l2_2.length c2_2, .int .i64 a2_3, .int .i64 a2_4, .int .i64 a2_5, .int .i64 a2_6, .int .i64 a2_7, .string a2_8, .int .i64 a2_9, .slice A2_10 l2_10.length c2_10, .slice A2_11 l2_11.length c2_11]) (t := 32) ?hr ?_; (case hd => rfl); (case hg => rfl); (case hr => first | (go_simp; done) | (go_simp; rfl)); intro gb335 hg w7 hbox hb; have n0_ := mk_ (below_step (Short.hB HB) hb); have n1_ := mk_ (hbox); have n2_ := mk_ ((by rw [hg]; exact (below_size (Short.hB HB)) : w.heap.size ≤ gb335)); have n3_ := mk_ ((by rw [hg]; exact (below_size (Short.hB HB)) : w.heap.size ≤ gb335)); clear HB; revert n0_ n1_ n2_ n3_; intro HB BK335 GW335 GE335; clear hb hbox hg) | ((with_reducible refine gate_callee (f := 24) rfl ?_); refine Short.gL (some 9) Try.func24 #[.slice A1 l1.length c1] (h := ?_); (with_reducible refine (op_Forms.calls k _ _ l1 t336 _ ?side1 ?side2 A4.out).mono ?_); (case side1 => exact cX_ (C_below HR1.out HB.out)); (case side2 => exact HC1.out); rintro e w8 ⟨rfl, hb⟩; refine ⟨_, rfl, ?_⟩; have n0_ := mk_ (bB_ BK335 hb); have n1_ := mk_ (below_step (Short.hB HB) hb); clear BK335 HB; revert n0_ n1_; intro BK335 HB; (try clear hb)))
  go_ret
  exact ⟨q0, Short.hB HB⟩
 rw [if_neg c6] at H
 have c6b0 : decide (a0 < 1) = false := decide_eq_false c6
 clear c6
 by_cases c9 : a0 > 5
 ·
  rw [if_pos c9] at H
  have c9b0 : decide (5 < a0) = true := decide_eq_true c9
  clear c9
  obtain rfl := Option.some.inj H
  go_enter Try.func19, Try.ntmps19
  go_wp2_with (first | ((with_reducible refine gate_dst (N := 5) rfl ?_); refine box_event ?hg (N := 5) ?hd (cs := #[.int .i64 a2_0, .int .i64 a2_1, .slice A2_2 l2_2.length c2_2, .int .i64 a2_3, .int .i64 a2_4, .int .i64 a2_5, .int .i64 a2_6, .int .i64 a2_7, .string a2_8, .int .i64 a2_9, .slice A2_10 l2_10.length c2_10, .slice A2_11 l2_11.length c2_11]) (t := 32) ?hr ?_; (case hd => rfl); (case hg => rfl); (case hr => first | (go_simp; done) | (go_simp; rfl)); intro gb335 hg w10 hbox hb; have n0_ := mk_ (below_step (Short.hB HB) hb); have n1_ := mk_ (hbox); have n2_ := mk_ ((by rw [hg]; exact (below_size (Short.hB HB)) : w.heap.size ≤ gb335)); have n3_ := mk_ ((by rw [hg]; exact (below_size (Short.hB HB)) : w.heap.size ≤ gb335)); clear HB; revert n0_ n1_ n2_ n3_; intro HB BK335 GW335 GE335; clear hb hbox hg) | ((with_reducible refine gate_callee (f := 24) rfl ?_); refine Short.gL (some 9) Try.func24 #[.slice A1 l1.length c1] (h := ?_); (with_reducible refine (op_Forms.calls k _ _ l1 t336 _ ?side1 ?side2 A4.out).mono ?_); (case side1 => exact cX_ (C_below HR1.out HB.out)); (case side2 => exact HC1.out); rintro e w11 ⟨rfl, hb⟩; refine ⟨_, rfl, ?_⟩; have n0_ := mk_ (bB_ BK335 hb); have n1_ := mk_ (below_step (Short.hB HB) hb); clear BK335 HB; revert n0_ n1_; intro BK335 HB; (try clear hb)))
  go_ret
  exact ⟨q0, Short.hB HB⟩
 rw [if_neg c9] at H
 have c9b0 : decide (5 < a0) = false := decide_eq_false c9
 clear c9
 replace H := Option.bind_eq_some_iff.mp H
 obtain ⟨t337, A120, H⟩ := H
 replace H : (if t337 = true then (some 0) else (some 1)) = some r := H
 have A12 := mk_ A120
 clear A120
 by_cases c13 : t337 = true
 ·
  subst c13
  rw [if_pos rfl] at H
  obtain rfl := Option.some.inj H
  go_enter Try.func19, Try.ntmps19
  go_wp2_with (first | ((with_reducible refine gate_dst (N := 5) rfl ?_); refine box_event ?hg (N := 5) ?hd (cs := #[.int .i64 a2_0, .int .i64 a2_1, .slice A2_2 l2_2.length c2_2, .int .i64 a2_3, .int .i64 a2_4, .int .i64 a2_5, .int .i64 a2_6, .int .i64 a2_7, .string a2_8, .int .i64 a2_9, .slice A2_10 l2_10.length c2_10, .slice A2_11 l2_11.length c2_11]) (t := 32) ?hr ?_; (case hd => rfl); (case hg => rfl); (case hr => first | (go_simp; done) | (go_simp; rfl)); intro gb335 hg w14 hbox hb; have n0_ := mk_ (below_step (Short.hB HB) hb); have n1_ := mk_ (hbox); have n2_ := mk_ ((by rw [hg]; exact (below_size (Short.hB HB)) : w.heap.size ≤ gb335)); have n3_ := mk_ ((by rw [hg]; exact (below_size (Short.hB HB)) : w.heap.size ≤ gb335)); clear HB; revert n0_ n1_ n2_ n3_; intro HB BK335 GW335 GE335; clear hb hbox hg) | ((with_reducible refine gate_callee (f := 24) rfl ?_); refine Short.gL (some 9) Try.func24 #[.slice A1 l1.length c1] (h := ?_); (with_reducible refine (op_Forms.calls k _ _ l1 t336 _ ?side1 ?side2 A4.out).mono ?_); (case side1 => exact cX_ (C_below HR1.out HB.out)); (case side2 => exact HC1.out); rintro e w15 ⟨rfl, hb⟩; refine ⟨_, rfl, ?_⟩; have n0_ := mk_ (bB_ BK335 hb); have n1_ := mk_ (below_step (Short.hB HB) hb); clear BK335 HB; revert n0_ n1_; intro BK335 HB; (try clear hb); have hcz16_0 := blk_cell BK335.out; have hfz16_0 := blk_frozen BK335.out) | (go_at_call 36; (with_reducible refine (op_right.calls k a0 _ _ l1 a2_0 a2_1 _ _ l2_2 a2_3 a2_4 a2_5 a2_6 a2_7 a2_8 a2_9 _ _ l2_10 _ _ l2_11 true _ ?side1 ?side2 ?side3 ?side4 ?side5 ?side6 ?side7 ?side8 A12.out).mono ?_); (case side1 => exact cX_ (C_below HR1.out HB.out)); (case side2 => exact HC1.out); (case side3 => exact cX_ (C_below HR2_2.out HB.out)); (case side4 => exact HC2_2.out); (case side5 => exact cX_ (C_below HR2_10.out HB.out)); (case side6 => exact HC2_10.out); (case side7 => exact cX_ (C_below HR2_11.out HB.out)); (case side8 => exact HC2_11.out); rintro e w17 ⟨rfl, hb⟩; have n0_ := mk_ (bB_ BK335 hb); have n1_ := mk_ (below_step (Short.hB HB) hb); clear BK335 HB; revert n0_ n1_; intro BK335 HB; (try clear hb); (try clear hb2); (try clear hk); (try clear hi)))
  go_ret
  exact ⟨q0, Short.hB HB⟩
 replace c13 := Bool.eq_false_iff.mpr c13
 subst c13
 rw [if_neg (show ¬ (false = true) by decide)] at H
 obtain rfl := Option.some.inj H
 go_enter Try.func19, Try.ntmps19
 go_wp2_with (first | ((with_reducible refine gate_dst (N := 5) rfl ?_); refine box_event ?hg (N := 5) ?hd (cs := #[.int .i64 a2_0, .int .i64 a2_1, .slice A2_2 l2_2.length c2_2, .int .i64 a2_3, .int .i64 a2_4, .int .i64 a2_5, .int .i64 a2_6, .int .i64 a2_7, .string a2_8, .int .i64 a2_9, .slice A2_10 l2_10.length c2_10, .slice A2_11 l2_11.length c2_11]) (t := 32) ?hr ?_; (case hd => rfl); (case hg => rfl); (case hr => first | (go_simp; done) | (go_simp; rfl)); intro gb335 hg w18 hbox hb; have n0_ := mk_ (below_step (Short.hB HB) hb); have n1_ := mk_ (hbox); have n2_ := mk_ ((by rw [hg]; exact (below_size (Short.hB HB)) : w.heap.size ≤ gb335)); have n3_ := mk_ ((by rw [hg]; exact (below_size (Short.hB HB)) : w.heap.size ≤ gb335)); clear HB; revert n0_ n1_ n2_ n3_; intro HB BK335 GW335 GE335; clear hb hbox hg) | ((with_reducible refine gate_callee (f := 24) rfl ?_); refine Short.gL (some 9) Try.func24 #[.slice A1 l1.length c1] (h := ?_); (with_reducible refine (op_Forms.calls k _ _ l1 t336 _ ?side1 ?side2 A4.out).mono ?_); (case side1 => exact cX_ (C_below HR1.out HB.out)); (case side2 => exact HC1.out); rintro e w19 ⟨rfl, hb⟩; refine ⟨_, rfl, ?_⟩; have n0_ := mk_ (bB_ BK335 hb); have n1_ := mk_ (below_step (Short.hB HB) hb); clear BK335 HB; revert n0_ n1_; intro BK335 HB; (try clear hb); have hcz20_0 := blk_cell BK335.out; have hfz20_0 := blk_frozen BK335.out) | (go_at_call 36; (with_reducible refine (op_right.calls k a0 _ _ l1 a2_0 a2_1 _ _ l2_2 a2_3 a2_4 a2_5 a2_6 a2_7 a2_8 a2_9 _ _ l2_10 _ _ l2_11 false _ ?side1 ?side2 ?side3 ?side4 ?side5 ?side6 ?side7 ?side8 A12.out).mono ?_); (case side1 => exact cX_ (C_below HR1.out HB.out)); (case side2 => exact HC1.out); (case side3 => exact cX_ (C_below HR2_2.out HB.out)); (case side4 => exact HC2_2.out); (case side5 => exact cX_ (C_below HR2_10.out HB.out)); (case side6 => exact HC2_10.out); (case side7 => exact cX_ (C_below HR2_11.out HB.out)); (case side8 => exact HC2_11.out); rintro e w21 ⟨rfl, hb⟩; have n0_ := mk_ (bB_ BK335 hb); have n1_ := mk_ (below_step (Short.hB HB) hb); clear BK335 HB; revert n0_ n1_; intro BK335 HB; (try clear hb); (try clear hb2); (try clear hk); (try clear hi)))
 go_ret
 exact ⟨q0, Short.hB HB⟩
def raddlekeep_Twin.f (l0 : List Int) : Option (List Int) := if ([] : List Int).length + l0.length < 140737488355328 then (some (([] : List Int) ++ l0)) else (none)
theorem raddlekeep_Twin.calls (A0 : Option Addr) (c0 : Nat) (l0 : List Int) (r : List Int) (w : World) (hr0 : Kd.C (Kd.int .u8) w A0 l0.length l0) (hc0 : l0.length ≤ c0) (h : raddlekeep_Twin.f l0 = some r) :
  Calls Try.prog 10 #[.slice A0 l0.length c0] w fun e w' => ∃ v0_ : Value, e = .returned (v0_) ∧ Kd.R (Kd.int .u8) 5 w' w.heap.size (fun _ => True) v0_ r ∧ Below w.heap.size w w' := by
 have HR0 := mk_ hr0
 have HC0 := mk_ hc0
 clear hr0 hc0
 have HB := mk_ (Below.refl w.heap.size w)
 have H : (if ([] : List Int).length + l0.length < 140737488355328 then (some (([] : List Int) ++ l0)) else (none)) = some r := h
 clear h
 by_cases c2 : ([] : List Int).length + l0.length < 140737488355328
 rotate_left
 ·
  rw [if_neg c2] at H
  exact absurd H (by simp)
 rw [if_pos c2] at H
 have LMc2 := mk_ c2
 clear c2
 obtain ⟨y392, hy392⟩ : ∃ y_ : List Int, y_ = (([] : List Int) ++ l0) := ⟨_, rfl⟩
 replace H : (some y392) = some r := by first | (rw [hy392]; with_reducible exact H) | (have H2_ := (Option.bind_some _ _).symm.trans H; rw [hy392]; with_reducible exact H2_) | (have H2_ := (Option.bind_some _ _).symm.trans H; with_reducible exact H2_) | with_reducible exact H | (rw [hy392]; exact H) | exact H
 have Ny392 := mk_ hy392
 clear hy392
 obtain rfl := Option.some.inj H
 go_enter Try.func10, Try.ntmps10
 go_wp2_with (first | ((with_reducible refine gate_builtin (b := .append) (xs := #[.tmp 4, .tmp 5]) rfl ?_); at_builtin; refine R_append_rows (Kd.int .u8) (w0 := w) w.heap.size rfl (.tmp 4) (.tmp 5) 22 5 (.int .u8 0) 1 rfl Try.underlying22 info5 rfl z5 z4 (.slice none 0 0) ([] : List Int) l0 _ _ _ (fun _ => True) (fun _ => False) rfl rfl ?aO ?aR (fun _ _ h => h) (fun _ h => h.elim) ?aF ?aB ?aS ?aL ?_; (case aR => repeat (first | exact HR0.out | (with_reducible refine C_alloc ?_ _) | (with_reducible refine C_drewN ?_ _) | (with_reducible refine C_drew ?_))); (case aB => exact (Short.hB HB)); (case aF => exact (fun _ _ => trivial)); (case aO => exact ((R_nil _ _ _ _ (fun _ => True)))); (case aS => exact (below_size (Short.hB HB))); (case aL => have := LMc2.out; omega); intro v393 w3 ho hb hg hat; rw [← Ny392.out] at ho; have n0_ := mk_ (hb); have n1_ := mk_ (ho); clear HB; revert n0_ n1_; intro HB HO394; clear ho hb hg hat))
 go_ret
 exact ⟨_, by first | rfl | (simp [errW_none, errW_some] <;> rfl) | (simp [*, errW_none, errW_some] <;> rfl), by (with_reducible repeat (first | apply R_alloc | apply R_drewN | apply R_drew)); exact HO394.out, Short.hB HB⟩
def raddleref01_in.f (a0 : Int) (a1 : Int) (a2 : Int) : Option (Bool) := if a0 ≥ a1 then (some (decide (a0 ≤ a2))) else (some false)
theorem raddleref01_in.calls (a0 : Int) (a1 : Int) (a2 : Int) (r : Bool) (w : World) (h : raddleref01_in.f a0 a1 a2 = some r) :
  Calls Try.prog 27 #[.int .i64 a0, .int .i64 a1, .int .i64 a2] w fun e w' => e = .returned (.bool r) ∧ Drawn0 w w' := by
 have H : (if a0 ≥ a1 then (some (decide (a0 ≤ a2))) else (some false)) = some r := h
 clear h
 by_cases c4 : a0 ≥ a1
 ·
  rw [if_pos c4] at H
  have c4b0 : decide (a1 ≤ a0) = true := decide_eq_true c4
  clear c4
  obtain rfl := Option.some.inj H
  go_enter Try.func27, Try.ntmps27
  go_wp2
  go_ret
  exact ⟨z3, by repeat (first | exact Drawn0.refl _ | apply Drawn0.step)⟩
 rw [if_neg c4] at H
 have c4b0 : decide (a1 ≤ a0) = false := decide_eq_false c4
 clear c4
 obtain rfl := Option.some.inj H
 go_enter Try.func27, Try.ntmps27
 go_wp2
 go_ret
 exact ⟨z3, by repeat (first | exact Drawn0.refl _ | apply Drawn0.step)⟩
def raddleref01_num.l0 : Nat → List Int → Int → Int → Option (Int)
 | 0, _, _, _ => none
 | k + 1, x0, x3, x4 => if x4 < (x0.length : Int) then (if 0 ≤ x4 then (raddleref01_num.l0 k x0 (Go.bits .or .i64 (wrap64 (x3 * 256)) (wrap64 (rd x0 x4))) (wrap64 (x4 + 1))) else (none)) else (some x3)
def raddleref01_num.f (k : Nat) (l0 : List Int) : Option (Int) := raddleref01_num.l0 k l0 0 0
theorem raddleref01_num.calls (k : Nat) (A0 : Option Addr) (c0 : Nat) (l0 : List Int) (r : Int) (w : World) (hr0 : Kd.C (Kd.int .u8) w A0 l0.length l0) (hc0 : l0.length ≤ c0) (h : raddleref01_num.f k l0 = some r) :
  Calls Try.prog 95 #[.slice A0 l0.length c0] w fun e w' => e = .returned (.int .i64 r) ∧ Drawn0 w w' := by
 have HR0 := mk_ hr0
 have HC0 := mk_ hc0
 clear hr0 hc0
 have H : (raddleref01_num.l0 k l0 0 0) = some r := h
 clear h
 have H' := mk_ H
 clear H
 go_enter Try.func95, Try.ntmps95
 go_wp2
 go_loopg [3, 4] k (fun kq v3 v4 w' => ∃ (x3_1 : Int) (x4_1 : Int), v3 = .int .i64 x3_1 ∧ v4 = .int .i64 x4_1 ∧ Aside0 (raddleref01_num.l0 kq l0 x3_1 x4_1 = some r) ∧ Aside0 (kq ≤ k) ∧ Drawn0 w w')
 case atStart => exact ⟨(0), (0), z3, z3, H', ⟨Nat.le_refl _⟩, by repeat (first | exact Drawn0.refl _ | apply Drawn0.step)⟩
 case round =>
  clear H'
  obtain ⟨x3_1, x4_1, rfl, rfl, HA, HK1, ⟨m1, rfl⟩⟩ := hrel
  cases gk with
  | zero => exact absurd HA.out (by simp [raddleref01_num.l0])
  | succ k1 =>
   have H := HA.out
   clear HA
   simp only [raddleref01_num.l0] at H
   by_cases c2 : x4_1 < (l0.length : Int)
   rotate_left
   ·
    rw [if_neg c2] at H
    have c2b0 : decide (x4_1 < (l0.length : Int)) = false := decide_eq_false c2
    clear c2
    obtain rfl := Option.some.inj H
    go_wp2
    go_ret
    exact ⟨z3, by repeat (first | exact Drawn0.refl _ | apply Drawn0.step)⟩
   rw [if_pos c2] at H
   have c2b0 : decide (x4_1 < (l0.length : Int)) = true := decide_eq_true c2
   clear c2
   by_cases c3 : 0 ≤ x4_1
   rotate_left
   ·
    rw [if_neg c3] at H
    exact absurd H (by simp)
   rw [if_pos c3] at H
   have c3b0 : decide (0 ≤ x4_1) = true := decide_eq_true c3
   clear c3
   have H' := mk_ H
   clear H
   have p395 : 0 ≤ (x4_1 : Int) := of_decide_eq_true z1
   have q395 : x4_1 < (l0.length : Int) := of_decide_eq_true z1
   obtain ⟨ad395, e395, hx395_0⟩ := Kd.at_int HR0.out x4_1 p395 q395
   cases e395
   replace p395 := eq_true p395
   replace q395 := eq_true q395
   go_wp2
   go_roundg k1
   case measure => have := HK1.out; omega
   case rel => exact ⟨(Go.bits .or .i64 (wrap64 (x3_1 * 256)) (wrap64 (rd l0 x4_1))), (wrap64 (x4_1 + 1)), z3, z3, H', ⟨by have := HK1.out; omega⟩, by repeat (first | exact Drawn0.refl _ | apply Drawn0.step)⟩
def raddleref01_GetText.f (l0 : List Int) (a1 : Int) : Option (ByteArray × Int × Int) := (raddleref01_in.f a1 0 (l0.length : Int)).bind fun t398 => (if t398 = true then (if a1 = (l0.length : Int) then (some ((⟨#[]⟩ : ByteArray), 0, 3)) else (if 0 ≤ a1 then (if a1 < (l0.length : Int) then (if (wrap64 (rd l0 a1)) > 24 then (some ((⟨#[]⟩ : ByteArray), 0, 3)) else (if (wrap64 ((wrap64 ((l0.length : Int) - a1)) - 1)) < (wrap64 (rd l0 a1)) then (some ((⟨#[]⟩ : ByteArray), 0, 3)) else (if 0 ≤ (wrap64 (a1 + 1)) then (if (wrap64 (a1 + 1)) ≤ (wrap64 ((wrap64 (a1 + 1)) + (wrap64 (rd l0 a1)))) then (if (wrap64 ((wrap64 (a1 + 1)) + (wrap64 (rd l0 a1)))) ≤ (l0.length : Int) then (some (strOfNums ((l0.take ((wrap64 ((wrap64 (a1 + 1)) + (wrap64 (rd l0 a1)))) : Int).toNat).drop ((wrap64 (a1 + 1)) : Int).toNat), wrap64 ((wrap64 (a1 + 1)) + (wrap64 (rd l0 a1))), 0)) else (none)) else (none)) else (none)))) else (none)) else (none))) else (some ((⟨#[]⟩ : ByteArray), 0, 1)))
theorem raddleref01_GetText.calls (A0 : Option Addr) (c0 : Nat) (l0 : List Int) (a1 : Int) (r1 : ByteArray) (r2 : Int) (r3 : Int) (w : World) (hr0 : Kd.C (Kd.int .u8) w A0 l0.length l0) (hc0 : l0.length ≤ c0) (h : raddleref01_GetText.f l0 a1 = some (r1, r2, r3)) :
  Calls Try.prog 96 #[.slice A0 l0.length c0, .int .i64 a1] w fun e w' => e = .returned (.tuple #[.string r1, .int .i64 r2, .int .i64 r3]) ∧ Below w.heap.size w w' := by
 have HR0 := mk_ hr0
 have HC0 := mk_ hc0
 clear hr0 hc0
 have HB := mk_ (Below.refl w.heap.size w)
 have H : ((raddleref01_in.f a1 0 (l0.length : Int)).bind fun t398 => (if t398 = true then (if a1 = (l0.length : Int) then (some ((⟨#[]⟩ : ByteArray), 0, 3)) else (if 0 ≤ a1 then (if a1 < (l0.length : Int) then (if (wrap64 (rd l0 a1)) > 24 then (some ((⟨#[]⟩ : ByteArray), 0, 3)) else (if (wrap64 ((wrap64 ((l0.length : Int) - a1)) - 1)) < (wrap64 (rd l0 a1)) then (some ((⟨#[]⟩ : ByteArray), 0, 3)) else (if 0 ≤ (wrap64 (a1 + 1)) then (if (wrap64 (a1 + 1)) ≤ (wrap64 ((wrap64 (a1 + 1)) + (wrap64 (rd l0 a1)))) then (if (wrap64 ((wrap64 (a1 + 1)) + (wrap64 (rd l0 a1)))) ≤ (l0.length : Int) then (some (strOfNums ((l0.take ((wrap64 ((wrap64 (a1 + 1)) + (wrap64 (rd l0 a1)))) : Int).toNat).drop ((wrap64 (a1 + 1)) : Int).toNat), wrap64 ((wrap64 (a1 + 1)) + (wrap64 (rd l0 a1))), 0)) else (none)) else (none)) else (none)))) else (none)) else (none))) else (some ((⟨#[]⟩ : ByteArray), 0, 1)))) = some (r1, r2, r3) := h
 clear h
 replace H := Option.bind_eq_some_iff.mp H
 obtain ⟨t398, A30, H⟩ := H
 replace H : (if t398 = true then (if a1 = (l0.length : Int) then (some ((⟨#[]⟩ : ByteArray), 0, 3)) else (if 0 ≤ a1 then (if a1 < (l0.length : Int) then (if (wrap64 (rd l0 a1)) > 24 then (some ((⟨#[]⟩ : ByteArray), 0, 3)) else (if (wrap64 ((wrap64 ((l0.length : Int) - a1)) - 1)) < (wrap64 (rd l0 a1)) then (some ((⟨#[]⟩ : ByteArray), 0, 3)) else (if 0 ≤ (wrap64 (a1 + 1)) then (if (wrap64 (a1 + 1)) ≤ (wrap64 ((wrap64 (a1 + 1)) + (wrap64 (rd l0 a1)))) then (if (wrap64 ((wrap64 (a1 + 1)) + (wrap64 (rd l0 a1)))) ≤ (l0.length : Int) then (some (strOfNums ((l0.take ((wrap64 ((wrap64 (a1 + 1)) + (wrap64 (rd l0 a1)))) : Int).toNat).drop ((wrap64 (a1 + 1)) : Int).toNat), wrap64 ((wrap64 (a1 + 1)) + (wrap64 (rd l0 a1))), 0)) else (none)) else (none)) else (none)))) else (none)) else (none))) else (some ((⟨#[]⟩ : ByteArray), 0, 1))) = some (r1, r2, r3) := H
 have A3 := mk_ A30
 clear A30
 by_cases c4 : t398 = true
 rotate_left
 ·
  replace c4 := Bool.eq_false_iff.mpr c4
  subst c4
  rw [if_neg (show ¬ (false = true) by decide)] at H
  simp only [Option.some.injEq, Prod.mk.injEq] at H
  obtain ⟨rfl, rfl, rfl⟩ := H
  go_enter Try.func96, Try.ntmps96
  go_wp2_with (first | ((with_reducible refine gate_callee (f := 27) rfl ?_); refine Short.gL (some 11) Try.func27 #[.int .i64 a1, .int .i64 0, .int .i64 (l0.length : Int)] (h := ?_); (with_reducible refine (raddleref01_in.calls a1 0 (l0.length : Int) false _ A3.out).mono ?_); rintro e w' ⟨rfl, ⟨nd, rfl⟩⟩; refine ⟨_, rfl, ?_⟩))
  go_ret3
  exact ⟨q0, Short.hB HB⟩
 subst c4
 rw [if_pos rfl] at H
 by_cases c5 : a1 = (l0.length : Int)
 ·
  rw [if_pos c5] at H
  have c5b0 : (a1 == (l0.length : Int)) = true := beq_iff_eq.mpr c5
  have c5b1 : (a1 != (l0.length : Int)) = false := bne_eq_false_iff_eq.mpr c5
  clear c5
  simp only [Option.some.injEq, Prod.mk.injEq] at H
  obtain ⟨rfl, rfl, rfl⟩ := H
  go_enter Try.func96, Try.ntmps96
  go_wp2_with (first | ((with_reducible refine gate_callee (f := 27) rfl ?_); refine Short.gL (some 11) Try.func27 #[.int .i64 a1, .int .i64 0, .int .i64 (l0.length : Int)] (h := ?_); (with_reducible refine (raddleref01_in.calls a1 0 (l0.length : Int) true _ A3.out).mono ?_); rintro e w' ⟨rfl, ⟨nd, rfl⟩⟩; refine ⟨_, rfl, ?_⟩))
  go_ret3
  exact ⟨q0, Short.hB HB⟩
 rw [if_neg c5] at H
 have c5b0 : (a1 == (l0.length : Int)) = false := beq_eq_false_iff_ne.mpr c5
 have c5b1 : (a1 != (l0.length : Int)) = true := bne_iff_ne.mpr c5
 by_cases c6 : 0 ≤ a1
 rotate_left
 ·
  rw [if_neg c6] at H
  exact absurd H (by simp)
 rw [if_pos c6] at H
 have c6b0 : decide (0 ≤ a1) = true := decide_eq_true c6
 clear c6
 by_cases c7 : a1 < (l0.length : Int)
 rotate_left
 ·
  rw [if_neg c7] at H
  exact absurd H (by simp)
 rw [if_pos c7] at H
 have c7b0 : decide (a1 < (l0.length : Int)) = true := decide_eq_true c7
 clear c7
 by_cases c8 : (wrap64 (rd l0 a1)) > 24
 ·
  rw [if_pos c8] at H
  have c8b0 : decide (24 < (wrap64 (rd l0 a1))) = true := decide_eq_true c8
  clear c8
  simp only [Option.some.injEq, Prod.mk.injEq] at H
  obtain ⟨rfl, rfl, rfl⟩ := H
  go_enter Try.func96, Try.ntmps96
  go_wp2_with (first | ((with_reducible refine gate_callee (f := 27) rfl ?_); refine Short.gL (some 11) Try.func27 #[.int .i64 a1, .int .i64 0, .int .i64 (l0.length : Int)] (h := ?_); (with_reducible refine (raddleref01_in.calls a1 0 (l0.length : Int) true _ A3.out).mono ?_); rintro e w' ⟨rfl, ⟨nd, rfl⟩⟩; refine ⟨_, rfl, ?_⟩; have p399 : 0 ≤ (a1 : Int) := of_decide_eq_true z1; have q399 : a1 < (l0.length : Int) := of_decide_eq_true z1; obtain ⟨ad399, e399, hx399_0⟩ := Kd.at_int HR0.out a1 p399 q399; cases e399; replace p399 := eq_true p399; replace q399 := eq_true q399))
  go_ret3
  exact ⟨q0, Short.hB HB⟩
 rw [if_neg c8] at H
 have c8b0 : decide (24 < (wrap64 (rd l0 a1))) = false := decide_eq_false c8
 clear c8
 by_cases c9 : (wrap64 ((wrap64 ((l0.length : Int) - a1)) - 1)) < (wrap64 (rd l0 a1))
 ·
  rw [if_pos c9] at H
  have c9b0 : decide ((wrap64 ((wrap64 ((l0.length : Int) - a1)) - 1)) < (wrap64 (rd l0 a1))) = true := decide_eq_true c9
  clear c9
  simp only [Option.some.injEq, Prod.mk.injEq] at H
  obtain ⟨rfl, rfl, rfl⟩ := H
  go_enter Try.func96, Try.ntmps96
  go_wp2_with (first | ((with_reducible refine gate_callee (f := 27) rfl ?_); refine Short.gL (some 11) Try.func27 #[.int .i64 a1, .int .i64 0, .int .i64 (l0.length : Int)] (h := ?_); (with_reducible refine (raddleref01_in.calls a1 0 (l0.length : Int) true _ A3.out).mono ?_); rintro e w' ⟨rfl, ⟨nd, rfl⟩⟩; refine ⟨_, rfl, ?_⟩; have p399 : 0 ≤ (a1 : Int) := of_decide_eq_true z1; have q399 : a1 < (l0.length : Int) := of_decide_eq_true z1; obtain ⟨ad399, e399, hx399_0⟩ := Kd.at_int HR0.out a1 p399 q399; cases e399; replace p399 := eq_true p399; replace q399 := eq_true q399; have p400 : 0 ≤ (a1 : Int) := of_decide_eq_true z1; have q400 : a1 < (l0.length : Int) := of_decide_eq_true z1; obtain ⟨ad400, e400, hx400_0⟩ := Kd.at_int HR0.out a1 p400 q400; obtain rfl : ad399 = ad400 := (by injection e400); replace p400 := eq_true p400; replace q400 := eq_true q400))
  go_ret3
  exact ⟨q0, Short.hB HB⟩
 rw [if_neg c9] at H
 have c9b0 : decide ((wrap64 ((wrap64 ((l0.length : Int) - a1)) - 1)) < (wrap64 (rd l0 a1))) = false := decide_eq_false c9
 clear c9
 obtain ⟨ji10, hji10⟩ : ∃ j_ : Int, (wrap64 (a1 + 1)) = j_ := ⟨_, rfl⟩
 replace H : (if 0 ≤ (ji10) then (if (ji10) ≤ (wrap64 ((ji10) + (wrap64 (rd l0 a1)))) then (if (wrap64 ((ji10) + (wrap64 (rd l0 a1)))) ≤ (l0.length : Int) then (some (strOfNums ((l0.take ((wrap64 ((ji10) + (wrap64 (rd l0 a1)))) : Int).toNat).drop ((ji10) : Int).toNat), wrap64 ((ji10) + (wrap64 (rd l0 a1))), 0)) else (none)) else (none)) else (none)) = some (r1, r2, r3) := by first | (rw [hji10] at H; exact H) | (simp only [hji10] at H ⊢; exact H)
 (try rw [hji10] at A3)
 have hji10w : (IntKind.i64.wrap (a1 + 1)) = ji10 := (i64_w _).trans hji10
 by_cases c11 : 0 ≤ (ji10)
 rotate_left
 ·
  rw [if_neg c11] at H
  exact absurd H (by simp)
 rw [if_pos c11] at H
 have c11b0 := eq_true c11
 have c11b1 : decide (0 ≤ (ji10)) = true := decide_eq_true c11
 clear c11
 by_cases c12 : (ji10) ≤ (wrap64 ((ji10) + (wrap64 (rd l0 a1))))
 rotate_left
 ·
  rw [if_neg c12] at H
  exact absurd H (by simp)
 rw [if_pos c12] at H
 have c12b0 := eq_true c12
 have c12b1 : decide ((ji10) ≤ (wrap64 ((ji10) + (wrap64 (rd l0 a1))))) = true := decide_eq_true c12
 by_cases c13 : (wrap64 ((ji10) + (wrap64 (rd l0 a1)))) ≤ (l0.length : Int)
 rotate_left
 ·
  rw [if_neg c13] at H
  exact absurd H (by simp)
 rw [if_pos c13] at H
 have c13b0 := eq_true c13
 have c13b1 : decide ((wrap64 ((ji10) + (wrap64 (rd l0 a1)))) ≤ (l0.length : Int)) = true := decide_eq_true c13
 simp only [Option.some.injEq, Prod.mk.injEq] at H
 obtain ⟨rfl, rfl, rfl⟩ := H
 go_enter Try.func96, Try.ntmps96
 go_wp2_with (first | ((with_reducible refine gate_callee (f := 27) rfl ?_); refine Short.gL (some 11) Try.func27 #[.int .i64 a1, .int .i64 0, .int .i64 (l0.length : Int)] (h := ?_); (with_reducible refine (raddleref01_in.calls a1 0 (l0.length : Int) true _ A3.out).mono ?_); rintro e w' ⟨rfl, ⟨nd, rfl⟩⟩; refine ⟨_, rfl, ?_⟩; have p399 : 0 ≤ (a1 : Int) := of_decide_eq_true z1; have q399 : a1 < (l0.length : Int) := of_decide_eq_true z1; obtain ⟨ad399, e399, hx399_0⟩ := Kd.at_int HR0.out a1 p399 q399; cases e399; replace p399 := eq_true p399; replace q399 := eq_true q399; have p400 : 0 ≤ (a1 : Int) := of_decide_eq_true z1; have q400 : a1 < (l0.length : Int) := of_decide_eq_true z1; obtain ⟨ad400, e400, hx400_0⟩ := Kd.at_int HR0.out a1 p400 q400; obtain rfl : ad399 = ad400 := (by injection e400); replace p400 := eq_true p400; replace q400 := eq_true q400; have p401 : 0 ≤ (a1 : Int) := of_decide_eq_true z1; have q401 : a1 < (l0.length : Int) := of_decide_eq_true z1; obtain ⟨ad401, e401, hx401_0⟩ := Kd.at_int HR0.out a1 p401 q401; obtain rfl : ad399 = ad401 := (by injection e401); replace p401 := eq_true p401; replace q401 := eq_true q401; obtain ⟨i014, hi014, _, hsz14, _⟩ := info_parts info5; obtain ⟨A14, hcut14, hA14, hC14⟩ := print_mid_of (P := Try.prog) (Value.int .u8) 0 22 5 .i64 .i64 Try.underlying22 hi014 hsz14 (some ad399) c0 l0 (ji10) (wrap64 ((ji10) + (wrap64 (rd l0 a1)))) (of_decide_eq_true z1) (by first | omega | exact of_decide_eq_true z1) (of_decide_eq_true z1) HC0.out; have HR402 := mk_ (C_of_reads (h1 := fun _ => rfl) (hA14 _ (Kd.reads_of_C HR0.out))); have HC402 := mk_ hC14; clear hA14 hC14 hi014 hsz14; have hcv15 := C_string (P := Try.prog) (A := A14) (c := (c0 - (ji10).toNat)) Try.underlying22 Try.underlying5 Try.underlying9 HR402.out; have hcv16 : ∀ (m_ n_ : Nat), n_ = ((l0.take ((wrap64 ((ji10) + (wrap64 (rd l0 a1)))) : Int).toNat).drop ((ji10) : Int).toNat).length → (convert 22 9 (.slice A14 n_ (c0 - (ji10).toNat))).run Try.prog (w.drewN m_) = .ok (.string (strOfNums ((l0.take ((wrap64 ((ji10) + (wrap64 (rd l0 a1)))) : Int).toNat).drop ((ji10) : Int).toNat))) (w.drewN m_) := fun m_ n_ h_ => by rw [h_]; exact C_string Try.underlying22 Try.underlying5 Try.underlying9 (C_drewN HR402.out m_)))
 go_ret3
 exact ⟨by first | rfl | (simp [errW_none, errW_some] <;> rfl) | (simp only [← hji10]; first | rfl | (simp [errW_none, errW_some] <;> rfl)) | (simp [*, errW_none, errW_some] <;> rfl), Short.hB HB⟩
def raddleref01_Value.f (a0_0 : Int) (a0_1 : Int) (a0_2 : ByteArray) : Option (Bool) := if a0_0 = 1 then (if a0_1 = 0 then (some (a0_2.toList == ([] : List UInt8))) else (some false)) else (if a0_0 = 2 then ((raddleref01_in.f a0_1 0 1).bind fun t407 => (if t407 = true then (some (a0_2.toList == ([] : List UInt8))) else (some false))) else (if a0_0 = 3 then ((raddleref01_in.f a0_1 (-1152921504606846976) 1152921504606846976).bind fun t408 => (if t408 = true then (some (a0_2.toList == ([] : List UInt8))) else (some false))) else (if a0_0 = 4 then (if a0_1 = 0 then (some (decide ((a0_2.size : Int) ≤ 24))) else (some false)) else (some false))))
theorem raddleref01_Value.calls (a0_0 : Int) (a0_1 : Int) (a0_2 : ByteArray) (r : Bool) (w : World) (h : raddleref01_Value.f a0_0 a0_1 a0_2 = some r) :
  Calls Try.prog 84 #[.agg #[.int .i64 a0_0, .int .i64 a0_1, .string a0_2]] w fun e w' => e = .returned (.bool r) ∧ Below w.heap.size w w' := by
 have hu84 := Try.underlying84
 have HB := mk_ (Below.refl w.heap.size w)
 have H : (if a0_0 = 1 then (if a0_1 = 0 then (some (a0_2.toList == ([] : List UInt8))) else (some false)) else (if a0_0 = 2 then ((raddleref01_in.f a0_1 0 1).bind fun t407 => (if t407 = true then (some (a0_2.toList == ([] : List UInt8))) else (some false))) else (if a0_0 = 3 then ((raddleref01_in.f a0_1 (-1152921504606846976) 1152921504606846976).bind fun t408 => (if t408 = true then (some (a0_2.toList == ([] : List UInt8))) else (some false))) else (if a0_0 = 4 then (if a0_1 = 0 then (some (decide ((a0_2.size : Int) ≤ 24))) else (some false)) else (some false))))) = some r := h
 clear h
 by_cases c2 : a0_0 = 1
 ·
  rw [if_pos c2] at H
  have c2b0 : (a0_0 == 1) = true := beq_iff_eq.mpr c2
  have c2b1 : (a0_0 != 1) = false := bne_eq_false_iff_eq.mpr c2
  clear c2
  by_cases c3 : a0_1 = 0
  rotate_left
  ·
   rw [if_neg c3] at H
   have c3b0 : (a0_1 == 0) = false := beq_eq_false_iff_ne.mpr c3
   have c3b1 : (a0_1 != 0) = true := bne_iff_ne.mpr c3
   obtain rfl := Option.some.inj H
   go_enter Try.func84, Try.ntmps84
   go_wp2_with (first | ((with_reducible refine gate_dst (N := 1) rfl ?_); (try (refine gate_guard (by rfl) ?_; dsimp only)); refine box_event ?hg (N := 1) ?hd (cs := #[.int .i64 a0_0, .int .i64 a0_1, .string a0_2]) (t := 84) ?hr ?_; (case hd => rfl); (case hg => rfl); (case hr => first | (go_simp; done) | (go_simp; rfl)); intro gb406 hg w6 hbox hb; have n0_ := mk_ (below_step (Short.hB HB) hb); have n1_ := mk_ (hbox); have n2_ := mk_ ((by rw [hg]; exact (below_size (Short.hB HB)) : w.heap.size ≤ gb406)); have n3_ := mk_ ((by rw [hg]; exact (below_size (Short.hB HB)) : w.heap.size ≤ gb406)); clear HB; revert n0_ n1_ n2_ n3_; intro HB BK406 GW406 GE406; clear hb hbox hg; obtain ⟨hcz7_0, hcz7_1, hcz7_2, hfz7_0, hfz7_1, hfz7_2⟩ := Short.c3 BK406.out))
   go_ret
   exact ⟨q0, Short.hB HB⟩
  rw [if_pos c3] at H
  have c3b0 : (a0_1 == 0) = true := beq_iff_eq.mpr c3
  have c3b1 : (a0_1 != 0) = false := bne_eq_false_iff_eq.mpr c3
  clear c3
  obtain rfl := Option.some.inj H
  go_enter Try.func84, Try.ntmps84
  go_wp2_with (first | ((with_reducible refine gate_dst (N := 1) rfl ?_); (try (refine gate_guard (by rfl) ?_; dsimp only)); refine box_event ?hg (N := 1) ?hd (cs := #[.int .i64 a0_0, .int .i64 a0_1, .string a0_2]) (t := 84) ?hr ?_; (case hd => rfl); (case hg => rfl); (case hr => first | (go_simp; done) | (go_simp; rfl)); intro gb406 hg w4 hbox hb; have n0_ := mk_ (below_step (Short.hB HB) hb); have n1_ := mk_ (hbox); have n2_ := mk_ ((by rw [hg]; exact (below_size (Short.hB HB)) : w.heap.size ≤ gb406)); have n3_ := mk_ ((by rw [hg]; exact (below_size (Short.hB HB)) : w.heap.size ≤ gb406)); clear HB; revert n0_ n1_ n2_ n3_; intro HB BK406 GW406 GE406; clear hb hbox hg; obtain ⟨hcz5_0, hcz5_1, hcz5_2, hfz5_0, hfz5_1, hfz5_2⟩ := Short.c3 BK406.out))
  go_ret
  exact ⟨q0, Short.hB HB⟩
 rw [if_neg c2] at H
 have c2b0 : (a0_0 == 1) = false := beq_eq_false_iff_ne.mpr c2
 have c2b1 : (a0_0 != 1) = true := bne_iff_ne.mpr c2
 by_cases c8 : a0_0 = 2
 ·
  rw [if_pos c8] at H
  have c8b0 : (a0_0 == 2) = true := beq_iff_eq.mpr c8
  have c8b1 : (a0_0 != 2) = false := bne_eq_false_iff_eq.mpr c8
  clear c8
  replace H := Option.bind_eq_some_iff.mp H
  obtain ⟨t407, A90, H⟩ := H
  replace H : (if t407 = true then (some (a0_2.toList == ([] : List UInt8))) else (some false)) = some r := H
  have A9 := mk_ A90
  clear A90
  by_cases c10 : t407 = true
  ·
   subst c10
   rw [if_pos rfl] at H
   obtain rfl := Option.some.inj H
   go_enter Try.func84, Try.ntmps84
   go_wp2_with (first | ((with_reducible refine gate_dst (N := 1) rfl ?_); (try (refine gate_guard (by rfl) ?_; dsimp only)); refine box_event ?hg (N := 1) ?hd (cs := #[.int .i64 a0_0, .int .i64 a0_1, .string a0_2]) (t := 84) ?hr ?_; (case hd => rfl); (case hg => rfl); (case hr => first | (go_simp; done) | (go_simp; rfl)); intro gb406 hg w11 hbox hb; have n0_ := mk_ (below_step (Short.hB HB) hb); have n1_ := mk_ (hbox); have n2_ := mk_ ((by rw [hg]; exact (below_size (Short.hB HB)) : w.heap.size ≤ gb406)); have n3_ := mk_ ((by rw [hg]; exact (below_size (Short.hB HB)) : w.heap.size ≤ gb406)); clear HB; revert n0_ n1_ n2_ n3_; intro HB BK406 GW406 GE406; clear hb hbox hg; obtain ⟨hcz12_0, hcz12_1, hcz12_2, hfz12_0, hfz12_1, hfz12_2⟩ := Short.c3 BK406.out) | ((with_reducible refine gate_callee (f := 27) rfl ?_); refine Short.gL (some 19) Try.func27 #[.int .i64 a0_1, .int .i64 0, .int .i64 1] (h := ?_); (with_reducible refine (raddleref01_in.calls a0_1 0 1 true _ A9.out).mono ?_); rintro e w' ⟨rfl, ⟨nd, rfl⟩⟩; refine ⟨_, rfl, ?_⟩))
   go_ret
   exact ⟨q0, Short.hB HB⟩
  replace c10 := Bool.eq_false_iff.mpr c10
  subst c10
  rw [if_neg (show ¬ (false = true) by decide)] at H
  obtain rfl := Option.some.inj H
  go_enter Try.func84, Try.ntmps84
  go_wp2_with (first | ((with_reducible refine gate_dst (N := 1) rfl ?_); (try (refine gate_guard (by rfl) ?_; dsimp only)); refine box_event ?hg (N := 1) ?hd (cs := #[.int .i64 a0_0, .int .i64 a0_1, .string a0_2]) (t := 84) ?hr ?_; (case hd => rfl); (case hg => rfl); (case hr => first | (go_simp; done) | (go_simp; rfl)); intro gb406 hg w13 hbox hb; have n0_ := mk_ (below_step (Short.hB HB) hb); have n1_ := mk_ (hbox); have n2_ := mk_ ((by rw [hg]; exact (below_size (Short.hB HB)) : w.heap.size ≤ gb406)); have n3_ := mk_ ((by rw [hg]; exact (below_size (Short.hB HB)) : w.heap.size ≤ gb406)); clear HB; revert n0_ n1_ n2_ n3_; intro HB BK406 GW406 GE406; clear hb hbox hg; obtain ⟨hcz14_0, hcz14_1, hcz14_2, hfz14_0, hfz14_1, hfz14_2⟩ := Short.c3 BK406.out) | ((with_reducible refine gate_callee (f := 27) rfl ?_); refine Short.gL (some 19) Try.func27 #[.int .i64 a0_1, .int .i64 0, .int .i64 1] (h := ?_); (with_reducible refine (raddleref01_in.calls a0_1 0 1 false _ A9.out).mono ?_); rintro e w' ⟨rfl, ⟨nd, rfl⟩⟩; refine ⟨_, rfl, ?_⟩))
  go_ret
  exact ⟨q0, Short.hB HB⟩
 rw [if_neg c8] at H
 have c8b0 : (a0_0 == 2) = false := beq_eq_false_iff_ne.mpr c8
 have c8b1 : (a0_0 != 2) = true := bne_iff_ne.mpr c8
 by_cases c15 : a0_0 = 3
 ·
  rw [if_pos c15] at H
  have c15b0 : (a0_0 == 3) = true := beq_iff_eq.mpr c15
  have c15b1 : (a0_0 != 3) = false := bne_eq_false_iff_eq.mpr c15
  clear c15
  replace H := Option.bind_eq_some_iff.mp H
  obtain ⟨t408, A160, H⟩ := H
  replace H : (if t408 = true then (some (a0_2.toList == ([] : List UInt8))) else (some false)) = some r := H
  have A16 := mk_ A160
  clear A160
  by_cases c17 : t408 = true
  ·
   subst c17
   rw [if_pos rfl] at H
   obtain rfl := Option.some.inj H
   go_enter Try.func84, Try.ntmps84
   go_wp2_with (first | ((with_reducible refine gate_dst (N := 1) rfl ?_); (try (refine gate_guard (by rfl) ?_; dsimp only)); refine box_event ?hg (N := 1) ?hd (cs := #[.int .i64 a0_0, .int .i64 a0_1, .string a0_2]) (t := 84) ?hr ?_; (case hd => rfl); (case hg => rfl); (case hr => first | (go_simp; done) | (go_simp; rfl)); intro gb406 hg w18 hbox hb; have n0_ := mk_ (below_step (Short.hB HB) hb); have n1_ := mk_ (hbox); have n2_ := mk_ ((by rw [hg]; exact (below_size (Short.hB HB)) : w.heap.size ≤ gb406)); have n3_ := mk_ ((by rw [hg]; exact (below_size (Short.hB HB)) : w.heap.size ≤ gb406)); clear HB; revert n0_ n1_ n2_ n3_; intro HB BK406 GW406 GE406; clear hb hbox hg; obtain ⟨hcz19_0, hcz19_1, hcz19_2, hfz19_0, hfz19_1, hfz19_2⟩ := Short.c3 BK406.out) | ((with_reducible refine gate_callee (f := 27) rfl ?_); refine Short.gL (some 29) Try.func27 #[.int .i64 a0_1, .int .i64 (-1152921504606846976), .int .i64 1152921504606846976] (h := ?_); (with_reducible refine (raddleref01_in.calls a0_1 (-1152921504606846976) 1152921504606846976 true _ A16.out).mono ?_); rintro e w' ⟨rfl, ⟨nd, rfl⟩⟩; refine ⟨_, rfl, ?_⟩))
   go_ret
   exact ⟨q0, Short.hB HB⟩
  replace c17 := Bool.eq_false_iff.mpr c17
  subst c17
  rw [if_neg (show ¬ (false = true) by decide)] at H
  obtain rfl := Option.some.inj H
  go_enter Try.func84, Try.ntmps84
  go_wp2_with (first | ((with_reducible refine gate_dst (N := 1) rfl ?_); (try (refine gate_guard (by rfl) ?_; dsimp only)); refine box_event ?hg (N := 1) ?hd (cs := #[.int .i64 a0_0, .int .i64 a0_1, .string a0_2]) (t := 84) ?hr ?_; (case hd => rfl); (case hg => rfl); (case hr => first | (go_simp; done) | (go_simp; rfl)); intro gb406 hg w20 hbox hb; have n0_ := mk_ (below_step (Short.hB HB) hb); have n1_ := mk_ (hbox); have n2_ := mk_ ((by rw [hg]; exact (below_size (Short.hB HB)) : w.heap.size ≤ gb406)); have n3_ := mk_ ((by rw [hg]; exact (below_size (Short.hB HB)) : w.heap.size ≤ gb406)); clear HB; revert n0_ n1_ n2_ n3_; intro HB BK406 GW406 GE406; clear hb hbox hg; obtain ⟨hcz21_0, hcz21_1, hcz21_2, hfz21_0, hfz21_1, hfz21_2⟩ := Short.c3 BK406.out) | ((with_reducible refine gate_callee (f := 27) rfl ?_); refine Short.gL (some 29) Try.func27 #[.int .i64 a0_1, .int .i64 (-1152921504606846976), .int .i64 1152921504606846976] (h := ?_); (with_reducible refine (raddleref01_in.calls a0_1 (-1152921504606846976) 1152921504606846976 false _ A16.out).mono ?_); rintro e w' ⟨rfl, ⟨nd, rfl⟩⟩; refine ⟨_, rfl, ?_⟩))
  go_ret
  exact ⟨q0, Short.hB HB⟩
 rw [if_neg c15] at H
 have c15b0 : (a0_0 == 3) = false := beq_eq_false_iff_ne.mpr c15
 have c15b1 : (a0_0 != 3) = true := bne_iff_ne.mpr c15
 by_cases c22 : a0_0 = 4
 rotate_left
 ·
  rw [if_neg c22] at H
  have c22b0 : (a0_0 == 4) = false := beq_eq_false_iff_ne.mpr c22
  have c22b1 : (a0_0 != 4) = true := bne_iff_ne.mpr c22
  obtain rfl := Option.some.inj H
  go_enter Try.func84, Try.ntmps84
  go_wp2_with (first | ((with_reducible refine gate_dst (N := 1) rfl ?_); (try (refine gate_guard (by rfl) ?_; dsimp only)); refine box_event ?hg (N := 1) ?hd (cs := #[.int .i64 a0_0, .int .i64 a0_1, .string a0_2]) (t := 84) ?hr ?_; (case hd => rfl); (case hg => rfl); (case hr => first | (go_simp; done) | (go_simp; rfl)); intro gb406 hg w28 hbox hb; have n0_ := mk_ (below_step (Short.hB HB) hb); have n1_ := mk_ (hbox); have n2_ := mk_ ((by rw [hg]; exact (below_size (Short.hB HB)) : w.heap.size ≤ gb406)); have n3_ := mk_ ((by rw [hg]; exact (below_size (Short.hB HB)) : w.heap.size ≤ gb406)); clear HB; revert n0_ n1_ n2_ n3_; intro HB BK406 GW406 GE406; clear hb hbox hg; obtain ⟨hcz29_0, hcz29_1, hcz29_2, hfz29_0, hfz29_1, hfz29_2⟩ := Short.c3 BK406.out))
  go_ret
  exact ⟨q0, Short.hB HB⟩
 rw [if_pos c22] at H
 have c22b0 : (a0_0 == 4) = true := beq_iff_eq.mpr c22
 have c22b1 : (a0_0 != 4) = false := bne_eq_false_iff_eq.mpr c22
 clear c22
 by_cases c23 : a0_1 = 0
 rotate_left
 ·
  rw [if_neg c23] at H
  have c23b0 : (a0_1 == 0) = false := beq_eq_false_iff_ne.mpr c23
  have c23b1 : (a0_1 != 0) = true := bne_iff_ne.mpr c23
  obtain rfl := Option.some.inj H
  go_enter Try.func84, Try.ntmps84
  go_wp2_with (first | ((with_reducible refine gate_dst (N := 1) rfl ?_); (try (refine gate_guard (by rfl) ?_; dsimp only)); refine box_event ?hg (N := 1) ?hd (cs := #[.int .i64 a0_0, .int .i64 a0_1, .string a0_2]) (t := 84) ?hr ?_; (case hd => rfl); (case hg => rfl); (case hr => first | (go_simp; done) | (go_simp; rfl)); intro gb406 hg w26 hbox hb; have n0_ := mk_ (below_step (Short.hB HB) hb); have n1_ := mk_ (hbox); have n2_ := mk_ ((by rw [hg]; exact (below_size (Short.hB HB)) : w.heap.size ≤ gb406)); have n3_ := mk_ ((by rw [hg]; exact (below_size (Short.hB HB)) : w.heap.size ≤ gb406)); clear HB; revert n0_ n1_ n2_ n3_; intro HB BK406 GW406 GE406; clear hb hbox hg; obtain ⟨hcz27_0, hcz27_1, hcz27_2, hfz27_0, hfz27_1, hfz27_2⟩ := Short.c3 BK406.out))
  go_ret
  exact ⟨q0, Short.hB HB⟩
 rw [if_pos c23] at H
 have c23b0 : (a0_1 == 0) = true := beq_iff_eq.mpr c23
 have c23b1 : (a0_1 != 0) = false := bne_eq_false_iff_eq.mpr c23
 clear c23
 obtain rfl := Option.some.inj H
 go_enter Try.func84, Try.ntmps84
 go_wp2_with (first | ((with_reducible refine gate_dst (N := 1) rfl ?_); (try (refine gate_guard (by rfl) ?_; dsimp only)); refine box_event ?hg (N := 1) ?hd (cs := #[.int .i64 a0_0, .int .i64 a0_1, .string a0_2]) (t := 84) ?hr ?_; (case hd => rfl); (case hg => rfl); (case hr => first | (go_simp; done) | (go_simp; rfl)); intro gb406 hg w24 hbox hb; have n0_ := mk_ (below_step (Short.hB HB) hb); have n1_ := mk_ (hbox); have n2_ := mk_ ((by rw [hg]; exact (below_size (Short.hB HB)) : w.heap.size ≤ gb406)); have n3_ := mk_ ((by rw [hg]; exact (below_size (Short.hB HB)) : w.heap.size ≤ gb406)); clear HB; revert n0_ n1_ n2_ n3_; intro HB BK406 GW406 GE406; clear hb hbox hg; obtain ⟨hcz25_0, hcz25_1, hcz25_2, hfz25_0, hfz25_1, hfz25_2⟩ := Short.c3 BK406.out))
 go_ret
 exact ⟨q0, Short.hB HB⟩
def raddleref01_Get.j0 : Nat → List Int → Int → Int → Bool → Option (Int × Int × Int)
 | 0, _, _, _, _ => none
 | k + 1, x0, x1, x2, x18 => if x18 = true then (some (0, 0, 1)) else (if (wrap64 ((x0.length : Int) - x1)) < x2 then (some (0, 0, 3)) else (if 0 ≤ x1 then (if x1 ≤ (wrap64 (x1 + x2)) then (if (wrap64 (x1 + x2)) ≤ (x0.length : Int) then ((raddleref01_num.f k ((x0.take ((wrap64 (x1 + x2)) : Int).toNat).drop (x1 : Int).toNat)).bind fun t412 => (some (t412, wrap64 (x1 + x2), 0))) else (none)) else (none)) else (none)))
def raddleref01_Get.f (k : Nat) (l0 : List Int) (a1 : Int) (a2 : Int) : Option (Int × Int × Int) := (raddleref01_in.f a2 1 7).bind fun t409 => (if t409 = true then ((raddleref01_in.f a1 0 (l0.length : Int)).bind fun t410 => (raddleref01_Get.j0 k l0 a1 a2 (!t410))) else (raddleref01_Get.j0 k l0 a1 a2 true))
theorem raddleref01_Get.calls (k : Nat) (A0 : Option Addr) (c0 : Nat) (l0 : List Int) (a1 : Int) (a2 : Int) (r1 : Int) (r2 : Int) (r3 : Int) (w : World) (hr0 : Kd.C (Kd.int .u8) w A0 l0.length l0) (hc0 : l0.length ≤ c0) (h : raddleref01_Get.f k l0 a1 a2 = some (r1, r2, r3)) :
  Calls Try.prog 119 #[.slice A0 l0.length c0, .int .i64 a1, .int .i64 a2] w fun e w' => e = .returned (.tuple #[.int .i64 r1, .int .i64 r2, .int .i64 r3]) ∧ Below w.heap.size w w' := by
 have HR0 := mk_ hr0
 have HC0 := mk_ hc0
 clear hr0 hc0
 have HB := mk_ (Below.refl w.heap.size w)
 have H : ((raddleref01_in.f a2 1 7).bind fun t409 => (if t409 = true then ((raddleref01_in.f a1 0 (l0.length : Int)).bind fun t410 => (raddleref01_Get.j0 k l0 a1 a2 (!t410))) else (raddleref01_Get.j0 k l0 a1 a2 true))) = some (r1, r2, r3) := h
 clear h
 have HC4 := mk_ H
 clear H
 go_enter Try.func119, Try.ntmps119
 go_upto_region 1 with (fail)
 go_cut [18] (fun v18 wc => ∃ (kq : Nat) (x18_3 : Bool), v18 = .bool x18_3 ∧ Aside0 (raddleref01_Get.j0 kq l0 a1 a2 x18_3 = some (r1, r2, r3)) ∧ Aside0 (kq ≤ k) ∧ Aside0 (Below w.heap.size w wc))
 case first =>
  have H := HC4.out
  clear HC4
  replace H := Option.bind_eq_some_iff.mp H
  obtain ⟨t409, A50, H⟩ := H
  replace H : (if t409 = true then ((raddleref01_in.f a1 0 (l0.length : Int)).bind fun t410 => (raddleref01_Get.j0 k l0 a1 a2 (!t410))) else (raddleref01_Get.j0 k l0 a1 a2 true)) = some (r1, r2, r3) := H
  have A5 := mk_ A50
  clear A50
  by_cases c6 : t409 = true
  rotate_left
  ·
   replace c6 := Bool.eq_false_iff.mpr c6
   subst c6
   rw [if_neg (show ¬ (false = true) by decide)] at H
   have H' := mk_ H
   clear H
   go_wp2_with (first | ((with_reducible refine gate_callee (f := 27) rfl ?_); refine Short.gL (some 10) Try.func27 #[.int .i64 a2, .int .i64 1, .int .i64 7] (h := ?_); (with_reducible refine (raddleref01_in.calls a2 1 7 false _ A5.out).mono ?_); rintro e w' ⟨rfl, ⟨nd, rfl⟩⟩; refine ⟨_, rfl, ?_⟩))
   go_meet
   case rel => exact ⟨_, (true), z3, H', ⟨by first | omega | exact Nat.le_refl _⟩, ⟨Short.hB HB⟩⟩
  subst c6
  rw [if_pos rfl] at H
  replace H := Option.bind_eq_some_iff.mp H
  obtain ⟨t410, A70, H⟩ := H
  replace H : (raddleref01_Get.j0 k l0 a1 a2 (!t410)) = some (r1, r2, r3) := H
  have A7 := mk_ A70
  clear A70
  have H' := mk_ H
  clear H
  go_wp2_with (first | ((with_reducible refine gate_callee (f := 27) rfl ?_); refine Short.gL (some 10) Try.func27 #[.int .i64 a2, .int .i64 1, .int .i64 7] (h := ?_); (with_reducible refine (raddleref01_in.calls a2 1 7 true _ A5.out).mono ?_); rintro e w' ⟨rfl, ⟨nd, rfl⟩⟩; refine ⟨_, rfl, ?_⟩) | (go_at_call 27; (with_reducible refine (raddleref01_in.calls a1 0 (l0.length : Int) t410 _ A7.out).mono ?_); rintro e w' ⟨rfl, ⟨nd, rfl⟩⟩))
  go_meet
  case rel => exact ⟨_, (!t410), z3, H', ⟨by first | omega | exact Nat.le_refl _⟩, ⟨Short.hB HB⟩⟩
 case rest => as_aux_lemma =>
  clear HC4
  try clear c1
  try clear c2
  try clear p2
  try clear c6
  obtain ⟨kq, x18_3, rfl, HA, HJ3, HB⟩ := hcut
  cases kq with
  | zero => exact absurd HA.out (by simp [raddleref01_Get.j0])
  | succ kj3 =>
   have H := HA.out
   clear HA
   simp only [raddleref01_Get.j0] at H
   by_cases c8 : x18_3 = true
   ·
    subst c8
    rw [if_pos rfl] at H
    simp only [Option.some.injEq, Prod.mk.injEq] at H
    obtain ⟨rfl, rfl, rfl⟩ := H
    go_wp2
    go_ret3
    exact ⟨q0, Short.hB HB⟩
   ·
    replace c8 := Bool.eq_false_iff.mpr c8
    subst c8
    rw [if_neg (show ¬ (false = true) by decide)] at H
    by_cases c9 : (wrap64 ((l0.length : Int) - a1)) < a2
    ·
     rw [if_pos c9] at H
     have c9b0 : decide ((wrap64 ((l0.length : Int) - a1)) < a2) = true := decide_eq_true c9
     clear c9
     simp only [Option.some.injEq, Prod.mk.injEq] at H
     obtain ⟨rfl, rfl, rfl⟩ := H
     go_wp2
     go_ret3
     exact ⟨q0, Short.hB HB⟩
    ·
     rw [if_neg c9] at H
     have c9b0 : decide ((wrap64 ((l0.length : Int) - a1)) < a2) = false := decide_eq_false c9
     clear c9
     by_cases c10 : 0 ≤ a1
     ·
      rw [if_pos c10] at H
      have c10b0 := eq_true c10
      have c10b1 : decide (0 ≤ a1) = true := decide_eq_true c10
      clear c10
      by_cases c11 : a1 ≤ (wrap64 (a1 + a2))
      ·
       rw [if_pos c11] at H
       have c11b0 := eq_true c11
       have c11b1 : decide (a1 ≤ (wrap64 (a1 + a2))) = true := decide_eq_true c11
       by_cases c12 : (wrap64 (a1 + a2)) ≤ (l0.length : Int)
       ·
        rw [if_pos c12] at H
        have c12b0 := eq_true c12
        have c12b1 : decide ((wrap64 (a1 + a2)) ≤ (l0.length : Int)) = true := decide_eq_true c12
        replace H := Option.bind_eq_some_iff.mp H
        obtain ⟨t412, A130, H⟩ := H
        replace H : (some (t412, wrap64 (a1 + a2), 0)) = some (r1, r2, r3) := H
        have A13 := mk_ A130
        clear A130
        simp only [Option.some.injEq, Prod.mk.injEq] at H
        obtain ⟨rfl, rfl, rfl⟩ := H
        obtain ⟨i014, hi014, _, hsz14, _⟩ := info_parts info5
        obtain ⟨A14, hcut14, hA14, hC14⟩ := print_mid_of (P := Try.prog) (Value.int .u8) 0 22 5 .i64 .i64 Try.underlying22 hi014 hsz14 A0 c0 l0 a1 (wrap64 (a1 + a2)) (of_decide_eq_true z1) (by first | omega | exact of_decide_eq_true z1) (of_decide_eq_true z1) HC0.out
        have HR411 := mk_ (C_of_reads (h1 := fun _ => rfl) (hA14 _ (Kd.reads_of_C HR0.out)))
        have HC411 := mk_ hC14
        clear hA14 hC14 hi014 hsz14
        go_wp2_with (first | ((with_reducible refine gate_callee (f := 95) rfl ?_); refine goesL_ (some 31) rfl rfl Try.func95 z0 rfl #[.slice A14 ((l0.take ((wrap64 (a1 + a2)) : Int).toNat).drop (a1 : Int).toNat).length (c0 - a1.toNat)] rfl (by (try simp only [List.map_toArray, List.map_cons, List.map_nil]); first | done | (rw [show ((l0.take ((wrap64 (a1 + a2)) : Int).toNat).drop (a1 : Int).toNat).length = ((wrap64 (a1 + a2)).toNat - a1.toNat) from (by rw [List.length_drop, List.length_take]; have h_ : ((wrap64 (a1 + a2)) : Int) ≤ (l0.length : Int) := of_decide_eq_true z1; omega)] <;> rfl) | rfl | (simp only [List.length_drop, List.length_take]; rfl) | (go_simp; done) | (simp; done)) ?_; (with_reducible refine (raddleref01_num.calls kj3 _ _ ((l0.take ((wrap64 (a1 + a2)) : Int).toNat).drop (a1 : Int).toNat) t412 _ ?side1 ?side2 A13.out).mono ?_); (case side1 => exact cX_ (C_below HR411.out HB.out)); (case side2 => exact HC411.out); rintro e w' ⟨rfl, ⟨nd, rfl⟩⟩; refine ⟨_, rfl, ?_⟩))
        go_ret3
        exact ⟨q0, Short.hB HB⟩
       ·
        rw [if_neg c12] at H
        exact absurd H (by simp)
      ·
       rw [if_neg c11] at H
       exact absurd H (by simp)
     ·
      rw [if_neg c10] at H
      exact absurd H (by simp)
end Go.Proofs.Ytjnjfogfpmeacaa.PAll
end
section
namespace Go.Proofs.Ytjnjfogfpmeacaa.PAll
open Go.RowKit PrintWords PrintLast PrintMore ZipT PrintWords.Kd PrintMore.Kd
attribute [local go_sem] max2_int min2_int max_two min_two max_three min_three max_four min_four   -- for this text's walks alone
set_option linter.unusedVariables false
set_option linter.unusedSimpArgs false
mutual
def raddleref01_GetInt.j0 : Nat → List Int → Int → Bool → Option (Int × Int × Int)
 | 0, _, _, _ => none
 | k + 1, x0, x1, x32 => if x32 = true then (some (0, 0, 3)) else (if 0 ≤ (wrap64 (x1 + 1)) then (if (wrap64 (x1 + 1)) ≤ (wrap64 (x1 + 9)) then (if (wrap64 (x1 + 9)) ≤ (x0.length : Int) then ((raddleref01_num.f k ((x0.take ((wrap64 (x1 + 9)) : Int).toNat).drop ((wrap64 (x1 + 1)) : Int).toNat)).bind fun t417 => (if t417 > 1152921504606846976 then (raddleref01_GetInt.j1 k x0 x1 t417 true) else (if 0 ≤ x1 then (if x1 < (x0.length : Int) then (if (rd x0 x1) = 1 then (raddleref01_GetInt.j1 k x0 x1 t417 (t417 == 0)) else (raddleref01_GetInt.j1 k x0 x1 t417 false)) else (none)) else (none)))) else (none)) else (none)) else (none))
def raddleref01_GetInt.j1 : Nat → List Int → Int → Int → Bool → Option (Int × Int × Int)
 | 0, _, _, _, _ => none
 | k + 1, x0, x1, x7, x52 => if x52 = true then (some (0, 0, 3)) else (if 0 ≤ x1 then (if x1 < (x0.length : Int) then (if (rd x0 x1) = 1 then (some (wrap64 (-x7), wrap64 (x1 + 9), 0)) else (some (x7, wrap64 (x1 + 9), 0))) else (none)) else (none))
end
def raddleref01_GetInt.f (k : Nat) (l0 : List Int) (a1 : Int) : Option (Int × Int × Int) := (raddleref01_in.f a1 0 (l0.length : Int)).bind fun t413 => (if t413 = true then (if (wrap64 ((l0.length : Int) - a1)) < 9 then (raddleref01_GetInt.j0 k l0 a1 true) else (if 0 ≤ a1 then (if a1 < (l0.length : Int) then (if (rd l0 a1) > 1 then (raddleref01_GetInt.j0 k l0 a1 true) else (if 0 ≤ (wrap64 (a1 + 1)) then (if (wrap64 (a1 + 1)) < (l0.length : Int) then (raddleref01_GetInt.j0 k l0 a1 (decide ((rd l0 (wrap64 (a1 + 1))) > 127))) else (none)) else (none))) else (none)) else (none))) else (some (0, 0, 1)))
theorem raddleref01_GetInt.calls (k : Nat) (A0 : Option Addr) (c0 : Nat) (l0 : List Int) (a1 : Int) (r1 : Int) (r2 : Int) (r3 : Int) (w : World) (hr0 : Kd.C (Kd.int .u8) w A0 l0.length l0) (hc0 : l0.length ≤ c0) (h : raddleref01_GetInt.f k l0 a1 = some (r1, r2, r3)) :
  Calls Try.prog 120 #[.slice A0 l0.length c0, .int .i64 a1] w fun e w' => e = .returned (.tuple #[.int .i64 r1, .int .i64 r2, .int .i64 r3]) ∧ Below w.heap.size w w' := by
 have HR0 := mk_ hr0
 have HC0 := mk_ hc0
 clear hr0 hc0
 have HB := mk_ (Below.refl w.heap.size w)
 have H : ((raddleref01_in.f a1 0 (l0.length : Int)).bind fun t413 => (if t413 = true then (if (wrap64 ((l0.length : Int) - a1)) < 9 then (raddleref01_GetInt.j0 k l0 a1 true) else (if 0 ≤ a1 then (if a1 < (l0.length : Int) then (if (rd l0 a1) > 1 then (raddleref01_GetInt.j0 k l0 a1 true) else (if 0 ≤ (wrap64 (a1 + 1)) then (if (wrap64 (a1 + 1)) < (l0.length : Int) then (raddleref01_GetInt.j0 k l0 a1 (decide ((rd l0 (wrap64 (a1 + 1))) > 127))) else (none)) else (none))) else (none)) else (none))) else (some (0, 0, 1)))) = some (r1, r2, r3) := h
 clear h
 replace H := Option.bind_eq_some_iff.mp H
 obtain ⟨t413, A30, H⟩ := H
 replace H : (if t413 = true then (if (wrap64 ((l0.length : Int) - a1)) < 9 then (raddleref01_GetInt.j0 k l0 a1 true) else (if 0 ≤ a1 then (if a1 < (l0.length : Int) then (if (rd l0 a1) > 1 then (raddleref01_GetInt.j0 k l0 a1 true) else (if 0 ≤ (wrap64 (a1 + 1)) then (if (wrap64 (a1 + 1)) < (l0.length : Int) then (raddleref01_GetInt.j0 k l0 a1 (decide ((rd l0 (wrap64 (a1 + 1))) > 127))) else (none)) else (none))) else (none)) else (none))) else (some (0, 0, 1))) = some (r1, r2, r3) := H
 have A3 := mk_ A30
 clear A30
 by_cases c4 : t413 = true
 rotate_left
 ·
  replace c4 := Bool.eq_false_iff.mpr c4
  subst c4
  rw [if_neg (show ¬ (false = true) by decide)] at H
  simp only [Option.some.injEq, Prod.mk.injEq] at H
  obtain ⟨rfl, rfl, rfl⟩ := H
  go_enter Try.func120, Try.ntmps120
  go_wp2_with (first | ((with_reducible refine gate_callee (f := 27) rfl ?_); refine Short.gL (some 11) Try.func27 #[.int .i64 a1, .int .i64 0, .int .i64 (l0.length : Int)] (h := ?_); (with_reducible refine (raddleref01_in.calls a1 0 (l0.length : Int) false _ A3.out).mono ?_); rintro e w' ⟨rfl, ⟨nd, rfl⟩⟩; refine ⟨_, rfl, ?_⟩))
  go_ret3
  exact ⟨q0, Short.hB HB⟩
 subst c4
 rw [if_pos rfl] at H
 have HC5 := mk_ H
 clear H
 go_enter Try.func120, Try.ntmps120
 go_upto_region 3 with (first | ((with_reducible refine gate_callee (f := 27) rfl ?_); refine Short.gL (some 11) Try.func27 #[.int .i64 a1, .int .i64 0, .int .i64 (l0.length : Int)] (h := ?_); (with_reducible refine (raddleref01_in.calls a1 0 (l0.length : Int) true _ A3.out).mono ?_); rintro e w' ⟨rfl, ⟨nd, rfl⟩⟩; refine ⟨_, rfl, ?_⟩))
 (try simp only [Act.put, List.setIfInBounds_toArray, List.set_cons_zero, List.set_cons_succ])
 go_cut [32] (fun v32 wc => ∃ (kq : Nat) (x32_4 : Bool), v32 = .bool x32_4 ∧ Aside0 (raddleref01_GetInt.j0 kq l0 a1 x32_4 = some (r1, r2, r3)) ∧ Aside0 (kq ≤ k) ∧ Aside0 (Below w.heap.size w wc))
 case first =>
  have H := HC5.out
  clear HC5
  by_cases c6 : (wrap64 ((l0.length : Int) - a1)) < 9
  ·
   rw [if_pos c6] at H
   have c6b0 : decide ((wrap64 ((l0.length : Int) - a1)) < 9) = true := decide_eq_true c6
   clear c6
   (first | rw [c6b0] | (simp only [i64_w, i32_w]; rw [c6b0]) | skip)
   have H' := mk_ H
   clear H
   go_wp2
   go_meet
   case rel => exact ⟨_, (true), z3, H', ⟨by first | omega | exact Nat.le_refl _⟩, ⟨Short.hB HB⟩⟩
  rw [if_neg c6] at H
  have c6b0 : decide ((wrap64 ((l0.length : Int) - a1)) < 9) = false := decide_eq_false c6
  clear c6
  (first | rw [c6b0] | (simp only [i64_w, i32_w]; rw [c6b0]) | skip)
  by_cases c7 : 0 ≤ a1
  rotate_left
  ·
   rw [if_neg c7] at H
   exact absurd H (by simp)
  rw [if_pos c7] at H
  have c7b0 : decide (0 ≤ a1) = true := decide_eq_true c7
  clear c7
  by_cases c8 : a1 < (l0.length : Int)
  rotate_left
  ·
   rw [if_neg c8] at H
   exact absurd H (by simp)
  rw [if_pos c8] at H
  have c8b0 : decide (a1 < (l0.length : Int)) = true := decide_eq_true c8
  clear c8
  by_cases c9 : (rd l0 a1) > 1
  ·
   rw [if_pos c9] at H
   have c9b0 : decide (1 < (rd l0 a1)) = true := decide_eq_true c9
   clear c9
   have H' := mk_ H
   clear H
   have p414 : 0 ≤ (a1 : Int) := of_decide_eq_true z1
   have q414 : a1 < (l0.length : Int) := of_decide_eq_true z1
   obtain ⟨ad414, e414, hx414_0⟩ := Kd.at_int HR0.out a1 p414 q414
   cases e414
   replace hx414_0 := up_ HB hx414_0
   replace p414 := eq_true p414
   replace q414 := eq_true q414
   go_wp2
   go_meet
   case rel => exact ⟨_, (true), z3, H', ⟨by first | omega | exact Nat.le_refl _⟩, ⟨Short.hB HB⟩⟩
  rw [if_neg c9] at H
  have c9b0 : decide (1 < (rd l0 a1)) = false := decide_eq_false c9
  clear c9
  obtain ⟨ji10, hji10⟩ : ∃ j_ : Int, (wrap64 (a1 + 1)) = j_ := ⟨_, rfl⟩
  replace H : (if 0 ≤ (ji10) then (if (ji10) < (l0.length : Int) then (raddleref01_GetInt.j0 k l0 a1 (decide ((rd l0 (ji10)) > 127))) else (none)) else (none)) = some (r1, r2, r3) := by first | (rw [hji10] at H; exact H) | (simp only [hji10] at H ⊢; exact H)
  have hji10w : (IntKind.i64.wrap (a1 + 1)) = ji10 := (i64_w _).trans hji10
  by_cases c11 : 0 ≤ (ji10)
  rotate_left
  ·
   rw [if_neg c11] at H
   exact absurd H (by simp)
  rw [if_pos c11] at H
  have c11b0 : decide (0 ≤ (ji10)) = true := decide_eq_true c11
  clear c11
  by_cases c12 : (ji10) < (l0.length : Int)
  rotate_left
  ·
   rw [if_neg c12] at H
   exact absurd H (by simp)
  rw [if_pos c12] at H
  have c12b0 : decide ((ji10) < (l0.length : Int)) = true := decide_eq_true c12
  clear c12
  have H' := mk_ H
  clear H
  have p414 : 0 ≤ (a1 : Int) := of_decide_eq_true z1
  have q414 : a1 < (l0.length : Int) := of_decide_eq_true z1
  obtain ⟨ad414, e414, hx414_0⟩ := Kd.at_int HR0.out a1 p414 q414
  cases e414
  replace hx414_0 := up_ HB hx414_0
  replace p414 := eq_true p414
  replace q414 := eq_true q414
  have p415 : 0 ≤ ((ji10) : Int) := of_decide_eq_true z1
  have q415 : (ji10) < (l0.length : Int) := of_decide_eq_true z1
  obtain ⟨ad415, e415, hx415_0⟩ := Kd.at_int HR0.out (ji10) p415 q415
  obtain rfl : ad414 = ad415 := (by injection e415)
  replace hx415_0 := up_ HB hx415_0
  replace p415 := eq_true p415
  replace q415 := eq_true q415
  go_wp2
  go_meet
  case rel => exact ⟨_, (decide ((rd l0 (ji10)) > 127)), (by first | rfl | (simp; done) | (simp only [← hji10] <;> (first | rfl | simp)) | (simp [*]; done)), H', ⟨by first | omega | exact Nat.le_refl _⟩, ⟨Short.hB HB⟩⟩
 case rest => as_aux_lemma =>
  clear HC5
  try clear c1
  try clear c2
  try clear p2
  try clear c4
  try clear p4
  try clear q4
  try clear hx4
  try clear c6
  try clear c6b0
  try clear p6
  try clear c7
  try clear c7b0
  try clear c8
  try clear c8b0
  try clear c9
  try clear c9b0
  try clear c11
  try clear c11b0
  try clear c12
  try clear c12b0
  try clear hx414_0
  try clear hx415_0
  try clear p414
  try clear p415
  try clear q414
  try clear q415
  obtain ⟨kq, x32_4, rfl, HA, HJ4, HB⟩ := hcut
  cases kq with
  | zero => exact absurd HA.out (by simp [raddleref01_GetInt.j0])
  | succ kj4 =>
   have H := HA.out
   clear HA
   simp only [raddleref01_GetInt.j0] at H
   by_cases c13 : x32_4 = true
   ·
    subst c13
    rw [if_pos rfl] at H
    simp only [Option.some.injEq, Prod.mk.injEq] at H
    obtain ⟨rfl, rfl, rfl⟩ := H
    go_wp2
    go_ret3
    exact ⟨q0, Short.hB HB⟩
   ·
    replace c13 := Bool.eq_false_iff.mpr c13
    subst c13
    rw [if_neg (show ¬ (false = true) by decide)] at H
    obtain ⟨ji14, hji14⟩ : ∃ j_ : Int, (wrap64 (a1 + 1)) = j_ := ⟨_, rfl⟩
    replace H : (if 0 ≤ (ji14) then (if (ji14) ≤ (wrap64 (a1 + 9)) then (if (wrap64 (a1 + 9)) ≤ (l0.length : Int) then ((raddleref01_num.f kj4 ((l0.take ((wrap64 (a1 + 9)) : Int).toNat).drop ((ji14) : Int).toNat)).bind fun t417 => (if t417 > 1152921504606846976 then (raddleref01_GetInt.j1 kj4 l0 a1 t417 true) else (if 0 ≤ a1 then (if a1 < (l0.length : Int) then (if (rd l0 a1) = 1 then (raddleref01_GetInt.j1 kj4 l0 a1 t417 (t417 == 0)) else (raddleref01_GetInt.j1 kj4 l0 a1 t417 false)) else (none)) else (none)))) else (none)) else (none)) else (none)) = some (r1, r2, r3) := by first | (rw [hji14] at H; exact H) | (simp only [hji14] at H ⊢; exact H)
    have hji14w : (IntKind.i64.wrap (a1 + 1)) = ji14 := (i64_w _).trans hji14
    by_cases c15 : 0 ≤ (ji14)
    ·
     rw [if_pos c15] at H
     have c15b0 := eq_true c15
     have c15b1 : decide (0 ≤ (ji14)) = true := decide_eq_true c15
     clear c15
     by_cases c16 : (ji14) ≤ (wrap64 (a1 + 9))
     ·
      rw [if_pos c16] at H
      have c16b0 := eq_true c16
      have c16b1 : decide ((ji14) ≤ (wrap64 (a1 + 9))) = true := decide_eq_true c16
      by_cases c17 : (wrap64 (a1 + 9)) ≤ (l0.length : Int)
      ·
       rw [if_pos c17] at H
       have c17b0 := eq_true c17
       have c17b1 : decide ((wrap64 (a1 + 9)) ≤ (l0.length : Int)) = true := decide_eq_true c17
       replace H := Option.bind_eq_some_iff.mp H
       obtain ⟨t417, A180, H⟩ := H
       replace H : (if t417 > 1152921504606846976 then (raddleref01_GetInt.j1 kj4 l0 a1 t417 true) else (if 0 ≤ a1 then (if a1 < (l0.length : Int) then (if (rd l0 a1) = 1 then (raddleref01_GetInt.j1 kj4 l0 a1 t417 (t417 == 0)) else (raddleref01_GetInt.j1 kj4 l0 a1 t417 false)) else (none)) else (none))) = some (r1, r2, r3) := H
       have A18 := mk_ A180
       clear A180
       have HC19 := mk_ H
       clear H
       obtain ⟨i020, hi020, _, hsz20, _⟩ := info_parts info5
       obtain ⟨A20, hcut20, hA20, hC20⟩ := print_mid_of (P := Try.prog) (Value.int .u8) 0 22 5 .i64 .i64 Try.underlying22 hi020 hsz20 A0 c0 l0 (ji14) (wrap64 (a1 + 9)) (of_decide_eq_true z1) (by first | omega | exact of_decide_eq_true z1) (of_decide_eq_true z1) HC0.out
       have HR416 := mk_ (C_of_reads (h1 := fun _ => rfl) (hA20 _ (Kd.reads_of_C HR0.out)))
       have HC416 := mk_ hC20
       clear hA20 hC20 hi020 hsz20
       go_upto_region 6 with (first | ((with_reducible refine gate_callee (f := 95) rfl ?_); refine goesL_ (some 39) rfl rfl Try.func95 z0 rfl #[.slice A20 ((l0.take ((wrap64 (a1 + 9)) : Int).toNat).drop ((ji14) : Int).toNat).length (c0 - (ji14).toNat)] rfl (by (try simp only [List.map_toArray, List.map_cons, List.map_nil]); first | done | (rw [show ((l0.take ((wrap64 (a1 + 9)) : Int).toNat).drop ((ji14) : Int).toNat).length = ((wrap64 (a1 + 9)).toNat - (ji14).toNat) from (by rw [List.length_drop, List.length_take]; have h_ : ((wrap64 (a1 + 9)) : Int) ≤ (l0.length : Int) := of_decide_eq_true z1; omega)] <;> rfl) | (simp only [hji14]; rfl) | rfl | (simp only [List.length_drop, List.length_take]; rfl) | (go_simp; done) | (simp; done)) ?_; (with_reducible refine (raddleref01_num.calls kj4 _ _ ((l0.take ((wrap64 (a1 + 9)) : Int).toNat).drop ((ji14) : Int).toNat) t417 _ ?side1 ?side2 A18.out).mono ?_); (case side1 => exact cX_ (C_below HR416.out HB.out)); (case side2 => exact HC416.out); rintro e w' ⟨rfl, ⟨nd, rfl⟩⟩; refine ⟨_, rfl, ?_⟩))
       (try simp only [Act.put, List.setIfInBounds_toArray, List.set_cons_zero, List.set_cons_succ])
       go_cut [52] (fun v52 wc => ∃ (kq : Nat) (x52_18 : Bool), v52 = .bool x52_18 ∧ Aside0 (raddleref01_GetInt.j1 kq l0 a1 t417 x52_18 = some (r1, r2, r3)) ∧ Aside0 (kq ≤ kj4) ∧ Aside0 (Below w.heap.size w wc))
       case first =>
        have H := HC19.out
        clear HC19
        by_cases c21 : t417 > 1152921504606846976
        ·
         rw [if_pos c21] at H
         have c21b0 : decide (1152921504606846976 < t417) = true := decide_eq_true c21
         clear c21
         (first | rw [c21b0] | (simp only [i64_w, i32_w]; rw [c21b0]) | skip)
         have H' := mk_ H
         clear H
         go_wp2
         go_meet
         case rel => exact ⟨_, (true), z3, H', ⟨by have := HJ4.out; first | omega | exact Nat.le_refl _⟩, ⟨Short.hB HB⟩⟩
        ·
         rw [if_neg c21] at H
         have c21b0 : decide (1152921504606846976 < t417) = false := decide_eq_false c21
         clear c21
         (first | rw [c21b0] | (simp only [i64_w, i32_w]; rw [c21b0]) | skip)
         by_cases c22 : 0 ≤ a1
         ·
          rw [if_pos c22] at H
          have c22b0 : decide (0 ≤ a1) = true := decide_eq_true c22
          clear c22
          by_cases c23 : a1 < (l0.length : Int)
          ·
           rw [if_pos c23] at H
           have c23b0 : decide (a1 < (l0.length : Int)) = true := decide_eq_true c23
           clear c23
           by_cases c24 : (rd l0 a1) = 1
           ·
            rw [if_pos c24] at H
            have c24b0 : ((rd l0 a1) == 1) = true := beq_iff_eq.mpr c24
            have c24b1 : ((rd l0 a1) != 1) = false := bne_eq_false_iff_eq.mpr c24
            clear c24
            have H' := mk_ H
            clear H
            have p418 : 0 ≤ (a1 : Int) := of_decide_eq_true z1
            have q418 : a1 < (l0.length : Int) := of_decide_eq_true z1
            obtain ⟨ad418, e418, hx418_0⟩ := Kd.at_int HR0.out a1 p418 q418
            cases e418
            replace hx418_0 := up_ HB hx418_0
            replace p418 := eq_true p418
            replace q418 := eq_true q418
            go_wp2
            go_meet
            case rel => exact ⟨_, ((t417 == 0)), z3, H', ⟨by have := HJ4.out; first | omega | exact Nat.le_refl _⟩, ⟨Short.hB HB⟩⟩
           ·
            rw [if_neg c24] at H
            have c24b0 : ((rd l0 a1) == 1) = false := beq_eq_false_iff_ne.mpr c24
            have c24b1 : ((rd l0 a1) != 1) = true := bne_iff_ne.mpr c24
            have H' := mk_ H
            clear H
            have p418 : 0 ≤ (a1 : Int) := of_decide_eq_true z1
            have q418 : a1 < (l0.length : Int) := of_decide_eq_true z1
            obtain ⟨ad418, e418, hx418_0⟩ := Kd.at_int HR0.out a1 p418 q418
            cases e418
            replace hx418_0 := up_ HB hx418_0
            replace p418 := eq_true p418
            replace q418 := eq_true q418
            go_wp2
            go_meet
            case rel => exact ⟨_, (false), z3, H', ⟨by have := HJ4.out; first | omega | exact Nat.le_refl _⟩, ⟨Short.hB HB⟩⟩
          ·
           rw [if_neg c23] at H
           exact absurd H (by simp)
         ·
          rw [if_neg c22] at H
          exact absurd H (by simp)
       case rest => as_aux_lemma =>
        clear HC19
        try clear c1
        try clear c2
        try clear p2
        try clear c4
        try clear p4
        try clear q4
        try clear hx4
        try clear c6
        try clear c6b0
        try clear p6
        try clear c7
        try clear c7b0
        try clear c8
        try clear c8b0
        try clear c9
        try clear c9b0
        try clear c11
        try clear c11b0
        try clear c12
        try clear c12b0
        try clear c13
        try clear c15
        try clear c15b0
        try clear c15b1
        try clear c16
        try clear c16b0
        try clear c16b1
        try clear c17
        try clear c17b0
        try clear c17b1
        try clear c21
        try clear c21b0
        try clear c22
        try clear c22b0
        try clear c23
        try clear c23b0
        try clear c24
        try clear c24b0
        try clear c24b1
        try clear hx414_0
        try clear hx415_0
        try clear hx418_0
        try clear p2
        try clear p4
        try clear p414
        try clear p415
        try clear p418
        try clear p6
        try clear q4
        try clear q414
        try clear q415
        try clear q418
        obtain ⟨kq, x52_18, rfl, HA, HJ18, HB⟩ := hcut
        cases kq with
        | zero => exact absurd HA.out (by simp [raddleref01_GetInt.j1])
        | succ kj18 =>
         have H := HA.out
         clear HA
         simp only [raddleref01_GetInt.j1] at H
         by_cases c25 : x52_18 = true
         ·
          subst c25
          rw [if_pos rfl] at H
          simp only [Option.some.injEq, Prod.mk.injEq] at H
          obtain ⟨rfl, rfl, rfl⟩ := H
          go_wp2
          go_ret3
          exact ⟨by first | rfl | (simp [errW_none, errW_some] <;> rfl) | (simp only [← hji14]; first | rfl | (simp [errW_none, errW_some] <;> rfl)) | (simp [*, errW_none, errW_some] <;> rfl), Short.hB HB⟩
         ·
          replace c25 := Bool.eq_false_iff.mpr c25
          subst c25
          rw [if_neg (show ¬ (false = true) by decide)] at H
          by_cases c26 : 0 ≤ a1
          ·
           rw [if_pos c26] at H
           have c26b0 : decide (0 ≤ a1) = true := decide_eq_true c26
           clear c26
           by_cases c27 : a1 < (l0.length : Int)
           ·
            rw [if_pos c27] at H
            have c27b0 : decide (a1 < (l0.length : Int)) = true := decide_eq_true c27
            clear c27
            by_cases c28 : (rd l0 a1) = 1
            ·
             rw [if_pos c28] at H
             have c28b0 : ((rd l0 a1) == 1) = true := beq_iff_eq.mpr c28
             have c28b1 : ((rd l0 a1) != 1) = false := bne_eq_false_iff_eq.mpr c28
             clear c28
             simp only [Option.some.injEq, Prod.mk.injEq] at H
             obtain ⟨rfl, rfl, rfl⟩ := H
             have p419 : 0 ≤ (a1 : Int) := of_decide_eq_true z1
             have q419 : a1 < (l0.length : Int) := of_decide_eq_true z1
             obtain ⟨ad419, e419, hx419_0⟩ := Kd.at_int HR0.out a1 p419 q419
             cases e419
             replace hx419_0 := up_ HB hx419_0
             replace p419 := eq_true p419
             replace q419 := eq_true q419
             go_wp2
             go_ret3
             exact ⟨by first | rfl | (simp [errW_none, errW_some] <;> rfl) | (simp only [← hji14]; first | rfl | (simp [errW_none, errW_some] <;> rfl)) | (simp [*, errW_none, errW_some] <;> rfl), Short.hB HB⟩
            ·
             rw [if_neg c28] at H
             have c28b0 : ((rd l0 a1) == 1) = false := beq_eq_false_iff_ne.mpr c28
             have c28b1 : ((rd l0 a1) != 1) = true := bne_iff_ne.mpr c28
             simp only [Option.some.injEq, Prod.mk.injEq] at H
             obtain ⟨rfl, rfl, rfl⟩ := H
             have p419 : 0 ≤ (a1 : Int) := of_decide_eq_true z1
             have q419 : a1 < (l0.length : Int) := of_decide_eq_true z1
             obtain ⟨ad419, e419, hx419_0⟩ := Kd.at_int HR0.out a1 p419 q419
             cases e419
             replace hx419_0 := up_ HB hx419_0
             replace p419 := eq_true p419
             replace q419 := eq_true q419
             go_wp2
             go_ret3
             exact ⟨by first | rfl | (simp [errW_none, errW_some] <;> rfl) | (simp only [← hji14]; first | rfl | (simp [errW_none, errW_some] <;> rfl)) | (simp [*, errW_none, errW_some] <;> rfl), Short.hB HB⟩
           ·
            rw [if_neg c27] at H
            exact absurd H (by simp)
          ·
           rw [if_neg c26] at H
           exact absurd H (by simp)
      ·
       rw [if_neg c17] at H
       exact absurd H (by simp)
     ·
      rw [if_neg c16] at H
      exact absurd H (by simp)
    ·
     rw [if_neg c15] at H
     exact absurd H (by simp)
def raddleref01_ReadValue.f (k : Nat) (l0 : List Int) (a1 : Int) : Option (Int × Int × ByteArray × Int × Int) := (raddleref01_in.f a1 0 (l0.length : Int)).bind fun t421 => (if t421 = true then (if a1 = (l0.length : Int) then (some (0, 0, (⟨#[]⟩ : ByteArray), 0, 3)) else (if 0 ≤ a1 then (if a1 < (l0.length : Int) then (if (wrap64 (rd l0 a1)) = 1 then ((raddleref01_Value.f (wrap64 (rd l0 a1)) 0 (⟨#[]⟩ : ByteArray)).bind fun t424 => (if t424 = true then (some (wrap64 (rd l0 a1), 0, (⟨#[]⟩ : ByteArray), wrap64 (a1 + 1), 0)) else (some (0, 0, (⟨#[]⟩ : ByteArray), 0, 3)))) else (if (wrap64 (rd l0 a1)) = 2 then ((raddleref01_Get.f k l0 (wrap64 (a1 + 1)) 1).bind fun bt425 => (if bt425.2.2 = 0 then ((raddleref01_Value.f (wrap64 (rd l0 a1)) bt425.1 (⟨#[]⟩ : ByteArray)).bind fun t428 => (if t428 = true then (some (wrap64 (rd l0 a1), bt425.1, (⟨#[]⟩ : ByteArray), bt425.2.1, 0)) else (some (0, 0, (⟨#[]⟩ : ByteArray), 0, 3)))) else (some (0, 0, (⟨#[]⟩ : ByteArray), 0, 3)))) else (if (wrap64 (rd l0 a1)) = 3 then ((raddleref01_GetInt.f k l0 (wrap64 (a1 + 1))).bind fun bt429 => (if bt429.2.2 = 0 then ((raddleref01_Value.f (wrap64 (rd l0 a1)) bt429.1 (⟨#[]⟩ : ByteArray)).bind fun t432 => (if t432 = true then (some (wrap64 (rd l0 a1), bt429.1, (⟨#[]⟩ : ByteArray), bt429.2.1, 0)) else (some (0, 0, (⟨#[]⟩ : ByteArray), 0, 3)))) else (some (0, 0, (⟨#[]⟩ : ByteArray), 0, 3)))) else (if (wrap64 (rd l0 a1)) = 4 then ((raddleref01_GetText.f l0 (wrap64 (a1 + 1))).bind fun bt433 => (if bt433.2.2 = 0 then ((raddleref01_Value.f (wrap64 (rd l0 a1)) 0 bt433.1).bind fun t436 => (if t436 = true then (some (wrap64 (rd l0 a1), 0, bt433.1, bt433.2.1, 0)) else (some (0, 0, (⟨#[]⟩ : ByteArray), 0, 3)))) else (some (0, 0, (⟨#[]⟩ : ByteArray), 0, 3)))) else (some (0, 0, (⟨#[]⟩ : ByteArray), 0, 3)))))) else (none)) else (none))) else (some (0, 0, (⟨#[]⟩ : ByteArray), 0, 1)))
theorem raddleref01_ReadValue.calls (k : Nat) (A0 : Option Addr) (c0 : Nat) (l0 : List Int) (a1 : Int) (r1 : Int) (r2 : Int) (r3 : ByteArray) (r4 : Int) (r5 : Int) (w : World) (hr0 : Kd.C (Kd.int .u8) w A0 l0.length l0) (hc0 : l0.length ≤ c0) (h : raddleref01_ReadValue.f k l0 a1 = some (r1, r2, r3, r4, r5)) :
  Calls Try.prog 112 #[.slice A0 l0.length c0, .int .i64 a1] w fun e w' => e = .returned (.tuple #[.agg #[.int .i64 r1, .int .i64 r2, .string r3], .int .i64 r4, .int .i64 r5]) ∧ Below w.heap.size w w' := by
 have hu84 := Try.underlying84
 have HR0 := mk_ hr0
 have HC0 := mk_ hc0
 clear hr0 hc0
 have HB := mk_ (Below.refl w.heap.size w)
 have H : ((raddleref01_in.f a1 0 (l0.length : Int)).bind fun t421 => (if t421 = true then (if a1 = (l0.length : Int) then (some (0, 0, (⟨#[]⟩ : ByteArray), 0, 3)) else (if 0 ≤ a1 then (if a1 < (l0.length : Int) then (if (wrap64 (rd l0 a1)) = 1 then ((raddleref01_Value.f (wrap64 (rd l0 a1)) 0 (⟨#[]⟩ : ByteArray)).bind fun t424 => (if t424 = true then (some (wrap64 (rd l0 a1), 0, (⟨#[]⟩ : ByteArray), wrap64 (a1 + 1), 0)) else (some (0, 0, (⟨#[]⟩ : ByteArray), 0, 3)))) else (if (wrap64 (rd l0 a1)) = 2 then ((raddleref01_Get.f k l0 (wrap64 (a1 + 1)) 1).bind fun bt425 => (if bt425.2.2 = 0 then ((raddleref01_Value.f (wrap64 (rd l0 a1)) bt425.1 (⟨#[]⟩ : ByteArray)).bind fun t428 => (if t428 = true then (some (wrap64 (rd l0 a1), bt425.1, (⟨#[]⟩ : ByteArray), bt425.2.1, 0)) else (some (0, 0, (⟨#[]⟩ : ByteArray), 0, 3)))) else (some (0, 0, (⟨#[]⟩ : ByteArray), 0, 3)))) else (if (wrap64 (rd l0 a1)) = 3 then ((raddleref01_GetInt.f k l0 (wrap64 (a1 + 1))).bind fun bt429 => (if bt429.2.2 = 0 then ((raddleref01_Value.f (wrap64 (rd l0 a1)) bt429.1 (⟨#[]⟩ : ByteArray)).bind fun t432 => (if t432 = true then (some (wrap64 (rd l0 a1), bt429.1, (⟨#[]⟩ : ByteArray), bt429.2.1, 0)) else (some (0, 0, (⟨#[]⟩ : ByteArray), 0, 3)))) else (some (0, 0, (⟨#[]⟩ : ByteArray), 0, 3)))) else (if (wrap64 (rd l0 a1)) = 4 then ((raddleref01_GetText.f l0 (wrap64 (a1 + 1))).bind fun bt433 => (if bt433.2.2 = 0 then ((raddleref01_Value.f (wrap64 (rd l0 a1)) 0 bt433.1).bind fun t436 => (if t436 = true then (some (wrap64 (rd l0 a1), 0, bt433.1, bt433.2.1, 0)) else (some (0, 0, (⟨#[]⟩ : ByteArray), 0, 3)))) else (some (0, 0, (⟨#[]⟩ : ByteArray), 0, 3)))) else (some (0, 0, (⟨#[]⟩ : ByteArray), 0, 3)))))) else (none)) else (none))) else (some (0, 0, (⟨#[]⟩ : ByteArray), 0, 1)))) = some (r1, r2, r3, r4, r5) := h
 clear h
 replace H := Option.bind_eq_some_iff.mp H
 obtain ⟨t421, A30, H⟩ := H
 replace H : (if t421 = true then (if a1 = (l0.length : Int) then (some (0, 0, (⟨#[]⟩ : ByteArray), 0, 3)) else (if 0 ≤ a1 then (if a1 < (l0.length : Int) then (if (wrap64 (rd l0 a1)) = 1 then ((raddleref01_Value.f (wrap64 (rd l0 a1)) 0 (⟨#[]⟩ : ByteArray)).bind fun t424 => (if t424 = true then (some (wrap64 (rd l0 a1), 0, (⟨#[]⟩ : ByteArray), wrap64 (a1 + 1), 0)) else (some (0, 0, (⟨#[]⟩ : ByteArray), 0, 3)))) else (if (wrap64 (rd l0 a1)) = 2 then ((raddleref01_Get.f k l0 (wrap64 (a1 + 1)) 1).bind fun bt425 => (if bt425.2.2 = 0 then ((raddleref01_Value.f (wrap64 (rd l0 a1)) bt425.1 (⟨#[]⟩ : ByteArray)).bind fun t428 => (if t428 = true then (some (wrap64 (rd l0 a1), bt425.1, (⟨#[]⟩ : ByteArray), bt425.2.1, 0)) else (some (0, 0, (⟨#[]⟩ : ByteArray), 0, 3)))) else (some (0, 0, (⟨#[]⟩ : ByteArray), 0, 3)))) else (if (wrap64 (rd l0 a1)) = 3 then ((raddleref01_GetInt.f k l0 (wrap64 (a1 + 1))).bind fun bt429 => (if bt429.2.2 = 0 then ((raddleref01_Value.f (wrap64 (rd l0 a1)) bt429.1 (⟨#[]⟩ : ByteArray)).bind fun t432 => (if t432 = true then (some (wrap64 (rd l0 a1), bt429.1, (⟨#[]⟩ : ByteArray), bt429.2.1, 0)) else (some (0, 0, (⟨#[]⟩ : ByteArray), 0, 3)))) else (some (0, 0, (⟨#[]⟩ : ByteArray), 0, 3)))) else (if (wrap64 (rd l0 a1)) = 4 then ((raddleref01_GetText.f l0 (wrap64 (a1 + 1))).bind fun bt433 => (if bt433.2.2 = 0 then ((raddleref01_Value.f (wrap64 (rd l0 a1)) 0 bt433.1).bind fun t436 => (if t436 = true then (some (wrap64 (rd l0 a1), 0, bt433.1, bt433.2.1, 0)) else (some (0, 0, (⟨#[]⟩ : ByteArray), 0, 3)))) else (some (0, 0, (⟨#[]⟩ : ByteArray), 0, 3)))) else (some (0, 0, (⟨#[]⟩ : ByteArray), 0, 3)))))) else (none)) else (none))) else (some (0, 0, (⟨#[]⟩ : ByteArray), 0, 1))) = some (r1, r2, r3, r4, r5) := H
 have A3 := mk_ A30
 clear A30
 by_cases c4 : t421 = true
 rotate_left
 ·
  replace c4 := Bool.eq_false_iff.mpr c4
  subst c4
  rw [if_neg (show ¬ (false = true) by decide)] at H
  simp only [Option.some.injEq, Prod.mk.injEq] at H
  obtain ⟨rfl, rfl, rfl, rfl, rfl⟩ := H
  go_enter Try.func112, Try.ntmps112
  go_wp2_with (first | ((with_reducible refine gate_dst (N := 4) rfl ?_); refine box_event ?hg (N := 4) ?hd (cs := #[.int .i64 0, .int .i64 0, .string (⟨#[]⟩ : ByteArray)]) (t := 84) ?hr ?_; (case hd => rfl); (case hg => rfl); (case hr => first | (go_simp; done) | (go_simp; rfl)); intro gb420 hg w118 hbox hb; have n0_ := mk_ (below_step (Short.hB HB) hb); have n1_ := mk_ (hbox); have n2_ := mk_ ((by rw [hg]; exact (below_size (Short.hB HB)) : w.heap.size ≤ gb420)); have n3_ := mk_ ((by rw [hg]; exact (below_size (Short.hB HB)) : w.heap.size ≤ gb420)); clear HB; revert n0_ n1_ n2_ n3_; intro HB BK420 GW420 GE420; clear hb hbox hg) | ((with_reducible refine gate_callee (f := 27) rfl ?_); refine Short.gL (some 13) Try.func27 #[.int .i64 a1, .int .i64 0, .int .i64 (l0.length : Int)] (h := ?_); (with_reducible refine (raddleref01_in.calls a1 0 (l0.length : Int) false _ A3.out).mono ?_); rintro e w' ⟨rfl, ⟨nd, rfl⟩⟩; refine ⟨_, rfl, ?_⟩; (try (rw [drewN_self w118]; generalize hq_ : World.drewN w118 _ = w118; have n0_ : Aside0 (w118.heap[gb420]? = some (.cells #[.int .i64 0, .int .i64 0, .string (⟨#[]⟩ : ByteArray)] 84 (0, 0))) := ⟨by rw [← hq_]; exact (Short.bK BK420)⟩; have n1_ : Aside0 (Below w.heap.size w w118) := ⟨by rw [← hq_]; exact (Short.hB HB)⟩; clear BK420 HB hq_; revert n0_ n1_; intro BK420 HB)); obtain ⟨hcz119_0, hcz119_1, hcz119_2, hfz119_0, hfz119_1, hfz119_2⟩ := Short.c3 BK420.out))
  refine bodyPost_ret (results_ctt rfl _ _ gb420 84 #[.int .i64 0, .int .i64 0, .string (⟨#[]⟩ : ByteArray)] (0, 0) _ rfl (by (with_reducible repeat (first | refine blk_drewN ?_ _ | refine blk_drew ?_ | refine blk_alloc ?_ _)); refine blk_put (cs := #[.int .i64 0, .int .i64 0, .string (⟨#[]⟩ : ByteArray)]) ?_ 2 _ rfl; (with_reducible repeat (first | refine blk_drewN ?_ _ | refine blk_drew ?_ | refine blk_alloc ?_ _)); refine blk_put (cs := #[.int .i64 0, .int .i64 0, .string (⟨#[]⟩ : ByteArray)]) ?_ 1 _ rfl; (with_reducible repeat (first | refine blk_drewN ?_ _ | refine blk_drew ?_ | refine blk_alloc ?_ _)); refine blk_put (cs := #[.int .i64 0, .int .i64 0, .string (⟨#[]⟩ : ByteArray)]) ?_ 0 _ rfl; (with_reducible repeat (first | refine blk_drewN ?_ _ | refine blk_drew ?_ | refine blk_alloc ?_ _)); exact BK420.out) Try.underlying84 rfl z0) rfl ?_
  exact ⟨q0, Short.hB HB⟩
 subst c4
 rw [if_pos rfl] at H
 by_cases c5 : a1 = (l0.length : Int)
 ·
  rw [if_pos c5] at H
  have c5b0 : (a1 == (l0.length : Int)) = true := beq_iff_eq.mpr c5
  have c5b1 : (a1 != (l0.length : Int)) = false := bne_eq_false_iff_eq.mpr c5
  clear c5
  simp only [Option.some.injEq, Prod.mk.injEq] at H
  obtain ⟨rfl, rfl, rfl, rfl, rfl⟩ := H
  go_enter Try.func112, Try.ntmps112
  go_wp2_with (first | ((with_reducible refine gate_dst (N := 4) rfl ?_); refine box_event ?hg (N := 4) ?hd (cs := #[.int .i64 0, .int .i64 0, .string (⟨#[]⟩ : ByteArray)]) (t := 84) ?hr ?_; (case hd => rfl); (case hg => rfl); (case hr => first | (go_simp; done) | (go_simp; rfl)); intro gb420 hg w6 hbox hb; have n0_ := mk_ (below_step (Short.hB HB) hb); have n1_ := mk_ (hbox); have n2_ := mk_ ((by rw [hg]; exact (below_size (Short.hB HB)) : w.heap.size ≤ gb420)); have n3_ := mk_ ((by rw [hg]; exact (below_size (Short.hB HB)) : w.heap.size ≤ gb420)); clear HB; revert n0_ n1_ n2_ n3_; intro HB BK420 GW420 GE420; clear hb hbox hg) | ((with_reducible refine gate_callee (f := 27) rfl ?_); refine Short.gL (some 13) Try.func27 #[.int .i64 a1, .int .i64 0, .int .i64 (l0.length : Int)] (h := ?_); (with_reducible refine (raddleref01_in.calls a1 0 (l0.length : Int) true _ A3.out).mono ?_); rintro e w' ⟨rfl, ⟨nd, rfl⟩⟩; refine ⟨_, rfl, ?_⟩; (try (rw [drewN_self w6]; generalize hq_ : World.drewN w6 _ = w6; have n0_ : Aside0 (w6.heap[gb420]? = some (.cells #[.int .i64 0, .int .i64 0, .string (⟨#[]⟩ : ByteArray)] 84 (0, 0))) := ⟨by rw [← hq_]; exact (Short.bK BK420)⟩; have n1_ : Aside0 (Below w.heap.size w w6) := ⟨by rw [← hq_]; exact (Short.hB HB)⟩; clear BK420 HB hq_; revert n0_ n1_; intro BK420 HB)); obtain ⟨hcz7_0, hcz7_1, hcz7_2, hfz7_0, hfz7_1, hfz7_2⟩ := Short.c3 BK420.out))
  refine bodyPost_ret (results_ctt rfl _ _ gb420 84 #[.int .i64 0, .int .i64 0, .string (⟨#[]⟩ : ByteArray)] (0, 0) _ rfl (by (with_reducible repeat (first | refine blk_drewN ?_ _ | refine blk_drew ?_ | refine blk_alloc ?_ _)); refine blk_put (cs := #[.int .i64 0, .int .i64 0, .string (⟨#[]⟩ : ByteArray)]) ?_ 2 _ rfl; (with_reducible repeat (first | refine blk_drewN ?_ _ | refine blk_drew ?_ | refine blk_alloc ?_ _)); refine blk_put (cs := #[.int .i64 0, .int .i64 0, .string (⟨#[]⟩ : ByteArray)]) ?_ 1 _ rfl; (with_reducible repeat (first | refine blk_drewN ?_ _ | refine blk_drew ?_ | refine blk_alloc ?_ _)); refine blk_put (cs := #[.int .i64 0, .int .i64 0, .string (⟨#[]⟩ : ByteArray)]) ?_ 0 _ rfl; (with_reducible repeat (first | refine blk_drewN ?_ _ | refine blk_drew ?_ | refine blk_alloc ?_ _)); exact BK420.out) Try.underlying84 rfl z0) rfl ?_
  exact ⟨q0, Short.hB HB⟩
 rw [if_neg c5] at H
 have c5b0 : (a1 == (l0.length : Int)) = false := beq_eq_false_iff_ne.mpr c5
 have c5b1 : (a1 != (l0.length : Int)) = true := bne_iff_ne.mpr c5
 by_cases c8 : 0 ≤ a1
 rotate_left
 ·
  rw [if_neg c8] at H
  exact absurd H (by simp)
 rw [if_pos c8] at H
 have c8b0 : decide (0 ≤ a1) = true := decide_eq_true c8
 clear c8
 by_cases c9 : a1 < (l0.length : Int)
 rotate_left
 ·
  rw [if_neg c9] at H
  exact absurd H (by simp)
 rw [if_pos c9] at H
 have c9b0 : decide (a1 < (l0.length : Int)) = true := decide_eq_true c9
 clear c9
 by_cases c10 : (wrap64 (rd l0 a1)) = 1
 ·
  rw [if_pos c10] at H
  have c10b0 : ((wrap64 (rd l0 a1)) == 1) = true := beq_iff_eq.mpr c10
  have c10b1 : ((wrap64 (rd l0 a1)) != 1) = false := bne_eq_false_iff_eq.mpr c10
  clear c10
  replace H := Option.bind_eq_some_iff.mp H
  obtain ⟨t424, A110, H⟩ := H
  replace H : (if t424 = true then (some (wrap64 (rd l0 a1), 0, (⟨#[]⟩ : ByteArray), wrap64 (a1 + 1), 0)) else (some (0, 0, (⟨#[]⟩ : ByteArray), 0, 3))) = some (r1, r2, r3, r4, r5) := H
  have A11 := mk_ A110
  clear A110
  by_cases c12 : t424 = true
  ·
   subst c12
   rw [if_pos rfl] at H
   simp only [Option.some.injEq, Prod.mk.injEq] at H
   obtain ⟨rfl, rfl, rfl, rfl, rfl⟩ := H
   go_enter Try.func112, Try.ntmps112
   go_wp2_with (first | ((with_reducible refine gate_dst (N := 4) rfl ?_); refine box_event ?hg (N := 4) ?hd (cs := #[.int .i64 0, .int .i64 0, .string (⟨#[]⟩ : ByteArray)]) (t := 84) ?hr ?_; (case hd => rfl); (case hg => rfl); (case hr => first | (go_simp; done) | (go_simp; rfl)); intro gb420 hg w13 hbox hb; have n0_ := mk_ (below_step (Short.hB HB) hb); have n1_ := mk_ (hbox); have n2_ := mk_ ((by rw [hg]; exact (below_size (Short.hB HB)) : w.heap.size ≤ gb420)); have n3_ := mk_ ((by rw [hg]; exact (below_size (Short.hB HB)) : w.heap.size ≤ gb420)); clear HB; revert n0_ n1_ n2_ n3_; intro HB BK420 GW420 GE420; clear hb hbox hg) | ((with_reducible refine gate_callee (f := 27) rfl ?_); refine Short.gL (some 13) Try.func27 #[.int .i64 a1, .int .i64 0, .int .i64 (l0.length : Int)] (h := ?_); (with_reducible refine (raddleref01_in.calls a1 0 (l0.length : Int) true _ A3.out).mono ?_); rintro e w' ⟨rfl, ⟨nd, rfl⟩⟩; refine ⟨_, rfl, ?_⟩; (try (rw [drewN_self w13]; generalize hq_ : World.drewN w13 _ = w13; have n0_ : Aside0 (w13.heap[gb420]? = some (.cells #[.int .i64 0, .int .i64 0, .string (⟨#[]⟩ : ByteArray)] 84 (0, 0))) := ⟨by rw [← hq_]; exact (Short.bK BK420)⟩; have n1_ : Aside0 (Below w.heap.size w w13) := ⟨by rw [← hq_]; exact (Short.hB HB)⟩; clear BK420 HB hq_; revert n0_ n1_; intro BK420 HB)); have p422 : 0 ≤ (a1 : Int) := of_decide_eq_true z1; have q422 : a1 < (l0.length : Int) := of_decide_eq_true z1; obtain ⟨ad422, e422, hx422_0⟩ := Kd.at_int HR0.out a1 p422 q422; cases e422; replace hx422_0 := up_ HB hx422_0; replace p422 := eq_true p422; replace q422 := eq_true q422) | ((with_reducible refine gate_dst (N := 7) rfl ?_); refine box_event ?hg (N := 7) ?hd (cs := #[.int .i64 0, .int .i64 0, .string (⟨#[]⟩ : ByteArray)]) (t := 84) ?hr ?_; (case hd => rfl); (case hg => rfl); (case hr => first | (go_simp; done) | (go_simp; rfl)); intro gb423 hg w14 hbox hb; have n0_ := mk_ (bB_ BK420 hb); have n1_ := mk_ (below_step (Short.hB HB) hb); have n2_ := mk_ (hbox); have n3_ := mk_ ((by rw [hg]; exact (below_size (Short.hB HB)) : w.heap.size ≤ gb423)); have n4_ := mk_ ((by rw [hg]; exact (below_size (Short.hB HB)) : w.heap.size ≤ gb423)); have n5_ := mk_ ((by rw [hg]; exact Nat.ne_of_lt (blk_lt (Short.bK BK420)) : gb420 ≠ gb423)); have n6_ := mk_ ((by rw [hg]; exact Nat.ne_of_gt (blk_lt (Short.bK BK420)) : gb423 ≠ gb420)); clear BK420 HB; revert n0_ n1_ n2_ n3_ n4_ n5_ n6_; intro BK420 HB BK423 GW423 GE423 NB420_423 NB423_420; clear hb hbox hg; have hnb15 := NB423_420.out; have hnc15 := NB420_423.out; obtain ⟨hcz16_0, hcz16_1, hcz16_2, hfz16_0, hfz16_1, hfz16_2⟩ := Short.c3 BK423.out) | (go_at_call 84; (with_reducible refine (raddleref01_Value.calls (wrap64 (rd l0 a1)) 0 (⟨#[]⟩ : ByteArray) true _ A11.out).mono ?_); rintro e w17 ⟨rfl, hb⟩; have n0_ := mk_ (blk_below (g := gb420) (o := .cells #[.int .i64 0, .int .i64 0, .string (⟨#[]⟩ : ByteArray)] 84 (0, 0)) (by (with_reducible repeat (first | refine blk_drewN ?_ _ | refine blk_drew ?_ | refine blk_alloc ?_ _)); refine blk_far ?_ NB420_423.out _; (with_reducible repeat (first | refine blk_drewN ?_ _ | refine blk_drew ?_ | refine blk_alloc ?_ _)); refine blk_far ?_ NB420_423.out _; (with_reducible repeat (first | refine blk_drewN ?_ _ | refine blk_drew ?_ | refine blk_alloc ?_ _)); refine blk_far ?_ NB420_423.out _; (with_reducible repeat (first | refine blk_drewN ?_ _ | refine blk_drew ?_ | refine blk_alloc ?_ _)); exact BK420.out) hb); have n1_ := mk_ (blk_below (g := gb423) (o := .cells #[.int .i64 (wrap64 (rd l0 a1)), .int .i64 0, .string (⟨#[]⟩ : ByteArray)] 84 (0, 0)) (by (with_reducible repeat (first | refine blk_drewN ?_ _ | refine blk_drew ?_ | refine blk_alloc ?_ _)); refine blk_put (cs := #[.int .i64 (wrap64 (rd l0 a1)), .int .i64 0, .string (⟨#[]⟩ : ByteArray)]) ?_ 2 _ rfl; (with_reducible repeat (first | refine blk_drewN ?_ _ | refine blk_drew ?_ | refine blk_alloc ?_ _)); refine blk_put (cs := #[.int .i64 (wrap64 (rd l0 a1)), .int .i64 0, .string (⟨#[]⟩ : ByteArray)]) ?_ 1 _ rfl; (with_reducible repeat (first | refine blk_drewN ?_ _ | refine blk_drew ?_ | refine blk_alloc ?_ _)); refine blk_put (cs := #[.int .i64 0, .int .i64 0, .string (⟨#[]⟩ : ByteArray)]) ?_ 0 _ rfl; (with_reducible repeat (first | refine blk_drewN ?_ _ | refine blk_drew ?_ | refine blk_alloc ?_ _)); exact BK423.out) hb); have n2_ := mk_ (below_step (Short.hB HB) hb); clear BK420 BK423 HB; revert n0_ n1_ n2_; intro BK420 BK423 HB; (try clear hb); (try clear hb2); (try clear hk); (try clear hi); obtain ⟨hcz18_0, hcz18_1, hcz18_2, hfz18_0, hfz18_1, hfz18_2⟩ := Short.c3 BK423.out; obtain ⟨hcz19_0, hcz19_1, hcz19_2, hfz19_0, hfz19_1, hfz19_2⟩ := Short.c3 BK420.out))
   refine bodyPost_ret (results_ctt rfl _ _ gb420 84 #[.int .i64 (wrap64 (rd l0 a1)), .int .i64 0, .string (⟨#[]⟩ : ByteArray)] (0, 0) _ rfl (by (with_reducible repeat (first | refine blk_drewN ?_ _ | refine blk_drew ?_ | refine blk_alloc ?_ _)); refine blk_put (cs := #[.int .i64 (wrap64 (rd l0 a1)), .int .i64 0, .string (⟨#[]⟩ : ByteArray)]) ?_ 2 _ rfl; (with_reducible repeat (first | refine blk_drewN ?_ _ | refine blk_drew ?_ | refine blk_alloc ?_ _)); refine blk_put (cs := #[.int .i64 (wrap64 (rd l0 a1)), .int .i64 0, .string (⟨#[]⟩ : ByteArray)]) ?_ 1 _ rfl; (with_reducible repeat (first | refine blk_drewN ?_ _ | refine blk_drew ?_ | refine blk_alloc ?_ _)); refine blk_put (cs := #[.int .i64 0, .int .i64 0, .string (⟨#[]⟩ : ByteArray)]) ?_ 0 _ rfl; (with_reducible repeat (first | refine blk_drewN ?_ _ | refine blk_drew ?_ | refine blk_alloc ?_ _)); exact BK420.out) Try.underlying84 rfl z0) rfl ?_
   exact ⟨q0, Short.hB HB⟩
  replace c12 := Bool.eq_false_iff.mpr c12
  subst c12
  rw [if_neg (show ¬ (false = true) by decide)] at H
  simp only [Option.some.injEq, Prod.mk.injEq] at H
  obtain ⟨rfl, rfl, rfl, rfl, rfl⟩ := H
  go_enter Try.func112, Try.ntmps112
  go_wp2_with (first | ((with_reducible refine gate_dst (N := 4) rfl ?_); refine box_event ?hg (N := 4) ?hd (cs := #[.int .i64 0, .int .i64 0, .string (⟨#[]⟩ : ByteArray)]) (t := 84) ?hr ?_; (case hd => rfl); (case hg => rfl); (case hr => first | (go_simp; done) | (go_simp; rfl)); intro gb420 hg w20 hbox hb; have n0_ := mk_ (below_step (Short.hB HB) hb); have n1_ := mk_ (hbox); have n2_ := mk_ ((by rw [hg]; exact (below_size (Short.hB HB)) : w.heap.size ≤ gb420)); have n3_ := mk_ ((by rw [hg]; exact (below_size (Short.hB HB)) : w.heap.size ≤ gb420)); clear HB; revert n0_ n1_ n2_ n3_; intro HB BK420 GW420 GE420; clear hb hbox hg) | ((with_reducible refine gate_callee (f := 27) rfl ?_); refine Short.gL (some 13) Try.func27 #[.int .i64 a1, .int .i64 0, .int .i64 (l0.length : Int)] (h := ?_); (with_reducible refine (raddleref01_in.calls a1 0 (l0.length : Int) true _ A3.out).mono ?_); rintro e w' ⟨rfl, ⟨nd, rfl⟩⟩; refine ⟨_, rfl, ?_⟩; (try (rw [drewN_self w20]; generalize hq_ : World.drewN w20 _ = w20; have n0_ : Aside0 (w20.heap[gb420]? = some (.cells #[.int .i64 0, .int .i64 0, .string (⟨#[]⟩ : ByteArray)] 84 (0, 0))) := ⟨by rw [← hq_]; exact (Short.bK BK420)⟩; have n1_ : Aside0 (Below w.heap.size w w20) := ⟨by rw [← hq_]; exact (Short.hB HB)⟩; clear BK420 HB hq_; revert n0_ n1_; intro BK420 HB)); have p422 : 0 ≤ (a1 : Int) := of_decide_eq_true z1; have q422 : a1 < (l0.length : Int) := of_decide_eq_true z1; obtain ⟨ad422, e422, hx422_0⟩ := Kd.at_int HR0.out a1 p422 q422; cases e422; replace hx422_0 := up_ HB hx422_0; replace p422 := eq_true p422; replace q422 := eq_true q422) | ((with_reducible refine gate_dst (N := 7) rfl ?_); refine box_event ?hg (N := 7) ?hd (cs := #[.int .i64 0, .int .i64 0, .string (⟨#[]⟩ : ByteArray)]) (t := 84) ?hr ?_; (case hd => rfl); (case hg => rfl); (case hr => first | (go_simp; done) | (go_simp; rfl)); intro gb423 hg w21 hbox hb; have n0_ := mk_ (bB_ BK420 hb); have n1_ := mk_ (below_step (Short.hB HB) hb); have n2_ := mk_ (hbox); have n3_ := mk_ ((by rw [hg]; exact (below_size (Short.hB HB)) : w.heap.size ≤ gb423)); have n4_ := mk_ ((by rw [hg]; exact (below_size (Short.hB HB)) : w.heap.size ≤ gb423)); have n5_ := mk_ ((by rw [hg]; exact Nat.ne_of_lt (blk_lt (Short.bK BK420)) : gb420 ≠ gb423)); have n6_ := mk_ ((by rw [hg]; exact Nat.ne_of_gt (blk_lt (Short.bK BK420)) : gb423 ≠ gb420)); clear BK420 HB; revert n0_ n1_ n2_ n3_ n4_ n5_ n6_; intro BK420 HB BK423 GW423 GE423 NB420_423 NB423_420; clear hb hbox hg; have hnb22 := NB423_420.out; have hnc22 := NB420_423.out; obtain ⟨hcz23_0, hcz23_1, hcz23_2, hfz23_0, hfz23_1, hfz23_2⟩ := Short.c3 BK423.out) | (go_at_call 84; (with_reducible refine (raddleref01_Value.calls (wrap64 (rd l0 a1)) 0 (⟨#[]⟩ : ByteArray) false _ A11.out).mono ?_); rintro e w24 ⟨rfl, hb⟩; have n0_ := mk_ (blk_below (g := gb420) (o := .cells #[.int .i64 0, .int .i64 0, .string (⟨#[]⟩ : ByteArray)] 84 (0, 0)) (by (with_reducible repeat (first | refine blk_drewN ?_ _ | refine blk_drew ?_ | refine blk_alloc ?_ _)); refine blk_far ?_ NB420_423.out _; (with_reducible repeat (first | refine blk_drewN ?_ _ | refine blk_drew ?_ | refine blk_alloc ?_ _)); refine blk_far ?_ NB420_423.out _; (with_reducible repeat (first | refine blk_drewN ?_ _ | refine blk_drew ?_ | refine blk_alloc ?_ _)); refine blk_far ?_ NB420_423.out _; (with_reducible repeat (first | refine blk_drewN ?_ _ | refine blk_drew ?_ | refine blk_alloc ?_ _)); exact BK420.out) hb); have n1_ := mk_ (blk_below (g := gb423) (o := .cells #[.int .i64 (wrap64 (rd l0 a1)), .int .i64 0, .string (⟨#[]⟩ : ByteArray)] 84 (0, 0)) (by (with_reducible repeat (first | refine blk_drewN ?_ _ | refine blk_drew ?_ | refine blk_alloc ?_ _)); refine blk_put (cs := #[.int .i64 (wrap64 (rd l0 a1)), .int .i64 0, .string (⟨#[]⟩ : ByteArray)]) ?_ 2 _ rfl; (with_reducible repeat (first | refine blk_drewN ?_ _ | refine blk_drew ?_ | refine blk_alloc ?_ _)); refine blk_put (cs := #[.int .i64 (wrap64 (rd l0 a1)), .int .i64 0, .string (⟨#[]⟩ : ByteArray)]) ?_ 1 _ rfl; (with_reducible repeat (first | refine blk_drewN ?_ _ | refine blk_drew ?_ | refine blk_alloc ?_ _)); refine blk_put (cs := #[.int .i64 0, .int .i64 0, .string (⟨#[]⟩ : ByteArray)]) ?_ 0 _ rfl; (with_reducible repeat (first | refine blk_drewN ?_ _ | refine blk_drew ?_ | refine blk_alloc ?_ _)); exact BK423.out) hb); have n2_ := mk_ (below_step (Short.hB HB) hb); clear BK420 BK423 HB; revert n0_ n1_ n2_; intro BK420 BK423 HB; (try clear hb); (try clear hb2); (try clear hk); (try clear hi); obtain ⟨hcz25_0, hcz25_1, hcz25_2, hfz25_0, hfz25_1, hfz25_2⟩ := Short.c3 BK420.out))
  refine bodyPost_ret (results_ctt rfl _ _ gb420 84 #[.int .i64 0, .int .i64 0, .string (⟨#[]⟩ : ByteArray)] (0, 0) _ rfl (by (with_reducible repeat (first | refine blk_drewN ?_ _ | refine blk_drew ?_ | refine blk_alloc ?_ _)); refine blk_put (cs := #[.int .i64 0, .int .i64 0, .string (⟨#[]⟩ : ByteArray)]) ?_ 2 _ rfl; (with_reducible repeat (first | refine blk_drewN ?_ _ | refine blk_drew ?_ | refine blk_alloc ?_ _)); refine blk_put (cs := #[.int .i64 0, .int .i64 0, .string (⟨#[]⟩ : ByteArray)]) ?_ 1 _ rfl; (with_reducible repeat (first | refine blk_drewN ?_ _ | refine blk_drew ?_ | refine blk_alloc ?_ _)); refine blk_put (cs := #[.int .i64 0, .int .i64 0, .string (⟨#[]⟩ : ByteArray)]) ?_ 0 _ rfl; (with_reducible repeat (first | refine blk_drewN ?_ _ | refine blk_drew ?_ | refine blk_alloc ?_ _)); exact BK420.out) Try.underlying84 rfl z0) rfl ?_
  exact ⟨q0, Short.hB HB⟩
 rw [if_neg c10] at H
 have c10b0 : ((wrap64 (rd l0 a1)) == 1) = false := beq_eq_false_iff_ne.mpr c10
 have c10b1 : ((wrap64 (rd l0 a1)) != 1) = true := bne_iff_ne.mpr c10
 by_cases c26 : (wrap64 (rd l0 a1)) = 2
 ·
  rw [if_pos c26] at H
  have c26b0 : ((wrap64 (rd l0 a1)) == 2) = true := beq_iff_eq.mpr c26
  have c26b1 : ((wrap64 (rd l0 a1)) != 2) = false := bne_eq_false_iff_eq.mpr c26
  clear c26
  replace H := Option.bind_eq_some_iff.mp H
  obtain ⟨⟨t425, t426, t427⟩, A270, H⟩ := H
  replace H : (if t427 = 0 then ((raddleref01_Value.f (wrap64 (rd l0 a1)) t425 (⟨#[]⟩ : ByteArray)).bind fun t428 => (if t428 = true then (some (wrap64 (rd l0 a1), t425, (⟨#[]⟩ : ByteArray), t426, 0)) else (some (0, 0, (⟨#[]⟩ : ByteArray), 0, 3)))) else (some (0, 0, (⟨#[]⟩ : ByteArray), 0, 3))) = some (r1, r2, r3, r4, r5) := H
  have A27 := mk_ A270
  clear A270
  by_cases c28 : t427 = 0
  rotate_left
  ·
   rw [if_neg c28] at H
   have c28b0 : (t427 == 0) = false := beq_eq_false_iff_ne.mpr c28
   have c28b1 : (t427 != 0) = true := bne_iff_ne.mpr c28
   simp only [Option.some.injEq, Prod.mk.injEq] at H
   obtain ⟨rfl, rfl, rfl, rfl, rfl⟩ := H
   go_enter Try.func112, Try.ntmps112
   go_wp2_with (first | ((with_reducible refine gate_dst (N := 4) rfl ?_); refine box_event ?hg (N := 4) ?hd (cs := #[.int .i64 0, .int .i64 0, .string (⟨#[]⟩ : ByteArray)]) (t := 84) ?hr ?_; (case hd => rfl); (case hg => rfl); (case hr => first | (go_simp; done) | (go_simp; rfl)); intro gb420 hg w48 hbox hb; have n0_ := mk_ (below_step (Short.hB HB) hb); have n1_ := mk_ (hbox); have n2_ := mk_ ((by rw [hg]; exact (below_size (Short.hB HB)) : w.heap.size ≤ gb420)); have n3_ := mk_ ((by rw [hg]; exact (below_size (Short.hB HB)) : w.heap.size ≤ gb420)); clear HB; revert n0_ n1_ n2_ n3_; intro HB BK420 GW420 GE420; clear hb hbox hg) | ((with_reducible refine gate_callee (f := 27) rfl ?_); refine Short.gL (some 13) Try.func27 #[.int .i64 a1, .int .i64 0, .int .i64 (l0.length : Int)] (h := ?_); (with_reducible refine (raddleref01_in.calls a1 0 (l0.length : Int) true _ A3.out).mono ?_); rintro e w' ⟨rfl, ⟨nd, rfl⟩⟩; refine ⟨_, rfl, ?_⟩; (try (rw [drewN_self w48]; generalize hq_ : World.drewN w48 _ = w48; have n0_ : Aside0 (w48.heap[gb420]? = some (.cells #[.int .i64 0, .int .i64 0, .string (⟨#[]⟩ : ByteArray)] 84 (0, 0))) := ⟨by rw [← hq_]; exact (Short.bK BK420)⟩; have n1_ : Aside0 (Below w.heap.size w w48) := ⟨by rw [← hq_]; exact (Short.hB HB)⟩; clear BK420 HB hq_; revert n0_ n1_; intro BK420 HB)); have p422 : 0 ≤ (a1 : Int) := of_decide_eq_true z1; have q422 : a1 < (l0.length : Int) := of_decide_eq_true z1; obtain ⟨ad422, e422, hx422_0⟩ := Kd.at_int HR0.out a1 p422 q422; cases e422; replace hx422_0 := up_ HB hx422_0; replace p422 := eq_true p422; replace q422 := eq_true q422) | ((with_reducible refine gate_dst (N := 7) rfl ?_); refine box_event ?hg (N := 7) ?hd (cs := #[.int .i64 0, .int .i64 0, .string (⟨#[]⟩ : ByteArray)]) (t := 84) ?hr ?_; (case hd => rfl); (case hg => rfl); (case hr => first | (go_simp; done) | (go_simp; rfl)); intro gb423 hg w49 hbox hb; have n0_ := mk_ (bB_ BK420 hb); have n1_ := mk_ (below_step (Short.hB HB) hb); have n2_ := mk_ (hbox); have n3_ := mk_ ((by rw [hg]; exact (below_size (Short.hB HB)) : w.heap.size ≤ gb423)); have n4_ := mk_ ((by rw [hg]; exact (below_size (Short.hB HB)) : w.heap.size ≤ gb423)); have n5_ := mk_ ((by rw [hg]; exact Nat.ne_of_lt (blk_lt (Short.bK BK420)) : gb420 ≠ gb423)); have n6_ := mk_ ((by rw [hg]; exact Nat.ne_of_gt (blk_lt (Short.bK BK420)) : gb423 ≠ gb420)); clear BK420 HB; revert n0_ n1_ n2_ n3_ n4_ n5_ n6_; intro BK420 HB BK423 GW423 GE423 NB420_423 NB423_420; clear hb hbox hg; have hnb50 := NB423_420.out; have hnc50 := NB420_423.out; obtain ⟨hcz51_0, hcz51_1, hcz51_2, hfz51_0, hfz51_1, hfz51_2⟩ := Short.c3 BK423.out) | ((with_reducible refine gate_callee (f := 119) rfl ?_); refine Short.gL (some 38) Try.func119 #[.slice (some ad422) l0.length c0, .int .i64 (wrap64 (a1 + 1)), .int .i64 1] (h := ?_); (with_reducible refine (raddleref01_Get.calls k _ _ l0 (wrap64 (a1 + 1)) 1 t425 t426 t427 _ ?side1 ?side2 A27.out).mono ?_); (case side1 => exact C_below HR0.out (Short.hB HB)); (case side2 => exact HC0.out); rintro e w52 ⟨rfl, hb⟩; refine ⟨_, rfl, ?_⟩; have n0_ := mk_ (blk_below (g := gb420) (o := .cells #[.int .i64 0, .int .i64 0, .string (⟨#[]⟩ : ByteArray)] 84 (0, 0)) (by (with_reducible repeat (first | refine blk_drewN ?_ _ | refine blk_drew ?_ | refine blk_alloc ?_ _)); refine blk_far ?_ NB420_423.out _; (with_reducible repeat (first | refine blk_drewN ?_ _ | refine blk_drew ?_ | refine blk_alloc ?_ _)); refine blk_far ?_ NB420_423.out _; (with_reducible repeat (first | refine blk_drewN ?_ _ | refine blk_drew ?_ | refine blk_alloc ?_ _)); refine blk_far ?_ NB420_423.out _; (with_reducible repeat (first | refine blk_drewN ?_ _ | refine blk_drew ?_ | refine blk_alloc ?_ _)); exact BK420.out) hb); have n1_ := mk_ (blk_below (g := gb423) (o := .cells #[.int .i64 (wrap64 (rd l0 a1)), .int .i64 0, .string (⟨#[]⟩ : ByteArray)] 84 (0, 0)) (by (with_reducible repeat (first | refine blk_drewN ?_ _ | refine blk_drew ?_ | refine blk_alloc ?_ _)); refine blk_put (cs := #[.int .i64 (wrap64 (rd l0 a1)), .int .i64 0, .string (⟨#[]⟩ : ByteArray)]) ?_ 2 _ rfl; (with_reducible repeat (first | refine blk_drewN ?_ _ | refine blk_drew ?_ | refine blk_alloc ?_ _)); refine blk_put (cs := #[.int .i64 (wrap64 (rd l0 a1)), .int .i64 0, .string (⟨#[]⟩ : ByteArray)]) ?_ 1 _ rfl; (with_reducible repeat (first | refine blk_drewN ?_ _ | refine blk_drew ?_ | refine blk_alloc ?_ _)); refine blk_put (cs := #[.int .i64 0, .int .i64 0, .string (⟨#[]⟩ : ByteArray)]) ?_ 0 _ rfl; (with_reducible repeat (first | refine blk_drewN ?_ _ | refine blk_drew ?_ | refine blk_alloc ?_ _)); exact BK423.out) hb); have n2_ := mk_ (below_step (Short.hB HB) hb); clear BK420 BK423 HB; revert n0_ n1_ n2_; intro BK420 BK423 HB; (try clear hb); obtain ⟨hcz53_0, hcz53_1, hcz53_2, hfz53_0, hfz53_1, hfz53_2⟩ := Short.c3 BK423.out; obtain ⟨hcz54_0, hcz54_1, hcz54_2, hfz54_0, hfz54_1, hfz54_2⟩ := Short.c3 BK420.out))
   refine bodyPost_ret (results_ctt rfl _ _ gb420 84 #[.int .i64 0, .int .i64 0, .string (⟨#[]⟩ : ByteArray)] (0, 0) _ rfl (by (with_reducible repeat (first | refine blk_drewN ?_ _ | refine blk_drew ?_ | refine blk_alloc ?_ _)); refine blk_put (cs := #[.int .i64 0, .int .i64 0, .string (⟨#[]⟩ : ByteArray)]) ?_ 2 _ rfl; (with_reducible repeat (first | refine blk_drewN ?_ _ | refine blk_drew ?_ | refine blk_alloc ?_ _)); refine blk_put (cs := #[.int .i64 0, .int .i64 0, .string (⟨#[]⟩ : ByteArray)]) ?_ 1 _ rfl; (with_reducible repeat (first | refine blk_drewN ?_ _ | refine blk_drew ?_ | refine blk_alloc ?_ _)); refine blk_put (cs := #[.int .i64 0, .int .i64 0, .string (⟨#[]⟩ : ByteArray)]) ?_ 0 _ rfl; (with_reducible repeat (first | refine blk_drewN ?_ _ | refine blk_drew ?_ | refine blk_alloc ?_ _)); refine blk_far ?_ NB420_423.out _; (with_reducible repeat (first | refine blk_drewN ?_ _ | refine blk_drew ?_ | refine blk_alloc ?_ _)); exact BK420.out) Try.underlying84 rfl z0) rfl ?_
   exact ⟨q0, Short.hB HB⟩
  rw [if_pos c28] at H
  have c28b0 : (t427 == 0) = true := beq_iff_eq.mpr c28
  have c28b1 : (t427 != 0) = false := bne_eq_false_iff_eq.mpr c28
  clear c28
  replace H := Option.bind_eq_some_iff.mp H
  obtain ⟨t428, A290, H⟩ := H
  replace H : (if t428 = true then (some (wrap64 (rd l0 a1), t425, (⟨#[]⟩ : ByteArray), t426, 0)) else (some (0, 0, (⟨#[]⟩ : ByteArray), 0, 3))) = some (r1, r2, r3, r4, r5) := H
  have A29 := mk_ A290
  clear A290
  by_cases c30 : t428 = true
  ·
   subst c30
   rw [if_pos rfl] at H
   simp only [Option.some.injEq, Prod.mk.injEq] at H
   obtain ⟨rfl, rfl, rfl, rfl, rfl⟩ := H
   go_enter Try.func112, Try.ntmps112
   go_wp2_with (first | ((with_reducible refine gate_dst (N := 4) rfl ?_); refine box_event ?hg (N := 4) ?hd (cs := #[.int .i64 0, .int .i64 0, .string (⟨#[]⟩ : ByteArray)]) (t := 84) ?hr ?_; (case hd => rfl); (case hg => rfl); (case hr => first | (go_simp; done) | (go_simp; rfl)); intro gb420 hg w31 hbox hb; have n0_ := mk_ (below_step (Short.hB HB) hb); have n1_ := mk_ (hbox); have n2_ := mk_ ((by rw [hg]; exact (below_size (Short.hB HB)) : w.heap.size ≤ gb420)); have n3_ := mk_ ((by rw [hg]; exact (below_size (Short.hB HB)) : w.heap.size ≤ gb420)); clear HB; revert n0_ n1_ n2_ n3_; intro HB BK420 GW420 GE420; clear hb hbox hg) | ((with_reducible refine gate_callee (f := 27) rfl ?_); refine Short.gL (some 13) Try.func27 #[.int .i64 a1, .int .i64 0, .int .i64 (l0.length : Int)] (h := ?_); (with_reducible refine (raddleref01_in.calls a1 0 (l0.length : Int) true _ A3.out).mono ?_); rintro e w' ⟨rfl, ⟨nd, rfl⟩⟩; refine ⟨_, rfl, ?_⟩; (try (rw [drewN_self w31]; generalize hq_ : World.drewN w31 _ = w31; have n0_ : Aside0 (w31.heap[gb420]? = some (.cells #[.int .i64 0, .int .i64 0, .string (⟨#[]⟩ : ByteArray)] 84 (0, 0))) := ⟨by rw [← hq_]; exact (Short.bK BK420)⟩; have n1_ : Aside0 (Below w.heap.size w w31) := ⟨by rw [← hq_]; exact (Short.hB HB)⟩; clear BK420 HB hq_; revert n0_ n1_; intro BK420 HB)); have p422 : 0 ≤ (a1 : Int) := of_decide_eq_true z1; have q422 : a1 < (l0.length : Int) := of_decide_eq_true z1; obtain ⟨ad422, e422, hx422_0⟩ := Kd.at_int HR0.out a1 p422 q422; cases e422; replace hx422_0 := up_ HB hx422_0; replace p422 := eq_true p422; replace q422 := eq_true q422) | ((with_reducible refine gate_dst (N := 7) rfl ?_); refine box_event ?hg (N := 7) ?hd (cs := #[.int .i64 0, .int .i64 0, .string (⟨#[]⟩ : ByteArray)]) (t := 84) ?hr ?_; (case hd => rfl); (case hg => rfl); (case hr => first | (go_simp; done) | (go_simp; rfl)); intro gb423 hg w32 hbox hb; have n0_ := mk_ (bB_ BK420 hb); have n1_ := mk_ (below_step (Short.hB HB) hb); have n2_ := mk_ (hbox); have n3_ := mk_ ((by rw [hg]; exact (below_size (Short.hB HB)) : w.heap.size ≤ gb423)); have n4_ := mk_ ((by rw [hg]; exact (below_size (Short.hB HB)) : w.heap.size ≤ gb423)); have n5_ := mk_ ((by rw [hg]; exact Nat.ne_of_lt (blk_lt (Short.bK BK420)) : gb420 ≠ gb423)); have n6_ := mk_ ((by rw [hg]; exact Nat.ne_of_gt (blk_lt (Short.bK BK420)) : gb423 ≠ gb420)); clear BK420 HB; revert n0_ n1_ n2_ n3_ n4_ n5_ n6_; intro BK420 HB BK423 GW423 GE423 NB420_423 NB423_420; clear hb hbox hg; have hnb33 := NB423_420.out; have hnc33 := NB420_423.out; obtain ⟨hcz34_0, hcz34_1, hcz34_2, hfz34_0, hfz34_1, hfz34_2⟩ := Short.c3 BK423.out) | ((with_reducible refine gate_callee (f := 119) rfl ?_); refine Short.gL (some 38) Try.func119 #[.slice (some ad422) l0.length c0, .int .i64 (wrap64 (a1 + 1)), .int .i64 1] (h := ?_); (with_reducible refine (raddleref01_Get.calls k _ _ l0 (wrap64 (a1 + 1)) 1 t425 t426 t427 _ ?side1 ?side2 A27.out).mono ?_); (case side1 => exact C_below HR0.out (Short.hB HB)); (case side2 => exact HC0.out); rintro e w35 ⟨rfl, hb⟩; refine ⟨_, rfl, ?_⟩; have n0_ := mk_ (blk_below (g := gb420) (o := .cells #[.int .i64 0, .int .i64 0, .string (⟨#[]⟩ : ByteArray)] 84 (0, 0)) (by (with_reducible repeat (first | refine blk_drewN ?_ _ | refine blk_drew ?_ | refine blk_alloc ?_ _)); refine blk_far ?_ NB420_423.out _; (with_reducible repeat (first | refine blk_drewN ?_ _ | refine blk_drew ?_ | refine blk_alloc ?_ _)); refine blk_far ?_ NB420_423.out _; (with_reducible repeat (first | refine blk_drewN ?_ _ | refine blk_drew ?_ | refine blk_alloc ?_ _)); refine blk_far ?_ NB420_423.out _; (with_reducible repeat (first | refine blk_drewN ?_ _ | refine blk_drew ?_ | refine blk_alloc ?_ _)); exact BK420.out) hb); have n1_ := mk_ (blk_below (g := gb423) (o := .cells #[.int .i64 (wrap64 (rd l0 a1)), .int .i64 0, .string (⟨#[]⟩ : ByteArray)] 84 (0, 0)) (by (with_reducible repeat (first | refine blk_drewN ?_ _ | refine blk_drew ?_ | refine blk_alloc ?_ _)); refine blk_put (cs := #[.int .i64 (wrap64 (rd l0 a1)), .int .i64 0, .string (⟨#[]⟩ : ByteArray)]) ?_ 2 _ rfl; (with_reducible repeat (first | refine blk_drewN ?_ _ | refine blk_drew ?_ | refine blk_alloc ?_ _)); refine blk_put (cs := #[.int .i64 (wrap64 (rd l0 a1)), .int .i64 0, .string (⟨#[]⟩ : ByteArray)]) ?_ 1 _ rfl; (with_reducible repeat (first | refine blk_drewN ?_ _ | refine blk_drew ?_ | refine blk_alloc ?_ _)); refine blk_put (cs := #[.int .i64 0, .int .i64 0, .string (⟨#[]⟩ : ByteArray)]) ?_ 0 _ rfl; (with_reducible repeat (first | refine blk_drewN ?_ _ | refine blk_drew ?_ | refine blk_alloc ?_ _)); exact BK423.out) hb); have n2_ := mk_ (below_step (Short.hB HB) hb); clear BK420 BK423 HB; revert n0_ n1_ n2_; intro BK420 BK423 HB; (try clear hb); obtain ⟨hcz36_0, hcz36_1, hcz36_2, hfz36_0, hfz36_1, hfz36_2⟩ := Short.c3 BK423.out) | (go_at_call 84; (with_reducible refine (raddleref01_Value.calls (wrap64 (rd l0 a1)) t425 (⟨#[]⟩ : ByteArray) true _ A29.out).mono ?_); rintro e w37 ⟨rfl, hb⟩; have n0_ := mk_ (blk_below (g := gb420) (o := .cells #[.int .i64 0, .int .i64 0, .string (⟨#[]⟩ : ByteArray)] 84 (0, 0)) (by (with_reducible repeat (first | refine blk_drewN ?_ _ | refine blk_drew ?_ | refine blk_alloc ?_ _)); refine blk_far ?_ NB420_423.out _; (with_reducible repeat (first | refine blk_drewN ?_ _ | refine blk_drew ?_ | refine blk_alloc ?_ _)); exact BK420.out) hb); have n1_ := mk_ (blk_below (g := gb423) (o := .cells #[.int .i64 (wrap64 (rd l0 a1)), .int .i64 t425, .string (⟨#[]⟩ : ByteArray)] 84 (0, 0)) (by (with_reducible repeat (first | refine blk_drewN ?_ _ | refine blk_drew ?_ | refine blk_alloc ?_ _)); refine blk_put (cs := #[.int .i64 (wrap64 (rd l0 a1)), .int .i64 0, .string (⟨#[]⟩ : ByteArray)]) ?_ 1 _ rfl; (with_reducible repeat (first | refine blk_drewN ?_ _ | refine blk_drew ?_ | refine blk_alloc ?_ _)); exact BK423.out) hb); have n2_ := mk_ (below_step (Short.hB HB) hb); clear BK420 BK423 HB; revert n0_ n1_ n2_; intro BK420 BK423 HB; (try clear hb); (try clear hb2); (try clear hk); (try clear hi); obtain ⟨hcz38_0, hcz38_1, hcz38_2, hfz38_0, hfz38_1, hfz38_2⟩ := Short.c3 BK423.out; obtain ⟨hcz39_0, hcz39_1, hcz39_2, hfz39_0, hfz39_1, hfz39_2⟩ := Short.c3 BK420.out))
   refine bodyPost_ret (results_ctt rfl _ _ gb420 84 #[.int .i64 (wrap64 (rd l0 a1)), .int .i64 t425, .string (⟨#[]⟩ : ByteArray)] (0, 0) _ rfl (by (with_reducible repeat (first | refine blk_drewN ?_ _ | refine blk_drew ?_ | refine blk_alloc ?_ _)); refine blk_put (cs := #[.int .i64 (wrap64 (rd l0 a1)), .int .i64 t425, .string (⟨#[]⟩ : ByteArray)]) ?_ 2 _ rfl; (with_reducible repeat (first | refine blk_drewN ?_ _ | refine blk_drew ?_ | refine blk_alloc ?_ _)); refine blk_put (cs := #[.int .i64 (wrap64 (rd l0 a1)), .int .i64 0, .string (⟨#[]⟩ : ByteArray)]) ?_ 1 _ rfl; (with_reducible repeat (first | refine blk_drewN ?_ _ | refine blk_drew ?_ | refine blk_alloc ?_ _)); refine blk_put (cs := #[.int .i64 0, .int .i64 0, .string (⟨#[]⟩ : ByteArray)]) ?_ 0 _ rfl; (with_reducible repeat (first | refine blk_drewN ?_ _ | refine blk_drew ?_ | refine blk_alloc ?_ _)); exact BK420.out) Try.underlying84 rfl z0) rfl ?_
   exact ⟨q0, Short.hB HB⟩
  replace c30 := Bool.eq_false_iff.mpr c30
  subst c30
  rw [if_neg (show ¬ (false = true) by decide)] at H
  simp only [Option.some.injEq, Prod.mk.injEq] at H
  obtain ⟨rfl, rfl, rfl, rfl, rfl⟩ := H
  go_enter Try.func112, Try.ntmps112
  go_wp2_with (first | ((with_reducible refine gate_dst (N := 4) rfl ?_); refine box_event ?hg (N := 4) ?hd (cs := #[.int .i64 0, .int .i64 0, .string (⟨#[]⟩ : ByteArray)]) (t := 84) ?hr ?_; (case hd => rfl); (case hg => rfl); (case hr => first | (go_simp; done) | (go_simp; rfl)); intro gb420 hg w40 hbox hb; have n0_ := mk_ (below_step (Short.hB HB) hb); have n1_ := mk_ (hbox); have n2_ := mk_ ((by rw [hg]; exact (below_size (Short.hB HB)) : w.heap.size ≤ gb420)); have n3_ := mk_ ((by rw [hg]; exact (below_size (Short.hB HB)) : w.heap.size ≤ gb420)); clear HB; revert n0_ n1_ n2_ n3_; intro HB BK420 GW420 GE420; clear hb hbox hg) | ((with_reducible refine gate_callee (f := 27) rfl ?_); refine Short.gL (some 13) Try.func27 #[.int .i64 a1, .int .i64 0, .int .i64 (l0.length : Int)] (h := ?_); (with_reducible refine (raddleref01_in.calls a1 0 (l0.length : Int) true _ A3.out).mono ?_); rintro e w' ⟨rfl, ⟨nd, rfl⟩⟩; refine ⟨_, rfl, ?_⟩; (try (rw [drewN_self w40]; generalize hq_ : World.drewN w40 _ = w40; have n0_ : Aside0 (w40.heap[gb420]? = some (.cells #[.int .i64 0, .int .i64 0, .string (⟨#[]⟩ : ByteArray)] 84 (0, 0))) := ⟨by rw [← hq_]; exact (Short.bK BK420)⟩; have n1_ : Aside0 (Below w.heap.size w w40) := ⟨by rw [← hq_]; exact (Short.hB HB)⟩; clear BK420 HB hq_; revert n0_ n1_; intro BK420 HB)); have p422 : 0 ≤ (a1 : Int) := of_decide_eq_true z1; have q422 : a1 < (l0.length : Int) := of_decide_eq_true z1; obtain ⟨ad422, e422, hx422_0⟩ := Kd.at_int HR0.out a1 p422 q422; cases e422; replace hx422_0 := up_ HB hx422_0; replace p422 := eq_true p422; replace q422 := eq_true q422) | ((with_reducible refine gate_dst (N := 7) rfl ?_); refine box_event ?hg (N := 7) ?hd (cs := #[.int .i64 0, .int .i64 0, .string (⟨#[]⟩ : ByteArray)]) (t := 84) ?hr ?_; (case hd => rfl); (case hg => rfl); (case hr => first | (go_simp; done) | (go_simp; rfl)); intro gb423 hg w41 hbox hb; have n0_ := mk_ (bB_ BK420 hb); have n1_ := mk_ (below_step (Short.hB HB) hb); have n2_ := mk_ (hbox); have n3_ := mk_ ((by rw [hg]; exact (below_size (Short.hB HB)) : w.heap.size ≤ gb423)); have n4_ := mk_ ((by rw [hg]; exact (below_size (Short.hB HB)) : w.heap.size ≤ gb423)); have n5_ := mk_ ((by rw [hg]; exact Nat.ne_of_lt (blk_lt (Short.bK BK420)) : gb420 ≠ gb423)); have n6_ := mk_ ((by rw [hg]; exact Nat.ne_of_gt (blk_lt (Short.bK BK420)) : gb423 ≠ gb420)); clear BK420 HB; revert n0_ n1_ n2_ n3_ n4_ n5_ n6_; intro BK420 HB BK423 GW423 GE423 NB420_423 NB423_420; clear hb hbox hg; have hnb42 := NB423_420.out; have hnc42 := NB420_423.out; obtain ⟨hcz43_0, hcz43_1, hcz43_2, hfz43_0, hfz43_1, hfz43_2⟩ := Short.c3 BK423.out) | ((with_reducible refine gate_callee (f := 119) rfl ?_); refine Short.gL (some 38) Try.func119 #[.slice (some ad422) l0.length c0, .int .i64 (wrap64 (a1 + 1)), .int .i64 1] (h := ?_); (with_reducible refine (raddleref01_Get.calls k _ _ l0 (wrap64 (a1 + 1)) 1 t425 t426 t427 _ ?side1 ?side2 A27.out).mono ?_); (case side1 => exact C_below HR0.out (Short.hB HB)); (case side2 => exact HC0.out); rintro e w44 ⟨rfl, hb⟩; refine ⟨_, rfl, ?_⟩; have n0_ := mk_ (blk_below (g := gb420) (o := .cells #[.int .i64 0, .int .i64 0, .string (⟨#[]⟩ : ByteArray)] 84 (0, 0)) (by (with_reducible repeat (first | refine blk_drewN ?_ _ | refine blk_drew ?_ | refine blk_alloc ?_ _)); refine blk_far ?_ NB420_423.out _; (with_reducible repeat (first | refine blk_drewN ?_ _ | refine blk_drew ?_ | refine blk_alloc ?_ _)); refine blk_far ?_ NB420_423.out _; (with_reducible repeat (first | refine blk_drewN ?_ _ | refine blk_drew ?_ | refine blk_alloc ?_ _)); refine blk_far ?_ NB420_423.out _; (with_reducible repeat (first | refine blk_drewN ?_ _ | refine blk_drew ?_ | refine blk_alloc ?_ _)); exact BK420.out) hb); have n1_ := mk_ (blk_below (g := gb423) (o := .cells #[.int .i64 (wrap64 (rd l0 a1)), .int .i64 0, .string (⟨#[]⟩ : ByteArray)] 84 (0, 0)) (by (with_reducible repeat (first | refine blk_drewN ?_ _ | refine blk_drew ?_ | refine blk_alloc ?_ _)); refine blk_put (cs := #[.int .i64 (wrap64 (rd l0 a1)), .int .i64 0, .string (⟨#[]⟩ : ByteArray)]) ?_ 2 _ rfl; (with_reducible repeat (first | refine blk_drewN ?_ _ | refine blk_drew ?_ | refine blk_alloc ?_ _)); refine blk_put (cs := #[.int .i64 (wrap64 (rd l0 a1)), .int .i64 0, .string (⟨#[]⟩ : ByteArray)]) ?_ 1 _ rfl; (with_reducible repeat (first | refine blk_drewN ?_ _ | refine blk_drew ?_ | refine blk_alloc ?_ _)); refine blk_put (cs := #[.int .i64 0, .int .i64 0, .string (⟨#[]⟩ : ByteArray)]) ?_ 0 _ rfl; (with_reducible repeat (first | refine blk_drewN ?_ _ | refine blk_drew ?_ | refine blk_alloc ?_ _)); exact BK423.out) hb); have n2_ := mk_ (below_step (Short.hB HB) hb); clear BK420 BK423 HB; revert n0_ n1_ n2_; intro BK420 BK423 HB; (try clear hb); obtain ⟨hcz45_0, hcz45_1, hcz45_2, hfz45_0, hfz45_1, hfz45_2⟩ := Short.c3 BK423.out) | (go_at_call 84; (with_reducible refine (raddleref01_Value.calls (wrap64 (rd l0 a1)) t425 (⟨#[]⟩ : ByteArray) false _ A29.out).mono ?_); rintro e w46 ⟨rfl, hb⟩; have n0_ := mk_ (blk_below (g := gb420) (o := .cells #[.int .i64 0, .int .i64 0, .string (⟨#[]⟩ : ByteArray)] 84 (0, 0)) (by (with_reducible repeat (first | refine blk_drewN ?_ _ | refine blk_drew ?_ | refine blk_alloc ?_ _)); refine blk_far ?_ NB420_423.out _; (with_reducible repeat (first | refine blk_drewN ?_ _ | refine blk_drew ?_ | refine blk_alloc ?_ _)); exact BK420.out) hb); have n1_ := mk_ (blk_below (g := gb423) (o := .cells #[.int .i64 (wrap64 (rd l0 a1)), .int .i64 t425, .string (⟨#[]⟩ : ByteArray)] 84 (0, 0)) (by (with_reducible repeat (first | refine blk_drewN ?_ _ | refine blk_drew ?_ | refine blk_alloc ?_ _)); refine blk_put (cs := #[.int .i64 (wrap64 (rd l0 a1)), .int .i64 0, .string (⟨#[]⟩ : ByteArray)]) ?_ 1 _ rfl; (with_reducible repeat (first | refine blk_drewN ?_ _ | refine blk_drew ?_ | refine blk_alloc ?_ _)); exact BK423.out) hb); have n2_ := mk_ (below_step (Short.hB HB) hb); clear BK420 BK423 HB; revert n0_ n1_ n2_; intro BK420 BK423 HB; (try clear hb); (try clear hb2); (try clear hk); (try clear hi); obtain ⟨hcz47_0, hcz47_1, hcz47_2, hfz47_0, hfz47_1, hfz47_2⟩ := Short.c3 BK420.out))
  refine bodyPost_ret (results_ctt rfl _ _ gb420 84 #[.int .i64 0, .int .i64 0, .string (⟨#[]⟩ : ByteArray)] (0, 0) _ rfl (by (with_reducible repeat (first | refine blk_drewN ?_ _ | refine blk_drew ?_ | refine blk_alloc ?_ _)); refine blk_put (cs := #[.int .i64 0, .int .i64 0, .string (⟨#[]⟩ : ByteArray)]) ?_ 2 _ rfl; (with_reducible repeat (first | refine blk_drewN ?_ _ | refine blk_drew ?_ | refine blk_alloc ?_ _)); refine blk_put (cs := #[.int .i64 0, .int .i64 0, .string (⟨#[]⟩ : ByteArray)]) ?_ 1 _ rfl; (with_reducible repeat (first | refine blk_drewN ?_ _ | refine blk_drew ?_ | refine blk_alloc ?_ _)); refine blk_put (cs := #[.int .i64 0, .int .i64 0, .string (⟨#[]⟩ : ByteArray)]) ?_ 0 _ rfl; (with_reducible repeat (first | refine blk_drewN ?_ _ | refine blk_drew ?_ | refine blk_alloc ?_ _)); exact BK420.out) Try.underlying84 rfl z0) rfl ?_
  exact ⟨q0, Short.hB HB⟩
 rw [if_neg c26] at H
 have c26b0 : ((wrap64 (rd l0 a1)) == 2) = false := beq_eq_false_iff_ne.mpr c26
 have c26b1 : ((wrap64 (rd l0 a1)) != 2) = true := bne_iff_ne.mpr c26
 by_cases c55 : (wrap64 (rd l0 a1)) = 3
 ·
  rw [if_pos c55] at H
  have c55b0 : ((wrap64 (rd l0 a1)) == 3) = true := beq_iff_eq.mpr c55
  have c55b1 : ((wrap64 (rd l0 a1)) != 3) = false := bne_eq_false_iff_eq.mpr c55
  clear c55
  replace H := Option.bind_eq_some_iff.mp H
  obtain ⟨⟨t429, t430, t431⟩, A560, H⟩ := H
  replace H : (if t431 = 0 then ((raddleref01_Value.f (wrap64 (rd l0 a1)) t429 (⟨#[]⟩ : ByteArray)).bind fun t432 => (if t432 = true then (some (wrap64 (rd l0 a1), t429, (⟨#[]⟩ : ByteArray), t430, 0)) else (some (0, 0, (⟨#[]⟩ : ByteArray), 0, 3)))) else (some (0, 0, (⟨#[]⟩ : ByteArray), 0, 3))) = some (r1, r2, r3, r4, r5) := H
  have A56 := mk_ A560
  clear A560
  by_cases c57 : t431 = 0
  rotate_left
  ·
   rw [if_neg c57] at H
   have c57b0 : (t431 == 0) = false := beq_eq_false_iff_ne.mpr c57
   have c57b1 : (t431 != 0) = true := bne_iff_ne.mpr c57
   simp only [Option.some.injEq, Prod.mk.injEq] at H
   obtain ⟨rfl, rfl, rfl, rfl, rfl⟩ := H
   go_enter Try.func112, Try.ntmps112
   go_wp2_with (first | ((with_reducible refine gate_dst (N := 4) rfl ?_); refine box_event ?hg (N := 4) ?hd (cs := #[.int .i64 0, .int .i64 0, .string (⟨#[]⟩ : ByteArray)]) (t := 84) ?hr ?_; (case hd => rfl); (case hg => rfl); (case hr => first | (go_simp; done) | (go_simp; rfl)); intro gb420 hg w77 hbox hb; have n0_ := mk_ (below_step (Short.hB HB) hb); have n1_ := mk_ (hbox); have n2_ := mk_ ((by rw [hg]; exact (below_size (Short.hB HB)) : w.heap.size ≤ gb420)); have n3_ := mk_ ((by rw [hg]; exact (below_size (Short.hB HB)) : w.heap.size ≤ gb420)); clear HB; revert n0_ n1_ n2_ n3_; intro HB BK420 GW420 GE420; clear hb hbox hg) | ((with_reducible refine gate_callee (f := 27) rfl ?_); refine Short.gL (some 13) Try.func27 #[.int .i64 a1, .int .i64 0, .int .i64 (l0.length : Int)] (h := ?_); (with_reducible refine (raddleref01_in.calls a1 0 (l0.length : Int) true _ A3.out).mono ?_); rintro e w' ⟨rfl, ⟨nd, rfl⟩⟩; refine ⟨_, rfl, ?_⟩; (try (rw [drewN_self w77]; generalize hq_ : World.drewN w77 _ = w77; have n0_ : Aside0 (w77.heap[gb420]? = some (.cells #[.int .i64 0, .int .i64 0, .string (⟨#[]⟩ : ByteArray)] 84 (0, 0))) := ⟨by rw [← hq_]; exact (Short.bK BK420)⟩; have n1_ : Aside0 (Below w.heap.size w w77) := ⟨by rw [← hq_]; exact (Short.hB HB)⟩; clear BK420 HB hq_; revert n0_ n1_; intro BK420 HB)); have p422 : 0 ≤ (a1 : Int) := of_decide_eq_true z1; have q422 : a1 < (l0.length : Int) := of_decide_eq_true z1; obtain ⟨ad422, e422, hx422_0⟩ := Kd.at_int HR0.out a1 p422 q422; cases e422; replace hx422_0 := up_ HB hx422_0; replace p422 := eq_true p422; replace q422 := eq_true q422) | ((with_reducible refine gate_dst (N := 7) rfl ?_); refine box_event ?hg (N := 7) ?hd (cs := #[.int .i64 0, .int .i64 0, .string (⟨#[]⟩ : ByteArray)]) (t := 84) ?hr ?_; (case hd => rfl); (case hg => rfl); (case hr => first | (go_simp; done) | (go_simp; rfl)); intro gb423 hg w78 hbox hb; have n0_ := mk_ (bB_ BK420 hb); have n1_ := mk_ (below_step (Short.hB HB) hb); have n2_ := mk_ (hbox); have n3_ := mk_ ((by rw [hg]; exact (below_size (Short.hB HB)) : w.heap.size ≤ gb423)); have n4_ := mk_ ((by rw [hg]; exact (below_size (Short.hB HB)) : w.heap.size ≤ gb423)); have n5_ := mk_ ((by rw [hg]; exact Nat.ne_of_lt (blk_lt (Short.bK BK420)) : gb420 ≠ gb423)); have n6_ := mk_ ((by rw [hg]; exact Nat.ne_of_gt (blk_lt (Short.bK BK420)) : gb423 ≠ gb420)); clear BK420 HB; revert n0_ n1_ n2_ n3_ n4_ n5_ n6_; intro BK420 HB BK423 GW423 GE423 NB420_423 NB423_420; clear hb hbox hg; have hnb79 := NB423_420.out; have hnc79 := NB420_423.out; obtain ⟨hcz80_0, hcz80_1, hcz80_2, hfz80_0, hfz80_1, hfz80_2⟩ := Short.c3 BK423.out) | ((with_reducible refine gate_callee (f := 120) rfl ?_); refine Short.gL (some 48) Try.func120 #[.slice (some ad422) l0.length c0, .int .i64 (wrap64 (a1 + 1))] (h := ?_); (with_reducible refine (raddleref01_GetInt.calls k _ _ l0 (wrap64 (a1 + 1)) t429 t430 t431 _ ?side1 ?side2 A56.out).mono ?_); (case side1 => exact C_below HR0.out (Short.hB HB)); (case side2 => exact HC0.out); rintro e w81 ⟨rfl, hb⟩; refine ⟨_, rfl, ?_⟩; have n0_ := mk_ (blk_below (g := gb420) (o := .cells #[.int .i64 0, .int .i64 0, .string (⟨#[]⟩ : ByteArray)] 84 (0, 0)) (by (with_reducible repeat (first | refine blk_drewN ?_ _ | refine blk_drew ?_ | refine blk_alloc ?_ _)); refine blk_far ?_ NB420_423.out _; (with_reducible repeat (first | refine blk_drewN ?_ _ | refine blk_drew ?_ | refine blk_alloc ?_ _)); refine blk_far ?_ NB420_423.out _; (with_reducible repeat (first | refine blk_drewN ?_ _ | refine blk_drew ?_ | refine blk_alloc ?_ _)); refine blk_far ?_ NB420_423.out _; (with_reducible repeat (first | refine blk_drewN ?_ _ | refine blk_drew ?_ | refine blk_alloc ?_ _)); exact BK420.out) hb); have n1_ := mk_ (blk_below (g := gb423) (o := .cells #[.int .i64 (wrap64 (rd l0 a1)), .int .i64 0, .string (⟨#[]⟩ : ByteArray)] 84 (0, 0)) (by (with_reducible repeat (first | refine blk_drewN ?_ _ | refine blk_drew ?_ | refine blk_alloc ?_ _)); refine blk_put (cs := #[.int .i64 (wrap64 (rd l0 a1)), .int .i64 0, .string (⟨#[]⟩ : ByteArray)]) ?_ 2 _ rfl; (with_reducible repeat (first | refine blk_drewN ?_ _ | refine blk_drew ?_ | refine blk_alloc ?_ _)); refine blk_put (cs := #[.int .i64 (wrap64 (rd l0 a1)), .int .i64 0, .string (⟨#[]⟩ : ByteArray)]) ?_ 1 _ rfl; (with_reducible repeat (first | refine blk_drewN ?_ _ | refine blk_drew ?_ | refine blk_alloc ?_ _)); refine blk_put (cs := #[.int .i64 0, .int .i64 0, .string (⟨#[]⟩ : ByteArray)]) ?_ 0 _ rfl; (with_reducible repeat (first | refine blk_drewN ?_ _ | refine blk_drew ?_ | refine blk_alloc ?_ _)); exact BK423.out) hb); have n2_ := mk_ (below_step (Short.hB HB) hb); clear BK420 BK423 HB; revert n0_ n1_ n2_; intro BK420 BK423 HB; (try clear hb); obtain ⟨hcz82_0, hcz82_1, hcz82_2, hfz82_0, hfz82_1, hfz82_2⟩ := Short.c3 BK423.out; obtain ⟨hcz83_0, hcz83_1, hcz83_2, hfz83_0, hfz83_1, hfz83_2⟩ := Short.c3 BK420.out))
   refine bodyPost_ret (results_ctt rfl _ _ gb420 84 #[.int .i64 0, .int .i64 0, .string (⟨#[]⟩ : ByteArray)] (0, 0) _ rfl (by (with_reducible repeat (first | refine blk_drewN ?_ _ | refine blk_drew ?_ | refine blk_alloc ?_ _)); refine blk_put (cs := #[.int .i64 0, .int .i64 0, .string (⟨#[]⟩ : ByteArray)]) ?_ 2 _ rfl; (with_reducible repeat (first | refine blk_drewN ?_ _ | refine blk_drew ?_ | refine blk_alloc ?_ _)); refine blk_put (cs := #[.int .i64 0, .int .i64 0, .string (⟨#[]⟩ : ByteArray)]) ?_ 1 _ rfl; (with_reducible repeat (first | refine blk_drewN ?_ _ | refine blk_drew ?_ | refine blk_alloc ?_ _)); refine blk_put (cs := #[.int .i64 0, .int .i64 0, .string (⟨#[]⟩ : ByteArray)]) ?_ 0 _ rfl; (with_reducible repeat (first | refine blk_drewN ?_ _ | refine blk_drew ?_ | refine blk_alloc ?_ _)); refine blk_far ?_ NB420_423.out _; (with_reducible repeat (first | refine blk_drewN ?_ _ | refine blk_drew ?_ | refine blk_alloc ?_ _)); exact BK420.out) Try.underlying84 rfl z0) rfl ?_
   exact ⟨q0, Short.hB HB⟩
  rw [if_pos c57] at H
  have c57b0 : (t431 == 0) = true := beq_iff_eq.mpr c57
  have c57b1 : (t431 != 0) = false := bne_eq_false_iff_eq.mpr c57
  clear c57
  replace H := Option.bind_eq_some_iff.mp H
  obtain ⟨t432, A580, H⟩ := H
  replace H : (if t432 = true then (some (wrap64 (rd l0 a1), t429, (⟨#[]⟩ : ByteArray), t430, 0)) else (some (0, 0, (⟨#[]⟩ : ByteArray), 0, 3))) = some (r1, r2, r3, r4, r5) := H
  have A58 := mk_ A580
  clear A580
  by_cases c59 : t432 = true
  ·
   subst c59
   rw [if_pos rfl] at H
   simp only [Option.some.injEq, Prod.mk.injEq] at H
   obtain ⟨rfl, rfl, rfl, rfl, rfl⟩ := H
   go_enter Try.func112, Try.ntmps112
   go_wp2_with (first | ((with_reducible refine gate_dst (N := 4) rfl ?_); refine box_event ?hg (N := 4) ?hd (cs := #[.int .i64 0, .int .i64 0, .string (⟨#[]⟩ : ByteArray)]) (t := 84) ?hr ?_; (case hd => rfl); (case hg => rfl); (case hr => first | (go_simp; done) | (go_simp; rfl)); intro gb420 hg w60 hbox hb; have n0_ := mk_ (below_step (Short.hB HB) hb); have n1_ := mk_ (hbox); have n2_ := mk_ ((by rw [hg]; exact (below_size (Short.hB HB)) : w.heap.size ≤ gb420)); have n3_ := mk_ ((by rw [hg]; exact (below_size (Short.hB HB)) : w.heap.size ≤ gb420)); clear HB; revert n0_ n1_ n2_ n3_; intro HB BK420 GW420 GE420; clear hb hbox hg) | ((with_reducible refine gate_callee (f := 27) rfl ?_); refine Short.gL (some 13) Try.func27 #[.int .i64 a1, .int .i64 0, .int .i64 (l0.length : Int)] (h := ?_); (with_reducible refine (raddleref01_in.calls a1 0 (l0.length : Int) true _ A3.out).mono ?_); rintro e w' ⟨rfl, ⟨nd, rfl⟩⟩; refine ⟨_, rfl, ?_⟩; (try (rw [drewN_self w60]; generalize hq_ : World.drewN w60 _ = w60; have n0_ : Aside0 (w60.heap[gb420]? = some (.cells #[.int .i64 0, .int .i64 0, .string (⟨#[]⟩ : ByteArray)] 84 (0, 0))) := ⟨by rw [← hq_]; exact (Short.bK BK420)⟩; have n1_ : Aside0 (Below w.heap.size w w60) := ⟨by rw [← hq_]; exact (Short.hB HB)⟩; clear BK420 HB hq_; revert n0_ n1_; intro BK420 HB)); have p422 : 0 ≤ (a1 : Int) := of_decide_eq_true z1; have q422 : a1 < (l0.length : Int) := of_decide_eq_true z1; obtain ⟨ad422, e422, hx422_0⟩ := Kd.at_int HR0.out a1 p422 q422; cases e422; replace hx422_0 := up_ HB hx422_0; replace p422 := eq_true p422; replace q422 := eq_true q422) | ((with_reducible refine gate_dst (N := 7) rfl ?_); refine box_event ?hg (N := 7) ?hd (cs := #[.int .i64 0, .int .i64 0, .string (⟨#[]⟩ : ByteArray)]) (t := 84) ?hr ?_; (case hd => rfl); (case hg => rfl); (case hr => first | (go_simp; done) | (go_simp; rfl)); intro gb423 hg w61 hbox hb; have n0_ := mk_ (bB_ BK420 hb); have n1_ := mk_ (below_step (Short.hB HB) hb); have n2_ := mk_ (hbox); have n3_ := mk_ ((by rw [hg]; exact (below_size (Short.hB HB)) : w.heap.size ≤ gb423)); have n4_ := mk_ ((by rw [hg]; exact (below_size (Short.hB HB)) : w.heap.size ≤ gb423)); have n5_ := mk_ ((by rw [hg]; exact Nat.ne_of_lt (blk_lt (Short.bK BK420)) : gb420 ≠ gb423)); have n6_ := mk_ ((by rw [hg]; exact Nat.ne_of_gt (blk_lt (Short.bK BK420)) : gb423 ≠ gb420)); clear BK420 HB; revert n0_ n1_ n2_ n3_ n4_ n5_ n6_; intro BK420 HB BK423 GW423 GE423 NB420_423 NB423_420; clear hb hbox hg; have hnb62 := NB423_420.out; have hnc62 := NB420_423.out; obtain ⟨hcz63_0, hcz63_1, hcz63_2, hfz63_0, hfz63_1, hfz63_2⟩ := Short.c3 BK423.out) | ((with_reducible refine gate_callee (f := 120) rfl ?_); refine Short.gL (some 48) Try.func120 #[.slice (some ad422) l0.length c0, .int .i64 (wrap64 (a1 + 1))] (h := ?_); (with_reducible refine (raddleref01_GetInt.calls k _ _ l0 (wrap64 (a1 + 1)) t429 t430 t431 _ ?side1 ?side2 A56.out).mono ?_); (case side1 => exact C_below HR0.out (Short.hB HB)); (case side2 => exact HC0.out); rintro e w64 ⟨rfl, hb⟩; refine ⟨_, rfl, ?_⟩; have n0_ := mk_ (blk_below (g := gb420) (o := .cells #[.int .i64 0, .int .i64 0, .string (⟨#[]⟩ : ByteArray)] 84 (0, 0)) (by (with_reducible repeat (first | refine blk_drewN ?_ _ | refine blk_drew ?_ | refine blk_alloc ?_ _)); refine blk_far ?_ NB420_423.out _; (with_reducible repeat (first | refine blk_drewN ?_ _ | refine blk_drew ?_ | refine blk_alloc ?_ _)); refine blk_far ?_ NB420_423.out _; (with_reducible repeat (first | refine blk_drewN ?_ _ | refine blk_drew ?_ | refine blk_alloc ?_ _)); refine blk_far ?_ NB420_423.out _; (with_reducible repeat (first | refine blk_drewN ?_ _ | refine blk_drew ?_ | refine blk_alloc ?_ _)); exact BK420.out) hb); have n1_ := mk_ (blk_below (g := gb423) (o := .cells #[.int .i64 (wrap64 (rd l0 a1)), .int .i64 0, .string (⟨#[]⟩ : ByteArray)] 84 (0, 0)) (by (with_reducible repeat (first | refine blk_drewN ?_ _ | refine blk_drew ?_ | refine blk_alloc ?_ _)); refine blk_put (cs := #[.int .i64 (wrap64 (rd l0 a1)), .int .i64 0, .string (⟨#[]⟩ : ByteArray)]) ?_ 2 _ rfl; (with_reducible repeat (first | refine blk_drewN ?_ _ | refine blk_drew ?_ | refine blk_alloc ?_ _)); refine blk_put (cs := #[.int .i64 (wrap64 (rd l0 a1)), .int .i64 0, .string (⟨#[]⟩ : ByteArray)]) ?_ 1 _ rfl; (with_reducible repeat (first | refine blk_drewN ?_ _ | refine blk_drew ?_ | refine blk_alloc ?_ _)); refine blk_put (cs := #[.int .i64 0, .int .i64 0, .string (⟨#[]⟩ : ByteArray)]) ?_ 0 _ rfl; (with_reducible repeat (first | refine blk_drewN ?_ _ | refine blk_drew ?_ | refine blk_alloc ?_ _)); exact BK423.out) hb); have n2_ := mk_ (below_step (Short.hB HB) hb); clear BK420 BK423 HB; revert n0_ n1_ n2_; intro BK420 BK423 HB; (try clear hb); obtain ⟨hcz65_0, hcz65_1, hcz65_2, hfz65_0, hfz65_1, hfz65_2⟩ := Short.c3 BK423.out) | (go_at_call 84; (with_reducible refine (raddleref01_Value.calls (wrap64 (rd l0 a1)) t429 (⟨#[]⟩ : ByteArray) true _ A58.out).mono ?_); rintro e w66 ⟨rfl, hb⟩; have n0_ := mk_ (blk_below (g := gb420) (o := .cells #[.int .i64 0, .int .i64 0, .string (⟨#[]⟩ : ByteArray)] 84 (0, 0)) (by (with_reducible repeat (first | refine blk_drewN ?_ _ | refine blk_drew ?_ | refine blk_alloc ?_ _)); refine blk_far ?_ NB420_423.out _; (with_reducible repeat (first | refine blk_drewN ?_ _ | refine blk_drew ?_ | refine blk_alloc ?_ _)); exact BK420.out) hb); have n1_ := mk_ (blk_below (g := gb423) (o := .cells #[.int .i64 (wrap64 (rd l0 a1)), .int .i64 t429, .string (⟨#[]⟩ : ByteArray)] 84 (0, 0)) (by (with_reducible repeat (first | refine blk_drewN ?_ _ | refine blk_drew ?_ | refine blk_alloc ?_ _)); refine blk_put (cs := #[.int .i64 (wrap64 (rd l0 a1)), .int .i64 0, .string (⟨#[]⟩ : ByteArray)]) ?_ 1 _ rfl; (with_reducible repeat (first | refine blk_drewN ?_ _ | refine blk_drew ?_ | refine blk_alloc ?_ _)); exact BK423.out) hb); have n2_ := mk_ (below_step (Short.hB HB) hb); clear BK420 BK423 HB; revert n0_ n1_ n2_; intro BK420 BK423 HB; (try clear hb); (try clear hb2); (try clear hk); (try clear hi); obtain ⟨hcz67_0, hcz67_1, hcz67_2, hfz67_0, hfz67_1, hfz67_2⟩ := Short.c3 BK423.out; obtain ⟨hcz68_0, hcz68_1, hcz68_2, hfz68_0, hfz68_1, hfz68_2⟩ := Short.c3 BK420.out))
   refine bodyPost_ret (results_ctt rfl _ _ gb420 84 #[.int .i64 (wrap64 (rd l0 a1)), .int .i64 t429, .string (⟨#[]⟩ : ByteArray)] (0, 0) _ rfl (by (with_reducible repeat (first | refine blk_drewN ?_ _ | refine blk_drew ?_ | refine blk_alloc ?_ _)); refine blk_put (cs := #[.int .i64 (wrap64 (rd l0 a1)), .int .i64 t429, .string (⟨#[]⟩ : ByteArray)]) ?_ 2 _ rfl; (with_reducible repeat (first | refine blk_drewN ?_ _ | refine blk_drew ?_ | refine blk_alloc ?_ _)); refine blk_put (cs := #[.int .i64 (wrap64 (rd l0 a1)), .int .i64 0, .string (⟨#[]⟩ : ByteArray)]) ?_ 1 _ rfl; (with_reducible repeat (first | refine blk_drewN ?_ _ | refine blk_drew ?_ | refine blk_alloc ?_ _)); refine blk_put (cs := #[.int .i64 0, .int .i64 0, .string (⟨#[]⟩ : ByteArray)]) ?_ 0 _ rfl; (with_reducible repeat (first | refine blk_drewN ?_ _ | refine blk_drew ?_ | refine blk_alloc ?_ _)); exact BK420.out) Try.underlying84 rfl z0) rfl ?_
   exact ⟨q0, Short.hB HB⟩
  replace c59 := Bool.eq_false_iff.mpr c59
  subst c59
  rw [if_neg (show ¬ (false = true) by decide)] at H
  simp only [Option.some.injEq, Prod.mk.injEq] at H
  obtain ⟨rfl, rfl, rfl, rfl, rfl⟩ := H
  go_enter Try.func112, Try.ntmps112
  go_wp2_with (first | ((with_reducible refine gate_dst (N := 4) rfl ?_); refine box_event ?hg (N := 4) ?hd (cs := #[.int .i64 0, .int .i64 0, .string (⟨#[]⟩ : ByteArray)]) (t := 84) ?hr ?_; (case hd => rfl); (case hg => rfl); (case hr => first | (go_simp; done) | (go_simp; rfl)); intro gb420 hg w69 hbox hb; have n0_ := mk_ (below_step (Short.hB HB) hb); have n1_ := mk_ (hbox); have n2_ := mk_ ((by rw [hg]; exact (below_size (Short.hB HB)) : w.heap.size ≤ gb420)); have n3_ := mk_ ((by rw [hg]; exact (below_size (Short.hB HB)) : w.heap.size ≤ gb420)); clear HB; revert n0_ n1_ n2_ n3_; intro HB BK420 GW420 GE420; clear hb hbox hg) | ((with_reducible refine gate_callee (f := 27) rfl ?_); refine Short.gL (some 13) Try.func27 #[.int .i64 a1, .int .i64 0, .int .i64 (l0.length : Int)] (h := ?_); (with_reducible refine (raddleref01_in.calls a1 0 (l0.length : Int) true _ A3.out).mono ?_); rintro e w' ⟨rfl, ⟨nd, rfl⟩⟩; refine ⟨_, rfl, ?_⟩; (try (rw [drewN_self w69]; generalize hq_ : World.drewN w69 _ = w69; have n0_ : Aside0 (w69.heap[gb420]? = some (.cells #[.int .i64 0, .int .i64 0, .string (⟨#[]⟩ : ByteArray)] 84 (0, 0))) := ⟨by rw [← hq_]; exact (Short.bK BK420)⟩; have n1_ : Aside0 (Below w.heap.size w w69) := ⟨by rw [← hq_]; exact (Short.hB HB)⟩; clear BK420 HB hq_; revert n0_ n1_; intro BK420 HB)); have p422 : 0 ≤ (a1 : Int) := of_decide_eq_true z1; have q422 : a1 < (l0.length : Int) := of_decide_eq_true z1; obtain ⟨ad422, e422, hx422_0⟩ := Kd.at_int HR0.out a1 p422 q422; cases e422; replace hx422_0 := up_ HB hx422_0; replace p422 := eq_true p422; replace q422 := eq_true q422) | ((with_reducible refine gate_dst (N := 7) rfl ?_); refine box_event ?hg (N := 7) ?hd (cs := #[.int .i64 0, .int .i64 0, .string (⟨#[]⟩ : ByteArray)]) (t := 84) ?hr ?_; (case hd => rfl); (case hg => rfl); (case hr => first | (go_simp; done) | (go_simp; rfl)); intro gb423 hg w70 hbox hb; have n0_ := mk_ (bB_ BK420 hb); have n1_ := mk_ (below_step (Short.hB HB) hb); have n2_ := mk_ (hbox); have n3_ := mk_ ((by rw [hg]; exact (below_size (Short.hB HB)) : w.heap.size ≤ gb423)); have n4_ := mk_ ((by rw [hg]; exact (below_size (Short.hB HB)) : w.heap.size ≤ gb423)); have n5_ := mk_ ((by rw [hg]; exact Nat.ne_of_lt (blk_lt (Short.bK BK420)) : gb420 ≠ gb423)); have n6_ := mk_ ((by rw [hg]; exact Nat.ne_of_gt (blk_lt (Short.bK BK420)) : gb423 ≠ gb420)); clear BK420 HB; revert n0_ n1_ n2_ n3_ n4_ n5_ n6_; intro BK420 HB BK423 GW423 GE423 NB420_423 NB423_420; clear hb hbox hg; have hnb71 := NB423_420.out; have hnc71 := NB420_423.out; obtain ⟨hcz72_0, hcz72_1, hcz72_2, hfz72_0, hfz72_1, hfz72_2⟩ := Short.c3 BK423.out) | ((with_reducible refine gate_callee (f := 120) rfl ?_); refine Short.gL (some 48) Try.func120 #[.slice (some ad422) l0.length c0, .int .i64 (wrap64 (a1 + 1))] (h := ?_); (with_reducible refine (raddleref01_GetInt.calls k _ _ l0 (wrap64 (a1 + 1)) t429 t430 t431 _ ?side1 ?side2 A56.out).mono ?_); (case side1 => exact C_below HR0.out (Short.hB HB)); (case side2 => exact HC0.out); rintro e w73 ⟨rfl, hb⟩; refine ⟨_, rfl, ?_⟩; have n0_ := mk_ (blk_below (g := gb420) (o := .cells #[.int .i64 0, .int .i64 0, .string (⟨#[]⟩ : ByteArray)] 84 (0, 0)) (by (with_reducible repeat (first | refine blk_drewN ?_ _ | refine blk_drew ?_ | refine blk_alloc ?_ _)); refine blk_far ?_ NB420_423.out _; (with_reducible repeat (first | refine blk_drewN ?_ _ | refine blk_drew ?_ | refine blk_alloc ?_ _)); refine blk_far ?_ NB420_423.out _; (with_reducible repeat (first | refine blk_drewN ?_ _ | refine blk_drew ?_ | refine blk_alloc ?_ _)); refine blk_far ?_ NB420_423.out _; (with_reducible repeat (first | refine blk_drewN ?_ _ | refine blk_drew ?_ | refine blk_alloc ?_ _)); exact BK420.out) hb); have n1_ := mk_ (blk_below (g := gb423) (o := .cells #[.int .i64 (wrap64 (rd l0 a1)), .int .i64 0, .string (⟨#[]⟩ : ByteArray)] 84 (0, 0)) (by (with_reducible repeat (first | refine blk_drewN ?_ _ | refine blk_drew ?_ | refine blk_alloc ?_ _)); refine blk_put (cs := #[.int .i64 (wrap64 (rd l0 a1)), .int .i64 0, .string (⟨#[]⟩ : ByteArray)]) ?_ 2 _ rfl; (with_reducible repeat (first | refine blk_drewN ?_ _ | refine blk_drew ?_ | refine blk_alloc ?_ _)); refine blk_put (cs := #[.int .i64 (wrap64 (rd l0 a1)), .int .i64 0, .string (⟨#[]⟩ : ByteArray)]) ?_ 1 _ rfl; (with_reducible repeat (first | refine blk_drewN ?_ _ | refine blk_drew ?_ | refine blk_alloc ?_ _)); refine blk_put (cs := #[.int .i64 0, .int .i64 0, .string (⟨#[]⟩ : ByteArray)]) ?_ 0 _ rfl; (with_reducible repeat (first | refine blk_drewN ?_ _ | refine blk_drew ?_ | refine blk_alloc ?_ _)); exact BK423.out) hb); have n2_ := mk_ (below_step (Short.hB HB) hb); clear BK420 BK423 HB; revert n0_ n1_ n2_; intro BK420 BK423 HB; (try clear hb); obtain ⟨hcz74_0, hcz74_1, hcz74_2, hfz74_0, hfz74_1, hfz74_2⟩ := Short.c3 BK423.out) | (go_at_call 84; (with_reducible refine (raddleref01_Value.calls (wrap64 (rd l0 a1)) t429 (⟨#[]⟩ : ByteArray) false _ A58.out).mono ?_); rintro e w75 ⟨rfl, hb⟩; have n0_ := mk_ (blk_below (g := gb420) (o := .cells #[.int .i64 0, .int .i64 0, .string (⟨#[]⟩ : ByteArray)] 84 (0, 0)) (by (with_reducible repeat (first | refine blk_drewN ?_ _ | refine blk_drew ?_ | refine blk_alloc ?_ _)); refine blk_far ?_ NB420_423.out _; (with_reducible repeat (first | refine blk_drewN ?_ _ | refine blk_drew ?_ | refine blk_alloc ?_ _)); exact BK420.out) hb); have n1_ := mk_ (blk_below (g := gb423) (o := .cells #[.int .i64 (wrap64 (rd l0 a1)), .int .i64 t429, .string (⟨#[]⟩ : ByteArray)] 84 (0, 0)) (by (with_reducible repeat (first | refine blk_drewN ?_ _ | refine blk_drew ?_ | refine blk_alloc ?_ _)); refine blk_put (cs := #[.int .i64 (wrap64 (rd l0 a1)), .int .i64 0, .string (⟨#[]⟩ : ByteArray)]) ?_ 1 _ rfl; (with_reducible repeat (first | refine blk_drewN ?_ _ | refine blk_drew ?_ | refine blk_alloc ?_ _)); exact BK423.out) hb); have n2_ := mk_ (below_step (Short.hB HB) hb); clear BK420 BK423 HB; revert n0_ n1_ n2_; intro BK420 BK423 HB; (try clear hb); (try clear hb2); (try clear hk); (try clear hi); obtain ⟨hcz76_0, hcz76_1, hcz76_2, hfz76_0, hfz76_1, hfz76_2⟩ := Short.c3 BK420.out))
  refine bodyPost_ret (results_ctt rfl _ _ gb420 84 #[.int .i64 0, .int .i64 0, .string (⟨#[]⟩ : ByteArray)] (0, 0) _ rfl (by (with_reducible repeat (first | refine blk_drewN ?_ _ | refine blk_drew ?_ | refine blk_alloc ?_ _)); refine blk_put (cs := #[.int .i64 0, .int .i64 0, .string (⟨#[]⟩ : ByteArray)]) ?_ 2 _ rfl; (with_reducible repeat (first | refine blk_drewN ?_ _ | refine blk_drew ?_ | refine blk_alloc ?_ _)); refine blk_put (cs := #[.int .i64 0, .int .i64 0, .string (⟨#[]⟩ : ByteArray)]) ?_ 1 _ rfl; (with_reducible repeat (first | refine blk_drewN ?_ _ | refine blk_drew ?_ | refine blk_alloc ?_ _)); refine blk_put (cs := #[.int .i64 0, .int .i64 0, .string (⟨#[]⟩ : ByteArray)]) ?_ 0 _ rfl; (with_reducible repeat (first | refine blk_drewN ?_ _ | refine blk_drew ?_ | refine blk_alloc ?_ _)); exact BK420.out) Try.underlying84 rfl z0) rfl ?_
  exact ⟨q0, Short.hB HB⟩
 rw [if_neg c55] at H
 have c55b0 : ((wrap64 (rd l0 a1)) == 3) = false := beq_eq_false_iff_ne.mpr c55
 have c55b1 : ((wrap64 (rd l0 a1)) != 3) = true := bne_iff_ne.mpr c55
 by_cases c84 : (wrap64 (rd l0 a1)) = 4
 rotate_left
 ·
  rw [if_neg c84] at H
  have c84b0 : ((wrap64 (rd l0 a1)) == 4) = false := beq_eq_false_iff_ne.mpr c84
  have c84b1 : ((wrap64 (rd l0 a1)) != 4) = true := bne_iff_ne.mpr c84
  simp only [Option.some.injEq, Prod.mk.injEq] at H
  obtain ⟨rfl, rfl, rfl, rfl, rfl⟩ := H
  go_enter Try.func112, Try.ntmps112
  go_wp2_with (first | ((with_reducible refine gate_dst (N := 4) rfl ?_); refine box_event ?hg (N := 4) ?hd (cs := #[.int .i64 0, .int .i64 0, .string (⟨#[]⟩ : ByteArray)]) (t := 84) ?hr ?_; (case hd => rfl); (case hg => rfl); (case hr => first | (go_simp; done) | (go_simp; rfl)); intro gb420 hg w113 hbox hb; have n0_ := mk_ (below_step (Short.hB HB) hb); have n1_ := mk_ (hbox); have n2_ := mk_ ((by rw [hg]; exact (below_size (Short.hB HB)) : w.heap.size ≤ gb420)); have n3_ := mk_ ((by rw [hg]; exact (below_size (Short.hB HB)) : w.heap.size ≤ gb420)); clear HB; revert n0_ n1_ n2_ n3_; intro HB BK420 GW420 GE420; clear hb hbox hg) | ((with_reducible refine gate_callee (f := 27) rfl ?_); refine Short.gL (some 13) Try.func27 #[.int .i64 a1, .int .i64 0, .int .i64 (l0.length : Int)] (h := ?_); (with_reducible refine (raddleref01_in.calls a1 0 (l0.length : Int) true _ A3.out).mono ?_); rintro e w' ⟨rfl, ⟨nd, rfl⟩⟩; refine ⟨_, rfl, ?_⟩; (try (rw [drewN_self w113]; generalize hq_ : World.drewN w113 _ = w113; have n0_ : Aside0 (w113.heap[gb420]? = some (.cells #[.int .i64 0, .int .i64 0, .string (⟨#[]⟩ : ByteArray)] 84 (0, 0))) := ⟨by rw [← hq_]; exact (Short.bK BK420)⟩; have n1_ : Aside0 (Below w.heap.size w w113) := ⟨by rw [← hq_]; exact (Short.hB HB)⟩; clear BK420 HB hq_; revert n0_ n1_; intro BK420 HB)); have p422 : 0 ≤ (a1 : Int) := of_decide_eq_true z1; have q422 : a1 < (l0.length : Int) := of_decide_eq_true z1; obtain ⟨ad422, e422, hx422_0⟩ := Kd.at_int HR0.out a1 p422 q422; cases e422; replace hx422_0 := up_ HB hx422_0; replace p422 := eq_true p422; replace q422 := eq_true q422) | ((with_reducible refine gate_dst (N := 7) rfl ?_); refine box_event ?hg (N := 7) ?hd (cs := #[.int .i64 0, .int .i64 0, .string (⟨#[]⟩ : ByteArray)]) (t := 84) ?hr ?_; (case hd => rfl); (case hg => rfl); (case hr => first | (go_simp; done) | (go_simp; rfl)); intro gb423 hg w114 hbox hb; have n0_ := mk_ (bB_ BK420 hb); have n1_ := mk_ (below_step (Short.hB HB) hb); have n2_ := mk_ (hbox); have n3_ := mk_ ((by rw [hg]; exact (below_size (Short.hB HB)) : w.heap.size ≤ gb423)); have n4_ := mk_ ((by rw [hg]; exact (below_size (Short.hB HB)) : w.heap.size ≤ gb423)); have n5_ := mk_ ((by rw [hg]; exact Nat.ne_of_lt (blk_lt (Short.bK BK420)) : gb420 ≠ gb423)); have n6_ := mk_ ((by rw [hg]; exact Nat.ne_of_gt (blk_lt (Short.bK BK420)) : gb423 ≠ gb420)); clear BK420 HB; revert n0_ n1_ n2_ n3_ n4_ n5_ n6_; intro BK420 HB BK423 GW423 GE423 NB420_423 NB423_420; clear hb hbox hg; have hnb115 := NB423_420.out; have hnc115 := NB420_423.out; obtain ⟨hcz116_0, hcz116_1, hcz116_2, hfz116_0, hfz116_1, hfz116_2⟩ := Short.c3 BK423.out; obtain ⟨hcz117_0, hcz117_1, hcz117_2, hfz117_0, hfz117_1, hfz117_2⟩ := Short.c3 BK420.out))
  refine bodyPost_ret (results_ctt rfl _ _ gb420 84 #[.int .i64 0, .int .i64 0, .string (⟨#[]⟩ : ByteArray)] (0, 0) _ rfl (by (with_reducible repeat (first | refine blk_drewN ?_ _ | refine blk_drew ?_ | refine blk_alloc ?_ _)); refine blk_put (cs := #[.int .i64 0, .int .i64 0, .string (⟨#[]⟩ : ByteArray)]) ?_ 2 _ rfl; (with_reducible repeat (first | refine blk_drewN ?_ _ | refine blk_drew ?_ | refine blk_alloc ?_ _)); refine blk_put (cs := #[.int .i64 0, .int .i64 0, .string (⟨#[]⟩ : ByteArray)]) ?_ 1 _ rfl; (with_reducible repeat (first | refine blk_drewN ?_ _ | refine blk_drew ?_ | refine blk_alloc ?_ _)); refine blk_put (cs := #[.int .i64 0, .int .i64 0, .string (⟨#[]⟩ : ByteArray)]) ?_ 0 _ rfl; (with_reducible repeat (first | refine blk_drewN ?_ _ | refine blk_drew ?_ | refine blk_alloc ?_ _)); refine blk_far ?_ NB420_423.out _; (with_reducible repeat (first | refine blk_drewN ?_ _ | refine blk_drew ?_ | refine blk_alloc ?_ _)); refine blk_far ?_ NB420_423.out _; (with_reducible repeat (first | refine blk_drewN ?_ _ | refine blk_drew ?_ | refine blk_alloc ?_ _)); refine blk_far ?_ NB420_423.out _; (with_reducible repeat (first | refine blk_drewN ?_ _ | refine blk_drew ?_ | refine blk_alloc ?_ _)); exact BK420.out) Try.underlying84 rfl z0) rfl ?_
  exact ⟨q0, Short.hB HB⟩
 rw [if_pos c84] at H
 have c84b0 : ((wrap64 (rd l0 a1)) == 4) = true := beq_iff_eq.mpr c84
 have c84b1 : ((wrap64 (rd l0 a1)) != 4) = false := bne_eq_false_iff_eq.mpr c84
 clear c84
 replace H := Option.bind_eq_some_iff.mp H
 obtain ⟨⟨t433, t434, t435⟩, A850, H⟩ := H
 replace H : (if t435 = 0 then ((raddleref01_Value.f (wrap64 (rd l0 a1)) 0 t433).bind fun t436 => (if t436 = true then (some (wrap64 (rd l0 a1), 0, t433, t434, 0)) else (some (0, 0, (⟨#[]⟩ : ByteArray), 0, 3)))) else (some (0, 0, (⟨#[]⟩ : ByteArray), 0, 3))) = some (r1, r2, r3, r4, r5) := H
 have A85 := mk_ A850
 clear A850
 by_cases c86 : t435 = 0
 rotate_left
 ·
  rw [if_neg c86] at H
  have c86b0 : (t435 == 0) = false := beq_eq_false_iff_ne.mpr c86
  have c86b1 : (t435 != 0) = true := bne_iff_ne.mpr c86
  simp only [Option.some.injEq, Prod.mk.injEq] at H
  obtain ⟨rfl, rfl, rfl, rfl, rfl⟩ := H
  go_enter Try.func112, Try.ntmps112
  go_wp2_with (first | ((with_reducible refine gate_dst (N := 4) rfl ?_); refine box_event ?hg (N := 4) ?hd (cs := #[.int .i64 0, .int .i64 0, .string (⟨#[]⟩ : ByteArray)]) (t := 84) ?hr ?_; (case hd => rfl); (case hg => rfl); (case hr => first | (go_simp; done) | (go_simp; rfl)); intro gb420 hg w106 hbox hb; have n0_ := mk_ (below_step (Short.hB HB) hb); have n1_ := mk_ (hbox); have n2_ := mk_ ((by rw [hg]; exact (below_size (Short.hB HB)) : w.heap.size ≤ gb420)); have n3_ := mk_ ((by rw [hg]; exact (below_size (Short.hB HB)) : w.heap.size ≤ gb420)); clear HB; revert n0_ n1_ n2_ n3_; intro HB BK420 GW420 GE420; clear hb hbox hg) | ((with_reducible refine gate_callee (f := 27) rfl ?_); refine Short.gL (some 13) Try.func27 #[.int .i64 a1, .int .i64 0, .int .i64 (l0.length : Int)] (h := ?_); (with_reducible refine (raddleref01_in.calls a1 0 (l0.length : Int) true _ A3.out).mono ?_); rintro e w' ⟨rfl, ⟨nd, rfl⟩⟩; refine ⟨_, rfl, ?_⟩; (try (rw [drewN_self w106]; generalize hq_ : World.drewN w106 _ = w106; have n0_ : Aside0 (w106.heap[gb420]? = some (.cells #[.int .i64 0, .int .i64 0, .string (⟨#[]⟩ : ByteArray)] 84 (0, 0))) := ⟨by rw [← hq_]; exact (Short.bK BK420)⟩; have n1_ : Aside0 (Below w.heap.size w w106) := ⟨by rw [← hq_]; exact (Short.hB HB)⟩; clear BK420 HB hq_; revert n0_ n1_; intro BK420 HB)); have p422 : 0 ≤ (a1 : Int) := of_decide_eq_true z1; have q422 : a1 < (l0.length : Int) := of_decide_eq_true z1; obtain ⟨ad422, e422, hx422_0⟩ := Kd.at_int HR0.out a1 p422 q422; cases e422; replace hx422_0 := up_ HB hx422_0; replace p422 := eq_true p422; replace q422 := eq_true q422) | ((with_reducible refine gate_dst (N := 7) rfl ?_); refine box_event ?hg (N := 7) ?hd (cs := #[.int .i64 0, .int .i64 0, .string (⟨#[]⟩ : ByteArray)]) (t := 84) ?hr ?_; (case hd => rfl); (case hg => rfl); (case hr => first | (go_simp; done) | (go_simp; rfl)); intro gb423 hg w107 hbox hb; have n0_ := mk_ (bB_ BK420 hb); have n1_ := mk_ (below_step (Short.hB HB) hb); have n2_ := mk_ (hbox); have n3_ := mk_ ((by rw [hg]; exact (below_size (Short.hB HB)) : w.heap.size ≤ gb423)); have n4_ := mk_ ((by rw [hg]; exact (below_size (Short.hB HB)) : w.heap.size ≤ gb423)); have n5_ := mk_ ((by rw [hg]; exact Nat.ne_of_lt (blk_lt (Short.bK BK420)) : gb420 ≠ gb423)); have n6_ := mk_ ((by rw [hg]; exact Nat.ne_of_gt (blk_lt (Short.bK BK420)) : gb423 ≠ gb420)); clear BK420 HB; revert n0_ n1_ n2_ n3_ n4_ n5_ n6_; intro BK420 HB BK423 GW423 GE423 NB420_423 NB423_420; clear hb hbox hg; have hnb108 := NB423_420.out; have hnc108 := NB420_423.out; obtain ⟨hcz109_0, hcz109_1, hcz109_2, hfz109_0, hfz109_1, hfz109_2⟩ := Short.c3 BK423.out) | ((with_reducible refine gate_callee (f := 96) rfl ?_); refine Short.gL (some 58) Try.func96 #[.slice (some ad422) l0.length c0, .int .i64 (wrap64 (a1 + 1))] (h := ?_); (with_reducible refine (raddleref01_GetText.calls _ _ l0 (wrap64 (a1 + 1)) t433 t434 t435 _ ?side1 ?side2 A85.out).mono ?_); (case side1 => exact C_below HR0.out (Short.hB HB)); (case side2 => exact HC0.out); rintro e w110 ⟨rfl, hb⟩; refine ⟨_, rfl, ?_⟩; have n0_ := mk_ (blk_below (g := gb420) (o := .cells #[.int .i64 0, .int .i64 0, .string (⟨#[]⟩ : ByteArray)] 84 (0, 0)) (by (with_reducible repeat (first | refine blk_drewN ?_ _ | refine blk_drew ?_ | refine blk_alloc ?_ _)); refine blk_far ?_ NB420_423.out _; (with_reducible repeat (first | refine blk_drewN ?_ _ | refine blk_drew ?_ | refine blk_alloc ?_ _)); refine blk_far ?_ NB420_423.out _; (with_reducible repeat (first | refine blk_drewN ?_ _ | refine blk_drew ?_ | refine blk_alloc ?_ _)); refine blk_far ?_ NB420_423.out _; (with_reducible repeat (first | refine blk_drewN ?_ _ | refine blk_drew ?_ | refine blk_alloc ?_ _)); exact BK420.out) hb); have n1_ := mk_ (blk_below (g := gb423) (o := .cells #[.int .i64 (wrap64 (rd l0 a1)), .int .i64 0, .string (⟨#[]⟩ : ByteArray)] 84 (0, 0)) (by (with_reducible repeat (first | refine blk_drewN ?_ _ | refine blk_drew ?_ | refine blk_alloc ?_ _)); refine blk_put (cs := #[.int .i64 (wrap64 (rd l0 a1)), .int .i64 0, .string (⟨#[]⟩ : ByteArray)]) ?_ 2 _ rfl; (with_reducible repeat (first | refine blk_drewN ?_ _ | refine blk_drew ?_ | refine blk_alloc ?_ _)); refine blk_put (cs := #[.int .i64 (wrap64 (rd l0 a1)), .int .i64 0, .string (⟨#[]⟩ : ByteArray)]) ?_ 1 _ rfl; (with_reducible repeat (first | refine blk_drewN ?_ _ | refine blk_drew ?_ | refine blk_alloc ?_ _)); refine blk_put (cs := #[.int .i64 0, .int .i64 0, .string (⟨#[]⟩ : ByteArray)]) ?_ 0 _ rfl; (with_reducible repeat (first | refine blk_drewN ?_ _ | refine blk_drew ?_ | refine blk_alloc ?_ _)); exact BK423.out) hb); have n2_ := mk_ (below_step (Short.hB HB) hb); clear BK420 BK423 HB; revert n0_ n1_ n2_; intro BK420 BK423 HB; (try clear hb); obtain ⟨hcz111_0, hcz111_1, hcz111_2, hfz111_0, hfz111_1, hfz111_2⟩ := Short.c3 BK423.out; obtain ⟨hcz112_0, hcz112_1, hcz112_2, hfz112_0, hfz112_1, hfz112_2⟩ := Short.c3 BK420.out))
  refine bodyPost_ret (results_ctt rfl _ _ gb420 84 #[.int .i64 0, .int .i64 0, .string (⟨#[]⟩ : ByteArray)] (0, 0) _ rfl (by (with_reducible repeat (first | refine blk_drewN ?_ _ | refine blk_drew ?_ | refine blk_alloc ?_ _)); refine blk_put (cs := #[.int .i64 0, .int .i64 0, .string (⟨#[]⟩ : ByteArray)]) ?_ 2 _ rfl; (with_reducible repeat (first | refine blk_drewN ?_ _ | refine blk_drew ?_ | refine blk_alloc ?_ _)); refine blk_put (cs := #[.int .i64 0, .int .i64 0, .string (⟨#[]⟩ : ByteArray)]) ?_ 1 _ rfl; (with_reducible repeat (first | refine blk_drewN ?_ _ | refine blk_drew ?_ | refine blk_alloc ?_ _)); refine blk_put (cs := #[.int .i64 0, .int .i64 0, .string (⟨#[]⟩ : ByteArray)]) ?_ 0 _ rfl; (with_reducible repeat (first | refine blk_drewN ?_ _ | refine blk_drew ?_ | refine blk_alloc ?_ _)); refine blk_far ?_ NB420_423.out _; (with_reducible repeat (first | refine blk_drewN ?_ _ | refine blk_drew ?_ | refine blk_alloc ?_ _)); exact BK420.out) Try.underlying84 rfl z0) rfl ?_
  exact ⟨q0, Short.hB HB⟩
 rw [if_pos c86] at H
 have c86b0 : (t435 == 0) = true := beq_iff_eq.mpr c86
 have c86b1 : (t435 != 0) = false := bne_eq_false_iff_eq.mpr c86
 clear c86
 replace H := Option.bind_eq_some_iff.mp H
 obtain ⟨t436, A870, H⟩ := H
 replace H : (if t436 = true then (some (wrap64 (rd l0 a1), 0, t433, t434, 0)) else (some (0, 0, (⟨#[]⟩ : ByteArray), 0, 3))) = some (r1, r2, r3, r4, r5) := H
 have A87 := mk_ A870
 clear A870
 by_cases c88 : t436 = true
 ·
  subst c88
  rw [if_pos rfl] at H
  simp only [Option.some.injEq, Prod.mk.injEq] at H
  obtain ⟨rfl, rfl, rfl, rfl, rfl⟩ := H
  go_enter Try.func112, Try.ntmps112
  go_wp2_with (first | ((with_reducible refine gate_dst (N := 4) rfl ?_); refine box_event ?hg (N := 4) ?hd (cs := #[.int .i64 0, .int .i64 0, .string (⟨#[]⟩ : ByteArray)]) (t := 84) ?hr ?_; (case hd => rfl); (case hg => rfl); (case hr => first | (go_simp; done) | (go_simp; rfl)); intro gb420 hg w89 hbox hb; have n0_ := mk_ (below_step (Short.hB HB) hb); have n1_ := mk_ (hbox); have n2_ := mk_ ((by rw [hg]; exact (below_size (Short.hB HB)) : w.heap.size ≤ gb420)); have n3_ := mk_ ((by rw [hg]; exact (below_size (Short.hB HB)) : w.heap.size ≤ gb420)); clear HB; revert n0_ n1_ n2_ n3_; intro HB BK420 GW420 GE420; clear hb hbox hg) | ((with_reducible refine gate_callee (f := 27) rfl ?_); refine Short.gL (some 13) Try.func27 #[.int .i64 a1, .int .i64 0, .int .i64 (l0.length : Int)] (h := ?_); (with_reducible refine (raddleref01_in.calls a1 0 (l0.length : Int) true _ A3.out).mono ?_); rintro e w' ⟨rfl, ⟨nd, rfl⟩⟩; refine ⟨_, rfl, ?_⟩; (try (rw [drewN_self w89]; generalize hq_ : World.drewN w89 _ = w89; have n0_ : Aside0 (w89.heap[gb420]? = some (.cells #[.int .i64 0, .int .i64 0, .string (⟨#[]⟩ : ByteArray)] 84 (0, 0))) := ⟨by rw [← hq_]; exact (Short.bK BK420)⟩; have n1_ : Aside0 (Below w.heap.size w w89) := ⟨by rw [← hq_]; exact (Short.hB HB)⟩; clear BK420 HB hq_; revert n0_ n1_; intro BK420 HB)); have p422 : 0 ≤ (a1 : Int) := of_decide_eq_true z1; have q422 : a1 < (l0.length : Int) := of_decide_eq_true z1; obtain ⟨ad422, e422, hx422_0⟩ := Kd.at_int HR0.out a1 p422 q422; cases e422; replace hx422_0 := up_ HB hx422_0; replace p422 := eq_true p422; replace q422 := eq_true q422) | ((with_reducible refine gate_dst (N := 7) rfl ?_); refine box_event ?hg (N := 7) ?hd (cs := #[.int .i64 0, .int .i64 0, .string (⟨#[]⟩ : ByteArray)]) (t := 84) ?hr ?_; (case hd => rfl); (case hg => rfl); (case hr => first | (go_simp; done) | (go_simp; rfl)); intro gb423 hg w90 hbox hb; have n0_ := mk_ (bB_ BK420 hb); have n1_ := mk_ (below_step (Short.hB HB) hb); have n2_ := mk_ (hbox); have n3_ := mk_ ((by rw [hg]; exact (below_size (Short.hB HB)) : w.heap.size ≤ gb423)); have n4_ := mk_ ((by rw [hg]; exact (below_size (Short.hB HB)) : w.heap.size ≤ gb423)); have n5_ := mk_ ((by rw [hg]; exact Nat.ne_of_lt (blk_lt (Short.bK BK420)) : gb420 ≠ gb423)); have n6_ := mk_ ((by rw [hg]; exact Nat.ne_of_gt (blk_lt (Short.bK BK420)) : gb423 ≠ gb420)); clear BK420 HB; revert n0_ n1_ n2_ n3_ n4_ n5_ n6_; intro BK420 HB BK423 GW423 GE423 NB420_423 NB423_420; clear hb hbox hg; have hnb91 := NB423_420.out; have hnc91 := NB420_423.out; obtain ⟨hcz92_0, hcz92_1, hcz92_2, hfz92_0, hfz92_1, hfz92_2⟩ := Short.c3 BK423.out) | ((with_reducible refine gate_callee (f := 96) rfl ?_); refine Short.gL (some 58) Try.func96 #[.slice (some ad422) l0.length c0, .int .i64 (wrap64 (a1 + 1))] (h := ?_); (with_reducible refine (raddleref01_GetText.calls _ _ l0 (wrap64 (a1 + 1)) t433 t434 t435 _ ?side1 ?side2 A85.out).mono ?_); (case side1 => exact C_below HR0.out (Short.hB HB)); (case side2 => exact HC0.out); rintro e w93 ⟨rfl, hb⟩; refine ⟨_, rfl, ?_⟩; have n0_ := mk_ (blk_below (g := gb420) (o := .cells #[.int .i64 0, .int .i64 0, .string (⟨#[]⟩ : ByteArray)] 84 (0, 0)) (by (with_reducible repeat (first | refine blk_drewN ?_ _ | refine blk_drew ?_ | refine blk_alloc ?_ _)); refine blk_far ?_ NB420_423.out _; (with_reducible repeat (first | refine blk_drewN ?_ _ | refine blk_drew ?_ | refine blk_alloc ?_ _)); refine blk_far ?_ NB420_423.out _; (with_reducible repeat (first | refine blk_drewN ?_ _ | refine blk_drew ?_ | refine blk_alloc ?_ _)); refine blk_far ?_ NB420_423.out _; (with_reducible repeat (first | refine blk_drewN ?_ _ | refine blk_drew ?_ | refine blk_alloc ?_ _)); exact BK420.out) hb); have n1_ := mk_ (blk_below (g := gb423) (o := .cells #[.int .i64 (wrap64 (rd l0 a1)), .int .i64 0, .string (⟨#[]⟩ : ByteArray)] 84 (0, 0)) (by (with_reducible repeat (first | refine blk_drewN ?_ _ | refine blk_drew ?_ | refine blk_alloc ?_ _)); refine blk_put (cs := #[.int .i64 (wrap64 (rd l0 a1)), .int .i64 0, .string (⟨#[]⟩ : ByteArray)]) ?_ 2 _ rfl; (with_reducible repeat (first | refine blk_drewN ?_ _ | refine blk_drew ?_ | refine blk_alloc ?_ _)); refine blk_put (cs := #[.int .i64 (wrap64 (rd l0 a1)), .int .i64 0, .string (⟨#[]⟩ : ByteArray)]) ?_ 1 _ rfl; (with_reducible repeat (first | refine blk_drewN ?_ _ | refine blk_drew ?_ | refine blk_alloc ?_ _)); refine blk_put (cs := #[.int .i64 0, .int .i64 0, .string (⟨#[]⟩ : ByteArray)]) ?_ 0 _ rfl; (with_reducible repeat (first | refine blk_drewN ?_ _ | refine blk_drew ?_ | refine blk_alloc ?_ _)); exact BK423.out) hb); have n2_ := mk_ (below_step (Short.hB HB) hb); clear BK420 BK423 HB; revert n0_ n1_ n2_; intro BK420 BK423 HB; (try clear hb); obtain ⟨hcz94_0, hcz94_1, hcz94_2, hfz94_0, hfz94_1, hfz94_2⟩ := Short.c3 BK423.out) | (go_at_call 84; (with_reducible refine (raddleref01_Value.calls (wrap64 (rd l0 a1)) 0 t433 true _ A87.out).mono ?_); rintro e w95 ⟨rfl, hb⟩; have n0_ := mk_ (blk_below (g := gb420) (o := .cells #[.int .i64 0, .int .i64 0, .string (⟨#[]⟩ : ByteArray)] 84 (0, 0)) (by (with_reducible repeat (first | refine blk_drewN ?_ _ | refine blk_drew ?_ | refine blk_alloc ?_ _)); refine blk_far ?_ NB420_423.out _; (with_reducible repeat (first | refine blk_drewN ?_ _ | refine blk_drew ?_ | refine blk_alloc ?_ _)); exact BK420.out) hb); have n1_ := mk_ (blk_below (g := gb423) (o := .cells #[.int .i64 (wrap64 (rd l0 a1)), .int .i64 0, .string t433] 84 (0, 0)) (by (with_reducible repeat (first | refine blk_drewN ?_ _ | refine blk_drew ?_ | refine blk_alloc ?_ _)); refine blk_put (cs := #[.int .i64 (wrap64 (rd l0 a1)), .int .i64 0, .string (⟨#[]⟩ : ByteArray)]) ?_ 2 _ rfl; (with_reducible repeat (first | refine blk_drewN ?_ _ | refine blk_drew ?_ | refine blk_alloc ?_ _)); exact BK423.out) hb); have n2_ := mk_ (below_step (Short.hB HB) hb); clear BK420 BK423 HB; revert n0_ n1_ n2_; intro BK420 BK423 HB; (try clear hb); (try clear hb2); (try clear hk); (try clear hi); obtain ⟨hcz96_0, hcz96_1, hcz96_2, hfz96_0, hfz96_1, hfz96_2⟩ := Short.c3 BK423.out; obtain ⟨hcz97_0, hcz97_1, hcz97_2, hfz97_0, hfz97_1, hfz97_2⟩ := Short.c3 BK420.out))
  refine bodyPost_ret (results_ctt rfl _ _ gb420 84 #[.int .i64 (wrap64 (rd l0 a1)), .int .i64 0, .string t433] (0, 0) _ rfl (by (with_reducible repeat (first | refine blk_drewN ?_ _ | refine blk_drew ?_ | refine blk_alloc ?_ _)); refine blk_put (cs := #[.int .i64 (wrap64 (rd l0 a1)), .int .i64 0, .string (⟨#[]⟩ : ByteArray)]) ?_ 2 _ rfl; (with_reducible repeat (first | refine blk_drewN ?_ _ | refine blk_drew ?_ | refine blk_alloc ?_ _)); refine blk_put (cs := #[.int .i64 (wrap64 (rd l0 a1)), .int .i64 0, .string (⟨#[]⟩ : ByteArray)]) ?_ 1 _ rfl; (with_reducible repeat (first | refine blk_drewN ?_ _ | refine blk_drew ?_ | refine blk_alloc ?_ _)); refine blk_put (cs := #[.int .i64 0, .int .i64 0, .string (⟨#[]⟩ : ByteArray)]) ?_ 0 _ rfl; (with_reducible repeat (first | refine blk_drewN ?_ _ | refine blk_drew ?_ | refine blk_alloc ?_ _)); exact BK420.out) Try.underlying84 rfl z0) rfl ?_
  exact ⟨q0, Short.hB HB⟩
 replace c88 := Bool.eq_false_iff.mpr c88
 subst c88
 rw [if_neg (show ¬ (false = true) by decide)] at H
 simp only [Option.some.injEq, Prod.mk.injEq] at H
 obtain ⟨rfl, rfl, rfl, rfl, rfl⟩ := H
 go_enter Try.func112, Try.ntmps112
 go_wp2_with (first | ((with_reducible refine gate_dst (N := 4) rfl ?_); refine box_event ?hg (N := 4) ?hd (cs := #[.int .i64 0, .int .i64 0, .string (⟨#[]⟩ : ByteArray)]) (t := 84) ?hr ?_; (case hd => rfl); (case hg => rfl); (case hr => first | (go_simp; done) | (go_simp; rfl)); intro gb420 hg w98 hbox hb; have n0_ := mk_ (below_step (Short.hB HB) hb); have n1_ := mk_ (hbox); have n2_ := mk_ ((by rw [hg]; exact (below_size (Short.hB HB)) : w.heap.size ≤ gb420)); have n3_ := mk_ ((by rw [hg]; exact (below_size (Short.hB HB)) : w.heap.size ≤ gb420)); clear HB; revert n0_ n1_ n2_ n3_; intro HB BK420 GW420 GE420; clear hb hbox hg) | ((with_reducible refine gate_callee (f := 27) rfl ?_); refine Short.gL (some 13) Try.func27 #[.int .i64 a1, .int .i64 0, .int .i64 (l0.length : Int)] (h := ?_); (with_reducible refine (raddleref01_in.calls a1 0 (l0.length : Int) true _ A3.out).mono ?_); rintro e w' ⟨rfl, ⟨nd, rfl⟩⟩; refine ⟨_, rfl, ?_⟩; (try (rw [drewN_self w98]; generalize hq_ : World.drewN w98 _ = w98; have n0_ : Aside0 (w98.heap[gb420]? = some (.cells #[.int .i64 0, .int .i64 0, .string (⟨#[]⟩ : ByteArray)] 84 (0, 0))) := ⟨by rw [← hq_]; exact (Short.bK BK420)⟩; have n1_ : Aside0 (Below w.heap.size w w98) := ⟨by rw [← hq_]; exact (Short.hB HB)⟩; clear BK420 HB hq_; revert n0_ n1_; intro BK420 HB)); have p422 : 0 ≤ (a1 : Int) := of_decide_eq_true z1; have q422 : a1 < (l0.length : Int) := of_decide_eq_true z1; obtain ⟨ad422, e422, hx422_0⟩ := Kd.at_int HR0.out a1 p422 q422; cases e422; replace hx422_0 := up_ HB hx422_0; replace p422 := eq_true p422; replace q422 := eq_true q422) | ((with_reducible refine gate_dst (N := 7) rfl ?_); refine box_event ?hg (N := 7) ?hd (cs := #[.int .i64 0, .int .i64 0, .string (⟨#[]⟩ : ByteArray)]) (t := 84) ?hr ?_; (case hd => rfl); (case hg => rfl); (case hr => first | (go_simp; done) | (go_simp; rfl)); intro gb423 hg w99 hbox hb; have n0_ := mk_ (bB_ BK420 hb); have n1_ := mk_ (below_step (Short.hB HB) hb); have n2_ := mk_ (hbox); have n3_ := mk_ ((by rw [hg]; exact (below_size (Short.hB HB)) : w.heap.size ≤ gb423)); have n4_ := mk_ ((by rw [hg]; exact (below_size (Short.hB HB)) : w.heap.size ≤ gb423)); have n5_ := mk_ ((by rw [hg]; exact Nat.ne_of_lt (blk_lt (Short.bK BK420)) : gb420 ≠ gb423)); have n6_ := mk_ ((by rw [hg]; exact Nat.ne_of_gt (blk_lt (Short.bK BK420)) : gb423 ≠ gb420)); clear BK420 HB; revert n0_ n1_ n2_ n3_ n4_ n5_ n6_; intro BK420 HB BK423 GW423 GE423 NB420_423 NB423_420; clear hb hbox hg; have hnb100 := NB423_420.out; have hnc100 := NB420_423.out; obtain ⟨hcz101_0, hcz101_1, hcz101_2, hfz101_0, hfz101_1, hfz101_2⟩ := Short.c3 BK423.out) | ((with_reducible refine gate_callee (f := 96) rfl ?_); refine Short.gL (some 58) Try.func96 #[.slice (some ad422) l0.length c0, .int .i64 (wrap64 (a1 + 1))] (h := ?_); (with_reducible refine (raddleref01_GetText.calls _ _ l0 (wrap64 (a1 + 1)) t433 t434 t435 _ ?side1 ?side2 A85.out).mono ?_); (case side1 => exact C_below HR0.out (Short.hB HB)); (case side2 => exact HC0.out); rintro e w102 ⟨rfl, hb⟩; refine ⟨_, rfl, ?_⟩; have n0_ := mk_ (blk_below (g := gb420) (o := .cells #[.int .i64 0, .int .i64 0, .string (⟨#[]⟩ : ByteArray)] 84 (0, 0)) (by (with_reducible repeat (first | refine blk_drewN ?_ _ | refine blk_drew ?_ | refine blk_alloc ?_ _)); refine blk_far ?_ NB420_423.out _; (with_reducible repeat (first | refine blk_drewN ?_ _ | refine blk_drew ?_ | refine blk_alloc ?_ _)); refine blk_far ?_ NB420_423.out _; (with_reducible repeat (first | refine blk_drewN ?_ _ | refine blk_drew ?_ | refine blk_alloc ?_ _)); refine blk_far ?_ NB420_423.out _; (with_reducible repeat (first | refine blk_drewN ?_ _ | refine blk_drew ?_ | refine blk_alloc ?_ _)); exact BK420.out) hb); have n1_ := mk_ (blk_below (g := gb423) (o := .cells #[.int .i64 (wrap64 (rd l0 a1)), .int .i64 0, .string (⟨#[]⟩ : ByteArray)] 84 (0, 0)) (by (with_reducible repeat (first | refine blk_drewN ?_ _ | refine blk_drew ?_ | refine blk_alloc ?_ _)); refine blk_put (cs := #[.int .i64 (wrap64 (rd l0 a1)), .int .i64 0, .string (⟨#[]⟩ : ByteArray)]) ?_ 2 _ rfl; (with_reducible repeat (first | refine blk_drewN ?_ _ | refine blk_drew ?_ | refine blk_alloc ?_ _)); refine blk_put (cs := #[.int .i64 (wrap64 (rd l0 a1)), .int .i64 0, .string (⟨#[]⟩ : ByteArray)]) ?_ 1 _ rfl; (with_reducible repeat (first | refine blk_drewN ?_ _ | refine blk_drew ?_ | refine blk_alloc ?_ _)); refine blk_put (cs := #[.int .i64 0, .int .i64 0, .string (⟨#[]⟩ : ByteArray)]) ?_ 0 _ rfl; (with_reducible repeat (first | refine blk_drewN ?_ _ | refine blk_drew ?_ | refine blk_alloc ?_ _)); exact BK423.out) hb); have n2_ := mk_ (below_step (Short.hB HB) hb); clear BK420 BK423 HB; revert n0_ n1_ n2_; intro BK420 BK423 HB; (try clear hb); obtain ⟨hcz103_0, hcz103_1, hcz103_2, hfz103_0, hfz103_1, hfz103_2⟩ := Short.c3 BK423.out) | (go_at_call 84; (with_reducible refine (raddleref01_Value.calls (wrap64 (rd l0 a1)) 0 t433 false _ A87.out).mono ?_); rintro e w104 ⟨rfl, hb⟩; have n0_ := mk_ (blk_below (g := gb420) (o := .cells #[.int .i64 0, .int .i64 0, .string (⟨#[]⟩ : ByteArray)] 84 (0, 0)) (by (with_reducible repeat (first | refine blk_drewN ?_ _ | refine blk_drew ?_ | refine blk_alloc ?_ _)); refine blk_far ?_ NB420_423.out _; (with_reducible repeat (first | refine blk_drewN ?_ _ | refine blk_drew ?_ | refine blk_alloc ?_ _)); exact BK420.out) hb); have n1_ := mk_ (blk_below (g := gb423) (o := .cells #[.int .i64 (wrap64 (rd l0 a1)), .int .i64 0, .string t433] 84 (0, 0)) (by (with_reducible repeat (first | refine blk_drewN ?_ _ | refine blk_drew ?_ | refine blk_alloc ?_ _)); refine blk_put (cs := #[.int .i64 (wrap64 (rd l0 a1)), .int .i64 0, .string (⟨#[]⟩ : ByteArray)]) ?_ 2 _ rfl; (with_reducible repeat (first | refine blk_drewN ?_ _ | refine blk_drew ?_ | refine blk_alloc ?_ _)); exact BK423.out) hb); have n2_ := mk_ (below_step (Short.hB HB) hb); clear BK420 BK423 HB; revert n0_ n1_ n2_; intro BK420 BK423 HB; (try clear hb); (try clear hb2); (try clear hk); (try clear hi); obtain ⟨hcz105_0, hcz105_1, hcz105_2, hfz105_0, hfz105_1, hfz105_2⟩ := Short.c3 BK420.out))
 refine bodyPost_ret (results_ctt rfl _ _ gb420 84 #[.int .i64 0, .int .i64 0, .string (⟨#[]⟩ : ByteArray)] (0, 0) _ rfl (by (with_reducible repeat (first | refine blk_drewN ?_ _ | refine blk_drew ?_ | refine blk_alloc ?_ _)); refine blk_put (cs := #[.int .i64 0, .int .i64 0, .string (⟨#[]⟩ : ByteArray)]) ?_ 2 _ rfl; (with_reducible repeat (first | refine blk_drewN ?_ _ | refine blk_drew ?_ | refine blk_alloc ?_ _)); refine blk_put (cs := #[.int .i64 0, .int .i64 0, .string (⟨#[]⟩ : ByteArray)]) ?_ 1 _ rfl; (with_reducible repeat (first | refine blk_drewN ?_ _ | refine blk_drew ?_ | refine blk_alloc ?_ _)); refine blk_put (cs := #[.int .i64 0, .int .i64 0, .string (⟨#[]⟩ : ByteArray)]) ?_ 0 _ rfl; (with_reducible repeat (first | refine blk_drewN ?_ _ | refine blk_drew ?_ | refine blk_alloc ?_ _)); exact BK420.out) Try.underlying84 rfl z0) rfl ?_
 exact ⟨q0, Short.hB HB⟩
end Go.Proofs.Ytjnjfogfpmeacaa.PAll
end
