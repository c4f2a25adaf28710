-- Put together by a program of this session (wip/slice2.py) out of the seat's texts.
import Derived.Test.YtjnjfogfpmeacaaZOUp1

set_option maxHeartbeats 8000000
set_option maxRecDepth 100000
open Go.Proofs.YtjnjfogfpmeacaaW Go.Proofs.Ytjnjfogfpmeacaa
section
namespace Go.Proofs.Ytjnjfogfpmeacaa.PAll
open Go.RowKit PrintWords PrintLast PrintMore ZipT PrintWords.Kd PrintMore.Kd
attribute [local go_sem] max2_int min2_int max_two min_two max_three min_three max_four min_four   -- for this text's walks alone
set_option linter.unusedVariables false
set_option linter.unusedSimpArgs false
def op_whole.f (k : Nat) (a0 : Int) (a1_0 : Int) (a1_1 : Int) (l1_2 : List Int) (a1_3 : Int) (a1_4 : Int) (a1_5 : Int) (a1_6 : Int) (a1_7 : Int) (a1_8 : ByteArray) (a1_9 : Int) (l1_10 : List (S84)) (l1_11 : List (S25)) : Option (Bool) := if a1_0 ≥ 0 then (if a1_0 < a0 then (if a1_1 ≥ 1 then (if a1_1 ≤ 1073741824 then (if (l1_2.length : Int) = a0 then ((dot_Check.f k l1_2).bind fun t283 => (if t283 = 0 then (if 0 ≤ a1_0 then (if a1_0 < (l1_2.length : Int) then (if (rd l1_2 a1_0) = (wrap64 (a1_1 - 1)) then ((hlc_Check.f a1_3 a1_4 a1_5).bind fun t285 => (if t285 = 0 then (some (a1_5 == a1_0)) else (some false))) else (some false)) else (none)) else (none)) else (some false))) else (some false)) else (some false)) else (some false)) else (some false)) else (some false)
def op_whole.T2 : Bool × List (List Nat × List Nat) := (true, [([], []), ([0], [0]), ([1], [1]), ([2], [2]), ([3], [3]), ([4, 3], [3, 4]), ([3], [3]), ([5, 6, 3], [3, 5, 6]), ([3, 7], [3, 7]), ([8, 3], [8]), ([9], [9]), ([10, 9], [9, 10]), ([11, 9], [9, 11]), ([9, 12], [9, 12]), ([13, 9], [13]), ([14], [14]), ([15, 14], [14, 15]), ([16, 14], [14, 16]), ([14, 17], [14, 17]), ([18, 14], [18]), ([19], [19]), ([20, 19], [19, 20]), ([21, 19], [19, 21]), ([19], [19]), ([22, 23, 19], [19, 22, 23]), ([19, 24], [19, 24]), ([25, 19], [25]), ([26], [26]), ([27, 26], [26, 27]), ([28, 26, 26], [26, 28]), ([29, 26], [26, 29]), ([26, 30], [26, 30]), ([31, 29], [31]), ([32], [32]), ([33, 32], [32, 33]), ([32], [32]), ([35, 32], [32, 35]), ([34, 36, 32], [32, 34, 36]), ([37, 32], [32, 37]), ([32], [32]), ([39, 32], [32, 39]), ([40, 32], [32, 40]), ([38, 41, 32], [32, 38, 41]), ([32, 42], [32, 42]), ([43, 32], [43]), ([44], [44]), ([45, 44], [44, 45]), ([46, 44, 44], [44, 46]), ([47, 44], [44, 47]), ([44, 48], [44, 48]), ([49, 47], [49]), ([50], [50]), ([51, 50], [50, 51]), ([52, 50], [50, 52]), ([50], [50]), ([54, 50], [50, 54]), ([53, 55, 50], [50, 53, 55]), ([50, 56], [50, 56]), ([57, 50, 0, 1, 2, 3, 4, 5, 6, 7, 8, 9, 10, 11, 12, 13, 14, 15, 16, 17, 18, 19, 20, 21, 22, 23, 24, 25, 26, 27, 28, 29, 30, 31, 32, 33, 34, 35, 36, 37, 38, 39, 40, 41, 42, 43, 44, 45, 46, 47, 48, 49, 50, 51, 52, 53, 54, 55, 56, 57], [57])])
def op_whole.B2 : List Nat := [0, 1, 3, 7, 15, 31, 15, 127, 255, 511, 1023, 2047, 4095, 8191, 16383, 32767, 65535, 131071, 262143, 524287, 1048575, 2097151, 4194303, 1048575, 16777215, 33554431, 67108863, 134217727, 268435455, 536870911, 1073741823, 2147483647, 4294967295, 8589934591, 17179869183, 8589934591, 42949672959, 137438953471, 274877906943, 8589934591, 558345748479, 1657857376255, 4398046511103, 8796093022207, 17592186044415, 35184372088831, 70368744177663, 140737488355327, 281474976710655, 562949953421311, 1125899906842623, 2251799813685247, 4503599627370495, 9007199254740991, 2251799813685247, 20266198323167231, 72057594037927935, 144115188075855871, 288230376151711743]
theorem op_whole.tab2 : rtab .any (opsOf Try.f73 2) = op_whole.T2 := by kernel_rfl
theorem op_whole.bits2 : waitsOk op_whole.T2.2 op_whole.B2 = true := by kernel_rfl
theorem op_whole.calls (k : Nat) (a0 : Int) (a1_0 : Int) (a1_1 : Int) (A1_2 : Option Addr) (c1_2 : Nat) (l1_2 : List Int) (a1_3 : Int) (a1_4 : Int) (a1_5 : Int) (a1_6 : Int) (a1_7 : Int) (a1_8 : ByteArray) (a1_9 : Int) (A1_10 : Option Addr) (c1_10 : Nat) (l1_10 : List (S84)) (A1_11 : Option Addr) (c1_11 : Nat) (l1_11 : List (S25)) (r : Bool) (w : World) (hr1_2 : Kd.C (Kd.int .i64) w A1_2 l1_2.length l1_2) (hc1_2 : l1_2.length ≤ c1_2) (hr1_10 : Kd.C k84 w A1_10 l1_10.length l1_10) (hc1_10 : l1_10.length ≤ c1_10) (hr1_11 : Kd.C k25 w A1_11 l1_11.length l1_11) (hc1_11 : l1_11.length ≤ c1_11) (h : op_whole.f k a0 a1_0 a1_1 l1_2 a1_3 a1_4 a1_5 a1_6 a1_7 a1_8 a1_9 l1_10 l1_11 = some r) :
  Calls Try.prog 73 #[.int .i64 a0, .agg #[.int .i64 a1_0, .int .i64 a1_1, .slice A1_2 l1_2.length c1_2, .int .i64 a1_3, .int .i64 a1_4, .int .i64 a1_5, .int .i64 a1_6, .int .i64 a1_7, .string a1_8, .int .i64 a1_9, .slice A1_10 l1_10.length c1_10, .slice A1_11 l1_11.length c1_11]] w fun e w' => e = .returned (.bool r) ∧ Below w.heap.size w w' := by
 have hu32 := Try.underlying32
 have hu25 := Try.underlying25
 have hu28 := Try.underlying28
 have HR1_2 := mk_ hr1_2
 have HC1_2 := mk_ hc1_2
 clear hr1_2 hc1_2
 have HR1_10 := mk_ hr1_10
 have HC1_10 := mk_ hc1_10
 clear hr1_10 hc1_10
 have HR1_11 := mk_ hr1_11
 have HC1_11 := mk_ hc1_11
 clear hr1_11 hc1_11
 have HB := mk_ (Below.refl w.heap.size w)
 have H : (if a1_0 ≥ 0 then (if a1_0 < a0 then (if a1_1 ≥ 1 then (if a1_1 ≤ 1073741824 then (if (l1_2.length : Int) = a0 then ((dot_Check.f k l1_2).bind fun t283 => (if t283 = 0 then (if 0 ≤ a1_0 then (if a1_0 < (l1_2.length : Int) then (if (rd l1_2 a1_0) = (wrap64 (a1_1 - 1)) then ((hlc_Check.f a1_3 a1_4 a1_5).bind fun t285 => (if t285 = 0 then (some (a1_5 == a1_0)) else (some false))) else (some false)) else (none)) else (none)) else (some false))) else (some false)) else (some false)) else (some false)) else (some false)) else (some false)) = some r := h
 clear h
 by_cases c3 : a1_0 ≥ 0
 rotate_left
 ·
  rw [if_neg c3] at H
  have c3b0 : decide (0 ≤ a1_0) = false := decide_eq_false c3
  clear c3
  obtain rfl := Option.some.inj H
  go_enter Try.func73, Try.ntmps73
  try go_wp2_with (first | ((with_reducible refine gate_dst (N := 3) rfl ?_); (try (refine gate_guard (by rfl) ?_; dsimp only)); refine box_event ?hg (N := 3) ?hd (cs := #[.int .i64 a1_0, .int .i64 a1_1, .slice A1_2 l1_2.length c1_2, .int .i64 a1_3, .int .i64 a1_4, .int .i64 a1_5, .int .i64 a1_6, .int .i64 a1_7, .string a1_8, .int .i64 a1_9, .slice A1_10 l1_10.length c1_10, .slice A1_11 l1_11.length c1_11]) (t := 32) ?hr ?_; (case hd => rfl); (case hg => rfl); (case hr => first | (go_simp; done) | (go_simp; rfl)); intro gb281 hg w73 hbox hb; have n0_ := mk_ (below_step (Short.hB HB) hb); have n1_ := mk_ (hbox); have n2_ := mk_ ((by rw [hg]; exact (below_size (Short.hB HB)) : w.heap.size ≤ gb281)); have n3_ := mk_ ((by rw [hg]; exact (below_size (Short.hB HB)) : w.heap.size ≤ gb281)); clear HB; revert n0_ n1_ n2_ n3_; intro HB BK281 GW281 GE281; clear hb hbox hg; have hcz74_0 := blk_cell BK281.out; have hfz74_0 := blk_frozen BK281.out) | ((with_reducible refine gate_dst (N := 5) rfl ?_); (try (refine gate_guard (by rfl) ?_; dsimp only)); refine box_event ?hg (N := 5) ?hd (cs := #[.int .i64 0, .int .i64 0]) (t := 25) ?hr ?_; (case hd => rfl); (case hg => rfl); (case hr => first | (go_simp; done) | (go_simp; rfl)); intro gb282 hg w75 hbox hb; have n0_ := mk_ (bB_ BK281 hb); have n1_ := mk_ (below_step (Short.hB HB) hb); have n2_ := mk_ (hbox); have n3_ := mk_ ((by rw [hg]; exact (below_size (Short.hB HB)) : w.heap.size ≤ gb282)); have n4_ := mk_ ((by rw [hg]; exact (below_size (Short.hB HB)) : w.heap.size ≤ gb282)); have n5_ := mk_ ((by rw [hg]; exact Nat.ne_of_lt (blk_lt (Short.bK BK281)) : gb281 ≠ gb282)); have n6_ := mk_ ((by rw [hg]; exact Nat.ne_of_gt (blk_lt (Short.bK BK281)) : gb282 ≠ gb281)); clear BK281 HB; revert n0_ n1_ n2_ n3_ n4_ n5_ n6_; intro BK281 HB BK282 GW282 GE282 NB281_282 NB282_281; clear hb hbox hg; have hnb76 := NB282_281.out; have hnc76 := NB281_282.out; obtain ⟨hcz77_0, hcz77_1, hfz77_0, hfz77_1⟩ := Short.c2 BK282.out))
  have n0_ : Aside0 (((w75.setCell ⟨gb282, 0, none⟩ (.int .i64 a1_0)).setCell ⟨gb282, 1, none⟩ (.int .i64 a1_1)).heap[gb281]? = some (.cells #[.int .i64 a1_0, .int .i64 a1_1, .slice A1_2 l1_2.length c1_2, .int .i64 a1_3, .int .i64 a1_4, .int .i64 a1_5, .int .i64 a1_6, .int .i64 a1_7, .string a1_8, .int .i64 a1_9, .slice A1_10 l1_10.length c1_10, .slice A1_11 l1_11.length c1_11] 32 (0, 0))) := ⟨by (with_reducible repeat (first | refine blk_drewN ?_ _ | refine blk_drew ?_ | refine blk_alloc ?_ _)); refine blk_far ?_ NB281_282.out _; (with_reducible repeat (first | refine blk_drewN ?_ _ | refine blk_drew ?_ | refine blk_alloc ?_ _)); refine blk_far ?_ NB281_282.out _; (with_reducible repeat (first | refine blk_drewN ?_ _ | refine blk_drew ?_ | refine blk_alloc ?_ _)); exact BK281.out⟩
  have n1_ : Aside0 (((w75.setCell ⟨gb282, 0, none⟩ (.int .i64 a1_0)).setCell ⟨gb282, 1, none⟩ (.int .i64 a1_1)).heap[gb282]? = some (.cells #[.int .i64 a1_0, .int .i64 a1_1] 25 (0, 0))) := ⟨by (with_reducible repeat (first | refine blk_drewN ?_ _ | refine blk_drew ?_ | refine blk_alloc ?_ _)); refine blk_put (cs := #[.int .i64 a1_0, .int .i64 0]) ?_ 1 _ rfl; (with_reducible repeat (first | refine blk_drewN ?_ _ | refine blk_drew ?_ | refine blk_alloc ?_ _)); refine blk_put (cs := #[.int .i64 0, .int .i64 0]) ?_ 0 _ rfl; (with_reducible repeat (first | refine blk_drewN ?_ _ | refine blk_drew ?_ | refine blk_alloc ?_ _)); exact BK282.out⟩
  have n2_ : Aside0 (Below w.heap.size w ((w75.setCell ⟨gb282, 0, none⟩ (.int .i64 a1_0)).setCell ⟨gb282, 1, none⟩ (.int .i64 a1_1))) := ⟨Short.hB HB⟩
  (try clear BK281)
  (try clear BK282)
  (try clear HB)
  generalize ((w75.setCell ⟨gb282, 0, none⟩ (.int .i64 a1_0)).setCell ⟨gb282, 1, none⟩ (.int .i64 a1_1)) = w78 at n0_ n1_ n2_ ⊢
  revert n0_ n1_ n2_
  intro BK281 BK282 HB
  have n0_ := mk_ (blk_drew BK281.out)
  have n1_ := mk_ (blk_drew BK282.out)
  have n2_ := mk_ (below_drew1 HB.out)
  clear BK281 BK282 HB
  revert n0_ n1_ n2_
  intro BK281 BK282 HB
  refine start_ (n := 59) (S := fun w' => w'.cell? ⟨gb282, 0, none⟩ = some (.int .i64 a1_0) ∧ w'.cell? ⟨gb282, 1, none⟩ = some (.int .i64 a1_1)) (ds := []) (Steps.Bs 59 0) z0_ rfl rfl ⟨kc_ BK282 0, kc_ BK282 1⟩ (fun hHeld => ?_); refine with_tabW op_whole.tab2 op_whole.bits2 (fun HT_ HW_ => ?_)
  generalize w78.drew = w79 at BK281 BK282 HB hHeld ⊢
  refine tI HT_ 0 8 59 1 ?_
  refine tT HT_ HW_ hHeld 1 9 59 3 ?_
  refine tI HT_ 2 10 59 7 ?_
  refine tI HT_ 3 11 59 15 ?_
  refine tR HT_ 4 12 59 31 ?_
  refine tR HT_ 5 13 59 63 ?_
  refine tR HT_ 6 14 59 127 ?_
  refine tR HT_ 7 15 59 255 ?_
  refine tI HT_ 8 16 59 511 ?_
  refine tI HT_ 9 17 59 1023 ?_
  refine tR HT_ 10 18 59 2047 ?_
  refine tR HT_ 11 19 59 4095 ?_
  refine tR HT_ 12 20 59 8191 ?_
  refine tI HT_ 13 21 59 16383 ?_
  refine tI HT_ 14 22 59 32767 ?_
  refine tR HT_ 15 23 59 65535 ?_
  refine tR HT_ 16 24 59 131071 ?_
  refine tR HT_ 17 25 59 262143 ?_
  refine tI HT_ 18 26 59 524287 ?_
  refine tI HT_ 19 27 59 1048575 ?_
  refine tR HT_ 20 28 59 2097151 ?_
  refine tR HT_ 21 29 59 4194303 ?_
  refine tR HT_ 22 30 59 8388607 ?_
  refine tR HT_ 23 31 59 16777215 ?_
  refine tR HT_ 24 32 59 33554431 ?_
  refine tI HT_ 25 33 59 67108863 ?_
  refine tI HT_ 26 34 59 134217727 ?_
  refine tR HT_ 27 35 59 268435455 ?_
  refine tR HT_ 28 36 59 536870911 ?_
  refine tR HT_ 29 37 59 1073741823 ?_
  refine tR HT_ 30 38 59 2147483647 ?_
  refine tI HT_ 31 39 59 4294967295 ?_
  refine tI HT_ 32 40 59 8589934591 ?_
  refine tR HT_ 33 41 59 17179869183 ?_
  refine tR HT_ 34 42 59 34359738367 ?_
  refine tR HT_ 35 43 59 68719476735 ?_
  refine tR HT_ 36 44 59 137438953471 ?_
  refine tR HT_ 37 45 59 274877906943 ?_
  refine tR HT_ 38 46 59 549755813887 ?_
  refine tR HT_ 39 47 59 1099511627775 ?_
  refine tR HT_ 40 48 59 2199023255551 ?_
  refine tR HT_ 41 49 59 4398046511103 ?_
  refine tR HT_ 42 50 59 8796093022207 ?_
  refine tI HT_ 43 51 59 17592186044415 ?_
  refine tI HT_ 44 52 59 35184372088831 ?_
  refine tR HT_ 45 53 59 70368744177663 ?_
  refine tR HT_ 46 54 59 140737488355327 ?_
  refine tR HT_ 47 55 59 281474976710655 ?_
  refine tR HT_ 48 56 59 562949953421311 ?_
  refine tI HT_ 49 57 59 1125899906842623 ?_
  refine tI HT_ 50 58 59 2251799813685247 ?_
  refine tR HT_ 51 59 59 4503599627370495 ?_
  refine tR HT_ 52 60 59 9007199254740991 ?_
  refine tR HT_ 53 61 59 18014398509481983 ?_
  refine tR HT_ 54 62 59 36028797018963967 ?_
  refine tR HT_ 55 63 59 72057594037927935 ?_
  refine tR HT_ 56 64 59 144115188075855871 ?_
  refine tI HT_ 57 65 59 288230376151711743 ?_
  refine tI HT_ 58 4 59 576460752303423487 ?_
  refine done_ (done_of HT_.out z0_) ?_
  try go_wp2
  go_ret
  exact ⟨q0, Short.hB HB⟩
 rw [if_pos c3] at H
 have c3b0 : decide (0 ≤ a1_0) = true := decide_eq_true c3
 clear c3
 by_cases c4 : a1_0 < a0
 rotate_left
 ·
  rw [if_neg c4] at H
  have c4b0 : decide (a1_0 < a0) = false := decide_eq_false c4
  clear c4
  obtain rfl := Option.some.inj H
  go_enter Try.func73, Try.ntmps73
  try go_wp2_with (first | ((with_reducible refine gate_dst (N := 3) rfl ?_); (try (refine gate_guard (by rfl) ?_; dsimp only)); refine box_event ?hg (N := 3) ?hd (cs := #[.int .i64 a1_0, .int .i64 a1_1, .slice A1_2 l1_2.length c1_2, .int .i64 a1_3, .int .i64 a1_4, .int .i64 a1_5, .int .i64 a1_6, .int .i64 a1_7, .string a1_8, .int .i64 a1_9, .slice A1_10 l1_10.length c1_10, .slice A1_11 l1_11.length c1_11]) (t := 32) ?hr ?_; (case hd => rfl); (case hg => rfl); (case hr => first | (go_simp; done) | (go_simp; rfl)); intro gb281 hg w66 hbox hb; have n0_ := mk_ (below_step (Short.hB HB) hb); have n1_ := mk_ (hbox); have n2_ := mk_ ((by rw [hg]; exact (below_size (Short.hB HB)) : w.heap.size ≤ gb281)); have n3_ := mk_ ((by rw [hg]; exact (below_size (Short.hB HB)) : w.heap.size ≤ gb281)); clear HB; revert n0_ n1_ n2_ n3_; intro HB BK281 GW281 GE281; clear hb hbox hg; have hcz67_0 := blk_cell BK281.out; have hfz67_0 := blk_frozen BK281.out) | ((with_reducible refine gate_dst (N := 5) rfl ?_); (try (refine gate_guard (by rfl) ?_; dsimp only)); refine box_event ?hg (N := 5) ?hd (cs := #[.int .i64 0, .int .i64 0]) (t := 25) ?hr ?_; (case hd => rfl); (case hg => rfl); (case hr => first | (go_simp; done) | (go_simp; rfl)); intro gb282 hg w68 hbox hb; have n0_ := mk_ (bB_ BK281 hb); have n1_ := mk_ (below_step (Short.hB HB) hb); have n2_ := mk_ (hbox); have n3_ := mk_ ((by rw [hg]; exact (below_size (Short.hB HB)) : w.heap.size ≤ gb282)); have n4_ := mk_ ((by rw [hg]; exact (below_size (Short.hB HB)) : w.heap.size ≤ gb282)); have n5_ := mk_ ((by rw [hg]; exact Nat.ne_of_lt (blk_lt (Short.bK BK281)) : gb281 ≠ gb282)); have n6_ := mk_ ((by rw [hg]; exact Nat.ne_of_gt (blk_lt (Short.bK BK281)) : gb282 ≠ gb281)); clear BK281 HB; revert n0_ n1_ n2_ n3_ n4_ n5_ n6_; intro BK281 HB BK282 GW282 GE282 NB281_282 NB282_281; clear hb hbox hg; have hnb69 := NB282_281.out; have hnc69 := NB281_282.out; obtain ⟨hcz70_0, hcz70_1, hfz70_0, hfz70_1⟩ := Short.c2 BK282.out))
  have n0_ : Aside0 (((w68.setCell ⟨gb282, 0, none⟩ (.int .i64 a1_0)).setCell ⟨gb282, 1, none⟩ (.int .i64 a1_1)).heap[gb281]? = some (.cells #[.int .i64 a1_0, .int .i64 a1_1, .slice A1_2 l1_2.length c1_2, .int .i64 a1_3, .int .i64 a1_4, .int .i64 a1_5, .int .i64 a1_6, .int .i64 a1_7, .string a1_8, .int .i64 a1_9, .slice A1_10 l1_10.length c1_10, .slice A1_11 l1_11.length c1_11] 32 (0, 0))) := ⟨by (with_reducible repeat (first | refine blk_drewN ?_ _ | refine blk_drew ?_ | refine blk_alloc ?_ _)); refine blk_far ?_ NB281_282.out _; (with_reducible repeat (first | refine blk_drewN ?_ _ | refine blk_drew ?_ | refine blk_alloc ?_ _)); refine blk_far ?_ NB281_282.out _; (with_reducible repeat (first | refine blk_drewN ?_ _ | refine blk_drew ?_ | refine blk_alloc ?_ _)); exact BK281.out⟩
  have n1_ : Aside0 (((w68.setCell ⟨gb282, 0, none⟩ (.int .i64 a1_0)).setCell ⟨gb282, 1, none⟩ (.int .i64 a1_1)).heap[gb282]? = some (.cells #[.int .i64 a1_0, .int .i64 a1_1] 25 (0, 0))) := ⟨by (with_reducible repeat (first | refine blk_drewN ?_ _ | refine blk_drew ?_ | refine blk_alloc ?_ _)); refine blk_put (cs := #[.int .i64 a1_0, .int .i64 0]) ?_ 1 _ rfl; (with_reducible repeat (first | refine blk_drewN ?_ _ | refine blk_drew ?_ | refine blk_alloc ?_ _)); refine blk_put (cs := #[.int .i64 0, .int .i64 0]) ?_ 0 _ rfl; (with_reducible repeat (first | refine blk_drewN ?_ _ | refine blk_drew ?_ | refine blk_alloc ?_ _)); exact BK282.out⟩
  have n2_ : Aside0 (Below w.heap.size w ((w68.setCell ⟨gb282, 0, none⟩ (.int .i64 a1_0)).setCell ⟨gb282, 1, none⟩ (.int .i64 a1_1))) := ⟨Short.hB HB⟩
  (try clear BK281)
  (try clear BK282)
  (try clear HB)
  generalize ((w68.setCell ⟨gb282, 0, none⟩ (.int .i64 a1_0)).setCell ⟨gb282, 1, none⟩ (.int .i64 a1_1)) = w71 at n0_ n1_ n2_ ⊢
  revert n0_ n1_ n2_
  intro BK281 BK282 HB
  have n0_ := mk_ (blk_drew BK281.out)
  have n1_ := mk_ (blk_drew BK282.out)
  have n2_ := mk_ (below_drew1 HB.out)
  clear BK281 BK282 HB
  revert n0_ n1_ n2_
  intro BK281 BK282 HB
  refine start_ (n := 59) (S := fun w' => w'.cell? ⟨gb282, 0, none⟩ = some (.int .i64 a1_0) ∧ w'.cell? ⟨gb282, 1, none⟩ = some (.int .i64 a1_1)) (ds := []) (Steps.Bs 59 0) z0_ rfl rfl ⟨kc_ BK282 0, kc_ BK282 1⟩ (fun hHeld => ?_); refine with_tabW op_whole.tab2 op_whole.bits2 (fun HT_ HW_ => ?_)
  generalize w71.drew = w72 at BK281 BK282 HB hHeld ⊢
  refine tI HT_ 0 8 59 1 ?_
  refine tT HT_ HW_ hHeld 1 9 59 3 ?_
  refine tI HT_ 2 10 59 7 ?_
  refine tI HT_ 3 11 59 15 ?_
  refine tI HT_ 4 12 59 31 ?_
  refine tI HT_ 6 14 59 95 ?_
  refine tT HT_ HW_ hHeld 5 13 59 127 ?_
  refine tI HT_ 7 15 59 255 ?_
  refine tI HT_ 8 16 59 511 ?_
  refine tI HT_ 9 17 59 1023 ?_
  refine tR HT_ 10 18 59 2047 ?_
  refine tR HT_ 11 19 59 4095 ?_
  refine tR HT_ 12 20 59 8191 ?_
  refine tI HT_ 13 21 59 16383 ?_
  refine tI HT_ 14 22 59 32767 ?_
  refine tR HT_ 15 23 59 65535 ?_
  refine tR HT_ 16 24 59 131071 ?_
  refine tR HT_ 17 25 59 262143 ?_
  refine tI HT_ 18 26 59 524287 ?_
  refine tI HT_ 19 27 59 1048575 ?_
  refine tR HT_ 20 28 59 2097151 ?_
  refine tR HT_ 21 29 59 4194303 ?_
  refine tR HT_ 22 30 59 8388607 ?_
  refine tR HT_ 23 31 59 16777215 ?_
  refine tR HT_ 24 32 59 33554431 ?_
  refine tI HT_ 25 33 59 67108863 ?_
  refine tI HT_ 26 34 59 134217727 ?_
  refine tR HT_ 27 35 59 268435455 ?_
  refine tR HT_ 28 36 59 536870911 ?_
  refine tR HT_ 29 37 59 1073741823 ?_
  refine tR HT_ 30 38 59 2147483647 ?_
  refine tI HT_ 31 39 59 4294967295 ?_
  refine tI HT_ 32 40 59 8589934591 ?_
  refine tR HT_ 33 41 59 17179869183 ?_
  refine tR HT_ 34 42 59 34359738367 ?_
  refine tR HT_ 35 43 59 68719476735 ?_
  refine tR HT_ 36 44 59 137438953471 ?_
  refine tR HT_ 37 45 59 274877906943 ?_
  refine tR HT_ 38 46 59 549755813887 ?_
  refine tR HT_ 39 47 59 1099511627775 ?_
  refine tR HT_ 40 48 59 2199023255551 ?_
  refine tR HT_ 41 49 59 4398046511103 ?_
  refine tR HT_ 42 50 59 8796093022207 ?_
  refine tI HT_ 43 51 59 17592186044415 ?_
  refine tI HT_ 44 52 59 35184372088831 ?_
  refine tR HT_ 45 53 59 70368744177663 ?_
  refine tR HT_ 46 54 59 140737488355327 ?_
  refine tR HT_ 47 55 59 281474976710655 ?_
  refine tR HT_ 48 56 59 562949953421311 ?_
  refine tI HT_ 49 57 59 1125899906842623 ?_
  refine tI HT_ 50 58 59 2251799813685247 ?_
  refine tR HT_ 51 59 59 4503599627370495 ?_
  refine tR HT_ 52 60 59 9007199254740991 ?_
  refine tR HT_ 53 61 59 18014398509481983 ?_
  refine tR HT_ 54 62 59 36028797018963967 ?_
  refine tR HT_ 55 63 59 72057594037927935 ?_
  refine tR HT_ 56 64 59 144115188075855871 ?_
  refine tI HT_ 57 65 59 288230376151711743 ?_
  refine tI HT_ 58 4 59 576460752303423487 ?_
  refine done_ (done_of HT_.out z0_) ?_
  try go_wp2
  go_ret
  exact ⟨q0, Short.hB HB⟩
 rw [if_pos c4] at H
 have c4b0 : decide (a1_0 < a0) = true := decide_eq_true c4
 clear c4
 by_cases c5 : a1_1 ≥ 1
 rotate_left
 ·
  rw [if_neg c5] at H
  have c5b0 : decide (1 ≤ a1_1) = false := decide_eq_false c5
  clear c5
  obtain rfl := Option.some.inj H
  go_enter Try.func73, Try.ntmps73
  try go_wp2_with (first | ((with_reducible refine gate_dst (N := 3) rfl ?_); (try (refine gate_guard (by rfl) ?_; dsimp only)); refine box_event ?hg (N := 3) ?hd (cs := #[.int .i64 a1_0, .int .i64 a1_1, .slice A1_2 l1_2.length c1_2, .int .i64 a1_3, .int .i64 a1_4, .int .i64 a1_5, .int .i64 a1_6, .int .i64 a1_7, .string a1_8, .int .i64 a1_9, .slice A1_10 l1_10.length c1_10, .slice A1_11 l1_11.length c1_11]) (t := 32) ?hr ?_; (case hd => rfl); (case hg => rfl); (case hr => first | (go_simp; done) | (go_simp; rfl)); intro gb281 hg w59 hbox hb; have n0_ := mk_ (below_step (Short.hB HB) hb); have n1_ := mk_ (hbox); have n2_ := mk_ ((by rw [hg]; exact (below_size (Short.hB HB)) : w.heap.size ≤ gb281)); have n3_ := mk_ ((by rw [hg]; exact (below_size (Short.hB HB)) : w.heap.size ≤ gb281)); clear HB; revert n0_ n1_ n2_ n3_; intro HB BK281 GW281 GE281; clear hb hbox hg; have hcz60_0 := blk_cell BK281.out; have hfz60_0 := blk_frozen BK281.out) | ((with_reducible refine gate_dst (N := 5) rfl ?_); (try (refine gate_guard (by rfl) ?_; dsimp only)); refine box_event ?hg (N := 5) ?hd (cs := #[.int .i64 0, .int .i64 0]) (t := 25) ?hr ?_; (case hd => rfl); (case hg => rfl); (case hr => first | (go_simp; done) | (go_simp; rfl)); intro gb282 hg w61 hbox hb; have n0_ := mk_ (bB_ BK281 hb); have n1_ := mk_ (below_step (Short.hB HB) hb); have n2_ := mk_ (hbox); have n3_ := mk_ ((by rw [hg]; exact (below_size (Short.hB HB)) : w.heap.size ≤ gb282)); have n4_ := mk_ ((by rw [hg]; exact (below_size (Short.hB HB)) : w.heap.size ≤ gb282)); have n5_ := mk_ ((by rw [hg]; exact Nat.ne_of_lt (blk_lt (Short.bK BK281)) : gb281 ≠ gb282)); have n6_ := mk_ ((by rw [hg]; exact Nat.ne_of_gt (blk_lt (Short.bK BK281)) : gb282 ≠ gb281)); clear BK281 HB; revert n0_ n1_ n2_ n3_ n4_ n5_ n6_; intro BK281 HB BK282 GW282 GE282 NB281_282 NB282_281; clear hb hbox hg; have hnb62 := NB282_281.out; have hnc62 := NB281_282.out; obtain ⟨hcz63_0, hcz63_1, hfz63_0, hfz63_1⟩ := Short.c2 BK282.out))
  have n0_ : Aside0 (((w61.setCell ⟨gb282, 0, none⟩ (.int .i64 a1_0)).setCell ⟨gb282, 1, none⟩ (.int .i64 a1_1)).heap[gb281]? = some (.cells #[.int .i64 a1_0, .int .i64 a1_1, .slice A1_2 l1_2.length c1_2, .int .i64 a1_3, .int .i64 a1_4, .int .i64 a1_5, .int .i64 a1_6, .int .i64 a1_7, .string a1_8, .int .i64 a1_9, .slice A1_10 l1_10.length c1_10, .slice A1_11 l1_11.length c1_11] 32 (0, 0))) := ⟨by (with_reducible repeat (first | refine blk_drewN ?_ _ | refine blk_drew ?_ | refine blk_alloc ?_ _)); refine blk_far ?_ NB281_282.out _; (with_reducible repeat (first | refine blk_drewN ?_ _ | refine blk_drew ?_ | refine blk_alloc ?_ _)); refine blk_far ?_ NB281_282.out _; (with_reducible repeat (first | refine blk_drewN ?_ _ | refine blk_drew ?_ | refine blk_alloc ?_ _)); exact BK281.out⟩
  have n1_ : Aside0 (((w61.setCell ⟨gb282, 0, none⟩ (.int .i64 a1_0)).setCell ⟨gb282, 1, none⟩ (.int .i64 a1_1)).heap[gb282]? = some (.cells #[.int .i64 a1_0, .int .i64 a1_1] 25 (0, 0))) := ⟨by (with_reducible repeat (first | refine blk_drewN ?_ _ | refine blk_drew ?_ | refine blk_alloc ?_ _)); refine blk_put (cs := #[.int .i64 a1_0, .int .i64 0]) ?_ 1 _ rfl; (with_reducible repeat (first | refine blk_drewN ?_ _ | refine blk_drew ?_ | refine blk_alloc ?_ _)); refine blk_put (cs := #[.int .i64 0, .int .i64 0]) ?_ 0 _ rfl; (with_reducible repeat (first | refine blk_drewN ?_ _ | refine blk_drew ?_ | refine blk_alloc ?_ _)); exact BK282.out⟩
  have n2_ : Aside0 (Below w.heap.size w ((w61.setCell ⟨gb282, 0, none⟩ (.int .i64 a1_0)).setCell ⟨gb282, 1, none⟩ (.int .i64 a1_1))) := ⟨Short.hB HB⟩
  (try clear BK281)
  (try clear BK282)
  (try clear HB)
  generalize ((w61.setCell ⟨gb282, 0, none⟩ (.int .i64 a1_0)).setCell ⟨gb282, 1, none⟩ (.int .i64 a1_1)) = w64 at n0_ n1_ n2_ ⊢
  revert n0_ n1_ n2_
  intro BK281 BK282 HB
  have n0_ := mk_ (blk_drew BK281.out)
  have n1_ := mk_ (blk_drew BK282.out)
  have n2_ := mk_ (below_drew1 HB.out)
  clear BK281 BK282 HB
  revert n0_ n1_ n2_
  intro BK281 BK282 HB
  refine start_ (n := 59) (S := fun w' => w'.cell? ⟨gb282, 0, none⟩ = some (.int .i64 a1_0) ∧ w'.cell? ⟨gb282, 1, none⟩ = some (.int .i64 a1_1)) (ds := []) (Steps.Bs 59 0) z0_ rfl rfl ⟨kc_ BK282 0, kc_ BK282 1⟩ (fun hHeld => ?_); refine with_tabW op_whole.tab2 op_whole.bits2 (fun HT_ HW_ => ?_)
  generalize w64.drew = w65 at BK281 BK282 HB hHeld ⊢
  refine tI HT_ 0 8 59 1 ?_
  refine tT HT_ HW_ hHeld 1 9 59 3 ?_
  refine tI HT_ 2 10 59 7 ?_
  refine tI HT_ 3 11 59 15 ?_
  refine tI HT_ 4 12 59 31 ?_
  refine tI HT_ 6 14 59 95 ?_
  refine tT HT_ HW_ hHeld 5 13 59 127 ?_
  refine tI HT_ 7 15 59 255 ?_
  refine tI HT_ 8 16 59 511 ?_
  refine tI HT_ 9 17 59 1023 ?_
  refine tI HT_ 10 18 59 2047 ?_
  refine tT HT_ HW_ hHeld 11 19 59 4095 ?_
  refine tI HT_ 12 20 59 8191 ?_
  refine tI HT_ 13 21 59 16383 ?_
  refine tI HT_ 14 22 59 32767 ?_
  refine tR HT_ 15 23 59 65535 ?_
  refine tR HT_ 16 24 59 131071 ?_
  refine tR HT_ 17 25 59 262143 ?_
  refine tI HT_ 18 26 59 524287 ?_
  refine tI HT_ 19 27 59 1048575 ?_
  refine tR HT_ 20 28 59 2097151 ?_
  refine tR HT_ 21 29 59 4194303 ?_
  refine tR HT_ 22 30 59 8388607 ?_
  refine tR HT_ 23 31 59 16777215 ?_
  refine tR HT_ 24 32 59 33554431 ?_
  refine tI HT_ 25 33 59 67108863 ?_
  refine tI HT_ 26 34 59 134217727 ?_
  refine tR HT_ 27 35 59 268435455 ?_
  refine tR HT_ 28 36 59 536870911 ?_
  refine tR HT_ 29 37 59 1073741823 ?_
  refine tR HT_ 30 38 59 2147483647 ?_
  refine tI HT_ 31 39 59 4294967295 ?_
  refine tI HT_ 32 40 59 8589934591 ?_
  refine tR HT_ 33 41 59 17179869183 ?_
  refine tR HT_ 34 42 59 34359738367 ?_
  refine tR HT_ 35 43 59 68719476735 ?_
  refine tR HT_ 36 44 59 137438953471 ?_
  refine tR HT_ 37 45 59 274877906943 ?_
  refine tR HT_ 38 46 59 549755813887 ?_
  refine tR HT_ 39 47 59 1099511627775 ?_
  refine tR HT_ 40 48 59 2199023255551 ?_
  refine tR HT_ 41 49 59 4398046511103 ?_
  refine tR HT_ 42 50 59 8796093022207 ?_
  refine tI HT_ 43 51 59 17592186044415 ?_
  refine tI HT_ 44 52 59 35184372088831 ?_
  refine tR HT_ 45 53 59 70368744177663 ?_
  refine tR HT_ 46 54 59 140737488355327 ?_
  refine tR HT_ 47 55 59 281474976710655 ?_
  refine tR HT_ 48 56 59 562949953421311 ?_
  refine tI HT_ 49 57 59 1125899906842623 ?_
  refine tI HT_ 50 58 59 2251799813685247 ?_
  refine tR HT_ 51 59 59 4503599627370495 ?_
  refine tR HT_ 52 60 59 9007199254740991 ?_
  refine tR HT_ 53 61 59 18014398509481983 ?_
  refine tR HT_ 54 62 59 36028797018963967 ?_
  refine tR HT_ 55 63 59 72057594037927935 ?_
  refine tR HT_ 56 64 59 144115188075855871 ?_
  refine tI HT_ 57 65 59 288230376151711743 ?_
  refine tI HT_ 58 4 59 576460752303423487 ?_
  refine done_ (done_of HT_.out z0_) ?_
  try go_wp2
  go_ret
  exact ⟨q0, Short.hB HB⟩
 rw [if_pos c5] at H
 have c5b0 : decide (1 ≤ a1_1) = true := decide_eq_true c5
 clear c5
 by_cases c6 : a1_1 ≤ 1073741824
 rotate_left
 ·
  rw [if_neg c6] at H
  have c6b0 : decide (a1_1 ≤ 1073741824) = false := decide_eq_false c6
  clear c6
  obtain rfl := Option.some.inj H
  go_enter Try.func73, Try.ntmps73
  try go_wp2_with (first | ((with_reducible refine gate_dst (N := 3) rfl ?_); (try (refine gate_guard (by rfl) ?_; dsimp only)); refine box_event ?hg (N := 3) ?hd (cs := #[.int .i64 a1_0, .int .i64 a1_1, .slice A1_2 l1_2.length c1_2, .int .i64 a1_3, .int .i64 a1_4, .int .i64 a1_5, .int .i64 a1_6, .int .i64 a1_7, .string a1_8, .int .i64 a1_9, .slice A1_10 l1_10.length c1_10, .slice A1_11 l1_11.length c1_11]) (t := 32) ?hr ?_; (case hd => rfl); (case hg => rfl); (case hr => first | (go_simp; done) | (go_simp; rfl)); intro gb281 hg w52 hbox hb; have n0_ := mk_ (below_step (Short.hB HB) hb); have n1_ := mk_ (hbox); have n2_ := mk_ ((by rw [hg]; exact (below_size (Short.hB HB)) : w.heap.size ≤ gb281)); have n3_ := mk_ ((by rw [hg]; exact (below_size (Short.hB HB)) : w.heap.size ≤ gb281)); clear HB; revert n0_ n1_ n2_ n3_; intro HB BK281 GW281 GE281; clear hb hbox hg; have hcz53_0 := blk_cell BK281.out; have hfz53_0 := blk_frozen BK281.out) | ((with_reducible refine gate_dst (N := 5) rfl ?_); (try (refine gate_guard (by rfl) ?_; dsimp only)); refine box_event ?hg (N := 5) ?hd (cs := #[.int .i64 0, .int .i64 0]) (t := 25) ?hr ?_; (case hd => rfl); (case hg => rfl); (case hr => first | (go_simp; done) | (go_simp; rfl)); intro gb282 hg w54 hbox hb; have n0_ := mk_ (bB_ BK281 hb); have n1_ := mk_ (below_step (Short.hB HB) hb); have n2_ := mk_ (hbox); have n3_ := mk_ ((by rw [hg]; exact (below_size (Short.hB HB)) : w.heap.size ≤ gb282)); have n4_ := mk_ ((by rw [hg]; exact (below_size (Short.hB HB)) : w.heap.size ≤ gb282)); have n5_ := mk_ ((by rw [hg]; exact Nat.ne_of_lt (blk_lt (Short.bK BK281)) : gb281 ≠ gb282)); have n6_ := mk_ ((by rw [hg]; exact Nat.ne_of_gt (blk_lt (Short.bK BK281)) : gb282 ≠ gb281)); clear BK281 HB; revert n0_ n1_ n2_ n3_ n4_ n5_ n6_; intro BK281 HB BK282 GW282 GE282 NB281_282 NB282_281; clear hb hbox hg; have hnb55 := NB282_281.out; have hnc55 := NB281_282.out; obtain ⟨hcz56_0, hcz56_1, hfz56_0, hfz56_1⟩ := Short.c2 BK282.out))
  have n0_ : Aside0 (((w54.setCell ⟨gb282, 0, none⟩ (.int .i64 a1_0)).setCell ⟨gb282, 1, none⟩ (.int .i64 a1_1)).heap[gb281]? = some (.cells #[.int .i64 a1_0, .int .i64 a1_1, .slice A1_2 l1_2.length c1_2, .int .i64 a1_3, .int .i64 a1_4, .int .i64 a1_5, .int .i64 a1_6, .int .i64 a1_7, .string a1_8, .int .i64 a1_9, .slice A1_10 l1_10.length c1_10, .slice A1_11 l1_11.length c1_11] 32 (0, 0))) := ⟨by (with_reducible repeat (first | refine blk_drewN ?_ _ | refine blk_drew ?_ | refine blk_alloc ?_ _)); refine blk_far ?_ NB281_282.out _; (with_reducible repeat (first | refine blk_drewN ?_ _ | refine blk_drew ?_ | refine blk_alloc ?_ _)); refine blk_far ?_ NB281_282.out _; (with_reducible repeat (first | refine blk_drewN ?_ _ | refine blk_drew ?_ | refine blk_alloc ?_ _)); exact BK281.out⟩
  have n1_ : Aside0 (((w54.setCell ⟨gb282, 0, none⟩ (.int .i64 a1_0)).setCell ⟨gb282, 1, none⟩ (.int .i64 a1_1)).heap[gb282]? = some (.cells #[.int .i64 a1_0, .int .i64 a1_1] 25 (0, 0))) := ⟨by (with_reducible repeat (first | refine blk_drewN ?_ _ | refine blk_drew ?_ | refine blk_alloc ?_ _)); refine blk_put (cs := #[.int .i64 a1_0, .int .i64 0]) ?_ 1 _ rfl; (with_reducible repeat (first | refine blk_drewN ?_ _ | refine blk_drew ?_ | refine blk_alloc ?_ _)); refine blk_put (cs := #[.int .i64 0, .int .i64 0]) ?_ 0 _ rfl; (with_reducible repeat (first | refine blk_drewN ?_ _ | refine blk_drew ?_ | refine blk_alloc ?_ _)); exact BK282.out⟩
  have n2_ : Aside0 (Below w.heap.size w ((w54.setCell ⟨gb282, 0, none⟩ (.int .i64 a1_0)).setCell ⟨gb282, 1, none⟩ (.int .i64 a1_1))) := ⟨Short.hB HB⟩
  (try clear BK281)
  (try clear BK282)
  (try clear HB)
  generalize ((w54.setCell ⟨gb282, 0, none⟩ (.int .i64 a1_0)).setCell ⟨gb282, 1, none⟩ (.int .i64 a1_1)) = w57 at n0_ n1_ n2_ ⊢
  revert n0_ n1_ n2_
  intro BK281 BK282 HB
  have n0_ := mk_ (blk_drew BK281.out)
  have n1_ := mk_ (blk_drew BK282.out)
  have n2_ := mk_ (below_drew1 HB.out)
  clear BK281 BK282 HB
  revert n0_ n1_ n2_
  intro BK281 BK282 HB
  refine start_ (n := 59) (S := fun w' => w'.cell? ⟨gb282, 0, none⟩ = some (.int .i64 a1_0) ∧ w'.cell? ⟨gb282, 1, none⟩ = some (.int .i64 a1_1)) (ds := []) (Steps.Bs 59 0) z0_ rfl rfl ⟨kc_ BK282 0, kc_ BK282 1⟩ (fun hHeld => ?_); refine with_tabW op_whole.tab2 op_whole.bits2 (fun HT_ HW_ => ?_)
  generalize w57.drew = w58 at BK281 BK282 HB hHeld ⊢
  refine tI HT_ 0 8 59 1 ?_
  refine tT HT_ HW_ hHeld 1 9 59 3 ?_
  refine tI HT_ 2 10 59 7 ?_
  refine tI HT_ 3 11 59 15 ?_
  refine tI HT_ 4 12 59 31 ?_
  refine tI HT_ 6 14 59 95 ?_
  refine tT HT_ HW_ hHeld 5 13 59 127 ?_
  refine tI HT_ 7 15 59 255 ?_
  refine tI HT_ 8 16 59 511 ?_
  refine tI HT_ 9 17 59 1023 ?_
  refine tI HT_ 10 18 59 2047 ?_
  refine tT HT_ HW_ hHeld 11 19 59 4095 ?_
  refine tI HT_ 12 20 59 8191 ?_
  refine tI HT_ 13 21 59 16383 ?_
  refine tI HT_ 14 22 59 32767 ?_
  refine tI HT_ 15 23 59 65535 ?_
  refine tT HT_ HW_ hHeld 16 24 59 131071 ?_
  refine tI HT_ 17 25 59 262143 ?_
  refine tI HT_ 18 26 59 524287 ?_
  refine tI HT_ 19 27 59 1048575 ?_
  refine tR HT_ 20 28 59 2097151 ?_
  refine tR HT_ 21 29 59 4194303 ?_
  refine tR HT_ 22 30 59 8388607 ?_
  refine tR HT_ 23 31 59 16777215 ?_
  refine tR HT_ 24 32 59 33554431 ?_
  refine tI HT_ 25 33 59 67108863 ?_
  refine tI HT_ 26 34 59 134217727 ?_
  refine tR HT_ 27 35 59 268435455 ?_
  refine tR HT_ 28 36 59 536870911 ?_
  refine tR HT_ 29 37 59 1073741823 ?_
  refine tR HT_ 30 38 59 2147483647 ?_
  refine tI HT_ 31 39 59 4294967295 ?_
  refine tI HT_ 32 40 59 8589934591 ?_
  refine tR HT_ 33 41 59 17179869183 ?_
  refine tR HT_ 34 42 59 34359738367 ?_
  refine tR HT_ 35 43 59 68719476735 ?_
  refine tR HT_ 36 44 59 137438953471 ?_
  refine tR HT_ 37 45 59 274877906943 ?_
  refine tR HT_ 38 46 59 549755813887 ?_
  refine tR HT_ 39 47 59 1099511627775 ?_
  refine tR HT_ 40 48 59 2199023255551 ?_
  refine tR HT_ 41 49 59 4398046511103 ?_
  refine tR HT_ 42 50 59 8796093022207 ?_
  refine tI HT_ 43 51 59 17592186044415 ?_
  refine tI HT_ 44 52 59 35184372088831 ?_
  refine tR HT_ 45 53 59 70368744177663 ?_
  refine tR HT_ 46 54 59 140737488355327 ?_
  refine tR HT_ 47 55 59 281474976710655 ?_
  refine tR HT_ 48 56 59 562949953421311 ?_
  refine tI HT_ 49 57 59 1125899906842623 ?_
  refine tI HT_ 50 58 59 2251799813685247 ?_
  refine tR HT_ 51 59 59 4503599627370495 ?_
  refine tR HT_ 52 60 59 9007199254740991 ?_
  refine tR HT_ 53 61 59 18014398509481983 ?_
  refine tR HT_ 54 62 59 36028797018963967 ?_
  refine tR HT_ 55 63 59 72057594037927935 ?_
  refine tR HT_ 56 64 59 144115188075855871 ?_
  refine tI HT_ 57 65 59 288230376151711743 ?_
  refine tI HT_ 58 4 59 576460752303423487 ?_
  refine done_ (done_of HT_.out z0_) ?_
  try go_wp2
  go_ret
  exact ⟨q0, Short.hB HB⟩
 rw [if_pos c6] at H
 have c6b0 : decide (a1_1 ≤ 1073741824) = true := decide_eq_true c6
 clear c6
 by_cases c7 : (l1_2.length : Int) = a0
 rotate_left
 ·
  rw [if_neg c7] at H
  have c7b0 : ((l1_2.length : Int) == a0) = false := beq_eq_false_iff_ne.mpr c7
  have c7b1 : ((l1_2.length : Int) != a0) = true := bne_iff_ne.mpr c7
  obtain rfl := Option.some.inj H
  go_enter Try.func73, Try.ntmps73
  try go_wp2_with (first | ((with_reducible refine gate_dst (N := 3) rfl ?_); (try (refine gate_guard (by rfl) ?_; dsimp only)); refine box_event ?hg (N := 3) ?hd (cs := #[.int .i64 a1_0, .int .i64 a1_1, .slice A1_2 l1_2.length c1_2, .int .i64 a1_3, .int .i64 a1_4, .int .i64 a1_5, .int .i64 a1_6, .int .i64 a1_7, .string a1_8, .int .i64 a1_9, .slice A1_10 l1_10.length c1_10, .slice A1_11 l1_11.length c1_11]) (t := 32) ?hr ?_; (case hd => rfl); (case hg => rfl); (case hr => first | (go_simp; done) | (go_simp; rfl)); intro gb281 hg w45 hbox hb; have n0_ := mk_ (below_step (Short.hB HB) hb); have n1_ := mk_ (hbox); have n2_ := mk_ ((by rw [hg]; exact (below_size (Short.hB HB)) : w.heap.size ≤ gb281)); have n3_ := mk_ ((by rw [hg]; exact (below_size (Short.hB HB)) : w.heap.size ≤ gb281)); clear HB; revert n0_ n1_ n2_ n3_; intro HB BK281 GW281 GE281; clear hb hbox hg; have hcz46_0 := blk_cell BK281.out; have hfz46_0 := blk_frozen BK281.out) | ((with_reducible refine gate_dst (N := 5) rfl ?_); (try (refine gate_guard (by rfl) ?_; dsimp only)); refine box_event ?hg (N := 5) ?hd (cs := #[.int .i64 0, .int .i64 0]) (t := 25) ?hr ?_; (case hd => rfl); (case hg => rfl); (case hr => first | (go_simp; done) | (go_simp; rfl)); intro gb282 hg w47 hbox hb; have n0_ := mk_ (bB_ BK281 hb); have n1_ := mk_ (below_step (Short.hB HB) hb); have n2_ := mk_ (hbox); have n3_ := mk_ ((by rw [hg]; exact (below_size (Short.hB HB)) : w.heap.size ≤ gb282)); have n4_ := mk_ ((by rw [hg]; exact (below_size (Short.hB HB)) : w.heap.size ≤ gb282)); have n5_ := mk_ ((by rw [hg]; exact Nat.ne_of_lt (blk_lt (Short.bK BK281)) : gb281 ≠ gb282)); have n6_ := mk_ ((by rw [hg]; exact Nat.ne_of_gt (blk_lt (Short.bK BK281)) : gb282 ≠ gb281)); clear BK281 HB; revert n0_ n1_ n2_ n3_ n4_ n5_ n6_; intro BK281 HB BK282 GW282 GE282 NB281_282 NB282_281; clear hb hbox hg; have hnb48 := NB282_281.out; have hnc48 := NB281_282.out; obtain ⟨hcz49_0, hcz49_1, hfz49_0, hfz49_1⟩ := Short.c2 BK282.out))
  have n0_ : Aside0 (((w47.setCell ⟨gb282, 0, none⟩ (.int .i64 a1_0)).setCell ⟨gb282, 1, none⟩ (.int .i64 a1_1)).heap[gb281]? = some (.cells #[.int .i64 a1_0, .int .i64 a1_1, .slice A1_2 l1_2.length c1_2, .int .i64 a1_3, .int .i64 a1_4, .int .i64 a1_5, .int .i64 a1_6, .int .i64 a1_7, .string a1_8, .int .i64 a1_9, .slice A1_10 l1_10.length c1_10, .slice A1_11 l1_11.length c1_11] 32 (0, 0))) := ⟨by (with_reducible repeat (first | refine blk_drewN ?_ _ | refine blk_drew ?_ | refine blk_alloc ?_ _)); refine blk_far ?_ NB281_282.out _; (with_reducible repeat (first | refine blk_drewN ?_ _ | refine blk_drew ?_ | refine blk_alloc ?_ _)); refine blk_far ?_ NB281_282.out _; (with_reducible repeat (first | refine blk_drewN ?_ _ | refine blk_drew ?_ | refine blk_alloc ?_ _)); exact BK281.out⟩
  have n1_ : Aside0 (((w47.setCell ⟨gb282, 0, none⟩ (.int .i64 a1_0)).setCell ⟨gb282, 1, none⟩ (.int .i64 a1_1)).heap[gb282]? = some (.cells #[.int .i64 a1_0, .int .i64 a1_1] 25 (0, 0))) := ⟨by (with_reducible repeat (first | refine blk_drewN ?_ _ | refine blk_drew ?_ | refine blk_alloc ?_ _)); refine blk_put (cs := #[.int .i64 a1_0, .int .i64 0]) ?_ 1 _ rfl; (with_reducible repeat (first | refine blk_drewN ?_ _ | refine blk_drew ?_ | refine blk_alloc ?_ _)); refine blk_put (cs := #[.int .i64 0, .int .i64 0]) ?_ 0 _ rfl; (with_reducible repeat (first | refine blk_drewN ?_ _ | refine blk_drew ?_ | refine blk_alloc ?_ _)); exact BK282.out⟩
  have n2_ : Aside0 (Below w.heap.size w ((w47.setCell ⟨gb282, 0, none⟩ (.int .i64 a1_0)).setCell ⟨gb282, 1, none⟩ (.int .i64 a1_1))) := ⟨Short.hB HB⟩
  (try clear BK281)
  (try clear BK282)
  (try clear HB)
  generalize ((w47.setCell ⟨gb282, 0, none⟩ (.int .i64 a1_0)).setCell ⟨gb282, 1, none⟩ (.int .i64 a1_1)) = w50 at n0_ n1_ n2_ ⊢
  revert n0_ n1_ n2_
  intro BK281 BK282 HB
  have n0_ := mk_ (blk_drew BK281.out)
  have n1_ := mk_ (blk_drew BK282.out)
  have n2_ := mk_ (below_drew1 HB.out)
  clear BK281 BK282 HB
  revert n0_ n1_ n2_
  intro BK281 BK282 HB
  refine start_ (n := 59) (S := fun w' => w'.cell? ⟨gb282, 0, none⟩ = some (.int .i64 a1_0) ∧ w'.cell? ⟨gb282, 1, none⟩ = some (.int .i64 a1_1) ∧ w'.cell? ⟨gb281, 0, none⟩ = some (.int .i64 a1_0) ∧ w'.cell? ⟨gb281, 1, none⟩ = some (.int .i64 a1_1) ∧ w'.cell? ⟨gb281, 2, none⟩ = some (.slice A1_2 l1_2.length c1_2) ∧ w'.cell? ⟨gb281, 3, none⟩ = some (.int .i64 a1_3) ∧ w'.cell? ⟨gb281, 4, none⟩ = some (.int .i64 a1_4) ∧ w'.cell? ⟨gb281, 5, none⟩ = some (.int .i64 a1_5) ∧ w'.cell? ⟨gb281, 6, none⟩ = some (.int .i64 a1_6) ∧ w'.cell? ⟨gb281, 7, none⟩ = some (.int .i64 a1_7) ∧ w'.cell? ⟨gb281, 8, none⟩ = some (.string a1_8) ∧ w'.cell? ⟨gb281, 9, none⟩ = some (.int .i64 a1_9) ∧ w'.cell? ⟨gb281, 10, none⟩ = some (.slice A1_10 l1_10.length c1_10) ∧ w'.cell? ⟨gb281, 11, none⟩ = some (.slice A1_11 l1_11.length c1_11)) (ds := []) (Steps.Bs 59 0) z0_ rfl rfl ⟨kc_ BK282 0, kc_ BK282 1, kc_ BK281 0, kc_ BK281 1, kc_ BK281 2, kc_ BK281 3, kc_ BK281 4, kc_ BK281 5, kc_ BK281 6, kc_ BK281 7, kc_ BK281 8, kc_ BK281 9, kc_ BK281 10, kc_ BK281 11⟩ (fun hHeld => ?_); refine with_tabW op_whole.tab2 op_whole.bits2 (fun HT_ HW_ => ?_)
  generalize w50.drew = w51 at BK281 BK282 HB hHeld ⊢
  refine tI HT_ 0 8 59 1 ?_
  refine tT HT_ HW_ hHeld 1 9 59 3 ?_
  refine tI HT_ 2 10 59 7 ?_
  refine tI HT_ 3 11 59 15 ?_
  refine tI HT_ 4 12 59 31 ?_
  refine tI HT_ 6 14 59 95 ?_
  refine tT HT_ HW_ hHeld 5 13 59 127 ?_
  refine tI HT_ 7 15 59 255 ?_
  refine tI HT_ 8 16 59 511 ?_
  refine tI HT_ 9 17 59 1023 ?_
  refine tI HT_ 10 18 59 2047 ?_
  refine tT HT_ HW_ hHeld 11 19 59 4095 ?_
  refine tI HT_ 12 20 59 8191 ?_
  refine tI HT_ 13 21 59 16383 ?_
  refine tI HT_ 14 22 59 32767 ?_
  refine tI HT_ 15 23 59 65535 ?_
  refine tT HT_ HW_ hHeld 16 24 59 131071 ?_
  refine tI HT_ 17 25 59 262143 ?_
  refine tI HT_ 18 26 59 524287 ?_
  refine tI HT_ 19 27 59 1048575 ?_
  refine tI HT_ 20 28 59 2097151 ?_
  refine tI HT_ 23 31 59 10485759 ?_
  refine tT HT_ HW_ hHeld 21 29 59 12582911 ?_
  refine tI HT_ 22 30 59 16777215 ?_
  refine tI HT_ 24 32 59 33554431 ?_
  refine tI HT_ 25 33 59 67108863 ?_
  refine tI HT_ 26 34 59 134217727 ?_
  refine tR HT_ 27 35 59 268435455 ?_
  refine tR HT_ 28 36 59 536870911 ?_
  refine tR HT_ 29 37 59 1073741823 ?_
  refine tR HT_ 30 38 59 2147483647 ?_
  refine tI HT_ 31 39 59 4294967295 ?_
  refine tI HT_ 32 40 59 8589934591 ?_
  refine tR HT_ 33 41 59 17179869183 ?_
  refine tR HT_ 34 42 59 34359738367 ?_
  refine tR HT_ 35 43 59 68719476735 ?_
  refine tR HT_ 36 44 59 137438953471 ?_
  refine tR HT_ 37 45 59 274877906943 ?_
  refine tR HT_ 38 46 59 549755813887 ?_
  refine tR HT_ 39 47 59 1099511627775 ?_
  refine tR HT_ 40 48 59 2199023255551 ?_
  refine tR HT_ 41 49 59 4398046511103 ?_
  refine tR HT_ 42 50 59 8796093022207 ?_
  refine tI HT_ 43 51 59 17592186044415 ?_
  refine tI HT_ 44 52 59 35184372088831 ?_
  refine tR HT_ 45 53 59 70368744177663 ?_
  refine tR HT_ 46 54 59 140737488355327 ?_
  refine tR HT_ 47 55 59 281474976710655 ?_
  refine tR HT_ 48 56 59 562949953421311 ?_
  refine tI HT_ 49 57 59 1125899906842623 ?_
  refine tI HT_ 50 58 59 2251799813685247 ?_
  refine tR HT_ 51 59 59 4503599627370495 ?_
  refine tR HT_ 52 60 59 9007199254740991 ?_
  refine tR HT_ 53 61 59 18014398509481983 ?_
  refine tR HT_ 54 62 59 36028797018963967 ?_
  refine tR HT_ 55 63 59 72057594037927935 ?_
  refine tR HT_ 56 64 59 144115188075855871 ?_
  refine tI HT_ 57 65 59 288230376151711743 ?_
  refine tI HT_ 58 4 59 576460752303423487 ?_
  refine done_ (done_of HT_.out z0_) ?_
  try go_wp2
  go_ret
  exact ⟨q0, Short.hB HB⟩
 rw [if_pos c7] at H
 have c7b0 : ((l1_2.length : Int) == a0) = true := beq_iff_eq.mpr c7
 have c7b1 : ((l1_2.length : Int) != a0) = false := bne_eq_false_iff_eq.mpr c7
 clear c7
 replace H := Option.bind_eq_some_iff.mp H
 obtain ⟨t283, A80, H⟩ := H
 replace H : (if t283 = 0 then (if 0 ≤ a1_0 then (if a1_0 < (l1_2.length : Int) then (if (rd l1_2 a1_0) = (wrap64 (a1_1 - 1)) then ((hlc_Check.f a1_3 a1_4 a1_5).bind fun t285 => (if t285 = 0 then (some (a1_5 == a1_0)) else (some false))) else (some false)) else (none)) else (none)) else (some false)) = some r := H
 have A8 := mk_ A80
 clear A80
 by_cases c9 : t283 = 0
 rotate_left
 ·
  rw [if_neg c9] at H
  have c9b0 : (t283 == 0) = false := beq_eq_false_iff_ne.mpr c9
  have c9b1 : (t283 != 0) = true := bne_iff_ne.mpr c9
  obtain rfl := Option.some.inj H
  go_enter Try.func73, Try.ntmps73
  try go_wp2_with (first | ((with_reducible refine gate_dst (N := 3) rfl ?_); (try (refine gate_guard (by rfl) ?_; dsimp only)); refine box_event ?hg (N := 3) ?hd (cs := #[.int .i64 a1_0, .int .i64 a1_1, .slice A1_2 l1_2.length c1_2, .int .i64 a1_3, .int .i64 a1_4, .int .i64 a1_5, .int .i64 a1_6, .int .i64 a1_7, .string a1_8, .int .i64 a1_9, .slice A1_10 l1_10.length c1_10, .slice A1_11 l1_11.length c1_11]) (t := 32) ?hr ?_; (case hd => rfl); (case hg => rfl); (case hr => first | (go_simp; done) | (go_simp; rfl)); intro gb281 hg w38 hbox hb; have n0_ := mk_ (below_step (Short.hB HB) hb); have n1_ := mk_ (hbox); have n2_ := mk_ ((by rw [hg]; exact (below_size (Short.hB HB)) : w.heap.size ≤ gb281)); have n3_ := mk_ ((by rw [hg]; exact (below_size (Short.hB HB)) : w.heap.size ≤ gb281)); clear HB; revert n0_ n1_ n2_ n3_; intro HB BK281 GW281 GE281; clear hb hbox hg; have hcz39_0 := blk_cell BK281.out; have hfz39_0 := blk_frozen BK281.out) | ((with_reducible refine gate_dst (N := 5) rfl ?_); (try (refine gate_guard (by rfl) ?_; dsimp only)); refine box_event ?hg (N := 5) ?hd (cs := #[.int .i64 0, .int .i64 0]) (t := 25) ?hr ?_; (case hd => rfl); (case hg => rfl); (case hr => first | (go_simp; done) | (go_simp; rfl)); intro gb282 hg w40 hbox hb; have n0_ := mk_ (bB_ BK281 hb); have n1_ := mk_ (below_step (Short.hB HB) hb); have n2_ := mk_ (hbox); have n3_ := mk_ ((by rw [hg]; exact (below_size (Short.hB HB)) : w.heap.size ≤ gb282)); have n4_ := mk_ ((by rw [hg]; exact (below_size (Short.hB HB)) : w.heap.size ≤ gb282)); have n5_ := mk_ ((by rw [hg]; exact Nat.ne_of_lt (blk_lt (Short.bK BK281)) : gb281 ≠ gb282)); have n6_ := mk_ ((by rw [hg]; exact Nat.ne_of_gt (blk_lt (Short.bK BK281)) : gb282 ≠ gb281)); clear BK281 HB; revert n0_ n1_ n2_ n3_ n4_ n5_ n6_; intro BK281 HB BK282 GW282 GE282 NB281_282 NB282_281; clear hb hbox hg; have hnb41 := NB282_281.out; have hnc41 := NB281_282.out; obtain ⟨hcz42_0, hcz42_1, hfz42_0, hfz42_1⟩ := Short.c2 BK282.out))
  have n0_ : Aside0 (((w40.setCell ⟨gb282, 0, none⟩ (.int .i64 a1_0)).setCell ⟨gb282, 1, none⟩ (.int .i64 a1_1)).heap[gb281]? = some (.cells #[.int .i64 a1_0, .int .i64 a1_1, .slice A1_2 l1_2.length c1_2, .int .i64 a1_3, .int .i64 a1_4, .int .i64 a1_5, .int .i64 a1_6, .int .i64 a1_7, .string a1_8, .int .i64 a1_9, .slice A1_10 l1_10.length c1_10, .slice A1_11 l1_11.length c1_11] 32 (0, 0))) := ⟨by (with_reducible repeat (first | refine blk_drewN ?_ _ | refine blk_drew ?_ | refine blk_alloc ?_ _)); refine blk_far ?_ NB281_282.out _; (with_reducible repeat (first | refine blk_drewN ?_ _ | refine blk_drew ?_ | refine blk_alloc ?_ _)); refine blk_far ?_ NB281_282.out _; (with_reducible repeat (first | refine blk_drewN ?_ _ | refine blk_drew ?_ | refine blk_alloc ?_ _)); exact BK281.out⟩
  have n1_ : Aside0 (((w40.setCell ⟨gb282, 0, none⟩ (.int .i64 a1_0)).setCell ⟨gb282, 1, none⟩ (.int .i64 a1_1)).heap[gb282]? = some (.cells #[.int .i64 a1_0, .int .i64 a1_1] 25 (0, 0))) := ⟨by (with_reducible repeat (first | refine blk_drewN ?_ _ | refine blk_drew ?_ | refine blk_alloc ?_ _)); refine blk_put (cs := #[.int .i64 a1_0, .int .i64 0]) ?_ 1 _ rfl; (with_reducible repeat (first | refine blk_drewN ?_ _ | refine blk_drew ?_ | refine blk_alloc ?_ _)); refine blk_put (cs := #[.int .i64 0, .int .i64 0]) ?_ 0 _ rfl; (with_reducible repeat (first | refine blk_drewN ?_ _ | refine blk_drew ?_ | refine blk_alloc ?_ _)); exact BK282.out⟩
  have n2_ : Aside0 (Below w.heap.size w ((w40.setCell ⟨gb282, 0, none⟩ (.int .i64 a1_0)).setCell ⟨gb282, 1, none⟩ (.int .i64 a1_1))) := ⟨Short.hB HB⟩
  (try clear BK281)
  (try clear BK282)
  (try clear HB)
  generalize ((w40.setCell ⟨gb282, 0, none⟩ (.int .i64 a1_0)).setCell ⟨gb282, 1, none⟩ (.int .i64 a1_1)) = w43 at n0_ n1_ n2_ ⊢
  revert n0_ n1_ n2_
  intro BK281 BK282 HB
  have n0_ := mk_ (blk_drew BK281.out)
  have n1_ := mk_ (blk_drew BK282.out)
  have n2_ := mk_ (below_drew1 HB.out)
  clear BK281 BK282 HB
  revert n0_ n1_ n2_
  intro BK281 BK282 HB
  refine start_ (n := 59) (S := fun w' => w'.cell? ⟨gb282, 0, none⟩ = some (.int .i64 a1_0) ∧ w'.cell? ⟨gb282, 1, none⟩ = some (.int .i64 a1_1) ∧ w'.cell? ⟨gb281, 0, none⟩ = some (.int .i64 a1_0) ∧ w'.cell? ⟨gb281, 1, none⟩ = some (.int .i64 a1_1) ∧ w'.cell? ⟨gb281, 2, none⟩ = some (.slice A1_2 l1_2.length c1_2) ∧ w'.cell? ⟨gb281, 3, none⟩ = some (.int .i64 a1_3) ∧ w'.cell? ⟨gb281, 4, none⟩ = some (.int .i64 a1_4) ∧ w'.cell? ⟨gb281, 5, none⟩ = some (.int .i64 a1_5) ∧ w'.cell? ⟨gb281, 6, none⟩ = some (.int .i64 a1_6) ∧ w'.cell? ⟨gb281, 7, none⟩ = some (.int .i64 a1_7) ∧ w'.cell? ⟨gb281, 8, none⟩ = some (.string a1_8) ∧ w'.cell? ⟨gb281, 9, none⟩ = some (.int .i64 a1_9) ∧ w'.cell? ⟨gb281, 10, none⟩ = some (.slice A1_10 l1_10.length c1_10) ∧ w'.cell? ⟨gb281, 11, none⟩ = some (.slice A1_11 l1_11.length c1_11)) (ds := []) (Steps.Bs 59 0) z0_ rfl rfl ⟨kc_ BK282 0, kc_ BK282 1, kc_ BK281 0, kc_ BK281 1, kc_ BK281 2, kc_ BK281 3, kc_ BK281 4, kc_ BK281 5, kc_ BK281 6, kc_ BK281 7, kc_ BK281 8, kc_ BK281 9, kc_ BK281 10, kc_ BK281 11⟩ (fun hHeld => ?_); refine with_tabW op_whole.tab2 op_whole.bits2 (fun HT_ HW_ => ?_)
  generalize w43.drew = w44 at BK281 BK282 HB hHeld ⊢
  refine tI HT_ 0 8 59 1 ?_
  refine tT HT_ HW_ hHeld 1 9 59 3 ?_
  refine tI HT_ 2 10 59 7 ?_
  refine tI HT_ 3 11 59 15 ?_
  refine tI HT_ 4 12 59 31 ?_
  refine tI HT_ 6 14 59 95 ?_
  refine tT HT_ HW_ hHeld 5 13 59 127 ?_
  refine tI HT_ 7 15 59 255 ?_
  refine tI HT_ 8 16 59 511 ?_
  refine tI HT_ 9 17 59 1023 ?_
  refine tI HT_ 10 18 59 2047 ?_
  refine tT HT_ HW_ hHeld 11 19 59 4095 ?_
  refine tI HT_ 12 20 59 8191 ?_
  refine tI HT_ 13 21 59 16383 ?_
  refine tI HT_ 14 22 59 32767 ?_
  refine tI HT_ 15 23 59 65535 ?_
  refine tT HT_ HW_ hHeld 16 24 59 131071 ?_
  refine tI HT_ 17 25 59 262143 ?_
  refine tI HT_ 18 26 59 524287 ?_
  refine tI HT_ 19 27 59 1048575 ?_
  refine tI HT_ 20 28 59 2097151 ?_
  refine tI HT_ 23 31 59 10485759 ?_
  refine tT HT_ HW_ hHeld 21 29 59 12582911 ?_
  refine tI HT_ 22 30 59 16777215 ?_
  refine tI HT_ 24 32 59 33554431 ?_
  refine tI HT_ 25 33 59 67108863 ?_
  refine tI HT_ 26 34 59 134217727 ?_
  refine tI HT_ 27 35 59 268435455 ?_
  refine tT HT_ HW_ hHeld 28 36 59 536870911 ?_
  refine one_ (i := 29) (N := some 37) (Steps.Bs 59 1073741823) rfl rfl (one_of HT_.out z0_) z5_ (fun K hK => ?_)
  refine goes_ Try.func99 z0_ rfl #[.slice A1_2 l1_2.length c1_2] (by rfl) rfl rfl z2_ ?_
  with_reducible refine (dot_Check.calls k _ _ l1_2 t283 _ ?side1 ?side2 A8.out).mono ?_
  (case side1 => exact cX_ (C_below HR1_2.out HB.out))
  (case side2 => exact HC1_2.out)
  rintro e w' ⟨rfl, ⟨nd, rfl⟩⟩
  refine ⟨_, rfl, ?_⟩
  refine hK.out _ _ ⟨kc_ BK282 0, kc_ BK282 1, kc_ BK281 0, kc_ BK281 1, kc_ BK281 2, kc_ BK281 3, kc_ BK281 4, kc_ BK281 5, kc_ BK281 6, kc_ BK281 7, kc_ BK281 8, kc_ BK281 9, kc_ BK281 10, kc_ BK281 11⟩ (fun hHeld => ?_)
  clear hK K
  refine nrm 37 ?_
  refine tI HT_ 30 38 59 2147483647 ?_
  refine tI HT_ 31 39 59 4294967295 ?_
  refine tI HT_ 32 40 59 8589934591 ?_
  refine tR HT_ 33 41 59 17179869183 ?_
  refine tR HT_ 34 42 59 34359738367 ?_
  refine tR HT_ 35 43 59 68719476735 ?_
  refine tR HT_ 36 44 59 137438953471 ?_
  refine tR HT_ 37 45 59 274877906943 ?_
  refine tR HT_ 38 46 59 549755813887 ?_
  refine tR HT_ 39 47 59 1099511627775 ?_
  refine tR HT_ 40 48 59 2199023255551 ?_
  refine tR HT_ 41 49 59 4398046511103 ?_
  refine tR HT_ 42 50 59 8796093022207 ?_
  refine tI HT_ 43 51 59 17592186044415 ?_
  refine tI HT_ 44 52 59 35184372088831 ?_
  refine tR HT_ 45 53 59 70368744177663 ?_
  refine tR HT_ 46 54 59 140737488355327 ?_
  refine tR HT_ 47 55 59 281474976710655 ?_
  refine tR HT_ 48 56 59 562949953421311 ?_
  refine tI HT_ 49 57 59 1125899906842623 ?_
  refine tI HT_ 50 58 59 2251799813685247 ?_
  refine tR HT_ 51 59 59 4503599627370495 ?_
  refine tR HT_ 52 60 59 9007199254740991 ?_
  refine tR HT_ 53 61 59 18014398509481983 ?_
  refine tR HT_ 54 62 59 36028797018963967 ?_
  refine tR HT_ 55 63 59 72057594037927935 ?_
  refine tR HT_ 56 64 59 144115188075855871 ?_
  refine tI HT_ 57 65 59 288230376151711743 ?_
  refine tI HT_ 58 4 59 576460752303423487 ?_
  refine done_ (done_of HT_.out z0_) ?_
  try go_wp2
  go_ret
  exact ⟨q0, Short.hB HB⟩
 rw [if_pos c9] at H
 have c9b0 : (t283 == 0) = true := beq_iff_eq.mpr c9
 have c9b1 : (t283 != 0) = false := bne_eq_false_iff_eq.mpr c9
 clear c9
 by_cases c10 : 0 ≤ a1_0
 rotate_left
 ·
  rw [if_neg c10] at H
  exact absurd H (by simp)
 rw [if_pos c10] at H
 have c10b0 : decide (0 ≤ a1_0) = true := decide_eq_true c10
 clear c10
 by_cases c11 : a1_0 < (l1_2.length : Int)
 rotate_left
 ·
  rw [if_neg c11] at H
  exact absurd H (by simp)
 rw [if_pos c11] at H
 have c11b0 : decide (a1_0 < (l1_2.length : Int)) = true := decide_eq_true c11
 clear c11
 by_cases c12 : (rd l1_2 a1_0) = (wrap64 (a1_1 - 1))
 rotate_left
 ·
  rw [if_neg c12] at H
  have c12b0 : ((rd l1_2 a1_0) == (wrap64 (a1_1 - 1))) = false := beq_eq_false_iff_ne.mpr c12
  have c12b1 : ((rd l1_2 a1_0) != (wrap64 (a1_1 - 1))) = true := bne_iff_ne.mpr c12
  obtain rfl := Option.some.inj H
  go_enter Try.func73, Try.ntmps73
  try go_wp2_with (first | ((with_reducible refine gate_dst (N := 3) rfl ?_); (try (refine gate_guard (by rfl) ?_; dsimp only)); refine box_event ?hg (N := 3) ?hd (cs := #[.int .i64 a1_0, .int .i64 a1_1, .slice A1_2 l1_2.length c1_2, .int .i64 a1_3, .int .i64 a1_4, .int .i64 a1_5, .int .i64 a1_6, .int .i64 a1_7, .string a1_8, .int .i64 a1_9, .slice A1_10 l1_10.length c1_10, .slice A1_11 l1_11.length c1_11]) (t := 32) ?hr ?_; (case hd => rfl); (case hg => rfl); (case hr => first | (go_simp; done) | (go_simp; rfl)); intro gb281 hg w31 hbox hb; have n0_ := mk_ (below_step (Short.hB HB) hb); have n1_ := mk_ (hbox); have n2_ := mk_ ((by rw [hg]; exact (below_size (Short.hB HB)) : w.heap.size ≤ gb281)); have n3_ := mk_ ((by rw [hg]; exact (below_size (Short.hB HB)) : w.heap.size ≤ gb281)); clear HB; revert n0_ n1_ n2_ n3_; intro HB BK281 GW281 GE281; clear hb hbox hg; have hcz32_0 := blk_cell BK281.out; have hfz32_0 := blk_frozen BK281.out) | ((with_reducible refine gate_dst (N := 5) rfl ?_); (try (refine gate_guard (by rfl) ?_; dsimp only)); refine box_event ?hg (N := 5) ?hd (cs := #[.int .i64 0, .int .i64 0]) (t := 25) ?hr ?_; (case hd => rfl); (case hg => rfl); (case hr => first | (go_simp; done) | (go_simp; rfl)); intro gb282 hg w33 hbox hb; have n0_ := mk_ (bB_ BK281 hb); have n1_ := mk_ (below_step (Short.hB HB) hb); have n2_ := mk_ (hbox); have n3_ := mk_ ((by rw [hg]; exact (below_size (Short.hB HB)) : w.heap.size ≤ gb282)); have n4_ := mk_ ((by rw [hg]; exact (below_size (Short.hB HB)) : w.heap.size ≤ gb282)); have n5_ := mk_ ((by rw [hg]; exact Nat.ne_of_lt (blk_lt (Short.bK BK281)) : gb281 ≠ gb282)); have n6_ := mk_ ((by rw [hg]; exact Nat.ne_of_gt (blk_lt (Short.bK BK281)) : gb282 ≠ gb281)); clear BK281 HB; revert n0_ n1_ n2_ n3_ n4_ n5_ n6_; intro BK281 HB BK282 GW282 GE282 NB281_282 NB282_281; clear hb hbox hg; have hnb34 := NB282_281.out; have hnc34 := NB281_282.out; obtain ⟨hcz35_0, hcz35_1, hfz35_0, hfz35_1⟩ := Short.c2 BK282.out))
  have n0_ : Aside0 (((w33.setCell ⟨gb282, 0, none⟩ (.int .i64 a1_0)).setCell ⟨gb282, 1, none⟩ (.int .i64 a1_1)).heap[gb281]? = some (.cells #[.int .i64 a1_0, .int .i64 a1_1, .slice A1_2 l1_2.length c1_2, .int .i64 a1_3, .int .i64 a1_4, .int .i64 a1_5, .int .i64 a1_6, .int .i64 a1_7, .string a1_8, .int .i64 a1_9, .slice A1_10 l1_10.length c1_10, .slice A1_11 l1_11.length c1_11] 32 (0, 0))) := ⟨by (with_reducible repeat (first | refine blk_drewN ?_ _ | refine blk_drew ?_ | refine blk_alloc ?_ _)); refine blk_far ?_ NB281_282.out _; (with_reducible repeat (first | refine blk_drewN ?_ _ | refine blk_drew ?_ | refine blk_alloc ?_ _)); refine blk_far ?_ NB281_282.out _; (with_reducible repeat (first | refine blk_drewN ?_ _ | refine blk_drew ?_ | refine blk_alloc ?_ _)); exact BK281.out⟩
  have n1_ : Aside0 (((w33.setCell ⟨gb282, 0, none⟩ (.int .i64 a1_0)).setCell ⟨gb282, 1, none⟩ (.int .i64 a1_1)).heap[gb282]? = some (.cells #[.int .i64 a1_0, .int .i64 a1_1] 25 (0, 0))) := ⟨by (with_reducible repeat (first | refine blk_drewN ?_ _ | refine blk_drew ?_ | refine blk_alloc ?_ _)); refine blk_put (cs := #[.int .i64 a1_0, .int .i64 0]) ?_ 1 _ rfl; (with_reducible repeat (first | refine blk_drewN ?_ _ | refine blk_drew ?_ | refine blk_alloc ?_ _)); refine blk_put (cs := #[.int .i64 0, .int .i64 0]) ?_ 0 _ rfl; (with_reducible repeat (first | refine blk_drewN ?_ _ | refine blk_drew ?_ | refine blk_alloc ?_ _)); exact BK282.out⟩
  have n2_ : Aside0 (Below w.heap.size w ((w33.setCell ⟨gb282, 0, none⟩ (.int .i64 a1_0)).setCell ⟨gb282, 1, none⟩ (.int .i64 a1_1))) := ⟨Short.hB HB⟩
  (try clear BK281)
  (try clear BK282)
  (try clear HB)
  generalize ((w33.setCell ⟨gb282, 0, none⟩ (.int .i64 a1_0)).setCell ⟨gb282, 1, none⟩ (.int .i64 a1_1)) = w36 at n0_ n1_ n2_ ⊢
  revert n0_ n1_ n2_
  intro BK281 BK282 HB
  have n0_ := mk_ (blk_drew BK281.out)
  have n1_ := mk_ (blk_drew BK282.out)
  have n2_ := mk_ (below_drew1 HB.out)
  clear BK281 BK282 HB
  revert n0_ n1_ n2_
  intro BK281 BK282 HB
  have p284 : 0 ≤ (a1_0 : Int) := of_decide_eq_true z1_
  have q284 : a1_0 < (l1_2.length : Int) := of_decide_eq_true z1_
  obtain ⟨ad284, e284, hx284_0⟩ := Kd.at_int HR1_2.out a1_0 p284 q284
  have hw284_0 := hx284_0
  cases e284
  replace hx284_0 := up_ HB hx284_0
  replace p284 := eq_true p284
  replace q284 := eq_true q284
  refine start_ (n := 59) (S := fun w' => w'.cell? ⟨gb282, 0, none⟩ = some (.int .i64 a1_0) ∧ w'.cell? ⟨gb282, 1, none⟩ = some (.int .i64 a1_1) ∧ w'.cell? ⟨gb281, 0, none⟩ = some (.int .i64 a1_0) ∧ w'.cell? ⟨gb281, 1, none⟩ = some (.int .i64 a1_1) ∧ w'.cell? ⟨gb281, 2, none⟩ = some (.slice (some ad284) l1_2.length c1_2) ∧ w'.cell? ⟨gb281, 3, none⟩ = some (.int .i64 a1_3) ∧ w'.cell? ⟨gb281, 4, none⟩ = some (.int .i64 a1_4) ∧ w'.cell? ⟨gb281, 5, none⟩ = some (.int .i64 a1_5) ∧ w'.cell? ⟨gb281, 6, none⟩ = some (.int .i64 a1_6) ∧ w'.cell? ⟨gb281, 7, none⟩ = some (.int .i64 a1_7) ∧ w'.cell? ⟨gb281, 8, none⟩ = some (.string a1_8) ∧ w'.cell? ⟨gb281, 9, none⟩ = some (.int .i64 a1_9) ∧ w'.cell? ⟨gb281, 10, none⟩ = some (.slice A1_10 l1_10.length c1_10) ∧ w'.cell? ⟨gb281, 11, none⟩ = some (.slice A1_11 l1_11.length c1_11) ∧ w'.cell? (ad284.add (a1_0).toNat) = some (.int .i64 (rd l1_2 a1_0))) (ds := []) (Steps.Bs 59 0) z0_ rfl rfl ⟨kc_ BK282 0, kc_ BK282 1, kc_ BK281 0, kc_ BK281 1, kc_ BK281 2, kc_ BK281 3, kc_ BK281 4, kc_ BK281 5, kc_ BK281 6, kc_ BK281 7, kc_ BK281 8, kc_ BK281 9, kc_ BK281 10, kc_ BK281 11, ((HB.out.cell (World.block_lt_of_cell? w _ hw284_0)).trans hw284_0)⟩ (fun hHeld => ?_); refine with_tabW op_whole.tab2 op_whole.bits2 (fun HT_ HW_ => ?_)
  generalize w36.drew = w37 at BK281 BK282 HB hx284_0 hHeld ⊢
  refine tI HT_ 0 8 59 1 ?_
  refine tT HT_ HW_ hHeld 1 9 59 3 ?_
  refine tI HT_ 2 10 59 7 ?_
  refine tI HT_ 3 11 59 15 ?_
  refine tI HT_ 4 12 59 31 ?_
  refine tI HT_ 6 14 59 95 ?_
  refine tT HT_ HW_ hHeld 5 13 59 127 ?_
  refine tI HT_ 7 15 59 255 ?_
  refine tI HT_ 8 16 59 511 ?_
  refine tI HT_ 9 17 59 1023 ?_
  refine tI HT_ 10 18 59 2047 ?_
  refine tT HT_ HW_ hHeld 11 19 59 4095 ?_
  refine tI HT_ 12 20 59 8191 ?_
  refine tI HT_ 13 21 59 16383 ?_
  refine tI HT_ 14 22 59 32767 ?_
  refine tI HT_ 15 23 59 65535 ?_
  refine tT HT_ HW_ hHeld 16 24 59 131071 ?_
  refine tI HT_ 17 25 59 262143 ?_
  refine tI HT_ 18 26 59 524287 ?_
  refine tI HT_ 19 27 59 1048575 ?_
  refine tI HT_ 20 28 59 2097151 ?_
  refine tI HT_ 23 31 59 10485759 ?_
  refine tT HT_ HW_ hHeld 21 29 59 12582911 ?_
  refine tI HT_ 22 30 59 16777215 ?_
  refine tI HT_ 24 32 59 33554431 ?_
  refine tI HT_ 25 33 59 67108863 ?_
  refine tI HT_ 26 34 59 134217727 ?_
  refine tI HT_ 27 35 59 268435455 ?_
  refine tT HT_ HW_ hHeld 28 36 59 536870911 ?_
  refine one_ (i := 29) (N := some 37) (Steps.Bs 59 1073741823) rfl rfl (one_of HT_.out z0_) z5_ (fun K hK => ?_)
  refine goes_ Try.func99 z0_ rfl #[.slice (some ad284) l1_2.length c1_2] (by rfl) rfl rfl z2_ ?_
  with_reducible refine (dot_Check.calls k _ _ l1_2 t283 _ ?side1 ?side2 A8.out).mono ?_
  (case side1 => exact cX_ (C_below HR1_2.out HB.out))
  (case side2 => exact HC1_2.out)
  rintro e w' ⟨rfl, ⟨nd, rfl⟩⟩
  refine ⟨_, rfl, ?_⟩
  refine hK.out _ _ ⟨kc_ BK282 0, kc_ BK282 1, kc_ BK281 0, kc_ BK281 1, kc_ BK281 2, kc_ BK281 3, kc_ BK281 4, kc_ BK281 5, kc_ BK281 6, kc_ BK281 7, kc_ BK281 8, kc_ BK281 9, kc_ BK281 10, kc_ BK281 11, ((HB.out.cell (World.block_lt_of_cell? w _ hw284_0)).trans hw284_0)⟩ (fun hHeld => ?_)
  clear hK K
  refine nrm 37 ?_
  refine tI HT_ 30 38 59 2147483647 ?_
  refine tI HT_ 31 39 59 4294967295 ?_
  refine tI HT_ 32 40 59 8589934591 ?_
  refine tI HT_ 33 41 59 17179869183 ?_
  refine tI HT_ 35 43 59 51539607551 ?_
  refine tI HT_ 39 47 59 601295421439 ?_
  refine tT HT_ HW_ hHeld 34 42 59 618475290623 ?_
  refine tT HT_ HW_ hHeld 36 44 59 687194767359 ?_
  refine tI HT_ 37 45 59 824633720831 ?_
  refine tT HT_ HW_ hHeld 38 46 59 1099511627775 ?_
  refine tT HT_ HW_ hHeld 40 48 59 2199023255551 ?_
  refine tI HT_ 41 49 59 4398046511103 ?_
  refine tI HT_ 42 50 59 8796093022207 ?_
  refine tI HT_ 43 51 59 17592186044415 ?_
  refine tI HT_ 44 52 59 35184372088831 ?_
  refine tR HT_ 45 53 59 70368744177663 ?_
  refine tR HT_ 46 54 59 140737488355327 ?_
  refine tR HT_ 47 55 59 281474976710655 ?_
  refine tR HT_ 48 56 59 562949953421311 ?_
  refine tI HT_ 49 57 59 1125899906842623 ?_
  refine tI HT_ 50 58 59 2251799813685247 ?_
  refine tR HT_ 51 59 59 4503599627370495 ?_
  refine tR HT_ 52 60 59 9007199254740991 ?_
  refine tR HT_ 53 61 59 18014398509481983 ?_
  refine tR HT_ 54 62 59 36028797018963967 ?_
  refine tR HT_ 55 63 59 72057594037927935 ?_
  refine tR HT_ 56 64 59 144115188075855871 ?_
  refine tI HT_ 57 65 59 288230376151711743 ?_
  refine tI HT_ 58 4 59 576460752303423487 ?_
  refine done_ (done_of HT_.out z0_) ?_
  try go_wp2
  go_ret
  exact ⟨q0, Short.hB HB⟩
 rw [if_pos c12] at H
 have c12b0 : ((rd l1_2 a1_0) == (wrap64 (a1_1 - 1))) = true := beq_iff_eq.mpr c12
 have c12b1 : ((rd l1_2 a1_0) != (wrap64 (a1_1 - 1))) = false := bne_eq_false_iff_eq.mpr c12
 clear c12
 replace H := Option.bind_eq_some_iff.mp H
 obtain ⟨t285, A130, H⟩ := H
 replace H : (if t285 = 0 then (some (a1_5 == a1_0)) else (some false)) = some r := H
 have A13 := mk_ A130
 clear A130
 by_cases c14 : t285 = 0
 rotate_left
 ·
  rw [if_neg c14] at H
  have c14b0 : (t285 == 0) = false := beq_eq_false_iff_ne.mpr c14
  have c14b1 : (t285 != 0) = true := bne_iff_ne.mpr c14
  obtain rfl := Option.some.inj H
  go_enter Try.func73, Try.ntmps73
  try go_wp2_with (first | ((with_reducible refine gate_dst (N := 3) rfl ?_); (try (refine gate_guard (by rfl) ?_; dsimp only)); refine box_event ?hg (N := 3) ?hd (cs := #[.int .i64 a1_0, .int .i64 a1_1, .slice A1_2 l1_2.length c1_2, .int .i64 a1_3, .int .i64 a1_4, .int .i64 a1_5, .int .i64 a1_6, .int .i64 a1_7, .string a1_8, .int .i64 a1_9, .slice A1_10 l1_10.length c1_10, .slice A1_11 l1_11.length c1_11]) (t := 32) ?hr ?_; (case hd => rfl); (case hg => rfl); (case hr => first | (go_simp; done) | (go_simp; rfl)); intro gb281 hg w23 hbox hb; have n0_ := mk_ (below_step (Short.hB HB) hb); have n1_ := mk_ (hbox); have n2_ := mk_ ((by rw [hg]; exact (below_size (Short.hB HB)) : w.heap.size ≤ gb281)); have n3_ := mk_ ((by rw [hg]; exact (below_size (Short.hB HB)) : w.heap.size ≤ gb281)); clear HB; revert n0_ n1_ n2_ n3_; intro HB BK281 GW281 GE281; clear hb hbox hg; have hcz24_0 := blk_cell BK281.out; have hfz24_0 := blk_frozen BK281.out) | ((with_reducible refine gate_dst (N := 5) rfl ?_); (try (refine gate_guard (by rfl) ?_; dsimp only)); refine box_event ?hg (N := 5) ?hd (cs := #[.int .i64 0, .int .i64 0]) (t := 25) ?hr ?_; (case hd => rfl); (case hg => rfl); (case hr => first | (go_simp; done) | (go_simp; rfl)); intro gb282 hg w25 hbox hb; have n0_ := mk_ (bB_ BK281 hb); have n1_ := mk_ (below_step (Short.hB HB) hb); have n2_ := mk_ (hbox); have n3_ := mk_ ((by rw [hg]; exact (below_size (Short.hB HB)) : w.heap.size ≤ gb282)); have n4_ := mk_ ((by rw [hg]; exact (below_size (Short.hB HB)) : w.heap.size ≤ gb282)); have n5_ := mk_ ((by rw [hg]; exact Nat.ne_of_lt (blk_lt (Short.bK BK281)) : gb281 ≠ gb282)); have n6_ := mk_ ((by rw [hg]; exact Nat.ne_of_gt (blk_lt (Short.bK BK281)) : gb282 ≠ gb281)); clear BK281 HB; revert n0_ n1_ n2_ n3_ n4_ n5_ n6_; intro BK281 HB BK282 GW282 GE282 NB281_282 NB282_281; clear hb hbox hg; have hnb26 := NB282_281.out; have hnc26 := NB281_282.out; obtain ⟨hcz27_0, hcz27_1, hfz27_0, hfz27_1⟩ := Short.c2 BK282.out))
  have n0_ : Aside0 (((w25.setCell ⟨gb282, 0, none⟩ (.int .i64 a1_0)).setCell ⟨gb282, 1, none⟩ (.int .i64 a1_1)).heap[gb281]? = some (.cells #[.int .i64 a1_0, .int .i64 a1_1, .slice A1_2 l1_2.length c1_2, .int .i64 a1_3, .int .i64 a1_4, .int .i64 a1_5, .int .i64 a1_6, .int .i64 a1_7, .string a1_8, .int .i64 a1_9, .slice A1_10 l1_10.length c1_10, .slice A1_11 l1_11.length c1_11] 32 (0, 0))) := ⟨by (with_reducible repeat (first | refine blk_drewN ?_ _ | refine blk_drew ?_ | refine blk_alloc ?_ _)); refine blk_far ?_ NB281_282.out _; (with_reducible repeat (first | refine blk_drewN ?_ _ | refine blk_drew ?_ | refine blk_alloc ?_ _)); refine blk_far ?_ NB281_282.out _; (with_reducible repeat (first | refine blk_drewN ?_ _ | refine blk_drew ?_ | refine blk_alloc ?_ _)); exact BK281.out⟩
  have n1_ : Aside0 (((w25.setCell ⟨gb282, 0, none⟩ (.int .i64 a1_0)).setCell ⟨gb282, 1, none⟩ (.int .i64 a1_1)).heap[gb282]? = some (.cells #[.int .i64 a1_0, .int .i64 a1_1] 25 (0, 0))) := ⟨by (with_reducible repeat (first | refine blk_drewN ?_ _ | refine blk_drew ?_ | refine blk_alloc ?_ _)); refine blk_put (cs := #[.int .i64 a1_0, .int .i64 0]) ?_ 1 _ rfl; (with_reducible repeat (first | refine blk_drewN ?_ _ | refine blk_drew ?_ | refine blk_alloc ?_ _)); refine blk_put (cs := #[.int .i64 0, .int .i64 0]) ?_ 0 _ rfl; (with_reducible repeat (first | refine blk_drewN ?_ _ | refine blk_drew ?_ | refine blk_alloc ?_ _)); exact BK282.out⟩
  have n2_ : Aside0 (Below w.heap.size w ((w25.setCell ⟨gb282, 0, none⟩ (.int .i64 a1_0)).setCell ⟨gb282, 1, none⟩ (.int .i64 a1_1))) := ⟨Short.hB HB⟩
  (try clear BK281)
  (try clear BK282)
  (try clear HB)
  generalize ((w25.setCell ⟨gb282, 0, none⟩ (.int .i64 a1_0)).setCell ⟨gb282, 1, none⟩ (.int .i64 a1_1)) = w28 at n0_ n1_ n2_ ⊢
  revert n0_ n1_ n2_
  intro BK281 BK282 HB
  have n0_ := mk_ (blk_drew BK281.out)
  have n1_ := mk_ (blk_drew BK282.out)
  have n2_ := mk_ (below_drew1 HB.out)
  clear BK281 BK282 HB
  revert n0_ n1_ n2_
  intro BK281 BK282 HB
  have p284 : 0 ≤ (a1_0 : Int) := of_decide_eq_true z1_
  have q284 : a1_0 < (l1_2.length : Int) := of_decide_eq_true z1_
  obtain ⟨ad284, e284, hx284_0⟩ := Kd.at_int HR1_2.out a1_0 p284 q284
  have hw284_0 := hx284_0
  cases e284
  replace hx284_0 := up_ HB hx284_0
  replace p284 := eq_true p284
  replace q284 := eq_true q284
  refine start_ (n := 59) (S := fun w' => w'.cell? ⟨gb282, 0, none⟩ = some (.int .i64 a1_0) ∧ w'.cell? ⟨gb282, 1, none⟩ = some (.int .i64 a1_1) ∧ w'.cell? ⟨gb281, 0, none⟩ = some (.int .i64 a1_0) ∧ w'.cell? ⟨gb281, 1, none⟩ = some (.int .i64 a1_1) ∧ w'.cell? ⟨gb281, 2, none⟩ = some (.slice (some ad284) l1_2.length c1_2) ∧ w'.cell? ⟨gb281, 3, none⟩ = some (.int .i64 a1_3) ∧ w'.cell? ⟨gb281, 4, none⟩ = some (.int .i64 a1_4) ∧ w'.cell? ⟨gb281, 5, none⟩ = some (.int .i64 a1_5) ∧ w'.cell? ⟨gb281, 6, none⟩ = some (.int .i64 a1_6) ∧ w'.cell? ⟨gb281, 7, none⟩ = some (.int .i64 a1_7) ∧ w'.cell? ⟨gb281, 8, none⟩ = some (.string a1_8) ∧ w'.cell? ⟨gb281, 9, none⟩ = some (.int .i64 a1_9) ∧ w'.cell? ⟨gb281, 10, none⟩ = some (.slice A1_10 l1_10.length c1_10) ∧ w'.cell? ⟨gb281, 11, none⟩ = some (.slice A1_11 l1_11.length c1_11) ∧ w'.cell? (ad284.add (a1_0).toNat) = some (.int .i64 (rd l1_2 a1_0))) (ds := []) (Steps.Bs 59 0) z0_ rfl rfl ⟨kc_ BK282 0, kc_ BK282 1, kc_ BK281 0, kc_ BK281 1, kc_ BK281 2, kc_ BK281 3, kc_ BK281 4, kc_ BK281 5, kc_ BK281 6, kc_ BK281 7, kc_ BK281 8, kc_ BK281 9, kc_ BK281 10, kc_ BK281 11, ((HB.out.cell (World.block_lt_of_cell? w _ hw284_0)).trans hw284_0)⟩ (fun hHeld => ?_); refine with_tabW op_whole.tab2 op_whole.bits2 (fun HT_ HW_ => ?_)
  generalize w28.drew = w29 at BK281 BK282 HB hx284_0 hHeld ⊢
  refine tI HT_ 0 8 59 1 ?_
  refine tT HT_ HW_ hHeld 1 9 59 3 ?_
  refine tI HT_ 2 10 59 7 ?_
  refine tI HT_ 3 11 59 15 ?_
  refine tI HT_ 4 12 59 31 ?_
  refine tI HT_ 6 14 59 95 ?_
  refine tT HT_ HW_ hHeld 5 13 59 127 ?_
  refine tI HT_ 7 15 59 255 ?_
  refine tI HT_ 8 16 59 511 ?_
  refine tI HT_ 9 17 59 1023 ?_
  refine tI HT_ 10 18 59 2047 ?_
  refine tT HT_ HW_ hHeld 11 19 59 4095 ?_
  refine tI HT_ 12 20 59 8191 ?_
  refine tI HT_ 13 21 59 16383 ?_
  refine tI HT_ 14 22 59 32767 ?_
  refine tI HT_ 15 23 59 65535 ?_
  refine tT HT_ HW_ hHeld 16 24 59 131071 ?_
  refine tI HT_ 17 25 59 262143 ?_
  refine tI HT_ 18 26 59 524287 ?_
  refine tI HT_ 19 27 59 1048575 ?_
  refine tI HT_ 20 28 59 2097151 ?_
  refine tI HT_ 23 31 59 10485759 ?_
  refine tT HT_ HW_ hHeld 21 29 59 12582911 ?_
  refine tI HT_ 22 30 59 16777215 ?_
  refine tI HT_ 24 32 59 33554431 ?_
  refine tI HT_ 25 33 59 67108863 ?_
  refine tI HT_ 26 34 59 134217727 ?_
  refine tI HT_ 27 35 59 268435455 ?_
  refine tT HT_ HW_ hHeld 28 36 59 536870911 ?_
  refine one_ (i := 29) (N := some 37) (Steps.Bs 59 1073741823) rfl rfl (one_of HT_.out z0_) z5_ (fun K hK => ?_)
  refine goes_ Try.func99 z0_ rfl #[.slice (some ad284) l1_2.length c1_2] (by rfl) rfl rfl z2_ ?_
  with_reducible refine (dot_Check.calls k _ _ l1_2 t283 _ ?side1 ?side2 A8.out).mono ?_
  (case side1 => exact cX_ (C_below HR1_2.out HB.out))
  (case side2 => exact HC1_2.out)
  rintro e w' ⟨rfl, ⟨nd, rfl⟩⟩
  refine ⟨_, rfl, ?_⟩
  refine hK.out _ _ ⟨kc_ BK282 0, kc_ BK282 1, kc_ BK281 0, kc_ BK281 1, kc_ BK281 2, kc_ BK281 3, kc_ BK281 4, kc_ BK281 5, kc_ BK281 6, kc_ BK281 7, kc_ BK281 8, kc_ BK281 9, kc_ BK281 10, kc_ BK281 11, ((HB.out.cell (World.block_lt_of_cell? w _ hw284_0)).trans hw284_0)⟩ (fun hHeld => ?_)
  clear hK K
  refine nrm 37 ?_
  refine tI HT_ 30 38 59 2147483647 ?_
  refine tI HT_ 31 39 59 4294967295 ?_
  refine tI HT_ 32 40 59 8589934591 ?_
  refine tI HT_ 33 41 59 17179869183 ?_
  refine tI HT_ 35 43 59 51539607551 ?_
  refine tI HT_ 39 47 59 601295421439 ?_
  refine tT HT_ HW_ hHeld 34 42 59 618475290623 ?_
  refine tT HT_ HW_ hHeld 36 44 59 687194767359 ?_
  refine tI HT_ 37 45 59 824633720831 ?_
  refine tT HT_ HW_ hHeld 38 46 59 1099511627775 ?_
  refine tT HT_ HW_ hHeld 40 48 59 2199023255551 ?_
  refine tI HT_ 41 49 59 4398046511103 ?_
  refine tI HT_ 42 50 59 8796093022207 ?_
  refine tI HT_ 43 51 59 17592186044415 ?_
  refine tI HT_ 44 52 59 35184372088831 ?_
  refine tI HT_ 45 53 59 70368744177663 ?_
  refine tT HT_ HW_ hHeld 46 54 59 140737488355327 ?_
  refine one_ (i := 47) (N := some 55) (Steps.Bs 59 281474976710655) rfl rfl (one_of HT_.out z0_) z5_ (fun K hK => ?_)
  refine goes_ Try.func100 z0_ rfl #[.agg #[.int .i64 a1_3, .int .i64 a1_4, .int .i64 a1_5]] (by rfl) rfl rfl z2_ ?_
  with_reducible refine (hlc_Check.calls a1_3 a1_4 a1_5 t285 _ A13.out).mono ?_
  rintro e w30 ⟨rfl, hb⟩
  refine ⟨_, rfl, ?_⟩
  have n0_ := mk_ (bB_ BK281 hb)
  have n1_ := mk_ (bB_ BK282 hb)
  have n2_ := mk_ (below_step (Short.hB HB) hb)
  clear BK281 BK282 HB
  revert n0_ n1_ n2_
  intro BK281 BK282 HB
  (try clear hb)
  (try clear hb2)
  (try clear hk)
  (try clear hi)
  refine hK.out _ _ ⟨kc_ BK282 0, kc_ BK282 1, kc_ BK281 0, kc_ BK281 1, kc_ BK281 2, kc_ BK281 3, kc_ BK281 4, kc_ BK281 5, kc_ BK281 6, kc_ BK281 7, kc_ BK281 8, kc_ BK281 9, kc_ BK281 10, kc_ BK281 11, ((HB.out.cell (World.block_lt_of_cell? w _ hw284_0)).trans hw284_0)⟩ (fun hHeld => ?_)
  clear hK K
  refine nrm 55 ?_
  refine tI HT_ 48 56 59 562949953421311 ?_
  refine tI HT_ 49 57 59 1125899906842623 ?_
  refine tI HT_ 50 58 59 2251799813685247 ?_
  refine tR HT_ 51 59 59 4503599627370495 ?_
  refine tR HT_ 52 60 59 9007199254740991 ?_
  refine tR HT_ 53 61 59 18014398509481983 ?_
  refine tR HT_ 54 62 59 36028797018963967 ?_
  refine tR HT_ 55 63 59 72057594037927935 ?_
  refine tR HT_ 56 64 59 144115188075855871 ?_
  refine tI HT_ 57 65 59 288230376151711743 ?_
  refine tI HT_ 58 4 59 576460752303423487 ?_
  refine done_ (done_of HT_.out z0_) ?_
  try go_wp2
  go_ret
  exact ⟨q0, Short.hB HB⟩
 rw [if_pos c14] at H
 have c14b0 : (t285 == 0) = true := beq_iff_eq.mpr c14
 have c14b1 : (t285 != 0) = false := bne_eq_false_iff_eq.mpr c14
 clear c14
 obtain rfl := Option.some.inj H
 go_enter Try.func73, Try.ntmps73
 try go_wp2_with (first | ((with_reducible refine gate_dst (N := 3) rfl ?_); (try (refine gate_guard (by rfl) ?_; dsimp only)); refine box_event ?hg (N := 3) ?hd (cs := #[.int .i64 a1_0, .int .i64 a1_1, .slice A1_2 l1_2.length c1_2, .int .i64 a1_3, .int .i64 a1_4, .int .i64 a1_5, .int .i64 a1_6, .int .i64 a1_7, .string a1_8, .int .i64 a1_9, .slice A1_10 l1_10.length c1_10, .slice A1_11 l1_11.length c1_11]) (t := 32) ?hr ?_; (case hd => rfl); (case hg => rfl); (case hr => first | (go_simp; done) | (go_simp; rfl)); intro gb281 hg w15 hbox hb; have n0_ := mk_ (below_step (Short.hB HB) hb); have n1_ := mk_ (hbox); have n2_ := mk_ ((by rw [hg]; exact (below_size (Short.hB HB)) : w.heap.size ≤ gb281)); have n3_ := mk_ ((by rw [hg]; exact (below_size (Short.hB HB)) : w.heap.size ≤ gb281)); clear HB; revert n0_ n1_ n2_ n3_; intro HB BK281 GW281 GE281; clear hb hbox hg; have hcz16_0 := blk_cell BK281.out; have hfz16_0 := blk_frozen BK281.out) | ((with_reducible refine gate_dst (N := 5) rfl ?_); (try (refine gate_guard (by rfl) ?_; dsimp only)); refine box_event ?hg (N := 5) ?hd (cs := #[.int .i64 0, .int .i64 0]) (t := 25) ?hr ?_; (case hd => rfl); (case hg => rfl); (case hr => first | (go_simp; done) | (go_simp; rfl)); intro gb282 hg w17 hbox hb; have n0_ := mk_ (bB_ BK281 hb); have n1_ := mk_ (below_step (Short.hB HB) hb); have n2_ := mk_ (hbox); have n3_ := mk_ ((by rw [hg]; exact (below_size (Short.hB HB)) : w.heap.size ≤ gb282)); have n4_ := mk_ ((by rw [hg]; exact (below_size (Short.hB HB)) : w.heap.size ≤ gb282)); have n5_ := mk_ ((by rw [hg]; exact Nat.ne_of_lt (blk_lt (Short.bK BK281)) : gb281 ≠ gb282)); have n6_ := mk_ ((by rw [hg]; exact Nat.ne_of_gt (blk_lt (Short.bK BK281)) : gb282 ≠ gb281)); clear BK281 HB; revert n0_ n1_ n2_ n3_ n4_ n5_ n6_; intro BK281 HB BK282 GW282 GE282 NB281_282 NB282_281; clear hb hbox hg; have hnb18 := NB282_281.out; have hnc18 := NB281_282.out; obtain ⟨hcz19_0, hcz19_1, hfz19_0, hfz19_1⟩ := Short.c2 BK282.out))
 have n0_ : Aside0 (((w17.setCell ⟨gb282, 0, none⟩ (.int .i64 a1_0)).setCell ⟨gb282, 1, none⟩ (.int .i64 a1_1)).heap[gb281]? = some (.cells #[.int .i64 a1_0, .int .i64 a1_1, .slice A1_2 l1_2.length c1_2, .int .i64 a1_3, .int .i64 a1_4, .int .i64 a1_5, .int .i64 a1_6, .int .i64 a1_7, .string a1_8, .int .i64 a1_9, .slice A1_10 l1_10.length c1_10, .slice A1_11 l1_11.length c1_11] 32 (0, 0))) := ⟨by (with_reducible repeat (first | refine blk_drewN ?_ _ | refine blk_drew ?_ | refine blk_alloc ?_ _)); refine blk_far ?_ NB281_282.out _; (with_reducible repeat (first | refine blk_drewN ?_ _ | refine blk_drew ?_ | refine blk_alloc ?_ _)); refine blk_far ?_ NB281_282.out _; (with_reducible repeat (first | refine blk_drewN ?_ _ | refine blk_drew ?_ | refine blk_alloc ?_ _)); exact BK281.out⟩
 have n1_ : Aside0 (((w17.setCell ⟨gb282, 0, none⟩ (.int .i64 a1_0)).setCell ⟨gb282, 1, none⟩ (.int .i64 a1_1)).heap[gb282]? = some (.cells #[.int .i64 a1_0, .int .i64 a1_1] 25 (0, 0))) := ⟨by (with_reducible repeat (first | refine blk_drewN ?_ _ | refine blk_drew ?_ | refine blk_alloc ?_ _)); refine blk_put (cs := #[.int .i64 a1_0, .int .i64 0]) ?_ 1 _ rfl; (with_reducible repeat (first | refine blk_drewN ?_ _ | refine blk_drew ?_ | refine blk_alloc ?_ _)); refine blk_put (cs := #[.int .i64 0, .int .i64 0]) ?_ 0 _ rfl; (with_reducible repeat (first | refine blk_drewN ?_ _ | refine blk_drew ?_ | refine blk_alloc ?_ _)); exact BK282.out⟩
 have n2_ : Aside0 (Below w.heap.size w ((w17.setCell ⟨gb282, 0, none⟩ (.int .i64 a1_0)).setCell ⟨gb282, 1, none⟩ (.int .i64 a1_1))) := ⟨Short.hB HB⟩
 (try clear BK281)
 (try clear BK282)
 (try clear HB)
 generalize ((w17.setCell ⟨gb282, 0, none⟩ (.int .i64 a1_0)).setCell ⟨gb282, 1, none⟩ (.int .i64 a1_1)) = w20 at n0_ n1_ n2_ ⊢
 revert n0_ n1_ n2_
 intro BK281 BK282 HB
 have n0_ := mk_ (blk_drew BK281.out)
 have n1_ := mk_ (blk_drew BK282.out)
 have n2_ := mk_ (below_drew1 HB.out)
 clear BK281 BK282 HB
 revert n0_ n1_ n2_
 intro BK281 BK282 HB
 have p284 : 0 ≤ (a1_0 : Int) := of_decide_eq_true z1_
 have q284 : a1_0 < (l1_2.length : Int) := of_decide_eq_true z1_
 obtain ⟨ad284, e284, hx284_0⟩ := Kd.at_int HR1_2.out a1_0 p284 q284
 have hw284_0 := hx284_0
 cases e284
 replace hx284_0 := up_ HB hx284_0
 replace p284 := eq_true p284
 replace q284 := eq_true q284
 refine start_ (n := 59) (S := fun w' => w'.cell? ⟨gb282, 0, none⟩ = some (.int .i64 a1_0) ∧ w'.cell? ⟨gb282, 1, none⟩ = some (.int .i64 a1_1) ∧ w'.cell? ⟨gb281, 0, none⟩ = some (.int .i64 a1_0) ∧ w'.cell? ⟨gb281, 1, none⟩ = some (.int .i64 a1_1) ∧ w'.cell? ⟨gb281, 2, none⟩ = some (.slice (some ad284) l1_2.length c1_2) ∧ w'.cell? ⟨gb281, 3, none⟩ = some (.int .i64 a1_3) ∧ w'.cell? ⟨gb281, 4, none⟩ = some (.int .i64 a1_4) ∧ w'.cell? ⟨gb281, 5, none⟩ = some (.int .i64 a1_5) ∧ w'.cell? ⟨gb281, 6, none⟩ = some (.int .i64 a1_6) ∧ w'.cell? ⟨gb281, 7, none⟩ = some (.int .i64 a1_7) ∧ w'.cell? ⟨gb281, 8, none⟩ = some (.string a1_8) ∧ w'.cell? ⟨gb281, 9, none⟩ = some (.int .i64 a1_9) ∧ w'.cell? ⟨gb281, 10, none⟩ = some (.slice A1_10 l1_10.length c1_10) ∧ w'.cell? ⟨gb281, 11, none⟩ = some (.slice A1_11 l1_11.length c1_11) ∧ w'.cell? (ad284.add (a1_0).toNat) = some (.int .i64 (rd l1_2 a1_0))) (ds := []) (Steps.Bs 59 0) z0_ rfl rfl ⟨kc_ BK282 0, kc_ BK282 1, kc_ BK281 0, kc_ BK281 1, kc_ BK281 2, kc_ BK281 3, kc_ BK281 4, kc_ BK281 5, kc_ BK281 6, kc_ BK281 7, kc_ BK281 8, kc_ BK281 9, kc_ BK281 10, kc_ BK281 11, ((HB.out.cell (World.block_lt_of_cell? w _ hw284_0)).trans hw284_0)⟩ (fun hHeld => ?_); refine with_tabW op_whole.tab2 op_whole.bits2 (fun HT_ HW_ => ?_)
 generalize w20.drew = w21 at BK281 BK282 HB hx284_0 hHeld ⊢
 refine tI HT_ 0 8 59 1 ?_
 refine tT HT_ HW_ hHeld 1 9 59 3 ?_
 refine tI HT_ 2 10 59 7 ?_
 refine tI HT_ 3 11 59 15 ?_
 refine tI HT_ 4 12 59 31 ?_
 refine tI HT_ 6 14 59 95 ?_
 refine tT HT_ HW_ hHeld 5 13 59 127 ?_
 refine tI HT_ 7 15 59 255 ?_
 refine tI HT_ 8 16 59 511 ?_
 refine tI HT_ 9 17 59 1023 ?_
 refine tI HT_ 10 18 59 2047 ?_
 refine tT HT_ HW_ hHeld 11 19 59 4095 ?_
 refine tI HT_ 12 20 59 8191 ?_
 refine tI HT_ 13 21 59 16383 ?_
 refine tI HT_ 14 22 59 32767 ?_
 refine tI HT_ 15 23 59 65535 ?_
 refine tT HT_ HW_ hHeld 16 24 59 131071 ?_
 refine tI HT_ 17 25 59 262143 ?_
 refine tI HT_ 18 26 59 524287 ?_
 refine tI HT_ 19 27 59 1048575 ?_
 refine tI HT_ 20 28 59 2097151 ?_
 refine tI HT_ 23 31 59 10485759 ?_
 refine tT HT_ HW_ hHeld 21 29 59 12582911 ?_
 refine tI HT_ 22 30 59 16777215 ?_
 refine tI HT_ 24 32 59 33554431 ?_
 refine tI HT_ 25 33 59 67108863 ?_
 refine tI HT_ 26 34 59 134217727 ?_
 refine tI HT_ 27 35 59 268435455 ?_
 refine tT HT_ HW_ hHeld 28 36 59 536870911 ?_
 refine one_ (i := 29) (N := some 37) (Steps.Bs 59 1073741823) rfl rfl (one_of HT_.out z0_) z5_ (fun K hK => ?_)
 refine goes_ Try.func99 z0_ rfl #[.slice (some ad284) l1_2.length c1_2] (by rfl) rfl rfl z2_ ?_
 with_reducible refine (dot_Check.calls k _ _ l1_2 t283 _ ?side1 ?side2 A8.out).mono ?_
 (case side1 => exact cX_ (C_below HR1_2.out HB.out))
 (case side2 => exact HC1_2.out)
 rintro e w' ⟨rfl, ⟨nd, rfl⟩⟩
 refine ⟨_, rfl, ?_⟩
 refine hK.out _ _ ⟨kc_ BK282 0, kc_ BK282 1, kc_ BK281 0, kc_ BK281 1, kc_ BK281 2, kc_ BK281 3, kc_ BK281 4, kc_ BK281 5, kc_ BK281 6, kc_ BK281 7, kc_ BK281 8, kc_ BK281 9, kc_ BK281 10, kc_ BK281 11, ((HB.out.cell (World.block_lt_of_cell? w _ hw284_0)).trans hw284_0)⟩ (fun hHeld => ?_)
 clear hK K
 refine nrm 37 ?_
 refine tI HT_ 30 38 59 2147483647 ?_
 refine tI HT_ 31 39 59 4294967295 ?_
 refine tI HT_ 32 40 59 8589934591 ?_
 refine tI HT_ 33 41 59 17179869183 ?_
 refine tI HT_ 35 43 59 51539607551 ?_
 refine tI HT_ 39 47 59 601295421439 ?_
 refine tT HT_ HW_ hHeld 34 42 59 618475290623 ?_
 refine tT HT_ HW_ hHeld 36 44 59 687194767359 ?_
 refine tI HT_ 37 45 59 824633720831 ?_
 refine tT HT_ HW_ hHeld 38 46 59 1099511627775 ?_
 refine tT HT_ HW_ hHeld 40 48 59 2199023255551 ?_
 refine tI HT_ 41 49 59 4398046511103 ?_
 refine tI HT_ 42 50 59 8796093022207 ?_
 refine tI HT_ 43 51 59 17592186044415 ?_
 refine tI HT_ 44 52 59 35184372088831 ?_
 refine tI HT_ 45 53 59 70368744177663 ?_
 refine tT HT_ HW_ hHeld 46 54 59 140737488355327 ?_
 refine one_ (i := 47) (N := some 55) (Steps.Bs 59 281474976710655) rfl rfl (one_of HT_.out z0_) z5_ (fun K hK => ?_)
 refine goes_ Try.func100 z0_ rfl #[.agg #[.int .i64 a1_3, .int .i64 a1_4, .int .i64 a1_5]] (by rfl) rfl rfl z2_ ?_
 with_reducible refine (hlc_Check.calls a1_3 a1_4 a1_5 t285 _ A13.out).mono ?_
 rintro e w22 ⟨rfl, hb⟩
 refine ⟨_, rfl, ?_⟩
 have n0_ := mk_ (bB_ BK281 hb)
 have n1_ := mk_ (bB_ BK282 hb)
 have n2_ := mk_ (below_step (Short.hB HB) hb)
 clear BK281 BK282 HB
 revert n0_ n1_ n2_
 intro BK281 BK282 HB
 (try clear hb)
 (try clear hb2)
 (try clear hk)
 (try clear hi)
 refine hK.out _ _ ⟨kc_ BK282 0, kc_ BK282 1, kc_ BK281 0, kc_ BK281 1, kc_ BK281 2, kc_ BK281 3, kc_ BK281 4, kc_ BK281 5, kc_ BK281 6, kc_ BK281 7, kc_ BK281 8, kc_ BK281 9, kc_ BK281 10, kc_ BK281 11, ((HB.out.cell (World.block_lt_of_cell? w _ hw284_0)).trans hw284_0)⟩ (fun hHeld => ?_)
 clear hK K
 refine nrm 55 ?_
 refine tI HT_ 48 56 59 562949953421311 ?_
 refine tI HT_ 49 57 59 1125899906842623 ?_
 refine tI HT_ 50 58 59 2251799813685247 ?_
 refine tI HT_ 51 59 59 4503599627370495 ?_
 refine tI HT_ 52 60 59 9007199254740991 ?_
 refine tI HT_ 54 62 59 27021597764222975 ?_
 refine tT HT_ HW_ hHeld 53 61 59 36028797018963967 ?_
 refine tT HT_ HW_ hHeld 55 63 59 72057594037927935 ?_
 refine tI HT_ 56 64 59 144115188075855871 ?_
 refine tI HT_ 57 65 59 288230376151711743 ?_
 refine tI HT_ 58 4 59 576460752303423487 ?_
 refine done_ (done_of HT_.out z0_) ?_
 try go_wp2
 go_ret
 exact ⟨q0, Short.hB HB⟩
end Go.Proofs.Ytjnjfogfpmeacaa.PAll
end
section
namespace Go.Proofs.Ytjnjfogfpmeacaa.PAll
open Go.RowKit PrintWords PrintLast PrintMore ZipT PrintWords.Kd PrintMore.Kd
attribute [local go_sem] max2_int min2_int max_two min_two max_three min_three max_four min_four   -- for this text's walks alone
set_option linter.unusedVariables false
set_option linter.unusedSimpArgs false
def value_Fits.f (a0_0 : Int) (a0_1 : Int) (a0_2 : ByteArray) (a1 : Int) : Option (Bool) := if a1 = 2 then ((value_Check.f a0_0 a0_1 a0_2).bind fun t287 => (if t287 = 0 then (if a0_0 = a1 then (some true) else (some (a0_0 == 1))) else (some false))) else (if a1 = 3 then ((value_Check.f a0_0 a0_1 a0_2).bind fun t288 => (if t288 = 0 then (if a0_0 = a1 then (some true) else (some (a0_0 == 1))) else (some false))) else (if a1 = 4 then ((value_Check.f a0_0 a0_1 a0_2).bind fun t289 => (if t289 = 0 then (if a0_0 = a1 then (some true) else (some (a0_0 == 1))) else (some false))) else (some false)))
theorem value_Fits.calls (a0_0 : Int) (a0_1 : Int) (a0_2 : ByteArray) (a1 : Int) (r : Bool) (w : World) (h : value_Fits.f a0_0 a0_1 a0_2 a1 = some r) :
  Calls Try.prog 116 #[.agg #[.int .i64 a0_0, .int .i64 a0_1, .string a0_2], .int .i64 a1] w fun e w' => e = .returned (.bool r) ∧ Below w.heap.size w w' := by
 have hu84 := Try.underlying84
 have HB := mk_ (Below.refl w.heap.size w)
 have H : (if a1 = 2 then ((value_Check.f a0_0 a0_1 a0_2).bind fun t287 => (if t287 = 0 then (if a0_0 = a1 then (some true) else (some (a0_0 == 1))) else (some false))) else (if a1 = 3 then ((value_Check.f a0_0 a0_1 a0_2).bind fun t288 => (if t288 = 0 then (if a0_0 = a1 then (some true) else (some (a0_0 == 1))) else (some false))) else (if a1 = 4 then ((value_Check.f a0_0 a0_1 a0_2).bind fun t289 => (if t289 = 0 then (if a0_0 = a1 then (some true) else (some (a0_0 == 1))) else (some false))) else (some false)))) = some r := h
 clear h
 by_cases c3 : a1 = 2
 ·
  rw [if_pos c3] at H
  have c3b0 : (a1 == 2) = true := beq_iff_eq.mpr c3
  have c3b1 : (a1 != 2) = false := bne_eq_false_iff_eq.mpr c3
  clear c3
  replace H := Option.bind_eq_some_iff.mp H
  obtain ⟨t287, A40, H⟩ := H
  replace H : (if t287 = 0 then (if a0_0 = a1 then (some true) else (some (a0_0 == 1))) else (some false)) = some r := H
  have A4 := mk_ A40
  clear A40
  by_cases c5 : t287 = 0
  rotate_left
  ·
   rw [if_neg c5] at H
   have c5b0 : (t287 == 0) = false := beq_eq_false_iff_ne.mpr c5
   have c5b1 : (t287 != 0) = true := bne_iff_ne.mpr c5
   obtain rfl := Option.some.inj H
   go_enter Try.func116, Try.ntmps116
   go_wp2_with (first | ((with_reducible refine gate_dst (N := 2) rfl ?_); refine box_event ?hg (N := 2) ?hd (cs := #[.int .i64 a0_0, .int .i64 a0_1, .string a0_2]) (t := 84) ?hr ?_; (case hd => rfl); (case hg => rfl); (case hr => first | (go_simp; done) | (go_simp; rfl)); intro gb286 hg w15 hbox hb; have n0_ := mk_ (below_step (Short.hB HB) hb); have n1_ := mk_ (hbox); have n2_ := mk_ ((by rw [hg]; exact (below_size (Short.hB HB)) : w.heap.size ≤ gb286)); have n3_ := mk_ ((by rw [hg]; exact (below_size (Short.hB HB)) : w.heap.size ≤ gb286)); clear HB; revert n0_ n1_ n2_ n3_; intro HB BK286 GW286 GE286; clear hb hbox hg; obtain ⟨hcz16_0, hcz16_1, hcz16_2, hfz16_0, hfz16_1, hfz16_2⟩ := Short.c3 BK286.out) | (go_at_call 87; (with_reducible refine (value_Check.calls a0_0 a0_1 a0_2 t287 _ A4.out).mono ?_); rintro e w17 ⟨rfl, hb⟩; have n0_ := mk_ (bB_ BK286 hb); have n1_ := mk_ (below_step (Short.hB HB) hb); clear BK286 HB; revert n0_ n1_; intro BK286 HB; (try clear hb); (try clear hb2); (try clear hk); (try clear hi)))
   go_ret
   exact ⟨q0, Short.hB HB⟩
  rw [if_pos c5] at H
  have c5b0 : (t287 == 0) = true := beq_iff_eq.mpr c5
  have c5b1 : (t287 != 0) = false := bne_eq_false_iff_eq.mpr c5
  clear c5
  by_cases c6 : a0_0 = a1
  rotate_left
  ·
   rw [if_neg c6] at H
   have c6b0 : (a0_0 == a1) = false := beq_eq_false_iff_ne.mpr c6
   have c6b1 : (a0_0 != a1) = true := bne_iff_ne.mpr c6
   obtain rfl := Option.some.inj H
   go_enter Try.func116, Try.ntmps116
   go_wp2_with (first | ((with_reducible refine gate_dst (N := 2) rfl ?_); refine box_event ?hg (N := 2) ?hd (cs := #[.int .i64 a0_0, .int .i64 a0_1, .string a0_2]) (t := 84) ?hr ?_; (case hd => rfl); (case hg => rfl); (case hr => first | (go_simp; done) | (go_simp; rfl)); intro gb286 hg w11 hbox hb; have n0_ := mk_ (below_step (Short.hB HB) hb); have n1_ := mk_ (hbox); have n2_ := mk_ ((by rw [hg]; exact (below_size (Short.hB HB)) : w.heap.size ≤ gb286)); have n3_ := mk_ ((by rw [hg]; exact (below_size (Short.hB HB)) : w.heap.size ≤ gb286)); clear HB; revert n0_ n1_ n2_ n3_; intro HB BK286 GW286 GE286; clear hb hbox hg; obtain ⟨hcz12_0, hcz12_1, hcz12_2, hfz12_0, hfz12_1, hfz12_2⟩ := Short.c3 BK286.out) | (go_at_call 87; (with_reducible refine (value_Check.calls a0_0 a0_1 a0_2 t287 _ A4.out).mono ?_); rintro e w13 ⟨rfl, hb⟩; have n0_ := mk_ (bB_ BK286 hb); have n1_ := mk_ (below_step (Short.hB HB) hb); clear BK286 HB; revert n0_ n1_; intro BK286 HB; (try clear hb); (try clear hb2); (try clear hk); (try clear hi); obtain ⟨hcz14_0, hcz14_1, hcz14_2, hfz14_0, hfz14_1, hfz14_2⟩ := Short.c3 BK286.out))
   go_ret
   exact ⟨q0, Short.hB HB⟩
  rw [if_pos c6] at H
  have c6b0 : (a0_0 == a1) = true := beq_iff_eq.mpr c6
  have c6b1 : (a0_0 != a1) = false := bne_eq_false_iff_eq.mpr c6
  clear c6
  obtain rfl := Option.some.inj H
  go_enter Try.func116, Try.ntmps116
  go_wp2_with (first | ((with_reducible refine gate_dst (N := 2) rfl ?_); refine box_event ?hg (N := 2) ?hd (cs := #[.int .i64 a0_0, .int .i64 a0_1, .string a0_2]) (t := 84) ?hr ?_; (case hd => rfl); (case hg => rfl); (case hr => first | (go_simp; done) | (go_simp; rfl)); intro gb286 hg w7 hbox hb; have n0_ := mk_ (below_step (Short.hB HB) hb); have n1_ := mk_ (hbox); have n2_ := mk_ ((by rw [hg]; exact (below_size (Short.hB HB)) : w.heap.size ≤ gb286)); have n3_ := mk_ ((by rw [hg]; exact (below_size (Short.hB HB)) : w.heap.size ≤ gb286)); clear HB; revert n0_ n1_ n2_ n3_; intro HB BK286 GW286 GE286; clear hb hbox hg; obtain ⟨hcz8_0, hcz8_1, hcz8_2, hfz8_0, hfz8_1, hfz8_2⟩ := Short.c3 BK286.out) | (go_at_call 87; (with_reducible refine (value_Check.calls a0_0 a0_1 a0_2 t287 _ A4.out).mono ?_); rintro e w9 ⟨rfl, hb⟩; have n0_ := mk_ (bB_ BK286 hb); have n1_ := mk_ (below_step (Short.hB HB) hb); clear BK286 HB; revert n0_ n1_; intro BK286 HB; (try clear hb); (try clear hb2); (try clear hk); (try clear hi); obtain ⟨hcz10_0, hcz10_1, hcz10_2, hfz10_0, hfz10_1, hfz10_2⟩ := Short.c3 BK286.out))
  go_ret
  exact ⟨q0, Short.hB HB⟩
 rw [if_neg c3] at H
 have c3b0 : (a1 == 2) = false := beq_eq_false_iff_ne.mpr c3
 have c3b1 : (a1 != 2) = true := bne_iff_ne.mpr c3
 by_cases c18 : a1 = 3
 ·
  rw [if_pos c18] at H
  have c18b0 : (a1 == 3) = true := beq_iff_eq.mpr c18
  have c18b1 : (a1 != 3) = false := bne_eq_false_iff_eq.mpr c18
  clear c18
  replace H := Option.bind_eq_some_iff.mp H
  obtain ⟨t288, A190, H⟩ := H
  replace H : (if t288 = 0 then (if a0_0 = a1 then (some true) else (some (a0_0 == 1))) else (some false)) = some r := H
  have A19 := mk_ A190
  clear A190
  by_cases c20 : t288 = 0
  rotate_left
  ·
   rw [if_neg c20] at H
   have c20b0 : (t288 == 0) = false := beq_eq_false_iff_ne.mpr c20
   have c20b1 : (t288 != 0) = true := bne_iff_ne.mpr c20
   obtain rfl := Option.some.inj H
   go_enter Try.func116, Try.ntmps116
   go_wp2_with (first | ((with_reducible refine gate_dst (N := 2) rfl ?_); refine box_event ?hg (N := 2) ?hd (cs := #[.int .i64 a0_0, .int .i64 a0_1, .string a0_2]) (t := 84) ?hr ?_; (case hd => rfl); (case hg => rfl); (case hr => first | (go_simp; done) | (go_simp; rfl)); intro gb286 hg w30 hbox hb; have n0_ := mk_ (below_step (Short.hB HB) hb); have n1_ := mk_ (hbox); have n2_ := mk_ ((by rw [hg]; exact (below_size (Short.hB HB)) : w.heap.size ≤ gb286)); have n3_ := mk_ ((by rw [hg]; exact (below_size (Short.hB HB)) : w.heap.size ≤ gb286)); clear HB; revert n0_ n1_ n2_ n3_; intro HB BK286 GW286 GE286; clear hb hbox hg; obtain ⟨hcz31_0, hcz31_1, hcz31_2, hfz31_0, hfz31_1, hfz31_2⟩ := Short.c3 BK286.out) | (go_at_call 87; (with_reducible refine (value_Check.calls a0_0 a0_1 a0_2 t288 _ A19.out).mono ?_); rintro e w32 ⟨rfl, hb⟩; have n0_ := mk_ (bB_ BK286 hb); have n1_ := mk_ (below_step (Short.hB HB) hb); clear BK286 HB; revert n0_ n1_; intro BK286 HB; (try clear hb); (try clear hb2); (try clear hk); (try clear hi)))
   go_ret
   exact ⟨q0, Short.hB HB⟩
  rw [if_pos c20] at H
  have c20b0 : (t288 == 0) = true := beq_iff_eq.mpr c20
  have c20b1 : (t288 != 0) = false := bne_eq_false_iff_eq.mpr c20
  clear c20
  by_cases c21 : a0_0 = a1
  rotate_left
  ·
   rw [if_neg c21] at H
   have c21b0 : (a0_0 == a1) = false := beq_eq_false_iff_ne.mpr c21
   have c21b1 : (a0_0 != a1) = true := bne_iff_ne.mpr c21
   obtain rfl := Option.some.inj H
   go_enter Try.func116, Try.ntmps116
   go_wp2_with (first | ((with_reducible refine gate_dst (N := 2) rfl ?_); refine box_event ?hg (N := 2) ?hd (cs := #[.int .i64 a0_0, .int .i64 a0_1, .string a0_2]) (t := 84) ?hr ?_; (case hd => rfl); (case hg => rfl); (case hr => first | (go_simp; done) | (go_simp; rfl)); intro gb286 hg w26 hbox hb; have n0_ := mk_ (below_step (Short.hB HB) hb); have n1_ := mk_ (hbox); have n2_ := mk_ ((by rw [hg]; exact (below_size (Short.hB HB)) : w.heap.size ≤ gb286)); have n3_ := mk_ ((by rw [hg]; exact (below_size (Short.hB HB)) : w.heap.size ≤ gb286)); clear HB; revert n0_ n1_ n2_ n3_; intro HB BK286 GW286 GE286; clear hb hbox hg; obtain ⟨hcz27_0, hcz27_1, hcz27_2, hfz27_0, hfz27_1, hfz27_2⟩ := Short.c3 BK286.out) | (go_at_call 87; (with_reducible refine (value_Check.calls a0_0 a0_1 a0_2 t288 _ A19.out).mono ?_); rintro e w28 ⟨rfl, hb⟩; have n0_ := mk_ (bB_ BK286 hb); have n1_ := mk_ (below_step (Short.hB HB) hb); clear BK286 HB; revert n0_ n1_; intro BK286 HB; (try clear hb); (try clear hb2); (try clear hk); (try clear hi); obtain ⟨hcz29_0, hcz29_1, hcz29_2, hfz29_0, hfz29_1, hfz29_2⟩ := Short.c3 BK286.out))
   go_ret
   exact ⟨q0, Short.hB HB⟩
  rw [if_pos c21] at H
  have c21b0 : (a0_0 == a1) = true := beq_iff_eq.mpr c21
  have c21b1 : (a0_0 != a1) = false := bne_eq_false_iff_eq.mpr c21
  clear c21
  obtain rfl := Option.some.inj H
  go_enter Try.func116, Try.ntmps116
  go_wp2_with (first | ((with_reducible refine gate_dst (N := 2) rfl ?_); refine box_event ?hg (N := 2) ?hd (cs := #[.int .i64 a0_0, .int .i64 a0_1, .string a0_2]) (t := 84) ?hr ?_; (case hd => rfl); (case hg => rfl); (case hr => first | (go_simp; done) | (go_simp; rfl)); intro gb286 hg w22 hbox hb; have n0_ := mk_ (below_step (Short.hB HB) hb); have n1_ := mk_ (hbox); have n2_ := mk_ ((by rw [hg]; exact (below_size (Short.hB HB)) : w.heap.size ≤ gb286)); have n3_ := mk_ ((by rw [hg]; exact (below_size (Short.hB HB)) : w.heap.size ≤ gb286)); clear HB; revert n0_ n1_ n2_ n3_; intro HB BK286 GW286 GE286; clear hb hbox hg; obtain ⟨hcz23_0, hcz23_1, hcz23_2, hfz23_0, hfz23_1, hfz23_2⟩ := Short.c3 BK286.out) | (go_at_call 87; (with_reducible refine (value_Check.calls a0_0 a0_1 a0_2 t288 _ A19.out).mono ?_); rintro e w24 ⟨rfl, hb⟩; have n0_ := mk_ (bB_ BK286 hb); have n1_ := mk_ (below_step (Short.hB HB) hb); clear BK286 HB; revert n0_ n1_; intro BK286 HB; (try clear hb); (try clear hb2); (try clear hk); (try clear hi); obtain ⟨hcz25_0, hcz25_1, hcz25_2, hfz25_0, hfz25_1, hfz25_2⟩ := Short.c3 BK286.out))
  go_ret
  exact ⟨q0, Short.hB HB⟩
 rw [if_neg c18] at H
 have c18b0 : (a1 == 3) = false := beq_eq_false_iff_ne.mpr c18
 have c18b1 : (a1 != 3) = true := bne_iff_ne.mpr c18
 by_cases c33 : a1 = 4
 rotate_left
 ·
  rw [if_neg c33] at H
  have c33b0 : (a1 == 4) = false := beq_eq_false_iff_ne.mpr c33
  have c33b1 : (a1 != 4) = true := bne_iff_ne.mpr c33
  obtain rfl := Option.some.inj H
  go_enter Try.func116, Try.ntmps116
  go_wp2_with (first | ((with_reducible refine gate_dst (N := 2) rfl ?_); refine box_event ?hg (N := 2) ?hd (cs := #[.int .i64 a0_0, .int .i64 a0_1, .string a0_2]) (t := 84) ?hr ?_; (case hd => rfl); (case hg => rfl); (case hr => first | (go_simp; done) | (go_simp; rfl)); intro gb286 hg w48 hbox hb; have n0_ := mk_ (below_step (Short.hB HB) hb); have n1_ := mk_ (hbox); have n2_ := mk_ ((by rw [hg]; exact (below_size (Short.hB HB)) : w.heap.size ≤ gb286)); have n3_ := mk_ ((by rw [hg]; exact (below_size (Short.hB HB)) : w.heap.size ≤ gb286)); clear HB; revert n0_ n1_ n2_ n3_; intro HB BK286 GW286 GE286; clear hb hbox hg))
  go_ret
  exact ⟨q0, Short.hB HB⟩
 rw [if_pos c33] at H
 have c33b0 : (a1 == 4) = true := beq_iff_eq.mpr c33
 have c33b1 : (a1 != 4) = false := bne_eq_false_iff_eq.mpr c33
 clear c33
 replace H := Option.bind_eq_some_iff.mp H
 obtain ⟨t289, A340, H⟩ := H
 replace H : (if t289 = 0 then (if a0_0 = a1 then (some true) else (some (a0_0 == 1))) else (some false)) = some r := H
 have A34 := mk_ A340
 clear A340
 by_cases c35 : t289 = 0
 rotate_left
 ·
  rw [if_neg c35] at H
  have c35b0 : (t289 == 0) = false := beq_eq_false_iff_ne.mpr c35
  have c35b1 : (t289 != 0) = true := bne_iff_ne.mpr c35
  obtain rfl := Option.some.inj H
  go_enter Try.func116, Try.ntmps116
  go_wp2_with (first | ((with_reducible refine gate_dst (N := 2) rfl ?_); refine box_event ?hg (N := 2) ?hd (cs := #[.int .i64 a0_0, .int .i64 a0_1, .string a0_2]) (t := 84) ?hr ?_; (case hd => rfl); (case hg => rfl); (case hr => first | (go_simp; done) | (go_simp; rfl)); intro gb286 hg w45 hbox hb; have n0_ := mk_ (below_step (Short.hB HB) hb); have n1_ := mk_ (hbox); have n2_ := mk_ ((by rw [hg]; exact (below_size (Short.hB HB)) : w.heap.size ≤ gb286)); have n3_ := mk_ ((by rw [hg]; exact (below_size (Short.hB HB)) : w.heap.size ≤ gb286)); clear HB; revert n0_ n1_ n2_ n3_; intro HB BK286 GW286 GE286; clear hb hbox hg; obtain ⟨hcz46_0, hcz46_1, hcz46_2, hfz46_0, hfz46_1, hfz46_2⟩ := Short.c3 BK286.out) | (go_at_call 87; (with_reducible refine (value_Check.calls a0_0 a0_1 a0_2 t289 _ A34.out).mono ?_); rintro e w47 ⟨rfl, hb⟩; have n0_ := mk_ (bB_ BK286 hb); have n1_ := mk_ (below_step (Short.hB HB) hb); clear BK286 HB; revert n0_ n1_; intro BK286 HB; (try clear hb); (try clear hb2); (try clear hk); (try clear hi)))
  go_ret
  exact ⟨q0, Short.hB HB⟩
 rw [if_pos c35] at H
 have c35b0 : (t289 == 0) = true := beq_iff_eq.mpr c35
 have c35b1 : (t289 != 0) = false := bne_eq_false_iff_eq.mpr c35
 clear c35
 by_cases c36 : a0_0 = a1
 rotate_left
 ·
  rw [if_neg c36] at H
  have c36b0 : (a0_0 == a1) = false := beq_eq_false_iff_ne.mpr c36
  have c36b1 : (a0_0 != a1) = true := bne_iff_ne.mpr c36
  obtain rfl := Option.some.inj H
  go_enter Try.func116, Try.ntmps116
  go_wp2_with (first | ((with_reducible refine gate_dst (N := 2) rfl ?_); refine box_event ?hg (N := 2) ?hd (cs := #[.int .i64 a0_0, .int .i64 a0_1, .string a0_2]) (t := 84) ?hr ?_; (case hd => rfl); (case hg => rfl); (case hr => first | (go_simp; done) | (go_simp; rfl)); intro gb286 hg w41 hbox hb; have n0_ := mk_ (below_step (Short.hB HB) hb); have n1_ := mk_ (hbox); have n2_ := mk_ ((by rw [hg]; exact (below_size (Short.hB HB)) : w.heap.size ≤ gb286)); have n3_ := mk_ ((by rw [hg]; exact (below_size (Short.hB HB)) : w.heap.size ≤ gb286)); clear HB; revert n0_ n1_ n2_ n3_; intro HB BK286 GW286 GE286; clear hb hbox hg; obtain ⟨hcz42_0, hcz42_1, hcz42_2, hfz42_0, hfz42_1, hfz42_2⟩ := Short.c3 BK286.out) | (go_at_call 87; (with_reducible refine (value_Check.calls a0_0 a0_1 a0_2 t289 _ A34.out).mono ?_); rintro e w43 ⟨rfl, hb⟩; have n0_ := mk_ (bB_ BK286 hb); have n1_ := mk_ (below_step (Short.hB HB) hb); clear BK286 HB; revert n0_ n1_; intro BK286 HB; (try clear hb); (try clear hb2); (try clear hk); (try clear hi); obtain ⟨hcz44_0, hcz44_1, hcz44_2, hfz44_0, hfz44_1, hfz44_2⟩ := Short.c3 BK286.out))
  go_ret
  exact ⟨q0, Short.hB HB⟩
 rw [if_pos c36] at H
 have c36b0 : (a0_0 == a1) = true := beq_iff_eq.mpr c36
 have c36b1 : (a0_0 != a1) = false := bne_eq_false_iff_eq.mpr c36
 clear c36
 obtain rfl := Option.some.inj H
 go_enter Try.func116, Try.ntmps116
 go_wp2_with (first | ((with_reducible refine gate_dst (N := 2) rfl ?_); refine box_event ?hg (N := 2) ?hd (cs := #[.int .i64 a0_0, .int .i64 a0_1, .string a0_2]) (t := 84) ?hr ?_; (case hd => rfl); (case hg => rfl); (case hr => first | (go_simp; done) | (go_simp; rfl)); intro gb286 hg w37 hbox hb; have n0_ := mk_ (below_step (Short.hB HB) hb); have n1_ := mk_ (hbox); have n2_ := mk_ ((by rw [hg]; exact (below_size (Short.hB HB)) : w.heap.size ≤ gb286)); have n3_ := mk_ ((by rw [hg]; exact (below_size (Short.hB HB)) : w.heap.size ≤ gb286)); clear HB; revert n0_ n1_ n2_ n3_; intro HB BK286 GW286 GE286; clear hb hbox hg; obtain ⟨hcz38_0, hcz38_1, hcz38_2, hfz38_0, hfz38_1, hfz38_2⟩ := Short.c3 BK286.out) | (go_at_call 87; (with_reducible refine (value_Check.calls a0_0 a0_1 a0_2 t289 _ A34.out).mono ?_); rintro e w39 ⟨rfl, hb⟩; have n0_ := mk_ (bB_ BK286 hb); have n1_ := mk_ (below_step (Short.hB HB) hb); clear BK286 HB; revert n0_ n1_; intro BK286 HB; (try clear hb); (try clear hb2); (try clear hk); (try clear hi); obtain ⟨hcz40_0, hcz40_1, hcz40_2, hfz40_0, hfz40_1, hfz40_2⟩ := Short.c3 BK286.out))
 go_ret
 exact ⟨q0, Short.hB HB⟩
def slices_EqualFunc_at_value_Fits.l0 : Nat → List Int → List (S84) → Int → Int → Option (Bool)
 | 0, _, _, _, _ => none
 | k + 1, x1, x15, x16, x17 => if x17 < x16 then (if 0 ≤ x17 then (if x17 < (x15.length : Int) then (if x17 < (x1.length : Int) then ((value_Fits.f ((rd_T84 x15 x17).f0) ((rd_T84 x15 x17).f1) ((rd_T84 x15 x17).f2) (rd x1 x17)).bind fun t293 => (if t293 = true then (slices_EqualFunc_at_value_Fits.l0 k x1 x15 x16 (wrap64 (x17 + 1))) else (some false))) else (none)) else (none)) else (none)) else (some true)
def slices_EqualFunc_at_value_Fits.f (k : Nat) (l0 : List (S84)) (l1 : List Int) (a2 : Unit) : Option (Bool) := if (l0.length : Int) = (l1.length : Int) then (slices_EqualFunc_at_value_Fits.l0 k l1 l0 (l0.length : Int) 0) else (some false)
theorem slices_EqualFunc_at_value_Fits.calls (k : Nat) (A0 : Option Addr) (c0 : Nat) (l0 : List (S84)) (A1 : Option Addr) (c1 : Nat) (l1 : List Int) (a2 : Unit) (r : Bool) (w : World) (hr0 : Kd.C k84 w A0 l0.length l0) (hc0 : l0.length ≤ c0) (hr1 : Kd.C (Kd.int .i64) w A1 l1.length l1) (hc1 : l1.length ≤ c1) (h : slices_EqualFunc_at_value_Fits.f k l0 l1 a2 = some r) :
  Calls Try.prog 115 #[.slice A0 l0.length c0, .slice A1 l1.length c1, .func (.func 116) #[] #[]] w fun e w' => e = .returned (.bool r) ∧ Below w.heap.size w w' := by
 have hu84 := Try.underlying84
 have HR0 := mk_ hr0
 have HC0 := mk_ hc0
 clear hr0 hc0
 have HR1 := mk_ hr1
 have HC1 := mk_ hc1
 clear hr1 hc1
 have HB := mk_ (Below.refl w.heap.size w)
 have H : (if (l0.length : Int) = (l1.length : Int) then (slices_EqualFunc_at_value_Fits.l0 k l1 l0 (l0.length : Int) 0) else (some false)) = some r := h
 clear h
 by_cases c4 : (l0.length : Int) = (l1.length : Int)
 rotate_left
 ·
  rw [if_neg c4] at H
  have c4b0 : ((l0.length : Int) == (l1.length : Int)) = false := beq_eq_false_iff_ne.mpr c4
  have c4b1 : ((l0.length : Int) != (l1.length : Int)) = true := bne_iff_ne.mpr c4
  have c4b2 : (l0.length == l1.length) = false := by first | simpa using c4 | (simp at c4 ⊢; omega)
  obtain rfl := Option.some.inj H
  go_enter Try.func115, Try.ntmps115
  go_wp2
  go_ret
  exact ⟨q0, Short.hB HB⟩
 rw [if_pos c4] at H
 have c4b0 : ((l0.length : Int) == (l1.length : Int)) = true := beq_iff_eq.mpr c4
 have c4b1 : ((l0.length : Int) != (l1.length : Int)) = false := bne_eq_false_iff_eq.mpr c4
 have c4b2 : (l0.length == l1.length) = true := by first | simpa using c4 | (simp at c4 ⊢; omega)
 clear c4
 have H' := mk_ H
 clear H
 go_enter Try.func115, Try.ntmps115
 go_wp2
 go_loopg [17] k (fun kq v17 w' => ∃ (x17_1 : Int), v17 = .int .i64 x17_1 ∧ Aside0 (slices_EqualFunc_at_value_Fits.l0 kq l1 l0 (l0.length : Int) x17_1 = some r) ∧ Aside0 (kq ≤ k) ∧ Aside0 (Below w.heap.size w w'))
 case atStart => exact ⟨(0), z3_, H', ⟨Nat.le_refl _⟩, ⟨Short.hB HB⟩⟩
 case round =>
  clear H'
  try clear c1
  try clear p2
  try clear c4
  try clear c4b0
  try clear c4b1
  try clear c4b2
  obtain ⟨x17_1, rfl, HA, HK1, HB⟩ := hrel
  cases gk with
  | zero => exact absurd HA.out (by simp [slices_EqualFunc_at_value_Fits.l0])
  | succ k1 =>
   have H := HA.out
   clear HA
   simp only [slices_EqualFunc_at_value_Fits.l0] at H
   by_cases c5 : x17_1 < (l0.length : Int)
   rotate_left
   ·
    rw [if_neg c5] at H
    have c5b0 : decide (x17_1 < (l0.length : Int)) = false := decide_eq_false c5
    clear c5
    obtain rfl := Option.some.inj H
    go_wp2
    go_ret
    exact ⟨q0, Short.hB HB⟩
   rw [if_pos c5] at H
   have c5b0 : decide (x17_1 < (l0.length : Int)) = true := decide_eq_true c5
   clear c5
   by_cases c6 : 0 ≤ x17_1
   rotate_left
   ·
    rw [if_neg c6] at H
    exact absurd H (by simp)
   rw [if_pos c6] at H
   have c6b0 : decide (0 ≤ x17_1) = true := decide_eq_true c6
   clear c6
   by_cases c7 : x17_1 < (l0.length : Int)
   rotate_left
   ·
    rw [if_neg c7] at H
    exact absurd H (by simp)
   rw [if_pos c7] at H
   have c7b0 : decide (x17_1 < (l0.length : Int)) = true := decide_eq_true c7
   clear c7
   by_cases c8 : x17_1 < (l1.length : Int)
   rotate_left
   ·
    rw [if_neg c8] at H
    exact absurd H (by simp)
   rw [if_pos c8] at H
   have c8b0 : decide (x17_1 < (l1.length : Int)) = true := decide_eq_true c8
   clear c8
   replace H := Option.bind_eq_some_iff.mp H
   obtain ⟨t293, A90, H⟩ := H
   replace H : (if t293 = true then (slices_EqualFunc_at_value_Fits.l0 k1 l1 l0 (l0.length : Int) (wrap64 (x17_1 + 1))) else (some false)) = some r := H
   have A9 := mk_ A90
   clear A90
   by_cases c10 : t293 = true
   rotate_left
   ·
    replace c10 := Bool.eq_false_iff.mpr c10
    subst c10
    rw [if_neg (show ¬ (false = true) by decide)] at H
    obtain rfl := Option.some.inj H
    have p290 : 0 ≤ (x17_1 : Int) := of_decide_eq_true z1_
    have q290 : x17_1 < (l0.length : Int) := of_decide_eq_true z1_
    obtain ⟨ad290, e290, hx290_0, hx290_1, hx290_2⟩ := at_T84 HR0.out x17_1 p290 q290
    cases e290
    replace hx290_0 := up_ HB hx290_0
    replace hx290_1 := up_ HB hx290_1
    replace hx290_2 := up_ HB hx290_2
    replace p290 := eq_true p290
    replace q290 := eq_true q290
    go_wp2_with (first | ((with_reducible refine gate_dst (N := 8) rfl ?_); refine box_event ?hg (N := 8) ?hd (cs := #[.int .i64 0, .int .i64 0, .string (⟨#[]⟩ : ByteArray)]) (t := 84) ?hr ?_; (case hd => rfl); (case hg => rfl); (case hr => first | (go_simp; done) | (go_simp; rfl)); intro gb291 hg w14 hbox hb; have n0_ := mk_ (below_step (Short.hB HB) hb); have n1_ := mk_ (hbox); have n2_ := mk_ ((by rw [hg]; exact (below_size (Short.hB HB)) : w.heap.size ≤ gb291)); have n3_ := mk_ ((by rw [hg]; exact (below_size (Short.hB HB)) : w.heap.size ≤ gb291)); clear HB; revert n0_ n1_ n2_ n3_; intro HB BK291 GW291 GE291; clear hb hbox hg; obtain ⟨hcz15_0, hcz15_1, hcz15_2, hfz15_0, hfz15_1, hfz15_2⟩ := Short.c3 BK291.out; have p292 : 0 ≤ (x17_1 : Int) := of_decide_eq_true z1_; have q292 : x17_1 < (l1.length : Int) := of_decide_eq_true z1_; obtain ⟨ad292, e292, hx292_0⟩ := Kd.at_int HR1.out x17_1 p292 q292; cases e292; have hn292_0 : ad292.block ≠ gb291 := Nat.ne_of_lt (Nat.lt_of_lt_of_le (by have := World.block_lt_of_cell? _ _ hx292_0; first | rwa [add_block] at this | exact this) GW291.out); have hn292_1 : ad292.block ≠ gb291 := Nat.ne_of_lt (Nat.lt_of_lt_of_le (by have := World.block_lt_of_cell? _ _ hx292_0; first | rwa [add_block] at this | exact this) GW291.out); have hn292_2 : ad292.block ≠ gb291 := Nat.ne_of_lt (Nat.lt_of_lt_of_le (by have := World.block_lt_of_cell? _ _ hx292_0; first | rwa [add_block] at this | exact this) GW291.out); replace hx292_0 := up_ HB hx292_0; replace hx292_0 := (cell_far (p := ⟨gb291, 0, none⟩) (by first | (rw [add_block]; exact hn292_0) | (show (Addr.add _ _).block ≠ _; rw [add_block]; exact hn292_0) | exact hn292_0) (.int .i64 ((rd_T84 l0 x17_1).f0))).trans hx292_0; replace hx292_0 := (cell_far (p := ⟨gb291, 1, none⟩) (by first | (rw [add_block]; exact hn292_1) | (show (Addr.add _ _).block ≠ _; rw [add_block]; exact hn292_1) | exact hn292_1) (.int .i64 ((rd_T84 l0 x17_1).f1))).trans hx292_0; replace hx292_0 := (cell_far (p := ⟨gb291, 2, none⟩) (by first | (rw [add_block]; exact hn292_2) | (show (Addr.add _ _).block ≠ _; rw [add_block]; exact hn292_2) | exact hn292_2) (.string ((rd_T84 l0 x17_1).f2))).trans hx292_0; clear hn292_0 hn292_1 hn292_2; replace p292 := eq_true p292; replace q292 := eq_true q292) | ((first | ((with_reducible refine gate_callee (f := 116) rfl ?_); refine Short.gL (some 29) Try.func116 #[.agg #[.int .i64 ((rd_T84 l0 x17_1).f0), .int .i64 ((rd_T84 l0 x17_1).f1), .string ((rd_T84 l0 x17_1).f2)], .int .i64 (rd l1 x17_1)] (h := ?_)) | ((with_reducible refine Go.Proofs.Ytjnjfogfpmeacaa.Steps.gate_any rfl ?_); refine Go.Proofs.Ytjnjfogfpmeacaa.Steps.goesV_ (some 29) rfl rfl Try.func116 z0_ rfl #[.agg #[.int .i64 ((rd_T84 l0 x17_1).f0), .int .i64 ((rd_T84 l0 x17_1).f1), .string ((rd_T84 l0 x17_1).f2)], .int .i64 (rd l1 x17_1)] rfl (by first | rfl | go_simp) z2_ ?_)); (with_reducible refine (value_Fits.calls ((rd_T84 l0 x17_1).f0) ((rd_T84 l0 x17_1).f1) ((rd_T84 l0 x17_1).f2) (rd l1 x17_1) false _ A9.out).mono ?_); rintro e w16 ⟨rfl, hb⟩; refine ⟨_, rfl, ?_⟩; have n0_ := mk_ (blk_below (g := gb291) (o := .cells #[.int .i64 ((rd_T84 l0 x17_1).f0), .int .i64 ((rd_T84 l0 x17_1).f1), .string ((rd_T84 l0 x17_1).f2)] 84 (0, 0)) (by (with_reducible repeat (first | refine blk_drewN ?_ _ | refine blk_drew ?_ | refine blk_alloc ?_ _)); refine blk_put (cs := #[.int .i64 ((rd_T84 l0 x17_1).f0), .int .i64 ((rd_T84 l0 x17_1).f1), .string (⟨#[]⟩ : ByteArray)]) ?_ 2 _ rfl; (with_reducible repeat (first | refine blk_drewN ?_ _ | refine blk_drew ?_ | refine blk_alloc ?_ _)); refine blk_put (cs := #[.int .i64 ((rd_T84 l0 x17_1).f0), .int .i64 0, .string (⟨#[]⟩ : ByteArray)]) ?_ 1 _ rfl; (with_reducible repeat (first | refine blk_drewN ?_ _ | refine blk_drew ?_ | refine blk_alloc ?_ _)); refine blk_put (cs := #[.int .i64 0, .int .i64 0, .string (⟨#[]⟩ : ByteArray)]) ?_ 0 _ rfl; (with_reducible repeat (first | refine blk_drewN ?_ _ | refine blk_drew ?_ | refine blk_alloc ?_ _)); exact BK291.out) hb); have n1_ := mk_ (below_step (Short.hB HB) hb); clear BK291 HB; revert n0_ n1_; intro BK291 HB; (try clear hb)))
    go_ret
    exact ⟨q0, Short.hB HB⟩
   subst c10
   rw [if_pos rfl] at H
   have H' := mk_ H
   clear H
   have p290 : 0 ≤ (x17_1 : Int) := of_decide_eq_true z1_
   have q290 : x17_1 < (l0.length : Int) := of_decide_eq_true z1_
   obtain ⟨ad290, e290, hx290_0, hx290_1, hx290_2⟩ := at_T84 HR0.out x17_1 p290 q290
   cases e290
   replace hx290_0 := up_ HB hx290_0
   replace hx290_1 := up_ HB hx290_1
   replace hx290_2 := up_ HB hx290_2
   replace p290 := eq_true p290
   replace q290 := eq_true q290
   go_wp2_with (first | ((with_reducible refine gate_dst (N := 8) rfl ?_); refine box_event ?hg (N := 8) ?hd (cs := #[.int .i64 0, .int .i64 0, .string (⟨#[]⟩ : ByteArray)]) (t := 84) ?hr ?_; (case hd => rfl); (case hg => rfl); (case hr => first | (go_simp; done) | (go_simp; rfl)); intro gb291 hg w11 hbox hb; have n0_ := mk_ (below_step (Short.hB HB) hb); have n1_ := mk_ (hbox); have n2_ := mk_ ((by rw [hg]; exact (below_size (Short.hB HB)) : w.heap.size ≤ gb291)); have n3_ := mk_ ((by rw [hg]; exact (below_size (Short.hB HB)) : w.heap.size ≤ gb291)); clear HB; revert n0_ n1_ n2_ n3_; intro HB BK291 GW291 GE291; clear hb hbox hg; obtain ⟨hcz12_0, hcz12_1, hcz12_2, hfz12_0, hfz12_1, hfz12_2⟩ := Short.c3 BK291.out; have p292 : 0 ≤ (x17_1 : Int) := of_decide_eq_true z1_; have q292 : x17_1 < (l1.length : Int) := of_decide_eq_true z1_; obtain ⟨ad292, e292, hx292_0⟩ := Kd.at_int HR1.out x17_1 p292 q292; cases e292; have hn292_0 : ad292.block ≠ gb291 := Nat.ne_of_lt (Nat.lt_of_lt_of_le (by have := World.block_lt_of_cell? _ _ hx292_0; first | rwa [add_block] at this | exact this) GW291.out); have hn292_1 : ad292.block ≠ gb291 := Nat.ne_of_lt (Nat.lt_of_lt_of_le (by have := World.block_lt_of_cell? _ _ hx292_0; first | rwa [add_block] at this | exact this) GW291.out); have hn292_2 : ad292.block ≠ gb291 := Nat.ne_of_lt (Nat.lt_of_lt_of_le (by have := World.block_lt_of_cell? _ _ hx292_0; first | rwa [add_block] at this | exact this) GW291.out); replace hx292_0 := up_ HB hx292_0; replace hx292_0 := (cell_far (p := ⟨gb291, 0, none⟩) (by first | (rw [add_block]; exact hn292_0) | (show (Addr.add _ _).block ≠ _; rw [add_block]; exact hn292_0) | exact hn292_0) (.int .i64 ((rd_T84 l0 x17_1).f0))).trans hx292_0; replace hx292_0 := (cell_far (p := ⟨gb291, 1, none⟩) (by first | (rw [add_block]; exact hn292_1) | (show (Addr.add _ _).block ≠ _; rw [add_block]; exact hn292_1) | exact hn292_1) (.int .i64 ((rd_T84 l0 x17_1).f1))).trans hx292_0; replace hx292_0 := (cell_far (p := ⟨gb291, 2, none⟩) (by first | (rw [add_block]; exact hn292_2) | (show (Addr.add _ _).block ≠ _; rw [add_block]; exact hn292_2) | exact hn292_2) (.string ((rd_T84 l0 x17_1).f2))).trans hx292_0; clear hn292_0 hn292_1 hn292_2; replace p292 := eq_true p292; replace q292 := eq_true q292) | ((first | ((with_reducible refine gate_callee (f := 116) rfl ?_); refine Short.gL (some 29) Try.func116 #[.agg #[.int .i64 ((rd_T84 l0 x17_1).f0), .int .i64 ((rd_T84 l0 x17_1).f1), .string ((rd_T84 l0 x17_1).f2)], .int .i64 (rd l1 x17_1)] (h := ?_)) | ((with_reducible refine Go.Proofs.Ytjnjfogfpmeacaa.Steps.gate_any rfl ?_); refine Go.Proofs.Ytjnjfogfpmeacaa.Steps.goesV_ (some 29) rfl rfl Try.func116 z0_ rfl #[.agg #[.int .i64 ((rd_T84 l0 x17_1).f0), .int .i64 ((rd_T84 l0 x17_1).f1), .string ((rd_T84 l0 x17_1).f2)], .int .i64 (rd l1 x17_1)] rfl (by first | rfl | go_simp) z2_ ?_)); (with_reducible refine (value_Fits.calls ((rd_T84 l0 x17_1).f0) ((rd_T84 l0 x17_1).f1) ((rd_T84 l0 x17_1).f2) (rd l1 x17_1) true _ A9.out).mono ?_); rintro e w13 ⟨rfl, hb⟩; refine ⟨_, rfl, ?_⟩; have n0_ := mk_ (blk_below (g := gb291) (o := .cells #[.int .i64 ((rd_T84 l0 x17_1).f0), .int .i64 ((rd_T84 l0 x17_1).f1), .string ((rd_T84 l0 x17_1).f2)] 84 (0, 0)) (by (with_reducible repeat (first | refine blk_drewN ?_ _ | refine blk_drew ?_ | refine blk_alloc ?_ _)); refine blk_put (cs := #[.int .i64 ((rd_T84 l0 x17_1).f0), .int .i64 ((rd_T84 l0 x17_1).f1), .string (⟨#[]⟩ : ByteArray)]) ?_ 2 _ rfl; (with_reducible repeat (first | refine blk_drewN ?_ _ | refine blk_drew ?_ | refine blk_alloc ?_ _)); refine blk_put (cs := #[.int .i64 ((rd_T84 l0 x17_1).f0), .int .i64 0, .string (⟨#[]⟩ : ByteArray)]) ?_ 1 _ rfl; (with_reducible repeat (first | refine blk_drewN ?_ _ | refine blk_drew ?_ | refine blk_alloc ?_ _)); refine blk_put (cs := #[.int .i64 0, .int .i64 0, .string (⟨#[]⟩ : ByteArray)]) ?_ 0 _ rfl; (with_reducible repeat (first | refine blk_drewN ?_ _ | refine blk_drew ?_ | refine blk_alloc ?_ _)); exact BK291.out) hb); have n1_ := mk_ (below_step (Short.hB HB) hb); clear BK291 HB; revert n0_ n1_; intro BK291 HB; (try clear hb)))
   go_roundg k1
   case measure => have := HK1.out; omega
   case rel => exact ⟨(wrap64 (x17_1 + 1)), z3_, H', ⟨by have := HK1.out; omega⟩, ⟨Short.hB HB⟩⟩
def row_Fits.f (k : Nat) (l0 : List (S84)) (l1 : List Int) : Option (Bool) := (slices_EqualFunc_at_value_Fits.f k l0 l1 ()).bind fun t294 => (some t294)
theorem row_Fits.calls (k : Nat) (A0 : Option Addr) (c0 : Nat) (l0 : List (S84)) (A1 : Option Addr) (c1 : Nat) (l1 : List Int) (r : Bool) (w : World) (hr0 : Kd.C k84 w A0 l0.length l0) (hc0 : l0.length ≤ c0) (hr1 : Kd.C (Kd.int .i64) w A1 l1.length l1) (hc1 : l1.length ≤ c1) (h : row_Fits.f k l0 l1 = some r) :
  Calls Try.prog 101 #[.slice A0 l0.length c0, .slice A1 l1.length c1] w fun e w' => e = .returned (.bool r) ∧ Below w.heap.size w w' := by
 have HR0 := mk_ hr0
 have HC0 := mk_ hc0
 clear hr0 hc0
 have HR1 := mk_ hr1
 have HC1 := mk_ hc1
 clear hr1 hc1
 have HB := mk_ (Below.refl w.heap.size w)
 have H : ((slices_EqualFunc_at_value_Fits.f k l0 l1 ()).bind fun t294 => (some t294)) = some r := h
 clear h
 replace H := Option.bind_eq_some_iff.mp H
 obtain ⟨t294, A30, H⟩ := H
 replace H : (some t294) = some r := H
 have A3 := mk_ A30
 clear A30
 obtain rfl := Option.some.inj H
 go_enter Try.func101, Try.ntmps101
 go_wp2_with (first | ((with_reducible refine gate_callee (f := 115) rfl ?_); refine Short.gL (some 7) Try.func115 #[.slice A0 l0.length c0, .slice A1 l1.length c1, .func (.func 116) #[] #[]] (h := ?_); (with_reducible refine (slices_EqualFunc_at_value_Fits.calls k _ _ l0 _ _ l1 () t294 _ ?side1 ?side2 ?side3 ?side4 A3.out).mono ?_); (case side1 => repeat (first | exact HR0.out | (with_reducible refine C_alloc ?_ _) | (with_reducible refine C_drewN ?_ _) | (with_reducible refine C_drew ?_))); (case side2 => exact HC0.out); (case side3 => repeat (first | exact HR1.out | (with_reducible refine C_alloc ?_ _) | (with_reducible refine C_drewN ?_ _) | (with_reducible refine C_drew ?_))); (case side4 => exact HC1.out); rintro e w4 ⟨rfl, hb⟩; refine ⟨_, rfl, ?_⟩; have n0_ := mk_ (below_step (Short.hB HB) hb); clear HB; revert n0_; intro HB; (try clear hb)))
 go_ret
 exact ⟨q0, Short.hB HB⟩
def value_Small.f (a0_0 : Int) (a0_1 : Int) (a0_2 : ByteArray) : Option (Bool) := (value_Check.f a0_0 a0_1 a0_2).bind fun t296 => (if t296 = 0 then (if a0_0 = 3 then ((value_within.f a0_1 2147483648).bind fun t297 => (some t297)) else (some true)) else (some false))
theorem value_Small.calls (a0_0 : Int) (a0_1 : Int) (a0_2 : ByteArray) (r : Bool) (w : World) (h : value_Small.f a0_0 a0_1 a0_2 = some r) :
  Calls Try.prog 103 #[.agg #[.int .i64 a0_0, .int .i64 a0_1, .string a0_2]] w fun e w' => e = .returned (.bool r) ∧ Below w.heap.size w w' := by
 have hu84 := Try.underlying84
 have HB := mk_ (Below.refl w.heap.size w)
 have H : ((value_Check.f a0_0 a0_1 a0_2).bind fun t296 => (if t296 = 0 then (if a0_0 = 3 then ((value_within.f a0_1 2147483648).bind fun t297 => (some t297)) else (some true)) else (some false))) = some r := h
 clear h
 replace H := Option.bind_eq_some_iff.mp H
 obtain ⟨t296, A20, H⟩ := H
 replace H : (if t296 = 0 then (if a0_0 = 3 then ((value_within.f a0_1 2147483648).bind fun t297 => (some t297)) else (some true)) else (some false)) = some r := H
 have A2 := mk_ A20
 clear A20
 by_cases c3 : t296 = 0
 rotate_left
 ·
  rw [if_neg c3] at H
  have c3b0 : (t296 == 0) = false := beq_eq_false_iff_ne.mpr c3
  have c3b1 : (t296 != 0) = true := bne_iff_ne.mpr c3
  obtain rfl := Option.some.inj H
  go_enter Try.func103, Try.ntmps103
  go_wp2_with (first | ((with_reducible refine gate_dst (N := 1) rfl ?_); refine box_event ?hg (N := 1) ?hd (cs := #[.int .i64 a0_0, .int .i64 a0_1, .string a0_2]) (t := 84) ?hr ?_; (case hd => rfl); (case hg => rfl); (case hr => first | (go_simp; done) | (go_simp; rfl)); intro gb295 hg w14 hbox hb; have n0_ := mk_ (below_step (Short.hB HB) hb); have n1_ := mk_ (hbox); have n2_ := mk_ ((by rw [hg]; exact (below_size (Short.hB HB)) : w.heap.size ≤ gb295)); have n3_ := mk_ ((by rw [hg]; exact (below_size (Short.hB HB)) : w.heap.size ≤ gb295)); clear HB; revert n0_ n1_ n2_ n3_; intro HB BK295 GW295 GE295; clear hb hbox hg; obtain ⟨hcz15_0, hcz15_1, hcz15_2, hfz15_0, hfz15_1, hfz15_2⟩ := Short.c3 BK295.out) | ((with_reducible refine gate_callee (f := 87) rfl ?_); refine Short.gL (some 4) Try.func87 #[.agg #[.int .i64 a0_0, .int .i64 a0_1, .string a0_2]] (h := ?_); (with_reducible refine (value_Check.calls a0_0 a0_1 a0_2 t296 _ A2.out).mono ?_); rintro e w16 ⟨rfl, hb⟩; refine ⟨_, rfl, ?_⟩; have n0_ := mk_ (bB_ BK295 hb); have n1_ := mk_ (below_step (Short.hB HB) hb); clear BK295 HB; revert n0_ n1_; intro BK295 HB; (try clear hb)))
  go_ret
  exact ⟨q0, Short.hB HB⟩
 rw [if_pos c3] at H
 have c3b0 : (t296 == 0) = true := beq_iff_eq.mpr c3
 have c3b1 : (t296 != 0) = false := bne_eq_false_iff_eq.mpr c3
 clear c3
 by_cases c4 : a0_0 = 3
 rotate_left
 ·
  rw [if_neg c4] at H
  have c4b0 : (a0_0 == 3) = false := beq_eq_false_iff_ne.mpr c4
  have c4b1 : (a0_0 != 3) = true := bne_iff_ne.mpr c4
  obtain rfl := Option.some.inj H
  go_enter Try.func103, Try.ntmps103
  go_wp2_with (first | ((with_reducible refine gate_dst (N := 1) rfl ?_); refine box_event ?hg (N := 1) ?hd (cs := #[.int .i64 a0_0, .int .i64 a0_1, .string a0_2]) (t := 84) ?hr ?_; (case hd => rfl); (case hg => rfl); (case hr => first | (go_simp; done) | (go_simp; rfl)); intro gb295 hg w10 hbox hb; have n0_ := mk_ (below_step (Short.hB HB) hb); have n1_ := mk_ (hbox); have n2_ := mk_ ((by rw [hg]; exact (below_size (Short.hB HB)) : w.heap.size ≤ gb295)); have n3_ := mk_ ((by rw [hg]; exact (below_size (Short.hB HB)) : w.heap.size ≤ gb295)); clear HB; revert n0_ n1_ n2_ n3_; intro HB BK295 GW295 GE295; clear hb hbox hg; obtain ⟨hcz11_0, hcz11_1, hcz11_2, hfz11_0, hfz11_1, hfz11_2⟩ := Short.c3 BK295.out) | ((with_reducible refine gate_callee (f := 87) rfl ?_); refine Short.gL (some 4) Try.func87 #[.agg #[.int .i64 a0_0, .int .i64 a0_1, .string a0_2]] (h := ?_); (with_reducible refine (value_Check.calls a0_0 a0_1 a0_2 t296 _ A2.out).mono ?_); rintro e w12 ⟨rfl, hb⟩; refine ⟨_, rfl, ?_⟩; have n0_ := mk_ (bB_ BK295 hb); have n1_ := mk_ (below_step (Short.hB HB) hb); clear BK295 HB; revert n0_ n1_; intro BK295 HB; (try clear hb); obtain ⟨hcz13_0, hcz13_1, hcz13_2, hfz13_0, hfz13_1, hfz13_2⟩ := Short.c3 BK295.out))
  go_ret
  exact ⟨q0, Short.hB HB⟩
 rw [if_pos c4] at H
 have c4b0 : (a0_0 == 3) = true := beq_iff_eq.mpr c4
 have c4b1 : (a0_0 != 3) = false := bne_eq_false_iff_eq.mpr c4
 clear c4
 replace H := Option.bind_eq_some_iff.mp H
 obtain ⟨t297, A50, H⟩ := H
 replace H : (some t297) = some r := H
 have A5 := mk_ A50
 clear A50
 obtain rfl := Option.some.inj H
 go_enter Try.func103, Try.ntmps103
 go_wp2_with (first | ((with_reducible refine gate_dst (N := 1) rfl ?_); refine box_event ?hg (N := 1) ?hd (cs := #[.int .i64 a0_0, .int .i64 a0_1, .string a0_2]) (t := 84) ?hr ?_; (case hd => rfl); (case hg => rfl); (case hr => first | (go_simp; done) | (go_simp; rfl)); intro gb295 hg w6 hbox hb; have n0_ := mk_ (below_step (Short.hB HB) hb); have n1_ := mk_ (hbox); have n2_ := mk_ ((by rw [hg]; exact (below_size (Short.hB HB)) : w.heap.size ≤ gb295)); have n3_ := mk_ ((by rw [hg]; exact (below_size (Short.hB HB)) : w.heap.size ≤ gb295)); clear HB; revert n0_ n1_ n2_ n3_; intro HB BK295 GW295 GE295; clear hb hbox hg; obtain ⟨hcz7_0, hcz7_1, hcz7_2, hfz7_0, hfz7_1, hfz7_2⟩ := Short.c3 BK295.out) | ((with_reducible refine gate_callee (f := 87) rfl ?_); refine Short.gL (some 4) Try.func87 #[.agg #[.int .i64 a0_0, .int .i64 a0_1, .string a0_2]] (h := ?_); (with_reducible refine (value_Check.calls a0_0 a0_1 a0_2 t296 _ A2.out).mono ?_); rintro e w8 ⟨rfl, hb⟩; refine ⟨_, rfl, ?_⟩; have n0_ := mk_ (bB_ BK295 hb); have n1_ := mk_ (below_step (Short.hB HB) hb); clear BK295 HB; revert n0_ n1_; intro BK295 HB; (try clear hb); obtain ⟨hcz9_0, hcz9_1, hcz9_2, hfz9_0, hfz9_1, hfz9_2⟩ := Short.c3 BK295.out) | (go_at_call 107; (with_reducible refine (value_within.calls a0_1 2147483648 t297 _ A5.out).mono ?_); rintro e w' ⟨rfl, ⟨nd, rfl⟩⟩))
 go_ret
 exact ⟨q0, Short.hB HB⟩
def op_small_1.f (a0_0 : Int) (a0_1 : Int) (a0_2 : ByteArray) : Option (Bool) := (value_Small.f a0_0 a0_1 a0_2).bind fun t299 => (some (!t299))
theorem op_small_1.calls (a0_0 : Int) (a0_1 : Int) (a0_2 : ByteArray) (r : Bool) (w : World) (h : op_small_1.f a0_0 a0_1 a0_2 = some r) :
  Calls Try.prog 102 #[.agg #[.int .i64 a0_0, .int .i64 a0_1, .string a0_2]] w fun e w' => e = .returned (.bool r) ∧ Below w.heap.size w w' := by
 have hu84 := Try.underlying84
 have HB := mk_ (Below.refl w.heap.size w)
 have H : ((value_Small.f a0_0 a0_1 a0_2).bind fun t299 => (some (!t299))) = some r := h
 clear h
 replace H := Option.bind_eq_some_iff.mp H
 obtain ⟨t299, A20, H⟩ := H
 replace H : (some (!t299)) = some r := H
 have A2 := mk_ A20
 clear A20
 obtain rfl := Option.some.inj H
 go_enter Try.func102, Try.ntmps102
 go_wp2_with (first | ((with_reducible refine gate_dst (N := 1) rfl ?_); refine box_event ?hg (N := 1) ?hd (cs := #[.int .i64 a0_0, .int .i64 a0_1, .string a0_2]) (t := 84) ?hr ?_; (case hd => rfl); (case hg => rfl); (case hr => first | (go_simp; done) | (go_simp; rfl)); intro gb298 hg w3 hbox hb; have n0_ := mk_ (below_step (Short.hB HB) hb); have n1_ := mk_ (hbox); have n2_ := mk_ ((by rw [hg]; exact (below_size (Short.hB HB)) : w.heap.size ≤ gb298)); have n3_ := mk_ ((by rw [hg]; exact (below_size (Short.hB HB)) : w.heap.size ≤ gb298)); clear HB; revert n0_ n1_ n2_ n3_; intro HB BK298 GW298 GE298; clear hb hbox hg; obtain ⟨hcz4_0, hcz4_1, hcz4_2, hfz4_0, hfz4_1, hfz4_2⟩ := Short.c3 BK298.out) | ((with_reducible refine gate_callee (f := 103) rfl ?_); refine Short.gL (some 4) Try.func103 #[.agg #[.int .i64 a0_0, .int .i64 a0_1, .string a0_2]] (h := ?_); (with_reducible refine (value_Small.calls a0_0 a0_1 a0_2 t299 _ A2.out).mono ?_); rintro e w5 ⟨rfl, hb⟩; refine ⟨_, rfl, ?_⟩; have n0_ := mk_ (bB_ BK298 hb); have n1_ := mk_ (below_step (Short.hB HB) hb); clear BK298 HB; revert n0_ n1_; intro BK298 HB; (try clear hb)))
 go_ret
 exact ⟨q0, Short.hB HB⟩
def slices_IndexFunc_at_op_small_1.l0 : Nat → List (S84) → Int → Int → Option (Int)
 | 0, _, _, _ => none
 | k + 1, x0, x7, x8 => if x8 < x7 then (if 0 ≤ x8 then (if x8 < (x0.length : Int) then ((op_small_1.f ((rd_T84 x0 x8).f0) ((rd_T84 x0 x8).f1) ((rd_T84 x0 x8).f2)).bind fun t301 => (if t301 = true then (some x8) else (slices_IndexFunc_at_op_small_1.l0 k x0 x7 (wrap64 (x8 + 1))))) else (none)) else (none)) else (some (-1))
def slices_IndexFunc_at_op_small_1.f (k : Nat) (l0 : List (S84)) (a1 : Unit) : Option (Int) := slices_IndexFunc_at_op_small_1.l0 k l0 (l0.length : Int) 0
theorem slices_IndexFunc_at_op_small_1.calls (k : Nat) (A0 : Option Addr) (c0 : Nat) (l0 : List (S84)) (a1 : Unit) (r : Int) (w : World) (hr0 : Kd.C k84 w A0 l0.length l0) (hc0 : l0.length ≤ c0) (h : slices_IndexFunc_at_op_small_1.f k l0 a1 = some r) :
  Calls Try.prog 106 #[.slice A0 l0.length c0, .func (.func 102) #[] #[]] w fun e w' => e = .returned (.int .i64 r) ∧ Below w.heap.size w w' := by
 have hu84 := Try.underlying84
 have HR0 := mk_ hr0
 have HC0 := mk_ hc0
 clear hr0 hc0
 have HB := mk_ (Below.refl w.heap.size w)
 have H : (slices_IndexFunc_at_op_small_1.l0 k l0 (l0.length : Int) 0) = some r := h
 clear h
 have H' := mk_ H
 clear H
 go_enter Try.func106, Try.ntmps106
 go_wp2
 go_loopg [8] k (fun kq v8 w' => ∃ (x8_1 : Int), v8 = .int .i64 x8_1 ∧ Aside0 (slices_IndexFunc_at_op_small_1.l0 kq l0 (l0.length : Int) x8_1 = some r) ∧ Aside0 (kq ≤ k) ∧ Aside0 (Below w.heap.size w w'))
 case atStart => exact ⟨(0), z3_, H', ⟨Nat.le_refl _⟩, ⟨Short.hB HB⟩⟩
 case round =>
  clear H'
  try clear p2
  obtain ⟨x8_1, rfl, HA, HK1, HB⟩ := hrel
  cases gk with
  | zero => exact absurd HA.out (by simp [slices_IndexFunc_at_op_small_1.l0])
  | succ k1 =>
   have H := HA.out
   clear HA
   simp only [slices_IndexFunc_at_op_small_1.l0] at H
   by_cases c3 : x8_1 < (l0.length : Int)
   rotate_left
   ·
    rw [if_neg c3] at H
    have c3b0 : decide (x8_1 < (l0.length : Int)) = false := decide_eq_false c3
    clear c3
    obtain rfl := Option.some.inj H
    go_wp2
    go_ret
    exact ⟨q0, Short.hB HB⟩
   rw [if_pos c3] at H
   have c3b0 : decide (x8_1 < (l0.length : Int)) = true := decide_eq_true c3
   clear c3
   by_cases c4 : 0 ≤ x8_1
   rotate_left
   ·
    rw [if_neg c4] at H
    exact absurd H (by simp)
   rw [if_pos c4] at H
   have c4b0 : decide (0 ≤ x8_1) = true := decide_eq_true c4
   clear c4
   by_cases c5 : x8_1 < (l0.length : Int)
   rotate_left
   ·
    rw [if_neg c5] at H
    exact absurd H (by simp)
   rw [if_pos c5] at H
   have c5b0 : decide (x8_1 < (l0.length : Int)) = true := decide_eq_true c5
   clear c5
   replace H := Option.bind_eq_some_iff.mp H
   obtain ⟨t301, A60, H⟩ := H
   replace H : (if t301 = true then (some x8_1) else (slices_IndexFunc_at_op_small_1.l0 k1 l0 (l0.length : Int) (wrap64 (x8_1 + 1)))) = some r := H
   have A6 := mk_ A60
   clear A60
   by_cases c7 : t301 = true
   ·
    subst c7
    rw [if_pos rfl] at H
    obtain rfl := Option.some.inj H
    have p300 : 0 ≤ (x8_1 : Int) := of_decide_eq_true z1_
    have q300 : x8_1 < (l0.length : Int) := of_decide_eq_true z1_
    obtain ⟨ad300, e300, hx300_0, hx300_1, hx300_2⟩ := at_T84 HR0.out x8_1 p300 q300
    cases e300
    replace hx300_0 := up_ HB hx300_0
    replace hx300_1 := up_ HB hx300_1
    replace hx300_2 := up_ HB hx300_2
    replace p300 := eq_true p300
    replace q300 := eq_true q300
    go_wp2_with (first | ((first | ((with_reducible refine gate_callee (f := 102) rfl ?_); refine Short.gL (some 16) Try.func102 #[.agg #[.int .i64 ((rd_T84 l0 x8_1).f0), .int .i64 ((rd_T84 l0 x8_1).f1), .string ((rd_T84 l0 x8_1).f2)]] (h := ?_)) | ((with_reducible refine Go.Proofs.Ytjnjfogfpmeacaa.Steps.gate_any rfl ?_); refine Go.Proofs.Ytjnjfogfpmeacaa.Steps.goesV_ (some 16) rfl rfl Try.func102 z0_ rfl #[.agg #[.int .i64 ((rd_T84 l0 x8_1).f0), .int .i64 ((rd_T84 l0 x8_1).f1), .string ((rd_T84 l0 x8_1).f2)]] rfl (by first | rfl | go_simp) z2_ ?_)); (with_reducible refine (op_small_1.calls ((rd_T84 l0 x8_1).f0) ((rd_T84 l0 x8_1).f1) ((rd_T84 l0 x8_1).f2) true _ A6.out).mono ?_); rintro e w8 ⟨rfl, hb⟩; refine ⟨_, rfl, ?_⟩; have n0_ := mk_ (below_step (Short.hB HB) hb); clear HB; revert n0_; intro HB; (try clear hb)))
    go_ret
    exact ⟨q0, Short.hB HB⟩
   replace c7 := Bool.eq_false_iff.mpr c7
   subst c7
   rw [if_neg (show ¬ (false = true) by decide)] at H
   have H' := mk_ H
   clear H
   have p300 : 0 ≤ (x8_1 : Int) := of_decide_eq_true z1_
   have q300 : x8_1 < (l0.length : Int) := of_decide_eq_true z1_
   obtain ⟨ad300, e300, hx300_0, hx300_1, hx300_2⟩ := at_T84 HR0.out x8_1 p300 q300
   cases e300
   replace hx300_0 := up_ HB hx300_0
   replace hx300_1 := up_ HB hx300_1
   replace hx300_2 := up_ HB hx300_2
   replace p300 := eq_true p300
   replace q300 := eq_true q300
   go_wp2_with (first | ((first | ((with_reducible refine gate_callee (f := 102) rfl ?_); refine Short.gL (some 16) Try.func102 #[.agg #[.int .i64 ((rd_T84 l0 x8_1).f0), .int .i64 ((rd_T84 l0 x8_1).f1), .string ((rd_T84 l0 x8_1).f2)]] (h := ?_)) | ((with_reducible refine Go.Proofs.Ytjnjfogfpmeacaa.Steps.gate_any rfl ?_); refine Go.Proofs.Ytjnjfogfpmeacaa.Steps.goesV_ (some 16) rfl rfl Try.func102 z0_ rfl #[.agg #[.int .i64 ((rd_T84 l0 x8_1).f0), .int .i64 ((rd_T84 l0 x8_1).f1), .string ((rd_T84 l0 x8_1).f2)]] rfl (by first | rfl | go_simp) z2_ ?_)); (with_reducible refine (op_small_1.calls ((rd_T84 l0 x8_1).f0) ((rd_T84 l0 x8_1).f1) ((rd_T84 l0 x8_1).f2) false _ A6.out).mono ?_); rintro e w9 ⟨rfl, hb⟩; refine ⟨_, rfl, ?_⟩; have n0_ := mk_ (below_step (Short.hB HB) hb); clear HB; revert n0_; intro HB; (try clear hb)))
   go_roundg k1
   case measure => have := HK1.out; omega
   case rel => exact ⟨(wrap64 (x8_1 + 1)), z3_, H', ⟨by have := HK1.out; omega⟩, ⟨Short.hB HB⟩⟩
def slices_ContainsFunc_at_op_small_1.f (k : Nat) (l0 : List (S84)) (a1 : Unit) : Option (Bool) := (slices_IndexFunc_at_op_small_1.f k l0 a1).bind fun t302 => (some (decide (t302 ≥ 0)))
theorem slices_ContainsFunc_at_op_small_1.calls (k : Nat) (A0 : Option Addr) (c0 : Nat) (l0 : List (S84)) (a1 : Unit) (r : Bool) (w : World) (hr0 : Kd.C k84 w A0 l0.length l0) (hc0 : l0.length ≤ c0) (h : slices_ContainsFunc_at_op_small_1.f k l0 a1 = some r) :
  Calls Try.prog 85 #[.slice A0 l0.length c0, .func (.func 102) #[] #[]] w fun e w' => e = .returned (.bool r) ∧ Below w.heap.size w w' := by
 have HR0 := mk_ hr0
 have HC0 := mk_ hc0
 clear hr0 hc0
 have HB := mk_ (Below.refl w.heap.size w)
 have H : ((slices_IndexFunc_at_op_small_1.f k l0 a1).bind fun t302 => (some (decide (t302 ≥ 0)))) = some r := h
 clear h
 replace H := Option.bind_eq_some_iff.mp H
 obtain ⟨t302, A30, H⟩ := H
 replace H : (some (decide (t302 ≥ 0))) = some r := H
 have A3 := mk_ A30
 clear A30
 obtain rfl := Option.some.inj H
 go_enter Try.func85, Try.ntmps85
 go_wp2_with (first | ((first | ((with_reducible refine gate_callee (f := 106) rfl ?_); refine Short.gL (some 7) Try.func106 #[.slice A0 l0.length c0, .func (.func 102) #[] #[]] (h := ?_)) | ((with_reducible refine Go.Proofs.Ytjnjfogfpmeacaa.Steps.gate_any rfl ?_); refine Go.Proofs.Ytjnjfogfpmeacaa.Steps.goesV_ (some 7) rfl rfl Try.func106 z0_ rfl #[.slice A0 l0.length c0, .func (.func 102) #[] #[]] rfl (by first | rfl | go_simp) z2_ ?_)); (with_reducible refine (slices_IndexFunc_at_op_small_1.calls k _ _ l0 a1 t302 _ ?side1 ?side2 A3.out).mono ?_); (case side1 => repeat (first | exact HR0.out | (with_reducible refine C_alloc ?_ _) | (with_reducible refine C_drewN ?_ _) | (with_reducible refine C_drew ?_))); (case side2 => exact HC0.out); rintro e w4 ⟨rfl, hb⟩; refine ⟨_, rfl, ?_⟩; have n0_ := mk_ (below_step (Short.hB HB) hb); clear HB; revert n0_; intro HB; (try clear hb)))
 go_ret
 exact ⟨q0, Short.hB HB⟩
def op_small.f (k : Nat) (l0 : List (S84)) (l1 : List Int) : Option (Bool) := (row_Fits.f k l0 l1).bind fun t303 => (if t303 = true then ((slices_ContainsFunc_at_op_small_1.f k l0 ()).bind fun t304 => (some (!t304))) else (some false))
theorem op_small.calls (k : Nat) (A0 : Option Addr) (c0 : Nat) (l0 : List (S84)) (A1 : Option Addr) (c1 : Nat) (l1 : List Int) (r : Bool) (w : World) (hr0 : Kd.C k84 w A0 l0.length l0) (hc0 : l0.length ≤ c0) (hr1 : Kd.C (Kd.int .i64) w A1 l1.length l1) (hc1 : l1.length ≤ c1) (h : op_small.f k l0 l1 = some r) :
  Calls Try.prog 74 #[.slice A0 l0.length c0, .slice A1 l1.length c1] w fun e w' => e = .returned (.bool r) ∧ Below w.heap.size w w' := by
 have HR0 := mk_ hr0
 have HC0 := mk_ hc0
 clear hr0 hc0
 have HR1 := mk_ hr1
 have HC1 := mk_ hc1
 clear hr1 hc1
 have HB := mk_ (Below.refl w.heap.size w)
 have H : ((row_Fits.f k l0 l1).bind fun t303 => (if t303 = true then ((slices_ContainsFunc_at_op_small_1.f k l0 ()).bind fun t304 => (some (!t304))) else (some false))) = some r := h
 clear h
 replace H := Option.bind_eq_some_iff.mp H
 obtain ⟨t303, A30, H⟩ := H
 replace H : (if t303 = true then ((slices_ContainsFunc_at_op_small_1.f k l0 ()).bind fun t304 => (some (!t304))) else (some false)) = some r := H
 have A3 := mk_ A30
 clear A30
 by_cases c4 : t303 = true
 rotate_left
 ·
  replace c4 := Bool.eq_false_iff.mpr c4
  subst c4
  rw [if_neg (show ¬ (false = true) by decide)] at H
  obtain rfl := Option.some.inj H
  go_enter Try.func74, Try.ntmps74
  go_wp2_with (first | ((with_reducible refine gate_callee (f := 101) rfl ?_); refine Short.gL (some 7) Try.func101 #[.slice A0 l0.length c0, .slice A1 l1.length c1] (h := ?_); (with_reducible refine (row_Fits.calls k _ _ l0 _ _ l1 false _ ?side1 ?side2 ?side3 ?side4 A3.out).mono ?_); (case side1 => repeat (first | exact HR0.out | (with_reducible refine C_alloc ?_ _) | (with_reducible refine C_drewN ?_ _) | (with_reducible refine C_drew ?_))); (case side2 => exact HC0.out); (case side3 => repeat (first | exact HR1.out | (with_reducible refine C_alloc ?_ _) | (with_reducible refine C_drewN ?_ _) | (with_reducible refine C_drew ?_))); (case side4 => exact HC1.out); rintro e w8 ⟨rfl, hb⟩; refine ⟨_, rfl, ?_⟩; have n0_ := mk_ (below_step (Short.hB HB) hb); clear HB; revert n0_; intro HB; (try clear hb)))
  go_ret
  exact ⟨q0, Short.hB HB⟩
 subst c4
 rw [if_pos rfl] at H
 replace H := Option.bind_eq_some_iff.mp H
 obtain ⟨t304, A50, H⟩ := H
 replace H : (some (!t304)) = some r := H
 have A5 := mk_ A50
 clear A50
 obtain rfl := Option.some.inj H
 go_enter Try.func74, Try.ntmps74
 go_wp2_with (first | ((with_reducible refine gate_callee (f := 101) rfl ?_); refine Short.gL (some 7) Try.func101 #[.slice A0 l0.length c0, .slice A1 l1.length c1] (h := ?_); (with_reducible refine (row_Fits.calls k _ _ l0 _ _ l1 true _ ?side1 ?side2 ?side3 ?side4 A3.out).mono ?_); (case side1 => repeat (first | exact HR0.out | (with_reducible refine C_alloc ?_ _) | (with_reducible refine C_drewN ?_ _) | (with_reducible refine C_drew ?_))); (case side2 => exact HC0.out); (case side3 => repeat (first | exact HR1.out | (with_reducible refine C_alloc ?_ _) | (with_reducible refine C_drewN ?_ _) | (with_reducible refine C_drew ?_))); (case side4 => exact HC1.out); rintro e w6 ⟨rfl, hb⟩; refine ⟨_, rfl, ?_⟩; have n0_ := mk_ (below_step (Short.hB HB) hb); clear HB; revert n0_; intro HB; (try clear hb)) | (go_at_call 85; (with_reducible refine (slices_ContainsFunc_at_op_small_1.calls k _ _ l0 () t304 _ ?side1 ?side2 A5.out).mono ?_); (case side1 => exact cX_ (C_below HR0.out HB.out)); (case side2 => exact HC0.out); rintro e w7 ⟨rfl, hb⟩; have n0_ := mk_ (below_step (Short.hB HB) hb); clear HB; revert n0_; intro HB; (try clear hb); (try clear hb2); (try clear hk); (try clear hi)))
 go_ret
 exact ⟨q0, Short.hB HB⟩
def dot_in.f (l0 : List Int) (a1 : Int) : Option (Bool) := if a1 ≥ 0 then (some (decide (a1 < (l0.length : Int)))) else (some false)
theorem dot_in.calls (A0 : Option Addr) (c0 : Nat) (l0 : List Int) (a1 : Int) (r : Bool) (w : World) (hr0 : Kd.C (Kd.int .i64) w A0 l0.length l0) (hc0 : l0.length ≤ c0) (h : dot_in.f l0 a1 = some r) :
  Calls Try.prog 117 #[.slice A0 l0.length c0, .int .i64 a1] w fun e w' => e = .returned (.bool r) ∧ Drawn0 w w' := by
 have HR0 := mk_ hr0
 have HC0 := mk_ hc0
 clear hr0 hc0
 have H : (if a1 ≥ 0 then (some (decide (a1 < (l0.length : Int)))) else (some false)) = some r := h
 clear h
 by_cases c3 : a1 ≥ 0
 ·
  rw [if_pos c3] at H
  have c3b0 : decide (0 ≤ a1) = true := decide_eq_true c3
  clear c3
  obtain rfl := Option.some.inj H
  go_enter Try.func117, Try.ntmps117
  go_wp2
  go_ret
  exact ⟨z3_, by repeat (first | exact Drawn0.refl _ | apply Drawn0.step)⟩
 rw [if_neg c3] at H
 have c3b0 : decide (0 ≤ a1) = false := decide_eq_false c3
 clear c3
 obtain rfl := Option.some.inj H
 go_enter Try.func117, Try.ntmps117
 go_wp2
 go_ret
 exact ⟨z3_, by repeat (first | exact Drawn0.refl _ | apply Drawn0.step)⟩
def dot_Has.f (l0 : List Int) (a1_0 : Int) (a1_1 : Int) : Option (Bool) := (dot_in.f l0 a1_0).bind fun t306 => (if t306 = true then (if a1_1 ≥ 1 then (if 0 ≤ a1_0 then (if a1_0 < (l0.length : Int) then (some (decide (a1_1 ≤ (rd l0 a1_0)))) else (none)) else (none)) else (some false)) else (some false))
theorem dot_Has.calls (A0 : Option Addr) (c0 : Nat) (l0 : List Int) (a1_0 : Int) (a1_1 : Int) (r : Bool) (w : World) (hr0 : Kd.C (Kd.int .i64) w A0 l0.length l0) (hc0 : l0.length ≤ c0) (h : dot_Has.f l0 a1_0 a1_1 = some r) :
  Calls Try.prog 104 #[.slice A0 l0.length c0, .agg #[.int .i64 a1_0, .int .i64 a1_1]] w fun e w' => e = .returned (.bool r) ∧ Below w.heap.size w w' := by
 have hu25 := Try.underlying25
 have HR0 := mk_ hr0
 have HC0 := mk_ hc0
 clear hr0 hc0
 have HB := mk_ (Below.refl w.heap.size w)
 have H : ((dot_in.f l0 a1_0).bind fun t306 => (if t306 = true then (if a1_1 ≥ 1 then (if 0 ≤ a1_0 then (if a1_0 < (l0.length : Int) then (some (decide (a1_1 ≤ (rd l0 a1_0)))) else (none)) else (none)) else (some false)) else (some false))) = some r := h
 clear h
 replace H := Option.bind_eq_some_iff.mp H
 obtain ⟨t306, A30, H⟩ := H
 replace H : (if t306 = true then (if a1_1 ≥ 1 then (if 0 ≤ a1_0 then (if a1_0 < (l0.length : Int) then (some (decide (a1_1 ≤ (rd l0 a1_0)))) else (none)) else (none)) else (some false)) else (some false)) = some r := H
 have A3 := mk_ A30
 clear A30
 by_cases c4 : t306 = true
 rotate_left
 ·
  replace c4 := Bool.eq_false_iff.mpr c4
  subst c4
  rw [if_neg (show ¬ (false = true) by decide)] at H
  obtain rfl := Option.some.inj H
  go_enter Try.func104, Try.ntmps104
  go_wp2_with (first | ((with_reducible refine gate_dst (N := 3) rfl ?_); refine box_event ?hg (N := 3) ?hd (cs := #[.int .i64 a1_0, .int .i64 a1_1]) (t := 25) ?hr ?_; (case hd => rfl); (case hg => rfl); (case hr => first | (go_simp; done) | (go_simp; rfl)); intro gb305 hg w12 hbox hb; have n0_ := mk_ (below_step (Short.hB HB) hb); have n1_ := mk_ (hbox); have n2_ := mk_ ((by rw [hg]; exact (below_size (Short.hB HB)) : w.heap.size ≤ gb305)); have n3_ := mk_ ((by rw [hg]; exact (below_size (Short.hB HB)) : w.heap.size ≤ gb305)); clear HB; revert n0_ n1_ n2_ n3_; intro HB BK305 GW305 GE305; clear hb hbox hg; obtain ⟨hcz13_0, hcz13_1, hfz13_0, hfz13_1⟩ := Short.c2 BK305.out) | (go_at_call 117; (with_reducible refine (dot_in.calls _ _ l0 a1_0 false _ ?side1 ?side2 A3.out).mono ?_); (case side1 => exact cX_ (C_below HR0.out HB.out)); (case side2 => exact HC0.out); rintro e w' ⟨rfl, ⟨nd, rfl⟩⟩; (try first | exact ⟨rfl, _, World.drewN_drewN _ _ _⟩ | exact ⟨rfl, _, Eq.trans (World.drewN_drewN _ _ _) (congrArg (World.drewN _) (Nat.add_assoc _ _ _))⟩)))
  repeat (go_quiet (first | ((with_reducible refine gate_dst (N := 3) rfl ?_); refine box_event ?hg (N := 3) ?hd (cs := #[.int .i64 a1_0, .int .i64 a1_1]) (t := 25) ?hr ?_; (case hd => rfl); (case hg => rfl); (case hr => first | (go_simp; done) | (go_simp; rfl)); intro gb305 hg w12 hbox hb; have n0_ := mk_ (below_step (Short.hB HB) hb); have n1_ := mk_ (hbox); have n2_ := mk_ ((by rw [hg]; exact (below_size (Short.hB HB)) : w.heap.size ≤ gb305)); have n3_ := mk_ ((by rw [hg]; exact (below_size (Short.hB HB)) : w.heap.size ≤ gb305)); clear HB; revert n0_ n1_ n2_ n3_; intro HB BK305 GW305 GE305; clear hb hbox hg; obtain ⟨hcz13_0, hcz13_1, hfz13_0, hfz13_1⟩ := Short.c2 BK305.out) | (go_at_call 117; (with_reducible refine (dot_in.calls _ _ l0 a1_0 false _ ?side1 ?side2 A3.out).mono ?_); (case side1 => exact cX_ (C_below HR0.out HB.out)); (case side2 => exact HC0.out); rintro e w' ⟨rfl, ⟨nd, rfl⟩⟩; (try first | exact ⟨rfl, _, World.drewN_drewN _ _ _⟩ | exact ⟨rfl, _, Eq.trans (World.drewN_drewN _ _ _) (congrArg (World.drewN _) (Nat.add_assoc _ _ _))⟩))); try go_wp2_with (first | ((with_reducible refine gate_dst (N := 3) rfl ?_); refine box_event ?hg (N := 3) ?hd (cs := #[.int .i64 a1_0, .int .i64 a1_1]) (t := 25) ?hr ?_; (case hd => rfl); (case hg => rfl); (case hr => first | (go_simp; done) | (go_simp; rfl)); intro gb305 hg w12 hbox hb; have n0_ := mk_ (below_step (Short.hB HB) hb); have n1_ := mk_ (hbox); have n2_ := mk_ ((by rw [hg]; exact (below_size (Short.hB HB)) : w.heap.size ≤ gb305)); have n3_ := mk_ ((by rw [hg]; exact (below_size (Short.hB HB)) : w.heap.size ≤ gb305)); clear HB; revert n0_ n1_ n2_ n3_; intro HB BK305 GW305 GE305; clear hb hbox hg; obtain ⟨hcz13_0, hcz13_1, hfz13_0, hfz13_1⟩ := Short.c2 BK305.out) | (go_at_call 117; (with_reducible refine (dot_in.calls _ _ l0 a1_0 false _ ?side1 ?side2 A3.out).mono ?_); (case side1 => exact cX_ (C_below HR0.out HB.out)); (case side2 => exact HC0.out); rintro e w' ⟨rfl, ⟨nd, rfl⟩⟩; (try first | exact ⟨rfl, _, World.drewN_drewN _ _ _⟩ | exact ⟨rfl, _, Eq.trans (World.drewN_drewN _ _ _) (congrArg (World.drewN _) (Nat.add_assoc _ _ _))⟩))))
  go_ret
  exact ⟨q0, Short.hB HB⟩
 subst c4
 rw [if_pos rfl] at H
 by_cases c5 : a1_1 ≥ 1
 rotate_left
 ·
  rw [if_neg c5] at H
  have c5b0 : decide (1 ≤ a1_1) = false := decide_eq_false c5
  clear c5
  obtain rfl := Option.some.inj H
  go_enter Try.func104, Try.ntmps104
  go_wp2_with (first | ((with_reducible refine gate_dst (N := 3) rfl ?_); refine box_event ?hg (N := 3) ?hd (cs := #[.int .i64 a1_0, .int .i64 a1_1]) (t := 25) ?hr ?_; (case hd => rfl); (case hg => rfl); (case hr => first | (go_simp; done) | (go_simp; rfl)); intro gb305 hg w10 hbox hb; have n0_ := mk_ (below_step (Short.hB HB) hb); have n1_ := mk_ (hbox); have n2_ := mk_ ((by rw [hg]; exact (below_size (Short.hB HB)) : w.heap.size ≤ gb305)); have n3_ := mk_ ((by rw [hg]; exact (below_size (Short.hB HB)) : w.heap.size ≤ gb305)); clear HB; revert n0_ n1_ n2_ n3_; intro HB BK305 GW305 GE305; clear hb hbox hg; obtain ⟨hcz11_0, hcz11_1, hfz11_0, hfz11_1⟩ := Short.c2 BK305.out) | (go_at_call 117; (with_reducible refine (dot_in.calls _ _ l0 a1_0 true _ ?side1 ?side2 A3.out).mono ?_); (case side1 => exact cX_ (C_below HR0.out HB.out)); (case side2 => exact HC0.out); rintro e w' ⟨rfl, ⟨nd, rfl⟩⟩; (try first | exact ⟨rfl, _, World.drewN_drewN _ _ _⟩ | exact ⟨rfl, _, Eq.trans (World.drewN_drewN _ _ _) (congrArg (World.drewN _) (Nat.add_assoc _ _ _))⟩)))
  repeat (go_quiet (first | ((with_reducible refine gate_dst (N := 3) rfl ?_); refine box_event ?hg (N := 3) ?hd (cs := #[.int .i64 a1_0, .int .i64 a1_1]) (t := 25) ?hr ?_; (case hd => rfl); (case hg => rfl); (case hr => first | (go_simp; done) | (go_simp; rfl)); intro gb305 hg w10 hbox hb; have n0_ := mk_ (below_step (Short.hB HB) hb); have n1_ := mk_ (hbox); have n2_ := mk_ ((by rw [hg]; exact (below_size (Short.hB HB)) : w.heap.size ≤ gb305)); have n3_ := mk_ ((by rw [hg]; exact (below_size (Short.hB HB)) : w.heap.size ≤ gb305)); clear HB; revert n0_ n1_ n2_ n3_; intro HB BK305 GW305 GE305; clear hb hbox hg; obtain ⟨hcz11_0, hcz11_1, hfz11_0, hfz11_1⟩ := Short.c2 BK305.out) | (go_at_call 117; (with_reducible refine (dot_in.calls _ _ l0 a1_0 true _ ?side1 ?side2 A3.out).mono ?_); (case side1 => exact cX_ (C_below HR0.out HB.out)); (case side2 => exact HC0.out); rintro e w' ⟨rfl, ⟨nd, rfl⟩⟩; (try first | exact ⟨rfl, _, World.drewN_drewN _ _ _⟩ | exact ⟨rfl, _, Eq.trans (World.drewN_drewN _ _ _) (congrArg (World.drewN _) (Nat.add_assoc _ _ _))⟩))); try go_wp2_with (first | ((with_reducible refine gate_dst (N := 3) rfl ?_); refine box_event ?hg (N := 3) ?hd (cs := #[.int .i64 a1_0, .int .i64 a1_1]) (t := 25) ?hr ?_; (case hd => rfl); (case hg => rfl); (case hr => first | (go_simp; done) | (go_simp; rfl)); intro gb305 hg w10 hbox hb; have n0_ := mk_ (below_step (Short.hB HB) hb); have n1_ := mk_ (hbox); have n2_ := mk_ ((by rw [hg]; exact (below_size (Short.hB HB)) : w.heap.size ≤ gb305)); have n3_ := mk_ ((by rw [hg]; exact (below_size (Short.hB HB)) : w.heap.size ≤ gb305)); clear HB; revert n0_ n1_ n2_ n3_; intro HB BK305 GW305 GE305; clear hb hbox hg; obtain ⟨hcz11_0, hcz11_1, hfz11_0, hfz11_1⟩ := Short.c2 BK305.out) | (go_at_call 117; (with_reducible refine (dot_in.calls _ _ l0 a1_0 true _ ?side1 ?side2 A3.out).mono ?_); (case side1 => exact cX_ (C_below HR0.out HB.out)); (case side2 => exact HC0.out); rintro e w' ⟨rfl, ⟨nd, rfl⟩⟩; (try first | exact ⟨rfl, _, World.drewN_drewN _ _ _⟩ | exact ⟨rfl, _, Eq.trans (World.drewN_drewN _ _ _) (congrArg (World.drewN _) (Nat.add_assoc _ _ _))⟩))))
  go_ret
  exact ⟨q0, Short.hB HB⟩
 rw [if_pos c5] at H
 have c5b0 : decide (1 ≤ a1_1) = true := decide_eq_true c5
 clear c5
 by_cases c6 : 0 ≤ a1_0
 rotate_left
 ·
  rw [if_neg c6] at H
  exact absurd H (by simp)
 rw [if_pos c6] at H
 have c6b0 : decide (0 ≤ a1_0) = true := decide_eq_true c6
 clear c6
 by_cases c7 : a1_0 < (l0.length : Int)
 rotate_left
 ·
  rw [if_neg c7] at H
  exact absurd H (by simp)
 rw [if_pos c7] at H
 have c7b0 : decide (a1_0 < (l0.length : Int)) = true := decide_eq_true c7
 clear c7
 obtain rfl := Option.some.inj H
 go_enter Try.func104, Try.ntmps104
 go_wp2_with (first | ((with_reducible refine gate_dst (N := 3) rfl ?_); refine box_event ?hg (N := 3) ?hd (cs := #[.int .i64 a1_0, .int .i64 a1_1]) (t := 25) ?hr ?_; (case hd => rfl); (case hg => rfl); (case hr => first | (go_simp; done) | (go_simp; rfl)); intro gb305 hg w8 hbox hb; have n0_ := mk_ (below_step (Short.hB HB) hb); have n1_ := mk_ (hbox); have n2_ := mk_ ((by rw [hg]; exact (below_size (Short.hB HB)) : w.heap.size ≤ gb305)); have n3_ := mk_ ((by rw [hg]; exact (below_size (Short.hB HB)) : w.heap.size ≤ gb305)); clear HB; revert n0_ n1_ n2_ n3_; intro HB BK305 GW305 GE305; clear hb hbox hg; obtain ⟨hcz9_0, hcz9_1, hfz9_0, hfz9_1⟩ := Short.c2 BK305.out) | (go_at_call 117; (with_reducible refine (dot_in.calls _ _ l0 a1_0 true _ ?side1 ?side2 A3.out).mono ?_); (case side1 => exact cX_ (C_below HR0.out HB.out)); (case side2 => exact HC0.out); rintro e w' ⟨rfl, ⟨nd, rfl⟩⟩; (try first | exact ⟨rfl, _, World.drewN_drewN _ _ _⟩ | exact ⟨rfl, _, Eq.trans (World.drewN_drewN _ _ _) (congrArg (World.drewN _) (Nat.add_assoc _ _ _))⟩); have p307 : 0 ≤ (a1_0 : Int) := of_decide_eq_true z1_; have q307 : a1_0 < (l0.length : Int) := of_decide_eq_true z1_; obtain ⟨ad307, e307, hx307_0⟩ := Kd.at_int HR0.out a1_0 p307 q307; cases e307; replace hx307_0 := up_ HB hx307_0; replace p307 := eq_true p307; replace q307 := eq_true q307))
 repeat (go_quiet (first | ((with_reducible refine gate_dst (N := 3) rfl ?_); refine box_event ?hg (N := 3) ?hd (cs := #[.int .i64 a1_0, .int .i64 a1_1]) (t := 25) ?hr ?_; (case hd => rfl); (case hg => rfl); (case hr => first | (go_simp; done) | (go_simp; rfl)); intro gb305 hg w8 hbox hb; have n0_ := mk_ (below_step (Short.hB HB) hb); have n1_ := mk_ (hbox); have n2_ := mk_ ((by rw [hg]; exact (below_size (Short.hB HB)) : w.heap.size ≤ gb305)); have n3_ := mk_ ((by rw [hg]; exact (below_size (Short.hB HB)) : w.heap.size ≤ gb305)); clear HB; revert n0_ n1_ n2_ n3_; intro HB BK305 GW305 GE305; clear hb hbox hg; obtain ⟨hcz9_0, hcz9_1, hfz9_0, hfz9_1⟩ := Short.c2 BK305.out) | (go_at_call 117; (with_reducible refine (dot_in.calls _ _ l0 a1_0 true _ ?side1 ?side2 A3.out).mono ?_); (case side1 => exact cX_ (C_below HR0.out HB.out)); (case side2 => exact HC0.out); rintro e w' ⟨rfl, ⟨nd, rfl⟩⟩; (try first | exact ⟨rfl, _, World.drewN_drewN _ _ _⟩ | exact ⟨rfl, _, Eq.trans (World.drewN_drewN _ _ _) (congrArg (World.drewN _) (Nat.add_assoc _ _ _))⟩); have p307 : 0 ≤ (a1_0 : Int) := of_decide_eq_true z1_; have q307 : a1_0 < (l0.length : Int) := of_decide_eq_true z1_; obtain ⟨ad307, e307, hx307_0⟩ := Kd.at_int HR0.out a1_0 p307 q307; cases e307; replace hx307_0 := up_ HB hx307_0; replace p307 := eq_true p307; replace q307 := eq_true q307)); try go_wp2_with (first | ((with_reducible refine gate_dst (N := 3) rfl ?_); refine box_event ?hg (N := 3) ?hd (cs := #[.int .i64 a1_0, .int .i64 a1_1]) (t := 25) ?hr ?_; (case hd => rfl); (case hg => rfl); (case hr => first | (go_simp; done) | (go_simp; rfl)); intro gb305 hg w8 hbox hb; have n0_ := mk_ (below_step (Short.hB HB) hb); have n1_ := mk_ (hbox); have n2_ := mk_ ((by rw [hg]; exact (below_size (Short.hB HB)) : w.heap.size ≤ gb305)); have n3_ := mk_ ((by rw [hg]; exact (below_size (Short.hB HB)) : w.heap.size ≤ gb305)); clear HB; revert n0_ n1_ n2_ n3_; intro HB BK305 GW305 GE305; clear hb hbox hg; obtain ⟨hcz9_0, hcz9_1, hfz9_0, hfz9_1⟩ := Short.c2 BK305.out) | (go_at_call 117; (with_reducible refine (dot_in.calls _ _ l0 a1_0 true _ ?side1 ?side2 A3.out).mono ?_); (case side1 => exact cX_ (C_below HR0.out HB.out)); (case side2 => exact HC0.out); rintro e w' ⟨rfl, ⟨nd, rfl⟩⟩; (try first | exact ⟨rfl, _, World.drewN_drewN _ _ _⟩ | exact ⟨rfl, _, Eq.trans (World.drewN_drewN _ _ _) (congrArg (World.drewN _) (Nat.add_assoc _ _ _))⟩); have p307 : 0 ≤ (a1_0 : Int) := of_decide_eq_true z1_; have q307 : a1_0 < (l0.length : Int) := of_decide_eq_true z1_; obtain ⟨ad307, e307, hx307_0⟩ := Kd.at_int HR0.out a1_0 p307 q307; cases e307; replace hx307_0 := up_ HB hx307_0; replace p307 := eq_true p307; replace q307 := eq_true q307)))
 go_ret
 exact ⟨q0, Short.hB HB⟩
def cmp_Or_int.l0 : Nat → Int → List Int → Int → Int → Option (Int)
 | 0, _, _, _, _ => none
 | k + 1, x3, x6, x7, x8 => if x8 < x7 then (if 0 ≤ x8 then (if x8 < (x6.length : Int) then (if (rd x6 x8) = x3 then (cmp_Or_int.l0 k x3 x6 x7 (wrap64 (x8 + 1))) else (some (rd x6 x8))) else (none)) else (none)) else (some x3)
def cmp_Or_int.f (k : Nat) (l0 : List Int) : Option (Int) := cmp_Or_int.l0 k 0 l0 (l0.length : Int) 0
theorem cmp_Or_int.calls (k : Nat) (A0 : Option Addr) (c0 : Nat) (l0 : List Int) (r : Int) (w : World) (hr0 : Kd.C (Kd.int .i64) w A0 l0.length l0) (hc0 : l0.length ≤ c0) (h : cmp_Or_int.f k l0 = some r) :
  Calls Try.prog 121 #[.slice A0 l0.length c0] w fun e w' => e = .returned (.int .i64 r) ∧ Drawn0 w w' := by
 have HR0 := mk_ hr0
 have HC0 := mk_ hc0
 clear hr0 hc0
 have H : (cmp_Or_int.l0 k 0 l0 (l0.length : Int) 0) = some r := h
 clear h
 have H' := mk_ H
 clear H
 go_enter Try.func121, Try.ntmps121
 go_wp2
 go_loopg [8] k (fun kq v8 w' => ∃ (x8_1 : Int), v8 = .int .i64 x8_1 ∧ Aside0 (cmp_Or_int.l0 kq 0 l0 (l0.length : Int) x8_1 = some r) ∧ Aside0 (kq ≤ k) ∧ Drawn0 w w')
 case atStart => exact ⟨(0), z3_, H', ⟨Nat.le_refl _⟩, by repeat (first | exact Drawn0.refl _ | apply Drawn0.step)⟩
 case round =>
  clear H'
  try clear c1
  obtain ⟨x8_1, rfl, HA, HK1, ⟨m1, rfl⟩⟩ := hrel
  cases gk with
  | zero => exact absurd HA.out (by simp [cmp_Or_int.l0])
  | succ k1 =>
   have H := HA.out
   clear HA
   simp only [cmp_Or_int.l0] at H
   by_cases c2 : x8_1 < (l0.length : Int)
   rotate_left
   ·
    rw [if_neg c2] at H
    have c2b0 : decide (x8_1 < (l0.length : Int)) = false := decide_eq_false c2
    clear c2
    obtain rfl := Option.some.inj H
    go_wp2
    go_ret
    exact ⟨z3_, by repeat (first | exact Drawn0.refl _ | apply Drawn0.step)⟩
   rw [if_pos c2] at H
   have c2b0 : decide (x8_1 < (l0.length : Int)) = true := decide_eq_true c2
   clear c2
   by_cases c3 : 0 ≤ x8_1
   rotate_left
   ·
    rw [if_neg c3] at H
    exact absurd H (by simp)
   rw [if_pos c3] at H
   have c3b0 : decide (0 ≤ x8_1) = true := decide_eq_true c3
   clear c3
   by_cases c4 : x8_1 < (l0.length : Int)
   rotate_left
   ·
    rw [if_neg c4] at H
    exact absurd H (by simp)
   rw [if_pos c4] at H
   have c4b0 : decide (x8_1 < (l0.length : Int)) = true := decide_eq_true c4
   clear c4
   by_cases c5 : (rd l0 x8_1) = 0
   rotate_left
   ·
    rw [if_neg c5] at H
    have c5b0 : ((rd l0 x8_1) == 0) = false := beq_eq_false_iff_ne.mpr c5
    have c5b1 : ((rd l0 x8_1) != 0) = true := bne_iff_ne.mpr c5
    obtain rfl := Option.some.inj H
    have p308 : 0 ≤ (x8_1 : Int) := of_decide_eq_true z1_
    have q308 : x8_1 < (l0.length : Int) := of_decide_eq_true z1_
    obtain ⟨ad308, e308, hx308_0⟩ := Kd.at_int HR0.out x8_1 p308 q308
    cases e308
    replace p308 := eq_true p308
    replace q308 := eq_true q308
    go_wp2
    go_ret
    exact ⟨z3_, by repeat (first | exact Drawn0.refl _ | apply Drawn0.step)⟩
   rw [if_pos c5] at H
   have c5b0 : ((rd l0 x8_1) == 0) = true := beq_iff_eq.mpr c5
   have c5b1 : ((rd l0 x8_1) != 0) = false := bne_eq_false_iff_eq.mpr c5
   clear c5
   have H' := mk_ H
   clear H
   have p308 : 0 ≤ (x8_1 : Int) := of_decide_eq_true z1_
   have q308 : x8_1 < (l0.length : Int) := of_decide_eq_true z1_
   obtain ⟨ad308, e308, hx308_0⟩ := Kd.at_int HR0.out x8_1 p308 q308
   cases e308
   replace p308 := eq_true p308
   replace q308 := eq_true q308
   go_wp2
   go_roundg k1
   case measure => have := HK1.out; omega
   case rel => exact ⟨(wrap64 (x8_1 + 1)), z3_, H', ⟨by have := HK1.out; omega⟩, by repeat (first | exact Drawn0.refl _ | apply Drawn0.step)⟩
def cmp_isNaN_int.f (a0 : Int) : Option (Bool) := some (a0 != a0)
theorem cmp_isNaN_int.calls (a0 : Int) (r : Bool) (w : World) (h : cmp_isNaN_int.f a0 = some r) :
  Calls Try.prog 123 #[.int .i64 a0] w fun e w' => e = .returned (.bool r) ∧ Drawn0 w w' := by
 have H : (some (a0 != a0)) = some r := h
 clear h
 obtain rfl := Option.some.inj H
 go_enter Try.func123, Try.ntmps123
 go_wp2
 go_ret
 exact ⟨z3_, by repeat (first | exact Drawn0.refl _ | apply Drawn0.step)⟩
end Go.Proofs.Ytjnjfogfpmeacaa.PAll
end
section
namespace Go.Proofs.Ytjnjfogfpmeacaa.PAll
open Go.RowKit PrintWords PrintLast PrintMore ZipT PrintWords.Kd PrintMore.Kd
attribute [local go_sem] max2_int min2_int max_two min_two max_three min_three max_four min_four   -- for this text's walks alone
set_option linter.unusedVariables false
set_option linter.unusedSimpArgs false
def cmp_Compare_int.f (a0 : Int) (a1 : Int) : Option (Int) := (cmp_isNaN_int.f a0).bind fun t309 => ((cmp_isNaN_int.f a1).bind fun t310 => (if t309 = true then (if t310 = true then (some 0) else (some (-1))) else (if t310 = true then (some 1) else (if a0 < a1 then (some (-1)) else (if a0 > a1 then (some 1) else (some 0))))))
theorem cmp_Compare_int.calls (a0 : Int) (a1 : Int) (r : Int) (w : World) (h : cmp_Compare_int.f a0 a1 = some r) :
  Calls Try.prog 122 #[.int .i64 a0, .int .i64 a1] w fun e w' => e = .returned (.int .i64 r) ∧ Drawn0 w w' := by
 have H : ((cmp_isNaN_int.f a0).bind fun t309 => ((cmp_isNaN_int.f a1).bind fun t310 => (if t309 = true then (if t310 = true then (some 0) else (some (-1))) else (if t310 = true then (some 1) else (if a0 < a1 then (some (-1)) else (if a0 > a1 then (some 1) else (some 0))))))) = some r := h
 clear h
 replace H := Option.bind_eq_some_iff.mp H
 obtain ⟨t309, A30, H⟩ := H
 replace H : ((cmp_isNaN_int.f a1).bind fun t310 => (if t309 = true then (if t310 = true then (some 0) else (some (-1))) else (if t310 = true then (some 1) else (if a0 < a1 then (some (-1)) else (if a0 > a1 then (some 1) else (some 0)))))) = some r := H
 have A3 := mk_ A30
 clear A30
 replace H := Option.bind_eq_some_iff.mp H
 obtain ⟨t310, A40, H⟩ := H
 replace H : (if t309 = true then (if t310 = true then (some 0) else (some (-1))) else (if t310 = true then (some 1) else (if a0 < a1 then (some (-1)) else (if a0 > a1 then (some 1) else (some 0))))) = some r := H
 have A4 := mk_ A40
 clear A40
 by_cases c5 : t309 = true
 ·
  subst c5
  rw [if_pos rfl] at H
  by_cases c6 : t310 = true
  ·
   subst c6
   rw [if_pos rfl] at H
   obtain rfl := Option.some.inj H
   go_enter Try.func122, Try.ntmps122
   go_wp2_with (first | ((with_reducible refine gate_callee (f := 123) rfl ?_); refine Short.gL (some 8) Try.func123 #[.int .i64 a0] (h := ?_); (with_reducible refine (cmp_isNaN_int.calls a0 true _ A3.out).mono ?_); rintro e w' ⟨rfl, ⟨nd, rfl⟩⟩; refine ⟨_, rfl, ?_⟩) | ((with_reducible refine gate_callee (f := 123) rfl ?_); refine Short.gL (some 10) Try.func123 #[.int .i64 a1] (h := ?_); (with_reducible refine (cmp_isNaN_int.calls a1 true _ A4.out).mono ?_); rintro e w' ⟨rfl, ⟨nd, rfl⟩⟩; refine ⟨_, rfl, ?_⟩))
   go_ret
   exact ⟨z3_, by repeat (first | exact Drawn0.refl _ | apply Drawn0.step)⟩
  replace c6 := Bool.eq_false_iff.mpr c6
  subst c6
  rw [if_neg (show ¬ (false = true) by decide)] at H
  obtain rfl := Option.some.inj H
  go_enter Try.func122, Try.ntmps122
  go_wp2_with (first | ((with_reducible refine gate_callee (f := 123) rfl ?_); refine Short.gL (some 8) Try.func123 #[.int .i64 a0] (h := ?_); (with_reducible refine (cmp_isNaN_int.calls a0 true _ A3.out).mono ?_); rintro e w' ⟨rfl, ⟨nd, rfl⟩⟩; refine ⟨_, rfl, ?_⟩) | ((with_reducible refine gate_callee (f := 123) rfl ?_); refine Short.gL (some 10) Try.func123 #[.int .i64 a1] (h := ?_); (with_reducible refine (cmp_isNaN_int.calls a1 false _ A4.out).mono ?_); rintro e w' ⟨rfl, ⟨nd, rfl⟩⟩; refine ⟨_, rfl, ?_⟩))
  go_ret
  exact ⟨z3_, by repeat (first | exact Drawn0.refl _ | apply Drawn0.step)⟩
 replace c5 := Bool.eq_false_iff.mpr c5
 subst c5
 rw [if_neg (show ¬ (false = true) by decide)] at H
 by_cases c7 : t310 = true
 ·
  subst c7
  rw [if_pos rfl] at H
  obtain rfl := Option.some.inj H
  go_enter Try.func122, Try.ntmps122
  go_wp2_with (first | ((with_reducible refine gate_callee (f := 123) rfl ?_); refine Short.gL (some 8) Try.func123 #[.int .i64 a0] (h := ?_); (with_reducible refine (cmp_isNaN_int.calls a0 false _ A3.out).mono ?_); rintro e w' ⟨rfl, ⟨nd, rfl⟩⟩; refine ⟨_, rfl, ?_⟩) | ((with_reducible refine gate_callee (f := 123) rfl ?_); refine Short.gL (some 10) Try.func123 #[.int .i64 a1] (h := ?_); (with_reducible refine (cmp_isNaN_int.calls a1 true _ A4.out).mono ?_); rintro e w' ⟨rfl, ⟨nd, rfl⟩⟩; refine ⟨_, rfl, ?_⟩))
  go_ret
  exact ⟨z3_, by repeat (first | exact Drawn0.refl _ | apply Drawn0.step)⟩
 replace c7 := Bool.eq_false_iff.mpr c7
 subst c7
 rw [if_neg (show ¬ (false = true) by decide)] at H
 by_cases c8 : a0 < a1
 ·
  rw [if_pos c8] at H
  have c8b0 : decide (a0 < a1) = true := decide_eq_true c8
  clear c8
  obtain rfl := Option.some.inj H
  go_enter Try.func122, Try.ntmps122
  go_wp2_with (first | ((with_reducible refine gate_callee (f := 123) rfl ?_); refine Short.gL (some 8) Try.func123 #[.int .i64 a0] (h := ?_); (with_reducible refine (cmp_isNaN_int.calls a0 false _ A3.out).mono ?_); rintro e w' ⟨rfl, ⟨nd, rfl⟩⟩; refine ⟨_, rfl, ?_⟩) | ((with_reducible refine gate_callee (f := 123) rfl ?_); refine Short.gL (some 10) Try.func123 #[.int .i64 a1] (h := ?_); (with_reducible refine (cmp_isNaN_int.calls a1 false _ A4.out).mono ?_); rintro e w' ⟨rfl, ⟨nd, rfl⟩⟩; refine ⟨_, rfl, ?_⟩))
  go_ret
  exact ⟨z3_, by repeat (first | exact Drawn0.refl _ | apply Drawn0.step)⟩
 rw [if_neg c8] at H
 have c8b0 : decide (a0 < a1) = false := decide_eq_false c8
 clear c8
 by_cases c9 : a0 > a1
 ·
  rw [if_pos c9] at H
  have c9b0 : decide (a1 < a0) = true := decide_eq_true c9
  clear c9
  obtain rfl := Option.some.inj H
  go_enter Try.func122, Try.ntmps122
  go_wp2_with (first | ((with_reducible refine gate_callee (f := 123) rfl ?_); refine Short.gL (some 8) Try.func123 #[.int .i64 a0] (h := ?_); (with_reducible refine (cmp_isNaN_int.calls a0 false _ A3.out).mono ?_); rintro e w' ⟨rfl, ⟨nd, rfl⟩⟩; refine ⟨_, rfl, ?_⟩) | ((with_reducible refine gate_callee (f := 123) rfl ?_); refine Short.gL (some 10) Try.func123 #[.int .i64 a1] (h := ?_); (with_reducible refine (cmp_isNaN_int.calls a1 false _ A4.out).mono ?_); rintro e w' ⟨rfl, ⟨nd, rfl⟩⟩; refine ⟨_, rfl, ?_⟩))
  go_ret
  exact ⟨z3_, by repeat (first | exact Drawn0.refl _ | apply Drawn0.step)⟩
 rw [if_neg c9] at H
 have c9b0 : decide (a1 < a0) = false := decide_eq_false c9
 clear c9
 obtain rfl := Option.some.inj H
 go_enter Try.func122, Try.ntmps122
 go_wp2_with (first | ((with_reducible refine gate_callee (f := 123) rfl ?_); refine Short.gL (some 8) Try.func123 #[.int .i64 a0] (h := ?_); (with_reducible refine (cmp_isNaN_int.calls a0 false _ A3.out).mono ?_); rintro e w' ⟨rfl, ⟨nd, rfl⟩⟩; refine ⟨_, rfl, ?_⟩) | ((with_reducible refine gate_callee (f := 123) rfl ?_); refine Short.gL (some 10) Try.func123 #[.int .i64 a1] (h := ?_); (with_reducible refine (cmp_isNaN_int.calls a1 false _ A4.out).mono ?_); rintro e w' ⟨rfl, ⟨nd, rfl⟩⟩; refine ⟨_, rfl, ?_⟩))
 go_ret
 exact ⟨z3_, by repeat (first | exact Drawn0.refl _ | apply Drawn0.step)⟩
def dot_Compare.f (k : Nat) (a0_0 : Int) (a0_1 : Int) (a1_0 : Int) (a1_1 : Int) : Option (Int) := (cmp_Compare_int.f a0_0 a1_0).bind fun t313 => ((cmp_Compare_int.f a0_1 a1_1).bind fun t314 => ((cmp_Or_int.f k (([t313, t314] : List Int))).bind fun t318 => (some t318)))
def dot_Compare.T1 : Bool × List (List Nat × List Nat) := (true, [([], []), ([0], [0]), ([], []), ([2], [2]), ([1, 3], [1, 3]), ([], []), ([5], [5]), ([], []), ([7], [7]), ([6, 8, 4], [6, 8]), ([4, 9], [4, 9]), ([10, 9], [10]), ([11, 11, 0, 1, 2, 3, 4, 5, 6, 7, 8, 9, 10, 11], [11])])
def dot_Compare.B1 : List Nat := [0, 1, 0, 4, 15, 0, 32, 0, 128, 511, 1023, 2047, 4095]
theorem dot_Compare.tab1 : rtab .any (opsOf Try.f118 1) = dot_Compare.T1 := by kernel_rfl
theorem dot_Compare.bits1 : waitsOk dot_Compare.T1.2 dot_Compare.B1 = true := by kernel_rfl
theorem dot_Compare.calls (k : Nat) (a0_0 : Int) (a0_1 : Int) (a1_0 : Int) (a1_1 : Int) (r : Int) (w : World) (h : dot_Compare.f k a0_0 a0_1 a1_0 a1_1 = some r) :
  Calls Try.prog 118 #[.agg #[.int .i64 a0_0, .int .i64 a0_1], .agg #[.int .i64 a1_0, .int .i64 a1_1]] w fun e w' => e = .returned (.int .i64 r) ∧ Below w.heap.size w w' := by
 have hu25 := Try.underlying25
 have HB := mk_ (Below.refl w.heap.size w)
 have H : ((cmp_Compare_int.f a0_0 a1_0).bind fun t313 => ((cmp_Compare_int.f a0_1 a1_1).bind fun t314 => ((cmp_Or_int.f k (([t313, t314] : List Int))).bind fun t318 => (some t318)))) = some r := h
 clear h
 replace H := Option.bind_eq_some_iff.mp H
 obtain ⟨t313, A30, H⟩ := H
 replace H : ((cmp_Compare_int.f a0_1 a1_1).bind fun t314 => ((cmp_Or_int.f k (([t313, t314] : List Int))).bind fun t318 => (some t318))) = some r := H
 have A3 := mk_ A30
 clear A30
 replace H := Option.bind_eq_some_iff.mp H
 obtain ⟨t314, A40, H⟩ := H
 replace H : ((cmp_Or_int.f k (([t313, t314] : List Int))).bind fun t318 => (some t318)) = some r := H
 have A4 := mk_ A40
 clear A40
 obtain ⟨y315, hy315⟩ : ∃ y_ : List Int, y_ = (([t313, t314] : List Int)) := ⟨_, rfl⟩
 replace H : ((cmp_Or_int.f k y315).bind fun t318 => (some t318)) = some r := by first | (rw [hy315]; with_reducible exact H) | (have H2_ := (Option.bind_some _ _).symm.trans H; rw [hy315]; with_reducible exact H2_) | (have H2_ := (Option.bind_some _ _).symm.trans H; with_reducible exact H2_) | with_reducible exact H | (rw [hy315]; exact H) | exact H
 have Ny315 := mk_ hy315
 clear hy315
 replace H := Option.bind_eq_some_iff.mp H
 obtain ⟨t318, A50, H⟩ := H
 replace H : (some t318) = some r := H
 have A5 := mk_ A50
 clear A50
 obtain rfl := Option.some.inj H
 go_enter Try.func118, Try.ntmps118
 try go_wp2_with (first | ((with_reducible refine gate_dst (N := 2) rfl ?_); refine box_event ?hg (N := 2) ?hd (cs := #[.int .i64 a0_0, .int .i64 a0_1]) (t := 25) ?hr ?_; (case hd => rfl); (case hg => rfl); (case hr => first | (go_simp; done) | (go_simp; rfl)); intro gb311 hg w6 hbox hb; have n0_ := mk_ (below_step (Short.hB HB) hb); have n1_ := mk_ (hbox); have n2_ := mk_ ((by rw [hg]; exact (below_size (Short.hB HB)) : w.heap.size ≤ gb311)); have n3_ := mk_ ((by rw [hg]; exact (below_size (Short.hB HB)) : w.heap.size ≤ gb311)); clear HB; revert n0_ n1_ n2_ n3_; intro HB BK311 GW311 GE311; clear hb hbox hg) | ((with_reducible refine gate_dst (N := 3) rfl ?_); refine box_event ?hg (N := 3) ?hd (cs := #[.int .i64 a1_0, .int .i64 a1_1]) (t := 25) ?hr ?_; (case hd => rfl); (case hg => rfl); (case hr => first | (go_simp; done) | (go_simp; rfl)); intro gb312 hg w7 hbox hb; have n0_ := mk_ (bB_ BK311 hb); have n1_ := mk_ (below_step (Short.hB HB) hb); have n2_ := mk_ (hbox); have n3_ := mk_ ((by rw [hg]; exact (below_size (Short.hB HB)) : w.heap.size ≤ gb312)); have n4_ := mk_ ((by rw [hg]; exact (below_size (Short.hB HB)) : w.heap.size ≤ gb312)); have n5_ := mk_ ((by rw [hg]; exact Nat.ne_of_lt (blk_lt (Short.bK BK311)) : gb311 ≠ gb312)); have n6_ := mk_ ((by rw [hg]; exact Nat.ne_of_gt (blk_lt (Short.bK BK311)) : gb312 ≠ gb311)); clear BK311 HB; revert n0_ n1_ n2_ n3_ n4_ n5_ n6_; intro BK311 HB BK312 GW312 GE312 NB311_312 NB312_311; clear hb hbox hg))
 have n0_ := mk_ (blk_drew BK311.out)
 have n1_ := mk_ (blk_drew BK312.out)
 have n2_ := mk_ (below_drew1 HB.out)
 clear BK311 BK312 HB
 revert n0_ n1_ n2_
 intro BK311 BK312 HB
 refine start_ (n := 13) (S := fun w' => w'.cell? ⟨gb311, 0, none⟩ = some (.int .i64 a0_0) ∧ w'.cell? ⟨gb311, 1, none⟩ = some (.int .i64 a0_1) ∧ w'.cell? ⟨gb312, 0, none⟩ = some (.int .i64 a1_0) ∧ w'.cell? ⟨gb312, 1, none⟩ = some (.int .i64 a1_1)) (ds := []) (Steps.Bs 13 0) z0_ rfl rfl ⟨kc_ BK311 0, kc_ BK311 1, kc_ BK312 0, kc_ BK312 1⟩ (fun hHeld => ?_); refine with_tabW dot_Compare.tab1 dot_Compare.bits1 (fun HT_ HW_ => ?_)
 generalize w7.drew = w8 at BK311 BK312 HB hHeld ⊢
 refine tI HT_ 0 5 13 1 ?_
 refine tI HT_ 2 7 13 5 ?_
 refine tI HT_ 5 10 13 37 ?_
 refine tI HT_ 7 12 13 165 ?_
 refine tT HT_ HW_ hHeld 1 6 13 167 ?_
 refine tT HT_ HW_ hHeld 3 8 13 175 ?_
 refine tT HT_ HW_ hHeld 6 11 13 239 ?_
 refine tT HT_ HW_ hHeld 8 13 13 495 ?_
 refine one_ (i := 4) (N := some 9) (Steps.Bs 13 511) rfl rfl (one_of HT_.out z0_) z5_ (fun K hK => ?_)
 refine goes_ Try.func122 z0_ rfl #[.int .i64 a0_0, .int .i64 a1_0] (by rfl) rfl rfl z2_ ?_
 with_reducible refine (cmp_Compare_int.calls a0_0 a1_0 t313 _ A3.out).mono ?_
 rintro e w' ⟨rfl, ⟨nd, rfl⟩⟩
 refine ⟨_, rfl, ?_⟩
 refine hK.out _ _ ⟨kc_ BK311 0, kc_ BK311 1, kc_ BK312 0, kc_ BK312 1⟩ (fun hHeld => ?_)
 clear hK K
 refine nrm 9 ?_
 refine one_ (i := 9) (N := some 14) (Steps.Bs 13 1023) rfl rfl (one_of HT_.out z0_) z5_ (fun K hK => ?_)
 refine goes_ Try.func122 z0_ rfl #[.int .i64 a0_1, .int .i64 a1_1] (by rfl) rfl rfl z2_ ?_
 with_reducible refine (cmp_Compare_int.calls a0_1 a1_1 t314 _ A4.out).mono ?_
 rintro e w' ⟨rfl, ⟨nd, rfl⟩⟩
 refine ⟨_, rfl, ?_⟩
 refine hK.out _ _ ⟨kc_ BK311 0, kc_ BK311 1, kc_ BK312 0, kc_ BK312 1⟩ (fun hHeld => ?_)
 clear hK K
 refine nrm 14 ?_
 refine one_ (i := 10) (N := some 15) (Steps.Bs 13 2047) rfl rfl (one_of HT_.out z0_) z5_ (fun K hK => ?_)
 refine R_lit_step (Kd.int .i64) _ 3 ?hg (N := 15) ?hd (xs := ([t313, t314] : List Int)) (inner := [.int .i64 t313, .int .i64 t314]) (ok := fun _ => True) (okp := fun _ => True) ?hr ?hp (fun _ hk => hk) trivial (Below.refl _ _) (Nat.le_refl _) (by simp) ?_; (case hd => rfl); (case hg => rfl); (case hr => first | (go_simp; done) | (go_simp; rfl)); (case hp => exact (Reps.one (show Kd.M (Kd.int .i64) _ _ _ t313 [.int .i64 t313] from rfl) (Reps.one (show Kd.M (Kd.int .i64) _ _ _ t314 [.int .i64 t314] from rfl) (Reps.none _ _))))
 intro v316 w9 ho10 hb hg_ hnew_
 clear hg_ hnew_
 (first | rw [← Ny315.out] at ho10 | (simp only [Int.reduceToNat] at ho10; rw [← Ny315.out] at ho10))
 have n0_ := mk_ (R_lower ho10 (below_size (Short.hB HB)))
 have n1_ := mk_ (bB_ BK311 hb)
 have n2_ := mk_ (bB_ BK312 hb)
 have n3_ := mk_ (below_step (Short.hB HB) hb)
 clear BK311 BK312 HB
 revert n0_ n1_ n2_ n3_
 intro HO317 BK311 BK312 HB
 clear hb ho10
 obtain ⟨Ao11, co11, eo11⟩ := R_slice HO317.out
 (first | subst eo11 | (injection eo11 with f1_ f2_ f3_; have f4_ := f1_.symm; have f5_ := f3_.symm; clear f1_ f2_ f3_; subst f4_; subst f5_))
 refine hK.out _ _ ⟨kc_ BK311 0, kc_ BK311 1, kc_ BK312 0, kc_ BK312 1⟩ (fun hHeld => ?_)
 clear hK K
 refine nrm 15 ?_
 refine one_ (i := 11) (N := some 16) (Steps.Bs 13 4095) rfl rfl (one_of HT_.out z0_) z5_ (fun K hK => ?_)
 refine goes_ Try.func121 z0_ rfl #[.slice Ao11 y315.length co11] (by rfl) rfl rfl z2_ ?_
 with_reducible refine (cmp_Or_int.calls k _ _ y315 t318 _ ?side1 ?side2 A5.out).mono ?_
 (case side1 => exact cX_ (R_reads' HO317.out).2.2)
 (case side2 => exact (R_reads' HO317.out).2.1)
 rintro e w' ⟨rfl, ⟨nd, rfl⟩⟩
 refine ⟨_, rfl, ?_⟩
 refine hK.out _ _ ⟨kc_ BK311 0, kc_ BK311 1, kc_ BK312 0, kc_ BK312 1⟩ (fun hHeld => ?_)
 clear hK K
 refine nrm 16 ?_
 refine tI HT_ 12 4 13 8191 ?_
 refine done_ (done_of HT_.out z0_) ?_
 try go_wp2
 go_ret
 exact ⟨q0, Short.hB HB⟩
def dot_Less.f (k : Nat) (a0_0 : Int) (a0_1 : Int) (a1_0 : Int) (a1_1 : Int) : Option (Bool) := (dot_Compare.f k a0_0 a0_1 a1_0 a1_1).bind fun t321 => (some (decide (t321 < 0)))
theorem dot_Less.calls (k : Nat) (a0_0 : Int) (a0_1 : Int) (a1_0 : Int) (a1_1 : Int) (r : Bool) (w : World) (h : dot_Less.f k a0_0 a0_1 a1_0 a1_1 = some r) :
  Calls Try.prog 105 #[.agg #[.int .i64 a0_0, .int .i64 a0_1], .agg #[.int .i64 a1_0, .int .i64 a1_1]] w fun e w' => e = .returned (.bool r) ∧ Below w.heap.size w w' := by
 have hu25 := Try.underlying25
 have HB := mk_ (Below.refl w.heap.size w)
 have H : ((dot_Compare.f k a0_0 a0_1 a1_0 a1_1).bind fun t321 => (some (decide (t321 < 0)))) = some r := h
 clear h
 replace H := Option.bind_eq_some_iff.mp H
 obtain ⟨t321, A30, H⟩ := H
 replace H : (some (decide (t321 < 0))) = some r := H
 have A3 := mk_ A30
 clear A30
 obtain rfl := Option.some.inj H
 go_enter Try.func105, Try.ntmps105
 go_wp2_with (first | ((with_reducible refine gate_dst (N := 2) rfl ?_); refine box_event ?hg (N := 2) ?hd (cs := #[.int .i64 a0_0, .int .i64 a0_1]) (t := 25) ?hr ?_; (case hd => rfl); (case hg => rfl); (case hr => first | (go_simp; done) | (go_simp; rfl)); intro gb319 hg w4 hbox hb; have n0_ := mk_ (below_step (Short.hB HB) hb); have n1_ := mk_ (hbox); have n2_ := mk_ ((by rw [hg]; exact (below_size (Short.hB HB)) : w.heap.size ≤ gb319)); have n3_ := mk_ ((by rw [hg]; exact (below_size (Short.hB HB)) : w.heap.size ≤ gb319)); clear HB; revert n0_ n1_ n2_ n3_; intro HB BK319 GW319 GE319; clear hb hbox hg) | ((with_reducible refine gate_dst (N := 3) rfl ?_); refine box_event ?hg (N := 3) ?hd (cs := #[.int .i64 a1_0, .int .i64 a1_1]) (t := 25) ?hr ?_; (case hd => rfl); (case hg => rfl); (case hr => first | (go_simp; done) | (go_simp; rfl)); intro gb320 hg w5 hbox hb; have n0_ := mk_ (bB_ BK319 hb); have n1_ := mk_ (below_step (Short.hB HB) hb); have n2_ := mk_ (hbox); have n3_ := mk_ ((by rw [hg]; exact (below_size (Short.hB HB)) : w.heap.size ≤ gb320)); have n4_ := mk_ ((by rw [hg]; exact (below_size (Short.hB HB)) : w.heap.size ≤ gb320)); have n5_ := mk_ ((by rw [hg]; exact Nat.ne_of_lt (blk_lt (Short.bK BK319)) : gb319 ≠ gb320)); have n6_ := mk_ ((by rw [hg]; exact Nat.ne_of_gt (blk_lt (Short.bK BK319)) : gb320 ≠ gb319)); clear BK319 HB; revert n0_ n1_ n2_ n3_ n4_ n5_ n6_; intro BK319 HB BK320 GW320 GE320 NB319_320 NB320_319; clear hb hbox hg; have hnb6 := NB319_320.out; have hnc6 := NB320_319.out; obtain ⟨hcz7_0, hcz7_1, hfz7_0, hfz7_1⟩ := Short.c2 BK319.out; obtain ⟨hcz8_0, hcz8_1, hfz8_0, hfz8_1⟩ := Short.c2 BK320.out) | ((with_reducible refine gate_callee (f := 118) rfl ?_); refine Short.gL (some 7) Try.func118 #[.agg #[.int .i64 a0_0, .int .i64 a0_1], .agg #[.int .i64 a1_0, .int .i64 a1_1]] (h := ?_); (with_reducible refine (dot_Compare.calls k a0_0 a0_1 a1_0 a1_1 t321 _ A3.out).mono ?_); rintro e w9 ⟨rfl, hb⟩; refine ⟨_, rfl, ?_⟩; have n0_ := mk_ (bB_ BK319 hb); have n1_ := mk_ (bB_ BK320 hb); have n2_ := mk_ (below_step (Short.hB HB) hb); clear BK319 BK320 HB; revert n0_ n1_ n2_; intro BK319 BK320 HB; (try clear hb)))
 go_ret
 exact ⟨q0, Short.hB HB⟩
end Go.Proofs.Ytjnjfogfpmeacaa.PAll
end
section
namespace Go.Proofs.Ytjnjfogfpmeacaa.PAll
open Go.RowKit PrintWords PrintLast PrintMore ZipT PrintWords.Kd PrintMore.Kd
attribute [local go_sem] max2_int min2_int max_two min_two max_three min_three max_four min_four   -- for this text's walks alone
set_option linter.unusedVariables false
set_option linter.unusedSimpArgs false
def op_had.l0 : Nat → List Int → List (S25) → List (S25) → Int → Int → Option (Bool)
 | 0, _, _, _, _, _ => none
 | k + 1, x0, x1, x7, x8, x9 => if x9 < x8 then (if 0 ≤ x9 then (if x9 < (x7.length : Int) then ((dot_Has.f x0 ((rd_T25 x7 x9).f0) ((rd_T25 x7 x9).f1)).bind fun t324 => (if t324 = true then (if x9 > 0 then (if 0 ≤ (wrap64 (x9 - 1)) then (if (wrap64 (x9 - 1)) < (x1.length : Int) then ((dot_Less.f k ((rd_T25 x1 (wrap64 (x9 - 1))).f0) ((rd_T25 x1 (wrap64 (x9 - 1))).f1) ((rd_T25 x7 x9).f0) ((rd_T25 x7 x9).f1)).bind fun t326 => (if t326 = true then (op_had.l0 k x0 x1 x7 x8 (wrap64 (x9 + 1))) else (some false))) else (none)) else (none)) else (op_had.l0 k x0 x1 x7 x8 (wrap64 (x9 + 1)))) else (some false))) else (none)) else (none)) else (some true)
def op_had.f (k : Nat) (l0 : List Int) (l1 : List (S25)) : Option (Bool) := op_had.l0 k l0 l1 l1 (l1.length : Int) 0
def op_had.T4 : Bool × List (List Nat × List Nat) := (true, [([], []), ([], []), ([0, 1], [0, 1]), ([2], [2]), ([3, 2], [3]), ([4], [4]), ([5, 4], [4, 5]), ([6, 4, 4], [4, 6]), ([7], [7]), ([7], [7]), ([9, 7], [7, 9]), ([8, 10, 7], [7, 8, 10]), ([11, 7], [7, 11]), ([7], [7]), ([12, 13, 7, 7], [7, 12, 13]), ([14, 7], [7, 14]), ([7, 15, 4], [4, 7, 15]), ([4, 16], [4, 16])])
def op_had.B4 : List Nat := [0, 0, 3, 7, 15, 31, 63, 127, 255, 255, 767, 2047, 4095, 255, 16383, 32767, 65535, 131071]
theorem op_had.tab4 : rtab .any (opsOf Try.f75 4) = op_had.T4 := by kernel_rfl
theorem op_had.bits4 : waitsOk op_had.T4.2 op_had.B4 = true := by kernel_rfl
theorem op_had.calls (k : Nat) (A0 : Option Addr) (c0 : Nat) (l0 : List Int) (A1 : Option Addr) (c1 : Nat) (l1 : List (S25)) (r : Bool) (w : World) (hr0 : Kd.C (Kd.int .i64) w A0 l0.length l0) (hc0 : l0.length ≤ c0) (hr1 : Kd.C k25 w A1 l1.length l1) (hc1 : l1.length ≤ c1) (h : op_had.f k l0 l1 = some r) :
  Calls Try.prog 75 #[.slice A0 l0.length c0, .slice A1 l1.length c1] w fun e w' => e = .returned (.bool r) ∧ Below w.heap.size w w' := by
 have hu25 := Try.underlying25
 have HR0 := mk_ hr0
 have HC0 := mk_ hc0
 clear hr0 hc0
 have HR1 := mk_ hr1
 have HC1 := mk_ hc1
 clear hr1 hc1
 have HB := mk_ (Below.refl w.heap.size w)
 have H : (op_had.l0 k l0 l1 l1 (l1.length : Int) 0) = some r := h
 clear h
 have H' := mk_ H
 clear H
 go_enter Try.func75, Try.ntmps75
 go_wp2
 go_loopg [9] k (fun kq v9 w' => ∃ (x9_1 : Int), v9 = .int .i64 x9_1 ∧ Aside0 (op_had.l0 kq l0 l1 l1 (l1.length : Int) x9_1 = some r) ∧ Aside0 (kq ≤ k) ∧ Aside0 (Below w.heap.size w w'))
 case atStart => exact ⟨(0), z3_, H', ⟨Nat.le_refl _⟩, ⟨Short.hB HB⟩⟩
 case round =>
  clear H'
  try clear c1
  try clear p2
  obtain ⟨x9_1, rfl, HA, HK1, HB⟩ := hrel
  cases gk with
  | zero => exact absurd HA.out (by simp [op_had.l0])
  | succ k1 =>
   have H := HA.out
   clear HA
   simp only [op_had.l0] at H
   by_cases c3 : x9_1 < (l1.length : Int)
   rotate_left
   ·
    rw [if_neg c3] at H
    have c3b0 : decide (x9_1 < (l1.length : Int)) = false := decide_eq_false c3
    clear c3
    obtain rfl := Option.some.inj H
    go_wp2
    go_ret
    exact ⟨q0, Short.hB HB⟩
   rw [if_pos c3] at H
   have c3b0 : decide (x9_1 < (l1.length : Int)) = true := decide_eq_true c3
   clear c3
   by_cases c4 : 0 ≤ x9_1
   rotate_left
   ·
    rw [if_neg c4] at H
    exact absurd H (by simp)
   rw [if_pos c4] at H
   have c4b0 : decide (0 ≤ x9_1) = true := decide_eq_true c4
   clear c4
   by_cases c5 : x9_1 < (l1.length : Int)
   rotate_left
   ·
    rw [if_neg c5] at H
    exact absurd H (by simp)
   rw [if_pos c5] at H
   have c5b0 : decide (x9_1 < (l1.length : Int)) = true := decide_eq_true c5
   clear c5
   replace H := Option.bind_eq_some_iff.mp H
   obtain ⟨t324, A60, H⟩ := H
   replace H : (if t324 = true then (if x9_1 > 0 then (if 0 ≤ (wrap64 (x9_1 - 1)) then (if (wrap64 (x9_1 - 1)) < (l1.length : Int) then ((dot_Less.f k1 ((rd_T25 l1 (wrap64 (x9_1 - 1))).f0) ((rd_T25 l1 (wrap64 (x9_1 - 1))).f1) ((rd_T25 l1 x9_1).f0) ((rd_T25 l1 x9_1).f1)).bind fun t326 => (if t326 = true then (op_had.l0 k1 l0 l1 l1 (l1.length : Int) (wrap64 (x9_1 + 1))) else (some false))) else (none)) else (none)) else (op_had.l0 k1 l0 l1 l1 (l1.length : Int) (wrap64 (x9_1 + 1)))) else (some false)) = some r := H
   have A6 := mk_ A60
   clear A60
   by_cases c7 : t324 = true
   rotate_left
   ·
    replace c7 := Bool.eq_false_iff.mpr c7
    subst c7
    rw [if_neg (show ¬ (false = true) by decide)] at H
    obtain rfl := Option.some.inj H
    have p322 : 0 ≤ (x9_1 : Int) := of_decide_eq_true z1_
    have q322 : x9_1 < (l1.length : Int) := of_decide_eq_true z1_
    obtain ⟨ad322, e322, hx322_0, hx322_1⟩ := at_T25 HR1.out x9_1 p322 q322
    cases e322
    replace hx322_0 := up_ HB hx322_0
    replace hx322_1 := up_ HB hx322_1
    replace p322 := eq_true p322
    replace q322 := eq_true q322
    try go_wp2_with (first | ((with_reducible refine gate_dst (N := 6) rfl ?_); refine box_event ?hg (N := 6) ?hd (cs := #[.int .i64 0, .int .i64 0]) (t := 25) ?hr ?_; (case hd => rfl); (case hg => rfl); (case hr => first | (go_simp; done) | (go_simp; rfl)); intro gb323 hg w31 hbox hb; have n0_ := mk_ (below_step (Short.hB HB) hb); have n1_ := mk_ (hbox); have n2_ := mk_ ((by rw [hg]; exact (below_size (Short.hB HB)) : w.heap.size ≤ gb323)); have n3_ := mk_ ((by rw [hg]; exact (below_size (Short.hB HB)) : w.heap.size ≤ gb323)); clear HB; revert n0_ n1_ n2_ n3_; intro HB BK323 GW323 GE323; clear hb hbox hg; obtain ⟨hcz32_0, hcz32_1, hfz32_0, hfz32_1⟩ := Short.c2 BK323.out))
    have n0_ : Aside0 (((w31.setCell ⟨gb323, 0, none⟩ (.int .i64 ((rd_T25 l1 x9_1).f0))).setCell ⟨gb323, 1, none⟩ (.int .i64 ((rd_T25 l1 x9_1).f1))).heap[gb323]? = some (.cells #[.int .i64 ((rd_T25 l1 x9_1).f0), .int .i64 ((rd_T25 l1 x9_1).f1)] 25 (0, 0))) := ⟨by (with_reducible repeat (first | refine blk_drewN ?_ _ | refine blk_drew ?_ | refine blk_alloc ?_ _)); refine blk_put (cs := #[.int .i64 ((rd_T25 l1 x9_1).f0), .int .i64 0]) ?_ 1 _ rfl; (with_reducible repeat (first | refine blk_drewN ?_ _ | refine blk_drew ?_ | refine blk_alloc ?_ _)); refine blk_put (cs := #[.int .i64 0, .int .i64 0]) ?_ 0 _ rfl; (with_reducible repeat (first | refine blk_drewN ?_ _ | refine blk_drew ?_ | refine blk_alloc ?_ _)); exact BK323.out⟩
    have n1_ : Aside0 (Below w.heap.size w ((w31.setCell ⟨gb323, 0, none⟩ (.int .i64 ((rd_T25 l1 x9_1).f0))).setCell ⟨gb323, 1, none⟩ (.int .i64 ((rd_T25 l1 x9_1).f1)))) := ⟨Short.hB HB⟩
    (try clear BK323)
    (try clear HB)
    generalize ((w31.setCell ⟨gb323, 0, none⟩ (.int .i64 ((rd_T25 l1 x9_1).f0))).setCell ⟨gb323, 1, none⟩ (.int .i64 ((rd_T25 l1 x9_1).f1))) = w33 at n0_ n1_ ⊢
    revert n0_ n1_
    intro BK323 HB
    have n0_ := mk_ (blk_drew BK323.out)
    have n1_ := mk_ (below_drew1 HB.out)
    clear BK323 HB
    revert n0_ n1_
    intro BK323 HB
    refine start_ (n := 18) (S := fun w' => w'.cell? ⟨gb323, 0, none⟩ = some (.int .i64 ((rd_T25 l1 x9_1).f0)) ∧ w'.cell? ⟨gb323, 1, none⟩ = some (.int .i64 ((rd_T25 l1 x9_1).f1))) (ds := []) (Steps.Bs 18 0) z0_ rfl rfl ⟨kc_ BK323 0, kc_ BK323 1⟩ (fun hHeld => ?_); refine with_tabW op_had.tab4 op_had.bits4 (fun HT_ HW_ => ?_)
    generalize w33.drew = w34 at BK323 HB hHeld ⊢
    refine tI HT_ 0 14 18 1 ?_
    refine tT HT_ HW_ hHeld 1 15 18 3 ?_
    refine one_ (i := 2) (N := some 16) (Steps.Bs 18 7) rfl rfl (one_of HT_.out z0_) z5_ (fun K hK => ?_)
    refine goes_ Try.func104 z0_ rfl #[.slice A0 l0.length c0, .agg #[.int .i64 ((rd_T25 l1 x9_1).f0), .int .i64 ((rd_T25 l1 x9_1).f1)]] (by rfl) rfl rfl z2_ ?_
    with_reducible refine (dot_Has.calls _ _ l0 ((rd_T25 l1 x9_1).f0) ((rd_T25 l1 x9_1).f1) false _ ?side1 ?side2 A6.out).mono ?_
    (case side1 => exact cX_ (C_below HR0.out HB.out))
    (case side2 => exact HC0.out)
    rintro e w35 ⟨rfl, hb⟩
    refine ⟨_, rfl, ?_⟩
    have n0_ := mk_ (bB_ BK323 hb)
    have n1_ := mk_ (below_step (Short.hB HB) hb)
    clear BK323 HB
    revert n0_ n1_
    intro BK323 HB
    (try clear hb)
    (try clear hb2)
    (try clear hk)
    (try clear hi)
    refine hK.out _ _ ⟨kc_ BK323 0, kc_ BK323 1⟩ (fun hHeld => ?_)
    clear hK K
    refine nrm 16 ?_
    refine tI HT_ 3 17 18 15 ?_
    refine tI HT_ 4 18 18 31 ?_
    refine tR HT_ 5 19 18 63 ?_
    refine tR HT_ 6 20 18 127 ?_
    refine tR HT_ 7 21 18 255 ?_
    refine tR HT_ 8 22 18 511 ?_
    refine tR HT_ 9 23 18 1023 ?_
    refine tR HT_ 10 24 18 2047 ?_
    refine tR HT_ 11 25 18 4095 ?_
    refine tR HT_ 12 26 18 8191 ?_
    refine tR HT_ 13 27 18 16383 ?_
    refine tR HT_ 14 28 18 32767 ?_
    refine tR HT_ 15 29 18 65535 ?_
    refine tR HT_ 16 30 18 131071 ?_
    refine tI HT_ 17 31 18 262143 ?_
    refine done_ (done_of HT_.out z0_) ?_
    try go_wp2
    go_ret
    exact ⟨q0, Short.hB HB⟩
   subst c7
   rw [if_pos rfl] at H
   by_cases c8 : x9_1 > 0
   rotate_left
   ·
    rw [if_neg c8] at H
    have c8b0 : decide (0 < x9_1) = false := decide_eq_false c8
    clear c8
    have H' := mk_ H
    clear H
    have p322 : 0 ≤ (x9_1 : Int) := of_decide_eq_true z1_
    have q322 : x9_1 < (l1.length : Int) := of_decide_eq_true z1_
    obtain ⟨ad322, e322, hx322_0, hx322_1⟩ := at_T25 HR1.out x9_1 p322 q322
    cases e322
    replace hx322_0 := up_ HB hx322_0
    replace hx322_1 := up_ HB hx322_1
    replace p322 := eq_true p322
    replace q322 := eq_true q322
    try go_wp2_with (first | ((with_reducible refine gate_dst (N := 6) rfl ?_); refine box_event ?hg (N := 6) ?hd (cs := #[.int .i64 0, .int .i64 0]) (t := 25) ?hr ?_; (case hd => rfl); (case hg => rfl); (case hr => first | (go_simp; done) | (go_simp; rfl)); intro gb323 hg w26 hbox hb; have n0_ := mk_ (below_step (Short.hB HB) hb); have n1_ := mk_ (hbox); have n2_ := mk_ ((by rw [hg]; exact (below_size (Short.hB HB)) : w.heap.size ≤ gb323)); have n3_ := mk_ ((by rw [hg]; exact (below_size (Short.hB HB)) : w.heap.size ≤ gb323)); clear HB; revert n0_ n1_ n2_ n3_; intro HB BK323 GW323 GE323; clear hb hbox hg; obtain ⟨hcz27_0, hcz27_1, hfz27_0, hfz27_1⟩ := Short.c2 BK323.out))
    have n0_ : Aside0 (((w26.setCell ⟨gb323, 0, none⟩ (.int .i64 ((rd_T25 l1 x9_1).f0))).setCell ⟨gb323, 1, none⟩ (.int .i64 ((rd_T25 l1 x9_1).f1))).heap[gb323]? = some (.cells #[.int .i64 ((rd_T25 l1 x9_1).f0), .int .i64 ((rd_T25 l1 x9_1).f1)] 25 (0, 0))) := ⟨by (with_reducible repeat (first | refine blk_drewN ?_ _ | refine blk_drew ?_ | refine blk_alloc ?_ _)); refine blk_put (cs := #[.int .i64 ((rd_T25 l1 x9_1).f0), .int .i64 0]) ?_ 1 _ rfl; (with_reducible repeat (first | refine blk_drewN ?_ _ | refine blk_drew ?_ | refine blk_alloc ?_ _)); refine blk_put (cs := #[.int .i64 0, .int .i64 0]) ?_ 0 _ rfl; (with_reducible repeat (first | refine blk_drewN ?_ _ | refine blk_drew ?_ | refine blk_alloc ?_ _)); exact BK323.out⟩
    have n1_ : Aside0 (Below w.heap.size w ((w26.setCell ⟨gb323, 0, none⟩ (.int .i64 ((rd_T25 l1 x9_1).f0))).setCell ⟨gb323, 1, none⟩ (.int .i64 ((rd_T25 l1 x9_1).f1)))) := ⟨Short.hB HB⟩
    (try clear BK323)
    (try clear HB)
    generalize ((w26.setCell ⟨gb323, 0, none⟩ (.int .i64 ((rd_T25 l1 x9_1).f0))).setCell ⟨gb323, 1, none⟩ (.int .i64 ((rd_T25 l1 x9_1).f1))) = w28 at n0_ n1_ ⊢
    revert n0_ n1_
    intro BK323 HB
    have n0_ := mk_ (blk_drew BK323.out)
    have n1_ := mk_ (below_drew1 HB.out)
    clear BK323 HB
    revert n0_ n1_
    intro BK323 HB
    refine start_ (n := 18) (S := fun w' => w'.cell? ⟨gb323, 0, none⟩ = some (.int .i64 ((rd_T25 l1 x9_1).f0)) ∧ w'.cell? ⟨gb323, 1, none⟩ = some (.int .i64 ((rd_T25 l1 x9_1).f1))) (ds := []) (Steps.Bs 18 0) z0_ rfl rfl ⟨kc_ BK323 0, kc_ BK323 1⟩ (fun hHeld => ?_); refine with_tabW op_had.tab4 op_had.bits4 (fun HT_ HW_ => ?_)
    generalize w28.drew = w29 at BK323 HB hHeld ⊢
    refine tI HT_ 0 14 18 1 ?_
    refine tT HT_ HW_ hHeld 1 15 18 3 ?_
    refine one_ (i := 2) (N := some 16) (Steps.Bs 18 7) rfl rfl (one_of HT_.out z0_) z5_ (fun K hK => ?_)
    refine goes_ Try.func104 z0_ rfl #[.slice A0 l0.length c0, .agg #[.int .i64 ((rd_T25 l1 x9_1).f0), .int .i64 ((rd_T25 l1 x9_1).f1)]] (by rfl) rfl rfl z2_ ?_
    with_reducible refine (dot_Has.calls _ _ l0 ((rd_T25 l1 x9_1).f0) ((rd_T25 l1 x9_1).f1) true _ ?side1 ?side2 A6.out).mono ?_
    (case side1 => exact cX_ (C_below HR0.out HB.out))
    (case side2 => exact HC0.out)
    rintro e w30 ⟨rfl, hb⟩
    refine ⟨_, rfl, ?_⟩
    have n0_ := mk_ (bB_ BK323 hb)
    have n1_ := mk_ (below_step (Short.hB HB) hb)
    clear BK323 HB
    revert n0_ n1_
    intro BK323 HB
    (try clear hb)
    (try clear hb2)
    (try clear hk)
    (try clear hi)
    refine hK.out _ _ ⟨kc_ BK323 0, kc_ BK323 1⟩ (fun hHeld => ?_)
    clear hK K
    refine nrm 16 ?_
    refine tI HT_ 3 17 18 15 ?_
    refine tI HT_ 4 18 18 31 ?_
    refine tI HT_ 5 19 18 63 ?_
    refine tI HT_ 6 20 18 127 ?_
    refine tI HT_ 7 21 18 255 ?_
    refine tR HT_ 8 22 18 511 ?_
    refine tR HT_ 9 23 18 1023 ?_
    refine tR HT_ 10 24 18 2047 ?_
    refine tR HT_ 11 25 18 4095 ?_
    refine tR HT_ 12 26 18 8191 ?_
    refine tR HT_ 13 27 18 16383 ?_
    refine tR HT_ 14 28 18 32767 ?_
    refine tR HT_ 15 29 18 65535 ?_
    refine tI HT_ 16 30 18 131071 ?_
    refine tI HT_ 17 31 18 262143 ?_
    refine done_ (done_of HT_.out z0_) ?_
    try go_wp2
    go_roundg k1
    case measure => have := HK1.out; omega
    case rel => exact ⟨(wrap64 (x9_1 + 1)), z3_, H', ⟨by have := HK1.out; omega⟩, ⟨Short.hB HB⟩⟩
   rw [if_pos c8] at H
   have c8b0 : decide (0 < x9_1) = true := decide_eq_true c8
   clear c8
   obtain ⟨ji9, hji9⟩ : ∃ j_ : Int, (wrap64 (x9_1 - 1)) = j_ := ⟨_, rfl⟩
   replace H : (if 0 ≤ (ji9) then (if (ji9) < (l1.length : Int) then ((dot_Less.f k1 ((rd_T25 l1 (ji9)).f0) ((rd_T25 l1 (ji9)).f1) ((rd_T25 l1 x9_1).f0) ((rd_T25 l1 x9_1).f1)).bind fun t326 => (if t326 = true then (op_had.l0 k1 l0 l1 l1 (l1.length : Int) (wrap64 (x9_1 + 1))) else (some false))) else (none)) else (none)) = some r := by first | (rw [hji9] at H; exact H) | (simp only [hji9] at H ⊢; exact H)
   (try rw [hji9] at A6)
   have hji9w : (IntKind.i64.wrap (x9_1 - 1)) = ji9 := (i64_w _).trans hji9
   by_cases c10 : 0 ≤ (ji9)
   rotate_left
   ·
    rw [if_neg c10] at H
    exact absurd H (by simp)
   rw [if_pos c10] at H
   have c10b0 : decide (0 ≤ (ji9)) = true := decide_eq_true c10
   clear c10
   by_cases c11 : (ji9) < (l1.length : Int)
   rotate_left
   ·
    rw [if_neg c11] at H
    exact absurd H (by simp)
   rw [if_pos c11] at H
   have c11b0 : decide ((ji9) < (l1.length : Int)) = true := decide_eq_true c11
   clear c11
   replace H := Option.bind_eq_some_iff.mp H
   obtain ⟨t326, A120, H⟩ := H
   replace H : (if t326 = true then (op_had.l0 k1 l0 l1 l1 (l1.length : Int) (wrap64 (x9_1 + 1))) else (some false)) = some r := H
   have A12 := mk_ A120
   clear A120
   by_cases c13 : t326 = true
   rotate_left
   ·
    replace c13 := Bool.eq_false_iff.mpr c13
    subst c13
    rw [if_neg (show ¬ (false = true) by decide)] at H
    obtain rfl := Option.some.inj H
    have p322 : 0 ≤ (x9_1 : Int) := of_decide_eq_true z1_
    have q322 : x9_1 < (l1.length : Int) := of_decide_eq_true z1_
    obtain ⟨ad322, e322, hx322_0, hx322_1⟩ := at_T25 HR1.out x9_1 p322 q322
    cases e322
    replace hx322_0 := up_ HB hx322_0
    replace hx322_1 := up_ HB hx322_1
    replace p322 := eq_true p322
    replace q322 := eq_true q322
    try go_wp2_with (first | ((with_reducible refine gate_dst (N := 6) rfl ?_); refine box_event ?hg (N := 6) ?hd (cs := #[.int .i64 0, .int .i64 0]) (t := 25) ?hr ?_; (case hd => rfl); (case hg => rfl); (case hr => first | (go_simp; done) | (go_simp; rfl)); intro gb323 hg w20 hbox hb; have n0_ := mk_ (below_step (Short.hB HB) hb); have n1_ := mk_ (hbox); have n2_ := mk_ ((by rw [hg]; exact (below_size (Short.hB HB)) : w.heap.size ≤ gb323)); have n3_ := mk_ ((by rw [hg]; exact (below_size (Short.hB HB)) : w.heap.size ≤ gb323)); clear HB; revert n0_ n1_ n2_ n3_; intro HB BK323 GW323 GE323; clear hb hbox hg; obtain ⟨hcz21_0, hcz21_1, hfz21_0, hfz21_1⟩ := Short.c2 BK323.out))
    have n0_ : Aside0 (((w20.setCell ⟨gb323, 0, none⟩ (.int .i64 ((rd_T25 l1 x9_1).f0))).setCell ⟨gb323, 1, none⟩ (.int .i64 ((rd_T25 l1 x9_1).f1))).heap[gb323]? = some (.cells #[.int .i64 ((rd_T25 l1 x9_1).f0), .int .i64 ((rd_T25 l1 x9_1).f1)] 25 (0, 0))) := ⟨by (with_reducible repeat (first | refine blk_drewN ?_ _ | refine blk_drew ?_ | refine blk_alloc ?_ _)); refine blk_put (cs := #[.int .i64 ((rd_T25 l1 x9_1).f0), .int .i64 0]) ?_ 1 _ rfl; (with_reducible repeat (first | refine blk_drewN ?_ _ | refine blk_drew ?_ | refine blk_alloc ?_ _)); refine blk_put (cs := #[.int .i64 0, .int .i64 0]) ?_ 0 _ rfl; (with_reducible repeat (first | refine blk_drewN ?_ _ | refine blk_drew ?_ | refine blk_alloc ?_ _)); exact BK323.out⟩
    have n1_ : Aside0 (Below w.heap.size w ((w20.setCell ⟨gb323, 0, none⟩ (.int .i64 ((rd_T25 l1 x9_1).f0))).setCell ⟨gb323, 1, none⟩ (.int .i64 ((rd_T25 l1 x9_1).f1)))) := ⟨Short.hB HB⟩
    (try clear BK323)
    (try clear HB)
    generalize ((w20.setCell ⟨gb323, 0, none⟩ (.int .i64 ((rd_T25 l1 x9_1).f0))).setCell ⟨gb323, 1, none⟩ (.int .i64 ((rd_T25 l1 x9_1).f1))) = w22 at n0_ n1_ ⊢
    revert n0_ n1_
    intro BK323 HB
    have n0_ := mk_ (blk_drew BK323.out)
    have n1_ := mk_ (below_drew1 HB.out)
    clear BK323 HB
    revert n0_ n1_
    intro BK323 HB
    have p325 : 0 ≤ ((ji9) : Int) := of_decide_eq_true z1_
    have q325 : (ji9) < (l1.length : Int) := of_decide_eq_true z1_
    obtain ⟨ad325, e325, hx325_0, hx325_1⟩ := at_T25 HR1.out (ji9) p325 q325
    have hw325_1 := hx325_1
    have hw325_0 := hx325_0
    obtain rfl : ad322 = ad325 := (by injection e325)
    replace hx325_0 := up_ HB hx325_0
    replace hx325_1 := up_ HB hx325_1
    replace p325 := eq_true p325
    replace q325 := eq_true q325
    refine start_ (n := 18) (S := fun w' => w'.cell? ⟨gb323, 0, none⟩ = some (.int .i64 ((rd_T25 l1 x9_1).f0)) ∧ w'.cell? ⟨gb323, 1, none⟩ = some (.int .i64 ((rd_T25 l1 x9_1).f1)) ∧ w'.cell? (ad322.add (((ji9)).toNat * 2)) = some (.int .i64 ((rd_T25 l1 (ji9)).f0)) ∧ w'.cell? ⟨(ad322.add (((ji9)).toNat * 2)).block, (ad322.add (((ji9)).toNat * 2)).off + 1, none⟩ = some (.int .i64 ((rd_T25 l1 (ji9)).f1))) (ds := []) (Steps.Bs 18 0) z0_ rfl rfl ⟨kc_ BK323 0, kc_ BK323 1, ((HB.out.cell (World.block_lt_of_cell? w _ hw325_0)).trans hw325_0), ((HB.out.cell (World.block_lt_of_cell? w _ hw325_1)).trans hw325_1)⟩ (fun hHeld => ?_); refine with_tabW op_had.tab4 op_had.bits4 (fun HT_ HW_ => ?_)
    generalize w22.drew = w23 at BK323 HB hx325_0 hx325_1 hHeld ⊢
    refine tI HT_ 0 14 18 1 ?_
    refine tT HT_ HW_ hHeld 1 15 18 3 ?_
    refine one_ (i := 2) (N := some 16) (Steps.Bs 18 7) rfl rfl (one_of HT_.out z0_) z5_ (fun K hK => ?_)
    refine goes_ Try.func104 z0_ rfl #[.slice A0 l0.length c0, .agg #[.int .i64 ((rd_T25 l1 x9_1).f0), .int .i64 ((rd_T25 l1 x9_1).f1)]] (by rfl) rfl rfl z2_ ?_
    with_reducible refine (dot_Has.calls _ _ l0 ((rd_T25 l1 x9_1).f0) ((rd_T25 l1 x9_1).f1) true _ ?side1 ?side2 A6.out).mono ?_
    (case side1 => exact cX_ (C_below HR0.out HB.out))
    (case side2 => exact HC0.out)
    rintro e w24 ⟨rfl, hb⟩
    refine ⟨_, rfl, ?_⟩
    have n0_ := mk_ (bB_ BK323 hb)
    have n1_ := mk_ (below_step (Short.hB HB) hb)
    clear BK323 HB
    revert n0_ n1_
    intro BK323 HB
    (try clear hb)
    (try clear hb2)
    (try clear hk)
    (try clear hi)
    refine hK.out _ _ ⟨kc_ BK323 0, kc_ BK323 1, ((HB.out.cell (World.block_lt_of_cell? w _ hw325_0)).trans hw325_0), ((HB.out.cell (World.block_lt_of_cell? w _ hw325_1)).trans hw325_1)⟩ (fun hHeld => ?_)
    clear hK K
    refine nrm 16 ?_
    refine tI HT_ 3 17 18 15 ?_
    refine tI HT_ 4 18 18 31 ?_
    refine tI HT_ 5 19 18 63 ?_
    refine tI HT_ 6 20 18 127 ?_
    refine tI HT_ 7 21 18 255 ?_
    refine tI HT_ 8 22 18 511 ?_
    refine tI HT_ 9 23 18 1023 ?_
    refine tI HT_ 10 24 18 2047 ?_
    refine tI HT_ 11 25 18 4095 ?_
    refine tT HT_ HW_ hHeld 12 26 18 8191 ?_
    refine tT HT_ HW_ hHeld 13 27 18 16383 ?_
    refine one_ (i := 14) (N := some 28) (Steps.Bs 18 32767) rfl rfl (one_of HT_.out z0_) z5_ (fun K hK => ?_)
    refine goes_ Try.func105 z0_ rfl #[.agg #[.int .i64 ((rd_T25 l1 (ji9)).f0), .int .i64 ((rd_T25 l1 (ji9)).f1)], .agg #[.int .i64 ((rd_T25 l1 x9_1).f0), .int .i64 ((rd_T25 l1 x9_1).f1)]] (by rfl) rfl rfl (by (try simp only [List.map_toArray, List.map_cons, List.map_nil]); first | done | (simp only [hji9]; rfl) | rfl | (simp only [List.length_drop, List.length_take]; rfl) | (go_simp; done) | (simp; done)) ?_
    with_reducible refine (dot_Less.calls k1 ((rd_T25 l1 (ji9)).f0) ((rd_T25 l1 (ji9)).f1) ((rd_T25 l1 x9_1).f0) ((rd_T25 l1 x9_1).f1) false _ A12.out).mono ?_
    rintro e w25 ⟨rfl, hb⟩
    refine ⟨_, rfl, ?_⟩
    have n0_ := mk_ (bB_ BK323 hb)
    have n1_ := mk_ (below_step (Short.hB HB) hb)
    clear BK323 HB
    revert n0_ n1_
    intro BK323 HB
    (try clear hb)
    (try clear hb2)
    (try clear hk)
    (try clear hi)
    refine hK.out _ _ ⟨kc_ BK323 0, kc_ BK323 1, ((HB.out.cell (World.block_lt_of_cell? w _ hw325_0)).trans hw325_0), ((HB.out.cell (World.block_lt_of_cell? w _ hw325_1)).trans hw325_1)⟩ (fun hHeld => ?_)
    clear hK K
    refine nrm 28 ?_
    refine tI HT_ 15 29 18 65535 ?_
    refine tI HT_ 16 30 18 131071 ?_
    refine tI HT_ 17 31 18 262143 ?_
    refine done_ (done_of HT_.out z0_) ?_
    try go_wp2
    go_ret
    exact ⟨by first | rfl | (simp [errW_none, errW_some] <;> rfl) | (simp only [← hji9]; first | rfl | (simp [errW_none, errW_some] <;> rfl)) | (simp [*, errW_none, errW_some] <;> rfl), Short.hB HB⟩
   subst c13
   rw [if_pos rfl] at H
   have H' := mk_ H
   clear H
   have p322 : 0 ≤ (x9_1 : Int) := of_decide_eq_true z1_
   have q322 : x9_1 < (l1.length : Int) := of_decide_eq_true z1_
   obtain ⟨ad322, e322, hx322_0, hx322_1⟩ := at_T25 HR1.out x9_1 p322 q322
   cases e322
   replace hx322_0 := up_ HB hx322_0
   replace hx322_1 := up_ HB hx322_1
   replace p322 := eq_true p322
   replace q322 := eq_true q322
   try go_wp2_with (first | ((with_reducible refine gate_dst (N := 6) rfl ?_); refine box_event ?hg (N := 6) ?hd (cs := #[.int .i64 0, .int .i64 0]) (t := 25) ?hr ?_; (case hd => rfl); (case hg => rfl); (case hr => first | (go_simp; done) | (go_simp; rfl)); intro gb323 hg w14 hbox hb; have n0_ := mk_ (below_step (Short.hB HB) hb); have n1_ := mk_ (hbox); have n2_ := mk_ ((by rw [hg]; exact (below_size (Short.hB HB)) : w.heap.size ≤ gb323)); have n3_ := mk_ ((by rw [hg]; exact (below_size (Short.hB HB)) : w.heap.size ≤ gb323)); clear HB; revert n0_ n1_ n2_ n3_; intro HB BK323 GW323 GE323; clear hb hbox hg; obtain ⟨hcz15_0, hcz15_1, hfz15_0, hfz15_1⟩ := Short.c2 BK323.out))
   have n0_ : Aside0 (((w14.setCell ⟨gb323, 0, none⟩ (.int .i64 ((rd_T25 l1 x9_1).f0))).setCell ⟨gb323, 1, none⟩ (.int .i64 ((rd_T25 l1 x9_1).f1))).heap[gb323]? = some (.cells #[.int .i64 ((rd_T25 l1 x9_1).f0), .int .i64 ((rd_T25 l1 x9_1).f1)] 25 (0, 0))) := ⟨by (with_reducible repeat (first | refine blk_drewN ?_ _ | refine blk_drew ?_ | refine blk_alloc ?_ _)); refine blk_put (cs := #[.int .i64 ((rd_T25 l1 x9_1).f0), .int .i64 0]) ?_ 1 _ rfl; (with_reducible repeat (first | refine blk_drewN ?_ _ | refine blk_drew ?_ | refine blk_alloc ?_ _)); refine blk_put (cs := #[.int .i64 0, .int .i64 0]) ?_ 0 _ rfl; (with_reducible repeat (first | refine blk_drewN ?_ _ | refine blk_drew ?_ | refine blk_alloc ?_ _)); exact BK323.out⟩
   have n1_ : Aside0 (Below w.heap.size w ((w14.setCell ⟨gb323, 0, none⟩ (.int .i64 ((rd_T25 l1 x9_1).f0))).setCell ⟨gb323, 1, none⟩ (.int .i64 ((rd_T25 l1 x9_1).f1)))) := ⟨Short.hB HB⟩
   (try clear BK323)
   (try clear HB)
   generalize ((w14.setCell ⟨gb323, 0, none⟩ (.int .i64 ((rd_T25 l1 x9_1).f0))).setCell ⟨gb323, 1, none⟩ (.int .i64 ((rd_T25 l1 x9_1).f1))) = w16 at n0_ n1_ ⊢
   revert n0_ n1_
   intro BK323 HB
   have n0_ := mk_ (blk_drew BK323.out)
   have n1_ := mk_ (below_drew1 HB.out)
   clear BK323 HB
   revert n0_ n1_
   intro BK323 HB
   have p325 : 0 ≤ ((ji9) : Int) := of_decide_eq_true z1_
   have q325 : (ji9) < (l1.length : Int) := of_decide_eq_true z1_
   obtain ⟨ad325, e325, hx325_0, hx325_1⟩ := at_T25 HR1.out (ji9) p325 q325
   have hw325_1 := hx325_1
   have hw325_0 := hx325_0
   obtain rfl : ad322 = ad325 := (by injection e325)
   replace hx325_0 := up_ HB hx325_0
   replace hx325_1 := up_ HB hx325_1
   replace p325 := eq_true p325
   replace q325 := eq_true q325
   refine start_ (n := 18) (S := fun w' => w'.cell? ⟨gb323, 0, none⟩ = some (.int .i64 ((rd_T25 l1 x9_1).f0)) ∧ w'.cell? ⟨gb323, 1, none⟩ = some (.int .i64 ((rd_T25 l1 x9_1).f1)) ∧ w'.cell? (ad322.add (((ji9)).toNat * 2)) = some (.int .i64 ((rd_T25 l1 (ji9)).f0)) ∧ w'.cell? ⟨(ad322.add (((ji9)).toNat * 2)).block, (ad322.add (((ji9)).toNat * 2)).off + 1, none⟩ = some (.int .i64 ((rd_T25 l1 (ji9)).f1))) (ds := []) (Steps.Bs 18 0) z0_ rfl rfl ⟨kc_ BK323 0, kc_ BK323 1, ((HB.out.cell (World.block_lt_of_cell? w _ hw325_0)).trans hw325_0), ((HB.out.cell (World.block_lt_of_cell? w _ hw325_1)).trans hw325_1)⟩ (fun hHeld => ?_); refine with_tabW op_had.tab4 op_had.bits4 (fun HT_ HW_ => ?_)
   generalize w16.drew = w17 at BK323 HB hx325_0 hx325_1 hHeld ⊢
   refine tI HT_ 0 14 18 1 ?_
   refine tT HT_ HW_ hHeld 1 15 18 3 ?_
   refine one_ (i := 2) (N := some 16) (Steps.Bs 18 7) rfl rfl (one_of HT_.out z0_) z5_ (fun K hK => ?_)
   refine goes_ Try.func104 z0_ rfl #[.slice A0 l0.length c0, .agg #[.int .i64 ((rd_T25 l1 x9_1).f0), .int .i64 ((rd_T25 l1 x9_1).f1)]] (by rfl) rfl rfl z2_ ?_
   with_reducible refine (dot_Has.calls _ _ l0 ((rd_T25 l1 x9_1).f0) ((rd_T25 l1 x9_1).f1) true _ ?side1 ?side2 A6.out).mono ?_
   (case side1 => exact cX_ (C_below HR0.out HB.out))
   (case side2 => exact HC0.out)
   rintro e w18 ⟨rfl, hb⟩
   refine ⟨_, rfl, ?_⟩
   have n0_ := mk_ (bB_ BK323 hb)
   have n1_ := mk_ (below_step (Short.hB HB) hb)
   clear BK323 HB
   revert n0_ n1_
   intro BK323 HB
   (try clear hb)
   (try clear hb2)
   (try clear hk)
   (try clear hi)
   refine hK.out _ _ ⟨kc_ BK323 0, kc_ BK323 1, ((HB.out.cell (World.block_lt_of_cell? w _ hw325_0)).trans hw325_0), ((HB.out.cell (World.block_lt_of_cell? w _ hw325_1)).trans hw325_1)⟩ (fun hHeld => ?_)
   clear hK K
   refine nrm 16 ?_
   refine tI HT_ 3 17 18 15 ?_
   refine tI HT_ 4 18 18 31 ?_
   refine tI HT_ 5 19 18 63 ?_
   refine tI HT_ 6 20 18 127 ?_
   refine tI HT_ 7 21 18 255 ?_
   refine tI HT_ 8 22 18 511 ?_
   refine tI HT_ 9 23 18 1023 ?_
   refine tI HT_ 10 24 18 2047 ?_
   refine tI HT_ 11 25 18 4095 ?_
   refine tT HT_ HW_ hHeld 12 26 18 8191 ?_
   refine tT HT_ HW_ hHeld 13 27 18 16383 ?_
   refine one_ (i := 14) (N := some 28) (Steps.Bs 18 32767) rfl rfl (one_of HT_.out z0_) z5_ (fun K hK => ?_)
   refine goes_ Try.func105 z0_ rfl #[.agg #[.int .i64 ((rd_T25 l1 (ji9)).f0), .int .i64 ((rd_T25 l1 (ji9)).f1)], .agg #[.int .i64 ((rd_T25 l1 x9_1).f0), .int .i64 ((rd_T25 l1 x9_1).f1)]] (by rfl) rfl rfl (by (try simp only [List.map_toArray, List.map_cons, List.map_nil]); first | done | (simp only [hji9]; rfl) | rfl | (simp only [List.length_drop, List.length_take]; rfl) | (go_simp; done) | (simp; done)) ?_
   with_reducible refine (dot_Less.calls k1 ((rd_T25 l1 (ji9)).f0) ((rd_T25 l1 (ji9)).f1) ((rd_T25 l1 x9_1).f0) ((rd_T25 l1 x9_1).f1) true _ A12.out).mono ?_
   rintro e w19 ⟨rfl, hb⟩
   refine ⟨_, rfl, ?_⟩
   have n0_ := mk_ (bB_ BK323 hb)
   have n1_ := mk_ (below_step (Short.hB HB) hb)
   clear BK323 HB
   revert n0_ n1_
   intro BK323 HB
   (try clear hb)
   (try clear hb2)
   (try clear hk)
   (try clear hi)
   refine hK.out _ _ ⟨kc_ BK323 0, kc_ BK323 1, ((HB.out.cell (World.block_lt_of_cell? w _ hw325_0)).trans hw325_0), ((HB.out.cell (World.block_lt_of_cell? w _ hw325_1)).trans hw325_1)⟩ (fun hHeld => ?_)
   clear hK K
   refine nrm 28 ?_
   refine tI HT_ 15 29 18 65535 ?_
   refine tI HT_ 16 30 18 131071 ?_
   refine tI HT_ 17 31 18 262143 ?_
   refine done_ (done_of HT_.out z0_) ?_
   try go_wp2
   go_roundg k1
   case measure => have := HK1.out; omega
   case rel => exact ⟨(wrap64 (x9_1 + 1)), z3_, H', ⟨by have := HK1.out; omega⟩, ⟨Short.hB HB⟩⟩
end Go.Proofs.Ytjnjfogfpmeacaa.PAll
end
