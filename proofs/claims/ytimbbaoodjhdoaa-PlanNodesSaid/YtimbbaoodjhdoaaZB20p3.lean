-- Put together by a program of this session (wip/slice2.py) out of the seat's texts.
import Derived.Test.YtimbbaoodjhdoaaZB20p2

section
namespace Go.Proofs.Ytimbbaoodjhdoaa.PAll
open Go.RowKit Go.Proofs.YtimbbaoodjhdoaaW.PrintWords Go.Proofs.YtimbbaoodjhdoaaW.PrintLast Go.Proofs.YtimbbaoodjhdoaaW.PrintMore Go.Proofs.Ytimbbaoodjhdoaa.ZipT Go.Proofs.YtimbbaoodjhdoaaW.PrintWords.Kd Go.Proofs.YtimbbaoodjhdoaaW.PrintMore.Kd
attribute [local go_sem] max2_int min2_int max_two min_two max_three min_three max_four min_four   -- for this text's walks alone
set_option linter.unusedVariables false
set_option linter.unusedSimpArgs false
def pred_Check.j0 : Nat → List Int → Bool → Int → Int → Int → Int → Int → ByteArray → Option (Int)
 | 0, _, _, _, _, _, _, _, _ => none
 | k + 1, x1, x8, x234000, x234001, x234002, x234003, x234004, x234005 => if x8 = true then (some 1) else ((pred_given.f x234000 x234001 x234002 x234003 x234004 x234005).bind fun t241 => (if t241 = true then (if 0 ≤ x234001 then (if x234001 < (x1.length : Int) then ((value_Fits.f x234003 x234004 x234005 (rd x1 x234001)).bind fun t243 => (if t243 = true then ((pred_other.f x234000 x234001 x234002 x234003 x234004 x234005).bind fun t244 => (if t244 = true then (if 0 ≤ x234002 then (if x234002 < (x1.length : Int) then (if (rd x1 x234002) = (rd x1 x234001) then (some 0) else (some 10)) else (none)) else (none)) else (some 0))) else (some 10))) else (none)) else (none)) else ((pred_other.f x234000 x234001 x234002 x234003 x234004 x234005).bind fun t247 => (if t247 = true then (if 0 ≤ x234002 then (if x234002 < (x1.length : Int) then (if 0 ≤ x234001 then (if x234001 < (x1.length : Int) then (if (rd x1 x234002) = (rd x1 x234001) then (some 0) else (some 10)) else (none)) else (none)) else (none)) else (none)) else (some 0)))))
def pred_Check.f (k : Nat) (a0_0 : Int) (a0_1 : Int) (a0_2 : Int) (a0_3 : Int) (a0_4 : Int) (a0_5 : ByteArray) (l1 : List Int) : Option (Int) := if a0_0 < 1 then (pred_Check.j0 k l1 true a0_0 a0_1 a0_2 a0_3 a0_4 a0_5) else (if a0_0 > 6 then (pred_Check.j0 k l1 true a0_0 a0_1 a0_2 a0_3 a0_4 a0_5) else ((pred_in.f a0_1 (l1.length : Int)).bind fun t234 => (if t234 = true then ((pred_other.f a0_0 a0_1 a0_2 a0_3 a0_4 a0_5).bind fun t235 => (if t235 = true then ((pred_in.f a0_2 (l1.length : Int)).bind fun t236 => (if t236 = true then ((pred_given.f a0_0 a0_1 a0_2 a0_3 a0_4 a0_5).bind fun t237 => (if t237 = true then ((value_Check.f a0_3 a0_4 a0_5).bind fun t238 => (pred_Check.j0 k l1 (t238 != 0) a0_0 a0_1 a0_2 a0_3 a0_4 a0_5)) else (pred_Check.j0 k l1 false a0_0 a0_1 a0_2 a0_3 a0_4 a0_5))) else (pred_Check.j0 k l1 true a0_0 a0_1 a0_2 a0_3 a0_4 a0_5))) else ((pred_given.f a0_0 a0_1 a0_2 a0_3 a0_4 a0_5).bind fun t239 => (if t239 = true then ((value_Check.f a0_3 a0_4 a0_5).bind fun t240 => (pred_Check.j0 k l1 (t240 != 0) a0_0 a0_1 a0_2 a0_3 a0_4 a0_5)) else (pred_Check.j0 k l1 false a0_0 a0_1 a0_2 a0_3 a0_4 a0_5))))) else (pred_Check.j0 k l1 true a0_0 a0_1 a0_2 a0_3 a0_4 a0_5))))
def pred_Check.T4 : Bool × List (List Nat × List Nat) := (true, [([], []), ([0], [0]), ([1, 1], [1]), ([2], [2]), ([3, 2], [2, 3]), ([2], [2]), ([2], [2]), ([6, 2], [2, 6]), ([5, 7, 2], [2, 5, 7]), ([8, 2], [2, 8]), ([4, 9, 2, 2], [2, 4, 9]), ([10, 2], [2, 10]), ([2, 11], [2, 11]), ([12, 10], [12]), ([13], [13]), ([14, 13, 13], [13, 14]), ([15, 15, 13], [13, 15]), ([16], [16]), ([16], [16]), ([18, 16], [16, 18]), ([17, 19, 16], [16, 17, 19]), ([20, 16], [16, 20]), ([16], [16]), ([16], [16]), ([23, 16], [16, 23]), ([22, 24, 16], [16, 22, 24]), ([25, 16], [16, 25]), ([21, 26, 16], [16, 21, 26]), ([16, 27, 13], [13, 16, 27]), ([13, 28], [13, 28]), ([29, 16], [29])])
def pred_Check.B4 : List Nat := [0, 1, 3, 7, 15, 7, 7, 71, 231, 487, 1023, 2047, 4095, 8191, 16383, 32767, 65535, 131071, 131071, 393215, 1048575, 2097151, 131071, 131071, 8519679, 29491199, 63045631, 134217727, 268435455, 536870911, 1073741823]
theorem pred_Check.tab4 : rtab .any (opsOf Try.f59 4) = pred_Check.T4 := by kernel_rfl
theorem pred_Check.bits4 : waitsOk pred_Check.T4.2 pred_Check.B4 = true := by kernel_rfl
set_option maxHeartbeats 8000000 in
set_option maxRecDepth 100000 in
theorem pred_Check.calls (k : Nat) (a0_0 : Int) (a0_1 : Int) (a0_2 : Int) (a0_3 : Int) (a0_4 : Int) (a0_5 : ByteArray) (A1 : Option Addr) (c1 : Nat) (l1 : List Int) (r : Int) (w : World) (hr1 : Kd.C (Kd.int .i64) w A1 l1.length l1) (hc1 : l1.length ≤ c1) (h : pred_Check.f k a0_0 a0_1 a0_2 a0_3 a0_4 a0_5 l1 = some r) :
  Calls Try.prog 59 #[.agg #[.int .i64 a0_0, .int .i64 a0_1, .int .i64 a0_2, .int .i64 a0_3, .int .i64 a0_4, .string a0_5], .slice A1 l1.length c1] w fun e w' => e = .returned (.int .i64 r) ∧ Below w.heap.size w w' := by
 have hu31 := Try.underlying31
 have hu29 := Try.underlying29
 have HR1 := mk_ hr1
 have HC1 := mk_ hc1
 clear hr1 hc1
 have HB := mk_ (Below.refl w.heap.size w)
 have H : (if a0_0 < 1 then (pred_Check.j0 k l1 true a0_0 a0_1 a0_2 a0_3 a0_4 a0_5) else (if a0_0 > 6 then (pred_Check.j0 k l1 true a0_0 a0_1 a0_2 a0_3 a0_4 a0_5) else ((pred_in.f a0_1 (l1.length : Int)).bind fun t234 => (if t234 = true then ((pred_other.f a0_0 a0_1 a0_2 a0_3 a0_4 a0_5).bind fun t235 => (if t235 = true then ((pred_in.f a0_2 (l1.length : Int)).bind fun t236 => (if t236 = true then ((pred_given.f a0_0 a0_1 a0_2 a0_3 a0_4 a0_5).bind fun t237 => (if t237 = true then ((value_Check.f a0_3 a0_4 a0_5).bind fun t238 => (pred_Check.j0 k l1 (t238 != 0) a0_0 a0_1 a0_2 a0_3 a0_4 a0_5)) else (pred_Check.j0 k l1 false a0_0 a0_1 a0_2 a0_3 a0_4 a0_5))) else (pred_Check.j0 k l1 true a0_0 a0_1 a0_2 a0_3 a0_4 a0_5))) else ((pred_given.f a0_0 a0_1 a0_2 a0_3 a0_4 a0_5).bind fun t239 => (if t239 = true then ((value_Check.f a0_3 a0_4 a0_5).bind fun t240 => (pred_Check.j0 k l1 (t240 != 0) a0_0 a0_1 a0_2 a0_3 a0_4 a0_5)) else (pred_Check.j0 k l1 false a0_0 a0_1 a0_2 a0_3 a0_4 a0_5))))) else (pred_Check.j0 k l1 true a0_0 a0_1 a0_2 a0_3 a0_4 a0_5))))) = some r := h
 clear h
 have HC3 := mk_ H
 clear H
 go_enter Try.func59, Try.ntmps59
 go_upto_region 2 with (first | ((with_reducible refine gate_dst (N := 2) rfl ?_); refine box_event ?hg (N := 2) ?hd (cs := #[.int .i64 a0_0, .int .i64 a0_1, .int .i64 a0_2, .int .i64 a0_3, .int .i64 a0_4, .string a0_5]) (t := 31) ?hr ?_; (case hd => rfl); (case hg => rfl); (case hr => first | (go_simp; done) | (go_simp; rfl)); intro gb233 hg w4 hbox hb; have n0_ := mk_ (below_step (Short.hB HB) hb); have n1_ := mk_ (hbox); have n2_ := mk_ ((by rw [hg]; exact (below_size (Short.hB HB)) : w.heap.size ≤ gb233)); have n3_ := mk_ ((by rw [hg]; exact (below_size (Short.hB HB)) : w.heap.size ≤ gb233)); clear HB; revert n0_ n1_ n2_ n3_; intro HB BK233 GW233 GE233; clear hb hbox hg))
 (try simp only [Act.put, List.setIfInBounds_toArray, List.set_cons_zero, List.set_cons_succ])
 go_cut [8] (fun v8 wc => ∃ (kq : Nat) (x8_2 : Bool), v8 = .bool x8_2 ∧ Aside0 (pred_Check.j0 kq l1 x8_2 a0_0 a0_1 a0_2 a0_3 a0_4 a0_5 = some r) ∧ Aside0 (kq ≤ k) ∧ Aside0 (wc.heap[gb233]? = some (.cells #[.int .i64 a0_0, .int .i64 a0_1, .int .i64 a0_2, .int .i64 a0_3, .int .i64 a0_4, .string a0_5] 31 (0, 0))) ∧ Aside0 (Below w.heap.size w wc))
 case first =>
  have H := HC3.out
  clear HC3
  by_cases c5 : a0_0 < 1
  ·
   rw [if_pos c5] at H
   have c5b0 : decide (a0_0 < 1) = true := decide_eq_true c5
   clear c5
   (first | rw [c5b0] | (simp only [i64_w, i32_w]; rw [c5b0]) | skip)
   have H' := mk_ H
   clear H
   have hcz6_0 : w4.cell? ⟨gb233, 0, none⟩ = some (.int .i64 a0_0) := (blk_cell BK233.out 0).trans rfl
   have hcz6_1 : w4.cell? ⟨gb233, 1, none⟩ = some (.int .i64 a0_1) := (blk_cell BK233.out 1).trans rfl
   have hcz6_2 : w4.cell? ⟨gb233, 2, none⟩ = some (.int .i64 a0_2) := (blk_cell BK233.out 2).trans rfl
   have hcz6_3 : w4.cell? ⟨gb233, 3, none⟩ = some (.int .i64 a0_3) := (blk_cell BK233.out 3).trans rfl
   have hcz6_4 : w4.cell? ⟨gb233, 4, none⟩ = some (.int .i64 a0_4) := (blk_cell BK233.out 4).trans rfl
   have hcz6_5 : w4.cell? ⟨gb233, 5, none⟩ = some (.string a0_5) := (blk_cell BK233.out 5).trans rfl
   have hfz6_0 := blk_frozen BK233.out 0
   have hfz6_1 := blk_frozen BK233.out 1
   have hfz6_2 := blk_frozen BK233.out 2
   have hfz6_3 := blk_frozen BK233.out 3
   have hfz6_4 := blk_frozen BK233.out 4
   have hfz6_5 := blk_frozen BK233.out 5
   go_wp2
   go_meet
   case rel => exact ⟨_, (true), z9, H', ⟨by first | omega | exact Nat.le_refl _⟩, ⟨by (with_reducible repeat (first | refine blk_drewN ?_ _ | refine blk_drew ?_ | refine blk_alloc ?_ _)); exact BK233.out⟩, ⟨Short.hB HB⟩⟩
  ·
   rw [if_neg c5] at H
   have c5b0 : decide (a0_0 < 1) = false := decide_eq_false c5
   clear c5
   (first | rw [c5b0] | (simp only [i64_w, i32_w]; rw [c5b0]) | skip)
   by_cases c7 : a0_0 > 6
   ·
    rw [if_pos c7] at H
    have c7b0 : decide (6 < a0_0) = true := decide_eq_true c7
    clear c7
    have H' := mk_ H
    clear H
    have hcz8_0 : w4.cell? ⟨gb233, 0, none⟩ = some (.int .i64 a0_0) := (blk_cell BK233.out 0).trans rfl
    have hcz8_1 : w4.cell? ⟨gb233, 1, none⟩ = some (.int .i64 a0_1) := (blk_cell BK233.out 1).trans rfl
    have hcz8_2 : w4.cell? ⟨gb233, 2, none⟩ = some (.int .i64 a0_2) := (blk_cell BK233.out 2).trans rfl
    have hcz8_3 : w4.cell? ⟨gb233, 3, none⟩ = some (.int .i64 a0_3) := (blk_cell BK233.out 3).trans rfl
    have hcz8_4 : w4.cell? ⟨gb233, 4, none⟩ = some (.int .i64 a0_4) := (blk_cell BK233.out 4).trans rfl
    have hcz8_5 : w4.cell? ⟨gb233, 5, none⟩ = some (.string a0_5) := (blk_cell BK233.out 5).trans rfl
    have hfz8_0 := blk_frozen BK233.out 0
    have hfz8_1 := blk_frozen BK233.out 1
    have hfz8_2 := blk_frozen BK233.out 2
    have hfz8_3 := blk_frozen BK233.out 3
    have hfz8_4 := blk_frozen BK233.out 4
    have hfz8_5 := blk_frozen BK233.out 5
    go_wp2
    go_meet
    case rel => exact ⟨_, (true), z9, H', ⟨by first | omega | exact Nat.le_refl _⟩, ⟨by (with_reducible repeat (first | refine blk_drewN ?_ _ | refine blk_drew ?_ | refine blk_alloc ?_ _)); exact BK233.out⟩, ⟨Short.hB HB⟩⟩
   ·
    rw [if_neg c7] at H
    have c7b0 : decide (6 < a0_0) = false := decide_eq_false c7
    clear c7
    replace H := Option.bind_eq_some_iff.mp H
    obtain ⟨t234, A90, H⟩ := H
    replace H : (if t234 = true then ((pred_other.f a0_0 a0_1 a0_2 a0_3 a0_4 a0_5).bind fun t235 => (if t235 = true then ((pred_in.f a0_2 (l1.length : Int)).bind fun t236 => (if t236 = true then ((pred_given.f a0_0 a0_1 a0_2 a0_3 a0_4 a0_5).bind fun t237 => (if t237 = true then ((value_Check.f a0_3 a0_4 a0_5).bind fun t238 => (pred_Check.j0 k l1 (t238 != 0) a0_0 a0_1 a0_2 a0_3 a0_4 a0_5)) else (pred_Check.j0 k l1 false a0_0 a0_1 a0_2 a0_3 a0_4 a0_5))) else (pred_Check.j0 k l1 true a0_0 a0_1 a0_2 a0_3 a0_4 a0_5))) else ((pred_given.f a0_0 a0_1 a0_2 a0_3 a0_4 a0_5).bind fun t239 => (if t239 = true then ((value_Check.f a0_3 a0_4 a0_5).bind fun t240 => (pred_Check.j0 k l1 (t240 != 0) a0_0 a0_1 a0_2 a0_3 a0_4 a0_5)) else (pred_Check.j0 k l1 false a0_0 a0_1 a0_2 a0_3 a0_4 a0_5))))) else (pred_Check.j0 k l1 true a0_0 a0_1 a0_2 a0_3 a0_4 a0_5)) = some r := H
    have A9 := mk_ A90
    clear A90
    by_cases c10 : t234 = true
    ·
     subst c10
     have H1 : ((pred_other.f a0_0 a0_1 a0_2 a0_3 a0_4 a0_5).bind fun t235 => (if t235 = true then ((pred_in.f a0_2 (l1.length : Int)).bind fun t236 => (if t236 = true then ((pred_given.f a0_0 a0_1 a0_2 a0_3 a0_4 a0_5).bind fun t237 => (if t237 = true then ((value_Check.f a0_3 a0_4 a0_5).bind fun t238 => (pred_Check.j0 k l1 (t238 != 0) a0_0 a0_1 a0_2 a0_3 a0_4 a0_5)) else (pred_Check.j0 k l1 false a0_0 a0_1 a0_2 a0_3 a0_4 a0_5))) else (pred_Check.j0 k l1 true a0_0 a0_1 a0_2 a0_3 a0_4 a0_5))) else ((pred_given.f a0_0 a0_1 a0_2 a0_3 a0_4 a0_5).bind fun t239 => (if t239 = true then ((value_Check.f a0_3 a0_4 a0_5).bind fun t240 => (pred_Check.j0 k l1 (t240 != 0) a0_0 a0_1 a0_2 a0_3 a0_4 a0_5)) else (pred_Check.j0 k l1 false a0_0 a0_1 a0_2 a0_3 a0_4 a0_5))))) = some r := by rw [if_pos rfl] at H; exact H
     clear H
     have H := H1
     clear H1
     replace H := Option.bind_eq_some_iff.mp H
     obtain ⟨t235, A110, H⟩ := H
     replace H : (if t235 = true then ((pred_in.f a0_2 (l1.length : Int)).bind fun t236 => (if t236 = true then ((pred_given.f a0_0 a0_1 a0_2 a0_3 a0_4 a0_5).bind fun t237 => (if t237 = true then ((value_Check.f a0_3 a0_4 a0_5).bind fun t238 => (pred_Check.j0 k l1 (t238 != 0) a0_0 a0_1 a0_2 a0_3 a0_4 a0_5)) else (pred_Check.j0 k l1 false a0_0 a0_1 a0_2 a0_3 a0_4 a0_5))) else (pred_Check.j0 k l1 true a0_0 a0_1 a0_2 a0_3 a0_4 a0_5))) else ((pred_given.f a0_0 a0_1 a0_2 a0_3 a0_4 a0_5).bind fun t239 => (if t239 = true then ((value_Check.f a0_3 a0_4 a0_5).bind fun t240 => (pred_Check.j0 k l1 (t240 != 0) a0_0 a0_1 a0_2 a0_3 a0_4 a0_5)) else (pred_Check.j0 k l1 false a0_0 a0_1 a0_2 a0_3 a0_4 a0_5)))) = some r := H
     have A11 := mk_ A110
     clear A110
     by_cases c12 : t235 = true
     ·
      subst c12
      have H1 : ((pred_in.f a0_2 (l1.length : Int)).bind fun t236 => (if t236 = true then ((pred_given.f a0_0 a0_1 a0_2 a0_3 a0_4 a0_5).bind fun t237 => (if t237 = true then ((value_Check.f a0_3 a0_4 a0_5).bind fun t238 => (pred_Check.j0 k l1 (t238 != 0) a0_0 a0_1 a0_2 a0_3 a0_4 a0_5)) else (pred_Check.j0 k l1 false a0_0 a0_1 a0_2 a0_3 a0_4 a0_5))) else (pred_Check.j0 k l1 true a0_0 a0_1 a0_2 a0_3 a0_4 a0_5))) = some r := by rw [if_pos rfl] at H; exact H
      clear H
      have H := H1
      clear H1
      replace H := Option.bind_eq_some_iff.mp H
      obtain ⟨t236, A130, H⟩ := H
      replace H : (if t236 = true then ((pred_given.f a0_0 a0_1 a0_2 a0_3 a0_4 a0_5).bind fun t237 => (if t237 = true then ((value_Check.f a0_3 a0_4 a0_5).bind fun t238 => (pred_Check.j0 k l1 (t238 != 0) a0_0 a0_1 a0_2 a0_3 a0_4 a0_5)) else (pred_Check.j0 k l1 false a0_0 a0_1 a0_2 a0_3 a0_4 a0_5))) else (pred_Check.j0 k l1 true a0_0 a0_1 a0_2 a0_3 a0_4 a0_5)) = some r := H
      have A13 := mk_ A130
      clear A130
      by_cases c14 : t236 = true
      ·
       subst c14
       have H1 : ((pred_given.f a0_0 a0_1 a0_2 a0_3 a0_4 a0_5).bind fun t237 => (if t237 = true then ((value_Check.f a0_3 a0_4 a0_5).bind fun t238 => (pred_Check.j0 k l1 (t238 != 0) a0_0 a0_1 a0_2 a0_3 a0_4 a0_5)) else (pred_Check.j0 k l1 false a0_0 a0_1 a0_2 a0_3 a0_4 a0_5))) = some r := by rw [if_pos rfl] at H; exact H
       clear H
       have H := H1
       clear H1
       replace H := Option.bind_eq_some_iff.mp H
       obtain ⟨t237, A150, H⟩ := H
       replace H : (if t237 = true then ((value_Check.f a0_3 a0_4 a0_5).bind fun t238 => (pred_Check.j0 k l1 (t238 != 0) a0_0 a0_1 a0_2 a0_3 a0_4 a0_5)) else (pred_Check.j0 k l1 false a0_0 a0_1 a0_2 a0_3 a0_4 a0_5)) = some r := H
       have A15 := mk_ A150
       clear A150
       by_cases c16 : t237 = true
       ·
        subst c16
        have H1 : ((value_Check.f a0_3 a0_4 a0_5).bind fun t238 => (pred_Check.j0 k l1 (t238 != 0) a0_0 a0_1 a0_2 a0_3 a0_4 a0_5)) = some r := by rw [if_pos rfl] at H; exact H
        clear H
        have H := H1
        clear H1
        replace H := Option.bind_eq_some_iff.mp H
        obtain ⟨t238, A170, H⟩ := H
        replace H : (pred_Check.j0 k l1 (t238 != 0) a0_0 a0_1 a0_2 a0_3 a0_4 a0_5) = some r := H
        have A17 := mk_ A170
        clear A170
        have H' := mk_ H
        clear H
        have hcz18_0 : w4.cell? ⟨gb233, 0, none⟩ = some (.int .i64 a0_0) := (blk_cell BK233.out 0).trans rfl
        have hcz18_1 : w4.cell? ⟨gb233, 1, none⟩ = some (.int .i64 a0_1) := (blk_cell BK233.out 1).trans rfl
        have hcz18_2 : w4.cell? ⟨gb233, 2, none⟩ = some (.int .i64 a0_2) := (blk_cell BK233.out 2).trans rfl
        have hcz18_3 : w4.cell? ⟨gb233, 3, none⟩ = some (.int .i64 a0_3) := (blk_cell BK233.out 3).trans rfl
        have hcz18_4 : w4.cell? ⟨gb233, 4, none⟩ = some (.int .i64 a0_4) := (blk_cell BK233.out 4).trans rfl
        have hcz18_5 : w4.cell? ⟨gb233, 5, none⟩ = some (.string a0_5) := (blk_cell BK233.out 5).trans rfl
        have hfz18_0 := blk_frozen BK233.out 0
        have hfz18_1 := blk_frozen BK233.out 1
        have hfz18_2 := blk_frozen BK233.out 2
        have hfz18_3 := blk_frozen BK233.out 3
        have hfz18_4 := blk_frozen BK233.out 4
        have hfz18_5 := blk_frozen BK233.out 5
        go_wp2_with (first | (go_at_call 65; (with_reducible refine (pred_in.calls a0_1 (l1.length : Int) true _ A9.out).mono ?_); rintro e w' ⟨rfl, ⟨nd, rfl⟩⟩) | (go_at_call 66; (with_reducible refine (pred_other.calls a0_0 a0_1 a0_2 a0_3 a0_4 a0_5 true _ A11.out).mono ?_); rintro e w19 ⟨rfl, hb⟩; have n0_ := mk_ (bB_ BK233 hb); have n1_ := mk_ (below_step (Short.hB HB) hb); clear BK233 HB; revert n0_ n1_; intro BK233 HB; (try clear hb); (try clear hb2); (try clear hk); (try clear hi); have hcz20_0 : w19.cell? ⟨gb233, 0, none⟩ = some (.int .i64 a0_0) := (blk_cell BK233.out 0).trans rfl; have hcz20_1 : w19.cell? ⟨gb233, 1, none⟩ = some (.int .i64 a0_1) := (blk_cell BK233.out 1).trans rfl; have hcz20_2 : w19.cell? ⟨gb233, 2, none⟩ = some (.int .i64 a0_2) := (blk_cell BK233.out 2).trans rfl; have hcz20_3 : w19.cell? ⟨gb233, 3, none⟩ = some (.int .i64 a0_3) := (blk_cell BK233.out 3).trans rfl; have hcz20_4 : w19.cell? ⟨gb233, 4, none⟩ = some (.int .i64 a0_4) := (blk_cell BK233.out 4).trans rfl; have hcz20_5 : w19.cell? ⟨gb233, 5, none⟩ = some (.string a0_5) := (blk_cell BK233.out 5).trans rfl; have hfz20_0 := blk_frozen BK233.out 0; have hfz20_1 := blk_frozen BK233.out 1; have hfz20_2 := blk_frozen BK233.out 2; have hfz20_3 := blk_frozen BK233.out 3; have hfz20_4 := blk_frozen BK233.out 4; have hfz20_5 := blk_frozen BK233.out 5) | (go_at_call 65; (with_reducible refine (pred_in.calls a0_2 (l1.length : Int) true _ A13.out).mono ?_); rintro e w' ⟨rfl, ⟨nd, rfl⟩⟩) | (go_at_call 67; (with_reducible refine (pred_given.calls a0_0 a0_1 a0_2 a0_3 a0_4 a0_5 true _ A15.out).mono ?_); rintro e w21 ⟨rfl, hb⟩; have n0_ := mk_ (bB_ BK233 hb); have n1_ := mk_ (below_step (Short.hB HB) hb); clear BK233 HB; revert n0_ n1_; intro BK233 HB; (try clear hb); (try clear hb2); (try clear hk); (try clear hi); have hcz22_0 : w21.cell? ⟨gb233, 0, none⟩ = some (.int .i64 a0_0) := (blk_cell BK233.out 0).trans rfl; have hcz22_1 : w21.cell? ⟨gb233, 1, none⟩ = some (.int .i64 a0_1) := (blk_cell BK233.out 1).trans rfl; have hcz22_2 : w21.cell? ⟨gb233, 2, none⟩ = some (.int .i64 a0_2) := (blk_cell BK233.out 2).trans rfl; have hcz22_3 : w21.cell? ⟨gb233, 3, none⟩ = some (.int .i64 a0_3) := (blk_cell BK233.out 3).trans rfl; have hcz22_4 : w21.cell? ⟨gb233, 4, none⟩ = some (.int .i64 a0_4) := (blk_cell BK233.out 4).trans rfl; have hcz22_5 : w21.cell? ⟨gb233, 5, none⟩ = some (.string a0_5) := (blk_cell BK233.out 5).trans rfl; have hfz22_0 := blk_frozen BK233.out 0; have hfz22_1 := blk_frozen BK233.out 1; have hfz22_2 := blk_frozen BK233.out 2; have hfz22_3 := blk_frozen BK233.out 3; have hfz22_4 := blk_frozen BK233.out 4; have hfz22_5 := blk_frozen BK233.out 5) | (go_at_call 68; (with_reducible refine (value_Check.calls a0_3 a0_4 a0_5 t238 _ A17.out).mono ?_); rintro e w23 ⟨rfl, hb⟩; have n0_ := mk_ (bB_ BK233 hb); have n1_ := mk_ (below_step (Short.hB HB) hb); clear BK233 HB; revert n0_ n1_; intro BK233 HB; (try clear hb); (try clear hb2); (try clear hk); (try clear hi)))
        go_meet
        case rel => exact ⟨_, ((t238 != 0)), z9, H', ⟨by first | omega | exact Nat.le_refl _⟩, ⟨by (with_reducible repeat (first | refine blk_drewN ?_ _ | refine blk_drew ?_ | refine blk_alloc ?_ _)); exact BK233.out⟩, ⟨Short.hB HB⟩⟩
       ·
        replace c16 := Bool.eq_false_iff.mpr c16
        subst c16
        have H1 : (pred_Check.j0 k l1 false a0_0 a0_1 a0_2 a0_3 a0_4 a0_5) = some r := by rw [if_neg (show ¬ (false = true) by decide)] at H; exact H
        clear H
        have H := H1
        clear H1
        have H' := mk_ H
        clear H
        have hcz24_0 : w4.cell? ⟨gb233, 0, none⟩ = some (.int .i64 a0_0) := (blk_cell BK233.out 0).trans rfl
        have hcz24_1 : w4.cell? ⟨gb233, 1, none⟩ = some (.int .i64 a0_1) := (blk_cell BK233.out 1).trans rfl
        have hcz24_2 : w4.cell? ⟨gb233, 2, none⟩ = some (.int .i64 a0_2) := (blk_cell BK233.out 2).trans rfl
        have hcz24_3 : w4.cell? ⟨gb233, 3, none⟩ = some (.int .i64 a0_3) := (blk_cell BK233.out 3).trans rfl
        have hcz24_4 : w4.cell? ⟨gb233, 4, none⟩ = some (.int .i64 a0_4) := (blk_cell BK233.out 4).trans rfl
        have hcz24_5 : w4.cell? ⟨gb233, 5, none⟩ = some (.string a0_5) := (blk_cell BK233.out 5).trans rfl
        have hfz24_0 := blk_frozen BK233.out 0
        have hfz24_1 := blk_frozen BK233.out 1
        have hfz24_2 := blk_frozen BK233.out 2
        have hfz24_3 := blk_frozen BK233.out 3
        have hfz24_4 := blk_frozen BK233.out 4
        have hfz24_5 := blk_frozen BK233.out 5
        go_wp2_with (first | (go_at_call 65; (with_reducible refine (pred_in.calls a0_1 (l1.length : Int) true _ A9.out).mono ?_); rintro e w' ⟨rfl, ⟨nd, rfl⟩⟩) | (go_at_call 66; (with_reducible refine (pred_other.calls a0_0 a0_1 a0_2 a0_3 a0_4 a0_5 true _ A11.out).mono ?_); rintro e w25 ⟨rfl, hb⟩; have n0_ := mk_ (bB_ BK233 hb); have n1_ := mk_ (below_step (Short.hB HB) hb); clear BK233 HB; revert n0_ n1_; intro BK233 HB; (try clear hb); (try clear hb2); (try clear hk); (try clear hi); have hcz26_0 : w25.cell? ⟨gb233, 0, none⟩ = some (.int .i64 a0_0) := (blk_cell BK233.out 0).trans rfl; have hcz26_1 : w25.cell? ⟨gb233, 1, none⟩ = some (.int .i64 a0_1) := (blk_cell BK233.out 1).trans rfl; have hcz26_2 : w25.cell? ⟨gb233, 2, none⟩ = some (.int .i64 a0_2) := (blk_cell BK233.out 2).trans rfl; have hcz26_3 : w25.cell? ⟨gb233, 3, none⟩ = some (.int .i64 a0_3) := (blk_cell BK233.out 3).trans rfl; have hcz26_4 : w25.cell? ⟨gb233, 4, none⟩ = some (.int .i64 a0_4) := (blk_cell BK233.out 4).trans rfl; have hcz26_5 : w25.cell? ⟨gb233, 5, none⟩ = some (.string a0_5) := (blk_cell BK233.out 5).trans rfl; have hfz26_0 := blk_frozen BK233.out 0; have hfz26_1 := blk_frozen BK233.out 1; have hfz26_2 := blk_frozen BK233.out 2; have hfz26_3 := blk_frozen BK233.out 3; have hfz26_4 := blk_frozen BK233.out 4; have hfz26_5 := blk_frozen BK233.out 5) | (go_at_call 65; (with_reducible refine (pred_in.calls a0_2 (l1.length : Int) true _ A13.out).mono ?_); rintro e w' ⟨rfl, ⟨nd, rfl⟩⟩) | (go_at_call 67; (with_reducible refine (pred_given.calls a0_0 a0_1 a0_2 a0_3 a0_4 a0_5 false _ A15.out).mono ?_); rintro e w27 ⟨rfl, hb⟩; have n0_ := mk_ (bB_ BK233 hb); have n1_ := mk_ (below_step (Short.hB HB) hb); clear BK233 HB; revert n0_ n1_; intro BK233 HB; (try clear hb); (try clear hb2); (try clear hk); (try clear hi)))
        go_meet
        case rel => exact ⟨_, (false), z9, H', ⟨by first | omega | exact Nat.le_refl _⟩, ⟨by (with_reducible repeat (first | refine blk_drewN ?_ _ | refine blk_drew ?_ | refine blk_alloc ?_ _)); exact BK233.out⟩, ⟨Short.hB HB⟩⟩
      ·
       replace c14 := Bool.eq_false_iff.mpr c14
       subst c14
       have H1 : (pred_Check.j0 k l1 true a0_0 a0_1 a0_2 a0_3 a0_4 a0_5) = some r := by rw [if_neg (show ¬ (false = true) by decide)] at H; exact H
       clear H
       have H := H1
       clear H1
       have H' := mk_ H
       clear H
       have hcz28_0 : w4.cell? ⟨gb233, 0, none⟩ = some (.int .i64 a0_0) := (blk_cell BK233.out 0).trans rfl
       have hcz28_1 : w4.cell? ⟨gb233, 1, none⟩ = some (.int .i64 a0_1) := (blk_cell BK233.out 1).trans rfl
       have hcz28_2 : w4.cell? ⟨gb233, 2, none⟩ = some (.int .i64 a0_2) := (blk_cell BK233.out 2).trans rfl
       have hcz28_3 : w4.cell? ⟨gb233, 3, none⟩ = some (.int .i64 a0_3) := (blk_cell BK233.out 3).trans rfl
       have hcz28_4 : w4.cell? ⟨gb233, 4, none⟩ = some (.int .i64 a0_4) := (blk_cell BK233.out 4).trans rfl
       have hcz28_5 : w4.cell? ⟨gb233, 5, none⟩ = some (.string a0_5) := (blk_cell BK233.out 5).trans rfl
       have hfz28_0 := blk_frozen BK233.out 0
       have hfz28_1 := blk_frozen BK233.out 1
       have hfz28_2 := blk_frozen BK233.out 2
       have hfz28_3 := blk_frozen BK233.out 3
       have hfz28_4 := blk_frozen BK233.out 4
       have hfz28_5 := blk_frozen BK233.out 5
       go_wp2_with (first | (go_at_call 65; (with_reducible refine (pred_in.calls a0_1 (l1.length : Int) true _ A9.out).mono ?_); rintro e w' ⟨rfl, ⟨nd, rfl⟩⟩) | (go_at_call 66; (with_reducible refine (pred_other.calls a0_0 a0_1 a0_2 a0_3 a0_4 a0_5 true _ A11.out).mono ?_); rintro e w29 ⟨rfl, hb⟩; have n0_ := mk_ (bB_ BK233 hb); have n1_ := mk_ (below_step (Short.hB HB) hb); clear BK233 HB; revert n0_ n1_; intro BK233 HB; (try clear hb); (try clear hb2); (try clear hk); (try clear hi); have hcz30_0 : w29.cell? ⟨gb233, 0, none⟩ = some (.int .i64 a0_0) := (blk_cell BK233.out 0).trans rfl; have hcz30_1 : w29.cell? ⟨gb233, 1, none⟩ = some (.int .i64 a0_1) := (blk_cell BK233.out 1).trans rfl; have hcz30_2 : w29.cell? ⟨gb233, 2, none⟩ = some (.int .i64 a0_2) := (blk_cell BK233.out 2).trans rfl; have hcz30_3 : w29.cell? ⟨gb233, 3, none⟩ = some (.int .i64 a0_3) := (blk_cell BK233.out 3).trans rfl; have hcz30_4 : w29.cell? ⟨gb233, 4, none⟩ = some (.int .i64 a0_4) := (blk_cell BK233.out 4).trans rfl; have hcz30_5 : w29.cell? ⟨gb233, 5, none⟩ = some (.string a0_5) := (blk_cell BK233.out 5).trans rfl; have hfz30_0 := blk_frozen BK233.out 0; have hfz30_1 := blk_frozen BK233.out 1; have hfz30_2 := blk_frozen BK233.out 2; have hfz30_3 := blk_frozen BK233.out 3; have hfz30_4 := blk_frozen BK233.out 4; have hfz30_5 := blk_frozen BK233.out 5) | (go_at_call 65; (with_reducible refine (pred_in.calls a0_2 (l1.length : Int) false _ A13.out).mono ?_); rintro e w' ⟨rfl, ⟨nd, rfl⟩⟩))
       go_meet
       case rel => exact ⟨_, (true), z9, H', ⟨by first | omega | exact Nat.le_refl _⟩, ⟨by (with_reducible repeat (first | refine blk_drewN ?_ _ | refine blk_drew ?_ | refine blk_alloc ?_ _)); exact BK233.out⟩, ⟨Short.hB HB⟩⟩
     ·
      replace c12 := Bool.eq_false_iff.mpr c12
      subst c12
      have H1 : ((pred_given.f a0_0 a0_1 a0_2 a0_3 a0_4 a0_5).bind fun t239 => (if t239 = true then ((value_Check.f a0_3 a0_4 a0_5).bind fun t240 => (pred_Check.j0 k l1 (t240 != 0) a0_0 a0_1 a0_2 a0_3 a0_4 a0_5)) else (pred_Check.j0 k l1 false a0_0 a0_1 a0_2 a0_3 a0_4 a0_5))) = some r := by rw [if_neg (show ¬ (false = true) by decide)] at H; exact H
      clear H
      have H := H1
      clear H1
      replace H := Option.bind_eq_some_iff.mp H
      obtain ⟨t239, A310, H⟩ := H
      replace H : (if t239 = true then ((value_Check.f a0_3 a0_4 a0_5).bind fun t240 => (pred_Check.j0 k l1 (t240 != 0) a0_0 a0_1 a0_2 a0_3 a0_4 a0_5)) else (pred_Check.j0 k l1 false a0_0 a0_1 a0_2 a0_3 a0_4 a0_5)) = some r := H
      have A31 := mk_ A310
      clear A310
      by_cases c32 : t239 = true
      ·
       subst c32
       have H1 : ((value_Check.f a0_3 a0_4 a0_5).bind fun t240 => (pred_Check.j0 k l1 (t240 != 0) a0_0 a0_1 a0_2 a0_3 a0_4 a0_5)) = some r := by rw [if_pos rfl] at H; exact H
       clear H
       have H := H1
       clear H1
       replace H := Option.bind_eq_some_iff.mp H
       obtain ⟨t240, A330, H⟩ := H
       replace H : (pred_Check.j0 k l1 (t240 != 0) a0_0 a0_1 a0_2 a0_3 a0_4 a0_5) = some r := H
       have A33 := mk_ A330
       clear A330
       have H' := mk_ H
       clear H
       have hcz34_0 : w4.cell? ⟨gb233, 0, none⟩ = some (.int .i64 a0_0) := (blk_cell BK233.out 0).trans rfl
       have hcz34_1 : w4.cell? ⟨gb233, 1, none⟩ = some (.int .i64 a0_1) := (blk_cell BK233.out 1).trans rfl
       have hcz34_2 : w4.cell? ⟨gb233, 2, none⟩ = some (.int .i64 a0_2) := (blk_cell BK233.out 2).trans rfl
       have hcz34_3 : w4.cell? ⟨gb233, 3, none⟩ = some (.int .i64 a0_3) := (blk_cell BK233.out 3).trans rfl
       have hcz34_4 : w4.cell? ⟨gb233, 4, none⟩ = some (.int .i64 a0_4) := (blk_cell BK233.out 4).trans rfl
       have hcz34_5 : w4.cell? ⟨gb233, 5, none⟩ = some (.string a0_5) := (blk_cell BK233.out 5).trans rfl
       have hfz34_0 := blk_frozen BK233.out 0
       have hfz34_1 := blk_frozen BK233.out 1
       have hfz34_2 := blk_frozen BK233.out 2
       have hfz34_3 := blk_frozen BK233.out 3
       have hfz34_4 := blk_frozen BK233.out 4
       have hfz34_5 := blk_frozen BK233.out 5
       go_wp2_with (first | (go_at_call 65; (with_reducible refine (pred_in.calls a0_1 (l1.length : Int) true _ A9.out).mono ?_); rintro e w' ⟨rfl, ⟨nd, rfl⟩⟩) | (go_at_call 66; (with_reducible refine (pred_other.calls a0_0 a0_1 a0_2 a0_3 a0_4 a0_5 false _ A11.out).mono ?_); rintro e w35 ⟨rfl, hb⟩; have n0_ := mk_ (bB_ BK233 hb); have n1_ := mk_ (below_step (Short.hB HB) hb); clear BK233 HB; revert n0_ n1_; intro BK233 HB; (try clear hb); (try clear hb2); (try clear hk); (try clear hi); have hcz36_0 : w35.cell? ⟨gb233, 0, none⟩ = some (.int .i64 a0_0) := (blk_cell BK233.out 0).trans rfl; have hcz36_1 : w35.cell? ⟨gb233, 1, none⟩ = some (.int .i64 a0_1) := (blk_cell BK233.out 1).trans rfl; have hcz36_2 : w35.cell? ⟨gb233, 2, none⟩ = some (.int .i64 a0_2) := (blk_cell BK233.out 2).trans rfl; have hcz36_3 : w35.cell? ⟨gb233, 3, none⟩ = some (.int .i64 a0_3) := (blk_cell BK233.out 3).trans rfl; have hcz36_4 : w35.cell? ⟨gb233, 4, none⟩ = some (.int .i64 a0_4) := (blk_cell BK233.out 4).trans rfl; have hcz36_5 : w35.cell? ⟨gb233, 5, none⟩ = some (.string a0_5) := (blk_cell BK233.out 5).trans rfl; have hfz36_0 := blk_frozen BK233.out 0; have hfz36_1 := blk_frozen BK233.out 1; have hfz36_2 := blk_frozen BK233.out 2; have hfz36_3 := blk_frozen BK233.out 3; have hfz36_4 := blk_frozen BK233.out 4; have hfz36_5 := blk_frozen BK233.out 5) | (go_at_call 67; (with_reducible refine (pred_given.calls a0_0 a0_1 a0_2 a0_3 a0_4 a0_5 true _ A31.out).mono ?_); rintro e w37 ⟨rfl, hb⟩; have n0_ := mk_ (bB_ BK233 hb); have n1_ := mk_ (below_step (Short.hB HB) hb); clear BK233 HB; revert n0_ n1_; intro BK233 HB; (try clear hb); (try clear hb2); (try clear hk); (try clear hi); have hcz38_0 : w37.cell? ⟨gb233, 0, none⟩ = some (.int .i64 a0_0) := (blk_cell BK233.out 0).trans rfl; have hcz38_1 : w37.cell? ⟨gb233, 1, none⟩ = some (.int .i64 a0_1) := (blk_cell BK233.out 1).trans rfl; have hcz38_2 : w37.cell? ⟨gb233, 2, none⟩ = some (.int .i64 a0_2) := (blk_cell BK233.out 2).trans rfl; have hcz38_3 : w37.cell? ⟨gb233, 3, none⟩ = some (.int .i64 a0_3) := (blk_cell BK233.out 3).trans rfl; have hcz38_4 : w37.cell? ⟨gb233, 4, none⟩ = some (.int .i64 a0_4) := (blk_cell BK233.out 4).trans rfl; have hcz38_5 : w37.cell? ⟨gb233, 5, none⟩ = some (.string a0_5) := (blk_cell BK233.out 5).trans rfl; have hfz38_0 := blk_frozen BK233.out 0; have hfz38_1 := blk_frozen BK233.out 1; have hfz38_2 := blk_frozen BK233.out 2; have hfz38_3 := blk_frozen BK233.out 3; have hfz38_4 := blk_frozen BK233.out 4; have hfz38_5 := blk_frozen BK233.out 5) | (go_at_call 68; (with_reducible refine (value_Check.calls a0_3 a0_4 a0_5 t240 _ A33.out).mono ?_); rintro e w39 ⟨rfl, hb⟩; have n0_ := mk_ (bB_ BK233 hb); have n1_ := mk_ (below_step (Short.hB HB) hb); clear BK233 HB; revert n0_ n1_; intro BK233 HB; (try clear hb); (try clear hb2); (try clear hk); (try clear hi)))
       go_meet
       case rel => exact ⟨_, ((t240 != 0)), z9, H', ⟨by first | omega | exact Nat.le_refl _⟩, ⟨by (with_reducible repeat (first | refine blk_drewN ?_ _ | refine blk_drew ?_ | refine blk_alloc ?_ _)); exact BK233.out⟩, ⟨Short.hB HB⟩⟩
      ·
       replace c32 := Bool.eq_false_iff.mpr c32
       subst c32
       have H1 : (pred_Check.j0 k l1 false a0_0 a0_1 a0_2 a0_3 a0_4 a0_5) = some r := by rw [if_neg (show ¬ (false = true) by decide)] at H; exact H
       clear H
       have H := H1
       clear H1
       have H' := mk_ H
       clear H
       have hcz40_0 : w4.cell? ⟨gb233, 0, none⟩ = some (.int .i64 a0_0) := (blk_cell BK233.out 0).trans rfl
       have hcz40_1 : w4.cell? ⟨gb233, 1, none⟩ = some (.int .i64 a0_1) := (blk_cell BK233.out 1).trans rfl
       have hcz40_2 : w4.cell? ⟨gb233, 2, none⟩ = some (.int .i64 a0_2) := (blk_cell BK233.out 2).trans rfl
       have hcz40_3 : w4.cell? ⟨gb233, 3, none⟩ = some (.int .i64 a0_3) := (blk_cell BK233.out 3).trans rfl
       have hcz40_4 : w4.cell? ⟨gb233, 4, none⟩ = some (.int .i64 a0_4) := (blk_cell BK233.out 4).trans rfl
       have hcz40_5 : w4.cell? ⟨gb233, 5, none⟩ = some (.string a0_5) := (blk_cell BK233.out 5).trans rfl
       have hfz40_0 := blk_frozen BK233.out 0
       have hfz40_1 := blk_frozen BK233.out 1
       have hfz40_2 := blk_frozen BK233.out 2
       have hfz40_3 := blk_frozen BK233.out 3
       have hfz40_4 := blk_frozen BK233.out 4
       have hfz40_5 := blk_frozen BK233.out 5
       go_wp2_with (first | (go_at_call 65; (with_reducible refine (pred_in.calls a0_1 (l1.length : Int) true _ A9.out).mono ?_); rintro e w' ⟨rfl, ⟨nd, rfl⟩⟩) | (go_at_call 66; (with_reducible refine (pred_other.calls a0_0 a0_1 a0_2 a0_3 a0_4 a0_5 false _ A11.out).mono ?_); rintro e w41 ⟨rfl, hb⟩; have n0_ := mk_ (bB_ BK233 hb); have n1_ := mk_ (below_step (Short.hB HB) hb); clear BK233 HB; revert n0_ n1_; intro BK233 HB; (try clear hb); (try clear hb2); (try clear hk); (try clear hi); have hcz42_0 : w41.cell? ⟨gb233, 0, none⟩ = some (.int .i64 a0_0) := (blk_cell BK233.out 0).trans rfl; have hcz42_1 : w41.cell? ⟨gb233, 1, none⟩ = some (.int .i64 a0_1) := (blk_cell BK233.out 1).trans rfl; have hcz42_2 : w41.cell? ⟨gb233, 2, none⟩ = some (.int .i64 a0_2) := (blk_cell BK233.out 2).trans rfl; have hcz42_3 : w41.cell? ⟨gb233, 3, none⟩ = some (.int .i64 a0_3) := (blk_cell BK233.out 3).trans rfl; have hcz42_4 : w41.cell? ⟨gb233, 4, none⟩ = some (.int .i64 a0_4) := (blk_cell BK233.out 4).trans rfl; have hcz42_5 : w41.cell? ⟨gb233, 5, none⟩ = some (.string a0_5) := (blk_cell BK233.out 5).trans rfl; have hfz42_0 := blk_frozen BK233.out 0; have hfz42_1 := blk_frozen BK233.out 1; have hfz42_2 := blk_frozen BK233.out 2; have hfz42_3 := blk_frozen BK233.out 3; have hfz42_4 := blk_frozen BK233.out 4; have hfz42_5 := blk_frozen BK233.out 5) | (go_at_call 67; (with_reducible refine (pred_given.calls a0_0 a0_1 a0_2 a0_3 a0_4 a0_5 false _ A31.out).mono ?_); rintro e w43 ⟨rfl, hb⟩; have n0_ := mk_ (bB_ BK233 hb); have n1_ := mk_ (below_step (Short.hB HB) hb); clear BK233 HB; revert n0_ n1_; intro BK233 HB; (try clear hb); (try clear hb2); (try clear hk); (try clear hi)))
       go_meet
       case rel => exact ⟨_, (false), z9, H', ⟨by first | omega | exact Nat.le_refl _⟩, ⟨by (with_reducible repeat (first | refine blk_drewN ?_ _ | refine blk_drew ?_ | refine blk_alloc ?_ _)); exact BK233.out⟩, ⟨Short.hB HB⟩⟩
    ·
     replace c10 := Bool.eq_false_iff.mpr c10
     subst c10
     have H1 : (pred_Check.j0 k l1 true a0_0 a0_1 a0_2 a0_3 a0_4 a0_5) = some r := by rw [if_neg (show ¬ (false = true) by decide)] at H; exact H
     clear H
     have H := H1
     clear H1
     have H' := mk_ H
     clear H
     have hcz44_0 : w4.cell? ⟨gb233, 0, none⟩ = some (.int .i64 a0_0) := (blk_cell BK233.out 0).trans rfl
     have hcz44_1 : w4.cell? ⟨gb233, 1, none⟩ = some (.int .i64 a0_1) := (blk_cell BK233.out 1).trans rfl
     have hcz44_2 : w4.cell? ⟨gb233, 2, none⟩ = some (.int .i64 a0_2) := (blk_cell BK233.out 2).trans rfl
     have hcz44_3 : w4.cell? ⟨gb233, 3, none⟩ = some (.int .i64 a0_3) := (blk_cell BK233.out 3).trans rfl
     have hcz44_4 : w4.cell? ⟨gb233, 4, none⟩ = some (.int .i64 a0_4) := (blk_cell BK233.out 4).trans rfl
     have hcz44_5 : w4.cell? ⟨gb233, 5, none⟩ = some (.string a0_5) := (blk_cell BK233.out 5).trans rfl
     have hfz44_0 := blk_frozen BK233.out 0
     have hfz44_1 := blk_frozen BK233.out 1
     have hfz44_2 := blk_frozen BK233.out 2
     have hfz44_3 := blk_frozen BK233.out 3
     have hfz44_4 := blk_frozen BK233.out 4
     have hfz44_5 := blk_frozen BK233.out 5
     go_wp2_with (first | (go_at_call 65; (with_reducible refine (pred_in.calls a0_1 (l1.length : Int) false _ A9.out).mono ?_); rintro e w' ⟨rfl, ⟨nd, rfl⟩⟩))
     go_meet
     case rel => exact ⟨_, (true), z9, H', ⟨by first | omega | exact Nat.le_refl _⟩, ⟨by (with_reducible repeat (first | refine blk_drewN ?_ _ | refine blk_drew ?_ | refine blk_alloc ?_ _)); exact BK233.out⟩, ⟨Short.hB HB⟩⟩
 case rest => as_aux_lemma =>
  clear HC3
  try clear c1
  try clear p2
  try clear c3
  try clear c5
  try clear c5b0
  try clear c7
  try clear c7b0
  try clear c10
  try clear c12
  try clear c14
  try clear c16
  try clear c32
  try clear hcz18_0
  try clear hcz18_1
  try clear hcz18_2
  try clear hcz18_3
  try clear hcz18_4
  try clear hcz18_5
  try clear hcz20_0
  try clear hcz20_1
  try clear hcz20_2
  try clear hcz20_3
  try clear hcz20_4
  try clear hcz20_5
  try clear hcz22_0
  try clear hcz22_1
  try clear hcz22_2
  try clear hcz22_3
  try clear hcz22_4
  try clear hcz22_5
  try clear hcz24_0
  try clear hcz24_1
  try clear hcz24_2
  try clear hcz24_3
  try clear hcz24_4
  try clear hcz24_5
  try clear hcz26_0
  try clear hcz26_1
  try clear hcz26_2
  try clear hcz26_3
  try clear hcz26_4
  try clear hcz26_5
  try clear hcz28_0
  try clear hcz28_1
  try clear hcz28_2
  try clear hcz28_3
  try clear hcz28_4
  try clear hcz28_5
  try clear hcz30_0
  try clear hcz30_1
  try clear hcz30_2
  try clear hcz30_3
  try clear hcz30_4
  try clear hcz30_5
  try clear hcz34_0
  try clear hcz34_1
  try clear hcz34_2
  try clear hcz34_3
  try clear hcz34_4
  try clear hcz34_5
  try clear hcz36_0
  try clear hcz36_1
  try clear hcz36_2
  try clear hcz36_3
  try clear hcz36_4
  try clear hcz36_5
  try clear hcz38_0
  try clear hcz38_1
  try clear hcz38_2
  try clear hcz38_3
  try clear hcz38_4
  try clear hcz38_5
  try clear hcz40_0
  try clear hcz40_1
  try clear hcz40_2
  try clear hcz40_3
  try clear hcz40_4
  try clear hcz40_5
  try clear hcz42_0
  try clear hcz42_1
  try clear hcz42_2
  try clear hcz42_3
  try clear hcz42_4
  try clear hcz42_5
  try clear hcz44_0
  try clear hcz44_1
  try clear hcz44_2
  try clear hcz44_3
  try clear hcz44_4
  try clear hcz44_5
  try clear hcz6_0
  try clear hcz6_1
  try clear hcz6_2
  try clear hcz6_3
  try clear hcz6_4
  try clear hcz6_5
  try clear hcz8_0
  try clear hcz8_1
  try clear hcz8_2
  try clear hcz8_3
  try clear hcz8_4
  try clear hcz8_5
  try clear hfz18_0
  try clear hfz18_1
  try clear hfz18_2
  try clear hfz18_3
  try clear hfz18_4
  try clear hfz18_5
  try clear hfz20_0
  try clear hfz20_1
  try clear hfz20_2
  try clear hfz20_3
  try clear hfz20_4
  try clear hfz20_5
  try clear hfz22_0
  try clear hfz22_1
  try clear hfz22_2
  try clear hfz22_3
  try clear hfz22_4
  try clear hfz22_5
  try clear hfz24_0
  try clear hfz24_1
  try clear hfz24_2
  try clear hfz24_3
  try clear hfz24_4
  try clear hfz24_5
  try clear hfz26_0
  try clear hfz26_1
  try clear hfz26_2
  try clear hfz26_3
  try clear hfz26_4
  try clear hfz26_5
  try clear hfz28_0
  try clear hfz28_1
  try clear hfz28_2
  try clear hfz28_3
  try clear hfz28_4
  try clear hfz28_5
  try clear hfz30_0
  try clear hfz30_1
  try clear hfz30_2
  try clear hfz30_3
  try clear hfz30_4
  try clear hfz30_5
  try clear hfz34_0
  try clear hfz34_1
  try clear hfz34_2
  try clear hfz34_3
  try clear hfz34_4
  try clear hfz34_5
  try clear hfz36_0
  try clear hfz36_1
  try clear hfz36_2
  try clear hfz36_3
  try clear hfz36_4
  try clear hfz36_5
  try clear hfz38_0
  try clear hfz38_1
  try clear hfz38_2
  try clear hfz38_3
  try clear hfz38_4
  try clear hfz38_5
  try clear hfz40_0
  try clear hfz40_1
  try clear hfz40_2
  try clear hfz40_3
  try clear hfz40_4
  try clear hfz40_5
  try clear hfz42_0
  try clear hfz42_1
  try clear hfz42_2
  try clear hfz42_3
  try clear hfz42_4
  try clear hfz42_5
  try clear hfz44_0
  try clear hfz44_1
  try clear hfz44_2
  try clear hfz44_3
  try clear hfz44_4
  try clear hfz44_5
  try clear hfz6_0
  try clear hfz6_1
  try clear hfz6_2
  try clear hfz6_3
  try clear hfz6_4
  try clear hfz6_5
  try clear hfz8_0
  try clear hfz8_1
  try clear hfz8_2
  try clear hfz8_3
  try clear hfz8_4
  try clear hfz8_5
  obtain ⟨kq, x8_2, rfl, HA, HJ2, BK233, HB⟩ := hcut
  cases kq with
  | zero => exact absurd HA.out (by simp [pred_Check.j0])
  | succ kj2 =>
   have H := HA.out
   clear HA
   simp only [pred_Check.j0] at H
   by_cases c45 : x8_2 = true
   ·
    subst c45
    have H1 : (some 1) = some r := by rw [if_pos rfl] at H; exact H
    clear H
    have H := H1
    clear H1
    obtain rfl := Option.some.inj H
    go_wp2
    go_ret
    exact ⟨by first | rfl | (simp [errW_none, errW_some] <;> rfl) | (simp [*, errW_none, errW_some] <;> rfl), Short.hB HB⟩
   ·
    replace c45 := Bool.eq_false_iff.mpr c45
    subst c45
    have H1 : ((pred_given.f a0_0 a0_1 a0_2 a0_3 a0_4 a0_5).bind fun t241 => (if t241 = true then (if 0 ≤ a0_1 then (if a0_1 < (l1.length : Int) then ((value_Fits.f a0_3 a0_4 a0_5 (rd l1 a0_1)).bind fun t243 => (if t243 = true then ((pred_other.f a0_0 a0_1 a0_2 a0_3 a0_4 a0_5).bind fun t244 => (if t244 = true then (if 0 ≤ a0_2 then (if a0_2 < (l1.length : Int) then (if (rd l1 a0_2) = (rd l1 a0_1) then (some 0) else (some 10)) else (none)) else (none)) else (some 0))) else (some 10))) else (none)) else (none)) else ((pred_other.f a0_0 a0_1 a0_2 a0_3 a0_4 a0_5).bind fun t247 => (if t247 = true then (if 0 ≤ a0_2 then (if a0_2 < (l1.length : Int) then (if 0 ≤ a0_1 then (if a0_1 < (l1.length : Int) then (if (rd l1 a0_2) = (rd l1 a0_1) then (some 0) else (some 10)) else (none)) else (none)) else (none)) else (none)) else (some 0))))) = some r := by rw [if_neg (show ¬ (false = true) by decide)] at H; exact H
    clear H
    have H := H1
    clear H1
    replace H := Option.bind_eq_some_iff.mp H
    obtain ⟨t241, A460, H⟩ := H
    replace H : (if t241 = true then (if 0 ≤ a0_1 then (if a0_1 < (l1.length : Int) then ((value_Fits.f a0_3 a0_4 a0_5 (rd l1 a0_1)).bind fun t243 => (if t243 = true then ((pred_other.f a0_0 a0_1 a0_2 a0_3 a0_4 a0_5).bind fun t244 => (if t244 = true then (if 0 ≤ a0_2 then (if a0_2 < (l1.length : Int) then (if (rd l1 a0_2) = (rd l1 a0_1) then (some 0) else (some 10)) else (none)) else (none)) else (some 0))) else (some 10))) else (none)) else (none)) else ((pred_other.f a0_0 a0_1 a0_2 a0_3 a0_4 a0_5).bind fun t247 => (if t247 = true then (if 0 ≤ a0_2 then (if a0_2 < (l1.length : Int) then (if 0 ≤ a0_1 then (if a0_1 < (l1.length : Int) then (if (rd l1 a0_2) = (rd l1 a0_1) then (some 0) else (some 10)) else (none)) else (none)) else (none)) else (none)) else (some 0)))) = some r := H
    have A46 := mk_ A460
    clear A460
    by_cases c47 : t241 = true
    ·
     subst c47
     have H1 : (if 0 ≤ a0_1 then (if a0_1 < (l1.length : Int) then ((value_Fits.f a0_3 a0_4 a0_5 (rd l1 a0_1)).bind fun t243 => (if t243 = true then ((pred_other.f a0_0 a0_1 a0_2 a0_3 a0_4 a0_5).bind fun t244 => (if t244 = true then (if 0 ≤ a0_2 then (if a0_2 < (l1.length : Int) then (if (rd l1 a0_2) = (rd l1 a0_1) then (some 0) else (some 10)) else (none)) else (none)) else (some 0))) else (some 10))) else (none)) else (none)) = some r := by rw [if_pos rfl] at H; exact H
     clear H
     have H := H1
     clear H1
     by_cases c48 : 0 ≤ a0_1
     ·
      rw [if_pos c48] at H
      have c48b0 : decide (0 ≤ a0_1) = true := decide_eq_true c48
      clear c48
      by_cases c49 : a0_1 < (l1.length : Int)
      ·
       rw [if_pos c49] at H
       have c49b0 : decide (a0_1 < (l1.length : Int)) = true := decide_eq_true c49
       clear c49
       replace H := Option.bind_eq_some_iff.mp H
       obtain ⟨t243, A500, H⟩ := H
       replace H : (if t243 = true then ((pred_other.f a0_0 a0_1 a0_2 a0_3 a0_4 a0_5).bind fun t244 => (if t244 = true then (if 0 ≤ a0_2 then (if a0_2 < (l1.length : Int) then (if (rd l1 a0_2) = (rd l1 a0_1) then (some 0) else (some 10)) else (none)) else (none)) else (some 0))) else (some 10)) = some r := H
       have A50 := mk_ A500
       clear A500
       by_cases c51 : t243 = true
       ·
        subst c51
        have H1 : ((pred_other.f a0_0 a0_1 a0_2 a0_3 a0_4 a0_5).bind fun t244 => (if t244 = true then (if 0 ≤ a0_2 then (if a0_2 < (l1.length : Int) then (if (rd l1 a0_2) = (rd l1 a0_1) then (some 0) else (some 10)) else (none)) else (none)) else (some 0))) = some r := by rw [if_pos rfl] at H; exact H
        clear H
        have H := H1
        clear H1
        replace H := Option.bind_eq_some_iff.mp H
        obtain ⟨t244, A520, H⟩ := H
        replace H : (if t244 = true then (if 0 ≤ a0_2 then (if a0_2 < (l1.length : Int) then (if (rd l1 a0_2) = (rd l1 a0_1) then (some 0) else (some 10)) else (none)) else (none)) else (some 0)) = some r := H
        have A52 := mk_ A520
        clear A520
        by_cases c53 : t244 = true
        ·
         subst c53
         have H1 : (if 0 ≤ a0_2 then (if a0_2 < (l1.length : Int) then (if (rd l1 a0_2) = (rd l1 a0_1) then (some 0) else (some 10)) else (none)) else (none)) = some r := by rw [if_pos rfl] at H; exact H
         clear H
         have H := H1
         clear H1
         by_cases c54 : 0 ≤ a0_2
         ·
          rw [if_pos c54] at H
          have c54b0 : decide (0 ≤ a0_2) = true := decide_eq_true c54
          clear c54
          by_cases c55 : a0_2 < (l1.length : Int)
          ·
           rw [if_pos c55] at H
           have c55b0 : decide (a0_2 < (l1.length : Int)) = true := decide_eq_true c55
           clear c55
           by_cases c56 : (rd l1 a0_2) = (rd l1 a0_1)
           ·
            rw [if_pos c56] at H
            have c56b0 : ((rd l1 a0_2) == (rd l1 a0_1)) = true := beq_iff_eq.mpr c56
            have c56b1 : ((rd l1 a0_2) != (rd l1 a0_1)) = false := bne_eq_false_iff_eq.mpr c56
            clear c56
            obtain rfl := Option.some.inj H
            try go_wp2
            have n0_ := mk_ (blk_drew BK233.out)
            have n1_ := mk_ (below_drew1 HB.out)
            clear BK233 HB
            revert n0_ n1_
            intro BK233 HB
            have p242 : 0 ≤ (a0_1 : Int) := of_decide_eq_true z4
            have q242 : a0_1 < (l1.length : Int) := of_decide_eq_true z4
            obtain ⟨ad242, e242, hx242_0⟩ := Kd.at_int HR1.out a0_1 p242 q242
            have hw242_0 := hx242_0
            cases e242
            replace hx242_0 := (HB.out.cell (World.block_lt_of_cell? w _ hx242_0)).trans hx242_0
            replace p242 := eq_true p242
            replace q242 := eq_true q242
            have p245 : 0 ≤ (a0_2 : Int) := of_decide_eq_true z4
            have q245 : a0_2 < (l1.length : Int) := of_decide_eq_true z4
            obtain ⟨ad245, e245, hx245_0⟩ := Kd.at_int HR1.out a0_2 p245 q245
            have hw245_0 := hx245_0
            obtain rfl : ad242 = ad245 := (by injection e245)
            replace hx245_0 := (HB.out.cell (World.block_lt_of_cell? w _ hx245_0)).trans hx245_0
            replace p245 := eq_true p245
            replace q245 := eq_true q245
            have p246 : 0 ≤ (a0_1 : Int) := of_decide_eq_true z4
            have q246 : a0_1 < (l1.length : Int) := of_decide_eq_true z4
            obtain ⟨ad246, e246, hx246_0⟩ := Kd.at_int HR1.out a0_1 p246 q246
            have hw246_0 := hx246_0
            obtain rfl : ad242 = ad246 := (by injection e246)
            replace hx246_0 := (HB.out.cell (World.block_lt_of_cell? w _ hx246_0)).trans hx246_0
            replace p246 := eq_true p246
            replace q246 := eq_true q246
            refine start_ (n := 31) (S := fun w' => w'.cell? ⟨gb233, 0, none⟩ = some (.int .i64 a0_0) ∧ w'.cell? ⟨gb233, 1, none⟩ = some (.int .i64 a0_1) ∧ w'.cell? ⟨gb233, 2, none⟩ = some (.int .i64 a0_2) ∧ w'.cell? ⟨gb233, 3, none⟩ = some (.int .i64 a0_3) ∧ w'.cell? ⟨gb233, 4, none⟩ = some (.int .i64 a0_4) ∧ w'.cell? ⟨gb233, 5, none⟩ = some (.string a0_5) ∧ w'.cell? (ad242.add (a0_1).toNat) = some (.int .i64 (rd l1 a0_1)) ∧ w'.cell? (ad242.add (a0_2).toNat) = some (.int .i64 (rd l1 a0_2)) ∧ w'.cell? (ad242.add (a0_1).toNat) = some (.int .i64 (rd l1 a0_1))) (ds := []) (Steps.Bs 31 0) z1 rfl rfl ⟨(blk_cell BK233.out 0).trans rfl, (blk_cell BK233.out 1).trans rfl, (blk_cell BK233.out 2).trans rfl, (blk_cell BK233.out 3).trans rfl, (blk_cell BK233.out 4).trans rfl, (blk_cell BK233.out 5).trans rfl, ((HB.out.cell (World.block_lt_of_cell? w _ hw242_0)).trans hw242_0), ((HB.out.cell (World.block_lt_of_cell? w _ hw245_0)).trans hw245_0), ((HB.out.cell (World.block_lt_of_cell? w _ hw246_0)).trans hw246_0)⟩ (fun hHeld => ?_); refine with_tabW pred_Check.tab4 pred_Check.bits4 (fun HT_ HW_ => ?_)
            generalize wc.drew = w57 at BK233 HB hx242_0 hx245_0 hx246_0 hHeld ⊢
            refine Steps.tI_ 0 (some 46) (Steps.Bs 31 1) (take_ofW HT_.out HW_.out z1) hHeld (h := ?_)
            refine one_ (i := 1) (N := some 47) (Steps.Bs 31 3) rfl rfl (one_of HT_.out z1) z10 (fun K hK => ?_)
            refine goes_ Try.func67 z1 rfl #[.agg #[.int .i64 a0_0, .int .i64 a0_1, .int .i64 a0_2, .int .i64 a0_3, .int .i64 a0_4, .string a0_5]] z12 rfl rfl z6 ?_
            with_reducible refine (pred_given.calls a0_0 a0_1 a0_2 a0_3 a0_4 a0_5 true _ A46.out).mono ?_
            rintro e w58 ⟨rfl, hb⟩
            refine ⟨_, rfl, ?_⟩
            have n0_ := mk_ (bB_ BK233 hb)
            have n1_ := mk_ (below_step (Short.hB HB) hb)
            clear BK233 HB
            revert n0_ n1_
            intro BK233 HB
            (try clear hb)
            (try clear hb2)
            (try clear hk)
            (try clear hi)
            refine hK.out _ _ ⟨(blk_cell BK233.out 0).trans rfl, (blk_cell BK233.out 1).trans rfl, (blk_cell BK233.out 2).trans rfl, (blk_cell BK233.out 3).trans rfl, (blk_cell BK233.out 4).trans rfl, (blk_cell BK233.out 5).trans rfl, ((HB.out.cell (World.block_lt_of_cell? w _ hw242_0)).trans hw242_0), ((HB.out.cell (World.block_lt_of_cell? w _ hw245_0)).trans hw245_0), ((HB.out.cell (World.block_lt_of_cell? w _ hw246_0)).trans hw246_0)⟩ (fun hHeld => ?_)
            clear hK K
            refine norm_ (a' := ?_) ?_ ?_
            rotate_left
            ·
             show Act.put _ (some 47) _ = _
             simp only [Act.put, List.setIfInBounds_toArray, List.set_cons_zero, List.set_cons_succ, i64_w, i32_w]
             rfl
            refine Steps.pI_ 2 (some 48) (Steps.Bs 31 7) (any_of HT_.out z1) (h := ?_)
            refine Steps.pI_ 3 (some 49) (Steps.Bs 31 15) (any_of HT_.out z1) (h := ?_)
            refine Steps.pI_ 5 (some 51) (Steps.Bs 31 47) (any_of HT_.out z1) (h := ?_)
            refine Steps.pI_ 6 (some 52) (Steps.Bs 31 111) (any_of HT_.out z1) (h := ?_)
            refine Steps.tI_ 4 (some 50) (Steps.Bs 31 127) (take_ofW HT_.out HW_.out z1) hHeld (h := ?_)
            refine Steps.tI_ 7 (some 53) (Steps.Bs 31 255) (take_ofW HT_.out HW_.out z1) hHeld (h := ?_)
            refine Steps.pI_ 8 (some 54) (Steps.Bs 31 511) (any_of HT_.out z1) (h := ?_)
            refine Steps.tI_ 9 (some 55) (Steps.Bs 31 1023) (take_ofW HT_.out HW_.out z1) hHeld (h := ?_)
            refine one_ (i := 10) (N := some 56) (Steps.Bs 31 2047) rfl rfl (one_of HT_.out z1) z10 (fun K hK => ?_)
            refine goes_ Try.func69 z1 rfl #[.agg #[.int .i64 a0_3, .int .i64 a0_4, .string a0_5], .int .i64 (rd l1 a0_1)] z12 rfl rfl z6 ?_
            with_reducible refine (value_Fits.calls a0_3 a0_4 a0_5 (rd l1 a0_1) true _ A50.out).mono ?_
            rintro e w59 ⟨rfl, hb⟩
            refine ⟨_, rfl, ?_⟩
            have n0_ := mk_ (bB_ BK233 hb)
            have n1_ := mk_ (below_step (Short.hB HB) hb)
            clear BK233 HB
            revert n0_ n1_
            intro BK233 HB
            (try clear hb)
            (try clear hb2)
            (try clear hk)
            (try clear hi)
            refine hK.out _ _ ⟨(blk_cell BK233.out 0).trans rfl, (blk_cell BK233.out 1).trans rfl, (blk_cell BK233.out 2).trans rfl, (blk_cell BK233.out 3).trans rfl, (blk_cell BK233.out 4).trans rfl, (blk_cell BK233.out 5).trans rfl, ((HB.out.cell (World.block_lt_of_cell? w _ hw242_0)).trans hw242_0), ((HB.out.cell (World.block_lt_of_cell? w _ hw245_0)).trans hw245_0), ((HB.out.cell (World.block_lt_of_cell? w _ hw246_0)).trans hw246_0)⟩ (fun hHeld => ?_)
            clear hK K
            refine norm_ (a' := ?_) ?_ ?_
            rotate_left
            ·
             show Act.put _ (some 56) _ = _
             simp only [Act.put, List.setIfInBounds_toArray, List.set_cons_zero, List.set_cons_succ, i64_w, i32_w]
             rfl
            refine Steps.pI_ 11 (some 57) (Steps.Bs 31 4095) (any_of HT_.out z1) (h := ?_)
            refine Steps.pI_ 12 (some 58) (Steps.Bs 31 8191) (any_of HT_.out z1) (h := ?_)
            refine Steps.pI_ 13 (some 59) (Steps.Bs 31 16383) (any_of HT_.out z1) (h := ?_)
            refine Steps.tI_ 14 (some 60) (Steps.Bs 31 32767) (take_ofW HT_.out HW_.out z1) hHeld (h := ?_)
            refine one_ (i := 15) (N := some 61) (Steps.Bs 31 65535) rfl rfl (one_of HT_.out z1) z10 (fun K hK => ?_)
            refine goes_ Try.func66 z1 rfl #[.agg #[.int .i64 a0_0, .int .i64 a0_1, .int .i64 a0_2, .int .i64 a0_3, .int .i64 a0_4, .string a0_5]] z12 rfl rfl z6 ?_
            with_reducible refine (pred_other.calls a0_0 a0_1 a0_2 a0_3 a0_4 a0_5 true _ A52.out).mono ?_
            rintro e w60 ⟨rfl, hb⟩
            refine ⟨_, rfl, ?_⟩
            have n0_ := mk_ (bB_ BK233 hb)
            have n1_ := mk_ (below_step (Short.hB HB) hb)
            clear BK233 HB
            revert n0_ n1_
            intro BK233 HB
            (try clear hb)
            (try clear hb2)
            (try clear hk)
            (try clear hi)
            refine hK.out _ _ ⟨(blk_cell BK233.out 0).trans rfl, (blk_cell BK233.out 1).trans rfl, (blk_cell BK233.out 2).trans rfl, (blk_cell BK233.out 3).trans rfl, (blk_cell BK233.out 4).trans rfl, (blk_cell BK233.out 5).trans rfl, ((HB.out.cell (World.block_lt_of_cell? w _ hw242_0)).trans hw242_0), ((HB.out.cell (World.block_lt_of_cell? w _ hw245_0)).trans hw245_0), ((HB.out.cell (World.block_lt_of_cell? w _ hw246_0)).trans hw246_0)⟩ (fun hHeld => ?_)
            clear hK K
            refine norm_ (a' := ?_) ?_ ?_
            rotate_left
            ·
             show Act.put _ (some 61) _ = _
             simp only [Act.put, List.setIfInBounds_toArray, List.set_cons_zero, List.set_cons_succ, i64_w, i32_w]
             rfl
            refine Steps.pI_ 16 (some 62) (Steps.Bs 31 131071) (any_of HT_.out z1) (h := ?_)
            refine Steps.pI_ 17 (some 63) (Steps.Bs 31 262143) (any_of HT_.out z1) (h := ?_)
            refine Steps.pI_ 18 (some 64) (Steps.Bs 31 524287) (any_of HT_.out z1) (h := ?_)
            refine Steps.pI_ 22 (some 68) (Steps.Bs 31 4718591) (any_of HT_.out z1) (h := ?_)
            refine Steps.pI_ 23 (some 69) (Steps.Bs 31 13107199) (any_of HT_.out z1) (h := ?_)
            refine Steps.tI_ 19 (some 65) (Steps.Bs 31 13631487) (take_ofW HT_.out HW_.out z1) hHeld (h := ?_)
            refine Steps.pI_ 20 (some 66) (Steps.Bs 31 14680063) (any_of HT_.out z1) (h := ?_)
            refine Steps.tI_ 21 (some 67) (Steps.Bs 31 16777215) (take_ofW HT_.out HW_.out z1) hHeld (h := ?_)
            refine Steps.tI_ 24 (some 70) (Steps.Bs 31 33554431) (take_ofW HT_.out HW_.out z1) hHeld (h := ?_)
            refine Steps.pI_ 25 (some 71) (Steps.Bs 31 67108863) (any_of HT_.out z1) (h := ?_)
            refine Steps.tI_ 26 (some 72) (Steps.Bs 31 134217727) (take_ofW HT_.out HW_.out z1) hHeld (h := ?_)
            refine Steps.pI_ 27 (some 73) (Steps.Bs 31 268435455) (any_of HT_.out z1) (h := ?_)
            refine Steps.pI_ 28 (some 74) (Steps.Bs 31 536870911) (any_of HT_.out z1) (h := ?_)
            refine Steps.pI_ 29 (some 75) (Steps.Bs 31 1073741823) (any_of HT_.out z1) (h := ?_)
            refine Steps.pI_ 30 (some 45) (Steps.Bs 31 2147483647) (any_of HT_.out z1) (h := ?_)
            refine done_ (done_of HT_.out z1) ?_
            try go_wp2
            go_ret
            exact ⟨by first | rfl | (simp [errW_none, errW_some] <;> rfl) | (simp [*, errW_none, errW_some] <;> rfl), Short.hB HB⟩
           ·
            rw [if_neg c56] at H
            have c56b0 : ((rd l1 a0_2) == (rd l1 a0_1)) = false := beq_eq_false_iff_ne.mpr c56
            have c56b1 : ((rd l1 a0_2) != (rd l1 a0_1)) = true := bne_iff_ne.mpr c56
            obtain rfl := Option.some.inj H
            try go_wp2
            have n0_ := mk_ (blk_drew BK233.out)
            have n1_ := mk_ (below_drew1 HB.out)
            clear BK233 HB
            revert n0_ n1_
            intro BK233 HB
            have p242 : 0 ≤ (a0_1 : Int) := of_decide_eq_true z4
            have q242 : a0_1 < (l1.length : Int) := of_decide_eq_true z4
            obtain ⟨ad242, e242, hx242_0⟩ := Kd.at_int HR1.out a0_1 p242 q242
            have hw242_0 := hx242_0
            cases e242
            replace hx242_0 := (HB.out.cell (World.block_lt_of_cell? w _ hx242_0)).trans hx242_0
            replace p242 := eq_true p242
            replace q242 := eq_true q242
            have p245 : 0 ≤ (a0_2 : Int) := of_decide_eq_true z4
            have q245 : a0_2 < (l1.length : Int) := of_decide_eq_true z4
            obtain ⟨ad245, e245, hx245_0⟩ := Kd.at_int HR1.out a0_2 p245 q245
            have hw245_0 := hx245_0
            obtain rfl : ad242 = ad245 := (by injection e245)
            replace hx245_0 := (HB.out.cell (World.block_lt_of_cell? w _ hx245_0)).trans hx245_0
            replace p245 := eq_true p245
            replace q245 := eq_true q245
            have p246 : 0 ≤ (a0_1 : Int) := of_decide_eq_true z4
            have q246 : a0_1 < (l1.length : Int) := of_decide_eq_true z4
            obtain ⟨ad246, e246, hx246_0⟩ := Kd.at_int HR1.out a0_1 p246 q246
            have hw246_0 := hx246_0
            obtain rfl : ad242 = ad246 := (by injection e246)
            replace hx246_0 := (HB.out.cell (World.block_lt_of_cell? w _ hx246_0)).trans hx246_0
            replace p246 := eq_true p246
            replace q246 := eq_true q246
            refine start_ (n := 31) (S := fun w' => w'.cell? ⟨gb233, 0, none⟩ = some (.int .i64 a0_0) ∧ w'.cell? ⟨gb233, 1, none⟩ = some (.int .i64 a0_1) ∧ w'.cell? ⟨gb233, 2, none⟩ = some (.int .i64 a0_2) ∧ w'.cell? ⟨gb233, 3, none⟩ = some (.int .i64 a0_3) ∧ w'.cell? ⟨gb233, 4, none⟩ = some (.int .i64 a0_4) ∧ w'.cell? ⟨gb233, 5, none⟩ = some (.string a0_5) ∧ w'.cell? (ad242.add (a0_1).toNat) = some (.int .i64 (rd l1 a0_1)) ∧ w'.cell? (ad242.add (a0_2).toNat) = some (.int .i64 (rd l1 a0_2)) ∧ w'.cell? (ad242.add (a0_1).toNat) = some (.int .i64 (rd l1 a0_1))) (ds := []) (Steps.Bs 31 0) z1 rfl rfl ⟨(blk_cell BK233.out 0).trans rfl, (blk_cell BK233.out 1).trans rfl, (blk_cell BK233.out 2).trans rfl, (blk_cell BK233.out 3).trans rfl, (blk_cell BK233.out 4).trans rfl, (blk_cell BK233.out 5).trans rfl, ((HB.out.cell (World.block_lt_of_cell? w _ hw242_0)).trans hw242_0), ((HB.out.cell (World.block_lt_of_cell? w _ hw245_0)).trans hw245_0), ((HB.out.cell (World.block_lt_of_cell? w _ hw246_0)).trans hw246_0)⟩ (fun hHeld => ?_); refine with_tabW pred_Check.tab4 pred_Check.bits4 (fun HT_ HW_ => ?_)
            generalize wc.drew = w61 at BK233 HB hx242_0 hx245_0 hx246_0 hHeld ⊢
            refine Steps.tI_ 0 (some 46) (Steps.Bs 31 1) (take_ofW HT_.out HW_.out z1) hHeld (h := ?_)
            refine one_ (i := 1) (N := some 47) (Steps.Bs 31 3) rfl rfl (one_of HT_.out z1) z10 (fun K hK => ?_)
            refine goes_ Try.func67 z1 rfl #[.agg #[.int .i64 a0_0, .int .i64 a0_1, .int .i64 a0_2, .int .i64 a0_3, .int .i64 a0_4, .string a0_5]] z12 rfl rfl z6 ?_
            with_reducible refine (pred_given.calls a0_0 a0_1 a0_2 a0_3 a0_4 a0_5 true _ A46.out).mono ?_
            rintro e w62 ⟨rfl, hb⟩
            refine ⟨_, rfl, ?_⟩
            have n0_ := mk_ (bB_ BK233 hb)
            have n1_ := mk_ (below_step (Short.hB HB) hb)
            clear BK233 HB
            revert n0_ n1_
            intro BK233 HB
            (try clear hb)
            (try clear hb2)
            (try clear hk)
            (try clear hi)
            refine hK.out _ _ ⟨(blk_cell BK233.out 0).trans rfl, (blk_cell BK233.out 1).trans rfl, (blk_cell BK233.out 2).trans rfl, (blk_cell BK233.out 3).trans rfl, (blk_cell BK233.out 4).trans rfl, (blk_cell BK233.out 5).trans rfl, ((HB.out.cell (World.block_lt_of_cell? w _ hw242_0)).trans hw242_0), ((HB.out.cell (World.block_lt_of_cell? w _ hw245_0)).trans hw245_0), ((HB.out.cell (World.block_lt_of_cell? w _ hw246_0)).trans hw246_0)⟩ (fun hHeld => ?_)
            clear hK K
            refine norm_ (a' := ?_) ?_ ?_
            rotate_left
            ·
             show Act.put _ (some 47) _ = _
             simp only [Act.put, List.setIfInBounds_toArray, List.set_cons_zero, List.set_cons_succ, i64_w, i32_w]
             rfl
            refine Steps.pI_ 2 (some 48) (Steps.Bs 31 7) (any_of HT_.out z1) (h := ?_)
            refine Steps.pI_ 3 (some 49) (Steps.Bs 31 15) (any_of HT_.out z1) (h := ?_)
            refine Steps.pI_ 5 (some 51) (Steps.Bs 31 47) (any_of HT_.out z1) (h := ?_)
            refine Steps.pI_ 6 (some 52) (Steps.Bs 31 111) (any_of HT_.out z1) (h := ?_)
            refine Steps.tI_ 4 (some 50) (Steps.Bs 31 127) (take_ofW HT_.out HW_.out z1) hHeld (h := ?_)
            refine Steps.tI_ 7 (some 53) (Steps.Bs 31 255) (take_ofW HT_.out HW_.out z1) hHeld (h := ?_)
            refine Steps.pI_ 8 (some 54) (Steps.Bs 31 511) (any_of HT_.out z1) (h := ?_)
            refine Steps.tI_ 9 (some 55) (Steps.Bs 31 1023) (take_ofW HT_.out HW_.out z1) hHeld (h := ?_)
            refine one_ (i := 10) (N := some 56) (Steps.Bs 31 2047) rfl rfl (one_of HT_.out z1) z10 (fun K hK => ?_)
            refine goes_ Try.func69 z1 rfl #[.agg #[.int .i64 a0_3, .int .i64 a0_4, .string a0_5], .int .i64 (rd l1 a0_1)] z12 rfl rfl z6 ?_
            with_reducible refine (value_Fits.calls a0_3 a0_4 a0_5 (rd l1 a0_1) true _ A50.out).mono ?_
            rintro e w63 ⟨rfl, hb⟩
            refine ⟨_, rfl, ?_⟩
            have n0_ := mk_ (bB_ BK233 hb)
            have n1_ := mk_ (below_step (Short.hB HB) hb)
            clear BK233 HB
            revert n0_ n1_
            intro BK233 HB
            (try clear hb)
            (try clear hb2)
            (try clear hk)
            (try clear hi)
            refine hK.out _ _ ⟨(blk_cell BK233.out 0).trans rfl, (blk_cell BK233.out 1).trans rfl, (blk_cell BK233.out 2).trans rfl, (blk_cell BK233.out 3).trans rfl, (blk_cell BK233.out 4).trans rfl, (blk_cell BK233.out 5).trans rfl, ((HB.out.cell (World.block_lt_of_cell? w _ hw242_0)).trans hw242_0), ((HB.out.cell (World.block_lt_of_cell? w _ hw245_0)).trans hw245_0), ((HB.out.cell (World.block_lt_of_cell? w _ hw246_0)).trans hw246_0)⟩ (fun hHeld => ?_)
            clear hK K
            refine norm_ (a' := ?_) ?_ ?_
            rotate_left
            ·
             show Act.put _ (some 56) _ = _
             simp only [Act.put, List.setIfInBounds_toArray, List.set_cons_zero, List.set_cons_succ, i64_w, i32_w]
             rfl
            refine Steps.pI_ 11 (some 57) (Steps.Bs 31 4095) (any_of HT_.out z1) (h := ?_)
            refine Steps.pI_ 12 (some 58) (Steps.Bs 31 8191) (any_of HT_.out z1) (h := ?_)
            refine Steps.pI_ 13 (some 59) (Steps.Bs 31 16383) (any_of HT_.out z1) (h := ?_)
            refine Steps.tI_ 14 (some 60) (Steps.Bs 31 32767) (take_ofW HT_.out HW_.out z1) hHeld (h := ?_)
            refine one_ (i := 15) (N := some 61) (Steps.Bs 31 65535) rfl rfl (one_of HT_.out z1) z10 (fun K hK => ?_)
            refine goes_ Try.func66 z1 rfl #[.agg #[.int .i64 a0_0, .int .i64 a0_1, .int .i64 a0_2, .int .i64 a0_3, .int .i64 a0_4, .string a0_5]] z12 rfl rfl z6 ?_
            with_reducible refine (pred_other.calls a0_0 a0_1 a0_2 a0_3 a0_4 a0_5 true _ A52.out).mono ?_
            rintro e w64 ⟨rfl, hb⟩
            refine ⟨_, rfl, ?_⟩
            have n0_ := mk_ (bB_ BK233 hb)
            have n1_ := mk_ (below_step (Short.hB HB) hb)
            clear BK233 HB
            revert n0_ n1_
            intro BK233 HB
            (try clear hb)
            (try clear hb2)
            (try clear hk)
            (try clear hi)
            refine hK.out _ _ ⟨(blk_cell BK233.out 0).trans rfl, (blk_cell BK233.out 1).trans rfl, (blk_cell BK233.out 2).trans rfl, (blk_cell BK233.out 3).trans rfl, (blk_cell BK233.out 4).trans rfl, (blk_cell BK233.out 5).trans rfl, ((HB.out.cell (World.block_lt_of_cell? w _ hw242_0)).trans hw242_0), ((HB.out.cell (World.block_lt_of_cell? w _ hw245_0)).trans hw245_0), ((HB.out.cell (World.block_lt_of_cell? w _ hw246_0)).trans hw246_0)⟩ (fun hHeld => ?_)
            clear hK K
            refine norm_ (a' := ?_) ?_ ?_
            rotate_left
            ·
             show Act.put _ (some 61) _ = _
             simp only [Act.put, List.setIfInBounds_toArray, List.set_cons_zero, List.set_cons_succ, i64_w, i32_w]
             rfl
            refine Steps.pI_ 16 (some 62) (Steps.Bs 31 131071) (any_of HT_.out z1) (h := ?_)
            refine Steps.pI_ 17 (some 63) (Steps.Bs 31 262143) (any_of HT_.out z1) (h := ?_)
            refine Steps.pI_ 18 (some 64) (Steps.Bs 31 524287) (any_of HT_.out z1) (h := ?_)
            refine Steps.pI_ 22 (some 68) (Steps.Bs 31 4718591) (any_of HT_.out z1) (h := ?_)
            refine Steps.pI_ 23 (some 69) (Steps.Bs 31 13107199) (any_of HT_.out z1) (h := ?_)
            refine Steps.tI_ 19 (some 65) (Steps.Bs 31 13631487) (take_ofW HT_.out HW_.out z1) hHeld (h := ?_)
            refine Steps.pI_ 20 (some 66) (Steps.Bs 31 14680063) (any_of HT_.out z1) (h := ?_)
            refine Steps.tI_ 21 (some 67) (Steps.Bs 31 16777215) (take_ofW HT_.out HW_.out z1) hHeld (h := ?_)
            refine Steps.tI_ 24 (some 70) (Steps.Bs 31 33554431) (take_ofW HT_.out HW_.out z1) hHeld (h := ?_)
            refine Steps.pI_ 25 (some 71) (Steps.Bs 31 67108863) (any_of HT_.out z1) (h := ?_)
            refine Steps.tI_ 26 (some 72) (Steps.Bs 31 134217727) (take_ofW HT_.out HW_.out z1) hHeld (h := ?_)
            refine Steps.pI_ 27 (some 73) (Steps.Bs 31 268435455) (any_of HT_.out z1) (h := ?_)
            refine Steps.pI_ 28 (some 74) (Steps.Bs 31 536870911) (any_of HT_.out z1) (h := ?_)
            refine Steps.pI_ 29 (some 75) (Steps.Bs 31 1073741823) (any_of HT_.out z1) (h := ?_)
            refine Steps.pI_ 30 (some 45) (Steps.Bs 31 2147483647) (any_of HT_.out z1) (h := ?_)
            refine done_ (done_of HT_.out z1) ?_
            try go_wp2
            go_ret
            exact ⟨by first | rfl | (simp [errW_none, errW_some] <;> rfl) | (simp [*, errW_none, errW_some] <;> rfl), Short.hB HB⟩
          ·
           rw [if_neg c55] at H
           exact absurd H (by simp)
         ·
          rw [if_neg c54] at H
          exact absurd H (by simp)
        ·
         replace c53 := Bool.eq_false_iff.mpr c53
         subst c53
         have H1 : (some 0) = some r := by rw [if_neg (show ¬ (false = true) by decide)] at H; exact H
         clear H
         have H := H1
         clear H1
         obtain rfl := Option.some.inj H
         try go_wp2
         have n0_ := mk_ (blk_drew BK233.out)
         have n1_ := mk_ (below_drew1 HB.out)
         clear BK233 HB
         revert n0_ n1_
         intro BK233 HB
         have p242 : 0 ≤ (a0_1 : Int) := of_decide_eq_true z4
         have q242 : a0_1 < (l1.length : Int) := of_decide_eq_true z4
         obtain ⟨ad242, e242, hx242_0⟩ := Kd.at_int HR1.out a0_1 p242 q242
         have hw242_0 := hx242_0
         cases e242
         replace hx242_0 := (HB.out.cell (World.block_lt_of_cell? w _ hx242_0)).trans hx242_0
         replace p242 := eq_true p242
         replace q242 := eq_true q242
         refine start_ (n := 31) (S := fun w' => w'.cell? ⟨gb233, 0, none⟩ = some (.int .i64 a0_0) ∧ w'.cell? ⟨gb233, 1, none⟩ = some (.int .i64 a0_1) ∧ w'.cell? ⟨gb233, 2, none⟩ = some (.int .i64 a0_2) ∧ w'.cell? ⟨gb233, 3, none⟩ = some (.int .i64 a0_3) ∧ w'.cell? ⟨gb233, 4, none⟩ = some (.int .i64 a0_4) ∧ w'.cell? ⟨gb233, 5, none⟩ = some (.string a0_5) ∧ w'.cell? (ad242.add (a0_1).toNat) = some (.int .i64 (rd l1 a0_1))) (ds := []) (Steps.Bs 31 0) z1 rfl rfl ⟨(blk_cell BK233.out 0).trans rfl, (blk_cell BK233.out 1).trans rfl, (blk_cell BK233.out 2).trans rfl, (blk_cell BK233.out 3).trans rfl, (blk_cell BK233.out 4).trans rfl, (blk_cell BK233.out 5).trans rfl, ((HB.out.cell (World.block_lt_of_cell? w _ hw242_0)).trans hw242_0)⟩ (fun hHeld => ?_); refine with_tabW pred_Check.tab4 pred_Check.bits4 (fun HT_ HW_ => ?_)
         generalize wc.drew = w65 at BK233 HB hx242_0 hHeld ⊢
         refine Steps.tI_ 0 (some 46) (Steps.Bs 31 1) (take_ofW HT_.out HW_.out z1) hHeld (h := ?_)
         refine one_ (i := 1) (N := some 47) (Steps.Bs 31 3) rfl rfl (one_of HT_.out z1) z10 (fun K hK => ?_)
         refine goes_ Try.func67 z1 rfl #[.agg #[.int .i64 a0_0, .int .i64 a0_1, .int .i64 a0_2, .int .i64 a0_3, .int .i64 a0_4, .string a0_5]] z12 rfl rfl z6 ?_
         with_reducible refine (pred_given.calls a0_0 a0_1 a0_2 a0_3 a0_4 a0_5 true _ A46.out).mono ?_
         rintro e w66 ⟨rfl, hb⟩
         refine ⟨_, rfl, ?_⟩
         have n0_ := mk_ (bB_ BK233 hb)
         have n1_ := mk_ (below_step (Short.hB HB) hb)
         clear BK233 HB
         revert n0_ n1_
         intro BK233 HB
         (try clear hb)
         (try clear hb2)
         (try clear hk)
         (try clear hi)
         refine hK.out _ _ ⟨(blk_cell BK233.out 0).trans rfl, (blk_cell BK233.out 1).trans rfl, (blk_cell BK233.out 2).trans rfl, (blk_cell BK233.out 3).trans rfl, (blk_cell BK233.out 4).trans rfl, (blk_cell BK233.out 5).trans rfl, ((HB.out.cell (World.block_lt_of_cell? w _ hw242_0)).trans hw242_0)⟩ (fun hHeld => ?_)
         clear hK K
         refine norm_ (a' := ?_) ?_ ?_
         rotate_left
         ·
          show Act.put _ (some 47) _ = _
          simp only [Act.put, List.setIfInBounds_toArray, List.set_cons_zero, List.set_cons_succ, i64_w, i32_w]
          rfl
         refine Steps.pI_ 2 (some 48) (Steps.Bs 31 7) (any_of HT_.out z1) (h := ?_)
         refine Steps.pI_ 3 (some 49) (Steps.Bs 31 15) (any_of HT_.out z1) (h := ?_)
         refine Steps.pI_ 5 (some 51) (Steps.Bs 31 47) (any_of HT_.out z1) (h := ?_)
         refine Steps.pI_ 6 (some 52) (Steps.Bs 31 111) (any_of HT_.out z1) (h := ?_)
         refine Steps.tI_ 4 (some 50) (Steps.Bs 31 127) (take_ofW HT_.out HW_.out z1) hHeld (h := ?_)
         refine Steps.tI_ 7 (some 53) (Steps.Bs 31 255) (take_ofW HT_.out HW_.out z1) hHeld (h := ?_)
         refine Steps.pI_ 8 (some 54) (Steps.Bs 31 511) (any_of HT_.out z1) (h := ?_)
         refine Steps.tI_ 9 (some 55) (Steps.Bs 31 1023) (take_ofW HT_.out HW_.out z1) hHeld (h := ?_)
         refine one_ (i := 10) (N := some 56) (Steps.Bs 31 2047) rfl rfl (one_of HT_.out z1) z10 (fun K hK => ?_)
         refine goes_ Try.func69 z1 rfl #[.agg #[.int .i64 a0_3, .int .i64 a0_4, .string a0_5], .int .i64 (rd l1 a0_1)] z12 rfl rfl z6 ?_
         with_reducible refine (value_Fits.calls a0_3 a0_4 a0_5 (rd l1 a0_1) true _ A50.out).mono ?_
         rintro e w67 ⟨rfl, hb⟩
         refine ⟨_, rfl, ?_⟩
         have n0_ := mk_ (bB_ BK233 hb)
         have n1_ := mk_ (below_step (Short.hB HB) hb)
         clear BK233 HB
         revert n0_ n1_
         intro BK233 HB
         (try clear hb)
         (try clear hb2)
         (try clear hk)
         (try clear hi)
         refine hK.out _ _ ⟨(blk_cell BK233.out 0).trans rfl, (blk_cell BK233.out 1).trans rfl, (blk_cell BK233.out 2).trans rfl, (blk_cell BK233.out 3).trans rfl, (blk_cell BK233.out 4).trans rfl, (blk_cell BK233.out 5).trans rfl, ((HB.out.cell (World.block_lt_of_cell? w _ hw242_0)).trans hw242_0)⟩ (fun hHeld => ?_)
         clear hK K
         refine norm_ (a' := ?_) ?_ ?_
         rotate_left
         ·
          show Act.put _ (some 56) _ = _
          simp only [Act.put, List.setIfInBounds_toArray, List.set_cons_zero, List.set_cons_succ, i64_w, i32_w]
          rfl
         refine Steps.pI_ 11 (some 57) (Steps.Bs 31 4095) (any_of HT_.out z1) (h := ?_)
         refine Steps.pI_ 12 (some 58) (Steps.Bs 31 8191) (any_of HT_.out z1) (h := ?_)
         refine Steps.pI_ 13 (some 59) (Steps.Bs 31 16383) (any_of HT_.out z1) (h := ?_)
         refine Steps.tI_ 14 (some 60) (Steps.Bs 31 32767) (take_ofW HT_.out HW_.out z1) hHeld (h := ?_)
         refine one_ (i := 15) (N := some 61) (Steps.Bs 31 65535) rfl rfl (one_of HT_.out z1) z10 (fun K hK => ?_)
         refine goes_ Try.func66 z1 rfl #[.agg #[.int .i64 a0_0, .int .i64 a0_1, .int .i64 a0_2, .int .i64 a0_3, .int .i64 a0_4, .string a0_5]] z12 rfl rfl z6 ?_
         with_reducible refine (pred_other.calls a0_0 a0_1 a0_2 a0_3 a0_4 a0_5 false _ A52.out).mono ?_
         rintro e w68 ⟨rfl, hb⟩
         refine ⟨_, rfl, ?_⟩
         have n0_ := mk_ (bB_ BK233 hb)
         have n1_ := mk_ (below_step (Short.hB HB) hb)
         clear BK233 HB
         revert n0_ n1_
         intro BK233 HB
         (try clear hb)
         (try clear hb2)
         (try clear hk)
         (try clear hi)
         refine hK.out _ _ ⟨(blk_cell BK233.out 0).trans rfl, (blk_cell BK233.out 1).trans rfl, (blk_cell BK233.out 2).trans rfl, (blk_cell BK233.out 3).trans rfl, (blk_cell BK233.out 4).trans rfl, (blk_cell BK233.out 5).trans rfl, ((HB.out.cell (World.block_lt_of_cell? w _ hw242_0)).trans hw242_0)⟩ (fun hHeld => ?_)
         clear hK K
         refine norm_ (a' := ?_) ?_ ?_
         rotate_left
         ·
          show Act.put _ (some 61) _ = _
          simp only [Act.put, List.setIfInBounds_toArray, List.set_cons_zero, List.set_cons_succ, i64_w, i32_w]
          rfl
         refine Steps.pI_ 16 (some 62) (Steps.Bs 31 131071) (any_of HT_.out z1) (h := ?_)
         refine Steps.pR_ 17 (some 63) (Steps.Bs 31 262143) (any_of HT_.out z1) (h := ?_)
         refine Steps.pR_ 18 (some 64) (Steps.Bs 31 524287) (any_of HT_.out z1) (h := ?_)
         refine Steps.pR_ 19 (some 65) (Steps.Bs 31 1048575) (any_of HT_.out z1) (h := ?_)
         refine Steps.pR_ 20 (some 66) (Steps.Bs 31 2097151) (any_of HT_.out z1) (h := ?_)
         refine Steps.pR_ 21 (some 67) (Steps.Bs 31 4194303) (any_of HT_.out z1) (h := ?_)
         refine Steps.pR_ 22 (some 68) (Steps.Bs 31 8388607) (any_of HT_.out z1) (h := ?_)
         refine Steps.pR_ 23 (some 69) (Steps.Bs 31 16777215) (any_of HT_.out z1) (h := ?_)
         refine Steps.pR_ 24 (some 70) (Steps.Bs 31 33554431) (any_of HT_.out z1) (h := ?_)
         refine Steps.pR_ 25 (some 71) (Steps.Bs 31 67108863) (any_of HT_.out z1) (h := ?_)
         refine Steps.pR_ 26 (some 72) (Steps.Bs 31 134217727) (any_of HT_.out z1) (h := ?_)
         refine Steps.pR_ 27 (some 73) (Steps.Bs 31 268435455) (any_of HT_.out z1) (h := ?_)
         refine Steps.pI_ 28 (some 74) (Steps.Bs 31 536870911) (any_of HT_.out z1) (h := ?_)
         refine Steps.pI_ 29 (some 75) (Steps.Bs 31 1073741823) (any_of HT_.out z1) (h := ?_)
         refine Steps.pI_ 30 (some 45) (Steps.Bs 31 2147483647) (any_of HT_.out z1) (h := ?_)
         refine done_ (done_of HT_.out z1) ?_
         try go_wp2
         go_ret
         exact ⟨by first | rfl | (simp [errW_none, errW_some] <;> rfl) | (simp [*, errW_none, errW_some] <;> rfl), Short.hB HB⟩
       ·
        replace c51 := Bool.eq_false_iff.mpr c51
        subst c51
        have H1 : (some 10) = some r := by rw [if_neg (show ¬ (false = true) by decide)] at H; exact H
        clear H
        have H := H1
        clear H1
        obtain rfl := Option.some.inj H
        try go_wp2
        have n0_ := mk_ (blk_drew BK233.out)
        have n1_ := mk_ (below_drew1 HB.out)
        clear BK233 HB
        revert n0_ n1_
        intro BK233 HB
        have p242 : 0 ≤ (a0_1 : Int) := of_decide_eq_true z4
        have q242 : a0_1 < (l1.length : Int) := of_decide_eq_true z4
        obtain ⟨ad242, e242, hx242_0⟩ := Kd.at_int HR1.out a0_1 p242 q242
        have hw242_0 := hx242_0
        cases e242
        replace hx242_0 := (HB.out.cell (World.block_lt_of_cell? w _ hx242_0)).trans hx242_0
        replace p242 := eq_true p242
        replace q242 := eq_true q242
        refine start_ (n := 31) (S := fun w' => w'.cell? ⟨gb233, 0, none⟩ = some (.int .i64 a0_0) ∧ w'.cell? ⟨gb233, 1, none⟩ = some (.int .i64 a0_1) ∧ w'.cell? ⟨gb233, 2, none⟩ = some (.int .i64 a0_2) ∧ w'.cell? ⟨gb233, 3, none⟩ = some (.int .i64 a0_3) ∧ w'.cell? ⟨gb233, 4, none⟩ = some (.int .i64 a0_4) ∧ w'.cell? ⟨gb233, 5, none⟩ = some (.string a0_5) ∧ w'.cell? (ad242.add (a0_1).toNat) = some (.int .i64 (rd l1 a0_1))) (ds := []) (Steps.Bs 31 0) z1 rfl rfl ⟨(blk_cell BK233.out 0).trans rfl, (blk_cell BK233.out 1).trans rfl, (blk_cell BK233.out 2).trans rfl, (blk_cell BK233.out 3).trans rfl, (blk_cell BK233.out 4).trans rfl, (blk_cell BK233.out 5).trans rfl, ((HB.out.cell (World.block_lt_of_cell? w _ hw242_0)).trans hw242_0)⟩ (fun hHeld => ?_); refine with_tabW pred_Check.tab4 pred_Check.bits4 (fun HT_ HW_ => ?_)
        generalize wc.drew = w69 at BK233 HB hx242_0 hHeld ⊢
        refine Steps.tI_ 0 (some 46) (Steps.Bs 31 1) (take_ofW HT_.out HW_.out z1) hHeld (h := ?_)
        refine one_ (i := 1) (N := some 47) (Steps.Bs 31 3) rfl rfl (one_of HT_.out z1) z10 (fun K hK => ?_)
        refine goes_ Try.func67 z1 rfl #[.agg #[.int .i64 a0_0, .int .i64 a0_1, .int .i64 a0_2, .int .i64 a0_3, .int .i64 a0_4, .string a0_5]] z12 rfl rfl z6 ?_
        with_reducible refine (pred_given.calls a0_0 a0_1 a0_2 a0_3 a0_4 a0_5 true _ A46.out).mono ?_
        rintro e w70 ⟨rfl, hb⟩
        refine ⟨_, rfl, ?_⟩
        have n0_ := mk_ (bB_ BK233 hb)
        have n1_ := mk_ (below_step (Short.hB HB) hb)
        clear BK233 HB
        revert n0_ n1_
        intro BK233 HB
        (try clear hb)
        (try clear hb2)
        (try clear hk)
        (try clear hi)
        refine hK.out _ _ ⟨(blk_cell BK233.out 0).trans rfl, (blk_cell BK233.out 1).trans rfl, (blk_cell BK233.out 2).trans rfl, (blk_cell BK233.out 3).trans rfl, (blk_cell BK233.out 4).trans rfl, (blk_cell BK233.out 5).trans rfl, ((HB.out.cell (World.block_lt_of_cell? w _ hw242_0)).trans hw242_0)⟩ (fun hHeld => ?_)
        clear hK K
        refine norm_ (a' := ?_) ?_ ?_
        rotate_left
        ·
         show Act.put _ (some 47) _ = _
         simp only [Act.put, List.setIfInBounds_toArray, List.set_cons_zero, List.set_cons_succ, i64_w, i32_w]
         rfl
        refine Steps.pI_ 2 (some 48) (Steps.Bs 31 7) (any_of HT_.out z1) (h := ?_)
        refine Steps.pI_ 3 (some 49) (Steps.Bs 31 15) (any_of HT_.out z1) (h := ?_)
        refine Steps.pI_ 5 (some 51) (Steps.Bs 31 47) (any_of HT_.out z1) (h := ?_)
        refine Steps.pI_ 6 (some 52) (Steps.Bs 31 111) (any_of HT_.out z1) (h := ?_)
        refine Steps.tI_ 4 (some 50) (Steps.Bs 31 127) (take_ofW HT_.out HW_.out z1) hHeld (h := ?_)
        refine Steps.tI_ 7 (some 53) (Steps.Bs 31 255) (take_ofW HT_.out HW_.out z1) hHeld (h := ?_)
        refine Steps.pI_ 8 (some 54) (Steps.Bs 31 511) (any_of HT_.out z1) (h := ?_)
        refine Steps.tI_ 9 (some 55) (Steps.Bs 31 1023) (take_ofW HT_.out HW_.out z1) hHeld (h := ?_)
        refine one_ (i := 10) (N := some 56) (Steps.Bs 31 2047) rfl rfl (one_of HT_.out z1) z10 (fun K hK => ?_)
        refine goes_ Try.func69 z1 rfl #[.agg #[.int .i64 a0_3, .int .i64 a0_4, .string a0_5], .int .i64 (rd l1 a0_1)] z12 rfl rfl z6 ?_
        with_reducible refine (value_Fits.calls a0_3 a0_4 a0_5 (rd l1 a0_1) false _ A50.out).mono ?_
        rintro e w71 ⟨rfl, hb⟩
        refine ⟨_, rfl, ?_⟩
        have n0_ := mk_ (bB_ BK233 hb)
        have n1_ := mk_ (below_step (Short.hB HB) hb)
        clear BK233 HB
        revert n0_ n1_
        intro BK233 HB
        (try clear hb)
        (try clear hb2)
        (try clear hk)
        (try clear hi)
        refine hK.out _ _ ⟨(blk_cell BK233.out 0).trans rfl, (blk_cell BK233.out 1).trans rfl, (blk_cell BK233.out 2).trans rfl, (blk_cell BK233.out 3).trans rfl, (blk_cell BK233.out 4).trans rfl, (blk_cell BK233.out 5).trans rfl, ((HB.out.cell (World.block_lt_of_cell? w _ hw242_0)).trans hw242_0)⟩ (fun hHeld => ?_)
        clear hK K
        refine norm_ (a' := ?_) ?_ ?_
        rotate_left
        ·
         show Act.put _ (some 56) _ = _
         simp only [Act.put, List.setIfInBounds_toArray, List.set_cons_zero, List.set_cons_succ, i64_w, i32_w]
         rfl
        refine Steps.pI_ 11 (some 57) (Steps.Bs 31 4095) (any_of HT_.out z1) (h := ?_)
        refine Steps.pI_ 12 (some 58) (Steps.Bs 31 8191) (any_of HT_.out z1) (h := ?_)
        refine Steps.pI_ 13 (some 59) (Steps.Bs 31 16383) (any_of HT_.out z1) (h := ?_)
        refine Steps.pR_ 14 (some 60) (Steps.Bs 31 32767) (any_of HT_.out z1) (h := ?_)
        refine Steps.pR_ 15 (some 61) (Steps.Bs 31 65535) (any_of HT_.out z1) (h := ?_)
        refine Steps.pR_ 16 (some 62) (Steps.Bs 31 131071) (any_of HT_.out z1) (h := ?_)
        refine Steps.pR_ 17 (some 63) (Steps.Bs 31 262143) (any_of HT_.out z1) (h := ?_)
        refine Steps.pR_ 18 (some 64) (Steps.Bs 31 524287) (any_of HT_.out z1) (h := ?_)
        refine Steps.pR_ 19 (some 65) (Steps.Bs 31 1048575) (any_of HT_.out z1) (h := ?_)
        refine Steps.pR_ 20 (some 66) (Steps.Bs 31 2097151) (any_of HT_.out z1) (h := ?_)
        refine Steps.pR_ 21 (some 67) (Steps.Bs 31 4194303) (any_of HT_.out z1) (h := ?_)
        refine Steps.pR_ 22 (some 68) (Steps.Bs 31 8388607) (any_of HT_.out z1) (h := ?_)
        refine Steps.pR_ 23 (some 69) (Steps.Bs 31 16777215) (any_of HT_.out z1) (h := ?_)
        refine Steps.pR_ 24 (some 70) (Steps.Bs 31 33554431) (any_of HT_.out z1) (h := ?_)
        refine Steps.pR_ 25 (some 71) (Steps.Bs 31 67108863) (any_of HT_.out z1) (h := ?_)
        refine Steps.pR_ 26 (some 72) (Steps.Bs 31 134217727) (any_of HT_.out z1) (h := ?_)
        refine Steps.pR_ 27 (some 73) (Steps.Bs 31 268435455) (any_of HT_.out z1) (h := ?_)
        refine Steps.pR_ 28 (some 74) (Steps.Bs 31 536870911) (any_of HT_.out z1) (h := ?_)
        refine Steps.pI_ 29 (some 75) (Steps.Bs 31 1073741823) (any_of HT_.out z1) (h := ?_)
        refine Steps.pI_ 30 (some 45) (Steps.Bs 31 2147483647) (any_of HT_.out z1) (h := ?_)
        refine done_ (done_of HT_.out z1) ?_
        try go_wp2
        go_ret
        exact ⟨by first | rfl | (simp [errW_none, errW_some] <;> rfl) | (simp [*, errW_none, errW_some] <;> rfl), Short.hB HB⟩
      ·
       rw [if_neg c49] at H
       exact absurd H (by simp)
     ·
      rw [if_neg c48] at H
      exact absurd H (by simp)
    ·
     replace c47 := Bool.eq_false_iff.mpr c47
     subst c47
     have H1 : ((pred_other.f a0_0 a0_1 a0_2 a0_3 a0_4 a0_5).bind fun t247 => (if t247 = true then (if 0 ≤ a0_2 then (if a0_2 < (l1.length : Int) then (if 0 ≤ a0_1 then (if a0_1 < (l1.length : Int) then (if (rd l1 a0_2) = (rd l1 a0_1) then (some 0) else (some 10)) else (none)) else (none)) else (none)) else (none)) else (some 0))) = some r := by rw [if_neg (show ¬ (false = true) by decide)] at H; exact H
     clear H
     have H := H1
     clear H1
     replace H := Option.bind_eq_some_iff.mp H
     obtain ⟨t247, A720, H⟩ := H
     replace H : (if t247 = true then (if 0 ≤ a0_2 then (if a0_2 < (l1.length : Int) then (if 0 ≤ a0_1 then (if a0_1 < (l1.length : Int) then (if (rd l1 a0_2) = (rd l1 a0_1) then (some 0) else (some 10)) else (none)) else (none)) else (none)) else (none)) else (some 0)) = some r := H
     have A72 := mk_ A720
     clear A720
     by_cases c73 : t247 = true
     ·
      subst c73
      have H1 : (if 0 ≤ a0_2 then (if a0_2 < (l1.length : Int) then (if 0 ≤ a0_1 then (if a0_1 < (l1.length : Int) then (if (rd l1 a0_2) = (rd l1 a0_1) then (some 0) else (some 10)) else (none)) else (none)) else (none)) else (none)) = some r := by rw [if_pos rfl] at H; exact H
      clear H
      have H := H1
      clear H1
      by_cases c74 : 0 ≤ a0_2
      ·
       rw [if_pos c74] at H
       have c74b0 : decide (0 ≤ a0_2) = true := decide_eq_true c74
       clear c74
       by_cases c75 : a0_2 < (l1.length : Int)
       ·
        rw [if_pos c75] at H
        have c75b0 : decide (a0_2 < (l1.length : Int)) = true := decide_eq_true c75
        clear c75
        by_cases c76 : 0 ≤ a0_1
        ·
         rw [if_pos c76] at H
         have c76b0 : decide (0 ≤ a0_1) = true := decide_eq_true c76
         clear c76
         by_cases c77 : a0_1 < (l1.length : Int)
         ·
          rw [if_pos c77] at H
          have c77b0 : decide (a0_1 < (l1.length : Int)) = true := decide_eq_true c77
          clear c77
          by_cases c78 : (rd l1 a0_2) = (rd l1 a0_1)
          ·
           rw [if_pos c78] at H
           have c78b0 : ((rd l1 a0_2) == (rd l1 a0_1)) = true := beq_iff_eq.mpr c78
           have c78b1 : ((rd l1 a0_2) != (rd l1 a0_1)) = false := bne_eq_false_iff_eq.mpr c78
           clear c78
           obtain rfl := Option.some.inj H
           try go_wp2
           have n0_ := mk_ (blk_drew BK233.out)
           have n1_ := mk_ (below_drew1 HB.out)
           clear BK233 HB
           revert n0_ n1_
           intro BK233 HB
           have p248 : 0 ≤ (a0_2 : Int) := of_decide_eq_true z4
           have q248 : a0_2 < (l1.length : Int) := of_decide_eq_true z4
           obtain ⟨ad248, e248, hx248_0⟩ := Kd.at_int HR1.out a0_2 p248 q248
           have hw248_0 := hx248_0
           cases e248
           replace hx248_0 := (HB.out.cell (World.block_lt_of_cell? w _ hx248_0)).trans hx248_0
           replace p248 := eq_true p248
           replace q248 := eq_true q248
           have p249 : 0 ≤ (a0_1 : Int) := of_decide_eq_true z4
           have q249 : a0_1 < (l1.length : Int) := of_decide_eq_true z4
           obtain ⟨ad249, e249, hx249_0⟩ := Kd.at_int HR1.out a0_1 p249 q249
           have hw249_0 := hx249_0
           obtain rfl : ad248 = ad249 := (by injection e249)
           replace hx249_0 := (HB.out.cell (World.block_lt_of_cell? w _ hx249_0)).trans hx249_0
           replace p249 := eq_true p249
           replace q249 := eq_true q249
           refine start_ (n := 31) (S := fun w' => w'.cell? ⟨gb233, 0, none⟩ = some (.int .i64 a0_0) ∧ w'.cell? ⟨gb233, 1, none⟩ = some (.int .i64 a0_1) ∧ w'.cell? ⟨gb233, 2, none⟩ = some (.int .i64 a0_2) ∧ w'.cell? ⟨gb233, 3, none⟩ = some (.int .i64 a0_3) ∧ w'.cell? ⟨gb233, 4, none⟩ = some (.int .i64 a0_4) ∧ w'.cell? ⟨gb233, 5, none⟩ = some (.string a0_5) ∧ w'.cell? (ad248.add (a0_2).toNat) = some (.int .i64 (rd l1 a0_2)) ∧ w'.cell? (ad248.add (a0_1).toNat) = some (.int .i64 (rd l1 a0_1))) (ds := []) (Steps.Bs 31 0) z1 rfl rfl ⟨(blk_cell BK233.out 0).trans rfl, (blk_cell BK233.out 1).trans rfl, (blk_cell BK233.out 2).trans rfl, (blk_cell BK233.out 3).trans rfl, (blk_cell BK233.out 4).trans rfl, (blk_cell BK233.out 5).trans rfl, ((HB.out.cell (World.block_lt_of_cell? w _ hw248_0)).trans hw248_0), ((HB.out.cell (World.block_lt_of_cell? w _ hw249_0)).trans hw249_0)⟩ (fun hHeld => ?_); refine with_tabW pred_Check.tab4 pred_Check.bits4 (fun HT_ HW_ => ?_)
           generalize wc.drew = w79 at BK233 HB hx248_0 hx249_0 hHeld ⊢
           refine Steps.tI_ 0 (some 46) (Steps.Bs 31 1) (take_ofW HT_.out HW_.out z1) hHeld (h := ?_)
           refine one_ (i := 1) (N := some 47) (Steps.Bs 31 3) rfl rfl (one_of HT_.out z1) z10 (fun K hK => ?_)
           refine goes_ Try.func67 z1 rfl #[.agg #[.int .i64 a0_0, .int .i64 a0_1, .int .i64 a0_2, .int .i64 a0_3, .int .i64 a0_4, .string a0_5]] z12 rfl rfl z6 ?_
           with_reducible refine (pred_given.calls a0_0 a0_1 a0_2 a0_3 a0_4 a0_5 false _ A46.out).mono ?_
           rintro e w80 ⟨rfl, hb⟩
           refine ⟨_, rfl, ?_⟩
           have n0_ := mk_ (bB_ BK233 hb)
           have n1_ := mk_ (below_step (Short.hB HB) hb)
           clear BK233 HB
           revert n0_ n1_
           intro BK233 HB
           (try clear hb)
           (try clear hb2)
           (try clear hk)
           (try clear hi)
           refine hK.out _ _ ⟨(blk_cell BK233.out 0).trans rfl, (blk_cell BK233.out 1).trans rfl, (blk_cell BK233.out 2).trans rfl, (blk_cell BK233.out 3).trans rfl, (blk_cell BK233.out 4).trans rfl, (blk_cell BK233.out 5).trans rfl, ((HB.out.cell (World.block_lt_of_cell? w _ hw248_0)).trans hw248_0), ((HB.out.cell (World.block_lt_of_cell? w _ hw249_0)).trans hw249_0)⟩ (fun hHeld => ?_)
           clear hK K
           refine norm_ (a' := ?_) ?_ ?_
           rotate_left
           ·
            show Act.put _ (some 47) _ = _
            simp only [Act.put, List.setIfInBounds_toArray, List.set_cons_zero, List.set_cons_succ, i64_w, i32_w]
            rfl
           refine Steps.pI_ 2 (some 48) (Steps.Bs 31 7) (any_of HT_.out z1) (h := ?_)
           refine Steps.pR_ 3 (some 49) (Steps.Bs 31 15) (any_of HT_.out z1) (h := ?_)
           refine Steps.pR_ 4 (some 50) (Steps.Bs 31 31) (any_of HT_.out z1) (h := ?_)
           refine Steps.pR_ 5 (some 51) (Steps.Bs 31 63) (any_of HT_.out z1) (h := ?_)
           refine Steps.pR_ 6 (some 52) (Steps.Bs 31 127) (any_of HT_.out z1) (h := ?_)
           refine Steps.pR_ 7 (some 53) (Steps.Bs 31 255) (any_of HT_.out z1) (h := ?_)
           refine Steps.pR_ 8 (some 54) (Steps.Bs 31 511) (any_of HT_.out z1) (h := ?_)
           refine Steps.pR_ 9 (some 55) (Steps.Bs 31 1023) (any_of HT_.out z1) (h := ?_)
           refine Steps.pR_ 10 (some 56) (Steps.Bs 31 2047) (any_of HT_.out z1) (h := ?_)
           refine Steps.pR_ 11 (some 57) (Steps.Bs 31 4095) (any_of HT_.out z1) (h := ?_)
           refine Steps.pI_ 12 (some 58) (Steps.Bs 31 8191) (any_of HT_.out z1) (h := ?_)
           refine Steps.pI_ 13 (some 59) (Steps.Bs 31 16383) (any_of HT_.out z1) (h := ?_)
           refine Steps.tI_ 14 (some 60) (Steps.Bs 31 32767) (take_ofW HT_.out HW_.out z1) hHeld (h := ?_)
           refine one_ (i := 15) (N := some 61) (Steps.Bs 31 65535) rfl rfl (one_of HT_.out z1) z10 (fun K hK => ?_)
           refine goes_ Try.func66 z1 rfl #[.agg #[.int .i64 a0_0, .int .i64 a0_1, .int .i64 a0_2, .int .i64 a0_3, .int .i64 a0_4, .string a0_5]] z12 rfl rfl z6 ?_
           with_reducible refine (pred_other.calls a0_0 a0_1 a0_2 a0_3 a0_4 a0_5 true _ A72.out).mono ?_
           rintro e w81 ⟨rfl, hb⟩
           refine ⟨_, rfl, ?_⟩
           have n0_ := mk_ (bB_ BK233 hb)
           have n1_ := mk_ (below_step (Short.hB HB) hb)
           clear BK233 HB
           revert n0_ n1_
           intro BK233 HB
           (try clear hb)
           (try clear hb2)
           (try clear hk)
           (try clear hi)
           refine hK.out _ _ ⟨(blk_cell BK233.out 0).trans rfl, (blk_cell BK233.out 1).trans rfl, (blk_cell BK233.out 2).trans rfl, (blk_cell BK233.out 3).trans rfl, (blk_cell BK233.out 4).trans rfl, (blk_cell BK233.out 5).trans rfl, ((HB.out.cell (World.block_lt_of_cell? w _ hw248_0)).trans hw248_0), ((HB.out.cell (World.block_lt_of_cell? w _ hw249_0)).trans hw249_0)⟩ (fun hHeld => ?_)
           clear hK K
           refine norm_ (a' := ?_) ?_ ?_
           rotate_left
           ·
            show Act.put _ (some 61) _ = _
            simp only [Act.put, List.setIfInBounds_toArray, List.set_cons_zero, List.set_cons_succ, i64_w, i32_w]
            rfl
           refine Steps.pI_ 16 (some 62) (Steps.Bs 31 131071) (any_of HT_.out z1) (h := ?_)
           refine Steps.pI_ 17 (some 63) (Steps.Bs 31 262143) (any_of HT_.out z1) (h := ?_)
           refine Steps.pI_ 18 (some 64) (Steps.Bs 31 524287) (any_of HT_.out z1) (h := ?_)
           refine Steps.pI_ 22 (some 68) (Steps.Bs 31 4718591) (any_of HT_.out z1) (h := ?_)
           refine Steps.pI_ 23 (some 69) (Steps.Bs 31 13107199) (any_of HT_.out z1) (h := ?_)
           refine Steps.tI_ 19 (some 65) (Steps.Bs 31 13631487) (take_ofW HT_.out HW_.out z1) hHeld (h := ?_)
           refine Steps.pI_ 20 (some 66) (Steps.Bs 31 14680063) (any_of HT_.out z1) (h := ?_)
           refine Steps.tI_ 21 (some 67) (Steps.Bs 31 16777215) (take_ofW HT_.out HW_.out z1) hHeld (h := ?_)
           refine Steps.tI_ 24 (some 70) (Steps.Bs 31 33554431) (take_ofW HT_.out HW_.out z1) hHeld (h := ?_)
           refine Steps.pI_ 25 (some 71) (Steps.Bs 31 67108863) (any_of HT_.out z1) (h := ?_)
           refine Steps.tI_ 26 (some 72) (Steps.Bs 31 134217727) (take_ofW HT_.out HW_.out z1) hHeld (h := ?_)
           refine Steps.pI_ 27 (some 73) (Steps.Bs 31 268435455) (any_of HT_.out z1) (h := ?_)
           refine Steps.pI_ 28 (some 74) (Steps.Bs 31 536870911) (any_of HT_.out z1) (h := ?_)
           refine Steps.pI_ 29 (some 75) (Steps.Bs 31 1073741823) (any_of HT_.out z1) (h := ?_)
           refine Steps.pI_ 30 (some 45) (Steps.Bs 31 2147483647) (any_of HT_.out z1) (h := ?_)
           refine done_ (done_of HT_.out z1) ?_
           try go_wp2
           go_ret
           exact ⟨by first | rfl | (simp [errW_none, errW_some] <;> rfl) | (simp [*, errW_none, errW_some] <;> rfl), Short.hB HB⟩
          ·
           rw [if_neg c78] at H
           have c78b0 : ((rd l1 a0_2) == (rd l1 a0_1)) = false := beq_eq_false_iff_ne.mpr c78
           have c78b1 : ((rd l1 a0_2) != (rd l1 a0_1)) = true := bne_iff_ne.mpr c78
           obtain rfl := Option.some.inj H
           try go_wp2
           have n0_ := mk_ (blk_drew BK233.out)
           have n1_ := mk_ (below_drew1 HB.out)
           clear BK233 HB
           revert n0_ n1_
           intro BK233 HB
           have p248 : 0 ≤ (a0_2 : Int) := of_decide_eq_true z4
           have q248 : a0_2 < (l1.length : Int) := of_decide_eq_true z4
           obtain ⟨ad248, e248, hx248_0⟩ := Kd.at_int HR1.out a0_2 p248 q248
           have hw248_0 := hx248_0
           cases e248
           replace hx248_0 := (HB.out.cell (World.block_lt_of_cell? w _ hx248_0)).trans hx248_0
           replace p248 := eq_true p248
           replace q248 := eq_true q248
           have p249 : 0 ≤ (a0_1 : Int) := of_decide_eq_true z4
           have q249 : a0_1 < (l1.length : Int) := of_decide_eq_true z4
           obtain ⟨ad249, e249, hx249_0⟩ := Kd.at_int HR1.out a0_1 p249 q249
           have hw249_0 := hx249_0
           obtain rfl : ad248 = ad249 := (by injection e249)
           replace hx249_0 := (HB.out.cell (World.block_lt_of_cell? w _ hx249_0)).trans hx249_0
           replace p249 := eq_true p249
           replace q249 := eq_true q249
           refine start_ (n := 31) (S := fun w' => w'.cell? ⟨gb233, 0, none⟩ = some (.int .i64 a0_0) ∧ w'.cell? ⟨gb233, 1, none⟩ = some (.int .i64 a0_1) ∧ w'.cell? ⟨gb233, 2, none⟩ = some (.int .i64 a0_2) ∧ w'.cell? ⟨gb233, 3, none⟩ = some (.int .i64 a0_3) ∧ w'.cell? ⟨gb233, 4, none⟩ = some (.int .i64 a0_4) ∧ w'.cell? ⟨gb233, 5, none⟩ = some (.string a0_5) ∧ w'.cell? (ad248.add (a0_2).toNat) = some (.int .i64 (rd l1 a0_2)) ∧ w'.cell? (ad248.add (a0_1).toNat) = some (.int .i64 (rd l1 a0_1))) (ds := []) (Steps.Bs 31 0) z1 rfl rfl ⟨(blk_cell BK233.out 0).trans rfl, (blk_cell BK233.out 1).trans rfl, (blk_cell BK233.out 2).trans rfl, (blk_cell BK233.out 3).trans rfl, (blk_cell BK233.out 4).trans rfl, (blk_cell BK233.out 5).trans rfl, ((HB.out.cell (World.block_lt_of_cell? w _ hw248_0)).trans hw248_0), ((HB.out.cell (World.block_lt_of_cell? w _ hw249_0)).trans hw249_0)⟩ (fun hHeld => ?_); refine with_tabW pred_Check.tab4 pred_Check.bits4 (fun HT_ HW_ => ?_)
           generalize wc.drew = w82 at BK233 HB hx248_0 hx249_0 hHeld ⊢
           refine Steps.tI_ 0 (some 46) (Steps.Bs 31 1) (take_ofW HT_.out HW_.out z1) hHeld (h := ?_)
           refine one_ (i := 1) (N := some 47) (Steps.Bs 31 3) rfl rfl (one_of HT_.out z1) z10 (fun K hK => ?_)
           refine goes_ Try.func67 z1 rfl #[.agg #[.int .i64 a0_0, .int .i64 a0_1, .int .i64 a0_2, .int .i64 a0_3, .int .i64 a0_4, .string a0_5]] z12 rfl rfl z6 ?_
           with_reducible refine (pred_given.calls a0_0 a0_1 a0_2 a0_3 a0_4 a0_5 false _ A46.out).mono ?_
           rintro e w83 ⟨rfl, hb⟩
           refine ⟨_, rfl, ?_⟩
           have n0_ := mk_ (bB_ BK233 hb)
           have n1_ := mk_ (below_step (Short.hB HB) hb)
           clear BK233 HB
           revert n0_ n1_
           intro BK233 HB
           (try clear hb)
           (try clear hb2)
           (try clear hk)
           (try clear hi)
           refine hK.out _ _ ⟨(blk_cell BK233.out 0).trans rfl, (blk_cell BK233.out 1).trans rfl, (blk_cell BK233.out 2).trans rfl, (blk_cell BK233.out 3).trans rfl, (blk_cell BK233.out 4).trans rfl, (blk_cell BK233.out 5).trans rfl, ((HB.out.cell (World.block_lt_of_cell? w _ hw248_0)).trans hw248_0), ((HB.out.cell (World.block_lt_of_cell? w _ hw249_0)).trans hw249_0)⟩ (fun hHeld => ?_)
           clear hK K
           refine norm_ (a' := ?_) ?_ ?_
           rotate_left
           ·
            show Act.put _ (some 47) _ = _
            simp only [Act.put, List.setIfInBounds_toArray, List.set_cons_zero, List.set_cons_succ, i64_w, i32_w]
            rfl
           refine Steps.pI_ 2 (some 48) (Steps.Bs 31 7) (any_of HT_.out z1) (h := ?_)
           refine Steps.pR_ 3 (some 49) (Steps.Bs 31 15) (any_of HT_.out z1) (h := ?_)
           refine Steps.pR_ 4 (some 50) (Steps.Bs 31 31) (any_of HT_.out z1) (h := ?_)
           refine Steps.pR_ 5 (some 51) (Steps.Bs 31 63) (any_of HT_.out z1) (h := ?_)
           refine Steps.pR_ 6 (some 52) (Steps.Bs 31 127) (any_of HT_.out z1) (h := ?_)
           refine Steps.pR_ 7 (some 53) (Steps.Bs 31 255) (any_of HT_.out z1) (h := ?_)
           refine Steps.pR_ 8 (some 54) (Steps.Bs 31 511) (any_of HT_.out z1) (h := ?_)
           refine Steps.pR_ 9 (some 55) (Steps.Bs 31 1023) (any_of HT_.out z1) (h := ?_)
           refine Steps.pR_ 10 (some 56) (Steps.Bs 31 2047) (any_of HT_.out z1) (h := ?_)
           refine Steps.pR_ 11 (some 57) (Steps.Bs 31 4095) (any_of HT_.out z1) (h := ?_)
           refine Steps.pI_ 12 (some 58) (Steps.Bs 31 8191) (any_of HT_.out z1) (h := ?_)
           refine Steps.pI_ 13 (some 59) (Steps.Bs 31 16383) (any_of HT_.out z1) (h := ?_)
           refine Steps.tI_ 14 (some 60) (Steps.Bs 31 32767) (take_ofW HT_.out HW_.out z1) hHeld (h := ?_)
           refine one_ (i := 15) (N := some 61) (Steps.Bs 31 65535) rfl rfl (one_of HT_.out z1) z10 (fun K hK => ?_)
           refine goes_ Try.func66 z1 rfl #[.agg #[.int .i64 a0_0, .int .i64 a0_1, .int .i64 a0_2, .int .i64 a0_3, .int .i64 a0_4, .string a0_5]] z12 rfl rfl z6 ?_
           with_reducible refine (pred_other.calls a0_0 a0_1 a0_2 a0_3 a0_4 a0_5 true _ A72.out).mono ?_
           rintro e w84 ⟨rfl, hb⟩
           refine ⟨_, rfl, ?_⟩
           have n0_ := mk_ (bB_ BK233 hb)
           have n1_ := mk_ (below_step (Short.hB HB) hb)
           clear BK233 HB
           revert n0_ n1_
           intro BK233 HB
           (try clear hb)
           (try clear hb2)
           (try clear hk)
           (try clear hi)
           refine hK.out _ _ ⟨(blk_cell BK233.out 0).trans rfl, (blk_cell BK233.out 1).trans rfl, (blk_cell BK233.out 2).trans rfl, (blk_cell BK233.out 3).trans rfl, (blk_cell BK233.out 4).trans rfl, (blk_cell BK233.out 5).trans rfl, ((HB.out.cell (World.block_lt_of_cell? w _ hw248_0)).trans hw248_0), ((HB.out.cell (World.block_lt_of_cell? w _ hw249_0)).trans hw249_0)⟩ (fun hHeld => ?_)
           clear hK K
           refine norm_ (a' := ?_) ?_ ?_
           rotate_left
           ·
            show Act.put _ (some 61) _ = _
            simp only [Act.put, List.setIfInBounds_toArray, List.set_cons_zero, List.set_cons_succ, i64_w, i32_w]
            rfl
           refine Steps.pI_ 16 (some 62) (Steps.Bs 31 131071) (any_of HT_.out z1) (h := ?_)
           refine Steps.pI_ 17 (some 63) (Steps.Bs 31 262143) (any_of HT_.out z1) (h := ?_)
           refine Steps.pI_ 18 (some 64) (Steps.Bs 31 524287) (any_of HT_.out z1) (h := ?_)
           refine Steps.pI_ 22 (some 68) (Steps.Bs 31 4718591) (any_of HT_.out z1) (h := ?_)
           refine Steps.pI_ 23 (some 69) (Steps.Bs 31 13107199) (any_of HT_.out z1) (h := ?_)
           refine Steps.tI_ 19 (some 65) (Steps.Bs 31 13631487) (take_ofW HT_.out HW_.out z1) hHeld (h := ?_)
           refine Steps.pI_ 20 (some 66) (Steps.Bs 31 14680063) (any_of HT_.out z1) (h := ?_)
           refine Steps.tI_ 21 (some 67) (Steps.Bs 31 16777215) (take_ofW HT_.out HW_.out z1) hHeld (h := ?_)
           refine Steps.tI_ 24 (some 70) (Steps.Bs 31 33554431) (take_ofW HT_.out HW_.out z1) hHeld (h := ?_)
           refine Steps.pI_ 25 (some 71) (Steps.Bs 31 67108863) (any_of HT_.out z1) (h := ?_)
           refine Steps.tI_ 26 (some 72) (Steps.Bs 31 134217727) (take_ofW HT_.out HW_.out z1) hHeld (h := ?_)
           refine Steps.pI_ 27 (some 73) (Steps.Bs 31 268435455) (any_of HT_.out z1) (h := ?_)
           refine Steps.pI_ 28 (some 74) (Steps.Bs 31 536870911) (any_of HT_.out z1) (h := ?_)
           refine Steps.pI_ 29 (some 75) (Steps.Bs 31 1073741823) (any_of HT_.out z1) (h := ?_)
           refine Steps.pI_ 30 (some 45) (Steps.Bs 31 2147483647) (any_of HT_.out z1) (h := ?_)
           refine done_ (done_of HT_.out z1) ?_
           try go_wp2
           go_ret
           exact ⟨by first | rfl | (simp [errW_none, errW_some] <;> rfl) | (simp [*, errW_none, errW_some] <;> rfl), Short.hB HB⟩
         ·
          rw [if_neg c77] at H
          exact absurd H (by simp)
        ·
         rw [if_neg c76] at H
         exact absurd H (by simp)
       ·
        rw [if_neg c75] at H
        exact absurd H (by simp)
      ·
       rw [if_neg c74] at H
       exact absurd H (by simp)
     ·
      replace c73 := Bool.eq_false_iff.mpr c73
      subst c73
      have H1 : (some 0) = some r := by rw [if_neg (show ¬ (false = true) by decide)] at H; exact H
      clear H
      have H := H1
      clear H1
      obtain rfl := Option.some.inj H
      try go_wp2
      have n0_ := mk_ (blk_drew BK233.out)
      have n1_ := mk_ (below_drew1 HB.out)
      clear BK233 HB
      revert n0_ n1_
      intro BK233 HB
      refine start_ (n := 31) (S := fun w' => w'.cell? ⟨gb233, 0, none⟩ = some (.int .i64 a0_0) ∧ w'.cell? ⟨gb233, 1, none⟩ = some (.int .i64 a0_1) ∧ w'.cell? ⟨gb233, 2, none⟩ = some (.int .i64 a0_2) ∧ w'.cell? ⟨gb233, 3, none⟩ = some (.int .i64 a0_3) ∧ w'.cell? ⟨gb233, 4, none⟩ = some (.int .i64 a0_4) ∧ w'.cell? ⟨gb233, 5, none⟩ = some (.string a0_5)) (ds := []) (Steps.Bs 31 0) z1 rfl rfl ⟨(blk_cell BK233.out 0).trans rfl, (blk_cell BK233.out 1).trans rfl, (blk_cell BK233.out 2).trans rfl, (blk_cell BK233.out 3).trans rfl, (blk_cell BK233.out 4).trans rfl, (blk_cell BK233.out 5).trans rfl⟩ (fun hHeld => ?_); refine with_tabW pred_Check.tab4 pred_Check.bits4 (fun HT_ HW_ => ?_)
      generalize wc.drew = w85 at BK233 HB hHeld ⊢
      refine Steps.tI_ 0 (some 46) (Steps.Bs 31 1) (take_ofW HT_.out HW_.out z1) hHeld (h := ?_)
      refine one_ (i := 1) (N := some 47) (Steps.Bs 31 3) rfl rfl (one_of HT_.out z1) z10 (fun K hK => ?_)
      refine goes_ Try.func67 z1 rfl #[.agg #[.int .i64 a0_0, .int .i64 a0_1, .int .i64 a0_2, .int .i64 a0_3, .int .i64 a0_4, .string a0_5]] z12 rfl rfl z6 ?_
      with_reducible refine (pred_given.calls a0_0 a0_1 a0_2 a0_3 a0_4 a0_5 false _ A46.out).mono ?_
      rintro e w86 ⟨rfl, hb⟩
      refine ⟨_, rfl, ?_⟩
      have n0_ := mk_ (bB_ BK233 hb)
      have n1_ := mk_ (below_step (Short.hB HB) hb)
      clear BK233 HB
      revert n0_ n1_
      intro BK233 HB
      (try clear hb)
      (try clear hb2)
      (try clear hk)
      (try clear hi)
      refine hK.out _ _ ⟨(blk_cell BK233.out 0).trans rfl, (blk_cell BK233.out 1).trans rfl, (blk_cell BK233.out 2).trans rfl, (blk_cell BK233.out 3).trans rfl, (blk_cell BK233.out 4).trans rfl, (blk_cell BK233.out 5).trans rfl⟩ (fun hHeld => ?_)
      clear hK K
      refine norm_ (a' := ?_) ?_ ?_
      rotate_left
      ·
       show Act.put _ (some 47) _ = _
       simp only [Act.put, List.setIfInBounds_toArray, List.set_cons_zero, List.set_cons_succ, i64_w, i32_w]
       rfl
      refine Steps.pI_ 2 (some 48) (Steps.Bs 31 7) (any_of HT_.out z1) (h := ?_)
      refine Steps.pR_ 3 (some 49) (Steps.Bs 31 15) (any_of HT_.out z1) (h := ?_)
      refine Steps.pR_ 4 (some 50) (Steps.Bs 31 31) (any_of HT_.out z1) (h := ?_)
      refine Steps.pR_ 5 (some 51) (Steps.Bs 31 63) (any_of HT_.out z1) (h := ?_)
      refine Steps.pR_ 6 (some 52) (Steps.Bs 31 127) (any_of HT_.out z1) (h := ?_)
      refine Steps.pR_ 7 (some 53) (Steps.Bs 31 255) (any_of HT_.out z1) (h := ?_)
      refine Steps.pR_ 8 (some 54) (Steps.Bs 31 511) (any_of HT_.out z1) (h := ?_)
      refine Steps.pR_ 9 (some 55) (Steps.Bs 31 1023) (any_of HT_.out z1) (h := ?_)
      refine Steps.pR_ 10 (some 56) (Steps.Bs 31 2047) (any_of HT_.out z1) (h := ?_)
      refine Steps.pR_ 11 (some 57) (Steps.Bs 31 4095) (any_of HT_.out z1) (h := ?_)
      refine Steps.pI_ 12 (some 58) (Steps.Bs 31 8191) (any_of HT_.out z1) (h := ?_)
      refine Steps.pI_ 13 (some 59) (Steps.Bs 31 16383) (any_of HT_.out z1) (h := ?_)
      refine Steps.tI_ 14 (some 60) (Steps.Bs 31 32767) (take_ofW HT_.out HW_.out z1) hHeld (h := ?_)
      refine one_ (i := 15) (N := some 61) (Steps.Bs 31 65535) rfl rfl (one_of HT_.out z1) z10 (fun K hK => ?_)
      refine goes_ Try.func66 z1 rfl #[.agg #[.int .i64 a0_0, .int .i64 a0_1, .int .i64 a0_2, .int .i64 a0_3, .int .i64 a0_4, .string a0_5]] z12 rfl rfl z6 ?_
      with_reducible refine (pred_other.calls a0_0 a0_1 a0_2 a0_3 a0_4 a0_5 false _ A72.out).mono ?_
      rintro e w87 ⟨rfl, hb⟩
      refine ⟨_, rfl, ?_⟩
      have n0_ := mk_ (bB_ BK233 hb)
      have n1_ := mk_ (below_step (Short.hB HB) hb)
      clear BK233 HB
      revert n0_ n1_
      intro BK233 HB
      (try clear hb)
      (try clear hb2)
      (try clear hk)
      (try clear hi)
      refine hK.out _ _ ⟨(blk_cell BK233.out 0).trans rfl, (blk_cell BK233.out 1).trans rfl, (blk_cell BK233.out 2).trans rfl, (blk_cell BK233.out 3).trans rfl, (blk_cell BK233.out 4).trans rfl, (blk_cell BK233.out 5).trans rfl⟩ (fun hHeld => ?_)
      clear hK K
      refine norm_ (a' := ?_) ?_ ?_
      rotate_left
      ·
       show Act.put _ (some 61) _ = _
       simp only [Act.put, List.setIfInBounds_toArray, List.set_cons_zero, List.set_cons_succ, i64_w, i32_w]
       rfl
      refine Steps.pI_ 16 (some 62) (Steps.Bs 31 131071) (any_of HT_.out z1) (h := ?_)
      refine Steps.pR_ 17 (some 63) (Steps.Bs 31 262143) (any_of HT_.out z1) (h := ?_)
      refine Steps.pR_ 18 (some 64) (Steps.Bs 31 524287) (any_of HT_.out z1) (h := ?_)
      refine Steps.pR_ 19 (some 65) (Steps.Bs 31 1048575) (any_of HT_.out z1) (h := ?_)
      refine Steps.pR_ 20 (some 66) (Steps.Bs 31 2097151) (any_of HT_.out z1) (h := ?_)
      refine Steps.pR_ 21 (some 67) (Steps.Bs 31 4194303) (any_of HT_.out z1) (h := ?_)
      refine Steps.pR_ 22 (some 68) (Steps.Bs 31 8388607) (any_of HT_.out z1) (h := ?_)
      refine Steps.pR_ 23 (some 69) (Steps.Bs 31 16777215) (any_of HT_.out z1) (h := ?_)
      refine Steps.pR_ 24 (some 70) (Steps.Bs 31 33554431) (any_of HT_.out z1) (h := ?_)
      refine Steps.pR_ 25 (some 71) (Steps.Bs 31 67108863) (any_of HT_.out z1) (h := ?_)
      refine Steps.pR_ 26 (some 72) (Steps.Bs 31 134217727) (any_of HT_.out z1) (h := ?_)
      refine Steps.pR_ 27 (some 73) (Steps.Bs 31 268435455) (any_of HT_.out z1) (h := ?_)
      refine Steps.pI_ 28 (some 74) (Steps.Bs 31 536870911) (any_of HT_.out z1) (h := ?_)
      refine Steps.pI_ 29 (some 75) (Steps.Bs 31 1073741823) (any_of HT_.out z1) (h := ?_)
      refine Steps.pI_ 30 (some 45) (Steps.Bs 31 2147483647) (any_of HT_.out z1) (h := ?_)
      refine done_ (done_of HT_.out z1) ?_
      try go_wp2
      go_ret
      exact ⟨by first | rfl | (simp [errW_none, errW_some] <;> rfl) | (simp [*, errW_none, errW_some] <;> rfl), Short.hB HB⟩
end Go.Proofs.Ytimbbaoodjhdoaa.PAll
end
