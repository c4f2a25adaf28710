-- Put together by a program of this session (wip/slice2.py) out of the seat's texts.
import Derived.Test.YtjnjfogfpmeacaaZOCp3

set_option maxHeartbeats 8000000
set_option maxRecDepth 100000
open Go.Proofs.YtjnjfogfpmeacaaW Go.Proofs.Ytjnjfogfpmeacaa
section
namespace Go.Proofs.Ytjnjfogfpmeacaa.PAll
open Go.RowKit PrintWords PrintLast PrintMore ZipT PrintWords.Kd PrintMore.Kd
attribute [local go_sem] max2_int min2_int max_two min_two max_three min_three max_four min_four   -- for this text's walks alone
set_option linter.unusedVariables false
set_option linter.unusedSimpArgs false
mutual
def raddleref01_ReadRow.j0 : Nat → List Int → Int → Bool → Option ((List (S84)) × Int × Int)
 | 0, _, _, _ => none
 | k + 1, x0, x1, x29 => if x29 = true then (some (([] : List (S84)), 0, 3)) else (if 0 ≤ x1 then (if x1 < (x0.length : Int) then (raddleref01_ReadRow.l0 k x0 (wrap64 (x1 + 1)) (wrap64 (rd x0 x1)) ([] : List (S84)) 0) else (none)) else (none))
def raddleref01_ReadRow.l0 : Nat → List Int → Int → Int → List (S84) → Int → Option ((List (S84)) × Int × Int)
 | 0, _, _, _, _, _ => none
 | k + 1, x0, x1, x7, x8, x9 => if x9 < x7 then ((raddleref01_ReadValue.f k x0 x1).bind fun bt440 => (if bt440.2.2.2.2 = 0 then (if x8.length < 4398046511104 then (raddleref01_ReadRow.l0 k x0 bt440.2.2.2.1 x7 (x8 ++ [(⟨bt440.1, bt440.2.1, bt440.2.2.1⟩ : S84)]) (wrap64 (x9 + 1))) else (none)) else (some (([] : List (S84)), 0, 3)))) else (some (x8, x1, 0))
end
def raddleref01_ReadRow.f (k : Nat) (l0 : List Int) (a1 : Int) : Option ((List (S84)) × Int × Int) := (raddleref01_in.f a1 0 (l0.length : Int)).bind fun t437 => (if t437 = true then (if a1 = (l0.length : Int) then (raddleref01_ReadRow.j0 k l0 a1 true) else (if 0 ≤ a1 then (if a1 < (l0.length : Int) then (raddleref01_ReadRow.j0 k l0 a1 (decide ((wrap64 (rd l0 a1)) > 12))) else (none)) else (none))) else (some (([] : List (S84)), 0, 1)))
theorem raddleref01_ReadRow.calls (k : Nat) (A0 : Option Addr) (c0 : Nat) (l0 : List Int) (a1 : Int) (r1 : List (S84)) (r2 : Int) (r3 : Int) (w : World) (hr0 : Kd.C (Kd.int .u8) w A0 l0.length l0) (hc0 : l0.length ≤ c0) (h : raddleref01_ReadRow.f k l0 a1 = some (r1, r2, r3)) :
  Calls Try.prog 97 #[.slice A0 l0.length c0, .int .i64 a1] w fun e w' => ∃ v0_ : Value, e = .returned (.tuple #[v0_, .int .i64 r2, .int .i64 r3]) ∧ Kd.R k84 84 w' w.heap.size (fun _ => True) v0_ r1 ∧ Below w.heap.size w w' := by
 have hu84 := Try.underlying84
 have HR0 := mk_ hr0
 have HC0 := mk_ hc0
 clear hr0 hc0
 have HB := mk_ (Below.refl w.heap.size w)
 have H : ((raddleref01_in.f a1 0 (l0.length : Int)).bind fun t437 => (if t437 = true then (if a1 = (l0.length : Int) then (raddleref01_ReadRow.j0 k l0 a1 true) else (if 0 ≤ a1 then (if a1 < (l0.length : Int) then (raddleref01_ReadRow.j0 k l0 a1 (decide ((wrap64 (rd l0 a1)) > 12))) else (none)) else (none))) else (some (([] : List (S84)), 0, 1)))) = some (r1, r2, r3) := h
 clear h
 replace H := Option.bind_eq_some_iff.mp H
 obtain ⟨t437, A30, H⟩ := H
 replace H : (if t437 = true then (if a1 = (l0.length : Int) then (raddleref01_ReadRow.j0 k l0 a1 true) else (if 0 ≤ a1 then (if a1 < (l0.length : Int) then (raddleref01_ReadRow.j0 k l0 a1 (decide ((wrap64 (rd l0 a1)) > 12))) else (none)) else (none))) else (some (([] : List (S84)), 0, 1))) = some (r1, r2, r3) := H
 have A3 := mk_ A30
 clear A30
 by_cases c4 : t437 = true
 rotate_left
 ·
  replace c4 := Bool.eq_false_iff.mpr c4
  subst c4
  rw [if_neg (show ¬ (false = true) by decide)] at H
  simp only [Option.some.injEq, Prod.mk.injEq] at H
  obtain ⟨rfl, rfl, rfl⟩ := H
  go_enter Try.func97, Try.ntmps97
  go_wp2_with (first | ((with_reducible refine gate_callee (f := 27) rfl ?_); refine Short.gL (some 16) Try.func27 #[.int .i64 a1, .int .i64 0, .int .i64 (l0.length : Int)] (h := ?_); (with_reducible refine (raddleref01_in.calls a1 0 (l0.length : Int) false _ A3.out).mono ?_); rintro e w' ⟨rfl, ⟨nd, rfl⟩⟩; refine ⟨_, rfl, ?_⟩))
  go_ret3
  exact ⟨_, by first | rfl | (simp [errW_none, errW_some] <;> rfl) | (simp [*, errW_none, errW_some] <;> rfl), by first | exact R_nil _ _ _ _ _ | exact N_nil _ _ _ _ _ | exact V_nil _ _ _ _ _ | exact Q_nil _ _ _ _ _ | exact S_nil _ _ _ _ _, Short.hB HB⟩
 subst c4
 rw [if_pos rfl] at H
 have HC5 := mk_ H
 clear H
 go_enter Try.func97, Try.ntmps97
 go_upto_region 3 with (first | ((with_reducible refine gate_callee (f := 27) rfl ?_); refine Short.gL (some 16) Try.func27 #[.int .i64 a1, .int .i64 0, .int .i64 (l0.length : Int)] (h := ?_); (with_reducible refine (raddleref01_in.calls a1 0 (l0.length : Int) true _ A3.out).mono ?_); rintro e w' ⟨rfl, ⟨nd, rfl⟩⟩; refine ⟨_, rfl, ?_⟩))
 (try simp only [Act.put, List.setIfInBounds_toArray, List.set_cons_zero, List.set_cons_succ])
 go_cut [29] (fun v29 wc => ∃ (kq : Nat) (x29_4 : Bool), v29 = .bool x29_4 ∧ Aside0 (raddleref01_ReadRow.j0 kq l0 a1 x29_4 = some (r1, r2, r3)) ∧ Aside0 (kq ≤ k) ∧ Aside0 (Below w.heap.size w wc))
 case first =>
  have H := HC5.out
  clear HC5
  by_cases c6 : a1 = (l0.length : Int)
  ·
   rw [if_pos c6] at H
   have c6b0 : (a1 == (l0.length : Int)) = true := beq_iff_eq.mpr c6
   have c6b1 : (a1 != (l0.length : Int)) = false := bne_eq_false_iff_eq.mpr c6
   clear c6
   (first | rw [c6b0] | (simp only [i64_w, i32_w]; rw [c6b0]) | skip)
   have H' := mk_ H
   clear H
   go_wp2
   go_meet
   case rel => exact ⟨_, (true), z3, H', ⟨by first | omega | exact Nat.le_refl _⟩, ⟨Short.hB HB⟩⟩
  rw [if_neg c6] at H
  have c6b0 : (a1 == (l0.length : Int)) = false := beq_eq_false_iff_ne.mpr c6
  have c6b1 : (a1 != (l0.length : Int)) = true := bne_iff_ne.mpr c6
  (first | rw [c6b0] | (simp only [i64_w, i32_w]; rw [c6b0]) | skip)
  by_cases c7 : 0 ≤ a1
  rotate_left
  ·
   rw [if_neg c7] at H
   exact absurd H (by simp)
  rw [if_pos c7] at H
  have c7b0 : decide (0 ≤ a1) = true := decide_eq_true c7
  clear c7
  by_cases c8 : a1 < (l0.length : Int)
  rotate_left
  ·
   rw [if_neg c8] at H
   exact absurd H (by simp)
  rw [if_pos c8] at H
  have c8b0 : decide (a1 < (l0.length : Int)) = true := decide_eq_true c8
  clear c8
  have H' := mk_ H
  clear H
  have p438 : 0 ≤ (a1 : Int) := of_decide_eq_true z1
  have q438 : a1 < (l0.length : Int) := of_decide_eq_true z1
  obtain ⟨ad438, e438, hx438_0⟩ := Kd.at_int HR0.out a1 p438 q438
  cases e438
  replace hx438_0 := up_ HB hx438_0
  replace p438 := eq_true p438
  replace q438 := eq_true q438
  go_wp2
  go_meet
  case rel => exact ⟨_, (decide ((wrap64 (rd l0 a1)) > 12)), z3, H', ⟨by first | omega | exact Nat.le_refl _⟩, ⟨Short.hB HB⟩⟩
 case rest => as_aux_lemma =>
  clear HC5
  try clear c2
  try clear p2
  try clear c4
  try clear p4
  try clear q4
  try clear hx4
  try clear c6
  try clear c6b0
  try clear c6b1
  try clear p6
  try clear c7
  try clear c7b0
  try clear c8
  try clear c8b0
  try clear hx438_0
  try clear p438
  try clear q438
  obtain ⟨kq, x29_4, rfl, HA, HJ4, HB⟩ := hcut
  cases kq with
  | zero => exact absurd HA.out (by simp [raddleref01_ReadRow.j0])
  | succ kj4 =>
   have H := HA.out
   clear HA
   simp only [raddleref01_ReadRow.j0] at H
   by_cases c9 : x29_4 = true
   ·
    subst c9
    rw [if_pos rfl] at H
    simp only [Option.some.injEq, Prod.mk.injEq] at H
    obtain ⟨rfl, rfl, rfl⟩ := H
    go_wp2
    go_ret3
    exact ⟨_, by first | rfl | (simp [errW_none, errW_some] <;> rfl) | (simp [*, errW_none, errW_some] <;> rfl), by first | exact R_nil _ _ _ _ _ | exact N_nil _ _ _ _ _ | exact V_nil _ _ _ _ _ | exact Q_nil _ _ _ _ _ | exact S_nil _ _ _ _ _, Short.hB HB⟩
   ·
    replace c9 := Bool.eq_false_iff.mpr c9
    subst c9
    rw [if_neg (show ¬ (false = true) by decide)] at H
    by_cases c10 : 0 ≤ a1
    ·
     rw [if_pos c10] at H
     have c10b0 : decide (0 ≤ a1) = true := decide_eq_true c10
     clear c10
     by_cases c11 : a1 < (l0.length : Int)
     ·
      rw [if_pos c11] at H
      have c11b0 : decide (a1 < (l0.length : Int)) = true := decide_eq_true c11
      clear c11
      have H' := mk_ H
      clear H
      have p439 : 0 ≤ (a1 : Int) := of_decide_eq_true z1
      have q439 : a1 < (l0.length : Int) := of_decide_eq_true z1
      obtain ⟨ad439, e439, hx439_0⟩ := Kd.at_int HR0.out a1 p439 q439
      cases e439
      replace hx439_0 := up_ HB hx439_0
      replace p439 := eq_true p439
      replace q439 := eq_true q439
      go_wp2
      go_loopg [1, 8, 9] kj4 (fun kq v1 v8 v9 w' => ∃ (x1_2 : Int) (x8_2 : List (S84)) (x9_2 : Int), v1 = .int .i64 x1_2 ∧ v9 = .int .i64 x9_2 ∧ Aside0 (raddleref01_ReadRow.l0 kq l0 x1_2 (wrap64 (rd l0 a1)) x8_2 x9_2 = some (r1, r2, r3)) ∧ Aside0 (kq ≤ kj4) ∧ Aside0 (Kd.R k84 84 w' w.heap.size (fun _ => True) v8 x8_2) ∧ Aside0 (Below w.heap.size w w'))
      case atStart => exact ⟨(wrap64 (a1 + 1)), (([] : List (S84))), (0), z3, z3, H', ⟨Nat.le_refl _⟩, ⟨by first | exact R_nil _ _ _ _ _ | exact N_nil _ _ _ _ _ | exact V_nil _ _ _ _ _ | exact Q_nil _ _ _ _ _ | exact S_nil _ _ _ _ _⟩, ⟨Short.hB HB⟩⟩
      case round =>
       clear H'
       try clear c1
       try clear c2
       try clear p2
       try clear c4
       try clear p4
       try clear q4
       try clear hx4
       try clear c6
       try clear c6b0
       try clear c6b1
       try clear p6
       try clear c7
       try clear c7b0
       try clear c8
       try clear c8b0
       try clear c9
       try clear c10
       try clear c10b0
       try clear c11
       try clear c11b0
       try clear hx438_0
       try clear hx439_0
       try clear p2
       try clear p4
       try clear p438
       try clear p439
       try clear p6
       try clear q4
       try clear q438
       try clear q439
       obtain ⟨x1_2, x8_2, x9_2, rfl, rfl, HA, HK2, HO_8, HB⟩ := hrel
       cases gk with
       | zero => exact absurd HA.out (by simp [raddleref01_ReadRow.l0])
       | succ k2 =>
        have H := HA.out
        clear HA
        simp only [raddleref01_ReadRow.l0] at H
        by_cases c12 : x9_2 < (wrap64 (rd l0 a1))
        ·
         rw [if_pos c12] at H
         have c12b0 : decide (x9_2 < (wrap64 (rd l0 a1))) = true := decide_eq_true c12
         clear c12
         replace H := Option.bind_eq_some_iff.mp H
         obtain ⟨⟨t440, t441, t442, t443, t444⟩, A130, H⟩ := H
         replace H : (if t444 = 0 then (if x8_2.length < 4398046511104 then (raddleref01_ReadRow.l0 k2 l0 t443 (wrap64 (rd l0 a1)) (x8_2 ++ [(⟨t440, t441, t442⟩ : S84)]) (wrap64 (x9_2 + 1))) else (none)) else (some (([] : List (S84)), 0, 3))) = some (r1, r2, r3) := H
         have A13 := mk_ A130
         clear A130
         by_cases c14 : t444 = 0
         ·
          rw [if_pos c14] at H
          have c14b0 : (t444 == 0) = true := beq_iff_eq.mpr c14
          have c14b1 : (t444 != 0) = false := bne_eq_false_iff_eq.mpr c14
          clear c14
          by_cases c15 : x8_2.length < 4398046511104
          ·
           rw [if_pos c15] at H
           have LMc15 := mk_ c15
           clear c15
           obtain ⟨y446, hy446⟩ : ∃ y_ : List (S84), y_ = (x8_2 ++ [(⟨t440, t441, t442⟩ : S84)]) := ⟨_, rfl⟩
           replace H : (raddleref01_ReadRow.l0 k2 l0 t443 (wrap64 (rd l0 a1)) y446 (wrap64 (x9_2 + 1))) = some (r1, r2, r3) := by first | (rw [hy446]; with_reducible exact H) | (have H2_ := (Option.bind_some _ _).symm.trans H; rw [hy446]; with_reducible exact H2_) | (have H2_ := (Option.bind_some _ _).symm.trans H; with_reducible exact H2_) | with_reducible exact H | (rw [hy446]; exact H) | exact H
           have Ny446 := mk_ hy446
           clear hy446
           have H' := mk_ H
           clear H
           go_wp2_with (first | ((with_reducible refine gate_callee (f := 112) rfl ?_); refine Short.gL (some 45) Try.func112 #[.slice (some ad439) l0.length c0, .int .i64 x1_2] (h := ?_); (with_reducible refine (raddleref01_ReadValue.calls k2 _ _ l0 x1_2 t440 t441 t442 t443 t444 _ ?side1 ?side2 A13.out).mono ?_); (case side1 => exact cX_ (C_below HR0.out HB.out)); (case side2 => exact HC0.out); rintro e w16 ⟨rfl, hb⟩; refine ⟨_, rfl, ?_⟩; have n0_ := mk_ (R_below (ZKR HO_8) hb); have n1_ := mk_ (below_step (Short.hB HB) hb); clear HO_8 HB; revert n0_ n1_; intro HO_8 HB; (try clear hb)) | ((with_reducible refine gate_dst (N := 10) rfl ?_); refine box_event ?hg (N := 10) ?hd (cs := #[.int .i64 0, .int .i64 0, .string (⟨#[]⟩ : ByteArray)]) (t := 84) ?hr ?_; (case hd => rfl); (case hg => rfl); (case hr => first | (go_simp; done) | (go_simp; rfl)); intro gb445 hg w17 hbox hb; have n0_ := mk_ (R_below (R_elderB (ZKR HO_8) gb445 (Nat.le_of_eq hg.symm)) hb); have n1_ := mk_ (below_step (Short.hB HB) hb); have n2_ := mk_ (hbox); have n3_ := mk_ ((by rw [hg]; exact (below_size (Short.hB HB)) : w.heap.size ≤ gb445)); have n4_ := mk_ ((by rw [hg]; exact (below_size (Short.hB HB)) : w.heap.size ≤ gb445)); clear HO_8 HB; revert n0_ n1_ n2_ n3_ n4_; intro HO_8 HB BK445 GW445 GE445; clear hb hbox hg; obtain ⟨hcz18_0, hcz18_1, hcz18_2, hfz18_0, hfz18_1, hfz18_2⟩ := Short.c3 BK445.out) | ((with_reducible refine gate_builtin (b := .append) (xs := #[.tmp 51, .tmp 53]) rfl ?_); at_builtin; refine R_append k84 (w0 := w) w.heap.size rfl (.tmp 51) (.tmp 53) 29 84 (.agg #[(.int .i64 0), (.int .i64 0), (.string ⟨#[]⟩)]) 32 rfl Try.underlying29 info84 rfl z5 z4 u8 x8_2 (⟨t440, t441, t442⟩ : S84) [.int .i64 t440, .int .i64 t441, .string t442] (fun k_ => k_ ≠ gb445) (fun _ => False) rfl (by first | (go_simp; done) | (go_simp; rfl)) ?aP (fun _ hk => hk.elim) ?aF ?aO ?aB ?aS ?aL ?_; (case aP => exact k84_mkM _ _ _ (⟨t440, t441, t442⟩ : S84)); (case aB => exact (Short.hB HB)); (case aF => exact (fun k_ hk => Kd.freshB (g := gb445) (o := .cells #[.int .i64 t440, .int .i64 t441, .string t442] 84 (0, 0)) (by (with_reducible repeat (first | refine blk_drewN ?_ _ | refine blk_drew ?_ | refine blk_alloc ?_ _)); refine blk_put (cs := #[.int .i64 t440, .int .i64 t441, .string (⟨#[]⟩ : ByteArray)]) ?_ 2 _ rfl; (with_reducible repeat (first | refine blk_drewN ?_ _ | refine blk_drew ?_ | refine blk_alloc ?_ _)); refine blk_put (cs := #[.int .i64 t440, .int .i64 0, .string (⟨#[]⟩ : ByteArray)]) ?_ 1 _ rfl; (with_reducible repeat (first | refine blk_drewN ?_ _ | refine blk_drew ?_ | refine blk_alloc ?_ _)); refine blk_put (cs := #[.int .i64 0, .int .i64 0, .string (⟨#[]⟩ : ByteArray)]) ?_ 0 _ rfl; (with_reducible repeat (first | refine blk_drewN ?_ _ | refine blk_drew ?_ | refine blk_alloc ?_ _)); exact BK445.out) k_ hk)); (case aO => exact (by (with_reducible repeat (first | apply R_alloc | apply R_drewN | apply R_drew)); exact R_mono (R_far (p := ⟨gb445, 2, none⟩) (R_far (p := ⟨gb445, 1, none⟩) (R_far (p := ⟨gb445, 0, none⟩) (R_mono HO_8.out (fun k_ hk => (⟨hk, hk.2⟩ : _ ∧ k_ ≠ gb445))) (fun _ hk => hk.2) (.int .i64 t440)) (fun _ hk => hk.2) (.int .i64 t441)) (fun _ hk => hk.2) (.string t442)) (fun _ hk => hk.1.2))); (case aS => exact (below_size (Short.hB HB))); (case aL => have := LMc15.out; omega); intro v447 w19 ho hb hg hat; rw [← Ny446.out] at ho; have n0_ := mk_ (blk_grown (g := gb445) (o := .cells #[.int .i64 t440, .int .i64 t441, .string t442] 84 (0, 0)) (by (with_reducible repeat (first | refine blk_drewN ?_ _ | refine blk_drew ?_ | refine blk_alloc ?_ _)); refine blk_put (cs := #[.int .i64 t440, .int .i64 t441, .string (⟨#[]⟩ : ByteArray)]) ?_ 2 _ rfl; (with_reducible repeat (first | refine blk_drewN ?_ _ | refine blk_drew ?_ | refine blk_alloc ?_ _)); refine blk_put (cs := #[.int .i64 t440, .int .i64 0, .string (⟨#[]⟩ : ByteArray)]) ?_ 1 _ rfl; (with_reducible repeat (first | refine blk_drewN ?_ _ | refine blk_drew ?_ | refine blk_alloc ?_ _)); refine blk_put (cs := #[.int .i64 0, .int .i64 0, .string (⟨#[]⟩ : ByteArray)]) ?_ 0 _ rfl; (with_reducible repeat (first | refine blk_drewN ?_ _ | refine blk_drew ?_ | refine blk_alloc ?_ _)); exact BK445.out) hg (R_away HO_8.out (fun _ hk => hk.2))); have n1_ := mk_ (hb); have n2_ := mk_ (ho); clear BK445 HB HO_8; revert n0_ n1_ n2_; intro BK445 HB HO448; clear ho hb hg hat))
           go_roundg k2
           case measure => have := HJ4.out; have := HK2.out; omega
           case rel => exact ⟨(t443), (y446), (wrap64 (x9_2 + 1)), z3, z3, H', ⟨by have := HJ4.out; have := HK2.out; omega⟩, ⟨by (with_reducible repeat (first | apply R_alloc | apply R_drewN | apply R_drew)); exact R_mono HO448.out (fun _ hk => trivial)⟩, ⟨Short.hB HB⟩⟩
          ·
           rw [if_neg c15] at H
           exact absurd H (by simp)
         ·
          rw [if_neg c14] at H
          have c14b0 : (t444 == 0) = false := beq_eq_false_iff_ne.mpr c14
          have c14b1 : (t444 != 0) = true := bne_iff_ne.mpr c14
          simp only [Option.some.injEq, Prod.mk.injEq] at H
          obtain ⟨rfl, rfl, rfl⟩ := H
          go_wp2_with (first | ((with_reducible refine gate_callee (f := 112) rfl ?_); refine Short.gL (some 45) Try.func112 #[.slice (some ad439) l0.length c0, .int .i64 x1_2] (h := ?_); (with_reducible refine (raddleref01_ReadValue.calls k2 _ _ l0 x1_2 t440 t441 t442 t443 t444 _ ?side1 ?side2 A13.out).mono ?_); (case side1 => exact cX_ (C_below HR0.out HB.out)); (case side2 => exact HC0.out); rintro e w20 ⟨rfl, hb⟩; refine ⟨_, rfl, ?_⟩; have n0_ := mk_ (R_below (ZKR HO_8) hb); have n1_ := mk_ (below_step (Short.hB HB) hb); clear HO_8 HB; revert n0_ n1_; intro HO_8 HB; (try clear hb)) | ((with_reducible refine gate_dst (N := 10) rfl ?_); refine box_event ?hg (N := 10) ?hd (cs := #[.int .i64 0, .int .i64 0, .string (⟨#[]⟩ : ByteArray)]) (t := 84) ?hr ?_; (case hd => rfl); (case hg => rfl); (case hr => first | (go_simp; done) | (go_simp; rfl)); intro gb445 hg w21 hbox hb; have n0_ := mk_ (R_below (R_elderB (ZKR HO_8) gb445 (Nat.le_of_eq hg.symm)) hb); have n1_ := mk_ (below_step (Short.hB HB) hb); have n2_ := mk_ (hbox); have n3_ := mk_ ((by rw [hg]; exact (below_size (Short.hB HB)) : w.heap.size ≤ gb445)); have n4_ := mk_ ((by rw [hg]; exact (below_size (Short.hB HB)) : w.heap.size ≤ gb445)); clear HO_8 HB; revert n0_ n1_ n2_ n3_ n4_; intro HO_8 HB BK445 GW445 GE445; clear hb hbox hg; obtain ⟨hcz22_0, hcz22_1, hcz22_2, hfz22_0, hfz22_1, hfz22_2⟩ := Short.c3 BK445.out))
          go_ret3
          exact ⟨_, by first | rfl | (simp [errW_none, errW_some] <;> rfl) | (simp [*, errW_none, errW_some] <;> rfl), by first | exact R_nil _ _ _ _ _ | exact N_nil _ _ _ _ _ | exact V_nil _ _ _ _ _ | exact Q_nil _ _ _ _ _ | exact S_nil _ _ _ _ _, Short.hB HB⟩
        ·
         rw [if_neg c12] at H
         have c12b0 : decide (x9_2 < (wrap64 (rd l0 a1))) = false := decide_eq_false c12
         clear c12
         simp only [Option.some.injEq, Prod.mk.injEq] at H
         obtain ⟨rfl, rfl, rfl⟩ := H
         go_wp2
         go_ret3
         exact ⟨_, by first | rfl | (simp [errW_none, errW_some] <;> rfl) | (simp [*, errW_none, errW_some] <;> rfl), by (with_reducible repeat (first | apply R_alloc | apply R_drewN | apply R_drew)); exact HO_8.out, Short.hB HB⟩
     ·
      rw [if_neg c11] at H
      exact absurd H (by simp)
    ·
     rw [if_neg c10] at H
     exact absurd H (by simp)
def raddlekeep_Bytes.l0 : Nat → List Int → List Int → Int → Option (Bool)
 | 0, _, _, _ => none
 | k + 1, x0, x1, x5 => if x5 < (x0.length : Int) then (if 0 ≤ x5 then (if x5 < (x1.length : Int) then (if (rd x0 x5) = (rd x1 x5) then (raddlekeep_Bytes.l0 k x0 x1 (wrap64 (x5 + 1))) else (some false)) else (none)) else (none)) else (some true)
def raddlekeep_Bytes.f (k : Nat) (l0 : List Int) (l1 : List Int) : Option (Bool) := if (l0.length : Int) = (l1.length : Int) then (raddlekeep_Bytes.l0 k l0 l1 0) else (some false)
theorem raddlekeep_Bytes.calls (k : Nat) (A0 : Option Addr) (c0 : Nat) (l0 : List Int) (A1 : Option Addr) (c1 : Nat) (l1 : List Int) (r : Bool) (w : World) (hr0 : Kd.C (Kd.int .u8) w A0 l0.length l0) (hc0 : l0.length ≤ c0) (hr1 : Kd.C (Kd.int .u8) w A1 l1.length l1) (hc1 : l1.length ≤ c1) (h : raddlekeep_Bytes.f k l0 l1 = some r) :
  Calls Try.prog 14 #[.slice A0 l0.length c0, .slice A1 l1.length c1] w fun e w' => e = .returned (.bool r) ∧ Drawn0 w w' := by
 have HR0 := mk_ hr0
 have HC0 := mk_ hc0
 clear hr0 hc0
 have HR1 := mk_ hr1
 have HC1 := mk_ hc1
 clear hr1 hc1
 have H : (if (l0.length : Int) = (l1.length : Int) then (raddlekeep_Bytes.l0 k l0 l1 0) else (some false)) = some r := h
 clear h
 by_cases c3 : (l0.length : Int) = (l1.length : Int)
 rotate_left
 ·
  rw [if_neg c3] at H
  have c3b0 : ((l0.length : Int) == (l1.length : Int)) = false := beq_eq_false_iff_ne.mpr c3
  have c3b1 : ((l0.length : Int) != (l1.length : Int)) = true := bne_iff_ne.mpr c3
  have c3b2 : (l0.length == l1.length) = false := by first | simpa using c3 | (simp at c3 ⊢; omega)
  obtain rfl := Option.some.inj H
  go_enter Try.func14, Try.ntmps14
  go_wp2
  repeat (go_quiet (fail); try go_wp2)
  go_ret
  exact ⟨z3, by repeat (first | exact Drawn0.refl _ | apply Drawn0.step)⟩
 rw [if_pos c3] at H
 have c3b0 : ((l0.length : Int) == (l1.length : Int)) = true := beq_iff_eq.mpr c3
 have c3b1 : ((l0.length : Int) != (l1.length : Int)) = false := bne_eq_false_iff_eq.mpr c3
 have c3b2 : (l0.length == l1.length) = true := by first | simpa using c3 | (simp at c3 ⊢; omega)
 clear c3
 have H' := mk_ H
 clear H
 go_enter Try.func14, Try.ntmps14
 go_wp2
 repeat (go_quiet (fail); try go_wp2)
 go_loopg [5] k (fun kq v5 w' => ∃ (x5_1 : Int), v5 = .int .i64 x5_1 ∧ Aside0 (raddlekeep_Bytes.l0 kq l0 l1 x5_1 = some r) ∧ Aside0 (kq ≤ k) ∧ Drawn0 w w')
 case atStart => exact ⟨(0), z3, H', ⟨Nat.le_refl _⟩, by repeat (first | exact Drawn0.refl _ | apply Drawn0.step)⟩
 case round =>
  clear H'
  try clear c1
  try clear p2
  try clear c3
  try clear c3b0
  try clear c3b1
  try clear c3b2
  obtain ⟨x5_1, rfl, HA, HK1, ⟨m1, rfl⟩⟩ := hrel
  cases gk with
  | zero => exact absurd HA.out (by simp [raddlekeep_Bytes.l0])
  | succ k1 =>
   have H := HA.out
   clear HA
   simp only [raddlekeep_Bytes.l0] at H
   by_cases c4 : x5_1 < (l0.length : Int)
   rotate_left
   ·
    rw [if_neg c4] at H
    have c4b0 : decide (x5_1 < (l0.length : Int)) = false := decide_eq_false c4
    clear c4
    obtain rfl := Option.some.inj H
    go_wp2
    repeat (go_quiet (fail); try go_wp2)
    go_ret
    exact ⟨z3, by repeat (first | exact Drawn0.refl _ | apply Drawn0.step)⟩
   rw [if_pos c4] at H
   have c4b0 : decide (x5_1 < (l0.length : Int)) = true := decide_eq_true c4
   clear c4
   by_cases c5 : 0 ≤ x5_1
   rotate_left
   ·
    rw [if_neg c5] at H
    exact absurd H (by simp)
   rw [if_pos c5] at H
   have c5b0 : decide (0 ≤ x5_1) = true := decide_eq_true c5
   clear c5
   by_cases c6 : x5_1 < (l1.length : Int)
   rotate_left
   ·
    rw [if_neg c6] at H
    exact absurd H (by simp)
   rw [if_pos c6] at H
   have c6b0 : decide (x5_1 < (l1.length : Int)) = true := decide_eq_true c6
   clear c6
   by_cases c7 : (rd l0 x5_1) = (rd l1 x5_1)
   rotate_left
   ·
    rw [if_neg c7] at H
    have c7b0 : ((rd l0 x5_1) == (rd l1 x5_1)) = false := beq_eq_false_iff_ne.mpr c7
    have c7b1 : ((rd l0 x5_1) != (rd l1 x5_1)) = true := bne_iff_ne.mpr c7
    obtain rfl := Option.some.inj H
    have p455 : 0 ≤ (x5_1 : Int) := of_decide_eq_true z1
    have q455 : x5_1 < (l0.length : Int) := of_decide_eq_true z1
    obtain ⟨ad455, e455, hx455_0⟩ := Kd.at_int HR0.out x5_1 p455 q455
    cases e455
    replace p455 := eq_true p455
    replace q455 := eq_true q455
    have p456 : 0 ≤ (x5_1 : Int) := of_decide_eq_true z1
    have q456 : x5_1 < (l1.length : Int) := of_decide_eq_true z1
    obtain ⟨ad456, e456, hx456_0⟩ := Kd.at_int HR1.out x5_1 p456 q456
    cases e456
    replace p456 := eq_true p456
    replace q456 := eq_true q456
    go_wp2
    repeat (go_quiet (fail); try go_wp2)
    go_ret
    exact ⟨z3, by repeat (first | exact Drawn0.refl _ | apply Drawn0.step)⟩
   rw [if_pos c7] at H
   have c7b0 : ((rd l0 x5_1) == (rd l1 x5_1)) = true := beq_iff_eq.mpr c7
   have c7b1 : ((rd l0 x5_1) != (rd l1 x5_1)) = false := bne_eq_false_iff_eq.mpr c7
   clear c7
   have H' := mk_ H
   clear H
   have p455 : 0 ≤ (x5_1 : Int) := of_decide_eq_true z1
   have q455 : x5_1 < (l0.length : Int) := of_decide_eq_true z1
   obtain ⟨ad455, e455, hx455_0⟩ := Kd.at_int HR0.out x5_1 p455 q455
   cases e455
   replace p455 := eq_true p455
   replace q455 := eq_true q455
   have p456 : 0 ≤ (x5_1 : Int) := of_decide_eq_true z1
   have q456 : x5_1 < (l1.length : Int) := of_decide_eq_true z1
   obtain ⟨ad456, e456, hx456_0⟩ := Kd.at_int HR1.out x5_1 p456 q456
   cases e456
   replace p456 := eq_true p456
   replace q456 := eq_true q456
   go_wp2
   repeat (go_quiet (fail); try go_wp2)
   go_roundg k1
   case measure => have := HK1.out; omega
   case rel => exact ⟨(wrap64 (x5_1 + 1)), z3, H', ⟨by have := HK1.out; omega⟩, by repeat (first | exact Drawn0.refl _ | apply Drawn0.step)⟩
end Go.Proofs.Ytjnjfogfpmeacaa.PAll
end
section
namespace Go.Proofs.Ytjnjfogfpmeacaa.Sep
open Go.RowKit PrintWords ZipT PrintWords.Kd PrintMore.Kd
set_option linter.unusedVariables false
structure Moved (w w' : World) (S : Nat → Prop) : Prop where
 os : w'.os = w.os
 tape : w'.tape = w.tape
 output : w'.output = w.output
 size : w.heap.size ≤ w'.heap.size
 block : ∀ k, k < w.heap.size → ¬ S k → w'.heap[k]? = w.heap[k]?
theorem Moved.refl (w : World) (S : Nat → Prop) : Moved w w S := ⟨rfl, rfl, rfl, Nat.le_refl _, fun _ _ _ => rfl⟩
theorem Moved.trans {w w1 w2 : World} {S S1 : Nat → Prop} (h : Moved w w1 S) (k : Moved w1 w2 S1) (hs : ∀ i, i < w.heap.size → S1 i → S i) : Moved w w2 S :=
 ⟨k.os.trans h.os, k.tape.trans h.tape, k.output.trans h.output, Nat.le_trans h.size k.size, fun i hi hn =>
  (k.block i (Nat.lt_of_lt_of_le hi h.size) (fun e => hn (hs i hi e))).trans (h.block i hi hn)⟩
theorem Moved.wider {w w' : World} {S S' : Nat → Prop} (h : Moved w w' S) (hs : ∀ i, i < w.heap.size → S i → S' i) : Moved w w' S' :=
 ⟨h.os, h.tape, h.output, h.size, fun i hi hn => h.block i hi (fun e => hn (hs i hi e))⟩
theorem Moved.of_below {w w' : World} (h : Below w.heap.size w w') (S : Nat → Prop) : Moved w w' S := ⟨h.os, h.tape, h.output, h.size, fun i hi _ => h.block i hi⟩
theorem Moved.of_grown {w w' : World} {row : Option Nat} (h : w.grownBy w' row) {S : Nat → Prop} (hr : ∀ i, row = some i → i < w.heap.size → S i) : Moved w w' S :=
 ⟨h.os, h.tape, h.output, h.size, fun i hi hn => h.block i hi (fun e => hn (hr i e.symm hi))⟩
theorem Moved.set {w w1 : World} {S : Nat → Prop} (h : Moved w w1 S) {p : Addr} (hp : p.block < w.heap.size → S p.block) (u : Value) : Moved w (w1.setCell p u) S :=
 h.trans (S1 := fun i => i = p.block) ⟨rfl, rfl, rfl, by simp [World.setCell], fun i _ hn => Below.heap_setCell w1 p u i hn⟩ (fun i hi e => by subst e; exact hp hi)
theorem Moved.alloc {w w1 : World} {S : Nat → Prop} (h : Moved w w1 S) (o : Obj) : Moved w (w1.alloc o) S :=
 h.trans (S1 := fun _ => False) (Moved.of_below (below_alloc (Below.refl _ _) o) _) (fun _ _ e => e.elim)
theorem Moved.drewN {w w1 : World} {S : Nat → Prop} (h : Moved w w1 S) (n : Nat) : Moved w (w1.drewN n) S := ⟨h.os, h.tape, h.output, h.size, h.block⟩
theorem Moved.drew {w w1 : World} {S : Nat → Prop} (h : Moved w w1 S) : Moved w w1.drew S := ⟨h.os, h.tape, h.output, h.size, h.block⟩
theorem Moved.below {w w1 w2 : World} {S : Nat → Prop} (h : Moved w w1 S) (k : Below w1.heap.size w1 w2) : Moved w w2 S :=
 h.trans (S1 := fun _ => False) (Moved.of_below k _) (fun _ _ e => e.elim)
theorem Moved.blk {w w' : World} {S : Nat → Prop} (h : Moved w w' S) {g : Nat} {o : Obj} (hg : w.heap[g]? = some o) (hn : ¬ S g) : w'.heap[g]? = some o :=
 (h.block g (Array.getElem?_eq_some_iff.1 hg).1 hn).trans hg
structure Part where
 P : World → (Nat → Prop) → Prop
 mono : ∀ {w ok ok'}, P w ok → (∀ k, k < w.heap.size → ok k → ok' k) → P w ok'
 move : ∀ {w w' ok}, P w ok → Moved w w' (fun k => ¬ ok k) → P w' ok
theorem Part.moved (p : Part) {w w' : World} {ok S : Nat → Prop} (h : p.P w ok) (hm : Moved w w' S) (hd : ∀ k, k < w.heap.size → ok k → ¬ S k) : p.P w' ok :=
 p.move h (hm.wider (fun i hi hs e => hd i hi e hs))
def Sep (w : World) : (Nat → Prop) → List Part → Prop
 | _, [] => True
 | fr, p :: ps => ∃ ok : Nat → Prop, (∀ k, ok k → fr k) ∧ p.P w ok ∧ Sep w (fun k => fr k ∧ ¬ ok k) ps
def Sp (w : World) (ps : List Part) : Prop := Sep w (fun k => k < w.heap.size) ps
theorem Sep.wide {w : World} : ∀ {ps : List Part} {fr fr' : Nat → Prop}, Sep w fr ps → (∀ k, fr k → fr' k) → Sep w fr' ps
 | [], _, _, _, _ => trivial
 | p :: ps, fr, fr', ⟨ok, h1, h2, h3⟩, h => ⟨ok, fun k hk => h k (h1 k hk), h2, Sep.wide h3 (fun k hk => ⟨h k hk.1, hk.2⟩)⟩
theorem Sep.moved {w w' : World} {S : Nat → Prop} (hm : Moved w w' S) : ∀ {ps : List Part} {fr : Nat → Prop}, Sep w fr ps → (∀ k, k < w.heap.size → fr k → ¬ S k) → Sep w' fr ps
 | [], _, _, _ => trivial
 | p :: ps, fr, ⟨ok, h1, h2, h3⟩, h => ⟨ok, h1, p.moved h2 hm (fun k hk hok => h k hk (h1 k hok)), Sep.moved hm h3 (fun k hk hf => h k hk hf.1)⟩
theorem Sep.swap {w : World} {fr : Nat → Prop} {a b : Part} {ps : List Part} : Sep w fr (a :: b :: ps) → Sep w fr (b :: a :: ps) := by
 rintro ⟨ok, h1, h2, ok', h1', h2', h3⟩
 exact ⟨ok', fun k hk => (h1' k hk).1, h2', ok, fun k hk => ⟨h1 k hk, fun hk' => (h1' k hk').2 hk⟩, h2, h3.wide (fun k hk => ⟨⟨hk.1.1, hk.2⟩, hk.1.2⟩)⟩
theorem Sep.cons {w : World} {fr : Nat → Prop} {a : Part} {ps qs : List Part} (f : ∀ fr, Sep w fr ps → Sep w fr qs) : Sep w fr (a :: ps) → Sep w fr (a :: qs) := by
 rintro ⟨ok, h1, h2, h3⟩
 exact ⟨ok, h1, h2, f _ h3⟩
theorem Sep.tail {w : World} {fr : Nat → Prop} {a : Part} {ps : List Part} : Sep w fr (a :: ps) → Sep w fr ps := by
 rintro ⟨ok, h1, h2, h3⟩
 exact h3.wide (fun k hk => hk.1)
theorem Sep.app {w : World} : ∀ {ps qs : List Part} {fr1 fr2 fr : Nat → Prop}, Sep w fr1 ps → Sep w fr2 qs → (∀ k, fr1 k → fr k) → (∀ k, fr2 k → fr k) → (∀ k, fr1 k → ¬ fr2 k) → Sep w fr (ps ++ qs)
 | [], qs, fr1, fr2, fr, _, h, _, h2, _ => h.wide h2
 | p :: ps, qs, fr1, fr2, fr, ⟨ok, h1, h2, h3⟩, h, a, b, d =>
  ⟨ok, fun k hk => a k (h1 k hk), h2, Sep.app h3 h (fun k hk => ⟨a k hk.1, hk.2⟩) (fun k hk => ⟨b k hk, fun hok => d k (h1 k hok) hk⟩) (fun k hk => d k hk.1)⟩
theorem Sep.shrink {w : World} : ∀ {ps : List Part} {fr fr' : Nat → Prop}, Sep w fr ps → (∀ k, k < w.heap.size → fr k → fr' k) → Sep w fr' ps
 | [], _, _, _, _ => trivial
 | p :: ps, fr, fr', ⟨ok, h1, h2, h3⟩, h => ⟨fun k => ok k ∧ k < w.heap.size, fun k hk => h k hk.2 (h1 k hk.1), p.mono h2 (fun k hk hok => ⟨hok, hk⟩), Sep.shrink h3 (fun k hk hf => ⟨h k hk hf.1, fun e => hf.2 e.1⟩)⟩
theorem Sep.split {w : World} : ∀ {ps qs : List Part} {fr : Nat → Prop}, Sep w fr (ps ++ qs) → ∃ ok : Nat → Prop, (∀ k, ok k → fr k) ∧ Sep w ok ps ∧ Sep w (fun k => fr k ∧ ¬ ok k) qs
 | [], qs, fr, h => ⟨fun _ => False, fun _ h => h.elim, trivial, h.wide (fun k hk => ⟨hk, fun e => e⟩)⟩
 | p :: ps, qs, fr, ⟨ok, h1, h2, h3⟩ => by
  obtain ⟨ok', h1', h2', h3'⟩ := Sep.split (ps := ps) h3
  refine ⟨fun k => ok k ∨ ok' k, fun k hk => hk.elim (h1 k) (fun h => (h1' k h).1), ⟨ok, fun k hk => .inl hk, h2, h2'.wide (fun k hk => ⟨.inr hk, (h1' k hk).2⟩)⟩, h3'.wide (fun k hk => ⟨hk.1.1, fun e => e.elim hk.1.2 hk.2⟩)⟩
def Part.all (ps : List Part) : Part where
 P := fun w ok => Sep w ok ps
 mono := fun h hk => h.shrink hk
 move := fun h hm => Sep.moved hm h (fun k _ hk e => e hk)
def Part.ex {α : Type} (f : α → Part) : Part where
 P := fun w ok => ∃ x, (f x).P w ok
 mono := fun ⟨x, h⟩ hk => ⟨x, (f x).mono h hk⟩
 move := fun ⟨x, h⟩ hm => ⟨x, (f x).move h hm⟩
def Part.pure (p : Prop) : Part where
 P := fun _ _ => p
 mono := fun h _ => h
 move := fun h _ => h
section
variable {w w' : World} {a b c d e f : Part} {F G : List Part}
theorem Sp.nil (w : World) : Sp w [] := trivial
theorem Sp.tail (h : Sp w (a :: F)) : Sp w F := Sep.tail h
theorem Sp.s1 (h : Sp w (a :: b :: F)) : Sp w (b :: a :: F) := Sep.swap h
theorem Sp.s2 (h : Sp w (a :: b :: c :: F)) : Sp w (c :: a :: b :: F) := Sp.s1 (Sep.cons (fun _ => Sep.swap) h)
theorem Sp.s3 (h : Sp w (a :: b :: c :: d :: F)) : Sp w (d :: a :: b :: c :: F) := Sp.s1 (Sep.cons (fun _ h => Sep.swap (Sep.cons (fun _ => Sep.swap) h)) h)
theorem Sp.s4 (h : Sp w (a :: b :: c :: d :: e :: F)) : Sp w (e :: a :: b :: c :: d :: F) := Sp.s1 (Sep.cons (fun _ h => Sep.swap (Sep.cons (fun _ h => Sep.swap (Sep.cons (fun _ => Sep.swap) h)) h)) h)
theorem Sp.s5 (h : Sp w (a :: b :: c :: d :: e :: f :: F)) : Sp w (f :: a :: b :: c :: d :: e :: F) := Sp.s1 (Sep.cons (fun _ h => Sep.swap (Sep.cons (fun _ h => Sep.swap (Sep.cons (fun _ h => Sep.swap (Sep.cons (fun _ => Sep.swap) h)) h)) h)) h)
theorem Sp.below (h : Sp w F) (hb : Below w.heap.size w w') : Sp w' F :=
 (Sep.moved (Moved.of_below hb (fun _ => False)) h (fun _ _ _ e => e)).wide (fun _ hk => Nat.lt_of_lt_of_le hk hb.size)
theorem Sp.alloc (h : Sp w F) (o : Obj) : Sp (w.alloc o) F := h.below (below_alloc (Below.refl _ _) o)
theorem Sp.drewN (h : Sp w F) (n : Nat) : Sp (w.drewN n) F := h.below (pw_below_drewN (Below.refl _ _) n)
theorem Sp.drew (h : Sp w F) : Sp w.drew F := h.below (below_drew (Below.refl _ _))
theorem Sp.new (h : Sp w F) (hb : Below w.heap.size w w') (ha : a.P w' (fun k => w.heap.size ≤ k ∧ k < w'.heap.size)) : Sp w' (a :: F) :=
 ⟨fun k => w.heap.size ≤ k ∧ k < w'.heap.size, fun k hk => hk.2, ha, (Sep.moved (Moved.of_below hb (fun _ => False)) h (fun _ _ _ e => e)).wide (fun k hk => ⟨Nat.lt_of_lt_of_le hk hb.size, fun e => by omega⟩)⟩
theorem Sp.head (h : Sp w (a :: F)) : ∃ ok : Nat → Prop, (∀ k, ok k → k < w.heap.size) ∧ a.P w ok ∧
  ∀ w' qs, Moved w w' ok → Sep w' (fun k => ok k ∨ w.heap.size ≤ k ∧ k < w'.heap.size) qs → Sp w' (qs ++ F) := by
 obtain ⟨ok, h1, h2, h3⟩ := h
 refine ⟨ok, h1, h2, fun w' qs hm hq => ?_⟩
 refine Sep.app hq (Sep.moved hm h3 (fun k hk hf => hf.2)) (fun k hk => ?_) (fun k hk => Nat.lt_of_lt_of_le hk.1 hm.size) (fun k hk hf => ?_)
 ·
  rcases hk with hk | hk
  ·
   exact Nat.lt_of_lt_of_le (h1 k hk) hm.size
  ·
   exact hk.2
 ·
  rcases hk with hk | hk
  ·
   exact hf.2 hk
  ·
   omega
theorem Sp.head1 (h : Sp w (a :: F)) : ∃ ok : Nat → Prop, (∀ k, ok k → k < w.heap.size) ∧ a.P w ok ∧
  ∀ w' (q : Part), Moved w w' ok → q.P w' (fun k => ok k ∨ w.heap.size ≤ k ∧ k < w'.heap.size) → Sp w' (q :: F) := by
 obtain ⟨ok, h1, h2, h3⟩ := h.head
 exact ⟨ok, h1, h2, fun w' q hm hq => h3 w' [q] hm ⟨_, fun _ hk => hk, hq, trivial⟩⟩
theorem Sp.ofEx {α : Type} {f : α → Part} (h : Sp w (Part.ex f :: F)) : ∃ x, Sp w (f x :: F) := by
 obtain ⟨ok, h1, ⟨x, h2⟩, h3⟩ := h
 exact ⟨x, ok, h1, h2, h3⟩
theorem Sp.toEx {α : Type} {f : α → Part} (x : α) (h : Sp w (f x :: F)) : Sp w (Part.ex f :: F) := by
 obtain ⟨ok, h1, h2, h3⟩ := h
 exact ⟨ok, h1, ⟨x, h2⟩, h3⟩
theorem Sp.ofAll {ps : List Part} (h : Sp w (Part.all ps :: F)) : Sp w (ps ++ F) := by
 obtain ⟨ok, h1, h2, h3⟩ := h
 exact Sep.app h2 h3 h1 (fun k hk => hk.1) (fun k hk hf => hf.2 hk)
theorem Sp.toAll {ps : List Part} (h : Sp w (ps ++ F)) : Sp w (Part.all ps :: F) := by
 obtain ⟨ok, h1, h2, h3⟩ := Sep.split h
 exact ⟨ok, h1, h2, h3⟩
theorem Sp.has (h : Sp w (a :: F)) : ∃ ok, a.P w ok := by
 obtain ⟨ok, _, h2, _⟩ := h
 exact ⟨ok, h2⟩
end
def Old (w0 : World) : Part where
 P := fun w ok => (∀ k, k < w0.heap.size → ok k) ∧ Below w0.heap.size w0 w
 mono := fun h hk => ⟨fun k hk0 => hk k (Nat.lt_of_lt_of_le hk0 h.2.size) (h.1 k hk0), h.2⟩
 move := fun h hm => ⟨h.1, h.2.trans ⟨hm.os, hm.tape, hm.output, hm.size, fun k hk => hm.block k (Nat.lt_of_lt_of_le hk h.2.size) (fun e => e (h.1 k hk))⟩⟩
theorem Sp.start (w : World) : Sp w [Old w] := ⟨fun k => k < w.heap.size, fun _ h => h, ⟨fun _ h => h, Below.refl _ _⟩, trivial⟩
theorem Sp.old {w w0 : World} {F : List Part} (h : Sp w (Old w0 :: F)) : Below w0.heap.size w0 w := (h.has).elim fun _ h => h.2
def Row {α : Type} (d : Kd α) (e : Nat) (v : Value) (xs : List α) : Part where
 P := fun w ok => d.R e w 0 ok v xs
 mono := fun h hk => R_mono (R_bound h) (fun k hk' => hk k hk'.2.2.1 hk'.1)
 move := fun h hm => R_step h (fun k ho hk => hm.block k hk (fun hn => hn ho))
theorem Sp.row {α : Type} {d : Kd α} {e : Nat} {v : Value} {xs : List α} {w : World} {F : List Part} (h : Sp w (Row d e v xs :: F)) : ∃ A c, v = .slice A xs.length c ∧ xs.length ≤ c ∧ d.C w A xs.length xs := (h.has).elim fun _ h => R_reads h
theorem Sp.made {α : Type} {d : Kd α} {e : Nat} {v : Value} {xs : List α} {w w' : World} {F : List Part} {ok : Nat → Prop} (h : Sp w F) (hb : Below w.heap.size w w') (hr : d.R e w' w.heap.size ok v xs) : Sp w' (Row d e v xs :: F) :=
 h.new (a := Row d e v xs) hb (R_lower (R_mono (R_bound hr) (fun k hk => ⟨hk.2.1, hk.2.2.1⟩)) (Nat.zero_le _))
def Blk (g : Nat) (o : Obj) : Part where
 P := fun w ok => ok g ∧ w.heap[g]? = some o
 mono := fun h hk => ⟨hk g (Array.getElem?_eq_some_iff.1 h.2).1 h.1, h.2⟩
 move := fun h hm => ⟨h.1, hm.blk h.2 (fun hn => hn h.1)⟩
theorem Sp.blk {g : Nat} {o : Obj} {w : World} {F : List Part} (h : Sp w (Blk g o :: F)) : w.heap[g]? = some o := (h.has).elim fun _ h => h.2
theorem Sp.box {w : World} {F : List Part} (h : Sp w F) (o : Obj) : Sp (w.alloc o) (Blk w.heap.size o :: F) :=
 h.new (a := Blk w.heap.size o) (below_alloc (Below.refl _ _) o) ⟨⟨Nat.le_refl _, by simp⟩, blk_new w o⟩
theorem setCell_blk {w : World} {g j : Nat} {cs : Array Value} {t : TypeId} {fz : Nat × Nat} (h : w.heap[g]? = some (.cells cs t fz)) (u : Value) : (w.setCell ⟨g, j, none⟩ u).heap[g]? = some (.cells (cs.setIfInBounds j u) t fz) := by
 simp only [World.setCell, Array.getElem?_modify, if_true, h, Option.map_some]
 rfl
theorem Sp.store {g : Nat} {cs : Array Value} {t : TypeId} {fz : Nat × Nat} {w : World} {F : List Part} (h : Sp w (Blk g (.cells cs t fz) :: F)) (j : Nat) (u : Value) : Sp (w.setCell ⟨g, j, none⟩ u) (Blk g (.cells (cs.setIfInBounds j u) t fz) :: F) := by
 obtain ⟨ok, h1, h2, h3⟩ := h.head1
 exact h3 _ _ ((Moved.refl w ok).set (fun _ => h2.1) u) ⟨.inl h2.1, setCell_blk h2.2 u⟩
def El {α : Type} (d : Kd α) (p : α) (cs : List Value) : Part where
 P := fun w ok => d.M w 0 ok p cs
 mono := fun h hk => d.M_mono (fun k hk' => hk k hk'.2.2.1 hk'.1) (d.M_bound h)
 move := fun h hm => Kd.M_step h (fun k ho hk => hm.block k hk (fun hn => hn ho))
section
variable {P : Program} {ops : Array Oper} {rest : List Oper} {o : Oper} {a : Act} {Q : Exit → Act → World → Prop} {α : Type}
theorem Sp.appended {d : Kd α} {e : TypeId} {W w1 : World} {F : List Part} {v v1 : Value} {ys : List α} {ok1 ok2 : Nat → Prop} (h1 : ∀ k, ok1 k → k < W.heap.size) (h2 : ∀ k, ok2 k → k < W.heap.size)
  (h3 : Sep W (fun k => (k < W.heap.size ∧ ¬ ok1 k) ∧ ¬ ok2 k) F) (hv : ∀ k, v.ownBlock = some k → ok1 k) (hr : d.R e w1 0 (fun k => ok1 k ∨ ok2 k ∨ W.heap.size ≤ k) v1 ys) (hg : W.grownBy w1 v.ownBlock) : Sp w1 (Row d e v1 ys :: F) := by
 refine ⟨fun k => (ok1 k ∨ ok2 k ∨ W.heap.size ≤ k) ∧ k < w1.heap.size, fun k hk => hk.2, R_mono (R_bound hr) (fun k hk => ⟨hk.1, hk.2.2.1⟩), ?_⟩
 refine (Sep.moved (Moved.of_grown hg (S := ok1) (fun i hi _ => hv i hi)) h3 (fun k _ hf => hf.1.2)).wide (fun k hk => ⟨Nat.lt_of_lt_of_le hk.1.1 hg.size, fun e => ?_⟩)
 rcases e.1 with e | e | e
 ·
  exact hk.1.2 e
 ·
  exact hk.2 e
 ·
  have := hk.1.1; omega
theorem Sp.append (d : Kd α) {W : World} {F : List Part} (hgd : o.guard = none) (s x : Operand) (t e : TypeId) (z : Value) (bytes : Nat)
  (ho : o.op = .call { callee := .builtin .append, args := #[s, x], argTypes := #[t, t] })
  (ht : P.underlying t = some (.slice e)) (hinfo : (P.info? e).map (fun i => (i.zero, i.size, i.bytes)) = some (some z, d.sz, bytes)) (hz : z.cells.size = d.sz) (hs0 : 0 < d.sz) (hb0 : 0 < bytes)
  (v : Value) (xs : List α) (p : α) (cs : List Value) (hs : a.eval s = v) (hx : a.eval x = .slice (some ⟨W.heap.size, 0, none⟩) 1 1)
  (hS : Sp W (Row d e v xs :: El d p cs :: F)) (hl : (xs.length + 1) * bytes ≤ 140737488355328)
  (h : ∀ v1 w1, Sp w1 (Row d e v1 (xs ++ [p]) :: F) → wpList P ops Q rest (a.put o.dst v1) w1) :
  wpList P ops Q (o :: rest) a (W.alloc (.cells cs.toArray e)) := by
 obtain ⟨ok1, h1, hr, ok2, h2, hp, h3⟩ := hS
 refine R_append d (w0 := W) 0 hgd s x t e z bytes ho ht hinfo hz hs0 hb0 v xs p cs (fun k => ok1 k ∨ ok2 k ∨ W.heap.size ≤ k) ok2 hs hx hp (fun k hk => ⟨.inr (.inl hk), fun e => (h2 k hk).2 (hr.1 k e.symm)⟩) (fun k hk => .inr (.inr hk)) (R_mono hr (fun k hk => .inl hk)) (Below.refl _ _) (Nat.zero_le _) hl ?_
 intro v1 w1 hr1 _ hg _
 exact h v1 w1 (Sp.appended h1 (fun k hk => (h2 k hk).1) h3 hr.1 hr1 hg)
theorem Sp.appendRow (d : Kd α) {W : World} {F : List Part} (hgd : o.guard = none) (s x : Operand) (t e : TypeId) (z : Value) (bytes : Nat)
  (ho : o.op = .call { callee := .builtin .append, args := #[s, x], argTypes := #[t, t] })
  (ht : P.underlying t = some (.slice e)) (hinfo : (P.info? e).map (fun i => (i.zero, i.size, i.bytes)) = some (some z, d.sz, bytes)) (hz : z.cells.size = d.sz) (hs0 : 0 < d.sz) (hb0 : 0 < bytes)
  (v : Value) (xs ys : List α) (A : Option Addr) (m c : Nat) (hs : a.eval s = v) (hx : a.eval x = .slice A m c)
  (hKM : ∀ x cs, d.K W x cs → d.M W 0 (fun _ => False) x cs) (hS : Sp W (Row d e v xs :: F)) (hR : d.C W A m ys) (hl : (xs.length + m) * bytes ≤ 140737488355328)
  (h : ∀ v1 w1, Sp w1 (Row d e v1 (xs ++ ys) :: F) → wpList P ops Q rest (a.put o.dst v1) w1) :
  wpList P ops Q (o :: rest) a W := by
 obtain ⟨ok1, h1, hr, h3⟩ := hS
 refine R_append_rows d (w0 := W) 0 hgd s x t e z bytes ho ht hinfo hz hs0 hb0 v xs ys A m c (fun k => ok1 k ∨ False ∨ W.heap.size ≤ k) (fun _ => False) hs hx (R_mono hr (fun k hk => .inl hk)) hR hKM (fun _ h => h.elim) (fun k hk => .inr (.inr hk)) (Below.refl _ _) (Nat.zero_le _) hl ?_
 intro v1 w1 hr1 _ hg _
 exact h v1 w1 (Sp.appended (ok2 := fun _ => False) h1 (fun k hk => hk.elim) (h3.wide (fun k hk => ⟨hk, fun e => e⟩)) hr.1 hr1 hg)
end
theorem Sp.elem {α : Type} {d : Kd α} {e g n cap : Nat} {w : World} {xs : List α} {F : List Part} (hS : Sp w (Row d e (.slice (some ⟨g, 0, none⟩) n cap) xs :: F)) (z : α) (i : Nat) (hi : i < n) :
  ∃ c, c.length = d.sz ∧ (∀ j u, c[j]? = some u → w.cell? ⟨g, i * d.sz + j, none⟩ = some u) ∧ (∀ j, w.frozen? ⟨g, i * d.sz + j, none⟩ = false) ∧ d.K w (xs.getD i z) c := by
 obtain ⟨ok, h2⟩ := hS.has
 obtain ⟨c, hcl, hM, hcc, hf⟩ := R_elem h2 z (i : Int) z4 z4
 simp only [Int.toNat_natCast] at hM hcc hf
 exact ⟨c, hcl, hcc, hf, d.K_of_M hM⟩
section
variable {P : Program} {ops : Array Oper} {o : Oper} {a : Act} {Q : Exit → Act → World → Prop} {Kc : Act → World → Prop} {α : Type}
theorem Sp.append_step (d : Kd α) {W : World} {F : List Part} (hw : Region.wanted o (yielded ops a.tmps) = true) (s x : Operand) (t e : TypeId) (z : Value) (bytes : Nat)
  (ho : o.op = .call { callee := .builtin .append, args := #[s, x], argTypes := #[t, t] })
  (ht : P.underlying t = some (.slice e)) (hinfo : (P.info? e).map (fun i => (i.zero, i.size, i.bytes)) = some (some z, d.sz, bytes)) (hz : z.cells.size = d.sz) (hs0 : 0 < d.sz) (hb0 : 0 < bytes)
  (v : Value) (xs : List α) (p : α) (cs : List Value) (hs : a.eval s = v) (hx : a.eval x = .slice (some ⟨W.heap.size, 0, none⟩) 1 1)
  (hS : Sp W (Row d e v xs :: El d p cs :: F)) (hl : (xs.length + 1) * bytes ≤ 140737488355328)
  (h : ∀ v1 w1, Sp w1 (Row d e v1 (xs ++ [p]) :: F) → Kc (a.put o.dst v1) w1) :
  if Region.wanted o (yielded ops a.tmps) = true then Oper.wp P o a (W.alloc (.cells cs.toArray e)) Kc Q else Kc (a.put o.dst undef) (W.alloc (.cells cs.toArray e)) := by
 obtain ⟨ok1, h1, hr, ok2, h2, hp, h3⟩ := hS
 refine R_append_step d (w0 := W) 0 hw s x t e z bytes ho ht hinfo hz hs0 hb0 v xs p cs (fun k => ok1 k ∨ ok2 k ∨ W.heap.size ≤ k) ok2 hs hx hp (fun k hk => ⟨.inr (.inl hk), fun e => (h2 k hk).2 (hr.1 k e.symm)⟩) (fun k hk => .inr (.inr hk)) (R_mono hr (fun k hk => .inl hk)) (Below.refl _ _) (Nat.zero_le _) hl ?_
 intro v1 w1 hr1 _ hg _
 exact h v1 w1 (Sp.appended h1 (fun k hk => (h2 k hk).1) h3 hr.1 hr1 hg)
end
theorem Sp.as {w : World} {a b : Part} {F : List Part} (h : Sp w (a :: F)) (hab : ∀ ok, a.P w ok → b.P w ok) : Sp w (b :: F) := by
 obtain ⟨ok, h1, h2, h3⟩ := h
 exact ⟨ok, h1, hab ok h2, h3⟩
end Go.Proofs.Ytjnjfogfpmeacaa.Sep
end
section
namespace Go.Proofs.Ytjnjfogfpmeacaa.Plain
open Go.RowKit PrintWords PrintLast PrintMore ZipT PrintWords.Kd PrintMore.Kd
set_option linter.unusedVariables false
set_option linter.unusedSimpArgs false
theorem w64 {x : Int} (h0 : -9223372036854775808 ≤ x) (h1 : x ≤ 9223372036854775807) : wrap64 x = x := by
 unfold wrap64; omega
theorem wu64 {x : Int} (h0 : 0 ≤ x) (h1 : x < 18446744073709551616) : IntKind.u64.wrap x = x := by
 simp [IntKind.wrap, IntKind.bits, IntKind.signed]; omega
theorem wi64 (x : Int) : IntKind.i64.wrap x = wrap64 x := by rw [IntKind.wrap_i64]; unfold wrap64; rfl
theorem wf_u8 {x : Int} (h : (Lit.int .u8 x).wf = true) : 0 ≤ x ∧ x ≤ 255 := by
 simp [Lit.wf, IntKind.min, IntKind.max, IntKind.bits, IntKind.signed] at h; omega
def Byte (b : Int) : Prop := 0 ≤ b ∧ b ≤ 255
def Bytes (l : List Int) : Prop := ∀ b ∈ l, Byte b
theorem Bytes.nil : Bytes [] := fun _ h => by cases h
theorem Bytes.cons {b : Int} {l : List Int} (h : Byte b) (k : Bytes l) : Bytes (b :: l) := fun x hx => by
 rcases List.mem_cons.1 hx with rfl | hx
 ·
  exact h
 ·
  exact k x hx
theorem Bytes.head {b : Int} {l : List Int} (h : Bytes (b :: l)) : Byte b := h b List.mem_cons_self
theorem Bytes.tail {b : Int} {l : List Int} (h : Bytes (b :: l)) : Bytes l := fun x hx => h x (List.mem_cons_of_mem _ hx)
theorem Bytes.append {a b : List Int} (h : Bytes a) (k : Bytes b) : Bytes (a ++ b) := fun x hx => by
 rcases List.mem_append.1 hx with hx | hx
 ·
  exact h x hx
 ·
  exact k x hx
theorem Bytes.take {a : List Int} (h : Bytes a) (n : Nat) : Bytes (a.take n) := fun x hx => h x (List.mem_of_mem_take hx)
theorem Bytes.drop {a : List Int} (h : Bytes a) (n : Nat) : Bytes (a.drop n) := fun x hx => h x (List.mem_of_mem_drop hx)
theorem Bytes.rd {l : List Int} (h : Bytes l) (i : Int) : Byte (rd l i) := by
 show Byte (l.getD i.toNat 0)
 rcases Nat.lt_or_ge i.toNat l.length with hi | hi
 ·
  rw [List.getD_eq_getElem?_getD, List.getElem?_eq_getElem hi]; exact h _ (List.getElem_mem hi)
 ·
  rw [List.getD_eq_getElem?_getD, List.getElem?_eq_none hi]; exact ⟨by decide, by decide⟩
def big (n : Int) : Nat → List Int
 | 0 => []
 | s + 1 => (n / 256 ^ s) % 256 :: big n s
def val : Int → List Int → Int
 | a, [] => a
 | a, b :: l => val (a * 256 + b) l
theorem big_length (n : Int) (s : Nat) : (big n s).length = s := by
 induction s with
 | zero => rfl
 | succ s ih => simp [big, ih]
theorem big_bytes (n : Int) (s : Nat) : Bytes (big n s) := by
 induction s with
 | zero => exact Bytes.nil
 | succ s ih =>
  refine Bytes.cons ⟨?_, ?_⟩ ih
  ·
   exact Int.emod_nonneg _ z5
  ·
   have := Int.emod_lt_of_pos (n / 256 ^ s) (show (0 : Int) < 256 by decide); omega
theorem emod_mul' (n a b : Int) (ha : 0 < a) : n % (a * b) = (n / a % b) * a + n % a := by
 have h1 := Int.emod_add_mul_ediv n a
 have h2 := Int.emod_add_mul_ediv (n / a) b
 have h3 : n % (a * b) = n - a * b * (n / (a * b)) := by have := Int.emod_add_mul_ediv n (a * b); omega
 have h4 : n / (a * b) = n / a / b := (Int.ediv_ediv_of_nonneg z4).symm
 rw [h3, h4]
 have h5 : a * (n / a) = a * (n / a % b) + a * (b * (n / a / b)) := by rw [← Int.mul_add]; exact congrArg (a * ·) h2.symm
 rw [Int.mul_assoc, Int.mul_comm (n / a % b)]
 omega
theorem pow_pos (s : Nat) : (0 : Int) < 256 ^ s := Int.pow_pos z5
theorem val_big (n : Int) (s : Nat) (a : Int) : val a (big n s) = a * 256 ^ s + n % 256 ^ s := by
 induction s generalizing a with
 | zero => simp [big, val]
 | succ s ih =>
  have hp := pow_pos s
  have h1 : n % 256 ^ (s + 1) = (n / 256 ^ s % 256) * 256 ^ s + n % 256 ^ s := by
   have e : (256 : Int) ^ (s + 1) = 256 ^ s * 256 := Int.pow_succ _ _
   rw [e]; exact emod_mul' _ _ _ hp
  rw [big, val, ih, h1, Int.pow_succ]
  rw [Int.add_mul, Int.mul_assoc, Int.mul_comm 256]
  omega
end Go.Proofs.Ytjnjfogfpmeacaa.Plain
end
section
namespace Go.Proofs.Ytjnjfogfpmeacaa.Plain
open Go.RowKit PAll PrintWords PrintLast PrintMore ZipT PrintWords.Kd PrintMore.Kd
set_option linter.unusedVariables false
set_option linter.unusedSimpArgs false
theorem pow256 (s : Nat) : (2 : Int) ^ (8 * s) = 256 ^ s := by rw [Int.pow_mul]; rfl
theorem pow256_le {s : Nat} (h : s ≤ 7) : (256 : Int) ^ s ≤ 72057594037927936 := by
 have : s = 0 ∨ s = 1 ∨ s = 2 ∨ s = 3 ∨ s = 4 ∨ s = 5 ∨ s = 6 ∨ s = 7 := by omega
 rcases this with rfl | rfl | rfl | rfl | rfl | rfl | rfl | rfl <;> decide
theorem shr_bytes (n : Int) (i : Nat) (hi : i ≤ 8) : shr .i64 n (8 * i) = n / 256 ^ i := by
 unfold shr
 have h1 : (8 * (i : Int)).toNat = 8 * i := by omega
 rw [h1, Nat.min_eq_left (by simp [IntKind.bits]; omega), pow256]
theorem shl_bytes (i : Nat) (hi : i ≤ 7) : shl .i64 1 (8 * i) = 256 ^ i := by
 unfold shl
 have h1 : (8 * (i : Int)).toNat = 8 * i := by omega
 have h2 := pow256_le hi
 have h3 := pow_pos i
 rw [h1, Nat.min_eq_left (by simp [IntKind.bits]; omega), pow256, wi64, Int.one_mul, w64 z4 z4]
theorem clone_eq (l : List Int) (hl : l.length ≤ 1000000) : slices_Clone_byte_byte.f l = some l := by
 unfold slices_Clone_byte_byte.f
 simp only [Option.bind_some, List.length_nil, List.nil_append]
 rw [if_pos z4]
theorem big_l0 (n : Int) (i : Nat) : ∀ (k : Nat) (out : List Int), i ≤ 8 → out.length + i ≤ 1000000 → i < k → wire_big.l0 k n out ((i : Int) - 1) = some (out ++ big n i) := by
 induction i with
 | zero =>
  intro k out _ _ hk
  obtain ⟨k, rfl⟩ : ∃ m, k = m + 1 := ⟨k - 1, by omega⟩
  simp only [wire_big.l0]
  rw [if_neg z4]
  simp [big]
 | succ i ih =>
  intro k out hi ho hk
  obtain ⟨k, rfl⟩ : ∃ m, k = m + 1 := ⟨k - 1, by omega⟩
  simp only [wire_big.l0]
  have e : (((i + 1 : Nat) : Int) - 1) = (i : Int) := by omega
  rw [e, if_pos z4, w64 z4 z4, if_pos z4, if_pos z4, shr_bytes n i z4, w64 z4 z4, ih k _ z4 (by simp; omega) z4]
  simp [big]
theorem big_eq (k : Nat) (l : List Int) (n size : Int) (h0 : 0 ≤ size) (h1 : size ≤ 8) (hl : l.length ≤ 900000) (hk : 10 ≤ k) : wire_big.f k l n size = some (l ++ big n size.toNat) := by
 obtain ⟨s, rfl⟩ := Int.eq_ofNat_of_zero_le h0
 unfold wire_big.f
 rw [clone_eq l z4, Option.bind_some, w64 z4 z4, Int.toNat_natCast]
 exact big_l0 n s k l z4 z4 z4
def sPut (l : List Int) (n size : Int) : List Int × Int := if 1 ≤ size ∧ size ≤ 7 ∧ 0 ≤ n ∧ n < 256 ^ size.toNat then (l ++ big n size.toNat, 0) else ([], 1)
theorem put_eq (k : Nat) (l : List Int) (n size : Int) (hl : l.length ≤ 900000) (hk : 10 ≤ k) : wire_Put.f k l n size = some (sPut l n size) := by
 unfold wire_Put.f sPut
 by_cases h1 : size < 1
 ·
  rw [if_pos h1, if_neg z4]
 rw [if_neg h1]
 by_cases h2 : size > 7
 ·
  rw [if_pos h2, if_neg z4]
 rw [if_neg h2]
 by_cases h3 : n < 0
 ·
  rw [if_pos h3, if_neg z4]
 obtain ⟨s, rfl⟩ := Int.eq_ofNat_of_zero_le (show 0 ≤ size by omega)
 rw [if_neg h3, w64 z4 z4, if_pos z4, shl_bytes s z4, Int.toNat_natCast]
 by_cases h4 : n ≥ 256 ^ s
 ·
  rw [if_pos h4, if_neg z4]
 rw [if_neg h4, big_eq k l n s z4 z4 hl hk, Option.bind_some, Int.toNat_natCast, if_pos z4]
def intB (n : Int) : List Int := if n < 0 then 1 :: big (-n) 8 else 0 :: big n 8
def sPutInt (l : List Int) (n : Int) : List Int × Int := if -1152921504606846976 ≤ n ∧ n ≤ 1152921504606846976 then (l ++ intB n, 0) else ([], 1)
theorem putInt_eq (k : Nat) (l : List Int) (n : Int) (hl : l.length ≤ 800000) (hk : 20 ≤ k) : wire_PutInt.f k l n = some (sPutInt l n) := by
 obtain ⟨k, rfl⟩ : ∃ m, k = m + 1 := ⟨k - 1, by omega⟩
 unfold wire_PutInt.f sPutInt
 by_cases h1 : n < -1152921504606846976
 ·
  rw [if_pos h1, if_neg z4]
  simp [wire_PutInt.j0]
 rw [if_neg h1]
 by_cases h2 : n > 1152921504606846976
 ·
  rw [if_neg z4]
  simp [wire_PutInt.j0, h2]
 rw [if_pos z4]
 simp only [wire_PutInt.j0, h2, decide_false]
 rw [if_neg (by simp)]
 unfold intB
 by_cases h3 : n < 0
 ·
  rw [if_pos h3, if_pos h3, clone_eq l z4, Option.bind_some, if_pos z4, w64 z4 z4, big_eq k _ _ 8 z4 z4 (by simp; omega) z4]
  simp
 rw [if_neg h3, if_neg h3, clone_eq l z4, Option.bind_some, if_pos z4, big_eq k _ _ 8 z4 z4 (by simp; omega) z4]
 simp
def sPutText (l : List Int) (s : ByteArray) : List Int × Int := if s.size ≤ 24 then (l ++ (s.size : Int) :: bytesOf s, 0) else ([], 2)
theorem putText_eq (l : List Int) (s : ByteArray) (hl : l.length ≤ 800000) : wire_PutText.f l s = some (sPutText l s) := by
 unfold wire_PutText.f sPutText
 by_cases h1 : (s.size : Int) > 24
 ·
  rw [if_pos h1, if_neg z4]
 rw [if_neg h1, if_pos z4, clone_eq l z4, Option.bind_some, if_pos z4]
 simp only [Option.bind_some]
 rw [if_pos (by simp; omega), show ((s.size : Int) % 256) = s.size from by omega]
 simp
theorem val_nonneg (l : List Int) : ∀ a : Int, 0 ≤ a → Bytes l → 0 ≤ val a l := by
 induction l with
 | nil => intro a h _; exact h
 | cons b l ih =>
  intro a h hb
  have := hb.head
  exact ih _ (by unfold Byte at this; omega) hb.tail
theorem val_lt (l : List Int) : ∀ a : Int, 0 ≤ a → Bytes l → val a l < (a + 1) * 256 ^ l.length := by
 induction l with
 | nil => intro a h _; simp [val]; omega
 | cons b l ih =>
  intro a h hb
  have h1 := hb.head
  unfold Byte at h1
  have h2 := ih (a * 256 + b) z4 hb.tail
  have h3 := pow_pos l.length
  rw [val]
  refine Int.lt_of_lt_of_le h2 ?_
  rw [List.length_cons, Int.pow_succ, Int.mul_comm ((256 : Int) ^ l.length), ← Int.mul_assoc]
  exact Int.mul_le_mul_of_nonneg_right z4 z4
theorem or_u64 (a b : Int) (h0 : 0 ≤ a) (h1 : a * 256 < 18446744073709551616) (hb : Byte b) : Go.bits .or .u64 (IntKind.u64.wrap (a * 256)) (IntKind.u64.wrap b) = a * 256 + b := by
 unfold Byte at hb
 rw [wu64 z4 h1, wu64 z4 z4]
 exact bits_join .u64 64 z5 (fun n h h' => wu64 h z4) 8 _ _ z4 z4 z4 z4 z4 z4
theorem or_i64 (a b : Int) (h0 : 0 ≤ a) (h1 : a * 256 < 9223372036854775808) (hb : Byte b) : Go.bits .or .i64 (wrap64 (a * 256)) (wrap64 b) = a * 256 + b := by
 unfold Byte at hb
 rw [w64 z4 z4, w64 z4 z4]
 exact bits_join .i64 63 z5 (fun n h h' => by rw [wi64]; exact w64 z4 z4) 8 _ _ z4 z4 z4 z4 z4 z4
theorem rd_drop {l : List Int} {i : Nat} {b : Int} {m : List Int} (h : l.drop i = b :: m) : rd l i = b := by
 have hi : i < l.length := by
  rcases Nat.lt_or_ge i l.length with h1 | h1
  ·
   exact h1
  ·
   rw [List.drop_eq_nil_of_le h1] at h; cases h
 show l.getD (i : Int).toNat 0 = b
 rw [List.getD_eq_getElem?_getD, Int.toNat_natCast, List.getElem?_eq_getElem hi]
 have := List.drop_eq_getElem_cons hi
 rw [this] at h
 injection h
theorem drop_tail {l : List Int} {i : Nat} {b : Int} {m : List Int} (h : l.drop i = b :: m) : l.drop (i + 1) = m := by
 have := congrArg List.tail h
 rwa [List.tail_drop] at this
theorem drop_lt {l : List Int} {i : Nat} {b : Int} {m : List Int} (h : l.drop i = b :: m) : i < l.length := by
 rcases Nat.lt_or_ge i l.length with h1 | h1
 ·
  exact h1
 ·
  rw [List.drop_eq_nil_of_le h1] at h; cases h
theorem drop_end {l : List Int} {i : Nat} (h : l.drop i = []) : l.length ≤ i := by
 rcases Nat.lt_or_ge i l.length with h1 | h1
 ·
  have := List.drop_eq_getElem_cons h1; rw [this] at h; cases h
 ·
  exact h1
theorem num_l0 (l : List Int) (hb : Bytes l) (m : List Int) : ∀ (k i : Nat) (a : Int), l.drop i = m → 0 ≤ a → (a + 1) * 256 ^ m.length ≤ 18446744073709551616 → i + m.length ≤ 1000 → m.length < k →
  wire_num.l0 k a l (l.length : Int) i = some (val a m) := by
 induction m with
 | nil =>
  intro k i a h h0 h1 hi hk
  obtain ⟨k, rfl⟩ : ∃ m, k = m + 1 := ⟨k - 1, by omega⟩
  have := drop_end h
  simp only [wire_num.l0]
  rw [if_neg z4]
  rfl
 | cons b m ih =>
  intro k i a h h0 h1 hi hk
  obtain ⟨k, rfl⟩ : ∃ m, k = m + 1 := ⟨k - 1, by omega⟩
  have hlt := drop_lt h
  have hbb : Byte b := by have := hb.rd i; rw [rd_drop h] at this; exact this
  have hbb' := hbb
  unfold Byte at hbb'
  simp only [List.length_cons] at hi hk h1
  have hp := pow_pos m.length
  have h2 : (a * 256 + b + 1) * 256 ^ m.length ≤ 18446744073709551616 := by
   refine Int.le_trans ?_ h1
   rw [Int.pow_succ, Int.mul_comm ((256 : Int) ^ m.length), ← Int.mul_assoc]
   exact Int.mul_le_mul_of_nonneg_right z4 z4
  have h3 : (a * 256 + b + 1) * 1 ≤ (a * 256 + b + 1) * 256 ^ m.length := Int.mul_le_mul_of_nonneg_left z4 z4
  simp only [wire_num.l0]
  rw [if_pos z4, if_pos z4, if_pos z4, rd_drop h, or_u64 a b h0 z4 hbb, w64 z4 z4]
  exact ih k (i + 1) _ (drop_tail h) z4 h2 z4 z4
theorem num_eq (k : Nat) (l : List Int) (hb : Bytes l) (hl : l.length ≤ 8) (hk : 10 ≤ k) : wire_num.f k l = some (val 0 l) := by
 unfold wire_num.f
 refine num_l0 l hb l k 0 0 rfl z4 ?_ z4 z4
 have : l.length = 8 ∨ l.length ≤ 7 := by omega
 rcases this with h | h
 ·
  rw [h]; decide
 ·
  have := pow256_le h; omega
def sub (l : List Int) (a b : Nat) : List Int := (l.take b).drop a
theorem sub_length {l : List Int} {a b : Nat} (h : b ≤ l.length) : (sub l a b).length = b - a := by simp [sub]; omega
theorem sub_bytes {l : List Int} (h : Bytes l) (a b : Nat) : Bytes (sub l a b) := (h.take b).drop a
def sGet (l : List Int) (at_ size : Int) : Int × Int × Int :=
 if 1 ≤ size ∧ size ≤ 7 ∧ 0 ≤ at_ ∧ at_ ≤ l.length then (if l.length - at_ < size then (0, 0, 3) else (val 0 (sub l at_.toNat (at_ + size).toNat), at_ + size, 0)) else (0, 0, 1)
theorem val7 {l : List Int} (hb : Bytes l) (h : l.length ≤ 7) : 0 ≤ val 0 l ∧ val 0 l < 72057594037927936 := by
 have h1 := val_lt l 0 z4 hb
 have h2 := pow256_le h
 exact ⟨val_nonneg l 0 z4 hb, by omega⟩
theorem get_eq (k : Nat) (l : List Int) (at_ size : Int) (hb : Bytes l) (hl : l.length ≤ 1000000) (ha : at_ ≤ 9223372036854775807) (hk : 20 ≤ k) : wire_Get.f k l at_ size = some (sGet l at_ size) := by
 obtain ⟨k, rfl⟩ : ∃ m, k = m + 1 := ⟨k - 1, by omega⟩
 unfold wire_Get.f sGet
 by_cases h1 : size < 1
 ·
  rw [if_pos h1, if_neg z4]; simp [wire_Get.j0]
 rw [if_neg h1]
 by_cases h2 : size > 7
 ·
  rw [if_pos h2, if_neg z4]; simp [wire_Get.j0]
 rw [if_neg h2]
 by_cases h3 : at_ < 0
 ·
  rw [if_pos h3, if_neg z4]; simp [wire_Get.j0]
 rw [if_neg h3]
 by_cases h4 : at_ > (l.length : Int)
 ·
  rw [if_neg z4]; simp [wire_Get.j0, h4]
 rw [if_pos z4]
 simp only [wire_Get.j0, h4, decide_false]
 rw [if_neg (by simp), w64 z4 z4]
 by_cases h5 : (l.length : Int) - at_ < size
 ·
  rw [if_pos h5, if_pos h5]
 have hs : (sub l at_.toNat (at_ + size).toNat).length ≤ 7 := by rw [sub_length z4]; omega
 have hv := val7 (sub_bytes hb at_.toNat (at_ + size).toNat) hs
 rw [if_neg h5, if_neg h5, w64 z4 z4, if_pos z4, if_pos z4, if_pos z4]
 have := num_eq k (sub l at_.toNat (at_ + size).toNat) (sub_bytes hb _ _) z4 z4
 unfold sub at this
 rw [this, Option.bind_some, ]
 unfold sub at hv
 rw [w64 z4 z4]
 rfl
def sGetInt (l : List Int) (at_ : Int) : Int × Int × Int :=
  if 0 ≤ at_ ∧ at_ ≤ l.length then
    (if l.length - at_ < 9 ∨ rd l at_ > 1 ∨ val 0 (sub l (at_ + 1).toNat (at_ + 9).toNat) > 1152921504606846976 ∨ (rd l at_ = 1 ∧ val 0 (sub l (at_ + 1).toNat (at_ + 9).toNat) = 0) then (0, 0, 3)
     else if rd l at_ = 1 then (-(val 0 (sub l (at_ + 1).toNat (at_ + 9).toNat)), at_ + 9, 0) else (val 0 (sub l (at_ + 1).toNat (at_ + 9).toNat), at_ + 9, 0))
  else (0, 0, 1)
theorem getInt_eq (k : Nat) (l : List Int) (at_ : Int) (hb : Bytes l) (hl : l.length ≤ 1000000) (ha : at_ ≤ 9223372036854775807) (hk : 20 ≤ k) : wire_GetInt.f k l at_ = some (sGetInt l at_) := by
 obtain ⟨k, rfl⟩ : ∃ m, k = m + 3 := ⟨k - 3, by omega⟩
 unfold wire_GetInt.f sGetInt
 by_cases h1 : at_ < 0
 ·
  rw [if_pos h1, if_neg z4]; simp [wire_GetInt.j0]
 rw [if_neg h1]
 by_cases h2 : at_ > (l.length : Int)
 ·
  rw [if_neg z4]; simp [wire_GetInt.j0, h2]
 rw [if_pos z4]
 simp only [wire_GetInt.j0, h2, decide_false]
 rw [if_neg (by simp), w64 z4 z4]
 by_cases h3 : (l.length : Int) - at_ < 9
 ·
  rw [if_pos h3, if_pos (Or.inl h3)]; simp [wire_GetInt.j1]
 rw [if_neg h3, if_pos z4, if_pos z4]
 by_cases h4 : rd l at_ > 1
 ·
  rw [if_pos (Or.inr (Or.inl h4))]; simp [wire_GetInt.j1, h4]
 have hs : (sub l (at_ + 1).toNat (at_ + 9).toNat).length = 8 := by rw [sub_length z4]; omega
 have hn := fun k' (hk' : 10 ≤ k') => num_eq k' (sub l (at_ + 1).toNat (at_ + 9).toNat) (sub_bytes hb _ _) z4 hk'
 have hv := val_nonneg (sub l (at_ + 1).toNat (at_ + 9).toNat) 0 z4 (sub_bytes hb _ _)
 have hr := hb.rd at_
 unfold Byte at hr
 simp only [wire_GetInt.j1, h4, decide_false]
 rw [if_neg (by simp), w64 z4 z4, w64 z4 z4, if_pos z4, if_pos z4, if_pos z4]
 generalize hV : val 0 (sub l (at_ + 1).toNat (at_ + 9).toNat) = V at *
 unfold sub at hn
 rw [hn _ z4, Option.bind_some]
 by_cases h5 : V > 1152921504606846976
 ·
  rw [if_pos h5, if_pos z4]; simp [wire_GetInt.j2]
 rw [if_neg h5, if_pos z4, if_pos z4]
 by_cases h6 : rd l at_ = 1
 rotate_left
 ·
  rw [if_neg h6, if_neg (by simp; omega), if_neg h6]
  simp only [wire_GetInt.j2]
  rw [if_neg (by simp), if_pos z4, if_pos z4, if_neg h6, w64 (x := V) z4 z4, w64 (x := at_ + 9) z4 z4]
 rw [if_pos h6]
 by_cases h7 : V = 0
 ·
  rw [if_pos z4]; simp [wire_GetInt.j2, h7]
 have h7' : (V == 0) = false := by simpa using h7
 rw [if_neg (by simp; omega), if_pos h6]
 simp only [wire_GetInt.j2, h7']
 rw [if_neg (by simp), if_pos z4, if_pos z4, if_pos h6, w64 (x := V) z4 z4, w64 (x := -V) z4 z4, w64 (x := at_ + 9) z4 z4]
def sGetText (l : List Int) (at_ : Int) : ByteArray × Int × Int :=
  if 0 ≤ at_ ∧ at_ ≤ l.length then
    (if at_ = l.length ∨ rd l at_ > 24 ∨ l.length - at_ - 1 < rd l at_ then (⟨#[]⟩, 0, 3)
     else (strOfNums (sub l (at_ + 1).toNat (at_ + 1 + rd l at_).toNat), at_ + 1 + rd l at_, 0))
  else (⟨#[]⟩, 0, 1)
theorem getText_eq (k : Nat) (l : List Int) (at_ : Int) (hb : Bytes l) (hl : l.length ≤ 1000000) (ha : at_ ≤ 9223372036854775807) (hk : 20 ≤ k) : wire_GetText.f k l at_ = some (sGetText l at_) := by
 obtain ⟨k, rfl⟩ : ∃ m, k = m + 1 := ⟨k - 1, by omega⟩
 unfold wire_GetText.f sGetText
 by_cases h1 : at_ < 0
 ·
  rw [if_pos h1, if_neg z4]; simp [wire_GetText.j0]
 rw [if_neg h1]
 by_cases h2 : at_ > (l.length : Int)
 ·
  rw [if_neg z4]; simp [wire_GetText.j0, h2]
 rw [if_pos z4]
 simp only [wire_GetText.j0, h2, decide_false]
 rw [if_neg (by simp)]
 by_cases h3 : at_ = (l.length : Int)
 ·
  rw [if_pos h3, if_pos (Or.inl h3)]
 have hr := hb.rd at_
 unfold Byte at hr
 rw [if_neg h3, if_pos z4, if_pos z4, w64 z4 z4]
 by_cases h4 : rd l at_ > 24
 ·
  rw [if_pos h4, if_pos (Or.inr (Or.inl h4))]
 rw [if_neg h4, w64 (x := (l.length : Int) - at_) z4 z4, w64 z4 z4]
 by_cases h5 : (l.length : Int) - at_ - 1 < rd l at_
 ·
  rw [if_pos h5, if_pos (Or.inr (Or.inr h5))]
 rw [if_neg h5, w64 (x := at_ + 1) z4 z4, w64 (x := at_ + 1 + rd l at_) z4 z4, if_pos z4, if_pos z4, if_pos z4, if_neg z4]
 rfl
end Go.Proofs.Ytjnjfogfpmeacaa.Plain
end
section
namespace Go.Proofs.Ytjnjfogfpmeacaa.Plain
open Go.RowKit PAll PrintWords PrintLast PrintMore ZipT PrintWords.Kd PrintMore.Kd
set_option linter.unusedVariables false
set_option linter.unusedSimpArgs false
theorem strOfNums_bytesOf (s : ByteArray) : strOfNums (bytesOf s) = s := by
 unfold strOfNums bytesOf
 rw [List.map_map]
 have : (fun n : Int => UInt8.ofNat n.toNat) ∘ (fun b : UInt8 => (b.toNat : Int)) = id := by
  funext b; simp
 rw [this, List.map_id]
theorem bytesOf_bytes (s : ByteArray) : Bytes (bytesOf s) := by
 intro b hb
 unfold bytesOf at hb
 obtain ⟨c, _, rfl⟩ := List.mem_map.1 hb
 have := c.toNat_lt
 exact ⟨by omega, by omega⟩
theorem bytesOf_strOfNums {l : List Int} (h : Bytes l) : bytesOf (strOfNums l) = l := by
 unfold strOfNums bytesOf
 simp only [List.map_map]
 induction l with
 | nil => rfl
 | cons b l ih =>
  have hb := h.head
  unfold Byte at hb
  rw [List.map_cons, ih h.tail]
  congr 1
  simp
  omega
theorem strOfNums_size (l : List Int) : (strOfNums l).size = l.length := by
 unfold strOfNums; simp [ByteArray.size]
theorem intB_length (n : Int) : (intB n).length = 9 := by unfold intB; split <;> simp [big_length]
theorem intB_bytes (n : Int) : Bytes (intB n) := by
 unfold intB
 split
 ·
  exact Bytes.cons ⟨by decide, by decide⟩ (big_bytes _ _)
 ·
  exact Bytes.cons ⟨by decide, by decide⟩ (big_bytes _ _)
theorem sub_mid (a b c : List Int) {i j : Nat} (hi : i = a.length) (hj : j = a.length + b.length) : sub (a ++ b ++ c) i j = b := by
 subst hi hj
 unfold sub
 rw [List.take_append_of_le_length (by simp), ← List.length_append, List.take_length, List.drop_left]
theorem rd_mid (a : List Int) (b : Int) (c : List Int) {i : Int} (hi : i = a.length) : rd (a ++ b :: c) i = b := by
 subst hi
 exact rd_drop (m := c) (by rw [List.drop_left])
theorem pow8 : (256 : Int) ^ 8 = 18446744073709551616 := by decide
theorem val_big8 {n : Int} (h0 : 0 ≤ n) (h1 : n < 18446744073709551616) : val 0 (big n 8) = n := by
 rw [val_big, pow8]; omega
theorem getInt_put (a c : List Int) (n : Int) (h0 : -1152921504606846976 ≤ n) (h1 : n ≤ 1152921504606846976) :
  sGetInt (a ++ intB n ++ c) a.length = (n, (a.length : Int) + 9, 0) := by
 unfold sGetInt
 have hl : (a ++ intB n ++ c).length = a.length + 9 + c.length := by simp [intB_length]; omega
 rw [if_pos z4]
 by_cases h : n < 0
 rotate_left
 ·
  have e : a ++ intB n ++ c = a ++ 0 :: (big n 8 ++ c) := by unfold intB; rw [if_neg h]; simp
  have e2 : a ++ intB n ++ c = (a ++ [0]) ++ big n 8 ++ c := by unfold intB; rw [if_neg h]; simp
  have hs : sub (a ++ intB n ++ c) ((a.length : Int) + 1).toNat ((a.length : Int) + 9).toNat = big n 8 := by
   rw [e2]; exact sub_mid _ _ _ (by simp <;> omega) (by simp [big_length] <;> omega)
  have hr : rd (a ++ intB n ++ c) (a.length : Int) = 0 := by rw [e]; exact rd_mid _ _ _ rfl
  rw [hs, val_big8 z4 z4, hr, if_neg z4, if_neg z5]
 have e : a ++ intB n ++ c = a ++ 1 :: (big (-n) 8 ++ c) := by unfold intB; rw [if_pos h]; simp
 have e2 : a ++ intB n ++ c = (a ++ [1]) ++ big (-n) 8 ++ c := by unfold intB; rw [if_pos h]; simp
 have hs : sub (a ++ intB n ++ c) ((a.length : Int) + 1).toNat ((a.length : Int) + 9).toNat = big (-n) 8 := by
  rw [e2]; exact sub_mid _ _ _ (by simp <;> omega) (by simp [big_length] <;> omega)
 have hr : rd (a ++ intB n ++ c) (a.length : Int) = 1 := by rw [e]; exact rd_mid _ _ _ rfl
 rw [hs, val_big8 z4 z4, hr, if_neg z4, if_pos rfl]
 simp
theorem get_put (a c : List Int) (n : Int) (s : Nat) (hs0 : 1 ≤ s) (hs : s ≤ 7) (h0 : 0 ≤ n) (h1 : n < 256 ^ s) :
  sGet (a ++ big n s ++ c) a.length s = (n, (a.length : Int) + s, 0) := by
 unfold sGet
 have hl : (a ++ big n s ++ c).length = a.length + s + c.length := by simp [big_length]; omega
 rw [if_pos z4, if_neg z4, sub_mid _ _ _ z4 (by simp [big_length]; omega), val_big]
 simp
 exact Int.emod_eq_of_lt h0 h1
theorem getText_put (a c : List Int) (s : ByteArray) (h : s.size ≤ 24) :
  sGetText (a ++ (s.size : Int) :: bytesOf s ++ c) a.length = (s, (a.length : Int) + 1 + s.size, 0) := by
 unfold sGetText
 have hl : (a ++ (s.size : Int) :: bytesOf s ++ c).length = a.length + 1 + s.size + c.length := by simp [bytesOf_length]; omega
 have e : a ++ (s.size : Int) :: bytesOf s ++ c = a ++ (s.size : Int) :: (bytesOf s ++ c) := by simp
 have e2 : a ++ (s.size : Int) :: bytesOf s ++ c = (a ++ [(s.size : Int)]) ++ bytesOf s ++ c := by simp
 have hr : rd (a ++ (s.size : Int) :: bytesOf s ++ c) (a.length : Int) = s.size := by rw [e]; exact rd_mid _ _ _ rfl
 have hs : sub (a ++ (s.size : Int) :: bytesOf s ++ c) ((a.length : Int) + 1).toNat ((a.length : Int) + 1 + s.size).toNat = bytesOf s := by
  rw [e2]; exact sub_mid _ _ _ (by simp <;> omega) (by simp [bytesOf_length] <;> omega)
 rw [if_pos z4, hr, if_neg z4, hs, strOfNums_bytesOf]
end Go.Proofs.Ytjnjfogfpmeacaa.Plain
end
