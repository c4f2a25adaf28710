-- Put together by a program of this session (wip/slice2.py) out of the seat's texts.
import Derived.Test.YtjnjfogfpmeacaaZOKp6

set_option maxHeartbeats 8000000
set_option maxRecDepth 100000
open Go.Proofs.YtjnjfogfpmeacaaW Go.Proofs.Ytjnjfogfpmeacaa
section
namespace Go.Proofs.Ytjnjfogfpmeacaa.PAll
open Go.RowKit PrintWords PrintLast PrintMore ZipT PrintWords.Kd PrintMore.Kd
attribute [local go_sem] max2_int min2_int max_two min_two max_three min_three max_four min_four   -- for this text's walks alone
set_option linter.unusedVariables false
set_option linter.unusedSimpArgs false
mutual
def raddlelaw07_OpKinds.j0 : Nat → Int → List (S51) → Int → Bool → Int → Int → List Int → Int → Int → Int → Int → Int → ByteArray → Int → List (S84) → List (S25) → Option (Bool)
 | 0, _, _, _, _, _, _, _, _, _, _, _, _, _, _, _, _ => none
 | k + 1, x0, x1, x3, x24, x648000, x648001, x648002, x648003, x648004, x648005, x648006, x648007, x648008, x648009, x648010, x648011 => if x24 = true then (some true) else ((raddlekeep_TwinOp.f x648000 x648001 x648002 x648003 x648004 x648005 x648006 x648007 x648008 x648009 x648010 x648011).bind fun bt651 => (if (Int.tmod (IntKind.u64.wrap (x3)) 7) = 0 then (raddlelaw07_OpKinds.j1 k x0 x1 x3 x648000 x648001 x648002 x648003 x648004 x648005 x648006 x648007 x648008 x648009 x648010 x648011 bt651.1 bt651.2.1 bt651.2.2.1 bt651.2.2.2.1 bt651.2.2.2.2.1 bt651.2.2.2.2.2.1 (wrap64 (1 + (Int.tmod x648006 3))) bt651.2.2.2.2.2.2.2.1 bt651.2.2.2.2.2.2.2.2.1 bt651.2.2.2.2.2.2.2.2.2.1 bt651.2.2.2.2.2.2.2.2.2.2.1 bt651.2.2.2.2.2.2.2.2.2.2.2) else (if (Int.tmod (IntKind.u64.wrap (x3)) 7) = 1 then (raddlelaw07_OpKinds.j1 k x0 x1 x3 x648000 x648001 x648002 x648003 x648004 x648005 x648006 x648007 x648008 x648009 x648010 x648011 bt651.1 bt651.2.1 bt651.2.2.1 bt651.2.2.2.1 bt651.2.2.2.2.1 (wrap64 (x648005 + 1)) bt651.2.2.2.2.2.2.1 bt651.2.2.2.2.2.2.2.1 bt651.2.2.2.2.2.2.2.2.1 bt651.2.2.2.2.2.2.2.2.2.1 bt651.2.2.2.2.2.2.2.2.2.2.1 bt651.2.2.2.2.2.2.2.2.2.2.2) else (if (Int.tmod (IntKind.u64.wrap (x3)) 7) = 2 then (raddlelaw07_OpKinds.j1 k x0 x1 x3 x648000 x648001 x648002 x648003 x648004 x648005 x648006 x648007 x648008 x648009 x648010 x648011 bt651.1 (wrap64 (bt651.2.1 + 1)) bt651.2.2.1 bt651.2.2.2.1 bt651.2.2.2.2.1 bt651.2.2.2.2.2.1 bt651.2.2.2.2.2.2.1 bt651.2.2.2.2.2.2.2.1 bt651.2.2.2.2.2.2.2.2.1 bt651.2.2.2.2.2.2.2.2.2.1 bt651.2.2.2.2.2.2.2.2.2.2.1 bt651.2.2.2.2.2.2.2.2.2.2.2) else (if (Int.tmod (IntKind.u64.wrap (x3)) 7) = 3 then (if bt651.2.2.1.length < 17592186044416 then (raddlelaw07_OpKinds.j1 k x0 x1 x3 x648000 x648001 x648002 x648003 x648004 x648005 x648006 x648007 x648008 x648009 x648010 x648011 bt651.1 bt651.2.1 (bt651.2.2.1 ++ [0]) bt651.2.2.2.1 bt651.2.2.2.2.1 bt651.2.2.2.2.2.1 bt651.2.2.2.2.2.2.1 bt651.2.2.2.2.2.2.2.1 bt651.2.2.2.2.2.2.2.2.1 bt651.2.2.2.2.2.2.2.2.2.1 bt651.2.2.2.2.2.2.2.2.2.2.1 bt651.2.2.2.2.2.2.2.2.2.2.2) else (none)) else (if (Int.tmod (IntKind.u64.wrap (x3)) 7) = 4 then (raddlelaw07_OpKinds.j1 k x0 x1 x3 x648000 x648001 x648002 x648003 x648004 x648005 x648006 x648007 x648008 x648009 x648010 x648011 bt651.1 bt651.2.1 bt651.2.2.1 bt651.2.2.2.1 bt651.2.2.2.2.1 bt651.2.2.2.2.2.1 bt651.2.2.2.2.2.2.1 bt651.2.2.2.2.2.2.2.1 (⟨#[]⟩ : ByteArray) bt651.2.2.2.2.2.2.2.2.2.1 bt651.2.2.2.2.2.2.2.2.2.2.1 bt651.2.2.2.2.2.2.2.2.2.2.2) else (if (Int.tmod (IntKind.u64.wrap (x3)) 7) = 5 then (raddlelaw07_OpKinds.j1 k x0 x1 x3 x648000 x648001 x648002 x648003 x648004 x648005 x648006 x648007 x648008 x648009 x648010 x648011 bt651.1 bt651.2.1 bt651.2.2.1 bt651.2.2.2.1 bt651.2.2.2.2.1 bt651.2.2.2.2.2.1 bt651.2.2.2.2.2.2.1 (x1.length : Int) bt651.2.2.2.2.2.2.2.2.1 bt651.2.2.2.2.2.2.2.2.2.1 bt651.2.2.2.2.2.2.2.2.2.2.1 bt651.2.2.2.2.2.2.2.2.2.2.2) else (if bt651.2.2.2.2.2.2.2.2.2.2.2.length < 8796093022208 then (raddlelaw07_OpKinds.j1 k x0 x1 x3 x648000 x648001 x648002 x648003 x648004 x648005 x648006 x648007 x648008 x648009 x648010 x648011 bt651.1 bt651.2.1 bt651.2.2.1 bt651.2.2.2.1 bt651.2.2.2.2.1 bt651.2.2.2.2.2.1 bt651.2.2.2.2.2.2.1 bt651.2.2.2.2.2.2.2.1 bt651.2.2.2.2.2.2.2.2.1 bt651.2.2.2.2.2.2.2.2.2.1 bt651.2.2.2.2.2.2.2.2.2.2.1 (bt651.2.2.2.2.2.2.2.2.2.2.2 ++ [(⟨bt651.1, bt651.2.1⟩ : S25)])) else (none)))))))))
def raddlelaw07_OpKinds.j1 : Nat → Int → List (S51) → Int → Int → Int → List Int → Int → Int → Int → Int → Int → ByteArray → Int → List (S84) → List (S25) → Int → Int → List Int → Int → Int → Int → Int → Int → ByteArray → Int → List (S84) → List (S25) → Option (Bool)
 | 0, _, _, _, _, _, _, _, _, _, _, _, _, _, _, _, _, _, _, _, _, _, _, _, _, _, _, _ => none
 | k + 1, x0, x1, x3, x648000, x648001, x648002, x648003, x648004, x648005, x648006, x648007, x648008, x648009, x648010, x648011, x670000, x670001, x670002, x670003, x670004, x670005, x670006, x670007, x670008, x670009, x670010, x670011 => (op_Check.f k x0 x1 x670000 x670001 x670002 x670003 x670004 x670005 x670006 x670007 x670008 x670009 x670010 x670011).bind fun t676 => ((op_Check.f k x0 x1 x648000 x648001 x648002 x648003 x648004 x648005 x648006 x648007 x648008 x648009 x648010 x648011).bind fun t677 => (if t677 = 0 then ((raddlelaw07_Check.f k x0 x1 x670000 x670001 x670002 x670003 x670004 x670005 x670006 x670007 x670008 x670009 x670010 x670011).bind fun t678 => (if t676 = t678 then (if (Int.tmod (IntKind.u64.wrap (x3)) 7) = 0 then ((raddlelaw07_wakes.f).bind fun t679 => (some t679)) else (if t676 = 1 then ((raddlelaw07_wakes.f).bind fun t680 => (some t680)) else (some false))) else (some false))) else (some false)))
end
def raddlelaw07_OpKinds.f (k : Nat) (a0 : Int) (l1 : List (S51)) (a2_0 : Int) (a2_1 : Int) (l2_2 : List Int) (a2_3 : Int) (a2_4 : Int) (a2_5 : Int) (a2_6 : Int) (a2_7 : Int) (a2_8 : ByteArray) (a2_9 : Int) (l2_10 : List (S84)) (l2_11 : List (S25)) (a3 : Int) : Option (Bool) := (raddlelaw07_HeavyForms.f k l1).bind fun t648 => (if t648 = true then (raddlelaw07_OpKinds.j0 k a0 l1 a3 true a2_0 a2_1 l2_2 a2_3 a2_4 a2_5 a2_6 a2_7 a2_8 a2_9 l2_10 l2_11) else ((raddlelaw07_Heavy1.f a2_0 a2_1 l2_2 a2_3 a2_4 a2_5 a2_6 a2_7 a2_8 a2_9 l2_10 l2_11).bind fun t649 => (if t649 = true then (raddlelaw07_OpKinds.j0 k a0 l1 a3 true a2_0 a2_1 l2_2 a2_3 a2_4 a2_5 a2_6 a2_7 a2_8 a2_9 l2_10 l2_11) else ((raddlelaw07_Check.f k a0 l1 a2_0 a2_1 l2_2 a2_3 a2_4 a2_5 a2_6 a2_7 a2_8 a2_9 l2_10 l2_11).bind fun t650 => (raddlelaw07_OpKinds.j0 k a0 l1 a3 (t650 != 0) a2_0 a2_1 l2_2 a2_3 a2_4 a2_5 a2_6 a2_7 a2_8 a2_9 l2_10 l2_11)))))
theorem raddlelaw07_OpKinds.calls (k : Nat) (a0 : Int) (A1 : Option Addr) (c1 : Nat) (l1 : List (S51)) (a2_0 : Int) (a2_1 : Int) (A2_2 : Option Addr) (c2_2 : Nat) (l2_2 : List Int) (a2_3 : Int) (a2_4 : Int) (a2_5 : Int) (a2_6 : Int) (a2_7 : Int) (a2_8 : ByteArray) (a2_9 : Int) (A2_10 : Option Addr) (c2_10 : Nat) (l2_10 : List (S84)) (A2_11 : Option Addr) (c2_11 : Nat) (l2_11 : List (S25)) (a3 : Int) (r : Bool) (w : World) (hr1 : Kd.C k51 w A1 l1.length l1) (hc1 : l1.length ≤ c1) (hr2_2 : Kd.C (Kd.int .i64) w A2_2 l2_2.length l2_2) (hc2_2 : l2_2.length ≤ c2_2) (hr2_10 : Kd.C k84 w A2_10 l2_10.length l2_10) (hc2_10 : l2_10.length ≤ c2_10) (hr2_11 : Kd.C k25 w A2_11 l2_11.length l2_11) (hc2_11 : l2_11.length ≤ c2_11) (hrt : r = true) (h : raddlelaw07_OpKinds.f k a0 l1 a2_0 a2_1 l2_2 a2_3 a2_4 a2_5 a2_6 a2_7 a2_8 a2_9 l2_10 l2_11 a3 = some r) :
  Calls Try.prog 5 #[.int .i64 a0, .slice A1 l1.length c1, .agg #[.int .i64 a2_0, .int .i64 a2_1, .slice A2_2 l2_2.length c2_2, .int .i64 a2_3, .int .i64 a2_4, .int .i64 a2_5, .int .i64 a2_6, .int .i64 a2_7, .string a2_8, .int .i64 a2_9, .slice A2_10 l2_10.length c2_10, .slice A2_11 l2_11.length c2_11], .int .i64 a3] w fun e w' => e = .returned (.bool r) ∧ Below w.heap.size w w' := by
 have hu32 := Try.underlying32
 have hu25 := Try.underlying25
 have HR1 := mk_ hr1
 have HC1 := mk_ hc1
 clear hr1 hc1
 have HR2_2 := mk_ hr2_2
 have HC2_2 := mk_ hc2_2
 clear hr2_2 hc2_2
 have HR2_10 := mk_ hr2_10
 have HC2_10 := mk_ hc2_10
 clear hr2_10 hc2_10
 have HR2_11 := mk_ hr2_11
 have HC2_11 := mk_ hc2_11
 clear hr2_11 hc2_11
 have HB := mk_ (Below.refl w.heap.size w)
 have H : ((raddlelaw07_HeavyForms.f k l1).bind fun t648 => (if t648 = true then (raddlelaw07_OpKinds.j0 k a0 l1 a3 true a2_0 a2_1 l2_2 a2_3 a2_4 a2_5 a2_6 a2_7 a2_8 a2_9 l2_10 l2_11) else ((raddlelaw07_Heavy1.f a2_0 a2_1 l2_2 a2_3 a2_4 a2_5 a2_6 a2_7 a2_8 a2_9 l2_10 l2_11).bind fun t649 => (if t649 = true then (raddlelaw07_OpKinds.j0 k a0 l1 a3 true a2_0 a2_1 l2_2 a2_3 a2_4 a2_5 a2_6 a2_7 a2_8 a2_9 l2_10 l2_11) else ((raddlelaw07_Check.f k a0 l1 a2_0 a2_1 l2_2 a2_3 a2_4 a2_5 a2_6 a2_7 a2_8 a2_9 l2_10 l2_11).bind fun t650 => (raddlelaw07_OpKinds.j0 k a0 l1 a3 (t650 != 0) a2_0 a2_1 l2_2 a2_3 a2_4 a2_5 a2_6 a2_7 a2_8 a2_9 l2_10 l2_11)))))) = some r := h
 clear h
 have HC5 := mk_ H
 clear H
 go_enter Try.func5, Try.ntmps5
 go_upto_region 1 with (first | ((with_reducible refine gate_dst (N := 6) rfl ?_); refine box_event ?hg (N := 6) ?hd (cs := #[.int .i64 a2_0, .int .i64 a2_1, .slice A2_2 l2_2.length c2_2, .int .i64 a2_3, .int .i64 a2_4, .int .i64 a2_5, .int .i64 a2_6, .int .i64 a2_7, .string a2_8, .int .i64 a2_9, .slice A2_10 l2_10.length c2_10, .slice A2_11 l2_11.length c2_11]) (t := 32) ?hr ?_; (case hd => rfl); (case hg => rfl); (case hr => first | (go_simp; done) | (go_simp; rfl)); intro gb647 hg w6 hbox hb; have n0_ := mk_ (below_step (Short.hB HB) hb); have n1_ := mk_ (hbox); have n2_ := mk_ ((by rw [hg]; exact (below_size (Short.hB HB)) : w.heap.size ≤ gb647)); have n3_ := mk_ ((by rw [hg]; exact (below_size (Short.hB HB)) : w.heap.size ≤ gb647)); clear HB; revert n0_ n1_ n2_ n3_; intro HB BK647 GW647 GE647; clear hb hbox hg))
 (try simp only [Act.put, List.setIfInBounds_toArray, List.set_cons_zero, List.set_cons_succ])
 go_cut [24] (fun v24 wc => ∃ (kq : Nat) (x24_4 : Bool), v24 = .bool x24_4 ∧ Aside0 (raddlelaw07_OpKinds.j0 kq a0 l1 a3 x24_4 a2_0 a2_1 l2_2 a2_3 a2_4 a2_5 a2_6 a2_7 a2_8 a2_9 l2_10 l2_11 = some r) ∧ Aside0 (kq ≤ k) ∧ Aside0 (wc.heap[gb647]? = some (.cells #[.int .i64 a2_0, .int .i64 a2_1, (.slice A2_2 l2_2.length c2_2), .int .i64 a2_3, .int .i64 a2_4, .int .i64 a2_5, .int .i64 a2_6, .int .i64 a2_7, .string a2_8, .int .i64 a2_9, (.slice A2_10 l2_10.length c2_10), (.slice A2_11 l2_11.length c2_11)] 32 (0, 0))) ∧ Aside0 (Below w.heap.size w wc))
 case first =>
  have H := HC5.out
  clear HC5
  obtain ⟨t648, A7, H⟩ := Option.bind_eq_some_iff.mp H
  replace A7 := mk_ A7
  by_cases c8 : t648 = true
  ·
   subst c8
   rw [if_pos rfl] at H
   have H' := mk_ H
   clear H
   go_wp2_with (first | ((with_reducible refine gate_callee (f := 17) rfl ?_); refine Short.gL (some 12) Try.func17 #[.slice A1 l1.length c1] (h := ?_); (with_reducible refine (raddlelaw07_HeavyForms.calls k _ _ l1 true _ ?side1 ?side2 A7.out).mono ?_); (case side1 => exact cX_ (C_below HR1.out HB.out)); (case side2 => exact HC1.out); rintro e w' ⟨rfl, ⟨nd, rfl⟩⟩; refine ⟨_, rfl, ?_⟩))
   go_meet
   case rel => exact ⟨_, (true), z4_, H', ⟨by first | omega | exact Nat.le_refl _⟩, ⟨by (with_reducible repeat (first | refine blk_drewN ?_ _ | refine blk_drew ?_ | refine blk_alloc ?_ _)); exact BK647.out⟩, ⟨Short.hB HB⟩⟩
  replace c8 := Bool.eq_false_iff.mpr c8
  subst c8
  rw [if_neg (show ¬ (false = true) by decide)] at H
  obtain ⟨t649, A9, H⟩ := Option.bind_eq_some_iff.mp H
  replace A9 := mk_ A9
  by_cases c10 : t649 = true
  ·
   subst c10
   rw [if_pos rfl] at H
   have H' := mk_ H
   clear H
   go_wp2_with (first | ((with_reducible refine gate_callee (f := 17) rfl ?_); refine Short.gL (some 12) Try.func17 #[.slice A1 l1.length c1] (h := ?_); (with_reducible refine (raddlelaw07_HeavyForms.calls k _ _ l1 false _ ?side1 ?side2 A7.out).mono ?_); (case side1 => exact cX_ (C_below HR1.out HB.out)); (case side2 => exact HC1.out); rintro e w' ⟨rfl, ⟨nd, rfl⟩⟩; refine ⟨_, rfl, ?_⟩; have hcz11_0 : w6.cell? ⟨gb647, 0, none⟩ = some (.int .i64 a2_0) := kc_ BK647 0; have hcz11_1 : w6.cell? ⟨gb647, 1, none⟩ = some (.int .i64 a2_1) := kc_ BK647 1; have hcz11_2 : w6.cell? ⟨gb647, 2, none⟩ = some (.slice A2_2 l2_2.length c2_2) := kc_ BK647 2; have hcz11_3 : w6.cell? ⟨gb647, 3, none⟩ = some (.int .i64 a2_3) := kc_ BK647 3; have hcz11_4 : w6.cell? ⟨gb647, 4, none⟩ = some (.int .i64 a2_4) := kc_ BK647 4; have hcz11_5 : w6.cell? ⟨gb647, 5, none⟩ = some (.int .i64 a2_5) := kc_ BK647 5; have hcz11_6 : w6.cell? ⟨gb647, 6, none⟩ = some (.int .i64 a2_6) := kc_ BK647 6; have hcz11_7 : w6.cell? ⟨gb647, 7, none⟩ = some (.int .i64 a2_7) := kc_ BK647 7; have hcz11_8 : w6.cell? ⟨gb647, 8, none⟩ = some (.string a2_8) := kc_ BK647 8; have hcz11_9 : w6.cell? ⟨gb647, 9, none⟩ = some (.int .i64 a2_9) := kc_ BK647 9; have hcz11_10 : w6.cell? ⟨gb647, 10, none⟩ = some (.slice A2_10 l2_10.length c2_10) := kc_ BK647 10; have hcz11_11 : w6.cell? ⟨gb647, 11, none⟩ = some (.slice A2_11 l2_11.length c2_11) := kc_ BK647 11; have hfz11_0 := blk_frozen BK647.out 0; have hfz11_1 := blk_frozen BK647.out 1; have hfz11_2 := blk_frozen BK647.out 2; have hfz11_3 := blk_frozen BK647.out 3; have hfz11_4 := blk_frozen BK647.out 4; have hfz11_5 := blk_frozen BK647.out 5; have hfz11_6 := blk_frozen BK647.out 6; have hfz11_7 := blk_frozen BK647.out 7; have hfz11_8 := blk_frozen BK647.out 8; have hfz11_9 := blk_frozen BK647.out 9; have hfz11_10 := blk_frozen BK647.out 10; have hfz11_11 := blk_frozen BK647.out 11) | (go_at_call 18; (refine (raddlelaw07_Heavy1.calls a2_0 a2_1 _ _ l2_2 a2_3 a2_4 a2_5 a2_6 a2_7 a2_8 a2_9 _ _ l2_10 _ _ l2_11 true _ ?side1 ?side2 ?side3 ?side4 ?side5 ?side6 A9.out).mono ?_); (case side1 => exact cX_ (C_below HR2_2.out (Short.hB HB))); (case side2 => exact HC2_2.out); (case side3 => exact cX_ (C_below HR2_10.out (Short.hB HB))); (case side4 => exact HC2_10.out); (case side5 => exact cX_ (C_below HR2_11.out (Short.hB HB))); (case side6 => exact HC2_11.out); rintro e w12 ⟨rfl, hb⟩; have n0_ := mk_ (bB_ BK647 hb); have n1_ := mk_ (below_step (Short.hB HB) hb); clear BK647 HB; revert n0_ n1_; intro BK647 HB; (try clear hb); (try clear hb2); (try clear hk); (try clear hi)))
   go_meet
   case rel => exact ⟨_, (true), z4_, H', ⟨by first | omega | exact Nat.le_refl _⟩, ⟨by (with_reducible repeat (first | refine blk_drewN ?_ _ | refine blk_drew ?_ | refine blk_alloc ?_ _)); exact BK647.out⟩, ⟨Short.hB HB⟩⟩
  replace c10 := Bool.eq_false_iff.mpr c10
  subst c10
  rw [if_neg (show ¬ (false = true) by decide)] at H
  obtain ⟨t650, A13, H⟩ := Option.bind_eq_some_iff.mp H
  replace A13 := mk_ A13
  have H' := mk_ H
  clear H
  go_wp2_with (first | ((with_reducible refine gate_callee (f := 17) rfl ?_); refine Short.gL (some 12) Try.func17 #[.slice A1 l1.length c1] (h := ?_); (with_reducible refine (raddlelaw07_HeavyForms.calls k _ _ l1 false _ ?side1 ?side2 A7.out).mono ?_); (case side1 => exact cX_ (C_below HR1.out HB.out)); (case side2 => exact HC1.out); rintro e w' ⟨rfl, ⟨nd, rfl⟩⟩; refine ⟨_, rfl, ?_⟩; have hcz14_0 : w6.cell? ⟨gb647, 0, none⟩ = some (.int .i64 a2_0) := kc_ BK647 0; have hcz14_1 : w6.cell? ⟨gb647, 1, none⟩ = some (.int .i64 a2_1) := kc_ BK647 1; have hcz14_2 : w6.cell? ⟨gb647, 2, none⟩ = some (.slice A2_2 l2_2.length c2_2) := kc_ BK647 2; have hcz14_3 : w6.cell? ⟨gb647, 3, none⟩ = some (.int .i64 a2_3) := kc_ BK647 3; have hcz14_4 : w6.cell? ⟨gb647, 4, none⟩ = some (.int .i64 a2_4) := kc_ BK647 4; have hcz14_5 : w6.cell? ⟨gb647, 5, none⟩ = some (.int .i64 a2_5) := kc_ BK647 5; have hcz14_6 : w6.cell? ⟨gb647, 6, none⟩ = some (.int .i64 a2_6) := kc_ BK647 6; have hcz14_7 : w6.cell? ⟨gb647, 7, none⟩ = some (.int .i64 a2_7) := kc_ BK647 7; have hcz14_8 : w6.cell? ⟨gb647, 8, none⟩ = some (.string a2_8) := kc_ BK647 8; have hcz14_9 : w6.cell? ⟨gb647, 9, none⟩ = some (.int .i64 a2_9) := kc_ BK647 9; have hcz14_10 : w6.cell? ⟨gb647, 10, none⟩ = some (.slice A2_10 l2_10.length c2_10) := kc_ BK647 10; have hcz14_11 : w6.cell? ⟨gb647, 11, none⟩ = some (.slice A2_11 l2_11.length c2_11) := kc_ BK647 11; have hfz14_0 := blk_frozen BK647.out 0; have hfz14_1 := blk_frozen BK647.out 1; have hfz14_2 := blk_frozen BK647.out 2; have hfz14_3 := blk_frozen BK647.out 3; have hfz14_4 := blk_frozen BK647.out 4; have hfz14_5 := blk_frozen BK647.out 5; have hfz14_6 := blk_frozen BK647.out 6; have hfz14_7 := blk_frozen BK647.out 7; have hfz14_8 := blk_frozen BK647.out 8; have hfz14_9 := blk_frozen BK647.out 9; have hfz14_10 := blk_frozen BK647.out 10; have hfz14_11 := blk_frozen BK647.out 11) | (go_at_call 18; (refine (raddlelaw07_Heavy1.calls a2_0 a2_1 _ _ l2_2 a2_3 a2_4 a2_5 a2_6 a2_7 a2_8 a2_9 _ _ l2_10 _ _ l2_11 false _ ?side1 ?side2 ?side3 ?side4 ?side5 ?side6 A9.out).mono ?_); (case side1 => exact cX_ (C_below HR2_2.out (Short.hB HB))); (case side2 => exact HC2_2.out); (case side3 => exact cX_ (C_below HR2_10.out (Short.hB HB))); (case side4 => exact HC2_10.out); (case side5 => exact cX_ (C_below HR2_11.out (Short.hB HB))); (case side6 => exact HC2_11.out); rintro e w15 ⟨rfl, hb⟩; have n0_ := mk_ (bB_ BK647 hb); have n1_ := mk_ (below_step (Short.hB HB) hb); clear BK647 HB; revert n0_ n1_; intro BK647 HB; (try clear hb); (try clear hb2); (try clear hk); (try clear hi); have hcz16_0 : w15.cell? ⟨gb647, 0, none⟩ = some (.int .i64 a2_0) := kc_ BK647 0; have hcz16_1 : w15.cell? ⟨gb647, 1, none⟩ = some (.int .i64 a2_1) := kc_ BK647 1; have hcz16_2 : w15.cell? ⟨gb647, 2, none⟩ = some (.slice A2_2 l2_2.length c2_2) := kc_ BK647 2; have hcz16_3 : w15.cell? ⟨gb647, 3, none⟩ = some (.int .i64 a2_3) := kc_ BK647 3; have hcz16_4 : w15.cell? ⟨gb647, 4, none⟩ = some (.int .i64 a2_4) := kc_ BK647 4; have hcz16_5 : w15.cell? ⟨gb647, 5, none⟩ = some (.int .i64 a2_5) := kc_ BK647 5; have hcz16_6 : w15.cell? ⟨gb647, 6, none⟩ = some (.int .i64 a2_6) := kc_ BK647 6; have hcz16_7 : w15.cell? ⟨gb647, 7, none⟩ = some (.int .i64 a2_7) := kc_ BK647 7; have hcz16_8 : w15.cell? ⟨gb647, 8, none⟩ = some (.string a2_8) := kc_ BK647 8; have hcz16_9 : w15.cell? ⟨gb647, 9, none⟩ = some (.int .i64 a2_9) := kc_ BK647 9; have hcz16_10 : w15.cell? ⟨gb647, 10, none⟩ = some (.slice A2_10 l2_10.length c2_10) := kc_ BK647 10; have hcz16_11 : w15.cell? ⟨gb647, 11, none⟩ = some (.slice A2_11 l2_11.length c2_11) := kc_ BK647 11; have hfz16_0 := blk_frozen BK647.out 0; have hfz16_1 := blk_frozen BK647.out 1; have hfz16_2 := blk_frozen BK647.out 2; have hfz16_3 := blk_frozen BK647.out 3; have hfz16_4 := blk_frozen BK647.out 4; have hfz16_5 := blk_frozen BK647.out 5; have hfz16_6 := blk_frozen BK647.out 6; have hfz16_7 := blk_frozen BK647.out 7; have hfz16_8 := blk_frozen BK647.out 8; have hfz16_9 := blk_frozen BK647.out 9; have hfz16_10 := blk_frozen BK647.out 10; have hfz16_11 := blk_frozen BK647.out 11) | (go_at_call 20; (with_reducible refine (raddlelaw07_Check.calls k a0 _ _ l1 a2_0 a2_1 _ _ l2_2 a2_3 a2_4 a2_5 a2_6 a2_7 a2_8 a2_9 _ _ l2_10 _ _ l2_11 t650 _ ?side1 ?side2 ?side3 ?side4 ?side5 ?side6 ?side7 ?side8 A13.out).mono ?_); (case side1 => exact cX_ (C_below HR1.out HB.out)); (case side2 => exact HC1.out); (case side3 => exact cX_ (C_below HR2_2.out HB.out)); (case side4 => exact HC2_2.out); (case side5 => exact cX_ (C_below HR2_10.out HB.out)); (case side6 => exact HC2_10.out); (case side7 => exact cX_ (C_below HR2_11.out HB.out)); (case side8 => exact HC2_11.out); rintro e w17 ⟨rfl, hb⟩; have n0_ := mk_ (bB_ BK647 hb); have n1_ := mk_ (below_step (Short.hB HB) hb); clear BK647 HB; revert n0_ n1_; intro BK647 HB; (try clear hb); (try clear hb2); (try clear hk); (try clear hi)))
  go_meet
  case rel => exact ⟨_, ((t650 != 0)), z4_, H', ⟨by first | omega | exact Nat.le_refl _⟩, ⟨by (with_reducible repeat (first | refine blk_drewN ?_ _ | refine blk_drew ?_ | refine blk_alloc ?_ _)); exact BK647.out⟩, ⟨Short.hB HB⟩⟩
 case rest =>
  clear HC5
  try clear c1
  try clear c2
  try clear p2
  try clear c5
  try clear c8
  try clear c10
  try clear c17
  try clear hcz11_0
  try clear hcz11_1
  try clear hcz11_10
  try clear hcz11_11
  try clear hcz11_2
  try clear hcz11_3
  try clear hcz11_4
  try clear hcz11_5
  try clear hcz11_6
  try clear hcz11_7
  try clear hcz11_8
  try clear hcz11_9
  try clear hcz14_0
  try clear hcz14_1
  try clear hcz14_10
  try clear hcz14_11
  try clear hcz14_2
  try clear hcz14_3
  try clear hcz14_4
  try clear hcz14_5
  try clear hcz14_6
  try clear hcz14_7
  try clear hcz14_8
  try clear hcz14_9
  try clear hcz16_0
  try clear hcz16_1
  try clear hcz16_10
  try clear hcz16_11
  try clear hcz16_2
  try clear hcz16_3
  try clear hcz16_4
  try clear hcz16_5
  try clear hcz16_6
  try clear hcz16_7
  try clear hcz16_8
  try clear hcz16_9
  try clear hfz11_0
  try clear hfz11_1
  try clear hfz11_10
  try clear hfz11_11
  try clear hfz11_2
  try clear hfz11_3
  try clear hfz11_4
  try clear hfz11_5
  try clear hfz11_6
  try clear hfz11_7
  try clear hfz11_8
  try clear hfz11_9
  try clear hfz14_0
  try clear hfz14_1
  try clear hfz14_10
  try clear hfz14_11
  try clear hfz14_2
  try clear hfz14_3
  try clear hfz14_4
  try clear hfz14_5
  try clear hfz14_6
  try clear hfz14_7
  try clear hfz14_8
  try clear hfz14_9
  try clear hfz16_0
  try clear hfz16_1
  try clear hfz16_10
  try clear hfz16_11
  try clear hfz16_2
  try clear hfz16_3
  try clear hfz16_4
  try clear hfz16_5
  try clear hfz16_6
  try clear hfz16_7
  try clear hfz16_8
  try clear hfz16_9
  obtain ⟨kq, x24_4, rfl, HA, HJ4, BK647, HB⟩ := hcut
  cases kq with
  | zero => exact absurd HA.out (by simp [raddlelaw07_OpKinds.j0])
  | succ kj4 =>
   have H := HA.out
   clear HA
   simp only [raddlelaw07_OpKinds.j0] at H
   by_cases c18 : x24_4 = true
   ·
    subst c18
    rw [if_pos rfl] at H
    obtain rfl := Option.some.inj H
    go_wp2
    go_ret
    exact ⟨q0, Short.hB HB⟩
   replace c18 := Bool.eq_false_iff.mpr c18
   subst c18
   rw [if_neg (show ¬ (false = true) by decide)] at H
   obtain ⟨⟨t651, t652, t653, t656, t657, t658, t659, t660, t661, t662, t663, t666⟩, A19, H⟩ := Option.bind_eq_some_iff.mp H
   try dsimp only at H
   replace A19 := mk_ A19
   have HC20 := mk_ H
   clear H
   have hcz21_0 : wc.cell? ⟨gb647, 0, none⟩ = some (.int .i64 a2_0) := kc_ BK647 0
   have hcz21_1 : wc.cell? ⟨gb647, 1, none⟩ = some (.int .i64 a2_1) := kc_ BK647 1
   have hcz21_2 : wc.cell? ⟨gb647, 2, none⟩ = some (.slice A2_2 l2_2.length c2_2) := kc_ BK647 2
   have hcz21_3 : wc.cell? ⟨gb647, 3, none⟩ = some (.int .i64 a2_3) := kc_ BK647 3
   have hcz21_4 : wc.cell? ⟨gb647, 4, none⟩ = some (.int .i64 a2_4) := kc_ BK647 4
   have hcz21_5 : wc.cell? ⟨gb647, 5, none⟩ = some (.int .i64 a2_5) := kc_ BK647 5
   have hcz21_6 : wc.cell? ⟨gb647, 6, none⟩ = some (.int .i64 a2_6) := kc_ BK647 6
   have hcz21_7 : wc.cell? ⟨gb647, 7, none⟩ = some (.int .i64 a2_7) := kc_ BK647 7
   have hcz21_8 : wc.cell? ⟨gb647, 8, none⟩ = some (.string a2_8) := kc_ BK647 8
   have hcz21_9 : wc.cell? ⟨gb647, 9, none⟩ = some (.int .i64 a2_9) := kc_ BK647 9
   have hcz21_10 : wc.cell? ⟨gb647, 10, none⟩ = some (.slice A2_10 l2_10.length c2_10) := kc_ BK647 10
   have hcz21_11 : wc.cell? ⟨gb647, 11, none⟩ = some (.slice A2_11 l2_11.length c2_11) := kc_ BK647 11
   have hfz21_0 := blk_frozen BK647.out 0
   have hfz21_1 := blk_frozen BK647.out 1
   have hfz21_2 := blk_frozen BK647.out 2
   have hfz21_3 := blk_frozen BK647.out 3
   have hfz21_4 := blk_frozen BK647.out 4
   have hfz21_5 := blk_frozen BK647.out 5
   have hfz21_6 := blk_frozen BK647.out 6
   have hfz21_7 := blk_frozen BK647.out 7
   have hfz21_8 := blk_frozen BK647.out 8
   have hfz21_9 := blk_frozen BK647.out 9
   have hfz21_10 := blk_frozen BK647.out 10
   have hfz21_11 := blk_frozen BK647.out 11
   go_upto_block 0 with (first | ((with_reducible refine gate_callee (f := 21) rfl ?_); refine Short.gL (some 26) Try.func21 #[.agg #[.int .i64 a2_0, .int .i64 a2_1, .slice A2_2 l2_2.length c2_2, .int .i64 a2_3, .int .i64 a2_4, .int .i64 a2_5, .int .i64 a2_6, .int .i64 a2_7, .string a2_8, .int .i64 a2_9, .slice A2_10 l2_10.length c2_10, .slice A2_11 l2_11.length c2_11]] (h := ?_); (with_reducible refine (raddlekeep_TwinOp.calls a2_0 a2_1 _ _ l2_2 a2_3 a2_4 a2_5 a2_6 a2_7 a2_8 a2_9 _ _ l2_10 _ _ l2_11 t651 t652 t653 t656 t657 t658 t659 t660 t661 t662 t663 t666 _ ?side1 ?side2 ?side3 ?side4 ?side5 ?side6 A19.out).mono ?_); (case side1 => exact cX_ (C_below HR2_2.out HB.out)); (case side2 => exact HC2_2.out); (case side3 => exact cX_ (C_below HR2_10.out HB.out)); (case side4 => exact HC2_10.out); (case side5 => exact cX_ (C_below HR2_11.out HB.out)); (case side6 => exact HC2_11.out); rintro e w22 ⟨v654, v664, v667, rfl, ho0, ho1, ho2, hb⟩; refine ⟨_, rfl, ?_⟩; have n0_ := mk_ (R_lower ho0 (below_size (Short.hB HB))); have n1_ := mk_ (R_lower ho1 (below_size (Short.hB HB))); have n2_ := mk_ (R_lower ho2 (below_size (Short.hB HB))); have n3_ := mk_ (bB_ BK647 hb); have n4_ := mk_ (below_step (Short.hB HB) hb); clear BK647 HB; revert n0_ n1_ n2_ n3_ n4_; intro HO655 HO665 HO668 BK647 HB; (try clear hb ho0); (try clear ho1); (try clear ho2)) | ((with_reducible refine gate_dst (N := 9) rfl ?_); refine box_event ?hg (N := 9) ?hd (cs := #[.int .i64 0, .int .i64 0, .slice none 0 0, .int .i64 0, .int .i64 0, .int .i64 0, .int .i64 0, .int .i64 0, .string (⟨#[]⟩ : ByteArray), .int .i64 0, .slice none 0 0, .slice none 0 0]) (t := 32) ?hr ?_; (case hd => rfl); (case hg => rfl); (case hr => first | (go_simp; done) | (go_simp; rfl)); intro gb669 hg w23 hbox hb; have n0_ := mk_ (R_below (ZKR HO655) hb); have n1_ := mk_ (R_below (ZKR HO665) hb); have n2_ := mk_ (R_below (ZKR HO668) hb); have n3_ := mk_ (bB_ BK647 hb); have n4_ := mk_ (below_step (Short.hB HB) hb); have n5_ := mk_ (hbox); have n6_ := mk_ ((by rw [hg]; exact (below_size (Short.hB HB)) : w.heap.size ≤ gb669)); have n7_ := mk_ ((by rw [hg]; exact (below_size (Short.hB HB)) : w.heap.size ≤ gb669)); have n8_ := mk_ ((by rw [hg]; exact Nat.ne_of_lt (blk_lt (Short.bK BK647)) : gb647 ≠ gb669)); have n9_ := mk_ ((by rw [hg]; exact Nat.ne_of_gt (blk_lt (Short.bK BK647)) : gb669 ≠ gb647)); clear HO655 HO665 HO668 BK647 HB; revert n0_ n1_ n2_ n3_ n4_ n5_ n6_ n7_ n8_ n9_; intro HO655 HO665 HO668 BK647 HB BK669 GW669 GE669 NB647_669 NB669_647; clear hb hbox hg; have hnb24 := NB669_647.out; have hnc24 := NB647_669.out; have hcz25_0 : w23.cell? ⟨gb669, 0, none⟩ = some (.int .i64 0) := kc_ BK669 0; have hcz25_1 : w23.cell? ⟨gb669, 1, none⟩ = some (.int .i64 0) := kc_ BK669 1; have hcz25_2 : w23.cell? ⟨gb669, 2, none⟩ = some (.slice none 0 0) := kc_ BK669 2; have hcz25_3 : w23.cell? ⟨gb669, 3, none⟩ = some (.int .i64 0) := kc_ BK669 3; have hcz25_4 : w23.cell? ⟨gb669, 4, none⟩ = some (.int .i64 0) := kc_ BK669 4; have hcz25_5 : w23.cell? ⟨gb669, 5, none⟩ = some (.int .i64 0) := kc_ BK669 5; have hcz25_6 : w23.cell? ⟨gb669, 6, none⟩ = some (.int .i64 0) := kc_ BK669 6; have hcz25_7 : w23.cell? ⟨gb669, 7, none⟩ = some (.int .i64 0) := kc_ BK669 7; have hcz25_8 : w23.cell? ⟨gb669, 8, none⟩ = some (.string (⟨#[]⟩ : ByteArray)) := kc_ BK669 8; have hcz25_9 : w23.cell? ⟨gb669, 9, none⟩ = some (.int .i64 0) := kc_ BK669 9; have hcz25_10 : w23.cell? ⟨gb669, 10, none⟩ = some (.slice none 0 0) := kc_ BK669 10; have hcz25_11 : w23.cell? ⟨gb669, 11, none⟩ = some (.slice none 0 0) := kc_ BK669 11; have hfz25_0 := blk_frozen BK669.out 0; have hfz25_1 := blk_frozen BK669.out 1; have hfz25_2 := blk_frozen BK669.out 2; have hfz25_3 := blk_frozen BK669.out 3; have hfz25_4 := blk_frozen BK669.out 4; have hfz25_5 := blk_frozen BK669.out 5; have hfz25_6 := blk_frozen BK669.out 6; have hfz25_7 := blk_frozen BK669.out 7; have hfz25_8 := blk_frozen BK669.out 8; have hfz25_9 := blk_frozen BK669.out 9; have hfz25_10 := blk_frozen BK669.out 10; have hfz25_11 := blk_frozen BK669.out 11; obtain ⟨Ao26, co26, eo26⟩ := R_slice HO655.out; subst eo26; obtain ⟨Ao27, co27, eo27⟩ := R_slice HO665.out; subst eo27; obtain ⟨Ao28, co28, eo28⟩ := R_slice HO668.out; subst eo28))
   (try simp only [Act.put, List.setIfInBounds_toArray, List.set_cons_zero, List.set_cons_succ])
   go_cut [] (fun wc => ∃ (kq : Nat) (x670001_19 : Int) (x670002_19 : List Int) (x670005_19 : Int) (x670006_19 : Int) (x670007_19 : Int) (x670008_19 : ByteArray) (x670011_19 : List (S25)) (u670002 : Value) (u670011 : Value), Aside0 (raddlelaw07_OpKinds.j1 kq a0 l1 a3 a2_0 a2_1 l2_2 a2_3 a2_4 a2_5 a2_6 a2_7 a2_8 a2_9 l2_10 l2_11 t651 x670001_19 x670002_19 t656 t657 x670005_19 x670006_19 x670007_19 x670008_19 t662 t663 x670011_19 = some r) ∧ Aside0 (kq ≤ kj4) ∧ Aside0 (Kd.R (Kd.int .i64) 3 wc w.heap.size (fun _ => True) u670002 x670002_19) ∧ Aside0 (Kd.R k84 84 wc w.heap.size (fun _ => True) (.slice Ao27 t663.length co27) t663) ∧ Aside0 (Kd.R k25 25 wc w.heap.size (fun _ => True) u670011 x670011_19) ∧ Aside0 (wc.heap[gb647]? = some (.cells #[.int .i64 a2_0, .int .i64 a2_1, (.slice A2_2 l2_2.length c2_2), .int .i64 a2_3, .int .i64 a2_4, .int .i64 a2_5, .int .i64 a2_6, .int .i64 a2_7, .string a2_8, .int .i64 a2_9, (.slice A2_10 l2_10.length c2_10), (.slice A2_11 l2_11.length c2_11)] 32 (0, 0))) ∧ Aside0 (wc.heap[gb669]? = some (.cells #[.int .i64 t651, .int .i64 x670001_19, u670002, .int .i64 t656, .int .i64 t657, .int .i64 x670005_19, .int .i64 x670006_19, .int .i64 x670007_19, .string x670008_19, .int .i64 t662, (.slice Ao27 t663.length co27), u670011] 32 (0, 0))) ∧ Aside0 (Below w.heap.size w wc))
   case first =>
    have H := HC20.out
    clear HC20
    by_cases c29 : (Int.tmod (IntKind.u64.wrap (a3)) 7) = 0
    ·
     rw [if_pos c29] at H
     have c29b0 : ((Int.tmod (IntKind.u64.wrap (a3)) 7) == 0) = true := beq_iff_eq.mpr c29
     have c29b1 : ((Int.tmod (IntKind.u64.wrap (a3)) 7) != 0) = false := bne_eq_false_iff_eq.mpr c29
     clear c29
     (first | rw [c29b0] | (simp only [i64_w, i32_w]; rw [c29b0]) | skip)
     have H' := mk_ H
     clear H
     have hnb30 := NB647_669.out
     have hnc30 := NB669_647.out
     have hcz31_0 : w23.cell? ⟨gb647, 0, none⟩ = some (.int .i64 a2_0) := kc_ BK647 0
     have hcz31_1 : w23.cell? ⟨gb647, 1, none⟩ = some (.int .i64 a2_1) := kc_ BK647 1
     have hcz31_2 : w23.cell? ⟨gb647, 2, none⟩ = some (.slice A2_2 l2_2.length c2_2) := kc_ BK647 2
     have hcz31_3 : w23.cell? ⟨gb647, 3, none⟩ = some (.int .i64 a2_3) := kc_ BK647 3
     have hcz31_4 : w23.cell? ⟨gb647, 4, none⟩ = some (.int .i64 a2_4) := kc_ BK647 4
     have hcz31_5 : w23.cell? ⟨gb647, 5, none⟩ = some (.int .i64 a2_5) := kc_ BK647 5
     have hcz31_6 : w23.cell? ⟨gb647, 6, none⟩ = some (.int .i64 a2_6) := kc_ BK647 6
     have hcz31_7 : w23.cell? ⟨gb647, 7, none⟩ = some (.int .i64 a2_7) := kc_ BK647 7
     have hcz31_8 : w23.cell? ⟨gb647, 8, none⟩ = some (.string a2_8) := kc_ BK647 8
     have hcz31_9 : w23.cell? ⟨gb647, 9, none⟩ = some (.int .i64 a2_9) := kc_ BK647 9
     have hcz31_10 : w23.cell? ⟨gb647, 10, none⟩ = some (.slice A2_10 l2_10.length c2_10) := kc_ BK647 10
     have hcz31_11 : w23.cell? ⟨gb647, 11, none⟩ = some (.slice A2_11 l2_11.length c2_11) := kc_ BK647 11
     have hfz31_0 := blk_frozen BK647.out 0
     have hfz31_1 := blk_frozen BK647.out 1
     have hfz31_2 := blk_frozen BK647.out 2
     have hfz31_3 := blk_frozen BK647.out 3
     have hfz31_4 := blk_frozen BK647.out 4
     have hfz31_5 := blk_frozen BK647.out 5
     have hfz31_6 := blk_frozen BK647.out 6
     have hfz31_7 := blk_frozen BK647.out 7
     have hfz31_8 := blk_frozen BK647.out 8
     have hfz31_9 := blk_frozen BK647.out 9
     have hfz31_10 := blk_frozen BK647.out 10
     have hfz31_11 := blk_frozen BK647.out 11
     have hcz32_0 : w23.cell? ⟨gb669, 0, none⟩ = some (.int .i64 0) := kc_ BK669 0
     have hcz32_1 : w23.cell? ⟨gb669, 1, none⟩ = some (.int .i64 0) := kc_ BK669 1
     have hcz32_2 : w23.cell? ⟨gb669, 2, none⟩ = some (.slice none 0 0) := kc_ BK669 2
     have hcz32_3 : w23.cell? ⟨gb669, 3, none⟩ = some (.int .i64 0) := kc_ BK669 3
     have hcz32_4 : w23.cell? ⟨gb669, 4, none⟩ = some (.int .i64 0) := kc_ BK669 4
     have hcz32_5 : w23.cell? ⟨gb669, 5, none⟩ = some (.int .i64 0) := kc_ BK669 5
     have hcz32_6 : w23.cell? ⟨gb669, 6, none⟩ = some (.int .i64 0) := kc_ BK669 6
     have hcz32_7 : w23.cell? ⟨gb669, 7, none⟩ = some (.int .i64 0) := kc_ BK669 7
     have hcz32_8 : w23.cell? ⟨gb669, 8, none⟩ = some (.string (⟨#[]⟩ : ByteArray)) := kc_ BK669 8
     have hcz32_9 : w23.cell? ⟨gb669, 9, none⟩ = some (.int .i64 0) := kc_ BK669 9
     have hcz32_10 : w23.cell? ⟨gb669, 10, none⟩ = some (.slice none 0 0) := kc_ BK669 10
     have hcz32_11 : w23.cell? ⟨gb669, 11, none⟩ = some (.slice none 0 0) := kc_ BK669 11
     have hfz32_0 := blk_frozen BK669.out 0
     have hfz32_1 := blk_frozen BK669.out 1
     have hfz32_2 := blk_frozen BK669.out 2
     have hfz32_3 := blk_frozen BK669.out 3
     have hfz32_4 := blk_frozen BK669.out 4
     have hfz32_5 := blk_frozen BK669.out 5
     have hfz32_6 := blk_frozen BK669.out 6
     have hfz32_7 := blk_frozen BK669.out 7
     have hfz32_8 := blk_frozen BK669.out 8
     have hfz32_9 := blk_frozen BK669.out 9
     have hfz32_10 := blk_frozen BK669.out 10
     have hfz32_11 := blk_frozen BK669.out 11
     go_wp2
     go_meet
     case rel => exact ⟨_, (t652), (t653), (t658), (wrap64 (1 + (Int.tmod a2_6 3))), (t660), (t661), (t666), (.slice Ao26 t653.length co26), (.slice Ao28 t666.length co28), H', ⟨by have := HJ4.out; first | omega | exact Nat.le_refl _⟩, ⟨by (with_reducible repeat (first | apply R_alloc | apply R_drewN | apply R_drew)); exact R_mono (R_far (p := ⟨gb669, 6, none⟩) (R_far (p := ⟨gb669, 11, none⟩) (R_far (p := ⟨gb669, 10, none⟩) (R_far (p := ⟨gb669, 9, none⟩) (R_far (p := ⟨gb669, 8, none⟩) (R_far (p := ⟨gb669, 7, none⟩) (R_far (p := ⟨gb669, 6, none⟩) (R_far (p := ⟨gb669, 5, none⟩) (R_far (p := ⟨gb669, 4, none⟩) (R_far (p := ⟨gb669, 3, none⟩) (R_far (p := ⟨gb669, 2, none⟩) (R_far (p := ⟨gb669, 1, none⟩) (R_far (p := ⟨gb669, 0, none⟩) (R_types HO655.out BK669.out z5_) (fun _ hk => hk.2) (.int .i64 t651)) (fun _ hk => hk.2) (.int .i64 t652)) (fun _ hk => hk.2) (.slice Ao26 t653.length co26)) (fun _ hk => hk.2) (.int .i64 t656)) (fun _ hk => hk.2) (.int .i64 t657)) (fun _ hk => hk.2) (.int .i64 t658)) (fun _ hk => hk.2) (.int .i64 t659)) (fun _ hk => hk.2) (.int .i64 t660)) (fun _ hk => hk.2) (.string t661)) (fun _ hk => hk.2) (.int .i64 t662)) (fun _ hk => hk.2) (.slice Ao27 t663.length co27)) (fun _ hk => hk.2) (.slice Ao28 t666.length co28)) (fun _ hk => hk.2) (.int .i64 (wrap64 (1 + (Int.tmod a2_6 3))))) (fun _ hk => trivial)⟩, ⟨by (with_reducible repeat (first | apply R_alloc | apply R_drewN | apply R_drew)); exact R_mono (R_far (p := ⟨gb669, 6, none⟩) (R_far (p := ⟨gb669, 11, none⟩) (R_far (p := ⟨gb669, 10, none⟩) (R_far (p := ⟨gb669, 9, none⟩) (R_far (p := ⟨gb669, 8, none⟩) (R_far (p := ⟨gb669, 7, none⟩) (R_far (p := ⟨gb669, 6, none⟩) (R_far (p := ⟨gb669, 5, none⟩) (R_far (p := ⟨gb669, 4, none⟩) (R_far (p := ⟨gb669, 3, none⟩) (R_far (p := ⟨gb669, 2, none⟩) (R_far (p := ⟨gb669, 1, none⟩) (R_far (p := ⟨gb669, 0, none⟩) (R_types HO665.out BK669.out z5_) (fun _ hk => hk.2) (.int .i64 t651)) (fun _ hk => hk.2) (.int .i64 t652)) (fun _ hk => hk.2) (.slice Ao26 t653.length co26)) (fun _ hk => hk.2) (.int .i64 t656)) (fun _ hk => hk.2) (.int .i64 t657)) (fun _ hk => hk.2) (.int .i64 t658)) (fun _ hk => hk.2) (.int .i64 t659)) (fun _ hk => hk.2) (.int .i64 t660)) (fun _ hk => hk.2) (.string t661)) (fun _ hk => hk.2) (.int .i64 t662)) (fun _ hk => hk.2) (.slice Ao27 t663.length co27)) (fun _ hk => hk.2) (.slice Ao28 t666.length co28)) (fun _ hk => hk.2) (.int .i64 (wrap64 (1 + (Int.tmod a2_6 3))))) (fun _ hk => trivial)⟩, ⟨by (with_reducible repeat (first | apply R_alloc | apply R_drewN | apply R_drew)); exact R_mono (R_far (p := ⟨gb669, 6, none⟩) (R_far (p := ⟨gb669, 11, none⟩) (R_far (p := ⟨gb669, 10, none⟩) (R_far (p := ⟨gb669, 9, none⟩) (R_far (p := ⟨gb669, 8, none⟩) (R_far (p := ⟨gb669, 7, none⟩) (R_far (p := ⟨gb669, 6, none⟩) (R_far (p := ⟨gb669, 5, none⟩) (R_far (p := ⟨gb669, 4, none⟩) (R_far (p := ⟨gb669, 3, none⟩) (R_far (p := ⟨gb669, 2, none⟩) (R_far (p := ⟨gb669, 1, none⟩) (R_far (p := ⟨gb669, 0, none⟩) (R_types HO668.out BK669.out z5_) (fun _ hk => hk.2) (.int .i64 t651)) (fun _ hk => hk.2) (.int .i64 t652)) (fun _ hk => hk.2) (.slice Ao26 t653.length co26)) (fun _ hk => hk.2) (.int .i64 t656)) (fun _ hk => hk.2) (.int .i64 t657)) (fun _ hk => hk.2) (.int .i64 t658)) (fun _ hk => hk.2) (.int .i64 t659)) (fun _ hk => hk.2) (.int .i64 t660)) (fun _ hk => hk.2) (.string t661)) (fun _ hk => hk.2) (.int .i64 t662)) (fun _ hk => hk.2) (.slice Ao27 t663.length co27)) (fun _ hk => hk.2) (.slice Ao28 t666.length co28)) (fun _ hk => hk.2) (.int .i64 (wrap64 (1 + (Int.tmod a2_6 3))))) (fun _ hk => trivial)⟩, ⟨by (with_reducible repeat (first | refine blk_drewN ?_ _ | refine blk_drew ?_ | refine blk_alloc ?_ _)); refine blk_far ?_ NB647_669.out _; (with_reducible repeat (first | refine blk_drewN ?_ _ | refine blk_drew ?_ | refine blk_alloc ?_ _)); refine blk_far ?_ NB647_669.out _; (with_reducible repeat (first | refine blk_drewN ?_ _ | refine blk_drew ?_ | refine blk_alloc ?_ _)); refine blk_far ?_ NB647_669.out _; (with_reducible repeat (first | refine blk_drewN ?_ _ | refine blk_drew ?_ | refine blk_alloc ?_ _)); refine blk_far ?_ NB647_669.out _; (with_reducible repeat (first | refine blk_drewN ?_ _ | refine blk_drew ?_ | refine blk_alloc ?_ _)); refine blk_far ?_ NB647_669.out _; (with_reducible repeat (first | refine blk_drewN ?_ _ | refine blk_drew ?_ | refine blk_alloc ?_ _)); refine blk_far ?_ NB647_669.out _; (with_reducible repeat (first | refine blk_drewN ?_ _ | refine blk_drew ?_ | refine blk_alloc ?_ _)); refine blk_far ?_ NB647_669.out _; (with_reducible repeat (first | refine blk_drewN ?_ _ | refine blk_drew ?_ | refine blk_alloc ?_ _)); refine blk_far ?_ NB647_669.out _; (with_reducible repeat (first | refine blk_drewN ?_ _ | refine blk_drew ?_ | refine blk_alloc ?_ _)); refine blk_far ?_ NB647_669.out _; (with_reducible repeat (first | refine blk_drewN ?_ _ | refine blk_drew ?_ | refine blk_alloc ?_ _)); refine blk_far ?_ NB647_669.out _; (with_reducible repeat (first | refine blk_drewN ?_ _ | refine blk_drew ?_ | refine blk_alloc ?_ _)); refine blk_far ?_ NB647_669.out _; (with_reducible repeat (first | refine blk_drewN ?_ _ | refine blk_drew ?_ | refine blk_alloc ?_ _)); refine blk_far ?_ NB647_669.out _; (with_reducible repeat (first | refine blk_drewN ?_ _ | refine blk_drew ?_ | refine blk_alloc ?_ _)); refine blk_far ?_ NB647_669.out _; (with_reducible repeat (first | refine blk_drewN ?_ _ | refine blk_drew ?_ | refine blk_alloc ?_ _)); exact BK647.out⟩, ⟨by (with_reducible repeat (first | refine blk_drewN ?_ _ | refine blk_drew ?_ | refine blk_alloc ?_ _)); refine blk_put (cs := #[.int .i64 t651, .int .i64 t652, .slice Ao26 t653.length co26, .int .i64 t656, .int .i64 t657, .int .i64 t658, .int .i64 t659, .int .i64 t660, .string t661, .int .i64 t662, .slice Ao27 t663.length co27, .slice Ao28 t666.length co28]) ?_ 6 _ rfl; (with_reducible repeat (first | refine blk_drewN ?_ _ | refine blk_drew ?_ | refine blk_alloc ?_ _)); refine blk_put (cs := #[.int .i64 t651, .int .i64 t652, .slice Ao26 t653.length co26, .int .i64 t656, .int .i64 t657, .int .i64 t658, .int .i64 t659, .int .i64 t660, .string t661, .int .i64 t662, .slice Ao27 t663.length co27, .slice none 0 0]) ?_ 11 _ rfl; (with_reducible repeat (first | refine blk_drewN ?_ _ | refine blk_drew ?_ | refine blk_alloc ?_ _)); refine blk_put (cs := #[.int .i64 t651, .int .i64 t652, .slice Ao26 t653.length co26, .int .i64 t656, .int .i64 t657, .int .i64 t658, .int .i64 t659, .int .i64 t660, .string t661, .int .i64 t662, .slice none 0 0, .slice none 0 0]) ?_ 10 _ rfl; (with_reducible repeat (first | refine blk_drewN ?_ _ | refine blk_drew ?_ | refine blk_alloc ?_ _)); refine blk_put (cs := #[.int .i64 t651, .int .i64 t652, .slice Ao26 t653.length co26, .int .i64 t656, .int .i64 t657, .int .i64 t658, .int .i64 t659, .int .i64 t660, .string t661, .int .i64 0, .slice none 0 0, .slice none 0 0]) ?_ 9 _ rfl; (with_reducible repeat (first | refine blk_drewN ?_ _ | refine blk_drew ?_ | refine blk_alloc ?_ _)); refine blk_put (cs := #[.int .i64 t651, .int .i64 t652, .slice Ao26 t653.length co26, .int .i64 t656, .int .i64 t657, .int .i64 t658, .int .i64 t659, .int .i64 t660, .string (⟨#[]⟩ : ByteArray), .int .i64 0, .slice none 0 0, .slice none 0 0]) ?_ 8 _ rfl; (with_reducible repeat (first | refine blk_drewN ?_ _ | refine blk_drew ?_ | refine blk_alloc ?_ _)); refine blk_put (cs := #[.int .i64 t651, .int .i64 t652, .slice Ao26 t653.length co26, .int .i64 t656, .int .i64 t657, .int .i64 t658, .int .i64 t659, .int .i64 0, .string (⟨#[]⟩ : ByteArray), .int .i64 0, .slice none 0 0, .slice none 0 0]) ?_ 7 _ rfl; (with_reducible repeat (first | refine blk_drewN ?_ _ | refine blk_drew ?_ | refine blk_alloc ?_ _)); refine blk_put (cs := #[.int .i64 t651, .int .i64 t652, .slice Ao26 t653.length co26, .int .i64 t656, .int .i64 t657, .int .i64 t658, .int .i64 0, .int .i64 0, .string (⟨#[]⟩ : ByteArray), .int .i64 0, .slice none 0 0, .slice none 0 0]) ?_ 6 _ rfl; (with_reducible repeat (first | refine blk_drewN ?_ _ | refine blk_drew ?_ | refine blk_alloc ?_ _)); refine blk_put (cs := #[.int .i64 t651, .int .i64 t652, .slice Ao26 t653.length co26, .int .i64 t656, .int .i64 t657, .int .i64 0, .int .i64 0, .int .i64 0, .string (⟨#[]⟩ : ByteArray), .int .i64 0, .slice none 0 0, .slice none 0 0]) ?_ 5 _ rfl; (with_reducible repeat (first | refine blk_drewN ?_ _ | refine blk_drew ?_ | refine blk_alloc ?_ _)); refine blk_put (cs := #[.int .i64 t651, .int .i64 t652, .slice Ao26 t653.length co26, .int .i64 t656, .int .i64 0, .int .i64 0, .int .i64 0, .int .i64 0, .string (⟨#[]⟩ : ByteArray), .int .i64 0, .slice none 0 0, .slice none 0 0]) ?_ 4 _ rfl; (with_reducible repeat (first | refine blk_drewN ?_ _ | refine blk_drew ?_ | refine blk_alloc ?_ _)); refine blk_put (cs := #[.int .i64 t651, .int .i64 t652, .slice Ao26 t653.length co26, .int .i64 0, .int .i64 0, .int .i64 0, .int .i64 0, .int .i64 0, .string (⟨#[]⟩ : ByteArray), .int .i64 0, .slice none 0 0, .slice none 0 0]) ?_ 3 _ rfl; (with_reducible repeat (first | refine blk_drewN ?_ _ | refine blk_drew ?_ | refine blk_alloc ?_ _)); refine blk_put (cs := #[.int .i64 t651, .int .i64 t652, .slice none 0 0, .int .i64 0, .int .i64 0, .int .i64 0, .int .i64 0, .int .i64 0, .string (⟨#[]⟩ : ByteArray), .int .i64 0, .slice none 0 0, .slice none 0 0]) ?_ 2 _ rfl; (with_reducible repeat (first | refine blk_drewN ?_ _ | refine blk_drew ?_ | refine blk_alloc ?_ _)); refine blk_put (cs := #[.int .i64 t651, .int .i64 0, .slice none 0 0, .int .i64 0, .int .i64 0, .int .i64 0, .int .i64 0, .int .i64 0, .string (⟨#[]⟩ : ByteArray), .int .i64 0, .slice none 0 0, .slice none 0 0]) ?_ 1 _ rfl; (with_reducible repeat (first | refine blk_drewN ?_ _ | refine blk_drew ?_ | refine blk_alloc ?_ _)); refine blk_put (cs := #[.int .i64 0, .int .i64 0, .slice none 0 0, .int .i64 0, .int .i64 0, .int .i64 0, .int .i64 0, .int .i64 0, .string (⟨#[]⟩ : ByteArray), .int .i64 0, .slice none 0 0, .slice none 0 0]) ?_ 0 _ rfl; (with_reducible repeat (first | refine blk_drewN ?_ _ | refine blk_drew ?_ | refine blk_alloc ?_ _)); exact BK669.out⟩, ⟨Short.hB HB⟩⟩
    rw [if_neg c29] at H
    have c29b0 : ((Int.tmod (IntKind.u64.wrap (a3)) 7) == 0) = false := beq_eq_false_iff_ne.mpr c29
    have c29b1 : ((Int.tmod (IntKind.u64.wrap (a3)) 7) != 0) = true := bne_iff_ne.mpr c29
    (first | rw [c29b0] | (simp only [i64_w, i32_w]; rw [c29b0]) | skip)
    by_cases c33 : (Int.tmod (IntKind.u64.wrap (a3)) 7) = 1
    ·
     rw [if_pos c33] at H
     have c33b0 : ((Int.tmod (IntKind.u64.wrap (a3)) 7) == 1) = true := beq_iff_eq.mpr c33
     have c33b1 : ((Int.tmod (IntKind.u64.wrap (a3)) 7) != 1) = false := bne_eq_false_iff_eq.mpr c33
     clear c33
     have H' := mk_ H
     clear H
     have hnb34 := NB647_669.out
     have hnc34 := NB669_647.out
     have hcz35_0 : w23.cell? ⟨gb647, 0, none⟩ = some (.int .i64 a2_0) := kc_ BK647 0
     have hcz35_1 : w23.cell? ⟨gb647, 1, none⟩ = some (.int .i64 a2_1) := kc_ BK647 1
     have hcz35_2 : w23.cell? ⟨gb647, 2, none⟩ = some (.slice A2_2 l2_2.length c2_2) := kc_ BK647 2
     have hcz35_3 : w23.cell? ⟨gb647, 3, none⟩ = some (.int .i64 a2_3) := kc_ BK647 3
     have hcz35_4 : w23.cell? ⟨gb647, 4, none⟩ = some (.int .i64 a2_4) := kc_ BK647 4
     have hcz35_5 : w23.cell? ⟨gb647, 5, none⟩ = some (.int .i64 a2_5) := kc_ BK647 5
     have hcz35_6 : w23.cell? ⟨gb647, 6, none⟩ = some (.int .i64 a2_6) := kc_ BK647 6
     have hcz35_7 : w23.cell? ⟨gb647, 7, none⟩ = some (.int .i64 a2_7) := kc_ BK647 7
     have hcz35_8 : w23.cell? ⟨gb647, 8, none⟩ = some (.string a2_8) := kc_ BK647 8
     have hcz35_9 : w23.cell? ⟨gb647, 9, none⟩ = some (.int .i64 a2_9) := kc_ BK647 9
     have hcz35_10 : w23.cell? ⟨gb647, 10, none⟩ = some (.slice A2_10 l2_10.length c2_10) := kc_ BK647 10
     have hcz35_11 : w23.cell? ⟨gb647, 11, none⟩ = some (.slice A2_11 l2_11.length c2_11) := kc_ BK647 11
     have hfz35_0 := blk_frozen BK647.out 0
     have hfz35_1 := blk_frozen BK647.out 1
     have hfz35_2 := blk_frozen BK647.out 2
     have hfz35_3 := blk_frozen BK647.out 3
     have hfz35_4 := blk_frozen BK647.out 4
     have hfz35_5 := blk_frozen BK647.out 5
     have hfz35_6 := blk_frozen BK647.out 6
     have hfz35_7 := blk_frozen BK647.out 7
     have hfz35_8 := blk_frozen BK647.out 8
     have hfz35_9 := blk_frozen BK647.out 9
     have hfz35_10 := blk_frozen BK647.out 10
     have hfz35_11 := blk_frozen BK647.out 11
     have hcz36_0 : w23.cell? ⟨gb669, 0, none⟩ = some (.int .i64 0) := kc_ BK669 0
     have hcz36_1 : w23.cell? ⟨gb669, 1, none⟩ = some (.int .i64 0) := kc_ BK669 1
     have hcz36_2 : w23.cell? ⟨gb669, 2, none⟩ = some (.slice none 0 0) := kc_ BK669 2
     have hcz36_3 : w23.cell? ⟨gb669, 3, none⟩ = some (.int .i64 0) := kc_ BK669 3
     have hcz36_4 : w23.cell? ⟨gb669, 4, none⟩ = some (.int .i64 0) := kc_ BK669 4
     have hcz36_5 : w23.cell? ⟨gb669, 5, none⟩ = some (.int .i64 0) := kc_ BK669 5
     have hcz36_6 : w23.cell? ⟨gb669, 6, none⟩ = some (.int .i64 0) := kc_ BK669 6
     have hcz36_7 : w23.cell? ⟨gb669, 7, none⟩ = some (.int .i64 0) := kc_ BK669 7
     have hcz36_8 : w23.cell? ⟨gb669, 8, none⟩ = some (.string (⟨#[]⟩ : ByteArray)) := kc_ BK669 8
     have hcz36_9 : w23.cell? ⟨gb669, 9, none⟩ = some (.int .i64 0) := kc_ BK669 9
     have hcz36_10 : w23.cell? ⟨gb669, 10, none⟩ = some (.slice none 0 0) := kc_ BK669 10
     have hcz36_11 : w23.cell? ⟨gb669, 11, none⟩ = some (.slice none 0 0) := kc_ BK669 11
     have hfz36_0 := blk_frozen BK669.out 0
     have hfz36_1 := blk_frozen BK669.out 1
     have hfz36_2 := blk_frozen BK669.out 2
     have hfz36_3 := blk_frozen BK669.out 3
     have hfz36_4 := blk_frozen BK669.out 4
     have hfz36_5 := blk_frozen BK669.out 5
     have hfz36_6 := blk_frozen BK669.out 6
     have hfz36_7 := blk_frozen BK669.out 7
     have hfz36_8 := blk_frozen BK669.out 8
     have hfz36_9 := blk_frozen BK669.out 9
     have hfz36_10 := blk_frozen BK669.out 10
     have hfz36_11 := blk_frozen BK669.out 11
     go_wp2
     go_meet
     case rel => exact ⟨_, (t652), (t653), (wrap64 (a2_5 + 1)), (t659), (t660), (t661), (t666), (.slice Ao26 t653.length co26), (.slice Ao28 t666.length co28), H', ⟨by have := HJ4.out; first | omega | exact Nat.le_refl _⟩, ⟨by (with_reducible repeat (first | apply R_alloc | apply R_drewN | apply R_drew)); exact R_mono (R_far (p := ⟨gb669, 5, none⟩) (R_far (p := ⟨gb669, 11, none⟩) (R_far (p := ⟨gb669, 10, none⟩) (R_far (p := ⟨gb669, 9, none⟩) (R_far (p := ⟨gb669, 8, none⟩) (R_far (p := ⟨gb669, 7, none⟩) (R_far (p := ⟨gb669, 6, none⟩) (R_far (p := ⟨gb669, 5, none⟩) (R_far (p := ⟨gb669, 4, none⟩) (R_far (p := ⟨gb669, 3, none⟩) (R_far (p := ⟨gb669, 2, none⟩) (R_far (p := ⟨gb669, 1, none⟩) (R_far (p := ⟨gb669, 0, none⟩) (R_types HO655.out BK669.out z5_) (fun _ hk => hk.2) (.int .i64 t651)) (fun _ hk => hk.2) (.int .i64 t652)) (fun _ hk => hk.2) (.slice Ao26 t653.length co26)) (fun _ hk => hk.2) (.int .i64 t656)) (fun _ hk => hk.2) (.int .i64 t657)) (fun _ hk => hk.2) (.int .i64 t658)) (fun _ hk => hk.2) (.int .i64 t659)) (fun _ hk => hk.2) (.int .i64 t660)) (fun _ hk => hk.2) (.string t661)) (fun _ hk => hk.2) (.int .i64 t662)) (fun _ hk => hk.2) (.slice Ao27 t663.length co27)) (fun _ hk => hk.2) (.slice Ao28 t666.length co28)) (fun _ hk => hk.2) (.int .i64 (wrap64 (a2_5 + 1)))) (fun _ hk => trivial)⟩, ⟨by (with_reducible repeat (first | apply R_alloc | apply R_drewN | apply R_drew)); exact R_mono (R_far (p := ⟨gb669, 5, none⟩) (R_far (p := ⟨gb669, 11, none⟩) (R_far (p := ⟨gb669, 10, none⟩) (R_far (p := ⟨gb669, 9, none⟩) (R_far (p := ⟨gb669, 8, none⟩) (R_far (p := ⟨gb669, 7, none⟩) (R_far (p := ⟨gb669, 6, none⟩) (R_far (p := ⟨gb669, 5, none⟩) (R_far (p := ⟨gb669, 4, none⟩) (R_far (p := ⟨gb669, 3, none⟩) (R_far (p := ⟨gb669, 2, none⟩) (R_far (p := ⟨gb669, 1, none⟩) (R_far (p := ⟨gb669, 0, none⟩) (R_types HO665.out BK669.out z5_) (fun _ hk => hk.2) (.int .i64 t651)) (fun _ hk => hk.2) (.int .i64 t652)) (fun _ hk => hk.2) (.slice Ao26 t653.length co26)) (fun _ hk => hk.2) (.int .i64 t656)) (fun _ hk => hk.2) (.int .i64 t657)) (fun _ hk => hk.2) (.int .i64 t658)) (fun _ hk => hk.2) (.int .i64 t659)) (fun _ hk => hk.2) (.int .i64 t660)) (fun _ hk => hk.2) (.string t661)) (fun _ hk => hk.2) (.int .i64 t662)) (fun _ hk => hk.2) (.slice Ao27 t663.length co27)) (fun _ hk => hk.2) (.slice Ao28 t666.length co28)) (fun _ hk => hk.2) (.int .i64 (wrap64 (a2_5 + 1)))) (fun _ hk => trivial)⟩, ⟨by (with_reducible repeat (first | apply R_alloc | apply R_drewN | apply R_drew)); exact R_mono (R_far (p := ⟨gb669, 5, none⟩) (R_far (p := ⟨gb669, 11, none⟩) (R_far (p := ⟨gb669, 10, none⟩) (R_far (p := ⟨gb669, 9, none⟩) (R_far (p := ⟨gb669, 8, none⟩) (R_far (p := ⟨gb669, 7, none⟩) (R_far (p := ⟨gb669, 6, none⟩) (R_far (p := ⟨gb669, 5, none⟩) (R_far (p := ⟨gb669, 4, none⟩) (R_far (p := ⟨gb669, 3, none⟩) (R_far (p := ⟨gb669, 2, none⟩) (R_far (p := ⟨gb669, 1, none⟩) (R_far (p := ⟨gb669, 0, none⟩) (R_types HO668.out BK669.out z5_) (fun _ hk => hk.2) (.int .i64 t651)) (fun _ hk => hk.2) (.int .i64 t652)) (fun _ hk => hk.2) (.slice Ao26 t653.length co26)) (fun _ hk => hk.2) (.int .i64 t656)) (fun _ hk => hk.2) (.int .i64 t657)) (fun _ hk => hk.2) (.int .i64 t658)) (fun _ hk => hk.2) (.int .i64 t659)) (fun _ hk => hk.2) (.int .i64 t660)) (fun _ hk => hk.2) (.string t661)) (fun _ hk => hk.2) (.int .i64 t662)) (fun _ hk => hk.2) (.slice Ao27 t663.length co27)) (fun _ hk => hk.2) (.slice Ao28 t666.length co28)) (fun _ hk => hk.2) (.int .i64 (wrap64 (a2_5 + 1)))) (fun _ hk => trivial)⟩, ⟨by (with_reducible repeat (first | refine blk_drewN ?_ _ | refine blk_drew ?_ | refine blk_alloc ?_ _)); refine blk_far ?_ NB647_669.out _; (with_reducible repeat (first | refine blk_drewN ?_ _ | refine blk_drew ?_ | refine blk_alloc ?_ _)); refine blk_far ?_ NB647_669.out _; (with_reducible repeat (first | refine blk_drewN ?_ _ | refine blk_drew ?_ | refine blk_alloc ?_ _)); refine blk_far ?_ NB647_669.out _; (with_reducible repeat (first | refine blk_drewN ?_ _ | refine blk_drew ?_ | refine blk_alloc ?_ _)); refine blk_far ?_ NB647_669.out _; (with_reducible repeat (first | refine blk_drewN ?_ _ | refine blk_drew ?_ | refine blk_alloc ?_ _)); refine blk_far ?_ NB647_669.out _; (with_reducible repeat (first | refine blk_drewN ?_ _ | refine blk_drew ?_ | refine blk_alloc ?_ _)); refine blk_far ?_ NB647_669.out _; (with_reducible repeat (first | refine blk_drewN ?_ _ | refine blk_drew ?_ | refine blk_alloc ?_ _)); refine blk_far ?_ NB647_669.out _; (with_reducible repeat (first | refine blk_drewN ?_ _ | refine blk_drew ?_ | refine blk_alloc ?_ _)); refine blk_far ?_ NB647_669.out _; (with_reducible repeat (first | refine blk_drewN ?_ _ | refine blk_drew ?_ | refine blk_alloc ?_ _)); refine blk_far ?_ NB647_669.out _; (with_reducible repeat (first | refine blk_drewN ?_ _ | refine blk_drew ?_ | refine blk_alloc ?_ _)); refine blk_far ?_ NB647_669.out _; (with_reducible repeat (first | refine blk_drewN ?_ _ | refine blk_drew ?_ | refine blk_alloc ?_ _)); refine blk_far ?_ NB647_669.out _; (with_reducible repeat (first | refine blk_drewN ?_ _ | refine blk_drew ?_ | refine blk_alloc ?_ _)); refine blk_far ?_ NB647_669.out _; (with_reducible repeat (first | refine blk_drewN ?_ _ | refine blk_drew ?_ | refine blk_alloc ?_ _)); refine blk_far ?_ NB647_669.out _; (with_reducible repeat (first | refine blk_drewN ?_ _ | refine blk_drew ?_ | refine blk_alloc ?_ _)); exact BK647.out⟩, ⟨by (with_reducible repeat (first | refine blk_drewN ?_ _ | refine blk_drew ?_ | refine blk_alloc ?_ _)); refine blk_put (cs := #[.int .i64 t651, .int .i64 t652, .slice Ao26 t653.length co26, .int .i64 t656, .int .i64 t657, .int .i64 t658, .int .i64 t659, .int .i64 t660, .string t661, .int .i64 t662, .slice Ao27 t663.length co27, .slice Ao28 t666.length co28]) ?_ 5 _ rfl; (with_reducible repeat (first | refine blk_drewN ?_ _ | refine blk_drew ?_ | refine blk_alloc ?_ _)); refine blk_put (cs := #[.int .i64 t651, .int .i64 t652, .slice Ao26 t653.length co26, .int .i64 t656, .int .i64 t657, .int .i64 t658, .int .i64 t659, .int .i64 t660, .string t661, .int .i64 t662, .slice Ao27 t663.length co27, .slice none 0 0]) ?_ 11 _ rfl; (with_reducible repeat (first | refine blk_drewN ?_ _ | refine blk_drew ?_ | refine blk_alloc ?_ _)); refine blk_put (cs := #[.int .i64 t651, .int .i64 t652, .slice Ao26 t653.length co26, .int .i64 t656, .int .i64 t657, .int .i64 t658, .int .i64 t659, .int .i64 t660, .string t661, .int .i64 t662, .slice none 0 0, .slice none 0 0]) ?_ 10 _ rfl; (with_reducible repeat (first | refine blk_drewN ?_ _ | refine blk_drew ?_ | refine blk_alloc ?_ _)); refine blk_put (cs := #[.int .i64 t651, .int .i64 t652, .slice Ao26 t653.length co26, .int .i64 t656, .int .i64 t657, .int .i64 t658, .int .i64 t659, .int .i64 t660, .string t661, .int .i64 0, .slice none 0 0, .slice none 0 0]) ?_ 9 _ rfl; (with_reducible repeat (first | refine blk_drewN ?_ _ | refine blk_drew ?_ | refine blk_alloc ?_ _)); refine blk_put (cs := #[.int .i64 t651, .int .i64 t652, .slice Ao26 t653.length co26, .int .i64 t656, .int .i64 t657, .int .i64 t658, .int .i64 t659, .int .i64 t660, .string (⟨#[]⟩ : ByteArray), .int .i64 0, .slice none 0 0, .slice none 0 0]) ?_ 8 _ rfl; (with_reducible repeat (first | refine blk_drewN ?_ _ | refine blk_drew ?_ | refine blk_alloc ?_ _)); refine blk_put (cs := #[.int .i64 t651, .int .i64 t652, .slice Ao26 t653.length co26, .int .i64 t656, .int .i64 t657, .int .i64 t658, .int .i64 t659, .int .i64 0, .string (⟨#[]⟩ : ByteArray), .int .i64 0, .slice none 0 0, .slice none 0 0]) ?_ 7 _ rfl; (with_reducible repeat (first | refine blk_drewN ?_ _ | refine blk_drew ?_ | refine blk_alloc ?_ _)); refine blk_put (cs := #[.int .i64 t651, .int .i64 t652, .slice Ao26 t653.length co26, .int .i64 t656, .int .i64 t657, .int .i64 t658, .int .i64 0, .int .i64 0, .string (⟨#[]⟩ : ByteArray), .int .i64 0, .slice none 0 0, .slice none 0 0]) ?_ 6 _ rfl; (with_reducible repeat (first | refine blk_drewN ?_ _ | refine blk_drew ?_ | refine blk_alloc ?_ _)); refine blk_put (cs := #[.int .i64 t651, .int .i64 t652, .slice Ao26 t653.length co26, .int .i64 t656, .int .i64 t657, .int .i64 0, .int .i64 0, .int .i64 0, .string (⟨#[]⟩ : ByteArray), .int .i64 0, .slice none 0 0, .slice none 0 0]) ?_ 5 _ rfl; (with_reducible repeat (first | refine blk_drewN ?_ _ | refine blk_drew ?_ | refine blk_alloc ?_ _)); refine blk_put (cs := #[.int .i64 t651, .int .i64 t652, .slice Ao26 t653.length co26, .int .i64 t656, .int .i64 0, .int .i64 0, .int .i64 0, .int .i64 0, .string (⟨#[]⟩ : ByteArray), .int .i64 0, .slice none 0 0, .slice none 0 0]) ?_ 4 _ rfl; (with_reducible repeat (first | refine blk_drewN ?_ _ | refine blk_drew ?_ | refine blk_alloc ?_ _)); refine blk_put (cs := #[.int .i64 t651, .int .i64 t652, .slice Ao26 t653.length co26, .int .i64 0, .int .i64 0, .int .i64 0, .int .i64 0, .int .i64 0, .string (⟨#[]⟩ : ByteArray), .int .i64 0, .slice none 0 0, .slice none 0 0]) ?_ 3 _ rfl; (with_reducible repeat (first | refine blk_drewN ?_ _ | refine blk_drew ?_ | refine blk_alloc ?_ _)); refine blk_put (cs := #[.int .i64 t651, .int .i64 t652, .slice none 0 0, .int .i64 0, .int .i64 0, .int .i64 0, .int .i64 0, .int .i64 0, .string (⟨#[]⟩ : ByteArray), .int .i64 0, .slice none 0 0, .slice none 0 0]) ?_ 2 _ rfl; (with_reducible repeat (first | refine blk_drewN ?_ _ | refine blk_drew ?_ | refine blk_alloc ?_ _)); refine blk_put (cs := #[.int .i64 t651, .int .i64 0, .slice none 0 0, .int .i64 0, .int .i64 0, .int .i64 0, .int .i64 0, .int .i64 0, .string (⟨#[]⟩ : ByteArray), .int .i64 0, .slice none 0 0, .slice none 0 0]) ?_ 1 _ rfl; (with_reducible repeat (first | refine blk_drewN ?_ _ | refine blk_drew ?_ | refine blk_alloc ?_ _)); refine blk_put (cs := #[.int .i64 0, .int .i64 0, .slice none 0 0, .int .i64 0, .int .i64 0, .int .i64 0, .int .i64 0, .int .i64 0, .string (⟨#[]⟩ : ByteArray), .int .i64 0, .slice none 0 0, .slice none 0 0]) ?_ 0 _ rfl; (with_reducible repeat (first | refine blk_drewN ?_ _ | refine blk_drew ?_ | refine blk_alloc ?_ _)); exact BK669.out⟩, ⟨Short.hB HB⟩⟩
    rw [if_neg c33] at H
    have c33b0 : ((Int.tmod (IntKind.u64.wrap (a3)) 7) == 1) = false := beq_eq_false_iff_ne.mpr c33
    have c33b1 : ((Int.tmod (IntKind.u64.wrap (a3)) 7) != 1) = true := bne_iff_ne.mpr c33
    by_cases c37 : (Int.tmod (IntKind.u64.wrap (a3)) 7) = 2
    ·
     rw [if_pos c37] at H
     have c37b0 : ((Int.tmod (IntKind.u64.wrap (a3)) 7) == 2) = true := beq_iff_eq.mpr c37
     have c37b1 : ((Int.tmod (IntKind.u64.wrap (a3)) 7) != 2) = false := bne_eq_false_iff_eq.mpr c37
     clear c37
     have H' := mk_ H
     clear H
     have hnb38 := NB669_647.out
     have hnc38 := NB647_669.out
     have hcz39_0 : w23.cell? ⟨gb669, 0, none⟩ = some (.int .i64 0) := kc_ BK669 0
     have hcz39_1 : w23.cell? ⟨gb669, 1, none⟩ = some (.int .i64 0) := kc_ BK669 1
     have hcz39_2 : w23.cell? ⟨gb669, 2, none⟩ = some (.slice none 0 0) := kc_ BK669 2
     have hcz39_3 : w23.cell? ⟨gb669, 3, none⟩ = some (.int .i64 0) := kc_ BK669 3
     have hcz39_4 : w23.cell? ⟨gb669, 4, none⟩ = some (.int .i64 0) := kc_ BK669 4
     have hcz39_5 : w23.cell? ⟨gb669, 5, none⟩ = some (.int .i64 0) := kc_ BK669 5
     have hcz39_6 : w23.cell? ⟨gb669, 6, none⟩ = some (.int .i64 0) := kc_ BK669 6
     have hcz39_7 : w23.cell? ⟨gb669, 7, none⟩ = some (.int .i64 0) := kc_ BK669 7
     have hcz39_8 : w23.cell? ⟨gb669, 8, none⟩ = some (.string (⟨#[]⟩ : ByteArray)) := kc_ BK669 8
     have hcz39_9 : w23.cell? ⟨gb669, 9, none⟩ = some (.int .i64 0) := kc_ BK669 9
     have hcz39_10 : w23.cell? ⟨gb669, 10, none⟩ = some (.slice none 0 0) := kc_ BK669 10
     have hcz39_11 : w23.cell? ⟨gb669, 11, none⟩ = some (.slice none 0 0) := kc_ BK669 11
     have hfz39_0 := blk_frozen BK669.out 0
     have hfz39_1 := blk_frozen BK669.out 1
     have hfz39_2 := blk_frozen BK669.out 2
     have hfz39_3 := blk_frozen BK669.out 3
     have hfz39_4 := blk_frozen BK669.out 4
     have hfz39_5 := blk_frozen BK669.out 5
     have hfz39_6 := blk_frozen BK669.out 6
     have hfz39_7 := blk_frozen BK669.out 7
     have hfz39_8 := blk_frozen BK669.out 8
     have hfz39_9 := blk_frozen BK669.out 9
     have hfz39_10 := blk_frozen BK669.out 10
     have hfz39_11 := blk_frozen BK669.out 11
     go_wp2
     go_meet
     case rel => exact ⟨_, (wrap64 (t652 + 1)), (t653), (t658), (t659), (t660), (t661), (t666), (.slice Ao26 t653.length co26), (.slice Ao28 t666.length co28), H', ⟨by have := HJ4.out; first | omega | exact Nat.le_refl _⟩, ⟨by (with_reducible repeat (first | apply R_alloc | apply R_drewN | apply R_drew)); exact R_mono (R_far (p := ⟨gb669, 1, none⟩) (R_far (p := ⟨gb669, 11, none⟩) (R_far (p := ⟨gb669, 10, none⟩) (R_far (p := ⟨gb669, 9, none⟩) (R_far (p := ⟨gb669, 8, none⟩) (R_far (p := ⟨gb669, 7, none⟩) (R_far (p := ⟨gb669, 6, none⟩) (R_far (p := ⟨gb669, 5, none⟩) (R_far (p := ⟨gb669, 4, none⟩) (R_far (p := ⟨gb669, 3, none⟩) (R_far (p := ⟨gb669, 2, none⟩) (R_far (p := ⟨gb669, 1, none⟩) (R_far (p := ⟨gb669, 0, none⟩) (R_types HO655.out BK669.out z5_) (fun _ hk => hk.2) (.int .i64 t651)) (fun _ hk => hk.2) (.int .i64 t652)) (fun _ hk => hk.2) (.slice Ao26 t653.length co26)) (fun _ hk => hk.2) (.int .i64 t656)) (fun _ hk => hk.2) (.int .i64 t657)) (fun _ hk => hk.2) (.int .i64 t658)) (fun _ hk => hk.2) (.int .i64 t659)) (fun _ hk => hk.2) (.int .i64 t660)) (fun _ hk => hk.2) (.string t661)) (fun _ hk => hk.2) (.int .i64 t662)) (fun _ hk => hk.2) (.slice Ao27 t663.length co27)) (fun _ hk => hk.2) (.slice Ao28 t666.length co28)) (fun _ hk => hk.2) (.int .i64 (wrap64 (t652 + 1)))) (fun _ hk => trivial)⟩, ⟨by (with_reducible repeat (first | apply R_alloc | apply R_drewN | apply R_drew)); exact R_mono (R_far (p := ⟨gb669, 1, none⟩) (R_far (p := ⟨gb669, 11, none⟩) (R_far (p := ⟨gb669, 10, none⟩) (R_far (p := ⟨gb669, 9, none⟩) (R_far (p := ⟨gb669, 8, none⟩) (R_far (p := ⟨gb669, 7, none⟩) (R_far (p := ⟨gb669, 6, none⟩) (R_far (p := ⟨gb669, 5, none⟩) (R_far (p := ⟨gb669, 4, none⟩) (R_far (p := ⟨gb669, 3, none⟩) (R_far (p := ⟨gb669, 2, none⟩) (R_far (p := ⟨gb669, 1, none⟩) (R_far (p := ⟨gb669, 0, none⟩) (R_types HO665.out BK669.out z5_) (fun _ hk => hk.2) (.int .i64 t651)) (fun _ hk => hk.2) (.int .i64 t652)) (fun _ hk => hk.2) (.slice Ao26 t653.length co26)) (fun _ hk => hk.2) (.int .i64 t656)) (fun _ hk => hk.2) (.int .i64 t657)) (fun _ hk => hk.2) (.int .i64 t658)) (fun _ hk => hk.2) (.int .i64 t659)) (fun _ hk => hk.2) (.int .i64 t660)) (fun _ hk => hk.2) (.string t661)) (fun _ hk => hk.2) (.int .i64 t662)) (fun _ hk => hk.2) (.slice Ao27 t663.length co27)) (fun _ hk => hk.2) (.slice Ao28 t666.length co28)) (fun _ hk => hk.2) (.int .i64 (wrap64 (t652 + 1)))) (fun _ hk => trivial)⟩, ⟨by (with_reducible repeat (first | apply R_alloc | apply R_drewN | apply R_drew)); exact R_mono (R_far (p := ⟨gb669, 1, none⟩) (R_far (p := ⟨gb669, 11, none⟩) (R_far (p := ⟨gb669, 10, none⟩) (R_far (p := ⟨gb669, 9, none⟩) (R_far (p := ⟨gb669, 8, none⟩) (R_far (p := ⟨gb669, 7, none⟩) (R_far (p := ⟨gb669, 6, none⟩) (R_far (p := ⟨gb669, 5, none⟩) (R_far (p := ⟨gb669, 4, none⟩) (R_far (p := ⟨gb669, 3, none⟩) (R_far (p := ⟨gb669, 2, none⟩) (R_far (p := ⟨gb669, 1, none⟩) (R_far (p := ⟨gb669, 0, none⟩) (R_types HO668.out BK669.out z5_) (fun _ hk => hk.2) (.int .i64 t651)) (fun _ hk => hk.2) (.int .i64 t652)) (fun _ hk => hk.2) (.slice Ao26 t653.length co26)) (fun _ hk => hk.2) (.int .i64 t656)) (fun _ hk => hk.2) (.int .i64 t657)) (fun _ hk => hk.2) (.int .i64 t658)) (fun _ hk => hk.2) (.int .i64 t659)) (fun _ hk => hk.2) (.int .i64 t660)) (fun _ hk => hk.2) (.string t661)) (fun _ hk => hk.2) (.int .i64 t662)) (fun _ hk => hk.2) (.slice Ao27 t663.length co27)) (fun _ hk => hk.2) (.slice Ao28 t666.length co28)) (fun _ hk => hk.2) (.int .i64 (wrap64 (t652 + 1)))) (fun _ hk => trivial)⟩, ⟨by (with_reducible repeat (first | refine blk_drewN ?_ _ | refine blk_drew ?_ | refine blk_alloc ?_ _)); refine blk_far ?_ NB647_669.out _; (with_reducible repeat (first | refine blk_drewN ?_ _ | refine blk_drew ?_ | refine blk_alloc ?_ _)); refine blk_far ?_ NB647_669.out _; (with_reducible repeat (first | refine blk_drewN ?_ _ | refine blk_drew ?_ | refine blk_alloc ?_ _)); refine blk_far ?_ NB647_669.out _; (with_reducible repeat (first | refine blk_drewN ?_ _ | refine blk_drew ?_ | refine blk_alloc ?_ _)); refine blk_far ?_ NB647_669.out _; (with_reducible repeat (first | refine blk_drewN ?_ _ | refine blk_drew ?_ | refine blk_alloc ?_ _)); refine blk_far ?_ NB647_669.out _; (with_reducible repeat (first | refine blk_drewN ?_ _ | refine blk_drew ?_ | refine blk_alloc ?_ _)); refine blk_far ?_ NB647_669.out _; (with_reducible repeat (first | refine blk_drewN ?_ _ | refine blk_drew ?_ | refine blk_alloc ?_ _)); refine blk_far ?_ NB647_669.out _; (with_reducible repeat (first | refine blk_drewN ?_ _ | refine blk_drew ?_ | refine blk_alloc ?_ _)); refine blk_far ?_ NB647_669.out _; (with_reducible repeat (first | refine blk_drewN ?_ _ | refine blk_drew ?_ | refine blk_alloc ?_ _)); refine blk_far ?_ NB647_669.out _; (with_reducible repeat (first | refine blk_drewN ?_ _ | refine blk_drew ?_ | refine blk_alloc ?_ _)); refine blk_far ?_ NB647_669.out _; (with_reducible repeat (first | refine blk_drewN ?_ _ | refine blk_drew ?_ | refine blk_alloc ?_ _)); refine blk_far ?_ NB647_669.out _; (with_reducible repeat (first | refine blk_drewN ?_ _ | refine blk_drew ?_ | refine blk_alloc ?_ _)); refine blk_far ?_ NB647_669.out _; (with_reducible repeat (first | refine blk_drewN ?_ _ | refine blk_drew ?_ | refine blk_alloc ?_ _)); refine blk_far ?_ NB647_669.out _; (with_reducible repeat (first | refine blk_drewN ?_ _ | refine blk_drew ?_ | refine blk_alloc ?_ _)); exact BK647.out⟩, ⟨by (with_reducible repeat (first | refine blk_drewN ?_ _ | refine blk_drew ?_ | refine blk_alloc ?_ _)); refine blk_put (cs := #[.int .i64 t651, .int .i64 t652, .slice Ao26 t653.length co26, .int .i64 t656, .int .i64 t657, .int .i64 t658, .int .i64 t659, .int .i64 t660, .string t661, .int .i64 t662, .slice Ao27 t663.length co27, .slice Ao28 t666.length co28]) ?_ 1 _ rfl; (with_reducible repeat (first | refine blk_drewN ?_ _ | refine blk_drew ?_ | refine blk_alloc ?_ _)); refine blk_put (cs := #[.int .i64 t651, .int .i64 t652, .slice Ao26 t653.length co26, .int .i64 t656, .int .i64 t657, .int .i64 t658, .int .i64 t659, .int .i64 t660, .string t661, .int .i64 t662, .slice Ao27 t663.length co27, .slice none 0 0]) ?_ 11 _ rfl; (with_reducible repeat (first | refine blk_drewN ?_ _ | refine blk_drew ?_ | refine blk_alloc ?_ _)); refine blk_put (cs := #[.int .i64 t651, .int .i64 t652, .slice Ao26 t653.length co26, .int .i64 t656, .int .i64 t657, .int .i64 t658, .int .i64 t659, .int .i64 t660, .string t661, .int .i64 t662, .slice none 0 0, .slice none 0 0]) ?_ 10 _ rfl; (with_reducible repeat (first | refine blk_drewN ?_ _ | refine blk_drew ?_ | refine blk_alloc ?_ _)); refine blk_put (cs := #[.int .i64 t651, .int .i64 t652, .slice Ao26 t653.length co26, .int .i64 t656, .int .i64 t657, .int .i64 t658, .int .i64 t659, .int .i64 t660, .string t661, .int .i64 0, .slice none 0 0, .slice none 0 0]) ?_ 9 _ rfl; (with_reducible repeat (first | refine blk_drewN ?_ _ | refine blk_drew ?_ | refine blk_alloc ?_ _)); refine blk_put (cs := #[.int .i64 t651, .int .i64 t652, .slice Ao26 t653.length co26, .int .i64 t656, .int .i64 t657, .int .i64 t658, .int .i64 t659, .int .i64 t660, .string (⟨#[]⟩ : ByteArray), .int .i64 0, .slice none 0 0, .slice none 0 0]) ?_ 8 _ rfl; (with_reducible repeat (first | refine blk_drewN ?_ _ | refine blk_drew ?_ | refine blk_alloc ?_ _)); refine blk_put (cs := #[.int .i64 t651, .int .i64 t652, .slice Ao26 t653.length co26, .int .i64 t656, .int .i64 t657, .int .i64 t658, .int .i64 t659, .int .i64 0, .string (⟨#[]⟩ : ByteArray), .int .i64 0, .slice none 0 0, .slice none 0 0]) ?_ 7 _ rfl; (with_reducible repeat (first | refine blk_drewN ?_ _ | refine blk_drew ?_ | refine blk_alloc ?_ _)); refine blk_put (cs := #[.int .i64 t651, .int .i64 t652, .slice Ao26 t653.length co26, .int .i64 t656, .int .i64 t657, .int .i64 t658, .int .i64 0, .int .i64 0, .string (⟨#[]⟩ : ByteArray), .int .i64 0, .slice none 0 0, .slice none 0 0]) ?_ 6 _ rfl; (with_reducible repeat (first | refine blk_drewN ?_ _ | refine blk_drew ?_ | refine blk_alloc ?_ _)); refine blk_put (cs := #[.int .i64 t651, .int .i64 t652, .slice Ao26 t653.length co26, .int .i64 t656, .int .i64 t657, .int .i64 0, .int .i64 0, .int .i64 0, .string (⟨#[]⟩ : ByteArray), .int .i64 0, .slice none 0 0, .slice none 0 0]) ?_ 5 _ rfl; (with_reducible repeat (first | refine blk_drewN ?_ _ | refine blk_drew ?_ | refine blk_alloc ?_ _)); refine blk_put (cs := #[.int .i64 t651, .int .i64 t652, .slice Ao26 t653.length co26, .int .i64 t656, .int .i64 0, .int .i64 0, .int .i64 0, .int .i64 0, .string (⟨#[]⟩ : ByteArray), .int .i64 0, .slice none 0 0, .slice none 0 0]) ?_ 4 _ rfl; (with_reducible repeat (first | refine blk_drewN ?_ _ | refine blk_drew ?_ | refine blk_alloc ?_ _)); refine blk_put (cs := #[.int .i64 t651, .int .i64 t652, .slice Ao26 t653.length co26, .int .i64 0, .int .i64 0, .int .i64 0, .int .i64 0, .int .i64 0, .string (⟨#[]⟩ : ByteArray), .int .i64 0, .slice none 0 0, .slice none 0 0]) ?_ 3 _ rfl; (with_reducible repeat (first | refine blk_drewN ?_ _ | refine blk_drew ?_ | refine blk_alloc ?_ _)); refine blk_put (cs := #[.int .i64 t651, .int .i64 t652, .slice none 0 0, .int .i64 0, .int .i64 0, .int .i64 0, .int .i64 0, .int .i64 0, .string (⟨#[]⟩ : ByteArray), .int .i64 0, .slice none 0 0, .slice none 0 0]) ?_ 2 _ rfl; (with_reducible repeat (first | refine blk_drewN ?_ _ | refine blk_drew ?_ | refine blk_alloc ?_ _)); refine blk_put (cs := #[.int .i64 t651, .int .i64 0, .slice none 0 0, .int .i64 0, .int .i64 0, .int .i64 0, .int .i64 0, .int .i64 0, .string (⟨#[]⟩ : ByteArray), .int .i64 0, .slice none 0 0, .slice none 0 0]) ?_ 1 _ rfl; (with_reducible repeat (first | refine blk_drewN ?_ _ | refine blk_drew ?_ | refine blk_alloc ?_ _)); refine blk_put (cs := #[.int .i64 0, .int .i64 0, .slice none 0 0, .int .i64 0, .int .i64 0, .int .i64 0, .int .i64 0, .int .i64 0, .string (⟨#[]⟩ : ByteArray), .int .i64 0, .slice none 0 0, .slice none 0 0]) ?_ 0 _ rfl; (with_reducible repeat (first | refine blk_drewN ?_ _ | refine blk_drew ?_ | refine blk_alloc ?_ _)); exact BK669.out⟩, ⟨Short.hB HB⟩⟩
    rw [if_neg c37] at H
    have c37b0 : ((Int.tmod (IntKind.u64.wrap (a3)) 7) == 2) = false := beq_eq_false_iff_ne.mpr c37
    have c37b1 : ((Int.tmod (IntKind.u64.wrap (a3)) 7) != 2) = true := bne_iff_ne.mpr c37
    by_cases c40 : (Int.tmod (IntKind.u64.wrap (a3)) 7) = 3
    ·
     rw [if_pos c40] at H
     have c40b0 : ((Int.tmod (IntKind.u64.wrap (a3)) 7) == 3) = true := beq_iff_eq.mpr c40
     have c40b1 : ((Int.tmod (IntKind.u64.wrap (a3)) 7) != 3) = false := bne_eq_false_iff_eq.mpr c40
     clear c40
     by_cases c41 : t653.length < 17592186044416
     rotate_left
     ·
      rw [if_neg c41] at H
      exact absurd H (by simp)
     rw [if_pos c41] at H
     have LMc41 := mk_ c41
     clear c41
     obtain ⟨y670, hy670⟩ : ∃ y_ : List Int, y_ = (t653 ++ [0]) := ⟨_, rfl⟩
     replace H : (raddlelaw07_OpKinds.j1 kj4 a0 l1 a3 a2_0 a2_1 l2_2 a2_3 a2_4 a2_5 a2_6 a2_7 a2_8 a2_9 l2_10 l2_11 t651 t652 y670 t656 t657 t658 t659 t660 t661 t662 t663 t666) = some r := by first | (rw [hy670]; with_reducible exact H) | (have H2_ := (Option.bind_some _ _).symm.trans H; rw [hy670]; with_reducible exact H2_) | (have H2_ := (Option.bind_some _ _).symm.trans H; with_reducible exact H2_) | with_reducible exact H | (rw [hy670]; exact H) | exact H
     have Ny670 := mk_ hy670
     clear hy670
     have H' := mk_ H
     clear H
     have hnb42 := NB669_647.out
     have hnc42 := NB647_669.out
     have hcz43_0 : w23.cell? ⟨gb669, 0, none⟩ = some (.int .i64 0) := kc_ BK669 0
     have hcz43_1 : w23.cell? ⟨gb669, 1, none⟩ = some (.int .i64 0) := kc_ BK669 1
     have hcz43_2 : w23.cell? ⟨gb669, 2, none⟩ = some (.slice none 0 0) := kc_ BK669 2
     have hcz43_3 : w23.cell? ⟨gb669, 3, none⟩ = some (.int .i64 0) := kc_ BK669 3
     have hcz43_4 : w23.cell? ⟨gb669, 4, none⟩ = some (.int .i64 0) := kc_ BK669 4
     have hcz43_5 : w23.cell? ⟨gb669, 5, none⟩ = some (.int .i64 0) := kc_ BK669 5
     have hcz43_6 : w23.cell? ⟨gb669, 6, none⟩ = some (.int .i64 0) := kc_ BK669 6
     have hcz43_7 : w23.cell? ⟨gb669, 7, none⟩ = some (.int .i64 0) := kc_ BK669 7
     have hcz43_8 : w23.cell? ⟨gb669, 8, none⟩ = some (.string (⟨#[]⟩ : ByteArray)) := kc_ BK669 8
     have hcz43_9 : w23.cell? ⟨gb669, 9, none⟩ = some (.int .i64 0) := kc_ BK669 9
     have hcz43_10 : w23.cell? ⟨gb669, 10, none⟩ = some (.slice none 0 0) := kc_ BK669 10
     have hcz43_11 : w23.cell? ⟨gb669, 11, none⟩ = some (.slice none 0 0) := kc_ BK669 11
     have hfz43_0 := blk_frozen BK669.out 0
     have hfz43_1 := blk_frozen BK669.out 1
     have hfz43_2 := blk_frozen BK669.out 2
     have hfz43_3 := blk_frozen BK669.out 3
     have hfz43_4 := blk_frozen BK669.out 4
     have hfz43_5 := blk_frozen BK669.out 5
     have hfz43_6 := blk_frozen BK669.out 6
     have hfz43_7 := blk_frozen BK669.out 7
     have hfz43_8 := blk_frozen BK669.out 8
     have hfz43_9 := blk_frozen BK669.out 9
     have hfz43_10 := blk_frozen BK669.out 10
     have hfz43_11 := blk_frozen BK669.out 11
     go_wp2_with (first | ((with_reducible refine gate_builtin (b := .append) (xs := #[.tmp 68, .tmp 69]) rfl ?_); at_builtin; refine R_append (Kd.int .i64) (w0 := w) w.heap.size rfl (.tmp 68) (.tmp 69) 26 3 (.int .i64 0) 8 rfl Try.underlying26 info3 rfl z5_ z3_ (.slice Ao26 t653.length co26) t653 0 [.int .i64 0] (fun _ => True) (fun _ => False) rfl (by first | (go_simp; done) | (go_simp; rfl)) ?aP (fun _ hk => hk.elim) ?aF ?aO ?aB ?aS ?aL ?_; (case aP => exact rfl); (case aB => exact (Short.hB HB)); (case aF => exact (fun _ _ => trivial)); (case aO => exact (by (with_reducible repeat (first | apply R_alloc | apply R_drewN | apply R_drew)); exact R_mono (R_far (p := ⟨gb669, 11, none⟩) (R_far (p := ⟨gb669, 10, none⟩) (R_far (p := ⟨gb669, 9, none⟩) (R_far (p := ⟨gb669, 8, none⟩) (R_far (p := ⟨gb669, 7, none⟩) (R_far (p := ⟨gb669, 6, none⟩) (R_far (p := ⟨gb669, 5, none⟩) (R_far (p := ⟨gb669, 4, none⟩) (R_far (p := ⟨gb669, 3, none⟩) (R_far (p := ⟨gb669, 2, none⟩) (R_far (p := ⟨gb669, 1, none⟩) (R_far (p := ⟨gb669, 0, none⟩) (R_types HO655.out BK669.out z5_) (fun _ hk => hk.2) (.int .i64 t651)) (fun _ hk => hk.2) (.int .i64 t652)) (fun _ hk => hk.2) (.slice Ao26 t653.length co26)) (fun _ hk => hk.2) (.int .i64 t656)) (fun _ hk => hk.2) (.int .i64 t657)) (fun _ hk => hk.2) (.int .i64 t658)) (fun _ hk => hk.2) (.int .i64 t659)) (fun _ hk => hk.2) (.int .i64 t660)) (fun _ hk => hk.2) (.string t661)) (fun _ hk => hk.2) (.int .i64 t662)) (fun _ hk => hk.2) (.slice Ao27 t663.length co27)) (fun _ hk => hk.2) (.slice Ao28 t666.length co28)) (fun _ hk => trivial))); (case aS => exact (below_size (Short.hB HB))); (case aL => have := LMc41.out; omega); intro v671 w44 ho hb hg hat; rw [← Ny670.out] at ho; have n0_ := mk_ (blk_grown (g := gb647) (o := .cells #[.int .i64 a2_0, .int .i64 a2_1, .slice A2_2 l2_2.length c2_2, .int .i64 a2_3, .int .i64 a2_4, .int .i64 a2_5, .int .i64 a2_6, .int .i64 a2_7, .string a2_8, .int .i64 a2_9, .slice A2_10 l2_10.length c2_10, .slice A2_11 l2_11.length c2_11] 32 (0, 0)) (by (with_reducible repeat (first | refine blk_drewN ?_ _ | refine blk_drew ?_ | refine blk_alloc ?_ _)); refine blk_far ?_ NB647_669.out _; (with_reducible repeat (first | refine blk_drewN ?_ _ | refine blk_drew ?_ | refine blk_alloc ?_ _)); refine blk_far ?_ NB647_669.out _; (with_reducible repeat (first | refine blk_drewN ?_ _ | refine blk_drew ?_ | refine blk_alloc ?_ _)); refine blk_far ?_ NB647_669.out _; (with_reducible repeat (first | refine blk_drewN ?_ _ | refine blk_drew ?_ | refine blk_alloc ?_ _)); refine blk_far ?_ NB647_669.out _; (with_reducible repeat (first | refine blk_drewN ?_ _ | refine blk_drew ?_ | refine blk_alloc ?_ _)); refine blk_far ?_ NB647_669.out _; (with_reducible repeat (first | refine blk_drewN ?_ _ | refine blk_drew ?_ | refine blk_alloc ?_ _)); refine blk_far ?_ NB647_669.out _; (with_reducible repeat (first | refine blk_drewN ?_ _ | refine blk_drew ?_ | refine blk_alloc ?_ _)); refine blk_far ?_ NB647_669.out _; (with_reducible repeat (first | refine blk_drewN ?_ _ | refine blk_drew ?_ | refine blk_alloc ?_ _)); refine blk_far ?_ NB647_669.out _; (with_reducible repeat (first | refine blk_drewN ?_ _ | refine blk_drew ?_ | refine blk_alloc ?_ _)); refine blk_far ?_ NB647_669.out _; (with_reducible repeat (first | refine blk_drewN ?_ _ | refine blk_drew ?_ | refine blk_alloc ?_ _)); refine blk_far ?_ NB647_669.out _; (with_reducible repeat (first | refine blk_drewN ?_ _ | refine blk_drew ?_ | refine blk_alloc ?_ _)); refine blk_far ?_ NB647_669.out _; (with_reducible repeat (first | refine blk_drewN ?_ _ | refine blk_drew ?_ | refine blk_alloc ?_ _)); refine blk_far ?_ NB647_669.out _; (with_reducible repeat (first | refine blk_drewN ?_ _ | refine blk_drew ?_ | refine blk_alloc ?_ _)); exact BK647.out) hg (R_ne HO655.out BK647.out z5_)); have n1_ := mk_ (R_over' (by (with_reducible repeat (first | apply R_alloc | apply R_drewN | apply R_drew)); exact (R_mono (R_far (p := ⟨gb669, 11, none⟩) (R_far (p := ⟨gb669, 10, none⟩) (R_far (p := ⟨gb669, 9, none⟩) (R_far (p := ⟨gb669, 8, none⟩) (R_far (p := ⟨gb669, 7, none⟩) (R_far (p := ⟨gb669, 6, none⟩) (R_far (p := ⟨gb669, 5, none⟩) (R_far (p := ⟨gb669, 4, none⟩) (R_far (p := ⟨gb669, 3, none⟩) (R_far (p := ⟨gb669, 2, none⟩) (R_far (p := ⟨gb669, 1, none⟩) (R_far (p := ⟨gb669, 0, none⟩) (R_types HO665.out BK669.out z5_) (fun _ hk => hk.2) (.int .i64 t651)) (fun _ hk => hk.2) (.int .i64 t652)) (fun _ hk => hk.2) (.slice Ao26 t653.length co26)) (fun _ hk => hk.2) (.int .i64 t656)) (fun _ hk => hk.2) (.int .i64 t657)) (fun _ hk => hk.2) (.int .i64 t658)) (fun _ hk => hk.2) (.int .i64 t659)) (fun _ hk => hk.2) (.int .i64 t660)) (fun _ hk => hk.2) (.string t661)) (fun _ hk => hk.2) (.int .i64 t662)) (fun _ hk => hk.2) (.slice Ao27 t663.length co27)) (fun _ hk => hk.2) (.slice Ao28 t666.length co28)) (fun _ h_ => h_.1))) (R_typed (by (with_reducible repeat (first | apply R_alloc | apply R_drewN | apply R_drew)); exact (R_mono (R_far (p := ⟨gb669, 11, none⟩) (R_far (p := ⟨gb669, 10, none⟩) (R_far (p := ⟨gb669, 9, none⟩) (R_far (p := ⟨gb669, 8, none⟩) (R_far (p := ⟨gb669, 7, none⟩) (R_far (p := ⟨gb669, 6, none⟩) (R_far (p := ⟨gb669, 5, none⟩) (R_far (p := ⟨gb669, 4, none⟩) (R_far (p := ⟨gb669, 3, none⟩) (R_far (p := ⟨gb669, 2, none⟩) (R_far (p := ⟨gb669, 1, none⟩) (R_far (p := ⟨gb669, 0, none⟩) (R_types HO655.out BK669.out z5_) (fun _ hk => hk.2) (.int .i64 t651)) (fun _ hk => hk.2) (.int .i64 t652)) (fun _ hk => hk.2) (.slice Ao26 t653.length co26)) (fun _ hk => hk.2) (.int .i64 t656)) (fun _ hk => hk.2) (.int .i64 t657)) (fun _ hk => hk.2) (.int .i64 t658)) (fun _ hk => hk.2) (.int .i64 t659)) (fun _ hk => hk.2) (.int .i64 t660)) (fun _ hk => hk.2) (.string t661)) (fun _ hk => hk.2) (.int .i64 t662)) (fun _ hk => hk.2) (.slice Ao27 t663.length co27)) (fun _ hk => hk.2) (.slice Ao28 t666.length co28)) (fun _ h_ => h_.1)))) z5_ hg); have n2_ := mk_ (R_over' (by (with_reducible repeat (first | apply R_alloc | apply R_drewN | apply R_drew)); exact (R_mono (R_far (p := ⟨gb669, 11, none⟩) (R_far (p := ⟨gb669, 10, none⟩) (R_far (p := ⟨gb669, 9, none⟩) (R_far (p := ⟨gb669, 8, none⟩) (R_far (p := ⟨gb669, 7, none⟩) (R_far (p := ⟨gb669, 6, none⟩) (R_far (p := ⟨gb669, 5, none⟩) (R_far (p := ⟨gb669, 4, none⟩) (R_far (p := ⟨gb669, 3, none⟩) (R_far (p := ⟨gb669, 2, none⟩) (R_far (p := ⟨gb669, 1, none⟩) (R_far (p := ⟨gb669, 0, none⟩) (R_types HO668.out BK669.out z5_) (fun _ hk => hk.2) (.int .i64 t651)) (fun _ hk => hk.2) (.int .i64 t652)) (fun _ hk => hk.2) (.slice Ao26 t653.length co26)) (fun _ hk => hk.2) (.int .i64 t656)) (fun _ hk => hk.2) (.int .i64 t657)) (fun _ hk => hk.2) (.int .i64 t658)) (fun _ hk => hk.2) (.int .i64 t659)) (fun _ hk => hk.2) (.int .i64 t660)) (fun _ hk => hk.2) (.string t661)) (fun _ hk => hk.2) (.int .i64 t662)) (fun _ hk => hk.2) (.slice Ao27 t663.length co27)) (fun _ hk => hk.2) (.slice Ao28 t666.length co28)) (fun _ h_ => h_.1))) (R_typed (by (with_reducible repeat (first | apply R_alloc | apply R_drewN | apply R_drew)); exact (R_mono (R_far (p := ⟨gb669, 11, none⟩) (R_far (p := ⟨gb669, 10, none⟩) (R_far (p := ⟨gb669, 9, none⟩) (R_far (p := ⟨gb669, 8, none⟩) (R_far (p := ⟨gb669, 7, none⟩) (R_far (p := ⟨gb669, 6, none⟩) (R_far (p := ⟨gb669, 5, none⟩) (R_far (p := ⟨gb669, 4, none⟩) (R_far (p := ⟨gb669, 3, none⟩) (R_far (p := ⟨gb669, 2, none⟩) (R_far (p := ⟨gb669, 1, none⟩) (R_far (p := ⟨gb669, 0, none⟩) (R_types HO655.out BK669.out z5_) (fun _ hk => hk.2) (.int .i64 t651)) (fun _ hk => hk.2) (.int .i64 t652)) (fun _ hk => hk.2) (.slice Ao26 t653.length co26)) (fun _ hk => hk.2) (.int .i64 t656)) (fun _ hk => hk.2) (.int .i64 t657)) (fun _ hk => hk.2) (.int .i64 t658)) (fun _ hk => hk.2) (.int .i64 t659)) (fun _ hk => hk.2) (.int .i64 t660)) (fun _ hk => hk.2) (.string t661)) (fun _ hk => hk.2) (.int .i64 t662)) (fun _ hk => hk.2) (.slice Ao27 t663.length co27)) (fun _ hk => hk.2) (.slice Ao28 t666.length co28)) (fun _ h_ => h_.1)))) z5_ hg); have n3_ := mk_ (blk_grown (g := gb669) (o := .cells #[.int .i64 t651, .int .i64 t652, .slice Ao26 t653.length co26, .int .i64 t656, .int .i64 t657, .int .i64 t658, .int .i64 t659, .int .i64 t660, .string t661, .int .i64 t662, .slice Ao27 t663.length co27, .slice Ao28 t666.length co28] 32 (0, 0)) (by (with_reducible repeat (first | refine blk_drewN ?_ _ | refine blk_drew ?_ | refine blk_alloc ?_ _)); refine blk_put (cs := #[.int .i64 t651, .int .i64 t652, .slice Ao26 t653.length co26, .int .i64 t656, .int .i64 t657, .int .i64 t658, .int .i64 t659, .int .i64 t660, .string t661, .int .i64 t662, .slice Ao27 t663.length co27, .slice none 0 0]) ?_ 11 _ rfl; (with_reducible repeat (first | refine blk_drewN ?_ _ | refine blk_drew ?_ | refine blk_alloc ?_ _)); refine blk_put (cs := #[.int .i64 t651, .int .i64 t652, .slice Ao26 t653.length co26, .int .i64 t656, .int .i64 t657, .int .i64 t658, .int .i64 t659, .int .i64 t660, .string t661, .int .i64 t662, .slice none 0 0, .slice none 0 0]) ?_ 10 _ rfl; (with_reducible repeat (first | refine blk_drewN ?_ _ | refine blk_drew ?_ | refine blk_alloc ?_ _)); refine blk_put (cs := #[.int .i64 t651, .int .i64 t652, .slice Ao26 t653.length co26, .int .i64 t656, .int .i64 t657, .int .i64 t658, .int .i64 t659, .int .i64 t660, .string t661, .int .i64 0, .slice none 0 0, .slice none 0 0]) ?_ 9 _ rfl; (with_reducible repeat (first | refine blk_drewN ?_ _ | refine blk_drew ?_ | refine blk_alloc ?_ _)); refine blk_put (cs := #[.int .i64 t651, .int .i64 t652, .slice Ao26 t653.length co26, .int .i64 t656, .int .i64 t657, .int .i64 t658, .int .i64 t659, .int .i64 t660, .string (⟨#[]⟩ : ByteArray), .int .i64 0, .slice none 0 0, .slice none 0 0]) ?_ 8 _ rfl; (with_reducible repeat (first | refine blk_drewN ?_ _ | refine blk_drew ?_ | refine blk_alloc ?_ _)); refine blk_put (cs := #[.int .i64 t651, .int .i64 t652, .slice Ao26 t653.length co26, .int .i64 t656, .int .i64 t657, .int .i64 t658, .int .i64 t659, .int .i64 0, .string (⟨#[]⟩ : ByteArray), .int .i64 0, .slice none 0 0, .slice none 0 0]) ?_ 7 _ rfl; (with_reducible repeat (first | refine blk_drewN ?_ _ | refine blk_drew ?_ | refine blk_alloc ?_ _)); refine blk_put (cs := #[.int .i64 t651, .int .i64 t652, .slice Ao26 t653.length co26, .int .i64 t656, .int .i64 t657, .int .i64 t658, .int .i64 0, .int .i64 0, .string (⟨#[]⟩ : ByteArray), .int .i64 0, .slice none 0 0, .slice none 0 0]) ?_ 6 _ rfl; (with_reducible repeat (first | refine blk_drewN ?_ _ | refine blk_drew ?_ | refine blk_alloc ?_ _)); refine blk_put (cs := #[.int .i64 t651, .int .i64 t652, .slice Ao26 t653.length co26, .int .i64 t656, .int .i64 t657, .int .i64 0, .int .i64 0, .int .i64 0, .string (⟨#[]⟩ : ByteArray), .int .i64 0, .slice none 0 0, .slice none 0 0]) ?_ 5 _ rfl; (with_reducible repeat (first | refine blk_drewN ?_ _ | refine blk_drew ?_ | refine blk_alloc ?_ _)); refine blk_put (cs := #[.int .i64 t651, .int .i64 t652, .slice Ao26 t653.length co26, .int .i64 t656, .int .i64 0, .int .i64 0, .int .i64 0, .int .i64 0, .string (⟨#[]⟩ : ByteArray), .int .i64 0, .slice none 0 0, .slice none 0 0]) ?_ 4 _ rfl; (with_reducible repeat (first | refine blk_drewN ?_ _ | refine blk_drew ?_ | refine blk_alloc ?_ _)); refine blk_put (cs := #[.int .i64 t651, .int .i64 t652, .slice Ao26 t653.length co26, .int .i64 0, .int .i64 0, .int .i64 0, .int .i64 0, .int .i64 0, .string (⟨#[]⟩ : ByteArray), .int .i64 0, .slice none 0 0, .slice none 0 0]) ?_ 3 _ rfl; (with_reducible repeat (first | refine blk_drewN ?_ _ | refine blk_drew ?_ | refine blk_alloc ?_ _)); refine blk_put (cs := #[.int .i64 t651, .int .i64 t652, .slice none 0 0, .int .i64 0, .int .i64 0, .int .i64 0, .int .i64 0, .int .i64 0, .string (⟨#[]⟩ : ByteArray), .int .i64 0, .slice none 0 0, .slice none 0 0]) ?_ 2 _ rfl; (with_reducible repeat (first | refine blk_drewN ?_ _ | refine blk_drew ?_ | refine blk_alloc ?_ _)); refine blk_put (cs := #[.int .i64 t651, .int .i64 0, .slice none 0 0, .int .i64 0, .int .i64 0, .int .i64 0, .int .i64 0, .int .i64 0, .string (⟨#[]⟩ : ByteArray), .int .i64 0, .slice none 0 0, .slice none 0 0]) ?_ 1 _ rfl; (with_reducible repeat (first | refine blk_drewN ?_ _ | refine blk_drew ?_ | refine blk_alloc ?_ _)); refine blk_put (cs := #[.int .i64 0, .int .i64 0, .slice none 0 0, .int .i64 0, .int .i64 0, .int .i64 0, .int .i64 0, .int .i64 0, .string (⟨#[]⟩ : ByteArray), .int .i64 0, .slice none 0 0, .slice none 0 0]) ?_ 0 _ rfl; (with_reducible repeat (first | refine blk_drewN ?_ _ | refine blk_drew ?_ | refine blk_alloc ?_ _)); exact BK669.out) hg (R_ne HO655.out BK669.out z5_)); have n4_ := mk_ (hb); have n5_ := mk_ (ho); clear BK647 HO665 HO668 BK669 HB HO655; revert n0_ n1_ n2_ n3_ n4_ n5_; intro BK647 HO665 HO668 BK669 HB HO672; clear ho hb hg hat; obtain ⟨Ao45, co45, eo45⟩ := R_slice HO672.out; subst eo45; have hcz46_0 : w44.cell? ⟨gb669, 0, none⟩ = some (.int .i64 t651) := kc_ BK669 0; have hcz46_1 : w44.cell? ⟨gb669, 1, none⟩ = some (.int .i64 t652) := kc_ BK669 1; have hcz46_2 : w44.cell? ⟨gb669, 2, none⟩ = some (.slice Ao26 t653.length co26) := kc_ BK669 2; have hcz46_3 : w44.cell? ⟨gb669, 3, none⟩ = some (.int .i64 t656) := kc_ BK669 3; have hcz46_4 : w44.cell? ⟨gb669, 4, none⟩ = some (.int .i64 t657) := kc_ BK669 4; have hcz46_5 : w44.cell? ⟨gb669, 5, none⟩ = some (.int .i64 t658) := kc_ BK669 5; have hcz46_6 : w44.cell? ⟨gb669, 6, none⟩ = some (.int .i64 t659) := kc_ BK669 6; have hcz46_7 : w44.cell? ⟨gb669, 7, none⟩ = some (.int .i64 t660) := kc_ BK669 7; have hcz46_8 : w44.cell? ⟨gb669, 8, none⟩ = some (.string t661) := kc_ BK669 8; have hcz46_9 : w44.cell? ⟨gb669, 9, none⟩ = some (.int .i64 t662) := kc_ BK669 9; have hcz46_10 : w44.cell? ⟨gb669, 10, none⟩ = some (.slice Ao27 t663.length co27) := kc_ BK669 10; have hcz46_11 : w44.cell? ⟨gb669, 11, none⟩ = some (.slice Ao28 t666.length co28) := kc_ BK669 11; have hfz46_0 := blk_frozen BK669.out 0; have hfz46_1 := blk_frozen BK669.out 1; have hfz46_2 := blk_frozen BK669.out 2; have hfz46_3 := blk_frozen BK669.out 3; have hfz46_4 := blk_frozen BK669.out 4; have hfz46_5 := blk_frozen BK669.out 5; have hfz46_6 := blk_frozen BK669.out 6; have hfz46_7 := blk_frozen BK669.out 7; have hfz46_8 := blk_frozen BK669.out 8; have hfz46_9 := blk_frozen BK669.out 9; have hfz46_10 := blk_frozen BK669.out 10; have hfz46_11 := blk_frozen BK669.out 11))
     go_meet
     case rel => exact ⟨_, (t652), (y670), (t658), (t659), (t660), (t661), (t666), (.slice Ao45 y670.length co45), (.slice Ao28 t666.length co28), H', ⟨by have := HJ4.out; first | omega | exact Nat.le_refl _⟩, ⟨by (with_reducible repeat (first | apply R_alloc | apply R_drewN | apply R_drew)); exact R_mono (R_far (p := ⟨gb669, 2, none⟩) (R_types HO672.out BK669.out z5_) (fun _ hk => hk.2) (.slice Ao45 y670.length co45)) (fun _ hk => trivial)⟩, ⟨by (with_reducible repeat (first | apply R_alloc | apply R_drewN | apply R_drew)); exact R_mono (R_far (p := ⟨gb669, 2, none⟩) (R_types HO665.out BK669.out z5_) (fun _ hk => hk.2) (.slice Ao45 y670.length co45)) (fun _ hk => trivial)⟩, ⟨by (with_reducible repeat (first | apply R_alloc | apply R_drewN | apply R_drew)); exact R_mono (R_far (p := ⟨gb669, 2, none⟩) (R_types HO668.out BK669.out z5_) (fun _ hk => hk.2) (.slice Ao45 y670.length co45)) (fun _ hk => trivial)⟩, ⟨by (with_reducible repeat (first | refine blk_drewN ?_ _ | refine blk_drew ?_ | refine blk_alloc ?_ _)); refine blk_far ?_ NB647_669.out _; (with_reducible repeat (first | refine blk_drewN ?_ _ | refine blk_drew ?_ | refine blk_alloc ?_ _)); exact BK647.out⟩, ⟨by (with_reducible repeat (first | refine blk_drewN ?_ _ | refine blk_drew ?_ | refine blk_alloc ?_ _)); refine blk_put (cs := #[.int .i64 t651, .int .i64 t652, .slice Ao26 t653.length co26, .int .i64 t656, .int .i64 t657, .int .i64 t658, .int .i64 t659, .int .i64 t660, .string t661, .int .i64 t662, .slice Ao27 t663.length co27, .slice Ao28 t666.length co28]) ?_ 2 _ rfl; (with_reducible repeat (first | refine blk_drewN ?_ _ | refine blk_drew ?_ | refine blk_alloc ?_ _)); exact BK669.out⟩, ⟨Short.hB HB⟩⟩
    rw [if_neg c40] at H
    have c40b0 : ((Int.tmod (IntKind.u64.wrap (a3)) 7) == 3) = false := beq_eq_false_iff_ne.mpr c40
    have c40b1 : ((Int.tmod (IntKind.u64.wrap (a3)) 7) != 3) = true := bne_iff_ne.mpr c40
    by_cases c47 : (Int.tmod (IntKind.u64.wrap (a3)) 7) = 4
    ·
     rw [if_pos c47] at H
     have c47b0 : ((Int.tmod (IntKind.u64.wrap (a3)) 7) == 4) = true := beq_iff_eq.mpr c47
     have c47b1 : ((Int.tmod (IntKind.u64.wrap (a3)) 7) != 4) = false := bne_eq_false_iff_eq.mpr c47
     clear c47
     have H' := mk_ H
     clear H
     have hnb48 := NB669_647.out
     have hnc48 := NB647_669.out
     have hcz49_0 : w23.cell? ⟨gb669, 0, none⟩ = some (.int .i64 0) := kc_ BK669 0
     have hcz49_1 : w23.cell? ⟨gb669, 1, none⟩ = some (.int .i64 0) := kc_ BK669 1
     have hcz49_2 : w23.cell? ⟨gb669, 2, none⟩ = some (.slice none 0 0) := kc_ BK669 2
     have hcz49_3 : w23.cell? ⟨gb669, 3, none⟩ = some (.int .i64 0) := kc_ BK669 3
     have hcz49_4 : w23.cell? ⟨gb669, 4, none⟩ = some (.int .i64 0) := kc_ BK669 4
     have hcz49_5 : w23.cell? ⟨gb669, 5, none⟩ = some (.int .i64 0) := kc_ BK669 5
     have hcz49_6 : w23.cell? ⟨gb669, 6, none⟩ = some (.int .i64 0) := kc_ BK669 6
     have hcz49_7 : w23.cell? ⟨gb669, 7, none⟩ = some (.int .i64 0) := kc_ BK669 7
     have hcz49_8 : w23.cell? ⟨gb669, 8, none⟩ = some (.string (⟨#[]⟩ : ByteArray)) := kc_ BK669 8
     have hcz49_9 : w23.cell? ⟨gb669, 9, none⟩ = some (.int .i64 0) := kc_ BK669 9
     have hcz49_10 : w23.cell? ⟨gb669, 10, none⟩ = some (.slice none 0 0) := kc_ BK669 10
     have hcz49_11 : w23.cell? ⟨gb669, 11, none⟩ = some (.slice none 0 0) := kc_ BK669 11
     have hfz49_0 := blk_frozen BK669.out 0
     have hfz49_1 := blk_frozen BK669.out 1
     have hfz49_2 := blk_frozen BK669.out 2
     have hfz49_3 := blk_frozen BK669.out 3
     have hfz49_4 := blk_frozen BK669.out 4
     have hfz49_5 := blk_frozen BK669.out 5
     have hfz49_6 := blk_frozen BK669.out 6
     have hfz49_7 := blk_frozen BK669.out 7
     have hfz49_8 := blk_frozen BK669.out 8
     have hfz49_9 := blk_frozen BK669.out 9
     have hfz49_10 := blk_frozen BK669.out 10
     have hfz49_11 := blk_frozen BK669.out 11
     go_wp2
     go_meet
     case rel => exact ⟨_, (t652), (t653), (t658), (t659), (t660), ((⟨#[]⟩ : ByteArray)), (t666), (.slice Ao26 t653.length co26), (.slice Ao28 t666.length co28), H', ⟨by have := HJ4.out; first | omega | exact Nat.le_refl _⟩, ⟨by (with_reducible repeat (first | apply R_alloc | apply R_drewN | apply R_drew)); exact R_mono (R_far (p := ⟨gb669, 8, none⟩) (R_far (p := ⟨gb669, 11, none⟩) (R_far (p := ⟨gb669, 10, none⟩) (R_far (p := ⟨gb669, 9, none⟩) (R_far (p := ⟨gb669, 8, none⟩) (R_far (p := ⟨gb669, 7, none⟩) (R_far (p := ⟨gb669, 6, none⟩) (R_far (p := ⟨gb669, 5, none⟩) (R_far (p := ⟨gb669, 4, none⟩) (R_far (p := ⟨gb669, 3, none⟩) (R_far (p := ⟨gb669, 2, none⟩) (R_far (p := ⟨gb669, 1, none⟩) (R_far (p := ⟨gb669, 0, none⟩) (R_types HO655.out BK669.out z5_) (fun _ hk => hk.2) (.int .i64 t651)) (fun _ hk => hk.2) (.int .i64 t652)) (fun _ hk => hk.2) (.slice Ao26 t653.length co26)) (fun _ hk => hk.2) (.int .i64 t656)) (fun _ hk => hk.2) (.int .i64 t657)) (fun _ hk => hk.2) (.int .i64 t658)) (fun _ hk => hk.2) (.int .i64 t659)) (fun _ hk => hk.2) (.int .i64 t660)) (fun _ hk => hk.2) (.string t661)) (fun _ hk => hk.2) (.int .i64 t662)) (fun _ hk => hk.2) (.slice Ao27 t663.length co27)) (fun _ hk => hk.2) (.slice Ao28 t666.length co28)) (fun _ hk => hk.2) (.string (⟨#[]⟩ : ByteArray))) (fun _ hk => trivial)⟩, ⟨by (with_reducible repeat (first | apply R_alloc | apply R_drewN | apply R_drew)); exact R_mono (R_far (p := ⟨gb669, 8, none⟩) (R_far (p := ⟨gb669, 11, none⟩) (R_far (p := ⟨gb669, 10, none⟩) (R_far (p := ⟨gb669, 9, none⟩) (R_far (p := ⟨gb669, 8, none⟩) (R_far (p := ⟨gb669, 7, none⟩) (R_far (p := ⟨gb669, 6, none⟩) (R_far (p := ⟨gb669, 5, none⟩) (R_far (p := ⟨gb669, 4, none⟩) (R_far (p := ⟨gb669, 3, none⟩) (R_far (p := ⟨gb669, 2, none⟩) (R_far (p := ⟨gb669, 1, none⟩) (R_far (p := ⟨gb669, 0, none⟩) (R_types HO665.out BK669.out z5_) (fun _ hk => hk.2) (.int .i64 t651)) (fun _ hk => hk.2) (.int .i64 t652)) (fun _ hk => hk.2) (.slice Ao26 t653.length co26)) (fun _ hk => hk.2) (.int .i64 t656)) (fun _ hk => hk.2) (.int .i64 t657)) (fun _ hk => hk.2) (.int .i64 t658)) (fun _ hk => hk.2) (.int .i64 t659)) (fun _ hk => hk.2) (.int .i64 t660)) (fun _ hk => hk.2) (.string t661)) (fun _ hk => hk.2) (.int .i64 t662)) (fun _ hk => hk.2) (.slice Ao27 t663.length co27)) (fun _ hk => hk.2) (.slice Ao28 t666.length co28)) (fun _ hk => hk.2) (.string (⟨#[]⟩ : ByteArray))) (fun _ hk => trivial)⟩, ⟨by (with_reducible repeat (first | apply R_alloc | apply R_drewN | apply R_drew)); exact R_mono (R_far (p := ⟨gb669, 8, none⟩) (R_far (p := ⟨gb669, 11, none⟩) (R_far (p := ⟨gb669, 10, none⟩) (R_far (p := ⟨gb669, 9, none⟩) (R_far (p := ⟨gb669, 8, none⟩) (R_far (p := ⟨gb669, 7, none⟩) (R_far (p := ⟨gb669, 6, none⟩) (R_far (p := ⟨gb669, 5, none⟩) (R_far (p := ⟨gb669, 4, none⟩) (R_far (p := ⟨gb669, 3, none⟩) (R_far (p := ⟨gb669, 2, none⟩) (R_far (p := ⟨gb669, 1, none⟩) (R_far (p := ⟨gb669, 0, none⟩) (R_types HO668.out BK669.out z5_) (fun _ hk => hk.2) (.int .i64 t651)) (fun _ hk => hk.2) (.int .i64 t652)) (fun _ hk => hk.2) (.slice Ao26 t653.length co26)) (fun _ hk => hk.2) (.int .i64 t656)) (fun _ hk => hk.2) (.int .i64 t657)) (fun _ hk => hk.2) (.int .i64 t658)) (fun _ hk => hk.2) (.int .i64 t659)) (fun _ hk => hk.2) (.int .i64 t660)) (fun _ hk => hk.2) (.string t661)) (fun _ hk => hk.2) (.int .i64 t662)) (fun _ hk => hk.2) (.slice Ao27 t663.length co27)) (fun _ hk => hk.2) (.slice Ao28 t666.length co28)) (fun _ hk => hk.2) (.string (⟨#[]⟩ : ByteArray))) (fun _ hk => trivial)⟩, ⟨by (with_reducible repeat (first | refine blk_drewN ?_ _ | refine blk_drew ?_ | refine blk_alloc ?_ _)); refine blk_far ?_ NB647_669.out _; (with_reducible repeat (first | refine blk_drewN ?_ _ | refine blk_drew ?_ | refine blk_alloc ?_ _)); refine blk_far ?_ NB647_669.out _; (with_reducible repeat (first | refine blk_drewN ?_ _ | refine blk_drew ?_ | refine blk_alloc ?_ _)); refine blk_far ?_ NB647_669.out _; (with_reducible repeat (first | refine blk_drewN ?_ _ | refine blk_drew ?_ | refine blk_alloc ?_ _)); refine blk_far ?_ NB647_669.out _; (with_reducible repeat (first | refine blk_drewN ?_ _ | refine blk_drew ?_ | refine blk_alloc ?_ _)); refine blk_far ?_ NB647_669.out _; (with_reducible repeat (first | refine blk_drewN ?_ _ | refine blk_drew ?_ | refine blk_alloc ?_ _)); refine blk_far ?_ NB647_669.out _; (with_reducible repeat (first | refine blk_drewN ?_ _ | refine blk_drew ?_ | refine blk_alloc ?_ _)); refine blk_far ?_ NB647_669.out _; (with_reducible repeat (first | refine blk_drewN ?_ _ | refine blk_drew ?_ | refine blk_alloc ?_ _)); refine blk_far ?_ NB647_669.out _; (with_reducible repeat (first | refine blk_drewN ?_ _ | refine blk_drew ?_ | refine blk_alloc ?_ _)); refine blk_far ?_ NB647_669.out _; (with_reducible repeat (first | refine blk_drewN ?_ _ | refine blk_drew ?_ | refine blk_alloc ?_ _)); refine blk_far ?_ NB647_669.out _; (with_reducible repeat (first | refine blk_drewN ?_ _ | refine blk_drew ?_ | refine blk_alloc ?_ _)); refine blk_far ?_ NB647_669.out _; (with_reducible repeat (first | refine blk_drewN ?_ _ | refine blk_drew ?_ | refine blk_alloc ?_ _)); refine blk_far ?_ NB647_669.out _; (with_reducible repeat (first | refine blk_drewN ?_ _ | refine blk_drew ?_ | refine blk_alloc ?_ _)); refine blk_far ?_ NB647_669.out _; (with_reducible repeat (first | refine blk_drewN ?_ _ | refine blk_drew ?_ | refine blk_alloc ?_ _)); exact BK647.out⟩, ⟨by (with_reducible repeat (first | refine blk_drewN ?_ _ | refine blk_drew ?_ | refine blk_alloc ?_ _)); refine blk_put (cs := #[.int .i64 t651, .int .i64 t652, .slice Ao26 t653.length co26, .int .i64 t656, .int .i64 t657, .int .i64 t658, .int .i64 t659, .int .i64 t660, .string t661, .int .i64 t662, .slice Ao27 t663.length co27, .slice Ao28 t666.length co28]) ?_ 8 _ rfl; (with_reducible repeat (first | refine blk_drewN ?_ _ | refine blk_drew ?_ | refine blk_alloc ?_ _)); refine blk_put (cs := #[.int .i64 t651, .int .i64 t652, .slice Ao26 t653.length co26, .int .i64 t656, .int .i64 t657, .int .i64 t658, .int .i64 t659, .int .i64 t660, .string t661, .int .i64 t662, .slice Ao27 t663.length co27, .slice none 0 0]) ?_ 11 _ rfl; (with_reducible repeat (first | refine blk_drewN ?_ _ | refine blk_drew ?_ | refine blk_alloc ?_ _)); refine blk_put (cs := #[.int .i64 t651, .int .i64 t652, .slice Ao26 t653.length co26, .int .i64 t656, .int .i64 t657, .int .i64 t658, .int .i64 t659, .int .i64 t660, .string t661, .int .i64 t662, .slice none 0 0, .slice none 0 0]) ?_ 10 _ rfl; (with_reducible repeat (first | refine blk_drewN ?_ _ | refine blk_drew ?_ | refine blk_alloc ?_ _)); refine blk_put (cs := #[.int .i64 t651, .int .i64 t652, .slice Ao26 t653.length co26, .int .i64 t656, .int .i64 t657, .int .i64 t658, .int .i64 t659, .int .i64 t660, .string t661, .int .i64 0, .slice none 0 0, .slice none 0 0]) ?_ 9 _ rfl; (with_reducible repeat (first | refine blk_drewN ?_ _ | refine blk_drew ?_ | refine blk_alloc ?_ _)); refine blk_put (cs := #[.int .i64 t651, .int .i64 t652, .slice Ao26 t653.length co26, .int .i64 t656, .int .i64 t657, .int .i64 t658, .int .i64 t659, .int .i64 t660, .string (⟨#[]⟩ : ByteArray), .int .i64 0, .slice none 0 0, .slice none 0 0]) ?_ 8 _ rfl; (with_reducible repeat (first | refine blk_drewN ?_ _ | refine blk_drew ?_ | refine blk_alloc ?_ _)); refine blk_put (cs := #[.int .i64 t651, .int .i64 t652, .slice Ao26 t653.length co26, .int .i64 t656, .int .i64 t657, .int .i64 t658, .int .i64 t659, .int .i64 0, .string (⟨#[]⟩ : ByteArray), .int .i64 0, .slice none 0 0, .slice none 0 0]) ?_ 7 _ rfl; (with_reducible repeat (first | refine blk_drewN ?_ _ | refine blk_drew ?_ | refine blk_alloc ?_ _)); refine blk_put (cs := #[.int .i64 t651, .int .i64 t652, .slice Ao26 t653.length co26, .int .i64 t656, .int .i64 t657, .int .i64 t658, .int .i64 0, .int .i64 0, .string (⟨#[]⟩ : ByteArray), .int .i64 0, .slice none 0 0, .slice none 0 0]) ?_ 6 _ rfl; (with_reducible repeat (first | refine blk_drewN ?_ _ | refine blk_drew ?_ | refine blk_alloc ?_ _)); refine blk_put (cs := #[.int .i64 t651, .int .i64 t652, .slice Ao26 t653.length co26, .int .i64 t656, .int .i64 t657, .int .i64 0, .int .i64 0, .int .i64 0, .string (⟨#[]⟩ : ByteArray), .int .i64 0, .slice none 0 0, .slice none 0 0]) ?_ 5 _ rfl; (with_reducible repeat (first | refine blk_drewN ?_ _ | refine blk_drew ?_ | refine blk_alloc ?_ _)); refine blk_put (cs := #[.int .i64 t651, .int .i64 t652, .slice Ao26 t653.length co26, .int .i64 t656, .int .i64 0, .int .i64 0, .int .i64 0, .int .i64 0, .string (⟨#[]⟩ : ByteArray), .int .i64 0, .slice none 0 0, .slice none 0 0]) ?_ 4 _ rfl; (with_reducible repeat (first | refine blk_drewN ?_ _ | refine blk_drew ?_ | refine blk_alloc ?_ _)); refine blk_put (cs := #[.int .i64 t651, .int .i64 t652, .slice Ao26 t653.length co26, .int .i64 0, .int .i64 0, .int .i64 0, .int .i64 0, .int .i64 0, .string (⟨#[]⟩ : ByteArray), .int .i64 0, .slice none 0 0, .slice none 0 0]) ?_ 3 _ rfl; (with_reducible repeat (first | refine blk_drewN ?_ _ | refine blk_drew ?_ | refine blk_alloc ?_ _)); refine blk_put (cs := #[.int .i64 t651, .int .i64 t652, .slice none 0 0, .int .i64 0, .int .i64 0, .int .i64 0, .int .i64 0, .int .i64 0, .string (⟨#[]⟩ : ByteArray), .int .i64 0, .slice none 0 0, .slice none 0 0]) ?_ 2 _ rfl; (with_reducible repeat (first | refine blk_drewN ?_ _ | refine blk_drew ?_ | refine blk_alloc ?_ _)); refine blk_put (cs := #[.int .i64 t651, .int .i64 0, .slice none 0 0, .int .i64 0, .int .i64 0, .int .i64 0, .int .i64 0, .int .i64 0, .string (⟨#[]⟩ : ByteArray), .int .i64 0, .slice none 0 0, .slice none 0 0]) ?_ 1 _ rfl; (with_reducible repeat (first | refine blk_drewN ?_ _ | refine blk_drew ?_ | refine blk_alloc ?_ _)); refine blk_put (cs := #[.int .i64 0, .int .i64 0, .slice none 0 0, .int .i64 0, .int .i64 0, .int .i64 0, .int .i64 0, .int .i64 0, .string (⟨#[]⟩ : ByteArray), .int .i64 0, .slice none 0 0, .slice none 0 0]) ?_ 0 _ rfl; (with_reducible repeat (first | refine blk_drewN ?_ _ | refine blk_drew ?_ | refine blk_alloc ?_ _)); exact BK669.out⟩, ⟨Short.hB HB⟩⟩
    rw [if_neg c47] at H
    have c47b0 : ((Int.tmod (IntKind.u64.wrap (a3)) 7) == 4) = false := beq_eq_false_iff_ne.mpr c47
    have c47b1 : ((Int.tmod (IntKind.u64.wrap (a3)) 7) != 4) = true := bne_iff_ne.mpr c47
    by_cases c50 : (Int.tmod (IntKind.u64.wrap (a3)) 7) = 5
    ·
     rw [if_pos c50] at H
     have c50b0 : ((Int.tmod (IntKind.u64.wrap (a3)) 7) == 5) = true := beq_iff_eq.mpr c50
     have c50b1 : ((Int.tmod (IntKind.u64.wrap (a3)) 7) != 5) = false := bne_eq_false_iff_eq.mpr c50
     clear c50
     have H' := mk_ H
     clear H
     have hnb51 := NB669_647.out
     have hnc51 := NB647_669.out
     have hcz52_0 : w23.cell? ⟨gb669, 0, none⟩ = some (.int .i64 0) := kc_ BK669 0
     have hcz52_1 : w23.cell? ⟨gb669, 1, none⟩ = some (.int .i64 0) := kc_ BK669 1
     have hcz52_2 : w23.cell? ⟨gb669, 2, none⟩ = some (.slice none 0 0) := kc_ BK669 2
     have hcz52_3 : w23.cell? ⟨gb669, 3, none⟩ = some (.int .i64 0) := kc_ BK669 3
     have hcz52_4 : w23.cell? ⟨gb669, 4, none⟩ = some (.int .i64 0) := kc_ BK669 4
     have hcz52_5 : w23.cell? ⟨gb669, 5, none⟩ = some (.int .i64 0) := kc_ BK669 5
     have hcz52_6 : w23.cell? ⟨gb669, 6, none⟩ = some (.int .i64 0) := kc_ BK669 6
     have hcz52_7 : w23.cell? ⟨gb669, 7, none⟩ = some (.int .i64 0) := kc_ BK669 7
     have hcz52_8 : w23.cell? ⟨gb669, 8, none⟩ = some (.string (⟨#[]⟩ : ByteArray)) := kc_ BK669 8
     have hcz52_9 : w23.cell? ⟨gb669, 9, none⟩ = some (.int .i64 0) := kc_ BK669 9
     have hcz52_10 : w23.cell? ⟨gb669, 10, none⟩ = some (.slice none 0 0) := kc_ BK669 10
     have hcz52_11 : w23.cell? ⟨gb669, 11, none⟩ = some (.slice none 0 0) := kc_ BK669 11
     have hfz52_0 := blk_frozen BK669.out 0
     have hfz52_1 := blk_frozen BK669.out 1
     have hfz52_2 := blk_frozen BK669.out 2
     have hfz52_3 := blk_frozen BK669.out 3
     have hfz52_4 := blk_frozen BK669.out 4
     have hfz52_5 := blk_frozen BK669.out 5
     have hfz52_6 := blk_frozen BK669.out 6
     have hfz52_7 := blk_frozen BK669.out 7
     have hfz52_8 := blk_frozen BK669.out 8
     have hfz52_9 := blk_frozen BK669.out 9
     have hfz52_10 := blk_frozen BK669.out 10
     have hfz52_11 := blk_frozen BK669.out 11
     go_wp2
     go_meet
     case rel => exact ⟨_, (t652), (t653), (t658), (t659), ((l1.length : Int)), (t661), (t666), (.slice Ao26 t653.length co26), (.slice Ao28 t666.length co28), H', ⟨by have := HJ4.out; first | omega | exact Nat.le_refl _⟩, ⟨by (with_reducible repeat (first | apply R_alloc | apply R_drewN | apply R_drew)); exact R_mono (R_far (p := ⟨gb669, 7, none⟩) (R_far (p := ⟨gb669, 11, none⟩) (R_far (p := ⟨gb669, 10, none⟩) (R_far (p := ⟨gb669, 9, none⟩) (R_far (p := ⟨gb669, 8, none⟩) (R_far (p := ⟨gb669, 7, none⟩) (R_far (p := ⟨gb669, 6, none⟩) (R_far (p := ⟨gb669, 5, none⟩) (R_far (p := ⟨gb669, 4, none⟩) (R_far (p := ⟨gb669, 3, none⟩) (R_far (p := ⟨gb669, 2, none⟩) (R_far (p := ⟨gb669, 1, none⟩) (R_far (p := ⟨gb669, 0, none⟩) (R_types HO655.out BK669.out z5_) (fun _ hk => hk.2) (.int .i64 t651)) (fun _ hk => hk.2) (.int .i64 t652)) (fun _ hk => hk.2) (.slice Ao26 t653.length co26)) (fun _ hk => hk.2) (.int .i64 t656)) (fun _ hk => hk.2) (.int .i64 t657)) (fun _ hk => hk.2) (.int .i64 t658)) (fun _ hk => hk.2) (.int .i64 t659)) (fun _ hk => hk.2) (.int .i64 t660)) (fun _ hk => hk.2) (.string t661)) (fun _ hk => hk.2) (.int .i64 t662)) (fun _ hk => hk.2) (.slice Ao27 t663.length co27)) (fun _ hk => hk.2) (.slice Ao28 t666.length co28)) (fun _ hk => hk.2) (.int .i64 (l1.length : Int))) (fun _ hk => trivial)⟩, ⟨by (with_reducible repeat (first | apply R_alloc | apply R_drewN | apply R_drew)); exact R_mono (R_far (p := ⟨gb669, 7, none⟩) (R_far (p := ⟨gb669, 11, none⟩) (R_far (p := ⟨gb669, 10, none⟩) (R_far (p := ⟨gb669, 9, none⟩) (R_far (p := ⟨gb669, 8, none⟩) (R_far (p := ⟨gb669, 7, none⟩) (R_far (p := ⟨gb669, 6, none⟩) (R_far (p := ⟨gb669, 5, none⟩) (R_far (p := ⟨gb669, 4, none⟩) (R_far (p := ⟨gb669, 3, none⟩) (R_far (p := ⟨gb669, 2, none⟩) (R_far (p := ⟨gb669, 1, none⟩) (R_far (p := ⟨gb669, 0, none⟩) (R_types HO665.out BK669.out z5_) (fun _ hk => hk.2) (.int .i64 t651)) (fun _ hk => hk.2) (.int .i64 t652)) (fun _ hk => hk.2) (.slice Ao26 t653.length co26)) (fun _ hk => hk.2) (.int .i64 t656)) (fun _ hk => hk.2) (.int .i64 t657)) (fun _ hk => hk.2) (.int .i64 t658)) (fun _ hk => hk.2) (.int .i64 t659)) (fun _ hk => hk.2) (.int .i64 t660)) (fun _ hk => hk.2) (.string t661)) (fun _ hk => hk.2) (.int .i64 t662)) (fun _ hk => hk.2) (.slice Ao27 t663.length co27)) (fun _ hk => hk.2) (.slice Ao28 t666.length co28)) (fun _ hk => hk.2) (.int .i64 (l1.length : Int))) (fun _ hk => trivial)⟩, ⟨by (with_reducible repeat (first | apply R_alloc | apply R_drewN | apply R_drew)); exact R_mono (R_far (p := ⟨gb669, 7, none⟩) (R_far (p := ⟨gb669, 11, none⟩) (R_far (p := ⟨gb669, 10, none⟩) (R_far (p := ⟨gb669, 9, none⟩) (R_far (p := ⟨gb669, 8, none⟩) (R_far (p := ⟨gb669, 7, none⟩) (R_far (p := ⟨gb669, 6, none⟩) (R_far (p := ⟨gb669, 5, none⟩) (R_far (p := ⟨gb669, 4, none⟩) (R_far (p := ⟨gb669, 3, none⟩) (R_far (p := ⟨gb669, 2, none⟩) (R_far (p := ⟨gb669, 1, none⟩) (R_far (p := ⟨gb669, 0, none⟩) (R_types HO668.out BK669.out z5_) (fun _ hk => hk.2) (.int .i64 t651)) (fun _ hk => hk.2) (.int .i64 t652)) (fun _ hk => hk.2) (.slice Ao26 t653.length co26)) (fun _ hk => hk.2) (.int .i64 t656)) (fun _ hk => hk.2) (.int .i64 t657)) (fun _ hk => hk.2) (.int .i64 t658)) (fun _ hk => hk.2) (.int .i64 t659)) (fun _ hk => hk.2) (.int .i64 t660)) (fun _ hk => hk.2) (.string t661)) (fun _ hk => hk.2) (.int .i64 t662)) (fun _ hk => hk.2) (.slice Ao27 t663.length co27)) (fun _ hk => hk.2) (.slice Ao28 t666.length co28)) (fun _ hk => hk.2) (.int .i64 (l1.length : Int))) (fun _ hk => trivial)⟩, ⟨by (with_reducible repeat (first | refine blk_drewN ?_ _ | refine blk_drew ?_ | refine blk_alloc ?_ _)); refine blk_far ?_ NB647_669.out _; (with_reducible repeat (first | refine blk_drewN ?_ _ | refine blk_drew ?_ | refine blk_alloc ?_ _)); refine blk_far ?_ NB647_669.out _; (with_reducible repeat (first | refine blk_drewN ?_ _ | refine blk_drew ?_ | refine blk_alloc ?_ _)); refine blk_far ?_ NB647_669.out _; (with_reducible repeat (first | refine blk_drewN ?_ _ | refine blk_drew ?_ | refine blk_alloc ?_ _)); refine blk_far ?_ NB647_669.out _; (with_reducible repeat (first | refine blk_drewN ?_ _ | refine blk_drew ?_ | refine blk_alloc ?_ _)); refine blk_far ?_ NB647_669.out _; (with_reducible repeat (first | refine blk_drewN ?_ _ | refine blk_drew ?_ | refine blk_alloc ?_ _)); refine blk_far ?_ NB647_669.out _; (with_reducible repeat (first | refine blk_drewN ?_ _ | refine blk_drew ?_ | refine blk_alloc ?_ _)); refine blk_far ?_ NB647_669.out _; (with_reducible repeat (first | refine blk_drewN ?_ _ | refine blk_drew ?_ | refine blk_alloc ?_ _)); refine blk_far ?_ NB647_669.out _; (with_reducible repeat (first | refine blk_drewN ?_ _ | refine blk_drew ?_ | refine blk_alloc ?_ _)); refine blk_far ?_ NB647_669.out _; (with_reducible repeat (first | refine blk_drewN ?_ _ | refine blk_drew ?_ | refine blk_alloc ?_ _)); refine blk_far ?_ NB647_669.out _; (with_reducible repeat (first | refine blk_drewN ?_ _ | refine blk_drew ?_ | refine blk_alloc ?_ _)); refine blk_far ?_ NB647_669.out _; (with_reducible repeat (first | refine blk_drewN ?_ _ | refine blk_drew ?_ | refine blk_alloc ?_ _)); refine blk_far ?_ NB647_669.out _; (with_reducible repeat (first | refine blk_drewN ?_ _ | refine blk_drew ?_ | refine blk_alloc ?_ _)); refine blk_far ?_ NB647_669.out _; (with_reducible repeat (first | refine blk_drewN ?_ _ | refine blk_drew ?_ | refine blk_alloc ?_ _)); exact BK647.out⟩, ⟨by (with_reducible repeat (first | refine blk_drewN ?_ _ | refine blk_drew ?_ | refine blk_alloc ?_ _)); refine blk_put (cs := #[.int .i64 t651, .int .i64 t652, .slice Ao26 t653.length co26, .int .i64 t656, .int .i64 t657, .int .i64 t658, .int .i64 t659, .int .i64 t660, .string t661, .int .i64 t662, .slice Ao27 t663.length co27, .slice Ao28 t666.length co28]) ?_ 7 _ rfl; (with_reducible repeat (first | refine blk_drewN ?_ _ | refine blk_drew ?_ | refine blk_alloc ?_ _)); refine blk_put (cs := #[.int .i64 t651, .int .i64 t652, .slice Ao26 t653.length co26, .int .i64 t656, .int .i64 t657, .int .i64 t658, .int .i64 t659, .int .i64 t660, .string t661, .int .i64 t662, .slice Ao27 t663.length co27, .slice none 0 0]) ?_ 11 _ rfl; (with_reducible repeat (first | refine blk_drewN ?_ _ | refine blk_drew ?_ | refine blk_alloc ?_ _)); refine blk_put (cs := #[.int .i64 t651, .int .i64 t652, .slice Ao26 t653.length co26, .int .i64 t656, .int .i64 t657, .int .i64 t658, .int .i64 t659, .int .i64 t660, .string t661, .int .i64 t662, .slice none 0 0, .slice none 0 0]) ?_ 10 _ rfl; (with_reducible repeat (first | refine blk_drewN ?_ _ | refine blk_drew ?_ | refine blk_alloc ?_ _)); refine blk_put (cs := #[.int .i64 t651, .int .i64 t652, .slice Ao26 t653.length co26, .int .i64 t656, .int .i64 t657, .int .i64 t658, .int .i64 t659, .int .i64 t660, .string t661, .int .i64 0, .slice none 0 0, .slice none 0 0]) ?_ 9 _ rfl; (with_reducible repeat (first | refine blk_drewN ?_ _ | refine blk_drew ?_ | refine blk_alloc ?_ _)); refine blk_put (cs := #[.int .i64 t651, .int .i64 t652, .slice Ao26 t653.length co26, .int .i64 t656, .int .i64 t657, .int .i64 t658, .int .i64 t659, .int .i64 t660, .string (⟨#[]⟩ : ByteArray), .int .i64 0, .slice none 0 0, .slice none 0 0]) ?_ 8 _ rfl; (with_reducible repeat (first | refine blk_drewN ?_ _ | refine blk_drew ?_ | refine blk_alloc ?_ _)); refine blk_put (cs := #[.int .i64 t651, .int .i64 t652, .slice Ao26 t653.length co26, .int .i64 t656, .int .i64 t657, .int .i64 t658, .int .i64 t659, .int .i64 0, .string (⟨#[]⟩ : ByteArray), .int .i64 0, .slice none 0 0, .slice none 0 0]) ?_ 7 _ rfl; (with_reducible repeat (first | refine blk_drewN ?_ _ | refine blk_drew ?_ | refine blk_alloc ?_ _)); refine blk_put (cs := #[.int .i64 t651, .int .i64 t652, .slice Ao26 t653.length co26, .int .i64 t656, .int .i64 t657, .int .i64 t658, .int .i64 0, .int .i64 0, .string (⟨#[]⟩ : ByteArray), .int .i64 0, .slice none 0 0, .slice none 0 0]) ?_ 6 _ rfl; (with_reducible repeat (first | refine blk_drewN ?_ _ | refine blk_drew ?_ | refine blk_alloc ?_ _)); refine blk_put (cs := #[.int .i64 t651, .int .i64 t652, .slice Ao26 t653.length co26, .int .i64 t656, .int .i64 t657, .int .i64 0, .int .i64 0, .int .i64 0, .string (⟨#[]⟩ : ByteArray), .int .i64 0, .slice none 0 0, .slice none 0 0]) ?_ 5 _ rfl; (with_reducible repeat (first | refine blk_drewN ?_ _ | refine blk_drew ?_ | refine blk_alloc ?_ _)); refine blk_put (cs := #[.int .i64 t651, .int .i64 t652, .slice Ao26 t653.length co26, .int .i64 t656, .int .i64 0, .int .i64 0, .int .i64 0, .int .i64 0, .string (⟨#[]⟩ : ByteArray), .int .i64 0, .slice none 0 0, .slice none 0 0]) ?_ 4 _ rfl; (with_reducible repeat (first | refine blk_drewN ?_ _ | refine blk_drew ?_ | refine blk_alloc ?_ _)); refine blk_put (cs := #[.int .i64 t651, .int .i64 t652, .slice Ao26 t653.length co26, .int .i64 0, .int .i64 0, .int .i64 0, .int .i64 0, .int .i64 0, .string (⟨#[]⟩ : ByteArray), .int .i64 0, .slice none 0 0, .slice none 0 0]) ?_ 3 _ rfl; (with_reducible repeat (first | refine blk_drewN ?_ _ | refine blk_drew ?_ | refine blk_alloc ?_ _)); refine blk_put (cs := #[.int .i64 t651, .int .i64 t652, .slice none 0 0, .int .i64 0, .int .i64 0, .int .i64 0, .int .i64 0, .int .i64 0, .string (⟨#[]⟩ : ByteArray), .int .i64 0, .slice none 0 0, .slice none 0 0]) ?_ 2 _ rfl; (with_reducible repeat (first | refine blk_drewN ?_ _ | refine blk_drew ?_ | refine blk_alloc ?_ _)); refine blk_put (cs := #[.int .i64 t651, .int .i64 0, .slice none 0 0, .int .i64 0, .int .i64 0, .int .i64 0, .int .i64 0, .int .i64 0, .string (⟨#[]⟩ : ByteArray), .int .i64 0, .slice none 0 0, .slice none 0 0]) ?_ 1 _ rfl; (with_reducible repeat (first | refine blk_drewN ?_ _ | refine blk_drew ?_ | refine blk_alloc ?_ _)); refine blk_put (cs := #[.int .i64 0, .int .i64 0, .slice none 0 0, .int .i64 0, .int .i64 0, .int .i64 0, .int .i64 0, .int .i64 0, .string (⟨#[]⟩ : ByteArray), .int .i64 0, .slice none 0 0, .slice none 0 0]) ?_ 0 _ rfl; (with_reducible repeat (first | refine blk_drewN ?_ _ | refine blk_drew ?_ | refine blk_alloc ?_ _)); exact BK669.out⟩, ⟨Short.hB HB⟩⟩
    rw [if_neg c50] at H
    have c50b0 : ((Int.tmod (IntKind.u64.wrap (a3)) 7) == 5) = false := beq_eq_false_iff_ne.mpr c50
    have c50b1 : ((Int.tmod (IntKind.u64.wrap (a3)) 7) != 5) = true := bne_iff_ne.mpr c50
    by_cases c53 : t666.length < 8796093022208
    rotate_left
    ·
     rw [if_neg c53] at H
     exact absurd H (by simp)
    rw [if_pos c53] at H
    have LMc53 := mk_ c53
    clear c53
    obtain ⟨y673, hy673⟩ : ∃ y_ : List (S25), y_ = (t666 ++ [(⟨t651, t652⟩ : S25)]) := ⟨_, rfl⟩
    replace H : (raddlelaw07_OpKinds.j1 kj4 a0 l1 a3 a2_0 a2_1 l2_2 a2_3 a2_4 a2_5 a2_6 a2_7 a2_8 a2_9 l2_10 l2_11 t651 t652 t653 t656 t657 t658 t659 t660 t661 t662 t663 y673) = some r := by first | (rw [hy673]; with_reducible exact H) | (have H2_ := (Option.bind_some _ _).symm.trans H; rw [hy673]; with_reducible exact H2_) | (have H2_ := (Option.bind_some _ _).symm.trans H; with_reducible exact H2_) | with_reducible exact H | (rw [hy673]; exact H) | exact H
    have Ny673 := mk_ hy673
    clear hy673
    have H' := mk_ H
    clear H
    have hnb54 := NB669_647.out
    have hnc54 := NB647_669.out
    have hcz55_0 : w23.cell? ⟨gb669, 0, none⟩ = some (.int .i64 0) := kc_ BK669 0
    have hcz55_1 : w23.cell? ⟨gb669, 1, none⟩ = some (.int .i64 0) := kc_ BK669 1
    have hcz55_2 : w23.cell? ⟨gb669, 2, none⟩ = some (.slice none 0 0) := kc_ BK669 2
    have hcz55_3 : w23.cell? ⟨gb669, 3, none⟩ = some (.int .i64 0) := kc_ BK669 3
    have hcz55_4 : w23.cell? ⟨gb669, 4, none⟩ = some (.int .i64 0) := kc_ BK669 4
    have hcz55_5 : w23.cell? ⟨gb669, 5, none⟩ = some (.int .i64 0) := kc_ BK669 5
    have hcz55_6 : w23.cell? ⟨gb669, 6, none⟩ = some (.int .i64 0) := kc_ BK669 6
    have hcz55_7 : w23.cell? ⟨gb669, 7, none⟩ = some (.int .i64 0) := kc_ BK669 7
    have hcz55_8 : w23.cell? ⟨gb669, 8, none⟩ = some (.string (⟨#[]⟩ : ByteArray)) := kc_ BK669 8
    have hcz55_9 : w23.cell? ⟨gb669, 9, none⟩ = some (.int .i64 0) := kc_ BK669 9
    have hcz55_10 : w23.cell? ⟨gb669, 10, none⟩ = some (.slice none 0 0) := kc_ BK669 10
    have hcz55_11 : w23.cell? ⟨gb669, 11, none⟩ = some (.slice none 0 0) := kc_ BK669 11
    have hfz55_0 := blk_frozen BK669.out 0
    have hfz55_1 := blk_frozen BK669.out 1
    have hfz55_2 := blk_frozen BK669.out 2
    have hfz55_3 := blk_frozen BK669.out 3
    have hfz55_4 := blk_frozen BK669.out 4
    have hfz55_5 := blk_frozen BK669.out 5
    have hfz55_6 := blk_frozen BK669.out 6
    have hfz55_7 := blk_frozen BK669.out 7
    have hfz55_8 := blk_frozen BK669.out 8
    have hfz55_9 := blk_frozen BK669.out 9
    have hfz55_10 := blk_frozen BK669.out 10
    have hfz55_11 := blk_frozen BK669.out 11
    go_wp2_with (first | ((with_reducible refine gate_builtin (b := .append) (xs := #[.tmp 31, .tmp 39]) rfl ?_); at_builtin; refine R_append k25 (w0 := w) w.heap.size rfl (.tmp 31) (.tmp 39) 30 25 (.agg #[(.int .i64 0), (.int .i64 0)]) 16 rfl Try.underlying30 info25 rfl z5_ z3_ (.slice Ao28 t666.length co28) t666 (⟨t651, t652⟩ : S25) [.int .i64 t651, .int .i64 t652] (fun _ => True) (fun _ => False) rfl (by first | (go_simp; done) | (go_simp; rfl)) ?aP (fun _ hk => hk.elim) ?aF ?aO ?aB ?aS ?aL ?_; (case aP => exact k25_mkM _ _ _ (⟨t651, t652⟩ : S25)); (case aB => exact (Short.hB HB)); (case aF => exact (fun _ _ => trivial)); (case aO => exact (by (with_reducible repeat (first | apply R_alloc | apply R_drewN | apply R_drew)); exact R_mono (R_far (p := ⟨gb669, 11, none⟩) (R_far (p := ⟨gb669, 10, none⟩) (R_far (p := ⟨gb669, 9, none⟩) (R_far (p := ⟨gb669, 8, none⟩) (R_far (p := ⟨gb669, 7, none⟩) (R_far (p := ⟨gb669, 6, none⟩) (R_far (p := ⟨gb669, 5, none⟩) (R_far (p := ⟨gb669, 4, none⟩) (R_far (p := ⟨gb669, 3, none⟩) (R_far (p := ⟨gb669, 2, none⟩) (R_far (p := ⟨gb669, 1, none⟩) (R_far (p := ⟨gb669, 0, none⟩) (R_types HO668.out BK669.out z5_) (fun _ hk => hk.2) (.int .i64 t651)) (fun _ hk => hk.2) (.int .i64 t652)) (fun _ hk => hk.2) (.slice Ao26 t653.length co26)) (fun _ hk => hk.2) (.int .i64 t656)) (fun _ hk => hk.2) (.int .i64 t657)) (fun _ hk => hk.2) (.int .i64 t658)) (fun _ hk => hk.2) (.int .i64 t659)) (fun _ hk => hk.2) (.int .i64 t660)) (fun _ hk => hk.2) (.string t661)) (fun _ hk => hk.2) (.int .i64 t662)) (fun _ hk => hk.2) (.slice Ao27 t663.length co27)) (fun _ hk => hk.2) (.slice Ao28 t666.length co28)) (fun _ hk => trivial))); (case aS => exact (below_size (Short.hB HB))); (case aL => have := LMc53.out; omega); intro v674 w56 ho hb hg hat; rw [← Ny673.out] at ho; have n0_ := mk_ (blk_grown (g := gb647) (o := .cells #[.int .i64 a2_0, .int .i64 a2_1, .slice A2_2 l2_2.length c2_2, .int .i64 a2_3, .int .i64 a2_4, .int .i64 a2_5, .int .i64 a2_6, .int .i64 a2_7, .string a2_8, .int .i64 a2_9, .slice A2_10 l2_10.length c2_10, .slice A2_11 l2_11.length c2_11] 32 (0, 0)) (by (with_reducible repeat (first | refine blk_drewN ?_ _ | refine blk_drew ?_ | refine blk_alloc ?_ _)); refine blk_far ?_ NB647_669.out _; (with_reducible repeat (first | refine blk_drewN ?_ _ | refine blk_drew ?_ | refine blk_alloc ?_ _)); refine blk_far ?_ NB647_669.out _; (with_reducible repeat (first | refine blk_drewN ?_ _ | refine blk_drew ?_ | refine blk_alloc ?_ _)); refine blk_far ?_ NB647_669.out _; (with_reducible repeat (first | refine blk_drewN ?_ _ | refine blk_drew ?_ | refine blk_alloc ?_ _)); refine blk_far ?_ NB647_669.out _; (with_reducible repeat (first | refine blk_drewN ?_ _ | refine blk_drew ?_ | refine blk_alloc ?_ _)); refine blk_far ?_ NB647_669.out _; (with_reducible repeat (first | refine blk_drewN ?_ _ | refine blk_drew ?_ | refine blk_alloc ?_ _)); refine blk_far ?_ NB647_669.out _; (with_reducible repeat (first | refine blk_drewN ?_ _ | refine blk_drew ?_ | refine blk_alloc ?_ _)); refine blk_far ?_ NB647_669.out _; (with_reducible repeat (first | refine blk_drewN ?_ _ | refine blk_drew ?_ | refine blk_alloc ?_ _)); refine blk_far ?_ NB647_669.out _; (with_reducible repeat (first | refine blk_drewN ?_ _ | refine blk_drew ?_ | refine blk_alloc ?_ _)); refine blk_far ?_ NB647_669.out _; (with_reducible repeat (first | refine blk_drewN ?_ _ | refine blk_drew ?_ | refine blk_alloc ?_ _)); refine blk_far ?_ NB647_669.out _; (with_reducible repeat (first | refine blk_drewN ?_ _ | refine blk_drew ?_ | refine blk_alloc ?_ _)); refine blk_far ?_ NB647_669.out _; (with_reducible repeat (first | refine blk_drewN ?_ _ | refine blk_drew ?_ | refine blk_alloc ?_ _)); refine blk_far ?_ NB647_669.out _; (with_reducible repeat (first | refine blk_drewN ?_ _ | refine blk_drew ?_ | refine blk_alloc ?_ _)); exact BK647.out) hg (R_ne HO668.out BK647.out z5_)); have n1_ := mk_ (R_over' (by (with_reducible repeat (first | apply R_alloc | apply R_drewN | apply R_drew)); exact (R_mono (R_far (p := ⟨gb669, 11, none⟩) (R_far (p := ⟨gb669, 10, none⟩) (R_far (p := ⟨gb669, 9, none⟩) (R_far (p := ⟨gb669, 8, none⟩) (R_far (p := ⟨gb669, 7, none⟩) (R_far (p := ⟨gb669, 6, none⟩) (R_far (p := ⟨gb669, 5, none⟩) (R_far (p := ⟨gb669, 4, none⟩) (R_far (p := ⟨gb669, 3, none⟩) (R_far (p := ⟨gb669, 2, none⟩) (R_far (p := ⟨gb669, 1, none⟩) (R_far (p := ⟨gb669, 0, none⟩) (R_types HO655.out BK669.out z5_) (fun _ hk => hk.2) (.int .i64 t651)) (fun _ hk => hk.2) (.int .i64 t652)) (fun _ hk => hk.2) (.slice Ao26 t653.length co26)) (fun _ hk => hk.2) (.int .i64 t656)) (fun _ hk => hk.2) (.int .i64 t657)) (fun _ hk => hk.2) (.int .i64 t658)) (fun _ hk => hk.2) (.int .i64 t659)) (fun _ hk => hk.2) (.int .i64 t660)) (fun _ hk => hk.2) (.string t661)) (fun _ hk => hk.2) (.int .i64 t662)) (fun _ hk => hk.2) (.slice Ao27 t663.length co27)) (fun _ hk => hk.2) (.slice Ao28 t666.length co28)) (fun _ h_ => h_.1))) (R_typed (by (with_reducible repeat (first | apply R_alloc | apply R_drewN | apply R_drew)); exact (R_mono (R_far (p := ⟨gb669, 11, none⟩) (R_far (p := ⟨gb669, 10, none⟩) (R_far (p := ⟨gb669, 9, none⟩) (R_far (p := ⟨gb669, 8, none⟩) (R_far (p := ⟨gb669, 7, none⟩) (R_far (p := ⟨gb669, 6, none⟩) (R_far (p := ⟨gb669, 5, none⟩) (R_far (p := ⟨gb669, 4, none⟩) (R_far (p := ⟨gb669, 3, none⟩) (R_far (p := ⟨gb669, 2, none⟩) (R_far (p := ⟨gb669, 1, none⟩) (R_far (p := ⟨gb669, 0, none⟩) (R_types HO668.out BK669.out z5_) (fun _ hk => hk.2) (.int .i64 t651)) (fun _ hk => hk.2) (.int .i64 t652)) (fun _ hk => hk.2) (.slice Ao26 t653.length co26)) (fun _ hk => hk.2) (.int .i64 t656)) (fun _ hk => hk.2) (.int .i64 t657)) (fun _ hk => hk.2) (.int .i64 t658)) (fun _ hk => hk.2) (.int .i64 t659)) (fun _ hk => hk.2) (.int .i64 t660)) (fun _ hk => hk.2) (.string t661)) (fun _ hk => hk.2) (.int .i64 t662)) (fun _ hk => hk.2) (.slice Ao27 t663.length co27)) (fun _ hk => hk.2) (.slice Ao28 t666.length co28)) (fun _ h_ => h_.1)))) z5_ hg); have n2_ := mk_ (R_over' (by (with_reducible repeat (first | apply R_alloc | apply R_drewN | apply R_drew)); exact (R_mono (R_far (p := ⟨gb669, 11, none⟩) (R_far (p := ⟨gb669, 10, none⟩) (R_far (p := ⟨gb669, 9, none⟩) (R_far (p := ⟨gb669, 8, none⟩) (R_far (p := ⟨gb669, 7, none⟩) (R_far (p := ⟨gb669, 6, none⟩) (R_far (p := ⟨gb669, 5, none⟩) (R_far (p := ⟨gb669, 4, none⟩) (R_far (p := ⟨gb669, 3, none⟩) (R_far (p := ⟨gb669, 2, none⟩) (R_far (p := ⟨gb669, 1, none⟩) (R_far (p := ⟨gb669, 0, none⟩) (R_types HO665.out BK669.out z5_) (fun _ hk => hk.2) (.int .i64 t651)) (fun _ hk => hk.2) (.int .i64 t652)) (fun _ hk => hk.2) (.slice Ao26 t653.length co26)) (fun _ hk => hk.2) (.int .i64 t656)) (fun _ hk => hk.2) (.int .i64 t657)) (fun _ hk => hk.2) (.int .i64 t658)) (fun _ hk => hk.2) (.int .i64 t659)) (fun _ hk => hk.2) (.int .i64 t660)) (fun _ hk => hk.2) (.string t661)) (fun _ hk => hk.2) (.int .i64 t662)) (fun _ hk => hk.2) (.slice Ao27 t663.length co27)) (fun _ hk => hk.2) (.slice Ao28 t666.length co28)) (fun _ h_ => h_.1))) (R_typed (by (with_reducible repeat (first | apply R_alloc | apply R_drewN | apply R_drew)); exact (R_mono (R_far (p := ⟨gb669, 11, none⟩) (R_far (p := ⟨gb669, 10, none⟩) (R_far (p := ⟨gb669, 9, none⟩) (R_far (p := ⟨gb669, 8, none⟩) (R_far (p := ⟨gb669, 7, none⟩) (R_far (p := ⟨gb669, 6, none⟩) (R_far (p := ⟨gb669, 5, none⟩) (R_far (p := ⟨gb669, 4, none⟩) (R_far (p := ⟨gb669, 3, none⟩) (R_far (p := ⟨gb669, 2, none⟩) (R_far (p := ⟨gb669, 1, none⟩) (R_far (p := ⟨gb669, 0, none⟩) (R_types HO668.out BK669.out z5_) (fun _ hk => hk.2) (.int .i64 t651)) (fun _ hk => hk.2) (.int .i64 t652)) (fun _ hk => hk.2) (.slice Ao26 t653.length co26)) (fun _ hk => hk.2) (.int .i64 t656)) (fun _ hk => hk.2) (.int .i64 t657)) (fun _ hk => hk.2) (.int .i64 t658)) (fun _ hk => hk.2) (.int .i64 t659)) (fun _ hk => hk.2) (.int .i64 t660)) (fun _ hk => hk.2) (.string t661)) (fun _ hk => hk.2) (.int .i64 t662)) (fun _ hk => hk.2) (.slice Ao27 t663.length co27)) (fun _ hk => hk.2) (.slice Ao28 t666.length co28)) (fun _ h_ => h_.1)))) z5_ hg); have n3_ := mk_ (blk_grown (g := gb669) (o := .cells #[.int .i64 t651, .int .i64 t652, .slice Ao26 t653.length co26, .int .i64 t656, .int .i64 t657, .int .i64 t658, .int .i64 t659, .int .i64 t660, .string t661, .int .i64 t662, .slice Ao27 t663.length co27, .slice Ao28 t666.length co28] 32 (0, 0)) (by (with_reducible repeat (first | refine blk_drewN ?_ _ | refine blk_drew ?_ | refine blk_alloc ?_ _)); refine blk_put (cs := #[.int .i64 t651, .int .i64 t652, .slice Ao26 t653.length co26, .int .i64 t656, .int .i64 t657, .int .i64 t658, .int .i64 t659, .int .i64 t660, .string t661, .int .i64 t662, .slice Ao27 t663.length co27, .slice none 0 0]) ?_ 11 _ rfl; (with_reducible repeat (first | refine blk_drewN ?_ _ | refine blk_drew ?_ | refine blk_alloc ?_ _)); refine blk_put (cs := #[.int .i64 t651, .int .i64 t652, .slice Ao26 t653.length co26, .int .i64 t656, .int .i64 t657, .int .i64 t658, .int .i64 t659, .int .i64 t660, .string t661, .int .i64 t662, .slice none 0 0, .slice none 0 0]) ?_ 10 _ rfl; (with_reducible repeat (first | refine blk_drewN ?_ _ | refine blk_drew ?_ | refine blk_alloc ?_ _)); refine blk_put (cs := #[.int .i64 t651, .int .i64 t652, .slice Ao26 t653.length co26, .int .i64 t656, .int .i64 t657, .int .i64 t658, .int .i64 t659, .int .i64 t660, .string t661, .int .i64 0, .slice none 0 0, .slice none 0 0]) ?_ 9 _ rfl; (with_reducible repeat (first | refine blk_drewN ?_ _ | refine blk_drew ?_ | refine blk_alloc ?_ _)); refine blk_put (cs := #[.int .i64 t651, .int .i64 t652, .slice Ao26 t653.length co26, .int .i64 t656, .int .i64 t657, .int .i64 t658, .int .i64 t659, .int .i64 t660, .string (⟨#[]⟩ : ByteArray), .int .i64 0, .slice none 0 0, .slice none 0 0]) ?_ 8 _ rfl; (with_reducible repeat (first | refine blk_drewN ?_ _ | refine blk_drew ?_ | refine blk_alloc ?_ _)); refine blk_put (cs := #[.int .i64 t651, .int .i64 t652, .slice Ao26 t653.length co26, .int .i64 t656, .int .i64 t657, .int .i64 t658, .int .i64 t659, .int .i64 0, .string (⟨#[]⟩ : ByteArray), .int .i64 0, .slice none 0 0, .slice none 0 0]) ?_ 7 _ rfl; (with_reducible repeat (first | refine blk_drewN ?_ _ | refine blk_drew ?_ | refine blk_alloc ?_ _)); refine blk_put (cs := #[.int .i64 t651, .int .i64 t652, .slice Ao26 t653.length co26, .int .i64 t656, .int .i64 t657, .int .i64 t658, .int .i64 0, .int .i64 0, .string (⟨#[]⟩ : ByteArray), .int .i64 0, .slice none 0 0, .slice none 0 0]) ?_ 6 _ rfl; (with_reducible repeat (first | refine blk_drewN ?_ _ | refine blk_drew ?_ | refine blk_alloc ?_ _)); refine blk_put (cs := #[.int .i64 t651, .int .i64 t652, .slice Ao26 t653.length co26, .int .i64 t656, .int .i64 t657, .int .i64 0, .int .i64 0, .int .i64 0, .string (⟨#[]⟩ : ByteArray), .int .i64 0, .slice none 0 0, .slice none 0 0]) ?_ 5 _ rfl; (with_reducible repeat (first | refine blk_drewN ?_ _ | refine blk_drew ?_ | refine blk_alloc ?_ _)); refine blk_put (cs := #[.int .i64 t651, .int .i64 t652, .slice Ao26 t653.length co26, .int .i64 t656, .int .i64 0, .int .i64 0, .int .i64 0, .int .i64 0, .string (⟨#[]⟩ : ByteArray), .int .i64 0, .slice none 0 0, .slice none 0 0]) ?_ 4 _ rfl; (with_reducible repeat (first | refine blk_drewN ?_ _ | refine blk_drew ?_ | refine blk_alloc ?_ _)); refine blk_put (cs := #[.int .i64 t651, .int .i64 t652, .slice Ao26 t653.length co26, .int .i64 0, .int .i64 0, .int .i64 0, .int .i64 0, .int .i64 0, .string (⟨#[]⟩ : ByteArray), .int .i64 0, .slice none 0 0, .slice none 0 0]) ?_ 3 _ rfl; (with_reducible repeat (first | refine blk_drewN ?_ _ | refine blk_drew ?_ | refine blk_alloc ?_ _)); refine blk_put (cs := #[.int .i64 t651, .int .i64 t652, .slice none 0 0, .int .i64 0, .int .i64 0, .int .i64 0, .int .i64 0, .int .i64 0, .string (⟨#[]⟩ : ByteArray), .int .i64 0, .slice none 0 0, .slice none 0 0]) ?_ 2 _ rfl; (with_reducible repeat (first | refine blk_drewN ?_ _ | refine blk_drew ?_ | refine blk_alloc ?_ _)); refine blk_put (cs := #[.int .i64 t651, .int .i64 0, .slice none 0 0, .int .i64 0, .int .i64 0, .int .i64 0, .int .i64 0, .int .i64 0, .string (⟨#[]⟩ : ByteArray), .int .i64 0, .slice none 0 0, .slice none 0 0]) ?_ 1 _ rfl; (with_reducible repeat (first | refine blk_drewN ?_ _ | refine blk_drew ?_ | refine blk_alloc ?_ _)); refine blk_put (cs := #[.int .i64 0, .int .i64 0, .slice none 0 0, .int .i64 0, .int .i64 0, .int .i64 0, .int .i64 0, .int .i64 0, .string (⟨#[]⟩ : ByteArray), .int .i64 0, .slice none 0 0, .slice none 0 0]) ?_ 0 _ rfl; (with_reducible repeat (first | refine blk_drewN ?_ _ | refine blk_drew ?_ | refine blk_alloc ?_ _)); exact BK669.out) hg (R_ne HO668.out BK669.out z5_)); have n4_ := mk_ (hb); have n5_ := mk_ (ho); clear BK647 HO655 HO665 BK669 HB HO668; revert n0_ n1_ n2_ n3_ n4_ n5_; intro BK647 HO655 HO665 BK669 HB HO675; clear ho hb hg hat; obtain ⟨Ao57, co57, eo57⟩ := R_slice HO675.out; subst eo57; have hcz58_0 : w56.cell? ⟨gb669, 0, none⟩ = some (.int .i64 t651) := kc_ BK669 0; have hcz58_1 : w56.cell? ⟨gb669, 1, none⟩ = some (.int .i64 t652) := kc_ BK669 1; have hcz58_2 : w56.cell? ⟨gb669, 2, none⟩ = some (.slice Ao26 t653.length co26) := kc_ BK669 2; have hcz58_3 : w56.cell? ⟨gb669, 3, none⟩ = some (.int .i64 t656) := kc_ BK669 3; have hcz58_4 : w56.cell? ⟨gb669, 4, none⟩ = some (.int .i64 t657) := kc_ BK669 4; have hcz58_5 : w56.cell? ⟨gb669, 5, none⟩ = some (.int .i64 t658) := kc_ BK669 5; have hcz58_6 : w56.cell? ⟨gb669, 6, none⟩ = some (.int .i64 t659) := kc_ BK669 6; have hcz58_7 : w56.cell? ⟨gb669, 7, none⟩ = some (.int .i64 t660) := kc_ BK669 7; have hcz58_8 : w56.cell? ⟨gb669, 8, none⟩ = some (.string t661) := kc_ BK669 8; have hcz58_9 : w56.cell? ⟨gb669, 9, none⟩ = some (.int .i64 t662) := kc_ BK669 9; have hcz58_10 : w56.cell? ⟨gb669, 10, none⟩ = some (.slice Ao27 t663.length co27) := kc_ BK669 10; have hcz58_11 : w56.cell? ⟨gb669, 11, none⟩ = some (.slice Ao28 t666.length co28) := kc_ BK669 11; have hfz58_0 := blk_frozen BK669.out 0; have hfz58_1 := blk_frozen BK669.out 1; have hfz58_2 := blk_frozen BK669.out 2; have hfz58_3 := blk_frozen BK669.out 3; have hfz58_4 := blk_frozen BK669.out 4; have hfz58_5 := blk_frozen BK669.out 5; have hfz58_6 := blk_frozen BK669.out 6; have hfz58_7 := blk_frozen BK669.out 7; have hfz58_8 := blk_frozen BK669.out 8; have hfz58_9 := blk_frozen BK669.out 9; have hfz58_10 := blk_frozen BK669.out 10; have hfz58_11 := blk_frozen BK669.out 11))
    go_meet
    case rel => exact ⟨_, (t652), (t653), (t658), (t659), (t660), (t661), (y673), (.slice Ao26 t653.length co26), (.slice Ao57 y673.length co57), H', ⟨by have := HJ4.out; first | omega | exact Nat.le_refl _⟩, ⟨by (with_reducible repeat (first | apply R_alloc | apply R_drewN | apply R_drew)); exact R_mono (R_far (p := ⟨gb669, 11, none⟩) (R_types HO655.out BK669.out z5_) (fun _ hk => hk.2) (.slice Ao57 y673.length co57)) (fun _ hk => trivial)⟩, ⟨by (with_reducible repeat (first | apply R_alloc | apply R_drewN | apply R_drew)); exact R_mono (R_far (p := ⟨gb669, 11, none⟩) (R_types HO665.out BK669.out z5_) (fun _ hk => hk.2) (.slice Ao57 y673.length co57)) (fun _ hk => trivial)⟩, ⟨by (with_reducible repeat (first | apply R_alloc | apply R_drewN | apply R_drew)); exact R_mono (R_far (p := ⟨gb669, 11, none⟩) (R_types HO675.out BK669.out z5_) (fun _ hk => hk.2) (.slice Ao57 y673.length co57)) (fun _ hk => trivial)⟩, ⟨by (with_reducible repeat (first | refine blk_drewN ?_ _ | refine blk_drew ?_ | refine blk_alloc ?_ _)); refine blk_far ?_ NB647_669.out _; (with_reducible repeat (first | refine blk_drewN ?_ _ | refine blk_drew ?_ | refine blk_alloc ?_ _)); exact BK647.out⟩, ⟨by (with_reducible repeat (first | refine blk_drewN ?_ _ | refine blk_drew ?_ | refine blk_alloc ?_ _)); refine blk_put (cs := #[.int .i64 t651, .int .i64 t652, .slice Ao26 t653.length co26, .int .i64 t656, .int .i64 t657, .int .i64 t658, .int .i64 t659, .int .i64 t660, .string t661, .int .i64 t662, .slice Ao27 t663.length co27, .slice Ao28 t666.length co28]) ?_ 11 _ rfl; (with_reducible repeat (first | refine blk_drewN ?_ _ | refine blk_drew ?_ | refine blk_alloc ?_ _)); exact BK669.out⟩, ⟨Short.hB HB⟩⟩
   case rest =>
    clear HC20
    try clear c1
    try clear c2
    try clear p2
    try clear c3
    try clear c4
    try clear c5
    try clear p6
    try clear c8
    try clear c10
    try clear c17
    try clear c18
    try clear c21
    try clear c24
    try clear c29
    try clear c29b0
    try clear c29b1
    try clear c30
    try clear c33
    try clear c33b0
    try clear c33b1
    try clear c34
    try clear c37
    try clear c37b0
    try clear c37b1
    try clear c38
    try clear c40
    try clear c40b0
    try clear c40b1
    try clear c41
    try clear c42
    try clear c47
    try clear c47b0
    try clear c47b1
    try clear c48
    try clear c50
    try clear c50b0
    try clear c50b1
    try clear c51
    try clear c53
    try clear c54
    try clear hcz11_0
    try clear hcz11_1
    try clear hcz11_10
    try clear hcz11_11
    try clear hcz11_2
    try clear hcz11_3
    try clear hcz11_4
    try clear hcz11_5
    try clear hcz11_6
    try clear hcz11_7
    try clear hcz11_8
    try clear hcz11_9
    try clear hcz14_0
    try clear hcz14_1
    try clear hcz14_10
    try clear hcz14_11
    try clear hcz14_2
    try clear hcz14_3
    try clear hcz14_4
    try clear hcz14_5
    try clear hcz14_6
    try clear hcz14_7
    try clear hcz14_8
    try clear hcz14_9
    try clear hcz16_0
    try clear hcz16_1
    try clear hcz16_10
    try clear hcz16_11
    try clear hcz16_2
    try clear hcz16_3
    try clear hcz16_4
    try clear hcz16_5
    try clear hcz16_6
    try clear hcz16_7
    try clear hcz16_8
    try clear hcz16_9
    try clear hcz21_0
    try clear hcz21_1
    try clear hcz21_10
    try clear hcz21_11
    try clear hcz21_2
    try clear hcz21_3
    try clear hcz21_4
    try clear hcz21_5
    try clear hcz21_6
    try clear hcz21_7
    try clear hcz21_8
    try clear hcz21_9
    try clear hcz25_0
    try clear hcz25_1
    try clear hcz25_10
    try clear hcz25_11
    try clear hcz25_2
    try clear hcz25_3
    try clear hcz25_4
    try clear hcz25_5
    try clear hcz25_6
    try clear hcz25_7
    try clear hcz25_8
    try clear hcz25_9
    try clear hcz31_0
    try clear hcz31_1
    try clear hcz31_10
    try clear hcz31_11
    try clear hcz31_2
    try clear hcz31_3
    try clear hcz31_4
    try clear hcz31_5
    try clear hcz31_6
    try clear hcz31_7
    try clear hcz31_8
    try clear hcz31_9
    try clear hcz32_0
    try clear hcz32_1
    try clear hcz32_10
    try clear hcz32_11
    try clear hcz32_2
    try clear hcz32_3
    try clear hcz32_4
    try clear hcz32_5
    try clear hcz32_6
    try clear hcz32_7
    try clear hcz32_8
    try clear hcz32_9
    try clear hcz35_0
    try clear hcz35_1
    try clear hcz35_10
    try clear hcz35_11
    try clear hcz35_2
    try clear hcz35_3
    try clear hcz35_4
    try clear hcz35_5
    try clear hcz35_6
    try clear hcz35_7
    try clear hcz35_8
    try clear hcz35_9
    try clear hcz36_0
    try clear hcz36_1
    try clear hcz36_10
    try clear hcz36_11
    try clear hcz36_2
    try clear hcz36_3
    try clear hcz36_4
    try clear hcz36_5
    try clear hcz36_6
    try clear hcz36_7
    try clear hcz36_8
    try clear hcz36_9
    try clear hcz39_0
    try clear hcz39_1
    try clear hcz39_10
    try clear hcz39_11
    try clear hcz39_2
    try clear hcz39_3
    try clear hcz39_4
    try clear hcz39_5
    try clear hcz39_6
    try clear hcz39_7
    try clear hcz39_8
    try clear hcz39_9
    try clear hcz43_0
    try clear hcz43_1
    try clear hcz43_10
    try clear hcz43_11
    try clear hcz43_2
    try clear hcz43_3
    try clear hcz43_4
    try clear hcz43_5
    try clear hcz43_6
    try clear hcz43_7
    try clear hcz43_8
    try clear hcz43_9
    try clear hcz46_0
    try clear hcz46_1
    try clear hcz46_10
    try clear hcz46_11
    try clear hcz46_2
    try clear hcz46_3
    try clear hcz46_4
    try clear hcz46_5
    try clear hcz46_6
    try clear hcz46_7
    try clear hcz46_8
    try clear hcz46_9
    try clear hcz49_0
    try clear hcz49_1
    try clear hcz49_10
    try clear hcz49_11
    try clear hcz49_2
    try clear hcz49_3
    try clear hcz49_4
    try clear hcz49_5
    try clear hcz49_6
    try clear hcz49_7
    try clear hcz49_8
    try clear hcz49_9
    try clear hcz52_0
    try clear hcz52_1
    try clear hcz52_10
    try clear hcz52_11
    try clear hcz52_2
    try clear hcz52_3
    try clear hcz52_4
    try clear hcz52_5
    try clear hcz52_6
    try clear hcz52_7
    try clear hcz52_8
    try clear hcz52_9
    try clear hcz55_0
    try clear hcz55_1
    try clear hcz55_10
    try clear hcz55_11
    try clear hcz55_2
    try clear hcz55_3
    try clear hcz55_4
    try clear hcz55_5
    try clear hcz55_6
    try clear hcz55_7
    try clear hcz55_8
    try clear hcz55_9
    try clear hcz58_0
    try clear hcz58_1
    try clear hcz58_10
    try clear hcz58_11
    try clear hcz58_2
    try clear hcz58_3
    try clear hcz58_4
    try clear hcz58_5
    try clear hcz58_6
    try clear hcz58_7
    try clear hcz58_8
    try clear hcz58_9
    try clear hfz11_0
    try clear hfz11_1
    try clear hfz11_10
    try clear hfz11_11
    try clear hfz11_2
    try clear hfz11_3
    try clear hfz11_4
    try clear hfz11_5
    try clear hfz11_6
    try clear hfz11_7
    try clear hfz11_8
    try clear hfz11_9
    try clear hfz14_0
    try clear hfz14_1
    try clear hfz14_10
    try clear hfz14_11
    try clear hfz14_2
    try clear hfz14_3
    try clear hfz14_4
    try clear hfz14_5
    try clear hfz14_6
    try clear hfz14_7
    try clear hfz14_8
    try clear hfz14_9
    try clear hfz16_0
    try clear hfz16_1
    try clear hfz16_10
    try clear hfz16_11
    try clear hfz16_2
    try clear hfz16_3
    try clear hfz16_4
    try clear hfz16_5
    try clear hfz16_6
    try clear hfz16_7
    try clear hfz16_8
    try clear hfz16_9
    try clear hfz21_0
    try clear hfz21_1
    try clear hfz21_10
    try clear hfz21_11
    try clear hfz21_2
    try clear hfz21_3
    try clear hfz21_4
    try clear hfz21_5
    try clear hfz21_6
    try clear hfz21_7
    try clear hfz21_8
    try clear hfz21_9
    try clear hfz25_0
    try clear hfz25_1
    try clear hfz25_10
    try clear hfz25_11
    try clear hfz25_2
    try clear hfz25_3
    try clear hfz25_4
    try clear hfz25_5
    try clear hfz25_6
    try clear hfz25_7
    try clear hfz25_8
    try clear hfz25_9
    try clear hfz31_0
    try clear hfz31_1
    try clear hfz31_10
    try clear hfz31_11
    try clear hfz31_2
    try clear hfz31_3
    try clear hfz31_4
    try clear hfz31_5
    try clear hfz31_6
    try clear hfz31_7
    try clear hfz31_8
    try clear hfz31_9
    try clear hfz32_0
    try clear hfz32_1
    try clear hfz32_10
    try clear hfz32_11
    try clear hfz32_2
    try clear hfz32_3
    try clear hfz32_4
    try clear hfz32_5
    try clear hfz32_6
    try clear hfz32_7
    try clear hfz32_8
    try clear hfz32_9
    try clear hfz35_0
    try clear hfz35_1
    try clear hfz35_10
    try clear hfz35_11
    try clear hfz35_2
    try clear hfz35_3
    try clear hfz35_4
    try clear hfz35_5
    try clear hfz35_6
    try clear hfz35_7
    try clear hfz35_8
    try clear hfz35_9
    try clear hfz36_0
    try clear hfz36_1
    try clear hfz36_10
    try clear hfz36_11
    try clear hfz36_2
    try clear hfz36_3
    try clear hfz36_4
    try clear hfz36_5
    try clear hfz36_6
    try clear hfz36_7
    try clear hfz36_8
    try clear hfz36_9
    try clear hfz39_0
    try clear hfz39_1
    try clear hfz39_10
    try clear hfz39_11
    try clear hfz39_2
    try clear hfz39_3
    try clear hfz39_4
    try clear hfz39_5
    try clear hfz39_6
    try clear hfz39_7
    try clear hfz39_8
    try clear hfz39_9
    try clear hfz43_0
    try clear hfz43_1
    try clear hfz43_10
    try clear hfz43_11
    try clear hfz43_2
    try clear hfz43_3
    try clear hfz43_4
    try clear hfz43_5
    try clear hfz43_6
    try clear hfz43_7
    try clear hfz43_8
    try clear hfz43_9
    try clear hfz46_0
    try clear hfz46_1
    try clear hfz46_10
    try clear hfz46_11
    try clear hfz46_2
    try clear hfz46_3
    try clear hfz46_4
    try clear hfz46_5
    try clear hfz46_6
    try clear hfz46_7
    try clear hfz46_8
    try clear hfz46_9
    try clear hfz49_0
    try clear hfz49_1
    try clear hfz49_10
    try clear hfz49_11
    try clear hfz49_2
    try clear hfz49_3
    try clear hfz49_4
    try clear hfz49_5
    try clear hfz49_6
    try clear hfz49_7
    try clear hfz49_8
    try clear hfz49_9
    try clear hfz52_0
    try clear hfz52_1
    try clear hfz52_10
    try clear hfz52_11
    try clear hfz52_2
    try clear hfz52_3
    try clear hfz52_4
    try clear hfz52_5
    try clear hfz52_6
    try clear hfz52_7
    try clear hfz52_8
    try clear hfz52_9
    try clear hfz55_0
    try clear hfz55_1
    try clear hfz55_10
    try clear hfz55_11
    try clear hfz55_2
    try clear hfz55_3
    try clear hfz55_4
    try clear hfz55_5
    try clear hfz55_6
    try clear hfz55_7
    try clear hfz55_8
    try clear hfz55_9
    try clear hfz58_0
    try clear hfz58_1
    try clear hfz58_10
    try clear hfz58_11
    try clear hfz58_2
    try clear hfz58_3
    try clear hfz58_4
    try clear hfz58_5
    try clear hfz58_6
    try clear hfz58_7
    try clear hfz58_8
    try clear hfz58_9
    try clear p2
    obtain ⟨kq, x670001_19, x670002_19, x670005_19, x670006_19, x670007_19, x670008_19, x670011_19, u670002, u670011, HA, HJ19, HO_670002, HO_670010, HO_670011, BK647, BK669, HB⟩ := hcut
    cases kq with
    | zero => exact absurd HA.out (by simp [raddlelaw07_OpKinds.j1])
    | succ kj19 =>
     have H := HA.out
     clear HA
     simp only [raddlelaw07_OpKinds.j1] at H
     obtain ⟨t676, A59, H⟩ := Option.bind_eq_some_iff.mp H
     replace A59 := mk_ A59
     obtain ⟨t677, A60, H⟩ := Option.bind_eq_some_iff.mp H
     replace A60 := mk_ A60
     by_cases c61 : t677 = 0
     rotate_left
     ·
      rw [if_neg c61] at H
      have c61b0 : (t677 == 0) = false := beq_eq_false_iff_ne.mpr c61
      have c61b1 : (t677 != 0) = true := bne_iff_ne.mpr c61
      exact absurd H (by rw [hrt]; simp)
     rw [if_pos c61] at H
     have c61b0 : (t677 == 0) = true := beq_iff_eq.mpr c61
     have c61b1 : (t677 != 0) = false := bne_eq_false_iff_eq.mpr c61
     clear c61
     obtain ⟨t678, A62, H⟩ := Option.bind_eq_some_iff.mp H
     replace A62 := mk_ A62
     by_cases c63 : t676 = t678
     rotate_left
     ·
      rw [if_neg c63] at H
      have c63b0 : (t676 == t678) = false := beq_eq_false_iff_ne.mpr c63
      have c63b1 : (t676 != t678) = true := bne_iff_ne.mpr c63
      exact absurd H (by rw [hrt]; simp)
     rw [if_pos c63] at H
     have c63b0 : (t676 == t678) = true := beq_iff_eq.mpr c63
     have c63b1 : (t676 != t678) = false := bne_eq_false_iff_eq.mpr c63
     clear c63
     by_cases c64 : (Int.tmod (IntKind.u64.wrap (a3)) 7) = 0
     ·
      rw [if_pos c64] at H
      have c64b0 : ((Int.tmod (IntKind.u64.wrap (a3)) 7) == 0) = true := beq_iff_eq.mpr c64
      have c64b1 : ((Int.tmod (IntKind.u64.wrap (a3)) 7) != 0) = false := bne_eq_false_iff_eq.mpr c64
      clear c64
      obtain ⟨t679, A65, H⟩ := Option.bind_eq_some_iff.mp H
      replace A65 := mk_ A65
      obtain rfl := Option.some.inj H
      have hnb66 := NB669_647.out
      have hnc66 := NB647_669.out
      have hcz_0 := blk_cell BK669.out
      have hfz_0 := blk_frozen BK669.out
      obtain ⟨Ao68, co68, eo68⟩ := R_slice HO_670002.out
      subst eo68
      obtain ⟨Ao69, co69, eo69⟩ := R_slice HO_670011.out
      subst eo69
      go_wp2_with (first | ((with_reducible refine gate_callee (f := 19) rfl ?_); refine Short.gL (some 83) Try.func19 #[.int .i64 a0, .slice A1 l1.length c1, .agg #[.int .i64 t651, .int .i64 x670001_19, .slice Ao68 x670002_19.length co68, .int .i64 t656, .int .i64 t657, .int .i64 x670005_19, .int .i64 x670006_19, .int .i64 x670007_19, .string x670008_19, .int .i64 t662, .slice Ao27 t663.length co27, .slice Ao69 x670011_19.length co69]] (h := ?_); (with_reducible refine (op_Check.calls kj19 a0 _ _ l1 t651 x670001_19 _ _ x670002_19 t656 t657 x670005_19 x670006_19 x670007_19 x670008_19 t662 _ _ t663 _ _ x670011_19 t676 _ ?side1 ?side2 ?side3 ?side4 ?side5 ?side6 ?side7 ?side8 A59.out).mono ?_); (case side1 => exact cX_ (C_below HR1.out HB.out)); (case side2 => exact HC1.out); (case side3 => exact cX_ (R_reads' HO_670002.out).2.2); (case side4 => exact (R_reads' HO_670002.out).2.1); (case side5 => exact cX_ (R_reads' HO_670010.out).2.2); (case side6 => exact (R_reads' HO_670010.out).2.1); (case side7 => exact cX_ (R_reads' HO_670011.out).2.2); (case side8 => exact (R_reads' HO_670011.out).2.1); rintro e w70 ⟨rfl, hb⟩; refine ⟨_, rfl, ?_⟩; have n0_ := mk_ (R_below (ZKR HO_670002) hb); have n1_ := mk_ (R_below (ZKR HO_670010) hb); have n2_ := mk_ (R_below (ZKR HO_670011) hb); have n3_ := mk_ (bB_ BK647 hb); have n4_ := mk_ (bB_ BK669 hb); have n5_ := mk_ (below_step (Short.hB HB) hb); clear HO_670002 HO_670010 HO_670011 BK647 BK669 HB; revert n0_ n1_ n2_ n3_ n4_ n5_; intro HO_670002 HO_670010 HO_670011 BK647 BK669 HB; (try clear hb); have hcz_0 := blk_cell BK647.out; have hfz_0 := blk_frozen BK647.out) | ((with_reducible refine gate_callee (f := 19) rfl ?_); refine Short.gL (some 87) Try.func19 #[.int .i64 a0, .slice A1 l1.length c1, .agg #[.int .i64 a2_0, .int .i64 a2_1, .slice A2_2 l2_2.length c2_2, .int .i64 a2_3, .int .i64 a2_4, .int .i64 a2_5, .int .i64 a2_6, .int .i64 a2_7, .string a2_8, .int .i64 a2_9, .slice A2_10 l2_10.length c2_10, .slice A2_11 l2_11.length c2_11]] (h := ?_); (with_reducible refine (op_Check.calls kj19 a0 _ _ l1 a2_0 a2_1 _ _ l2_2 a2_3 a2_4 a2_5 a2_6 a2_7 a2_8 a2_9 _ _ l2_10 _ _ l2_11 t677 _ ?side1 ?side2 ?side3 ?side4 ?side5 ?side6 ?side7 ?side8 A60.out).mono ?_); (case side1 => exact cX_ (C_below HR1.out HB.out)); (case side2 => exact HC1.out); (case side3 => exact cX_ (C_below HR2_2.out HB.out)); (case side4 => exact HC2_2.out); (case side5 => exact cX_ (C_below HR2_10.out HB.out)); (case side6 => exact HC2_10.out); (case side7 => exact cX_ (C_below HR2_11.out HB.out)); (case side8 => exact HC2_11.out); rintro e w72 ⟨rfl, hb⟩; refine ⟨_, rfl, ?_⟩; have n0_ := mk_ (R_below (ZKR HO_670002) hb); have n1_ := mk_ (R_below (ZKR HO_670010) hb); have n2_ := mk_ (R_below (ZKR HO_670011) hb); have n3_ := mk_ (bB_ BK647 hb); have n4_ := mk_ (bB_ BK669 hb); have n5_ := mk_ (below_step (Short.hB HB) hb); clear HO_670002 HO_670010 HO_670011 BK647 BK669 HB; revert n0_ n1_ n2_ n3_ n4_ n5_; intro HO_670002 HO_670010 HO_670011 BK647 BK669 HB; (try clear hb); have hcz_0 := blk_cell BK669.out; have hfz_0 := blk_frozen BK669.out) | (go_at_call 20; (with_reducible refine (raddlelaw07_Check.calls kj19 a0 _ _ l1 t651 x670001_19 _ _ x670002_19 t656 t657 x670005_19 x670006_19 x670007_19 x670008_19 t662 _ _ t663 _ _ x670011_19 t678 _ ?side1 ?side2 ?side3 ?side4 ?side5 ?side6 ?side7 ?side8 A62.out).mono ?_); (case side1 => exact cX_ (C_below HR1.out HB.out)); (case side2 => exact HC1.out); (case side3 => exact cX_ (R_reads' HO_670002.out).2.2); (case side4 => exact (R_reads' HO_670002.out).2.1); (case side5 => exact cX_ (R_reads' HO_670010.out).2.2); (case side6 => exact (R_reads' HO_670010.out).2.1); (case side7 => exact cX_ (R_reads' HO_670011.out).2.2); (case side8 => exact (R_reads' HO_670011.out).2.1); rintro e w74 ⟨rfl, hb⟩; have n0_ := mk_ (R_below (ZKR HO_670002) hb); have n1_ := mk_ (R_below (ZKR HO_670010) hb); have n2_ := mk_ (R_below (ZKR HO_670011) hb); have n3_ := mk_ (bB_ BK647 hb); have n4_ := mk_ (bB_ BK669 hb); have n5_ := mk_ (below_step (Short.hB HB) hb); clear HO_670002 HO_670010 HO_670011 BK647 BK669 HB; revert n0_ n1_ n2_ n3_ n4_ n5_; intro HO_670002 HO_670010 HO_670011 BK647 BK669 HB; (try clear hb); (try clear hb2); (try clear hk); (try clear hi)) | (go_at_call 15; (with_reducible refine (raddlelaw07_wakes.calls  t679 _ A65.out).mono ?_); rintro e w75 ⟨rfl, hb⟩; have n8_ := mk_ (below_step (Short.hB HB) hb); clear HB; have HB := n8_; clear n8_ hb))
      go_ret
      exact ⟨q0, Short.hB HB⟩
     rw [if_neg c64] at H
     have c64b0 : ((Int.tmod (IntKind.u64.wrap (a3)) 7) == 0) = false := beq_eq_false_iff_ne.mpr c64
     have c64b1 : ((Int.tmod (IntKind.u64.wrap (a3)) 7) != 0) = true := bne_iff_ne.mpr c64
     by_cases c76 : t676 = 1
     rotate_left
     ·
      rw [if_neg c76] at H
      have c76b0 : (t676 == 1) = false := beq_eq_false_iff_ne.mpr c76
      have c76b1 : (t676 != 1) = true := bne_iff_ne.mpr c76
      exact absurd H (by rw [hrt]; simp)
     rw [if_pos c76] at H
     have c76b0 : (t676 == 1) = true := beq_iff_eq.mpr c76
     have c76b1 : (t676 != 1) = false := bne_eq_false_iff_eq.mpr c76
     clear c76
     obtain ⟨t680, A77, H⟩ := Option.bind_eq_some_iff.mp H
     replace A77 := mk_ A77
     obtain rfl := Option.some.inj H
     have hnb78 := NB669_647.out
     have hnc78 := NB647_669.out
     have hcz_0 := blk_cell BK669.out
     have hfz_0 := blk_frozen BK669.out
     obtain ⟨Ao80, co80, eo80⟩ := R_slice HO_670002.out
     subst eo80
     obtain ⟨Ao81, co81, eo81⟩ := R_slice HO_670011.out
     subst eo81
     go_wp2_with (first | ((with_reducible refine gate_callee (f := 19) rfl ?_); refine Short.gL (some 83) Try.func19 #[.int .i64 a0, .slice A1 l1.length c1, .agg #[.int .i64 t651, .int .i64 x670001_19, .slice Ao80 x670002_19.length co80, .int .i64 t656, .int .i64 t657, .int .i64 x670005_19, .int .i64 x670006_19, .int .i64 x670007_19, .string x670008_19, .int .i64 t662, .slice Ao27 t663.length co27, .slice Ao81 x670011_19.length co81]] (h := ?_); (with_reducible refine (op_Check.calls kj19 a0 _ _ l1 t651 x670001_19 _ _ x670002_19 t656 t657 x670005_19 x670006_19 x670007_19 x670008_19 t662 _ _ t663 _ _ x670011_19 t676 _ ?side1 ?side2 ?side3 ?side4 ?side5 ?side6 ?side7 ?side8 A59.out).mono ?_); (case side1 => exact cX_ (C_below HR1.out HB.out)); (case side2 => exact HC1.out); (case side3 => exact cX_ (R_reads' HO_670002.out).2.2); (case side4 => exact (R_reads' HO_670002.out).2.1); (case side5 => exact cX_ (R_reads' HO_670010.out).2.2); (case side6 => exact (R_reads' HO_670010.out).2.1); (case side7 => exact cX_ (R_reads' HO_670011.out).2.2); (case side8 => exact (R_reads' HO_670011.out).2.1); rintro e w82 ⟨rfl, hb⟩; refine ⟨_, rfl, ?_⟩; have n0_ := mk_ (R_below (ZKR HO_670002) hb); have n1_ := mk_ (R_below (ZKR HO_670010) hb); have n2_ := mk_ (R_below (ZKR HO_670011) hb); have n3_ := mk_ (bB_ BK647 hb); have n4_ := mk_ (bB_ BK669 hb); have n5_ := mk_ (below_step (Short.hB HB) hb); clear HO_670002 HO_670010 HO_670011 BK647 BK669 HB; revert n0_ n1_ n2_ n3_ n4_ n5_; intro HO_670002 HO_670010 HO_670011 BK647 BK669 HB; (try clear hb); have hcz_0 := blk_cell BK647.out; have hfz_0 := blk_frozen BK647.out) | ((with_reducible refine gate_callee (f := 19) rfl ?_); refine Short.gL (some 87) Try.func19 #[.int .i64 a0, .slice A1 l1.length c1, .agg #[.int .i64 a2_0, .int .i64 a2_1, .slice A2_2 l2_2.length c2_2, .int .i64 a2_3, .int .i64 a2_4, .int .i64 a2_5, .int .i64 a2_6, .int .i64 a2_7, .string a2_8, .int .i64 a2_9, .slice A2_10 l2_10.length c2_10, .slice A2_11 l2_11.length c2_11]] (h := ?_); (with_reducible refine (op_Check.calls kj19 a0 _ _ l1 a2_0 a2_1 _ _ l2_2 a2_3 a2_4 a2_5 a2_6 a2_7 a2_8 a2_9 _ _ l2_10 _ _ l2_11 t677 _ ?side1 ?side2 ?side3 ?side4 ?side5 ?side6 ?side7 ?side8 A60.out).mono ?_); (case side1 => exact cX_ (C_below HR1.out HB.out)); (case side2 => exact HC1.out); (case side3 => exact cX_ (C_below HR2_2.out HB.out)); (case side4 => exact HC2_2.out); (case side5 => exact cX_ (C_below HR2_10.out HB.out)); (case side6 => exact HC2_10.out); (case side7 => exact cX_ (C_below HR2_11.out HB.out)); (case side8 => exact HC2_11.out); rintro e w84 ⟨rfl, hb⟩; refine ⟨_, rfl, ?_⟩; have n0_ := mk_ (R_below (ZKR HO_670002) hb); have n1_ := mk_ (R_below (ZKR HO_670010) hb); have n2_ := mk_ (R_below (ZKR HO_670011) hb); have n3_ := mk_ (bB_ BK647 hb); have n4_ := mk_ (bB_ BK669 hb); have n5_ := mk_ (below_step (Short.hB HB) hb); clear HO_670002 HO_670010 HO_670011 BK647 BK669 HB; revert n0_ n1_ n2_ n3_ n4_ n5_; intro HO_670002 HO_670010 HO_670011 BK647 BK669 HB; (try clear hb); have hcz_0 := blk_cell BK669.out; have hfz_0 := blk_frozen BK669.out) | (go_at_call 20; (with_reducible refine (raddlelaw07_Check.calls kj19 a0 _ _ l1 t651 x670001_19 _ _ x670002_19 t656 t657 x670005_19 x670006_19 x670007_19 x670008_19 t662 _ _ t663 _ _ x670011_19 t678 _ ?side1 ?side2 ?side3 ?side4 ?side5 ?side6 ?side7 ?side8 A62.out).mono ?_); (case side1 => exact cX_ (C_below HR1.out HB.out)); (case side2 => exact HC1.out); (case side3 => exact cX_ (R_reads' HO_670002.out).2.2); (case side4 => exact (R_reads' HO_670002.out).2.1); (case side5 => exact cX_ (R_reads' HO_670010.out).2.2); (case side6 => exact (R_reads' HO_670010.out).2.1); (case side7 => exact cX_ (R_reads' HO_670011.out).2.2); (case side8 => exact (R_reads' HO_670011.out).2.1); rintro e w86 ⟨rfl, hb⟩; have n0_ := mk_ (R_below (ZKR HO_670002) hb); have n1_ := mk_ (R_below (ZKR HO_670010) hb); have n2_ := mk_ (R_below (ZKR HO_670011) hb); have n3_ := mk_ (bB_ BK647 hb); have n4_ := mk_ (bB_ BK669 hb); have n5_ := mk_ (below_step (Short.hB HB) hb); clear HO_670002 HO_670010 HO_670011 BK647 BK669 HB; revert n0_ n1_ n2_ n3_ n4_ n5_; intro HO_670002 HO_670010 HO_670011 BK647 BK669 HB; (try clear hb); (try clear hb2); (try clear hk); (try clear hi)) | (go_at_call 15; (with_reducible refine (raddlelaw07_wakes.calls  t680 _ A77.out).mono ?_); rintro e w87 ⟨rfl, hb⟩; have n8_ := mk_ (below_step (Short.hB HB) hb); clear HB; have HB := n8_; clear n8_ hb))
     go_ret
     exact ⟨q0, Short.hB HB⟩
def raddlelaw07_OpKinds.WF51 (x : S51) : Prop := (x.f0.length ≤ maxLen ∧ ∀ x0_ ∈ x.f0, (Lit.int .i64 x0_).wf = true)
def raddlelaw07_OpKinds.WF25 (x : S25) : Prop := (Lit.int .i64 x.f0).wf = true ∧ (Lit.int .i64 x.f1).wf = true
def raddlelaw07_OpKinds.WF28 (x : S28) : Prop := (Lit.int .i64 x.f0).wf = true ∧ (Lit.int .i64 x.f1).wf = true ∧ (Lit.int .i64 x.f2).wf = true
def raddlelaw07_OpKinds.WF84 (x : S84) : Prop := (Lit.int .i64 x.f0).wf = true ∧ (Lit.int .i64 x.f1).wf = true ∧ x.f2.size ≤ maxLen
def raddlelaw07_OpKinds.WF32 (x : S32) : Prop := raddlelaw07_OpKinds.WF25 x.f0 ∧ (x.f1.length ≤ maxLen ∧ ∀ x0_ ∈ x.f1, (Lit.int .i64 x0_).wf = true) ∧ raddlelaw07_OpKinds.WF28 x.f2 ∧ (Lit.int .i64 x.f3).wf = true ∧ (Lit.int .i64 x.f4).wf = true ∧ x.f5.size ≤ maxLen ∧ (Lit.int .i64 x.f6).wf = true ∧ (x.f7.length ≤ maxLen ∧ ∀ x0_ ∈ x.f7, raddlelaw07_OpKinds.WF84 x0_) ∧ (x.f8.length ≤ maxLen ∧ ∀ x0_ ∈ x.f8, raddlelaw07_OpKinds.WF25 x0_)
def raddlelaw07_OpKinds.Pure : Prop := ∀ (x0 : Int) (x1 : List (S51)) (x2 : S32) (x3 : Int), (Lit.int .i64 x0).wf = true → (x1.length ≤ maxLen ∧ ∀ x0_ ∈ x1, raddlelaw07_OpKinds.WF51 x0_) → raddlelaw07_OpKinds.WF32 x2 → (Lit.int .i64 x3).wf = true → ∃ k, raddlelaw07_OpKinds.f k x0 x1 x2.f0.f0 x2.f0.f1 x2.f1 x2.f2.f0 x2.f2.f1 x2.f2.f2 x2.f3 x2.f4 x2.f5 x2.f6 x2.f7 x2.f8 x3 = some true
end Go.Proofs.Ytjnjfogfpmeacaa.PAll
end
section
namespace Go.Proofs.Ytjnjfogfpmeacaa.Ops
open Go.RowKit PAll Plain PrintWords PrintMore ZipT PrintWords.Kd PrintMore.Kd
set_option linter.unusedVariables false
set_option linter.unusedSimpArgs false
def heavyOp (x : Ox) : Bool := decide ((x.f1.length : Int) > 30) || decide ((x.f5.size : Int) > 100) || heavy x.f7 || decide ((x.f8.length : Int) > 100)
theorem heavy_step (k : Nat) (l : List Ox) (i : Int) (x : Ox) (hi : 0 ≤ i) (hl : i < (l.length : Int)) (hx : rd_T32 l i = x) (hk : 60 ≤ k) :
  raddlelaw07_Heavy.l0 (k + 1) l i = if heavyOp x = true then some true else raddlelaw07_Heavy.l0 k l (wrap64 (i + 1)) := by
 rw [raddlelaw07_Heavy.l0]
 rw [if_pos hl, if_pos hi, hx]
 unfold heavyOp
 by_cases h1 : (x.f1.length : Int) > 30
 ·
  rw [if_pos h1, decide_eq_true h1]; simp
 rw [if_neg h1, decide_eq_false h1, Bool.false_or]
 by_cases h2 : (x.f5.size : Int) > 100
 ·
  rw [if_pos h2, decide_eq_true h2]; simp
 rw [if_neg h2, decide_eq_false h2, Bool.false_or, heavy_eq _ _ hk, Option.bind_some]
 cases heavy x.f7
 ·
  rw [if_neg z5_, Bool.false_or]
  by_cases h3 : (x.f8.length : Int) > 100
  ·
   rw [if_pos h3, decide_eq_true h3, if_pos rfl]
  rw [if_neg h3, decide_eq_false h3, if_neg z5_]
 ·
  rw [if_pos rfl]; simp
theorem heavy1_eq (x : Ox) : raddlelaw07_Heavy1.f x.f0.f0 x.f0.f1 x.f1 x.f2.f0 x.f2.f1 x.f2.f2 x.f3 x.f4 x.f5 x.f6 x.f7 x.f8 = some (heavyOp x) := by
 show raddlelaw07_Heavy.f 500 [x] = _
 unfold raddlelaw07_Heavy.f
 rw [if_neg (by simp), heavy_step 499 [x] 0 x z3_ (by simp) rfl z3_]
 cases h : heavyOp x
 ·
  rw [if_neg z5_, w64 z3_ z3_, show (499 : Nat) = 498 + 1 from rfl, raddlelaw07_Heavy.l0, if_neg (by simp)]
 ·
  rw [if_pos rfl]
theorem light_small {x : Ox} (h : heavyOp x = false) : x.f1.length ≤ 30 ∧ x.f7.length ≤ 40 ∧ x.f8.length ≤ 100 ∧ x.f5.size ≤ 100 := by
 unfold heavyOp at h
 simp only [Bool.or_eq_false_iff, decide_eq_false_iff_not] at h
 have := heavy_len (show ¬ heavy x.f7 = true by rw [h.1.2]; decide)
 omega
end Go.Proofs.Ytjnjfogfpmeacaa.Ops
end
section
namespace Go.Proofs.Ytjnjfogfpmeacaa.Ops
open Go.RowKit PAll Plain PrintWords PrintMore ZipT PrintWords.Kd PrintMore.Kd
set_option linter.unusedVariables false
set_option linter.unusedSimpArgs false
theorem had_all {v : List Int} : ∀ {l : List Dt} {p : Option Dt}, hadG v p l = true → ∀ d ∈ l, hasB v d = true
 | [], _, _, d, hd => by cases hd
 | x :: l, p, h, d, hd => by
  rw [hadG_cons, Bool.and_eq_true, Bool.and_eq_true] at h
  rcases List.mem_cons.1 hd with rfl | hd
  ·
   exact h.1.1
  ·
   exact had_all h.2 d hd
def hvFo (f : List Tb) : Bool := decide (f.length > 30) || f.any fun t => decide (t.f0.length > 30)
theorem hvFo_l0 (f : List Tb) (hl : f.length ≤ 30) (m : List Tb) : ∀ (k i : Nat), f.drop i = m → m.length < k →
  raddlelaw07_HeavyForms.l0 k f (i : Int) = some (m.any fun t => decide (t.f0.length > 30)) := by
 induction m with
 | nil =>
  intro k i h hk
  obtain ⟨k, rfl⟩ : ∃ j, k = j + 1 := ⟨k - 1, by omega⟩
  have := List.drop_eq_nil_iff.1 h
  simp only [raddlelaw07_HeavyForms.l0]
  rw [if_neg z3_]; rfl
 | cons v m ih =>
  intro k i h hk
  obtain ⟨k, rfl⟩ : ∃ j, k = j + 1 := ⟨k - 1, by omega⟩
  have h2 := dropL_lt h
  rw [List.length_cons] at hk
  simp only [raddlelaw07_HeavyForms.l0]
  rw [if_pos z3_, if_pos z3_, rdB_drop h, List.any_cons]
  by_cases c : v.f0.length > 30
  ·
   rw [if_pos z3_, decide_eq_true c]; rfl
  rw [if_neg z3_, decide_eq_false c, Bool.false_or, w64 z3_ z3_]
  exact ih k (i + 1) (dropL_tail h) z3_
theorem hvFo_eq (k : Nat) (f : List Tb) (hk : 40 ≤ k) : raddlelaw07_HeavyForms.f k f = some (hvFo f) := by
 unfold raddlelaw07_HeavyForms.f hvFo
 by_cases c : f.length > 30
 ·
  rw [if_pos z3_, decide_eq_true c]; rfl
 rw [if_neg z3_, decide_eq_false c, Bool.false_or]
 exact hvFo_l0 f z3_ f k 0 rfl z3_
theorem hvFo_len {f : List Tb} (h : hvFo f = false) : f.length ≤ 30 ∧ ∀ t ∈ f, t.f0.length ≤ 30 := by
 unfold hvFo at h
 rw [Bool.or_eq_false_iff, decide_eq_false_iff_not, List.any_eq_false] at h
 exact ⟨by omega, fun t ht => by have := h.2 t ht; rw [decide_eq_true_eq] at this; omega⟩
end Go.Proofs.Ytjnjfogfpmeacaa.Ops
end
section
namespace Go.Proofs.Ytjnjfogfpmeacaa.Pure
open Go.RowKit PAll PrintWords PrintLast Plain Ops ZipT PrintWords.Kd PrintMore.Kd
set_option linter.unusedVariables false
set_option linter.unusedSimpArgs false
theorem rcheck_eq (k : Nat) (n : Int) (f : List Tb) (x : Ox) (hx : x.f1.length ≤ 1000 ∧ x.f7.length ≤ 1000 ∧ x.f8.length ≤ 1000) (hl : f.length ≤ 30) (hf : f.length ≤ 1000 ∧ ∀ t ∈ f, t.f0.length ≤ 1000) (hk : 1100 ≤ k) :
  raddlelaw07_Check.f k n f x.f0.f0 x.f0.f1 x.f1 x.f2.f0 x.f2.f1 x.f2.f2 x.f3 x.f4 x.f5 x.f6 x.f7 x.f8 = some (checkE n f x) := by
 unfold raddlelaw07_Check.f checkE
 rw [rforms_eq k f z3_ z3_, Option.bind_some]
 by_cases h0 : formsE f = 0
 rotate_left
 ·
  rw [if_neg h0, if_pos (show formsE f ≠ 0 from h0)]
 rw [if_pos h0, if_neg (show ¬ formsE f ≠ 0 from fun e => e h0)]
 by_cases h1 : n < 1
 ·
  rw [if_pos h1, if_pos (.inl h1)]
 rw [if_neg h1]
 by_cases h2 : n > 5
 ·
  rw [if_pos h2, if_pos (.inr h2)]
 rw [if_neg h2, if_neg z3_]
 have : raddleref01_Op.f n f x.f0.f0 x.f0.f1 x.f1 x.f2.f0 x.f2.f1 x.f2.f2 x.f3 x.f4 x.f5 x.f6 x.f7 x.f8 = some (rightB n f x) := by
  unfold raddleref01_Op.f
  exact if_pos ⟨⟨by omega, by omega⟩, hx, hf⟩
 rw [this, Option.bind_some]
 cases rightB n f x
 ·
  rfl
 ·
  rfl
theorem check_parts {n : Int} {f : List Tb} {x : Ox} (h : checkE n f x = 0) : formsE f = 0 ∧ ¬ (n < 1 ∨ n > 5) ∧ rightB n f x = true := by
 unfold checkE at h
 by_cases h0 : formsE f = 0
 rotate_left
 ·
  rw [if_pos h0] at h; exact absurd h h0
 rw [if_neg (fun e => e h0)] at h
 by_cases hn : n < 1 ∨ n > 5
 ·
  rw [if_pos hn] at h; cases h
 rw [if_neg hn] at h
 by_cases hr : rightB n f x = true
 ·
  exact ⟨h0, hn, hr⟩
 rw [if_neg hr] at h; cases h
theorem check_none {n : Int} {f : List Tb} {x y : Ox} (h : checkE n f x = 0) (hy : rightB n f y = true → False) : checkE n f y = 1 := by
 obtain ⟨h0, hn, _⟩ := check_parts h
 unfold checkE
 rw [if_neg (fun e => e h0), if_neg hn, if_neg hy]
theorem right_parts {n : Int} {f : List Tb} {x : Ox} (h : rightB n f x = true) : wholeP n x ∧ (0 ≤ x.f4 ∧ x.f4 < f.length) ∧ keyB x.f5 = true ∧ kindB (colsOf f x) x = true := by
 unfold rightB at h
 rw [Bool.and_eq_true, Bool.and_eq_true, Bool.and_eq_true, decide_eq_true_eq, decide_eq_true_eq] at h
 exact ⟨h.1.1.1, h.1.1.2, h.1.2, h.2⟩
theorem twin_op (x : Ox) (hx : x.f1.length ≤ 1000 ∧ x.f7.length ≤ 1000 ∧ x.f8.length ≤ 1000) : raddlekeep_TwinOp.f x.f0.f0 x.f0.f1 x.f1 x.f2.f0 x.f2.f1 x.f2.f2 x.f3 x.f4 x.f5 x.f6 x.f7 x.f8 = some (x.f0.f0, x.f0.f1, x.f1, x.f2.f0, x.f2.f1, x.f2.f2, x.f3, x.f4, x.f5, x.f6, x.f7, x.f8) := by
 have h1 : raddlekeep_TwinInts.f x.f1 = some x.f1 := by unfold raddlekeep_TwinInts.f; rw [if_pos (by show 0 + _ < _; omega)]; rfl
 have h2 : raddlekeep_TwinRow.f x.f7 = some x.f7 := by unfold raddlekeep_TwinRow.f; rw [if_pos (by show 0 + _ < _; omega)]; rfl
 unfold raddlekeep_TwinOp.f
 rw [h1, Option.bind_some, h2, Option.bind_some, if_pos (by show 0 + _ < _; omega)]; rfl
set_option maxHeartbeats 1000000 in
theorem OpKinds : raddlelaw07_OpKinds.Pure := by
 intro n f x c hn hf hx hc
 refine ⟨1205, ?_⟩
 have hT : raddlelaw07_OpKinds.j0 (1204 + 1) n f c true x.f0.f0 x.f0.f1 x.f1 x.f2.f0 x.f2.f1 x.f2.f2 x.f3 x.f4 x.f5 x.f6 x.f7 x.f8 = some true := by simp only [raddlelaw07_OpKinds.j0, if_true]
 unfold raddlelaw07_OpKinds.f
 rw [hvFo_eq _ _ z3_, Option.bind_some]
 cases hv : hvFo f
 rotate_left
 ·
  rw [if_pos rfl]; exact hT
 rw [if_neg z5_, heavy1_eq, Option.bind_some]
 cases hh : heavyOp x
 rotate_left
 ·
  rw [if_pos rfl]; exact hT
 rw [if_neg z5_]
 have hlf := hvFo_len hv
 have hxs := light_small hh
 have hfs : f.length ≤ 1000 ∧ ∀ t ∈ f, t.f0.length ≤ 1000 := ⟨by omega, fun t ht => by have := hlf.2 t ht; omega⟩
 rw [rcheck_eq _ _ _ _ z3_ hlf.1 hfs z3_, Option.bind_some]
 by_cases h0 : checkE n f x = 0
 rotate_left
 ·
  rw [show (checkE n f x != 0) = true from bne_iff_ne.2 h0]; exact hT
 rw [h0]
 have hw := wakes7_eq
 obtain ⟨w, hwe⟩ : ∃ w, Int.tmod (IntKind.u64.wrap c) 7 = w := ⟨_, rfl⟩
 have hj : ∀ y : Ox, (y.f1.length ≤ 1000 ∧ y.f7.length ≤ 1000 ∧ y.f8.length ≤ 1000) → (w = 0 ∨ checkE n f y = 1) → raddlelaw07_OpKinds.j1 (1203 + 1) n f c x.f0.f0 x.f0.f1 x.f1 x.f2.f0 x.f2.f1 x.f2.f2 x.f3 x.f4 x.f5 x.f6 x.f7 x.f8 y.f0.f0 y.f0.f1 y.f1 y.f2.f0 y.f2.f1 y.f2.f2 y.f3 y.f4 y.f5 y.f6 y.f7 y.f8 = some true := by
  intro y hy hq
  simp only [raddlelaw07_OpKinds.j1]
  rw [check_op_eq _ n f y hy hfs z3_, Option.bind_some, check_op_eq _ n f x z3_ hfs z3_, Option.bind_some, if_pos h0, rcheck_eq _ n f y hy hlf.1 hfs z3_, Option.bind_some, if_pos rfl, hwe, hw]
  by_cases h1 : w = 0
  ·
   rw [if_pos h1]; rfl
  ·
   rw [if_neg h1, if_pos (hq.resolve_left h1)]; rfl
 obtain ⟨hwx, htx, hkx, hdx⟩ := right_parts (check_parts h0).2.2
 have hnn := (check_parts h0).2.1
 show raddlelaw07_OpKinds.j0 (1204 + 1) _ _ _ _ _ _ _ _ _ _ _ _ _ _ _ _ = _
 simp only [raddlelaw07_OpKinds.j0]
 rw [if_neg z5_, twin_op x z3_, Option.bind_some, hwe]
 dsimp only
 by_cases c0 : w = 0
 ·
  rw [if_pos c0]
  exact hj ⟨x.f0, x.f1, x.f2, wrap64 (1 + Int.tmod x.f3 3), x.f4, x.f5, x.f6, x.f7, x.f8⟩ (by dsimp only; omega) (.inl c0)
 rw [if_neg c0]
 by_cases c1 : w = 1
 ·
  rw [if_pos c1]
  refine hj ⟨x.f0, x.f1, ⟨x.f2.f0, x.f2.f1, wrap64 (x.f2.f2 + 1)⟩, x.f3, x.f4, x.f5, x.f6, x.f7, x.f8⟩ (by dsimp only; omega) (.inr (check_none h0 fun h => ?_))
  have e1 : wrap64 (x.f2.f2 + 1) = x.f0.f0 := (right_parts h).1.2.2.2.2.2.2
  have e2 : x.f2.f2 = x.f0.f0 := hwx.2.2.2.2.2.2
  have e3 : 0 ≤ x.f0.f0 ∧ x.f0.f0 < n := hwx.1
  rw [w64 z3_ z3_] at e1
  omega
 rw [if_neg c1]
 by_cases c2 : w = 2
 ·
  rw [if_pos c2]
  refine hj ⟨⟨x.f0.f0, wrap64 (x.f0.f1 + 1)⟩, x.f1, x.f2, x.f3, x.f4, x.f5, x.f6, x.f7, x.f8⟩ (by dsimp only; omega) (.inr (check_none h0 fun h => ?_))
  have e1 : rd x.f1 x.f0.f0 = wrap64 (x.f0.f1 + 1) - 1 := (right_parts h).1.2.2.2.2.1
  have e2 : rd x.f1 x.f0.f0 = x.f0.f1 - 1 := hwx.2.2.2.2.1
  have e3 : 1 ≤ x.f0.f1 ∧ x.f0.f1 ≤ 1073741824 := hwx.2.1
  rw [w64 z3_ z3_] at e1
  omega
 rw [if_neg c2]
 by_cases c3 : w = 3
 ·
  rw [if_pos c3, if_pos z3_]
  refine hj ⟨x.f0, x.f1 ++ [0], x.f2, x.f3, x.f4, x.f5, x.f6, x.f7, x.f8⟩ (by dsimp only; rw [List.length_append]; simp only [List.length_cons, List.length_nil]; omega) (.inr (check_none h0 fun h => ?_))
  have e1 : ((x.f1 ++ [0]).length : Int) = n := (right_parts h).1.2.2.1
  have e2 : (x.f1.length : Int) = n := hwx.2.2.1
  rw [List.length_append] at e1
  simp only [List.length_cons, List.length_nil] at e1
  omega
 rw [if_neg c3]
 by_cases c4 : w = 4
 ·
  rw [if_pos c4]
  refine hj ⟨x.f0, x.f1, x.f2, x.f3, x.f4, ⟨#[]⟩, x.f6, x.f7, x.f8⟩ (by dsimp only; omega) (.inr (check_none h0 fun h => ?_))
  have e1 : keyB ⟨#[]⟩ = true := (right_parts h).2.2.1
  exact absurd e1 z5_
 rw [if_neg c4]
 by_cases c5 : w = 5
 ·
  rw [if_pos c5]
  refine hj ⟨x.f0, x.f1, x.f2, x.f3, (f.length : Int), x.f5, x.f6, x.f7, x.f8⟩ (by dsimp only; omega) (.inr (check_none h0 fun h => ?_))
  have e1 : 0 ≤ (f.length : Int) ∧ (f.length : Int) < f.length := (right_parts h).2.1
  omega
 rw [if_neg c5, if_pos z3_]
 refine hj ⟨x.f0, x.f1, x.f2, x.f3, x.f4, x.f5, x.f6, x.f7, x.f8 ++ [x.f0]⟩ (by dsimp only; rw [List.length_append]; simp only [List.length_cons, List.length_nil]; omega) (.inr (check_none h0 fun h => ?_))
 have hk := (right_parts h).2.2.2
 obtain ⟨y, hy⟩ : ∃ y : Ox, (⟨x.f0, x.f1, x.f2, x.f3, x.f4, x.f5, x.f6, x.f7, x.f8 ++ [x.f0]⟩ : Ox) = y := ⟨_, rfl⟩
 rw [hy] at hk
 have hy1 : y.f1 = x.f1 := by rw [← hy]
 have hy8 : y.f8 = x.f8 ++ [x.f0] := by rw [← hy]
 have hl : ¬ y.f8.length = 0 := by rw [hy8, List.length_append]; simp
 unfold kindB at hk
 by_cases k1 : y.f3 = 1
 ·
  rw [if_pos k1, decide_eq_false hl, Bool.and_false] at hk; cases hk
 rw [if_neg k1] at hk
 by_cases k2 : y.f3 = 2
 ·
  rw [if_pos k2, decide_eq_false hl, Bool.and_false] at hk; cases hk
 rw [if_neg k2] at hk
 by_cases k3 : y.f3 = 3
 rotate_left
 ·
  rw [if_neg k3] at hk; cases hk
 rw [if_pos k3, Bool.and_eq_true, Bool.and_eq_true, Bool.and_eq_true] at hk
 have := had_all hk.1.1.2 x.f0 (by rw [hy8]; simp)
 rw [hy1] at this
 have h2 := of_decide_eq_true (show decide ((0 ≤ x.f0.f0 ∧ x.f0.f0 < x.f1.length) ∧ 1 ≤ x.f0.f1 ∧ x.f0.f1 ≤ rd x.f1 x.f0.f0) = true from this)
 have e2 : rd x.f1 x.f0.f0 = x.f0.f1 - 1 := hwx.2.2.2.2.1
 omega
end Go.Proofs.Ytjnjfogfpmeacaa.Pure
end
