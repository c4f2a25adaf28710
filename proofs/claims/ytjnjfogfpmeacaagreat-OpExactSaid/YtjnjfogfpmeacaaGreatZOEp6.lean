-- Put together by a program of this session (wip/slice2.py) out of the seat's texts.
import Derived.Test.YtjnjfogfpmeacaaGreatZOEp5

set_option maxHeartbeats 8000000
set_option maxRecDepth 100000
open Go.Proofs.YtjnjfogfpmeacaaGreatW Go.Proofs.YtjnjfogfpmeacaaGreat
section
namespace Go.Proofs.YtjnjfogfpmeacaaGreat.PAll
open Go.RowKit PrintWords PrintLast PrintMore ZipT PrintWords.Kd PrintMore.Kd
attribute [local go_sem] eE eG eX eY dQ dP eF eC   -- for this text's walks alone
set_option linter.unusedVariables false
set_option linter.unusedSimpArgs false
mutual
def aI.j0 : Nat → Int → List (S53) → ByteArray → Bool → Int → Int → List Int → Int → Int → Int → Int → Int → ByteArray → Int → List (S102) → List (S24) → Option (Bool)
 | 0, _, _, _, _, _, _, _, _, _, _, _, _, _, _, _, _ => none
 | k + 1, x0, x1, x3, x27, x558000, x558001, x558002, x558003, x558004, x558005, x558006, x558007, x558008, x558009, x558010, x558011 => if x27 = true then (some true) else ((cT.f x558000 x558001 x558002 x558003 x558004 x558005 x558006 x558007 x558008 x558009 x558010 x558011).bind fun bt560 => ((bZ.f k x1).bind fun t578 => ((iG.f bt560.1 bt560.2.1 bt560.2.2.1 bt560.2.2.2.1 bt560.2.2.2.2.1 bt560.2.2.2.2.2.1 bt560.2.2.2.2.2.2.1 bt560.2.2.2.2.2.2.2.1 bt560.2.2.2.2.2.2.2.2.1 bt560.2.2.2.2.2.2.2.2.2.1 bt560.2.2.2.2.2.2.2.2.2.2.1 bt560.2.2.2.2.2.2.2.2.2.2.2).bind fun bt582 => ((dC.f k t578).bind fun t586 => ((aW.f k x1).bind fun t587 => (if t586 = t587 then ((gO.f x3).bind fun t588 => ((eR.f x3).bind fun t589 => (if (t588 != t589) = true then (aI.j1 k bt582.1 bt582.2 true x558000 x558001 x558002 x558003 x558004 x558005 x558006 x558007 x558008 x558009 x558010 x558011) else ((gY.f k x0 t578 bt560.1 bt560.2.1 bt560.2.2.1 bt560.2.2.2.1 bt560.2.2.2.2.1 bt560.2.2.2.2.2.1 bt560.2.2.2.2.2.2.1 bt560.2.2.2.2.2.2.2.1 bt560.2.2.2.2.2.2.2.2.1 bt560.2.2.2.2.2.2.2.2.2.1 bt560.2.2.2.2.2.2.2.2.2.2.1 bt560.2.2.2.2.2.2.2.2.2.2.2).bind fun t590 => ((fC.f k x0 x1 x558000 x558001 x558002 x558003 x558004 x558005 x558006 x558007 x558008 x558009 x558010 x558011).bind fun t591 => (if t590 = t591 then ((eM.f k bt560.1 bt560.2.1 bt560.2.2.1 bt560.2.2.2.1 bt560.2.2.2.2.1 bt560.2.2.2.2.2.1 bt560.2.2.2.2.2.2.1 bt560.2.2.2.2.2.2.2.1 bt560.2.2.2.2.2.2.2.2.1 bt560.2.2.2.2.2.2.2.2.2.1 bt560.2.2.2.2.2.2.2.2.2.2.1 bt560.2.2.2.2.2.2.2.2.2.2.2 x558000 x558001 x558002 x558003 x558004 x558005 x558006 x558007 x558008 x558009 x558010 x558011).bind fun t592 => (if t592 = true then ((cW.f k t578 x1).bind fun t593 => (aI.j1 k bt582.1 bt582.2 (!t593) x558000 x558001 x558002 x558003 x558004 x558005 x558006 x558007 x558008 x558009 x558010 x558011)) else (aI.j1 k bt582.1 bt582.2 true x558000 x558001 x558002 x558003 x558004 x558005 x558006 x558007 x558008 x558009 x558010 x558011))) else (aI.j1 k bt582.1 bt582.2 true x558000 x558001 x558002 x558003 x558004 x558005 x558006 x558007 x558008 x558009 x558010 x558011))))))) else (aI.j1 k bt582.1 bt582.2 true x558000 x558001 x558002 x558003 x558004 x558005 x558006 x558007 x558008 x558009 x558010 x558011)))))))
def aI.j1 : Nat → List Int → Int → Bool → Int → Int → List Int → Int → Int → Int → Int → Int → ByteArray → Int → List (S102) → List (S24) → Option (Bool)
 | 0, _, _, _, _, _, _, _, _, _, _, _, _, _, _, _ => none
 | k + 1, x11, x12, x71, x558000, x558001, x558002, x558003, x558004, x558005, x558006, x558007, x558008, x558009, x558010, x558011 => if x71 = true then (some false) else ((aU.f k x558000 x558001 x558002 x558003 x558004 x558005 x558006 x558007 x558008 x558009 x558010 x558011).bind fun t594 => (if t594 = true then ((iR.f x11 0).bind fun bt596 => (if x12 = 0 then ((aM.f k x558000 x558001 x558002 x558003 x558004 x558005 x558006 x558007 x558008 x558009 x558010 x558011).bind fun t617 => ((cV.f k x11 t617).bind fun t620 => (if t620 = true then (if bt596.2.2.2.2.2.2.2.2.2.2.2.2.2 = 0 then (if bt596.2.2.2.2.2.2.2.2.2.2.2.2.1 = (x11.length : Int) then ((eM.f k bt596.1 bt596.2.1 bt596.2.2.1 bt596.2.2.2.1 bt596.2.2.2.2.1 bt596.2.2.2.2.2.1 bt596.2.2.2.2.2.2.1 bt596.2.2.2.2.2.2.2.1 bt596.2.2.2.2.2.2.2.2.1 bt596.2.2.2.2.2.2.2.2.2.1 bt596.2.2.2.2.2.2.2.2.2.2.1 bt596.2.2.2.2.2.2.2.2.2.2.2.1 x558000 x558001 x558002 x558003 x558004 x558005 x558006 x558007 x558008 x558009 x558010 x558011).bind fun t621 => (if t621 = true then ((eN.f).bind fun t622 => (some t622)) else (some false))) else (some false)) else (some false)) else (some false)))) else (some false))) else (if x12 = 1 then (if (x11.length : Int) = 0 then ((eN.f).bind fun t595 => (some t595)) else (some false)) else (some false))))
end
def aI.f (k : Nat) (a0 : Int) (l1 : List (S53)) (a2_0 : Int) (a2_1 : Int) (l2_2 : List Int) (a2_3 : Int) (a2_4 : Int) (a2_5 : Int) (a2_6 : Int) (a2_7 : Int) (a2_8 : ByteArray) (a2_9 : Int) (l2_10 : List (S102)) (l2_11 : List (S24)) (a3 : ByteArray) : Option (Bool) := (bP.f k l1).bind fun t558 => (if t558 = true then (aI.j0 k a0 l1 a3 true a2_0 a2_1 l2_2 a2_3 a2_4 a2_5 a2_6 a2_7 a2_8 a2_9 l2_10 l2_11) else ((eH.f a2_0 a2_1 l2_2 a2_3 a2_4 a2_5 a2_6 a2_7 a2_8 a2_9 l2_10 l2_11).bind fun t559 => (if t559 = true then (aI.j0 k a0 l1 a3 true a2_0 a2_1 l2_2 a2_3 a2_4 a2_5 a2_6 a2_7 a2_8 a2_9 l2_10 l2_11) else (aI.j0 k a0 l1 a3 (decide ((a3.size : Int) > 100)) a2_0 a2_1 l2_2 a2_3 a2_4 a2_5 a2_6 a2_7 a2_8 a2_9 l2_10 l2_11))))
def aI.T5 : Bool × List (List Nat × List Nat) := (true, [([], []), ([0], [0]), ([], []), ([2, 1], [2]), ([1, 3], [1, 3]), ([4, 3], [4]), ([5], [5]), ([6, 5, 5], [5, 6]), ([5], [5]), ([8, 7, 5], [5, 8]), ([7, 9, 5], [5, 7, 9]), ([5, 10], [5, 10]), ([11, 9], [11]), ([12], [12]), ([12], [12]), ([12], [12]), ([13, 14, 15, 12, 12], [12, 13, 14, 15]), ([12], [12]), ([12], [12]), ([12], [12]), ([17, 18, 19, 16, 12], [12, 17, 18, 19]), ([16, 20, 12], [12, 16, 20]), ([12, 21], [12, 21]), ([22, 20], [22]), ([23], [23]), ([23], [23]), ([24, 25, 23, 23], [23, 24, 25]), ([26, 23], [23, 26]), ([23, 27], [23, 27]), ([28, 26], [28]), ([29], [29]), ([29], [29]), ([30, 31, 29, 29], [29, 30, 31]), ([32, 29], [29, 32]), ([29, 33], [29, 33])])
def aI.B5 : List Nat := [0, 1, 0, 7, 15, 31, 63, 127, 63, 511, 1023, 2047, 4095, 8191, 8191, 8191, 65535, 8191, 8191, 8191, 1048575, 2097151, 4194303, 8388607, 16777215, 16777215, 67108863, 134217727, 268435455, 536870911, 1073741823, 1073741823, 4294967295, 8589934591, 17179869183]
theorem aI.tab5 : rtab .any (opsOf Tryz.f3 5) = aI.T5 := by kernel_rfl
theorem aI.bits5 : waitsOk aI.T5.2 aI.B5 = true := by kernel_rfl
theorem aI.calls (k : Nat) (a0 : Int) (A1 : Option Addr) (c1 : Nat) (l1 : List (S53)) (a2_0 : Int) (a2_1 : Int) (A2_2 : Option Addr) (c2_2 : Nat) (l2_2 : List Int) (a2_3 : Int) (a2_4 : Int) (a2_5 : Int) (a2_6 : Int) (a2_7 : Int) (a2_8 : ByteArray) (a2_9 : Int) (A2_10 : Option Addr) (c2_10 : Nat) (l2_10 : List (S102)) (A2_11 : Option Addr) (c2_11 : Nat) (l2_11 : List (S24)) (a3 : ByteArray) (r : Bool) (w : World) (hr1 : Kd.C k53 w A1 l1.length l1) (hc1 : l1.length ≤ c1) (hr2_2 : Kd.C (Kd.int .i64) w A2_2 l2_2.length l2_2) (hc2_2 : l2_2.length ≤ c2_2) (hr2_10 : Kd.C k102 w A2_10 l2_10.length l2_10) (hc2_10 : l2_10.length ≤ c2_10) (hr2_11 : Kd.C k24 w A2_11 l2_11.length l2_11) (hc2_11 : l2_11.length ≤ c2_11) (hrt : r = true) (h : aI.f k a0 l1 a2_0 a2_1 l2_2 a2_3 a2_4 a2_5 a2_6 a2_7 a2_8 a2_9 l2_10 l2_11 a3 = some r) :
  Calls Tryz.prog 3 #[.int .i64 a0, .slice A1 l1.length c1, .agg #[.int .i64 a2_0, .int .i64 a2_1, .slice A2_2 l2_2.length c2_2, .int .i64 a2_3, .int .i64 a2_4, .int .i64 a2_5, .int .i64 a2_6, .int .i64 a2_7, .string a2_8, .int .i64 a2_9, .slice A2_10 l2_10.length c2_10, .slice A2_11 l2_11.length c2_11], .string a3] w fun e w' => e = .returned (.bool r) ∧ Below w.heap.size w w' := by
 have hu31 := Tryz.underlying31
 have HR1 := mk_ hr1
 have HC1 := mk_ hc1
 clear hr1 hc1
 have HR2_2 := mk_ hr2_2
 have HC2_2 := mk_ hc2_2
 clear hr2_2 hc2_2
 have HR2_10 := mk_ hr2_10
 have HC2_10 := mk_ hc2_10
 clear hr2_10 hc2_10
 have HR2_11 := mk_ hr2_11
 have HC2_11 := mk_ hc2_11
 clear hr2_11 hc2_11
 have HB := mk_ (Below.refl w.heap.size w)
 have H : ((bP.f k l1).bind fun t558 => (if t558 = true then (aI.j0 k a0 l1 a3 true a2_0 a2_1 l2_2 a2_3 a2_4 a2_5 a2_6 a2_7 a2_8 a2_9 l2_10 l2_11) else ((eH.f a2_0 a2_1 l2_2 a2_3 a2_4 a2_5 a2_6 a2_7 a2_8 a2_9 l2_10 l2_11).bind fun t559 => (if t559 = true then (aI.j0 k a0 l1 a3 true a2_0 a2_1 l2_2 a2_3 a2_4 a2_5 a2_6 a2_7 a2_8 a2_9 l2_10 l2_11) else (aI.j0 k a0 l1 a3 (decide ((a3.size : Int) > 100)) a2_0 a2_1 l2_2 a2_3 a2_4 a2_5 a2_6 a2_7 a2_8 a2_9 l2_10 l2_11))))) = some r := h
 clear h
 have HC5 := mk_ H
 clear H
 go_enter Tryz.func3, Tryz.ntmps3
 go_upto_region 1 with (first | ((with_reducible refine aY (N := 6) rfl ?_); refine aZ ?hg (N := 6) ?hd (cs := #[.int .i64 a2_0, .int .i64 a2_1, .slice A2_2 l2_2.length c2_2, .int .i64 a2_3, .int .i64 a2_4, .int .i64 a2_5, .int .i64 a2_6, .int .i64 a2_7, .string a2_8, .int .i64 a2_9, .slice A2_10 l2_10.length c2_10, .slice A2_11 l2_11.length c2_11]) (t := 31) ?hr ?_; (case hd => rfl); (case hg => rfl); (case hr => first | (go_simp; done) | (go_simp; rfl)); intro gb557 hg w6 hbox hb; have n0_ := mk_ (aA (Short.hB HB) hb); have n1_ := mk_ (hbox); have n2_ := mk_ ((by rw [hg]; exact (aC (Short.hB HB)) : w.heap.size ≤ gb557)); have n3_ := mk_ ((by rw [hg]; exact (aC (Short.hB HB)) : w.heap.size ≤ gb557)); clear HB; revert n0_ n1_ n2_ n3_; intro HB BK557 GW557 GE557; clear hb hbox hg))
 (try simp only [Act.put, List.setIfInBounds_toArray, List.set_cons_zero, List.set_cons_succ])
 go_cut [27] (fun v27 wc => ∃ (kq : Nat) (x27_4 : Bool), v27 = .bool x27_4 ∧ Aside0 (aI.j0 kq a0 l1 a3 x27_4 a2_0 a2_1 l2_2 a2_3 a2_4 a2_5 a2_6 a2_7 a2_8 a2_9 l2_10 l2_11 = some r) ∧ Aside0 (kq ≤ k) ∧ Aside0 (wc.heap[gb557]? = some (.cells #[.int .i64 a2_0, .int .i64 a2_1, (.slice A2_2 l2_2.length c2_2), .int .i64 a2_3, .int .i64 a2_4, .int .i64 a2_5, .int .i64 a2_6, .int .i64 a2_7, .string a2_8, .int .i64 a2_9, (.slice A2_10 l2_10.length c2_10), (.slice A2_11 l2_11.length c2_11)] 31 (0, 0))) ∧ Aside0 (Below w.heap.size w wc))
 case first =>
  have H := HC5.out
  clear HC5
  obtain ⟨t558, A7, H⟩ := Option.bind_eq_some_iff.mp H
  replace A7 := mk_ A7
  by_cases c8 : t558 = true
  ·
   subst c8
   rw [if_pos rfl] at H
   have H' := mk_ H
   clear H
   go_wp2_with (first | ((with_reducible refine aJ (f := 4) rfl ?_); refine Short.gL (some 17) Tryz.func4 #[.slice A1 l1.length c1] (h := ?_); (with_reducible refine (bP.calls k _ _ l1 true _ ?side1 ?side2 A7.out).mono ?_); (case side1 => exact cX_ (aV HR1.out HB.out)); (case side2 => exact HC1.out); rintro e w' ⟨rfl, ⟨nd, rfl⟩⟩; refine ⟨_, rfl, ?_⟩))
   go_meet
   case rel => exact ⟨_, (true), z3_, H', ⟨by first | omega | exact Nat.le_refl _⟩, ⟨by (with_reducible repeat (first | refine aG ?_ _ | refine aH ?_ | refine aE ?_ _)); exact BK557.out⟩, ⟨Short.hB HB⟩⟩
  replace c8 := Bool.eq_false_iff.mpr c8
  subst c8
  rw [if_neg (show ¬ (false = true) by decide)] at H
  obtain ⟨t559, A9, H⟩ := Option.bind_eq_some_iff.mp H
  replace A9 := mk_ A9
  by_cases c10 : t559 = true
  ·
   subst c10
   rw [if_pos rfl] at H
   have H' := mk_ H
   clear H
   go_wp2_with (first | ((with_reducible refine aJ (f := 4) rfl ?_); refine Short.gL (some 17) Tryz.func4 #[.slice A1 l1.length c1] (h := ?_); (with_reducible refine (bP.calls k _ _ l1 false _ ?side1 ?side2 A7.out).mono ?_); (case side1 => exact cX_ (aV HR1.out HB.out)); (case side2 => exact HC1.out); rintro e w' ⟨rfl, ⟨nd, rfl⟩⟩; refine ⟨_, rfl, ?_⟩; have hcz11_0 : w6.cell? ⟨gb557, 0, none⟩ = some (.int .i64 a2_0) := kc_ BK557 0; have hcz11_1 : w6.cell? ⟨gb557, 1, none⟩ = some (.int .i64 a2_1) := kc_ BK557 1; have hcz11_2 : w6.cell? ⟨gb557, 2, none⟩ = some (.slice A2_2 l2_2.length c2_2) := kc_ BK557 2; have hcz11_3 : w6.cell? ⟨gb557, 3, none⟩ = some (.int .i64 a2_3) := kc_ BK557 3; have hcz11_4 : w6.cell? ⟨gb557, 4, none⟩ = some (.int .i64 a2_4) := kc_ BK557 4; have hcz11_5 : w6.cell? ⟨gb557, 5, none⟩ = some (.int .i64 a2_5) := kc_ BK557 5; have hcz11_6 : w6.cell? ⟨gb557, 6, none⟩ = some (.int .i64 a2_6) := kc_ BK557 6; have hcz11_7 : w6.cell? ⟨gb557, 7, none⟩ = some (.int .i64 a2_7) := kc_ BK557 7; have hcz11_8 : w6.cell? ⟨gb557, 8, none⟩ = some (.string a2_8) := kc_ BK557 8; have hcz11_9 : w6.cell? ⟨gb557, 9, none⟩ = some (.int .i64 a2_9) := kc_ BK557 9; have hcz11_10 : w6.cell? ⟨gb557, 10, none⟩ = some (.slice A2_10 l2_10.length c2_10) := kc_ BK557 10; have hcz11_11 : w6.cell? ⟨gb557, 11, none⟩ = some (.slice A2_11 l2_11.length c2_11) := kc_ BK557 11; have hfz11_0 := aQ BK557.out) | (go_at_call 5; (refine (eH.calls a2_0 a2_1 _ _ l2_2 a2_3 a2_4 a2_5 a2_6 a2_7 a2_8 a2_9 _ _ l2_10 _ _ l2_11 true _ ?side1 ?side2 ?side3 ?side4 ?side5 ?side6 A9.out).mono ?_); (case side1 => exact cX_ (aV HR2_2.out (Short.hB HB))); (case side2 => exact HC2_2.out); (case side3 => exact cX_ (aV HR2_10.out (Short.hB HB))); (case side4 => exact HC2_10.out); (case side5 => exact cX_ (aV HR2_11.out (Short.hB HB))); (case side6 => exact HC2_11.out); rintro e w12 ⟨rfl, hb⟩; have n0_ := mk_ (bB_ BK557 hb); have n1_ := mk_ (aA (Short.hB HB) hb); clear BK557 HB; revert n0_ n1_; intro BK557 HB; (try clear hb); (try clear hb2); (try clear hk); (try clear hi)))
   go_meet
   case rel => exact ⟨_, (true), z3_, H', ⟨by first | omega | exact Nat.le_refl _⟩, ⟨by (with_reducible repeat (first | refine aG ?_ _ | refine aH ?_ | refine aE ?_ _)); exact BK557.out⟩, ⟨Short.hB HB⟩⟩
  replace c10 := Bool.eq_false_iff.mpr c10
  subst c10
  rw [if_neg (show ¬ (false = true) by decide)] at H
  have H' := mk_ H
  clear H
  go_wp2_with (first | ((with_reducible refine aJ (f := 4) rfl ?_); refine Short.gL (some 17) Tryz.func4 #[.slice A1 l1.length c1] (h := ?_); (with_reducible refine (bP.calls k _ _ l1 false _ ?side1 ?side2 A7.out).mono ?_); (case side1 => exact cX_ (aV HR1.out HB.out)); (case side2 => exact HC1.out); rintro e w' ⟨rfl, ⟨nd, rfl⟩⟩; refine ⟨_, rfl, ?_⟩; have hcz13_0 : w6.cell? ⟨gb557, 0, none⟩ = some (.int .i64 a2_0) := kc_ BK557 0; have hcz13_1 : w6.cell? ⟨gb557, 1, none⟩ = some (.int .i64 a2_1) := kc_ BK557 1; have hcz13_2 : w6.cell? ⟨gb557, 2, none⟩ = some (.slice A2_2 l2_2.length c2_2) := kc_ BK557 2; have hcz13_3 : w6.cell? ⟨gb557, 3, none⟩ = some (.int .i64 a2_3) := kc_ BK557 3; have hcz13_4 : w6.cell? ⟨gb557, 4, none⟩ = some (.int .i64 a2_4) := kc_ BK557 4; have hcz13_5 : w6.cell? ⟨gb557, 5, none⟩ = some (.int .i64 a2_5) := kc_ BK557 5; have hcz13_6 : w6.cell? ⟨gb557, 6, none⟩ = some (.int .i64 a2_6) := kc_ BK557 6; have hcz13_7 : w6.cell? ⟨gb557, 7, none⟩ = some (.int .i64 a2_7) := kc_ BK557 7; have hcz13_8 : w6.cell? ⟨gb557, 8, none⟩ = some (.string a2_8) := kc_ BK557 8; have hcz13_9 : w6.cell? ⟨gb557, 9, none⟩ = some (.int .i64 a2_9) := kc_ BK557 9; have hcz13_10 : w6.cell? ⟨gb557, 10, none⟩ = some (.slice A2_10 l2_10.length c2_10) := kc_ BK557 10; have hcz13_11 : w6.cell? ⟨gb557, 11, none⟩ = some (.slice A2_11 l2_11.length c2_11) := kc_ BK557 11; have hfz13_0 := aQ BK557.out) | (go_at_call 5; (refine (eH.calls a2_0 a2_1 _ _ l2_2 a2_3 a2_4 a2_5 a2_6 a2_7 a2_8 a2_9 _ _ l2_10 _ _ l2_11 false _ ?side1 ?side2 ?side3 ?side4 ?side5 ?side6 A9.out).mono ?_); (case side1 => exact cX_ (aV HR2_2.out (Short.hB HB))); (case side2 => exact HC2_2.out); (case side3 => exact cX_ (aV HR2_10.out (Short.hB HB))); (case side4 => exact HC2_10.out); (case side5 => exact cX_ (aV HR2_11.out (Short.hB HB))); (case side6 => exact HC2_11.out); rintro e w14 ⟨rfl, hb⟩; have n0_ := mk_ (bB_ BK557 hb); have n1_ := mk_ (aA (Short.hB HB) hb); clear BK557 HB; revert n0_ n1_; intro BK557 HB; (try clear hb); (try clear hb2); (try clear hk); (try clear hi)))
  go_meet
  case rel => exact ⟨_, (decide ((a3.size : Int) > 100)), z3_, H', ⟨by first | omega | exact Nat.le_refl _⟩, ⟨by (with_reducible repeat (first | refine aG ?_ _ | refine aH ?_ | refine aE ?_ _)); exact BK557.out⟩, ⟨Short.hB HB⟩⟩
 case rest =>
  clear HC5
  try clear c1
  try clear c2
  try clear p2
  try clear c3
  try clear c4
  try clear c8
  try clear c10
  try clear hcz11_0
  try clear hcz11_1
  try clear hcz11_10
  try clear hcz11_11
  try clear hcz11_2
  try clear hcz11_3
  try clear hcz11_4
  try clear hcz11_5
  try clear hcz11_6
  try clear hcz11_7
  try clear hcz11_8
  try clear hcz11_9
  try clear hcz13_0
  try clear hcz13_1
  try clear hcz13_10
  try clear hcz13_11
  try clear hcz13_2
  try clear hcz13_3
  try clear hcz13_4
  try clear hcz13_5
  try clear hcz13_6
  try clear hcz13_7
  try clear hcz13_8
  try clear hcz13_9
  try clear hfz11_0
  try clear hfz13_0
  obtain ⟨kq, x27_4, rfl, HA, HJ4, BK557, HB⟩ := hcut
  cases kq with
  | zero => exact absurd HA.out (by simp [aI.j0])
  | succ kj4 =>
   have H := HA.out
   clear HA
   simp only [aI.j0] at H
   by_cases c15 : x27_4 = true
   ·
    subst c15
    rw [if_pos rfl] at H
    obtain rfl := Option.some.inj H
    go_wp2
    go_ret
    exact ⟨q0, Short.hB HB⟩
   replace c15 := Bool.eq_false_iff.mpr c15
   subst c15
   rw [if_neg (show ¬ (false = true) by decide)] at H
   obtain ⟨⟨t560, t561, t562, t565, t566, t567, t568, t569, t570, t571, t572, t575⟩, A16, H⟩ := Option.bind_eq_some_iff.mp H
   try dsimp only at H
   replace A16 := mk_ A16
   obtain ⟨t578, A17, H⟩ := Option.bind_eq_some_iff.mp H
   replace A17 := mk_ A17
   obtain ⟨⟨t582, t585⟩, A18, H⟩ := Option.bind_eq_some_iff.mp H
   try dsimp only at H
   replace A18 := mk_ A18
   have HC19 := mk_ H
   clear H
   have hcz_0 := aD BK557.out
   have hfz_0 := aQ BK557.out
   go_upto_region 5 with (first | ((with_reducible refine aJ (f := 6) rfl ?_); refine Short.gL (some 29) Tryz.func6 #[.agg #[.int .i64 a2_0, .int .i64 a2_1, .slice A2_2 l2_2.length c2_2, .int .i64 a2_3, .int .i64 a2_4, .int .i64 a2_5, .int .i64 a2_6, .int .i64 a2_7, .string a2_8, .int .i64 a2_9, .slice A2_10 l2_10.length c2_10, .slice A2_11 l2_11.length c2_11]] (h := ?_); (with_reducible refine (cT.calls a2_0 a2_1 _ _ l2_2 a2_3 a2_4 a2_5 a2_6 a2_7 a2_8 a2_9 _ _ l2_10 _ _ l2_11 t560 t561 t562 t565 t566 t567 t568 t569 t570 t571 t572 t575 _ ?side1 ?side2 ?side3 ?side4 ?side5 ?side6 A16.out).mono ?_); (case side1 => exact cX_ (aV HR2_2.out HB.out)); (case side2 => exact HC2_2.out); (case side3 => exact cX_ (aV HR2_10.out HB.out)); (case side4 => exact HC2_10.out); (case side5 => exact cX_ (aV HR2_11.out HB.out)); (case side6 => exact HC2_11.out); rintro e w21 ⟨v563, v573, v576, rfl, ho0, ho1, ho2, hb⟩; refine ⟨_, rfl, ?_⟩; have n0_ := mk_ (bX ho0 (aC (Short.hB HB))); have n1_ := mk_ (bX ho1 (aC (Short.hB HB))); have n2_ := mk_ (bX ho2 (aC (Short.hB HB))); have n3_ := mk_ (bB_ BK557 hb); have n4_ := mk_ (aA (Short.hB HB) hb); clear BK557 HB; revert n0_ n1_ n2_ n3_ n4_; intro HO564 HO574 HO577 BK557 HB; (try clear hb ho0); (try clear ho1); (try clear ho2)) | ((with_reducible refine aJ (f := 7) rfl ?_); refine Short.gL (some 31) Tryz.func7 #[.slice A1 l1.length c1] (h := ?_); (with_reducible refine (bZ.calls kj4 _ _ l1 t578 _ ?side1 ?side2 A17.out).mono ?_); (case side1 => exact cX_ (aV HR1.out HB.out)); (case side2 => exact HC1.out); rintro e w22 ⟨v579, rfl, ho0, hb⟩; refine ⟨_, rfl, ?_⟩; have n0_ := mk_ (bY (ZKR HO564) hb); have n1_ := mk_ (bY (ZKR HO574) hb); have n2_ := mk_ (bY (ZKR HO577) hb); have n3_ := mk_ (S_lower (S_new' ho0 (R_lt (ZKR HO564))) (aC (Short.hB HB))); have n4_ := mk_ (bB_ BK557 hb); have n5_ := mk_ (aA (Short.hB HB) hb); clear HO564 HO574 HO577 BK557 HB; revert n0_ n1_ n2_ n3_ n4_ n5_; intro HO564 HO574 HO577 HO580 BK557 HB; (try clear hb ho0)) | ((with_reducible refine aY (N := 9) rfl ?_); refine aZ ?hg (N := 9) ?hd (cs := #[.int .i64 0, .int .i64 0, .slice none 0 0, .int .i64 0, .int .i64 0, .int .i64 0, .int .i64 0, .int .i64 0, .string (⟨#[]⟩ : ByteArray), .int .i64 0, .slice none 0 0, .slice none 0 0]) (t := 31) ?hr ?_; (case hd => rfl); (case hg => rfl); (case hr => first | (go_simp; done) | (go_simp; rfl)); intro gb581 hg w23 hbox hb; have n0_ := mk_ (bY (ZKR HO564) hb); have n1_ := mk_ (bY (ZKR HO574) hb); have n2_ := mk_ (bY (ZKR HO577) hb); have n3_ := mk_ (hI (by (with_reducible repeat (first | apply gU | apply gT | apply iC)); exact HO580.out) hb); have n4_ := mk_ (bB_ BK557 hb); have n5_ := mk_ (aA (Short.hB HB) hb); have n6_ := mk_ (hbox); have n7_ := mk_ ((by rw [hg]; exact (aC (Short.hB HB)) : w.heap.size ≤ gb581)); have n8_ := mk_ ((by rw [hg]; exact (aC (Short.hB HB)) : w.heap.size ≤ gb581)); have n9_ := mk_ ((by rw [hg]; exact Nat.ne_of_lt (eV (Short.bK BK557)) : gb557 ≠ gb581)); have n10_ := mk_ ((by rw [hg]; exact Nat.ne_of_gt (eV (Short.bK BK557)) : gb581 ≠ gb557)); clear HO564 HO574 HO577 HO580 BK557 HB; revert n0_ n1_ n2_ n3_ n4_ n5_ n6_ n7_ n8_ n9_ n10_; intro HO564 HO574 HO577 HO580 BK557 HB BK581 GW581 GE581 NB557_581 NB581_557; clear hb hbox hg; have hnb24 := NB581_557.out; have hnc24 := NB557_581.out; have hcz25_0 : w23.cell? ⟨gb581, 0, none⟩ = some (.int .i64 0) := kc_ BK581 0; have hcz25_1 : w23.cell? ⟨gb581, 1, none⟩ = some (.int .i64 0) := kc_ BK581 1; have hcz25_2 : w23.cell? ⟨gb581, 2, none⟩ = some (.slice none 0 0) := kc_ BK581 2; have hcz25_3 : w23.cell? ⟨gb581, 3, none⟩ = some (.int .i64 0) := kc_ BK581 3; have hcz25_4 : w23.cell? ⟨gb581, 4, none⟩ = some (.int .i64 0) := kc_ BK581 4; have hcz25_5 : w23.cell? ⟨gb581, 5, none⟩ = some (.int .i64 0) := kc_ BK581 5; have hcz25_6 : w23.cell? ⟨gb581, 6, none⟩ = some (.int .i64 0) := kc_ BK581 6; have hcz25_7 : w23.cell? ⟨gb581, 7, none⟩ = some (.int .i64 0) := kc_ BK581 7; have hcz25_8 : w23.cell? ⟨gb581, 8, none⟩ = some (.string (⟨#[]⟩ : ByteArray)) := kc_ BK581 8; have hcz25_9 : w23.cell? ⟨gb581, 9, none⟩ = some (.int .i64 0) := kc_ BK581 9; have hcz25_10 : w23.cell? ⟨gb581, 10, none⟩ = some (.slice none 0 0) := kc_ BK581 10; have hcz25_11 : w23.cell? ⟨gb581, 11, none⟩ = some (.slice none 0 0) := kc_ BK581 11; have hfz25_0 := aQ BK581.out; obtain ⟨Ao26, co26, eo26⟩ := cX HO564.out; subst eo26; obtain ⟨Ao27, co27, eo27⟩ := cX HO574.out; subst eo27; obtain ⟨Ao28, co28, eo28⟩ := cX HO577.out; subst eo28) | ((with_reducible refine aJ (f := 8) rfl ?_); refine Short.gL (some 34) Tryz.func8 #[.agg #[.int .i64 t560, .int .i64 t561, .slice Ao26 t562.length co26, .int .i64 t565, .int .i64 t566, .int .i64 t567, .int .i64 t568, .int .i64 t569, .string t570, .int .i64 t571, .slice Ao27 t572.length co27, .slice Ao28 t575.length co28]] (h := ?_); (with_reducible refine (iG.calls t560 t561 _ _ t562 t565 t566 t567 t568 t569 t570 t571 _ _ t572 _ _ t575 t582 t585 _ ?side1 ?side2 ?side3 ?side4 ?side5 ?side6 A18.out).mono ?_); (case side1 => refine (R_reads' (e := 3) (base := w.heap.size) (ok := fun k_ => True) (n := t562.length) (c := co26) ?_).2.2; exact (by (with_reducible repeat (first | apply R_alloc | apply R_drewN | apply R_drew)); exact (R_mono (R_far (p := ⟨gb581, 11, none⟩) (R_far (p := ⟨gb581, 10, none⟩) (R_far (p := ⟨gb581, 9, none⟩) (R_far (p := ⟨gb581, 8, none⟩) (R_far (p := ⟨gb581, 7, none⟩) (R_far (p := ⟨gb581, 6, none⟩) (R_far (p := ⟨gb581, 5, none⟩) (R_far (p := ⟨gb581, 4, none⟩) (R_far (p := ⟨gb581, 3, none⟩) (R_far (p := ⟨gb581, 2, none⟩) (R_far (p := ⟨gb581, 1, none⟩) (R_far (p := ⟨gb581, 0, none⟩) (eP HO564.out BK581.out z5_) (fun _ hk => hk.2) (.int .i64 t560)) (fun _ hk => hk.2) (.int .i64 t561)) (fun _ hk => hk.2) (.slice Ao26 t562.length co26)) (fun _ hk => hk.2) (.int .i64 t565)) (fun _ hk => hk.2) (.int .i64 t566)) (fun _ hk => hk.2) (.int .i64 t567)) (fun _ hk => hk.2) (.int .i64 t568)) (fun _ hk => hk.2) (.int .i64 t569)) (fun _ hk => hk.2) (.string t570)) (fun _ hk => hk.2) (.int .i64 t571)) (fun _ hk => hk.2) (.slice Ao27 t572.length co27)) (fun _ hk => hk.2) (.slice Ao28 t575.length co28)) (fun _ h_ => h_.1)))); (case side2 => exact (R_reads' HO564.out).2.1); (case side3 => refine (R_reads' (e := 102) (base := w.heap.size) (ok := fun k_ => True) (n := t572.length) (c := co27) ?_).2.2; exact (by (with_reducible repeat (first | apply R_alloc | apply R_drewN | apply R_drew)); exact (R_mono (R_far (p := ⟨gb581, 11, none⟩) (R_far (p := ⟨gb581, 10, none⟩) (R_far (p := ⟨gb581, 9, none⟩) (R_far (p := ⟨gb581, 8, none⟩) (R_far (p := ⟨gb581, 7, none⟩) (R_far (p := ⟨gb581, 6, none⟩) (R_far (p := ⟨gb581, 5, none⟩) (R_far (p := ⟨gb581, 4, none⟩) (R_far (p := ⟨gb581, 3, none⟩) (R_far (p := ⟨gb581, 2, none⟩) (R_far (p := ⟨gb581, 1, none⟩) (R_far (p := ⟨gb581, 0, none⟩) (eP HO574.out BK581.out z5_) (fun _ hk => hk.2) (.int .i64 t560)) (fun _ hk => hk.2) (.int .i64 t561)) (fun _ hk => hk.2) (.slice Ao26 t562.length co26)) (fun _ hk => hk.2) (.int .i64 t565)) (fun _ hk => hk.2) (.int .i64 t566)) (fun _ hk => hk.2) (.int .i64 t567)) (fun _ hk => hk.2) (.int .i64 t568)) (fun _ hk => hk.2) (.int .i64 t569)) (fun _ hk => hk.2) (.string t570)) (fun _ hk => hk.2) (.int .i64 t571)) (fun _ hk => hk.2) (.slice Ao27 t572.length co27)) (fun _ hk => hk.2) (.slice Ao28 t575.length co28)) (fun _ h_ => h_.1)))); (case side4 => exact (R_reads' HO574.out).2.1); (case side5 => refine (R_reads' (e := 24) (base := w.heap.size) (ok := fun k_ => True) (n := t575.length) (c := co28) ?_).2.2; exact (by (with_reducible repeat (first | apply R_alloc | apply R_drewN | apply R_drew)); exact (R_mono (R_far (p := ⟨gb581, 11, none⟩) (R_far (p := ⟨gb581, 10, none⟩) (R_far (p := ⟨gb581, 9, none⟩) (R_far (p := ⟨gb581, 8, none⟩) (R_far (p := ⟨gb581, 7, none⟩) (R_far (p := ⟨gb581, 6, none⟩) (R_far (p := ⟨gb581, 5, none⟩) (R_far (p := ⟨gb581, 4, none⟩) (R_far (p := ⟨gb581, 3, none⟩) (R_far (p := ⟨gb581, 2, none⟩) (R_far (p := ⟨gb581, 1, none⟩) (R_far (p := ⟨gb581, 0, none⟩) (eP HO577.out BK581.out z5_) (fun _ hk => hk.2) (.int .i64 t560)) (fun _ hk => hk.2) (.int .i64 t561)) (fun _ hk => hk.2) (.slice Ao26 t562.length co26)) (fun _ hk => hk.2) (.int .i64 t565)) (fun _ hk => hk.2) (.int .i64 t566)) (fun _ hk => hk.2) (.int .i64 t567)) (fun _ hk => hk.2) (.int .i64 t568)) (fun _ hk => hk.2) (.int .i64 t569)) (fun _ hk => hk.2) (.string t570)) (fun _ hk => hk.2) (.int .i64 t571)) (fun _ hk => hk.2) (.slice Ao27 t572.length co27)) (fun _ hk => hk.2) (.slice Ao28 t575.length co28)) (fun _ h_ => h_.1)))); (case side6 => exact (R_reads' HO577.out).2.1); rintro e w29 ⟨v583, rfl, ho0, hb⟩; refine ⟨_, rfl, ?_⟩; have n0_ := mk_ (bY (by (with_reducible repeat (first | apply R_alloc | apply R_drewN | apply R_drew)); exact (R_mono (R_far (p := ⟨gb581, 11, none⟩) (R_far (p := ⟨gb581, 10, none⟩) (R_far (p := ⟨gb581, 9, none⟩) (R_far (p := ⟨gb581, 8, none⟩) (R_far (p := ⟨gb581, 7, none⟩) (R_far (p := ⟨gb581, 6, none⟩) (R_far (p := ⟨gb581, 5, none⟩) (R_far (p := ⟨gb581, 4, none⟩) (R_far (p := ⟨gb581, 3, none⟩) (R_far (p := ⟨gb581, 2, none⟩) (R_far (p := ⟨gb581, 1, none⟩) (R_far (p := ⟨gb581, 0, none⟩) (eP HO564.out BK581.out z5_) (fun _ hk => hk.2) (.int .i64 t560)) (fun _ hk => hk.2) (.int .i64 t561)) (fun _ hk => hk.2) (.slice Ao26 t562.length co26)) (fun _ hk => hk.2) (.int .i64 t565)) (fun _ hk => hk.2) (.int .i64 t566)) (fun _ hk => hk.2) (.int .i64 t567)) (fun _ hk => hk.2) (.int .i64 t568)) (fun _ hk => hk.2) (.int .i64 t569)) (fun _ hk => hk.2) (.string t570)) (fun _ hk => hk.2) (.int .i64 t571)) (fun _ hk => hk.2) (.slice Ao27 t572.length co27)) (fun _ hk => hk.2) (.slice Ao28 t575.length co28)) (fun _ h_ => h_.1))) hb); have n1_ := mk_ (bY (by (with_reducible repeat (first | apply R_alloc | apply R_drewN | apply R_drew)); exact (R_mono (R_far (p := ⟨gb581, 11, none⟩) (R_far (p := ⟨gb581, 10, none⟩) (R_far (p := ⟨gb581, 9, none⟩) (R_far (p := ⟨gb581, 8, none⟩) (R_far (p := ⟨gb581, 7, none⟩) (R_far (p := ⟨gb581, 6, none⟩) (R_far (p := ⟨gb581, 5, none⟩) (R_far (p := ⟨gb581, 4, none⟩) (R_far (p := ⟨gb581, 3, none⟩) (R_far (p := ⟨gb581, 2, none⟩) (R_far (p := ⟨gb581, 1, none⟩) (R_far (p := ⟨gb581, 0, none⟩) (eP HO574.out BK581.out z5_) (fun _ hk => hk.2) (.int .i64 t560)) (fun _ hk => hk.2) (.int .i64 t561)) (fun _ hk => hk.2) (.slice Ao26 t562.length co26)) (fun _ hk => hk.2) (.int .i64 t565)) (fun _ hk => hk.2) (.int .i64 t566)) (fun _ hk => hk.2) (.int .i64 t567)) (fun _ hk => hk.2) (.int .i64 t568)) (fun _ hk => hk.2) (.int .i64 t569)) (fun _ hk => hk.2) (.string t570)) (fun _ hk => hk.2) (.int .i64 t571)) (fun _ hk => hk.2) (.slice Ao27 t572.length co27)) (fun _ hk => hk.2) (.slice Ao28 t575.length co28)) (fun _ h_ => h_.1))) hb); have n2_ := mk_ (bY (by (with_reducible repeat (first | apply R_alloc | apply R_drewN | apply R_drew)); exact (R_mono (R_far (p := ⟨gb581, 11, none⟩) (R_far (p := ⟨gb581, 10, none⟩) (R_far (p := ⟨gb581, 9, none⟩) (R_far (p := ⟨gb581, 8, none⟩) (R_far (p := ⟨gb581, 7, none⟩) (R_far (p := ⟨gb581, 6, none⟩) (R_far (p := ⟨gb581, 5, none⟩) (R_far (p := ⟨gb581, 4, none⟩) (R_far (p := ⟨gb581, 3, none⟩) (R_far (p := ⟨gb581, 2, none⟩) (R_far (p := ⟨gb581, 1, none⟩) (R_far (p := ⟨gb581, 0, none⟩) (eP HO577.out BK581.out z5_) (fun _ hk => hk.2) (.int .i64 t560)) (fun _ hk => hk.2) (.int .i64 t561)) (fun _ hk => hk.2) (.slice Ao26 t562.length co26)) (fun _ hk => hk.2) (.int .i64 t565)) (fun _ hk => hk.2) (.int .i64 t566)) (fun _ hk => hk.2) (.int .i64 t567)) (fun _ hk => hk.2) (.int .i64 t568)) (fun _ hk => hk.2) (.int .i64 t569)) (fun _ hk => hk.2) (.string t570)) (fun _ hk => hk.2) (.int .i64 t571)) (fun _ hk => hk.2) (.slice Ao27 t572.length co27)) (fun _ hk => hk.2) (.slice Ao28 t575.length co28)) (fun _ h_ => h_.1))) hb); have n3_ := mk_ (hI (by (with_reducible repeat (first | apply gU | apply gT | apply iC)); exact (S_mono (S_far (p := ⟨gb581, 11, none⟩) (S_far (p := ⟨gb581, 10, none⟩) (S_far (p := ⟨gb581, 9, none⟩) (S_far (p := ⟨gb581, 8, none⟩) (S_far (p := ⟨gb581, 7, none⟩) (S_far (p := ⟨gb581, 6, none⟩) (S_far (p := ⟨gb581, 5, none⟩) (S_far (p := ⟨gb581, 4, none⟩) (S_far (p := ⟨gb581, 3, none⟩) (S_far (p := ⟨gb581, 2, none⟩) (S_far (p := ⟨gb581, 1, none⟩) (S_far (p := ⟨gb581, 0, none⟩) (S_types HO580.out BK581.out z5_) (fun _ hk => hk.2) (.int .i64 t560)) (fun _ hk => hk.2) (.int .i64 t561)) (fun _ hk => hk.2) (.slice Ao26 t562.length co26)) (fun _ hk => hk.2) (.int .i64 t565)) (fun _ hk => hk.2) (.int .i64 t566)) (fun _ hk => hk.2) (.int .i64 t567)) (fun _ hk => hk.2) (.int .i64 t568)) (fun _ hk => hk.2) (.int .i64 t569)) (fun _ hk => hk.2) (.string t570)) (fun _ hk => hk.2) (.int .i64 t571)) (fun _ hk => hk.2) (.slice Ao27 t572.length co27)) (fun _ hk => hk.2) (.slice Ao28 t575.length co28)) (fun _ h_ => h_.1))) hb); have n4_ := mk_ (bX ho0 (aC (Short.hB HB))); have n5_ := mk_ (bQ (g := gb557) (o := .cells #[.int .i64 a2_0, .int .i64 a2_1, .slice A2_2 l2_2.length c2_2, .int .i64 a2_3, .int .i64 a2_4, .int .i64 a2_5, .int .i64 a2_6, .int .i64 a2_7, .string a2_8, .int .i64 a2_9, .slice A2_10 l2_10.length c2_10, .slice A2_11 l2_11.length c2_11] 31 (0, 0)) (by (with_reducible repeat (first | refine aG ?_ _ | refine aH ?_ | refine aE ?_ _)); refine dB ?_ NB557_581.out _; (with_reducible repeat (first | refine aG ?_ _ | refine aH ?_ | refine aE ?_ _)); refine dB ?_ NB557_581.out _; (with_reducible repeat (first | refine aG ?_ _ | refine aH ?_ | refine aE ?_ _)); refine dB ?_ NB557_581.out _; (with_reducible repeat (first | refine aG ?_ _ | refine aH ?_ | refine aE ?_ _)); refine dB ?_ NB557_581.out _; (with_reducible repeat (first | refine aG ?_ _ | refine aH ?_ | refine aE ?_ _)); refine dB ?_ NB557_581.out _; (with_reducible repeat (first | refine aG ?_ _ | refine aH ?_ | refine aE ?_ _)); refine dB ?_ NB557_581.out _; (with_reducible repeat (first | refine aG ?_ _ | refine aH ?_ | refine aE ?_ _)); refine dB ?_ NB557_581.out _; (with_reducible repeat (first | refine aG ?_ _ | refine aH ?_ | refine aE ?_ _)); refine dB ?_ NB557_581.out _; (with_reducible repeat (first | refine aG ?_ _ | refine aH ?_ | refine aE ?_ _)); refine dB ?_ NB557_581.out _; (with_reducible repeat (first | refine aG ?_ _ | refine aH ?_ | refine aE ?_ _)); refine dB ?_ NB557_581.out _; (with_reducible repeat (first | refine aG ?_ _ | refine aH ?_ | refine aE ?_ _)); refine dB ?_ NB557_581.out _; (with_reducible repeat (first | refine aG ?_ _ | refine aH ?_ | refine aE ?_ _)); refine dB ?_ NB557_581.out _; (with_reducible repeat (first | refine aG ?_ _ | refine aH ?_ | refine aE ?_ _)); exact BK557.out) hb); have n6_ := mk_ (bQ (g := gb581) (o := .cells #[.int .i64 t560, .int .i64 t561, .slice Ao26 t562.length co26, .int .i64 t565, .int .i64 t566, .int .i64 t567, .int .i64 t568, .int .i64 t569, .string t570, .int .i64 t571, .slice Ao27 t572.length co27, .slice Ao28 t575.length co28] 31 (0, 0)) (by (with_reducible repeat (first | refine aG ?_ _ | refine aH ?_ | refine aE ?_ _)); refine bD (cs := #[.int .i64 t560, .int .i64 t561, .slice Ao26 t562.length co26, .int .i64 t565, .int .i64 t566, .int .i64 t567, .int .i64 t568, .int .i64 t569, .string t570, .int .i64 t571, .slice Ao27 t572.length co27, .slice none 0 0]) ?_ 11 _ rfl; (with_reducible repeat (first | refine aG ?_ _ | refine aH ?_ | refine aE ?_ _)); refine bD (cs := #[.int .i64 t560, .int .i64 t561, .slice Ao26 t562.length co26, .int .i64 t565, .int .i64 t566, .int .i64 t567, .int .i64 t568, .int .i64 t569, .string t570, .int .i64 t571, .slice none 0 0, .slice none 0 0]) ?_ 10 _ rfl; (with_reducible repeat (first | refine aG ?_ _ | refine aH ?_ | refine aE ?_ _)); refine bD (cs := #[.int .i64 t560, .int .i64 t561, .slice Ao26 t562.length co26, .int .i64 t565, .int .i64 t566, .int .i64 t567, .int .i64 t568, .int .i64 t569, .string t570, .int .i64 0, .slice none 0 0, .slice none 0 0]) ?_ 9 _ rfl; (with_reducible repeat (first | refine aG ?_ _ | refine aH ?_ | refine aE ?_ _)); refine bD (cs := #[.int .i64 t560, .int .i64 t561, .slice Ao26 t562.length co26, .int .i64 t565, .int .i64 t566, .int .i64 t567, .int .i64 t568, .int .i64 t569, .string (⟨#[]⟩ : ByteArray), .int .i64 0, .slice none 0 0, .slice none 0 0]) ?_ 8 _ rfl; (with_reducible repeat (first | refine aG ?_ _ | refine aH ?_ | refine aE ?_ _)); refine bD (cs := #[.int .i64 t560, .int .i64 t561, .slice Ao26 t562.length co26, .int .i64 t565, .int .i64 t566, .int .i64 t567, .int .i64 t568, .int .i64 0, .string (⟨#[]⟩ : ByteArray), .int .i64 0, .slice none 0 0, .slice none 0 0]) ?_ 7 _ rfl; (with_reducible repeat (first | refine aG ?_ _ | refine aH ?_ | refine aE ?_ _)); refine bD (cs := #[.int .i64 t560, .int .i64 t561, .slice Ao26 t562.length co26, .int .i64 t565, .int .i64 t566, .int .i64 t567, .int .i64 0, .int .i64 0, .string (⟨#[]⟩ : ByteArray), .int .i64 0, .slice none 0 0, .slice none 0 0]) ?_ 6 _ rfl; (with_reducible repeat (first | refine aG ?_ _ | refine aH ?_ | refine aE ?_ _)); refine bD (cs := #[.int .i64 t560, .int .i64 t561, .slice Ao26 t562.length co26, .int .i64 t565, .int .i64 t566, .int .i64 0, .int .i64 0, .int .i64 0, .string (⟨#[]⟩ : ByteArray), .int .i64 0, .slice none 0 0, .slice none 0 0]) ?_ 5 _ rfl; (with_reducible repeat (first | refine aG ?_ _ | refine aH ?_ | refine aE ?_ _)); refine bD (cs := #[.int .i64 t560, .int .i64 t561, .slice Ao26 t562.length co26, .int .i64 t565, .int .i64 0, .int .i64 0, .int .i64 0, .int .i64 0, .string (⟨#[]⟩ : ByteArray), .int .i64 0, .slice none 0 0, .slice none 0 0]) ?_ 4 _ rfl; (with_reducible repeat (first | refine aG ?_ _ | refine aH ?_ | refine aE ?_ _)); refine bD (cs := #[.int .i64 t560, .int .i64 t561, .slice Ao26 t562.length co26, .int .i64 0, .int .i64 0, .int .i64 0, .int .i64 0, .int .i64 0, .string (⟨#[]⟩ : ByteArray), .int .i64 0, .slice none 0 0, .slice none 0 0]) ?_ 3 _ rfl; (with_reducible repeat (first | refine aG ?_ _ | refine aH ?_ | refine aE ?_ _)); refine bD (cs := #[.int .i64 t560, .int .i64 t561, .slice none 0 0, .int .i64 0, .int .i64 0, .int .i64 0, .int .i64 0, .int .i64 0, .string (⟨#[]⟩ : ByteArray), .int .i64 0, .slice none 0 0, .slice none 0 0]) ?_ 2 _ rfl; (with_reducible repeat (first | refine aG ?_ _ | refine aH ?_ | refine aE ?_ _)); refine bD (cs := #[.int .i64 t560, .int .i64 0, .slice none 0 0, .int .i64 0, .int .i64 0, .int .i64 0, .int .i64 0, .int .i64 0, .string (⟨#[]⟩ : ByteArray), .int .i64 0, .slice none 0 0, .slice none 0 0]) ?_ 1 _ rfl; (with_reducible repeat (first | refine aG ?_ _ | refine aH ?_ | refine aE ?_ _)); refine bD (cs := #[.int .i64 0, .int .i64 0, .slice none 0 0, .int .i64 0, .int .i64 0, .int .i64 0, .int .i64 0, .int .i64 0, .string (⟨#[]⟩ : ByteArray), .int .i64 0, .slice none 0 0, .slice none 0 0]) ?_ 0 _ rfl; (with_reducible repeat (first | refine aG ?_ _ | refine aH ?_ | refine aE ?_ _)); exact BK581.out) hb); have n7_ := mk_ (aA (Short.hB HB) hb); clear HO564 HO574 HO577 HO580 BK557 BK581 HB; revert n0_ n1_ n2_ n3_ n4_ n5_ n6_ n7_; intro HO564 HO574 HO577 HO580 HO584 BK557 BK581 HB; (try clear hb ho0)))
   (try simp only [Act.put, List.setIfInBounds_toArray, List.set_cons_zero, List.set_cons_succ])
   go_cut [71] (fun v71 wc => ∃ (kq : Nat) (x71_18 : Bool), v71 = .bool x71_18 ∧ Aside0 (aI.j1 kq t582 t585 x71_18 a2_0 a2_1 l2_2 a2_3 a2_4 a2_5 a2_6 a2_7 a2_8 a2_9 l2_10 l2_11 = some r) ∧ Aside0 (kq ≤ kj4) ∧ Aside0 (Kd.R (Kd.int .u8) 5 wc w.heap.size (fun _ => True) v583 t582) ∧ Aside0 (Kd.R (Kd.int .i64) 3 wc w.heap.size (fun _ => True) (.slice Ao26 t562.length co26) t562) ∧ Aside0 (Kd.R k102 102 wc w.heap.size (fun _ => True) (.slice Ao27 t572.length co27) t572) ∧ Aside0 (Kd.R k24 24 wc w.heap.size (fun _ => True) (.slice Ao28 t575.length co28) t575) ∧ Aside0 (wc.heap[gb557]? = some (.cells #[.int .i64 a2_0, .int .i64 a2_1, (.slice A2_2 l2_2.length c2_2), .int .i64 a2_3, .int .i64 a2_4, .int .i64 a2_5, .int .i64 a2_6, .int .i64 a2_7, .string a2_8, .int .i64 a2_9, (.slice A2_10 l2_10.length c2_10), (.slice A2_11 l2_11.length c2_11)] 31 (0, 0))) ∧ Aside0 (wc.heap[gb581]? = some (.cells #[.int .i64 t560, .int .i64 t561, (.slice Ao26 t562.length co26), .int .i64 t565, .int .i64 t566, .int .i64 t567, .int .i64 t568, .int .i64 t569, .string t570, .int .i64 t571, (.slice Ao27 t572.length co27), (.slice Ao28 t575.length co28)] 31 (0, 0))) ∧ Aside0 (Below w.heap.size w wc))
   case first =>
    have H := HC19.out
    clear HC19
    obtain ⟨t586, A30, H⟩ := Option.bind_eq_some_iff.mp H
    replace A30 := mk_ A30
    obtain ⟨t587, A31, H⟩ := Option.bind_eq_some_iff.mp H
    replace A31 := mk_ A31
    by_cases c32 : t586 = t587
    rotate_left
    ·
     rw [if_neg c32] at H
     have c32b0 : (t586 == t587) = false := beq_eq_false_iff_ne.mpr c32
     have c32b1 : (t586 != t587) = true := bne_iff_ne.mpr c32
     (first | rw [c32b0] | (simp only [i64_w, i32_w]; rw [c32b0]) | skip)
     exact absurd H (by rw [hrt]; cases kj4 <;> simp [aI.j1])
    rw [if_pos c32] at H
    have c32b0 : (t586 == t587) = true := beq_iff_eq.mpr c32
    have c32b1 : (t586 != t587) = false := bne_eq_false_iff_eq.mpr c32
    clear c32
    (first | rw [c32b0] | (simp only [i64_w, i32_w]; rw [c32b0]) | skip)
    obtain ⟨t588, A33, H⟩ := Option.bind_eq_some_iff.mp H
    replace A33 := mk_ A33
    obtain ⟨t589, A34, H⟩ := Option.bind_eq_some_iff.mp H
    replace A34 := mk_ A34
    by_cases c35 : (t588 != t589) = true
    ·
     rw [if_pos c35] at H
     have c35b0 : (t588 != t589) = true := c35
     (try (have c35b1 : decide (t588 = t589) = false := by simpa using c35))
     (try (have c35b2 : (t588 == t589) = false := by simpa using c35))
     (try (have c35b3 : ¬ (t588 = t589) := by simpa using c35))
     clear c35
     exact absurd H (by rw [hrt]; cases kj4 <;> simp [aI.j1])
    rw [if_neg c35] at H
    have c35b0 : (t588 != t589) = false := by simpa using c35
    (try (have c35b1 : decide (t588 = t589) = true := by simpa using c35))
    (try (have c35b2 : (t588 == t589) = true := by simpa using c35))
    clear c35
    obtain ⟨t590, A36, H⟩ := Option.bind_eq_some_iff.mp H
    replace A36 := mk_ A36
    obtain ⟨t591, A37, H⟩ := Option.bind_eq_some_iff.mp H
    replace A37 := mk_ A37
    by_cases c38 : t590 = t591
    rotate_left
    ·
     rw [if_neg c38] at H
     have c38b0 : (t590 == t591) = false := beq_eq_false_iff_ne.mpr c38
     have c38b1 : (t590 != t591) = true := bne_iff_ne.mpr c38
     exact absurd H (by rw [hrt]; cases kj4 <;> simp [aI.j1])
    rw [if_pos c38] at H
    have c38b0 : (t590 == t591) = true := beq_iff_eq.mpr c38
    have c38b1 : (t590 != t591) = false := bne_eq_false_iff_eq.mpr c38
    clear c38
    obtain ⟨t592, A39, H⟩ := Option.bind_eq_some_iff.mp H
    replace A39 := mk_ A39
    by_cases c40 : t592 = true
    rotate_left
    ·
     replace c40 := Bool.eq_false_iff.mpr c40
     subst c40
     rw [if_neg (show ¬ (false = true) by decide)] at H
     exact absurd H (by rw [hrt]; cases kj4 <;> simp [aI.j1])
    subst c40
    rw [if_pos rfl] at H
    obtain ⟨t593, A41, H⟩ := Option.bind_eq_some_iff.mp H
    replace A41 := mk_ A41
    have H' := mk_ H
    clear H
    try go_wp2
    have n0_ := mk_ (R_drew HO564.out)
    have n1_ := mk_ (R_drew HO574.out)
    have n2_ := mk_ (R_drew HO577.out)
    have n3_ := mk_ (iC HO580.out)
    have n4_ := mk_ (R_drew HO584.out)
    have n5_ := mk_ (aH BK557.out)
    have n6_ := mk_ (aH BK581.out)
    have n7_ := mk_ (dG HB.out)
    clear HO564 HO574 HO577 HO580 HO584 BK557 BK581 HB
    revert n0_ n1_ n2_ n3_ n4_ n5_ n6_ n7_
    intro HO564 HO574 HO577 HO580 HO584 BK557 BK581 HB
    obtain ⟨Ao43, co43, eo43⟩ := S_slice HO580.out
    (first | subst eo43 | (injection eo43 with f1_ f2_ f3_; have f4_ := f1_.symm; have f5_ := f3_.symm; clear f1_ f2_ f3_; subst f4_; subst f5_))
    refine fM (n := 35) (S := fun w' => w'.cell? ⟨gb581, 0, none⟩ = some (.int .i64 t560) ∧ w'.cell? ⟨gb581, 1, none⟩ = some (.int .i64 t561) ∧ w'.cell? ⟨gb581, 2, none⟩ = some (.slice Ao26 t562.length co26) ∧ w'.cell? ⟨gb581, 3, none⟩ = some (.int .i64 t565) ∧ w'.cell? ⟨gb581, 4, none⟩ = some (.int .i64 t566) ∧ w'.cell? ⟨gb581, 5, none⟩ = some (.int .i64 t567) ∧ w'.cell? ⟨gb581, 6, none⟩ = some (.int .i64 t568) ∧ w'.cell? ⟨gb581, 7, none⟩ = some (.int .i64 t569) ∧ w'.cell? ⟨gb581, 8, none⟩ = some (.string t570) ∧ w'.cell? ⟨gb581, 9, none⟩ = some (.int .i64 t571) ∧ w'.cell? ⟨gb581, 10, none⟩ = some (.slice Ao27 t572.length co27) ∧ w'.cell? ⟨gb581, 11, none⟩ = some (.slice Ao28 t575.length co28) ∧ w'.cell? ⟨gb557, 0, none⟩ = some (.int .i64 a2_0) ∧ w'.cell? ⟨gb557, 1, none⟩ = some (.int .i64 a2_1) ∧ w'.cell? ⟨gb557, 2, none⟩ = some (.slice A2_2 l2_2.length c2_2) ∧ w'.cell? ⟨gb557, 3, none⟩ = some (.int .i64 a2_3) ∧ w'.cell? ⟨gb557, 4, none⟩ = some (.int .i64 a2_4) ∧ w'.cell? ⟨gb557, 5, none⟩ = some (.int .i64 a2_5) ∧ w'.cell? ⟨gb557, 6, none⟩ = some (.int .i64 a2_6) ∧ w'.cell? ⟨gb557, 7, none⟩ = some (.int .i64 a2_7) ∧ w'.cell? ⟨gb557, 8, none⟩ = some (.string a2_8) ∧ w'.cell? ⟨gb557, 9, none⟩ = some (.int .i64 a2_9) ∧ w'.cell? ⟨gb557, 10, none⟩ = some (.slice A2_10 l2_10.length c2_10) ∧ w'.cell? ⟨gb557, 11, none⟩ = some (.slice A2_11 l2_11.length c2_11)) (ds := []) (Steps.Bs 35 0) z2_ rfl rfl (k12_ BK581 (k12e_ BK557)) (fun hHeld => ?_); refine dA aI.tab5 aI.bits5 (fun HT_ HW_ => ?_)
    generalize w29.drew = w42 at HO564 HO574 HO577 HO580 HO584 BK557 BK581 HB hHeld ⊢
    refine tI HT_ 0 37 35 1 ?_
    refine tI HT_ 2 39 35 5 ?_
    refine one_ (i := 1) (N := some 38) (Steps.Bs 35 7) rfl rfl (cC HT_.out z2_) z5_ (fun K hK => ?_)
    refine goes_ Tryz.func9 z2_ rfl #[.slice Ao43 t578.length co43] (by rfl) rfl rfl z0_ ?_
    with_reducible refine (dC.calls kj4 _ _ t578 t586 _ ?side1 ?side2 A30.out).mono ?_
    (case side1 => exact cX_ (S_reads' HO580.out).2.2)
    (case side2 => exact (S_reads' HO580.out).2.1)
    rintro e w44 ⟨rfl, hb⟩
    refine ⟨_, rfl, ?_⟩
    have n0_ := mk_ (bY (ZKR HO564) hb)
    have n1_ := mk_ (bY (ZKR HO574) hb)
    have n2_ := mk_ (bY (ZKR HO577) hb)
    have n3_ := mk_ (hI (by (with_reducible repeat (first | apply gU | apply gT | apply iC)); exact HO580.out) hb)
    have n4_ := mk_ (bY (ZKR HO584) hb)
    have n5_ := mk_ (bB_ BK557 hb)
    have n6_ := mk_ (bB_ BK581 hb)
    have n7_ := mk_ (aA (Short.hB HB) hb)
    clear HO564 HO574 HO577 HO580 HO584 BK557 BK581 HB
    revert n0_ n1_ n2_ n3_ n4_ n5_ n6_ n7_
    intro HO564 HO574 HO577 HO580 HO584 BK557 BK581 HB
    (try clear hb)
    (try clear hb2)
    (try clear hk)
    (try clear hi)
    refine hK.out _ _ (k12_ BK581 (k12e_ BK557)) (fun hHeld => ?_)
    clear hK K
    refine nrm 38 ?_
    refine one_ (i := 3) (N := some 40) (Steps.Bs 35 15) rfl rfl (cC HT_.out z2_) z5_ (fun K hK => ?_)
    refine goes_ Tryz.func10 z2_ rfl #[.slice A1 l1.length c1] (by rfl) rfl rfl z0_ ?_
    with_reducible refine (aW.calls kj4 _ _ l1 t587 _ ?side1 ?side2 A31.out).mono ?_
    (case side1 => exact cX_ (aV HR1.out HB.out))
    (case side2 => exact HC1.out)
    rintro e w' ⟨rfl, ⟨nd, rfl⟩⟩
    refine ⟨_, rfl, ?_⟩
    refine hK.out _ _ (k12_ BK581 (k12e_ BK557)) (fun hHeld => ?_)
    clear hK K
    refine nrm 40 ?_
    refine tI HT_ 4 41 35 31 ?_
    refine tI HT_ 5 42 35 63 ?_
    refine tI HT_ 6 43 35 127 ?_
    refine tI HT_ 8 45 35 383 ?_
    refine one_ (i := 7) (N := some 44) (Steps.Bs 35 511) rfl rfl (cC HT_.out z2_) z5_ (fun K hK => ?_)
    refine goes_ Tryz.func11 z2_ rfl #[.string a3] (by rfl) rfl rfl z0_ ?_
    with_reducible refine (gO.calls a3 t588 _ A33.out).mono ?_
    rintro e w' ⟨rfl, ⟨nd, rfl⟩⟩
    refine ⟨_, rfl, ?_⟩
    refine hK.out _ _ (k12_ BK581 (k12e_ BK557)) (fun hHeld => ?_)
    clear hK K
    refine nrm 44 ?_
    refine one_ (i := 9) (N := some 46) (Steps.Bs 35 1023) rfl rfl (cC HT_.out z2_) z5_ (fun K hK => ?_)
    refine goes_ Tryz.func12 z2_ rfl #[.string a3] (by rfl) rfl rfl z0_ ?_
    with_reducible refine (eR.calls a3 t589 _ A34.out).mono ?_
    rintro e w' ⟨rfl, ⟨nd, rfl⟩⟩
    refine ⟨_, rfl, ?_⟩
    refine hK.out _ _ (k12_ BK581 (k12e_ BK557)) (fun hHeld => ?_)
    clear hK K
    refine nrm 46 ?_
    refine tI HT_ 10 47 35 2047 ?_
    refine tI HT_ 11 48 35 4095 ?_
    refine tI HT_ 12 49 35 8191 ?_
    refine tI HT_ 13 50 35 16383 ?_
    refine tI HT_ 14 51 35 32767 ?_
    refine tI HT_ 17 54 35 163839 ?_
    refine tI HT_ 18 55 35 425983 ?_
    refine tT HT_ HW_ hHeld 15 52 35 458751 ?_
    refine tT HT_ HW_ hHeld 19 56 35 983039 ?_
    refine one_ (i := 16) (N := some 53) (Steps.Bs 35 1048575) rfl rfl (cC HT_.out z2_) z5_ (fun K hK => ?_)
    refine goes_ Tryz.func13 z2_ rfl #[.int .i64 a0, .slice Ao43 t578.length co43, .agg #[.int .i64 t560, .int .i64 t561, .slice Ao26 t562.length co26, .int .i64 t565, .int .i64 t566, .int .i64 t567, .int .i64 t568, .int .i64 t569, .string t570, .int .i64 t571, .slice Ao27 t572.length co27, .slice Ao28 t575.length co28]] (by rfl) rfl rfl z0_ ?_
    with_reducible refine (gY.calls kj4 a0 _ _ t578 t560 t561 _ _ t562 t565 t566 t567 t568 t569 t570 t571 _ _ t572 _ _ t575 t590 _ ?side1 ?side2 ?side3 ?side4 ?side5 ?side6 ?side7 ?side8 A36.out).mono ?_
    (case side1 => exact cX_ (S_reads' HO580.out).2.2)
    (case side2 => exact (S_reads' HO580.out).2.1)
    (case side3 => exact cX_ (R_reads' HO564.out).2.2)
    (case side4 => exact (R_reads' HO564.out).2.1)
    (case side5 => exact cX_ (R_reads' HO574.out).2.2)
    (case side6 => exact (R_reads' HO574.out).2.1)
    (case side7 => exact cX_ (R_reads' HO577.out).2.2)
    (case side8 => exact (R_reads' HO577.out).2.1)
    rintro e w45 ⟨rfl, hb⟩
    refine ⟨_, rfl, ?_⟩
    have n0_ := mk_ (bY (ZKR HO564) hb)
    have n1_ := mk_ (bY (ZKR HO574) hb)
    have n2_ := mk_ (bY (ZKR HO577) hb)
    have n3_ := mk_ (hI (by (with_reducible repeat (first | apply gU | apply gT | apply iC)); exact HO580.out) hb)
    have n4_ := mk_ (bY (ZKR HO584) hb)
    have n5_ := mk_ (bB_ BK557 hb)
    have n6_ := mk_ (bB_ BK581 hb)
    have n7_ := mk_ (aA (Short.hB HB) hb)
    clear HO564 HO574 HO577 HO580 HO584 BK557 BK581 HB
    revert n0_ n1_ n2_ n3_ n4_ n5_ n6_ n7_
    intro HO564 HO574 HO577 HO580 HO584 BK557 BK581 HB
    (try clear hb)
    (try clear hb2)
    (try clear hk)
    (try clear hi)
    refine hK.out _ _ (k12_ BK581 (k12e_ BK557)) (fun hHeld => ?_)
    clear hK K
    refine nrm 53 ?_
    refine one_ (i := 20) (N := some 57) (Steps.Bs 35 2097151) rfl rfl (cC HT_.out z2_) z5_ (fun K hK => ?_)
    refine goes_ Tryz.func14 z2_ rfl #[.int .i64 a0, .slice A1 l1.length c1, .agg #[.int .i64 a2_0, .int .i64 a2_1, .slice A2_2 l2_2.length c2_2, .int .i64 a2_3, .int .i64 a2_4, .int .i64 a2_5, .int .i64 a2_6, .int .i64 a2_7, .string a2_8, .int .i64 a2_9, .slice A2_10 l2_10.length c2_10, .slice A2_11 l2_11.length c2_11]] (by rfl) rfl rfl z0_ ?_
    with_reducible refine (fC.calls kj4 a0 _ _ l1 a2_0 a2_1 _ _ l2_2 a2_3 a2_4 a2_5 a2_6 a2_7 a2_8 a2_9 _ _ l2_10 _ _ l2_11 t591 _ ?side1 ?side2 ?side3 ?side4 ?side5 ?side6 ?side7 ?side8 A37.out).mono ?_
    (case side1 => exact cX_ (aV HR1.out HB.out))
    (case side2 => exact HC1.out)
    (case side3 => exact cX_ (aV HR2_2.out HB.out))
    (case side4 => exact HC2_2.out)
    (case side5 => exact cX_ (aV HR2_10.out HB.out))
    (case side6 => exact HC2_10.out)
    (case side7 => exact cX_ (aV HR2_11.out HB.out))
    (case side8 => exact HC2_11.out)
    rintro e w46 ⟨rfl, hb⟩
    refine ⟨_, rfl, ?_⟩
    have n0_ := mk_ (bY (ZKR HO564) hb)
    have n1_ := mk_ (bY (ZKR HO574) hb)
    have n2_ := mk_ (bY (ZKR HO577) hb)
    have n3_ := mk_ (hI (by (with_reducible repeat (first | apply gU | apply gT | apply iC)); exact HO580.out) hb)
    have n4_ := mk_ (bY (ZKR HO584) hb)
    have n5_ := mk_ (bB_ BK557 hb)
    have n6_ := mk_ (bB_ BK581 hb)
    have n7_ := mk_ (aA (Short.hB HB) hb)
    clear HO564 HO574 HO577 HO580 HO584 BK557 BK581 HB
    revert n0_ n1_ n2_ n3_ n4_ n5_ n6_ n7_
    intro HO564 HO574 HO577 HO580 HO584 BK557 BK581 HB
    (try clear hb)
    (try clear hb2)
    (try clear hk)
    (try clear hi)
    refine hK.out _ _ (k12_ BK581 (k12e_ BK557)) (fun hHeld => ?_)
    clear hK K
    refine nrm 57 ?_
    refine tI HT_ 21 58 35 4194303 ?_
    refine tI HT_ 22 59 35 8388607 ?_
    refine tI HT_ 23 60 35 16777215 ?_
    refine tT HT_ HW_ hHeld 24 61 35 33554431 ?_
    refine tT HT_ HW_ hHeld 25 62 35 67108863 ?_
    refine one_ (i := 26) (N := some 63) (Steps.Bs 35 134217727) rfl rfl (cC HT_.out z2_) z5_ (fun K hK => ?_)
    refine goes_ Tryz.func15 z2_ rfl #[.agg #[.int .i64 t560, .int .i64 t561, .slice Ao26 t562.length co26, .int .i64 t565, .int .i64 t566, .int .i64 t567, .int .i64 t568, .int .i64 t569, .string t570, .int .i64 t571, .slice Ao27 t572.length co27, .slice Ao28 t575.length co28], .agg #[.int .i64 a2_0, .int .i64 a2_1, .slice A2_2 l2_2.length c2_2, .int .i64 a2_3, .int .i64 a2_4, .int .i64 a2_5, .int .i64 a2_6, .int .i64 a2_7, .string a2_8, .int .i64 a2_9, .slice A2_10 l2_10.length c2_10, .slice A2_11 l2_11.length c2_11]] (by rfl) rfl rfl z0_ ?_
    with_reducible refine (eM.calls kj4 t560 t561 _ _ t562 t565 t566 t567 t568 t569 t570 t571 _ _ t572 _ _ t575 a2_0 a2_1 _ _ l2_2 a2_3 a2_4 a2_5 a2_6 a2_7 a2_8 a2_9 _ _ l2_10 _ _ l2_11 true _ ?side1 ?side2 ?side3 ?side4 ?side5 ?side6 ?side7 ?side8 ?side9 ?side10 ?side11 ?side12 A39.out).mono ?_
    (case side1 => exact cX_ (R_reads' HO564.out).2.2)
    (case side2 => exact (R_reads' HO564.out).2.1)
    (case side3 => exact cX_ (R_reads' HO574.out).2.2)
    (case side4 => exact (R_reads' HO574.out).2.1)
    (case side5 => exact cX_ (R_reads' HO577.out).2.2)
    (case side6 => exact (R_reads' HO577.out).2.1)
    (case side7 => exact cX_ (aV HR2_2.out HB.out))
    (case side8 => exact HC2_2.out)
    (case side9 => exact cX_ (aV HR2_10.out HB.out))
    (case side10 => exact HC2_10.out)
    (case side11 => exact cX_ (aV HR2_11.out HB.out))
    (case side12 => exact HC2_11.out)
    rintro e w47 ⟨rfl, hb⟩
    refine ⟨_, rfl, ?_⟩
    have n0_ := mk_ (bY (ZKR HO564) hb)
    have n1_ := mk_ (bY (ZKR HO574) hb)
    have n2_ := mk_ (bY (ZKR HO577) hb)
    have n3_ := mk_ (hI (by (with_reducible repeat (first | apply gU | apply gT | apply iC)); exact HO580.out) hb)
    have n4_ := mk_ (bY (ZKR HO584) hb)
    have n5_ := mk_ (bB_ BK557 hb)
    have n6_ := mk_ (bB_ BK581 hb)
    have n7_ := mk_ (aA (Short.hB HB) hb)
    clear HO564 HO574 HO577 HO580 HO584 BK557 BK581 HB
    revert n0_ n1_ n2_ n3_ n4_ n5_ n6_ n7_
    intro HO564 HO574 HO577 HO580 HO584 BK557 BK581 HB
    (try clear hb)
    (try clear hb2)
    (try clear hk)
    (try clear hi)
    refine hK.out _ _ (k12_ BK581 (k12e_ BK557)) (fun hHeld => ?_)
    clear hK K
    refine nrm 63 ?_
    refine tI HT_ 27 64 35 268435455 ?_
    refine tI HT_ 28 65 35 536870911 ?_
    refine tI HT_ 29 66 35 1073741823 ?_
    refine tI HT_ 30 67 35 2147483647 ?_
    refine tI HT_ 31 68 35 4294967295 ?_
    refine one_ (i := 32) (N := some 69) (Steps.Bs 35 8589934591) rfl rfl (cC HT_.out z2_) z5_ (fun K hK => ?_)
    refine goes_ Tryz.func16 z2_ rfl #[.slice Ao43 t578.length co43, .slice A1 l1.length c1] (by rfl) rfl rfl z0_ ?_
    with_reducible refine (cW.calls kj4 _ _ t578 _ _ l1 t593 _ ?side1 ?side2 ?side3 ?side4 A41.out).mono ?_
    (case side1 => exact cX_ (S_reads' HO580.out).2.2)
    (case side2 => exact (S_reads' HO580.out).2.1)
    (case side3 => exact cX_ (aV HR1.out HB.out))
    (case side4 => exact HC1.out)
    rintro e w' ⟨rfl, ⟨nd, rfl⟩⟩
    refine ⟨_, rfl, ?_⟩
    refine hK.out _ _ (k12_ BK581 (k12e_ BK557)) (fun hHeld => ?_)
    clear hK K
    refine nrm 69 ?_
    refine tI HT_ 33 70 35 17179869183 ?_
    refine tI HT_ 34 71 35 34359738367 ?_
    refine done_ (cE HT_.out z2_) ?_
    try go_wp2
    go_meet
    case rel => exact ⟨_, (!t593), z3_, H', ⟨by have := HJ4.out; first | omega | exact Nat.le_refl _⟩, ⟨by (with_reducible repeat (first | apply R_alloc | apply R_drewN | apply R_drew)); exact HO584.out⟩, ⟨by (with_reducible repeat (first | apply R_alloc | apply R_drewN | apply R_drew)); exact HO564.out⟩, ⟨by (with_reducible repeat (first | apply R_alloc | apply R_drewN | apply R_drew)); exact HO574.out⟩, ⟨by (with_reducible repeat (first | apply R_alloc | apply R_drewN | apply R_drew)); exact HO577.out⟩, ⟨by (with_reducible repeat (first | refine aG ?_ _ | refine aH ?_ | refine aE ?_ _)); exact BK557.out⟩, ⟨by (with_reducible repeat (first | refine aG ?_ _ | refine aH ?_ | refine aE ?_ _)); exact BK581.out⟩, ⟨Short.hB HB⟩⟩
   case rest =>
    clear HC19
    try clear c1
    try clear c2
    try clear p2
    try clear c3
    try clear c4
    try clear c6
    try clear c7
    try clear c8
    try clear c9
    try clear c10
    try clear c11
    try clear c12
    try clear c13
    try clear c14
    try clear c15
    try clear c16
    try clear c24
    try clear c32
    try clear c32b0
    try clear c32b1
    try clear c35
    try clear c35b0
    try clear c35b1
    try clear c35b2
    try clear c38
    try clear c38b0
    try clear c38b1
    try clear c40
    try clear hcz25_0
    try clear hcz25_1
    try clear hcz25_10
    try clear hcz25_11
    try clear hcz25_2
    try clear hcz25_3
    try clear hcz25_4
    try clear hcz25_5
    try clear hcz25_6
    try clear hcz25_7
    try clear hcz25_8
    try clear hcz25_9
    try clear hfz25_0
    obtain ⟨kq, x71_18, rfl, HA, HJ18, HO_11, HO_582002, HO_582010, HO_582011, BK557, BK581, HB⟩ := hcut
    cases kq with
    | zero => exact absurd HA.out (by simp [aI.j1])
    | succ kj18 =>
     have H := HA.out
     clear HA
     simp only [aI.j1] at H
     by_cases c48 : x71_18 = true
     ·
      subst c48
      rw [if_pos rfl] at H
      exact absurd H (by rw [hrt]; simp)
     replace c48 := Bool.eq_false_iff.mpr c48
     subst c48
     rw [if_neg (show ¬ (false = true) by decide)] at H
     obtain ⟨t594, A49, H⟩ := Option.bind_eq_some_iff.mp H
     replace A49 := mk_ A49
     by_cases c50 : t594 = true
     rotate_left
     ·
      replace c50 := Bool.eq_false_iff.mpr c50
      subst c50
      rw [if_neg (show ¬ (false = true) by decide)] at H
      by_cases c80 : t585 = 1
      rotate_left
      ·
       rw [if_neg c80] at H
       have c80b0 : (t585 == 1) = false := beq_eq_false_iff_ne.mpr c80
       have c80b1 : (t585 != 1) = true := bne_iff_ne.mpr c80
       exact absurd H (by rw [hrt]; simp)
      rw [if_pos c80] at H
      have c80b0 : (t585 == 1) = true := beq_iff_eq.mpr c80
      have c80b1 : (t585 != 1) = false := bne_eq_false_iff_eq.mpr c80
      clear c80
      by_cases c81 : (t582.length : Int) = 0
      rotate_left
      ·
       rw [if_neg c81] at H
       have c81b0 : ((t582.length : Int) == 0) = false := beq_eq_false_iff_ne.mpr c81
       have c81b1 : ((t582.length : Int) != 0) = true := bne_iff_ne.mpr c81
       have c81b2 : ¬ (t582 = []) := fun h_ => c81 (by rw [h_]; rfl)
       exact absurd H (by rw [hrt]; simp)
      rw [if_pos c81] at H
      have c81b0 : ((t582.length : Int) == 0) = true := beq_iff_eq.mpr c81
      have c81b1 : ((t582.length : Int) != 0) = false := bne_eq_false_iff_eq.mpr c81
      clear c81
      obtain ⟨t595, A82, H⟩ := Option.bind_eq_some_iff.mp H
      replace A82 := mk_ A82
      obtain rfl := Option.some.inj H
      have hnb83 := NB557_581.out
      have hnc83 := NB581_557.out
      have hcz_0 := aD BK557.out
      have hfz_0 := aQ BK557.out
      go_wp2_with (first | ((with_reducible refine aJ (f := 17) rfl ?_); refine Short.gL (some 73) Tryz.func17 #[.agg #[.int .i64 a2_0, .int .i64 a2_1, .slice A2_2 l2_2.length c2_2, .int .i64 a2_3, .int .i64 a2_4, .int .i64 a2_5, .int .i64 a2_6, .int .i64 a2_7, .string a2_8, .int .i64 a2_9, .slice A2_10 l2_10.length c2_10, .slice A2_11 l2_11.length c2_11]] (h := ?_); (with_reducible refine (aU.calls kj18 a2_0 a2_1 _ _ l2_2 a2_3 a2_4 a2_5 a2_6 a2_7 a2_8 a2_9 _ _ l2_10 _ _ l2_11 false _ ?side1 ?side2 ?side3 ?side4 ?side5 ?side6 A49.out).mono ?_); (case side1 => exact cX_ (aV HR2_2.out HB.out)); (case side2 => exact HC2_2.out); (case side3 => exact cX_ (aV HR2_10.out HB.out)); (case side4 => exact HC2_10.out); (case side5 => exact cX_ (aV HR2_11.out HB.out)); (case side6 => exact HC2_11.out); rintro e w85 ⟨rfl, hb⟩; refine ⟨_, rfl, ?_⟩; have n0_ := mk_ (bY (ZKR HO_11) hb); have n1_ := mk_ (bY (ZKR HO_582002) hb); have n2_ := mk_ (bY (ZKR HO_582010) hb); have n3_ := mk_ (bY (ZKR HO_582011) hb); have n4_ := mk_ (bB_ BK557 hb); have n5_ := mk_ (bB_ BK581 hb); have n6_ := mk_ (aA (Short.hB HB) hb); clear HO_11 HO_582002 HO_582010 HO_582011 BK557 BK581 HB; revert n0_ n1_ n2_ n3_ n4_ n5_ n6_; intro HO_11 HO_582002 HO_582010 HO_582011 BK557 BK581 HB; (try clear hb); obtain ⟨Ao86, co86, eo86⟩ := cX HO_11.out; subst eo86) | (go_at_call 18; (with_reducible refine (eN.calls  t595 _ A82.out).mono ?_); rintro e w87 ⟨rfl, hb⟩; have n8_ := mk_ (aA (Short.hB HB) hb); clear HB; have HB := n8_; clear n8_ hb))
      go_ret
      exact ⟨q0, Short.hB HB⟩
     subst c50
     rw [if_pos rfl] at H
     obtain ⟨⟨t596, t597, t598, t601, t602, t603, t604, t605, t606, t607, t608, t611, t614, t615⟩, A51, H⟩ := Option.bind_eq_some_iff.mp H
     try dsimp only at H
     replace A51 := mk_ A51
     by_cases c52 : t585 = 0
     rotate_left
     ·
      rw [if_neg c52] at H
      have c52b0 : (t585 == 0) = false := beq_eq_false_iff_ne.mpr c52
      have c52b1 : (t585 != 0) = true := bne_iff_ne.mpr c52
      exact absurd H (by rw [hrt]; simp)
     rw [if_pos c52] at H
     have c52b0 : (t585 == 0) = true := beq_iff_eq.mpr c52
     have c52b1 : (t585 != 0) = false := bne_eq_false_iff_eq.mpr c52
     clear c52
     obtain ⟨t617, A53, H⟩ := Option.bind_eq_some_iff.mp H
     replace A53 := mk_ A53
     obtain ⟨t620, A54, H⟩ := Option.bind_eq_some_iff.mp H
     replace A54 := mk_ A54
     by_cases c55 : t620 = true
     rotate_left
     ·
      replace c55 := Bool.eq_false_iff.mpr c55
      subst c55
      rw [if_neg (show ¬ (false = true) by decide)] at H
      exact absurd H (by rw [hrt]; simp)
     subst c55
     rw [if_pos rfl] at H
     by_cases c56 : t615 = 0
     rotate_left
     ·
      rw [if_neg c56] at H
      have c56b0 : (t615 == 0) = false := beq_eq_false_iff_ne.mpr c56
      have c56b1 : (t615 != 0) = true := bne_iff_ne.mpr c56
      exact absurd H (by rw [hrt]; simp)
     rw [if_pos c56] at H
     have c56b0 : (t615 == 0) = true := beq_iff_eq.mpr c56
     have c56b1 : (t615 != 0) = false := bne_eq_false_iff_eq.mpr c56
     clear c56
     by_cases c57 : t614 = (t582.length : Int)
     rotate_left
     ·
      rw [if_neg c57] at H
      have c57b0 : (t614 == (t582.length : Int)) = false := beq_eq_false_iff_ne.mpr c57
      have c57b1 : (t614 != (t582.length : Int)) = true := bne_iff_ne.mpr c57
      exact absurd H (by rw [hrt]; simp)
     rw [if_pos c57] at H
     have c57b0 : (t614 == (t582.length : Int)) = true := beq_iff_eq.mpr c57
     have c57b1 : (t614 != (t582.length : Int)) = false := bne_eq_false_iff_eq.mpr c57
     clear c57
     obtain ⟨t621, A58, H⟩ := Option.bind_eq_some_iff.mp H
     replace A58 := mk_ A58
     by_cases c59 : t621 = true
     rotate_left
     ·
      replace c59 := Bool.eq_false_iff.mpr c59
      subst c59
      rw [if_neg (show ¬ (false = true) by decide)] at H
      exact absurd H (by rw [hrt]; simp)
     subst c59
     rw [if_pos rfl] at H
     obtain ⟨t622, A60, H⟩ := Option.bind_eq_some_iff.mp H
     replace A60 := mk_ A60
     obtain rfl := Option.some.inj H
     have hnb61 := NB557_581.out
     have hnc61 := NB581_557.out
     have hcz_0 := aD BK557.out
     have hfz_0 := aQ BK557.out
     go_wp2_with (first | ((with_reducible refine aJ (f := 17) rfl ?_); refine Short.gL (some 73) Tryz.func17 #[.agg #[.int .i64 a2_0, .int .i64 a2_1, .slice A2_2 l2_2.length c2_2, .int .i64 a2_3, .int .i64 a2_4, .int .i64 a2_5, .int .i64 a2_6, .int .i64 a2_7, .string a2_8, .int .i64 a2_9, .slice A2_10 l2_10.length c2_10, .slice A2_11 l2_11.length c2_11]] (h := ?_); (with_reducible refine (aU.calls kj18 a2_0 a2_1 _ _ l2_2 a2_3 a2_4 a2_5 a2_6 a2_7 a2_8 a2_9 _ _ l2_10 _ _ l2_11 true _ ?side1 ?side2 ?side3 ?side4 ?side5 ?side6 A49.out).mono ?_); (case side1 => exact cX_ (aV HR2_2.out HB.out)); (case side2 => exact HC2_2.out); (case side3 => exact cX_ (aV HR2_10.out HB.out)); (case side4 => exact HC2_10.out); (case side5 => exact cX_ (aV HR2_11.out HB.out)); (case side6 => exact HC2_11.out); rintro e w63 ⟨rfl, hb⟩; refine ⟨_, rfl, ?_⟩; have n0_ := mk_ (bY (ZKR HO_11) hb); have n1_ := mk_ (bY (ZKR HO_582002) hb); have n2_ := mk_ (bY (ZKR HO_582010) hb); have n3_ := mk_ (bY (ZKR HO_582011) hb); have n4_ := mk_ (bB_ BK557 hb); have n5_ := mk_ (bB_ BK581 hb); have n6_ := mk_ (aA (Short.hB HB) hb); clear HO_11 HO_582002 HO_582010 HO_582011 BK557 BK581 HB; revert n0_ n1_ n2_ n3_ n4_ n5_ n6_; intro HO_11 HO_582002 HO_582010 HO_582011 BK557 BK581 HB; (try clear hb); obtain ⟨Ao64, co64, eo64⟩ := cX HO_11.out; subst eo64) | ((with_reducible refine aJ (f := 19) rfl ?_); refine Short.gL (some 87) Tryz.func19 #[.slice Ao64 t582.length co64, .int .i64 0] (h := ?_); (with_reducible refine (iR.calls _ _ t582 0 t596 t597 t598 t601 t602 t603 t604 t605 t606 t607 t608 t611 t614 t615 _ ?side1 ?side2 A51.out).mono ?_); (case side1 => exact cX_ (R_reads' HO_11.out).2.2); (case side2 => exact (R_reads' HO_11.out).2.1); rintro e w65 ⟨v599, v609, v612, rfl, ho0, ho1, ho2, hb⟩; refine ⟨_, rfl, ?_⟩; have n0_ := mk_ (bY (ZKR HO_11) hb); have n1_ := mk_ (R_elder' (ZKR HO_582002) (R_base ho0) hb); have n2_ := mk_ (R_elder' (ZKR HO_582010) (R_base ho1) hb); have n3_ := mk_ (R_elder' (ZKR HO_582011) (R_base ho2) hb); have n4_ := mk_ (bX (R_new' ho0 (R_lt (ZKR HO_582002))) (aC (Short.hB HB))); have n5_ := mk_ (bX (R_new' ho1 (R_lt (ZKR HO_582010))) (aC (Short.hB HB))); have n6_ := mk_ (bX (R_new' ho2 (R_lt (ZKR HO_582011))) (aC (Short.hB HB))); have n7_ := mk_ (bB_ BK557 hb); have n8_ := mk_ (bB_ BK581 hb); have n9_ := mk_ (aA (Short.hB HB) hb); clear HO_11 HO_582002 HO_582010 HO_582011 BK557 BK581 HB; revert n0_ n1_ n2_ n3_ n4_ n5_ n6_ n7_ n8_ n9_; intro HO_11 HO_582002 HO_582010 HO_582011 HO600 HO610 HO613 BK557 BK581 HB; (try clear hb ho0); (try clear ho1); (try clear ho2)) | ((with_reducible refine aY (N := 13) rfl ?_); refine aZ ?hg (N := 13) ?hd (cs := #[.int .i64 0, .int .i64 0, .slice none 0 0, .int .i64 0, .int .i64 0, .int .i64 0, .int .i64 0, .int .i64 0, .string (⟨#[]⟩ : ByteArray), .int .i64 0, .slice none 0 0, .slice none 0 0]) (t := 31) ?hr ?_; (case hd => rfl); (case hg => rfl); (case hr => first | (go_simp; done) | (go_simp; rfl)); intro gb616 hg w66 hbox hb; have n0_ := mk_ (bY (ZKR HO_11) hb); have n1_ := mk_ (bY (ZKR HO_582002) hb); have n2_ := mk_ (bY (ZKR HO_582010) hb); have n3_ := mk_ (bY (ZKR HO_582011) hb); have n4_ := mk_ (bY (ZKR HO600) hb); have n5_ := mk_ (bY (ZKR HO610) hb); have n6_ := mk_ (bY (ZKR HO613) hb); have n7_ := mk_ (bB_ BK557 hb); have n8_ := mk_ (bB_ BK581 hb); have n9_ := mk_ (aA (Short.hB HB) hb); have n10_ := mk_ (hbox); have n11_ := mk_ ((by rw [hg]; exact (aC (Short.hB HB)) : w.heap.size ≤ gb616)); have n12_ := mk_ ((by rw [hg]; exact (aC (Short.hB HB)) : w.heap.size ≤ gb616)); have n13_ := mk_ ((by rw [hg]; exact Nat.ne_of_lt (eV (Short.bK BK557)) : gb557 ≠ gb616)); have n14_ := mk_ ((by rw [hg]; exact Nat.ne_of_gt (eV (Short.bK BK557)) : gb616 ≠ gb557)); have n15_ := mk_ ((by rw [hg]; exact Nat.ne_of_lt (eV (Short.bK BK581)) : gb581 ≠ gb616)); have n16_ := mk_ ((by rw [hg]; exact Nat.ne_of_gt (eV (Short.bK BK581)) : gb616 ≠ gb581)); clear HO_11 HO_582002 HO_582010 HO_582011 HO600 HO610 HO613 BK557 BK581 HB; revert n0_ n1_ n2_ n3_ n4_ n5_ n6_ n7_ n8_ n9_ n10_ n11_ n12_ n13_ n14_ n15_ n16_; intro HO_11 HO_582002 HO_582010 HO_582011 HO600 HO610 HO613 BK557 BK581 HB BK616 GW616 GE616 NB557_616 NB616_557 NB581_616 NB616_581; clear hb hbox hg; have hnb67 := NB616_557.out; have hnc67 := NB557_616.out; have hnb68 := NB616_581.out; have hnc68 := NB581_616.out; have hcz_0 := aD BK616.out; have hfz_0 := aQ BK616.out; obtain ⟨Ao70, co70, eo70⟩ := cX HO600.out; subst eo70; obtain ⟨Ao71, co71, eo71⟩ := cX HO610.out; subst eo71; obtain ⟨Ao72, co72, eo72⟩ := cX HO613.out; subst eo72; have hcz_0 := aD BK557.out; have hfz_0 := aQ BK557.out) | (go_at_call 21; (with_reducible refine (aM.calls kj18 a2_0 a2_1 _ _ l2_2 a2_3 a2_4 a2_5 a2_6 a2_7 a2_8 a2_9 _ _ l2_10 _ _ l2_11 t617 _ ?side1 ?side2 ?side3 ?side4 ?side5 ?side6 A53.out).mono ?_); (case side1 => exact aV HR2_2.out (Short.hB HB)); (case side2 => exact HC2_2.out); (case side3 => exact aV HR2_10.out (Short.hB HB)); (case side4 => exact HC2_10.out); (case side5 => exact aV HR2_11.out (Short.hB HB)); (case side6 => exact HC2_11.out); rintro e w74 ⟨v618, rfl, ho0, hb⟩; have n0_ := mk_ (R_elder' (by (with_reducible repeat (first | apply R_alloc | apply R_drewN | apply R_drew)); exact (R_mono (R_far (p := ⟨gb616, 11, none⟩) (R_far (p := ⟨gb616, 10, none⟩) (R_far (p := ⟨gb616, 9, none⟩) (R_far (p := ⟨gb616, 8, none⟩) (R_far (p := ⟨gb616, 7, none⟩) (R_far (p := ⟨gb616, 6, none⟩) (R_far (p := ⟨gb616, 5, none⟩) (R_far (p := ⟨gb616, 4, none⟩) (R_far (p := ⟨gb616, 3, none⟩) (R_far (p := ⟨gb616, 2, none⟩) (R_far (p := ⟨gb616, 1, none⟩) (R_far (p := ⟨gb616, 0, none⟩) (eP HO_11.out BK616.out z5_) (fun _ hk => hk.2) (.int .i64 t596)) (fun _ hk => hk.2) (.int .i64 t597)) (fun _ hk => hk.2) (.slice Ao70 t598.length co70)) (fun _ hk => hk.2) (.int .i64 t601)) (fun _ hk => hk.2) (.int .i64 t602)) (fun _ hk => hk.2) (.int .i64 t603)) (fun _ hk => hk.2) (.int .i64 t604)) (fun _ hk => hk.2) (.int .i64 t605)) (fun _ hk => hk.2) (.string t606)) (fun _ hk => hk.2) (.int .i64 t607)) (fun _ hk => hk.2) (.slice Ao71 t608.length co71)) (fun _ hk => hk.2) (.slice Ao72 t611.length co72)) (fun _ h_ => h_.1))) (R_base ho0) hb); have n1_ := mk_ (bY (by (with_reducible repeat (first | apply R_alloc | apply R_drewN | apply R_drew)); exact (R_mono (R_far (p := ⟨gb616, 11, none⟩) (R_far (p := ⟨gb616, 10, none⟩) (R_far (p := ⟨gb616, 9, none⟩) (R_far (p := ⟨gb616, 8, none⟩) (R_far (p := ⟨gb616, 7, none⟩) (R_far (p := ⟨gb616, 6, none⟩) (R_far (p := ⟨gb616, 5, none⟩) (R_far (p := ⟨gb616, 4, none⟩) (R_far (p := ⟨gb616, 3, none⟩) (R_far (p := ⟨gb616, 2, none⟩) (R_far (p := ⟨gb616, 1, none⟩) (R_far (p := ⟨gb616, 0, none⟩) (eP HO_582002.out BK616.out z5_) (fun _ hk => hk.2) (.int .i64 t596)) (fun _ hk => hk.2) (.int .i64 t597)) (fun _ hk => hk.2) (.slice Ao70 t598.length co70)) (fun _ hk => hk.2) (.int .i64 t601)) (fun _ hk => hk.2) (.int .i64 t602)) (fun _ hk => hk.2) (.int .i64 t603)) (fun _ hk => hk.2) (.int .i64 t604)) (fun _ hk => hk.2) (.int .i64 t605)) (fun _ hk => hk.2) (.string t606)) (fun _ hk => hk.2) (.int .i64 t607)) (fun _ hk => hk.2) (.slice Ao71 t608.length co71)) (fun _ hk => hk.2) (.slice Ao72 t611.length co72)) (fun _ h_ => h_.1))) hb); have n2_ := mk_ (bY (by (with_reducible repeat (first | apply R_alloc | apply R_drewN | apply R_drew)); exact (R_mono (R_far (p := ⟨gb616, 11, none⟩) (R_far (p := ⟨gb616, 10, none⟩) (R_far (p := ⟨gb616, 9, none⟩) (R_far (p := ⟨gb616, 8, none⟩) (R_far (p := ⟨gb616, 7, none⟩) (R_far (p := ⟨gb616, 6, none⟩) (R_far (p := ⟨gb616, 5, none⟩) (R_far (p := ⟨gb616, 4, none⟩) (R_far (p := ⟨gb616, 3, none⟩) (R_far (p := ⟨gb616, 2, none⟩) (R_far (p := ⟨gb616, 1, none⟩) (R_far (p := ⟨gb616, 0, none⟩) (eP HO_582010.out BK616.out z5_) (fun _ hk => hk.2) (.int .i64 t596)) (fun _ hk => hk.2) (.int .i64 t597)) (fun _ hk => hk.2) (.slice Ao70 t598.length co70)) (fun _ hk => hk.2) (.int .i64 t601)) (fun _ hk => hk.2) (.int .i64 t602)) (fun _ hk => hk.2) (.int .i64 t603)) (fun _ hk => hk.2) (.int .i64 t604)) (fun _ hk => hk.2) (.int .i64 t605)) (fun _ hk => hk.2) (.string t606)) (fun _ hk => hk.2) (.int .i64 t607)) (fun _ hk => hk.2) (.slice Ao71 t608.length co71)) (fun _ hk => hk.2) (.slice Ao72 t611.length co72)) (fun _ h_ => h_.1))) hb); have n3_ := mk_ (bY (by (with_reducible repeat (first | apply R_alloc | apply R_drewN | apply R_drew)); exact (R_mono (R_far (p := ⟨gb616, 11, none⟩) (R_far (p := ⟨gb616, 10, none⟩) (R_far (p := ⟨gb616, 9, none⟩) (R_far (p := ⟨gb616, 8, none⟩) (R_far (p := ⟨gb616, 7, none⟩) (R_far (p := ⟨gb616, 6, none⟩) (R_far (p := ⟨gb616, 5, none⟩) (R_far (p := ⟨gb616, 4, none⟩) (R_far (p := ⟨gb616, 3, none⟩) (R_far (p := ⟨gb616, 2, none⟩) (R_far (p := ⟨gb616, 1, none⟩) (R_far (p := ⟨gb616, 0, none⟩) (eP HO_582011.out BK616.out z5_) (fun _ hk => hk.2) (.int .i64 t596)) (fun _ hk => hk.2) (.int .i64 t597)) (fun _ hk => hk.2) (.slice Ao70 t598.length co70)) (fun _ hk => hk.2) (.int .i64 t601)) (fun _ hk => hk.2) (.int .i64 t602)) (fun _ hk => hk.2) (.int .i64 t603)) (fun _ hk => hk.2) (.int .i64 t604)) (fun _ hk => hk.2) (.int .i64 t605)) (fun _ hk => hk.2) (.string t606)) (fun _ hk => hk.2) (.int .i64 t607)) (fun _ hk => hk.2) (.slice Ao71 t608.length co71)) (fun _ hk => hk.2) (.slice Ao72 t611.length co72)) (fun _ h_ => h_.1))) hb); have n4_ := mk_ (bY (by (with_reducible repeat (first | apply R_alloc | apply R_drewN | apply R_drew)); exact (R_mono (R_far (p := ⟨gb616, 11, none⟩) (R_far (p := ⟨gb616, 10, none⟩) (R_far (p := ⟨gb616, 9, none⟩) (R_far (p := ⟨gb616, 8, none⟩) (R_far (p := ⟨gb616, 7, none⟩) (R_far (p := ⟨gb616, 6, none⟩) (R_far (p := ⟨gb616, 5, none⟩) (R_far (p := ⟨gb616, 4, none⟩) (R_far (p := ⟨gb616, 3, none⟩) (R_far (p := ⟨gb616, 2, none⟩) (R_far (p := ⟨gb616, 1, none⟩) (R_far (p := ⟨gb616, 0, none⟩) (eP HO600.out BK616.out z5_) (fun _ hk => hk.2) (.int .i64 t596)) (fun _ hk => hk.2) (.int .i64 t597)) (fun _ hk => hk.2) (.slice Ao70 t598.length co70)) (fun _ hk => hk.2) (.int .i64 t601)) (fun _ hk => hk.2) (.int .i64 t602)) (fun _ hk => hk.2) (.int .i64 t603)) (fun _ hk => hk.2) (.int .i64 t604)) (fun _ hk => hk.2) (.int .i64 t605)) (fun _ hk => hk.2) (.string t606)) (fun _ hk => hk.2) (.int .i64 t607)) (fun _ hk => hk.2) (.slice Ao71 t608.length co71)) (fun _ hk => hk.2) (.slice Ao72 t611.length co72)) (fun _ h_ => h_.1))) hb); have n5_ := mk_ (bY (by (with_reducible repeat (first | apply R_alloc | apply R_drewN | apply R_drew)); exact (R_mono (R_far (p := ⟨gb616, 11, none⟩) (R_far (p := ⟨gb616, 10, none⟩) (R_far (p := ⟨gb616, 9, none⟩) (R_far (p := ⟨gb616, 8, none⟩) (R_far (p := ⟨gb616, 7, none⟩) (R_far (p := ⟨gb616, 6, none⟩) (R_far (p := ⟨gb616, 5, none⟩) (R_far (p := ⟨gb616, 4, none⟩) (R_far (p := ⟨gb616, 3, none⟩) (R_far (p := ⟨gb616, 2, none⟩) (R_far (p := ⟨gb616, 1, none⟩) (R_far (p := ⟨gb616, 0, none⟩) (eP HO610.out BK616.out z5_) (fun _ hk => hk.2) (.int .i64 t596)) (fun _ hk => hk.2) (.int .i64 t597)) (fun _ hk => hk.2) (.slice Ao70 t598.length co70)) (fun _ hk => hk.2) (.int .i64 t601)) (fun _ hk => hk.2) (.int .i64 t602)) (fun _ hk => hk.2) (.int .i64 t603)) (fun _ hk => hk.2) (.int .i64 t604)) (fun _ hk => hk.2) (.int .i64 t605)) (fun _ hk => hk.2) (.string t606)) (fun _ hk => hk.2) (.int .i64 t607)) (fun _ hk => hk.2) (.slice Ao71 t608.length co71)) (fun _ hk => hk.2) (.slice Ao72 t611.length co72)) (fun _ h_ => h_.1))) hb); have n6_ := mk_ (bY (by (with_reducible repeat (first | apply R_alloc | apply R_drewN | apply R_drew)); exact (R_mono (R_far (p := ⟨gb616, 11, none⟩) (R_far (p := ⟨gb616, 10, none⟩) (R_far (p := ⟨gb616, 9, none⟩) (R_far (p := ⟨gb616, 8, none⟩) (R_far (p := ⟨gb616, 7, none⟩) (R_far (p := ⟨gb616, 6, none⟩) (R_far (p := ⟨gb616, 5, none⟩) (R_far (p := ⟨gb616, 4, none⟩) (R_far (p := ⟨gb616, 3, none⟩) (R_far (p := ⟨gb616, 2, none⟩) (R_far (p := ⟨gb616, 1, none⟩) (R_far (p := ⟨gb616, 0, none⟩) (eP HO613.out BK616.out z5_) (fun _ hk => hk.2) (.int .i64 t596)) (fun _ hk => hk.2) (.int .i64 t597)) (fun _ hk => hk.2) (.slice Ao70 t598.length co70)) (fun _ hk => hk.2) (.int .i64 t601)) (fun _ hk => hk.2) (.int .i64 t602)) (fun _ hk => hk.2) (.int .i64 t603)) (fun _ hk => hk.2) (.int .i64 t604)) (fun _ hk => hk.2) (.int .i64 t605)) (fun _ hk => hk.2) (.string t606)) (fun _ hk => hk.2) (.int .i64 t607)) (fun _ hk => hk.2) (.slice Ao71 t608.length co71)) (fun _ hk => hk.2) (.slice Ao72 t611.length co72)) (fun _ h_ => h_.1))) hb); have n7_ := mk_ (bX (R_new' ho0 (R_lt (by (with_reducible repeat (first | apply R_alloc | apply R_drewN | apply R_drew)); exact (R_mono (R_far (p := ⟨gb616, 11, none⟩) (R_far (p := ⟨gb616, 10, none⟩) (R_far (p := ⟨gb616, 9, none⟩) (R_far (p := ⟨gb616, 8, none⟩) (R_far (p := ⟨gb616, 7, none⟩) (R_far (p := ⟨gb616, 6, none⟩) (R_far (p := ⟨gb616, 5, none⟩) (R_far (p := ⟨gb616, 4, none⟩) (R_far (p := ⟨gb616, 3, none⟩) (R_far (p := ⟨gb616, 2, none⟩) (R_far (p := ⟨gb616, 1, none⟩) (R_far (p := ⟨gb616, 0, none⟩) (eP HO_11.out BK616.out z5_) (fun _ hk => hk.2) (.int .i64 t596)) (fun _ hk => hk.2) (.int .i64 t597)) (fun _ hk => hk.2) (.slice Ao70 t598.length co70)) (fun _ hk => hk.2) (.int .i64 t601)) (fun _ hk => hk.2) (.int .i64 t602)) (fun _ hk => hk.2) (.int .i64 t603)) (fun _ hk => hk.2) (.int .i64 t604)) (fun _ hk => hk.2) (.int .i64 t605)) (fun _ hk => hk.2) (.string t606)) (fun _ hk => hk.2) (.int .i64 t607)) (fun _ hk => hk.2) (.slice Ao71 t608.length co71)) (fun _ hk => hk.2) (.slice Ao72 t611.length co72)) (fun _ h_ => h_.1))))) (aC (Short.hB HB))); have n8_ := mk_ (bQ (g := gb557) (o := .cells #[.int .i64 a2_0, .int .i64 a2_1, .slice A2_2 l2_2.length c2_2, .int .i64 a2_3, .int .i64 a2_4, .int .i64 a2_5, .int .i64 a2_6, .int .i64 a2_7, .string a2_8, .int .i64 a2_9, .slice A2_10 l2_10.length c2_10, .slice A2_11 l2_11.length c2_11] 31 (0, 0)) (by (with_reducible repeat (first | refine aG ?_ _ | refine aH ?_ | refine aE ?_ _)); refine dB ?_ NB557_616.out _; (with_reducible repeat (first | refine aG ?_ _ | refine aH ?_ | refine aE ?_ _)); refine dB ?_ NB557_616.out _; (with_reducible repeat (first | refine aG ?_ _ | refine aH ?_ | refine aE ?_ _)); refine dB ?_ NB557_616.out _; (with_reducible repeat (first | refine aG ?_ _ | refine aH ?_ | refine aE ?_ _)); refine dB ?_ NB557_616.out _; (with_reducible repeat (first | refine aG ?_ _ | refine aH ?_ | refine aE ?_ _)); refine dB ?_ NB557_616.out _; (with_reducible repeat (first | refine aG ?_ _ | refine aH ?_ | refine aE ?_ _)); refine dB ?_ NB557_616.out _; (with_reducible repeat (first | refine aG ?_ _ | refine aH ?_ | refine aE ?_ _)); refine dB ?_ NB557_616.out _; (with_reducible repeat (first | refine aG ?_ _ | refine aH ?_ | refine aE ?_ _)); refine dB ?_ NB557_616.out _; (with_reducible repeat (first | refine aG ?_ _ | refine aH ?_ | refine aE ?_ _)); refine dB ?_ NB557_616.out _; (with_reducible repeat (first | refine aG ?_ _ | refine aH ?_ | refine aE ?_ _)); refine dB ?_ NB557_616.out _; (with_reducible repeat (first | refine aG ?_ _ | refine aH ?_ | refine aE ?_ _)); refine dB ?_ NB557_616.out _; (with_reducible repeat (first | refine aG ?_ _ | refine aH ?_ | refine aE ?_ _)); refine dB ?_ NB557_616.out _; (with_reducible repeat (first | refine aG ?_ _ | refine aH ?_ | refine aE ?_ _)); exact BK557.out) hb); have n9_ := mk_ (bQ (g := gb581) (o := .cells #[.int .i64 t560, .int .i64 t561, .slice Ao26 t562.length co26, .int .i64 t565, .int .i64 t566, .int .i64 t567, .int .i64 t568, .int .i64 t569, .string t570, .int .i64 t571, .slice Ao27 t572.length co27, .slice Ao28 t575.length co28] 31 (0, 0)) (by (with_reducible repeat (first | refine aG ?_ _ | refine aH ?_ | refine aE ?_ _)); refine dB ?_ NB581_616.out _; (with_reducible repeat (first | refine aG ?_ _ | refine aH ?_ | refine aE ?_ _)); refine dB ?_ NB581_616.out _; (with_reducible repeat (first | refine aG ?_ _ | refine aH ?_ | refine aE ?_ _)); refine dB ?_ NB581_616.out _; (with_reducible repeat (first | refine aG ?_ _ | refine aH ?_ | refine aE ?_ _)); refine dB ?_ NB581_616.out _; (with_reducible repeat (first | refine aG ?_ _ | refine aH ?_ | refine aE ?_ _)); refine dB ?_ NB581_616.out _; (with_reducible repeat (first | refine aG ?_ _ | refine aH ?_ | refine aE ?_ _)); refine dB ?_ NB581_616.out _; (with_reducible repeat (first | refine aG ?_ _ | refine aH ?_ | refine aE ?_ _)); refine dB ?_ NB581_616.out _; (with_reducible repeat (first | refine aG ?_ _ | refine aH ?_ | refine aE ?_ _)); refine dB ?_ NB581_616.out _; (with_reducible repeat (first | refine aG ?_ _ | refine aH ?_ | refine aE ?_ _)); refine dB ?_ NB581_616.out _; (with_reducible repeat (first | refine aG ?_ _ | refine aH ?_ | refine aE ?_ _)); refine dB ?_ NB581_616.out _; (with_reducible repeat (first | refine aG ?_ _ | refine aH ?_ | refine aE ?_ _)); refine dB ?_ NB581_616.out _; (with_reducible repeat (first | refine aG ?_ _ | refine aH ?_ | refine aE ?_ _)); refine dB ?_ NB581_616.out _; (with_reducible repeat (first | refine aG ?_ _ | refine aH ?_ | refine aE ?_ _)); exact BK581.out) hb); have n10_ := mk_ (bQ (g := gb616) (o := .cells #[.int .i64 t596, .int .i64 t597, .slice Ao70 t598.length co70, .int .i64 t601, .int .i64 t602, .int .i64 t603, .int .i64 t604, .int .i64 t605, .string t606, .int .i64 t607, .slice Ao71 t608.length co71, .slice Ao72 t611.length co72] 31 (0, 0)) (by (with_reducible repeat (first | refine aG ?_ _ | refine aH ?_ | refine aE ?_ _)); refine bD (cs := #[.int .i64 t596, .int .i64 t597, .slice Ao70 t598.length co70, .int .i64 t601, .int .i64 t602, .int .i64 t603, .int .i64 t604, .int .i64 t605, .string t606, .int .i64 t607, .slice Ao71 t608.length co71, .slice none 0 0]) ?_ 11 _ rfl; (with_reducible repeat (first | refine aG ?_ _ | refine aH ?_ | refine aE ?_ _)); refine bD (cs := #[.int .i64 t596, .int .i64 t597, .slice Ao70 t598.length co70, .int .i64 t601, .int .i64 t602, .int .i64 t603, .int .i64 t604, .int .i64 t605, .string t606, .int .i64 t607, .slice none 0 0, .slice none 0 0]) ?_ 10 _ rfl; (with_reducible repeat (first | refine aG ?_ _ | refine aH ?_ | refine aE ?_ _)); refine bD (cs := #[.int .i64 t596, .int .i64 t597, .slice Ao70 t598.length co70, .int .i64 t601, .int .i64 t602, .int .i64 t603, .int .i64 t604, .int .i64 t605, .string t606, .int .i64 0, .slice none 0 0, .slice none 0 0]) ?_ 9 _ rfl; (with_reducible repeat (first | refine aG ?_ _ | refine aH ?_ | refine aE ?_ _)); refine bD (cs := #[.int .i64 t596, .int .i64 t597, .slice Ao70 t598.length co70, .int .i64 t601, .int .i64 t602, .int .i64 t603, .int .i64 t604, .int .i64 t605, .string (⟨#[]⟩ : ByteArray), .int .i64 0, .slice none 0 0, .slice none 0 0]) ?_ 8 _ rfl; (with_reducible repeat (first | refine aG ?_ _ | refine aH ?_ | refine aE ?_ _)); refine bD (cs := #[.int .i64 t596, .int .i64 t597, .slice Ao70 t598.length co70, .int .i64 t601, .int .i64 t602, .int .i64 t603, .int .i64 t604, .int .i64 0, .string (⟨#[]⟩ : ByteArray), .int .i64 0, .slice none 0 0, .slice none 0 0]) ?_ 7 _ rfl; (with_reducible repeat (first | refine aG ?_ _ | refine aH ?_ | refine aE ?_ _)); refine bD (cs := #[.int .i64 t596, .int .i64 t597, .slice Ao70 t598.length co70, .int .i64 t601, .int .i64 t602, .int .i64 t603, .int .i64 0, .int .i64 0, .string (⟨#[]⟩ : ByteArray), .int .i64 0, .slice none 0 0, .slice none 0 0]) ?_ 6 _ rfl; (with_reducible repeat (first | refine aG ?_ _ | refine aH ?_ | refine aE ?_ _)); refine bD (cs := #[.int .i64 t596, .int .i64 t597, .slice Ao70 t598.length co70, .int .i64 t601, .int .i64 t602, .int .i64 0, .int .i64 0, .int .i64 0, .string (⟨#[]⟩ : ByteArray), .int .i64 0, .slice none 0 0, .slice none 0 0]) ?_ 5 _ rfl; (with_reducible repeat (first | refine aG ?_ _ | refine aH ?_ | refine aE ?_ _)); refine bD (cs := #[.int .i64 t596, .int .i64 t597, .slice Ao70 t598.length co70, .int .i64 t601, .int .i64 0, .int .i64 0, .int .i64 0, .int .i64 0, .string (⟨#[]⟩ : ByteArray), .int .i64 0, .slice none 0 0, .slice none 0 0]) ?_ 4 _ rfl; (with_reducible repeat (first | refine aG ?_ _ | refine aH ?_ | refine aE ?_ _)); refine bD (cs := #[.int .i64 t596, .int .i64 t597, .slice Ao70 t598.length co70, .int .i64 0, .int .i64 0, .int .i64 0, .int .i64 0, .int .i64 0, .string (⟨#[]⟩ : ByteArray), .int .i64 0, .slice none 0 0, .slice none 0 0]) ?_ 3 _ rfl; (with_reducible repeat (first | refine aG ?_ _ | refine aH ?_ | refine aE ?_ _)); refine bD (cs := #[.int .i64 t596, .int .i64 t597, .slice none 0 0, .int .i64 0, .int .i64 0, .int .i64 0, .int .i64 0, .int .i64 0, .string (⟨#[]⟩ : ByteArray), .int .i64 0, .slice none 0 0, .slice none 0 0]) ?_ 2 _ rfl; (with_reducible repeat (first | refine aG ?_ _ | refine aH ?_ | refine aE ?_ _)); refine bD (cs := #[.int .i64 t596, .int .i64 0, .slice none 0 0, .int .i64 0, .int .i64 0, .int .i64 0, .int .i64 0, .int .i64 0, .string (⟨#[]⟩ : ByteArray), .int .i64 0, .slice none 0 0, .slice none 0 0]) ?_ 1 _ rfl; (with_reducible repeat (first | refine aG ?_ _ | refine aH ?_ | refine aE ?_ _)); refine bD (cs := #[.int .i64 0, .int .i64 0, .slice none 0 0, .int .i64 0, .int .i64 0, .int .i64 0, .int .i64 0, .int .i64 0, .string (⟨#[]⟩ : ByteArray), .int .i64 0, .slice none 0 0, .slice none 0 0]) ?_ 0 _ rfl; (with_reducible repeat (first | refine aG ?_ _ | refine aH ?_ | refine aE ?_ _)); exact BK616.out) hb); have n11_ := mk_ (aA (Short.hB HB) hb); clear HO_11 HO_582002 HO_582010 HO_582011 HO600 HO610 HO613 BK557 BK581 BK616 HB; revert n0_ n1_ n2_ n3_ n4_ n5_ n6_ n7_ n8_ n9_ n10_ n11_; intro HO_11 HO_582002 HO_582010 HO_582011 HO600 HO610 HO613 HO619 BK557 BK581 BK616 HB; (try clear hb); (try clear hb2); (try clear hk); (try clear hi); (try clear ho0); obtain ⟨Ao75, co75, eo75⟩ := cX HO619.out; subst eo75) | (go_at_call 20; (with_reducible refine (cV.calls kj18 _ _ t582 _ _ t617 true _ ?side1 ?side2 ?side3 ?side4 A54.out).mono ?_); (case side1 => exact cX_ (R_reads' HO_11.out).2.2); (case side2 => exact (R_reads' HO_11.out).2.1); (case side3 => exact cX_ (R_reads' HO619.out).2.2); (case side4 => exact (R_reads' HO619.out).2.1); rintro e w' ⟨rfl, ⟨nd, rfl⟩⟩; have hcz_0 := aD BK616.out; have hfz_0 := aQ BK616.out; have hcz_0 := aD BK557.out; have hfz_0 := aQ BK557.out) | (go_at_call 15; (with_reducible refine (eM.calls kj18 t596 t597 _ _ t598 t601 t602 t603 t604 t605 t606 t607 _ _ t608 _ _ t611 a2_0 a2_1 _ _ l2_2 a2_3 a2_4 a2_5 a2_6 a2_7 a2_8 a2_9 _ _ l2_10 _ _ l2_11 true _ ?side1 ?side2 ?side3 ?side4 ?side5 ?side6 ?side7 ?side8 ?side9 ?side10 ?side11 ?side12 A58.out).mono ?_); (case side1 => exact cX_ (R_reads' HO600.out).2.2); (case side2 => exact (R_reads' HO600.out).2.1); (case side3 => exact cX_ (R_reads' HO610.out).2.2); (case side4 => exact (R_reads' HO610.out).2.1); (case side5 => exact cX_ (R_reads' HO613.out).2.2); (case side6 => exact (R_reads' HO613.out).2.1); (case side7 => exact cX_ (aV HR2_2.out (Short.hB HB))); (case side8 => exact HC2_2.out); (case side9 => exact cX_ (aV HR2_10.out (Short.hB HB))); (case side10 => exact HC2_10.out); (case side11 => exact cX_ (aV HR2_11.out (Short.hB HB))); (case side12 => exact HC2_11.out); rintro e w78 ⟨rfl, hb⟩; have n0_ := mk_ (bY (ZKR HO_11) hb); have n1_ := mk_ (bY (ZKR HO_582002) hb); have n2_ := mk_ (bY (ZKR HO_582010) hb); have n3_ := mk_ (bY (ZKR HO_582011) hb); have n4_ := mk_ (bY (ZKR HO600) hb); have n5_ := mk_ (bY (ZKR HO610) hb); have n6_ := mk_ (bY (ZKR HO613) hb); have n7_ := mk_ (bY (ZKR HO619) hb); have n8_ := mk_ (bB_ BK557 hb); have n9_ := mk_ (bB_ BK581 hb); have n10_ := mk_ (bB_ BK616 hb); have n11_ := mk_ (aA (Short.hB HB) hb); clear HO_11 HO_582002 HO_582010 HO_582011 HO600 HO610 HO613 HO619 BK557 BK581 BK616 HB; revert n0_ n1_ n2_ n3_ n4_ n5_ n6_ n7_ n8_ n9_ n10_ n11_; intro HO_11 HO_582002 HO_582010 HO_582011 HO600 HO610 HO613 HO619 BK557 BK581 BK616 HB; (try clear hb); (try clear hb2); (try clear hk); (try clear hi)) | (go_at_call 18; (with_reducible refine (eN.calls  t622 _ A60.out).mono ?_); rintro e w79 ⟨rfl, hb⟩; have n8_ := mk_ (aA (Short.hB HB) hb); clear HB; have HB := n8_; clear n8_ hb))
     go_ret
     exact ⟨q0, Short.hB HB⟩
def aI.WF53 (x : S53) : Prop := (x.f0.length ≤ maxLen ∧ ∀ x0_ ∈ x.f0, (Lit.int .i64 x0_).wf = true)
def aI.WF24 (x : S24) : Prop := (Lit.int .i64 x.f0).wf = true ∧ (Lit.int .i64 x.f1).wf = true
def aI.WF27 (x : S27) : Prop := (Lit.int .i64 x.f0).wf = true ∧ (Lit.int .i64 x.f1).wf = true ∧ (Lit.int .i64 x.f2).wf = true
def aI.WF102 (x : S102) : Prop := (Lit.int .i64 x.f0).wf = true ∧ (Lit.int .i64 x.f1).wf = true ∧ x.f2.size ≤ maxLen
def aI.WF31 (x : S31) : Prop := aI.WF24 x.f0 ∧ (x.f1.length ≤ maxLen ∧ ∀ x0_ ∈ x.f1, (Lit.int .i64 x0_).wf = true) ∧ aI.WF27 x.f2 ∧ (Lit.int .i64 x.f3).wf = true ∧ (Lit.int .i64 x.f4).wf = true ∧ x.f5.size ≤ maxLen ∧ (Lit.int .i64 x.f6).wf = true ∧ (x.f7.length ≤ maxLen ∧ ∀ x0_ ∈ x.f7, aI.WF102 x0_) ∧ (x.f8.length ≤ maxLen ∧ ∀ x0_ ∈ x.f8, aI.WF24 x0_)
def aI.Pure : Prop := ∀ (x0 : Int) (x1 : List (S53)) (x2 : S31) (x3 : ByteArray), (Lit.int .i64 x0).wf = true → (x1.length ≤ maxLen ∧ ∀ x0_ ∈ x1, aI.WF53 x0_) → aI.WF31 x2 → x3.size ≤ maxLen → ∃ k, aI.f k x0 x1 x2.f0.f0 x2.f0.f1 x2.f1 x2.f2.f0 x2.f2.f1 x2.f2.f2 x2.f3 x2.f4 x2.f5 x2.f6 x2.f7 x2.f8 x3 = some true
end Go.Proofs.YtjnjfogfpmeacaaGreat.PAll
end
section
namespace Go.Proofs.YtjnjfogfpmeacaaGreat.Ops
open Go.RowKit PAll Plain PrintWords PrintMore ZipT PrintWords.Kd PrintMore.Kd
set_option linter.unusedVariables false
set_option linter.unusedSimpArgs false
def heavyOp (x : Ox) : Bool := decide ((x.f1.length : Int) > 30) || decide ((x.f5.size : Int) > 100) || heavy x.f7 || decide ((x.f8.length : Int) > 100)
theorem heavy_step (k : Nat) (l : List Ox) (i : Int) (x : Ox) (hi : 0 ≤ i) (hl : i < (l.length : Int)) (hx : dI l i = x) (hk : 60 ≤ k) :
  cG.l0 (k + 1) l i = if heavyOp x = true then some true else cG.l0 k l (wrap64 (i + 1)) := by
 rw [cG.l0]
 rw [if_pos hl, if_pos hi, hx]
 unfold heavyOp
 by_cases h1 : (x.f1.length : Int) > 30
 ·
  rw [if_pos h1, decide_eq_true h1]; simp
 rw [if_neg h1, decide_eq_false h1, Bool.false_or]
 by_cases h2 : (x.f5.size : Int) > 100
 ·
  rw [if_pos h2, decide_eq_true h2]; simp
 rw [if_neg h2, decide_eq_false h2, Bool.false_or, heavy_eq _ _ hk, Option.bind_some]
 cases heavy x.f7
 ·
  rw [if_neg z5_, Bool.false_or]
  by_cases h3 : (x.f8.length : Int) > 100
  ·
   rw [if_pos h3, decide_eq_true h3, if_pos rfl]
  rw [if_neg h3, decide_eq_false h3, if_neg z5_]
 ·
  rw [if_pos rfl]; simp
theorem heavy1_eq (x : Ox) : eH.f x.f0.f0 x.f0.f1 x.f1 x.f2.f0 x.f2.f1 x.f2.f2 x.f3 x.f4 x.f5 x.f6 x.f7 x.f8 = some (heavyOp x) := by
 show cG.f 500 [x] = _
 unfold cG.f
 rw [if_neg z6_, heavy_step 499 [x] 0 x z4_ z6_ rfl z4_]
 cases h : heavyOp x
 ·
  rw [if_neg z5_, w64 z4_ z4_, show (499 : Nat) = 498 + 1 from rfl, cG.l0, if_neg z6_]
 ·
  rw [if_pos rfl]
theorem light_small {x : Ox} (h : heavyOp x = false) : x.f1.length ≤ 30 ∧ x.f7.length ≤ 40 ∧ x.f8.length ≤ 100 ∧ x.f5.size ≤ 100 := by
 unfold heavyOp at h
 simp only [Bool.or_eq_false_iff, decide_eq_false_iff_not] at h
 have := heavy_len (show ¬ heavy x.f7 = true by rw [h.1.2]; decide)
 omega
theorem jD {x : Ox} (h : heavyOp x = false) : opSmall x := by
 have := light_small h
 exact ⟨by omega, by omega, by omega⟩
theorem jN {α : Type} {f : α → List Int} {n : Nat} (h : ∀ x, (f x).length = n) : ∀ l : List α, (l.flatMap f).length = n * l.length
 | [] => rfl
 | x :: l => by rw [List.flatMap_cons, List.length_append, h, jN h l, List.length_cons, Nat.mul_succ]; omega
theorem opB_length (x : Ox) : (opB x).length = 20 + 4 * x.f1.length + x.f5.size + (rowB x.f7).length + 1 + 5 * x.f8.length := by
 have h1 : (x.f1.flatMap fun n => big n 4).length = 4 * x.f1.length := jN (fun n => cF _ _) _
 have h2 : (x.f8.flatMap dotB).length = 5 * x.f8.length := jN (fun d => by simp [dotB, cF]) _
 simp only [opB, dotB, numsB, stampB, dotsB, encT, List.length_append, cF, h1, h2, List.length_cons, dO]
 omega
theorem iQ (n : Int) (s : Nat) (h1 : 1 ≤ s) (h7 : s ≤ 7) : aX.f n (s : Int) = some (decide (fitN s n)) := by
 unfold aX.f
 by_cases h : n ≥ 0
 rotate_left
 ·
  rw [if_neg h, decide_eq_false (fun e => h e.1)]
 rw [if_pos h, w64 z4_ z4_, wu64 z4_ z4_, if_pos z4_, shr_bytes n s z4_]
 congr 1
 have hp : (0 : Int) < 256 ^ s := Int.pow_pos z5_
 by_cases hf : fitN s n
 ·
  rw [decide_eq_true hf, beq_iff_eq]; exact Int.ediv_eq_zero_of_lt hf.1 hf.2
 rw [decide_eq_false hf, beq_eq_false_iff_ne]
 intro e
 apply hf
 refine ⟨h, ?_⟩
 have h3 := Int.ediv_mul_le n (show (256 : Int) ^ s ≠ 0 by omega)
 have h4 := Int.emod_lt_of_pos n hp
 have h5 := Int.emod_add_mul_ediv n (256 ^ s)
 rw [e, Int.mul_zero, Int.add_zero] at h5
 omega
theorem dotFit_eq (d : Dt) : cD.f d.f0 d.f1 = some (decide (dotFit d)) := by
 have a1 := iQ d.f0 1 z5_ z5_
 have a4 := iQ d.f1 4 z5_ z5_
 unfold cD.f
 refine (congrArg (fun q => Option.bind q _) a1).trans ?_
 rw [Option.bind_some]
 by_cases h1 : fitN 1 d.f0
 rotate_left
 ·
  rw [decide_eq_false h1, if_neg z5_, decide_eq_false (fun e => h1 e.1)]
 rw [decide_eq_true h1, if_pos rfl]
 refine (congrArg (fun q => Option.bind q _) a4).trans ?_
 rw [Option.bind_some]
 congr 1; rw [decide_eq_decide]; exact ⟨fun e => ⟨h1, e⟩, fun e => e.2⟩
theorem stampFit_eq (t : St) : cQ.f t.f0 t.f1 t.f2 = some (decide (stampFit t)) := by
 have a1 := iQ t.f0 6 z5_ z5_
 have a2 := iQ t.f1 3 z5_ z5_
 have a3 := iQ t.f2 1 z5_ z5_
 unfold cQ.f
 refine (congrArg (fun q => Option.bind q _) a1).trans ?_
 rw [Option.bind_some]
 by_cases h1 : fitN 6 t.f0
 rotate_left
 ·
  rw [decide_eq_false h1, if_neg z5_, decide_eq_false (fun e => h1 e.1.1)]
 rw [decide_eq_true h1, if_pos rfl]
 refine (congrArg (fun q => Option.bind q _) a2).trans ?_
 rw [Option.bind_some]
 by_cases h2 : fitN 3 t.f1
 rotate_left
 ·
  rw [decide_eq_false h2, if_neg z5_, decide_eq_false (fun e => h2 e.1.2)]
 rw [decide_eq_true h2, if_pos rfl]
 refine (congrArg (fun q => Option.bind q _) a3).trans ?_
 rw [Option.bind_some]
 congr 1; rw [decide_eq_decide]; exact ⟨fun e => ⟨⟨h1, h2⟩, e⟩, fun e => e.2⟩
theorem vecFit_l0 (l : List Int) (hl : l.length ≤ 1000000) (m : List Int) : ∀ (k i : Nat), l.drop i = m → m.length < k →
  bG.l0 k l (i : Int) = some (decide ((∀ n ∈ m, fitN 4 n) ∧ l.length ≤ 5)) := by
 induction m with
 | nil =>
  intro k i h hk
  obtain ⟨k, rfl⟩ : ∃ j, k = j + 1 := ⟨k - 1, by omega⟩
  have := dF h
  simp only [bG.l0]
  rw [if_neg z4_]
  congr 1; rw [decide_eq_decide]; constructor
  ·
   intro e; exact ⟨fun n hn => (by cases hn), by omega⟩
  ·
   intro e; have := e.2; omega
 | cons v m ih =>
  intro k i h hk
  obtain ⟨k, rfl⟩ : ∃ j, k = j + 1 := ⟨k - 1, by omega⟩
  have hi := dM h
  simp only [List.length_cons] at hk
  have a4 := iQ v 4 z5_ z5_
  simp only [bG.l0]
  rw [if_pos z4_, if_pos z4_, fZ h]
  refine (congrArg (fun q => Option.bind q _) a4).trans ?_
  rw [Option.bind_some]
  by_cases ho : fitN 4 v
  rotate_left
  ·
   rw [decide_eq_false ho, if_neg z5_, decide_eq_false (fun e => ho (e.1 v List.mem_cons_self))]
  rw [decide_eq_true ho, if_pos rfl, w64 z4_ z4_]
  refine (ih k (i + 1) (cI h) z4_).trans ?_
  congr 1; rw [decide_eq_decide]
  exact ⟨fun e => ⟨fun n hn => by rcases List.mem_cons.1 hn with rfl | hn; exact ho; exact e.1 n hn, e.2⟩, fun e => ⟨fun n hn => e.1 n (List.mem_cons_of_mem _ hn), e.2⟩⟩
theorem vecFit_eq (k : Nat) (l : List Int) (hl : l.length ≤ 1000000) (hk : l.length < k) : bG.f k l = some (decide (numsFit l)) := by
 have := vecFit_l0 l hl l k 0 rfl hk
 unfold bG.f
 refine this.trans ?_
 congr 1; rw [decide_eq_decide]; exact ⟨fun e => ⟨e.2, e.1⟩, fun e => ⟨e.2, e.1⟩⟩
theorem dotsFit_l0 (x : Ox) (hl : x.f8.length ≤ 1000000) (m : List Dt) : ∀ (k i : Nat), x.f8.drop i = m → m.length < k →
  aU.l0 k (i : Int) x.f0.f0 x.f0.f1 x.f1 x.f2.f0 x.f2.f1 x.f2.f2 x.f3 x.f4 x.f5 x.f6 x.f7 x.f8 = some (decide (∀ d ∈ m, dotFit d)) := by
 induction m with
 | nil =>
  intro k i h hk
  obtain ⟨k, rfl⟩ : ∃ j, k = j + 1 := ⟨k - 1, by omega⟩
  have := dF h
  simp only [aU.l0]
  rw [if_neg z4_, decide_eq_true (fun d hd => by cases hd)]
 | cons v m ih =>
  intro k i h hk
  obtain ⟨k, rfl⟩ : ∃ j, k = j + 1 := ⟨k - 1, by omega⟩
  have hi := dM h
  simp only [List.length_cons] at hk
  simp only [aU.l0]
  rw [if_pos z4_, if_pos z4_, iM h, dotFit_eq, Option.bind_some]
  by_cases ho : dotFit v
  rotate_left
  ·
   rw [decide_eq_false ho, if_neg z5_, decide_eq_false (fun e => ho (e v List.mem_cons_self))]
  rw [decide_eq_true ho, if_pos rfl, w64 z4_ z4_]
  refine (ih k (i + 1) (cI h) z4_).trans ?_
  congr 1; rw [decide_eq_decide]
  exact ⟨fun e d hd => by rcases List.mem_cons.1 hd with rfl | hd; exact ho; exact e d hd, fun e d hd => e d (List.mem_cons_of_mem _ hd)⟩
theorem opFits_eq (k : Nat) (x : Ox) (hx : opSmall x) (hk : 1100 ≤ k) : aU.f k x.f0.f0 x.f0.f1 x.f1 x.f2.f0 x.f2.f1 x.f2.f2 x.f3 x.f4 x.f5 x.f6 x.f7 x.f8 = some (decide (opFit x)) := by
 obtain ⟨h1s, h7s, h8s⟩ := hx
 obtain ⟨k, rfl⟩ : ∃ j, k = j + 1 := ⟨k - 1, by omega⟩
 have hT : aU.j0 (k + 1) true x.f0.f0 x.f0.f1 x.f1 x.f2.f0 x.f2.f1 x.f2.f2 x.f3 x.f4 x.f5 x.f6 x.f7 x.f8 = some false := by simp only [aU.j0, if_true]
 unfold aU.f
 refine (congrArg (fun q => Option.bind q _) (iQ x.f3 1 z5_ z5_)).trans ?_
 rw [Option.bind_some]
 by_cases e3 : fitN 1 x.f3
 rotate_left
 ·
  rw [decide_eq_false e3, if_neg z5_, hT, decide_eq_false (fun h => e3 h.1.1.1.1.1.1.1.1)]
 rw [decide_eq_true e3, if_pos rfl, dotFit_eq, Option.bind_some]
 by_cases e0 : dotFit x.f0
 rotate_left
 ·
  rw [decide_eq_false e0, if_neg z5_, hT, decide_eq_false (fun h => e0 h.1.1.1.1.1.1.1.2)]
 rw [decide_eq_true e0, if_pos rfl, vecFit_eq _ _ z4_ z4_, Option.bind_some]
 by_cases e1 : numsFit x.f1
 rotate_left
 ·
  rw [decide_eq_false e1, if_neg z5_, hT, decide_eq_false (fun h => e1 h.1.1.1.1.1.1.2)]
 rw [decide_eq_true e1, if_pos rfl, stampFit_eq, Option.bind_some]
 by_cases e2 : stampFit x.f2
 rotate_left
 ·
  rw [decide_eq_false e2, if_neg z5_, hT, decide_eq_false (fun h => e2 h.1.1.1.1.1.2)]
 rw [decide_eq_true e2, if_pos rfl]
 refine (congrArg (fun q => Option.bind q _) (iQ x.f4 1 z5_ z5_)).trans ?_
 rw [Option.bind_some]
 by_cases e4 : fitN 1 x.f4
 rotate_left
 ·
  rw [decide_eq_false e4, if_neg z5_, hT, decide_eq_false (fun h => e4 h.1.1.1.1.2)]
 rw [decide_eq_true e4, if_pos rfl]
 by_cases e5 : (x.f5.size : Int) > 24
 ·
  rw [if_pos e5, hT, decide_eq_false (fun h => by have := h.1.1.1.2; omega)]
 rw [if_neg e5]
 refine (congrArg (fun q => Option.bind q _) (iQ x.f6 1 z5_ z5_)).trans ?_
 rw [Option.bind_some]
 by_cases e6 : fitN 1 x.f6
 rotate_left
 ·
  rw [decide_eq_false e6, if_neg z5_, hT, decide_eq_false (fun h => e6 h.1.1.2)]
 rw [decide_eq_true e6, if_pos rfl, refRow_eq _ _ z4_ z4_, Option.bind_some]
 by_cases e7 : rowE x.f7 = 0
 rotate_left
 ·
  rw [if_neg e7, hT, decide_eq_false (fun h => e7 h.1.2)]
 rw [if_pos e7]
 by_cases e8 : (x.f8.length : Int) > 64
 ·
  rw [decide_eq_true e8, hT, decide_eq_false (fun h => by have := h.2.1; omega)]
 rw [decide_eq_false e8]
 simp only [aU.j0]
 rw [if_neg z5_]
 refine (dotsFit_l0 x z4_ x.f8 k 0 rfl z4_).trans ?_
 congr 1; rw [decide_eq_decide]
 exact ⟨fun e => ⟨⟨⟨⟨⟨⟨⟨⟨e3, e0⟩, e1⟩, e2⟩, e4⟩, by omega⟩, e6⟩, e7⟩, by omega, e⟩, fun e => e.2.2⟩
end Go.Proofs.YtjnjfogfpmeacaaGreat.Ops
end
section
namespace Go.Proofs.YtjnjfogfpmeacaaGreat.Ops
open Go.RowKit PAll Plain PrintWords PrintMore ZipT PrintWords.Kd PrintMore.Kd
set_option linter.unusedVariables false
set_option linter.unusedSimpArgs false
def hvFo (f : List Tb) : Bool := decide (f.length > 30) || f.any fun t => decide (t.f0.length > 30)
theorem hvFo_l0 (f : List Tb) (hl : f.length ≤ 30) (m : List Tb) : ∀ (k i : Nat), f.drop i = m → m.length < k →
  bP.l0 k f (i : Int) = some (m.any fun t => decide (t.f0.length > 30)) := by
 induction m with
 | nil =>
  intro k i h hk
  obtain ⟨k, rfl⟩ : ∃ j, k = j + 1 := ⟨k - 1, by omega⟩
  have := List.drop_eq_nil_iff.1 h
  simp only [bP.l0]
  rw [if_neg z4_]; rfl
 | cons v m ih =>
  intro k i h hk
  obtain ⟨k, rfl⟩ : ∃ j, k = j + 1 := ⟨k - 1, by omega⟩
  have h2 := dM h
  rw [List.length_cons] at hk
  simp only [bP.l0]
  rw [if_pos z4_, if_pos z4_, iV h, List.any_cons]
  by_cases c : v.f0.length > 30
  ·
   rw [if_pos z4_, decide_eq_true c]; rfl
  rw [if_neg z4_, decide_eq_false c, Bool.false_or, w64 z4_ z4_]
  exact ih k (i + 1) (cI h) z4_
theorem hvFo_eq (k : Nat) (f : List Tb) (hk : 40 ≤ k) : bP.f k f = some (hvFo f) := by
 unfold bP.f hvFo
 by_cases c : f.length > 30
 ·
  rw [if_pos z4_, decide_eq_true c]; rfl
 rw [if_neg z4_, decide_eq_false c, Bool.false_or]
 exact hvFo_l0 f z4_ f k 0 rfl z4_
theorem hvFo_len {f : List Tb} (h : hvFo f = false) : f.length ≤ 30 ∧ ∀ t ∈ f, t.f0.length ≤ 30 := by
 unfold hvFo at h
 rw [Bool.or_eq_false_iff, decide_eq_false_iff_not, List.any_eq_false] at h
 exact ⟨by omega, fun t ht => by have := h.2 t ht; rw [decide_eq_true_eq] at this; omega⟩
end Go.Proofs.YtjnjfogfpmeacaaGreat.Ops
end
section
namespace Go.Proofs.YtjnjfogfpmeacaaGreat.Pure
open Go.RowKit PAll PrintWords PrintLast Plain Ops ZipT PrintWords.Kd PrintMore.Kd
set_option linter.unusedVariables false
set_option linter.unusedSimpArgs false
theorem rcheck_eq (k : Nat) (n : Int) (f : List Tb) (x : Ox) (hx : x.f1.length ≤ 1000 ∧ x.f7.length ≤ 1000 ∧ x.f8.length ≤ 1000) (hl : f.length ≤ 30) (hf : f.length ≤ 1000 ∧ ∀ t ∈ f, t.f0.length ≤ 1000) (hk : 1100 ≤ k) :
  fC.f k n f x.f0.f0 x.f0.f1 x.f1 x.f2.f0 x.f2.f1 x.f2.f2 x.f3 x.f4 x.f5 x.f6 x.f7 x.f8 = some (checkE n f x) := by
 unfold fC.f checkE
 rw [rforms_eq k f z4_ z4_, Option.bind_some]
 by_cases h0 : formsE f = 0
 rotate_left
 ·
  rw [if_neg h0, if_pos (show formsE f ≠ 0 from h0)]
 rw [if_pos h0, if_neg (show ¬ formsE f ≠ 0 from fun e => e h0)]
 by_cases h1 : n < 1
 ·
  rw [if_pos h1, if_pos (.inl h1)]
 rw [if_neg h1]
 by_cases h2 : n > 5
 ·
  rw [if_pos h2, if_pos (.inr h2)]
 rw [if_neg h2, if_neg z4_]
 have : fA.f n f x.f0.f0 x.f0.f1 x.f1 x.f2.f0 x.f2.f1 x.f2.f2 x.f3 x.f4 x.f5 x.f6 x.f7 x.f8 = some (rightB n f x) := by
  unfold fA.f
  exact if_pos ⟨⟨by omega, by omega⟩, hx, hf⟩
 rw [this, Option.bind_some]
 cases rightB n f x
 ·
  rfl
 ·
  rfl
theorem twin_ints (l : List Int) (h : l.length ≤ 1000) : dL.f l = some l := by unfold dL.f; rw [if_pos (by show 0 + _ < _; omega)]; rfl
theorem twin_op (x : Ox) (hx : x.f1.length ≤ 1000 ∧ x.f7.length ≤ 1000 ∧ x.f8.length ≤ 1000) : cT.f x.f0.f0 x.f0.f1 x.f1 x.f2.f0 x.f2.f1 x.f2.f2 x.f3 x.f4 x.f5 x.f6 x.f7 x.f8 = some (x.f0.f0, x.f0.f1, x.f1, x.f2.f0, x.f2.f1, x.f2.f2, x.f3, x.f4, x.f5, x.f6, x.f7, x.f8) := by
 have h2 : eI.f x.f7 = some x.f7 := by unfold eI.f; rw [if_pos (by show 0 + _ < _; omega)]; rfl
 unfold cT.f
 rw [twin_ints _ z4_, Option.bind_some, h2, Option.bind_some, if_pos (by show 0 + _ < _; omega)]; rfl
theorem rdF_drop {l : List Tb} {i : Nat} {v : Tb} {m : List Tb} (h : l.drop i = v :: m) : cS l (i : Int) = v := by
 show l.getD ((i : Int).toNat) _ = v
 rw [Int.toNat_natCast, List.getD_eq_getElem?_getD]
 have : l[i]? = (l.drop i)[0]? := by rw [List.getElem?_drop]; simp
 rw [this, h]; rfl
theorem twinF_l0 (f : List Tb) (hf : f.length ≤ 1000 ∧ ∀ t ∈ f, t.f0.length ≤ 1000) (m : List Tb) : ∀ (k i : Nat) (acc : List Tb), f.drop i = m → acc.length ≤ i → m.length < k →
  bZ.l0 k f acc (i : Int) = some (acc ++ m) := by
 induction m with
 | nil =>
  intro k i acc h ha hk
  obtain ⟨k, rfl⟩ : ∃ j, k = j + 1 := ⟨k - 1, by omega⟩
  have := List.drop_eq_nil_iff.1 h
  simp only [bZ.l0]
  rw [if_neg z4_, List.append_nil]
 | cons v m ih =>
  intro k i acc h ha hk
  obtain ⟨k, rfl⟩ : ∃ j, k = j + 1 := ⟨k - 1, by omega⟩
  have hi := dM h
  rw [List.length_cons] at hk
  have hv : v ∈ f := List.mem_of_mem_drop (by rw [h]; exact List.mem_cons_self ..)
  simp only [bZ.l0]
  rw [if_pos z4_, if_pos z4_, rdF_drop h, twin_ints _ (hf.2 v hv), Option.bind_some, if_pos z4_, w64 z4_ z4_]
  have := ih k (i + 1) (acc ++ [v]) (cI h) (by rw [List.length_append, List.length_singleton]; omega) z4_
  rw [List.append_assoc] at this
  exact this
theorem twinF_eq (k : Nat) (f : List Tb) (hf : f.length ≤ 1000 ∧ ∀ t ∈ f, t.f0.length ≤ 1000) (hk : 1100 ≤ k) : bZ.f k f = some f := by
 unfold bZ.f
 exact twinF_l0 f hf f k 0 [] rfl (Nat.le_refl _) z4_
theorem ints_l0 (l : List Int) (hl : l.length ≤ 1000) (m : List Int) : ∀ (k i : Nat), l.drop i = m → m.length < k → bR.l0 k l l (i : Int) = some true := by
 induction m with
 | nil =>
  intro k i h hk
  obtain ⟨k, rfl⟩ : ∃ j, k = j + 1 := ⟨k - 1, by omega⟩
  have := List.drop_eq_nil_iff.1 h
  simp only [bR.l0]
  rw [if_neg z4_]
 | cons v m ih =>
  intro k i h hk
  obtain ⟨k, rfl⟩ : ∃ j, k = j + 1 := ⟨k - 1, by omega⟩
  have hi := dM h
  rw [List.length_cons] at hk
  simp only [bR.l0]
  rw [if_pos z4_, if_pos z4_, if_pos z4_, if_pos trivial, w64 z4_ z4_]
  exact ih k (i + 1) (cI h) z4_
theorem ints_same (k : Nat) (l : List Int) (hl : l.length ≤ 1000) (hk : 1001 ≤ k) : bR.f k l l = some true := by
 unfold bR.f
 rw [if_pos rfl]
 exact ints_l0 l hl l k 0 rfl z4_
theorem keepF_l0 (f : List Tb) (hf : f.length ≤ 100 ∧ ∀ t ∈ f, t.f0.length ≤ 1000) (m : List Tb) : ∀ (k i : Nat), f.drop i = m → m.length + 1001 < k → cW.l0 k f f (i : Int) = some true := by
 induction m with
 | nil =>
  intro k i h hk
  obtain ⟨k, rfl⟩ : ∃ j, k = j + 1 := ⟨k - 1, by omega⟩
  have := List.drop_eq_nil_iff.1 h
  simp only [cW.l0]
  rw [if_neg z4_]
 | cons v m ih =>
  intro k i h hk
  obtain ⟨k, rfl⟩ : ∃ j, k = j + 1 := ⟨k - 1, by omega⟩
  have hi := dM h
  rw [List.length_cons] at hk
  have hv : v ∈ f := List.mem_of_mem_drop (by rw [h]; exact List.mem_cons_self ..)
  simp only [cW.l0]
  rw [if_pos z4_, if_pos z4_, if_pos z4_, rdF_drop h, ints_same k _ (hf.2 v hv) z4_, Option.bind_some, if_pos rfl, w64 z4_ z4_]
  exact ih k (i + 1) (cI h) z4_
theorem keepF_eq (k : Nat) (f : List Tb) (hf : f.length ≤ 100 ∧ ∀ t ∈ f, t.f0.length ≤ 1000) (hk : 1200 ≤ k) : cW.f k f f = some true := by
 unfold cW.f
 rw [if_pos rfl]
 exact keepF_l0 f hf f k 0 rfl z4_
theorem big1 (n : Int) : big n 1 = [n % 256] := by simp [big]
theorem dotBytes_eq (k : Nat) (d : Dt) (hk : 10 ≤ k) : bS.f k d.f0 d.f1 = some (dotB d) := by
 unfold bS.f dotB
 have b4 : bC.f k d.f1 4 = some (big d.f1 4) := be_eq k d.f1 4 z4_ hk
 rw [Option.bind_some, b4, Option.bind_some, if_pos (by rw [cF]; simp), big1]
theorem vecB_l0 (l : List Int) (hl : l.length ≤ 1000) (m : List Int) : ∀ (k i : Nat) (acc : List Int), l.drop i = m → acc.length ≤ 4 * i + 1 → m.length + 12 ≤ k →
  bM.l0 k l acc (i : Int) = some (acc ++ m.flatMap fun n => big n 4) := by
 induction m with
 | nil =>
  intro k i acc h ha hk
  obtain ⟨k, rfl⟩ : ∃ j, k = j + 1 := ⟨k - 1, by omega⟩
  have := dF h
  simp only [bM.l0]
  rw [if_neg z4_]; simp
 | cons v m ih =>
  intro k i acc h ha hk
  obtain ⟨k, rfl⟩ : ∃ j, k = j + 1 := ⟨k - 1, by omega⟩
  have hi := dM h
  rw [List.length_cons] at hk
  have b4 : bC.f k v 4 = some (big v 4) := be_eq k v 4 z4_ z4_
  simp only [bM.l0]
  rw [if_pos z4_, if_pos z4_, fZ h, b4, Option.bind_some, if_pos (by rw [cF]; omega), w64 z4_ z4_]
  have := ih k (i + 1) (acc ++ big v 4) (cI h) (by rw [List.length_append, cF]; omega) z4_
  rw [List.append_assoc] at this
  rw [List.flatMap_cons]
  exact this
theorem vecB_eq (k : Nat) (l : List Int) (hl : l.length ≤ 1000) (hk : 1100 ≤ k) : bM.f k l = some (numsB l) := by
 unfold bM.f numsB
 rw [big1]
 exact vecB_l0 l hl l k 0 _ rfl z6_ z4_
theorem stampB_eq (k : Nat) (t : St) (hk : 10 ≤ k) : bO.f k t.f0 t.f1 t.f2 = some (stampB t) := by
 unfold bO.f stampB
 have b6 : bC.f k t.f0 6 = some (big t.f0 6) := be_eq k t.f0 6 z4_ hk
 have b3 : bC.f k t.f1 3 = some (big t.f1 3) := be_eq k t.f1 3 z4_ hk
 rw [b6, Option.bind_some, b3, Option.bind_some, if_pos (by rw [cF, cF]; omega), Option.bind_some, Option.bind_some, if_pos (by rw [List.length_append, cF, cF]; simp), big1]
theorem opBytes_l0 (x : Ox) (hl : x.f8.length ≤ 100) (m : List Dt) : ∀ (k i : Nat) (acc : List Int), x.f8.drop i = m → acc.length ≤ 5 * i + 3000 → m.length + 12 ≤ k →
  aM.l0 k acc (i : Int) x.f0.f0 x.f0.f1 x.f1 x.f2.f0 x.f2.f1 x.f2.f2 x.f3 x.f4 x.f5 x.f6 x.f7 x.f8 = some (acc ++ m.flatMap dotB) := by
 induction m with
 | nil =>
  intro k i acc h ha hk
  obtain ⟨k, rfl⟩ : ∃ j, k = j + 1 := ⟨k - 1, by omega⟩
  have := List.drop_eq_nil_iff.1 h
  simp only [aM.l0]
  rw [if_neg z4_]; simp
 | cons v m ih =>
  intro k i acc h ha hk
  obtain ⟨k, rfl⟩ : ∃ j, k = j + 1 := ⟨k - 1, by omega⟩
  have hi := dM h
  rw [List.length_cons] at hk
  have hd : (dotB v).length = 5 := by unfold dotB; rw [List.length_append, cF, cF]
  simp only [aM.l0]
  rw [if_pos z4_, if_pos z4_, iM h, dotBytes_eq k v z4_, Option.bind_some, if_pos z4_, w64 z4_ z4_]
  have := ih k (i + 1) (acc ++ dotB v) (cI h) (by rw [List.length_append]; omega) z4_
  rw [List.append_assoc] at this
  rw [List.flatMap_cons]
  exact this
theorem opBytes_f (k : Nat) (x : Ox) (h : opFit x) (hk : 1200 ≤ k) : aM.f k x.f0.f0 x.f0.f1 x.f1 x.f2.f0 x.f2.f1 x.f2.f2 x.f3 x.f4 x.f5 x.f6 x.f7 x.f8 = some (opB x) := by
 obtain ⟨⟨⟨⟨⟨⟨⟨⟨q0, q1⟩, q2⟩, q3⟩, q4⟩, q5⟩, q6⟩, q7⟩, q8⟩ := id h
 have l8 := q8.1
 have l2 := q2.1
 have hd : (dotB x.f0).length = 5 := by unfold dotB; rw [List.length_append, cF, cF]
 have hs : (stampB x.f2).length = 10 := by unfold stampB; rw [List.length_append, List.length_append, cF, cF, cF]
 have hv : (numsB x.f1).length ≤ 1000 := by unfold numsB; rw [List.length_append, cF, jN (fun n => cF _ _)]; omega
 have hr : (rowB x.f7).length ≤ 1000 := by have := (opB_len x h).2; rw [opB_length] at this; omega
 have hb : (bytesOf x.f5).length = x.f5.size := dO _
 have hz : ((x.f5.size : Int)) % 256 = x.f5.size := Int.emod_eq_of_lt z4_ z4_
 unfold aM.f
 rw [Option.bind_some, dotBytes_eq k x.f0 z4_, Option.bind_some, if_pos (by simp only [List.length_cons, List.length_nil]; omega), Option.bind_some, vecB_eq k _ z4_ z4_, Option.bind_some,
  if_pos (by simp only [List.length_append, List.length_cons, List.length_nil]; omega), Option.bind_some, stampB_eq k _ z4_, Option.bind_some, if_pos (by simp only [List.length_append, List.length_cons, List.length_nil]; omega), Option.bind_some, Option.bind_some,
  if_pos (by simp only [List.length_append, List.length_cons, List.length_nil]; omega), Option.bind_some, if_pos (by simp only [List.length_append, List.length_cons, List.length_nil]; omega), Option.bind_some,
  if_pos (by simp only [List.length_append, List.length_cons, List.length_nil]; omega), Option.bind_some, rrowBytes_eq k _ q7 z4_, Option.bind_some, if_pos (by simp only [List.length_append, List.length_cons, List.length_nil]; omega), Option.bind_some,
  if_pos (by simp only [List.length_append, List.length_cons, List.length_nil]; omega)]
 refine (opBytes_l0 x z4_ x.f8 k 0 _ rfl (by simp only [List.length_append, List.length_cons, List.length_nil]; omega) z4_).trans ?_
 congr 1
 unfold opB dotsB encT
 rw [big1, big1, big1, big1, hz]
 simp only [List.append_assoc, List.cons_append, List.nil_append]
set_option maxHeartbeats 1000000 in
theorem OpExact : aI.Pure := by
 intro n f x s hn hf hx hs
 refine ⟨1305, ?_⟩
 have hT : aI.j0 (1304 + 1) n f s true x.f0.f0 x.f0.f1 x.f1 x.f2.f0 x.f2.f1 x.f2.f2 x.f3 x.f4 x.f5 x.f6 x.f7 x.f8 = some true := by simp only [aI.j0, if_true]
 unfold aI.f
 rw [hvFo_eq _ _ z4_, Option.bind_some]
 cases hv : hvFo f
 rotate_left
 ·
  rw [if_pos rfl]; exact hT
 rw [if_neg z5_, heavy1_eq, Option.bind_some]
 cases hh : heavyOp x
 rotate_left
 ·
  rw [if_pos rfl]; exact hT
 rw [if_neg z5_]
 have hlf := hvFo_len hv
 have hxs := light_small hh
 have hbx := bytes_f x (jD hh)
 have hof := opFits_eq 1303 x (jD hh) z4_
 have hfs : f.length ≤ 1000 ∧ ∀ t ∈ f, t.f0.length ≤ 1000 := ⟨by omega, fun t ht => by have := hlf.2 t ht; omega⟩
 by_cases h0 : (s.size : Int) > 100
 ·
  rw [decide_eq_true h0]; exact hT
 rw [decide_eq_false h0]
 have hw := wakes7_eq
 show aI.j0 (1304 + 1) _ _ _ _ _ _ _ _ _ _ _ _ _ _ _ _ = _
 simp only [aI.j0]
 rw [if_neg z5_, twin_op x z4_, Option.bind_some, twinF_eq _ f hfs z4_, Option.bind_some]
 dsimp only
 rw [hbx, Option.bind_some, forms_eq _ _ hfs.1 z4_, Option.bind_some, rforms_eq _ _ z4_ z4_, Option.bind_some, if_pos rfl, key_eq, Option.bind_some, rkey_eq, Option.bind_some, if_neg z6_,
  check_op_eq _ n f x z4_ hfs z4_, Option.bind_some, rcheck_eq _ n f x z4_ hlf.1 hfs z4_, Option.bind_some, if_pos rfl, keepOp_eq _ x x z4_ z4_ z4_ z4_, Option.bind_some, if_pos (decide_eq_true rfl),
  keepF_eq _ f ⟨by omega, hfs.2⟩ z4_, Option.bind_some]
 show aI.j1 (1303 + 1) _ _ _ _ _ _ _ _ _ _ _ _ _ _ _ = _
 simp only [aI.j1]
 rw [if_neg z5_, hof, Option.bind_some, opBytes_eq]
 by_cases fx : opFit x
 rotate_left
 ·
  rw [decide_eq_false fx, if_neg z5_, if_neg fx]
  dsimp only
  rw [if_pos rfl, if_pos z6_, hw]
  rfl
 rw [decide_eq_true fx, if_pos rfl, if_pos fx]
 have hl := opB_len _ fx
 dsimp only
 rw [read_f _ _ (opB_bytes fx) z4_, Option.bind_some, if_pos rfl, opBytes_f _ x fx z4_, Option.bind_some, same_eq _ _ _ z4_ z4_, Option.bind_some, if_pos (decide_eq_true rfl), read_back fx]
 dsimp only
 rw [if_pos rfl, if_pos rfl, keepOp_eq _ x x z4_ z4_ z4_ z4_, Option.bind_some, if_pos (decide_eq_true rfl), hw]
 rfl
end Go.Proofs.YtjnjfogfpmeacaaGreat.Pure
end
