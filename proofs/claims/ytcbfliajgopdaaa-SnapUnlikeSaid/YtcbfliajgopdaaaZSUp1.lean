-- Put together by a program of this session (wip/slice2.py) out of the seat's texts.
import Derived.Test.YtcbfliajgopdaaaZSUp0

set_option maxHeartbeats 8000000
set_option maxRecDepth 100000
open Go.Proofs.YtcbfliajgopdaaaW Go.Proofs.Ytcbfliajgopdaaa
section
namespace Go.Proofs.Ytcbfliajgopdaaa.PAll
open Go.RowKit PrintWords PrintLast PrintMore ZipT PrintWords.Kd PrintMore.Kd
attribute [local go_sem] eC eA eN eR dR dP eD eB   -- for this text's walks alone
set_option linter.unusedVariables false
set_option linter.unusedSimpArgs false
mutual
def bB.j0 : Nat → Bool → List Int → Int → Int → Int → List (List (S80)) → List (List Int) → List (S54) → List Int → Int → Int → Int → List (List (S80)) → List (List Int) → List (S54) → Option (Bool)
 | 0, _, _, _, _, _, _, _, _, _, _, _, _, _, _, _ => none
 | k + 1, x44, x307000, x307001, x307002, x307003, x307004, x307005, x307006, x308000, x308001, x308002, x308003, x308004, x308005, x308006 => if x44 = true then (some false) else (bB.l0 k 0 x307000 x307001 x307002 x307003 x307004 x307005 x307006 x308000 x308001 x308002 x308003 x308004 x308005 x308006)
def bB.l0 : Nat → Int → List Int → Int → Int → Int → List (List (S80)) → List (List Int) → List (S54) → List Int → Int → Int → Int → List (List (S80)) → List (List Int) → List (S54) → Option (Bool)
 | 0, _, _, _, _, _, _, _, _, _, _, _, _, _, _, _ => none
 | k + 1, x5, x307000, x307001, x307002, x307003, x307004, x307005, x307006, x308000, x308001, x308002, x308003, x308004, x308005, x308006 => if x5 < (x307004.length : Int) then (if 0 ≤ x5 then (if x5 < (x308004.length : Int) then ((aW.f k (aX x307004 x5) (aX x308004 x5)).bind fun t314 => (if t314 = true then (bB.l0 k (wrap64 (x5 + 1)) x307000 x307001 x307002 x307003 x307004 x307005 x307006 x308000 x308001 x308002 x308003 x308004 x308005 x308006) else (some false))) else (none)) else (none)) else (some true)
end
def bB.f (k : Nat) (l0_0 : List Int) (a0_1 : Int) (a0_2 : Int) (a0_3 : Int) (l0_4 : List (List (S80))) (l0_5 : List (List Int)) (l0_6 : List (S54)) (l1_0 : List Int) (a1_1 : Int) (a1_2 : Int) (a1_3 : Int) (l1_4 : List (List (S80))) (l1_5 : List (List Int)) (l1_6 : List (S54)) : Option (Bool) := (bH.f k l0_0 l1_0).bind fun t308 => (if t308 = true then ((cE.f a0_1 a0_2 a0_3 a1_1 a1_2 a1_3).bind fun t309 => (if t309 = true then (if (l0_4.length : Int) = (l1_4.length : Int) then ((bU.f k l0_5 l1_5).bind fun t310 => (if t310 = true then ((bR.f k l0_6 l1_6).bind fun t311 => (bB.j0 k (!t311) l0_0 a0_1 a0_2 a0_3 l0_4 l0_5 l0_6 l1_0 a1_1 a1_2 a1_3 l1_4 l1_5 l1_6)) else (bB.j0 k true l0_0 a0_1 a0_2 a0_3 l0_4 l0_5 l0_6 l1_0 a1_1 a1_2 a1_3 l1_4 l1_5 l1_6))) else (bB.j0 k true l0_0 a0_1 a0_2 a0_3 l0_4 l0_5 l0_6 l1_0 a1_1 a1_2 a1_3 l1_4 l1_5 l1_6)) else (bB.j0 k true l0_0 a0_1 a0_2 a0_3 l0_4 l0_5 l0_6 l1_0 a1_1 a1_2 a1_3 l1_4 l1_5 l1_6))) else (bB.j0 k true l0_0 a0_1 a0_2 a0_3 l0_4 l0_5 l0_6 l1_0 a1_1 a1_2 a1_3 l1_4 l1_5 l1_6))
def bB.T6 : Bool × List (List Nat × List Nat) := (true, [([], []), ([0], [0]), ([], []), ([1, 2], [1, 2]), ([3], [3]), ([], []), ([5], [5]), ([], []), ([6, 7], [6, 7]), ([8], [8]), ([4, 9], [4, 9]), ([10], [10])])
def bB.B6 : List Nat := [0, 1, 0, 7, 15, 0, 32, 0, 224, 480, 1023, 2047]
theorem bB.tab6 : rtab .any (opsOf Try.f10 6) = bB.T6 := by kernel_rfl
theorem bB.bits6 : waitsOk bB.T6.2 bB.B6 = true := by kernel_rfl
theorem bB.calls (k : Nat) (A0_0 : Option Addr) (c0_0 : Nat) (l0_0 : List Int) (a0_1 : Int) (a0_2 : Int) (a0_3 : Int) (A0_4 : Option Addr) (c0_4 : Nat) (l0_4 : List (List (S80))) (A0_5 : Option Addr) (c0_5 : Nat) (l0_5 : List (List Int)) (A0_6 : Option Addr) (c0_6 : Nat) (l0_6 : List (S54)) (A1_0 : Option Addr) (c1_0 : Nat) (l1_0 : List Int) (a1_1 : Int) (a1_2 : Int) (a1_3 : Int) (A1_4 : Option Addr) (c1_4 : Nat) (l1_4 : List (List (S80))) (A1_5 : Option Addr) (c1_5 : Nat) (l1_5 : List (List Int)) (A1_6 : Option Addr) (c1_6 : Nat) (l1_6 : List (S54)) (r : Bool) (w : World) (hr0_0 : Kd.C (Kd.int .i64) w A0_0 l0_0.length l0_0) (hc0_0 : l0_0.length ≤ c0_0) (hr0_4 : Kd.C (Kd.slice 80 k80) w A0_4 l0_4.length l0_4) (hc0_4 : l0_4.length ≤ c0_4) (hr0_5 : Kd.C (Kd.slice 3 (Kd.int .i64)) w A0_5 l0_5.length l0_5) (hc0_5 : l0_5.length ≤ c0_5) (hr0_6 : Kd.C k54 w A0_6 l0_6.length l0_6) (hc0_6 : l0_6.length ≤ c0_6) (hr1_0 : Kd.C (Kd.int .i64) w A1_0 l1_0.length l1_0) (hc1_0 : l1_0.length ≤ c1_0) (hr1_4 : Kd.C (Kd.slice 80 k80) w A1_4 l1_4.length l1_4) (hc1_4 : l1_4.length ≤ c1_4) (hr1_5 : Kd.C (Kd.slice 3 (Kd.int .i64)) w A1_5 l1_5.length l1_5) (hc1_5 : l1_5.length ≤ c1_5) (hr1_6 : Kd.C k54 w A1_6 l1_6.length l1_6) (hc1_6 : l1_6.length ≤ c1_6) (h : bB.f k l0_0 a0_1 a0_2 a0_3 l0_4 l0_5 l0_6 l1_0 a1_1 a1_2 a1_3 l1_4 l1_5 l1_6 = some r) :
  Calls Try.prog 10 #[.agg #[.slice A0_0 l0_0.length c0_0, .int .i64 a0_1, .int .i64 a0_2, .int .i64 a0_3, .slice A0_4 l0_4.length c0_4, .slice A0_5 l0_5.length c0_5, .slice A0_6 l0_6.length c0_6], .agg #[.slice A1_0 l1_0.length c1_0, .int .i64 a1_1, .int .i64 a1_2, .int .i64 a1_3, .slice A1_4 l1_4.length c1_4, .slice A1_5 l1_5.length c1_5, .slice A1_6 l1_6.length c1_6]] w fun e w' => e = .returned (.bool r) ∧ Below w.heap.size w w' := by
 have hu31 := Try.underlying31
 have hu26 := Try.underlying26
 have HR0_0 := mk_ hr0_0
 have HC0_0 := mk_ hc0_0
 clear hr0_0 hc0_0
 have HR0_4 := mk_ hr0_4
 have HC0_4 := mk_ hc0_4
 clear hr0_4 hc0_4
 have HR0_5 := mk_ hr0_5
 have HC0_5 := mk_ hc0_5
 clear hr0_5 hc0_5
 have HR0_6 := mk_ hr0_6
 have HC0_6 := mk_ hc0_6
 clear hr0_6 hc0_6
 have HR1_0 := mk_ hr1_0
 have HC1_0 := mk_ hc1_0
 clear hr1_0 hc1_0
 have HR1_4 := mk_ hr1_4
 have HC1_4 := mk_ hc1_4
 clear hr1_4 hc1_4
 have HR1_5 := mk_ hr1_5
 have HC1_5 := mk_ hc1_5
 clear hr1_5 hc1_5
 have HR1_6 := mk_ hr1_6
 have HC1_6 := mk_ hc1_6
 clear hr1_6 hc1_6
 have HB := mk_ (Below.refl w.heap.size w)
 have H : ((bH.f k l0_0 l1_0).bind fun t308 => (if t308 = true then ((cE.f a0_1 a0_2 a0_3 a1_1 a1_2 a1_3).bind fun t309 => (if t309 = true then (if (l0_4.length : Int) = (l1_4.length : Int) then ((bU.f k l0_5 l1_5).bind fun t310 => (if t310 = true then ((bR.f k l0_6 l1_6).bind fun t311 => (bB.j0 k (!t311) l0_0 a0_1 a0_2 a0_3 l0_4 l0_5 l0_6 l1_0 a1_1 a1_2 a1_3 l1_4 l1_5 l1_6)) else (bB.j0 k true l0_0 a0_1 a0_2 a0_3 l0_4 l0_5 l0_6 l1_0 a1_1 a1_2 a1_3 l1_4 l1_5 l1_6))) else (bB.j0 k true l0_0 a0_1 a0_2 a0_3 l0_4 l0_5 l0_6 l1_0 a1_1 a1_2 a1_3 l1_4 l1_5 l1_6)) else (bB.j0 k true l0_0 a0_1 a0_2 a0_3 l0_4 l0_5 l0_6 l1_0 a1_1 a1_2 a1_3 l1_4 l1_5 l1_6))) else (bB.j0 k true l0_0 a0_1 a0_2 a0_3 l0_4 l0_5 l0_6 l1_0 a1_1 a1_2 a1_3 l1_4 l1_5 l1_6))) = some r := h
 clear h
 have HC3 := mk_ H
 clear H
 go_enter Try.func10, Try.ntmps10
 go_upto_region 1 with (first | ((with_reducible refine bP (N := 2) rfl ?_); (try (refine fP (by rfl) ?_; dsimp only)); refine bL ?hg (N := 2) ?hd (cs := #[.slice A0_0 l0_0.length c0_0, .int .i64 a0_1, .int .i64 a0_2, .int .i64 a0_3, .slice A0_4 l0_4.length c0_4, .slice A0_5 l0_5.length c0_5, .slice A0_6 l0_6.length c0_6]) (t := 31) ?hr ?_; (case hd => rfl); (case hg => rfl); (case hr => first | (go_simp; done) | (go_simp; rfl)); intro gb306 hg w4 hbox hb; have n0_ := mk_ (aI (Short.hB HB) hb); have n1_ := mk_ (hbox); have n2_ := mk_ ((by rw [hg]; exact (aN (Short.hB HB)) : w.heap.size ≤ gb306)); have n3_ := mk_ ((by rw [hg]; exact (aN (Short.hB HB)) : w.heap.size ≤ gb306)); clear HB; revert n0_ n1_ n2_ n3_; intro HB BK306 GW306 GE306; clear hb hbox hg) | ((with_reducible refine bP (N := 3) rfl ?_); (try (refine fP (by rfl) ?_; dsimp only)); refine bL ?hg (N := 3) ?hd (cs := #[.slice A1_0 l1_0.length c1_0, .int .i64 a1_1, .int .i64 a1_2, .int .i64 a1_3, .slice A1_4 l1_4.length c1_4, .slice A1_5 l1_5.length c1_5, .slice A1_6 l1_6.length c1_6]) (t := 31) ?hr ?_; (case hd => rfl); (case hg => rfl); (case hr => first | (go_simp; done) | (go_simp; rfl)); intro gb307 hg w5 hbox hb; have n0_ := mk_ (bB_ BK306 hb); have n1_ := mk_ (aI (Short.hB HB) hb); have n2_ := mk_ (hbox); have n3_ := mk_ ((by rw [hg]; exact (aN (Short.hB HB)) : w.heap.size ≤ gb307)); have n4_ := mk_ ((by rw [hg]; exact (aN (Short.hB HB)) : w.heap.size ≤ gb307)); have n5_ := mk_ ((by rw [hg]; exact Nat.ne_of_lt (eG (Short.bK BK306)) : gb306 ≠ gb307)); have n6_ := mk_ ((by rw [hg]; exact Nat.ne_of_gt (eG (Short.bK BK306)) : gb307 ≠ gb306)); clear BK306 HB; revert n0_ n1_ n2_ n3_ n4_ n5_ n6_; intro BK306 HB BK307 GW307 GE307 NB306_307 NB307_306; clear hb hbox hg))
 (try simp only [Act.put, List.setIfInBounds_toArray, List.set_cons_zero, List.set_cons_succ])
 go_cut [44] (fun v44 wc => ∃ (kq : Nat) (x44_2 : Bool), v44 = .bool x44_2 ∧ Aside0 (bB.j0 kq x44_2 l0_0 a0_1 a0_2 a0_3 l0_4 l0_5 l0_6 l1_0 a1_1 a1_2 a1_3 l1_4 l1_5 l1_6 = some r) ∧ Aside0 (kq ≤ k) ∧ Aside0 (wc.heap[gb306]? = some (.cells #[(.slice A0_0 l0_0.length c0_0), .int .i64 a0_1, .int .i64 a0_2, .int .i64 a0_3, (.slice A0_4 l0_4.length c0_4), (.slice A0_5 l0_5.length c0_5), (.slice A0_6 l0_6.length c0_6)] 31 (0, 0))) ∧ Aside0 (wc.heap[gb307]? = some (.cells #[(.slice A1_0 l1_0.length c1_0), .int .i64 a1_1, .int .i64 a1_2, .int .i64 a1_3, (.slice A1_4 l1_4.length c1_4), (.slice A1_5 l1_5.length c1_5), (.slice A1_6 l1_6.length c1_6)] 31 (0, 0))) ∧ Aside0 (Below w.heap.size w wc))
 case first =>
  have H := HC3.out
  clear HC3
  obtain ⟨t308, A6, H⟩ := Option.bind_eq_some_iff.mp H
  replace A6 := mk_ A6
  by_cases c7 : t308 = true
  rotate_left
  ·
   replace c7 := Bool.eq_false_iff.mpr c7
   subst c7
   rw [if_neg (show ¬ (false = true) by decide)] at H
   have H' := mk_ H
   clear H
   have hnb37 := NB306_307.out
   have hnc37 := NB307_306.out
   have hcz38_0 : w5.cell? ⟨gb306, 0, none⟩ = some (.slice A0_0 l0_0.length c0_0) := kc_ BK306 0
   have hcz38_1 : w5.cell? ⟨gb306, 1, none⟩ = some (.int .i64 a0_1) := kc_ BK306 1
   have hcz38_2 : w5.cell? ⟨gb306, 2, none⟩ = some (.int .i64 a0_2) := kc_ BK306 2
   have hcz38_3 : w5.cell? ⟨gb306, 3, none⟩ = some (.int .i64 a0_3) := kc_ BK306 3
   have hcz38_4 : w5.cell? ⟨gb306, 4, none⟩ = some (.slice A0_4 l0_4.length c0_4) := kc_ BK306 4
   have hcz38_5 : w5.cell? ⟨gb306, 5, none⟩ = some (.slice A0_5 l0_5.length c0_5) := kc_ BK306 5
   have hcz38_6 : w5.cell? ⟨gb306, 6, none⟩ = some (.slice A0_6 l0_6.length c0_6) := kc_ BK306 6
   have hfz38_0 := aH BK306.out
   have hcz39_0 : w5.cell? ⟨gb307, 0, none⟩ = some (.slice A1_0 l1_0.length c1_0) := kc_ BK307 0
   have hcz39_1 : w5.cell? ⟨gb307, 1, none⟩ = some (.int .i64 a1_1) := kc_ BK307 1
   have hcz39_2 : w5.cell? ⟨gb307, 2, none⟩ = some (.int .i64 a1_2) := kc_ BK307 2
   have hcz39_3 : w5.cell? ⟨gb307, 3, none⟩ = some (.int .i64 a1_3) := kc_ BK307 3
   have hcz39_4 : w5.cell? ⟨gb307, 4, none⟩ = some (.slice A1_4 l1_4.length c1_4) := kc_ BK307 4
   have hcz39_5 : w5.cell? ⟨gb307, 5, none⟩ = some (.slice A1_5 l1_5.length c1_5) := kc_ BK307 5
   have hcz39_6 : w5.cell? ⟨gb307, 6, none⟩ = some (.slice A1_6 l1_6.length c1_6) := kc_ BK307 6
   have hfz39_0 := aH BK307.out
   go_wp2_with (first | ((with_reducible refine aT (f := 41) rfl ?_); refine Short.gL (some 10) Try.func41 #[.slice A0_0 l0_0.length c0_0, .slice A1_0 l1_0.length c1_0] (h := ?_); (with_reducible refine (bH.calls k _ _ l0_0 _ _ l1_0 false _ ?side1 ?side2 ?side3 ?side4 A6.out).mono ?_); (case side1 => exact cX_ (aV HR0_0.out HB.out)); (case side2 => exact HC0_0.out); (case side3 => exact cX_ (aV HR1_0.out HB.out)); (case side4 => exact HC1_0.out); rintro e w' ⟨rfl, ⟨nd, rfl⟩⟩; refine ⟨_, rfl, ?_⟩))
   go_meet
   case rel => exact ⟨_, (true), z3_, H', ⟨by first | omega | exact Nat.le_refl _⟩, ⟨by (with_reducible repeat (first | refine aG ?_ _ | refine aJ ?_ | refine aE ?_ _)); exact BK306.out⟩, ⟨by (with_reducible repeat (first | refine aG ?_ _ | refine aJ ?_ | refine aE ?_ _)); exact BK307.out⟩, ⟨Short.hB HB⟩⟩
  subst c7
  rw [if_pos rfl] at H
  obtain ⟨t309, A8, H⟩ := Option.bind_eq_some_iff.mp H
  replace A8 := mk_ A8
  by_cases c9 : t309 = true
  rotate_left
  ·
   replace c9 := Bool.eq_false_iff.mpr c9
   subst c9
   rw [if_neg (show ¬ (false = true) by decide)] at H
   have H' := mk_ H
   clear H
   have hnb33 := NB306_307.out
   have hnc33 := NB307_306.out
   have hcz34_0 : w5.cell? ⟨gb306, 0, none⟩ = some (.slice A0_0 l0_0.length c0_0) := kc_ BK306 0
   have hcz34_1 : w5.cell? ⟨gb306, 1, none⟩ = some (.int .i64 a0_1) := kc_ BK306 1
   have hcz34_2 : w5.cell? ⟨gb306, 2, none⟩ = some (.int .i64 a0_2) := kc_ BK306 2
   have hcz34_3 : w5.cell? ⟨gb306, 3, none⟩ = some (.int .i64 a0_3) := kc_ BK306 3
   have hcz34_4 : w5.cell? ⟨gb306, 4, none⟩ = some (.slice A0_4 l0_4.length c0_4) := kc_ BK306 4
   have hcz34_5 : w5.cell? ⟨gb306, 5, none⟩ = some (.slice A0_5 l0_5.length c0_5) := kc_ BK306 5
   have hcz34_6 : w5.cell? ⟨gb306, 6, none⟩ = some (.slice A0_6 l0_6.length c0_6) := kc_ BK306 6
   have hfz34_0 := aH BK306.out
   have hcz35_0 : w5.cell? ⟨gb307, 0, none⟩ = some (.slice A1_0 l1_0.length c1_0) := kc_ BK307 0
   have hcz35_1 : w5.cell? ⟨gb307, 1, none⟩ = some (.int .i64 a1_1) := kc_ BK307 1
   have hcz35_2 : w5.cell? ⟨gb307, 2, none⟩ = some (.int .i64 a1_2) := kc_ BK307 2
   have hcz35_3 : w5.cell? ⟨gb307, 3, none⟩ = some (.int .i64 a1_3) := kc_ BK307 3
   have hcz35_4 : w5.cell? ⟨gb307, 4, none⟩ = some (.slice A1_4 l1_4.length c1_4) := kc_ BK307 4
   have hcz35_5 : w5.cell? ⟨gb307, 5, none⟩ = some (.slice A1_5 l1_5.length c1_5) := kc_ BK307 5
   have hcz35_6 : w5.cell? ⟨gb307, 6, none⟩ = some (.slice A1_6 l1_6.length c1_6) := kc_ BK307 6
   have hfz35_0 := aH BK307.out
   go_wp2_with (first | ((with_reducible refine aT (f := 41) rfl ?_); refine Short.gL (some 10) Try.func41 #[.slice A0_0 l0_0.length c0_0, .slice A1_0 l1_0.length c1_0] (h := ?_); (with_reducible refine (bH.calls k _ _ l0_0 _ _ l1_0 true _ ?side1 ?side2 ?side3 ?side4 A6.out).mono ?_); (case side1 => exact cX_ (aV HR0_0.out HB.out)); (case side2 => exact HC0_0.out); (case side3 => exact cX_ (aV HR1_0.out HB.out)); (case side4 => exact HC1_0.out); rintro e w' ⟨rfl, ⟨nd, rfl⟩⟩; refine ⟨_, rfl, ?_⟩) | (go_at_call 42; (with_reducible refine (cE.calls a0_1 a0_2 a0_3 a1_1 a1_2 a1_3 false _ A8.out).mono ?_); rintro e w36 ⟨rfl, hb⟩; have n0_ := mk_ (bB_ BK306 hb); have n1_ := mk_ (bB_ BK307 hb); have n2_ := mk_ (aI (Short.hB HB) hb); clear BK306 BK307 HB; revert n0_ n1_ n2_; intro BK306 BK307 HB; (try clear hb); (try clear hb2); (try clear hk); (try clear hi)))
   go_meet
   case rel => exact ⟨_, (true), z3_, H', ⟨by first | omega | exact Nat.le_refl _⟩, ⟨by (with_reducible repeat (first | refine aG ?_ _ | refine aJ ?_ | refine aE ?_ _)); exact BK306.out⟩, ⟨by (with_reducible repeat (first | refine aG ?_ _ | refine aJ ?_ | refine aE ?_ _)); exact BK307.out⟩, ⟨Short.hB HB⟩⟩
  subst c9
  rw [if_pos rfl] at H
  by_cases c10 : (l0_4.length : Int) = (l1_4.length : Int)
  rotate_left
  ·
   rw [if_neg c10] at H
   have c10b0 : ((l0_4.length : Int) == (l1_4.length : Int)) = false := beq_eq_false_iff_ne.mpr c10
   have c10b1 : ((l0_4.length : Int) != (l1_4.length : Int)) = true := bne_iff_ne.mpr c10
   have c10b2 : (l0_4.length == l1_4.length) = false := by first | simpa using c10 | (simp at c10 ⊢; omega)
   (first | rw [c10b0] | (simp only [i64_w, i32_w]; rw [c10b0]) | skip)
   have H' := mk_ H
   clear H
   have hnb27 := NB306_307.out
   have hnc27 := NB307_306.out
   have hcz28_0 : w5.cell? ⟨gb306, 0, none⟩ = some (.slice A0_0 l0_0.length c0_0) := kc_ BK306 0
   have hcz28_1 : w5.cell? ⟨gb306, 1, none⟩ = some (.int .i64 a0_1) := kc_ BK306 1
   have hcz28_2 : w5.cell? ⟨gb306, 2, none⟩ = some (.int .i64 a0_2) := kc_ BK306 2
   have hcz28_3 : w5.cell? ⟨gb306, 3, none⟩ = some (.int .i64 a0_3) := kc_ BK306 3
   have hcz28_4 : w5.cell? ⟨gb306, 4, none⟩ = some (.slice A0_4 l0_4.length c0_4) := kc_ BK306 4
   have hcz28_5 : w5.cell? ⟨gb306, 5, none⟩ = some (.slice A0_5 l0_5.length c0_5) := kc_ BK306 5
   have hcz28_6 : w5.cell? ⟨gb306, 6, none⟩ = some (.slice A0_6 l0_6.length c0_6) := kc_ BK306 6
   have hfz28_0 := aH BK306.out
   have hcz29_0 : w5.cell? ⟨gb307, 0, none⟩ = some (.slice A1_0 l1_0.length c1_0) := kc_ BK307 0
   have hcz29_1 : w5.cell? ⟨gb307, 1, none⟩ = some (.int .i64 a1_1) := kc_ BK307 1
   have hcz29_2 : w5.cell? ⟨gb307, 2, none⟩ = some (.int .i64 a1_2) := kc_ BK307 2
   have hcz29_3 : w5.cell? ⟨gb307, 3, none⟩ = some (.int .i64 a1_3) := kc_ BK307 3
   have hcz29_4 : w5.cell? ⟨gb307, 4, none⟩ = some (.slice A1_4 l1_4.length c1_4) := kc_ BK307 4
   have hcz29_5 : w5.cell? ⟨gb307, 5, none⟩ = some (.slice A1_5 l1_5.length c1_5) := kc_ BK307 5
   have hcz29_6 : w5.cell? ⟨gb307, 6, none⟩ = some (.slice A1_6 l1_6.length c1_6) := kc_ BK307 6
   have hfz29_0 := aH BK307.out
   go_wp2_with (first | ((with_reducible refine aT (f := 41) rfl ?_); refine Short.gL (some 10) Try.func41 #[.slice A0_0 l0_0.length c0_0, .slice A1_0 l1_0.length c1_0] (h := ?_); (with_reducible refine (bH.calls k _ _ l0_0 _ _ l1_0 true _ ?side1 ?side2 ?side3 ?side4 A6.out).mono ?_); (case side1 => exact cX_ (aV HR0_0.out HB.out)); (case side2 => exact HC0_0.out); (case side3 => exact cX_ (aV HR1_0.out HB.out)); (case side4 => exact HC1_0.out); rintro e w' ⟨rfl, ⟨nd, rfl⟩⟩; refine ⟨_, rfl, ?_⟩) | (go_at_call 42; (with_reducible refine (cE.calls a0_1 a0_2 a0_3 a1_1 a1_2 a1_3 true _ A8.out).mono ?_); rintro e w30 ⟨rfl, hb⟩; have n0_ := mk_ (bB_ BK306 hb); have n1_ := mk_ (bB_ BK307 hb); have n2_ := mk_ (aI (Short.hB HB) hb); clear BK306 BK307 HB; revert n0_ n1_ n2_; intro BK306 BK307 HB; (try clear hb); (try clear hb2); (try clear hk); (try clear hi); have hcz31_0 : w30.cell? ⟨gb306, 0, none⟩ = some (.slice A0_0 l0_0.length c0_0) := kc_ BK306 0; have hcz31_1 : w30.cell? ⟨gb306, 1, none⟩ = some (.int .i64 a0_1) := kc_ BK306 1; have hcz31_2 : w30.cell? ⟨gb306, 2, none⟩ = some (.int .i64 a0_2) := kc_ BK306 2; have hcz31_3 : w30.cell? ⟨gb306, 3, none⟩ = some (.int .i64 a0_3) := kc_ BK306 3; have hcz31_4 : w30.cell? ⟨gb306, 4, none⟩ = some (.slice A0_4 l0_4.length c0_4) := kc_ BK306 4; have hcz31_5 : w30.cell? ⟨gb306, 5, none⟩ = some (.slice A0_5 l0_5.length c0_5) := kc_ BK306 5; have hcz31_6 : w30.cell? ⟨gb306, 6, none⟩ = some (.slice A0_6 l0_6.length c0_6) := kc_ BK306 6; have hfz31_0 := aH BK306.out; have hcz32_0 : w30.cell? ⟨gb307, 0, none⟩ = some (.slice A1_0 l1_0.length c1_0) := kc_ BK307 0; have hcz32_1 : w30.cell? ⟨gb307, 1, none⟩ = some (.int .i64 a1_1) := kc_ BK307 1; have hcz32_2 : w30.cell? ⟨gb307, 2, none⟩ = some (.int .i64 a1_2) := kc_ BK307 2; have hcz32_3 : w30.cell? ⟨gb307, 3, none⟩ = some (.int .i64 a1_3) := kc_ BK307 3; have hcz32_4 : w30.cell? ⟨gb307, 4, none⟩ = some (.slice A1_4 l1_4.length c1_4) := kc_ BK307 4; have hcz32_5 : w30.cell? ⟨gb307, 5, none⟩ = some (.slice A1_5 l1_5.length c1_5) := kc_ BK307 5; have hcz32_6 : w30.cell? ⟨gb307, 6, none⟩ = some (.slice A1_6 l1_6.length c1_6) := kc_ BK307 6; have hfz32_0 := aH BK307.out))
   go_meet
   case rel => exact ⟨_, (true), z3_, H', ⟨by first | omega | exact Nat.le_refl _⟩, ⟨by (with_reducible repeat (first | refine aG ?_ _ | refine aJ ?_ | refine aE ?_ _)); exact BK306.out⟩, ⟨by (with_reducible repeat (first | refine aG ?_ _ | refine aJ ?_ | refine aE ?_ _)); exact BK307.out⟩, ⟨Short.hB HB⟩⟩
  rw [if_pos c10] at H
  have c10b0 : ((l0_4.length : Int) == (l1_4.length : Int)) = true := beq_iff_eq.mpr c10
  have c10b1 : ((l0_4.length : Int) != (l1_4.length : Int)) = false := bne_eq_false_iff_eq.mpr c10
  have c10b2 : (l0_4.length == l1_4.length) = true := by first | simpa using c10 | (simp at c10 ⊢; omega)
  clear c10
  (first | rw [c10b0] | (simp only [i64_w, i32_w]; rw [c10b0]) | skip)
  obtain ⟨t310, A11, H⟩ := Option.bind_eq_some_iff.mp H
  replace A11 := mk_ A11
  by_cases c12 : t310 = true
  rotate_left
  ·
   replace c12 := Bool.eq_false_iff.mpr c12
   subst c12
   rw [if_neg (show ¬ (false = true) by decide)] at H
   have H' := mk_ H
   clear H
   have hnb21 := NB306_307.out
   have hnc21 := NB307_306.out
   have hcz22_0 : w5.cell? ⟨gb306, 0, none⟩ = some (.slice A0_0 l0_0.length c0_0) := kc_ BK306 0
   have hcz22_1 : w5.cell? ⟨gb306, 1, none⟩ = some (.int .i64 a0_1) := kc_ BK306 1
   have hcz22_2 : w5.cell? ⟨gb306, 2, none⟩ = some (.int .i64 a0_2) := kc_ BK306 2
   have hcz22_3 : w5.cell? ⟨gb306, 3, none⟩ = some (.int .i64 a0_3) := kc_ BK306 3
   have hcz22_4 : w5.cell? ⟨gb306, 4, none⟩ = some (.slice A0_4 l0_4.length c0_4) := kc_ BK306 4
   have hcz22_5 : w5.cell? ⟨gb306, 5, none⟩ = some (.slice A0_5 l0_5.length c0_5) := kc_ BK306 5
   have hcz22_6 : w5.cell? ⟨gb306, 6, none⟩ = some (.slice A0_6 l0_6.length c0_6) := kc_ BK306 6
   have hfz22_0 := aH BK306.out
   have hcz23_0 : w5.cell? ⟨gb307, 0, none⟩ = some (.slice A1_0 l1_0.length c1_0) := kc_ BK307 0
   have hcz23_1 : w5.cell? ⟨gb307, 1, none⟩ = some (.int .i64 a1_1) := kc_ BK307 1
   have hcz23_2 : w5.cell? ⟨gb307, 2, none⟩ = some (.int .i64 a1_2) := kc_ BK307 2
   have hcz23_3 : w5.cell? ⟨gb307, 3, none⟩ = some (.int .i64 a1_3) := kc_ BK307 3
   have hcz23_4 : w5.cell? ⟨gb307, 4, none⟩ = some (.slice A1_4 l1_4.length c1_4) := kc_ BK307 4
   have hcz23_5 : w5.cell? ⟨gb307, 5, none⟩ = some (.slice A1_5 l1_5.length c1_5) := kc_ BK307 5
   have hcz23_6 : w5.cell? ⟨gb307, 6, none⟩ = some (.slice A1_6 l1_6.length c1_6) := kc_ BK307 6
   have hfz23_0 := aH BK307.out
   go_wp2_with (first | ((with_reducible refine aT (f := 41) rfl ?_); refine Short.gL (some 10) Try.func41 #[.slice A0_0 l0_0.length c0_0, .slice A1_0 l1_0.length c1_0] (h := ?_); (with_reducible refine (bH.calls k _ _ l0_0 _ _ l1_0 true _ ?side1 ?side2 ?side3 ?side4 A6.out).mono ?_); (case side1 => exact cX_ (aV HR0_0.out HB.out)); (case side2 => exact HC0_0.out); (case side3 => exact cX_ (aV HR1_0.out HB.out)); (case side4 => exact HC1_0.out); rintro e w' ⟨rfl, ⟨nd, rfl⟩⟩; refine ⟨_, rfl, ?_⟩) | (go_at_call 42; (with_reducible refine (cE.calls a0_1 a0_2 a0_3 a1_1 a1_2 a1_3 true _ A8.out).mono ?_); rintro e w24 ⟨rfl, hb⟩; have n0_ := mk_ (bB_ BK306 hb); have n1_ := mk_ (bB_ BK307 hb); have n2_ := mk_ (aI (Short.hB HB) hb); clear BK306 BK307 HB; revert n0_ n1_ n2_; intro BK306 BK307 HB; (try clear hb); (try clear hb2); (try clear hk); (try clear hi); have hcz25_0 : w24.cell? ⟨gb306, 0, none⟩ = some (.slice A0_0 l0_0.length c0_0) := kc_ BK306 0; have hcz25_1 : w24.cell? ⟨gb306, 1, none⟩ = some (.int .i64 a0_1) := kc_ BK306 1; have hcz25_2 : w24.cell? ⟨gb306, 2, none⟩ = some (.int .i64 a0_2) := kc_ BK306 2; have hcz25_3 : w24.cell? ⟨gb306, 3, none⟩ = some (.int .i64 a0_3) := kc_ BK306 3; have hcz25_4 : w24.cell? ⟨gb306, 4, none⟩ = some (.slice A0_4 l0_4.length c0_4) := kc_ BK306 4; have hcz25_5 : w24.cell? ⟨gb306, 5, none⟩ = some (.slice A0_5 l0_5.length c0_5) := kc_ BK306 5; have hcz25_6 : w24.cell? ⟨gb306, 6, none⟩ = some (.slice A0_6 l0_6.length c0_6) := kc_ BK306 6; have hfz25_0 := aH BK306.out; have hcz26_0 : w24.cell? ⟨gb307, 0, none⟩ = some (.slice A1_0 l1_0.length c1_0) := kc_ BK307 0; have hcz26_1 : w24.cell? ⟨gb307, 1, none⟩ = some (.int .i64 a1_1) := kc_ BK307 1; have hcz26_2 : w24.cell? ⟨gb307, 2, none⟩ = some (.int .i64 a1_2) := kc_ BK307 2; have hcz26_3 : w24.cell? ⟨gb307, 3, none⟩ = some (.int .i64 a1_3) := kc_ BK307 3; have hcz26_4 : w24.cell? ⟨gb307, 4, none⟩ = some (.slice A1_4 l1_4.length c1_4) := kc_ BK307 4; have hcz26_5 : w24.cell? ⟨gb307, 5, none⟩ = some (.slice A1_5 l1_5.length c1_5) := kc_ BK307 5; have hcz26_6 : w24.cell? ⟨gb307, 6, none⟩ = some (.slice A1_6 l1_6.length c1_6) := kc_ BK307 6; have hfz26_0 := aH BK307.out) | (go_at_call 43; (with_reducible refine (bU.calls k _ _ l0_5 _ _ l1_5 false _ ?side1 ?side2 ?side3 ?side4 A11.out).mono ?_); (case side1 => exact cX_ (aV HR0_5.out HB.out)); (case side2 => exact HC0_5.out); (case side3 => exact cX_ (aV HR1_5.out HB.out)); (case side4 => exact HC1_5.out); rintro e w' ⟨rfl, ⟨nd, rfl⟩⟩))
   go_meet
   case rel => exact ⟨_, (true), z3_, H', ⟨by first | omega | exact Nat.le_refl _⟩, ⟨by (with_reducible repeat (first | refine aG ?_ _ | refine aJ ?_ | refine aE ?_ _)); exact BK306.out⟩, ⟨by (with_reducible repeat (first | refine aG ?_ _ | refine aJ ?_ | refine aE ?_ _)); exact BK307.out⟩, ⟨Short.hB HB⟩⟩
  subst c12
  rw [if_pos rfl] at H
  obtain ⟨t311, A13, H⟩ := Option.bind_eq_some_iff.mp H
  replace A13 := mk_ A13
  have H' := mk_ H
  clear H
  have hnb14 := NB306_307.out
  have hnc14 := NB307_306.out
  have hcz15_0 : w5.cell? ⟨gb306, 0, none⟩ = some (.slice A0_0 l0_0.length c0_0) := kc_ BK306 0
  have hcz15_1 : w5.cell? ⟨gb306, 1, none⟩ = some (.int .i64 a0_1) := kc_ BK306 1
  have hcz15_2 : w5.cell? ⟨gb306, 2, none⟩ = some (.int .i64 a0_2) := kc_ BK306 2
  have hcz15_3 : w5.cell? ⟨gb306, 3, none⟩ = some (.int .i64 a0_3) := kc_ BK306 3
  have hcz15_4 : w5.cell? ⟨gb306, 4, none⟩ = some (.slice A0_4 l0_4.length c0_4) := kc_ BK306 4
  have hcz15_5 : w5.cell? ⟨gb306, 5, none⟩ = some (.slice A0_5 l0_5.length c0_5) := kc_ BK306 5
  have hcz15_6 : w5.cell? ⟨gb306, 6, none⟩ = some (.slice A0_6 l0_6.length c0_6) := kc_ BK306 6
  have hfz15_0 := aH BK306.out
  have hcz16_0 : w5.cell? ⟨gb307, 0, none⟩ = some (.slice A1_0 l1_0.length c1_0) := kc_ BK307 0
  have hcz16_1 : w5.cell? ⟨gb307, 1, none⟩ = some (.int .i64 a1_1) := kc_ BK307 1
  have hcz16_2 : w5.cell? ⟨gb307, 2, none⟩ = some (.int .i64 a1_2) := kc_ BK307 2
  have hcz16_3 : w5.cell? ⟨gb307, 3, none⟩ = some (.int .i64 a1_3) := kc_ BK307 3
  have hcz16_4 : w5.cell? ⟨gb307, 4, none⟩ = some (.slice A1_4 l1_4.length c1_4) := kc_ BK307 4
  have hcz16_5 : w5.cell? ⟨gb307, 5, none⟩ = some (.slice A1_5 l1_5.length c1_5) := kc_ BK307 5
  have hcz16_6 : w5.cell? ⟨gb307, 6, none⟩ = some (.slice A1_6 l1_6.length c1_6) := kc_ BK307 6
  have hfz16_0 := aH BK307.out
  go_wp2_with (first | ((with_reducible refine aT (f := 41) rfl ?_); refine Short.gL (some 10) Try.func41 #[.slice A0_0 l0_0.length c0_0, .slice A1_0 l1_0.length c1_0] (h := ?_); (with_reducible refine (bH.calls k _ _ l0_0 _ _ l1_0 true _ ?side1 ?side2 ?side3 ?side4 A6.out).mono ?_); (case side1 => exact cX_ (aV HR0_0.out HB.out)); (case side2 => exact HC0_0.out); (case side3 => exact cX_ (aV HR1_0.out HB.out)); (case side4 => exact HC1_0.out); rintro e w' ⟨rfl, ⟨nd, rfl⟩⟩; refine ⟨_, rfl, ?_⟩) | (go_at_call 42; (with_reducible refine (cE.calls a0_1 a0_2 a0_3 a1_1 a1_2 a1_3 true _ A8.out).mono ?_); rintro e w17 ⟨rfl, hb⟩; have n0_ := mk_ (bB_ BK306 hb); have n1_ := mk_ (bB_ BK307 hb); have n2_ := mk_ (aI (Short.hB HB) hb); clear BK306 BK307 HB; revert n0_ n1_ n2_; intro BK306 BK307 HB; (try clear hb); (try clear hb2); (try clear hk); (try clear hi); have hcz18_0 : w17.cell? ⟨gb306, 0, none⟩ = some (.slice A0_0 l0_0.length c0_0) := kc_ BK306 0; have hcz18_1 : w17.cell? ⟨gb306, 1, none⟩ = some (.int .i64 a0_1) := kc_ BK306 1; have hcz18_2 : w17.cell? ⟨gb306, 2, none⟩ = some (.int .i64 a0_2) := kc_ BK306 2; have hcz18_3 : w17.cell? ⟨gb306, 3, none⟩ = some (.int .i64 a0_3) := kc_ BK306 3; have hcz18_4 : w17.cell? ⟨gb306, 4, none⟩ = some (.slice A0_4 l0_4.length c0_4) := kc_ BK306 4; have hcz18_5 : w17.cell? ⟨gb306, 5, none⟩ = some (.slice A0_5 l0_5.length c0_5) := kc_ BK306 5; have hcz18_6 : w17.cell? ⟨gb306, 6, none⟩ = some (.slice A0_6 l0_6.length c0_6) := kc_ BK306 6; have hfz18_0 := aH BK306.out; have hcz19_0 : w17.cell? ⟨gb307, 0, none⟩ = some (.slice A1_0 l1_0.length c1_0) := kc_ BK307 0; have hcz19_1 : w17.cell? ⟨gb307, 1, none⟩ = some (.int .i64 a1_1) := kc_ BK307 1; have hcz19_2 : w17.cell? ⟨gb307, 2, none⟩ = some (.int .i64 a1_2) := kc_ BK307 2; have hcz19_3 : w17.cell? ⟨gb307, 3, none⟩ = some (.int .i64 a1_3) := kc_ BK307 3; have hcz19_4 : w17.cell? ⟨gb307, 4, none⟩ = some (.slice A1_4 l1_4.length c1_4) := kc_ BK307 4; have hcz19_5 : w17.cell? ⟨gb307, 5, none⟩ = some (.slice A1_5 l1_5.length c1_5) := kc_ BK307 5; have hcz19_6 : w17.cell? ⟨gb307, 6, none⟩ = some (.slice A1_6 l1_6.length c1_6) := kc_ BK307 6; have hfz19_0 := aH BK307.out) | (go_at_call 43; (with_reducible refine (bU.calls k _ _ l0_5 _ _ l1_5 true _ ?side1 ?side2 ?side3 ?side4 A11.out).mono ?_); (case side1 => exact cX_ (aV HR0_5.out HB.out)); (case side2 => exact HC0_5.out); (case side3 => exact cX_ (aV HR1_5.out HB.out)); (case side4 => exact HC1_5.out); rintro e w' ⟨rfl, ⟨nd, rfl⟩⟩) | (go_at_call 20; (with_reducible refine (bR.calls k _ _ l0_6 _ _ l1_6 t311 _ ?side1 ?side2 ?side3 ?side4 A13.out).mono ?_); (case side1 => exact cX_ (aV HR0_6.out (Short.hB HB))); (case side2 => exact HC0_6.out); (case side3 => exact cX_ (aV HR1_6.out (Short.hB HB))); (case side4 => exact HC1_6.out); rintro e w20 ⟨rfl, hb⟩; have n0_ := mk_ (bB_ BK306 hb); have n1_ := mk_ (bB_ BK307 hb); have n2_ := mk_ (aI (Short.hB HB) hb); clear BK306 BK307 HB; revert n0_ n1_ n2_; intro BK306 BK307 HB; (try clear hb); (try clear hb2); (try clear hk); (try clear hi)))
  go_meet
  case rel => exact ⟨_, (!t311), z3_, H', ⟨by first | omega | exact Nat.le_refl _⟩, ⟨by (with_reducible repeat (first | refine aG ?_ _ | refine aJ ?_ | refine aE ?_ _)); exact BK306.out⟩, ⟨by (with_reducible repeat (first | refine aG ?_ _ | refine aJ ?_ | refine aE ?_ _)); exact BK307.out⟩, ⟨Short.hB HB⟩⟩
 case rest => as_aux_lemma =>
  clear HC3
  obtain ⟨kq, x44_2, rfl, HA, HJ2, BK306, BK307, HB⟩ := hcut
  cases kq with
  | zero => exact absurd HA.out (by simp [bB.j0])
  | succ kj2 =>
   have H := HA.out
   clear HA
   simp only [bB.j0] at H
   by_cases c40 : x44_2 = true
   ·
    subst c40
    rw [if_pos rfl] at H
    obtain rfl := Option.some.inj H
    go_wp2
    go_ret
    exact ⟨q0, Short.hB HB⟩
   ·
    replace c40 := Bool.eq_false_iff.mpr c40
    subst c40
    rw [if_neg (show ¬ (false = true) by decide)] at H
    have H' := mk_ H
    clear H
    go_wp2
    go_loopg [5] kj2 (fun kq v5 w' => ∃ (x5_2 : Int), v5 = .int .i64 x5_2 ∧ Aside0 (bB.l0 kq x5_2 l0_0 a0_1 a0_2 a0_3 l0_4 l0_5 l0_6 l1_0 a1_1 a1_2 a1_3 l1_4 l1_5 l1_6 = some r) ∧ Aside0 (kq ≤ kj2) ∧ Aside0 (w'.heap[gb306]? = some (.cells #[(.slice A0_0 l0_0.length c0_0), .int .i64 a0_1, .int .i64 a0_2, .int .i64 a0_3, (.slice A0_4 l0_4.length c0_4), (.slice A0_5 l0_5.length c0_5), (.slice A0_6 l0_6.length c0_6)] 31 (0, 0))) ∧ Aside0 (w'.heap[gb307]? = some (.cells #[(.slice A1_0 l1_0.length c1_0), .int .i64 a1_1, .int .i64 a1_2, .int .i64 a1_3, (.slice A1_4 l1_4.length c1_4), (.slice A1_5 l1_5.length c1_5), (.slice A1_6 l1_6.length c1_6)] 31 (0, 0))) ∧ Aside0 (Below w.heap.size w w'))
    case atStart => exact ⟨(0), z3_, H', ⟨Nat.le_refl _⟩, ⟨by (with_reducible repeat (first | refine aG ?_ _ | refine aJ ?_ | refine aE ?_ _)); exact BK306.out⟩, ⟨by (with_reducible repeat (first | refine aG ?_ _ | refine aJ ?_ | refine aE ?_ _)); exact BK307.out⟩, ⟨Short.hB HB⟩⟩
    case round =>
     clear H'
     try clear c40
     obtain ⟨x5_2, rfl, HA, HK2, BK306, BK307, HB⟩ := hrel
     cases gk with
     | zero => exact absurd HA.out (by simp [bB.l0])
     | succ k2 =>
      have H := HA.out
      clear HA
      simp only [bB.l0] at H
      by_cases c41 : x5_2 < (l0_4.length : Int)
      ·
       rw [if_pos c41] at H
       have c41b0 : decide (x5_2 < (l0_4.length : Int)) = true := decide_eq_true c41
       clear c41
       by_cases c42 : 0 ≤ x5_2
       ·
        rw [if_pos c42] at H
        have c42b0 : decide (0 ≤ x5_2) = true := decide_eq_true c42
        clear c42
        by_cases c43 : x5_2 < (l1_4.length : Int)
        ·
         rw [if_pos c43] at H
         have c43b0 : decide (x5_2 < (l1_4.length : Int)) = true := decide_eq_true c43
         clear c43
         obtain ⟨t314, A44, H⟩ := Option.bind_eq_some_iff.mp H
         replace A44 := mk_ A44
         by_cases c45 : t314 = true
         ·
          subst c45
          rw [if_pos rfl] at H
          have H' := mk_ H
          clear H
          have hnb46 := NB306_307.out
          have hnc46 := NB307_306.out
          have hcz_0 := aC BK306.out
          have hfz_0 := aH BK306.out
          try go_wp2
          have n0_ := mk_ (aJ BK306.out)
          have n1_ := mk_ (aJ BK307.out)
          have n2_ := mk_ (dQ HB.out)
          clear BK306 BK307 HB
          revert n0_ n1_ n2_
          intro BK306 BK307 HB
          have p312 : 0 ≤ (x5_2 : Int) := of_decide_eq_true z0_
          have q312 : x5_2 < (l0_4.length : Int) := of_decide_eq_true z0_
          obtain ⟨ad312, A312_0, c312_0, e312, hx312_0, hl312_0, hi312_0⟩ := gP HR0_4.out x5_2 p312 q312
          have hw312_0 := hx312_0
          cases e312
          replace hx312_0 := up_ HB hx312_0
          have HR312_0 := mk_ hi312_0
          have HC312_0 := mk_ hl312_0
          clear hi312_0 hl312_0
          replace p312 := eq_true p312
          replace q312 := eq_true q312
          have p313 : 0 ≤ (x5_2 : Int) := of_decide_eq_true z0_
          have q313 : x5_2 < (l1_4.length : Int) := of_decide_eq_true z0_
          obtain ⟨ad313, A313_0, c313_0, e313, hx313_0, hl313_0, hi313_0⟩ := gP HR1_4.out x5_2 p313 q313
          have hw313_0 := hx313_0
          cases e313
          replace hx313_0 := up_ HB hx313_0
          have HR313_0 := mk_ hi313_0
          have HC313_0 := mk_ hl313_0
          clear hi313_0 hl313_0
          replace p313 := eq_true p313
          replace q313 := eq_true q313
          refine fI (n := 12) (S := fun w' => w'.cell? ⟨gb306, 0, none⟩ = some (.slice A0_0 l0_0.length c0_0) ∧ w'.cell? ⟨gb306, 1, none⟩ = some (.int .i64 a0_1) ∧ w'.cell? ⟨gb306, 2, none⟩ = some (.int .i64 a0_2) ∧ w'.cell? ⟨gb306, 3, none⟩ = some (.int .i64 a0_3) ∧ w'.cell? ⟨gb306, 4, none⟩ = some (.slice (some ad312) l0_4.length c0_4) ∧ w'.cell? ⟨gb306, 5, none⟩ = some (.slice A0_5 l0_5.length c0_5) ∧ w'.cell? ⟨gb306, 6, none⟩ = some (.slice A0_6 l0_6.length c0_6) ∧ w'.cell? ⟨gb307, 0, none⟩ = some (.slice A1_0 l1_0.length c1_0) ∧ w'.cell? ⟨gb307, 1, none⟩ = some (.int .i64 a1_1) ∧ w'.cell? ⟨gb307, 2, none⟩ = some (.int .i64 a1_2) ∧ w'.cell? ⟨gb307, 3, none⟩ = some (.int .i64 a1_3) ∧ w'.cell? ⟨gb307, 4, none⟩ = some (.slice (some ad313) l1_4.length c1_4) ∧ w'.cell? ⟨gb307, 5, none⟩ = some (.slice A1_5 l1_5.length c1_5) ∧ w'.cell? ⟨gb307, 6, none⟩ = some (.slice A1_6 l1_6.length c1_6) ∧ w'.cell? (ad312.add (x5_2).toNat) = some (.slice A312_0 (aX l0_4 x5_2).length c312_0) ∧ w'.cell? (ad313.add (x5_2).toNat) = some (.slice A313_0 (aX l1_4 x5_2).length c313_0)) (ds := []) (Steps.Bs 12 0) z1_ rfl rfl ⟨kc_ BK306 0, kc_ BK306 1, kc_ BK306 2, kc_ BK306 3, kc_ BK306 4, kc_ BK306 5, kc_ BK306 6, kc_ BK307 0, kc_ BK307 1, kc_ BK307 2, kc_ BK307 3, kc_ BK307 4, kc_ BK307 5, kc_ BK307 6, ((HB.out.cell (World.block_lt_of_cell? w _ hw312_0)).trans hw312_0), ((HB.out.cell (World.block_lt_of_cell? w _ hw313_0)).trans hw313_0)⟩ (fun hHeld => ?_); refine eK bB.tab6 bB.bits6 (fun HT_ HW_ => ?_)
          generalize wr.drew = w48 at BK306 BK307 HB HR312_0 HR313_0 hx312_0 hx313_0 hHeld ⊢
          refine tI HT_ 0 52 12 1 ?_
          refine tI HT_ 2 54 12 5 ?_
          refine tI HT_ 5 57 12 37 ?_
          refine tI HT_ 7 59 12 165 ?_
          refine tT HT_ HW_ hHeld 1 53 12 167 ?_
          refine tI HT_ 3 55 12 175 ?_
          refine tT HT_ HW_ hHeld 4 56 12 191 ?_
          refine tT HT_ HW_ hHeld 6 58 12 255 ?_
          refine tI HT_ 8 60 12 511 ?_
          refine tT HT_ HW_ hHeld 9 61 12 1023 ?_
          refine one_ (i := 10) (N := some 62) (Steps.Bs 12 2047) rfl rfl (fN HT_.out z1_) z4_ (fun K hK => ?_)
          refine goes_ Try.func44 z1_ rfl #[.slice A312_0 (aX l0_4 x5_2).length c312_0, .slice A313_0 (aX l1_4 x5_2).length c313_0] (by rfl) rfl rfl z5_ ?_
          with_reducible refine (aW.calls k2 _ _ (aX l0_4 x5_2) _ _ (aX l1_4 x5_2) true _ ?side1 ?side2 ?side3 ?side4 A44.out).mono ?_
          (case side1 => exact cX_ (aV HR312_0.out HB.out))
          (case side2 => exact HC312_0.out)
          (case side3 => exact cX_ (aV HR313_0.out HB.out))
          (case side4 => exact HC313_0.out)
          rintro e w49 ⟨rfl, hb⟩
          refine ⟨_, rfl, ?_⟩
          have n0_ := mk_ (bB_ BK306 hb)
          have n1_ := mk_ (bB_ BK307 hb)
          have n2_ := mk_ (aI (Short.hB HB) hb)
          clear BK306 BK307 HB
          revert n0_ n1_ n2_
          intro BK306 BK307 HB
          (try clear hb)
          refine hK.out _ _ ⟨kc_ BK306 0, kc_ BK306 1, kc_ BK306 2, kc_ BK306 3, kc_ BK306 4, kc_ BK306 5, kc_ BK306 6, kc_ BK307 0, kc_ BK307 1, kc_ BK307 2, kc_ BK307 3, kc_ BK307 4, kc_ BK307 5, kc_ BK307 6, ((HB.out.cell (World.block_lt_of_cell? w _ hw312_0)).trans hw312_0), ((HB.out.cell (World.block_lt_of_cell? w _ hw313_0)).trans hw313_0)⟩ (fun hHeld => ?_)
          clear hK K
          refine nrm 62 ?_
          refine tI HT_ 11 63 12 4095 ?_
          refine done_ (eO HT_.out z1_) ?_
          try go_wp2
          go_roundg k2
          case measure => have := HJ2.out; have := HK2.out; omega
          case rel => exact ⟨(wrap64 (x5_2 + 1)), z3_, H', ⟨by have := HJ2.out; have := HK2.out; omega⟩, ⟨by (with_reducible repeat (first | refine aG ?_ _ | refine aJ ?_ | refine aE ?_ _)); exact BK306.out⟩, ⟨by (with_reducible repeat (first | refine aG ?_ _ | refine aJ ?_ | refine aE ?_ _)); exact BK307.out⟩, ⟨Short.hB HB⟩⟩
         ·
          replace c45 := Bool.eq_false_iff.mpr c45
          subst c45
          rw [if_neg (show ¬ (false = true) by decide)] at H
          obtain rfl := Option.some.inj H
          have hnb50 := NB306_307.out
          have hnc50 := NB307_306.out
          have hcz_0 := aC BK306.out
          have hfz_0 := aH BK306.out
          try go_wp2
          have n0_ := mk_ (aJ BK306.out)
          have n1_ := mk_ (aJ BK307.out)
          have n2_ := mk_ (dQ HB.out)
          clear BK306 BK307 HB
          revert n0_ n1_ n2_
          intro BK306 BK307 HB
          have p312 : 0 ≤ (x5_2 : Int) := of_decide_eq_true z0_
          have q312 : x5_2 < (l0_4.length : Int) := of_decide_eq_true z0_
          obtain ⟨ad312, A312_0, c312_0, e312, hx312_0, hl312_0, hi312_0⟩ := gP HR0_4.out x5_2 p312 q312
          have hw312_0 := hx312_0
          cases e312
          replace hx312_0 := up_ HB hx312_0
          have HR312_0 := mk_ hi312_0
          have HC312_0 := mk_ hl312_0
          clear hi312_0 hl312_0
          replace p312 := eq_true p312
          replace q312 := eq_true q312
          have p313 : 0 ≤ (x5_2 : Int) := of_decide_eq_true z0_
          have q313 : x5_2 < (l1_4.length : Int) := of_decide_eq_true z0_
          obtain ⟨ad313, A313_0, c313_0, e313, hx313_0, hl313_0, hi313_0⟩ := gP HR1_4.out x5_2 p313 q313
          have hw313_0 := hx313_0
          cases e313
          replace hx313_0 := up_ HB hx313_0
          have HR313_0 := mk_ hi313_0
          have HC313_0 := mk_ hl313_0
          clear hi313_0 hl313_0
          replace p313 := eq_true p313
          replace q313 := eq_true q313
          refine fI (n := 12) (S := fun w' => w'.cell? ⟨gb306, 0, none⟩ = some (.slice A0_0 l0_0.length c0_0) ∧ w'.cell? ⟨gb306, 1, none⟩ = some (.int .i64 a0_1) ∧ w'.cell? ⟨gb306, 2, none⟩ = some (.int .i64 a0_2) ∧ w'.cell? ⟨gb306, 3, none⟩ = some (.int .i64 a0_3) ∧ w'.cell? ⟨gb306, 4, none⟩ = some (.slice (some ad312) l0_4.length c0_4) ∧ w'.cell? ⟨gb306, 5, none⟩ = some (.slice A0_5 l0_5.length c0_5) ∧ w'.cell? ⟨gb306, 6, none⟩ = some (.slice A0_6 l0_6.length c0_6) ∧ w'.cell? ⟨gb307, 0, none⟩ = some (.slice A1_0 l1_0.length c1_0) ∧ w'.cell? ⟨gb307, 1, none⟩ = some (.int .i64 a1_1) ∧ w'.cell? ⟨gb307, 2, none⟩ = some (.int .i64 a1_2) ∧ w'.cell? ⟨gb307, 3, none⟩ = some (.int .i64 a1_3) ∧ w'.cell? ⟨gb307, 4, none⟩ = some (.slice (some ad313) l1_4.length c1_4) ∧ w'.cell? ⟨gb307, 5, none⟩ = some (.slice A1_5 l1_5.length c1_5) ∧ w'.cell? ⟨gb307, 6, none⟩ = some (.slice A1_6 l1_6.length c1_6) ∧ w'.cell? (ad312.add (x5_2).toNat) = some (.slice A312_0 (aX l0_4 x5_2).length c312_0) ∧ w'.cell? (ad313.add (x5_2).toNat) = some (.slice A313_0 (aX l1_4 x5_2).length c313_0)) (ds := []) (Steps.Bs 12 0) z1_ rfl rfl ⟨kc_ BK306 0, kc_ BK306 1, kc_ BK306 2, kc_ BK306 3, kc_ BK306 4, kc_ BK306 5, kc_ BK306 6, kc_ BK307 0, kc_ BK307 1, kc_ BK307 2, kc_ BK307 3, kc_ BK307 4, kc_ BK307 5, kc_ BK307 6, ((HB.out.cell (World.block_lt_of_cell? w _ hw312_0)).trans hw312_0), ((HB.out.cell (World.block_lt_of_cell? w _ hw313_0)).trans hw313_0)⟩ (fun hHeld => ?_); refine eK bB.tab6 bB.bits6 (fun HT_ HW_ => ?_)
          generalize wr.drew = w52 at BK306 BK307 HB HR312_0 HR313_0 hx312_0 hx313_0 hHeld ⊢
          refine tI HT_ 0 52 12 1 ?_
          refine tI HT_ 2 54 12 5 ?_
          refine tI HT_ 5 57 12 37 ?_
          refine tI HT_ 7 59 12 165 ?_
          refine tT HT_ HW_ hHeld 1 53 12 167 ?_
          refine tI HT_ 3 55 12 175 ?_
          refine tT HT_ HW_ hHeld 4 56 12 191 ?_
          refine tT HT_ HW_ hHeld 6 58 12 255 ?_
          refine tI HT_ 8 60 12 511 ?_
          refine tT HT_ HW_ hHeld 9 61 12 1023 ?_
          refine one_ (i := 10) (N := some 62) (Steps.Bs 12 2047) rfl rfl (fN HT_.out z1_) z4_ (fun K hK => ?_)
          refine goes_ Try.func44 z1_ rfl #[.slice A312_0 (aX l0_4 x5_2).length c312_0, .slice A313_0 (aX l1_4 x5_2).length c313_0] (by rfl) rfl rfl z5_ ?_
          with_reducible refine (aW.calls k2 _ _ (aX l0_4 x5_2) _ _ (aX l1_4 x5_2) false _ ?side1 ?side2 ?side3 ?side4 A44.out).mono ?_
          (case side1 => exact cX_ (aV HR312_0.out HB.out))
          (case side2 => exact HC312_0.out)
          (case side3 => exact cX_ (aV HR313_0.out HB.out))
          (case side4 => exact HC313_0.out)
          rintro e w53 ⟨rfl, hb⟩
          refine ⟨_, rfl, ?_⟩
          have n0_ := mk_ (bB_ BK306 hb)
          have n1_ := mk_ (bB_ BK307 hb)
          have n2_ := mk_ (aI (Short.hB HB) hb)
          clear BK306 BK307 HB
          revert n0_ n1_ n2_
          intro BK306 BK307 HB
          (try clear hb)
          refine hK.out _ _ ⟨kc_ BK306 0, kc_ BK306 1, kc_ BK306 2, kc_ BK306 3, kc_ BK306 4, kc_ BK306 5, kc_ BK306 6, kc_ BK307 0, kc_ BK307 1, kc_ BK307 2, kc_ BK307 3, kc_ BK307 4, kc_ BK307 5, kc_ BK307 6, ((HB.out.cell (World.block_lt_of_cell? w _ hw312_0)).trans hw312_0), ((HB.out.cell (World.block_lt_of_cell? w _ hw313_0)).trans hw313_0)⟩ (fun hHeld => ?_)
          clear hK K
          refine nrm 62 ?_
          refine tI HT_ 11 63 12 4095 ?_
          refine done_ (eO HT_.out z1_) ?_
          try go_wp2
          go_ret
          exact ⟨q0, Short.hB HB⟩
        ·
         rw [if_neg c43] at H
         exact absurd H (by simp)
       ·
        rw [if_neg c42] at H
        exact absurd H (by simp)
      ·
       rw [if_neg c41] at H
       have c41b0 : decide (x5_2 < (l0_4.length : Int)) = false := decide_eq_false c41
       clear c41
       obtain rfl := Option.some.inj H
       have hnb54 := NB306_307.out
       have hnc54 := NB307_306.out
       have hcz_0 := aC BK306.out
       have hfz_0 := aH BK306.out
       go_wp2
       go_ret
       exact ⟨q0, Short.hB HB⟩
end Go.Proofs.Ytcbfliajgopdaaa.PAll
end
section
namespace Go.Proofs.Ytcbfliajgopdaaa.PAll
open Go.RowKit PrintWords PrintLast PrintMore ZipT PrintWords.Kd PrintMore.Kd
attribute [local go_sem] eC eA eN eR dR dP eD eB   -- for this text's walks alone
set_option linter.unusedVariables false
set_option linter.unusedSimpArgs false
def bT.l0 : Nat → List Int → List Int → Int → Option (Bool)
 | 0, _, _, _ => none
 | k + 1, x0, x1, x5 => if x5 < (x0.length : Int) then (if 0 ≤ x5 then (if x5 < (x1.length : Int) then (if (rd x0 x5) = (rd x1 x5) then (bT.l0 k x0 x1 (wrap64 (x5 + 1))) else (some false)) else (none)) else (none)) else (some true)
def bT.f (k : Nat) (l0 : List Int) (l1 : List Int) : Option (Bool) := if (l0.length : Int) = (l1.length : Int) then (bT.l0 k l0 l1 0) else (some false)
theorem bT.calls (k : Nat) (A0 : Option Addr) (c0 : Nat) (l0 : List Int) (A1 : Option Addr) (c1 : Nat) (l1 : List Int) (r : Bool) (w : World) (hr0 : Kd.C (Kd.int .u8) w A0 l0.length l0) (hc0 : l0.length ≤ c0) (hr1 : Kd.C (Kd.int .u8) w A1 l1.length l1) (hc1 : l1.length ≤ c1) (h : bT.f k l0 l1 = some r) :
  Calls Try.prog 11 #[.slice A0 l0.length c0, .slice A1 l1.length c1] w fun e w' => e = .returned (.bool r) ∧ Drawn0 w w' := by
 have HR0 := mk_ hr0
 have HC0 := mk_ hc0
 clear hr0 hc0
 have HR1 := mk_ hr1
 have HC1 := mk_ hc1
 clear hr1 hc1
 have H : (if (l0.length : Int) = (l1.length : Int) then (bT.l0 k l0 l1 0) else (some false)) = some r := h
 clear h
 by_cases c3 : (l0.length : Int) = (l1.length : Int)
 rotate_left
 ·
  rw [if_neg c3] at H
  have c3b0 : ((l0.length : Int) == (l1.length : Int)) = false := beq_eq_false_iff_ne.mpr c3
  have c3b1 : ((l0.length : Int) != (l1.length : Int)) = true := bne_iff_ne.mpr c3
  have c3b2 : (l0.length == l1.length) = false := by first | simpa using c3 | (simp at c3 ⊢; omega)
  obtain rfl := Option.some.inj H
  go_enter Try.func11, Try.ntmps11
  go_wp2
  repeat (go_quiet (fail); try go_wp2)
  go_ret
  exact ⟨z3_, by repeat (first | exact Drawn0.refl _ | apply Drawn0.step)⟩
 rw [if_pos c3] at H
 have c3b0 : ((l0.length : Int) == (l1.length : Int)) = true := beq_iff_eq.mpr c3
 have c3b1 : ((l0.length : Int) != (l1.length : Int)) = false := bne_eq_false_iff_eq.mpr c3
 have c3b2 : (l0.length == l1.length) = true := by first | simpa using c3 | (simp at c3 ⊢; omega)
 clear c3
 have H' := mk_ H
 clear H
 go_enter Try.func11, Try.ntmps11
 go_wp2
 repeat (go_quiet (fail); try go_wp2)
 go_loopg [5] k (fun kq v5 w' => ∃ (x5_1 : Int), v5 = .int .i64 x5_1 ∧ Aside0 (bT.l0 kq l0 l1 x5_1 = some r) ∧ Aside0 (kq ≤ k) ∧ Drawn0 w w')
 case atStart => exact ⟨(0), z3_, H', ⟨Nat.le_refl _⟩, by repeat (first | exact Drawn0.refl _ | apply Drawn0.step)⟩
 case round =>
  clear H'
  try clear c1
  try clear c3
  try clear c3b0
  try clear c3b1
  try clear c3b2
  obtain ⟨x5_1, rfl, HA, HK1, ⟨m1, rfl⟩⟩ := hrel
  cases gk with
  | zero => exact absurd HA.out (by simp [bT.l0])
  | succ k1 =>
   have H := HA.out
   clear HA
   simp only [bT.l0] at H
   by_cases c4 : x5_1 < (l0.length : Int)
   rotate_left
   ·
    rw [if_neg c4] at H
    have c4b0 : decide (x5_1 < (l0.length : Int)) = false := decide_eq_false c4
    clear c4
    obtain rfl := Option.some.inj H
    go_wp2
    repeat (go_quiet (fail); try go_wp2)
    go_ret
    exact ⟨z3_, by repeat (first | exact Drawn0.refl _ | apply Drawn0.step)⟩
   rw [if_pos c4] at H
   have c4b0 : decide (x5_1 < (l0.length : Int)) = true := decide_eq_true c4
   clear c4
   by_cases c5 : 0 ≤ x5_1
   rotate_left
   ·
    rw [if_neg c5] at H
    exact absurd H (by simp)
   rw [if_pos c5] at H
   have c5b0 : decide (0 ≤ x5_1) = true := decide_eq_true c5
   clear c5
   by_cases c6 : x5_1 < (l1.length : Int)
   rotate_left
   ·
    rw [if_neg c6] at H
    exact absurd H (by simp)
   rw [if_pos c6] at H
   have c6b0 : decide (x5_1 < (l1.length : Int)) = true := decide_eq_true c6
   clear c6
   by_cases c7 : (rd l0 x5_1) = (rd l1 x5_1)
   rotate_left
   ·
    rw [if_neg c7] at H
    have c7b0 : ((rd l0 x5_1) == (rd l1 x5_1)) = false := beq_eq_false_iff_ne.mpr c7
    have c7b1 : ((rd l0 x5_1) != (rd l1 x5_1)) = true := bne_iff_ne.mpr c7
    obtain rfl := Option.some.inj H
    have p315 : 0 ≤ (x5_1 : Int) := of_decide_eq_true z0_
    have q315 : x5_1 < (l0.length : Int) := of_decide_eq_true z0_
    obtain ⟨ad315, e315, hx315_0⟩ := Kd.at_int HR0.out x5_1 p315 q315
    cases e315
    replace p315 := eq_true p315
    replace q315 := eq_true q315
    have p316 : 0 ≤ (x5_1 : Int) := of_decide_eq_true z0_
    have q316 : x5_1 < (l1.length : Int) := of_decide_eq_true z0_
    obtain ⟨ad316, e316, hx316_0⟩ := Kd.at_int HR1.out x5_1 p316 q316
    cases e316
    replace p316 := eq_true p316
    replace q316 := eq_true q316
    go_wp2
    repeat (go_quiet (fail); try go_wp2)
    go_ret
    exact ⟨z3_, by repeat (first | exact Drawn0.refl _ | apply Drawn0.step)⟩
   rw [if_pos c7] at H
   have c7b0 : ((rd l0 x5_1) == (rd l1 x5_1)) = true := beq_iff_eq.mpr c7
   have c7b1 : ((rd l0 x5_1) != (rd l1 x5_1)) = false := bne_eq_false_iff_eq.mpr c7
   clear c7
   have H' := mk_ H
   clear H
   have p315 : 0 ≤ (x5_1 : Int) := of_decide_eq_true z0_
   have q315 : x5_1 < (l0.length : Int) := of_decide_eq_true z0_
   obtain ⟨ad315, e315, hx315_0⟩ := Kd.at_int HR0.out x5_1 p315 q315
   cases e315
   replace p315 := eq_true p315
   replace q315 := eq_true q315
   have p316 : 0 ≤ (x5_1 : Int) := of_decide_eq_true z0_
   have q316 : x5_1 < (l1.length : Int) := of_decide_eq_true z0_
   obtain ⟨ad316, e316, hx316_0⟩ := Kd.at_int HR1.out x5_1 p316 q316
   cases e316
   replace p316 := eq_true p316
   replace q316 := eq_true q316
   go_wp2
   repeat (go_quiet (fail); try go_wp2)
   go_roundg k1
   case measure => have := HK1.out; omega
   case rel => exact ⟨(wrap64 (x5_1 + 1)), z3_, H', ⟨by have := HK1.out; omega⟩, by repeat (first | exact Drawn0.refl _ | apply Drawn0.step)⟩
def cA.l0 : Nat → List (S89) → Int → Option (Bool)
 | 0, _, _ => none
 | k + 1, x0, x3 => if x3 < (x0.length : Int) then (if 0 ≤ x3 then (if (((bF x0 x3).f2).size : Int) > 300 then (some true) else (cA.l0 k x0 (wrap64 (x3 + 1)))) else (none)) else (some false)
def cA.f (k : Nat) (l0 : List (S89)) : Option (Bool) := cA.l0 k l0 0
theorem cA.calls (k : Nat) (A0 : Option Addr) (c0 : Nat) (l0 : List (S89)) (r : Bool) (w : World) (hr0 : Kd.C k89 w A0 l0.length l0) (hc0 : l0.length ≤ c0) (h : cA.f k l0 = some r) :
  Calls Try.prog 91 #[.slice A0 l0.length c0] w fun e w' => e = .returned (.bool r) ∧ Drawn0 w w' := by
 have HR0 := mk_ hr0
 have HC0 := mk_ hc0
 clear hr0 hc0
 have H : (cA.l0 k l0 0) = some r := h
 clear h
 have H' := mk_ H
 clear H
 go_enter Try.func91, Try.ntmps91
 go_wp2
 go_loopg [3] k (fun kq v3 w' => ∃ (x3_1 : Int), v3 = .int .i64 x3_1 ∧ Aside0 (cA.l0 kq l0 x3_1 = some r) ∧ Aside0 (kq ≤ k) ∧ Drawn0 w w')
 case atStart => exact ⟨(0), z3_, H', ⟨Nat.le_refl _⟩, by repeat (first | exact Drawn0.refl _ | apply Drawn0.step)⟩
 case round =>
  clear H'
  obtain ⟨x3_1, rfl, HA, HK1, ⟨m1, rfl⟩⟩ := hrel
  cases gk with
  | zero => exact absurd HA.out (by simp [cA.l0])
  | succ k1 =>
   have H := HA.out
   clear HA
   simp only [cA.l0] at H
   by_cases c2 : x3_1 < (l0.length : Int)
   rotate_left
   ·
    rw [if_neg c2] at H
    have c2b0 : decide (x3_1 < (l0.length : Int)) = false := decide_eq_false c2
    clear c2
    obtain rfl := Option.some.inj H
    go_wp2
    go_ret
    exact ⟨z3_, by repeat (first | exact Drawn0.refl _ | apply Drawn0.step)⟩
   rw [if_pos c2] at H
   have c2b0 : decide (x3_1 < (l0.length : Int)) = true := decide_eq_true c2
   clear c2
   by_cases c3 : 0 ≤ x3_1
   rotate_left
   ·
    rw [if_neg c3] at H
    exact absurd H (by simp)
   rw [if_pos c3] at H
   have c3b0 : decide (0 ≤ x3_1) = true := decide_eq_true c3
   clear c3
   by_cases c4 : (((bF l0 x3_1).f2).size : Int) > 300
   ·
    rw [if_pos c4] at H
    have c4b0 : decide (300 < (((bF l0 x3_1).f2).size : Int)) = true := decide_eq_true c4
    have c4b1 : decide (300 < ((bF l0 x3_1).f2).size) = true := decide_eq_true z2_
    clear c4
    obtain rfl := Option.some.inj H
    have p365 : 0 ≤ (x3_1 : Int) := of_decide_eq_true z0_
    have q365 : x3_1 < (l0.length : Int) := of_decide_eq_true z0_
    obtain ⟨ad365, e365, hx365_0, hx365_1, hx365_2⟩ := gS HR0.out x3_1 p365 q365
    cases e365
    replace p365 := eq_true p365
    replace q365 := eq_true q365
    go_wp2
    go_ret
    exact ⟨z3_, by repeat (first | exact Drawn0.refl _ | apply Drawn0.step)⟩
   rw [if_neg c4] at H
   have c4b0 : decide (300 < (((bF l0 x3_1).f2).size : Int)) = false := decide_eq_false c4
   have c4b1 : decide (300 < ((bF l0 x3_1).f2).size) = false := decide_eq_false z2_
   clear c4
   have H' := mk_ H
   clear H
   have p365 : 0 ≤ (x3_1 : Int) := of_decide_eq_true z0_
   have q365 : x3_1 < (l0.length : Int) := of_decide_eq_true z0_
   obtain ⟨ad365, e365, hx365_0, hx365_1, hx365_2⟩ := gS HR0.out x3_1 p365 q365
   cases e365
   replace p365 := eq_true p365
   replace q365 := eq_true q365
   go_wp2
   go_roundg k1
   case measure => have := HK1.out; omega
   case rel => exact ⟨(wrap64 (x3_1 + 1)), z3_, H', ⟨by have := HK1.out; omega⟩, by repeat (first | exact Drawn0.refl _ | apply Drawn0.step)⟩
def cV.f (k : Nat) (l0 : List (S89)) : Option (Bool) := if (l0.length : Int) > 40 then (some true) else ((cA.f k l0).bind fun t366 => (some t366))
theorem cV.calls (k : Nat) (A0 : Option Addr) (c0 : Nat) (l0 : List (S89)) (r : Bool) (w : World) (hr0 : Kd.C k89 w A0 l0.length l0) (hc0 : l0.length ≤ c0) (h : cV.f k l0 = some r) :
  Calls Try.prog 52 #[.slice A0 l0.length c0] w fun e w' => e = .returned (.bool r) ∧ Drawn0 w w' := by
 have HR0 := mk_ hr0
 have HC0 := mk_ hc0
 clear hr0 hc0
 have H : (if (l0.length : Int) > 40 then (some true) else ((cA.f k l0).bind fun t366 => (some t366))) = some r := h
 clear h
 by_cases c2 : (l0.length : Int) > 40
 rotate_left
 rw [if_neg c2] at H
 have c2b0 : decide (40 < (l0.length : Int)) = false := decide_eq_false c2
 have c2b1 : decide (40 < l0.length) = false := decide_eq_false z2_
 clear c2
 obtain ⟨t366, A3, H⟩ := Option.bind_eq_some_iff.mp H
 replace A3 := mk_ A3
 obtain rfl := Option.some.inj H
 rotate_right
 rw [if_pos c2] at H
 have c2b0 : decide (40 < (l0.length : Int)) = true := decide_eq_true c2
 have c2b1 : decide (40 < l0.length) = true := decide_eq_true z2_
 clear c2
 obtain rfl := Option.some.inj H
 all_goals
  go_enter Try.func52, Try.ntmps52
  go_wp2_with ((go_at_call 91; (with_reducible refine (cA.calls k _ _ l0 t366 _ ?side1 ?side2 A3.out).mono ?_); (case side1 => repeat (first | exact HR0.out | (with_reducible refine C_alloc ?_ _) | (with_reducible refine C_drewN ?_ _) | (with_reducible refine C_drew ?_))); (case side2 => exact HC0.out); rintro e w' ⟨rfl, ⟨nd, rfl⟩⟩))
  go_ret
  exact ⟨z3_, by repeat (first | exact Drawn0.refl _ | apply Drawn0.step)⟩
def bS.l0 : Nat → List (S54) → Int → Option (Bool)
 | 0, _, _ => none
 | k + 1, x0, x3 => if x3 < (x0.length : Int) then (if 0 ≤ x3 then (if (((aK x0 x3).f1).length : Int) > 30 then (some true) else (if (((aK x0 x3).f5).size : Int) > 100 then (some true) else ((cV.f k ((aK x0 x3).f7)).bind fun t370 => (if t370 = true then (some true) else (if (((aK x0 x3).f8).length : Int) > 100 then (some true) else (bS.l0 k x0 (wrap64 (x3 + 1)))))))) else (none)) else (some false)
def bS.f (k : Nat) (l0 : List (S54)) : Option (Bool) := if (l0.length : Int) > 300 then (some true) else (bS.l0 k l0 0)
theorem bS.calls (k : Nat) (A0 : Option Addr) (c0 : Nat) (l0 : List (S54)) (r : Bool) (w : World) (hr0 : Kd.C k54 w A0 l0.length l0) (hc0 : l0.length ≤ c0) (h : bS.f k l0 = some r) :
  Calls Try.prog 14 #[.slice A0 l0.length c0] w fun e w' => e = .returned (.bool r) ∧ Drawn0 w w' := by
 have HR0 := mk_ hr0
 have HC0 := mk_ hc0
 clear hr0 hc0
 have H : (if (l0.length : Int) > 300 then (some true) else (bS.l0 k l0 0)) = some r := h
 clear h
 by_cases c2 : (l0.length : Int) > 300
 ·
  rw [if_pos c2] at H
  have c2b0 : decide (300 < (l0.length : Int)) = true := decide_eq_true c2
  have c2b1 : decide (300 < l0.length) = true := decide_eq_true z2_
  clear c2
  obtain rfl := Option.some.inj H
  go_enter Try.func14, Try.ntmps14
  go_wp2
  go_ret
  exact ⟨z3_, by repeat (first | exact Drawn0.refl _ | apply Drawn0.step)⟩
 rw [if_neg c2] at H
 have c2b0 : decide (300 < (l0.length : Int)) = false := decide_eq_false c2
 have c2b1 : decide (300 < l0.length) = false := decide_eq_false z2_
 clear c2
 have H' := mk_ H
 clear H
 go_enter Try.func14, Try.ntmps14
 go_wp2
 go_loopg [3] k (fun kq v3 w' => ∃ (x3_1 : Int), v3 = .int .i64 x3_1 ∧ Aside0 (bS.l0 kq l0 x3_1 = some r) ∧ Aside0 (kq ≤ k) ∧ Drawn0 w w')
 case atStart => exact ⟨(0), z3_, H', ⟨Nat.le_refl _⟩, by repeat (first | exact Drawn0.refl _ | apply Drawn0.step)⟩
 case round =>
  clear H'
  try clear c2
  try clear c2b0
  try clear c2b1
  obtain ⟨x3_1, rfl, HA, HK1, ⟨m1, rfl⟩⟩ := hrel
  cases gk with
  | zero => exact absurd HA.out (by simp [bS.l0])
  | succ k1 =>
   have H := HA.out
   clear HA
   simp only [bS.l0] at H
   by_cases c3 : x3_1 < (l0.length : Int)
   rotate_left
   ·
    rw [if_neg c3] at H
    have c3b0 : decide (x3_1 < (l0.length : Int)) = false := decide_eq_false c3
    clear c3
    obtain rfl := Option.some.inj H
    go_wp2
    go_ret
    exact ⟨z3_, by repeat (first | exact Drawn0.refl _ | apply Drawn0.step)⟩
   rw [if_pos c3] at H
   have c3b0 : decide (x3_1 < (l0.length : Int)) = true := decide_eq_true c3
   clear c3
   by_cases c4 : 0 ≤ x3_1
   rotate_left
   ·
    rw [if_neg c4] at H
    exact absurd H (by simp)
   rw [if_pos c4] at H
   have c4b0 : decide (0 ≤ x3_1) = true := decide_eq_true c4
   clear c4
   by_cases c5 : (((aK l0 x3_1).f1).length : Int) > 30
   ·
    rw [if_pos c5] at H
    have c5b0 : decide (30 < (((aK l0 x3_1).f1).length : Int)) = true := decide_eq_true c5
    have c5b1 : decide (30 < ((aK l0 x3_1).f1).length) = true := decide_eq_true z2_
    clear c5
    obtain rfl := Option.some.inj H
    have p367 : 0 ≤ (x3_1 : Int) := of_decide_eq_true z0_
    have q367 : x3_1 < (l0.length : Int) := of_decide_eq_true z0_
    obtain ⟨ad367, A367_2, c367_2, A367_10, c367_10, A367_11, c367_11, e367, hx367_0, hx367_1, hx367_2, hx367_3, hx367_4, hx367_5, hx367_6, hx367_7, hx367_8, hx367_9, hx367_10, hx367_11, hl367_2, hi367_2, hl367_10, hi367_10, hl367_11, hi367_11⟩ := eS HR0.out x3_1 p367 q367
    cases e367
    have HR367_2 := mk_ hi367_2
    have HC367_2 := mk_ hl367_2
    clear hi367_2 hl367_2
    have HR367_10 := mk_ hi367_10
    have HC367_10 := mk_ hl367_10
    clear hi367_10 hl367_10
    have HR367_11 := mk_ hi367_11
    have HC367_11 := mk_ hl367_11
    clear hi367_11 hl367_11
    replace p367 := eq_true p367
    replace q367 := eq_true q367
    go_wp2
    go_ret
    exact ⟨z3_, by repeat (first | exact Drawn0.refl _ | apply Drawn0.step)⟩
   rw [if_neg c5] at H
   have c5b0 : decide (30 < (((aK l0 x3_1).f1).length : Int)) = false := decide_eq_false c5
   have c5b1 : decide (30 < ((aK l0 x3_1).f1).length) = false := decide_eq_false z2_
   clear c5
   by_cases c6 : (((aK l0 x3_1).f5).size : Int) > 100
   ·
    rw [if_pos c6] at H
    have c6b0 : decide (100 < (((aK l0 x3_1).f5).size : Int)) = true := decide_eq_true c6
    have c6b1 : decide (100 < ((aK l0 x3_1).f5).size) = true := decide_eq_true z2_
    clear c6
    obtain rfl := Option.some.inj H
    have p367 : 0 ≤ (x3_1 : Int) := of_decide_eq_true z0_
    have q367 : x3_1 < (l0.length : Int) := of_decide_eq_true z0_
    obtain ⟨ad367, A367_2, c367_2, A367_10, c367_10, A367_11, c367_11, e367, hx367_0, hx367_1, hx367_2, hx367_3, hx367_4, hx367_5, hx367_6, hx367_7, hx367_8, hx367_9, hx367_10, hx367_11, hl367_2, hi367_2, hl367_10, hi367_10, hl367_11, hi367_11⟩ := eS HR0.out x3_1 p367 q367
    cases e367
    have HR367_2 := mk_ hi367_2
    have HC367_2 := mk_ hl367_2
    clear hi367_2 hl367_2
    have HR367_10 := mk_ hi367_10
    have HC367_10 := mk_ hl367_10
    clear hi367_10 hl367_10
    have HR367_11 := mk_ hi367_11
    have HC367_11 := mk_ hl367_11
    clear hi367_11 hl367_11
    replace p367 := eq_true p367
    replace q367 := eq_true q367
    have p368 : 0 ≤ (x3_1 : Int) := of_decide_eq_true z0_
    have q368 : x3_1 < (l0.length : Int) := of_decide_eq_true z0_
    obtain ⟨ad368, A368_2, c368_2, A368_10, c368_10, A368_11, c368_11, e368, hx368_0, hx368_1, hx368_2, hx368_3, hx368_4, hx368_5, hx368_6, hx368_7, hx368_8, hx368_9, hx368_10, hx368_11, hl368_2, hi368_2, hl368_10, hi368_10, hl368_11, hi368_11⟩ := eS HR0.out x3_1 p368 q368
    obtain rfl : ad367 = ad368 := (by injection e368)
    have HR368_2 := mk_ hi368_2
    have HC368_2 := mk_ hl368_2
    clear hi368_2 hl368_2
    have HR368_10 := mk_ hi368_10
    have HC368_10 := mk_ hl368_10
    clear hi368_10 hl368_10
    have HR368_11 := mk_ hi368_11
    have HC368_11 := mk_ hl368_11
    clear hi368_11 hl368_11
    replace p368 := eq_true p368
    replace q368 := eq_true q368
    have ea_ := Option.some.inj (hx367_2.symm.trans hx368_2)
    injection ea_ with ea_ en_ ec_
    subst ea_
    subst ec_
    clear en_
    have ea_ := Option.some.inj (hx367_10.symm.trans hx368_10)
    injection ea_ with ea_ en_ ec_
    subst ea_
    subst ec_
    clear en_
    have ea_ := Option.some.inj (hx367_11.symm.trans hx368_11)
    injection ea_ with ea_ en_ ec_
    subst ea_
    subst ec_
    clear en_
    go_wp2
    go_ret
    exact ⟨z3_, by repeat (first | exact Drawn0.refl _ | apply Drawn0.step)⟩
   rw [if_neg c6] at H
   have c6b0 : decide (100 < (((aK l0 x3_1).f5).size : Int)) = false := decide_eq_false c6
   have c6b1 : decide (100 < ((aK l0 x3_1).f5).size) = false := decide_eq_false z2_
   clear c6
   obtain ⟨t370, A7, H⟩ := Option.bind_eq_some_iff.mp H
   replace A7 := mk_ A7
   by_cases c8 : t370 = true
   ·
    subst c8
    rw [if_pos rfl] at H
    obtain rfl := Option.some.inj H
    have p367 : 0 ≤ (x3_1 : Int) := of_decide_eq_true z0_
    have q367 : x3_1 < (l0.length : Int) := of_decide_eq_true z0_
    obtain ⟨ad367, A367_2, c367_2, A367_10, c367_10, A367_11, c367_11, e367, hx367_0, hx367_1, hx367_2, hx367_3, hx367_4, hx367_5, hx367_6, hx367_7, hx367_8, hx367_9, hx367_10, hx367_11, hl367_2, hi367_2, hl367_10, hi367_10, hl367_11, hi367_11⟩ := eS HR0.out x3_1 p367 q367
    cases e367
    have HR367_2 := mk_ hi367_2
    have HC367_2 := mk_ hl367_2
    clear hi367_2 hl367_2
    have HR367_10 := mk_ hi367_10
    have HC367_10 := mk_ hl367_10
    clear hi367_10 hl367_10
    have HR367_11 := mk_ hi367_11
    have HC367_11 := mk_ hl367_11
    clear hi367_11 hl367_11
    replace p367 := eq_true p367
    replace q367 := eq_true q367
    have p368 : 0 ≤ (x3_1 : Int) := of_decide_eq_true z0_
    have q368 : x3_1 < (l0.length : Int) := of_decide_eq_true z0_
    obtain ⟨ad368, A368_2, c368_2, A368_10, c368_10, A368_11, c368_11, e368, hx368_0, hx368_1, hx368_2, hx368_3, hx368_4, hx368_5, hx368_6, hx368_7, hx368_8, hx368_9, hx368_10, hx368_11, hl368_2, hi368_2, hl368_10, hi368_10, hl368_11, hi368_11⟩ := eS HR0.out x3_1 p368 q368
    obtain rfl : ad367 = ad368 := (by injection e368)
    have HR368_2 := mk_ hi368_2
    have HC368_2 := mk_ hl368_2
    clear hi368_2 hl368_2
    have HR368_10 := mk_ hi368_10
    have HC368_10 := mk_ hl368_10
    clear hi368_10 hl368_10
    have HR368_11 := mk_ hi368_11
    have HC368_11 := mk_ hl368_11
    clear hi368_11 hl368_11
    replace p368 := eq_true p368
    replace q368 := eq_true q368
    have ea_ := Option.some.inj (hx367_2.symm.trans hx368_2)
    injection ea_ with ea_ en_ ec_
    subst ea_
    subst ec_
    clear en_
    have ea_ := Option.some.inj (hx367_10.symm.trans hx368_10)
    injection ea_ with ea_ en_ ec_
    subst ea_
    subst ec_
    clear en_
    have ea_ := Option.some.inj (hx367_11.symm.trans hx368_11)
    injection ea_ with ea_ en_ ec_
    subst ea_
    subst ec_
    clear en_
    have p369 : 0 ≤ (x3_1 : Int) := of_decide_eq_true z0_
    have q369 : x3_1 < (l0.length : Int) := of_decide_eq_true z0_
    obtain ⟨ad369, A369_2, c369_2, A369_10, c369_10, A369_11, c369_11, e369, hx369_0, hx369_1, hx369_2, hx369_3, hx369_4, hx369_5, hx369_6, hx369_7, hx369_8, hx369_9, hx369_10, hx369_11, hl369_2, hi369_2, hl369_10, hi369_10, hl369_11, hi369_11⟩ := eS HR0.out x3_1 p369 q369
    obtain rfl : ad367 = ad369 := (by injection e369)
    have HR369_2 := mk_ hi369_2
    have HC369_2 := mk_ hl369_2
    clear hi369_2 hl369_2
    have HR369_10 := mk_ hi369_10
    have HC369_10 := mk_ hl369_10
    clear hi369_10 hl369_10
    have HR369_11 := mk_ hi369_11
    have HC369_11 := mk_ hl369_11
    clear hi369_11 hl369_11
    replace p369 := eq_true p369
    replace q369 := eq_true q369
    have ea_ := Option.some.inj (hx367_2.symm.trans hx369_2)
    injection ea_ with ea_ en_ ec_
    subst ea_
    subst ec_
    clear en_
    have ea_ := Option.some.inj (hx367_10.symm.trans hx369_10)
    injection ea_ with ea_ en_ ec_
    subst ea_
    subst ec_
    clear en_
    have ea_ := Option.some.inj (hx367_11.symm.trans hx369_11)
    injection ea_ with ea_ en_ ec_
    subst ea_
    subst ec_
    clear en_
    go_wp2_with (first | (go_at_call 52; (with_reducible refine (cV.calls k1 _ _ ((aK l0 x3_1).f7) true _ ?side1 ?side2 A7.out).mono ?_); (case side1 => repeat (first | exact HR369_10.out | (with_reducible refine C_alloc ?_ _) | (with_reducible refine C_drewN ?_ _) | (with_reducible refine C_drew ?_))); (case side2 => exact HC369_10.out); rintro e w' ⟨rfl, ⟨nd, rfl⟩⟩))
    go_ret
    exact ⟨z3_, by repeat (first | exact Drawn0.refl _ | apply Drawn0.step)⟩
   replace c8 := Bool.eq_false_iff.mpr c8
   subst c8
   rw [if_neg (show ¬ (false = true) by decide)] at H
   by_cases c9 : (((aK l0 x3_1).f8).length : Int) > 100
   ·
    rw [if_pos c9] at H
    have c9b0 : decide (100 < (((aK l0 x3_1).f8).length : Int)) = true := decide_eq_true c9
    have c9b1 : decide (100 < ((aK l0 x3_1).f8).length) = true := decide_eq_true z2_
    clear c9
    obtain rfl := Option.some.inj H
    have p367 : 0 ≤ (x3_1 : Int) := of_decide_eq_true z0_
    have q367 : x3_1 < (l0.length : Int) := of_decide_eq_true z0_
    obtain ⟨ad367, A367_2, c367_2, A367_10, c367_10, A367_11, c367_11, e367, hx367_0, hx367_1, hx367_2, hx367_3, hx367_4, hx367_5, hx367_6, hx367_7, hx367_8, hx367_9, hx367_10, hx367_11, hl367_2, hi367_2, hl367_10, hi367_10, hl367_11, hi367_11⟩ := eS HR0.out x3_1 p367 q367
    cases e367
    have HR367_2 := mk_ hi367_2
    have HC367_2 := mk_ hl367_2
    clear hi367_2 hl367_2
    have HR367_10 := mk_ hi367_10
    have HC367_10 := mk_ hl367_10
    clear hi367_10 hl367_10
    have HR367_11 := mk_ hi367_11
    have HC367_11 := mk_ hl367_11
    clear hi367_11 hl367_11
    replace p367 := eq_true p367
    replace q367 := eq_true q367
    have p368 : 0 ≤ (x3_1 : Int) := of_decide_eq_true z0_
    have q368 : x3_1 < (l0.length : Int) := of_decide_eq_true z0_
    obtain ⟨ad368, A368_2, c368_2, A368_10, c368_10, A368_11, c368_11, e368, hx368_0, hx368_1, hx368_2, hx368_3, hx368_4, hx368_5, hx368_6, hx368_7, hx368_8, hx368_9, hx368_10, hx368_11, hl368_2, hi368_2, hl368_10, hi368_10, hl368_11, hi368_11⟩ := eS HR0.out x3_1 p368 q368
    obtain rfl : ad367 = ad368 := (by injection e368)
    have HR368_2 := mk_ hi368_2
    have HC368_2 := mk_ hl368_2
    clear hi368_2 hl368_2
    have HR368_10 := mk_ hi368_10
    have HC368_10 := mk_ hl368_10
    clear hi368_10 hl368_10
    have HR368_11 := mk_ hi368_11
    have HC368_11 := mk_ hl368_11
    clear hi368_11 hl368_11
    replace p368 := eq_true p368
    replace q368 := eq_true q368
    have ea_ := Option.some.inj (hx367_2.symm.trans hx368_2)
    injection ea_ with ea_ en_ ec_
    subst ea_
    subst ec_
    clear en_
    have ea_ := Option.some.inj (hx367_10.symm.trans hx368_10)
    injection ea_ with ea_ en_ ec_
    subst ea_
    subst ec_
    clear en_
    have ea_ := Option.some.inj (hx367_11.symm.trans hx368_11)
    injection ea_ with ea_ en_ ec_
    subst ea_
    subst ec_
    clear en_
    have p369 : 0 ≤ (x3_1 : Int) := of_decide_eq_true z0_
    have q369 : x3_1 < (l0.length : Int) := of_decide_eq_true z0_
    obtain ⟨ad369, A369_2, c369_2, A369_10, c369_10, A369_11, c369_11, e369, hx369_0, hx369_1, hx369_2, hx369_3, hx369_4, hx369_5, hx369_6, hx369_7, hx369_8, hx369_9, hx369_10, hx369_11, hl369_2, hi369_2, hl369_10, hi369_10, hl369_11, hi369_11⟩ := eS HR0.out x3_1 p369 q369
    obtain rfl : ad367 = ad369 := (by injection e369)
    have HR369_2 := mk_ hi369_2
    have HC369_2 := mk_ hl369_2
    clear hi369_2 hl369_2
    have HR369_10 := mk_ hi369_10
    have HC369_10 := mk_ hl369_10
    clear hi369_10 hl369_10
    have HR369_11 := mk_ hi369_11
    have HC369_11 := mk_ hl369_11
    clear hi369_11 hl369_11
    replace p369 := eq_true p369
    replace q369 := eq_true q369
    have ea_ := Option.some.inj (hx367_2.symm.trans hx369_2)
    injection ea_ with ea_ en_ ec_
    subst ea_
    subst ec_
    clear en_
    have ea_ := Option.some.inj (hx367_10.symm.trans hx369_10)
    injection ea_ with ea_ en_ ec_
    subst ea_
    subst ec_
    clear en_
    have ea_ := Option.some.inj (hx367_11.symm.trans hx369_11)
    injection ea_ with ea_ en_ ec_
    subst ea_
    subst ec_
    clear en_
    go_wp2_with (first | (go_at_call 52; (with_reducible refine (cV.calls k1 _ _ ((aK l0 x3_1).f7) false _ ?side1 ?side2 A7.out).mono ?_); (case side1 => repeat (first | exact HR369_10.out | (with_reducible refine C_alloc ?_ _) | (with_reducible refine C_drewN ?_ _) | (with_reducible refine C_drew ?_))); (case side2 => exact HC369_10.out); rintro e w' ⟨rfl, ⟨nd, rfl⟩⟩; have p371 : 0 ≤ (x3_1 : Int) := of_decide_eq_true z0_; have q371 : x3_1 < (l0.length : Int) := of_decide_eq_true z0_; obtain ⟨ad371, A371_2, c371_2, A371_10, c371_10, A371_11, c371_11, e371, hx371_0, hx371_1, hx371_2, hx371_3, hx371_4, hx371_5, hx371_6, hx371_7, hx371_8, hx371_9, hx371_10, hx371_11, hl371_2, hi371_2, hl371_10, hi371_10, hl371_11, hi371_11⟩ := eS HR0.out x3_1 p371 q371; obtain rfl : ad367 = ad371 := (by injection e371); have HR371_2 := mk_ hi371_2; have HC371_2 := mk_ hl371_2; clear hi371_2 hl371_2; have HR371_10 := mk_ hi371_10; have HC371_10 := mk_ hl371_10; clear hi371_10 hl371_10; have HR371_11 := mk_ hi371_11; have HC371_11 := mk_ hl371_11; clear hi371_11 hl371_11; replace p371 := eq_true p371; replace q371 := eq_true q371; have ea_ := Option.some.inj (hx367_2.symm.trans hx371_2); injection ea_ with ea_ en_ ec_; subst ea_; subst ec_; clear en_; have ea_ := Option.some.inj (hx367_10.symm.trans hx371_10); injection ea_ with ea_ en_ ec_; subst ea_; subst ec_; clear en_; have ea_ := Option.some.inj (hx367_11.symm.trans hx371_11); injection ea_ with ea_ en_ ec_; subst ea_; subst ec_; clear en_))
    go_ret
    exact ⟨z3_, by repeat (first | exact Drawn0.refl _ | apply Drawn0.step)⟩
   rw [if_neg c9] at H
   have c9b0 : decide (100 < (((aK l0 x3_1).f8).length : Int)) = false := decide_eq_false c9
   have c9b1 : decide (100 < ((aK l0 x3_1).f8).length) = false := decide_eq_false z2_
   clear c9
   have H' := mk_ H
   clear H
   have p367 : 0 ≤ (x3_1 : Int) := of_decide_eq_true z0_
   have q367 : x3_1 < (l0.length : Int) := of_decide_eq_true z0_
   obtain ⟨ad367, A367_2, c367_2, A367_10, c367_10, A367_11, c367_11, e367, hx367_0, hx367_1, hx367_2, hx367_3, hx367_4, hx367_5, hx367_6, hx367_7, hx367_8, hx367_9, hx367_10, hx367_11, hl367_2, hi367_2, hl367_10, hi367_10, hl367_11, hi367_11⟩ := eS HR0.out x3_1 p367 q367
   cases e367
   have HR367_2 := mk_ hi367_2
   have HC367_2 := mk_ hl367_2
   clear hi367_2 hl367_2
   have HR367_10 := mk_ hi367_10
   have HC367_10 := mk_ hl367_10
   clear hi367_10 hl367_10
   have HR367_11 := mk_ hi367_11
   have HC367_11 := mk_ hl367_11
   clear hi367_11 hl367_11
   replace p367 := eq_true p367
   replace q367 := eq_true q367
   have p368 : 0 ≤ (x3_1 : Int) := of_decide_eq_true z0_
   have q368 : x3_1 < (l0.length : Int) := of_decide_eq_true z0_
   obtain ⟨ad368, A368_2, c368_2, A368_10, c368_10, A368_11, c368_11, e368, hx368_0, hx368_1, hx368_2, hx368_3, hx368_4, hx368_5, hx368_6, hx368_7, hx368_8, hx368_9, hx368_10, hx368_11, hl368_2, hi368_2, hl368_10, hi368_10, hl368_11, hi368_11⟩ := eS HR0.out x3_1 p368 q368
   obtain rfl : ad367 = ad368 := (by injection e368)
   have HR368_2 := mk_ hi368_2
   have HC368_2 := mk_ hl368_2
   clear hi368_2 hl368_2
   have HR368_10 := mk_ hi368_10
   have HC368_10 := mk_ hl368_10
   clear hi368_10 hl368_10
   have HR368_11 := mk_ hi368_11
   have HC368_11 := mk_ hl368_11
   clear hi368_11 hl368_11
   replace p368 := eq_true p368
   replace q368 := eq_true q368
   have ea_ := Option.some.inj (hx367_2.symm.trans hx368_2)
   injection ea_ with ea_ en_ ec_
   subst ea_
   subst ec_
   clear en_
   have ea_ := Option.some.inj (hx367_10.symm.trans hx368_10)
   injection ea_ with ea_ en_ ec_
   subst ea_
   subst ec_
   clear en_
   have ea_ := Option.some.inj (hx367_11.symm.trans hx368_11)
   injection ea_ with ea_ en_ ec_
   subst ea_
   subst ec_
   clear en_
   have p369 : 0 ≤ (x3_1 : Int) := of_decide_eq_true z0_
   have q369 : x3_1 < (l0.length : Int) := of_decide_eq_true z0_
   obtain ⟨ad369, A369_2, c369_2, A369_10, c369_10, A369_11, c369_11, e369, hx369_0, hx369_1, hx369_2, hx369_3, hx369_4, hx369_5, hx369_6, hx369_7, hx369_8, hx369_9, hx369_10, hx369_11, hl369_2, hi369_2, hl369_10, hi369_10, hl369_11, hi369_11⟩ := eS HR0.out x3_1 p369 q369
   obtain rfl : ad367 = ad369 := (by injection e369)
   have HR369_2 := mk_ hi369_2
   have HC369_2 := mk_ hl369_2
   clear hi369_2 hl369_2
   have HR369_10 := mk_ hi369_10
   have HC369_10 := mk_ hl369_10
   clear hi369_10 hl369_10
   have HR369_11 := mk_ hi369_11
   have HC369_11 := mk_ hl369_11
   clear hi369_11 hl369_11
   replace p369 := eq_true p369
   replace q369 := eq_true q369
   have ea_ := Option.some.inj (hx367_2.symm.trans hx369_2)
   injection ea_ with ea_ en_ ec_
   subst ea_
   subst ec_
   clear en_
   have ea_ := Option.some.inj (hx367_10.symm.trans hx369_10)
   injection ea_ with ea_ en_ ec_
   subst ea_
   subst ec_
   clear en_
   have ea_ := Option.some.inj (hx367_11.symm.trans hx369_11)
   injection ea_ with ea_ en_ ec_
   subst ea_
   subst ec_
   clear en_
   go_wp2_with (first | (go_at_call 52; (with_reducible refine (cV.calls k1 _ _ ((aK l0 x3_1).f7) false _ ?side1 ?side2 A7.out).mono ?_); (case side1 => repeat (first | exact HR369_10.out | (with_reducible refine C_alloc ?_ _) | (with_reducible refine C_drewN ?_ _) | (with_reducible refine C_drew ?_))); (case side2 => exact HC369_10.out); rintro e w' ⟨rfl, ⟨nd, rfl⟩⟩; have p371 : 0 ≤ (x3_1 : Int) := of_decide_eq_true z0_; have q371 : x3_1 < (l0.length : Int) := of_decide_eq_true z0_; obtain ⟨ad371, A371_2, c371_2, A371_10, c371_10, A371_11, c371_11, e371, hx371_0, hx371_1, hx371_2, hx371_3, hx371_4, hx371_5, hx371_6, hx371_7, hx371_8, hx371_9, hx371_10, hx371_11, hl371_2, hi371_2, hl371_10, hi371_10, hl371_11, hi371_11⟩ := eS HR0.out x3_1 p371 q371; obtain rfl : ad367 = ad371 := (by injection e371); have HR371_2 := mk_ hi371_2; have HC371_2 := mk_ hl371_2; clear hi371_2 hl371_2; have HR371_10 := mk_ hi371_10; have HC371_10 := mk_ hl371_10; clear hi371_10 hl371_10; have HR371_11 := mk_ hi371_11; have HC371_11 := mk_ hl371_11; clear hi371_11 hl371_11; replace p371 := eq_true p371; replace q371 := eq_true q371; have ea_ := Option.some.inj (hx367_2.symm.trans hx371_2); injection ea_ with ea_ en_ ec_; subst ea_; subst ec_; clear en_; have ea_ := Option.some.inj (hx367_10.symm.trans hx371_10); injection ea_ with ea_ en_ ec_; subst ea_; subst ec_; clear en_; have ea_ := Option.some.inj (hx367_11.symm.trans hx371_11); injection ea_ with ea_ en_ ec_; subst ea_; subst ec_; clear en_))
   go_roundg k1
   case measure => have := HK1.out; omega
   case rel => exact ⟨(wrap64 (x3_1 + 1)), z3_, H', ⟨by have := HK1.out; omega⟩, by repeat (first | exact Drawn0.refl _ | apply Drawn0.step)⟩
end Go.Proofs.Ytcbfliajgopdaaa.PAll
end
section
namespace Go.Proofs.Ytcbfliajgopdaaa.PAll
open Go.RowKit PrintWords PrintLast PrintMore ZipT PrintWords.Kd PrintMore.Kd
attribute [local go_sem] eC eA eN eR dR dP eD eB   -- for this text's walks alone
set_option linter.unusedVariables false
set_option linter.unusedSimpArgs false
mutual
def bA.l0 : Nat → List (S80) → Int → Option (Bool)
 | 0, _, _ => none
 | k + 1, x0, x3 => if x3 < (x0.length : Int) then (bA.l1 k x0 x3 ([] : List (S89)) 0) else (some false)
def bA.l1 : Nat → List (S80) → Int → List (S89) → Int → Option (Bool)
 | 0, _, _, _, _ => none
 | k + 1, x0, x3, x4, x5 => if 0 ≤ x3 then (if x3 < (x0.length : Int) then (if x5 < (((aU x0 x3).f2).length : Int) then (if 0 ≤ x5 then (if x4.length < 4398046511104 then (bA.l1 k x0 x3 (x4 ++ [(⟨(aZ ((aU x0 x3).f2) x5).f0.f0, (aZ ((aU x0 x3).f2) x5).f0.f1, (aZ ((aU x0 x3).f2) x5).f0.f2⟩ : S89)]) (wrap64 (x5 + 1))) else (none)) else (none)) else (if (((aU x0 x3).f0).size : Int) > 100 then (some true) else (if (((aU x0 x3).f1).length : Int) > 100 then (some true) else ((cV.f k x4).bind fun t380 => (if t380 = true then (some true) else (bA.l0 k x0 (wrap64 (x3 + 1)))))))) else (none)) else (none)
end
def bA.f (k : Nat) (l0 : List (S80)) : Option (Bool) := if (l0.length : Int) > 300 then (some true) else (bA.l0 k l0 0)
theorem bA.calls (k : Nat) (A0 : Option Addr) (c0 : Nat) (l0 : List (S80)) (r : Bool) (w : World) (hr0 : Kd.C k80 w A0 l0.length l0) (hc0 : l0.length ≤ c0) (h : bA.f k l0 = some r) :
  Calls Try.prog 67 #[.slice A0 l0.length c0] w fun e w' => e = .returned (.bool r) ∧ Below w.heap.size w w' := by
 have hu89 := Try.underlying89
 have HR0 := mk_ hr0
 have HC0 := mk_ hc0
 clear hr0 hc0
 have HB := mk_ (Below.refl w.heap.size w)
 have H : (if (l0.length : Int) > 300 then (some true) else (bA.l0 k l0 0)) = some r := h
 clear h
 by_cases c2 : (l0.length : Int) > 300
 ·
  rw [if_pos c2] at H
  have c2b0 : decide (300 < (l0.length : Int)) = true := decide_eq_true c2
  have c2b1 : decide (300 < l0.length) = true := decide_eq_true z2_
  clear c2
  obtain rfl := Option.some.inj H
  go_enter Try.func67, Try.ntmps67
  go_wp2
  go_ret
  exact ⟨by first | rfl | (rw [hrt]; rfl) | (simp [bD, bC] <;> rfl) | (simp [*, bD, bC] <;> rfl), Short.hB HB⟩
 rw [if_neg c2] at H
 have c2b0 : decide (300 < (l0.length : Int)) = false := decide_eq_false c2
 have c2b1 : decide (300 < l0.length) = false := decide_eq_false z2_
 clear c2
 have H' := mk_ H
 clear H
 go_enter Try.func67, Try.ntmps67
 go_wp2
 go_loopg [3] k (fun kq v3 w' => ∃ (x3_1 : Int), v3 = .int .i64 x3_1 ∧ Aside0 (bA.l0 kq l0 x3_1 = some r) ∧ Aside0 (kq ≤ k) ∧ Aside0 (Below w.heap.size w w'))
 case atStart => exact ⟨(0), z3_, H', ⟨Nat.le_refl _⟩, ⟨Short.hB HB⟩⟩
 case round =>
  clear H'
  try clear c2
  try clear c2b0
  try clear c2b1
  obtain ⟨x3_1, rfl, HA, HK1, HB⟩ := hrel
  cases gk with
  | zero => exact absurd HA.out (by simp [bA.l0])
  | succ k1 =>
   have H := HA.out
   clear HA
   simp only [bA.l0] at H
   by_cases c3 : x3_1 < (l0.length : Int)
   rotate_left
   ·
    rw [if_neg c3] at H
    have c3b0 : decide (x3_1 < (l0.length : Int)) = false := decide_eq_false c3
    clear c3
    obtain rfl := Option.some.inj H
    go_wp2
    go_ret
    exact ⟨by first | rfl | (rw [hrt]; rfl) | (simp [bD, bC] <;> rfl) | (simp [*, bD, bC] <;> rfl), Short.hB HB⟩
   rw [if_pos c3] at H
   have c3b0 : decide (x3_1 < (l0.length : Int)) = true := decide_eq_true c3
   clear c3
   have H' := mk_ H
   clear H
   go_wp2
   go_loopg [4, 5] k1 (fun kq v4 v5 w' => ∃ (x4_2 : List (S89)) (x5_2 : Int), v5 = .int .i64 x5_2 ∧ Aside0 (bA.l1 kq l0 x3_1 x4_2 x5_2 = some r) ∧ Aside0 (kq ≤ k1) ∧ Aside0 (Kd.R k89 89 w' w.heap.size (fun _ => True) v4 x4_2) ∧ Aside0 (Below w.heap.size w w'))
   case atStart => exact ⟨(([] : List (S89))), (0), z3_, H', ⟨Nat.le_refl _⟩, ⟨by first | exact R_nil _ _ _ _ _ | exact N_nil _ _ _ _ _ | exact V_nil _ _ _ _ _ | exact Q_nil _ _ _ _ _ | exact S_nil _ _ _ _ _⟩, ⟨Short.hB HB⟩⟩
   case round =>
    clear H'
    try clear c3
    try clear c3b0
    obtain ⟨x4_2, x5_2, rfl, HA, HK2, HO_4, HB⟩ := hrel
    cases gk with
    | zero => exact absurd HA.out (by simp [bA.l1])
    | succ k2 =>
     have H := HA.out
     clear HA
     simp only [bA.l1] at H
     by_cases c4 : 0 ≤ x3_1
     rotate_left
     ·
      rw [if_neg c4] at H
      exact absurd H (by simp)
     rw [if_pos c4] at H
     have c4b0 : decide (0 ≤ x3_1) = true := decide_eq_true c4
     clear c4
     by_cases c5 : x3_1 < (l0.length : Int)
     rotate_left
     ·
      rw [if_neg c5] at H
      exact absurd H (by simp)
     rw [if_pos c5] at H
     have c5b0 : decide (x3_1 < (l0.length : Int)) = true := decide_eq_true c5
     clear c5
     by_cases c6 : x5_2 < (((aU l0 x3_1).f2).length : Int)
     ·
      rw [if_pos c6] at H
      have c6b0 : decide (x5_2 < (((aU l0 x3_1).f2).length : Int)) = true := decide_eq_true c6
      clear c6
      by_cases c7 : 0 ≤ x5_2
      rotate_left
      ·
       rw [if_neg c7] at H
       exact absurd H (by simp)
      rw [if_pos c7] at H
      have c7b0 : decide (0 ≤ x5_2) = true := decide_eq_true c7
      clear c7
      by_cases c8 : x4_2.length < 4398046511104
      rotate_left
      ·
       rw [if_neg c8] at H
       exact absurd H (by simp)
      rw [if_pos c8] at H
      have LMc8 := mk_ c8
      clear c8
      obtain ⟨y375, hy375⟩ : ∃ y_ : List (S89), y_ = (x4_2 ++ [(⟨(aZ ((aU l0 x3_1).f2) x5_2).f0.f0, (aZ ((aU l0 x3_1).f2) x5_2).f0.f1, (aZ ((aU l0 x3_1).f2) x5_2).f0.f2⟩ : S89)]) := ⟨_, rfl⟩
      replace H : (bA.l1 k2 l0 x3_1 y375 (wrap64 (x5_2 + 1))) = some r := by first | (rw [hy375]; with_reducible exact H) | (have H2_ := (Option.bind_some _ _).symm.trans H; rw [hy375]; with_reducible exact H2_) | (have H2_ := (Option.bind_some _ _).symm.trans H; with_reducible exact H2_) | with_reducible exact H | (rw [hy375]; exact H) | exact H
      have Ny375 := mk_ hy375
      clear hy375
      have H' := mk_ H
      clear H
      have p372 : 0 ≤ (x3_1 : Int) := of_decide_eq_true z0_
      have q372 : x3_1 < (l0.length : Int) := of_decide_eq_true z0_
      obtain ⟨ad372, A372_1, c372_1, A372_2, c372_2, e372, hx372_0, hx372_1, hx372_2, hl372_1, hi372_1, hl372_2, hi372_2⟩ := fD HR0.out x3_1 p372 q372
      cases e372
      replace hx372_0 := up_ HB hx372_0
      replace hx372_1 := up_ HB hx372_1
      replace hx372_2 := up_ HB hx372_2
      have HR372_1 := mk_ hi372_1
      have HC372_1 := mk_ hl372_1
      clear hi372_1 hl372_1
      have HR372_2 := mk_ hi372_2
      have HC372_2 := mk_ hl372_2
      clear hi372_2 hl372_2
      replace p372 := eq_true p372
      replace q372 := eq_true q372
      have p373 : 0 ≤ (x3_1 : Int) := of_decide_eq_true z0_
      have q373 : x3_1 < (l0.length : Int) := of_decide_eq_true z0_
      obtain ⟨ad373, A373_1, c373_1, A373_2, c373_2, e373, hx373_0, hx373_1, hx373_2, hl373_1, hi373_1, hl373_2, hi373_2⟩ := fD HR0.out x3_1 p373 q373
      obtain rfl : ad372 = ad373 := (by injection e373)
      replace hx373_0 := up_ HB hx373_0
      replace hx373_1 := up_ HB hx373_1
      replace hx373_2 := up_ HB hx373_2
      have HR373_1 := mk_ hi373_1
      have HC373_1 := mk_ hl373_1
      clear hi373_1 hl373_1
      have HR373_2 := mk_ hi373_2
      have HC373_2 := mk_ hl373_2
      clear hi373_2 hl373_2
      replace p373 := eq_true p373
      replace q373 := eq_true q373
      have ea_ := Option.some.inj (hx372_1.symm.trans hx373_1)
      injection ea_ with ea_ en_ ec_
      subst ea_
      subst ec_
      clear en_
      have ea_ := Option.some.inj (hx372_2.symm.trans hx373_2)
      injection ea_ with ea_ en_ ec_
      subst ea_
      subst ec_
      clear en_
      have p374 : 0 ≤ (x5_2 : Int) := of_decide_eq_true z0_
      have q374 : x5_2 < (((aU l0 x3_1).f2).length : Int) := of_decide_eq_true z0_
      obtain ⟨ad374, e374, hx374_0, hx374_1, hx374_2, hx374_3, hx374_4, hx374_5, hx374_6, hx374_7⟩ := gA HR373_2.out x5_2 p374 q374
      cases e374
      replace hx374_0 := up_ HB hx374_0
      replace hx374_1 := up_ HB hx374_1
      replace hx374_2 := up_ HB hx374_2
      replace hx374_3 := up_ HB hx374_3
      replace hx374_4 := up_ HB hx374_4
      replace hx374_5 := up_ HB hx374_5
      replace hx374_6 := up_ HB hx374_6
      replace hx374_7 := up_ HB hx374_7
      replace p374 := eq_true p374
      replace q374 := eq_true q374
      go_wp2_with (first | ((with_reducible refine cJ (b := .append) (xs := #[.tmp 25, .tmp 35]) rfl ?_); at_builtin; refine fV k89 (w0 := w) w.heap.size rfl (.tmp 25) (.tmp 35) 51 89 (.agg #[(.int .i64 0), (.int .i64 0), (.string ⟨#[]⟩)]) 32 rfl Try.underlying51 info89 rfl z4_ z2_ u4 x4_2 (⟨(aZ ((aU l0 x3_1).f2) x5_2).f0.f0, (aZ ((aU l0 x3_1).f2) x5_2).f0.f1, (aZ ((aU l0 x3_1).f2) x5_2).f0.f2⟩ : S89) [.int .i64 ((aZ ((aU l0 x3_1).f2) x5_2).f0.f0), .int .i64 ((aZ ((aU l0 x3_1).f2) x5_2).f0.f1), .string ((aZ ((aU l0 x3_1).f2) x5_2).f0.f2)] (fun _ => True) (fun _ => False) rfl rfl ?aP (fun _ hk => hk.elim) ?aF ?aO ?aB ?aS ?aL ?_; (case aP => exact k89_mkM _ _ _ (⟨(aZ ((aU l0 x3_1).f2) x5_2).f0.f0, (aZ ((aU l0 x3_1).f2) x5_2).f0.f1, (aZ ((aU l0 x3_1).f2) x5_2).f0.f2⟩ : S89)); (case aB => exact (Short.hB HB)); (case aF => exact (fun _ _ => trivial)); (case aO => exact (ZKR HO_4)); (case aS => exact (aN (Short.hB HB))); (case aL => have := LMc8.out; omega); intro v376 w9 ho hb hg hat; rw [← Ny375.out] at ho; have n0_ := mk_ (hb); have n1_ := mk_ (ho); clear HB HO_4; revert n0_ n1_; intro HB HO377; clear ho hb hg hat))
      go_roundg k2
      case measure => have := HK1.out; have := HK2.out; omega
      case rel => exact ⟨(y375), (wrap64 (x5_2 + 1)), z3_, H', ⟨by have := HK1.out; have := HK2.out; omega⟩, ⟨by (with_reducible repeat (first | apply R_alloc | apply R_drewN | apply R_drew)); exact HO377.out⟩, ⟨Short.hB HB⟩⟩
     rw [if_neg c6] at H
     have c6b0 : decide (x5_2 < (((aU l0 x3_1).f2).length : Int)) = false := decide_eq_false c6
     clear c6
     by_cases c10 : (((aU l0 x3_1).f0).size : Int) > 100
     ·
      rw [if_pos c10] at H
      have c10b0 : decide (100 < (((aU l0 x3_1).f0).size : Int)) = true := decide_eq_true c10
      have c10b1 : decide (100 < ((aU l0 x3_1).f0).size) = true := decide_eq_true z2_
      clear c10
      obtain rfl := Option.some.inj H
      have p372 : 0 ≤ (x3_1 : Int) := of_decide_eq_true z0_
      have q372 : x3_1 < (l0.length : Int) := of_decide_eq_true z0_
      obtain ⟨ad372, A372_1, c372_1, A372_2, c372_2, e372, hx372_0, hx372_1, hx372_2, hl372_1, hi372_1, hl372_2, hi372_2⟩ := fD HR0.out x3_1 p372 q372
      cases e372
      replace hx372_0 := up_ HB hx372_0
      replace hx372_1 := up_ HB hx372_1
      replace hx372_2 := up_ HB hx372_2
      have HR372_1 := mk_ hi372_1
      have HC372_1 := mk_ hl372_1
      clear hi372_1 hl372_1
      have HR372_2 := mk_ hi372_2
      have HC372_2 := mk_ hl372_2
      clear hi372_2 hl372_2
      replace p372 := eq_true p372
      replace q372 := eq_true q372
      have p378 : 0 ≤ (x3_1 : Int) := of_decide_eq_true z0_
      have q378 : x3_1 < (l0.length : Int) := of_decide_eq_true z0_
      obtain ⟨ad378, A378_1, c378_1, A378_2, c378_2, e378, hx378_0, hx378_1, hx378_2, hl378_1, hi378_1, hl378_2, hi378_2⟩ := fD HR0.out x3_1 p378 q378
      obtain rfl : ad372 = ad378 := (by injection e378)
      replace hx378_0 := up_ HB hx378_0
      replace hx378_1 := up_ HB hx378_1
      replace hx378_2 := up_ HB hx378_2
      have HR378_1 := mk_ hi378_1
      have HC378_1 := mk_ hl378_1
      clear hi378_1 hl378_1
      have HR378_2 := mk_ hi378_2
      have HC378_2 := mk_ hl378_2
      clear hi378_2 hl378_2
      replace p378 := eq_true p378
      replace q378 := eq_true q378
      have ea_ := Option.some.inj (hx372_1.symm.trans hx378_1)
      injection ea_ with ea_ en_ ec_
      subst ea_
      subst ec_
      clear en_
      have ea_ := Option.some.inj (hx372_2.symm.trans hx378_2)
      injection ea_ with ea_ en_ ec_
      subst ea_
      subst ec_
      clear en_
      go_wp2
      go_ret
      exact ⟨by first | rfl | (rw [hrt]; rfl) | (simp [bD, bC] <;> rfl) | (simp [*, bD, bC] <;> rfl), Short.hB HB⟩
     rw [if_neg c10] at H
     have c10b0 : decide (100 < (((aU l0 x3_1).f0).size : Int)) = false := decide_eq_false c10
     have c10b1 : decide (100 < ((aU l0 x3_1).f0).size) = false := decide_eq_false z2_
     clear c10
     by_cases c11 : (((aU l0 x3_1).f1).length : Int) > 100
     ·
      rw [if_pos c11] at H
      have c11b0 : decide (100 < (((aU l0 x3_1).f1).length : Int)) = true := decide_eq_true c11
      have c11b1 : decide (100 < ((aU l0 x3_1).f1).length) = true := decide_eq_true z2_
      clear c11
      obtain rfl := Option.some.inj H
      have p372 : 0 ≤ (x3_1 : Int) := of_decide_eq_true z0_
      have q372 : x3_1 < (l0.length : Int) := of_decide_eq_true z0_
      obtain ⟨ad372, A372_1, c372_1, A372_2, c372_2, e372, hx372_0, hx372_1, hx372_2, hl372_1, hi372_1, hl372_2, hi372_2⟩ := fD HR0.out x3_1 p372 q372
      cases e372
      replace hx372_0 := up_ HB hx372_0
      replace hx372_1 := up_ HB hx372_1
      replace hx372_2 := up_ HB hx372_2
      have HR372_1 := mk_ hi372_1
      have HC372_1 := mk_ hl372_1
      clear hi372_1 hl372_1
      have HR372_2 := mk_ hi372_2
      have HC372_2 := mk_ hl372_2
      clear hi372_2 hl372_2
      replace p372 := eq_true p372
      replace q372 := eq_true q372
      have p378 : 0 ≤ (x3_1 : Int) := of_decide_eq_true z0_
      have q378 : x3_1 < (l0.length : Int) := of_decide_eq_true z0_
      obtain ⟨ad378, A378_1, c378_1, A378_2, c378_2, e378, hx378_0, hx378_1, hx378_2, hl378_1, hi378_1, hl378_2, hi378_2⟩ := fD HR0.out x3_1 p378 q378
      obtain rfl : ad372 = ad378 := (by injection e378)
      replace hx378_0 := up_ HB hx378_0
      replace hx378_1 := up_ HB hx378_1
      replace hx378_2 := up_ HB hx378_2
      have HR378_1 := mk_ hi378_1
      have HC378_1 := mk_ hl378_1
      clear hi378_1 hl378_1
      have HR378_2 := mk_ hi378_2
      have HC378_2 := mk_ hl378_2
      clear hi378_2 hl378_2
      replace p378 := eq_true p378
      replace q378 := eq_true q378
      have ea_ := Option.some.inj (hx372_1.symm.trans hx378_1)
      injection ea_ with ea_ en_ ec_
      subst ea_
      subst ec_
      clear en_
      have ea_ := Option.some.inj (hx372_2.symm.trans hx378_2)
      injection ea_ with ea_ en_ ec_
      subst ea_
      subst ec_
      clear en_
      have p379 : 0 ≤ (x3_1 : Int) := of_decide_eq_true z0_
      have q379 : x3_1 < (l0.length : Int) := of_decide_eq_true z0_
      obtain ⟨ad379, A379_1, c379_1, A379_2, c379_2, e379, hx379_0, hx379_1, hx379_2, hl379_1, hi379_1, hl379_2, hi379_2⟩ := fD HR0.out x3_1 p379 q379
      obtain rfl : ad372 = ad379 := (by injection e379)
      replace hx379_0 := up_ HB hx379_0
      replace hx379_1 := up_ HB hx379_1
      replace hx379_2 := up_ HB hx379_2
      have HR379_1 := mk_ hi379_1
      have HC379_1 := mk_ hl379_1
      clear hi379_1 hl379_1
      have HR379_2 := mk_ hi379_2
      have HC379_2 := mk_ hl379_2
      clear hi379_2 hl379_2
      replace p379 := eq_true p379
      replace q379 := eq_true q379
      have ea_ := Option.some.inj (hx372_1.symm.trans hx379_1)
      injection ea_ with ea_ en_ ec_
      subst ea_
      subst ec_
      clear en_
      have ea_ := Option.some.inj (hx372_2.symm.trans hx379_2)
      injection ea_ with ea_ en_ ec_
      subst ea_
      subst ec_
      clear en_
      go_wp2
      go_ret
      exact ⟨by first | rfl | (rw [hrt]; rfl) | (simp [bD, bC] <;> rfl) | (simp [*, bD, bC] <;> rfl), Short.hB HB⟩
     rw [if_neg c11] at H
     have c11b0 : decide (100 < (((aU l0 x3_1).f1).length : Int)) = false := decide_eq_false c11
     have c11b1 : decide (100 < ((aU l0 x3_1).f1).length) = false := decide_eq_false z2_
     clear c11
     obtain ⟨t380, A12, H⟩ := Option.bind_eq_some_iff.mp H
     replace A12 := mk_ A12
     by_cases c13 : t380 = true
     ·
      subst c13
      rw [if_pos rfl] at H
      obtain rfl := Option.some.inj H
      have p372 : 0 ≤ (x3_1 : Int) := of_decide_eq_true z0_
      have q372 : x3_1 < (l0.length : Int) := of_decide_eq_true z0_
      obtain ⟨ad372, A372_1, c372_1, A372_2, c372_2, e372, hx372_0, hx372_1, hx372_2, hl372_1, hi372_1, hl372_2, hi372_2⟩ := fD HR0.out x3_1 p372 q372
      cases e372
      replace hx372_0 := up_ HB hx372_0
      replace hx372_1 := up_ HB hx372_1
      replace hx372_2 := up_ HB hx372_2
      have HR372_1 := mk_ hi372_1
      have HC372_1 := mk_ hl372_1
      clear hi372_1 hl372_1
      have HR372_2 := mk_ hi372_2
      have HC372_2 := mk_ hl372_2
      clear hi372_2 hl372_2
      replace p372 := eq_true p372
      replace q372 := eq_true q372
      have p378 : 0 ≤ (x3_1 : Int) := of_decide_eq_true z0_
      have q378 : x3_1 < (l0.length : Int) := of_decide_eq_true z0_
      obtain ⟨ad378, A378_1, c378_1, A378_2, c378_2, e378, hx378_0, hx378_1, hx378_2, hl378_1, hi378_1, hl378_2, hi378_2⟩ := fD HR0.out x3_1 p378 q378
      obtain rfl : ad372 = ad378 := (by injection e378)
      replace hx378_0 := up_ HB hx378_0
      replace hx378_1 := up_ HB hx378_1
      replace hx378_2 := up_ HB hx378_2
      have HR378_1 := mk_ hi378_1
      have HC378_1 := mk_ hl378_1
      clear hi378_1 hl378_1
      have HR378_2 := mk_ hi378_2
      have HC378_2 := mk_ hl378_2
      clear hi378_2 hl378_2
      replace p378 := eq_true p378
      replace q378 := eq_true q378
      have ea_ := Option.some.inj (hx372_1.symm.trans hx378_1)
      injection ea_ with ea_ en_ ec_
      subst ea_
      subst ec_
      clear en_
      have ea_ := Option.some.inj (hx372_2.symm.trans hx378_2)
      injection ea_ with ea_ en_ ec_
      subst ea_
      subst ec_
      clear en_
      have p379 : 0 ≤ (x3_1 : Int) := of_decide_eq_true z0_
      have q379 : x3_1 < (l0.length : Int) := of_decide_eq_true z0_
      obtain ⟨ad379, A379_1, c379_1, A379_2, c379_2, e379, hx379_0, hx379_1, hx379_2, hl379_1, hi379_1, hl379_2, hi379_2⟩ := fD HR0.out x3_1 p379 q379
      obtain rfl : ad372 = ad379 := (by injection e379)
      replace hx379_0 := up_ HB hx379_0
      replace hx379_1 := up_ HB hx379_1
      replace hx379_2 := up_ HB hx379_2
      have HR379_1 := mk_ hi379_1
      have HC379_1 := mk_ hl379_1
      clear hi379_1 hl379_1
      have HR379_2 := mk_ hi379_2
      have HC379_2 := mk_ hl379_2
      clear hi379_2 hl379_2
      replace p379 := eq_true p379
      replace q379 := eq_true q379
      have ea_ := Option.some.inj (hx372_1.symm.trans hx379_1)
      injection ea_ with ea_ en_ ec_
      subst ea_
      subst ec_
      clear en_
      have ea_ := Option.some.inj (hx372_2.symm.trans hx379_2)
      injection ea_ with ea_ en_ ec_
      subst ea_
      subst ec_
      clear en_
      obtain ⟨Ao14, co14, eo14⟩ := dH HO_4.out
      subst eo14
      go_wp2_with (first | (go_at_call 52; (with_reducible refine (cV.calls k2 _ _ x4_2 true _ ?side1 ?side2 A12.out).mono ?_); (case side1 => exact cX_ (R_reads' HO_4.out).2.2); (case side2 => exact (R_reads' HO_4.out).2.1); rintro e w' ⟨rfl, ⟨nd, rfl⟩⟩))
      go_ret
      exact ⟨by first | rfl | (rw [hrt]; rfl) | (simp [bD, bC] <;> rfl) | (simp [*, bD, bC] <;> rfl), Short.hB HB⟩
     replace c13 := Bool.eq_false_iff.mpr c13
     subst c13
     rw [if_neg (show ¬ (false = true) by decide)] at H
     have H' := mk_ H
     clear H
     have p372 : 0 ≤ (x3_1 : Int) := of_decide_eq_true z0_
     have q372 : x3_1 < (l0.length : Int) := of_decide_eq_true z0_
     obtain ⟨ad372, A372_1, c372_1, A372_2, c372_2, e372, hx372_0, hx372_1, hx372_2, hl372_1, hi372_1, hl372_2, hi372_2⟩ := fD HR0.out x3_1 p372 q372
     cases e372
     replace hx372_0 := up_ HB hx372_0
     replace hx372_1 := up_ HB hx372_1
     replace hx372_2 := up_ HB hx372_2
     have HR372_1 := mk_ hi372_1
     have HC372_1 := mk_ hl372_1
     clear hi372_1 hl372_1
     have HR372_2 := mk_ hi372_2
     have HC372_2 := mk_ hl372_2
     clear hi372_2 hl372_2
     replace p372 := eq_true p372
     replace q372 := eq_true q372
     have p378 : 0 ≤ (x3_1 : Int) := of_decide_eq_true z0_
     have q378 : x3_1 < (l0.length : Int) := of_decide_eq_true z0_
     obtain ⟨ad378, A378_1, c378_1, A378_2, c378_2, e378, hx378_0, hx378_1, hx378_2, hl378_1, hi378_1, hl378_2, hi378_2⟩ := fD HR0.out x3_1 p378 q378
     obtain rfl : ad372 = ad378 := (by injection e378)
     replace hx378_0 := up_ HB hx378_0
     replace hx378_1 := up_ HB hx378_1
     replace hx378_2 := up_ HB hx378_2
     have HR378_1 := mk_ hi378_1
     have HC378_1 := mk_ hl378_1
     clear hi378_1 hl378_1
     have HR378_2 := mk_ hi378_2
     have HC378_2 := mk_ hl378_2
     clear hi378_2 hl378_2
     replace p378 := eq_true p378
     replace q378 := eq_true q378
     have ea_ := Option.some.inj (hx372_1.symm.trans hx378_1)
     injection ea_ with ea_ en_ ec_
     subst ea_
     subst ec_
     clear en_
     have ea_ := Option.some.inj (hx372_2.symm.trans hx378_2)
     injection ea_ with ea_ en_ ec_
     subst ea_
     subst ec_
     clear en_
     have p379 : 0 ≤ (x3_1 : Int) := of_decide_eq_true z0_
     have q379 : x3_1 < (l0.length : Int) := of_decide_eq_true z0_
     obtain ⟨ad379, A379_1, c379_1, A379_2, c379_2, e379, hx379_0, hx379_1, hx379_2, hl379_1, hi379_1, hl379_2, hi379_2⟩ := fD HR0.out x3_1 p379 q379
     obtain rfl : ad372 = ad379 := (by injection e379)
     replace hx379_0 := up_ HB hx379_0
     replace hx379_1 := up_ HB hx379_1
     replace hx379_2 := up_ HB hx379_2
     have HR379_1 := mk_ hi379_1
     have HC379_1 := mk_ hl379_1
     clear hi379_1 hl379_1
     have HR379_2 := mk_ hi379_2
     have HC379_2 := mk_ hl379_2
     clear hi379_2 hl379_2
     replace p379 := eq_true p379
     replace q379 := eq_true q379
     have ea_ := Option.some.inj (hx372_1.symm.trans hx379_1)
     injection ea_ with ea_ en_ ec_
     subst ea_
     subst ec_
     clear en_
     have ea_ := Option.some.inj (hx372_2.symm.trans hx379_2)
     injection ea_ with ea_ en_ ec_
     subst ea_
     subst ec_
     clear en_
     obtain ⟨Ao15, co15, eo15⟩ := dH HO_4.out
     subst eo15
     go_wp2_with (first | (go_at_call 52; (with_reducible refine (cV.calls k2 _ _ x4_2 false _ ?side1 ?side2 A12.out).mono ?_); (case side1 => exact cX_ (R_reads' HO_4.out).2.2); (case side2 => exact (R_reads' HO_4.out).2.1); rintro e w' ⟨rfl, ⟨nd, rfl⟩⟩))
     go_roundg k2
     case measure => have := HK1.out; have := HK2.out; omega
     case rel => exact ⟨(wrap64 (x3_1 + 1)), z3_, H', ⟨by have := HK1.out; have := HK2.out; omega⟩, ⟨Short.hB HB⟩⟩
end Go.Proofs.Ytcbfliajgopdaaa.PAll
end
section
namespace Go.Proofs.Ytcbfliajgopdaaa.PAll
open Go.RowKit PrintWords PrintLast PrintMore ZipT PrintWords.Kd PrintMore.Kd
attribute [local go_sem] eC eA eN eR dR dP eD eB   -- for this text's walks alone
set_option linter.unusedVariables false
set_option linter.unusedSimpArgs false
mutual
def aQ.j0 : Nat → Bool → List Int → Int → Int → Int → List (List (S80)) → List (List Int) → List (S54) → Option (Bool)
 | 0, _, _, _, _, _, _, _, _ => none
 | k + 1, x25, x382000, x382001, x382002, x382003, x382004, x382005, x382006 => if x25 = true then (some true) else (aQ.l0 k 0 x382000 x382001 x382002 x382003 x382004 x382005 x382006)
def aQ.l0 : Nat → Int → List Int → Int → Int → Int → List (List (S80)) → List (List Int) → List (S54) → Option (Bool)
 | 0, _, _, _, _, _, _, _, _ => none
 | k + 1, x3, x382000, x382001, x382002, x382003, x382004, x382005, x382006 => if x3 < (x382005.length : Int) then (if 0 ≤ x3 then (if ((dS x382005 x3).length : Int) > 30 then (some true) else (aQ.l0 k (wrap64 (x3 + 1)) x382000 x382001 x382002 x382003 x382004 x382005 x382006)) else (none)) else (aQ.l1 k 0 x382000 x382001 x382002 x382003 x382004 x382005 x382006)
def aQ.l1 : Nat → Int → List Int → Int → Int → Int → List (List (S80)) → List (List Int) → List (S54) → Option (Bool)
 | 0, _, _, _, _, _, _, _, _ => none
 | k + 1, x4, x382000, x382001, x382002, x382003, x382004, x382005, x382006 => if x4 < (x382004.length : Int) then (if 0 ≤ x4 then ((bA.f k (aX x382004 x4)).bind fun t385 => (if t385 = true then (some true) else (aQ.l1 k (wrap64 (x4 + 1)) x382000 x382001 x382002 x382003 x382004 x382005 x382006))) else (none)) else (some false)
end
def aQ.f (k : Nat) (l0_0 : List Int) (a0_1 : Int) (a0_2 : Int) (a0_3 : Int) (l0_4 : List (List (S80))) (l0_5 : List (List Int)) (l0_6 : List (S54)) : Option (Bool) := if (l0_0.length : Int) > 30 then (aQ.j0 k true l0_0 a0_1 a0_2 a0_3 l0_4 l0_5 l0_6) else (if (l0_4.length : Int) > 20 then (aQ.j0 k true l0_0 a0_1 a0_2 a0_3 l0_4 l0_5 l0_6) else (if (l0_5.length : Int) > 30 then (aQ.j0 k true l0_0 a0_1 a0_2 a0_3 l0_4 l0_5 l0_6) else ((bS.f k l0_6).bind fun t382 => (aQ.j0 k t382 l0_0 a0_1 a0_2 a0_3 l0_4 l0_5 l0_6))))
theorem aQ.calls (k : Nat) (A0_0 : Option Addr) (c0_0 : Nat) (l0_0 : List Int) (a0_1 : Int) (a0_2 : Int) (a0_3 : Int) (A0_4 : Option Addr) (c0_4 : Nat) (l0_4 : List (List (S80))) (A0_5 : Option Addr) (c0_5 : Nat) (l0_5 : List (List Int)) (A0_6 : Option Addr) (c0_6 : Nat) (l0_6 : List (S54)) (r : Bool) (w : World) (hr0_0 : Kd.C (Kd.int .i64) w A0_0 l0_0.length l0_0) (hc0_0 : l0_0.length ≤ c0_0) (hr0_4 : Kd.C (Kd.slice 80 k80) w A0_4 l0_4.length l0_4) (hc0_4 : l0_4.length ≤ c0_4) (hr0_5 : Kd.C (Kd.slice 3 (Kd.int .i64)) w A0_5 l0_5.length l0_5) (hc0_5 : l0_5.length ≤ c0_5) (hr0_6 : Kd.C k54 w A0_6 l0_6.length l0_6) (hc0_6 : l0_6.length ≤ c0_6) (h : aQ.f k l0_0 a0_1 a0_2 a0_3 l0_4 l0_5 l0_6 = some r) :
  Calls Try.prog 25 #[.agg #[.slice A0_0 l0_0.length c0_0, .int .i64 a0_1, .int .i64 a0_2, .int .i64 a0_3, .slice A0_4 l0_4.length c0_4, .slice A0_5 l0_5.length c0_5, .slice A0_6 l0_6.length c0_6]] w fun e w' => e = .returned (.bool r) ∧ Below w.heap.size w w' := by
 have hu31 := Try.underlying31
 have HR0_0 := mk_ hr0_0
 have HC0_0 := mk_ hc0_0
 clear hr0_0 hc0_0
 have HR0_4 := mk_ hr0_4
 have HC0_4 := mk_ hc0_4
 clear hr0_4 hc0_4
 have HR0_5 := mk_ hr0_5
 have HC0_5 := mk_ hc0_5
 clear hr0_5 hc0_5
 have HR0_6 := mk_ hr0_6
 have HC0_6 := mk_ hc0_6
 clear hr0_6 hc0_6
 have HB := mk_ (Below.refl w.heap.size w)
 have H : (if (l0_0.length : Int) > 30 then (aQ.j0 k true l0_0 a0_1 a0_2 a0_3 l0_4 l0_5 l0_6) else (if (l0_4.length : Int) > 20 then (aQ.j0 k true l0_0 a0_1 a0_2 a0_3 l0_4 l0_5 l0_6) else (if (l0_5.length : Int) > 30 then (aQ.j0 k true l0_0 a0_1 a0_2 a0_3 l0_4 l0_5 l0_6) else ((bS.f k l0_6).bind fun t382 => (aQ.j0 k t382 l0_0 a0_1 a0_2 a0_3 l0_4 l0_5 l0_6))))) = some r := h
 clear h
 have HC2 := mk_ H
 clear H
 go_enter Try.func25, Try.ntmps25
 go_upto_region 1 with (first | ((with_reducible refine bP (N := 1) rfl ?_); refine bL ?hg (N := 1) ?hd (cs := #[.slice A0_0 l0_0.length c0_0, .int .i64 a0_1, .int .i64 a0_2, .int .i64 a0_3, .slice A0_4 l0_4.length c0_4, .slice A0_5 l0_5.length c0_5, .slice A0_6 l0_6.length c0_6]) (t := 31) ?hr ?_; (case hd => rfl); (case hg => rfl); (case hr => first | (go_simp; done) | (go_simp; rfl)); intro gb381 hg w3 hbox hb; have n0_ := mk_ (aI (Short.hB HB) hb); have n1_ := mk_ (hbox); have n2_ := mk_ ((by rw [hg]; exact (aN (Short.hB HB)) : w.heap.size ≤ gb381)); have n3_ := mk_ ((by rw [hg]; exact (aN (Short.hB HB)) : w.heap.size ≤ gb381)); clear HB; revert n0_ n1_ n2_ n3_; intro HB BK381 GW381 GE381; clear hb hbox hg))
 (try simp only [Act.put, List.setIfInBounds_toArray, List.set_cons_zero, List.set_cons_succ])
 go_cut [25] (fun v25 wc => ∃ (kq : Nat) (x25_1 : Bool), v25 = .bool x25_1 ∧ Aside0 (aQ.j0 kq x25_1 l0_0 a0_1 a0_2 a0_3 l0_4 l0_5 l0_6 = some r) ∧ Aside0 (kq ≤ k) ∧ Aside0 (wc.heap[gb381]? = some (.cells #[(.slice A0_0 l0_0.length c0_0), .int .i64 a0_1, .int .i64 a0_2, .int .i64 a0_3, (.slice A0_4 l0_4.length c0_4), (.slice A0_5 l0_5.length c0_5), (.slice A0_6 l0_6.length c0_6)] 31 (0, 0))) ∧ Aside0 (Below w.heap.size w wc))
 case first =>
  have H := HC2.out
  clear HC2
  by_cases c4 : (l0_0.length : Int) > 30
  ·
   rw [if_pos c4] at H
   have c4b0 : decide (30 < (l0_0.length : Int)) = true := decide_eq_true c4
   have c4b1 : decide (30 < l0_0.length) = true := decide_eq_true z2_
   clear c4
   (first | rw [c4b0] | (simp only [i64_w, i32_w]; rw [c4b0]) | skip)
   have H' := mk_ H
   clear H
   have hcz5_0 : w3.cell? ⟨gb381, 0, none⟩ = some (.slice A0_0 l0_0.length c0_0) := kc_ BK381 0
   have hcz5_1 : w3.cell? ⟨gb381, 1, none⟩ = some (.int .i64 a0_1) := kc_ BK381 1
   have hcz5_2 : w3.cell? ⟨gb381, 2, none⟩ = some (.int .i64 a0_2) := kc_ BK381 2
   have hcz5_3 : w3.cell? ⟨gb381, 3, none⟩ = some (.int .i64 a0_3) := kc_ BK381 3
   have hcz5_4 : w3.cell? ⟨gb381, 4, none⟩ = some (.slice A0_4 l0_4.length c0_4) := kc_ BK381 4
   have hcz5_5 : w3.cell? ⟨gb381, 5, none⟩ = some (.slice A0_5 l0_5.length c0_5) := kc_ BK381 5
   have hcz5_6 : w3.cell? ⟨gb381, 6, none⟩ = some (.slice A0_6 l0_6.length c0_6) := kc_ BK381 6
   have hfz5_0 := aH BK381.out
   go_wp2
   go_meet
   case rel => exact ⟨_, (true), z3_, H', ⟨by first | omega | exact Nat.le_refl _⟩, ⟨by (with_reducible repeat (first | refine aG ?_ _ | refine aJ ?_ | refine aE ?_ _)); exact BK381.out⟩, ⟨Short.hB HB⟩⟩
  rw [if_neg c4] at H
  have c4b0 : decide (30 < (l0_0.length : Int)) = false := decide_eq_false c4
  have c4b1 : decide (30 < l0_0.length) = false := decide_eq_false z2_
  clear c4
  (first | rw [c4b0] | (simp only [i64_w, i32_w]; rw [c4b0]) | skip)
  by_cases c6 : (l0_4.length : Int) > 20
  ·
   rw [if_pos c6] at H
   have c6b0 : decide (20 < (l0_4.length : Int)) = true := decide_eq_true c6
   have c6b1 : decide (20 < l0_4.length) = true := decide_eq_true z2_
   clear c6
   have H' := mk_ H
   clear H
   have hcz7_0 : w3.cell? ⟨gb381, 0, none⟩ = some (.slice A0_0 l0_0.length c0_0) := kc_ BK381 0
   have hcz7_1 : w3.cell? ⟨gb381, 1, none⟩ = some (.int .i64 a0_1) := kc_ BK381 1
   have hcz7_2 : w3.cell? ⟨gb381, 2, none⟩ = some (.int .i64 a0_2) := kc_ BK381 2
   have hcz7_3 : w3.cell? ⟨gb381, 3, none⟩ = some (.int .i64 a0_3) := kc_ BK381 3
   have hcz7_4 : w3.cell? ⟨gb381, 4, none⟩ = some (.slice A0_4 l0_4.length c0_4) := kc_ BK381 4
   have hcz7_5 : w3.cell? ⟨gb381, 5, none⟩ = some (.slice A0_5 l0_5.length c0_5) := kc_ BK381 5
   have hcz7_6 : w3.cell? ⟨gb381, 6, none⟩ = some (.slice A0_6 l0_6.length c0_6) := kc_ BK381 6
   have hfz7_0 := aH BK381.out
   go_wp2
   go_meet
   case rel => exact ⟨_, (true), z3_, H', ⟨by first | omega | exact Nat.le_refl _⟩, ⟨by (with_reducible repeat (first | refine aG ?_ _ | refine aJ ?_ | refine aE ?_ _)); exact BK381.out⟩, ⟨Short.hB HB⟩⟩
  rw [if_neg c6] at H
  have c6b0 : decide (20 < (l0_4.length : Int)) = false := decide_eq_false c6
  have c6b1 : decide (20 < l0_4.length) = false := decide_eq_false z2_
  clear c6
  by_cases c8 : (l0_5.length : Int) > 30
  ·
   rw [if_pos c8] at H
   have c8b0 : decide (30 < (l0_5.length : Int)) = true := decide_eq_true c8
   have c8b1 : decide (30 < l0_5.length) = true := decide_eq_true z2_
   clear c8
   have H' := mk_ H
   clear H
   have hcz9_0 : w3.cell? ⟨gb381, 0, none⟩ = some (.slice A0_0 l0_0.length c0_0) := kc_ BK381 0
   have hcz9_1 : w3.cell? ⟨gb381, 1, none⟩ = some (.int .i64 a0_1) := kc_ BK381 1
   have hcz9_2 : w3.cell? ⟨gb381, 2, none⟩ = some (.int .i64 a0_2) := kc_ BK381 2
   have hcz9_3 : w3.cell? ⟨gb381, 3, none⟩ = some (.int .i64 a0_3) := kc_ BK381 3
   have hcz9_4 : w3.cell? ⟨gb381, 4, none⟩ = some (.slice A0_4 l0_4.length c0_4) := kc_ BK381 4
   have hcz9_5 : w3.cell? ⟨gb381, 5, none⟩ = some (.slice A0_5 l0_5.length c0_5) := kc_ BK381 5
   have hcz9_6 : w3.cell? ⟨gb381, 6, none⟩ = some (.slice A0_6 l0_6.length c0_6) := kc_ BK381 6
   have hfz9_0 := aH BK381.out
   go_wp2
   go_meet
   case rel => exact ⟨_, (true), z3_, H', ⟨by first | omega | exact Nat.le_refl _⟩, ⟨by (with_reducible repeat (first | refine aG ?_ _ | refine aJ ?_ | refine aE ?_ _)); exact BK381.out⟩, ⟨Short.hB HB⟩⟩
  rw [if_neg c8] at H
  have c8b0 : decide (30 < (l0_5.length : Int)) = false := decide_eq_false c8
  have c8b1 : decide (30 < l0_5.length) = false := decide_eq_false z2_
  clear c8
  obtain ⟨t382, A10, H⟩ := Option.bind_eq_some_iff.mp H
  replace A10 := mk_ A10
  have H' := mk_ H
  clear H
  have hcz11_0 : w3.cell? ⟨gb381, 0, none⟩ = some (.slice A0_0 l0_0.length c0_0) := kc_ BK381 0
  have hcz11_1 : w3.cell? ⟨gb381, 1, none⟩ = some (.int .i64 a0_1) := kc_ BK381 1
  have hcz11_2 : w3.cell? ⟨gb381, 2, none⟩ = some (.int .i64 a0_2) := kc_ BK381 2
  have hcz11_3 : w3.cell? ⟨gb381, 3, none⟩ = some (.int .i64 a0_3) := kc_ BK381 3
  have hcz11_4 : w3.cell? ⟨gb381, 4, none⟩ = some (.slice A0_4 l0_4.length c0_4) := kc_ BK381 4
  have hcz11_5 : w3.cell? ⟨gb381, 5, none⟩ = some (.slice A0_5 l0_5.length c0_5) := kc_ BK381 5
  have hcz11_6 : w3.cell? ⟨gb381, 6, none⟩ = some (.slice A0_6 l0_6.length c0_6) := kc_ BK381 6
  have hfz11_0 := aH BK381.out
  go_wp2_with (first | (go_at_call 14; (with_reducible refine (bS.calls k _ _ l0_6 t382 _ ?side1 ?side2 A10.out).mono ?_); (case side1 => exact cX_ (aV HR0_6.out HB.out)); (case side2 => exact HC0_6.out); rintro e w' ⟨rfl, ⟨nd, rfl⟩⟩))
  go_meet
  case rel => exact ⟨_, (t382), z3_, H', ⟨by first | omega | exact Nat.le_refl _⟩, ⟨by (with_reducible repeat (first | refine aG ?_ _ | refine aJ ?_ | refine aE ?_ _)); exact BK381.out⟩, ⟨Short.hB HB⟩⟩
 case rest =>
  clear HC2
  obtain ⟨kq, x25_1, rfl, HA, HJ1, BK381, HB⟩ := hcut
  cases kq with
  | zero => exact absurd HA.out (by simp [aQ.j0])
  | succ kj1 =>
   have H := HA.out
   clear HA
   simp only [aQ.j0] at H
   by_cases c12 : x25_1 = true
   ·
    subst c12
    rw [if_pos rfl] at H
    obtain rfl := Option.some.inj H
    go_wp2
    go_ret
    exact ⟨by first | rfl | (rw [hrt]; rfl) | (simp [bD, bC] <;> rfl) | (simp [*, bD, bC] <;> rfl), Short.hB HB⟩
   replace c12 := Bool.eq_false_iff.mpr c12
   subst c12
   rw [if_neg (show ¬ (false = true) by decide)] at H
   have H' := mk_ H
   clear H
   go_wp2
   go_loopg [3] kj1 (fun kq v3 w' => ∃ (x3_2 : Int), v3 = .int .i64 x3_2 ∧ Aside0 (aQ.l0 kq x3_2 l0_0 a0_1 a0_2 a0_3 l0_4 l0_5 l0_6 = some r) ∧ Aside0 (kq ≤ kj1) ∧ Aside0 (w'.heap[gb381]? = some (.cells #[(.slice A0_0 l0_0.length c0_0), .int .i64 a0_1, .int .i64 a0_2, .int .i64 a0_3, (.slice A0_4 l0_4.length c0_4), (.slice A0_5 l0_5.length c0_5), (.slice A0_6 l0_6.length c0_6)] 31 (0, 0))) ∧ Aside0 (Below w.heap.size w w'))
   case atStart => exact ⟨(0), z3_, H', ⟨Nat.le_refl _⟩, ⟨by (with_reducible repeat (first | refine aG ?_ _ | refine aJ ?_ | refine aE ?_ _)); exact BK381.out⟩, ⟨Short.hB HB⟩⟩
   case round =>
    clear H'
    try clear c12
    obtain ⟨x3_2, rfl, HA, HK2, BK381, HB⟩ := hrel
    cases gk with
    | zero => exact absurd HA.out (by simp [aQ.l0])
    | succ k2 =>
     have H := HA.out
     clear HA
     simp only [aQ.l0] at H
     by_cases c13 : x3_2 < (l0_5.length : Int)
     ·
      rw [if_pos c13] at H
      have c13b0 : decide (x3_2 < (l0_5.length : Int)) = true := decide_eq_true c13
      clear c13
      by_cases c14 : 0 ≤ x3_2
      rotate_left
      ·
       rw [if_neg c14] at H
       exact absurd H (by simp)
      rw [if_pos c14] at H
      have c14b0 : decide (0 ≤ x3_2) = true := decide_eq_true c14
      clear c14
      by_cases c15 : ((dS l0_5 x3_2).length : Int) > 30
      ·
       rw [if_pos c15] at H
       have c15b0 : decide (30 < ((dS l0_5 x3_2).length : Int)) = true := decide_eq_true c15
       have c15b1 : decide (30 < (dS l0_5 x3_2).length) = true := decide_eq_true z2_
       clear c15
       obtain rfl := Option.some.inj H
       have hcz16_0 : wr.cell? ⟨gb381, 0, none⟩ = some (.slice A0_0 l0_0.length c0_0) := kc_ BK381 0
       have hcz16_1 : wr.cell? ⟨gb381, 1, none⟩ = some (.int .i64 a0_1) := kc_ BK381 1
       have hcz16_2 : wr.cell? ⟨gb381, 2, none⟩ = some (.int .i64 a0_2) := kc_ BK381 2
       have hcz16_3 : wr.cell? ⟨gb381, 3, none⟩ = some (.int .i64 a0_3) := kc_ BK381 3
       have hcz16_4 : wr.cell? ⟨gb381, 4, none⟩ = some (.slice A0_4 l0_4.length c0_4) := kc_ BK381 4
       have hcz16_5 : wr.cell? ⟨gb381, 5, none⟩ = some (.slice A0_5 l0_5.length c0_5) := kc_ BK381 5
       have hcz16_6 : wr.cell? ⟨gb381, 6, none⟩ = some (.slice A0_6 l0_6.length c0_6) := kc_ BK381 6
       have hfz16_0 := aH BK381.out
       have p383 : 0 ≤ (x3_2 : Int) := of_decide_eq_true z0_
       have q383 : x3_2 < (l0_5.length : Int) := of_decide_eq_true z0_
       obtain ⟨ad383, A383_0, c383_0, e383, hx383_0, hl383_0, hi383_0⟩ := iZ HR0_5.out x3_2 p383 q383
       cases e383
       replace hx383_0 := up_ HB hx383_0
       have HR383_0 := mk_ hi383_0
       have HC383_0 := mk_ hl383_0
       clear hi383_0 hl383_0
       replace p383 := eq_true p383
       replace q383 := eq_true q383
       go_wp2
       go_ret
       exact ⟨by first | rfl | (rw [hrt]; rfl) | (simp [bD, bC] <;> rfl) | (simp [*, bD, bC] <;> rfl), Short.hB HB⟩
      rw [if_neg c15] at H
      have c15b0 : decide (30 < ((dS l0_5 x3_2).length : Int)) = false := decide_eq_false c15
      have c15b1 : decide (30 < (dS l0_5 x3_2).length) = false := decide_eq_false z2_
      clear c15
      have H' := mk_ H
      clear H
      have hcz17_0 : wr.cell? ⟨gb381, 0, none⟩ = some (.slice A0_0 l0_0.length c0_0) := kc_ BK381 0
      have hcz17_1 : wr.cell? ⟨gb381, 1, none⟩ = some (.int .i64 a0_1) := kc_ BK381 1
      have hcz17_2 : wr.cell? ⟨gb381, 2, none⟩ = some (.int .i64 a0_2) := kc_ BK381 2
      have hcz17_3 : wr.cell? ⟨gb381, 3, none⟩ = some (.int .i64 a0_3) := kc_ BK381 3
      have hcz17_4 : wr.cell? ⟨gb381, 4, none⟩ = some (.slice A0_4 l0_4.length c0_4) := kc_ BK381 4
      have hcz17_5 : wr.cell? ⟨gb381, 5, none⟩ = some (.slice A0_5 l0_5.length c0_5) := kc_ BK381 5
      have hcz17_6 : wr.cell? ⟨gb381, 6, none⟩ = some (.slice A0_6 l0_6.length c0_6) := kc_ BK381 6
      have hfz17_0 := aH BK381.out
      have p383 : 0 ≤ (x3_2 : Int) := of_decide_eq_true z0_
      have q383 : x3_2 < (l0_5.length : Int) := of_decide_eq_true z0_
      obtain ⟨ad383, A383_0, c383_0, e383, hx383_0, hl383_0, hi383_0⟩ := iZ HR0_5.out x3_2 p383 q383
      cases e383
      replace hx383_0 := up_ HB hx383_0
      have HR383_0 := mk_ hi383_0
      have HC383_0 := mk_ hl383_0
      clear hi383_0 hl383_0
      replace p383 := eq_true p383
      replace q383 := eq_true q383
      go_wp2
      go_roundg k2
      case measure => have := HJ1.out; have := HK2.out; omega
      case rel => exact ⟨(wrap64 (x3_2 + 1)), z3_, H', ⟨by have := HJ1.out; have := HK2.out; omega⟩, ⟨by (with_reducible repeat (first | refine aG ?_ _ | refine aJ ?_ | refine aE ?_ _)); exact BK381.out⟩, ⟨Short.hB HB⟩⟩
     rw [if_neg c13] at H
     have c13b0 : decide (x3_2 < (l0_5.length : Int)) = false := decide_eq_false c13
     clear c13
     have H' := mk_ H
     clear H
     have hcz18_0 : wr.cell? ⟨gb381, 0, none⟩ = some (.slice A0_0 l0_0.length c0_0) := kc_ BK381 0
     have hcz18_1 : wr.cell? ⟨gb381, 1, none⟩ = some (.int .i64 a0_1) := kc_ BK381 1
     have hcz18_2 : wr.cell? ⟨gb381, 2, none⟩ = some (.int .i64 a0_2) := kc_ BK381 2
     have hcz18_3 : wr.cell? ⟨gb381, 3, none⟩ = some (.int .i64 a0_3) := kc_ BK381 3
     have hcz18_4 : wr.cell? ⟨gb381, 4, none⟩ = some (.slice A0_4 l0_4.length c0_4) := kc_ BK381 4
     have hcz18_5 : wr.cell? ⟨gb381, 5, none⟩ = some (.slice A0_5 l0_5.length c0_5) := kc_ BK381 5
     have hcz18_6 : wr.cell? ⟨gb381, 6, none⟩ = some (.slice A0_6 l0_6.length c0_6) := kc_ BK381 6
     have hfz18_0 := aH BK381.out
     go_wp2
     go_loopg [4] k2 (fun kq v4 w' => ∃ (x4_3 : Int), v4 = .int .i64 x4_3 ∧ Aside0 (aQ.l1 kq x4_3 l0_0 a0_1 a0_2 a0_3 l0_4 l0_5 l0_6 = some r) ∧ Aside0 (kq ≤ k2) ∧ Aside0 (w'.heap[gb381]? = some (.cells #[(.slice A0_0 l0_0.length c0_0), .int .i64 a0_1, .int .i64 a0_2, .int .i64 a0_3, (.slice A0_4 l0_4.length c0_4), (.slice A0_5 l0_5.length c0_5), (.slice A0_6 l0_6.length c0_6)] 31 (0, 0))) ∧ Aside0 (Below w.heap.size w w'))
     case atStart => exact ⟨(0), z3_, H', ⟨Nat.le_refl _⟩, ⟨by (with_reducible repeat (first | refine aG ?_ _ | refine aJ ?_ | refine aE ?_ _)); exact BK381.out⟩, ⟨Short.hB HB⟩⟩
     case round =>
      clear H'
      try clear c13
      try clear c13b0
      try clear hcz18_0
      try clear hcz18_1
      try clear hcz18_2
      try clear hcz18_3
      try clear hcz18_4
      try clear hcz18_5
      try clear hcz18_6
      try clear hfz18_0
      obtain ⟨x4_3, rfl, HA, HK3, BK381, HB⟩ := hrel
      cases gk with
      | zero => exact absurd HA.out (by simp [aQ.l1])
      | succ k3 =>
       have H := HA.out
       clear HA
       simp only [aQ.l1] at H
       by_cases c19 : x4_3 < (l0_4.length : Int)
       rotate_left
       ·
        rw [if_neg c19] at H
        have c19b0 : decide (x4_3 < (l0_4.length : Int)) = false := decide_eq_false c19
        clear c19
        obtain rfl := Option.some.inj H
        have hcz_0 := aC BK381.out
        have hfz_0 := aH BK381.out
        go_wp2
        go_ret
        exact ⟨by first | rfl | (rw [hrt]; rfl) | (simp [bD, bC] <;> rfl) | (simp [*, bD, bC] <;> rfl), Short.hB HB⟩
       rw [if_pos c19] at H
       have c19b0 : decide (x4_3 < (l0_4.length : Int)) = true := decide_eq_true c19
       clear c19
       by_cases c20 : 0 ≤ x4_3
       rotate_left
       ·
        rw [if_neg c20] at H
        exact absurd H (by simp)
       rw [if_pos c20] at H
       have c20b0 : decide (0 ≤ x4_3) = true := decide_eq_true c20
       clear c20
       obtain ⟨t385, A21, H⟩ := Option.bind_eq_some_iff.mp H
       replace A21 := mk_ A21
       by_cases c22 : t385 = true
       ·
        subst c22
        rw [if_pos rfl] at H
        obtain rfl := Option.some.inj H
        have hcz_0 := aC BK381.out
        have hfz_0 := aH BK381.out
        have p384 : 0 ≤ (x4_3 : Int) := of_decide_eq_true z0_
        have q384 : x4_3 < (l0_4.length : Int) := of_decide_eq_true z0_
        obtain ⟨ad384, A384_0, c384_0, e384, hx384_0, hl384_0, hi384_0⟩ := gP HR0_4.out x4_3 p384 q384
        cases e384
        replace hx384_0 := up_ HB hx384_0
        have HR384_0 := mk_ hi384_0
        have HC384_0 := mk_ hl384_0
        clear hi384_0 hl384_0
        replace p384 := eq_true p384
        replace q384 := eq_true q384
        go_wp2_with (first | ((with_reducible refine aT (f := 67) rfl ?_); refine Short.gL (some 52) Try.func67 #[.slice A384_0 (aX l0_4 x4_3).length c384_0] (h := ?_); (with_reducible refine (bA.calls k3 _ _ (aX l0_4 x4_3) true _ ?side1 ?side2 A21.out).mono ?_); (case side1 => exact cX_ (aV HR384_0.out HB.out)); (case side2 => exact HC384_0.out); rintro e w24 ⟨rfl, hb⟩; refine ⟨_, rfl, ?_⟩; have n0_ := mk_ (bB_ BK381 hb); have n1_ := mk_ (aI (Short.hB HB) hb); clear BK381 HB; revert n0_ n1_; intro BK381 HB; (try clear hb)))
        go_ret
        exact ⟨by first | rfl | (rw [hrt]; rfl) | (simp [bD, bC] <;> rfl) | (simp [*, bD, bC] <;> rfl), Short.hB HB⟩
       replace c22 := Bool.eq_false_iff.mpr c22
       subst c22
       rw [if_neg (show ¬ (false = true) by decide)] at H
       have H' := mk_ H
       clear H
       have hcz_0 := aC BK381.out
       have hfz_0 := aH BK381.out
       have p384 : 0 ≤ (x4_3 : Int) := of_decide_eq_true z0_
       have q384 : x4_3 < (l0_4.length : Int) := of_decide_eq_true z0_
       obtain ⟨ad384, A384_0, c384_0, e384, hx384_0, hl384_0, hi384_0⟩ := gP HR0_4.out x4_3 p384 q384
       cases e384
       replace hx384_0 := up_ HB hx384_0
       have HR384_0 := mk_ hi384_0
       have HC384_0 := mk_ hl384_0
       clear hi384_0 hl384_0
       replace p384 := eq_true p384
       replace q384 := eq_true q384
       go_wp2_with (first | ((with_reducible refine aT (f := 67) rfl ?_); refine Short.gL (some 52) Try.func67 #[.slice A384_0 (aX l0_4 x4_3).length c384_0] (h := ?_); (with_reducible refine (bA.calls k3 _ _ (aX l0_4 x4_3) false _ ?side1 ?side2 A21.out).mono ?_); (case side1 => exact cX_ (aV HR384_0.out HB.out)); (case side2 => exact HC384_0.out); rintro e w26 ⟨rfl, hb⟩; refine ⟨_, rfl, ?_⟩; have n0_ := mk_ (bB_ BK381 hb); have n1_ := mk_ (aI (Short.hB HB) hb); clear BK381 HB; revert n0_ n1_; intro BK381 HB; (try clear hb)))
       go_roundg k3
       case measure => have := HJ1.out; have := HK2.out; have := HK3.out; omega
       case rel => exact ⟨(wrap64 (x4_3 + 1)), z3_, H', ⟨by have := HJ1.out; have := HK2.out; have := HK3.out; omega⟩, ⟨by (with_reducible repeat (first | refine aG ?_ _ | refine aJ ?_ | refine aE ?_ _)); exact BK381.out⟩, ⟨Short.hB HB⟩⟩
def bM.f (a0 : Int) (a1 : Int) : Option (Bool) := if a0 ≥ 0 then (if 0 ≤ (IntKind.u64.wrap (wrap64 (8 * a1))) then (some ((shr .i64 a0 (IntKind.u64.wrap (wrap64 (8 * a1)))) == 0)) else (none)) else (some false)
theorem bM.calls (a0 : Int) (a1 : Int) (r : Bool) (w : World) (h : bM.f a0 a1 = some r) :
  Calls Try.prog 53 #[.int .i64 a0, .int .i64 a1] w fun e w' => e = .returned (.bool r) ∧ Drawn0 w w' := by
 have H : (if a0 ≥ 0 then (if 0 ≤ (IntKind.u64.wrap (wrap64 (8 * a1))) then (some ((shr .i64 a0 (IntKind.u64.wrap (wrap64 (8 * a1)))) == 0)) else (none)) else (some false)) = some r := h
 clear h
 by_cases c3 : a0 ≥ 0
 rotate_left
 rw [if_neg c3] at H
 have c3b0 : decide (0 ≤ a0) = false := decide_eq_false c3
 clear c3
 obtain rfl := Option.some.inj H
 rotate_right
 rw [if_pos c3] at H
 have c3b0 : decide (0 ≤ a0) = true := decide_eq_true c3
 clear c3
 obtain ⟨ji4, hji4⟩ : ∃ j_ : Int, (IntKind.u64.wrap (wrap64 (8 * a1))) = j_ := ⟨_, rfl⟩
 replace H : (if 0 ≤ (ji4) then (some ((shr .i64 a0 (ji4)) == 0)) else (none)) = some r := by first | (rw [hji4] at H; exact H) | (simp only [hji4] at H ⊢; exact H)
 by_cases c5 : 0 ≤ (ji4)
 rotate_left
 rw [if_neg c5] at H
 exact absurd H (by simp)
 rotate_right
 rw [if_pos c5] at H
 have c5b0 := eq_true c5
 have c5b1 : decide (0 ≤ (ji4)) = true := decide_eq_true c5
 clear c5
 obtain ⟨ji6, hji6⟩ : ∃ j_ : Int, (shr .i64 a0 (ji4)) = j_ := ⟨_, rfl⟩
 replace H : (some ((ji6) == 0)) = some r := by first | (rw [hji6] at H; exact H) | (simp only [hji6] at H ⊢; exact H)
 have hji6_ : (a0 / 2 ^ min (ji4).toNat 64) = ji6 := hji6
 have hji6z : (ji4) ≤ 64 → (a0 / 2 ^ (ji4).toNat) = ji6 := shr_small hji6
 obtain rfl := Option.some.inj H
 all_goals
  go_enter Try.func53, Try.ntmps53
  go_wp2
  go_ret
  first | exact ⟨z3_, by repeat (first | exact Drawn0.refl _ | apply Drawn0.step)⟩ | exact ⟨by first | rfl | (simp; done) | (simp only [← hji4, ← hji6] <;> (first | rfl | simp)) | (simp [*]; done), by repeat (first | exact Drawn0.refl _ | apply Drawn0.step)⟩
def cI.f (a0_0 : Int) (a0_1 : Int) : Option (Bool) := (bM.f a0_0 1).bind fun t387 => (if t387 = true then ((bM.f a0_1 4).bind fun t388 => (some t388)) else (some false))
theorem cI.calls (a0_0 : Int) (a0_1 : Int) (r : Bool) (w : World) (h : cI.f a0_0 a0_1 = some r) :
  Calls Try.prog 54 #[.agg #[.int .i64 a0_0, .int .i64 a0_1]] w fun e w' => e = .returned (.bool r) ∧ Below w.heap.size w w' := by
 have hu50 := Try.underlying50
 have HB := mk_ (Below.refl w.heap.size w)
 have H : ((bM.f a0_0 1).bind fun t387 => (if t387 = true then ((bM.f a0_1 4).bind fun t388 => (some t388)) else (some false))) = some r := h
 clear h
 obtain ⟨t387, A2, H⟩ := Option.bind_eq_some_iff.mp H
 replace A2 := mk_ A2
 by_cases c3 : t387 = true
 rotate_left
 replace c3 := Bool.eq_false_iff.mpr c3
 subst c3
 rw [if_neg (show ¬ (false = true) by decide)] at H
 obtain rfl := Option.some.inj H
 rotate_right
 subst c3
 rw [if_pos rfl] at H
 obtain ⟨t388, A4, H⟩ := Option.bind_eq_some_iff.mp H
 replace A4 := mk_ A4
 obtain rfl := Option.some.inj H
 all_goals
  go_enter Try.func54, Try.ntmps54
  go_wp2_with (first | ((with_reducible refine bP (N := 1) rfl ?_); refine bL ?hg (N := 1) ?hd (cs := #[.int .i64 a0_0, .int .i64 a0_1]) (t := 50) ?hr ?_; (case hd => rfl); (case hg => rfl); (case hr => first | (go_simp; done) | (go_simp; rfl)); intro gb386 hg w_1 hbox hb; have n0_ := mk_ (aI (Short.hB HB) hb); have n1_ := mk_ (hbox); have n2_ := mk_ ((by rw [hg]; exact (aN (Short.hB HB)) : w.heap.size ≤ gb386)); have n3_ := mk_ ((by rw [hg]; exact (aN (Short.hB HB)) : w.heap.size ≤ gb386)); clear HB; revert n0_ n1_ n2_ n3_; intro HB BK386 GW386 GE386; clear hb hbox hg; obtain ⟨hcz_0, hcz_1, hfz_0, hfz_1⟩ := Short.c2 BK386.out) | ((with_reducible refine aT (f := 53) rfl ?_); refine Short.gL (some 5) Try.func53 #[.int .i64 a0_0, .int .i64 1] (h := ?_); (with_reducible refine (bM.calls a0_0 1 _ _ A2.out).mono ?_); rintro e w' ⟨rfl, ⟨nd, rfl⟩⟩; refine ⟨_, rfl, ?_⟩) | (go_at_call 53; (with_reducible refine (bM.calls a0_1 4 t388 _ A4.out).mono ?_); rintro e w' ⟨rfl, ⟨nd, rfl⟩⟩))
  go_ret
  exact ⟨by first | rfl | (rw [hrt]; rfl) | (simp [bD, bC] <;> rfl) | (simp [*, bD, bC] <;> rfl), Short.hB HB⟩
end Go.Proofs.Ytcbfliajgopdaaa.PAll
end
section
namespace Go.Proofs.Ytcbfliajgopdaaa.PAll
open Go.RowKit PrintWords PrintLast PrintMore ZipT PrintWords.Kd PrintMore.Kd
attribute [local go_sem] eC eA eN eR dR dP eD eB   -- for this text's walks alone
set_option linter.unusedVariables false
set_option linter.unusedSimpArgs false
def bN.l0 : Nat → List Int → Int → Option (Bool)
 | 0, _, _ => none
 | k + 1, x0, x3 => if x3 < (x0.length : Int) then (if 0 ≤ x3 then ((bM.f (rd x0 x3) 4).bind fun t390 => (if t390 = true then (bN.l0 k x0 (wrap64 (x3 + 1))) else (some false))) else (none)) else (some (decide ((x0.length : Int) ≤ 5)))
def bN.f (k : Nat) (l0 : List Int) : Option (Bool) := bN.l0 k l0 0
theorem bN.calls (k : Nat) (A0 : Option Addr) (c0 : Nat) (l0 : List Int) (r : Bool) (w : World) (hr0 : Kd.C (Kd.int .i64) w A0 l0.length l0) (hc0 : l0.length ≤ c0) (h : bN.f k l0 = some r) :
  Calls Try.prog 55 #[.slice A0 l0.length c0] w fun e w' => e = .returned (.bool r) ∧ Drawn0 w w' := by
 have HR0 := mk_ hr0
 have HC0 := mk_ hc0
 clear hr0 hc0
 have H : (bN.l0 k l0 0) = some r := h
 clear h
 have H' := mk_ H
 clear H
 go_enter Try.func55, Try.ntmps55
 go_wp2
 go_loopg [3] k (fun kq v3 w' => ∃ (x3_1 : Int), v3 = .int .i64 x3_1 ∧ Aside0 (bN.l0 kq l0 x3_1 = some r) ∧ Aside0 (kq ≤ k) ∧ Drawn0 w w')
 case atStart => exact ⟨(0), z3_, H', ⟨Nat.le_refl _⟩, by repeat (first | exact Drawn0.refl _ | apply Drawn0.step)⟩
 case round =>
  clear H'
  obtain ⟨x3_1, rfl, HA, HK1, ⟨m1, rfl⟩⟩ := hrel
  cases gk with
  | zero => exact absurd HA.out (by simp [bN.l0])
  | succ k1 =>
   have H := HA.out
   clear HA
   simp only [bN.l0] at H
   by_cases c2 : x3_1 < (l0.length : Int)
   rotate_left
   ·
    rw [if_neg c2] at H
    have c2b0 : decide (x3_1 < (l0.length : Int)) = false := decide_eq_false c2
    clear c2
    obtain rfl := Option.some.inj H
    go_wp2
    go_ret
    exact ⟨z3_, by repeat (first | exact Drawn0.refl _ | apply Drawn0.step)⟩
   rw [if_pos c2] at H
   have c2b0 : decide (x3_1 < (l0.length : Int)) = true := decide_eq_true c2
   clear c2
   by_cases c3 : 0 ≤ x3_1
   rotate_left
   ·
    rw [if_neg c3] at H
    exact absurd H (by simp)
   rw [if_pos c3] at H
   have c3b0 : decide (0 ≤ x3_1) = true := decide_eq_true c3
   clear c3
   obtain ⟨t390, A4, H⟩ := Option.bind_eq_some_iff.mp H
   replace A4 := mk_ A4
   by_cases c5 : t390 = true
   rotate_left
   ·
    replace c5 := Bool.eq_false_iff.mpr c5
    subst c5
    rw [if_neg (show ¬ (false = true) by decide)] at H
    obtain rfl := Option.some.inj H
    have p389 : 0 ≤ (x3_1 : Int) := of_decide_eq_true z0_
    have q389 : x3_1 < (l0.length : Int) := of_decide_eq_true z0_
    obtain ⟨ad389, e389, hx389_0⟩ := Kd.at_int HR0.out x3_1 p389 q389
    cases e389
    replace p389 := eq_true p389
    replace q389 := eq_true q389
    go_wp2_with (first | ((with_reducible refine aT (f := 53) rfl ?_); refine Short.gL (some 14) Try.func53 #[.int .i64 (rd l0 x3_1), .int .i64 4] (h := ?_); (with_reducible refine (bM.calls (rd l0 x3_1) 4 false _ A4.out).mono ?_); rintro e w' ⟨rfl, ⟨nd, rfl⟩⟩; refine ⟨_, rfl, ?_⟩))
    go_ret
    exact ⟨z3_, by repeat (first | exact Drawn0.refl _ | apply Drawn0.step)⟩
   subst c5
   rw [if_pos rfl] at H
   have H' := mk_ H
   clear H
   have p389 : 0 ≤ (x3_1 : Int) := of_decide_eq_true z0_
   have q389 : x3_1 < (l0.length : Int) := of_decide_eq_true z0_
   obtain ⟨ad389, e389, hx389_0⟩ := Kd.at_int HR0.out x3_1 p389 q389
   cases e389
   replace p389 := eq_true p389
   replace q389 := eq_true q389
   go_wp2_with (first | ((with_reducible refine aT (f := 53) rfl ?_); refine Short.gL (some 14) Try.func53 #[.int .i64 (rd l0 x3_1), .int .i64 4] (h := ?_); (with_reducible refine (bM.calls (rd l0 x3_1) 4 true _ A4.out).mono ?_); rintro e w' ⟨rfl, ⟨nd, rfl⟩⟩; refine ⟨_, rfl, ?_⟩))
   go_roundg k1
   case measure => have := HK1.out; omega
   case rel => exact ⟨(wrap64 (x3_1 + 1)), z3_, H', ⟨by have := HK1.out; omega⟩, by repeat (first | exact Drawn0.refl _ | apply Drawn0.step)⟩
def cP.f (a0_0 : Int) (a0_1 : Int) (a0_2 : Int) : Option (Bool) := (bM.f a0_0 6).bind fun t392 => (if t392 = true then ((bM.f a0_1 3).bind fun t393 => (if t393 = true then ((bM.f a0_2 1).bind fun t394 => (some t394)) else (some false))) else (some false))
theorem cP.calls (a0_0 : Int) (a0_1 : Int) (a0_2 : Int) (r : Bool) (w : World) (h : cP.f a0_0 a0_1 a0_2 = some r) :
  Calls Try.prog 56 #[.agg #[.int .i64 a0_0, .int .i64 a0_1, .int .i64 a0_2]] w fun e w' => e = .returned (.bool r) ∧ Below w.heap.size w w' := by
 have hu26 := Try.underlying26
 have HB := mk_ (Below.refl w.heap.size w)
 have H : ((bM.f a0_0 6).bind fun t392 => (if t392 = true then ((bM.f a0_1 3).bind fun t393 => (if t393 = true then ((bM.f a0_2 1).bind fun t394 => (some t394)) else (some false))) else (some false))) = some r := h
 clear h
 obtain ⟨t392, A2, H⟩ := Option.bind_eq_some_iff.mp H
 replace A2 := mk_ A2
 by_cases c3 : t392 = true
 rotate_left
 replace c3 := Bool.eq_false_iff.mpr c3
 subst c3
 rw [if_neg (show ¬ (false = true) by decide)] at H
 obtain rfl := Option.some.inj H
 rotate_right
 subst c3
 rw [if_pos rfl] at H
 obtain ⟨t393, A4, H⟩ := Option.bind_eq_some_iff.mp H
 replace A4 := mk_ A4
 by_cases c5 : t393 = true
 rotate_left
 replace c5 := Bool.eq_false_iff.mpr c5
 subst c5
 rw [if_neg (show ¬ (false = true) by decide)] at H
 obtain rfl := Option.some.inj H
 rotate_right
 subst c5
 rw [if_pos rfl] at H
 obtain ⟨t394, A6, H⟩ := Option.bind_eq_some_iff.mp H
 replace A6 := mk_ A6
 obtain rfl := Option.some.inj H
 all_goals
  go_enter Try.func56, Try.ntmps56
  go_wp2_with (first | ((with_reducible refine bP (N := 1) rfl ?_); refine bL ?hg (N := 1) ?hd (cs := #[.int .i64 a0_0, .int .i64 a0_1, .int .i64 a0_2]) (t := 26) ?hr ?_; (case hd => rfl); (case hg => rfl); (case hr => first | (go_simp; done) | (go_simp; rfl)); intro gb391 hg w_1 hbox hb; have n0_ := mk_ (aI (Short.hB HB) hb); have n1_ := mk_ (hbox); have n2_ := mk_ ((by rw [hg]; exact (aN (Short.hB HB)) : w.heap.size ≤ gb391)); have n3_ := mk_ ((by rw [hg]; exact (aN (Short.hB HB)) : w.heap.size ≤ gb391)); clear HB; revert n0_ n1_ n2_ n3_; intro HB BK391 GW391 GE391; clear hb hbox hg; obtain ⟨hcz_0, hcz_1, hcz_2, hfz_0, hfz_1, hfz_2⟩ := Short.c3 BK391.out) | ((with_reducible refine aT (f := 53) rfl ?_); refine Short.gL (some 5) Try.func53 #[.int .i64 a0_0, .int .i64 6] (h := ?_); (with_reducible refine (bM.calls a0_0 6 _ _ A2.out).mono ?_); rintro e w' ⟨rfl, ⟨nd, rfl⟩⟩; refine ⟨_, rfl, ?_⟩) | (go_at_call 53; (with_reducible refine (bM.calls a0_1 3 _ _ A4.out).mono ?_); rintro e w' ⟨rfl, ⟨nd, rfl⟩⟩) | (go_at_call 53; (with_reducible refine (bM.calls a0_2 1 t394 _ A6.out).mono ?_); rintro e w' ⟨rfl, ⟨nd, rfl⟩⟩))
  go_ret
  exact ⟨q0, Short.hB HB⟩
def dO.f (a0 : Int) (a1 : Int) (a2 : Int) : Option (Bool) := if a0 ≥ a1 then (some (decide (a0 ≤ a2))) else (some false)
theorem dO.calls (a0 : Int) (a1 : Int) (a2 : Int) (r : Bool) (w : World) (h : dO.f a0 a1 a2 = some r) :
  Calls Try.prog 98 #[.int .i64 a0, .int .i64 a1, .int .i64 a2] w fun e w' => e = .returned (.bool r) ∧ Drawn0 w w' := by
 have H : (if a0 ≥ a1 then (some (decide (a0 ≤ a2))) else (some false)) = some r := h
 clear h
 by_cases c4 : a0 ≥ a1
 rotate_left
 rw [if_neg c4] at H
 have c4b0 : decide (a1 ≤ a0) = false := decide_eq_false c4
 clear c4
 obtain rfl := Option.some.inj H
 rotate_right
 rw [if_pos c4] at H
 have c4b0 : decide (a1 ≤ a0) = true := decide_eq_true c4
 clear c4
 obtain rfl := Option.some.inj H
 all_goals
  go_enter Try.func98, Try.ntmps98
  go_wp2
  go_ret
  exact ⟨z3_, by repeat (first | exact Drawn0.refl _ | apply Drawn0.step)⟩
def cS.f (a0_0 : Int) (a0_1 : Int) (a0_2 : ByteArray) : Option (Bool) := if a0_0 = 1 then (if a0_1 = 0 then (some (a0_2.toList == ([] : List UInt8))) else (some false)) else (if a0_0 = 2 then ((dO.f a0_1 0 1).bind fun t396 => (if t396 = true then (some (a0_2.toList == ([] : List UInt8))) else (some false))) else (if a0_0 = 3 then ((dO.f a0_1 (-1152921504606846976) 1152921504606846976).bind fun t397 => (if t397 = true then (some (a0_2.toList == ([] : List UInt8))) else (some false))) else (if a0_0 = 4 then (if a0_1 = 0 then (some (decide ((a0_2.size : Int) ≤ 24))) else (some false)) else (some false))))
theorem cS.calls (a0_0 : Int) (a0_1 : Int) (a0_2 : ByteArray) (r : Bool) (w : World) (h : cS.f a0_0 a0_1 a0_2 = some r) :
  Calls Try.prog 92 #[.agg #[.int .i64 a0_0, .int .i64 a0_1, .string a0_2]] w fun e w' => e = .returned (.bool r) ∧ Below w.heap.size w w' := by
 have hu89 := Try.underlying89
 have HB := mk_ (Below.refl w.heap.size w)
 have H : (if a0_0 = 1 then (if a0_1 = 0 then (some (a0_2.toList == ([] : List UInt8))) else (some false)) else (if a0_0 = 2 then ((dO.f a0_1 0 1).bind fun t396 => (if t396 = true then (some (a0_2.toList == ([] : List UInt8))) else (some false))) else (if a0_0 = 3 then ((dO.f a0_1 (-1152921504606846976) 1152921504606846976).bind fun t397 => (if t397 = true then (some (a0_2.toList == ([] : List UInt8))) else (some false))) else (if a0_0 = 4 then (if a0_1 = 0 then (some (decide ((a0_2.size : Int) ≤ 24))) else (some false)) else (some false))))) = some r := h
 clear h
 by_cases c2 : a0_0 = 1
 rotate_left
 rw [if_neg c2] at H
 have c2b0 : (a0_0 == 1) = false := beq_eq_false_iff_ne.mpr c2
 have c2b1 : (a0_0 != 1) = true := bne_iff_ne.mpr c2
 by_cases c8 : a0_0 = 2
 rotate_left
 rw [if_neg c8] at H
 have c8b0 : (a0_0 == 2) = false := beq_eq_false_iff_ne.mpr c8
 have c8b1 : (a0_0 != 2) = true := bne_iff_ne.mpr c8
 by_cases c15 : a0_0 = 3
 rotate_left
 rw [if_neg c15] at H
 have c15b0 : (a0_0 == 3) = false := beq_eq_false_iff_ne.mpr c15
 have c15b1 : (a0_0 != 3) = true := bne_iff_ne.mpr c15
 by_cases c22 : a0_0 = 4
 rotate_left
 rw [if_neg c22] at H
 have c22b0 : (a0_0 == 4) = false := beq_eq_false_iff_ne.mpr c22
 have c22b1 : (a0_0 != 4) = true := bne_iff_ne.mpr c22
 obtain rfl := Option.some.inj H
 rotate_right
 rw [if_pos c22] at H
 have c22b0 : (a0_0 == 4) = true := beq_iff_eq.mpr c22
 have c22b1 : (a0_0 != 4) = false := bne_eq_false_iff_eq.mpr c22
 clear c22
 by_cases c23 : a0_1 = 0
 rotate_left
 rw [if_neg c23] at H
 have c23b0 : (a0_1 == 0) = false := beq_eq_false_iff_ne.mpr c23
 have c23b1 : (a0_1 != 0) = true := bne_iff_ne.mpr c23
 obtain rfl := Option.some.inj H
 rotate_right
 rw [if_pos c23] at H
 have c23b0 : (a0_1 == 0) = true := beq_iff_eq.mpr c23
 have c23b1 : (a0_1 != 0) = false := bne_eq_false_iff_eq.mpr c23
 clear c23
 obtain rfl := Option.some.inj H
 rotate_right
 rw [if_pos c15] at H
 have c15b0 : (a0_0 == 3) = true := beq_iff_eq.mpr c15
 have c15b1 : (a0_0 != 3) = false := bne_eq_false_iff_eq.mpr c15
 clear c15
 obtain ⟨t397, A16, H⟩ := Option.bind_eq_some_iff.mp H
 replace A16 := mk_ A16
 by_cases c17 : t397 = true
 rotate_left
 replace c17 := Bool.eq_false_iff.mpr c17
 subst c17
 rw [if_neg (show ¬ (false = true) by decide)] at H
 obtain rfl := Option.some.inj H
 rotate_right
 subst c17
 rw [if_pos rfl] at H
 obtain rfl := Option.some.inj H
 rotate_right
 rw [if_pos c8] at H
 have c8b0 : (a0_0 == 2) = true := beq_iff_eq.mpr c8
 have c8b1 : (a0_0 != 2) = false := bne_eq_false_iff_eq.mpr c8
 clear c8
 obtain ⟨t396, A9, H⟩ := Option.bind_eq_some_iff.mp H
 replace A9 := mk_ A9
 by_cases c10 : t396 = true
 rotate_left
 replace c10 := Bool.eq_false_iff.mpr c10
 subst c10
 rw [if_neg (show ¬ (false = true) by decide)] at H
 obtain rfl := Option.some.inj H
 rotate_right
 subst c10
 rw [if_pos rfl] at H
 obtain rfl := Option.some.inj H
 rotate_right
 rw [if_pos c2] at H
 have c2b0 : (a0_0 == 1) = true := beq_iff_eq.mpr c2
 have c2b1 : (a0_0 != 1) = false := bne_eq_false_iff_eq.mpr c2
 clear c2
 by_cases c3 : a0_1 = 0
 rotate_left
 rw [if_neg c3] at H
 have c3b0 : (a0_1 == 0) = false := beq_eq_false_iff_ne.mpr c3
 have c3b1 : (a0_1 != 0) = true := bne_iff_ne.mpr c3
 obtain rfl := Option.some.inj H
 rotate_right
 rw [if_pos c3] at H
 have c3b0 : (a0_1 == 0) = true := beq_iff_eq.mpr c3
 have c3b1 : (a0_1 != 0) = false := bne_eq_false_iff_eq.mpr c3
 clear c3
 obtain rfl := Option.some.inj H
 all_goals
  go_enter Try.func92, Try.ntmps92
  go_wp2_with (first | ((with_reducible refine bP (N := 1) rfl ?_); (try (refine fP (by rfl) ?_; dsimp only)); refine bL ?hg (N := 1) ?hd (cs := #[.int .i64 a0_0, .int .i64 a0_1, .string a0_2]) (t := 89) ?hr ?_; (case hd => rfl); (case hg => rfl); (case hr => first | (go_simp; done) | (go_simp; rfl)); intro gb395 hg w_1 hbox hb; have n0_ := mk_ (aI (Short.hB HB) hb); have n1_ := mk_ (hbox); have n2_ := mk_ ((by rw [hg]; exact (aN (Short.hB HB)) : w.heap.size ≤ gb395)); have n3_ := mk_ ((by rw [hg]; exact (aN (Short.hB HB)) : w.heap.size ≤ gb395)); clear HB; revert n0_ n1_ n2_ n3_; intro HB BK395 GW395 GE395; clear hb hbox hg; obtain ⟨hcz_0, hcz_1, hcz_2, hfz_0, hfz_1, hfz_2⟩ := Short.c3 BK395.out) | ((with_reducible refine aT (f := 98) rfl ?_); refine Short.gL (some 29) Try.func98 #[.int .i64 a0_1, .int .i64 (-1152921504606846976), .int .i64 1152921504606846976] (h := ?_); (with_reducible refine (dO.calls a0_1 (-1152921504606846976) 1152921504606846976 _ _ A16.out).mono ?_); rintro e w' ⟨rfl, ⟨nd, rfl⟩⟩; refine ⟨_, rfl, ?_⟩) | ((with_reducible refine aT (f := 98) rfl ?_); refine Short.gL (some 19) Try.func98 #[.int .i64 a0_1, .int .i64 0, .int .i64 1] (h := ?_); (with_reducible refine (dO.calls a0_1 0 1 _ _ A9.out).mono ?_); rintro e w' ⟨rfl, ⟨nd, rfl⟩⟩; refine ⟨_, rfl, ?_⟩))
  go_ret
  exact ⟨q0, Short.hB HB⟩
def cM.l0 : Nat → List (S89) → Int → Option (Int)
 | 0, _, _ => none
 | k + 1, x0, x3 => if x3 < (x0.length : Int) then (if 0 ≤ x3 then ((cS.f ((bF x0 x3).f0) ((bF x0 x3).f1) ((bF x0 x3).f2)).bind fun t399 => (if t399 = true then (cM.l0 k x0 (wrap64 (x3 + 1))) else (some 1))) else (none)) else (some 0)
def cM.f (k : Nat) (l0 : List (S89)) : Option (Int) := if (l0.length : Int) > 12 then (some 2) else (cM.l0 k l0 0)
theorem cM.calls (k : Nat) (A0 : Option Addr) (c0 : Nat) (l0 : List (S89)) (r : Int) (w : World) (hr0 : Kd.C k89 w A0 l0.length l0) (hc0 : l0.length ≤ c0) (h : cM.f k l0 = some r) :
  Calls Try.prog 57 #[.slice A0 l0.length c0] w fun e w' => e = .returned (.int .i64 r) ∧ Below w.heap.size w w' := by
 have hu89 := Try.underlying89
 have HR0 := mk_ hr0
 have HC0 := mk_ hc0
 clear hr0 hc0
 have HB := mk_ (Below.refl w.heap.size w)
 have H : (if (l0.length : Int) > 12 then (some 2) else (cM.l0 k l0 0)) = some r := h
 clear h
 by_cases c2 : (l0.length : Int) > 12
 ·
  rw [if_pos c2] at H
  have c2b0 : decide (12 < (l0.length : Int)) = true := decide_eq_true c2
  have c2b1 : decide (12 < l0.length) = true := decide_eq_true z2_
  clear c2
  obtain rfl := Option.some.inj H
  go_enter Try.func57, Try.ntmps57
  go_wp2
  go_ret
  exact ⟨q0, Short.hB HB⟩
 rw [if_neg c2] at H
 have c2b0 : decide (12 < (l0.length : Int)) = false := decide_eq_false c2
 have c2b1 : decide (12 < l0.length) = false := decide_eq_false z2_
 clear c2
 have H' := mk_ H
 clear H
 go_enter Try.func57, Try.ntmps57
 go_wp2
 go_loopg [3] k (fun kq v3 w' => ∃ (x3_1 : Int), v3 = .int .i64 x3_1 ∧ Aside0 (cM.l0 kq l0 x3_1 = some r) ∧ Aside0 (kq ≤ k) ∧ Aside0 (Below w.heap.size w w'))
 case atStart => exact ⟨(0), z3_, H', ⟨Nat.le_refl _⟩, ⟨Short.hB HB⟩⟩
 case round =>
  clear H'
  try clear c2
  try clear c2b0
  try clear c2b1
  obtain ⟨x3_1, rfl, HA, HK1, HB⟩ := hrel
  cases gk with
  | zero => exact absurd HA.out (by simp [cM.l0])
  | succ k1 =>
   have H := HA.out
   clear HA
   simp only [cM.l0] at H
   by_cases c3 : x3_1 < (l0.length : Int)
   rotate_left
   ·
    rw [if_neg c3] at H
    have c3b0 : decide (x3_1 < (l0.length : Int)) = false := decide_eq_false c3
    clear c3
    obtain rfl := Option.some.inj H
    go_wp2
    go_ret
    exact ⟨q0, Short.hB HB⟩
   rw [if_pos c3] at H
   have c3b0 : decide (x3_1 < (l0.length : Int)) = true := decide_eq_true c3
   clear c3
   by_cases c4 : 0 ≤ x3_1
   rotate_left
   ·
    rw [if_neg c4] at H
    exact absurd H (by simp)
   rw [if_pos c4] at H
   have c4b0 : decide (0 ≤ x3_1) = true := decide_eq_true c4
   clear c4
   obtain ⟨t399, A5, H⟩ := Option.bind_eq_some_iff.mp H
   replace A5 := mk_ A5
   by_cases c6 : t399 = true
   rotate_left
   ·
    replace c6 := Bool.eq_false_iff.mpr c6
    subst c6
    rw [if_neg (show ¬ (false = true) by decide)] at H
    obtain rfl := Option.some.inj H
    have p398 : 0 ≤ (x3_1 : Int) := of_decide_eq_true z0_
    have q398 : x3_1 < (l0.length : Int) := of_decide_eq_true z0_
    obtain ⟨ad398, e398, hx398_0, hx398_1, hx398_2⟩ := gS HR0.out x3_1 p398 q398
    cases e398
    replace hx398_0 := up_ HB hx398_0
    replace hx398_1 := up_ HB hx398_1
    replace hx398_2 := up_ HB hx398_2
    replace p398 := eq_true p398
    replace q398 := eq_true q398
    go_wp2_with (first | ((with_reducible refine aT (f := 92) rfl ?_); refine Short.gL (some 17) Try.func92 #[.agg #[.int .i64 ((bF l0 x3_1).f0), .int .i64 ((bF l0 x3_1).f1), .string ((bF l0 x3_1).f2)]] (h := ?_); (with_reducible refine (cS.calls ((bF l0 x3_1).f0) ((bF l0 x3_1).f1) ((bF l0 x3_1).f2) false _ A5.out).mono ?_); rintro e w8 ⟨rfl, hb⟩; refine ⟨_, rfl, ?_⟩; have n0_ := mk_ (aI (Short.hB HB) hb); clear HB; revert n0_; intro HB; (try clear hb)))
    go_ret
    exact ⟨q0, Short.hB HB⟩
   subst c6
   rw [if_pos rfl] at H
   have H' := mk_ H
   clear H
   have p398 : 0 ≤ (x3_1 : Int) := of_decide_eq_true z0_
   have q398 : x3_1 < (l0.length : Int) := of_decide_eq_true z0_
   obtain ⟨ad398, e398, hx398_0, hx398_1, hx398_2⟩ := gS HR0.out x3_1 p398 q398
   cases e398
   replace hx398_0 := up_ HB hx398_0
   replace hx398_1 := up_ HB hx398_1
   replace hx398_2 := up_ HB hx398_2
   replace p398 := eq_true p398
   replace q398 := eq_true q398
   go_wp2_with (first | ((with_reducible refine aT (f := 92) rfl ?_); refine Short.gL (some 17) Try.func92 #[.agg #[.int .i64 ((bF l0 x3_1).f0), .int .i64 ((bF l0 x3_1).f1), .string ((bF l0 x3_1).f2)]] (h := ?_); (with_reducible refine (cS.calls ((bF l0 x3_1).f0) ((bF l0 x3_1).f1) ((bF l0 x3_1).f2) true _ A5.out).mono ?_); rintro e w7 ⟨rfl, hb⟩; refine ⟨_, rfl, ?_⟩; have n0_ := mk_ (aI (Short.hB HB) hb); clear HB; revert n0_; intro HB; (try clear hb)))
   go_roundg k1
   case measure => have := HK1.out; omega
   case rel => exact ⟨(wrap64 (x3_1 + 1)), z3_, H', ⟨by have := HK1.out; omega⟩, ⟨Short.hB HB⟩⟩
def bV.f (k : Nat) (l0 : List Int) : Option (Bool) := (bN.f k l0).bind fun t400 => (some t400)
theorem bV.calls (k : Nat) (A0 : Option Addr) (c0 : Nat) (l0 : List Int) (r : Bool) (w : World) (hr0 : Kd.C (Kd.int .i64) w A0 l0.length l0) (hc0 : l0.length ≤ c0) (h : bV.f k l0 = some r) :
  Calls Try.prog 68 #[.slice A0 l0.length c0] w fun e w' => e = .returned (.bool r) ∧ Drawn0 w w' := by
 have HR0 := mk_ hr0
 have HC0 := mk_ hc0
 clear hr0 hc0
 have H : ((bN.f k l0).bind fun t400 => (some t400)) = some r := h
 clear h
 obtain ⟨t400, A2, H⟩ := Option.bind_eq_some_iff.mp H
 replace A2 := mk_ A2
 obtain rfl := Option.some.inj H
 go_enter Try.func68, Try.ntmps68
 go_wp2_with (first | ((with_reducible refine aT (f := 55) rfl ?_); refine Short.gL (some 4) Try.func55 #[.slice A0 l0.length c0] (h := ?_); (with_reducible refine (bN.calls k _ _ l0 t400 _ ?side1 ?side2 A2.out).mono ?_); (case side1 => repeat (first | exact HR0.out | (with_reducible refine C_alloc ?_ _) | (with_reducible refine C_drewN ?_ _) | (with_reducible refine C_drew ?_))); (case side2 => exact HC0.out); rintro e w' ⟨rfl, ⟨nd, rfl⟩⟩; refine ⟨_, rfl, ?_⟩))
 go_ret
 exact ⟨z3_, by repeat (first | exact Drawn0.refl _ | apply Drawn0.step)⟩
def bW.f (a0_0 : Int) (a0_1 : Int) (a0_2 : Int) : Option (Bool) := (cP.f a0_0 a0_1 a0_2).bind fun t402 => (some t402)
theorem bW.calls (a0_0 : Int) (a0_1 : Int) (a0_2 : Int) (r : Bool) (w : World) (h : bW.f a0_0 a0_1 a0_2 = some r) :
  Calls Try.prog 69 #[.agg #[.int .i64 a0_0, .int .i64 a0_1, .int .i64 a0_2]] w fun e w' => e = .returned (.bool r) ∧ Below w.heap.size w w' := by
 have hu26 := Try.underlying26
 have HB := mk_ (Below.refl w.heap.size w)
 have H : ((cP.f a0_0 a0_1 a0_2).bind fun t402 => (some t402)) = some r := h
 clear h
 obtain ⟨t402, A2, H⟩ := Option.bind_eq_some_iff.mp H
 replace A2 := mk_ A2
 obtain rfl := Option.some.inj H
 go_enter Try.func69, Try.ntmps69
 go_wp2_with (first | ((with_reducible refine bP (N := 1) rfl ?_); refine bL ?hg (N := 1) ?hd (cs := #[.int .i64 a0_0, .int .i64 a0_1, .int .i64 a0_2]) (t := 26) ?hr ?_; (case hd => rfl); (case hg => rfl); (case hr => first | (go_simp; done) | (go_simp; rfl)); intro gb401 hg w3 hbox hb; have n0_ := mk_ (aI (Short.hB HB) hb); have n1_ := mk_ (hbox); have n2_ := mk_ ((by rw [hg]; exact (aN (Short.hB HB)) : w.heap.size ≤ gb401)); have n3_ := mk_ ((by rw [hg]; exact (aN (Short.hB HB)) : w.heap.size ≤ gb401)); clear HB; revert n0_ n1_ n2_ n3_; intro HB BK401 GW401 GE401; clear hb hbox hg; obtain ⟨hcz_0, hcz_1, hcz_2, hfz_0, hfz_1, hfz_2⟩ := Short.c3 BK401.out) | ((with_reducible refine aT (f := 56) rfl ?_); refine Short.gL (some 4) Try.func56 #[.agg #[.int .i64 a0_0, .int .i64 a0_1, .int .i64 a0_2]] (h := ?_); (with_reducible refine (cP.calls a0_0 a0_1 a0_2 t402 _ A2.out).mono ?_); rintro e w5 ⟨rfl, hb⟩; refine ⟨_, rfl, ?_⟩; have n0_ := mk_ (bB_ BK401 hb); have n1_ := mk_ (aI (Short.hB HB) hb); clear BK401 HB; revert n0_ n1_; intro BK401 HB; (try clear hb)))
 go_ret
 exact ⟨q0, Short.hB HB⟩
def cQ.f (a0_0 : Int) (a0_1 : Int) : Option (Bool) := (cI.f a0_0 a0_1).bind fun t404 => (some t404)
theorem cQ.calls (a0_0 : Int) (a0_1 : Int) (r : Bool) (w : World) (h : cQ.f a0_0 a0_1 = some r) :
  Calls Try.prog 70 #[.agg #[.int .i64 a0_0, .int .i64 a0_1]] w fun e w' => e = .returned (.bool r) ∧ Below w.heap.size w w' := by
 have hu50 := Try.underlying50
 have HB := mk_ (Below.refl w.heap.size w)
 have H : ((cI.f a0_0 a0_1).bind fun t404 => (some t404)) = some r := h
 clear h
 obtain ⟨t404, A2, H⟩ := Option.bind_eq_some_iff.mp H
 replace A2 := mk_ A2
 obtain rfl := Option.some.inj H
 go_enter Try.func70, Try.ntmps70
 go_wp2_with (first | ((with_reducible refine bP (N := 1) rfl ?_); refine bL ?hg (N := 1) ?hd (cs := #[.int .i64 a0_0, .int .i64 a0_1]) (t := 50) ?hr ?_; (case hd => rfl); (case hg => rfl); (case hr => first | (go_simp; done) | (go_simp; rfl)); intro gb403 hg w3 hbox hb; have n0_ := mk_ (aI (Short.hB HB) hb); have n1_ := mk_ (hbox); have n2_ := mk_ ((by rw [hg]; exact (aN (Short.hB HB)) : w.heap.size ≤ gb403)); have n3_ := mk_ ((by rw [hg]; exact (aN (Short.hB HB)) : w.heap.size ≤ gb403)); clear HB; revert n0_ n1_ n2_ n3_; intro HB BK403 GW403 GE403; clear hb hbox hg; obtain ⟨hcz_0, hcz_1, hfz_0, hfz_1⟩ := Short.c2 BK403.out) | ((with_reducible refine aT (f := 54) rfl ?_); refine Short.gL (some 4) Try.func54 #[.agg #[.int .i64 a0_0, .int .i64 a0_1]] (h := ?_); (with_reducible refine (cI.calls a0_0 a0_1 t404 _ A2.out).mono ?_); rintro e w5 ⟨rfl, hb⟩; refine ⟨_, rfl, ?_⟩; have n0_ := mk_ (bB_ BK403 hb); have n1_ := mk_ (aI (Short.hB HB) hb); clear BK403 HB; revert n0_ n1_; intro BK403 HB; (try clear hb)))
 go_ret
 exact ⟨q0, Short.hB HB⟩
def cX.f (a0_0 : Int) (a0_1 : Int) (a0_2 : ByteArray) (a0_3 : Int) (a0_4 : Int) (a0_5 : Int) (a0_6 : Int) (a0_7 : Int) : Option (Bool) := (cS.f a0_0 a0_1 a0_2).bind fun t406 => (if t406 = true then (some true) else (if a0_0 = 0 then (if a0_1 = 0 then (some (a0_2.toList == ([] : List UInt8))) else (some false)) else (some false)))
theorem cX.calls (a0_0 : Int) (a0_1 : Int) (a0_2 : ByteArray) (a0_3 : Int) (a0_4 : Int) (a0_5 : Int) (a0_6 : Int) (a0_7 : Int) (r : Bool) (w : World) (h : cX.f a0_0 a0_1 a0_2 a0_3 a0_4 a0_5 a0_6 a0_7 = some r) :
  Calls Try.prog 71 #[.agg #[.int .i64 a0_0, .int .i64 a0_1, .string a0_2, .int .i64 a0_3, .int .i64 a0_4, .int .i64 a0_5, .int .i64 a0_6, .int .i64 a0_7]] w fun e w' => e = .returned (.bool r) ∧ Below w.heap.size w w' := by
 have hu91 := Try.underlying91
 have hu89 := Try.underlying89
 have HB := mk_ (Below.refl w.heap.size w)
 have H : ((cS.f a0_0 a0_1 a0_2).bind fun t406 => (if t406 = true then (some true) else (if a0_0 = 0 then (if a0_1 = 0 then (some (a0_2.toList == ([] : List UInt8))) else (some false)) else (some false)))) = some r := h
 clear h
 obtain ⟨t406, A2, H⟩ := Option.bind_eq_some_iff.mp H
 replace A2 := mk_ A2
 by_cases c3 : t406 = true
 rotate_left
 replace c3 := Bool.eq_false_iff.mpr c3
 subst c3
 rw [if_neg (show ¬ (false = true) by decide)] at H
 by_cases c7 : a0_0 = 0
 rotate_left
 rw [if_neg c7] at H
 have c7b0 : (a0_0 == 0) = false := beq_eq_false_iff_ne.mpr c7
 have c7b1 : (a0_0 != 0) = true := bne_iff_ne.mpr c7
 obtain rfl := Option.some.inj H
 rotate_right
 rw [if_pos c7] at H
 have c7b0 : (a0_0 == 0) = true := beq_iff_eq.mpr c7
 have c7b1 : (a0_0 != 0) = false := bne_eq_false_iff_eq.mpr c7
 clear c7
 by_cases c8 : a0_1 = 0
 rotate_left
 rw [if_neg c8] at H
 have c8b0 : (a0_1 == 0) = false := beq_eq_false_iff_ne.mpr c8
 have c8b1 : (a0_1 != 0) = true := bne_iff_ne.mpr c8
 obtain rfl := Option.some.inj H
 rotate_right
 rw [if_pos c8] at H
 have c8b0 : (a0_1 == 0) = true := beq_iff_eq.mpr c8
 have c8b1 : (a0_1 != 0) = false := bne_eq_false_iff_eq.mpr c8
 clear c8
 obtain rfl := Option.some.inj H
 rotate_right
 subst c3
 rw [if_pos rfl] at H
 obtain rfl := Option.some.inj H
 all_goals
  go_enter Try.func71, Try.ntmps71
  go_wp2_with (first | ((with_reducible refine bP (N := 1) rfl ?_); refine bL ?hg (N := 1) ?hd (cs := #[.int .i64 a0_0, .int .i64 a0_1, .string a0_2, .int .i64 a0_3, .int .i64 a0_4, .int .i64 a0_5, .int .i64 a0_6, .int .i64 a0_7]) (t := 91) ?hr ?_; (case hd => rfl); (case hg => rfl); (case hr => first | (go_simp; done) | (go_simp; rfl)); intro gb405 hg w_1 hbox hb; have n0_ := mk_ (aI (Short.hB HB) hb); have n1_ := mk_ (hbox); have n2_ := mk_ ((by rw [hg]; exact (aN (Short.hB HB)) : w.heap.size ≤ gb405)); have n3_ := mk_ ((by rw [hg]; exact (aN (Short.hB HB)) : w.heap.size ≤ gb405)); clear HB; revert n0_ n1_ n2_ n3_; intro HB BK405 GW405 GE405; clear hb hbox hg; have hcz_0 := aC BK405.out; have hfz_0 := aH BK405.out) | ((with_reducible refine aT (f := 92) rfl ?_); refine Short.gL (some 5) Try.func92 #[.agg #[.int .i64 a0_0, .int .i64 a0_1, .string a0_2]] (h := ?_); (with_reducible refine (cS.calls a0_0 a0_1 a0_2 false _ A2.out).mono ?_); rintro e w_5 ⟨rfl, hb⟩; refine ⟨_, rfl, ?_⟩; have n0_ := mk_ (bB_ BK405 hb); have n1_ := mk_ (aI (Short.hB HB) hb); clear BK405 HB; revert n0_ n1_; intro BK405 HB; (try clear hb); have hcz_0 := aC BK405.out; have hfz_0 := aH BK405.out) | ((with_reducible refine aT (f := 92) rfl ?_); refine Short.gL (some 5) Try.func92 #[.agg #[.int .i64 a0_0, .int .i64 a0_1, .string a0_2]] (h := ?_); (with_reducible refine (cS.calls a0_0 a0_1 a0_2 true _ A2.out).mono ?_); rintro e w_5 ⟨rfl, hb⟩; refine ⟨_, rfl, ?_⟩; have n0_ := mk_ (bB_ BK405 hb); have n1_ := mk_ (aI (Short.hB HB) hb); clear BK405 HB; revert n0_ n1_; intro BK405 HB; (try clear hb)))
  go_ret
  exact ⟨q0, Short.hB HB⟩
end Go.Proofs.Ytcbfliajgopdaaa.PAll
end
section
namespace Go.Proofs.Ytcbfliajgopdaaa.Plain
open Go.RowKit PrintWords PrintLast PrintMore ZipT PrintWords.Kd PrintMore.Kd
set_option linter.unusedVariables false
set_option linter.unusedSimpArgs false
theorem w64 {x : Int} (h0 : -9223372036854775808 ≤ x) (h1 : x ≤ 9223372036854775807) : wrap64 x = x := by
 unfold wrap64; omega
theorem wu64 {x : Int} (h0 : 0 ≤ x) (h1 : x < 18446744073709551616) : IntKind.u64.wrap x = x := by
 simp [IntKind.wrap, IntKind.bits, IntKind.signed]; omega
theorem wi64 (x : Int) : IntKind.i64.wrap x = wrap64 x := by rw [IntKind.wrap_i64]; unfold wrap64; rfl
theorem u64_mod (x : Int) : IntKind.u64.wrap x = x % 18446744073709551616 := by
 simp [IntKind.wrap, IntKind.bits, IntKind.signed]
theorem wf_u8 {x : Int} (h : (Lit.int .u8 x).wf = true) : 0 ≤ x ∧ x ≤ 255 := by
 simp [Lit.wf, IntKind.min, IntKind.max, IntKind.bits, IntKind.signed] at h; omega
def Byte (b : Int) : Prop := 0 ≤ b ∧ b ≤ 255
def Bytes (l : List Int) : Prop := ∀ b ∈ l, Byte b
theorem Bytes.nil : Bytes [] := fun _ h => by cases h
theorem Bytes.cons {b : Int} {l : List Int} (h : Byte b) (k : Bytes l) : Bytes (b :: l) := fun x hx => by
 rcases List.mem_cons.1 hx with rfl | hx
 ·
  exact h
 ·
  exact k x hx
theorem Bytes.head {b : Int} {l : List Int} (h : Bytes (b :: l)) : Byte b := h b List.mem_cons_self
theorem Bytes.tail {b : Int} {l : List Int} (h : Bytes (b :: l)) : Bytes l := fun x hx => h x (List.mem_cons_of_mem _ hx)
theorem Bytes.append {a b : List Int} (h : Bytes a) (k : Bytes b) : Bytes (a ++ b) := fun x hx => by
 rcases List.mem_append.1 hx with hx | hx
 ·
  exact h x hx
 ·
  exact k x hx
theorem Bytes.take {a : List Int} (h : Bytes a) (n : Nat) : Bytes (a.take n) := fun x hx => h x (List.mem_of_mem_take hx)
theorem Bytes.drop {a : List Int} (h : Bytes a) (n : Nat) : Bytes (a.drop n) := fun x hx => h x (List.mem_of_mem_drop hx)
theorem Bytes.rd {l : List Int} (h : Bytes l) (i : Int) : Byte (rd l i) := by
 show Byte (l.getD i.toNat 0)
 rcases Nat.lt_or_ge i.toNat l.length with hi | hi
 ·
  rw [List.getD_eq_getElem?_getD, List.getElem?_eq_getElem hi]; exact h _ (List.getElem_mem hi)
 ·
  rw [List.getD_eq_getElem?_getD, List.getElem?_eq_none hi]; exact ⟨by decide, by decide⟩
def big (n : Int) : Nat → List Int
 | 0 => []
 | s + 1 => (n / 256 ^ s) % 256 :: big n s
def val : Int → List Int → Int
 | a, [] => a
 | a, b :: l => val (a * 256 + b) l
theorem dL (n : Int) (s : Nat) : (big n s).length = s := by
 induction s with
 | zero => rfl
 | succ s ih => simp [big, ih]
theorem dA (n : Int) (s : Nat) : Bytes (big n s) := by
 induction s with
 | zero => exact Bytes.nil
 | succ s ih =>
  refine Bytes.cons ⟨?_, ?_⟩ ih
  ·
   exact Int.emod_nonneg _ z4_
  ·
   have := Int.emod_lt_of_pos (n / 256 ^ s) (show (0 : Int) < 256 by decide); omega
theorem emod_mul' (n a b : Int) (ha : 0 < a) : n % (a * b) = (n / a % b) * a + n % a := by
 have h1 := Int.emod_add_mul_ediv n a
 have h2 := Int.emod_add_mul_ediv (n / a) b
 have h3 : n % (a * b) = n - a * b * (n / (a * b)) := by have := Int.emod_add_mul_ediv n (a * b); omega
 have h4 : n / (a * b) = n / a / b := (Int.ediv_ediv_of_nonneg z2_).symm
 rw [h3, h4]
 have h5 : a * (n / a) = a * (n / a % b) + a * (b * (n / a / b)) := by rw [← Int.mul_add]; exact congrArg (a * ·) h2.symm
 rw [Int.mul_assoc, Int.mul_comm (n / a % b)]
 omega
theorem pow_pos (s : Nat) : (0 : Int) < 256 ^ s := Int.pow_pos z4_
theorem val_big (n : Int) (s : Nat) (a : Int) : val a (big n s) = a * 256 ^ s + n % 256 ^ s := by
 induction s generalizing a with
 | zero => simp [big, val]
 | succ s ih =>
  have hp := pow_pos s
  have h1 : n % 256 ^ (s + 1) = (n / 256 ^ s % 256) * 256 ^ s + n % 256 ^ s := by
   have e : (256 : Int) ^ (s + 1) = 256 ^ s * 256 := Int.pow_succ _ _
   rw [e]; exact emod_mul' _ _ _ hp
  rw [big, val, ih, h1, Int.pow_succ]
  rw [Int.add_mul, Int.mul_assoc, Int.mul_comm 256]
  omega
end Go.Proofs.Ytcbfliajgopdaaa.Plain
end
section
namespace Go.Proofs.Ytcbfliajgopdaaa.PAll
open Go.RowKit PrintWords PrintLast PrintMore ZipT PrintWords.Kd PrintMore.Kd
attribute [local go_sem] eC eA eN eR dR dP eD eB   -- for this text's walks alone
set_option linter.unusedVariables false
set_option linter.unusedSimpArgs false
def bE.l0 : Nat → List (S89) → Int → Int → Option (Int)
 | 0, _, _, _ => none
 | k + 1, x0, x7, x8 => if x8 < x7 then (if 0 ≤ x8 then (if x8 < (x0.length : Int) then ((fY.f ((bF x0 x8).f0) ((bF x0 x8).f1) ((bF x0 x8).f2)).bind fun t186 => (if t186 = true then (some x8) else (bE.l0 k x0 x7 (wrap64 (x8 + 1))))) else (none)) else (none)) else (some (-1))
def bE.f (k : Nat) (l0 : List (S89)) (a1 : Unit) : Option (Int) := bE.l0 k l0 (l0.length : Int) 0
theorem bE.calls (k : Nat) (A0 : Option Addr) (c0 : Nat) (l0 : List (S89)) (a1 : Unit) (r : Int) (w : World) (hr0 : Kd.C k89 w A0 l0.length l0) (hc0 : l0.length ≤ c0) (h : bE.f k l0 a1 = some r) :
  Calls Try.prog 113 #[.slice A0 l0.length c0, .func (.func 111) #[] #[]] w fun e w' => e = .returned (.int .i64 r) ∧ Below w.heap.size w w' := by
 have hu89 := Try.underlying89
 have HR0 := mk_ hr0
 have HC0 := mk_ hc0
 clear hr0 hc0
 have HB := mk_ (Below.refl w.heap.size w)
 have H : (bE.l0 k l0 (l0.length : Int) 0) = some r := h
 clear h
 have H' := mk_ H
 clear H
 go_enter Try.func113, Try.ntmps113
 go_wp2
 go_loopg [8] k (fun kq v8 w' => ∃ (x8_1 : Int), v8 = .int .i64 x8_1 ∧ Aside0 (bE.l0 kq l0 (l0.length : Int) x8_1 = some r) ∧ Aside0 (kq ≤ k) ∧ Aside0 (Below w.heap.size w w'))
 case atStart => exact ⟨(0), z3_, H', ⟨Nat.le_refl _⟩, ⟨Short.hB HB⟩⟩
 case round =>
  clear H'
  obtain ⟨x8_1, rfl, HA, HK1, HB⟩ := hrel
  cases gk with
  | zero => exact absurd HA.out (by simp [bE.l0])
  | succ k1 =>
   have H := HA.out
   clear HA
   simp only [bE.l0] at H
   by_cases c3 : x8_1 < (l0.length : Int)
   rotate_left
   ·
    rw [if_neg c3] at H
    have c3b0 : decide (x8_1 < (l0.length : Int)) = false := decide_eq_false c3
    clear c3
    obtain rfl := Option.some.inj H
    go_wp2
    go_ret
    exact ⟨q0, Short.hB HB⟩
   rw [if_pos c3] at H
   have c3b0 : decide (x8_1 < (l0.length : Int)) = true := decide_eq_true c3
   clear c3
   by_cases c4 : 0 ≤ x8_1
   rotate_left
   ·
    rw [if_neg c4] at H
    exact absurd H (by simp)
   rw [if_pos c4] at H
   have c4b0 : decide (0 ≤ x8_1) = true := decide_eq_true c4
   clear c4
   by_cases c5 : x8_1 < (l0.length : Int)
   rotate_left
   ·
    rw [if_neg c5] at H
    exact absurd H (by simp)
   rw [if_pos c5] at H
   have c5b0 : decide (x8_1 < (l0.length : Int)) = true := decide_eq_true c5
   clear c5
   obtain ⟨t186, A6, H⟩ := Option.bind_eq_some_iff.mp H
   replace A6 := mk_ A6
   by_cases c7 : t186 = true
   ·
    subst c7
    rw [if_pos rfl] at H
    obtain rfl := Option.some.inj H
    have p185 : 0 ≤ (x8_1 : Int) := of_decide_eq_true z0_
    have q185 : x8_1 < (l0.length : Int) := of_decide_eq_true z0_
    obtain ⟨ad185, e185, hx185_0, hx185_1, hx185_2⟩ := gS HR0.out x8_1 p185 q185
    cases e185
    replace hx185_0 := up_ HB hx185_0
    replace hx185_1 := up_ HB hx185_1
    replace hx185_2 := up_ HB hx185_2
    replace p185 := eq_true p185
    replace q185 := eq_true q185
    go_wp2_with (first | ((first | ((with_reducible refine aT (f := 111) rfl ?_); refine Short.gL (some 16) Try.func111 #[.agg #[.int .i64 ((bF l0 x8_1).f0), .int .i64 ((bF l0 x8_1).f1), .string ((bF l0 x8_1).f2)]] (h := ?_)) | ((with_reducible refine Go.Proofs.Ytcbfliajgopdaaa.Steps.gate_any rfl ?_); refine Go.Proofs.Ytcbfliajgopdaaa.Steps.goesV_ (some 16) rfl rfl Try.func111 z1_ rfl #[.agg #[.int .i64 ((bF l0 x8_1).f0), .int .i64 ((bF l0 x8_1).f1), .string ((bF l0 x8_1).f2)]] rfl (by first | rfl | go_simp) z5_ ?_)); (with_reducible refine (fY.calls ((bF l0 x8_1).f0) ((bF l0 x8_1).f1) ((bF l0 x8_1).f2) true _ A6.out).mono ?_); rintro e w8 ⟨rfl, hb⟩; refine ⟨_, rfl, ?_⟩; have n0_ := mk_ (aI (Short.hB HB) hb); clear HB; revert n0_; intro HB; (try clear hb)))
    go_ret
    exact ⟨q0, Short.hB HB⟩
   replace c7 := Bool.eq_false_iff.mpr c7
   subst c7
   rw [if_neg (show ¬ (false = true) by decide)] at H
   have H' := mk_ H
   clear H
   have p185 : 0 ≤ (x8_1 : Int) := of_decide_eq_true z0_
   have q185 : x8_1 < (l0.length : Int) := of_decide_eq_true z0_
   obtain ⟨ad185, e185, hx185_0, hx185_1, hx185_2⟩ := gS HR0.out x8_1 p185 q185
   cases e185
   replace hx185_0 := up_ HB hx185_0
   replace hx185_1 := up_ HB hx185_1
   replace hx185_2 := up_ HB hx185_2
   replace p185 := eq_true p185
   replace q185 := eq_true q185
   go_wp2_with (first | ((first | ((with_reducible refine aT (f := 111) rfl ?_); refine Short.gL (some 16) Try.func111 #[.agg #[.int .i64 ((bF l0 x8_1).f0), .int .i64 ((bF l0 x8_1).f1), .string ((bF l0 x8_1).f2)]] (h := ?_)) | ((with_reducible refine Go.Proofs.Ytcbfliajgopdaaa.Steps.gate_any rfl ?_); refine Go.Proofs.Ytcbfliajgopdaaa.Steps.goesV_ (some 16) rfl rfl Try.func111 z1_ rfl #[.agg #[.int .i64 ((bF l0 x8_1).f0), .int .i64 ((bF l0 x8_1).f1), .string ((bF l0 x8_1).f2)]] rfl (by first | rfl | go_simp) z5_ ?_)); (with_reducible refine (fY.calls ((bF l0 x8_1).f0) ((bF l0 x8_1).f1) ((bF l0 x8_1).f2) false _ A6.out).mono ?_); rintro e w9 ⟨rfl, hb⟩; refine ⟨_, rfl, ?_⟩; have n0_ := mk_ (aI (Short.hB HB) hb); clear HB; revert n0_; intro HB; (try clear hb)))
   go_roundg k1
   case measure => have := HK1.out; omega
   case rel => exact ⟨(wrap64 (x8_1 + 1)), z3_, H', ⟨by have := HK1.out; omega⟩, ⟨Short.hB HB⟩⟩
def cK.f (k : Nat) (l0 : List (S89)) (a1 : Unit) : Option (Bool) := (bE.f k l0 a1).bind fun t187 => (some (decide (t187 ≥ 0)))
theorem cK.calls (k : Nat) (A0 : Option Addr) (c0 : Nat) (l0 : List (S89)) (a1 : Unit) (r : Bool) (w : World) (hr0 : Kd.C k89 w A0 l0.length l0) (hc0 : l0.length ≤ c0) (h : cK.f k l0 a1 = some r) :
  Calls Try.prog 110 #[.slice A0 l0.length c0, .func (.func 111) #[] #[]] w fun e w' => e = .returned (.bool r) ∧ Below w.heap.size w w' := by
 have HR0 := mk_ hr0
 have HC0 := mk_ hc0
 clear hr0 hc0
 have HB := mk_ (Below.refl w.heap.size w)
 have H : ((bE.f k l0 a1).bind fun t187 => (some (decide (t187 ≥ 0)))) = some r := h
 clear h
 obtain ⟨t187, A3, H⟩ := Option.bind_eq_some_iff.mp H
 replace A3 := mk_ A3
 obtain rfl := Option.some.inj H
 go_enter Try.func110, Try.ntmps110
 go_wp2_with (first | ((first | ((with_reducible refine aT (f := 113) rfl ?_); refine Short.gL (some 7) Try.func113 #[.slice A0 l0.length c0, .func (.func 111) #[] #[]] (h := ?_)) | ((with_reducible refine Go.Proofs.Ytcbfliajgopdaaa.Steps.gate_any rfl ?_); refine Go.Proofs.Ytcbfliajgopdaaa.Steps.goesV_ (some 7) rfl rfl Try.func113 z1_ rfl #[.slice A0 l0.length c0, .func (.func 111) #[] #[]] rfl (by first | rfl | go_simp) z5_ ?_)); (with_reducible refine (bE.calls k _ _ l0 a1 t187 _ ?side1 ?side2 A3.out).mono ?_); (case side1 => repeat (first | exact HR0.out | (with_reducible refine C_alloc ?_ _) | (with_reducible refine C_drewN ?_ _) | (with_reducible refine C_drew ?_))); (case side2 => exact HC0.out); rintro e w4 ⟨rfl, hb⟩; refine ⟨_, rfl, ?_⟩; have n0_ := mk_ (aI (Short.hB HB) hb); clear HB; revert n0_; intro HB; (try clear hb)))
 go_ret
 exact ⟨q0, Short.hB HB⟩
def fR.f (k : Nat) (l0 : List (S89)) : Option (Int) := if (l0.length : Int) > 12 then (some 2) else ((cK.f k l0 ()).bind fun t188 => (if t188 = true then (some 1) else (some 0)))
theorem fR.calls (k : Nat) (A0 : Option Addr) (c0 : Nat) (l0 : List (S89)) (r : Int) (w : World) (hr0 : Kd.C k89 w A0 l0.length l0) (hc0 : l0.length ≤ c0) (h : fR.f k l0 = some r) :
  Calls Try.prog 106 #[.slice A0 l0.length c0] w fun e w' => e = .returned (.int .i64 r) ∧ Below w.heap.size w w' := by
 have HR0 := mk_ hr0
 have HC0 := mk_ hc0
 clear hr0 hc0
 have HB := mk_ (Below.refl w.heap.size w)
 have H : (if (l0.length : Int) > 12 then (some 2) else ((cK.f k l0 ()).bind fun t188 => (if t188 = true then (some 1) else (some 0)))) = some r := h
 clear h
 by_cases c2 : (l0.length : Int) > 12
 rotate_left
 rw [if_neg c2] at H
 have c2b0 : decide (12 < (l0.length : Int)) = false := decide_eq_false c2
 have c2b1 : decide (12 < l0.length) = false := decide_eq_false z2_
 clear c2
 obtain ⟨t188, A3, H⟩ := Option.bind_eq_some_iff.mp H
 replace A3 := mk_ A3
 by_cases c4 : t188 = true
 rotate_left
 replace c4 := Bool.eq_false_iff.mpr c4
 subst c4
 rw [if_neg (show ¬ (false = true) by decide)] at H
 obtain rfl := Option.some.inj H
 rotate_right
 subst c4
 rw [if_pos rfl] at H
 obtain rfl := Option.some.inj H
 rotate_right
 rw [if_pos c2] at H
 have c2b0 : decide (12 < (l0.length : Int)) = true := decide_eq_true c2
 have c2b1 : decide (12 < l0.length) = true := decide_eq_true z2_
 clear c2
 obtain rfl := Option.some.inj H
 all_goals
  go_enter Try.func106, Try.ntmps106
  go_wp2_with (((with_reducible refine aT (f := 110) rfl ?_); refine Short.gL (some 9) Try.func110 #[.slice A0 l0.length c0, .func (.func 111) #[] #[]] (h := ?_); (with_reducible refine (cK.calls k _ _ l0 () _ _ ?side1 ?side2 A3.out).mono ?_); (case side1 => repeat (first | exact HR0.out | (with_reducible refine C_alloc ?_ _) | (with_reducible refine C_drewN ?_ _) | (with_reducible refine C_drew ?_))); (case side2 => exact HC0.out); rintro e w_9 ⟨rfl, hb⟩; refine ⟨_, rfl, ?_⟩; have n0_ := mk_ (aI (Short.hB HB) hb); clear HB; revert n0_; intro HB; (try clear hb)))
  go_ret
  exact ⟨q0, Short.hB HB⟩
def row_Bytes.l0 : Nat → List Int → List (S89) → Int → Int → Option (List Int × Int)
 | 0, _, _, _, _ => none
 | k + 1, x5, x19, x20, x21 => if x21 < x20 then (if 0 ≤ x21 then (if x21 < (x19.length : Int) then ((value_Bytes.f k ((bF x19 x21).f0) ((bF x19 x21).f1) ((bF x19 x21).f2)).bind fun bt195 => (if x5.length + bt195.1.length < 140737488355328 then (row_Bytes.l0 k (x5 ++ bt195.1) x19 x20 (wrap64 (x21 + 1))) else (none))) else (none)) else (none)) else (some (x5, 0))
def row_Bytes.f (k : Nat) (l0 : List (S89)) : Option (List Int × Int) := (fR.f k l0).bind fun t189 => (if t189 = 0 then (row_Bytes.l0 k (([((l0.length : Int)) % 256] : List Int)) l0 (l0.length : Int) 0) else (some (([] : List Int), t189)))
theorem row_Bytes.calls (k : Nat) (A0 : Option Addr) (c0 : Nat) (l0 : List (S89)) (r1 : List Int) (r2 : Int) (w : World) (hr0 : Kd.C k89 w A0 l0.length l0) (hc0 : l0.length ≤ c0) (h : row_Bytes.f k l0 = some (r1, r2)) :
  Calls Try.prog 90 #[.slice A0 l0.length c0] w fun e w' => ∃ v0_ : Value, e = .returned (.tuple #[v0_, .int .i64 r2]) ∧ Kd.R (Kd.int .u8) 5 w' w.heap.size (fun _ => True) v0_ r1 ∧ Below w.heap.size w w' := by
 have hu89 := Try.underlying89
 have HR0 := mk_ hr0
 have HC0 := mk_ hc0
 clear hr0 hc0
 have HB := mk_ (Below.refl w.heap.size w)
 have H : ((fR.f k l0).bind fun t189 => (if t189 = 0 then (row_Bytes.l0 k (([((l0.length : Int)) % 256] : List Int)) l0 (l0.length : Int) 0) else (some (([] : List Int), t189)))) = some (r1, r2) := h
 clear h
 obtain ⟨t189, A2, H⟩ := Option.bind_eq_some_iff.mp H
 replace A2 := mk_ A2
 by_cases c3 : t189 = 0
 rotate_left
 ·
  rw [if_neg c3] at H
  have c3b0 : (t189 == 0) = false := beq_eq_false_iff_ne.mpr c3
  have c3b1 : (t189 != 0) = true := bne_iff_ne.mpr c3
  simp only [Option.some.injEq, Prod.mk.injEq] at H
  obtain ⟨rfl, rfl⟩ := H
  go_enter Try.func90, Try.ntmps90
  go_wp2_with (first | ((with_reducible refine aT (f := 106) rfl ?_); refine Short.gL (some 11) Try.func106 #[.slice A0 l0.length c0] (h := ?_); (with_reducible refine (fR.calls k _ _ l0 t189 _ ?side1 ?side2 A2.out).mono ?_); (case side1 => repeat (first | exact HR0.out | (with_reducible refine C_alloc ?_ _) | (with_reducible refine C_drewN ?_ _) | (with_reducible refine C_drew ?_))); (case side2 => exact HC0.out); rintro e w17 ⟨rfl, hb⟩; refine ⟨_, rfl, ?_⟩; have n0_ := mk_ (aI (Short.hB HB) hb); clear HB; revert n0_; intro HB; (try clear hb)))
  go_ret2
  exact ⟨_, by first | rfl | (simp [bD, bC] <;> rfl) | (simp [*, bD, bC] <;> rfl), by first | exact R_nil _ _ _ _ _ | exact N_nil _ _ _ _ _ | exact V_nil _ _ _ _ _ | exact Q_nil _ _ _ _ _ | exact S_nil _ _ _ _ _, Short.hB HB⟩
 rw [if_pos c3] at H
 have c3b0 : (t189 == 0) = true := beq_iff_eq.mpr c3
 have c3b1 : (t189 != 0) = false := bne_eq_false_iff_eq.mpr c3
 clear c3
 obtain ⟨y190, hy190⟩ : ∃ y_ : List Int, y_ = (([((l0.length : Int)) % 256] : List Int)) := ⟨_, rfl⟩
 replace H : (row_Bytes.l0 k y190 l0 (l0.length : Int) 0) = some (r1, r2) := by first | (rw [hy190]; with_reducible exact H) | (have H2_ := (Option.bind_some _ _).symm.trans H; rw [hy190]; with_reducible exact H2_) | (have H2_ := (Option.bind_some _ _).symm.trans H; with_reducible exact H2_) | with_reducible exact H | (rw [hy190]; exact H) | exact H
 have Ny190 := mk_ hy190
 clear hy190
 have H' := mk_ H
 clear H
 go_enter Try.func90, Try.ntmps90
 go_wp2_with (first | ((with_reducible refine aT (f := 106) rfl ?_); refine Short.gL (some 11) Try.func106 #[.slice A0 l0.length c0] (h := ?_); (with_reducible refine (fR.calls k _ _ l0 t189 _ ?side1 ?side2 A2.out).mono ?_); (case side1 => repeat (first | exact HR0.out | (with_reducible refine C_alloc ?_ _) | (with_reducible refine C_drewN ?_ _) | (with_reducible refine C_drew ?_))); (case side2 => exact HC0.out); rintro e w4 ⟨rfl, hb⟩; refine ⟨_, rfl, ?_⟩; have n0_ := mk_ (aI (Short.hB HB) hb); clear HB; revert n0_; intro HB; (try clear hb)) | ((with_reducible refine bP (N := 18) rfl ?_); refine R_lit (Kd.int .u8) _ 5 ?hg (N := 18) ?hd (xs := ([((l0.length : Int)) % 256] : List Int)) (inner := [.int .u8 (((l0.length : Int)) % 256)]) (ok := fun _ => True) (okp := fun _ => True) ?hr ?hp (fun _ hk => hk) trivial (Below.refl _ _) (Nat.le_refl _) (by simp) ?_; (case hd => rfl); (case hg => rfl); (case hr => first | (go_simp; done) | (go_simp; rfl)); (case hp => exact (Reps.one (show Kd.M (Kd.int .u8) _ _ _ (((l0.length : Int)) % 256) [.int .u8 (((l0.length : Int)) % 256)] from rfl) (Reps.none _ _))); intro v191 w5 ho6 hb hg_ hnew_; clear hg_ hnew_; (first | rw [← Ny190.out] at ho6 | (simp only [Int.reduceToNat] at ho6; rw [← Ny190.out] at ho6)); have n0_ := mk_ (dN ho6 (aN (Short.hB HB))); have n1_ := mk_ (aI (Short.hB HB) hb); clear HB; revert n0_ n1_; intro HO192 HB; clear hb ho6))
 go_loopg [5, 21] k (fun kq v5 v21 w' => ∃ (x5_1 : List Int) (x21_1 : Int), v21 = .int .i64 x21_1 ∧ Aside0 (row_Bytes.l0 kq x5_1 l0 (l0.length : Int) x21_1 = some (r1, r2)) ∧ Aside0 (kq ≤ k) ∧ Aside0 (Kd.R (Kd.int .u8) 5 w' w.heap.size (fun _ => True) v5 x5_1) ∧ Aside0 (Below w.heap.size w w'))
 case atStart => exact ⟨(y190), (0), z3_, H', ⟨Nat.le_refl _⟩, ⟨by (with_reducible repeat (first | apply R_alloc | apply R_drewN | apply R_drew)); exact HO192.out⟩, ⟨Short.hB HB⟩⟩
 case round =>
  clear H'
  try clear c3
  try clear c3b0
  try clear c3b1
  obtain ⟨x5_1, x21_1, rfl, HA, HK1, HO_5, HB⟩ := hrel
  cases gk with
  | zero => exact absurd HA.out (by simp [row_Bytes.l0])
  | succ k1 =>
   have H := HA.out
   clear HA
   simp only [row_Bytes.l0] at H
   by_cases c7 : x21_1 < (l0.length : Int)
   rotate_left
   ·
    rw [if_neg c7] at H
    have c7b0 : decide (x21_1 < (l0.length : Int)) = false := decide_eq_false c7
    clear c7
    simp only [Option.some.injEq, Prod.mk.injEq] at H
    obtain ⟨rfl, rfl⟩ := H
    go_wp2
    go_ret2
    exact ⟨_, by first | rfl | (simp [bD, bC] <;> rfl) | (simp [*, bD, bC] <;> rfl), by (with_reducible repeat (first | apply R_alloc | apply R_drewN | apply R_drew)); exact HO_5.out, Short.hB HB⟩
   rw [if_pos c7] at H
   have c7b0 : decide (x21_1 < (l0.length : Int)) = true := decide_eq_true c7
   clear c7
   by_cases c8 : 0 ≤ x21_1
   rotate_left
   ·
    rw [if_neg c8] at H
    exact absurd H (by simp)
   rw [if_pos c8] at H
   have c8b0 : decide (0 ≤ x21_1) = true := decide_eq_true c8
   clear c8
   by_cases c9 : x21_1 < (l0.length : Int)
   rotate_left
   ·
    rw [if_neg c9] at H
    exact absurd H (by simp)
   rw [if_pos c9] at H
   have c9b0 : decide (x21_1 < (l0.length : Int)) = true := decide_eq_true c9
   clear c9
   obtain ⟨⟨t195, t198⟩, A10, H⟩ := Option.bind_eq_some_iff.mp H
   try dsimp only at H
   replace A10 := mk_ A10
   by_cases c11 : x5_1.length + t195.length < 140737488355328
   rotate_left
   ·
    rw [if_neg c11] at H
    exact absurd H (by simp)
   rw [if_pos c11] at H
   have LMc11 := mk_ c11
   clear c11
   obtain ⟨y199, hy199⟩ : ∃ y_ : List Int, y_ = (x5_1 ++ t195) := ⟨_, rfl⟩
   replace H : (row_Bytes.l0 k1 y199 l0 (l0.length : Int) (wrap64 (x21_1 + 1))) = some (r1, r2) := by first | (rw [hy199]; with_reducible exact H) | (have H2_ := (Option.bind_some _ _).symm.trans H; rw [hy199]; with_reducible exact H2_) | (have H2_ := (Option.bind_some _ _).symm.trans H; with_reducible exact H2_) | with_reducible exact H | (rw [hy199]; exact H) | exact H
   have Ny199 := mk_ hy199
   clear hy199
   have H' := mk_ H
   clear H
   have p193 : 0 ≤ (x21_1 : Int) := of_decide_eq_true z0_
   have q193 : x21_1 < (l0.length : Int) := of_decide_eq_true z0_
   obtain ⟨ad193, e193, hx193_0, hx193_1, hx193_2⟩ := gS HR0.out x21_1 p193 q193
   cases e193
   replace hx193_0 := up_ HB hx193_0
   replace hx193_1 := up_ HB hx193_1
   replace hx193_2 := up_ HB hx193_2
   replace p193 := eq_true p193
   replace q193 := eq_true q193
   go_wp2_with (first | ((with_reducible refine bP (N := 7) rfl ?_); refine bL ?hg (N := 7) ?hd (cs := #[.int .i64 0, .int .i64 0, .string (⟨#[]⟩ : ByteArray)]) (t := 89) ?hr ?_; (case hd => rfl); (case hg => rfl); (case hr => first | (go_simp; done) | (go_simp; rfl)); intro gb194 hg w12 hbox hb; have n0_ := mk_ (cO (ZKR HO_5) hb); have n1_ := mk_ (aI (Short.hB HB) hb); have n2_ := mk_ (hbox); have n3_ := mk_ ((by rw [hg]; exact (aN (Short.hB HB)) : w.heap.size ≤ gb194)); have n4_ := mk_ ((by rw [hg]; exact (aN (Short.hB HB)) : w.heap.size ≤ gb194)); clear HO_5 HB; revert n0_ n1_ n2_ n3_ n4_; intro HO_5 HB BK194 GW194 GE194; clear hb hbox hg; obtain ⟨hcz_0, hcz_1, hcz_2, hfz_0, hfz_1, hfz_2⟩ := Short.c3 BK194.out) | ((with_reducible refine aT (f := 105) rfl ?_); refine Short.gL (some 27) Try.func105 #[.agg #[.int .i64 ((bF l0 x21_1).f0), .int .i64 ((bF l0 x21_1).f1), .string ((bF l0 x21_1).f2)]] (h := ?_); (with_reducible refine (value_Bytes.calls k1 ((bF l0 x21_1).f0) ((bF l0 x21_1).f1) ((bF l0 x21_1).f2) t195 t198 _ A10.out).mono ?_); rintro e w14 ⟨v196, rfl, ho0, hb⟩; refine ⟨_, rfl, ?_⟩; have n0_ := mk_ (R_elder' (by (with_reducible repeat (first | apply R_alloc | apply R_drewN | apply R_drew)); exact (R_mono (R_far (p := ⟨gb194, 2, none⟩) (R_far (p := ⟨gb194, 1, none⟩) (R_far (p := ⟨gb194, 0, none⟩) (hG HO_5.out BK194.out z4_) (fun _ hk => hk.2) (.int .i64 ((bF l0 x21_1).f0))) (fun _ hk => hk.2) (.int .i64 ((bF l0 x21_1).f1))) (fun _ hk => hk.2) (.string ((bF l0 x21_1).f2))) (fun _ h_ => h_.1))) (R_base ho0) hb); have n1_ := mk_ (dN (R_new' ho0 (R_lt (by (with_reducible repeat (first | apply R_alloc | apply R_drewN | apply R_drew)); exact (R_mono (R_far (p := ⟨gb194, 2, none⟩) (R_far (p := ⟨gb194, 1, none⟩) (R_far (p := ⟨gb194, 0, none⟩) (hG HO_5.out BK194.out z4_) (fun _ hk => hk.2) (.int .i64 ((bF l0 x21_1).f0))) (fun _ hk => hk.2) (.int .i64 ((bF l0 x21_1).f1))) (fun _ hk => hk.2) (.string ((bF l0 x21_1).f2))) (fun _ h_ => h_.1))))) (aN (Short.hB HB))); have n2_ := mk_ (dB (g := gb194) (o := .cells #[.int .i64 ((bF l0 x21_1).f0), .int .i64 ((bF l0 x21_1).f1), .string ((bF l0 x21_1).f2)] 89 (0, 0)) (by (with_reducible repeat (first | refine aG ?_ _ | refine aJ ?_ | refine aE ?_ _)); refine bJ (cs := #[.int .i64 ((bF l0 x21_1).f0), .int .i64 ((bF l0 x21_1).f1), .string (⟨#[]⟩ : ByteArray)]) ?_ 2 _ rfl; (with_reducible repeat (first | refine aG ?_ _ | refine aJ ?_ | refine aE ?_ _)); refine bJ (cs := #[.int .i64 ((bF l0 x21_1).f0), .int .i64 0, .string (⟨#[]⟩ : ByteArray)]) ?_ 1 _ rfl; (with_reducible repeat (first | refine aG ?_ _ | refine aJ ?_ | refine aE ?_ _)); refine bJ (cs := #[.int .i64 0, .int .i64 0, .string (⟨#[]⟩ : ByteArray)]) ?_ 0 _ rfl; (with_reducible repeat (first | refine aG ?_ _ | refine aJ ?_ | refine aE ?_ _)); exact BK194.out) hb); have n3_ := mk_ (aI (Short.hB HB) hb); clear HO_5 BK194 HB; revert n0_ n1_ n2_ n3_; intro HO_5 HO197 BK194 HB; (try clear hb ho0); obtain ⟨Ao16, co16, eo16⟩ := dH HO197.out; subst eo16) | ((with_reducible refine cJ (b := .append) (xs := #[.tmp 30, .tmp 31]) rfl ?_); at_builtin; refine fK (Kd.int .u8) (w0 := w) w.heap.size rfl (.tmp 30) (.tmp 31) 22 5 (.int .u8 0) 1 rfl Try.underlying22 info5 rfl z4_ z2_ u5 x5_1 t195 _ _ _ (fun k_ => nb_ k_ (.slice Ao16 t195.length co16)) (fun _ => False) rfl rfl ?aO ?aR (fun _ _ h => h) (fun _ h => h.elim) ?aF ?aB ?aS ?aL ?_; (case aR => exact cX_ (R_reads' HO197.out).2.2); (case aB => exact (Short.hB HB)); (case aF => exact (fun k_ hk => Kd.fresh' (R_lt (ZKR HO197)) k_ hk)); (case aO => exact (rM_ HO_5 (fun _ hk => hk.2))); (case aS => exact (aN (Short.hB HB))); (case aL => have := LMc11.out; omega); intro v200 w15 ho hb hg hat; rw [← Ny199.out] at ho; have n0_ := mk_ (gM (g := gb194) (o := .cells #[.int .i64 ((bF l0 x21_1).f0), .int .i64 ((bF l0 x21_1).f1), .string ((bF l0 x21_1).f2)] 89 (0, 0)) (Short.bK BK194) hg (R_ne HO_5.out BK194.out z4_)); have n1_ := mk_ (R_after (ok := (fun _ => True)) (ZKR HO197) hg hat); have n2_ := mk_ (hb); have n3_ := mk_ (ho); clear BK194 HO197 HB HO_5; revert n0_ n1_ n2_ n3_; intro BK194 HO197 HB HO201; clear ho hb hg hat))
   go_roundg k1
   case measure => have := HK1.out; omega
   case rel => exact ⟨(y199), (wrap64 (x21_1 + 1)), z3_, H', ⟨by have := HK1.out; omega⟩, ⟨by (with_reducible repeat (first | apply R_alloc | apply R_drewN | apply R_drew)); exact R_mono HO201.out (fun _ hk => trivial)⟩, ⟨Short.hB HB⟩⟩
def dU.l0 : Nat → Int → List Int → Int → Int → Option (Int)
 | 0, _, _, _, _ => none
 | k + 1, x3, x6, x7, x8 => if x8 < x7 then (if 0 ≤ x8 then (if x8 < (x6.length : Int) then (dU.l0 k (Go.bits .or .u64 (IntKind.u64.wrap (x3 * 256)) (IntKind.u64.wrap (rd x6 x8))) x6 x7 (wrap64 (x8 + 1))) else (none)) else (none)) else (some x3)
def dU.f (k : Nat) (l0 : List Int) : Option (Int) := dU.l0 k 0 l0 (l0.length : Int) 0
theorem dU.calls (k : Nat) (A0 : Option Addr) (c0 : Nat) (l0 : List Int) (r : Int) (w : World) (hr0 : Kd.C (Kd.int .u8) w A0 l0.length l0) (hc0 : l0.length ≤ c0) (h : dU.f k l0 = some r) :
  Calls Try.prog 95 #[.slice A0 l0.length c0] w fun e w' => e = .returned (.int .u64 r) ∧ Drawn0 w w' := by
 have HR0 := mk_ hr0
 have HC0 := mk_ hc0
 clear hr0 hc0
 have H : (dU.l0 k 0 l0 (l0.length : Int) 0) = some r := h
 clear h
 have H' := mk_ H
 clear H
 go_enter Try.func95, Try.ntmps95
 go_wp2
 go_loopg [3, 8] k (fun kq v3 v8 w' => ∃ (x3_1 : Int) (x8_1 : Int), v3 = .int .u64 x3_1 ∧ v8 = .int .i64 x8_1 ∧ Aside0 (dU.l0 kq x3_1 l0 (l0.length : Int) x8_1 = some r) ∧ Aside0 (kq ≤ k) ∧ Drawn0 w w')
 case atStart => exact ⟨(0), (0), z3_, z3_, H', ⟨Nat.le_refl _⟩, by repeat (first | exact Drawn0.refl _ | apply Drawn0.step)⟩
 case round =>
  clear H'
  obtain ⟨x3_1, x8_1, rfl, rfl, HA, HK1, ⟨m1, rfl⟩⟩ := hrel
  cases gk with
  | zero => exact absurd HA.out (by simp [dU.l0])
  | succ k1 =>
   have H := HA.out
   clear HA
   simp only [dU.l0] at H
   by_cases c2 : x8_1 < (l0.length : Int)
   rotate_left
   ·
    rw [if_neg c2] at H
    have c2b0 : decide (x8_1 < (l0.length : Int)) = false := decide_eq_false c2
    clear c2
    obtain rfl := Option.some.inj H
    go_wp2
    go_ret
    exact ⟨z3_, by repeat (first | exact Drawn0.refl _ | apply Drawn0.step)⟩
   rw [if_pos c2] at H
   have c2b0 : decide (x8_1 < (l0.length : Int)) = true := decide_eq_true c2
   clear c2
   by_cases c3 : 0 ≤ x8_1
   rotate_left
   ·
    rw [if_neg c3] at H
    exact absurd H (by simp)
   rw [if_pos c3] at H
   have c3b0 : decide (0 ≤ x8_1) = true := decide_eq_true c3
   clear c3
   by_cases c4 : x8_1 < (l0.length : Int)
   rotate_left
   ·
    rw [if_neg c4] at H
    exact absurd H (by simp)
   rw [if_pos c4] at H
   have c4b0 : decide (x8_1 < (l0.length : Int)) = true := decide_eq_true c4
   clear c4
   have H' := mk_ H
   clear H
   have p203 : 0 ≤ (x8_1 : Int) := of_decide_eq_true z0_
   have q203 : x8_1 < (l0.length : Int) := of_decide_eq_true z0_
   obtain ⟨ad203, e203, hx203_0⟩ := Kd.at_int HR0.out x8_1 p203 q203
   cases e203
   replace p203 := eq_true p203
   replace q203 := eq_true q203
   go_wp2
   go_roundg k1
   case measure => have := HK1.out; omega
   case rel => exact ⟨(Go.bits .or .u64 (IntKind.u64.wrap (x3_1 * 256)) (IntKind.u64.wrap (rd l0 x8_1))), (wrap64 (x8_1 + 1)), z3_, z3_, H', ⟨by have := HK1.out; omega⟩, by repeat (first | exact Drawn0.refl _ | apply Drawn0.step)⟩
def wire_Get.j0 : Nat → List Int → Int → Int → Bool → Option (Int × Int × Int)
 | 0, _, _, _, _ => none
 | k + 1, x0, x1, x2, x9 => if x9 = true then (some (0, 0, 1)) else (if (wrap64 ((x0.length : Int) - x1)) < x2 then (some (0, 0, 3)) else (if 0 ≤ x1 then (if x1 ≤ (wrap64 (x1 + x2)) then (if (wrap64 (x1 + x2)) ≤ (x0.length : Int) then ((dU.f k ((x0.take ((wrap64 (x1 + x2)) : Int).toNat).drop (x1 : Int).toNat)).bind fun t205 => (some (wrap64 (t205), wrap64 (x1 + x2), 0))) else (none)) else (none)) else (none)))
def wire_Get.f (k : Nat) (l0 : List Int) (a1 : Int) (a2 : Int) : Option (Int × Int × Int) := if a2 < 1 then (wire_Get.j0 k l0 a1 a2 true) else (if a2 > 7 then (wire_Get.j0 k l0 a1 a2 true) else (if a1 < 0 then (wire_Get.j0 k l0 a1 a2 true) else (wire_Get.j0 k l0 a1 a2 (decide (a1 > (l0.length : Int))))))
theorem wire_Get.calls (k : Nat) (A0 : Option Addr) (c0 : Nat) (l0 : List Int) (a1 : Int) (a2 : Int) (r1 : Int) (r2 : Int) (r3 : Int) (w : World) (hr0 : Kd.C (Kd.int .u8) w A0 l0.length l0) (hc0 : l0.length ≤ c0) (h : wire_Get.f k l0 a1 a2 = some (r1, r2, r3)) :
  Calls Try.prog 72 #[.slice A0 l0.length c0, .int .i64 a1, .int .i64 a2] w fun e w' => e = .returned (.tuple #[.int .i64 r1, .int .i64 r2, .int .i64 r3]) ∧ Drawn0 w w' := by
 have HR0 := mk_ hr0
 have HC0 := mk_ hc0
 clear hr0 hc0
 have H : (if a2 < 1 then (wire_Get.j0 k l0 a1 a2 true) else (if a2 > 7 then (wire_Get.j0 k l0 a1 a2 true) else (if a1 < 0 then (wire_Get.j0 k l0 a1 a2 true) else (wire_Get.j0 k l0 a1 a2 (decide (a1 > (l0.length : Int))))))) = some (r1, r2, r3) := h
 clear h
 have HC4 := mk_ H
 clear H
 go_enter Try.func72, Try.ntmps72
 go_upto_region 1 with (fail)
 go_cut [9] (fun v9 wc => ∃ (kq : Nat) (x9_3 : Bool), v9 = .bool x9_3 ∧ Aside0 (wire_Get.j0 kq l0 a1 a2 x9_3 = some (r1, r2, r3)) ∧ Aside0 (kq ≤ k) ∧ Drawn0 w wc)
 case first =>
  have H := HC4.out
  clear HC4
  by_cases c5 : a2 < 1
  ·
   rw [if_pos c5] at H
   have c5b0 : decide (a2 < 1) = true := decide_eq_true c5
   clear c5
   (first | rw [c5b0] | (simp only [i64_w, i32_w]; rw [c5b0]) | skip)
   have H' := mk_ H
   clear H
   go_wp2
   go_meet
   case rel => exact ⟨_, (true), z3_, H', ⟨by first | omega | exact Nat.le_refl _⟩, by repeat (first | exact Drawn0.refl _ | apply Drawn0.step)⟩
  rw [if_neg c5] at H
  have c5b0 : decide (a2 < 1) = false := decide_eq_false c5
  clear c5
  (first | rw [c5b0] | (simp only [i64_w, i32_w]; rw [c5b0]) | skip)
  by_cases c6 : a2 > 7
  ·
   rw [if_pos c6] at H
   have c6b0 : decide (7 < a2) = true := decide_eq_true c6
   clear c6
   have H' := mk_ H
   clear H
   go_wp2
   go_meet
   case rel => exact ⟨_, (true), z3_, H', ⟨by first | omega | exact Nat.le_refl _⟩, by repeat (first | exact Drawn0.refl _ | apply Drawn0.step)⟩
  rw [if_neg c6] at H
  have c6b0 : decide (7 < a2) = false := decide_eq_false c6
  clear c6
  by_cases c7 : a1 < 0
  ·
   rw [if_pos c7] at H
   have c7b0 : decide (a1 < 0) = true := decide_eq_true c7
   clear c7
   have H' := mk_ H
   clear H
   go_wp2
   go_meet
   case rel => exact ⟨_, (true), z3_, H', ⟨by first | omega | exact Nat.le_refl _⟩, by repeat (first | exact Drawn0.refl _ | apply Drawn0.step)⟩
  rw [if_neg c7] at H
  have c7b0 : decide (a1 < 0) = false := decide_eq_false c7
  clear c7
  have H' := mk_ H
  clear H
  go_wp2
  go_meet
  case rel => exact ⟨_, (decide (a1 > (l0.length : Int))), z3_, H', ⟨by first | omega | exact Nat.le_refl _⟩, by repeat (first | exact Drawn0.refl _ | apply Drawn0.step)⟩
 case rest => as_aux_lemma =>
  clear HC4
  obtain ⟨kq, x9_3, rfl, HA, HJ3, ⟨mc3, rfl⟩⟩ := hcut
  cases kq with
  | zero => exact absurd HA.out (by simp [wire_Get.j0])
  | succ kj3 =>
   have H := HA.out
   clear HA
   simp only [wire_Get.j0] at H
   by_cases c8 : x9_3 = true
   ·
    subst c8
    rw [if_pos rfl] at H
    simp only [Option.some.injEq, Prod.mk.injEq] at H
    obtain ⟨rfl, rfl, rfl⟩ := H
    go_wp2
    go_ret3
    exact ⟨z3_, by repeat (first | exact Drawn0.refl _ | apply Drawn0.step)⟩
   ·
    replace c8 := Bool.eq_false_iff.mpr c8
    subst c8
    rw [if_neg (show ¬ (false = true) by decide)] at H
    by_cases c9 : (wrap64 ((l0.length : Int) - a1)) < a2
    ·
     rw [if_pos c9] at H
     have c9b0 : decide ((wrap64 ((l0.length : Int) - a1)) < a2) = true := decide_eq_true c9
     clear c9
     simp only [Option.some.injEq, Prod.mk.injEq] at H
     obtain ⟨rfl, rfl, rfl⟩ := H
     go_wp2
     go_ret3
     exact ⟨z3_, by repeat (first | exact Drawn0.refl _ | apply Drawn0.step)⟩
    ·
     rw [if_neg c9] at H
     have c9b0 : decide ((wrap64 ((l0.length : Int) - a1)) < a2) = false := decide_eq_false c9
     clear c9
     by_cases c10 : 0 ≤ a1
     ·
      rw [if_pos c10] at H
      have c10b0 := eq_true c10
      have c10b1 : decide (0 ≤ a1) = true := decide_eq_true c10
      clear c10
      by_cases c11 : a1 ≤ (wrap64 (a1 + a2))
      ·
       rw [if_pos c11] at H
       have c11b0 := eq_true c11
       have c11b1 : decide (a1 ≤ (wrap64 (a1 + a2))) = true := decide_eq_true c11
       by_cases c12 : (wrap64 (a1 + a2)) ≤ (l0.length : Int)
       ·
        rw [if_pos c12] at H
        have c12b0 := eq_true c12
        have c12b1 : decide ((wrap64 (a1 + a2)) ≤ (l0.length : Int)) = true := decide_eq_true c12
        obtain ⟨t205, A13, H⟩ := Option.bind_eq_some_iff.mp H
        replace A13 := mk_ A13
        simp only [Option.some.injEq, Prod.mk.injEq] at H
        obtain ⟨rfl, rfl, rfl⟩ := H
        obtain ⟨i014, hi014, _, hsz14, _⟩ := info_parts info5
        obtain ⟨A14, hcut14, hA14, hC14⟩ := iL (P := Try.prog) (Value.int .u8) 0 22 5 .i64 .i64 Try.underlying22 hi014 hsz14 A0 c0 l0 a1 (wrap64 (a1 + a2)) (of_decide_eq_true z0_) (by first | omega | exact of_decide_eq_true z0_) (of_decide_eq_true z0_) HC0.out
        have HR204 := mk_ (jV (h1 := fun _ => rfl) (hA14 _ (Kd.reads_of_C HR0.out)))
        have HC204 := mk_ hC14
        clear hA14 hC14 hi014 hsz14
        go_wp2_with (first | ((with_reducible refine aT (f := 95) rfl ?_); refine iN (some 39) rfl rfl Try.func95 z1_ rfl #[.slice A14 ((l0.take ((wrap64 (a1 + a2)) : Int).toNat).drop (a1 : Int).toNat).length (c0 - a1.toNat)] rfl (by (try simp only [List.map_toArray, List.map_cons, List.map_nil]); first | done | (rw [show ((l0.take ((wrap64 (a1 + a2)) : Int).toNat).drop (a1 : Int).toNat).length = ((wrap64 (a1 + a2)).toNat - a1.toNat) from (by rw [List.length_drop, List.length_take]; have h_ : ((wrap64 (a1 + a2)) : Int) ≤ (l0.length : Int) := of_decide_eq_true z0_; omega)] <;> rfl) | rfl | (simp only [List.length_drop, List.length_take]; rfl) | (go_simp; done) | (simp; done)) ?_; (with_reducible refine (dU.calls kj3 _ _ ((l0.take ((wrap64 (a1 + a2)) : Int).toNat).drop (a1 : Int).toNat) t205 _ ?side1 ?side2 A13.out).mono ?_); (case side1 => repeat (first | exact HR204.out | (with_reducible refine C_alloc ?_ _) | (with_reducible refine C_drewN ?_ _) | (with_reducible refine C_drew ?_))); (case side2 => exact HC204.out); rintro e w' ⟨rfl, ⟨nd, rfl⟩⟩; refine ⟨_, rfl, ?_⟩))
        go_ret3
        exact ⟨z3_, by repeat (first | exact Drawn0.refl _ | apply Drawn0.step)⟩
       ·
        rw [if_neg c12] at H
        exact absurd H (by simp)
      ·
       rw [if_neg c11] at H
       exact absurd H (by simp)
     ·
      rw [if_neg c10] at H
      exact absurd H (by simp)
def wire_GetText.j0 : Nat → List Int → Int → Bool → Option (ByteArray × Int × Int)
 | 0, _, _, _ => none
 | k + 1, x0, x1, x7 => if x7 = true then (some ((⟨#[]⟩ : ByteArray), 0, 1)) else (if x1 = (x0.length : Int) then (some ((⟨#[]⟩ : ByteArray), 0, 3)) else (if 0 ≤ x1 then (if x1 < (x0.length : Int) then (if (wrap64 (rd x0 x1)) > 24 then (some ((⟨#[]⟩ : ByteArray), 0, 3)) else (if (wrap64 ((wrap64 ((x0.length : Int) - x1)) - 1)) < (wrap64 (rd x0 x1)) then (some ((⟨#[]⟩ : ByteArray), 0, 3)) else (if 0 ≤ (wrap64 (x1 + 1)) then (if (wrap64 (x1 + 1)) ≤ (wrap64 ((wrap64 (x1 + 1)) + (wrap64 (rd x0 x1)))) then (if (wrap64 ((wrap64 (x1 + 1)) + (wrap64 (rd x0 x1)))) ≤ (x0.length : Int) then (some (strOfNums ((x0.take ((wrap64 ((wrap64 (x1 + 1)) + (wrap64 (rd x0 x1)))) : Int).toNat).drop ((wrap64 (x1 + 1)) : Int).toNat), wrap64 ((wrap64 (x1 + 1)) + (wrap64 (rd x0 x1))), 0)) else (none)) else (none)) else (none)))) else (none)) else (none)))
def wire_GetText.f (k : Nat) (l0 : List Int) (a1 : Int) : Option (ByteArray × Int × Int) := if a1 < 0 then (wire_GetText.j0 k l0 a1 true) else (wire_GetText.j0 k l0 a1 (decide (a1 > (l0.length : Int))))
theorem wire_GetText.calls (k : Nat) (A0 : Option Addr) (c0 : Nat) (l0 : List Int) (a1 : Int) (r1 : ByteArray) (r2 : Int) (r3 : Int) (w : World) (hr0 : Kd.C (Kd.int .u8) w A0 l0.length l0) (hc0 : l0.length ≤ c0) (h : wire_GetText.f k l0 a1 = some (r1, r2, r3)) :
  Calls Try.prog 96 #[.slice A0 l0.length c0, .int .i64 a1] w fun e w' => e = .returned (.tuple #[.string r1, .int .i64 r2, .int .i64 r3]) ∧ Drawn0 w w' := by
 have HR0 := mk_ hr0
 have HC0 := mk_ hc0
 clear hr0 hc0
 have H : (if a1 < 0 then (wire_GetText.j0 k l0 a1 true) else (wire_GetText.j0 k l0 a1 (decide (a1 > (l0.length : Int))))) = some (r1, r2, r3) := h
 clear h
 have HC3 := mk_ H
 clear H
 go_enter Try.func96, Try.ntmps96
 go_upto_region 1 with (fail)
 go_cut [7] (fun v7 wc => ∃ (kq : Nat) (x7_2 : Bool), v7 = .bool x7_2 ∧ Aside0 (wire_GetText.j0 kq l0 a1 x7_2 = some (r1, r2, r3)) ∧ Aside0 (kq ≤ k) ∧ Drawn0 w wc)
 case first =>
  have H := HC3.out
  clear HC3
  by_cases c4 : a1 < 0
  ·
   rw [if_pos c4] at H
   have c4b0 : decide (a1 < 0) = true := decide_eq_true c4
   clear c4
   (first | rw [c4b0] | (simp only [i64_w, i32_w]; rw [c4b0]) | skip)
   have H' := mk_ H
   clear H
   go_wp2
   go_meet
   case rel => exact ⟨_, (true), z3_, H', ⟨by first | omega | exact Nat.le_refl _⟩, by repeat (first | exact Drawn0.refl _ | apply Drawn0.step)⟩
  rw [if_neg c4] at H
  have c4b0 : decide (a1 < 0) = false := decide_eq_false c4
  clear c4
  (first | rw [c4b0] | (simp only [i64_w, i32_w]; rw [c4b0]) | skip)
  have H' := mk_ H
  clear H
  go_wp2
  go_meet
  case rel => exact ⟨_, (decide (a1 > (l0.length : Int))), z3_, H', ⟨by first | omega | exact Nat.le_refl _⟩, by repeat (first | exact Drawn0.refl _ | apply Drawn0.step)⟩
 case rest => as_aux_lemma =>
  clear HC3
  obtain ⟨kq, x7_2, rfl, HA, HJ2, ⟨mc2, rfl⟩⟩ := hcut
  cases kq with
  | zero => exact absurd HA.out (by simp [wire_GetText.j0])
  | succ kj2 =>
   have H := HA.out
   clear HA
   simp only [wire_GetText.j0] at H
   by_cases c5 : x7_2 = true
   ·
    subst c5
    rw [if_pos rfl] at H
    simp only [Option.some.injEq, Prod.mk.injEq] at H
    obtain ⟨rfl, rfl, rfl⟩ := H
    go_wp2
    go_ret3
    exact ⟨z3_, by repeat (first | exact Drawn0.refl _ | apply Drawn0.step)⟩
   ·
    replace c5 := Bool.eq_false_iff.mpr c5
    subst c5
    rw [if_neg (show ¬ (false = true) by decide)] at H
    by_cases c6 : a1 = (l0.length : Int)
    ·
     rw [if_pos c6] at H
     have c6b0 : (a1 == (l0.length : Int)) = true := beq_iff_eq.mpr c6
     have c6b1 : (a1 != (l0.length : Int)) = false := bne_eq_false_iff_eq.mpr c6
     clear c6
     simp only [Option.some.injEq, Prod.mk.injEq] at H
     obtain ⟨rfl, rfl, rfl⟩ := H
     go_wp2
     go_ret3
     exact ⟨z3_, by repeat (first | exact Drawn0.refl _ | apply Drawn0.step)⟩
    ·
     rw [if_neg c6] at H
     have c6b0 : (a1 == (l0.length : Int)) = false := beq_eq_false_iff_ne.mpr c6
     have c6b1 : (a1 != (l0.length : Int)) = true := bne_iff_ne.mpr c6
     by_cases c7 : 0 ≤ a1
     ·
      rw [if_pos c7] at H
      have c7b0 : decide (0 ≤ a1) = true := decide_eq_true c7
      clear c7
      by_cases c8 : a1 < (l0.length : Int)
      ·
       rw [if_pos c8] at H
       have c8b0 : decide (a1 < (l0.length : Int)) = true := decide_eq_true c8
       clear c8
       by_cases c9 : (wrap64 (rd l0 a1)) > 24
       ·
        rw [if_pos c9] at H
        have c9b0 : decide (24 < (wrap64 (rd l0 a1))) = true := decide_eq_true c9
        clear c9
        simp only [Option.some.injEq, Prod.mk.injEq] at H
        obtain ⟨rfl, rfl, rfl⟩ := H
        have p206 : 0 ≤ (a1 : Int) := of_decide_eq_true z0_
        have q206 : a1 < (l0.length : Int) := of_decide_eq_true z0_
        obtain ⟨ad206, e206, hx206_0⟩ := Kd.at_int HR0.out a1 p206 q206
        cases e206
        replace p206 := eq_true p206
        replace q206 := eq_true q206
        go_wp2
        go_ret3
        exact ⟨z3_, by repeat (first | exact Drawn0.refl _ | apply Drawn0.step)⟩
       ·
        rw [if_neg c9] at H
        have c9b0 : decide (24 < (wrap64 (rd l0 a1))) = false := decide_eq_false c9
        clear c9
        by_cases c10 : (wrap64 ((wrap64 ((l0.length : Int) - a1)) - 1)) < (wrap64 (rd l0 a1))
        ·
         rw [if_pos c10] at H
         have c10b0 : decide ((wrap64 ((wrap64 ((l0.length : Int) - a1)) - 1)) < (wrap64 (rd l0 a1))) = true := decide_eq_true c10
         clear c10
         simp only [Option.some.injEq, Prod.mk.injEq] at H
         obtain ⟨rfl, rfl, rfl⟩ := H
         have p206 : 0 ≤ (a1 : Int) := of_decide_eq_true z0_
         have q206 : a1 < (l0.length : Int) := of_decide_eq_true z0_
         obtain ⟨ad206, e206, hx206_0⟩ := Kd.at_int HR0.out a1 p206 q206
         cases e206
         replace p206 := eq_true p206
         replace q206 := eq_true q206
         have p207 : 0 ≤ (a1 : Int) := of_decide_eq_true z0_
         have q207 : a1 < (l0.length : Int) := of_decide_eq_true z0_
         obtain ⟨ad207, e207, hx207_0⟩ := Kd.at_int HR0.out a1 p207 q207
         obtain rfl : ad206 = ad207 := (by injection e207)
         replace p207 := eq_true p207
         replace q207 := eq_true q207
         go_wp2
         go_ret3
         exact ⟨z3_, by repeat (first | exact Drawn0.refl _ | apply Drawn0.step)⟩
        ·
         rw [if_neg c10] at H
         have c10b0 : decide ((wrap64 ((wrap64 ((l0.length : Int) - a1)) - 1)) < (wrap64 (rd l0 a1))) = false := decide_eq_false c10
         clear c10
         obtain ⟨ji11, hji11⟩ : ∃ j_ : Int, (wrap64 (a1 + 1)) = j_ := ⟨_, rfl⟩
         replace H : (if 0 ≤ (ji11) then (if (ji11) ≤ (wrap64 ((ji11) + (wrap64 (rd l0 a1)))) then (if (wrap64 ((ji11) + (wrap64 (rd l0 a1)))) ≤ (l0.length : Int) then (some (strOfNums ((l0.take ((wrap64 ((ji11) + (wrap64 (rd l0 a1)))) : Int).toNat).drop ((ji11) : Int).toNat), wrap64 ((ji11) + (wrap64 (rd l0 a1))), 0)) else (none)) else (none)) else (none)) = some (r1, r2, r3) := by first | (rw [hji11] at H; exact H) | (simp only [hji11] at H ⊢; exact H)
         have hji11w : (IntKind.i64.wrap (a1 + 1)) = ji11 := (i64_w _).trans hji11
         by_cases c12 : 0 ≤ (ji11)
         ·
          rw [if_pos c12] at H
          have c12b0 := eq_true c12
          have c12b1 : decide (0 ≤ (ji11)) = true := decide_eq_true c12
          clear c12
          by_cases c13 : (ji11) ≤ (wrap64 ((ji11) + (wrap64 (rd l0 a1))))
          ·
           rw [if_pos c13] at H
           have c13b0 := eq_true c13
           have c13b1 : decide ((ji11) ≤ (wrap64 ((ji11) + (wrap64 (rd l0 a1))))) = true := decide_eq_true c13
           by_cases c14 : (wrap64 ((ji11) + (wrap64 (rd l0 a1)))) ≤ (l0.length : Int)
           ·
            rw [if_pos c14] at H
            have c14b0 := eq_true c14
            have c14b1 : decide ((wrap64 ((ji11) + (wrap64 (rd l0 a1)))) ≤ (l0.length : Int)) = true := decide_eq_true c14
            simp only [Option.some.injEq, Prod.mk.injEq] at H
            obtain ⟨rfl, rfl, rfl⟩ := H
            have p206 : 0 ≤ (a1 : Int) := of_decide_eq_true z0_
            have q206 : a1 < (l0.length : Int) := of_decide_eq_true z0_
            obtain ⟨ad206, e206, hx206_0⟩ := Kd.at_int HR0.out a1 p206 q206
            cases e206
            replace p206 := eq_true p206
            replace q206 := eq_true q206
            have p207 : 0 ≤ (a1 : Int) := of_decide_eq_true z0_
            have q207 : a1 < (l0.length : Int) := of_decide_eq_true z0_
            obtain ⟨ad207, e207, hx207_0⟩ := Kd.at_int HR0.out a1 p207 q207
            obtain rfl : ad206 = ad207 := (by injection e207)
            replace p207 := eq_true p207
            replace q207 := eq_true q207
            have p208 : 0 ≤ (a1 : Int) := of_decide_eq_true z0_
            have q208 : a1 < (l0.length : Int) := of_decide_eq_true z0_
            obtain ⟨ad208, e208, hx208_0⟩ := Kd.at_int HR0.out a1 p208 q208
            obtain rfl : ad206 = ad208 := (by injection e208)
            replace p208 := eq_true p208
            replace q208 := eq_true q208
            obtain ⟨i015, hi015, _, hsz15, _⟩ := info_parts info5
            obtain ⟨A15, hcut15, hA15, hC15⟩ := iL (P := Try.prog) (Value.int .u8) 0 22 5 .i64 .i64 Try.underlying22 hi015 hsz15 (some ad206) c0 l0 (ji11) (wrap64 ((ji11) + (wrap64 (rd l0 a1)))) (of_decide_eq_true z0_) (by first | omega | exact of_decide_eq_true z0_) (of_decide_eq_true z0_) HC0.out
            have HR209 := mk_ (jV (h1 := fun _ => rfl) (hA15 _ (Kd.reads_of_C HR0.out)))
            have HC209 := mk_ hC15
            clear hA15 hC15 hi015 hsz15
            have hcv16 := C_string (P := Try.prog) (A := A15) (c := (c0 - (ji11).toNat)) Try.underlying22 Try.underlying5 Try.underlying9 HR209.out
            have hcv17 : ∀ (m_ n_ : Nat), n_ = ((l0.take ((wrap64 ((ji11) + (wrap64 (rd l0 a1)))) : Int).toNat).drop ((ji11) : Int).toNat).length → (convert 22 9 (.slice A15 n_ (c0 - (ji11).toNat))).run Try.prog (w.drewN m_) = .ok (.string (strOfNums ((l0.take ((wrap64 ((ji11) + (wrap64 (rd l0 a1)))) : Int).toNat).drop ((ji11) : Int).toNat))) (w.drewN m_) := fun m_ n_ h_ => by rw [h_]; exact C_string Try.underlying22 Try.underlying5 Try.underlying9 (C_drewN HR209.out m_)
            go_wp2
            go_ret3
            exact ⟨by first | rfl | (simp; done) | (simp only [← hji11] <;> (first | rfl | simp)) | (simp [*]; done), by repeat (first | exact Drawn0.refl _ | apply Drawn0.step)⟩
           ·
            rw [if_neg c14] at H
            exact absurd H (by simp)
          ·
           rw [if_neg c13] at H
           exact absurd H (by simp)
         ·
          rw [if_neg c12] at H
          exact absurd H (by simp)
      ·
       rw [if_neg c8] at H
       exact absurd H (by simp)
     ·
      rw [if_neg c7] at H
      exact absurd H (by simp)
end Go.Proofs.Ytcbfliajgopdaaa.PAll
end
