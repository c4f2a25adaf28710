-- Put together by a program of this session (wip/slice2.py) out of the seat's texts.
import Derived.Test.YtcbfliajgopdaaaZSUp4

set_option maxHeartbeats 8000000
set_option maxRecDepth 100000
open Go.Proofs.YtcbfliajgopdaaaW Go.Proofs.Ytcbfliajgopdaaa
section
namespace Go.Proofs.Ytcbfliajgopdaaa.PAll
open Go.RowKit PrintWords PrintLast PrintMore ZipT PrintWords.Kd PrintMore.Kd
attribute [local go_sem] eC eA eN eR dR dP eD eB   -- for this text's walks alone
set_option linter.unusedVariables false
set_option linter.unusedSimpArgs false
mutual
def aD.j0 : Nat → Bool → List Int → Int → Int → Int → List (List (S80)) → List (List Int) → List (S54) → Option (Bool)
 | 0, _, _, _, _, _, _, _, _ => none
 | k + 1, x37, x408000, x408001, x408002, x408003, x408004, x408005, x408006 => if x37 = true then (some false) else (aD.l0 k 0 x408000 x408001 x408002 x408003 x408004 x408005 x408006)
def aD.l0 : Nat → Int → List Int → Int → Int → Int → List (List (S80)) → List (List Int) → List (S54) → Option (Bool)
 | 0, _, _, _, _, _, _, _, _ => none
 | k + 1, x3, x408000, x408001, x408002, x408003, x408004, x408005, x408006 => if x3 < (x408005.length : Int) then (if 0 ≤ x3 then ((bV.f k (dS x408005 x3)).bind fun t411 => (if t411 = true then (aD.l0 k (wrap64 (x3 + 1)) x408000 x408001 x408002 x408003 x408004 x408005 x408006) else (some false))) else (none)) else (aD.l1 k 0 x408000 x408001 x408002 x408003 x408004 x408005 x408006)
def aD.l1 : Nat → Int → List Int → Int → Int → Int → List (List (S80)) → List (List Int) → List (S54) → Option (Bool)
 | 0, _, _, _, _, _, _, _, _ => none
 | k + 1, x4, x408000, x408001, x408002, x408003, x408004, x408005, x408006 => if x4 < (x408006.length : Int) then (if 0 ≤ x4 then ((dK.f ((aK x408006 x4).f0.f0) ((aK x408006 x4).f0.f1) ((aK x408006 x4).f1) ((aK x408006 x4).f2.f0) ((aK x408006 x4).f2.f1) ((aK x408006 x4).f2.f2) ((aK x408006 x4).f3) ((aK x408006 x4).f4) ((aK x408006 x4).f5) ((aK x408006 x4).f6) ((aK x408006 x4).f7) ((aK x408006 x4).f8)).bind fun t413 => (if t413 = true then (aD.l1 k (wrap64 (x4 + 1)) x408000 x408001 x408002 x408003 x408004 x408005 x408006) else (some false))) else (none)) else (aD.l2 k 0 x408000 x408001 x408002 x408003 x408004 x408005 x408006)
def aD.l2 : Nat → Int → List Int → Int → Int → Int → List (List (S80)) → List (List Int) → List (S54) → Option (Bool)
 | 0, _, _, _, _, _, _, _, _ => none
 | k + 1, x5, x408000, x408001, x408002, x408003, x408004, x408005, x408006 => if x5 < (x408004.length : Int) then (if 0 ≤ x5 then (if ((aX x408004 x5).length : Int) > 65535 then (some false) else (aD.l3 k x5 0 x408000 x408001 x408002 x408003 x408004 x408005 x408006)) else (none)) else (some true)
def aD.l3 : Nat → Int → Int → List Int → Int → Int → Int → List (List (S80)) → List (List Int) → List (S54) → Option (Bool)
 | 0, _, _, _, _, _, _, _, _, _ => none
 | k + 1, x5, x6, x408000, x408001, x408002, x408003, x408004, x408005, x408006 => if 0 ≤ x5 then (if x5 < (x408004.length : Int) then (if x6 < ((aX x408004 x5).length : Int) then (if 0 ≤ x6 then (if (((aU (aX x408004 x5) x6).f0).size : Int) > 24 then (aD.j5 k x5 x6 true x408000 x408001 x408002 x408003 x408004 x408005 x408006 ((aU (aX x408004 x5) x6).f0) ((aU (aX x408004 x5) x6).f1) ((aU (aX x408004 x5) x6).f2)) else (if (((aU (aX x408004 x5) x6).f1).length : Int) > 255 then (aD.j5 k x5 x6 true x408000 x408001 x408002 x408003 x408004 x408005 x408006 ((aU (aX x408004 x5) x6).f0) ((aU (aX x408004 x5) x6).f1) ((aU (aX x408004 x5) x6).f2)) else (aD.j5 k x5 x6 (decide ((((aU (aX x408004 x5) x6).f2).length : Int) > 255)) x408000 x408001 x408002 x408003 x408004 x408005 x408006 ((aU (aX x408004 x5) x6).f0) ((aU (aX x408004 x5) x6).f1) ((aU (aX x408004 x5) x6).f2)))) else (none)) else (aD.l2 k (wrap64 (x5 + 1)) x408000 x408001 x408002 x408003 x408004 x408005 x408006)) else (none)) else (none)
def aD.j5 : Nat → Int → Int → Bool → List Int → Int → Int → Int → List (List (S80)) → List (List Int) → List (S54) → ByteArray → List (S50) → List (S91) → Option (Bool)
 | 0, _, _, _, _, _, _, _, _, _, _, _, _, _ => none
 | k + 1, x5, x6, x113, x408000, x408001, x408002, x408003, x408004, x408005, x408006, x419000, x419001, x419002 => if x113 = true then (some false) else (aD.l4 k x5 x6 0 x408000 x408001 x408002 x408003 x408004 x408005 x408006 x419000 x419001 x419002)
def aD.l4 : Nat → Int → Int → Int → List Int → Int → Int → Int → List (List (S80)) → List (List Int) → List (S54) → ByteArray → List (S50) → List (S91) → Option (Bool)
 | 0, _, _, _, _, _, _, _, _, _, _, _, _, _ => none
 | k + 1, x5, x6, x8, x408000, x408001, x408002, x408003, x408004, x408005, x408006, x419000, x419001, x419002 => if x8 < (x419001.length : Int) then (if 0 ≤ x8 then ((cQ.f ((cL x419001 x8).f0) ((cL x419001 x8).f1)).bind fun t420 => (if t420 = true then (aD.l4 k x5 x6 (wrap64 (x8 + 1)) x408000 x408001 x408002 x408003 x408004 x408005 x408006 x419000 x419001 x419002) else (some false))) else (none)) else (aD.l5 k x5 x6 0 x408000 x408001 x408002 x408003 x408004 x408005 x408006 x419000 x419001 x419002)
def aD.l5 : Nat → Int → Int → Int → List Int → Int → Int → Int → List (List (S80)) → List (List Int) → List (S54) → ByteArray → List (S50) → List (S91) → Option (Bool)
 | 0, _, _, _, _, _, _, _, _, _, _, _, _, _ => none
 | k + 1, x5, x6, x9, x408000, x408001, x408002, x408003, x408004, x408005, x408006, x419000, x419001, x419002 => if x9 < (x419002.length : Int) then (if 0 ≤ x9 then ((cX.f ((aZ x419002 x9).f0.f0) ((aZ x419002 x9).f0.f1) ((aZ x419002 x9).f0.f2) ((aZ x419002 x9).f1.f0) ((aZ x419002 x9).f1.f1) ((aZ x419002 x9).f1.f2) ((aZ x419002 x9).f2.f0) ((aZ x419002 x9).f2.f1)).bind fun t422 => (if t422 = true then ((bW.f ((aZ x419002 x9).f1.f0) ((aZ x419002 x9).f1.f1) ((aZ x419002 x9).f1.f2)).bind fun t424 => (if t424 = true then ((cQ.f ((aZ x419002 x9).f2.f0) ((aZ x419002 x9).f2.f1)).bind fun t426 => (if t426 = true then (aD.l5 k x5 x6 (wrap64 (x9 + 1)) x408000 x408001 x408002 x408003 x408004 x408005 x408006 x419000 x419001 x419002) else (some false))) else (some false))) else (some false))) else (none)) else (aD.l3 k x5 (wrap64 (x6 + 1)) x408000 x408001 x408002 x408003 x408004 x408005 x408006)
end
def aD.f (k : Nat) (l0_0 : List Int) (a0_1 : Int) (a0_2 : Int) (a0_3 : Int) (l0_4 : List (List (S80))) (l0_5 : List (List Int)) (l0_6 : List (S54)) : Option (Bool) := (bV.f k l0_0).bind fun t408 => (if t408 = true then ((bW.f a0_1 a0_2 a0_3).bind fun t409 => (if t409 = true then (if (l0_4.length : Int) > 255 then (aD.j0 k true l0_0 a0_1 a0_2 a0_3 l0_4 l0_5 l0_6) else (if (l0_5.length : Int) > 5 then (aD.j0 k true l0_0 a0_1 a0_2 a0_3 l0_4 l0_5 l0_6) else (aD.j0 k (decide ((l0_6.length : Int) > 65535)) l0_0 a0_1 a0_2 a0_3 l0_4 l0_5 l0_6))) else (aD.j0 k true l0_0 a0_1 a0_2 a0_3 l0_4 l0_5 l0_6))) else (aD.j0 k true l0_0 a0_1 a0_2 a0_3 l0_4 l0_5 l0_6))
theorem aD.calls (k : Nat) (A0_0 : Option Addr) (c0_0 : Nat) (l0_0 : List Int) (a0_1 : Int) (a0_2 : Int) (a0_3 : Int) (A0_4 : Option Addr) (c0_4 : Nat) (l0_4 : List (List (S80))) (A0_5 : Option Addr) (c0_5 : Nat) (l0_5 : List (List Int)) (A0_6 : Option Addr) (c0_6 : Nat) (l0_6 : List (S54)) (r : Bool) (w : World) (hr0_0 : Kd.C (Kd.int .i64) w A0_0 l0_0.length l0_0) (hc0_0 : l0_0.length ≤ c0_0) (hr0_4 : Kd.C (Kd.slice 80 k80) w A0_4 l0_4.length l0_4) (hc0_4 : l0_4.length ≤ c0_4) (hr0_5 : Kd.C (Kd.slice 3 (Kd.int .i64)) w A0_5 l0_5.length l0_5) (hc0_5 : l0_5.length ≤ c0_5) (hr0_6 : Kd.C k54 w A0_6 l0_6.length l0_6) (hc0_6 : l0_6.length ≤ c0_6) (h : aD.f k l0_0 a0_1 a0_2 a0_3 l0_4 l0_5 l0_6 = some r) :
  Calls Try.prog 26 #[.agg #[.slice A0_0 l0_0.length c0_0, .int .i64 a0_1, .int .i64 a0_2, .int .i64 a0_3, .slice A0_4 l0_4.length c0_4, .slice A0_5 l0_5.length c0_5, .slice A0_6 l0_6.length c0_6]] w fun e w' => e = .returned (.bool r) ∧ Below w.heap.size w w' := by
 have hu31 := Try.underlying31
 have hu26 := Try.underlying26
 have hu54 := Try.underlying54
 have hu80 := Try.underlying80
 have hu50 := Try.underlying50
 have hu91 := Try.underlying91
 have HR0_0 := mk_ hr0_0
 have HC0_0 := mk_ hc0_0
 clear hr0_0 hc0_0
 have HR0_4 := mk_ hr0_4
 have HC0_4 := mk_ hc0_4
 clear hr0_4 hc0_4
 have HR0_5 := mk_ hr0_5
 have HC0_5 := mk_ hc0_5
 clear hr0_5 hc0_5
 have HR0_6 := mk_ hr0_6
 have HC0_6 := mk_ hc0_6
 clear hr0_6 hc0_6
 have HB := mk_ (Below.refl w.heap.size w)
 have H : ((bV.f k l0_0).bind fun t408 => (if t408 = true then ((bW.f a0_1 a0_2 a0_3).bind fun t409 => (if t409 = true then (if (l0_4.length : Int) > 255 then (aD.j0 k true l0_0 a0_1 a0_2 a0_3 l0_4 l0_5 l0_6) else (if (l0_5.length : Int) > 5 then (aD.j0 k true l0_0 a0_1 a0_2 a0_3 l0_4 l0_5 l0_6) else (aD.j0 k (decide ((l0_6.length : Int) > 65535)) l0_0 a0_1 a0_2 a0_3 l0_4 l0_5 l0_6))) else (aD.j0 k true l0_0 a0_1 a0_2 a0_3 l0_4 l0_5 l0_6))) else (aD.j0 k true l0_0 a0_1 a0_2 a0_3 l0_4 l0_5 l0_6))) = some r := h
 clear h
 have HC2 := mk_ H
 clear H
 go_enter Try.func26, Try.ntmps26
 go_upto_region 1 with (first | ((with_reducible refine bP (N := 1) rfl ?_); (try (refine fP (by rfl) ?_; dsimp only)); refine bL ?hg (N := 1) ?hd (cs := #[.slice A0_0 l0_0.length c0_0, .int .i64 a0_1, .int .i64 a0_2, .int .i64 a0_3, .slice A0_4 l0_4.length c0_4, .slice A0_5 l0_5.length c0_5, .slice A0_6 l0_6.length c0_6]) (t := 31) ?hr ?_; (case hd => rfl); (case hg => rfl); (case hr => first | (go_simp; done) | (go_simp; rfl)); intro gb407 hg w3 hbox hb; have n0_ := mk_ (aI (Short.hB HB) hb); have n1_ := mk_ (hbox); have n2_ := mk_ ((by rw [hg]; exact (aN (Short.hB HB)) : w.heap.size ≤ gb407)); have n3_ := mk_ ((by rw [hg]; exact (aN (Short.hB HB)) : w.heap.size ≤ gb407)); clear HB; revert n0_ n1_ n2_ n3_; intro HB BK407 GW407 GE407; clear hb hbox hg))
 (try simp only [Act.put, List.setIfInBounds_toArray, List.set_cons_zero, List.set_cons_succ])
 go_cut [37] (fun v37 wc => ∃ (kq : Nat) (x37_1 : Bool), v37 = .bool x37_1 ∧ Aside0 (aD.j0 kq x37_1 l0_0 a0_1 a0_2 a0_3 l0_4 l0_5 l0_6 = some r) ∧ Aside0 (kq ≤ k) ∧ Aside0 (wc.heap[gb407]? = some (.cells #[(.slice A0_0 l0_0.length c0_0), .int .i64 a0_1, .int .i64 a0_2, .int .i64 a0_3, (.slice A0_4 l0_4.length c0_4), (.slice A0_5 l0_5.length c0_5), (.slice A0_6 l0_6.length c0_6)] 31 (0, 0))) ∧ Aside0 (Below w.heap.size w wc))
 case first =>
  have H := HC2.out
  clear HC2
  obtain ⟨t408, A4, H⟩ := Option.bind_eq_some_iff.mp H
  replace A4 := mk_ A4
  by_cases c5 : t408 = true
  rotate_left
  ·
   replace c5 := Bool.eq_false_iff.mpr c5
   subst c5
   rw [if_neg (show ¬ (false = true) by decide)] at H
   have H' := mk_ H
   clear H
   have hcz21_0 : w3.cell? ⟨gb407, 0, none⟩ = some (.slice A0_0 l0_0.length c0_0) := kc_ BK407 0
   have hcz21_1 : w3.cell? ⟨gb407, 1, none⟩ = some (.int .i64 a0_1) := kc_ BK407 1
   have hcz21_2 : w3.cell? ⟨gb407, 2, none⟩ = some (.int .i64 a0_2) := kc_ BK407 2
   have hcz21_3 : w3.cell? ⟨gb407, 3, none⟩ = some (.int .i64 a0_3) := kc_ BK407 3
   have hcz21_4 : w3.cell? ⟨gb407, 4, none⟩ = some (.slice A0_4 l0_4.length c0_4) := kc_ BK407 4
   have hcz21_5 : w3.cell? ⟨gb407, 5, none⟩ = some (.slice A0_5 l0_5.length c0_5) := kc_ BK407 5
   have hcz21_6 : w3.cell? ⟨gb407, 6, none⟩ = some (.slice A0_6 l0_6.length c0_6) := kc_ BK407 6
   have hfz21_0 := aH BK407.out
   go_wp2_with (first | ((with_reducible refine aT (f := 68) rfl ?_); refine Short.gL (some 12) Try.func68 #[.slice A0_0 l0_0.length c0_0] (h := ?_); (with_reducible refine (bV.calls k _ _ l0_0 false _ ?side1 ?side2 A4.out).mono ?_); (case side1 => exact cX_ (aV HR0_0.out HB.out)); (case side2 => exact HC0_0.out); rintro e w' ⟨rfl, ⟨nd, rfl⟩⟩; refine ⟨_, rfl, ?_⟩))
   go_meet
   case rel => exact ⟨_, (true), z3_, H', ⟨by first | omega | exact Nat.le_refl _⟩, ⟨by (with_reducible repeat (first | refine aG ?_ _ | refine aJ ?_ | refine aE ?_ _)); exact BK407.out⟩, ⟨Short.hB HB⟩⟩
  subst c5
  rw [if_pos rfl] at H
  obtain ⟨t409, A6, H⟩ := Option.bind_eq_some_iff.mp H
  replace A6 := mk_ A6
  by_cases c7 : t409 = true
  rotate_left
  ·
   replace c7 := Bool.eq_false_iff.mpr c7
   subst c7
   rw [if_neg (show ¬ (false = true) by decide)] at H
   have H' := mk_ H
   clear H
   have hcz19_0 : w3.cell? ⟨gb407, 0, none⟩ = some (.slice A0_0 l0_0.length c0_0) := kc_ BK407 0
   have hcz19_1 : w3.cell? ⟨gb407, 1, none⟩ = some (.int .i64 a0_1) := kc_ BK407 1
   have hcz19_2 : w3.cell? ⟨gb407, 2, none⟩ = some (.int .i64 a0_2) := kc_ BK407 2
   have hcz19_3 : w3.cell? ⟨gb407, 3, none⟩ = some (.int .i64 a0_3) := kc_ BK407 3
   have hcz19_4 : w3.cell? ⟨gb407, 4, none⟩ = some (.slice A0_4 l0_4.length c0_4) := kc_ BK407 4
   have hcz19_5 : w3.cell? ⟨gb407, 5, none⟩ = some (.slice A0_5 l0_5.length c0_5) := kc_ BK407 5
   have hcz19_6 : w3.cell? ⟨gb407, 6, none⟩ = some (.slice A0_6 l0_6.length c0_6) := kc_ BK407 6
   have hfz19_0 := aH BK407.out
   go_wp2_with (first | ((with_reducible refine aT (f := 68) rfl ?_); refine Short.gL (some 12) Try.func68 #[.slice A0_0 l0_0.length c0_0] (h := ?_); (with_reducible refine (bV.calls k _ _ l0_0 true _ ?side1 ?side2 A4.out).mono ?_); (case side1 => exact cX_ (aV HR0_0.out HB.out)); (case side2 => exact HC0_0.out); rintro e w' ⟨rfl, ⟨nd, rfl⟩⟩; refine ⟨_, rfl, ?_⟩) | (go_at_call 69; (with_reducible refine (bW.calls a0_1 a0_2 a0_3 false _ A6.out).mono ?_); rintro e w20 ⟨rfl, hb⟩; have n0_ := mk_ (bB_ BK407 hb); have n1_ := mk_ (aI (Short.hB HB) hb); clear BK407 HB; revert n0_ n1_; intro BK407 HB; (try clear hb); (try clear hb2); (try clear hk); (try clear hi)))
   go_meet
   case rel => exact ⟨_, (true), z3_, H', ⟨by first | omega | exact Nat.le_refl _⟩, ⟨by (with_reducible repeat (first | refine aG ?_ _ | refine aJ ?_ | refine aE ?_ _)); exact BK407.out⟩, ⟨Short.hB HB⟩⟩
  subst c7
  rw [if_pos rfl] at H
  by_cases c8 : (l0_4.length : Int) > 255
  ·
   rw [if_pos c8] at H
   have c8b0 : decide (255 < (l0_4.length : Int)) = true := decide_eq_true c8
   have c8b1 : decide (255 < l0_4.length) = true := decide_eq_true z2_
   clear c8
   (first | rw [c8b0] | (simp only [i64_w, i32_w]; rw [c8b0]) | skip)
   have H' := mk_ H
   clear H
   have hcz9_0 : w3.cell? ⟨gb407, 0, none⟩ = some (.slice A0_0 l0_0.length c0_0) := kc_ BK407 0
   have hcz9_1 : w3.cell? ⟨gb407, 1, none⟩ = some (.int .i64 a0_1) := kc_ BK407 1
   have hcz9_2 : w3.cell? ⟨gb407, 2, none⟩ = some (.int .i64 a0_2) := kc_ BK407 2
   have hcz9_3 : w3.cell? ⟨gb407, 3, none⟩ = some (.int .i64 a0_3) := kc_ BK407 3
   have hcz9_4 : w3.cell? ⟨gb407, 4, none⟩ = some (.slice A0_4 l0_4.length c0_4) := kc_ BK407 4
   have hcz9_5 : w3.cell? ⟨gb407, 5, none⟩ = some (.slice A0_5 l0_5.length c0_5) := kc_ BK407 5
   have hcz9_6 : w3.cell? ⟨gb407, 6, none⟩ = some (.slice A0_6 l0_6.length c0_6) := kc_ BK407 6
   have hfz9_0 := aH BK407.out
   go_wp2_with (first | ((with_reducible refine aT (f := 68) rfl ?_); refine Short.gL (some 12) Try.func68 #[.slice A0_0 l0_0.length c0_0] (h := ?_); (with_reducible refine (bV.calls k _ _ l0_0 true _ ?side1 ?side2 A4.out).mono ?_); (case side1 => exact cX_ (aV HR0_0.out HB.out)); (case side2 => exact HC0_0.out); rintro e w' ⟨rfl, ⟨nd, rfl⟩⟩; refine ⟨_, rfl, ?_⟩) | (go_at_call 69; (with_reducible refine (bW.calls a0_1 a0_2 a0_3 true _ A6.out).mono ?_); rintro e w10 ⟨rfl, hb⟩; have n0_ := mk_ (bB_ BK407 hb); have n1_ := mk_ (aI (Short.hB HB) hb); clear BK407 HB; revert n0_ n1_; intro BK407 HB; (try clear hb); (try clear hb2); (try clear hk); (try clear hi); have hcz11_0 : w10.cell? ⟨gb407, 0, none⟩ = some (.slice A0_0 l0_0.length c0_0) := kc_ BK407 0; have hcz11_1 : w10.cell? ⟨gb407, 1, none⟩ = some (.int .i64 a0_1) := kc_ BK407 1; have hcz11_2 : w10.cell? ⟨gb407, 2, none⟩ = some (.int .i64 a0_2) := kc_ BK407 2; have hcz11_3 : w10.cell? ⟨gb407, 3, none⟩ = some (.int .i64 a0_3) := kc_ BK407 3; have hcz11_4 : w10.cell? ⟨gb407, 4, none⟩ = some (.slice A0_4 l0_4.length c0_4) := kc_ BK407 4; have hcz11_5 : w10.cell? ⟨gb407, 5, none⟩ = some (.slice A0_5 l0_5.length c0_5) := kc_ BK407 5; have hcz11_6 : w10.cell? ⟨gb407, 6, none⟩ = some (.slice A0_6 l0_6.length c0_6) := kc_ BK407 6; have hfz11_0 := aH BK407.out))
   go_meet
   case rel => exact ⟨_, (true), z3_, H', ⟨by first | omega | exact Nat.le_refl _⟩, ⟨by (with_reducible repeat (first | refine aG ?_ _ | refine aJ ?_ | refine aE ?_ _)); exact BK407.out⟩, ⟨Short.hB HB⟩⟩
  rw [if_neg c8] at H
  have c8b0 : decide (255 < (l0_4.length : Int)) = false := decide_eq_false c8
  have c8b1 : decide (255 < l0_4.length) = false := decide_eq_false z2_
  clear c8
  (first | rw [c8b0] | (simp only [i64_w, i32_w]; rw [c8b0]) | skip)
  by_cases c12 : (l0_5.length : Int) > 5
  ·
   rw [if_pos c12] at H
   have c12b0 : decide (5 < (l0_5.length : Int)) = true := decide_eq_true c12
   have c12b1 : decide (5 < l0_5.length) = true := decide_eq_true z2_
   clear c12
   have H' := mk_ H
   clear H
   have hcz13_0 : w3.cell? ⟨gb407, 0, none⟩ = some (.slice A0_0 l0_0.length c0_0) := kc_ BK407 0
   have hcz13_1 : w3.cell? ⟨gb407, 1, none⟩ = some (.int .i64 a0_1) := kc_ BK407 1
   have hcz13_2 : w3.cell? ⟨gb407, 2, none⟩ = some (.int .i64 a0_2) := kc_ BK407 2
   have hcz13_3 : w3.cell? ⟨gb407, 3, none⟩ = some (.int .i64 a0_3) := kc_ BK407 3
   have hcz13_4 : w3.cell? ⟨gb407, 4, none⟩ = some (.slice A0_4 l0_4.length c0_4) := kc_ BK407 4
   have hcz13_5 : w3.cell? ⟨gb407, 5, none⟩ = some (.slice A0_5 l0_5.length c0_5) := kc_ BK407 5
   have hcz13_6 : w3.cell? ⟨gb407, 6, none⟩ = some (.slice A0_6 l0_6.length c0_6) := kc_ BK407 6
   have hfz13_0 := aH BK407.out
   go_wp2_with (first | ((with_reducible refine aT (f := 68) rfl ?_); refine Short.gL (some 12) Try.func68 #[.slice A0_0 l0_0.length c0_0] (h := ?_); (with_reducible refine (bV.calls k _ _ l0_0 true _ ?side1 ?side2 A4.out).mono ?_); (case side1 => exact cX_ (aV HR0_0.out HB.out)); (case side2 => exact HC0_0.out); rintro e w' ⟨rfl, ⟨nd, rfl⟩⟩; refine ⟨_, rfl, ?_⟩) | (go_at_call 69; (with_reducible refine (bW.calls a0_1 a0_2 a0_3 true _ A6.out).mono ?_); rintro e w14 ⟨rfl, hb⟩; have n0_ := mk_ (bB_ BK407 hb); have n1_ := mk_ (aI (Short.hB HB) hb); clear BK407 HB; revert n0_ n1_; intro BK407 HB; (try clear hb); (try clear hb2); (try clear hk); (try clear hi); have hcz15_0 : w14.cell? ⟨gb407, 0, none⟩ = some (.slice A0_0 l0_0.length c0_0) := kc_ BK407 0; have hcz15_1 : w14.cell? ⟨gb407, 1, none⟩ = some (.int .i64 a0_1) := kc_ BK407 1; have hcz15_2 : w14.cell? ⟨gb407, 2, none⟩ = some (.int .i64 a0_2) := kc_ BK407 2; have hcz15_3 : w14.cell? ⟨gb407, 3, none⟩ = some (.int .i64 a0_3) := kc_ BK407 3; have hcz15_4 : w14.cell? ⟨gb407, 4, none⟩ = some (.slice A0_4 l0_4.length c0_4) := kc_ BK407 4; have hcz15_5 : w14.cell? ⟨gb407, 5, none⟩ = some (.slice A0_5 l0_5.length c0_5) := kc_ BK407 5; have hcz15_6 : w14.cell? ⟨gb407, 6, none⟩ = some (.slice A0_6 l0_6.length c0_6) := kc_ BK407 6; have hfz15_0 := aH BK407.out))
   go_meet
   case rel => exact ⟨_, (true), z3_, H', ⟨by first | omega | exact Nat.le_refl _⟩, ⟨by (with_reducible repeat (first | refine aG ?_ _ | refine aJ ?_ | refine aE ?_ _)); exact BK407.out⟩, ⟨Short.hB HB⟩⟩
  rw [if_neg c12] at H
  have c12b0 : decide (5 < (l0_5.length : Int)) = false := decide_eq_false c12
  have c12b1 : decide (5 < l0_5.length) = false := decide_eq_false z2_
  clear c12
  have H' := mk_ H
  clear H
  have hcz16_0 : w3.cell? ⟨gb407, 0, none⟩ = some (.slice A0_0 l0_0.length c0_0) := kc_ BK407 0
  have hcz16_1 : w3.cell? ⟨gb407, 1, none⟩ = some (.int .i64 a0_1) := kc_ BK407 1
  have hcz16_2 : w3.cell? ⟨gb407, 2, none⟩ = some (.int .i64 a0_2) := kc_ BK407 2
  have hcz16_3 : w3.cell? ⟨gb407, 3, none⟩ = some (.int .i64 a0_3) := kc_ BK407 3
  have hcz16_4 : w3.cell? ⟨gb407, 4, none⟩ = some (.slice A0_4 l0_4.length c0_4) := kc_ BK407 4
  have hcz16_5 : w3.cell? ⟨gb407, 5, none⟩ = some (.slice A0_5 l0_5.length c0_5) := kc_ BK407 5
  have hcz16_6 : w3.cell? ⟨gb407, 6, none⟩ = some (.slice A0_6 l0_6.length c0_6) := kc_ BK407 6
  have hfz16_0 := aH BK407.out
  go_wp2_with (first | ((with_reducible refine aT (f := 68) rfl ?_); refine Short.gL (some 12) Try.func68 #[.slice A0_0 l0_0.length c0_0] (h := ?_); (with_reducible refine (bV.calls k _ _ l0_0 true _ ?side1 ?side2 A4.out).mono ?_); (case side1 => exact cX_ (aV HR0_0.out HB.out)); (case side2 => exact HC0_0.out); rintro e w' ⟨rfl, ⟨nd, rfl⟩⟩; refine ⟨_, rfl, ?_⟩) | (go_at_call 69; (with_reducible refine (bW.calls a0_1 a0_2 a0_3 true _ A6.out).mono ?_); rintro e w17 ⟨rfl, hb⟩; have n0_ := mk_ (bB_ BK407 hb); have n1_ := mk_ (aI (Short.hB HB) hb); clear BK407 HB; revert n0_ n1_; intro BK407 HB; (try clear hb); (try clear hb2); (try clear hk); (try clear hi); have hcz18_0 : w17.cell? ⟨gb407, 0, none⟩ = some (.slice A0_0 l0_0.length c0_0) := kc_ BK407 0; have hcz18_1 : w17.cell? ⟨gb407, 1, none⟩ = some (.int .i64 a0_1) := kc_ BK407 1; have hcz18_2 : w17.cell? ⟨gb407, 2, none⟩ = some (.int .i64 a0_2) := kc_ BK407 2; have hcz18_3 : w17.cell? ⟨gb407, 3, none⟩ = some (.int .i64 a0_3) := kc_ BK407 3; have hcz18_4 : w17.cell? ⟨gb407, 4, none⟩ = some (.slice A0_4 l0_4.length c0_4) := kc_ BK407 4; have hcz18_5 : w17.cell? ⟨gb407, 5, none⟩ = some (.slice A0_5 l0_5.length c0_5) := kc_ BK407 5; have hcz18_6 : w17.cell? ⟨gb407, 6, none⟩ = some (.slice A0_6 l0_6.length c0_6) := kc_ BK407 6; have hfz18_0 := aH BK407.out))
  go_meet
  case rel => exact ⟨_, (decide ((l0_6.length : Int) > 65535)), z3_, H', ⟨by first | omega | exact Nat.le_refl _⟩, ⟨by (with_reducible repeat (first | refine aG ?_ _ | refine aJ ?_ | refine aE ?_ _)); exact BK407.out⟩, ⟨Short.hB HB⟩⟩
 case rest => as_aux_lemma =>
  clear HC2
  obtain ⟨kq, x37_1, rfl, HA, HJ1, BK407, HB⟩ := hcut
  cases kq with
  | zero => exact absurd HA.out (by simp [aD.j0])
  | succ kj1 =>
   have H := HA.out
   clear HA
   simp only [aD.j0] at H
   by_cases c22 : x37_1 = true
   ·
    subst c22
    rw [if_pos rfl] at H
    obtain rfl := Option.some.inj H
    go_wp2
    go_ret
    exact ⟨q0, Short.hB HB⟩
   ·
    replace c22 := Bool.eq_false_iff.mpr c22
    subst c22
    rw [if_neg (show ¬ (false = true) by decide)] at H
    have H' := mk_ H
    clear H
    go_wp2
    go_loopg [3] kj1 (fun kq v3 w' => ∃ (x3_2 : Int), v3 = .int .i64 x3_2 ∧ Aside0 (aD.l0 kq x3_2 l0_0 a0_1 a0_2 a0_3 l0_4 l0_5 l0_6 = some r) ∧ Aside0 (kq ≤ kj1) ∧ Aside0 (w'.heap[gb407]? = some (.cells #[(.slice A0_0 l0_0.length c0_0), .int .i64 a0_1, .int .i64 a0_2, .int .i64 a0_3, (.slice A0_4 l0_4.length c0_4), (.slice A0_5 l0_5.length c0_5), (.slice A0_6 l0_6.length c0_6)] 31 (0, 0))) ∧ Aside0 (Below w.heap.size w w'))
    case atStart => exact ⟨(0), z3_, H', ⟨Nat.le_refl _⟩, ⟨by (with_reducible repeat (first | refine aG ?_ _ | refine aJ ?_ | refine aE ?_ _)); exact BK407.out⟩, ⟨Short.hB HB⟩⟩
    case round =>
     clear H'
     try clear c22
     obtain ⟨x3_2, rfl, HA, HK2, BK407, HB⟩ := hrel
     cases gk with
     | zero => exact absurd HA.out (by simp [aD.l0])
     | succ k2 =>
      have H := HA.out
      clear HA
      simp only [aD.l0] at H
      by_cases c23 : x3_2 < (l0_5.length : Int)
      ·
       rw [if_pos c23] at H
       have c23b0 : decide (x3_2 < (l0_5.length : Int)) = true := decide_eq_true c23
       clear c23
       by_cases c24 : 0 ≤ x3_2
       ·
        rw [if_pos c24] at H
        have c24b0 : decide (0 ≤ x3_2) = true := decide_eq_true c24
        clear c24
        obtain ⟨t411, A25, H⟩ := Option.bind_eq_some_iff.mp H
        replace A25 := mk_ A25
        by_cases c26 : t411 = true
        ·
         subst c26
         rw [if_pos rfl] at H
         have H' := mk_ H
         clear H
         have hcz27_0 : wr.cell? ⟨gb407, 0, none⟩ = some (.slice A0_0 l0_0.length c0_0) := kc_ BK407 0
         have hcz27_1 : wr.cell? ⟨gb407, 1, none⟩ = some (.int .i64 a0_1) := kc_ BK407 1
         have hcz27_2 : wr.cell? ⟨gb407, 2, none⟩ = some (.int .i64 a0_2) := kc_ BK407 2
         have hcz27_3 : wr.cell? ⟨gb407, 3, none⟩ = some (.int .i64 a0_3) := kc_ BK407 3
         have hcz27_4 : wr.cell? ⟨gb407, 4, none⟩ = some (.slice A0_4 l0_4.length c0_4) := kc_ BK407 4
         have hcz27_5 : wr.cell? ⟨gb407, 5, none⟩ = some (.slice A0_5 l0_5.length c0_5) := kc_ BK407 5
         have hcz27_6 : wr.cell? ⟨gb407, 6, none⟩ = some (.slice A0_6 l0_6.length c0_6) := kc_ BK407 6
         have hfz27_0 := aH BK407.out
         have p410 : 0 ≤ (x3_2 : Int) := of_decide_eq_true z0_
         have q410 : x3_2 < (l0_5.length : Int) := of_decide_eq_true z0_
         obtain ⟨ad410, A410_0, c410_0, e410, hx410_0, hl410_0, hi410_0⟩ := iZ HR0_5.out x3_2 p410 q410
         cases e410
         replace hx410_0 := up_ HB hx410_0
         have HR410_0 := mk_ hi410_0
         have HC410_0 := mk_ hl410_0
         clear hi410_0 hl410_0
         replace p410 := eq_true p410
         replace q410 := eq_true q410
         go_wp2_with (first | ((with_reducible refine aT (f := 68) rfl ?_); refine Short.gL (some 50) Try.func68 #[.slice A410_0 (dS l0_5 x3_2).length c410_0] (h := ?_); (with_reducible refine (bV.calls k2 _ _ (dS l0_5 x3_2) true _ ?side1 ?side2 A25.out).mono ?_); (case side1 => exact cX_ (aV HR410_0.out HB.out)); (case side2 => exact HC410_0.out); rintro e w' ⟨rfl, ⟨nd, rfl⟩⟩; refine ⟨_, rfl, ?_⟩))
         go_roundg k2
         case measure => have := HJ1.out; have := HK2.out; omega
         case rel => exact ⟨(wrap64 (x3_2 + 1)), z3_, H', ⟨by have := HJ1.out; have := HK2.out; omega⟩, ⟨by (with_reducible repeat (first | refine aG ?_ _ | refine aJ ?_ | refine aE ?_ _)); exact BK407.out⟩, ⟨Short.hB HB⟩⟩
        ·
         replace c26 := Bool.eq_false_iff.mpr c26
         subst c26
         rw [if_neg (show ¬ (false = true) by decide)] at H
         obtain rfl := Option.some.inj H
         have hcz28_0 : wr.cell? ⟨gb407, 0, none⟩ = some (.slice A0_0 l0_0.length c0_0) := kc_ BK407 0
         have hcz28_1 : wr.cell? ⟨gb407, 1, none⟩ = some (.int .i64 a0_1) := kc_ BK407 1
         have hcz28_2 : wr.cell? ⟨gb407, 2, none⟩ = some (.int .i64 a0_2) := kc_ BK407 2
         have hcz28_3 : wr.cell? ⟨gb407, 3, none⟩ = some (.int .i64 a0_3) := kc_ BK407 3
         have hcz28_4 : wr.cell? ⟨gb407, 4, none⟩ = some (.slice A0_4 l0_4.length c0_4) := kc_ BK407 4
         have hcz28_5 : wr.cell? ⟨gb407, 5, none⟩ = some (.slice A0_5 l0_5.length c0_5) := kc_ BK407 5
         have hcz28_6 : wr.cell? ⟨gb407, 6, none⟩ = some (.slice A0_6 l0_6.length c0_6) := kc_ BK407 6
         have hfz28_0 := aH BK407.out
         have p410 : 0 ≤ (x3_2 : Int) := of_decide_eq_true z0_
         have q410 : x3_2 < (l0_5.length : Int) := of_decide_eq_true z0_
         obtain ⟨ad410, A410_0, c410_0, e410, hx410_0, hl410_0, hi410_0⟩ := iZ HR0_5.out x3_2 p410 q410
         cases e410
         replace hx410_0 := up_ HB hx410_0
         have HR410_0 := mk_ hi410_0
         have HC410_0 := mk_ hl410_0
         clear hi410_0 hl410_0
         replace p410 := eq_true p410
         replace q410 := eq_true q410
         go_wp2_with (first | ((with_reducible refine aT (f := 68) rfl ?_); refine Short.gL (some 50) Try.func68 #[.slice A410_0 (dS l0_5 x3_2).length c410_0] (h := ?_); (with_reducible refine (bV.calls k2 _ _ (dS l0_5 x3_2) false _ ?side1 ?side2 A25.out).mono ?_); (case side1 => exact cX_ (aV HR410_0.out HB.out)); (case side2 => exact HC410_0.out); rintro e w' ⟨rfl, ⟨nd, rfl⟩⟩; refine ⟨_, rfl, ?_⟩))
         go_ret
         exact ⟨q0, Short.hB HB⟩
       ·
        rw [if_neg c24] at H
        exact absurd H (by simp)
      ·
       rw [if_neg c23] at H
       have c23b0 : decide (x3_2 < (l0_5.length : Int)) = false := decide_eq_false c23
       clear c23
       have H' := mk_ H
       clear H
       have hcz29_0 : wr.cell? ⟨gb407, 0, none⟩ = some (.slice A0_0 l0_0.length c0_0) := kc_ BK407 0
       have hcz29_1 : wr.cell? ⟨gb407, 1, none⟩ = some (.int .i64 a0_1) := kc_ BK407 1
       have hcz29_2 : wr.cell? ⟨gb407, 2, none⟩ = some (.int .i64 a0_2) := kc_ BK407 2
       have hcz29_3 : wr.cell? ⟨gb407, 3, none⟩ = some (.int .i64 a0_3) := kc_ BK407 3
       have hcz29_4 : wr.cell? ⟨gb407, 4, none⟩ = some (.slice A0_4 l0_4.length c0_4) := kc_ BK407 4
       have hcz29_5 : wr.cell? ⟨gb407, 5, none⟩ = some (.slice A0_5 l0_5.length c0_5) := kc_ BK407 5
       have hcz29_6 : wr.cell? ⟨gb407, 6, none⟩ = some (.slice A0_6 l0_6.length c0_6) := kc_ BK407 6
       have hfz29_0 := aH BK407.out
       go_wp2
       go_loopg [4] k2 (fun kq v4 w' => ∃ (x4_3 : Int), v4 = .int .i64 x4_3 ∧ Aside0 (aD.l1 kq x4_3 l0_0 a0_1 a0_2 a0_3 l0_4 l0_5 l0_6 = some r) ∧ Aside0 (kq ≤ k2) ∧ Aside0 (w'.heap[gb407]? = some (.cells #[(.slice A0_0 l0_0.length c0_0), .int .i64 a0_1, .int .i64 a0_2, .int .i64 a0_3, (.slice A0_4 l0_4.length c0_4), (.slice A0_5 l0_5.length c0_5), (.slice A0_6 l0_6.length c0_6)] 31 (0, 0))) ∧ Aside0 (Below w.heap.size w w'))
       case atStart => exact ⟨(0), z3_, H', ⟨Nat.le_refl _⟩, ⟨by (with_reducible repeat (first | refine aG ?_ _ | refine aJ ?_ | refine aE ?_ _)); exact BK407.out⟩, ⟨Short.hB HB⟩⟩
       case round =>
        clear H'
        try clear c23
        try clear c23b0
        try clear hcz29_0
        try clear hcz29_1
        try clear hcz29_2
        try clear hcz29_3
        try clear hcz29_4
        try clear hcz29_5
        try clear hcz29_6
        try clear hfz29_0
        obtain ⟨x4_3, rfl, HA, HK3, BK407, HB⟩ := hrel
        cases gk with
        | zero => exact absurd HA.out (by simp [aD.l1])
        | succ k3 =>
         have H := HA.out
         clear HA
         simp only [aD.l1] at H
         by_cases c30 : x4_3 < (l0_6.length : Int)
         ·
          rw [if_pos c30] at H
          have c30b0 : decide (x4_3 < (l0_6.length : Int)) = true := decide_eq_true c30
          clear c30
          by_cases c31 : 0 ≤ x4_3
          ·
           rw [if_pos c31] at H
           have c31b0 : decide (0 ≤ x4_3) = true := decide_eq_true c31
           clear c31
           obtain ⟨t413, A32, H⟩ := Option.bind_eq_some_iff.mp H
           replace A32 := mk_ A32
           by_cases c33 : t413 = true
           ·
            subst c33
            rw [if_pos rfl] at H
            have H' := mk_ H
            clear H
            have hcz34_0 : wr.cell? ⟨gb407, 0, none⟩ = some (.slice A0_0 l0_0.length c0_0) := kc_ BK407 0
            have hcz34_1 : wr.cell? ⟨gb407, 1, none⟩ = some (.int .i64 a0_1) := kc_ BK407 1
            have hcz34_2 : wr.cell? ⟨gb407, 2, none⟩ = some (.int .i64 a0_2) := kc_ BK407 2
            have hcz34_3 : wr.cell? ⟨gb407, 3, none⟩ = some (.int .i64 a0_3) := kc_ BK407 3
            have hcz34_4 : wr.cell? ⟨gb407, 4, none⟩ = some (.slice A0_4 l0_4.length c0_4) := kc_ BK407 4
            have hcz34_5 : wr.cell? ⟨gb407, 5, none⟩ = some (.slice A0_5 l0_5.length c0_5) := kc_ BK407 5
            have hcz34_6 : wr.cell? ⟨gb407, 6, none⟩ = some (.slice A0_6 l0_6.length c0_6) := kc_ BK407 6
            have hfz34_0 := aH BK407.out
            have p412 : 0 ≤ (x4_3 : Int) := of_decide_eq_true z0_
            have q412 : x4_3 < (l0_6.length : Int) := of_decide_eq_true z0_
            obtain ⟨ad412, A412_2, c412_2, A412_10, c412_10, A412_11, c412_11, e412, hx412_0, hx412_1, hx412_2, hx412_3, hx412_4, hx412_5, hx412_6, hx412_7, hx412_8, hx412_9, hx412_10, hx412_11, hl412_2, hi412_2, hl412_10, hi412_10, hl412_11, hi412_11⟩ := eS HR0_6.out x4_3 p412 q412
            cases e412
            replace hx412_0 := up_ HB hx412_0
            replace hx412_1 := up_ HB hx412_1
            replace hx412_2 := up_ HB hx412_2
            replace hx412_3 := up_ HB hx412_3
            replace hx412_4 := up_ HB hx412_4
            replace hx412_5 := up_ HB hx412_5
            replace hx412_6 := up_ HB hx412_6
            replace hx412_7 := up_ HB hx412_7
            replace hx412_8 := up_ HB hx412_8
            replace hx412_9 := up_ HB hx412_9
            replace hx412_10 := up_ HB hx412_10
            replace hx412_11 := up_ HB hx412_11
            have HR412_2 := mk_ hi412_2
            have HC412_2 := mk_ hl412_2
            clear hi412_2 hl412_2
            have HR412_10 := mk_ hi412_10
            have HC412_10 := mk_ hl412_10
            clear hi412_10 hl412_10
            have HR412_11 := mk_ hi412_11
            have HC412_11 := mk_ hl412_11
            clear hi412_11 hl412_11
            replace p412 := eq_true p412
            replace q412 := eq_true q412
            go_wp2_with (first | ((with_reducible refine aT (f := 16) rfl ?_); refine Short.gL (some 64) Try.func16 #[.agg #[.int .i64 ((aK l0_6 x4_3).f0.f0), .int .i64 ((aK l0_6 x4_3).f0.f1), .slice A412_2 ((aK l0_6 x4_3).f1).length c412_2, .int .i64 ((aK l0_6 x4_3).f2.f0), .int .i64 ((aK l0_6 x4_3).f2.f1), .int .i64 ((aK l0_6 x4_3).f2.f2), .int .i64 ((aK l0_6 x4_3).f3), .int .i64 ((aK l0_6 x4_3).f4), .string ((aK l0_6 x4_3).f5), .int .i64 ((aK l0_6 x4_3).f6), .slice A412_10 ((aK l0_6 x4_3).f7).length c412_10, .slice A412_11 ((aK l0_6 x4_3).f8).length c412_11]] (h := ?_); (with_reducible refine (dK.calls ((aK l0_6 x4_3).f0.f0) ((aK l0_6 x4_3).f0.f1) _ _ ((aK l0_6 x4_3).f1) ((aK l0_6 x4_3).f2.f0) ((aK l0_6 x4_3).f2.f1) ((aK l0_6 x4_3).f2.f2) ((aK l0_6 x4_3).f3) ((aK l0_6 x4_3).f4) ((aK l0_6 x4_3).f5) ((aK l0_6 x4_3).f6) _ _ ((aK l0_6 x4_3).f7) _ _ ((aK l0_6 x4_3).f8) true _ ?side1 ?side2 ?side3 ?side4 ?side5 ?side6 A32.out).mono ?_); (case side1 => exact cX_ (aV HR412_2.out HB.out)); (case side2 => exact HC412_2.out); (case side3 => exact cX_ (aV HR412_10.out HB.out)); (case side4 => exact HC412_10.out); (case side5 => exact cX_ (aV HR412_11.out HB.out)); (case side6 => exact HC412_11.out); rintro e w35 ⟨rfl, hb⟩; refine ⟨_, rfl, ?_⟩; have n0_ := mk_ (bB_ BK407 hb); have n1_ := mk_ (aI (Short.hB HB) hb); clear BK407 HB; revert n0_ n1_; intro BK407 HB; (try clear hb)))
            go_roundg k3
            case measure => have := HJ1.out; have := HK2.out; have := HK3.out; omega
            case rel => exact ⟨(wrap64 (x4_3 + 1)), z3_, H', ⟨by have := HJ1.out; have := HK2.out; have := HK3.out; omega⟩, ⟨by (with_reducible repeat (first | refine aG ?_ _ | refine aJ ?_ | refine aE ?_ _)); exact BK407.out⟩, ⟨Short.hB HB⟩⟩
           ·
            replace c33 := Bool.eq_false_iff.mpr c33
            subst c33
            rw [if_neg (show ¬ (false = true) by decide)] at H
            obtain rfl := Option.some.inj H
            have hcz36_0 : wr.cell? ⟨gb407, 0, none⟩ = some (.slice A0_0 l0_0.length c0_0) := kc_ BK407 0
            have hcz36_1 : wr.cell? ⟨gb407, 1, none⟩ = some (.int .i64 a0_1) := kc_ BK407 1
            have hcz36_2 : wr.cell? ⟨gb407, 2, none⟩ = some (.int .i64 a0_2) := kc_ BK407 2
            have hcz36_3 : wr.cell? ⟨gb407, 3, none⟩ = some (.int .i64 a0_3) := kc_ BK407 3
            have hcz36_4 : wr.cell? ⟨gb407, 4, none⟩ = some (.slice A0_4 l0_4.length c0_4) := kc_ BK407 4
            have hcz36_5 : wr.cell? ⟨gb407, 5, none⟩ = some (.slice A0_5 l0_5.length c0_5) := kc_ BK407 5
            have hcz36_6 : wr.cell? ⟨gb407, 6, none⟩ = some (.slice A0_6 l0_6.length c0_6) := kc_ BK407 6
            have hfz36_0 := aH BK407.out
            have p412 : 0 ≤ (x4_3 : Int) := of_decide_eq_true z0_
            have q412 : x4_3 < (l0_6.length : Int) := of_decide_eq_true z0_
            obtain ⟨ad412, A412_2, c412_2, A412_10, c412_10, A412_11, c412_11, e412, hx412_0, hx412_1, hx412_2, hx412_3, hx412_4, hx412_5, hx412_6, hx412_7, hx412_8, hx412_9, hx412_10, hx412_11, hl412_2, hi412_2, hl412_10, hi412_10, hl412_11, hi412_11⟩ := eS HR0_6.out x4_3 p412 q412
            cases e412
            replace hx412_0 := up_ HB hx412_0
            replace hx412_1 := up_ HB hx412_1
            replace hx412_2 := up_ HB hx412_2
            replace hx412_3 := up_ HB hx412_3
            replace hx412_4 := up_ HB hx412_4
            replace hx412_5 := up_ HB hx412_5
            replace hx412_6 := up_ HB hx412_6
            replace hx412_7 := up_ HB hx412_7
            replace hx412_8 := up_ HB hx412_8
            replace hx412_9 := up_ HB hx412_9
            replace hx412_10 := up_ HB hx412_10
            replace hx412_11 := up_ HB hx412_11
            have HR412_2 := mk_ hi412_2
            have HC412_2 := mk_ hl412_2
            clear hi412_2 hl412_2
            have HR412_10 := mk_ hi412_10
            have HC412_10 := mk_ hl412_10
            clear hi412_10 hl412_10
            have HR412_11 := mk_ hi412_11
            have HC412_11 := mk_ hl412_11
            clear hi412_11 hl412_11
            replace p412 := eq_true p412
            replace q412 := eq_true q412
            go_wp2_with (first | ((with_reducible refine aT (f := 16) rfl ?_); refine Short.gL (some 64) Try.func16 #[.agg #[.int .i64 ((aK l0_6 x4_3).f0.f0), .int .i64 ((aK l0_6 x4_3).f0.f1), .slice A412_2 ((aK l0_6 x4_3).f1).length c412_2, .int .i64 ((aK l0_6 x4_3).f2.f0), .int .i64 ((aK l0_6 x4_3).f2.f1), .int .i64 ((aK l0_6 x4_3).f2.f2), .int .i64 ((aK l0_6 x4_3).f3), .int .i64 ((aK l0_6 x4_3).f4), .string ((aK l0_6 x4_3).f5), .int .i64 ((aK l0_6 x4_3).f6), .slice A412_10 ((aK l0_6 x4_3).f7).length c412_10, .slice A412_11 ((aK l0_6 x4_3).f8).length c412_11]] (h := ?_); (with_reducible refine (dK.calls ((aK l0_6 x4_3).f0.f0) ((aK l0_6 x4_3).f0.f1) _ _ ((aK l0_6 x4_3).f1) ((aK l0_6 x4_3).f2.f0) ((aK l0_6 x4_3).f2.f1) ((aK l0_6 x4_3).f2.f2) ((aK l0_6 x4_3).f3) ((aK l0_6 x4_3).f4) ((aK l0_6 x4_3).f5) ((aK l0_6 x4_3).f6) _ _ ((aK l0_6 x4_3).f7) _ _ ((aK l0_6 x4_3).f8) false _ ?side1 ?side2 ?side3 ?side4 ?side5 ?side6 A32.out).mono ?_); (case side1 => exact cX_ (aV HR412_2.out HB.out)); (case side2 => exact HC412_2.out); (case side3 => exact cX_ (aV HR412_10.out HB.out)); (case side4 => exact HC412_10.out); (case side5 => exact cX_ (aV HR412_11.out HB.out)); (case side6 => exact HC412_11.out); rintro e w37 ⟨rfl, hb⟩; refine ⟨_, rfl, ?_⟩; have n0_ := mk_ (bB_ BK407 hb); have n1_ := mk_ (aI (Short.hB HB) hb); clear BK407 HB; revert n0_ n1_; intro BK407 HB; (try clear hb)))
            go_ret
            exact ⟨q0, Short.hB HB⟩
          ·
           rw [if_neg c31] at H
           exact absurd H (by simp)
         ·
          rw [if_neg c30] at H
          have c30b0 : decide (x4_3 < (l0_6.length : Int)) = false := decide_eq_false c30
          clear c30
          have H' := mk_ H
          clear H
          have hcz38_0 : wr.cell? ⟨gb407, 0, none⟩ = some (.slice A0_0 l0_0.length c0_0) := kc_ BK407 0
          have hcz38_1 : wr.cell? ⟨gb407, 1, none⟩ = some (.int .i64 a0_1) := kc_ BK407 1
          have hcz38_2 : wr.cell? ⟨gb407, 2, none⟩ = some (.int .i64 a0_2) := kc_ BK407 2
          have hcz38_3 : wr.cell? ⟨gb407, 3, none⟩ = some (.int .i64 a0_3) := kc_ BK407 3
          have hcz38_4 : wr.cell? ⟨gb407, 4, none⟩ = some (.slice A0_4 l0_4.length c0_4) := kc_ BK407 4
          have hcz38_5 : wr.cell? ⟨gb407, 5, none⟩ = some (.slice A0_5 l0_5.length c0_5) := kc_ BK407 5
          have hcz38_6 : wr.cell? ⟨gb407, 6, none⟩ = some (.slice A0_6 l0_6.length c0_6) := kc_ BK407 6
          have hfz38_0 := aH BK407.out
          go_wp2
          go_loopg [5] k3 (fun kq v5 w' => ∃ (x5_4 : Int), v5 = .int .i64 x5_4 ∧ Aside0 (aD.l2 kq x5_4 l0_0 a0_1 a0_2 a0_3 l0_4 l0_5 l0_6 = some r) ∧ Aside0 (kq ≤ k3) ∧ Aside0 (w'.heap[gb407]? = some (.cells #[(.slice A0_0 l0_0.length c0_0), .int .i64 a0_1, .int .i64 a0_2, .int .i64 a0_3, (.slice A0_4 l0_4.length c0_4), (.slice A0_5 l0_5.length c0_5), (.slice A0_6 l0_6.length c0_6)] 31 (0, 0))) ∧ Aside0 (Below w.heap.size w w'))
          case atStart => exact ⟨(0), z3_, H', ⟨Nat.le_refl _⟩, ⟨by (with_reducible repeat (first | refine aG ?_ _ | refine aJ ?_ | refine aE ?_ _)); exact BK407.out⟩, ⟨Short.hB HB⟩⟩
          case round =>
           clear H'
           try clear c30
           try clear c30b0
           try clear hcz38_0
           try clear hcz38_1
           try clear hcz38_2
           try clear hcz38_3
           try clear hcz38_4
           try clear hcz38_5
           try clear hcz38_6
           try clear hfz38_0
           obtain ⟨x5_4, rfl, HA, HK4, BK407, HB⟩ := hrel
           cases gk with
           | zero => exact absurd HA.out (by simp [aD.l2])
           | succ k4 =>
            have H := HA.out
            clear HA
            simp only [aD.l2] at H
            by_cases c39 : x5_4 < (l0_4.length : Int)
            ·
             rw [if_pos c39] at H
             have c39b0 : decide (x5_4 < (l0_4.length : Int)) = true := decide_eq_true c39
             clear c39
             by_cases c40 : 0 ≤ x5_4
             ·
              rw [if_pos c40] at H
              have c40b0 : decide (0 ≤ x5_4) = true := decide_eq_true c40
              clear c40
              by_cases c41 : ((aX l0_4 x5_4).length : Int) > 65535
              ·
               rw [if_pos c41] at H
               have c41b0 : decide (65535 < ((aX l0_4 x5_4).length : Int)) = true := decide_eq_true c41
               have c41b1 : decide (65535 < (aX l0_4 x5_4).length) = true := decide_eq_true z2_
               clear c41
               obtain rfl := Option.some.inj H
               have hcz42_0 : wr.cell? ⟨gb407, 0, none⟩ = some (.slice A0_0 l0_0.length c0_0) := kc_ BK407 0
               have hcz42_1 : wr.cell? ⟨gb407, 1, none⟩ = some (.int .i64 a0_1) := kc_ BK407 1
               have hcz42_2 : wr.cell? ⟨gb407, 2, none⟩ = some (.int .i64 a0_2) := kc_ BK407 2
               have hcz42_3 : wr.cell? ⟨gb407, 3, none⟩ = some (.int .i64 a0_3) := kc_ BK407 3
               have hcz42_4 : wr.cell? ⟨gb407, 4, none⟩ = some (.slice A0_4 l0_4.length c0_4) := kc_ BK407 4
               have hcz42_5 : wr.cell? ⟨gb407, 5, none⟩ = some (.slice A0_5 l0_5.length c0_5) := kc_ BK407 5
               have hcz42_6 : wr.cell? ⟨gb407, 6, none⟩ = some (.slice A0_6 l0_6.length c0_6) := kc_ BK407 6
               have hfz42_0 := aH BK407.out
               have p414 : 0 ≤ (x5_4 : Int) := of_decide_eq_true z0_
               have q414 : x5_4 < (l0_4.length : Int) := of_decide_eq_true z0_
               obtain ⟨ad414, A414_0, c414_0, e414, hx414_0, hl414_0, hi414_0⟩ := gP HR0_4.out x5_4 p414 q414
               cases e414
               replace hx414_0 := up_ HB hx414_0
               have HR414_0 := mk_ hi414_0
               have HC414_0 := mk_ hl414_0
               clear hi414_0 hl414_0
               replace p414 := eq_true p414
               replace q414 := eq_true q414
               go_wp2
               go_ret
               exact ⟨q0, Short.hB HB⟩
              ·
               rw [if_neg c41] at H
               have c41b0 : decide (65535 < ((aX l0_4 x5_4).length : Int)) = false := decide_eq_false c41
               have c41b1 : decide (65535 < (aX l0_4 x5_4).length) = false := decide_eq_false z2_
               clear c41
               have H' := mk_ H
               clear H
               have hcz43_0 : wr.cell? ⟨gb407, 0, none⟩ = some (.slice A0_0 l0_0.length c0_0) := kc_ BK407 0
               have hcz43_1 : wr.cell? ⟨gb407, 1, none⟩ = some (.int .i64 a0_1) := kc_ BK407 1
               have hcz43_2 : wr.cell? ⟨gb407, 2, none⟩ = some (.int .i64 a0_2) := kc_ BK407 2
               have hcz43_3 : wr.cell? ⟨gb407, 3, none⟩ = some (.int .i64 a0_3) := kc_ BK407 3
               have hcz43_4 : wr.cell? ⟨gb407, 4, none⟩ = some (.slice A0_4 l0_4.length c0_4) := kc_ BK407 4
               have hcz43_5 : wr.cell? ⟨gb407, 5, none⟩ = some (.slice A0_5 l0_5.length c0_5) := kc_ BK407 5
               have hcz43_6 : wr.cell? ⟨gb407, 6, none⟩ = some (.slice A0_6 l0_6.length c0_6) := kc_ BK407 6
               have hfz43_0 := aH BK407.out
               have p414 : 0 ≤ (x5_4 : Int) := of_decide_eq_true z0_
               have q414 : x5_4 < (l0_4.length : Int) := of_decide_eq_true z0_
               obtain ⟨ad414, A414_0, c414_0, e414, hx414_0, hl414_0, hi414_0⟩ := gP HR0_4.out x5_4 p414 q414
               cases e414
               replace hx414_0 := up_ HB hx414_0
               have HR414_0 := mk_ hi414_0
               have HC414_0 := mk_ hl414_0
               clear hi414_0 hl414_0
               replace p414 := eq_true p414
               replace q414 := eq_true q414
               go_wp2
               go_loopg [6] k4 (fun kq v6 w' => ∃ (x6_5 : Int), v6 = .int .i64 x6_5 ∧ Aside0 (aD.l3 kq x5_4 x6_5 l0_0 a0_1 a0_2 a0_3 l0_4 l0_5 l0_6 = some r) ∧ Aside0 (kq ≤ k4) ∧ Aside0 (w'.heap[gb407]? = some (.cells #[(.slice A0_0 l0_0.length c0_0), .int .i64 a0_1, .int .i64 a0_2, .int .i64 a0_3, (.slice (some ad414) l0_4.length c0_4), (.slice A0_5 l0_5.length c0_5), (.slice A0_6 l0_6.length c0_6)] 31 (0, 0))) ∧ Aside0 (Below w.heap.size w w'))
               case atStart => exact ⟨(0), z3_, H', ⟨Nat.le_refl _⟩, ⟨by (with_reducible repeat (first | refine aG ?_ _ | refine aJ ?_ | refine aE ?_ _)); exact BK407.out⟩, ⟨Short.hB HB⟩⟩
               case round =>
                clear H'
                try clear c39
                try clear c39b0
                try clear c40
                try clear c40b0
                try clear c41
                try clear c41b0
                try clear c41b1
                try clear hcz43_0
                try clear hcz43_1
                try clear hcz43_2
                try clear hcz43_3
                try clear hcz43_4
                try clear hcz43_5
                try clear hcz43_6
                try clear hfz43_0
                try clear hx414_0
                try clear p414
                try clear q414
                obtain ⟨x6_5, rfl, HA, HK5, BK407, HB⟩ := hrel
                cases gk with
                | zero => exact absurd HA.out (by simp [aD.l3])
                | succ k5 =>
                 have H := HA.out
                 clear HA
                 simp only [aD.l3] at H
                 by_cases c44 : 0 ≤ x5_4
                 ·
                  rw [if_pos c44] at H
                  have c44b0 : decide (0 ≤ x5_4) = true := decide_eq_true c44
                  clear c44
                  by_cases c45 : x5_4 < (l0_4.length : Int)
                  ·
                   rw [if_pos c45] at H
                   have c45b0 : decide (x5_4 < (l0_4.length : Int)) = true := decide_eq_true c45
                   clear c45
                   by_cases c46 : x6_5 < ((aX l0_4 x5_4).length : Int)
                   ·
                    rw [if_pos c46] at H
                    have c46b0 : decide (x6_5 < ((aX l0_4 x5_4).length : Int)) = true := decide_eq_true c46
                    clear c46
                    by_cases c47 : 0 ≤ x6_5
                    ·
                     rw [if_pos c47] at H
                     have c47b0 : decide (0 ≤ x6_5) = true := decide_eq_true c47
                     clear c47
                     have HC48 := mk_ H
                     clear H
                     have hcz49_0 : wr.cell? ⟨gb407, 0, none⟩ = some (.slice A0_0 l0_0.length c0_0) := kc_ BK407 0
                     have hcz49_1 : wr.cell? ⟨gb407, 1, none⟩ = some (.int .i64 a0_1) := kc_ BK407 1
                     have hcz49_2 : wr.cell? ⟨gb407, 2, none⟩ = some (.int .i64 a0_2) := kc_ BK407 2
                     have hcz49_3 : wr.cell? ⟨gb407, 3, none⟩ = some (.int .i64 a0_3) := kc_ BK407 3
                     have hcz49_4 : wr.cell? ⟨gb407, 4, none⟩ = some (.slice (some ad414) l0_4.length c0_4) := kc_ BK407 4
                     have hcz49_5 : wr.cell? ⟨gb407, 5, none⟩ = some (.slice A0_5 l0_5.length c0_5) := kc_ BK407 5
                     have hcz49_6 : wr.cell? ⟨gb407, 6, none⟩ = some (.slice A0_6 l0_6.length c0_6) := kc_ BK407 6
                     have hfz49_0 := aH BK407.out
                     have p415 : 0 ≤ (x5_4 : Int) := of_decide_eq_true z0_
                     have q415 : x5_4 < (l0_4.length : Int) := of_decide_eq_true z0_
                     obtain ⟨ad415, A415_0, c415_0, e415, hx415_0, hl415_0, hi415_0⟩ := gP HR0_4.out x5_4 p415 q415
                     obtain rfl : ad414 = ad415 := (by injection e415)
                     replace hx415_0 := up_ HB hx415_0
                     have HR415_0 := mk_ hi415_0
                     have HC415_0 := mk_ hl415_0
                     clear hi415_0 hl415_0
                     replace p415 := eq_true p415
                     replace q415 := eq_true q415
                     have p416 : 0 ≤ (x5_4 : Int) := of_decide_eq_true z0_
                     have q416 : x5_4 < (l0_4.length : Int) := of_decide_eq_true z0_
                     obtain ⟨ad416, A416_0, c416_0, e416, hx416_0, hl416_0, hi416_0⟩ := gP HR0_4.out x5_4 p416 q416
                     obtain rfl : ad414 = ad416 := (by injection e416)
                     replace hx416_0 := up_ HB hx416_0
                     have HR416_0 := mk_ hi416_0
                     have HC416_0 := mk_ hl416_0
                     clear hi416_0 hl416_0
                     replace p416 := eq_true p416
                     replace q416 := eq_true q416
                     have ea_ := Option.some.inj (hx415_0.symm.trans hx416_0)
                     injection ea_ with ea_ en_ ec_
                     subst ea_
                     subst ec_
                     clear en_
                     have p417 : 0 ≤ (x6_5 : Int) := of_decide_eq_true z0_
                     have q417 : x6_5 < ((aX l0_4 x5_4).length : Int) := of_decide_eq_true z0_
                     obtain ⟨ad417, A417_1, c417_1, A417_2, c417_2, e417, hx417_0, hx417_1, hx417_2, hl417_1, hi417_1, hl417_2, hi417_2⟩ := fD HR416_0.out x6_5 p417 q417
                     cases e417
                     replace hx417_0 := up_ HB hx417_0
                     replace hx417_1 := up_ HB hx417_1
                     replace hx417_2 := up_ HB hx417_2
                     have HR417_1 := mk_ hi417_1
                     have HC417_1 := mk_ hl417_1
                     clear hi417_1 hl417_1
                     have HR417_2 := mk_ hi417_2
                     have HC417_2 := mk_ hl417_2
                     clear hi417_2 hl417_2
                     replace p417 := eq_true p417
                     replace q417 := eq_true q417
                     go_upto_region 22 with (first | ((with_reducible refine bP (N := 7) rfl ?_); (try (refine fP (by rfl) ?_; dsimp only)); refine bL ?hg (N := 7) ?hd (cs := #[.string (⟨#[]⟩ : ByteArray), .slice none 0 0, .slice none 0 0]) (t := 80) ?hr ?_; (case hd => rfl); (case hg => rfl); (case hr => first | (go_simp; done) | (go_simp; rfl)); intro gb418 hg w50 hbox hb; have n0_ := mk_ (bB_ BK407 hb); have n1_ := mk_ (aI (Short.hB HB) hb); have n2_ := mk_ (hbox); have n3_ := mk_ ((by rw [hg]; exact (aN (Short.hB HB)) : w.heap.size ≤ gb418)); have n4_ := mk_ ((by rw [hg]; exact (aN (Short.hB HB)) : w.heap.size ≤ gb418)); have n5_ := mk_ ((by rw [hg]; exact Nat.ne_of_lt (eG (Short.bK BK407)) : gb407 ≠ gb418)); have n6_ := mk_ ((by rw [hg]; exact Nat.ne_of_gt (eG (Short.bK BK407)) : gb418 ≠ gb407)); clear BK407 HB; revert n0_ n1_ n2_ n3_ n4_ n5_ n6_; intro BK407 HB BK418 GW418 GE418 NB407_418 NB418_407; clear hb hbox hg; have hnb51 := NB418_407.out; have hnc51 := NB407_418.out; obtain ⟨hcz52_0, hcz52_1, hcz52_2, hfz52_0, hfz52_1, hfz52_2⟩ := Short.c3 BK418.out))
                     (try simp only [Act.put, List.setIfInBounds_toArray, List.set_cons_zero, List.set_cons_succ])
                     go_cut [113] (fun v113 wc => ∃ (kq : Nat) (x113_47 : Bool), v113 = .bool x113_47 ∧ Aside0 (aD.j5 kq x5_4 x6_5 x113_47 l0_0 a0_1 a0_2 a0_3 l0_4 l0_5 l0_6 ((aU (aX l0_4 x5_4) x6_5).f0) ((aU (aX l0_4 x5_4) x6_5).f1) ((aU (aX l0_4 x5_4) x6_5).f2) = some r) ∧ Aside0 (kq ≤ k5) ∧ Aside0 (wc.heap[gb407]? = some (.cells #[(.slice A0_0 l0_0.length c0_0), .int .i64 a0_1, .int .i64 a0_2, .int .i64 a0_3, (.slice (some ad414) l0_4.length c0_4), (.slice A0_5 l0_5.length c0_5), (.slice A0_6 l0_6.length c0_6)] 31 (0, 0))) ∧ Aside0 (wc.heap[gb418]? = some (.cells #[.string ((aU (aX l0_4 x5_4) x6_5).f0), (.slice A417_1 ((aU (aX l0_4 x5_4) x6_5).f1).length c417_1), (.slice A417_2 ((aU (aX l0_4 x5_4) x6_5).f2).length c417_2)] 80 (0, 0))) ∧ Aside0 (Below w.heap.size w wc))
                     case first =>
                      have H := HC48.out
                      clear HC48
                      by_cases c53 : (((aU (aX l0_4 x5_4) x6_5).f0).size : Int) > 24
                      ·
                       rw [if_pos c53] at H
                       have c53b0 : decide (24 < (((aU (aX l0_4 x5_4) x6_5).f0).size : Int)) = true := decide_eq_true c53
                       have c53b1 : decide (24 < ((aU (aX l0_4 x5_4) x6_5).f0).size) = true := decide_eq_true z2_
                       clear c53
                       (first | rw [c53b0] | (simp only [i64_w, i32_w]; rw [c53b0]) | skip)
                       have H' := mk_ H
                       clear H
                       have hnb54 := NB418_407.out
                       have hnc54 := NB407_418.out
                       obtain ⟨hcz55_0, hcz55_1, hcz55_2, hfz55_0, hfz55_1, hfz55_2⟩ := Short.c3 BK418.out
                       go_wp2
                       go_meet
                       case rel => exact ⟨_, (true), z3_, H', ⟨by have := HJ1.out; have := HK2.out; have := HK3.out; have := HK4.out; have := HK5.out; first | omega | exact Nat.le_refl _⟩, ⟨by (with_reducible repeat (first | refine aG ?_ _ | refine aJ ?_ | refine aE ?_ _)); refine dW ?_ NB407_418.out _; (with_reducible repeat (first | refine aG ?_ _ | refine aJ ?_ | refine aE ?_ _)); refine dW ?_ NB407_418.out _; (with_reducible repeat (first | refine aG ?_ _ | refine aJ ?_ | refine aE ?_ _)); refine dW ?_ NB407_418.out _; (with_reducible repeat (first | refine aG ?_ _ | refine aJ ?_ | refine aE ?_ _)); exact BK407.out⟩, ⟨by (with_reducible repeat (first | refine aG ?_ _ | refine aJ ?_ | refine aE ?_ _)); refine bJ (cs := #[.string ((aU (aX l0_4 x5_4) x6_5).f0), .slice A417_1 ((aU (aX l0_4 x5_4) x6_5).f1).length c417_1, .slice none 0 0]) ?_ 2 _ rfl; (with_reducible repeat (first | refine aG ?_ _ | refine aJ ?_ | refine aE ?_ _)); refine bJ (cs := #[.string ((aU (aX l0_4 x5_4) x6_5).f0), .slice none 0 0, .slice none 0 0]) ?_ 1 _ rfl; (with_reducible repeat (first | refine aG ?_ _ | refine aJ ?_ | refine aE ?_ _)); refine bJ (cs := #[.string (⟨#[]⟩ : ByteArray), .slice none 0 0, .slice none 0 0]) ?_ 0 _ rfl; (with_reducible repeat (first | refine aG ?_ _ | refine aJ ?_ | refine aE ?_ _)); exact BK418.out⟩, ⟨Short.hB HB⟩⟩
                      ·
                       rw [if_neg c53] at H
                       have c53b0 : decide (24 < (((aU (aX l0_4 x5_4) x6_5).f0).size : Int)) = false := decide_eq_false c53
                       have c53b1 : decide (24 < ((aU (aX l0_4 x5_4) x6_5).f0).size) = false := decide_eq_false z2_
                       clear c53
                       (first | rw [c53b0] | (simp only [i64_w, i32_w]; rw [c53b0]) | skip)
                       by_cases c56 : (((aU (aX l0_4 x5_4) x6_5).f1).length : Int) > 255
                       ·
                        rw [if_pos c56] at H
                        have c56b0 : decide (255 < (((aU (aX l0_4 x5_4) x6_5).f1).length : Int)) = true := decide_eq_true c56
                        have c56b1 : decide (255 < ((aU (aX l0_4 x5_4) x6_5).f1).length) = true := decide_eq_true z2_
                        clear c56
                        have H' := mk_ H
                        clear H
                        have hnb57 := NB418_407.out
                        have hnc57 := NB407_418.out
                        obtain ⟨hcz58_0, hcz58_1, hcz58_2, hfz58_0, hfz58_1, hfz58_2⟩ := Short.c3 BK418.out
                        go_wp2
                        go_meet
                        case rel => exact ⟨_, (true), z3_, H', ⟨by have := HJ1.out; have := HK2.out; have := HK3.out; have := HK4.out; have := HK5.out; first | omega | exact Nat.le_refl _⟩, ⟨by (with_reducible repeat (first | refine aG ?_ _ | refine aJ ?_ | refine aE ?_ _)); refine dW ?_ NB407_418.out _; (with_reducible repeat (first | refine aG ?_ _ | refine aJ ?_ | refine aE ?_ _)); refine dW ?_ NB407_418.out _; (with_reducible repeat (first | refine aG ?_ _ | refine aJ ?_ | refine aE ?_ _)); refine dW ?_ NB407_418.out _; (with_reducible repeat (first | refine aG ?_ _ | refine aJ ?_ | refine aE ?_ _)); exact BK407.out⟩, ⟨by (with_reducible repeat (first | refine aG ?_ _ | refine aJ ?_ | refine aE ?_ _)); refine bJ (cs := #[.string ((aU (aX l0_4 x5_4) x6_5).f0), .slice A417_1 ((aU (aX l0_4 x5_4) x6_5).f1).length c417_1, .slice none 0 0]) ?_ 2 _ rfl; (with_reducible repeat (first | refine aG ?_ _ | refine aJ ?_ | refine aE ?_ _)); refine bJ (cs := #[.string ((aU (aX l0_4 x5_4) x6_5).f0), .slice none 0 0, .slice none 0 0]) ?_ 1 _ rfl; (with_reducible repeat (first | refine aG ?_ _ | refine aJ ?_ | refine aE ?_ _)); refine bJ (cs := #[.string (⟨#[]⟩ : ByteArray), .slice none 0 0, .slice none 0 0]) ?_ 0 _ rfl; (with_reducible repeat (first | refine aG ?_ _ | refine aJ ?_ | refine aE ?_ _)); exact BK418.out⟩, ⟨Short.hB HB⟩⟩
                       ·
                        rw [if_neg c56] at H
                        have c56b0 : decide (255 < (((aU (aX l0_4 x5_4) x6_5).f1).length : Int)) = false := decide_eq_false c56
                        have c56b1 : decide (255 < ((aU (aX l0_4 x5_4) x6_5).f1).length) = false := decide_eq_false z2_
                        clear c56
                        have H' := mk_ H
                        clear H
                        have hnb59 := NB418_407.out
                        have hnc59 := NB407_418.out
                        obtain ⟨hcz60_0, hcz60_1, hcz60_2, hfz60_0, hfz60_1, hfz60_2⟩ := Short.c3 BK418.out
                        go_wp2
                        go_meet
                        case rel => exact ⟨_, (decide ((((aU (aX l0_4 x5_4) x6_5).f2).length : Int) > 255)), z3_, H', ⟨by have := HJ1.out; have := HK2.out; have := HK3.out; have := HK4.out; have := HK5.out; first | omega | exact Nat.le_refl _⟩, ⟨by (with_reducible repeat (first | refine aG ?_ _ | refine aJ ?_ | refine aE ?_ _)); refine dW ?_ NB407_418.out _; (with_reducible repeat (first | refine aG ?_ _ | refine aJ ?_ | refine aE ?_ _)); refine dW ?_ NB407_418.out _; (with_reducible repeat (first | refine aG ?_ _ | refine aJ ?_ | refine aE ?_ _)); refine dW ?_ NB407_418.out _; (with_reducible repeat (first | refine aG ?_ _ | refine aJ ?_ | refine aE ?_ _)); exact BK407.out⟩, ⟨by (with_reducible repeat (first | refine aG ?_ _ | refine aJ ?_ | refine aE ?_ _)); refine bJ (cs := #[.string ((aU (aX l0_4 x5_4) x6_5).f0), .slice A417_1 ((aU (aX l0_4 x5_4) x6_5).f1).length c417_1, .slice none 0 0]) ?_ 2 _ rfl; (with_reducible repeat (first | refine aG ?_ _ | refine aJ ?_ | refine aE ?_ _)); refine bJ (cs := #[.string ((aU (aX l0_4 x5_4) x6_5).f0), .slice none 0 0, .slice none 0 0]) ?_ 1 _ rfl; (with_reducible repeat (first | refine aG ?_ _ | refine aJ ?_ | refine aE ?_ _)); refine bJ (cs := #[.string (⟨#[]⟩ : ByteArray), .slice none 0 0, .slice none 0 0]) ?_ 0 _ rfl; (with_reducible repeat (first | refine aG ?_ _ | refine aJ ?_ | refine aE ?_ _)); exact BK418.out⟩, ⟨Short.hB HB⟩⟩
                     case rest => as_aux_lemma =>
                      clear HC48
                      try clear c3
                      try clear c44
                      try clear c44b0
                      try clear c45
                      try clear c45b0
                      try clear c46
                      try clear c46b0
                      try clear c47
                      try clear c47b0
                      try clear hcz49_0
                      try clear hcz49_1
                      try clear hcz49_2
                      try clear hcz49_3
                      try clear hcz49_4
                      try clear hcz49_5
                      try clear hcz49_6
                      try clear hcz52_0
                      try clear hcz52_1
                      try clear hcz52_2
                      try clear hfz49_0
                      try clear hfz52_0
                      try clear hfz52_1
                      try clear hfz52_2
                      try clear hx415_0
                      try clear hx416_0
                      try clear hx417_0
                      try clear hx417_1
                      try clear hx417_2
                      try clear p415
                      try clear p416
                      try clear p417
                      try clear q415
                      try clear q416
                      try clear q417
                      obtain ⟨kq, x113_47, rfl, HA, HJ47, BK407, BK418, HB⟩ := hcut
                      cases kq with
                      | zero => exact absurd HA.out (by simp [aD.j5])
                      | succ kj47 =>
                       have H := HA.out
                       clear HA
                       simp only [aD.j5] at H
                       by_cases c61 : x113_47 = true
                       ·
                        subst c61
                        rw [if_pos rfl] at H
                        obtain rfl := Option.some.inj H
                        go_wp2
                        go_ret
                        exact ⟨q0, Short.hB HB⟩
                       ·
                        replace c61 := Bool.eq_false_iff.mpr c61
                        subst c61
                        rw [if_neg (show ¬ (false = true) by decide)] at H
                        have H' := mk_ H
                        clear H
                        go_wp2
                        go_loopg [8] kj47 (fun kq v8 w' => ∃ (x8_7 : Int), v8 = .int .i64 x8_7 ∧ Aside0 (aD.l4 kq x5_4 x6_5 x8_7 l0_0 a0_1 a0_2 a0_3 l0_4 l0_5 l0_6 ((aU (aX l0_4 x5_4) x6_5).f0) ((aU (aX l0_4 x5_4) x6_5).f1) ((aU (aX l0_4 x5_4) x6_5).f2) = some r) ∧ Aside0 (kq ≤ kj47) ∧ Aside0 (w'.heap[gb407]? = some (.cells #[(.slice A0_0 l0_0.length c0_0), .int .i64 a0_1, .int .i64 a0_2, .int .i64 a0_3, (.slice (some ad414) l0_4.length c0_4), (.slice A0_5 l0_5.length c0_5), (.slice A0_6 l0_6.length c0_6)] 31 (0, 0))) ∧ Aside0 (w'.heap[gb418]? = some (.cells #[.string ((aU (aX l0_4 x5_4) x6_5).f0), (.slice A417_1 ((aU (aX l0_4 x5_4) x6_5).f1).length c417_1), (.slice A417_2 ((aU (aX l0_4 x5_4) x6_5).f2).length c417_2)] 80 (0, 0))) ∧ Aside0 (Below w.heap.size w w'))
                        case atStart => exact ⟨(0), z3_, H', ⟨Nat.le_refl _⟩, ⟨by (with_reducible repeat (first | refine aG ?_ _ | refine aJ ?_ | refine aE ?_ _)); exact BK407.out⟩, ⟨by (with_reducible repeat (first | refine aG ?_ _ | refine aJ ?_ | refine aE ?_ _)); exact BK418.out⟩, ⟨Short.hB HB⟩⟩
                        case round =>
                         clear H'
                         try clear c61
                         obtain ⟨x8_7, rfl, HA, HK7, BK407, BK418, HB⟩ := hrel
                         cases gk with
                         | zero => exact absurd HA.out (by simp [aD.l4])
                         | succ k7 =>
                          have H := HA.out
                          clear HA
                          simp only [aD.l4] at H
                          by_cases c62 : x8_7 < (((aU (aX l0_4 x5_4) x6_5).f1).length : Int)
                          ·
                           rw [if_pos c62] at H
                           have c62b0 : decide (x8_7 < (((aU (aX l0_4 x5_4) x6_5).f1).length : Int)) = true := decide_eq_true c62
                           clear c62
                           by_cases c63 : 0 ≤ x8_7
                           ·
                            rw [if_pos c63] at H
                            have c63b0 : decide (0 ≤ x8_7) = true := decide_eq_true c63
                            clear c63
                            obtain ⟨t420, A64, H⟩ := Option.bind_eq_some_iff.mp H
                            replace A64 := mk_ A64
                            by_cases c65 : t420 = true
                            ·
                             subst c65
                             rw [if_pos rfl] at H
                             have H' := mk_ H
                             clear H
                             have hnb66 := NB418_407.out
                             have hnc66 := NB407_418.out
                             obtain ⟨hcz67_0, hcz67_1, hcz67_2, hfz67_0, hfz67_1, hfz67_2⟩ := Short.c3 BK418.out
                             have p419 : 0 ≤ (x8_7 : Int) := of_decide_eq_true z0_
                             have q419 : x8_7 < (((aU (aX l0_4 x5_4) x6_5).f1).length : Int) := of_decide_eq_true z0_
                             obtain ⟨ad419, e419, hx419_0, hx419_1⟩ := gQ HR417_1.out x8_7 p419 q419
                             cases e419
                             replace hx419_0 := up_ HB hx419_0
                             replace hx419_1 := up_ HB hx419_1
                             replace p419 := eq_true p419
                             replace q419 := eq_true q419
                             go_wp2_with (first | ((with_reducible refine aT (f := 70) rfl ?_); refine Short.gL (some 126) Try.func70 #[.agg #[.int .i64 ((cL ((aU (aX l0_4 x5_4) x6_5).f1) x8_7).f0), .int .i64 ((cL ((aU (aX l0_4 x5_4) x6_5).f1) x8_7).f1)]] (h := ?_); (with_reducible refine (cQ.calls ((cL ((aU (aX l0_4 x5_4) x6_5).f1) x8_7).f0) ((cL ((aU (aX l0_4 x5_4) x6_5).f1) x8_7).f1) true _ A64.out).mono ?_); rintro e w68 ⟨rfl, hb⟩; refine ⟨_, rfl, ?_⟩; have n0_ := mk_ (bB_ BK407 hb); have n1_ := mk_ (bB_ BK418 hb); have n2_ := mk_ (aI (Short.hB HB) hb); clear BK407 BK418 HB; revert n0_ n1_ n2_; intro BK407 BK418 HB; (try clear hb)))
                             go_roundg k7
                             case measure => have := HJ1.out; have := HK2.out; have := HK3.out; have := HK4.out; have := HK5.out; have := HJ47.out; have := HK7.out; omega
                             case rel => exact ⟨(wrap64 (x8_7 + 1)), z3_, H', ⟨by have := HJ1.out; have := HK2.out; have := HK3.out; have := HK4.out; have := HK5.out; have := HJ47.out; have := HK7.out; omega⟩, ⟨by (with_reducible repeat (first | refine aG ?_ _ | refine aJ ?_ | refine aE ?_ _)); exact BK407.out⟩, ⟨by (with_reducible repeat (first | refine aG ?_ _ | refine aJ ?_ | refine aE ?_ _)); exact BK418.out⟩, ⟨Short.hB HB⟩⟩
                            ·
                             replace c65 := Bool.eq_false_iff.mpr c65
                             subst c65
                             rw [if_neg (show ¬ (false = true) by decide)] at H
                             obtain rfl := Option.some.inj H
                             have hnb69 := NB418_407.out
                             have hnc69 := NB407_418.out
                             obtain ⟨hcz70_0, hcz70_1, hcz70_2, hfz70_0, hfz70_1, hfz70_2⟩ := Short.c3 BK418.out
                             have p419 : 0 ≤ (x8_7 : Int) := of_decide_eq_true z0_
                             have q419 : x8_7 < (((aU (aX l0_4 x5_4) x6_5).f1).length : Int) := of_decide_eq_true z0_
                             obtain ⟨ad419, e419, hx419_0, hx419_1⟩ := gQ HR417_1.out x8_7 p419 q419
                             cases e419
                             replace hx419_0 := up_ HB hx419_0
                             replace hx419_1 := up_ HB hx419_1
                             replace p419 := eq_true p419
                             replace q419 := eq_true q419
                             go_wp2_with (first | ((with_reducible refine aT (f := 70) rfl ?_); refine Short.gL (some 126) Try.func70 #[.agg #[.int .i64 ((cL ((aU (aX l0_4 x5_4) x6_5).f1) x8_7).f0), .int .i64 ((cL ((aU (aX l0_4 x5_4) x6_5).f1) x8_7).f1)]] (h := ?_); (with_reducible refine (cQ.calls ((cL ((aU (aX l0_4 x5_4) x6_5).f1) x8_7).f0) ((cL ((aU (aX l0_4 x5_4) x6_5).f1) x8_7).f1) false _ A64.out).mono ?_); rintro e w71 ⟨rfl, hb⟩; refine ⟨_, rfl, ?_⟩; have n0_ := mk_ (bB_ BK407 hb); have n1_ := mk_ (bB_ BK418 hb); have n2_ := mk_ (aI (Short.hB HB) hb); clear BK407 BK418 HB; revert n0_ n1_ n2_; intro BK407 BK418 HB; (try clear hb)))
                             go_ret
                             exact ⟨q0, Short.hB HB⟩
                           ·
                            rw [if_neg c63] at H
                            exact absurd H (by simp)
                          ·
                           rw [if_neg c62] at H
                           have c62b0 : decide (x8_7 < (((aU (aX l0_4 x5_4) x6_5).f1).length : Int)) = false := decide_eq_false c62
                           clear c62
                           have H' := mk_ H
                           clear H
                           have hnb72 := NB418_407.out
                           have hnc72 := NB407_418.out
                           obtain ⟨hcz73_0, hcz73_1, hcz73_2, hfz73_0, hfz73_1, hfz73_2⟩ := Short.c3 BK418.out
                           go_wp2
                           go_loopg [9] k7 (fun kq v9 w' => ∃ (x9_8 : Int), v9 = .int .i64 x9_8 ∧ Aside0 (aD.l5 kq x5_4 x6_5 x9_8 l0_0 a0_1 a0_2 a0_3 l0_4 l0_5 l0_6 ((aU (aX l0_4 x5_4) x6_5).f0) ((aU (aX l0_4 x5_4) x6_5).f1) ((aU (aX l0_4 x5_4) x6_5).f2) = some r) ∧ Aside0 (kq ≤ k7) ∧ Aside0 (w'.heap[gb407]? = some (.cells #[(.slice A0_0 l0_0.length c0_0), .int .i64 a0_1, .int .i64 a0_2, .int .i64 a0_3, (.slice (some ad414) l0_4.length c0_4), (.slice A0_5 l0_5.length c0_5), (.slice A0_6 l0_6.length c0_6)] 31 (0, 0))) ∧ Aside0 (w'.heap[gb418]? = some (.cells #[.string ((aU (aX l0_4 x5_4) x6_5).f0), (.slice A417_1 ((aU (aX l0_4 x5_4) x6_5).f1).length c417_1), (.slice A417_2 ((aU (aX l0_4 x5_4) x6_5).f2).length c417_2)] 80 (0, 0))) ∧ Aside0 (Below w.heap.size w w'))
                           case atStart => exact ⟨(0), z3_, H', ⟨Nat.le_refl _⟩, ⟨by (with_reducible repeat (first | refine aG ?_ _ | refine aJ ?_ | refine aE ?_ _)); exact BK407.out⟩, ⟨by (with_reducible repeat (first | refine aG ?_ _ | refine aJ ?_ | refine aE ?_ _)); exact BK418.out⟩, ⟨Short.hB HB⟩⟩
                           case round =>
                            clear H'
                            try clear c3
                            try clear c62
                            try clear c62b0
                            try clear hcz73_0
                            try clear hcz73_1
                            try clear hcz73_2
                            try clear hfz73_0
                            try clear hfz73_1
                            try clear hfz73_2
                            obtain ⟨x9_8, rfl, HA, HK8, BK407, BK418, HB⟩ := hrel
                            cases gk with
                            | zero => exact absurd HA.out (by simp [aD.l5])
                            | succ k8 =>
                             have H := HA.out
                             clear HA
                             simp only [aD.l5] at H
                             by_cases c74 : x9_8 < (((aU (aX l0_4 x5_4) x6_5).f2).length : Int)
                             ·
                              rw [if_pos c74] at H
                              have c74b0 : decide (x9_8 < (((aU (aX l0_4 x5_4) x6_5).f2).length : Int)) = true := decide_eq_true c74
                              clear c74
                              by_cases c75 : 0 ≤ x9_8
                              ·
                               rw [if_pos c75] at H
                               have c75b0 : decide (0 ≤ x9_8) = true := decide_eq_true c75
                               clear c75
                               obtain ⟨t422, A76, H⟩ := Option.bind_eq_some_iff.mp H
                               replace A76 := mk_ A76
                               by_cases c77 : t422 = true
                               ·
                                subst c77
                                rw [if_pos rfl] at H
                                obtain ⟨t424, A78, H⟩ := Option.bind_eq_some_iff.mp H
                                replace A78 := mk_ A78
                                by_cases c79 : t424 = true
                                ·
                                 subst c79
                                 rw [if_pos rfl] at H
                                 obtain ⟨t426, A80, H⟩ := Option.bind_eq_some_iff.mp H
                                 replace A80 := mk_ A80
                                 by_cases c81 : t426 = true
                                 ·
                                  subst c81
                                  rw [if_pos rfl] at H
                                  have H' := mk_ H
                                  clear H
                                  have hnb82 := NB418_407.out
                                  have hnc82 := NB407_418.out
                                  obtain ⟨hcz_0, hcz_1, hcz_2, hfz_0, hfz_1, hfz_2⟩ := Short.c3 BK418.out
                                  have p421 : 0 ≤ (x9_8 : Int) := of_decide_eq_true z0_
                                  have q421 : x9_8 < (((aU (aX l0_4 x5_4) x6_5).f2).length : Int) := of_decide_eq_true z0_
                                  obtain ⟨ad421, e421, hx421_0, hx421_1, hx421_2, hx421_3, hx421_4, hx421_5, hx421_6, hx421_7⟩ := gA HR417_2.out x9_8 p421 q421
                                  cases e421
                                  replace hx421_0 := up_ HB hx421_0
                                  replace hx421_1 := up_ HB hx421_1
                                  replace hx421_2 := up_ HB hx421_2
                                  replace hx421_3 := up_ HB hx421_3
                                  replace hx421_4 := up_ HB hx421_4
                                  replace hx421_5 := up_ HB hx421_5
                                  replace hx421_6 := up_ HB hx421_6
                                  replace hx421_7 := up_ HB hx421_7
                                  replace p421 := eq_true p421
                                  replace q421 := eq_true q421
                                  go_wp2_with (first | ((with_reducible refine aT (f := 71) rfl ?_); refine Short.gL (some 140) Try.func71 #[.agg #[.int .i64 ((aZ ((aU (aX l0_4 x5_4) x6_5).f2) x9_8).f0.f0), .int .i64 ((aZ ((aU (aX l0_4 x5_4) x6_5).f2) x9_8).f0.f1), .string ((aZ ((aU (aX l0_4 x5_4) x6_5).f2) x9_8).f0.f2), .int .i64 ((aZ ((aU (aX l0_4 x5_4) x6_5).f2) x9_8).f1.f0), .int .i64 ((aZ ((aU (aX l0_4 x5_4) x6_5).f2) x9_8).f1.f1), .int .i64 ((aZ ((aU (aX l0_4 x5_4) x6_5).f2) x9_8).f1.f2), .int .i64 ((aZ ((aU (aX l0_4 x5_4) x6_5).f2) x9_8).f2.f0), .int .i64 ((aZ ((aU (aX l0_4 x5_4) x6_5).f2) x9_8).f2.f1)]] (h := ?_); (with_reducible refine (cX.calls ((aZ ((aU (aX l0_4 x5_4) x6_5).f2) x9_8).f0.f0) ((aZ ((aU (aX l0_4 x5_4) x6_5).f2) x9_8).f0.f1) ((aZ ((aU (aX l0_4 x5_4) x6_5).f2) x9_8).f0.f2) ((aZ ((aU (aX l0_4 x5_4) x6_5).f2) x9_8).f1.f0) ((aZ ((aU (aX l0_4 x5_4) x6_5).f2) x9_8).f1.f1) ((aZ ((aU (aX l0_4 x5_4) x6_5).f2) x9_8).f1.f2) ((aZ ((aU (aX l0_4 x5_4) x6_5).f2) x9_8).f2.f0) ((aZ ((aU (aX l0_4 x5_4) x6_5).f2) x9_8).f2.f1) true _ A76.out).mono ?_); rintro e w84 ⟨rfl, hb⟩; refine ⟨_, rfl, ?_⟩; have n0_ := mk_ (bB_ BK407 hb); have n1_ := mk_ (bB_ BK418 hb); have n2_ := mk_ (aI (Short.hB HB) hb); clear BK407 BK418 HB; revert n0_ n1_ n2_; intro BK407 BK418 HB; (try clear hb); obtain ⟨hcz_0, hcz_1, hcz_2, hfz_0, hfz_1, hfz_2⟩ := Short.c3 BK418.out; have p423 : 0 ≤ (x9_8 : Int) := of_decide_eq_true z0_; have q423 : x9_8 < (((aU (aX l0_4 x5_4) x6_5).f2).length : Int) := of_decide_eq_true z0_; obtain ⟨ad423, e423, hx423_0, hx423_1, hx423_2, hx423_3, hx423_4, hx423_5, hx423_6, hx423_7⟩ := gA HR417_2.out x9_8 p423 q423; obtain rfl : ad421 = ad423 := (by injection e423); replace hx423_0 := up_ HB hx423_0; replace hx423_1 := up_ HB hx423_1; replace hx423_2 := up_ HB hx423_2; replace hx423_3 := up_ HB hx423_3; replace hx423_4 := up_ HB hx423_4; replace hx423_5 := up_ HB hx423_5; replace hx423_6 := up_ HB hx423_6; replace hx423_7 := up_ HB hx423_7; replace p423 := eq_true p423; replace q423 := eq_true q423) | (go_at_call 69; (with_reducible refine (bW.calls ((aZ ((aU (aX l0_4 x5_4) x6_5).f2) x9_8).f1.f0) ((aZ ((aU (aX l0_4 x5_4) x6_5).f2) x9_8).f1.f1) ((aZ ((aU (aX l0_4 x5_4) x6_5).f2) x9_8).f1.f2) true _ A78.out).mono ?_); rintro e w86 ⟨rfl, hb⟩; have n0_ := mk_ (bB_ BK407 hb); have n1_ := mk_ (bB_ BK418 hb); have n2_ := mk_ (aI (Short.hB HB) hb); clear BK407 BK418 HB; revert n0_ n1_ n2_; intro BK407 BK418 HB; (try clear hb); (try clear hb2); (try clear hk); (try clear hi); obtain ⟨hcz_0, hcz_1, hcz_2, hfz_0, hfz_1, hfz_2⟩ := Short.c3 BK418.out; have p425 : 0 ≤ (x9_8 : Int) := of_decide_eq_true z0_; have q425 : x9_8 < (((aU (aX l0_4 x5_4) x6_5).f2).length : Int) := of_decide_eq_true z0_; obtain ⟨ad425, e425, hx425_0, hx425_1, hx425_2, hx425_3, hx425_4, hx425_5, hx425_6, hx425_7⟩ := gA HR417_2.out x9_8 p425 q425; obtain rfl : ad421 = ad425 := (by injection e425); replace hx425_0 := up_ HB hx425_0; replace hx425_1 := up_ HB hx425_1; replace hx425_2 := up_ HB hx425_2; replace hx425_3 := up_ HB hx425_3; replace hx425_4 := up_ HB hx425_4; replace hx425_5 := up_ HB hx425_5; replace hx425_6 := up_ HB hx425_6; replace hx425_7 := up_ HB hx425_7; replace p425 := eq_true p425; replace q425 := eq_true q425) | (go_at_call 70; (with_reducible refine (cQ.calls ((aZ ((aU (aX l0_4 x5_4) x6_5).f2) x9_8).f2.f0) ((aZ ((aU (aX l0_4 x5_4) x6_5).f2) x9_8).f2.f1) true _ A80.out).mono ?_); rintro e w88 ⟨rfl, hb⟩; have n0_ := mk_ (bB_ BK407 hb); have n1_ := mk_ (bB_ BK418 hb); have n2_ := mk_ (aI (Short.hB HB) hb); clear BK407 BK418 HB; revert n0_ n1_ n2_; intro BK407 BK418 HB; (try clear hb); (try clear hb2); (try clear hk); (try clear hi)))
                                  go_roundg k8
                                  case measure => have := HJ1.out; have := HK2.out; have := HK3.out; have := HK4.out; have := HK5.out; have := HJ47.out; have := HK7.out; have := HK8.out; omega
                                  case rel => exact ⟨(wrap64 (x9_8 + 1)), z3_, H', ⟨by have := HJ1.out; have := HK2.out; have := HK3.out; have := HK4.out; have := HK5.out; have := HJ47.out; have := HK7.out; have := HK8.out; omega⟩, ⟨by (with_reducible repeat (first | refine aG ?_ _ | refine aJ ?_ | refine aE ?_ _)); exact BK407.out⟩, ⟨by (with_reducible repeat (first | refine aG ?_ _ | refine aJ ?_ | refine aE ?_ _)); exact BK418.out⟩, ⟨Short.hB HB⟩⟩
                                 ·
                                  replace c81 := Bool.eq_false_iff.mpr c81
                                  subst c81
                                  rw [if_neg (show ¬ (false = true) by decide)] at H
                                  obtain rfl := Option.some.inj H
                                  have hnb89 := NB418_407.out
                                  have hnc89 := NB407_418.out
                                  obtain ⟨hcz_0, hcz_1, hcz_2, hfz_0, hfz_1, hfz_2⟩ := Short.c3 BK418.out
                                  have p421 : 0 ≤ (x9_8 : Int) := of_decide_eq_true z0_
                                  have q421 : x9_8 < (((aU (aX l0_4 x5_4) x6_5).f2).length : Int) := of_decide_eq_true z0_
                                  obtain ⟨ad421, e421, hx421_0, hx421_1, hx421_2, hx421_3, hx421_4, hx421_5, hx421_6, hx421_7⟩ := gA HR417_2.out x9_8 p421 q421
                                  cases e421
                                  replace hx421_0 := up_ HB hx421_0
                                  replace hx421_1 := up_ HB hx421_1
                                  replace hx421_2 := up_ HB hx421_2
                                  replace hx421_3 := up_ HB hx421_3
                                  replace hx421_4 := up_ HB hx421_4
                                  replace hx421_5 := up_ HB hx421_5
                                  replace hx421_6 := up_ HB hx421_6
                                  replace hx421_7 := up_ HB hx421_7
                                  replace p421 := eq_true p421
                                  replace q421 := eq_true q421
                                  go_wp2_with (first | ((with_reducible refine aT (f := 71) rfl ?_); refine Short.gL (some 140) Try.func71 #[.agg #[.int .i64 ((aZ ((aU (aX l0_4 x5_4) x6_5).f2) x9_8).f0.f0), .int .i64 ((aZ ((aU (aX l0_4 x5_4) x6_5).f2) x9_8).f0.f1), .string ((aZ ((aU (aX l0_4 x5_4) x6_5).f2) x9_8).f0.f2), .int .i64 ((aZ ((aU (aX l0_4 x5_4) x6_5).f2) x9_8).f1.f0), .int .i64 ((aZ ((aU (aX l0_4 x5_4) x6_5).f2) x9_8).f1.f1), .int .i64 ((aZ ((aU (aX l0_4 x5_4) x6_5).f2) x9_8).f1.f2), .int .i64 ((aZ ((aU (aX l0_4 x5_4) x6_5).f2) x9_8).f2.f0), .int .i64 ((aZ ((aU (aX l0_4 x5_4) x6_5).f2) x9_8).f2.f1)]] (h := ?_); (with_reducible refine (cX.calls ((aZ ((aU (aX l0_4 x5_4) x6_5).f2) x9_8).f0.f0) ((aZ ((aU (aX l0_4 x5_4) x6_5).f2) x9_8).f0.f1) ((aZ ((aU (aX l0_4 x5_4) x6_5).f2) x9_8).f0.f2) ((aZ ((aU (aX l0_4 x5_4) x6_5).f2) x9_8).f1.f0) ((aZ ((aU (aX l0_4 x5_4) x6_5).f2) x9_8).f1.f1) ((aZ ((aU (aX l0_4 x5_4) x6_5).f2) x9_8).f1.f2) ((aZ ((aU (aX l0_4 x5_4) x6_5).f2) x9_8).f2.f0) ((aZ ((aU (aX l0_4 x5_4) x6_5).f2) x9_8).f2.f1) true _ A76.out).mono ?_); rintro e w91 ⟨rfl, hb⟩; refine ⟨_, rfl, ?_⟩; have n0_ := mk_ (bB_ BK407 hb); have n1_ := mk_ (bB_ BK418 hb); have n2_ := mk_ (aI (Short.hB HB) hb); clear BK407 BK418 HB; revert n0_ n1_ n2_; intro BK407 BK418 HB; (try clear hb); obtain ⟨hcz_0, hcz_1, hcz_2, hfz_0, hfz_1, hfz_2⟩ := Short.c3 BK418.out; have p423 : 0 ≤ (x9_8 : Int) := of_decide_eq_true z0_; have q423 : x9_8 < (((aU (aX l0_4 x5_4) x6_5).f2).length : Int) := of_decide_eq_true z0_; obtain ⟨ad423, e423, hx423_0, hx423_1, hx423_2, hx423_3, hx423_4, hx423_5, hx423_6, hx423_7⟩ := gA HR417_2.out x9_8 p423 q423; obtain rfl : ad421 = ad423 := (by injection e423); replace hx423_0 := up_ HB hx423_0; replace hx423_1 := up_ HB hx423_1; replace hx423_2 := up_ HB hx423_2; replace hx423_3 := up_ HB hx423_3; replace hx423_4 := up_ HB hx423_4; replace hx423_5 := up_ HB hx423_5; replace hx423_6 := up_ HB hx423_6; replace hx423_7 := up_ HB hx423_7; replace p423 := eq_true p423; replace q423 := eq_true q423) | (go_at_call 69; (with_reducible refine (bW.calls ((aZ ((aU (aX l0_4 x5_4) x6_5).f2) x9_8).f1.f0) ((aZ ((aU (aX l0_4 x5_4) x6_5).f2) x9_8).f1.f1) ((aZ ((aU (aX l0_4 x5_4) x6_5).f2) x9_8).f1.f2) true _ A78.out).mono ?_); rintro e w93 ⟨rfl, hb⟩; have n0_ := mk_ (bB_ BK407 hb); have n1_ := mk_ (bB_ BK418 hb); have n2_ := mk_ (aI (Short.hB HB) hb); clear BK407 BK418 HB; revert n0_ n1_ n2_; intro BK407 BK418 HB; (try clear hb); (try clear hb2); (try clear hk); (try clear hi); obtain ⟨hcz_0, hcz_1, hcz_2, hfz_0, hfz_1, hfz_2⟩ := Short.c3 BK418.out; have p425 : 0 ≤ (x9_8 : Int) := of_decide_eq_true z0_; have q425 : x9_8 < (((aU (aX l0_4 x5_4) x6_5).f2).length : Int) := of_decide_eq_true z0_; obtain ⟨ad425, e425, hx425_0, hx425_1, hx425_2, hx425_3, hx425_4, hx425_5, hx425_6, hx425_7⟩ := gA HR417_2.out x9_8 p425 q425; obtain rfl : ad421 = ad425 := (by injection e425); replace hx425_0 := up_ HB hx425_0; replace hx425_1 := up_ HB hx425_1; replace hx425_2 := up_ HB hx425_2; replace hx425_3 := up_ HB hx425_3; replace hx425_4 := up_ HB hx425_4; replace hx425_5 := up_ HB hx425_5; replace hx425_6 := up_ HB hx425_6; replace hx425_7 := up_ HB hx425_7; replace p425 := eq_true p425; replace q425 := eq_true q425) | (go_at_call 70; (with_reducible refine (cQ.calls ((aZ ((aU (aX l0_4 x5_4) x6_5).f2) x9_8).f2.f0) ((aZ ((aU (aX l0_4 x5_4) x6_5).f2) x9_8).f2.f1) false _ A80.out).mono ?_); rintro e w95 ⟨rfl, hb⟩; have n0_ := mk_ (bB_ BK407 hb); have n1_ := mk_ (bB_ BK418 hb); have n2_ := mk_ (aI (Short.hB HB) hb); clear BK407 BK418 HB; revert n0_ n1_ n2_; intro BK407 BK418 HB; (try clear hb); (try clear hb2); (try clear hk); (try clear hi)))
                                  go_ret
                                  exact ⟨q0, Short.hB HB⟩
                                ·
                                 replace c79 := Bool.eq_false_iff.mpr c79
                                 subst c79
                                 rw [if_neg (show ¬ (false = true) by decide)] at H
                                 obtain rfl := Option.some.inj H
                                 have hnb96 := NB418_407.out
                                 have hnc96 := NB407_418.out
                                 obtain ⟨hcz_0, hcz_1, hcz_2, hfz_0, hfz_1, hfz_2⟩ := Short.c3 BK418.out
                                 have p421 : 0 ≤ (x9_8 : Int) := of_decide_eq_true z0_
                                 have q421 : x9_8 < (((aU (aX l0_4 x5_4) x6_5).f2).length : Int) := of_decide_eq_true z0_
                                 obtain ⟨ad421, e421, hx421_0, hx421_1, hx421_2, hx421_3, hx421_4, hx421_5, hx421_6, hx421_7⟩ := gA HR417_2.out x9_8 p421 q421
                                 cases e421
                                 replace hx421_0 := up_ HB hx421_0
                                 replace hx421_1 := up_ HB hx421_1
                                 replace hx421_2 := up_ HB hx421_2
                                 replace hx421_3 := up_ HB hx421_3
                                 replace hx421_4 := up_ HB hx421_4
                                 replace hx421_5 := up_ HB hx421_5
                                 replace hx421_6 := up_ HB hx421_6
                                 replace hx421_7 := up_ HB hx421_7
                                 replace p421 := eq_true p421
                                 replace q421 := eq_true q421
                                 go_wp2_with (first | ((with_reducible refine aT (f := 71) rfl ?_); refine Short.gL (some 140) Try.func71 #[.agg #[.int .i64 ((aZ ((aU (aX l0_4 x5_4) x6_5).f2) x9_8).f0.f0), .int .i64 ((aZ ((aU (aX l0_4 x5_4) x6_5).f2) x9_8).f0.f1), .string ((aZ ((aU (aX l0_4 x5_4) x6_5).f2) x9_8).f0.f2), .int .i64 ((aZ ((aU (aX l0_4 x5_4) x6_5).f2) x9_8).f1.f0), .int .i64 ((aZ ((aU (aX l0_4 x5_4) x6_5).f2) x9_8).f1.f1), .int .i64 ((aZ ((aU (aX l0_4 x5_4) x6_5).f2) x9_8).f1.f2), .int .i64 ((aZ ((aU (aX l0_4 x5_4) x6_5).f2) x9_8).f2.f0), .int .i64 ((aZ ((aU (aX l0_4 x5_4) x6_5).f2) x9_8).f2.f1)]] (h := ?_); (with_reducible refine (cX.calls ((aZ ((aU (aX l0_4 x5_4) x6_5).f2) x9_8).f0.f0) ((aZ ((aU (aX l0_4 x5_4) x6_5).f2) x9_8).f0.f1) ((aZ ((aU (aX l0_4 x5_4) x6_5).f2) x9_8).f0.f2) ((aZ ((aU (aX l0_4 x5_4) x6_5).f2) x9_8).f1.f0) ((aZ ((aU (aX l0_4 x5_4) x6_5).f2) x9_8).f1.f1) ((aZ ((aU (aX l0_4 x5_4) x6_5).f2) x9_8).f1.f2) ((aZ ((aU (aX l0_4 x5_4) x6_5).f2) x9_8).f2.f0) ((aZ ((aU (aX l0_4 x5_4) x6_5).f2) x9_8).f2.f1) true _ A76.out).mono ?_); rintro e w98 ⟨rfl, hb⟩; refine ⟨_, rfl, ?_⟩; have n0_ := mk_ (bB_ BK407 hb); have n1_ := mk_ (bB_ BK418 hb); have n2_ := mk_ (aI (Short.hB HB) hb); clear BK407 BK418 HB; revert n0_ n1_ n2_; intro BK407 BK418 HB; (try clear hb); obtain ⟨hcz_0, hcz_1, hcz_2, hfz_0, hfz_1, hfz_2⟩ := Short.c3 BK418.out; have p423 : 0 ≤ (x9_8 : Int) := of_decide_eq_true z0_; have q423 : x9_8 < (((aU (aX l0_4 x5_4) x6_5).f2).length : Int) := of_decide_eq_true z0_; obtain ⟨ad423, e423, hx423_0, hx423_1, hx423_2, hx423_3, hx423_4, hx423_5, hx423_6, hx423_7⟩ := gA HR417_2.out x9_8 p423 q423; obtain rfl : ad421 = ad423 := (by injection e423); replace hx423_0 := up_ HB hx423_0; replace hx423_1 := up_ HB hx423_1; replace hx423_2 := up_ HB hx423_2; replace hx423_3 := up_ HB hx423_3; replace hx423_4 := up_ HB hx423_4; replace hx423_5 := up_ HB hx423_5; replace hx423_6 := up_ HB hx423_6; replace hx423_7 := up_ HB hx423_7; replace p423 := eq_true p423; replace q423 := eq_true q423) | (go_at_call 69; (with_reducible refine (bW.calls ((aZ ((aU (aX l0_4 x5_4) x6_5).f2) x9_8).f1.f0) ((aZ ((aU (aX l0_4 x5_4) x6_5).f2) x9_8).f1.f1) ((aZ ((aU (aX l0_4 x5_4) x6_5).f2) x9_8).f1.f2) false _ A78.out).mono ?_); rintro e w100 ⟨rfl, hb⟩; have n0_ := mk_ (bB_ BK407 hb); have n1_ := mk_ (bB_ BK418 hb); have n2_ := mk_ (aI (Short.hB HB) hb); clear BK407 BK418 HB; revert n0_ n1_ n2_; intro BK407 BK418 HB; (try clear hb); (try clear hb2); (try clear hk); (try clear hi)))
                                 go_ret
                                 exact ⟨q0, Short.hB HB⟩
                               ·
                                replace c77 := Bool.eq_false_iff.mpr c77
                                subst c77
                                rw [if_neg (show ¬ (false = true) by decide)] at H
                                obtain rfl := Option.some.inj H
                                have hnb101 := NB418_407.out
                                have hnc101 := NB407_418.out
                                obtain ⟨hcz_0, hcz_1, hcz_2, hfz_0, hfz_1, hfz_2⟩ := Short.c3 BK418.out
                                have p421 : 0 ≤ (x9_8 : Int) := of_decide_eq_true z0_
                                have q421 : x9_8 < (((aU (aX l0_4 x5_4) x6_5).f2).length : Int) := of_decide_eq_true z0_
                                obtain ⟨ad421, e421, hx421_0, hx421_1, hx421_2, hx421_3, hx421_4, hx421_5, hx421_6, hx421_7⟩ := gA HR417_2.out x9_8 p421 q421
                                cases e421
                                replace hx421_0 := up_ HB hx421_0
                                replace hx421_1 := up_ HB hx421_1
                                replace hx421_2 := up_ HB hx421_2
                                replace hx421_3 := up_ HB hx421_3
                                replace hx421_4 := up_ HB hx421_4
                                replace hx421_5 := up_ HB hx421_5
                                replace hx421_6 := up_ HB hx421_6
                                replace hx421_7 := up_ HB hx421_7
                                replace p421 := eq_true p421
                                replace q421 := eq_true q421
                                go_wp2_with (first | ((with_reducible refine aT (f := 71) rfl ?_); refine Short.gL (some 140) Try.func71 #[.agg #[.int .i64 ((aZ ((aU (aX l0_4 x5_4) x6_5).f2) x9_8).f0.f0), .int .i64 ((aZ ((aU (aX l0_4 x5_4) x6_5).f2) x9_8).f0.f1), .string ((aZ ((aU (aX l0_4 x5_4) x6_5).f2) x9_8).f0.f2), .int .i64 ((aZ ((aU (aX l0_4 x5_4) x6_5).f2) x9_8).f1.f0), .int .i64 ((aZ ((aU (aX l0_4 x5_4) x6_5).f2) x9_8).f1.f1), .int .i64 ((aZ ((aU (aX l0_4 x5_4) x6_5).f2) x9_8).f1.f2), .int .i64 ((aZ ((aU (aX l0_4 x5_4) x6_5).f2) x9_8).f2.f0), .int .i64 ((aZ ((aU (aX l0_4 x5_4) x6_5).f2) x9_8).f2.f1)]] (h := ?_); (with_reducible refine (cX.calls ((aZ ((aU (aX l0_4 x5_4) x6_5).f2) x9_8).f0.f0) ((aZ ((aU (aX l0_4 x5_4) x6_5).f2) x9_8).f0.f1) ((aZ ((aU (aX l0_4 x5_4) x6_5).f2) x9_8).f0.f2) ((aZ ((aU (aX l0_4 x5_4) x6_5).f2) x9_8).f1.f0) ((aZ ((aU (aX l0_4 x5_4) x6_5).f2) x9_8).f1.f1) ((aZ ((aU (aX l0_4 x5_4) x6_5).f2) x9_8).f1.f2) ((aZ ((aU (aX l0_4 x5_4) x6_5).f2) x9_8).f2.f0) ((aZ ((aU (aX l0_4 x5_4) x6_5).f2) x9_8).f2.f1) false _ A76.out).mono ?_); rintro e w103 ⟨rfl, hb⟩; refine ⟨_, rfl, ?_⟩; have n0_ := mk_ (bB_ BK407 hb); have n1_ := mk_ (bB_ BK418 hb); have n2_ := mk_ (aI (Short.hB HB) hb); clear BK407 BK418 HB; revert n0_ n1_ n2_; intro BK407 BK418 HB; (try clear hb)))
                                go_ret
                                exact ⟨q0, Short.hB HB⟩
                              ·
                               rw [if_neg c75] at H
                               exact absurd H (by simp)
                             ·
                              rw [if_neg c74] at H
                              have c74b0 : decide (x9_8 < (((aU (aX l0_4 x5_4) x6_5).f2).length : Int)) = false := decide_eq_false c74
                              clear c74
                              have H' := mk_ H
                              clear H
                              have hnb104 := NB418_407.out
                              have hnc104 := NB407_418.out
                              obtain ⟨hcz_0, hcz_1, hcz_2, hfz_0, hfz_1, hfz_2⟩ := Short.c3 BK418.out
                              go_wp2
                              go_roundg k8
                              case measure => have := HJ1.out; have := HK2.out; have := HK3.out; have := HK4.out; have := HK5.out; have := HJ47.out; have := HK7.out; have := HK8.out; omega
                              case rel => exact ⟨(wrap64 (x6_5 + 1)), z3_, H', ⟨by have := HJ1.out; have := HK2.out; have := HK3.out; have := HK4.out; have := HK5.out; have := HJ47.out; have := HK7.out; have := HK8.out; omega⟩, ⟨by (with_reducible repeat (first | refine aG ?_ _ | refine aJ ?_ | refine aE ?_ _)); exact BK407.out⟩, ⟨Short.hB HB⟩⟩
                    ·
                     rw [if_neg c47] at H
                     exact absurd H (by simp)
                   ·
                    rw [if_neg c46] at H
                    have c46b0 : decide (x6_5 < ((aX l0_4 x5_4).length : Int)) = false := decide_eq_false c46
                    clear c46
                    have H' := mk_ H
                    clear H
                    have hcz_0 := aC BK407.out
                    have hfz_0 := aH BK407.out
                    have p415 : 0 ≤ (x5_4 : Int) := of_decide_eq_true z0_
                    have q415 : x5_4 < (l0_4.length : Int) := of_decide_eq_true z0_
                    obtain ⟨ad415, A415_0, c415_0, e415, hx415_0, hl415_0, hi415_0⟩ := gP HR0_4.out x5_4 p415 q415
                    obtain rfl : ad414 = ad415 := (by injection e415)
                    replace hx415_0 := up_ HB hx415_0
                    have HR415_0 := mk_ hi415_0
                    have HC415_0 := mk_ hl415_0
                    clear hi415_0 hl415_0
                    replace p415 := eq_true p415
                    replace q415 := eq_true q415
                    go_wp2
                    go_roundg k5
                    case measure => have := HJ1.out; have := HK2.out; have := HK3.out; have := HK4.out; have := HK5.out; omega
                    case rel => exact ⟨(wrap64 (x5_4 + 1)), z3_, H', ⟨by have := HJ1.out; have := HK2.out; have := HK3.out; have := HK4.out; have := HK5.out; omega⟩, ⟨by (with_reducible repeat (first | refine aG ?_ _ | refine aJ ?_ | refine aE ?_ _)); exact BK407.out⟩, ⟨Short.hB HB⟩⟩
                  ·
                   rw [if_neg c45] at H
                   exact absurd H (by simp)
                 ·
                  rw [if_neg c44] at H
                  exact absurd H (by simp)
             ·
              rw [if_neg c40] at H
              exact absurd H (by simp)
            ·
             rw [if_neg c39] at H
             have c39b0 : decide (x5_4 < (l0_4.length : Int)) = false := decide_eq_false c39
             clear c39
             obtain rfl := Option.some.inj H
             have hcz_0 := aC BK407.out
             have hfz_0 := aH BK407.out
             go_wp2
             go_ret
             exact ⟨q0, Short.hB HB⟩
end Go.Proofs.Ytcbfliajgopdaaa.PAll
end
section
namespace Go.Proofs.Ytcbfliajgopdaaa.Ops
open Go.RowKit PAll Plain PrintWords ZipT PrintWords.Kd PrintMore.Kd
set_option linter.unusedVariables false
set_option linter.unusedSimpArgs false
section
variable {α : Type}
def Stuck (f : List Int → Rr → α × Rr) : Prop := ∀ l r, r.2 = true → (f l r).2 = r
theorem stuck_of {z : α} {g : List Int → Int → α × Int × Int} : Stuck (fun l r => rOf z (g l r.1) r) := fun l r h => by
 show (rOf z (g l r.1) r).2 = r
 unfold rOf
 rw [if_pos (.inl h)]
 exact Prod.ext rfl h.symm
theorem eW (s : Int) : Stuck (rNum s) := stuck_of (z := (0 : Int)) (g := fun l at_ => sGet l at_ s)
theorem stuck_text : Stuck rText := stuck_of (z := (⟨#[]⟩ : ByteArray)) (g := fun l at_ => sGetText l at_)
theorem stuck_row : Stuck rRow := stuck_of (z := ([] : List V)) (g := fun l at_ => sRowRead l at_)
theorem iB : Stuck rDot := fun l r h => by
 show (rNum 4 l (rNum 1 l r).2).2 = r
 rw [eW 1 l r h]; exact eW 4 l r h
theorem stuck_stamp : Stuck rStamp := fun l r h => by
 show (rNum 1 l (rNum 3 l (rNum 6 l r).2).2).2 = r
 rw [eW 6 l r h, eW 3 l r h]; exact eW 1 l r h
theorem iR {f : List Int → Rr → α × Rr} (hf : Stuck f) (l : List Int) (n : Nat) : ∀ (acc : List α) (r : Rr), r.2 = true → (rTimes f l n acc r).2 = r := by
 induction n with
 | zero => intro acc r h; rfl
 | succ n ih => intro acc r h; rw [rTimes, hf l r h]; exact ih _ r h
theorem rMany_stuck {s m : Int} {l : List Int} {r : Rr} (h : r.2 = true) : (rMany s m l r).2 = r := by
 have := eW s l r h
 unfold rMany
 split
 ·
  exact Prod.ext (show (rNum s l r).2.1 = r.1 by rw [this]) h.symm
 ·
  exact this
theorem stuck_dots : Stuck rDots := fun l r h => by
 show (rTimes rDot l _ [] (rMany 1 64 l r).2).2 = r
 rw [rMany_stuck h]; exact iR iB l _ [] r h
theorem stuck_nums : Stuck rNums := fun l r h => by
 show (rTimes (rNum 4) l _ [] (rMany 1 5 l r).2).2 = r
 rw [rMany_stuck h]; exact iR (eW 4) l _ [] r h
def cTimes (f : List Int → Rr → α × Rr) (l : List Int) : Nat → List α → Rr → List α × Rr
 | 0, acc, r => (acc, r)
 | n + 1, acc, r => if r.2 = true then (acc, r) else cTimes f l n (acc ++ [(f l r).1]) (f l r).2
theorem fQ (f : List Int → Rr → α × Rr) (l : List Int) (n : Nat) (acc : List α) {r : Rr} (h : r.2 = true) : cTimes f l n acc r = (acc, r) := by
 cases n with
 | zero => rfl
 | succ n => rw [cTimes, if_pos h]
theorem cTimes_eq {f : List Int → Rr → α × Rr} (hf : Stuck f) (l : List Int) (n : Nat) : ∀ (acc : List α) (r : Rr),
  (cTimes f l n acc r).2 = (rTimes f l n acc r).2 ∧ ((rTimes f l n acc r).2.2 = false → cTimes f l n acc r = rTimes f l n acc r) := by
 induction n with
 | zero => intro acc r; exact ⟨rfl, fun _ => rfl⟩
 | succ n ih =>
  intro acc r
  by_cases h : r.2 = true
  rotate_left
  ·
   rw [cTimes, if_neg h, rTimes]; exact ih _ _
  rw [fQ f l _ acc h]
  have hs := iR hf l (n + 1) acc r h
  exact ⟨hs.symm, fun e => by rw [hs, h] at e; cases e⟩
end
theorem rOp_state (l : List Int) (r : Rr) : (rOp l r).2 = (rOpC l r).2 := by
 cases hr : (rRow l (rHead l r).2).2.2
 ·
  rw [iP hr]
 ·
  rw [rOp_bad hr]; exact (stuck_dots l _ hr).symm
end Go.Proofs.Ytcbfliajgopdaaa.Ops
end
section
namespace Go.Proofs.Ytcbfliajgopdaaa.Snaps
open Go.RowKit PAll Plain Ops PrintWords ZipT PrintWords.Kd PrintMore.Kd
set_option linter.unusedVariables false
set_option linter.unusedSimpArgs false
abbrev Cl := S91
abbrev Rx := S80
abbrev Sn := S31
def vZero (v : V) : Prop := v.f0 = 0 ∧ v.f1 = 0 ∧ v.f2 = ⟨#[]⟩
instance (v : V) : Decidable (vZero v) := by unfold vZero; infer_instance
def valO (v : V) : List Int × Int := if vZero v then ([0], 0) else if okV v then (vB v, 0) else ([], 1)
def wVal (v : V) (s : Wr) : Wr := wAdd s (valO v)
def wCell (c : Cl) (s : Wr) : Wr := wDot c.f2 (wStamp c.f1 (wVal c.f0 s))
def wRowx (x : Rx) (s : Wr) : Wr := wAll wCell x.f2 (wNum x.f2.length 1 (wAll wDot x.f1 (wNum x.f1.length 1 (wText x.f0 s))))
def wTable (t : List Rx) (s : Wr) : Wr := wAll wRowx t (wNum t.length 2 s)
def wTabs (l : List (List Rx)) (s : Wr) : Wr := wAll wTable l (wNum l.length 1 s)
def wSafe (l : List (List Int)) (s : Wr) : Wr := wAll wNums l (wNum l.length 1 (wOr (decide (l.length > 5)) s))
def wOps (l : List Ox) (s : Wr) : Wr := wAll wOp l (wNum l.length 2 s)
def wSnap (x : Sn) (s : Wr) : Wr := wOps x.f4 (wSafe x.f3 (wTabs x.f2 (wStamp x.f1 (wNums x.f0 s))))
def sSnapBytes (x : Sn) : List Int × Int := if (wSnap x ([], false)).2 = true then ([], 1) else if (wSnap x ([], false)).1.length > 65535 then ([], 2) else ((wSnap x ([], false)).1, 0)
def zVal : V := ⟨0, 0, ⟨#[]⟩⟩
def vRead (l : List Int) (at_ : Int) : V × Int × Int := (⟨(sVRead l at_).1, (sVRead l at_).2.1, (sVRead l at_).2.2.1⟩, (sVRead l at_).2.2.2.1, (sVRead l at_).2.2.2.2)
def rVal (l : List Int) (r : Rr) : V × Rr := if r.2 = false ∧ r.1 < l.length ∧ rd l r.1 = 0 then (zVal, (r.1 + 1, false)) else rOf zVal (vRead l r.1) r
def rCell (l : List Int) (r : Rr) : Cl × Rr :=
 (⟨(rVal l r).1, (rStamp l (rVal l r).2).1, (rDot l (rStamp l (rVal l r).2).2).1⟩, (rDot l (rStamp l (rVal l r).2).2).2)
def cCount {α : Type} (s : Int) (f : List Int → Rr → α × Rr) (l : List Int) (r : Rr) : List α × Rr := cTimes f l (rNum s l r).1.toNat [] (rNum s l r).2
def rRowx (l : List Int) (r : Rr) : Rx × Rr :=
 (⟨(rText l r).1, (cCount 1 rDot l (rText l r).2).1, (cCount 1 rCell l (cCount 1 rDot l (rText l r).2).2).1⟩, (cCount 1 rCell l (cCount 1 rDot l (rText l r).2).2).2)
def rTable (l : List Int) (r : Rr) : List Rx × Rr := cCount 2 rRowx l r
def rTabs (l : List Int) (r : Rr) : List (List Rx) × Rr := cCount 1 rTable l r
def rSafe (l : List Int) (r : Rr) : List (List Int) × Rr := rTimes rNums l (rMany 1 5 l r).1.toNat [] (rMany 1 5 l r).2
def rOps (l : List Int) (r : Rr) : List Ox × Rr := cCount 2 rOp l r
def rSnap (l : List Int) (r : Rr) : Sn × Rr :=
 let a := rNums l r
 let b := rStamp l a.2
 let c := rTabs l b.2
 let d := rSafe l c.2
 let e := rOps l d.2
 (⟨a.1, b.1, c.1, d.1, e.1⟩, e.2)
def zSnap : Sn := ⟨[], ⟨0, 0, 0⟩, [], [], []⟩
def sReadSnap (l : List Int) : Sn × Int :=
 if l.length > 65535 then (zSnap, 3)
 else if (rSnap l (0, false)).2.2 = true ∨ (rSnap l (0, false)).2.1 ≠ l.length ∨ (sSnapBytes (rSnap l (0, false)).1).2 ≠ 0 ∨ (sSnapBytes (rSnap l (0, false)).1).1 ≠ l then (zSnap, 3)
 else ((rSnap l (0, false)).1, 0)
def rowSmall (x : Rx) : Prop := x.f1.length ≤ 1000 ∧ x.f2.length ≤ 1000
def tabSmall (t : List Rx) : Prop := t.length ≤ 70000 ∧ ∀ x ∈ t, rowSmall x
def snapSmall (x : Sn) : Prop := x.f0.length ≤ 1000 ∧ (x.f2.length ≤ 1000 ∧ ∀ t ∈ x.f2, tabSmall t) ∧ (x.f3.length ≤ 1000 ∧ ∀ v ∈ x.f3, v.length ≤ 1000) ∧ x.f4.length ≤ 70000 ∧ ∀ y ∈ x.f4, opSmall y
end Go.Proofs.Ytcbfliajgopdaaa.Snaps
end
section
namespace Go.Proofs.Ytcbfliajgopdaaa.Pads
open Go.RowKit PrintWords ZipT PrintWords.Kd PrintMore.Kd
set_option linter.unusedVariables false
abbrev Sl := List Int × Bool
structure Pd where
 slots : List Sl
 safe : Nat
 off : Bool
 life : Int
 arm : Option (Int × List Bool × Int)
def lost (keep : List Bool) (torn : Int) (k : Nat) : Prop := (k : Int) = torn ∨ keep.getD k false = false
instance (keep : List Bool) (torn : Int) (k : Nat) : Decidable (lost keep torn k) := by unfold lost; infer_instance
def spoil (keep : List Bool) (torn : Int) : Nat → List Sl → List Sl
 | _, [] => []
 | k, s :: r => (if lost keep torn k then ([], true) else s) :: spoil keep torn (k + 1) r
theorem fX (keep : List Bool) (torn : Int) : ∀ (l : List Sl) (k : Nat), (spoil keep torn k l).length = l.length
 | [], _ => rfl
 | s :: r, k => by simp [spoil, fX keep torn r (k + 1)]
theorem spoil_get (keep : List Bool) (torn : Int) : ∀ (l : List Sl) (k i : Nat), (spoil keep torn k l)[i]? = l[i]?.map (fun s => if lost keep torn (k + i) then ([], true) else s)
 | [], _, _ => by simp [spoil]
 | s :: r, k, 0 => by simp [spoil]
 | s :: r, k, i + 1 => by simp [spoil, spoil_get keep torn r (k + 1) i, Nat.add_assoc, Nat.add_comm 1 i]
namespace Pd
def crash (p : Pd) (keep : List Bool) (torn : Int) : Pd :=
 if p.off then p else { slots := p.slots.take p.safe ++ spoil keep torn 0 (p.slots.drop p.safe), safe := p.slots.length, off := true, life := wrap64 (p.life + 1), arm := none }
def spend (p : Pd) : Pd × Bool :=
 match p.arm with
 | none => (p, true)
 | some (n, k, t) => if n - 1 > 0 then ({ p with arm := some (n - 1, k, t) }, true) else (({ p with arm := some (n - 1, k, t) } : Pd).crash k t, false)
def append (p : Pd) (b : List Int) : Pd × Int :=
 if p.off then (p, 5) else if b.length > 65536 then (p, 2) else if p.slots.length ≥ 4000 then (p, 6)
 else ((({ p with slots := p.slots ++ [(b, false)] } : Pd).spend).1, if (({ p with slots := p.slots ++ [(b, false)] } : Pd).spend).2 then 0 else 5)
def sync (p : Pd) : Pd × Int :=
 if p.off then (p, 5) else if p.spend.2 then ({ p.spend.1 with safe := p.spend.1.slots.length }, 0) else (p.spend.1, 5)
def cut (p : Pd) (n : Int) : Pd × Int :=
 if p.off then (p, 5) else if n < 0 ∨ n > p.slots.length then (p, 1)
 else if p.spend.2 then ({ p.spend.1 with slots := p.spend.1.slots.take n.toNat, safe := min p.spend.1.safe n.toNat }, 0) else (p.spend.1, 5)
def start (p : Pd) : Pd := { p with off := false }
def read (p : Pd) (i : Int) : List Int × Int :=
 if p.off then ([], 5) else if i < 0 ∨ i ≥ p.slots.length then ([], 7)
 else if (p.slots.getD i.toNat ([], false)).2 then ([], 13) else ((p.slots.getD i.toNat ([], false)).1, 0)
structure Ok (p : Pd) : Prop where
 safe : p.safe ≤ p.slots.length
 len : p.slots.length ≤ 4000
 arm : ∀ n k t, p.arm = some (n, k, t) → 1 ≤ n ∧ n ≤ 9223372036854775807 ∧ k.length ≤ 140737488351232
 bytes : ∀ s ∈ p.slots, s.1.length ≤ 65536
def new : Pd := ⟨[], 0, false, 0, none⟩
theorem new_ok : new.Ok := ⟨Nat.le_refl _, by decide, (fun _ _ _ h => by cases h), (fun s hs => by cases hs)⟩
theorem jW (p : Pd) (hs : p.safe ≤ p.slots.length) (keep : List Bool) (torn : Int) : (p.crash keep torn).slots.length = p.slots.length := by
 unfold crash
 split
 ·
  rfl
 ·
  simp only [List.length_append, List.length_take, fX, List.length_drop]; omega
theorem crash_ok {p : Pd} (h : p.Ok) (keep : List Bool) (torn : Int) : (p.crash keep torn).Ok := by
 have hl := jW p h.safe keep torn
 refine ⟨?_, by rw [hl]; exact h.len, ?_, ?_⟩
 ·
  rw [hl]
  unfold crash
  split
  ·
   exact h.safe
  ·
   exact Nat.le_refl _
 ·
  intro n k t he
  unfold crash at he
  split at he
  ·
   exact h.arm n k t he
  ·
   cases he
 ·
  intro s hs
  unfold crash at hs
  split at hs
  ·
   exact h.bytes s hs
  ·
   rcases List.mem_append.1 hs with hs | hs
   ·
    exact h.bytes s (List.mem_of_mem_take hs)
   ·
    obtain ⟨i, hi⟩ := List.mem_iff_getElem?.1 hs
    rw [spoil_get] at hi
    obtain ⟨q, hq, rfl⟩ := Option.map_eq_some_iff.1 hi
    split
    ·
     decide
    ·
     exact h.bytes q (List.mem_of_mem_drop (List.mem_of_getElem? hq))
theorem crash_on (p : Pd) (h : p.off = false) (keep : List Bool) (torn : Int) : p.crash keep torn = { slots := p.slots.take p.safe ++ spoil keep torn 0 (p.slots.drop p.safe), safe := p.slots.length, off := true, life := wrap64 (p.life + 1), arm := none } := by
 unfold crash; rw [if_neg (by simp [h])]
theorem crash_off (p : Pd) (h : p.off = true) (keep : List Bool) (torn : Int) : p.crash keep torn = p := by
 unfold crash; rw [if_pos h]
theorem spend_none {p : Pd} (h : p.arm = none) : p.spend = (p, true) := by unfold spend; rw [h]
theorem spend_go {p : Pd} {n : Int} {k : List Bool} {t : Int} (h : p.arm = some (n, k, t)) (hn : n - 1 > 0) : p.spend = ({ p with arm := some (n - 1, k, t) }, true) := by
 unfold spend; rw [h]; simp only [if_pos hn]
theorem spend_crash {p : Pd} {n : Int} {k : List Bool} {t : Int} (h : p.arm = some (n, k, t)) (hn : ¬ n - 1 > 0) : p.spend = (({ p with arm := some (n - 1, k, t) } : Pd).crash k t, false) := by
 unfold spend; rw [h]; simp only [if_neg hn]
theorem crash_arm (p : Pd) (h : p.off = false) (a : Option (Int × List Bool × Int)) (keep : List Bool) (torn : Int) : ({ p with arm := a } : Pd).crash keep torn = p.crash keep torn := by
 rw [crash_on p h]; exact crash_on ({ p with arm := a } : Pd) h keep torn
theorem spend_ok {p : Pd} (h : p.Ok) (hoff : p.off = false) : p.spend.1.Ok := by
 rcases ha : p.arm with _ | ⟨n, k, t⟩
 ·
  rw [spend_none ha]; exact h
 ·
  obtain ⟨h1, h2, h3⟩ := h.arm n k t ha
  by_cases hn : n - 1 > 0
  rotate_left
  ·
   rw [spend_crash ha hn]
   show (Pd.crash _ k t).Ok
   rw [crash_arm p hoff]
   exact crash_ok h k t
  rw [spend_go ha hn]
  exact ⟨h.safe, h.len, fun n' k' t' he' => by
   simp only [Option.some.injEq, Prod.mk.injEq] at he'
   obtain ⟨rfl, rfl, rfl⟩ := he'
   exact ⟨by omega, by omega, h3⟩, h.bytes⟩
theorem spend_true {p : Pd} (h : p.spend.2 = true) : p.spend.1.slots = p.slots ∧ p.spend.1.safe = p.safe ∧ p.spend.1.off = p.off ∧ p.spend.1.life = p.life := by
 rcases ha : p.arm with _ | ⟨n, k, t⟩
 ·
  rw [spend_none ha]; exact ⟨rfl, rfl, rfl, rfl⟩
 ·
  by_cases hn : n - 1 > 0
  ·
   rw [spend_go ha hn]; exact ⟨rfl, rfl, rfl, rfl⟩
  rw [spend_crash ha hn] at h; cases h
theorem start_ok {p : Pd} (h : p.Ok) : p.start.Ok := ⟨h.safe, h.len, h.arm, h.bytes⟩
end Pd
end Go.Proofs.Ytcbfliajgopdaaa.Pads
end
section
namespace Go.Proofs.Ytcbfliajgopdaaa.Pads
open Go.RowKit PrintWords Go.Proofs.Ytcbfliajgopdaaa.Sep ZipT PrintWords.Kd PrintMore.Kd
set_option linter.unusedVariables false
def kSl : Kd Sl := Kd.pair (Kd.slice 5 (Kd.int .u8)) Kd.bool
def TripP (t : Value) : Option (Int × List Bool × Int) → Part
 | none => Part.pure (t = .pointer none)
 | some (n, keep, torn) => Part.ex fun h : Nat => Part.ex fun v : Value => Part.all [Part.pure (t = .pointer (some ⟨h, 0, none⟩)), Blk h (.cells #[.int .i64 n, v, .int .i64 torn] 156 (0, 0)), Row Kd.bool 4 v keep]
def PadQ (g : Nat) (p : Pd) (t : Value) : Part := Part.ex fun v : Value => Part.all [Blk g (.cells #[v, .int .i64 p.safe, .bool p.off, .int .i64 p.life, t] 118 (0, 0)), Row kSl 120 v p.slots]
def PadP (g : Nat) (p : Pd) : Part := Part.ex fun t : Value => Part.all [PadQ g p t, TripP t p.arm]
section
variable {w : World} {g : Nat} {p : Pd} {t : Value} {F : List Part}
theorem PadQ.open (h : Sp w (PadQ g p t :: F)) : ∃ v, Sp w (Blk g (.cells #[v, .int .i64 p.safe, .bool p.off, .int .i64 p.life, t] 118 (0, 0)) :: Row kSl 120 v p.slots :: F) := by
 obtain ⟨v, h⟩ := h.ofEx
 exact ⟨v, h.ofAll⟩
theorem PadQ.shut {v : Value} (h : Sp w (Blk g (.cells #[v, .int .i64 p.safe, .bool p.off, .int .i64 p.life, t] 118 (0, 0)) :: Row kSl 120 v p.slots :: F)) : Sp w (PadQ g p t :: F) :=
 Sp.toEx (f := fun v : Value => Part.all [Blk g (.cells #[v, .int .i64 p.safe, .bool p.off, .int .i64 p.life, t] 118 (0, 0)), Row kSl 120 v p.slots]) v (Sp.toAll (ps := [_, _]) h)
theorem PadP.open (h : Sp w (PadP g p :: F)) : ∃ t, Sp w (PadQ g p t :: TripP t p.arm :: F) := by
 obtain ⟨t, h⟩ := h.ofEx
 exact ⟨t, h.ofAll⟩
theorem PadP.shut (h : Sp w (PadQ g p t :: TripP t p.arm :: F)) : Sp w (PadP g p :: F) :=
 Sp.toEx (f := fun t : Value => Part.all [PadQ g p t, TripP t p.arm]) t (Sp.toAll (ps := [_, _]) h)
theorem TripP.open {n : Int} {keep : List Bool} {torn : Int} (h : Sp w (TripP t (some (n, keep, torn)) :: F)) :
  ∃ (b : Nat) (v : Value), t = .pointer (some ⟨b, 0, none⟩) ∧ Sp w (Blk b (.cells #[.int .i64 n, v, .int .i64 torn] 156 (0, 0)) :: Row Kd.bool 4 v keep :: F) := by
 obtain ⟨b, h⟩ := h.ofEx
 obtain ⟨v, h⟩ := h.ofEx
 obtain ⟨h1, h2⟩ := Sp.ofPure h.ofAll
 exact ⟨b, v, h1, h2⟩
theorem TripP.shut {n : Int} {keep : List Bool} {torn : Int} {b : Nat} {v : Value} (h : Sp w (Blk b (.cells #[.int .i64 n, v, .int .i64 torn] 156 (0, 0)) :: Row Kd.bool 4 v keep :: F)) :
  Sp w (TripP (.pointer (some ⟨b, 0, none⟩)) (some (n, keep, torn)) :: F) :=
 Sp.toEx (f := fun h : Nat => Part.ex fun v : Value => Part.all [Part.pure ((.pointer (some ⟨b, 0, none⟩) : Value) = .pointer (some ⟨h, 0, none⟩)), Blk h (.cells #[.int .i64 n, v, .int .i64 torn] 156 (0, 0)), Row Kd.bool 4 v keep]) b
  (Sp.toEx (f := fun v : Value => Part.all [Part.pure ((.pointer (some ⟨b, 0, none⟩) : Value) = .pointer (some ⟨b, 0, none⟩)), Blk b (.cells #[.int .i64 n, v, .int .i64 torn] 156 (0, 0)), Row Kd.bool 4 v keep]) v (Sp.toAll (ps := [_, _, _]) (Sp.toPure rfl h)))
theorem TripP.none_ (h : Sp w (TripP t none :: F)) : t = .pointer none ∧ Sp w F := Sp.ofPure h
theorem TripP.none_mk (h : Sp w F) : Sp w (TripP (.pointer none) none :: F) := Sp.toPure rfl h
end
end Go.Proofs.Ytcbfliajgopdaaa.Pads
end
section
namespace Go.Proofs.Ytcbfliajgopdaaa.Pads
open Go.RowKit PrintWords PrintLast PrintMore Go.Proofs.Ytcbfliajgopdaaa.Sep ZipT PrintWords.Kd PrintMore.Kd
set_option linter.unusedVariables false
set_option linter.unusedSimpArgs false
section
variable {w : World} {g : Nat} {p : Pd} {F : List Part}
theorem gH {t : Value} (hS : Sp w (PadQ g p t :: F)) : ∃ (A : Option Addr) (c : Nat), p.slots.length ≤ c ∧ w.cell? ⟨g, 0, none⟩ = some (.slice A p.slots.length c) ∧ w.cell? ⟨g, 1, none⟩ = some (.int .i64 p.safe) ∧ w.cell? ⟨g, 2, none⟩ = some (.bool p.off) ∧ w.cell? ⟨g, 3, none⟩ = some (.int .i64 p.life) ∧ w.cell? ⟨g, 4, none⟩ = some t ∧ (∀ j, w.frozen? ⟨g, j, none⟩ = false) := by
 obtain ⟨v, hS⟩ := PadQ.open hS
 obtain ⟨A, c, rfl, hc, _⟩ := hS.tail.row
 exact ⟨A, c, hc, aC hS.blk 0, aC hS.blk 1, aC hS.blk 2, aC hS.blk 3, aC hS.blk 4, fun j => aH hS.blk j⟩
set_option maxHeartbeats 4000000 in
theorem len_calls (hS : Sp w (PadP g p :: F)) : Calls Try.prog 21 #[.pointer (some ⟨g, 0, none⟩)] w fun e w' => e = .returned (.int .i64 (p.slots.length : Int)) ∧ w = w' := by
 obtain ⟨t, hS⟩ := PadP.open hS
 obtain ⟨A, c, hc, h0, h1, h2, h3, h4, hfz⟩ := gH hS
 clear hS
 go_enter Try.func21, Try.ntmps21
 go_wp2
 go_ret
 exact ⟨rfl, rfl⟩
set_option maxHeartbeats 4000000 in
set_option maxHeartbeats 4000000 in
theorem off_calls (hS : Sp w (PadP g p :: F)) : Calls Try.prog 62 #[.pointer (some ⟨g, 0, none⟩)] w fun e w' => e = .returned (.bool p.off) ∧ w = w' := by
 obtain ⟨t, hS⟩ := PadP.open hS
 obtain ⟨A, c, hc, h0, h1, h2, h3, h4, hfz⟩ := gH hS
 clear hS
 go_enter Try.func62, Try.ntmps62
 go_wp2
 go_ret
 exact ⟨rfl, rfl⟩
set_option maxHeartbeats 4000000 in
set_option maxHeartbeats 4000000 in
theorem new_calls (hS : Sp w F) : Calls Try.prog 45 #[] w fun e w' => ∃ g, e = .returned (.pointer (some ⟨g, 0, none⟩)) ∧ Sp w' (PadP g Pd.new :: F) := by
 go_enter Try.func45, Try.ntmps45
 go_wp2
 go_ret
 refine ⟨_, rfl, ?_⟩
 refine PadP.shut (t := .pointer none) (PadQ.shut (v := .slice none 0 0) ?_)
 have h1 := hS.box (.cells #[.slice none 0 0, .int .i64 0, .bool false, .int .i64 0, .pointer none] 118 (0, 0))
 have h2 := TripP.none_mk h1
 have h3 : Sp (w.alloc (.cells #[.slice none 0 0, .int .i64 0, .bool false, .int .i64 0, .pointer none] 118 (0, 0))) (Row kSl 120 (.slice none 0 0) [] :: TripP (.pointer none) none :: Blk w.heap.size (.cells #[.slice none 0 0, .int .i64 0, .bool false, .int .i64 0, .pointer none] 118 (0, 0)) :: F) :=
  ⟨fun _ => False, fun _ h => h.elim, R_nil _ _ _ _ _, Sep.wide h2 (fun k hk => ⟨hk, fun e => e⟩)⟩
 exact h3.s2
set_option maxHeartbeats 4000000 in
theorem start_calls (hS : Sp w (PadP g p :: F)) : Calls Try.prog 24 #[.pointer (some ⟨g, 0, none⟩)] w fun e w' => (∃ v, e = .returned v) ∧ Sp w' (PadP g p.start :: F) := by
 obtain ⟨t, hS⟩ := PadP.open hS
 obtain ⟨A, c, hc, h0, h1, h2, h3, h4, hfz⟩ := gH hS
 have hf2 := hfz 2
 clear hfz
 have HS := mk_ hS
 clear hS
 go_enter Try.func24, Try.ntmps24
 go_wp2
 go_end0
 refine ⟨⟨_, rfl⟩, ?_⟩
 obtain ⟨v, hS⟩ := PadQ.open HS.out
 exact PadP.shut (PadQ.shut (hS.store 2 _))
end
end Go.Proofs.Ytcbfliajgopdaaa.Pads
end
