-- Put together by a program of this session (wip/slice2.py) out of the seat's texts.
import Derived.Test.YtimbbaoodjhdoaaZPlanParts3

section
namespace Go.Proofs.Ytimbbaoodjhdoaa.Plan
open Go.RowKit Go.Proofs.Ytimbbaoodjhdoaa.PAll Go.Proofs.Ytimbbaoodjhdoaa.Plain Go.Proofs.YtimbbaoodjhdoaaW.PrintWords Go.Proofs.YtimbbaoodjhdoaaW.PrintLast Go.Proofs.YtimbbaoodjhdoaaW.PrintMore Go.Proofs.Ytimbbaoodjhdoaa.ZipT Go.Proofs.YtimbbaoodjhdoaaW.PrintWords.Kd Go.Proofs.YtimbbaoodjhdoaaW.PrintMore.Kd
set_option linter.unusedVariables false
set_option linter.unusedSimpArgs false
def useP (t : Int) (x : No) : Bool := decide (x.f0 = 1 ∧ x.f3 = t)
section
variable {x : No} {A5 A6 : Option Addr} {c5 c6 : Nat}
set_option maxHeartbeats 8000000 in
set_option maxRecDepth 100000 in
theorem uses1_calls (t : Int) (gb : Nat) (w : World) (hg : w.heap[gb]? = some (.cells #[.int .i64 t] 3 (0, 0))) :
  Calls Try.prog 32 #[.agg #[.int .i64 x.f0, .int .i64 x.f1, .int .i64 x.f2, .int .i64 x.f3, .int .i64 x.f4.f0, .int .i64 x.f4.f1, .int .i64 x.f4.f2, .int .i64 x.f4.f3.f0, .int .i64 x.f4.f3.f1, .string x.f4.f3.f2, .slice A5 x.f5.length c5, .slice A6 x.f6.length c6, .int .i64 x.f7, .int .i64 x.f8], .pointer (some ⟨gb, 0, none⟩)] w fun e w' => e = .returned (.bool (useP t x)) ∧ Below w.heap.size w w' := by
 have hcz : w.cell? ⟨gb, 0, none⟩ = some (.int .i64 t) := (blk_cell hg 0).trans rfl
 have hcy := al1 hcz
 have hfz := fun o => blk_frozen (blk_alloc hg o) 0
 clear hg
 unfold useP
 by_cases h1 : x.f0 = 1
 ·
  have h1b : decide (x.f0 = 1) = true := decide_eq_true h1
  have h1c : (x.f0 == 1) = true := beq_iff_eq.2 h1
  by_cases h2 : x.f3 = t
  ·
   have h2b : decide (x.f3 = t) = true := decide_eq_true h2
   have h2c : (x.f3 == t) = true := beq_iff_eq.2 h2
   rw [decide_eq_true ⟨h1, h2⟩]
   clear h1 h2
   go_enter Try.func32, Try.ntmps32
   go_wp2
   go_ret
   exact ⟨rfl, (by repeat (first | exact Below.refl _ _ | refine below_alloc ?_ _ | refine below_drew ?_ | refine pw_below_drewN ?_ _))⟩
  ·
   have h2b : decide (x.f3 = t) = false := decide_eq_false h2
   have h2c : (x.f3 == t) = false := beq_eq_false_iff_ne.2 h2
   rw [decide_eq_false (fun e => h2 e.2)]
   clear h1 h2
   go_enter Try.func32, Try.ntmps32
   go_wp2
   go_ret
   exact ⟨rfl, (by repeat (first | exact Below.refl _ _ | refine below_alloc ?_ _ | refine below_drew ?_ | refine pw_below_drewN ?_ _))⟩
 ·
  have h1b : decide (x.f0 = 1) = false := decide_eq_false h1
  have h1c : (x.f0 == 1) = false := beq_eq_false_iff_ne.2 h1
  rw [decide_eq_false (fun e => h1 e.1)]
  clear h1
  go_enter Try.func32, Try.ntmps32
  go_wp2
  go_ret
  exact ⟨rfl, (by repeat (first | exact Below.refl _ _ | refine below_alloc ?_ _ | refine below_drew ?_ | refine pw_below_drewN ?_ _))⟩
end
set_option maxHeartbeats 8000000 in
set_option maxRecDepth 100000 in
theorem uses_index (A0 : Option Addr) (c0 : Nat) (l : List No) (t : Int) (gb : Nat) (w : World) (hr0 : Kd.C k34 w A0 l.length l) (hl : l.length ≤ 1000) (hg : w.heap[gb]? = some (.cells #[.int .i64 t] 3 (0, 0))) :
  Calls Try.prog 41 #[.slice A0 l.length c0, .func (.func 32) #[] #[.pointer (some ⟨gb, 0, none⟩)]] w fun e w' => ∃ r, e = .returned (.int .i64 r) ∧ decide (r ≥ 0) = l.any (useP t) ∧ Below w.heap.size w w' := by
 have HR0 := mk_ hr0
 have HG := mk_ hg
 have HL := mk_ hl
 clear hr0 hg hl
 go_enter Try.func41, Try.ntmps41
 go_wp2
 go_loopg [8] (l.length + 1) (fun kq v8 W' => ∃ (i : Nat), v8 = .int .i64 (i : Int) ∧ Aside0 (l.any (useP t) = (l.drop i).any (useP t)) ∧ Aside0 (kq + i = l.length + 1 ∧ i ≤ l.length) ∧ Aside0 (Below w.heap.size w W'))
 case atStart => exact ⟨0, rfl, ⟨rfl⟩, ⟨by omega⟩, ⟨(by repeat (first | exact Below.refl _ _ | refine below_alloc ?_ _ | refine below_drew ?_ | refine pw_below_drewN ?_ _))⟩⟩
 case round =>
  obtain ⟨i, rfl, HA, HK, HB⟩ := hrel
  obtain ⟨k1, rfl⟩ : ∃ k1, gk = k1 + 1 := ⟨gk - 1, by have := HK.out; omega⟩
  by_cases hi : i < l.length
  ·
   obtain ⟨ad, A5, c5, A6, c6, hA, hx0, hx1, hx2, hx3, hx4, hx5, hx6, hx7, hx8, hx9, hx10, hx11, hx12, hx13, _, _, _, _⟩ := at_T34 HR0.out (i : Int) z5 z5
   subst hA
   simp only [Int.toNat_natCast] at hx0 hx1 hx2 hx3 hx4 hx5 hx6 hx7 hx8 hx9 hx10 hx11 hx12 hx13
   replace hx0 := pw_cell_below HB.out hx0
   replace hx1 := pw_cell_below HB.out hx1
   replace hx2 := pw_cell_below HB.out hx2
   replace hx3 := pw_cell_below HB.out hx3
   replace hx4 := pw_cell_below HB.out hx4
   replace hx5 := pw_cell_below HB.out hx5
   replace hx6 := pw_cell_below HB.out hx6
   replace hx7 := pw_cell_below HB.out hx7
   replace hx8 := pw_cell_below HB.out hx8
   replace hx9 := pw_cell_below HB.out hx9
   replace hx10 := pw_cell_below HB.out hx10
   replace hx11 := pw_cell_below HB.out hx11
   replace hx12 := pw_cell_below HB.out hx12
   replace hx13 := pw_cell_below HB.out hx13
   have hdx : l.drop i = rd_T34 l (i : Int) :: l.drop (i + 1) := by
    rw [List.drop_eq_getElem_cons hi]
    congr 1
    show _ = l.getD ((i : Int).toNat) _
    rw [Int.toNat_natCast, List.getD_eq_getElem?_getD, List.getElem?_eq_getElem hi]; rfl
   rw [hdx, List.any_cons] at HA
   have hb0' : (0 ≤ (i : Int)) = True := eq_true z5
   have hb1' : ((i : Int) < (l.length : Int)) = True := eq_true z5
   have hb2' : decide ((i : Int) < (l.length : Int)) = true := decide_eq_true z5
   have hb3' : decide (i < l.length) = true := decide_eq_true hi
   have HI2 := mk_ hi
   clear hi hdx
   generalize rd_T34 l (i : Int) = x at *
   have HGV := mk_ (blk_below HG.out HB.out)
   generalize hp : useP t x = p at *
   have HP := mk_ hp
   clear hp
   cases p with
   | true =>
    go_wp2_with ((with_reducible refine Steps.gate_any rfl ?_); refine Steps.goesV_ (some 16) rfl rfl Try.func32 z1 rfl #[.agg #[.int .i64 x.f0, .int .i64 x.f1, .int .i64 x.f2, .int .i64 x.f3, .int .i64 x.f4.f0, .int .i64 x.f4.f1, .int .i64 x.f4.f2, .int .i64 x.f4.f3.f0, .int .i64 x.f4.f3.f1, .string x.f4.f3.f2, .slice A5 x.f5.length c5, .slice A6 x.f6.length c6, .int .i64 x.f7, .int .i64 x.f8], .pointer (some ⟨gb, 0, none⟩)] rfl (cap := #[.pointer (some ⟨gb, 0, none⟩)]) (by first | rfl | go_simp) (by first | rfl | (go_simp; done)) ?_; (refine (uses1_calls (x := x) (A5 := A5) (c5 := c5) (A6 := A6) (c6 := c6) t gb _ HGV.out).mono ?_); rw [HP.out]; rintro e V ⟨rfl, hq⟩; have hbV := below_step HB.out hq; refine ⟨_, rfl, ?_⟩)
    go_ret
    exact ⟨_, rfl, by rw [HA.out]; simp, (by repeat (first | exact Below.refl _ _ | exact hbV | refine below_alloc ?_ _ | refine below_drew ?_ | refine pw_below_drewN ?_ _))⟩
   | false =>
    rw [Bool.false_or] at HA
    go_wp2_with ((with_reducible refine Steps.gate_any rfl ?_); refine Steps.goesV_ (some 16) rfl rfl Try.func32 z1 rfl #[.agg #[.int .i64 x.f0, .int .i64 x.f1, .int .i64 x.f2, .int .i64 x.f3, .int .i64 x.f4.f0, .int .i64 x.f4.f1, .int .i64 x.f4.f2, .int .i64 x.f4.f3.f0, .int .i64 x.f4.f3.f1, .string x.f4.f3.f2, .slice A5 x.f5.length c5, .slice A6 x.f6.length c6, .int .i64 x.f7, .int .i64 x.f8], .pointer (some ⟨gb, 0, none⟩)] rfl (cap := #[.pointer (some ⟨gb, 0, none⟩)]) (by first | rfl | go_simp) (by first | rfl | (go_simp; done)) ?_; (refine (uses1_calls (x := x) (A5 := A5) (c5 := c5) (A6 := A6) (c6 := c6) t gb _ HGV.out).mono ?_); rw [HP.out]; rintro e V ⟨rfl, hq⟩; have hbV := below_step HB.out hq; refine ⟨_, rfl, ?_⟩)
    go_roundg k1
    case measure => exact Nat.lt_succ_self _
    case rel => exact ⟨i + 1, by rw [w64 z5 (by have := HI2.out; have := HL.out; omega)]; rfl, HA, ⟨by have := HK.out; omega, by have := HI2.out; omega⟩, ⟨(by repeat (first | exact Below.refl _ _ | exact hbV | refine below_alloc ?_ _ | refine below_drew ?_ | refine pw_below_drewN ?_ _))⟩⟩
  ·
   have hie : i = l.length := by have := HK.out; omega
   subst hie
   rw [List.drop_length] at HA
   have hb2' : decide ((l.length : Int) < (l.length : Int)) = false := decide_eq_false z5
   have hb3' : decide (l.length < l.length) = false := decide_eq_false z5
   clear hi
   go_wp2
   go_ret
   exact ⟨_, rfl, by rw [HA.out]; rfl, HB.out⟩
set_option maxHeartbeats 8000000 in
set_option maxRecDepth 100000 in
theorem uses_contains (A0 : Option Addr) (c0 : Nat) (l : List No) (t : Int) (gb : Nat) (w : World) (hr0 : Kd.C k34 w A0 l.length l) (hl : l.length ≤ 1000) (hg : w.heap[gb]? = some (.cells #[.int .i64 t] 3 (0, 0))) :
  Calls Try.prog 31 #[.slice A0 l.length c0, .func (.func 32) #[] #[.pointer (some ⟨gb, 0, none⟩)]] w fun e w' => e = .returned (.bool (l.any (useP t))) ∧ Below w.heap.size w w' := by
 have HI := mk_ (uses_index A0 c0 l t gb w hr0 hl hg)
 clear hr0 hl hg
 go_enter Try.func31, Try.ntmps31
 go_wp2_with (go_at_call 41; refine HI.out.mono ?_; rintro e V ⟨r, rfl, hr, hq⟩; have HQ := mk_ hq; have HRR := mk_ hr; clear hq hr)
 go_ret
 exact ⟨by rw [← HRR.out]; rfl, HQ.out⟩
end Go.Proofs.Ytimbbaoodjhdoaa.Plan
namespace Go.Proofs.Ytimbbaoodjhdoaa.PAll
open Go.RowKit Go.Proofs.Ytimbbaoodjhdoaa.Plan Go.Proofs.Ytimbbaoodjhdoaa.Plain Go.Proofs.YtimbbaoodjhdoaaW.PrintWords Go.Proofs.YtimbbaoodjhdoaaW.PrintLast Go.Proofs.YtimbbaoodjhdoaaW.PrintMore Go.Proofs.Ytimbbaoodjhdoaa.ZipT Go.Proofs.YtimbbaoodjhdoaaW.PrintWords.Kd Go.Proofs.YtimbbaoodjhdoaaW.PrintMore.Kd
set_option linter.unusedVariables false
set_option linter.unusedSimpArgs false
def plan_Uses.f (l0 : List No) (a1 : Int) : Option Bool := if l0.length ≤ 1000 then some (l0.any (useP a1)) else none
set_option maxHeartbeats 8000000 in
set_option maxRecDepth 100000 in
theorem plan_Uses.calls (A0 : Option Addr) (c0 : Nat) (l0 : List No) (a1 : Int) (r : Bool) (w : World) (hr0 : Kd.C k34 w A0 l0.length l0) (hc0 : l0.length ≤ c0) (h : plan_Uses.f l0 a1 = some r) :
  Calls Try.prog 21 #[.slice A0 l0.length c0, .int .i64 a1] w fun e w' => e = .returned (.bool r) ∧ Below w.heap.size w w' := by
 unfold plan_Uses.f at h
 split at h
 ·
  rename_i hs
  obtain rfl := Option.some.inj h
  have HC := mk_ (uses_contains A0 c0 l0 a1 w.heap.size (w.alloc (.cells #[.int .i64 a1] 3)) (C_below hr0 (below_alloc (Below.refl _ _) _)) hs (blk_new _ _))
  clear h hr0 hs
  go_enter Try.func21, Try.ntmps21
  go_wp2_with (go_at_call 31; refine HC.out.mono ?_; rintro e V ⟨rfl, hq⟩; have HQ := mk_ hq; clear hq)
  go_ret
  exact ⟨rfl, below_step (below_alloc (Below.refl _ _) _) HQ.out⟩
 ·
  cases h
end Go.Proofs.Ytimbbaoodjhdoaa.PAll
end
section
namespace Go.Proofs.Ytimbbaoodjhdoaa.PAll
open Go.RowKit Go.Proofs.YtimbbaoodjhdoaaW.PrintWords Go.Proofs.YtimbbaoodjhdoaaW.PrintLast Go.Proofs.YtimbbaoodjhdoaaW.PrintMore Go.Proofs.Ytimbbaoodjhdoaa.ZipT Go.Proofs.YtimbbaoodjhdoaaW.PrintWords.Kd Go.Proofs.YtimbbaoodjhdoaaW.PrintMore.Kd
attribute [local go_sem] max2_int min2_int max_two min_two max_three min_three max_four min_four   -- for this text's walks alone
set_option linter.unusedVariables false
set_option linter.unusedSimpArgs false
mutual
def raddlelaw20_PlanParts.j0 : Nat → List (S34) → List (S54) → Int → Bool → Option (Bool)
 | 0, _, _, _, _ => none
 | k + 1, x0, x1, x2, x20 => if x20 = true then (some true) else ((raddleref14_Plan.f x0 x1).bind fun bt609 => (if bt609.2 = 0 then (if (IntKind.u64.wrap ((x0.length : Int))) = 0 then (none) else (if 0 ≤ (wrap64 (1 + (wrap64 (Int.tmod (IntKind.u64.wrap (x2)) (IntKind.u64.wrap ((x0.length : Int))))))) then (if (wrap64 (1 + (wrap64 (Int.tmod (IntKind.u64.wrap (x2)) (IntKind.u64.wrap ((x0.length : Int))))))) ≤ (x0.length : Int) then ((plan_Check.f (x0.take ((wrap64 (1 + (wrap64 (Int.tmod (IntKind.u64.wrap (x2)) (IntKind.u64.wrap ((x0.length : Int))))))) : Int).toNat) x1).bind fun bt618 => ((plan_Bound.f (x0.take ((wrap64 (1 + (wrap64 (Int.tmod (IntKind.u64.wrap (x2)) (IntKind.u64.wrap ((x0.length : Int))))))) : Int).toNat) x1).bind fun bt627 => (if bt618.2 = 0 then (if bt627.2.2 = 0 then (if (bt618.1.length : Int) > 12 then (raddlelaw20_PlanParts.j1 k x0 x1 true) else (if bt627.1 < 1 then (raddlelaw20_PlanParts.j1 k x0 x1 true) else (if bt627.1 > 1125899906842624 then (raddlelaw20_PlanParts.j1 k x0 x1 true) else (if bt627.2.1 < 1 then (raddlelaw20_PlanParts.j1 k x0 x1 true) else (raddlelaw20_PlanParts.j1 k x0 x1 (decide (bt627.2.1 > 1152921504606846976))))))) else (raddlelaw20_PlanParts.j1 k x0 x1 true)) else (raddlelaw20_PlanParts.j1 k x0 x1 true)))) else (none)) else (none))) else (some true)))
def raddlelaw20_PlanParts.j1 : Nat → List (S34) → List (S54) → Bool → Option (Bool)
 | 0, _, _, _ => none
 | k + 1, x0, x1, x80 => if x80 = true then (some false) else (if ([] : List (S34)).length + x0.length < 925904528653 then ((some (([] : List (S34)) ++ x0 : List (S34))).bind fun y630 => (if y630.length < 925904528653 then ((some (y630 ++ [(⟨1, 0, 0, wrap64 ((x1.length : Int) - 1), (⟨0, 0, 0, (⟨0, 0, (⟨#[]⟩ : ByteArray)⟩ : S29)⟩ : S31), ([] : List Int), ([] : List Int), 0, 0⟩ : S34)] : List (S34))).bind fun y633 => ((plan_Check.f y633 x1).bind fun bt636 => (if (y633.length : Int) > 12 then (if bt636.2 = 2 then (if (bt636.1.length : Int) = 0 then ((raddlelaw20_wakes.f k).bind fun t640 => (some t640)) else (some false)) else (some false)) else (if bt636.2 = 0 then (if 0 ≤ (wrap64 ((x1.length : Int) - 1)) then (if (wrap64 ((x1.length : Int) - 1)) < (x1.length : Int) then (if (bt636.1.length : Int) = (wrap64 (1 + (((rd_T54 x1 (wrap64 ((x1.length : Int) - 1))).f0).length : Int))) then (if 0 < (bt636.1.length : Int) then (if (rd bt636.1 0) = 4 then ((plan_Uses.f y633 (wrap64 ((x1.length : Int) - 1))).bind fun t643 => (if t643 = true then ((raddlelaw20_wakes.f k).bind fun t644 => (some t644)) else (some false))) else (some false)) else (none)) else (some false)) else (none)) else (none)) else (some false))))) else (none))) else (none))
end
def raddlelaw20_PlanParts.f (k : Nat) (l0 : List (S34)) (l1 : List (S54)) (a2 : Int) : Option (Bool) := (raddlelaw20_Heavy.f k l0).bind fun t607 => (if t607 = true then (raddlelaw20_PlanParts.j0 k l0 l1 a2 true) else ((raddlelaw07_HeavyForms.f k l1).bind fun t608 => (raddlelaw20_PlanParts.j0 k l0 l1 a2 t608)))
set_option maxHeartbeats 8000000 in
set_option maxRecDepth 100000 in
theorem raddlelaw20_PlanParts.calls (k : Nat) (P0_ : Nat → Prop) (A0 : Option Addr) (c0 : Nat) (l0 : List (S34)) (A1 : Option Addr) (c1 : Nat) (l1 : List (S54)) (a2 : Int) (r : Bool) (w : World) (hs0 : Kd.V k34 34 w w.heap.size (fun k_ => P0_ k_) (.slice A0 l0.length c0) l0) (hr1 : Kd.C k54 w A1 l1.length l1) (hc1 : l1.length ≤ c1) (hrt : r = true) (h : raddlelaw20_PlanParts.f k l0 l1 a2 = some r) :
  Calls Try.prog 9 #[.slice A0 l0.length c0, .slice A1 l1.length c1, .int .i64 a2] w fun e w' => e = .returned (.bool r) ∧ Below w.heap.size w w' := by
 have hu34 := Try.underlying34
 have HO0 := mk_ (show Kd.V k34 34 w w.heap.size (fun k_ => (P0_ k_ ∨ w.heap.size ≤ k_)) (.slice A0 l0.length c0) l0 from V_mono hs0 (fun k_ hk => .inl hk))
 have HR1 := mk_ hr1
 have HC1 := mk_ hc1
 clear hr1 hc1
 have HB := mk_ (Below.refl w.heap.size w)
 have H : ((raddlelaw20_Heavy.f k l0).bind fun t607 => (if t607 = true then (raddlelaw20_PlanParts.j0 k l0 l1 a2 true) else ((raddlelaw07_HeavyForms.f k l1).bind fun t608 => (raddlelaw20_PlanParts.j0 k l0 l1 a2 t608)))) = some r := h
 clear h
 have HC4 := mk_ H
 clear H
 go_enter Try.func9, Try.ntmps9
 go_upto_region 1 with (fail)
 go_cut [20] (fun v20 wc => ∃ (kq : Nat) (x20_3 : Bool), v20 = .bool x20_3 ∧ Aside0 (raddlelaw20_PlanParts.j0 kq l0 l1 a2 x20_3 = some r) ∧ Aside0 (kq ≤ k) ∧ Aside0 (Kd.V k34 34 wc w.heap.size (fun k_ => (P0_ k_ ∨ w.heap.size ≤ k_)) (.slice A0 l0.length c0) l0) ∧ Aside0 (Below w.heap.size w wc))
 case first =>
  have H := HC4.out
  clear HC4
  replace H := Option.bind_eq_some_iff.mp H
  obtain ⟨t607, A50, H⟩ := H
  replace H : (if t607 = true then (raddlelaw20_PlanParts.j0 k l0 l1 a2 true) else ((raddlelaw07_HeavyForms.f k l1).bind fun t608 => (raddlelaw20_PlanParts.j0 k l0 l1 a2 t608))) = some r := H
  have A5 := mk_ A50
  clear A50
  by_cases c6 : t607 = true
  ·
   subst c6
   have H1 : (raddlelaw20_PlanParts.j0 k l0 l1 a2 true) = some r := by rw [if_pos rfl] at H; exact H
   clear H
   have H := H1
   clear H1
   have H' := mk_ H
   clear H
   go_wp2_with (first | ((with_reducible refine gate_callee (f := 15) rfl ?_); refine Short.gL (some 16) Try.func15 #[.slice A0 l0.length c0] (h := ?_); (with_reducible refine (raddlelaw20_Heavy.calls k _ _ l0 true _ ?side1 ?side2 A5.out).mono ?_); (case side1 => exact cX_ (V_reads' HO0.out).2.2); (case side2 => exact (V_reads' HO0.out).2.1); rintro e w7 ⟨rfl, hb⟩; refine ⟨_, rfl, ?_⟩; have n0_ := mk_ (V_below (ZKV HO0) hb); have n1_ := mk_ (below_step (Short.hB HB) hb); clear HO0 HB; revert n0_ n1_; intro HO0 HB; (try clear hb)))
   go_meet
   case rel => exact ⟨_, (true), z9, H', ⟨by first | omega | exact Nat.le_refl _⟩, ⟨by (with_reducible repeat (first | apply V_alloc | apply V_drewN | apply V_drew)); exact HO0.out⟩, ⟨Short.hB HB⟩⟩
  ·
   replace c6 := Bool.eq_false_iff.mpr c6
   subst c6
   have H1 : ((raddlelaw07_HeavyForms.f k l1).bind fun t608 => (raddlelaw20_PlanParts.j0 k l0 l1 a2 t608)) = some r := by rw [if_neg (show ¬ (false = true) by decide)] at H; exact H
   clear H
   have H := H1
   clear H1
   replace H := Option.bind_eq_some_iff.mp H
   obtain ⟨t608, A80, H⟩ := H
   replace H : (raddlelaw20_PlanParts.j0 k l0 l1 a2 t608) = some r := H
   have A8 := mk_ A80
   clear A80
   have H' := mk_ H
   clear H
   go_wp2_with (first | ((with_reducible refine gate_callee (f := 15) rfl ?_); refine Short.gL (some 16) Try.func15 #[.slice A0 l0.length c0] (h := ?_); (with_reducible refine (raddlelaw20_Heavy.calls k _ _ l0 false _ ?side1 ?side2 A5.out).mono ?_); (case side1 => exact cX_ (V_reads' HO0.out).2.2); (case side2 => exact (V_reads' HO0.out).2.1); rintro e w9 ⟨rfl, hb⟩; refine ⟨_, rfl, ?_⟩; have n0_ := mk_ (V_below (ZKV HO0) hb); have n1_ := mk_ (below_step (Short.hB HB) hb); clear HO0 HB; revert n0_ n1_; intro HO0 HB; (try clear hb)) | (go_at_call 10; (with_reducible refine (raddlelaw07_HeavyForms.calls k _ _ l1 t608 _ ?side1 ?side2 A8.out).mono ?_); (case side1 => exact cX_ (C_below HR1.out HB.out)); (case side2 => exact HC1.out); rintro e w' ⟨rfl, ⟨nd, rfl⟩⟩))
   go_meet
   case rel => exact ⟨_, (t608), z9, H', ⟨by first | omega | exact Nat.le_refl _⟩, ⟨by (with_reducible repeat (first | apply V_alloc | apply V_drewN | apply V_drew)); exact HO0.out⟩, ⟨Short.hB HB⟩⟩
 case rest =>
  clear HC4
  try clear c1
  try clear p2
  try clear c6
  try clear c9
  obtain ⟨kq, x20_3, rfl, HA, HJ3, HO_0, HB⟩ := hcut
  cases kq with
  | zero => exact absurd HA.out (by simp [raddlelaw20_PlanParts.j0])
  | succ kj3 =>
   have H := HA.out
   clear HA
   simp only [raddlelaw20_PlanParts.j0] at H
   by_cases c10 : x20_3 = true
   ·
    subst c10
    have H1 : (some true) = some r := by rw [if_pos rfl] at H; exact H
    clear H
    have H := H1
    clear H1
    obtain rfl := Option.some.inj H
    go_wp2
    go_ret
    exact ⟨by first | rfl | (simp [errW_none, errW_some] <;> rfl) | (simp [*, errW_none, errW_some] <;> rfl), Short.hB HB⟩
   ·
    replace c10 := Bool.eq_false_iff.mpr c10
    subst c10
    have H1 : ((raddleref14_Plan.f l0 l1).bind fun bt609 => (if bt609.2 = 0 then (if (IntKind.u64.wrap ((l0.length : Int))) = 0 then (none) else (if 0 ≤ (wrap64 (1 + (wrap64 (Int.tmod (IntKind.u64.wrap (a2)) (IntKind.u64.wrap ((l0.length : Int))))))) then (if (wrap64 (1 + (wrap64 (Int.tmod (IntKind.u64.wrap (a2)) (IntKind.u64.wrap ((l0.length : Int))))))) ≤ (l0.length : Int) then ((plan_Check.f (l0.take ((wrap64 (1 + (wrap64 (Int.tmod (IntKind.u64.wrap (a2)) (IntKind.u64.wrap ((l0.length : Int))))))) : Int).toNat) l1).bind fun bt618 => ((plan_Bound.f (l0.take ((wrap64 (1 + (wrap64 (Int.tmod (IntKind.u64.wrap (a2)) (IntKind.u64.wrap ((l0.length : Int))))))) : Int).toNat) l1).bind fun bt627 => (if bt618.2 = 0 then (if bt627.2.2 = 0 then (if (bt618.1.length : Int) > 12 then (raddlelaw20_PlanParts.j1 kj3 l0 l1 true) else (if bt627.1 < 1 then (raddlelaw20_PlanParts.j1 kj3 l0 l1 true) else (if bt627.1 > 1125899906842624 then (raddlelaw20_PlanParts.j1 kj3 l0 l1 true) else (if bt627.2.1 < 1 then (raddlelaw20_PlanParts.j1 kj3 l0 l1 true) else (raddlelaw20_PlanParts.j1 kj3 l0 l1 (decide (bt627.2.1 > 1152921504606846976))))))) else (raddlelaw20_PlanParts.j1 kj3 l0 l1 true)) else (raddlelaw20_PlanParts.j1 kj3 l0 l1 true)))) else (none)) else (none))) else (some true))) = some r := by rw [if_neg (show ¬ (false = true) by decide)] at H; exact H
    clear H
    have H := H1
    clear H1
    replace H := Option.bind_eq_some_iff.mp H
    obtain ⟨⟨t609, t610⟩, A110, H⟩ := H
    replace H : (if t610 = 0 then (if (IntKind.u64.wrap ((l0.length : Int))) = 0 then (none) else (if 0 ≤ (wrap64 (1 + (wrap64 (Int.tmod (IntKind.u64.wrap (a2)) (IntKind.u64.wrap ((l0.length : Int))))))) then (if (wrap64 (1 + (wrap64 (Int.tmod (IntKind.u64.wrap (a2)) (IntKind.u64.wrap ((l0.length : Int))))))) ≤ (l0.length : Int) then ((plan_Check.f (l0.take ((wrap64 (1 + (wrap64 (Int.tmod (IntKind.u64.wrap (a2)) (IntKind.u64.wrap ((l0.length : Int))))))) : Int).toNat) l1).bind fun bt618 => ((plan_Bound.f (l0.take ((wrap64 (1 + (wrap64 (Int.tmod (IntKind.u64.wrap (a2)) (IntKind.u64.wrap ((l0.length : Int))))))) : Int).toNat) l1).bind fun bt627 => (if bt618.2 = 0 then (if bt627.2.2 = 0 then (if (bt618.1.length : Int) > 12 then (raddlelaw20_PlanParts.j1 kj3 l0 l1 true) else (if bt627.1 < 1 then (raddlelaw20_PlanParts.j1 kj3 l0 l1 true) else (if bt627.1 > 1125899906842624 then (raddlelaw20_PlanParts.j1 kj3 l0 l1 true) else (if bt627.2.1 < 1 then (raddlelaw20_PlanParts.j1 kj3 l0 l1 true) else (raddlelaw20_PlanParts.j1 kj3 l0 l1 (decide (bt627.2.1 > 1152921504606846976))))))) else (raddlelaw20_PlanParts.j1 kj3 l0 l1 true)) else (raddlelaw20_PlanParts.j1 kj3 l0 l1 true)))) else (none)) else (none))) else (some true)) = some r := H
    have A11 := mk_ A110
    clear A110
    by_cases c12 : t610 = 0
    ·
     rw [if_pos c12] at H
     have c12b0 : (t610 == 0) = true := beq_iff_eq.mpr c12
     have c12b1 : (t610 != 0) = false := bne_eq_false_iff_eq.mpr c12
     clear c12
     by_cases c13 : (IntKind.u64.wrap ((l0.length : Int))) = 0
     ·
      rw [if_pos c13] at H
      exact absurd H (by simp)
     ·
      rw [if_neg c13] at H
      have c13b0 : ((IntKind.u64.wrap ((l0.length : Int))) == 0) = false := beq_eq_false_iff_ne.mpr c13
      have c13b1 : ((IntKind.u64.wrap ((l0.length : Int))) != 0) = true := bne_iff_ne.mpr c13
      obtain ⟨ji14, hji14⟩ : ∃ j_ : Int, (wrap64 (1 + (wrap64 (Int.tmod (IntKind.u64.wrap (a2)) (IntKind.u64.wrap ((l0.length : Int))))))) = j_ := ⟨_, rfl⟩
      replace H : (if 0 ≤ (ji14) then (if (ji14) ≤ (l0.length : Int) then ((plan_Check.f (l0.take ((ji14) : Int).toNat) l1).bind fun bt618 => ((plan_Bound.f (l0.take ((ji14) : Int).toNat) l1).bind fun bt627 => (if bt618.2 = 0 then (if bt627.2.2 = 0 then (if (bt618.1.length : Int) > 12 then (raddlelaw20_PlanParts.j1 kj3 l0 l1 true) else (if bt627.1 < 1 then (raddlelaw20_PlanParts.j1 kj3 l0 l1 true) else (if bt627.1 > 1125899906842624 then (raddlelaw20_PlanParts.j1 kj3 l0 l1 true) else (if bt627.2.1 < 1 then (raddlelaw20_PlanParts.j1 kj3 l0 l1 true) else (raddlelaw20_PlanParts.j1 kj3 l0 l1 (decide (bt627.2.1 > 1152921504606846976))))))) else (raddlelaw20_PlanParts.j1 kj3 l0 l1 true)) else (raddlelaw20_PlanParts.j1 kj3 l0 l1 true)))) else (none)) else (none)) = some r := by first | (rw [hji14] at H; exact H) | (simp only [hji14] at H ⊢; exact H)
      (try rw [hji14] at A11)
      have hji14w : (IntKind.i64.wrap (1 + (wrap64 (Int.tmod (IntKind.u64.wrap (a2)) (IntKind.u64.wrap ((l0.length : Int))))))) = ji14 := (i64_w _).trans hji14
      by_cases c15 : 0 ≤ (ji14)
      ·
       rw [if_pos c15] at H
       have c15b0 := eq_true c15
       have c15b1 : decide (0 ≤ (ji14)) = true := decide_eq_true c15
       clear c15
       by_cases c16 : (ji14) ≤ (l0.length : Int)
       ·
        rw [if_pos c16] at H
        have c16b0 := eq_true c16
        have c16b1 : decide ((ji14) ≤ (l0.length : Int)) = true := decide_eq_true c16
        clear c16
        obtain ⟨y613, hy613⟩ : ∃ y_ : List (S34), y_ = (l0.take ((ji14) : Int).toNat) := ⟨_, rfl⟩
        replace H : ((plan_Check.f y613 l1).bind fun bt618 => ((plan_Bound.f (l0.take ((ji14) : Int).toNat) l1).bind fun bt627 => (if bt618.2 = 0 then (if bt627.2.2 = 0 then (if (bt618.1.length : Int) > 12 then (raddlelaw20_PlanParts.j1 kj3 l0 l1 true) else (if bt627.1 < 1 then (raddlelaw20_PlanParts.j1 kj3 l0 l1 true) else (if bt627.1 > 1125899906842624 then (raddlelaw20_PlanParts.j1 kj3 l0 l1 true) else (if bt627.2.1 < 1 then (raddlelaw20_PlanParts.j1 kj3 l0 l1 true) else (raddlelaw20_PlanParts.j1 kj3 l0 l1 (decide (bt627.2.1 > 1152921504606846976))))))) else (raddlelaw20_PlanParts.j1 kj3 l0 l1 true)) else (raddlelaw20_PlanParts.j1 kj3 l0 l1 true)))) = some r := by first | (rw [hy613]; with_reducible exact H) | (have H2_ := (Option.bind_some _ _).symm.trans H; rw [hy613]; with_reducible exact H2_) | (have H2_ := (Option.bind_some _ _).symm.trans H; with_reducible exact H2_) | with_reducible exact H | (rw [hy613]; exact H) | exact H
        have Ny613 := mk_ hy613
        clear hy613
        replace H := Option.bind_eq_some_iff.mp H
        obtain ⟨⟨t618, t619⟩, A170, H⟩ := H
        replace H : ((plan_Bound.f (l0.take ((ji14) : Int).toNat) l1).bind fun bt627 => (if t619 = 0 then (if bt627.2.2 = 0 then (if (t618.length : Int) > 12 then (raddlelaw20_PlanParts.j1 kj3 l0 l1 true) else (if bt627.1 < 1 then (raddlelaw20_PlanParts.j1 kj3 l0 l1 true) else (if bt627.1 > 1125899906842624 then (raddlelaw20_PlanParts.j1 kj3 l0 l1 true) else (if bt627.2.1 < 1 then (raddlelaw20_PlanParts.j1 kj3 l0 l1 true) else (raddlelaw20_PlanParts.j1 kj3 l0 l1 (decide (bt627.2.1 > 1152921504606846976))))))) else (raddlelaw20_PlanParts.j1 kj3 l0 l1 true)) else (raddlelaw20_PlanParts.j1 kj3 l0 l1 true))) = some r := H
        have A17 := mk_ A170
        clear A170
        have c18b0 := eq_true (of_decide_eq_true z4 : 0 ≤ (ji14))
        have c19b0 := eq_true (of_decide_eq_true z4 : (ji14) ≤ (l0.length : Int))
        obtain ⟨y622, hy622⟩ : ∃ y_ : List (S34), y_ = (l0.take ((ji14) : Int).toNat) := ⟨_, rfl⟩
        replace H : ((plan_Bound.f y622 l1).bind fun bt627 => (if t619 = 0 then (if bt627.2.2 = 0 then (if (t618.length : Int) > 12 then (raddlelaw20_PlanParts.j1 kj3 l0 l1 true) else (if bt627.1 < 1 then (raddlelaw20_PlanParts.j1 kj3 l0 l1 true) else (if bt627.1 > 1125899906842624 then (raddlelaw20_PlanParts.j1 kj3 l0 l1 true) else (if bt627.2.1 < 1 then (raddlelaw20_PlanParts.j1 kj3 l0 l1 true) else (raddlelaw20_PlanParts.j1 kj3 l0 l1 (decide (bt627.2.1 > 1152921504606846976))))))) else (raddlelaw20_PlanParts.j1 kj3 l0 l1 true)) else (raddlelaw20_PlanParts.j1 kj3 l0 l1 true))) = some r := by first | (rw [hy622]; with_reducible exact H) | (have H2_ := (Option.bind_some _ _).symm.trans H; rw [hy622]; with_reducible exact H2_) | (have H2_ := (Option.bind_some _ _).symm.trans H; with_reducible exact H2_) | with_reducible exact H | (rw [hy622]; exact H) | exact H
        have Ny622 := mk_ hy622
        clear hy622
        replace H := Option.bind_eq_some_iff.mp H
        obtain ⟨⟨t627, t628, t629⟩, A200, H⟩ := H
        replace H : (if t619 = 0 then (if t629 = 0 then (if (t618.length : Int) > 12 then (raddlelaw20_PlanParts.j1 kj3 l0 l1 true) else (if t627 < 1 then (raddlelaw20_PlanParts.j1 kj3 l0 l1 true) else (if t627 > 1125899906842624 then (raddlelaw20_PlanParts.j1 kj3 l0 l1 true) else (if t628 < 1 then (raddlelaw20_PlanParts.j1 kj3 l0 l1 true) else (raddlelaw20_PlanParts.j1 kj3 l0 l1 (decide (t628 > 1152921504606846976))))))) else (raddlelaw20_PlanParts.j1 kj3 l0 l1 true)) else (raddlelaw20_PlanParts.j1 kj3 l0 l1 true)) = some r := H
        have A20 := mk_ A200
        clear A200
        have HC21 := mk_ H
        clear H
        go_upto_region 9 with (first | ((with_reducible refine gate_callee (f := 11) rfl ?_); refine Short.gL (some 24) Try.func11 #[.slice A0 l0.length c0, .slice A1 l1.length c1] (h := ?_); (with_reducible refine (raddleref14_Plan.calls _ _ l0 _ _ l1 t609 t610 _ ?side1 ?side2 ?side3 ?side4 A11.out).mono ?_); (case side1 => exact cX_ (V_reads' HO_0.out).2.2); (case side2 => exact (V_reads' HO_0.out).2.1); (case side3 => exact cX_ (C_below HR1.out HB.out)); (case side4 => exact HC1.out); rintro e w22 ⟨v611, rfl, ho0, hb⟩; refine ⟨_, rfl, ?_⟩; have n0_ := mk_ (V_elder' (ZKV HO_0) (S_base ho0) hb); have n1_ := mk_ (N_lower (N_mono (ok' := fun k_ => (P0_ k_ ∨ w.heap.size ≤ k_)) (S_N (S_bound ho0)) (fun k_ hk_ => (.inr (Nat.le_trans (below_size (Short.hB HB)) hk_.2.1)))) (below_size (Short.hB HB))); have n2_ := mk_ (below_step (Short.hB HB) hb); clear HO_0 HB; revert n0_ n1_ n2_; intro HO_0 HO612 HB; (try clear hb ho0); have q23 : ((ji14) : Int) ≤ ((l0.length : Int) : Int) := of_decide_eq_true z4; obtain ⟨i023, hi023, _, hsz23, _⟩ := info_parts info34; have hroom23 : l0.length ≤ c0 := (V_reads' HO_0.out).2.1; have hC23 : Kd.F k34 _ _ A0 l0.length l0 := (V_at (base := w.heap.size) HO_0.out).2.2; (try clear hcut25); have hcut23 := cut_to (P := Try.prog) 35 34 .i64 Try.underlying35 hi023 A0 l0.length c0 (ji14) (of_decide_eq_true z4) q23 hroom23; have hr23 := F_take (m := ((ji14) : Int).toNat) hC23 z5; have hy23 : y613.length = ((ji14) : Int).toNat := (by rw [Ny613.out, List.length_take]; omega); rw [← Ny613.out] at hr23; rw [← hy23] at hcut23; have HO617 := mk_ (show Kd.V k34 34 _ w.heap.size _ (.slice A0 y613.length c0) y613 from V_mk z5 hr23); have HC617 := mk_ (show y613.length ≤ c0 from by omega); clear hr23 hC23 hroom23 hi023 hsz23; have KY23 := mk_ hy23; clear hy23; replace q23 := eq_true q23) | ((with_reducible refine gate_callee (f := 12) rfl ?_); refine Short.gL (some 42) Try.func12 #[.slice A0 y613.length c0, .slice A1 l1.length c1] (h := ?_); (with_reducible refine (plan_Check.calls _ _ y613 _ _ l1 t618 t619 _ ?side1 ?side2 ?side3 ?side4 A17.out).mono ?_); (case side1 => exact cX_ (V_reads' HO617.out).2.2); (case side2 => exact (V_reads' HO617.out).2.1); (case side3 => exact cX_ (C_below HR1.out HB.out)); (case side4 => exact HC1.out); rintro e w24 ⟨v620, rfl, ho0, hb⟩; refine ⟨_, rfl, ?_⟩; have n0_ := mk_ (V_elder' (ZKV HO_0) (R_base ho0) hb); have n1_ := mk_ (N_elder' (ZKN HO612) (R_base ho0) hb); have n2_ := mk_ (V_elder' (ZKV HO617) (R_base ho0) hb); have n3_ := mk_ (R_lower (R_newM (M := fun k_ => (w.heap.size ≤ k_)) ho0 (below_size (Short.hB HB)) (fun k_ h_ => h_)) (below_size (Short.hB HB))); have n4_ := mk_ (below_step (Short.hB HB) hb); clear HO_0 HO612 HO617 HB; revert n0_ n1_ n2_ n3_ n4_; intro HO_0 HO612 HO617 HO621 HB; (try clear hb ho0); have q25 : ((ji14) : Int) ≤ ((l0.length : Int) : Int) := of_decide_eq_true z4; obtain ⟨i025, hi025, _, hsz25, _⟩ := info_parts info34; have hroom25 : l0.length ≤ c0 := (V_reads' HO_0.out).2.1; have hC25 : Kd.F k34 _ _ A0 l0.length l0 := (V_at (base := w.heap.size) HO_0.out).2.2; (try clear hcut23); have hcut25 := cut_to (P := Try.prog) 35 34 .i64 Try.underlying35 hi025 A0 l0.length c0 (ji14) (of_decide_eq_true z4) q25 hroom25; have hr25 := F_take (m := ((ji14) : Int).toNat) hC25 z5; have hy25 : y622.length = ((ji14) : Int).toNat := (by rw [Ny622.out, List.length_take]; omega); rw [← Ny622.out] at hr25; rw [← hy25] at hcut25; have HO626 := mk_ (show Kd.V k34 34 _ w.heap.size _ (.slice A0 y622.length c0) y622 from V_mk z5 hr25); have HC626 := mk_ (show y622.length ≤ c0 from by omega); clear hr25 hC25 hroom25 hi025 hsz25; have KY25 := mk_ hy25; clear hy25; replace q25 := eq_true q25) | ((with_reducible refine gate_callee (f := 13) rfl ?_); refine Short.gL (some 50) Try.func13 #[.slice A0 y622.length c0, .slice A1 l1.length c1] (h := ?_); (with_reducible refine (plan_Bound.calls _ _ y622 _ _ l1 t627 t628 t629 _ ?side1 ?side2 ?side3 ?side4 A20.out).mono ?_); (case side1 => exact cX_ (V_reads' HO626.out).2.2); (case side2 => exact (V_reads' HO626.out).2.1); (case side3 => exact cX_ (C_below HR1.out HB.out)); (case side4 => exact HC1.out); rintro e w26 ⟨rfl, hb⟩; refine ⟨_, rfl, ?_⟩; have n0_ := mk_ (V_below (ZKV HO_0) hb); have n1_ := mk_ (N_below (ZKN HO612) hb); have n2_ := mk_ (V_below (ZKV HO617) hb); have n3_ := mk_ (R_below (ZKR HO621) hb); have n4_ := mk_ (V_below (ZKV HO626) hb); have n5_ := mk_ (below_step (Short.hB HB) hb); clear HO_0 HO612 HO617 HO621 HO626 HB; revert n0_ n1_ n2_ n3_ n4_ n5_; intro HO_0 HO612 HO617 HO621 HO626 HB; (try clear hb)))
        (try simp only [Act.put, List.setIfInBounds_toArray, List.set_cons_zero, List.set_cons_succ])
        go_cut [80] (fun v80 wc => ∃ (kq : Nat) (x80_20 : Bool), v80 = .bool x80_20 ∧ Aside0 (raddlelaw20_PlanParts.j1 kq l0 l1 x80_20 = some r) ∧ Aside0 (kq ≤ kj3) ∧ Aside0 (Kd.V k34 34 wc w.heap.size (fun k_ => (P0_ k_ ∨ w.heap.size ≤ k_)) (.slice A0 l0.length c0) l0) ∧ Aside0 (Below w.heap.size w wc))
        case first =>
         have H := HC21.out
         clear HC21
         by_cases c27 : t619 = 0
         ·
          rw [if_pos c27] at H
          have c27b0 : (t619 == 0) = true := beq_iff_eq.mpr c27
          have c27b1 : (t619 != 0) = false := bne_eq_false_iff_eq.mpr c27
          clear c27
          (first | rw [c27b0] | (simp only [i64_w, i32_w]; rw [c27b0]) | skip)
          by_cases c28 : t629 = 0
          ·
           rw [if_pos c28] at H
           have c28b0 : (t629 == 0) = true := beq_iff_eq.mpr c28
           have c28b1 : (t629 != 0) = false := bne_eq_false_iff_eq.mpr c28
           clear c28
           by_cases c29 : (t618.length : Int) > 12
           ·
            rw [if_pos c29] at H
            have c29b0 : decide (12 < (t618.length : Int)) = true := decide_eq_true c29
            have c29b1 : decide (12 < t618.length) = true := decide_eq_true z5
            clear c29
            exact absurd H (by rw [hrt]; cases kj3 <;> simp [raddlelaw20_PlanParts.j1])
           ·
            rw [if_neg c29] at H
            have c29b0 : decide (12 < (t618.length : Int)) = false := decide_eq_false c29
            have c29b1 : decide (12 < t618.length) = false := decide_eq_false z5
            clear c29
            by_cases c30 : t627 < 1
            ·
             rw [if_pos c30] at H
             have c30b0 : decide (t627 < 1) = true := decide_eq_true c30
             clear c30
             exact absurd H (by rw [hrt]; cases kj3 <;> simp [raddlelaw20_PlanParts.j1])
            ·
             rw [if_neg c30] at H
             have c30b0 : decide (t627 < 1) = false := decide_eq_false c30
             clear c30
             by_cases c31 : t627 > 1125899906842624
             ·
              rw [if_pos c31] at H
              have c31b0 : decide (1125899906842624 < t627) = true := decide_eq_true c31
              clear c31
              exact absurd H (by rw [hrt]; cases kj3 <;> simp [raddlelaw20_PlanParts.j1])
             ·
              rw [if_neg c31] at H
              have c31b0 : decide (1125899906842624 < t627) = false := decide_eq_false c31
              clear c31
              by_cases c32 : t628 < 1
              ·
               rw [if_pos c32] at H
               have c32b0 : decide (t628 < 1) = true := decide_eq_true c32
               clear c32
               exact absurd H (by rw [hrt]; cases kj3 <;> simp [raddlelaw20_PlanParts.j1])
              ·
               rw [if_neg c32] at H
               have c32b0 : decide (t628 < 1) = false := decide_eq_false c32
               clear c32
               have H' := mk_ H
               clear H
               obtain ⟨Ao33, co33, eo33⟩ := R_slice HO621.out
               subst eo33
               go_wp2
               go_meet
               case rel => exact ⟨_, (decide (t628 > 1152921504606846976)), z9, H', ⟨by have := HJ3.out; first | omega | exact Nat.le_refl _⟩, ⟨by (with_reducible repeat (first | apply V_alloc | apply V_drewN | apply V_drew)); exact V_mono HO_0.out (fun _ hk => hk.1.1)⟩, ⟨Short.hB HB⟩⟩
          ·
           rw [if_neg c28] at H
           have c28b0 : (t629 == 0) = false := beq_eq_false_iff_ne.mpr c28
           have c28b1 : (t629 != 0) = true := bne_iff_ne.mpr c28
           exact absurd H (by rw [hrt]; cases kj3 <;> simp [raddlelaw20_PlanParts.j1])
         ·
          rw [if_neg c27] at H
          have c27b0 : (t619 == 0) = false := beq_eq_false_iff_ne.mpr c27
          have c27b1 : (t619 != 0) = true := bne_iff_ne.mpr c27
          (first | rw [c27b0] | (simp only [i64_w, i32_w]; rw [c27b0]) | skip)
          exact absurd H (by rw [hrt]; cases kj3 <;> simp [raddlelaw20_PlanParts.j1])
        case rest =>
         clear HC21
         try clear c1
         try clear c2
         try clear p2
         try clear q2
         try clear c3
         try clear c6
         try clear p6
         try clear c9
         try clear c10
         try clear c11
         try clear c12
         try clear c12b0
         try clear c12b1
         try clear c13
         try clear c13b0
         try clear c13b1
         try clear c15
         try clear c15b0
         try clear c15b1
         try clear c16
         try clear c16b0
         try clear c16b1
         try clear c18
         try clear c18b0
         try clear c19
         try clear c19b0
         try clear q23
         try clear q25
         try clear c27
         try clear c27b0
         try clear c27b1
         try clear c28
         try clear c28b0
         try clear c28b1
         try clear c29
         try clear c29b0
         try clear c29b1
         try clear c30
         try clear c30b0
         try clear c31
         try clear c31b0
         try clear c32
         try clear c32b0
         try clear p2
         try clear q23
         try clear q25
         obtain ⟨kq, x80_20, rfl, HA, HJ20, HO_0, HB⟩ := hcut
         cases kq with
         | zero => exact absurd HA.out (by simp [raddlelaw20_PlanParts.j1])
         | succ kj20 =>
          have H := HA.out
          clear HA
          simp only [raddlelaw20_PlanParts.j1] at H
          by_cases c34 : x80_20 = true
          ·
           subst c34
           have H1 : (some false) = some r := by rw [if_pos rfl] at H; exact H
           clear H
           have H := H1
           clear H1
           exact absurd H (by rw [hrt]; simp)
          ·
           replace c34 := Bool.eq_false_iff.mpr c34
           subst c34
           have H1 : (if ([] : List (S34)).length + l0.length < 925904528653 then ((some (([] : List (S34)) ++ l0 : List (S34))).bind fun y630 => (if y630.length < 925904528653 then ((some (y630 ++ [(⟨1, 0, 0, wrap64 ((l1.length : Int) - 1), (⟨0, 0, 0, (⟨0, 0, (⟨#[]⟩ : ByteArray)⟩ : S29)⟩ : S31), ([] : List Int), ([] : List Int), 0, 0⟩ : S34)] : List (S34))).bind fun y633 => ((plan_Check.f y633 l1).bind fun bt636 => (if (y633.length : Int) > 12 then (if bt636.2 = 2 then (if (bt636.1.length : Int) = 0 then ((raddlelaw20_wakes.f kj20).bind fun t640 => (some t640)) else (some false)) else (some false)) else (if bt636.2 = 0 then (if 0 ≤ (wrap64 ((l1.length : Int) - 1)) then (if (wrap64 ((l1.length : Int) - 1)) < (l1.length : Int) then (if (bt636.1.length : Int) = (wrap64 (1 + (((rd_T54 l1 (wrap64 ((l1.length : Int) - 1))).f0).length : Int))) then (if 0 < (bt636.1.length : Int) then (if (rd bt636.1 0) = 4 then ((plan_Uses.f y633 (wrap64 ((l1.length : Int) - 1))).bind fun t643 => (if t643 = true then ((raddlelaw20_wakes.f kj20).bind fun t644 => (some t644)) else (some false))) else (some false)) else (none)) else (some false)) else (none)) else (none)) else (some false))))) else (none))) else (none)) = some r := by rw [if_neg (show ¬ (false = true) by decide)] at H; exact H
           clear H
           have H := H1
           clear H1
           by_cases c35 : ([] : List (S34)).length + l0.length < 925904528653
           ·
            rw [if_pos c35] at H
            have LMc35 := mk_ c35
            clear c35
            obtain ⟨y630, hy630⟩ : ∃ y_ : List (S34), y_ = (([] : List (S34)) ++ l0) := ⟨_, rfl⟩
            replace H : (if y630.length < 925904528653 then ((some (y630 ++ [(⟨1, 0, 0, wrap64 ((l1.length : Int) - 1), (⟨0, 0, 0, (⟨0, 0, (⟨#[]⟩ : ByteArray)⟩ : S29)⟩ : S31), ([] : List Int), ([] : List Int), 0, 0⟩ : S34)] : List (S34))).bind fun y633 => ((plan_Check.f y633 l1).bind fun bt636 => (if (y633.length : Int) > 12 then (if bt636.2 = 2 then (if (bt636.1.length : Int) = 0 then ((raddlelaw20_wakes.f kj20).bind fun t640 => (some t640)) else (some false)) else (some false)) else (if bt636.2 = 0 then (if 0 ≤ (wrap64 ((l1.length : Int) - 1)) then (if (wrap64 ((l1.length : Int) - 1)) < (l1.length : Int) then (if (bt636.1.length : Int) = (wrap64 (1 + (((rd_T54 l1 (wrap64 ((l1.length : Int) - 1))).f0).length : Int))) then (if 0 < (bt636.1.length : Int) then (if (rd bt636.1 0) = 4 then ((plan_Uses.f y633 (wrap64 ((l1.length : Int) - 1))).bind fun t643 => (if t643 = true then ((raddlelaw20_wakes.f kj20).bind fun t644 => (some t644)) else (some false))) else (some false)) else (none)) else (some false)) else (none)) else (none)) else (some false))))) else (none)) = some r := by first | (rw [hy630]; with_reducible exact H) | (have H2_ := (Option.bind_some _ _).symm.trans H; rw [hy630]; with_reducible exact H2_) | (have H2_ := (Option.bind_some _ _).symm.trans H; with_reducible exact H2_) | with_reducible exact H | (rw [hy630]; exact H) | exact H
            have Ny630 := mk_ hy630
            clear hy630
            by_cases c36 : y630.length < 925904528653
            ·
             rw [if_pos c36] at H
             have LMc36 := mk_ c36
             clear c36
             obtain ⟨y633, hy633⟩ : ∃ y_ : List (S34), y_ = (y630 ++ [(⟨1, 0, 0, wrap64 ((l1.length : Int) - 1), (⟨0, 0, 0, (⟨0, 0, (⟨#[]⟩ : ByteArray)⟩ : S29)⟩ : S31), ([] : List Int), ([] : List Int), 0, 0⟩ : S34)]) := ⟨_, rfl⟩
             replace H : ((plan_Check.f y633 l1).bind fun bt636 => (if (y633.length : Int) > 12 then (if bt636.2 = 2 then (if (bt636.1.length : Int) = 0 then ((raddlelaw20_wakes.f kj20).bind fun t640 => (some t640)) else (some false)) else (some false)) else (if bt636.2 = 0 then (if 0 ≤ (wrap64 ((l1.length : Int) - 1)) then (if (wrap64 ((l1.length : Int) - 1)) < (l1.length : Int) then (if (bt636.1.length : Int) = (wrap64 (1 + (((rd_T54 l1 (wrap64 ((l1.length : Int) - 1))).f0).length : Int))) then (if 0 < (bt636.1.length : Int) then (if (rd bt636.1 0) = 4 then ((plan_Uses.f y633 (wrap64 ((l1.length : Int) - 1))).bind fun t643 => (if t643 = true then ((raddlelaw20_wakes.f kj20).bind fun t644 => (some t644)) else (some false))) else (some false)) else (none)) else (some false)) else (none)) else (none)) else (some false)))) = some r := by first | (rw [hy633]; with_reducible exact H) | (have H2_ := (Option.bind_some _ _).symm.trans H; rw [hy633]; with_reducible exact H2_) | (have H2_ := (Option.bind_some _ _).symm.trans H; with_reducible exact H2_) | with_reducible exact H | (rw [hy633]; exact H) | exact H
             have Ny633 := mk_ hy633
             clear hy633
             replace H := Option.bind_eq_some_iff.mp H
             obtain ⟨⟨t636, t637⟩, A370, H⟩ := H
             replace H : (if (y633.length : Int) > 12 then (if t637 = 2 then (if (t636.length : Int) = 0 then ((raddlelaw20_wakes.f kj20).bind fun t640 => (some t640)) else (some false)) else (some false)) else (if t637 = 0 then (if 0 ≤ (wrap64 ((l1.length : Int) - 1)) then (if (wrap64 ((l1.length : Int) - 1)) < (l1.length : Int) then (if (t636.length : Int) = (wrap64 (1 + (((rd_T54 l1 (wrap64 ((l1.length : Int) - 1))).f0).length : Int))) then (if 0 < (t636.length : Int) then (if (rd t636 0) = 4 then ((plan_Uses.f y633 (wrap64 ((l1.length : Int) - 1))).bind fun t643 => (if t643 = true then ((raddlelaw20_wakes.f kj20).bind fun t644 => (some t644)) else (some false))) else (some false)) else (none)) else (some false)) else (none)) else (none)) else (some false))) = some r := H
             have A37 := mk_ A370
             clear A370
             by_cases c38 : (y633.length : Int) > 12
             ·
              rw [if_pos c38] at H
              have c38b0 : decide (12 < (y633.length : Int)) = true := decide_eq_true c38
              have c38b1 : decide (12 < y633.length) = true := decide_eq_true z5
              clear c38
              by_cases c39 : t637 = 2
              ·
               rw [if_pos c39] at H
               have c39b0 : (t637 == 2) = true := beq_iff_eq.mpr c39
               have c39b1 : (t637 != 2) = false := bne_eq_false_iff_eq.mpr c39
               clear c39
               by_cases c40 : (t636.length : Int) = 0
               ·
                rw [if_pos c40] at H
                have c40b0 : ((t636.length : Int) == 0) = true := beq_iff_eq.mpr c40
                have c40b1 : ((t636.length : Int) != 0) = false := bne_eq_false_iff_eq.mpr c40
                clear c40
                replace H := Option.bind_eq_some_iff.mp H
                obtain ⟨t640, A410, H⟩ := H
                replace H : (some t640) = some r := H
                have A41 := mk_ A410
                clear A410
                obtain rfl := Option.some.inj H
                go_wp2_with (first | ((with_reducible refine gate_builtin (b := .append) (xs := #[.tmp 81, .tmp 82]) rfl ?_); at_builtin; refine N_append_rows k34 (w0 := w) w.heap.size rfl (.tmp 81) (.tmp 82) 35 34 (.agg #[(.int .i64 0), (.int .i64 0), (.int .i64 0), (.int .i64 0), (.int .i64 0), (.int .i64 0), (.int .i64 0), (.int .i64 0), (.int .i64 0), (.string ⟨#[]⟩), (.slice none 0 0), (.slice none 0 0), (.int .i64 0), (.int .i64 0)]) 152 rfl Try.underlying35 info34 rfl z10 z5 (.slice none 0 0) ([] : List (S34)) l0 _ _ _ (fun k_ => (P0_ k_ ∨ w.heap.size ≤ k_)) (fun k_ => ((fun k_ => (P0_ k_ ∨ w.heap.size ≤ k_))) k_ ∧ nb_ k_ (.slice none 0 0)) rfl rfl ?aO ?aR (fun _ hk => hk) ?aF ?aB ?aS ?aL ?_; (case aR => exact (by skip; exact V_F (V_mono (ok' := (fun k_ => ((fun k_ => (P0_ k_ ∨ w.heap.size ≤ k_))) k_ ∧ nb_ k_ (.slice none 0 0))) (HO_0.out) (fun k_ hk => ⟨hk, (by simp [Value.ownBlock])⟩)))); (case aB => exact (Short.hB HB)); (case aF => exact (fun k_ hk => (.inr (Nat.le_trans (below_size (Short.hB HB)) hk)))); (case aO => exact ((N_nil _ _ _ _ (fun k_ => (P0_ k_ ∨ w.heap.size ≤ k_))))); (case aS => exact (below_size (Short.hB HB))); (case aL => have := LMc35.out; omega); intro v631 w42 ho hb hg hat; rw [← Ny630.out] at ho; have n0_ := mk_ (V_afterv (V_apart_nil (ZKV HO_0)) hg hat); have n1_ := mk_ (hb); have n2_ := mk_ (ho); clear HO_0 HB; revert n0_ n1_ n2_; intro HO_0 HB HO632; clear ho hb hg hat) | ((with_reducible refine gate_builtin (b := .append) (xs := #[.tmp 83, .tmp 88]) rfl ?_); at_builtin; refine N_append k34 (w0 := w) w.heap.size rfl (.tmp 83) (.tmp 88) 35 34 (.agg #[(.int .i64 0), (.int .i64 0), (.int .i64 0), (.int .i64 0), (.int .i64 0), (.int .i64 0), (.int .i64 0), (.int .i64 0), (.int .i64 0), (.string ⟨#[]⟩), (.slice none 0 0), (.slice none 0 0), (.int .i64 0), (.int .i64 0)]) 152 rfl Try.underlying35 info34 rfl z10 z5 v631 y630 (⟨1, 0, 0, wrap64 ((l1.length : Int) - 1), (⟨0, 0, 0, (⟨0, 0, (⟨#[]⟩ : ByteArray)⟩ : S29)⟩ : S31), ([] : List Int), ([] : List Int), 0, 0⟩ : S34) [.int .i64 1, .int .i64 0, .int .i64 0, .int .i64 (wrap64 ((l1.length : Int) - 1)), .int .i64 0, .int .i64 0, .int .i64 0, .int .i64 0, .int .i64 0, .string (⟨#[]⟩ : ByteArray), .slice none 0 0, .slice none 0 0, .int .i64 0, .int .i64 0] (fun k_ => (P0_ k_ ∨ w.heap.size ≤ k_)) (fun k_ => ((fun k_ => (P0_ k_ ∨ w.heap.size ≤ k_))) k_ ∧ nb_ k_ (v631)) rfl rfl ?aP (fun _ hk => hk) ?aF ?aO ?aB ?aS ?aL ?_; (case aP => exact (k34_mkF _ _ (⟨1, 0, 0, wrap64 ((l1.length : Int) - 1), (⟨0, 0, 0, (⟨0, 0, (⟨#[]⟩ : ByteArray)⟩ : S29)⟩ : S31), ([] : List Int), ([] : List Int), 0, 0⟩ : S34) (Nat.le_refl _) (F_nil _ _ _) (Nat.le_refl _) (F_nil _ _ _))); (case aB => exact (Short.hB HB)); (case aF => exact (fun k_ hk => (.inr (Nat.le_trans (below_size (Short.hB HB)) hk)))); (case aO => exact (ZKN HO632)); (case aS => exact (below_size (Short.hB HB))); (case aL => have := LMc36.out; omega); intro v634 w43 ho hb hg hat; rw [← Ny633.out] at ho; have n0_ := mk_ (V_afterv (ok := (fun k_ => (P0_ k_ ∨ w.heap.size ≤ k_))) (ZKV HO_0) hg hat); have n1_ := mk_ (hb); have n2_ := mk_ (ho); clear HO_0 HB HO632; revert n0_ n1_ n2_; intro HO_0 HB HO635; clear ho hb hg hat; obtain ⟨Ao44, co44, eo44⟩ := N_slice HO635.out; subst eo44) | ((with_reducible refine gate_callee (f := 12) rfl ?_); refine Short.gL (some 93) Try.func12 #[.slice Ao44 y633.length co44, .slice A1 l1.length c1] (h := ?_); (with_reducible refine (plan_Check.calls _ _ y633 _ _ l1 t636 t637 _ ?side1 ?side2 ?side3 ?side4 A37.out).mono ?_); (case side1 => exact cX_ (N_reads' HO635.out).2.2); (case side2 => exact (N_reads' HO635.out).2.1); (case side3 => exact cX_ (C_below HR1.out HB.out)); (case side4 => exact HC1.out); rintro e w45 ⟨v638, rfl, ho0, hb⟩; refine ⟨_, rfl, ?_⟩; have n0_ := mk_ (V_elder' (ZKV HO_0) (R_base ho0) hb); have n1_ := mk_ (N_elder' (ZKN HO635) (R_base ho0) hb); have n2_ := mk_ (R_lower (R_newM (M := fun k_ => (w.heap.size ≤ k_)) ho0 (below_size (Short.hB HB)) (fun k_ h_ => h_)) (below_size (Short.hB HB))); have n3_ := mk_ (below_step (Short.hB HB) hb); clear HO_0 HO635 HB; revert n0_ n1_ n2_ n3_; intro HO_0 HO635 HO639 HB; (try clear hb ho0); obtain ⟨Ao46, co46, eo46⟩ := R_slice HO639.out; subst eo46) | (go_at_call 14; (with_reducible refine (raddlelaw20_wakes.calls kj20  t640 _ A41.out).mono ?_); rintro e w47 ⟨rfl, hb⟩; have n0_ := mk_ (V_below (ZKV HO_0) hb); have n1_ := mk_ (N_below (ZKN HO635) hb); have n2_ := mk_ (R_below (ZKR HO639) hb); have n3_ := mk_ (below_step (Short.hB HB) hb); clear HO_0 HO635 HO639 HB; revert n0_ n1_ n2_ n3_; intro HO_0 HO635 HO639 HB; (try clear hb); (try clear hb2); (try clear hk); (try clear hi)))
                go_ret
                exact ⟨by first | rfl | (simp [errW_none, errW_some] <;> rfl) | (simp only [← hji14]; first | rfl | (simp [errW_none, errW_some] <;> rfl)) | (simp [*, errW_none, errW_some] <;> rfl), Short.hB HB⟩
               ·
                rw [if_neg c40] at H
                have c40b0 : ((t636.length : Int) == 0) = false := beq_eq_false_iff_ne.mpr c40
                have c40b1 : ((t636.length : Int) != 0) = true := bne_iff_ne.mpr c40
                have c40b2 : ¬ (t636 = []) := fun h_ => c40 (by rw [h_]; rfl)
                exact absurd H (by rw [hrt]; simp)
              ·
               rw [if_neg c39] at H
               have c39b0 : (t637 == 2) = false := beq_eq_false_iff_ne.mpr c39
               have c39b1 : (t637 != 2) = true := bne_iff_ne.mpr c39
               exact absurd H (by rw [hrt]; simp)
             ·
              rw [if_neg c38] at H
              have c38b0 : decide (12 < (y633.length : Int)) = false := decide_eq_false c38
              have c38b1 : decide (12 < y633.length) = false := decide_eq_false z5
              clear c38
              by_cases c48 : t637 = 0
              ·
               rw [if_pos c48] at H
               have c48b0 : (t637 == 0) = true := beq_iff_eq.mpr c48
               have c48b1 : (t637 != 0) = false := bne_eq_false_iff_eq.mpr c48
               clear c48
               obtain ⟨ji49, hji49⟩ : ∃ j_ : Int, (wrap64 ((l1.length : Int) - 1)) = j_ := ⟨_, rfl⟩
               replace H : (if 0 ≤ (ji49) then (if (ji49) < (l1.length : Int) then (if (t636.length : Int) = (wrap64 (1 + (((rd_T54 l1 (ji49)).f0).length : Int))) then (if 0 < (t636.length : Int) then (if (rd t636 0) = 4 then ((plan_Uses.f y633 (ji49)).bind fun t643 => (if t643 = true then ((raddlelaw20_wakes.f kj20).bind fun t644 => (some t644)) else (some false))) else (some false)) else (none)) else (some false)) else (none)) else (none)) = some r := by first | (rw [hji49] at H; exact H) | (simp only [hji49] at H ⊢; exact H)
               (try rw [hji49] at Ny633)
               (try rw [hji49] at A37)
               (try rw [hji49] at Ny633)
               have hji49w : (IntKind.i64.wrap ((l1.length : Int) - 1)) = ji49 := (i64_w _).trans hji49
               by_cases c50 : 0 ≤ (ji49)
               ·
                rw [if_pos c50] at H
                have c50b0 : decide (0 ≤ (ji49)) = true := decide_eq_true c50
                clear c50
                by_cases c51 : (ji49) < (l1.length : Int)
                ·
                 rw [if_pos c51] at H
                 have c51b0 : decide ((ji49) < (l1.length : Int)) = true := decide_eq_true c51
                 clear c51
                 by_cases c52 : (t636.length : Int) = (wrap64 (1 + (((rd_T54 l1 (ji49)).f0).length : Int)))
                 ·
                  rw [if_pos c52] at H
                  have c52b0 : ((t636.length : Int) == (wrap64 (1 + (((rd_T54 l1 (ji49)).f0).length : Int)))) = true := beq_iff_eq.mpr c52
                  have c52b1 : ((t636.length : Int) != (wrap64 (1 + (((rd_T54 l1 (ji49)).f0).length : Int)))) = false := bne_eq_false_iff_eq.mpr c52
                  clear c52
                  by_cases c53 : 0 < (t636.length : Int)
                  ·
                   rw [if_pos c53] at H
                   have c53b0 : decide (0 < (t636.length : Int)) = true := decide_eq_true c53
                   have c53b1 : decide (0 < t636.length) = true := decide_eq_true z5
                   clear c53
                   by_cases c54 : (rd t636 0) = 4
                   ·
                    rw [if_pos c54] at H
                    have c54b0 : ((rd t636 0) == 4) = true := beq_iff_eq.mpr c54
                    have c54b1 : ((rd t636 0) != 4) = false := bne_eq_false_iff_eq.mpr c54
                    clear c54
                    replace H := Option.bind_eq_some_iff.mp H
                    obtain ⟨t643, A550, H⟩ := H
                    replace H : (if t643 = true then ((raddlelaw20_wakes.f kj20).bind fun t644 => (some t644)) else (some false)) = some r := H
                    have A55 := mk_ A550
                    clear A550
                    by_cases c56 : t643 = true
                    ·
                     subst c56
                     have H1 : ((raddlelaw20_wakes.f kj20).bind fun t644 => (some t644)) = some r := by rw [if_pos rfl] at H; exact H
                     clear H
                     have H := H1
                     clear H1
                     replace H := Option.bind_eq_some_iff.mp H
                     obtain ⟨t644, A570, H⟩ := H
                     replace H : (some t644) = some r := H
                     have A57 := mk_ A570
                     clear A570
                     obtain rfl := Option.some.inj H
                     go_wp2_with (first | ((with_reducible refine gate_builtin (b := .append) (xs := #[.tmp 81, .tmp 82]) rfl ?_); at_builtin; refine N_append_rows k34 (w0 := w) w.heap.size rfl (.tmp 81) (.tmp 82) 35 34 (.agg #[(.int .i64 0), (.int .i64 0), (.int .i64 0), (.int .i64 0), (.int .i64 0), (.int .i64 0), (.int .i64 0), (.int .i64 0), (.int .i64 0), (.string ⟨#[]⟩), (.slice none 0 0), (.slice none 0 0), (.int .i64 0), (.int .i64 0)]) 152 rfl Try.underlying35 info34 rfl z10 z5 (.slice none 0 0) ([] : List (S34)) l0 _ _ _ (fun k_ => (P0_ k_ ∨ w.heap.size ≤ k_)) (fun k_ => ((fun k_ => (P0_ k_ ∨ w.heap.size ≤ k_))) k_ ∧ nb_ k_ (.slice none 0 0)) rfl rfl ?aO ?aR (fun _ hk => hk) ?aF ?aB ?aS ?aL ?_; (case aR => exact (by skip; exact V_F (V_mono (ok' := (fun k_ => ((fun k_ => (P0_ k_ ∨ w.heap.size ≤ k_))) k_ ∧ nb_ k_ (.slice none 0 0))) (HO_0.out) (fun k_ hk => ⟨hk, (by simp [Value.ownBlock])⟩)))); (case aB => exact (Short.hB HB)); (case aF => exact (fun k_ hk => (.inr (Nat.le_trans (below_size (Short.hB HB)) hk)))); (case aO => exact ((N_nil _ _ _ _ (fun k_ => (P0_ k_ ∨ w.heap.size ≤ k_))))); (case aS => exact (below_size (Short.hB HB))); (case aL => have := LMc35.out; omega); intro v631 w58 ho hb hg hat; rw [← Ny630.out] at ho; have n0_ := mk_ (V_afterv (V_apart_nil (ZKV HO_0)) hg hat); have n1_ := mk_ (hb); have n2_ := mk_ (ho); clear HO_0 HB; revert n0_ n1_ n2_; intro HO_0 HB HO632; clear ho hb hg hat) | ((with_reducible refine gate_builtin (b := .append) (xs := #[.tmp 83, .tmp 88]) rfl ?_); at_builtin; refine N_append k34 (w0 := w) w.heap.size rfl (.tmp 83) (.tmp 88) 35 34 (.agg #[(.int .i64 0), (.int .i64 0), (.int .i64 0), (.int .i64 0), (.int .i64 0), (.int .i64 0), (.int .i64 0), (.int .i64 0), (.int .i64 0), (.string ⟨#[]⟩), (.slice none 0 0), (.slice none 0 0), (.int .i64 0), (.int .i64 0)]) 152 rfl Try.underlying35 info34 rfl z10 z5 v631 y630 (⟨1, 0, 0, ji49, (⟨0, 0, 0, (⟨0, 0, (⟨#[]⟩ : ByteArray)⟩ : S29)⟩ : S31), ([] : List Int), ([] : List Int), 0, 0⟩ : S34) [.int .i64 1, .int .i64 0, .int .i64 0, .int .i64 ji49, .int .i64 0, .int .i64 0, .int .i64 0, .int .i64 0, .int .i64 0, .string (⟨#[]⟩ : ByteArray), .slice none 0 0, .slice none 0 0, .int .i64 0, .int .i64 0] (fun k_ => (P0_ k_ ∨ w.heap.size ≤ k_)) (fun k_ => ((fun k_ => (P0_ k_ ∨ w.heap.size ≤ k_))) k_ ∧ nb_ k_ (v631)) rfl rfl ?aP (fun _ hk => hk) ?aF ?aO ?aB ?aS ?aL ?_; (case aP => exact (k34_mkF _ _ (⟨1, 0, 0, ji49, (⟨0, 0, 0, (⟨0, 0, (⟨#[]⟩ : ByteArray)⟩ : S29)⟩ : S31), ([] : List Int), ([] : List Int), 0, 0⟩ : S34) (Nat.le_refl _) (F_nil _ _ _) (Nat.le_refl _) (F_nil _ _ _))); (case aB => exact (Short.hB HB)); (case aF => exact (fun k_ hk => (.inr (Nat.le_trans (below_size (Short.hB HB)) hk)))); (case aO => exact (ZKN HO632)); (case aS => exact (below_size (Short.hB HB))); (case aL => have := LMc36.out; omega); intro v634 w59 ho hb hg hat; rw [← Ny633.out] at ho; have n0_ := mk_ (V_afterv (ok := (fun k_ => (P0_ k_ ∨ w.heap.size ≤ k_))) (ZKV HO_0) hg hat); have n1_ := mk_ (hb); have n2_ := mk_ (ho); clear HO_0 HB HO632; revert n0_ n1_ n2_; intro HO_0 HB HO635; clear ho hb hg hat; obtain ⟨Ao60, co60, eo60⟩ := N_slice HO635.out; subst eo60) | ((with_reducible refine gate_callee (f := 12) rfl ?_); refine Short.gL (some 93) Try.func12 #[.slice Ao60 y633.length co60, .slice A1 l1.length c1] (h := ?_); (with_reducible refine (plan_Check.calls _ _ y633 _ _ l1 t636 t637 _ ?side1 ?side2 ?side3 ?side4 A37.out).mono ?_); (case side1 => exact cX_ (N_reads' HO635.out).2.2); (case side2 => exact (N_reads' HO635.out).2.1); (case side3 => exact cX_ (C_below HR1.out HB.out)); (case side4 => exact HC1.out); rintro e w61 ⟨v638, rfl, ho0, hb⟩; refine ⟨_, rfl, ?_⟩; have n0_ := mk_ (V_elder' (ZKV HO_0) (R_base ho0) hb); have n1_ := mk_ (N_elder' (ZKN HO635) (R_base ho0) hb); have n2_ := mk_ (R_lower (R_newM (M := fun k_ => (w.heap.size ≤ k_)) ho0 (below_size (Short.hB HB)) (fun k_ h_ => h_)) (below_size (Short.hB HB))); have n3_ := mk_ (below_step (Short.hB HB) hb); clear HO_0 HO635 HB; revert n0_ n1_ n2_ n3_; intro HO_0 HO635 HO639 HB; (try clear hb ho0); obtain ⟨Ao62, co62, eo62⟩ := R_slice HO639.out; subst eo62; have p641 : 0 ≤ ((ji49) : Int) := of_decide_eq_true z4; have q641 : (ji49) < (l1.length : Int) := of_decide_eq_true z4; obtain ⟨ad641, A641_0, c641_0, e641, hx641_0, hl641_0, hi641_0⟩ := at_T54 HR1.out (ji49) p641 q641; cases e641; replace hx641_0 := (HB.out.cell (World.block_lt_of_cell? w _ hx641_0)).trans hx641_0; have HR641_0 := mk_ hi641_0; have HC641_0 := mk_ hl641_0; clear hi641_0 hl641_0; replace p641 := eq_true p641; replace q641 := eq_true q641; have p642 : 0 ≤ (0 : Int) := z5; have q642 : 0 < (t636.length : Int) := of_decide_eq_true z4; obtain ⟨ad642, e642, hx642_0⟩ := Kd.at_int (R_reads' HO639.out).2.2 0 p642 q642; cases e642; have qi642 : (0 < t636.length) = True := eq_true z5; (try rw [show ((0 : Int)).toNat = 0 from rfl] at hx642_0); (try rw [Addr.add_zero'] at hx642_0); replace p642 := eq_true p642; replace q642 := eq_true q642) | (go_at_call 21; (with_reducible refine (plan_Uses.calls _ _ y633 ji49 true _ ?side1 ?side2 A55.out).mono ?_); (case side1 => exact cX_ (N_reads' HO635.out).2.2); (case side2 => exact (N_reads' HO635.out).2.1); rintro e w63 ⟨rfl, hb⟩; have n0_ := mk_ (V_below (ZKV HO_0) hb); have n1_ := mk_ (N_below (ZKN HO635) hb); have n2_ := mk_ (R_below (ZKR HO639) hb); have n3_ := mk_ (below_step (Short.hB HB) hb); clear HO_0 HO635 HO639 HB; revert n0_ n1_ n2_ n3_; intro HO_0 HO635 HO639 HB; (try clear hb); (try clear hb2); (try clear hk); (try clear hi)) | (go_at_call 14; (with_reducible refine (raddlelaw20_wakes.calls kj20  t644 _ A57.out).mono ?_); rintro e w64 ⟨rfl, hb⟩; have n0_ := mk_ (V_below (ZKV HO_0) hb); have n1_ := mk_ (N_below (ZKN HO635) hb); have n2_ := mk_ (R_below (ZKR HO639) hb); have n3_ := mk_ (below_step (Short.hB HB) hb); clear HO_0 HO635 HO639 HB; revert n0_ n1_ n2_ n3_; intro HO_0 HO635 HO639 HB; (try clear hb); (try clear hb2); (try clear hk); (try clear hi)))
                     go_ret
                     exact ⟨by first | rfl | (simp [errW_none, errW_some] <;> rfl) | (simp only [← hji14, ← hji49]; first | rfl | (simp [errW_none, errW_some] <;> rfl)) | (simp [*, errW_none, errW_some] <;> rfl), Short.hB HB⟩
                    ·
                     replace c56 := Bool.eq_false_iff.mpr c56
                     subst c56
                     have H1 : (some false) = some r := by rw [if_neg (show ¬ (false = true) by decide)] at H; exact H
                     clear H
                     have H := H1
                     clear H1
                     exact absurd H (by rw [hrt]; simp)
                   ·
                    rw [if_neg c54] at H
                    have c54b0 : ((rd t636 0) == 4) = false := beq_eq_false_iff_ne.mpr c54
                    have c54b1 : ((rd t636 0) != 4) = true := bne_iff_ne.mpr c54
                    exact absurd H (by rw [hrt]; simp)
                  ·
                   rw [if_neg c53] at H
                   exact absurd H (by simp)
                 ·
                  rw [if_neg c52] at H
                  have c52b0 : ((t636.length : Int) == (wrap64 (1 + (((rd_T54 l1 (ji49)).f0).length : Int)))) = false := beq_eq_false_iff_ne.mpr c52
                  have c52b1 : ((t636.length : Int) != (wrap64 (1 + (((rd_T54 l1 (ji49)).f0).length : Int)))) = true := bne_iff_ne.mpr c52
                  exact absurd H (by rw [hrt]; simp)
                ·
                 rw [if_neg c51] at H
                 exact absurd H (by simp)
               ·
                rw [if_neg c50] at H
                exact absurd H (by simp)
              ·
               rw [if_neg c48] at H
               have c48b0 : (t637 == 0) = false := beq_eq_false_iff_ne.mpr c48
               have c48b1 : (t637 != 0) = true := bne_iff_ne.mpr c48
               exact absurd H (by rw [hrt]; simp)
            ·
             rw [if_neg c36] at H
             exact absurd H (by simp)
           ·
            rw [if_neg c35] at H
            exact absurd H (by simp)
       ·
        rw [if_neg c16] at H
        exact absurd H (by simp)
      ·
       rw [if_neg c15] at H
       exact absurd H (by simp)
    ·
     rw [if_neg c12] at H
     have c12b0 : (t610 == 0) = false := beq_eq_false_iff_ne.mpr c12
     have c12b1 : (t610 != 0) = true := bne_iff_ne.mpr c12
     obtain rfl := Option.some.inj H
     go_wp2_with (first | ((with_reducible refine gate_callee (f := 11) rfl ?_); refine Short.gL (some 24) Try.func11 #[.slice A0 l0.length c0, .slice A1 l1.length c1] (h := ?_); (with_reducible refine (raddleref14_Plan.calls _ _ l0 _ _ l1 t609 t610 _ ?side1 ?side2 ?side3 ?side4 A11.out).mono ?_); (case side1 => exact cX_ (V_reads' HO_0.out).2.2); (case side2 => exact (V_reads' HO_0.out).2.1); (case side3 => exact cX_ (C_below HR1.out HB.out)); (case side4 => exact HC1.out); rintro e w65 ⟨v611, rfl, ho0, hb⟩; refine ⟨_, rfl, ?_⟩; have n0_ := mk_ (V_elder' (ZKV HO_0) (S_base ho0) hb); have n1_ := mk_ (N_lower (N_mono (ok' := fun k_ => (P0_ k_ ∨ w.heap.size ≤ k_)) (S_N (S_bound ho0)) (fun k_ hk_ => (.inr (Nat.le_trans (below_size (Short.hB HB)) hk_.2.1)))) (below_size (Short.hB HB))); have n2_ := mk_ (below_step (Short.hB HB) hb); clear HO_0 HB; revert n0_ n1_ n2_; intro HO_0 HO612 HB; (try clear hb ho0)))
     go_ret
     exact ⟨by first | rfl | (simp [errW_none, errW_some] <;> rfl) | (simp [*, errW_none, errW_some] <;> rfl), Short.hB HB⟩
def raddlelaw20_PlanParts.WF29 (x : S29) : Prop := (Lit.int .i64 x.f0).wf = true ∧ (Lit.int .i64 x.f1).wf = true ∧ x.f2.size ≤ maxLen
def raddlelaw20_PlanParts.WF31 (x : S31) : Prop := (Lit.int .i64 x.f0).wf = true ∧ (Lit.int .i64 x.f1).wf = true ∧ (Lit.int .i64 x.f2).wf = true ∧ raddlelaw20_PlanParts.WF29 x.f3
def raddlelaw20_PlanParts.WF34 (x : S34) : Prop := (Lit.int .i64 x.f0).wf = true ∧ (Lit.int .i64 x.f1).wf = true ∧ (Lit.int .i64 x.f2).wf = true ∧ (Lit.int .i64 x.f3).wf = true ∧ raddlelaw20_PlanParts.WF31 x.f4 ∧ (x.f5.length ≤ maxLen ∧ ∀ x0_ ∈ x.f5, (Lit.int .i64 x0_).wf = true) ∧ (x.f6.length ≤ maxLen ∧ ∀ x0_ ∈ x.f6, (Lit.int .i64 x0_).wf = true) ∧ (Lit.int .i64 x.f7).wf = true ∧ (Lit.int .i64 x.f8).wf = true
def raddlelaw20_PlanParts.WF54 (x : S54) : Prop := (x.f0.length ≤ maxLen ∧ ∀ x0_ ∈ x.f0, (Lit.int .i64 x0_).wf = true)
def raddlelaw20_PlanParts.Pure : Prop := ∀ (x0 : List (S34)) (x1 : List (S54)) (x2 : Int), (x0.length ≤ maxLen ∧ ∀ x0_ ∈ x0, raddlelaw20_PlanParts.WF34 x0_) → (x1.length ≤ maxLen ∧ ∀ x0_ ∈ x1, raddlelaw20_PlanParts.WF54 x0_) → (Lit.int .i64 x2).wf = true → ∃ k, raddlelaw20_PlanParts.f k x0 x1 x2 = some true
end Go.Proofs.Ytimbbaoodjhdoaa.PAll
end
section
namespace Go.Proofs.Ytimbbaoodjhdoaa.Plan
open Go.RowKit Go.Proofs.Ytimbbaoodjhdoaa.PAll Go.Proofs.Ytimbbaoodjhdoaa.Plain Go.Proofs.YtimbbaoodjhdoaaW.PrintWords Go.Proofs.YtimbbaoodjhdoaaW.PrintLast Go.Proofs.YtimbbaoodjhdoaaW.PrintMore Go.Proofs.Ytimbbaoodjhdoaa.ZipT Go.Proofs.YtimbbaoodjhdoaaW.PrintWords.Kd Go.Proofs.YtimbbaoodjhdoaaW.PrintMore.Kd
set_option linter.unusedVariables false
set_option linter.unusedSimpArgs false
theorem rdN_drop {l : List No} {i : Nat} {v : No} {m : List No} (h : l.drop i = v :: m) : rd_T34 l (i : Int) = v := by
 show l.getD (i : Int).toNat _ = v
 rw [Int.toNat_natCast, List.getD_eq_getElem?_getD]
 have := congrArg (·[0]?) h
 simp only [List.getElem?_drop, Nat.add_zero, List.getElem?_cons_zero] at this
 rw [this]; rfl
theorem long_eq (k : Nat) (v : S29) (hk : 2 ≤ k) : raddlelaw03_Long.f k [v] = some (decide (v.f2.size > 300)) := by
 obtain ⟨k, rfl⟩ : ∃ j, k = j + 2 := ⟨k - 2, by omega⟩
 unfold raddlelaw03_Long.f
 simp only [raddlelaw03_Long.l0]
 rw [if_pos (show (0 : Int) < (([v] : List _).length : Int) by rw [List.length_singleton]; decide), if_pos z10]
 show (if (v.f2.size : Int) > 300 then _ else _) = _
 by_cases c : v.f2.size > 300
 ·
  rw [if_pos z5, decide_eq_true c]
 ·
  rw [if_neg z5, decide_eq_false c, if_neg (by rw [List.length_singleton, show wrap64 (0 + 1) = 1 by unfold wrap64; omega]; decide)]
theorem hvN_l0 (l : List No) (hl : l.length ≤ 40) (m : List No) : ∀ (k i : Nat), l.drop i = m → m.length + 3 < k →
  raddlelaw20_Heavy.l0 k l (i : Int) = some (m.any hvX) := by
 induction m with
 | nil =>
  intro k i h hk
  obtain ⟨k, rfl⟩ : ∃ j, k = j + 1 := ⟨k - 1, by omega⟩
  have := List.drop_eq_nil_iff.1 h
  simp only [raddlelaw20_Heavy.l0]
  rw [if_neg z5]; rfl
 | cons v m ih =>
  intro k i h hk
  obtain ⟨k, rfl⟩ : ∃ j, k = j + 1 := ⟨k - 1, by omega⟩
  obtain ⟨h1, h2⟩ := drop_next h
  rw [List.length_cons] at hk
  simp only [raddlelaw20_Heavy.l0]
  rw [if_pos z5, if_pos z5, rdN_drop h, List.any_cons]
  unfold hvX
  by_cases c : v.f5.length > 40
  ·
   rw [if_pos z5, decide_eq_true c]; rfl
  rw [if_neg z5, decide_eq_false c, Bool.false_or]
  by_cases d : v.f6.length > 40
  ·
   rw [if_pos z5, decide_eq_true d]; rfl
  rw [if_neg z5, decide_eq_false d, Bool.false_or, long_eq k _ z5, Option.bind_some]
  by_cases e : v.f4.f3.f2.size > 300
  ·
   rw [decide_eq_true e, if_pos rfl]; rfl
  ·
   rw [decide_eq_false e, if_neg z10, Bool.false_or, wrapn i z5]
   exact ih k (i + 1) h1 z5
theorem hvN_eq (k : Nat) (l : List No) (hk : 60 ≤ k) : raddlelaw20_Heavy.f k l = some (hvN l) := by
 unfold raddlelaw20_Heavy.f hvN
 by_cases c : l.length > 40
 ·
  rw [if_pos z5, decide_eq_true c]; rfl
 ·
  rw [if_neg z5, decide_eq_false c, Bool.false_or]
  exact hvN_l0 l z5 l k 0 rfl z5
theorem planSmall.prefix {l : List No} {f : List Tb} (h : planSmall l f) (k : Nat) : planSmall (l.take k) f :=
 ⟨by rw [List.length_take]; have := h.1; omega, h.2.1, fun x hx => h.2.2.1 x (List.mem_of_mem_take hx), h.2.2.2⟩
theorem uses_eq {l : List No} (h : l.length ≤ 1000) (t : Int) : plan_Uses.f l t = some (l.any (useP t)) := by unfold plan_Uses.f; rw [if_pos h]
theorem lastN_err {l : List No} {f : List Tb} (h : (planN l f).2 ≠ 0) : lastN l f = zN := by unfold lastN; rw [planN_err h]; rfl
theorem walk_ok {l : List No} {f : List Tb} (h : (planN l f).2 = 0) : FOk f ∧ 1 ≤ l.length ∧ l.length ≤ 12 ∧ planN l f = walkN f l [] ∧ (walkN f l []).2 = 0 ∧ (walkN f l []).1.length = l.length := by
 obtain ⟨h1, h2, h3, h4⟩ := planN_len h
 have hg := planN_go h4 h2 h3
 exact ⟨h4, h2, h3, hg, by rw [← hg]; exact h, by rw [← hg]; exact h1⟩
theorem plan_snoc {l : List No} {f : List Tb} (h : (planN l f).2 = 0) (hl : l.length < 12) (x : No) :
  planN (l ++ [x]) f = if (look f (planN l f).1 x).2 = 0 then ((planN l f).1 ++ [(look f (planN l f).1 x).1], 0) else ([], (look f (planN l f).1 x).2) := by
 obtain ⟨h1, h2, h3, h4, h5, h6⟩ := walk_ok h
 rw [planN_go h1 (by rw [List.length_append, List.length_singleton]; omega) (by rw [List.length_append, List.length_singleton]; omega), walkN_append l [x] [] h5, ← h4]
 rfl
theorem last_snoc {l : List No} {f : List Tb} (h : (planN l f).2 = 0) (hl : l.length < 12) (x : No) (hx : (look f (planN l f).1 x).2 = 0) : lastN (l ++ [x]) f = (look f (planN l f).1 x).1 := by
 unfold lastN
 rw [plan_snoc h hl x, if_pos hx]
 have h1 := (planN_len h).1
 simp only [List.length_append, List.length_singleton, Nat.add_sub_cancel]
 rw [List.getD_eq_getElem?_getD, List.getElem?_append_right z5, h1, Nat.sub_self]
 rfl
theorem last_nth {l : List No} {f : List Tb} (h : (planN l f).2 = 0) : lastN l f = nth (planN l f).1 ((l.length : Int) - 1) := by
 have := (planN_len h).2.1
 unfold lastN nth
 rw [show ((l.length : Int) - 1).toNat = l.length - 1 by omega]
theorem ahead_last {l : List No} {f : List Tb} (h : (planN l f).2 = 0) : ahead (planN l f).1 ((l.length : Int) - 1) = true := by
 have := planN_len h
 unfold ahead
 rw [decide_eq_true]; omega
theorem last_ok {l : List No} {f : List Tb} (h : (planN l f).2 = 0) : NdOk (lastN l f) := by
 rw [last_nth h]; exact nth_ok (fun d hd => planN_ok d hd) (ahead_last h)
theorem walk_take {f : List Tb} : ∀ (l : List No) (done : List Nd) (k : Nat), (walkN f l done).2 = 0 → (walkN f (l.take k) done).2 = 0
 | [], done, k, h => by rw [List.take_nil]; rfl
 | x :: r, done, 0, h => rfl
 | x :: r, done, k + 1, h => by
  rw [List.take_succ_cons]
  unfold walkN at h ⊢
  split at h
  ·
   rename_i he; rw [if_pos he]; exact walk_take r _ k h
  ·
   rename_i he; exact absurd h he
theorem plan_take {l : List No} {f : List Tb} (h : (planN l f).2 = 0) {k : Nat} (h1 : 1 ≤ k) (h2 : k ≤ l.length) : (planN (l.take k) f).2 = 0 := by
 obtain ⟨g1, g2, g3, g4, g5, g6⟩ := walk_ok h
 rw [planN_go g1 (by rw [List.length_take]; omega) (by rw [List.length_take]; omega)]
 exact walk_take l [] k g5
theorem look_scan (f : List Tb) (done : List Nd) (x : No) (h : x.f0 = 1) (h3 : 0 ≤ x.f3) (h4 : x.f3 < (f.length : Int)) : look f done x = ((4 :: (rd_T54 f x.f3).f0, 1024, 2147483648), 0) := by
 unfold look scanN
 rw [if_pos h, if_neg z5]
end Go.Proofs.Ytimbbaoodjhdoaa.Plan
end
section
namespace Go.Proofs.Ytimbbaoodjhdoaa.Pure
open Go.RowKit Go.Proofs.Ytimbbaoodjhdoaa.PAll Go.Proofs.YtimbbaoodjhdoaaW.PrintWords Go.Proofs.YtimbbaoodjhdoaaW.PrintLast Go.Proofs.YtimbbaoodjhdoaaW.PrintMore Go.Proofs.Ytimbbaoodjhdoaa.Plain Go.Proofs.Ytimbbaoodjhdoaa.Plan Go.Proofs.Ytimbbaoodjhdoaa.ZipT Go.Proofs.YtimbbaoodjhdoaaW.PrintWords.Kd Go.Proofs.YtimbbaoodjhdoaaW.PrintMore.Kd
set_option linter.unusedVariables false
set_option linter.unusedSimpArgs false
def scanL (t : Int) : No := ⟨1, 0, 0, t, ⟨0, 0, 0, ⟨0, 0, (⟨#[]⟩ : ByteArray)⟩⟩, [], [], 0, 0⟩
theorem parts_end {l : List No} {f : List Tb} (hs : planSmall l f) (h : (planN l f).2 = 0) : raddlelaw20_PlanParts.j1 200 l f false = some true := by
 obtain ⟨g1, g2, g3, g4⟩ := planN_len h
 obtain ⟨f1, f2, f3⟩ := g4.forms
 simp only [raddlelaw20_PlanParts.j1]
 rw [if_neg z10, if_pos (by rw [List.length_nil]; omega), Option.bind_some, List.nil_append, if_pos z5, Option.bind_some, w64 (x := (f.length : Int) - 1) z5 z5]
 rw [show (⟨1, 0, 0, (f.length : Int) - 1, (⟨0, 0, 0, (⟨0, 0, (⟨#[]⟩ : ByteArray)⟩ : S29)⟩ : S31), ([] : List Int), ([] : List Int), 0, 0⟩ : No) = scanL ((f.length : Int) - 1) from rfl]
 have hs2 : planSmall (l ++ [scanL ((f.length : Int) - 1)]) f := Plan.planSmall.snoc hs z5 _ (Nat.zero_le _) (Nat.zero_le _)
 rw [check_eq hs2, Option.bind_some]
 have hle : (l ++ [scanL ((f.length : Int) - 1)]).length = l.length + 1 := by simp
 by_cases hc : l.length + 1 > 12
 ·
  have hp : planN (l ++ [scanL ((f.length : Int) - 1)]) f = ([], 2) := by unfold planN; rw [if_neg (by unfold FOk at g4; omega), if_pos z5]
  have hz : lastN (l ++ [scanL ((f.length : Int) - 1)]) f = zN := lastN_err (by rw [hp]; decide)
  rw [if_pos (by rw [hle]; omega), hp, hz, if_pos (by first | rfl | trivial), if_pos z12, wakes_bind 199 z5]
 ·
  have hk := look_scan f (planN l f).1 (scanL ((f.length : Int) - 1)) rfl (by show 0 ≤ (f.length : Int) - 1; omega) (by show (f.length : Int) - 1 < f.length; omega)
  have hp := plan_snoc h z5 (scanL ((f.length : Int) - 1))
  have hz := last_snoc h z5 (scanL ((f.length : Int) - 1)) (by rw [hk])
  rw [hk] at hz
  rw [hk, if_pos rfl] at hp
  have hm : rd_T54 f ((f.length : Int) - 1) ∈ f := getD_mem z5
  have hc4 := (f3 _ hm).2.1
  rw [if_neg (by rw [hle]; omega), hp, hz, if_pos (by first | rfl | trivial), if_pos z5, if_pos z5]
  have hlen : ((4 :: (rd_T54 f (scanL ((f.length : Int) - 1)).f3).f0 : List Int).length : Int) = wrap64 (1 + ((rd_T54 f ((f.length : Int) - 1)).f0.length : Int)) := by
   rw [w64 z5 z5, List.length_cons]; show (((rd_T54 f ((f.length : Int) - 1)).f0.length + 1 : Nat) : Int) = _; omega
  rw [if_pos hlen, if_pos (by show (0 : Int) < ((4 :: _ : List Int).length : Int); rw [List.length_cons]; omega), if_pos z12, uses_eq (by rw [hle]; omega), Option.bind_some]
  have hu : (l ++ [scanL ((f.length : Int) - 1)]).any (useP ((f.length : Int) - 1)) = true := by
   rw [List.any_append, Bool.or_eq_true]
   right
   simp [useP, scanL]
  rw [hu, if_pos rfl, wakes_bind 199 z5]
theorem PlanParts : raddlelaw20_PlanParts.Pure := by
 intro l f a _ _ _
 refine ⟨200 + 1, ?_⟩
 have hj : raddlelaw20_PlanParts.j0 201 l f a true = some true := rfl
 unfold raddlelaw20_PlanParts.f
 rw [hvN_eq 201 l z5, Option.bind_some]
 by_cases hv : hvN l = true
 ·
  rw [if_pos hv]; exact hj
 rw [if_neg hv, hvF_eq 201 f z5, Option.bind_some]
 by_cases hw : hvF f = true
 ·
  rw [hw]; exact hj
 have hs := small_of l f (Bool.eq_false_iff.mpr hv) (Bool.eq_false_iff.mpr hw)
 rw [Bool.eq_false_iff.mpr hw]
 simp only [raddlelaw20_PlanParts.j0]
 rw [if_neg z10, plan14_eq hs, Option.bind_some]
 by_cases h : (planN l f).2 = 0
 rotate_left
 ·
  rw [if_neg h]
 obtain ⟨g1, g2, g3, g4⟩ := planN_len h
 rw [if_pos h, wu64 (x := (l.length : Int)) z5 z5, if_neg z5]
 have hx : 0 ≤ IntKind.u64.wrap a := by rw [u64_mod]; exact Int.emod_nonneg _ z10
 rw [Int.tmod_eq_emod_of_nonneg hx]
 have h1 := Int.emod_nonneg (IntKind.u64.wrap a) (show (l.length : Int) ≠ 0 by omega)
 have h2 := Int.emod_lt_of_pos (IntKind.u64.wrap a) (show (0 : Int) < l.length by omega)
 rw [w64 (x := IntKind.u64.wrap a % (l.length : Int)) z5 z5]
 generalize IntKind.u64.wrap a % (l.length : Int) = q at h1 h2 ⊢
 obtain ⟨n, rfl⟩ := Int.eq_ofNat_of_zero_le h1
 rw [w64 z5 z5, if_pos z5, if_pos z5, show (1 + (n : Int)).toNat = n + 1 by omega]
 have ht := plan_take h (show 1 ≤ n + 1 by omega) z5
 have hst := Plan.planSmall.prefix hs (n + 1)
 have hd := last_ok ht
 rw [check_eq hst, bound_eq hst, Option.bind_some, Option.bind_some, if_pos ht, if_pos ht]
 have a1 := hd.len
 have a2 := hd.w1
 have a3 := hd.w2
 have a4 := hd.v1
 have a5 := hd.v2
 dsimp only
 rw [if_neg z5, if_neg z5, if_neg z5, if_neg z5, decide_eq_false z5]
 exact parts_end hs h
end Go.Proofs.Ytimbbaoodjhdoaa.Pure
end
