-- wip/slice2.py
import Derived.Test.YtimbbaoodjhdoaaZPlanNodes1

section
namespace Go.Proofs.Ytimbbaoodjhdoaa.PAll
open Go.RowKit Go.Proofs.YtimbbaoodjhdoaaW.PrintWords Go.Proofs.YtimbbaoodjhdoaaW.PrintLast Go.Proofs.YtimbbaoodjhdoaaW.PrintMore Go.Proofs.Ytimbbaoodjhdoaa.ZipT Go.Proofs.YtimbbaoodjhdoaaW.PrintWords.Kd Go.Proofs.YtimbbaoodjhdoaaW.PrintMore.Kd
attribute [local go_sem] max2_int min2_int max_two min_two max_three min_three max_four min_four   -- for this text's walks alone
set_option linter.unusedVariables false
set_option linter.unusedSimpArgs false
mutual
def raddlelaw20_PlanNodes.l0 : Nat → Int → List (S54) → List (S34) → Int → Option (Bool)
 | 0, _, _, _, _ => none
 | k + 1, x0, x1, x7, x8 => if x8 < x0 then (if (x1.length : Int) = 0 then (none) else (if x7.length < 925904528653 then (raddlelaw20_PlanNodes.l0 k x0 x1 (x7 ++ [(⟨1, 0, 0, Int.tmod x8 (x1.length : Int), (⟨0, 0, 0, (⟨0, 0, (⟨#[]⟩ : ByteArray)⟩ : S29)⟩ : S31), ([] : List Int), ([] : List Int), 0, 0⟩ : S34)]) (wrap64 (x8 + 1))) else (none))) else ((plan_Check.f x7 x1).bind fun bt550 => (if x0 < 1 then (raddlelaw20_PlanNodes.j1 k x0 x1 bt550.1 bt550.2 true) else (raddlelaw20_PlanNodes.j1 k x0 x1 bt550.1 bt550.2 (decide (x0 > 12)))))
def raddlelaw20_PlanNodes.j1 : Nat → Int → List (S54) → List Int → Int → Bool → Option (Bool)
 | 0, _, _, _, _, _ => none
 | k + 1, x0, x1, x9, x10, x50 => if x50 = true then (if x10 = 2 then (if (x9.length : Int) = 0 then ((raddlelaw20_wakes.f k).bind fun t554 => (some t554)) else (some false)) else (some false)) else (if x10 = 0 then (if (x1.length : Int) = 0 then (none) else (if 0 ≤ (Int.tmod (wrap64 (x0 - 1)) (x1.length : Int)) then (if (Int.tmod (wrap64 (x0 - 1)) (x1.length : Int)) < (x1.length : Int) then (if (x9.length : Int) = (wrap64 (1 + (((rd_T54 x1 (Int.tmod (wrap64 (x0 - 1)) (x1.length : Int))).f0).length : Int))) then ((raddlelaw20_wakes.f k).bind fun t556 => (some t556)) else (some false)) else (none)) else (none))) else (some false))
end
def raddlelaw20_PlanNodes.f (k : Nat) (a0 : Int) (l1 : List (S54)) : Option (Bool) := (raddlelaw07_HeavyForms.f k l1).bind fun t539 => (if t539 = true then (some true) else ((raddleref14_Plan.f (([(⟨1, 0, 0, 0, (⟨0, 0, 0, (⟨0, 0, (⟨#[]⟩ : ByteArray)⟩ : S29)⟩ : S31), ([] : List Int), ([] : List Int), 0, 0⟩ : S34)] : List (S34))) l1).bind fun bt543 => (if bt543.2 = 0 then (raddlelaw20_PlanNodes.l0 k (wrap64 (Int.tmod (IntKind.u64.wrap (a0)) 14)) l1 ([] : List (S34)) 0) else (some true))))
set_option maxHeartbeats 8000000 in
set_option maxRecDepth 100000 in
theorem raddlelaw20_PlanNodes.calls (k : Nat) (a0 : Int) (A1 : Option Addr) (c1 : Nat) (l1 : List (S54)) (r : Bool) (w : World) (hr1 : Kd.C k54 w A1 l1.length l1) (hc1 : l1.length ≤ c1) (hrt : r = true) (h : raddlelaw20_PlanNodes.f k a0 l1 = some r) :
  Calls Try.prog 7 #[.int .i64 a0, .slice A1 l1.length c1] w fun e w' => e = .returned (.bool r) ∧ Below w.heap.size w w' := by
 have hu34 := Try.underlying34
 have HR1 := mk_ hr1
 have HC1 := mk_ hc1
 clear hr1 hc1
 have HB := mk_ (Below.refl w.heap.size w)
 have H : ((raddlelaw07_HeavyForms.f k l1).bind fun t539 => (if t539 = true then (some true) else ((raddleref14_Plan.f (([(⟨1, 0, 0, 0, (⟨0, 0, 0, (⟨0, 0, (⟨#[]⟩ : ByteArray)⟩ : S29)⟩ : S31), ([] : List Int), ([] : List Int), 0, 0⟩ : S34)] : List (S34))) l1).bind fun bt543 => (if bt543.2 = 0 then (raddlelaw20_PlanNodes.l0 k (wrap64 (Int.tmod (IntKind.u64.wrap (a0)) 14)) l1 ([] : List (S34)) 0) else (some true))))) = some r := h
 clear h
 replace H := Option.bind_eq_some_iff.mp H
 obtain ⟨t539, A30, H⟩ := H
 replace H : (if t539 = true then (some true) else ((raddleref14_Plan.f (([(⟨1, 0, 0, 0, (⟨0, 0, 0, (⟨0, 0, (⟨#[]⟩ : ByteArray)⟩ : S29)⟩ : S31), ([] : List Int), ([] : List Int), 0, 0⟩ : S34)] : List (S34))) l1).bind fun bt543 => (if bt543.2 = 0 then (raddlelaw20_PlanNodes.l0 k (wrap64 (Int.tmod (IntKind.u64.wrap (a0)) 14)) l1 ([] : List (S34)) 0) else (some true)))) = some r := H
 have A3 := mk_ A30
 clear A30
 by_cases c4 : t539 = true
 ·
  subst c4
  have H1 : (some true) = some r := by rw [if_pos rfl] at H; exact H
  clear H
  have H := H1
  clear H1
  obtain rfl := Option.some.inj H
  go_enter Try.func7, Try.ntmps7
  go_wp2_with (first | ((with_reducible refine gate_callee (f := 10) rfl ?_); refine Short.gL (some 12) Try.func10 #[.slice A1 l1.length c1] (h := ?_); (with_reducible refine (raddlelaw07_HeavyForms.calls k _ _ l1 true _ ?side1 ?side2 A3.out).mono ?_); (case side1 => repeat (first | exact HR1.out | (with_reducible refine C_alloc ?_ _) | (with_reducible refine C_drewN ?_ _) | (with_reducible refine C_drew ?_))); (case side2 => exact HC1.out); rintro e w' ⟨rfl, ⟨nd, rfl⟩⟩; refine ⟨_, rfl, ?_⟩))
  go_ret
  exact ⟨by first | rfl | (simp [errW_none, errW_some] <;> rfl) | (simp [*, errW_none, errW_some] <;> rfl), Short.hB HB⟩
 ·
  replace c4 := Bool.eq_false_iff.mpr c4
  subst c4
  have H1 : ((raddleref14_Plan.f (([(⟨1, 0, 0, 0, (⟨0, 0, 0, (⟨0, 0, (⟨#[]⟩ : ByteArray)⟩ : S29)⟩ : S31), ([] : List Int), ([] : List Int), 0, 0⟩ : S34)] : List (S34))) l1).bind fun bt543 => (if bt543.2 = 0 then (raddlelaw20_PlanNodes.l0 k (wrap64 (Int.tmod (IntKind.u64.wrap (a0)) 14)) l1 ([] : List (S34)) 0) else (some true))) = some r := by rw [if_neg (show ¬ (false = true) by decide)] at H; exact H
  clear H
  have H := H1
  clear H1
  obtain ⟨y540, hy540⟩ : ∃ y_ : List (S34), y_ = (([(⟨1, 0, 0, 0, (⟨0, 0, 0, (⟨0, 0, (⟨#[]⟩ : ByteArray)⟩ : S29)⟩ : S31), ([] : List Int), ([] : List Int), 0, 0⟩ : S34)] : List (S34))) := ⟨_, rfl⟩
  replace H : ((raddleref14_Plan.f y540 l1).bind fun bt543 => (if bt543.2 = 0 then (raddlelaw20_PlanNodes.l0 k (wrap64 (Int.tmod (IntKind.u64.wrap (a0)) 14)) l1 ([] : List (S34)) 0) else (some true))) = some r := by first | (rw [hy540]; with_reducible exact H) | (have H2_ := (Option.bind_some _ _).symm.trans H; rw [hy540]; with_reducible exact H2_) | (have H2_ := (Option.bind_some _ _).symm.trans H; with_reducible exact H2_) | with_reducible exact H | (rw [hy540]; exact H) | exact H
  have Ny540 := mk_ hy540
  clear hy540
  replace H := Option.bind_eq_some_iff.mp H
  obtain ⟨⟨t543, t544⟩, A50, H⟩ := H
  replace H : (if t544 = 0 then (raddlelaw20_PlanNodes.l0 k (wrap64 (Int.tmod (IntKind.u64.wrap (a0)) 14)) l1 ([] : List (S34)) 0) else (some true)) = some r := H
  have A5 := mk_ A50
  clear A50
  by_cases c6 : t544 = 0
  ·
   rw [if_pos c6] at H
   have c6b0 : (t544 == 0) = true := beq_iff_eq.mpr c6
   have c6b1 : (t544 != 0) = false := bne_eq_false_iff_eq.mpr c6
   clear c6
   have H' := mk_ H
   clear H
   go_enter Try.func7, Try.ntmps7
   go_wp2_with (first | ((with_reducible refine gate_callee (f := 10) rfl ?_); refine Short.gL (some 12) Try.func10 #[.slice A1 l1.length c1] (h := ?_); (with_reducible refine (raddlelaw07_HeavyForms.calls k _ _ l1 false _ ?side1 ?side2 A3.out).mono ?_); (case side1 => repeat (first | exact HR1.out | (with_reducible refine C_alloc ?_ _) | (with_reducible refine C_drewN ?_ _) | (with_reducible refine C_drew ?_))); (case side2 => exact HC1.out); rintro e w' ⟨rfl, ⟨nd, rfl⟩⟩; refine ⟨_, rfl, ?_⟩) | ((with_reducible refine gate_dst (N := 15) rfl ?_); refine S_lit k34 _ 34 ?hg (N := 15) ?hd (xs := ([(⟨1, 0, 0, 0, (⟨0, 0, 0, (⟨0, 0, (⟨#[]⟩ : ByteArray)⟩ : S29)⟩ : S31), ([] : List Int), ([] : List Int), 0, 0⟩ : S34)] : List (S34))) (inner := [.int .i64 1, .int .i64 0, .int .i64 0, .int .i64 0, .int .i64 0, .int .i64 0, .int .i64 0, .int .i64 0, .int .i64 0, .string (⟨#[]⟩ : ByteArray), .slice none 0 0, .slice none 0 0, .int .i64 0, .int .i64 0]) (ok := fun _ => True) (okp := fun _ => True) ?hr ?hp (fun _ hk => hk) trivial (Below.refl _ _) (Nat.le_refl _) (by simp) ?_; (case hd => rfl); (case hg => rfl); (case hr => first | (go_simp; done) | (go_simp; rfl)); (case hp => exact (Reps.front (show Kd.M k34 _ _ _ (⟨1, 0, 0, 0, (⟨0, 0, 0, (⟨0, 0, (⟨#[]⟩ : ByteArray)⟩ : S29)⟩ : S31), ([] : List Int), ([] : List Int), 0, 0⟩ : S34) [.int .i64 1, .int .i64 0, .int .i64 0, .int .i64 0, .int .i64 0, .int .i64 0, .int .i64 0, .int .i64 0, .int .i64 0, .string (⟨#[]⟩ : ByteArray), .slice none 0 0, .slice none 0 0, .int .i64 0, .int .i64 0] from (k34_mkM _ _ _ (⟨1, 0, 0, 0, (⟨0, 0, 0, (⟨0, 0, (⟨#[]⟩ : ByteArray)⟩ : S29)⟩ : S31), ([] : List Int), ([] : List Int), 0, 0⟩ : S34) (R_nil _ _ _ _ _) (R_nil _ _ _ _ _))) rfl (Reps.none _ _) rfl)); intro v541 w7 ho8 hb hg_ hnew_; clear hg_ hnew_; (first | rw [← Ny540.out] at ho8 | (simp only [Int.reduceToNat] at ho8; rw [← Ny540.out] at ho8)); have n0_ := mk_ (S_lower ho8 (below_size (Short.hB HB))); have n1_ := mk_ (below_step (Short.hB HB) hb); clear HB; revert n0_ n1_; intro HO542 HB; clear hb ho8; obtain ⟨Ao9, co9, eo9⟩ := S_slice HO542.out; subst eo9) | ((with_reducible refine gate_callee (f := 11) rfl ?_); refine Short.gL (some 17) Try.func11 #[.slice Ao9 y540.length co9, .slice A1 l1.length c1] (h := ?_); (with_reducible refine (raddleref14_Plan.calls _ _ y540 _ _ l1 t543 t544 _ ?side1 ?side2 ?side3 ?side4 A5.out).mono ?_); (case side1 => exact cX_ (S_reads' HO542.out).2.2); (case side2 => exact (S_reads' HO542.out).2.1); (case side3 => exact cX_ (C_below HR1.out HB.out)); (case side4 => exact HC1.out); rintro e w10 ⟨v545, rfl, ho0, hb⟩; refine ⟨_, rfl, ?_⟩; have n0_ := mk_ (S_below (by (with_reducible repeat (first | apply S_alloc | apply S_drewN | apply S_drew)); exact HO542.out) hb); have n1_ := mk_ (S_lower ho0 (below_size (Short.hB HB))); have n2_ := mk_ (below_step (Short.hB HB) hb); clear HO542 HB; revert n0_ n1_ n2_; intro HO542 HO546 HB; (try clear hb ho0)))
   go_loopg [7, 8] k (fun kq v7 v8 w' => ∃ (x7_1 : List (S34)) (x8_1 : Int), v8 = .int .i64 x8_1 ∧ Aside0 (raddlelaw20_PlanNodes.l0 kq (wrap64 (Int.tmod (IntKind.u64.wrap (a0)) 14)) l1 x7_1 x8_1 = some r) ∧ Aside0 (kq ≤ k) ∧ Aside0 (Kd.S k34 34 w' w.heap.size (fun _ => True) v7 x7_1) ∧ Aside0 (Below w.heap.size w w'))
   case atStart => exact ⟨(([] : List (S34))), (0), z9, H', ⟨Nat.le_refl _⟩, ⟨by first | exact S_nil _ _ _ _ _ | exact N_nil _ _ _ _ _ | exact V_nil _ _ _ _ _ | exact Q_nil _ _ _ _ _ | exact R_nil _ _ _ _ _⟩, ⟨Short.hB HB⟩⟩
   case round =>
    clear H'
    try clear c1
    try clear p2
    try clear c4
    try clear c6
    try clear c6b0
    try clear c6b1
    try clear p6
    try clear c7
    try clear c10
    obtain ⟨x7_1, x8_1, rfl, HA, HK1, HO_7, HB⟩ := hrel
    cases gk with
    | zero => exact absurd HA.out (by simp [raddlelaw20_PlanNodes.l0])
    | succ k1 =>
     have H := HA.out
     clear HA
     simp only [raddlelaw20_PlanNodes.l0] at H
     by_cases c11 : x8_1 < (wrap64 (Int.tmod (IntKind.u64.wrap (a0)) 14))
     ·
      rw [if_pos c11] at H
      have c11b0 : decide (x8_1 < (wrap64 (Int.tmod (IntKind.u64.wrap (a0)) 14))) = true := decide_eq_true c11
      clear c11
      by_cases c12 : (l1.length : Int) = 0
      ·
       rw [if_pos c12] at H
       exact absurd H (by simp)
      ·
       rw [if_neg c12] at H
       have c12b0 : ((l1.length : Int) == 0) = false := beq_eq_false_iff_ne.mpr c12
       have c12b1 : ((l1.length : Int) != 0) = true := bne_iff_ne.mpr c12
       have c12b2 : ¬ (l1 = []) := fun h_ => c12 (by rw [h_]; rfl)
       by_cases c13 : x7_1.length < 925904528653
       ·
        rw [if_pos c13] at H
        have LMc13 := mk_ c13
        clear c13
        obtain ⟨y547, hy547⟩ : ∃ y_ : List (S34), y_ = (x7_1 ++ [(⟨1, 0, 0, Int.tmod x8_1 (l1.length : Int), (⟨0, 0, 0, (⟨0, 0, (⟨#[]⟩ : ByteArray)⟩ : S29)⟩ : S31), ([] : List Int), ([] : List Int), 0, 0⟩ : S34)]) := ⟨_, rfl⟩
        replace H : (raddlelaw20_PlanNodes.l0 k1 (wrap64 (Int.tmod (IntKind.u64.wrap (a0)) 14)) l1 y547 (wrap64 (x8_1 + 1))) = some r := by first | (rw [hy547]; with_reducible exact H) | (have H2_ := (Option.bind_some _ _).symm.trans H; rw [hy547]; with_reducible exact H2_) | (have H2_ := (Option.bind_some _ _).symm.trans H; with_reducible exact H2_) | with_reducible exact H | (rw [hy547]; exact H) | exact H
        have Ny547 := mk_ hy547
        clear hy547
        have H' := mk_ H
        clear H
        go_wp2_with (first | ((with_reducible refine gate_builtin (b := .append) (xs := #[.tmp 31, .tmp 37]) rfl ?_); at_builtin; refine S_append k34 (w0 := w) w.heap.size rfl (.tmp 31) (.tmp 37) 35 34 (.agg #[(.int .i64 0), (.int .i64 0), (.int .i64 0), (.int .i64 0), (.int .i64 0), (.int .i64 0), (.int .i64 0), (.int .i64 0), (.int .i64 0), (.string ⟨#[]⟩), (.slice none 0 0), (.slice none 0 0), (.int .i64 0), (.int .i64 0)]) 152 rfl Try.underlying35 info34 rfl z10 z5 u7 x7_1 (⟨1, 0, 0, Int.tmod x8_1 (l1.length : Int), (⟨0, 0, 0, (⟨0, 0, (⟨#[]⟩ : ByteArray)⟩ : S29)⟩ : S31), ([] : List Int), ([] : List Int), 0, 0⟩ : S34) [.int .i64 1, .int .i64 0, .int .i64 0, .int .i64 (Int.tmod x8_1 (l1.length : Int)), .int .i64 0, .int .i64 0, .int .i64 0, .int .i64 0, .int .i64 0, .string (⟨#[]⟩ : ByteArray), .slice none 0 0, .slice none 0 0, .int .i64 0, .int .i64 0] (fun _ => True) (fun _ => False) rfl rfl ?aP (fun k_ hk_ => hk_.elim) ?aF ?aO ?aB ?aS ?aL ?_; (case aP => exact k34_mkM _ _ _ (⟨1, 0, 0, Int.tmod x8_1 (l1.length : Int), (⟨0, 0, 0, (⟨0, 0, (⟨#[]⟩ : ByteArray)⟩ : S29)⟩ : S31), ([] : List Int), ([] : List Int), 0, 0⟩ : S34) (R_nil _ _ _ _ _) (R_nil _ _ _ _ _)); (case aB => exact (Short.hB HB)); (case aF => exact (fun _ _ => trivial)); (case aO => exact (by (with_reducible repeat (first | apply S_alloc | apply S_drewN | apply S_drew)); exact S_mono HO_7.out (fun k_ hk => ⟨trivial, fun e_ => e_⟩))); (case aS => exact (below_size (Short.hB HB))); (case aL => have := LMc13.out; omega); intro v548 w14 ho hb hg hat; rw [← Ny547.out] at ho; have n0_ := mk_ (hb); have n1_ := mk_ (ho); clear HB HO_7; revert n0_ n1_; intro HB HO549; clear ho hb hg hat))
        go_roundg k1
        case measure => have := HK1.out; omega
        case rel => exact ⟨(y547), (wrap64 (x8_1 + 1)), z9, H', ⟨by have := HK1.out; omega⟩, ⟨by (with_reducible repeat (first | apply S_alloc | apply S_drewN | apply S_drew)); exact HO549.out⟩, ⟨Short.hB HB⟩⟩
       ·
        rw [if_neg c13] at H
        exact absurd H (by simp)
     ·
      rw [if_neg c11] at H
      have c11b0 : decide (x8_1 < (wrap64 (Int.tmod (IntKind.u64.wrap (a0)) 14))) = false := decide_eq_false c11
      clear c11
      replace H := Option.bind_eq_some_iff.mp H
      obtain ⟨⟨t550, t551⟩, A150, H⟩ := H
      replace H : (if (wrap64 (Int.tmod (IntKind.u64.wrap (a0)) 14)) < 1 then (raddlelaw20_PlanNodes.j1 k1 (wrap64 (Int.tmod (IntKind.u64.wrap (a0)) 14)) l1 t550 t551 true) else (raddlelaw20_PlanNodes.j1 k1 (wrap64 (Int.tmod (IntKind.u64.wrap (a0)) 14)) l1 t550 t551 (decide ((wrap64 (Int.tmod (IntKind.u64.wrap (a0)) 14)) > 12)))) = some r := H
      have A15 := mk_ A150
      clear A150
      have HC16 := mk_ H
      clear H
      obtain ⟨Ao17, co17, eo17⟩ := S_slice HO_7.out
      subst eo17
      go_upto_region 13 with (first | ((with_reducible refine gate_callee (f := 12) rfl ?_); refine Short.gL (some 42) Try.func12 #[.slice Ao17 x7_1.length co17, .slice A1 l1.length c1] (h := ?_); (with_reducible refine (plan_Check.calls _ _ x7_1 _ _ l1 t550 t551 _ ?side1 ?side2 ?side3 ?side4 A15.out).mono ?_); (case side1 => exact cX_ (S_reads' HO_7.out).2.2); (case side2 => exact (S_reads' HO_7.out).2.1); (case side3 => exact cX_ (C_below HR1.out HB.out)); (case side4 => exact HC1.out); rintro e w18 ⟨v552, rfl, ho0, hb⟩; refine ⟨_, rfl, ?_⟩; have n0_ := mk_ (S_elder' (by (with_reducible repeat (first | apply S_alloc | apply S_drewN | apply S_drew)); exact HO_7.out) (R_base ho0) hb); have n1_ := mk_ (R_lower ho0 (below_size (Short.hB HB))); have n2_ := mk_ (below_step (Short.hB HB) hb); clear HO_7 HB; revert n0_ n1_ n2_; intro HO_7 HO553 HB; (try clear hb ho0)))
      (try simp only [Act.put, List.setIfInBounds_toArray, List.set_cons_zero, List.set_cons_succ])
      go_cut [50] (fun v50 wc => ∃ (kq : Nat) (x50_15 : Bool), v50 = .bool x50_15 ∧ Aside0 (raddlelaw20_PlanNodes.j1 kq (wrap64 (Int.tmod (IntKind.u64.wrap (a0)) 14)) l1 t550 t551 x50_15 = some r) ∧ Aside0 (kq ≤ k1) ∧ Aside0 (Kd.R (Kd.int .i64) 3 wc w.heap.size (fun _ => True) v552 t550) ∧ Aside0 (Below w.heap.size w wc))
      case first =>
       have H := HC16.out
       clear HC16
       by_cases c19 : (wrap64 (Int.tmod (IntKind.u64.wrap (a0)) 14)) < 1
       ·
        rw [if_pos c19] at H
        have c19b0 : decide ((wrap64 (Int.tmod (IntKind.u64.wrap (a0)) 14)) < 1) = true := decide_eq_true c19
        clear c19
        (first | rw [c19b0] | (simp only [i64_w, i32_w]; rw [c19b0]) | skip)
        have H' := mk_ H
        clear H
        go_wp2
        go_meet
        case rel => exact ⟨_, (true), z9, H', ⟨by have := HK1.out; first | omega | exact Nat.le_refl _⟩, ⟨by (with_reducible repeat (first | apply R_alloc | apply R_drewN | apply R_drew)); exact HO553.out⟩, ⟨Short.hB HB⟩⟩
       ·
        rw [if_neg c19] at H
        have c19b0 : decide ((wrap64 (Int.tmod (IntKind.u64.wrap (a0)) 14)) < 1) = false := decide_eq_false c19
        clear c19
        (first | rw [c19b0] | (simp only [i64_w, i32_w]; rw [c19b0]) | skip)
        have H' := mk_ H
        clear H
        go_wp2
        go_meet
        case rel => exact ⟨_, (decide ((wrap64 (Int.tmod (IntKind.u64.wrap (a0)) 14)) > 12)), z9, H', ⟨by have := HK1.out; first | omega | exact Nat.le_refl _⟩, ⟨by (with_reducible repeat (first | apply R_alloc | apply R_drewN | apply R_drew)); exact HO553.out⟩, ⟨Short.hB HB⟩⟩
      case rest =>
       clear HC16
       try clear c1
       try clear p2
       try clear c4
       try clear c6
       try clear c6b0
       try clear c6b1
       try clear p6
       try clear c7
       try clear c10
       try clear c11
       try clear c11b0
       try clear c12
       try clear c12b0
       try clear c12b1
       try clear c12b2
       try clear c13
       try clear c19
       try clear c19b0
       try clear p2
       try clear p6
       obtain ⟨kq, x50_15, rfl, HA, HJ15, HO_9, HB⟩ := hcut
       cases kq with
       | zero => exact absurd HA.out (by simp [raddlelaw20_PlanNodes.j1])
       | succ kj15 =>
        have H := HA.out
        clear HA
        simp only [raddlelaw20_PlanNodes.j1] at H
        by_cases c20 : x50_15 = true
        ·
         subst c20
         have H1 : (if t551 = 2 then (if (t550.length : Int) = 0 then ((raddlelaw20_wakes.f kj15).bind fun t554 => (some t554)) else (some false)) else (some false)) = some r := by rw [if_pos rfl] at H; exact H
         clear H
         have H := H1
         clear H1
         by_cases c21 : t551 = 2
         ·
          rw [if_pos c21] at H
          have c21b0 : (t551 == 2) = true := beq_iff_eq.mpr c21
          have c21b1 : (t551 != 2) = false := bne_eq_false_iff_eq.mpr c21
          clear c21
          by_cases c22 : (t550.length : Int) = 0
          ·
           rw [if_pos c22] at H
           have c22b0 : ((t550.length : Int) == 0) = true := beq_iff_eq.mpr c22
           have c22b1 : ((t550.length : Int) != 0) = false := bne_eq_false_iff_eq.mpr c22
           clear c22
           replace H := Option.bind_eq_some_iff.mp H
           obtain ⟨t554, A230, H⟩ := H
           replace H : (some t554) = some r := H
           have A23 := mk_ A230
           clear A230
           obtain rfl := Option.some.inj H
           obtain ⟨Ao24, co24, eo24⟩ := R_slice HO_9.out
           subst eo24
           go_wp2_with (first | (go_at_call 14; (with_reducible refine (raddlelaw20_wakes.calls kj15  t554 _ A23.out).mono ?_); rintro e w25 ⟨rfl, hb⟩; have n0_ := mk_ (R_below (ZKR HO_9) hb); have n1_ := mk_ (below_step (Short.hB HB) hb); clear HO_9 HB; revert n0_ n1_; intro HO_9 HB; (try clear hb); (try clear hb2); (try clear hk); (try clear hi)))
           go_ret
           exact ⟨by first | rfl | (simp [errW_none, errW_some] <;> rfl) | (simp [*, errW_none, errW_some] <;> rfl), Short.hB HB⟩
          ·
           rw [if_neg c22] at H
           have c22b0 : ((t550.length : Int) == 0) = false := beq_eq_false_iff_ne.mpr c22
           have c22b1 : ((t550.length : Int) != 0) = true := bne_iff_ne.mpr c22
           have c22b2 : ¬ (t550 = []) := fun h_ => c22 (by rw [h_]; rfl)
           exact absurd H (by rw [hrt]; simp)
         ·
          rw [if_neg c21] at H
          have c21b0 : (t551 == 2) = false := beq_eq_false_iff_ne.mpr c21
          have c21b1 : (t551 != 2) = true := bne_iff_ne.mpr c21
          exact absurd H (by rw [hrt]; simp)
        ·
         replace c20 := Bool.eq_false_iff.mpr c20
         subst c20
         have H1 : (if t551 = 0 then (if (l1.length : Int) = 0 then (none) else (if 0 ≤ (Int.tmod (wrap64 ((wrap64 (Int.tmod (IntKind.u64.wrap (a0)) 14)) - 1)) (l1.length : Int)) then (if (Int.tmod (wrap64 ((wrap64 (Int.tmod (IntKind.u64.wrap (a0)) 14)) - 1)) (l1.length : Int)) < (l1.length : Int) then (if (t550.length : Int) = (wrap64 (1 + (((rd_T54 l1 (Int.tmod (wrap64 ((wrap64 (Int.tmod (IntKind.u64.wrap (a0)) 14)) - 1)) (l1.length : Int))).f0).length : Int))) then ((raddlelaw20_wakes.f kj15).bind fun t556 => (some t556)) else (some false)) else (none)) else (none))) else (some false)) = some r := by rw [if_neg (show ¬ (false = true) by decide)] at H; exact H
         clear H
         have H := H1
         clear H1
         by_cases c26 : t551 = 0
         ·
          rw [if_pos c26] at H
          have c26b0 : (t551 == 0) = true := beq_iff_eq.mpr c26
          have c26b1 : (t551 != 0) = false := bne_eq_false_iff_eq.mpr c26
          clear c26
          by_cases c27 : (l1.length : Int) = 0
          ·
           rw [if_pos c27] at H
           exact absurd H (by simp)
          ·
           rw [if_neg c27] at H
           have c27b0 : ((l1.length : Int) == 0) = false := beq_eq_false_iff_ne.mpr c27
           have c27b1 : ((l1.length : Int) != 0) = true := bne_iff_ne.mpr c27
           have c27b2 : ¬ (l1 = []) := fun h_ => c27 (by rw [h_]; rfl)
           obtain ⟨ji28, hji28⟩ : ∃ j_ : Int, (Int.tmod (wrap64 ((wrap64 (Int.tmod (IntKind.u64.wrap (a0)) 14)) - 1)) (l1.length : Int)) = j_ := ⟨_, rfl⟩
           replace H : (if 0 ≤ (ji28) then (if (ji28) < (l1.length : Int) then (if (t550.length : Int) = (wrap64 (1 + (((rd_T54 l1 (ji28)).f0).length : Int))) then ((raddlelaw20_wakes.f kj15).bind fun t556 => (some t556)) else (some false)) else (none)) else (none)) = some r := by first | (rw [hji28] at H; exact H) | (simp only [hji28] at H ⊢; exact H)
           by_cases c29 : 0 ≤ (ji28)
           ·
            rw [if_pos c29] at H
            have c29b0 : decide (0 ≤ (ji28)) = true := decide_eq_true c29
            clear c29
            by_cases c30 : (ji28) < (l1.length : Int)
            ·
             rw [if_pos c30] at H
             have c30b0 : decide ((ji28) < (l1.length : Int)) = true := decide_eq_true c30
             clear c30
             by_cases c31 : (t550.length : Int) = (wrap64 (1 + (((rd_T54 l1 (ji28)).f0).length : Int)))
             ·
              rw [if_pos c31] at H
              have c31b0 : ((t550.length : Int) == (wrap64 (1 + (((rd_T54 l1 (ji28)).f0).length : Int)))) = true := beq_iff_eq.mpr c31
              have c31b1 : ((t550.length : Int) != (wrap64 (1 + (((rd_T54 l1 (ji28)).f0).length : Int)))) = false := bne_eq_false_iff_eq.mpr c31
              clear c31
              replace H := Option.bind_eq_some_iff.mp H
              obtain ⟨t556, A320, H⟩ := H
              replace H : (some t556) = some r := H
              have A32 := mk_ A320
              clear A320
              obtain rfl := Option.some.inj H
              obtain ⟨Ao33, co33, eo33⟩ := R_slice HO_9.out
              subst eo33
              have p555 : 0 ≤ ((ji28) : Int) := of_decide_eq_true z4
              have q555 : (ji28) < (l1.length : Int) := of_decide_eq_true z4
              obtain ⟨ad555, A555_0, c555_0, e555, hx555_0, hl555_0, hi555_0⟩ := at_T54 HR1.out (ji28) p555 q555
              cases e555
              replace hx555_0 := (HB.out.cell (World.block_lt_of_cell? w _ hx555_0)).trans hx555_0
              have HR555_0 := mk_ hi555_0
              have HC555_0 := mk_ hl555_0
              clear hi555_0 hl555_0
              replace p555 := eq_true p555
              replace q555 := eq_true q555
              go_wp2_with (first | (go_at_call 14; (with_reducible refine (raddlelaw20_wakes.calls kj15  t556 _ A32.out).mono ?_); rintro e w34 ⟨rfl, hb⟩; have n0_ := mk_ (R_below (ZKR HO_9) hb); have n1_ := mk_ (below_step (Short.hB HB) hb); clear HO_9 HB; revert n0_ n1_; intro HO_9 HB; (try clear hb); (try clear hb2); (try clear hk); (try clear hi)))
              go_ret
              exact ⟨by first | rfl | (simp [errW_none, errW_some] <;> rfl) | (simp only [← hji28]; first | rfl | (simp [errW_none, errW_some] <;> rfl)) | (simp [*, errW_none, errW_some] <;> rfl), Short.hB HB⟩
             ·
              rw [if_neg c31] at H
              have c31b0 : ((t550.length : Int) == (wrap64 (1 + (((rd_T54 l1 (ji28)).f0).length : Int)))) = false := beq_eq_false_iff_ne.mpr c31
              have c31b1 : ((t550.length : Int) != (wrap64 (1 + (((rd_T54 l1 (ji28)).f0).length : Int)))) = true := bne_iff_ne.mpr c31
              exact absurd H (by rw [hrt]; simp)
            ·
             rw [if_neg c30] at H
             exact absurd H (by simp)
           ·
            rw [if_neg c29] at H
            exact absurd H (by simp)
         ·
          rw [if_neg c26] at H
          have c26b0 : (t551 == 0) = false := beq_eq_false_iff_ne.mpr c26
          have c26b1 : (t551 != 0) = true := bne_iff_ne.mpr c26
          exact absurd H (by rw [hrt]; simp)
  ·
   rw [if_neg c6] at H
   have c6b0 : (t544 == 0) = false := beq_eq_false_iff_ne.mpr c6
   have c6b1 : (t544 != 0) = true := bne_iff_ne.mpr c6
   obtain rfl := Option.some.inj H
   go_enter Try.func7, Try.ntmps7
   go_wp2_with (first | ((with_reducible refine gate_callee (f := 10) rfl ?_); refine Short.gL (some 12) Try.func10 #[.slice A1 l1.length c1] (h := ?_); (with_reducible refine (raddlelaw07_HeavyForms.calls k _ _ l1 false _ ?side1 ?side2 A3.out).mono ?_); (case side1 => repeat (first | exact HR1.out | (with_reducible refine C_alloc ?_ _) | (with_reducible refine C_drewN ?_ _) | (with_reducible refine C_drew ?_))); (case side2 => exact HC1.out); rintro e w' ⟨rfl, ⟨nd, rfl⟩⟩; refine ⟨_, rfl, ?_⟩) | ((with_reducible refine gate_dst (N := 15) rfl ?_); refine S_lit k34 _ 34 ?hg (N := 15) ?hd (xs := ([(⟨1, 0, 0, 0, (⟨0, 0, 0, (⟨0, 0, (⟨#[]⟩ : ByteArray)⟩ : S29)⟩ : S31), ([] : List Int), ([] : List Int), 0, 0⟩ : S34)] : List (S34))) (inner := [.int .i64 1, .int .i64 0, .int .i64 0, .int .i64 0, .int .i64 0, .int .i64 0, .int .i64 0, .int .i64 0, .int .i64 0, .string (⟨#[]⟩ : ByteArray), .slice none 0 0, .slice none 0 0, .int .i64 0, .int .i64 0]) (ok := fun _ => True) (okp := fun _ => True) ?hr ?hp (fun _ hk => hk) trivial (Below.refl _ _) (Nat.le_refl _) (by simp) ?_; (case hd => rfl); (case hg => rfl); (case hr => first | (go_simp; done) | (go_simp; rfl)); (case hp => exact (Reps.front (show Kd.M k34 _ _ _ (⟨1, 0, 0, 0, (⟨0, 0, 0, (⟨0, 0, (⟨#[]⟩ : ByteArray)⟩ : S29)⟩ : S31), ([] : List Int), ([] : List Int), 0, 0⟩ : S34) [.int .i64 1, .int .i64 0, .int .i64 0, .int .i64 0, .int .i64 0, .int .i64 0, .int .i64 0, .int .i64 0, .int .i64 0, .string (⟨#[]⟩ : ByteArray), .slice none 0 0, .slice none 0 0, .int .i64 0, .int .i64 0] from (k34_mkM _ _ _ (⟨1, 0, 0, 0, (⟨0, 0, 0, (⟨0, 0, (⟨#[]⟩ : ByteArray)⟩ : S29)⟩ : S31), ([] : List Int), ([] : List Int), 0, 0⟩ : S34) (R_nil _ _ _ _ _) (R_nil _ _ _ _ _))) rfl (Reps.none _ _) rfl)); intro v541 w35 ho36 hb hg_ hnew_; clear hg_ hnew_; (first | rw [← Ny540.out] at ho36 | (simp only [Int.reduceToNat] at ho36; rw [← Ny540.out] at ho36)); have n0_ := mk_ (S_lower ho36 (below_size (Short.hB HB))); have n1_ := mk_ (below_step (Short.hB HB) hb); clear HB; revert n0_ n1_; intro HO542 HB; clear hb ho36; obtain ⟨Ao37, co37, eo37⟩ := S_slice HO542.out; subst eo37) | ((with_reducible refine gate_callee (f := 11) rfl ?_); refine Short.gL (some 17) Try.func11 #[.slice Ao37 y540.length co37, .slice A1 l1.length c1] (h := ?_); (with_reducible refine (raddleref14_Plan.calls _ _ y540 _ _ l1 t543 t544 _ ?side1 ?side2 ?side3 ?side4 A5.out).mono ?_); (case side1 => exact cX_ (S_reads' HO542.out).2.2); (case side2 => exact (S_reads' HO542.out).2.1); (case side3 => exact cX_ (C_below HR1.out HB.out)); (case side4 => exact HC1.out); rintro e w38 ⟨v545, rfl, ho0, hb⟩; refine ⟨_, rfl, ?_⟩; have n0_ := mk_ (S_below (by (with_reducible repeat (first | apply S_alloc | apply S_drewN | apply S_drew)); exact HO542.out) hb); have n1_ := mk_ (S_lower ho0 (below_size (Short.hB HB))); have n2_ := mk_ (below_step (Short.hB HB) hb); clear HO542 HB; revert n0_ n1_ n2_; intro HO542 HO546 HB; (try clear hb ho0)))
   go_ret
   exact ⟨by first | rfl | (simp [errW_none, errW_some] <;> rfl) | (simp [*, errW_none, errW_some] <;> rfl), Short.hB HB⟩
def raddlelaw20_PlanNodes.WF54 (x : S54) : Prop := (x.f0.length ≤ maxLen ∧ ∀ x0_ ∈ x.f0, (Lit.int .i64 x0_).wf = true)
def raddlelaw20_PlanNodes.Pure : Prop := ∀ (x0 : Int) (x1 : List (S54)), (Lit.int .i64 x0).wf = true → (x1.length ≤ maxLen ∧ ∀ x0_ ∈ x1, raddlelaw20_PlanNodes.WF54 x0_) → ∃ k, raddlelaw20_PlanNodes.f k x0 x1 = some true
end Go.Proofs.Ytimbbaoodjhdoaa.PAll
end
section
namespace Go.Proofs.Ytimbbaoodjhdoaa.Plan
open Go.RowKit Go.Proofs.Ytimbbaoodjhdoaa.PAll Go.Proofs.Ytimbbaoodjhdoaa.Plain Go.Proofs.YtimbbaoodjhdoaaW.PrintWords Go.Proofs.YtimbbaoodjhdoaaW.PrintLast Go.Proofs.YtimbbaoodjhdoaaW.PrintMore Go.Proofs.Ytimbbaoodjhdoaa.ZipT Go.Proofs.YtimbbaoodjhdoaaW.PrintWords.Kd Go.Proofs.YtimbbaoodjhdoaaW.PrintMore.Kd
set_option linter.unusedVariables false
set_option linter.unusedSimpArgs false
theorem look_scan (f : List Tb) (done : List Nd) (x : No) (h : x.f0 = 1) (h3 : 0 ≤ x.f3) (h4 : x.f3 < (f.length : Int)) : look f done x = ((4 :: (rd_T54 f x.f3).f0, 1024, 2147483648), 0) := by
 unfold look scanN
 rw [if_pos h, if_neg z5]
end Go.Proofs.Ytimbbaoodjhdoaa.Plan
end
section
namespace Go.Proofs.Ytimbbaoodjhdoaa.Pure
open Go.RowKit Go.Proofs.Ytimbbaoodjhdoaa.PAll Go.Proofs.YtimbbaoodjhdoaaW.PrintWords Go.Proofs.YtimbbaoodjhdoaaW.PrintLast Go.Proofs.YtimbbaoodjhdoaaW.PrintMore Go.Proofs.Ytimbbaoodjhdoaa.Plain Go.Proofs.Ytimbbaoodjhdoaa.Plan Go.Proofs.Ytimbbaoodjhdoaa.ZipT Go.Proofs.YtimbbaoodjhdoaaW.PrintWords.Kd Go.Proofs.YtimbbaoodjhdoaaW.PrintMore.Kd
set_option linter.unusedVariables false
set_option linter.unusedSimpArgs false
def scanT (t : Int) : No := ⟨1, 0, 0, t, ⟨0, 0, 0, ⟨0, 0, (⟨#[]⟩ : ByteArray)⟩⟩, [], [], 0, 0⟩
def scans (m i : Nat) : List No := (List.range i).map fun j => scanT ((j % m : Nat) : Int)
theorem scans_len (m i : Nat) : (scans m i).length = i := by simp [scans]
theorem scans_succ (m i : Nat) : scans m (i + 1) = scans m i ++ [scanT ((i % m : Nat) : Int)] := by unfold scans; rw [List.range_succ, List.map_append]; rfl
theorem scans_small (m i : Nat) (f : List Tb) (hi : i ≤ 14) (hf : hvF f = false) : planSmall (scans m i) f := by
 have h := small_of [scan0] f z10 hf
 refine ⟨by rw [scans_len]; omega, h.2.1, fun x hx => ?_, h.2.2.2⟩
 obtain ⟨j, _, rfl⟩ := List.mem_map.1 hx
 exact ⟨Nat.zero_le _, Nat.zero_le _⟩
def sc (f : List Tb) (t : Int) : Nd := (4 :: (rd_T54 f t).f0, 1024, 2147483648)
theorem scans_walk (f : List Tb) (hf : 1 ≤ f.length) (i : Nat) : walkN f (scans f.length i) [] = ((List.range i).map (fun j => sc f ((j % f.length : Nat) : Int)), 0) := by
 induction i with
 | zero => rfl
 | succ i ih =>
  rw [scans_succ, walkN_append _ _ _ (by rw [ih]), ih, List.range_succ, List.map_append]
  have := Nat.mod_lt i (show 0 < f.length by omega)
  unfold walkN
  rw [look_scan _ _ _ rfl (by show (0 : Int) ≤ ((i % f.length : Nat) : Int); omega) (by show ((i % f.length : Nat) : Int) < _; omega), if_pos rfl]
  rfl
theorem tmodn (i m : Nat) : Int.tmod (i : Int) (m : Int) = ((i % m : Nat) : Int) := by
 rw [Int.tmod_eq_emod_of_nonneg z5]; rfl
theorem nodes_end (f : List Tb) (hv : hvF f = false) (ho : FOk f) (n : Nat) (hn : n < 14) (k : Nat) (hk : 20 ≤ k) : raddlelaw20_PlanNodes.l0 k (n : Int) f (scans f.length n) (n : Int) = some true := by
 obtain ⟨k, rfl⟩ : ∃ j, k = j + 1 := ⟨k - 1, by omega⟩
 obtain ⟨g1, g2, g3⟩ := ho.forms
 simp only [raddlelaw20_PlanNodes.l0]
 rw [if_neg z5, check_eq (scans_small _ _ _ z5 hv), Option.bind_some]
 have hsl := scans_len f.length n
 by_cases h : n < 1 ∨ 12 < n
 ·
  have hp : planN (scans f.length n) f = ([], 2) := by unfold planN; rw [if_neg (by unfold FOk at ho; omega), if_pos z5]
  have hz : lastN (scans f.length n) f = zN := by unfold lastN; rw [hp]; rfl
  rw [hz, hp]
  have hj : raddlelaw20_PlanNodes.j1 k (n : Int) f zN.1 2 true = some true := by
   obtain ⟨k, rfl⟩ : ∃ j, k = j + 1 := ⟨k - 1, by omega⟩
   simp only [raddlelaw20_PlanNodes.j1]
   rw [if_pos trivial, if_pos trivial, if_pos z12, wakes_bind k z5]
  by_cases h1 : n < 1
  ·
   rw [if_pos z5]; exact hj
  ·
   rw [if_neg z5, decide_eq_true z5]; exact hj
 ·
  have hp : planN (scans f.length n) f = ((List.range n).map (fun j => sc f ((j % f.length : Nat) : Int)), 0) := by
   rw [planN_go ho z5 z5, scans_walk f z5]
  have hz : lastN (scans f.length n) f = sc f (((n - 1) % f.length : Nat) : Int) := by
   unfold lastN
   rw [hp, hsl, List.getD_eq_getElem?_getD]
   simp only [List.getElem?_map]
   rw [List.getElem?_range z5]; rfl
  have hlt := Nat.mod_lt (n - 1) (show 0 < f.length by omega)
  rw [hz, hp, if_neg z5, decide_eq_false z5]
  obtain ⟨k, rfl⟩ : ∃ j, k = j + 1 := ⟨k - 1, by omega⟩
  simp only [raddlelaw20_PlanNodes.j1]
  rw [if_neg z10, if_pos trivial, if_neg z5, w64 z5 z5, show (n : Int) - 1 = ((n - 1 : Nat) : Int) by omega, tmodn, if_pos z5, if_pos z5]
  have hm : rd_T54 f (((n - 1) % f.length : Nat) : Int) ∈ f := getD_mem (by rw [Int.toNat_natCast]; exact hlt)
  have := (g3 _ hm).2.1
  rw [if_pos (by rw [w64 z5 z5]; show ((4 :: _ : List Int).length : Int) = _; rw [List.length_cons]; omega), wakes_bind k z5]
theorem nodes_l0 (f : List Tb) (hv : hvF f = false) (ho : FOk f) (n : Nat) (hn : n < 14) (j : Nat) : ∀ (k i : Nat), i + j = n → 20 + j ≤ k →
  raddlelaw20_PlanNodes.l0 k (n : Int) f (scans f.length i) (i : Int) = some true := by
 induction j with
 | zero =>
  intro k i h hk
  obtain rfl : i = n := by omega
  exact nodes_end f hv ho i hn k z5
 | succ j ih =>
  intro k i h hk
  obtain ⟨k, rfl⟩ : ∃ j, k = j + 1 := ⟨k - 1, by omega⟩
  have := ho.forms.1
  simp only [raddlelaw20_PlanNodes.l0]
  rw [if_pos z5, if_neg z5, if_pos (by rw [scans_len]; omega), tmodn, wrapn i z5]
  have hs := scans_succ f.length i
  unfold scanT at hs
  rw [← hs]
  exact ih k (i + 1) z5 z5
theorem PlanNodes : raddlelaw20_PlanNodes.Pure := by
 intro x0 x1 _ _
 refine ⟨200, ?_⟩
 unfold raddlelaw20_PlanNodes.f
 rw [hvF_eq 200 x1 z5, Option.bind_some]
 by_cases hv : hvF x1 = true
 ·
  rw [if_pos hv]
 rw [if_neg hv]
 have hf := Bool.eq_false_iff.mpr hv
 rw [show (⟨1, 0, 0, 0, (⟨0, 0, 0, (⟨0, 0, (⟨#[]⟩ : ByteArray)⟩ : S29)⟩ : S31), ([] : List Int), ([] : List Int), 0, 0⟩ : No) = scan0 from rfl, plan14_eq (small_of [scan0] x1 z10 hf), Option.bind_some]
 by_cases h0 : (planN [scan0] x1).2 = 0
 ·
  rw [if_pos h0]
  have ho := (planN_len h0).2.2.2
  have hx : 0 ≤ IntKind.u64.wrap x0 := by rw [u64_mod]; exact Int.emod_nonneg _ z10
  rw [Int.tmod_eq_emod_of_nonneg hx]
  have h1 := Int.emod_nonneg (IntKind.u64.wrap x0) (show (14 : Int) ≠ 0 by decide)
  have h2 := Int.emod_lt_of_pos (IntKind.u64.wrap x0) (show (0 : Int) < 14 by decide)
  rw [w64 z5 z5]
  generalize IntKind.u64.wrap x0 % 14 = q at h1 h2 ⊢
  obtain ⟨n, rfl⟩ := Int.eq_ofNat_of_zero_le h1
  exact nodes_l0 x1 hf ho n z5 n 200 0 z5 z5
 ·
  rw [if_neg h0]
end Go.Proofs.Ytimbbaoodjhdoaa.Pure
end
