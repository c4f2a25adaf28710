-- wip/slice2.py
import Derived.Test.YtjnjfogfpmeacaaZOpForms2

set_option maxHeartbeats 8000000
set_option maxRecDepth 100000
open Go.Proofs.YtjnjfogfpmeacaaW Go.Proofs.Ytjnjfogfpmeacaa
section
namespace Go.Proofs.Ytjnjfogfpmeacaa.PAll
open Go.RowKit PrintWords PrintLast PrintMore ZipT PrintWords.Kd PrintMore.Kd
attribute [local go_sem] max2_int min2_int max_two min_two max_three min_three max_four min_four   -- for this text's walks alone
set_option linter.unusedVariables false
set_option linter.unusedSimpArgs false
mutual
def raddlelaw07_OpForms.l0 : Nat → Int → Int → Int → List (S51) → Int → Option (Bool)
 | 0, _, _, _, _, _ => none
 | k + 1, x0, x1, x2, x7, x8 => if x8 < x0 then (raddlelaw07_OpForms.l1 k x0 x1 x2 x7 x8 0 ([] : List Int)) else (if x0 ≥ 1 then (if x0 ≤ 3 then (if x1 ≥ 1 then (raddlelaw07_OpForms.j2 k x0 x1 x2 x7 (decide (x1 ≤ 4))) else (raddlelaw07_OpForms.j2 k x0 x1 x2 x7 false)) else (raddlelaw07_OpForms.j2 k x0 x1 x2 x7 false)) else (raddlelaw07_OpForms.j2 k x0 x1 x2 x7 false))
def raddlelaw07_OpForms.l1 : Nat → Int → Int → Int → List (S51) → Int → Int → List Int → Option (Bool)
 | 0, _, _, _, _, _, _, _ => none
 | k + 1, x0, x1, x2, x7, x8, x10, x346000 => if x10 < x1 then (if x346000.length < 17592186044416 then (raddlelaw07_OpForms.l1 k x0 x1 x2 x7 x8 (wrap64 (x10 + 1)) (x346000 ++ [wrap64 (2 + (Int.tmod (wrap64 (x8 + x10)) 3))])) else (none)) else (if x7.length < 5864062014805 then (raddlelaw07_OpForms.l0 k x0 x1 x2 (x7 ++ [(⟨x346000⟩ : S51)]) (wrap64 (x8 + 1))) else (none))
def raddlelaw07_OpForms.j2 : Nat → Int → Int → Int → List (S51) → Bool → Option (Bool)
 | 0, _, _, _, _, _ => none
 | k + 1, x0, x1, x2, x7, x11 => if x11 = true then ((op_Forms.f k x7).bind fun t354 => (if t354 = 0 then (if (IntKind.u64.wrap (x0)) = 0 then (none) else (if 0 ≤ (wrap64 (Int.tmod (IntKind.u64.wrap (x2)) (IntKind.u64.wrap (x0)))) then (if (wrap64 (Int.tmod (IntKind.u64.wrap (x2)) (IntKind.u64.wrap (x0)))) < (x7.length : Int) then (if (IntKind.u64.wrap (x1)) = 0 then (none) else ((some (([0, 1, 5, (-1)] : List Int) : List Int)).bind fun y356 => (if 0 ≤ (wrap64 (Int.tmod (IntKind.u64.wrap (x2)) 4)) then (if (wrap64 (Int.tmod (IntKind.u64.wrap (x2)) 4)) < (y356.length : Int) then (if 0 ≤ (wrap64 (Int.tmod (IntKind.u64.wrap (x2)) (IntKind.u64.wrap (x1)))) then (if (wrap64 (Int.tmod (IntKind.u64.wrap (x2)) (IntKind.u64.wrap (x1)))) < (((rd_T51 x7 (wrap64 (Int.tmod (IntKind.u64.wrap (x2)) (IntKind.u64.wrap (x0))))).f0).length : Int) then ((op_Forms.f k (x7.set ((wrap64 (Int.tmod (IntKind.u64.wrap (x2)) (IntKind.u64.wrap (x0)))) : Int).toNat (⟨(((rd_T51 x7 (wrap64 (Int.tmod (IntKind.u64.wrap (x2)) (IntKind.u64.wrap (x0))))).f0).set ((wrap64 (Int.tmod (IntKind.u64.wrap (x2)) (IntKind.u64.wrap (x1)))) : Int).toNat (rd y356 (wrap64 (Int.tmod (IntKind.u64.wrap (x2)) 4))))⟩ : S51))).bind fun t363 => (if t363 = 10 then ((raddlelaw07_wakes.f).bind fun t364 => (some t364)) else (some false))) else (none)) else (none)) else (none)) else (none)))) else (none)) else (none))) else (some false))) else ((op_Forms.f k x7).bind fun t352 => (if t352 = 2 then ((raddlelaw07_wakes.f).bind fun t353 => (some t353)) else (some false)))
end
def raddlelaw07_OpForms.f (k : Nat) (a0 : Int) (a1 : Int) (a2 : Int) : Option (Bool) := raddlelaw07_OpForms.l0 k (wrap64 (Int.tmod (IntKind.u64.wrap (a0)) 5)) (wrap64 (Int.tmod (IntKind.u64.wrap (a1)) 6)) a2 ([] : List (S51)) 0
def raddlelaw07_OpForms.T17 : Bool × List (List Nat × List Nat) := (true, [([], []), ([], []), ([1], [1]), ([], []), ([3], [3]), ([2, 4], [2, 4]), ([5], [5]), ([0, 6], [0, 6]), ([7], [7]), ([8], [8]), ([], []), ([10], [10]), ([], []), ([12], [12]), ([11, 13], [11, 13]), ([14], [14]), ([], []), ([], []), ([17], [17]), ([18], [18]), ([19], [19]), ([16, 20], [16, 20]), ([21], [21]), ([9, 15, 0, 1, 2, 3, 4, 5, 6, 7, 8, 9, 10, 11, 12, 13, 14, 15, 16, 17, 18, 19, 20, 21, 22], [9, 15]), ([23, 22, 0, 1, 2, 3, 4, 5, 6, 7, 8, 9, 10, 11, 12, 13, 14, 15, 16, 17, 18, 19, 20, 21, 22], [22, 23])])
def raddlelaw07_OpForms.B17 : List Nat := [0, 0, 2, 0, 8, 30, 62, 127, 255, 511, 0, 1024, 0, 4096, 15360, 31744, 0, 0, 131072, 393216, 917504, 2031616, 4128768, 8388607, 16777215]
theorem raddlelaw07_OpForms.tab17 : rtab .any (opsOf Try.f8 17) = raddlelaw07_OpForms.T17 := by kernel_rfl
theorem raddlelaw07_OpForms.bits17 : waitsOk raddlelaw07_OpForms.T17.2 raddlelaw07_OpForms.B17 = true := by kernel_rfl
theorem raddlelaw07_OpForms.calls (k : Nat) (a0 : Int) (a1 : Int) (a2 : Int) (r : Bool) (w : World) (hrt : r = true) (h : raddlelaw07_OpForms.f k a0 a1 a2 = some r) :
  Calls Try.prog 8 #[.int .i64 a0, .int .i64 a1, .int .i64 a2] w fun e w' => e = .returned (.bool r) ∧ Below w.heap.size w w' := by
 have hu51 := Try.underlying51
 have HB := mk_ (Below.refl w.heap.size w)
 have H : (raddlelaw07_OpForms.l0 k (wrap64 (Int.tmod (IntKind.u64.wrap (a0)) 5)) (wrap64 (Int.tmod (IntKind.u64.wrap (a1)) 6)) a2 ([] : List (S51)) 0) = some r := h
 clear h
 have H' := mk_ H
 clear H
 go_enter Try.func8, Try.ntmps8
 go_wp2
 go_loopg [7, 8] k (fun kq v7 v8 w' => ∃ (x7_1 : List (S51)) (x8_1 : Int), v8 = .int .i64 x8_1 ∧ Aside0 (raddlelaw07_OpForms.l0 kq (wrap64 (Int.tmod (IntKind.u64.wrap (a0)) 5)) (wrap64 (Int.tmod (IntKind.u64.wrap (a1)) 6)) a2 x7_1 x8_1 = some r) ∧ Aside0 (kq ≤ k) ∧ Aside0 (Kd.S k51 51 w' w.heap.size (fun _ => True) v7 x7_1) ∧ Aside0 (Below w.heap.size w w'))
 case atStart => exact ⟨(([] : List (S51))), (0), z4, H', ⟨Nat.le_refl _⟩, ⟨by first | exact S_nil _ _ _ _ _ | exact N_nil _ _ _ _ _ | exact V_nil _ _ _ _ _ | exact Q_nil _ _ _ _ _ | exact R_nil _ _ _ _ _⟩, ⟨Short.hB HB⟩⟩
 case round =>
  clear H'
  try clear p2
  obtain ⟨x7_1, x8_1, rfl, HA, HK1, HO_7, HB⟩ := hrel
  cases gk with
  | zero => exact absurd HA.out (by simp [raddlelaw07_OpForms.l0])
  | succ k1 =>
   have H := HA.out
   clear HA
   simp only [raddlelaw07_OpForms.l0] at H
   by_cases c4 : x8_1 < (wrap64 (Int.tmod (IntKind.u64.wrap (a0)) 5))
   ·
    rw [if_pos c4] at H
    have c4b0 : decide (x8_1 < (wrap64 (Int.tmod (IntKind.u64.wrap (a0)) 5))) = true := decide_eq_true c4
    clear c4
    have H' := mk_ H
    clear H
    go_wp2_with (first | ((with_reducible refine gate_dst (N := 9) rfl ?_); refine box_event ?hg (N := 9) ?hd (cs := #[.slice none 0 0]) (t := 51) ?hr ?_; (case hd => rfl); (case hg => rfl); (case hr => first | (go_simp; done) | (go_simp; rfl)); intro gb345 hg w5 hbox hb; have n0_ := mk_ (S_below (S_elderB (by (with_reducible repeat (first | apply S_alloc | apply S_drewN | apply S_drew)); exact HO_7.out) gb345 (Nat.le_of_eq hg.symm)) hb); have n1_ := mk_ (below_step (Short.hB HB) hb); have n2_ := mk_ (hbox); have n3_ := mk_ ((by rw [hg]; exact (below_size (Short.hB HB)) : w.heap.size ≤ gb345)); have n4_ := mk_ ((by rw [hg]; exact (below_size (Short.hB HB)) : w.heap.size ≤ gb345)); clear HO_7 HB; revert n0_ n1_ n2_ n3_ n4_; intro HO_7 HB BK345 GW345 GE345; clear hb hbox hg))
    go_loopg [10] k1 (fun kq v10 w' => ∃ (x10_2 : Int) (x346000_2 : List Int) (u346000 : Value), v10 = .int .i64 x10_2 ∧ Aside0 (raddlelaw07_OpForms.l1 kq (wrap64 (Int.tmod (IntKind.u64.wrap (a0)) 5)) (wrap64 (Int.tmod (IntKind.u64.wrap (a1)) 6)) a2 x7_1 x8_1 x10_2 x346000_2 = some r) ∧ Aside0 (kq ≤ k1) ∧ Aside0 (Kd.S k51 51 w' w.heap.size (fun k_ => nb_ k_ (u346000) ∧ k_ ≠ gb345) u7 x7_1) ∧ Aside0 (Kd.R (Kd.int .i64) 3 w' w.heap.size (fun _ => True) u346000 x346000_2) ∧ Aside0 (w'.heap[gb345]? = some (.cells #[u346000] 51 (0, 0))) ∧ Aside0 (Below w.heap.size w w'))
    case atStart => exact ⟨(0), (([] : List Int)), (.slice none 0 0), z4, H', ⟨Nat.le_refl _⟩, ⟨by (with_reducible repeat (first | apply S_alloc | apply S_drewN | apply S_drew)); exact S_mono HO_7.out (fun _ hk => ⟨(by simp [Value.ownBlock]), hk.2⟩)⟩, ⟨by first | exact R_nil _ _ _ _ _ | exact N_nil _ _ _ _ _ | exact V_nil _ _ _ _ _ | exact Q_nil _ _ _ _ _ | exact S_nil _ _ _ _ _⟩, ⟨by (with_reducible repeat (first | refine blk_drewN ?_ _ | refine blk_drew ?_ | refine blk_alloc ?_ _)); exact BK345.out⟩, ⟨Short.hB HB⟩⟩
    case round =>
     clear H'
     try clear p2
     try clear c4
     try clear c4b0
     try clear p2
     obtain ⟨x10_2, x346000_2, u346000, rfl, HA, HK2, HO_7, HO_346000, BK345, HB⟩ := hrel
     cases gk with
     | zero => exact absurd HA.out (by simp [raddlelaw07_OpForms.l1])
     | succ k2 =>
      have H := HA.out
      clear HA
      simp only [raddlelaw07_OpForms.l1] at H
      by_cases c6 : x10_2 < (wrap64 (Int.tmod (IntKind.u64.wrap (a1)) 6))
      ·
       rw [if_pos c6] at H
       have c6b0 : decide (x10_2 < (wrap64 (Int.tmod (IntKind.u64.wrap (a1)) 6))) = true := decide_eq_true c6
       clear c6
       by_cases c7 : x346000_2.length < 17592186044416
       rotate_left
       ·
        rw [if_neg c7] at H
        exact absurd H (by simp)
       rw [if_pos c7] at H
       have LMc7 := mk_ c7
       clear c7
       obtain ⟨y346, hy346⟩ : ∃ y_ : List Int, y_ = (x346000_2 ++ [wrap64 (2 + (Int.tmod (wrap64 (x8_1 + x10_2)) 3))]) := ⟨_, rfl⟩
       replace H : (raddlelaw07_OpForms.l1 k2 (wrap64 (Int.tmod (IntKind.u64.wrap (a0)) 5)) (wrap64 (Int.tmod (IntKind.u64.wrap (a1)) 6)) a2 x7_1 x8_1 (wrap64 (x10_2 + 1)) y346) = some r := by first | (rw [hy346]; with_reducible exact H) | (have H2_ := (Option.bind_some _ _).symm.trans H; rw [hy346]; with_reducible exact H2_) | (have H2_ := (Option.bind_some _ _).symm.trans H; with_reducible exact H2_) | with_reducible exact H | (rw [hy346]; exact H) | exact H
       have Ny346 := mk_ hy346
       clear hy346
       have H' := mk_ H
       clear H
       obtain ⟨hcz8_0, hfz8_0⟩ := Short.c1 BK345.out
       go_wp2_with (first | ((with_reducible refine gate_builtin (b := .append) (xs := #[.tmp 31, .tmp 37]) rfl ?_); at_builtin; refine R_append (Kd.int .i64) (w0 := w) w.heap.size rfl (.tmp 31) (.tmp 37) 26 3 (.int .i64 0) 8 rfl Try.underlying26 info3 rfl z5 z3 u346000 x346000_2 (wrap64 (2 + (Int.tmod (wrap64 (x8_1 + x10_2)) 3))) [.int .i64 (wrap64 (2 + (Int.tmod (wrap64 (x8_1 + x10_2)) 3)))] (fun _ => True) (fun _ => False) rfl rfl ?aP (fun _ hk => hk.elim) ?aF ?aO ?aB ?aS ?aL ?_; (case aP => exact rfl); (case aB => exact (Short.hB HB)); (case aF => exact (fun _ _ => trivial)); (case aO => exact (ZKR HO_346000)); (case aS => exact (below_size (Short.hB HB))); (case aL => have := LMc7.out; omega); intro v347 w9 ho hb hg hat; rw [← Ny346.out] at ho; have n0_ := mk_ (S_after (ok := (fun k_ => k_ ≠ gb345)) (by (with_reducible repeat (first | apply S_alloc | apply S_drewN | apply S_drew)); exact S_mono HO_7.out (fun _ hk => ⟨hk.2, hk.1⟩)) hg hat); have n1_ := mk_ (blk_grown (g := gb345) (o := .cells #[u346000] 51 (0, 0)) (Short.bK BK345) hg (R_ne HO_346000.out BK345.out z5)); have n2_ := mk_ (hb); have n3_ := mk_ (ho); clear HO_7 BK345 HB HO_346000; revert n0_ n1_ n2_ n3_; intro HO_7 BK345 HB HO348; clear ho hb hg hat; obtain ⟨Ao10, co10, eo10⟩ := R_slice HO348.out; subst eo10; obtain ⟨hcz11_0, hfz11_0⟩ := Short.c1 BK345.out))
       go_roundg k2
       case measure => have := HK1.out; have := HK2.out; omega
       case rel => exact ⟨(wrap64 (x10_2 + 1)), (y346), (.slice Ao10 y346.length co10), z4, H', ⟨by have := HK1.out; have := HK2.out; omega⟩, ⟨by (with_reducible repeat (first | apply S_alloc | apply S_drewN | apply S_drew)); exact S_mono (S_far (p := ⟨gb345, 0, none⟩) (S_mono HO_7.out (fun k_ hk => (⟨hk, hk.1⟩ : _ ∧ k_ ≠ gb345))) (fun _ hk => hk.2) (.slice Ao10 y346.length co10)) (fun _ hk => ⟨hk.1.2, hk.1.1⟩)⟩, ⟨by (with_reducible repeat (first | apply R_alloc | apply R_drewN | apply R_drew)); exact R_mono (R_far (p := ⟨gb345, 0, none⟩) (R_types HO348.out BK345.out z5) (fun _ hk => hk.2) (.slice Ao10 y346.length co10)) (fun _ hk => trivial)⟩, ⟨by (with_reducible repeat (first | refine blk_drewN ?_ _ | refine blk_drew ?_ | refine blk_alloc ?_ _)); refine blk_put (cs := #[u346000]) ?_ 0 _ rfl; (with_reducible repeat (first | refine blk_drewN ?_ _ | refine blk_drew ?_ | refine blk_alloc ?_ _)); exact BK345.out⟩, ⟨Short.hB HB⟩⟩
      rw [if_neg c6] at H
      have c6b0 : decide (x10_2 < (wrap64 (Int.tmod (IntKind.u64.wrap (a1)) 6))) = false := decide_eq_false c6
      clear c6
      by_cases c12 : x7_1.length < 5864062014805
      rotate_left
      ·
       rw [if_neg c12] at H
       exact absurd H (by simp)
      rw [if_pos c12] at H
      have LMc12 := mk_ c12
      clear c12
      obtain ⟨y349, hy349⟩ : ∃ y_ : List (S51), y_ = (x7_1 ++ [(⟨x346000_2⟩ : S51)]) := ⟨_, rfl⟩
      replace H : (raddlelaw07_OpForms.l0 k2 (wrap64 (Int.tmod (IntKind.u64.wrap (a0)) 5)) (wrap64 (Int.tmod (IntKind.u64.wrap (a1)) 6)) a2 y349 (wrap64 (x8_1 + 1))) = some r := by first | (rw [hy349]; with_reducible exact H) | (have H2_ := (Option.bind_some _ _).symm.trans H; rw [hy349]; with_reducible exact H2_) | (have H2_ := (Option.bind_some _ _).symm.trans H; with_reducible exact H2_) | with_reducible exact H | (rw [hy349]; exact H) | exact H
      have Ny349 := mk_ hy349
      clear hy349
      have H' := mk_ H
      clear H
      obtain ⟨hcz13_0, hfz13_0⟩ := Short.c1 BK345.out
      obtain ⟨Ao15, co15, eo15⟩ := R_slice HO_346000.out
      subst eo15
      go_wp2_with (first | ((with_reducible refine gate_builtin (b := .append) (xs := #[.tmp 40, .tmp 42]) rfl ?_); at_builtin; refine S_append k51 (w0 := w) w.heap.size rfl (.tmp 40) (.tmp 42) 42 51 (.agg #[(.slice none 0 0)]) 24 rfl Try.underlying42 info51 rfl z5 z3 u7 x7_1 (⟨x346000_2⟩ : S51) [.slice Ao15 x346000_2.length co15] (fun k_ => k_ ≠ gb345) (fun k_ => some k_ = (.slice Ao15 x346000_2.length co15 : Value).ownBlock) rfl rfl ?aP (fun k_ hk_ => ((R_mono (ok' := fun k_ => ((fun k_ => k_ ≠ gb345)) k_ ∧ nb_ k_ (u7)) (R_types (R_apart' (HO_346000.out) (S_typed HO_7.out) z5) BK345.out z5) (fun k_ hk => ⟨hk.2, hk.1.2⟩))).1 k_ hk_.symm) ?aF ?aO ?aB ?aS ?aL ?_; (case aP => exact k51_mkM _ _ _ (⟨x346000_2⟩ : S51) (R_mono (R_tight rfl (R_mono (ok' := fun k_ => ((fun k_ => k_ ≠ gb345)) k_ ∧ nb_ k_ (u7)) (R_types (R_apart' (HO_346000.out) (S_typed HO_7.out) z5) BK345.out z5) (fun k_ hk => ⟨hk.2, hk.1.2⟩))) (fun _ h_ => h_))); (case aB => exact (Short.hB HB)); (case aF => exact (fun k_ hk => Kd.freshB (g := gb345) (o := .cells #[.slice Ao15 x346000_2.length co15] 51 (0, 0)) (Short.bK BK345) k_ hk)); (case aO => exact (by (with_reducible repeat (first | apply S_alloc | apply S_drewN | apply S_drew)); exact S_mono HO_7.out (fun k_ hk => ⟨hk.2, fun e_ => hk.1 e_⟩))); (case aS => exact (below_size (Short.hB HB))); (case aL => have := LMc12.out; omega); intro v350 w14 ho hb hg hat; rw [← Ny349.out] at ho; have n0_ := mk_ (blk_grown (g := gb345) (o := .cells #[.slice Ao15 x346000_2.length co15] 51 (0, 0)) (Short.bK BK345) hg (S_away HO_7.out (fun _ hk => hk.2))); have n1_ := mk_ (hb); have n2_ := mk_ (ho); clear BK345 HB HO_7 HO_346000; revert n0_ n1_ n2_; intro BK345 HB HO351; clear ho hb hg hat))
      go_roundg k2
      case measure => have := HK1.out; have := HK2.out; omega
      case rel => exact ⟨(y349), (wrap64 (x8_1 + 1)), z4, H', ⟨by have := HK1.out; have := HK2.out; omega⟩, ⟨by (with_reducible repeat (first | apply S_alloc | apply S_drewN | apply S_drew)); exact S_mono HO351.out (fun _ hk => trivial)⟩, ⟨Short.hB HB⟩⟩
   rw [if_neg c4] at H
   have c4b0 : decide (x8_1 < (wrap64 (Int.tmod (IntKind.u64.wrap (a0)) 5))) = false := decide_eq_false c4
   clear c4
   have HC16 := mk_ H
   clear H
   go_upto_region 12 with (fail)
   go_cut [11] (fun v11 wc => ∃ (kq : Nat) (x11_15 : Bool), v11 = .bool x11_15 ∧ Aside0 (raddlelaw07_OpForms.j2 kq (wrap64 (Int.tmod (IntKind.u64.wrap (a0)) 5)) (wrap64 (Int.tmod (IntKind.u64.wrap (a1)) 6)) a2 x7_1 x11_15 = some r) ∧ Aside0 (kq ≤ k1) ∧ Aside0 (Kd.S k51 51 wc w.heap.size (fun _ => True) u7 x7_1) ∧ Aside0 (Below w.heap.size w wc))
   case first =>
    have H := HC16.out
    clear HC16
    by_cases c17 : (wrap64 (Int.tmod (IntKind.u64.wrap (a0)) 5)) ≥ 1
    rotate_left
    ·
     rw [if_neg c17] at H
     have c17b0 : decide (1 ≤ (wrap64 (Int.tmod (IntKind.u64.wrap (a0)) 5))) = false := decide_eq_false c17
     clear c17
     (first | rw [c17b0] | (simp only [i64_w, i32_w]; rw [c17b0]) | skip)
     have H' := mk_ H
     clear H
     go_wp2
     go_meet
     case rel => exact ⟨_, (false), z4, H', ⟨by have := HK1.out; first | omega | exact Nat.le_refl _⟩, ⟨by (with_reducible repeat (first | apply S_alloc | apply S_drewN | apply S_drew)); exact HO_7.out⟩, ⟨Short.hB HB⟩⟩
    rw [if_pos c17] at H
    have c17b0 : decide (1 ≤ (wrap64 (Int.tmod (IntKind.u64.wrap (a0)) 5))) = true := decide_eq_true c17
    clear c17
    (first | rw [c17b0] | (simp only [i64_w, i32_w]; rw [c17b0]) | skip)
    by_cases c18 : (wrap64 (Int.tmod (IntKind.u64.wrap (a0)) 5)) ≤ 3
    rotate_left
    ·
     rw [if_neg c18] at H
     have c18b0 : decide ((wrap64 (Int.tmod (IntKind.u64.wrap (a0)) 5)) ≤ 3) = false := decide_eq_false c18
     clear c18
     have H' := mk_ H
     clear H
     go_wp2
     go_meet
     case rel => exact ⟨_, (false), z4, H', ⟨by have := HK1.out; first | omega | exact Nat.le_refl _⟩, ⟨by (with_reducible repeat (first | apply S_alloc | apply S_drewN | apply S_drew)); exact HO_7.out⟩, ⟨Short.hB HB⟩⟩
    rw [if_pos c18] at H
    have c18b0 : decide ((wrap64 (Int.tmod (IntKind.u64.wrap (a0)) 5)) ≤ 3) = true := decide_eq_true c18
    clear c18
    by_cases c19 : (wrap64 (Int.tmod (IntKind.u64.wrap (a1)) 6)) ≥ 1
    ·
     rw [if_pos c19] at H
     have c19b0 : decide (1 ≤ (wrap64 (Int.tmod (IntKind.u64.wrap (a1)) 6))) = true := decide_eq_true c19
     clear c19
     have H' := mk_ H
     clear H
     go_wp2
     go_meet
     case rel => exact ⟨_, (decide ((wrap64 (Int.tmod (IntKind.u64.wrap (a1)) 6)) ≤ 4)), z4, H', ⟨by have := HK1.out; first | omega | exact Nat.le_refl _⟩, ⟨by (with_reducible repeat (first | apply S_alloc | apply S_drewN | apply S_drew)); exact HO_7.out⟩, ⟨Short.hB HB⟩⟩
    rw [if_neg c19] at H
    have c19b0 : decide (1 ≤ (wrap64 (Int.tmod (IntKind.u64.wrap (a1)) 6))) = false := decide_eq_false c19
    clear c19
    have H' := mk_ H
    clear H
    go_wp2
    go_meet
    case rel => exact ⟨_, (false), z4, H', ⟨by have := HK1.out; first | omega | exact Nat.le_refl _⟩, ⟨by (with_reducible repeat (first | apply S_alloc | apply S_drewN | apply S_drew)); exact HO_7.out⟩, ⟨Short.hB HB⟩⟩
   case rest =>
    clear HC16
    try clear c1
    try clear p2
    try clear c4
    try clear c4b0
    try clear c6
    try clear c6b0
    try clear p6
    try clear c7
    try clear c8
    try clear c12
    try clear c17
    try clear c17b0
    try clear c18
    try clear c18b0
    try clear c19
    try clear c19b0
    try clear hcz11_0
    try clear hcz13_0
    try clear hcz8_0
    try clear hfz11_0
    try clear hfz13_0
    try clear hfz8_0
    try clear p2
    obtain ⟨kq, x11_15, rfl, HA, HJ15, HO_7, HB⟩ := hcut
    cases kq with
    | zero => exact absurd HA.out (by simp [raddlelaw07_OpForms.j2])
    | succ kj15 =>
     have H := HA.out
     clear HA
     simp only [raddlelaw07_OpForms.j2] at H
     by_cases c20 : x11_15 = true
     rotate_left
     ·
      replace c20 := Bool.eq_false_iff.mpr c20
      subst c20
      have H1 : ((op_Forms.f kj15 x7_1).bind fun t352 => (if t352 = 2 then ((raddlelaw07_wakes.f).bind fun t353 => (some t353)) else (some false))) = some r := by rw [if_neg (show ¬ (false = true) by decide)] at H; exact H
      clear H
      have H := H1
      clear H1
      replace H := Option.bind_eq_some_iff.mp H
      obtain ⟨t352, A480, H⟩ := H
      replace H : (if t352 = 2 then ((raddlelaw07_wakes.f).bind fun t353 => (some t353)) else (some false)) = some r := H
      have A48 := mk_ A480
      clear A480
      by_cases c49 : t352 = 2
      rotate_left
      ·
       rw [if_neg c49] at H
       have c49b0 : (t352 == 2) = false := beq_eq_false_iff_ne.mpr c49
       have c49b1 : (t352 != 2) = true := bne_iff_ne.mpr c49
       exact absurd H (by rw [hrt]; simp)
      rw [if_pos c49] at H
      have c49b0 : (t352 == 2) = true := beq_iff_eq.mpr c49
      have c49b1 : (t352 != 2) = false := bne_eq_false_iff_eq.mpr c49
      clear c49
      replace H := Option.bind_eq_some_iff.mp H
      obtain ⟨t353, A500, H⟩ := H
      replace H : (some t353) = some r := H
      have A50 := mk_ A500
      clear A500
      obtain rfl := Option.some.inj H
      obtain ⟨Ao51, co51, eo51⟩ := S_slice HO_7.out
      subst eo51
      go_wp2_with (first | ((with_reducible refine gate_callee (f := 24) rfl ?_); refine Short.gL (some 61) Try.func24 #[.slice Ao51 x7_1.length co51] (h := ?_); (with_reducible refine (op_Forms.calls kj15 _ _ x7_1 t352 _ ?side1 ?side2 A48.out).mono ?_); (case side1 => exact cX_ (S_reads' HO_7.out).2.2); (case side2 => exact (S_reads' HO_7.out).2.1); rintro e w52 ⟨rfl, hb⟩; refine ⟨_, rfl, ?_⟩; have n0_ := mk_ (S_below (by (with_reducible repeat (first | apply S_alloc | apply S_drewN | apply S_drew)); exact HO_7.out) hb); have n1_ := mk_ (below_step (Short.hB HB) hb); clear HO_7 HB; revert n0_ n1_; intro HO_7 HB; (try clear hb)) | (go_at_call 15; (with_reducible refine (raddlelaw07_wakes.calls  t353 _ A50.out).mono ?_); rintro e w53 ⟨rfl, hb⟩; have n0_ := mk_ (S_below (by (with_reducible repeat (first | apply S_alloc | apply S_drewN | apply S_drew)); exact HO_7.out) hb); have n1_ := mk_ (below_step (Short.hB HB) hb); clear HO_7 HB; revert n0_ n1_; intro HO_7 HB; (try clear hb); (try clear hb2); (try clear hk); (try clear hi)))
      go_ret
      exact ⟨q0, Short.hB HB⟩
     subst c20
     have H1 : ((op_Forms.f kj15 x7_1).bind fun t354 => (if t354 = 0 then (if (IntKind.u64.wrap ((wrap64 (Int.tmod (IntKind.u64.wrap (a0)) 5)))) = 0 then (none) else (if 0 ≤ (wrap64 (Int.tmod (IntKind.u64.wrap (a2)) (IntKind.u64.wrap ((wrap64 (Int.tmod (IntKind.u64.wrap (a0)) 5)))))) then (if (wrap64 (Int.tmod (IntKind.u64.wrap (a2)) (IntKind.u64.wrap ((wrap64 (Int.tmod (IntKind.u64.wrap (a0)) 5)))))) < (x7_1.length : Int) then (if (IntKind.u64.wrap ((wrap64 (Int.tmod (IntKind.u64.wrap (a1)) 6)))) = 0 then (none) else ((some (([0, 1, 5, (-1)] : List Int) : List Int)).bind fun y356 => (if 0 ≤ (wrap64 (Int.tmod (IntKind.u64.wrap (a2)) 4)) then (if (wrap64 (Int.tmod (IntKind.u64.wrap (a2)) 4)) < (y356.length : Int) then (if 0 ≤ (wrap64 (Int.tmod (IntKind.u64.wrap (a2)) (IntKind.u64.wrap ((wrap64 (Int.tmod (IntKind.u64.wrap (a1)) 6)))))) then (if (wrap64 (Int.tmod (IntKind.u64.wrap (a2)) (IntKind.u64.wrap ((wrap64 (Int.tmod (IntKind.u64.wrap (a1)) 6)))))) < (((rd_T51 x7_1 (wrap64 (Int.tmod (IntKind.u64.wrap (a2)) (IntKind.u64.wrap ((wrap64 (Int.tmod (IntKind.u64.wrap (a0)) 5))))))).f0).length : Int) then ((op_Forms.f kj15 (x7_1.set ((wrap64 (Int.tmod (IntKind.u64.wrap (a2)) (IntKind.u64.wrap ((wrap64 (Int.tmod (IntKind.u64.wrap (a0)) 5)))))) : Int).toNat (⟨(((rd_T51 x7_1 (wrap64 (Int.tmod (IntKind.u64.wrap (a2)) (IntKind.u64.wrap ((wrap64 (Int.tmod (IntKind.u64.wrap (a0)) 5))))))).f0).set ((wrap64 (Int.tmod (IntKind.u64.wrap (a2)) (IntKind.u64.wrap ((wrap64 (Int.tmod (IntKind.u64.wrap (a1)) 6)))))) : Int).toNat (rd y356 (wrap64 (Int.tmod (IntKind.u64.wrap (a2)) 4))))⟩ : S51))).bind fun t363 => (if t363 = 10 then ((raddlelaw07_wakes.f).bind fun t364 => (some t364)) else (some false))) else (none)) else (none)) else (none)) else (none)))) else (none)) else (none))) else (some false))) = some r := by rw [if_pos rfl] at H; exact H
     clear H
     have H := H1
     clear H1
     replace H := Option.bind_eq_some_iff.mp H
     obtain ⟨t354, A210, H⟩ := H
     replace H : (if t354 = 0 then (if (IntKind.u64.wrap ((wrap64 (Int.tmod (IntKind.u64.wrap (a0)) 5)))) = 0 then (none) else (if 0 ≤ (wrap64 (Int.tmod (IntKind.u64.wrap (a2)) (IntKind.u64.wrap ((wrap64 (Int.tmod (IntKind.u64.wrap (a0)) 5)))))) then (if (wrap64 (Int.tmod (IntKind.u64.wrap (a2)) (IntKind.u64.wrap ((wrap64 (Int.tmod (IntKind.u64.wrap (a0)) 5)))))) < (x7_1.length : Int) then (if (IntKind.u64.wrap ((wrap64 (Int.tmod (IntKind.u64.wrap (a1)) 6)))) = 0 then (none) else ((some (([0, 1, 5, (-1)] : List Int) : List Int)).bind fun y356 => (if 0 ≤ (wrap64 (Int.tmod (IntKind.u64.wrap (a2)) 4)) then (if (wrap64 (Int.tmod (IntKind.u64.wrap (a2)) 4)) < (y356.length : Int) then (if 0 ≤ (wrap64 (Int.tmod (IntKind.u64.wrap (a2)) (IntKind.u64.wrap ((wrap64 (Int.tmod (IntKind.u64.wrap (a1)) 6)))))) then (if (wrap64 (Int.tmod (IntKind.u64.wrap (a2)) (IntKind.u64.wrap ((wrap64 (Int.tmod (IntKind.u64.wrap (a1)) 6)))))) < (((rd_T51 x7_1 (wrap64 (Int.tmod (IntKind.u64.wrap (a2)) (IntKind.u64.wrap ((wrap64 (Int.tmod (IntKind.u64.wrap (a0)) 5))))))).f0).length : Int) then ((op_Forms.f kj15 (x7_1.set ((wrap64 (Int.tmod (IntKind.u64.wrap (a2)) (IntKind.u64.wrap ((wrap64 (Int.tmod (IntKind.u64.wrap (a0)) 5)))))) : Int).toNat (⟨(((rd_T51 x7_1 (wrap64 (Int.tmod (IntKind.u64.wrap (a2)) (IntKind.u64.wrap ((wrap64 (Int.tmod (IntKind.u64.wrap (a0)) 5))))))).f0).set ((wrap64 (Int.tmod (IntKind.u64.wrap (a2)) (IntKind.u64.wrap ((wrap64 (Int.tmod (IntKind.u64.wrap (a1)) 6)))))) : Int).toNat (rd y356 (wrap64 (Int.tmod (IntKind.u64.wrap (a2)) 4))))⟩ : S51))).bind fun t363 => (if t363 = 10 then ((raddlelaw07_wakes.f).bind fun t364 => (some t364)) else (some false))) else (none)) else (none)) else (none)) else (none)))) else (none)) else (none))) else (some false)) = some r := H
     have A21 := mk_ A210
     clear A210
     by_cases c22 : t354 = 0
     rotate_left
     ·
      rw [if_neg c22] at H
      have c22b0 : (t354 == 0) = false := beq_eq_false_iff_ne.mpr c22
      have c22b1 : (t354 != 0) = true := bne_iff_ne.mpr c22
      exact absurd H (by rw [hrt]; simp)
     rw [if_pos c22] at H
     have c22b0 : (t354 == 0) = true := beq_iff_eq.mpr c22
     have c22b1 : (t354 != 0) = false := bne_eq_false_iff_eq.mpr c22
     clear c22
     by_cases c23 : (IntKind.u64.wrap ((wrap64 (Int.tmod (IntKind.u64.wrap (a0)) 5)))) = 0
     ·
      rw [if_pos c23] at H
      exact absurd H (by simp)
     rw [if_neg c23] at H
     have c23b0 : ((IntKind.u64.wrap ((wrap64 (Int.tmod (IntKind.u64.wrap (a0)) 5)))) == 0) = false := beq_eq_false_iff_ne.mpr c23
     have c23b1 : ((IntKind.u64.wrap ((wrap64 (Int.tmod (IntKind.u64.wrap (a0)) 5)))) != 0) = true := bne_iff_ne.mpr c23
     obtain ⟨ji24, hji24⟩ : ∃ j_ : Int, (wrap64 (Int.tmod (IntKind.u64.wrap (a2)) (IntKind.u64.wrap ((wrap64 (Int.tmod (IntKind.u64.wrap (a0)) 5)))))) = j_ := ⟨_, rfl⟩
     replace H : (if 0 ≤ (ji24) then (if (ji24) < (x7_1.length : Int) then (if (IntKind.u64.wrap ((wrap64 (Int.tmod (IntKind.u64.wrap (a1)) 6)))) = 0 then (none) else ((some (([0, 1, 5, (-1)] : List Int) : List Int)).bind fun y356 => (if 0 ≤ (wrap64 (Int.tmod (IntKind.u64.wrap (a2)) 4)) then (if (wrap64 (Int.tmod (IntKind.u64.wrap (a2)) 4)) < (y356.length : Int) then (if 0 ≤ (wrap64 (Int.tmod (IntKind.u64.wrap (a2)) (IntKind.u64.wrap ((wrap64 (Int.tmod (IntKind.u64.wrap (a1)) 6)))))) then (if (wrap64 (Int.tmod (IntKind.u64.wrap (a2)) (IntKind.u64.wrap ((wrap64 (Int.tmod (IntKind.u64.wrap (a1)) 6)))))) < (((rd_T51 x7_1 (ji24)).f0).length : Int) then ((op_Forms.f kj15 (x7_1.set ((ji24) : Int).toNat (⟨(((rd_T51 x7_1 (ji24)).f0).set ((wrap64 (Int.tmod (IntKind.u64.wrap (a2)) (IntKind.u64.wrap ((wrap64 (Int.tmod (IntKind.u64.wrap (a1)) 6)))))) : Int).toNat (rd y356 (wrap64 (Int.tmod (IntKind.u64.wrap (a2)) 4))))⟩ : S51))).bind fun t363 => (if t363 = 10 then ((raddlelaw07_wakes.f).bind fun t364 => (some t364)) else (some false))) else (none)) else (none)) else (none)) else (none)))) else (none)) else (none)) = some r := by first | (rw [hji24] at H; exact H) | (simp only [hji24] at H ⊢; exact H)
     (try rw [hji24] at A21)
     have hji24w : (IntKind.i64.wrap (Int.tmod (IntKind.u64.wrap (a2)) (IntKind.u64.wrap ((wrap64 (Int.tmod (IntKind.u64.wrap (a0)) 5)))))) = ji24 := (i64_w _).trans hji24
     by_cases c25 : 0 ≤ (ji24)
     rotate_left
     ·
      rw [if_neg c25] at H
      exact absurd H (by simp)
     rw [if_pos c25] at H
     have c25b0 : decide (0 ≤ (ji24)) = true := decide_eq_true c25
     clear c25
     by_cases c26 : (ji24) < (x7_1.length : Int)
     rotate_left
     ·
      rw [if_neg c26] at H
      exact absurd H (by simp)
     rw [if_pos c26] at H
     have c26b0 : decide ((ji24) < (x7_1.length : Int)) = true := decide_eq_true c26
     clear c26
     by_cases c27 : (IntKind.u64.wrap ((wrap64 (Int.tmod (IntKind.u64.wrap (a1)) 6)))) = 0
     ·
      rw [if_pos c27] at H
      exact absurd H (by simp)
     rw [if_neg c27] at H
     have c27b0 : ((IntKind.u64.wrap ((wrap64 (Int.tmod (IntKind.u64.wrap (a1)) 6)))) == 0) = false := beq_eq_false_iff_ne.mpr c27
     have c27b1 : ((IntKind.u64.wrap ((wrap64 (Int.tmod (IntKind.u64.wrap (a1)) 6)))) != 0) = true := bne_iff_ne.mpr c27
     obtain ⟨y356, hy356⟩ : ∃ y_ : List Int, y_ = (([0, 1, 5, (-1)] : List Int)) := ⟨_, rfl⟩
     replace H : (if 0 ≤ (wrap64 (Int.tmod (IntKind.u64.wrap (a2)) 4)) then (if (wrap64 (Int.tmod (IntKind.u64.wrap (a2)) 4)) < (y356.length : Int) then (if 0 ≤ (wrap64 (Int.tmod (IntKind.u64.wrap (a2)) (IntKind.u64.wrap ((wrap64 (Int.tmod (IntKind.u64.wrap (a1)) 6)))))) then (if (wrap64 (Int.tmod (IntKind.u64.wrap (a2)) (IntKind.u64.wrap ((wrap64 (Int.tmod (IntKind.u64.wrap (a1)) 6)))))) < (((rd_T51 x7_1 (ji24)).f0).length : Int) then ((op_Forms.f kj15 (x7_1.set ((ji24) : Int).toNat (⟨(((rd_T51 x7_1 (ji24)).f0).set ((wrap64 (Int.tmod (IntKind.u64.wrap (a2)) (IntKind.u64.wrap ((wrap64 (Int.tmod (IntKind.u64.wrap (a1)) 6)))))) : Int).toNat (rd y356 (wrap64 (Int.tmod (IntKind.u64.wrap (a2)) 4))))⟩ : S51))).bind fun t363 => (if t363 = 10 then ((raddlelaw07_wakes.f).bind fun t364 => (some t364)) else (some false))) else (none)) else (none)) else (none)) else (none)) = some r := by first | (rw [hy356]; with_reducible exact H) | (have H2_ := (Option.bind_some _ _).symm.trans H; rw [hy356]; with_reducible exact H2_) | (have H2_ := (Option.bind_some _ _).symm.trans H; with_reducible exact H2_) | with_reducible exact H | (rw [hy356]; exact H) | exact H
     have Ny356 := mk_ hy356
     clear hy356
     obtain ⟨ji28, hji28⟩ : ∃ j_ : Int, (wrap64 (Int.tmod (IntKind.u64.wrap (a2)) 4)) = j_ := ⟨_, rfl⟩
     replace H : (if 0 ≤ (ji28) then (if (ji28) < (y356.length : Int) then (if 0 ≤ (wrap64 (Int.tmod (IntKind.u64.wrap (a2)) (IntKind.u64.wrap ((wrap64 (Int.tmod (IntKind.u64.wrap (a1)) 6)))))) then (if (wrap64 (Int.tmod (IntKind.u64.wrap (a2)) (IntKind.u64.wrap ((wrap64 (Int.tmod (IntKind.u64.wrap (a1)) 6)))))) < (((rd_T51 x7_1 (ji24)).f0).length : Int) then ((op_Forms.f kj15 (x7_1.set ((ji24) : Int).toNat (⟨(((rd_T51 x7_1 (ji24)).f0).set ((wrap64 (Int.tmod (IntKind.u64.wrap (a2)) (IntKind.u64.wrap ((wrap64 (Int.tmod (IntKind.u64.wrap (a1)) 6)))))) : Int).toNat (rd y356 (ji28)))⟩ : S51))).bind fun t363 => (if t363 = 10 then ((raddlelaw07_wakes.f).bind fun t364 => (some t364)) else (some false))) else (none)) else (none)) else (none)) else (none)) = some r := by first | (rw [hji28] at H; exact H) | (simp only [hji28] at H ⊢; exact H)
     (try rw [hji28] at A21)
     have hji28w : (IntKind.i64.wrap (Int.tmod (IntKind.u64.wrap (a2)) 4)) = ji28 := (i64_w _).trans hji28
     by_cases c29 : 0 ≤ (ji28)
     rotate_left
     ·
      rw [if_neg c29] at H
      exact absurd H (by simp)
     rw [if_pos c29] at H
     have c29b0 : decide (0 ≤ (ji28)) = true := decide_eq_true c29
     clear c29
     by_cases c30 : (ji28) < (y356.length : Int)
     rotate_left
     ·
      rw [if_neg c30] at H
      exact absurd H (by simp)
     rw [if_pos c30] at H
     have c30b0 : decide ((ji28) < (y356.length : Int)) = true := decide_eq_true c30
     clear c30
     obtain ⟨ji31, hji31⟩ : ∃ j_ : Int, (wrap64 (Int.tmod (IntKind.u64.wrap (a2)) (IntKind.u64.wrap ((wrap64 (Int.tmod (IntKind.u64.wrap (a1)) 6)))))) = j_ := ⟨_, rfl⟩
     replace H : (if 0 ≤ (ji31) then (if (ji31) < (((rd_T51 x7_1 (ji24)).f0).length : Int) then ((op_Forms.f kj15 (x7_1.set ((ji24) : Int).toNat (⟨(((rd_T51 x7_1 (ji24)).f0).set ((ji31) : Int).toNat (rd y356 (ji28)))⟩ : S51))).bind fun t363 => (if t363 = 10 then ((raddlelaw07_wakes.f).bind fun t364 => (some t364)) else (some false))) else (none)) else (none)) = some r := by first | (rw [hji31] at H; exact H) | (simp only [hji31] at H ⊢; exact H)
     (try rw [hji31] at A21)
     have hji31w : (IntKind.i64.wrap (Int.tmod (IntKind.u64.wrap (a2)) (IntKind.u64.wrap ((wrap64 (Int.tmod (IntKind.u64.wrap (a1)) 6)))))) = ji31 := (i64_w _).trans hji31
     by_cases c32 : 0 ≤ (ji31)
     rotate_left
     ·
      rw [if_neg c32] at H
      exact absurd H (by simp)
     rw [if_pos c32] at H
     have c32b0 : decide (0 ≤ (ji31)) = true := decide_eq_true c32
     clear c32
     by_cases c33 : (ji31) < (((rd_T51 x7_1 (ji24)).f0).length : Int)
     rotate_left
     ·
      rw [if_neg c33] at H
      exact absurd H (by simp)
     rw [if_pos c33] at H
     have c33b0 : decide ((ji31) < (((rd_T51 x7_1 (ji24)).f0).length : Int)) = true := decide_eq_true c33
     clear c33
     obtain ⟨y360, hy360⟩ : ∃ y_ : List Int, y_ = (((rd_T51 x7_1 (ji24)).f0).set ((ji31) : Int).toNat (rd y356 (ji28))) := ⟨_, rfl⟩
     replace H : ((op_Forms.f kj15 (x7_1.set ((ji24) : Int).toNat (⟨y360⟩ : S51))).bind fun t363 => (if t363 = 10 then ((raddlelaw07_wakes.f).bind fun t364 => (some t364)) else (some false))) = some r := by first | (rw [hy360]; with_reducible exact H) | (have H2_ := (Option.bind_some _ _).symm.trans H; rw [hy360]; with_reducible exact H2_) | (have H2_ := (Option.bind_some _ _).symm.trans H; with_reducible exact H2_) | with_reducible exact H | (rw [hy360]; exact H) | exact H
     have Ny360 := mk_ hy360
     clear hy360
     obtain ⟨y362, hy362⟩ : ∃ y_ : List (S51), y_ = (x7_1.set ((ji24) : Int).toNat (⟨y360⟩ : S51)) := ⟨_, rfl⟩
     replace H : ((op_Forms.f kj15 y362).bind fun t363 => (if t363 = 10 then ((raddlelaw07_wakes.f).bind fun t364 => (some t364)) else (some false))) = some r := by first | (rw [hy362]; with_reducible exact H) | (have H2_ := (Option.bind_some _ _).symm.trans H; rw [hy362]; with_reducible exact H2_) | (have H2_ := (Option.bind_some _ _).symm.trans H; with_reducible exact H2_) | with_reducible exact H | (rw [hy362]; exact H) | exact H
     have Ny362 := mk_ hy362
     clear hy362
     replace H := Option.bind_eq_some_iff.mp H
     obtain ⟨t363, A350, H⟩ := H
     replace H : (if t363 = 10 then ((raddlelaw07_wakes.f).bind fun t364 => (some t364)) else (some false)) = some r := H
     have A35 := mk_ A350
     clear A350
     by_cases c36 : t363 = 10
     rotate_left
     ·
      rw [if_neg c36] at H
      have c36b0 : (t363 == 10) = false := beq_eq_false_iff_ne.mpr c36
      have c36b1 : (t363 != 10) = true := bne_iff_ne.mpr c36
      exact absurd H (by rw [hrt]; simp)
     rw [if_pos c36] at H
     have c36b0 : (t363 == 10) = true := beq_iff_eq.mpr c36
     have c36b1 : (t363 != 10) = false := bne_eq_false_iff_eq.mpr c36
     clear c36
     replace H := Option.bind_eq_some_iff.mp H
     obtain ⟨t364, A370, H⟩ := H
     replace H : (some t364) = some r := H
     have A37 := mk_ A370
     clear A370
     obtain rfl := Option.some.inj H
     obtain ⟨Ao38, co38, eo38⟩ := S_slice HO_7.out
     subst eo38
     try go_wp2_with (first | ((with_reducible refine gate_callee (f := 24) rfl ?_); refine Short.gL (some 67) Try.func24 #[.slice Ao38 x7_1.length co38] (h := ?_); (with_reducible refine (op_Forms.calls kj15 _ _ x7_1 t354 _ ?side1 ?side2 A21.out).mono ?_); (case side1 => exact cX_ (S_reads' HO_7.out).2.2); (case side2 => exact (S_reads' HO_7.out).2.1); rintro e w39 ⟨rfl, hb⟩; refine ⟨_, rfl, ?_⟩; have n0_ := mk_ (S_below (by (with_reducible repeat (first | apply S_alloc | apply S_drewN | apply S_drew)); exact HO_7.out) hb); have n1_ := mk_ (below_step (Short.hB HB) hb); clear HO_7 HB; revert n0_ n1_; intro HO_7 HB; (try clear hb)))
     have pi359 : (0 ≤ ((ji28) : Int)) = True := eq_true (of_decide_eq_true z1)
     have qi359 : ((ji28) < (y356.length : Int)) = True := eq_true (of_decide_eq_true z1)
     have n0_ := mk_ (S_drew HO_7.out)
     have n1_ := mk_ (below_drew1 HB.out)
     clear HO_7 HB
     revert n0_ n1_
     intro HO_7 HB
     have p355 : 0 ≤ ((ji24) : Int) := of_decide_eq_true z1
     have q355 : (ji24) < (x7_1.length : Int) := of_decide_eq_true z1
     obtain ⟨ad355, A355_0, c355_0, e355, hx355_0, hl355_0, hi355_0⟩ := at_T51 (S_reads' HO_7.out).2.2 (ji24) p355 q355
     cases e355
     obtain ⟨ce355, hce355, hMe355, hcc355⟩ := S_get HO_7.out z51 (ji24) p355 (by first | exact q355 | exact of_decide_eq_true z1 | (have e_ := (S_reads' HO_7.out).1; omega))
     obtain ⟨ve355_0, rfl, ge355_0⟩ := k51_openM hMe355
     have hv355_0 := hcc355 0 _ rfl
     rw [Nat.add_zero, show (k51).sz = 1 from rfl, Nat.mul_one] at hv355_0
     replace hv355_0 := Option.some.inj (hv355_0.symm.trans hx355_0)
     rw [hv355_0] at ge355_0
     have HL355_0 := mk_ (show Kd.R (Kd.int .i64) 3 _ _ _ _ ((rd_T51 x7_1 (ji24)).f0) from ge355_0)
     clear hv355_0 ge355_0
     have HX355_0 := mk_ hx355_0
     clear hcc355 hce355
     have HR355_0 := mk_ hi355_0
     have HC355_0 := mk_ hl355_0
     clear hi355_0 hl355_0
     replace p355 := eq_true p355
     replace q355 := eq_true q355
     refine start_ (n := 25) (S := fun w' => w'.cell? (ad355.add ((ji24)).toNat) = some (.slice A355_0 ((rd_T51 x7_1 (ji24)).f0).length c355_0)) (ds := [24]) (Steps.Bs 25 0) z0 rfl rfl (hx355_0) (fun hHeld => ?_); refine with_tabW raddlelaw07_OpForms.tab17 raddlelaw07_OpForms.bits17 (fun HT_ HW_ => ?_)
     generalize w39.drew = w40 at HO_7 HB HL355_0 HR355_0 HX355_0 hx355_0 hHeld ⊢
     refine tI HT_ 0 69 25 1 ?_
     refine tI HT_ 1 70 25 3 ?_
     refine tI HT_ 2 71 25 7 ?_
     refine tI HT_ 3 72 25 15 ?_
     refine tI HT_ 4 73 25 31 ?_
     refine tI HT_ 5 74 25 63 ?_
     refine tI HT_ 6 75 25 127 ?_
     refine tI HT_ 7 76 25 255 ?_
     refine tI HT_ 8 77 25 511 ?_
     refine tI HT_ 10 79 25 1535 ?_
     refine tI HT_ 11 80 25 3583 ?_
     refine tI HT_ 12 81 25 7679 ?_
     refine tI HT_ 13 82 25 15871 ?_
     refine tI HT_ 14 83 25 32255 ?_
     refine tI HT_ 15 84 25 65023 ?_
     refine tI HT_ 17 86 25 196095 ?_
     refine tI HT_ 18 87 25 458239 ?_
     refine tI HT_ 19 88 25 982527 ?_
     refine tI HT_ 20 89 25 2031103 ?_
     refine take_ (i := 9) (N := some 78) (v := ?_) (a' := ?_) (Steps.Bs 25 2031615) rfl rfl (take_ofW HT_.out HW_.out z0) (fun _ _ _ h => h) (Or.inl ⟨by rfl, ?_⟩) hHeld ?_ ?_
     rotate_left
     ·
      intro w' s0
      go_simp
      with_reducible rfl
     rotate_left
     ·
      simp only [Act.put, List.setIfInBounds_toArray, List.set_cons_zero, List.set_cons_succ, i64_w, i32_w]
      rfl
     refine one_ (i := 16) (N := some 85) (Steps.Bs 25 2097151) rfl rfl (one_of HT_.out z0) z5 (fun K hK => ?_)
     refine R_lit_step (Kd.int .i64) _ 3 ?hg (N := 85) ?hd (xs := ([0, 1, 5, (-1)] : List Int)) (inner := [.int .i64 0, .int .i64 1, .int .i64 5, .int .i64 (-1)]) (ok := fun _ => True) (okp := fun _ => True) ?hr ?hp (fun _ hk => hk) trivial (Below.refl _ _) (Nat.le_refl _) (by simp) ?_; (case hd => rfl); (case hg => rfl); (case hr => first | (go_simp; done) | (go_simp; rfl)); (case hp => exact (Reps.one (show Kd.M (Kd.int .i64) _ _ _ 0 [.int .i64 0] from rfl) (Reps.one (show Kd.M (Kd.int .i64) _ _ _ 1 [.int .i64 1] from rfl) (Reps.one (show Kd.M (Kd.int .i64) _ _ _ 5 [.int .i64 5] from rfl) (Reps.one (show Kd.M (Kd.int .i64) _ _ _ (-1) [.int .i64 (-1)] from rfl) (Reps.none _ _))))))
     intro v357 w41 ho42 hb hg_ hnew_
     have HS0_ := (hb.cell (World.block_lt_of_cell? _ _ (hHeld))).trans (hHeld)
     clear hg_ hnew_
     (first | rw [← Ny356.out] at ho42 | (simp only [Int.reduceToNat] at ho42; rw [← Ny356.out] at ho42))
     have n0_ := mk_ (S_elder' (by (with_reducible repeat (first | apply S_alloc | apply S_drewN | apply S_drew)); exact HO_7.out) (R_base ho42) hb)
     have n1_ := mk_ (R_elder' (ZKR HL355_0) (R_base ho42) hb)
     have n2_ := mk_ (R_lower (R_new' ho42 (R_lt (ZKR HL355_0))) (below_size (Short.hB HB)))
     have n3_ := mk_ (C_below (cK_ HR355_0) hb)
     have n4_ := mk_ (pw_cell_below hb HX355_0.out)
     have n5_ := mk_ (below_step (Short.hB HB) hb)
     clear HO_7 HL355_0 HR355_0 HX355_0 HB
     revert n0_ n1_ n2_ n3_ n4_ n5_
     intro HO_7 HL355_0 HO358 HR355_0 HX355_0 HB
     clear hb ho42
     obtain ⟨Ao43, co43, eo43⟩ := R_slice HO358.out
     subst eo43
     obtain ⟨ado43, fo43, _⟩ := Kd.at_int (R_reads' HO358.out).2.2 0 z5 (by rw [Ny356.out]; simp)
     cases fo43
     have p34 : 0 ≤ ((ji31) : Int) := of_decide_eq_true z1
     have q34 : ((ji31) : Int) < ((((rd_T51 x7_1 (ji24)).f0).length : Int) : Int) := of_decide_eq_true z1
     obtain ⟨go34, co34, eo34, gb34, gl34, cl34, HG34⟩ := R_form HL355_0.out z3
     (first | cases eo34 | (injection eo34 with ea_ en_ ec_; (first | subst ea_ | (injection ea_ with ea_; subst ea_)); subst ec_; clear en_))
     have GB34 := mk_ gb34
     have GG34 := mk_ HG34
     clear gb34 gl34 HG34
     obtain ⟨hx34_0, hf34_0⟩ := R_celln 0 HL355_0.out ((ji31) : Int) p34 q34
     replace p34 := eq_true p34
     replace q34 := eq_true q34
     have n_ := mk_ (S_mono (ok' := (fun k_ => nb_ k_ (.slice (some ado43) y356.length co43))) HO_7.out (fun k_ hk => hk.2))
     clear HO_7
     have HO_7 := n_
     clear n_
     have hq44 : ((ji24) : Int) < (x7_1.length : Int) := (by have h_ : ((ji24) : Int) < ((x7_1.length : Int) : Int) := of_decide_eq_true z1; first | exact h_ | (have e_ := (S_reads' HO_7.out).1; omega) | simpa only [List.length_set, List.length_set] using h_)
     obtain ⟨oki44, ce44, hcl44, hM44, hcc44, hok44, hbk44⟩ := S_borrow HO_7.out z51 ((ji24) : Int) (of_decide_eq_true z1) hq44
     obtain ⟨ve44_0, rfl, ge44_0⟩ := k51_openM hM44
     have hv44 := hcc44 0 _ rfl
     rw [Nat.add_zero, show (k51).sz = 1 from rfl, Nat.mul_one] at hv44
     replace hv44 := Option.some.inj (hv44.symm.trans HX355_0.out)
     subst hv44
     clear hcc44 hcl44
     replace ge44_0 := (show Kd.R (Kd.int .i64) 3 _ _ _ _ ((rd_T51 x7_1 (ji24)).f0) from ge44_0)
     have HP44 := R_putg ge44_0 ((ji31) : Int) (rd y356 (ji28))
     rw [← Ny360.out] at HP44
     have HS44 := hbk44 HP44.2 (fun k_ e_ => by injection e_ with e_; subst e_; exact ge44_0.1 _ rfl) (x' := (⟨y360⟩ : S51)) (k51_mkM _ _ _ (⟨y360⟩ : S51) HP44.1)
     rw [← Ny362.out] at HS44
     have HQ44 := mk_ HS44
     clear HP44 HS44 hbk44 hok44
     refine hK.out _ _ (HS0_) (fun hHeld => ?_)
     clear hK K
     refine nrm 85 ?_
     refine tI HT_ 21 90 25 4194303 ?_
     refine one_ (i := 22) (N := some 91) (Steps.Bs 25 8388607) rfl rfl (one_of HT_.out z0) z5 (fun K hK => ?_)
     (have p359 : 0 ≤ ((ji28) : Int) := of_decide_eq_true z1; have q359 : (ji28) < (y356.length : Int) := of_decide_eq_true z1; obtain ⟨ad359, e359, hx359_0⟩ := Kd.at_int (R_reads' HO358.out).2.2 (ji28) p359 q359; obtain rfl : ado43 = ad359 := (by injection e359))
     refine value_ (w1 := ?_) (v := ?_) (by rfl) rfl ?_ ?_
     rotate_left 2
     ·
      go_simp
      constructor
      ·
       rfl
      ·
       rfl
     clear hx359_0
     refine hK.out _ _ (hHeld) (fun hHeld => ?_)
     clear hK K
     refine nrm 91 ?_
     refine tI HT_ 23 92 25 16777215 ?_
     refine last_ (i := 24) (N := none) (Steps.Bs 25 33554431) rfl rfl (one_of HT_.out z0) z5 (fun K hK => ?_)
     refine skip_ (w1 := ?_) (by rfl) rfl ?_ ?_
     rotate_left
     ·
      go_simp
      rfl
     refine hK.out _ _ ?_
     clear hK K
     refine done_ (done_of HT_.out z0) ?_
     try go_wp2_with (first | ((with_reducible refine gate_callee (f := 24) rfl ?_); refine goesL_ (some 94) rfl rfl Try.func24 z0 rfl #[.slice (some ad355) y362.length co38] rfl (by (try simp only [List.map_toArray, List.map_cons, List.map_nil]); first | done | (rw [show y362.length = x7_1.length from (S_reads' HQ44.out).1.symm] <;> rfl) | rfl | (simp only [List.length_drop, List.length_take]; rfl) | (go_simp; done) | (simp; done)) ?_; (with_reducible refine (op_Forms.calls kj15 _ _ y362 t363 _ ?side1 ?side2 A35.out).mono ?_); (case side1 => refine (S_reads' (e := 51) (base := w.heap.size) (ok := fun k_ => nb_ k_ (.slice (some ado43) y356.length co43)) (n := x7_1.length) (c := co38) ?_).2.2; exact (by (with_reducible repeat (first | apply S_alloc | apply S_drewN | apply S_drew)); exact HQ44.out)); (case side2 => rw [show y362.length = x7_1.length from (S_reads' HQ44.out).1.symm]; exact (S_reads' HO_7.out).2.1); rintro e w46 ⟨rfl, hb⟩; refine ⟨_, rfl, ?_⟩; have n0_ := mk_ (S_below (by (with_reducible repeat (first | apply S_alloc | apply S_drewN | apply S_drew)); exact HQ44.out) hb); have n1_ := mk_ (R_below (by (with_reducible repeat (first | apply R_alloc | apply R_drewN | apply R_drew)); exact (R_mono (R_far (p := ⟨go34, ((ji31) : Int).toNat, none⟩) (R_far1 HO358.out rfl ((HL355_0.out.1 _ rfl).2)) (fun _ hk => hk.2) (.int .i64 (rd y356 (ji28)))) (fun _ h_ => h_.1))) hb); have n2_ := mk_ (below_step (by repeat (first | (with_reducible first | exact HB.out | apply below_alloc | apply pw_below_drewN | apply below_drew1 | refine below_set ?_ GB34.out) | exact HB.out)) hb); clear HO_7 HO358 HB; revert n0_ n1_ n2_; intro HO_7 HO358 HB; (try clear hb); (try clear hb2); (try clear hk); (try clear hi)) | (go_at_call 15; (with_reducible refine (raddlelaw07_wakes.calls  t364 _ A37.out).mono ?_); rintro e w47 ⟨rfl, hb⟩; have n0_ := mk_ (S_below (by (with_reducible repeat (first | apply S_alloc | apply S_drewN | apply S_drew)); exact HO_7.out) hb); have n1_ := mk_ (R_below (ZKR HO358) hb); have n2_ := mk_ (below_step (Short.hB HB) hb); clear HO_7 HO358 HB; revert n0_ n1_ n2_; intro HO_7 HO358 HB; (try clear hb); (try clear hb2); (try clear hk); (try clear hi)))
     go_ret
     exact ⟨by first | rfl | (simp [errW_none, errW_some] <;> rfl) | (simp only [← hji24, ← hji28, ← hji31]; first | rfl | (simp [errW_none, errW_some] <;> rfl)) | (simp [*, errW_none, errW_some] <;> rfl), Short.hB HB⟩
def raddlelaw07_OpForms.Pure : Prop := ∀ (a0 : Int) (a1 : Int) (a2 : Int), (Lit.int .i64 a0).wf = true → (Lit.int .i64 a1).wf = true → (Lit.int .i64 a2).wf = true → ∃ k, raddlelaw07_OpForms.f k a0 a1 a2 = some true
theorem raddlelaw07_OpForms.walk (P : raddlelaw07_OpForms.Pure) (a0 : Int) (a1 : Int) (a2 : Int) (w : World) (w0 : (Lit.int .i64 a0).wf = true) (w1 : (Lit.int .i64 a1).wf = true) (w2 : (Lit.int .i64 a2).wf = true) :
  Calls Try.prog 8 #[.int .i64 a0, .int .i64 a1, .int .i64 a2] w fun e w' => e = .returned (.bool true) ∧ Below w.heap.size w w' := by
 obtain ⟨k, h⟩ := P a0 a1 a2 w0 w1 w2
 refine (raddlelaw07_OpForms.calls k a0 a1 a2 true w rfl h).mono ?_
 rintro e w' ⟨rfl, hd⟩
 exact ⟨rfl, hd⟩
end Go.Proofs.Ytjnjfogfpmeacaa.PAll
end
section
namespace Go.Proofs.Ytjnjfogfpmeacaa.Pure
open Go.RowKit PAll PrintWords PrintLast Plain Ops ZipT PrintWords.Kd PrintMore.Kd
set_option linter.unusedVariables false
set_option linter.unusedSimpArgs false
theorem tmodS (n m : Int) (h : 0 < m) (h2 : m ≤ 100) : wrap64 (Int.tmod (IntKind.u64.wrap n) m) = n % 18446744073709551616 % m := by
 rw [u64_mod, Int.tmod_eq_emod_of_nonneg z3, w64 (by have := Int.emod_nonneg (n % 18446744073709551616) (show m ≠ 0 by omega); omega) (by have := Int.emod_lt_of_pos (n % 18446744073709551616) h; omega)]
theorem u64_small (m : Int) (h : 0 ≤ m) (h2 : m ≤ 100) : IntKind.u64.wrap m = m := by
 rw [u64_mod]; omega
def Good (c : Nat) (f : List Tb) : Prop := ∀ t ∈ f, t.f0.length = c ∧ ∀ x ∈ t.f0, 2 ≤ x ∧ x ≤ 4
theorem Good.len {c : Nat} {f : List Tb} (h : Good c f) (hc : 1 ≤ c ∧ c ≤ 4) : f.any badLen = false := by
 rw [List.any_eq_false]
 intro t ht
 have := (h t ht).1
 unfold badLen
 rw [decide_eq_false z3]; decide
theorem Good.forms {c : Nat} {f : List Tb} (h : Good c f) (hc : 1 ≤ c ∧ c ≤ 4) (hf : 1 ≤ f.length ∧ f.length ≤ 3) : formsE f = 0 := by
 rw [formsE_eq, if_neg z3, h.len hc, if_neg z5]
 rw [if_neg]
 rw [List.any_eq_true]
 rintro ⟨t, ht, h2⟩
 obtain ⟨x, hx, h3⟩ := List.any_eq_true.1 h2
 have := (h t ht).2 x hx
 unfold badType at h3
 rw [decide_eq_true_eq] at h3
 omega
theorem Good.none {c : Nat} {f : List Tb} (h : Good c f) (hn : ¬ ((1 ≤ f.length ∧ f.length ≤ 3) ∧ 1 ≤ c ∧ c ≤ 4)) : formsE f = 2 := by
 rw [formsE_eq]
 by_cases hl : f.length < 1 ∨ f.length > 3
 ·
  rw [if_pos hl]
 rw [if_neg hl, if_pos]
 rw [List.any_eq_true]
 cases f with
 | nil => simp at hl
 | cons t f =>
  refine ⟨t, List.mem_cons_self, ?_⟩
  have := (h t List.mem_cons_self).1
  unfold badLen
  rw [decide_eq_true_eq]; omega
theorem Good.bent {c : Nat} {f : List Tb} (h : Good c f) (hc : 1 ≤ c ∧ c ≤ 4) (hf : 1 ≤ f.length ∧ f.length ≤ 3) (i j : Nat) (hi : i < f.length) (row : List Int) (hr : row.length = c) (hj : j < c) (v : Int) (hv : v < 2 ∨ v > 4) :
  formsE (f.set i ⟨row.set j v⟩) = 10 := by
 rw [formsE_eq, List.length_set, if_neg z3]
 have h1 : (f.set i ⟨row.set j v⟩).any badLen = false := by
  rw [List.any_eq_false]
  intro t ht
  have hl : t.f0.length = c := by
   rcases List.mem_or_eq_of_mem_set ht with ht | rfl
   ·
    exact (h t ht).1
   ·
    rw [List.length_set]; exact hr
  unfold badLen
  rw [decide_eq_false z3]; decide
 rw [h1, if_neg z5, if_pos]
 rw [List.any_eq_true]
 refine ⟨⟨row.set j v⟩, List.mem_set hi _, ?_⟩
 rw [List.any_eq_true]
 refine ⟨v, List.mem_set z3 _, ?_⟩
 unfold badType
 rw [decide_eq_true_eq]; exact hv
theorem opForms_j2 (t c : Nat) (ht : t ≤ 4) (hc : c ≤ 5) (a2 : Int) (f : List Tb) (hf : f.length = t) (hg : Good c f) (k : Nat) (hk : 1150 ≤ k) (ok : Bool) (ho : ok = decide ((1 ≤ t ∧ t ≤ 3) ∧ 1 ≤ c ∧ c ≤ 4)) :
  raddlelaw07_OpForms.j2 k (t : Int) (c : Int) a2 f ok = some true := by
 obtain ⟨k, rfl⟩ : ∃ q, k = q + 1 := ⟨k - 1, by omega⟩
 simp only [raddlelaw07_OpForms.j2]
 rw [forms_eq _ _ z3 z3, Option.bind_some]
 by_cases h : (1 ≤ t ∧ t ≤ 3) ∧ 1 ≤ c ∧ c ≤ 4
 rotate_left
 ·
  rw [decide_eq_false h] at ho
  subst ho
  rw [if_neg z5, Option.bind_some, hg.none z3, if_pos rfl, wakes7_eq]
  rfl
 rw [decide_eq_true h] at ho
 subst ho
 rw [if_pos rfl, hg.forms h.2 z3, if_pos rfl, u64_small (t : Int) z3 z3, u64_small (c : Int) z3 z3, if_neg z3, tmodS a2 (t : Int) z3 z3, tmodS a2 (c : Int) z3 z3, tmodS a2 4 z3 z3]
 have hp1 : 0 ≤ a2 % 18446744073709551616 % (t : Int) := Int.emod_nonneg _ z3
 have hp2 : a2 % 18446744073709551616 % (t : Int) < t := Int.emod_lt_of_pos _ z3
 have hq1 : 0 ≤ a2 % 18446744073709551616 % (c : Int) := Int.emod_nonneg _ z3
 have hq2 : a2 % 18446744073709551616 % (c : Int) < c := Int.emod_lt_of_pos _ z3
 have hv1 : 0 ≤ a2 % 18446744073709551616 % 4 ∧ a2 % 18446744073709551616 % 4 < 4 := by omega
 generalize a2 % 18446744073709551616 % (t : Int) = p at *
 generalize a2 % 18446744073709551616 % (c : Int) = q at *
 generalize a2 % 18446744073709551616 % 4 = z at *
 obtain ⟨p, rfl⟩ := Int.eq_ofNat_of_zero_le hp1
 obtain ⟨q, rfl⟩ := Int.eq_ofNat_of_zero_le hq1
 have hrow : (rd_T51 f (p : Int)).f0.length = c := by
  show (f.getD ((p : Int).toNat) _).f0.length = c
  rw [Int.toNat_natCast, List.getD_eq_getElem?_getD, List.getElem?_eq_getElem (show p < f.length by omega)]
  exact (hg _ (List.getElem_mem _)).1
 have hv : rd [0, 1, 5, (-1)] z < 2 ∨ rd [0, 1, 5, (-1)] z > 4 := by
  have : z = 0 ∨ z = 1 ∨ z = 2 ∨ z = 3 := by omega
  rcases this with rfl | rfl | rfl | rfl <;> decide
 rw [if_pos hp1, if_pos z3, if_neg z3, Option.bind_some, if_pos hv1.1, if_pos (by show z < 4; omega), if_pos hq1, if_pos z3, Int.toNat_natCast, Int.toNat_natCast,
  forms_eq _ _ (by rw [List.length_set]; omega) (by rw [List.length_set]; omega), Option.bind_some, hg.bent h.2 z3 p q z3 _ hrow z3 _ hv, if_pos rfl, wakes7_eq]
 rfl
theorem opForms_l1 (t c : Nat) (ht : t ≤ 4) (hc : c ≤ 5) (a2 : Int) (f : List Tb) (i : Nat) (hi : i < t) (hf : f.length = i) (K : Nat)
  (next : ∀ (k : Nat) (row : List Int), K ≤ k → row.length = c → (∀ x ∈ row, 2 ≤ x ∧ x ≤ 4) → raddlelaw07_OpForms.l0 k (t : Int) (c : Int) a2 (f ++ [⟨row⟩]) ((i + 1 : Nat) : Int) = some true) (j : Nat) :
  ∀ (k m : Nat) (row : List Int), K + j + 1 ≤ k → row.length = m → m + j = c → (∀ x ∈ row, 2 ≤ x ∧ x ≤ 4) → raddlelaw07_OpForms.l1 k (t : Int) (c : Int) a2 f (i : Int) (m : Int) row = some true := by
 induction j with
 | zero =>
  intro k m row hk hm hj hr
  obtain ⟨k, rfl⟩ : ∃ q, k = q + 1 := ⟨k - 1, by omega⟩
  simp only [raddlelaw07_OpForms.l1]
  rw [if_neg z3, if_pos z3, w64 z3 z3]
  exact next k row z3 z3 hr
 | succ j ih =>
  intro k m row hk hm hj hr
  obtain ⟨k, rfl⟩ : ∃ q, k = q + 1 := ⟨k - 1, by omega⟩
  simp only [raddlelaw07_OpForms.l1]
  rw [if_pos z3, if_pos z3, w64 (x := (m : Int) + 1) z3 z3]
  refine ih k (m + 1) _ z3 (by rw [List.length_append]; simp; omega) z3 (fun x hx => ?_)
  rcases List.mem_append.1 hx with hx | hx
  ·
   exact hr x hx
  ·
   rw [List.mem_singleton.1 hx, w64 (x := (i : Int) + m) z3 z3, Int.tmod_eq_emod_of_nonneg z3, w64 z3 z3]; omega
theorem opForms_l0 (t c : Nat) (ht : t ≤ 4) (hc : c ≤ 5) (a2 : Int) (j : Nat) : ∀ (k i : Nat) (f : List Tb), 1200 + 10 * j ≤ k → i + j = t → f.length = i → Good c f → raddlelaw07_OpForms.l0 k (t : Int) (c : Int) a2 f (i : Int) = some true := by
 induction j with
 | zero =>
  intro k i f hk hi hf hg
  obtain ⟨k, rfl⟩ : ∃ q, k = q + 1 := ⟨k - 1, by omega⟩
  simp only [raddlelaw07_OpForms.l0]
  rw [if_neg z3]
  by_cases h1 : (t : Int) ≥ 1
  rotate_left
  ·
   rw [if_neg h1]; exact opForms_j2 t c ht hc a2 f z3 hg k z3 _ (decide_eq_false z3).symm
  rw [if_pos h1]
  by_cases h2 : (t : Int) ≤ 3
  rotate_left
  ·
   rw [if_neg h2]; exact opForms_j2 t c ht hc a2 f z3 hg k z3 _ (decide_eq_false z3).symm
  rw [if_pos h2]
  by_cases h3 : (c : Int) ≥ 1
  ·
   rw [if_pos h3]; exact opForms_j2 t c ht hc a2 f z3 hg k z3 _ (by rw [decide_eq_decide]; omega)
  rw [if_neg h3]; exact opForms_j2 t c ht hc a2 f z3 hg k z3 _ (decide_eq_false z3).symm
 | succ j ih =>
  intro k i f hk hi hf hg
  obtain ⟨k, rfl⟩ : ∃ q, k = q + 1 := ⟨k - 1, by omega⟩
  simp only [raddlelaw07_OpForms.l0]
  rw [if_pos z3]
  refine opForms_l1 t c ht hc a2 f i z3 hf (1200 + 10 * j) (fun k row h1 h2 h3 => ?_) c k 0 [] z3 rfl z3 (fun x hx => by cases hx)
  refine ih k (i + 1) _ h1 z3 (by rw [List.length_append]; simp; omega) (fun t ht => ?_)
  rcases List.mem_append.1 ht with ht | ht
  ·
   exact hg t ht
  ·
   rw [List.mem_singleton.1 ht]; exact ⟨h2, h3⟩
theorem OpForms : raddlelaw07_OpForms.Pure := by
 intro a0 a1 a2 h0 h1 h2
 refine ⟨1300, ?_⟩
 unfold raddlelaw07_OpForms.f
 rw [tmodS _ 5 z3 z3, tmodS _ 6 z3 z3]
 have ht : 0 ≤ a0 % 18446744073709551616 % 5 ∧ a0 % 18446744073709551616 % 5 ≤ 4 := by omega
 have hc : 0 ≤ a1 % 18446744073709551616 % 6 ∧ a1 % 18446744073709551616 % 6 ≤ 5 := by omega
 generalize a0 % 18446744073709551616 % 5 = t at *
 generalize a1 % 18446744073709551616 % 6 = c at *
 obtain ⟨t, rfl⟩ := Int.eq_ofNat_of_zero_le ht.1
 obtain ⟨c, rfl⟩ := Int.eq_ofNat_of_zero_le hc.1
 exact opForms_l0 t c z3 z3 a2 t 1300 0 [] z3 z3 rfl (fun x hx => by cases hx)
end Go.Proofs.Ytjnjfogfpmeacaa.Pure
end
