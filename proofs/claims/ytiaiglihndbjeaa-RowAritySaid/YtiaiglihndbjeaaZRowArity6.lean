-- Put together by a program of this session (wip/slice.py) out of the seat's texts: what this law needs.
import Derived.Test.YtiaiglihndbjeaaZRowArity5
section
namespace Go.Proofs.Ytiaiglihndbjeaa.PAll
open Go.RowKit Go.Proofs.YtiaiglihndbjeaaW.PrintWords Go.Proofs.YtiaiglihndbjeaaW.PrintLast Go.Proofs.YtiaiglihndbjeaaW.PrintMore
attribute [local go_sem] max2_int min2_int max_two min_two max_three min_three max_four min_four   -- for this text's walks alone
set_option linter.unusedVariables false
set_option linter.unusedSimpArgs false
/-! ### raddlelaw04_RowArity: function 6 -/
mutual
def raddlelaw04_RowArity.j0 : Nat → Int → Bool → Int → Int → ByteArray → Option (Bool)
 | 0, _, _, _, _, _ => none
 | k + 1, x0, x18, x381000, x381001, x381002 => if x18 = true then (some true) else (raddlelaw04_RowArity.l0 k (wrap64 (11 + (wrap64 (Int.tmod (IntKind.u64.wrap (x0)) 3)))) ([] : List (S39)) 0 x381000 x381001 x381002)
def raddlelaw04_RowArity.l0 : Nat → Int → List (S39) → Int → Int → Int → ByteArray → Option (Bool)
 | 0, _, _, _, _, _, _ => none
 | k + 1, x0, x5, x6, x381000, x381001, x381002 => if x6 < x0 then (if x5.length < 4398046511104 then (raddlelaw04_RowArity.l0 k x0 (x5 ++ [(⟨x381000, x381001, x381002⟩ : S39)]) (wrap64 (x6 + 1)) x381000 x381001 x381002) else (none)) else ((row_Bytes.f k x5).bind fun bt389 => (if 0 ≤ x0 then (if (x0 : Int).toNat ≤ 35184372088832 then ((row_Pick.f k (([(⟨x381000, x381001, x381002⟩ : S39)] : List (S39))) (List.replicate (x0 : Int).toNat 0)).bind fun bt399 => (if x0 > 12 then ((row_Check.f k x5).bind fun t403 => (if t403 = 2 then (if bt389.2 = 2 then (if bt399.2 = 2 then (if (wrap64 ((bt389.1.length : Int) + (bt399.1.length : Int))) = 0 then ((raddlelaw04_wakes.f k).bind fun t404 => (some t404)) else (some false)) else (some false)) else (some false)) else (some false))) else ((row_Check.f k x5).bind fun t405 => (if t405 = 0 then (if bt389.2 = 0 then (if bt399.2 = 0 then ((raddlekeep_Row.f k bt399.1 x5).bind fun t406 => (if t406 = true then ((raddlelaw04_wakes.f k).bind fun t407 => (some t407)) else (some false))) else (some false)) else (some false)) else (some false))))) else (none)) else (none)))
end
def raddlelaw04_RowArity.f (k : Nat) (a0 : Int) (a1_0 : Int) (a1_1 : Int) (a1_2 : ByteArray) : Option (Bool) := (raddlelaw04_Heavy.f k (([(⟨a1_0, a1_1, a1_2⟩ : S39)] : List (S39)))).bind fun t384 => (if t384 = true then (raddlelaw04_RowArity.j0 k a0 true a1_0 a1_1 a1_2) else ((raddleref01_Value.f a1_0 a1_1 a1_2).bind fun t385 => (raddlelaw04_RowArity.j0 k a0 (!t385) a1_0 a1_1 a1_2)))
def raddlelaw04_RowArity.T10 : Bool × List (List Nat × List Nat) := (true, [([], []), ([0], [0]), ([], []), ([2, 2], [2]), ([1, 3], [1, 3]), ([4], [4]), ([5], [5]), ([5], [5]), ([6, 4, 0, 1, 2, 3, 4, 5, 6], [6]), ([7, 8, 0, 1, 2, 3, 4, 5, 6, 7, 8], [7])])
def raddlelaw04_RowArity.B10 : List Nat := [0, 1, 0, 4, 15, 31, 63, 63, 127, 511]
theorem raddlelaw04_RowArity.tab10 : rtab .any (opsOf Try.f6 10) = raddlelaw04_RowArity.T10 := by kernel_rfl
theorem raddlelaw04_RowArity.bits10 : waitsOk raddlelaw04_RowArity.T10.2 raddlelaw04_RowArity.B10 = true := by kernel_rfl
set_option maxHeartbeats 8000000 in
set_option maxRecDepth 100000 in
theorem raddlelaw04_RowArity.calls (k : Nat) (a0 : Int) (a1_0 : Int) (a1_1 : Int) (a1_2 : ByteArray) (r : Bool) (w : World) (hrt : r = true) (h : raddlelaw04_RowArity.f k a0 a1_0 a1_1 a1_2 = some r) :
  Calls Try.prog 6 #[.int .i64 a0, .agg #[.int .i64 a1_0, .int .i64 a1_1, .string a1_2]] w fun e w' => e = .returned (.bool r) ∧ Below w.heap.size w w' := by
 have hu39 := Try.underlying39
 have HB := Aside0.mk (Below.refl w.heap.size w)
 have H : ((raddlelaw04_Heavy.f k (([(⟨a1_0, a1_1, a1_2⟩ : S39)] : List (S39)))).bind fun t384 => (if t384 = true then (raddlelaw04_RowArity.j0 k a0 true a1_0 a1_1 a1_2) else ((raddleref01_Value.f a1_0 a1_1 a1_2).bind fun t385 => (raddlelaw04_RowArity.j0 k a0 (!t385) a1_0 a1_1 a1_2)))) = some r := h
 clear h
 have HC3 := Aside0.mk H
 clear H
 go_enter Try.func6, Try.ntmps6
 go_upto_region 1 with (first | ((with_reducible refine gate_dst (N := 3) rfl ?_); (try (refine gate_guard (by rfl) ?_; dsimp only)); refine box_event ?hg (N := 3) ?hd (cs := #[.int .i64 a1_0, .int .i64 a1_1, .string a1_2]) (t := 39) ?hr ?_; (case hd => rfl); (case hg => rfl); (case hr => first | (go_simp; done) | (go_simp; rfl)); intro gb380 hg w4 hbox hb; have n0_ := Aside0.mk (below_step (Short.hB HB) hb); have n1_ := Aside0.mk (hbox); have n2_ := Aside0.mk ((by rw [hg]; exact (below_size (Short.hB HB)) : w.heap.size ≤ gb380)); have n3_ := Aside0.mk ((by rw [hg]; exact (below_size (Short.hB HB)) : w.heap.size ≤ gb380)); clear HB; have HB := n0_; have BK380 := n1_; have GW380 := n2_; have GE380 := n3_; clear n0_ n1_ n2_ n3_; clear hb hbox hg))
 (try simp only [Act.put, List.setIfInBounds_toArray, List.set_cons_zero, List.set_cons_succ])
 go_cut [18] (fun v18 wc => ∃ (kq : Nat) (x18_2 : Bool), v18 = .bool x18_2 ∧ Aside0 (raddlelaw04_RowArity.j0 kq a0 x18_2 a1_0 a1_1 a1_2 = some r) ∧ Aside0 (kq ≤ k) ∧ Aside0 (wc.heap[gb380]? = some (.cells #[.int .i64 a1_0, .int .i64 a1_1, .string a1_2] 39 (0, 0))) ∧ Aside0 (Below w.heap.size w wc))
 case first =>
  have H := HC3.out
  clear HC3
  obtain ⟨y381, hy381⟩ : ∃ y_ : List (S39), y_ = (([(⟨a1_0, a1_1, a1_2⟩ : S39)] : List (S39))) := ⟨_, rfl⟩
  replace H : ((raddlelaw04_Heavy.f k y381).bind fun t384 => (if t384 = true then (raddlelaw04_RowArity.j0 k a0 true a1_0 a1_1 a1_2) else ((raddleref01_Value.f a1_0 a1_1 a1_2).bind fun t385 => (raddlelaw04_RowArity.j0 k a0 (!t385) a1_0 a1_1 a1_2)))) = some r := by first | (rw [hy381]; with_reducible exact H) | (have H2_ := (Option.bind_some _ _).symm.trans H; rw [hy381]; with_reducible exact H2_) | (have H2_ := (Option.bind_some _ _).symm.trans H; with_reducible exact H2_) | with_reducible exact H | (rw [hy381]; exact H) | exact H
  have Ny381 := Aside0.mk hy381
  clear hy381
  replace H := Option.bind_eq_some_iff.mp H
  obtain ⟨t384, A50, H⟩ := H
  replace H : (if t384 = true then (raddlelaw04_RowArity.j0 k a0 true a1_0 a1_1 a1_2) else ((raddleref01_Value.f a1_0 a1_1 a1_2).bind fun t385 => (raddlelaw04_RowArity.j0 k a0 (!t385) a1_0 a1_1 a1_2))) = some r := H
  have A5 := Aside0.mk A50
  clear A50
  by_cases c6 : t384 = true
  ·
   subst c6
   have H1 : (raddlelaw04_RowArity.j0 k a0 true a1_0 a1_1 a1_2) = some r := by rw [if_pos rfl] at H; exact H
   clear H
   have H := H1
   clear H1
   have H' := Aside0.mk H
   clear H
   obtain ⟨hcz7_0, hcz7_1, hcz7_2, hfz7_0, hfz7_1, hfz7_2⟩ := Short.c3 BK380.out
   go_wp2_with (first | ((with_reducible refine gate_dst (N := 12) rfl ?_); (try (refine gate_guard (by rfl) ?_; dsimp only)); refine Kd.R_lit k39 _ 39 ?hg (N := 12) ?hd (xs := ([(⟨a1_0, a1_1, a1_2⟩ : S39)] : List (S39))) (inner := [.int .i64 a1_0, .int .i64 a1_1, .string a1_2]) (ok := fun _ => True) (okp := fun _ => True) ?hr ?hp (fun _ hk => hk) trivial (Below.refl _ _) (Nat.le_refl _) (by simp) ?_; (case hd => rfl); (case hg => rfl); (case hr => first | (go_simp; done) | (go_simp; rfl)); (case hp => exact (Reps.c3 (show Kd.M k39 _ _ _ (⟨a1_0, a1_1, a1_2⟩ : S39) [.int .i64 a1_0, .int .i64 a1_1, .string a1_2] from (k39_mkM _ _ _ (⟨a1_0, a1_1, a1_2⟩ : S39) )) (Reps.none _ _))); intro v382 w8 ho9 hb hg_ hnew_; clear hg_ hnew_; (first | rw [← Ny381.out] at ho9 | (simp only [Int.reduceToNat] at ho9; rw [← Ny381.out] at ho9)); have n0_ := Aside0.mk (Kd.R_lower (Kd.R_newB ho9 (g := gb380) (o := .cells #[.int .i64 a1_0, .int .i64 a1_1, .string a1_2] 39 (0, 0)) (Short.bK BK380)) (below_size (Short.hB HB))); have n1_ := Aside0.mk (blk_below (g := gb380) (o := .cells #[.int .i64 a1_0, .int .i64 a1_1, .string a1_2] 39 (0, 0)) (Short.bK BK380) hb); have n2_ := Aside0.mk (below_step (Short.hB HB) hb); clear BK380; clear HB; have HO383 := n0_; have BK380 := n1_; have HB := n2_; clear n0_ n1_ n2_; clear hb ho9; obtain ⟨Ao10, co10, eo10⟩ := Kd.R_slice HO383.out; subst eo10) | ((with_reducible refine gate_callee (f := 17) rfl ?_); refine Short.gL (some 13) Try.func17 #[.slice Ao10 y381.length co10] (h := ?_); (with_reducible refine (raddlelaw04_Heavy.calls k _ _ y381 true _ ?side1 ?side2 A5.out).mono ?_); (case side1 => repeat (first | exact (Kd.R_reads' HO383.out).2.2 | (with_reducible refine Kd.C_alloc ?_ _) | (with_reducible refine Kd.C_drewN ?_ _) | (with_reducible refine Kd.C_drew ?_))); (case side2 => exact (Kd.R_reads' HO383.out).2.1); rintro e w' ⟨rfl, ⟨nd, rfl⟩⟩; refine ⟨_, rfl, ?_⟩))
   go_meet
   case rel => exact ⟨_, (true), (by first | rfl | (simp; done) | (simp [*]; done)), H', ⟨by first | omega | exact Nat.le_refl _⟩, ⟨by (with_reducible repeat (first | refine blk_drewN ?_ _ | refine blk_drew ?_ | refine blk_alloc ?_ _)); exact BK380.out⟩, ⟨Short.hB HB⟩⟩
  ·
   replace c6 := Bool.eq_false_iff.mpr c6
   subst c6
   have H1 : ((raddleref01_Value.f a1_0 a1_1 a1_2).bind fun t385 => (raddlelaw04_RowArity.j0 k a0 (!t385) a1_0 a1_1 a1_2)) = some r := by rw [if_neg (show ¬ (false = true) by decide)] at H; exact H
   clear H
   have H := H1
   clear H1
   replace H := Option.bind_eq_some_iff.mp H
   obtain ⟨t385, A110, H⟩ := H
   replace H : (raddlelaw04_RowArity.j0 k a0 (!t385) a1_0 a1_1 a1_2) = some r := H
   have A11 := Aside0.mk A110
   clear A110
   have H' := Aside0.mk H
   clear H
   obtain ⟨hcz12_0, hcz12_1, hcz12_2, hfz12_0, hfz12_1, hfz12_2⟩ := Short.c3 BK380.out
   go_wp2_with (first | ((with_reducible refine gate_dst (N := 12) rfl ?_); (try (refine gate_guard (by rfl) ?_; dsimp only)); refine Kd.R_lit k39 _ 39 ?hg (N := 12) ?hd (xs := ([(⟨a1_0, a1_1, a1_2⟩ : S39)] : List (S39))) (inner := [.int .i64 a1_0, .int .i64 a1_1, .string a1_2]) (ok := fun _ => True) (okp := fun _ => True) ?hr ?hp (fun _ hk => hk) trivial (Below.refl _ _) (Nat.le_refl _) (by simp) ?_; (case hd => rfl); (case hg => rfl); (case hr => first | (go_simp; done) | (go_simp; rfl)); (case hp => exact (Reps.c3 (show Kd.M k39 _ _ _ (⟨a1_0, a1_1, a1_2⟩ : S39) [.int .i64 a1_0, .int .i64 a1_1, .string a1_2] from (k39_mkM _ _ _ (⟨a1_0, a1_1, a1_2⟩ : S39) )) (Reps.none _ _))); intro v382 w13 ho14 hb hg_ hnew_; clear hg_ hnew_; (first | rw [← Ny381.out] at ho14 | (simp only [Int.reduceToNat] at ho14; rw [← Ny381.out] at ho14)); have n0_ := Aside0.mk (Kd.R_lower (Kd.R_newB ho14 (g := gb380) (o := .cells #[.int .i64 a1_0, .int .i64 a1_1, .string a1_2] 39 (0, 0)) (Short.bK BK380)) (below_size (Short.hB HB))); have n1_ := Aside0.mk (blk_below (g := gb380) (o := .cells #[.int .i64 a1_0, .int .i64 a1_1, .string a1_2] 39 (0, 0)) (Short.bK BK380) hb); have n2_ := Aside0.mk (below_step (Short.hB HB) hb); clear BK380; clear HB; have HO383 := n0_; have BK380 := n1_; have HB := n2_; clear n0_ n1_ n2_; clear hb ho14; obtain ⟨Ao15, co15, eo15⟩ := Kd.R_slice HO383.out; subst eo15) | ((with_reducible refine gate_callee (f := 17) rfl ?_); refine Short.gL (some 13) Try.func17 #[.slice Ao15 y381.length co15] (h := ?_); (with_reducible refine (raddlelaw04_Heavy.calls k _ _ y381 false _ ?side1 ?side2 A5.out).mono ?_); (case side1 => repeat (first | exact (Kd.R_reads' HO383.out).2.2 | (with_reducible refine Kd.C_alloc ?_ _) | (with_reducible refine Kd.C_drewN ?_ _) | (with_reducible refine Kd.C_drew ?_))); (case side2 => exact (Kd.R_reads' HO383.out).2.1); rintro e w' ⟨rfl, ⟨nd, rfl⟩⟩; refine ⟨_, rfl, ?_⟩; obtain ⟨hcz16_0, hcz16_1, hcz16_2, hfz16_0, hfz16_1, hfz16_2⟩ := Short.c3 BK380.out) | (go_at_call 22; (with_reducible refine (raddleref01_Value.calls a1_0 a1_1 a1_2 t385 _ A11.out).mono ?_); rintro e w17 ⟨rfl, hb⟩; have n0_ := Aside0.mk (Kd.R_below (by (with_reducible repeat (first | apply Kd.R_alloc | apply Kd.R_drewN | apply Kd.R_drew)); exact HO383.out) hb); have n1_ := Aside0.mk (blk_below (g := gb380) (o := .cells #[.int .i64 a1_0, .int .i64 a1_1, .string a1_2] 39 (0, 0)) (Short.bK BK380) hb); have n2_ := Aside0.mk (below_step (Short.hB HB) hb); clear HO383; clear BK380; clear HB; have HO383 := n0_; have BK380 := n1_; have HB := n2_; clear n0_ n1_ n2_; (try clear hb); (try clear hb2); (try clear hk); (try clear hi)))
   go_meet
   case rel => exact ⟨_, (!t385), (by first | rfl | (simp; done) | (simp [*]; done)), H', ⟨by first | omega | exact Nat.le_refl _⟩, ⟨by (with_reducible repeat (first | refine blk_drewN ?_ _ | refine blk_drew ?_ | refine blk_alloc ?_ _)); exact BK380.out⟩, ⟨Short.hB HB⟩⟩
 case rest => as_aux_lemma =>
  clear HC3
  try clear c1
  try clear p2
  try clear c3
  try clear c6
  try clear c17
  try clear hcz12_0
  try clear hcz12_1
  try clear hcz12_2
  try clear hcz16_0
  try clear hcz16_1
  try clear hcz16_2
  try clear hcz7_0
  try clear hcz7_1
  try clear hcz7_2
  try clear hfz12_0
  try clear hfz12_1
  try clear hfz12_2
  try clear hfz16_0
  try clear hfz16_1
  try clear hfz16_2
  try clear hfz7_0
  try clear hfz7_1
  try clear hfz7_2
  obtain ⟨kq, x18_2, rfl, HA, HJ2, BK380, HB⟩ := hcut
  cases kq with
  | zero => exact absurd HA.out (by simp [raddlelaw04_RowArity.j0])
  | succ kj2 =>
   have H := HA.out
   clear HA
   simp only [raddlelaw04_RowArity.j0] at H
   by_cases c18 : x18_2 = true
   ·
    subst c18
    have H1 : (some true) = some r := by rw [if_pos rfl] at H; exact H
    clear H
    have H := H1
    clear H1
    obtain rfl := Option.some.inj H
    go_wp2
    go_ret
    exact ⟨by first | rfl | (simp [errW_none, errW_some] <;> rfl) | (simp [*, errW_none, errW_some] <;> rfl), Short.hB HB⟩
   ·
    replace c18 := Bool.eq_false_iff.mpr c18
    subst c18
    have H1 : (raddlelaw04_RowArity.l0 kj2 (wrap64 (11 + (wrap64 (Int.tmod (IntKind.u64.wrap (a0)) 3)))) ([] : List (S39)) 0 a1_0 a1_1 a1_2) = some r := by rw [if_neg (show ¬ (false = true) by decide)] at H; exact H
    clear H
    have H := H1
    clear H1
    have H' := Aside0.mk H
    clear H
    go_wp2
    go_loopg [5, 6] kj2 (fun kq v5 v6 w' => ∃ (x5_2 : List (S39)) (x6_2 : Int), v6 = .int .i64 x6_2 ∧ Aside0 (raddlelaw04_RowArity.l0 kq (wrap64 (11 + (wrap64 (Int.tmod (IntKind.u64.wrap (a0)) 3)))) x5_2 x6_2 a1_0 a1_1 a1_2 = some r) ∧ Aside0 (kq ≤ kj2) ∧ Aside0 (Kd.R k39 39 w' w.heap.size (fun k_ => k_ ≠ gb380) v5 x5_2) ∧ Aside0 (w'.heap[gb380]? = some (.cells #[.int .i64 a1_0, .int .i64 a1_1, .string a1_2] 39 (0, 0))) ∧ Aside0 (Below w.heap.size w w'))
    case atStart => exact ⟨(([] : List (S39))), (0), (by first | rfl | (simp; done) | (simp [*]; done)), H', ⟨Nat.le_refl _⟩, ⟨by first | exact Kd.R_nil _ _ _ _ _ | exact Kd.N_nil _ _ _ _ _ | exact Kd.V_nil _ _ _ _ _ | exact Kd.Q_nil _ _ _ _ _ | exact Kd.S_nil _ _ _ _ _⟩, ⟨by (with_reducible repeat (first | refine blk_drewN ?_ _ | refine blk_drew ?_ | refine blk_alloc ?_ _)); exact BK380.out⟩, ⟨Short.hB HB⟩⟩
    case round =>
     clear H'
     try clear c1
     try clear p2
     try clear c3
     try clear c6
     try clear p6
     try clear c17
     try clear c18
     try clear hcz12_0
     try clear hcz12_1
     try clear hcz12_2
     try clear hcz16_0
     try clear hcz16_1
     try clear hcz16_2
     try clear hcz7_0
     try clear hcz7_1
     try clear hcz7_2
     try clear hfz12_0
     try clear hfz12_1
     try clear hfz12_2
     try clear hfz16_0
     try clear hfz16_1
     try clear hfz16_2
     try clear hfz7_0
     try clear hfz7_1
     try clear hfz7_2
     try clear p2
     obtain ⟨x5_2, x6_2, rfl, HA, HK2, HO_5, BK380, HB⟩ := hrel
     cases gk with
     | zero => exact absurd HA.out (by simp [raddlelaw04_RowArity.l0])
     | succ k2 =>
      have H := HA.out
      clear HA
      simp only [raddlelaw04_RowArity.l0] at H
      by_cases c19 : x6_2 < (wrap64 (11 + (wrap64 (Int.tmod (IntKind.u64.wrap (a0)) 3))))
      ·
       rw [if_pos c19] at H
       have c19b0 : decide (x6_2 < (wrap64 (11 + (wrap64 (Int.tmod (IntKind.u64.wrap (a0)) 3))))) = true := decide_eq_true c19
       clear c19
       by_cases c20 : x5_2.length < 4398046511104
       ·
        rw [if_pos c20] at H
        have LMc20 := Aside0.mk c20
        clear c20
        obtain ⟨y386, hy386⟩ : ∃ y_ : List (S39), y_ = (x5_2 ++ [(⟨a1_0, a1_1, a1_2⟩ : S39)]) := ⟨_, rfl⟩
        replace H : (raddlelaw04_RowArity.l0 k2 (wrap64 (11 + (wrap64 (Int.tmod (IntKind.u64.wrap (a0)) 3)))) y386 (wrap64 (x6_2 + 1)) a1_0 a1_1 a1_2) = some r := by first | (rw [hy386]; with_reducible exact H) | (have H2_ := (Option.bind_some _ _).symm.trans H; rw [hy386]; with_reducible exact H2_) | (have H2_ := (Option.bind_some _ _).symm.trans H; with_reducible exact H2_) | with_reducible exact H | (rw [hy386]; exact H) | exact H
        have Ny386 := Aside0.mk hy386
        clear hy386
        have H' := Aside0.mk H
        clear H
        obtain ⟨hcz21_0, hcz21_1, hcz21_2, hfz21_0, hfz21_1, hfz21_2⟩ := Short.c3 BK380.out
        go_wp2_with (first | ((with_reducible refine gate_builtin (b := .append) (xs := #[.tmp 29, .tmp 31]) rfl ?_); (try (refine gate_guard (by rfl) ?_; dsimp only)); at_builtin; refine Kd.R_append k39 (w0 := w) w.heap.size rfl (.tmp 29) (.tmp 31) 24 39 (.agg #[(.int .i64 0), (.int .i64 0), (.string ⟨#[]⟩)]) 32 rfl Try.underlying24 info39 rfl (by decide) (by omega) u5 x5_2 (⟨a1_0, a1_1, a1_2⟩ : S39) [.int .i64 a1_0, .int .i64 a1_1, .string a1_2] (fun k_ => k_ ≠ gb380) (fun _ => False) rfl rfl ?aP (fun _ hk => hk.elim) ?aF ?aO ?aB ?aS ?aL ?_; (case aP => exact k39_mkM _ _ _ (⟨a1_0, a1_1, a1_2⟩ : S39)); (case aB => exact (Short.hB HB)); (case aF => exact (fun k_ hk => Kd.freshB (g := gb380) (o := .cells #[.int .i64 a1_0, .int .i64 a1_1, .string a1_2] 39 (0, 0)) (Short.bK BK380) k_ hk)); (case aO => exact (by (with_reducible repeat (first | apply Kd.R_alloc | apply Kd.R_drewN | apply Kd.R_drew)); exact HO_5.out)); (case aS => exact (below_size (Short.hB HB))); (case aL => have := LMc20.out; omega); intro v387 w22 ho hb hg hat; rw [← Ny386.out] at ho; have n0_ := Aside0.mk (blk_grown (g := gb380) (o := .cells #[.int .i64 a1_0, .int .i64 a1_1, .string a1_2] 39 (0, 0)) (Short.bK BK380) hg (Kd.R_away HO_5.out (fun _ hk => hk))); have n1_ := Aside0.mk (hb); have n2_ := Aside0.mk (ho); clear BK380; clear HB; clear HO_5; have BK380 := n0_; have HB := n1_; have HO388 := n2_; clear n0_ n1_ n2_; clear ho hb hg hat))
        go_roundg k2
        case measure => have := HJ2.out; have := HK2.out; omega
        case rel => exact ⟨(y386), (wrap64 (x6_2 + 1)), (by first | rfl | (simp; done) | (simp [*]; done)), H', ⟨by have := HJ2.out; have := HK2.out; omega⟩, ⟨by (with_reducible repeat (first | apply Kd.R_alloc | apply Kd.R_drewN | apply Kd.R_drew)); exact HO388.out⟩, ⟨by (with_reducible repeat (first | refine blk_drewN ?_ _ | refine blk_drew ?_ | refine blk_alloc ?_ _)); exact BK380.out⟩, ⟨Short.hB HB⟩⟩
       ·
        rw [if_neg c20] at H
        exact absurd H (by simp)
      ·
       rw [if_neg c19] at H
       have c19b0 : decide (x6_2 < (wrap64 (11 + (wrap64 (Int.tmod (IntKind.u64.wrap (a0)) 3))))) = false := decide_eq_false c19
       clear c19
       replace H := Option.bind_eq_some_iff.mp H
       obtain ⟨⟨t389, t390⟩, A230, H⟩ := H
       replace H : (if 0 ≤ (wrap64 (11 + (wrap64 (Int.tmod (IntKind.u64.wrap (a0)) 3)))) then (if ((wrap64 (11 + (wrap64 (Int.tmod (IntKind.u64.wrap (a0)) 3)))) : Int).toNat ≤ 35184372088832 then ((row_Pick.f k2 (([(⟨a1_0, a1_1, a1_2⟩ : S39)] : List (S39))) (List.replicate ((wrap64 (11 + (wrap64 (Int.tmod (IntKind.u64.wrap (a0)) 3)))) : Int).toNat 0)).bind fun bt399 => (if (wrap64 (11 + (wrap64 (Int.tmod (IntKind.u64.wrap (a0)) 3)))) > 12 then ((row_Check.f k2 x5_2).bind fun t403 => (if t403 = 2 then (if t390 = 2 then (if bt399.2 = 2 then (if (wrap64 ((t389.length : Int) + (bt399.1.length : Int))) = 0 then ((raddlelaw04_wakes.f k2).bind fun t404 => (some t404)) else (some false)) else (some false)) else (some false)) else (some false))) else ((row_Check.f k2 x5_2).bind fun t405 => (if t405 = 0 then (if t390 = 0 then (if bt399.2 = 0 then ((raddlekeep_Row.f k2 bt399.1 x5_2).bind fun t406 => (if t406 = true then ((raddlelaw04_wakes.f k2).bind fun t407 => (some t407)) else (some false))) else (some false)) else (some false)) else (some false))))) else (none)) else (none)) = some r := H
       have A23 := Aside0.mk A230
       clear A230
       obtain ⟨y393, hy393⟩ : ∃ y_ : List (S39), y_ = (([(⟨a1_0, a1_1, a1_2⟩ : S39)] : List (S39))) := ⟨_, rfl⟩
       replace H : (if 0 ≤ (wrap64 (11 + (wrap64 (Int.tmod (IntKind.u64.wrap (a0)) 3)))) then (if ((wrap64 (11 + (wrap64 (Int.tmod (IntKind.u64.wrap (a0)) 3)))) : Int).toNat ≤ 35184372088832 then ((row_Pick.f k2 y393 (List.replicate ((wrap64 (11 + (wrap64 (Int.tmod (IntKind.u64.wrap (a0)) 3)))) : Int).toNat 0)).bind fun bt399 => (if (wrap64 (11 + (wrap64 (Int.tmod (IntKind.u64.wrap (a0)) 3)))) > 12 then ((row_Check.f k2 x5_2).bind fun t403 => (if t403 = 2 then (if t390 = 2 then (if bt399.2 = 2 then (if (wrap64 ((t389.length : Int) + (bt399.1.length : Int))) = 0 then ((raddlelaw04_wakes.f k2).bind fun t404 => (some t404)) else (some false)) else (some false)) else (some false)) else (some false))) else ((row_Check.f k2 x5_2).bind fun t405 => (if t405 = 0 then (if t390 = 0 then (if bt399.2 = 0 then ((raddlekeep_Row.f k2 bt399.1 x5_2).bind fun t406 => (if t406 = true then ((raddlelaw04_wakes.f k2).bind fun t407 => (some t407)) else (some false))) else (some false)) else (some false)) else (some false))))) else (none)) else (none)) = some r := by first | (rw [hy393]; with_reducible exact H) | (have H2_ := (Option.bind_some _ _).symm.trans H; rw [hy393]; with_reducible exact H2_) | (have H2_ := (Option.bind_some _ _).symm.trans H; with_reducible exact H2_) | with_reducible exact H | (rw [hy393]; exact H) | exact H
       have Ny393 := Aside0.mk hy393
       clear hy393
       obtain ⟨ji24, hji24⟩ : ∃ j_ : Int, (wrap64 (11 + (wrap64 (Int.tmod (IntKind.u64.wrap (a0)) 3)))) = j_ := ⟨_, rfl⟩
       replace H : (if 0 ≤ (ji24) then (if ((ji24) : Int).toNat ≤ 35184372088832 then ((row_Pick.f k2 y393 (List.replicate ((ji24) : Int).toNat 0)).bind fun bt399 => (if (ji24) > 12 then ((row_Check.f k2 x5_2).bind fun t403 => (if t403 = 2 then (if t390 = 2 then (if bt399.2 = 2 then (if (wrap64 ((t389.length : Int) + (bt399.1.length : Int))) = 0 then ((raddlelaw04_wakes.f k2).bind fun t404 => (some t404)) else (some false)) else (some false)) else (some false)) else (some false))) else ((row_Check.f k2 x5_2).bind fun t405 => (if t405 = 0 then (if t390 = 0 then (if bt399.2 = 0 then ((raddlekeep_Row.f k2 bt399.1 x5_2).bind fun t406 => (if t406 = true then ((raddlelaw04_wakes.f k2).bind fun t407 => (some t407)) else (some false))) else (some false)) else (some false)) else (some false))))) else (none)) else (none)) = some r := by first | (rw [hji24] at H; exact H) | (simp only [hji24] at H ⊢; exact H)
       (try rw [hji24] at c19b0)
       (try rw [hji24] at A23)
       have hji24w : (IntKind.i64.wrap (11 + (wrap64 (Int.tmod (IntKind.u64.wrap (a0)) 3)))) = ji24 := (i64_w _).trans hji24
       by_cases c25 : 0 ≤ (ji24)
       ·
        rw [if_pos c25] at H
        have c25b0 := eq_true c25
        have c25b1 : decide (0 ≤ (ji24)) = true := decide_eq_true c25
        clear c25
        by_cases c26 : ((ji24) : Int).toNat ≤ 35184372088832
        ·
         rw [if_pos c26] at H
         have c26b0 := eq_true c26
         have c26b1 : decide (((ji24) : Int).toNat ≤ 35184372088832) = true := decide_eq_true c26
         clear c26
         obtain ⟨y396, hy396⟩ : ∃ y_ : List Int, y_ = (List.replicate ((ji24) : Int).toNat 0) := ⟨_, rfl⟩
         replace H : ((row_Pick.f k2 y393 y396).bind fun bt399 => (if (ji24) > 12 then ((row_Check.f k2 x5_2).bind fun t403 => (if t403 = 2 then (if t390 = 2 then (if bt399.2 = 2 then (if (wrap64 ((t389.length : Int) + (bt399.1.length : Int))) = 0 then ((raddlelaw04_wakes.f k2).bind fun t404 => (some t404)) else (some false)) else (some false)) else (some false)) else (some false))) else ((row_Check.f k2 x5_2).bind fun t405 => (if t405 = 0 then (if t390 = 0 then (if bt399.2 = 0 then ((raddlekeep_Row.f k2 bt399.1 x5_2).bind fun t406 => (if t406 = true then ((raddlelaw04_wakes.f k2).bind fun t407 => (some t407)) else (some false))) else (some false)) else (some false)) else (some false))))) = some r := by first | (rw [hy396]; with_reducible exact H) | (have H2_ := (Option.bind_some _ _).symm.trans H; rw [hy396]; with_reducible exact H2_) | (have H2_ := (Option.bind_some _ _).symm.trans H; with_reducible exact H2_) | with_reducible exact H | (rw [hy396]; exact H) | exact H
         have Ny396 := Aside0.mk hy396
         clear hy396
         replace H := Option.bind_eq_some_iff.mp H
         obtain ⟨⟨t399, t400⟩, A270, H⟩ := H
         replace H : (if (ji24) > 12 then ((row_Check.f k2 x5_2).bind fun t403 => (if t403 = 2 then (if t390 = 2 then (if t400 = 2 then (if (wrap64 ((t389.length : Int) + (t399.length : Int))) = 0 then ((raddlelaw04_wakes.f k2).bind fun t404 => (some t404)) else (some false)) else (some false)) else (some false)) else (some false))) else ((row_Check.f k2 x5_2).bind fun t405 => (if t405 = 0 then (if t390 = 0 then (if t400 = 0 then ((raddlekeep_Row.f k2 t399 x5_2).bind fun t406 => (if t406 = true then ((raddlelaw04_wakes.f k2).bind fun t407 => (some t407)) else (some false))) else (some false)) else (some false)) else (some false)))) = some r := H
         have A27 := Aside0.mk A270
         clear A270
         by_cases c28 : (ji24) > 12
         ·
          rw [if_pos c28] at H
          have c28b0 : decide (12 < (ji24)) = true := decide_eq_true c28
          clear c28
          replace H := Option.bind_eq_some_iff.mp H
          obtain ⟨t403, A290, H⟩ := H
          replace H : (if t403 = 2 then (if t390 = 2 then (if t400 = 2 then (if (wrap64 ((t389.length : Int) + (t399.length : Int))) = 0 then ((raddlelaw04_wakes.f k2).bind fun t404 => (some t404)) else (some false)) else (some false)) else (some false)) else (some false)) = some r := H
          have A29 := Aside0.mk A290
          clear A290
          by_cases c30 : t403 = 2
          ·
           rw [if_pos c30] at H
           have c30b0 : (t403 == 2) = true := beq_iff_eq.mpr c30
           have c30b1 : (t403 != 2) = false := bne_eq_false_iff_eq.mpr c30
           clear c30
           by_cases c31 : t390 = 2
           ·
            rw [if_pos c31] at H
            have c31b0 : (t390 == 2) = true := beq_iff_eq.mpr c31
            have c31b1 : (t390 != 2) = false := bne_eq_false_iff_eq.mpr c31
            clear c31
            by_cases c32 : t400 = 2
            ·
             rw [if_pos c32] at H
             have c32b0 : (t400 == 2) = true := beq_iff_eq.mpr c32
             have c32b1 : (t400 != 2) = false := bne_eq_false_iff_eq.mpr c32
             clear c32
             by_cases c33 : (wrap64 ((t389.length : Int) + (t399.length : Int))) = 0
             ·
              rw [if_pos c33] at H
              have c33b0 : ((wrap64 ((t389.length : Int) + (t399.length : Int))) == 0) = true := beq_iff_eq.mpr c33
              have c33b1 : ((wrap64 ((t389.length : Int) + (t399.length : Int))) != 0) = false := bne_eq_false_iff_eq.mpr c33
              clear c33
              replace H := Option.bind_eq_some_iff.mp H
              obtain ⟨t404, A340, H⟩ := H
              replace H : (some t404) = some r := H
              have A34 := Aside0.mk A340
              clear A340
              obtain rfl := Option.some.inj H
              obtain ⟨Ao35, co35, eo35⟩ := Kd.R_slice HO_5.out
              subst eo35
              try go_wp2_with (first | ((with_reducible refine gate_callee (f := 16) rfl ?_); refine Short.gL (some 35) Try.func16 #[.slice Ao35 x5_2.length co35] (h := ?_); (with_reducible refine (row_Bytes.calls k2 _ _ x5_2 t389 t390 _ ?side1 ?side2 A23.out).mono ?_); (case side1 => repeat (first | exact (Kd.R_reads' HO_5.out).2.2 | (with_reducible refine Kd.C_alloc ?_ _) | (with_reducible refine Kd.C_drewN ?_ _) | (with_reducible refine Kd.C_drew ?_))); (case side2 => exact (Kd.R_reads' HO_5.out).2.1); rintro e w36 ⟨v391, rfl, ho0, hb⟩; refine ⟨_, rfl, ?_⟩; have n0_ := Aside0.mk (Kd.R_below (by (with_reducible repeat (first | apply Kd.R_alloc | apply Kd.R_drewN | apply Kd.R_drew)); exact HO_5.out) hb); have n1_ := Aside0.mk (Kd.R_lower ho0 (below_size (Short.hB HB))); have n2_ := Aside0.mk (blk_below (g := gb380) (o := .cells #[.int .i64 a1_0, .int .i64 a1_1, .string a1_2] 39 (0, 0)) (Short.bK BK380) hb); have n3_ := Aside0.mk (below_step (Short.hB HB) hb); clear HO_5; clear BK380; clear HB; have HO_5 := n0_; have HO392 := n1_; have BK380 := n2_; have HB := n3_; clear n0_ n1_ n2_ n3_; (try clear hb); (try clear hb2); (try clear hk); (try clear hi); (try clear ho0)))
              have n0_ := Aside0.mk (Kd.R_drew HO_5.out)
              have n1_ := Aside0.mk (Kd.R_drew HO392.out)
              have n2_ := Aside0.mk (blk_drew BK380.out)
              have n3_ := Aside0.mk (below_drew1 HB.out)
              clear HO_5
              clear HO392
              clear BK380
              clear HB
              have HO_5 := n0_
              have HO392 := n1_
              have BK380 := n2_
              have HB := n3_
              clear n0_ n1_ n2_ n3_
              refine start_ (n := 10) (S := fun w' => w'.cell? ⟨gb380, 0, none⟩ = some (.int .i64 a1_0) ∧ w'.cell? ⟨gb380, 1, none⟩ = some (.int .i64 a1_1) ∧ w'.cell? ⟨gb380, 2, none⟩ = some (.string a1_2)) (ds := []) #[false, false, false, false, false, false, false, false, false, false] (by kernel_rfl) rfl rfl ⟨(blk_cell BK380.out 0).trans rfl, (blk_cell BK380.out 1).trans rfl, (blk_cell BK380.out 2).trans rfl⟩ (fun hHeld => ?_); refine with_tabW raddlelaw04_RowArity.tab10 raddlelaw04_RowArity.bits10 (fun HT_ HW_ => ?_)
              generalize w36.drew = w37 at HO_5 HO392 BK380 HB hHeld ⊢
              refine Steps.pI_ 2 (some 41) (Steps.Bs 10 4) (any_of HT_.out (by kernel_rfl)) (h := ?_)
              refine Steps.tI_ 0 (some 39) (Steps.Bs 10 5) (take_ofW HT_.out HW_.out (by kernel_rfl)) hHeld (h := ?_)
              refine join_ (σ := Value × Value) 6 (Steps.Bs 10 15) (fun s_ => [(40, s_.1), (42, s_.2)]) (fun s_ w' => (w'.cell? ⟨gb380, 0, none⟩ = some (.int .i64 a1_0) ∧ w'.cell? ⟨gb380, 1, none⟩ = some (.int .i64 a1_1) ∧ w'.cell? ⟨gb380, 2, none⟩ = some (.string a1_2)) ∧ (Kd.R (Kd.int .u8) 5 w' w.heap.size (fun _ => True) v391 t389) ∧ (Kd.R k39 39 w' w.heap.size (fun k_ => some k_ ≠ (.slice Ao35 x5_2.length co35 : Value).ownBlock ∧ k_ ≠ gb380) s_.1 y393) ∧ (Kd.R (Kd.int .i64) 3 w' w.heap.size (fun _ => True) s_.2 y396) ∧ (Kd.R k39 39 w' w.heap.size (fun k_ => some k_ ≠ (s_.1 : Value).ownBlock ∧ k_ ≠ gb380) (.slice Ao35 x5_2.length co35) x5_2) ∧ (w'.heap[gb380]? = some (.cells #[.int .i64 a1_0, .int .i64 a1_1, .string a1_2] 39 (0, 0))) ∧ (Below w.heap.size w w')) ?_ ?_
              rotate_left
              ·
               intro hCont
               refine two_ (i := 1) (j := 3) (Ni := some 40) (Nj := some 42) (Steps.Bs 10 7) (Steps.Bs 10 13) rfl rfl rfl rfl (two_of HT_.out (by kernel_rfl)) (by decide) (by decide) (fun K hK => ?_) (fun K hK => ?_)
               ·
                skip
                refine Kd.R_lit_step k39 _ 39 ?hg (N := 40) ?hd (xs := ([(⟨a1_0, a1_1, a1_2⟩ : S39)] : List (S39))) (inner := [.int .i64 a1_0, .int .i64 a1_1, .string a1_2]) (ok := fun _ => True) (okp := fun _ => True) ?hr ?hp (fun _ hk => hk) trivial (Below.refl _ _) (Nat.le_refl _) (by simp) ?_; (case hd => rfl); (case hg => rfl); (case hr => first | (go_simp; done) | (go_simp; rfl)); (case hp => exact (Reps.c3 (show Kd.M k39 _ _ _ (⟨a1_0, a1_1, a1_2⟩ : S39) [.int .i64 a1_0, .int .i64 a1_1, .string a1_2] from (k39_mkM _ _ _ (⟨a1_0, a1_1, a1_2⟩ : S39) )) (Reps.none _ _)))
                intro v394 w38 ho39 hb hg_ hnew_
                clear hg_ hnew_
                (first | rw [← Ny393.out] at ho39 | (simp only [Int.reduceToNat] at ho39; rw [← Ny393.out] at ho39))
                have n0_ := Aside0.mk (Kd.R_elder' (by (with_reducible repeat (first | apply Kd.R_alloc | apply Kd.R_drewN | apply Kd.R_drew)); exact HO_5.out) (Kd.R_base ho39) hb)
                have n1_ := Aside0.mk (Kd.R_below (by (with_reducible repeat (first | apply Kd.R_alloc | apply Kd.R_drewN | apply Kd.R_drew)); exact HO392.out) hb)
                have n2_ := Aside0.mk (Kd.R_lower (Kd.R_newB (Kd.R_new' ho39 (Kd.R_lt (by (with_reducible repeat (first | apply Kd.R_alloc | apply Kd.R_drewN | apply Kd.R_drew)); exact HO_5.out))) (g := gb380) (o := .cells #[.int .i64 a1_0, .int .i64 a1_1, .string a1_2] 39 (0, 0)) (Short.bK BK380)) (below_size (Short.hB HB)))
                have n3_ := Aside0.mk (blk_below (g := gb380) (o := .cells #[.int .i64 a1_0, .int .i64 a1_1, .string a1_2] 39 (0, 0)) (Short.bK BK380) hb)
                have n4_ := Aside0.mk (below_step (Short.hB HB) hb)
                clear HO_5
                clear HO392
                clear BK380
                clear HB
                have HO_5 := n0_
                have HO392 := n1_
                have HO395 := n2_
                have BK380 := n3_
                have HB := n4_
                clear n0_ n1_ n2_ n3_ n4_
                clear hb ho39
                refine hK.out _ _ ⟨(blk_cell BK380.out 0).trans rfl, (blk_cell BK380.out 1).trans rfl, (blk_cell BK380.out 2).trans rfl⟩ (fun hHeld => ?_)
                clear hK K
                refine norm_ (a' := ?_) ?_ ?_
                rotate_left
                ·
                 show Act.put _ (some 40) _ = _
                 simp only [Act.put, List.setIfInBounds_toArray, List.set_cons_zero, List.set_cons_succ, i64_w, i32_w]
                 rfl
                refine one_ (i := 3) (N := some 42) (Steps.Bs 10 15) rfl rfl (one_of HT_.out (by kernel_rfl)) (by decide) (fun K hK => ?_)
                refine Kd.R_make_step (Kd.int .i64) _ 3 (by rfl) (N := 42) rfl 47 _ _ rfl (ji24) rfl rfl Try.underlying47 (.int .i64 0) 8 info3 rfl (by decide) (by omega) 0 (ok := fun _ => True) (okp := fun _ => True) rfl (fun _ hk => hk) trivial (of_decide_eq_true (by first | (with_reducible assumption) | assumption)) (Nat.le_trans (Nat.mul_le_mul_right _ (of_decide_eq_true (by first | (with_reducible assumption) | assumption) : (ji24).toNat ≤ 35184372088832)) (by omega)) (Below.refl _ _) (Nat.le_refl _) ?_
                intro v397 w40 ho41 hb hg_ hnew_
                clear hg_ hnew_
                (first | rw [← Ny396.out] at ho41 | (simp only [Int.reduceToNat] at ho41; rw [← Ny396.out] at ho41))
                have n0_ := Aside0.mk (Kd.R_below (by (with_reducible repeat (first | apply Kd.R_alloc | apply Kd.R_drewN | apply Kd.R_drew)); exact HO_5.out) hb)
                have n1_ := Aside0.mk (Kd.R_below (by (with_reducible repeat (first | apply Kd.R_alloc | apply Kd.R_drewN | apply Kd.R_drew)); exact HO392.out) hb)
                have n2_ := Aside0.mk (Kd.R_below (by (with_reducible repeat (first | apply Kd.R_alloc | apply Kd.R_drewN | apply Kd.R_drew)); exact HO395.out) hb)
                have n3_ := Aside0.mk (Kd.R_lower ho41 (below_size (Short.hB HB)))
                have n4_ := Aside0.mk (blk_below (g := gb380) (o := .cells #[.int .i64 a1_0, .int .i64 a1_1, .string a1_2] 39 (0, 0)) (Short.bK BK380) hb)
                have n5_ := Aside0.mk (below_step (Short.hB HB) hb)
                clear HO_5
                clear HO392
                clear HO395
                clear BK380
                clear HB
                have HO_5 := n0_
                have HO392 := n1_
                have HO395 := n2_
                have HO398 := n3_
                have BK380 := n4_
                have HB := n5_
                clear n0_ n1_ n2_ n3_ n4_ n5_
                clear hb ho41
                refine hK.out _ _ ⟨(blk_cell BK380.out 0).trans rfl, (blk_cell BK380.out 1).trans rfl, (blk_cell BK380.out 2).trans rfl⟩ (fun hHeld => ?_)
                clear hK K
                refine norm_ (a' := ?_) ?_ ?_
                rotate_left
                ·
                 show Act.put _ (some 42) _ = _
                 simp only [Act.put, List.setIfInBounds_toArray, List.set_cons_zero, List.set_cons_succ, i64_w, i32_w]
                 rfl
                exact norm_ (by simp only [putAll, Act.put, List.setIfInBounds_toArray, List.set_cons_zero, List.set_cons_succ]) (hCont (v394, v397) _ ⟨hHeld, (by (with_reducible repeat (first | apply Kd.R_alloc | apply Kd.R_drewN | apply Kd.R_drew)); exact HO392.out), (by (with_reducible repeat (first | apply Kd.R_alloc | apply Kd.R_drewN | apply Kd.R_drew)); exact Kd.R_mono HO395.out (fun _ hk => ⟨hk.1.2, hk.2⟩)), (by (with_reducible repeat (first | apply Kd.R_alloc | apply Kd.R_drewN | apply Kd.R_drew)); exact HO398.out), (by (with_reducible repeat (first | apply Kd.R_alloc | apply Kd.R_drewN | apply Kd.R_drew)); exact Kd.R_mono HO_5.out (fun _ hk => ⟨hk.2, hk.1⟩)), (Short.bK BK380), (Short.hB HB)⟩)
               ·
                skip
                refine Kd.R_make_step (Kd.int .i64) _ 3 (by rfl) (N := 42) rfl 47 _ _ rfl (ji24) rfl rfl Try.underlying47 (.int .i64 0) 8 info3 rfl (by decide) (by omega) 0 (ok := fun _ => True) (okp := fun _ => True) rfl (fun _ hk => hk) trivial (of_decide_eq_true (by first | (with_reducible assumption) | assumption)) (Nat.le_trans (Nat.mul_le_mul_right _ (of_decide_eq_true (by first | (with_reducible assumption) | assumption) : (ji24).toNat ≤ 35184372088832)) (by omega)) (Below.refl _ _) (Nat.le_refl _) ?_
                intro v397 w38 ho39 hb hg_ hnew_
                clear hg_ hnew_
                (first | rw [← Ny396.out] at ho39 | (simp only [Int.reduceToNat] at ho39; rw [← Ny396.out] at ho39))
                have n0_ := Aside0.mk (Kd.R_below (by (with_reducible repeat (first | apply Kd.R_alloc | apply Kd.R_drewN | apply Kd.R_drew)); exact HO_5.out) hb)
                have n1_ := Aside0.mk (Kd.R_below (by (with_reducible repeat (first | apply Kd.R_alloc | apply Kd.R_drewN | apply Kd.R_drew)); exact HO392.out) hb)
                have n2_ := Aside0.mk (Kd.R_lower ho39 (below_size (Short.hB HB)))
                have n3_ := Aside0.mk (blk_below (g := gb380) (o := .cells #[.int .i64 a1_0, .int .i64 a1_1, .string a1_2] 39 (0, 0)) (Short.bK BK380) hb)
                have n4_ := Aside0.mk (below_step (Short.hB HB) hb)
                clear HO_5
                clear HO392
                clear BK380
                clear HB
                have HO_5 := n0_
                have HO392 := n1_
                have HO398 := n2_
                have BK380 := n3_
                have HB := n4_
                clear n0_ n1_ n2_ n3_ n4_
                clear hb ho39
                refine hK.out _ _ ⟨(blk_cell BK380.out 0).trans rfl, (blk_cell BK380.out 1).trans rfl, (blk_cell BK380.out 2).trans rfl⟩ (fun hHeld => ?_)
                clear hK K
                refine norm_ (a' := ?_) ?_ ?_
                rotate_left
                ·
                 show Act.put _ (some 42) _ = _
                 simp only [Act.put, List.setIfInBounds_toArray, List.set_cons_zero, List.set_cons_succ, i64_w, i32_w]
                 rfl
                refine one_ (i := 1) (N := some 40) (Steps.Bs 10 15) rfl rfl (one_of HT_.out (by kernel_rfl)) (by decide) (fun K hK => ?_)
                refine Kd.R_lit_step k39 _ 39 ?hg (N := 40) ?hd (xs := ([(⟨a1_0, a1_1, a1_2⟩ : S39)] : List (S39))) (inner := [.int .i64 a1_0, .int .i64 a1_1, .string a1_2]) (ok := fun _ => True) (okp := fun _ => True) ?hr ?hp (fun _ hk => hk) trivial (Below.refl _ _) (Nat.le_refl _) (by simp) ?_; (case hd => rfl); (case hg => rfl); (case hr => first | (go_simp; done) | (go_simp; rfl)); (case hp => exact (Reps.c3 (show Kd.M k39 _ _ _ (⟨a1_0, a1_1, a1_2⟩ : S39) [.int .i64 a1_0, .int .i64 a1_1, .string a1_2] from (k39_mkM _ _ _ (⟨a1_0, a1_1, a1_2⟩ : S39) )) (Reps.none _ _)))
                intro v394 w40 ho41 hb hg_ hnew_
                clear hg_ hnew_
                (first | rw [← Ny393.out] at ho41 | (simp only [Int.reduceToNat] at ho41; rw [← Ny393.out] at ho41))
                have n0_ := Aside0.mk (Kd.R_elder' (by (with_reducible repeat (first | apply Kd.R_alloc | apply Kd.R_drewN | apply Kd.R_drew)); exact HO_5.out) (Kd.R_base ho41) hb)
                have n1_ := Aside0.mk (Kd.R_below (by (with_reducible repeat (first | apply Kd.R_alloc | apply Kd.R_drewN | apply Kd.R_drew)); exact HO392.out) hb)
                have n2_ := Aside0.mk (Kd.R_below (by (with_reducible repeat (first | apply Kd.R_alloc | apply Kd.R_drewN | apply Kd.R_drew)); exact HO398.out) hb)
                have n3_ := Aside0.mk (Kd.R_lower (Kd.R_newB (Kd.R_new' ho41 (Kd.R_lt (by (with_reducible repeat (first | apply Kd.R_alloc | apply Kd.R_drewN | apply Kd.R_drew)); exact HO_5.out))) (g := gb380) (o := .cells #[.int .i64 a1_0, .int .i64 a1_1, .string a1_2] 39 (0, 0)) (Short.bK BK380)) (below_size (Short.hB HB)))
                have n4_ := Aside0.mk (blk_below (g := gb380) (o := .cells #[.int .i64 a1_0, .int .i64 a1_1, .string a1_2] 39 (0, 0)) (Short.bK BK380) hb)
                have n5_ := Aside0.mk (below_step (Short.hB HB) hb)
                clear HO_5
                clear HO392
                clear HO398
                clear BK380
                clear HB
                have HO_5 := n0_
                have HO392 := n1_
                have HO398 := n2_
                have HO395 := n3_
                have BK380 := n4_
                have HB := n5_
                clear n0_ n1_ n2_ n3_ n4_ n5_
                clear hb ho41
                refine hK.out _ _ ⟨(blk_cell BK380.out 0).trans rfl, (blk_cell BK380.out 1).trans rfl, (blk_cell BK380.out 2).trans rfl⟩ (fun hHeld => ?_)
                clear hK K
                refine norm_ (a' := ?_) ?_ ?_
                rotate_left
                ·
                 show Act.put _ (some 40) _ = _
                 simp only [Act.put, List.setIfInBounds_toArray, List.set_cons_zero, List.set_cons_succ, i64_w, i32_w]
                 rfl
                exact norm_ (by simp only [putAll, Act.put, List.setIfInBounds_toArray, List.set_cons_zero, List.set_cons_succ]) (hCont (v394, v397) _ ⟨hHeld, (by (with_reducible repeat (first | apply Kd.R_alloc | apply Kd.R_drewN | apply Kd.R_drew)); exact HO392.out), (by (with_reducible repeat (first | apply Kd.R_alloc | apply Kd.R_drewN | apply Kd.R_drew)); exact Kd.R_mono HO395.out (fun _ hk => ⟨hk.1.2, hk.2⟩)), (by (with_reducible repeat (first | apply Kd.R_alloc | apply Kd.R_drewN | apply Kd.R_drew)); exact HO398.out), (by (with_reducible repeat (first | apply Kd.R_alloc | apply Kd.R_drewN | apply Kd.R_drew)); exact Kd.R_mono HO_5.out (fun _ hk => ⟨hk.2, hk.1⟩)), (Short.bK BK380), (Short.hB HB)⟩)
              rintro ⟨v394, v397⟩ w42 ⟨hS_, h0_, h1_, h2_, h3_, h4_, h5_⟩
              have n0_ : Aside0 (Kd.R (Kd.int .u8) 5 w42 w.heap.size (fun _ => True) v391 t389) := ⟨h0_⟩
              have n1_ : Aside0 (Kd.R k39 39 w42 w.heap.size (fun k_ => some k_ ≠ (.slice Ao35 x5_2.length co35 : Value).ownBlock ∧ k_ ≠ gb380) v394 y393) := ⟨h1_⟩
              have n2_ : Aside0 (Kd.R (Kd.int .i64) 3 w42 w.heap.size (fun _ => True) v397 y396) := ⟨h2_⟩
              have n3_ : Aside0 (Kd.R k39 39 w42 w.heap.size (fun k_ => some k_ ≠ (v394 : Value).ownBlock ∧ k_ ≠ gb380) (.slice Ao35 x5_2.length co35) x5_2) := ⟨h3_⟩
              have n4_ : Aside0 (w42.heap[gb380]? = some (.cells #[.int .i64 a1_0, .int .i64 a1_1, .string a1_2] 39 (0, 0))) := ⟨h4_⟩
              have n5_ : Aside0 (Below w.heap.size w w42) := ⟨h5_⟩
              clear HO_5
              clear HO392
              clear BK380
              clear HB
              clear h0_ h1_ h2_ h3_ h4_ h5_
              have HO392 := n0_
              have HO395 := n1_
              have HO398 := n2_
              have HO_5 := n3_
              have BK380 := n4_
              have HB := n5_
              clear n0_ n1_ n2_ n3_ n4_ n5_
              have hHeld : w42.cell? ⟨gb380, 0, none⟩ = some (.int .i64 a1_0) ∧ w42.cell? ⟨gb380, 1, none⟩ = some (.int .i64 a1_1) ∧ w42.cell? ⟨gb380, 2, none⟩ = some (.string a1_2) := hS_
              obtain ⟨Ao43, co43, eo43⟩ := Kd.R_slice HO395.out
              (first | subst eo43 | (injection eo43 with f1_ f2_ f3_; have f4_ := f1_.symm; have f5_ := f3_.symm; clear f1_ f2_ f3_; subst f4_; subst f5_))
              obtain ⟨Ao44, co44, eo44⟩ := Kd.R_slice HO398.out
              (first | subst eo44 | (injection eo44 with f1_ f2_ f3_; have f4_ := f1_.symm; have f5_ := f3_.symm; clear f1_ f2_ f3_; subst f4_; subst f5_))
              refine norm_ (a' := ?_) ?_ ?_
              rotate_left
              ·
               simp only [putAll, Act.put, List.setIfInBounds_toArray, List.set_cons_zero, List.set_cons_succ]
               rfl
              refine one_ (i := 4) (N := some 43) (Steps.Bs 10 31) rfl rfl (one_of HT_.out (by kernel_rfl)) (by decide) (fun K hK => ?_)
              refine goes_ Try.func23 (by kernel_rfl) rfl #[.slice Ao43 y393.length co43, .slice Ao44 y396.length co44] (by rfl) rfl rfl (by (try simp only [List.map_toArray, List.map_cons, List.map_nil]); first | done | rfl | (simp only [List.length_drop, List.length_take]; rfl) | (go_simp; done) | (simp; done)) ?_
              with_reducible refine (row_Pick.calls k2 _ _ y393 _ _ y396 t399 t400 _ ?side1 ?side2 ?side3 ?side4 A27.out).mono ?_
              (case side1 => repeat (first | exact (Kd.R_reads' HO395.out).2.2 | (with_reducible refine Kd.C_alloc ?_ _) | (with_reducible refine Kd.C_drewN ?_ _) | (with_reducible refine Kd.C_drew ?_)))
              (case side2 => exact (Kd.R_reads' HO395.out).2.1)
              (case side3 => repeat (first | exact (Kd.R_reads' HO398.out).2.2 | (with_reducible refine Kd.C_alloc ?_ _) | (with_reducible refine Kd.C_drewN ?_ _) | (with_reducible refine Kd.C_drew ?_)))
              (case side4 => exact (Kd.R_reads' HO398.out).2.1)
              rintro e w45 ⟨v401, rfl, ho0, hb⟩
              refine ⟨_, rfl, ?_⟩
              have n0_ := Aside0.mk (Kd.R_elder' (by (with_reducible repeat (first | apply Kd.R_alloc | apply Kd.R_drewN | apply Kd.R_drew)); exact HO_5.out) (Kd.R_base ho0) hb)
              have n1_ := Aside0.mk (Kd.R_below (by (with_reducible repeat (first | apply Kd.R_alloc | apply Kd.R_drewN | apply Kd.R_drew)); exact HO392.out) hb)
              have n2_ := Aside0.mk (Kd.R_elder' (by (with_reducible repeat (first | apply Kd.R_alloc | apply Kd.R_drewN | apply Kd.R_drew)); exact HO395.out) (Kd.R_base ho0) hb)
              have n3_ := Aside0.mk (Kd.R_below (by (with_reducible repeat (first | apply Kd.R_alloc | apply Kd.R_drewN | apply Kd.R_drew)); exact HO398.out) hb)
              have n4_ := Aside0.mk (Kd.R_lower (Kd.R_newB (Kd.R_new' (Kd.R_new' ho0 (Kd.R_lt (by (with_reducible repeat (first | apply Kd.R_alloc | apply Kd.R_drewN | apply Kd.R_drew)); exact HO_5.out))) (Kd.R_lt (by (with_reducible repeat (first | apply Kd.R_alloc | apply Kd.R_drewN | apply Kd.R_drew)); exact HO395.out))) (g := gb380) (o := .cells #[.int .i64 a1_0, .int .i64 a1_1, .string a1_2] 39 (0, 0)) (Short.bK BK380)) (below_size (Short.hB HB)))
              have n5_ := Aside0.mk (blk_below (g := gb380) (o := .cells #[.int .i64 a1_0, .int .i64 a1_1, .string a1_2] 39 (0, 0)) (Short.bK BK380) hb)
              have n6_ := Aside0.mk (below_step (Short.hB HB) hb)
              clear HO_5
              clear HO392
              clear HO395
              clear HO398
              clear BK380
              clear HB
              have HO_5 := n0_
              have HO392 := n1_
              have HO395 := n2_
              have HO398 := n3_
              have HO402 := n4_
              have BK380 := n5_
              have HB := n6_
              clear n0_ n1_ n2_ n3_ n4_ n5_ n6_
              (try clear hb)
              (try clear hb2)
              (try clear hk)
              (try clear hi)
              (try clear ho0)
              refine hK.out _ _ ⟨(blk_cell BK380.out 0).trans rfl, (blk_cell BK380.out 1).trans rfl, (blk_cell BK380.out 2).trans rfl⟩ (fun hHeld => ?_)
              clear hK K
              refine norm_ (a' := ?_) ?_ ?_
              rotate_left
              ·
               show Act.put _ (some 43) _ = _
               simp only [Act.put, List.setIfInBounds_toArray, List.set_cons_zero, List.set_cons_succ, i64_w, i32_w]
               rfl
              refine Steps.pI_ 5 (some 38) (Steps.Bs 10 63) (any_of HT_.out (by kernel_rfl)) (h := ?_)
              refine Steps.pI_ 6 (some 44) (Steps.Bs 10 127) (any_of HT_.out (by kernel_rfl)) (h := ?_)
              refine Steps.pI_ 7 (some 45) (Steps.Bs 10 255) (any_of HT_.out (by kernel_rfl)) (h := ?_)
              refine Steps.pI_ 8 (some 9) (Steps.Bs 10 511) (any_of HT_.out (by kernel_rfl)) (h := ?_)
              refine Steps.pI_ 9 (some 10) (Steps.Bs 10 1023) (any_of HT_.out (by kernel_rfl)) (h := ?_)
              refine done_ (done_of HT_.out (by kernel_rfl)) ?_
              try go_wp2_with (first | ((with_reducible refine gate_callee (f := 24) rfl ?_); refine Short.gL (some 49) Try.func24 #[.slice Ao35 x5_2.length co35] (h := ?_); (with_reducible refine (row_Check.calls k2 _ _ x5_2 t403 _ ?side1 ?side2 A29.out).mono ?_); (case side1 => repeat (first | exact (Kd.R_reads' HO_5.out).2.2 | (with_reducible refine Kd.C_alloc ?_ _) | (with_reducible refine Kd.C_drewN ?_ _) | (with_reducible refine Kd.C_drew ?_))); (case side2 => exact (Kd.R_reads' HO_5.out).2.1); rintro e w46 ⟨rfl, hb⟩; refine ⟨_, rfl, ?_⟩; have n0_ := Aside0.mk (Kd.R_below (by (with_reducible repeat (first | apply Kd.R_alloc | apply Kd.R_drewN | apply Kd.R_drew)); exact HO_5.out) hb); have n1_ := Aside0.mk (Kd.R_below (by (with_reducible repeat (first | apply Kd.R_alloc | apply Kd.R_drewN | apply Kd.R_drew)); exact HO392.out) hb); have n2_ := Aside0.mk (Kd.R_below (by (with_reducible repeat (first | apply Kd.R_alloc | apply Kd.R_drewN | apply Kd.R_drew)); exact HO395.out) hb); have n3_ := Aside0.mk (Kd.R_below (by (with_reducible repeat (first | apply Kd.R_alloc | apply Kd.R_drewN | apply Kd.R_drew)); exact HO398.out) hb); have n4_ := Aside0.mk (Kd.R_below (by (with_reducible repeat (first | apply Kd.R_alloc | apply Kd.R_drewN | apply Kd.R_drew)); exact HO402.out) hb); have n5_ := Aside0.mk (blk_below (g := gb380) (o := .cells #[.int .i64 a1_0, .int .i64 a1_1, .string a1_2] 39 (0, 0)) (Short.bK BK380) hb); have n6_ := Aside0.mk (below_step (Short.hB HB) hb); clear HO_5; clear HO392; clear HO395; clear HO398; clear HO402; clear BK380; clear HB; have HO_5 := n0_; have HO392 := n1_; have HO395 := n2_; have HO398 := n3_; have HO402 := n4_; have BK380 := n5_; have HB := n6_; clear n0_ n1_ n2_ n3_ n4_ n5_ n6_; (try clear hb); (try clear hb2); (try clear hk); (try clear hi); obtain ⟨Ao47, co47, eo47⟩ := Kd.R_slice HO392.out; subst eo47; obtain ⟨Ao48, co48, eo48⟩ := Kd.R_slice HO402.out; subst eo48) | (go_at_call 15; (with_reducible refine (raddlelaw04_wakes.calls k2  t404 _ A34.out).mono ?_); rintro e w49 ⟨rfl, hb⟩; have n0_ := Aside0.mk (Kd.R_below (by (with_reducible repeat (first | apply Kd.R_alloc | apply Kd.R_drewN | apply Kd.R_drew)); exact HO_5.out) hb); have n1_ := Aside0.mk (Kd.R_below (by (with_reducible repeat (first | apply Kd.R_alloc | apply Kd.R_drewN | apply Kd.R_drew)); exact HO392.out) hb); have n2_ := Aside0.mk (Kd.R_below (by (with_reducible repeat (first | apply Kd.R_alloc | apply Kd.R_drewN | apply Kd.R_drew)); exact HO395.out) hb); have n3_ := Aside0.mk (Kd.R_below (by (with_reducible repeat (first | apply Kd.R_alloc | apply Kd.R_drewN | apply Kd.R_drew)); exact HO398.out) hb); have n4_ := Aside0.mk (Kd.R_below (by (with_reducible repeat (first | apply Kd.R_alloc | apply Kd.R_drewN | apply Kd.R_drew)); exact HO402.out) hb); have n5_ := Aside0.mk (blk_below (g := gb380) (o := .cells #[.int .i64 a1_0, .int .i64 a1_1, .string a1_2] 39 (0, 0)) (Short.bK BK380) hb); have n6_ := Aside0.mk (below_step (Short.hB HB) hb); clear HO_5; clear HO392; clear HO395; clear HO398; clear HO402; clear BK380; clear HB; have HO_5 := n0_; have HO392 := n1_; have HO395 := n2_; have HO398 := n3_; have HO402 := n4_; have BK380 := n5_; have HB := n6_; clear n0_ n1_ n2_ n3_ n4_ n5_ n6_; (try clear hb); (try clear hb2); (try clear hk); (try clear hi)))
              go_ret
              exact ⟨by first | rfl | (simp [errW_none, errW_some] <;> rfl) | (simp only [← hji24]; first | rfl | (simp [errW_none, errW_some] <;> rfl)) | (simp [*, errW_none, errW_some] <;> rfl), Short.hB HB⟩
             ·
              rw [if_neg c33] at H
              have c33b0 : ((wrap64 ((t389.length : Int) + (t399.length : Int))) == 0) = false := beq_eq_false_iff_ne.mpr c33
              have c33b1 : ((wrap64 ((t389.length : Int) + (t399.length : Int))) != 0) = true := bne_iff_ne.mpr c33
              exact absurd H (by rw [hrt]; simp)
            ·
             rw [if_neg c32] at H
             have c32b0 : (t400 == 2) = false := beq_eq_false_iff_ne.mpr c32
             have c32b1 : (t400 != 2) = true := bne_iff_ne.mpr c32
             exact absurd H (by rw [hrt]; simp)
           ·
            rw [if_neg c31] at H
            have c31b0 : (t390 == 2) = false := beq_eq_false_iff_ne.mpr c31
            have c31b1 : (t390 != 2) = true := bne_iff_ne.mpr c31
            exact absurd H (by rw [hrt]; simp)
          ·
           rw [if_neg c30] at H
           have c30b0 : (t403 == 2) = false := beq_eq_false_iff_ne.mpr c30
           have c30b1 : (t403 != 2) = true := bne_iff_ne.mpr c30
           exact absurd H (by rw [hrt]; simp)
         ·
          rw [if_neg c28] at H
          have c28b0 : decide (12 < (ji24)) = false := decide_eq_false c28
          clear c28
          replace H := Option.bind_eq_some_iff.mp H
          obtain ⟨t405, A500, H⟩ := H
          replace H : (if t405 = 0 then (if t390 = 0 then (if t400 = 0 then ((raddlekeep_Row.f k2 t399 x5_2).bind fun t406 => (if t406 = true then ((raddlelaw04_wakes.f k2).bind fun t407 => (some t407)) else (some false))) else (some false)) else (some false)) else (some false)) = some r := H
          have A50 := Aside0.mk A500
          clear A500
          by_cases c51 : t405 = 0
          ·
           rw [if_pos c51] at H
           have c51b0 : (t405 == 0) = true := beq_iff_eq.mpr c51
           have c51b1 : (t405 != 0) = false := bne_eq_false_iff_eq.mpr c51
           clear c51
           by_cases c52 : t390 = 0
           ·
            rw [if_pos c52] at H
            have c52b0 : (t390 == 0) = true := beq_iff_eq.mpr c52
            have c52b1 : (t390 != 0) = false := bne_eq_false_iff_eq.mpr c52
            clear c52
            by_cases c53 : t400 = 0
            ·
             rw [if_pos c53] at H
             have c53b0 : (t400 == 0) = true := beq_iff_eq.mpr c53
             have c53b1 : (t400 != 0) = false := bne_eq_false_iff_eq.mpr c53
             clear c53
             replace H := Option.bind_eq_some_iff.mp H
             obtain ⟨t406, A540, H⟩ := H
             replace H : (if t406 = true then ((raddlelaw04_wakes.f k2).bind fun t407 => (some t407)) else (some false)) = some r := H
             have A54 := Aside0.mk A540
             clear A540
             by_cases c55 : t406 = true
             ·
              subst c55
              have H1 : ((raddlelaw04_wakes.f k2).bind fun t407 => (some t407)) = some r := by rw [if_pos rfl] at H; exact H
              clear H
              have H := H1
              clear H1
              replace H := Option.bind_eq_some_iff.mp H
              obtain ⟨t407, A560, H⟩ := H
              replace H : (some t407) = some r := H
              have A56 := Aside0.mk A560
              clear A560
              obtain rfl := Option.some.inj H
              obtain ⟨Ao57, co57, eo57⟩ := Kd.R_slice HO_5.out
              subst eo57
              try go_wp2_with (first | ((with_reducible refine gate_callee (f := 16) rfl ?_); refine Short.gL (some 35) Try.func16 #[.slice Ao57 x5_2.length co57] (h := ?_); (with_reducible refine (row_Bytes.calls k2 _ _ x5_2 t389 t390 _ ?side1 ?side2 A23.out).mono ?_); (case side1 => repeat (first | exact (Kd.R_reads' HO_5.out).2.2 | (with_reducible refine Kd.C_alloc ?_ _) | (with_reducible refine Kd.C_drewN ?_ _) | (with_reducible refine Kd.C_drew ?_))); (case side2 => exact (Kd.R_reads' HO_5.out).2.1); rintro e w58 ⟨v391, rfl, ho0, hb⟩; refine ⟨_, rfl, ?_⟩; have n0_ := Aside0.mk (Kd.R_below (by (with_reducible repeat (first | apply Kd.R_alloc | apply Kd.R_drewN | apply Kd.R_drew)); exact HO_5.out) hb); have n1_ := Aside0.mk (Kd.R_lower ho0 (below_size (Short.hB HB))); have n2_ := Aside0.mk (blk_below (g := gb380) (o := .cells #[.int .i64 a1_0, .int .i64 a1_1, .string a1_2] 39 (0, 0)) (Short.bK BK380) hb); have n3_ := Aside0.mk (below_step (Short.hB HB) hb); clear HO_5; clear BK380; clear HB; have HO_5 := n0_; have HO392 := n1_; have BK380 := n2_; have HB := n3_; clear n0_ n1_ n2_ n3_; (try clear hb); (try clear hb2); (try clear hk); (try clear hi); (try clear ho0)))
              have n0_ := Aside0.mk (Kd.R_drew HO_5.out)
              have n1_ := Aside0.mk (Kd.R_drew HO392.out)
              have n2_ := Aside0.mk (blk_drew BK380.out)
              have n3_ := Aside0.mk (below_drew1 HB.out)
              clear HO_5
              clear HO392
              clear BK380
              clear HB
              have HO_5 := n0_
              have HO392 := n1_
              have BK380 := n2_
              have HB := n3_
              clear n0_ n1_ n2_ n3_
              refine start_ (n := 10) (S := fun w' => w'.cell? ⟨gb380, 0, none⟩ = some (.int .i64 a1_0) ∧ w'.cell? ⟨gb380, 1, none⟩ = some (.int .i64 a1_1) ∧ w'.cell? ⟨gb380, 2, none⟩ = some (.string a1_2)) (ds := []) #[false, false, false, false, false, false, false, false, false, false] (by kernel_rfl) rfl rfl ⟨(blk_cell BK380.out 0).trans rfl, (blk_cell BK380.out 1).trans rfl, (blk_cell BK380.out 2).trans rfl⟩ (fun hHeld => ?_); refine with_tabW raddlelaw04_RowArity.tab10 raddlelaw04_RowArity.bits10 (fun HT_ HW_ => ?_)
              generalize w58.drew = w59 at HO_5 HO392 BK380 HB hHeld ⊢
              refine Steps.pI_ 2 (some 41) (Steps.Bs 10 4) (any_of HT_.out (by kernel_rfl)) (h := ?_)
              refine Steps.tI_ 0 (some 39) (Steps.Bs 10 5) (take_ofW HT_.out HW_.out (by kernel_rfl)) hHeld (h := ?_)
              refine join_ (σ := Value × Value) 6 (Steps.Bs 10 15) (fun s_ => [(40, s_.1), (42, s_.2)]) (fun s_ w' => (w'.cell? ⟨gb380, 0, none⟩ = some (.int .i64 a1_0) ∧ w'.cell? ⟨gb380, 1, none⟩ = some (.int .i64 a1_1) ∧ w'.cell? ⟨gb380, 2, none⟩ = some (.string a1_2)) ∧ (Kd.R (Kd.int .u8) 5 w' w.heap.size (fun _ => True) v391 t389) ∧ (Kd.R k39 39 w' w.heap.size (fun k_ => some k_ ≠ (.slice Ao57 x5_2.length co57 : Value).ownBlock ∧ k_ ≠ gb380) s_.1 y393) ∧ (Kd.R (Kd.int .i64) 3 w' w.heap.size (fun _ => True) s_.2 y396) ∧ (Kd.R k39 39 w' w.heap.size (fun k_ => some k_ ≠ (s_.1 : Value).ownBlock ∧ k_ ≠ gb380) (.slice Ao57 x5_2.length co57) x5_2) ∧ (w'.heap[gb380]? = some (.cells #[.int .i64 a1_0, .int .i64 a1_1, .string a1_2] 39 (0, 0))) ∧ (Below w.heap.size w w')) ?_ ?_
              rotate_left
              ·
               intro hCont
               refine two_ (i := 1) (j := 3) (Ni := some 40) (Nj := some 42) (Steps.Bs 10 7) (Steps.Bs 10 13) rfl rfl rfl rfl (two_of HT_.out (by kernel_rfl)) (by decide) (by decide) (fun K hK => ?_) (fun K hK => ?_)
               ·
                skip
                refine Kd.R_lit_step k39 _ 39 ?hg (N := 40) ?hd (xs := ([(⟨a1_0, a1_1, a1_2⟩ : S39)] : List (S39))) (inner := [.int .i64 a1_0, .int .i64 a1_1, .string a1_2]) (ok := fun _ => True) (okp := fun _ => True) ?hr ?hp (fun _ hk => hk) trivial (Below.refl _ _) (Nat.le_refl _) (by simp) ?_; (case hd => rfl); (case hg => rfl); (case hr => first | (go_simp; done) | (go_simp; rfl)); (case hp => exact (Reps.c3 (show Kd.M k39 _ _ _ (⟨a1_0, a1_1, a1_2⟩ : S39) [.int .i64 a1_0, .int .i64 a1_1, .string a1_2] from (k39_mkM _ _ _ (⟨a1_0, a1_1, a1_2⟩ : S39) )) (Reps.none _ _)))
                intro v394 w60 ho61 hb hg_ hnew_
                clear hg_ hnew_
                (first | rw [← Ny393.out] at ho61 | (simp only [Int.reduceToNat] at ho61; rw [← Ny393.out] at ho61))
                have n0_ := Aside0.mk (Kd.R_elder' (by (with_reducible repeat (first | apply Kd.R_alloc | apply Kd.R_drewN | apply Kd.R_drew)); exact HO_5.out) (Kd.R_base ho61) hb)
                have n1_ := Aside0.mk (Kd.R_below (by (with_reducible repeat (first | apply Kd.R_alloc | apply Kd.R_drewN | apply Kd.R_drew)); exact HO392.out) hb)
                have n2_ := Aside0.mk (Kd.R_lower (Kd.R_newB (Kd.R_new' ho61 (Kd.R_lt (by (with_reducible repeat (first | apply Kd.R_alloc | apply Kd.R_drewN | apply Kd.R_drew)); exact HO_5.out))) (g := gb380) (o := .cells #[.int .i64 a1_0, .int .i64 a1_1, .string a1_2] 39 (0, 0)) (Short.bK BK380)) (below_size (Short.hB HB)))
                have n3_ := Aside0.mk (blk_below (g := gb380) (o := .cells #[.int .i64 a1_0, .int .i64 a1_1, .string a1_2] 39 (0, 0)) (Short.bK BK380) hb)
                have n4_ := Aside0.mk (below_step (Short.hB HB) hb)
                clear HO_5
                clear HO392
                clear BK380
                clear HB
                have HO_5 := n0_
                have HO392 := n1_
                have HO395 := n2_
                have BK380 := n3_
                have HB := n4_
                clear n0_ n1_ n2_ n3_ n4_
                clear hb ho61
                refine hK.out _ _ ⟨(blk_cell BK380.out 0).trans rfl, (blk_cell BK380.out 1).trans rfl, (blk_cell BK380.out 2).trans rfl⟩ (fun hHeld => ?_)
                clear hK K
                refine norm_ (a' := ?_) ?_ ?_
                rotate_left
                ·
                 show Act.put _ (some 40) _ = _
                 simp only [Act.put, List.setIfInBounds_toArray, List.set_cons_zero, List.set_cons_succ, i64_w, i32_w]
                 rfl
                refine one_ (i := 3) (N := some 42) (Steps.Bs 10 15) rfl rfl (one_of HT_.out (by kernel_rfl)) (by decide) (fun K hK => ?_)
                refine Kd.R_make_step (Kd.int .i64) _ 3 (by rfl) (N := 42) rfl 47 _ _ rfl (ji24) rfl rfl Try.underlying47 (.int .i64 0) 8 info3 rfl (by decide) (by omega) 0 (ok := fun _ => True) (okp := fun _ => True) rfl (fun _ hk => hk) trivial (of_decide_eq_true (by first | (with_reducible assumption) | assumption)) (Nat.le_trans (Nat.mul_le_mul_right _ (of_decide_eq_true (by first | (with_reducible assumption) | assumption) : (ji24).toNat ≤ 35184372088832)) (by omega)) (Below.refl _ _) (Nat.le_refl _) ?_
                intro v397 w62 ho63 hb hg_ hnew_
                clear hg_ hnew_
                (first | rw [← Ny396.out] at ho63 | (simp only [Int.reduceToNat] at ho63; rw [← Ny396.out] at ho63))
                have n0_ := Aside0.mk (Kd.R_below (by (with_reducible repeat (first | apply Kd.R_alloc | apply Kd.R_drewN | apply Kd.R_drew)); exact HO_5.out) hb)
                have n1_ := Aside0.mk (Kd.R_below (by (with_reducible repeat (first | apply Kd.R_alloc | apply Kd.R_drewN | apply Kd.R_drew)); exact HO392.out) hb)
                have n2_ := Aside0.mk (Kd.R_below (by (with_reducible repeat (first | apply Kd.R_alloc | apply Kd.R_drewN | apply Kd.R_drew)); exact HO395.out) hb)
                have n3_ := Aside0.mk (Kd.R_lower ho63 (below_size (Short.hB HB)))
                have n4_ := Aside0.mk (blk_below (g := gb380) (o := .cells #[.int .i64 a1_0, .int .i64 a1_1, .string a1_2] 39 (0, 0)) (Short.bK BK380) hb)
                have n5_ := Aside0.mk (below_step (Short.hB HB) hb)
                clear HO_5
                clear HO392
                clear HO395
                clear BK380
                clear HB
                have HO_5 := n0_
                have HO392 := n1_
                have HO395 := n2_
                have HO398 := n3_
                have BK380 := n4_
                have HB := n5_
                clear n0_ n1_ n2_ n3_ n4_ n5_
                clear hb ho63
                refine hK.out _ _ ⟨(blk_cell BK380.out 0).trans rfl, (blk_cell BK380.out 1).trans rfl, (blk_cell BK380.out 2).trans rfl⟩ (fun hHeld => ?_)
                clear hK K
                refine norm_ (a' := ?_) ?_ ?_
                rotate_left
                ·
                 show Act.put _ (some 42) _ = _
                 simp only [Act.put, List.setIfInBounds_toArray, List.set_cons_zero, List.set_cons_succ, i64_w, i32_w]
                 rfl
                exact norm_ (by simp only [putAll, Act.put, List.setIfInBounds_toArray, List.set_cons_zero, List.set_cons_succ]) (hCont (v394, v397) _ ⟨hHeld, (by (with_reducible repeat (first | apply Kd.R_alloc | apply Kd.R_drewN | apply Kd.R_drew)); exact HO392.out), (by (with_reducible repeat (first | apply Kd.R_alloc | apply Kd.R_drewN | apply Kd.R_drew)); exact Kd.R_mono HO395.out (fun _ hk => ⟨hk.1.2, hk.2⟩)), (by (with_reducible repeat (first | apply Kd.R_alloc | apply Kd.R_drewN | apply Kd.R_drew)); exact HO398.out), (by (with_reducible repeat (first | apply Kd.R_alloc | apply Kd.R_drewN | apply Kd.R_drew)); exact Kd.R_mono HO_5.out (fun _ hk => ⟨hk.2, hk.1⟩)), (Short.bK BK380), (Short.hB HB)⟩)
               ·
                skip
                refine Kd.R_make_step (Kd.int .i64) _ 3 (by rfl) (N := 42) rfl 47 _ _ rfl (ji24) rfl rfl Try.underlying47 (.int .i64 0) 8 info3 rfl (by decide) (by omega) 0 (ok := fun _ => True) (okp := fun _ => True) rfl (fun _ hk => hk) trivial (of_decide_eq_true (by first | (with_reducible assumption) | assumption)) (Nat.le_trans (Nat.mul_le_mul_right _ (of_decide_eq_true (by first | (with_reducible assumption) | assumption) : (ji24).toNat ≤ 35184372088832)) (by omega)) (Below.refl _ _) (Nat.le_refl _) ?_
                intro v397 w60 ho61 hb hg_ hnew_
                clear hg_ hnew_
                (first | rw [← Ny396.out] at ho61 | (simp only [Int.reduceToNat] at ho61; rw [← Ny396.out] at ho61))
                have n0_ := Aside0.mk (Kd.R_below (by (with_reducible repeat (first | apply Kd.R_alloc | apply Kd.R_drewN | apply Kd.R_drew)); exact HO_5.out) hb)
                have n1_ := Aside0.mk (Kd.R_below (by (with_reducible repeat (first | apply Kd.R_alloc | apply Kd.R_drewN | apply Kd.R_drew)); exact HO392.out) hb)
                have n2_ := Aside0.mk (Kd.R_lower ho61 (below_size (Short.hB HB)))
                have n3_ := Aside0.mk (blk_below (g := gb380) (o := .cells #[.int .i64 a1_0, .int .i64 a1_1, .string a1_2] 39 (0, 0)) (Short.bK BK380) hb)
                have n4_ := Aside0.mk (below_step (Short.hB HB) hb)
                clear HO_5
                clear HO392
                clear BK380
                clear HB
                have HO_5 := n0_
                have HO392 := n1_
                have HO398 := n2_
                have BK380 := n3_
                have HB := n4_
                clear n0_ n1_ n2_ n3_ n4_
                clear hb ho61
                refine hK.out _ _ ⟨(blk_cell BK380.out 0).trans rfl, (blk_cell BK380.out 1).trans rfl, (blk_cell BK380.out 2).trans rfl⟩ (fun hHeld => ?_)
                clear hK K
                refine norm_ (a' := ?_) ?_ ?_
                rotate_left
                ·
                 show Act.put _ (some 42) _ = _
                 simp only [Act.put, List.setIfInBounds_toArray, List.set_cons_zero, List.set_cons_succ, i64_w, i32_w]
                 rfl
                refine one_ (i := 1) (N := some 40) (Steps.Bs 10 15) rfl rfl (one_of HT_.out (by kernel_rfl)) (by decide) (fun K hK => ?_)
                refine Kd.R_lit_step k39 _ 39 ?hg (N := 40) ?hd (xs := ([(⟨a1_0, a1_1, a1_2⟩ : S39)] : List (S39))) (inner := [.int .i64 a1_0, .int .i64 a1_1, .string a1_2]) (ok := fun _ => True) (okp := fun _ => True) ?hr ?hp (fun _ hk => hk) trivial (Below.refl _ _) (Nat.le_refl _) (by simp) ?_; (case hd => rfl); (case hg => rfl); (case hr => first | (go_simp; done) | (go_simp; rfl)); (case hp => exact (Reps.c3 (show Kd.M k39 _ _ _ (⟨a1_0, a1_1, a1_2⟩ : S39) [.int .i64 a1_0, .int .i64 a1_1, .string a1_2] from (k39_mkM _ _ _ (⟨a1_0, a1_1, a1_2⟩ : S39) )) (Reps.none _ _)))
                intro v394 w62 ho63 hb hg_ hnew_
                clear hg_ hnew_
                (first | rw [← Ny393.out] at ho63 | (simp only [Int.reduceToNat] at ho63; rw [← Ny393.out] at ho63))
                have n0_ := Aside0.mk (Kd.R_elder' (by (with_reducible repeat (first | apply Kd.R_alloc | apply Kd.R_drewN | apply Kd.R_drew)); exact HO_5.out) (Kd.R_base ho63) hb)
                have n1_ := Aside0.mk (Kd.R_below (by (with_reducible repeat (first | apply Kd.R_alloc | apply Kd.R_drewN | apply Kd.R_drew)); exact HO392.out) hb)
                have n2_ := Aside0.mk (Kd.R_below (by (with_reducible repeat (first | apply Kd.R_alloc | apply Kd.R_drewN | apply Kd.R_drew)); exact HO398.out) hb)
                have n3_ := Aside0.mk (Kd.R_lower (Kd.R_newB (Kd.R_new' ho63 (Kd.R_lt (by (with_reducible repeat (first | apply Kd.R_alloc | apply Kd.R_drewN | apply Kd.R_drew)); exact HO_5.out))) (g := gb380) (o := .cells #[.int .i64 a1_0, .int .i64 a1_1, .string a1_2] 39 (0, 0)) (Short.bK BK380)) (below_size (Short.hB HB)))
                have n4_ := Aside0.mk (blk_below (g := gb380) (o := .cells #[.int .i64 a1_0, .int .i64 a1_1, .string a1_2] 39 (0, 0)) (Short.bK BK380) hb)
                have n5_ := Aside0.mk (below_step (Short.hB HB) hb)
                clear HO_5
                clear HO392
                clear HO398
                clear BK380
                clear HB
                have HO_5 := n0_
                have HO392 := n1_
                have HO398 := n2_
                have HO395 := n3_
                have BK380 := n4_
                have HB := n5_
                clear n0_ n1_ n2_ n3_ n4_ n5_
                clear hb ho63
                refine hK.out _ _ ⟨(blk_cell BK380.out 0).trans rfl, (blk_cell BK380.out 1).trans rfl, (blk_cell BK380.out 2).trans rfl⟩ (fun hHeld => ?_)
                clear hK K
                refine norm_ (a' := ?_) ?_ ?_
                rotate_left
                ·
                 show Act.put _ (some 40) _ = _
                 simp only [Act.put, List.setIfInBounds_toArray, List.set_cons_zero, List.set_cons_succ, i64_w, i32_w]
                 rfl
                exact norm_ (by simp only [putAll, Act.put, List.setIfInBounds_toArray, List.set_cons_zero, List.set_cons_succ]) (hCont (v394, v397) _ ⟨hHeld, (by (with_reducible repeat (first | apply Kd.R_alloc | apply Kd.R_drewN | apply Kd.R_drew)); exact HO392.out), (by (with_reducible repeat (first | apply Kd.R_alloc | apply Kd.R_drewN | apply Kd.R_drew)); exact Kd.R_mono HO395.out (fun _ hk => ⟨hk.1.2, hk.2⟩)), (by (with_reducible repeat (first | apply Kd.R_alloc | apply Kd.R_drewN | apply Kd.R_drew)); exact HO398.out), (by (with_reducible repeat (first | apply Kd.R_alloc | apply Kd.R_drewN | apply Kd.R_drew)); exact Kd.R_mono HO_5.out (fun _ hk => ⟨hk.2, hk.1⟩)), (Short.bK BK380), (Short.hB HB)⟩)
              rintro ⟨v394, v397⟩ w64 ⟨hS_, h0_, h1_, h2_, h3_, h4_, h5_⟩
              have n0_ : Aside0 (Kd.R (Kd.int .u8) 5 w64 w.heap.size (fun _ => True) v391 t389) := ⟨h0_⟩
              have n1_ : Aside0 (Kd.R k39 39 w64 w.heap.size (fun k_ => some k_ ≠ (.slice Ao57 x5_2.length co57 : Value).ownBlock ∧ k_ ≠ gb380) v394 y393) := ⟨h1_⟩
              have n2_ : Aside0 (Kd.R (Kd.int .i64) 3 w64 w.heap.size (fun _ => True) v397 y396) := ⟨h2_⟩
              have n3_ : Aside0 (Kd.R k39 39 w64 w.heap.size (fun k_ => some k_ ≠ (v394 : Value).ownBlock ∧ k_ ≠ gb380) (.slice Ao57 x5_2.length co57) x5_2) := ⟨h3_⟩
              have n4_ : Aside0 (w64.heap[gb380]? = some (.cells #[.int .i64 a1_0, .int .i64 a1_1, .string a1_2] 39 (0, 0))) := ⟨h4_⟩
              have n5_ : Aside0 (Below w.heap.size w w64) := ⟨h5_⟩
              clear HO_5
              clear HO392
              clear BK380
              clear HB
              clear h0_ h1_ h2_ h3_ h4_ h5_
              have HO392 := n0_
              have HO395 := n1_
              have HO398 := n2_
              have HO_5 := n3_
              have BK380 := n4_
              have HB := n5_
              clear n0_ n1_ n2_ n3_ n4_ n5_
              have hHeld : w64.cell? ⟨gb380, 0, none⟩ = some (.int .i64 a1_0) ∧ w64.cell? ⟨gb380, 1, none⟩ = some (.int .i64 a1_1) ∧ w64.cell? ⟨gb380, 2, none⟩ = some (.string a1_2) := hS_
              obtain ⟨Ao65, co65, eo65⟩ := Kd.R_slice HO395.out
              (first | subst eo65 | (injection eo65 with f1_ f2_ f3_; have f4_ := f1_.symm; have f5_ := f3_.symm; clear f1_ f2_ f3_; subst f4_; subst f5_))
              obtain ⟨Ao66, co66, eo66⟩ := Kd.R_slice HO398.out
              (first | subst eo66 | (injection eo66 with f1_ f2_ f3_; have f4_ := f1_.symm; have f5_ := f3_.symm; clear f1_ f2_ f3_; subst f4_; subst f5_))
              refine norm_ (a' := ?_) ?_ ?_
              rotate_left
              ·
               simp only [putAll, Act.put, List.setIfInBounds_toArray, List.set_cons_zero, List.set_cons_succ]
               rfl
              refine one_ (i := 4) (N := some 43) (Steps.Bs 10 31) rfl rfl (one_of HT_.out (by kernel_rfl)) (by decide) (fun K hK => ?_)
              refine goes_ Try.func23 (by kernel_rfl) rfl #[.slice Ao65 y393.length co65, .slice Ao66 y396.length co66] (by rfl) rfl rfl (by (try simp only [List.map_toArray, List.map_cons, List.map_nil]); first | done | rfl | (simp only [List.length_drop, List.length_take]; rfl) | (go_simp; done) | (simp; done)) ?_
              with_reducible refine (row_Pick.calls k2 _ _ y393 _ _ y396 t399 t400 _ ?side1 ?side2 ?side3 ?side4 A27.out).mono ?_
              (case side1 => repeat (first | exact (Kd.R_reads' HO395.out).2.2 | (with_reducible refine Kd.C_alloc ?_ _) | (with_reducible refine Kd.C_drewN ?_ _) | (with_reducible refine Kd.C_drew ?_)))
              (case side2 => exact (Kd.R_reads' HO395.out).2.1)
              (case side3 => repeat (first | exact (Kd.R_reads' HO398.out).2.2 | (with_reducible refine Kd.C_alloc ?_ _) | (with_reducible refine Kd.C_drewN ?_ _) | (with_reducible refine Kd.C_drew ?_)))
              (case side4 => exact (Kd.R_reads' HO398.out).2.1)
              rintro e w67 ⟨v401, rfl, ho0, hb⟩
              refine ⟨_, rfl, ?_⟩
              have n0_ := Aside0.mk (Kd.R_elder' (by (with_reducible repeat (first | apply Kd.R_alloc | apply Kd.R_drewN | apply Kd.R_drew)); exact HO_5.out) (Kd.R_base ho0) hb)
              have n1_ := Aside0.mk (Kd.R_below (by (with_reducible repeat (first | apply Kd.R_alloc | apply Kd.R_drewN | apply Kd.R_drew)); exact HO392.out) hb)
              have n2_ := Aside0.mk (Kd.R_elder' (by (with_reducible repeat (first | apply Kd.R_alloc | apply Kd.R_drewN | apply Kd.R_drew)); exact HO395.out) (Kd.R_base ho0) hb)
              have n3_ := Aside0.mk (Kd.R_below (by (with_reducible repeat (first | apply Kd.R_alloc | apply Kd.R_drewN | apply Kd.R_drew)); exact HO398.out) hb)
              have n4_ := Aside0.mk (Kd.R_lower (Kd.R_newB (Kd.R_new' (Kd.R_new' ho0 (Kd.R_lt (by (with_reducible repeat (first | apply Kd.R_alloc | apply Kd.R_drewN | apply Kd.R_drew)); exact HO_5.out))) (Kd.R_lt (by (with_reducible repeat (first | apply Kd.R_alloc | apply Kd.R_drewN | apply Kd.R_drew)); exact HO395.out))) (g := gb380) (o := .cells #[.int .i64 a1_0, .int .i64 a1_1, .string a1_2] 39 (0, 0)) (Short.bK BK380)) (below_size (Short.hB HB)))
              have n5_ := Aside0.mk (blk_below (g := gb380) (o := .cells #[.int .i64 a1_0, .int .i64 a1_1, .string a1_2] 39 (0, 0)) (Short.bK BK380) hb)
              have n6_ := Aside0.mk (below_step (Short.hB HB) hb)
              clear HO_5
              clear HO392
              clear HO395
              clear HO398
              clear BK380
              clear HB
              have HO_5 := n0_
              have HO392 := n1_
              have HO395 := n2_
              have HO398 := n3_
              have HO402 := n4_
              have BK380 := n5_
              have HB := n6_
              clear n0_ n1_ n2_ n3_ n4_ n5_ n6_
              (try clear hb)
              (try clear hb2)
              (try clear hk)
              (try clear hi)
              (try clear ho0)
              refine hK.out _ _ ⟨(blk_cell BK380.out 0).trans rfl, (blk_cell BK380.out 1).trans rfl, (blk_cell BK380.out 2).trans rfl⟩ (fun hHeld => ?_)
              clear hK K
              refine norm_ (a' := ?_) ?_ ?_
              rotate_left
              ·
               show Act.put _ (some 43) _ = _
               simp only [Act.put, List.setIfInBounds_toArray, List.set_cons_zero, List.set_cons_succ, i64_w, i32_w]
               rfl
              refine Steps.pI_ 5 (some 38) (Steps.Bs 10 63) (any_of HT_.out (by kernel_rfl)) (h := ?_)
              refine Steps.pI_ 6 (some 44) (Steps.Bs 10 127) (any_of HT_.out (by kernel_rfl)) (h := ?_)
              refine Steps.pI_ 7 (some 45) (Steps.Bs 10 255) (any_of HT_.out (by kernel_rfl)) (h := ?_)
              refine Steps.pI_ 8 (some 9) (Steps.Bs 10 511) (any_of HT_.out (by kernel_rfl)) (h := ?_)
              refine Steps.pI_ 9 (some 10) (Steps.Bs 10 1023) (any_of HT_.out (by kernel_rfl)) (h := ?_)
              refine done_ (done_of HT_.out (by kernel_rfl)) ?_
              try go_wp2_with (first | ((with_reducible refine gate_callee (f := 24) rfl ?_); refine Short.gL (some 71) Try.func24 #[.slice Ao57 x5_2.length co57] (h := ?_); (with_reducible refine (row_Check.calls k2 _ _ x5_2 t405 _ ?side1 ?side2 A50.out).mono ?_); (case side1 => repeat (first | exact (Kd.R_reads' HO_5.out).2.2 | (with_reducible refine Kd.C_alloc ?_ _) | (with_reducible refine Kd.C_drewN ?_ _) | (with_reducible refine Kd.C_drew ?_))); (case side2 => exact (Kd.R_reads' HO_5.out).2.1); rintro e w68 ⟨rfl, hb⟩; refine ⟨_, rfl, ?_⟩; have n0_ := Aside0.mk (Kd.R_below (by (with_reducible repeat (first | apply Kd.R_alloc | apply Kd.R_drewN | apply Kd.R_drew)); exact HO_5.out) hb); have n1_ := Aside0.mk (Kd.R_below (by (with_reducible repeat (first | apply Kd.R_alloc | apply Kd.R_drewN | apply Kd.R_drew)); exact HO392.out) hb); have n2_ := Aside0.mk (Kd.R_below (by (with_reducible repeat (first | apply Kd.R_alloc | apply Kd.R_drewN | apply Kd.R_drew)); exact HO395.out) hb); have n3_ := Aside0.mk (Kd.R_below (by (with_reducible repeat (first | apply Kd.R_alloc | apply Kd.R_drewN | apply Kd.R_drew)); exact HO398.out) hb); have n4_ := Aside0.mk (Kd.R_below (by (with_reducible repeat (first | apply Kd.R_alloc | apply Kd.R_drewN | apply Kd.R_drew)); exact HO402.out) hb); have n5_ := Aside0.mk (blk_below (g := gb380) (o := .cells #[.int .i64 a1_0, .int .i64 a1_1, .string a1_2] 39 (0, 0)) (Short.bK BK380) hb); have n6_ := Aside0.mk (below_step (Short.hB HB) hb); clear HO_5; clear HO392; clear HO395; clear HO398; clear HO402; clear BK380; clear HB; have HO_5 := n0_; have HO392 := n1_; have HO395 := n2_; have HO398 := n3_; have HO402 := n4_; have BK380 := n5_; have HB := n6_; clear n0_ n1_ n2_ n3_ n4_ n5_ n6_; (try clear hb); (try clear hb2); (try clear hk); (try clear hi); obtain ⟨Ao69, co69, eo69⟩ := Kd.R_slice HO402.out; subst eo69) | (go_at_call 13; (with_reducible refine (raddlekeep_Row.calls k2 _ _ t399 _ _ x5_2 true _ ?side1 ?side2 ?side3 ?side4 A54.out).mono ?_); (case side1 => repeat (first | exact (Kd.R_reads' HO402.out).2.2 | (with_reducible refine Kd.C_alloc ?_ _) | (with_reducible refine Kd.C_drewN ?_ _) | (with_reducible refine Kd.C_drew ?_))); (case side2 => exact (Kd.R_reads' HO402.out).2.1); (case side3 => repeat (first | exact (Kd.R_reads' HO_5.out).2.2 | (with_reducible refine Kd.C_alloc ?_ _) | (with_reducible refine Kd.C_drewN ?_ _) | (with_reducible refine Kd.C_drew ?_))); (case side4 => exact (Kd.R_reads' HO_5.out).2.1); rintro e w70 ⟨rfl, hb⟩; have n0_ := Aside0.mk (Kd.R_below (by (with_reducible repeat (first | apply Kd.R_alloc | apply Kd.R_drewN | apply Kd.R_drew)); exact HO_5.out) hb); have n1_ := Aside0.mk (Kd.R_below (by (with_reducible repeat (first | apply Kd.R_alloc | apply Kd.R_drewN | apply Kd.R_drew)); exact HO392.out) hb); have n2_ := Aside0.mk (Kd.R_below (by (with_reducible repeat (first | apply Kd.R_alloc | apply Kd.R_drewN | apply Kd.R_drew)); exact HO395.out) hb); have n3_ := Aside0.mk (Kd.R_below (by (with_reducible repeat (first | apply Kd.R_alloc | apply Kd.R_drewN | apply Kd.R_drew)); exact HO398.out) hb); have n4_ := Aside0.mk (Kd.R_below (by (with_reducible repeat (first | apply Kd.R_alloc | apply Kd.R_drewN | apply Kd.R_drew)); exact HO402.out) hb); have n5_ := Aside0.mk (blk_below (g := gb380) (o := .cells #[.int .i64 a1_0, .int .i64 a1_1, .string a1_2] 39 (0, 0)) (Short.bK BK380) hb); have n6_ := Aside0.mk (below_step (Short.hB HB) hb); clear HO_5; clear HO392; clear HO395; clear HO398; clear HO402; clear BK380; clear HB; have HO_5 := n0_; have HO392 := n1_; have HO395 := n2_; have HO398 := n3_; have HO402 := n4_; have BK380 := n5_; have HB := n6_; clear n0_ n1_ n2_ n3_ n4_ n5_ n6_; (try clear hb); (try clear hb2); (try clear hk); (try clear hi)) | (go_at_call 15; (with_reducible refine (raddlelaw04_wakes.calls k2  t407 _ A56.out).mono ?_); rintro e w71 ⟨rfl, hb⟩; have n0_ := Aside0.mk (Kd.R_below (by (with_reducible repeat (first | apply Kd.R_alloc | apply Kd.R_drewN | apply Kd.R_drew)); exact HO_5.out) hb); have n1_ := Aside0.mk (Kd.R_below (by (with_reducible repeat (first | apply Kd.R_alloc | apply Kd.R_drewN | apply Kd.R_drew)); exact HO392.out) hb); have n2_ := Aside0.mk (Kd.R_below (by (with_reducible repeat (first | apply Kd.R_alloc | apply Kd.R_drewN | apply Kd.R_drew)); exact HO395.out) hb); have n3_ := Aside0.mk (Kd.R_below (by (with_reducible repeat (first | apply Kd.R_alloc | apply Kd.R_drewN | apply Kd.R_drew)); exact HO398.out) hb); have n4_ := Aside0.mk (Kd.R_below (by (with_reducible repeat (first | apply Kd.R_alloc | apply Kd.R_drewN | apply Kd.R_drew)); exact HO402.out) hb); have n5_ := Aside0.mk (blk_below (g := gb380) (o := .cells #[.int .i64 a1_0, .int .i64 a1_1, .string a1_2] 39 (0, 0)) (Short.bK BK380) hb); have n6_ := Aside0.mk (below_step (Short.hB HB) hb); clear HO_5; clear HO392; clear HO395; clear HO398; clear HO402; clear BK380; clear HB; have HO_5 := n0_; have HO392 := n1_; have HO395 := n2_; have HO398 := n3_; have HO402 := n4_; have BK380 := n5_; have HB := n6_; clear n0_ n1_ n2_ n3_ n4_ n5_ n6_; (try clear hb); (try clear hb2); (try clear hk); (try clear hi)))
              go_ret
              exact ⟨by first | rfl | (simp [errW_none, errW_some] <;> rfl) | (simp only [← hji24]; first | rfl | (simp [errW_none, errW_some] <;> rfl)) | (simp [*, errW_none, errW_some] <;> rfl), Short.hB HB⟩
             ·
              replace c55 := Bool.eq_false_iff.mpr c55
              subst c55
              have H1 : (some false) = some r := by rw [if_neg (show ¬ (false = true) by decide)] at H; exact H
              clear H
              have H := H1
              clear H1
              exact absurd H (by rw [hrt]; simp)
            ·
             rw [if_neg c53] at H
             have c53b0 : (t400 == 0) = false := beq_eq_false_iff_ne.mpr c53
             have c53b1 : (t400 != 0) = true := bne_iff_ne.mpr c53
             exact absurd H (by rw [hrt]; simp)
           ·
            rw [if_neg c52] at H
            have c52b0 : (t390 == 0) = false := beq_eq_false_iff_ne.mpr c52
            have c52b1 : (t390 != 0) = true := bne_iff_ne.mpr c52
            exact absurd H (by rw [hrt]; simp)
          ·
           rw [if_neg c51] at H
           have c51b0 : (t405 == 0) = false := beq_eq_false_iff_ne.mpr c51
           have c51b1 : (t405 != 0) = true := bne_iff_ne.mpr c51
           exact absurd H (by rw [hrt]; simp)
        ·
         rw [if_neg c26] at H
         exact absurd H (by simp)
       ·
        rw [if_neg c25] at H
        exact absurd H (by simp)
def raddlelaw04_RowArity.WF39 (x : S39) : Prop := (Lit.int .i64 x.f0).wf = true ∧ (Lit.int .i64 x.f1).wf = true ∧ x.f2.size ≤ maxLen
/-- THE ONE PURE STATEMENT of raddlelaw04_RowArity. -/
def raddlelaw04_RowArity.Pure : Prop := ∀ (x0 : Int) (x1 : S39), (Lit.int .i64 x0).wf = true → raddlelaw04_RowArity.WF39 x1 → ∃ k, raddlelaw04_RowArity.f k x0 x1.f0 x1.f1 x1.f2 = some true
end Go.Proofs.Ytiaiglihndbjeaa.PAll
end
section
namespace Go.Proofs.Ytiaiglihndbjeaa.Plain
open Go.RowKit Go.Proofs.YtiaiglihndbjeaaW.PrintWords Go.Proofs.YtiaiglihndbjeaaW.PrintLast Go.Proofs.YtiaiglihndbjeaaW.PrintMore
set_option linter.unusedVariables false
set_option linter.unusedSimpArgs false
theorem w64 {x : Int} (h0 : -9223372036854775808 ≤ x) (h1 : x ≤ 9223372036854775807) : wrap64 x = x := by
  unfold wrap64; omega
theorem wu64 {x : Int} (h0 : 0 ≤ x) (h1 : x < 18446744073709551616) : IntKind.u64.wrap x = x := by
  simp [IntKind.wrap, IntKind.bits, IntKind.signed]; omega
theorem u64_mod (x : Int) : IntKind.u64.wrap x = x % 18446744073709551616 := by
  simp [IntKind.wrap, IntKind.bits, IntKind.signed]
def Byte (b : Int) : Prop := 0 ≤ b ∧ b ≤ 255
def Bytes (l : List Int) : Prop := ∀ b ∈ l, Byte b
theorem Bytes.nil : Bytes [] := fun _ h => by cases h
theorem Bytes.cons {b : Int} {l : List Int} (h : Byte b) (k : Bytes l) : Bytes (b :: l) := fun x hx => by
  rcases List.mem_cons.1 hx with rfl | hx
  · exact h
  · exact k x hx
theorem Bytes.head {b : Int} {l : List Int} (h : Bytes (b :: l)) : Byte b := h b List.mem_cons_self
theorem Bytes.tail {b : Int} {l : List Int} (h : Bytes (b :: l)) : Bytes l := fun x hx => h x (List.mem_cons_of_mem _ hx)
theorem Bytes.append {a b : List Int} (h : Bytes a) (k : Bytes b) : Bytes (a ++ b) := fun x hx => by
  rcases List.mem_append.1 hx with hx | hx
  · exact h x hx
  · exact k x hx
theorem Bytes.take {a : List Int} (h : Bytes a) (n : Nat) : Bytes (a.take n) := fun x hx => h x (List.mem_of_mem_take hx)
theorem Bytes.drop {a : List Int} (h : Bytes a) (n : Nat) : Bytes (a.drop n) := fun x hx => h x (List.mem_of_mem_drop hx)
theorem Bytes.rd {l : List Int} (h : Bytes l) (i : Int) : Byte (rd l i) := by
  show Byte (l.getD i.toNat 0)
  rcases Nat.lt_or_ge i.toNat l.length with hi | hi
  · rw [List.getD_eq_getElem?_getD, List.getElem?_eq_getElem hi]; exact h _ (List.getElem_mem hi)
  · rw [List.getD_eq_getElem?_getD, List.getElem?_eq_none hi]; exact ⟨by decide, by decide⟩
/-! ### Numbers as bytes -/
/-- The s lowest bytes of n, the highest of them first. -/
def big (n : Int) : Nat → List Int
  | 0 => []
  | s + 1 => (n / 256 ^ s) % 256 :: big n s
/-- What bytes are as a number, behind a. -/
def val : Int → List Int → Int
  | a, [] => a
  | a, b :: l => val (a * 256 + b) l
theorem big_length (n : Int) (s : Nat) : (big n s).length = s := by
  induction s with
  | zero => rfl
  | succ s ih => simp [big, ih]
theorem big_bytes (n : Int) (s : Nat) : Bytes (big n s) := by
  induction s with
  | zero => exact Bytes.nil
  | succ s ih =>
    refine Bytes.cons ⟨?_, ?_⟩ ih
    · exact Int.emod_nonneg _ (by decide)
    · have := Int.emod_lt_of_pos (n / 256 ^ s) (show (0 : Int) < 256 by decide); omega
theorem emod_mul' (n a b : Int) (ha : 0 < a) : n % (a * b) = (n / a % b) * a + n % a := by
  have h1 := Int.emod_add_mul_ediv n a
  have h2 := Int.emod_add_mul_ediv (n / a) b
  have h3 : n % (a * b) = n - a * b * (n / (a * b)) := by have := Int.emod_add_mul_ediv n (a * b); omega
  have h4 : n / (a * b) = n / a / b := (Int.ediv_ediv_of_nonneg (by omega)).symm
  rw [h3, h4]
  have h5 : a * (n / a) = a * (n / a % b) + a * (b * (n / a / b)) := by rw [← Int.mul_add]; exact congrArg (a * ·) h2.symm
  rw [Int.mul_assoc, Int.mul_comm (n / a % b)]
  omega
theorem pow_pos (s : Nat) : (0 : Int) < 256 ^ s := Int.pow_pos (by decide)
theorem val_big (n : Int) (s : Nat) (a : Int) : val a (big n s) = a * 256 ^ s + n % 256 ^ s := by
  induction s generalizing a with
  | zero => simp [big, val]
  | succ s ih =>
    have hp := pow_pos s
    have h1 : n % 256 ^ (s + 1) = (n / 256 ^ s % 256) * 256 ^ s + n % 256 ^ s := by
      have e : (256 : Int) ^ (s + 1) = 256 ^ s * 256 := Int.pow_succ _ _
      rw [e]; exact emod_mul' _ _ _ hp
    rw [big, val, ih, h1, Int.pow_succ]
    rw [Int.add_mul, Int.mul_assoc, Int.mul_comm 256]
    omega
end Go.Proofs.Ytiaiglihndbjeaa.Plain
end
