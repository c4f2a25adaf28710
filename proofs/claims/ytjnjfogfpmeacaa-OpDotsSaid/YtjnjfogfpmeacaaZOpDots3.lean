-- wip/slice2.py
import Derived.Test.YtjnjfogfpmeacaaZOpDots2

set_option maxHeartbeats 8000000
set_option maxRecDepth 100000
open Go.Proofs.YtjnjfogfpmeacaaW Go.Proofs.Ytjnjfogfpmeacaa
section
namespace Go.Proofs.Ytjnjfogfpmeacaa.PAll
open Go.RowKit PrintWords PrintLast PrintMore ZipT PrintWords.Kd PrintMore.Kd
attribute [local go_sem] max2_int min2_int max_two min_two max_three min_three max_four min_four   -- for this text's walks alone
set_option linter.unusedVariables false
set_option linter.unusedSimpArgs false
mutual
def raddlelaw07_OpDots.l0 : Nat → Int → Int → List (S51) → Int → Int → Int → List Int → Int → Int → Int → Int → Int → ByteArray → Int → List (S25) → Option (Bool)
 | 0, _, _, _, _, _, _, _, _, _, _, _, _, _, _, _ => none
 | k + 1, x0, x1, x5, x7, x375000, x375001, x375002, x375003, x375004, x375005, x375006, x375007, x375008, x375009, x375011 => if x7 < x0 then (if x375011.length < 8796093022208 then (raddlelaw07_OpDots.l0 k x0 x1 x5 (wrap64 (x7 + 1)) x375000 x375001 x375002 x375003 x375004 x375005 x375006 x375007 x375008 x375009 (x375011 ++ [(⟨0, wrap64 (x7 + 1)⟩ : S25)])) else (none)) else (if x0 > 64 then (raddlelaw07_OpDots.j1 k x0 x1 x5 1 x375000 x375001 x375002 x375003 x375004 x375005 x375006 x375007 x375008 x375009 x375011) else (raddlelaw07_OpDots.j1 k x0 x1 x5 0 x375000 x375001 x375002 x375003 x375004 x375005 x375006 x375007 x375008 x375009 x375011))
def raddlelaw07_OpDots.j1 : Nat → Int → Int → List (S51) → Int → Int → Int → List Int → Int → Int → Int → Int → Int → ByteArray → Int → List (S25) → Option (Bool)
 | 0, _, _, _, _, _, _, _, _, _, _, _, _, _, _, _ => none
 | k + 1, x0, x1, x5, x8, x375000, x375001, x375002, x375003, x375004, x375005, x375006, x375007, x375008, x375009, x375011 => (op_Check.f k 2 x5 x375000 x375001 x375002 x375003 x375004 x375005 x375006 x375007 x375008 x375009 ([] : List (S84)) x375011).bind fun t379 => (if t379 = x8 then (if (Int.tmod (IntKind.u64.wrap (x1)) 3) = 0 then (if 0 ≤ (wrap64 (x0 - 1)) then (if (wrap64 (x0 - 1)) < (x375011.length : Int) then ((op_Check.f k 2 x5 x375000 x375001 x375002 x375003 x375004 x375005 x375006 x375007 x375008 x375009 ([] : List (S84)) (x375011.set ((wrap64 (x0 - 1)) : Int).toNat (⟨(rd_T25 x375011 (wrap64 (x0 - 1))).f0, 70⟩ : S25))).bind fun t381 => (if t381 = 1 then ((raddlelaw07_wakes.f).bind fun t382 => (some t382)) else (some false))) else (none)) else (none)) else (if (Int.tmod (IntKind.u64.wrap (x1)) 3) = 1 then (if 0 ≤ (wrap64 (x0 - 1)) then (if (wrap64 (x0 - 1)) < (x375011.length : Int) then (if x375011.length < 8796093022208 then ((op_Check.f k 2 x5 x375000 x375001 x375002 x375003 x375004 x375005 x375006 x375007 x375008 x375009 ([] : List (S84)) (x375011 ++ [(⟨(rd_T25 x375011 (wrap64 (x0 - 1))).f0, (rd_T25 x375011 (wrap64 (x0 - 1))).f1⟩ : S25)])).bind fun t387 => (if t387 = 1 then ((raddlelaw07_wakes.f).bind fun t388 => (some t388)) else (some false))) else (none)) else (none)) else (none)) else (if 0 < (x375011.length : Int) then ((op_Check.f k 2 x5 x375000 x375001 x375002 x375003 x375004 x375005 x375006 x375007 x375008 x375009 ([] : List (S84)) (x375011.set (0 : Int).toNat (⟨2, (rd_T25 x375011 0).f1⟩ : S25))).bind fun t390 => (if t390 = 1 then ((raddlelaw07_wakes.f).bind fun t391 => (some t391)) else (some false))) else (none)))) else (some false))
end
def raddlelaw07_OpDots.f (k : Nat) (a0 : Int) (a1 : Int) : Option (Bool) := (some (([(⟨(([3] : List Int))⟩ : S51)] : List (S51)) : List (S51))).bind fun y368 => ((some (([69, 0] : List Int) : List Int)).bind fun y371 => ((op_Check.f k 2 y368 1 1 y371 0 0 1 3 0 (⟨#[107]⟩ : ByteArray) 0 ([] : List (S84)) ([] : List (S25))).bind fun t375 => (if t375 = 1 then (raddlelaw07_OpDots.l0 k (wrap64 (1 + (wrap64 (Int.tmod (IntKind.u64.wrap (a0)) 65)))) a1 y368 0 1 1 y371 0 0 1 3 0 (⟨#[107]⟩ : ByteArray) 0 ([] : List (S25))) else (some false))))
def raddlelaw07_OpDots.T20 : Bool × List (List Nat × List Nat) := (true, [([], []), ([0], [0]), ([], []), ([2], [2]), ([], []), ([4], [4]), ([3, 5], [3, 5]), ([6], [6]), ([7], [7]), ([1, 8], [1, 8]), ([0, 1, 2, 3, 4, 5, 6, 7, 8, 9], []), ([10, 9, 9, 0, 1, 2, 3, 4, 5, 6, 7, 8, 9], [9, 10])])
def raddlelaw07_OpDots.B20 : List Nat := [0, 1, 0, 4, 0, 16, 60, 124, 252, 511, 1023, 2047]
theorem raddlelaw07_OpDots.tab20 : rtab .any (opsOf Try.f6 20) = raddlelaw07_OpDots.T20 := by kernel_rfl
theorem raddlelaw07_OpDots.bits20 : waitsOk raddlelaw07_OpDots.T20.2 raddlelaw07_OpDots.B20 = true := by kernel_rfl
theorem raddlelaw07_OpDots.calls (k : Nat) (a0 : Int) (a1 : Int) (r : Bool) (w : World) (hrt : r = true) (h : raddlelaw07_OpDots.f k a0 a1 = some r) :
  Calls Try.prog 6 #[.int .i64 a0, .int .i64 a1] w fun e w' => e = .returned (.bool r) ∧ Below w.heap.size w w' := by
 have hu51 := Try.underlying51
 have hu25 := Try.underlying25
 have hu28 := Try.underlying28
 have hu32 := Try.underlying32
 have HB := mk_ (Below.refl w.heap.size w)
 have H : ((some (([(⟨(([3] : List Int))⟩ : S51)] : List (S51)) : List (S51))).bind fun y368 => ((some (([69, 0] : List Int) : List Int)).bind fun y371 => ((op_Check.f k 2 y368 1 1 y371 0 0 1 3 0 (⟨#[107]⟩ : ByteArray) 0 ([] : List (S84)) ([] : List (S25))).bind fun t375 => (if t375 = 1 then (raddlelaw07_OpDots.l0 k (wrap64 (1 + (wrap64 (Int.tmod (IntKind.u64.wrap (a0)) 65)))) a1 y368 0 1 1 y371 0 0 1 3 0 (⟨#[107]⟩ : ByteArray) 0 ([] : List (S25))) else (some false))))) = some r := h
 clear h
 obtain ⟨y365, hy365⟩ : ∃ y_ : List Int, y_ = (([3] : List Int)) := ⟨_, rfl⟩
 replace H : ((some (([(⟨y365⟩ : S51)] : List (S51)) : List (S51))).bind fun y368 => ((some (([69, 0] : List Int) : List Int)).bind fun y371 => ((op_Check.f k 2 y368 1 1 y371 0 0 1 3 0 (⟨#[107]⟩ : ByteArray) 0 ([] : List (S84)) ([] : List (S25))).bind fun t375 => (if t375 = 1 then (raddlelaw07_OpDots.l0 k (wrap64 (1 + (wrap64 (Int.tmod (IntKind.u64.wrap (a0)) 65)))) a1 y368 0 1 1 y371 0 0 1 3 0 (⟨#[107]⟩ : ByteArray) 0 ([] : List (S25))) else (some false))))) = some r := by first | (rw [hy365]; with_reducible exact H) | (have H2_ := (Option.bind_some _ _).symm.trans H; rw [hy365]; with_reducible exact H2_) | (have H2_ := (Option.bind_some _ _).symm.trans H; with_reducible exact H2_) | with_reducible exact H | (rw [hy365]; exact H) | exact H
 have Ny365 := mk_ hy365
 clear hy365
 obtain ⟨y368, hy368⟩ : ∃ y_ : List (S51), y_ = (([(⟨y365⟩ : S51)] : List (S51))) := ⟨_, rfl⟩
 replace H : ((some (([69, 0] : List Int) : List Int)).bind fun y371 => ((op_Check.f k 2 y368 1 1 y371 0 0 1 3 0 (⟨#[107]⟩ : ByteArray) 0 ([] : List (S84)) ([] : List (S25))).bind fun t375 => (if t375 = 1 then (raddlelaw07_OpDots.l0 k (wrap64 (1 + (wrap64 (Int.tmod (IntKind.u64.wrap (a0)) 65)))) a1 y368 0 1 1 y371 0 0 1 3 0 (⟨#[107]⟩ : ByteArray) 0 ([] : List (S25))) else (some false)))) = some r := by first | (rw [hy368]; with_reducible exact H) | (have H2_ := (Option.bind_some _ _).symm.trans H; rw [hy368]; with_reducible exact H2_) | (have H2_ := (Option.bind_some _ _).symm.trans H; with_reducible exact H2_) | with_reducible exact H | (rw [hy368]; exact H) | exact H
 have Ny368 := mk_ hy368
 clear hy368
 obtain ⟨y371, hy371⟩ : ∃ y_ : List Int, y_ = (([69, 0] : List Int)) := ⟨_, rfl⟩
 replace H : ((op_Check.f k 2 y368 1 1 y371 0 0 1 3 0 (⟨#[107]⟩ : ByteArray) 0 ([] : List (S84)) ([] : List (S25))).bind fun t375 => (if t375 = 1 then (raddlelaw07_OpDots.l0 k (wrap64 (1 + (wrap64 (Int.tmod (IntKind.u64.wrap (a0)) 65)))) a1 y368 0 1 1 y371 0 0 1 3 0 (⟨#[107]⟩ : ByteArray) 0 ([] : List (S25))) else (some false))) = some r := by first | (rw [hy371]; with_reducible exact H) | (have H2_ := (Option.bind_some _ _).symm.trans H; rw [hy371]; with_reducible exact H2_) | (have H2_ := (Option.bind_some _ _).symm.trans H; with_reducible exact H2_) | with_reducible exact H | (rw [hy371]; exact H) | exact H
 have Ny371 := mk_ hy371
 clear hy371
 replace H := Option.bind_eq_some_iff.mp H
 obtain ⟨t375, A30, H⟩ := H
 replace H : (if t375 = 1 then (raddlelaw07_OpDots.l0 k (wrap64 (1 + (wrap64 (Int.tmod (IntKind.u64.wrap (a0)) 65)))) a1 y368 0 1 1 y371 0 0 1 3 0 (⟨#[107]⟩ : ByteArray) 0 ([] : List (S25))) else (some false)) = some r := H
 have A3 := mk_ A30
 clear A30
 by_cases c4 : t375 = 1
 rotate_left
 ·
  rw [if_neg c4] at H
  have c4b0 : (t375 == 1) = false := beq_eq_false_iff_ne.mpr c4
  have c4b1 : (t375 != 1) = true := bne_iff_ne.mpr c4
  exact absurd H (by rw [hrt]; simp)
 rw [if_pos c4] at H
 have c4b0 : (t375 == 1) = true := beq_iff_eq.mpr c4
 have c4b1 : (t375 != 1) = false := bne_eq_false_iff_eq.mpr c4
 clear c4
 have H' := mk_ H
 clear H
 go_enter Try.func6, Try.ntmps6
 go_wp2_with (first | ((with_reducible refine gate_dst (N := 14) rfl ?_); refine R_lit (Kd.int .i64) _ 3 ?hg (N := 14) ?hd (xs := ([3] : List Int)) (inner := [.int .i64 3]) (ok := fun _ => True) (okp := fun _ => True) ?hr ?hp (fun _ hk => hk) trivial (Below.refl _ _) (Nat.le_refl _) (by simp) ?_; (case hd => rfl); (case hg => rfl); (case hr => first | (go_simp; done) | (go_simp; rfl)); (case hp => exact (Reps.one (show Kd.M (Kd.int .i64) _ _ _ 3 [.int .i64 3] from rfl) (Reps.none _ _))); intro v366 w5 ho6 hb hg_ hnew_; clear hg_ hnew_; (first | rw [← Ny365.out] at ho6 | (simp only [Int.reduceToNat] at ho6; rw [← Ny365.out] at ho6)); have n0_ := mk_ (R_lower ho6 (below_size (Short.hB HB))); have n1_ := mk_ (below_step (Short.hB HB) hb); clear HB; revert n0_ n1_; intro HO367 HB; clear hb ho6; obtain ⟨Ao7, co7, eo7⟩ := R_slice HO367.out; subst eo7) | ((with_reducible refine gate_dst (N := 16) rfl ?_); refine N_lit k51 _ 51 ?hg (N' := 16) ?hd (xs := ([(⟨y365⟩ : S51)] : List (S51))) (inner := [.slice Ao7 y365.length co7]) (ok := (fun _ => True)) (okp := (fun _ => True)) ?hr ?hp (fun _ hk => hk) ((show ∀ k_, w5.heap.size ≤ k_ → (fun _ => True) k_ from fun k_ hk => trivial) _ (Nat.le_refl _)) (Below.refl _ _) (Nat.le_refl _) (by simp) ?_; (case hd => rfl); (case hg => rfl); (case hr => first | (go_simp; done) | (go_simp; rfl)); (case hp => exact (Reps.one (show Kd.FK k51 _ _ (⟨y365⟩ : S51) [.slice Ao7 y365.length co7] from (k51_mkF _ _ (⟨y365⟩ : S51) (R_reads' (R_mono (ok' := (fun _ => True)) (HO367.out) (fun k_ hk => trivial))).2.1 (R_F (R_mono (ok' := (fun _ => True)) (HO367.out) (fun k_ hk => trivial))))) (Reps.none _ _))); intro v369 w8 ho9 hb hg_ hnew_; clear hg_ hnew_; (first | rw [← Ny368.out] at ho9 | (simp only [Int.reduceToNat] at ho9; rw [← Ny368.out] at ho9)); have n0_ := mk_ (N_lower ho9 (below_size (Short.hB HB))); have n1_ := mk_ (below_step (Short.hB HB) hb); clear HB HO367; revert n0_ n1_; intro HO370 HB; clear hb ho9) | ((with_reducible refine gate_dst (N := 18) rfl ?_); refine R_lit (Kd.int .i64) _ 3 ?hg (N := 18) ?hd (xs := ([69, 0] : List Int)) (inner := [.int .i64 69, .int .i64 0]) (ok := fun _ => True) (okp := fun _ => True) ?hr ?hp (fun _ hk => hk) trivial (Below.refl _ _) (Nat.le_refl _) (by simp) ?_; (case hd => rfl); (case hg => rfl); (case hr => first | (go_simp; done) | (go_simp; rfl)); (case hp => exact (Reps.one (show Kd.M (Kd.int .i64) _ _ _ 69 [.int .i64 69] from rfl) (Reps.one (show Kd.M (Kd.int .i64) _ _ _ 0 [.int .i64 0] from rfl) (Reps.none _ _)))); intro v372 w10 ho11 hb hg_ hnew_; clear hg_ hnew_; (first | rw [← Ny371.out] at ho11 | (simp only [Int.reduceToNat] at ho11; rw [← Ny371.out] at ho11)); have n0_ := mk_ (N_elder' (ZKN HO370) (R_base ho11) hb); have n1_ := mk_ (R_lower ho11 (below_size (Short.hB HB))); have n2_ := mk_ (below_step (Short.hB HB) hb); clear HO370 HB; revert n0_ n1_ n2_; intro HO370 HO373 HB; clear hb ho11; obtain ⟨Ao12, co12, eo12⟩ := R_slice HO373.out; subst eo12) | ((with_reducible refine gate_dst (N := 6) rfl ?_); refine box_event ?hg (N := 6) ?hd (cs := #[.int .i64 0, .int .i64 0, .slice none 0 0, .int .i64 0, .int .i64 0, .int .i64 0, .int .i64 0, .int .i64 0, .string (⟨#[]⟩ : ByteArray), .int .i64 0, .slice none 0 0, .slice none 0 0]) (t := 32) ?hr ?_; (case hd => rfl); (case hg => rfl); (case hr => first | (go_simp; done) | (go_simp; rfl)); intro gb374 hg w13 hbox hb; have n0_ := mk_ (N_below (N_elderB (ZKN HO370) gb374 (Nat.le_of_eq hg.symm)) hb); have n1_ := mk_ (R_below (ZKR HO373) hb); have n2_ := mk_ (below_step (Short.hB HB) hb); have n3_ := mk_ (hbox); have n4_ := mk_ ((by rw [hg]; exact (below_size (Short.hB HB)) : w.heap.size ≤ gb374)); have n5_ := mk_ ((by rw [hg]; exact (below_size (Short.hB HB)) : w.heap.size ≤ gb374)); clear HO370 HO373 HB; revert n0_ n1_ n2_ n3_ n4_ n5_; intro HO370 HO373 HB BK374 GW374 GE374; clear hb hbox hg; have hcz14_0 : w13.cell? ⟨gb374, 0, none⟩ = some (.int .i64 0) := kc_ BK374 0; have hcz14_1 : w13.cell? ⟨gb374, 1, none⟩ = some (.int .i64 0) := kc_ BK374 1; have hcz14_2 : w13.cell? ⟨gb374, 2, none⟩ = some (.slice none 0 0) := kc_ BK374 2; have hcz14_3 : w13.cell? ⟨gb374, 3, none⟩ = some (.int .i64 0) := kc_ BK374 3; have hcz14_4 : w13.cell? ⟨gb374, 4, none⟩ = some (.int .i64 0) := kc_ BK374 4; have hcz14_5 : w13.cell? ⟨gb374, 5, none⟩ = some (.int .i64 0) := kc_ BK374 5; have hcz14_6 : w13.cell? ⟨gb374, 6, none⟩ = some (.int .i64 0) := kc_ BK374 6; have hcz14_7 : w13.cell? ⟨gb374, 7, none⟩ = some (.int .i64 0) := kc_ BK374 7; have hcz14_8 : w13.cell? ⟨gb374, 8, none⟩ = some (.string (⟨#[]⟩ : ByteArray)) := kc_ BK374 8; have hcz14_9 : w13.cell? ⟨gb374, 9, none⟩ = some (.int .i64 0) := kc_ BK374 9; have hcz14_10 : w13.cell? ⟨gb374, 10, none⟩ = some (.slice none 0 0) := kc_ BK374 10; have hcz14_11 : w13.cell? ⟨gb374, 11, none⟩ = some (.slice none 0 0) := kc_ BK374 11; have hfz14_0 := blk_frozen BK374.out 0; have hfz14_1 := blk_frozen BK374.out 1; have hfz14_2 := blk_frozen BK374.out 2; have hfz14_3 := blk_frozen BK374.out 3; have hfz14_4 := blk_frozen BK374.out 4; have hfz14_5 := blk_frozen BK374.out 5; have hfz14_6 := blk_frozen BK374.out 6; have hfz14_7 := blk_frozen BK374.out 7; have hfz14_8 := blk_frozen BK374.out 8; have hfz14_9 := blk_frozen BK374.out 9; have hfz14_10 := blk_frozen BK374.out 10; have hfz14_11 := blk_frozen BK374.out 11; obtain ⟨Ao15, co15, eo15⟩ := N_slice HO370.out; subst eo15) | ((with_reducible refine gate_callee (f := 19) rfl ?_); refine Short.gL (some 23) Try.func19 #[.int .i64 2, .slice Ao15 y368.length co15, .agg #[.int .i64 1, .int .i64 1, .slice Ao12 y371.length co12, .int .i64 0, .int .i64 0, .int .i64 1, .int .i64 3, .int .i64 0, .string (⟨#[107]⟩ : ByteArray), .int .i64 0, .slice none 0 0, .slice none 0 0]] (h := ?_); (refine (op_Check.calls k 2 _ _ y368 1 1 _ _ y371 0 0 1 3 0 (⟨#[107]⟩ : ByteArray) 0 _ _ ([] : List (S84)) _ _ ([] : List (S25)) t375 _ ?side1 ?side2 ?side3 ?side4 ?side5 ?side6 ?side7 ?side8 A3.out).mono ?_); (case side1 => refine (N_reads' (e := 51) (base := w.heap.size) (ok := fun k_ => ((True ∧ nb_ k_ (.slice Ao12 y371.length co12)) ∧ k_ ≠ gb374)) (n := y368.length) (c := co15) ?_).2.2; exact (by (with_reducible repeat (first | apply N_alloc | apply N_drewN | apply N_drew)); exact (N_mono (N_far (p := ⟨gb374, 11, none⟩) (N_far (p := ⟨gb374, 10, none⟩) (N_far (p := ⟨gb374, 9, none⟩) (N_far (p := ⟨gb374, 8, none⟩) (N_far (p := ⟨gb374, 7, none⟩) (N_far (p := ⟨gb374, 6, none⟩) (N_far (p := ⟨gb374, 5, none⟩) (N_far (p := ⟨gb374, 4, none⟩) (N_far (p := ⟨gb374, 3, none⟩) (N_far (p := ⟨gb374, 2, none⟩) (N_far (p := ⟨gb374, 1, none⟩) (N_far (p := ⟨gb374, 0, none⟩) (N_mono HO370.out (fun k_ hk => (⟨hk, hk.2⟩ : _ ∧ k_ ≠ gb374))) (fun _ hk => hk.2) (.int .i64 1)) (fun _ hk => hk.2) (.int .i64 1)) (fun _ hk => hk.2) (.slice Ao12 y371.length co12)) (fun _ hk => hk.2) (.int .i64 0)) (fun _ hk => hk.2) (.int .i64 0)) (fun _ hk => hk.2) (.int .i64 1)) (fun _ hk => hk.2) (.int .i64 3)) (fun _ hk => hk.2) (.int .i64 0)) (fun _ hk => hk.2) (.string (⟨#[107]⟩ : ByteArray))) (fun _ hk => hk.2) (.int .i64 0)) (fun _ hk => hk.2) (.slice none 0 0)) (fun _ hk => hk.2) (.slice none 0 0)) (fun _ h_ => h_.1)))); (case side2 => exact (N_reads' HO370.out).2.1); (case side3 => refine (R_reads' (e := 3) (base := w.heap.size) (ok := fun k_ => True) (n := y371.length) (c := co12) ?_).2.2; exact (by (with_reducible repeat (first | apply R_alloc | apply R_drewN | apply R_drew)); exact (R_mono (R_far (p := ⟨gb374, 11, none⟩) (R_far (p := ⟨gb374, 10, none⟩) (R_far (p := ⟨gb374, 9, none⟩) (R_far (p := ⟨gb374, 8, none⟩) (R_far (p := ⟨gb374, 7, none⟩) (R_far (p := ⟨gb374, 6, none⟩) (R_far (p := ⟨gb374, 5, none⟩) (R_far (p := ⟨gb374, 4, none⟩) (R_far (p := ⟨gb374, 3, none⟩) (R_far (p := ⟨gb374, 2, none⟩) (R_far (p := ⟨gb374, 1, none⟩) (R_far (p := ⟨gb374, 0, none⟩) (R_types HO373.out BK374.out z5) (fun _ hk => hk.2) (.int .i64 1)) (fun _ hk => hk.2) (.int .i64 1)) (fun _ hk => hk.2) (.slice Ao12 y371.length co12)) (fun _ hk => hk.2) (.int .i64 0)) (fun _ hk => hk.2) (.int .i64 0)) (fun _ hk => hk.2) (.int .i64 1)) (fun _ hk => hk.2) (.int .i64 3)) (fun _ hk => hk.2) (.int .i64 0)) (fun _ hk => hk.2) (.string (⟨#[107]⟩ : ByteArray))) (fun _ hk => hk.2) (.int .i64 0)) (fun _ hk => hk.2) (.slice none 0 0)) (fun _ hk => hk.2) (.slice none 0 0)) (fun _ h_ => h_.1)))); (case side4 => exact (R_reads' HO373.out).2.1); (case side5 => exact C_nil _ _); (case side6 => exact Nat.le_refl _); (case side7 => exact C_nil _ _); (case side8 => exact Nat.le_refl _); rintro e w16 ⟨rfl, hb⟩; refine ⟨_, rfl, ?_⟩; have n0_ := mk_ (N_below (by (with_reducible repeat (first | apply N_alloc | apply N_drewN | apply N_drew)); exact (N_mono (N_far (p := ⟨gb374, 11, none⟩) (N_far (p := ⟨gb374, 10, none⟩) (N_far (p := ⟨gb374, 9, none⟩) (N_far (p := ⟨gb374, 8, none⟩) (N_far (p := ⟨gb374, 7, none⟩) (N_far (p := ⟨gb374, 6, none⟩) (N_far (p := ⟨gb374, 5, none⟩) (N_far (p := ⟨gb374, 4, none⟩) (N_far (p := ⟨gb374, 3, none⟩) (N_far (p := ⟨gb374, 2, none⟩) (N_far (p := ⟨gb374, 1, none⟩) (N_far (p := ⟨gb374, 0, none⟩) (N_mono HO370.out (fun k_ hk => (⟨hk, hk.2⟩ : _ ∧ k_ ≠ gb374))) (fun _ hk => hk.2) (.int .i64 1)) (fun _ hk => hk.2) (.int .i64 1)) (fun _ hk => hk.2) (.slice Ao12 y371.length co12)) (fun _ hk => hk.2) (.int .i64 0)) (fun _ hk => hk.2) (.int .i64 0)) (fun _ hk => hk.2) (.int .i64 1)) (fun _ hk => hk.2) (.int .i64 3)) (fun _ hk => hk.2) (.int .i64 0)) (fun _ hk => hk.2) (.string (⟨#[107]⟩ : ByteArray))) (fun _ hk => hk.2) (.int .i64 0)) (fun _ hk => hk.2) (.slice none 0 0)) (fun _ hk => hk.2) (.slice none 0 0)) (fun _ h_ => h_.1))) hb); have n1_ := mk_ (R_below (by (with_reducible repeat (first | apply R_alloc | apply R_drewN | apply R_drew)); exact (R_mono (R_far (p := ⟨gb374, 11, none⟩) (R_far (p := ⟨gb374, 10, none⟩) (R_far (p := ⟨gb374, 9, none⟩) (R_far (p := ⟨gb374, 8, none⟩) (R_far (p := ⟨gb374, 7, none⟩) (R_far (p := ⟨gb374, 6, none⟩) (R_far (p := ⟨gb374, 5, none⟩) (R_far (p := ⟨gb374, 4, none⟩) (R_far (p := ⟨gb374, 3, none⟩) (R_far (p := ⟨gb374, 2, none⟩) (R_far (p := ⟨gb374, 1, none⟩) (R_far (p := ⟨gb374, 0, none⟩) (R_types HO373.out BK374.out z5) (fun _ hk => hk.2) (.int .i64 1)) (fun _ hk => hk.2) (.int .i64 1)) (fun _ hk => hk.2) (.slice Ao12 y371.length co12)) (fun _ hk => hk.2) (.int .i64 0)) (fun _ hk => hk.2) (.int .i64 0)) (fun _ hk => hk.2) (.int .i64 1)) (fun _ hk => hk.2) (.int .i64 3)) (fun _ hk => hk.2) (.int .i64 0)) (fun _ hk => hk.2) (.string (⟨#[107]⟩ : ByteArray))) (fun _ hk => hk.2) (.int .i64 0)) (fun _ hk => hk.2) (.slice none 0 0)) (fun _ hk => hk.2) (.slice none 0 0)) (fun _ h_ => h_.1))) hb); have n2_ := mk_ (blk_below (g := gb374) (o := .cells #[.int .i64 1, .int .i64 1, .slice Ao12 y371.length co12, .int .i64 0, .int .i64 0, .int .i64 1, .int .i64 3, .int .i64 0, .string (⟨#[107]⟩ : ByteArray), .int .i64 0, .slice none 0 0, .slice none 0 0] 32 (0, 0)) (by (with_reducible repeat (first | refine blk_drewN ?_ _ | refine blk_drew ?_ | refine blk_alloc ?_ _)); refine blk_put (cs := #[.int .i64 1, .int .i64 1, .slice Ao12 y371.length co12, .int .i64 0, .int .i64 0, .int .i64 1, .int .i64 3, .int .i64 0, .string (⟨#[107]⟩ : ByteArray), .int .i64 0, .slice none 0 0, .slice none 0 0]) ?_ 11 _ rfl; (with_reducible repeat (first | refine blk_drewN ?_ _ | refine blk_drew ?_ | refine blk_alloc ?_ _)); refine blk_put (cs := #[.int .i64 1, .int .i64 1, .slice Ao12 y371.length co12, .int .i64 0, .int .i64 0, .int .i64 1, .int .i64 3, .int .i64 0, .string (⟨#[107]⟩ : ByteArray), .int .i64 0, .slice none 0 0, .slice none 0 0]) ?_ 10 _ rfl; (with_reducible repeat (first | refine blk_drewN ?_ _ | refine blk_drew ?_ | refine blk_alloc ?_ _)); refine blk_put (cs := #[.int .i64 1, .int .i64 1, .slice Ao12 y371.length co12, .int .i64 0, .int .i64 0, .int .i64 1, .int .i64 3, .int .i64 0, .string (⟨#[107]⟩ : ByteArray), .int .i64 0, .slice none 0 0, .slice none 0 0]) ?_ 9 _ rfl; (with_reducible repeat (first | refine blk_drewN ?_ _ | refine blk_drew ?_ | refine blk_alloc ?_ _)); refine blk_put (cs := #[.int .i64 1, .int .i64 1, .slice Ao12 y371.length co12, .int .i64 0, .int .i64 0, .int .i64 1, .int .i64 3, .int .i64 0, .string (⟨#[]⟩ : ByteArray), .int .i64 0, .slice none 0 0, .slice none 0 0]) ?_ 8 _ rfl; (with_reducible repeat (first | refine blk_drewN ?_ _ | refine blk_drew ?_ | refine blk_alloc ?_ _)); refine blk_put (cs := #[.int .i64 1, .int .i64 1, .slice Ao12 y371.length co12, .int .i64 0, .int .i64 0, .int .i64 1, .int .i64 3, .int .i64 0, .string (⟨#[]⟩ : ByteArray), .int .i64 0, .slice none 0 0, .slice none 0 0]) ?_ 7 _ rfl; (with_reducible repeat (first | refine blk_drewN ?_ _ | refine blk_drew ?_ | refine blk_alloc ?_ _)); refine blk_put (cs := #[.int .i64 1, .int .i64 1, .slice Ao12 y371.length co12, .int .i64 0, .int .i64 0, .int .i64 1, .int .i64 0, .int .i64 0, .string (⟨#[]⟩ : ByteArray), .int .i64 0, .slice none 0 0, .slice none 0 0]) ?_ 6 _ rfl; (with_reducible repeat (first | refine blk_drewN ?_ _ | refine blk_drew ?_ | refine blk_alloc ?_ _)); refine blk_put (cs := #[.int .i64 1, .int .i64 1, .slice Ao12 y371.length co12, .int .i64 0, .int .i64 0, .int .i64 0, .int .i64 0, .int .i64 0, .string (⟨#[]⟩ : ByteArray), .int .i64 0, .slice none 0 0, .slice none 0 0]) ?_ 5 _ rfl; (with_reducible repeat (first | refine blk_drewN ?_ _ | refine blk_drew ?_ | refine blk_alloc ?_ _)); refine blk_put (cs := #[.int .i64 1, .int .i64 1, .slice Ao12 y371.length co12, .int .i64 0, .int .i64 0, .int .i64 0, .int .i64 0, .int .i64 0, .string (⟨#[]⟩ : ByteArray), .int .i64 0, .slice none 0 0, .slice none 0 0]) ?_ 4 _ rfl; (with_reducible repeat (first | refine blk_drewN ?_ _ | refine blk_drew ?_ | refine blk_alloc ?_ _)); refine blk_put (cs := #[.int .i64 1, .int .i64 1, .slice Ao12 y371.length co12, .int .i64 0, .int .i64 0, .int .i64 0, .int .i64 0, .int .i64 0, .string (⟨#[]⟩ : ByteArray), .int .i64 0, .slice none 0 0, .slice none 0 0]) ?_ 3 _ rfl; (with_reducible repeat (first | refine blk_drewN ?_ _ | refine blk_drew ?_ | refine blk_alloc ?_ _)); refine blk_put (cs := #[.int .i64 1, .int .i64 1, .slice none 0 0, .int .i64 0, .int .i64 0, .int .i64 0, .int .i64 0, .int .i64 0, .string (⟨#[]⟩ : ByteArray), .int .i64 0, .slice none 0 0, .slice none 0 0]) ?_ 2 _ rfl; (with_reducible repeat (first | refine blk_drewN ?_ _ | refine blk_drew ?_ | refine blk_alloc ?_ _)); refine blk_put (cs := #[.int .i64 1, .int .i64 0, .slice none 0 0, .int .i64 0, .int .i64 0, .int .i64 0, .int .i64 0, .int .i64 0, .string (⟨#[]⟩ : ByteArray), .int .i64 0, .slice none 0 0, .slice none 0 0]) ?_ 1 _ rfl; (with_reducible repeat (first | refine blk_drewN ?_ _ | refine blk_drew ?_ | refine blk_alloc ?_ _)); refine blk_put (cs := #[.int .i64 0, .int .i64 0, .slice none 0 0, .int .i64 0, .int .i64 0, .int .i64 0, .int .i64 0, .int .i64 0, .string (⟨#[]⟩ : ByteArray), .int .i64 0, .slice none 0 0, .slice none 0 0]) ?_ 0 _ rfl; (with_reducible repeat (first | refine blk_drewN ?_ _ | refine blk_drew ?_ | refine blk_alloc ?_ _)); exact BK374.out) hb); have n3_ := mk_ (below_step (Short.hB HB) hb); clear HO370 HO373 BK374 HB; revert n0_ n1_ n2_ n3_; intro HO370 HO373 BK374 HB; (try clear hb)))
 go_loopg [7] k (fun kq v7 w' => ∃ (x7_1 : Int) (x375011_1 : List (S25)) (u375011 : Value), v7 = .int .i64 x7_1 ∧ Aside0 (raddlelaw07_OpDots.l0 kq (wrap64 (1 + (wrap64 (Int.tmod (IntKind.u64.wrap (a0)) 65)))) a1 y368 x7_1 1 1 y371 0 0 1 3 0 (⟨#[107]⟩ : ByteArray) 0 x375011_1 = some r) ∧ Aside0 (kq ≤ k) ∧ Aside0 (Kd.N k51 51 w' w.heap.size (fun k_ => nb_ k_ ((.slice Ao12 y371.length co12)) ∧ nb_ k_ (u375011) ∧ k_ ≠ gb374) (.slice Ao15 y368.length co15) y368) ∧ Aside0 (Kd.R (Kd.int .i64) 3 w' w.heap.size (fun _ => True) (.slice Ao12 y371.length co12) y371) ∧ Aside0 (Kd.R k25 25 w' w.heap.size (fun _ => True) u375011 x375011_1) ∧ Aside0 (w'.heap[gb374]? = some (.cells #[.int .i64 1, .int .i64 1, (.slice Ao12 y371.length co12), .int .i64 0, .int .i64 0, .int .i64 1, .int .i64 3, .int .i64 0, .string (⟨#[107]⟩ : ByteArray), .int .i64 0, (.slice none 0 0), u375011] 32 (0, 0))) ∧ Aside0 (Below w.heap.size w w'))
 case atStart => exact ⟨(0), (([] : List (S25))), (.slice none 0 0), z4, H', ⟨Nat.le_refl _⟩, ⟨by (with_reducible repeat (first | apply N_alloc | apply N_drewN | apply N_drew)); exact N_mono HO370.out (fun _ hk => ⟨hk.1.2, ⟨(by simp [Value.ownBlock]), hk.2⟩⟩)⟩, ⟨by (with_reducible repeat (first | apply R_alloc | apply R_drewN | apply R_drew)); exact HO373.out⟩, ⟨by first | exact R_nil _ _ _ _ _ | exact N_nil _ _ _ _ _ | exact V_nil _ _ _ _ _ | exact Q_nil _ _ _ _ _ | exact S_nil _ _ _ _ _⟩, ⟨by (with_reducible repeat (first | refine blk_drewN ?_ _ | refine blk_drew ?_ | refine blk_alloc ?_ _)); exact BK374.out⟩, ⟨Short.hB HB⟩⟩
 case round =>
  clear H'
  try clear c1
  try clear p2
  try clear c4
  try clear c4b0
  try clear c4b1
  try clear c6
  try clear p6
  try clear hcz14_0
  try clear hcz14_1
  try clear hcz14_10
  try clear hcz14_11
  try clear hcz14_2
  try clear hcz14_3
  try clear hcz14_4
  try clear hcz14_5
  try clear hcz14_6
  try clear hcz14_7
  try clear hcz14_8
  try clear hcz14_9
  try clear hfz14_0
  try clear hfz14_1
  try clear hfz14_10
  try clear hfz14_11
  try clear hfz14_2
  try clear hfz14_3
  try clear hfz14_4
  try clear hfz14_5
  try clear hfz14_6
  try clear hfz14_7
  try clear hfz14_8
  try clear hfz14_9
  obtain ⟨x7_1, x375011_1, u375011, rfl, HA, HK1, HO_5, HO_375002, HO_375011, BK374, HB⟩ := hrel
  cases gk with
  | zero => exact absurd HA.out (by simp [raddlelaw07_OpDots.l0])
  | succ k1 =>
   have H := HA.out
   clear HA
   simp only [raddlelaw07_OpDots.l0] at H
   by_cases c17 : x7_1 < (wrap64 (1 + (wrap64 (Int.tmod (IntKind.u64.wrap (a0)) 65))))
   ·
    rw [if_pos c17] at H
    have c17b0 : decide (x7_1 < (wrap64 (1 + (wrap64 (Int.tmod (IntKind.u64.wrap (a0)) 65))))) = true := decide_eq_true c17
    clear c17
    by_cases c18 : x375011_1.length < 8796093022208
    rotate_left
    ·
     rw [if_neg c18] at H
     exact absurd H (by simp)
    rw [if_pos c18] at H
    have LMc18 := mk_ c18
    clear c18
    obtain ⟨y376, hy376⟩ : ∃ y_ : List (S25), y_ = (x375011_1 ++ [(⟨0, wrap64 (x7_1 + 1)⟩ : S25)]) := ⟨_, rfl⟩
    replace H : (raddlelaw07_OpDots.l0 k1 (wrap64 (1 + (wrap64 (Int.tmod (IntKind.u64.wrap (a0)) 65)))) a1 y368 (wrap64 (x7_1 + 1)) 1 1 y371 0 0 1 3 0 (⟨#[107]⟩ : ByteArray) 0 y376) = some r := by first | (rw [hy376]; with_reducible exact H) | (have H2_ := (Option.bind_some _ _).symm.trans H; rw [hy376]; with_reducible exact H2_) | (have H2_ := (Option.bind_some _ _).symm.trans H; with_reducible exact H2_) | with_reducible exact H | (rw [hy376]; exact H) | exact H
    have Ny376 := mk_ hy376
    clear hy376
    have H' := mk_ H
    clear H
    have hcz19_0 : wr.cell? ⟨gb374, 0, none⟩ = some (.int .i64 1) := kc_ BK374 0
    have hcz19_1 : wr.cell? ⟨gb374, 1, none⟩ = some (.int .i64 1) := kc_ BK374 1
    have hcz19_2 : wr.cell? ⟨gb374, 2, none⟩ = some (.slice Ao12 y371.length co12) := kc_ BK374 2
    have hcz19_3 : wr.cell? ⟨gb374, 3, none⟩ = some (.int .i64 0) := kc_ BK374 3
    have hcz19_4 : wr.cell? ⟨gb374, 4, none⟩ = some (.int .i64 0) := kc_ BK374 4
    have hcz19_5 : wr.cell? ⟨gb374, 5, none⟩ = some (.int .i64 1) := kc_ BK374 5
    have hcz19_6 : wr.cell? ⟨gb374, 6, none⟩ = some (.int .i64 3) := kc_ BK374 6
    have hcz19_7 : wr.cell? ⟨gb374, 7, none⟩ = some (.int .i64 0) := kc_ BK374 7
    have hcz19_8 : wr.cell? ⟨gb374, 8, none⟩ = some (.string (⟨#[107]⟩ : ByteArray)) := kc_ BK374 8
    have hcz19_9 : wr.cell? ⟨gb374, 9, none⟩ = some (.int .i64 0) := kc_ BK374 9
    have hcz19_10 : wr.cell? ⟨gb374, 10, none⟩ = some (.slice none 0 0) := kc_ BK374 10
    have hcz19_11 : wr.cell? ⟨gb374, 11, none⟩ = some (u375011) := kc_ BK374 11
    have hfz19_0 := blk_frozen BK374.out 0
    have hfz19_1 := blk_frozen BK374.out 1
    have hfz19_2 := blk_frozen BK374.out 2
    have hfz19_3 := blk_frozen BK374.out 3
    have hfz19_4 := blk_frozen BK374.out 4
    have hfz19_5 := blk_frozen BK374.out 5
    have hfz19_6 := blk_frozen BK374.out 6
    have hfz19_7 := blk_frozen BK374.out 7
    have hfz19_8 := blk_frozen BK374.out 8
    have hfz19_9 := blk_frozen BK374.out 9
    have hfz19_10 := blk_frozen BK374.out 10
    have hfz19_11 := blk_frozen BK374.out 11
    go_wp2_with (first | ((with_reducible refine gate_builtin (b := .append) (xs := #[.tmp 31, .tmp 35]) rfl ?_); at_builtin; refine R_append k25 (w0 := w) w.heap.size rfl (.tmp 31) (.tmp 35) 30 25 (.agg #[(.int .i64 0), (.int .i64 0)]) 16 rfl Try.underlying30 info25 rfl z5 z3 u375011 x375011_1 (⟨0, wrap64 (x7_1 + 1)⟩ : S25) [.int .i64 0, .int .i64 (wrap64 (x7_1 + 1))] (fun _ => True) (fun _ => False) rfl rfl ?aP (fun _ hk => hk.elim) ?aF ?aO ?aB ?aS ?aL ?_; (case aP => exact k25_mkM _ _ _ (⟨0, wrap64 (x7_1 + 1)⟩ : S25)); (case aB => exact (Short.hB HB)); (case aF => exact (fun _ _ => trivial)); (case aO => exact (ZKR HO_375011)); (case aS => exact (below_size (Short.hB HB))); (case aL => have := LMc18.out; omega); intro v377 w20 ho hb hg hat; rw [← Ny376.out] at ho; have n0_ := mk_ (N_afterv (ok := (fun k_ => nb_ k_ (.slice Ao12 y371.length co12) ∧ k_ ≠ gb374)) (nM_ HO_5 (fun _ hk => ⟨⟨hk.1, hk.2.2⟩, hk.2.1⟩)) hg hat); have n1_ := mk_ (R_over' (ZKR HO_375002) (R_typed (ZKR HO_375011)) z5 hg); have n2_ := mk_ (blk_grown (g := gb374) (o := .cells #[.int .i64 1, .int .i64 1, .slice Ao12 y371.length co12, .int .i64 0, .int .i64 0, .int .i64 1, .int .i64 3, .int .i64 0, .string (⟨#[107]⟩ : ByteArray), .int .i64 0, .slice none 0 0, u375011] 32 (0, 0)) (Short.bK BK374) hg (R_ne HO_375011.out BK374.out z5)); have n3_ := mk_ (hb); have n4_ := mk_ (ho); clear HO_5 HO_375002 BK374 HB HO_375011; revert n0_ n1_ n2_ n3_ n4_; intro HO_5 HO_375002 BK374 HB HO378; clear ho hb hg hat; obtain ⟨Ao21, co21, eo21⟩ := R_slice HO378.out; subst eo21; have hcz22_0 : w20.cell? ⟨gb374, 0, none⟩ = some (.int .i64 1) := kc_ BK374 0; have hcz22_1 : w20.cell? ⟨gb374, 1, none⟩ = some (.int .i64 1) := kc_ BK374 1; have hcz22_2 : w20.cell? ⟨gb374, 2, none⟩ = some (.slice Ao12 y371.length co12) := kc_ BK374 2; have hcz22_3 : w20.cell? ⟨gb374, 3, none⟩ = some (.int .i64 0) := kc_ BK374 3; have hcz22_4 : w20.cell? ⟨gb374, 4, none⟩ = some (.int .i64 0) := kc_ BK374 4; have hcz22_5 : w20.cell? ⟨gb374, 5, none⟩ = some (.int .i64 1) := kc_ BK374 5; have hcz22_6 : w20.cell? ⟨gb374, 6, none⟩ = some (.int .i64 3) := kc_ BK374 6; have hcz22_7 : w20.cell? ⟨gb374, 7, none⟩ = some (.int .i64 0) := kc_ BK374 7; have hcz22_8 : w20.cell? ⟨gb374, 8, none⟩ = some (.string (⟨#[107]⟩ : ByteArray)) := kc_ BK374 8; have hcz22_9 : w20.cell? ⟨gb374, 9, none⟩ = some (.int .i64 0) := kc_ BK374 9; have hcz22_10 : w20.cell? ⟨gb374, 10, none⟩ = some (.slice none 0 0) := kc_ BK374 10; have hcz22_11 : w20.cell? ⟨gb374, 11, none⟩ = some (u375011) := kc_ BK374 11; have hfz22_0 := blk_frozen BK374.out 0; have hfz22_1 := blk_frozen BK374.out 1; have hfz22_2 := blk_frozen BK374.out 2; have hfz22_3 := blk_frozen BK374.out 3; have hfz22_4 := blk_frozen BK374.out 4; have hfz22_5 := blk_frozen BK374.out 5; have hfz22_6 := blk_frozen BK374.out 6; have hfz22_7 := blk_frozen BK374.out 7; have hfz22_8 := blk_frozen BK374.out 8; have hfz22_9 := blk_frozen BK374.out 9; have hfz22_10 := blk_frozen BK374.out 10; have hfz22_11 := blk_frozen BK374.out 11))
    go_roundg k1
    case measure => have := HK1.out; omega
    case rel => exact ⟨(wrap64 (x7_1 + 1)), (y376), (.slice Ao21 y376.length co21), z4, H', ⟨by have := HK1.out; omega⟩, ⟨by (with_reducible repeat (first | apply N_alloc | apply N_drewN | apply N_drew)); exact N_mono (N_far (p := ⟨gb374, 11, none⟩) (N_mono HO_5.out (fun k_ hk => (⟨hk, hk.1.2⟩ : _ ∧ k_ ≠ gb374))) (fun _ hk => hk.2) (.slice Ao21 y376.length co21)) (fun _ hk => ⟨hk.1.1.1, ⟨hk.1.2, hk.1.1.2⟩⟩)⟩, ⟨by (with_reducible repeat (first | apply R_alloc | apply R_drewN | apply R_drew)); exact R_mono (R_far (p := ⟨gb374, 11, none⟩) (R_types HO_375002.out BK374.out z5) (fun _ hk => hk.2) (.slice Ao21 y376.length co21)) (fun _ hk => trivial)⟩, ⟨by (with_reducible repeat (first | apply R_alloc | apply R_drewN | apply R_drew)); exact R_mono (R_far (p := ⟨gb374, 11, none⟩) (R_types HO378.out BK374.out z5) (fun _ hk => hk.2) (.slice Ao21 y376.length co21)) (fun _ hk => trivial)⟩, ⟨by (with_reducible repeat (first | refine blk_drewN ?_ _ | refine blk_drew ?_ | refine blk_alloc ?_ _)); refine blk_put (cs := #[.int .i64 1, .int .i64 1, .slice Ao12 y371.length co12, .int .i64 0, .int .i64 0, .int .i64 1, .int .i64 3, .int .i64 0, .string (⟨#[107]⟩ : ByteArray), .int .i64 0, .slice none 0 0, u375011]) ?_ 11 _ rfl; (with_reducible repeat (first | refine blk_drewN ?_ _ | refine blk_drew ?_ | refine blk_alloc ?_ _)); exact BK374.out⟩, ⟨Short.hB HB⟩⟩
   rw [if_neg c17] at H
   have c17b0 : decide (x7_1 < (wrap64 (1 + (wrap64 (Int.tmod (IntKind.u64.wrap (a0)) 65))))) = false := decide_eq_false c17
   clear c17
   have HC23 := mk_ H
   clear H
   go_upto_if 39 with (fail)
   go_cut [8] (fun v8 wc => ∃ (kq : Nat) (x8_22 : Int), v8 = .int .i64 x8_22 ∧ Aside0 (raddlelaw07_OpDots.j1 kq (wrap64 (1 + (wrap64 (Int.tmod (IntKind.u64.wrap (a0)) 65)))) a1 y368 x8_22 1 1 y371 0 0 1 3 0 (⟨#[107]⟩ : ByteArray) 0 x375011_1 = some r) ∧ Aside0 (kq ≤ k1) ∧ Aside0 (Kd.N k51 51 wc w.heap.size (fun k_ => nb_ k_ ((.slice Ao12 y371.length co12)) ∧ nb_ k_ (u375011) ∧ k_ ≠ gb374) (.slice Ao15 y368.length co15) y368) ∧ Aside0 (Kd.R (Kd.int .i64) 3 wc w.heap.size (fun _ => True) (.slice Ao12 y371.length co12) y371) ∧ Aside0 (Kd.R k25 25 wc w.heap.size (fun _ => True) u375011 x375011_1) ∧ Aside0 (wc.heap[gb374]? = some (.cells #[.int .i64 1, .int .i64 1, (.slice Ao12 y371.length co12), .int .i64 0, .int .i64 0, .int .i64 1, .int .i64 3, .int .i64 0, .string (⟨#[107]⟩ : ByteArray), .int .i64 0, (.slice none 0 0), u375011] 32 (0, 0))) ∧ Aside0 (Below w.heap.size w wc))
   case first =>
    have H := HC23.out
    clear HC23
    by_cases c24 : (wrap64 (1 + (wrap64 (Int.tmod (IntKind.u64.wrap (a0)) 65)))) > 64
    ·
     rw [if_pos c24] at H
     have c24b0 : decide (64 < (wrap64 (1 + (wrap64 (Int.tmod (IntKind.u64.wrap (a0)) 65))))) = true := decide_eq_true c24
     clear c24
     (first | rw [c24b0] | (simp only [i64_w, i32_w]; rw [c24b0]) | skip)
     have H' := mk_ H
     clear H
     go_wp2
     go_meet
     case rel => exact ⟨_, (1), z4, H', ⟨by have := HK1.out; first | omega | exact Nat.le_refl _⟩, ⟨by (with_reducible repeat (first | apply N_alloc | apply N_drewN | apply N_drew)); exact HO_5.out⟩, ⟨by (with_reducible repeat (first | apply R_alloc | apply R_drewN | apply R_drew)); exact HO_375002.out⟩, ⟨by (with_reducible repeat (first | apply R_alloc | apply R_drewN | apply R_drew)); exact HO_375011.out⟩, ⟨by (with_reducible repeat (first | refine blk_drewN ?_ _ | refine blk_drew ?_ | refine blk_alloc ?_ _)); exact BK374.out⟩, ⟨Short.hB HB⟩⟩
    rw [if_neg c24] at H
    have c24b0 : decide (64 < (wrap64 (1 + (wrap64 (Int.tmod (IntKind.u64.wrap (a0)) 65))))) = false := decide_eq_false c24
    clear c24
    (first | rw [c24b0] | (simp only [i64_w, i32_w]; rw [c24b0]) | skip)
    have H' := mk_ H
    clear H
    go_wp2
    go_meet
    case rel => exact ⟨_, (0), z4, H', ⟨by have := HK1.out; first | omega | exact Nat.le_refl _⟩, ⟨by (with_reducible repeat (first | apply N_alloc | apply N_drewN | apply N_drew)); exact HO_5.out⟩, ⟨by (with_reducible repeat (first | apply R_alloc | apply R_drewN | apply R_drew)); exact HO_375002.out⟩, ⟨by (with_reducible repeat (first | apply R_alloc | apply R_drewN | apply R_drew)); exact HO_375011.out⟩, ⟨by (with_reducible repeat (first | refine blk_drewN ?_ _ | refine blk_drew ?_ | refine blk_alloc ?_ _)); exact BK374.out⟩, ⟨Short.hB HB⟩⟩
   case rest =>
    clear HC23
    try clear c1
    try clear c2
    try clear p2
    try clear c4
    try clear c4b0
    try clear c4b1
    try clear c6
    try clear p6
    try clear c17
    try clear c17b0
    try clear c18
    try clear c19
    try clear c24
    try clear c24b0
    try clear hcz14_0
    try clear hcz14_1
    try clear hcz14_10
    try clear hcz14_11
    try clear hcz14_2
    try clear hcz14_3
    try clear hcz14_4
    try clear hcz14_5
    try clear hcz14_6
    try clear hcz14_7
    try clear hcz14_8
    try clear hcz14_9
    try clear hcz19_0
    try clear hcz19_1
    try clear hcz19_10
    try clear hcz19_11
    try clear hcz19_2
    try clear hcz19_3
    try clear hcz19_4
    try clear hcz19_5
    try clear hcz19_6
    try clear hcz19_7
    try clear hcz19_8
    try clear hcz19_9
    try clear hcz22_0
    try clear hcz22_1
    try clear hcz22_10
    try clear hcz22_11
    try clear hcz22_2
    try clear hcz22_3
    try clear hcz22_4
    try clear hcz22_5
    try clear hcz22_6
    try clear hcz22_7
    try clear hcz22_8
    try clear hcz22_9
    try clear hfz14_0
    try clear hfz14_1
    try clear hfz14_10
    try clear hfz14_11
    try clear hfz14_2
    try clear hfz14_3
    try clear hfz14_4
    try clear hfz14_5
    try clear hfz14_6
    try clear hfz14_7
    try clear hfz14_8
    try clear hfz14_9
    try clear hfz19_0
    try clear hfz19_1
    try clear hfz19_10
    try clear hfz19_11
    try clear hfz19_2
    try clear hfz19_3
    try clear hfz19_4
    try clear hfz19_5
    try clear hfz19_6
    try clear hfz19_7
    try clear hfz19_8
    try clear hfz19_9
    try clear hfz22_0
    try clear hfz22_1
    try clear hfz22_10
    try clear hfz22_11
    try clear hfz22_2
    try clear hfz22_3
    try clear hfz22_4
    try clear hfz22_5
    try clear hfz22_6
    try clear hfz22_7
    try clear hfz22_8
    try clear hfz22_9
    try clear p2
    try clear p6
    obtain ⟨kq, x8_22, rfl, HA, HJ22, HO_5, HO_375002, HO_375011, BK374, HB⟩ := hcut
    cases kq with
    | zero => exact absurd HA.out (by simp [raddlelaw07_OpDots.j1])
    | succ kj22 =>
     have H := HA.out
     clear HA
     simp only [raddlelaw07_OpDots.j1] at H
     replace H := Option.bind_eq_some_iff.mp H
     obtain ⟨t379, A250, H⟩ := H
     replace H : (if t379 = x8_22 then (if (Int.tmod (IntKind.u64.wrap (a1)) 3) = 0 then (if 0 ≤ (wrap64 ((wrap64 (1 + (wrap64 (Int.tmod (IntKind.u64.wrap (a0)) 65)))) - 1)) then (if (wrap64 ((wrap64 (1 + (wrap64 (Int.tmod (IntKind.u64.wrap (a0)) 65)))) - 1)) < (x375011_1.length : Int) then ((op_Check.f kj22 2 y368 1 1 y371 0 0 1 3 0 (⟨#[107]⟩ : ByteArray) 0 ([] : List (S84)) (x375011_1.set ((wrap64 ((wrap64 (1 + (wrap64 (Int.tmod (IntKind.u64.wrap (a0)) 65)))) - 1)) : Int).toNat (⟨(rd_T25 x375011_1 (wrap64 ((wrap64 (1 + (wrap64 (Int.tmod (IntKind.u64.wrap (a0)) 65)))) - 1))).f0, 70⟩ : S25))).bind fun t381 => (if t381 = 1 then ((raddlelaw07_wakes.f).bind fun t382 => (some t382)) else (some false))) else (none)) else (none)) else (if (Int.tmod (IntKind.u64.wrap (a1)) 3) = 1 then (if 0 ≤ (wrap64 ((wrap64 (1 + (wrap64 (Int.tmod (IntKind.u64.wrap (a0)) 65)))) - 1)) then (if (wrap64 ((wrap64 (1 + (wrap64 (Int.tmod (IntKind.u64.wrap (a0)) 65)))) - 1)) < (x375011_1.length : Int) then (if x375011_1.length < 8796093022208 then ((op_Check.f kj22 2 y368 1 1 y371 0 0 1 3 0 (⟨#[107]⟩ : ByteArray) 0 ([] : List (S84)) (x375011_1 ++ [(⟨(rd_T25 x375011_1 (wrap64 ((wrap64 (1 + (wrap64 (Int.tmod (IntKind.u64.wrap (a0)) 65)))) - 1))).f0, (rd_T25 x375011_1 (wrap64 ((wrap64 (1 + (wrap64 (Int.tmod (IntKind.u64.wrap (a0)) 65)))) - 1))).f1⟩ : S25)])).bind fun t387 => (if t387 = 1 then ((raddlelaw07_wakes.f).bind fun t388 => (some t388)) else (some false))) else (none)) else (none)) else (none)) else (if 0 < (x375011_1.length : Int) then ((op_Check.f kj22 2 y368 1 1 y371 0 0 1 3 0 (⟨#[107]⟩ : ByteArray) 0 ([] : List (S84)) (x375011_1.set (0 : Int).toNat (⟨2, (rd_T25 x375011_1 0).f1⟩ : S25))).bind fun t390 => (if t390 = 1 then ((raddlelaw07_wakes.f).bind fun t391 => (some t391)) else (some false))) else (none)))) else (some false)) = some r := H
     have A25 := mk_ A250
     clear A250
     by_cases c26 : t379 = x8_22
     rotate_left
     ·
      rw [if_neg c26] at H
      have c26b0 : (t379 == x8_22) = false := beq_eq_false_iff_ne.mpr c26
      have c26b1 : (t379 != x8_22) = true := bne_iff_ne.mpr c26
      exact absurd H (by rw [hrt]; simp)
     rw [if_pos c26] at H
     have c26b0 : (t379 == x8_22) = true := beq_iff_eq.mpr c26
     have c26b1 : (t379 != x8_22) = false := bne_eq_false_iff_eq.mpr c26
     clear c26
     by_cases c27 : (Int.tmod (IntKind.u64.wrap (a1)) 3) = 0
     ·
      rw [if_pos c27] at H
      have c27b0 : ((Int.tmod (IntKind.u64.wrap (a1)) 3) == 0) = true := beq_iff_eq.mpr c27
      have c27b1 : ((Int.tmod (IntKind.u64.wrap (a1)) 3) != 0) = false := bne_eq_false_iff_eq.mpr c27
      clear c27
      obtain ⟨ji28, hji28⟩ : ∃ j_ : Int, (wrap64 ((wrap64 (1 + (wrap64 (Int.tmod (IntKind.u64.wrap (a0)) 65)))) - 1)) = j_ := ⟨_, rfl⟩
      replace H : (if 0 ≤ (ji28) then (if (ji28) < (x375011_1.length : Int) then ((op_Check.f kj22 2 y368 1 1 y371 0 0 1 3 0 (⟨#[107]⟩ : ByteArray) 0 ([] : List (S84)) (x375011_1.set ((ji28) : Int).toNat (⟨(rd_T25 x375011_1 (ji28)).f0, 70⟩ : S25))).bind fun t381 => (if t381 = 1 then ((raddlelaw07_wakes.f).bind fun t382 => (some t382)) else (some false))) else (none)) else (none)) = some r := by first | (rw [hji28] at H; exact H) | (simp only [hji28] at H ⊢; exact H)
      (try rw [hji28] at A25)
      have hji28w : (IntKind.i64.wrap ((wrap64 (1 + (wrap64 (Int.tmod (IntKind.u64.wrap (a0)) 65)))) - 1)) = ji28 := (i64_w _).trans hji28
      by_cases c29 : 0 ≤ (ji28)
      rotate_left
      ·
       rw [if_neg c29] at H
       exact absurd H (by simp)
      rw [if_pos c29] at H
      have c29b0 : decide (0 ≤ (ji28)) = true := decide_eq_true c29
      clear c29
      by_cases c30 : (ji28) < (x375011_1.length : Int)
      rotate_left
      ·
       rw [if_neg c30] at H
       exact absurd H (by simp)
      rw [if_pos c30] at H
      have c30b0 : decide ((ji28) < (x375011_1.length : Int)) = true := decide_eq_true c30
      clear c30
      obtain ⟨y380, hy380⟩ : ∃ y_ : List (S25), y_ = (x375011_1.set ((ji28) : Int).toNat (⟨(rd_T25 x375011_1 (ji28)).f0, 70⟩ : S25)) := ⟨_, rfl⟩
      replace H : ((op_Check.f kj22 2 y368 1 1 y371 0 0 1 3 0 (⟨#[107]⟩ : ByteArray) 0 ([] : List (S84)) y380).bind fun t381 => (if t381 = 1 then ((raddlelaw07_wakes.f).bind fun t382 => (some t382)) else (some false))) = some r := by first | (rw [hy380]; with_reducible exact H) | (have H2_ := (Option.bind_some _ _).symm.trans H; rw [hy380]; with_reducible exact H2_) | (have H2_ := (Option.bind_some _ _).symm.trans H; with_reducible exact H2_) | with_reducible exact H | (rw [hy380]; exact H) | exact H
      have Ny380 := mk_ hy380
      clear hy380
      replace H := Option.bind_eq_some_iff.mp H
      obtain ⟨t381, A320, H⟩ := H
      replace H : (if t381 = 1 then ((raddlelaw07_wakes.f).bind fun t382 => (some t382)) else (some false)) = some r := H
      have A32 := mk_ A320
      clear A320
      by_cases c33 : t381 = 1
      rotate_left
      ·
       rw [if_neg c33] at H
       have c33b0 : (t381 == 1) = false := beq_eq_false_iff_ne.mpr c33
       have c33b1 : (t381 != 1) = true := bne_iff_ne.mpr c33
       exact absurd H (by rw [hrt]; simp)
      rw [if_pos c33] at H
      have c33b0 : (t381 == 1) = true := beq_iff_eq.mpr c33
      have c33b1 : (t381 != 1) = false := bne_eq_false_iff_eq.mpr c33
      clear c33
      replace H := Option.bind_eq_some_iff.mp H
      obtain ⟨t382, A340, H⟩ := H
      replace H : (some t382) = some r := H
      have A34 := mk_ A340
      clear A340
      obtain rfl := Option.some.inj H
      have hcz35_0 : wc.cell? ⟨gb374, 0, none⟩ = some (.int .i64 1) := kc_ BK374 0
      have hcz35_1 : wc.cell? ⟨gb374, 1, none⟩ = some (.int .i64 1) := kc_ BK374 1
      have hcz35_2 : wc.cell? ⟨gb374, 2, none⟩ = some (.slice Ao12 y371.length co12) := kc_ BK374 2
      have hcz35_3 : wc.cell? ⟨gb374, 3, none⟩ = some (.int .i64 0) := kc_ BK374 3
      have hcz35_4 : wc.cell? ⟨gb374, 4, none⟩ = some (.int .i64 0) := kc_ BK374 4
      have hcz35_5 : wc.cell? ⟨gb374, 5, none⟩ = some (.int .i64 1) := kc_ BK374 5
      have hcz35_6 : wc.cell? ⟨gb374, 6, none⟩ = some (.int .i64 3) := kc_ BK374 6
      have hcz35_7 : wc.cell? ⟨gb374, 7, none⟩ = some (.int .i64 0) := kc_ BK374 7
      have hcz35_8 : wc.cell? ⟨gb374, 8, none⟩ = some (.string (⟨#[107]⟩ : ByteArray)) := kc_ BK374 8
      have hcz35_9 : wc.cell? ⟨gb374, 9, none⟩ = some (.int .i64 0) := kc_ BK374 9
      have hcz35_10 : wc.cell? ⟨gb374, 10, none⟩ = some (.slice none 0 0) := kc_ BK374 10
      have hcz35_11 : wc.cell? ⟨gb374, 11, none⟩ = some (u375011) := kc_ BK374 11
      have hfz35_0 := blk_frozen BK374.out
      obtain ⟨Ao36, co36, eo36⟩ := R_slice HO_375011.out
      subst eo36
      go_wp2_with (first | ((with_reducible refine gate_callee (f := 19) rfl ?_); refine Short.gL (some 42) Try.func19 #[.int .i64 2, .slice Ao15 y368.length co15, .agg #[.int .i64 1, .int .i64 1, .slice Ao12 y371.length co12, .int .i64 0, .int .i64 0, .int .i64 1, .int .i64 3, .int .i64 0, .string (⟨#[107]⟩ : ByteArray), .int .i64 0, .slice none 0 0, .slice Ao36 x375011_1.length co36]] (h := ?_); (refine (op_Check.calls kj22 2 _ _ y368 1 1 _ _ y371 0 0 1 3 0 (⟨#[107]⟩ : ByteArray) 0 _ _ ([] : List (S84)) _ _ x375011_1 t379 _ ?side1 ?side2 ?side3 ?side4 ?side5 ?side6 ?side7 ?side8 A25.out).mono ?_); (case side1 => exact cX_ (N_reads' HO_5.out).2.2); (case side2 => exact (N_reads' HO_5.out).2.1); (case side3 => exact cX_ (R_reads' HO_375002.out).2.2); (case side4 => exact (R_reads' HO_375002.out).2.1); (case side5 => exact C_nil _ _); (case side6 => exact Nat.le_refl _); (case side7 => exact cX_ (R_reads' HO_375011.out).2.2); (case side8 => exact (R_reads' HO_375011.out).2.1); rintro e w37 ⟨rfl, hb⟩; refine ⟨_, rfl, ?_⟩; have n0_ := mk_ (N_below (ZKN HO_5) hb); have n1_ := mk_ (R_below (ZKR HO_375002) hb); have n2_ := mk_ (R_below (ZKR HO_375011) hb); have n3_ := mk_ (bB_ BK374 hb); have n4_ := mk_ (below_step (Short.hB HB) hb); clear HO_5 HO_375002 HO_375011 BK374 HB; revert n0_ n1_ n2_ n3_ n4_; intro HO_5 HO_375002 HO_375011 BK374 HB; (try clear hb); have hcz38_0 : w37.cell? ⟨gb374, 0, none⟩ = some (.int .i64 1) := kc_ BK374 0; have hcz38_1 : w37.cell? ⟨gb374, 1, none⟩ = some (.int .i64 1) := kc_ BK374 1; have hcz38_2 : w37.cell? ⟨gb374, 2, none⟩ = some (.slice Ao12 y371.length co12) := kc_ BK374 2; have hcz38_3 : w37.cell? ⟨gb374, 3, none⟩ = some (.int .i64 0) := kc_ BK374 3; have hcz38_4 : w37.cell? ⟨gb374, 4, none⟩ = some (.int .i64 0) := kc_ BK374 4; have hcz38_5 : w37.cell? ⟨gb374, 5, none⟩ = some (.int .i64 1) := kc_ BK374 5; have hcz38_6 : w37.cell? ⟨gb374, 6, none⟩ = some (.int .i64 3) := kc_ BK374 6; have hcz38_7 : w37.cell? ⟨gb374, 7, none⟩ = some (.int .i64 0) := kc_ BK374 7; have hcz38_8 : w37.cell? ⟨gb374, 8, none⟩ = some (.string (⟨#[107]⟩ : ByteArray)) := kc_ BK374 8; have hcz38_9 : w37.cell? ⟨gb374, 9, none⟩ = some (.int .i64 0) := kc_ BK374 9; have hcz38_10 : w37.cell? ⟨gb374, 10, none⟩ = some (.slice none 0 0) := kc_ BK374 10; have hcz38_11 : w37.cell? ⟨gb374, 11, none⟩ = some (.slice Ao36 x375011_1.length co36) := kc_ BK374 11; have hfz38_0 := blk_frozen BK374.out; have p31 : 0 ≤ ((ji28) : Int) := of_decide_eq_true z1; have q31 : ((ji28) : Int) < ((x375011_1.length : Int) : Int) := of_decide_eq_true z1; obtain ⟨go31, co31, eo31, gb31, gl31, cl31, HG31⟩ := R_form HO_375011.out z3; (first | cases eo31 | (injection eo31 with ea_ en_ ec_; (first | subst ea_ | (injection ea_ with ea_; subst ea_)); subst ec_; clear en_)); have GB31 := mk_ gb31; have GG31 := mk_ HG31; clear gb31 gl31 HG31; obtain ⟨ce31, hcl31, hM31, hcc31, hfr31⟩ := R_elem HO_375011.out z25 ((ji28) : Int) p31 q31; obtain rfl := k25_openM hM31; have hx31_0 : w37.cell? ⟨go31, ((ji28) : Int).toNat * 2, none⟩ = some (.int .i64 ((rd_T25 x375011_1 (ji28)).f0)) := hcc31 0 _ rfl; have hx31_1 : w37.cell? ⟨go31, ((ji28) : Int).toNat * 2 + 1, none⟩ = some (.int .i64 ((rd_T25 x375011_1 (ji28)).f1)) := hcc31 1 _ rfl; have hf31_0 : w37.frozen? ⟨go31, ((ji28) : Int).toNat * 2, none⟩ = false := hfr31 0; have hf31_1 : w37.frozen? ⟨go31, ((ji28) : Int).toNat * 2 + 1, none⟩ = false := hfr31 1; clear hcl31 hcc31 hfr31 hM31; replace p31 := eq_true p31; replace q31 := eq_true q31; have HX39 := mk_ (show Kd.R k25 25 w37 w.heap.size (fun _ => True) (.slice (some ⟨go31, 0, none⟩) x375011_1.length co36) x375011_1 from (ZKR HO_375011)); obtain ⟨ce39, hcl39, hM39, hcc39, hfr39⟩ := R_elem HX39.out z25 ((ji28) : Int) (of_decide_eq_true z1) (by have h_ : ((ji28) : Int) < ((x375011_1.length : Int) : Int) := of_decide_eq_true z1; first | exact h_ | (have e_ := (R_reads' HO_375011.out).1; omega) | simpa using h_); obtain rfl := k25_openM hM39; have HP39 := R_seg HX39.out ((ji28) : Int) (of_decide_eq_true z1) (by have h_ : ((ji28) : Int) < ((x375011_1.length : Int) : Int) := of_decide_eq_true z1; first | exact h_ | (have e_ := (R_reads' HO_375011.out).1; omega) | simpa using h_) (seg := [.int .i64 70]) (j := 1) hcl39 hcc39 (show 2 ≤ 2 from by decide) (x' := (⟨(rd_T25 x375011_1 (ji28)).f0, 70⟩ : S25)) (k25_mkM _ _ _ (⟨(rd_T25 x375011_1 (ji28)).f0, 70⟩ : S25) ) (fun _ hk => hk); have hx39_1 := hcc39 1 _ rfl; (try simp only [show (k25).sz = 2 from rfl, Nat.mul_one, Nat.add_zero] at hx39_1); have hf39_1 := hfr39 1; (try simp only [show (k25).sz = 2 from rfl, Nat.mul_one, Nat.add_zero] at hf39_1); clear hcl39 hcc39 hfr39 hM39) | ((with_reducible refine gate_store (t := 3) (p := 59) rfl ?_); refine store_event (t := 3) (p := 59) (v := ?vo_w40) (w1 := (w37.setCell ⟨go31, ((ji28) : Int).toNat * 2 + 1, none⟩ (.int .i64 70))) ?hg ?ho ?hn ?hr ?_; (case ho => rfl); (case hg => rfl); (case hn => rfl); (case hr => first | (go_simp; done) | (go_simp; rfl)); intro w40 hw; have hg : w37.grownBy w40 (some go31) := (by rw [hw]; exact HP39.2); have hp_ : Kd.R k25 25 w40 w.heap.size (fun _ => True) (.slice (some ⟨go31, 0, none⟩) x375011_1.length co36) y380 := (by rw [hw, Ny380.out]; exact HP39.1); clear HP39; have n0_ := mk_ (N_afterv (v := (.slice (some ⟨go31, 0, none⟩) x375011_1.length co36)) (v1 := (.slice (some ⟨go31, 0, none⟩) x375011_1.length co36)) (ok := (fun k_ => nb_ k_ (.slice Ao12 y371.length co12) ∧ k_ ≠ gb374)) (nM_ HO_5 (fun _ hk => ⟨⟨hk.1, hk.2.2⟩, hk.2.1⟩)) hg (.inl rfl)); have n1_ := mk_ (R_over' (v := (.slice (some ⟨go31, 0, none⟩) x375011_1.length co36)) (ZKR HO_375002) (R_typed HO_375011.out) z5 hg); have n2_ := mk_ (hp_); have n3_ := mk_ (blk_grown (g := gb374) (o := .cells #[.int .i64 1, .int .i64 1, .slice Ao12 y371.length co12, .int .i64 0, .int .i64 0, .int .i64 1, .int .i64 3, .int .i64 0, .string (⟨#[107]⟩ : ByteArray), .int .i64 0, .slice none 0 0, .slice (some ⟨go31, 0, none⟩) x375011_1.length co36] 32 (0, 0)) (Short.bK BK374) hg (R_ne HO_375011.out BK374.out z5)); have n4_ := mk_ ((by rw [hw]; exact below_set (HB.out) GB31.out : Below w.heap.size w w40)); clear HO_5 HO_375002 HO_375011 BK374 HB; revert n0_ n1_ n2_ n3_ n4_; intro HO_5 HO_375002 HO_375011 BK374 HB; clear hg hw hp_; have hcz41_0 : w40.cell? ⟨gb374, 0, none⟩ = some (.int .i64 1) := kc_ BK374 0; have hcz41_1 : w40.cell? ⟨gb374, 1, none⟩ = some (.int .i64 1) := kc_ BK374 1; have hcz41_2 : w40.cell? ⟨gb374, 2, none⟩ = some (.slice Ao12 y371.length co12) := kc_ BK374 2; have hcz41_3 : w40.cell? ⟨gb374, 3, none⟩ = some (.int .i64 0) := kc_ BK374 3; have hcz41_4 : w40.cell? ⟨gb374, 4, none⟩ = some (.int .i64 0) := kc_ BK374 4; have hcz41_5 : w40.cell? ⟨gb374, 5, none⟩ = some (.int .i64 1) := kc_ BK374 5; have hcz41_6 : w40.cell? ⟨gb374, 6, none⟩ = some (.int .i64 3) := kc_ BK374 6; have hcz41_7 : w40.cell? ⟨gb374, 7, none⟩ = some (.int .i64 0) := kc_ BK374 7; have hcz41_8 : w40.cell? ⟨gb374, 8, none⟩ = some (.string (⟨#[107]⟩ : ByteArray)) := kc_ BK374 8; have hcz41_9 : w40.cell? ⟨gb374, 9, none⟩ = some (.int .i64 0) := kc_ BK374 9; have hcz41_10 : w40.cell? ⟨gb374, 10, none⟩ = some (.slice none 0 0) := kc_ BK374 10; have hcz41_11 : w40.cell? ⟨gb374, 11, none⟩ = some (.slice (some ⟨go31, 0, none⟩) x375011_1.length co36) := kc_ BK374 11; have hfz41_0 := blk_frozen BK374.out) | ((with_reducible refine gate_callee (f := 19) rfl ?_); refine goesL_ (some 75) rfl rfl Try.func19 z0 rfl #[.int .i64 2, .slice Ao15 y368.length co15, .agg #[.int .i64 1, .int .i64 1, .slice Ao12 y371.length co12, .int .i64 0, .int .i64 0, .int .i64 1, .int .i64 3, .int .i64 0, .string (⟨#[107]⟩ : ByteArray), .int .i64 0, .slice none 0 0, .slice (some ⟨go31, 0, none⟩) y380.length co36]] rfl (by (try simp only [List.map_toArray, List.map_cons, List.map_nil]); first | done | (rw [show y380.length = x375011_1.length from (R_reads' HO_375011.out).1.symm] <;> rfl) | rfl | (simp only [List.length_drop, List.length_take]; rfl) | (go_simp; done) | (simp; done)) ?_; (refine (op_Check.calls kj22 2 _ _ y368 1 1 _ _ y371 0 0 1 3 0 (⟨#[107]⟩ : ByteArray) 0 _ _ ([] : List (S84)) _ _ y380 t381 _ ?side1 ?side2 ?side3 ?side4 ?side5 ?side6 ?side7 ?side8 A32.out).mono ?_); (case side1 => exact cX_ (N_reads' HO_5.out).2.2); (case side2 => exact (N_reads' HO_5.out).2.1); (case side3 => exact cX_ (R_reads' HO_375002.out).2.2); (case side4 => exact (R_reads' HO_375002.out).2.1); (case side5 => exact C_nil _ _); (case side6 => exact Nat.le_refl _); (case side7 => exact cX_ (R_reads' HO_375011.out).2.2); (case side8 => rw [show y380.length = x375011_1.length from (R_reads' HO_375011.out).1.symm]; exact (R_reads' HO_375011.out).2.1); rintro e w42 ⟨rfl, hb⟩; refine ⟨_, rfl, ?_⟩; have n0_ := mk_ (N_below (ZKN HO_5) hb); have n1_ := mk_ (R_below (ZKR HO_375002) hb); have n2_ := mk_ (R_below (ZKR HO_375011) hb); have n3_ := mk_ (bB_ BK374 hb); have n4_ := mk_ (below_step (Short.hB HB) hb); clear HO_5 HO_375002 HO_375011 BK374 HB; revert n0_ n1_ n2_ n3_ n4_; intro HO_5 HO_375002 HO_375011 BK374 HB; (try clear hb)) | (go_at_call 15; (with_reducible refine (raddlelaw07_wakes.calls  t382 _ A34.out).mono ?_); rintro e w43 ⟨rfl, hb⟩; have n0_ := mk_ (N_below (ZKN HO_5) hb); have n1_ := mk_ (R_below (ZKR HO_375002) hb); have n2_ := mk_ (R_below (ZKR HO_375011) hb); have n3_ := mk_ (bB_ BK374 hb); have n4_ := mk_ (below_step (Short.hB HB) hb); clear HO_5 HO_375002 HO_375011 BK374 HB; revert n0_ n1_ n2_ n3_ n4_; intro HO_5 HO_375002 HO_375011 BK374 HB; (try clear hb); (try clear hb2); (try clear hk); (try clear hi)))
      go_ret
      exact ⟨by first | rfl | (simp [errW_none, errW_some] <;> rfl) | (simp only [← hji28]; first | rfl | (simp [errW_none, errW_some] <;> rfl)) | (simp [*, errW_none, errW_some] <;> rfl), Short.hB HB⟩
     rw [if_neg c27] at H
     have c27b0 : ((Int.tmod (IntKind.u64.wrap (a1)) 3) == 0) = false := beq_eq_false_iff_ne.mpr c27
     have c27b1 : ((Int.tmod (IntKind.u64.wrap (a1)) 3) != 0) = true := bne_iff_ne.mpr c27
     by_cases c44 : (Int.tmod (IntKind.u64.wrap (a1)) 3) = 1
     rotate_left
     ·
      rw [if_neg c44] at H
      have c44b0 : ((Int.tmod (IntKind.u64.wrap (a1)) 3) == 1) = false := beq_eq_false_iff_ne.mpr c44
      have c44b1 : ((Int.tmod (IntKind.u64.wrap (a1)) 3) != 1) = true := bne_iff_ne.mpr c44
      by_cases c62 : 0 < (x375011_1.length : Int)
      rotate_left
      ·
       rw [if_neg c62] at H
       exact absurd H (by simp)
      rw [if_pos c62] at H
      have c62b0 : decide (0 < (x375011_1.length : Int)) = true := decide_eq_true c62
      have c62b1 : decide (0 < x375011_1.length) = true := decide_eq_true z3
      clear c62
      obtain ⟨y389, hy389⟩ : ∃ y_ : List (S25), y_ = (x375011_1.set (0 : Int).toNat (⟨2, (rd_T25 x375011_1 0).f1⟩ : S25)) := ⟨_, rfl⟩
      replace H : ((op_Check.f kj22 2 y368 1 1 y371 0 0 1 3 0 (⟨#[107]⟩ : ByteArray) 0 ([] : List (S84)) y389).bind fun t390 => (if t390 = 1 then ((raddlelaw07_wakes.f).bind fun t391 => (some t391)) else (some false))) = some r := by first | (rw [hy389]; with_reducible exact H) | (have H2_ := (Option.bind_some _ _).symm.trans H; rw [hy389]; with_reducible exact H2_) | (have H2_ := (Option.bind_some _ _).symm.trans H; with_reducible exact H2_) | with_reducible exact H | (rw [hy389]; exact H) | exact H
      have Ny389 := mk_ hy389
      clear hy389
      replace H := Option.bind_eq_some_iff.mp H
      obtain ⟨t390, A640, H⟩ := H
      replace H : (if t390 = 1 then ((raddlelaw07_wakes.f).bind fun t391 => (some t391)) else (some false)) = some r := H
      have A64 := mk_ A640
      clear A640
      by_cases c65 : t390 = 1
      rotate_left
      ·
       rw [if_neg c65] at H
       have c65b0 : (t390 == 1) = false := beq_eq_false_iff_ne.mpr c65
       have c65b1 : (t390 != 1) = true := bne_iff_ne.mpr c65
       exact absurd H (by rw [hrt]; simp)
      rw [if_pos c65] at H
      have c65b0 : (t390 == 1) = true := beq_iff_eq.mpr c65
      have c65b1 : (t390 != 1) = false := bne_eq_false_iff_eq.mpr c65
      clear c65
      replace H := Option.bind_eq_some_iff.mp H
      obtain ⟨t391, A660, H⟩ := H
      replace H : (some t391) = some r := H
      have A66 := mk_ A660
      clear A660
      obtain rfl := Option.some.inj H
      have hcz67_0 : wc.cell? ⟨gb374, 0, none⟩ = some (.int .i64 1) := kc_ BK374 0
      have hcz67_1 : wc.cell? ⟨gb374, 1, none⟩ = some (.int .i64 1) := kc_ BK374 1
      have hcz67_2 : wc.cell? ⟨gb374, 2, none⟩ = some (.slice Ao12 y371.length co12) := kc_ BK374 2
      have hcz67_3 : wc.cell? ⟨gb374, 3, none⟩ = some (.int .i64 0) := kc_ BK374 3
      have hcz67_4 : wc.cell? ⟨gb374, 4, none⟩ = some (.int .i64 0) := kc_ BK374 4
      have hcz67_5 : wc.cell? ⟨gb374, 5, none⟩ = some (.int .i64 1) := kc_ BK374 5
      have hcz67_6 : wc.cell? ⟨gb374, 6, none⟩ = some (.int .i64 3) := kc_ BK374 6
      have hcz67_7 : wc.cell? ⟨gb374, 7, none⟩ = some (.int .i64 0) := kc_ BK374 7
      have hcz67_8 : wc.cell? ⟨gb374, 8, none⟩ = some (.string (⟨#[107]⟩ : ByteArray)) := kc_ BK374 8
      have hcz67_9 : wc.cell? ⟨gb374, 9, none⟩ = some (.int .i64 0) := kc_ BK374 9
      have hcz67_10 : wc.cell? ⟨gb374, 10, none⟩ = some (.slice none 0 0) := kc_ BK374 10
      have hcz67_11 : wc.cell? ⟨gb374, 11, none⟩ = some (u375011) := kc_ BK374 11
      have hfz67_0 := blk_frozen BK374.out
      obtain ⟨Ao68, co68, eo68⟩ := R_slice HO_375011.out
      subst eo68
      go_wp2_with (first | ((with_reducible refine gate_callee (f := 19) rfl ?_); refine Short.gL (some 42) Try.func19 #[.int .i64 2, .slice Ao15 y368.length co15, .agg #[.int .i64 1, .int .i64 1, .slice Ao12 y371.length co12, .int .i64 0, .int .i64 0, .int .i64 1, .int .i64 3, .int .i64 0, .string (⟨#[107]⟩ : ByteArray), .int .i64 0, .slice none 0 0, .slice Ao68 x375011_1.length co68]] (h := ?_); (refine (op_Check.calls kj22 2 _ _ y368 1 1 _ _ y371 0 0 1 3 0 (⟨#[107]⟩ : ByteArray) 0 _ _ ([] : List (S84)) _ _ x375011_1 t379 _ ?side1 ?side2 ?side3 ?side4 ?side5 ?side6 ?side7 ?side8 A25.out).mono ?_); (case side1 => exact cX_ (N_reads' HO_5.out).2.2); (case side2 => exact (N_reads' HO_5.out).2.1); (case side3 => exact cX_ (R_reads' HO_375002.out).2.2); (case side4 => exact (R_reads' HO_375002.out).2.1); (case side5 => exact C_nil _ _); (case side6 => exact Nat.le_refl _); (case side7 => exact cX_ (R_reads' HO_375011.out).2.2); (case side8 => exact (R_reads' HO_375011.out).2.1); rintro e w69 ⟨rfl, hb⟩; refine ⟨_, rfl, ?_⟩; have n0_ := mk_ (N_below (ZKN HO_5) hb); have n1_ := mk_ (R_below (ZKR HO_375002) hb); have n2_ := mk_ (R_below (ZKR HO_375011) hb); have n3_ := mk_ (bB_ BK374 hb); have n4_ := mk_ (below_step (Short.hB HB) hb); clear HO_5 HO_375002 HO_375011 BK374 HB; revert n0_ n1_ n2_ n3_ n4_; intro HO_5 HO_375002 HO_375011 BK374 HB; (try clear hb); have hcz70_0 : w69.cell? ⟨gb374, 0, none⟩ = some (.int .i64 1) := kc_ BK374 0; have hcz70_1 : w69.cell? ⟨gb374, 1, none⟩ = some (.int .i64 1) := kc_ BK374 1; have hcz70_2 : w69.cell? ⟨gb374, 2, none⟩ = some (.slice Ao12 y371.length co12) := kc_ BK374 2; have hcz70_3 : w69.cell? ⟨gb374, 3, none⟩ = some (.int .i64 0) := kc_ BK374 3; have hcz70_4 : w69.cell? ⟨gb374, 4, none⟩ = some (.int .i64 0) := kc_ BK374 4; have hcz70_5 : w69.cell? ⟨gb374, 5, none⟩ = some (.int .i64 1) := kc_ BK374 5; have hcz70_6 : w69.cell? ⟨gb374, 6, none⟩ = some (.int .i64 3) := kc_ BK374 6; have hcz70_7 : w69.cell? ⟨gb374, 7, none⟩ = some (.int .i64 0) := kc_ BK374 7; have hcz70_8 : w69.cell? ⟨gb374, 8, none⟩ = some (.string (⟨#[107]⟩ : ByteArray)) := kc_ BK374 8; have hcz70_9 : w69.cell? ⟨gb374, 9, none⟩ = some (.int .i64 0) := kc_ BK374 9; have hcz70_10 : w69.cell? ⟨gb374, 10, none⟩ = some (.slice none 0 0) := kc_ BK374 10; have hcz70_11 : w69.cell? ⟨gb374, 11, none⟩ = some (.slice Ao68 x375011_1.length co68) := kc_ BK374 11; have hfz70_0 := blk_frozen BK374.out; have p63 : 0 ≤ (0 : Int) := z3; have q63 : (0 : Int) < ((x375011_1.length : Int) : Int) := of_decide_eq_true z1; have qi63 : (0 < x375011_1.length) = True := eq_true z3; obtain ⟨go63, co63, eo63, gb63, gl63, cl63, HG63⟩ := R_form HO_375011.out z3; (first | cases eo63 | (injection eo63 with ea_ en_ ec_; (first | subst ea_ | (injection ea_ with ea_; subst ea_)); subst ec_; clear en_)); have GB63 := mk_ gb63; have GG63 := mk_ HG63; clear gb63 gl63 HG63; obtain ⟨ce63, hcl63, hM63, hcc63, hfr63⟩ := R_elem HO_375011.out z25 (0 : Int) p63 q63; obtain rfl := k25_openM hM63; have hx63_0 : w69.cell? ⟨go63, (0 : Int).toNat * 2, none⟩ = some (.int .i64 ((rd_T25 x375011_1 0).f0)) := hcc63 0 _ rfl; have hx63_1 : w69.cell? ⟨go63, (0 : Int).toNat * 2 + 1, none⟩ = some (.int .i64 ((rd_T25 x375011_1 0).f1)) := hcc63 1 _ rfl; have hf63_0 : w69.frozen? ⟨go63, (0 : Int).toNat * 2, none⟩ = false := hfr63 0; have hf63_1 : w69.frozen? ⟨go63, (0 : Int).toNat * 2 + 1, none⟩ = false := hfr63 1; clear hcl63 hcc63 hfr63 hM63; (try rw [show ((0 : Int)).toNat = 0 from rfl] at hx63_0); (try simp only [Nat.reduceMul, Nat.zero_mul, Nat.zero_add, Nat.reduceAdd] at hx63_0); (try rw [show ((0 : Int)).toNat = 0 from rfl] at hf63_0); (try simp only [Nat.reduceMul, Nat.zero_mul, Nat.zero_add, Nat.reduceAdd] at hf63_0); (try rw [show ((0 : Int)).toNat = 0 from rfl] at hx63_1); (try simp only [Nat.reduceMul, Nat.zero_mul, Nat.zero_add, Nat.reduceAdd] at hx63_1); (try rw [show ((0 : Int)).toNat = 0 from rfl] at hf63_1); (try simp only [Nat.reduceMul, Nat.zero_mul, Nat.zero_add, Nat.reduceAdd] at hf63_1); replace p63 := eq_true p63; replace q63 := eq_true q63; have HX71 := mk_ (show Kd.R k25 25 w69 w.heap.size (fun _ => True) (.slice (some ⟨go63, 0, none⟩) x375011_1.length co68) x375011_1 from (ZKR HO_375011)); obtain ⟨ce71, hcl71, hM71, hcc71, hfr71⟩ := R_elem HX71.out z25 (0 : Int) z3 (by have h_ : (0 : Int) < ((x375011_1.length : Int) : Int) := of_decide_eq_true z1; first | exact h_ | (have e_ := (R_reads' HO_375011.out).1; omega) | simpa using h_); obtain rfl := k25_openM hM71; have HP71 := R_seg HX71.out (0 : Int) z3 (by have h_ : (0 : Int) < ((x375011_1.length : Int) : Int) := of_decide_eq_true z1; first | exact h_ | (have e_ := (R_reads' HO_375011.out).1; omega) | simpa using h_) (seg := [.int .i64 2]) (j := 0) hcl71 hcc71 (show 1 ≤ 2 from by decide) (x' := (⟨2, (rd_T25 x375011_1 0).f1⟩ : S25)) (k25_mkM _ _ _ (⟨2, (rd_T25 x375011_1 0).f1⟩ : S25) ) (fun _ hk => hk); have hx71_0 := hcc71 0 _ rfl; (try simp only [show (k25).sz = 2 from rfl, Nat.mul_one, Nat.add_zero] at hx71_0); (try rw [show ((0 : Int)).toNat = 0 from rfl] at hx71_0); (try simp only [Nat.reduceMul, Nat.zero_mul, Nat.zero_add, Nat.reduceAdd] at hx71_0); have hf71_0 := hfr71 0; (try simp only [show (k25).sz = 2 from rfl, Nat.mul_one, Nat.add_zero] at hf71_0); (try rw [show ((0 : Int)).toNat = 0 from rfl] at hf71_0); (try simp only [Nat.reduceMul, Nat.zero_mul, Nat.zero_add, Nat.reduceAdd] at hf71_0); clear hcl71 hcc71 hfr71 hM71) | ((with_reducible refine gate_store (t := 3) (p := 51) rfl ?_); refine store_event (t := 3) (p := 51) (v := ?vo_w72) (w1 := (w69.setCell ⟨go63, 0, none⟩ (.int .i64 2))) ?hg ?ho ?hn ?hr ?_; (case ho => rfl); (case hg => rfl); (case hn => rfl); (case hr => first | (go_simp; done) | (go_simp; rfl)); intro w72 hw; have hg : w69.grownBy w72 (some go63) := (by rw [hw]; exact HP71.2); have hp_ : Kd.R k25 25 w72 w.heap.size (fun _ => True) (.slice (some ⟨go63, 0, none⟩) x375011_1.length co68) y389 := (by rw [hw, Ny389.out]; exact HP71.1); clear HP71; have n0_ := mk_ (N_afterv (v := (.slice (some ⟨go63, 0, none⟩) x375011_1.length co68)) (v1 := (.slice (some ⟨go63, 0, none⟩) x375011_1.length co68)) (ok := (fun k_ => nb_ k_ (.slice Ao12 y371.length co12) ∧ k_ ≠ gb374)) (nM_ HO_5 (fun _ hk => ⟨⟨hk.1, hk.2.2⟩, hk.2.1⟩)) hg (.inl rfl)); have n1_ := mk_ (R_over' (v := (.slice (some ⟨go63, 0, none⟩) x375011_1.length co68)) (ZKR HO_375002) (R_typed HO_375011.out) z5 hg); have n2_ := mk_ (hp_); have n3_ := mk_ (blk_grown (g := gb374) (o := .cells #[.int .i64 1, .int .i64 1, .slice Ao12 y371.length co12, .int .i64 0, .int .i64 0, .int .i64 1, .int .i64 3, .int .i64 0, .string (⟨#[107]⟩ : ByteArray), .int .i64 0, .slice none 0 0, .slice (some ⟨go63, 0, none⟩) x375011_1.length co68] 32 (0, 0)) (Short.bK BK374) hg (R_ne HO_375011.out BK374.out z5)); have n4_ := mk_ ((by rw [hw]; exact below_set (HB.out) GB63.out : Below w.heap.size w w72)); clear HO_5 HO_375002 HO_375011 BK374 HB; revert n0_ n1_ n2_ n3_ n4_; intro HO_5 HO_375002 HO_375011 BK374 HB; clear hg hw hp_; have hcz73_0 : w72.cell? ⟨gb374, 0, none⟩ = some (.int .i64 1) := kc_ BK374 0; have hcz73_1 : w72.cell? ⟨gb374, 1, none⟩ = some (.int .i64 1) := kc_ BK374 1; have hcz73_2 : w72.cell? ⟨gb374, 2, none⟩ = some (.slice Ao12 y371.length co12) := kc_ BK374 2; have hcz73_3 : w72.cell? ⟨gb374, 3, none⟩ = some (.int .i64 0) := kc_ BK374 3; have hcz73_4 : w72.cell? ⟨gb374, 4, none⟩ = some (.int .i64 0) := kc_ BK374 4; have hcz73_5 : w72.cell? ⟨gb374, 5, none⟩ = some (.int .i64 1) := kc_ BK374 5; have hcz73_6 : w72.cell? ⟨gb374, 6, none⟩ = some (.int .i64 3) := kc_ BK374 6; have hcz73_7 : w72.cell? ⟨gb374, 7, none⟩ = some (.int .i64 0) := kc_ BK374 7; have hcz73_8 : w72.cell? ⟨gb374, 8, none⟩ = some (.string (⟨#[107]⟩ : ByteArray)) := kc_ BK374 8; have hcz73_9 : w72.cell? ⟨gb374, 9, none⟩ = some (.int .i64 0) := kc_ BK374 9; have hcz73_10 : w72.cell? ⟨gb374, 10, none⟩ = some (.slice none 0 0) := kc_ BK374 10; have hcz73_11 : w72.cell? ⟨gb374, 11, none⟩ = some (.slice (some ⟨go63, 0, none⟩) x375011_1.length co68) := kc_ BK374 11; have hfz73_0 := blk_frozen BK374.out) | ((with_reducible refine gate_callee (f := 19) rfl ?_); refine goesL_ (some 75) rfl rfl Try.func19 z0 rfl #[.int .i64 2, .slice Ao15 y368.length co15, .agg #[.int .i64 1, .int .i64 1, .slice Ao12 y371.length co12, .int .i64 0, .int .i64 0, .int .i64 1, .int .i64 3, .int .i64 0, .string (⟨#[107]⟩ : ByteArray), .int .i64 0, .slice none 0 0, .slice (some ⟨go63, 0, none⟩) y389.length co68]] rfl (by (try simp only [List.map_toArray, List.map_cons, List.map_nil]); first | done | (rw [show y389.length = x375011_1.length from (R_reads' HO_375011.out).1.symm] <;> rfl) | rfl | (simp only [List.length_drop, List.length_take]; rfl) | (go_simp; done) | (simp; done)) ?_; (refine (op_Check.calls kj22 2 _ _ y368 1 1 _ _ y371 0 0 1 3 0 (⟨#[107]⟩ : ByteArray) 0 _ _ ([] : List (S84)) _ _ y389 t390 _ ?side1 ?side2 ?side3 ?side4 ?side5 ?side6 ?side7 ?side8 A64.out).mono ?_); (case side1 => exact cX_ (N_reads' HO_5.out).2.2); (case side2 => exact (N_reads' HO_5.out).2.1); (case side3 => exact cX_ (R_reads' HO_375002.out).2.2); (case side4 => exact (R_reads' HO_375002.out).2.1); (case side5 => exact C_nil _ _); (case side6 => exact Nat.le_refl _); (case side7 => exact cX_ (R_reads' HO_375011.out).2.2); (case side8 => rw [show y389.length = x375011_1.length from (R_reads' HO_375011.out).1.symm]; exact (R_reads' HO_375011.out).2.1); rintro e w74 ⟨rfl, hb⟩; refine ⟨_, rfl, ?_⟩; have n0_ := mk_ (N_below (ZKN HO_5) hb); have n1_ := mk_ (R_below (ZKR HO_375002) hb); have n2_ := mk_ (R_below (ZKR HO_375011) hb); have n3_ := mk_ (bB_ BK374 hb); have n4_ := mk_ (below_step (Short.hB HB) hb); clear HO_5 HO_375002 HO_375011 BK374 HB; revert n0_ n1_ n2_ n3_ n4_; intro HO_5 HO_375002 HO_375011 BK374 HB; (try clear hb)) | (go_at_call 15; (with_reducible refine (raddlelaw07_wakes.calls  t391 _ A66.out).mono ?_); rintro e w75 ⟨rfl, hb⟩; have n0_ := mk_ (N_below (ZKN HO_5) hb); have n1_ := mk_ (R_below (ZKR HO_375002) hb); have n2_ := mk_ (R_below (ZKR HO_375011) hb); have n3_ := mk_ (bB_ BK374 hb); have n4_ := mk_ (below_step (Short.hB HB) hb); clear HO_5 HO_375002 HO_375011 BK374 HB; revert n0_ n1_ n2_ n3_ n4_; intro HO_5 HO_375002 HO_375011 BK374 HB; (try clear hb); (try clear hb2); (try clear hk); (try clear hi)))
      go_ret
      exact ⟨q0, Short.hB HB⟩
     rw [if_pos c44] at H
     have c44b0 : ((Int.tmod (IntKind.u64.wrap (a1)) 3) == 1) = true := beq_iff_eq.mpr c44
     have c44b1 : ((Int.tmod (IntKind.u64.wrap (a1)) 3) != 1) = false := bne_eq_false_iff_eq.mpr c44
     clear c44
     obtain ⟨ji45, hji45⟩ : ∃ j_ : Int, (wrap64 ((wrap64 (1 + (wrap64 (Int.tmod (IntKind.u64.wrap (a0)) 65)))) - 1)) = j_ := ⟨_, rfl⟩
     replace H : (if 0 ≤ (ji45) then (if (ji45) < (x375011_1.length : Int) then (if x375011_1.length < 8796093022208 then ((op_Check.f kj22 2 y368 1 1 y371 0 0 1 3 0 (⟨#[107]⟩ : ByteArray) 0 ([] : List (S84)) (x375011_1 ++ [(⟨(rd_T25 x375011_1 (ji45)).f0, (rd_T25 x375011_1 (ji45)).f1⟩ : S25)])).bind fun t387 => (if t387 = 1 then ((raddlelaw07_wakes.f).bind fun t388 => (some t388)) else (some false))) else (none)) else (none)) else (none)) = some r := by first | (rw [hji45] at H; exact H) | (simp only [hji45] at H ⊢; exact H)
     (try rw [hji45] at A25)
     have hji45w : (IntKind.i64.wrap ((wrap64 (1 + (wrap64 (Int.tmod (IntKind.u64.wrap (a0)) 65)))) - 1)) = ji45 := (i64_w _).trans hji45
     by_cases c46 : 0 ≤ (ji45)
     rotate_left
     ·
      rw [if_neg c46] at H
      exact absurd H (by simp)
     rw [if_pos c46] at H
     have c46b0 : decide (0 ≤ (ji45)) = true := decide_eq_true c46
     clear c46
     by_cases c47 : (ji45) < (x375011_1.length : Int)
     rotate_left
     ·
      rw [if_neg c47] at H
      exact absurd H (by simp)
     rw [if_pos c47] at H
     have c47b0 : decide ((ji45) < (x375011_1.length : Int)) = true := decide_eq_true c47
     clear c47
     by_cases c48 : x375011_1.length < 8796093022208
     rotate_left
     ·
      rw [if_neg c48] at H
      exact absurd H (by simp)
     rw [if_pos c48] at H
     have LMc48 := mk_ c48
     clear c48
     obtain ⟨y384, hy384⟩ : ∃ y_ : List (S25), y_ = (x375011_1 ++ [(⟨(rd_T25 x375011_1 (ji45)).f0, (rd_T25 x375011_1 (ji45)).f1⟩ : S25)]) := ⟨_, rfl⟩
     replace H : ((op_Check.f kj22 2 y368 1 1 y371 0 0 1 3 0 (⟨#[107]⟩ : ByteArray) 0 ([] : List (S84)) y384).bind fun t387 => (if t387 = 1 then ((raddlelaw07_wakes.f).bind fun t388 => (some t388)) else (some false))) = some r := by first | (rw [hy384]; with_reducible exact H) | (have H2_ := (Option.bind_some _ _).symm.trans H; rw [hy384]; with_reducible exact H2_) | (have H2_ := (Option.bind_some _ _).symm.trans H; with_reducible exact H2_) | with_reducible exact H | (rw [hy384]; exact H) | exact H
     have Ny384 := mk_ hy384
     clear hy384
     replace H := Option.bind_eq_some_iff.mp H
     obtain ⟨t387, A490, H⟩ := H
     replace H : (if t387 = 1 then ((raddlelaw07_wakes.f).bind fun t388 => (some t388)) else (some false)) = some r := H
     have A49 := mk_ A490
     clear A490
     by_cases c50 : t387 = 1
     rotate_left
     ·
      rw [if_neg c50] at H
      have c50b0 : (t387 == 1) = false := beq_eq_false_iff_ne.mpr c50
      have c50b1 : (t387 != 1) = true := bne_iff_ne.mpr c50
      exact absurd H (by rw [hrt]; simp)
     rw [if_pos c50] at H
     have c50b0 : (t387 == 1) = true := beq_iff_eq.mpr c50
     have c50b1 : (t387 != 1) = false := bne_eq_false_iff_eq.mpr c50
     clear c50
     replace H := Option.bind_eq_some_iff.mp H
     obtain ⟨t388, A510, H⟩ := H
     replace H : (some t388) = some r := H
     have A51 := mk_ A510
     clear A510
     obtain rfl := Option.some.inj H
     have hcz52_0 : wc.cell? ⟨gb374, 0, none⟩ = some (.int .i64 1) := kc_ BK374 0
     have hcz52_1 : wc.cell? ⟨gb374, 1, none⟩ = some (.int .i64 1) := kc_ BK374 1
     have hcz52_2 : wc.cell? ⟨gb374, 2, none⟩ = some (.slice Ao12 y371.length co12) := kc_ BK374 2
     have hcz52_3 : wc.cell? ⟨gb374, 3, none⟩ = some (.int .i64 0) := kc_ BK374 3
     have hcz52_4 : wc.cell? ⟨gb374, 4, none⟩ = some (.int .i64 0) := kc_ BK374 4
     have hcz52_5 : wc.cell? ⟨gb374, 5, none⟩ = some (.int .i64 1) := kc_ BK374 5
     have hcz52_6 : wc.cell? ⟨gb374, 6, none⟩ = some (.int .i64 3) := kc_ BK374 6
     have hcz52_7 : wc.cell? ⟨gb374, 7, none⟩ = some (.int .i64 0) := kc_ BK374 7
     have hcz52_8 : wc.cell? ⟨gb374, 8, none⟩ = some (.string (⟨#[107]⟩ : ByteArray)) := kc_ BK374 8
     have hcz52_9 : wc.cell? ⟨gb374, 9, none⟩ = some (.int .i64 0) := kc_ BK374 9
     have hcz52_10 : wc.cell? ⟨gb374, 10, none⟩ = some (.slice none 0 0) := kc_ BK374 10
     have hcz52_11 : wc.cell? ⟨gb374, 11, none⟩ = some (u375011) := kc_ BK374 11
     have hfz52_0 := blk_frozen BK374.out
     obtain ⟨Ao53, co53, eo53⟩ := R_slice HO_375011.out
     subst eo53
     try go_wp2_with (first | ((with_reducible refine gate_callee (f := 19) rfl ?_); refine Short.gL (some 42) Try.func19 #[.int .i64 2, .slice Ao15 y368.length co15, .agg #[.int .i64 1, .int .i64 1, .slice Ao12 y371.length co12, .int .i64 0, .int .i64 0, .int .i64 1, .int .i64 3, .int .i64 0, .string (⟨#[107]⟩ : ByteArray), .int .i64 0, .slice none 0 0, .slice Ao53 x375011_1.length co53]] (h := ?_); (refine (op_Check.calls kj22 2 _ _ y368 1 1 _ _ y371 0 0 1 3 0 (⟨#[107]⟩ : ByteArray) 0 _ _ ([] : List (S84)) _ _ x375011_1 t379 _ ?side1 ?side2 ?side3 ?side4 ?side5 ?side6 ?side7 ?side8 A25.out).mono ?_); (case side1 => exact cX_ (N_reads' HO_5.out).2.2); (case side2 => exact (N_reads' HO_5.out).2.1); (case side3 => exact cX_ (R_reads' HO_375002.out).2.2); (case side4 => exact (R_reads' HO_375002.out).2.1); (case side5 => exact C_nil _ _); (case side6 => exact Nat.le_refl _); (case side7 => exact cX_ (R_reads' HO_375011.out).2.2); (case side8 => exact (R_reads' HO_375011.out).2.1); rintro e w54 ⟨rfl, hb⟩; refine ⟨_, rfl, ?_⟩; have n0_ := mk_ (N_below (ZKN HO_5) hb); have n1_ := mk_ (R_below (ZKR HO_375002) hb); have n2_ := mk_ (R_below (ZKR HO_375011) hb); have n3_ := mk_ (bB_ BK374 hb); have n4_ := mk_ (below_step (Short.hB HB) hb); clear HO_5 HO_375002 HO_375011 BK374 HB; revert n0_ n1_ n2_ n3_ n4_; intro HO_5 HO_375002 HO_375011 BK374 HB; (try clear hb)))
     have n0_ := mk_ (N_drew HO_5.out)
     have n1_ := mk_ (R_drew HO_375002.out)
     have n2_ := mk_ (R_drew HO_375011.out)
     have n3_ := mk_ (blk_drew BK374.out)
     have n4_ := mk_ (below_drew1 HB.out)
     clear HO_5 HO_375002 HO_375011 BK374 HB
     revert n0_ n1_ n2_ n3_ n4_
     intro HO_5 HO_375002 HO_375011 BK374 HB
     have p383 : 0 ≤ ((ji45) : Int) := of_decide_eq_true z1
     have q383 : (ji45) < (x375011_1.length : Int) := of_decide_eq_true z1
     obtain ⟨ad383, e383, hx383_0, hx383_1⟩ := at_T25 (R_reads' HO_375011.out).2.2 (ji45) p383 q383
     cases e383
     replace p383 := eq_true p383
     replace q383 := eq_true q383
     refine start_ (n := 12) (S := fun w' => w'.cell? ⟨gb374, 0, none⟩ = some (.int .i64 1) ∧ w'.cell? ⟨gb374, 1, none⟩ = some (.int .i64 1) ∧ w'.cell? ⟨gb374, 2, none⟩ = some (.slice Ao12 y371.length co12) ∧ w'.cell? ⟨gb374, 3, none⟩ = some (.int .i64 0) ∧ w'.cell? ⟨gb374, 4, none⟩ = some (.int .i64 0) ∧ w'.cell? ⟨gb374, 5, none⟩ = some (.int .i64 1) ∧ w'.cell? ⟨gb374, 6, none⟩ = some (.int .i64 3) ∧ w'.cell? ⟨gb374, 7, none⟩ = some (.int .i64 0) ∧ w'.cell? ⟨gb374, 8, none⟩ = some (.string (⟨#[107]⟩ : ByteArray)) ∧ w'.cell? ⟨gb374, 9, none⟩ = some (.int .i64 0) ∧ w'.cell? ⟨gb374, 10, none⟩ = some (.slice none 0 0) ∧ w'.cell? ⟨gb374, 11, none⟩ = some (.slice (some ad383) x375011_1.length co53) ∧ w'.cell? (ad383.add (((ji45)).toNat * 2)) = some (.int .i64 ((rd_T25 x375011_1 (ji45)).f0)) ∧ w'.cell? ⟨(ad383.add (((ji45)).toNat * 2)).block, (ad383.add (((ji45)).toNat * 2)).off + 1, none⟩ = some (.int .i64 ((rd_T25 x375011_1 (ji45)).f1))) (ds := [9, 11]) (Steps.Bs 12 0) z0 rfl rfl ⟨kc_ BK374 0, kc_ BK374 1, kc_ BK374 2, kc_ BK374 3, kc_ BK374 4, kc_ BK374 5, kc_ BK374 6, kc_ BK374 7, kc_ BK374 8, kc_ BK374 9, kc_ BK374 10, kc_ BK374 11, hx383_0, hx383_1⟩ (fun hHeld => ?_); refine with_tabW raddlelaw07_OpDots.tab20 raddlelaw07_OpDots.bits20 (fun HT_ HW_ => ?_)
     generalize w54.drew = w55 at HO_5 HO_375002 HO_375011 BK374 HB hx383_0 hx383_1 hHeld ⊢
     refine tI HT_ 0 62 12 1 ?_
     refine tI HT_ 2 64 12 5 ?_
     refine tI HT_ 4 66 12 21 ?_
     refine tI HT_ 5 67 12 53 ?_
     refine tT HT_ HW_ hHeld 1 63 12 55 ?_
     refine tT HT_ HW_ hHeld 3 65 12 63 ?_
     refine tI HT_ 6 68 12 127 ?_
     refine tT HT_ HW_ hHeld 7 69 12 255 ?_
     refine one_ (i := 8) (N := some 70) (Steps.Bs 12 511) rfl rfl (one_of HT_.out z0) z5 (fun K hK => ?_)
     refine value_ (w1 := ?_) (v := ?_) (by rfl) rfl ?_ ?_
     rotate_left 2
     ·
      go_simp
      constructor
      ·
       rfl
      ·
       rfl
     refine hK.out _ _ ⟨(blk_cell (blk_alloc BK374.out _) 0).trans rfl, (blk_cell (blk_alloc BK374.out _) 1).trans rfl, (blk_cell (blk_alloc BK374.out _) 2).trans rfl, (blk_cell (blk_alloc BK374.out _) 3).trans rfl, (blk_cell (blk_alloc BK374.out _) 4).trans rfl, (blk_cell (blk_alloc BK374.out _) 5).trans rfl, (blk_cell (blk_alloc BK374.out _) 6).trans rfl, (blk_cell (blk_alloc BK374.out _) 7).trans rfl, (blk_cell (blk_alloc BK374.out _) 8).trans rfl, (blk_cell (blk_alloc BK374.out _) 9).trans rfl, (blk_cell (blk_alloc BK374.out _) 10).trans rfl, (blk_cell (blk_alloc BK374.out _) 11).trans rfl, (World.cell?_alloc_lt _ _ _ (World.block_lt_of_cell? _ _ (hHeld.2.2.2.2.2.2.2.2.2.2.2.2.1))).trans (hHeld.2.2.2.2.2.2.2.2.2.2.2.2.1), (World.cell?_alloc_lt _ _ _ (World.block_lt_of_cell? _ _ (hHeld.2.2.2.2.2.2.2.2.2.2.2.2.2))).trans (hHeld.2.2.2.2.2.2.2.2.2.2.2.2.2)⟩ (fun hHeld => ?_)
     clear hK K
     refine nrm 70 ?_
     refine last_ (i := 9) (N := some 71) (Steps.Bs 12 1023) rfl rfl (one_of HT_.out z0) z5 (fun K hK => ?_)
     refine R_append_step k25 (w0 := w) w.heap.size (by rfl) (.tmp 63) (.tmp 70) 30 25 (.agg #[(.int .i64 0), (.int .i64 0)]) 16 rfl Try.underlying30 info25 rfl z5 z3 (.slice (some ad383) x375011_1.length co53) x375011_1 (⟨(rd_T25 x375011_1 (ji45)).f0, (rd_T25 x375011_1 (ji45)).f1⟩ : S25) [.int .i64 ((rd_T25 x375011_1 (ji45)).f0), .int .i64 ((rd_T25 x375011_1 (ji45)).f1)] (fun _ => True) (fun _ => False) rfl rfl ?aP (fun _ hk => hk.elim) ?aF ?aO ?aB ?aS ?aL ?_
     (case aP => exact k25_mkM _ _ _ (⟨(rd_T25 x375011_1 (ji45)).f0, (rd_T25 x375011_1 (ji45)).f1⟩ : S25))
     (case aB => exact (Short.hB HB))
     (case aF => exact (fun _ _ => trivial))
     (case aO => exact (ZKR HO_375011))
     (case aS => exact (below_size (Short.hB HB)))
     (case aL => have := LMc48.out; omega)
     intro v385 w56 ho hb hg hat
     rw [← Ny384.out] at ho
     have n0_ := mk_ (N_afterv (ok := (fun k_ => nb_ k_ (.slice Ao12 y371.length co12) ∧ k_ ≠ gb374)) (nM_ HO_5 (fun _ hk => ⟨⟨hk.1, hk.2.2⟩, hk.2.1⟩)) hg hat)
     have n1_ := mk_ (R_over' (ZKR HO_375002) (R_typed (ZKR HO_375011)) z5 hg)
     have n2_ := mk_ (blk_grown (g := gb374) (o := .cells #[.int .i64 1, .int .i64 1, .slice Ao12 y371.length co12, .int .i64 0, .int .i64 0, .int .i64 1, .int .i64 3, .int .i64 0, .string (⟨#[107]⟩ : ByteArray), .int .i64 0, .slice none 0 0, .slice (some ad383) x375011_1.length co53] 32 (0, 0)) (Short.bK BK374) hg (R_ne HO_375011.out BK374.out z5))
     have n3_ := mk_ (hb)
     have n4_ := mk_ (ho)
     clear HO_5 HO_375002 BK374 HB HO_375011
     revert n0_ n1_ n2_ n3_ n4_
     intro HO_5 HO_375002 BK374 HB HO386
     clear ho hb hg hat
     obtain ⟨Ao57, co57, eo57⟩ := R_slice HO386.out
     (first | subst eo57 | (injection eo57 with f1_ f2_ f3_; have f4_ := f1_.symm; have f5_ := f3_.symm; clear f1_ f2_ f3_; subst f4_; subst f5_))
     refine hK.out _ _ ?_
     clear hK K
     refine nrm 71 ?_
     refine tI HT_ 10 72 12 2047 ?_
     refine last_ (i := 11) (N := none) (Steps.Bs 12 4095) rfl rfl (one_of HT_.out z0) z5 (fun K hK => ?_)
     have hs58 : w56.cell? ⟨gb374, 11, none⟩ = some (.slice (some ad383) x375011_1.length co53) := kc_ BK374 11
     have hfs58 := blk_frozen BK374.out 11
     refine skip_ (w1 := ?_) (by rfl) rfl ?_ ?_
     rotate_left
     ·
      go_simp
      rfl
     refine hK.out _ _ ?_
     clear hK K
     refine done_ (done_of HT_.out z0) ?_
     have hcz59_0 : w56.cell? ⟨gb374, 0, none⟩ = some (.int .i64 1) := kc_ BK374 0
     have hcz59_1 : w56.cell? ⟨gb374, 1, none⟩ = some (.int .i64 1) := kc_ BK374 1
     have hcz59_2 : w56.cell? ⟨gb374, 2, none⟩ = some (.slice Ao12 y371.length co12) := kc_ BK374 2
     have hcz59_3 : w56.cell? ⟨gb374, 3, none⟩ = some (.int .i64 0) := kc_ BK374 3
     have hcz59_4 : w56.cell? ⟨gb374, 4, none⟩ = some (.int .i64 0) := kc_ BK374 4
     have hcz59_5 : w56.cell? ⟨gb374, 5, none⟩ = some (.int .i64 1) := kc_ BK374 5
     have hcz59_6 : w56.cell? ⟨gb374, 6, none⟩ = some (.int .i64 3) := kc_ BK374 6
     have hcz59_7 : w56.cell? ⟨gb374, 7, none⟩ = some (.int .i64 0) := kc_ BK374 7
     have hcz59_8 : w56.cell? ⟨gb374, 8, none⟩ = some (.string (⟨#[107]⟩ : ByteArray)) := kc_ BK374 8
     have hcz59_9 : w56.cell? ⟨gb374, 9, none⟩ = some (.int .i64 0) := kc_ BK374 9
     have hcz59_10 : w56.cell? ⟨gb374, 10, none⟩ = some (.slice none 0 0) := kc_ BK374 10
     have hcz59_11 : w56.cell? ⟨gb374, 11, none⟩ = some (.slice (some ad383) x375011_1.length co53) := kc_ BK374 11
     have hfz59_0 := blk_frozen BK374.out
     try go_wp2_with (first | ((with_reducible refine gate_callee (f := 19) rfl ?_); refine Short.gL (some 75) Try.func19 #[.int .i64 2, .slice Ao15 y368.length co15, .agg #[.int .i64 1, .int .i64 1, .slice Ao12 y371.length co12, .int .i64 0, .int .i64 0, .int .i64 1, .int .i64 3, .int .i64 0, .string (⟨#[107]⟩ : ByteArray), .int .i64 0, .slice none 0 0, .slice Ao57 y384.length co57]] (h := ?_); (refine (op_Check.calls kj22 2 _ _ y368 1 1 _ _ y371 0 0 1 3 0 (⟨#[107]⟩ : ByteArray) 0 _ _ ([] : List (S84)) _ _ y384 t387 _ ?side1 ?side2 ?side3 ?side4 ?side5 ?side6 ?side7 ?side8 A49.out).mono ?_); (case side1 => refine (N_reads' (e := 51) (base := w.heap.size) (ok := fun k_ => ((nb_ k_ (.slice Ao12 y371.length co12) ∧ k_ ≠ gb374) ∧ nb_ k_ (.slice Ao57 y384.length co57))) (n := y368.length) (c := co15) ?_).2.2; exact (by (with_reducible repeat (first | apply N_alloc | apply N_drewN | apply N_drew)); exact (N_mono (N_far (p := ⟨gb374, 11, none⟩) (N_mono HO_5.out (fun k_ hk => (⟨hk, hk.1.2⟩ : _ ∧ k_ ≠ gb374))) (fun _ hk => hk.2) (.slice Ao57 y384.length co57)) (fun _ h_ => h_.1)))); (case side2 => exact (N_reads' HO_5.out).2.1); (case side3 => refine (R_reads' (e := 3) (base := w.heap.size) (ok := fun k_ => True) (n := y371.length) (c := co12) ?_).2.2; exact (by (with_reducible repeat (first | apply R_alloc | apply R_drewN | apply R_drew)); exact (R_mono (R_far (p := ⟨gb374, 11, none⟩) (R_types HO_375002.out BK374.out z5) (fun _ hk => hk.2) (.slice Ao57 y384.length co57)) (fun _ h_ => h_.1)))); (case side4 => exact (R_reads' HO_375002.out).2.1); (case side5 => exact C_nil _ _); (case side6 => exact Nat.le_refl _); (case side7 => refine (R_reads' (e := 25) (base := w.heap.size) (ok := fun k_ => True) (n := y384.length) (c := co57) ?_).2.2; exact (by (with_reducible repeat (first | apply R_alloc | apply R_drewN | apply R_drew)); exact (R_mono (R_far (p := ⟨gb374, 11, none⟩) (R_types HO386.out BK374.out z5) (fun _ hk => hk.2) (.slice Ao57 y384.length co57)) (fun _ h_ => h_.1)))); (case side8 => exact (R_reads' HO386.out).2.1); rintro e w60 ⟨rfl, hb⟩; refine ⟨_, rfl, ?_⟩; have n0_ := mk_ (N_below (by (with_reducible repeat (first | apply N_alloc | apply N_drewN | apply N_drew)); exact (N_mono (N_far (p := ⟨gb374, 11, none⟩) (N_mono HO_5.out (fun k_ hk => (⟨hk, hk.1.2⟩ : _ ∧ k_ ≠ gb374))) (fun _ hk => hk.2) (.slice Ao57 y384.length co57)) (fun _ h_ => h_.1))) hb); have n1_ := mk_ (R_below (by (with_reducible repeat (first | apply R_alloc | apply R_drewN | apply R_drew)); exact (R_mono (R_far (p := ⟨gb374, 11, none⟩) (R_types HO_375002.out BK374.out z5) (fun _ hk => hk.2) (.slice Ao57 y384.length co57)) (fun _ h_ => h_.1))) hb); have n2_ := mk_ (R_below (by (with_reducible repeat (first | apply R_alloc | apply R_drewN | apply R_drew)); exact (R_mono (R_far (p := ⟨gb374, 11, none⟩) (R_types HO386.out BK374.out z5) (fun _ hk => hk.2) (.slice Ao57 y384.length co57)) (fun _ h_ => h_.1))) hb); have n3_ := mk_ (blk_below (g := gb374) (o := .cells #[.int .i64 1, .int .i64 1, .slice Ao12 y371.length co12, .int .i64 0, .int .i64 0, .int .i64 1, .int .i64 3, .int .i64 0, .string (⟨#[107]⟩ : ByteArray), .int .i64 0, .slice none 0 0, .slice Ao57 y384.length co57] 32 (0, 0)) (by (with_reducible repeat (first | refine blk_drewN ?_ _ | refine blk_drew ?_ | refine blk_alloc ?_ _)); refine blk_put (cs := #[.int .i64 1, .int .i64 1, .slice Ao12 y371.length co12, .int .i64 0, .int .i64 0, .int .i64 1, .int .i64 3, .int .i64 0, .string (⟨#[107]⟩ : ByteArray), .int .i64 0, .slice none 0 0, .slice (some ad383) x375011_1.length co53]) ?_ 11 _ rfl; (with_reducible repeat (first | refine blk_drewN ?_ _ | refine blk_drew ?_ | refine blk_alloc ?_ _)); exact BK374.out) hb); have n4_ := mk_ (below_step (Short.hB HB) hb); clear HO_5 HO_375002 HO386 BK374 HB; revert n0_ n1_ n2_ n3_ n4_; intro HO_5 HO_375002 HO386 BK374 HB; (try clear hb)) | (go_at_call 15; (with_reducible refine (raddlelaw07_wakes.calls  t388 _ A51.out).mono ?_); rintro e w61 ⟨rfl, hb⟩; have n0_ := mk_ (N_below (ZKN HO_5) hb); have n1_ := mk_ (R_below (ZKR HO_375002) hb); have n2_ := mk_ (R_below (ZKR HO386) hb); have n3_ := mk_ (bB_ BK374 hb); have n4_ := mk_ (below_step (Short.hB HB) hb); clear HO_5 HO_375002 HO386 BK374 HB; revert n0_ n1_ n2_ n3_ n4_; intro HO_5 HO_375002 HO386 BK374 HB; (try clear hb); (try clear hb2); (try clear hk); (try clear hi)))
     go_ret
     exact ⟨by first | rfl | (simp [errW_none, errW_some] <;> rfl) | (simp only [← hji45]; first | rfl | (simp [errW_none, errW_some] <;> rfl)) | (simp [*, errW_none, errW_some] <;> rfl), Short.hB HB⟩
def raddlelaw07_OpDots.Pure : Prop := ∀ (a0 : Int) (a1 : Int), (Lit.int .i64 a0).wf = true → (Lit.int .i64 a1).wf = true → ∃ k, raddlelaw07_OpDots.f k a0 a1 = some true
theorem raddlelaw07_OpDots.walk (P : raddlelaw07_OpDots.Pure) (a0 : Int) (a1 : Int) (w : World) (w0 : (Lit.int .i64 a0).wf = true) (w1 : (Lit.int .i64 a1).wf = true) :
  Calls Try.prog 6 #[.int .i64 a0, .int .i64 a1] w fun e w' => e = .returned (.bool true) ∧ Below w.heap.size w w' := by
 obtain ⟨k, h⟩ := P a0 a1 w0 w1
 refine (raddlelaw07_OpDots.calls k a0 a1 true w rfl h).mono ?_
 rintro e w' ⟨rfl, hd⟩
 exact ⟨rfl, hd⟩
end Go.Proofs.Ytjnjfogfpmeacaa.PAll
end
section
namespace Go.Proofs.Ytjnjfogfpmeacaa.Pure
open Go.RowKit PAll PrintWords PrintLast Plain Ops ZipT PrintWords.Kd PrintMore.Kd
set_option linter.unusedVariables false
set_option linter.unusedSimpArgs false
def dotsOp (d : List Dt) : Ox := ⟨⟨1, 1⟩, [69, 0], ⟨0, 0, 1⟩, 3, 0, ⟨#[107]⟩, 0, [], d⟩
theorem dotsOp_check (d : List Dt) : checkE 2 [⟨[3]⟩] (dotsOp d) = if (1 ≤ d.length ∧ d.length ≤ 64) ∧ hadG [69, 0] none d = true then 0 else 1 := by
 have hw : wholeP 2 (dotsOp d) := (show wholeP 2 (dotsOp []) by decide)
 have hf : formsE [(⟨[3]⟩ : Tb)] = 0 := by decide
 have hk : keyB (dotsOp d).f5 = true := (show keyB (dotsOp []).f5 = true by decide)
 unfold checkE rightB
 rw [if_neg (fun e => e hf), if_neg z5, decide_eq_true hw, hk, decide_eq_true (show 0 ≤ (dotsOp d).f4 ∧ (dotsOp d).f4 < (([(⟨[3]⟩ : Tb)] : List Tb).length : Int) from ⟨Int.le_refl _, by show (0 : Int) < 1; omega⟩)]
 unfold kindB
 rw [if_neg (show ¬ (dotsOp d).f3 = 1 by show ¬ (3 : Int) = 1; omega), if_neg (show ¬ (dotsOp d).f3 = 2 by show ¬ (3 : Int) = 2; omega), if_pos (show (dotsOp d).f3 = 3 from rfl)]
 show (if (true && true && true && (decide (1 ≤ d.length ∧ d.length ≤ 64) && hadG [69, 0] none d && decide ((0 : Int) = 0) && decide (([] : List V).length = 0))) = true then (0 : Int) else 1) = _
 by_cases h1 : 1 ≤ d.length ∧ d.length ≤ 64
 rotate_left
 ·
  rw [decide_eq_false h1, if_neg (by simp), if_neg (fun e => h1 e.1)]
 rw [decide_eq_true h1]
 cases h2 : hadG [69, 0] none d
 ·
  rw [if_neg z5, if_neg (fun e => by cases e.2)]
 ·
  rw [if_pos z5, if_pos ⟨h1, rfl⟩]
theorem dots_check (k : Nat) (d : List Dt) (hd : d.length ≤ 1000) (hk : 1100 ≤ k) :
  op_Check.f k 2 ([(⟨([3] : List Int)⟩ : Tb)] : List Tb) 1 1 ([69, 0] : List Int) 0 0 1 3 0 (⟨#[107]⟩ : ByteArray) 0 ([] : List V) d = some (if (1 ≤ d.length ∧ d.length ≤ 64) ∧ hadG [69, 0] none d = true then 0 else 1) := by
 rw [← dotsOp_check]
 exact check_op_eq k 2 [⟨[3]⟩] (dotsOp d) ⟨by show 2 ≤ 1000; omega, by show 0 ≤ 1000; omega, hd⟩ z5 hk
def dotsFrom (a : Nat) : Nat → List Dt
 | 0 => []
 | m + 1 => ⟨0, ((a + 1 : Nat) : Int)⟩ :: dotsFrom (a + 1) m
theorem dotsFrom_len (m : Nat) : ∀ a, (dotsFrom a m).length = m := by
 induction m with
 | zero => intro a; rfl
 | succ m ih => intro a; rw [dotsFrom, List.length_cons, ih]
theorem dotsFrom_snoc (m : Nat) : ∀ a, dotsFrom a m ++ [⟨0, ((a + m + 1 : Nat) : Int)⟩] = dotsFrom a (m + 1) := by
 induction m with
 | zero => intro a; rfl
 | succ m ih =>
  intro a
  rw [dotsFrom, dotsFrom, List.cons_append, show a + (m + 1) + 1 = a + 1 + m + 1 by omega, ih (a + 1)]
theorem dotsFrom_had (m : Nat) : ∀ (a : Nat) (p : Option Dt), a + m ≤ 69 → (p = none ∨ p = some ⟨0, (a : Int)⟩) → hadG [69, 0] p (dotsFrom a m) = true := by
 induction m with
 | zero => intro a p _ _; rfl
 | succ m ih =>
  intro a p h hp
  rw [dotsFrom, hadG_cons, ih (a + 1) _ z3 (.inr rfl), Bool.and_true]
  have h1 : hasB [69, 0] ⟨0, ((a + 1 : Nat) : Int)⟩ = true := decide_eq_true ⟨⟨Int.le_refl _, by show (0 : Int) < 2; omega⟩, by show (1 : Int) ≤ ((a + 1 : Nat) : Int); omega, by show ((a + 1 : Nat) : Int) ≤ 69; omega⟩
  rw [h1, Bool.true_and]
  rcases hp with rfl | rfl
  ·
   rfl
  ·
   exact decide_eq_true (.inr ⟨rfl, by show (a : Int) < ((a + 1 : Nat) : Int); omega⟩)
theorem had_mem {v : List Int} : ∀ {l : List Dt} {p : Option Dt}, hadG v p l = true → ∀ d ∈ l, hasB v d = true
 | [], _, _, d, hd => by cases hd
 | x :: l, p, h, d, hd => by
  rw [hadG_cons, Bool.and_eq_true, Bool.and_eq_true] at h
  rcases List.mem_cons.1 hd with rfl | hd
  ·
   exact h.1.1
  ·
   exact had_mem h.2 d hd
theorem had_last {v : List Int} {q d : Dt} : ∀ {l : List Dt} {p : Option Dt}, hadG v p (l ++ [q, d]) = true → lessD q d = true
 | [], p, h => by
  simp only [List.nil_append, hadG_cons, Bool.and_eq_true] at h
  exact h.2.1.2
 | x :: l, p, h => by
  rw [List.cons_append, hadG_cons, Bool.and_eq_true] at h
  exact had_last h.2
theorem less_self (d : Dt) : lessD d d = false := decide_eq_false z3
theorem opDots_j1 (n : Nat) (h1 : 1 ≤ n) (hn : n ≤ 65) (a1 : Int) (k : Nat) (hk : 1200 ≤ k) :
  raddlelaw07_OpDots.j1 k (n : Int) a1 ([(⟨([3] : List Int)⟩ : Tb)] : List Tb) (if (n : Int) > 64 then 1 else 0) 1 1 ([69, 0] : List Int) 0 0 1 3 0 (⟨#[107]⟩ : ByteArray) 0 (dotsFrom 0 n) = some true := by
 obtain ⟨k, rfl⟩ : ∃ q, k = q + 1 := ⟨k - 1, by omega⟩
 have hl := dotsFrom_len n 0
 have hh := dotsFrom_had n 0 none z3 (.inl rfl)
 obtain ⟨m, rfl⟩ : ∃ q, n = q + 1 := ⟨n - 1, by omega⟩
 have hs := dotsFrom_snoc m 0
 have hm : wrap64 (((m + 1 : Nat) : Int) - 1) = (m : Int) := by rw [w64 z3 z3]; omega
 have hrd : rd_T25 (dotsFrom 0 (m + 1)) (m : Int) = ⟨0, ((0 + m + 1 : Nat) : Int)⟩ := by
  rw [← hs]
  show (dotsFrom 0 m ++ _).getD ((m : Int).toNat) _ = _
  rw [Int.toNat_natCast, List.getD_eq_getElem?_getD, List.getElem?_append_right (by rw [dotsFrom_len]; omega), dotsFrom_len, Nat.sub_self]; rfl
 have hz := dots_check k (dotsFrom 0 (m + 1)) z3 z3
 have he : (if (1 ≤ (dotsFrom 0 (m + 1)).length ∧ (dotsFrom 0 (m + 1)).length ≤ 64) ∧ hadG [69, 0] none (dotsFrom 0 (m + 1)) = true then (0 : Int) else 1) = (if ((m + 1 : Nat) : Int) > 64 then 1 else 0) := by
  rw [hl, hh]
  by_cases h : ((m + 1 : Nat) : Int) > 64
  ·
   rw [if_pos h, if_neg z3]
  ·
   rw [if_neg h, if_pos ⟨by omega, rfl⟩]
 rw [he] at hz
 simp only [raddlelaw07_OpDots.j1]
 rw [hz, Option.bind_some, if_pos rfl]
 have hw := wakes7_eq
 have end_ : ∀ d : List Dt, d.length ≤ 1000 → ¬ hadG [69, 0] none d = true → ((op_Check.f k 2 ([(⟨([3] : List Int)⟩ : Tb)] : List Tb) 1 1 ([69, 0] : List Int) 0 0 1 3 0 (⟨#[107]⟩ : ByteArray) 0 ([] : List V) d).bind fun t => (if t = 1 then ((raddlelaw07_wakes.f).bind fun t => (some t)) else (some false))) = some true := fun d hd hz => by
  have h5 := dots_check k d hd z3
  rw [if_neg (fun e => hz e.2)] at h5
  rw [h5, Option.bind_some, if_pos rfl, hw]; rfl
 by_cases q0 : Int.tmod (IntKind.u64.wrap a1) 3 = 0
 ·
  rw [if_pos q0, hm, if_pos z3, if_pos z3, Int.toNat_natCast]
  refine end_ _ (by rw [List.length_set]; omega) (fun e => ?_)
  have := had_mem e _ (List.mem_set z3 _)
  rw [hrd] at this
  exact absurd (show hasB [69, 0] ⟨0, 70⟩ = true from this) z5
 rw [if_neg q0]
 by_cases q1 : Int.tmod (IntKind.u64.wrap a1) 3 = 1
 ·
  rw [if_pos q1, hm, if_pos z3, if_pos z3, if_pos z3, hrd]
  refine end_ _ (by rw [List.length_append]; simp; omega) (fun e => ?_)
  rw [← hs, List.append_assoc] at e
  have := had_last e
  rw [less_self] at this
  cases this
 rw [if_neg q1, if_pos z3]
 refine end_ _ (by rw [List.length_set]; omega) (fun e => ?_)
 have := had_mem e _ (List.mem_set (by show 0 < _; omega) _)
 rw [show rd_T25 (dotsFrom 0 (m + 1)) 0 = ⟨0, 1⟩ from rfl] at this
 exact absurd this z5
theorem opDots_l0 (n : Nat) (h1 : 1 ≤ n) (hn : n ≤ 65) (a1 : Int) (j : Nat) : ∀ (k i : Nat), 1210 + j ≤ k → i + j = n →
  raddlelaw07_OpDots.l0 k (n : Int) a1 ([(⟨([3] : List Int)⟩ : Tb)] : List Tb) (i : Int) 1 1 ([69, 0] : List Int) 0 0 1 3 0 (⟨#[107]⟩ : ByteArray) 0 (dotsFrom 0 i) = some true := by
 induction j with
 | zero =>
  intro k i hk hi
  obtain ⟨k, rfl⟩ : ∃ q, k = q + 1 := ⟨k - 1, by omega⟩
  obtain rfl : i = n := by omega
  have := opDots_j1 i h1 hn a1 k z3
  simp only [raddlelaw07_OpDots.l0]
  rw [if_neg z3]
  by_cases h : (i : Int) > 64
  ·
   rw [if_pos h] at this ⊢; exact this
  rw [if_neg h] at this ⊢; exact this
 | succ j ih =>
  intro k i hk hi
  obtain ⟨k, rfl⟩ : ∃ q, k = q + 1 := ⟨k - 1, by omega⟩
  have hs := dotsFrom_snoc i 0
  rw [Nat.zero_add] at hs
  simp only [raddlelaw07_OpDots.l0]
  rw [if_pos z3, if_pos (by rw [dotsFrom_len]; omega), w64 z3 z3]
  rw [show ((i : Int) + 1) = ((i + 1 : Nat) : Int) from rfl, hs]
  exact ih k (i + 1) z3 z3
theorem OpDots : raddlelaw07_OpDots.Pure := by
 intro a0 a1 h0 h1
 refine ⟨1400, ?_⟩
 unfold raddlelaw07_OpDots.f
 have hm : wrap64 (1 + wrap64 (Int.tmod (IntKind.u64.wrap a0) 65)) = 1 + a0 % 18446744073709551616 % 65 := by
  rw [u64_mod, Int.tmod_eq_emod_of_nonneg z3, w64 (x := a0 % 18446744073709551616 % 65) z3 z3, w64 z3 z3]
 have hz := dots_check 1400 [] (by simp) z3
 rw [if_neg (by simp)] at hz
 rw [hm, Option.bind_some, Option.bind_some, hz, Option.bind_some, if_pos rfl]
 have h : 0 ≤ a0 % 18446744073709551616 % 65 ∧ a0 % 18446744073709551616 % 65 ≤ 64 := by omega
 generalize a0 % 18446744073709551616 % 65 = m at *
 obtain ⟨n, rfl⟩ := Int.eq_ofNat_of_zero_le h.1
 rw [show (1 : Int) + (n : Int) = ((n + 1 : Nat) : Int) by omega]
 exact opDots_l0 (n + 1) z3 z3 a1 (n + 1) 1400 0 z3 z3
end Go.Proofs.Ytjnjfogfpmeacaa.Pure
end
