-- packed
-- Printed by a program of this session (wip/hp.py: the printer of the kit with hooks of our own); Lean checks it.
import Derived.Test.YteicflbjhcddoaaPAllx0
import Derived.Test.YteicflbjhcddoaaPAllx1
import Derived.Test.YteicflbjhcddoaaPAllx2
import Derived.Test.YteicflbjhcddoaaPAllx5
namespace Go.Proofs.Yteicflbjhcddoaa.PAll
open Go.RowKit Go.Proofs.YteicflbjhcddoaaW.PrintWords Go.Proofs.YteicflbjhcddoaaW.PrintLast Go.Proofs.YteicflbjhcddoaaW.PrintMore
attribute [local go_sem] max2_int min2_int max_two min_two max_three min_three max_four min_four   -- for this text's walks alone
set_option linter.unusedVariables false
set_option linter.unusedSimpArgs false

/-! ### raddlelaw03_ValueSizes: function 7 -/
def raddlelaw03_ValueSizes.f (k : Nat) (a0_0 : Int) (a0_1 : Int) (a0_2 : ByteArray) : Option (Bool) := (raddlelaw03_Long.f k (([(⟨a0_0, a0_1, a0_2⟩ : S23)] : List (S23)))).bind fun t423 => (if t423 = true then (some true) else ((value_Bytes.f k a0_0 a0_1 a0_2).bind fun bt424 => ((raddleref01_Value.f a0_0 a0_1 a0_2).bind fun t428 => (if t428 = true then ((some (([0, 1, 2, 10, wrap64 (2 + (a0_2.size : Int))] : List Int) : List Int)).bind fun y429 => (if 0 ≤ a0_0 then (if a0_0 < (y429.length : Int) then (if bt424.2 = 0 then (if (bt424.1.length : Int) = (rd y429 a0_0) then (if 0 < (bt424.1.length : Int) then (if (wrap64 (rd bt424.1 0)) = a0_0 then ((raddlelaw03_wakes.f k).bind fun t434 => (some t434)) else (some false)) else (none)) else (some false)) else (some false)) else (none)) else (none))) else (if bt424.2 = 1 then (if (bt424.1.length : Int) = 0 then ((value_Check.f a0_0 a0_1 a0_2).bind fun t435 => (if t435 = 1 then ((raddlelaw03_wakes.f k).bind fun t436 => (some t436)) else (some false))) else (some false)) else (some false))))))
theorem raddlelaw03_ValueSizes.mono : ∀ a0 a1 a2 k, LeO (raddlelaw03_ValueSizes.f k a0 a1 a2) (raddlelaw03_ValueSizes.f (k + 1) a0 a1 a2) := by
 intro a0 a1 a2 k
 unfold raddlelaw03_ValueSizes.f
 repeat' first
   | (with_reducible exact raddlelaw03_Long.mono _ _)
   | (with_reducible exact raddlelaw03_wakes.mono _)
   | (with_reducible exact value_Bytes.mono _ _ _ _)
   | (with_reducible exact LeO.refl _)
   | (with_reducible exact LeO.none _)
   | (with_reducible refine LeO.ite ?_ ?_)
   | (with_reducible refine LeO.bind ?_ (fun _ => ?_))
   | exact raddlelaw03_Long.mono _ _
   | exact raddlelaw03_wakes.mono _
   | exact value_Bytes.mono _ _ _ _
   | exact LeO.none _
   | refine LeO.ite ?_ ?_
   | refine LeO.bind ?_ (fun _ => ?_)
def raddlelaw03_ValueSizes.T7 : Bool × List (List Nat × List Nat) := (true, [([], []), ([0], [0]), ([1], [1]), ([2], [2]), ([3, 2], [2, 3]), ([2], [2]), ([4, 5, 2], [2, 4, 5]), ([2, 6], [2, 6]), ([7, 2], [7]), ([8], [8]), ([9, 8], [8, 9]), ([10, 8], [8, 10]), ([11, 8], [8, 11]), ([8], [8]), ([13, 8], [8, 13]), ([12, 14, 8], [8, 12, 14]), ([8, 15], [8, 15]), ([16, 8], [16]), ([17, 17], [17]), ([17, 18], [17, 18]), ([19, 18, 0, 1, 2, 3, 4, 5, 6, 7, 8, 9, 10, 11, 12, 13, 14, 15, 16, 17, 18, 19], [19])])
def raddlelaw03_ValueSizes.B7 : List Nat := [0, 1, 3, 7, 15, 7, 63, 127, 255, 511, 1023, 2047, 4095, 511, 8703, 32767, 65535, 131071, 262143, 524287, 1048575]
theorem raddlelaw03_ValueSizes.tab7 : rtab .any (opsOf Try.f7 7) = raddlelaw03_ValueSizes.T7 := by kernel_rfl
theorem raddlelaw03_ValueSizes.bits7 : waitsOk raddlelaw03_ValueSizes.T7.2 raddlelaw03_ValueSizes.B7 = true := by kernel_rfl
set_option maxHeartbeats 8000000 in
set_option maxRecDepth 100000 in
theorem raddlelaw03_ValueSizes.calls (k : Nat) (a0_0 : Int) (a0_1 : Int) (a0_2 : ByteArray) (r : Bool) (w : World) (hrt : r = true) (h : raddlelaw03_ValueSizes.f k a0_0 a0_1 a0_2 = some r) :
  Calls Try.prog 7 #[.agg #[.int .i64 a0_0, .int .i64 a0_1, .string a0_2]] w fun e w' => e = .returned (.bool r) ∧ Below w.heap.size w w' := by
 have hu23 := Try.underlying23
 have HB := Aside0.mk (Below.refl w.heap.size w)
 have H : ((raddlelaw03_Long.f k (([(⟨a0_0, a0_1, a0_2⟩ : S23)] : List (S23)))).bind fun t423 => (if t423 = true then (some true) else ((value_Bytes.f k a0_0 a0_1 a0_2).bind fun bt424 => ((raddleref01_Value.f a0_0 a0_1 a0_2).bind fun t428 => (if t428 = true then ((some (([0, 1, 2, 10, wrap64 (2 + (a0_2.size : Int))] : List Int) : List Int)).bind fun y429 => (if 0 ≤ a0_0 then (if a0_0 < (y429.length : Int) then (if bt424.2 = 0 then (if (bt424.1.length : Int) = (rd y429 a0_0) then (if 0 < (bt424.1.length : Int) then (if (wrap64 (rd bt424.1 0)) = a0_0 then ((raddlelaw03_wakes.f k).bind fun t434 => (some t434)) else (some false)) else (none)) else (some false)) else (some false)) else (none)) else (none))) else (if bt424.2 = 1 then (if (bt424.1.length : Int) = 0 then ((value_Check.f a0_0 a0_1 a0_2).bind fun t435 => (if t435 = 1 then ((raddlelaw03_wakes.f k).bind fun t436 => (some t436)) else (some false))) else (some false)) else (some false))))))) = some r := h
 clear h
 obtain ⟨y420, hy420⟩ : ∃ y_ : List (S23), y_ = (([(⟨a0_0, a0_1, a0_2⟩ : S23)] : List (S23))) := ⟨_, rfl⟩
 replace H : ((raddlelaw03_Long.f k y420).bind fun t423 => (if t423 = true then (some true) else ((value_Bytes.f k a0_0 a0_1 a0_2).bind fun bt424 => ((raddleref01_Value.f a0_0 a0_1 a0_2).bind fun t428 => (if t428 = true then ((some (([0, 1, 2, 10, wrap64 (2 + (a0_2.size : Int))] : List Int) : List Int)).bind fun y429 => (if 0 ≤ a0_0 then (if a0_0 < (y429.length : Int) then (if bt424.2 = 0 then (if (bt424.1.length : Int) = (rd y429 a0_0) then (if 0 < (bt424.1.length : Int) then (if (wrap64 (rd bt424.1 0)) = a0_0 then ((raddlelaw03_wakes.f k).bind fun t434 => (some t434)) else (some false)) else (none)) else (some false)) else (some false)) else (none)) else (none))) else (if bt424.2 = 1 then (if (bt424.1.length : Int) = 0 then ((value_Check.f a0_0 a0_1 a0_2).bind fun t435 => (if t435 = 1 then ((raddlelaw03_wakes.f k).bind fun t436 => (some t436)) else (some false))) else (some false)) else (some false))))))) = some r := by first | (rw [hy420]; with_reducible exact H) | (have H2_ := (Option.bind_some _ _).symm.trans H; rw [hy420]; with_reducible exact H2_) | (have H2_ := (Option.bind_some _ _).symm.trans H; with_reducible exact H2_) | with_reducible exact H | (rw [hy420]; exact H) | exact H
 have Ny420 := Aside0.mk hy420
 clear hy420
 replace H := Option.bind_eq_some_iff.mp H
 obtain ⟨t423, A20, H⟩ := H
 replace H : (if t423 = true then (some true) else ((value_Bytes.f k a0_0 a0_1 a0_2).bind fun bt424 => ((raddleref01_Value.f a0_0 a0_1 a0_2).bind fun t428 => (if t428 = true then ((some (([0, 1, 2, 10, wrap64 (2 + (a0_2.size : Int))] : List Int) : List Int)).bind fun y429 => (if 0 ≤ a0_0 then (if a0_0 < (y429.length : Int) then (if bt424.2 = 0 then (if (bt424.1.length : Int) = (rd y429 a0_0) then (if 0 < (bt424.1.length : Int) then (if (wrap64 (rd bt424.1 0)) = a0_0 then ((raddlelaw03_wakes.f k).bind fun t434 => (some t434)) else (some false)) else (none)) else (some false)) else (some false)) else (none)) else (none))) else (if bt424.2 = 1 then (if (bt424.1.length : Int) = 0 then ((value_Check.f a0_0 a0_1 a0_2).bind fun t435 => (if t435 = 1 then ((raddlelaw03_wakes.f k).bind fun t436 => (some t436)) else (some false))) else (some false)) else (some false)))))) = some r := H
 have A2 := Aside0.mk A20
 clear A20
 by_cases c3 : t423 = true
 ·
  subst c3
  have H1 : (some true) = some r := by rw [if_pos rfl] at H; exact H
  clear H
  have H := H1
  clear H1
  obtain rfl := Option.some.inj H
  go_enter Try.func7, Try.ntmps7
  go_wp2_with (first | ((with_reducible refine gate_dst (N := 1) rfl ?_); (try (refine gate_guard (by rfl) ?_; dsimp only)); refine box_event ?hg (N := 1) ?hd (cs := #[.int .i64 a0_0, .int .i64 a0_1, .string a0_2]) (t := 23) ?hr ?_; (case hd => rfl); (case hg => rfl); (case hr => first | (go_simp; done) | (go_simp; rfl)); intro gb419 hg w4 hbox hb; have n0_ := Aside0.mk (below_step (by repeat (first | (with_reducible first | exact HB.out | apply below_alloc | apply pw_below_drewN | apply below_drew1) | exact HB.out)) hb); have n1_ := Aside0.mk (hbox); have n2_ := Aside0.mk ((by rw [hg]; exact (below_size (by repeat (first | (with_reducible first | exact HB.out | apply below_alloc | apply pw_below_drewN | apply below_drew1) | exact HB.out))) : w.heap.size ≤ gb419)); have n3_ := Aside0.mk ((by rw [hg]; exact (below_size (by repeat (first | (with_reducible first | exact HB.out | apply below_alloc | apply pw_below_drewN | apply below_drew1) | exact HB.out))) : w.heap.size ≤ gb419)); clear HB; have HB := n0_; have BK419 := n1_; have GW419 := n2_; have GE419 := n3_; clear n0_ n1_ n2_ n3_; clear hb hbox hg; have hcz5_0 : w4.cell? ⟨gb419, 0, none⟩ = some (.int .i64 a0_0) := (blk_cell BK419.out 0).trans rfl; have hcz5_1 : w4.cell? ⟨gb419, 1, none⟩ = some (.int .i64 a0_1) := (blk_cell BK419.out 1).trans rfl; have hcz5_2 : w4.cell? ⟨gb419, 2, none⟩ = some (.string a0_2) := (blk_cell BK419.out 2).trans rfl; have hfz5_0 := blk_frozen BK419.out 0; have hfz5_1 := blk_frozen BK419.out 1; have hfz5_2 := blk_frozen BK419.out 2) | ((with_reducible refine gate_dst (N := 7) rfl ?_); (try (refine gate_guard (by rfl) ?_; dsimp only)); refine Kd.R_lit k23 _ 23 ?hg (N := 7) ?hd (xs := ([(⟨a0_0, a0_1, a0_2⟩ : S23)] : List (S23))) (inner := [.int .i64 a0_0, .int .i64 a0_1, .string a0_2]) (ok := fun _ => True) (okp := fun _ => True) ?hr ?hp (fun _ hk => hk) trivial (Below.refl _ _) (Nat.le_refl _) (by simp) ?_; (case hd => rfl); (case hg => rfl); (case hr => first | (go_simp; done) | (go_simp; rfl)); (case hp => exact (Reps.c3 (show Kd.M k23 _ _ _ (⟨a0_0, a0_1, a0_2⟩ : S23) [.int .i64 a0_0, .int .i64 a0_1, .string a0_2] from (k23_mkM _ _ _ (⟨a0_0, a0_1, a0_2⟩ : S23) )) (Reps.none _ _))); intro v421 w6 ho7 hb hg_ hnew_; clear hg_ hnew_; (first | rw [← Ny420.out] at ho7 | (simp only [Int.reduceToNat] at ho7; rw [← Ny420.out] at ho7)); have n0_ := Aside0.mk (Kd.R_lower (Kd.R_newB ho7 (g := gb419) (o := .cells #[.int .i64 a0_0, .int .i64 a0_1, .string a0_2] 23 (0, 0)) (by (with_reducible repeat (first | refine blk_drewN ?_ _ | refine blk_drew ?_ | refine blk_alloc ?_ _)); exact BK419.out)) (below_size (by repeat (first | (with_reducible first | exact HB.out | apply below_alloc | apply pw_below_drewN | apply below_drew1 | refine below_set ?_ GE419.out) | exact HB.out)))); have n1_ := Aside0.mk (blk_below (g := gb419) (o := .cells #[.int .i64 a0_0, .int .i64 a0_1, .string a0_2] 23 (0, 0)) (by (with_reducible repeat (first | refine blk_drewN ?_ _ | refine blk_drew ?_ | refine blk_alloc ?_ _)); exact BK419.out) hb); have n2_ := Aside0.mk (below_step (by repeat (first | (with_reducible first | exact HB.out | apply below_alloc | apply pw_below_drewN | apply below_drew1 | refine below_set ?_ GE419.out) | exact HB.out)) hb); clear BK419; clear HB; have HO422 := n0_; have BK419 := n1_; have HB := n2_; clear n0_ n1_ n2_; clear hb ho7; obtain ⟨Ao8, co8, eo8⟩ := Kd.R_slice HO422.out; subst eo8) | ((with_reducible refine gate_callee (f := 9) rfl ?_); refine goesL_ (some 8) rfl rfl Try.func9 (by kernel_rfl) rfl #[.slice Ao8 y420.length co8] rfl (by (try simp only [List.map_toArray, List.map_cons, List.map_nil]); first | done | rfl | (simp only [List.length_drop, List.length_take]; rfl) | (go_simp; done) | (simp; done)) ?_; (with_reducible refine (raddlelaw03_Long.calls k _ _ y420 true _ ?side1 ?side2 A2.out).mono ?_); (case side1 => repeat (first | exact (Kd.R_reads' HO422.out).2.2 | (with_reducible refine Kd.C_alloc ?_ _) | (with_reducible refine Kd.C_drewN ?_ _) | (with_reducible refine Kd.C_drew ?_))); (case side2 => exact (Kd.R_reads' HO422.out).2.1); rintro e w' ⟨rfl, ⟨nd, rfl⟩⟩; refine ⟨_, rfl, ?_⟩))
  go_ret
  exact ⟨by first | rfl | (simp [errW_none, errW_some] <;> rfl) | (simp [*, errW_none, errW_some] <;> rfl), by repeat (first | (with_reducible first | exact HB.out | apply below_alloc | apply pw_below_drewN | apply below_drew1 | refine below_set ?_ GE419.out) | exact HB.out)⟩
 ·
  replace c3 := Bool.eq_false_iff.mpr c3
  subst c3
  have H1 : ((value_Bytes.f k a0_0 a0_1 a0_2).bind fun bt424 => ((raddleref01_Value.f a0_0 a0_1 a0_2).bind fun t428 => (if t428 = true then ((some (([0, 1, 2, 10, wrap64 (2 + (a0_2.size : Int))] : List Int) : List Int)).bind fun y429 => (if 0 ≤ a0_0 then (if a0_0 < (y429.length : Int) then (if bt424.2 = 0 then (if (bt424.1.length : Int) = (rd y429 a0_0) then (if 0 < (bt424.1.length : Int) then (if (wrap64 (rd bt424.1 0)) = a0_0 then ((raddlelaw03_wakes.f k).bind fun t434 => (some t434)) else (some false)) else (none)) else (some false)) else (some false)) else (none)) else (none))) else (if bt424.2 = 1 then (if (bt424.1.length : Int) = 0 then ((value_Check.f a0_0 a0_1 a0_2).bind fun t435 => (if t435 = 1 then ((raddlelaw03_wakes.f k).bind fun t436 => (some t436)) else (some false))) else (some false)) else (some false))))) = some r := by rw [if_neg (show ¬ (false = true) by decide)] at H; exact H
  clear H
  have H := H1
  clear H1
  replace H := Option.bind_eq_some_iff.mp H
  obtain ⟨⟨t424, t427⟩, A90, H⟩ := H
  replace H : ((raddleref01_Value.f a0_0 a0_1 a0_2).bind fun t428 => (if t428 = true then ((some (([0, 1, 2, 10, wrap64 (2 + (a0_2.size : Int))] : List Int) : List Int)).bind fun y429 => (if 0 ≤ a0_0 then (if a0_0 < (y429.length : Int) then (if t427 = 0 then (if (t424.length : Int) = (rd y429 a0_0) then (if 0 < (t424.length : Int) then (if (wrap64 (rd t424 0)) = a0_0 then ((raddlelaw03_wakes.f k).bind fun t434 => (some t434)) else (some false)) else (none)) else (some false)) else (some false)) else (none)) else (none))) else (if t427 = 1 then (if (t424.length : Int) = 0 then ((value_Check.f a0_0 a0_1 a0_2).bind fun t435 => (if t435 = 1 then ((raddlelaw03_wakes.f k).bind fun t436 => (some t436)) else (some false))) else (some false)) else (some false)))) = some r := H
  have A9 := Aside0.mk A90
  clear A90
  replace H := Option.bind_eq_some_iff.mp H
  obtain ⟨t428, A100, H⟩ := H
  replace H : (if t428 = true then ((some (([0, 1, 2, 10, wrap64 (2 + (a0_2.size : Int))] : List Int) : List Int)).bind fun y429 => (if 0 ≤ a0_0 then (if a0_0 < (y429.length : Int) then (if t427 = 0 then (if (t424.length : Int) = (rd y429 a0_0) then (if 0 < (t424.length : Int) then (if (wrap64 (rd t424 0)) = a0_0 then ((raddlelaw03_wakes.f k).bind fun t434 => (some t434)) else (some false)) else (none)) else (some false)) else (some false)) else (none)) else (none))) else (if t427 = 1 then (if (t424.length : Int) = 0 then ((value_Check.f a0_0 a0_1 a0_2).bind fun t435 => (if t435 = 1 then ((raddlelaw03_wakes.f k).bind fun t436 => (some t436)) else (some false))) else (some false)) else (some false))) = some r := H
  have A10 := Aside0.mk A100
  clear A100
  by_cases c11 : t428 = true
  ·
   subst c11
   have H1 : ((some (([0, 1, 2, 10, wrap64 (2 + (a0_2.size : Int))] : List Int) : List Int)).bind fun y429 => (if 0 ≤ a0_0 then (if a0_0 < (y429.length : Int) then (if t427 = 0 then (if (t424.length : Int) = (rd y429 a0_0) then (if 0 < (t424.length : Int) then (if (wrap64 (rd t424 0)) = a0_0 then ((raddlelaw03_wakes.f k).bind fun t434 => (some t434)) else (some false)) else (none)) else (some false)) else (some false)) else (none)) else (none))) = some r := by rw [if_pos rfl] at H; exact H
   clear H
   have H := H1
   clear H1
   obtain ⟨y429, hy429⟩ : ∃ y_ : List Int, y_ = (([0, 1, 2, 10, wrap64 (2 + (a0_2.size : Int))] : List Int)) := ⟨_, rfl⟩
   replace H : (if 0 ≤ a0_0 then (if a0_0 < (y429.length : Int) then (if t427 = 0 then (if (t424.length : Int) = (rd y429 a0_0) then (if 0 < (t424.length : Int) then (if (wrap64 (rd t424 0)) = a0_0 then ((raddlelaw03_wakes.f k).bind fun t434 => (some t434)) else (some false)) else (none)) else (some false)) else (some false)) else (none)) else (none)) = some r := by first | (rw [hy429]; with_reducible exact H) | (have H2_ := (Option.bind_some _ _).symm.trans H; rw [hy429]; with_reducible exact H2_) | (have H2_ := (Option.bind_some _ _).symm.trans H; with_reducible exact H2_) | with_reducible exact H | (rw [hy429]; exact H) | exact H
   have Ny429 := Aside0.mk hy429
   clear hy429
   by_cases c12 : 0 ≤ a0_0
   ·
    rw [if_pos c12] at H
    have c12b0 : decide (0 ≤ a0_0) = true := decide_eq_true c12
    clear c12
    by_cases c13 : a0_0 < (y429.length : Int)
    ·
     rw [if_pos c13] at H
     have c13b0 : decide (a0_0 < (y429.length : Int)) = true := decide_eq_true c13
     clear c13
     by_cases c14 : t427 = 0
     ·
      rw [if_pos c14] at H
      have c14b0 : (t427 == 0) = true := beq_iff_eq.mpr c14
      have c14b1 : (t427 != 0) = false := bne_eq_false_iff_eq.mpr c14
      clear c14
      by_cases c15 : (t424.length : Int) = (rd y429 a0_0)
      ·
       rw [if_pos c15] at H
       have c15b0 : ((t424.length : Int) == (rd y429 a0_0)) = true := beq_iff_eq.mpr c15
       have c15b1 : ((t424.length : Int) != (rd y429 a0_0)) = false := bne_eq_false_iff_eq.mpr c15
       clear c15
       by_cases c16 : 0 < (t424.length : Int)
       ·
        rw [if_pos c16] at H
        have c16b0 : decide (0 < (t424.length : Int)) = true := decide_eq_true c16
        have c16b1 : decide (0 < t424.length) = true := decide_eq_true (by omega)
        clear c16
        by_cases c17 : (wrap64 (rd t424 0)) = a0_0
        ·
         rw [if_pos c17] at H
         have c17b0 : ((wrap64 (rd t424 0)) == a0_0) = true := beq_iff_eq.mpr c17
         have c17b1 : ((wrap64 (rd t424 0)) != a0_0) = false := bne_eq_false_iff_eq.mpr c17
         clear c17
         replace H := Option.bind_eq_some_iff.mp H
         obtain ⟨t434, A180, H⟩ := H
         replace H : (some t434) = some r := H
         have A18 := Aside0.mk A180
         clear A180
         obtain rfl := Option.some.inj H
         go_enter Try.func7, Try.ntmps7
         try go_wp2_with (first | ((with_reducible refine gate_dst (N := 1) rfl ?_); (try (refine gate_guard (by rfl) ?_; dsimp only)); refine box_event ?hg (N := 1) ?hd (cs := #[.int .i64 a0_0, .int .i64 a0_1, .string a0_2]) (t := 23) ?hr ?_; (case hd => rfl); (case hg => rfl); (case hr => first | (go_simp; done) | (go_simp; rfl)); intro gb419 hg w19 hbox hb; have n0_ := Aside0.mk (below_step (by repeat (first | (with_reducible first | exact HB.out | apply below_alloc | apply pw_below_drewN | apply below_drew1) | exact HB.out)) hb); have n1_ := Aside0.mk (hbox); have n2_ := Aside0.mk ((by rw [hg]; exact (below_size (by repeat (first | (with_reducible first | exact HB.out | apply below_alloc | apply pw_below_drewN | apply below_drew1) | exact HB.out))) : w.heap.size ≤ gb419)); have n3_ := Aside0.mk ((by rw [hg]; exact (below_size (by repeat (first | (with_reducible first | exact HB.out | apply below_alloc | apply pw_below_drewN | apply below_drew1) | exact HB.out))) : w.heap.size ≤ gb419)); clear HB; have HB := n0_; have BK419 := n1_; have GW419 := n2_; have GE419 := n3_; clear n0_ n1_ n2_ n3_; clear hb hbox hg; have hcz20_0 : w19.cell? ⟨gb419, 0, none⟩ = some (.int .i64 a0_0) := (blk_cell BK419.out 0).trans rfl; have hcz20_1 : w19.cell? ⟨gb419, 1, none⟩ = some (.int .i64 a0_1) := (blk_cell BK419.out 1).trans rfl; have hcz20_2 : w19.cell? ⟨gb419, 2, none⟩ = some (.string a0_2) := (blk_cell BK419.out 2).trans rfl; have hfz20_0 := blk_frozen BK419.out 0; have hfz20_1 := blk_frozen BK419.out 1; have hfz20_2 := blk_frozen BK419.out 2) | ((with_reducible refine gate_dst (N := 7) rfl ?_); (try (refine gate_guard (by rfl) ?_; dsimp only)); refine Kd.R_lit k23 _ 23 ?hg (N := 7) ?hd (xs := ([(⟨a0_0, a0_1, a0_2⟩ : S23)] : List (S23))) (inner := [.int .i64 a0_0, .int .i64 a0_1, .string a0_2]) (ok := fun _ => True) (okp := fun _ => True) ?hr ?hp (fun _ hk => hk) trivial (Below.refl _ _) (Nat.le_refl _) (by simp) ?_; (case hd => rfl); (case hg => rfl); (case hr => first | (go_simp; done) | (go_simp; rfl)); (case hp => exact (Reps.c3 (show Kd.M k23 _ _ _ (⟨a0_0, a0_1, a0_2⟩ : S23) [.int .i64 a0_0, .int .i64 a0_1, .string a0_2] from (k23_mkM _ _ _ (⟨a0_0, a0_1, a0_2⟩ : S23) )) (Reps.none _ _))); intro v421 w21 ho22 hb hg_ hnew_; clear hg_ hnew_; (first | rw [← Ny420.out] at ho22 | (simp only [Int.reduceToNat] at ho22; rw [← Ny420.out] at ho22)); have n0_ := Aside0.mk (Kd.R_lower (Kd.R_newB ho22 (g := gb419) (o := .cells #[.int .i64 a0_0, .int .i64 a0_1, .string a0_2] 23 (0, 0)) (by (with_reducible repeat (first | refine blk_drewN ?_ _ | refine blk_drew ?_ | refine blk_alloc ?_ _)); exact BK419.out)) (below_size (by repeat (first | (with_reducible first | exact HB.out | apply below_alloc | apply pw_below_drewN | apply below_drew1 | refine below_set ?_ GE419.out) | exact HB.out)))); have n1_ := Aside0.mk (blk_below (g := gb419) (o := .cells #[.int .i64 a0_0, .int .i64 a0_1, .string a0_2] 23 (0, 0)) (by (with_reducible repeat (first | refine blk_drewN ?_ _ | refine blk_drew ?_ | refine blk_alloc ?_ _)); exact BK419.out) hb); have n2_ := Aside0.mk (below_step (by repeat (first | (with_reducible first | exact HB.out | apply below_alloc | apply pw_below_drewN | apply below_drew1 | refine below_set ?_ GE419.out) | exact HB.out)) hb); clear BK419; clear HB; have HO422 := n0_; have BK419 := n1_; have HB := n2_; clear n0_ n1_ n2_; clear hb ho22; obtain ⟨Ao23, co23, eo23⟩ := Kd.R_slice HO422.out; subst eo23) | ((with_reducible refine gate_callee (f := 9) rfl ?_); refine goesL_ (some 8) rfl rfl Try.func9 (by kernel_rfl) rfl #[.slice Ao23 y420.length co23] rfl (by (try simp only [List.map_toArray, List.map_cons, List.map_nil]); first | done | rfl | (simp only [List.length_drop, List.length_take]; rfl) | (go_simp; done) | (simp; done)) ?_; (with_reducible refine (raddlelaw03_Long.calls k _ _ y420 false _ ?side1 ?side2 A2.out).mono ?_); (case side1 => repeat (first | exact (Kd.R_reads' HO422.out).2.2 | (with_reducible refine Kd.C_alloc ?_ _) | (with_reducible refine Kd.C_drewN ?_ _) | (with_reducible refine Kd.C_drew ?_))); (case side2 => exact (Kd.R_reads' HO422.out).2.1); rintro e w' ⟨rfl, ⟨nd, rfl⟩⟩; refine ⟨_, rfl, ?_⟩; have hcz24_0 : w21.cell? ⟨gb419, 0, none⟩ = some (.int .i64 a0_0) := (blk_cell BK419.out 0).trans rfl; have hcz24_1 : w21.cell? ⟨gb419, 1, none⟩ = some (.int .i64 a0_1) := (blk_cell BK419.out 1).trans rfl; have hcz24_2 : w21.cell? ⟨gb419, 2, none⟩ = some (.string a0_2) := (blk_cell BK419.out 2).trans rfl; have hfz24_0 := blk_frozen BK419.out 0; have hfz24_1 := blk_frozen BK419.out 1; have hfz24_2 := blk_frozen BK419.out 2) | ((with_reducible refine gate_callee (f := 11) rfl ?_); refine goesL_ (some 11) rfl rfl Try.func11 (by kernel_rfl) rfl #[.agg #[.int .i64 a0_0, .int .i64 a0_1, .string a0_2]] rfl (by (try simp only [List.map_toArray, List.map_cons, List.map_nil]); first | done | rfl | (simp only [List.length_drop, List.length_take]; rfl) | (go_simp; done) | (simp; done)) ?_; (with_reducible refine (value_Bytes.calls k a0_0 a0_1 a0_2 t424 t427 _ A9.out).mono ?_); rintro e w25 ⟨v425, rfl, ho0, hb⟩; refine ⟨_, rfl, ?_⟩; have n0_ := Aside0.mk (Kd.R_below (by (with_reducible repeat (first | apply Kd.R_alloc | apply Kd.R_drewN | apply Kd.R_drew)); exact HO422.out) hb); have n1_ := Aside0.mk (Kd.R_lower ho0 (below_size (by repeat (first | (with_reducible first | exact HB.out | apply below_alloc | apply pw_below_drewN | apply below_drew1 | refine below_set ?_ GE419.out) | exact HB.out)))); have n2_ := Aside0.mk (blk_below (g := gb419) (o := .cells #[.int .i64 a0_0, .int .i64 a0_1, .string a0_2] 23 (0, 0)) (by (with_reducible repeat (first | refine blk_drewN ?_ _ | refine blk_drew ?_ | refine blk_alloc ?_ _)); exact BK419.out) hb); have n3_ := Aside0.mk (below_step (by repeat (first | (with_reducible first | exact HB.out | apply below_alloc | apply pw_below_drewN | apply below_drew1 | refine below_set ?_ GE419.out) | exact HB.out)) hb); clear HO422; clear BK419; clear HB; have HO422 := n0_; have HO426 := n1_; have BK419 := n2_; have HB := n3_; clear n0_ n1_ n2_ n3_; (try clear hb); (try clear hb2); (try clear hk); (try clear hi); (try clear ho0); have hcz26_0 : w25.cell? ⟨gb419, 0, none⟩ = some (.int .i64 a0_0) := (blk_cell BK419.out 0).trans rfl; have hcz26_1 : w25.cell? ⟨gb419, 1, none⟩ = some (.int .i64 a0_1) := (blk_cell BK419.out 1).trans rfl; have hcz26_2 : w25.cell? ⟨gb419, 2, none⟩ = some (.string a0_2) := (blk_cell BK419.out 2).trans rfl; have hfz26_0 := blk_frozen BK419.out 0; have hfz26_1 := blk_frozen BK419.out 1; have hfz26_2 := blk_frozen BK419.out 2) | ((with_reducible refine gate_callee (f := 10) rfl ?_); refine goesL_ (some 15) rfl rfl Try.func10 (by kernel_rfl) rfl #[.agg #[.int .i64 a0_0, .int .i64 a0_1, .string a0_2]] rfl (by (try simp only [List.map_toArray, List.map_cons, List.map_nil]); first | done | rfl | (simp only [List.length_drop, List.length_take]; rfl) | (go_simp; done) | (simp; done)) ?_; (with_reducible refine (raddleref01_Value.calls a0_0 a0_1 a0_2 true _ A10.out).mono ?_); rintro e w27 ⟨rfl, hb⟩; refine ⟨_, rfl, ?_⟩; have n0_ := Aside0.mk (Kd.R_below (by (with_reducible repeat (first | apply Kd.R_alloc | apply Kd.R_drewN | apply Kd.R_drew)); exact HO422.out) hb); have n1_ := Aside0.mk (Kd.R_below (by (with_reducible repeat (first | apply Kd.R_alloc | apply Kd.R_drewN | apply Kd.R_drew)); exact HO426.out) hb); have n2_ := Aside0.mk (blk_below (g := gb419) (o := .cells #[.int .i64 a0_0, .int .i64 a0_1, .string a0_2] 23 (0, 0)) (by (with_reducible repeat (first | refine blk_drewN ?_ _ | refine blk_drew ?_ | refine blk_alloc ?_ _)); exact BK419.out) hb); have n3_ := Aside0.mk (below_step (by repeat (first | (with_reducible first | exact HB.out | apply below_alloc | apply pw_below_drewN | apply below_drew1 | refine below_set ?_ GE419.out) | exact HB.out)) hb); clear HO422; clear HO426; clear BK419; clear HB; have HO422 := n0_; have HO426 := n1_; have BK419 := n2_; have HB := n3_; clear n0_ n1_ n2_ n3_; (try clear hb); (try clear hb2); (try clear hk); (try clear hi); have hcz28_0 : w27.cell? ⟨gb419, 0, none⟩ = some (.int .i64 a0_0) := (blk_cell BK419.out 0).trans rfl; have hcz28_1 : w27.cell? ⟨gb419, 1, none⟩ = some (.int .i64 a0_1) := (blk_cell BK419.out 1).trans rfl; have hcz28_2 : w27.cell? ⟨gb419, 2, none⟩ = some (.string a0_2) := (blk_cell BK419.out 2).trans rfl; have hfz28_0 := blk_frozen BK419.out 0; have hfz28_1 := blk_frozen BK419.out 1; have hfz28_2 := blk_frozen BK419.out 2) | ((with_reducible refine gate_dst (N := 36) rfl ?_); (try (refine gate_guard (by rfl) ?_; dsimp only)); refine Kd.R_lit (Kd.int .i64) _ 3 ?hg (N := 36) ?hd (xs := ([0, 1, 2, 10, wrap64 (2 + (a0_2.size : Int))] : List Int)) (inner := [.int .i64 0, .int .i64 1, .int .i64 2, .int .i64 10, .int .i64 (wrap64 (2 + (a0_2.size : Int)))]) (ok := fun _ => True) (okp := fun _ => True) ?hr ?hp (fun _ hk => hk) trivial (Below.refl _ _) (Nat.le_refl _) (by simp) ?_; (case hd => rfl); (case hg => rfl); (case hr => first | (go_simp; done) | (go_simp; rfl)); (case hp => exact (Reps.one (show Kd.M (Kd.int .i64) _ _ _ 0 [.int .i64 0] from rfl) (Reps.one (show Kd.M (Kd.int .i64) _ _ _ 1 [.int .i64 1] from rfl) (Reps.one (show Kd.M (Kd.int .i64) _ _ _ 2 [.int .i64 2] from rfl) (Reps.one (show Kd.M (Kd.int .i64) _ _ _ 10 [.int .i64 10] from rfl) (Reps.one (show Kd.M (Kd.int .i64) _ _ _ (wrap64 (2 + (a0_2.size : Int))) [.int .i64 (wrap64 (2 + (a0_2.size : Int)))] from rfl) (Reps.none _ _))))))); intro v430 w29 ho30 hb hg_ hnew_; clear hg_ hnew_; (first | rw [← Ny429.out] at ho30 | (simp only [Int.reduceToNat] at ho30; rw [← Ny429.out] at ho30)); have n0_ := Aside0.mk (Kd.R_below (by (with_reducible repeat (first | apply Kd.R_alloc | apply Kd.R_drewN | apply Kd.R_drew)); exact HO422.out) hb); have n1_ := Aside0.mk (Kd.R_below (by (with_reducible repeat (first | apply Kd.R_alloc | apply Kd.R_drewN | apply Kd.R_drew)); exact HO426.out) hb); have n2_ := Aside0.mk (Kd.R_lower ho30 (below_size (by repeat (first | (with_reducible first | exact HB.out | apply below_alloc | apply pw_below_drewN | apply below_drew1 | refine below_set ?_ GE419.out) | exact HB.out)))); have n3_ := Aside0.mk (blk_below (g := gb419) (o := .cells #[.int .i64 a0_0, .int .i64 a0_1, .string a0_2] 23 (0, 0)) (by (with_reducible repeat (first | refine blk_drewN ?_ _ | refine blk_drew ?_ | refine blk_alloc ?_ _)); exact BK419.out) hb); have n4_ := Aside0.mk (below_step (by repeat (first | (with_reducible first | exact HB.out | apply below_alloc | apply pw_below_drewN | apply below_drew1 | refine below_set ?_ GE419.out) | exact HB.out)) hb); clear HO422; clear HO426; clear BK419; clear HB; have HO422 := n0_; have HO426 := n1_; have HO431 := n2_; have BK419 := n3_; have HB := n4_; clear n0_ n1_ n2_ n3_ n4_; clear hb ho30; have hcz31_0 : w29.cell? ⟨gb419, 0, none⟩ = some (.int .i64 a0_0) := (blk_cell BK419.out 0).trans rfl; have hcz31_1 : w29.cell? ⟨gb419, 1, none⟩ = some (.int .i64 a0_1) := (blk_cell BK419.out 1).trans rfl; have hcz31_2 : w29.cell? ⟨gb419, 2, none⟩ = some (.string a0_2) := (blk_cell BK419.out 2).trans rfl; have hfz31_0 := blk_frozen BK419.out 0; have hfz31_1 := blk_frozen BK419.out 1; have hfz31_2 := blk_frozen BK419.out 2; obtain ⟨Ao32, co32, eo32⟩ := Kd.R_slice HO431.out; subst eo32; have p432 : 0 ≤ (a0_0 : Int) := of_decide_eq_true (by first | (with_reducible assumption) | assumption); have q432 : a0_0 < (y429.length : Int) := of_decide_eq_true (by first | (with_reducible assumption) | assumption); obtain ⟨ad432, e432, hx432_0⟩ := Kd.at_int (Kd.R_reads' HO431.out).2.2 a0_0 p432 q432; cases e432; replace p432 := eq_true p432; replace q432 := eq_true q432))
         have n0_ := Aside0.mk (Kd.R_drew HO422.out)
         have n1_ := Aside0.mk (Kd.R_drew HO426.out)
         have n2_ := Aside0.mk (Kd.R_drew HO431.out)
         have n3_ := Aside0.mk (blk_drew BK419.out)
         have n4_ := Aside0.mk (below_drew1 HB.out)
         clear HO422
         clear HO426
         clear HO431
         clear BK419
         clear HB
         have HO422 := n0_
         have HO426 := n1_
         have HO431 := n2_
         have BK419 := n3_
         have HB := n4_
         clear n0_ n1_ n2_ n3_ n4_
         obtain ⟨Ao34, co34, eo34⟩ := Kd.R_slice HO426.out
         (first | subst eo34 | (injection eo34 with f1_ f2_ f3_; have f4_ := f1_.symm; have f5_ := f3_.symm; clear f1_ f2_ f3_; subst f4_; subst f5_))
         have p433 : 0 ≤ (0 : Int) := (by omega)
         have q433 : 0 < (t424.length : Int) := of_decide_eq_true (by first | (with_reducible assumption) | assumption)
         obtain ⟨ad433, e433, hx433_0⟩ := Kd.at_int (Kd.R_reads' HO426.out).2.2 0 p433 q433
         cases e433
         have qi433 : (0 < t424.length) = True := eq_true (by omega)
         (try rw [show ((0 : Int)).toNat = 0 from rfl] at hx433_0)
         (try rw [Addr.add_zero'] at hx433_0)
         replace p433 := eq_true p433
         replace q433 := eq_true q433
         refine start_ (n := 21) (S := fun w' => w'.cell? ⟨gb419, 0, none⟩ = some (.int .i64 a0_0) ∧ w'.cell? ⟨gb419, 1, none⟩ = some (.int .i64 a0_1) ∧ w'.cell? ⟨gb419, 2, none⟩ = some (.string a0_2) ∧ w'.cell? ad433 = some (.int .u8 (rd t424 0))) (ds := []) #[false, false, false, false, false, false, false, false, false, false, false, false, false, false, false, false, false, false, false, false, false] (by kernel_rfl) rfl rfl ⟨(blk_cell BK419.out 0).trans rfl, (blk_cell BK419.out 1).trans rfl, (blk_cell BK419.out 2).trans rfl, hx433_0⟩ (fun hHeld => ?_); refine with_tabW raddlelaw03_ValueSizes.tab7 raddlelaw03_ValueSizes.bits7 (fun HT_ HW_ => ?_)
         generalize w29.drew = w33 at HO422 HO426 HO431 BK419 HB hx433_0 hHeld ⊢
         refine Steps.pI_ 0 (some 41) (Steps.Bs 21 1) (any_of HT_.out (by kernel_rfl)) (h := ?_)
         refine Steps.pI_ 1 (some 42) (Steps.Bs 21 3) (any_of HT_.out (by kernel_rfl)) (h := ?_)
         refine Steps.pI_ 2 (some 43) (Steps.Bs 21 7) (any_of HT_.out (by kernel_rfl)) (h := ?_)
         refine Steps.pI_ 3 (some 44) (Steps.Bs 21 15) (any_of HT_.out (by kernel_rfl)) (h := ?_)
         refine Steps.pI_ 4 (some 45) (Steps.Bs 21 31) (any_of HT_.out (by kernel_rfl)) (h := ?_)
         refine Steps.pI_ 5 (some 46) (Steps.Bs 21 63) (any_of HT_.out (by kernel_rfl)) (h := ?_)
         refine Steps.pI_ 6 (some 47) (Steps.Bs 21 127) (any_of HT_.out (by kernel_rfl)) (h := ?_)
         refine Steps.pI_ 7 (some 48) (Steps.Bs 21 255) (any_of HT_.out (by kernel_rfl)) (h := ?_)
         refine Steps.pI_ 8 (some 49) (Steps.Bs 21 511) (any_of HT_.out (by kernel_rfl)) (h := ?_)
         refine Steps.pI_ 9 (some 50) (Steps.Bs 21 1023) (any_of HT_.out (by kernel_rfl)) (h := ?_)
         refine Steps.pI_ 10 (some 51) (Steps.Bs 21 2047) (any_of HT_.out (by kernel_rfl)) (h := ?_)
         refine Steps.pI_ 13 (some 54) (Steps.Bs 21 10239) (any_of HT_.out (by kernel_rfl)) (h := ?_)
         refine Steps.tI_ 11 (some 52) (Steps.Bs 21 12287) (take_ofW HT_.out HW_.out (by kernel_rfl)) hHeld (h := ?_)
         refine Steps.pI_ 12 (some 53) (Steps.Bs 21 16383) (any_of HT_.out (by kernel_rfl)) (h := ?_)
         refine Steps.tI_ 14 (some 55) (Steps.Bs 21 32767) (take_ofW HT_.out HW_.out (by kernel_rfl)) hHeld (h := ?_)
         refine Steps.pI_ 15 (some 56) (Steps.Bs 21 65535) (any_of HT_.out (by kernel_rfl)) (h := ?_)
         refine Steps.pI_ 16 (some 57) (Steps.Bs 21 131071) (any_of HT_.out (by kernel_rfl)) (h := ?_)
         refine Steps.pI_ 17 (some 58) (Steps.Bs 21 262143) (any_of HT_.out (by kernel_rfl)) (h := ?_)
         refine one_ (i := 18) (N := some 59) (Steps.Bs 21 524287) rfl rfl (one_of HT_.out (by kernel_rfl)) (by decide) (fun K hK => ?_)
         refine goes_ Try.func19 (by kernel_rfl) rfl #[] (by rfl) rfl rfl (by (try simp only [List.map_toArray, List.map_cons, List.map_nil]); first | done | rfl | (simp only [List.length_drop, List.length_take]; rfl) | (go_simp; done) | (simp; done)) ?_
         with_reducible refine (raddlelaw03_wakes.calls k  t434 _ A18.out).mono ?_
         rintro e w35 ⟨rfl, hb⟩
         have HS3_ := (hb.cell (World.block_lt_of_cell? _ _ (hHeld.2.2.2))).trans (hHeld.2.2.2)
         refine ⟨_, rfl, ?_⟩
         have n0_ := Aside0.mk (Kd.R_below (by (with_reducible repeat (first | apply Kd.R_alloc | apply Kd.R_drewN | apply Kd.R_drew)); exact HO422.out) hb)
         have n1_ := Aside0.mk (Kd.R_below (by (with_reducible repeat (first | apply Kd.R_alloc | apply Kd.R_drewN | apply Kd.R_drew)); exact HO426.out) hb)
         have n2_ := Aside0.mk (Kd.R_below (by (with_reducible repeat (first | apply Kd.R_alloc | apply Kd.R_drewN | apply Kd.R_drew)); exact HO431.out) hb)
         have n3_ := Aside0.mk (blk_below (g := gb419) (o := .cells #[.int .i64 a0_0, .int .i64 a0_1, .string a0_2] 23 (0, 0)) (by (with_reducible repeat (first | refine blk_drewN ?_ _ | refine blk_drew ?_ | refine blk_alloc ?_ _)); exact BK419.out) hb)
         have n4_ := Aside0.mk (below_step (by repeat (first | (with_reducible first | exact HB.out | apply below_alloc | apply pw_below_drewN | apply below_drew1 | refine below_set ?_ GE419.out) | exact HB.out)) hb)
         clear HO422
         clear HO426
         clear HO431
         clear BK419
         clear HB
         have HO422 := n0_
         have HO426 := n1_
         have HO431 := n2_
         have BK419 := n3_
         have HB := n4_
         clear n0_ n1_ n2_ n3_ n4_
         (try clear hb)
         (try clear hb2)
         (try clear hk)
         (try clear hi)
         refine hK.out _ _ ⟨(blk_cell BK419.out 0).trans rfl, (blk_cell BK419.out 1).trans rfl, (blk_cell BK419.out 2).trans rfl, HS3_⟩ (fun hHeld => ?_)
         clear hK K
         refine norm_ (a' := ?_) ?_ ?_
         rotate_left
         ·
          show Act.put _ (some 59) _ = _
          simp only [Act.put, List.setIfInBounds_toArray, List.set_cons_zero, List.set_cons_succ, i64_w, i32_w]
          rfl
         refine Steps.pI_ 19 (some 60) (Steps.Bs 21 1048575) (any_of HT_.out (by kernel_rfl)) (h := ?_)
         refine Steps.pI_ 20 (some 2) (Steps.Bs 21 2097151) (any_of HT_.out (by kernel_rfl)) (h := ?_)
         refine done_ (done_of HT_.out (by kernel_rfl)) ?_
         try go_wp2
         go_ret
         exact ⟨by first | rfl | (simp [errW_none, errW_some] <;> rfl) | (simp [*, errW_none, errW_some] <;> rfl), by repeat (first | (with_reducible first | exact HB.out | apply below_alloc | apply pw_below_drewN | apply below_drew1 | refine below_set ?_ GE419.out) | exact HB.out)⟩
        ·
         rw [if_neg c17] at H
         have c17b0 : ((wrap64 (rd t424 0)) == a0_0) = false := beq_eq_false_iff_ne.mpr c17
         have c17b1 : ((wrap64 (rd t424 0)) != a0_0) = true := bne_iff_ne.mpr c17
         exact absurd H (by rw [hrt]; simp)
       ·
        rw [if_neg c16] at H
        exact absurd H (by simp)
      ·
       rw [if_neg c15] at H
       have c15b0 : ((t424.length : Int) == (rd y429 a0_0)) = false := beq_eq_false_iff_ne.mpr c15
       have c15b1 : ((t424.length : Int) != (rd y429 a0_0)) = true := bne_iff_ne.mpr c15
       exact absurd H (by rw [hrt]; simp)
     ·
      rw [if_neg c14] at H
      have c14b0 : (t427 == 0) = false := beq_eq_false_iff_ne.mpr c14
      have c14b1 : (t427 != 0) = true := bne_iff_ne.mpr c14
      exact absurd H (by rw [hrt]; simp)
    ·
     rw [if_neg c13] at H
     exact absurd H (by simp)
   ·
    rw [if_neg c12] at H
    exact absurd H (by simp)
  ·
   replace c11 := Bool.eq_false_iff.mpr c11
   subst c11
   have H1 : (if t427 = 1 then (if (t424.length : Int) = 0 then ((value_Check.f a0_0 a0_1 a0_2).bind fun t435 => (if t435 = 1 then ((raddlelaw03_wakes.f k).bind fun t436 => (some t436)) else (some false))) else (some false)) else (some false)) = some r := by rw [if_neg (show ¬ (false = true) by decide)] at H; exact H
   clear H
   have H := H1
   clear H1
   by_cases c36 : t427 = 1
   ·
    rw [if_pos c36] at H
    have c36b0 : (t427 == 1) = true := beq_iff_eq.mpr c36
    have c36b1 : (t427 != 1) = false := bne_eq_false_iff_eq.mpr c36
    clear c36
    by_cases c37 : (t424.length : Int) = 0
    ·
     rw [if_pos c37] at H
     have c37b0 : ((t424.length : Int) == 0) = true := beq_iff_eq.mpr c37
     have c37b1 : ((t424.length : Int) != 0) = false := bne_eq_false_iff_eq.mpr c37
     clear c37
     replace H := Option.bind_eq_some_iff.mp H
     obtain ⟨t435, A380, H⟩ := H
     replace H : (if t435 = 1 then ((raddlelaw03_wakes.f k).bind fun t436 => (some t436)) else (some false)) = some r := H
     have A38 := Aside0.mk A380
     clear A380
     by_cases c39 : t435 = 1
     ·
      rw [if_pos c39] at H
      have c39b0 : (t435 == 1) = true := beq_iff_eq.mpr c39
      have c39b1 : (t435 != 1) = false := bne_eq_false_iff_eq.mpr c39
      clear c39
      replace H := Option.bind_eq_some_iff.mp H
      obtain ⟨t436, A400, H⟩ := H
      replace H : (some t436) = some r := H
      have A40 := Aside0.mk A400
      clear A400
      obtain rfl := Option.some.inj H
      go_enter Try.func7, Try.ntmps7
      go_wp2_with (first | ((with_reducible refine gate_dst (N := 1) rfl ?_); (try (refine gate_guard (by rfl) ?_; dsimp only)); refine box_event ?hg (N := 1) ?hd (cs := #[.int .i64 a0_0, .int .i64 a0_1, .string a0_2]) (t := 23) ?hr ?_; (case hd => rfl); (case hg => rfl); (case hr => first | (go_simp; done) | (go_simp; rfl)); intro gb419 hg w41 hbox hb; have n0_ := Aside0.mk (below_step (by repeat (first | (with_reducible first | exact HB.out | apply below_alloc | apply pw_below_drewN | apply below_drew1) | exact HB.out)) hb); have n1_ := Aside0.mk (hbox); have n2_ := Aside0.mk ((by rw [hg]; exact (below_size (by repeat (first | (with_reducible first | exact HB.out | apply below_alloc | apply pw_below_drewN | apply below_drew1) | exact HB.out))) : w.heap.size ≤ gb419)); have n3_ := Aside0.mk ((by rw [hg]; exact (below_size (by repeat (first | (with_reducible first | exact HB.out | apply below_alloc | apply pw_below_drewN | apply below_drew1) | exact HB.out))) : w.heap.size ≤ gb419)); clear HB; have HB := n0_; have BK419 := n1_; have GW419 := n2_; have GE419 := n3_; clear n0_ n1_ n2_ n3_; clear hb hbox hg; have hcz42_0 : w41.cell? ⟨gb419, 0, none⟩ = some (.int .i64 a0_0) := (blk_cell BK419.out 0).trans rfl; have hcz42_1 : w41.cell? ⟨gb419, 1, none⟩ = some (.int .i64 a0_1) := (blk_cell BK419.out 1).trans rfl; have hcz42_2 : w41.cell? ⟨gb419, 2, none⟩ = some (.string a0_2) := (blk_cell BK419.out 2).trans rfl; have hfz42_0 := blk_frozen BK419.out 0; have hfz42_1 := blk_frozen BK419.out 1; have hfz42_2 := blk_frozen BK419.out 2) | ((with_reducible refine gate_dst (N := 7) rfl ?_); (try (refine gate_guard (by rfl) ?_; dsimp only)); refine Kd.R_lit k23 _ 23 ?hg (N := 7) ?hd (xs := ([(⟨a0_0, a0_1, a0_2⟩ : S23)] : List (S23))) (inner := [.int .i64 a0_0, .int .i64 a0_1, .string a0_2]) (ok := fun _ => True) (okp := fun _ => True) ?hr ?hp (fun _ hk => hk) trivial (Below.refl _ _) (Nat.le_refl _) (by simp) ?_; (case hd => rfl); (case hg => rfl); (case hr => first | (go_simp; done) | (go_simp; rfl)); (case hp => exact (Reps.c3 (show Kd.M k23 _ _ _ (⟨a0_0, a0_1, a0_2⟩ : S23) [.int .i64 a0_0, .int .i64 a0_1, .string a0_2] from (k23_mkM _ _ _ (⟨a0_0, a0_1, a0_2⟩ : S23) )) (Reps.none _ _))); intro v421 w43 ho44 hb hg_ hnew_; clear hg_ hnew_; (first | rw [← Ny420.out] at ho44 | (simp only [Int.reduceToNat] at ho44; rw [← Ny420.out] at ho44)); have n0_ := Aside0.mk (Kd.R_lower (Kd.R_newB ho44 (g := gb419) (o := .cells #[.int .i64 a0_0, .int .i64 a0_1, .string a0_2] 23 (0, 0)) (by (with_reducible repeat (first | refine blk_drewN ?_ _ | refine blk_drew ?_ | refine blk_alloc ?_ _)); exact BK419.out)) (below_size (by repeat (first | (with_reducible first | exact HB.out | apply below_alloc | apply pw_below_drewN | apply below_drew1 | refine below_set ?_ GE419.out) | exact HB.out)))); have n1_ := Aside0.mk (blk_below (g := gb419) (o := .cells #[.int .i64 a0_0, .int .i64 a0_1, .string a0_2] 23 (0, 0)) (by (with_reducible repeat (first | refine blk_drewN ?_ _ | refine blk_drew ?_ | refine blk_alloc ?_ _)); exact BK419.out) hb); have n2_ := Aside0.mk (below_step (by repeat (first | (with_reducible first | exact HB.out | apply below_alloc | apply pw_below_drewN | apply below_drew1 | refine below_set ?_ GE419.out) | exact HB.out)) hb); clear BK419; clear HB; have HO422 := n0_; have BK419 := n1_; have HB := n2_; clear n0_ n1_ n2_; clear hb ho44; obtain ⟨Ao45, co45, eo45⟩ := Kd.R_slice HO422.out; subst eo45) | ((with_reducible refine gate_callee (f := 9) rfl ?_); refine goesL_ (some 8) rfl rfl Try.func9 (by kernel_rfl) rfl #[.slice Ao45 y420.length co45] rfl (by (try simp only [List.map_toArray, List.map_cons, List.map_nil]); first | done | rfl | (simp only [List.length_drop, List.length_take]; rfl) | (go_simp; done) | (simp; done)) ?_; (with_reducible refine (raddlelaw03_Long.calls k _ _ y420 false _ ?side1 ?side2 A2.out).mono ?_); (case side1 => repeat (first | exact (Kd.R_reads' HO422.out).2.2 | (with_reducible refine Kd.C_alloc ?_ _) | (with_reducible refine Kd.C_drewN ?_ _) | (with_reducible refine Kd.C_drew ?_))); (case side2 => exact (Kd.R_reads' HO422.out).2.1); rintro e w' ⟨rfl, ⟨nd, rfl⟩⟩; refine ⟨_, rfl, ?_⟩; have hcz46_0 : w43.cell? ⟨gb419, 0, none⟩ = some (.int .i64 a0_0) := (blk_cell BK419.out 0).trans rfl; have hcz46_1 : w43.cell? ⟨gb419, 1, none⟩ = some (.int .i64 a0_1) := (blk_cell BK419.out 1).trans rfl; have hcz46_2 : w43.cell? ⟨gb419, 2, none⟩ = some (.string a0_2) := (blk_cell BK419.out 2).trans rfl; have hfz46_0 := blk_frozen BK419.out 0; have hfz46_1 := blk_frozen BK419.out 1; have hfz46_2 := blk_frozen BK419.out 2) | ((with_reducible refine gate_callee (f := 11) rfl ?_); refine goesL_ (some 11) rfl rfl Try.func11 (by kernel_rfl) rfl #[.agg #[.int .i64 a0_0, .int .i64 a0_1, .string a0_2]] rfl (by (try simp only [List.map_toArray, List.map_cons, List.map_nil]); first | done | rfl | (simp only [List.length_drop, List.length_take]; rfl) | (go_simp; done) | (simp; done)) ?_; (with_reducible refine (value_Bytes.calls k a0_0 a0_1 a0_2 t424 t427 _ A9.out).mono ?_); rintro e w47 ⟨v425, rfl, ho0, hb⟩; refine ⟨_, rfl, ?_⟩; have n0_ := Aside0.mk (Kd.R_below (by (with_reducible repeat (first | apply Kd.R_alloc | apply Kd.R_drewN | apply Kd.R_drew)); exact HO422.out) hb); have n1_ := Aside0.mk (Kd.R_lower ho0 (below_size (by repeat (first | (with_reducible first | exact HB.out | apply below_alloc | apply pw_below_drewN | apply below_drew1 | refine below_set ?_ GE419.out) | exact HB.out)))); have n2_ := Aside0.mk (blk_below (g := gb419) (o := .cells #[.int .i64 a0_0, .int .i64 a0_1, .string a0_2] 23 (0, 0)) (by (with_reducible repeat (first | refine blk_drewN ?_ _ | refine blk_drew ?_ | refine blk_alloc ?_ _)); exact BK419.out) hb); have n3_ := Aside0.mk (below_step (by repeat (first | (with_reducible first | exact HB.out | apply below_alloc | apply pw_below_drewN | apply below_drew1 | refine below_set ?_ GE419.out) | exact HB.out)) hb); clear HO422; clear BK419; clear HB; have HO422 := n0_; have HO426 := n1_; have BK419 := n2_; have HB := n3_; clear n0_ n1_ n2_ n3_; (try clear hb); (try clear hb2); (try clear hk); (try clear hi); (try clear ho0); have hcz48_0 : w47.cell? ⟨gb419, 0, none⟩ = some (.int .i64 a0_0) := (blk_cell BK419.out 0).trans rfl; have hcz48_1 : w47.cell? ⟨gb419, 1, none⟩ = some (.int .i64 a0_1) := (blk_cell BK419.out 1).trans rfl; have hcz48_2 : w47.cell? ⟨gb419, 2, none⟩ = some (.string a0_2) := (blk_cell BK419.out 2).trans rfl; have hfz48_0 := blk_frozen BK419.out 0; have hfz48_1 := blk_frozen BK419.out 1; have hfz48_2 := blk_frozen BK419.out 2) | ((with_reducible refine gate_callee (f := 10) rfl ?_); refine goesL_ (some 15) rfl rfl Try.func10 (by kernel_rfl) rfl #[.agg #[.int .i64 a0_0, .int .i64 a0_1, .string a0_2]] rfl (by (try simp only [List.map_toArray, List.map_cons, List.map_nil]); first | done | rfl | (simp only [List.length_drop, List.length_take]; rfl) | (go_simp; done) | (simp; done)) ?_; (with_reducible refine (raddleref01_Value.calls a0_0 a0_1 a0_2 false _ A10.out).mono ?_); rintro e w49 ⟨rfl, hb⟩; refine ⟨_, rfl, ?_⟩; have n0_ := Aside0.mk (Kd.R_below (by (with_reducible repeat (first | apply Kd.R_alloc | apply Kd.R_drewN | apply Kd.R_drew)); exact HO422.out) hb); have n1_ := Aside0.mk (Kd.R_below (by (with_reducible repeat (first | apply Kd.R_alloc | apply Kd.R_drewN | apply Kd.R_drew)); exact HO426.out) hb); have n2_ := Aside0.mk (blk_below (g := gb419) (o := .cells #[.int .i64 a0_0, .int .i64 a0_1, .string a0_2] 23 (0, 0)) (by (with_reducible repeat (first | refine blk_drewN ?_ _ | refine blk_drew ?_ | refine blk_alloc ?_ _)); exact BK419.out) hb); have n3_ := Aside0.mk (below_step (by repeat (first | (with_reducible first | exact HB.out | apply below_alloc | apply pw_below_drewN | apply below_drew1 | refine below_set ?_ GE419.out) | exact HB.out)) hb); clear HO422; clear HO426; clear BK419; clear HB; have HO422 := n0_; have HO426 := n1_; have BK419 := n2_; have HB := n3_; clear n0_ n1_ n2_ n3_; (try clear hb); (try clear hb2); (try clear hk); (try clear hi); obtain ⟨Ao50, co50, eo50⟩ := Kd.R_slice HO426.out; subst eo50; have hcz51_0 : w49.cell? ⟨gb419, 0, none⟩ = some (.int .i64 a0_0) := (blk_cell BK419.out 0).trans rfl; have hcz51_1 : w49.cell? ⟨gb419, 1, none⟩ = some (.int .i64 a0_1) := (blk_cell BK419.out 1).trans rfl; have hcz51_2 : w49.cell? ⟨gb419, 2, none⟩ = some (.string a0_2) := (blk_cell BK419.out 2).trans rfl; have hfz51_0 := blk_frozen BK419.out 0; have hfz51_1 := blk_frozen BK419.out 1; have hfz51_2 := blk_frozen BK419.out 2) | (go_at_call 12; (with_reducible refine (value_Check.calls a0_0 a0_1 a0_2 t435 _ A38.out).mono ?_); rintro e w52 ⟨rfl, hb⟩; have n0_ := Aside0.mk (Kd.R_below (by (with_reducible repeat (first | apply Kd.R_alloc | apply Kd.R_drewN | apply Kd.R_drew)); exact HO422.out) hb); have n1_ := Aside0.mk (Kd.R_below (by (with_reducible repeat (first | apply Kd.R_alloc | apply Kd.R_drewN | apply Kd.R_drew)); exact HO426.out) hb); have n2_ := Aside0.mk (blk_below (g := gb419) (o := .cells #[.int .i64 a0_0, .int .i64 a0_1, .string a0_2] 23 (0, 0)) (by (with_reducible repeat (first | refine blk_drewN ?_ _ | refine blk_drew ?_ | refine blk_alloc ?_ _)); exact BK419.out) hb); have n3_ := Aside0.mk (below_step (by repeat (first | (with_reducible first | exact HB.out | apply below_alloc | apply pw_below_drewN | apply below_drew1 | refine below_set ?_ GE419.out) | exact HB.out)) hb); clear HO422; clear HO426; clear BK419; clear HB; have HO422 := n0_; have HO426 := n1_; have BK419 := n2_; have HB := n3_; clear n0_ n1_ n2_ n3_; (try clear hb); (try clear hb2); (try clear hk); (try clear hi)) | (go_at_call 19; (with_reducible refine (raddlelaw03_wakes.calls k  t436 _ A40.out).mono ?_); rintro e w53 ⟨rfl, hb⟩; have n0_ := Aside0.mk (Kd.R_below (by (with_reducible repeat (first | apply Kd.R_alloc | apply Kd.R_drewN | apply Kd.R_drew)); exact HO422.out) hb); have n1_ := Aside0.mk (Kd.R_below (by (with_reducible repeat (first | apply Kd.R_alloc | apply Kd.R_drewN | apply Kd.R_drew)); exact HO426.out) hb); have n2_ := Aside0.mk (blk_below (g := gb419) (o := .cells #[.int .i64 a0_0, .int .i64 a0_1, .string a0_2] 23 (0, 0)) (by (with_reducible repeat (first | refine blk_drewN ?_ _ | refine blk_drew ?_ | refine blk_alloc ?_ _)); exact BK419.out) hb); have n3_ := Aside0.mk (below_step (by repeat (first | (with_reducible first | exact HB.out | apply below_alloc | apply pw_below_drewN | apply below_drew1 | refine below_set ?_ GE419.out) | exact HB.out)) hb); clear HO422; clear HO426; clear BK419; clear HB; have HO422 := n0_; have HO426 := n1_; have BK419 := n2_; have HB := n3_; clear n0_ n1_ n2_ n3_; (try clear hb); (try clear hb2); (try clear hk); (try clear hi)))
      go_ret
      exact ⟨by first | rfl | (simp [errW_none, errW_some] <;> rfl) | (simp [*, errW_none, errW_some] <;> rfl), by repeat (first | (with_reducible first | exact HB.out | apply below_alloc | apply pw_below_drewN | apply below_drew1 | refine below_set ?_ GE419.out) | exact HB.out)⟩
     ·
      rw [if_neg c39] at H
      have c39b0 : (t435 == 1) = false := beq_eq_false_iff_ne.mpr c39
      have c39b1 : (t435 != 1) = true := bne_iff_ne.mpr c39
      exact absurd H (by rw [hrt]; simp)
    ·
     rw [if_neg c37] at H
     have c37b0 : ((t424.length : Int) == 0) = false := beq_eq_false_iff_ne.mpr c37
     have c37b1 : ((t424.length : Int) != 0) = true := bne_iff_ne.mpr c37
     have c37b2 : ¬ (t424 = []) := fun h_ => c37 (by rw [h_]; rfl)
     exact absurd H (by rw [hrt]; simp)
   ·
    rw [if_neg c36] at H
    have c36b0 : (t427 == 1) = false := beq_eq_false_iff_ne.mpr c36
    have c36b1 : (t427 != 1) = true := bne_iff_ne.mpr c36
    exact absurd H (by rw [hrt]; simp)
def raddlelaw03_ValueSizes.WF23 (x : S23) : Prop := (Lit.int .i64 x.f0).wf = true ∧ (Lit.int .i64 x.f1).wf = true ∧ x.f2.size ≤ maxLen
/-- THE ONE PURE STATEMENT of raddlelaw03_ValueSizes. -/
def raddlelaw03_ValueSizes.Pure : Prop := ∀ (x0 : S23), raddlelaw03_ValueSizes.WF23 x0 → ∃ k, raddlelaw03_ValueSizes.f k x0.f0 x0.f1 x0.f2 = some true

end Go.Proofs.Yteicflbjhcddoaa.PAll
