-- packed
-- Printed by a program of this session (wip/hp.py: the printer of the kit with hooks of our own); Lean checks it.
import Derived.Test.YteicflbjhcddoaaPAllx0
import Derived.Test.YteicflbjhcddoaaPAllx1
import Derived.Test.YteicflbjhcddoaaPAllx2
import Derived.Test.YteicflbjhcddoaaPAllx3
import Derived.Test.YteicflbjhcddoaaPAllx5
import Derived.Test.YteicflbjhcddoaaPAllx6
namespace Go.Proofs.Yteicflbjhcddoaa.PAll
open Go.RowKit Go.Proofs.YteicflbjhcddoaaW.PrintWords Go.Proofs.YteicflbjhcddoaaW.PrintLast Go.Proofs.YteicflbjhcddoaaW.PrintMore
attribute [local go_sem] max2_int min2_int max_two min_two max_three min_three max_four min_four   -- for this text's walks alone
set_option linter.unusedVariables false
set_option linter.unusedSimpArgs false

/-! ### raddlelaw03_ValueExact: function 3 -/
def raddlelaw03_ValueExact.j0 : Nat → Bool → List Int → Int → Bool → Int → Int → ByteArray → Option (Bool)
 | 0, _, _, _, _, _, _, _ => none
 | k + 1, x7, x8, x9, x62, x284000, x284001, x284002 => if x62 = true then (some false) else (if x7 = true then ((value_Read.f k x8 0).bind fun bt309 => (if x9 = 0 then ((raddleref01_ValueBytes.f k x284000 x284001 x284002).bind fun t315 => ((raddlekeep_Bytes.f k x8 t315).bind fun t318 => (if t318 = true then (if bt309.2.2.2.2 = 0 then (if bt309.2.2.2.1 = (x8.length : Int) then ((raddlekeep_Value.f bt309.1 bt309.2.1 bt309.2.2.1 x284000 x284001 x284002).bind fun t319 => (if t319 = true then ((raddlelaw03_wakes.f k).bind fun t320 => (some t320)) else (some false))) else (some false)) else (some false)) else (some false)))) else (some false))) else (if x9 = 1 then (if (x8.length : Int) = 0 then ((raddlelaw03_wakes.f k).bind fun t308 => (some t308)) else (some false)) else (some false)))
def raddlelaw03_ValueExact.f (k : Nat) (a0_0 : Int) (a0_1 : Int) (a0_2 : ByteArray) (a1_0 : Int) (a1_1 : Int) (a1_2 : ByteArray) (a2 : Int) : Option (Bool) := (raddlelaw03_Long.f k (([(⟨a0_0, a0_1, a0_2⟩ : S23), (⟨a1_0, a1_1, a1_2⟩ : S23)] : List (S23)))).bind fun t288 => (if t288 = true then (some true) else ((raddleref01_Value.f a0_0 a0_1 a0_2).bind fun t289 => ((value_Bytes.f k a0_0 a0_1 a0_2).bind fun bt290 => ((value_Check.f a0_0 a0_1 a0_2).bind fun t294 => (if ((t294 == 0) != t289) = true then (raddlelaw03_ValueExact.j0 k t289 bt290.1 bt290.2 true a0_0 a0_1 a0_2) else (if t289 = true then ((value_Compare.f k a0_0 a0_1 a0_2 a1_0 a1_1 a1_2).bind fun t295 => ((raddleref01_Compare.f a0_0 a0_1 a0_2 a1_0 a1_1 a1_2).bind fun t296 => (if t295 = t296 then ((value_Fits.f a0_0 a0_1 a0_2 a2).bind fun t297 => ((raddleref01_Fits.f a0_0 a0_1 a0_2 a2).bind fun t298 => (if (t297 != t298) = true then (raddlelaw03_ValueExact.j0 k t289 bt290.1 bt290.2 true a0_0 a0_1 a0_2) else ((value_Small.f a0_0 a0_1 a0_2).bind fun t299 => ((raddleref01_Small.f a0_0 a0_1 a0_2).bind fun t300 => (raddlelaw03_ValueExact.j0 k t289 bt290.1 bt290.2 (t299 != t300) a0_0 a0_1 a0_2)))))) else (raddlelaw03_ValueExact.j0 k t289 bt290.1 bt290.2 true a0_0 a0_1 a0_2)))) else ((value_Check.f a0_0 a0_1 a0_2).bind fun t301 => (if t301 = 1 then ((value_Compare.f k a0_0 a0_1 a0_2 a1_0 a1_1 a1_2).bind fun t302 => ((raddleref01_Compare.f a0_0 a0_1 a0_2 a1_0 a1_1 a1_2).bind fun t303 => (if t302 = t303 then ((value_Fits.f a0_0 a0_1 a0_2 a2).bind fun t304 => ((raddleref01_Fits.f a0_0 a0_1 a0_2 a2).bind fun t305 => (if (t304 != t305) = true then (raddlelaw03_ValueExact.j0 k t289 bt290.1 bt290.2 true a0_0 a0_1 a0_2) else ((value_Small.f a0_0 a0_1 a0_2).bind fun t306 => ((raddleref01_Small.f a0_0 a0_1 a0_2).bind fun t307 => (raddlelaw03_ValueExact.j0 k t289 bt290.1 bt290.2 (t306 != t307) a0_0 a0_1 a0_2)))))) else (raddlelaw03_ValueExact.j0 k t289 bt290.1 bt290.2 true a0_0 a0_1 a0_2)))) else (raddlelaw03_ValueExact.j0 k t289 bt290.1 bt290.2 true a0_0 a0_1 a0_2)))))))))
theorem raddlelaw03_ValueExact.mono_l : ∀ k, (∀ y0 y1 y2 y3 y4 y5 y6, LeO (raddlelaw03_ValueExact.j0 k y0 y1 y2 y3 y4 y5 y6) (raddlelaw03_ValueExact.j0 (k + 1) y0 y1 y2 y3 y4 y5 y6))
 | 0 => fun _ _ _ _ _ _ _ r h => by simp [raddlelaw03_ValueExact.j0] at h
 | k + 1 => by
  have ih0 := raddlelaw03_ValueExact.mono_l k
  ·
   intro y0 y1 y2 y3 y4 y5 y6
   unfold raddlelaw03_ValueExact.j0
   repeat' first
   | (with_reducible exact ih0 _ _ _ _ _ _ _)
   | (with_reducible exact raddlekeep_Bytes.mono _ _ _)
   | (with_reducible exact raddlelaw03_Long.mono _ _)
   | (with_reducible exact raddlelaw03_wakes.mono _)
   | (with_reducible exact raddleref01_ValueBytes.mono _ _ _ _)
   | (with_reducible exact value_Bytes.mono _ _ _ _)
   | (with_reducible exact value_Compare.mono _ _ _ _ _ _ _)
   | (with_reducible exact value_Read.mono _ _ _)
   | (with_reducible exact LeO.refl _)
   | (with_reducible exact LeO.none _)
   | (with_reducible refine LeO.ite ?_ ?_)
   | (with_reducible refine LeO.bind ?_ (fun _ => ?_))
   | exact ih0 _ _ _ _ _ _ _
   | exact raddlekeep_Bytes.mono _ _ _
   | exact raddlelaw03_Long.mono _ _
   | exact raddlelaw03_wakes.mono _
   | exact raddleref01_ValueBytes.mono _ _ _ _
   | exact value_Bytes.mono _ _ _ _
   | exact value_Compare.mono _ _ _ _ _ _ _
   | exact value_Read.mono _ _ _
   | exact LeO.none _
   | refine LeO.ite ?_ ?_
   | refine LeO.bind ?_ (fun _ => ?_)
theorem raddlelaw03_ValueExact.mono : ∀ a0 a1 a2 a3 a4 a5 a6 k, LeO (raddlelaw03_ValueExact.f k a0 a1 a2 a3 a4 a5 a6) (raddlelaw03_ValueExact.f (k + 1) a0 a1 a2 a3 a4 a5 a6) := by
 intro a0 a1 a2 a3 a4 a5 a6 k
 have ih0 := raddlelaw03_ValueExact.mono_l k
 unfold raddlelaw03_ValueExact.f
 repeat' first
   | (with_reducible exact ih0 _ _ _ _ _ _ _)
   | (with_reducible exact raddlekeep_Bytes.mono _ _ _)
   | (with_reducible exact raddlelaw03_Long.mono _ _)
   | (with_reducible exact raddlelaw03_wakes.mono _)
   | (with_reducible exact raddleref01_ValueBytes.mono _ _ _ _)
   | (with_reducible exact value_Bytes.mono _ _ _ _)
   | (with_reducible exact value_Compare.mono _ _ _ _ _ _ _)
   | (with_reducible exact value_Read.mono _ _ _)
   | (with_reducible exact LeO.refl _)
   | (with_reducible exact LeO.none _)
   | (with_reducible refine LeO.ite ?_ ?_)
   | (with_reducible refine LeO.bind ?_ (fun _ => ?_))
   | exact ih0 _ _ _ _ _ _ _
   | exact raddlekeep_Bytes.mono _ _ _
   | exact raddlelaw03_Long.mono _ _
   | exact raddlelaw03_wakes.mono _
   | exact raddleref01_ValueBytes.mono _ _ _ _
   | exact value_Bytes.mono _ _ _ _
   | exact value_Compare.mono _ _ _ _ _ _ _
   | exact value_Read.mono _ _ _
   | exact LeO.none _
   | refine LeO.ite ?_ ?_
   | refine LeO.bind ?_ (fun _ => ?_)
def raddlelaw03_ValueExact.T5 : Bool × List (List Nat × List Nat) := (true, [([], []), ([0], [0]), ([1], [1]), ([], []), ([2, 3], [2, 3]), ([4, 1], [4]), ([5], [5]), ([6, 5], [5, 6]), ([7, 5, 5], [5, 7]), ([8], [8]), ([9, 8, 8], [8, 9]), ([10, 8], [8, 10]), ([8, 11, 5], [5, 8, 11]), ([5, 12], [5, 12]), ([13, 10], [13]), ([14], [14]), ([14], [14]), ([15, 16, 14, 14], [14, 15, 16]), ([14], [14]), ([14], [14]), ([18, 19, 17, 14], [14, 18, 19]), ([17, 20, 14], [14, 17, 20]), ([14, 21], [14, 21]), ([22, 20], [22]), ([23], [23]), ([23], [23]), ([24, 25, 23, 23], [23, 24, 25]), ([23], [23]), ([23], [23]), ([27, 28, 26, 23], [23, 27, 28]), ([26, 29, 23], [23, 26, 29]), ([23, 30], [23, 30]), ([31, 29], [31]), ([32], [32]), ([33, 32, 32], [32, 33]), ([32], [32]), ([35, 34, 32], [32, 35]), ([34, 36, 32], [32, 34, 36]), ([32, 37], [32, 37])])
def raddlelaw03_ValueExact.B5 : List Nat := [0, 1, 3, 0, 15, 31, 63, 127, 255, 511, 1023, 2047, 4095, 8191, 16383, 32767, 32767, 131071, 32767, 32767, 1048575, 2097151, 4194303, 8388607, 16777215, 16777215, 67108863, 16777215, 16777215, 536870911, 1073741823, 2147483647, 4294967295, 8589934591, 17179869183, 8589934591, 68719476735, 137438953471, 274877906943]
theorem raddlelaw03_ValueExact.tab5 : rtab .any (opsOf Try.f3 5) = raddlelaw03_ValueExact.T5 := by kernel_rfl
theorem raddlelaw03_ValueExact.bits5 : waitsOk raddlelaw03_ValueExact.T5.2 raddlelaw03_ValueExact.B5 = true := by kernel_rfl
set_option maxHeartbeats 8000000 in
set_option maxRecDepth 100000 in
theorem raddlelaw03_ValueExact.calls (k : Nat) (a0_0 : Int) (a0_1 : Int) (a0_2 : ByteArray) (a1_0 : Int) (a1_1 : Int) (a1_2 : ByteArray) (a2 : Int) (r : Bool) (w : World) (hrt : r = true) (h : raddlelaw03_ValueExact.f k a0_0 a0_1 a0_2 a1_0 a1_1 a1_2 a2 = some r) :
  Calls Try.prog 3 #[.agg #[.int .i64 a0_0, .int .i64 a0_1, .string a0_2], .agg #[.int .i64 a1_0, .int .i64 a1_1, .string a1_2], .int .i64 a2] w fun e w' => e = .returned (.bool r) ∧ Below w.heap.size w w' := by
 have hu23 := Try.underlying23
 have HB := Aside0.mk (Below.refl w.heap.size w)
 have H : ((raddlelaw03_Long.f k (([(⟨a0_0, a0_1, a0_2⟩ : S23), (⟨a1_0, a1_1, a1_2⟩ : S23)] : List (S23)))).bind fun t288 => (if t288 = true then (some true) else ((raddleref01_Value.f a0_0 a0_1 a0_2).bind fun t289 => ((value_Bytes.f k a0_0 a0_1 a0_2).bind fun bt290 => ((value_Check.f a0_0 a0_1 a0_2).bind fun t294 => (if ((t294 == 0) != t289) = true then (raddlelaw03_ValueExact.j0 k t289 bt290.1 bt290.2 true a0_0 a0_1 a0_2) else (if t289 = true then ((value_Compare.f k a0_0 a0_1 a0_2 a1_0 a1_1 a1_2).bind fun t295 => ((raddleref01_Compare.f a0_0 a0_1 a0_2 a1_0 a1_1 a1_2).bind fun t296 => (if t295 = t296 then ((value_Fits.f a0_0 a0_1 a0_2 a2).bind fun t297 => ((raddleref01_Fits.f a0_0 a0_1 a0_2 a2).bind fun t298 => (if (t297 != t298) = true then (raddlelaw03_ValueExact.j0 k t289 bt290.1 bt290.2 true a0_0 a0_1 a0_2) else ((value_Small.f a0_0 a0_1 a0_2).bind fun t299 => ((raddleref01_Small.f a0_0 a0_1 a0_2).bind fun t300 => (raddlelaw03_ValueExact.j0 k t289 bt290.1 bt290.2 (t299 != t300) a0_0 a0_1 a0_2)))))) else (raddlelaw03_ValueExact.j0 k t289 bt290.1 bt290.2 true a0_0 a0_1 a0_2)))) else ((value_Check.f a0_0 a0_1 a0_2).bind fun t301 => (if t301 = 1 then ((value_Compare.f k a0_0 a0_1 a0_2 a1_0 a1_1 a1_2).bind fun t302 => ((raddleref01_Compare.f a0_0 a0_1 a0_2 a1_0 a1_1 a1_2).bind fun t303 => (if t302 = t303 then ((value_Fits.f a0_0 a0_1 a0_2 a2).bind fun t304 => ((raddleref01_Fits.f a0_0 a0_1 a0_2 a2).bind fun t305 => (if (t304 != t305) = true then (raddlelaw03_ValueExact.j0 k t289 bt290.1 bt290.2 true a0_0 a0_1 a0_2) else ((value_Small.f a0_0 a0_1 a0_2).bind fun t306 => ((raddleref01_Small.f a0_0 a0_1 a0_2).bind fun t307 => (raddlelaw03_ValueExact.j0 k t289 bt290.1 bt290.2 (t306 != t307) a0_0 a0_1 a0_2)))))) else (raddlelaw03_ValueExact.j0 k t289 bt290.1 bt290.2 true a0_0 a0_1 a0_2)))) else (raddlelaw03_ValueExact.j0 k t289 bt290.1 bt290.2 true a0_0 a0_1 a0_2)))))))))) = some r := h
 clear h
 obtain ⟨y285, hy285⟩ : ∃ y_ : List (S23), y_ = (([(⟨a0_0, a0_1, a0_2⟩ : S23), (⟨a1_0, a1_1, a1_2⟩ : S23)] : List (S23))) := ⟨_, rfl⟩
 replace H : ((raddlelaw03_Long.f k y285).bind fun t288 => (if t288 = true then (some true) else ((raddleref01_Value.f a0_0 a0_1 a0_2).bind fun t289 => ((value_Bytes.f k a0_0 a0_1 a0_2).bind fun bt290 => ((value_Check.f a0_0 a0_1 a0_2).bind fun t294 => (if ((t294 == 0) != t289) = true then (raddlelaw03_ValueExact.j0 k t289 bt290.1 bt290.2 true a0_0 a0_1 a0_2) else (if t289 = true then ((value_Compare.f k a0_0 a0_1 a0_2 a1_0 a1_1 a1_2).bind fun t295 => ((raddleref01_Compare.f a0_0 a0_1 a0_2 a1_0 a1_1 a1_2).bind fun t296 => (if t295 = t296 then ((value_Fits.f a0_0 a0_1 a0_2 a2).bind fun t297 => ((raddleref01_Fits.f a0_0 a0_1 a0_2 a2).bind fun t298 => (if (t297 != t298) = true then (raddlelaw03_ValueExact.j0 k t289 bt290.1 bt290.2 true a0_0 a0_1 a0_2) else ((value_Small.f a0_0 a0_1 a0_2).bind fun t299 => ((raddleref01_Small.f a0_0 a0_1 a0_2).bind fun t300 => (raddlelaw03_ValueExact.j0 k t289 bt290.1 bt290.2 (t299 != t300) a0_0 a0_1 a0_2)))))) else (raddlelaw03_ValueExact.j0 k t289 bt290.1 bt290.2 true a0_0 a0_1 a0_2)))) else ((value_Check.f a0_0 a0_1 a0_2).bind fun t301 => (if t301 = 1 then ((value_Compare.f k a0_0 a0_1 a0_2 a1_0 a1_1 a1_2).bind fun t302 => ((raddleref01_Compare.f a0_0 a0_1 a0_2 a1_0 a1_1 a1_2).bind fun t303 => (if t302 = t303 then ((value_Fits.f a0_0 a0_1 a0_2 a2).bind fun t304 => ((raddleref01_Fits.f a0_0 a0_1 a0_2 a2).bind fun t305 => (if (t304 != t305) = true then (raddlelaw03_ValueExact.j0 k t289 bt290.1 bt290.2 true a0_0 a0_1 a0_2) else ((value_Small.f a0_0 a0_1 a0_2).bind fun t306 => ((raddleref01_Small.f a0_0 a0_1 a0_2).bind fun t307 => (raddlelaw03_ValueExact.j0 k t289 bt290.1 bt290.2 (t306 != t307) a0_0 a0_1 a0_2)))))) else (raddlelaw03_ValueExact.j0 k t289 bt290.1 bt290.2 true a0_0 a0_1 a0_2)))) else (raddlelaw03_ValueExact.j0 k t289 bt290.1 bt290.2 true a0_0 a0_1 a0_2)))))))))) = some r := by first | (rw [hy285]; with_reducible exact H) | (have H2_ := (Option.bind_some _ _).symm.trans H; rw [hy285]; with_reducible exact H2_) | (have H2_ := (Option.bind_some _ _).symm.trans H; with_reducible exact H2_) | with_reducible exact H | (rw [hy285]; exact H) | exact H
 have Ny285 := Aside0.mk hy285
 clear hy285
 replace H := Option.bind_eq_some_iff.mp H
 obtain ⟨t288, A40, H⟩ := H
 replace H : (if t288 = true then (some true) else ((raddleref01_Value.f a0_0 a0_1 a0_2).bind fun t289 => ((value_Bytes.f k a0_0 a0_1 a0_2).bind fun bt290 => ((value_Check.f a0_0 a0_1 a0_2).bind fun t294 => (if ((t294 == 0) != t289) = true then (raddlelaw03_ValueExact.j0 k t289 bt290.1 bt290.2 true a0_0 a0_1 a0_2) else (if t289 = true then ((value_Compare.f k a0_0 a0_1 a0_2 a1_0 a1_1 a1_2).bind fun t295 => ((raddleref01_Compare.f a0_0 a0_1 a0_2 a1_0 a1_1 a1_2).bind fun t296 => (if t295 = t296 then ((value_Fits.f a0_0 a0_1 a0_2 a2).bind fun t297 => ((raddleref01_Fits.f a0_0 a0_1 a0_2 a2).bind fun t298 => (if (t297 != t298) = true then (raddlelaw03_ValueExact.j0 k t289 bt290.1 bt290.2 true a0_0 a0_1 a0_2) else ((value_Small.f a0_0 a0_1 a0_2).bind fun t299 => ((raddleref01_Small.f a0_0 a0_1 a0_2).bind fun t300 => (raddlelaw03_ValueExact.j0 k t289 bt290.1 bt290.2 (t299 != t300) a0_0 a0_1 a0_2)))))) else (raddlelaw03_ValueExact.j0 k t289 bt290.1 bt290.2 true a0_0 a0_1 a0_2)))) else ((value_Check.f a0_0 a0_1 a0_2).bind fun t301 => (if t301 = 1 then ((value_Compare.f k a0_0 a0_1 a0_2 a1_0 a1_1 a1_2).bind fun t302 => ((raddleref01_Compare.f a0_0 a0_1 a0_2 a1_0 a1_1 a1_2).bind fun t303 => (if t302 = t303 then ((value_Fits.f a0_0 a0_1 a0_2 a2).bind fun t304 => ((raddleref01_Fits.f a0_0 a0_1 a0_2 a2).bind fun t305 => (if (t304 != t305) = true then (raddlelaw03_ValueExact.j0 k t289 bt290.1 bt290.2 true a0_0 a0_1 a0_2) else ((value_Small.f a0_0 a0_1 a0_2).bind fun t306 => ((raddleref01_Small.f a0_0 a0_1 a0_2).bind fun t307 => (raddlelaw03_ValueExact.j0 k t289 bt290.1 bt290.2 (t306 != t307) a0_0 a0_1 a0_2)))))) else (raddlelaw03_ValueExact.j0 k t289 bt290.1 bt290.2 true a0_0 a0_1 a0_2)))) else (raddlelaw03_ValueExact.j0 k t289 bt290.1 bt290.2 true a0_0 a0_1 a0_2))))))))) = some r := H
 have A4 := Aside0.mk A40
 clear A40
 by_cases c5 : t288 = true
 ·
  subst c5
  have H1 : (some true) = some r := by rw [if_pos rfl] at H; exact H
  clear H
  have H := H1
  clear H1
  obtain rfl := Option.some.inj H
  go_enter Try.func3, Try.ntmps3
  go_wp2_with (first | ((with_reducible refine gate_dst (N := 3) rfl ?_); (try (refine gate_guard (by rfl) ?_; dsimp only)); refine box_event ?hg (N := 3) ?hd (cs := #[.int .i64 a0_0, .int .i64 a0_1, .string a0_2]) (t := 23) ?hr ?_; (case hd => rfl); (case hg => rfl); (case hr => first | (go_simp; done) | (go_simp; rfl)); intro gb283 hg w6 hbox hb; have n0_ := Aside0.mk (below_step (by repeat (first | (with_reducible first | exact HB.out | apply below_alloc | apply pw_below_drewN | apply below_drew1) | exact HB.out)) hb); have n1_ := Aside0.mk (hbox); have n2_ := Aside0.mk ((by rw [hg]; exact (below_size (by repeat (first | (with_reducible first | exact HB.out | apply below_alloc | apply pw_below_drewN | apply below_drew1) | exact HB.out))) : w.heap.size ≤ gb283)); have n3_ := Aside0.mk ((by rw [hg]; exact (below_size (by repeat (first | (with_reducible first | exact HB.out | apply below_alloc | apply pw_below_drewN | apply below_drew1) | exact HB.out))) : w.heap.size ≤ gb283)); clear HB; have HB := n0_; have BK283 := n1_; have GW283 := n2_; have GE283 := n3_; clear n0_ n1_ n2_ n3_; clear hb hbox hg) | ((with_reducible refine gate_dst (N := 4) rfl ?_); (try (refine gate_guard (by rfl) ?_; dsimp only)); refine box_event ?hg (N := 4) ?hd (cs := #[.int .i64 a1_0, .int .i64 a1_1, .string a1_2]) (t := 23) ?hr ?_; (case hd => rfl); (case hg => rfl); (case hr => first | (go_simp; done) | (go_simp; rfl)); intro gb284 hg w7 hbox hb; have n0_ := Aside0.mk (blk_below (g := gb283) (o := .cells #[.int .i64 a0_0, .int .i64 a0_1, .string a0_2] 23 (0, 0)) (by (with_reducible repeat (first | refine blk_drewN ?_ _ | refine blk_drew ?_ | refine blk_alloc ?_ _)); exact BK283.out) hb); have n1_ := Aside0.mk (below_step (by repeat (first | (with_reducible first | exact HB.out | apply below_alloc | apply pw_below_drewN | apply below_drew1 | refine below_set ?_ GE283.out) | exact HB.out)) hb); have n2_ := Aside0.mk (hbox); have n3_ := Aside0.mk ((by rw [hg]; exact (below_size (by repeat (first | (with_reducible first | exact HB.out | apply below_alloc | apply pw_below_drewN | apply below_drew1 | refine below_set ?_ GE283.out) | exact HB.out))) : w.heap.size ≤ gb284)); have n4_ := Aside0.mk ((by rw [hg]; exact (below_size (by repeat (first | (with_reducible first | exact HB.out | apply below_alloc | apply pw_below_drewN | apply below_drew1 | refine below_set ?_ GE283.out) | exact HB.out))) : w.heap.size ≤ gb284)); have n5_ := Aside0.mk ((by rw [hg]; exact Nat.ne_of_lt (blk_lt (g := gb283) (o := .cells #[.int .i64 a0_0, .int .i64 a0_1, .string a0_2] 23 (0, 0)) (by (with_reducible repeat (first | refine blk_drewN ?_ _ | refine blk_drew ?_ | refine blk_alloc ?_ _)); exact BK283.out)) : gb283 ≠ gb284)); have n6_ := Aside0.mk ((by rw [hg]; exact Nat.ne_of_gt (blk_lt (g := gb283) (o := .cells #[.int .i64 a0_0, .int .i64 a0_1, .string a0_2] 23 (0, 0)) (by (with_reducible repeat (first | refine blk_drewN ?_ _ | refine blk_drew ?_ | refine blk_alloc ?_ _)); exact BK283.out)) : gb284 ≠ gb283)); clear BK283; clear HB; have BK283 := n0_; have HB := n1_; have BK284 := n2_; have GW284 := n3_; have GE284 := n4_; have NB283_284 := n5_; have NB284_283 := n6_; clear n0_ n1_ n2_ n3_ n4_ n5_ n6_; clear hb hbox hg; have hnb8 := NB283_284.out; have hnc8 := NB284_283.out; have hcz9_0 : w7.cell? ⟨gb283, 0, none⟩ = some (.int .i64 a0_0) := (blk_cell BK283.out 0).trans rfl; have hcz9_1 : w7.cell? ⟨gb283, 1, none⟩ = some (.int .i64 a0_1) := (blk_cell BK283.out 1).trans rfl; have hcz9_2 : w7.cell? ⟨gb283, 2, none⟩ = some (.string a0_2) := (blk_cell BK283.out 2).trans rfl; have hfz9_0 := blk_frozen BK283.out 0; have hfz9_1 := blk_frozen BK283.out 1; have hfz9_2 := blk_frozen BK283.out 2; have hcz10_0 : w7.cell? ⟨gb284, 0, none⟩ = some (.int .i64 a1_0) := (blk_cell BK284.out 0).trans rfl; have hcz10_1 : w7.cell? ⟨gb284, 1, none⟩ = some (.int .i64 a1_1) := (blk_cell BK284.out 1).trans rfl; have hcz10_2 : w7.cell? ⟨gb284, 2, none⟩ = some (.string a1_2) := (blk_cell BK284.out 2).trans rfl; have hfz10_0 := blk_frozen BK284.out 0; have hfz10_1 := blk_frozen BK284.out 1; have hfz10_2 := blk_frozen BK284.out 2) | ((with_reducible refine gate_dst (N := 15) rfl ?_); (try (refine gate_guard (by rfl) ?_; dsimp only)); refine Kd.R_lit k23 _ 23 ?hg (N := 15) ?hd (xs := ([(⟨a0_0, a0_1, a0_2⟩ : S23), (⟨a1_0, a1_1, a1_2⟩ : S23)] : List (S23))) (inner := [.int .i64 a0_0, .int .i64 a0_1, .string a0_2, .int .i64 a1_0, .int .i64 a1_1, .string a1_2]) (ok := fun _ => True) (okp := fun _ => True) ?hr ?hp (fun _ hk => hk) trivial (Below.refl _ _) (Nat.le_refl _) (by simp) ?_; (case hd => rfl); (case hg => rfl); (case hr => first | (go_simp; done) | (go_simp; rfl)); (case hp => exact (Reps.c3 (show Kd.M k23 _ _ _ (⟨a0_0, a0_1, a0_2⟩ : S23) [.int .i64 a0_0, .int .i64 a0_1, .string a0_2] from (k23_mkM _ _ _ (⟨a0_0, a0_1, a0_2⟩ : S23) )) (Reps.c3 (show Kd.M k23 _ _ _ (⟨a1_0, a1_1, a1_2⟩ : S23) [.int .i64 a1_0, .int .i64 a1_1, .string a1_2] from (k23_mkM _ _ _ (⟨a1_0, a1_1, a1_2⟩ : S23) )) (Reps.none _ _)))); intro v286 w11 ho12 hb hg_ hnew_; clear hg_ hnew_; (first | rw [← Ny285.out] at ho12 | (simp only [Int.reduceToNat] at ho12; rw [← Ny285.out] at ho12)); have n0_ := Aside0.mk (Kd.R_lower (Kd.R_newB (Kd.R_newB ho12 (g := gb283) (o := .cells #[.int .i64 a0_0, .int .i64 a0_1, .string a0_2] 23 (0, 0)) (by (with_reducible repeat (first | refine blk_drewN ?_ _ | refine blk_drew ?_ | refine blk_alloc ?_ _)); exact BK283.out)) (g := gb284) (o := .cells #[.int .i64 a1_0, .int .i64 a1_1, .string a1_2] 23 (0, 0)) (by (with_reducible repeat (first | refine blk_drewN ?_ _ | refine blk_drew ?_ | refine blk_alloc ?_ _)); exact BK284.out)) (below_size (by repeat (first | (with_reducible first | exact HB.out | apply below_alloc | apply pw_below_drewN | apply below_drew1 | refine below_set ?_ GE283.out | refine below_set ?_ GE284.out) | exact HB.out)))); have n1_ := Aside0.mk (blk_below (g := gb283) (o := .cells #[.int .i64 a0_0, .int .i64 a0_1, .string a0_2] 23 (0, 0)) (by (with_reducible repeat (first | refine blk_drewN ?_ _ | refine blk_drew ?_ | refine blk_alloc ?_ _)); exact BK283.out) hb); have n2_ := Aside0.mk (blk_below (g := gb284) (o := .cells #[.int .i64 a1_0, .int .i64 a1_1, .string a1_2] 23 (0, 0)) (by (with_reducible repeat (first | refine blk_drewN ?_ _ | refine blk_drew ?_ | refine blk_alloc ?_ _)); exact BK284.out) hb); have n3_ := Aside0.mk (below_step (by repeat (first | (with_reducible first | exact HB.out | apply below_alloc | apply pw_below_drewN | apply below_drew1 | refine below_set ?_ GE283.out | refine below_set ?_ GE284.out) | exact HB.out)) hb); clear BK283; clear BK284; clear HB; have HO287 := n0_; have BK283 := n1_; have BK284 := n2_; have HB := n3_; clear n0_ n1_ n2_ n3_; clear hb ho12; obtain ⟨Ao13, co13, eo13⟩ := Kd.R_slice HO287.out; subst eo13) | ((with_reducible refine gate_callee (f := 9) rfl ?_); refine goesL_ (some 16) rfl rfl Try.func9 (by kernel_rfl) rfl #[.slice Ao13 y285.length co13] rfl (by (try simp only [List.map_toArray, List.map_cons, List.map_nil]); first | done | rfl | (simp only [List.length_drop, List.length_take]; rfl) | (go_simp; done) | (simp; done)) ?_; (with_reducible refine (raddlelaw03_Long.calls k _ _ y285 true _ ?side1 ?side2 A4.out).mono ?_); (case side1 => repeat (first | exact (Kd.R_reads' HO287.out).2.2 | (with_reducible refine Kd.C_alloc ?_ _) | (with_reducible refine Kd.C_drewN ?_ _) | (with_reducible refine Kd.C_drew ?_))); (case side2 => exact (Kd.R_reads' HO287.out).2.1); rintro e w' ⟨rfl, ⟨nd, rfl⟩⟩; refine ⟨_, rfl, ?_⟩))
  go_ret
  exact ⟨by first | rfl | (simp [errW_none, errW_some] <;> rfl) | (simp [*, errW_none, errW_some] <;> rfl), by repeat (first | (with_reducible first | exact HB.out | apply below_alloc | apply pw_below_drewN | apply below_drew1 | refine below_set ?_ GE283.out | refine below_set ?_ GE284.out) | exact HB.out)⟩
 ·
  replace c5 := Bool.eq_false_iff.mpr c5
  subst c5
  have H1 : ((raddleref01_Value.f a0_0 a0_1 a0_2).bind fun t289 => ((value_Bytes.f k a0_0 a0_1 a0_2).bind fun bt290 => ((value_Check.f a0_0 a0_1 a0_2).bind fun t294 => (if ((t294 == 0) != t289) = true then (raddlelaw03_ValueExact.j0 k t289 bt290.1 bt290.2 true a0_0 a0_1 a0_2) else (if t289 = true then ((value_Compare.f k a0_0 a0_1 a0_2 a1_0 a1_1 a1_2).bind fun t295 => ((raddleref01_Compare.f a0_0 a0_1 a0_2 a1_0 a1_1 a1_2).bind fun t296 => (if t295 = t296 then ((value_Fits.f a0_0 a0_1 a0_2 a2).bind fun t297 => ((raddleref01_Fits.f a0_0 a0_1 a0_2 a2).bind fun t298 => (if (t297 != t298) = true then (raddlelaw03_ValueExact.j0 k t289 bt290.1 bt290.2 true a0_0 a0_1 a0_2) else ((value_Small.f a0_0 a0_1 a0_2).bind fun t299 => ((raddleref01_Small.f a0_0 a0_1 a0_2).bind fun t300 => (raddlelaw03_ValueExact.j0 k t289 bt290.1 bt290.2 (t299 != t300) a0_0 a0_1 a0_2)))))) else (raddlelaw03_ValueExact.j0 k t289 bt290.1 bt290.2 true a0_0 a0_1 a0_2)))) else ((value_Check.f a0_0 a0_1 a0_2).bind fun t301 => (if t301 = 1 then ((value_Compare.f k a0_0 a0_1 a0_2 a1_0 a1_1 a1_2).bind fun t302 => ((raddleref01_Compare.f a0_0 a0_1 a0_2 a1_0 a1_1 a1_2).bind fun t303 => (if t302 = t303 then ((value_Fits.f a0_0 a0_1 a0_2 a2).bind fun t304 => ((raddleref01_Fits.f a0_0 a0_1 a0_2 a2).bind fun t305 => (if (t304 != t305) = true then (raddlelaw03_ValueExact.j0 k t289 bt290.1 bt290.2 true a0_0 a0_1 a0_2) else ((value_Small.f a0_0 a0_1 a0_2).bind fun t306 => ((raddleref01_Small.f a0_0 a0_1 a0_2).bind fun t307 => (raddlelaw03_ValueExact.j0 k t289 bt290.1 bt290.2 (t306 != t307) a0_0 a0_1 a0_2)))))) else (raddlelaw03_ValueExact.j0 k t289 bt290.1 bt290.2 true a0_0 a0_1 a0_2)))) else (raddlelaw03_ValueExact.j0 k t289 bt290.1 bt290.2 true a0_0 a0_1 a0_2)))))))) = some r := by rw [if_neg (show ¬ (false = true) by decide)] at H; exact H
  clear H
  have H := H1
  clear H1
  replace H := Option.bind_eq_some_iff.mp H
  obtain ⟨t289, A140, H⟩ := H
  replace H : ((value_Bytes.f k a0_0 a0_1 a0_2).bind fun bt290 => ((value_Check.f a0_0 a0_1 a0_2).bind fun t294 => (if ((t294 == 0) != t289) = true then (raddlelaw03_ValueExact.j0 k t289 bt290.1 bt290.2 true a0_0 a0_1 a0_2) else (if t289 = true then ((value_Compare.f k a0_0 a0_1 a0_2 a1_0 a1_1 a1_2).bind fun t295 => ((raddleref01_Compare.f a0_0 a0_1 a0_2 a1_0 a1_1 a1_2).bind fun t296 => (if t295 = t296 then ((value_Fits.f a0_0 a0_1 a0_2 a2).bind fun t297 => ((raddleref01_Fits.f a0_0 a0_1 a0_2 a2).bind fun t298 => (if (t297 != t298) = true then (raddlelaw03_ValueExact.j0 k t289 bt290.1 bt290.2 true a0_0 a0_1 a0_2) else ((value_Small.f a0_0 a0_1 a0_2).bind fun t299 => ((raddleref01_Small.f a0_0 a0_1 a0_2).bind fun t300 => (raddlelaw03_ValueExact.j0 k t289 bt290.1 bt290.2 (t299 != t300) a0_0 a0_1 a0_2)))))) else (raddlelaw03_ValueExact.j0 k t289 bt290.1 bt290.2 true a0_0 a0_1 a0_2)))) else ((value_Check.f a0_0 a0_1 a0_2).bind fun t301 => (if t301 = 1 then ((value_Compare.f k a0_0 a0_1 a0_2 a1_0 a1_1 a1_2).bind fun t302 => ((raddleref01_Compare.f a0_0 a0_1 a0_2 a1_0 a1_1 a1_2).bind fun t303 => (if t302 = t303 then ((value_Fits.f a0_0 a0_1 a0_2 a2).bind fun t304 => ((raddleref01_Fits.f a0_0 a0_1 a0_2 a2).bind fun t305 => (if (t304 != t305) = true then (raddlelaw03_ValueExact.j0 k t289 bt290.1 bt290.2 true a0_0 a0_1 a0_2) else ((value_Small.f a0_0 a0_1 a0_2).bind fun t306 => ((raddleref01_Small.f a0_0 a0_1 a0_2).bind fun t307 => (raddlelaw03_ValueExact.j0 k t289 bt290.1 bt290.2 (t306 != t307) a0_0 a0_1 a0_2)))))) else (raddlelaw03_ValueExact.j0 k t289 bt290.1 bt290.2 true a0_0 a0_1 a0_2)))) else (raddlelaw03_ValueExact.j0 k t289 bt290.1 bt290.2 true a0_0 a0_1 a0_2))))))) = some r := H
  have A14 := Aside0.mk A140
  clear A140
  replace H := Option.bind_eq_some_iff.mp H
  obtain ⟨⟨t290, t293⟩, A150, H⟩ := H
  replace H : ((value_Check.f a0_0 a0_1 a0_2).bind fun t294 => (if ((t294 == 0) != t289) = true then (raddlelaw03_ValueExact.j0 k t289 t290 t293 true a0_0 a0_1 a0_2) else (if t289 = true then ((value_Compare.f k a0_0 a0_1 a0_2 a1_0 a1_1 a1_2).bind fun t295 => ((raddleref01_Compare.f a0_0 a0_1 a0_2 a1_0 a1_1 a1_2).bind fun t296 => (if t295 = t296 then ((value_Fits.f a0_0 a0_1 a0_2 a2).bind fun t297 => ((raddleref01_Fits.f a0_0 a0_1 a0_2 a2).bind fun t298 => (if (t297 != t298) = true then (raddlelaw03_ValueExact.j0 k t289 t290 t293 true a0_0 a0_1 a0_2) else ((value_Small.f a0_0 a0_1 a0_2).bind fun t299 => ((raddleref01_Small.f a0_0 a0_1 a0_2).bind fun t300 => (raddlelaw03_ValueExact.j0 k t289 t290 t293 (t299 != t300) a0_0 a0_1 a0_2)))))) else (raddlelaw03_ValueExact.j0 k t289 t290 t293 true a0_0 a0_1 a0_2)))) else ((value_Check.f a0_0 a0_1 a0_2).bind fun t301 => (if t301 = 1 then ((value_Compare.f k a0_0 a0_1 a0_2 a1_0 a1_1 a1_2).bind fun t302 => ((raddleref01_Compare.f a0_0 a0_1 a0_2 a1_0 a1_1 a1_2).bind fun t303 => (if t302 = t303 then ((value_Fits.f a0_0 a0_1 a0_2 a2).bind fun t304 => ((raddleref01_Fits.f a0_0 a0_1 a0_2 a2).bind fun t305 => (if (t304 != t305) = true then (raddlelaw03_ValueExact.j0 k t289 t290 t293 true a0_0 a0_1 a0_2) else ((value_Small.f a0_0 a0_1 a0_2).bind fun t306 => ((raddleref01_Small.f a0_0 a0_1 a0_2).bind fun t307 => (raddlelaw03_ValueExact.j0 k t289 t290 t293 (t306 != t307) a0_0 a0_1 a0_2)))))) else (raddlelaw03_ValueExact.j0 k t289 t290 t293 true a0_0 a0_1 a0_2)))) else (raddlelaw03_ValueExact.j0 k t289 t290 t293 true a0_0 a0_1 a0_2)))))) = some r := H
  have A15 := Aside0.mk A150
  clear A150
  have HC16 := Aside0.mk H
  clear H
  go_enter Try.func3, Try.ntmps3
  go_upto_region 5 with (first | ((with_reducible refine gate_dst (N := 3) rfl ?_); (try (refine gate_guard (by rfl) ?_; dsimp only)); refine box_event ?hg (N := 3) ?hd (cs := #[.int .i64 a0_0, .int .i64 a0_1, .string a0_2]) (t := 23) ?hr ?_; (case hd => rfl); (case hg => rfl); (case hr => first | (go_simp; done) | (go_simp; rfl)); intro gb283 hg w17 hbox hb; have n0_ := Aside0.mk (below_step (by repeat (first | (with_reducible first | exact HB.out | apply below_alloc | apply pw_below_drewN | apply below_drew1) | exact HB.out)) hb); have n1_ := Aside0.mk (hbox); have n2_ := Aside0.mk ((by rw [hg]; exact (below_size (by repeat (first | (with_reducible first | exact HB.out | apply below_alloc | apply pw_below_drewN | apply below_drew1) | exact HB.out))) : w.heap.size ≤ gb283)); have n3_ := Aside0.mk ((by rw [hg]; exact (below_size (by repeat (first | (with_reducible first | exact HB.out | apply below_alloc | apply pw_below_drewN | apply below_drew1) | exact HB.out))) : w.heap.size ≤ gb283)); clear HB; have HB := n0_; have BK283 := n1_; have GW283 := n2_; have GE283 := n3_; clear n0_ n1_ n2_ n3_; clear hb hbox hg) | ((with_reducible refine gate_dst (N := 4) rfl ?_); (try (refine gate_guard (by rfl) ?_; dsimp only)); refine box_event ?hg (N := 4) ?hd (cs := #[.int .i64 a1_0, .int .i64 a1_1, .string a1_2]) (t := 23) ?hr ?_; (case hd => rfl); (case hg => rfl); (case hr => first | (go_simp; done) | (go_simp; rfl)); intro gb284 hg w18 hbox hb; have n0_ := Aside0.mk (blk_below (g := gb283) (o := .cells #[.int .i64 a0_0, .int .i64 a0_1, .string a0_2] 23 (0, 0)) (by (with_reducible repeat (first | refine blk_drewN ?_ _ | refine blk_drew ?_ | refine blk_alloc ?_ _)); exact BK283.out) hb); have n1_ := Aside0.mk (below_step (by repeat (first | (with_reducible first | exact HB.out | apply below_alloc | apply pw_below_drewN | apply below_drew1 | refine below_set ?_ GE283.out) | exact HB.out)) hb); have n2_ := Aside0.mk (hbox); have n3_ := Aside0.mk ((by rw [hg]; exact (below_size (by repeat (first | (with_reducible first | exact HB.out | apply below_alloc | apply pw_below_drewN | apply below_drew1 | refine below_set ?_ GE283.out) | exact HB.out))) : w.heap.size ≤ gb284)); have n4_ := Aside0.mk ((by rw [hg]; exact (below_size (by repeat (first | (with_reducible first | exact HB.out | apply below_alloc | apply pw_below_drewN | apply below_drew1 | refine below_set ?_ GE283.out) | exact HB.out))) : w.heap.size ≤ gb284)); have n5_ := Aside0.mk ((by rw [hg]; exact Nat.ne_of_lt (blk_lt (g := gb283) (o := .cells #[.int .i64 a0_0, .int .i64 a0_1, .string a0_2] 23 (0, 0)) (by (with_reducible repeat (first | refine blk_drewN ?_ _ | refine blk_drew ?_ | refine blk_alloc ?_ _)); exact BK283.out)) : gb283 ≠ gb284)); have n6_ := Aside0.mk ((by rw [hg]; exact Nat.ne_of_gt (blk_lt (g := gb283) (o := .cells #[.int .i64 a0_0, .int .i64 a0_1, .string a0_2] 23 (0, 0)) (by (with_reducible repeat (first | refine blk_drewN ?_ _ | refine blk_drew ?_ | refine blk_alloc ?_ _)); exact BK283.out)) : gb284 ≠ gb283)); clear BK283; clear HB; have BK283 := n0_; have HB := n1_; have BK284 := n2_; have GW284 := n3_; have GE284 := n4_; have NB283_284 := n5_; have NB284_283 := n6_; clear n0_ n1_ n2_ n3_ n4_ n5_ n6_; clear hb hbox hg; have hnb19 := NB283_284.out; have hnc19 := NB284_283.out; have hcz20_0 : w18.cell? ⟨gb283, 0, none⟩ = some (.int .i64 a0_0) := (blk_cell BK283.out 0).trans rfl; have hcz20_1 : w18.cell? ⟨gb283, 1, none⟩ = some (.int .i64 a0_1) := (blk_cell BK283.out 1).trans rfl; have hcz20_2 : w18.cell? ⟨gb283, 2, none⟩ = some (.string a0_2) := (blk_cell BK283.out 2).trans rfl; have hfz20_0 := blk_frozen BK283.out 0; have hfz20_1 := blk_frozen BK283.out 1; have hfz20_2 := blk_frozen BK283.out 2; have hcz21_0 : w18.cell? ⟨gb284, 0, none⟩ = some (.int .i64 a1_0) := (blk_cell BK284.out 0).trans rfl; have hcz21_1 : w18.cell? ⟨gb284, 1, none⟩ = some (.int .i64 a1_1) := (blk_cell BK284.out 1).trans rfl; have hcz21_2 : w18.cell? ⟨gb284, 2, none⟩ = some (.string a1_2) := (blk_cell BK284.out 2).trans rfl; have hfz21_0 := blk_frozen BK284.out 0; have hfz21_1 := blk_frozen BK284.out 1; have hfz21_2 := blk_frozen BK284.out 2) | ((with_reducible refine gate_dst (N := 15) rfl ?_); (try (refine gate_guard (by rfl) ?_; dsimp only)); refine Kd.R_lit k23 _ 23 ?hg (N := 15) ?hd (xs := ([(⟨a0_0, a0_1, a0_2⟩ : S23), (⟨a1_0, a1_1, a1_2⟩ : S23)] : List (S23))) (inner := [.int .i64 a0_0, .int .i64 a0_1, .string a0_2, .int .i64 a1_0, .int .i64 a1_1, .string a1_2]) (ok := fun _ => True) (okp := fun _ => True) ?hr ?hp (fun _ hk => hk) trivial (Below.refl _ _) (Nat.le_refl _) (by simp) ?_; (case hd => rfl); (case hg => rfl); (case hr => first | (go_simp; done) | (go_simp; rfl)); (case hp => exact (Reps.c3 (show Kd.M k23 _ _ _ (⟨a0_0, a0_1, a0_2⟩ : S23) [.int .i64 a0_0, .int .i64 a0_1, .string a0_2] from (k23_mkM _ _ _ (⟨a0_0, a0_1, a0_2⟩ : S23) )) (Reps.c3 (show Kd.M k23 _ _ _ (⟨a1_0, a1_1, a1_2⟩ : S23) [.int .i64 a1_0, .int .i64 a1_1, .string a1_2] from (k23_mkM _ _ _ (⟨a1_0, a1_1, a1_2⟩ : S23) )) (Reps.none _ _)))); intro v286 w22 ho23 hb hg_ hnew_; clear hg_ hnew_; (first | rw [← Ny285.out] at ho23 | (simp only [Int.reduceToNat] at ho23; rw [← Ny285.out] at ho23)); have n0_ := Aside0.mk (Kd.R_lower (Kd.R_newB (Kd.R_newB ho23 (g := gb283) (o := .cells #[.int .i64 a0_0, .int .i64 a0_1, .string a0_2] 23 (0, 0)) (by (with_reducible repeat (first | refine blk_drewN ?_ _ | refine blk_drew ?_ | refine blk_alloc ?_ _)); exact BK283.out)) (g := gb284) (o := .cells #[.int .i64 a1_0, .int .i64 a1_1, .string a1_2] 23 (0, 0)) (by (with_reducible repeat (first | refine blk_drewN ?_ _ | refine blk_drew ?_ | refine blk_alloc ?_ _)); exact BK284.out)) (below_size (by repeat (first | (with_reducible first | exact HB.out | apply below_alloc | apply pw_below_drewN | apply below_drew1 | refine below_set ?_ GE283.out | refine below_set ?_ GE284.out) | exact HB.out)))); have n1_ := Aside0.mk (blk_below (g := gb283) (o := .cells #[.int .i64 a0_0, .int .i64 a0_1, .string a0_2] 23 (0, 0)) (by (with_reducible repeat (first | refine blk_drewN ?_ _ | refine blk_drew ?_ | refine blk_alloc ?_ _)); exact BK283.out) hb); have n2_ := Aside0.mk (blk_below (g := gb284) (o := .cells #[.int .i64 a1_0, .int .i64 a1_1, .string a1_2] 23 (0, 0)) (by (with_reducible repeat (first | refine blk_drewN ?_ _ | refine blk_drew ?_ | refine blk_alloc ?_ _)); exact BK284.out) hb); have n3_ := Aside0.mk (below_step (by repeat (first | (with_reducible first | exact HB.out | apply below_alloc | apply pw_below_drewN | apply below_drew1 | refine below_set ?_ GE283.out | refine below_set ?_ GE284.out) | exact HB.out)) hb); clear BK283; clear BK284; clear HB; have HO287 := n0_; have BK283 := n1_; have BK284 := n2_; have HB := n3_; clear n0_ n1_ n2_ n3_; clear hb ho23; obtain ⟨Ao24, co24, eo24⟩ := Kd.R_slice HO287.out; subst eo24) | ((with_reducible refine gate_callee (f := 9) rfl ?_); refine goesL_ (some 16) rfl rfl Try.func9 (by kernel_rfl) rfl #[.slice Ao24 y285.length co24] rfl (by (try simp only [List.map_toArray, List.map_cons, List.map_nil]); first | done | rfl | (simp only [List.length_drop, List.length_take]; rfl) | (go_simp; done) | (simp; done)) ?_; (with_reducible refine (raddlelaw03_Long.calls k _ _ y285 false _ ?side1 ?side2 A4.out).mono ?_); (case side1 => repeat (first | exact (Kd.R_reads' HO287.out).2.2 | (with_reducible refine Kd.C_alloc ?_ _) | (with_reducible refine Kd.C_drewN ?_ _) | (with_reducible refine Kd.C_drew ?_))); (case side2 => exact (Kd.R_reads' HO287.out).2.1); rintro e w' ⟨rfl, ⟨nd, rfl⟩⟩; refine ⟨_, rfl, ?_⟩; have hcz25_0 : w22.cell? ⟨gb283, 0, none⟩ = some (.int .i64 a0_0) := (blk_cell BK283.out 0).trans rfl; have hcz25_1 : w22.cell? ⟨gb283, 1, none⟩ = some (.int .i64 a0_1) := (blk_cell BK283.out 1).trans rfl; have hcz25_2 : w22.cell? ⟨gb283, 2, none⟩ = some (.string a0_2) := (blk_cell BK283.out 2).trans rfl; have hfz25_0 := blk_frozen BK283.out 0; have hfz25_1 := blk_frozen BK283.out 1; have hfz25_2 := blk_frozen BK283.out 2) | ((with_reducible refine gate_callee (f := 10) rfl ?_); refine goesL_ (some 18) rfl rfl Try.func10 (by kernel_rfl) rfl #[.agg #[.int .i64 a0_0, .int .i64 a0_1, .string a0_2]] rfl (by (try simp only [List.map_toArray, List.map_cons, List.map_nil]); first | done | rfl | (simp only [List.length_drop, List.length_take]; rfl) | (go_simp; done) | (simp; done)) ?_; (with_reducible refine (raddleref01_Value.calls a0_0 a0_1 a0_2 t289 _ A14.out).mono ?_); rintro e w26 ⟨rfl, hb⟩; refine ⟨_, rfl, ?_⟩; have n0_ := Aside0.mk (Kd.R_below (by (with_reducible repeat (first | apply Kd.R_alloc | apply Kd.R_drewN | apply Kd.R_drew)); exact HO287.out) hb); have n1_ := Aside0.mk (blk_below (g := gb283) (o := .cells #[.int .i64 a0_0, .int .i64 a0_1, .string a0_2] 23 (0, 0)) (by (with_reducible repeat (first | refine blk_drewN ?_ _ | refine blk_drew ?_ | refine blk_alloc ?_ _)); exact BK283.out) hb); have n2_ := Aside0.mk (blk_below (g := gb284) (o := .cells #[.int .i64 a1_0, .int .i64 a1_1, .string a1_2] 23 (0, 0)) (by (with_reducible repeat (first | refine blk_drewN ?_ _ | refine blk_drew ?_ | refine blk_alloc ?_ _)); exact BK284.out) hb); have n3_ := Aside0.mk (below_step (by repeat (first | (with_reducible first | exact HB.out | apply below_alloc | apply pw_below_drewN | apply below_drew1 | refine below_set ?_ GE283.out | refine below_set ?_ GE284.out) | exact HB.out)) hb); clear HO287; clear BK283; clear BK284; clear HB; have HO287 := n0_; have BK283 := n1_; have BK284 := n2_; have HB := n3_; clear n0_ n1_ n2_ n3_; (try clear hb); (try clear hb2); (try clear hk); (try clear hi); have hcz27_0 : w26.cell? ⟨gb283, 0, none⟩ = some (.int .i64 a0_0) := (blk_cell BK283.out 0).trans rfl; have hcz27_1 : w26.cell? ⟨gb283, 1, none⟩ = some (.int .i64 a0_1) := (blk_cell BK283.out 1).trans rfl; have hcz27_2 : w26.cell? ⟨gb283, 2, none⟩ = some (.string a0_2) := (blk_cell BK283.out 2).trans rfl; have hfz27_0 := blk_frozen BK283.out 0; have hfz27_1 := blk_frozen BK283.out 1; have hfz27_2 := blk_frozen BK283.out 2) | ((with_reducible refine gate_callee (f := 11) rfl ?_); refine goesL_ (some 21) rfl rfl Try.func11 (by kernel_rfl) rfl #[.agg #[.int .i64 a0_0, .int .i64 a0_1, .string a0_2]] rfl (by (try simp only [List.map_toArray, List.map_cons, List.map_nil]); first | done | rfl | (simp only [List.length_drop, List.length_take]; rfl) | (go_simp; done) | (simp; done)) ?_; (with_reducible refine (value_Bytes.calls k a0_0 a0_1 a0_2 t290 t293 _ A15.out).mono ?_); rintro e w28 ⟨v291, rfl, ho0, hb⟩; refine ⟨_, rfl, ?_⟩; have n0_ := Aside0.mk (Kd.R_below (by (with_reducible repeat (first | apply Kd.R_alloc | apply Kd.R_drewN | apply Kd.R_drew)); exact HO287.out) hb); have n1_ := Aside0.mk (Kd.R_lower ho0 (below_size (by repeat (first | (with_reducible first | exact HB.out | apply below_alloc | apply pw_below_drewN | apply below_drew1 | refine below_set ?_ GE283.out | refine below_set ?_ GE284.out) | exact HB.out)))); have n2_ := Aside0.mk (blk_below (g := gb283) (o := .cells #[.int .i64 a0_0, .int .i64 a0_1, .string a0_2] 23 (0, 0)) (by (with_reducible repeat (first | refine blk_drewN ?_ _ | refine blk_drew ?_ | refine blk_alloc ?_ _)); exact BK283.out) hb); have n3_ := Aside0.mk (blk_below (g := gb284) (o := .cells #[.int .i64 a1_0, .int .i64 a1_1, .string a1_2] 23 (0, 0)) (by (with_reducible repeat (first | refine blk_drewN ?_ _ | refine blk_drew ?_ | refine blk_alloc ?_ _)); exact BK284.out) hb); have n4_ := Aside0.mk (below_step (by repeat (first | (with_reducible first | exact HB.out | apply below_alloc | apply pw_below_drewN | apply below_drew1 | refine below_set ?_ GE283.out | refine below_set ?_ GE284.out) | exact HB.out)) hb); clear HO287; clear BK283; clear BK284; clear HB; have HO287 := n0_; have HO292 := n1_; have BK283 := n2_; have BK284 := n3_; have HB := n4_; clear n0_ n1_ n2_ n3_ n4_; (try clear hb); (try clear hb2); (try clear hk); (try clear hi); (try clear ho0)))
  (try simp only [Act.put, List.setIfInBounds_toArray, List.set_cons_zero, List.set_cons_succ])
  go_cut [62] (fun v62 wc => ∃ (kq : Nat) (x62_15 : Bool), v62 = .bool x62_15 ∧ Aside0 (raddlelaw03_ValueExact.j0 kq t289 t290 t293 x62_15 a0_0 a0_1 a0_2 = some r) ∧ Aside0 (kq ≤ k) ∧ Aside0 (Kd.R (Kd.int .u8) 5 wc w.heap.size (fun _ => True) v291 t290) ∧ Aside0 (wc.heap[gb283]? = some (.cells #[.int .i64 a0_0, .int .i64 a0_1, .string a0_2] 23 (0, 0))) ∧ Aside0 (wc.heap[gb284]? = some (.cells #[.int .i64 a1_0, .int .i64 a1_1, .string a1_2] 23 (0, 0))) ∧ Aside0 (Below w.heap.size w wc))
  case first =>
   have H := HC16.out
   clear HC16
   replace H := Option.bind_eq_some_iff.mp H
   obtain ⟨t294, A290, H⟩ := H
   replace H : (if ((t294 == 0) != t289) = true then (raddlelaw03_ValueExact.j0 k t289 t290 t293 true a0_0 a0_1 a0_2) else (if t289 = true then ((value_Compare.f k a0_0 a0_1 a0_2 a1_0 a1_1 a1_2).bind fun t295 => ((raddleref01_Compare.f a0_0 a0_1 a0_2 a1_0 a1_1 a1_2).bind fun t296 => (if t295 = t296 then ((value_Fits.f a0_0 a0_1 a0_2 a2).bind fun t297 => ((raddleref01_Fits.f a0_0 a0_1 a0_2 a2).bind fun t298 => (if (t297 != t298) = true then (raddlelaw03_ValueExact.j0 k t289 t290 t293 true a0_0 a0_1 a0_2) else ((value_Small.f a0_0 a0_1 a0_2).bind fun t299 => ((raddleref01_Small.f a0_0 a0_1 a0_2).bind fun t300 => (raddlelaw03_ValueExact.j0 k t289 t290 t293 (t299 != t300) a0_0 a0_1 a0_2)))))) else (raddlelaw03_ValueExact.j0 k t289 t290 t293 true a0_0 a0_1 a0_2)))) else ((value_Check.f a0_0 a0_1 a0_2).bind fun t301 => (if t301 = 1 then ((value_Compare.f k a0_0 a0_1 a0_2 a1_0 a1_1 a1_2).bind fun t302 => ((raddleref01_Compare.f a0_0 a0_1 a0_2 a1_0 a1_1 a1_2).bind fun t303 => (if t302 = t303 then ((value_Fits.f a0_0 a0_1 a0_2 a2).bind fun t304 => ((raddleref01_Fits.f a0_0 a0_1 a0_2 a2).bind fun t305 => (if (t304 != t305) = true then (raddlelaw03_ValueExact.j0 k t289 t290 t293 true a0_0 a0_1 a0_2) else ((value_Small.f a0_0 a0_1 a0_2).bind fun t306 => ((raddleref01_Small.f a0_0 a0_1 a0_2).bind fun t307 => (raddlelaw03_ValueExact.j0 k t289 t290 t293 (t306 != t307) a0_0 a0_1 a0_2)))))) else (raddlelaw03_ValueExact.j0 k t289 t290 t293 true a0_0 a0_1 a0_2)))) else (raddlelaw03_ValueExact.j0 k t289 t290 t293 true a0_0 a0_1 a0_2))))) = some r := H
   have A29 := Aside0.mk A290
   clear A290
   by_cases c30 : ((t294 == 0) != t289) = true
   ·
    rw [if_pos c30] at H
    have c30b0 : ((t294 == 0) != t289) = true := c30
    (try (have c30b1 : decide ((t294 == 0) = t289) = false := by simpa using c30))
    (try (have c30b2 : ((t294 == 0) == t289) = false := by simpa using c30))
    (try (have c30b3 : ¬ ((t294 == 0) = t289) := by simpa using c30))
    clear c30
    (first | rw [c30b0] | (simp only [i64_w, i32_w]; rw [c30b0]) | skip)
    exact absurd H (by rw [hrt]; cases k <;> simp [raddlelaw03_ValueExact.j0])
   ·
    rw [if_neg c30] at H
    have c30b0 : ((t294 == 0) != t289) = false := by simpa using c30
    (try (have c30b1 : decide ((t294 == 0) = t289) = true := by simpa using c30))
    (try (have c30b2 : ((t294 == 0) == t289) = true := by simpa using c30))
    clear c30
    (first | rw [c30b0] | (simp only [i64_w, i32_w]; rw [c30b0]) | skip)
    by_cases c31 : t289 = true
    ·
     subst c31
     have H1 : ((value_Compare.f k a0_0 a0_1 a0_2 a1_0 a1_1 a1_2).bind fun t295 => ((raddleref01_Compare.f a0_0 a0_1 a0_2 a1_0 a1_1 a1_2).bind fun t296 => (if t295 = t296 then ((value_Fits.f a0_0 a0_1 a0_2 a2).bind fun t297 => ((raddleref01_Fits.f a0_0 a0_1 a0_2 a2).bind fun t298 => (if (t297 != t298) = true then (raddlelaw03_ValueExact.j0 k true t290 t293 true a0_0 a0_1 a0_2) else ((value_Small.f a0_0 a0_1 a0_2).bind fun t299 => ((raddleref01_Small.f a0_0 a0_1 a0_2).bind fun t300 => (raddlelaw03_ValueExact.j0 k true t290 t293 (t299 != t300) a0_0 a0_1 a0_2)))))) else (raddlelaw03_ValueExact.j0 k true t290 t293 true a0_0 a0_1 a0_2)))) = some r := by rw [if_pos rfl] at H; exact H
     clear H
     have H := H1
     clear H1
     replace H := Option.bind_eq_some_iff.mp H
     obtain ⟨t295, A320, H⟩ := H
     replace H : ((raddleref01_Compare.f a0_0 a0_1 a0_2 a1_0 a1_1 a1_2).bind fun t296 => (if t295 = t296 then ((value_Fits.f a0_0 a0_1 a0_2 a2).bind fun t297 => ((raddleref01_Fits.f a0_0 a0_1 a0_2 a2).bind fun t298 => (if (t297 != t298) = true then (raddlelaw03_ValueExact.j0 k true t290 t293 true a0_0 a0_1 a0_2) else ((value_Small.f a0_0 a0_1 a0_2).bind fun t299 => ((raddleref01_Small.f a0_0 a0_1 a0_2).bind fun t300 => (raddlelaw03_ValueExact.j0 k true t290 t293 (t299 != t300) a0_0 a0_1 a0_2)))))) else (raddlelaw03_ValueExact.j0 k true t290 t293 true a0_0 a0_1 a0_2))) = some r := H
     have A32 := Aside0.mk A320
     clear A320
     replace H := Option.bind_eq_some_iff.mp H
     obtain ⟨t296, A330, H⟩ := H
     replace H : (if t295 = t296 then ((value_Fits.f a0_0 a0_1 a0_2 a2).bind fun t297 => ((raddleref01_Fits.f a0_0 a0_1 a0_2 a2).bind fun t298 => (if (t297 != t298) = true then (raddlelaw03_ValueExact.j0 k true t290 t293 true a0_0 a0_1 a0_2) else ((value_Small.f a0_0 a0_1 a0_2).bind fun t299 => ((raddleref01_Small.f a0_0 a0_1 a0_2).bind fun t300 => (raddlelaw03_ValueExact.j0 k true t290 t293 (t299 != t300) a0_0 a0_1 a0_2)))))) else (raddlelaw03_ValueExact.j0 k true t290 t293 true a0_0 a0_1 a0_2)) = some r := H
     have A33 := Aside0.mk A330
     clear A330
     by_cases c34 : t295 = t296
     ·
      rw [if_pos c34] at H
      have c34b0 : (t295 == t296) = true := beq_iff_eq.mpr c34
      have c34b1 : (t295 != t296) = false := bne_eq_false_iff_eq.mpr c34
      clear c34
      replace H := Option.bind_eq_some_iff.mp H
      obtain ⟨t297, A350, H⟩ := H
      replace H : ((raddleref01_Fits.f a0_0 a0_1 a0_2 a2).bind fun t298 => (if (t297 != t298) = true then (raddlelaw03_ValueExact.j0 k true t290 t293 true a0_0 a0_1 a0_2) else ((value_Small.f a0_0 a0_1 a0_2).bind fun t299 => ((raddleref01_Small.f a0_0 a0_1 a0_2).bind fun t300 => (raddlelaw03_ValueExact.j0 k true t290 t293 (t299 != t300) a0_0 a0_1 a0_2))))) = some r := H
      have A35 := Aside0.mk A350
      clear A350
      replace H := Option.bind_eq_some_iff.mp H
      obtain ⟨t298, A360, H⟩ := H
      replace H : (if (t297 != t298) = true then (raddlelaw03_ValueExact.j0 k true t290 t293 true a0_0 a0_1 a0_2) else ((value_Small.f a0_0 a0_1 a0_2).bind fun t299 => ((raddleref01_Small.f a0_0 a0_1 a0_2).bind fun t300 => (raddlelaw03_ValueExact.j0 k true t290 t293 (t299 != t300) a0_0 a0_1 a0_2)))) = some r := H
      have A36 := Aside0.mk A360
      clear A360
      by_cases c37 : (t297 != t298) = true
      ·
       rw [if_pos c37] at H
       have c37b0 : (t297 != t298) = true := c37
       (try (have c37b1 : decide (t297 = t298) = false := by simpa using c37))
       (try (have c37b2 : (t297 == t298) = false := by simpa using c37))
       (try (have c37b3 : ¬ (t297 = t298) := by simpa using c37))
       clear c37
       exact absurd H (by rw [hrt]; cases k <;> simp [raddlelaw03_ValueExact.j0])
      ·
       rw [if_neg c37] at H
       have c37b0 : (t297 != t298) = false := by simpa using c37
       (try (have c37b1 : decide (t297 = t298) = true := by simpa using c37))
       (try (have c37b2 : (t297 == t298) = true := by simpa using c37))
       clear c37
       replace H := Option.bind_eq_some_iff.mp H
       obtain ⟨t299, A380, H⟩ := H
       replace H : ((raddleref01_Small.f a0_0 a0_1 a0_2).bind fun t300 => (raddlelaw03_ValueExact.j0 k true t290 t293 (t299 != t300) a0_0 a0_1 a0_2)) = some r := H
       have A38 := Aside0.mk A380
       clear A380
       replace H := Option.bind_eq_some_iff.mp H
       obtain ⟨t300, A390, H⟩ := H
       replace H : (raddlelaw03_ValueExact.j0 k true t290 t293 (t299 != t300) a0_0 a0_1 a0_2) = some r := H
       have A39 := Aside0.mk A390
       clear A390
       have H' := Aside0.mk H
       clear H
       try go_wp2
       have n0_ := Aside0.mk (Kd.R_drew HO287.out)
       have n1_ := Aside0.mk (Kd.R_drew HO292.out)
       have n2_ := Aside0.mk (blk_drew BK283.out)
       have n3_ := Aside0.mk (blk_drew BK284.out)
       have n4_ := Aside0.mk (below_drew1 HB.out)
       clear HO287
       clear HO292
       clear BK283
       clear BK284
       clear HB
       have HO287 := n0_
       have HO292 := n1_
       have BK283 := n2_
       have BK284 := n3_
       have HB := n4_
       clear n0_ n1_ n2_ n3_ n4_
       refine start_ (n := 39) (S := fun w' => w'.cell? ⟨gb283, 0, none⟩ = some (.int .i64 a0_0) ∧ w'.cell? ⟨gb283, 1, none⟩ = some (.int .i64 a0_1) ∧ w'.cell? ⟨gb283, 2, none⟩ = some (.string a0_2) ∧ w'.cell? ⟨gb284, 0, none⟩ = some (.int .i64 a1_0) ∧ w'.cell? ⟨gb284, 1, none⟩ = some (.int .i64 a1_1) ∧ w'.cell? ⟨gb284, 2, none⟩ = some (.string a1_2)) (ds := []) #[false, false, false, false, false, false, false, false, false, false, false, false, false, false, false, false, false, false, false, false, false, false, false, false, false, false, false, false, false, false, false, false, false, false, false, false, false, false, false] (by kernel_rfl) rfl rfl ⟨(blk_cell BK283.out 0).trans rfl, (blk_cell BK283.out 1).trans rfl, (blk_cell BK283.out 2).trans rfl, (blk_cell BK284.out 0).trans rfl, (blk_cell BK284.out 1).trans rfl, (blk_cell BK284.out 2).trans rfl⟩ (fun hHeld => ?_); refine with_tabW raddlelaw03_ValueExact.tab5 raddlelaw03_ValueExact.bits5 (fun HT_ HW_ => ?_)
       generalize w28.drew = w40 at HO287 HO292 BK283 BK284 HB hHeld ⊢
       refine Steps.pI_ 3 (some 27) (Steps.Bs 39 8) (any_of HT_.out (by kernel_rfl)) (h := ?_)
       refine Steps.tI_ 0 (some 24) (Steps.Bs 39 9) (take_ofW HT_.out HW_.out (by kernel_rfl)) hHeld (h := ?_)
       refine one_ (i := 1) (N := some 25) (Steps.Bs 39 11) rfl rfl (one_of HT_.out (by kernel_rfl)) (by decide) (fun K hK => ?_)
       refine goes_ Try.func12 (by kernel_rfl) rfl #[.agg #[.int .i64 a0_0, .int .i64 a0_1, .string a0_2]] (by rfl) rfl rfl (by (try simp only [List.map_toArray, List.map_cons, List.map_nil]); first | done | rfl | (simp only [List.length_drop, List.length_take]; rfl) | (go_simp; done) | (simp; done)) ?_
       with_reducible refine (value_Check.calls a0_0 a0_1 a0_2 t294 _ A29.out).mono ?_
       rintro e w41 ⟨rfl, hb⟩
       refine ⟨_, rfl, ?_⟩
       have n0_ := Aside0.mk (Kd.R_below (by (with_reducible repeat (first | apply Kd.R_alloc | apply Kd.R_drewN | apply Kd.R_drew)); exact HO287.out) hb)
       have n1_ := Aside0.mk (Kd.R_below (by (with_reducible repeat (first | apply Kd.R_alloc | apply Kd.R_drewN | apply Kd.R_drew)); exact HO292.out) hb)
       have n2_ := Aside0.mk (blk_below (g := gb283) (o := .cells #[.int .i64 a0_0, .int .i64 a0_1, .string a0_2] 23 (0, 0)) (by (with_reducible repeat (first | refine blk_drewN ?_ _ | refine blk_drew ?_ | refine blk_alloc ?_ _)); exact BK283.out) hb)
       have n3_ := Aside0.mk (blk_below (g := gb284) (o := .cells #[.int .i64 a1_0, .int .i64 a1_1, .string a1_2] 23 (0, 0)) (by (with_reducible repeat (first | refine blk_drewN ?_ _ | refine blk_drew ?_ | refine blk_alloc ?_ _)); exact BK284.out) hb)
       have n4_ := Aside0.mk (below_step (by repeat (first | (with_reducible first | exact HB.out | apply below_alloc | apply pw_below_drewN | apply below_drew1 | refine below_set ?_ GE283.out | refine below_set ?_ GE284.out) | exact HB.out)) hb)
       clear HO287
       clear HO292
       clear BK283
       clear BK284
       clear HB
       have HO287 := n0_
       have HO292 := n1_
       have BK283 := n2_
       have BK284 := n3_
       have HB := n4_
       clear n0_ n1_ n2_ n3_ n4_
       (try clear hb)
       (try clear hb2)
       (try clear hk)
       (try clear hi)
       refine hK.out _ _ ⟨(blk_cell BK283.out 0).trans rfl, (blk_cell BK283.out 1).trans rfl, (blk_cell BK283.out 2).trans rfl, (blk_cell BK284.out 0).trans rfl, (blk_cell BK284.out 1).trans rfl, (blk_cell BK284.out 2).trans rfl⟩ (fun hHeld => ?_)
       clear hK K
       refine norm_ (a' := ?_) ?_ ?_
       rotate_left
       ·
        show Act.put _ (some 25) _ = _
        simp only [Act.put, List.setIfInBounds_toArray, List.set_cons_zero, List.set_cons_succ, i64_w, i32_w]
        rfl
       refine Steps.pI_ 2 (some 26) (Steps.Bs 39 15) (any_of HT_.out (by kernel_rfl)) (h := ?_)
       refine Steps.pI_ 4 (some 28) (Steps.Bs 39 31) (any_of HT_.out (by kernel_rfl)) (h := ?_)
       refine Steps.pI_ 5 (some 29) (Steps.Bs 39 63) (any_of HT_.out (by kernel_rfl)) (h := ?_)
       refine Steps.pI_ 6 (some 30) (Steps.Bs 39 127) (any_of HT_.out (by kernel_rfl)) (h := ?_)
       refine Steps.pI_ 7 (some 31) (Steps.Bs 39 255) (any_of HT_.out (by kernel_rfl)) (h := ?_)
       refine Steps.pI_ 8 (some 32) (Steps.Bs 39 511) (any_of HT_.out (by kernel_rfl)) (h := ?_)
       refine Steps.pR_ 9 (some 33) (Steps.Bs 39 1023) (any_of HT_.out (by kernel_rfl)) (h := ?_)
       refine Steps.pR_ 10 (some 34) (Steps.Bs 39 2047) (any_of HT_.out (by kernel_rfl)) (h := ?_)
       refine Steps.pR_ 11 (some 35) (Steps.Bs 39 4095) (any_of HT_.out (by kernel_rfl)) (h := ?_)
       refine Steps.pI_ 12 (some 36) (Steps.Bs 39 8191) (any_of HT_.out (by kernel_rfl)) (h := ?_)
       refine Steps.pI_ 13 (some 37) (Steps.Bs 39 16383) (any_of HT_.out (by kernel_rfl)) (h := ?_)
       refine Steps.pI_ 14 (some 38) (Steps.Bs 39 32767) (any_of HT_.out (by kernel_rfl)) (h := ?_)
       refine Steps.tI_ 15 (some 39) (Steps.Bs 39 65535) (take_ofW HT_.out HW_.out (by kernel_rfl)) hHeld (h := ?_)
       refine Steps.tI_ 16 (some 40) (Steps.Bs 39 131071) (take_ofW HT_.out HW_.out (by kernel_rfl)) hHeld (h := ?_)
       refine Steps.tI_ 18 (some 42) (Steps.Bs 39 393215) (take_ofW HT_.out HW_.out (by kernel_rfl)) hHeld (h := ?_)
       refine Steps.tI_ 19 (some 43) (Steps.Bs 39 917503) (take_ofW HT_.out HW_.out (by kernel_rfl)) hHeld (h := ?_)
       refine one_ (i := 17) (N := some 41) (Steps.Bs 39 1048575) rfl rfl (one_of HT_.out (by kernel_rfl)) (by decide) (fun K hK => ?_)
       refine goes_ Try.func13 (by kernel_rfl) rfl #[.agg #[.int .i64 a0_0, .int .i64 a0_1, .string a0_2], .agg #[.int .i64 a1_0, .int .i64 a1_1, .string a1_2]] (by rfl) rfl rfl (by (try simp only [List.map_toArray, List.map_cons, List.map_nil]); first | done | rfl | (simp only [List.length_drop, List.length_take]; rfl) | (go_simp; done) | (simp; done)) ?_
       with_reducible refine (value_Compare.calls k a0_0 a0_1 a0_2 a1_0 a1_1 a1_2 t295 _ A32.out).mono ?_
       rintro e w42 ⟨rfl, hb⟩
       refine ⟨_, rfl, ?_⟩
       have n0_ := Aside0.mk (Kd.R_below (by (with_reducible repeat (first | apply Kd.R_alloc | apply Kd.R_drewN | apply Kd.R_drew)); exact HO287.out) hb)
       have n1_ := Aside0.mk (Kd.R_below (by (with_reducible repeat (first | apply Kd.R_alloc | apply Kd.R_drewN | apply Kd.R_drew)); exact HO292.out) hb)
       have n2_ := Aside0.mk (blk_below (g := gb283) (o := .cells #[.int .i64 a0_0, .int .i64 a0_1, .string a0_2] 23 (0, 0)) (by (with_reducible repeat (first | refine blk_drewN ?_ _ | refine blk_drew ?_ | refine blk_alloc ?_ _)); exact BK283.out) hb)
       have n3_ := Aside0.mk (blk_below (g := gb284) (o := .cells #[.int .i64 a1_0, .int .i64 a1_1, .string a1_2] 23 (0, 0)) (by (with_reducible repeat (first | refine blk_drewN ?_ _ | refine blk_drew ?_ | refine blk_alloc ?_ _)); exact BK284.out) hb)
       have n4_ := Aside0.mk (below_step (by repeat (first | (with_reducible first | exact HB.out | apply below_alloc | apply pw_below_drewN | apply below_drew1 | refine below_set ?_ GE283.out | refine below_set ?_ GE284.out) | exact HB.out)) hb)
       clear HO287
       clear HO292
       clear BK283
       clear BK284
       clear HB
       have HO287 := n0_
       have HO292 := n1_
       have BK283 := n2_
       have BK284 := n3_
       have HB := n4_
       clear n0_ n1_ n2_ n3_ n4_
       (try clear hb)
       (try clear hb2)
       (try clear hk)
       (try clear hi)
       refine hK.out _ _ ⟨(blk_cell BK283.out 0).trans rfl, (blk_cell BK283.out 1).trans rfl, (blk_cell BK283.out 2).trans rfl, (blk_cell BK284.out 0).trans rfl, (blk_cell BK284.out 1).trans rfl, (blk_cell BK284.out 2).trans rfl⟩ (fun hHeld => ?_)
       clear hK K
       refine norm_ (a' := ?_) ?_ ?_
       rotate_left
       ·
        show Act.put _ (some 41) _ = _
        simp only [Act.put, List.setIfInBounds_toArray, List.set_cons_zero, List.set_cons_succ, i64_w, i32_w]
        rfl
       refine one_ (i := 20) (N := some 44) (Steps.Bs 39 2097151) rfl rfl (one_of HT_.out (by kernel_rfl)) (by decide) (fun K hK => ?_)
       refine goes_ Try.func14 (by kernel_rfl) rfl #[.agg #[.int .i64 a0_0, .int .i64 a0_1, .string a0_2], .agg #[.int .i64 a1_0, .int .i64 a1_1, .string a1_2]] (by rfl) rfl rfl (by (try simp only [List.map_toArray, List.map_cons, List.map_nil]); first | done | rfl | (simp only [List.length_drop, List.length_take]; rfl) | (go_simp; done) | (simp; done)) ?_
       with_reducible refine (raddleref01_Compare.calls a0_0 a0_1 a0_2 a1_0 a1_1 a1_2 t296 _ A33.out).mono ?_
       rintro e w43 ⟨rfl, hb⟩
       refine ⟨_, rfl, ?_⟩
       have n0_ := Aside0.mk (Kd.R_below (by (with_reducible repeat (first | apply Kd.R_alloc | apply Kd.R_drewN | apply Kd.R_drew)); exact HO287.out) hb)
       have n1_ := Aside0.mk (Kd.R_below (by (with_reducible repeat (first | apply Kd.R_alloc | apply Kd.R_drewN | apply Kd.R_drew)); exact HO292.out) hb)
       have n2_ := Aside0.mk (blk_below (g := gb283) (o := .cells #[.int .i64 a0_0, .int .i64 a0_1, .string a0_2] 23 (0, 0)) (by (with_reducible repeat (first | refine blk_drewN ?_ _ | refine blk_drew ?_ | refine blk_alloc ?_ _)); exact BK283.out) hb)
       have n3_ := Aside0.mk (blk_below (g := gb284) (o := .cells #[.int .i64 a1_0, .int .i64 a1_1, .string a1_2] 23 (0, 0)) (by (with_reducible repeat (first | refine blk_drewN ?_ _ | refine blk_drew ?_ | refine blk_alloc ?_ _)); exact BK284.out) hb)
       have n4_ := Aside0.mk (below_step (by repeat (first | (with_reducible first | exact HB.out | apply below_alloc | apply pw_below_drewN | apply below_drew1 | refine below_set ?_ GE283.out | refine below_set ?_ GE284.out) | exact HB.out)) hb)
       clear HO287
       clear HO292
       clear BK283
       clear BK284
       clear HB
       have HO287 := n0_
       have HO292 := n1_
       have BK283 := n2_
       have BK284 := n3_
       have HB := n4_
       clear n0_ n1_ n2_ n3_ n4_
       (try clear hb)
       (try clear hb2)
       (try clear hk)
       (try clear hi)
       refine hK.out _ _ ⟨(blk_cell BK283.out 0).trans rfl, (blk_cell BK283.out 1).trans rfl, (blk_cell BK283.out 2).trans rfl, (blk_cell BK284.out 0).trans rfl, (blk_cell BK284.out 1).trans rfl, (blk_cell BK284.out 2).trans rfl⟩ (fun hHeld => ?_)
       clear hK K
       refine norm_ (a' := ?_) ?_ ?_
       rotate_left
       ·
        show Act.put _ (some 44) _ = _
        simp only [Act.put, List.setIfInBounds_toArray, List.set_cons_zero, List.set_cons_succ, i64_w, i32_w]
        rfl
       refine Steps.pI_ 21 (some 45) (Steps.Bs 39 4194303) (any_of HT_.out (by kernel_rfl)) (h := ?_)
       refine Steps.pI_ 22 (some 46) (Steps.Bs 39 8388607) (any_of HT_.out (by kernel_rfl)) (h := ?_)
       refine Steps.pI_ 23 (some 47) (Steps.Bs 39 16777215) (any_of HT_.out (by kernel_rfl)) (h := ?_)
       refine Steps.pI_ 25 (some 49) (Steps.Bs 39 50331647) (any_of HT_.out (by kernel_rfl)) (h := ?_)
       refine Steps.pI_ 28 (some 52) (Steps.Bs 39 318767103) (any_of HT_.out (by kernel_rfl)) (h := ?_)
       refine Steps.tI_ 24 (some 48) (Steps.Bs 39 335544319) (take_ofW HT_.out HW_.out (by kernel_rfl)) hHeld (h := ?_)
       refine Steps.tI_ 27 (some 51) (Steps.Bs 39 469762047) (take_ofW HT_.out HW_.out (by kernel_rfl)) hHeld (h := ?_)
       refine one_ (i := 26) (N := some 50) (Steps.Bs 39 536870911) rfl rfl (one_of HT_.out (by kernel_rfl)) (by decide) (fun K hK => ?_)
       refine goes_ Try.func15 (by kernel_rfl) rfl #[.agg #[.int .i64 a0_0, .int .i64 a0_1, .string a0_2], .int .i64 a2] (by rfl) rfl rfl (by (try simp only [List.map_toArray, List.map_cons, List.map_nil]); first | done | rfl | (simp only [List.length_drop, List.length_take]; rfl) | (go_simp; done) | (simp; done)) ?_
       with_reducible refine (value_Fits.calls a0_0 a0_1 a0_2 a2 t297 _ A35.out).mono ?_
       rintro e w44 ⟨rfl, hb⟩
       refine ⟨_, rfl, ?_⟩
       have n0_ := Aside0.mk (Kd.R_below (by (with_reducible repeat (first | apply Kd.R_alloc | apply Kd.R_drewN | apply Kd.R_drew)); exact HO287.out) hb)
       have n1_ := Aside0.mk (Kd.R_below (by (with_reducible repeat (first | apply Kd.R_alloc | apply Kd.R_drewN | apply Kd.R_drew)); exact HO292.out) hb)
       have n2_ := Aside0.mk (blk_below (g := gb283) (o := .cells #[.int .i64 a0_0, .int .i64 a0_1, .string a0_2] 23 (0, 0)) (by (with_reducible repeat (first | refine blk_drewN ?_ _ | refine blk_drew ?_ | refine blk_alloc ?_ _)); exact BK283.out) hb)
       have n3_ := Aside0.mk (blk_below (g := gb284) (o := .cells #[.int .i64 a1_0, .int .i64 a1_1, .string a1_2] 23 (0, 0)) (by (with_reducible repeat (first | refine blk_drewN ?_ _ | refine blk_drew ?_ | refine blk_alloc ?_ _)); exact BK284.out) hb)
       have n4_ := Aside0.mk (below_step (by repeat (first | (with_reducible first | exact HB.out | apply below_alloc | apply pw_below_drewN | apply below_drew1 | refine below_set ?_ GE283.out | refine below_set ?_ GE284.out) | exact HB.out)) hb)
       clear HO287
       clear HO292
       clear BK283
       clear BK284
       clear HB
       have HO287 := n0_
       have HO292 := n1_
       have BK283 := n2_
       have BK284 := n3_
       have HB := n4_
       clear n0_ n1_ n2_ n3_ n4_
       (try clear hb)
       (try clear hb2)
       (try clear hk)
       (try clear hi)
       refine hK.out _ _ ⟨(blk_cell BK283.out 0).trans rfl, (blk_cell BK283.out 1).trans rfl, (blk_cell BK283.out 2).trans rfl, (blk_cell BK284.out 0).trans rfl, (blk_cell BK284.out 1).trans rfl, (blk_cell BK284.out 2).trans rfl⟩ (fun hHeld => ?_)
       clear hK K
       refine norm_ (a' := ?_) ?_ ?_
       rotate_left
       ·
        show Act.put _ (some 50) _ = _
        simp only [Act.put, List.setIfInBounds_toArray, List.set_cons_zero, List.set_cons_succ, i64_w, i32_w]
        rfl
       refine one_ (i := 29) (N := some 53) (Steps.Bs 39 1073741823) rfl rfl (one_of HT_.out (by kernel_rfl)) (by decide) (fun K hK => ?_)
       refine goes_ Try.func16 (by kernel_rfl) rfl #[.agg #[.int .i64 a0_0, .int .i64 a0_1, .string a0_2], .int .i64 a2] (by rfl) rfl rfl (by (try simp only [List.map_toArray, List.map_cons, List.map_nil]); first | done | rfl | (simp only [List.length_drop, List.length_take]; rfl) | (go_simp; done) | (simp; done)) ?_
       with_reducible refine (raddleref01_Fits.calls a0_0 a0_1 a0_2 a2 t298 _ A36.out).mono ?_
       rintro e w45 ⟨rfl, hb⟩
       refine ⟨_, rfl, ?_⟩
       have n0_ := Aside0.mk (Kd.R_below (by (with_reducible repeat (first | apply Kd.R_alloc | apply Kd.R_drewN | apply Kd.R_drew)); exact HO287.out) hb)
       have n1_ := Aside0.mk (Kd.R_below (by (with_reducible repeat (first | apply Kd.R_alloc | apply Kd.R_drewN | apply Kd.R_drew)); exact HO292.out) hb)
       have n2_ := Aside0.mk (blk_below (g := gb283) (o := .cells #[.int .i64 a0_0, .int .i64 a0_1, .string a0_2] 23 (0, 0)) (by (with_reducible repeat (first | refine blk_drewN ?_ _ | refine blk_drew ?_ | refine blk_alloc ?_ _)); exact BK283.out) hb)
       have n3_ := Aside0.mk (blk_below (g := gb284) (o := .cells #[.int .i64 a1_0, .int .i64 a1_1, .string a1_2] 23 (0, 0)) (by (with_reducible repeat (first | refine blk_drewN ?_ _ | refine blk_drew ?_ | refine blk_alloc ?_ _)); exact BK284.out) hb)
       have n4_ := Aside0.mk (below_step (by repeat (first | (with_reducible first | exact HB.out | apply below_alloc | apply pw_below_drewN | apply below_drew1 | refine below_set ?_ GE283.out | refine below_set ?_ GE284.out) | exact HB.out)) hb)
       clear HO287
       clear HO292
       clear BK283
       clear BK284
       clear HB
       have HO287 := n0_
       have HO292 := n1_
       have BK283 := n2_
       have BK284 := n3_
       have HB := n4_
       clear n0_ n1_ n2_ n3_ n4_
       (try clear hb)
       (try clear hb2)
       (try clear hk)
       (try clear hi)
       refine hK.out _ _ ⟨(blk_cell BK283.out 0).trans rfl, (blk_cell BK283.out 1).trans rfl, (blk_cell BK283.out 2).trans rfl, (blk_cell BK284.out 0).trans rfl, (blk_cell BK284.out 1).trans rfl, (blk_cell BK284.out 2).trans rfl⟩ (fun hHeld => ?_)
       clear hK K
       refine norm_ (a' := ?_) ?_ ?_
       rotate_left
       ·
        show Act.put _ (some 53) _ = _
        simp only [Act.put, List.setIfInBounds_toArray, List.set_cons_zero, List.set_cons_succ, i64_w, i32_w]
        rfl
       refine Steps.pI_ 30 (some 54) (Steps.Bs 39 2147483647) (any_of HT_.out (by kernel_rfl)) (h := ?_)
       refine Steps.pI_ 31 (some 55) (Steps.Bs 39 4294967295) (any_of HT_.out (by kernel_rfl)) (h := ?_)
       refine Steps.pI_ 32 (some 56) (Steps.Bs 39 8589934591) (any_of HT_.out (by kernel_rfl)) (h := ?_)
       refine Steps.tI_ 33 (some 57) (Steps.Bs 39 17179869183) (take_ofW HT_.out HW_.out (by kernel_rfl)) hHeld (h := ?_)
       refine Steps.tI_ 35 (some 59) (Steps.Bs 39 51539607551) (take_ofW HT_.out HW_.out (by kernel_rfl)) hHeld (h := ?_)
       refine one_ (i := 34) (N := some 58) (Steps.Bs 39 68719476735) rfl rfl (one_of HT_.out (by kernel_rfl)) (by decide) (fun K hK => ?_)
       refine goes_ Try.func17 (by kernel_rfl) rfl #[.agg #[.int .i64 a0_0, .int .i64 a0_1, .string a0_2]] (by rfl) rfl rfl (by (try simp only [List.map_toArray, List.map_cons, List.map_nil]); first | done | rfl | (simp only [List.length_drop, List.length_take]; rfl) | (go_simp; done) | (simp; done)) ?_
       with_reducible refine (value_Small.calls a0_0 a0_1 a0_2 t299 _ A38.out).mono ?_
       rintro e w46 ⟨rfl, hb⟩
       refine ⟨_, rfl, ?_⟩
       have n0_ := Aside0.mk (Kd.R_below (by (with_reducible repeat (first | apply Kd.R_alloc | apply Kd.R_drewN | apply Kd.R_drew)); exact HO287.out) hb)
       have n1_ := Aside0.mk (Kd.R_below (by (with_reducible repeat (first | apply Kd.R_alloc | apply Kd.R_drewN | apply Kd.R_drew)); exact HO292.out) hb)
       have n2_ := Aside0.mk (blk_below (g := gb283) (o := .cells #[.int .i64 a0_0, .int .i64 a0_1, .string a0_2] 23 (0, 0)) (by (with_reducible repeat (first | refine blk_drewN ?_ _ | refine blk_drew ?_ | refine blk_alloc ?_ _)); exact BK283.out) hb)
       have n3_ := Aside0.mk (blk_below (g := gb284) (o := .cells #[.int .i64 a1_0, .int .i64 a1_1, .string a1_2] 23 (0, 0)) (by (with_reducible repeat (first | refine blk_drewN ?_ _ | refine blk_drew ?_ | refine blk_alloc ?_ _)); exact BK284.out) hb)
       have n4_ := Aside0.mk (below_step (by repeat (first | (with_reducible first | exact HB.out | apply below_alloc | apply pw_below_drewN | apply below_drew1 | refine below_set ?_ GE283.out | refine below_set ?_ GE284.out) | exact HB.out)) hb)
       clear HO287
       clear HO292
       clear BK283
       clear BK284
       clear HB
       have HO287 := n0_
       have HO292 := n1_
       have BK283 := n2_
       have BK284 := n3_
       have HB := n4_
       clear n0_ n1_ n2_ n3_ n4_
       (try clear hb)
       (try clear hb2)
       (try clear hk)
       (try clear hi)
       refine hK.out _ _ ⟨(blk_cell BK283.out 0).trans rfl, (blk_cell BK283.out 1).trans rfl, (blk_cell BK283.out 2).trans rfl, (blk_cell BK284.out 0).trans rfl, (blk_cell BK284.out 1).trans rfl, (blk_cell BK284.out 2).trans rfl⟩ (fun hHeld => ?_)
       clear hK K
       refine norm_ (a' := ?_) ?_ ?_
       rotate_left
       ·
        show Act.put _ (some 58) _ = _
        simp only [Act.put, List.setIfInBounds_toArray, List.set_cons_zero, List.set_cons_succ, i64_w, i32_w]
        rfl
       refine one_ (i := 36) (N := some 60) (Steps.Bs 39 137438953471) rfl rfl (one_of HT_.out (by kernel_rfl)) (by decide) (fun K hK => ?_)
       refine goes_ Try.func18 (by kernel_rfl) rfl #[.agg #[.int .i64 a0_0, .int .i64 a0_1, .string a0_2]] (by rfl) rfl rfl (by (try simp only [List.map_toArray, List.map_cons, List.map_nil]); first | done | rfl | (simp only [List.length_drop, List.length_take]; rfl) | (go_simp; done) | (simp; done)) ?_
       with_reducible refine (raddleref01_Small.calls a0_0 a0_1 a0_2 t300 _ A39.out).mono ?_
       rintro e w47 ⟨rfl, hb⟩
       refine ⟨_, rfl, ?_⟩
       have n0_ := Aside0.mk (Kd.R_below (by (with_reducible repeat (first | apply Kd.R_alloc | apply Kd.R_drewN | apply Kd.R_drew)); exact HO287.out) hb)
       have n1_ := Aside0.mk (Kd.R_below (by (with_reducible repeat (first | apply Kd.R_alloc | apply Kd.R_drewN | apply Kd.R_drew)); exact HO292.out) hb)
       have n2_ := Aside0.mk (blk_below (g := gb283) (o := .cells #[.int .i64 a0_0, .int .i64 a0_1, .string a0_2] 23 (0, 0)) (by (with_reducible repeat (first | refine blk_drewN ?_ _ | refine blk_drew ?_ | refine blk_alloc ?_ _)); exact BK283.out) hb)
       have n3_ := Aside0.mk (blk_below (g := gb284) (o := .cells #[.int .i64 a1_0, .int .i64 a1_1, .string a1_2] 23 (0, 0)) (by (with_reducible repeat (first | refine blk_drewN ?_ _ | refine blk_drew ?_ | refine blk_alloc ?_ _)); exact BK284.out) hb)
       have n4_ := Aside0.mk (below_step (by repeat (first | (with_reducible first | exact HB.out | apply below_alloc | apply pw_below_drewN | apply below_drew1 | refine below_set ?_ GE283.out | refine below_set ?_ GE284.out) | exact HB.out)) hb)
       clear HO287
       clear HO292
       clear BK283
       clear BK284
       clear HB
       have HO287 := n0_
       have HO292 := n1_
       have BK283 := n2_
       have BK284 := n3_
       have HB := n4_
       clear n0_ n1_ n2_ n3_ n4_
       (try clear hb)
       (try clear hb2)
       (try clear hk)
       (try clear hi)
       refine hK.out _ _ ⟨(blk_cell BK283.out 0).trans rfl, (blk_cell BK283.out 1).trans rfl, (blk_cell BK283.out 2).trans rfl, (blk_cell BK284.out 0).trans rfl, (blk_cell BK284.out 1).trans rfl, (blk_cell BK284.out 2).trans rfl⟩ (fun hHeld => ?_)
       clear hK K
       refine norm_ (a' := ?_) ?_ ?_
       rotate_left
       ·
        show Act.put _ (some 60) _ = _
        simp only [Act.put, List.setIfInBounds_toArray, List.set_cons_zero, List.set_cons_succ, i64_w, i32_w]
        rfl
       refine Steps.pI_ 37 (some 61) (Steps.Bs 39 274877906943) (any_of HT_.out (by kernel_rfl)) (h := ?_)
       refine Steps.pI_ 38 (some 62) (Steps.Bs 39 549755813887) (any_of HT_.out (by kernel_rfl)) (h := ?_)
       refine done_ (done_of HT_.out (by kernel_rfl)) ?_
       try go_wp2
       go_meet
       case rel => exact ⟨_, ((t299 != t300)), (by first | rfl | (simp; done) | (simp [*]; done)), H', ⟨by first | omega | exact Nat.le_refl _⟩, ⟨by (with_reducible repeat (first | apply Kd.R_alloc | apply Kd.R_drewN | apply Kd.R_drew)); exact HO292.out⟩, ⟨by (with_reducible repeat (first | refine blk_drewN ?_ _ | refine blk_drew ?_ | refine blk_alloc ?_ _)); exact BK283.out⟩, ⟨by (with_reducible repeat (first | refine blk_drewN ?_ _ | refine blk_drew ?_ | refine blk_alloc ?_ _)); exact BK284.out⟩, ⟨by repeat (first | (with_reducible first | exact HB.out | apply below_alloc | apply pw_below_drewN | apply below_drew1 | refine below_set ?_ GE283.out | refine below_set ?_ GE284.out) | exact HB.out)⟩⟩
     ·
      rw [if_neg c34] at H
      have c34b0 : (t295 == t296) = false := beq_eq_false_iff_ne.mpr c34
      have c34b1 : (t295 != t296) = true := bne_iff_ne.mpr c34
      exact absurd H (by rw [hrt]; cases k <;> simp [raddlelaw03_ValueExact.j0])
    ·
     replace c31 := Bool.eq_false_iff.mpr c31
     subst c31
     have H1 : ((value_Check.f a0_0 a0_1 a0_2).bind fun t301 => (if t301 = 1 then ((value_Compare.f k a0_0 a0_1 a0_2 a1_0 a1_1 a1_2).bind fun t302 => ((raddleref01_Compare.f a0_0 a0_1 a0_2 a1_0 a1_1 a1_2).bind fun t303 => (if t302 = t303 then ((value_Fits.f a0_0 a0_1 a0_2 a2).bind fun t304 => ((raddleref01_Fits.f a0_0 a0_1 a0_2 a2).bind fun t305 => (if (t304 != t305) = true then (raddlelaw03_ValueExact.j0 k false t290 t293 true a0_0 a0_1 a0_2) else ((value_Small.f a0_0 a0_1 a0_2).bind fun t306 => ((raddleref01_Small.f a0_0 a0_1 a0_2).bind fun t307 => (raddlelaw03_ValueExact.j0 k false t290 t293 (t306 != t307) a0_0 a0_1 a0_2)))))) else (raddlelaw03_ValueExact.j0 k false t290 t293 true a0_0 a0_1 a0_2)))) else (raddlelaw03_ValueExact.j0 k false t290 t293 true a0_0 a0_1 a0_2))) = some r := by rw [if_neg (show ¬ (false = true) by decide)] at H; exact H
     clear H
     have H := H1
     clear H1
     replace H := Option.bind_eq_some_iff.mp H
     obtain ⟨t301, A480, H⟩ := H
     replace H : (if t301 = 1 then ((value_Compare.f k a0_0 a0_1 a0_2 a1_0 a1_1 a1_2).bind fun t302 => ((raddleref01_Compare.f a0_0 a0_1 a0_2 a1_0 a1_1 a1_2).bind fun t303 => (if t302 = t303 then ((value_Fits.f a0_0 a0_1 a0_2 a2).bind fun t304 => ((raddleref01_Fits.f a0_0 a0_1 a0_2 a2).bind fun t305 => (if (t304 != t305) = true then (raddlelaw03_ValueExact.j0 k false t290 t293 true a0_0 a0_1 a0_2) else ((value_Small.f a0_0 a0_1 a0_2).bind fun t306 => ((raddleref01_Small.f a0_0 a0_1 a0_2).bind fun t307 => (raddlelaw03_ValueExact.j0 k false t290 t293 (t306 != t307) a0_0 a0_1 a0_2)))))) else (raddlelaw03_ValueExact.j0 k false t290 t293 true a0_0 a0_1 a0_2)))) else (raddlelaw03_ValueExact.j0 k false t290 t293 true a0_0 a0_1 a0_2)) = some r := H
     have A48 := Aside0.mk A480
     clear A480
     by_cases c49 : t301 = 1
     ·
      rw [if_pos c49] at H
      have c49b0 : (t301 == 1) = true := beq_iff_eq.mpr c49
      have c49b1 : (t301 != 1) = false := bne_eq_false_iff_eq.mpr c49
      clear c49
      replace H := Option.bind_eq_some_iff.mp H
      obtain ⟨t302, A500, H⟩ := H
      replace H : ((raddleref01_Compare.f a0_0 a0_1 a0_2 a1_0 a1_1 a1_2).bind fun t303 => (if t302 = t303 then ((value_Fits.f a0_0 a0_1 a0_2 a2).bind fun t304 => ((raddleref01_Fits.f a0_0 a0_1 a0_2 a2).bind fun t305 => (if (t304 != t305) = true then (raddlelaw03_ValueExact.j0 k false t290 t293 true a0_0 a0_1 a0_2) else ((value_Small.f a0_0 a0_1 a0_2).bind fun t306 => ((raddleref01_Small.f a0_0 a0_1 a0_2).bind fun t307 => (raddlelaw03_ValueExact.j0 k false t290 t293 (t306 != t307) a0_0 a0_1 a0_2)))))) else (raddlelaw03_ValueExact.j0 k false t290 t293 true a0_0 a0_1 a0_2))) = some r := H
      have A50 := Aside0.mk A500
      clear A500
      replace H := Option.bind_eq_some_iff.mp H
      obtain ⟨t303, A510, H⟩ := H
      replace H : (if t302 = t303 then ((value_Fits.f a0_0 a0_1 a0_2 a2).bind fun t304 => ((raddleref01_Fits.f a0_0 a0_1 a0_2 a2).bind fun t305 => (if (t304 != t305) = true then (raddlelaw03_ValueExact.j0 k false t290 t293 true a0_0 a0_1 a0_2) else ((value_Small.f a0_0 a0_1 a0_2).bind fun t306 => ((raddleref01_Small.f a0_0 a0_1 a0_2).bind fun t307 => (raddlelaw03_ValueExact.j0 k false t290 t293 (t306 != t307) a0_0 a0_1 a0_2)))))) else (raddlelaw03_ValueExact.j0 k false t290 t293 true a0_0 a0_1 a0_2)) = some r := H
      have A51 := Aside0.mk A510
      clear A510
      by_cases c52 : t302 = t303
      ·
       rw [if_pos c52] at H
       have c52b0 : (t302 == t303) = true := beq_iff_eq.mpr c52
       have c52b1 : (t302 != t303) = false := bne_eq_false_iff_eq.mpr c52
       clear c52
       replace H := Option.bind_eq_some_iff.mp H
       obtain ⟨t304, A530, H⟩ := H
       replace H : ((raddleref01_Fits.f a0_0 a0_1 a0_2 a2).bind fun t305 => (if (t304 != t305) = true then (raddlelaw03_ValueExact.j0 k false t290 t293 true a0_0 a0_1 a0_2) else ((value_Small.f a0_0 a0_1 a0_2).bind fun t306 => ((raddleref01_Small.f a0_0 a0_1 a0_2).bind fun t307 => (raddlelaw03_ValueExact.j0 k false t290 t293 (t306 != t307) a0_0 a0_1 a0_2))))) = some r := H
       have A53 := Aside0.mk A530
       clear A530
       replace H := Option.bind_eq_some_iff.mp H
       obtain ⟨t305, A540, H⟩ := H
       replace H : (if (t304 != t305) = true then (raddlelaw03_ValueExact.j0 k false t290 t293 true a0_0 a0_1 a0_2) else ((value_Small.f a0_0 a0_1 a0_2).bind fun t306 => ((raddleref01_Small.f a0_0 a0_1 a0_2).bind fun t307 => (raddlelaw03_ValueExact.j0 k false t290 t293 (t306 != t307) a0_0 a0_1 a0_2)))) = some r := H
       have A54 := Aside0.mk A540
       clear A540
       by_cases c55 : (t304 != t305) = true
       ·
        rw [if_pos c55] at H
        have c55b0 : (t304 != t305) = true := c55
        (try (have c55b1 : decide (t304 = t305) = false := by simpa using c55))
        (try (have c55b2 : (t304 == t305) = false := by simpa using c55))
        (try (have c55b3 : ¬ (t304 = t305) := by simpa using c55))
        clear c55
        exact absurd H (by rw [hrt]; cases k <;> simp [raddlelaw03_ValueExact.j0])
       ·
        rw [if_neg c55] at H
        have c55b0 : (t304 != t305) = false := by simpa using c55
        (try (have c55b1 : decide (t304 = t305) = true := by simpa using c55))
        (try (have c55b2 : (t304 == t305) = true := by simpa using c55))
        clear c55
        replace H := Option.bind_eq_some_iff.mp H
        obtain ⟨t306, A560, H⟩ := H
        replace H : ((raddleref01_Small.f a0_0 a0_1 a0_2).bind fun t307 => (raddlelaw03_ValueExact.j0 k false t290 t293 (t306 != t307) a0_0 a0_1 a0_2)) = some r := H
        have A56 := Aside0.mk A560
        clear A560
        replace H := Option.bind_eq_some_iff.mp H
        obtain ⟨t307, A570, H⟩ := H
        replace H : (raddlelaw03_ValueExact.j0 k false t290 t293 (t306 != t307) a0_0 a0_1 a0_2) = some r := H
        have A57 := Aside0.mk A570
        clear A570
        have H' := Aside0.mk H
        clear H
        try go_wp2
        have n0_ := Aside0.mk (Kd.R_drew HO287.out)
        have n1_ := Aside0.mk (Kd.R_drew HO292.out)
        have n2_ := Aside0.mk (blk_drew BK283.out)
        have n3_ := Aside0.mk (blk_drew BK284.out)
        have n4_ := Aside0.mk (below_drew1 HB.out)
        clear HO287
        clear HO292
        clear BK283
        clear BK284
        clear HB
        have HO287 := n0_
        have HO292 := n1_
        have BK283 := n2_
        have BK284 := n3_
        have HB := n4_
        clear n0_ n1_ n2_ n3_ n4_
        refine start_ (n := 39) (S := fun w' => w'.cell? ⟨gb283, 0, none⟩ = some (.int .i64 a0_0) ∧ w'.cell? ⟨gb283, 1, none⟩ = some (.int .i64 a0_1) ∧ w'.cell? ⟨gb283, 2, none⟩ = some (.string a0_2) ∧ w'.cell? ⟨gb284, 0, none⟩ = some (.int .i64 a1_0) ∧ w'.cell? ⟨gb284, 1, none⟩ = some (.int .i64 a1_1) ∧ w'.cell? ⟨gb284, 2, none⟩ = some (.string a1_2)) (ds := []) #[false, false, false, false, false, false, false, false, false, false, false, false, false, false, false, false, false, false, false, false, false, false, false, false, false, false, false, false, false, false, false, false, false, false, false, false, false, false, false] (by kernel_rfl) rfl rfl ⟨(blk_cell BK283.out 0).trans rfl, (blk_cell BK283.out 1).trans rfl, (blk_cell BK283.out 2).trans rfl, (blk_cell BK284.out 0).trans rfl, (blk_cell BK284.out 1).trans rfl, (blk_cell BK284.out 2).trans rfl⟩ (fun hHeld => ?_); refine with_tabW raddlelaw03_ValueExact.tab5 raddlelaw03_ValueExact.bits5 (fun HT_ HW_ => ?_)
        generalize w28.drew = w58 at HO287 HO292 BK283 BK284 HB hHeld ⊢
        refine Steps.pI_ 3 (some 27) (Steps.Bs 39 8) (any_of HT_.out (by kernel_rfl)) (h := ?_)
        refine Steps.tI_ 0 (some 24) (Steps.Bs 39 9) (take_ofW HT_.out HW_.out (by kernel_rfl)) hHeld (h := ?_)
        refine one_ (i := 1) (N := some 25) (Steps.Bs 39 11) rfl rfl (one_of HT_.out (by kernel_rfl)) (by decide) (fun K hK => ?_)
        refine goes_ Try.func12 (by kernel_rfl) rfl #[.agg #[.int .i64 a0_0, .int .i64 a0_1, .string a0_2]] (by rfl) rfl rfl (by (try simp only [List.map_toArray, List.map_cons, List.map_nil]); first | done | rfl | (simp only [List.length_drop, List.length_take]; rfl) | (go_simp; done) | (simp; done)) ?_
        with_reducible refine (value_Check.calls a0_0 a0_1 a0_2 t294 _ A29.out).mono ?_
        rintro e w59 ⟨rfl, hb⟩
        refine ⟨_, rfl, ?_⟩
        have n0_ := Aside0.mk (Kd.R_below (by (with_reducible repeat (first | apply Kd.R_alloc | apply Kd.R_drewN | apply Kd.R_drew)); exact HO287.out) hb)
        have n1_ := Aside0.mk (Kd.R_below (by (with_reducible repeat (first | apply Kd.R_alloc | apply Kd.R_drewN | apply Kd.R_drew)); exact HO292.out) hb)
        have n2_ := Aside0.mk (blk_below (g := gb283) (o := .cells #[.int .i64 a0_0, .int .i64 a0_1, .string a0_2] 23 (0, 0)) (by (with_reducible repeat (first | refine blk_drewN ?_ _ | refine blk_drew ?_ | refine blk_alloc ?_ _)); exact BK283.out) hb)
        have n3_ := Aside0.mk (blk_below (g := gb284) (o := .cells #[.int .i64 a1_0, .int .i64 a1_1, .string a1_2] 23 (0, 0)) (by (with_reducible repeat (first | refine blk_drewN ?_ _ | refine blk_drew ?_ | refine blk_alloc ?_ _)); exact BK284.out) hb)
        have n4_ := Aside0.mk (below_step (by repeat (first | (with_reducible first | exact HB.out | apply below_alloc | apply pw_below_drewN | apply below_drew1 | refine below_set ?_ GE283.out | refine below_set ?_ GE284.out) | exact HB.out)) hb)
        clear HO287
        clear HO292
        clear BK283
        clear BK284
        clear HB
        have HO287 := n0_
        have HO292 := n1_
        have BK283 := n2_
        have BK284 := n3_
        have HB := n4_
        clear n0_ n1_ n2_ n3_ n4_
        (try clear hb)
        (try clear hb2)
        (try clear hk)
        (try clear hi)
        refine hK.out _ _ ⟨(blk_cell BK283.out 0).trans rfl, (blk_cell BK283.out 1).trans rfl, (blk_cell BK283.out 2).trans rfl, (blk_cell BK284.out 0).trans rfl, (blk_cell BK284.out 1).trans rfl, (blk_cell BK284.out 2).trans rfl⟩ (fun hHeld => ?_)
        clear hK K
        refine norm_ (a' := ?_) ?_ ?_
        rotate_left
        ·
         show Act.put _ (some 25) _ = _
         simp only [Act.put, List.setIfInBounds_toArray, List.set_cons_zero, List.set_cons_succ, i64_w, i32_w]
         rfl
        refine Steps.pI_ 2 (some 26) (Steps.Bs 39 15) (any_of HT_.out (by kernel_rfl)) (h := ?_)
        refine Steps.pI_ 4 (some 28) (Steps.Bs 39 31) (any_of HT_.out (by kernel_rfl)) (h := ?_)
        refine Steps.pI_ 5 (some 29) (Steps.Bs 39 63) (any_of HT_.out (by kernel_rfl)) (h := ?_)
        refine Steps.pI_ 6 (some 30) (Steps.Bs 39 127) (any_of HT_.out (by kernel_rfl)) (h := ?_)
        refine Steps.pI_ 7 (some 31) (Steps.Bs 39 255) (any_of HT_.out (by kernel_rfl)) (h := ?_)
        refine Steps.pI_ 8 (some 32) (Steps.Bs 39 511) (any_of HT_.out (by kernel_rfl)) (h := ?_)
        refine Steps.tI_ 9 (some 33) (Steps.Bs 39 1023) (take_ofW HT_.out HW_.out (by kernel_rfl)) hHeld (h := ?_)
        refine one_ (i := 10) (N := some 34) (Steps.Bs 39 2047) rfl rfl (one_of HT_.out (by kernel_rfl)) (by decide) (fun K hK => ?_)
        refine goes_ Try.func12 (by kernel_rfl) rfl #[.agg #[.int .i64 a0_0, .int .i64 a0_1, .string a0_2]] (by rfl) rfl rfl (by (try simp only [List.map_toArray, List.map_cons, List.map_nil]); first | done | rfl | (simp only [List.length_drop, List.length_take]; rfl) | (go_simp; done) | (simp; done)) ?_
        with_reducible refine (value_Check.calls a0_0 a0_1 a0_2 t301 _ A48.out).mono ?_
        rintro e w60 ⟨rfl, hb⟩
        refine ⟨_, rfl, ?_⟩
        have n0_ := Aside0.mk (Kd.R_below (by (with_reducible repeat (first | apply Kd.R_alloc | apply Kd.R_drewN | apply Kd.R_drew)); exact HO287.out) hb)
        have n1_ := Aside0.mk (Kd.R_below (by (with_reducible repeat (first | apply Kd.R_alloc | apply Kd.R_drewN | apply Kd.R_drew)); exact HO292.out) hb)
        have n2_ := Aside0.mk (blk_below (g := gb283) (o := .cells #[.int .i64 a0_0, .int .i64 a0_1, .string a0_2] 23 (0, 0)) (by (with_reducible repeat (first | refine blk_drewN ?_ _ | refine blk_drew ?_ | refine blk_alloc ?_ _)); exact BK283.out) hb)
        have n3_ := Aside0.mk (blk_below (g := gb284) (o := .cells #[.int .i64 a1_0, .int .i64 a1_1, .string a1_2] 23 (0, 0)) (by (with_reducible repeat (first | refine blk_drewN ?_ _ | refine blk_drew ?_ | refine blk_alloc ?_ _)); exact BK284.out) hb)
        have n4_ := Aside0.mk (below_step (by repeat (first | (with_reducible first | exact HB.out | apply below_alloc | apply pw_below_drewN | apply below_drew1 | refine below_set ?_ GE283.out | refine below_set ?_ GE284.out) | exact HB.out)) hb)
        clear HO287
        clear HO292
        clear BK283
        clear BK284
        clear HB
        have HO287 := n0_
        have HO292 := n1_
        have BK283 := n2_
        have BK284 := n3_
        have HB := n4_
        clear n0_ n1_ n2_ n3_ n4_
        (try clear hb)
        (try clear hb2)
        (try clear hk)
        (try clear hi)
        refine hK.out _ _ ⟨(blk_cell BK283.out 0).trans rfl, (blk_cell BK283.out 1).trans rfl, (blk_cell BK283.out 2).trans rfl, (blk_cell BK284.out 0).trans rfl, (blk_cell BK284.out 1).trans rfl, (blk_cell BK284.out 2).trans rfl⟩ (fun hHeld => ?_)
        clear hK K
        refine norm_ (a' := ?_) ?_ ?_
        rotate_left
        ·
         show Act.put _ (some 34) _ = _
         simp only [Act.put, List.setIfInBounds_toArray, List.set_cons_zero, List.set_cons_succ, i64_w, i32_w]
         rfl
        refine Steps.pI_ 11 (some 35) (Steps.Bs 39 4095) (any_of HT_.out (by kernel_rfl)) (h := ?_)
        refine Steps.pI_ 12 (some 36) (Steps.Bs 39 8191) (any_of HT_.out (by kernel_rfl)) (h := ?_)
        refine Steps.pI_ 13 (some 37) (Steps.Bs 39 16383) (any_of HT_.out (by kernel_rfl)) (h := ?_)
        refine Steps.pI_ 14 (some 38) (Steps.Bs 39 32767) (any_of HT_.out (by kernel_rfl)) (h := ?_)
        refine Steps.tI_ 15 (some 39) (Steps.Bs 39 65535) (take_ofW HT_.out HW_.out (by kernel_rfl)) hHeld (h := ?_)
        refine Steps.tI_ 16 (some 40) (Steps.Bs 39 131071) (take_ofW HT_.out HW_.out (by kernel_rfl)) hHeld (h := ?_)
        refine Steps.tI_ 18 (some 42) (Steps.Bs 39 393215) (take_ofW HT_.out HW_.out (by kernel_rfl)) hHeld (h := ?_)
        refine Steps.tI_ 19 (some 43) (Steps.Bs 39 917503) (take_ofW HT_.out HW_.out (by kernel_rfl)) hHeld (h := ?_)
        refine one_ (i := 17) (N := some 41) (Steps.Bs 39 1048575) rfl rfl (one_of HT_.out (by kernel_rfl)) (by decide) (fun K hK => ?_)
        refine goes_ Try.func13 (by kernel_rfl) rfl #[.agg #[.int .i64 a0_0, .int .i64 a0_1, .string a0_2], .agg #[.int .i64 a1_0, .int .i64 a1_1, .string a1_2]] (by rfl) rfl rfl (by (try simp only [List.map_toArray, List.map_cons, List.map_nil]); first | done | rfl | (simp only [List.length_drop, List.length_take]; rfl) | (go_simp; done) | (simp; done)) ?_
        with_reducible refine (value_Compare.calls k a0_0 a0_1 a0_2 a1_0 a1_1 a1_2 t302 _ A50.out).mono ?_
        rintro e w61 ⟨rfl, hb⟩
        refine ⟨_, rfl, ?_⟩
        have n0_ := Aside0.mk (Kd.R_below (by (with_reducible repeat (first | apply Kd.R_alloc | apply Kd.R_drewN | apply Kd.R_drew)); exact HO287.out) hb)
        have n1_ := Aside0.mk (Kd.R_below (by (with_reducible repeat (first | apply Kd.R_alloc | apply Kd.R_drewN | apply Kd.R_drew)); exact HO292.out) hb)
        have n2_ := Aside0.mk (blk_below (g := gb283) (o := .cells #[.int .i64 a0_0, .int .i64 a0_1, .string a0_2] 23 (0, 0)) (by (with_reducible repeat (first | refine blk_drewN ?_ _ | refine blk_drew ?_ | refine blk_alloc ?_ _)); exact BK283.out) hb)
        have n3_ := Aside0.mk (blk_below (g := gb284) (o := .cells #[.int .i64 a1_0, .int .i64 a1_1, .string a1_2] 23 (0, 0)) (by (with_reducible repeat (first | refine blk_drewN ?_ _ | refine blk_drew ?_ | refine blk_alloc ?_ _)); exact BK284.out) hb)
        have n4_ := Aside0.mk (below_step (by repeat (first | (with_reducible first | exact HB.out | apply below_alloc | apply pw_below_drewN | apply below_drew1 | refine below_set ?_ GE283.out | refine below_set ?_ GE284.out) | exact HB.out)) hb)
        clear HO287
        clear HO292
        clear BK283
        clear BK284
        clear HB
        have HO287 := n0_
        have HO292 := n1_
        have BK283 := n2_
        have BK284 := n3_
        have HB := n4_
        clear n0_ n1_ n2_ n3_ n4_
        (try clear hb)
        (try clear hb2)
        (try clear hk)
        (try clear hi)
        refine hK.out _ _ ⟨(blk_cell BK283.out 0).trans rfl, (blk_cell BK283.out 1).trans rfl, (blk_cell BK283.out 2).trans rfl, (blk_cell BK284.out 0).trans rfl, (blk_cell BK284.out 1).trans rfl, (blk_cell BK284.out 2).trans rfl⟩ (fun hHeld => ?_)
        clear hK K
        refine norm_ (a' := ?_) ?_ ?_
        rotate_left
        ·
         show Act.put _ (some 41) _ = _
         simp only [Act.put, List.setIfInBounds_toArray, List.set_cons_zero, List.set_cons_succ, i64_w, i32_w]
         rfl
        refine one_ (i := 20) (N := some 44) (Steps.Bs 39 2097151) rfl rfl (one_of HT_.out (by kernel_rfl)) (by decide) (fun K hK => ?_)
        refine goes_ Try.func14 (by kernel_rfl) rfl #[.agg #[.int .i64 a0_0, .int .i64 a0_1, .string a0_2], .agg #[.int .i64 a1_0, .int .i64 a1_1, .string a1_2]] (by rfl) rfl rfl (by (try simp only [List.map_toArray, List.map_cons, List.map_nil]); first | done | rfl | (simp only [List.length_drop, List.length_take]; rfl) | (go_simp; done) | (simp; done)) ?_
        with_reducible refine (raddleref01_Compare.calls a0_0 a0_1 a0_2 a1_0 a1_1 a1_2 t303 _ A51.out).mono ?_
        rintro e w62 ⟨rfl, hb⟩
        refine ⟨_, rfl, ?_⟩
        have n0_ := Aside0.mk (Kd.R_below (by (with_reducible repeat (first | apply Kd.R_alloc | apply Kd.R_drewN | apply Kd.R_drew)); exact HO287.out) hb)
        have n1_ := Aside0.mk (Kd.R_below (by (with_reducible repeat (first | apply Kd.R_alloc | apply Kd.R_drewN | apply Kd.R_drew)); exact HO292.out) hb)
        have n2_ := Aside0.mk (blk_below (g := gb283) (o := .cells #[.int .i64 a0_0, .int .i64 a0_1, .string a0_2] 23 (0, 0)) (by (with_reducible repeat (first | refine blk_drewN ?_ _ | refine blk_drew ?_ | refine blk_alloc ?_ _)); exact BK283.out) hb)
        have n3_ := Aside0.mk (blk_below (g := gb284) (o := .cells #[.int .i64 a1_0, .int .i64 a1_1, .string a1_2] 23 (0, 0)) (by (with_reducible repeat (first | refine blk_drewN ?_ _ | refine blk_drew ?_ | refine blk_alloc ?_ _)); exact BK284.out) hb)
        have n4_ := Aside0.mk (below_step (by repeat (first | (with_reducible first | exact HB.out | apply below_alloc | apply pw_below_drewN | apply below_drew1 | refine below_set ?_ GE283.out | refine below_set ?_ GE284.out) | exact HB.out)) hb)
        clear HO287
        clear HO292
        clear BK283
        clear BK284
        clear HB
        have HO287 := n0_
        have HO292 := n1_
        have BK283 := n2_
        have BK284 := n3_
        have HB := n4_
        clear n0_ n1_ n2_ n3_ n4_
        (try clear hb)
        (try clear hb2)
        (try clear hk)
        (try clear hi)
        refine hK.out _ _ ⟨(blk_cell BK283.out 0).trans rfl, (blk_cell BK283.out 1).trans rfl, (blk_cell BK283.out 2).trans rfl, (blk_cell BK284.out 0).trans rfl, (blk_cell BK284.out 1).trans rfl, (blk_cell BK284.out 2).trans rfl⟩ (fun hHeld => ?_)
        clear hK K
        refine norm_ (a' := ?_) ?_ ?_
        rotate_left
        ·
         show Act.put _ (some 44) _ = _
         simp only [Act.put, List.setIfInBounds_toArray, List.set_cons_zero, List.set_cons_succ, i64_w, i32_w]
         rfl
        refine Steps.pI_ 21 (some 45) (Steps.Bs 39 4194303) (any_of HT_.out (by kernel_rfl)) (h := ?_)
        refine Steps.pI_ 22 (some 46) (Steps.Bs 39 8388607) (any_of HT_.out (by kernel_rfl)) (h := ?_)
        refine Steps.pI_ 23 (some 47) (Steps.Bs 39 16777215) (any_of HT_.out (by kernel_rfl)) (h := ?_)
        refine Steps.pI_ 25 (some 49) (Steps.Bs 39 50331647) (any_of HT_.out (by kernel_rfl)) (h := ?_)
        refine Steps.pI_ 28 (some 52) (Steps.Bs 39 318767103) (any_of HT_.out (by kernel_rfl)) (h := ?_)
        refine Steps.tI_ 24 (some 48) (Steps.Bs 39 335544319) (take_ofW HT_.out HW_.out (by kernel_rfl)) hHeld (h := ?_)
        refine Steps.tI_ 27 (some 51) (Steps.Bs 39 469762047) (take_ofW HT_.out HW_.out (by kernel_rfl)) hHeld (h := ?_)
        refine one_ (i := 26) (N := some 50) (Steps.Bs 39 536870911) rfl rfl (one_of HT_.out (by kernel_rfl)) (by decide) (fun K hK => ?_)
        refine goes_ Try.func15 (by kernel_rfl) rfl #[.agg #[.int .i64 a0_0, .int .i64 a0_1, .string a0_2], .int .i64 a2] (by rfl) rfl rfl (by (try simp only [List.map_toArray, List.map_cons, List.map_nil]); first | done | rfl | (simp only [List.length_drop, List.length_take]; rfl) | (go_simp; done) | (simp; done)) ?_
        with_reducible refine (value_Fits.calls a0_0 a0_1 a0_2 a2 t304 _ A53.out).mono ?_
        rintro e w63 ⟨rfl, hb⟩
        refine ⟨_, rfl, ?_⟩
        have n0_ := Aside0.mk (Kd.R_below (by (with_reducible repeat (first | apply Kd.R_alloc | apply Kd.R_drewN | apply Kd.R_drew)); exact HO287.out) hb)
        have n1_ := Aside0.mk (Kd.R_below (by (with_reducible repeat (first | apply Kd.R_alloc | apply Kd.R_drewN | apply Kd.R_drew)); exact HO292.out) hb)
        have n2_ := Aside0.mk (blk_below (g := gb283) (o := .cells #[.int .i64 a0_0, .int .i64 a0_1, .string a0_2] 23 (0, 0)) (by (with_reducible repeat (first | refine blk_drewN ?_ _ | refine blk_drew ?_ | refine blk_alloc ?_ _)); exact BK283.out) hb)
        have n3_ := Aside0.mk (blk_below (g := gb284) (o := .cells #[.int .i64 a1_0, .int .i64 a1_1, .string a1_2] 23 (0, 0)) (by (with_reducible repeat (first | refine blk_drewN ?_ _ | refine blk_drew ?_ | refine blk_alloc ?_ _)); exact BK284.out) hb)
        have n4_ := Aside0.mk (below_step (by repeat (first | (with_reducible first | exact HB.out | apply below_alloc | apply pw_below_drewN | apply below_drew1 | refine below_set ?_ GE283.out | refine below_set ?_ GE284.out) | exact HB.out)) hb)
        clear HO287
        clear HO292
        clear BK283
        clear BK284
        clear HB
        have HO287 := n0_
        have HO292 := n1_
        have BK283 := n2_
        have BK284 := n3_
        have HB := n4_
        clear n0_ n1_ n2_ n3_ n4_
        (try clear hb)
        (try clear hb2)
        (try clear hk)
        (try clear hi)
        refine hK.out _ _ ⟨(blk_cell BK283.out 0).trans rfl, (blk_cell BK283.out 1).trans rfl, (blk_cell BK283.out 2).trans rfl, (blk_cell BK284.out 0).trans rfl, (blk_cell BK284.out 1).trans rfl, (blk_cell BK284.out 2).trans rfl⟩ (fun hHeld => ?_)
        clear hK K
        refine norm_ (a' := ?_) ?_ ?_
        rotate_left
        ·
         show Act.put _ (some 50) _ = _
         simp only [Act.put, List.setIfInBounds_toArray, List.set_cons_zero, List.set_cons_succ, i64_w, i32_w]
         rfl
        refine one_ (i := 29) (N := some 53) (Steps.Bs 39 1073741823) rfl rfl (one_of HT_.out (by kernel_rfl)) (by decide) (fun K hK => ?_)
        refine goes_ Try.func16 (by kernel_rfl) rfl #[.agg #[.int .i64 a0_0, .int .i64 a0_1, .string a0_2], .int .i64 a2] (by rfl) rfl rfl (by (try simp only [List.map_toArray, List.map_cons, List.map_nil]); first | done | rfl | (simp only [List.length_drop, List.length_take]; rfl) | (go_simp; done) | (simp; done)) ?_
        with_reducible refine (raddleref01_Fits.calls a0_0 a0_1 a0_2 a2 t305 _ A54.out).mono ?_
        rintro e w64 ⟨rfl, hb⟩
        refine ⟨_, rfl, ?_⟩
        have n0_ := Aside0.mk (Kd.R_below (by (with_reducible repeat (first | apply Kd.R_alloc | apply Kd.R_drewN | apply Kd.R_drew)); exact HO287.out) hb)
        have n1_ := Aside0.mk (Kd.R_below (by (with_reducible repeat (first | apply Kd.R_alloc | apply Kd.R_drewN | apply Kd.R_drew)); exact HO292.out) hb)
        have n2_ := Aside0.mk (blk_below (g := gb283) (o := .cells #[.int .i64 a0_0, .int .i64 a0_1, .string a0_2] 23 (0, 0)) (by (with_reducible repeat (first | refine blk_drewN ?_ _ | refine blk_drew ?_ | refine blk_alloc ?_ _)); exact BK283.out) hb)
        have n3_ := Aside0.mk (blk_below (g := gb284) (o := .cells #[.int .i64 a1_0, .int .i64 a1_1, .string a1_2] 23 (0, 0)) (by (with_reducible repeat (first | refine blk_drewN ?_ _ | refine blk_drew ?_ | refine blk_alloc ?_ _)); exact BK284.out) hb)
        have n4_ := Aside0.mk (below_step (by repeat (first | (with_reducible first | exact HB.out | apply below_alloc | apply pw_below_drewN | apply below_drew1 | refine below_set ?_ GE283.out | refine below_set ?_ GE284.out) | exact HB.out)) hb)
        clear HO287
        clear HO292
        clear BK283
        clear BK284
        clear HB
        have HO287 := n0_
        have HO292 := n1_
        have BK283 := n2_
        have BK284 := n3_
        have HB := n4_
        clear n0_ n1_ n2_ n3_ n4_
        (try clear hb)
        (try clear hb2)
        (try clear hk)
        (try clear hi)
        refine hK.out _ _ ⟨(blk_cell BK283.out 0).trans rfl, (blk_cell BK283.out 1).trans rfl, (blk_cell BK283.out 2).trans rfl, (blk_cell BK284.out 0).trans rfl, (blk_cell BK284.out 1).trans rfl, (blk_cell BK284.out 2).trans rfl⟩ (fun hHeld => ?_)
        clear hK K
        refine norm_ (a' := ?_) ?_ ?_
        rotate_left
        ·
         show Act.put _ (some 53) _ = _
         simp only [Act.put, List.setIfInBounds_toArray, List.set_cons_zero, List.set_cons_succ, i64_w, i32_w]
         rfl
        refine Steps.pI_ 30 (some 54) (Steps.Bs 39 2147483647) (any_of HT_.out (by kernel_rfl)) (h := ?_)
        refine Steps.pI_ 31 (some 55) (Steps.Bs 39 4294967295) (any_of HT_.out (by kernel_rfl)) (h := ?_)
        refine Steps.pI_ 32 (some 56) (Steps.Bs 39 8589934591) (any_of HT_.out (by kernel_rfl)) (h := ?_)
        refine Steps.tI_ 33 (some 57) (Steps.Bs 39 17179869183) (take_ofW HT_.out HW_.out (by kernel_rfl)) hHeld (h := ?_)
        refine Steps.tI_ 35 (some 59) (Steps.Bs 39 51539607551) (take_ofW HT_.out HW_.out (by kernel_rfl)) hHeld (h := ?_)
        refine one_ (i := 34) (N := some 58) (Steps.Bs 39 68719476735) rfl rfl (one_of HT_.out (by kernel_rfl)) (by decide) (fun K hK => ?_)
        refine goes_ Try.func17 (by kernel_rfl) rfl #[.agg #[.int .i64 a0_0, .int .i64 a0_1, .string a0_2]] (by rfl) rfl rfl (by (try simp only [List.map_toArray, List.map_cons, List.map_nil]); first | done | rfl | (simp only [List.length_drop, List.length_take]; rfl) | (go_simp; done) | (simp; done)) ?_
        with_reducible refine (value_Small.calls a0_0 a0_1 a0_2 t306 _ A56.out).mono ?_
        rintro e w65 ⟨rfl, hb⟩
        refine ⟨_, rfl, ?_⟩
        have n0_ := Aside0.mk (Kd.R_below (by (with_reducible repeat (first | apply Kd.R_alloc | apply Kd.R_drewN | apply Kd.R_drew)); exact HO287.out) hb)
        have n1_ := Aside0.mk (Kd.R_below (by (with_reducible repeat (first | apply Kd.R_alloc | apply Kd.R_drewN | apply Kd.R_drew)); exact HO292.out) hb)
        have n2_ := Aside0.mk (blk_below (g := gb283) (o := .cells #[.int .i64 a0_0, .int .i64 a0_1, .string a0_2] 23 (0, 0)) (by (with_reducible repeat (first | refine blk_drewN ?_ _ | refine blk_drew ?_ | refine blk_alloc ?_ _)); exact BK283.out) hb)
        have n3_ := Aside0.mk (blk_below (g := gb284) (o := .cells #[.int .i64 a1_0, .int .i64 a1_1, .string a1_2] 23 (0, 0)) (by (with_reducible repeat (first | refine blk_drewN ?_ _ | refine blk_drew ?_ | refine blk_alloc ?_ _)); exact BK284.out) hb)
        have n4_ := Aside0.mk (below_step (by repeat (first | (with_reducible first | exact HB.out | apply below_alloc | apply pw_below_drewN | apply below_drew1 | refine below_set ?_ GE283.out | refine below_set ?_ GE284.out) | exact HB.out)) hb)
        clear HO287
        clear HO292
        clear BK283
        clear BK284
        clear HB
        have HO287 := n0_
        have HO292 := n1_
        have BK283 := n2_
        have BK284 := n3_
        have HB := n4_
        clear n0_ n1_ n2_ n3_ n4_
        (try clear hb)
        (try clear hb2)
        (try clear hk)
        (try clear hi)
        refine hK.out _ _ ⟨(blk_cell BK283.out 0).trans rfl, (blk_cell BK283.out 1).trans rfl, (blk_cell BK283.out 2).trans rfl, (blk_cell BK284.out 0).trans rfl, (blk_cell BK284.out 1).trans rfl, (blk_cell BK284.out 2).trans rfl⟩ (fun hHeld => ?_)
        clear hK K
        refine norm_ (a' := ?_) ?_ ?_
        rotate_left
        ·
         show Act.put _ (some 58) _ = _
         simp only [Act.put, List.setIfInBounds_toArray, List.set_cons_zero, List.set_cons_succ, i64_w, i32_w]
         rfl
        refine one_ (i := 36) (N := some 60) (Steps.Bs 39 137438953471) rfl rfl (one_of HT_.out (by kernel_rfl)) (by decide) (fun K hK => ?_)
        refine goes_ Try.func18 (by kernel_rfl) rfl #[.agg #[.int .i64 a0_0, .int .i64 a0_1, .string a0_2]] (by rfl) rfl rfl (by (try simp only [List.map_toArray, List.map_cons, List.map_nil]); first | done | rfl | (simp only [List.length_drop, List.length_take]; rfl) | (go_simp; done) | (simp; done)) ?_
        with_reducible refine (raddleref01_Small.calls a0_0 a0_1 a0_2 t307 _ A57.out).mono ?_
        rintro e w66 ⟨rfl, hb⟩
        refine ⟨_, rfl, ?_⟩
        have n0_ := Aside0.mk (Kd.R_below (by (with_reducible repeat (first | apply Kd.R_alloc | apply Kd.R_drewN | apply Kd.R_drew)); exact HO287.out) hb)
        have n1_ := Aside0.mk (Kd.R_below (by (with_reducible repeat (first | apply Kd.R_alloc | apply Kd.R_drewN | apply Kd.R_drew)); exact HO292.out) hb)
        have n2_ := Aside0.mk (blk_below (g := gb283) (o := .cells #[.int .i64 a0_0, .int .i64 a0_1, .string a0_2] 23 (0, 0)) (by (with_reducible repeat (first | refine blk_drewN ?_ _ | refine blk_drew ?_ | refine blk_alloc ?_ _)); exact BK283.out) hb)
        have n3_ := Aside0.mk (blk_below (g := gb284) (o := .cells #[.int .i64 a1_0, .int .i64 a1_1, .string a1_2] 23 (0, 0)) (by (with_reducible repeat (first | refine blk_drewN ?_ _ | refine blk_drew ?_ | refine blk_alloc ?_ _)); exact BK284.out) hb)
        have n4_ := Aside0.mk (below_step (by repeat (first | (with_reducible first | exact HB.out | apply below_alloc | apply pw_below_drewN | apply below_drew1 | refine below_set ?_ GE283.out | refine below_set ?_ GE284.out) | exact HB.out)) hb)
        clear HO287
        clear HO292
        clear BK283
        clear BK284
        clear HB
        have HO287 := n0_
        have HO292 := n1_
        have BK283 := n2_
        have BK284 := n3_
        have HB := n4_
        clear n0_ n1_ n2_ n3_ n4_
        (try clear hb)
        (try clear hb2)
        (try clear hk)
        (try clear hi)
        refine hK.out _ _ ⟨(blk_cell BK283.out 0).trans rfl, (blk_cell BK283.out 1).trans rfl, (blk_cell BK283.out 2).trans rfl, (blk_cell BK284.out 0).trans rfl, (blk_cell BK284.out 1).trans rfl, (blk_cell BK284.out 2).trans rfl⟩ (fun hHeld => ?_)
        clear hK K
        refine norm_ (a' := ?_) ?_ ?_
        rotate_left
        ·
         show Act.put _ (some 60) _ = _
         simp only [Act.put, List.setIfInBounds_toArray, List.set_cons_zero, List.set_cons_succ, i64_w, i32_w]
         rfl
        refine Steps.pI_ 37 (some 61) (Steps.Bs 39 274877906943) (any_of HT_.out (by kernel_rfl)) (h := ?_)
        refine Steps.pI_ 38 (some 62) (Steps.Bs 39 549755813887) (any_of HT_.out (by kernel_rfl)) (h := ?_)
        refine done_ (done_of HT_.out (by kernel_rfl)) ?_
        try go_wp2
        go_meet
        case rel => exact ⟨_, ((t306 != t307)), (by first | rfl | (simp; done) | (simp [*]; done)), H', ⟨by first | omega | exact Nat.le_refl _⟩, ⟨by (with_reducible repeat (first | apply Kd.R_alloc | apply Kd.R_drewN | apply Kd.R_drew)); exact HO292.out⟩, ⟨by (with_reducible repeat (first | refine blk_drewN ?_ _ | refine blk_drew ?_ | refine blk_alloc ?_ _)); exact BK283.out⟩, ⟨by (with_reducible repeat (first | refine blk_drewN ?_ _ | refine blk_drew ?_ | refine blk_alloc ?_ _)); exact BK284.out⟩, ⟨by repeat (first | (with_reducible first | exact HB.out | apply below_alloc | apply pw_below_drewN | apply below_drew1 | refine below_set ?_ GE283.out | refine below_set ?_ GE284.out) | exact HB.out)⟩⟩
      ·
       rw [if_neg c52] at H
       have c52b0 : (t302 == t303) = false := beq_eq_false_iff_ne.mpr c52
       have c52b1 : (t302 != t303) = true := bne_iff_ne.mpr c52
       exact absurd H (by rw [hrt]; cases k <;> simp [raddlelaw03_ValueExact.j0])
     ·
      rw [if_neg c49] at H
      have c49b0 : (t301 == 1) = false := beq_eq_false_iff_ne.mpr c49
      have c49b1 : (t301 != 1) = true := bne_iff_ne.mpr c49
      exact absurd H (by rw [hrt]; cases k <;> simp [raddlelaw03_ValueExact.j0])
  case rest => as_aux_lemma =>
   clear HC16
   try clear c1
   try clear p2
   try clear c4
   try clear c5
   try clear c12
   try clear c13
   try clear c14
   try clear c15
   try clear c16
   try clear c17
   try clear c18
   try clear c49
   try clear c49b0
   try clear c49b1
   try clear c52
   try clear c52b0
   try clear c52b1
   try clear c55
   try clear c55b0
   try clear c55b1
   try clear c55b2
   obtain ⟨kq, x62_15, rfl, HA, HJ15, HO_8, BK283, BK284, HB⟩ := hcut
   cases kq with
   | zero => exact absurd HA.out (by simp [raddlelaw03_ValueExact.j0])
   | succ kj15 =>
    have H := HA.out
    clear HA
    simp only [raddlelaw03_ValueExact.j0] at H
    by_cases c67 : x62_15 = true
    ·
     subst c67
     have H1 : (some false) = some r := by rw [if_pos rfl] at H; exact H
     clear H
     have H := H1
     clear H1
     exact absurd H (by rw [hrt]; simp)
    ·
     replace c67 := Bool.eq_false_iff.mpr c67
     subst c67
     have H1 : (if t289 = true then ((value_Read.f kj15 t290 0).bind fun bt309 => (if t293 = 0 then ((raddleref01_ValueBytes.f kj15 a0_0 a0_1 a0_2).bind fun t315 => ((raddlekeep_Bytes.f kj15 t290 t315).bind fun t318 => (if t318 = true then (if bt309.2.2.2.2 = 0 then (if bt309.2.2.2.1 = (t290.length : Int) then ((raddlekeep_Value.f bt309.1 bt309.2.1 bt309.2.2.1 a0_0 a0_1 a0_2).bind fun t319 => (if t319 = true then ((raddlelaw03_wakes.f kj15).bind fun t320 => (some t320)) else (some false))) else (some false)) else (some false)) else (some false)))) else (some false))) else (if t293 = 1 then (if (t290.length : Int) = 0 then ((raddlelaw03_wakes.f kj15).bind fun t308 => (some t308)) else (some false)) else (some false))) = some r := by rw [if_neg (show ¬ (false = true) by decide)] at H; exact H
     clear H
     have H := H1
     clear H1
     by_cases c68 : t289 = true
     ·
      subst c68
      have H1 : ((value_Read.f kj15 t290 0).bind fun bt309 => (if t293 = 0 then ((raddleref01_ValueBytes.f kj15 a0_0 a0_1 a0_2).bind fun t315 => ((raddlekeep_Bytes.f kj15 t290 t315).bind fun t318 => (if t318 = true then (if bt309.2.2.2.2 = 0 then (if bt309.2.2.2.1 = (t290.length : Int) then ((raddlekeep_Value.f bt309.1 bt309.2.1 bt309.2.2.1 a0_0 a0_1 a0_2).bind fun t319 => (if t319 = true then ((raddlelaw03_wakes.f kj15).bind fun t320 => (some t320)) else (some false))) else (some false)) else (some false)) else (some false)))) else (some false))) = some r := by rw [if_pos rfl] at H; exact H
      clear H
      have H := H1
      clear H1
      replace H := Option.bind_eq_some_iff.mp H
      obtain ⟨⟨t309, t310, t311, t312, t313⟩, A690, H⟩ := H
      replace H : (if t293 = 0 then ((raddleref01_ValueBytes.f kj15 a0_0 a0_1 a0_2).bind fun t315 => ((raddlekeep_Bytes.f kj15 t290 t315).bind fun t318 => (if t318 = true then (if t313 = 0 then (if t312 = (t290.length : Int) then ((raddlekeep_Value.f t309 t310 t311 a0_0 a0_1 a0_2).bind fun t319 => (if t319 = true then ((raddlelaw03_wakes.f kj15).bind fun t320 => (some t320)) else (some false))) else (some false)) else (some false)) else (some false)))) else (some false)) = some r := H
      have A69 := Aside0.mk A690
      clear A690
      by_cases c70 : t293 = 0
      ·
       rw [if_pos c70] at H
       have c70b0 : (t293 == 0) = true := beq_iff_eq.mpr c70
       have c70b1 : (t293 != 0) = false := bne_eq_false_iff_eq.mpr c70
       clear c70
       replace H := Option.bind_eq_some_iff.mp H
       obtain ⟨t315, A710, H⟩ := H
       replace H : ((raddlekeep_Bytes.f kj15 t290 t315).bind fun t318 => (if t318 = true then (if t313 = 0 then (if t312 = (t290.length : Int) then ((raddlekeep_Value.f t309 t310 t311 a0_0 a0_1 a0_2).bind fun t319 => (if t319 = true then ((raddlelaw03_wakes.f kj15).bind fun t320 => (some t320)) else (some false))) else (some false)) else (some false)) else (some false))) = some r := H
       have A71 := Aside0.mk A710
       clear A710
       replace H := Option.bind_eq_some_iff.mp H
       obtain ⟨t318, A720, H⟩ := H
       replace H : (if t318 = true then (if t313 = 0 then (if t312 = (t290.length : Int) then ((raddlekeep_Value.f t309 t310 t311 a0_0 a0_1 a0_2).bind fun t319 => (if t319 = true then ((raddlelaw03_wakes.f kj15).bind fun t320 => (some t320)) else (some false))) else (some false)) else (some false)) else (some false)) = some r := H
       have A72 := Aside0.mk A720
       clear A720
       by_cases c73 : t318 = true
       ·
        subst c73
        have H1 : (if t313 = 0 then (if t312 = (t290.length : Int) then ((raddlekeep_Value.f t309 t310 t311 a0_0 a0_1 a0_2).bind fun t319 => (if t319 = true then ((raddlelaw03_wakes.f kj15).bind fun t320 => (some t320)) else (some false))) else (some false)) else (some false)) = some r := by rw [if_pos rfl] at H; exact H
        clear H
        have H := H1
        clear H1
        by_cases c74 : t313 = 0
        ·
         rw [if_pos c74] at H
         have c74b0 : (t313 == 0) = true := beq_iff_eq.mpr c74
         have c74b1 : (t313 != 0) = false := bne_eq_false_iff_eq.mpr c74
         clear c74
         by_cases c75 : t312 = (t290.length : Int)
         ·
          rw [if_pos c75] at H
          have c75b0 : (t312 == (t290.length : Int)) = true := beq_iff_eq.mpr c75
          have c75b1 : (t312 != (t290.length : Int)) = false := bne_eq_false_iff_eq.mpr c75
          clear c75
          replace H := Option.bind_eq_some_iff.mp H
          obtain ⟨t319, A760, H⟩ := H
          replace H : (if t319 = true then ((raddlelaw03_wakes.f kj15).bind fun t320 => (some t320)) else (some false)) = some r := H
          have A76 := Aside0.mk A760
          clear A760
          by_cases c77 : t319 = true
          ·
           subst c77
           have H1 : ((raddlelaw03_wakes.f kj15).bind fun t320 => (some t320)) = some r := by rw [if_pos rfl] at H; exact H
           clear H
           have H := H1
           clear H1
           replace H := Option.bind_eq_some_iff.mp H
           obtain ⟨t320, A780, H⟩ := H
           replace H : (some t320) = some r := H
           have A78 := Aside0.mk A780
           clear A780
           obtain rfl := Option.some.inj H
           obtain ⟨Ao79, co79, eo79⟩ := Kd.R_slice HO_8.out
           subst eo79
           go_wp2_with (first | ((with_reducible refine gate_callee (f := 20) rfl ?_); refine goesL_ (some 77) rfl rfl Try.func20 (by kernel_rfl) rfl #[.slice Ao79 t290.length co79, .int .i64 0] rfl (by (try simp only [List.map_toArray, List.map_cons, List.map_nil]); first | done | rfl | (simp only [List.length_drop, List.length_take]; rfl) | (go_simp; done) | (simp; done)) ?_; (with_reducible refine (value_Read.calls kj15 _ _ t290 0 t309 t310 t311 t312 t313 _ ?side1 ?side2 A69.out).mono ?_); (case side1 => repeat (first | exact (Kd.R_reads' HO_8.out).2.2 | (with_reducible refine Kd.C_alloc ?_ _) | (with_reducible refine Kd.C_drewN ?_ _) | (with_reducible refine Kd.C_drew ?_))); (case side2 => exact (Kd.R_reads' HO_8.out).2.1); rintro e w80 ⟨rfl, hb⟩; refine ⟨_, rfl, ?_⟩; have n0_ := Aside0.mk (Kd.R_below (by (with_reducible repeat (first | apply Kd.R_alloc | apply Kd.R_drewN | apply Kd.R_drew)); exact HO_8.out) hb); have n1_ := Aside0.mk (blk_below (g := gb283) (o := .cells #[.int .i64 a0_0, .int .i64 a0_1, .string a0_2] 23 (0, 0)) (by (with_reducible repeat (first | refine blk_drewN ?_ _ | refine blk_drew ?_ | refine blk_alloc ?_ _)); exact BK283.out) hb); have n2_ := Aside0.mk (blk_below (g := gb284) (o := .cells #[.int .i64 a1_0, .int .i64 a1_1, .string a1_2] 23 (0, 0)) (by (with_reducible repeat (first | refine blk_drewN ?_ _ | refine blk_drew ?_ | refine blk_alloc ?_ _)); exact BK284.out) hb); have n3_ := Aside0.mk (below_step (by repeat (first | (with_reducible first | exact HB.out | apply below_alloc | apply pw_below_drewN | apply below_drew1 | refine below_set ?_ GE283.out | refine below_set ?_ GE284.out) | exact HB.out)) hb); clear HO_8; clear BK283; clear BK284; clear HB; have HO_8 := n0_; have BK283 := n1_; have BK284 := n2_; have HB := n3_; clear n0_ n1_ n2_ n3_; (try clear hb); (try clear hb2); (try clear hk); (try clear hi)) | ((with_reducible refine gate_dst (N := 10) rfl ?_); (try (refine gate_guard (by rfl) ?_; dsimp only)); refine box_event ?hg (N := 10) ?hd (cs := #[.int .i64 0, .int .i64 0, .string (⟨#[]⟩ : ByteArray)]) (t := 23) ?hr ?_; (case hd => rfl); (case hg => rfl); (case hr => first | (go_simp; done) | (go_simp; rfl)); intro gb314 hg w81 hbox hb; have n0_ := Aside0.mk (Kd.R_below (by (with_reducible repeat (first | apply Kd.R_alloc | apply Kd.R_drewN | apply Kd.R_drew)); exact HO_8.out) hb); have n1_ := Aside0.mk (blk_below (g := gb283) (o := .cells #[.int .i64 a0_0, .int .i64 a0_1, .string a0_2] 23 (0, 0)) (by (with_reducible repeat (first | refine blk_drewN ?_ _ | refine blk_drew ?_ | refine blk_alloc ?_ _)); exact BK283.out) hb); have n2_ := Aside0.mk (blk_below (g := gb284) (o := .cells #[.int .i64 a1_0, .int .i64 a1_1, .string a1_2] 23 (0, 0)) (by (with_reducible repeat (first | refine blk_drewN ?_ _ | refine blk_drew ?_ | refine blk_alloc ?_ _)); exact BK284.out) hb); have n3_ := Aside0.mk (below_step (by repeat (first | (with_reducible first | exact HB.out | apply below_alloc | apply pw_below_drewN | apply below_drew1 | refine below_set ?_ GE283.out | refine below_set ?_ GE284.out) | exact HB.out)) hb); have n4_ := Aside0.mk (hbox); have n5_ := Aside0.mk ((by rw [hg]; exact (below_size (by repeat (first | (with_reducible first | exact HB.out | apply below_alloc | apply pw_below_drewN | apply below_drew1 | refine below_set ?_ GE283.out | refine below_set ?_ GE284.out) | exact HB.out))) : w.heap.size ≤ gb314)); have n6_ := Aside0.mk ((by rw [hg]; exact (below_size (by repeat (first | (with_reducible first | exact HB.out | apply below_alloc | apply pw_below_drewN | apply below_drew1 | refine below_set ?_ GE283.out | refine below_set ?_ GE284.out) | exact HB.out))) : w.heap.size ≤ gb314)); have n7_ := Aside0.mk ((by rw [hg]; exact Nat.ne_of_lt (blk_lt (g := gb283) (o := .cells #[.int .i64 a0_0, .int .i64 a0_1, .string a0_2] 23 (0, 0)) (by (with_reducible repeat (first | refine blk_drewN ?_ _ | refine blk_drew ?_ | refine blk_alloc ?_ _)); exact BK283.out)) : gb283 ≠ gb314)); have n8_ := Aside0.mk ((by rw [hg]; exact Nat.ne_of_gt (blk_lt (g := gb283) (o := .cells #[.int .i64 a0_0, .int .i64 a0_1, .string a0_2] 23 (0, 0)) (by (with_reducible repeat (first | refine blk_drewN ?_ _ | refine blk_drew ?_ | refine blk_alloc ?_ _)); exact BK283.out)) : gb314 ≠ gb283)); have n9_ := Aside0.mk ((by rw [hg]; exact Nat.ne_of_lt (blk_lt (g := gb284) (o := .cells #[.int .i64 a1_0, .int .i64 a1_1, .string a1_2] 23 (0, 0)) (by (with_reducible repeat (first | refine blk_drewN ?_ _ | refine blk_drew ?_ | refine blk_alloc ?_ _)); exact BK284.out)) : gb284 ≠ gb314)); have n10_ := Aside0.mk ((by rw [hg]; exact Nat.ne_of_gt (blk_lt (g := gb284) (o := .cells #[.int .i64 a1_0, .int .i64 a1_1, .string a1_2] 23 (0, 0)) (by (with_reducible repeat (first | refine blk_drewN ?_ _ | refine blk_drew ?_ | refine blk_alloc ?_ _)); exact BK284.out)) : gb314 ≠ gb284)); clear HO_8; clear BK283; clear BK284; clear HB; have HO_8 := n0_; have BK283 := n1_; have BK284 := n2_; have HB := n3_; have BK314 := n4_; have GW314 := n5_; have GE314 := n6_; have NB283_314 := n7_; have NB314_283 := n8_; have NB284_314 := n9_; have NB314_284 := n10_; clear n0_ n1_ n2_ n3_ n4_ n5_ n6_ n7_ n8_ n9_ n10_; clear hb hbox hg; have hnb82 := NB314_283.out; have hnc82 := NB283_314.out; have hnb83 := NB314_284.out; have hnc83 := NB284_314.out; have hcz84_0 : w81.cell? ⟨gb314, 0, none⟩ = some (.int .i64 0) := (blk_cell BK314.out 0).trans rfl; have hcz84_1 : w81.cell? ⟨gb314, 1, none⟩ = some (.int .i64 0) := (blk_cell BK314.out 1).trans rfl; have hcz84_2 : w81.cell? ⟨gb314, 2, none⟩ = some (.string (⟨#[]⟩ : ByteArray)) := (blk_cell BK314.out 2).trans rfl; have hfz84_0 := blk_frozen BK314.out 0; have hfz84_1 := blk_frozen BK314.out 1; have hfz84_2 := blk_frozen BK314.out 2; have hnb85 := NB283_284.out; have hnc85 := NB284_283.out; have hcz86_0 : w81.cell? ⟨gb283, 0, none⟩ = some (.int .i64 a0_0) := (blk_cell BK283.out 0).trans rfl; have hcz86_1 : w81.cell? ⟨gb283, 1, none⟩ = some (.int .i64 a0_1) := (blk_cell BK283.out 1).trans rfl; have hcz86_2 : w81.cell? ⟨gb283, 2, none⟩ = some (.string a0_2) := (blk_cell BK283.out 2).trans rfl; have hfz86_0 := blk_frozen BK283.out 0; have hfz86_1 := blk_frozen BK283.out 1; have hfz86_2 := blk_frozen BK283.out 2) | (go_at_call 22; (with_reducible refine (raddleref01_ValueBytes.calls kj15 a0_0 a0_1 a0_2 t315 _ A71.out).mono ?_); rintro e w87 ⟨v316, rfl, ho0, hb⟩; have n0_ := Aside0.mk (Kd.R_elder' (by (with_reducible repeat (first | apply Kd.R_alloc | apply Kd.R_drewN | apply Kd.R_drew)); exact (Kd.R_mono (Kd.R_far (p := ⟨gb314, 2, none⟩) (Kd.R_far (p := ⟨gb314, 1, none⟩) (Kd.R_far (p := ⟨gb314, 0, none⟩) (Kd.R_types HO_8.out BK314.out (by decide)) (fun _ hk => hk.2) (.int .i64 t309)) (fun _ hk => hk.2) (.int .i64 t310)) (fun _ hk => hk.2) (.string t311)) (fun _ h_ => h_.1))) (Kd.R_base ho0) hb); have n1_ := Aside0.mk (Kd.R_lower (Kd.R_new' ho0 (Kd.R_lt (by (with_reducible repeat (first | apply Kd.R_alloc | apply Kd.R_drewN | apply Kd.R_drew)); exact (Kd.R_mono (Kd.R_far (p := ⟨gb314, 2, none⟩) (Kd.R_far (p := ⟨gb314, 1, none⟩) (Kd.R_far (p := ⟨gb314, 0, none⟩) (Kd.R_types HO_8.out BK314.out (by decide)) (fun _ hk => hk.2) (.int .i64 t309)) (fun _ hk => hk.2) (.int .i64 t310)) (fun _ hk => hk.2) (.string t311)) (fun _ h_ => h_.1))))) (below_size (by repeat (first | (with_reducible first | exact HB.out | apply below_alloc | apply pw_below_drewN | apply below_drew1 | refine below_set ?_ GE283.out | refine below_set ?_ GE284.out | refine below_set ?_ GE314.out) | exact HB.out)))); have n2_ := Aside0.mk (blk_below (g := gb283) (o := .cells #[.int .i64 a0_0, .int .i64 a0_1, .string a0_2] 23 (0, 0)) (by (with_reducible repeat (first | refine blk_drewN ?_ _ | refine blk_drew ?_ | refine blk_alloc ?_ _)); refine blk_far ?_ NB283_314.out _; (with_reducible repeat (first | refine blk_drewN ?_ _ | refine blk_drew ?_ | refine blk_alloc ?_ _)); refine blk_far ?_ NB283_314.out _; (with_reducible repeat (first | refine blk_drewN ?_ _ | refine blk_drew ?_ | refine blk_alloc ?_ _)); refine blk_far ?_ NB283_314.out _; (with_reducible repeat (first | refine blk_drewN ?_ _ | refine blk_drew ?_ | refine blk_alloc ?_ _)); exact BK283.out) hb); have n3_ := Aside0.mk (blk_below (g := gb284) (o := .cells #[.int .i64 a1_0, .int .i64 a1_1, .string a1_2] 23 (0, 0)) (by (with_reducible repeat (first | refine blk_drewN ?_ _ | refine blk_drew ?_ | refine blk_alloc ?_ _)); refine blk_far ?_ NB284_314.out _; (with_reducible repeat (first | refine blk_drewN ?_ _ | refine blk_drew ?_ | refine blk_alloc ?_ _)); refine blk_far ?_ NB284_314.out _; (with_reducible repeat (first | refine blk_drewN ?_ _ | refine blk_drew ?_ | refine blk_alloc ?_ _)); refine blk_far ?_ NB284_314.out _; (with_reducible repeat (first | refine blk_drewN ?_ _ | refine blk_drew ?_ | refine blk_alloc ?_ _)); exact BK284.out) hb); have n4_ := Aside0.mk (blk_below (g := gb314) (o := .cells #[.int .i64 t309, .int .i64 t310, .string t311] 23 (0, 0)) (by (with_reducible repeat (first | refine blk_drewN ?_ _ | refine blk_drew ?_ | refine blk_alloc ?_ _)); refine blk_put (cs := #[.int .i64 t309, .int .i64 t310, .string (⟨#[]⟩ : ByteArray)]) ?_ 2 _ rfl; (with_reducible repeat (first | refine blk_drewN ?_ _ | refine blk_drew ?_ | refine blk_alloc ?_ _)); refine blk_put (cs := #[.int .i64 t309, .int .i64 0, .string (⟨#[]⟩ : ByteArray)]) ?_ 1 _ rfl; (with_reducible repeat (first | refine blk_drewN ?_ _ | refine blk_drew ?_ | refine blk_alloc ?_ _)); refine blk_put (cs := #[.int .i64 0, .int .i64 0, .string (⟨#[]⟩ : ByteArray)]) ?_ 0 _ rfl; (with_reducible repeat (first | refine blk_drewN ?_ _ | refine blk_drew ?_ | refine blk_alloc ?_ _)); exact BK314.out) hb); have n5_ := Aside0.mk (below_step (by repeat (first | (with_reducible first | exact HB.out | apply below_alloc | apply pw_below_drewN | apply below_drew1 | refine below_set ?_ GE283.out | refine below_set ?_ GE284.out | refine below_set ?_ GE314.out) | exact HB.out)) hb); clear HO_8; clear BK283; clear BK284; clear BK314; clear HB; have HO_8 := n0_; have HO317 := n1_; have BK283 := n2_; have BK284 := n3_; have BK314 := n4_; have HB := n5_; clear n0_ n1_ n2_ n3_ n4_ n5_; (try clear hb); (try clear hb2); (try clear hk); (try clear hi); (try clear ho0); obtain ⟨Ao88, co88, eo88⟩ := Kd.R_slice HO317.out; subst eo88) | (go_at_call 21; (with_reducible refine (raddlekeep_Bytes.calls kj15 _ _ t290 _ _ t315 true _ ?side1 ?side2 ?side3 ?side4 A72.out).mono ?_); (case side1 => repeat (first | exact (Kd.R_reads' HO_8.out).2.2 | (with_reducible refine Kd.C_alloc ?_ _) | (with_reducible refine Kd.C_drewN ?_ _) | (with_reducible refine Kd.C_drew ?_))); (case side2 => exact (Kd.R_reads' HO_8.out).2.1); (case side3 => repeat (first | exact (Kd.R_reads' HO317.out).2.2 | (with_reducible refine Kd.C_alloc ?_ _) | (with_reducible refine Kd.C_drewN ?_ _) | (with_reducible refine Kd.C_drew ?_))); (case side4 => exact (Kd.R_reads' HO317.out).2.1); rintro e w' ⟨rfl, ⟨nd, rfl⟩⟩; have hcz89_0 : w87.cell? ⟨gb314, 0, none⟩ = some (.int .i64 t309) := (blk_cell BK314.out 0).trans rfl; have hcz89_1 : w87.cell? ⟨gb314, 1, none⟩ = some (.int .i64 t310) := (blk_cell BK314.out 1).trans rfl; have hcz89_2 : w87.cell? ⟨gb314, 2, none⟩ = some (.string t311) := (blk_cell BK314.out 2).trans rfl; have hfz89_0 := blk_frozen BK314.out 0; have hfz89_1 := blk_frozen BK314.out 1; have hfz89_2 := blk_frozen BK314.out 2; have hcz90_0 : w87.cell? ⟨gb283, 0, none⟩ = some (.int .i64 a0_0) := (blk_cell BK283.out 0).trans rfl; have hcz90_1 : w87.cell? ⟨gb283, 1, none⟩ = some (.int .i64 a0_1) := (blk_cell BK283.out 1).trans rfl; have hcz90_2 : w87.cell? ⟨gb283, 2, none⟩ = some (.string a0_2) := (blk_cell BK283.out 2).trans rfl; have hfz90_0 := blk_frozen BK283.out 0; have hfz90_1 := blk_frozen BK283.out 1; have hfz90_2 := blk_frozen BK283.out 2) | (go_at_call 23; (with_reducible refine (raddlekeep_Value.calls t309 t310 t311 a0_0 a0_1 a0_2 true _ A76.out).mono ?_); rintro e w91 ⟨rfl, hb⟩; have n0_ := Aside0.mk (Kd.R_below (by (with_reducible repeat (first | apply Kd.R_alloc | apply Kd.R_drewN | apply Kd.R_drew)); exact HO_8.out) hb); have n1_ := Aside0.mk (Kd.R_below (by (with_reducible repeat (first | apply Kd.R_alloc | apply Kd.R_drewN | apply Kd.R_drew)); exact HO317.out) hb); have n2_ := Aside0.mk (blk_below (g := gb283) (o := .cells #[.int .i64 a0_0, .int .i64 a0_1, .string a0_2] 23 (0, 0)) (by (with_reducible repeat (first | refine blk_drewN ?_ _ | refine blk_drew ?_ | refine blk_alloc ?_ _)); exact BK283.out) hb); have n3_ := Aside0.mk (blk_below (g := gb284) (o := .cells #[.int .i64 a1_0, .int .i64 a1_1, .string a1_2] 23 (0, 0)) (by (with_reducible repeat (first | refine blk_drewN ?_ _ | refine blk_drew ?_ | refine blk_alloc ?_ _)); exact BK284.out) hb); have n4_ := Aside0.mk (blk_below (g := gb314) (o := .cells #[.int .i64 t309, .int .i64 t310, .string t311] 23 (0, 0)) (by (with_reducible repeat (first | refine blk_drewN ?_ _ | refine blk_drew ?_ | refine blk_alloc ?_ _)); exact BK314.out) hb); have n5_ := Aside0.mk (below_step (by repeat (first | (with_reducible first | exact HB.out | apply below_alloc | apply pw_below_drewN | apply below_drew1 | refine below_set ?_ GE283.out | refine below_set ?_ GE284.out | refine below_set ?_ GE314.out) | exact HB.out)) hb); clear HO_8; clear HO317; clear BK283; clear BK284; clear BK314; clear HB; have HO_8 := n0_; have HO317 := n1_; have BK283 := n2_; have BK284 := n3_; have BK314 := n4_; have HB := n5_; clear n0_ n1_ n2_ n3_ n4_ n5_; (try clear hb); (try clear hb2); (try clear hk); (try clear hi)) | (go_at_call 19; (with_reducible refine (raddlelaw03_wakes.calls kj15  t320 _ A78.out).mono ?_); rintro e w92 ⟨rfl, hb⟩; have n0_ := Aside0.mk (Kd.R_below (by (with_reducible repeat (first | apply Kd.R_alloc | apply Kd.R_drewN | apply Kd.R_drew)); exact HO_8.out) hb); have n1_ := Aside0.mk (Kd.R_below (by (with_reducible repeat (first | apply Kd.R_alloc | apply Kd.R_drewN | apply Kd.R_drew)); exact HO317.out) hb); have n2_ := Aside0.mk (blk_below (g := gb283) (o := .cells #[.int .i64 a0_0, .int .i64 a0_1, .string a0_2] 23 (0, 0)) (by (with_reducible repeat (first | refine blk_drewN ?_ _ | refine blk_drew ?_ | refine blk_alloc ?_ _)); exact BK283.out) hb); have n3_ := Aside0.mk (blk_below (g := gb284) (o := .cells #[.int .i64 a1_0, .int .i64 a1_1, .string a1_2] 23 (0, 0)) (by (with_reducible repeat (first | refine blk_drewN ?_ _ | refine blk_drew ?_ | refine blk_alloc ?_ _)); exact BK284.out) hb); have n4_ := Aside0.mk (blk_below (g := gb314) (o := .cells #[.int .i64 t309, .int .i64 t310, .string t311] 23 (0, 0)) (by (with_reducible repeat (first | refine blk_drewN ?_ _ | refine blk_drew ?_ | refine blk_alloc ?_ _)); exact BK314.out) hb); have n5_ := Aside0.mk (below_step (by repeat (first | (with_reducible first | exact HB.out | apply below_alloc | apply pw_below_drewN | apply below_drew1 | refine below_set ?_ GE283.out | refine below_set ?_ GE284.out | refine below_set ?_ GE314.out) | exact HB.out)) hb); clear HO_8; clear HO317; clear BK283; clear BK284; clear BK314; clear HB; have HO_8 := n0_; have HO317 := n1_; have BK283 := n2_; have BK284 := n3_; have BK314 := n4_; have HB := n5_; clear n0_ n1_ n2_ n3_ n4_ n5_; (try clear hb); (try clear hb2); (try clear hk); (try clear hi)))
           go_ret
           exact ⟨by first | rfl | (simp [errW_none, errW_some] <;> rfl) | (simp [*, errW_none, errW_some] <;> rfl), by repeat (first | (with_reducible first | exact HB.out | apply below_alloc | apply pw_below_drewN | apply below_drew1 | refine below_set ?_ GE283.out | refine below_set ?_ GE284.out | refine below_set ?_ GE314.out) | exact HB.out)⟩
          ·
           replace c77 := Bool.eq_false_iff.mpr c77
           subst c77
           have H1 : (some false) = some r := by rw [if_neg (show ¬ (false = true) by decide)] at H; exact H
           clear H
           have H := H1
           clear H1
           exact absurd H (by rw [hrt]; simp)
         ·
          rw [if_neg c75] at H
          have c75b0 : (t312 == (t290.length : Int)) = false := beq_eq_false_iff_ne.mpr c75
          have c75b1 : (t312 != (t290.length : Int)) = true := bne_iff_ne.mpr c75
          exact absurd H (by rw [hrt]; simp)
        ·
         rw [if_neg c74] at H
         have c74b0 : (t313 == 0) = false := beq_eq_false_iff_ne.mpr c74
         have c74b1 : (t313 != 0) = true := bne_iff_ne.mpr c74
         exact absurd H (by rw [hrt]; simp)
       ·
        replace c73 := Bool.eq_false_iff.mpr c73
        subst c73
        have H1 : (some false) = some r := by rw [if_neg (show ¬ (false = true) by decide)] at H; exact H
        clear H
        have H := H1
        clear H1
        exact absurd H (by rw [hrt]; simp)
      ·
       rw [if_neg c70] at H
       have c70b0 : (t293 == 0) = false := beq_eq_false_iff_ne.mpr c70
       have c70b1 : (t293 != 0) = true := bne_iff_ne.mpr c70
       exact absurd H (by rw [hrt]; simp)
     ·
      replace c68 := Bool.eq_false_iff.mpr c68
      subst c68
      have H1 : (if t293 = 1 then (if (t290.length : Int) = 0 then ((raddlelaw03_wakes.f kj15).bind fun t308 => (some t308)) else (some false)) else (some false)) = some r := by rw [if_neg (show ¬ (false = true) by decide)] at H; exact H
      clear H
      have H := H1
      clear H1
      by_cases c93 : t293 = 1
      ·
       rw [if_pos c93] at H
       have c93b0 : (t293 == 1) = true := beq_iff_eq.mpr c93
       have c93b1 : (t293 != 1) = false := bne_eq_false_iff_eq.mpr c93
       clear c93
       by_cases c94 : (t290.length : Int) = 0
       ·
        rw [if_pos c94] at H
        have c94b0 : ((t290.length : Int) == 0) = true := beq_iff_eq.mpr c94
        have c94b1 : ((t290.length : Int) != 0) = false := bne_eq_false_iff_eq.mpr c94
        clear c94
        replace H := Option.bind_eq_some_iff.mp H
        obtain ⟨t308, A950, H⟩ := H
        replace H : (some t308) = some r := H
        have A95 := Aside0.mk A950
        clear A950
        obtain rfl := Option.some.inj H
        obtain ⟨Ao96, co96, eo96⟩ := Kd.R_slice HO_8.out
        subst eo96
        go_wp2_with (first | (go_at_call 19; (with_reducible refine (raddlelaw03_wakes.calls kj15  t308 _ A95.out).mono ?_); rintro e w97 ⟨rfl, hb⟩; have n0_ := Aside0.mk (Kd.R_below (by (with_reducible repeat (first | apply Kd.R_alloc | apply Kd.R_drewN | apply Kd.R_drew)); exact HO_8.out) hb); have n1_ := Aside0.mk (blk_below (g := gb283) (o := .cells #[.int .i64 a0_0, .int .i64 a0_1, .string a0_2] 23 (0, 0)) (by (with_reducible repeat (first | refine blk_drewN ?_ _ | refine blk_drew ?_ | refine blk_alloc ?_ _)); exact BK283.out) hb); have n2_ := Aside0.mk (blk_below (g := gb284) (o := .cells #[.int .i64 a1_0, .int .i64 a1_1, .string a1_2] 23 (0, 0)) (by (with_reducible repeat (first | refine blk_drewN ?_ _ | refine blk_drew ?_ | refine blk_alloc ?_ _)); exact BK284.out) hb); have n3_ := Aside0.mk (below_step (by repeat (first | (with_reducible first | exact HB.out | apply below_alloc | apply pw_below_drewN | apply below_drew1 | refine below_set ?_ GE283.out | refine below_set ?_ GE284.out) | exact HB.out)) hb); clear HO_8; clear BK283; clear BK284; clear HB; have HO_8 := n0_; have BK283 := n1_; have BK284 := n2_; have HB := n3_; clear n0_ n1_ n2_ n3_; (try clear hb); (try clear hb2); (try clear hk); (try clear hi)))
        go_ret
        exact ⟨by first | rfl | (simp [errW_none, errW_some] <;> rfl) | (simp [*, errW_none, errW_some] <;> rfl), by repeat (first | (with_reducible first | exact HB.out | apply below_alloc | apply pw_below_drewN | apply below_drew1 | refine below_set ?_ GE283.out | refine below_set ?_ GE284.out) | exact HB.out)⟩
       ·
        rw [if_neg c94] at H
        have c94b0 : ((t290.length : Int) == 0) = false := beq_eq_false_iff_ne.mpr c94
        have c94b1 : ((t290.length : Int) != 0) = true := bne_iff_ne.mpr c94
        have c94b2 : ¬ (t290 = []) := fun h_ => c94 (by rw [h_]; rfl)
        exact absurd H (by rw [hrt]; simp)
      ·
       rw [if_neg c93] at H
       have c93b0 : (t293 == 1) = false := beq_eq_false_iff_ne.mpr c93
       have c93b1 : (t293 != 1) = true := bne_iff_ne.mpr c93
       exact absurd H (by rw [hrt]; simp)
def raddlelaw03_ValueExact.WF23 (x : S23) : Prop := (Lit.int .i64 x.f0).wf = true ∧ (Lit.int .i64 x.f1).wf = true ∧ x.f2.size ≤ maxLen
/-- THE ONE PURE STATEMENT of raddlelaw03_ValueExact. -/
def raddlelaw03_ValueExact.Pure : Prop := ∀ (x0 : S23) (x1 : S23) (x2 : Int), raddlelaw03_ValueExact.WF23 x0 → raddlelaw03_ValueExact.WF23 x1 → (Lit.int .i64 x2).wf = true → ∃ k, raddlelaw03_ValueExact.f k x0.f0 x0.f1 x0.f2 x1.f0 x1.f1 x1.f2 x2 = some true

end Go.Proofs.Yteicflbjhcddoaa.PAll
