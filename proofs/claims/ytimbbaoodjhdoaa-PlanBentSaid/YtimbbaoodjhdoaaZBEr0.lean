-- Put together by a program of this session (wip/slice2.py) out of the seat's texts.
import Derived.Test.YtimbbaoodjhdoaaZBEp6
import Derived.Test.YtimbbaoodjhdoaaZBEq0
import Derived.Test.YtimbbaoodjhdoaaZBEq1
import Derived.Test.YtimbbaoodjhdoaaZBEq2
import Derived.Test.YtimbbaoodjhdoaaZBEq3
import Derived.Test.YtimbbaoodjhdoaaZBEq4
import Derived.Test.YtimbbaoodjhdoaaZBEq5
import Derived.Test.YtimbbaoodjhdoaaZBEq6
import Derived.Test.YtimbbaoodjhdoaaZBEq7
import Derived.Test.YtimbbaoodjhdoaaZBEq8
import Derived.Test.YtimbbaoodjhdoaaZBEq9
import Derived.Test.YtimbbaoodjhdoaaZBEq10
import Derived.Test.YtimbbaoodjhdoaaZBEq11
import Derived.Test.YtimbbaoodjhdoaaZBEq12

set_option maxHeartbeats 8000000
set_option maxRecDepth 100000
open Go.Proofs.YtimbbaoodjhdoaaW Go.Proofs.Ytimbbaoodjhdoaa
section
namespace Go.Proofs.Ytimbbaoodjhdoaa.PAll
open Go.RowKit PrintWords PrintLast PrintMore ZipT PrintWords.Kd PrintMore.Kd
attribute [local go_sem] max2_int min2_int max_two min_two max_three min_three max_four min_four   -- for this text's walks alone
set_option linter.unusedVariables false
set_option linter.unusedSimpArgs false
def raddlelaw20_wakes.f (k : Nat)  : Option (Bool) := (plan_Check.f (([(⟨1, 0, 0, 0, (⟨0, 0, 0, (⟨0, 0, (⟨#[]⟩ : ByteArray)⟩ : S29)⟩ : S31), ([] : List Int), ([] : List Int), 0, 0⟩ : S34)] : List (S34))) (([(⟨(([3] : List Int))⟩ : S54)] : List (S54)))).bind fun bt319 => ((plan_Bound.f (([(⟨1, 0, 0, 0, (⟨0, 0, 0, (⟨0, 0, (⟨#[]⟩ : ByteArray)⟩ : S29)⟩ : S31), ([] : List Int), ([] : List Int), 0, 0⟩ : S34)] : List (S34))) (([(⟨(([3] : List Int))⟩ : S54)] : List (S54)))).bind fun bt332 => (if bt319.2 = 0 then (if bt332.2.2 = 0 then ((raddlekeep_Ints.f k bt319.1 (([4, 3] : List Int))).bind fun t338 => (if t338 = true then (if bt332.1 = 1024 then (some (bt332.2.1 == 2147483648)) else (some false)) else (some false))) else (some false)) else (some false)))
theorem raddlelaw20_wakes.mono : ∀ k, LeO (raddlelaw20_wakes.f k ) (raddlelaw20_wakes.f (k + 1) ) := by
 intro  k
 unfold raddlelaw20_wakes.f
 repeat' first
   | (with_reducible exact raddlekeep_Ints.mono _ _ _)
   | (with_reducible exact LeO.refl _)
   | (with_reducible exact LeO.none _)
   | (with_reducible refine LeO.ite ?_ ?_)
   | (with_reducible refine LeO.bind ?_ (fun _ => ?_))
   | exact raddlekeep_Ints.mono _ _ _
   | exact LeO.none _
   | refine LeO.ite ?_ ?_
   | refine LeO.bind ?_ (fun _ => ?_)
theorem raddlelaw20_wakes.callsT (k : Nat)  (r : Bool) (w : World) (hrt : r = true) (h : raddlelaw20_wakes.f k  = some r) :
  Calls Try.prog 14 #[] w fun e w' => e = .returned (.bool r) ∧ Below w.heap.size w w' := by
 have hu34 := Try.underlying34
 have hu54 := Try.underlying54
 have HB := mk_ (Below.refl w.heap.size w)
 have H : ((plan_Check.f (([(⟨1, 0, 0, 0, (⟨0, 0, 0, (⟨0, 0, (⟨#[]⟩ : ByteArray)⟩ : S29)⟩ : S31), ([] : List Int), ([] : List Int), 0, 0⟩ : S34)] : List (S34))) (([(⟨(([3] : List Int))⟩ : S54)] : List (S54)))).bind fun bt319 => ((plan_Bound.f (([(⟨1, 0, 0, 0, (⟨0, 0, 0, (⟨0, 0, (⟨#[]⟩ : ByteArray)⟩ : S29)⟩ : S31), ([] : List Int), ([] : List Int), 0, 0⟩ : S34)] : List (S34))) (([(⟨(([3] : List Int))⟩ : S54)] : List (S54)))).bind fun bt332 => (if bt319.2 = 0 then (if bt332.2.2 = 0 then ((raddlekeep_Ints.f k bt319.1 (([4, 3] : List Int))).bind fun t338 => (if t338 = true then (if bt332.1 = 1024 then (some (bt332.2.1 == 2147483648)) else (some false)) else (some false))) else (some false)) else (some false)))) = some r := h
 clear h
 obtain ⟨y310, hy310⟩ : ∃ y_ : List (S34), y_ = (([(⟨1, 0, 0, 0, (⟨0, 0, 0, (⟨0, 0, (⟨#[]⟩ : ByteArray)⟩ : S29)⟩ : S31), ([] : List Int), ([] : List Int), 0, 0⟩ : S34)] : List (S34))) := ⟨_, rfl⟩
 replace H : ((plan_Check.f y310 (([(⟨(([3] : List Int))⟩ : S54)] : List (S54)))).bind fun bt319 => ((plan_Bound.f (([(⟨1, 0, 0, 0, (⟨0, 0, 0, (⟨0, 0, (⟨#[]⟩ : ByteArray)⟩ : S29)⟩ : S31), ([] : List Int), ([] : List Int), 0, 0⟩ : S34)] : List (S34))) (([(⟨(([3] : List Int))⟩ : S54)] : List (S54)))).bind fun bt332 => (if bt319.2 = 0 then (if bt332.2.2 = 0 then ((raddlekeep_Ints.f k bt319.1 (([4, 3] : List Int))).bind fun t338 => (if t338 = true then (if bt332.1 = 1024 then (some (bt332.2.1 == 2147483648)) else (some false)) else (some false))) else (some false)) else (some false)))) = some r := by first | (rw [hy310]; with_reducible exact H) | (have H2_ := (Option.bind_some _ _).symm.trans H; rw [hy310]; with_reducible exact H2_) | (have H2_ := (Option.bind_some _ _).symm.trans H; with_reducible exact H2_) | with_reducible exact H | (rw [hy310]; exact H) | exact H
 have Ny310 := mk_ hy310
 clear hy310
 obtain ⟨y313, hy313⟩ : ∃ y_ : List Int, y_ = (([3] : List Int)) := ⟨_, rfl⟩
 replace H : ((plan_Check.f y310 (([(⟨y313⟩ : S54)] : List (S54)))).bind fun bt319 => ((plan_Bound.f (([(⟨1, 0, 0, 0, (⟨0, 0, 0, (⟨0, 0, (⟨#[]⟩ : ByteArray)⟩ : S29)⟩ : S31), ([] : List Int), ([] : List Int), 0, 0⟩ : S34)] : List (S34))) (([(⟨(([3] : List Int))⟩ : S54)] : List (S54)))).bind fun bt332 => (if bt319.2 = 0 then (if bt332.2.2 = 0 then ((raddlekeep_Ints.f k bt319.1 (([4, 3] : List Int))).bind fun t338 => (if t338 = true then (if bt332.1 = 1024 then (some (bt332.2.1 == 2147483648)) else (some false)) else (some false))) else (some false)) else (some false)))) = some r := by first | (rw [hy313]; with_reducible exact H) | (have H2_ := (Option.bind_some _ _).symm.trans H; rw [hy313]; with_reducible exact H2_) | (have H2_ := (Option.bind_some _ _).symm.trans H; with_reducible exact H2_) | with_reducible exact H | (rw [hy313]; exact H) | exact H
 have Ny313 := mk_ hy313
 clear hy313
 obtain ⟨y316, hy316⟩ : ∃ y_ : List (S54), y_ = (([(⟨y313⟩ : S54)] : List (S54))) := ⟨_, rfl⟩
 replace H : ((plan_Check.f y310 y316).bind fun bt319 => ((plan_Bound.f (([(⟨1, 0, 0, 0, (⟨0, 0, 0, (⟨0, 0, (⟨#[]⟩ : ByteArray)⟩ : S29)⟩ : S31), ([] : List Int), ([] : List Int), 0, 0⟩ : S34)] : List (S34))) (([(⟨(([3] : List Int))⟩ : S54)] : List (S54)))).bind fun bt332 => (if bt319.2 = 0 then (if bt332.2.2 = 0 then ((raddlekeep_Ints.f k bt319.1 (([4, 3] : List Int))).bind fun t338 => (if t338 = true then (if bt332.1 = 1024 then (some (bt332.2.1 == 2147483648)) else (some false)) else (some false))) else (some false)) else (some false)))) = some r := by first | (rw [hy316]; with_reducible exact H) | (have H2_ := (Option.bind_some _ _).symm.trans H; rw [hy316]; with_reducible exact H2_) | (have H2_ := (Option.bind_some _ _).symm.trans H; with_reducible exact H2_) | with_reducible exact H | (rw [hy316]; exact H) | exact H
 have Ny316 := mk_ hy316
 clear hy316
 replace H := Option.bind_eq_some_iff.mp H
 obtain ⟨⟨t319, t320⟩, A10, H⟩ := H
 replace H : ((plan_Bound.f (([(⟨1, 0, 0, 0, (⟨0, 0, 0, (⟨0, 0, (⟨#[]⟩ : ByteArray)⟩ : S29)⟩ : S31), ([] : List Int), ([] : List Int), 0, 0⟩ : S34)] : List (S34))) (([(⟨(([3] : List Int))⟩ : S54)] : List (S54)))).bind fun bt332 => (if t320 = 0 then (if bt332.2.2 = 0 then ((raddlekeep_Ints.f k t319 (([4, 3] : List Int))).bind fun t338 => (if t338 = true then (if bt332.1 = 1024 then (some (bt332.2.1 == 2147483648)) else (some false)) else (some false))) else (some false)) else (some false))) = some r := H
 have A1 := mk_ A10
 clear A10
 obtain ⟨y323, hy323⟩ : ∃ y_ : List (S34), y_ = (([(⟨1, 0, 0, 0, (⟨0, 0, 0, (⟨0, 0, (⟨#[]⟩ : ByteArray)⟩ : S29)⟩ : S31), ([] : List Int), ([] : List Int), 0, 0⟩ : S34)] : List (S34))) := ⟨_, rfl⟩
 replace H : ((plan_Bound.f y323 (([(⟨(([3] : List Int))⟩ : S54)] : List (S54)))).bind fun bt332 => (if t320 = 0 then (if bt332.2.2 = 0 then ((raddlekeep_Ints.f k t319 (([4, 3] : List Int))).bind fun t338 => (if t338 = true then (if bt332.1 = 1024 then (some (bt332.2.1 == 2147483648)) else (some false)) else (some false))) else (some false)) else (some false))) = some r := by first | (rw [hy323]; with_reducible exact H) | (have H2_ := (Option.bind_some _ _).symm.trans H; rw [hy323]; with_reducible exact H2_) | (have H2_ := (Option.bind_some _ _).symm.trans H; with_reducible exact H2_) | with_reducible exact H | (rw [hy323]; exact H) | exact H
 have Ny323 := mk_ hy323
 clear hy323
 obtain ⟨y326, hy326⟩ : ∃ y_ : List Int, y_ = (([3] : List Int)) := ⟨_, rfl⟩
 replace H : ((plan_Bound.f y323 (([(⟨y326⟩ : S54)] : List (S54)))).bind fun bt332 => (if t320 = 0 then (if bt332.2.2 = 0 then ((raddlekeep_Ints.f k t319 (([4, 3] : List Int))).bind fun t338 => (if t338 = true then (if bt332.1 = 1024 then (some (bt332.2.1 == 2147483648)) else (some false)) else (some false))) else (some false)) else (some false))) = some r := by first | (rw [hy326]; with_reducible exact H) | (have H2_ := (Option.bind_some _ _).symm.trans H; rw [hy326]; with_reducible exact H2_) | (have H2_ := (Option.bind_some _ _).symm.trans H; with_reducible exact H2_) | with_reducible exact H | (rw [hy326]; exact H) | exact H
 have Ny326 := mk_ hy326
 clear hy326
 obtain ⟨y329, hy329⟩ : ∃ y_ : List (S54), y_ = (([(⟨y326⟩ : S54)] : List (S54))) := ⟨_, rfl⟩
 replace H : ((plan_Bound.f y323 y329).bind fun bt332 => (if t320 = 0 then (if bt332.2.2 = 0 then ((raddlekeep_Ints.f k t319 (([4, 3] : List Int))).bind fun t338 => (if t338 = true then (if bt332.1 = 1024 then (some (bt332.2.1 == 2147483648)) else (some false)) else (some false))) else (some false)) else (some false))) = some r := by first | (rw [hy329]; with_reducible exact H) | (have H2_ := (Option.bind_some _ _).symm.trans H; rw [hy329]; with_reducible exact H2_) | (have H2_ := (Option.bind_some _ _).symm.trans H; with_reducible exact H2_) | with_reducible exact H | (rw [hy329]; exact H) | exact H
 have Ny329 := mk_ hy329
 clear hy329
 replace H := Option.bind_eq_some_iff.mp H
 obtain ⟨⟨t332, t333, t334⟩, A20, H⟩ := H
 replace H : (if t320 = 0 then (if t334 = 0 then ((raddlekeep_Ints.f k t319 (([4, 3] : List Int))).bind fun t338 => (if t338 = true then (if t332 = 1024 then (some (t333 == 2147483648)) else (some false)) else (some false))) else (some false)) else (some false)) = some r := H
 have A2 := mk_ A20
 clear A20
 by_cases c3 : t320 = 0
 rotate_left
 ·
  rw [if_neg c3] at H
  have c3b0 : (t320 == 0) = false := beq_eq_false_iff_ne.mpr c3
  have c3b1 : (t320 != 0) = true := bne_iff_ne.mpr c3
  exact absurd H (by rw [hrt]; simp)
 rw [if_pos c3] at H
 have c3b0 : (t320 == 0) = true := beq_iff_eq.mpr c3
 have c3b1 : (t320 != 0) = false := bne_eq_false_iff_eq.mpr c3
 clear c3
 by_cases c4 : t334 = 0
 rotate_left
 ·
  rw [if_neg c4] at H
  have c4b0 : (t334 == 0) = false := beq_eq_false_iff_ne.mpr c4
  have c4b1 : (t334 != 0) = true := bne_iff_ne.mpr c4
  exact absurd H (by rw [hrt]; simp)
 rw [if_pos c4] at H
 have c4b0 : (t334 == 0) = true := beq_iff_eq.mpr c4
 have c4b1 : (t334 != 0) = false := bne_eq_false_iff_eq.mpr c4
 clear c4
 obtain ⟨y335, hy335⟩ : ∃ y_ : List Int, y_ = (([4, 3] : List Int)) := ⟨_, rfl⟩
 replace H : ((raddlekeep_Ints.f k t319 y335).bind fun t338 => (if t338 = true then (if t332 = 1024 then (some (t333 == 2147483648)) else (some false)) else (some false))) = some r := by first | (rw [hy335]; with_reducible exact H) | (have H2_ := (Option.bind_some _ _).symm.trans H; rw [hy335]; with_reducible exact H2_) | (have H2_ := (Option.bind_some _ _).symm.trans H; with_reducible exact H2_) | with_reducible exact H | (rw [hy335]; exact H) | exact H
 have Ny335 := mk_ hy335
 clear hy335
 replace H := Option.bind_eq_some_iff.mp H
 obtain ⟨t338, A50, H⟩ := H
 replace H : (if t338 = true then (if t332 = 1024 then (some (t333 == 2147483648)) else (some false)) else (some false)) = some r := H
 have A5 := mk_ A50
 clear A50
 by_cases c6 : t338 = true
 rotate_left
 ·
  replace c6 := Bool.eq_false_iff.mpr c6
  subst c6
  have H1 : (some false) = some r := by rw [if_neg (show ¬ (false = true) by decide)] at H; exact H
  clear H
  have H := H1
  clear H1
  exact absurd H (by rw [hrt]; simp)
 subst c6
 have H1 : (if t332 = 1024 then (some (t333 == 2147483648)) else (some false)) = some r := by rw [if_pos rfl] at H; exact H
 clear H
 have H := H1
 clear H1
 by_cases c7 : t332 = 1024
 rotate_left
 ·
  rw [if_neg c7] at H
  have c7b0 : (t332 == 1024) = false := beq_eq_false_iff_ne.mpr c7
  have c7b1 : (t332 != 1024) = true := bne_iff_ne.mpr c7
  exact absurd H (by rw [hrt]; simp)
 rw [if_pos c7] at H
 have c7b0 : (t332 == 1024) = true := beq_iff_eq.mpr c7
 have c7b1 : (t332 != 1024) = false := bne_eq_false_iff_eq.mpr c7
 clear c7
 obtain rfl := Option.some.inj H
 go_enter Try.func14, Try.ntmps14
 go_wp2_with (first | ((with_reducible refine gate_dst (N := 8) rfl ?_); refine N_lit k34 _ 34 ?hg (N' := 8) ?hd (xs := ([(⟨1, 0, 0, 0, (⟨0, 0, 0, (⟨0, 0, (⟨#[]⟩ : ByteArray)⟩ : S29)⟩ : S31), ([] : List Int), ([] : List Int), 0, 0⟩ : S34)] : List (S34))) (inner := [.int .i64 1, .int .i64 0, .int .i64 0, .int .i64 0, .int .i64 0, .int .i64 0, .int .i64 0, .int .i64 0, .int .i64 0, .string (⟨#[]⟩ : ByteArray), .slice none 0 0, .slice none 0 0, .int .i64 0, .int .i64 0]) (ok := (fun _ => True)) (okp := (fun _ => True)) ?hr ?hp (fun _ hk => hk) ((show ∀ k_, w.heap.size ≤ k_ → (fun _ => True) k_ from fun k_ hk => trivial) _ (Nat.le_refl _)) (Below.refl _ _) (Nat.le_refl _) (by simp) ?_; (case hd => rfl); (case hg => rfl); (case hr => first | (go_simp; done) | (go_simp; rfl)); (case hp => exact (Reps.front (show Kd.FK k34 _ _ (⟨1, 0, 0, 0, (⟨0, 0, 0, (⟨0, 0, (⟨#[]⟩ : ByteArray)⟩ : S29)⟩ : S31), ([] : List Int), ([] : List Int), 0, 0⟩ : S34) [.int .i64 1, .int .i64 0, .int .i64 0, .int .i64 0, .int .i64 0, .int .i64 0, .int .i64 0, .int .i64 0, .int .i64 0, .string (⟨#[]⟩ : ByteArray), .slice none 0 0, .slice none 0 0, .int .i64 0, .int .i64 0] from (k34_mkF _ _ (⟨1, 0, 0, 0, (⟨0, 0, 0, (⟨0, 0, (⟨#[]⟩ : ByteArray)⟩ : S29)⟩ : S31), ([] : List Int), ([] : List Int), 0, 0⟩ : S34) (Nat.le_refl _) (F_nil _ _ _) (Nat.le_refl _) (F_nil _ _ _))) rfl (Reps.none _ _) rfl)); intro v311 w8 ho9 hb hg_ hnew_; clear hg_ hnew_; (first | rw [← Ny310.out] at ho9 | (simp only [Int.reduceToNat] at ho9; rw [← Ny310.out] at ho9)); have n0_ := mk_ (N_lower ho9 (below_size (Short.hB HB))); have n1_ := mk_ (below_step (Short.hB HB) hb); clear HB; revert n0_ n1_; intro HO312 HB; clear hb ho9) | ((with_reducible refine gate_dst (N := 9) rfl ?_); refine R_lit (Kd.int .i64) _ 3 ?hg (N := 9) ?hd (xs := ([3] : List Int)) (inner := [.int .i64 3]) (ok := fun _ => True) (okp := fun _ => True) ?hr ?hp (fun _ hk => hk) trivial (Below.refl _ _) (Nat.le_refl _) (by simp) ?_; (case hd => rfl); (case hg => rfl); (case hr => first | (go_simp; done) | (go_simp; rfl)); (case hp => exact (Reps.one (show Kd.M (Kd.int .i64) _ _ _ 3 [.int .i64 3] from rfl) (Reps.none _ _))); intro v314 w10 ho11 hb hg_ hnew_; clear hg_ hnew_; (first | rw [← Ny313.out] at ho11 | (simp only [Int.reduceToNat] at ho11; rw [← Ny313.out] at ho11)); have n0_ := mk_ (N_elder' (ZKN HO312) (R_base ho11) hb); have n1_ := mk_ (R_lower ho11 (below_size (Short.hB HB))); have n2_ := mk_ (below_step (Short.hB HB) hb); clear HO312 HB; revert n0_ n1_ n2_; intro HO312 HO315 HB; clear hb ho11; obtain ⟨Ao12, co12, eo12⟩ := R_slice HO315.out; subst eo12) | ((with_reducible refine gate_dst (N := 11) rfl ?_); refine N_lit k54 _ 54 ?hg (N' := 11) ?hd (xs := ([(⟨y313⟩ : S54)] : List (S54))) (inner := [.slice Ao12 y313.length co12]) (ok := (fun k_ => nb_ k_ (v311))) (okp := (fun k_ => nb_ k_ (v311))) ?hr ?hp (fun _ hk => hk) ((show ∀ k_, w10.heap.size ≤ k_ → (fun k_ => nb_ k_ (v311)) k_ from fun k_ hk => Kd.fresh' (N_lt (ZKN HO312)) k_ hk) _ (Nat.le_refl _)) (Below.refl _ _) (Nat.le_refl _) (by simp) ?_; (case hd => rfl); (case hg => rfl); (case hr => first | (go_simp; done) | (go_simp; rfl)); (case hp => exact (Reps.one (show Kd.FK k54 _ _ (⟨y313⟩ : S54) [.slice Ao12 y313.length co12] from (k54_mkF _ _ (⟨y313⟩ : S54) (R_reads' (R_mono (ok' := (fun k_ => nb_ k_ (v311))) (R_apart' (HO315.out) (N_typed HO312.out) z11) (fun k_ hk => hk.2))).2.1 (R_F (R_mono (ok' := (fun k_ => nb_ k_ (v311))) (R_apart' (HO315.out) (N_typed HO312.out) z11) (fun k_ hk => hk.2))))) (Reps.none _ _))); intro v317 w13 ho14 hb hg_ hnew_; clear hg_ hnew_; (first | rw [← Ny316.out] at ho14 | (simp only [Int.reduceToNat] at ho14; rw [← Ny316.out] at ho14)); have n0_ := mk_ (N_elder' (ZKN HO312) (N_base ho14) hb); have n1_ := mk_ (N_lower ho14 (below_size (Short.hB HB))); have n2_ := mk_ (below_step (Short.hB HB) hb); clear HO312 HB HO315; revert n0_ n1_ n2_; intro HO312 HO318 HB; clear hb ho14; obtain ⟨Ao15, co15, eo15⟩ := N_slice HO312.out; subst eo15; obtain ⟨Ao16, co16, eo16⟩ := N_slice HO318.out; subst eo16) | ((with_reducible refine gate_callee (f := 12) rfl ?_); refine Short.gL (some 12) Try.func12 #[.slice Ao15 y310.length co15, .slice Ao16 y316.length co16] (h := ?_); (with_reducible refine (plan_Check.calls _ _ y310 _ _ y316 t319 t320 _ ?side1 ?side2 ?side3 ?side4 A1.out).mono ?_); (case side1 => exact cX_ (N_reads' HO312.out).2.2); (case side2 => exact (N_reads' HO312.out).2.1); (case side3 => exact cX_ (N_reads' HO318.out).2.2); (case side4 => exact (N_reads' HO318.out).2.1); rintro e w17 ⟨v321, rfl, ho0, hb⟩; refine ⟨_, rfl, ?_⟩; have n0_ := mk_ (N_elder' (ZKN HO312) (R_base ho0) hb); have n1_ := mk_ (N_elder' (ZKN HO318) (R_base ho0) hb); have n2_ := mk_ (R_lower ho0 (below_size (Short.hB HB))); have n3_ := mk_ (below_step (Short.hB HB) hb); clear HO312 HO318 HB; revert n0_ n1_ n2_ n3_; intro HO312 HO318 HO322 HB; (try clear hb ho0)) | ((with_reducible refine gate_dst (N := 17) rfl ?_); refine N_lit k34 _ 34 ?hg (N' := 17) ?hd (xs := ([(⟨1, 0, 0, 0, (⟨0, 0, 0, (⟨0, 0, (⟨#[]⟩ : ByteArray)⟩ : S29)⟩ : S31), ([] : List Int), ([] : List Int), 0, 0⟩ : S34)] : List (S34))) (inner := [.int .i64 1, .int .i64 0, .int .i64 0, .int .i64 0, .int .i64 0, .int .i64 0, .int .i64 0, .int .i64 0, .int .i64 0, .string (⟨#[]⟩ : ByteArray), .slice none 0 0, .slice none 0 0, .int .i64 0, .int .i64 0]) (ok := (fun k_ => nb_ k_ (.slice Ao15 y310.length co15) ∧ nb_ k_ (.slice Ao16 y316.length co16) ∧ nb_ k_ (v321))) (okp := (fun k_ => nb_ k_ (.slice Ao15 y310.length co15) ∧ nb_ k_ (.slice Ao16 y316.length co16) ∧ nb_ k_ (v321))) ?hr ?hp (fun _ hk => hk) ((show ∀ k_, w17.heap.size ≤ k_ → (fun k_ => nb_ k_ (.slice Ao15 y310.length co15) ∧ nb_ k_ (.slice Ao16 y316.length co16) ∧ nb_ k_ (v321)) k_ from fun k_ hk => ⟨Kd.fresh' (N_lt (ZKN HO312)) k_ hk, Kd.fresh' (N_lt (ZKN HO318)) k_ hk, Kd.fresh' (R_lt (ZKR HO322)) k_ hk⟩) _ (Nat.le_refl _)) (Below.refl _ _) (Nat.le_refl _) (by simp) ?_; (case hd => rfl); (case hg => rfl); (case hr => first | (go_simp; done) | (go_simp; rfl)); (case hp => exact (Reps.front (show Kd.FK k34 _ _ (⟨1, 0, 0, 0, (⟨0, 0, 0, (⟨0, 0, (⟨#[]⟩ : ByteArray)⟩ : S29)⟩ : S31), ([] : List Int), ([] : List Int), 0, 0⟩ : S34) [.int .i64 1, .int .i64 0, .int .i64 0, .int .i64 0, .int .i64 0, .int .i64 0, .int .i64 0, .int .i64 0, .int .i64 0, .string (⟨#[]⟩ : ByteArray), .slice none 0 0, .slice none 0 0, .int .i64 0, .int .i64 0] from (k34_mkF _ _ (⟨1, 0, 0, 0, (⟨0, 0, 0, (⟨0, 0, (⟨#[]⟩ : ByteArray)⟩ : S29)⟩ : S31), ([] : List Int), ([] : List Int), 0, 0⟩ : S34) (Nat.le_refl _) (F_nil _ _ _) (Nat.le_refl _) (F_nil _ _ _))) rfl (Reps.none _ _) rfl)); intro v324 w18 ho19 hb hg_ hnew_; clear hg_ hnew_; (first | rw [← Ny323.out] at ho19 | (simp only [Int.reduceToNat] at ho19; rw [← Ny323.out] at ho19)); have n0_ := mk_ (N_elder' (ZKN HO312) (N_base ho19) hb); have n1_ := mk_ (N_elder' (ZKN HO318) (N_base ho19) hb); have n2_ := mk_ (R_below (ZKR HO322) hb); have n3_ := mk_ (N_lower ho19 (below_size (Short.hB HB))); have n4_ := mk_ (below_step (Short.hB HB) hb); clear HO312 HO318 HO322 HB; revert n0_ n1_ n2_ n3_ n4_; intro HO312 HO318 HO322 HO325 HB; clear hb ho19) | ((with_reducible refine gate_dst (N := 18) rfl ?_); refine R_lit (Kd.int .i64) _ 3 ?hg (N := 18) ?hd (xs := ([3] : List Int)) (inner := [.int .i64 3]) (ok := fun _ => True) (okp := fun _ => True) ?hr ?hp (fun _ hk => hk) trivial (Below.refl _ _) (Nat.le_refl _) (by simp) ?_; (case hd => rfl); (case hg => rfl); (case hr => first | (go_simp; done) | (go_simp; rfl)); (case hp => exact (Reps.one (show Kd.M (Kd.int .i64) _ _ _ 3 [.int .i64 3] from rfl) (Reps.none _ _))); intro v327 w20 ho21 hb hg_ hnew_; clear hg_ hnew_; (first | rw [← Ny326.out] at ho21 | (simp only [Int.reduceToNat] at ho21; rw [← Ny326.out] at ho21)); have n0_ := mk_ (N_elder' (ZKN HO312) (R_base ho21) hb); have n1_ := mk_ (N_elder' (ZKN HO318) (R_base ho21) hb); have n2_ := mk_ (R_elder' (ZKR HO322) (R_base ho21) hb); have n3_ := mk_ (N_elder' (ZKN HO325) (R_base ho21) hb); have n4_ := mk_ (R_lower (R_new' ho21 (R_lt (ZKR HO322))) (below_size (Short.hB HB))); have n5_ := mk_ (below_step (Short.hB HB) hb); clear HO312 HO318 HO322 HO325 HB; revert n0_ n1_ n2_ n3_ n4_ n5_; intro HO312 HO318 HO322 HO325 HO328 HB; clear hb ho21; obtain ⟨Ao22, co22, eo22⟩ := R_slice HO328.out; subst eo22) | ((with_reducible refine gate_dst (N := 20) rfl ?_); refine N_lit k54 _ 54 ?hg (N' := 20) ?hd (xs := ([(⟨y326⟩ : S54)] : List (S54))) (inner := [.slice Ao22 y326.length co22]) (ok := (fun k_ => nb_ k_ (.slice Ao15 y310.length co15) ∧ nb_ k_ (.slice Ao16 y316.length co16) ∧ nb_ k_ (v321) ∧ nb_ k_ (v324))) (okp := (fun k_ => nb_ k_ (.slice Ao15 y310.length co15) ∧ nb_ k_ (.slice Ao16 y316.length co16) ∧ nb_ k_ (v321) ∧ nb_ k_ (v324))) ?hr ?hp (fun _ hk => hk) ((show ∀ k_, w20.heap.size ≤ k_ → (fun k_ => nb_ k_ (.slice Ao15 y310.length co15) ∧ nb_ k_ (.slice Ao16 y316.length co16) ∧ nb_ k_ (v321) ∧ nb_ k_ (v324)) k_ from fun k_ hk => ⟨Kd.fresh' (N_lt (ZKN HO312)) k_ hk, Kd.fresh' (N_lt (ZKN HO318)) k_ hk, Kd.fresh' (R_lt (ZKR HO322)) k_ hk, Kd.fresh' (N_lt (ZKN HO325)) k_ hk⟩) _ (Nat.le_refl _)) (Below.refl _ _) (Nat.le_refl _) (by simp) ?_; (case hd => rfl); (case hg => rfl); (case hr => first | (go_simp; done) | (go_simp; rfl)); (case hp => exact (Reps.one (show Kd.FK k54 _ _ (⟨y326⟩ : S54) [.slice Ao22 y326.length co22] from (k54_mkF _ _ (⟨y326⟩ : S54) (R_reads' (R_mono (ok' := (fun k_ => nb_ k_ (.slice Ao15 y310.length co15) ∧ nb_ k_ (.slice Ao16 y316.length co16) ∧ nb_ k_ (v321) ∧ nb_ k_ (v324))) (R_apart' (R_apart' (R_apart' (HO328.out) (N_typed HO312.out) z11) (N_typed HO318.out) z11) (N_typed HO325.out) z11) (fun k_ hk => ⟨hk.1.1.2, ⟨hk.1.2, ⟨hk.1.1.1.2, hk.2⟩⟩⟩))).2.1 (R_F (R_mono (ok' := (fun k_ => nb_ k_ (.slice Ao15 y310.length co15) ∧ nb_ k_ (.slice Ao16 y316.length co16) ∧ nb_ k_ (v321) ∧ nb_ k_ (v324))) (R_apart' (R_apart' (R_apart' (HO328.out) (N_typed HO312.out) z11) (N_typed HO318.out) z11) (N_typed HO325.out) z11) (fun k_ hk => ⟨hk.1.1.2, ⟨hk.1.2, ⟨hk.1.1.1.2, hk.2⟩⟩⟩))))) (Reps.none _ _))); intro v330 w23 ho24 hb hg_ hnew_; clear hg_ hnew_; (first | rw [← Ny329.out] at ho24 | (simp only [Int.reduceToNat] at ho24; rw [← Ny329.out] at ho24)); have n0_ := mk_ (N_elder' (ZKN HO312) (N_base ho24) hb); have n1_ := mk_ (N_elder' (ZKN HO318) (N_base ho24) hb); have n2_ := mk_ (R_below (ZKR HO322) hb); have n3_ := mk_ (N_elder' (ZKN HO325) (N_base ho24) hb); have n4_ := mk_ (N_lower ho24 (below_size (Short.hB HB))); have n5_ := mk_ (below_step (Short.hB HB) hb); clear HO312 HO318 HO322 HO325 HB HO328; revert n0_ n1_ n2_ n3_ n4_ n5_; intro HO312 HO318 HO322 HO325 HO331 HB; clear hb ho24; obtain ⟨Ao25, co25, eo25⟩ := N_slice HO325.out; subst eo25; obtain ⟨Ao26, co26, eo26⟩ := N_slice HO331.out; subst eo26) | ((with_reducible refine gate_callee (f := 13) rfl ?_); refine Short.gL (some 21) Try.func13 #[.slice Ao25 y323.length co25, .slice Ao26 y329.length co26] (h := ?_); (with_reducible refine (plan_Bound.calls _ _ y323 _ _ y329 t332 t333 t334 _ ?side1 ?side2 ?side3 ?side4 A2.out).mono ?_); (case side1 => exact cX_ (N_reads' HO325.out).2.2); (case side2 => exact (N_reads' HO325.out).2.1); (case side3 => exact cX_ (N_reads' HO331.out).2.2); (case side4 => exact (N_reads' HO331.out).2.1); rintro e w27 ⟨rfl, hb⟩; refine ⟨_, rfl, ?_⟩; have n0_ := mk_ (N_below (ZKN HO312) hb); have n1_ := mk_ (N_below (ZKN HO318) hb); have n2_ := mk_ (R_below (ZKR HO322) hb); have n3_ := mk_ (N_below (ZKN HO325) hb); have n4_ := mk_ (N_below (ZKN HO331) hb); have n5_ := mk_ (below_step (Short.hB HB) hb); clear HO312 HO318 HO322 HO325 HO331 HB; revert n0_ n1_ n2_ n3_ n4_ n5_; intro HO312 HO318 HO322 HO325 HO331 HB; (try clear hb)) | ((with_reducible refine gate_dst (N := 33) rfl ?_); (try (refine gate_guard z12 ?_; dsimp only)); refine R_lit (Kd.int .i64) _ 3 ?hg (N := 33) ?hd (xs := ([4, 3] : List Int)) (inner := [.int .i64 4, .int .i64 3]) (ok := fun _ => True) (okp := fun _ => True) ?hr ?hp (fun _ hk => hk) trivial (Below.refl _ _) (Nat.le_refl _) (by simp) ?_; (case hd => rfl); (case hg => rfl); (case hr => first | (go_simp; done) | (go_simp; rfl)); (case hp => exact (Reps.one (show Kd.M (Kd.int .i64) _ _ _ 4 [.int .i64 4] from rfl) (Reps.one (show Kd.M (Kd.int .i64) _ _ _ 3 [.int .i64 3] from rfl) (Reps.none _ _)))); intro v336 w28 ho29 hb hg_ hnew_; clear hg_ hnew_; (first | rw [← Ny335.out] at ho29 | (simp only [Int.reduceToNat] at ho29; rw [← Ny335.out] at ho29)); have n0_ := mk_ (N_elder' (ZKN HO312) (R_base ho29) hb); have n1_ := mk_ (N_elder' (ZKN HO318) (R_base ho29) hb); have n2_ := mk_ (R_elder' (ZKR HO322) (R_base ho29) hb); have n3_ := mk_ (N_elder' (ZKN HO325) (R_base ho29) hb); have n4_ := mk_ (N_elder' (ZKN HO331) (R_base ho29) hb); have n5_ := mk_ (R_lower (R_new' ho29 (R_lt (ZKR HO322))) (below_size (Short.hB HB))); have n6_ := mk_ (below_step (Short.hB HB) hb); clear HO312 HO318 HO322 HO325 HO331 HB; revert n0_ n1_ n2_ n3_ n4_ n5_ n6_; intro HO312 HO318 HO322 HO325 HO331 HO337 HB; clear hb ho29; obtain ⟨Ao30, co30, eo30⟩ := R_slice HO322.out; subst eo30; obtain ⟨Ao31, co31, eo31⟩ := R_slice HO337.out; subst eo31) | (go_at_call 18; (with_reducible refine (raddlekeep_Ints.calls k _ _ t319 _ _ y335 true _ ?side1 ?side2 ?side3 ?side4 A5.out).mono ?_); (case side1 => exact cX_ (R_reads' HO322.out).2.2); (case side2 => exact (R_reads' HO322.out).2.1); (case side3 => exact cX_ (R_reads' HO337.out).2.2); (case side4 => exact (R_reads' HO337.out).2.1); rintro e w' ⟨rfl, ⟨nd, rfl⟩⟩))
 go_ret
 exact ⟨q0, Short.hB HB⟩
theorem raddlelaw20_wakes.only (k : Nat) (r : Bool) (h : raddlelaw20_wakes.f k = some r) : r = true := by
 have hm : ∀ n, raddlelaw20_wakes.f (k + n) = some r := fun n => by
  induction n with
  | zero => exact h
  | succ n ih => exact raddlelaw20_wakes.mono (k + n) r ih
 have h5 := hm 5
 unfold raddlelaw20_wakes.f at h5
 have hs : planSmall (([(⟨1, 0, 0, 0, (⟨0, 0, 0, (⟨0, 0, (⟨#[]⟩ : ByteArray)⟩ : S29)⟩ : S31), ([] : List Int), ([] : List Int), 0, 0⟩ : S34)] : List (S34))) (([(⟨(([3] : List Int))⟩ : S54)] : List (S54))) := by decide
 have hp : Go.Proofs.Ytimbbaoodjhdoaa.Plan.planN (([(⟨1, 0, 0, 0, (⟨0, 0, 0, (⟨0, 0, (⟨#[]⟩ : ByteArray)⟩ : S29)⟩ : S31), ([] : List Int), ([] : List Int), 0, 0⟩ : S34)] : List (S34))) (([(⟨(([3] : List Int))⟩ : S54)] : List (S54))) = ([([4, 3], 1024, 2147483648)], 0) := by decide
 have hq : Go.Proofs.Ytimbbaoodjhdoaa.Plan.lastN (([(⟨1, 0, 0, 0, (⟨0, 0, 0, (⟨0, 0, (⟨#[]⟩ : ByteArray)⟩ : S29)⟩ : S31), ([] : List Int), ([] : List Int), 0, 0⟩ : S34)] : List (S34))) (([(⟨(([3] : List Int))⟩ : S54)] : List (S54))) = ([4, 3], 1024, 2147483648) := by unfold Go.Proofs.Ytimbbaoodjhdoaa.Plan.lastN; rw [hp]; rfl
 have e1 : plan_Check.f (([(⟨1, 0, 0, 0, (⟨0, 0, 0, (⟨0, 0, (⟨#[]⟩ : ByteArray)⟩ : S29)⟩ : S31), ([] : List Int), ([] : List Int), 0, 0⟩ : S34)] : List (S34))) (([(⟨(([3] : List Int))⟩ : S54)] : List (S54))) = some ([4, 3], 0) := by unfold plan_Check.f; rw [if_pos hs, hp, hq]
 have e2 : plan_Bound.f (([(⟨1, 0, 0, 0, (⟨0, 0, 0, (⟨0, 0, (⟨#[]⟩ : ByteArray)⟩ : S29)⟩ : S31), ([] : List Int), ([] : List Int), 0, 0⟩ : S34)] : List (S34))) (([(⟨(([3] : List Int))⟩ : S54)] : List (S54))) = some (1024, 2147483648, 0) := by unfold plan_Bound.f; rw [if_pos hs, hp, hq]
 have e3 : raddlekeep_Ints.f (k + 5) [4, 3] [4, 3] = some true := by
  unfold raddlekeep_Ints.f
  simp [raddlekeep_Ints.l0, rd, wrap64]
 rw [e1, e2] at h5
 simp only [Option.bind_some] at h5
 rw [if_pos trivial, if_pos trivial, e3, Option.bind_some, if_pos rfl, if_pos trivial] at h5
 exact (Option.some.inj h5).symm
theorem raddlelaw20_wakes.calls (k : Nat)  (r : Bool) (w : World) (h : raddlelaw20_wakes.f k  = some r) :
  Calls Try.prog 14 #[] w fun e w' => e = .returned (.bool r) ∧ Below w.heap.size w w' :=
 raddlelaw20_wakes.callsT k r w (raddlelaw20_wakes.only k r h) h
end Go.Proofs.Ytimbbaoodjhdoaa.PAll
end
section
namespace Go.Proofs.Ytimbbaoodjhdoaa.Plan
open Go.RowKit PAll Plain PrintWords PrintLast PrintMore ZipT PrintWords.Kd PrintMore.Kd
set_option linter.unusedVariables false
set_option linter.unusedSimpArgs false
theorem rdT_drop {l : List Tb} {i : Nat} {v : Tb} {m : List Tb} (h : l.drop i = v :: m) : rd_T54 l (i : Int) = v := by
 show l.getD (i : Int).toNat _ = v
 rw [Int.toNat_natCast, List.getD_eq_getElem?_getD]
 have := congrArg (·[0]?) h
 simp only [List.getElem?_drop, Nat.add_zero, List.getElem?_cons_zero] at this
 rw [this]; rfl
theorem rdN_drop {l : List No} {i : Nat} {v : No} {m : List No} (h : l.drop i = v :: m) : rd_T34 l (i : Int) = v := by
 show l.getD (i : Int).toNat _ = v
 rw [Int.toNat_natCast, List.getD_eq_getElem?_getD]
 have := congrArg (·[0]?) h
 simp only [List.getElem?_drop, Nat.add_zero, List.getElem?_cons_zero] at this
 rw [this]; rfl
theorem drop_next {α : Type} {l : List α} {i : Nat} {v : α} {m : List α} (h : l.drop i = v :: m) : l.drop (i + 1) = m ∧ i < l.length := by
 constructor
 ·
  rw [← List.drop_drop, h]; rfl
 ·
  have := congrArg List.length h
  rw [List.length_drop, List.length_cons] at this
  omega
theorem wrapn (i : Nat) (h : i ≤ 1000000) : wrap64 ((i : Int) + 1) = ((i + 1 : Nat) : Int) := by unfold wrap64; omega
def hvF (f : List Tb) : Bool := decide (f.length > 30) || f.any fun t => decide (t.f0.length > 30)
theorem hvF_l0 (f : List Tb) (hl : f.length ≤ 30) (m : List Tb) : ∀ (k i : Nat), f.drop i = m → m.length < k →
  raddlelaw07_HeavyForms.l0 k f (i : Int) = some (m.any fun t => decide (t.f0.length > 30)) := by
 induction m with
 | nil =>
  intro k i h hk
  obtain ⟨k, rfl⟩ : ∃ j, k = j + 1 := ⟨k - 1, by omega⟩
  have := List.drop_eq_nil_iff.1 h
  simp only [raddlelaw07_HeavyForms.l0]
  rw [if_neg z5]; rfl
 | cons v m ih =>
  intro k i h hk
  obtain ⟨k, rfl⟩ : ∃ j, k = j + 1 := ⟨k - 1, by omega⟩
  obtain ⟨h1, h2⟩ := drop_next h
  rw [List.length_cons] at hk
  simp only [raddlelaw07_HeavyForms.l0]
  rw [if_pos z5, if_pos z5, rdT_drop h, List.any_cons]
  by_cases c : v.f0.length > 30
  ·
   rw [if_pos z5, decide_eq_true c]; rfl
  rw [if_neg z5, decide_eq_false c, Bool.false_or, wrapn i z5]
  exact ih k (i + 1) h1 z5
theorem hvF_eq (k : Nat) (f : List Tb) (hk : 40 ≤ k) : raddlelaw07_HeavyForms.f k f = some (hvF f) := by
 unfold raddlelaw07_HeavyForms.f hvF
 by_cases c : f.length > 30
 ·
  rw [if_pos z5, decide_eq_true c]; rfl
 rw [if_neg z5, decide_eq_false c, Bool.false_or]
 exact hvF_l0 f z5 f k 0 rfl z5
def hvX (x : No) : Bool := decide (x.f5.length > 40) || decide (x.f6.length > 40) || decide (x.f4.f3.f2.size > 300)
def hvN (l : List No) : Bool := decide (l.length > 40) || l.any hvX
theorem long_eq (k : Nat) (v : S29) (hk : 2 ≤ k) : raddlelaw03_Long.f k [v] = some (decide (v.f2.size > 300)) := by
 obtain ⟨k, rfl⟩ : ∃ j, k = j + 2 := ⟨k - 2, by omega⟩
 unfold raddlelaw03_Long.f
 simp only [raddlelaw03_Long.l0]
 rw [if_pos (show (0 : Int) < (([v] : List _).length : Int) by rw [List.length_singleton]; decide), if_pos z11]
 show (if (v.f2.size : Int) > 300 then _ else _) = _
 by_cases c : v.f2.size > 300
 ·
  rw [if_pos z5, decide_eq_true c]
 rw [if_neg z5, decide_eq_false c, if_neg (by rw [List.length_singleton, show wrap64 (0 + 1) = 1 by unfold wrap64; omega]; decide)]
theorem hvN_l0 (l : List No) (hl : l.length ≤ 40) (m : List No) : ∀ (k i : Nat), l.drop i = m → m.length + 3 < k →
  raddlelaw20_Heavy.l0 k l (i : Int) = some (m.any hvX) := by
 induction m with
 | nil =>
  intro k i h hk
  obtain ⟨k, rfl⟩ : ∃ j, k = j + 1 := ⟨k - 1, by omega⟩
  have := List.drop_eq_nil_iff.1 h
  simp only [raddlelaw20_Heavy.l0]
  rw [if_neg z5]; rfl
 | cons v m ih =>
  intro k i h hk
  obtain ⟨k, rfl⟩ : ∃ j, k = j + 1 := ⟨k - 1, by omega⟩
  obtain ⟨h1, h2⟩ := drop_next h
  rw [List.length_cons] at hk
  simp only [raddlelaw20_Heavy.l0]
  rw [if_pos z5, if_pos z5, rdN_drop h, List.any_cons]
  unfold hvX
  by_cases c : v.f5.length > 40
  ·
   rw [if_pos z5, decide_eq_true c]; rfl
  rw [if_neg z5, decide_eq_false c, Bool.false_or]
  by_cases d : v.f6.length > 40
  ·
   rw [if_pos z5, decide_eq_true d]; rfl
  rw [if_neg z5, decide_eq_false d, Bool.false_or, long_eq k _ z5, Option.bind_some]
  by_cases e : v.f4.f3.f2.size > 300
  ·
   rw [decide_eq_true e, if_pos rfl]; rfl
  rw [decide_eq_false e, if_neg z11, Bool.false_or, wrapn i z5]
  exact ih k (i + 1) h1 z5
theorem hvN_eq (k : Nat) (l : List No) (hk : 60 ≤ k) : raddlelaw20_Heavy.f k l = some (hvN l) := by
 unfold raddlelaw20_Heavy.f hvN
 by_cases c : l.length > 40
 ·
  rw [if_pos z5, decide_eq_true c]; rfl
 rw [if_neg z5, decide_eq_false c, Bool.false_or]
 exact hvN_l0 l z5 l k 0 rfl z5
theorem small_of (l : List No) (f : List Tb) (hl : hvN l = false) (hf : hvF f = false) : planSmall l f := by
 unfold hvN at hl
 unfold hvF at hf
 simp only [Bool.or_eq_false_iff, decide_eq_false_iff_not, List.any_eq_false, hvX, Bool.or_eq_true, decide_eq_true_eq, not_or] at hl hf
 exact ⟨by omega, by omega, fun x hx => by have := hl.2 x hx; omega, fun t ht => by have := hf.2 t ht; omega⟩
theorem planSmall.snoc {l : List No} {f : List Tb} (h : planSmall l f) (hl : l.length ≤ 40) (x : No) (h5 : x.f5.length ≤ 1000) (h6 : x.f6.length ≤ 1000) : planSmall (l ++ [x]) f :=
 ⟨by rw [List.length_append, List.length_singleton]; omega, h.2.1, fun y hy => by rcases List.mem_append.1 hy with e | e; exact h.2.2.1 y e; rw [List.mem_singleton.1 e]; exact ⟨h5, h6⟩, h.2.2.2⟩
theorem check_eq {l : List No} {f : List Tb} (h : planSmall l f) : plan_Check.f l f = some ((lastN l f).1, (planN l f).2) := by unfold plan_Check.f; rw [if_pos h]
theorem bound_eq {l : List No} {f : List Tb} (h : planSmall l f) : plan_Bound.f l f = some ((lastN l f).2.1, (lastN l f).2.2, (planN l f).2) := by unfold plan_Bound.f; rw [if_pos h]
theorem plan14_eq {l : List No} {f : List Tb} (h : planSmall l f) : raddleref14_Plan.f l f = some ((planN l f).1.map ofNd, (planN l f).2) := by unfold raddleref14_Plan.f; rw [if_pos h]
theorem lastN_err {l : List No} {f : List Tb} (h : (planN l f).2 ≠ 0) : lastN l f = zN := by unfold lastN; rw [planN_err h]; rfl
def scan0 : No := ⟨1, 0, 0, 0, ⟨0, 0, 0, ⟨0, 0, (⟨#[]⟩ : ByteArray)⟩⟩, [], [], 0, 0⟩
theorem ints_eq2 (k : Nat) (hk : 5 ≤ k) : raddlekeep_Ints.f k [4, 3] [4, 3] = some true := by
 obtain ⟨k, rfl⟩ : ∃ j, k = j + 5 := ⟨k - 5, by omega⟩
 unfold raddlekeep_Ints.f
 simp [raddlekeep_Ints.l0, rd, wrap64]
theorem wakes_eq (k : Nat) (hk : 5 ≤ k) : raddlelaw20_wakes.f k = some true := by
 have hs : planSmall [scan0] [⟨[3]⟩] := by decide
 have hp : planN [scan0] [⟨[3]⟩] = ([([4, 3], 1024, 2147483648)], 0) := by decide
 have hq : lastN [scan0] [⟨[3]⟩] = ([4, 3], 1024, 2147483648) := by unfold lastN; rw [hp]; rfl
 unfold raddlelaw20_wakes.f
 rw [show (⟨1, 0, 0, 0, (⟨0, 0, 0, (⟨0, 0, (⟨#[]⟩ : ByteArray)⟩ : S29)⟩ : S31), ([] : List Int), ([] : List Int), 0, 0⟩ : No) = scan0 from rfl, check_eq hs, bound_eq hs, hp, hq]
 simp only [Option.bind_some]
 rw [if_pos trivial, if_pos trivial, ints_eq2 k hk, Option.bind_some, if_pos rfl, if_pos trivial]
 rfl
theorem wakes_bind (k : Nat) (hk : 5 ≤ k) : ((raddlelaw20_wakes.f k).bind fun t => some t) = some true := by rw [wakes_eq k hk]; rfl
end Go.Proofs.Ytimbbaoodjhdoaa.Plan
end
