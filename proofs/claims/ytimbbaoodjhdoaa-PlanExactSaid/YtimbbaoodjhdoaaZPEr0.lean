-- Put together by a program of this session (wip/slice2.py) out of the seat's texts.
import Derived.Test.YtimbbaoodjhdoaaZPEp6
import Derived.Test.YtimbbaoodjhdoaaZPEq0
import Derived.Test.YtimbbaoodjhdoaaZPEq1
import Derived.Test.YtimbbaoodjhdoaaZPEq2
import Derived.Test.YtimbbaoodjhdoaaZPEq3
import Derived.Test.YtimbbaoodjhdoaaZPEq4
import Derived.Test.YtimbbaoodjhdoaaZPEq5
import Derived.Test.YtimbbaoodjhdoaaZPEq6
import Derived.Test.YtimbbaoodjhdoaaZPEq7
import Derived.Test.YtimbbaoodjhdoaaZPEq8
import Derived.Test.YtimbbaoodjhdoaaZPEq9
import Derived.Test.YtimbbaoodjhdoaaZPEq10
import Derived.Test.YtimbbaoodjhdoaaZPEq11
import Derived.Test.YtimbbaoodjhdoaaZPEq12
import Derived.Test.YtimbbaoodjhdoaaZPEq13

set_option maxHeartbeats 8000000
set_option maxRecDepth 100000
open Go.Proofs.YtimbbaoodjhdoaaW Go.Proofs.Ytimbbaoodjhdoaa
section
namespace Go.Proofs.Ytimbbaoodjhdoaa.PAll
open Go.RowKit PrintWords PrintLast PrintMore ZipT PrintWords.Kd PrintMore.Kd
attribute [local go_sem] eA eC eM eN dT dS eD eB   -- for this text's walks alone
set_option linter.unusedVariables false
set_option linter.unusedSimpArgs false
def bC.f (k : Nat)  : Option (Bool) := (cP.f (([(⟨1, 0, 0, 0, (⟨0, 0, 0, (⟨0, 0, (⟨#[]⟩ : ByteArray)⟩ : S29)⟩ : S31), ([] : List Int), ([] : List Int), 0, 0⟩ : S34)] : List (S34))) (([(⟨(([3] : List Int))⟩ : S54)] : List (S54)))).bind fun bt319 => ((cQ.f (([(⟨1, 0, 0, 0, (⟨0, 0, 0, (⟨0, 0, (⟨#[]⟩ : ByteArray)⟩ : S29)⟩ : S31), ([] : List Int), ([] : List Int), 0, 0⟩ : S34)] : List (S34))) (([(⟨(([3] : List Int))⟩ : S54)] : List (S54)))).bind fun bt332 => (if bt319.2 = 0 then (if bt332.2.2 = 0 then ((raddlekeep_Ints.f k bt319.1 (([4, 3] : List Int))).bind fun t338 => (if t338 = true then (if bt332.1 = 1024 then (some (bt332.2.1 == 2147483648)) else (some false)) else (some false))) else (some false)) else (some false)))
theorem bC.mono : ∀ k, LeO (bC.f k ) (bC.f (k + 1) ) := by
 intro  k
 unfold bC.f
 repeat' first
   | (with_reducible exact raddlekeep_Ints.mono _ _ _)
   | (with_reducible exact LeO.refl _)
   | (with_reducible exact LeO.none _)
   | (with_reducible refine LeO.ite ?_ ?_)
   | (with_reducible refine LeO.bind ?_ (fun _ => ?_))
   | exact raddlekeep_Ints.mono _ _ _
   | exact LeO.none _
   | refine LeO.ite ?_ ?_
   | refine LeO.bind ?_ (fun _ => ?_)
theorem bC.callsT (k : Nat)  (r : Bool) (w : World) (hrt : r = true) (h : bC.f k  = some r) :
  Calls Try.prog 14 #[] w fun e w' => e = .returned (.bool r) ∧ Below w.heap.size w w' := by
 have hu34 := Try.underlying34
 have hu54 := Try.underlying54
 have HB := mk_ (Below.refl w.heap.size w)
 have H : ((cP.f (([(⟨1, 0, 0, 0, (⟨0, 0, 0, (⟨0, 0, (⟨#[]⟩ : ByteArray)⟩ : S29)⟩ : S31), ([] : List Int), ([] : List Int), 0, 0⟩ : S34)] : List (S34))) (([(⟨(([3] : List Int))⟩ : S54)] : List (S54)))).bind fun bt319 => ((cQ.f (([(⟨1, 0, 0, 0, (⟨0, 0, 0, (⟨0, 0, (⟨#[]⟩ : ByteArray)⟩ : S29)⟩ : S31), ([] : List Int), ([] : List Int), 0, 0⟩ : S34)] : List (S34))) (([(⟨(([3] : List Int))⟩ : S54)] : List (S54)))).bind fun bt332 => (if bt319.2 = 0 then (if bt332.2.2 = 0 then ((raddlekeep_Ints.f k bt319.1 (([4, 3] : List Int))).bind fun t338 => (if t338 = true then (if bt332.1 = 1024 then (some (bt332.2.1 == 2147483648)) else (some false)) else (some false))) else (some false)) else (some false)))) = some r := h
 clear h
 obtain ⟨y310, hy310⟩ : ∃ y_ : List (S34), y_ = (([(⟨1, 0, 0, 0, (⟨0, 0, 0, (⟨0, 0, (⟨#[]⟩ : ByteArray)⟩ : S29)⟩ : S31), ([] : List Int), ([] : List Int), 0, 0⟩ : S34)] : List (S34))) := ⟨_, rfl⟩
 replace H : ((cP.f y310 (([(⟨(([3] : List Int))⟩ : S54)] : List (S54)))).bind fun bt319 => ((cQ.f (([(⟨1, 0, 0, 0, (⟨0, 0, 0, (⟨0, 0, (⟨#[]⟩ : ByteArray)⟩ : S29)⟩ : S31), ([] : List Int), ([] : List Int), 0, 0⟩ : S34)] : List (S34))) (([(⟨(([3] : List Int))⟩ : S54)] : List (S54)))).bind fun bt332 => (if bt319.2 = 0 then (if bt332.2.2 = 0 then ((raddlekeep_Ints.f k bt319.1 (([4, 3] : List Int))).bind fun t338 => (if t338 = true then (if bt332.1 = 1024 then (some (bt332.2.1 == 2147483648)) else (some false)) else (some false))) else (some false)) else (some false)))) = some r := by first | (rw [hy310]; with_reducible exact H) | (have H2_ := (Option.bind_some _ _).symm.trans H; rw [hy310]; with_reducible exact H2_) | (have H2_ := (Option.bind_some _ _).symm.trans H; with_reducible exact H2_) | with_reducible exact H | (rw [hy310]; exact H) | exact H
 have Ny310 := mk_ hy310
 clear hy310
 obtain ⟨y313, hy313⟩ : ∃ y_ : List Int, y_ = (([3] : List Int)) := ⟨_, rfl⟩
 replace H : ((cP.f y310 (([(⟨y313⟩ : S54)] : List (S54)))).bind fun bt319 => ((cQ.f (([(⟨1, 0, 0, 0, (⟨0, 0, 0, (⟨0, 0, (⟨#[]⟩ : ByteArray)⟩ : S29)⟩ : S31), ([] : List Int), ([] : List Int), 0, 0⟩ : S34)] : List (S34))) (([(⟨(([3] : List Int))⟩ : S54)] : List (S54)))).bind fun bt332 => (if bt319.2 = 0 then (if bt332.2.2 = 0 then ((raddlekeep_Ints.f k bt319.1 (([4, 3] : List Int))).bind fun t338 => (if t338 = true then (if bt332.1 = 1024 then (some (bt332.2.1 == 2147483648)) else (some false)) else (some false))) else (some false)) else (some false)))) = some r := by first | (rw [hy313]; with_reducible exact H) | (have H2_ := (Option.bind_some _ _).symm.trans H; rw [hy313]; with_reducible exact H2_) | (have H2_ := (Option.bind_some _ _).symm.trans H; with_reducible exact H2_) | with_reducible exact H | (rw [hy313]; exact H) | exact H
 have Ny313 := mk_ hy313
 clear hy313
 obtain ⟨y316, hy316⟩ : ∃ y_ : List (S54), y_ = (([(⟨y313⟩ : S54)] : List (S54))) := ⟨_, rfl⟩
 replace H : ((cP.f y310 y316).bind fun bt319 => ((cQ.f (([(⟨1, 0, 0, 0, (⟨0, 0, 0, (⟨0, 0, (⟨#[]⟩ : ByteArray)⟩ : S29)⟩ : S31), ([] : List Int), ([] : List Int), 0, 0⟩ : S34)] : List (S34))) (([(⟨(([3] : List Int))⟩ : S54)] : List (S54)))).bind fun bt332 => (if bt319.2 = 0 then (if bt332.2.2 = 0 then ((raddlekeep_Ints.f k bt319.1 (([4, 3] : List Int))).bind fun t338 => (if t338 = true then (if bt332.1 = 1024 then (some (bt332.2.1 == 2147483648)) else (some false)) else (some false))) else (some false)) else (some false)))) = some r := by first | (rw [hy316]; with_reducible exact H) | (have H2_ := (Option.bind_some _ _).symm.trans H; rw [hy316]; with_reducible exact H2_) | (have H2_ := (Option.bind_some _ _).symm.trans H; with_reducible exact H2_) | with_reducible exact H | (rw [hy316]; exact H) | exact H
 have Ny316 := mk_ hy316
 clear hy316
 replace H := Option.bind_eq_some_iff.mp H
 obtain ⟨⟨t319, t320⟩, A10, H⟩ := H
 replace H : ((cQ.f (([(⟨1, 0, 0, 0, (⟨0, 0, 0, (⟨0, 0, (⟨#[]⟩ : ByteArray)⟩ : S29)⟩ : S31), ([] : List Int), ([] : List Int), 0, 0⟩ : S34)] : List (S34))) (([(⟨(([3] : List Int))⟩ : S54)] : List (S54)))).bind fun bt332 => (if t320 = 0 then (if bt332.2.2 = 0 then ((raddlekeep_Ints.f k t319 (([4, 3] : List Int))).bind fun t338 => (if t338 = true then (if bt332.1 = 1024 then (some (bt332.2.1 == 2147483648)) else (some false)) else (some false))) else (some false)) else (some false))) = some r := H
 have A1 := mk_ A10
 clear A10
 obtain ⟨y323, hy323⟩ : ∃ y_ : List (S34), y_ = (([(⟨1, 0, 0, 0, (⟨0, 0, 0, (⟨0, 0, (⟨#[]⟩ : ByteArray)⟩ : S29)⟩ : S31), ([] : List Int), ([] : List Int), 0, 0⟩ : S34)] : List (S34))) := ⟨_, rfl⟩
 replace H : ((cQ.f y323 (([(⟨(([3] : List Int))⟩ : S54)] : List (S54)))).bind fun bt332 => (if t320 = 0 then (if bt332.2.2 = 0 then ((raddlekeep_Ints.f k t319 (([4, 3] : List Int))).bind fun t338 => (if t338 = true then (if bt332.1 = 1024 then (some (bt332.2.1 == 2147483648)) else (some false)) else (some false))) else (some false)) else (some false))) = some r := by first | (rw [hy323]; with_reducible exact H) | (have H2_ := (Option.bind_some _ _).symm.trans H; rw [hy323]; with_reducible exact H2_) | (have H2_ := (Option.bind_some _ _).symm.trans H; with_reducible exact H2_) | with_reducible exact H | (rw [hy323]; exact H) | exact H
 have Ny323 := mk_ hy323
 clear hy323
 obtain ⟨y326, hy326⟩ : ∃ y_ : List Int, y_ = (([3] : List Int)) := ⟨_, rfl⟩
 replace H : ((cQ.f y323 (([(⟨y326⟩ : S54)] : List (S54)))).bind fun bt332 => (if t320 = 0 then (if bt332.2.2 = 0 then ((raddlekeep_Ints.f k t319 (([4, 3] : List Int))).bind fun t338 => (if t338 = true then (if bt332.1 = 1024 then (some (bt332.2.1 == 2147483648)) else (some false)) else (some false))) else (some false)) else (some false))) = some r := by first | (rw [hy326]; with_reducible exact H) | (have H2_ := (Option.bind_some _ _).symm.trans H; rw [hy326]; with_reducible exact H2_) | (have H2_ := (Option.bind_some _ _).symm.trans H; with_reducible exact H2_) | with_reducible exact H | (rw [hy326]; exact H) | exact H
 have Ny326 := mk_ hy326
 clear hy326
 obtain ⟨y329, hy329⟩ : ∃ y_ : List (S54), y_ = (([(⟨y326⟩ : S54)] : List (S54))) := ⟨_, rfl⟩
 replace H : ((cQ.f y323 y329).bind fun bt332 => (if t320 = 0 then (if bt332.2.2 = 0 then ((raddlekeep_Ints.f k t319 (([4, 3] : List Int))).bind fun t338 => (if t338 = true then (if bt332.1 = 1024 then (some (bt332.2.1 == 2147483648)) else (some false)) else (some false))) else (some false)) else (some false))) = some r := by first | (rw [hy329]; with_reducible exact H) | (have H2_ := (Option.bind_some _ _).symm.trans H; rw [hy329]; with_reducible exact H2_) | (have H2_ := (Option.bind_some _ _).symm.trans H; with_reducible exact H2_) | with_reducible exact H | (rw [hy329]; exact H) | exact H
 have Ny329 := mk_ hy329
 clear hy329
 replace H := Option.bind_eq_some_iff.mp H
 obtain ⟨⟨t332, t333, t334⟩, A20, H⟩ := H
 replace H : (if t320 = 0 then (if t334 = 0 then ((raddlekeep_Ints.f k t319 (([4, 3] : List Int))).bind fun t338 => (if t338 = true then (if t332 = 1024 then (some (t333 == 2147483648)) else (some false)) else (some false))) else (some false)) else (some false)) = some r := H
 have A2 := mk_ A20
 clear A20
 by_cases c3 : t320 = 0
 rotate_left
 ·
  rw [if_neg c3] at H
  have c3b0 : (t320 == 0) = false := beq_eq_false_iff_ne.mpr c3
  have c3b1 : (t320 != 0) = true := bne_iff_ne.mpr c3
  exact absurd H (by rw [hrt]; simp)
 rw [if_pos c3] at H
 have c3b0 : (t320 == 0) = true := beq_iff_eq.mpr c3
 have c3b1 : (t320 != 0) = false := bne_eq_false_iff_eq.mpr c3
 clear c3
 by_cases c4 : t334 = 0
 rotate_left
 ·
  rw [if_neg c4] at H
  have c4b0 : (t334 == 0) = false := beq_eq_false_iff_ne.mpr c4
  have c4b1 : (t334 != 0) = true := bne_iff_ne.mpr c4
  exact absurd H (by rw [hrt]; simp)
 rw [if_pos c4] at H
 have c4b0 : (t334 == 0) = true := beq_iff_eq.mpr c4
 have c4b1 : (t334 != 0) = false := bne_eq_false_iff_eq.mpr c4
 clear c4
 obtain ⟨y335, hy335⟩ : ∃ y_ : List Int, y_ = (([4, 3] : List Int)) := ⟨_, rfl⟩
 replace H : ((raddlekeep_Ints.f k t319 y335).bind fun t338 => (if t338 = true then (if t332 = 1024 then (some (t333 == 2147483648)) else (some false)) else (some false))) = some r := by first | (rw [hy335]; with_reducible exact H) | (have H2_ := (Option.bind_some _ _).symm.trans H; rw [hy335]; with_reducible exact H2_) | (have H2_ := (Option.bind_some _ _).symm.trans H; with_reducible exact H2_) | with_reducible exact H | (rw [hy335]; exact H) | exact H
 have Ny335 := mk_ hy335
 clear hy335
 replace H := Option.bind_eq_some_iff.mp H
 obtain ⟨t338, A50, H⟩ := H
 replace H : (if t338 = true then (if t332 = 1024 then (some (t333 == 2147483648)) else (some false)) else (some false)) = some r := H
 have A5 := mk_ A50
 clear A50
 by_cases c6 : t338 = true
 rotate_left
 ·
  replace c6 := Bool.eq_false_iff.mpr c6
  subst c6
  rw [if_neg (show ¬ (false = true) by decide)] at H
  exact absurd H (by rw [hrt]; simp)
 subst c6
 rw [if_pos rfl] at H
 by_cases c7 : t332 = 1024
 rotate_left
 ·
  rw [if_neg c7] at H
  have c7b0 : (t332 == 1024) = false := beq_eq_false_iff_ne.mpr c7
  have c7b1 : (t332 != 1024) = true := bne_iff_ne.mpr c7
  exact absurd H (by rw [hrt]; simp)
 rw [if_pos c7] at H
 have c7b0 : (t332 == 1024) = true := beq_iff_eq.mpr c7
 have c7b1 : (t332 != 1024) = false := bne_eq_false_iff_eq.mpr c7
 clear c7
 obtain rfl := Option.some.inj H
 go_enter Try.func14, Try.ntmps14
 go_wp2_with (first | ((with_reducible refine bH (N := 8) rfl ?_); refine N_lit k34 _ 34 ?hg (N' := 8) ?hd (xs := ([(⟨1, 0, 0, 0, (⟨0, 0, 0, (⟨0, 0, (⟨#[]⟩ : ByteArray)⟩ : S29)⟩ : S31), ([] : List Int), ([] : List Int), 0, 0⟩ : S34)] : List (S34))) (inner := [.int .i64 1, .int .i64 0, .int .i64 0, .int .i64 0, .int .i64 0, .int .i64 0, .int .i64 0, .int .i64 0, .int .i64 0, .string (⟨#[]⟩ : ByteArray), .slice none 0 0, .slice none 0 0, .int .i64 0, .int .i64 0]) (ok := (fun _ => True)) (okp := (fun _ => True)) ?hr ?hp (fun _ hk => hk) ((show ∀ k_, w.heap.size ≤ k_ → (fun _ => True) k_ from fun k_ hk => trivial) _ (Nat.le_refl _)) (Below.refl _ _) (Nat.le_refl _) (by simp) ?_; (case hd => rfl); (case hg => rfl); (case hr => first | (go_simp; done) | (go_simp; rfl)); (case hp => exact (Reps.front (show Kd.FK k34 _ _ (⟨1, 0, 0, 0, (⟨0, 0, 0, (⟨0, 0, (⟨#[]⟩ : ByteArray)⟩ : S29)⟩ : S31), ([] : List Int), ([] : List Int), 0, 0⟩ : S34) [.int .i64 1, .int .i64 0, .int .i64 0, .int .i64 0, .int .i64 0, .int .i64 0, .int .i64 0, .int .i64 0, .int .i64 0, .string (⟨#[]⟩ : ByteArray), .slice none 0 0, .slice none 0 0, .int .i64 0, .int .i64 0] from (k34_mkF _ _ (⟨1, 0, 0, 0, (⟨0, 0, 0, (⟨0, 0, (⟨#[]⟩ : ByteArray)⟩ : S29)⟩ : S31), ([] : List Int), ([] : List Int), 0, 0⟩ : S34) (Nat.le_refl _) (F_nil _ _ _) (Nat.le_refl _) (F_nil _ _ _))) rfl (Reps.none _ _) rfl)); intro v311 w8 ho9 hb hg_ hnew_; clear hg_ hnew_; (first | rw [← Ny310.out] at ho9 | (simp only [Int.reduceToNat] at ho9; rw [← Ny310.out] at ho9)); have n0_ := mk_ (fJ ho9 (aM (Short.hB HB))); have n1_ := mk_ (aG (Short.hB HB) hb); clear HB; revert n0_ n1_; intro HO312 HB; clear hb ho9) | ((with_reducible refine bH (N := 9) rfl ?_); refine R_lit (Kd.int .i64) _ 3 ?hg (N := 9) ?hd (xs := ([3] : List Int)) (inner := [.int .i64 3]) (ok := fun _ => True) (okp := fun _ => True) ?hr ?hp (fun _ hk => hk) trivial (Below.refl _ _) (Nat.le_refl _) (by simp) ?_; (case hd => rfl); (case hg => rfl); (case hr => first | (go_simp; done) | (go_simp; rfl)); (case hp => exact (Reps.one (show Kd.M (Kd.int .i64) _ _ _ 3 [.int .i64 3] from rfl) (Reps.none _ _))); intro v314 w10 ho11 hb hg_ hnew_; clear hg_ hnew_; (first | rw [← Ny313.out] at ho11 | (simp only [Int.reduceToNat] at ho11; rw [← Ny313.out] at ho11)); have n0_ := mk_ (N_elder' (ZKN HO312) (R_base ho11) hb); have n1_ := mk_ (bZ ho11 (aM (Short.hB HB))); have n2_ := mk_ (aG (Short.hB HB) hb); clear HO312 HB; revert n0_ n1_ n2_; intro HO312 HO315 HB; clear hb ho11; obtain ⟨Ao12, co12, eo12⟩ := bG HO315.out; subst eo12) | ((with_reducible refine bH (N := 11) rfl ?_); refine N_lit k54 _ 54 ?hg (N' := 11) ?hd (xs := ([(⟨y313⟩ : S54)] : List (S54))) (inner := [.slice Ao12 y313.length co12]) (ok := (fun k_ => nb_ k_ (v311))) (okp := (fun k_ => nb_ k_ (v311))) ?hr ?hp (fun _ hk => hk) ((show ∀ k_, w10.heap.size ≤ k_ → (fun k_ => nb_ k_ (v311)) k_ from fun k_ hk => Kd.fresh' (N_lt (ZKN HO312)) k_ hk) _ (Nat.le_refl _)) (Below.refl _ _) (Nat.le_refl _) (by simp) ?_; (case hd => rfl); (case hg => rfl); (case hr => first | (go_simp; done) | (go_simp; rfl)); (case hp => exact (Reps.one (show Kd.FK k54 _ _ (⟨y313⟩ : S54) [.slice Ao12 y313.length co12] from (k54_mkF _ _ (⟨y313⟩ : S54) (R_reads' (R_mono (ok' := (fun k_ => nb_ k_ (v311))) (R_apart' (HO315.out) (fD HO312.out) z11_) (fun k_ hk => hk.2))).2.1 (R_F (R_mono (ok' := (fun k_ => nb_ k_ (v311))) (R_apart' (HO315.out) (fD HO312.out) z11_) (fun k_ hk => hk.2))))) (Reps.none _ _))); intro v317 w13 ho14 hb hg_ hnew_; clear hg_ hnew_; (first | rw [← Ny316.out] at ho14 | (simp only [Int.reduceToNat] at ho14; rw [← Ny316.out] at ho14)); have n0_ := mk_ (N_elder' (ZKN HO312) (N_base ho14) hb); have n1_ := mk_ (fJ ho14 (aM (Short.hB HB))); have n2_ := mk_ (aG (Short.hB HB) hb); clear HO312 HB HO315; revert n0_ n1_ n2_; intro HO312 HO318 HB; clear hb ho14; obtain ⟨Ao15, co15, eo15⟩ := fK HO312.out; subst eo15; obtain ⟨Ao16, co16, eo16⟩ := fK HO318.out; subst eo16) | ((with_reducible refine aY (f := 12) rfl ?_); refine Short.gL (some 12) Try.func12 #[.slice Ao15 y310.length co15, .slice Ao16 y316.length co16] (h := ?_); (with_reducible refine (cP.calls _ _ y310 _ _ y316 t319 t320 _ ?side1 ?side2 ?side3 ?side4 A1.out).mono ?_); (case side1 => exact cX_ (N_reads' HO312.out).2.2); (case side2 => exact (N_reads' HO312.out).2.1); (case side3 => exact cX_ (N_reads' HO318.out).2.2); (case side4 => exact (N_reads' HO318.out).2.1); rintro e w17 ⟨v321, rfl, ho0, hb⟩; refine ⟨_, rfl, ?_⟩; have n0_ := mk_ (N_elder' (ZKN HO312) (R_base ho0) hb); have n1_ := mk_ (N_elder' (ZKN HO318) (R_base ho0) hb); have n2_ := mk_ (bZ ho0 (aM (Short.hB HB))); have n3_ := mk_ (aG (Short.hB HB) hb); clear HO312 HO318 HB; revert n0_ n1_ n2_ n3_; intro HO312 HO318 HO322 HB; (try clear hb ho0)) | ((with_reducible refine bH (N := 17) rfl ?_); refine N_lit k34 _ 34 ?hg (N' := 17) ?hd (xs := ([(⟨1, 0, 0, 0, (⟨0, 0, 0, (⟨0, 0, (⟨#[]⟩ : ByteArray)⟩ : S29)⟩ : S31), ([] : List Int), ([] : List Int), 0, 0⟩ : S34)] : List (S34))) (inner := [.int .i64 1, .int .i64 0, .int .i64 0, .int .i64 0, .int .i64 0, .int .i64 0, .int .i64 0, .int .i64 0, .int .i64 0, .string (⟨#[]⟩ : ByteArray), .slice none 0 0, .slice none 0 0, .int .i64 0, .int .i64 0]) (ok := (fun k_ => nb_ k_ (.slice Ao15 y310.length co15) ∧ nb_ k_ (.slice Ao16 y316.length co16) ∧ nb_ k_ (v321))) (okp := (fun k_ => nb_ k_ (.slice Ao15 y310.length co15) ∧ nb_ k_ (.slice Ao16 y316.length co16) ∧ nb_ k_ (v321))) ?hr ?hp (fun _ hk => hk) ((show ∀ k_, w17.heap.size ≤ k_ → (fun k_ => nb_ k_ (.slice Ao15 y310.length co15) ∧ nb_ k_ (.slice Ao16 y316.length co16) ∧ nb_ k_ (v321)) k_ from fun k_ hk => ⟨Kd.fresh' (N_lt (ZKN HO312)) k_ hk, Kd.fresh' (N_lt (ZKN HO318)) k_ hk, Kd.fresh' (R_lt (ZKR HO322)) k_ hk⟩) _ (Nat.le_refl _)) (Below.refl _ _) (Nat.le_refl _) (by simp) ?_; (case hd => rfl); (case hg => rfl); (case hr => first | (go_simp; done) | (go_simp; rfl)); (case hp => exact (Reps.front (show Kd.FK k34 _ _ (⟨1, 0, 0, 0, (⟨0, 0, 0, (⟨0, 0, (⟨#[]⟩ : ByteArray)⟩ : S29)⟩ : S31), ([] : List Int), ([] : List Int), 0, 0⟩ : S34) [.int .i64 1, .int .i64 0, .int .i64 0, .int .i64 0, .int .i64 0, .int .i64 0, .int .i64 0, .int .i64 0, .int .i64 0, .string (⟨#[]⟩ : ByteArray), .slice none 0 0, .slice none 0 0, .int .i64 0, .int .i64 0] from (k34_mkF _ _ (⟨1, 0, 0, 0, (⟨0, 0, 0, (⟨0, 0, (⟨#[]⟩ : ByteArray)⟩ : S29)⟩ : S31), ([] : List Int), ([] : List Int), 0, 0⟩ : S34) (Nat.le_refl _) (F_nil _ _ _) (Nat.le_refl _) (F_nil _ _ _))) rfl (Reps.none _ _) rfl)); intro v324 w18 ho19 hb hg_ hnew_; clear hg_ hnew_; (first | rw [← Ny323.out] at ho19 | (simp only [Int.reduceToNat] at ho19; rw [← Ny323.out] at ho19)); have n0_ := mk_ (N_elder' (ZKN HO312) (N_base ho19) hb); have n1_ := mk_ (N_elder' (ZKN HO318) (N_base ho19) hb); have n2_ := mk_ (cF (ZKR HO322) hb); have n3_ := mk_ (fJ ho19 (aM (Short.hB HB))); have n4_ := mk_ (aG (Short.hB HB) hb); clear HO312 HO318 HO322 HB; revert n0_ n1_ n2_ n3_ n4_; intro HO312 HO318 HO322 HO325 HB; clear hb ho19) | ((with_reducible refine bH (N := 18) rfl ?_); refine R_lit (Kd.int .i64) _ 3 ?hg (N := 18) ?hd (xs := ([3] : List Int)) (inner := [.int .i64 3]) (ok := fun _ => True) (okp := fun _ => True) ?hr ?hp (fun _ hk => hk) trivial (Below.refl _ _) (Nat.le_refl _) (by simp) ?_; (case hd => rfl); (case hg => rfl); (case hr => first | (go_simp; done) | (go_simp; rfl)); (case hp => exact (Reps.one (show Kd.M (Kd.int .i64) _ _ _ 3 [.int .i64 3] from rfl) (Reps.none _ _))); intro v327 w20 ho21 hb hg_ hnew_; clear hg_ hnew_; (first | rw [← Ny326.out] at ho21 | (simp only [Int.reduceToNat] at ho21; rw [← Ny326.out] at ho21)); have n0_ := mk_ (N_elder' (ZKN HO312) (R_base ho21) hb); have n1_ := mk_ (N_elder' (ZKN HO318) (R_base ho21) hb); have n2_ := mk_ (R_elder' (ZKR HO322) (R_base ho21) hb); have n3_ := mk_ (N_elder' (ZKN HO325) (R_base ho21) hb); have n4_ := mk_ (bZ (R_new' ho21 (R_lt (ZKR HO322))) (aM (Short.hB HB))); have n5_ := mk_ (aG (Short.hB HB) hb); clear HO312 HO318 HO322 HO325 HB; revert n0_ n1_ n2_ n3_ n4_ n5_; intro HO312 HO318 HO322 HO325 HO328 HB; clear hb ho21; obtain ⟨Ao22, co22, eo22⟩ := bG HO328.out; subst eo22) | ((with_reducible refine bH (N := 20) rfl ?_); refine N_lit k54 _ 54 ?hg (N' := 20) ?hd (xs := ([(⟨y326⟩ : S54)] : List (S54))) (inner := [.slice Ao22 y326.length co22]) (ok := (fun k_ => nb_ k_ (.slice Ao15 y310.length co15) ∧ nb_ k_ (.slice Ao16 y316.length co16) ∧ nb_ k_ (v321) ∧ nb_ k_ (v324))) (okp := (fun k_ => nb_ k_ (.slice Ao15 y310.length co15) ∧ nb_ k_ (.slice Ao16 y316.length co16) ∧ nb_ k_ (v321) ∧ nb_ k_ (v324))) ?hr ?hp (fun _ hk => hk) ((show ∀ k_, w20.heap.size ≤ k_ → (fun k_ => nb_ k_ (.slice Ao15 y310.length co15) ∧ nb_ k_ (.slice Ao16 y316.length co16) ∧ nb_ k_ (v321) ∧ nb_ k_ (v324)) k_ from fun k_ hk => ⟨Kd.fresh' (N_lt (ZKN HO312)) k_ hk, Kd.fresh' (N_lt (ZKN HO318)) k_ hk, Kd.fresh' (R_lt (ZKR HO322)) k_ hk, Kd.fresh' (N_lt (ZKN HO325)) k_ hk⟩) _ (Nat.le_refl _)) (Below.refl _ _) (Nat.le_refl _) (by simp) ?_; (case hd => rfl); (case hg => rfl); (case hr => first | (go_simp; done) | (go_simp; rfl)); (case hp => exact (Reps.one (show Kd.FK k54 _ _ (⟨y326⟩ : S54) [.slice Ao22 y326.length co22] from (k54_mkF _ _ (⟨y326⟩ : S54) (R_reads' (R_mono (ok' := (fun k_ => nb_ k_ (.slice Ao15 y310.length co15) ∧ nb_ k_ (.slice Ao16 y316.length co16) ∧ nb_ k_ (v321) ∧ nb_ k_ (v324))) (R_apart' (R_apart' (R_apart' (HO328.out) (fD HO312.out) z11_) (fD HO318.out) z11_) (fD HO325.out) z11_) (fun k_ hk => ⟨hk.1.1.2, ⟨hk.1.2, ⟨hk.1.1.1.2, hk.2⟩⟩⟩))).2.1 (R_F (R_mono (ok' := (fun k_ => nb_ k_ (.slice Ao15 y310.length co15) ∧ nb_ k_ (.slice Ao16 y316.length co16) ∧ nb_ k_ (v321) ∧ nb_ k_ (v324))) (R_apart' (R_apart' (R_apart' (HO328.out) (fD HO312.out) z11_) (fD HO318.out) z11_) (fD HO325.out) z11_) (fun k_ hk => ⟨hk.1.1.2, ⟨hk.1.2, ⟨hk.1.1.1.2, hk.2⟩⟩⟩))))) (Reps.none _ _))); intro v330 w23 ho24 hb hg_ hnew_; clear hg_ hnew_; (first | rw [← Ny329.out] at ho24 | (simp only [Int.reduceToNat] at ho24; rw [← Ny329.out] at ho24)); have n0_ := mk_ (N_elder' (ZKN HO312) (N_base ho24) hb); have n1_ := mk_ (N_elder' (ZKN HO318) (N_base ho24) hb); have n2_ := mk_ (cF (ZKR HO322) hb); have n3_ := mk_ (N_elder' (ZKN HO325) (N_base ho24) hb); have n4_ := mk_ (fJ ho24 (aM (Short.hB HB))); have n5_ := mk_ (aG (Short.hB HB) hb); clear HO312 HO318 HO322 HO325 HB HO328; revert n0_ n1_ n2_ n3_ n4_ n5_; intro HO312 HO318 HO322 HO325 HO331 HB; clear hb ho24; obtain ⟨Ao25, co25, eo25⟩ := fK HO325.out; subst eo25; obtain ⟨Ao26, co26, eo26⟩ := fK HO331.out; subst eo26) | ((with_reducible refine aY (f := 13) rfl ?_); refine Short.gL (some 21) Try.func13 #[.slice Ao25 y323.length co25, .slice Ao26 y329.length co26] (h := ?_); (with_reducible refine (cQ.calls _ _ y323 _ _ y329 t332 t333 t334 _ ?side1 ?side2 ?side3 ?side4 A2.out).mono ?_); (case side1 => exact cX_ (N_reads' HO325.out).2.2); (case side2 => exact (N_reads' HO325.out).2.1); (case side3 => exact cX_ (N_reads' HO331.out).2.2); (case side4 => exact (N_reads' HO331.out).2.1); rintro e w27 ⟨rfl, hb⟩; refine ⟨_, rfl, ?_⟩; have n0_ := mk_ (dA (ZKN HO312) hb); have n1_ := mk_ (dA (ZKN HO318) hb); have n2_ := mk_ (cF (ZKR HO322) hb); have n3_ := mk_ (dA (ZKN HO325) hb); have n4_ := mk_ (dA (ZKN HO331) hb); have n5_ := mk_ (aG (Short.hB HB) hb); clear HO312 HO318 HO322 HO325 HO331 HB; revert n0_ n1_ n2_ n3_ n4_ n5_; intro HO312 HO318 HO322 HO325 HO331 HB; (try clear hb)) | ((with_reducible refine bH (N := 33) rfl ?_); (try (refine bX z12_ ?_; dsimp only)); refine R_lit (Kd.int .i64) _ 3 ?hg (N := 33) ?hd (xs := ([4, 3] : List Int)) (inner := [.int .i64 4, .int .i64 3]) (ok := fun _ => True) (okp := fun _ => True) ?hr ?hp (fun _ hk => hk) trivial (Below.refl _ _) (Nat.le_refl _) (by simp) ?_; (case hd => rfl); (case hg => rfl); (case hr => first | (go_simp; done) | (go_simp; rfl)); (case hp => exact (Reps.one (show Kd.M (Kd.int .i64) _ _ _ 4 [.int .i64 4] from rfl) (Reps.one (show Kd.M (Kd.int .i64) _ _ _ 3 [.int .i64 3] from rfl) (Reps.none _ _)))); intro v336 w28 ho29 hb hg_ hnew_; clear hg_ hnew_; (first | rw [← Ny335.out] at ho29 | (simp only [Int.reduceToNat] at ho29; rw [← Ny335.out] at ho29)); have n0_ := mk_ (N_elder' (ZKN HO312) (R_base ho29) hb); have n1_ := mk_ (N_elder' (ZKN HO318) (R_base ho29) hb); have n2_ := mk_ (R_elder' (ZKR HO322) (R_base ho29) hb); have n3_ := mk_ (N_elder' (ZKN HO325) (R_base ho29) hb); have n4_ := mk_ (N_elder' (ZKN HO331) (R_base ho29) hb); have n5_ := mk_ (bZ (R_new' ho29 (R_lt (ZKR HO322))) (aM (Short.hB HB))); have n6_ := mk_ (aG (Short.hB HB) hb); clear HO312 HO318 HO322 HO325 HO331 HB; revert n0_ n1_ n2_ n3_ n4_ n5_ n6_; intro HO312 HO318 HO322 HO325 HO331 HO337 HB; clear hb ho29; obtain ⟨Ao30, co30, eo30⟩ := bG HO322.out; subst eo30; obtain ⟨Ao31, co31, eo31⟩ := bG HO337.out; subst eo31) | (go_at_call 18; (with_reducible refine (raddlekeep_Ints.calls k _ _ t319 _ _ y335 true _ ?side1 ?side2 ?side3 ?side4 A5.out).mono ?_); (case side1 => exact cX_ (R_reads' HO322.out).2.2); (case side2 => exact (R_reads' HO322.out).2.1); (case side3 => exact cX_ (R_reads' HO337.out).2.2); (case side4 => exact (R_reads' HO337.out).2.1); rintro e w' ⟨rfl, ⟨nd, rfl⟩⟩))
 go_ret
 exact ⟨q0, Short.hB HB⟩
theorem bC.only (k : Nat) (r : Bool) (h : bC.f k = some r) : r = true := by
 have hm : ∀ n, bC.f (k + n) = some r := fun n => by
  induction n with
  | zero => exact h
  | succ n ih => exact bC.mono (k + n) r ih
 have h5 := hm 5
 unfold bC.f at h5
 have hs : planSmall (([(⟨1, 0, 0, 0, (⟨0, 0, 0, (⟨0, 0, (⟨#[]⟩ : ByteArray)⟩ : S29)⟩ : S31), ([] : List Int), ([] : List Int), 0, 0⟩ : S34)] : List (S34))) (([(⟨(([3] : List Int))⟩ : S54)] : List (S54))) := by decide
 have hp : Go.Proofs.Ytimbbaoodjhdoaa.Plan.planN (([(⟨1, 0, 0, 0, (⟨0, 0, 0, (⟨0, 0, (⟨#[]⟩ : ByteArray)⟩ : S29)⟩ : S31), ([] : List Int), ([] : List Int), 0, 0⟩ : S34)] : List (S34))) (([(⟨(([3] : List Int))⟩ : S54)] : List (S54))) = ([([4, 3], 1024, 2147483648)], 0) := by decide
 have hq : Go.Proofs.Ytimbbaoodjhdoaa.Plan.lastN (([(⟨1, 0, 0, 0, (⟨0, 0, 0, (⟨0, 0, (⟨#[]⟩ : ByteArray)⟩ : S29)⟩ : S31), ([] : List Int), ([] : List Int), 0, 0⟩ : S34)] : List (S34))) (([(⟨(([3] : List Int))⟩ : S54)] : List (S54))) = ([4, 3], 1024, 2147483648) := by unfold Go.Proofs.Ytimbbaoodjhdoaa.Plan.lastN; rw [hp]; rfl
 have e1 : cP.f (([(⟨1, 0, 0, 0, (⟨0, 0, 0, (⟨0, 0, (⟨#[]⟩ : ByteArray)⟩ : S29)⟩ : S31), ([] : List Int), ([] : List Int), 0, 0⟩ : S34)] : List (S34))) (([(⟨(([3] : List Int))⟩ : S54)] : List (S54))) = some ([4, 3], 0) := by unfold cP.f; rw [if_pos hs, hp, hq]
 have e2 : cQ.f (([(⟨1, 0, 0, 0, (⟨0, 0, 0, (⟨0, 0, (⟨#[]⟩ : ByteArray)⟩ : S29)⟩ : S31), ([] : List Int), ([] : List Int), 0, 0⟩ : S34)] : List (S34))) (([(⟨(([3] : List Int))⟩ : S54)] : List (S54))) = some (1024, 2147483648, 0) := by unfold cQ.f; rw [if_pos hs, hp, hq]
 have e3 : raddlekeep_Ints.f (k + 5) [4, 3] [4, 3] = some true := by
  unfold raddlekeep_Ints.f
  simp [raddlekeep_Ints.l0, rd, wrap64]
 rw [e1, e2] at h5
 simp only [Option.bind_some] at h5
 rw [if_pos trivial, if_pos trivial, e3, Option.bind_some, if_pos rfl, if_pos trivial] at h5
 exact (Option.some.inj h5).symm
theorem bC.calls (k : Nat)  (r : Bool) (w : World) (h : bC.f k  = some r) :
  Calls Try.prog 14 #[] w fun e w' => e = .returned (.bool r) ∧ Below w.heap.size w w' :=
 bC.callsT k r w (bC.only k r h) h
end Go.Proofs.Ytimbbaoodjhdoaa.PAll
end
section
namespace Go.Proofs.Ytimbbaoodjhdoaa.PAll
open Go.RowKit PrintWords PrintLast PrintMore ZipT PrintWords.Kd PrintMore.Kd
attribute [local go_sem] eA eC eM eN dT dS eD eB   -- for this text's walks alone
set_option linter.unusedVariables false
set_option linter.unusedSimpArgs false
mutual
def aI.j0 : Nat → List (S34) → List (S54) → Int → Bool → Option (Bool)
 | 0, _, _, _, _ => none
 | k + 1, x0, x1, x2, x24 => if x24 = true then (some true) else ((aZ.f k x0).bind fun t374 => ((bM.f k x1).bind fun t377 => ((cP.f t374 t377).bind fun bt380 => ((cQ.f t374 t377).bind fun bt384 => ((cW.f x0 x1).bind fun bt387 => (aI.l0 k x0 x1 x2 t374 t377 bt380.1 bt380.2 bt384.1 bt384.2.1 bt384.2.2 bt387.1 bt387.2 false 0))))))
def aI.l0 : Nat → List (S34) → List (S54) → Int → List (S34) → List (S54) → List Int → Int → Int → Int → Int → List (S49) → Int → Bool → Int → Option (Bool)
 | 0, _, _, _, _, _, _, _, _, _, _, _, _, _, _ => none
 | k + 1, x0, x1, x2, x7, x8, x9, x10, x11, x12, x13, x14, x15, x16, x17 => if x17 < (x0.length : Int) then (if x16 = true then (aI.l0 k x0 x1 x2 x7 x8 x9 x10 x11 x12 x13 x14 x15 true (wrap64 (x17 + 1))) else (if 0 ≤ x17 then (if ((aH x0 x17).f0) = 1 then (aI.l0 k x0 x1 x2 x7 x8 x9 x10 x11 x12 x13 x14 x15 (((aH x0 x17).f3) == x2) (wrap64 (x17 + 1))) else (aI.l0 k x0 x1 x2 x7 x8 x9 x10 x11 x12 x13 x14 x15 false (wrap64 (x17 + 1)))) else (none))) else ((eT.f x7 x2).bind fun t393 => (if (t393 != x16) = true then (aI.j2 k x1 x7 x8 x9 x11 x12 x14 x15 true) else ((dD.f x7 x0).bind fun t394 => (if t394 = true then ((bL.f k x8 x1).bind fun t395 => (if t395 = true then (if x10 = x15 then (aI.j2 k x1 x7 x8 x9 x11 x12 x14 x15 (x13 != x15)) else (aI.j2 k x1 x7 x8 x9 x11 x12 x14 x15 true)) else (aI.j2 k x1 x7 x8 x9 x11 x12 x14 x15 true))) else (aI.j2 k x1 x7 x8 x9 x11 x12 x14 x15 true)))))
def aI.j2 : Nat → List (S54) → List (S34) → List (S54) → List Int → Int → Int → List (S49) → Int → Bool → Option (Bool)
 | 0, _, _, _, _, _, _, _, _, _ => none
 | k + 1, x1, x7, x8, x9, x11, x12, x14, x15, x98 => if x98 = true then (some false) else (if x15 = 0 then (if 0 ≤ (wrap64 ((x14.length : Int) - 1)) then (if (wrap64 ((x14.length : Int) - 1)) < (x14.length : Int) then ((raddlekeep_Ints.f k x9 ((bP x14 (wrap64 ((x14.length : Int) - 1))).f0)).bind fun t399 => (if t399 = true then (if x11 = ((bP x14 (wrap64 ((x14.length : Int) - 1))).f1) then (if x12 = ((bP x14 (wrap64 ((x14.length : Int) - 1))).f2) then ((bN.f k x9).bind fun t400 => ((cP.f x7 x8).bind fun bt401 => (if bt401.2 = 0 then ((raddlekeep_Ints.f k bt401.1 ((bP x14 (wrap64 ((x14.length : Int) - 1))).f0)).bind fun t405 => (if t405 = true then ((bL.f k x8 x1).bind fun t406 => (if t406 = true then ((bC.f k).bind fun t407 => (some t407)) else (some false))) else (some false))) else (some false)))) else (some false)) else (some false)) else (some false))) else (none)) else (none)) else (if (x9.length : Int) = 0 then (if x11 = 0 then (if x12 = 0 then ((bC.f k).bind fun t396 => (some t396)) else (some false)) else (some false)) else (some false)))
end
def aI.f (k : Nat) (l0 : List (S34)) (l1 : List (S54)) (a2 : Int) : Option (Bool) := (bR.f k l0).bind fun t372 => (if t372 = true then (aI.j0 k l0 l1 a2 true) else ((bJ.f k l1).bind fun t373 => (aI.j0 k l0 l1 a2 t373)))
theorem aI.calls (k : Nat) (A0 : Option Addr) (c0 : Nat) (l0 : List (S34)) (A1 : Option Addr) (c1 : Nat) (l1 : List (S54)) (a2 : Int) (r : Bool) (w : World) (hr0 : Kd.C k34 w A0 l0.length l0) (hc0 : l0.length ≤ c0) (hr1 : Kd.C k54 w A1 l1.length l1) (hc1 : l1.length ≤ c1) (hrt : r = true) (h : aI.f k l0 l1 a2 = some r) :
  Calls Try.prog 8 #[.slice A0 l0.length c0, .slice A1 l1.length c1, .int .i64 a2] w fun e w' => e = .returned (.bool r) ∧ Below w.heap.size w w' := by
 have hu49 := Try.underlying49
 have HR0 := mk_ hr0
 have HC0 := mk_ hc0
 clear hr0 hc0
 have HR1 := mk_ hr1
 have HC1 := mk_ hc1
 clear hr1 hc1
 have HB := mk_ (Below.refl w.heap.size w)
 have H : ((bR.f k l0).bind fun t372 => (if t372 = true then (aI.j0 k l0 l1 a2 true) else ((bJ.f k l1).bind fun t373 => (aI.j0 k l0 l1 a2 t373)))) = some r := h
 clear h
 have HC4 := mk_ H
 clear H
 go_enter Try.func8, Try.ntmps8
 go_upto_region 1 with (fail)
 go_cut [24] (fun v24 wc => ∃ (kq : Nat) (x24_3 : Bool), v24 = .bool x24_3 ∧ Aside0 (aI.j0 kq l0 l1 a2 x24_3 = some r) ∧ Aside0 (kq ≤ k) ∧ Aside0 (Below w.heap.size w wc))
 case first =>
  have H := HC4.out
  clear HC4
  replace H := Option.bind_eq_some_iff.mp H
  obtain ⟨t372, A50, H⟩ := H
  replace H : (if t372 = true then (aI.j0 k l0 l1 a2 true) else ((bJ.f k l1).bind fun t373 => (aI.j0 k l0 l1 a2 t373))) = some r := H
  have A5 := mk_ A50
  clear A50
  by_cases c6 : t372 = true
  ·
   subst c6
   rw [if_pos rfl] at H
   have H' := mk_ H
   clear H
   go_wp2_with (first | ((with_reducible refine aY (f := 15) rfl ?_); refine Short.gL (some 20) Try.func15 #[.slice A0 l0.length c0] (h := ?_); (with_reducible refine (bR.calls k _ _ l0 true _ ?side1 ?side2 A5.out).mono ?_); (case side1 => exact cX_ (aN HR0.out HB.out)); (case side2 => exact HC0.out); rintro e w7 ⟨rfl, hb⟩; refine ⟨_, rfl, ?_⟩; have n0_ := mk_ (aG (Short.hB HB) hb); clear HB; revert n0_; intro HB; (try clear hb)))
   go_meet
   case rel => exact ⟨_, (true), z8_, H', ⟨by first | omega | exact Nat.le_refl _⟩, ⟨Short.hB HB⟩⟩
  replace c6 := Bool.eq_false_iff.mpr c6
  subst c6
  rw [if_neg (show ¬ (false = true) by decide)] at H
  replace H := Option.bind_eq_some_iff.mp H
  obtain ⟨t373, A80, H⟩ := H
  replace H : (aI.j0 k l0 l1 a2 t373) = some r := H
  have A8 := mk_ A80
  clear A80
  have H' := mk_ H
  clear H
  go_wp2_with (first | ((with_reducible refine aY (f := 15) rfl ?_); refine Short.gL (some 20) Try.func15 #[.slice A0 l0.length c0] (h := ?_); (with_reducible refine (bR.calls k _ _ l0 false _ ?side1 ?side2 A5.out).mono ?_); (case side1 => exact cX_ (aN HR0.out HB.out)); (case side2 => exact HC0.out); rintro e w9 ⟨rfl, hb⟩; refine ⟨_, rfl, ?_⟩; have n0_ := mk_ (aG (Short.hB HB) hb); clear HB; revert n0_; intro HB; (try clear hb)) | (go_at_call 10; (with_reducible refine (bJ.calls k _ _ l1 t373 _ ?side1 ?side2 A8.out).mono ?_); (case side1 => exact cX_ (aN HR1.out HB.out)); (case side2 => exact HC1.out); rintro e w' ⟨rfl, ⟨nd, rfl⟩⟩))
  go_meet
  case rel => exact ⟨_, (t373), z8_, H', ⟨by first | omega | exact Nat.le_refl _⟩, ⟨Short.hB HB⟩⟩
 case rest =>
  clear HC4
  try clear c1
  try clear p2
  try clear c6
  try clear c8
  obtain ⟨kq, x24_3, rfl, HA, HJ3, HB⟩ := hcut
  cases kq with
  | zero => exact absurd HA.out (by simp [aI.j0])
  | succ kj3 =>
   have H := HA.out
   clear HA
   simp only [aI.j0] at H
   by_cases c10 : x24_3 = true
   ·
    subst c10
    rw [if_pos rfl] at H
    obtain rfl := Option.some.inj H
    go_wp2
    go_ret
    exact ⟨by first | rfl | (rw [hrt]; rfl) | (simp [cS, cT] <;> rfl) | (simp [*, cS, cT] <;> rfl), Short.hB HB⟩
   replace c10 := Bool.eq_false_iff.mpr c10
   subst c10
   rw [if_neg (show ¬ (false = true) by decide)] at H
   replace H := Option.bind_eq_some_iff.mp H
   obtain ⟨t374, A110, H⟩ := H
   replace H : ((bM.f kj3 l1).bind fun t377 => ((cP.f t374 t377).bind fun bt380 => ((cQ.f t374 t377).bind fun bt384 => ((cW.f l0 l1).bind fun bt387 => (aI.l0 kj3 l0 l1 a2 t374 t377 bt380.1 bt380.2 bt384.1 bt384.2.1 bt384.2.2 bt387.1 bt387.2 false 0))))) = some r := H
   have A11 := mk_ A110
   clear A110
   replace H := Option.bind_eq_some_iff.mp H
   obtain ⟨t377, A120, H⟩ := H
   replace H : ((cP.f t374 t377).bind fun bt380 => ((cQ.f t374 t377).bind fun bt384 => ((cW.f l0 l1).bind fun bt387 => (aI.l0 kj3 l0 l1 a2 t374 t377 bt380.1 bt380.2 bt384.1 bt384.2.1 bt384.2.2 bt387.1 bt387.2 false 0)))) = some r := H
   have A12 := mk_ A120
   clear A120
   replace H := Option.bind_eq_some_iff.mp H
   obtain ⟨⟨t380, t381⟩, A130, H⟩ := H
   replace H : ((cQ.f t374 t377).bind fun bt384 => ((cW.f l0 l1).bind fun bt387 => (aI.l0 kj3 l0 l1 a2 t374 t377 t380 t381 bt384.1 bt384.2.1 bt384.2.2 bt387.1 bt387.2 false 0))) = some r := H
   have A13 := mk_ A130
   clear A130
   replace H := Option.bind_eq_some_iff.mp H
   obtain ⟨⟨t384, t385, t386⟩, A140, H⟩ := H
   replace H : ((cW.f l0 l1).bind fun bt387 => (aI.l0 kj3 l0 l1 a2 t374 t377 t380 t381 t384 t385 t386 bt387.1 bt387.2 false 0)) = some r := H
   have A14 := mk_ A140
   clear A140
   replace H := Option.bind_eq_some_iff.mp H
   obtain ⟨⟨t387, t388⟩, A150, H⟩ := H
   replace H : (aI.l0 kj3 l0 l1 a2 t374 t377 t380 t381 t384 t385 t386 t387 t388 false 0) = some r := H
   have A15 := mk_ A150
   clear A150
   have H' := mk_ H
   clear H
   go_wp2_with (first | ((with_reducible refine aY (f := 17) rfl ?_); refine Short.gL (some 26) Try.func17 #[.slice A0 l0.length c0] (h := ?_); (with_reducible refine (aZ.calls kj3 _ _ l0 t374 _ ?side1 ?side2 A11.out).mono ?_); (case side1 => exact cX_ (aN HR0.out HB.out)); (case side2 => exact HC0.out); rintro e w16 ⟨v375, rfl, ho0, hb⟩; refine ⟨_, rfl, ?_⟩; have n0_ := mk_ (fJ (N_mono (ok' := fun k_ => True) (S_N (fN ho0)) (fun k_ hk_ => trivial)) (aM (Short.hB HB))); have n1_ := mk_ (aG (Short.hB HB) hb); clear HB; revert n0_ n1_; intro HO376 HB; (try clear hb ho0)) | ((with_reducible refine aY (f := 20) rfl ?_); refine Short.gL (some 28) Try.func20 #[.slice A1 l1.length c1] (h := ?_); (with_reducible refine (bM.calls kj3 _ _ l1 t377 _ ?side1 ?side2 A12.out).mono ?_); (case side1 => exact cX_ (aN HR1.out HB.out)); (case side2 => exact HC1.out); rintro e w17 ⟨v378, rfl, ho0, hb⟩; refine ⟨_, rfl, ?_⟩; have n0_ := mk_ (N_elder' (ZKN HO376) (S_base ho0) hb); have n1_ := mk_ (fJ (N_mono (ok' := fun k_ => nb_ k_ (v375)) (S_N (fN ho0)) (fun k_ hk_ => (Kd.fresh' (N_lt (ZKN HO376)) k_ hk_.2.1))) (aM (Short.hB HB))); have n2_ := mk_ (aG (Short.hB HB) hb); clear HO376 HB; revert n0_ n1_ n2_; intro HO376 HO379 HB; (try clear hb ho0); obtain ⟨Ao18, co18, eo18⟩ := fK HO376.out; subst eo18; obtain ⟨Ao19, co19, eo19⟩ := fK HO379.out; subst eo19) | ((with_reducible refine aY (f := 12) rfl ?_); refine Short.gL (some 32) Try.func12 #[.slice Ao18 t374.length co18, .slice Ao19 t377.length co19] (h := ?_); (with_reducible refine (cP.calls _ _ t374 _ _ t377 t380 t381 _ ?side1 ?side2 ?side3 ?side4 A13.out).mono ?_); (case side1 => exact cX_ (N_reads' HO376.out).2.2); (case side2 => exact (N_reads' HO376.out).2.1); (case side3 => exact cX_ (N_reads' HO379.out).2.2); (case side4 => exact (N_reads' HO379.out).2.1); rintro e w20 ⟨v382, rfl, ho0, hb⟩; refine ⟨_, rfl, ?_⟩; have n0_ := mk_ (N_elder' (ZKN HO376) (R_base ho0) hb); have n1_ := mk_ (N_elder' (ZKN HO379) (R_base ho0) hb); have n2_ := mk_ (bZ ho0 (aM (Short.hB HB))); have n3_ := mk_ (aG (Short.hB HB) hb); clear HO376 HO379 HB; revert n0_ n1_ n2_ n3_; intro HO376 HO379 HO383 HB; (try clear hb ho0)) | ((with_reducible refine aY (f := 13) rfl ?_); refine Short.gL (some 38) Try.func13 #[.slice Ao18 t374.length co18, .slice Ao19 t377.length co19] (h := ?_); (with_reducible refine (cQ.calls _ _ t374 _ _ t377 t384 t385 t386 _ ?side1 ?side2 ?side3 ?side4 A14.out).mono ?_); (case side1 => exact cX_ (N_reads' HO376.out).2.2); (case side2 => exact (N_reads' HO376.out).2.1); (case side3 => exact cX_ (N_reads' HO379.out).2.2); (case side4 => exact (N_reads' HO379.out).2.1); rintro e w21 ⟨rfl, hb⟩; refine ⟨_, rfl, ?_⟩; have n0_ := mk_ (dA (ZKN HO376) hb); have n1_ := mk_ (dA (ZKN HO379) hb); have n2_ := mk_ (cF (ZKR HO383) hb); have n3_ := mk_ (aG (Short.hB HB) hb); clear HO376 HO379 HO383 HB; revert n0_ n1_ n2_ n3_; intro HO376 HO379 HO383 HB; (try clear hb)) | ((with_reducible refine aY (f := 11) rfl ?_); refine Short.gL (some 45) Try.func11 #[.slice A0 l0.length c0, .slice A1 l1.length c1] (h := ?_); (with_reducible refine (cW.calls _ _ l0 _ _ l1 t387 t388 _ ?side1 ?side2 ?side3 ?side4 A15.out).mono ?_); (case side1 => exact cX_ (aN HR0.out HB.out)); (case side2 => exact HC0.out); (case side3 => exact cX_ (aN HR1.out HB.out)); (case side4 => exact HC1.out); rintro e w22 ⟨v389, rfl, ho0, hb⟩; refine ⟨_, rfl, ?_⟩; have n0_ := mk_ (N_elder' (ZKN HO376) (S_base ho0) hb); have n1_ := mk_ (N_elder' (ZKN HO379) (S_base ho0) hb); have n2_ := mk_ (cF (ZKR HO383) hb); have n3_ := mk_ (fJ (N_mono (ok' := fun k_ => nb_ k_ (.slice Ao18 t374.length co18) ∧ nb_ k_ (.slice Ao19 t377.length co19) ∧ nb_ k_ (v382)) (S_N (fN ho0)) (fun k_ hk_ => ⟨(Kd.fresh' (N_lt (ZKN HO376)) k_ hk_.2.1), (Kd.fresh' (N_lt (ZKN HO379)) k_ hk_.2.1), (Kd.fresh' (R_lt (ZKR HO383)) k_ hk_.2.1)⟩)) (aM (Short.hB HB))); have n4_ := mk_ (aG (Short.hB HB) hb); clear HO376 HO379 HO383 HB; revert n0_ n1_ n2_ n3_ n4_; intro HO376 HO379 HO383 HO390 HB; (try clear hb ho0)))
   go_loopg [16, 17] kj3 (fun kq v16 v17 w' => ∃ (x16_2 : Bool) (x17_2 : Int), v16 = .bool x16_2 ∧ v17 = .int .i64 x17_2 ∧ Aside0 (aI.l0 kq l0 l1 a2 t374 t377 t380 t381 t384 t385 t386 t387 t388 x16_2 x17_2 = some r) ∧ Aside0 (kq ≤ kj3) ∧ Aside0 (Kd.N k34 34 w' w.heap.size (fun k_ => nb_ k_ ((.slice Ao19 t377.length co19)) ∧ nb_ k_ (v382) ∧ nb_ k_ (v389)) (.slice Ao18 t374.length co18) t374) ∧ Aside0 (Kd.N k54 54 w' w.heap.size (fun k_ => nb_ k_ ((.slice Ao18 t374.length co18)) ∧ nb_ k_ (v382) ∧ nb_ k_ (v389)) (.slice Ao19 t377.length co19) t377) ∧ Aside0 (Kd.R (Kd.int .i64) 3 w' w.heap.size (fun _ => True) v382 t380) ∧ Aside0 (Kd.N k49 49 w' w.heap.size (fun k_ => nb_ k_ ((.slice Ao18 t374.length co18)) ∧ nb_ k_ ((.slice Ao19 t377.length co19)) ∧ nb_ k_ (v382)) v389 t387) ∧ Aside0 (Below w.heap.size w w'))
   case atStart => exact ⟨(false), (0), z8_, z8_, H', ⟨Nat.le_refl _⟩, ⟨by (with_reducible repeat (first | apply N_alloc | apply N_drewN | apply N_drew)); exact N_mono HO376.out (fun _ hk => ⟨hk.1.1.2, ⟨hk.1.2, hk.2⟩⟩)⟩, ⟨by (with_reducible repeat (first | apply N_alloc | apply N_drewN | apply N_drew)); exact N_mono HO379.out (fun _ hk => ⟨hk.1.1, ⟨hk.1.2, hk.2⟩⟩)⟩, ⟨by (with_reducible repeat (first | apply R_alloc | apply R_drewN | apply R_drew)); exact HO383.out⟩, ⟨by (with_reducible repeat (first | apply N_alloc | apply N_drewN | apply N_drew)); exact HO390.out⟩, ⟨Short.hB HB⟩⟩
   case round =>
    clear H'
    try clear c1
    try clear c2
    try clear p2
    try clear c6
    try clear c8
    try clear c10
    try clear c11
    try clear c12
    try clear c13
    try clear c15
    try clear c17
    try clear c20
    try clear p2
    obtain ⟨x16_2, x17_2, rfl, rfl, HA, HK2, HO_7, HO_8, HO_9, HO_14, HB⟩ := hrel
    cases gk with
    | zero => exact absurd HA.out (by simp [aI.l0])
    | succ k2 =>
     have H := HA.out
     clear HA
     simp only [aI.l0] at H
     by_cases c23 : x17_2 < (l0.length : Int)
     ·
      rw [if_pos c23] at H
      have c23b0 : decide (x17_2 < (l0.length : Int)) = true := decide_eq_true c23
      clear c23
      by_cases c24 : x16_2 = true
      ·
       subst c24
       rw [if_pos rfl] at H
       have H' := mk_ H
       clear H
       go_wp2
       go_roundg k2
       case measure => have := HJ3.out; have := HK2.out; omega
       case rel => exact ⟨(true), (wrap64 (x17_2 + 1)), z8_, z8_, H', ⟨by have := HJ3.out; have := HK2.out; omega⟩, ⟨by (with_reducible repeat (first | apply N_alloc | apply N_drewN | apply N_drew)); exact HO_7.out⟩, ⟨by (with_reducible repeat (first | apply N_alloc | apply N_drewN | apply N_drew)); exact HO_8.out⟩, ⟨by (with_reducible repeat (first | apply R_alloc | apply R_drewN | apply R_drew)); exact HO_9.out⟩, ⟨by (with_reducible repeat (first | apply N_alloc | apply N_drewN | apply N_drew)); exact HO_14.out⟩, ⟨Short.hB HB⟩⟩
      replace c24 := Bool.eq_false_iff.mpr c24
      subst c24
      rw [if_neg (show ¬ (false = true) by decide)] at H
      by_cases c25 : 0 ≤ x17_2
      rotate_left
      ·
       rw [if_neg c25] at H
       exact absurd H (by simp)
      rw [if_pos c25] at H
      have c25b0 : decide (0 ≤ x17_2) = true := decide_eq_true c25
      clear c25
      by_cases c26 : ((aH l0 x17_2).f0) = 1
      rotate_left
      ·
       rw [if_neg c26] at H
       have c26b0 : (((aH l0 x17_2).f0) == 1) = false := beq_eq_false_iff_ne.mpr c26
       have c26b1 : (((aH l0 x17_2).f0) != 1) = true := bne_iff_ne.mpr c26
       have H' := mk_ H
       clear H
       have p391 : 0 ≤ (x17_2 : Int) := of_decide_eq_true z4_
       have q391 : x17_2 < (l0.length : Int) := of_decide_eq_true z4_
       obtain ⟨ad391, A391_10, c391_10, A391_11, c391_11, e391, hx391_0, hx391_1, hx391_2, hx391_3, hx391_4, hx391_5, hx391_6, hx391_7, hx391_8, hx391_9, hx391_10, hx391_11, hx391_12, hx391_13, hl391_10, hi391_10, hl391_11, hi391_11⟩ := eE HR0.out x17_2 p391 q391
       cases e391
       replace hx391_0 := up_ HB hx391_0
       replace hx391_1 := up_ HB hx391_1
       replace hx391_2 := up_ HB hx391_2
       replace hx391_3 := up_ HB hx391_3
       replace hx391_4 := up_ HB hx391_4
       replace hx391_5 := up_ HB hx391_5
       replace hx391_6 := up_ HB hx391_6
       replace hx391_7 := up_ HB hx391_7
       replace hx391_8 := up_ HB hx391_8
       replace hx391_9 := up_ HB hx391_9
       replace hx391_10 := up_ HB hx391_10
       replace hx391_11 := up_ HB hx391_11
       replace hx391_12 := up_ HB hx391_12
       replace hx391_13 := up_ HB hx391_13
       have HR391_10 := mk_ hi391_10
       have HC391_10 := mk_ hl391_10
       clear hi391_10 hl391_10
       have HR391_11 := mk_ hi391_11
       have HC391_11 := mk_ hl391_11
       clear hi391_11 hl391_11
       replace p391 := eq_true p391
       replace q391 := eq_true q391
       go_wp2
       go_roundg k2
       case measure => have := HJ3.out; have := HK2.out; omega
       case rel => exact ⟨(false), (wrap64 (x17_2 + 1)), z8_, z8_, H', ⟨by have := HJ3.out; have := HK2.out; omega⟩, ⟨by (with_reducible repeat (first | apply N_alloc | apply N_drewN | apply N_drew)); exact HO_7.out⟩, ⟨by (with_reducible repeat (first | apply N_alloc | apply N_drewN | apply N_drew)); exact HO_8.out⟩, ⟨by (with_reducible repeat (first | apply R_alloc | apply R_drewN | apply R_drew)); exact HO_9.out⟩, ⟨by (with_reducible repeat (first | apply N_alloc | apply N_drewN | apply N_drew)); exact HO_14.out⟩, ⟨Short.hB HB⟩⟩
      rw [if_pos c26] at H
      have c26b0 : (((aH l0 x17_2).f0) == 1) = true := beq_iff_eq.mpr c26
      have c26b1 : (((aH l0 x17_2).f0) != 1) = false := bne_eq_false_iff_eq.mpr c26
      clear c26
      have H' := mk_ H
      clear H
      have p391 : 0 ≤ (x17_2 : Int) := of_decide_eq_true z4_
      have q391 : x17_2 < (l0.length : Int) := of_decide_eq_true z4_
      obtain ⟨ad391, A391_10, c391_10, A391_11, c391_11, e391, hx391_0, hx391_1, hx391_2, hx391_3, hx391_4, hx391_5, hx391_6, hx391_7, hx391_8, hx391_9, hx391_10, hx391_11, hx391_12, hx391_13, hl391_10, hi391_10, hl391_11, hi391_11⟩ := eE HR0.out x17_2 p391 q391
      cases e391
      replace hx391_0 := up_ HB hx391_0
      replace hx391_1 := up_ HB hx391_1
      replace hx391_2 := up_ HB hx391_2
      replace hx391_3 := up_ HB hx391_3
      replace hx391_4 := up_ HB hx391_4
      replace hx391_5 := up_ HB hx391_5
      replace hx391_6 := up_ HB hx391_6
      replace hx391_7 := up_ HB hx391_7
      replace hx391_8 := up_ HB hx391_8
      replace hx391_9 := up_ HB hx391_9
      replace hx391_10 := up_ HB hx391_10
      replace hx391_11 := up_ HB hx391_11
      replace hx391_12 := up_ HB hx391_12
      replace hx391_13 := up_ HB hx391_13
      have HR391_10 := mk_ hi391_10
      have HC391_10 := mk_ hl391_10
      clear hi391_10 hl391_10
      have HR391_11 := mk_ hi391_11
      have HC391_11 := mk_ hl391_11
      clear hi391_11 hl391_11
      replace p391 := eq_true p391
      replace q391 := eq_true q391
      have p392 : 0 ≤ (x17_2 : Int) := of_decide_eq_true z4_
      have q392 : x17_2 < (l0.length : Int) := of_decide_eq_true z4_
      obtain ⟨ad392, A392_10, c392_10, A392_11, c392_11, e392, hx392_0, hx392_1, hx392_2, hx392_3, hx392_4, hx392_5, hx392_6, hx392_7, hx392_8, hx392_9, hx392_10, hx392_11, hx392_12, hx392_13, hl392_10, hi392_10, hl392_11, hi392_11⟩ := eE HR0.out x17_2 p392 q392
      obtain rfl : ad391 = ad392 := (by injection e392)
      replace hx392_0 := up_ HB hx392_0
      replace hx392_1 := up_ HB hx392_1
      replace hx392_2 := up_ HB hx392_2
      replace hx392_3 := up_ HB hx392_3
      replace hx392_4 := up_ HB hx392_4
      replace hx392_5 := up_ HB hx392_5
      replace hx392_6 := up_ HB hx392_6
      replace hx392_7 := up_ HB hx392_7
      replace hx392_8 := up_ HB hx392_8
      replace hx392_9 := up_ HB hx392_9
      replace hx392_10 := up_ HB hx392_10
      replace hx392_11 := up_ HB hx392_11
      replace hx392_12 := up_ HB hx392_12
      replace hx392_13 := up_ HB hx392_13
      have HR392_10 := mk_ hi392_10
      have HC392_10 := mk_ hl392_10
      clear hi392_10 hl392_10
      have HR392_11 := mk_ hi392_11
      have HC392_11 := mk_ hl392_11
      clear hi392_11 hl392_11
      replace p392 := eq_true p392
      replace q392 := eq_true q392
      have ea_ := Option.some.inj (hx391_10.symm.trans hx392_10)
      injection ea_ with ea_ en_ ec_
      subst ea_
      subst ec_
      clear en_
      have ea_ := Option.some.inj (hx391_11.symm.trans hx392_11)
      injection ea_ with ea_ en_ ec_
      subst ea_
      subst ec_
      clear en_
      go_wp2
      go_roundg k2
      case measure => have := HJ3.out; have := HK2.out; omega
      case rel => exact ⟨((((aH l0 x17_2).f3) == a2)), (wrap64 (x17_2 + 1)), z8_, z8_, H', ⟨by have := HJ3.out; have := HK2.out; omega⟩, ⟨by (with_reducible repeat (first | apply N_alloc | apply N_drewN | apply N_drew)); exact HO_7.out⟩, ⟨by (with_reducible repeat (first | apply N_alloc | apply N_drewN | apply N_drew)); exact HO_8.out⟩, ⟨by (with_reducible repeat (first | apply R_alloc | apply R_drewN | apply R_drew)); exact HO_9.out⟩, ⟨by (with_reducible repeat (first | apply N_alloc | apply N_drewN | apply N_drew)); exact HO_14.out⟩, ⟨Short.hB HB⟩⟩
     rw [if_neg c23] at H
     have c23b0 : decide (x17_2 < (l0.length : Int)) = false := decide_eq_false c23
     clear c23
     have HC27 := mk_ H
     clear H
     go_upto_region 12 with (fail)
     go_cut [98] (fun v98 wc => ∃ (kq : Nat) (x98_26 : Bool), v98 = .bool x98_26 ∧ Aside0 (aI.j2 kq l1 t374 t377 t380 t384 t385 t387 t388 x98_26 = some r) ∧ Aside0 (kq ≤ k2) ∧ Aside0 (Kd.N k34 34 wc w.heap.size (fun k_ => nb_ k_ ((.slice Ao19 t377.length co19)) ∧ nb_ k_ (v382) ∧ nb_ k_ (v389)) (.slice Ao18 t374.length co18) t374) ∧ Aside0 (Kd.N k54 54 wc w.heap.size (fun k_ => nb_ k_ ((.slice Ao18 t374.length co18)) ∧ nb_ k_ (v382) ∧ nb_ k_ (v389)) (.slice Ao19 t377.length co19) t377) ∧ Aside0 (Kd.R (Kd.int .i64) 3 wc w.heap.size (fun _ => True) v382 t380) ∧ Aside0 (Kd.N k49 49 wc w.heap.size (fun k_ => nb_ k_ ((.slice Ao18 t374.length co18)) ∧ nb_ k_ ((.slice Ao19 t377.length co19)) ∧ nb_ k_ (v382)) v389 t387) ∧ Aside0 (Below w.heap.size w wc))
     case first =>
      have H := HC27.out
      clear HC27
      replace H := Option.bind_eq_some_iff.mp H
      obtain ⟨t393, A280, H⟩ := H
      replace H : (if (t393 != x16_2) = true then (aI.j2 k2 l1 t374 t377 t380 t384 t385 t387 t388 true) else ((dD.f t374 l0).bind fun t394 => (if t394 = true then ((bL.f k2 t377 l1).bind fun t395 => (if t395 = true then (if t381 = t388 then (aI.j2 k2 l1 t374 t377 t380 t384 t385 t387 t388 (t386 != t388)) else (aI.j2 k2 l1 t374 t377 t380 t384 t385 t387 t388 true)) else (aI.j2 k2 l1 t374 t377 t380 t384 t385 t387 t388 true))) else (aI.j2 k2 l1 t374 t377 t380 t384 t385 t387 t388 true)))) = some r := H
      have A28 := mk_ A280
      clear A280
      by_cases c29 : (t393 != x16_2) = true
      ·
       rw [if_pos c29] at H
       have c29b0 : (t393 != x16_2) = true := c29
       (try (have c29b1 : decide (t393 = x16_2) = false := by simpa using c29))
       (try (have c29b2 : (t393 == x16_2) = false := by simpa using c29))
       (try (have c29b3 : ¬ (t393 = x16_2) := by simpa using c29))
       clear c29
       (first | rw [c29b0] | (simp only [i64_w, i32_w]; rw [c29b0]) | skip)
       exact absurd H (by rw [hrt]; cases k2 <;> simp [aI.j2])
      rw [if_neg c29] at H
      have c29b0 : (t393 != x16_2) = false := by simpa using c29
      (try (have c29b1 : decide (t393 = x16_2) = true := by simpa using c29))
      (try (have c29b2 : (t393 == x16_2) = true := by simpa using c29))
      clear c29
      (first | rw [c29b0] | (simp only [i64_w, i32_w]; rw [c29b0]) | skip)
      replace H := Option.bind_eq_some_iff.mp H
      obtain ⟨t394, A300, H⟩ := H
      replace H : (if t394 = true then ((bL.f k2 t377 l1).bind fun t395 => (if t395 = true then (if t381 = t388 then (aI.j2 k2 l1 t374 t377 t380 t384 t385 t387 t388 (t386 != t388)) else (aI.j2 k2 l1 t374 t377 t380 t384 t385 t387 t388 true)) else (aI.j2 k2 l1 t374 t377 t380 t384 t385 t387 t388 true))) else (aI.j2 k2 l1 t374 t377 t380 t384 t385 t387 t388 true)) = some r := H
      have A30 := mk_ A300
      clear A300
      by_cases c31 : t394 = true
      rotate_left
      ·
       replace c31 := Bool.eq_false_iff.mpr c31
       subst c31
       rw [if_neg (show ¬ (false = true) by decide)] at H
       exact absurd H (by rw [hrt]; cases k2 <;> simp [aI.j2])
      subst c31
      rw [if_pos rfl] at H
      replace H := Option.bind_eq_some_iff.mp H
      obtain ⟨t395, A320, H⟩ := H
      replace H : (if t395 = true then (if t381 = t388 then (aI.j2 k2 l1 t374 t377 t380 t384 t385 t387 t388 (t386 != t388)) else (aI.j2 k2 l1 t374 t377 t380 t384 t385 t387 t388 true)) else (aI.j2 k2 l1 t374 t377 t380 t384 t385 t387 t388 true)) = some r := H
      have A32 := mk_ A320
      clear A320
      by_cases c33 : t395 = true
      rotate_left
      ·
       replace c33 := Bool.eq_false_iff.mpr c33
       subst c33
       rw [if_neg (show ¬ (false = true) by decide)] at H
       exact absurd H (by rw [hrt]; cases k2 <;> simp [aI.j2])
      subst c33
      rw [if_pos rfl] at H
      by_cases c34 : t381 = t388
      rotate_left
      ·
       rw [if_neg c34] at H
       have c34b0 : (t381 == t388) = false := beq_eq_false_iff_ne.mpr c34
       have c34b1 : (t381 != t388) = true := bne_iff_ne.mpr c34
       exact absurd H (by rw [hrt]; cases k2 <;> simp [aI.j2])
      rw [if_pos c34] at H
      have c34b0 : (t381 == t388) = true := beq_iff_eq.mpr c34
      have c34b1 : (t381 != t388) = false := bne_eq_false_iff_eq.mpr c34
      clear c34
      have H' := mk_ H
      clear H
      go_wp2_with (first | ((with_reducible refine aY (f := 21) rfl ?_); refine Short.gL (some 74) Try.func21 #[.slice Ao18 t374.length co18, .int .i64 a2] (h := ?_); (with_reducible refine (eT.calls _ _ t374 a2 t393 _ ?side1 ?side2 A28.out).mono ?_); (case side1 => exact cX_ (N_reads' HO_7.out).2.2); (case side2 => exact (N_reads' HO_7.out).2.1); rintro e w35 ⟨rfl, hb⟩; refine ⟨_, rfl, ?_⟩; have n0_ := mk_ (dA (ZKN HO_7) hb); have n1_ := mk_ (dA (ZKN HO_8) hb); have n2_ := mk_ (cF (ZKR HO_9) hb); have n3_ := mk_ (dA (ZKN HO_14) hb); have n4_ := mk_ (aG (Short.hB HB) hb); clear HO_7 HO_8 HO_9 HO_14 HB; revert n0_ n1_ n2_ n3_ n4_; intro HO_7 HO_8 HO_9 HO_14 HB; (try clear hb)) | (go_at_call 22; (with_reducible refine (dD.calls _ _ t374 _ _ l0 true _ ?side1 ?side2 ?side3 ?side4 A30.out).mono ?_); (case side1 => exact cX_ (N_reads' HO_7.out).2.2); (case side2 => exact (N_reads' HO_7.out).2.1); (case side3 => exact cX_ (aN HR0.out HB.out)); (case side4 => exact HC0.out); rintro e w36 ⟨rfl, hb⟩; have n0_ := mk_ (dA (ZKN HO_7) hb); have n1_ := mk_ (dA (ZKN HO_8) hb); have n2_ := mk_ (cF (ZKR HO_9) hb); have n3_ := mk_ (dA (ZKN HO_14) hb); have n4_ := mk_ (aG (Short.hB HB) hb); clear HO_7 HO_8 HO_9 HO_14 HB; revert n0_ n1_ n2_ n3_ n4_; intro HO_7 HO_8 HO_9 HO_14 HB; (try clear hb); (try clear hb2); (try clear hk); (try clear hi)) | (go_at_call 23; (with_reducible refine (bL.calls k2 _ _ t377 _ _ l1 true _ ?side1 ?side2 ?side3 ?side4 A32.out).mono ?_); (case side1 => exact cX_ (N_reads' HO_8.out).2.2); (case side2 => exact (N_reads' HO_8.out).2.1); (case side3 => exact cX_ (aN HR1.out HB.out)); (case side4 => exact HC1.out); rintro e w' ⟨rfl, ⟨nd, rfl⟩⟩))
      go_meet
      case rel => exact ⟨_, ((t386 != t388)), z8_, H', ⟨by have := HJ3.out; have := HK2.out; first | omega | exact Nat.le_refl _⟩, ⟨by (with_reducible repeat (first | apply N_alloc | apply N_drewN | apply N_drew)); exact HO_7.out⟩, ⟨by (with_reducible repeat (first | apply N_alloc | apply N_drewN | apply N_drew)); exact HO_8.out⟩, ⟨by (with_reducible repeat (first | apply R_alloc | apply R_drewN | apply R_drew)); exact HO_9.out⟩, ⟨by (with_reducible repeat (first | apply N_alloc | apply N_drewN | apply N_drew)); exact HO_14.out⟩, ⟨Short.hB HB⟩⟩
     case rest =>
      clear HC27
      try clear c1
      try clear c2
      try clear p2
      try clear c3
      try clear p3
      try clear q3
      try clear hx3
      try clear c6
      try clear p6
      try clear c8
      try clear c10
      try clear c11
      try clear c12
      try clear c13
      try clear c15
      try clear c17
      try clear c20
      try clear c21
      try clear c23
      try clear c23b0
      try clear c24
      try clear c25
      try clear c25b0
      try clear c26
      try clear c26b0
      try clear c26b1
      try clear c29
      try clear c29b0
      try clear c29b1
      try clear c29b2
      try clear c31
      try clear c33
      try clear c34
      try clear c34b0
      try clear c34b1
      try clear hx391_0
      try clear hx391_1
      try clear hx391_10
      try clear hx391_11
      try clear hx391_12
      try clear hx391_13
      try clear hx391_2
      try clear hx391_3
      try clear hx391_4
      try clear hx391_5
      try clear hx391_6
      try clear hx391_7
      try clear hx391_8
      try clear hx391_9
      try clear hx392_0
      try clear hx392_1
      try clear hx392_10
      try clear hx392_11
      try clear hx392_12
      try clear hx392_13
      try clear hx392_2
      try clear hx392_3
      try clear hx392_4
      try clear hx392_5
      try clear hx392_6
      try clear hx392_7
      try clear hx392_8
      try clear hx392_9
      try clear p2
      try clear p391
      try clear p392
      try clear q391
      try clear q392
      obtain ⟨kq, x98_26, rfl, HA, HJ26, HO_7, HO_8, HO_9, HO_14, HB⟩ := hcut
      cases kq with
      | zero => exact absurd HA.out (by simp [aI.j2])
      | succ kj26 =>
       have H := HA.out
       clear HA
       simp only [aI.j2] at H
       by_cases c37 : x98_26 = true
       ·
        subst c37
        rw [if_pos rfl] at H
        exact absurd H (by rw [hrt]; simp)
       replace c37 := Bool.eq_false_iff.mpr c37
       subst c37
       rw [if_neg (show ¬ (false = true) by decide)] at H
       by_cases c38 : t388 = 0
       rotate_left
       ·
        rw [if_neg c38] at H
        have c38b0 : (t388 == 0) = false := beq_eq_false_iff_ne.mpr c38
        have c38b1 : (t388 != 0) = true := bne_iff_ne.mpr c38
        by_cases c65 : (t380.length : Int) = 0
        rotate_left
        ·
         rw [if_neg c65] at H
         have c65b0 : ((t380.length : Int) == 0) = false := beq_eq_false_iff_ne.mpr c65
         have c65b1 : ((t380.length : Int) != 0) = true := bne_iff_ne.mpr c65
         have c65b2 : ¬ (t380 = []) := fun h_ => c65 (by rw [h_]; rfl)
         exact absurd H (by rw [hrt]; simp)
        rw [if_pos c65] at H
        have c65b0 : ((t380.length : Int) == 0) = true := beq_iff_eq.mpr c65
        have c65b1 : ((t380.length : Int) != 0) = false := bne_eq_false_iff_eq.mpr c65
        clear c65
        by_cases c66 : t384 = 0
        rotate_left
        ·
         rw [if_neg c66] at H
         have c66b0 : (t384 == 0) = false := beq_eq_false_iff_ne.mpr c66
         have c66b1 : (t384 != 0) = true := bne_iff_ne.mpr c66
         exact absurd H (by rw [hrt]; simp)
        rw [if_pos c66] at H
        have c66b0 : (t384 == 0) = true := beq_iff_eq.mpr c66
        have c66b1 : (t384 != 0) = false := bne_eq_false_iff_eq.mpr c66
        clear c66
        by_cases c67 : t385 = 0
        rotate_left
        ·
         rw [if_neg c67] at H
         have c67b0 : (t385 == 0) = false := beq_eq_false_iff_ne.mpr c67
         have c67b1 : (t385 != 0) = true := bne_iff_ne.mpr c67
         exact absurd H (by rw [hrt]; simp)
        rw [if_pos c67] at H
        have c67b0 : (t385 == 0) = true := beq_iff_eq.mpr c67
        have c67b1 : (t385 != 0) = false := bne_eq_false_iff_eq.mpr c67
        clear c67
        replace H := Option.bind_eq_some_iff.mp H
        obtain ⟨t396, A680, H⟩ := H
        replace H : (some t396) = some r := H
        have A68 := mk_ A680
        clear A680
        obtain rfl := Option.some.inj H
        obtain ⟨Ao69, co69, eo69⟩ := bG HO_9.out
        subst eo69
        go_wp2_with (first | (go_at_call 14; (with_reducible refine (bC.calls kj26  t396 _ A68.out).mono ?_); rintro e w70 ⟨rfl, hb⟩; have n0_ := mk_ (dA (ZKN HO_7) hb); have n1_ := mk_ (dA (ZKN HO_8) hb); have n2_ := mk_ (cF (ZKR HO_9) hb); have n3_ := mk_ (dA (ZKN HO_14) hb); have n4_ := mk_ (aG (Short.hB HB) hb); clear HO_7 HO_8 HO_9 HO_14 HB; revert n0_ n1_ n2_ n3_ n4_; intro HO_7 HO_8 HO_9 HO_14 HB; (try clear hb); (try clear hb2); (try clear hk); (try clear hi)))
        go_ret
        exact ⟨by first | rfl | (rw [hrt]; rfl) | (simp [cS, cT] <;> rfl) | (simp [*, cS, cT] <;> rfl), Short.hB HB⟩
       rw [if_pos c38] at H
       have c38b0 : (t388 == 0) = true := beq_iff_eq.mpr c38
       have c38b1 : (t388 != 0) = false := bne_eq_false_iff_eq.mpr c38
       clear c38
       obtain ⟨ji39, hji39⟩ : ∃ j_ : Int, (wrap64 ((t387.length : Int) - 1)) = j_ := ⟨_, rfl⟩
       replace H : (if 0 ≤ (ji39) then (if (ji39) < (t387.length : Int) then ((raddlekeep_Ints.f kj26 t380 ((bP t387 (ji39)).f0)).bind fun t399 => (if t399 = true then (if t384 = ((bP t387 (ji39)).f1) then (if t385 = ((bP t387 (ji39)).f2) then ((bN.f kj26 t380).bind fun t400 => ((cP.f t374 t377).bind fun bt401 => (if bt401.2 = 0 then ((raddlekeep_Ints.f kj26 bt401.1 ((bP t387 (ji39)).f0)).bind fun t405 => (if t405 = true then ((bL.f kj26 t377 l1).bind fun t406 => (if t406 = true then ((bC.f kj26).bind fun t407 => (some t407)) else (some false))) else (some false))) else (some false)))) else (some false)) else (some false)) else (some false))) else (none)) else (none)) = some r := by first | (rw [hji39] at H; exact H) | (simp only [hji39] at H ⊢; exact H)
       have hji39w : (IntKind.i64.wrap ((t387.length : Int) - 1)) = ji39 := (i64_w _).trans hji39
       by_cases c40 : 0 ≤ (ji39)
       rotate_left
       ·
        rw [if_neg c40] at H
        exact absurd H (by simp)
       rw [if_pos c40] at H
       have c40b0 : decide (0 ≤ (ji39)) = true := decide_eq_true c40
       clear c40
       by_cases c41 : (ji39) < (t387.length : Int)
       rotate_left
       ·
        rw [if_neg c41] at H
        exact absurd H (by simp)
       rw [if_pos c41] at H
       have c41b0 : decide ((ji39) < (t387.length : Int)) = true := decide_eq_true c41
       clear c41
       replace H := Option.bind_eq_some_iff.mp H
       obtain ⟨t399, A420, H⟩ := H
       replace H : (if t399 = true then (if t384 = ((bP t387 (ji39)).f1) then (if t385 = ((bP t387 (ji39)).f2) then ((bN.f kj26 t380).bind fun t400 => ((cP.f t374 t377).bind fun bt401 => (if bt401.2 = 0 then ((raddlekeep_Ints.f kj26 bt401.1 ((bP t387 (ji39)).f0)).bind fun t405 => (if t405 = true then ((bL.f kj26 t377 l1).bind fun t406 => (if t406 = true then ((bC.f kj26).bind fun t407 => (some t407)) else (some false))) else (some false))) else (some false)))) else (some false)) else (some false)) else (some false)) = some r := H
       have A42 := mk_ A420
       clear A420
       by_cases c43 : t399 = true
       rotate_left
       ·
        replace c43 := Bool.eq_false_iff.mpr c43
        subst c43
        rw [if_neg (show ¬ (false = true) by decide)] at H
        exact absurd H (by rw [hrt]; simp)
       subst c43
       rw [if_pos rfl] at H
       by_cases c44 : t384 = ((bP t387 (ji39)).f1)
       rotate_left
       ·
        rw [if_neg c44] at H
        have c44b0 : (t384 == ((bP t387 (ji39)).f1)) = false := beq_eq_false_iff_ne.mpr c44
        have c44b1 : (t384 != ((bP t387 (ji39)).f1)) = true := bne_iff_ne.mpr c44
        exact absurd H (by rw [hrt]; simp)
       rw [if_pos c44] at H
       have c44b0 : (t384 == ((bP t387 (ji39)).f1)) = true := beq_iff_eq.mpr c44
       have c44b1 : (t384 != ((bP t387 (ji39)).f1)) = false := bne_eq_false_iff_eq.mpr c44
       clear c44
       by_cases c45 : t385 = ((bP t387 (ji39)).f2)
       rotate_left
       ·
        rw [if_neg c45] at H
        have c45b0 : (t385 == ((bP t387 (ji39)).f2)) = false := beq_eq_false_iff_ne.mpr c45
        have c45b1 : (t385 != ((bP t387 (ji39)).f2)) = true := bne_iff_ne.mpr c45
        exact absurd H (by rw [hrt]; simp)
       rw [if_pos c45] at H
       have c45b0 : (t385 == ((bP t387 (ji39)).f2)) = true := beq_iff_eq.mpr c45
       have c45b1 : (t385 != ((bP t387 (ji39)).f2)) = false := bne_eq_false_iff_eq.mpr c45
       clear c45
       replace H := Option.bind_eq_some_iff.mp H
       obtain ⟨t400, A460, H⟩ := H
       replace H : ((cP.f t374 t377).bind fun bt401 => (if bt401.2 = 0 then ((raddlekeep_Ints.f kj26 bt401.1 ((bP t387 (ji39)).f0)).bind fun t405 => (if t405 = true then ((bL.f kj26 t377 l1).bind fun t406 => (if t406 = true then ((bC.f kj26).bind fun t407 => (some t407)) else (some false))) else (some false))) else (some false))) = some r := H
       have A46 := mk_ A460
       clear A460
       replace H := Option.bind_eq_some_iff.mp H
       obtain ⟨⟨t401, t402⟩, A470, H⟩ := H
       replace H : (if t402 = 0 then ((raddlekeep_Ints.f kj26 t401 ((bP t387 (ji39)).f0)).bind fun t405 => (if t405 = true then ((bL.f kj26 t377 l1).bind fun t406 => (if t406 = true then ((bC.f kj26).bind fun t407 => (some t407)) else (some false))) else (some false))) else (some false)) = some r := H
       have A47 := mk_ A470
       clear A470
       by_cases c48 : t402 = 0
       rotate_left
       ·
        rw [if_neg c48] at H
        have c48b0 : (t402 == 0) = false := beq_eq_false_iff_ne.mpr c48
        have c48b1 : (t402 != 0) = true := bne_iff_ne.mpr c48
        exact absurd H (by rw [hrt]; simp)
       rw [if_pos c48] at H
       have c48b0 : (t402 == 0) = true := beq_iff_eq.mpr c48
       have c48b1 : (t402 != 0) = false := bne_eq_false_iff_eq.mpr c48
       clear c48
       replace H := Option.bind_eq_some_iff.mp H
       obtain ⟨t405, A490, H⟩ := H
       replace H : (if t405 = true then ((bL.f kj26 t377 l1).bind fun t406 => (if t406 = true then ((bC.f kj26).bind fun t407 => (some t407)) else (some false))) else (some false)) = some r := H
       have A49 := mk_ A490
       clear A490
       by_cases c50 : t405 = true
       rotate_left
       ·
        replace c50 := Bool.eq_false_iff.mpr c50
        subst c50
        rw [if_neg (show ¬ (false = true) by decide)] at H
        exact absurd H (by rw [hrt]; simp)
       subst c50
       rw [if_pos rfl] at H
       replace H := Option.bind_eq_some_iff.mp H
       obtain ⟨t406, A510, H⟩ := H
       replace H : (if t406 = true then ((bC.f kj26).bind fun t407 => (some t407)) else (some false)) = some r := H
       have A51 := mk_ A510
       clear A510
       by_cases c52 : t406 = true
       rotate_left
       ·
        replace c52 := Bool.eq_false_iff.mpr c52
        subst c52
        rw [if_neg (show ¬ (false = true) by decide)] at H
        exact absurd H (by rw [hrt]; simp)
       subst c52
       rw [if_pos rfl] at H
       replace H := Option.bind_eq_some_iff.mp H
       obtain ⟨t407, A530, H⟩ := H
       replace H : (some t407) = some r := H
       have A53 := mk_ A530
       clear A530
       obtain rfl := Option.some.inj H
       obtain ⟨Ao54, co54, eo54⟩ := fK HO_14.out
       subst eo54
       have p397 : 0 ≤ ((ji39) : Int) := of_decide_eq_true z4_
       have q397 : (ji39) < (t387.length : Int) := of_decide_eq_true z4_
       obtain ⟨ad397, A397_0, c397_0, e397, hx397_0, hx397_1, hx397_2, hl397_0, hi397_0⟩ := eS (N_reads' HO_14.out).2.2 (ji39) p397 q397
       cases e397
       obtain ⟨ce397, hce397, hMe397, hcc397⟩ := N_get HO_14.out z49 (ji39) p397 (by first | exact q397 | exact of_decide_eq_true z4_ | (have e_ := (N_reads' HO_14.out).1; omega))
       obtain ⟨ua397_0, uc397_0, rfl, ul397_0, ge397_0⟩ := k49_openF hMe397
       have hv397_0 := hcc397 0 _ rfl
       rw [Nat.add_zero] at hv397_0
       replace hv397_0 := Option.some.inj (hv397_0.symm.trans hx397_0)
       injection hv397_0 with hva_ hvn_ hvc_
       rw [hva_] at ge397_0
       rw [hvc_] at ul397_0
       have HL397_0 := mk_ (show Kd.V (Kd.int .i64) 3 _ w.heap.size _ _ ((bP t387 (ji39)).f0) from V_mk ul397_0 ge397_0)
       clear hva_ hvn_ hvc_ ge397_0 ul397_0
       clear hcc397 hce397
       have HR397_0 := mk_ hi397_0
       have HC397_0 := mk_ hl397_0
       clear hi397_0 hl397_0
       replace p397 := eq_true p397
       replace q397 := eq_true q397
       go_wp2_with (first | ((with_reducible refine bH (N := 18) rfl ?_); refine bI ?hg (N := 18) ?hd (cs := #[.slice none 0 0, .int .i64 0, .int .i64 0]) (t := 49) ?hr ?_; (case hd => rfl); (case hg => rfl); (case hr => first | (go_simp; done) | (go_simp; rfl)); intro gb398 hg w55 hbox hb; have n0_ := mk_ (dA (N_elderB (ZKN HO_7) gb398 (Nat.le_of_eq hg.symm)) hb); have n1_ := mk_ (dA (N_elderB (ZKN HO_8) gb398 (Nat.le_of_eq hg.symm)) hb); have n2_ := mk_ (cF (ZKR HO_9) hb); have n3_ := mk_ (dA (N_elderB (ZKN HO_14) gb398 (Nat.le_of_eq hg.symm)) hb); have n4_ := mk_ (V_below (V_elderB (ZKV HL397_0) gb398 (Nat.le_of_eq hg.symm)) hb); have n5_ := mk_ (aN (V_reads' (ZKV HL397_0)).2.2 hb); have n6_ := mk_ (aG (Short.hB HB) hb); have n7_ := mk_ (hbox); have n8_ := mk_ ((by rw [hg]; exact (aM (Short.hB HB)) : w.heap.size ≤ gb398)); have n9_ := mk_ ((by rw [hg]; exact (aM (Short.hB HB)) : w.heap.size ≤ gb398)); clear HO_7 HO_8 HO_9 HO_14 HL397_0 HR397_0 HB; revert n0_ n1_ n2_ n3_ n4_ n5_ n6_ n7_ n8_ n9_; intro HO_7 HO_8 HO_9 HO_14 HL397_0 HR397_0 HB BK398 GW398 GE398; clear hb hbox hg; obtain ⟨hcz56_0, hcz56_1, hcz56_2, hfz56_0, hfz56_1, hfz56_2⟩ := Short.c3 BK398.out) | ((with_reducible refine gate_store (t := 49) (p := 18) rfl ?_); refine store_event (t := 49) (p := 18) (v := ?vo_w57) (w1 := (((w55.setCell ⟨gb398, 0, none⟩ (.slice A397_0 ((bP t387 (ji39)).f0).length c397_0)).setCell ⟨gb398, 1, none⟩ (.int .i64 ((bP t387 (ji39)).f1))).setCell ⟨gb398, 2, none⟩ (.int .i64 ((bP t387 (ji39)).f2)))) ?hg ?ho ?hn ?hr ?_; (case ho => rfl); (case hg => rfl); (case hn => rfl); (case hr => first | (go_simp; done) | (go_simp; rfl)); intro w57 hw; have n0_ : Aside0 (Kd.N k34 34 w57 w.heap.size (fun k_ => nb_ k_ (.slice Ao19 t377.length co19) ∧ nb_ k_ (v382) ∧ nb_ k_ (.slice (some ad397) t387.length co54) ∧ k_ ≠ gb398) (.slice Ao18 t374.length co18) t374) := ⟨(by rw [hw]; exact (by (with_reducible repeat (first | apply N_alloc | apply N_drewN | apply N_drew)); exact N_mono (N_far (p := ⟨gb398, 2, none⟩) (N_far (p := ⟨gb398, 1, none⟩) (N_far (p := ⟨gb398, 0, none⟩) (N_mono HO_7.out (fun k_ hk => (⟨hk, hk.2⟩ : _ ∧ k_ ≠ gb398))) (fun _ hk => hk.2) (.slice A397_0 ((bP t387 (ji39)).f0).length c397_0)) (fun _ hk => hk.2) (.int .i64 ((bP t387 (ji39)).f1))) (fun _ hk => hk.2) (.int .i64 ((bP t387 (ji39)).f2))) (fun _ hk => ⟨hk.1.1.1, ⟨hk.1.1.2.1, ⟨hk.1.1.2.2, hk.1.2⟩⟩⟩)))⟩; have n1_ : Aside0 (Kd.N k54 54 w57 w.heap.size (fun k_ => nb_ k_ (.slice Ao18 t374.length co18) ∧ nb_ k_ (v382) ∧ nb_ k_ (.slice (some ad397) t387.length co54) ∧ k_ ≠ gb398) (.slice Ao19 t377.length co19) t377) := ⟨(by rw [hw]; exact (by (with_reducible repeat (first | apply N_alloc | apply N_drewN | apply N_drew)); exact N_mono (N_far (p := ⟨gb398, 2, none⟩) (N_far (p := ⟨gb398, 1, none⟩) (N_far (p := ⟨gb398, 0, none⟩) (N_mono HO_8.out (fun k_ hk => (⟨hk, hk.2⟩ : _ ∧ k_ ≠ gb398))) (fun _ hk => hk.2) (.slice A397_0 ((bP t387 (ji39)).f0).length c397_0)) (fun _ hk => hk.2) (.int .i64 ((bP t387 (ji39)).f1))) (fun _ hk => hk.2) (.int .i64 ((bP t387 (ji39)).f2))) (fun _ hk => ⟨hk.1.1.1, ⟨hk.1.1.2.1, ⟨hk.1.1.2.2, hk.1.2⟩⟩⟩)))⟩; have n2_ : Aside0 (Kd.R (Kd.int .i64) 3 w57 w.heap.size (fun _ => True) v382 t380) := ⟨(by rw [hw]; exact (by (with_reducible repeat (first | apply R_alloc | apply R_drewN | apply R_drew)); exact R_mono (R_far (p := ⟨gb398, 2, none⟩) (R_far (p := ⟨gb398, 1, none⟩) (R_far (p := ⟨gb398, 0, none⟩) (fB HO_9.out BK398.out z11_) (fun _ hk => hk.2) (.slice A397_0 ((bP t387 (ji39)).f0).length c397_0)) (fun _ hk => hk.2) (.int .i64 ((bP t387 (ji39)).f1))) (fun _ hk => hk.2) (.int .i64 ((bP t387 (ji39)).f2))) (fun _ hk => trivial)))⟩; have n3_ : Aside0 (Kd.N k49 49 w57 w.heap.size (fun k_ => nb_ k_ (.slice Ao18 t374.length co18) ∧ nb_ k_ (.slice Ao19 t377.length co19) ∧ nb_ k_ (v382) ∧ k_ ≠ gb398) (.slice (some ad397) t387.length co54) t387) := ⟨(by rw [hw]; exact (by (with_reducible repeat (first | apply N_alloc | apply N_drewN | apply N_drew)); exact N_mono (N_far (p := ⟨gb398, 2, none⟩) (N_far (p := ⟨gb398, 1, none⟩) (N_far (p := ⟨gb398, 0, none⟩) (N_mono HO_14.out (fun k_ hk => (⟨hk, hk.2⟩ : _ ∧ k_ ≠ gb398))) (fun _ hk => hk.2) (.slice A397_0 ((bP t387 (ji39)).f0).length c397_0)) (fun _ hk => hk.2) (.int .i64 ((bP t387 (ji39)).f1))) (fun _ hk => hk.2) (.int .i64 ((bP t387 (ji39)).f2))) (fun _ hk => ⟨hk.1.1.1, ⟨hk.1.1.2.1, ⟨hk.1.1.2.2, hk.1.2⟩⟩⟩)))⟩; have n4_ : Aside0 (Kd.V (Kd.int .i64) 3 w57 w.heap.size (fun k_ => nb_ k_ (.slice Ao18 t374.length co18) ∧ nb_ k_ (.slice Ao19 t377.length co19) ∧ nb_ k_ (v382) ∧ nb_ k_ (.slice (some ad397) t387.length co54) ∧ k_ ≠ gb398) (.slice A397_0 ((bP t387 (ji39)).f0).length c397_0) ((bP t387 (ji39)).f0)) := ⟨(by rw [hw]; exact (by (with_reducible repeat (first | apply V_alloc | apply V_drewN | apply V_drew)); exact V_mono (V_far (p := ⟨gb398, 2, none⟩) (V_far (p := ⟨gb398, 1, none⟩) (V_far (p := ⟨gb398, 0, none⟩) (V_mono HL397_0.out (fun k_ hk => (⟨hk, hk.2⟩ : _ ∧ k_ ≠ gb398))) (fun _ hk => hk.2) (.slice A397_0 ((bP t387 (ji39)).f0).length c397_0)) (fun _ hk => hk.2) (.int .i64 ((bP t387 (ji39)).f1))) (fun _ hk => hk.2) (.int .i64 ((bP t387 (ji39)).f2))) (fun _ hk => ⟨hk.1.1.1.1, ⟨hk.1.1.1.2.1, ⟨hk.1.1.1.2.2, ⟨hk.1.1.2, hk.1.2⟩⟩⟩⟩)))⟩; have n5_ : Aside0 (w57.heap[gb398]? = some (.cells #[.slice A397_0 ((bP t387 (ji39)).f0).length c397_0, .int .i64 ((bP t387 (ji39)).f1), .int .i64 ((bP t387 (ji39)).f2)] 49 (0, 0))) := ⟨(by rw [hw]; exact (by (with_reducible repeat (first | refine aV ?_ _ | refine aQ ?_ | refine aW ?_ _)); refine dN (cs := #[.slice A397_0 ((bP t387 (ji39)).f0).length c397_0, .int .i64 ((bP t387 (ji39)).f1), .int .i64 0]) ?_ 2 _ rfl; (with_reducible repeat (first | refine aV ?_ _ | refine aQ ?_ | refine aW ?_ _)); refine dN (cs := #[.slice A397_0 ((bP t387 (ji39)).f0).length c397_0, .int .i64 0, .int .i64 0]) ?_ 1 _ rfl; (with_reducible repeat (first | refine aV ?_ _ | refine aQ ?_ | refine aW ?_ _)); refine dN (cs := #[.slice none 0 0, .int .i64 0, .int .i64 0]) ?_ 0 _ rfl; (with_reducible repeat (first | refine aV ?_ _ | refine aQ ?_ | refine aW ?_ _)); exact BK398.out))⟩; have n6_ : Aside0 (Below w.heap.size w w57) := ⟨(by rw [hw]; exact (Short.hB HB))⟩; clear hw HO_7 HO_8 HO_9 HO_14 HL397_0 BK398 HB; revert n0_ n1_ n2_ n3_ n4_ n5_ n6_; intro HO_7 HO_8 HO_9 HO_14 HL397_0 BK398 HB; obtain ⟨hcz58_0, hcz58_1, hcz58_2, hfz58_0, hfz58_1, hfz58_2⟩ := Short.c3 BK398.out; obtain ⟨Ao59, co59, eo59⟩ := bG HO_9.out; subst eo59) | ((with_reducible refine aY (f := 18) rfl ?_); refine goesL_ (some 124) rfl rfl Try.func18 z1_ rfl #[.slice Ao59 t380.length co59, .slice A397_0 ((bP t387 (ji39)).f0).length c397_0] rfl (by (try simp only [List.map_toArray, List.map_cons, List.map_nil]); first | done | (simp only [hji39]; rfl) | rfl | (simp only [List.length_drop, List.length_take]; rfl) | (go_simp; done) | (simp; done)) ?_; (with_reducible refine (raddlekeep_Ints.calls kj26 _ _ t380 _ _ ((bP t387 (ji39)).f0) true _ ?side1 ?side2 ?side3 ?side4 A42.out).mono ?_); (case side1 => exact cX_ (R_reads' HO_9.out).2.2); (case side2 => exact (R_reads' HO_9.out).2.1); (case side3 => exact cX_ (V_reads' HL397_0.out).2.2); (case side4 => exact HC397_0.out); rintro e w' ⟨rfl, ⟨nd, rfl⟩⟩; refine ⟨_, rfl, ?_⟩) | ((with_reducible refine aY (f := 24) rfl ?_); refine Short.gL (some 139) Try.func24 #[.slice Ao59 t380.length co59] (h := ?_); (with_reducible refine (bN.calls kj26 (fun k_ => some k_ = (.slice Ao59 t380.length co59 : Value).ownBlock) (.slice Ao59 t380.length co59) t380 t400 w _ ?side1 ?side2 A46.out).mono ?_); (case side1 => repeat (first | (with_reducible first | exact HB.out | apply aK | apply aX | apply cU | refine aJ ?_ GE398.out) | exact HB.out)); (case side2 => exact fT rfl HO_9.out); rintro e w60 ⟨rfl, hy0, hb, hkp⟩; refine ⟨_, rfl, ?_⟩; have n0_ := mk_ (N_mono (ok' := fun k_ => nb_ k_ (.slice Ao19 t377.length co19) ∧ nb_ k_ (.slice Ao59 t380.length co59) ∧ nb_ k_ (.slice (some ad397) t387.length co54) ∧ k_ ≠ gb398) (N_keptB (HO_7.out) hkp (fun k_ hk_ hs_ => (hk_.2.1) hs_)) (fun k_ hk_ => ⟨hk_.1.1, hk_.1.2.1, hk_.1.2.2.1, hk_.1.2.2.2⟩)); have n1_ := mk_ (N_mono (ok' := fun k_ => nb_ k_ (.slice Ao18 t374.length co18) ∧ nb_ k_ (.slice Ao59 t380.length co59) ∧ nb_ k_ (.slice (some ad397) t387.length co54) ∧ k_ ≠ gb398) (N_keptB (HO_8.out) hkp (fun k_ hk_ hs_ => (hk_.2.1) hs_)) (fun k_ hk_ => ⟨hk_.1.1, hk_.1.2.1, hk_.1.2.2.1, hk_.1.2.2.2⟩)); have n2_ := mk_ (R_reok rfl hy0 (fun k_ e_ => HO_9.out.1 k_ e_)); have n3_ := mk_ (N_mono (ok' := fun k_ => nb_ k_ (.slice Ao18 t374.length co18) ∧ nb_ k_ (.slice Ao19 t377.length co19) ∧ nb_ k_ (.slice Ao59 t380.length co59) ∧ k_ ≠ gb398) (N_keptB (HO_14.out) hkp (fun k_ hk_ hs_ => (hk_.2.2.1) hs_)) (fun k_ hk_ => ⟨hk_.1.1, hk_.1.2.1, hk_.1.2.2.1, hk_.1.2.2.2⟩)); have n4_ := mk_ (V_mono (ok' := fun k_ => nb_ k_ (.slice Ao18 t374.length co18) ∧ nb_ k_ (.slice Ao19 t377.length co19) ∧ nb_ k_ (.slice Ao59 t380.length co59) ∧ nb_ k_ (.slice (some ad397) t387.length co54) ∧ k_ ≠ gb398) (V_keptB (HL397_0.out) hkp (fun k_ hk_ hs_ => (hk_.2.2.1) hs_)) (fun k_ hk_ => ⟨hk_.1.1, hk_.1.2.1, hk_.1.2.2.1, hk_.1.2.2.2.1, hk_.1.2.2.2.2⟩)); have n5_ := mk_ (blk_kept (Short.bK BK398) hkp (fun hs_ => (fun e_ => (R_ne HO_9.out BK398.out z11_) e_) hs_)); have n6_ := mk_ (hb); clear HO_7 HO_8 HO_9 HO_14 HL397_0 BK398 HB; revert n0_ n1_ n2_ n3_ n4_ n5_ n6_; intro HO_7 HO_8 HO_9 HO_14 HL397_0 BK398 HB; (try clear hb); (try clear hkp); (try clear hy0)) | ((with_reducible refine aY (f := 12) rfl ?_); refine Short.gL (some 143) Try.func12 #[.slice Ao18 t374.length co18, .slice Ao19 t377.length co19] (h := ?_); (with_reducible refine (cP.calls _ _ t374 _ _ t377 t401 t402 _ ?side1 ?side2 ?side3 ?side4 A47.out).mono ?_); (case side1 => exact cX_ (N_reads' HO_7.out).2.2); (case side2 => exact (N_reads' HO_7.out).2.1); (case side3 => exact cX_ (N_reads' HO_8.out).2.2); (case side4 => exact (N_reads' HO_8.out).2.1); rintro e w61 ⟨v403, rfl, ho0, hb⟩; refine ⟨_, rfl, ?_⟩; have n0_ := mk_ (N_elder' (ZKN HO_7) (R_base ho0) hb); have n1_ := mk_ (N_elder' (ZKN HO_8) (R_base ho0) hb); have n2_ := mk_ (R_elder' (ZKR HO_9) (R_base ho0) hb); have n3_ := mk_ (N_elder' (ZKN HO_14) (R_base ho0) hb); have n4_ := mk_ (V_elder' (ZKV HL397_0) (R_base ho0) hb); have n5_ := mk_ (bZ (R_new' ho0 (R_lt (ZKR HO_9))) (aM (Short.hB HB))); have n6_ := mk_ (bB_ BK398 hb); have n7_ := mk_ (aG (Short.hB HB) hb); clear HO_7 HO_8 HO_9 HO_14 HL397_0 BK398 HB; revert n0_ n1_ n2_ n3_ n4_ n5_ n6_ n7_; intro HO_7 HO_8 HO_9 HO_14 HL397_0 HO404 BK398 HB; (try clear hb ho0); obtain ⟨hcz62_0, hcz62_1, hcz62_2, hfz62_0, hfz62_1, hfz62_2⟩ := Short.c3 BK398.out; obtain ⟨Ao63, co63, eo63⟩ := bG HO404.out; subst eo63) | (go_at_call 18; (with_reducible refine (raddlekeep_Ints.calls kj26 _ _ t401 _ _ ((bP t387 (ji39)).f0) true _ ?side1 ?side2 ?side3 ?side4 A49.out).mono ?_); (case side1 => exact cX_ (R_reads' HO404.out).2.2); (case side2 => exact (R_reads' HO404.out).2.1); (case side3 => exact cX_ ((V_reads' HL397_0.out).2.2)); (case side4 => exact HC397_0.out); rintro e w' ⟨rfl, ⟨nd, rfl⟩⟩) | (go_at_call 23; (with_reducible refine (bL.calls kj26 _ _ t377 _ _ l1 true _ ?side1 ?side2 ?side3 ?side4 A51.out).mono ?_); (case side1 => exact cX_ (N_reads' HO_8.out).2.2); (case side2 => exact (N_reads' HO_8.out).2.1); (case side3 => exact cX_ (aN HR1.out (Short.hB HB))); (case side4 => exact HC1.out); rintro e w' ⟨rfl, ⟨nd, rfl⟩⟩) | (go_at_call 14; (with_reducible refine (bC.calls kj26  t407 _ A53.out).mono ?_); rintro e w64 ⟨rfl, hb⟩; have n0_ := mk_ (dA (ZKN HO_7) hb); have n1_ := mk_ (dA (ZKN HO_8) hb); have n2_ := mk_ (cF (ZKR HO_9) hb); have n3_ := mk_ (dA (ZKN HO_14) hb); have n4_ := mk_ (V_below (ZKV HL397_0) hb); have n5_ := mk_ (cF (ZKR HO404) hb); have n6_ := mk_ (bB_ BK398 hb); have n7_ := mk_ (aG (Short.hB HB) hb); clear HO_7 HO_8 HO_9 HO_14 HL397_0 HO404 BK398 HB; revert n0_ n1_ n2_ n3_ n4_ n5_ n6_ n7_; intro HO_7 HO_8 HO_9 HO_14 HL397_0 HO404 BK398 HB; (try clear hb); (try clear hb2); (try clear hk); (try clear hi)))
       go_ret
       exact ⟨by first | rfl | (rw [hrt]; rfl) | (simp [cS, cT] <;> rfl) | (simp only [← hji39]; first | rfl | (simp [cS, cT] <;> rfl)) | (simp [*, cS, cT] <;> rfl), Short.hB HB⟩
def aI.WF29 (x : S29) : Prop := (Lit.int .i64 x.f0).wf = true ∧ (Lit.int .i64 x.f1).wf = true ∧ x.f2.size ≤ maxLen
def aI.WF31 (x : S31) : Prop := (Lit.int .i64 x.f0).wf = true ∧ (Lit.int .i64 x.f1).wf = true ∧ (Lit.int .i64 x.f2).wf = true ∧ aI.WF29 x.f3
def aI.WF34 (x : S34) : Prop := (Lit.int .i64 x.f0).wf = true ∧ (Lit.int .i64 x.f1).wf = true ∧ (Lit.int .i64 x.f2).wf = true ∧ (Lit.int .i64 x.f3).wf = true ∧ aI.WF31 x.f4 ∧ (x.f5.length ≤ maxLen ∧ ∀ x0_ ∈ x.f5, (Lit.int .i64 x0_).wf = true) ∧ (x.f6.length ≤ maxLen ∧ ∀ x0_ ∈ x.f6, (Lit.int .i64 x0_).wf = true) ∧ (Lit.int .i64 x.f7).wf = true ∧ (Lit.int .i64 x.f8).wf = true
def aI.WF54 (x : S54) : Prop := (x.f0.length ≤ maxLen ∧ ∀ x0_ ∈ x.f0, (Lit.int .i64 x0_).wf = true)
def aI.Pure : Prop := ∀ (x0 : List (S34)) (x1 : List (S54)) (x2 : Int), (x0.length ≤ maxLen ∧ ∀ x0_ ∈ x0, aI.WF34 x0_) → (x1.length ≤ maxLen ∧ ∀ x0_ ∈ x1, aI.WF54 x0_) → (Lit.int .i64 x2).wf = true → ∃ k, aI.f k x0 x1 x2 = some true
end Go.Proofs.Ytimbbaoodjhdoaa.PAll
end
section
namespace Go.Proofs.Ytimbbaoodjhdoaa.Plan
open Go.RowKit PAll Plain PrintWords PrintLast PrintMore ZipT PrintWords.Kd PrintMore.Kd
set_option linter.unusedVariables false
set_option linter.unusedSimpArgs false
theorem gE {l : List Tb} {i : Nat} {v : Tb} {m : List Tb} (h : l.drop i = v :: m) : bY l (i : Int) = v := by
 show l.getD (i : Int).toNat _ = v
 rw [Int.toNat_natCast, List.getD_eq_getElem?_getD]
 have := congrArg (·[0]?) h
 simp only [List.getElem?_drop, Nat.add_zero, List.getElem?_cons_zero] at this
 rw [this]; rfl
theorem rdN_drop {l : List No} {i : Nat} {v : No} {m : List No} (h : l.drop i = v :: m) : aH l (i : Int) = v := by
 show l.getD (i : Int).toNat _ = v
 rw [Int.toNat_natCast, List.getD_eq_getElem?_getD]
 have := congrArg (·[0]?) h
 simp only [List.getElem?_drop, Nat.add_zero, List.getElem?_cons_zero] at this
 rw [this]; rfl
theorem eX {α : Type} {l : List α} {i : Nat} {v : α} {m : List α} (h : l.drop i = v :: m) : l.drop (i + 1) = m ∧ i < l.length := by
 constructor
 ·
  rw [← List.drop_drop, h]; rfl
 ·
  have := congrArg List.length h
  rw [List.length_drop, List.length_cons] at this
  omega
theorem wrapn (i : Nat) (h : i ≤ 1000000) : wrap64 ((i : Int) + 1) = ((i + 1 : Nat) : Int) := by unfold wrap64; omega
def hvF (f : List Tb) : Bool := decide (f.length > 30) || f.any fun t => decide (t.f0.length > 30)
theorem hvF_l0 (f : List Tb) (hl : f.length ≤ 30) (m : List Tb) : ∀ (k i : Nat), f.drop i = m → m.length < k →
  bJ.l0 k f (i : Int) = some (m.any fun t => decide (t.f0.length > 30)) := by
 induction m with
 | nil =>
  intro k i h hk
  obtain ⟨k, rfl⟩ : ∃ j, k = j + 1 := ⟨k - 1, by omega⟩
  have := List.drop_eq_nil_iff.1 h
  simp only [bJ.l0]
  rw [if_neg z5_]; rfl
 | cons v m ih =>
  intro k i h hk
  obtain ⟨k, rfl⟩ : ∃ j, k = j + 1 := ⟨k - 1, by omega⟩
  obtain ⟨h1, h2⟩ := eX h
  rw [List.length_cons] at hk
  simp only [bJ.l0]
  rw [if_pos z5_, if_pos z5_, gE h, List.any_cons]
  by_cases c : v.f0.length > 30
  ·
   rw [if_pos z5_, decide_eq_true c]; rfl
  rw [if_neg z5_, decide_eq_false c, Bool.false_or, wrapn i z5_]
  exact ih k (i + 1) h1 z5_
theorem hvF_eq (k : Nat) (f : List Tb) (hk : 40 ≤ k) : bJ.f k f = some (hvF f) := by
 unfold bJ.f hvF
 by_cases c : f.length > 30
 ·
  rw [if_pos z5_, decide_eq_true c]; rfl
 rw [if_neg z5_, decide_eq_false c, Bool.false_or]
 exact hvF_l0 f z5_ f k 0 rfl z5_
def hvX (x : No) : Bool := decide (x.f5.length > 40) || decide (x.f6.length > 40) || decide (x.f4.f3.f2.size > 300)
def hvN (l : List No) : Bool := decide (l.length > 40) || l.any hvX
theorem long_eq (k : Nat) (v : S29) (hk : 2 ≤ k) : bT.f k [v] = some (decide (v.f2.size > 300)) := by
 obtain ⟨k, rfl⟩ : ∃ j, k = j + 2 := ⟨k - 2, by omega⟩
 unfold bT.f
 simp only [bT.l0]
 rw [if_pos (show (0 : Int) < (([v] : List _).length : Int) by rw [List.length_singleton]; decide), if_pos z11_]
 show (if (v.f2.size : Int) > 300 then _ else _) = _
 by_cases c : v.f2.size > 300
 ·
  rw [if_pos z5_, decide_eq_true c]
 rw [if_neg z5_, decide_eq_false c, if_neg (by rw [List.length_singleton, show wrap64 (0 + 1) = 1 by unfold wrap64; omega]; decide)]
theorem hvN_l0 (l : List No) (hl : l.length ≤ 40) (m : List No) : ∀ (k i : Nat), l.drop i = m → m.length + 3 < k →
  bR.l0 k l (i : Int) = some (m.any hvX) := by
 induction m with
 | nil =>
  intro k i h hk
  obtain ⟨k, rfl⟩ : ∃ j, k = j + 1 := ⟨k - 1, by omega⟩
  have := List.drop_eq_nil_iff.1 h
  simp only [bR.l0]
  rw [if_neg z5_]; rfl
 | cons v m ih =>
  intro k i h hk
  obtain ⟨k, rfl⟩ : ∃ j, k = j + 1 := ⟨k - 1, by omega⟩
  obtain ⟨h1, h2⟩ := eX h
  rw [List.length_cons] at hk
  simp only [bR.l0]
  rw [if_pos z5_, if_pos z5_, rdN_drop h, List.any_cons]
  unfold hvX
  by_cases c : v.f5.length > 40
  ·
   rw [if_pos z5_, decide_eq_true c]; rfl
  rw [if_neg z5_, decide_eq_false c, Bool.false_or]
  by_cases d : v.f6.length > 40
  ·
   rw [if_pos z5_, decide_eq_true d]; rfl
  rw [if_neg z5_, decide_eq_false d, Bool.false_or, long_eq k _ z5_, Option.bind_some]
  by_cases e : v.f4.f3.f2.size > 300
  ·
   rw [decide_eq_true e, if_pos rfl]; rfl
  rw [decide_eq_false e, if_neg z11_, Bool.false_or, wrapn i z5_]
  exact ih k (i + 1) h1 z5_
theorem hvN_eq (k : Nat) (l : List No) (hk : 60 ≤ k) : bR.f k l = some (hvN l) := by
 unfold bR.f hvN
 by_cases c : l.length > 40
 ·
  rw [if_pos z5_, decide_eq_true c]; rfl
 rw [if_neg z5_, decide_eq_false c, Bool.false_or]
 exact hvN_l0 l z5_ l k 0 rfl z5_
theorem small_of (l : List No) (f : List Tb) (hl : hvN l = false) (hf : hvF f = false) : planSmall l f := by
 unfold hvN at hl
 unfold hvF at hf
 simp only [Bool.or_eq_false_iff, decide_eq_false_iff_not, List.any_eq_false, hvX, Bool.or_eq_true, decide_eq_true_eq, not_or] at hl hf
 exact ⟨by omega, by omega, fun x hx => by have := hl.2 x hx; omega, fun t ht => by have := hf.2 t ht; omega⟩
theorem planSmall.snoc {l : List No} {f : List Tb} (h : planSmall l f) (hl : l.length ≤ 40) (x : No) (h5 : x.f5.length ≤ 1000) (h6 : x.f6.length ≤ 1000) : planSmall (l ++ [x]) f :=
 ⟨by rw [List.length_append, List.length_singleton]; omega, h.2.1, fun y hy => by rcases List.mem_append.1 hy with e | e; exact h.2.2.1 y e; rw [List.mem_singleton.1 e]; exact ⟨h5, h6⟩, h.2.2.2⟩
theorem fI {l : List No} {f : List Tb} (h : planSmall l f) : cP.f l f = some ((lastN l f).1, (planN l f).2) := by unfold cP.f; rw [if_pos h]
theorem bound_eq {l : List No} {f : List Tb} (h : planSmall l f) : cQ.f l f = some ((lastN l f).2.1, (lastN l f).2.2, (planN l f).2) := by unfold cQ.f; rw [if_pos h]
theorem plan14_eq {l : List No} {f : List Tb} (h : planSmall l f) : cW.f l f = some ((planN l f).1.map ofNd, (planN l f).2) := by unfold cW.f; rw [if_pos h]
theorem uses_eq {l : List No} (h : l.length ≤ 1000) (t : Int) : eT.f l t = some (l.any (useP t)) := by unfold eT.f; rw [if_pos h]
theorem lastN_err {l : List No} {f : List Tb} (h : (planN l f).2 ≠ 0) : lastN l f = zN := by unfold lastN; rw [planN_err h]; rfl
def scan0 : No := ⟨1, 0, 0, 0, ⟨0, 0, 0, ⟨0, 0, (⟨#[]⟩ : ByteArray)⟩⟩, [], [], 0, 0⟩
theorem ints_eq2 (k : Nat) (hk : 5 ≤ k) : raddlekeep_Ints.f k [4, 3] [4, 3] = some true := by
 obtain ⟨k, rfl⟩ : ∃ j, k = j + 5 := ⟨k - 5, by omega⟩
 unfold raddlekeep_Ints.f
 simp [raddlekeep_Ints.l0, rd, wrap64]
theorem wakes_eq (k : Nat) (hk : 5 ≤ k) : bC.f k = some true := by
 have hs : planSmall [scan0] [⟨[3]⟩] := by decide
 have hp : planN [scan0] [⟨[3]⟩] = ([([4, 3], 1024, 2147483648)], 0) := by decide
 have hq : lastN [scan0] [⟨[3]⟩] = ([4, 3], 1024, 2147483648) := by unfold lastN; rw [hp]; rfl
 unfold bC.f
 rw [show (⟨1, 0, 0, 0, (⟨0, 0, 0, (⟨0, 0, (⟨#[]⟩ : ByteArray)⟩ : S29)⟩ : S31), ([] : List Int), ([] : List Int), 0, 0⟩ : No) = scan0 from rfl, fI hs, bound_eq hs, hp, hq]
 simp only [Option.bind_some]
 rw [if_pos trivial, if_pos trivial, ints_eq2 k hk, Option.bind_some, if_pos rfl, if_pos trivial]
 rfl
theorem wakes_bind (k : Nat) (hk : 5 ≤ k) : ((bC.f k).bind fun t => some t) = some true := by rw [wakes_eq k hk]; rfl
theorem last_nth {l : List No} {f : List Tb} (h : (planN l f).2 = 0) : lastN l f = nth (planN l f).1 ((l.length : Int) - 1) := by
 have := (planN_len h).2.1
 unfold lastN nth
 rw [show ((l.length : Int) - 1).toNat = l.length - 1 by omega]
theorem ahead_last {l : List No} {f : List Tb} (h : (planN l f).2 = 0) : ahead (planN l f).1 ((l.length : Int) - 1) = true := by
 have := planN_len h
 unfold ahead
 rw [decide_eq_true]; omega
theorem last_ok {l : List No} {f : List Tb} (h : (planN l f).2 = 0) : NdOk (lastN l f) := by
 rw [last_nth h]; exact cZ (fun d hd => planN_ok d hd) (ahead_last h)
end Go.Proofs.Ytimbbaoodjhdoaa.Plan
end
section
namespace Go.Proofs.Ytimbbaoodjhdoaa.Pure
open Go.RowKit PAll PrintWords PrintLast PrintMore Plain Plan ZipT PrintWords.Kd PrintMore.Kd
set_option linter.unusedVariables false
set_option linter.unusedSimpArgs false
theorem twinNodesE_l0 (l : List No) (hl : l.length ≤ 1000) (hs : ∀ x ∈ l, x.f5.length ≤ 1000 ∧ x.f6.length ≤ 1000) (m : List No) : ∀ (k i : Nat) (acc : List No), l.drop i = m → acc.length + m.length ≤ 1000 → m.length < k →
    aZ.l0 k l acc (i : Int) = some (acc ++ m) := by
  induction m with
  | nil =>
    intro k i acc h ha hk
    obtain ⟨k, rfl⟩ : ∃ j, k = j + 1 := ⟨k - 1, by omega⟩
    have := List.drop_eq_nil_iff.1 h
    simp only [aZ.l0]
    rw [if_neg z5_, List.append_nil]
  | cons v m ih =>
    intro k i acc h ha hk
    obtain ⟨k, rfl⟩ : ∃ j, k = j + 1 := ⟨k - 1, by omega⟩
    obtain ⟨h1, h2⟩ := eX h
    rw [List.length_cons] at hk ha
    have hv := hs v (by have : v ∈ l.drop i := by rw [h]; exact List.mem_cons_self
                        exact List.mem_of_mem_drop this)
    simp only [aZ.l0]
    rw [if_pos z5_, if_pos z5_, rdN_drop h, cJ v.f5 z5_, Option.bind_some, cJ v.f6 z5_, Option.bind_some, if_pos z5_, wrapn i z5_]
    have := ih k (i + 1) (acc ++ [v]) h1 (by rw [List.length_append, List.length_singleton]; omega) z5_
    rw [List.append_assoc] at this
    exact this
theorem twinNodesE_eq (k : Nat) (l : List No) (hl : l.length ≤ 1000) (hs : ∀ x ∈ l, x.f5.length ≤ 1000 ∧ x.f6.length ≤ 1000) (hk : l.length < k) : aZ.f k l = some l := by
 unfold aZ.f
 exact twinNodesE_l0 l hl hs l k 0 [] rfl (by rw [List.length_nil]; omega) hk
theorem twinForms_l0 (l : List Tb) (hl : l.length ≤ 1000) (hs : ∀ x ∈ l, x.f0.length ≤ 1000) (m : List Tb) : ∀ (k i : Nat) (acc : List Tb), l.drop i = m → acc.length + m.length ≤ 1000 → m.length < k →
    bM.l0 k l acc (i : Int) = some (acc ++ m) := by
  induction m with
  | nil =>
    intro k i acc h ha hk
    obtain ⟨k, rfl⟩ : ∃ j, k = j + 1 := ⟨k - 1, by omega⟩
    have := List.drop_eq_nil_iff.1 h
    simp only [bM.l0]
    rw [if_neg z5_, List.append_nil]
  | cons v m ih =>
    intro k i acc h ha hk
    obtain ⟨k, rfl⟩ : ∃ j, k = j + 1 := ⟨k - 1, by omega⟩
    obtain ⟨h1, h2⟩ := eX h
    rw [List.length_cons] at hk ha
    have hv := hs v (by have : v ∈ l.drop i := by rw [h]; exact List.mem_cons_self
                        exact List.mem_of_mem_drop this)
    simp only [bM.l0]
    rw [if_pos z5_, if_pos z5_, gE h, cJ v.f0 z5_, Option.bind_some, if_pos z5_, wrapn i z5_]
    have := ih k (i + 1) (acc ++ [v]) h1 (by rw [List.length_append, List.length_singleton]; omega) z5_
    rw [List.append_assoc] at this
    exact this
theorem twinForms_eq (k : Nat) (l : List Tb) (hl : l.length ≤ 1000) (hs : ∀ x ∈ l, x.f0.length ≤ 1000) (hk : l.length < k) : bM.f k l = some l := by
 unfold bM.f
 exact twinForms_l0 l hl hs l k 0 [] rfl (by rw [List.length_nil]; omega) hk
theorem forms_l0 (l : List Tb) (hl : l.length ≤ 1000) (hs : ∀ x ∈ l, x.f0.length ≤ 1000) (m : List Tb) : ∀ (k i : Nat), l.drop i = m → m.length + 1010 < k →
    bL.l0 k l l (i : Int) = some true := by
  induction m with
  | nil =>
    intro k i h hk
    obtain ⟨k, rfl⟩ : ∃ j, k = j + 1 := ⟨k - 1, by omega⟩
    have := List.drop_eq_nil_iff.1 h
    simp only [bL.l0]
    rw [if_neg z5_]
  | cons v m ih =>
    intro k i h hk
    obtain ⟨k, rfl⟩ : ∃ j, k = j + 1 := ⟨k - 1, by omega⟩
    obtain ⟨h1, h2⟩ := eX h
    rw [List.length_cons] at hk
    have hv := hs v (by have : v ∈ l.drop i := by rw [h]; exact List.mem_cons_self
                        exact List.mem_of_mem_drop this)
    simp only [bL.l0]
    rw [if_pos z5_, if_pos z5_, if_pos z5_, gE h, dX k _ _ z5_ z5_, decide_eq_true rfl, Option.bind_some, if_pos rfl, wrapn i z5_]
    exact ih k (i + 1) h1 z5_
theorem forms_same (k : Nat) (l : List Tb) (hl : l.length ≤ 1000) (hs : ∀ x ∈ l, x.f0.length ≤ 1000) (hk : l.length + 1010 < k) : bL.f k l l = some true := by
 unfold bL.f
 rw [if_pos rfl]
 exact forms_l0 l hl hs l k 0 rfl hk
theorem spoilI_l0 (n : Nat) : ∀ (k : Nat) (l : List Int) (i : Nat), l.length - i = n → l.length ≤ 1000000 → n < k → ∃ r, bN.l0 k l (i : Int) = some r := by
 induction n with
 | zero =>
  intro k l i h hl hk
  obtain ⟨k, rfl⟩ : ∃ j, k = j + 1 := ⟨k - 1, by omega⟩
  simp only [bN.l0]
  rw [if_neg z5_]
  exact ⟨_, rfl⟩
 | succ n ih =>
  intro k l i h hl hk
  obtain ⟨k, rfl⟩ : ∃ j, k = j + 1 := ⟨k - 1, by omega⟩
  simp only [bN.l0]
  rw [if_pos z5_, if_pos z5_, wrapn i z5_]
  exact ih k _ (i + 1) (by rw [List.length_set]; omega) (by rw [List.length_set]; omega) z5_
theorem spoilI_eq (k : Nat) (l : List Int) (hl : l.length ≤ 1000000) (hk : l.length < k) : ∃ r, bN.f k l = some r := by
 unfold bN.f
 exact spoilI_l0 l.length k l 0 z5_ hl hk
theorem exact_end {l : List No} {f : List Tb} (hs : planSmall l f) (k : Nat) (hk : 3000 < k) :
  aI.j2 k f l f (lastN l f).1 (lastN l f).2.1 (lastN l f).2.2 ((planN l f).1.map ofNd) (planN l f).2 false = some true := by
 obtain ⟨k, rfl⟩ : ∃ j, k = j + 1 := ⟨k - 1, by omega⟩
 simp only [aI.j2]
 rw [if_neg z11_]
 by_cases h : (planN l f).2 = 0
 rotate_left
 ·
  rw [if_neg h, lastN_err h, if_pos z12_, if_pos z12_, if_pos z12_]
  exact wakes_bind k z5_
 obtain ⟨g1, g2, g3, g4⟩ := planN_len h
 have hn := (last_nth h).symm
 have hd := last_ok h
 have a1 := hd.len
 have hlen : (((planN l f).1.map ofNd).length : Int) = (l.length : Int) := by rw [List.length_map, g1]
 have hT : bP ((planN l f).1.map ofNd) ((l.length : Int) - 1) = ofNd (lastN l f) := by
  show ((planN l f).1.map ofNd).getD ((l.length : Int) - 1).toNat _ = _
  rw [← hn]
  unfold nth
  rw [List.getD_eq_getElem?_getD, List.getD_eq_getElem?_getD, List.getElem?_map, List.getElem?_eq_getElem z5_]
  rfl
 have hw0 : wrap64 ((((planN l f).1.map ofNd).length : Int) - 1) = (l.length : Int) - 1 := by rw [hlen, w64 z5_ z5_]
 obtain ⟨sp, hsp⟩ := spoilI_eq k (lastN l f).1 z5_ z5_
 have e0 : (ofNd (lastN l f)).f0 = (lastN l f).1 := rfl
 have e1 : (ofNd (lastN l f)).f1 = (lastN l f).2.1 := rfl
 have e2 : (ofNd (lastN l f)).f2 = (lastN l f).2.2 := rfl
 have hsf := hs.2.1
 rw [if_pos h, hw0, hT, e0, e1, e2, if_pos z5_, if_pos (by rw [hlen]; omega), dX k _ _ z5_ z5_, decide_eq_true rfl, Option.bind_some, if_pos rfl, if_pos rfl, if_pos rfl, hsp, Option.bind_some, fI hs, Option.bind_some, if_pos h]
 rw [dX k _ _ (by show (lastN l f).1.length ≤ _; omega) (by show (lastN l f).1.length + 1 ≤ _; omega), decide_eq_true rfl, Option.bind_some, if_pos rfl, forms_same k f z5_ hs.2.2.2 z5_, Option.bind_some, if_pos rfl]
 exact wakes_bind k z5_
theorem exact_l0 {l : List No} {f : List Tb} (hs : planSmall l f) (hl : l.length ≤ 40) (t : Int) (m : List No) : ∀ (k i : Nat) (acc : Bool), l.drop i = m → (acc || m.any (useP t)) = l.any (useP t) → m.length + 3010 < k →
  aI.l0 k l f t l f (lastN l f).1 (planN l f).2 (lastN l f).2.1 (lastN l f).2.2 (planN l f).2 ((planN l f).1.map ofNd) (planN l f).2 acc (i : Int) = some true := by
 induction m with
 | nil =>
  intro k i acc h ha hk
  obtain ⟨k, rfl⟩ : ∃ j, k = j + 1 := ⟨k - 1, by omega⟩
  have := List.drop_eq_nil_iff.1 h
  simp only [aI.l0]
  rw [if_neg z5_, uses_eq hs.1, Option.bind_some]
  rw [List.any_nil, Bool.or_false] at ha
  rw [← ha, if_neg (by rw [bne_self_eq_false]; decide)]
  have hN : dD.f l l = some true := by unfold dD.f; rw [if_pos (by exact ⟨rfl, hs.1, hs.2.2.1⟩)]
  have hsf := hs.2.1
  rw [hN, Option.bind_some, if_pos rfl, forms_same k f z5_ hs.2.2.2 z5_, Option.bind_some, if_pos rfl, if_pos (by first | rfl | trivial), bne_self_eq_false]
  exact exact_end hs k z5_
 | cons v m ih =>
  intro k i acc h ha hk
  obtain ⟨k, rfl⟩ : ∃ j, k = j + 1 := ⟨k - 1, by omega⟩
  obtain ⟨h1, h2⟩ := eX h
  rw [List.length_cons] at hk
  simp only [aI.l0]
  rw [if_pos z5_, rdN_drop h, wrapn i z5_]
  rw [List.any_cons] at ha
  cases acc with
  | true => rw [if_pos rfl]; exact ih k (i + 1) true h1 (by rw [← ha]; simp) z5_
  | false =>
   rw [if_neg z11_, if_pos z5_]
   by_cases c1 : v.f0 = 1
   rotate_left
   ·
    rw [if_neg c1]
    refine ih k (i + 1) _ h1 ?_ z5_
    rw [← ha, Bool.false_or, Bool.false_or]
    unfold useP
    rw [decide_eq_false (fun e => c1 e.1), Bool.false_or]
   rw [if_pos c1]
   refine ih k (i + 1) _ h1 ?_ z5_
   rw [← ha, Bool.false_or]
   congr 1
   unfold useP
   by_cases c2 : v.f3 = t
   ·
    rw [decide_eq_true ⟨c1, c2⟩, c2, beq_self_eq_true]
   rw [decide_eq_false (fun e => c2 e.2), beq_eq_false_iff_ne.2 c2]
theorem PlanExact : aI.Pure := by
 intro l f t _ _ _
 refine ⟨4000 + 1, ?_⟩
 have hj : aI.j0 4001 l f t true = some true := rfl
 unfold aI.f
 rw [hvN_eq 4001 l z5_, Option.bind_some]
 by_cases hv : hvN l = true
 ·
  rw [if_pos hv]; exact hj
 rw [if_neg hv, hvF_eq 4001 f z5_, Option.bind_some]
 by_cases hw : hvF f = true
 ·
  rw [hw]; exact hj
 rw [Bool.eq_false_iff.mpr hw]
 have hv' := Bool.eq_false_iff.mpr hv
 have hs := small_of l f hv' (Bool.eq_false_iff.mpr hw)
 have hl : l.length ≤ 40 := by
  unfold hvN at hv'
  rw [Bool.or_eq_false_iff] at hv'
  have := of_decide_eq_false hv'.1
  omega
 have hsf := hs.2.1
 simp only [aI.j0]
 rw [if_neg z11_, twinNodesE_eq 4000 l hs.1 hs.2.2.1 z5_, Option.bind_some, twinForms_eq 4000 f z5_ hs.2.2.2 z5_, Option.bind_some, fI hs, Option.bind_some, bound_eq hs, Option.bind_some, plan14_eq hs, Option.bind_some]
 exact exact_l0 hs hl t l 4000 0 false rfl (by rw [Bool.false_or]) z5_
end Go.Proofs.Ytimbbaoodjhdoaa.Pure
end
