-- Put together by a program of this session (wip/slice2.py) out of the seat's texts.
import Derived.Test.YtimbbaoodjhdoaaZPTp6
import Derived.Test.YtimbbaoodjhdoaaZPTq0
import Derived.Test.YtimbbaoodjhdoaaZPTq1
import Derived.Test.YtimbbaoodjhdoaaZPTq2
import Derived.Test.YtimbbaoodjhdoaaZPTq3
import Derived.Test.YtimbbaoodjhdoaaZPTq4
import Derived.Test.YtimbbaoodjhdoaaZPTq5
import Derived.Test.YtimbbaoodjhdoaaZPTq6
import Derived.Test.YtimbbaoodjhdoaaZPTq7
import Derived.Test.YtimbbaoodjhdoaaZPTq8
import Derived.Test.YtimbbaoodjhdoaaZPTq9
import Derived.Test.YtimbbaoodjhdoaaZPTq10
import Derived.Test.YtimbbaoodjhdoaaZPTq11
import Derived.Test.YtimbbaoodjhdoaaZPTq12

set_option maxHeartbeats 8000000
set_option maxRecDepth 100000
open Go.Proofs.YtimbbaoodjhdoaaW Go.Proofs.Ytimbbaoodjhdoaa
section
namespace Go.Proofs.Ytimbbaoodjhdoaa.PAll
open Go.RowKit PrintWords PrintLast PrintMore ZipT PrintWords.Kd PrintMore.Kd
attribute [local go_sem] eC eA eM eK dP dR dZ eB   -- for this text's walks alone
set_option linter.unusedVariables false
set_option linter.unusedSimpArgs false
def aH.f (k : Nat)  : Option (Bool) := (bA.f (([(⟨1, 0, 0, 0, (⟨0, 0, 0, (⟨0, 0, (⟨#[]⟩ : ByteArray)⟩ : S29)⟩ : S31), ([] : List Int), ([] : List Int), 0, 0⟩ : S34)] : List (S34))) (([(⟨(([3] : List Int))⟩ : S54)] : List (S54)))).bind fun bt319 => ((cW.f (([(⟨1, 0, 0, 0, (⟨0, 0, 0, (⟨0, 0, (⟨#[]⟩ : ByteArray)⟩ : S29)⟩ : S31), ([] : List Int), ([] : List Int), 0, 0⟩ : S34)] : List (S34))) (([(⟨(([3] : List Int))⟩ : S54)] : List (S54)))).bind fun bt332 => (if bt319.2 = 0 then (if bt332.2.2 = 0 then ((raddlekeep_Ints.f k bt319.1 (([4, 3] : List Int))).bind fun t338 => (if t338 = true then (if bt332.1 = 1024 then (some (bt332.2.1 == 2147483648)) else (some false)) else (some false))) else (some false)) else (some false)))
theorem aH.mono : ∀ k, LeO (aH.f k ) (aH.f (k + 1) ) := by
 intro  k
 unfold aH.f
 repeat' first
   | (with_reducible exact raddlekeep_Ints.mono _ _ _)
   | (with_reducible exact LeO.refl _)
   | (with_reducible exact LeO.none _)
   | (with_reducible refine LeO.ite ?_ ?_)
   | (with_reducible refine LeO.bind ?_ (fun _ => ?_))
   | exact raddlekeep_Ints.mono _ _ _
   | exact LeO.none _
   | refine LeO.ite ?_ ?_
   | refine LeO.bind ?_ (fun _ => ?_)
theorem aH.callsT (k : Nat)  (r : Bool) (w : World) (hrt : r = true) (h : aH.f k  = some r) :
  Calls Try.prog 14 #[] w fun e w' => e = .returned (.bool r) ∧ Below w.heap.size w w' := by
 have hu34 := Try.underlying34
 have hu54 := Try.underlying54
 have HB := mk_ (Below.refl w.heap.size w)
 have H : ((bA.f (([(⟨1, 0, 0, 0, (⟨0, 0, 0, (⟨0, 0, (⟨#[]⟩ : ByteArray)⟩ : S29)⟩ : S31), ([] : List Int), ([] : List Int), 0, 0⟩ : S34)] : List (S34))) (([(⟨(([3] : List Int))⟩ : S54)] : List (S54)))).bind fun bt319 => ((cW.f (([(⟨1, 0, 0, 0, (⟨0, 0, 0, (⟨0, 0, (⟨#[]⟩ : ByteArray)⟩ : S29)⟩ : S31), ([] : List Int), ([] : List Int), 0, 0⟩ : S34)] : List (S34))) (([(⟨(([3] : List Int))⟩ : S54)] : List (S54)))).bind fun bt332 => (if bt319.2 = 0 then (if bt332.2.2 = 0 then ((raddlekeep_Ints.f k bt319.1 (([4, 3] : List Int))).bind fun t338 => (if t338 = true then (if bt332.1 = 1024 then (some (bt332.2.1 == 2147483648)) else (some false)) else (some false))) else (some false)) else (some false)))) = some r := h
 clear h
 obtain ⟨y310, hy310⟩ : ∃ y_ : List (S34), y_ = (([(⟨1, 0, 0, 0, (⟨0, 0, 0, (⟨0, 0, (⟨#[]⟩ : ByteArray)⟩ : S29)⟩ : S31), ([] : List Int), ([] : List Int), 0, 0⟩ : S34)] : List (S34))) := ⟨_, rfl⟩
 replace H : ((bA.f y310 (([(⟨(([3] : List Int))⟩ : S54)] : List (S54)))).bind fun bt319 => ((cW.f (([(⟨1, 0, 0, 0, (⟨0, 0, 0, (⟨0, 0, (⟨#[]⟩ : ByteArray)⟩ : S29)⟩ : S31), ([] : List Int), ([] : List Int), 0, 0⟩ : S34)] : List (S34))) (([(⟨(([3] : List Int))⟩ : S54)] : List (S54)))).bind fun bt332 => (if bt319.2 = 0 then (if bt332.2.2 = 0 then ((raddlekeep_Ints.f k bt319.1 (([4, 3] : List Int))).bind fun t338 => (if t338 = true then (if bt332.1 = 1024 then (some (bt332.2.1 == 2147483648)) else (some false)) else (some false))) else (some false)) else (some false)))) = some r := by first | (rw [hy310]; with_reducible exact H) | (have H2_ := (Option.bind_some _ _).symm.trans H; rw [hy310]; with_reducible exact H2_) | (have H2_ := (Option.bind_some _ _).symm.trans H; with_reducible exact H2_) | with_reducible exact H | (rw [hy310]; exact H) | exact H
 have Ny310 := mk_ hy310
 clear hy310
 obtain ⟨y313, hy313⟩ : ∃ y_ : List Int, y_ = (([3] : List Int)) := ⟨_, rfl⟩
 replace H : ((bA.f y310 (([(⟨y313⟩ : S54)] : List (S54)))).bind fun bt319 => ((cW.f (([(⟨1, 0, 0, 0, (⟨0, 0, 0, (⟨0, 0, (⟨#[]⟩ : ByteArray)⟩ : S29)⟩ : S31), ([] : List Int), ([] : List Int), 0, 0⟩ : S34)] : List (S34))) (([(⟨(([3] : List Int))⟩ : S54)] : List (S54)))).bind fun bt332 => (if bt319.2 = 0 then (if bt332.2.2 = 0 then ((raddlekeep_Ints.f k bt319.1 (([4, 3] : List Int))).bind fun t338 => (if t338 = true then (if bt332.1 = 1024 then (some (bt332.2.1 == 2147483648)) else (some false)) else (some false))) else (some false)) else (some false)))) = some r := by first | (rw [hy313]; with_reducible exact H) | (have H2_ := (Option.bind_some _ _).symm.trans H; rw [hy313]; with_reducible exact H2_) | (have H2_ := (Option.bind_some _ _).symm.trans H; with_reducible exact H2_) | with_reducible exact H | (rw [hy313]; exact H) | exact H
 have Ny313 := mk_ hy313
 clear hy313
 obtain ⟨y316, hy316⟩ : ∃ y_ : List (S54), y_ = (([(⟨y313⟩ : S54)] : List (S54))) := ⟨_, rfl⟩
 replace H : ((bA.f y310 y316).bind fun bt319 => ((cW.f (([(⟨1, 0, 0, 0, (⟨0, 0, 0, (⟨0, 0, (⟨#[]⟩ : ByteArray)⟩ : S29)⟩ : S31), ([] : List Int), ([] : List Int), 0, 0⟩ : S34)] : List (S34))) (([(⟨(([3] : List Int))⟩ : S54)] : List (S54)))).bind fun bt332 => (if bt319.2 = 0 then (if bt332.2.2 = 0 then ((raddlekeep_Ints.f k bt319.1 (([4, 3] : List Int))).bind fun t338 => (if t338 = true then (if bt332.1 = 1024 then (some (bt332.2.1 == 2147483648)) else (some false)) else (some false))) else (some false)) else (some false)))) = some r := by first | (rw [hy316]; with_reducible exact H) | (have H2_ := (Option.bind_some _ _).symm.trans H; rw [hy316]; with_reducible exact H2_) | (have H2_ := (Option.bind_some _ _).symm.trans H; with_reducible exact H2_) | with_reducible exact H | (rw [hy316]; exact H) | exact H
 have Ny316 := mk_ hy316
 clear hy316
 replace H := Option.bind_eq_some_iff.mp H
 obtain ⟨⟨t319, t320⟩, A10, H⟩ := H
 replace H : ((cW.f (([(⟨1, 0, 0, 0, (⟨0, 0, 0, (⟨0, 0, (⟨#[]⟩ : ByteArray)⟩ : S29)⟩ : S31), ([] : List Int), ([] : List Int), 0, 0⟩ : S34)] : List (S34))) (([(⟨(([3] : List Int))⟩ : S54)] : List (S54)))).bind fun bt332 => (if t320 = 0 then (if bt332.2.2 = 0 then ((raddlekeep_Ints.f k t319 (([4, 3] : List Int))).bind fun t338 => (if t338 = true then (if bt332.1 = 1024 then (some (bt332.2.1 == 2147483648)) else (some false)) else (some false))) else (some false)) else (some false))) = some r := H
 have A1 := mk_ A10
 clear A10
 obtain ⟨y323, hy323⟩ : ∃ y_ : List (S34), y_ = (([(⟨1, 0, 0, 0, (⟨0, 0, 0, (⟨0, 0, (⟨#[]⟩ : ByteArray)⟩ : S29)⟩ : S31), ([] : List Int), ([] : List Int), 0, 0⟩ : S34)] : List (S34))) := ⟨_, rfl⟩
 replace H : ((cW.f y323 (([(⟨(([3] : List Int))⟩ : S54)] : List (S54)))).bind fun bt332 => (if t320 = 0 then (if bt332.2.2 = 0 then ((raddlekeep_Ints.f k t319 (([4, 3] : List Int))).bind fun t338 => (if t338 = true then (if bt332.1 = 1024 then (some (bt332.2.1 == 2147483648)) else (some false)) else (some false))) else (some false)) else (some false))) = some r := by first | (rw [hy323]; with_reducible exact H) | (have H2_ := (Option.bind_some _ _).symm.trans H; rw [hy323]; with_reducible exact H2_) | (have H2_ := (Option.bind_some _ _).symm.trans H; with_reducible exact H2_) | with_reducible exact H | (rw [hy323]; exact H) | exact H
 have Ny323 := mk_ hy323
 clear hy323
 obtain ⟨y326, hy326⟩ : ∃ y_ : List Int, y_ = (([3] : List Int)) := ⟨_, rfl⟩
 replace H : ((cW.f y323 (([(⟨y326⟩ : S54)] : List (S54)))).bind fun bt332 => (if t320 = 0 then (if bt332.2.2 = 0 then ((raddlekeep_Ints.f k t319 (([4, 3] : List Int))).bind fun t338 => (if t338 = true then (if bt332.1 = 1024 then (some (bt332.2.1 == 2147483648)) else (some false)) else (some false))) else (some false)) else (some false))) = some r := by first | (rw [hy326]; with_reducible exact H) | (have H2_ := (Option.bind_some _ _).symm.trans H; rw [hy326]; with_reducible exact H2_) | (have H2_ := (Option.bind_some _ _).symm.trans H; with_reducible exact H2_) | with_reducible exact H | (rw [hy326]; exact H) | exact H
 have Ny326 := mk_ hy326
 clear hy326
 obtain ⟨y329, hy329⟩ : ∃ y_ : List (S54), y_ = (([(⟨y326⟩ : S54)] : List (S54))) := ⟨_, rfl⟩
 replace H : ((cW.f y323 y329).bind fun bt332 => (if t320 = 0 then (if bt332.2.2 = 0 then ((raddlekeep_Ints.f k t319 (([4, 3] : List Int))).bind fun t338 => (if t338 = true then (if bt332.1 = 1024 then (some (bt332.2.1 == 2147483648)) else (some false)) else (some false))) else (some false)) else (some false))) = some r := by first | (rw [hy329]; with_reducible exact H) | (have H2_ := (Option.bind_some _ _).symm.trans H; rw [hy329]; with_reducible exact H2_) | (have H2_ := (Option.bind_some _ _).symm.trans H; with_reducible exact H2_) | with_reducible exact H | (rw [hy329]; exact H) | exact H
 have Ny329 := mk_ hy329
 clear hy329
 replace H := Option.bind_eq_some_iff.mp H
 obtain ⟨⟨t332, t333, t334⟩, A20, H⟩ := H
 replace H : (if t320 = 0 then (if t334 = 0 then ((raddlekeep_Ints.f k t319 (([4, 3] : List Int))).bind fun t338 => (if t338 = true then (if t332 = 1024 then (some (t333 == 2147483648)) else (some false)) else (some false))) else (some false)) else (some false)) = some r := H
 have A2 := mk_ A20
 clear A20
 by_cases c3 : t320 = 0
 rotate_left
 ·
  rw [if_neg c3] at H
  have c3b0 : (t320 == 0) = false := beq_eq_false_iff_ne.mpr c3
  have c3b1 : (t320 != 0) = true := bne_iff_ne.mpr c3
  exact absurd H (by rw [hrt]; simp)
 rw [if_pos c3] at H
 have c3b0 : (t320 == 0) = true := beq_iff_eq.mpr c3
 have c3b1 : (t320 != 0) = false := bne_eq_false_iff_eq.mpr c3
 clear c3
 by_cases c4 : t334 = 0
 rotate_left
 ·
  rw [if_neg c4] at H
  have c4b0 : (t334 == 0) = false := beq_eq_false_iff_ne.mpr c4
  have c4b1 : (t334 != 0) = true := bne_iff_ne.mpr c4
  exact absurd H (by rw [hrt]; simp)
 rw [if_pos c4] at H
 have c4b0 : (t334 == 0) = true := beq_iff_eq.mpr c4
 have c4b1 : (t334 != 0) = false := bne_eq_false_iff_eq.mpr c4
 clear c4
 obtain ⟨y335, hy335⟩ : ∃ y_ : List Int, y_ = (([4, 3] : List Int)) := ⟨_, rfl⟩
 replace H : ((raddlekeep_Ints.f k t319 y335).bind fun t338 => (if t338 = true then (if t332 = 1024 then (some (t333 == 2147483648)) else (some false)) else (some false))) = some r := by first | (rw [hy335]; with_reducible exact H) | (have H2_ := (Option.bind_some _ _).symm.trans H; rw [hy335]; with_reducible exact H2_) | (have H2_ := (Option.bind_some _ _).symm.trans H; with_reducible exact H2_) | with_reducible exact H | (rw [hy335]; exact H) | exact H
 have Ny335 := mk_ hy335
 clear hy335
 replace H := Option.bind_eq_some_iff.mp H
 obtain ⟨t338, A50, H⟩ := H
 replace H : (if t338 = true then (if t332 = 1024 then (some (t333 == 2147483648)) else (some false)) else (some false)) = some r := H
 have A5 := mk_ A50
 clear A50
 by_cases c6 : t338 = true
 rotate_left
 ·
  replace c6 := Bool.eq_false_iff.mpr c6
  subst c6
  rw [if_neg (show ¬ (false = true) by decide)] at H
  exact absurd H (by rw [hrt]; simp)
 subst c6
 rw [if_pos rfl] at H
 by_cases c7 : t332 = 1024
 rotate_left
 ·
  rw [if_neg c7] at H
  have c7b0 : (t332 == 1024) = false := beq_eq_false_iff_ne.mpr c7
  have c7b1 : (t332 != 1024) = true := bne_iff_ne.mpr c7
  exact absurd H (by rw [hrt]; simp)
 rw [if_pos c7] at H
 have c7b0 : (t332 == 1024) = true := beq_iff_eq.mpr c7
 have c7b1 : (t332 != 1024) = false := bne_eq_false_iff_eq.mpr c7
 clear c7
 obtain rfl := Option.some.inj H
 go_enter Try.func14, Try.ntmps14
 go_wp2_with (first | ((with_reducible refine bI (N := 8) rfl ?_); refine N_lit k34 _ 34 ?hg (N' := 8) ?hd (xs := ([(⟨1, 0, 0, 0, (⟨0, 0, 0, (⟨0, 0, (⟨#[]⟩ : ByteArray)⟩ : S29)⟩ : S31), ([] : List Int), ([] : List Int), 0, 0⟩ : S34)] : List (S34))) (inner := [.int .i64 1, .int .i64 0, .int .i64 0, .int .i64 0, .int .i64 0, .int .i64 0, .int .i64 0, .int .i64 0, .int .i64 0, .string (⟨#[]⟩ : ByteArray), .slice none 0 0, .slice none 0 0, .int .i64 0, .int .i64 0]) (ok := (fun _ => True)) (okp := (fun _ => True)) ?hr ?hp (fun _ hk => hk) ((show ∀ k_, w.heap.size ≤ k_ → (fun _ => True) k_ from fun k_ hk => trivial) _ (Nat.le_refl _)) (Below.refl _ _) (Nat.le_refl _) (by simp) ?_; (case hd => rfl); (case hg => rfl); (case hr => first | (go_simp; done) | (go_simp; rfl)); (case hp => exact (Reps.front (show Kd.FK k34 _ _ (⟨1, 0, 0, 0, (⟨0, 0, 0, (⟨0, 0, (⟨#[]⟩ : ByteArray)⟩ : S29)⟩ : S31), ([] : List Int), ([] : List Int), 0, 0⟩ : S34) [.int .i64 1, .int .i64 0, .int .i64 0, .int .i64 0, .int .i64 0, .int .i64 0, .int .i64 0, .int .i64 0, .int .i64 0, .string (⟨#[]⟩ : ByteArray), .slice none 0 0, .slice none 0 0, .int .i64 0, .int .i64 0] from (k34_mkF _ _ (⟨1, 0, 0, 0, (⟨0, 0, 0, (⟨0, 0, (⟨#[]⟩ : ByteArray)⟩ : S29)⟩ : S31), ([] : List Int), ([] : List Int), 0, 0⟩ : S34) (Nat.le_refl _) (F_nil _ _ _) (Nat.le_refl _) (F_nil _ _ _))) rfl (Reps.none _ _) rfl)); intro v311 w8 ho9 hb hg_ hnew_; clear hg_ hnew_; (first | rw [← Ny310.out] at ho9 | (simp only [Int.reduceToNat] at ho9; rw [← Ny310.out] at ho9)); have n0_ := mk_ (eF ho9 (aK (Short.hB HB))); have n1_ := mk_ (aG (Short.hB HB) hb); clear HB; revert n0_ n1_; intro HO312 HB; clear hb ho9) | ((with_reducible refine bI (N := 9) rfl ?_); refine R_lit (Kd.int .i64) _ 3 ?hg (N := 9) ?hd (xs := ([3] : List Int)) (inner := [.int .i64 3]) (ok := fun _ => True) (okp := fun _ => True) ?hr ?hp (fun _ hk => hk) trivial (Below.refl _ _) (Nat.le_refl _) (by simp) ?_; (case hd => rfl); (case hg => rfl); (case hr => first | (go_simp; done) | (go_simp; rfl)); (case hp => exact (Reps.one (show Kd.M (Kd.int .i64) _ _ _ 3 [.int .i64 3] from rfl) (Reps.none _ _))); intro v314 w10 ho11 hb hg_ hnew_; clear hg_ hnew_; (first | rw [← Ny313.out] at ho11 | (simp only [Int.reduceToNat] at ho11; rw [← Ny313.out] at ho11)); have n0_ := mk_ (N_elder' (ZKN HO312) (R_base ho11) hb); have n1_ := mk_ (bT ho11 (aK (Short.hB HB))); have n2_ := mk_ (aG (Short.hB HB) hb); clear HO312 HB; revert n0_ n1_ n2_; intro HO312 HO315 HB; clear hb ho11; obtain ⟨Ao12, co12, eo12⟩ := bE HO315.out; subst eo12) | ((with_reducible refine bI (N := 11) rfl ?_); refine N_lit k54 _ 54 ?hg (N' := 11) ?hd (xs := ([(⟨y313⟩ : S54)] : List (S54))) (inner := [.slice Ao12 y313.length co12]) (ok := (fun k_ => nb_ k_ (v311))) (okp := (fun k_ => nb_ k_ (v311))) ?hr ?hp (fun _ hk => hk) ((show ∀ k_, w10.heap.size ≤ k_ → (fun k_ => nb_ k_ (v311)) k_ from fun k_ hk => Kd.fresh' (N_lt (ZKN HO312)) k_ hk) _ (Nat.le_refl _)) (Below.refl _ _) (Nat.le_refl _) (by simp) ?_; (case hd => rfl); (case hg => rfl); (case hr => first | (go_simp; done) | (go_simp; rfl)); (case hp => exact (Reps.one (show Kd.FK k54 _ _ (⟨y313⟩ : S54) [.slice Ao12 y313.length co12] from (k54_mkF _ _ (⟨y313⟩ : S54) (R_reads' (R_mono (ok' := (fun k_ => nb_ k_ (v311))) (R_apart' (HO315.out) (dI HO312.out) z10_) (fun k_ hk => hk.2))).2.1 (R_F (R_mono (ok' := (fun k_ => nb_ k_ (v311))) (R_apart' (HO315.out) (dI HO312.out) z10_) (fun k_ hk => hk.2))))) (Reps.none _ _))); intro v317 w13 ho14 hb hg_ hnew_; clear hg_ hnew_; (first | rw [← Ny316.out] at ho14 | (simp only [Int.reduceToNat] at ho14; rw [← Ny316.out] at ho14)); have n0_ := mk_ (N_elder' (ZKN HO312) (N_base ho14) hb); have n1_ := mk_ (eF ho14 (aK (Short.hB HB))); have n2_ := mk_ (aG (Short.hB HB) hb); clear HO312 HB HO315; revert n0_ n1_ n2_; intro HO312 HO318 HB; clear hb ho14; obtain ⟨Ao15, co15, eo15⟩ := eU HO312.out; subst eo15; obtain ⟨Ao16, co16, eo16⟩ := eU HO318.out; subst eo16) | ((with_reducible refine bB (f := 12) rfl ?_); refine Short.gL (some 12) Try.func12 #[.slice Ao15 y310.length co15, .slice Ao16 y316.length co16] (h := ?_); (with_reducible refine (bA.calls _ _ y310 _ _ y316 t319 t320 _ ?side1 ?side2 ?side3 ?side4 A1.out).mono ?_); (case side1 => exact cX_ (N_reads' HO312.out).2.2); (case side2 => exact (N_reads' HO312.out).2.1); (case side3 => exact cX_ (N_reads' HO318.out).2.2); (case side4 => exact (N_reads' HO318.out).2.1); rintro e w17 ⟨v321, rfl, ho0, hb⟩; refine ⟨_, rfl, ?_⟩; have n0_ := mk_ (N_elder' (ZKN HO312) (R_base ho0) hb); have n1_ := mk_ (N_elder' (ZKN HO318) (R_base ho0) hb); have n2_ := mk_ (bT ho0 (aK (Short.hB HB))); have n3_ := mk_ (aG (Short.hB HB) hb); clear HO312 HO318 HB; revert n0_ n1_ n2_ n3_; intro HO312 HO318 HO322 HB; (try clear hb ho0)) | ((with_reducible refine bI (N := 17) rfl ?_); refine N_lit k34 _ 34 ?hg (N' := 17) ?hd (xs := ([(⟨1, 0, 0, 0, (⟨0, 0, 0, (⟨0, 0, (⟨#[]⟩ : ByteArray)⟩ : S29)⟩ : S31), ([] : List Int), ([] : List Int), 0, 0⟩ : S34)] : List (S34))) (inner := [.int .i64 1, .int .i64 0, .int .i64 0, .int .i64 0, .int .i64 0, .int .i64 0, .int .i64 0, .int .i64 0, .int .i64 0, .string (⟨#[]⟩ : ByteArray), .slice none 0 0, .slice none 0 0, .int .i64 0, .int .i64 0]) (ok := (fun k_ => nb_ k_ (.slice Ao15 y310.length co15) ∧ nb_ k_ (.slice Ao16 y316.length co16) ∧ nb_ k_ (v321))) (okp := (fun k_ => nb_ k_ (.slice Ao15 y310.length co15) ∧ nb_ k_ (.slice Ao16 y316.length co16) ∧ nb_ k_ (v321))) ?hr ?hp (fun _ hk => hk) ((show ∀ k_, w17.heap.size ≤ k_ → (fun k_ => nb_ k_ (.slice Ao15 y310.length co15) ∧ nb_ k_ (.slice Ao16 y316.length co16) ∧ nb_ k_ (v321)) k_ from fun k_ hk => ⟨Kd.fresh' (N_lt (ZKN HO312)) k_ hk, Kd.fresh' (N_lt (ZKN HO318)) k_ hk, Kd.fresh' (R_lt (ZKR HO322)) k_ hk⟩) _ (Nat.le_refl _)) (Below.refl _ _) (Nat.le_refl _) (by simp) ?_; (case hd => rfl); (case hg => rfl); (case hr => first | (go_simp; done) | (go_simp; rfl)); (case hp => exact (Reps.front (show Kd.FK k34 _ _ (⟨1, 0, 0, 0, (⟨0, 0, 0, (⟨0, 0, (⟨#[]⟩ : ByteArray)⟩ : S29)⟩ : S31), ([] : List Int), ([] : List Int), 0, 0⟩ : S34) [.int .i64 1, .int .i64 0, .int .i64 0, .int .i64 0, .int .i64 0, .int .i64 0, .int .i64 0, .int .i64 0, .int .i64 0, .string (⟨#[]⟩ : ByteArray), .slice none 0 0, .slice none 0 0, .int .i64 0, .int .i64 0] from (k34_mkF _ _ (⟨1, 0, 0, 0, (⟨0, 0, 0, (⟨0, 0, (⟨#[]⟩ : ByteArray)⟩ : S29)⟩ : S31), ([] : List Int), ([] : List Int), 0, 0⟩ : S34) (Nat.le_refl _) (F_nil _ _ _) (Nat.le_refl _) (F_nil _ _ _))) rfl (Reps.none _ _) rfl)); intro v324 w18 ho19 hb hg_ hnew_; clear hg_ hnew_; (first | rw [← Ny323.out] at ho19 | (simp only [Int.reduceToNat] at ho19; rw [← Ny323.out] at ho19)); have n0_ := mk_ (N_elder' (ZKN HO312) (N_base ho19) hb); have n1_ := mk_ (N_elder' (ZKN HO318) (N_base ho19) hb); have n2_ := mk_ (bG (ZKR HO322) hb); have n3_ := mk_ (eF ho19 (aK (Short.hB HB))); have n4_ := mk_ (aG (Short.hB HB) hb); clear HO312 HO318 HO322 HB; revert n0_ n1_ n2_ n3_ n4_; intro HO312 HO318 HO322 HO325 HB; clear hb ho19) | ((with_reducible refine bI (N := 18) rfl ?_); refine R_lit (Kd.int .i64) _ 3 ?hg (N := 18) ?hd (xs := ([3] : List Int)) (inner := [.int .i64 3]) (ok := fun _ => True) (okp := fun _ => True) ?hr ?hp (fun _ hk => hk) trivial (Below.refl _ _) (Nat.le_refl _) (by simp) ?_; (case hd => rfl); (case hg => rfl); (case hr => first | (go_simp; done) | (go_simp; rfl)); (case hp => exact (Reps.one (show Kd.M (Kd.int .i64) _ _ _ 3 [.int .i64 3] from rfl) (Reps.none _ _))); intro v327 w20 ho21 hb hg_ hnew_; clear hg_ hnew_; (first | rw [← Ny326.out] at ho21 | (simp only [Int.reduceToNat] at ho21; rw [← Ny326.out] at ho21)); have n0_ := mk_ (N_elder' (ZKN HO312) (R_base ho21) hb); have n1_ := mk_ (N_elder' (ZKN HO318) (R_base ho21) hb); have n2_ := mk_ (R_elder' (ZKR HO322) (R_base ho21) hb); have n3_ := mk_ (N_elder' (ZKN HO325) (R_base ho21) hb); have n4_ := mk_ (bT (R_new' ho21 (R_lt (ZKR HO322))) (aK (Short.hB HB))); have n5_ := mk_ (aG (Short.hB HB) hb); clear HO312 HO318 HO322 HO325 HB; revert n0_ n1_ n2_ n3_ n4_ n5_; intro HO312 HO318 HO322 HO325 HO328 HB; clear hb ho21; obtain ⟨Ao22, co22, eo22⟩ := bE HO328.out; subst eo22) | ((with_reducible refine bI (N := 20) rfl ?_); refine N_lit k54 _ 54 ?hg (N' := 20) ?hd (xs := ([(⟨y326⟩ : S54)] : List (S54))) (inner := [.slice Ao22 y326.length co22]) (ok := (fun k_ => nb_ k_ (.slice Ao15 y310.length co15) ∧ nb_ k_ (.slice Ao16 y316.length co16) ∧ nb_ k_ (v321) ∧ nb_ k_ (v324))) (okp := (fun k_ => nb_ k_ (.slice Ao15 y310.length co15) ∧ nb_ k_ (.slice Ao16 y316.length co16) ∧ nb_ k_ (v321) ∧ nb_ k_ (v324))) ?hr ?hp (fun _ hk => hk) ((show ∀ k_, w20.heap.size ≤ k_ → (fun k_ => nb_ k_ (.slice Ao15 y310.length co15) ∧ nb_ k_ (.slice Ao16 y316.length co16) ∧ nb_ k_ (v321) ∧ nb_ k_ (v324)) k_ from fun k_ hk => ⟨Kd.fresh' (N_lt (ZKN HO312)) k_ hk, Kd.fresh' (N_lt (ZKN HO318)) k_ hk, Kd.fresh' (R_lt (ZKR HO322)) k_ hk, Kd.fresh' (N_lt (ZKN HO325)) k_ hk⟩) _ (Nat.le_refl _)) (Below.refl _ _) (Nat.le_refl _) (by simp) ?_; (case hd => rfl); (case hg => rfl); (case hr => first | (go_simp; done) | (go_simp; rfl)); (case hp => exact (Reps.one (show Kd.FK k54 _ _ (⟨y326⟩ : S54) [.slice Ao22 y326.length co22] from (k54_mkF _ _ (⟨y326⟩ : S54) (R_reads' (R_mono (ok' := (fun k_ => nb_ k_ (.slice Ao15 y310.length co15) ∧ nb_ k_ (.slice Ao16 y316.length co16) ∧ nb_ k_ (v321) ∧ nb_ k_ (v324))) (R_apart' (R_apart' (R_apart' (HO328.out) (dI HO312.out) z10_) (dI HO318.out) z10_) (dI HO325.out) z10_) (fun k_ hk => ⟨hk.1.1.2, ⟨hk.1.2, ⟨hk.1.1.1.2, hk.2⟩⟩⟩))).2.1 (R_F (R_mono (ok' := (fun k_ => nb_ k_ (.slice Ao15 y310.length co15) ∧ nb_ k_ (.slice Ao16 y316.length co16) ∧ nb_ k_ (v321) ∧ nb_ k_ (v324))) (R_apart' (R_apart' (R_apart' (HO328.out) (dI HO312.out) z10_) (dI HO318.out) z10_) (dI HO325.out) z10_) (fun k_ hk => ⟨hk.1.1.2, ⟨hk.1.2, ⟨hk.1.1.1.2, hk.2⟩⟩⟩))))) (Reps.none _ _))); intro v330 w23 ho24 hb hg_ hnew_; clear hg_ hnew_; (first | rw [← Ny329.out] at ho24 | (simp only [Int.reduceToNat] at ho24; rw [← Ny329.out] at ho24)); have n0_ := mk_ (N_elder' (ZKN HO312) (N_base ho24) hb); have n1_ := mk_ (N_elder' (ZKN HO318) (N_base ho24) hb); have n2_ := mk_ (bG (ZKR HO322) hb); have n3_ := mk_ (N_elder' (ZKN HO325) (N_base ho24) hb); have n4_ := mk_ (eF ho24 (aK (Short.hB HB))); have n5_ := mk_ (aG (Short.hB HB) hb); clear HO312 HO318 HO322 HO325 HB HO328; revert n0_ n1_ n2_ n3_ n4_ n5_; intro HO312 HO318 HO322 HO325 HO331 HB; clear hb ho24; obtain ⟨Ao25, co25, eo25⟩ := eU HO325.out; subst eo25; obtain ⟨Ao26, co26, eo26⟩ := eU HO331.out; subst eo26) | ((with_reducible refine bB (f := 13) rfl ?_); refine Short.gL (some 21) Try.func13 #[.slice Ao25 y323.length co25, .slice Ao26 y329.length co26] (h := ?_); (with_reducible refine (cW.calls _ _ y323 _ _ y329 t332 t333 t334 _ ?side1 ?side2 ?side3 ?side4 A2.out).mono ?_); (case side1 => exact cX_ (N_reads' HO325.out).2.2); (case side2 => exact (N_reads' HO325.out).2.1); (case side3 => exact cX_ (N_reads' HO331.out).2.2); (case side4 => exact (N_reads' HO331.out).2.1); rintro e w27 ⟨rfl, hb⟩; refine ⟨_, rfl, ?_⟩; have n0_ := mk_ (cR (ZKN HO312) hb); have n1_ := mk_ (cR (ZKN HO318) hb); have n2_ := mk_ (bG (ZKR HO322) hb); have n3_ := mk_ (cR (ZKN HO325) hb); have n4_ := mk_ (cR (ZKN HO331) hb); have n5_ := mk_ (aG (Short.hB HB) hb); clear HO312 HO318 HO322 HO325 HO331 HB; revert n0_ n1_ n2_ n3_ n4_ n5_; intro HO312 HO318 HO322 HO325 HO331 HB; (try clear hb)) | ((with_reducible refine bI (N := 33) rfl ?_); (try (refine bW z12_ ?_; dsimp only)); refine R_lit (Kd.int .i64) _ 3 ?hg (N := 33) ?hd (xs := ([4, 3] : List Int)) (inner := [.int .i64 4, .int .i64 3]) (ok := fun _ => True) (okp := fun _ => True) ?hr ?hp (fun _ hk => hk) trivial (Below.refl _ _) (Nat.le_refl _) (by simp) ?_; (case hd => rfl); (case hg => rfl); (case hr => first | (go_simp; done) | (go_simp; rfl)); (case hp => exact (Reps.one (show Kd.M (Kd.int .i64) _ _ _ 4 [.int .i64 4] from rfl) (Reps.one (show Kd.M (Kd.int .i64) _ _ _ 3 [.int .i64 3] from rfl) (Reps.none _ _)))); intro v336 w28 ho29 hb hg_ hnew_; clear hg_ hnew_; (first | rw [← Ny335.out] at ho29 | (simp only [Int.reduceToNat] at ho29; rw [← Ny335.out] at ho29)); have n0_ := mk_ (N_elder' (ZKN HO312) (R_base ho29) hb); have n1_ := mk_ (N_elder' (ZKN HO318) (R_base ho29) hb); have n2_ := mk_ (R_elder' (ZKR HO322) (R_base ho29) hb); have n3_ := mk_ (N_elder' (ZKN HO325) (R_base ho29) hb); have n4_ := mk_ (N_elder' (ZKN HO331) (R_base ho29) hb); have n5_ := mk_ (bT (R_new' ho29 (R_lt (ZKR HO322))) (aK (Short.hB HB))); have n6_ := mk_ (aG (Short.hB HB) hb); clear HO312 HO318 HO322 HO325 HO331 HB; revert n0_ n1_ n2_ n3_ n4_ n5_ n6_; intro HO312 HO318 HO322 HO325 HO331 HO337 HB; clear hb ho29; obtain ⟨Ao30, co30, eo30⟩ := bE HO322.out; subst eo30; obtain ⟨Ao31, co31, eo31⟩ := bE HO337.out; subst eo31) | (go_at_call 18; (with_reducible refine (raddlekeep_Ints.calls k _ _ t319 _ _ y335 true _ ?side1 ?side2 ?side3 ?side4 A5.out).mono ?_); (case side1 => exact cX_ (R_reads' HO322.out).2.2); (case side2 => exact (R_reads' HO322.out).2.1); (case side3 => exact cX_ (R_reads' HO337.out).2.2); (case side4 => exact (R_reads' HO337.out).2.1); rintro e w' ⟨rfl, ⟨nd, rfl⟩⟩))
 go_ret
 exact ⟨q0, Short.hB HB⟩
theorem aH.only (k : Nat) (r : Bool) (h : aH.f k = some r) : r = true := by
 have hm : ∀ n, aH.f (k + n) = some r := fun n => by
  induction n with
  | zero => exact h
  | succ n ih => exact aH.mono (k + n) r ih
 have h5 := hm 5
 unfold aH.f at h5
 have hs : planSmall (([(⟨1, 0, 0, 0, (⟨0, 0, 0, (⟨0, 0, (⟨#[]⟩ : ByteArray)⟩ : S29)⟩ : S31), ([] : List Int), ([] : List Int), 0, 0⟩ : S34)] : List (S34))) (([(⟨(([3] : List Int))⟩ : S54)] : List (S54))) := by decide
 have hp : Go.Proofs.Ytimbbaoodjhdoaa.Plan.planN (([(⟨1, 0, 0, 0, (⟨0, 0, 0, (⟨0, 0, (⟨#[]⟩ : ByteArray)⟩ : S29)⟩ : S31), ([] : List Int), ([] : List Int), 0, 0⟩ : S34)] : List (S34))) (([(⟨(([3] : List Int))⟩ : S54)] : List (S54))) = ([([4, 3], 1024, 2147483648)], 0) := by decide
 have hq : Go.Proofs.Ytimbbaoodjhdoaa.Plan.lastN (([(⟨1, 0, 0, 0, (⟨0, 0, 0, (⟨0, 0, (⟨#[]⟩ : ByteArray)⟩ : S29)⟩ : S31), ([] : List Int), ([] : List Int), 0, 0⟩ : S34)] : List (S34))) (([(⟨(([3] : List Int))⟩ : S54)] : List (S54))) = ([4, 3], 1024, 2147483648) := by unfold Go.Proofs.Ytimbbaoodjhdoaa.Plan.lastN; rw [hp]; rfl
 have e1 : bA.f (([(⟨1, 0, 0, 0, (⟨0, 0, 0, (⟨0, 0, (⟨#[]⟩ : ByteArray)⟩ : S29)⟩ : S31), ([] : List Int), ([] : List Int), 0, 0⟩ : S34)] : List (S34))) (([(⟨(([3] : List Int))⟩ : S54)] : List (S54))) = some ([4, 3], 0) := by unfold bA.f; rw [if_pos hs, hp, hq]
 have e2 : cW.f (([(⟨1, 0, 0, 0, (⟨0, 0, 0, (⟨0, 0, (⟨#[]⟩ : ByteArray)⟩ : S29)⟩ : S31), ([] : List Int), ([] : List Int), 0, 0⟩ : S34)] : List (S34))) (([(⟨(([3] : List Int))⟩ : S54)] : List (S54))) = some (1024, 2147483648, 0) := by unfold cW.f; rw [if_pos hs, hp, hq]
 have e3 : raddlekeep_Ints.f (k + 5) [4, 3] [4, 3] = some true := by
  unfold raddlekeep_Ints.f
  simp [raddlekeep_Ints.l0, rd, wrap64]
 rw [e1, e2] at h5
 simp only [Option.bind_some] at h5
 rw [if_pos trivial, if_pos trivial, e3, Option.bind_some, if_pos rfl, if_pos trivial] at h5
 exact (Option.some.inj h5).symm
theorem aH.calls (k : Nat)  (r : Bool) (w : World) (h : aH.f k  = some r) :
  Calls Try.prog 14 #[] w fun e w' => e = .returned (.bool r) ∧ Below w.heap.size w w' :=
 aH.callsT k r w (aH.only k r h) h
end Go.Proofs.Ytimbbaoodjhdoaa.PAll
end
section
namespace Go.Proofs.Ytimbbaoodjhdoaa.PAll
open Go.RowKit PrintWords PrintLast PrintMore ZipT PrintWords.Kd PrintMore.Kd
open PrintWords.Kd PrintMore.Kd
attribute [local go_sem] eC eA eM eK dP dR dZ eB   -- for this text's walks alone
set_option linter.unusedVariables false
set_option linter.unusedSimpArgs false
def aJ.j0 : Nat → List (S34) → List (S54) → Int → Bool → Option (Bool)
 | 0, _, _, _, _ => none
 | k + 1, x0, x1, x2, x25 => if x25 = true then (some true) else ((dC.f x0 x1).bind fun bt420 => (if bt420.2 = 0 then (if 0 ≤ (wrap64 ((bt420.1.length : Int) - 1)) then (if (wrap64 ((bt420.1.length : Int) - 1)) < (bt420.1.length : Int) then ((aW.f x0 7 (wrap64 ((x0.length : Int) - 1)) 0 0 0 0 0 0 0 (⟨#[]⟩ : ByteArray) ([] : List Int) ([] : List Int) 0 0).bind fun t426 => ((bA.f t426 x1).bind fun bt429 => (if bt429.2 = 0 then ((raddlekeep_Ints.f k bt429.1 ((aQ bt420.1 (wrap64 ((bt420.1.length : Int) - 1))).f0)).bind fun t433 => (if t433 = true then ((some (([] : List Int) : List Int)).bind fun y434 => (if (((aQ bt420.1 (wrap64 ((bt420.1.length : Int) - 1))).f0).length : Int) > 0 then (if (IntKind.u64.wrap ((((aQ bt420.1 (wrap64 ((bt420.1.length : Int) - 1))).f0).length : Int))) = 0 then (none) else ((some (([wrap64 (Int.tmod (IntKind.u64.wrap (x2)) (IntKind.u64.wrap ((((aQ bt420.1 (wrap64 ((bt420.1.length : Int) - 1))).f0).length : Int))))] : List Int) : List Int)).bind fun y437 => (if 0 < (y437.length : Int) then (if 0 ≤ (rd y437 0) then (if (rd y437 0) < (((aQ bt420.1 (wrap64 ((bt420.1.length : Int) - 1))).f0).length : Int) then (if y434.length < 17592186044416 then ((some (y434 ++ [rd ((aQ bt420.1 (wrap64 ((bt420.1.length : Int) - 1))).f0) (rd y437 0)] : List Int)).bind fun y442 => ((aW.f x0 8 (wrap64 ((x0.length : Int) - 1)) 0 0 0 0 0 0 0 (⟨#[]⟩ : ByteArray) y437 ([] : List Int) 1 0).bind fun t445 => ((bA.f t445 x1).bind fun bt448 => (if bt448.2 = 0 then (if y442.length < 17592186044416 then ((raddlekeep_Ints.f k bt448.1 (y442 ++ [3])).bind fun t455 => (if t455 = true then ((aW.f x0 4 (wrap64 ((x0.length : Int) - 1)) 0 0 0 0 0 0 0 (⟨#[]⟩ : ByteArray) ([] : List Int) ([] : List Int) 0 0).bind fun t456 => ((bA.f t456 x1).bind fun bt459 => (if bt459.2 = 0 then ((raddlekeep_TwinInts.f ((aQ bt420.1 (wrap64 ((bt420.1.length : Int) - 1))).f0)).bind fun t463 => (if 0 < (bt420.1.length : Int) then (if t463.length + ((aQ bt420.1 0).f0).length < 17592186044416 then ((raddlekeep_Ints.f k bt459.1 (t463 ++ ((aQ bt420.1 0).f0))).bind fun t470 => (if t470 = true then ((aH.f k).bind fun t471 => (some t471)) else (some false))) else (none)) else (none))) else (if bt459.2 = 2 then ((aH.f k).bind fun t472 => (some t472)) else (if bt459.2 = 11 then ((aH.f k).bind fun t473 => (some t473)) else (some false)))))) else (some false))) else (none)) else (some false))))) else (none)) else (none)) else (none)) else (none)))) else ((aW.f x0 8 (wrap64 ((x0.length : Int) - 1)) 0 0 0 0 0 0 0 (⟨#[]⟩ : ByteArray) ([] : List Int) ([] : List Int) 1 0).bind fun t474 => ((bA.f t474 x1).bind fun bt477 => (if bt477.2 = 0 then (if y434.length < 17592186044416 then ((raddlekeep_Ints.f k bt477.1 (y434 ++ [3])).bind fun t484 => (if t484 = true then ((aW.f x0 4 (wrap64 ((x0.length : Int) - 1)) 0 0 0 0 0 0 0 (⟨#[]⟩ : ByteArray) ([] : List Int) ([] : List Int) 0 0).bind fun t485 => ((bA.f t485 x1).bind fun bt488 => (if bt488.2 = 0 then ((raddlekeep_TwinInts.f ((aQ bt420.1 (wrap64 ((bt420.1.length : Int) - 1))).f0)).bind fun t492 => (if 0 < (bt420.1.length : Int) then (if t492.length + ((aQ bt420.1 0).f0).length < 17592186044416 then ((raddlekeep_Ints.f k bt488.1 (t492 ++ ((aQ bt420.1 0).f0))).bind fun t499 => (if t499 = true then ((aH.f k).bind fun t500 => (some t500)) else (some false))) else (none)) else (none))) else (if bt488.2 = 2 then ((aH.f k).bind fun t501 => (some t501)) else (if bt488.2 = 11 then ((aH.f k).bind fun t502 => (some t502)) else (some false)))))) else (some false))) else (none)) else (some false)))))) else (some false))) else (some false)))) else (none)) else (none)) else (some true)))
def aJ.f (k : Nat) (l0 : List (S34)) (l1 : List (S54)) (a2 : Int) : Option (Bool) := (bN.f k l0).bind fun t418 => (if t418 = true then (aJ.j0 k l0 l1 a2 true) else ((bH.f k l1).bind fun t419 => (if t419 = true then (aJ.j0 k l0 l1 a2 true) else (aJ.j0 k l0 l1 a2 (decide ((l0.length : Int) ≥ 12))))))
def aJ.T16 : Bool × List (List Nat × List Nat) := (true, [([], []), ([], []), ([1], [1]), ([], []), ([3], [3]), ([4], [4]), ([2, 5], [2, 5]), ([6], [6]), ([7], [7]), ([0, 8], [0, 8]), ([9, 9, 0, 1, 2, 3, 4, 5, 6, 7, 8, 9], [0, 9])])
def aJ.B16 : List Nat := [0, 0, 2, 0, 8, 24, 62, 126, 254, 511, 1023]
theorem aJ.tab16 : rtab .any (opsOf Try.f6 16) = aJ.T16 := by kernel_rfl
theorem aJ.bits16 : waitsOk aJ.T16.2 aJ.B16 = true := by kernel_rfl
def aJ.T23 : Bool × List (List Nat × List Nat) := (true, [([], []), ([], []), ([1], [1]), ([2], [2]), ([], []), ([4], [4]), ([5], [5]), ([6], [6]), ([3, 7, 3], [3, 7]), ([0, 8, 8], [0, 8]), ([9, 9], [9]), ([10, 10], [10]), ([10, 11], [10, 11]), ([12, 11, 0, 1, 2, 3, 4, 5, 6, 7, 8, 9, 10, 11, 12], [12])])
def aJ.B23 : List Nat := [0, 0, 2, 6, 0, 16, 48, 112, 254, 511, 1023, 2047, 4095, 8191]
theorem aJ.tab23 : rtab .any (opsOf Try.f6 23) = aJ.T23 := by kernel_rfl
theorem aJ.bits23 : waitsOk aJ.T23.2 aJ.B23 = true := by kernel_rfl
theorem aJ.calls (k : Nat) (A0 : Option Addr) (c0 : Nat) (l0 : List (S34)) (A1 : Option Addr) (c1 : Nat) (l1 : List (S54)) (a2 : Int) (r : Bool) (w : World) (hr0 : Kd.C k34 w A0 l0.length l0) (hc0 : l0.length ≤ c0) (hr1 : Kd.C k54 w A1 l1.length l1) (hc1 : l1.length ≤ c1) (hrt : r = true) (h : aJ.f k l0 l1 a2 = some r) :
  Calls Try.prog 6 #[.slice A0 l0.length c0, .slice A1 l1.length c1, .int .i64 a2] w fun e w' => e = .returned (.bool r) ∧ Below w.heap.size w w' := by
 have hu49 := Try.underlying49
 have hu34 := Try.underlying34
 have HR0 := mk_ hr0
 have HC0 := mk_ hc0
 clear hr0 hc0
 have HR1 := mk_ hr1
 have HC1 := mk_ hc1
 clear hr1 hc1
 have HB := mk_ (Below.refl w.heap.size w)
 have H : ((bN.f k l0).bind fun t418 => (if t418 = true then (aJ.j0 k l0 l1 a2 true) else ((bH.f k l1).bind fun t419 => (if t419 = true then (aJ.j0 k l0 l1 a2 true) else (aJ.j0 k l0 l1 a2 (decide ((l0.length : Int) ≥ 12))))))) = some r := h
 clear h
 have HC4 := mk_ H
 clear H
 go_enter Try.func6, Try.ntmps6
 go_upto_region 1 with (fail)
 go_cut [25] (fun v25 wc => ∃ (kq : Nat) (x25_3 : Bool), v25 = .bool x25_3 ∧ Aside0 (aJ.j0 kq l0 l1 a2 x25_3 = some r) ∧ Aside0 (kq ≤ k) ∧ Aside0 (Below w.heap.size w wc))
 case first =>
  have H := HC4.out
  clear HC4
  replace H := Option.bind_eq_some_iff.mp H
  obtain ⟨t418, A50, H⟩ := H
  replace H : (if t418 = true then (aJ.j0 k l0 l1 a2 true) else ((bH.f k l1).bind fun t419 => (if t419 = true then (aJ.j0 k l0 l1 a2 true) else (aJ.j0 k l0 l1 a2 (decide ((l0.length : Int) ≥ 12)))))) = some r := H
  have A5 := mk_ A50
  clear A50
  by_cases c6 : t418 = true
  ·
   subst c6
   rw [if_pos rfl] at H
   have H' := mk_ H
   clear H
   go_wp2_with (first | ((with_reducible refine bB (f := 15) rfl ?_); refine Short.gL (some 16) Try.func15 #[.slice A0 l0.length c0] (h := ?_); (with_reducible refine (bN.calls k _ _ l0 true _ ?side1 ?side2 A5.out).mono ?_); (case side1 => exact cX_ (aN HR0.out HB.out)); (case side2 => exact HC0.out); rintro e w7 ⟨rfl, hb⟩; refine ⟨_, rfl, ?_⟩; have n0_ := mk_ (aG (Short.hB HB) hb); clear HB; revert n0_; intro HB; (try clear hb)))
   go_meet
   case rel => exact ⟨_, (true), z9_, H', ⟨by first | omega | exact Nat.le_refl _⟩, ⟨Short.hB HB⟩⟩
  replace c6 := Bool.eq_false_iff.mpr c6
  subst c6
  rw [if_neg (show ¬ (false = true) by decide)] at H
  replace H := Option.bind_eq_some_iff.mp H
  obtain ⟨t419, A80, H⟩ := H
  replace H : (if t419 = true then (aJ.j0 k l0 l1 a2 true) else (aJ.j0 k l0 l1 a2 (decide ((l0.length : Int) ≥ 12)))) = some r := H
  have A8 := mk_ A80
  clear A80
  by_cases c9 : t419 = true
  ·
   subst c9
   rw [if_pos rfl] at H
   have H' := mk_ H
   clear H
   go_wp2_with (first | ((with_reducible refine bB (f := 15) rfl ?_); refine Short.gL (some 16) Try.func15 #[.slice A0 l0.length c0] (h := ?_); (with_reducible refine (bN.calls k _ _ l0 false _ ?side1 ?side2 A5.out).mono ?_); (case side1 => exact cX_ (aN HR0.out HB.out)); (case side2 => exact HC0.out); rintro e w10 ⟨rfl, hb⟩; refine ⟨_, rfl, ?_⟩; have n0_ := mk_ (aG (Short.hB HB) hb); clear HB; revert n0_; intro HB; (try clear hb)) | (go_at_call 10; (with_reducible refine (bH.calls k _ _ l1 true _ ?side1 ?side2 A8.out).mono ?_); (case side1 => exact cX_ (aN HR1.out HB.out)); (case side2 => exact HC1.out); rintro e w' ⟨rfl, ⟨nd, rfl⟩⟩))
   go_meet
   case rel => exact ⟨_, (true), z9_, H', ⟨by first | omega | exact Nat.le_refl _⟩, ⟨Short.hB HB⟩⟩
  replace c9 := Bool.eq_false_iff.mpr c9
  subst c9
  rw [if_neg (show ¬ (false = true) by decide)] at H
  have H' := mk_ H
  clear H
  go_wp2_with (first | ((with_reducible refine bB (f := 15) rfl ?_); refine Short.gL (some 16) Try.func15 #[.slice A0 l0.length c0] (h := ?_); (with_reducible refine (bN.calls k _ _ l0 false _ ?side1 ?side2 A5.out).mono ?_); (case side1 => exact cX_ (aN HR0.out HB.out)); (case side2 => exact HC0.out); rintro e w11 ⟨rfl, hb⟩; refine ⟨_, rfl, ?_⟩; have n0_ := mk_ (aG (Short.hB HB) hb); clear HB; revert n0_; intro HB; (try clear hb)) | (go_at_call 10; (with_reducible refine (bH.calls k _ _ l1 false _ ?side1 ?side2 A8.out).mono ?_); (case side1 => exact cX_ (aN HR1.out HB.out)); (case side2 => exact HC1.out); rintro e w' ⟨rfl, ⟨nd, rfl⟩⟩))
  go_meet
  case rel => exact ⟨_, (decide ((l0.length : Int) ≥ 12)), z9_, H', ⟨by first | omega | exact Nat.le_refl _⟩, ⟨Short.hB HB⟩⟩
 case rest =>
  clear HC4
  try clear c1
  try clear p2
  try clear c6
  try clear c9
  obtain ⟨kq, x25_3, rfl, HA, HJ3, HB⟩ := hcut
  cases kq with
  | zero => exact absurd HA.out (by simp [aJ.j0])
  | succ kj3 =>
   have H := HA.out
   clear HA
   simp only [aJ.j0] at H
   by_cases c12 : x25_3 = true
   ·
    subst c12
    rw [if_pos rfl] at H
    obtain rfl := Option.some.inj H
    go_wp2
    go_ret
    exact ⟨by first | rfl | (rw [hrt]; rfl) | (simp [bY, bZ] <;> rfl) | (simp [*, bY, bZ] <;> rfl), Short.hB HB⟩
   replace c12 := Bool.eq_false_iff.mpr c12
   subst c12
   rw [if_neg (show ¬ (false = true) by decide)] at H
   replace H := Option.bind_eq_some_iff.mp H
   obtain ⟨⟨t420, t421⟩, A130, H⟩ := H
   replace H : (if t421 = 0 then (if 0 ≤ (wrap64 ((t420.length : Int) - 1)) then (if (wrap64 ((t420.length : Int) - 1)) < (t420.length : Int) then ((aW.f l0 7 (wrap64 ((l0.length : Int) - 1)) 0 0 0 0 0 0 0 (⟨#[]⟩ : ByteArray) ([] : List Int) ([] : List Int) 0 0).bind fun t426 => ((bA.f t426 l1).bind fun bt429 => (if bt429.2 = 0 then ((raddlekeep_Ints.f kj3 bt429.1 ((aQ t420 (wrap64 ((t420.length : Int) - 1))).f0)).bind fun t433 => (if t433 = true then ((some (([] : List Int) : List Int)).bind fun y434 => (if (((aQ t420 (wrap64 ((t420.length : Int) - 1))).f0).length : Int) > 0 then (if (IntKind.u64.wrap ((((aQ t420 (wrap64 ((t420.length : Int) - 1))).f0).length : Int))) = 0 then (none) else ((some (([wrap64 (Int.tmod (IntKind.u64.wrap (a2)) (IntKind.u64.wrap ((((aQ t420 (wrap64 ((t420.length : Int) - 1))).f0).length : Int))))] : List Int) : List Int)).bind fun y437 => (if 0 < (y437.length : Int) then (if 0 ≤ (rd y437 0) then (if (rd y437 0) < (((aQ t420 (wrap64 ((t420.length : Int) - 1))).f0).length : Int) then (if y434.length < 17592186044416 then ((some (y434 ++ [rd ((aQ t420 (wrap64 ((t420.length : Int) - 1))).f0) (rd y437 0)] : List Int)).bind fun y442 => ((aW.f l0 8 (wrap64 ((l0.length : Int) - 1)) 0 0 0 0 0 0 0 (⟨#[]⟩ : ByteArray) y437 ([] : List Int) 1 0).bind fun t445 => ((bA.f t445 l1).bind fun bt448 => (if bt448.2 = 0 then (if y442.length < 17592186044416 then ((raddlekeep_Ints.f kj3 bt448.1 (y442 ++ [3])).bind fun t455 => (if t455 = true then ((aW.f l0 4 (wrap64 ((l0.length : Int) - 1)) 0 0 0 0 0 0 0 (⟨#[]⟩ : ByteArray) ([] : List Int) ([] : List Int) 0 0).bind fun t456 => ((bA.f t456 l1).bind fun bt459 => (if bt459.2 = 0 then ((raddlekeep_TwinInts.f ((aQ t420 (wrap64 ((t420.length : Int) - 1))).f0)).bind fun t463 => (if 0 < (t420.length : Int) then (if t463.length + ((aQ t420 0).f0).length < 17592186044416 then ((raddlekeep_Ints.f kj3 bt459.1 (t463 ++ ((aQ t420 0).f0))).bind fun t470 => (if t470 = true then ((aH.f kj3).bind fun t471 => (some t471)) else (some false))) else (none)) else (none))) else (if bt459.2 = 2 then ((aH.f kj3).bind fun t472 => (some t472)) else (if bt459.2 = 11 then ((aH.f kj3).bind fun t473 => (some t473)) else (some false)))))) else (some false))) else (none)) else (some false))))) else (none)) else (none)) else (none)) else (none)))) else ((aW.f l0 8 (wrap64 ((l0.length : Int) - 1)) 0 0 0 0 0 0 0 (⟨#[]⟩ : ByteArray) ([] : List Int) ([] : List Int) 1 0).bind fun t474 => ((bA.f t474 l1).bind fun bt477 => (if bt477.2 = 0 then (if y434.length < 17592186044416 then ((raddlekeep_Ints.f kj3 bt477.1 (y434 ++ [3])).bind fun t484 => (if t484 = true then ((aW.f l0 4 (wrap64 ((l0.length : Int) - 1)) 0 0 0 0 0 0 0 (⟨#[]⟩ : ByteArray) ([] : List Int) ([] : List Int) 0 0).bind fun t485 => ((bA.f t485 l1).bind fun bt488 => (if bt488.2 = 0 then ((raddlekeep_TwinInts.f ((aQ t420 (wrap64 ((t420.length : Int) - 1))).f0)).bind fun t492 => (if 0 < (t420.length : Int) then (if t492.length + ((aQ t420 0).f0).length < 17592186044416 then ((raddlekeep_Ints.f kj3 bt488.1 (t492 ++ ((aQ t420 0).f0))).bind fun t499 => (if t499 = true then ((aH.f kj3).bind fun t500 => (some t500)) else (some false))) else (none)) else (none))) else (if bt488.2 = 2 then ((aH.f kj3).bind fun t501 => (some t501)) else (if bt488.2 = 11 then ((aH.f kj3).bind fun t502 => (some t502)) else (some false)))))) else (some false))) else (none)) else (some false)))))) else (some false))) else (some false)))) else (none)) else (none)) else (some true)) = some r := H
   have A13 := mk_ A130
   clear A130
   by_cases c14 : t421 = 0
   rotate_left
   ·
    rw [if_neg c14] at H
    have c14b0 : (t421 == 0) = false := beq_eq_false_iff_ne.mpr c14
    have c14b1 : (t421 != 0) = true := bne_iff_ne.mpr c14
    obtain rfl := Option.some.inj H
    go_wp2_with (first | ((with_reducible refine bB (f := 11) rfl ?_); refine Short.gL (some 29) Try.func11 #[.slice A0 l0.length c0, .slice A1 l1.length c1] (h := ?_); (with_reducible refine (dC.calls _ _ l0 _ _ l1 t420 t421 _ ?side1 ?side2 ?side3 ?side4 A13.out).mono ?_); (case side1 => exact cX_ (aN HR0.out HB.out)); (case side2 => exact HC0.out); (case side3 => exact cX_ (aN HR1.out HB.out)); (case side4 => exact HC1.out); rintro e w230 ⟨v422, rfl, ho0, hb⟩; refine ⟨_, rfl, ?_⟩; have n0_ := mk_ (eF (N_mono (ok' := fun k_ => True) (S_N (S_bound ho0)) (fun k_ hk_ => trivial)) (aK (Short.hB HB))); have n1_ := mk_ (aG (Short.hB HB) hb); clear HB; revert n0_ n1_; intro HO423 HB; (try clear hb ho0)))
    go_ret
    exact ⟨by first | rfl | (rw [hrt]; rfl) | (simp [bY, bZ] <;> rfl) | (simp [*, bY, bZ] <;> rfl), Short.hB HB⟩
   rw [if_pos c14] at H
   have c14b0 : (t421 == 0) = true := beq_iff_eq.mpr c14
   have c14b1 : (t421 != 0) = false := bne_eq_false_iff_eq.mpr c14
   clear c14
   obtain ⟨ji15, hji15⟩ : ∃ j_ : Int, (wrap64 ((t420.length : Int) - 1)) = j_ := ⟨_, rfl⟩
   replace H : (if 0 ≤ (ji15) then (if (ji15) < (t420.length : Int) then ((aW.f l0 7 (wrap64 ((l0.length : Int) - 1)) 0 0 0 0 0 0 0 (⟨#[]⟩ : ByteArray) ([] : List Int) ([] : List Int) 0 0).bind fun t426 => ((bA.f t426 l1).bind fun bt429 => (if bt429.2 = 0 then ((raddlekeep_Ints.f kj3 bt429.1 ((aQ t420 (ji15)).f0)).bind fun t433 => (if t433 = true then ((some (([] : List Int) : List Int)).bind fun y434 => (if (((aQ t420 (ji15)).f0).length : Int) > 0 then (if (IntKind.u64.wrap ((((aQ t420 (ji15)).f0).length : Int))) = 0 then (none) else ((some (([wrap64 (Int.tmod (IntKind.u64.wrap (a2)) (IntKind.u64.wrap ((((aQ t420 (ji15)).f0).length : Int))))] : List Int) : List Int)).bind fun y437 => (if 0 < (y437.length : Int) then (if 0 ≤ (rd y437 0) then (if (rd y437 0) < (((aQ t420 (ji15)).f0).length : Int) then (if y434.length < 17592186044416 then ((some (y434 ++ [rd ((aQ t420 (ji15)).f0) (rd y437 0)] : List Int)).bind fun y442 => ((aW.f l0 8 (wrap64 ((l0.length : Int) - 1)) 0 0 0 0 0 0 0 (⟨#[]⟩ : ByteArray) y437 ([] : List Int) 1 0).bind fun t445 => ((bA.f t445 l1).bind fun bt448 => (if bt448.2 = 0 then (if y442.length < 17592186044416 then ((raddlekeep_Ints.f kj3 bt448.1 (y442 ++ [3])).bind fun t455 => (if t455 = true then ((aW.f l0 4 (wrap64 ((l0.length : Int) - 1)) 0 0 0 0 0 0 0 (⟨#[]⟩ : ByteArray) ([] : List Int) ([] : List Int) 0 0).bind fun t456 => ((bA.f t456 l1).bind fun bt459 => (if bt459.2 = 0 then ((raddlekeep_TwinInts.f ((aQ t420 (ji15)).f0)).bind fun t463 => (if 0 < (t420.length : Int) then (if t463.length + ((aQ t420 0).f0).length < 17592186044416 then ((raddlekeep_Ints.f kj3 bt459.1 (t463 ++ ((aQ t420 0).f0))).bind fun t470 => (if t470 = true then ((aH.f kj3).bind fun t471 => (some t471)) else (some false))) else (none)) else (none))) else (if bt459.2 = 2 then ((aH.f kj3).bind fun t472 => (some t472)) else (if bt459.2 = 11 then ((aH.f kj3).bind fun t473 => (some t473)) else (some false)))))) else (some false))) else (none)) else (some false))))) else (none)) else (none)) else (none)) else (none)))) else ((aW.f l0 8 (wrap64 ((l0.length : Int) - 1)) 0 0 0 0 0 0 0 (⟨#[]⟩ : ByteArray) ([] : List Int) ([] : List Int) 1 0).bind fun t474 => ((bA.f t474 l1).bind fun bt477 => (if bt477.2 = 0 then (if y434.length < 17592186044416 then ((raddlekeep_Ints.f kj3 bt477.1 (y434 ++ [3])).bind fun t484 => (if t484 = true then ((aW.f l0 4 (wrap64 ((l0.length : Int) - 1)) 0 0 0 0 0 0 0 (⟨#[]⟩ : ByteArray) ([] : List Int) ([] : List Int) 0 0).bind fun t485 => ((bA.f t485 l1).bind fun bt488 => (if bt488.2 = 0 then ((raddlekeep_TwinInts.f ((aQ t420 (ji15)).f0)).bind fun t492 => (if 0 < (t420.length : Int) then (if t492.length + ((aQ t420 0).f0).length < 17592186044416 then ((raddlekeep_Ints.f kj3 bt488.1 (t492 ++ ((aQ t420 0).f0))).bind fun t499 => (if t499 = true then ((aH.f kj3).bind fun t500 => (some t500)) else (some false))) else (none)) else (none))) else (if bt488.2 = 2 then ((aH.f kj3).bind fun t501 => (some t501)) else (if bt488.2 = 11 then ((aH.f kj3).bind fun t502 => (some t502)) else (some false)))))) else (some false))) else (none)) else (some false)))))) else (some false))) else (some false)))) else (none)) else (none)) = some r := by first | (rw [hji15] at H; exact H) | (simp only [hji15] at H ⊢; exact H)
   (try rw [hji15] at A13)
   have hji15w : (IntKind.i64.wrap ((t420.length : Int) - 1)) = ji15 := (i64_w _).trans hji15
   by_cases c16 : 0 ≤ (ji15)
   rotate_left
   ·
    rw [if_neg c16] at H
    exact absurd H (by simp)
   rw [if_pos c16] at H
   have c16b0 : decide (0 ≤ (ji15)) = true := decide_eq_true c16
   clear c16
   by_cases c17 : (ji15) < (t420.length : Int)
   rotate_left
   ·
    rw [if_neg c17] at H
    exact absurd H (by simp)
   rw [if_pos c17] at H
   have c17b0 : decide ((ji15) < (t420.length : Int)) = true := decide_eq_true c17
   clear c17
   replace H := Option.bind_eq_some_iff.mp H
   obtain ⟨t426, A180, H⟩ := H
   replace H : ((bA.f t426 l1).bind fun bt429 => (if bt429.2 = 0 then ((raddlekeep_Ints.f kj3 bt429.1 ((aQ t420 (ji15)).f0)).bind fun t433 => (if t433 = true then ((some (([] : List Int) : List Int)).bind fun y434 => (if (((aQ t420 (ji15)).f0).length : Int) > 0 then (if (IntKind.u64.wrap ((((aQ t420 (ji15)).f0).length : Int))) = 0 then (none) else ((some (([wrap64 (Int.tmod (IntKind.u64.wrap (a2)) (IntKind.u64.wrap ((((aQ t420 (ji15)).f0).length : Int))))] : List Int) : List Int)).bind fun y437 => (if 0 < (y437.length : Int) then (if 0 ≤ (rd y437 0) then (if (rd y437 0) < (((aQ t420 (ji15)).f0).length : Int) then (if y434.length < 17592186044416 then ((some (y434 ++ [rd ((aQ t420 (ji15)).f0) (rd y437 0)] : List Int)).bind fun y442 => ((aW.f l0 8 (wrap64 ((l0.length : Int) - 1)) 0 0 0 0 0 0 0 (⟨#[]⟩ : ByteArray) y437 ([] : List Int) 1 0).bind fun t445 => ((bA.f t445 l1).bind fun bt448 => (if bt448.2 = 0 then (if y442.length < 17592186044416 then ((raddlekeep_Ints.f kj3 bt448.1 (y442 ++ [3])).bind fun t455 => (if t455 = true then ((aW.f l0 4 (wrap64 ((l0.length : Int) - 1)) 0 0 0 0 0 0 0 (⟨#[]⟩ : ByteArray) ([] : List Int) ([] : List Int) 0 0).bind fun t456 => ((bA.f t456 l1).bind fun bt459 => (if bt459.2 = 0 then ((raddlekeep_TwinInts.f ((aQ t420 (ji15)).f0)).bind fun t463 => (if 0 < (t420.length : Int) then (if t463.length + ((aQ t420 0).f0).length < 17592186044416 then ((raddlekeep_Ints.f kj3 bt459.1 (t463 ++ ((aQ t420 0).f0))).bind fun t470 => (if t470 = true then ((aH.f kj3).bind fun t471 => (some t471)) else (some false))) else (none)) else (none))) else (if bt459.2 = 2 then ((aH.f kj3).bind fun t472 => (some t472)) else (if bt459.2 = 11 then ((aH.f kj3).bind fun t473 => (some t473)) else (some false)))))) else (some false))) else (none)) else (some false))))) else (none)) else (none)) else (none)) else (none)))) else ((aW.f l0 8 (wrap64 ((l0.length : Int) - 1)) 0 0 0 0 0 0 0 (⟨#[]⟩ : ByteArray) ([] : List Int) ([] : List Int) 1 0).bind fun t474 => ((bA.f t474 l1).bind fun bt477 => (if bt477.2 = 0 then (if y434.length < 17592186044416 then ((raddlekeep_Ints.f kj3 bt477.1 (y434 ++ [3])).bind fun t484 => (if t484 = true then ((aW.f l0 4 (wrap64 ((l0.length : Int) - 1)) 0 0 0 0 0 0 0 (⟨#[]⟩ : ByteArray) ([] : List Int) ([] : List Int) 0 0).bind fun t485 => ((bA.f t485 l1).bind fun bt488 => (if bt488.2 = 0 then ((raddlekeep_TwinInts.f ((aQ t420 (ji15)).f0)).bind fun t492 => (if 0 < (t420.length : Int) then (if t492.length + ((aQ t420 0).f0).length < 17592186044416 then ((raddlekeep_Ints.f kj3 bt488.1 (t492 ++ ((aQ t420 0).f0))).bind fun t499 => (if t499 = true then ((aH.f kj3).bind fun t500 => (some t500)) else (some false))) else (none)) else (none))) else (if bt488.2 = 2 then ((aH.f kj3).bind fun t501 => (some t501)) else (if bt488.2 = 11 then ((aH.f kj3).bind fun t502 => (some t502)) else (some false)))))) else (some false))) else (none)) else (some false)))))) else (some false))) else (some false))) = some r := H
   have A18 := mk_ A180
   clear A180
   replace H := Option.bind_eq_some_iff.mp H
   obtain ⟨⟨t429, t430⟩, A190, H⟩ := H
   replace H : (if t430 = 0 then ((raddlekeep_Ints.f kj3 t429 ((aQ t420 (ji15)).f0)).bind fun t433 => (if t433 = true then ((some (([] : List Int) : List Int)).bind fun y434 => (if (((aQ t420 (ji15)).f0).length : Int) > 0 then (if (IntKind.u64.wrap ((((aQ t420 (ji15)).f0).length : Int))) = 0 then (none) else ((some (([wrap64 (Int.tmod (IntKind.u64.wrap (a2)) (IntKind.u64.wrap ((((aQ t420 (ji15)).f0).length : Int))))] : List Int) : List Int)).bind fun y437 => (if 0 < (y437.length : Int) then (if 0 ≤ (rd y437 0) then (if (rd y437 0) < (((aQ t420 (ji15)).f0).length : Int) then (if y434.length < 17592186044416 then ((some (y434 ++ [rd ((aQ t420 (ji15)).f0) (rd y437 0)] : List Int)).bind fun y442 => ((aW.f l0 8 (wrap64 ((l0.length : Int) - 1)) 0 0 0 0 0 0 0 (⟨#[]⟩ : ByteArray) y437 ([] : List Int) 1 0).bind fun t445 => ((bA.f t445 l1).bind fun bt448 => (if bt448.2 = 0 then (if y442.length < 17592186044416 then ((raddlekeep_Ints.f kj3 bt448.1 (y442 ++ [3])).bind fun t455 => (if t455 = true then ((aW.f l0 4 (wrap64 ((l0.length : Int) - 1)) 0 0 0 0 0 0 0 (⟨#[]⟩ : ByteArray) ([] : List Int) ([] : List Int) 0 0).bind fun t456 => ((bA.f t456 l1).bind fun bt459 => (if bt459.2 = 0 then ((raddlekeep_TwinInts.f ((aQ t420 (ji15)).f0)).bind fun t463 => (if 0 < (t420.length : Int) then (if t463.length + ((aQ t420 0).f0).length < 17592186044416 then ((raddlekeep_Ints.f kj3 bt459.1 (t463 ++ ((aQ t420 0).f0))).bind fun t470 => (if t470 = true then ((aH.f kj3).bind fun t471 => (some t471)) else (some false))) else (none)) else (none))) else (if bt459.2 = 2 then ((aH.f kj3).bind fun t472 => (some t472)) else (if bt459.2 = 11 then ((aH.f kj3).bind fun t473 => (some t473)) else (some false)))))) else (some false))) else (none)) else (some false))))) else (none)) else (none)) else (none)) else (none)))) else ((aW.f l0 8 (wrap64 ((l0.length : Int) - 1)) 0 0 0 0 0 0 0 (⟨#[]⟩ : ByteArray) ([] : List Int) ([] : List Int) 1 0).bind fun t474 => ((bA.f t474 l1).bind fun bt477 => (if bt477.2 = 0 then (if y434.length < 17592186044416 then ((raddlekeep_Ints.f kj3 bt477.1 (y434 ++ [3])).bind fun t484 => (if t484 = true then ((aW.f l0 4 (wrap64 ((l0.length : Int) - 1)) 0 0 0 0 0 0 0 (⟨#[]⟩ : ByteArray) ([] : List Int) ([] : List Int) 0 0).bind fun t485 => ((bA.f t485 l1).bind fun bt488 => (if bt488.2 = 0 then ((raddlekeep_TwinInts.f ((aQ t420 (ji15)).f0)).bind fun t492 => (if 0 < (t420.length : Int) then (if t492.length + ((aQ t420 0).f0).length < 17592186044416 then ((raddlekeep_Ints.f kj3 bt488.1 (t492 ++ ((aQ t420 0).f0))).bind fun t499 => (if t499 = true then ((aH.f kj3).bind fun t500 => (some t500)) else (some false))) else (none)) else (none))) else (if bt488.2 = 2 then ((aH.f kj3).bind fun t501 => (some t501)) else (if bt488.2 = 11 then ((aH.f kj3).bind fun t502 => (some t502)) else (some false)))))) else (some false))) else (none)) else (some false)))))) else (some false))) else (some false)) = some r := H
   have A19 := mk_ A190
   clear A190
   by_cases c20 : t430 = 0
   rotate_left
   ·
    rw [if_neg c20] at H
    have c20b0 : (t430 == 0) = false := beq_eq_false_iff_ne.mpr c20
    have c20b1 : (t430 != 0) = true := bne_iff_ne.mpr c20
    exact absurd H (by rw [hrt]; simp)
   rw [if_pos c20] at H
   have c20b0 : (t430 == 0) = true := beq_iff_eq.mpr c20
   have c20b1 : (t430 != 0) = false := bne_eq_false_iff_eq.mpr c20
   clear c20
   replace H := Option.bind_eq_some_iff.mp H
   obtain ⟨t433, A210, H⟩ := H
   replace H : (if t433 = true then ((some (([] : List Int) : List Int)).bind fun y434 => (if (((aQ t420 (ji15)).f0).length : Int) > 0 then (if (IntKind.u64.wrap ((((aQ t420 (ji15)).f0).length : Int))) = 0 then (none) else ((some (([wrap64 (Int.tmod (IntKind.u64.wrap (a2)) (IntKind.u64.wrap ((((aQ t420 (ji15)).f0).length : Int))))] : List Int) : List Int)).bind fun y437 => (if 0 < (y437.length : Int) then (if 0 ≤ (rd y437 0) then (if (rd y437 0) < (((aQ t420 (ji15)).f0).length : Int) then (if y434.length < 17592186044416 then ((some (y434 ++ [rd ((aQ t420 (ji15)).f0) (rd y437 0)] : List Int)).bind fun y442 => ((aW.f l0 8 (wrap64 ((l0.length : Int) - 1)) 0 0 0 0 0 0 0 (⟨#[]⟩ : ByteArray) y437 ([] : List Int) 1 0).bind fun t445 => ((bA.f t445 l1).bind fun bt448 => (if bt448.2 = 0 then (if y442.length < 17592186044416 then ((raddlekeep_Ints.f kj3 bt448.1 (y442 ++ [3])).bind fun t455 => (if t455 = true then ((aW.f l0 4 (wrap64 ((l0.length : Int) - 1)) 0 0 0 0 0 0 0 (⟨#[]⟩ : ByteArray) ([] : List Int) ([] : List Int) 0 0).bind fun t456 => ((bA.f t456 l1).bind fun bt459 => (if bt459.2 = 0 then ((raddlekeep_TwinInts.f ((aQ t420 (ji15)).f0)).bind fun t463 => (if 0 < (t420.length : Int) then (if t463.length + ((aQ t420 0).f0).length < 17592186044416 then ((raddlekeep_Ints.f kj3 bt459.1 (t463 ++ ((aQ t420 0).f0))).bind fun t470 => (if t470 = true then ((aH.f kj3).bind fun t471 => (some t471)) else (some false))) else (none)) else (none))) else (if bt459.2 = 2 then ((aH.f kj3).bind fun t472 => (some t472)) else (if bt459.2 = 11 then ((aH.f kj3).bind fun t473 => (some t473)) else (some false)))))) else (some false))) else (none)) else (some false))))) else (none)) else (none)) else (none)) else (none)))) else ((aW.f l0 8 (wrap64 ((l0.length : Int) - 1)) 0 0 0 0 0 0 0 (⟨#[]⟩ : ByteArray) ([] : List Int) ([] : List Int) 1 0).bind fun t474 => ((bA.f t474 l1).bind fun bt477 => (if bt477.2 = 0 then (if y434.length < 17592186044416 then ((raddlekeep_Ints.f kj3 bt477.1 (y434 ++ [3])).bind fun t484 => (if t484 = true then ((aW.f l0 4 (wrap64 ((l0.length : Int) - 1)) 0 0 0 0 0 0 0 (⟨#[]⟩ : ByteArray) ([] : List Int) ([] : List Int) 0 0).bind fun t485 => ((bA.f t485 l1).bind fun bt488 => (if bt488.2 = 0 then ((raddlekeep_TwinInts.f ((aQ t420 (ji15)).f0)).bind fun t492 => (if 0 < (t420.length : Int) then (if t492.length + ((aQ t420 0).f0).length < 17592186044416 then ((raddlekeep_Ints.f kj3 bt488.1 (t492 ++ ((aQ t420 0).f0))).bind fun t499 => (if t499 = true then ((aH.f kj3).bind fun t500 => (some t500)) else (some false))) else (none)) else (none))) else (if bt488.2 = 2 then ((aH.f kj3).bind fun t501 => (some t501)) else (if bt488.2 = 11 then ((aH.f kj3).bind fun t502 => (some t502)) else (some false)))))) else (some false))) else (none)) else (some false)))))) else (some false)) = some r := H
   have A21 := mk_ A210
   clear A210
   by_cases c22 : t433 = true
   rotate_left
   ·
    replace c22 := Bool.eq_false_iff.mpr c22
    subst c22
    rw [if_neg (show ¬ (false = true) by decide)] at H
    exact absurd H (by rw [hrt]; simp)
   subst c22
   rw [if_pos rfl] at H
   obtain ⟨y434, hy434⟩ : ∃ y_ : List Int, y_ = (([] : List Int)) := ⟨_, rfl⟩
   replace H : (if (((aQ t420 (ji15)).f0).length : Int) > 0 then (if (IntKind.u64.wrap ((((aQ t420 (ji15)).f0).length : Int))) = 0 then (none) else ((some (([wrap64 (Int.tmod (IntKind.u64.wrap (a2)) (IntKind.u64.wrap ((((aQ t420 (ji15)).f0).length : Int))))] : List Int) : List Int)).bind fun y437 => (if 0 < (y437.length : Int) then (if 0 ≤ (rd y437 0) then (if (rd y437 0) < (((aQ t420 (ji15)).f0).length : Int) then (if y434.length < 17592186044416 then ((some (y434 ++ [rd ((aQ t420 (ji15)).f0) (rd y437 0)] : List Int)).bind fun y442 => ((aW.f l0 8 (wrap64 ((l0.length : Int) - 1)) 0 0 0 0 0 0 0 (⟨#[]⟩ : ByteArray) y437 ([] : List Int) 1 0).bind fun t445 => ((bA.f t445 l1).bind fun bt448 => (if bt448.2 = 0 then (if y442.length < 17592186044416 then ((raddlekeep_Ints.f kj3 bt448.1 (y442 ++ [3])).bind fun t455 => (if t455 = true then ((aW.f l0 4 (wrap64 ((l0.length : Int) - 1)) 0 0 0 0 0 0 0 (⟨#[]⟩ : ByteArray) ([] : List Int) ([] : List Int) 0 0).bind fun t456 => ((bA.f t456 l1).bind fun bt459 => (if bt459.2 = 0 then ((raddlekeep_TwinInts.f ((aQ t420 (ji15)).f0)).bind fun t463 => (if 0 < (t420.length : Int) then (if t463.length + ((aQ t420 0).f0).length < 17592186044416 then ((raddlekeep_Ints.f kj3 bt459.1 (t463 ++ ((aQ t420 0).f0))).bind fun t470 => (if t470 = true then ((aH.f kj3).bind fun t471 => (some t471)) else (some false))) else (none)) else (none))) else (if bt459.2 = 2 then ((aH.f kj3).bind fun t472 => (some t472)) else (if bt459.2 = 11 then ((aH.f kj3).bind fun t473 => (some t473)) else (some false)))))) else (some false))) else (none)) else (some false))))) else (none)) else (none)) else (none)) else (none)))) else ((aW.f l0 8 (wrap64 ((l0.length : Int) - 1)) 0 0 0 0 0 0 0 (⟨#[]⟩ : ByteArray) ([] : List Int) ([] : List Int) 1 0).bind fun t474 => ((bA.f t474 l1).bind fun bt477 => (if bt477.2 = 0 then (if y434.length < 17592186044416 then ((raddlekeep_Ints.f kj3 bt477.1 (y434 ++ [3])).bind fun t484 => (if t484 = true then ((aW.f l0 4 (wrap64 ((l0.length : Int) - 1)) 0 0 0 0 0 0 0 (⟨#[]⟩ : ByteArray) ([] : List Int) ([] : List Int) 0 0).bind fun t485 => ((bA.f t485 l1).bind fun bt488 => (if bt488.2 = 0 then ((raddlekeep_TwinInts.f ((aQ t420 (ji15)).f0)).bind fun t492 => (if 0 < (t420.length : Int) then (if t492.length + ((aQ t420 0).f0).length < 17592186044416 then ((raddlekeep_Ints.f kj3 bt488.1 (t492 ++ ((aQ t420 0).f0))).bind fun t499 => (if t499 = true then ((aH.f kj3).bind fun t500 => (some t500)) else (some false))) else (none)) else (none))) else (if bt488.2 = 2 then ((aH.f kj3).bind fun t501 => (some t501)) else (if bt488.2 = 11 then ((aH.f kj3).bind fun t502 => (some t502)) else (some false)))))) else (some false))) else (none)) else (some false))))) = some r := by first | (rw [hy434]; with_reducible exact H) | (have H2_ := (Option.bind_some _ _).symm.trans H; rw [hy434]; with_reducible exact H2_) | (have H2_ := (Option.bind_some _ _).symm.trans H; with_reducible exact H2_) | with_reducible exact H | (rw [hy434]; exact H) | exact H
   have Ny434 := mk_ hy434
   clear hy434
   go_wp2_with (first | ((with_reducible refine bB (f := 11) rfl ?_); refine Short.gL (some 29) Try.func11 #[.slice A0 l0.length c0, .slice A1 l1.length c1] (h := ?_); (with_reducible refine (dC.calls _ _ l0 _ _ l1 t420 t421 _ ?side1 ?side2 ?side3 ?side4 A13.out).mono ?_); (case side1 => exact cX_ (aN HR0.out HB.out)); (case side2 => exact HC0.out); (case side3 => exact cX_ (aN HR1.out HB.out)); (case side4 => exact HC1.out); rintro e w44 ⟨v422, rfl, ho0, hb⟩; refine ⟨_, rfl, ?_⟩; have n0_ := mk_ (eF (N_mono (ok' := fun k_ => True) (S_N (S_bound ho0)) (fun k_ hk_ => trivial)) (aK (Short.hB HB))); have n1_ := mk_ (aG (Short.hB HB) hb); clear HB; revert n0_ n1_; intro HO423 HB; (try clear hb ho0); obtain ⟨Ao45, co45, eo45⟩ := eU HO423.out; subst eo45; have p424 : 0 ≤ ((ji15) : Int) := of_decide_eq_true z4_; have q424 : (ji15) < (t420.length : Int) := of_decide_eq_true z4_; obtain ⟨ad424, A424_0, c424_0, e424, hx424_0, hx424_1, hx424_2, hl424_0, hi424_0⟩ := eI (N_reads' HO423.out).2.2 (ji15) p424 q424; cases e424; obtain ⟨ce424, hce424, hMe424, hcc424⟩ := N_get HO423.out z49 (ji15) p424 (by first | exact q424 | exact of_decide_eq_true z4_ | (have e_ := (N_reads' HO423.out).1; omega)); obtain ⟨ua424_0, uc424_0, rfl, ul424_0, ge424_0⟩ := k49_openF hMe424; have hv424_0 := hcc424 0 _ rfl; rw [Nat.add_zero] at hv424_0; replace hv424_0 := Option.some.inj (hv424_0.symm.trans hx424_0); injection hv424_0 with hva_ hvn_ hvc_; rw [hva_] at ge424_0; rw [hvc_] at ul424_0; have HL424_0 := mk_ (show Kd.V (Kd.int .i64) 3 _ w.heap.size _ _ ((aQ t420 (ji15)).f0) from V_mk ul424_0 ge424_0); clear hva_ hvn_ hvc_ ge424_0 ul424_0; clear hcc424 hce424; have HR424_0 := mk_ hi424_0; have HC424_0 := mk_ hl424_0; clear hi424_0 hl424_0; replace p424 := eq_true p424; replace q424 := eq_true q424) | ((with_reducible refine bI (N := 9) rfl ?_); refine bJ ?hg (N := 9) ?hd (cs := #[.slice none 0 0, .int .i64 0, .int .i64 0]) (t := 49) ?hr ?_; (case hd => rfl); (case hg => rfl); (case hr => first | (go_simp; done) | (go_simp; rfl)); intro gb425 hg w46 hbox hb; have n0_ := mk_ (cR (N_elderB (nK_ HO423) gb425 (Nat.le_of_eq hg.symm)) hb); have n1_ := mk_ (eL (gG (vK_ HL424_0) gb425 (Nat.le_of_eq hg.symm)) hb); have n2_ := mk_ (aN (cK_ HR424_0) hb); have n3_ := mk_ (aG (Short.hB HB) hb); have n4_ := mk_ (hbox); have n5_ := mk_ ((by rw [hg]; exact (aK (Short.hB HB)) : w.heap.size ≤ gb425)); have n6_ := mk_ ((by rw [hg]; exact (aK (Short.hB HB)) : w.heap.size ≤ gb425)); clear HO423 HL424_0 HR424_0 HB; revert n0_ n1_ n2_ n3_ n4_ n5_ n6_; intro HO423 HL424_0 HR424_0 HB BK425 GW425 GE425; clear hb hbox hg; obtain ⟨hcz47_0, hcz47_1, hcz47_2, hfz47_0, hfz47_1, hfz47_2⟩ := Short.c3 BK425.out) | ((with_reducible refine gate_store (t := 49) (p := 9) rfl ?_); refine store_event (t := 49) (p := 9) (v := ?vo_w48) (w1 := (((w46.setCell ⟨gb425, 0, none⟩ (.slice A424_0 ((aQ t420 (ji15)).f0).length c424_0)).setCell ⟨gb425, 1, none⟩ (.int .i64 ((aQ t420 (ji15)).f1))).setCell ⟨gb425, 2, none⟩ (.int .i64 ((aQ t420 (ji15)).f2)))) ?hg ?ho ?hn ?hr ?_; (case ho => rfl); (case hg => rfl); (case hn => rfl); (case hr => first | (go_simp; done) | (go_simp; rfl)); intro w48 hw; have n0_ : Aside0 (Kd.N k49 49 w48 w.heap.size (fun k_ => k_ ≠ gb425) (.slice (some ad424) t420.length co45) t420) := ⟨(by rw [hw]; exact (by (with_reducible repeat (first | apply N_alloc | apply N_drewN | apply N_drew)); exact N_mono (N_far (p := ⟨gb425, 2, none⟩) (N_far (p := ⟨gb425, 1, none⟩) (N_far (p := ⟨gb425, 0, none⟩) (N_mono HO423.out (fun k_ hk => (⟨hk, hk.2⟩ : _ ∧ k_ ≠ gb425))) (fun _ hk => hk.2) (.slice A424_0 ((aQ t420 (ji15)).f0).length c424_0)) (fun _ hk => hk.2) (.int .i64 ((aQ t420 (ji15)).f1))) (fun _ hk => hk.2) (.int .i64 ((aQ t420 (ji15)).f2))) (fun _ hk => hk.1.2)))⟩; have n1_ : Aside0 (Kd.V (Kd.int .i64) 3 w48 w.heap.size (fun k_ => nb_ k_ (.slice (some ad424) t420.length co45) ∧ k_ ≠ gb425) (.slice A424_0 ((aQ t420 (ji15)).f0).length c424_0) ((aQ t420 (ji15)).f0)) := ⟨(by rw [hw]; exact (by (with_reducible repeat (first | apply V_alloc | apply V_drewN | apply V_drew)); exact V_mono (V_far (p := ⟨gb425, 2, none⟩) (V_far (p := ⟨gb425, 1, none⟩) (V_far (p := ⟨gb425, 0, none⟩) (V_mono HL424_0.out (fun k_ hk => (⟨hk, hk.2⟩ : _ ∧ k_ ≠ gb425))) (fun _ hk => hk.2) (.slice A424_0 ((aQ t420 (ji15)).f0).length c424_0)) (fun _ hk => hk.2) (.int .i64 ((aQ t420 (ji15)).f1))) (fun _ hk => hk.2) (.int .i64 ((aQ t420 (ji15)).f2))) (fun _ hk => ⟨hk.1.1.2, hk.1.2⟩)))⟩; have n2_ : Aside0 (w48.heap[gb425]? = some (.cells #[.slice A424_0 ((aQ t420 (ji15)).f0).length c424_0, .int .i64 ((aQ t420 (ji15)).f1), .int .i64 ((aQ t420 (ji15)).f2)] 49 (0, 0))) := ⟨(by rw [hw]; exact (by (with_reducible repeat (first | refine aX ?_ _ | refine aU ?_ | refine aY ?_ _)); refine blk_put (cs := #[.slice A424_0 ((aQ t420 (ji15)).f0).length c424_0, .int .i64 ((aQ t420 (ji15)).f1), .int .i64 0]) ?_ 2 _ rfl; (with_reducible repeat (first | refine aX ?_ _ | refine aU ?_ | refine aY ?_ _)); refine blk_put (cs := #[.slice A424_0 ((aQ t420 (ji15)).f0).length c424_0, .int .i64 0, .int .i64 0]) ?_ 1 _ rfl; (with_reducible repeat (first | refine aX ?_ _ | refine aU ?_ | refine aY ?_ _)); refine blk_put (cs := #[.slice none 0 0, .int .i64 0, .int .i64 0]) ?_ 0 _ rfl; (with_reducible repeat (first | refine aX ?_ _ | refine aU ?_ | refine aY ?_ _)); exact BK425.out))⟩; have n3_ : Aside0 (Below w.heap.size w w48) := ⟨(by rw [hw]; exact (Short.hB HB))⟩; clear hw HO423 HL424_0 BK425 HB; revert n0_ n1_ n2_ n3_; intro HO423 HL424_0 BK425 HB; clear HR424_0; have HR424_0 := mk_ (V_reads' HL424_0.out).2.2) | ((with_reducible refine bB (f := 16) rfl ?_); refine Short.gL (some 46) Try.func16 #[.slice A0 l0.length c0, .agg #[.int .i64 7, .int .i64 (wrap64 ((l0.length : Int) - 1)), .int .i64 0, .int .i64 0, .int .i64 0, .int .i64 0, .int .i64 0, .int .i64 0, .int .i64 0, .string (⟨#[]⟩ : ByteArray), .slice none 0 0, .slice none 0 0, .int .i64 0, .int .i64 0]] (h := ?_); (refine (aW.calls (fun k_ => k_ < w.heap.size) _ _ l0 7 (wrap64 ((l0.length : Int) - 1)) 0 0 0 0 0 0 0 (⟨#[]⟩ : ByteArray) (fun k_ => False) _ _ ([] : List Int) (fun k_ => False) _ _ ([] : List Int) 0 0 t426 _ ?side1 ?side2 ?side3 A18.out).mono ?_); (case side1 => exact V_mk HC0.out (eZ (C_F fO HR0.out) (Short.hB HB))); (case side2 => exact V_nil _ _ _ _ _); (case side3 => exact V_nil _ _ _ _ _); rintro e w49 ⟨v427, rfl, ho0, hb⟩; refine ⟨_, rfl, ?_⟩; have n0_ := mk_ (N_elder' (nK_ HO423) (N_base ho0) hb); have n1_ := mk_ (V_elder' (vK_ HL424_0) (N_base ho0) hb); have n2_ := mk_ (eF (N_mono (ok' := fun k_ => nb_ k_ (.slice (some ad424) t420.length co45) ∧ k_ ≠ gb425) ho0 (fun k_ hk_ => ⟨fN_ hk_ HO423, fB_ hk_ GW425 BK425⟩)) (aK (Short.hB HB))); have n3_ := mk_ (aN (cK_ HR424_0) hb); have n4_ := mk_ (bB_ BK425 hb); have n5_ := mk_ (aG (Short.hB HB) hb); clear HO423 HL424_0 HR424_0 BK425 HB; revert n0_ n1_ n2_ n3_ n4_ n5_; intro HO423 HL424_0 HO428 HR424_0 BK425 HB; (try clear hb ho0); obtain ⟨Ao50, co50, eo50⟩ := eU HO428.out; subst eo50) | ((with_reducible refine bB (f := 12) rfl ?_); refine Short.gL (some 50) Try.func12 #[.slice Ao50 t426.length co50, .slice A1 l1.length c1] (h := ?_); (with_reducible refine (bA.calls _ _ t426 _ _ l1 t429 t430 _ ?side1 ?side2 ?side3 ?side4 A19.out).mono ?_); (case side1 => exact cX_ (N_reads' HO428.out).2.2); (case side2 => exact (N_reads' HO428.out).2.1); (case side3 => exact cX_ (aN HR1.out HB.out)); (case side4 => exact HC1.out); rintro e w51 ⟨v431, rfl, ho0, hb⟩; refine ⟨_, rfl, ?_⟩; have n0_ := mk_ (N_elder' (nK_ HO423) (R_base ho0) hb); have n1_ := mk_ (V_elder' (vK_ HL424_0) (R_base ho0) hb); have n2_ := mk_ (N_elder' (nK_ HO428) (R_base ho0) hb); have n3_ := mk_ (bT ho0 (aK (Short.hB HB))); have n4_ := mk_ (aN (cK_ HR424_0) hb); have n5_ := mk_ (bB_ BK425 hb); have n6_ := mk_ (aG (Short.hB HB) hb); clear HO423 HL424_0 HO428 HR424_0 BK425 HB; revert n0_ n1_ n2_ n3_ n4_ n5_ n6_; intro HO423 HL424_0 HO428 HO432 HR424_0 BK425 HB; (try clear hb ho0); obtain ⟨hcz52_0, hcz52_1, hcz52_2, hfz52_0, hfz52_1, hfz52_2⟩ := Short.c3 BK425.out; obtain ⟨Ao53, co53, eo53⟩ := bE HO432.out; subst eo53) | (go_at_call 18; (with_reducible refine (raddlekeep_Ints.calls kj3 _ _ t429 _ _ ((aQ t420 (ji15)).f0) true _ ?side1 ?side2 ?side3 ?side4 A21.out).mono ?_); (case side1 => exact cX_ (R_reads' HO432.out).2.2); (case side2 => exact (R_reads' HO432.out).2.1); (case side3 => exact cX_ (cK_ HR424_0)); (case side4 => exact HC424_0.out); rintro e w' ⟨rfl, ⟨nd, rfl⟩⟩) | ((with_reducible refine bI (N := 62) rfl ?_); refine ShortB.Stop.go ?_))
   constructor
   by_cases c23 : (((aQ t420 (ji15)).f0).length : Int) > 0
   rotate_left
   ·
    rw [if_neg c23] at H
    have c23b0 : decide (0 < (((aQ t420 (ji15)).f0).length : Int)) = false := decide_eq_false c23
    have c23b1 : decide (0 < ((aQ t420 (ji15)).f0).length) = false := decide_eq_false z5_
    clear c23
    replace H := Option.bind_eq_some_iff.mp H
    obtain ⟨t474, A1370, H⟩ := H
    replace H : ((bA.f t474 l1).bind fun bt477 => (if bt477.2 = 0 then (if y434.length < 17592186044416 then ((raddlekeep_Ints.f kj3 bt477.1 (y434 ++ [3])).bind fun t484 => (if t484 = true then ((aW.f l0 4 (wrap64 ((l0.length : Int) - 1)) 0 0 0 0 0 0 0 (⟨#[]⟩ : ByteArray) ([] : List Int) ([] : List Int) 0 0).bind fun t485 => ((bA.f t485 l1).bind fun bt488 => (if bt488.2 = 0 then ((raddlekeep_TwinInts.f ((aQ t420 (ji15)).f0)).bind fun t492 => (if 0 < (t420.length : Int) then (if t492.length + ((aQ t420 0).f0).length < 17592186044416 then ((raddlekeep_Ints.f kj3 bt488.1 (t492 ++ ((aQ t420 0).f0))).bind fun t499 => (if t499 = true then ((aH.f kj3).bind fun t500 => (some t500)) else (some false))) else (none)) else (none))) else (if bt488.2 = 2 then ((aH.f kj3).bind fun t501 => (some t501)) else (if bt488.2 = 11 then ((aH.f kj3).bind fun t502 => (some t502)) else (some false)))))) else (some false))) else (none)) else (some false))) = some r := H
    have A137 := mk_ A1370
    clear A1370
    replace H := Option.bind_eq_some_iff.mp H
    obtain ⟨⟨t477, t478⟩, A1380, H⟩ := H
    replace H : (if t478 = 0 then (if y434.length < 17592186044416 then ((raddlekeep_Ints.f kj3 t477 (y434 ++ [3])).bind fun t484 => (if t484 = true then ((aW.f l0 4 (wrap64 ((l0.length : Int) - 1)) 0 0 0 0 0 0 0 (⟨#[]⟩ : ByteArray) ([] : List Int) ([] : List Int) 0 0).bind fun t485 => ((bA.f t485 l1).bind fun bt488 => (if bt488.2 = 0 then ((raddlekeep_TwinInts.f ((aQ t420 (ji15)).f0)).bind fun t492 => (if 0 < (t420.length : Int) then (if t492.length + ((aQ t420 0).f0).length < 17592186044416 then ((raddlekeep_Ints.f kj3 bt488.1 (t492 ++ ((aQ t420 0).f0))).bind fun t499 => (if t499 = true then ((aH.f kj3).bind fun t500 => (some t500)) else (some false))) else (none)) else (none))) else (if bt488.2 = 2 then ((aH.f kj3).bind fun t501 => (some t501)) else (if bt488.2 = 11 then ((aH.f kj3).bind fun t502 => (some t502)) else (some false)))))) else (some false))) else (none)) else (some false)) = some r := H
    have A138 := mk_ A1380
    clear A1380
    by_cases c139 : t478 = 0
    rotate_left
    ·
     rw [if_neg c139] at H
     have c139b0 : (t478 == 0) = false := beq_eq_false_iff_ne.mpr c139
     have c139b1 : (t478 != 0) = true := bne_iff_ne.mpr c139
     exact absurd H (by rw [hrt]; simp)
    rw [if_pos c139] at H
    have c139b0 : (t478 == 0) = true := beq_iff_eq.mpr c139
    have c139b1 : (t478 != 0) = false := bne_eq_false_iff_eq.mpr c139
    clear c139
    by_cases c140 : y434.length < 17592186044416
    rotate_left
    ·
     rw [if_neg c140] at H
     exact absurd H (by simp)
    rw [if_pos c140] at H
    have LMc140 := mk_ c140
    clear c140
    obtain ⟨y481, hy481⟩ : ∃ y_ : List Int, y_ = (y434 ++ [3]) := ⟨_, rfl⟩
    replace H : ((raddlekeep_Ints.f kj3 t477 y481).bind fun t484 => (if t484 = true then ((aW.f l0 4 (wrap64 ((l0.length : Int) - 1)) 0 0 0 0 0 0 0 (⟨#[]⟩ : ByteArray) ([] : List Int) ([] : List Int) 0 0).bind fun t485 => ((bA.f t485 l1).bind fun bt488 => (if bt488.2 = 0 then ((raddlekeep_TwinInts.f ((aQ t420 (ji15)).f0)).bind fun t492 => (if 0 < (t420.length : Int) then (if t492.length + ((aQ t420 0).f0).length < 17592186044416 then ((raddlekeep_Ints.f kj3 bt488.1 (t492 ++ ((aQ t420 0).f0))).bind fun t499 => (if t499 = true then ((aH.f kj3).bind fun t500 => (some t500)) else (some false))) else (none)) else (none))) else (if bt488.2 = 2 then ((aH.f kj3).bind fun t501 => (some t501)) else (if bt488.2 = 11 then ((aH.f kj3).bind fun t502 => (some t502)) else (some false)))))) else (some false))) = some r := by first | (rw [hy481]; with_reducible exact H) | (have H2_ := (Option.bind_some _ _).symm.trans H; rw [hy481]; with_reducible exact H2_) | (have H2_ := (Option.bind_some _ _).symm.trans H; with_reducible exact H2_) | with_reducible exact H | (rw [hy481]; exact H) | exact H
    have Ny481 := mk_ hy481
    clear hy481
    replace H := Option.bind_eq_some_iff.mp H
    obtain ⟨t484, A1410, H⟩ := H
    replace H : (if t484 = true then ((aW.f l0 4 (wrap64 ((l0.length : Int) - 1)) 0 0 0 0 0 0 0 (⟨#[]⟩ : ByteArray) ([] : List Int) ([] : List Int) 0 0).bind fun t485 => ((bA.f t485 l1).bind fun bt488 => (if bt488.2 = 0 then ((raddlekeep_TwinInts.f ((aQ t420 (ji15)).f0)).bind fun t492 => (if 0 < (t420.length : Int) then (if t492.length + ((aQ t420 0).f0).length < 17592186044416 then ((raddlekeep_Ints.f kj3 bt488.1 (t492 ++ ((aQ t420 0).f0))).bind fun t499 => (if t499 = true then ((aH.f kj3).bind fun t500 => (some t500)) else (some false))) else (none)) else (none))) else (if bt488.2 = 2 then ((aH.f kj3).bind fun t501 => (some t501)) else (if bt488.2 = 11 then ((aH.f kj3).bind fun t502 => (some t502)) else (some false)))))) else (some false)) = some r := H
    have A141 := mk_ A1410
    clear A1410
    by_cases c142 : t484 = true
    rotate_left
    ·
     replace c142 := Bool.eq_false_iff.mpr c142
     subst c142
     rw [if_neg (show ¬ (false = true) by decide)] at H
     exact absurd H (by rw [hrt]; simp)
    subst c142
    rw [if_pos rfl] at H
    replace H := Option.bind_eq_some_iff.mp H
    obtain ⟨t485, A1430, H⟩ := H
    replace H : ((bA.f t485 l1).bind fun bt488 => (if bt488.2 = 0 then ((raddlekeep_TwinInts.f ((aQ t420 (ji15)).f0)).bind fun t492 => (if 0 < (t420.length : Int) then (if t492.length + ((aQ t420 0).f0).length < 17592186044416 then ((raddlekeep_Ints.f kj3 bt488.1 (t492 ++ ((aQ t420 0).f0))).bind fun t499 => (if t499 = true then ((aH.f kj3).bind fun t500 => (some t500)) else (some false))) else (none)) else (none))) else (if bt488.2 = 2 then ((aH.f kj3).bind fun t501 => (some t501)) else (if bt488.2 = 11 then ((aH.f kj3).bind fun t502 => (some t502)) else (some false))))) = some r := H
    have A143 := mk_ A1430
    clear A1430
    replace H := Option.bind_eq_some_iff.mp H
    obtain ⟨⟨t488, t489⟩, A1440, H⟩ := H
    replace H : (if t489 = 0 then ((raddlekeep_TwinInts.f ((aQ t420 (ji15)).f0)).bind fun t492 => (if 0 < (t420.length : Int) then (if t492.length + ((aQ t420 0).f0).length < 17592186044416 then ((raddlekeep_Ints.f kj3 t488 (t492 ++ ((aQ t420 0).f0))).bind fun t499 => (if t499 = true then ((aH.f kj3).bind fun t500 => (some t500)) else (some false))) else (none)) else (none))) else (if t489 = 2 then ((aH.f kj3).bind fun t501 => (some t501)) else (if t489 = 11 then ((aH.f kj3).bind fun t502 => (some t502)) else (some false)))) = some r := H
    have A144 := mk_ A1440
    clear A1440
    refine R_lit (Kd.int .i64) _ 3 ?hg (N := 62) ?hd (xs := ([] : List Int)) (inner := []) (ok := fun _ => True) (okp := fun _ => True) ?hr ?hp (fun _ hk => hk) trivial (Below.refl _ _) (Nat.le_refl _) (by simp) ?_
    (case hd => rfl)
    (case hg => rfl)
    (case hr => first | (go_simp; done) | (go_simp; rfl))
    (case hp => exact (Reps.none _ _))
    intro v435 w54 ho55 hb hg_ hnew_
    clear hg_ hnew_
    (first | rw [← Ny434.out] at ho55 | (simp only [Int.reduceToNat] at ho55; rw [← Ny434.out] at ho55))
    have n0_ := mk_ (N_elder' (nK_ HO423) (R_base ho55) hb)
    have n1_ := mk_ (V_elder' (vK_ HL424_0) (R_base ho55) hb)
    have n2_ := mk_ (N_elder' (nK_ HO428) (R_base ho55) hb)
    have n3_ := mk_ (R_elder' (ShortB.rK HO432) (R_base ho55) hb)
    have n4_ := mk_ (bT (R_new' ho55 (R_lt (ShortB.rK HO432))) (aK (Short.hB HB)))
    have n5_ := mk_ (aN (cK_ HR424_0) hb)
    have n6_ := mk_ (bB_ BK425 hb)
    have n7_ := mk_ (aG (Short.hB HB) hb)
    clear HO423 HL424_0 HO428 HO432 HR424_0 BK425 HB
    revert n0_ n1_ n2_ n3_ n4_ n5_ n6_ n7_
    intro HO423 HL424_0 HO428 HO432 HO436 HR424_0 BK425 HB
    clear hb ho55
    obtain ⟨hcz56_0, hcz56_1, hcz56_2, hfz56_0, hfz56_1, hfz56_2⟩ := Short.c3 BK425.out
    go_wp2_with (first | ((with_reducible refine bB (f := 16) rfl ?_); refine Short.gL (some 91) Try.func16 #[.slice A0 l0.length c0, .agg #[.int .i64 8, .int .i64 (wrap64 ((l0.length : Int) - 1)), .int .i64 0, .int .i64 0, .int .i64 0, .int .i64 0, .int .i64 0, .int .i64 0, .int .i64 0, .string (⟨#[]⟩ : ByteArray), .slice none 0 0, .slice none 0 0, .int .i64 1, .int .i64 0]] (h := ?_); (refine (aW.calls (fun k_ => k_ < w.heap.size) _ _ l0 8 (wrap64 ((l0.length : Int) - 1)) 0 0 0 0 0 0 0 (⟨#[]⟩ : ByteArray) (fun k_ => False) _ _ ([] : List Int) (fun k_ => False) _ _ ([] : List Int) 1 0 t474 _ ?side1 ?side2 ?side3 A137.out).mono ?_); (case side1 => exact V_mk HC0.out (eZ (C_F fO HR0.out) (Short.hB HB))); (case side2 => exact V_nil _ _ _ _ _); (case side3 => exact V_nil _ _ _ _ _); rintro e w165 ⟨v475, rfl, ho0, hb⟩; refine ⟨_, rfl, ?_⟩; have n0_ := mk_ (N_elder' (nK_ HO423) (N_base ho0) hb); have n1_ := mk_ (V_elder' (vK_ HL424_0) (N_base ho0) hb); have n2_ := mk_ (N_elder' (nK_ HO428) (N_base ho0) hb); have n3_ := mk_ (bG (ShortB.rK HO432) hb); have n4_ := mk_ (bG (ShortB.rK HO436) hb); have n5_ := mk_ (eF (N_mono (ok' := fun k_ => nb_ k_ (.slice (some ad424) t420.length co45) ∧ nb_ k_ (.slice Ao50 t426.length co50) ∧ nb_ k_ (.slice Ao53 t429.length co53) ∧ nb_ k_ (v435) ∧ k_ ≠ gb425) ho0 (fun k_ hk_ => ⟨fN_ hk_ HO423, fN_ hk_ HO428, fR_ hk_ HO432, fR_ hk_ HO436, fB_ hk_ GW425 BK425⟩)) (aK (Short.hB HB))); have n6_ := mk_ (aN (cK_ HR424_0) hb); have n7_ := mk_ (bB_ BK425 hb); have n8_ := mk_ (aG (Short.hB HB) hb); clear HO423 HL424_0 HO428 HO432 HO436 HR424_0 BK425 HB; revert n0_ n1_ n2_ n3_ n4_ n5_ n6_ n7_ n8_; intro HO423 HL424_0 HO428 HO432 HO436 HO476 HR424_0 BK425 HB; (try clear hb ho0); obtain ⟨Ao166, co166, eo166⟩ := eU HO476.out; subst eo166) | ((with_reducible refine bB (f := 12) rfl ?_); refine Short.gL (some 93) Try.func12 #[.slice Ao166 t474.length co166, .slice A1 l1.length c1] (h := ?_); (with_reducible refine (bA.calls _ _ t474 _ _ l1 t477 t478 _ ?side1 ?side2 ?side3 ?side4 A138.out).mono ?_); (case side1 => exact cX_ (N_reads' HO476.out).2.2); (case side2 => exact (N_reads' HO476.out).2.1); (case side3 => exact cX_ (aN HR1.out HB.out)); (case side4 => exact HC1.out); rintro e w167 ⟨v479, rfl, ho0, hb⟩; refine ⟨_, rfl, ?_⟩; have n0_ := mk_ (N_elder' (nK_ HO423) (R_base ho0) hb); have n1_ := mk_ (V_elder' (vK_ HL424_0) (R_base ho0) hb); have n2_ := mk_ (N_elder' (nK_ HO428) (R_base ho0) hb); have n3_ := mk_ (R_elder' (ShortB.rK HO432) (R_base ho0) hb); have n4_ := mk_ (R_elder' (ShortB.rK HO436) (R_base ho0) hb); have n5_ := mk_ (N_elder' (nK_ HO476) (R_base ho0) hb); have n6_ := mk_ (bT (R_new' (R_new' ho0 (R_lt (ShortB.rK HO432))) (R_lt (ShortB.rK HO436))) (aK (Short.hB HB))); have n7_ := mk_ (aN (cK_ HR424_0) hb); have n8_ := mk_ (bB_ BK425 hb); have n9_ := mk_ (aG (Short.hB HB) hb); clear HO423 HL424_0 HO428 HO432 HO436 HO476 HR424_0 BK425 HB; revert n0_ n1_ n2_ n3_ n4_ n5_ n6_ n7_ n8_ n9_; intro HO423 HL424_0 HO428 HO432 HO436 HO476 HO480 HR424_0 BK425 HB; (try clear hb ho0)) | ((with_reducible refine cZ (b := .append) (xs := #[.tmp 100, .tmp 101]) rfl ?_); (try (refine bW z12_ ?_; dsimp only)); at_builtin; refine fP (Kd.int .i64) (w0 := w) w.heap.size rfl (.tmp 100) (.tmp 101) 32 3 (.int .i64 0) 8 rfl Try.underlying32 info3 rfl z10_ z5_ v435 y434 3 [.int .i64 3] (fun k_ => nb_ k_ (.slice Ao53 t429.length co53) ∧ nb_ k_ (v479)) (fun _ => False) rfl rfl ?aP (fun _ hk => hk.elim) ?aF ?aO ?aB ?aS ?aL ?_; (case aP => exact rfl); (case aB => exact (Short.hB HB)); (case aF => exact (fun k_ hk => ⟨Kd.fresh' (R_lt (ShortB.rK HO432)) k_ hk, Kd.fresh' (R_lt (ShortB.rK HO480)) k_ hk⟩)); (case aO => exact (rM_ HO436 (fun _ hk => ⟨hk.1.2, hk.2⟩))); (case aS => exact (aK (Short.hB HB))); (case aL => have := LMc140.out; omega); intro v482 w168 ho hb hg hat; rw [← Ny481.out] at ho; have n0_ := mk_ (dG (ok := (fun k_ => nb_ k_ (.slice Ao50 t426.length co50) ∧ nb_ k_ (.slice Ao53 t429.length co53) ∧ nb_ k_ (.slice Ao166 t474.length co166) ∧ nb_ k_ (v479) ∧ k_ ≠ gb425)) (nM_ HO423 (fun _ hk => ⟨⟨hk.1.1.1.1.2, ⟨hk.1.1.1.2, ⟨hk.1.2, ⟨hk.2, hk.1.1.1.1.1⟩⟩⟩⟩, hk.1.1.2⟩)) hg hat); have n1_ := mk_ (dJ (ok := (fun k_ => nb_ k_ (.slice (some ad424) t420.length co45) ∧ nb_ k_ (.slice Ao50 t426.length co50) ∧ nb_ k_ (.slice Ao53 t429.length co53) ∧ nb_ k_ (.slice Ao166 t474.length co166) ∧ nb_ k_ (v479) ∧ k_ ≠ gb425)) (vM_ HL424_0 (fun _ hk => ⟨⟨hk.1.1.1.1.1.1, ⟨hk.1.1.1.1.2, ⟨hk.1.1.1.2, ⟨hk.1.2, ⟨hk.2, hk.1.1.1.1.1.2⟩⟩⟩⟩⟩, hk.1.1.2⟩)) hg hat); have n2_ := mk_ (eH (g := gb425) (o := .cells #[.slice A424_0 ((aQ t420 (ji15)).f0).length c424_0, .int .i64 ((aQ t420 (ji15)).f1), .int .i64 ((aQ t420 (ji15)).f2)] 49 (0, 0)) (Short.bK BK425) hg (R_ne HO436.out BK425.out z10_)); have n3_ := mk_ (dG (ok := (fun k_ => nb_ k_ (.slice (some ad424) t420.length co45) ∧ nb_ k_ (.slice Ao53 t429.length co53) ∧ nb_ k_ (.slice Ao166 t474.length co166) ∧ nb_ k_ (v479) ∧ k_ ≠ gb425)) (nM_ HO428 (fun _ hk => ⟨⟨hk.1.1.1.1.1, ⟨hk.1.1.1.2, ⟨hk.1.2, ⟨hk.2, hk.1.1.1.1.2⟩⟩⟩⟩, hk.1.1.2⟩)) hg hat); have n4_ := mk_ (dW (ok := (fun k_ => nb_ k_ (v479))) (rM_ HO432 (fun _ hk => ⟨hk.2, hk.1.2⟩)) hg hat); have n5_ := mk_ (dG (ok := (fun k_ => nb_ k_ (.slice (some ad424) t420.length co45) ∧ nb_ k_ (.slice Ao50 t426.length co50) ∧ nb_ k_ (.slice Ao53 t429.length co53) ∧ nb_ k_ (v479) ∧ k_ ≠ gb425)) (nM_ HO476 (fun _ hk => ⟨⟨hk.1.1, ⟨hk.1.2.1, ⟨hk.1.2.2.1, ⟨hk.2, hk.1.2.2.2.2⟩⟩⟩⟩, hk.1.2.2.2.1⟩)) hg hat); have n6_ := mk_ (dW (ok := (fun k_ => nb_ k_ (.slice Ao53 t429.length co53))) (rM_ HO480 (fun _ hk => ⟨hk.1.2, hk.2⟩)) hg hat); have n7_ := mk_ (hb); have n8_ := mk_ (ho); clear HO423 HL424_0 BK425 HO428 HO432 HO476 HO480 HB HO436; revert n0_ n1_ n2_ n3_ n4_ n5_ n6_ n7_ n8_; intro HO423 HL424_0 BK425 HO428 HO432 HO476 HO480 HB HO483; clear ho hb hg hat; obtain ⟨Ao169, co169, eo169⟩ := bE HO480.out; subst eo169; obtain ⟨Ao170, co170, eo170⟩ := bE HO483.out; subst eo170) | (go_at_call 18; (with_reducible refine (raddlekeep_Ints.calls kj3 _ _ t477 _ _ y481 true _ ?side1 ?side2 ?side3 ?side4 A141.out).mono ?_); (case side1 => exact cX_ (R_reads' HO480.out).2.2); (case side2 => exact (R_reads' HO480.out).2.1); (case side3 => exact cX_ (R_reads' HO483.out).2.2); (case side4 => exact (R_reads' HO483.out).2.1); rintro e w' ⟨rfl, ⟨nd, rfl⟩⟩) | ((with_reducible refine bB (f := 16) rfl ?_); refine Short.gL (some 110) Try.func16 #[.slice A0 l0.length c0, .agg #[.int .i64 4, .int .i64 (wrap64 ((l0.length : Int) - 1)), .int .i64 0, .int .i64 0, .int .i64 0, .int .i64 0, .int .i64 0, .int .i64 0, .int .i64 0, .string (⟨#[]⟩ : ByteArray), .slice none 0 0, .slice none 0 0, .int .i64 0, .int .i64 0]] (h := ?_); (refine (aW.calls (fun k_ => k_ < w.heap.size) _ _ l0 4 (wrap64 ((l0.length : Int) - 1)) 0 0 0 0 0 0 0 (⟨#[]⟩ : ByteArray) (fun k_ => False) _ _ ([] : List Int) (fun k_ => False) _ _ ([] : List Int) 0 0 t485 _ ?side1 ?side2 ?side3 A143.out).mono ?_); (case side1 => exact V_mk HC0.out (eZ (C_F fO HR0.out) (Short.hB HB))); (case side2 => exact V_nil _ _ _ _ _); (case side3 => exact V_nil _ _ _ _ _); rintro e w171 ⟨v486, rfl, ho0, hb⟩; refine ⟨_, rfl, ?_⟩; have n0_ := mk_ (N_elder' (nK_ HO423) (N_base ho0) hb); have n1_ := mk_ (V_elder' (vK_ HL424_0) (N_base ho0) hb); have n2_ := mk_ (N_elder' (nK_ HO428) (N_base ho0) hb); have n3_ := mk_ (bG (ShortB.rK HO432) hb); have n4_ := mk_ (N_elder' (nK_ HO476) (N_base ho0) hb); have n5_ := mk_ (bG (ShortB.rK HO480) hb); have n6_ := mk_ (bG (ShortB.rK HO483) hb); have n7_ := mk_ (eF (N_mono (ok' := fun k_ => nb_ k_ (.slice (some ad424) t420.length co45) ∧ nb_ k_ (.slice Ao50 t426.length co50) ∧ nb_ k_ (.slice Ao53 t429.length co53) ∧ nb_ k_ (.slice Ao166 t474.length co166) ∧ nb_ k_ (.slice Ao169 t477.length co169) ∧ nb_ k_ (.slice Ao170 y481.length co170) ∧ k_ ≠ gb425) ho0 (fun k_ hk_ => ⟨fN_ hk_ HO423, fN_ hk_ HO428, fR_ hk_ HO432, fN_ hk_ HO476, fR_ hk_ HO480, fR_ hk_ HO483, fB_ hk_ GW425 BK425⟩)) (aK (Short.hB HB))); have n8_ := mk_ (bB_ BK425 hb); have n9_ := mk_ (aG (Short.hB HB) hb); clear HO423 HL424_0 HO428 HO432 HO476 HO480 HO483 BK425 HB; revert n0_ n1_ n2_ n3_ n4_ n5_ n6_ n7_ n8_ n9_; intro HO423 HL424_0 HO428 HO432 HO476 HO480 HO483 HO487 BK425 HB; (try clear hb ho0); obtain ⟨Ao172, co172, eo172⟩ := eU HO487.out; subst eo172) | ((with_reducible refine bB (f := 12) rfl ?_); refine ShortB.Stop.go ?_))
    constructor
    by_cases c145 : t489 = 0
    rotate_left
    ·
     rw [if_neg c145] at H
     have c145b0 : (t489 == 0) = false := beq_eq_false_iff_ne.mpr c145
     have c145b1 : (t489 != 0) = true := bne_iff_ne.mpr c145
     by_cases c180 : t489 = 2
     ·
      rw [if_pos c180] at H
      have c180b0 : (t489 == 2) = true := beq_iff_eq.mpr c180
      have c180b1 : (t489 != 2) = false := bne_eq_false_iff_eq.mpr c180
      clear c180
      replace H := Option.bind_eq_some_iff.mp H
      obtain ⟨t501, A1810, H⟩ := H
      replace H : (some t501) = some r := H
      have A181 := mk_ A1810
      clear A1810
      obtain rfl := Option.some.inj H
      refine Short.gL (some 112) Try.func12 #[.slice Ao172 t485.length co172, .slice A1 l1.length c1] (h := ?_)
      (with_reducible refine (bA.calls _ _ t485 _ _ l1 t488 t489 _ ?side1 ?side2 ?side3 ?side4 A144.out).mono ?_)
      (case side1 => exact cX_ (N_reads' HO487.out).2.2)
      (case side2 => exact (N_reads' HO487.out).2.1)
      (case side3 => exact cX_ (aN HR1.out HB.out))
      (case side4 => exact HC1.out)
      rintro e w173 ⟨v490, rfl, ho0, hb⟩
      refine ⟨_, rfl, ?_⟩
      have n0_ := mk_ (N_elder' (nK_ HO423) (R_base ho0) hb)
      have n1_ := mk_ (V_elder' (vK_ HL424_0) (R_base ho0) hb)
      have n2_ := mk_ (N_elder' (nK_ HO428) (R_base ho0) hb)
      have n3_ := mk_ (R_elder' (ShortB.rK HO432) (R_base ho0) hb)
      have n4_ := mk_ (N_elder' (nK_ HO476) (R_base ho0) hb)
      have n5_ := mk_ (R_elder' (ShortB.rK HO480) (R_base ho0) hb)
      have n6_ := mk_ (R_elder' (ShortB.rK HO483) (R_base ho0) hb)
      have n7_ := mk_ (N_elder' (nK_ HO487) (R_base ho0) hb)
      have n8_ := mk_ (bT (R_new' (R_new' (R_new' ho0 (R_lt (ShortB.rK HO432))) (R_lt (ShortB.rK HO480))) (R_lt (ShortB.rK HO483))) (aK (Short.hB HB)))
      have n9_ := mk_ (bB_ BK425 hb)
      have n10_ := mk_ (aG (Short.hB HB) hb)
      clear HO423 HL424_0 HO428 HO432 HO476 HO480 HO483 HO487 BK425 HB
      revert n0_ n1_ n2_ n3_ n4_ n5_ n6_ n7_ n8_ n9_ n10_
      intro HO423 HL424_0 HO428 HO432 HO476 HO480 HO483 HO487 HO491 BK425 HB
      (try clear hb ho0)
      go_wp2_with (first | (go_at_call 14; (with_reducible refine (aH.calls kj3  t501 _ A181.out).mono ?_); rintro e w204 ⟨rfl, hb⟩; have n0_ := mk_ (cR (nK_ HO423) hb); have n1_ := mk_ (eL (vK_ HL424_0) hb); have n2_ := mk_ (cR (nK_ HO428) hb); have n3_ := mk_ (bG (ShortB.rK HO432) hb); have n4_ := mk_ (cR (nK_ HO476) hb); have n5_ := mk_ (bG (ShortB.rK HO480) hb); have n6_ := mk_ (bG (ShortB.rK HO483) hb); have n7_ := mk_ (cR (nK_ HO487) hb); have n8_ := mk_ (bG (ShortB.rK HO491) hb); have n9_ := mk_ (bB_ BK425 hb); have n10_ := mk_ (aG (Short.hB HB) hb); clear HO423 HL424_0 HO428 HO432 HO476 HO480 HO483 HO487 HO491 BK425 HB; revert n0_ n1_ n2_ n3_ n4_ n5_ n6_ n7_ n8_ n9_ n10_; intro HO423 HL424_0 HO428 HO432 HO476 HO480 HO483 HO487 HO491 BK425 HB; (try clear hb); (try clear hb2); (try clear hk); (try clear hi)))
      go_ret
      exact ⟨by first | rfl | (rw [hrt]; rfl) | (simp [bY, bZ] <;> rfl) | (simp only [← hji15]; first | rfl | (simp [bY, bZ] <;> rfl)) | (simp [*, bY, bZ] <;> rfl), Short.hB HB⟩
     rw [if_neg c180] at H
     have c180b0 : (t489 == 2) = false := beq_eq_false_iff_ne.mpr c180
     have c180b1 : (t489 != 2) = true := bne_iff_ne.mpr c180
     by_cases c205 : t489 = 11
     rotate_left
     ·
      rw [if_neg c205] at H
      have c205b0 : (t489 == 11) = false := beq_eq_false_iff_ne.mpr c205
      have c205b1 : (t489 != 11) = true := bne_iff_ne.mpr c205
      exact absurd H (by rw [hrt]; simp)
     rw [if_pos c205] at H
     have c205b0 : (t489 == 11) = true := beq_iff_eq.mpr c205
     have c205b1 : (t489 != 11) = false := bne_eq_false_iff_eq.mpr c205
     clear c205
     replace H := Option.bind_eq_some_iff.mp H
     obtain ⟨t502, A2060, H⟩ := H
     replace H : (some t502) = some r := H
     have A206 := mk_ A2060
     clear A2060
     obtain rfl := Option.some.inj H
     refine Short.gL (some 112) Try.func12 #[.slice Ao172 t485.length co172, .slice A1 l1.length c1] (h := ?_)
     (with_reducible refine (bA.calls _ _ t485 _ _ l1 t488 t489 _ ?side1 ?side2 ?side3 ?side4 A144.out).mono ?_)
     (case side1 => exact cX_ (N_reads' HO487.out).2.2)
     (case side2 => exact (N_reads' HO487.out).2.1)
     (case side3 => exact cX_ (aN HR1.out HB.out))
     (case side4 => exact HC1.out)
     rintro e w173 ⟨v490, rfl, ho0, hb⟩
     refine ⟨_, rfl, ?_⟩
     have n0_ := mk_ (N_elder' (nK_ HO423) (R_base ho0) hb)
     have n1_ := mk_ (V_elder' (vK_ HL424_0) (R_base ho0) hb)
     have n2_ := mk_ (N_elder' (nK_ HO428) (R_base ho0) hb)
     have n3_ := mk_ (R_elder' (ShortB.rK HO432) (R_base ho0) hb)
     have n4_ := mk_ (N_elder' (nK_ HO476) (R_base ho0) hb)
     have n5_ := mk_ (R_elder' (ShortB.rK HO480) (R_base ho0) hb)
     have n6_ := mk_ (R_elder' (ShortB.rK HO483) (R_base ho0) hb)
     have n7_ := mk_ (N_elder' (nK_ HO487) (R_base ho0) hb)
     have n8_ := mk_ (bT (R_new' (R_new' (R_new' ho0 (R_lt (ShortB.rK HO432))) (R_lt (ShortB.rK HO480))) (R_lt (ShortB.rK HO483))) (aK (Short.hB HB)))
     have n9_ := mk_ (bB_ BK425 hb)
     have n10_ := mk_ (aG (Short.hB HB) hb)
     clear HO423 HL424_0 HO428 HO432 HO476 HO480 HO483 HO487 BK425 HB
     revert n0_ n1_ n2_ n3_ n4_ n5_ n6_ n7_ n8_ n9_ n10_
     intro HO423 HL424_0 HO428 HO432 HO476 HO480 HO483 HO487 HO491 BK425 HB
     (try clear hb ho0)
     go_wp2_with (first | (go_at_call 14; (with_reducible refine (aH.calls kj3  t502 _ A206.out).mono ?_); rintro e w229 ⟨rfl, hb⟩; have n0_ := mk_ (cR (nK_ HO423) hb); have n1_ := mk_ (eL (vK_ HL424_0) hb); have n2_ := mk_ (cR (nK_ HO428) hb); have n3_ := mk_ (bG (ShortB.rK HO432) hb); have n4_ := mk_ (cR (nK_ HO476) hb); have n5_ := mk_ (bG (ShortB.rK HO480) hb); have n6_ := mk_ (bG (ShortB.rK HO483) hb); have n7_ := mk_ (cR (nK_ HO487) hb); have n8_ := mk_ (bG (ShortB.rK HO491) hb); have n9_ := mk_ (bB_ BK425 hb); have n10_ := mk_ (aG (Short.hB HB) hb); clear HO423 HL424_0 HO428 HO432 HO476 HO480 HO483 HO487 HO491 BK425 HB; revert n0_ n1_ n2_ n3_ n4_ n5_ n6_ n7_ n8_ n9_ n10_; intro HO423 HL424_0 HO428 HO432 HO476 HO480 HO483 HO487 HO491 BK425 HB; (try clear hb); (try clear hb2); (try clear hk); (try clear hi)))
     go_ret
     exact ⟨by first | rfl | (rw [hrt]; rfl) | (simp [bY, bZ] <;> rfl) | (simp only [← hji15]; first | rfl | (simp [bY, bZ] <;> rfl)) | (simp [*, bY, bZ] <;> rfl), Short.hB HB⟩
    rw [if_pos c145] at H
    have c145b0 : (t489 == 0) = true := beq_iff_eq.mpr c145
    have c145b1 : (t489 != 0) = false := bne_eq_false_iff_eq.mpr c145
    clear c145
    replace H := Option.bind_eq_some_iff.mp H
    obtain ⟨t492, A1460, H⟩ := H
    replace H : (if 0 < (t420.length : Int) then (if t492.length + ((aQ t420 0).f0).length < 17592186044416 then ((raddlekeep_Ints.f kj3 t488 (t492 ++ ((aQ t420 0).f0))).bind fun t499 => (if t499 = true then ((aH.f kj3).bind fun t500 => (some t500)) else (some false))) else (none)) else (none)) = some r := H
    have A146 := mk_ A1460
    clear A1460
    by_cases c147 : 0 < (t420.length : Int)
    rotate_left
    ·
     rw [if_neg c147] at H
     exact absurd H (by simp)
    rw [if_pos c147] at H
    have c147b0 : decide (0 < (t420.length : Int)) = true := decide_eq_true c147
    have c147b1 : decide (0 < t420.length) = true := decide_eq_true z5_
    clear c147
    by_cases c148 : t492.length + ((aQ t420 0).f0).length < 17592186044416
    rotate_left
    ·
     rw [if_neg c148] at H
     exact absurd H (by simp)
    rw [if_pos c148] at H
    have LMc148 := mk_ c148
    clear c148
    obtain ⟨y496, hy496⟩ : ∃ y_ : List Int, y_ = (t492 ++ ((aQ t420 0).f0)) := ⟨_, rfl⟩
    replace H : ((raddlekeep_Ints.f kj3 t488 y496).bind fun t499 => (if t499 = true then ((aH.f kj3).bind fun t500 => (some t500)) else (some false))) = some r := by first | (rw [hy496]; with_reducible exact H) | (have H2_ := (Option.bind_some _ _).symm.trans H; rw [hy496]; with_reducible exact H2_) | (have H2_ := (Option.bind_some _ _).symm.trans H; with_reducible exact H2_) | with_reducible exact H | (rw [hy496]; exact H) | exact H
    have Ny496 := mk_ hy496
    clear hy496
    replace H := Option.bind_eq_some_iff.mp H
    obtain ⟨t499, A1490, H⟩ := H
    replace H : (if t499 = true then ((aH.f kj3).bind fun t500 => (some t500)) else (some false)) = some r := H
    have A149 := mk_ A1490
    clear A1490
    by_cases c150 : t499 = true
    rotate_left
    ·
     replace c150 := Bool.eq_false_iff.mpr c150
     subst c150
     rw [if_neg (show ¬ (false = true) by decide)] at H
     exact absurd H (by rw [hrt]; simp)
    subst c150
    rw [if_pos rfl] at H
    replace H := Option.bind_eq_some_iff.mp H
    obtain ⟨t500, A1510, H⟩ := H
    replace H : (some t500) = some r := H
    have A151 := mk_ A1510
    clear A1510
    obtain rfl := Option.some.inj H
    refine Short.gL (some 112) Try.func12 #[.slice Ao172 t485.length co172, .slice A1 l1.length c1] (h := ?_)
    (with_reducible refine (bA.calls _ _ t485 _ _ l1 t488 t489 _ ?side1 ?side2 ?side3 ?side4 A144.out).mono ?_)
    (case side1 => exact cX_ (N_reads' HO487.out).2.2)
    (case side2 => exact (N_reads' HO487.out).2.1)
    (case side3 => exact cX_ (aN HR1.out HB.out))
    (case side4 => exact HC1.out)
    rintro e w173 ⟨v490, rfl, ho0, hb⟩
    refine ⟨_, rfl, ?_⟩
    have n0_ := mk_ (N_elder' (nK_ HO423) (R_base ho0) hb)
    have n1_ := mk_ (V_elder' (vK_ HL424_0) (R_base ho0) hb)
    have n2_ := mk_ (N_elder' (nK_ HO428) (R_base ho0) hb)
    have n3_ := mk_ (R_elder' (ShortB.rK HO432) (R_base ho0) hb)
    have n4_ := mk_ (N_elder' (nK_ HO476) (R_base ho0) hb)
    have n5_ := mk_ (R_elder' (ShortB.rK HO480) (R_base ho0) hb)
    have n6_ := mk_ (R_elder' (ShortB.rK HO483) (R_base ho0) hb)
    have n7_ := mk_ (N_elder' (nK_ HO487) (R_base ho0) hb)
    have n8_ := mk_ (bT (R_new' (R_new' (R_new' ho0 (R_lt (ShortB.rK HO432))) (R_lt (ShortB.rK HO480))) (R_lt (ShortB.rK HO483))) (aK (Short.hB HB)))
    have n9_ := mk_ (bB_ BK425 hb)
    have n10_ := mk_ (aG (Short.hB HB) hb)
    clear HO423 HL424_0 HO428 HO432 HO476 HO480 HO483 HO487 BK425 HB
    revert n0_ n1_ n2_ n3_ n4_ n5_ n6_ n7_ n8_ n9_ n10_
    intro HO423 HL424_0 HO428 HO432 HO476 HO480 HO483 HO487 HO491 BK425 HB
    (try clear hb ho0)
    go_wp2
    have n0_ := mk_ (N_drew HO423.out)
    have n1_ := mk_ (V_drew HL424_0.out)
    have n2_ := mk_ (N_drew HO428.out)
    have n3_ := mk_ (R_drew HO432.out)
    have n4_ := mk_ (N_drew HO476.out)
    have n5_ := mk_ (R_drew HO480.out)
    have n6_ := mk_ (R_drew HO483.out)
    have n7_ := mk_ (N_drew HO487.out)
    have n8_ := mk_ (R_drew HO491.out)
    have n9_ := mk_ (aU BK425.out)
    have n10_ := mk_ (cQ HB.out)
    clear HO423 HL424_0 HO428 HO432 HO476 HO480 HO483 HO487 HO491 BK425 HB
    revert n0_ n1_ n2_ n3_ n4_ n5_ n6_ n7_ n8_ n9_ n10_
    intro HO423 HL424_0 HO428 HO432 HO476 HO480 HO483 HO487 HO491 BK425 HB
    have p495 : 0 ≤ (0 : Int) := z5_
    have q495 : 0 < (t420.length : Int) := of_decide_eq_true z4_
    obtain ⟨ad495, A495_0, c495_0, e495, hx495_0, hx495_1, hx495_2, hl495_0, hi495_0⟩ := eI (N_reads' HO423.out).2.2 0 p495 q495
    obtain rfl : ad424 = ad495 := (by injection e495)
    obtain ⟨ce495, hce495, hMe495, hcc495⟩ := N_get HO423.out z49 0 p495 (by first | exact q495 | exact of_decide_eq_true z4_ | (have e_ := (N_reads' HO423.out).1; omega))
    obtain ⟨ua495_0, uc495_0, rfl, ul495_0, ge495_0⟩ := k49_openF hMe495
    have hv495_0 := hcc495 0 _ rfl
    rw [Nat.add_zero] at hv495_0
    replace hv495_0 := Option.some.inj (hv495_0.symm.trans hx495_0)
    injection hv495_0 with hva_ hvn_ hvc_
    rw [hva_] at ge495_0
    rw [hvc_] at ul495_0
    have HL495_0 := mk_ (show Kd.V (Kd.int .i64) 3 _ w.heap.size _ _ ((aQ t420 0).f0) from V_mk ul495_0 ge495_0)
    clear hva_ hvn_ hvc_ ge495_0 ul495_0
    clear hcc495 hce495
    have qi495 : (0 < t420.length) = True := eq_true z5_
    (try rw [show ((0 : Int)).toNat = 0 from rfl] at hx495_0)
    (try rw [show 0 * 3 = 0 from rfl] at hx495_0)
    (try rw [Addr.add_zero'] at hx495_0)
    (try rw [show ((0 : Int)).toNat = 0 from rfl] at hx495_1)
    (try rw [show 0 * 3 = 0 from rfl] at hx495_1)
    (try rw [Addr.add_zero'] at hx495_1)
    (try rw [show ((0 : Int)).toNat = 0 from rfl] at hx495_2)
    (try rw [show 0 * 3 = 0 from rfl] at hx495_2)
    (try rw [Addr.add_zero'] at hx495_2)
    have HR495_0 := mk_ hi495_0
    have HC495_0 := mk_ hl495_0
    clear hi495_0 hl495_0
    replace p495 := eq_true p495
    replace q495 := eq_true q495
    refine dX (n := 14) (S := fun w' => w'.cell? ⟨gb425, 0, none⟩ = some (.slice A424_0 ((aQ t420 (ji15)).f0).length c424_0) ∧ w'.cell? ⟨gb425, 1, none⟩ = some (.int .i64 ((aQ t420 (ji15)).f1)) ∧ w'.cell? ⟨gb425, 2, none⟩ = some (.int .i64 ((aQ t420 (ji15)).f2)) ∧ w'.cell? ad424 = some (.slice A495_0 ((aQ t420 0).f0).length c495_0) ∧ w'.cell? ⟨ad424.block, ad424.off + 1, none⟩ = some (.int .i64 ((aQ t420 0).f1)) ∧ w'.cell? ⟨ad424.block, ad424.off + 2, none⟩ = some (.int .i64 ((aQ t420 0).f2))) (ds := [8]) (Steps.Bs 14 0) z1_ rfl rfl ⟨kc_ BK425 0, kc_ BK425 1, kc_ BK425 2, hx495_0, hx495_1, hx495_2⟩ (fun hHeld => ?_); refine dB aJ.tab23 aJ.bits23 (fun HT_ HW_ => ?_)
    generalize w173.drew = w174 at HO423 HL424_0 HO428 HO432 HO476 HO480 HO483 HO487 HO491 BK425 HB HL495_0 HR495_0 hx495_0 hx495_1 hx495_2 hHeld ⊢
    refine tI HT_ 0 126 14 1 ?_
    refine tI HT_ 1 127 14 3 ?_
    refine tI HT_ 4 130 14 19 ?_
    refine tI HT_ 5 131 14 51 ?_
    refine tI HT_ 6 132 14 115 ?_
    refine tT HT_ HW_ hHeld 2 128 14 119 ?_
    refine tT HT_ HW_ hHeld 7 133 14 247 ?_
    refine one_ (i := 3) (N := some 129) (Steps.Bs 14 255) rfl rfl (dA HT_.out z1_) z10_ (fun K hK => ?_)
    refine goes_ Try.func19 z1_ rfl #[.slice A424_0 ((aQ t420 (ji15)).f0).length c424_0] z12_ rfl rfl (by (try simp only [List.map_toArray, List.map_cons, List.map_nil]); first | done | (simp only [hji15]; rfl) | rfl | (simp only [List.length_drop, List.length_take]; rfl) | (go_simp; done) | (simp; done)) ?_
    with_reducible refine (raddlekeep_TwinInts.calls _ _ ((aQ t420 (ji15)).f0) t492 _ ?side1 ?side2 A146.out).mono ?_
    (case side1 => exact cX_ (V_reads' HL424_0.out).2.2)
    (case side2 => exact HC424_0.out)
    rintro e w175 ⟨v493, rfl, ho0, hb⟩
    have HS3_ := (hb.cell (World.block_lt_of_cell? _ _ (hHeld.2.2.2.1))).trans (hHeld.2.2.2.1)
    have HS4_ := (hb.cell (World.block_lt_of_cell? _ _ (hHeld.2.2.2.2.1))).trans (hHeld.2.2.2.2.1)
    have HS5_ := (hb.cell (World.block_lt_of_cell? _ _ (hHeld.2.2.2.2.2))).trans (hHeld.2.2.2.2.2)
    refine ⟨_, rfl, ?_⟩
    have n0_ := mk_ (N_elder' (nK_ HO423) (R_base ho0) hb)
    have n1_ := mk_ (V_elder' (vK_ HL424_0) (R_base ho0) hb)
    have n2_ := mk_ (N_elder' (nK_ HO428) (R_base ho0) hb)
    have n3_ := mk_ (R_elder' (ShortB.rK HO432) (R_base ho0) hb)
    have n4_ := mk_ (N_elder' (nK_ HO476) (R_base ho0) hb)
    have n5_ := mk_ (R_elder' (ShortB.rK HO480) (R_base ho0) hb)
    have n6_ := mk_ (R_elder' (ShortB.rK HO483) (R_base ho0) hb)
    have n7_ := mk_ (N_elder' (nK_ HO487) (R_base ho0) hb)
    have n8_ := mk_ (R_elder' (ShortB.rK HO491) (R_base ho0) hb)
    have n9_ := mk_ (V_elder' (vK_ HL495_0) (R_base ho0) hb)
    have n10_ := mk_ (bT (R_new' (R_new' (R_new' (R_new' ho0 (R_lt (ShortB.rK HO432))) (R_lt (ShortB.rK HO480))) (R_lt (ShortB.rK HO483))) (R_lt (ShortB.rK HO491))) (aK (Short.hB HB)))
    have n11_ := mk_ (bB_ BK425 hb)
    have n12_ := mk_ (aN (cK_ HR495_0) hb)
    have n13_ := mk_ (aG (Short.hB HB) hb)
    clear HO423 HL424_0 HO428 HO432 HO476 HO480 HO483 HO487 HO491 HL495_0 BK425 HR495_0 HB
    revert n0_ n1_ n2_ n3_ n4_ n5_ n6_ n7_ n8_ n9_ n10_ n11_ n12_ n13_
    intro HO423 HL424_0 HO428 HO432 HO476 HO480 HO483 HO487 HO491 HL495_0 HO494 BK425 HR495_0 HB
    (try clear hb)
    (try clear hb2)
    (try clear hk)
    (try clear hi)
    (try clear ho0)
    refine hK.out _ _ ⟨kc_ BK425 0, kc_ BK425 1, kc_ BK425 2, HS3_, HS4_, HS5_⟩ (fun hHeld => ?_)
    clear hK K
    refine nrm 129 ?_
    refine last_ (i := 8) (N := some 134) (Steps.Bs 14 511) rfl rfl (dA HT_.out z1_) z10_ (fun K hK => ?_)
    refine cU (Kd.int .i64) (w0 := w) w.heap.size z12_ (.tmp 129) (.tmp 133) 32 3 (.int .i64 0) 8 rfl Try.underlying32 info3 rfl z10_ z5_ v493 t492 ((aQ t420 0).f0) _ _ _ (fun k_ => nb_ k_ (.slice Ao53 t429.length co53) ∧ nb_ k_ (.slice Ao169 t477.length co169) ∧ nb_ k_ (.slice Ao170 y481.length co170) ∧ nb_ k_ (v490)) (fun _ => False) rfl rfl ?aO ?aR (fun _ _ h => h) (fun _ h => h.elim) ?aF ?aB ?aS ?aL ?_
    (case aR => exact cX_ (cK_ HR495_0))
    (case aB => exact (Short.hB HB))
    (case aF => exact (fun k_ hk => ⟨Kd.fresh' (R_lt (ShortB.rK HO432)) k_ hk, Kd.fresh' (R_lt (ShortB.rK HO480)) k_ hk, Kd.fresh' (R_lt (ShortB.rK HO483)) k_ hk, Kd.fresh' (R_lt (ShortB.rK HO491)) k_ hk⟩))
    (case aO => exact (rM_ HO494 (fun _ hk => ⟨hk.1.1.1.2, ⟨hk.1.1.2, ⟨hk.1.2, hk.2⟩⟩⟩)))
    (case aS => exact (aK (Short.hB HB)))
    (case aL => have := LMc148.out; omega)
    intro v497 w176 ho hb hg hat
    have HC3_ := eV hg hHeld.2.2.2.1 ((HO423.out).1 _ rfl).2
    have HC4_ := eV hg hHeld.2.2.2.2.1 ((HO423.out).1 _ rfl).2
    have HC5_ := eV hg hHeld.2.2.2.2.2 ((HO423.out).1 _ rfl).2
    rw [← Ny496.out] at ho
    have n0_ := mk_ (dG (ok := (fun k_ => nb_ k_ (.slice Ao50 t426.length co50) ∧ nb_ k_ (.slice Ao53 t429.length co53) ∧ nb_ k_ (.slice Ao166 t474.length co166) ∧ nb_ k_ (.slice Ao169 t477.length co169) ∧ nb_ k_ (.slice Ao170 y481.length co170) ∧ nb_ k_ (.slice Ao172 t485.length co172) ∧ nb_ k_ (v490) ∧ k_ ≠ gb425)) (nM_ HO423 (fun _ hk => ⟨⟨hk.1.1.1.1.1, ⟨hk.1.1.1.1.2.1, ⟨hk.1.1.1.1.2.2.1, ⟨hk.1.1.1.1.2.2.2.1, ⟨hk.1.1.1.2, ⟨hk.1.1.2, ⟨hk.1.2, hk.1.1.1.1.2.2.2.2⟩⟩⟩⟩⟩⟩⟩, hk.2⟩)) hg hat)
    have n1_ := mk_ (dJ (ok := (fun k_ => nb_ k_ (.slice (some ad424) t420.length co45) ∧ nb_ k_ (.slice Ao50 t426.length co50) ∧ nb_ k_ (.slice Ao53 t429.length co53) ∧ nb_ k_ (.slice Ao166 t474.length co166) ∧ nb_ k_ (.slice Ao169 t477.length co169) ∧ nb_ k_ (.slice Ao170 y481.length co170) ∧ nb_ k_ (.slice Ao172 t485.length co172) ∧ nb_ k_ (v490) ∧ k_ ≠ gb425)) (vM_ HL424_0 (fun _ hk => ⟨⟨hk.1.1.1.1.1, ⟨hk.1.1.1.1.2.1, ⟨hk.1.1.1.1.2.2.1, ⟨hk.1.1.1.1.2.2.2.1, ⟨hk.1.1.1.1.2.2.2.2.1, ⟨hk.1.1.1.2, ⟨hk.1.1.2, ⟨hk.1.2, hk.1.1.1.1.2.2.2.2.2⟩⟩⟩⟩⟩⟩⟩⟩, hk.2⟩)) hg hat)
    have n2_ := mk_ (eH (g := gb425) (o := .cells #[.slice A424_0 ((aQ t420 (ji15)).f0).length c424_0, .int .i64 ((aQ t420 (ji15)).f1), .int .i64 ((aQ t420 (ji15)).f2)] 49 (0, 0)) (Short.bK BK425) hg (R_ne HO494.out BK425.out z10_))
    have n3_ := mk_ (dG (ok := (fun k_ => nb_ k_ (.slice (some ad424) t420.length co45) ∧ nb_ k_ (.slice Ao53 t429.length co53) ∧ nb_ k_ (.slice Ao166 t474.length co166) ∧ nb_ k_ (.slice Ao169 t477.length co169) ∧ nb_ k_ (.slice Ao170 y481.length co170) ∧ nb_ k_ (.slice Ao172 t485.length co172) ∧ nb_ k_ (v490) ∧ k_ ≠ gb425)) (nM_ HO428 (fun _ hk => ⟨⟨hk.1.1.1.1.1, ⟨hk.1.1.1.1.2.1, ⟨hk.1.1.1.1.2.2.1, ⟨hk.1.1.1.1.2.2.2.1, ⟨hk.1.1.1.2, ⟨hk.1.1.2, ⟨hk.1.2, hk.1.1.1.1.2.2.2.2⟩⟩⟩⟩⟩⟩⟩, hk.2⟩)) hg hat)
    have n4_ := mk_ (dW (ok := (fun k_ => nb_ k_ (.slice Ao169 t477.length co169) ∧ nb_ k_ (.slice Ao170 y481.length co170) ∧ nb_ k_ (v490))) (rM_ HO432 (fun _ hk => ⟨⟨hk.1.1.1, ⟨hk.1.1.2, hk.1.2⟩⟩, hk.2⟩)) hg hat)
    have n5_ := mk_ (dG (ok := (fun k_ => nb_ k_ (.slice (some ad424) t420.length co45) ∧ nb_ k_ (.slice Ao50 t426.length co50) ∧ nb_ k_ (.slice Ao53 t429.length co53) ∧ nb_ k_ (.slice Ao169 t477.length co169) ∧ nb_ k_ (.slice Ao170 y481.length co170) ∧ nb_ k_ (.slice Ao172 t485.length co172) ∧ nb_ k_ (v490) ∧ k_ ≠ gb425)) (nM_ HO476 (fun _ hk => ⟨⟨hk.1.1.1.1.1, ⟨hk.1.1.1.1.2.1, ⟨hk.1.1.1.1.2.2.1, ⟨hk.1.1.1.1.2.2.2.1, ⟨hk.1.1.1.2, ⟨hk.1.1.2, ⟨hk.1.2, hk.1.1.1.1.2.2.2.2⟩⟩⟩⟩⟩⟩⟩, hk.2⟩)) hg hat)
    have n6_ := mk_ (dW (ok := (fun k_ => nb_ k_ (.slice Ao53 t429.length co53) ∧ nb_ k_ (.slice Ao170 y481.length co170) ∧ nb_ k_ (v490))) (rM_ HO480 (fun _ hk => ⟨⟨hk.1.1.1, ⟨hk.1.1.2, hk.1.2⟩⟩, hk.2⟩)) hg hat)
    have n7_ := mk_ (dW (ok := (fun k_ => nb_ k_ (.slice Ao53 t429.length co53) ∧ nb_ k_ (.slice Ao169 t477.length co169) ∧ nb_ k_ (v490))) (rM_ HO483 (fun _ hk => ⟨⟨hk.1.1.1, ⟨hk.1.1.2, hk.1.2⟩⟩, hk.2⟩)) hg hat)
    have n8_ := mk_ (dG (ok := (fun k_ => nb_ k_ (.slice (some ad424) t420.length co45) ∧ nb_ k_ (.slice Ao50 t426.length co50) ∧ nb_ k_ (.slice Ao53 t429.length co53) ∧ nb_ k_ (.slice Ao166 t474.length co166) ∧ nb_ k_ (.slice Ao169 t477.length co169) ∧ nb_ k_ (.slice Ao170 y481.length co170) ∧ nb_ k_ (v490) ∧ k_ ≠ gb425)) (nM_ HO487 (fun _ hk => ⟨⟨hk.1.1.1, ⟨hk.1.1.2.1, ⟨hk.1.1.2.2.1, ⟨hk.1.1.2.2.2.1, ⟨hk.1.1.2.2.2.2.1, ⟨hk.1.1.2.2.2.2.2.1, ⟨hk.1.2, hk.1.1.2.2.2.2.2.2⟩⟩⟩⟩⟩⟩⟩, hk.2⟩)) hg hat)
    have n9_ := mk_ (dW (ok := (fun k_ => nb_ k_ (.slice Ao53 t429.length co53) ∧ nb_ k_ (.slice Ao169 t477.length co169) ∧ nb_ k_ (.slice Ao170 y481.length co170))) (rM_ HO491 (fun _ hk => ⟨⟨hk.1.1.1.2, ⟨hk.1.1.2, hk.1.2⟩⟩, hk.2⟩)) hg hat)
    have n10_ := mk_ (dJ (ok := (fun k_ => nb_ k_ (.slice (some ad424) t420.length co45) ∧ nb_ k_ (.slice Ao50 t426.length co50) ∧ nb_ k_ (.slice Ao53 t429.length co53) ∧ nb_ k_ (.slice Ao166 t474.length co166) ∧ nb_ k_ (.slice Ao169 t477.length co169) ∧ nb_ k_ (.slice Ao170 y481.length co170) ∧ nb_ k_ (.slice Ao172 t485.length co172) ∧ nb_ k_ (v490) ∧ k_ ≠ gb425)) (vM_ HL495_0 (fun _ hk => ⟨⟨hk.1.2, ⟨hk.1.1.1.1.1.1, ⟨hk.1.1.1.1.1.2.1, ⟨hk.1.1.1.1.1.2.2.1, ⟨hk.1.1.1.1.1.2.2.2.1, ⟨hk.1.1.1.1.2, ⟨hk.1.1.1.2, ⟨hk.1.1.2, hk.1.1.1.1.1.2.2.2.2⟩⟩⟩⟩⟩⟩⟩⟩, hk.2⟩)) hg hat)
    have n11_ := mk_ (hb)
    have n12_ := mk_ (ho)
    clear HO423 HL424_0 BK425 HO428 HO432 HO476 HO480 HO483 HO487 HO491 HL495_0 HB HO494
    revert n0_ n1_ n2_ n3_ n4_ n5_ n6_ n7_ n8_ n9_ n10_ n11_ n12_
    intro HO423 HL424_0 BK425 HO428 HO432 HO476 HO480 HO483 HO487 HO491 HL495_0 HB HO498
    clear ho hb hg hat
    obtain ⟨Ao177, co177, eo177⟩ := bE HO491.out
    (first | subst eo177 | (injection eo177 with f1_ f2_ f3_; have f4_ := f1_.symm; have f5_ := f3_.symm; clear f1_ f2_ f3_; subst f4_; subst f5_))
    obtain ⟨Ao178, co178, eo178⟩ := bE HO498.out
    (first | subst eo178 | (injection eo178 with f1_ f2_ f3_; have f4_ := f1_.symm; have f5_ := f3_.symm; clear f1_ f2_ f3_; subst f4_; subst f5_))
    refine hK.out _ _ ?_
    clear hK K
    refine nrm 134 ?_
    refine one_ (i := 9) (N := some 135) (Steps.Bs 14 1023) rfl rfl (dA HT_.out z1_) z10_ (fun K hK => ?_)
    refine goes_ Try.func18 z1_ rfl #[.slice Ao177 t488.length co177, .slice Ao178 y496.length co178] z12_ rfl rfl z6_ ?_
    with_reducible refine (raddlekeep_Ints.calls kj3 _ _ t488 _ _ y496 true _ ?side1 ?side2 ?side3 ?side4 A149.out).mono ?_
    (case side1 => exact cX_ (R_reads' HO491.out).2.2)
    (case side2 => exact (R_reads' HO491.out).2.1)
    (case side3 => exact cX_ (R_reads' HO498.out).2.2)
    (case side4 => exact (R_reads' HO498.out).2.1)
    rintro e w' ⟨rfl, ⟨nd, rfl⟩⟩
    refine ⟨_, rfl, ?_⟩
    refine hK.out _ _ ⟨kc_ BK425 0, kc_ BK425 1, kc_ BK425 2, HC3_, HC4_, HC5_⟩ (fun hHeld => ?_)
    clear hK K
    refine nrm 135 ?_
    refine tI HT_ 10 136 14 2047 ?_
    refine one_ (i := 11) (N := some 137) (Steps.Bs 14 4095) rfl rfl (dA HT_.out z1_) z10_ (fun K hK => ?_)
    refine goes_ Try.func14 z1_ rfl #[] z12_ rfl rfl z6_ ?_
    with_reducible refine (aH.calls kj3  t500 _ A151.out).mono ?_
    rintro e w179 ⟨rfl, hb⟩
    have HS3_ := (hb.cell (World.block_lt_of_cell? _ _ (hHeld.2.2.2.1))).trans (hHeld.2.2.2.1)
    have HS4_ := (hb.cell (World.block_lt_of_cell? _ _ (hHeld.2.2.2.2.1))).trans (hHeld.2.2.2.2.1)
    have HS5_ := (hb.cell (World.block_lt_of_cell? _ _ (hHeld.2.2.2.2.2))).trans (hHeld.2.2.2.2.2)
    refine ⟨_, rfl, ?_⟩
    have n0_ := mk_ (cR (nK_ HO423) hb)
    have n1_ := mk_ (eL (vK_ HL424_0) hb)
    have n2_ := mk_ (cR (nK_ HO428) hb)
    have n3_ := mk_ (bG (ShortB.rK HO432) hb)
    have n4_ := mk_ (cR (nK_ HO476) hb)
    have n5_ := mk_ (bG (ShortB.rK HO480) hb)
    have n6_ := mk_ (bG (ShortB.rK HO483) hb)
    have n7_ := mk_ (cR (nK_ HO487) hb)
    have n8_ := mk_ (bG (ShortB.rK HO491) hb)
    have n9_ := mk_ (eL (vK_ HL495_0) hb)
    have n10_ := mk_ (bG (ShortB.rK HO498) hb)
    have n11_ := mk_ (bB_ BK425 hb)
    have n12_ := mk_ (aG (Short.hB HB) hb)
    clear HO423 HL424_0 HO428 HO432 HO476 HO480 HO483 HO487 HO491 HL495_0 HO498 BK425 HB
    revert n0_ n1_ n2_ n3_ n4_ n5_ n6_ n7_ n8_ n9_ n10_ n11_ n12_
    intro HO423 HL424_0 HO428 HO432 HO476 HO480 HO483 HO487 HO491 HL495_0 HO498 BK425 HB
    (try clear hb)
    (try clear hb2)
    (try clear hk)
    (try clear hi)
    refine hK.out _ _ ⟨kc_ BK425 0, kc_ BK425 1, kc_ BK425 2, HS3_, HS4_, HS5_⟩ (fun hHeld => ?_)
    clear hK K
    refine nrm 137 ?_
    refine tI HT_ 12 138 14 8191 ?_
    refine tI HT_ 13 6 14 16383 ?_
    refine done_ (dT HT_.out z1_) ?_
    try go_wp2
    go_ret
    exact ⟨by first | rfl | (rw [hrt]; rfl) | (simp [bY, bZ] <;> rfl) | (simp only [← hji15]; first | rfl | (simp [bY, bZ] <;> rfl)) | (simp [*, bY, bZ] <;> rfl), Short.hB HB⟩
   rw [if_pos c23] at H
   have c23b0 : decide (0 < (((aQ t420 (ji15)).f0).length : Int)) = true := decide_eq_true c23
   have c23b1 : decide (0 < ((aQ t420 (ji15)).f0).length) = true := decide_eq_true z5_
   clear c23
   by_cases c24 : (IntKind.u64.wrap ((((aQ t420 (ji15)).f0).length : Int))) = 0
   ·
    rw [if_pos c24] at H
    exact absurd H (by simp)
   rw [if_neg c24] at H
   have c24b0 : ((IntKind.u64.wrap ((((aQ t420 (ji15)).f0).length : Int))) == 0) = false := beq_eq_false_iff_ne.mpr c24
   have c24b1 : ((IntKind.u64.wrap ((((aQ t420 (ji15)).f0).length : Int))) != 0) = true := bne_iff_ne.mpr c24
   obtain ⟨y437, hy437⟩ : ∃ y_ : List Int, y_ = (([wrap64 (Int.tmod (IntKind.u64.wrap (a2)) (IntKind.u64.wrap ((((aQ t420 (ji15)).f0).length : Int))))] : List Int)) := ⟨_, rfl⟩
   replace H : (if 0 < (y437.length : Int) then (if 0 ≤ (rd y437 0) then (if (rd y437 0) < (((aQ t420 (ji15)).f0).length : Int) then (if y434.length < 17592186044416 then ((some (y434 ++ [rd ((aQ t420 (ji15)).f0) (rd y437 0)] : List Int)).bind fun y442 => ((aW.f l0 8 (wrap64 ((l0.length : Int) - 1)) 0 0 0 0 0 0 0 (⟨#[]⟩ : ByteArray) y437 ([] : List Int) 1 0).bind fun t445 => ((bA.f t445 l1).bind fun bt448 => (if bt448.2 = 0 then (if y442.length < 17592186044416 then ((raddlekeep_Ints.f kj3 bt448.1 (y442 ++ [3])).bind fun t455 => (if t455 = true then ((aW.f l0 4 (wrap64 ((l0.length : Int) - 1)) 0 0 0 0 0 0 0 (⟨#[]⟩ : ByteArray) ([] : List Int) ([] : List Int) 0 0).bind fun t456 => ((bA.f t456 l1).bind fun bt459 => (if bt459.2 = 0 then ((raddlekeep_TwinInts.f ((aQ t420 (ji15)).f0)).bind fun t463 => (if 0 < (t420.length : Int) then (if t463.length + ((aQ t420 0).f0).length < 17592186044416 then ((raddlekeep_Ints.f kj3 bt459.1 (t463 ++ ((aQ t420 0).f0))).bind fun t470 => (if t470 = true then ((aH.f kj3).bind fun t471 => (some t471)) else (some false))) else (none)) else (none))) else (if bt459.2 = 2 then ((aH.f kj3).bind fun t472 => (some t472)) else (if bt459.2 = 11 then ((aH.f kj3).bind fun t473 => (some t473)) else (some false)))))) else (some false))) else (none)) else (some false))))) else (none)) else (none)) else (none)) else (none)) = some r := by first | (rw [hy437]; with_reducible exact H) | (have H2_ := (Option.bind_some _ _).symm.trans H; rw [hy437]; with_reducible exact H2_) | (have H2_ := (Option.bind_some _ _).symm.trans H; with_reducible exact H2_) | with_reducible exact H | (rw [hy437]; exact H) | exact H
   have Ny437 := mk_ hy437
   clear hy437
   by_cases c25 : 0 < (y437.length : Int)
   rotate_left
   ·
    rw [if_neg c25] at H
    exact absurd H (by simp)
   rw [if_pos c25] at H
   have c25b0 : decide (0 < (y437.length : Int)) = true := decide_eq_true c25
   have c25b1 : decide (0 < y437.length) = true := decide_eq_true z5_
   clear c25
   by_cases c26 : 0 ≤ (rd y437 0)
   rotate_left
   ·
    rw [if_neg c26] at H
    exact absurd H (by simp)
   rw [if_pos c26] at H
   have c26b0 : decide (0 ≤ (rd y437 0)) = true := decide_eq_true c26
   clear c26
   by_cases c27 : (rd y437 0) < (((aQ t420 (ji15)).f0).length : Int)
   rotate_left
   ·
    rw [if_neg c27] at H
    exact absurd H (by simp)
   rw [if_pos c27] at H
   have c27b0 : decide ((rd y437 0) < (((aQ t420 (ji15)).f0).length : Int)) = true := decide_eq_true c27
   clear c27
   by_cases c28 : y434.length < 17592186044416
   rotate_left
   ·
    rw [if_neg c28] at H
    exact absurd H (by simp)
   rw [if_pos c28] at H
   have LMc28 := mk_ c28
   clear c28
   obtain ⟨y442, hy442⟩ : ∃ y_ : List Int, y_ = (y434 ++ [rd ((aQ t420 (ji15)).f0) (rd y437 0)]) := ⟨_, rfl⟩
   replace H : ((aW.f l0 8 (wrap64 ((l0.length : Int) - 1)) 0 0 0 0 0 0 0 (⟨#[]⟩ : ByteArray) y437 ([] : List Int) 1 0).bind fun t445 => ((bA.f t445 l1).bind fun bt448 => (if bt448.2 = 0 then (if y442.length < 17592186044416 then ((raddlekeep_Ints.f kj3 bt448.1 (y442 ++ [3])).bind fun t455 => (if t455 = true then ((aW.f l0 4 (wrap64 ((l0.length : Int) - 1)) 0 0 0 0 0 0 0 (⟨#[]⟩ : ByteArray) ([] : List Int) ([] : List Int) 0 0).bind fun t456 => ((bA.f t456 l1).bind fun bt459 => (if bt459.2 = 0 then ((raddlekeep_TwinInts.f ((aQ t420 (ji15)).f0)).bind fun t463 => (if 0 < (t420.length : Int) then (if t463.length + ((aQ t420 0).f0).length < 17592186044416 then ((raddlekeep_Ints.f kj3 bt459.1 (t463 ++ ((aQ t420 0).f0))).bind fun t470 => (if t470 = true then ((aH.f kj3).bind fun t471 => (some t471)) else (some false))) else (none)) else (none))) else (if bt459.2 = 2 then ((aH.f kj3).bind fun t472 => (some t472)) else (if bt459.2 = 11 then ((aH.f kj3).bind fun t473 => (some t473)) else (some false)))))) else (some false))) else (none)) else (some false)))) = some r := by first | (rw [hy442]; with_reducible exact H) | (have H2_ := (Option.bind_some _ _).symm.trans H; rw [hy442]; with_reducible exact H2_) | (have H2_ := (Option.bind_some _ _).symm.trans H; with_reducible exact H2_) | with_reducible exact H | (rw [hy442]; exact H) | exact H
   have Ny442 := mk_ hy442
   clear hy442
   replace H := Option.bind_eq_some_iff.mp H
   obtain ⟨t445, A290, H⟩ := H
   replace H : ((bA.f t445 l1).bind fun bt448 => (if bt448.2 = 0 then (if y442.length < 17592186044416 then ((raddlekeep_Ints.f kj3 bt448.1 (y442 ++ [3])).bind fun t455 => (if t455 = true then ((aW.f l0 4 (wrap64 ((l0.length : Int) - 1)) 0 0 0 0 0 0 0 (⟨#[]⟩ : ByteArray) ([] : List Int) ([] : List Int) 0 0).bind fun t456 => ((bA.f t456 l1).bind fun bt459 => (if bt459.2 = 0 then ((raddlekeep_TwinInts.f ((aQ t420 (ji15)).f0)).bind fun t463 => (if 0 < (t420.length : Int) then (if t463.length + ((aQ t420 0).f0).length < 17592186044416 then ((raddlekeep_Ints.f kj3 bt459.1 (t463 ++ ((aQ t420 0).f0))).bind fun t470 => (if t470 = true then ((aH.f kj3).bind fun t471 => (some t471)) else (some false))) else (none)) else (none))) else (if bt459.2 = 2 then ((aH.f kj3).bind fun t472 => (some t472)) else (if bt459.2 = 11 then ((aH.f kj3).bind fun t473 => (some t473)) else (some false)))))) else (some false))) else (none)) else (some false))) = some r := H
   have A29 := mk_ A290
   clear A290
   replace H := Option.bind_eq_some_iff.mp H
   obtain ⟨⟨t448, t449⟩, A300, H⟩ := H
   replace H : (if t449 = 0 then (if y442.length < 17592186044416 then ((raddlekeep_Ints.f kj3 t448 (y442 ++ [3])).bind fun t455 => (if t455 = true then ((aW.f l0 4 (wrap64 ((l0.length : Int) - 1)) 0 0 0 0 0 0 0 (⟨#[]⟩ : ByteArray) ([] : List Int) ([] : List Int) 0 0).bind fun t456 => ((bA.f t456 l1).bind fun bt459 => (if bt459.2 = 0 then ((raddlekeep_TwinInts.f ((aQ t420 (ji15)).f0)).bind fun t463 => (if 0 < (t420.length : Int) then (if t463.length + ((aQ t420 0).f0).length < 17592186044416 then ((raddlekeep_Ints.f kj3 bt459.1 (t463 ++ ((aQ t420 0).f0))).bind fun t470 => (if t470 = true then ((aH.f kj3).bind fun t471 => (some t471)) else (some false))) else (none)) else (none))) else (if bt459.2 = 2 then ((aH.f kj3).bind fun t472 => (some t472)) else (if bt459.2 = 11 then ((aH.f kj3).bind fun t473 => (some t473)) else (some false)))))) else (some false))) else (none)) else (some false)) = some r := H
   have A30 := mk_ A300
   clear A300
   by_cases c31 : t449 = 0
   rotate_left
   ·
    rw [if_neg c31] at H
    have c31b0 : (t449 == 0) = false := beq_eq_false_iff_ne.mpr c31
    have c31b1 : (t449 != 0) = true := bne_iff_ne.mpr c31
    exact absurd H (by rw [hrt]; simp)
   rw [if_pos c31] at H
   have c31b0 : (t449 == 0) = true := beq_iff_eq.mpr c31
   have c31b1 : (t449 != 0) = false := bne_eq_false_iff_eq.mpr c31
   clear c31
   by_cases c32 : y442.length < 17592186044416
   rotate_left
   ·
    rw [if_neg c32] at H
    exact absurd H (by simp)
   rw [if_pos c32] at H
   have LMc32 := mk_ c32
   clear c32
   obtain ⟨y452, hy452⟩ : ∃ y_ : List Int, y_ = (y442 ++ [3]) := ⟨_, rfl⟩
   replace H : ((raddlekeep_Ints.f kj3 t448 y452).bind fun t455 => (if t455 = true then ((aW.f l0 4 (wrap64 ((l0.length : Int) - 1)) 0 0 0 0 0 0 0 (⟨#[]⟩ : ByteArray) ([] : List Int) ([] : List Int) 0 0).bind fun t456 => ((bA.f t456 l1).bind fun bt459 => (if bt459.2 = 0 then ((raddlekeep_TwinInts.f ((aQ t420 (ji15)).f0)).bind fun t463 => (if 0 < (t420.length : Int) then (if t463.length + ((aQ t420 0).f0).length < 17592186044416 then ((raddlekeep_Ints.f kj3 bt459.1 (t463 ++ ((aQ t420 0).f0))).bind fun t470 => (if t470 = true then ((aH.f kj3).bind fun t471 => (some t471)) else (some false))) else (none)) else (none))) else (if bt459.2 = 2 then ((aH.f kj3).bind fun t472 => (some t472)) else (if bt459.2 = 11 then ((aH.f kj3).bind fun t473 => (some t473)) else (some false)))))) else (some false))) = some r := by first | (rw [hy452]; with_reducible exact H) | (have H2_ := (Option.bind_some _ _).symm.trans H; rw [hy452]; with_reducible exact H2_) | (have H2_ := (Option.bind_some _ _).symm.trans H; with_reducible exact H2_) | with_reducible exact H | (rw [hy452]; exact H) | exact H
   have Ny452 := mk_ hy452
   clear hy452
   replace H := Option.bind_eq_some_iff.mp H
   obtain ⟨t455, A330, H⟩ := H
   replace H : (if t455 = true then ((aW.f l0 4 (wrap64 ((l0.length : Int) - 1)) 0 0 0 0 0 0 0 (⟨#[]⟩ : ByteArray) ([] : List Int) ([] : List Int) 0 0).bind fun t456 => ((bA.f t456 l1).bind fun bt459 => (if bt459.2 = 0 then ((raddlekeep_TwinInts.f ((aQ t420 (ji15)).f0)).bind fun t463 => (if 0 < (t420.length : Int) then (if t463.length + ((aQ t420 0).f0).length < 17592186044416 then ((raddlekeep_Ints.f kj3 bt459.1 (t463 ++ ((aQ t420 0).f0))).bind fun t470 => (if t470 = true then ((aH.f kj3).bind fun t471 => (some t471)) else (some false))) else (none)) else (none))) else (if bt459.2 = 2 then ((aH.f kj3).bind fun t472 => (some t472)) else (if bt459.2 = 11 then ((aH.f kj3).bind fun t473 => (some t473)) else (some false)))))) else (some false)) = some r := H
   have A33 := mk_ A330
   clear A330
   by_cases c34 : t455 = true
   rotate_left
   ·
    replace c34 := Bool.eq_false_iff.mpr c34
    subst c34
    rw [if_neg (show ¬ (false = true) by decide)] at H
    exact absurd H (by rw [hrt]; simp)
   subst c34
   rw [if_pos rfl] at H
   replace H := Option.bind_eq_some_iff.mp H
   obtain ⟨t456, A350, H⟩ := H
   replace H : ((bA.f t456 l1).bind fun bt459 => (if bt459.2 = 0 then ((raddlekeep_TwinInts.f ((aQ t420 (ji15)).f0)).bind fun t463 => (if 0 < (t420.length : Int) then (if t463.length + ((aQ t420 0).f0).length < 17592186044416 then ((raddlekeep_Ints.f kj3 bt459.1 (t463 ++ ((aQ t420 0).f0))).bind fun t470 => (if t470 = true then ((aH.f kj3).bind fun t471 => (some t471)) else (some false))) else (none)) else (none))) else (if bt459.2 = 2 then ((aH.f kj3).bind fun t472 => (some t472)) else (if bt459.2 = 11 then ((aH.f kj3).bind fun t473 => (some t473)) else (some false))))) = some r := H
   have A35 := mk_ A350
   clear A350
   replace H := Option.bind_eq_some_iff.mp H
   obtain ⟨⟨t459, t460⟩, A360, H⟩ := H
   replace H : (if t460 = 0 then ((raddlekeep_TwinInts.f ((aQ t420 (ji15)).f0)).bind fun t463 => (if 0 < (t420.length : Int) then (if t463.length + ((aQ t420 0).f0).length < 17592186044416 then ((raddlekeep_Ints.f kj3 t459 (t463 ++ ((aQ t420 0).f0))).bind fun t470 => (if t470 = true then ((aH.f kj3).bind fun t471 => (some t471)) else (some false))) else (none)) else (none))) else (if t460 = 2 then ((aH.f kj3).bind fun t472 => (some t472)) else (if t460 = 11 then ((aH.f kj3).bind fun t473 => (some t473)) else (some false)))) = some r := H
   have A36 := mk_ A360
   clear A360
   refine R_lit (Kd.int .i64) _ 3 ?hg (N := 62) ?hd (xs := ([] : List Int)) (inner := []) (ok := fun _ => True) (okp := fun _ => True) ?hr ?hp (fun _ hk => hk) trivial (Below.refl _ _) (Nat.le_refl _) (by simp) ?_
   (case hd => rfl)
   (case hg => rfl)
   (case hr => first | (go_simp; done) | (go_simp; rfl))
   (case hp => exact (Reps.none _ _))
   intro v435 w54 ho55 hb hg_ hnew_
   clear hg_ hnew_
   (first | rw [← Ny434.out] at ho55 | (simp only [Int.reduceToNat] at ho55; rw [← Ny434.out] at ho55))
   have n0_ := mk_ (N_elder' (nK_ HO423) (R_base ho55) hb)
   have n1_ := mk_ (V_elder' (vK_ HL424_0) (R_base ho55) hb)
   have n2_ := mk_ (N_elder' (nK_ HO428) (R_base ho55) hb)
   have n3_ := mk_ (R_elder' (ShortB.rK HO432) (R_base ho55) hb)
   have n4_ := mk_ (bT (R_new' ho55 (R_lt (ShortB.rK HO432))) (aK (Short.hB HB)))
   have n5_ := mk_ (aN (cK_ HR424_0) hb)
   have n6_ := mk_ (bB_ BK425 hb)
   have n7_ := mk_ (aG (Short.hB HB) hb)
   clear HO423 HL424_0 HO428 HO432 HR424_0 BK425 HB
   revert n0_ n1_ n2_ n3_ n4_ n5_ n6_ n7_
   intro HO423 HL424_0 HO428 HO432 HO436 HR424_0 BK425 HB
   clear hb ho55
   obtain ⟨hcz56_0, hcz56_1, hcz56_2, hfz56_0, hfz56_1, hfz56_2⟩ := Short.c3 BK425.out
   go_wp2_with (first | ((with_reducible refine bI (N := 75) rfl ?_); refine R_lit (Kd.int .i64) _ 3 ?hg (N := 75) ?hd (xs := ([wrap64 (Int.tmod (IntKind.u64.wrap (a2)) (IntKind.u64.wrap ((((aQ t420 (ji15)).f0).length : Int))))] : List Int)) (inner := [.int .i64 (wrap64 (Int.tmod (IntKind.u64.wrap (a2)) (IntKind.u64.wrap ((((aQ t420 (ji15)).f0).length : Int)))))]) (ok := fun _ => True) (okp := fun _ => True) ?hr ?hp (fun _ hk => hk) trivial (Below.refl _ _) (Nat.le_refl _) (by simp) ?_; (case hd => rfl); (case hg => rfl); (case hr => first | (go_simp; done) | (go_simp; rfl)); (case hp => exact (Reps.one (show Kd.M (Kd.int .i64) _ _ _ (wrap64 (Int.tmod (IntKind.u64.wrap (a2)) (IntKind.u64.wrap ((((aQ t420 (ji15)).f0).length : Int))))) [.int .i64 (wrap64 (Int.tmod (IntKind.u64.wrap (a2)) (IntKind.u64.wrap ((((aQ t420 (ji15)).f0).length : Int)))))] from rfl) (Reps.none _ _))); intro v438 w57 ho58 hb hg_ hnew_; clear hg_ hnew_; (first | rw [← Ny437.out] at ho58 | (simp only [Int.reduceToNat] at ho58; rw [← Ny437.out] at ho58)); have n0_ := mk_ (N_elder' (nK_ HO423) (R_base ho58) hb); have n1_ := mk_ (V_elder' (vK_ HL424_0) (R_base ho58) hb); have n2_ := mk_ (N_elder' (nK_ HO428) (R_base ho58) hb); have n3_ := mk_ (R_elder' (ShortB.rK HO432) (R_base ho58) hb); have n4_ := mk_ (R_elder' (ShortB.rK HO436) (R_base ho58) hb); have n5_ := mk_ (bT (R_new' (R_new' ho58 (R_lt (ShortB.rK HO432))) (R_lt (ShortB.rK HO436))) (aK (Short.hB HB))); have n6_ := mk_ (aN (cK_ HR424_0) hb); have n7_ := mk_ (bB_ BK425 hb); have n8_ := mk_ (aG (Short.hB HB) hb); clear HO423 HL424_0 HO428 HO432 HO436 HR424_0 BK425 HB; revert n0_ n1_ n2_ n3_ n4_ n5_ n6_ n7_ n8_; intro HO423 HL424_0 HO428 HO432 HO436 HO439 HR424_0 BK425 HB; clear hb ho58))
   have n0_ := mk_ (N_drew HO423.out)
   have n1_ := mk_ (V_drew HL424_0.out)
   have n2_ := mk_ (N_drew HO428.out)
   have n3_ := mk_ (R_drew HO432.out)
   have n4_ := mk_ (R_drew HO436.out)
   have n5_ := mk_ (R_drew HO439.out)
   have n6_ := mk_ (aU BK425.out)
   have n7_ := mk_ (C_drew HR424_0.out)
   have n8_ := mk_ (cQ HB.out)
   clear HO423 HL424_0 HO428 HO432 HO436 HO439 BK425 HR424_0 HB
   revert n0_ n1_ n2_ n3_ n4_ n5_ n6_ n7_ n8_
   intro HO423 HL424_0 HO428 HO432 HO436 HO439 BK425 HR424_0 HB
   obtain ⟨Ao60, co60, eo60⟩ := bE HO439.out
   (first | subst eo60 | (injection eo60 with f1_ f2_ f3_; have f4_ := f1_.symm; have f5_ := f3_.symm; clear f1_ f2_ f3_; subst f4_; subst f5_))
   have p440 : 0 ≤ (0 : Int) := z5_
   have q440 : 0 < (y437.length : Int) := of_decide_eq_true z4_
   obtain ⟨ad440, e440, hx440_0⟩ := Kd.at_int (R_reads' HO439.out).2.2 0 p440 q440
   cases e440
   have qi440 : (0 < y437.length) = True := eq_true z5_
   (try rw [show ((0 : Int)).toNat = 0 from rfl] at hx440_0)
   (try rw [Addr.add_zero'] at hx440_0)
   replace p440 := eq_true p440
   replace q440 := eq_true q440
   have p441 : 0 ≤ ((rd y437 0) : Int) := of_decide_eq_true z4_
   have q441 : (rd y437 0) < (((aQ t420 (ji15)).f0).length : Int) := of_decide_eq_true z4_
   obtain ⟨ad441, e441, hx441_0⟩ := Kd.at_int (cK_ HR424_0) (rd y437 0) p441 q441
   cases e441
   replace p441 := eq_true p441
   replace q441 := eq_true q441
   refine dX (n := 11) (S := fun w' => w'.cell? ⟨gb425, 0, none⟩ = some (.slice (some ad441) ((aQ t420 (ji15)).f0).length c424_0) ∧ w'.cell? ⟨gb425, 1, none⟩ = some (.int .i64 ((aQ t420 (ji15)).f1)) ∧ w'.cell? ⟨gb425, 2, none⟩ = some (.int .i64 ((aQ t420 (ji15)).f2)) ∧ w'.cell? ad440 = some (.int .i64 (rd y437 0)) ∧ w'.cell? (ad441.add ((rd y437 0)).toNat) = some (.int .i64 (rd ((aQ t420 (ji15)).f0) (rd y437 0)))) (ds := [8, 9]) (Steps.Bs 11 0) z1_ rfl rfl ⟨kc_ BK425 0, kc_ BK425 1, kc_ BK425 2, hx440_0, hx441_0⟩ (fun hHeld => ?_); refine dB aJ.tab16 aJ.bits16 (fun HT_ HW_ => ?_)
   generalize w57.drew = w59 at HO423 HL424_0 HO428 HO432 HO436 HO439 BK425 HR424_0 HB hx440_0 hx441_0 hHeld ⊢
   refine tI HT_ 0 76 11 1 ?_
   refine tI HT_ 1 77 11 3 ?_
   refine tI HT_ 3 79 11 11 ?_
   refine tI HT_ 4 80 11 27 ?_
   refine tT HT_ HW_ hHeld 2 78 11 31 ?_
   refine tT HT_ HW_ hHeld 5 81 11 63 ?_
   refine tI HT_ 6 82 11 127 ?_
   refine tT HT_ HW_ hHeld 7 83 11 255 ?_
   refine last_ (i := 8) (N := some 84) (Steps.Bs 11 511) rfl rfl (dA HT_.out z1_) z10_ (fun K hK => ?_)
   refine fC (w1 := ?_) (v := ?_) z12_ rfl ?_ ?_
   rotate_left 2
   ·
    go_simp
    constructor
    ·
     rfl
    ·
     rfl
   refine hK.out _ _ ?_
   clear hK K
   refine nrm 84 ?_
   refine last_ (i := 9) (N := some 85) (Steps.Bs 11 1023) rfl rfl (dA HT_.out z1_) z10_ (fun K hK => ?_)
   refine fW (Kd.int .i64) (w0 := w) w.heap.size z12_ (.tmp 76) (.tmp 84) 32 3 (.int .i64 0) 8 rfl Try.underlying32 info3 rfl z10_ z5_ v435 y434 (rd ((aQ t420 (ji15)).f0) (rd y437 0)) [.int .i64 (rd ((aQ t420 (ji15)).f0) (rd y437 0))] (fun k_ => nb_ k_ (.slice Ao53 t429.length co53) ∧ nb_ k_ (.slice (some ad440) y437.length co60)) (fun _ => False) rfl rfl ?aP (fun _ hk => hk.elim) ?aF ?aO ?aB ?aS ?aL ?_
   (case aP => exact rfl)
   (case aB => exact (Short.hB HB))
   (case aF => exact (fun k_ hk => ⟨Kd.fresh' (R_lt (ShortB.rK HO432)) k_ hk, Kd.fresh' (R_lt (ShortB.rK HO439)) k_ hk⟩))
   (case aO => exact (rM_ HO436 (fun _ hk => ⟨hk.1.2, hk.2⟩)))
   (case aS => exact (aK (Short.hB HB)))
   (case aL => have := LMc28.out; omega)
   intro v443 w61 ho hb hg hat
   rw [← Ny442.out] at ho
   have n0_ := mk_ (dG (ok := (fun k_ => nb_ k_ (.slice Ao50 t426.length co50) ∧ nb_ k_ (.slice Ao53 t429.length co53) ∧ nb_ k_ (.slice (some ad440) y437.length co60) ∧ k_ ≠ gb425)) (nM_ HO423 (fun _ hk => ⟨⟨hk.1.1.1.2, ⟨hk.1.1.2, ⟨hk.2, hk.1.1.1.1⟩⟩⟩, hk.1.2⟩)) hg hat)
   have n1_ := mk_ (dJ (ok := (fun k_ => nb_ k_ (.slice (some ad424) t420.length co45) ∧ nb_ k_ (.slice Ao50 t426.length co50) ∧ nb_ k_ (.slice Ao53 t429.length co53) ∧ nb_ k_ (.slice (some ad440) y437.length co60) ∧ k_ ≠ gb425)) (vM_ HL424_0 (fun _ hk => ⟨⟨hk.1.1.1.1.1, ⟨hk.1.1.1.2, ⟨hk.1.1.2, ⟨hk.2, hk.1.1.1.1.2⟩⟩⟩⟩, hk.1.2⟩)) hg hat)
   have n2_ := mk_ (eH (g := gb425) (o := .cells #[.slice (some ad441) ((aQ t420 (ji15)).f0).length c424_0, .int .i64 ((aQ t420 (ji15)).f1), .int .i64 ((aQ t420 (ji15)).f2)] 49 (0, 0)) (Short.bK BK425) hg (R_ne HO436.out BK425.out z10_))
   have n3_ := mk_ (dG (ok := (fun k_ => nb_ k_ (.slice (some ad424) t420.length co45) ∧ nb_ k_ (.slice Ao53 t429.length co53) ∧ nb_ k_ (.slice (some ad440) y437.length co60) ∧ k_ ≠ gb425)) (nM_ HO428 (fun _ hk => ⟨⟨hk.1.1.1.1, ⟨hk.1.1.2, ⟨hk.2, hk.1.1.1.2⟩⟩⟩, hk.1.2⟩)) hg hat)
   have n4_ := mk_ (dW (ok := (fun k_ => nb_ k_ (.slice (some ad440) y437.length co60))) (rM_ HO432 (fun _ hk => ⟨hk.2, hk.1.2⟩)) hg hat)
   have n5_ := mk_ (dW (ok := (fun k_ => nb_ k_ (.slice Ao53 t429.length co53))) (rM_ HO439 (fun _ hk => ⟨hk.1.2, hk.2⟩)) hg hat)
   have n6_ := mk_ (hb)
   have n7_ := mk_ (ho)
   clear HO423 HL424_0 BK425 HO428 HO432 HO439 HB HO436
   revert n0_ n1_ n2_ n3_ n4_ n5_ n6_ n7_
   intro HO423 HL424_0 BK425 HO428 HO432 HO439 HB HO444
   clear ho hb hg hat
   refine hK.out _ _ ?_
   clear hK K
   refine nrm 85 ?_
   refine tI HT_ 10 14 11 2047 ?_
   refine done_ (dT HT_.out z1_) ?_
   go_wp2_with (first | ((with_reducible refine bB (f := 16) rfl ?_); refine Short.gL (some 91) Try.func16 #[.slice A0 l0.length c0, .agg #[.int .i64 8, .int .i64 (wrap64 ((l0.length : Int) - 1)), .int .i64 0, .int .i64 0, .int .i64 0, .int .i64 0, .int .i64 0, .int .i64 0, .int .i64 0, .string (⟨#[]⟩ : ByteArray), .slice (some ad440) y437.length co60, .slice none 0 0, .int .i64 1, .int .i64 0]] (h := ?_); (refine (aW.calls (fun k_ => k_ < w.heap.size) _ _ l0 8 (wrap64 ((l0.length : Int) - 1)) 0 0 0 0 0 0 0 (⟨#[]⟩ : ByteArray) (fun k_ => some k_ = (.slice (some ad440) y437.length co60 : Value).ownBlock) _ _ y437 (fun k_ => False) _ _ ([] : List Int) 1 0 t445 _ ?side1 ?side2 ?side3 A29.out).mono ?_); (case side1 => exact V_mk HC0.out (eZ (C_F fO HR0.out) (Short.hB HB))); (case side2 => exact R_V (R_tight rfl (fK (R_apart' (R_apart' (HO439.out) (dI HO423.out) z10_) (dI HO428.out) z10_) BK425.out z10_))); (case side3 => exact V_nil _ _ _ _ _); rintro e w62 ⟨v446, rfl, ho0, hb⟩; refine ⟨_, rfl, ?_⟩; have n0_ := mk_ (N_elder' (nK_ HO423) (N_base ho0) hb); have n1_ := mk_ (V_elder' (vK_ HL424_0) (N_base ho0) hb); have n2_ := mk_ (N_elder' (nK_ HO428) (N_base ho0) hb); have n3_ := mk_ (bG (ShortB.rK HO432) hb); have n4_ := mk_ (bG (ShortB.rK HO439) hb); have n5_ := mk_ (bG (ShortB.rK HO444) hb); have n6_ := mk_ (eF (N_mono (ok' := fun k_ => nb_ k_ (.slice (some ad424) t420.length co45) ∧ nb_ k_ (.slice Ao50 t426.length co50) ∧ nb_ k_ (.slice Ao53 t429.length co53) ∧ nb_ k_ (v443) ∧ k_ ≠ gb425) ho0 (fun k_ hk_ => ⟨Or.elim hk_ (fun hs_ => Or.elim hs_ (fun hs_ => fun e_ => Nat.not_le.2 hs_ (N_base HO423.out k_ e_.symm)) (fun hs_ => Or.elim hs_ (fun hs_ => ((fK (R_apart' (R_apart' (HO439.out) (dI HO423.out) z10_) (dI HO428.out) z10_) BK425.out z10_).1 k_ hs_.symm).1.1.2) (fun hs_ => (hs_).elim))) (fun hn_ => (Kd.fresh' (N_lt (nK_ HO423)) k_ hn_)), Or.elim hk_ (fun hs_ => Or.elim hs_ (fun hs_ => fun e_ => Nat.not_le.2 hs_ (N_base HO428.out k_ e_.symm)) (fun hs_ => Or.elim hs_ (fun hs_ => ((fK (R_apart' (R_apart' (HO439.out) (dI HO423.out) z10_) (dI HO428.out) z10_) BK425.out z10_).1 k_ hs_.symm).1.2) (fun hs_ => (hs_).elim))) (fun hn_ => (Kd.fresh' (N_lt (nK_ HO428)) k_ hn_)), Or.elim hk_ (fun hs_ => Or.elim hs_ (fun hs_ => fun e_ => Nat.not_le.2 hs_ (R_base HO432.out k_ e_.symm)) (fun hs_ => Or.elim hs_ (fun hs_ => ((fK (R_apart' (R_apart' (HO439.out) (dI HO423.out) z10_) (dI HO428.out) z10_) BK425.out z10_).1 k_ hs_.symm).1.1.1.1) (fun hs_ => (hs_).elim))) (fun hn_ => (Kd.fresh' (R_lt (ShortB.rK HO432)) k_ hn_)), Or.elim hk_ (fun hs_ => Or.elim hs_ (fun hs_ => fun e_ => Nat.not_le.2 hs_ (R_base HO444.out k_ e_.symm)) (fun hs_ => Or.elim hs_ (fun hs_ => ((fK (R_apart' (R_apart' (HO439.out) (dI HO423.out) z10_) (dI HO428.out) z10_) BK425.out z10_).1 k_ hs_.symm).1.1.1.2) (fun hs_ => (hs_).elim))) (fun hn_ => (Kd.fresh' (R_lt (ShortB.rK HO444)) k_ hn_)), Or.elim hk_ (fun hs_ => Or.elim hs_ (fun hs_ => fun e_ => Nat.not_le.2 hs_ (by rw [e_]; exact GW425.out)) (fun hs_ => Or.elim hs_ (fun hs_ => ((fK (R_apart' (R_apart' (HO439.out) (dI HO423.out) z10_) (dI HO428.out) z10_) BK425.out z10_).1 k_ hs_.symm).2) (fun hs_ => (hs_).elim))) (fun hn_ => (Kd.freshB (g := gb425) (o := .cells #[.slice (some ad441) ((aQ t420 (ji15)).f0).length c424_0, .int .i64 ((aQ t420 (ji15)).f1), .int .i64 ((aQ t420 (ji15)).f2)] 49 (0, 0)) (Short.bK BK425) k_ hn_))⟩)) (aK (Short.hB HB))); have n7_ := mk_ (bB_ BK425 hb); have n8_ := mk_ (aG (Short.hB HB) hb); clear HO423 HL424_0 HO428 HO432 HO439 HO444 BK425 HB; revert n0_ n1_ n2_ n3_ n4_ n5_ n6_ n7_ n8_; intro HO423 HL424_0 HO428 HO432 HO439 HO444 HO447 BK425 HB; (try clear hb ho0); obtain ⟨Ao63, co63, eo63⟩ := eU HO447.out; subst eo63) | ((with_reducible refine bB (f := 12) rfl ?_); refine Short.gL (some 93) Try.func12 #[.slice Ao63 t445.length co63, .slice A1 l1.length c1] (h := ?_); (with_reducible refine (bA.calls _ _ t445 _ _ l1 t448 t449 _ ?side1 ?side2 ?side3 ?side4 A30.out).mono ?_); (case side1 => exact cX_ (N_reads' HO447.out).2.2); (case side2 => exact (N_reads' HO447.out).2.1); (case side3 => exact cX_ (aN HR1.out HB.out)); (case side4 => exact HC1.out); rintro e w64 ⟨v450, rfl, ho0, hb⟩; refine ⟨_, rfl, ?_⟩; have n0_ := mk_ (N_elder' (nK_ HO423) (R_base ho0) hb); have n1_ := mk_ (V_elder' (vK_ HL424_0) (R_base ho0) hb); have n2_ := mk_ (N_elder' (nK_ HO428) (R_base ho0) hb); have n3_ := mk_ (R_elder' (ShortB.rK HO432) (R_base ho0) hb); have n4_ := mk_ (R_elder' (ShortB.rK HO439) (R_base ho0) hb); have n5_ := mk_ (R_elder' (ShortB.rK HO444) (R_base ho0) hb); have n6_ := mk_ (N_elder' (nK_ HO447) (R_base ho0) hb); have n7_ := mk_ (bT (R_new' (R_new' (R_new' ho0 (R_lt (ShortB.rK HO432))) (R_lt (ShortB.rK HO439))) (R_lt (ShortB.rK HO444))) (aK (Short.hB HB))); have n8_ := mk_ (bB_ BK425 hb); have n9_ := mk_ (aG (Short.hB HB) hb); clear HO423 HL424_0 HO428 HO432 HO439 HO444 HO447 BK425 HB; revert n0_ n1_ n2_ n3_ n4_ n5_ n6_ n7_ n8_ n9_; intro HO423 HL424_0 HO428 HO432 HO439 HO444 HO447 HO451 BK425 HB; (try clear hb ho0)) | ((with_reducible refine cZ (b := .append) (xs := #[.tmp 100, .tmp 101]) rfl ?_); (try (refine bW z12_ ?_; dsimp only)); at_builtin; refine fP (Kd.int .i64) (w0 := w) w.heap.size rfl (.tmp 100) (.tmp 101) 32 3 (.int .i64 0) 8 rfl Try.underlying32 info3 rfl z10_ z5_ v443 y442 3 [.int .i64 3] (fun k_ => nb_ k_ (.slice Ao53 t429.length co53) ∧ nb_ k_ (.slice (some ad440) y437.length co60) ∧ nb_ k_ (v450)) (fun _ => False) rfl rfl ?aP (fun _ hk => hk.elim) ?aF ?aO ?aB ?aS ?aL ?_; (case aP => exact rfl); (case aB => exact (Short.hB HB)); (case aF => exact (fun k_ hk => ⟨Kd.fresh' (R_lt (ShortB.rK HO432)) k_ hk, Kd.fresh' (R_lt (ShortB.rK HO439)) k_ hk, Kd.fresh' (R_lt (ShortB.rK HO451)) k_ hk⟩)); (case aO => exact (rM_ HO444 (fun _ hk => ⟨hk.1.1, ⟨hk.1.2, hk.2⟩⟩))); (case aS => exact (aK (Short.hB HB))); (case aL => have := LMc32.out; omega); intro v453 w65 ho hb hg hat; rw [← Ny452.out] at ho; have n0_ := mk_ (dG (ok := (fun k_ => nb_ k_ (.slice Ao50 t426.length co50) ∧ nb_ k_ (.slice Ao53 t429.length co53) ∧ nb_ k_ (.slice (some ad440) y437.length co60) ∧ nb_ k_ (.slice Ao63 t445.length co63) ∧ nb_ k_ (v450) ∧ k_ ≠ gb425)) (nM_ HO423 (fun _ hk => ⟨⟨hk.1.1.1.1, ⟨hk.1.1.1.2.1, ⟨hk.1.1.1.2.2.1, ⟨hk.1.2, ⟨hk.2, hk.1.1.1.2.2.2⟩⟩⟩⟩⟩, hk.1.1.2⟩)) hg hat); have n1_ := mk_ (dJ (ok := (fun k_ => nb_ k_ (.slice (some ad424) t420.length co45) ∧ nb_ k_ (.slice Ao50 t426.length co50) ∧ nb_ k_ (.slice Ao53 t429.length co53) ∧ nb_ k_ (.slice (some ad440) y437.length co60) ∧ nb_ k_ (.slice Ao63 t445.length co63) ∧ nb_ k_ (v450) ∧ k_ ≠ gb425)) (vM_ HL424_0 (fun _ hk => ⟨⟨hk.1.1.1.1, ⟨hk.1.1.1.2.1, ⟨hk.1.1.1.2.2.1, ⟨hk.1.1.1.2.2.2.1, ⟨hk.1.2, ⟨hk.2, hk.1.1.1.2.2.2.2⟩⟩⟩⟩⟩⟩, hk.1.1.2⟩)) hg hat); have n2_ := mk_ (eH (g := gb425) (o := .cells #[.slice (some ad441) ((aQ t420 (ji15)).f0).length c424_0, .int .i64 ((aQ t420 (ji15)).f1), .int .i64 ((aQ t420 (ji15)).f2)] 49 (0, 0)) (Short.bK BK425) hg (R_ne HO444.out BK425.out z10_)); have n3_ := mk_ (dG (ok := (fun k_ => nb_ k_ (.slice (some ad424) t420.length co45) ∧ nb_ k_ (.slice Ao53 t429.length co53) ∧ nb_ k_ (.slice (some ad440) y437.length co60) ∧ nb_ k_ (.slice Ao63 t445.length co63) ∧ nb_ k_ (v450) ∧ k_ ≠ gb425)) (nM_ HO428 (fun _ hk => ⟨⟨hk.1.1.1.1, ⟨hk.1.1.1.2.1, ⟨hk.1.1.1.2.2.1, ⟨hk.1.2, ⟨hk.2, hk.1.1.1.2.2.2⟩⟩⟩⟩⟩, hk.1.1.2⟩)) hg hat); have n4_ := mk_ (dW (ok := (fun k_ => nb_ k_ (.slice (some ad440) y437.length co60) ∧ nb_ k_ (v450))) (rM_ HO432 (fun _ hk => ⟨⟨hk.1.1, hk.2⟩, hk.1.2⟩)) hg hat); have n5_ := mk_ (dW (ok := (fun k_ => nb_ k_ (.slice Ao53 t429.length co53) ∧ nb_ k_ (v450))) (rM_ HO439 (fun _ hk => ⟨⟨hk.1.1, hk.2⟩, hk.1.2⟩)) hg hat); have n6_ := mk_ (dG (ok := (fun k_ => nb_ k_ (.slice (some ad424) t420.length co45) ∧ nb_ k_ (.slice Ao50 t426.length co50) ∧ nb_ k_ (.slice Ao53 t429.length co53) ∧ nb_ k_ (v450) ∧ k_ ≠ gb425)) (nM_ HO447 (fun _ hk => ⟨⟨hk.1.1, ⟨hk.1.2.1, ⟨hk.1.2.2.1, ⟨hk.2, hk.1.2.2.2.2⟩⟩⟩⟩, hk.1.2.2.2.1⟩)) hg hat); have n7_ := mk_ (dW (ok := (fun k_ => nb_ k_ (.slice Ao53 t429.length co53) ∧ nb_ k_ (.slice (some ad440) y437.length co60))) (rM_ HO451 (fun _ hk => ⟨⟨hk.1.1.2, hk.1.2⟩, hk.2⟩)) hg hat); have n8_ := mk_ (hb); have n9_ := mk_ (ho); clear HO423 HL424_0 BK425 HO428 HO432 HO439 HO447 HO451 HB HO444; revert n0_ n1_ n2_ n3_ n4_ n5_ n6_ n7_ n8_ n9_; intro HO423 HL424_0 BK425 HO428 HO432 HO439 HO447 HO451 HB HO454; clear ho hb hg hat; obtain ⟨Ao66, co66, eo66⟩ := bE HO451.out; subst eo66; obtain ⟨Ao67, co67, eo67⟩ := bE HO454.out; subst eo67) | (go_at_call 18; (with_reducible refine (raddlekeep_Ints.calls kj3 _ _ t448 _ _ y452 true _ ?side1 ?side2 ?side3 ?side4 A33.out).mono ?_); (case side1 => exact cX_ (R_reads' HO451.out).2.2); (case side2 => exact (R_reads' HO451.out).2.1); (case side3 => exact cX_ (R_reads' HO454.out).2.2); (case side4 => exact (R_reads' HO454.out).2.1); rintro e w' ⟨rfl, ⟨nd, rfl⟩⟩) | ((with_reducible refine bB (f := 16) rfl ?_); refine Short.gL (some 110) Try.func16 #[.slice A0 l0.length c0, .agg #[.int .i64 4, .int .i64 (wrap64 ((l0.length : Int) - 1)), .int .i64 0, .int .i64 0, .int .i64 0, .int .i64 0, .int .i64 0, .int .i64 0, .int .i64 0, .string (⟨#[]⟩ : ByteArray), .slice none 0 0, .slice none 0 0, .int .i64 0, .int .i64 0]] (h := ?_); (refine (aW.calls (fun k_ => k_ < w.heap.size) _ _ l0 4 (wrap64 ((l0.length : Int) - 1)) 0 0 0 0 0 0 0 (⟨#[]⟩ : ByteArray) (fun k_ => False) _ _ ([] : List Int) (fun k_ => False) _ _ ([] : List Int) 0 0 t456 _ ?side1 ?side2 ?side3 A35.out).mono ?_); (case side1 => exact V_mk HC0.out (eZ (C_F fO HR0.out) (Short.hB HB))); (case side2 => exact V_nil _ _ _ _ _); (case side3 => exact V_nil _ _ _ _ _); rintro e w68 ⟨v457, rfl, ho0, hb⟩; refine ⟨_, rfl, ?_⟩; have n0_ := mk_ (N_elder' (nK_ HO423) (N_base ho0) hb); have n1_ := mk_ (V_elder' (vK_ HL424_0) (N_base ho0) hb); have n2_ := mk_ (N_elder' (nK_ HO428) (N_base ho0) hb); have n3_ := mk_ (bG (ShortB.rK HO432) hb); have n4_ := mk_ (bG (ShortB.rK HO439) hb); have n5_ := mk_ (N_elder' (nK_ HO447) (N_base ho0) hb); have n6_ := mk_ (bG (ShortB.rK HO451) hb); have n7_ := mk_ (bG (ShortB.rK HO454) hb); have n8_ := mk_ (eF (N_mono (ok' := fun k_ => nb_ k_ (.slice (some ad424) t420.length co45) ∧ nb_ k_ (.slice Ao50 t426.length co50) ∧ nb_ k_ (.slice Ao53 t429.length co53) ∧ nb_ k_ (.slice (some ad440) y437.length co60) ∧ nb_ k_ (.slice Ao63 t445.length co63) ∧ nb_ k_ (.slice Ao66 t448.length co66) ∧ nb_ k_ (.slice Ao67 y452.length co67) ∧ k_ ≠ gb425) ho0 (fun k_ hk_ => ⟨fN_ hk_ HO423, fN_ hk_ HO428, fR_ hk_ HO432, fR_ hk_ HO439, fN_ hk_ HO447, fR_ hk_ HO451, fR_ hk_ HO454, fB_ hk_ GW425 BK425⟩)) (aK (Short.hB HB))); have n9_ := mk_ (bB_ BK425 hb); have n10_ := mk_ (aG (Short.hB HB) hb); clear HO423 HL424_0 HO428 HO432 HO439 HO447 HO451 HO454 BK425 HB; revert n0_ n1_ n2_ n3_ n4_ n5_ n6_ n7_ n8_ n9_ n10_; intro HO423 HL424_0 HO428 HO432 HO439 HO447 HO451 HO454 HO458 BK425 HB; (try clear hb ho0); obtain ⟨Ao69, co69, eo69⟩ := eU HO458.out; subst eo69) | ((with_reducible refine bB (f := 12) rfl ?_); refine ShortB.Stop.go ?_))
   constructor
   by_cases c37 : t460 = 0
   rotate_left
   ·
    rw [if_neg c37] at H
    have c37b0 : (t460 == 0) = false := beq_eq_false_iff_ne.mpr c37
    have c37b1 : (t460 != 0) = true := bne_iff_ne.mpr c37
    by_cases c77 : t460 = 2
    ·
     rw [if_pos c77] at H
     have c77b0 : (t460 == 2) = true := beq_iff_eq.mpr c77
     have c77b1 : (t460 != 2) = false := bne_eq_false_iff_eq.mpr c77
     clear c77
     replace H := Option.bind_eq_some_iff.mp H
     obtain ⟨t472, A780, H⟩ := H
     replace H : (some t472) = some r := H
     have A78 := mk_ A780
     clear A780
     obtain rfl := Option.some.inj H
     refine Short.gL (some 112) Try.func12 #[.slice Ao69 t456.length co69, .slice A1 l1.length c1] (h := ?_)
     (with_reducible refine (bA.calls _ _ t456 _ _ l1 t459 t460 _ ?side1 ?side2 ?side3 ?side4 A36.out).mono ?_)
     (case side1 => exact cX_ (N_reads' HO458.out).2.2)
     (case side2 => exact (N_reads' HO458.out).2.1)
     (case side3 => exact cX_ (aN HR1.out HB.out))
     (case side4 => exact HC1.out)
     rintro e w70 ⟨v461, rfl, ho0, hb⟩
     refine ⟨_, rfl, ?_⟩
     have n0_ := mk_ (N_elder' (nK_ HO423) (R_base ho0) hb)
     have n1_ := mk_ (V_elder' (vK_ HL424_0) (R_base ho0) hb)
     have n2_ := mk_ (N_elder' (nK_ HO428) (R_base ho0) hb)
     have n3_ := mk_ (R_elder' (ShortB.rK HO432) (R_base ho0) hb)
     have n4_ := mk_ (R_elder' (ShortB.rK HO439) (R_base ho0) hb)
     have n5_ := mk_ (N_elder' (nK_ HO447) (R_base ho0) hb)
     have n6_ := mk_ (R_elder' (ShortB.rK HO451) (R_base ho0) hb)
     have n7_ := mk_ (R_elder' (ShortB.rK HO454) (R_base ho0) hb)
     have n8_ := mk_ (N_elder' (nK_ HO458) (R_base ho0) hb)
     have n9_ := mk_ (bT (R_new' (R_new' (R_new' (R_new' ho0 (R_lt (ShortB.rK HO432))) (R_lt (ShortB.rK HO439))) (R_lt (ShortB.rK HO451))) (R_lt (ShortB.rK HO454))) (aK (Short.hB HB)))
     have n10_ := mk_ (bB_ BK425 hb)
     have n11_ := mk_ (aG (Short.hB HB) hb)
     clear HO423 HL424_0 HO428 HO432 HO439 HO447 HO451 HO454 HO458 BK425 HB
     revert n0_ n1_ n2_ n3_ n4_ n5_ n6_ n7_ n8_ n9_ n10_ n11_
     intro HO423 HL424_0 HO428 HO432 HO439 HO447 HO451 HO454 HO458 HO462 BK425 HB
     (try clear hb ho0)
     go_wp2_with (first | (go_at_call 14; (with_reducible refine (aH.calls kj3  t472 _ A78.out).mono ?_); rintro e w106 ⟨rfl, hb⟩; have n0_ := mk_ (cR (nK_ HO423) hb); have n1_ := mk_ (eL (vK_ HL424_0) hb); have n2_ := mk_ (cR (nK_ HO428) hb); have n3_ := mk_ (bG (ShortB.rK HO432) hb); have n4_ := mk_ (bG (ShortB.rK HO439) hb); have n5_ := mk_ (cR (nK_ HO447) hb); have n6_ := mk_ (bG (ShortB.rK HO451) hb); have n7_ := mk_ (bG (ShortB.rK HO454) hb); have n8_ := mk_ (cR (nK_ HO458) hb); have n9_ := mk_ (bG (ShortB.rK HO462) hb); have n10_ := mk_ (bB_ BK425 hb); have n11_ := mk_ (aG (Short.hB HB) hb); clear HO423 HL424_0 HO428 HO432 HO439 HO447 HO451 HO454 HO458 HO462 BK425 HB; revert n0_ n1_ n2_ n3_ n4_ n5_ n6_ n7_ n8_ n9_ n10_ n11_; intro HO423 HL424_0 HO428 HO432 HO439 HO447 HO451 HO454 HO458 HO462 BK425 HB; (try clear hb); (try clear hb2); (try clear hk); (try clear hi)))
     go_ret
     exact ⟨by first | rfl | (rw [hrt]; rfl) | (simp [bY, bZ] <;> rfl) | (simp only [← hji15]; first | rfl | (simp [bY, bZ] <;> rfl)) | (simp [*, bY, bZ] <;> rfl), Short.hB HB⟩
    rw [if_neg c77] at H
    have c77b0 : (t460 == 2) = false := beq_eq_false_iff_ne.mpr c77
    have c77b1 : (t460 != 2) = true := bne_iff_ne.mpr c77
    by_cases c107 : t460 = 11
    rotate_left
    ·
     rw [if_neg c107] at H
     have c107b0 : (t460 == 11) = false := beq_eq_false_iff_ne.mpr c107
     have c107b1 : (t460 != 11) = true := bne_iff_ne.mpr c107
     exact absurd H (by rw [hrt]; simp)
    rw [if_pos c107] at H
    have c107b0 : (t460 == 11) = true := beq_iff_eq.mpr c107
    have c107b1 : (t460 != 11) = false := bne_eq_false_iff_eq.mpr c107
    clear c107
    replace H := Option.bind_eq_some_iff.mp H
    obtain ⟨t473, A1080, H⟩ := H
    replace H : (some t473) = some r := H
    have A108 := mk_ A1080
    clear A1080
    obtain rfl := Option.some.inj H
    refine Short.gL (some 112) Try.func12 #[.slice Ao69 t456.length co69, .slice A1 l1.length c1] (h := ?_)
    (with_reducible refine (bA.calls _ _ t456 _ _ l1 t459 t460 _ ?side1 ?side2 ?side3 ?side4 A36.out).mono ?_)
    (case side1 => exact cX_ (N_reads' HO458.out).2.2)
    (case side2 => exact (N_reads' HO458.out).2.1)
    (case side3 => exact cX_ (aN HR1.out HB.out))
    (case side4 => exact HC1.out)
    rintro e w70 ⟨v461, rfl, ho0, hb⟩
    refine ⟨_, rfl, ?_⟩
    have n0_ := mk_ (N_elder' (nK_ HO423) (R_base ho0) hb)
    have n1_ := mk_ (V_elder' (vK_ HL424_0) (R_base ho0) hb)
    have n2_ := mk_ (N_elder' (nK_ HO428) (R_base ho0) hb)
    have n3_ := mk_ (R_elder' (ShortB.rK HO432) (R_base ho0) hb)
    have n4_ := mk_ (R_elder' (ShortB.rK HO439) (R_base ho0) hb)
    have n5_ := mk_ (N_elder' (nK_ HO447) (R_base ho0) hb)
    have n6_ := mk_ (R_elder' (ShortB.rK HO451) (R_base ho0) hb)
    have n7_ := mk_ (R_elder' (ShortB.rK HO454) (R_base ho0) hb)
    have n8_ := mk_ (N_elder' (nK_ HO458) (R_base ho0) hb)
    have n9_ := mk_ (bT (R_new' (R_new' (R_new' (R_new' ho0 (R_lt (ShortB.rK HO432))) (R_lt (ShortB.rK HO439))) (R_lt (ShortB.rK HO451))) (R_lt (ShortB.rK HO454))) (aK (Short.hB HB)))
    have n10_ := mk_ (bB_ BK425 hb)
    have n11_ := mk_ (aG (Short.hB HB) hb)
    clear HO423 HL424_0 HO428 HO432 HO439 HO447 HO451 HO454 HO458 BK425 HB
    revert n0_ n1_ n2_ n3_ n4_ n5_ n6_ n7_ n8_ n9_ n10_ n11_
    intro HO423 HL424_0 HO428 HO432 HO439 HO447 HO451 HO454 HO458 HO462 BK425 HB
    (try clear hb ho0)
    go_wp2_with (first | (go_at_call 14; (with_reducible refine (aH.calls kj3  t473 _ A108.out).mono ?_); rintro e w136 ⟨rfl, hb⟩; have n0_ := mk_ (cR (nK_ HO423) hb); have n1_ := mk_ (eL (vK_ HL424_0) hb); have n2_ := mk_ (cR (nK_ HO428) hb); have n3_ := mk_ (bG (ShortB.rK HO432) hb); have n4_ := mk_ (bG (ShortB.rK HO439) hb); have n5_ := mk_ (cR (nK_ HO447) hb); have n6_ := mk_ (bG (ShortB.rK HO451) hb); have n7_ := mk_ (bG (ShortB.rK HO454) hb); have n8_ := mk_ (cR (nK_ HO458) hb); have n9_ := mk_ (bG (ShortB.rK HO462) hb); have n10_ := mk_ (bB_ BK425 hb); have n11_ := mk_ (aG (Short.hB HB) hb); clear HO423 HL424_0 HO428 HO432 HO439 HO447 HO451 HO454 HO458 HO462 BK425 HB; revert n0_ n1_ n2_ n3_ n4_ n5_ n6_ n7_ n8_ n9_ n10_ n11_; intro HO423 HL424_0 HO428 HO432 HO439 HO447 HO451 HO454 HO458 HO462 BK425 HB; (try clear hb); (try clear hb2); (try clear hk); (try clear hi)))
    go_ret
    exact ⟨by first | rfl | (rw [hrt]; rfl) | (simp [bY, bZ] <;> rfl) | (simp only [← hji15]; first | rfl | (simp [bY, bZ] <;> rfl)) | (simp [*, bY, bZ] <;> rfl), Short.hB HB⟩
   rw [if_pos c37] at H
   have c37b0 : (t460 == 0) = true := beq_iff_eq.mpr c37
   have c37b1 : (t460 != 0) = false := bne_eq_false_iff_eq.mpr c37
   clear c37
   replace H := Option.bind_eq_some_iff.mp H
   obtain ⟨t463, A380, H⟩ := H
   replace H : (if 0 < (t420.length : Int) then (if t463.length + ((aQ t420 0).f0).length < 17592186044416 then ((raddlekeep_Ints.f kj3 t459 (t463 ++ ((aQ t420 0).f0))).bind fun t470 => (if t470 = true then ((aH.f kj3).bind fun t471 => (some t471)) else (some false))) else (none)) else (none)) = some r := H
   have A38 := mk_ A380
   clear A380
   by_cases c39 : 0 < (t420.length : Int)
   rotate_left
   ·
    rw [if_neg c39] at H
    exact absurd H (by simp)
   rw [if_pos c39] at H
   have c39b0 : decide (0 < (t420.length : Int)) = true := decide_eq_true c39
   have c39b1 : decide (0 < t420.length) = true := decide_eq_true z5_
   clear c39
   by_cases c40 : t463.length + ((aQ t420 0).f0).length < 17592186044416
   rotate_left
   ·
    rw [if_neg c40] at H
    exact absurd H (by simp)
   rw [if_pos c40] at H
   have LMc40 := mk_ c40
   clear c40
   obtain ⟨y467, hy467⟩ : ∃ y_ : List Int, y_ = (t463 ++ ((aQ t420 0).f0)) := ⟨_, rfl⟩
   replace H : ((raddlekeep_Ints.f kj3 t459 y467).bind fun t470 => (if t470 = true then ((aH.f kj3).bind fun t471 => (some t471)) else (some false))) = some r := by first | (rw [hy467]; with_reducible exact H) | (have H2_ := (Option.bind_some _ _).symm.trans H; rw [hy467]; with_reducible exact H2_) | (have H2_ := (Option.bind_some _ _).symm.trans H; with_reducible exact H2_) | with_reducible exact H | (rw [hy467]; exact H) | exact H
   have Ny467 := mk_ hy467
   clear hy467
   replace H := Option.bind_eq_some_iff.mp H
   obtain ⟨t470, A410, H⟩ := H
   replace H : (if t470 = true then ((aH.f kj3).bind fun t471 => (some t471)) else (some false)) = some r := H
   have A41 := mk_ A410
   clear A410
   by_cases c42 : t470 = true
   rotate_left
   ·
    replace c42 := Bool.eq_false_iff.mpr c42
    subst c42
    rw [if_neg (show ¬ (false = true) by decide)] at H
    exact absurd H (by rw [hrt]; simp)
   subst c42
   rw [if_pos rfl] at H
   replace H := Option.bind_eq_some_iff.mp H
   obtain ⟨t471, A430, H⟩ := H
   replace H : (some t471) = some r := H
   have A43 := mk_ A430
   clear A430
   obtain rfl := Option.some.inj H
   refine Short.gL (some 112) Try.func12 #[.slice Ao69 t456.length co69, .slice A1 l1.length c1] (h := ?_)
   (with_reducible refine (bA.calls _ _ t456 _ _ l1 t459 t460 _ ?side1 ?side2 ?side3 ?side4 A36.out).mono ?_)
   (case side1 => exact cX_ (N_reads' HO458.out).2.2)
   (case side2 => exact (N_reads' HO458.out).2.1)
   (case side3 => exact cX_ (aN HR1.out HB.out))
   (case side4 => exact HC1.out)
   rintro e w70 ⟨v461, rfl, ho0, hb⟩
   refine ⟨_, rfl, ?_⟩
   have n0_ := mk_ (N_elder' (nK_ HO423) (R_base ho0) hb)
   have n1_ := mk_ (V_elder' (vK_ HL424_0) (R_base ho0) hb)
   have n2_ := mk_ (N_elder' (nK_ HO428) (R_base ho0) hb)
   have n3_ := mk_ (R_elder' (ShortB.rK HO432) (R_base ho0) hb)
   have n4_ := mk_ (R_elder' (ShortB.rK HO439) (R_base ho0) hb)
   have n5_ := mk_ (N_elder' (nK_ HO447) (R_base ho0) hb)
   have n6_ := mk_ (R_elder' (ShortB.rK HO451) (R_base ho0) hb)
   have n7_ := mk_ (R_elder' (ShortB.rK HO454) (R_base ho0) hb)
   have n8_ := mk_ (N_elder' (nK_ HO458) (R_base ho0) hb)
   have n9_ := mk_ (bT (R_new' (R_new' (R_new' (R_new' ho0 (R_lt (ShortB.rK HO432))) (R_lt (ShortB.rK HO439))) (R_lt (ShortB.rK HO451))) (R_lt (ShortB.rK HO454))) (aK (Short.hB HB)))
   have n10_ := mk_ (bB_ BK425 hb)
   have n11_ := mk_ (aG (Short.hB HB) hb)
   clear HO423 HL424_0 HO428 HO432 HO439 HO447 HO451 HO454 HO458 BK425 HB
   revert n0_ n1_ n2_ n3_ n4_ n5_ n6_ n7_ n8_ n9_ n10_ n11_
   intro HO423 HL424_0 HO428 HO432 HO439 HO447 HO451 HO454 HO458 HO462 BK425 HB
   (try clear hb ho0)
   go_wp2
   have n0_ := mk_ (N_drew HO423.out)
   have n1_ := mk_ (V_drew HL424_0.out)
   have n2_ := mk_ (N_drew HO428.out)
   have n3_ := mk_ (R_drew HO432.out)
   have n4_ := mk_ (R_drew HO439.out)
   have n5_ := mk_ (N_drew HO447.out)
   have n6_ := mk_ (R_drew HO451.out)
   have n7_ := mk_ (R_drew HO454.out)
   have n8_ := mk_ (N_drew HO458.out)
   have n9_ := mk_ (R_drew HO462.out)
   have n10_ := mk_ (aU BK425.out)
   have n11_ := mk_ (cQ HB.out)
   clear HO423 HL424_0 HO428 HO432 HO439 HO447 HO451 HO454 HO458 HO462 BK425 HB
   revert n0_ n1_ n2_ n3_ n4_ n5_ n6_ n7_ n8_ n9_ n10_ n11_
   intro HO423 HL424_0 HO428 HO432 HO439 HO447 HO451 HO454 HO458 HO462 BK425 HB
   have p466 : 0 ≤ (0 : Int) := z5_
   have q466 : 0 < (t420.length : Int) := of_decide_eq_true z4_
   obtain ⟨ad466, A466_0, c466_0, e466, hx466_0, hx466_1, hx466_2, hl466_0, hi466_0⟩ := eI (N_reads' HO423.out).2.2 0 p466 q466
   obtain rfl : ad424 = ad466 := (by injection e466)
   obtain ⟨ce466, hce466, hMe466, hcc466⟩ := N_get HO423.out z49 0 p466 (by first | exact q466 | exact of_decide_eq_true z4_ | (have e_ := (N_reads' HO423.out).1; omega))
   obtain ⟨ua466_0, uc466_0, rfl, ul466_0, ge466_0⟩ := k49_openF hMe466
   have hv466_0 := hcc466 0 _ rfl
   rw [Nat.add_zero] at hv466_0
   replace hv466_0 := Option.some.inj (hv466_0.symm.trans hx466_0)
   injection hv466_0 with hva_ hvn_ hvc_
   rw [hva_] at ge466_0
   rw [hvc_] at ul466_0
   have HL466_0 := mk_ (show Kd.V (Kd.int .i64) 3 _ w.heap.size _ _ ((aQ t420 0).f0) from V_mk ul466_0 ge466_0)
   clear hva_ hvn_ hvc_ ge466_0 ul466_0
   clear hcc466 hce466
   have qi466 : (0 < t420.length) = True := eq_true z5_
   (try rw [show ((0 : Int)).toNat = 0 from rfl] at hx466_0)
   (try rw [show 0 * 3 = 0 from rfl] at hx466_0)
   (try rw [Addr.add_zero'] at hx466_0)
   (try rw [show ((0 : Int)).toNat = 0 from rfl] at hx466_1)
   (try rw [show 0 * 3 = 0 from rfl] at hx466_1)
   (try rw [Addr.add_zero'] at hx466_1)
   (try rw [show ((0 : Int)).toNat = 0 from rfl] at hx466_2)
   (try rw [show 0 * 3 = 0 from rfl] at hx466_2)
   (try rw [Addr.add_zero'] at hx466_2)
   have HR466_0 := mk_ hi466_0
   have HC466_0 := mk_ hl466_0
   clear hi466_0 hl466_0
   replace p466 := eq_true p466
   replace q466 := eq_true q466
   refine dX (n := 14) (S := fun w' => w'.cell? ⟨gb425, 0, none⟩ = some (.slice (some ad441) ((aQ t420 (ji15)).f0).length c424_0) ∧ w'.cell? ⟨gb425, 1, none⟩ = some (.int .i64 ((aQ t420 (ji15)).f1)) ∧ w'.cell? ⟨gb425, 2, none⟩ = some (.int .i64 ((aQ t420 (ji15)).f2)) ∧ w'.cell? ad424 = some (.slice A466_0 ((aQ t420 0).f0).length c466_0) ∧ w'.cell? ⟨ad424.block, ad424.off + 1, none⟩ = some (.int .i64 ((aQ t420 0).f1)) ∧ w'.cell? ⟨ad424.block, ad424.off + 2, none⟩ = some (.int .i64 ((aQ t420 0).f2))) (ds := [8]) (Steps.Bs 14 0) z1_ rfl rfl ⟨kc_ BK425 0, kc_ BK425 1, kc_ BK425 2, hx466_0, hx466_1, hx466_2⟩ (fun hHeld => ?_); refine dB aJ.tab23 aJ.bits23 (fun HT_ HW_ => ?_)
   generalize w70.drew = w71 at HO423 HL424_0 HO428 HO432 HO439 HO447 HO451 HO454 HO458 HO462 BK425 HB HL466_0 HR466_0 hx466_0 hx466_1 hx466_2 hHeld ⊢
   refine tI HT_ 0 126 14 1 ?_
   refine tI HT_ 1 127 14 3 ?_
   refine tI HT_ 4 130 14 19 ?_
   refine tI HT_ 5 131 14 51 ?_
   refine tI HT_ 6 132 14 115 ?_
   refine tT HT_ HW_ hHeld 2 128 14 119 ?_
   refine tT HT_ HW_ hHeld 7 133 14 247 ?_
   refine one_ (i := 3) (N := some 129) (Steps.Bs 14 255) rfl rfl (dA HT_.out z1_) z10_ (fun K hK => ?_)
   refine goes_ Try.func19 z1_ rfl #[.slice (some ad441) ((aQ t420 (ji15)).f0).length c424_0] z12_ rfl rfl (by (try simp only [List.map_toArray, List.map_cons, List.map_nil]); first | done | (simp only [hji15]; rfl) | rfl | (simp only [List.length_drop, List.length_take]; rfl) | (go_simp; done) | (simp; done)) ?_
   with_reducible refine (raddlekeep_TwinInts.calls _ _ ((aQ t420 (ji15)).f0) t463 _ ?side1 ?side2 A38.out).mono ?_
   (case side1 => exact cX_ (V_reads' HL424_0.out).2.2)
   (case side2 => exact HC424_0.out)
   rintro e w72 ⟨v464, rfl, ho0, hb⟩
   have HS3_ := (hb.cell (World.block_lt_of_cell? _ _ (hHeld.2.2.2.1))).trans (hHeld.2.2.2.1)
   have HS4_ := (hb.cell (World.block_lt_of_cell? _ _ (hHeld.2.2.2.2.1))).trans (hHeld.2.2.2.2.1)
   have HS5_ := (hb.cell (World.block_lt_of_cell? _ _ (hHeld.2.2.2.2.2))).trans (hHeld.2.2.2.2.2)
   refine ⟨_, rfl, ?_⟩
   have n0_ := mk_ (N_elder' (nK_ HO423) (R_base ho0) hb)
   have n1_ := mk_ (V_elder' (vK_ HL424_0) (R_base ho0) hb)
   have n2_ := mk_ (N_elder' (nK_ HO428) (R_base ho0) hb)
   have n3_ := mk_ (R_elder' (ShortB.rK HO432) (R_base ho0) hb)
   have n4_ := mk_ (R_elder' (ShortB.rK HO439) (R_base ho0) hb)
   have n5_ := mk_ (N_elder' (nK_ HO447) (R_base ho0) hb)
   have n6_ := mk_ (R_elder' (ShortB.rK HO451) (R_base ho0) hb)
   have n7_ := mk_ (R_elder' (ShortB.rK HO454) (R_base ho0) hb)
   have n8_ := mk_ (N_elder' (nK_ HO458) (R_base ho0) hb)
   have n9_ := mk_ (R_elder' (ShortB.rK HO462) (R_base ho0) hb)
   have n10_ := mk_ (V_elder' (vK_ HL466_0) (R_base ho0) hb)
   have n11_ := mk_ (bT (R_new' (R_new' (R_new' (R_new' (R_new' ho0 (R_lt (ShortB.rK HO432))) (R_lt (ShortB.rK HO439))) (R_lt (ShortB.rK HO451))) (R_lt (ShortB.rK HO454))) (R_lt (ShortB.rK HO462))) (aK (Short.hB HB)))
   have n12_ := mk_ (bB_ BK425 hb)
   have n13_ := mk_ (aN (cK_ HR466_0) hb)
   have n14_ := mk_ (aG (Short.hB HB) hb)
   clear HO423 HL424_0 HO428 HO432 HO439 HO447 HO451 HO454 HO458 HO462 HL466_0 BK425 HR466_0 HB
   revert n0_ n1_ n2_ n3_ n4_ n5_ n6_ n7_ n8_ n9_ n10_ n11_ n12_ n13_ n14_
   intro HO423 HL424_0 HO428 HO432 HO439 HO447 HO451 HO454 HO458 HO462 HL466_0 HO465 BK425 HR466_0 HB
   (try clear hb)
   (try clear hb2)
   (try clear hk)
   (try clear hi)
   (try clear ho0)
   refine hK.out _ _ ⟨kc_ BK425 0, kc_ BK425 1, kc_ BK425 2, HS3_, HS4_, HS5_⟩ (fun hHeld => ?_)
   clear hK K
   refine nrm 129 ?_
   refine last_ (i := 8) (N := some 134) (Steps.Bs 14 511) rfl rfl (dA HT_.out z1_) z10_ (fun K hK => ?_)
   refine cU (Kd.int .i64) (w0 := w) w.heap.size z12_ (.tmp 129) (.tmp 133) 32 3 (.int .i64 0) 8 rfl Try.underlying32 info3 rfl z10_ z5_ v464 t463 ((aQ t420 0).f0) _ _ _ (fun k_ => nb_ k_ (.slice Ao53 t429.length co53) ∧ nb_ k_ (.slice (some ad440) y437.length co60) ∧ nb_ k_ (.slice Ao66 t448.length co66) ∧ nb_ k_ (.slice Ao67 y452.length co67) ∧ nb_ k_ (v461)) (fun _ => False) rfl rfl ?aO ?aR (fun _ _ h => h) (fun _ h => h.elim) ?aF ?aB ?aS ?aL ?_
   (case aR => exact cX_ (cK_ HR466_0))
   (case aB => exact (Short.hB HB))
   (case aF => exact (fun k_ hk => ⟨Kd.fresh' (R_lt (ShortB.rK HO432)) k_ hk, Kd.fresh' (R_lt (ShortB.rK HO439)) k_ hk, Kd.fresh' (R_lt (ShortB.rK HO451)) k_ hk, Kd.fresh' (R_lt (ShortB.rK HO454)) k_ hk, Kd.fresh' (R_lt (ShortB.rK HO462)) k_ hk⟩))
   (case aO => exact (rM_ HO465 (fun _ hk => ⟨hk.1.1.1.1.2, ⟨hk.1.1.1.2, ⟨hk.1.1.2, ⟨hk.1.2, hk.2⟩⟩⟩⟩)))
   (case aS => exact (aK (Short.hB HB)))
   (case aL => have := LMc40.out; omega)
   intro v468 w73 ho hb hg hat
   have HC3_ := eV hg hHeld.2.2.2.1 ((HO423.out).1 _ rfl).2
   have HC4_ := eV hg hHeld.2.2.2.2.1 ((HO423.out).1 _ rfl).2
   have HC5_ := eV hg hHeld.2.2.2.2.2 ((HO423.out).1 _ rfl).2
   rw [← Ny467.out] at ho
   have n0_ := mk_ (dG (ok := (fun k_ => nb_ k_ (.slice Ao50 t426.length co50) ∧ nb_ k_ (.slice Ao53 t429.length co53) ∧ nb_ k_ (.slice (some ad440) y437.length co60) ∧ nb_ k_ (.slice Ao63 t445.length co63) ∧ nb_ k_ (.slice Ao66 t448.length co66) ∧ nb_ k_ (.slice Ao67 y452.length co67) ∧ nb_ k_ (.slice Ao69 t456.length co69) ∧ nb_ k_ (v461) ∧ k_ ≠ gb425)) (nM_ HO423 (fun _ hk => ⟨⟨hk.1.1.1.1.1, ⟨hk.1.1.1.1.2.1, ⟨hk.1.1.1.1.2.2.1, ⟨hk.1.1.1.1.2.2.2.1, ⟨hk.1.1.1.1.2.2.2.2.1, ⟨hk.1.1.1.2, ⟨hk.1.1.2, ⟨hk.1.2, hk.1.1.1.1.2.2.2.2.2⟩⟩⟩⟩⟩⟩⟩⟩, hk.2⟩)) hg hat)
   have n1_ := mk_ (dJ (ok := (fun k_ => nb_ k_ (.slice (some ad424) t420.length co45) ∧ nb_ k_ (.slice Ao50 t426.length co50) ∧ nb_ k_ (.slice Ao53 t429.length co53) ∧ nb_ k_ (.slice (some ad440) y437.length co60) ∧ nb_ k_ (.slice Ao63 t445.length co63) ∧ nb_ k_ (.slice Ao66 t448.length co66) ∧ nb_ k_ (.slice Ao67 y452.length co67) ∧ nb_ k_ (.slice Ao69 t456.length co69) ∧ nb_ k_ (v461) ∧ k_ ≠ gb425)) (vM_ HL424_0 (fun _ hk => ⟨⟨hk.1.1.1.1.1, ⟨hk.1.1.1.1.2.1, ⟨hk.1.1.1.1.2.2.1, ⟨hk.1.1.1.1.2.2.2.1, ⟨hk.1.1.1.1.2.2.2.2.1, ⟨hk.1.1.1.1.2.2.2.2.2.1, ⟨hk.1.1.1.2, ⟨hk.1.1.2, ⟨hk.1.2, hk.1.1.1.1.2.2.2.2.2.2⟩⟩⟩⟩⟩⟩⟩⟩⟩, hk.2⟩)) hg hat)
   have n2_ := mk_ (eH (g := gb425) (o := .cells #[.slice (some ad441) ((aQ t420 (ji15)).f0).length c424_0, .int .i64 ((aQ t420 (ji15)).f1), .int .i64 ((aQ t420 (ji15)).f2)] 49 (0, 0)) (Short.bK BK425) hg (R_ne HO465.out BK425.out z10_))
   have n3_ := mk_ (dG (ok := (fun k_ => nb_ k_ (.slice (some ad424) t420.length co45) ∧ nb_ k_ (.slice Ao53 t429.length co53) ∧ nb_ k_ (.slice (some ad440) y437.length co60) ∧ nb_ k_ (.slice Ao63 t445.length co63) ∧ nb_ k_ (.slice Ao66 t448.length co66) ∧ nb_ k_ (.slice Ao67 y452.length co67) ∧ nb_ k_ (.slice Ao69 t456.length co69) ∧ nb_ k_ (v461) ∧ k_ ≠ gb425)) (nM_ HO428 (fun _ hk => ⟨⟨hk.1.1.1.1.1, ⟨hk.1.1.1.1.2.1, ⟨hk.1.1.1.1.2.2.1, ⟨hk.1.1.1.1.2.2.2.1, ⟨hk.1.1.1.1.2.2.2.2.1, ⟨hk.1.1.1.2, ⟨hk.1.1.2, ⟨hk.1.2, hk.1.1.1.1.2.2.2.2.2⟩⟩⟩⟩⟩⟩⟩⟩, hk.2⟩)) hg hat)
   have n4_ := mk_ (dW (ok := (fun k_ => nb_ k_ (.slice (some ad440) y437.length co60) ∧ nb_ k_ (.slice Ao66 t448.length co66) ∧ nb_ k_ (.slice Ao67 y452.length co67) ∧ nb_ k_ (v461))) (rM_ HO432 (fun _ hk => ⟨⟨hk.1.1.1.1, ⟨hk.1.1.1.2, ⟨hk.1.1.2, hk.1.2⟩⟩⟩, hk.2⟩)) hg hat)
   have n5_ := mk_ (dW (ok := (fun k_ => nb_ k_ (.slice Ao53 t429.length co53) ∧ nb_ k_ (.slice Ao66 t448.length co66) ∧ nb_ k_ (.slice Ao67 y452.length co67) ∧ nb_ k_ (v461))) (rM_ HO439 (fun _ hk => ⟨⟨hk.1.1.1.1, ⟨hk.1.1.1.2, ⟨hk.1.1.2, hk.1.2⟩⟩⟩, hk.2⟩)) hg hat)
   have n6_ := mk_ (dG (ok := (fun k_ => nb_ k_ (.slice (some ad424) t420.length co45) ∧ nb_ k_ (.slice Ao50 t426.length co50) ∧ nb_ k_ (.slice Ao53 t429.length co53) ∧ nb_ k_ (.slice Ao66 t448.length co66) ∧ nb_ k_ (.slice Ao67 y452.length co67) ∧ nb_ k_ (.slice Ao69 t456.length co69) ∧ nb_ k_ (v461) ∧ k_ ≠ gb425)) (nM_ HO447 (fun _ hk => ⟨⟨hk.1.1.1.1.1, ⟨hk.1.1.1.1.2.1, ⟨hk.1.1.1.1.2.2.1, ⟨hk.1.1.1.1.2.2.2.1, ⟨hk.1.1.1.2, ⟨hk.1.1.2, ⟨hk.1.2, hk.1.1.1.1.2.2.2.2⟩⟩⟩⟩⟩⟩⟩, hk.2⟩)) hg hat)
   have n7_ := mk_ (dW (ok := (fun k_ => nb_ k_ (.slice Ao53 t429.length co53) ∧ nb_ k_ (.slice (some ad440) y437.length co60) ∧ nb_ k_ (.slice Ao67 y452.length co67) ∧ nb_ k_ (v461))) (rM_ HO451 (fun _ hk => ⟨⟨hk.1.1.1.1, ⟨hk.1.1.1.2, ⟨hk.1.1.2, hk.1.2⟩⟩⟩, hk.2⟩)) hg hat)
   have n8_ := mk_ (dW (ok := (fun k_ => nb_ k_ (.slice Ao53 t429.length co53) ∧ nb_ k_ (.slice (some ad440) y437.length co60) ∧ nb_ k_ (.slice Ao66 t448.length co66) ∧ nb_ k_ (v461))) (rM_ HO454 (fun _ hk => ⟨⟨hk.1.1.1, ⟨hk.1.1.2.1, ⟨hk.1.1.2.2, hk.1.2⟩⟩⟩, hk.2⟩)) hg hat)
   have n9_ := mk_ (dG (ok := (fun k_ => nb_ k_ (.slice (some ad424) t420.length co45) ∧ nb_ k_ (.slice Ao50 t426.length co50) ∧ nb_ k_ (.slice Ao53 t429.length co53) ∧ nb_ k_ (.slice (some ad440) y437.length co60) ∧ nb_ k_ (.slice Ao63 t445.length co63) ∧ nb_ k_ (.slice Ao66 t448.length co66) ∧ nb_ k_ (.slice Ao67 y452.length co67) ∧ nb_ k_ (v461) ∧ k_ ≠ gb425)) (nM_ HO458 (fun _ hk => ⟨⟨hk.1.1.1, ⟨hk.1.1.2.1, ⟨hk.1.1.2.2.1, ⟨hk.1.1.2.2.2.1, ⟨hk.1.1.2.2.2.2.1, ⟨hk.1.1.2.2.2.2.2.1, ⟨hk.1.1.2.2.2.2.2.2.1, ⟨hk.1.2, hk.1.1.2.2.2.2.2.2.2⟩⟩⟩⟩⟩⟩⟩⟩, hk.2⟩)) hg hat)
   have n10_ := mk_ (dW (ok := (fun k_ => nb_ k_ (.slice Ao53 t429.length co53) ∧ nb_ k_ (.slice (some ad440) y437.length co60) ∧ nb_ k_ (.slice Ao66 t448.length co66) ∧ nb_ k_ (.slice Ao67 y452.length co67))) (rM_ HO462 (fun _ hk => ⟨⟨hk.1.1.1.1.2, ⟨hk.1.1.1.2, ⟨hk.1.1.2, hk.1.2⟩⟩⟩, hk.2⟩)) hg hat)
   have n11_ := mk_ (dJ (ok := (fun k_ => nb_ k_ (.slice (some ad424) t420.length co45) ∧ nb_ k_ (.slice Ao50 t426.length co50) ∧ nb_ k_ (.slice Ao53 t429.length co53) ∧ nb_ k_ (.slice (some ad440) y437.length co60) ∧ nb_ k_ (.slice Ao63 t445.length co63) ∧ nb_ k_ (.slice Ao66 t448.length co66) ∧ nb_ k_ (.slice Ao67 y452.length co67) ∧ nb_ k_ (.slice Ao69 t456.length co69) ∧ nb_ k_ (v461) ∧ k_ ≠ gb425)) (vM_ HL466_0 (fun _ hk => ⟨⟨hk.1.2, ⟨hk.1.1.1.1.1.1, ⟨hk.1.1.1.1.1.2.1, ⟨hk.1.1.1.1.1.2.2.1, ⟨hk.1.1.1.1.1.2.2.2.1, ⟨hk.1.1.1.1.1.2.2.2.2.1, ⟨hk.1.1.1.1.2, ⟨hk.1.1.1.2, ⟨hk.1.1.2, hk.1.1.1.1.1.2.2.2.2.2⟩⟩⟩⟩⟩⟩⟩⟩⟩, hk.2⟩)) hg hat)
   have n12_ := mk_ (hb)
   have n13_ := mk_ (ho)
   clear HO423 HL424_0 BK425 HO428 HO432 HO439 HO447 HO451 HO454 HO458 HO462 HL466_0 HB HO465
   revert n0_ n1_ n2_ n3_ n4_ n5_ n6_ n7_ n8_ n9_ n10_ n11_ n12_ n13_
   intro HO423 HL424_0 BK425 HO428 HO432 HO439 HO447 HO451 HO454 HO458 HO462 HL466_0 HB HO469
   clear ho hb hg hat
   obtain ⟨Ao74, co74, eo74⟩ := bE HO462.out
   (first | subst eo74 | (injection eo74 with f1_ f2_ f3_; have f4_ := f1_.symm; have f5_ := f3_.symm; clear f1_ f2_ f3_; subst f4_; subst f5_))
   obtain ⟨Ao75, co75, eo75⟩ := bE HO469.out
   (first | subst eo75 | (injection eo75 with f1_ f2_ f3_; have f4_ := f1_.symm; have f5_ := f3_.symm; clear f1_ f2_ f3_; subst f4_; subst f5_))
   refine hK.out _ _ ?_
   clear hK K
   refine nrm 134 ?_
   refine one_ (i := 9) (N := some 135) (Steps.Bs 14 1023) rfl rfl (dA HT_.out z1_) z10_ (fun K hK => ?_)
   refine goes_ Try.func18 z1_ rfl #[.slice Ao74 t459.length co74, .slice Ao75 y467.length co75] z12_ rfl rfl z6_ ?_
   with_reducible refine (raddlekeep_Ints.calls kj3 _ _ t459 _ _ y467 true _ ?side1 ?side2 ?side3 ?side4 A41.out).mono ?_
   (case side1 => exact cX_ (R_reads' HO462.out).2.2)
   (case side2 => exact (R_reads' HO462.out).2.1)
   (case side3 => exact cX_ (R_reads' HO469.out).2.2)
   (case side4 => exact (R_reads' HO469.out).2.1)
   rintro e w' ⟨rfl, ⟨nd, rfl⟩⟩
   refine ⟨_, rfl, ?_⟩
   refine hK.out _ _ ⟨kc_ BK425 0, kc_ BK425 1, kc_ BK425 2, HC3_, HC4_, HC5_⟩ (fun hHeld => ?_)
   clear hK K
   refine nrm 135 ?_
   refine tI HT_ 10 136 14 2047 ?_
   refine one_ (i := 11) (N := some 137) (Steps.Bs 14 4095) rfl rfl (dA HT_.out z1_) z10_ (fun K hK => ?_)
   refine goes_ Try.func14 z1_ rfl #[] z12_ rfl rfl z6_ ?_
   with_reducible refine (aH.calls kj3  t471 _ A43.out).mono ?_
   rintro e w76 ⟨rfl, hb⟩
   have HS3_ := (hb.cell (World.block_lt_of_cell? _ _ (hHeld.2.2.2.1))).trans (hHeld.2.2.2.1)
   have HS4_ := (hb.cell (World.block_lt_of_cell? _ _ (hHeld.2.2.2.2.1))).trans (hHeld.2.2.2.2.1)
   have HS5_ := (hb.cell (World.block_lt_of_cell? _ _ (hHeld.2.2.2.2.2))).trans (hHeld.2.2.2.2.2)
   refine ⟨_, rfl, ?_⟩
   have n0_ := mk_ (cR (nK_ HO423) hb)
   have n1_ := mk_ (eL (vK_ HL424_0) hb)
   have n2_ := mk_ (cR (nK_ HO428) hb)
   have n3_ := mk_ (bG (ShortB.rK HO432) hb)
   have n4_ := mk_ (bG (ShortB.rK HO439) hb)
   have n5_ := mk_ (cR (nK_ HO447) hb)
   have n6_ := mk_ (bG (ShortB.rK HO451) hb)
   have n7_ := mk_ (bG (ShortB.rK HO454) hb)
   have n8_ := mk_ (cR (nK_ HO458) hb)
   have n9_ := mk_ (bG (ShortB.rK HO462) hb)
   have n10_ := mk_ (eL (vK_ HL466_0) hb)
   have n11_ := mk_ (bG (ShortB.rK HO469) hb)
   have n12_ := mk_ (bB_ BK425 hb)
   have n13_ := mk_ (aG (Short.hB HB) hb)
   clear HO423 HL424_0 HO428 HO432 HO439 HO447 HO451 HO454 HO458 HO462 HL466_0 HO469 BK425 HB
   revert n0_ n1_ n2_ n3_ n4_ n5_ n6_ n7_ n8_ n9_ n10_ n11_ n12_ n13_
   intro HO423 HL424_0 HO428 HO432 HO439 HO447 HO451 HO454 HO458 HO462 HL466_0 HO469 BK425 HB
   (try clear hb)
   (try clear hb2)
   (try clear hk)
   (try clear hi)
   refine hK.out _ _ ⟨kc_ BK425 0, kc_ BK425 1, kc_ BK425 2, HS3_, HS4_, HS5_⟩ (fun hHeld => ?_)
   clear hK K
   refine nrm 137 ?_
   refine tI HT_ 12 138 14 8191 ?_
   refine tI HT_ 13 6 14 16383 ?_
   refine done_ (dT HT_.out z1_) ?_
   try go_wp2
   go_ret
   exact ⟨by first | rfl | (rw [hrt]; rfl) | (simp [bY, bZ] <;> rfl) | (simp only [← hji15]; first | rfl | (simp [bY, bZ] <;> rfl)) | (simp [*, bY, bZ] <;> rfl), Short.hB HB⟩
def aJ.WF29 (x : S29) : Prop := (Lit.int .i64 x.f0).wf = true ∧ (Lit.int .i64 x.f1).wf = true ∧ x.f2.size ≤ maxLen
def aJ.WF31 (x : S31) : Prop := (Lit.int .i64 x.f0).wf = true ∧ (Lit.int .i64 x.f1).wf = true ∧ (Lit.int .i64 x.f2).wf = true ∧ aJ.WF29 x.f3
def aJ.WF34 (x : S34) : Prop := (Lit.int .i64 x.f0).wf = true ∧ (Lit.int .i64 x.f1).wf = true ∧ (Lit.int .i64 x.f2).wf = true ∧ (Lit.int .i64 x.f3).wf = true ∧ aJ.WF31 x.f4 ∧ (x.f5.length ≤ maxLen ∧ ∀ x0_ ∈ x.f5, (Lit.int .i64 x0_).wf = true) ∧ (x.f6.length ≤ maxLen ∧ ∀ x0_ ∈ x.f6, (Lit.int .i64 x0_).wf = true) ∧ (Lit.int .i64 x.f7).wf = true ∧ (Lit.int .i64 x.f8).wf = true
def aJ.WF54 (x : S54) : Prop := (x.f0.length ≤ maxLen ∧ ∀ x0_ ∈ x.f0, (Lit.int .i64 x0_).wf = true)
def aJ.Pure : Prop := ∀ (x0 : List (S34)) (x1 : List (S54)) (x2 : Int), (x0.length ≤ maxLen ∧ ∀ x0_ ∈ x0, aJ.WF34 x0_) → (x1.length ≤ maxLen ∧ ∀ x0_ ∈ x1, aJ.WF54 x0_) → (Lit.int .i64 x2).wf = true → ∃ k, aJ.f k x0 x1 x2 = some true
end Go.Proofs.Ytimbbaoodjhdoaa.PAll
end
section
namespace Go.Proofs.Ytimbbaoodjhdoaa.Plan
open Go.RowKit PAll Plain PrintWords PrintLast PrintMore ZipT PrintWords.Kd PrintMore.Kd
set_option linter.unusedVariables false
set_option linter.unusedSimpArgs false
theorem rdT_drop {l : List Tb} {i : Nat} {v : Tb} {m : List Tb} (h : l.drop i = v :: m) : cN l (i : Int) = v := by
 show l.getD (i : Int).toNat _ = v
 rw [Int.toNat_natCast, List.getD_eq_getElem?_getD]
 have := congrArg (·[0]?) h
 simp only [List.getElem?_drop, Nat.add_zero, List.getElem?_cons_zero] at this
 rw [this]; rfl
theorem rdN_drop {l : List No} {i : Nat} {v : No} {m : List No} (h : l.drop i = v :: m) : bM l (i : Int) = v := by
 show l.getD (i : Int).toNat _ = v
 rw [Int.toNat_natCast, List.getD_eq_getElem?_getD]
 have := congrArg (·[0]?) h
 simp only [List.getElem?_drop, Nat.add_zero, List.getElem?_cons_zero] at this
 rw [this]; rfl
theorem drop_next {α : Type} {l : List α} {i : Nat} {v : α} {m : List α} (h : l.drop i = v :: m) : l.drop (i + 1) = m ∧ i < l.length := by
 constructor
 ·
  rw [← List.drop_drop, h]; rfl
 ·
  have := congrArg List.length h
  rw [List.length_drop, List.length_cons] at this
  omega
theorem wrapn (i : Nat) (h : i ≤ 1000000) : wrap64 ((i : Int) + 1) = ((i + 1 : Nat) : Int) := by unfold wrap64; omega
def hvF (f : List Tb) : Bool := decide (f.length > 30) || f.any fun t => decide (t.f0.length > 30)
theorem hvF_l0 (f : List Tb) (hl : f.length ≤ 30) (m : List Tb) : ∀ (k i : Nat), f.drop i = m → m.length < k →
  bH.l0 k f (i : Int) = some (m.any fun t => decide (t.f0.length > 30)) := by
 induction m with
 | nil =>
  intro k i h hk
  obtain ⟨k, rfl⟩ : ∃ j, k = j + 1 := ⟨k - 1, by omega⟩
  have := List.drop_eq_nil_iff.1 h
  simp only [bH.l0]
  rw [if_neg z5_]; rfl
 | cons v m ih =>
  intro k i h hk
  obtain ⟨k, rfl⟩ : ∃ j, k = j + 1 := ⟨k - 1, by omega⟩
  obtain ⟨h1, h2⟩ := drop_next h
  rw [List.length_cons] at hk
  simp only [bH.l0]
  rw [if_pos z5_, if_pos z5_, rdT_drop h, List.any_cons]
  by_cases c : v.f0.length > 30
  ·
   rw [if_pos z5_, decide_eq_true c]; rfl
  rw [if_neg z5_, decide_eq_false c, Bool.false_or, wrapn i z5_]
  exact ih k (i + 1) h1 z5_
theorem hvF_eq (k : Nat) (f : List Tb) (hk : 40 ≤ k) : bH.f k f = some (hvF f) := by
 unfold bH.f hvF
 by_cases c : f.length > 30
 ·
  rw [if_pos z5_, decide_eq_true c]; rfl
 rw [if_neg z5_, decide_eq_false c, Bool.false_or]
 exact hvF_l0 f z5_ f k 0 rfl z5_
def hvX (x : No) : Bool := decide (x.f5.length > 40) || decide (x.f6.length > 40) || decide (x.f4.f3.f2.size > 300)
def hvN (l : List No) : Bool := decide (l.length > 40) || l.any hvX
theorem long_eq (k : Nat) (v : S29) (hk : 2 ≤ k) : bR.f k [v] = some (decide (v.f2.size > 300)) := by
 obtain ⟨k, rfl⟩ : ∃ j, k = j + 2 := ⟨k - 2, by omega⟩
 unfold bR.f
 simp only [bR.l0]
 rw [if_pos (show (0 : Int) < (([v] : List _).length : Int) by rw [List.length_singleton]; decide), if_pos z10_]
 show (if (v.f2.size : Int) > 300 then _ else _) = _
 by_cases c : v.f2.size > 300
 ·
  rw [if_pos z5_, decide_eq_true c]
 rw [if_neg z5_, decide_eq_false c, if_neg (by rw [List.length_singleton, show wrap64 (0 + 1) = 1 by unfold wrap64; omega]; decide)]
theorem hvN_l0 (l : List No) (hl : l.length ≤ 40) (m : List No) : ∀ (k i : Nat), l.drop i = m → m.length + 3 < k →
  bN.l0 k l (i : Int) = some (m.any hvX) := by
 induction m with
 | nil =>
  intro k i h hk
  obtain ⟨k, rfl⟩ : ∃ j, k = j + 1 := ⟨k - 1, by omega⟩
  have := List.drop_eq_nil_iff.1 h
  simp only [bN.l0]
  rw [if_neg z5_]; rfl
 | cons v m ih =>
  intro k i h hk
  obtain ⟨k, rfl⟩ : ∃ j, k = j + 1 := ⟨k - 1, by omega⟩
  obtain ⟨h1, h2⟩ := drop_next h
  rw [List.length_cons] at hk
  simp only [bN.l0]
  rw [if_pos z5_, if_pos z5_, rdN_drop h, List.any_cons]
  unfold hvX
  by_cases c : v.f5.length > 40
  ·
   rw [if_pos z5_, decide_eq_true c]; rfl
  rw [if_neg z5_, decide_eq_false c, Bool.false_or]
  by_cases d : v.f6.length > 40
  ·
   rw [if_pos z5_, decide_eq_true d]; rfl
  rw [if_neg z5_, decide_eq_false d, Bool.false_or, long_eq k _ z5_, Option.bind_some]
  by_cases e : v.f4.f3.f2.size > 300
  ·
   rw [decide_eq_true e, if_pos rfl]; rfl
  rw [decide_eq_false e, if_neg z10_, Bool.false_or, wrapn i z5_]
  exact ih k (i + 1) h1 z5_
theorem hvN_eq (k : Nat) (l : List No) (hk : 60 ≤ k) : bN.f k l = some (hvN l) := by
 unfold bN.f hvN
 by_cases c : l.length > 40
 ·
  rw [if_pos z5_, decide_eq_true c]; rfl
 rw [if_neg z5_, decide_eq_false c, Bool.false_or]
 exact hvN_l0 l z5_ l k 0 rfl z5_
theorem small_of (l : List No) (f : List Tb) (hl : hvN l = false) (hf : hvF f = false) : planSmall l f := by
 unfold hvN at hl
 unfold hvF at hf
 simp only [Bool.or_eq_false_iff, decide_eq_false_iff_not, List.any_eq_false, hvX, Bool.or_eq_true, decide_eq_true_eq, not_or] at hl hf
 exact ⟨by omega, by omega, fun x hx => by have := hl.2 x hx; omega, fun t ht => by have := hf.2 t ht; omega⟩
theorem planSmall.snoc {l : List No} {f : List Tb} (h : planSmall l f) (hl : l.length ≤ 40) (x : No) (h5 : x.f5.length ≤ 1000) (h6 : x.f6.length ≤ 1000) : planSmall (l ++ [x]) f :=
 ⟨by rw [List.length_append, List.length_singleton]; omega, h.2.1, fun y hy => by rcases List.mem_append.1 hy with e | e; exact h.2.2.1 y e; rw [List.mem_singleton.1 e]; exact ⟨h5, h6⟩, h.2.2.2⟩
theorem fQ {l : List No} {f : List Tb} (h : planSmall l f) : bA.f l f = some ((lastN l f).1, (planN l f).2) := by unfold bA.f; rw [if_pos h]
theorem bound_eq {l : List No} {f : List Tb} (h : planSmall l f) : cW.f l f = some ((lastN l f).2.1, (lastN l f).2.2, (planN l f).2) := by unfold cW.f; rw [if_pos h]
theorem plan14_eq {l : List No} {f : List Tb} (h : planSmall l f) : dC.f l f = some ((planN l f).1.map ofNd, (planN l f).2) := by unfold dC.f; rw [if_pos h]
theorem lastN_err {l : List No} {f : List Tb} (h : (planN l f).2 ≠ 0) : lastN l f = zN := by unfold lastN; rw [planN_err h]; rfl
def scan0 : No := ⟨1, 0, 0, 0, ⟨0, 0, 0, ⟨0, 0, (⟨#[]⟩ : ByteArray)⟩⟩, [], [], 0, 0⟩
theorem ints_eq2 (k : Nat) (hk : 5 ≤ k) : raddlekeep_Ints.f k [4, 3] [4, 3] = some true := by
 obtain ⟨k, rfl⟩ : ∃ j, k = j + 5 := ⟨k - 5, by omega⟩
 unfold raddlekeep_Ints.f
 simp [raddlekeep_Ints.l0, rd, wrap64]
theorem wakes_eq (k : Nat) (hk : 5 ≤ k) : aH.f k = some true := by
 have hs : planSmall [scan0] [⟨[3]⟩] := by decide
 have hp : planN [scan0] [⟨[3]⟩] = ([([4, 3], 1024, 2147483648)], 0) := by decide
 have hq : lastN [scan0] [⟨[3]⟩] = ([4, 3], 1024, 2147483648) := by unfold lastN; rw [hp]; rfl
 unfold aH.f
 rw [show (⟨1, 0, 0, 0, (⟨0, 0, 0, (⟨0, 0, (⟨#[]⟩ : ByteArray)⟩ : S29)⟩ : S31), ([] : List Int), ([] : List Int), 0, 0⟩ : No) = scan0 from rfl, fQ hs, bound_eq hs, hp, hq]
 simp only [Option.bind_some]
 rw [if_pos trivial, if_pos trivial, ints_eq2 k hk, Option.bind_some, if_pos rfl, if_pos trivial]
 rfl
theorem gA (k : Nat) (hk : 5 ≤ k) : ((aH.f k).bind fun t => some t) = some true := by rw [wakes_eq k hk]; rfl
theorem walk_ok {l : List No} {f : List Tb} (h : (planN l f).2 = 0) : FOk f ∧ 1 ≤ l.length ∧ l.length ≤ 12 ∧ planN l f = walkN f l [] ∧ (walkN f l []).2 = 0 ∧ (walkN f l []).1.length = l.length := by
 obtain ⟨h1, h2, h3, h4⟩ := fA h
 have hg := gJ h4 h2 h3
 exact ⟨h4, h2, h3, hg, by rw [← hg]; exact h, by rw [← hg]; exact h1⟩
theorem plan_snoc {l : List No} {f : List Tb} (h : (planN l f).2 = 0) (hl : l.length < 12) (x : No) :
  planN (l ++ [x]) f = if (look f (planN l f).1 x).2 = 0 then ((planN l f).1 ++ [(look f (planN l f).1 x).1], 0) else ([], (look f (planN l f).1 x).2) := by
 obtain ⟨h1, h2, h3, h4, h5, h6⟩ := walk_ok h
 rw [gJ h1 (by rw [List.length_append, List.length_singleton]; omega) (by rw [List.length_append, List.length_singleton]; omega), gE l [x] [] h5, ← h4]
 rfl
theorem last_snoc {l : List No} {f : List Tb} (h : (planN l f).2 = 0) (hl : l.length < 12) (x : No) (hx : (look f (planN l f).1 x).2 = 0) : lastN (l ++ [x]) f = (look f (planN l f).1 x).1 := by
 unfold lastN
 rw [plan_snoc h hl x, if_pos hx]
 have h1 := (fA h).1
 simp only [List.length_append, List.length_singleton, Nat.add_sub_cancel]
 rw [List.getD_eq_getElem?_getD, List.getElem?_append_right z5_, h1, Nat.sub_self]
 rfl
theorem gH {l : List No} {f : List Tb} (h : (planN l f).2 = 0) : lastN l f = nth (planN l f).1 ((l.length : Int) - 1) := by
 have := (fA h).2.1
 unfold lastN nth
 rw [show ((l.length : Int) - 1).toNat = l.length - 1 by omega]
theorem fI {l : List No} {f : List Tb} (h : (planN l f).2 = 0) : ahead (planN l f).1 ((l.length : Int) - 1) = true := by
 have := fA h
 unfold ahead
 rw [decide_eq_true]; omega
theorem last_ok {l : List No} {f : List Tb} (h : (planN l f).2 = 0) : NdOk (lastN l f) := by
 rw [gH h]; exact cY (fun d hd => planN_ok d hd) (fI h)
end Go.Proofs.Ytimbbaoodjhdoaa.Plan
end
section
namespace Go.Proofs.Ytimbbaoodjhdoaa.Pure
open Go.RowKit PAll PrintWords PrintLast PrintMore Plain Plan ZipT PrintWords.Kd PrintMore.Kd
set_option linter.unusedVariables false
set_option linter.unusedSimpArgs false
def ndC (k a : Int) (cols : List Int) (g : Int) : No := ⟨k, a, 0, 0, ⟨0, 0, 0, ⟨0, 0, (⟨#[]⟩ : ByteArray)⟩⟩, cols, [], g, 0⟩
theorem gI (l : List No) (hl : l.length ≤ 40) (k a : Int) (cols : List Int) (g : Int) : aW.f l k a 0 0 0 0 0 0 0 (⟨#[]⟩ : ByteArray) cols [] g 0 = some (l ++ [ndC k a cols g]) := by
 unfold aW.f
 rw [if_pos (by rw [List.length_nil]; omega), Option.bind_some, List.nil_append, Option.bind_some, if_pos (by rw [List.length_singleton]; omega)]
 rfl
theorem fJ {l : List No} {f : List Tb} (hs : planSmall l f) (hl : l.length < 12) (h : (planN l f).2 = 0) (x : No) (h5 : x.f5.length ≤ 1000) (h6 : x.f6.length ≤ 1000) :
  bA.f (l ++ [x]) f = some (if (Plan.look f (planN l f).1 x).2 = 0 then ((Plan.look f (planN l f).1 x).1.1, 0) else ([], (Plan.look f (planN l f).1 x).2)) := by
 rw [fQ (Plan.planSmall.snoc hs z5_ _ h5 h6)]
 have hp := plan_snoc h hl x
 by_cases hx : (Plan.look f (planN l f).1 x).2 = 0
 ·
  rw [last_snoc h hl _ hx, if_pos hx, hp, if_pos hx]
 rw [if_neg hx] at hp
 rw [if_neg hx, lastN_err (by rw [hp]; exact hx), hp]
 rfl
theorem rdB_nth (d : List Nd) (i : Int) (h0 : 0 ≤ i) (h : i < (d.length : Int)) : aQ (d.map ofNd) i = ofNd (nth d i) := by
 show (d.map ofNd).getD i.toNat _ = ofNd (d.getD i.toNat zN)
 rw [List.getD_eq_getElem?_getD, List.getD_eq_getElem?_getD, List.getElem?_map, List.getElem?_eq_getElem z5_]
 rfl
theorem join_fin {l : List No} {f : List Tb} (hs : planSmall l f) (hl : l.length < 12) (h : (planN l f).2 = 0) (k : Nat) (hk : 50 ≤ k) :
  ((aW.f l 4 ((l.length : Int) - 1) 0 0 0 0 0 0 0 (⟨#[]⟩ : ByteArray) ([] : List Int) ([] : List Int) 0 0).bind fun t395 => ((bA.f t395 f).bind fun bt398 => (if bt398.2 = 0 then ((raddlekeep_TwinInts.f ((ofNd (lastN l f)).f0)).bind fun t402 => (if 0 < (((planN l f).1.map ofNd).length : Int) then (if t402.length + ((aQ ((planN l f).1.map ofNd) 0).f0).length < 17592186044416 then ((raddlekeep_Ints.f k bt398.1 (t402 ++ ((aQ ((planN l f).1.map ofNd) 0).f0))).bind fun t409 => (if t409 = true then ((aH.f k).bind fun t410 => (some t410)) else (some false))) else (none)) else (none))) else (if bt398.2 = 2 then ((aH.f k).bind fun t411 => (some t411)) else (if bt398.2 = 11 then ((aH.f k).bind fun t412 => (some t412)) else (some false)))))) = some true := by
 obtain ⟨g1, g2, g3, g4⟩ := fA h
 have ha := fI h
 have hn := (gH h).symm
 have hd := last_ok h
 have hd0 : NdOk (nth (planN l f).1 0) := cY (fun d hd => planN_ok d hd) (by unfold Plan.ahead; rw [decide_eq_true]; omega)
 rw [gI l z5_, Option.bind_some, fJ hs hl h _ (Nat.zero_le _) (Nat.zero_le _), Option.bind_some, rdB_nth _ 0 (Int.le_refl _) z5_]
 have k4 : Plan.look f (planN l f).1 (ndC 4 ((l.length : Int) - 1) [] 0) = if (lastN l f).1.length + (nth (planN l f).1 0).1.length > 12 then (zN, 2) else if (lastN l f).2.1 * (nth (planN l f).1 0).2.1 ≤ 1125899906842624 then (((lastN l f).1 ++ (nth (planN l f).1 0).1, (lastN l f).2.1 * (nth (planN l f).1 0).2.1, max (lastN l f).2.2 (nth (planN l f).1 0).2.2), 0) else (zN, 11) := by
  unfold Plan.look
  rw [if_neg (by simp [ndC]), if_neg (by simp [ndC]), if_neg (by simp [ndC]), if_pos z12_]
  unfold joinN
  rw [show (ndC 4 ((l.length : Int) - 1) [] 0).f1 = ((l.length : Int) - 1) from rfl, show (ndC 4 ((l.length : Int) - 1) [] 0).f2 = 0 from rfl, show (ndC 4 ((l.length : Int) - 1) [] 0).f5 = [] from rfl, show (ndC 4 ((l.length : Int) - 1) [] 0).f6 = [] from rfl, hn]
  rw [if_pos (by exact ⟨ha, by unfold Plan.ahead; rw [decide_eq_true]; omega⟩), if_pos (by exact ⟨rfl, rfl⟩)]
  by_cases c : (lastN l f).1.length + (nth (planN l f).1 0).1.length > 12
  ·
   rw [if_pos (.inr c), if_pos c]
  ·
   rw [if_neg (by rintro (e | e); exact e rfl; exact c e), if_neg c, if_pos (show pick (lastN l f).1 [] = pick (nth (planN l f).1 0).1 [] from rfl)]
 rw [k4]
 by_cases c : (lastN l f).1.length + (nth (planN l f).1 0).1.length > 12
 ·
  rw [if_pos c]
  simp only [show ((2 : Int) = 0) = False by decide, if_false, if_true]
  exact gA k z5_
 rw [if_neg c]
 by_cases c2 : (lastN l f).2.1 * (nth (planN l f).1 0).2.1 ≤ 1125899906842624
 rotate_left
 ·
  rw [if_neg c2]
  simp only [show ((11 : Int) = 0) = False by decide, show ((11 : Int) = 2) = False by decide, if_false, if_true]
  exact gA k z5_
 rw [if_pos c2]
 simp only [if_true]
 have e1 : (ofNd (lastN l f)).f0 = (lastN l f).1 := rfl
 have e2 : (ofNd (nth (planN l f).1 0)).f0 = (nth (planN l f).1 0).1 := rfl
 have a1 := hd.len
 have a2 := hd0.len
 rw [e1, e2, cM _ z5_, Option.bind_some, if_pos (by rw [List.length_map]; omega), if_pos z5_, dS k _ _ (by rw [List.length_append]; omega) (by rw [List.length_append]; omega), decide_eq_true rfl, Option.bind_some, if_pos rfl]
 exact gA k z5_
theorem group_look {l : List No} {f : List Tb} (h : (planN l f).2 = 0) (cols : List Int) (hc : places cols (lastN l f).1.length = true) (hl : cols.length < 12) :
  Plan.look f (planN l f).1 (ndC 8 ((l.length : Int) - 1) cols 1) = ((pick (lastN l f).1 cols ++ [3], (lastN l f).2.1, max (lastN l f).2.2 (lastN l f).2.1), 0) := by
 have ha := fI h
 have hn := (gH h).symm
 unfold Plan.look
 rw [if_neg (by simp [ndC]), if_neg (by simp [ndC]), if_neg (by simp [ndC]), if_neg (by simp [ndC]), if_neg (by simp [ndC]), if_neg (by simp [ndC]), if_pos z12_]
 unfold groupN
 have e1 : nth (planN l f).1 (ndC 8 ((l.length : Int) - 1) cols 1).f1 = lastN l f := hn
 rw [e1, show (ndC 8 ((l.length : Int) - 1) cols 1).f5 = cols from rfl, show (ndC 8 ((l.length : Int) - 1) cols 1).f7 = 1 from rfl]
 rw [if_pos (by exact ⟨ha, by decide, by decide⟩), if_pos (by exact ⟨hc, .inl rfl⟩), if_neg z5_, if_neg (by simp [ndC]), if_pos rfl]
theorem PlanTypes : aJ.Pure := by
 intro l f g _ _ _
 refine ⟨200 + 1, ?_⟩
 have hj : aJ.j0 201 l f g true = some true := rfl
 unfold aJ.f
 rw [hvN_eq 201 l z5_, Option.bind_some]
 by_cases hv : hvN l = true
 ·
  rw [if_pos hv]; exact hj
 rw [if_neg hv, hvF_eq 201 f z5_, Option.bind_some]
 by_cases hw : hvF f = true
 ·
  rw [if_pos hw]; exact hj
 rw [if_neg hw]
 have hs := small_of l f (Bool.eq_false_iff.mpr hv) (Bool.eq_false_iff.mpr hw)
 by_cases c : (l.length : Int) ≥ 12
 ·
  rw [decide_eq_true c]; exact hj
 rw [decide_eq_false c]
 simp only [aJ.j0]
 rw [if_neg z10_, plan14_eq hs, Option.bind_some]
 by_cases h : (planN l f).2 = 0
 rotate_left
 ·
  rw [if_neg h]
 obtain ⟨g1, g2, g3, g4⟩ := fA h
 have ha := fI h
 have hn := (gH h).symm
 have hd := last_ok h
 have hl : l.length < 12 := by omega
 have hlen : (((planN l f).1.map ofNd).length : Int) = (l.length : Int) := by rw [List.length_map, g1]
 have hfin := join_fin hs hl h 200 z5_
 have k7 : Plan.look f (planN l f).1 (ndC 7 ((l.length : Int) - 1) [] 0) = (lastN l f, 0) := by
  unfold Plan.look
  rw [if_neg (by simp [ndC]), if_neg (by simp [ndC]), if_neg (by simp [ndC]), if_neg (by simp [ndC]), if_neg (by simp [ndC]), if_pos z12_]
  unfold distinctN
  rw [if_pos (by exact ha)]; exact congrArg (·, 0) hn
 rw [if_pos h]
 simp only [] at *
 have hT : aQ ((planN l f).1.map ofNd) ((l.length : Int) - 1) = ofNd (lastN l f) := by rw [rdB_nth _ _ z5_ z5_, hn]
 have hw0 : wrap64 ((((planN l f).1.map ofNd).length : Int) - 1) = (l.length : Int) - 1 := by rw [hlen, w64 z5_ z5_]
 have hw1 : wrap64 ((l.length : Int) - 1) = (l.length : Int) - 1 := w64 z5_ z5_
 rw [hw0, hw1, hT, if_pos z5_, if_pos (by rw [hlen]; omega), gI l z5_, Option.bind_some, fJ hs hl h _ (Nat.zero_le _) (Nat.zero_le _), Option.bind_some, k7]
 have e1 : (ofNd (lastN l f)).f0 = (lastN l f).1 := rfl
 have a1 := hd.len
 simp only [if_true]
 rw [dS 200 _ _ z5_ z5_, decide_eq_true z12_, Option.bind_some, if_pos rfl, Option.bind_some]
 by_cases ht : ((ofNd (lastN l f)).f0.length : Int) > 0
 rotate_left
 ·
  rw [if_neg ht, gI l z5_, Option.bind_some, fJ hs hl h _ (Nat.zero_le _) (Nat.zero_le _), Option.bind_some, group_look h [] rfl (by rw [List.length_nil]; decide)]
  simp only [if_true]
  rw [if_pos (by simp), dS 200 _ _ (by simp [pick]) (by simp [pick]), decide_eq_true z12_, Option.bind_some, if_pos rfl]
  exact hfin
 rw [if_pos ht]
 have hx : 0 ≤ IntKind.u64.wrap g := by rw [u64_mod]; exact Int.emod_nonneg _ z10_
 rw [e1] at ht
 have h1 := Int.emod_nonneg (IntKind.u64.wrap g) (show ((lastN l f).1.length : Int) ≠ 0 by omega)
 have h2 := Int.emod_lt_of_pos (IntKind.u64.wrap g) (show (0 : Int) < (lastN l f).1.length by omega)
 rw [wu64 (x := ((ofNd (lastN l f)).f0.length : Int)) (by rw [e1]; omega) (by rw [e1]; omega), if_neg (by rw [e1]; omega), Int.tmod_eq_emod_of_nonneg hx, e1, w64 z5_ z5_]
 generalize IntKind.u64.wrap g % ((lastN l f).1.length : Int) = q at h1 h2 ⊢
 rw [Option.bind_some, if_pos (by show (0 : Int) < (([q] : List Int).length : Int); rw [List.length_singleton]; decide)]
 have hq : rd [q] 0 = q := rfl
 have hpl : places [q] (lastN l f).1.length = true := by unfold places; rw [List.all_cons, decide_eq_true ⟨h1, h2⟩]; rfl
 rw [hq, if_pos h1, if_pos h2, if_pos (by rw [List.length_nil]; decide), Option.bind_some, gI l z5_, Option.bind_some, fJ hs hl h _ (by show ([q] : List Int).length ≤ 1000; rw [List.length_singleton]; decide) (Nat.zero_le _), Option.bind_some, group_look h [q] hpl (by rw [List.length_singleton]; decide)]
 simp only [if_true]
 rw [if_pos (by simp), dS 200 _ _ (by simp [pick]) (by simp [pick]), decide_eq_true z12_, Option.bind_some, if_pos rfl]
 exact hfin
end Go.Proofs.Ytimbbaoodjhdoaa.Pure
end
