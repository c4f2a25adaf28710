-- Put together by a program of this session (wip/slice2.py) out of the seat's texts.
import Derived.Test.YtjnjfogfpmeacaaGreatZOEp1

set_option maxHeartbeats 8000000
set_option maxRecDepth 100000
open Go.Proofs.YtjnjfogfpmeacaaGreatW Go.Proofs.YtjnjfogfpmeacaaGreat
section
namespace Go.Proofs.YtjnjfogfpmeacaaGreat.PAll
open Go.RowKit PrintWords PrintLast PrintMore ZipT PrintWords.Kd PrintMore.Kd
attribute [local go_sem] eP eN fD fA dS dT eO eK   -- for this text's walks alone
set_option linter.unusedVariables false
set_option linter.unusedSimpArgs false
def gH.f (k : Nat) (l0 : List Int) (a1 : Int) : Option (Int × Int × ByteArray × Int × Int) := (wire_Get.f k l0 a1 1).bind fun bt380 => (if bt380.2.2 = 0 then (if bt380.1 = 2 then ((wire_Get.f k l0 bt380.2.1 1).bind fun bt383 => (if bt383.2.2 = 0 then ((bN.f bt380.1 bt383.1 (⟨#[]⟩ : ByteArray)).bind fun t386 => (if t386 = 0 then (some (bt380.1, bt383.1, (⟨#[]⟩ : ByteArray), bt383.2.1, 0)) else (some (0, 0, (⟨#[]⟩ : ByteArray), 0, 3)))) else (some (0, 0, (⟨#[]⟩ : ByteArray), 0, 3)))) else (if bt380.1 = 3 then ((bQ.f k l0 bt380.2.1).bind fun bt387 => (if bt387.2.2 = 0 then ((bN.f bt380.1 bt387.1 (⟨#[]⟩ : ByteArray)).bind fun t390 => (if t390 = 0 then (some (bt380.1, bt387.1, (⟨#[]⟩ : ByteArray), bt387.2.1, 0)) else (some (0, 0, (⟨#[]⟩ : ByteArray), 0, 3)))) else (some (0, 0, (⟨#[]⟩ : ByteArray), 0, 3)))) else (if bt380.1 = 4 then ((wire_GetText.f k l0 bt380.2.1).bind fun bt391 => (if bt391.2.2 = 0 then ((bN.f bt380.1 0 bt391.1).bind fun t394 => (if t394 = 0 then (some (bt380.1, 0, bt391.1, bt391.2.1, 0)) else (some (0, 0, (⟨#[]⟩ : ByteArray), 0, 3)))) else (some (0, 0, (⟨#[]⟩ : ByteArray), 0, 3)))) else ((bN.f bt380.1 0 (⟨#[]⟩ : ByteArray)).bind fun t395 => (if t395 = 0 then (some (bt380.1, 0, (⟨#[]⟩ : ByteArray), bt380.2.1, 0)) else (some (0, 0, (⟨#[]⟩ : ByteArray), 0, 3))))))) else (some (0, 0, (⟨#[]⟩ : ByteArray), 0, bt380.2.2)))
theorem gH.calls (k : Nat) (A0 : Option Addr) (c0 : Nat) (l0 : List Int) (a1 : Int) (r1 : Int) (r2 : Int) (r3 : ByteArray) (r4 : Int) (r5 : Int) (w : World) (hr0 : Kd.C (Kd.int .u8) w A0 l0.length l0) (hc0 : l0.length ≤ c0) (h : gH.f k l0 a1 = some (r1, r2, r3, r4, r5)) :
  Calls Tryz.prog 93 #[.slice A0 l0.length c0, .int .i64 a1] w fun e w' => e = .returned (.tuple #[.agg #[.int .i64 r1, .int .i64 r2, .string r3], .int .i64 r4, .int .i64 r5]) ∧ Below w.heap.size w w' := by
 have hu102 := Tryz.underlying102
 have HR0 := mk_ hr0
 have HC0 := mk_ hc0
 clear hr0 hc0
 have HB := mk_ (Below.refl w.heap.size w)
 have H : ((wire_Get.f k l0 a1 1).bind fun bt380 => (if bt380.2.2 = 0 then (if bt380.1 = 2 then ((wire_Get.f k l0 bt380.2.1 1).bind fun bt383 => (if bt383.2.2 = 0 then ((bN.f bt380.1 bt383.1 (⟨#[]⟩ : ByteArray)).bind fun t386 => (if t386 = 0 then (some (bt380.1, bt383.1, (⟨#[]⟩ : ByteArray), bt383.2.1, 0)) else (some (0, 0, (⟨#[]⟩ : ByteArray), 0, 3)))) else (some (0, 0, (⟨#[]⟩ : ByteArray), 0, 3)))) else (if bt380.1 = 3 then ((bQ.f k l0 bt380.2.1).bind fun bt387 => (if bt387.2.2 = 0 then ((bN.f bt380.1 bt387.1 (⟨#[]⟩ : ByteArray)).bind fun t390 => (if t390 = 0 then (some (bt380.1, bt387.1, (⟨#[]⟩ : ByteArray), bt387.2.1, 0)) else (some (0, 0, (⟨#[]⟩ : ByteArray), 0, 3)))) else (some (0, 0, (⟨#[]⟩ : ByteArray), 0, 3)))) else (if bt380.1 = 4 then ((wire_GetText.f k l0 bt380.2.1).bind fun bt391 => (if bt391.2.2 = 0 then ((bN.f bt380.1 0 bt391.1).bind fun t394 => (if t394 = 0 then (some (bt380.1, 0, bt391.1, bt391.2.1, 0)) else (some (0, 0, (⟨#[]⟩ : ByteArray), 0, 3)))) else (some (0, 0, (⟨#[]⟩ : ByteArray), 0, 3)))) else ((bN.f bt380.1 0 (⟨#[]⟩ : ByteArray)).bind fun t395 => (if t395 = 0 then (some (bt380.1, 0, (⟨#[]⟩ : ByteArray), bt380.2.1, 0)) else (some (0, 0, (⟨#[]⟩ : ByteArray), 0, 3))))))) else (some (0, 0, (⟨#[]⟩ : ByteArray), 0, bt380.2.2)))) = some (r1, r2, r3, r4, r5) := h
 clear h
 obtain ⟨⟨t380, t381, t382⟩, A3, H⟩ := Option.bind_eq_some_iff.mp H
 try dsimp only at H
 replace A3 := mk_ A3
 by_cases c4 : t382 = 0
 rotate_left
 ·
  rw [if_neg c4] at H
  have c4b0 : (t382 == 0) = false := beq_eq_false_iff_ne.mpr c4
  have c4b1 : (t382 != 0) = true := bne_iff_ne.mpr c4
  simp only [Option.some.injEq, Prod.mk.injEq] at H
  obtain ⟨rfl, rfl, rfl, rfl, rfl⟩ := H
  go_enter Tryz.func93, Tryz.ntmps93
  go_wp2_with (first | ((with_reducible refine aQ (N := 4) rfl ?_); refine aN ?hg (N := 4) ?hd (cs := #[.int .i64 0, .int .i64 0, .string (⟨#[]⟩ : ByteArray)]) (t := 102) ?hr ?_; (case hd => rfl); (case hg => rfl); (case hr => first | (go_simp; done) | (go_simp; rfl)); intro gb379 hg w60 hbox hb; have n0_ := mk_ (aC (Short.hB HB) hb); have n1_ := mk_ (hbox); have n2_ := mk_ ((by rw [hg]; exact (aA (Short.hB HB)) : w.heap.size ≤ gb379)); have n3_ := mk_ ((by rw [hg]; exact (aA (Short.hB HB)) : w.heap.size ≤ gb379)); clear HB; revert n0_ n1_ n2_ n3_; intro HB BK379 GW379 GE379; clear hb hbox hg) | ((with_reducible refine aE (f := 91) rfl ?_); refine Short.gL (some 11) Tryz.func91 #[.slice A0 l0.length c0, .int .i64 a1, .int .i64 1] (h := ?_); (with_reducible refine (wire_Get.calls k _ _ l0 a1 1 t380 t381 t382 _ ?side1 ?side2 A3.out).mono ?_); (case side1 => exact cX_ (aU HR0.out HB.out)); (case side2 => exact HC0.out); rintro e w' ⟨rfl, ⟨nd, rfl⟩⟩; refine ⟨_, rfl, ?_⟩; (try (rw [fF w60]; generalize hq_ : World.drewN w60 _ = w60; have n0_ : Aside0 (w60.heap[gb379]? = some (.cells #[.int .i64 0, .int .i64 0, .string (⟨#[]⟩ : ByteArray)] 102 (0, 0))) := ⟨by rw [← hq_]; exact (Short.bK BK379)⟩; have n1_ : Aside0 (Below w.heap.size w w60) := ⟨by rw [← hq_]; exact (Short.hB HB)⟩; clear BK379 HB hq_; revert n0_ n1_; intro BK379 HB)); obtain ⟨hcz_0, hcz_1, hcz_2, hfz_0, hfz_1, hfz_2⟩ := Short.c3 BK379.out))
  refine bodyPost_ret (dQ rfl _ _ gb379 102 #[.int .i64 0, .int .i64 0, .string (⟨#[]⟩ : ByteArray)] (0, 0) _ rfl (by (with_reducible repeat (first | refine aH ?_ _ | refine aI ?_ | refine aG ?_ _)); refine bA (cs := #[.int .i64 0, .int .i64 0, .string (⟨#[]⟩ : ByteArray)]) ?_ 2 _ rfl; (with_reducible repeat (first | refine aH ?_ _ | refine aI ?_ | refine aG ?_ _)); refine bA (cs := #[.int .i64 0, .int .i64 0, .string (⟨#[]⟩ : ByteArray)]) ?_ 1 _ rfl; (with_reducible repeat (first | refine aH ?_ _ | refine aI ?_ | refine aG ?_ _)); refine bA (cs := #[.int .i64 0, .int .i64 0, .string (⟨#[]⟩ : ByteArray)]) ?_ 0 _ rfl; (with_reducible repeat (first | refine aH ?_ _ | refine aI ?_ | refine aG ?_ _)); exact BK379.out) Tryz.underlying102 rfl z2_) rfl ?_
  exact ⟨q0, Short.hB HB⟩
 rw [if_pos c4] at H
 have c4b0 : (t382 == 0) = true := beq_iff_eq.mpr c4
 have c4b1 : (t382 != 0) = false := bne_eq_false_iff_eq.mpr c4
 clear c4
 by_cases c5 : t380 = 2
 ·
  rw [if_pos c5] at H
  have c5b0 : (t380 == 2) = true := beq_iff_eq.mpr c5
  have c5b1 : (t380 != 2) = false := bne_eq_false_iff_eq.mpr c5
  clear c5
  obtain ⟨⟨t383, t384, t385⟩, A6, H⟩ := Option.bind_eq_some_iff.mp H
  try dsimp only at H
  replace A6 := mk_ A6
  by_cases c7 : t385 = 0
  rotate_left
  ·
   rw [if_neg c7] at H
   have c7b0 : (t385 == 0) = false := beq_eq_false_iff_ne.mpr c7
   have c7b1 : (t385 != 0) = true := bne_iff_ne.mpr c7
   simp only [Option.some.injEq, Prod.mk.injEq] at H
   obtain ⟨rfl, rfl, rfl, rfl, rfl⟩ := H
   go_enter Tryz.func93, Tryz.ntmps93
   go_wp2_with (first | ((with_reducible refine aQ (N := 4) rfl ?_); refine aN ?hg (N := 4) ?hd (cs := #[.int .i64 0, .int .i64 0, .string (⟨#[]⟩ : ByteArray)]) (t := 102) ?hr ?_; (case hd => rfl); (case hg => rfl); (case hr => first | (go_simp; done) | (go_simp; rfl)); intro gb379 hg w18 hbox hb; have n0_ := mk_ (aC (Short.hB HB) hb); have n1_ := mk_ (hbox); have n2_ := mk_ ((by rw [hg]; exact (aA (Short.hB HB)) : w.heap.size ≤ gb379)); have n3_ := mk_ ((by rw [hg]; exact (aA (Short.hB HB)) : w.heap.size ≤ gb379)); clear HB; revert n0_ n1_ n2_ n3_; intro HB BK379 GW379 GE379; clear hb hbox hg) | ((with_reducible refine aE (f := 91) rfl ?_); refine Short.gL (some 11) Tryz.func91 #[.slice A0 l0.length c0, .int .i64 a1, .int .i64 1] (h := ?_); (with_reducible refine (wire_Get.calls k _ _ l0 a1 1 t380 t381 t382 _ ?side1 ?side2 A3.out).mono ?_); (case side1 => exact cX_ (aU HR0.out HB.out)); (case side2 => exact HC0.out); rintro e w' ⟨rfl, ⟨nd, rfl⟩⟩; refine ⟨_, rfl, ?_⟩; (try (rw [fF w18]; generalize hq_ : World.drewN w18 _ = w18; have n0_ : Aside0 (w18.heap[gb379]? = some (.cells #[.int .i64 0, .int .i64 0, .string (⟨#[]⟩ : ByteArray)] 102 (0, 0))) := ⟨by rw [← hq_]; exact (Short.bK BK379)⟩; have n1_ : Aside0 (Below w.heap.size w w18) := ⟨by rw [← hq_]; exact (Short.hB HB)⟩; clear BK379 HB hq_; revert n0_ n1_; intro BK379 HB)); obtain ⟨hcz_0, hcz_1, hcz_2, hfz_0, hfz_1, hfz_2⟩ := Short.c3 BK379.out) | ((with_reducible refine aE (f := 91) rfl ?_); refine Short.gL (some 27) Tryz.func91 #[.slice A0 l0.length c0, .int .i64 t381, .int .i64 1] (h := ?_); (with_reducible refine (wire_Get.calls k _ _ l0 t381 1 t383 t384 t385 _ ?side1 ?side2 A6.out).mono ?_); (case side1 => exact aU HR0.out (Short.hB HB)); (case side2 => exact HC0.out); rintro e w' ⟨rfl, ⟨nd, rfl⟩⟩; refine ⟨_, rfl, ?_⟩))
   refine bodyPost_ret (dQ rfl _ _ gb379 102 #[.int .i64 0, .int .i64 0, .string (⟨#[]⟩ : ByteArray)] (0, 0) _ rfl (by (with_reducible repeat (first | refine aH ?_ _ | refine aI ?_ | refine aG ?_ _)); refine bA (cs := #[.int .i64 0, .int .i64 0, .string (⟨#[]⟩ : ByteArray)]) ?_ 2 _ rfl; (with_reducible repeat (first | refine aH ?_ _ | refine aI ?_ | refine aG ?_ _)); refine bA (cs := #[.int .i64 0, .int .i64 t383, .string (⟨#[]⟩ : ByteArray)]) ?_ 1 _ rfl; (with_reducible repeat (first | refine aH ?_ _ | refine aI ?_ | refine aG ?_ _)); refine bA (cs := #[.int .i64 t380, .int .i64 t383, .string (⟨#[]⟩ : ByteArray)]) ?_ 0 _ rfl; (with_reducible repeat (first | refine aH ?_ _ | refine aI ?_ | refine aG ?_ _)); refine bA (cs := #[.int .i64 t380, .int .i64 0, .string (⟨#[]⟩ : ByteArray)]) ?_ 1 _ rfl; (with_reducible repeat (first | refine aH ?_ _ | refine aI ?_ | refine aG ?_ _)); refine bA (cs := #[.int .i64 0, .int .i64 0, .string (⟨#[]⟩ : ByteArray)]) ?_ 0 _ rfl; (with_reducible repeat (first | refine aH ?_ _ | refine aI ?_ | refine aG ?_ _)); exact BK379.out) Tryz.underlying102 rfl z2_) rfl ?_
   exact ⟨q0, Short.hB HB⟩
  rw [if_pos c7] at H
  have c7b0 : (t385 == 0) = true := beq_iff_eq.mpr c7
  have c7b1 : (t385 != 0) = false := bne_eq_false_iff_eq.mpr c7
  clear c7
  obtain ⟨t386, A8, H⟩ := Option.bind_eq_some_iff.mp H
  replace A8 := mk_ A8
  by_cases c9 : t386 = 0
  rotate_left
  ·
   rw [if_neg c9] at H
   have c9b0 : (t386 == 0) = false := beq_eq_false_iff_ne.mpr c9
   have c9b1 : (t386 != 0) = true := bne_iff_ne.mpr c9
   simp only [Option.some.injEq, Prod.mk.injEq] at H
   obtain ⟨rfl, rfl, rfl, rfl, rfl⟩ := H
   go_enter Tryz.func93, Tryz.ntmps93
   go_wp2_with (first | ((with_reducible refine aQ (N := 4) rfl ?_); refine aN ?hg (N := 4) ?hd (cs := #[.int .i64 0, .int .i64 0, .string (⟨#[]⟩ : ByteArray)]) (t := 102) ?hr ?_; (case hd => rfl); (case hg => rfl); (case hr => first | (go_simp; done) | (go_simp; rfl)); intro gb379 hg w14 hbox hb; have n0_ := mk_ (aC (Short.hB HB) hb); have n1_ := mk_ (hbox); have n2_ := mk_ ((by rw [hg]; exact (aA (Short.hB HB)) : w.heap.size ≤ gb379)); have n3_ := mk_ ((by rw [hg]; exact (aA (Short.hB HB)) : w.heap.size ≤ gb379)); clear HB; revert n0_ n1_ n2_ n3_; intro HB BK379 GW379 GE379; clear hb hbox hg) | ((with_reducible refine aE (f := 91) rfl ?_); refine Short.gL (some 11) Tryz.func91 #[.slice A0 l0.length c0, .int .i64 a1, .int .i64 1] (h := ?_); (with_reducible refine (wire_Get.calls k _ _ l0 a1 1 t380 t381 t382 _ ?side1 ?side2 A3.out).mono ?_); (case side1 => exact cX_ (aU HR0.out HB.out)); (case side2 => exact HC0.out); rintro e w' ⟨rfl, ⟨nd, rfl⟩⟩; refine ⟨_, rfl, ?_⟩; (try (rw [fF w14]; generalize hq_ : World.drewN w14 _ = w14; have n0_ : Aside0 (w14.heap[gb379]? = some (.cells #[.int .i64 0, .int .i64 0, .string (⟨#[]⟩ : ByteArray)] 102 (0, 0))) := ⟨by rw [← hq_]; exact (Short.bK BK379)⟩; have n1_ : Aside0 (Below w.heap.size w w14) := ⟨by rw [← hq_]; exact (Short.hB HB)⟩; clear BK379 HB hq_; revert n0_ n1_; intro BK379 HB)); obtain ⟨hcz_0, hcz_1, hcz_2, hfz_0, hfz_1, hfz_2⟩ := Short.c3 BK379.out) | ((with_reducible refine aE (f := 91) rfl ?_); refine Short.gL (some 27) Tryz.func91 #[.slice A0 l0.length c0, .int .i64 t381, .int .i64 1] (h := ?_); (with_reducible refine (wire_Get.calls k _ _ l0 t381 1 t383 t384 t385 _ ?side1 ?side2 A6.out).mono ?_); (case side1 => exact aU HR0.out (Short.hB HB)); (case side2 => exact HC0.out); rintro e w' ⟨rfl, ⟨nd, rfl⟩⟩; refine ⟨_, rfl, ?_⟩) | (go_at_call 98; (with_reducible refine (bN.calls t380 t383 (⟨#[]⟩ : ByteArray) t386 _ A8.out).mono ?_); rintro e w16 ⟨rfl, hb⟩; have n0_ := mk_ (bE (g := gb379) (o := .cells #[.int .i64 t380, .int .i64 t383, .string (⟨#[]⟩ : ByteArray)] 102 (0, 0)) (by (with_reducible repeat (first | refine aH ?_ _ | refine aI ?_ | refine aG ?_ _)); refine bA (cs := #[.int .i64 t380, .int .i64 0, .string (⟨#[]⟩ : ByteArray)]) ?_ 1 _ rfl; (with_reducible repeat (first | refine aH ?_ _ | refine aI ?_ | refine aG ?_ _)); refine bA (cs := #[.int .i64 0, .int .i64 0, .string (⟨#[]⟩ : ByteArray)]) ?_ 0 _ rfl; (with_reducible repeat (first | refine aH ?_ _ | refine aI ?_ | refine aG ?_ _)); exact BK379.out) hb); have n1_ := mk_ (aC (Short.hB HB) hb); clear BK379 HB; revert n0_ n1_; intro BK379 HB; (try clear hb); (try clear hb2); (try clear hk); (try clear hi); obtain ⟨hcz_0, hcz_1, hcz_2, hfz_0, hfz_1, hfz_2⟩ := Short.c3 BK379.out))
   refine bodyPost_ret (dQ rfl _ _ gb379 102 #[.int .i64 0, .int .i64 0, .string (⟨#[]⟩ : ByteArray)] (0, 0) _ rfl (by (with_reducible repeat (first | refine aH ?_ _ | refine aI ?_ | refine aG ?_ _)); refine bA (cs := #[.int .i64 0, .int .i64 0, .string (⟨#[]⟩ : ByteArray)]) ?_ 2 _ rfl; (with_reducible repeat (first | refine aH ?_ _ | refine aI ?_ | refine aG ?_ _)); refine bA (cs := #[.int .i64 0, .int .i64 t383, .string (⟨#[]⟩ : ByteArray)]) ?_ 1 _ rfl; (with_reducible repeat (first | refine aH ?_ _ | refine aI ?_ | refine aG ?_ _)); refine bA (cs := #[.int .i64 t380, .int .i64 t383, .string (⟨#[]⟩ : ByteArray)]) ?_ 0 _ rfl; (with_reducible repeat (first | refine aH ?_ _ | refine aI ?_ | refine aG ?_ _)); exact BK379.out) Tryz.underlying102 rfl z2_) rfl ?_
   exact ⟨q0, Short.hB HB⟩
  rw [if_pos c9] at H
  have c9b0 : (t386 == 0) = true := beq_iff_eq.mpr c9
  have c9b1 : (t386 != 0) = false := bne_eq_false_iff_eq.mpr c9
  clear c9
  simp only [Option.some.injEq, Prod.mk.injEq] at H
  obtain ⟨rfl, rfl, rfl, rfl, rfl⟩ := H
  go_enter Tryz.func93, Tryz.ntmps93
  go_wp2_with (first | ((with_reducible refine aQ (N := 4) rfl ?_); refine aN ?hg (N := 4) ?hd (cs := #[.int .i64 0, .int .i64 0, .string (⟨#[]⟩ : ByteArray)]) (t := 102) ?hr ?_; (case hd => rfl); (case hg => rfl); (case hr => first | (go_simp; done) | (go_simp; rfl)); intro gb379 hg w10 hbox hb; have n0_ := mk_ (aC (Short.hB HB) hb); have n1_ := mk_ (hbox); have n2_ := mk_ ((by rw [hg]; exact (aA (Short.hB HB)) : w.heap.size ≤ gb379)); have n3_ := mk_ ((by rw [hg]; exact (aA (Short.hB HB)) : w.heap.size ≤ gb379)); clear HB; revert n0_ n1_ n2_ n3_; intro HB BK379 GW379 GE379; clear hb hbox hg) | ((with_reducible refine aE (f := 91) rfl ?_); refine Short.gL (some 11) Tryz.func91 #[.slice A0 l0.length c0, .int .i64 a1, .int .i64 1] (h := ?_); (with_reducible refine (wire_Get.calls k _ _ l0 a1 1 t380 t381 t382 _ ?side1 ?side2 A3.out).mono ?_); (case side1 => exact cX_ (aU HR0.out HB.out)); (case side2 => exact HC0.out); rintro e w' ⟨rfl, ⟨nd, rfl⟩⟩; refine ⟨_, rfl, ?_⟩; (try (rw [fF w10]; generalize hq_ : World.drewN w10 _ = w10; have n0_ : Aside0 (w10.heap[gb379]? = some (.cells #[.int .i64 0, .int .i64 0, .string (⟨#[]⟩ : ByteArray)] 102 (0, 0))) := ⟨by rw [← hq_]; exact (Short.bK BK379)⟩; have n1_ : Aside0 (Below w.heap.size w w10) := ⟨by rw [← hq_]; exact (Short.hB HB)⟩; clear BK379 HB hq_; revert n0_ n1_; intro BK379 HB)); obtain ⟨hcz_0, hcz_1, hcz_2, hfz_0, hfz_1, hfz_2⟩ := Short.c3 BK379.out) | ((with_reducible refine aE (f := 91) rfl ?_); refine Short.gL (some 27) Tryz.func91 #[.slice A0 l0.length c0, .int .i64 t381, .int .i64 1] (h := ?_); (with_reducible refine (wire_Get.calls k _ _ l0 t381 1 t383 t384 t385 _ ?side1 ?side2 A6.out).mono ?_); (case side1 => exact aU HR0.out (Short.hB HB)); (case side2 => exact HC0.out); rintro e w' ⟨rfl, ⟨nd, rfl⟩⟩; refine ⟨_, rfl, ?_⟩) | (go_at_call 98; (with_reducible refine (bN.calls t380 t383 (⟨#[]⟩ : ByteArray) t386 _ A8.out).mono ?_); rintro e w12 ⟨rfl, hb⟩; have n0_ := mk_ (bE (g := gb379) (o := .cells #[.int .i64 t380, .int .i64 t383, .string (⟨#[]⟩ : ByteArray)] 102 (0, 0)) (by (with_reducible repeat (first | refine aH ?_ _ | refine aI ?_ | refine aG ?_ _)); refine bA (cs := #[.int .i64 t380, .int .i64 0, .string (⟨#[]⟩ : ByteArray)]) ?_ 1 _ rfl; (with_reducible repeat (first | refine aH ?_ _ | refine aI ?_ | refine aG ?_ _)); refine bA (cs := #[.int .i64 0, .int .i64 0, .string (⟨#[]⟩ : ByteArray)]) ?_ 0 _ rfl; (with_reducible repeat (first | refine aH ?_ _ | refine aI ?_ | refine aG ?_ _)); exact BK379.out) hb); have n1_ := mk_ (aC (Short.hB HB) hb); clear BK379 HB; revert n0_ n1_; intro BK379 HB; (try clear hb); (try clear hb2); (try clear hk); (try clear hi); obtain ⟨hcz_0, hcz_1, hcz_2, hfz_0, hfz_1, hfz_2⟩ := Short.c3 BK379.out))
  refine bodyPost_ret (dQ rfl _ _ gb379 102 #[.int .i64 t380, .int .i64 t383, .string (⟨#[]⟩ : ByteArray)] (0, 0) _ rfl (by (with_reducible repeat (first | refine aH ?_ _ | refine aI ?_ | refine aG ?_ _)); refine bA (cs := #[.int .i64 t380, .int .i64 t383, .string (⟨#[]⟩ : ByteArray)]) ?_ 2 _ rfl; (with_reducible repeat (first | refine aH ?_ _ | refine aI ?_ | refine aG ?_ _)); refine bA (cs := #[.int .i64 t380, .int .i64 t383, .string (⟨#[]⟩ : ByteArray)]) ?_ 1 _ rfl; (with_reducible repeat (first | refine aH ?_ _ | refine aI ?_ | refine aG ?_ _)); refine bA (cs := #[.int .i64 t380, .int .i64 t383, .string (⟨#[]⟩ : ByteArray)]) ?_ 0 _ rfl; (with_reducible repeat (first | refine aH ?_ _ | refine aI ?_ | refine aG ?_ _)); exact BK379.out) Tryz.underlying102 rfl z2_) rfl ?_
  exact ⟨q0, Short.hB HB⟩
 rw [if_neg c5] at H
 have c5b0 : (t380 == 2) = false := beq_eq_false_iff_ne.mpr c5
 have c5b1 : (t380 != 2) = true := bne_iff_ne.mpr c5
 by_cases c20 : t380 = 3
 ·
  rw [if_pos c20] at H
  have c20b0 : (t380 == 3) = true := beq_iff_eq.mpr c20
  have c20b1 : (t380 != 3) = false := bne_eq_false_iff_eq.mpr c20
  clear c20
  obtain ⟨⟨t387, t388, t389⟩, A21, H⟩ := Option.bind_eq_some_iff.mp H
  try dsimp only at H
  replace A21 := mk_ A21
  by_cases c22 : t389 = 0
  rotate_left
  ·
   rw [if_neg c22] at H
   have c22b0 : (t389 == 0) = false := beq_eq_false_iff_ne.mpr c22
   have c22b1 : (t389 != 0) = true := bne_iff_ne.mpr c22
   simp only [Option.some.injEq, Prod.mk.injEq] at H
   obtain ⟨rfl, rfl, rfl, rfl, rfl⟩ := H
   go_enter Tryz.func93, Tryz.ntmps93
   go_wp2_with (first | ((with_reducible refine aQ (N := 4) rfl ?_); refine aN ?hg (N := 4) ?hd (cs := #[.int .i64 0, .int .i64 0, .string (⟨#[]⟩ : ByteArray)]) (t := 102) ?hr ?_; (case hd => rfl); (case hg => rfl); (case hr => first | (go_simp; done) | (go_simp; rfl)); intro gb379 hg w33 hbox hb; have n0_ := mk_ (aC (Short.hB HB) hb); have n1_ := mk_ (hbox); have n2_ := mk_ ((by rw [hg]; exact (aA (Short.hB HB)) : w.heap.size ≤ gb379)); have n3_ := mk_ ((by rw [hg]; exact (aA (Short.hB HB)) : w.heap.size ≤ gb379)); clear HB; revert n0_ n1_ n2_ n3_; intro HB BK379 GW379 GE379; clear hb hbox hg) | ((with_reducible refine aE (f := 91) rfl ?_); refine Short.gL (some 11) Tryz.func91 #[.slice A0 l0.length c0, .int .i64 a1, .int .i64 1] (h := ?_); (with_reducible refine (wire_Get.calls k _ _ l0 a1 1 t380 t381 t382 _ ?side1 ?side2 A3.out).mono ?_); (case side1 => exact cX_ (aU HR0.out HB.out)); (case side2 => exact HC0.out); rintro e w' ⟨rfl, ⟨nd, rfl⟩⟩; refine ⟨_, rfl, ?_⟩; (try (rw [fF w33]; generalize hq_ : World.drewN w33 _ = w33; have n0_ : Aside0 (w33.heap[gb379]? = some (.cells #[.int .i64 0, .int .i64 0, .string (⟨#[]⟩ : ByteArray)] 102 (0, 0))) := ⟨by rw [← hq_]; exact (Short.bK BK379)⟩; have n1_ : Aside0 (Below w.heap.size w w33) := ⟨by rw [← hq_]; exact (Short.hB HB)⟩; clear BK379 HB hq_; revert n0_ n1_; intro BK379 HB)); obtain ⟨hcz_0, hcz_1, hcz_2, hfz_0, hfz_1, hfz_2⟩ := Short.c3 BK379.out) | ((with_reducible refine aE (f := 109) rfl ?_); refine Short.gL (some 37) Tryz.func109 #[.slice A0 l0.length c0, .int .i64 t381] (h := ?_); (with_reducible refine (bQ.calls k _ _ l0 t381 t387 t388 t389 _ ?side1 ?side2 A21.out).mono ?_); (case side1 => exact aU HR0.out (Short.hB HB)); (case side2 => exact HC0.out); rintro e w' ⟨rfl, ⟨nd, rfl⟩⟩; refine ⟨_, rfl, ?_⟩))
   refine bodyPost_ret (dQ rfl _ _ gb379 102 #[.int .i64 0, .int .i64 0, .string (⟨#[]⟩ : ByteArray)] (0, 0) _ rfl (by (with_reducible repeat (first | refine aH ?_ _ | refine aI ?_ | refine aG ?_ _)); refine bA (cs := #[.int .i64 0, .int .i64 0, .string (⟨#[]⟩ : ByteArray)]) ?_ 2 _ rfl; (with_reducible repeat (first | refine aH ?_ _ | refine aI ?_ | refine aG ?_ _)); refine bA (cs := #[.int .i64 0, .int .i64 t387, .string (⟨#[]⟩ : ByteArray)]) ?_ 1 _ rfl; (with_reducible repeat (first | refine aH ?_ _ | refine aI ?_ | refine aG ?_ _)); refine bA (cs := #[.int .i64 t380, .int .i64 t387, .string (⟨#[]⟩ : ByteArray)]) ?_ 0 _ rfl; (with_reducible repeat (first | refine aH ?_ _ | refine aI ?_ | refine aG ?_ _)); refine bA (cs := #[.int .i64 t380, .int .i64 0, .string (⟨#[]⟩ : ByteArray)]) ?_ 1 _ rfl; (with_reducible repeat (first | refine aH ?_ _ | refine aI ?_ | refine aG ?_ _)); refine bA (cs := #[.int .i64 0, .int .i64 0, .string (⟨#[]⟩ : ByteArray)]) ?_ 0 _ rfl; (with_reducible repeat (first | refine aH ?_ _ | refine aI ?_ | refine aG ?_ _)); exact BK379.out) Tryz.underlying102 rfl z2_) rfl ?_
   exact ⟨q0, Short.hB HB⟩
  rw [if_pos c22] at H
  have c22b0 : (t389 == 0) = true := beq_iff_eq.mpr c22
  have c22b1 : (t389 != 0) = false := bne_eq_false_iff_eq.mpr c22
  clear c22
  obtain ⟨t390, A23, H⟩ := Option.bind_eq_some_iff.mp H
  replace A23 := mk_ A23
  by_cases c24 : t390 = 0
  rotate_left
  ·
   rw [if_neg c24] at H
   have c24b0 : (t390 == 0) = false := beq_eq_false_iff_ne.mpr c24
   have c24b1 : (t390 != 0) = true := bne_iff_ne.mpr c24
   simp only [Option.some.injEq, Prod.mk.injEq] at H
   obtain ⟨rfl, rfl, rfl, rfl, rfl⟩ := H
   go_enter Tryz.func93, Tryz.ntmps93
   go_wp2_with (first | ((with_reducible refine aQ (N := 4) rfl ?_); refine aN ?hg (N := 4) ?hd (cs := #[.int .i64 0, .int .i64 0, .string (⟨#[]⟩ : ByteArray)]) (t := 102) ?hr ?_; (case hd => rfl); (case hg => rfl); (case hr => first | (go_simp; done) | (go_simp; rfl)); intro gb379 hg w29 hbox hb; have n0_ := mk_ (aC (Short.hB HB) hb); have n1_ := mk_ (hbox); have n2_ := mk_ ((by rw [hg]; exact (aA (Short.hB HB)) : w.heap.size ≤ gb379)); have n3_ := mk_ ((by rw [hg]; exact (aA (Short.hB HB)) : w.heap.size ≤ gb379)); clear HB; revert n0_ n1_ n2_ n3_; intro HB BK379 GW379 GE379; clear hb hbox hg) | ((with_reducible refine aE (f := 91) rfl ?_); refine Short.gL (some 11) Tryz.func91 #[.slice A0 l0.length c0, .int .i64 a1, .int .i64 1] (h := ?_); (with_reducible refine (wire_Get.calls k _ _ l0 a1 1 t380 t381 t382 _ ?side1 ?side2 A3.out).mono ?_); (case side1 => exact cX_ (aU HR0.out HB.out)); (case side2 => exact HC0.out); rintro e w' ⟨rfl, ⟨nd, rfl⟩⟩; refine ⟨_, rfl, ?_⟩; (try (rw [fF w29]; generalize hq_ : World.drewN w29 _ = w29; have n0_ : Aside0 (w29.heap[gb379]? = some (.cells #[.int .i64 0, .int .i64 0, .string (⟨#[]⟩ : ByteArray)] 102 (0, 0))) := ⟨by rw [← hq_]; exact (Short.bK BK379)⟩; have n1_ : Aside0 (Below w.heap.size w w29) := ⟨by rw [← hq_]; exact (Short.hB HB)⟩; clear BK379 HB hq_; revert n0_ n1_; intro BK379 HB)); obtain ⟨hcz_0, hcz_1, hcz_2, hfz_0, hfz_1, hfz_2⟩ := Short.c3 BK379.out) | ((with_reducible refine aE (f := 109) rfl ?_); refine Short.gL (some 37) Tryz.func109 #[.slice A0 l0.length c0, .int .i64 t381] (h := ?_); (with_reducible refine (bQ.calls k _ _ l0 t381 t387 t388 t389 _ ?side1 ?side2 A21.out).mono ?_); (case side1 => exact aU HR0.out (Short.hB HB)); (case side2 => exact HC0.out); rintro e w' ⟨rfl, ⟨nd, rfl⟩⟩; refine ⟨_, rfl, ?_⟩) | (go_at_call 98; (with_reducible refine (bN.calls t380 t387 (⟨#[]⟩ : ByteArray) t390 _ A23.out).mono ?_); rintro e w31 ⟨rfl, hb⟩; have n0_ := mk_ (bE (g := gb379) (o := .cells #[.int .i64 t380, .int .i64 t387, .string (⟨#[]⟩ : ByteArray)] 102 (0, 0)) (by (with_reducible repeat (first | refine aH ?_ _ | refine aI ?_ | refine aG ?_ _)); refine bA (cs := #[.int .i64 t380, .int .i64 0, .string (⟨#[]⟩ : ByteArray)]) ?_ 1 _ rfl; (with_reducible repeat (first | refine aH ?_ _ | refine aI ?_ | refine aG ?_ _)); refine bA (cs := #[.int .i64 0, .int .i64 0, .string (⟨#[]⟩ : ByteArray)]) ?_ 0 _ rfl; (with_reducible repeat (first | refine aH ?_ _ | refine aI ?_ | refine aG ?_ _)); exact BK379.out) hb); have n1_ := mk_ (aC (Short.hB HB) hb); clear BK379 HB; revert n0_ n1_; intro BK379 HB; (try clear hb); (try clear hb2); (try clear hk); (try clear hi); obtain ⟨hcz_0, hcz_1, hcz_2, hfz_0, hfz_1, hfz_2⟩ := Short.c3 BK379.out))
   refine bodyPost_ret (dQ rfl _ _ gb379 102 #[.int .i64 0, .int .i64 0, .string (⟨#[]⟩ : ByteArray)] (0, 0) _ rfl (by (with_reducible repeat (first | refine aH ?_ _ | refine aI ?_ | refine aG ?_ _)); refine bA (cs := #[.int .i64 0, .int .i64 0, .string (⟨#[]⟩ : ByteArray)]) ?_ 2 _ rfl; (with_reducible repeat (first | refine aH ?_ _ | refine aI ?_ | refine aG ?_ _)); refine bA (cs := #[.int .i64 0, .int .i64 t387, .string (⟨#[]⟩ : ByteArray)]) ?_ 1 _ rfl; (with_reducible repeat (first | refine aH ?_ _ | refine aI ?_ | refine aG ?_ _)); refine bA (cs := #[.int .i64 t380, .int .i64 t387, .string (⟨#[]⟩ : ByteArray)]) ?_ 0 _ rfl; (with_reducible repeat (first | refine aH ?_ _ | refine aI ?_ | refine aG ?_ _)); exact BK379.out) Tryz.underlying102 rfl z2_) rfl ?_
   exact ⟨q0, Short.hB HB⟩
  rw [if_pos c24] at H
  have c24b0 : (t390 == 0) = true := beq_iff_eq.mpr c24
  have c24b1 : (t390 != 0) = false := bne_eq_false_iff_eq.mpr c24
  clear c24
  simp only [Option.some.injEq, Prod.mk.injEq] at H
  obtain ⟨rfl, rfl, rfl, rfl, rfl⟩ := H
  go_enter Tryz.func93, Tryz.ntmps93
  go_wp2_with (first | ((with_reducible refine aQ (N := 4) rfl ?_); refine aN ?hg (N := 4) ?hd (cs := #[.int .i64 0, .int .i64 0, .string (⟨#[]⟩ : ByteArray)]) (t := 102) ?hr ?_; (case hd => rfl); (case hg => rfl); (case hr => first | (go_simp; done) | (go_simp; rfl)); intro gb379 hg w25 hbox hb; have n0_ := mk_ (aC (Short.hB HB) hb); have n1_ := mk_ (hbox); have n2_ := mk_ ((by rw [hg]; exact (aA (Short.hB HB)) : w.heap.size ≤ gb379)); have n3_ := mk_ ((by rw [hg]; exact (aA (Short.hB HB)) : w.heap.size ≤ gb379)); clear HB; revert n0_ n1_ n2_ n3_; intro HB BK379 GW379 GE379; clear hb hbox hg) | ((with_reducible refine aE (f := 91) rfl ?_); refine Short.gL (some 11) Tryz.func91 #[.slice A0 l0.length c0, .int .i64 a1, .int .i64 1] (h := ?_); (with_reducible refine (wire_Get.calls k _ _ l0 a1 1 t380 t381 t382 _ ?side1 ?side2 A3.out).mono ?_); (case side1 => exact cX_ (aU HR0.out HB.out)); (case side2 => exact HC0.out); rintro e w' ⟨rfl, ⟨nd, rfl⟩⟩; refine ⟨_, rfl, ?_⟩; (try (rw [fF w25]; generalize hq_ : World.drewN w25 _ = w25; have n0_ : Aside0 (w25.heap[gb379]? = some (.cells #[.int .i64 0, .int .i64 0, .string (⟨#[]⟩ : ByteArray)] 102 (0, 0))) := ⟨by rw [← hq_]; exact (Short.bK BK379)⟩; have n1_ : Aside0 (Below w.heap.size w w25) := ⟨by rw [← hq_]; exact (Short.hB HB)⟩; clear BK379 HB hq_; revert n0_ n1_; intro BK379 HB)); obtain ⟨hcz_0, hcz_1, hcz_2, hfz_0, hfz_1, hfz_2⟩ := Short.c3 BK379.out) | ((with_reducible refine aE (f := 109) rfl ?_); refine Short.gL (some 37) Tryz.func109 #[.slice A0 l0.length c0, .int .i64 t381] (h := ?_); (with_reducible refine (bQ.calls k _ _ l0 t381 t387 t388 t389 _ ?side1 ?side2 A21.out).mono ?_); (case side1 => exact aU HR0.out (Short.hB HB)); (case side2 => exact HC0.out); rintro e w' ⟨rfl, ⟨nd, rfl⟩⟩; refine ⟨_, rfl, ?_⟩) | (go_at_call 98; (with_reducible refine (bN.calls t380 t387 (⟨#[]⟩ : ByteArray) t390 _ A23.out).mono ?_); rintro e w27 ⟨rfl, hb⟩; have n0_ := mk_ (bE (g := gb379) (o := .cells #[.int .i64 t380, .int .i64 t387, .string (⟨#[]⟩ : ByteArray)] 102 (0, 0)) (by (with_reducible repeat (first | refine aH ?_ _ | refine aI ?_ | refine aG ?_ _)); refine bA (cs := #[.int .i64 t380, .int .i64 0, .string (⟨#[]⟩ : ByteArray)]) ?_ 1 _ rfl; (with_reducible repeat (first | refine aH ?_ _ | refine aI ?_ | refine aG ?_ _)); refine bA (cs := #[.int .i64 0, .int .i64 0, .string (⟨#[]⟩ : ByteArray)]) ?_ 0 _ rfl; (with_reducible repeat (first | refine aH ?_ _ | refine aI ?_ | refine aG ?_ _)); exact BK379.out) hb); have n1_ := mk_ (aC (Short.hB HB) hb); clear BK379 HB; revert n0_ n1_; intro BK379 HB; (try clear hb); (try clear hb2); (try clear hk); (try clear hi); obtain ⟨hcz_0, hcz_1, hcz_2, hfz_0, hfz_1, hfz_2⟩ := Short.c3 BK379.out))
  refine bodyPost_ret (dQ rfl _ _ gb379 102 #[.int .i64 t380, .int .i64 t387, .string (⟨#[]⟩ : ByteArray)] (0, 0) _ rfl (by (with_reducible repeat (first | refine aH ?_ _ | refine aI ?_ | refine aG ?_ _)); refine bA (cs := #[.int .i64 t380, .int .i64 t387, .string (⟨#[]⟩ : ByteArray)]) ?_ 2 _ rfl; (with_reducible repeat (first | refine aH ?_ _ | refine aI ?_ | refine aG ?_ _)); refine bA (cs := #[.int .i64 t380, .int .i64 t387, .string (⟨#[]⟩ : ByteArray)]) ?_ 1 _ rfl; (with_reducible repeat (first | refine aH ?_ _ | refine aI ?_ | refine aG ?_ _)); refine bA (cs := #[.int .i64 t380, .int .i64 t387, .string (⟨#[]⟩ : ByteArray)]) ?_ 0 _ rfl; (with_reducible repeat (first | refine aH ?_ _ | refine aI ?_ | refine aG ?_ _)); exact BK379.out) Tryz.underlying102 rfl z2_) rfl ?_
  exact ⟨q0, Short.hB HB⟩
 rw [if_neg c20] at H
 have c20b0 : (t380 == 3) = false := beq_eq_false_iff_ne.mpr c20
 have c20b1 : (t380 != 3) = true := bne_iff_ne.mpr c20
 by_cases c35 : t380 = 4
 rotate_left
 ·
  rw [if_neg c35] at H
  have c35b0 : (t380 == 4) = false := beq_eq_false_iff_ne.mpr c35
  have c35b1 : (t380 != 4) = true := bne_iff_ne.mpr c35
  obtain ⟨t395, A50, H⟩ := Option.bind_eq_some_iff.mp H
  replace A50 := mk_ A50
  by_cases c51 : t395 = 0
  rotate_left
  ·
   rw [if_neg c51] at H
   have c51b0 : (t395 == 0) = false := beq_eq_false_iff_ne.mpr c51
   have c51b1 : (t395 != 0) = true := bne_iff_ne.mpr c51
   simp only [Option.some.injEq, Prod.mk.injEq] at H
   obtain ⟨rfl, rfl, rfl, rfl, rfl⟩ := H
   go_enter Tryz.func93, Tryz.ntmps93
   go_wp2_with (first | ((with_reducible refine aQ (N := 4) rfl ?_); refine aN ?hg (N := 4) ?hd (cs := #[.int .i64 0, .int .i64 0, .string (⟨#[]⟩ : ByteArray)]) (t := 102) ?hr ?_; (case hd => rfl); (case hg => rfl); (case hr => first | (go_simp; done) | (go_simp; rfl)); intro gb379 hg w56 hbox hb; have n0_ := mk_ (aC (Short.hB HB) hb); have n1_ := mk_ (hbox); have n2_ := mk_ ((by rw [hg]; exact (aA (Short.hB HB)) : w.heap.size ≤ gb379)); have n3_ := mk_ ((by rw [hg]; exact (aA (Short.hB HB)) : w.heap.size ≤ gb379)); clear HB; revert n0_ n1_ n2_ n3_; intro HB BK379 GW379 GE379; clear hb hbox hg) | ((with_reducible refine aE (f := 91) rfl ?_); refine Short.gL (some 11) Tryz.func91 #[.slice A0 l0.length c0, .int .i64 a1, .int .i64 1] (h := ?_); (with_reducible refine (wire_Get.calls k _ _ l0 a1 1 t380 t381 t382 _ ?side1 ?side2 A3.out).mono ?_); (case side1 => exact cX_ (aU HR0.out HB.out)); (case side2 => exact HC0.out); rintro e w' ⟨rfl, ⟨nd, rfl⟩⟩; refine ⟨_, rfl, ?_⟩; (try (rw [fF w56]; generalize hq_ : World.drewN w56 _ = w56; have n0_ : Aside0 (w56.heap[gb379]? = some (.cells #[.int .i64 0, .int .i64 0, .string (⟨#[]⟩ : ByteArray)] 102 (0, 0))) := ⟨by rw [← hq_]; exact (Short.bK BK379)⟩; have n1_ : Aside0 (Below w.heap.size w w56) := ⟨by rw [← hq_]; exact (Short.hB HB)⟩; clear BK379 HB hq_; revert n0_ n1_; intro BK379 HB)); obtain ⟨hcz_0, hcz_1, hcz_2, hfz_0, hfz_1, hfz_2⟩ := Short.c3 BK379.out) | (go_at_call 98; (with_reducible refine (bN.calls t380 0 (⟨#[]⟩ : ByteArray) t395 _ A50.out).mono ?_); rintro e w58 ⟨rfl, hb⟩; have n0_ := mk_ (bE (g := gb379) (o := .cells #[.int .i64 t380, .int .i64 0, .string (⟨#[]⟩ : ByteArray)] 102 (0, 0)) (by (with_reducible repeat (first | refine aH ?_ _ | refine aI ?_ | refine aG ?_ _)); refine bA (cs := #[.int .i64 0, .int .i64 0, .string (⟨#[]⟩ : ByteArray)]) ?_ 0 _ rfl; (with_reducible repeat (first | refine aH ?_ _ | refine aI ?_ | refine aG ?_ _)); exact BK379.out) hb); have n1_ := mk_ (aC (Short.hB HB) hb); clear BK379 HB; revert n0_ n1_; intro BK379 HB; (try clear hb); (try clear hb2); (try clear hk); (try clear hi); obtain ⟨hcz_0, hcz_1, hcz_2, hfz_0, hfz_1, hfz_2⟩ := Short.c3 BK379.out))
   refine bodyPost_ret (dQ rfl _ _ gb379 102 #[.int .i64 0, .int .i64 0, .string (⟨#[]⟩ : ByteArray)] (0, 0) _ rfl (by (with_reducible repeat (first | refine aH ?_ _ | refine aI ?_ | refine aG ?_ _)); refine bA (cs := #[.int .i64 0, .int .i64 0, .string (⟨#[]⟩ : ByteArray)]) ?_ 2 _ rfl; (with_reducible repeat (first | refine aH ?_ _ | refine aI ?_ | refine aG ?_ _)); refine bA (cs := #[.int .i64 0, .int .i64 0, .string (⟨#[]⟩ : ByteArray)]) ?_ 1 _ rfl; (with_reducible repeat (first | refine aH ?_ _ | refine aI ?_ | refine aG ?_ _)); refine bA (cs := #[.int .i64 t380, .int .i64 0, .string (⟨#[]⟩ : ByteArray)]) ?_ 0 _ rfl; (with_reducible repeat (first | refine aH ?_ _ | refine aI ?_ | refine aG ?_ _)); exact BK379.out) Tryz.underlying102 rfl z2_) rfl ?_
   exact ⟨q0, Short.hB HB⟩
  rw [if_pos c51] at H
  have c51b0 : (t395 == 0) = true := beq_iff_eq.mpr c51
  have c51b1 : (t395 != 0) = false := bne_eq_false_iff_eq.mpr c51
  clear c51
  simp only [Option.some.injEq, Prod.mk.injEq] at H
  obtain ⟨rfl, rfl, rfl, rfl, rfl⟩ := H
  go_enter Tryz.func93, Tryz.ntmps93
  go_wp2_with (first | ((with_reducible refine aQ (N := 4) rfl ?_); refine aN ?hg (N := 4) ?hd (cs := #[.int .i64 0, .int .i64 0, .string (⟨#[]⟩ : ByteArray)]) (t := 102) ?hr ?_; (case hd => rfl); (case hg => rfl); (case hr => first | (go_simp; done) | (go_simp; rfl)); intro gb379 hg w52 hbox hb; have n0_ := mk_ (aC (Short.hB HB) hb); have n1_ := mk_ (hbox); have n2_ := mk_ ((by rw [hg]; exact (aA (Short.hB HB)) : w.heap.size ≤ gb379)); have n3_ := mk_ ((by rw [hg]; exact (aA (Short.hB HB)) : w.heap.size ≤ gb379)); clear HB; revert n0_ n1_ n2_ n3_; intro HB BK379 GW379 GE379; clear hb hbox hg) | ((with_reducible refine aE (f := 91) rfl ?_); refine Short.gL (some 11) Tryz.func91 #[.slice A0 l0.length c0, .int .i64 a1, .int .i64 1] (h := ?_); (with_reducible refine (wire_Get.calls k _ _ l0 a1 1 t380 t381 t382 _ ?side1 ?side2 A3.out).mono ?_); (case side1 => exact cX_ (aU HR0.out HB.out)); (case side2 => exact HC0.out); rintro e w' ⟨rfl, ⟨nd, rfl⟩⟩; refine ⟨_, rfl, ?_⟩; (try (rw [fF w52]; generalize hq_ : World.drewN w52 _ = w52; have n0_ : Aside0 (w52.heap[gb379]? = some (.cells #[.int .i64 0, .int .i64 0, .string (⟨#[]⟩ : ByteArray)] 102 (0, 0))) := ⟨by rw [← hq_]; exact (Short.bK BK379)⟩; have n1_ : Aside0 (Below w.heap.size w w52) := ⟨by rw [← hq_]; exact (Short.hB HB)⟩; clear BK379 HB hq_; revert n0_ n1_; intro BK379 HB)); obtain ⟨hcz_0, hcz_1, hcz_2, hfz_0, hfz_1, hfz_2⟩ := Short.c3 BK379.out) | (go_at_call 98; (with_reducible refine (bN.calls t380 0 (⟨#[]⟩ : ByteArray) t395 _ A50.out).mono ?_); rintro e w54 ⟨rfl, hb⟩; have n0_ := mk_ (bE (g := gb379) (o := .cells #[.int .i64 t380, .int .i64 0, .string (⟨#[]⟩ : ByteArray)] 102 (0, 0)) (by (with_reducible repeat (first | refine aH ?_ _ | refine aI ?_ | refine aG ?_ _)); refine bA (cs := #[.int .i64 0, .int .i64 0, .string (⟨#[]⟩ : ByteArray)]) ?_ 0 _ rfl; (with_reducible repeat (first | refine aH ?_ _ | refine aI ?_ | refine aG ?_ _)); exact BK379.out) hb); have n1_ := mk_ (aC (Short.hB HB) hb); clear BK379 HB; revert n0_ n1_; intro BK379 HB; (try clear hb); (try clear hb2); (try clear hk); (try clear hi); obtain ⟨hcz_0, hcz_1, hcz_2, hfz_0, hfz_1, hfz_2⟩ := Short.c3 BK379.out))
  refine bodyPost_ret (dQ rfl _ _ gb379 102 #[.int .i64 t380, .int .i64 0, .string (⟨#[]⟩ : ByteArray)] (0, 0) _ rfl (by (with_reducible repeat (first | refine aH ?_ _ | refine aI ?_ | refine aG ?_ _)); refine bA (cs := #[.int .i64 t380, .int .i64 0, .string (⟨#[]⟩ : ByteArray)]) ?_ 2 _ rfl; (with_reducible repeat (first | refine aH ?_ _ | refine aI ?_ | refine aG ?_ _)); refine bA (cs := #[.int .i64 t380, .int .i64 0, .string (⟨#[]⟩ : ByteArray)]) ?_ 1 _ rfl; (with_reducible repeat (first | refine aH ?_ _ | refine aI ?_ | refine aG ?_ _)); refine bA (cs := #[.int .i64 t380, .int .i64 0, .string (⟨#[]⟩ : ByteArray)]) ?_ 0 _ rfl; (with_reducible repeat (first | refine aH ?_ _ | refine aI ?_ | refine aG ?_ _)); exact BK379.out) Tryz.underlying102 rfl z2_) rfl ?_
  exact ⟨q0, Short.hB HB⟩
 rw [if_pos c35] at H
 have c35b0 : (t380 == 4) = true := beq_iff_eq.mpr c35
 have c35b1 : (t380 != 4) = false := bne_eq_false_iff_eq.mpr c35
 clear c35
 obtain ⟨⟨t391, t392, t393⟩, A36, H⟩ := Option.bind_eq_some_iff.mp H
 try dsimp only at H
 replace A36 := mk_ A36
 by_cases c37 : t393 = 0
 rotate_left
 ·
  rw [if_neg c37] at H
  have c37b0 : (t393 == 0) = false := beq_eq_false_iff_ne.mpr c37
  have c37b1 : (t393 != 0) = true := bne_iff_ne.mpr c37
  simp only [Option.some.injEq, Prod.mk.injEq] at H
  obtain ⟨rfl, rfl, rfl, rfl, rfl⟩ := H
  go_enter Tryz.func93, Tryz.ntmps93
  go_wp2_with (first | ((with_reducible refine aQ (N := 4) rfl ?_); refine aN ?hg (N := 4) ?hd (cs := #[.int .i64 0, .int .i64 0, .string (⟨#[]⟩ : ByteArray)]) (t := 102) ?hr ?_; (case hd => rfl); (case hg => rfl); (case hr => first | (go_simp; done) | (go_simp; rfl)); intro gb379 hg w48 hbox hb; have n0_ := mk_ (aC (Short.hB HB) hb); have n1_ := mk_ (hbox); have n2_ := mk_ ((by rw [hg]; exact (aA (Short.hB HB)) : w.heap.size ≤ gb379)); have n3_ := mk_ ((by rw [hg]; exact (aA (Short.hB HB)) : w.heap.size ≤ gb379)); clear HB; revert n0_ n1_ n2_ n3_; intro HB BK379 GW379 GE379; clear hb hbox hg) | ((with_reducible refine aE (f := 91) rfl ?_); refine Short.gL (some 11) Tryz.func91 #[.slice A0 l0.length c0, .int .i64 a1, .int .i64 1] (h := ?_); (with_reducible refine (wire_Get.calls k _ _ l0 a1 1 t380 t381 t382 _ ?side1 ?side2 A3.out).mono ?_); (case side1 => exact cX_ (aU HR0.out HB.out)); (case side2 => exact HC0.out); rintro e w' ⟨rfl, ⟨nd, rfl⟩⟩; refine ⟨_, rfl, ?_⟩; (try (rw [fF w48]; generalize hq_ : World.drewN w48 _ = w48; have n0_ : Aside0 (w48.heap[gb379]? = some (.cells #[.int .i64 0, .int .i64 0, .string (⟨#[]⟩ : ByteArray)] 102 (0, 0))) := ⟨by rw [← hq_]; exact (Short.bK BK379)⟩; have n1_ : Aside0 (Below w.heap.size w w48) := ⟨by rw [← hq_]; exact (Short.hB HB)⟩; clear BK379 HB hq_; revert n0_ n1_; intro BK379 HB)); obtain ⟨hcz_0, hcz_1, hcz_2, hfz_0, hfz_1, hfz_2⟩ := Short.c3 BK379.out) | ((with_reducible refine aE (f := 92) rfl ?_); refine Short.gL (some 47) Tryz.func92 #[.slice A0 l0.length c0, .int .i64 t381] (h := ?_); (with_reducible refine (wire_GetText.calls k _ _ l0 t381 t391 t392 t393 _ ?side1 ?side2 A36.out).mono ?_); (case side1 => exact aU HR0.out (Short.hB HB)); (case side2 => exact HC0.out); rintro e w' ⟨rfl, ⟨nd, rfl⟩⟩; refine ⟨_, rfl, ?_⟩))
  refine bodyPost_ret (dQ rfl _ _ gb379 102 #[.int .i64 0, .int .i64 0, .string (⟨#[]⟩ : ByteArray)] (0, 0) _ rfl (by (with_reducible repeat (first | refine aH ?_ _ | refine aI ?_ | refine aG ?_ _)); refine bA (cs := #[.int .i64 0, .int .i64 0, .string t391]) ?_ 2 _ rfl; (with_reducible repeat (first | refine aH ?_ _ | refine aI ?_ | refine aG ?_ _)); refine bA (cs := #[.int .i64 0, .int .i64 0, .string t391]) ?_ 1 _ rfl; (with_reducible repeat (first | refine aH ?_ _ | refine aI ?_ | refine aG ?_ _)); refine bA (cs := #[.int .i64 t380, .int .i64 0, .string t391]) ?_ 0 _ rfl; (with_reducible repeat (first | refine aH ?_ _ | refine aI ?_ | refine aG ?_ _)); refine bA (cs := #[.int .i64 t380, .int .i64 0, .string (⟨#[]⟩ : ByteArray)]) ?_ 2 _ rfl; (with_reducible repeat (first | refine aH ?_ _ | refine aI ?_ | refine aG ?_ _)); refine bA (cs := #[.int .i64 0, .int .i64 0, .string (⟨#[]⟩ : ByteArray)]) ?_ 0 _ rfl; (with_reducible repeat (first | refine aH ?_ _ | refine aI ?_ | refine aG ?_ _)); exact BK379.out) Tryz.underlying102 rfl z2_) rfl ?_
  exact ⟨q0, Short.hB HB⟩
 rw [if_pos c37] at H
 have c37b0 : (t393 == 0) = true := beq_iff_eq.mpr c37
 have c37b1 : (t393 != 0) = false := bne_eq_false_iff_eq.mpr c37
 clear c37
 obtain ⟨t394, A38, H⟩ := Option.bind_eq_some_iff.mp H
 replace A38 := mk_ A38
 by_cases c39 : t394 = 0
 rotate_left
 ·
  rw [if_neg c39] at H
  have c39b0 : (t394 == 0) = false := beq_eq_false_iff_ne.mpr c39
  have c39b1 : (t394 != 0) = true := bne_iff_ne.mpr c39
  simp only [Option.some.injEq, Prod.mk.injEq] at H
  obtain ⟨rfl, rfl, rfl, rfl, rfl⟩ := H
  go_enter Tryz.func93, Tryz.ntmps93
  go_wp2_with (first | ((with_reducible refine aQ (N := 4) rfl ?_); refine aN ?hg (N := 4) ?hd (cs := #[.int .i64 0, .int .i64 0, .string (⟨#[]⟩ : ByteArray)]) (t := 102) ?hr ?_; (case hd => rfl); (case hg => rfl); (case hr => first | (go_simp; done) | (go_simp; rfl)); intro gb379 hg w44 hbox hb; have n0_ := mk_ (aC (Short.hB HB) hb); have n1_ := mk_ (hbox); have n2_ := mk_ ((by rw [hg]; exact (aA (Short.hB HB)) : w.heap.size ≤ gb379)); have n3_ := mk_ ((by rw [hg]; exact (aA (Short.hB HB)) : w.heap.size ≤ gb379)); clear HB; revert n0_ n1_ n2_ n3_; intro HB BK379 GW379 GE379; clear hb hbox hg) | ((with_reducible refine aE (f := 91) rfl ?_); refine Short.gL (some 11) Tryz.func91 #[.slice A0 l0.length c0, .int .i64 a1, .int .i64 1] (h := ?_); (with_reducible refine (wire_Get.calls k _ _ l0 a1 1 t380 t381 t382 _ ?side1 ?side2 A3.out).mono ?_); (case side1 => exact cX_ (aU HR0.out HB.out)); (case side2 => exact HC0.out); rintro e w' ⟨rfl, ⟨nd, rfl⟩⟩; refine ⟨_, rfl, ?_⟩; (try (rw [fF w44]; generalize hq_ : World.drewN w44 _ = w44; have n0_ : Aside0 (w44.heap[gb379]? = some (.cells #[.int .i64 0, .int .i64 0, .string (⟨#[]⟩ : ByteArray)] 102 (0, 0))) := ⟨by rw [← hq_]; exact (Short.bK BK379)⟩; have n1_ : Aside0 (Below w.heap.size w w44) := ⟨by rw [← hq_]; exact (Short.hB HB)⟩; clear BK379 HB hq_; revert n0_ n1_; intro BK379 HB)); obtain ⟨hcz_0, hcz_1, hcz_2, hfz_0, hfz_1, hfz_2⟩ := Short.c3 BK379.out) | ((with_reducible refine aE (f := 92) rfl ?_); refine Short.gL (some 47) Tryz.func92 #[.slice A0 l0.length c0, .int .i64 t381] (h := ?_); (with_reducible refine (wire_GetText.calls k _ _ l0 t381 t391 t392 t393 _ ?side1 ?side2 A36.out).mono ?_); (case side1 => exact aU HR0.out (Short.hB HB)); (case side2 => exact HC0.out); rintro e w' ⟨rfl, ⟨nd, rfl⟩⟩; refine ⟨_, rfl, ?_⟩) | (go_at_call 98; (with_reducible refine (bN.calls t380 0 t391 t394 _ A38.out).mono ?_); rintro e w46 ⟨rfl, hb⟩; have n0_ := mk_ (bE (g := gb379) (o := .cells #[.int .i64 t380, .int .i64 0, .string t391] 102 (0, 0)) (by (with_reducible repeat (first | refine aH ?_ _ | refine aI ?_ | refine aG ?_ _)); refine bA (cs := #[.int .i64 t380, .int .i64 0, .string (⟨#[]⟩ : ByteArray)]) ?_ 2 _ rfl; (with_reducible repeat (first | refine aH ?_ _ | refine aI ?_ | refine aG ?_ _)); refine bA (cs := #[.int .i64 0, .int .i64 0, .string (⟨#[]⟩ : ByteArray)]) ?_ 0 _ rfl; (with_reducible repeat (first | refine aH ?_ _ | refine aI ?_ | refine aG ?_ _)); exact BK379.out) hb); have n1_ := mk_ (aC (Short.hB HB) hb); clear BK379 HB; revert n0_ n1_; intro BK379 HB; (try clear hb); (try clear hb2); (try clear hk); (try clear hi); obtain ⟨hcz_0, hcz_1, hcz_2, hfz_0, hfz_1, hfz_2⟩ := Short.c3 BK379.out))
  refine bodyPost_ret (dQ rfl _ _ gb379 102 #[.int .i64 0, .int .i64 0, .string (⟨#[]⟩ : ByteArray)] (0, 0) _ rfl (by (with_reducible repeat (first | refine aH ?_ _ | refine aI ?_ | refine aG ?_ _)); refine bA (cs := #[.int .i64 0, .int .i64 0, .string t391]) ?_ 2 _ rfl; (with_reducible repeat (first | refine aH ?_ _ | refine aI ?_ | refine aG ?_ _)); refine bA (cs := #[.int .i64 0, .int .i64 0, .string t391]) ?_ 1 _ rfl; (with_reducible repeat (first | refine aH ?_ _ | refine aI ?_ | refine aG ?_ _)); refine bA (cs := #[.int .i64 t380, .int .i64 0, .string t391]) ?_ 0 _ rfl; (with_reducible repeat (first | refine aH ?_ _ | refine aI ?_ | refine aG ?_ _)); exact BK379.out) Tryz.underlying102 rfl z2_) rfl ?_
  exact ⟨q0, Short.hB HB⟩
 rw [if_pos c39] at H
 have c39b0 : (t394 == 0) = true := beq_iff_eq.mpr c39
 have c39b1 : (t394 != 0) = false := bne_eq_false_iff_eq.mpr c39
 clear c39
 simp only [Option.some.injEq, Prod.mk.injEq] at H
 obtain ⟨rfl, rfl, rfl, rfl, rfl⟩ := H
 go_enter Tryz.func93, Tryz.ntmps93
 go_wp2_with (first | ((with_reducible refine aQ (N := 4) rfl ?_); refine aN ?hg (N := 4) ?hd (cs := #[.int .i64 0, .int .i64 0, .string (⟨#[]⟩ : ByteArray)]) (t := 102) ?hr ?_; (case hd => rfl); (case hg => rfl); (case hr => first | (go_simp; done) | (go_simp; rfl)); intro gb379 hg w40 hbox hb; have n0_ := mk_ (aC (Short.hB HB) hb); have n1_ := mk_ (hbox); have n2_ := mk_ ((by rw [hg]; exact (aA (Short.hB HB)) : w.heap.size ≤ gb379)); have n3_ := mk_ ((by rw [hg]; exact (aA (Short.hB HB)) : w.heap.size ≤ gb379)); clear HB; revert n0_ n1_ n2_ n3_; intro HB BK379 GW379 GE379; clear hb hbox hg) | ((with_reducible refine aE (f := 91) rfl ?_); refine Short.gL (some 11) Tryz.func91 #[.slice A0 l0.length c0, .int .i64 a1, .int .i64 1] (h := ?_); (with_reducible refine (wire_Get.calls k _ _ l0 a1 1 t380 t381 t382 _ ?side1 ?side2 A3.out).mono ?_); (case side1 => exact cX_ (aU HR0.out HB.out)); (case side2 => exact HC0.out); rintro e w' ⟨rfl, ⟨nd, rfl⟩⟩; refine ⟨_, rfl, ?_⟩; (try (rw [fF w40]; generalize hq_ : World.drewN w40 _ = w40; have n0_ : Aside0 (w40.heap[gb379]? = some (.cells #[.int .i64 0, .int .i64 0, .string (⟨#[]⟩ : ByteArray)] 102 (0, 0))) := ⟨by rw [← hq_]; exact (Short.bK BK379)⟩; have n1_ : Aside0 (Below w.heap.size w w40) := ⟨by rw [← hq_]; exact (Short.hB HB)⟩; clear BK379 HB hq_; revert n0_ n1_; intro BK379 HB)); obtain ⟨hcz_0, hcz_1, hcz_2, hfz_0, hfz_1, hfz_2⟩ := Short.c3 BK379.out) | ((with_reducible refine aE (f := 92) rfl ?_); refine Short.gL (some 47) Tryz.func92 #[.slice A0 l0.length c0, .int .i64 t381] (h := ?_); (with_reducible refine (wire_GetText.calls k _ _ l0 t381 t391 t392 t393 _ ?side1 ?side2 A36.out).mono ?_); (case side1 => exact aU HR0.out (Short.hB HB)); (case side2 => exact HC0.out); rintro e w' ⟨rfl, ⟨nd, rfl⟩⟩; refine ⟨_, rfl, ?_⟩) | (go_at_call 98; (with_reducible refine (bN.calls t380 0 t391 t394 _ A38.out).mono ?_); rintro e w42 ⟨rfl, hb⟩; have n0_ := mk_ (bE (g := gb379) (o := .cells #[.int .i64 t380, .int .i64 0, .string t391] 102 (0, 0)) (by (with_reducible repeat (first | refine aH ?_ _ | refine aI ?_ | refine aG ?_ _)); refine bA (cs := #[.int .i64 t380, .int .i64 0, .string (⟨#[]⟩ : ByteArray)]) ?_ 2 _ rfl; (with_reducible repeat (first | refine aH ?_ _ | refine aI ?_ | refine aG ?_ _)); refine bA (cs := #[.int .i64 0, .int .i64 0, .string (⟨#[]⟩ : ByteArray)]) ?_ 0 _ rfl; (with_reducible repeat (first | refine aH ?_ _ | refine aI ?_ | refine aG ?_ _)); exact BK379.out) hb); have n1_ := mk_ (aC (Short.hB HB) hb); clear BK379 HB; revert n0_ n1_; intro BK379 HB; (try clear hb); (try clear hb2); (try clear hk); (try clear hi); obtain ⟨hcz_0, hcz_1, hcz_2, hfz_0, hfz_1, hfz_2⟩ := Short.c3 BK379.out))
 refine bodyPost_ret (dQ rfl _ _ gb379 102 #[.int .i64 t380, .int .i64 0, .string t391] (0, 0) _ rfl (by (with_reducible repeat (first | refine aH ?_ _ | refine aI ?_ | refine aG ?_ _)); refine bA (cs := #[.int .i64 t380, .int .i64 0, .string t391]) ?_ 2 _ rfl; (with_reducible repeat (first | refine aH ?_ _ | refine aI ?_ | refine aG ?_ _)); refine bA (cs := #[.int .i64 t380, .int .i64 0, .string t391]) ?_ 1 _ rfl; (with_reducible repeat (first | refine aH ?_ _ | refine aI ?_ | refine aG ?_ _)); refine bA (cs := #[.int .i64 t380, .int .i64 0, .string t391]) ?_ 0 _ rfl; (with_reducible repeat (first | refine aH ?_ _ | refine aI ?_ | refine aG ?_ _)); exact BK379.out) Tryz.underlying102 rfl z2_) rfl ?_
 exact ⟨q0, Short.hB HB⟩
def row_Read.l0 : Nat → List Int → List (S102) → Int → Int → Int → Option ((List (S102)) × Int × Int)
 | 0, _, _, _, _, _ => none
 | k + 1, x0, x4, x5, x23, x24 => if x24 < x23 then ((gH.f k x0 x5).bind fun bt399 => (if bt399.2.2.2.2 = 0 then (if x4.length < 4398046511104 then (row_Read.l0 k x0 (x4 ++ [(⟨bt399.1, bt399.2.1, bt399.2.2.1⟩ : S102)]) bt399.2.2.2.1 x23 (wrap64 (x24 + 1))) else (none)) else (some (([] : List (S102)), 0, 3)))) else (some (x4, x5, 0))
def row_Read.f (k : Nat) (l0 : List Int) (a1 : Int) : Option ((List (S102)) × Int × Int) := (wire_Get.f k l0 a1 1).bind fun bt396 => (if bt396.2.2 = 0 then (if bt396.1 > 12 then (some (([] : List (S102)), 0, 3)) else (row_Read.l0 k l0 ([] : List (S102)) bt396.2.1 bt396.1 0)) else (some (([] : List (S102)), 0, bt396.2.2)))
theorem row_Read.calls (k : Nat) (A0 : Option Addr) (c0 : Nat) (l0 : List Int) (a1 : Int) (r1 : List (S102)) (r2 : Int) (r3 : Int) (w : World) (hr0 : Kd.C (Kd.int .u8) w A0 l0.length l0) (hc0 : l0.length ≤ c0) (h : row_Read.f k l0 a1 = some (r1, r2, r3)) :
  Calls Tryz.prog 75 #[.slice A0 l0.length c0, .int .i64 a1] w fun e w' => ∃ v0_ : Value, e = .returned (.tuple #[v0_, .int .i64 r2, .int .i64 r3]) ∧ Kd.R k102 102 w' w.heap.size (fun _ => True) v0_ r1 ∧ Below w.heap.size w w' := by
 have hu102 := Tryz.underlying102
 have HR0 := mk_ hr0
 have HC0 := mk_ hc0
 clear hr0 hc0
 have HB := mk_ (Below.refl w.heap.size w)
 have H : ((wire_Get.f k l0 a1 1).bind fun bt396 => (if bt396.2.2 = 0 then (if bt396.1 > 12 then (some (([] : List (S102)), 0, 3)) else (row_Read.l0 k l0 ([] : List (S102)) bt396.2.1 bt396.1 0)) else (some (([] : List (S102)), 0, bt396.2.2)))) = some (r1, r2, r3) := h
 clear h
 obtain ⟨⟨t396, t397, t398⟩, A3, H⟩ := Option.bind_eq_some_iff.mp H
 try dsimp only at H
 replace A3 := mk_ A3
 by_cases c4 : t398 = 0
 rotate_left
 ·
  rw [if_neg c4] at H
  have c4b0 : (t398 == 0) = false := beq_eq_false_iff_ne.mpr c4
  have c4b1 : (t398 != 0) = true := bne_iff_ne.mpr c4
  simp only [Option.some.injEq, Prod.mk.injEq] at H
  obtain ⟨rfl, rfl, rfl⟩ := H
  go_enter Tryz.func75, Tryz.ntmps75
  go_wp2_with (first | ((with_reducible refine aE (f := 91) rfl ?_); refine Short.gL (some 14) Tryz.func91 #[.slice A0 l0.length c0, .int .i64 a1, .int .i64 1] (h := ?_); (with_reducible refine (wire_Get.calls k _ _ l0 a1 1 t396 t397 t398 _ ?side1 ?side2 A3.out).mono ?_); (case side1 => repeat (first | exact HR0.out | (with_reducible refine C_alloc ?_ _) | (with_reducible refine C_drewN ?_ _) | (with_reducible refine C_drew ?_))); (case side2 => exact HC0.out); rintro e w' ⟨rfl, ⟨nd, rfl⟩⟩; refine ⟨_, rfl, ?_⟩))
  go_ret3
  exact ⟨_, by first | rfl | (simp [aZ, aY] <;> rfl) | (simp [*, aZ, aY] <;> rfl), by first | exact R_nil _ _ _ _ _ | exact N_nil _ _ _ _ _ | exact V_nil _ _ _ _ _ | exact Q_nil _ _ _ _ _ | exact S_nil _ _ _ _ _, Short.hB HB⟩
 rw [if_pos c4] at H
 have c4b0 : (t398 == 0) = true := beq_iff_eq.mpr c4
 have c4b1 : (t398 != 0) = false := bne_eq_false_iff_eq.mpr c4
 clear c4
 by_cases c5 : t396 > 12
 ·
  rw [if_pos c5] at H
  have c5b0 : decide (12 < t396) = true := decide_eq_true c5
  clear c5
  simp only [Option.some.injEq, Prod.mk.injEq] at H
  obtain ⟨rfl, rfl, rfl⟩ := H
  go_enter Tryz.func75, Tryz.ntmps75
  go_wp2_with (first | ((with_reducible refine aE (f := 91) rfl ?_); refine Short.gL (some 14) Tryz.func91 #[.slice A0 l0.length c0, .int .i64 a1, .int .i64 1] (h := ?_); (with_reducible refine (wire_Get.calls k _ _ l0 a1 1 t396 t397 t398 _ ?side1 ?side2 A3.out).mono ?_); (case side1 => repeat (first | exact HR0.out | (with_reducible refine C_alloc ?_ _) | (with_reducible refine C_drewN ?_ _) | (with_reducible refine C_drew ?_))); (case side2 => exact HC0.out); rintro e w' ⟨rfl, ⟨nd, rfl⟩⟩; refine ⟨_, rfl, ?_⟩))
  go_ret3
  exact ⟨_, by first | rfl | (simp [aZ, aY] <;> rfl) | (simp [*, aZ, aY] <;> rfl), by first | exact R_nil _ _ _ _ _ | exact N_nil _ _ _ _ _ | exact V_nil _ _ _ _ _ | exact Q_nil _ _ _ _ _ | exact S_nil _ _ _ _ _, Short.hB HB⟩
 rw [if_neg c5] at H
 have c5b0 : decide (12 < t396) = false := decide_eq_false c5
 clear c5
 have H' := mk_ H
 clear H
 go_enter Tryz.func75, Tryz.ntmps75
 go_wp2_with (first | ((with_reducible refine aE (f := 91) rfl ?_); refine Short.gL (some 14) Tryz.func91 #[.slice A0 l0.length c0, .int .i64 a1, .int .i64 1] (h := ?_); (with_reducible refine (wire_Get.calls k _ _ l0 a1 1 t396 t397 t398 _ ?side1 ?side2 A3.out).mono ?_); (case side1 => repeat (first | exact HR0.out | (with_reducible refine C_alloc ?_ _) | (with_reducible refine C_drewN ?_ _) | (with_reducible refine C_drew ?_))); (case side2 => exact HC0.out); rintro e w' ⟨rfl, ⟨nd, rfl⟩⟩; refine ⟨_, rfl, ?_⟩))
 go_loopg [4, 5, 24] k (fun kq v4 v5 v24 w' => ∃ (x4_1 : List (S102)) (x5_1 : Int) (x24_1 : Int), v5 = .int .i64 x5_1 ∧ v24 = .int .i64 x24_1 ∧ Aside0 (row_Read.l0 kq l0 x4_1 x5_1 t396 x24_1 = some (r1, r2, r3)) ∧ Aside0 (kq ≤ k) ∧ Aside0 (Kd.R k102 102 w' w.heap.size (fun _ => True) v4 x4_1) ∧ Aside0 (Below w.heap.size w w'))
 case atStart => exact ⟨(([] : List (S102))), (t397), (0), z4_, z4_, H', ⟨Nat.le_refl _⟩, ⟨by first | exact R_nil _ _ _ _ _ | exact N_nil _ _ _ _ _ | exact V_nil _ _ _ _ _ | exact Q_nil _ _ _ _ _ | exact S_nil _ _ _ _ _⟩, ⟨Short.hB HB⟩⟩
 case round =>
  clear H'
  try clear p2
  try clear c4
  try clear c4b0
  try clear c4b1
  try clear c5
  try clear c5b0
  obtain ⟨x4_1, x5_1, x24_1, rfl, rfl, HA, HK1, HO_4, HB⟩ := hrel
  cases gk with
  | zero => exact absurd HA.out (by simp [row_Read.l0])
  | succ k1 =>
   have H := HA.out
   clear HA
   simp only [row_Read.l0] at H
   by_cases c6 : x24_1 < t396
   rotate_left
   ·
    rw [if_neg c6] at H
    have c6b0 : decide (x24_1 < t396) = false := decide_eq_false c6
    clear c6
    simp only [Option.some.injEq, Prod.mk.injEq] at H
    obtain ⟨rfl, rfl, rfl⟩ := H
    go_wp2
    go_ret3
    exact ⟨_, by first | rfl | (simp [aZ, aY] <;> rfl) | (simp [*, aZ, aY] <;> rfl), by (with_reducible repeat (first | apply R_alloc | apply R_drewN | apply R_drew)); exact HO_4.out, Short.hB HB⟩
   rw [if_pos c6] at H
   have c6b0 : decide (x24_1 < t396) = true := decide_eq_true c6
   clear c6
   obtain ⟨⟨t399, t400, t401, t402, t403⟩, A7, H⟩ := Option.bind_eq_some_iff.mp H
   try dsimp only at H
   replace A7 := mk_ A7
   by_cases c8 : t403 = 0
   rotate_left
   ·
    rw [if_neg c8] at H
    have c8b0 : (t403 == 0) = false := beq_eq_false_iff_ne.mpr c8
    have c8b1 : (t403 != 0) = true := bne_iff_ne.mpr c8
    simp only [Option.some.injEq, Prod.mk.injEq] at H
    obtain ⟨rfl, rfl, rfl⟩ := H
    go_wp2_with (first | ((with_reducible refine aE (f := 93) rfl ?_); refine Short.gL (some 29) Tryz.func93 #[.slice A0 l0.length c0, .int .i64 x5_1] (h := ?_); (with_reducible refine (gH.calls k1 _ _ l0 x5_1 t399 t400 t401 t402 t403 _ ?side1 ?side2 A7.out).mono ?_); (case side1 => exact cX_ (aU HR0.out HB.out)); (case side2 => exact HC0.out); rintro e w14 ⟨rfl, hb⟩; refine ⟨_, rfl, ?_⟩; have n0_ := mk_ (bX (ZKR HO_4) hb); have n1_ := mk_ (aC (Short.hB HB) hb); clear HO_4 HB; revert n0_ n1_; intro HO_4 HB; (try clear hb)) | ((with_reducible refine aQ (N := 8) rfl ?_); refine aN ?hg (N := 8) ?hd (cs := #[.int .i64 0, .int .i64 0, .string (⟨#[]⟩ : ByteArray)]) (t := 102) ?hr ?_; (case hd => rfl); (case hg => rfl); (case hr => first | (go_simp; done) | (go_simp; rfl)); intro gb404 hg w15 hbox hb; have n0_ := mk_ (bX (R_elderB (ZKR HO_4) gb404 (Nat.le_of_eq hg.symm)) hb); have n1_ := mk_ (aC (Short.hB HB) hb); have n2_ := mk_ (hbox); have n3_ := mk_ ((by rw [hg]; exact (aA (Short.hB HB)) : w.heap.size ≤ gb404)); have n4_ := mk_ ((by rw [hg]; exact (aA (Short.hB HB)) : w.heap.size ≤ gb404)); clear HO_4 HB; revert n0_ n1_ n2_ n3_ n4_; intro HO_4 HB BK404 GW404 GE404; clear hb hbox hg; obtain ⟨hcz_0, hcz_1, hcz_2, hfz_0, hfz_1, hfz_2⟩ := Short.c3 BK404.out))
    go_ret3
    exact ⟨_, by first | rfl | (simp [aZ, aY] <;> rfl) | (simp [*, aZ, aY] <;> rfl), by first | exact R_nil _ _ _ _ _ | exact N_nil _ _ _ _ _ | exact V_nil _ _ _ _ _ | exact Q_nil _ _ _ _ _ | exact S_nil _ _ _ _ _, Short.hB HB⟩
   rw [if_pos c8] at H
   have c8b0 : (t403 == 0) = true := beq_iff_eq.mpr c8
   have c8b1 : (t403 != 0) = false := bne_eq_false_iff_eq.mpr c8
   clear c8
   by_cases c9 : x4_1.length < 4398046511104
   rotate_left
   ·
    rw [if_neg c9] at H
    exact absurd H z6_
   rw [if_pos c9] at H
   have LMc9 := mk_ c9
   clear c9
   obtain ⟨y405, hy405⟩ : ∃ y_ : List (S102), y_ = (x4_1 ++ [(⟨t399, t400, t401⟩ : S102)]) := ⟨_, rfl⟩
   replace H : (row_Read.l0 k1 l0 y405 t402 t396 (wrap64 (x24_1 + 1))) = some (r1, r2, r3) := by first | (rw [hy405]; with_reducible exact H) | (have H2_ := (Option.bind_some _ _).symm.trans H; rw [hy405]; with_reducible exact H2_) | (have H2_ := (Option.bind_some _ _).symm.trans H; with_reducible exact H2_) | with_reducible exact H | (rw [hy405]; exact H) | exact H
   have Ny405 := mk_ hy405
   clear hy405
   have H' := mk_ H
   clear H
   go_wp2_with (first | ((with_reducible refine aE (f := 93) rfl ?_); refine Short.gL (some 29) Tryz.func93 #[.slice A0 l0.length c0, .int .i64 x5_1] (h := ?_); (with_reducible refine (gH.calls k1 _ _ l0 x5_1 t399 t400 t401 t402 t403 _ ?side1 ?side2 A7.out).mono ?_); (case side1 => exact cX_ (aU HR0.out HB.out)); (case side2 => exact HC0.out); rintro e w10 ⟨rfl, hb⟩; refine ⟨_, rfl, ?_⟩; have n0_ := mk_ (bX (ZKR HO_4) hb); have n1_ := mk_ (aC (Short.hB HB) hb); clear HO_4 HB; revert n0_ n1_; intro HO_4 HB; (try clear hb)) | ((with_reducible refine aQ (N := 8) rfl ?_); refine aN ?hg (N := 8) ?hd (cs := #[.int .i64 0, .int .i64 0, .string (⟨#[]⟩ : ByteArray)]) (t := 102) ?hr ?_; (case hd => rfl); (case hg => rfl); (case hr => first | (go_simp; done) | (go_simp; rfl)); intro gb404 hg w11 hbox hb; have n0_ := mk_ (bX (R_elderB (ZKR HO_4) gb404 (Nat.le_of_eq hg.symm)) hb); have n1_ := mk_ (aC (Short.hB HB) hb); have n2_ := mk_ (hbox); have n3_ := mk_ ((by rw [hg]; exact (aA (Short.hB HB)) : w.heap.size ≤ gb404)); have n4_ := mk_ ((by rw [hg]; exact (aA (Short.hB HB)) : w.heap.size ≤ gb404)); clear HO_4 HB; revert n0_ n1_ n2_ n3_ n4_; intro HO_4 HB BK404 GW404 GE404; clear hb hbox hg; obtain ⟨hcz_0, hcz_1, hcz_2, hfz_0, hfz_1, hfz_2⟩ := Short.c3 BK404.out) | ((with_reducible refine cK (b := .append) (xs := #[.tmp 35, .tmp 37]) rfl ?_); at_builtin; refine fU k102 (w0 := w) w.heap.size rfl (.tmp 35) (.tmp 37) 28 102 (.agg #[(.int .i64 0), (.int .i64 0), (.string ⟨#[]⟩)]) 32 rfl Tryz.underlying28 info102 rfl z5_ z3_ u4 x4_1 (⟨t399, t400, t401⟩ : S102) [.int .i64 t399, .int .i64 t400, .string t401] (fun k_ => k_ ≠ gb404) (fun _ => False) rfl (by first | (go_simp; done) | (go_simp; rfl)) ?aP (fun _ hk => hk.elim) ?aF ?aO ?aB ?aS ?aL ?_; (case aP => exact k102_mkM _ _ _ (⟨t399, t400, t401⟩ : S102)); (case aB => exact (Short.hB HB)); (case aF => exact (fun k_ hk => Kd.freshB (g := gb404) (o := .cells #[.int .i64 t399, .int .i64 t400, .string t401] 102 (0, 0)) (by (with_reducible repeat (first | refine aH ?_ _ | refine aI ?_ | refine aG ?_ _)); refine bA (cs := #[.int .i64 t399, .int .i64 t400, .string (⟨#[]⟩ : ByteArray)]) ?_ 2 _ rfl; (with_reducible repeat (first | refine aH ?_ _ | refine aI ?_ | refine aG ?_ _)); refine bA (cs := #[.int .i64 t399, .int .i64 0, .string (⟨#[]⟩ : ByteArray)]) ?_ 1 _ rfl; (with_reducible repeat (first | refine aH ?_ _ | refine aI ?_ | refine aG ?_ _)); refine bA (cs := #[.int .i64 0, .int .i64 0, .string (⟨#[]⟩ : ByteArray)]) ?_ 0 _ rfl; (with_reducible repeat (first | refine aH ?_ _ | refine aI ?_ | refine aG ?_ _)); exact BK404.out) k_ hk)); (case aO => exact (by (with_reducible repeat (first | apply R_alloc | apply R_drewN | apply R_drew)); exact R_mono (R_far (p := ⟨gb404, 2, none⟩) (R_far (p := ⟨gb404, 1, none⟩) (R_far (p := ⟨gb404, 0, none⟩) (R_mono HO_4.out (fun k_ hk => (⟨hk, hk.2⟩ : _ ∧ k_ ≠ gb404))) (fun _ hk => hk.2) (.int .i64 t399)) (fun _ hk => hk.2) (.int .i64 t400)) (fun _ hk => hk.2) (.string t401)) (fun _ hk => hk.1.2))); (case aS => exact (aA (Short.hB HB))); (case aL => have := LMc9.out; omega); intro v406 w13 ho hb hg hat; rw [← Ny405.out] at ho; have n0_ := mk_ (dH (g := gb404) (o := .cells #[.int .i64 t399, .int .i64 t400, .string t401] 102 (0, 0)) (by (with_reducible repeat (first | refine aH ?_ _ | refine aI ?_ | refine aG ?_ _)); refine bA (cs := #[.int .i64 t399, .int .i64 t400, .string (⟨#[]⟩ : ByteArray)]) ?_ 2 _ rfl; (with_reducible repeat (first | refine aH ?_ _ | refine aI ?_ | refine aG ?_ _)); refine bA (cs := #[.int .i64 t399, .int .i64 0, .string (⟨#[]⟩ : ByteArray)]) ?_ 1 _ rfl; (with_reducible repeat (first | refine aH ?_ _ | refine aI ?_ | refine aG ?_ _)); refine bA (cs := #[.int .i64 0, .int .i64 0, .string (⟨#[]⟩ : ByteArray)]) ?_ 0 _ rfl; (with_reducible repeat (first | refine aH ?_ _ | refine aI ?_ | refine aG ?_ _)); exact BK404.out) hg (R_away HO_4.out (fun _ hk => hk.2))); have n1_ := mk_ (hb); have n2_ := mk_ (ho); clear BK404 HB HO_4; revert n0_ n1_ n2_; intro BK404 HB HO407; clear ho hb hg hat))
   go_roundg k1
   case measure => have := HK1.out; omega
   case rel => exact ⟨(y405), (t402), (wrap64 (x24_1 + 1)), z4_, z4_, H', ⟨by have := HK1.out; omega⟩, ⟨by (with_reducible repeat (first | apply R_alloc | apply R_drewN | apply R_drew)); exact R_mono HO407.out (fun _ hk => trivial)⟩, ⟨Short.hB HB⟩⟩
def cS.l0 : Nat → List Int → List Int → Int → Option (Bool)
 | 0, _, _, _ => none
 | k + 1, x0, x1, x5 => if x5 < (x0.length : Int) then (if 0 ≤ x5 then (if x5 < (x1.length : Int) then (if (rd x0 x5) = (rd x1 x5) then (cS.l0 k x0 x1 (wrap64 (x5 + 1))) else (some false)) else (none)) else (none)) else (some true)
def cS.f (k : Nat) (l0 : List Int) (l1 : List Int) : Option (Bool) := if (l0.length : Int) = (l1.length : Int) then (cS.l0 k l0 l1 0) else (some false)
theorem cS.calls (k : Nat) (A0 : Option Addr) (c0 : Nat) (l0 : List Int) (A1 : Option Addr) (c1 : Nat) (l1 : List Int) (r : Bool) (w : World) (hr0 : Kd.C (Kd.int .u8) w A0 l0.length l0) (hc0 : l0.length ≤ c0) (hr1 : Kd.C (Kd.int .u8) w A1 l1.length l1) (hc1 : l1.length ≤ c1) (h : cS.f k l0 l1 = some r) :
  Calls Tryz.prog 20 #[.slice A0 l0.length c0, .slice A1 l1.length c1] w fun e w' => e = .returned (.bool r) ∧ Drawn0 w w' := by
 have HR0 := mk_ hr0
 have HC0 := mk_ hc0
 clear hr0 hc0
 have HR1 := mk_ hr1
 have HC1 := mk_ hc1
 clear hr1 hc1
 have H : (if (l0.length : Int) = (l1.length : Int) then (cS.l0 k l0 l1 0) else (some false)) = some r := h
 clear h
 by_cases c3 : (l0.length : Int) = (l1.length : Int)
 rotate_left
 ·
  rw [if_neg c3] at H
  have c3b0 : ((l0.length : Int) == (l1.length : Int)) = false := beq_eq_false_iff_ne.mpr c3
  have c3b1 : ((l0.length : Int) != (l1.length : Int)) = true := bne_iff_ne.mpr c3
  have c3b2 : (l0.length == l1.length) = false := by first | simpa using c3 | (simp at c3 ⊢; omega)
  obtain rfl := Option.some.inj H
  go_enter Tryz.func20, Tryz.ntmps20
  go_wp2
  repeat (go_quiet (fail); try go_wp2)
  go_ret
  exact ⟨z4_, by repeat (first | exact Drawn0.refl _ | apply Drawn0.step)⟩
 rw [if_pos c3] at H
 have c3b0 : ((l0.length : Int) == (l1.length : Int)) = true := beq_iff_eq.mpr c3
 have c3b1 : ((l0.length : Int) != (l1.length : Int)) = false := bne_eq_false_iff_eq.mpr c3
 have c3b2 : (l0.length == l1.length) = true := by first | simpa using c3 | (simp at c3 ⊢; omega)
 clear c3
 have H' := mk_ H
 clear H
 go_enter Tryz.func20, Tryz.ntmps20
 go_wp2
 repeat (go_quiet (fail); try go_wp2)
 go_loopg [5] k (fun kq v5 w' => ∃ (x5_1 : Int), v5 = .int .i64 x5_1 ∧ Aside0 (cS.l0 kq l0 l1 x5_1 = some r) ∧ Aside0 (kq ≤ k) ∧ Drawn0 w w')
 case atStart => exact ⟨(0), z4_, H', ⟨Nat.le_refl _⟩, by repeat (first | exact Drawn0.refl _ | apply Drawn0.step)⟩
 case round =>
  clear H'
  try clear c1
  try clear c2
  try clear p2
  try clear c3
  try clear c3b0
  try clear c3b1
  try clear c3b2
  obtain ⟨x5_1, rfl, HA, HK1, ⟨m1, rfl⟩⟩ := hrel
  cases gk with
  | zero => exact absurd HA.out (by simp [cS.l0])
  | succ k1 =>
   have H := HA.out
   clear HA
   simp only [cS.l0] at H
   by_cases c4 : x5_1 < (l0.length : Int)
   rotate_left
   ·
    rw [if_neg c4] at H
    have c4b0 : decide (x5_1 < (l0.length : Int)) = false := decide_eq_false c4
    clear c4
    obtain rfl := Option.some.inj H
    go_wp2
    repeat (go_quiet (fail); try go_wp2)
    go_ret
    exact ⟨z4_, by repeat (first | exact Drawn0.refl _ | apply Drawn0.step)⟩
   rw [if_pos c4] at H
   have c4b0 : decide (x5_1 < (l0.length : Int)) = true := decide_eq_true c4
   clear c4
   by_cases c5 : 0 ≤ x5_1
   rotate_left
   ·
    rw [if_neg c5] at H
    exact absurd H z6_
   rw [if_pos c5] at H
   have c5b0 : decide (0 ≤ x5_1) = true := decide_eq_true c5
   clear c5
   by_cases c6 : x5_1 < (l1.length : Int)
   rotate_left
   ·
    rw [if_neg c6] at H
    exact absurd H z6_
   rw [if_pos c6] at H
   have c6b0 : decide (x5_1 < (l1.length : Int)) = true := decide_eq_true c6
   clear c6
   by_cases c7 : (rd l0 x5_1) = (rd l1 x5_1)
   rotate_left
   ·
    rw [if_neg c7] at H
    have c7b0 : ((rd l0 x5_1) == (rd l1 x5_1)) = false := beq_eq_false_iff_ne.mpr c7
    have c7b1 : ((rd l0 x5_1) != (rd l1 x5_1)) = true := bne_iff_ne.mpr c7
    obtain rfl := Option.some.inj H
    have p409 : 0 ≤ (x5_1 : Int) := of_decide_eq_true z1_
    have q409 : x5_1 < (l0.length : Int) := of_decide_eq_true z1_
    obtain ⟨ad409, e409, hx409_0⟩ := Kd.at_int HR0.out x5_1 p409 q409
    cases e409
    replace p409 := eq_true p409
    replace q409 := eq_true q409
    have p410 : 0 ≤ (x5_1 : Int) := of_decide_eq_true z1_
    have q410 : x5_1 < (l1.length : Int) := of_decide_eq_true z1_
    obtain ⟨ad410, e410, hx410_0⟩ := Kd.at_int HR1.out x5_1 p410 q410
    cases e410
    replace p410 := eq_true p410
    replace q410 := eq_true q410
    go_wp2
    repeat (go_quiet (fail); try go_wp2)
    go_ret
    exact ⟨z4_, by repeat (first | exact Drawn0.refl _ | apply Drawn0.step)⟩
   rw [if_pos c7] at H
   have c7b0 : ((rd l0 x5_1) == (rd l1 x5_1)) = true := beq_iff_eq.mpr c7
   have c7b1 : ((rd l0 x5_1) != (rd l1 x5_1)) = false := bne_eq_false_iff_eq.mpr c7
   clear c7
   have H' := mk_ H
   clear H
   have p409 : 0 ≤ (x5_1 : Int) := of_decide_eq_true z1_
   have q409 : x5_1 < (l0.length : Int) := of_decide_eq_true z1_
   obtain ⟨ad409, e409, hx409_0⟩ := Kd.at_int HR0.out x5_1 p409 q409
   cases e409
   replace p409 := eq_true p409
   replace q409 := eq_true q409
   have p410 : 0 ≤ (x5_1 : Int) := of_decide_eq_true z1_
   have q410 : x5_1 < (l1.length : Int) := of_decide_eq_true z1_
   obtain ⟨ad410, e410, hx410_0⟩ := Kd.at_int HR1.out x5_1 p410 q410
   cases e410
   replace p410 := eq_true p410
   replace q410 := eq_true q410
   go_wp2
   repeat (go_quiet (fail); try go_wp2)
   go_roundg k1
   case measure => have := HK1.out; omega
   case rel => exact ⟨(wrap64 (x5_1 + 1)), z4_, H', ⟨by have := HK1.out; omega⟩, by repeat (first | exact Drawn0.refl _ | apply Drawn0.step)⟩
def bB.l0 : Nat → Int → List Int → Int → Option (List Int)
 | 0, _, _, _ => none
 | k + 1, x0, x5, x6 => if x6 ≥ 0 then (if 0 ≤ (IntKind.u64.wrap (wrap64 (8 * x6))) then (if x5.length < 140737488355328 then (bB.l0 k x0 (x5 ++ [(shr .i64 x0 (IntKind.u64.wrap (wrap64 (8 * x6)))) % 256]) (wrap64 (x6 - 1))) else (none)) else (none)) else (some x5)
def bB.f (k : Nat) (a0 : Int) (a1 : Int) : Option (List Int) := bB.l0 k a0 ([] : List Int) (wrap64 (a1 - 1))
theorem bB.calls (k : Nat) (a0 : Int) (a1 : Int) (r : List Int) (w : World) (h : bB.f k a0 a1 = some r) :
  Calls Tryz.prog 77 #[.int .i64 a0, .int .i64 a1] w fun e w' => ∃ v0_ : Value, e = .returned (v0_) ∧ Kd.R (Kd.int .u8) 5 w' w.heap.size (fun _ => True) v0_ r ∧ Below w.heap.size w w' := by
 have HB := mk_ (Below.refl w.heap.size w)
 have H : (bB.l0 k a0 ([] : List Int) (wrap64 (a1 - 1))) = some r := h
 clear h
 have H' := mk_ H
 clear H
 go_enter Tryz.func77, Tryz.ntmps77
 go_wp2
 go_loopg [5, 6] k (fun kq v5 v6 w' => ∃ (x5_1 : List Int) (x6_1 : Int), v6 = .int .i64 x6_1 ∧ Aside0 (bB.l0 kq a0 x5_1 x6_1 = some r) ∧ Aside0 (kq ≤ k) ∧ Aside0 (Kd.R (Kd.int .u8) 5 w' w.heap.size (fun _ => True) v5 x5_1) ∧ Aside0 (Below w.heap.size w w'))
 case atStart => exact ⟨(([] : List Int)), (wrap64 (a1 - 1)), z4_, H', ⟨Nat.le_refl _⟩, ⟨by first | exact R_nil _ _ _ _ _ | exact N_nil _ _ _ _ _ | exact V_nil _ _ _ _ _ | exact Q_nil _ _ _ _ _ | exact S_nil _ _ _ _ _⟩, ⟨Short.hB HB⟩⟩
 case round =>
  clear H'
  try clear p2
  obtain ⟨x5_1, x6_1, rfl, HA, HK1, HO_5, HB⟩ := hrel
  cases gk with
  | zero => exact absurd HA.out (by simp [bB.l0])
  | succ k1 =>
   have H := HA.out
   clear HA
   simp only [bB.l0] at H
   by_cases c3 : x6_1 ≥ 0
   rotate_left
   ·
    rw [if_neg c3] at H
    have c3b0 : decide (0 ≤ x6_1) = false := decide_eq_false c3
    clear c3
    obtain rfl := Option.some.inj H
    go_wp2
    go_ret
    exact ⟨_, by first | rfl | (simp [aZ, aY] <;> rfl) | (simp [*, aZ, aY] <;> rfl), by (with_reducible repeat (first | apply R_alloc | apply R_drewN | apply R_drew)); exact HO_5.out, Short.hB HB⟩
   rw [if_pos c3] at H
   have c3b0 : decide (0 ≤ x6_1) = true := decide_eq_true c3
   clear c3
   obtain ⟨ji4, hji4⟩ : ∃ j_ : Int, (IntKind.u64.wrap (wrap64 (8 * x6_1))) = j_ := ⟨_, rfl⟩
   replace H : (if 0 ≤ (ji4) then (if x5_1.length < 140737488355328 then (bB.l0 k1 a0 (x5_1 ++ [(shr .i64 a0 (ji4)) % 256]) (wrap64 (x6_1 - 1))) else (none)) else (none)) = some r := by first | (rw [hji4] at H; exact H) | (simp only [hji4] at H ⊢; exact H)
   by_cases c5 : 0 ≤ (ji4)
   rotate_left
   ·
    rw [if_neg c5] at H
    exact absurd H z6_
   rw [if_pos c5] at H
   have c5b0 := eq_true c5
   have c5b1 : decide (0 ≤ (ji4)) = true := decide_eq_true c5
   clear c5
   obtain ⟨ji6, hji6⟩ : ∃ j_ : Int, (shr .i64 a0 (ji4)) = j_ := ⟨_, rfl⟩
   replace H : (if x5_1.length < 140737488355328 then (bB.l0 k1 a0 (x5_1 ++ [(ji6) % 256]) (wrap64 (x6_1 - 1))) else (none)) = some r := by first | (rw [hji6] at H; exact H) | (simp only [hji6] at H ⊢; exact H)
   have hji6_ : (a0 / 2 ^ min (ji4).toNat 64) = ji6 := hji6
   have hji6z : (ji4) ≤ 64 → (a0 / 2 ^ (ji4).toNat) = ji6 := shr_small hji6
   by_cases c7 : x5_1.length < 140737488355328
   rotate_left
   ·
    rw [if_neg c7] at H
    exact absurd H z6_
   rw [if_pos c7] at H
   have LMc7 := mk_ c7
   clear c7
   obtain ⟨y411, hy411⟩ : ∃ y_ : List Int, y_ = (x5_1 ++ [(ji6) % 256]) := ⟨_, rfl⟩
   replace H : (bB.l0 k1 a0 y411 (wrap64 (x6_1 - 1))) = some r := by first | (rw [hy411]; with_reducible exact H) | (have H2_ := (Option.bind_some _ _).symm.trans H; rw [hy411]; with_reducible exact H2_) | (have H2_ := (Option.bind_some _ _).symm.trans H; with_reducible exact H2_) | with_reducible exact H | (rw [hy411]; exact H) | exact H
   have Ny411 := mk_ hy411
   clear hy411
   have H' := mk_ H
   clear H
   go_wp2_with (first | ((with_reducible refine cK (b := .append) (xs := #[.tmp 13, .tmp 20]) rfl ?_); at_builtin; refine fU (Kd.int .u8) (w0 := w) w.heap.size rfl (.tmp 13) (.tmp 20) 36 5 (.int .u8 0) 1 rfl Tryz.underlying36 info5 rfl z5_ z3_ u5 x5_1 ((ji6) % 256) [.int .u8 ((ji6) % 256)] (fun _ => True) (fun _ => False) rfl rfl ?aP (fun _ hk => hk.elim) ?aF ?aO ?aB ?aS ?aL ?_; (case aP => exact rfl); (case aB => exact (Short.hB HB)); (case aF => exact (fun _ _ => trivial)); (case aO => exact (ZKR HO_5)); (case aS => exact (aA (Short.hB HB))); (case aL => have := LMc7.out; omega); intro v412 w8 ho hb hg hat; rw [← Ny411.out] at ho; have n0_ := mk_ (hb); have n1_ := mk_ (ho); clear HB HO_5; revert n0_ n1_; intro HB HO413; clear ho hb hg hat))
   go_roundg k1
   case measure => have := HK1.out; omega
   case rel => exact ⟨(y411), (wrap64 (x6_1 - 1)), z4_, H', ⟨by have := HK1.out; omega⟩, ⟨by (with_reducible repeat (first | apply R_alloc | apply R_drewN | apply R_drew)); exact HO413.out⟩, ⟨Short.hB HB⟩⟩
end Go.Proofs.YtjnjfogfpmeacaaGreat.PAll
end
section
namespace Go.Proofs.YtjnjfogfpmeacaaGreat.PAll
open Go.RowKit PrintWords PrintLast PrintMore ZipT PrintWords.Kd PrintMore.Kd
attribute [local go_sem] eP eN fD fA dS dT eO eK   -- for this text's walks alone
set_option linter.unusedVariables false
set_option linter.unusedSimpArgs false
def bS.f (k : Nat) (a0_0 : Int) (a0_1 : Int) : Option (List Int) := (some (([(a0_0) % 256] : List Int) : List Int)).bind fun y415 => ((bB.f k a0_1 4).bind fun t418 => (if y415.length + t418.length < 140737488355328 then (some (y415 ++ t418)) else (none)))
def bS.T1 : Bool × List (List Nat × List Nat) := (true, [([], []), ([0], [0]), ([1], [1]), ([2], [2]), ([], []), ([4], [4]), ([5], [5]), ([3, 6, 6], [3, 6]), ([7, 7, 0, 1, 2, 3, 4, 5, 6, 7], [7])])
def bS.B1 : List Nat := [0, 1, 3, 7, 0, 16, 48, 127, 255]
theorem bS.tab1 : rtab .any (opsOf Tryz.f45 1) = bS.T1 := by kernel_rfl
theorem bS.bits1 : waitsOk bS.T1.2 bS.B1 = true := by kernel_rfl
theorem bS.calls (k : Nat) (a0_0 : Int) (a0_1 : Int) (r : List Int) (w : World) (h : bS.f k a0_0 a0_1 = some r) :
  Calls Tryz.prog 45 #[.agg #[.int .i64 a0_0, .int .i64 a0_1]] w fun e w' => ∃ v0_ : Value, e = .returned (v0_) ∧ Kd.R (Kd.int .u8) 5 w' w.heap.size (fun _ => True) v0_ r ∧ Below w.heap.size w w' := by
 have hu24 := Tryz.underlying24
 have HB := mk_ (Below.refl w.heap.size w)
 have H : ((some (([(a0_0) % 256] : List Int) : List Int)).bind fun y415 => ((bB.f k a0_1 4).bind fun t418 => (if y415.length + t418.length < 140737488355328 then (some (y415 ++ t418)) else (none)))) = some r := h
 clear h
 obtain ⟨y415, hy415⟩ : ∃ y_ : List Int, y_ = (([(a0_0) % 256] : List Int)) := ⟨_, rfl⟩
 replace H : ((bB.f k a0_1 4).bind fun t418 => (if y415.length + t418.length < 140737488355328 then (some (y415 ++ t418)) else (none))) = some r := by first | (rw [hy415]; with_reducible exact H) | (have H2_ := (Option.bind_some _ _).symm.trans H; rw [hy415]; with_reducible exact H2_) | (have H2_ := (Option.bind_some _ _).symm.trans H; with_reducible exact H2_) | with_reducible exact H | (rw [hy415]; exact H) | exact H
 have Ny415 := mk_ hy415
 clear hy415
 obtain ⟨t418, A2, H⟩ := Option.bind_eq_some_iff.mp H
 replace A2 := mk_ A2
 by_cases c3 : y415.length + t418.length < 140737488355328
 rotate_left
 ·
  rw [if_neg c3] at H
  exact absurd H z6_
 rw [if_pos c3] at H
 have LMc3 := mk_ c3
 clear c3
 obtain ⟨y421, hy421⟩ : ∃ y_ : List Int, y_ = (y415 ++ t418) := ⟨_, rfl⟩
 replace H : (some y421) = some r := by first | (rw [hy421]; with_reducible exact H) | (have H2_ := (Option.bind_some _ _).symm.trans H; rw [hy421]; with_reducible exact H2_) | (have H2_ := (Option.bind_some _ _).symm.trans H; with_reducible exact H2_) | with_reducible exact H | (rw [hy421]; exact H) | exact H
 have Ny421 := mk_ hy421
 clear hy421
 obtain rfl := Option.some.inj H
 go_enter Tryz.func45, Tryz.ntmps45
 try go_wp2_with (first | ((with_reducible refine aQ (N := 1) rfl ?_); refine aN ?hg (N := 1) ?hd (cs := #[.int .i64 a0_0, .int .i64 a0_1]) (t := 24) ?hr ?_; (case hd => rfl); (case hg => rfl); (case hr => first | (go_simp; done) | (go_simp; rfl)); intro gb414 hg w4 hbox hb; have n0_ := mk_ (aC (Short.hB HB) hb); have n1_ := mk_ (hbox); have n2_ := mk_ ((by rw [hg]; exact (aA (Short.hB HB)) : w.heap.size ≤ gb414)); have n3_ := mk_ ((by rw [hg]; exact (aA (Short.hB HB)) : w.heap.size ≤ gb414)); clear HB; revert n0_ n1_ n2_ n3_; intro HB BK414 GW414 GE414; clear hb hbox hg))
 have n0_ := mk_ (aI BK414.out)
 have n1_ := mk_ (dE HB.out)
 clear BK414 HB
 revert n0_ n1_
 intro BK414 HB
 refine fM (n := 9) (S := fun w' => w'.cell? ⟨gb414, 0, none⟩ = some (.int .i64 a0_0) ∧ w'.cell? ⟨gb414, 1, none⟩ = some (.int .i64 a0_1)) (ds := []) (Steps.Bs 9 0) z2_ rfl rfl ⟨kc_ BK414 0, kc_ BK414 1⟩ (fun hHeld => ?_); refine cZ bS.tab1 bS.bits1 (fun HT_ HW_ => ?_)
 generalize w4.drew = w5 at BK414 HB hHeld ⊢
 refine tI HT_ 0 3 9 1 ?_
 refine tI HT_ 4 7 9 17 ?_
 refine tT HT_ HW_ hHeld 1 4 9 19 ?_
 refine tI HT_ 2 5 9 23 ?_
 refine tT HT_ HW_ hHeld 5 8 9 55 ?_
 refine join_ (σ := Value × Value) 2 (Steps.Bs 9 127) (fun s_ => [(6, s_.1), (9, s_.2)]) (fun s_ w' => (w'.cell? ⟨gb414, 0, none⟩ = some (.int .i64 a0_0) ∧ w'.cell? ⟨gb414, 1, none⟩ = some (.int .i64 a0_1)) ∧ (Kd.R (Kd.int .u8) 5 w' w.heap.size (fun k_ => nb_ k_ (s_.2)) s_.1 y415) ∧ (Kd.R (Kd.int .u8) 5 w' w.heap.size (fun k_ => nb_ k_ (s_.1)) s_.2 t418) ∧ (w'.heap[gb414]? = some (.cells #[.int .i64 a0_0, .int .i64 a0_1] 24 (0, 0))) ∧ (Below w.heap.size w w')) ?_ ?_
 rotate_left
 ·
  intro hCont
  refine two_ (i := 3) (j := 6) (Ni := some 6) (Nj := some 9) (Steps.Bs 9 63) (Steps.Bs 9 119) rfl rfl rfl rfl (two_of HT_.out z2_) z5_ z5_ (fun K hK => ?_) (fun K hK => ?_)
  ·
   skip
   refine fO (Kd.int .u8) _ 5 ?hg (N := 6) ?hd (xs := ([(a0_0) % 256] : List Int)) (inner := [.int .u8 ((a0_0) % 256)]) (ok := fun _ => True) (okp := fun _ => True) ?hr ?hp (fun _ hk => hk) trivial (Below.refl _ _) (Nat.le_refl _) z6_ ?_; (case hd => rfl); (case hg => rfl); (case hr => first | (go_simp; done) | (go_simp; rfl)); (case hp => exact (Reps.one (show Kd.M (Kd.int .u8) _ _ _ ((a0_0) % 256) [.int .u8 ((a0_0) % 256)] from rfl) (Reps.none _ _)))
   intro v416 w6 ho7 hb hg_ hnew_
   clear hg_ hnew_
   (first | rw [← Ny415.out] at ho7 | (simp only [Int.reduceToNat] at ho7; rw [← Ny415.out] at ho7))
   have n0_ := mk_ (bW ho7 (aA (Short.hB HB)))
   have n1_ := mk_ (bB_ BK414 hb)
   have n2_ := mk_ (aC (Short.hB HB) hb)
   clear BK414 HB
   revert n0_ n1_ n2_
   intro HO417 BK414 HB
   clear hb ho7
   refine hK.out _ _ ⟨kc_ BK414 0, kc_ BK414 1⟩ (fun hHeld => ?_)
   clear hK K
   refine nrm 6 ?_
   refine one_ (i := 6) (N := some 9) (Steps.Bs 9 127) rfl rfl (cB HT_.out z2_) z5_ (fun K hK => ?_)
   refine goes_ Tryz.func77 z2_ rfl #[.int .i64 a0_1, .int .i64 4] (by rfl) rfl rfl z0_ ?_
   with_reducible refine (bB.calls k a0_1 4 t418 _ A2.out).mono ?_
   rintro e w8 ⟨v419, rfl, ho0, hb⟩
   refine ⟨_, rfl, ?_⟩
   have n0_ := mk_ (R_elder' (ZKR HO417) (R_base ho0) hb)
   have n1_ := mk_ (bW (R_new' ho0 (R_lt (ZKR HO417))) (aA (Short.hB HB)))
   have n2_ := mk_ (bB_ BK414 hb)
   have n3_ := mk_ (aC (Short.hB HB) hb)
   clear HO417 BK414 HB
   revert n0_ n1_ n2_ n3_
   intro HO417 HO420 BK414 HB
   (try clear hb)
   (try clear hb2)
   (try clear hk)
   (try clear hi)
   (try clear ho0)
   refine hK.out _ _ ⟨kc_ BK414 0, kc_ BK414 1⟩ (fun hHeld => ?_)
   clear hK K
   refine nrm 9 ?_
   exact norm_ (by simp only [putAll, Act.put, List.setIfInBounds_toArray, List.set_cons_zero, List.set_cons_succ]) (hCont (v416, v419) _ ⟨hHeld, (rM_ HO417 (fun _ hk => hk.2)), (rM_ HO420 (fun _ hk => hk.2)), (Short.bK BK414), (Short.hB HB)⟩)
  ·
   skip
   refine goes_ Tryz.func77 z2_ rfl #[.int .i64 a0_1, .int .i64 4] (by rfl) rfl rfl z0_ ?_
   with_reducible refine (bB.calls k a0_1 4 t418 _ A2.out).mono ?_
   rintro e w6 ⟨v419, rfl, ho0, hb⟩
   refine ⟨_, rfl, ?_⟩
   have n0_ := mk_ (bW ho0 (aA (Short.hB HB)))
   have n1_ := mk_ (bB_ BK414 hb)
   have n2_ := mk_ (aC (Short.hB HB) hb)
   clear BK414 HB
   revert n0_ n1_ n2_
   intro HO420 BK414 HB
   (try clear hb)
   (try clear hb2)
   (try clear hk)
   (try clear hi)
   (try clear ho0)
   refine hK.out _ _ ⟨kc_ BK414 0, kc_ BK414 1⟩ (fun hHeld => ?_)
   clear hK K
   refine nrm 9 ?_
   refine one_ (i := 3) (N := some 6) (Steps.Bs 9 127) rfl rfl (cB HT_.out z2_) z5_ (fun K hK => ?_)
   refine fO (Kd.int .u8) _ 5 ?hg (N := 6) ?hd (xs := ([(a0_0) % 256] : List Int)) (inner := [.int .u8 ((a0_0) % 256)]) (ok := fun _ => True) (okp := fun _ => True) ?hr ?hp (fun _ hk => hk) trivial (Below.refl _ _) (Nat.le_refl _) z6_ ?_; (case hd => rfl); (case hg => rfl); (case hr => first | (go_simp; done) | (go_simp; rfl)); (case hp => exact (Reps.one (show Kd.M (Kd.int .u8) _ _ _ ((a0_0) % 256) [.int .u8 ((a0_0) % 256)] from rfl) (Reps.none _ _)))
   intro v416 w7 ho8 hb hg_ hnew_
   clear hg_ hnew_
   (first | rw [← Ny415.out] at ho8 | (simp only [Int.reduceToNat] at ho8; rw [← Ny415.out] at ho8))
   have n0_ := mk_ (R_elder' (ZKR HO420) (R_base ho8) hb)
   have n1_ := mk_ (bW (R_new' ho8 (R_lt (ZKR HO420))) (aA (Short.hB HB)))
   have n2_ := mk_ (bB_ BK414 hb)
   have n3_ := mk_ (aC (Short.hB HB) hb)
   clear HO420 BK414 HB
   revert n0_ n1_ n2_ n3_
   intro HO420 HO417 BK414 HB
   clear hb ho8
   refine hK.out _ _ ⟨kc_ BK414 0, kc_ BK414 1⟩ (fun hHeld => ?_)
   clear hK K
   refine nrm 6 ?_
   exact norm_ (by simp only [putAll, Act.put, List.setIfInBounds_toArray, List.set_cons_zero, List.set_cons_succ]) (hCont (v416, v419) _ ⟨hHeld, (rM_ HO417 (fun _ hk => hk.2)), (rM_ HO420 (fun _ hk => hk.2)), (Short.bK BK414), (Short.hB HB)⟩)
 rintro ⟨v416, v419⟩ w9 ⟨hS_, h0_, h1_, h2_, h3_⟩
 have n0_ : Aside0 (Kd.R (Kd.int .u8) 5 w9 w.heap.size (fun k_ => nb_ k_ (v419)) v416 y415) := ⟨h0_⟩
 have n1_ : Aside0 (Kd.R (Kd.int .u8) 5 w9 w.heap.size (fun k_ => nb_ k_ (v416)) v419 t418) := ⟨h1_⟩
 have n2_ : Aside0 (w9.heap[gb414]? = some (.cells #[.int .i64 a0_0, .int .i64 a0_1] 24 (0, 0))) := ⟨h2_⟩
 have n3_ : Aside0 (Below w.heap.size w w9) := ⟨h3_⟩
 clear BK414 HB
 clear h0_ h1_ h2_ h3_
 revert n0_ n1_ n2_ n3_
 intro HO417 HO420 BK414 HB
 have hHeld : w9.cell? ⟨gb414, 0, none⟩ = some (.int .i64 a0_0) ∧ w9.cell? ⟨gb414, 1, none⟩ = some (.int .i64 a0_1) := hS_
 obtain ⟨Ao11, co11, eo11⟩ := cU HO420.out
 (first | subst eo11 | (injection eo11 with f1_ f2_ f3_; have f4_ := f1_.symm; have f5_ := f3_.symm; clear f1_ f2_ f3_; subst f4_; subst f5_))
 refine norm_ (a' := ?_) ?_ ?_
 rotate_left
 ·
  simp only [putAll, Act.put, List.setIfInBounds_toArray, List.set_cons_zero, List.set_cons_succ]
  rfl
 refine one_ (i := 7) (N := some 10) (Steps.Bs 9 255) rfl rfl (cB HT_.out z2_) z5_ (fun K hK => ?_)
 refine cY (Kd.int .u8) (w0 := w) w.heap.size (by rfl) (.tmp 6) (.tmp 9) 36 5 (.int .u8 0) 1 rfl Tryz.underlying36 info5 rfl z5_ z3_ v416 y415 t418 _ _ _ (fun k_ => nb_ k_ (.slice Ao11 t418.length co11)) (fun _ => False) rfl rfl ?aO ?aR (fun _ _ h => h) (fun _ h => h.elim) ?aF ?aB ?aS ?aL ?_
 (case aR => exact cX_ (R_reads' HO420.out).2.2)
 (case aB => exact (Short.hB HB))
 (case aF => exact (fun k_ hk => Kd.fresh' (R_lt (ZKR HO420)) k_ hk))
 (case aO => exact (ZKR HO417))
 (case aS => exact (aA (Short.hB HB)))
 (case aL => have := LMc3.out; omega)
 intro v422 w10 ho hb hg hat
 rw [← Ny421.out] at ho
 have n0_ := mk_ (dH (g := gb414) (o := .cells #[.int .i64 a0_0, .int .i64 a0_1] 24 (0, 0)) (Short.bK BK414) hg (R_ne HO417.out BK414.out z5_))
 have n1_ := mk_ (dR (ok := (fun _ => True)) (rM_ HO420 (fun _ hk => ⟨trivial, hk⟩)) hg hat)
 have n2_ := mk_ (hb)
 have n3_ := mk_ (ho)
 clear BK414 HO420 HB HO417
 revert n0_ n1_ n2_ n3_
 intro BK414 HO420 HB HO423
 clear ho hb hg hat
 refine hK.out _ _ ⟨kc_ BK414 0, kc_ BK414 1⟩ (fun hHeld => ?_)
 clear hK K
 refine nrm 10 ?_
 refine tI HT_ 8 2 9 511 ?_
 refine done_ (cC HT_.out z2_) ?_
 try go_wp2
 go_ret
 exact ⟨_, by first | rfl | (simp [aZ, aY] <;> rfl) | (simp [*, aZ, aY] <;> rfl), by (with_reducible repeat (first | apply R_alloc | apply R_drewN | apply R_drew)); exact R_mono HO423.out (fun _ hk => trivial), Short.hB HB⟩
def bJ.l0 : Nat → List Int → List Int → Int → Option (List Int)
 | 0, _, _, _ => none
 | k + 1, x0, x3, x4 => if x4 < (x0.length : Int) then (if 0 ≤ x4 then ((bB.f k (rd x0 x4) 4).bind fun t428 => (if x3.length + t428.length < 140737488355328 then (bJ.l0 k x0 (x3 ++ t428) (wrap64 (x4 + 1))) else (none))) else (none)) else (some x3)
def bJ.f (k : Nat) (l0 : List Int) : Option (List Int) := bJ.l0 k l0 (([((l0.length : Int)) % 256] : List Int)) 0
theorem bJ.calls (k : Nat) (A0 : Option Addr) (c0 : Nat) (l0 : List Int) (r : List Int) (w : World) (hr0 : Kd.C (Kd.int .i64) w A0 l0.length l0) (hc0 : l0.length ≤ c0) (h : bJ.f k l0 = some r) :
  Calls Tryz.prog 46 #[.slice A0 l0.length c0] w fun e w' => ∃ v0_ : Value, e = .returned (v0_) ∧ Kd.R (Kd.int .u8) 5 w' w.heap.size (fun _ => True) v0_ r ∧ Below w.heap.size w w' := by
 have HR0 := mk_ hr0
 have HC0 := mk_ hc0
 clear hr0 hc0
 have HB := mk_ (Below.refl w.heap.size w)
 have H : (bJ.l0 k l0 (([((l0.length : Int)) % 256] : List Int)) 0) = some r := h
 clear h
 obtain ⟨y424, hy424⟩ : ∃ y_ : List Int, y_ = (([((l0.length : Int)) % 256] : List Int)) := ⟨_, rfl⟩
 replace H : (bJ.l0 k l0 y424 0) = some r := by first | (rw [hy424]; with_reducible exact H) | (have H2_ := (Option.bind_some _ _).symm.trans H; rw [hy424]; with_reducible exact H2_) | (have H2_ := (Option.bind_some _ _).symm.trans H; with_reducible exact H2_) | with_reducible exact H | (rw [hy424]; exact H) | exact H
 have Ny424 := mk_ hy424
 clear hy424
 have H' := mk_ H
 clear H
 go_enter Tryz.func46, Tryz.ntmps46
 go_wp2_with (first | ((with_reducible refine aQ (N := 8) rfl ?_); refine R_lit (Kd.int .u8) _ 5 ?hg (N := 8) ?hd (xs := ([((l0.length : Int)) % 256] : List Int)) (inner := [.int .u8 (((l0.length : Int)) % 256)]) (ok := fun _ => True) (okp := fun _ => True) ?hr ?hp (fun _ hk => hk) trivial (Below.refl _ _) (Nat.le_refl _) z6_ ?_; (case hd => rfl); (case hg => rfl); (case hr => first | (go_simp; done) | (go_simp; rfl)); (case hp => exact (Reps.one (show Kd.M (Kd.int .u8) _ _ _ (((l0.length : Int)) % 256) [.int .u8 (((l0.length : Int)) % 256)] from rfl) (Reps.none _ _))); intro v425 w2 ho3 hb hg_ hnew_; clear hg_ hnew_; (first | rw [← Ny424.out] at ho3 | (simp only [Int.reduceToNat] at ho3; rw [← Ny424.out] at ho3)); have n0_ := mk_ (bW ho3 (aA (Short.hB HB))); have n1_ := mk_ (aC (Short.hB HB) hb); clear HB; revert n0_ n1_; intro HO426 HB; clear hb ho3))
 go_loopg [3, 4] k (fun kq v3 v4 w' => ∃ (x3_1 : List Int) (x4_1 : Int), v4 = .int .i64 x4_1 ∧ Aside0 (bJ.l0 kq l0 x3_1 x4_1 = some r) ∧ Aside0 (kq ≤ k) ∧ Aside0 (Kd.R (Kd.int .u8) 5 w' w.heap.size (fun _ => True) v3 x3_1) ∧ Aside0 (Below w.heap.size w w'))
 case atStart => exact ⟨(y424), (0), z4_, H', ⟨Nat.le_refl _⟩, ⟨by (with_reducible repeat (first | apply R_alloc | apply R_drewN | apply R_drew)); exact HO426.out⟩, ⟨Short.hB HB⟩⟩
 case round =>
  clear H'
  try clear p2
  obtain ⟨x3_1, x4_1, rfl, HA, HK1, HO_3, HB⟩ := hrel
  cases gk with
  | zero => exact absurd HA.out (by simp [bJ.l0])
  | succ k1 =>
   have H := HA.out
   clear HA
   simp only [bJ.l0] at H
   by_cases c4 : x4_1 < (l0.length : Int)
   rotate_left
   ·
    rw [if_neg c4] at H
    have c4b0 : decide (x4_1 < (l0.length : Int)) = false := decide_eq_false c4
    clear c4
    obtain rfl := Option.some.inj H
    go_wp2
    go_ret
    exact ⟨_, by first | rfl | (simp [aZ, aY] <;> rfl) | (simp [*, aZ, aY] <;> rfl), by (with_reducible repeat (first | apply R_alloc | apply R_drewN | apply R_drew)); exact HO_3.out, Short.hB HB⟩
   rw [if_pos c4] at H
   have c4b0 : decide (x4_1 < (l0.length : Int)) = true := decide_eq_true c4
   clear c4
   by_cases c5 : 0 ≤ x4_1
   rotate_left
   ·
    rw [if_neg c5] at H
    exact absurd H z6_
   rw [if_pos c5] at H
   have c5b0 : decide (0 ≤ x4_1) = true := decide_eq_true c5
   clear c5
   obtain ⟨t428, A6, H⟩ := Option.bind_eq_some_iff.mp H
   replace A6 := mk_ A6
   by_cases c7 : x3_1.length + t428.length < 140737488355328
   rotate_left
   ·
    rw [if_neg c7] at H
    exact absurd H z6_
   rw [if_pos c7] at H
   have LMc7 := mk_ c7
   clear c7
   obtain ⟨y431, hy431⟩ : ∃ y_ : List Int, y_ = (x3_1 ++ t428) := ⟨_, rfl⟩
   replace H : (bJ.l0 k1 l0 y431 (wrap64 (x4_1 + 1))) = some r := by first | (rw [hy431]; with_reducible exact H) | (have H2_ := (Option.bind_some _ _).symm.trans H; rw [hy431]; with_reducible exact H2_) | (have H2_ := (Option.bind_some _ _).symm.trans H; with_reducible exact H2_) | with_reducible exact H | (rw [hy431]; exact H) | exact H
   have Ny431 := mk_ hy431
   clear hy431
   have H' := mk_ H
   clear H
   have p427 : 0 ≤ (x4_1 : Int) := of_decide_eq_true z1_
   have q427 : x4_1 < (l0.length : Int) := of_decide_eq_true z1_
   obtain ⟨ad427, e427, hx427_0⟩ := Kd.at_int HR0.out x4_1 p427 q427
   cases e427
   replace hx427_0 := up_ HB hx427_0
   replace p427 := eq_true p427
   replace q427 := eq_true q427
   go_wp2_with (first | ((with_reducible refine aE (f := 77) rfl ?_); refine Short.gL (some 20) Tryz.func77 #[.int .i64 (rd l0 x4_1), .int .i64 4] (h := ?_); (with_reducible refine (bB.calls k1 (rd l0 x4_1) 4 t428 _ A6.out).mono ?_); rintro e w8 ⟨v429, rfl, ho0, hb⟩; refine ⟨_, rfl, ?_⟩; have n0_ := mk_ (R_elder' (ZKR HO_3) (R_base ho0) hb); have n1_ := mk_ (bW (R_new' ho0 (R_lt (ZKR HO_3))) (aA (Short.hB HB))); have n2_ := mk_ (aC (Short.hB HB) hb); clear HO_3 HB; revert n0_ n1_ n2_; intro HO_3 HO430 HB; (try clear hb ho0); obtain ⟨Ao10, co10, eo10⟩ := cU HO430.out; subst eo10) | ((with_reducible refine cK (b := .append) (xs := #[.tmp 15, .tmp 20]) rfl ?_); at_builtin; refine eF (Kd.int .u8) (w0 := w) w.heap.size rfl (.tmp 15) (.tmp 20) 36 5 (.int .u8 0) 1 rfl Tryz.underlying36 info5 rfl z5_ z3_ u3 x3_1 t428 _ _ _ (fun k_ => nb_ k_ (.slice Ao10 t428.length co10)) (fun _ => False) rfl rfl ?aO ?aR (fun _ _ h => h) (fun _ h => h.elim) ?aF ?aB ?aS ?aL ?_; (case aR => exact cX_ (R_reads' HO430.out).2.2); (case aB => exact (Short.hB HB)); (case aF => exact (fun k_ hk => Kd.fresh' (R_lt (ZKR HO430)) k_ hk)); (case aO => exact (rM_ HO_3 (fun _ hk => hk.2))); (case aS => exact (aA (Short.hB HB))); (case aL => have := LMc7.out; omega); intro v432 w9 ho hb hg hat; rw [← Ny431.out] at ho; have n0_ := mk_ (dR (ok := (fun _ => True)) (ZKR HO430) hg hat); have n1_ := mk_ (hb); have n2_ := mk_ (ho); clear HO430 HB HO_3; revert n0_ n1_ n2_; intro HO430 HB HO433; clear ho hb hg hat))
   go_roundg k1
   case measure => have := HK1.out; omega
   case rel => exact ⟨(y431), (wrap64 (x4_1 + 1)), z4_, H', ⟨by have := HK1.out; omega⟩, ⟨by (with_reducible repeat (first | apply R_alloc | apply R_drewN | apply R_drew)); exact R_mono HO433.out (fun _ hk => trivial)⟩, ⟨Short.hB HB⟩⟩
end Go.Proofs.YtjnjfogfpmeacaaGreat.PAll
end
section
namespace Go.Proofs.YtjnjfogfpmeacaaGreat.PAll
open Go.RowKit PrintWords PrintLast PrintMore ZipT PrintWords.Kd PrintMore.Kd
attribute [local go_sem] eP eN fD fA dS dT eO eK   -- for this text's walks alone
set_option linter.unusedVariables false
set_option linter.unusedSimpArgs false
def bP.f (k : Nat) (a0_0 : Int) (a0_1 : Int) (a0_2 : Int) : Option (List Int) := (bB.f k a0_0 6).bind fun t435 => ((bB.f k a0_1 3).bind fun t438 => (if t435.length + t438.length < 140737488355328 then ((some (t435 ++ t438 : List Int)).bind fun y441 => ((some (([(a0_2) % 256] : List Int) : List Int)).bind fun y444 => (if y441.length + y444.length < 140737488355328 then (some (y441 ++ y444)) else (none)))) else (none)))
def bP.T1 : Bool × List (List Nat × List Nat) := (true, [([], []), ([0], [0]), ([1], [1]), ([], []), ([3], [3]), ([4, 2], [4]), ([2, 5, 5], [2, 5]), ([], []), ([7], [7]), ([8], [8]), ([9], [9]), ([6, 10, 6], [6, 10]), ([11, 11, 0, 1, 2, 3, 4, 5, 6, 7, 8, 9, 10, 11], [11])])
def bP.B1 : List Nat := [0, 1, 3, 0, 8, 31, 63, 0, 128, 384, 896, 2047, 4095]
theorem bP.tab1 : rtab .any (opsOf Tryz.f47 1) = bP.T1 := by kernel_rfl
theorem bP.bits1 : waitsOk bP.T1.2 bP.B1 = true := by kernel_rfl
theorem bP.calls (k : Nat) (a0_0 : Int) (a0_1 : Int) (a0_2 : Int) (r : List Int) (w : World) (h : bP.f k a0_0 a0_1 a0_2 = some r) :
  Calls Tryz.prog 47 #[.agg #[.int .i64 a0_0, .int .i64 a0_1, .int .i64 a0_2]] w fun e w' => ∃ v0_ : Value, e = .returned (v0_) ∧ Kd.R (Kd.int .u8) 5 w' w.heap.size (fun _ => True) v0_ r ∧ Below w.heap.size w w' := by
 have hu27 := Tryz.underlying27
 have HB := mk_ (Below.refl w.heap.size w)
 have H : ((bB.f k a0_0 6).bind fun t435 => ((bB.f k a0_1 3).bind fun t438 => (if t435.length + t438.length < 140737488355328 then ((some (t435 ++ t438 : List Int)).bind fun y441 => ((some (([(a0_2) % 256] : List Int) : List Int)).bind fun y444 => (if y441.length + y444.length < 140737488355328 then (some (y441 ++ y444)) else (none)))) else (none)))) = some r := h
 clear h
 obtain ⟨t435, A2, H⟩ := Option.bind_eq_some_iff.mp H
 replace A2 := mk_ A2
 obtain ⟨t438, A3, H⟩ := Option.bind_eq_some_iff.mp H
 replace A3 := mk_ A3
 by_cases c4 : t435.length + t438.length < 140737488355328
 rotate_left
 ·
  rw [if_neg c4] at H
  exact absurd H z6_
 rw [if_pos c4] at H
 have LMc4 := mk_ c4
 clear c4
 obtain ⟨y441, hy441⟩ : ∃ y_ : List Int, y_ = (t435 ++ t438) := ⟨_, rfl⟩
 replace H : ((some (([(a0_2) % 256] : List Int) : List Int)).bind fun y444 => (if y441.length + y444.length < 140737488355328 then (some (y441 ++ y444)) else (none))) = some r := by first | (rw [hy441]; with_reducible exact H) | (have H2_ := (Option.bind_some _ _).symm.trans H; rw [hy441]; with_reducible exact H2_) | (have H2_ := (Option.bind_some _ _).symm.trans H; with_reducible exact H2_) | with_reducible exact H | (rw [hy441]; exact H) | exact H
 have Ny441 := mk_ hy441
 clear hy441
 obtain ⟨y444, hy444⟩ : ∃ y_ : List Int, y_ = (([(a0_2) % 256] : List Int)) := ⟨_, rfl⟩
 replace H : (if y441.length + y444.length < 140737488355328 then (some (y441 ++ y444)) else (none)) = some r := by first | (rw [hy444]; with_reducible exact H) | (have H2_ := (Option.bind_some _ _).symm.trans H; rw [hy444]; with_reducible exact H2_) | (have H2_ := (Option.bind_some _ _).symm.trans H; with_reducible exact H2_) | with_reducible exact H | (rw [hy444]; exact H) | exact H
 have Ny444 := mk_ hy444
 clear hy444
 by_cases c5 : y441.length + y444.length < 140737488355328
 rotate_left
 ·
  rw [if_neg c5] at H
  exact absurd H z6_
 rw [if_pos c5] at H
 have LMc5 := mk_ c5
 clear c5
 obtain ⟨y447, hy447⟩ : ∃ y_ : List Int, y_ = (y441 ++ y444) := ⟨_, rfl⟩
 replace H : (some y447) = some r := by first | (rw [hy447]; with_reducible exact H) | (have H2_ := (Option.bind_some _ _).symm.trans H; rw [hy447]; with_reducible exact H2_) | (have H2_ := (Option.bind_some _ _).symm.trans H; with_reducible exact H2_) | with_reducible exact H | (rw [hy447]; exact H) | exact H
 have Ny447 := mk_ hy447
 clear hy447
 obtain rfl := Option.some.inj H
 go_enter Tryz.func47, Tryz.ntmps47
 try go_wp2_with (first | ((with_reducible refine aQ (N := 1) rfl ?_); refine aN ?hg (N := 1) ?hd (cs := #[.int .i64 a0_0, .int .i64 a0_1, .int .i64 a0_2]) (t := 27) ?hr ?_; (case hd => rfl); (case hg => rfl); (case hr => first | (go_simp; done) | (go_simp; rfl)); intro gb434 hg w6 hbox hb; have n0_ := mk_ (aC (Short.hB HB) hb); have n1_ := mk_ (hbox); have n2_ := mk_ ((by rw [hg]; exact (aA (Short.hB HB)) : w.heap.size ≤ gb434)); have n3_ := mk_ ((by rw [hg]; exact (aA (Short.hB HB)) : w.heap.size ≤ gb434)); clear HB; revert n0_ n1_ n2_ n3_; intro HB BK434 GW434 GE434; clear hb hbox hg))
 have n0_ := mk_ (aI BK434.out)
 have n1_ := mk_ (dE HB.out)
 clear BK434 HB
 revert n0_ n1_
 intro BK434 HB
 refine fM (n := 13) (S := fun w' => w'.cell? ⟨gb434, 0, none⟩ = some (.int .i64 a0_0) ∧ w'.cell? ⟨gb434, 1, none⟩ = some (.int .i64 a0_1) ∧ w'.cell? ⟨gb434, 2, none⟩ = some (.int .i64 a0_2)) (ds := []) (Steps.Bs 13 0) z2_ rfl rfl ⟨kc_ BK434 0, kc_ BK434 1, kc_ BK434 2⟩ (fun hHeld => ?_); refine cZ bP.tab1 bP.bits1 (fun HT_ HW_ => ?_)
 generalize w6.drew = w7 at BK434 HB hHeld ⊢
 refine tI HT_ 0 3 13 1 ?_
 refine tI HT_ 3 6 13 9 ?_
 refine tI HT_ 7 10 13 137 ?_
 refine tT HT_ HW_ hHeld 1 4 13 139 ?_
 refine tT HT_ HW_ hHeld 4 7 13 155 ?_
 refine tT HT_ HW_ hHeld 8 11 13 411 ?_
 refine tI HT_ 9 12 13 923 ?_
 refine join_ (σ := Value × Value × Value × Value) 2 (Steps.Bs 13 2047) (fun s_ => [(5, s_.1), (8, s_.2.1), (9, s_.2.2.1), (13, s_.2.2.2)]) (fun s_ w' => (w'.cell? ⟨gb434, 0, none⟩ = some (.int .i64 a0_0) ∧ w'.cell? ⟨gb434, 1, none⟩ = some (.int .i64 a0_1) ∧ w'.cell? ⟨gb434, 2, none⟩ = some (.int .i64 a0_2)) ∧ (Kd.R (Kd.int .u8) 5 w' w.heap.size (fun k_ => nb_ k_ (s_.2.2.1) ∧ nb_ k_ (s_.2.2.2)) s_.2.1 t438) ∧ (Kd.R (Kd.int .u8) 5 w' w.heap.size (fun k_ => nb_ k_ (s_.2.1) ∧ nb_ k_ (s_.2.2.2)) s_.2.2.1 y441) ∧ (Kd.R (Kd.int .u8) 5 w' w.heap.size (fun k_ => nb_ k_ (s_.2.1) ∧ nb_ k_ (s_.2.2.1)) s_.2.2.2 y444) ∧ (w'.heap[gb434]? = some (.cells #[.int .i64 a0_0, .int .i64 a0_1, .int .i64 a0_2] 27 (0, 0))) ∧ (Below w.heap.size w w')) ?_ ?_
 rotate_left
 ·
  intro hCont
  refine two_ (i := 2) (j := 10) (Ni := some 5) (Nj := some 13) (Steps.Bs 13 927) (Steps.Bs 13 1947) rfl rfl rfl rfl (two_of HT_.out z2_) z5_ z5_ (fun K hK => ?_) (fun K hK => ?_)
  ·
   skip
   refine goes_ Tryz.func77 z2_ rfl #[.int .i64 a0_0, .int .i64 6] (by rfl) rfl rfl z0_ ?_
   with_reducible refine (bB.calls k a0_0 6 t435 _ A2.out).mono ?_
   rintro e w8 ⟨v436, rfl, ho0, hb⟩
   refine ⟨_, rfl, ?_⟩
   have n0_ := mk_ (bW ho0 (aA (Short.hB HB)))
   have n1_ := mk_ (bB_ BK434 hb)
   have n2_ := mk_ (aC (Short.hB HB) hb)
   clear BK434 HB
   revert n0_ n1_ n2_
   intro HO437 BK434 HB
   (try clear hb)
   (try clear hb2)
   (try clear hk)
   (try clear hi)
   (try clear ho0)
   refine hK.out _ _ ⟨kc_ BK434 0, kc_ BK434 1, kc_ BK434 2⟩ (fun hHeld => ?_)
   clear hK K
   refine nrm 5 ?_
   refine two_ (i := 5) (j := 10) (Ni := some 8) (Nj := some 13) (Steps.Bs 13 959) (Steps.Bs 13 1951) rfl rfl rfl rfl (two_of HT_.out z2_) z5_ z5_ (fun K hK => ?_) (fun K hK => ?_)
   ·
    skip
    refine goes_ Tryz.func77 z2_ rfl #[.int .i64 a0_1, .int .i64 3] (by rfl) rfl rfl z0_ ?_
    with_reducible refine (bB.calls k a0_1 3 t438 _ A3.out).mono ?_
    rintro e w9 ⟨v439, rfl, ho0, hb⟩
    refine ⟨_, rfl, ?_⟩
    have n0_ := mk_ (R_elder' (ZKR HO437) (R_base ho0) hb)
    have n1_ := mk_ (bW (R_new' ho0 (R_lt (ZKR HO437))) (aA (Short.hB HB)))
    have n2_ := mk_ (bB_ BK434 hb)
    have n3_ := mk_ (aC (Short.hB HB) hb)
    clear HO437 BK434 HB
    revert n0_ n1_ n2_ n3_
    intro HO437 HO440 BK434 HB
    (try clear hb)
    (try clear hb2)
    (try clear hk)
    (try clear hi)
    (try clear ho0)
    obtain ⟨Ao11, co11, eo11⟩ := cU HO440.out
    (first | subst eo11 | (injection eo11 with f1_ f2_ f3_; have f4_ := f1_.symm; have f5_ := f3_.symm; clear f1_ f2_ f3_; subst f4_; subst f5_))
    refine hK.out _ _ ⟨kc_ BK434 0, kc_ BK434 1, kc_ BK434 2⟩ (fun hHeld => ?_)
    clear hK K
    refine nrm 8 ?_
    refine two_ (i := 6) (j := 10) (Ni := some 9) (Nj := some 13) (Steps.Bs 13 1023) (Steps.Bs 13 1983) rfl rfl rfl rfl (two_of HT_.out z2_) z5_ z5_ (fun K hK => ?_) (fun K hK => ?_)
    ·
     skip
     refine cY (Kd.int .u8) (w0 := w) w.heap.size (by rfl) (.tmp 5) (.tmp 8) 36 5 (.int .u8 0) 1 rfl Tryz.underlying36 info5 rfl z5_ z3_ v436 t435 t438 _ _ _ (fun k_ => nb_ k_ (.slice Ao11 t438.length co11)) (fun _ => False) rfl rfl ?aO ?aR (fun _ _ h => h) (fun _ h => h.elim) ?aF ?aB ?aS ?aL ?_
     (case aR => exact cX_ (R_reads' HO440.out).2.2)
     (case aB => exact (Short.hB HB))
     (case aF => exact (fun k_ hk => Kd.fresh' (R_lt (ZKR HO440)) k_ hk))
     (case aO => exact (rM_ HO437 (fun _ hk => hk.2)))
     (case aS => exact (aA (Short.hB HB)))
     (case aL => have := LMc4.out; omega)
     intro v442 w10 ho hb hg hat
     rw [← Ny441.out] at ho
     have n0_ := mk_ (dH (g := gb434) (o := .cells #[.int .i64 a0_0, .int .i64 a0_1, .int .i64 a0_2] 27 (0, 0)) (Short.bK BK434) hg (R_ne HO437.out BK434.out z5_))
     have n1_ := mk_ (dR (ok := (fun _ => True)) (ZKR HO440) hg hat)
     have n2_ := mk_ (hb)
     have n3_ := mk_ (ho)
     clear BK434 HO440 HB HO437
     revert n0_ n1_ n2_ n3_
     intro BK434 HO440 HB HO443
     clear ho hb hg hat
     refine hK.out _ _ ⟨kc_ BK434 0, kc_ BK434 1, kc_ BK434 2⟩ (fun hHeld => ?_)
     clear hK K
     refine nrm 9 ?_
     refine one_ (i := 10) (N := some 13) (Steps.Bs 13 2047) rfl rfl (cB HT_.out z2_) z5_ (fun K hK => ?_)
     refine fO (Kd.int .u8) _ 5 ?hg (N := 13) ?hd (xs := ([(a0_2) % 256] : List Int)) (inner := [.int .u8 ((a0_2) % 256)]) (ok := fun _ => True) (okp := fun _ => True) ?hr ?hp (fun _ hk => hk) trivial (Below.refl _ _) (Nat.le_refl _) z6_ ?_; (case hd => rfl); (case hg => rfl); (case hr => first | (go_simp; done) | (go_simp; rfl)); (case hp => exact (Reps.one (show Kd.M (Kd.int .u8) _ _ _ ((a0_2) % 256) [.int .u8 ((a0_2) % 256)] from rfl) (Reps.none _ _)))
     intro v445 w12 ho13 hb hg_ hnew_
     clear hg_ hnew_
     (first | rw [← Ny444.out] at ho13 | (simp only [Int.reduceToNat] at ho13; rw [← Ny444.out] at ho13))
     have n0_ := mk_ (R_elder' (ZKR HO440) (R_base ho13) hb)
     have n1_ := mk_ (R_elder' (ZKR HO443) (R_base ho13) hb)
     have n2_ := mk_ (bW (R_new' (R_new' ho13 (R_lt (ZKR HO440))) (R_lt (ZKR HO443))) (aA (Short.hB HB)))
     have n3_ := mk_ (bB_ BK434 hb)
     have n4_ := mk_ (aC (Short.hB HB) hb)
     clear HO440 HO443 BK434 HB
     revert n0_ n1_ n2_ n3_ n4_
     intro HO440 HO443 HO446 BK434 HB
     clear hb ho13
     refine hK.out _ _ ⟨kc_ BK434 0, kc_ BK434 1, kc_ BK434 2⟩ (fun hHeld => ?_)
     clear hK K
     refine nrm 13 ?_
     exact norm_ (by simp only [putAll, Act.put, List.setIfInBounds_toArray, List.set_cons_zero, List.set_cons_succ]) (hCont (v436, .slice Ao11 t438.length co11, v442, v445) _ ⟨hHeld, (rM_ HO440 (fun _ hk => ⟨hk.1.2, hk.2⟩)), (ZKR HO443), (rM_ HO446 (fun _ hk => ⟨hk.1.2, hk.2⟩)), (Short.bK BK434), (Short.hB HB)⟩)
    ·
     skip
     refine fO (Kd.int .u8) _ 5 ?hg (N := 13) ?hd (xs := ([(a0_2) % 256] : List Int)) (inner := [.int .u8 ((a0_2) % 256)]) (ok := fun _ => True) (okp := fun _ => True) ?hr ?hp (fun _ hk => hk) trivial (Below.refl _ _) (Nat.le_refl _) z6_ ?_; (case hd => rfl); (case hg => rfl); (case hr => first | (go_simp; done) | (go_simp; rfl)); (case hp => exact (Reps.one (show Kd.M (Kd.int .u8) _ _ _ ((a0_2) % 256) [.int .u8 ((a0_2) % 256)] from rfl) (Reps.none _ _)))
     intro v445 w10 ho11 hb hg_ hnew_
     clear hg_ hnew_
     (first | rw [← Ny444.out] at ho11 | (simp only [Int.reduceToNat] at ho11; rw [← Ny444.out] at ho11))
     have n0_ := mk_ (R_elder' (ZKR HO437) (R_base ho11) hb)
     have n1_ := mk_ (R_elder' (ZKR HO440) (R_base ho11) hb)
     have n2_ := mk_ (bW (R_new' (R_new' ho11 (R_lt (ZKR HO437))) (R_lt (ZKR HO440))) (aA (Short.hB HB)))
     have n3_ := mk_ (bB_ BK434 hb)
     have n4_ := mk_ (aC (Short.hB HB) hb)
     clear HO437 HO440 BK434 HB
     revert n0_ n1_ n2_ n3_ n4_
     intro HO437 HO440 HO446 BK434 HB
     clear hb ho11
     obtain ⟨Ao13, co13, eo13⟩ := cU HO440.out
     (first | subst eo13 | (injection eo13 with f1_ f2_ f3_; have f4_ := f1_.symm; have f5_ := f3_.symm; clear f1_ f2_ f3_; subst f4_; subst f5_))
     refine hK.out _ _ ⟨kc_ BK434 0, kc_ BK434 1, kc_ BK434 2⟩ (fun hHeld => ?_)
     clear hK K
     refine nrm 13 ?_
     refine one_ (i := 6) (N := some 9) (Steps.Bs 13 2047) rfl rfl (cB HT_.out z2_) z5_ (fun K hK => ?_)
     refine cY (Kd.int .u8) (w0 := w) w.heap.size (by rfl) (.tmp 5) (.tmp 8) 36 5 (.int .u8 0) 1 rfl Tryz.underlying36 info5 rfl z5_ z3_ v436 t435 t438 _ _ _ (fun k_ => nb_ k_ (.slice Ao13 t438.length co13) ∧ nb_ k_ (v445)) (fun _ => False) rfl rfl ?aO ?aR (fun _ _ h => h) (fun _ h => h.elim) ?aF ?aB ?aS ?aL ?_
     (case aR => exact cX_ (R_reads' HO440.out).2.2)
     (case aB => exact (Short.hB HB))
     (case aF => exact (fun k_ hk => ⟨Kd.fresh' (R_lt (ZKR HO440)) k_ hk, Kd.fresh' (R_lt (ZKR HO446)) k_ hk⟩))
     (case aO => exact (rM_ HO437 (fun _ hk => ⟨hk.1.2, hk.2⟩)))
     (case aS => exact (aA (Short.hB HB)))
     (case aL => have := LMc4.out; omega)
     intro v442 w12 ho hb hg hat
     rw [← Ny441.out] at ho
     have n0_ := mk_ (dH (g := gb434) (o := .cells #[.int .i64 a0_0, .int .i64 a0_1, .int .i64 a0_2] 27 (0, 0)) (Short.bK BK434) hg (R_ne HO437.out BK434.out z5_))
     have n1_ := mk_ (dR (ok := (fun k_ => nb_ k_ (v445))) (rM_ HO440 (fun _ hk => ⟨hk.2, hk.1.2⟩)) hg hat)
     have n2_ := mk_ (dR (ok := (fun k_ => nb_ k_ (.slice Ao13 t438.length co13))) (rM_ HO446 (fun _ hk => ⟨hk.2, hk.1.2⟩)) hg hat)
     have n3_ := mk_ (hb)
     have n4_ := mk_ (ho)
     clear BK434 HO440 HO446 HB HO437
     revert n0_ n1_ n2_ n3_ n4_
     intro BK434 HO440 HO446 HB HO443
     clear ho hb hg hat
     refine hK.out _ _ ⟨kc_ BK434 0, kc_ BK434 1, kc_ BK434 2⟩ (fun hHeld => ?_)
     clear hK K
     refine nrm 9 ?_
     exact norm_ (by simp only [putAll, Act.put, List.setIfInBounds_toArray, List.set_cons_zero, List.set_cons_succ]) (hCont (v436, .slice Ao13 t438.length co13, v442, v445) _ ⟨hHeld, (rM_ HO440 (fun _ hk => ⟨hk.2, hk.1⟩)), (ZKR HO443), (ZKR HO446), (Short.bK BK434), (Short.hB HB)⟩)
   ·
    skip
    refine fO (Kd.int .u8) _ 5 ?hg (N := 13) ?hd (xs := ([(a0_2) % 256] : List Int)) (inner := [.int .u8 ((a0_2) % 256)]) (ok := fun _ => True) (okp := fun _ => True) ?hr ?hp (fun _ hk => hk) trivial (Below.refl _ _) (Nat.le_refl _) z6_ ?_; (case hd => rfl); (case hg => rfl); (case hr => first | (go_simp; done) | (go_simp; rfl)); (case hp => exact (Reps.one (show Kd.M (Kd.int .u8) _ _ _ ((a0_2) % 256) [.int .u8 ((a0_2) % 256)] from rfl) (Reps.none _ _)))
    intro v445 w9 ho10 hb hg_ hnew_
    clear hg_ hnew_
    (first | rw [← Ny444.out] at ho10 | (simp only [Int.reduceToNat] at ho10; rw [← Ny444.out] at ho10))
    have n0_ := mk_ (R_elder' (ZKR HO437) (R_base ho10) hb)
    have n1_ := mk_ (bW (R_new' ho10 (R_lt (ZKR HO437))) (aA (Short.hB HB)))
    have n2_ := mk_ (bB_ BK434 hb)
    have n3_ := mk_ (aC (Short.hB HB) hb)
    clear HO437 BK434 HB
    revert n0_ n1_ n2_ n3_
    intro HO437 HO446 BK434 HB
    clear hb ho10
    refine hK.out _ _ ⟨kc_ BK434 0, kc_ BK434 1, kc_ BK434 2⟩ (fun hHeld => ?_)
    clear hK K
    refine nrm 13 ?_
    refine one_ (i := 5) (N := some 8) (Steps.Bs 13 1983) rfl rfl (cB HT_.out z2_) z5_ (fun K hK => ?_)
    refine goes_ Tryz.func77 z2_ rfl #[.int .i64 a0_1, .int .i64 3] (by rfl) rfl rfl z0_ ?_
    with_reducible refine (bB.calls k a0_1 3 t438 _ A3.out).mono ?_
    rintro e w11 ⟨v439, rfl, ho0, hb⟩
    refine ⟨_, rfl, ?_⟩
    have n0_ := mk_ (R_elder' (ZKR HO437) (R_base ho0) hb)
    have n1_ := mk_ (R_elder' (ZKR HO446) (R_base ho0) hb)
    have n2_ := mk_ (bW (R_new' (R_new' ho0 (R_lt (ZKR HO437))) (R_lt (ZKR HO446))) (aA (Short.hB HB)))
    have n3_ := mk_ (bB_ BK434 hb)
    have n4_ := mk_ (aC (Short.hB HB) hb)
    clear HO437 HO446 BK434 HB
    revert n0_ n1_ n2_ n3_ n4_
    intro HO437 HO446 HO440 BK434 HB
    (try clear hb)
    (try clear hb2)
    (try clear hk)
    (try clear hi)
    (try clear ho0)
    obtain ⟨Ao13, co13, eo13⟩ := cU HO440.out
    (first | subst eo13 | (injection eo13 with f1_ f2_ f3_; have f4_ := f1_.symm; have f5_ := f3_.symm; clear f1_ f2_ f3_; subst f4_; subst f5_))
    refine hK.out _ _ ⟨kc_ BK434 0, kc_ BK434 1, kc_ BK434 2⟩ (fun hHeld => ?_)
    clear hK K
    refine nrm 8 ?_
    refine one_ (i := 6) (N := some 9) (Steps.Bs 13 2047) rfl rfl (cB HT_.out z2_) z5_ (fun K hK => ?_)
    refine cY (Kd.int .u8) (w0 := w) w.heap.size (by rfl) (.tmp 5) (.tmp 8) 36 5 (.int .u8 0) 1 rfl Tryz.underlying36 info5 rfl z5_ z3_ v436 t435 t438 _ _ _ (fun k_ => nb_ k_ (v445) ∧ nb_ k_ (.slice Ao13 t438.length co13)) (fun _ => False) rfl rfl ?aO ?aR (fun _ _ h => h) (fun _ h => h.elim) ?aF ?aB ?aS ?aL ?_
    (case aR => exact cX_ (R_reads' HO440.out).2.2)
    (case aB => exact (Short.hB HB))
    (case aF => exact (fun k_ hk => ⟨Kd.fresh' (R_lt (ZKR HO446)) k_ hk, Kd.fresh' (R_lt (ZKR HO440)) k_ hk⟩))
    (case aO => exact (rM_ HO437 (fun _ hk => ⟨hk.1.2, hk.2⟩)))
    (case aS => exact (aA (Short.hB HB)))
    (case aL => have := LMc4.out; omega)
    intro v442 w12 ho hb hg hat
    rw [← Ny441.out] at ho
    have n0_ := mk_ (dH (g := gb434) (o := .cells #[.int .i64 a0_0, .int .i64 a0_1, .int .i64 a0_2] 27 (0, 0)) (Short.bK BK434) hg (R_ne HO437.out BK434.out z5_))
    have n1_ := mk_ (dR (ok := (fun k_ => nb_ k_ (.slice Ao13 t438.length co13))) (rM_ HO446 (fun _ hk => ⟨hk.2, hk.1.2⟩)) hg hat)
    have n2_ := mk_ (dR (ok := (fun k_ => nb_ k_ (v445))) (rM_ HO440 (fun _ hk => ⟨hk.2, hk.1.2⟩)) hg hat)
    have n3_ := mk_ (hb)
    have n4_ := mk_ (ho)
    clear BK434 HO446 HO440 HB HO437
    revert n0_ n1_ n2_ n3_ n4_
    intro BK434 HO446 HO440 HB HO443
    clear ho hb hg hat
    refine hK.out _ _ ⟨kc_ BK434 0, kc_ BK434 1, kc_ BK434 2⟩ (fun hHeld => ?_)
    clear hK K
    refine nrm 9 ?_
    exact norm_ (by simp only [putAll, Act.put, List.setIfInBounds_toArray, List.set_cons_zero, List.set_cons_succ]) (hCont (v436, .slice Ao13 t438.length co13, v442, v445) _ ⟨hHeld, (rM_ HO440 (fun _ hk => ⟨hk.2, hk.1⟩)), (rM_ HO443 (fun _ hk => ⟨hk.2, hk.1⟩)), (ZKR HO446), (Short.bK BK434), (Short.hB HB)⟩)
  ·
   skip
   refine fO (Kd.int .u8) _ 5 ?hg (N := 13) ?hd (xs := ([(a0_2) % 256] : List Int)) (inner := [.int .u8 ((a0_2) % 256)]) (ok := fun _ => True) (okp := fun _ => True) ?hr ?hp (fun _ hk => hk) trivial (Below.refl _ _) (Nat.le_refl _) z6_ ?_; (case hd => rfl); (case hg => rfl); (case hr => first | (go_simp; done) | (go_simp; rfl)); (case hp => exact (Reps.one (show Kd.M (Kd.int .u8) _ _ _ ((a0_2) % 256) [.int .u8 ((a0_2) % 256)] from rfl) (Reps.none _ _)))
   intro v445 w8 ho9 hb hg_ hnew_
   clear hg_ hnew_
   (first | rw [← Ny444.out] at ho9 | (simp only [Int.reduceToNat] at ho9; rw [← Ny444.out] at ho9))
   have n0_ := mk_ (bW ho9 (aA (Short.hB HB)))
   have n1_ := mk_ (bB_ BK434 hb)
   have n2_ := mk_ (aC (Short.hB HB) hb)
   clear BK434 HB
   revert n0_ n1_ n2_
   intro HO446 BK434 HB
   clear hb ho9
   refine hK.out _ _ ⟨kc_ BK434 0, kc_ BK434 1, kc_ BK434 2⟩ (fun hHeld => ?_)
   clear hK K
   refine nrm 13 ?_
   refine one_ (i := 2) (N := some 5) (Steps.Bs 13 1951) rfl rfl (cB HT_.out z2_) z5_ (fun K hK => ?_)
   refine goes_ Tryz.func77 z2_ rfl #[.int .i64 a0_0, .int .i64 6] (by rfl) rfl rfl z0_ ?_
   with_reducible refine (bB.calls k a0_0 6 t435 _ A2.out).mono ?_
   rintro e w10 ⟨v436, rfl, ho0, hb⟩
   refine ⟨_, rfl, ?_⟩
   have n0_ := mk_ (R_elder' (ZKR HO446) (R_base ho0) hb)
   have n1_ := mk_ (bW (R_new' ho0 (R_lt (ZKR HO446))) (aA (Short.hB HB)))
   have n2_ := mk_ (bB_ BK434 hb)
   have n3_ := mk_ (aC (Short.hB HB) hb)
   clear HO446 BK434 HB
   revert n0_ n1_ n2_ n3_
   intro HO446 HO437 BK434 HB
   (try clear hb)
   (try clear hb2)
   (try clear hk)
   (try clear hi)
   (try clear ho0)
   refine hK.out _ _ ⟨kc_ BK434 0, kc_ BK434 1, kc_ BK434 2⟩ (fun hHeld => ?_)
   clear hK K
   refine nrm 5 ?_
   refine one_ (i := 5) (N := some 8) (Steps.Bs 13 1983) rfl rfl (cB HT_.out z2_) z5_ (fun K hK => ?_)
   refine goes_ Tryz.func77 z2_ rfl #[.int .i64 a0_1, .int .i64 3] (by rfl) rfl rfl z0_ ?_
   with_reducible refine (bB.calls k a0_1 3 t438 _ A3.out).mono ?_
   rintro e w11 ⟨v439, rfl, ho0, hb⟩
   refine ⟨_, rfl, ?_⟩
   have n0_ := mk_ (R_elder' (ZKR HO446) (R_base ho0) hb)
   have n1_ := mk_ (R_elder' (ZKR HO437) (R_base ho0) hb)
   have n2_ := mk_ (bW (R_new' (R_new' ho0 (R_lt (ZKR HO446))) (R_lt (ZKR HO437))) (aA (Short.hB HB)))
   have n3_ := mk_ (bB_ BK434 hb)
   have n4_ := mk_ (aC (Short.hB HB) hb)
   clear HO446 HO437 BK434 HB
   revert n0_ n1_ n2_ n3_ n4_
   intro HO446 HO437 HO440 BK434 HB
   (try clear hb)
   (try clear hb2)
   (try clear hk)
   (try clear hi)
   (try clear ho0)
   obtain ⟨Ao13, co13, eo13⟩ := cU HO440.out
   (first | subst eo13 | (injection eo13 with f1_ f2_ f3_; have f4_ := f1_.symm; have f5_ := f3_.symm; clear f1_ f2_ f3_; subst f4_; subst f5_))
   refine hK.out _ _ ⟨kc_ BK434 0, kc_ BK434 1, kc_ BK434 2⟩ (fun hHeld => ?_)
   clear hK K
   refine nrm 8 ?_
   refine one_ (i := 6) (N := some 9) (Steps.Bs 13 2047) rfl rfl (cB HT_.out z2_) z5_ (fun K hK => ?_)
   refine cY (Kd.int .u8) (w0 := w) w.heap.size (by rfl) (.tmp 5) (.tmp 8) 36 5 (.int .u8 0) 1 rfl Tryz.underlying36 info5 rfl z5_ z3_ v436 t435 t438 _ _ _ (fun k_ => nb_ k_ (v445) ∧ nb_ k_ (.slice Ao13 t438.length co13)) (fun _ => False) rfl rfl ?aO ?aR (fun _ _ h => h) (fun _ h => h.elim) ?aF ?aB ?aS ?aL ?_
   (case aR => exact cX_ (R_reads' HO440.out).2.2)
   (case aB => exact (Short.hB HB))
   (case aF => exact (fun k_ hk => ⟨Kd.fresh' (R_lt (ZKR HO446)) k_ hk, Kd.fresh' (R_lt (ZKR HO440)) k_ hk⟩))
   (case aO => exact (rM_ HO437 (fun _ hk => ⟨hk.1.2, hk.2⟩)))
   (case aS => exact (aA (Short.hB HB)))
   (case aL => have := LMc4.out; omega)
   intro v442 w12 ho hb hg hat
   rw [← Ny441.out] at ho
   have n0_ := mk_ (dH (g := gb434) (o := .cells #[.int .i64 a0_0, .int .i64 a0_1, .int .i64 a0_2] 27 (0, 0)) (Short.bK BK434) hg (R_ne HO437.out BK434.out z5_))
   have n1_ := mk_ (dR (ok := (fun k_ => nb_ k_ (.slice Ao13 t438.length co13))) (rM_ HO446 (fun _ hk => ⟨hk.2, hk.1.2⟩)) hg hat)
   have n2_ := mk_ (dR (ok := (fun k_ => nb_ k_ (v445))) (rM_ HO440 (fun _ hk => ⟨hk.1.2, hk.2⟩)) hg hat)
   have n3_ := mk_ (hb)
   have n4_ := mk_ (ho)
   clear BK434 HO446 HO440 HB HO437
   revert n0_ n1_ n2_ n3_ n4_
   intro BK434 HO446 HO440 HB HO443
   clear ho hb hg hat
   refine hK.out _ _ ⟨kc_ BK434 0, kc_ BK434 1, kc_ BK434 2⟩ (fun hHeld => ?_)
   clear hK K
   refine nrm 9 ?_
   exact norm_ (by simp only [putAll, Act.put, List.setIfInBounds_toArray, List.set_cons_zero, List.set_cons_succ]) (hCont (v436, .slice Ao13 t438.length co13, v442, v445) _ ⟨hHeld, (rM_ HO440 (fun _ hk => ⟨hk.2, hk.1⟩)), (rM_ HO443 (fun _ hk => ⟨hk.2, hk.1⟩)), (ZKR HO446), (Short.bK BK434), (Short.hB HB)⟩)
 rintro ⟨v436, v439, v442, v445⟩ w14 ⟨hS_, h0_, h1_, h2_, h3_, h4_⟩
 have n0_ : Aside0 (Kd.R (Kd.int .u8) 5 w14 w.heap.size (fun k_ => nb_ k_ (v442) ∧ nb_ k_ (v445)) v439 t438) := ⟨h0_⟩
 have n1_ : Aside0 (Kd.R (Kd.int .u8) 5 w14 w.heap.size (fun k_ => nb_ k_ (v439) ∧ nb_ k_ (v445)) v442 y441) := ⟨h1_⟩
 have n2_ : Aside0 (Kd.R (Kd.int .u8) 5 w14 w.heap.size (fun k_ => nb_ k_ (v439) ∧ nb_ k_ (v442)) v445 y444) := ⟨h2_⟩
 have n3_ : Aside0 (w14.heap[gb434]? = some (.cells #[.int .i64 a0_0, .int .i64 a0_1, .int .i64 a0_2] 27 (0, 0))) := ⟨h3_⟩
 have n4_ : Aside0 (Below w.heap.size w w14) := ⟨h4_⟩
 clear BK434 HB
 clear h0_ h1_ h2_ h3_ h4_
 revert n0_ n1_ n2_ n3_ n4_
 intro HO440 HO443 HO446 BK434 HB
 have hHeld : w14.cell? ⟨gb434, 0, none⟩ = some (.int .i64 a0_0) ∧ w14.cell? ⟨gb434, 1, none⟩ = some (.int .i64 a0_1) ∧ w14.cell? ⟨gb434, 2, none⟩ = some (.int .i64 a0_2) := hS_
 obtain ⟨Ao16, co16, eo16⟩ := cU HO446.out
 (first | subst eo16 | (injection eo16 with f1_ f2_ f3_; have f4_ := f1_.symm; have f5_ := f3_.symm; clear f1_ f2_ f3_; subst f4_; subst f5_))
 refine norm_ (a' := ?_) ?_ ?_
 rotate_left
 ·
  simp only [putAll, Act.put, List.setIfInBounds_toArray, List.set_cons_zero, List.set_cons_succ]
  rfl
 refine one_ (i := 11) (N := some 14) (Steps.Bs 13 4095) rfl rfl (cB HT_.out z2_) z5_ (fun K hK => ?_)
 refine cY (Kd.int .u8) (w0 := w) w.heap.size (by rfl) (.tmp 9) (.tmp 13) 36 5 (.int .u8 0) 1 rfl Tryz.underlying36 info5 rfl z5_ z3_ v442 y441 y444 _ _ _ (fun k_ => nb_ k_ (v439) ∧ nb_ k_ (.slice Ao16 y444.length co16)) (fun _ => False) rfl rfl ?aO ?aR (fun _ _ h => h) (fun _ h => h.elim) ?aF ?aB ?aS ?aL ?_
 (case aR => exact cX_ (R_reads' HO446.out).2.2)
 (case aB => exact (Short.hB HB))
 (case aF => exact (fun k_ hk => ⟨Kd.fresh' (R_lt (ZKR HO440)) k_ hk, Kd.fresh' (R_lt (ZKR HO446)) k_ hk⟩))
 (case aO => exact (ZKR HO443))
 (case aS => exact (aA (Short.hB HB)))
 (case aL => have := LMc5.out; omega)
 intro v448 w15 ho hb hg hat
 rw [← Ny447.out] at ho
 have n0_ := mk_ (dH (g := gb434) (o := .cells #[.int .i64 a0_0, .int .i64 a0_1, .int .i64 a0_2] 27 (0, 0)) (Short.bK BK434) hg (R_ne HO443.out BK434.out z5_))
 have n1_ := mk_ (dR (ok := (fun k_ => nb_ k_ (.slice Ao16 y444.length co16))) (rM_ HO440 (fun _ hk => ⟨hk.2, hk.1⟩)) hg hat)
 have n2_ := mk_ (dR (ok := (fun k_ => nb_ k_ (v439))) (ZKR HO446) hg hat)
 have n3_ := mk_ (hb)
 have n4_ := mk_ (ho)
 clear BK434 HO440 HO446 HB HO443
 revert n0_ n1_ n2_ n3_ n4_
 intro BK434 HO440 HO446 HB HO449
 clear ho hb hg hat
 refine hK.out _ _ ⟨kc_ BK434 0, kc_ BK434 1, kc_ BK434 2⟩ (fun hHeld => ?_)
 clear hK K
 refine nrm 14 ?_
 refine tI HT_ 12 2 13 8191 ?_
 refine done_ (cC HT_.out z2_) ?_
 try go_wp2
 go_ret
 exact ⟨_, by first | rfl | (simp [aZ, aY] <;> rfl) | (simp [*, aZ, aY] <;> rfl), by (with_reducible repeat (first | apply R_alloc | apply R_drewN | apply R_drew)); exact R_mono HO449.out (fun _ hk => trivial), Short.hB HB⟩
def dM.f (k : Nat) (a0 : Int) : Option (List Int) := if a0 < 0 then ((some (([1] : List Int) : List Int)).bind fun y450 => ((bB.f k (wrap64 (-a0)) 8).bind fun t453 => (if y450.length + t453.length < 140737488355328 then (some (y450 ++ t453)) else (none)))) else ((some (([0] : List Int) : List Int)).bind fun y459 => ((bB.f k a0 8).bind fun t462 => (if y459.length + t462.length < 140737488355328 then (some (y459 ++ t462)) else (none))))
theorem dM.calls (k : Nat) (a0 : Int) (r : List Int) (w : World) (h : dM.f k a0 = some r) :
  Calls Tryz.prog 94 #[.int .i64 a0] w fun e w' => ∃ v0_ : Value, e = .returned (v0_) ∧ Kd.R (Kd.int .u8) 5 w' w.heap.size (fun _ => True) v0_ r ∧ Below w.heap.size w w' := by
 have HB := mk_ (Below.refl w.heap.size w)
 have H : (if a0 < 0 then ((some (([1] : List Int) : List Int)).bind fun y450 => ((bB.f k (wrap64 (-a0)) 8).bind fun t453 => (if y450.length + t453.length < 140737488355328 then (some (y450 ++ t453)) else (none)))) else ((some (([0] : List Int) : List Int)).bind fun y459 => ((bB.f k a0 8).bind fun t462 => (if y459.length + t462.length < 140737488355328 then (some (y459 ++ t462)) else (none))))) = some r := h
 clear h
 by_cases c2 : a0 < 0
 rotate_left
 rw [if_neg c2] at H
 have c2b0 : decide (a0 < 0) = false := decide_eq_false c2
 clear c2
 obtain ⟨y459, hy459⟩ : ∃ y_ : List Int, y_ = (([0] : List Int)) := ⟨_, rfl⟩
 replace H : ((bB.f k a0 8).bind fun t462 => (if y459.length + t462.length < 140737488355328 then (some (y459 ++ t462)) else (none))) = some r := by first | (rw [hy459]; with_reducible exact H) | (have H2_ := (Option.bind_some _ _).symm.trans H; rw [hy459]; with_reducible exact H2_) | (have H2_ := (Option.bind_some _ _).symm.trans H; with_reducible exact H2_) | with_reducible exact H | (rw [hy459]; exact H) | exact H
 have Ny459 := mk_ hy459
 clear hy459
 obtain ⟨t462, A10, H⟩ := Option.bind_eq_some_iff.mp H
 replace A10 := mk_ A10
 by_cases c11 : y459.length + t462.length < 140737488355328
 rotate_left
 rw [if_neg c11] at H
 exact absurd H z6_
 rotate_right
 rw [if_pos c11] at H
 have LMc11 := mk_ c11
 clear c11
 obtain ⟨y465, hy465⟩ : ∃ y_ : List Int, y_ = (y459 ++ t462) := ⟨_, rfl⟩
 replace H : (some y465) = some r := by first | (rw [hy465]; with_reducible exact H) | (have H2_ := (Option.bind_some _ _).symm.trans H; rw [hy465]; with_reducible exact H2_) | (have H2_ := (Option.bind_some _ _).symm.trans H; with_reducible exact H2_) | with_reducible exact H | (rw [hy465]; exact H) | exact H
 have Ny465 := mk_ hy465
 clear hy465
 obtain rfl := Option.some.inj H
 rotate_right
 rw [if_pos c2] at H
 have c2b0 : decide (a0 < 0) = true := decide_eq_true c2
 clear c2
 obtain ⟨y450, hy450⟩ : ∃ y_ : List Int, y_ = (([1] : List Int)) := ⟨_, rfl⟩
 replace H : ((bB.f k (wrap64 (-a0)) 8).bind fun t453 => (if y450.length + t453.length < 140737488355328 then (some (y450 ++ t453)) else (none))) = some r := by first | (rw [hy450]; with_reducible exact H) | (have H2_ := (Option.bind_some _ _).symm.trans H; rw [hy450]; with_reducible exact H2_) | (have H2_ := (Option.bind_some _ _).symm.trans H; with_reducible exact H2_) | with_reducible exact H | (rw [hy450]; exact H) | exact H
 have Ny450 := mk_ hy450
 clear hy450
 obtain ⟨t453, A3, H⟩ := Option.bind_eq_some_iff.mp H
 replace A3 := mk_ A3
 by_cases c4 : y450.length + t453.length < 140737488355328
 rotate_left
 rw [if_neg c4] at H
 exact absurd H z6_
 rotate_right
 rw [if_pos c4] at H
 have LMc4 := mk_ c4
 clear c4
 obtain ⟨y456, hy456⟩ : ∃ y_ : List Int, y_ = (y450 ++ t453) := ⟨_, rfl⟩
 replace H : (some y456) = some r := by first | (rw [hy456]; with_reducible exact H) | (have H2_ := (Option.bind_some _ _).symm.trans H; rw [hy456]; with_reducible exact H2_) | (have H2_ := (Option.bind_some _ _).symm.trans H; with_reducible exact H2_) | with_reducible exact H | (rw [hy456]; exact H) | exact H
 have Ny456 := mk_ hy456
 clear hy456
 obtain rfl := Option.some.inj H
 all_goals
  go_enter Tryz.func94, Tryz.ntmps94
  go_wp2_with (first | ((with_reducible refine aQ (N := 10) rfl ?_); refine R_lit (Kd.int .u8) _ 5 ?hg (N := 10) ?hd (xs := ([0] : List Int)) (inner := [.int .u8 0]) (ok := fun _ => True) (okp := fun _ => True) ?hr ?hp (fun _ hk => hk) trivial (Below.refl _ _) (Nat.le_refl _) z6_ ?_; (case hd => rfl); (case hg => rfl); (case hr => first | (go_simp; done) | (go_simp; rfl)); (case hp => exact (Reps.one (show Kd.M (Kd.int .u8) _ _ _ 0 [.int .u8 0] from rfl) (Reps.none _ _))); intro v460 w_10 ho13 hb hg_ hnew_; clear hg_ hnew_; (first | rw [← Ny459.out] at ho13 | (simp only [Int.reduceToNat] at ho13; rw [← Ny459.out] at ho13)); have n0_ := mk_ (bW ho13 (aA (Short.hB HB))); have n1_ := mk_ (aC (Short.hB HB) hb); clear HB; revert n0_ n1_; intro HO461 HB; clear hb ho13) | ((with_reducible refine aE (f := 77) rfl ?_); refine Short.gL (some 12) Tryz.func77 #[.int .i64 a0, .int .i64 8] (h := ?_); (with_reducible refine (bB.calls k a0 8 t462 _ A10.out).mono ?_); rintro e w_12 ⟨v463, rfl, ho0, hb⟩; refine ⟨_, rfl, ?_⟩; have n0_ := mk_ (R_elder' (ZKR HO461) (R_base ho0) hb); have n1_ := mk_ (bW (R_new' ho0 (R_lt (ZKR HO461))) (aA (Short.hB HB))); have n2_ := mk_ (aC (Short.hB HB) hb); clear HO461 HB; revert n0_ n1_ n2_; intro HO461 HO464 HB; (try clear hb ho0); obtain ⟨Ao16, co16, eo16⟩ := cU HO464.out; subst eo16) | ((with_reducible refine cK (b := .append) (xs := #[.tmp 10, .tmp 12]) rfl ?_); at_builtin; refine eF (Kd.int .u8) (w0 := w) w.heap.size rfl (.tmp 10) (.tmp 12) 36 5 (.int .u8 0) 1 rfl Tryz.underlying36 info5 rfl z5_ z3_ v460 y459 t462 _ _ _ (fun k_ => nb_ k_ (.slice Ao16 t462.length co16)) (fun _ => False) rfl rfl ?aO ?aR (fun _ _ h => h) (fun _ h => h.elim) ?aF ?aB ?aS ?aL ?_; (case aR => exact cX_ (R_reads' HO464.out).2.2); (case aB => exact (Short.hB HB)); (case aF => exact (fun k_ hk => Kd.fresh' (R_lt (ZKR HO464)) k_ hk)); (case aO => exact (rM_ HO461 (fun _ hk => hk.2))); (case aS => exact (aA (Short.hB HB))); (case aL => have := LMc11.out; omega); intro v466 w_x2 ho hb hg hat; rw [← Ny465.out] at ho; have n0_ := mk_ (dR (ok := (fun _ => True)) (ZKR HO464) hg hat); have n1_ := mk_ (hb); have n2_ := mk_ (ho); clear HO464 HB HO461; revert n0_ n1_ n2_; intro HO464 HB HO467; clear ho hb hg hat) | ((with_reducible refine aQ (N := 5) rfl ?_); refine R_lit (Kd.int .u8) _ 5 ?hg (N := 5) ?hd (xs := ([1] : List Int)) (inner := [.int .u8 1]) (ok := fun _ => True) (okp := fun _ => True) ?hr ?hp (fun _ hk => hk) trivial (Below.refl _ _) (Nat.le_refl _) z6_ ?_; (case hd => rfl); (case hg => rfl); (case hr => first | (go_simp; done) | (go_simp; rfl)); (case hp => exact (Reps.one (show Kd.M (Kd.int .u8) _ _ _ 1 [.int .u8 1] from rfl) (Reps.none _ _))); intro v451 w_5 ho6 hb hg_ hnew_; clear hg_ hnew_; (first | rw [← Ny450.out] at ho6 | (simp only [Int.reduceToNat] at ho6; rw [← Ny450.out] at ho6)); have n0_ := mk_ (bW ho6 (aA (Short.hB HB))); have n1_ := mk_ (aC (Short.hB HB) hb); clear HB; revert n0_ n1_; intro HO452 HB; clear hb ho6) | ((with_reducible refine aE (f := 77) rfl ?_); refine Short.gL (some 8) Tryz.func77 #[.int .i64 (wrap64 (-a0)), .int .i64 8] (h := ?_); (with_reducible refine (bB.calls k (wrap64 (-a0)) 8 t453 _ A3.out).mono ?_); rintro e w_8 ⟨v454, rfl, ho0, hb⟩; refine ⟨_, rfl, ?_⟩; have n0_ := mk_ (R_elder' (ZKR HO452) (R_base ho0) hb); have n1_ := mk_ (bW (R_new' ho0 (R_lt (ZKR HO452))) (aA (Short.hB HB))); have n2_ := mk_ (aC (Short.hB HB) hb); clear HO452 HB; revert n0_ n1_ n2_; intro HO452 HO455 HB; (try clear hb ho0); obtain ⟨Ao9, co9, eo9⟩ := cU HO455.out; subst eo9) | ((with_reducible refine cK (b := .append) (xs := #[.tmp 5, .tmp 8]) rfl ?_); at_builtin; refine eF (Kd.int .u8) (w0 := w) w.heap.size rfl (.tmp 5) (.tmp 8) 36 5 (.int .u8 0) 1 rfl Tryz.underlying36 info5 rfl z5_ z3_ v451 y450 t453 _ _ _ (fun k_ => nb_ k_ (.slice Ao9 t453.length co9)) (fun _ => False) rfl rfl ?aO ?aR (fun _ _ h => h) (fun _ h => h.elim) ?aF ?aB ?aS ?aL ?_; (case aR => exact cX_ (R_reads' HO455.out).2.2); (case aB => exact (Short.hB HB)); (case aF => exact (fun k_ hk => Kd.fresh' (R_lt (ZKR HO455)) k_ hk)); (case aO => exact (rM_ HO452 (fun _ hk => hk.2))); (case aS => exact (aA (Short.hB HB))); (case aL => have := LMc4.out; omega); intro v457 w_x2 ho hb hg hat; rw [← Ny456.out] at ho; have n0_ := mk_ (dR (ok := (fun _ => True)) (ZKR HO455) hg hat); have n1_ := mk_ (hb); have n2_ := mk_ (ho); clear HO455 HB HO452; revert n0_ n1_ n2_; intro HO455 HB HO458; clear ho hb hg hat))
  go_ret
  first | exact ⟨_, by first | rfl | (simp [aZ, aY] <;> rfl) | (simp [*, aZ, aY] <;> rfl), by (with_reducible repeat (first | apply R_alloc | apply R_drewN | apply R_drew)); exact R_mono HO467.out (fun _ hk => trivial), Short.hB HB⟩ | exact ⟨_, by first | rfl | (simp [aZ, aY] <;> rfl) | (simp [*, aZ, aY] <;> rfl), by (with_reducible repeat (first | apply R_alloc | apply R_drewN | apply R_drew)); exact R_mono HO458.out (fun _ hk => trivial), Short.hB HB⟩
end Go.Proofs.YtjnjfogfpmeacaaGreat.PAll
end
section
namespace Go.Proofs.YtjnjfogfpmeacaaGreat.PAll
open Go.RowKit PrintWords PrintLast PrintMore ZipT PrintWords.Kd PrintMore.Kd
attribute [local go_sem] eP eN fD fA dS dT eO eK   -- for this text's walks alone
set_option linter.unusedVariables false
set_option linter.unusedSimpArgs false
def bZ.f (k : Nat) (a0_0 : Int) (a0_1 : Int) (a0_2 : ByteArray) : Option (List Int) := (some (([(a0_0) % 256] : List Int) : List Int)).bind fun y469 => (if a0_0 = 2 then (if y469.length < 140737488355328 then (some (y469 ++ [(a0_1) % 256])) else (none)) else (if a0_0 = 3 then ((dM.f k a0_1).bind fun t475 => (if y469.length + t475.length < 140737488355328 then (some (y469 ++ t475)) else (none))) else (if a0_0 = 4 then (if y469.length < 140737488355328 then ((some (y469 ++ [((a0_2.size : Int)) % 256] : List Int)).bind fun y481 => (if y481.length + a0_2.size < 140737488355328 then (some (y481 ++ bytesOf a0_2)) else (none))) else (none)) else (some y469))))
def bZ.T8 : Bool × List (List Nat × List Nat) := (true, [([], []), ([], []), ([1], [1]), ([2], [2]), ([3], [3]), ([4], [4]), ([0, 5], [0, 5]), ([], []), ([7], [7]), ([6, 8, 6], [6, 8]), ([9, 9, 0, 1, 2, 3, 4, 5, 6, 7, 8, 9], [0, 9])])
def bZ.B8 : List Nat := [0, 0, 2, 6, 14, 30, 63, 0, 128, 511, 1023]
theorem bZ.tab8 : rtab .any (opsOf Tryz.f78 8) = bZ.T8 := by kernel_rfl
theorem bZ.bits8 : waitsOk bZ.T8.2 bZ.B8 = true := by kernel_rfl
theorem bZ.calls (k : Nat) (a0_0 : Int) (a0_1 : Int) (a0_2 : ByteArray) (r : List Int) (w : World) (h : bZ.f k a0_0 a0_1 a0_2 = some r) :
  Calls Tryz.prog 78 #[.agg #[.int .i64 a0_0, .int .i64 a0_1, .string a0_2]] w fun e w' => ∃ v0_ : Value, e = .returned (v0_) ∧ Kd.R (Kd.int .u8) 5 w' w.heap.size (fun _ => True) v0_ r ∧ Below w.heap.size w w' := by
 have hu102 := Tryz.underlying102
 have HB := mk_ (Below.refl w.heap.size w)
 have H : ((some (([(a0_0) % 256] : List Int) : List Int)).bind fun y469 => (if a0_0 = 2 then (if y469.length < 140737488355328 then (some (y469 ++ [(a0_1) % 256])) else (none)) else (if a0_0 = 3 then ((dM.f k a0_1).bind fun t475 => (if y469.length + t475.length < 140737488355328 then (some (y469 ++ t475)) else (none))) else (if a0_0 = 4 then (if y469.length < 140737488355328 then ((some (y469 ++ [((a0_2.size : Int)) % 256] : List Int)).bind fun y481 => (if y481.length + a0_2.size < 140737488355328 then (some (y481 ++ bytesOf a0_2)) else (none))) else (none)) else (some y469))))) = some r := h
 clear h
 obtain ⟨y469, hy469⟩ : ∃ y_ : List Int, y_ = (([(a0_0) % 256] : List Int)) := ⟨_, rfl⟩
 replace H : (if a0_0 = 2 then (if y469.length < 140737488355328 then (some (y469 ++ [(a0_1) % 256])) else (none)) else (if a0_0 = 3 then ((dM.f k a0_1).bind fun t475 => (if y469.length + t475.length < 140737488355328 then (some (y469 ++ t475)) else (none))) else (if a0_0 = 4 then (if y469.length < 140737488355328 then ((some (y469 ++ [((a0_2.size : Int)) % 256] : List Int)).bind fun y481 => (if y481.length + a0_2.size < 140737488355328 then (some (y481 ++ bytesOf a0_2)) else (none))) else (none)) else (some y469)))) = some r := by first | (rw [hy469]; with_reducible exact H) | (have H2_ := (Option.bind_some _ _).symm.trans H; rw [hy469]; with_reducible exact H2_) | (have H2_ := (Option.bind_some _ _).symm.trans H; with_reducible exact H2_) | with_reducible exact H | (rw [hy469]; exact H) | exact H
 have Ny469 := mk_ hy469
 clear hy469
 by_cases c2 : a0_0 = 2
 ·
  rw [if_pos c2] at H
  have c2b0 : (a0_0 == 2) = true := beq_iff_eq.mpr c2
  have c2b1 : (a0_0 != 2) = false := bne_eq_false_iff_eq.mpr c2
  clear c2
  by_cases c3 : y469.length < 140737488355328
  rotate_left
  ·
   rw [if_neg c3] at H
   exact absurd H z6_
  rw [if_pos c3] at H
  have LMc3 := mk_ c3
  clear c3
  obtain ⟨y472, hy472⟩ : ∃ y_ : List Int, y_ = (y469 ++ [(a0_1) % 256]) := ⟨_, rfl⟩
  replace H : (some y472) = some r := by first | (rw [hy472]; with_reducible exact H) | (have H2_ := (Option.bind_some _ _).symm.trans H; rw [hy472]; with_reducible exact H2_) | (have H2_ := (Option.bind_some _ _).symm.trans H; with_reducible exact H2_) | with_reducible exact H | (rw [hy472]; exact H) | exact H
  have Ny472 := mk_ hy472
  clear hy472
  obtain rfl := Option.some.inj H
  go_enter Tryz.func78, Tryz.ntmps78
  go_wp2_with (first | ((with_reducible refine aQ (N := 1) rfl ?_); refine aN ?hg (N := 1) ?hd (cs := #[.int .i64 a0_0, .int .i64 a0_1, .string a0_2]) (t := 102) ?hr ?_; (case hd => rfl); (case hg => rfl); (case hr => first | (go_simp; done) | (go_simp; rfl)); intro gb468 hg w4 hbox hb; have n0_ := mk_ (aC (Short.hB HB) hb); have n1_ := mk_ (hbox); have n2_ := mk_ ((by rw [hg]; exact (aA (Short.hB HB)) : w.heap.size ≤ gb468)); have n3_ := mk_ ((by rw [hg]; exact (aA (Short.hB HB)) : w.heap.size ≤ gb468)); clear HB; revert n0_ n1_ n2_ n3_; intro HB BK468 GW468 GE468; clear hb hbox hg; obtain ⟨hcz_0, hcz_1, hcz_2, hfz_0, hfz_1, hfz_2⟩ := Short.c3 BK468.out) | ((with_reducible refine aQ (N := 7) rfl ?_); refine R_lit (Kd.int .u8) _ 5 ?hg (N := 7) ?hd (xs := ([(a0_0) % 256] : List Int)) (inner := [.int .u8 ((a0_0) % 256)]) (ok := fun _ => True) (okp := fun _ => True) ?hr ?hp (fun _ hk => hk) trivial (Below.refl _ _) (Nat.le_refl _) z6_ ?_; (case hd => rfl); (case hg => rfl); (case hr => first | (go_simp; done) | (go_simp; rfl)); (case hp => exact (Reps.one (show Kd.M (Kd.int .u8) _ _ _ ((a0_0) % 256) [.int .u8 ((a0_0) % 256)] from rfl) (Reps.none _ _))); intro v470 w6 ho7 hb hg_ hnew_; clear hg_ hnew_; (first | rw [← Ny469.out] at ho7 | (simp only [Int.reduceToNat] at ho7; rw [← Ny469.out] at ho7)); have n0_ := mk_ (bW ho7 (aA (Short.hB HB))); have n1_ := mk_ (bB_ BK468 hb); have n2_ := mk_ (aC (Short.hB HB) hb); clear BK468 HB; revert n0_ n1_ n2_; intro HO471 BK468 HB; clear hb ho7; obtain ⟨hcz_0, hcz_1, hcz_2, hfz_0, hfz_1, hfz_2⟩ := Short.c3 BK468.out) | ((with_reducible refine cK (b := .append) (xs := #[.tmp 12, .tmp 16]) rfl ?_); at_builtin; refine fU (Kd.int .u8) (w0 := w) w.heap.size rfl (.tmp 12) (.tmp 16) 36 5 (.int .u8 0) 1 rfl Tryz.underlying36 info5 rfl z5_ z3_ v470 y469 ((a0_1) % 256) [.int .u8 ((a0_1) % 256)] (fun _ => True) (fun _ => False) rfl rfl ?aP (fun _ hk => hk.elim) ?aF ?aO ?aB ?aS ?aL ?_; (case aP => exact rfl); (case aB => exact (Short.hB HB)); (case aF => exact (fun _ _ => trivial)); (case aO => exact (ZKR HO471)); (case aS => exact (aA (Short.hB HB))); (case aL => have := LMc3.out; omega); intro v473 w9 ho hb hg hat; rw [← Ny472.out] at ho; have n0_ := mk_ (dH (g := gb468) (o := .cells #[.int .i64 a0_0, .int .i64 a0_1, .string a0_2] 102 (0, 0)) (Short.bK BK468) hg (R_ne HO471.out BK468.out z5_)); have n1_ := mk_ (hb); have n2_ := mk_ (ho); clear BK468 HB HO471; revert n0_ n1_ n2_; intro BK468 HB HO474; clear ho hb hg hat))
  go_ret
  exact ⟨_, by first | rfl | (simp [aZ, aY] <;> rfl) | (simp [*, aZ, aY] <;> rfl), by (with_reducible repeat (first | apply R_alloc | apply R_drewN | apply R_drew)); exact HO474.out, Short.hB HB⟩
 rw [if_neg c2] at H
 have c2b0 : (a0_0 == 2) = false := beq_eq_false_iff_ne.mpr c2
 have c2b1 : (a0_0 != 2) = true := bne_iff_ne.mpr c2
 by_cases c10 : a0_0 = 3
 ·
  rw [if_pos c10] at H
  have c10b0 : (a0_0 == 3) = true := beq_iff_eq.mpr c10
  have c10b1 : (a0_0 != 3) = false := bne_eq_false_iff_eq.mpr c10
  clear c10
  obtain ⟨t475, A11, H⟩ := Option.bind_eq_some_iff.mp H
  replace A11 := mk_ A11
  by_cases c12 : y469.length + t475.length < 140737488355328
  rotate_left
  ·
   rw [if_neg c12] at H
   exact absurd H z6_
  rw [if_pos c12] at H
  have LMc12 := mk_ c12
  clear c12
  obtain ⟨y478, hy478⟩ : ∃ y_ : List Int, y_ = (y469 ++ t475) := ⟨_, rfl⟩
  replace H : (some y478) = some r := by first | (rw [hy478]; with_reducible exact H) | (have H2_ := (Option.bind_some _ _).symm.trans H; rw [hy478]; with_reducible exact H2_) | (have H2_ := (Option.bind_some _ _).symm.trans H; with_reducible exact H2_) | with_reducible exact H | (rw [hy478]; exact H) | exact H
  have Ny478 := mk_ hy478
  clear hy478
  obtain rfl := Option.some.inj H
  go_enter Tryz.func78, Tryz.ntmps78
  go_wp2_with (first | ((with_reducible refine aQ (N := 1) rfl ?_); refine aN ?hg (N := 1) ?hd (cs := #[.int .i64 a0_0, .int .i64 a0_1, .string a0_2]) (t := 102) ?hr ?_; (case hd => rfl); (case hg => rfl); (case hr => first | (go_simp; done) | (go_simp; rfl)); intro gb468 hg w13 hbox hb; have n0_ := mk_ (aC (Short.hB HB) hb); have n1_ := mk_ (hbox); have n2_ := mk_ ((by rw [hg]; exact (aA (Short.hB HB)) : w.heap.size ≤ gb468)); have n3_ := mk_ ((by rw [hg]; exact (aA (Short.hB HB)) : w.heap.size ≤ gb468)); clear HB; revert n0_ n1_ n2_ n3_; intro HB BK468 GW468 GE468; clear hb hbox hg; obtain ⟨hcz_0, hcz_1, hcz_2, hfz_0, hfz_1, hfz_2⟩ := Short.c3 BK468.out) | ((with_reducible refine aQ (N := 7) rfl ?_); refine R_lit (Kd.int .u8) _ 5 ?hg (N := 7) ?hd (xs := ([(a0_0) % 256] : List Int)) (inner := [.int .u8 ((a0_0) % 256)]) (ok := fun _ => True) (okp := fun _ => True) ?hr ?hp (fun _ hk => hk) trivial (Below.refl _ _) (Nat.le_refl _) z6_ ?_; (case hd => rfl); (case hg => rfl); (case hr => first | (go_simp; done) | (go_simp; rfl)); (case hp => exact (Reps.one (show Kd.M (Kd.int .u8) _ _ _ ((a0_0) % 256) [.int .u8 ((a0_0) % 256)] from rfl) (Reps.none _ _))); intro v470 w15 ho16 hb hg_ hnew_; clear hg_ hnew_; (first | rw [← Ny469.out] at ho16 | (simp only [Int.reduceToNat] at ho16; rw [← Ny469.out] at ho16)); have n0_ := mk_ (bW ho16 (aA (Short.hB HB))); have n1_ := mk_ (bB_ BK468 hb); have n2_ := mk_ (aC (Short.hB HB) hb); clear BK468 HB; revert n0_ n1_ n2_; intro HO471 BK468 HB; clear hb ho16; obtain ⟨hcz_0, hcz_1, hcz_2, hfz_0, hfz_1, hfz_2⟩ := Short.c3 BK468.out) | ((with_reducible refine aE (f := 94) rfl ?_); refine Short.gL (some 23) Tryz.func94 #[.int .i64 a0_1] (h := ?_); (with_reducible refine (dM.calls k a0_1 t475 _ A11.out).mono ?_); rintro e w18 ⟨v476, rfl, ho0, hb⟩; refine ⟨_, rfl, ?_⟩; have n0_ := mk_ (R_elder' (ZKR HO471) (R_base ho0) hb); have n1_ := mk_ (bW (R_new' ho0 (R_lt (ZKR HO471))) (aA (Short.hB HB))); have n2_ := mk_ (bB_ BK468 hb); have n3_ := mk_ (aC (Short.hB HB) hb); clear HO471 BK468 HB; revert n0_ n1_ n2_ n3_; intro HO471 HO477 BK468 HB; (try clear hb ho0); obtain ⟨Ao20, co20, eo20⟩ := cU HO477.out; subst eo20) | ((with_reducible refine cK (b := .append) (xs := #[.tmp 20, .tmp 23]) rfl ?_); at_builtin; refine eF (Kd.int .u8) (w0 := w) w.heap.size rfl (.tmp 20) (.tmp 23) 36 5 (.int .u8 0) 1 rfl Tryz.underlying36 info5 rfl z5_ z3_ v470 y469 t475 _ _ _ (fun k_ => nb_ k_ (.slice Ao20 t475.length co20)) (fun _ => False) rfl rfl ?aO ?aR (fun _ _ h => h) (fun _ h => h.elim) ?aF ?aB ?aS ?aL ?_; (case aR => exact cX_ (R_reads' HO477.out).2.2); (case aB => exact (Short.hB HB)); (case aF => exact (fun k_ hk => Kd.fresh' (R_lt (ZKR HO477)) k_ hk)); (case aO => exact (rM_ HO471 (fun _ hk => hk.2))); (case aS => exact (aA (Short.hB HB))); (case aL => have := LMc12.out; omega); intro v479 w19 ho hb hg hat; rw [← Ny478.out] at ho; have n0_ := mk_ (dH (g := gb468) (o := .cells #[.int .i64 a0_0, .int .i64 a0_1, .string a0_2] 102 (0, 0)) (Short.bK BK468) hg (R_ne HO471.out BK468.out z5_)); have n1_ := mk_ (dR (ok := (fun _ => True)) (ZKR HO477) hg hat); have n2_ := mk_ (hb); have n3_ := mk_ (ho); clear BK468 HO477 HB HO471; revert n0_ n1_ n2_ n3_; intro BK468 HO477 HB HO480; clear ho hb hg hat))
  go_ret
  exact ⟨_, by first | rfl | (simp [aZ, aY] <;> rfl) | (simp [*, aZ, aY] <;> rfl), by (with_reducible repeat (first | apply R_alloc | apply R_drewN | apply R_drew)); exact R_mono HO480.out (fun _ hk => trivial), Short.hB HB⟩
 rw [if_neg c10] at H
 have c10b0 : (a0_0 == 3) = false := beq_eq_false_iff_ne.mpr c10
 have c10b1 : (a0_0 != 3) = true := bne_iff_ne.mpr c10
 by_cases c21 : a0_0 = 4
 rotate_left
 ·
  rw [if_neg c21] at H
  have c21b0 : (a0_0 == 4) = false := beq_eq_false_iff_ne.mpr c21
  have c21b1 : (a0_0 != 4) = true := bne_iff_ne.mpr c21
  obtain rfl := Option.some.inj H
  go_enter Tryz.func78, Tryz.ntmps78
  go_wp2_with (first | ((with_reducible refine aQ (N := 1) rfl ?_); refine aN ?hg (N := 1) ?hd (cs := #[.int .i64 a0_0, .int .i64 a0_1, .string a0_2]) (t := 102) ?hr ?_; (case hd => rfl); (case hg => rfl); (case hr => first | (go_simp; done) | (go_simp; rfl)); intro gb468 hg w32 hbox hb; have n0_ := mk_ (aC (Short.hB HB) hb); have n1_ := mk_ (hbox); have n2_ := mk_ ((by rw [hg]; exact (aA (Short.hB HB)) : w.heap.size ≤ gb468)); have n3_ := mk_ ((by rw [hg]; exact (aA (Short.hB HB)) : w.heap.size ≤ gb468)); clear HB; revert n0_ n1_ n2_ n3_; intro HB BK468 GW468 GE468; clear hb hbox hg; obtain ⟨hcz_0, hcz_1, hcz_2, hfz_0, hfz_1, hfz_2⟩ := Short.c3 BK468.out) | ((with_reducible refine aQ (N := 7) rfl ?_); refine R_lit (Kd.int .u8) _ 5 ?hg (N := 7) ?hd (xs := ([(a0_0) % 256] : List Int)) (inner := [.int .u8 ((a0_0) % 256)]) (ok := fun _ => True) (okp := fun _ => True) ?hr ?hp (fun _ hk => hk) trivial (Below.refl _ _) (Nat.le_refl _) z6_ ?_; (case hd => rfl); (case hg => rfl); (case hr => first | (go_simp; done) | (go_simp; rfl)); (case hp => exact (Reps.one (show Kd.M (Kd.int .u8) _ _ _ ((a0_0) % 256) [.int .u8 ((a0_0) % 256)] from rfl) (Reps.none _ _))); intro v470 w34 ho35 hb hg_ hnew_; clear hg_ hnew_; (first | rw [← Ny469.out] at ho35 | (simp only [Int.reduceToNat] at ho35; rw [← Ny469.out] at ho35)); have n0_ := mk_ (bW ho35 (aA (Short.hB HB))); have n1_ := mk_ (bB_ BK468 hb); have n2_ := mk_ (aC (Short.hB HB) hb); clear BK468 HB; revert n0_ n1_ n2_; intro HO471 BK468 HB; clear hb ho35; obtain ⟨hcz_0, hcz_1, hcz_2, hfz_0, hfz_1, hfz_2⟩ := Short.c3 BK468.out))
  go_ret
  exact ⟨_, by first | rfl | (simp [aZ, aY] <;> rfl) | (simp [*, aZ, aY] <;> rfl), by (with_reducible repeat (first | apply R_alloc | apply R_drewN | apply R_drew)); exact HO471.out, Short.hB HB⟩
 rw [if_pos c21] at H
 have c21b0 : (a0_0 == 4) = true := beq_iff_eq.mpr c21
 have c21b1 : (a0_0 != 4) = false := bne_eq_false_iff_eq.mpr c21
 clear c21
 by_cases c22 : y469.length < 140737488355328
 rotate_left
 ·
  rw [if_neg c22] at H
  exact absurd H z6_
 rw [if_pos c22] at H
 have LMc22 := mk_ c22
 clear c22
 obtain ⟨y481, hy481⟩ : ∃ y_ : List Int, y_ = (y469 ++ [((a0_2.size : Int)) % 256]) := ⟨_, rfl⟩
 replace H : (if y481.length + a0_2.size < 140737488355328 then (some (y481 ++ bytesOf a0_2)) else (none)) = some r := by first | (rw [hy481]; with_reducible exact H) | (have H2_ := (Option.bind_some _ _).symm.trans H; rw [hy481]; with_reducible exact H2_) | (have H2_ := (Option.bind_some _ _).symm.trans H; with_reducible exact H2_) | with_reducible exact H | (rw [hy481]; exact H) | exact H
 have Ny481 := mk_ hy481
 clear hy481
 by_cases c23 : y481.length + a0_2.size < 140737488355328
 rotate_left
 ·
  rw [if_neg c23] at H
  exact absurd H z6_
 rw [if_pos c23] at H
 have LMc23 := mk_ c23
 clear c23
 obtain ⟨y484, hy484⟩ : ∃ y_ : List Int, y_ = (y481 ++ bytesOf a0_2) := ⟨_, rfl⟩
 replace H : (some y484) = some r := by first | (rw [hy484]; with_reducible exact H) | (have H2_ := (Option.bind_some _ _).symm.trans H; rw [hy484]; with_reducible exact H2_) | (have H2_ := (Option.bind_some _ _).symm.trans H; with_reducible exact H2_) | with_reducible exact H | (rw [hy484]; exact H) | exact H
 have Ny484 := mk_ hy484
 clear hy484
 obtain rfl := Option.some.inj H
 go_enter Tryz.func78, Tryz.ntmps78
 try go_wp2_with (first | ((with_reducible refine aQ (N := 1) rfl ?_); refine aN ?hg (N := 1) ?hd (cs := #[.int .i64 a0_0, .int .i64 a0_1, .string a0_2]) (t := 102) ?hr ?_; (case hd => rfl); (case hg => rfl); (case hr => first | (go_simp; done) | (go_simp; rfl)); intro gb468 hg w24 hbox hb; have n0_ := mk_ (aC (Short.hB HB) hb); have n1_ := mk_ (hbox); have n2_ := mk_ ((by rw [hg]; exact (aA (Short.hB HB)) : w.heap.size ≤ gb468)); have n3_ := mk_ ((by rw [hg]; exact (aA (Short.hB HB)) : w.heap.size ≤ gb468)); clear HB; revert n0_ n1_ n2_ n3_; intro HB BK468 GW468 GE468; clear hb hbox hg; obtain ⟨hcz_0, hcz_1, hcz_2, hfz_0, hfz_1, hfz_2⟩ := Short.c3 BK468.out) | ((with_reducible refine aQ (N := 7) rfl ?_); refine R_lit (Kd.int .u8) _ 5 ?hg (N := 7) ?hd (xs := ([(a0_0) % 256] : List Int)) (inner := [.int .u8 ((a0_0) % 256)]) (ok := fun _ => True) (okp := fun _ => True) ?hr ?hp (fun _ hk => hk) trivial (Below.refl _ _) (Nat.le_refl _) z6_ ?_; (case hd => rfl); (case hg => rfl); (case hr => first | (go_simp; done) | (go_simp; rfl)); (case hp => exact (Reps.one (show Kd.M (Kd.int .u8) _ _ _ ((a0_0) % 256) [.int .u8 ((a0_0) % 256)] from rfl) (Reps.none _ _))); intro v470 w26 ho27 hb hg_ hnew_; clear hg_ hnew_; (first | rw [← Ny469.out] at ho27 | (simp only [Int.reduceToNat] at ho27; rw [← Ny469.out] at ho27)); have n0_ := mk_ (bW ho27 (aA (Short.hB HB))); have n1_ := mk_ (bB_ BK468 hb); have n2_ := mk_ (aC (Short.hB HB) hb); clear BK468 HB; revert n0_ n1_ n2_; intro HO471 BK468 HB; clear hb ho27; obtain ⟨hcz_0, hcz_1, hcz_2, hfz_0, hfz_1, hfz_2⟩ := Short.c3 BK468.out))
 have n0_ := mk_ (R_drew HO471.out)
 have n1_ := mk_ (aI BK468.out)
 have n2_ := mk_ (dE HB.out)
 clear HO471 BK468 HB
 revert n0_ n1_ n2_
 intro HO471 BK468 HB
 refine fM (n := 11) (S := fun w' => w'.cell? ⟨gb468, 0, none⟩ = some (.int .i64 a0_0) ∧ w'.cell? ⟨gb468, 1, none⟩ = some (.int .i64 a0_1) ∧ w'.cell? ⟨gb468, 2, none⟩ = some (.string a0_2)) (ds := []) (Steps.Bs 11 0) z2_ rfl rfl ⟨kc_ BK468 0, kc_ BK468 1, kc_ BK468 2⟩ (fun hHeld => ?_); refine cZ bZ.tab8 bZ.bits8 (fun HT_ HW_ => ?_)
 generalize w26.drew = w29 at HO471 BK468 HB hHeld ⊢
 refine tI HT_ 0 27 11 1 ?_
 refine tI HT_ 1 28 11 3 ?_
 refine tI HT_ 7 34 11 131 ?_
 refine tT HT_ HW_ hHeld 2 29 11 135 ?_
 refine tI HT_ 3 30 11 143 ?_
 refine tI HT_ 4 31 11 159 ?_
 refine tT HT_ HW_ hHeld 8 35 11 415 ?_
 refine one_ (i := 5) (N := some 32) (Steps.Bs 11 447) rfl rfl (cB HT_.out z2_) z5_ (fun K hK => ?_)
 refine value_ (w1 := ?_) (v := ?_) (by rfl) rfl ?_ ?_
 rotate_left 2
 ·
  go_simp
  constructor
  ·
   rfl
  ·
   rfl
 refine hK.out _ _ ⟨(aD (aG BK468.out _) 0).trans rfl, (aD (aG BK468.out _) 1).trans rfl, (aD (aG BK468.out _) 2).trans rfl⟩ (fun hHeld => ?_)
 clear hK K
 refine nrm 32 ?_
 refine one_ (i := 6) (N := some 33) (Steps.Bs 11 511) rfl rfl (cB HT_.out z2_) z5_ (fun K hK => ?_)
 refine iK (Kd.int .u8) (w0 := w) w.heap.size (by rfl) (.tmp 27) (.tmp 32) 36 5 (.int .u8 0) 1 rfl Tryz.underlying36 info5 rfl z5_ z3_ v470 y469 (((a0_2.size : Int)) % 256) [.int .u8 (((a0_2.size : Int)) % 256)] (fun _ => True) (fun _ => False) rfl rfl ?aP (fun _ hk => hk.elim) ?aF ?aO ?aB ?aS ?aL ?_
 (case aP => exact rfl)
 (case aB => exact (Short.hB HB))
 (case aF => exact (fun _ _ => trivial))
 (case aO => exact (ZKR HO471))
 (case aS => exact (aA (Short.hB HB)))
 (case aL => have := LMc22.out; omega)
 intro v482 w30 ho hb hg hat
 rw [← Ny481.out] at ho
 have n0_ := mk_ (dH (g := gb468) (o := .cells #[.int .i64 a0_0, .int .i64 a0_1, .string a0_2] 102 (0, 0)) (Short.bK BK468) hg (R_ne HO471.out BK468.out z5_))
 have n1_ := mk_ (hb)
 have n2_ := mk_ (ho)
 clear BK468 HB HO471
 revert n0_ n1_ n2_
 intro BK468 HB HO483
 clear ho hb hg hat
 refine hK.out _ _ ⟨kc_ BK468 0, kc_ BK468 1, kc_ BK468 2⟩ (fun hHeld => ?_)
 clear hK K
 refine nrm 33 ?_
 refine one_ (i := 9) (N := some 36) (Steps.Bs 11 1023) rfl rfl (cB HT_.out z2_) z5_ (fun K hK => ?_)
 refine Go.Proofs.YtjnjfogfpmeacaaGreat.Steps.append_str_step (w0 := w) w.heap.size (by rfl) (.tmp 33) _ 36 9 5 rfl Tryz.underlying36 Tryz.underlying9 info5 v482 y481 a0_2 rfl rfl ?aO ?aB ?aS ?aL ?_
 (case aB => exact (Short.hB HB))
 (case aO => exact (Kd.own_of_R (ZKR HO483)))
 (case aS => exact (aA (Short.hB HB)))
 (case aL => have := LMc23.out; omega)
 intro v485 w31 ho0 hb hg
 have ho := R_of_own (h1 := fun _ => rfl) (ok := fun _ => True) ho0 (fun _ _ => trivial)
 clear ho0
 have hat := True.intro
 rw [← Ny484.out] at ho
 change Kd.R (Kd.int .u8) 5 w31 w.heap.size (fun _ => True) v485 y484 at ho
 have n0_ := mk_ (dH (g := gb468) (o := .cells #[.int .i64 a0_0, .int .i64 a0_1, .string a0_2] 102 (0, 0)) (Short.bK BK468) hg (R_ne HO483.out BK468.out z5_))
 have n1_ := mk_ (hb)
 have n2_ := mk_ (ho)
 clear BK468 HB HO483
 revert n0_ n1_ n2_
 intro BK468 HB HO486
 clear ho hb hg hat
 refine hK.out _ _ ⟨kc_ BK468 0, kc_ BK468 1, kc_ BK468 2⟩ (fun hHeld => ?_)
 clear hK K
 refine nrm 36 ?_
 refine tI HT_ 10 3 11 2047 ?_
 refine done_ (cC HT_.out z2_) ?_
 try go_wp2
 go_ret
 exact ⟨_, by first | rfl | (simp [aZ, aY] <;> rfl) | (simp [*, aZ, aY] <;> rfl), by (with_reducible repeat (first | apply R_alloc | apply R_drewN | apply R_drew)); exact HO486.out, Short.hB HB⟩
def bC.l0 : Nat → List (S102) → List Int → Int → Option (List Int)
 | 0, _, _, _ => none
 | k + 1, x0, x3, x4 => if x4 < (x0.length : Int) then (if 0 ≤ x4 then ((bZ.f k ((aK x0 x4).f0) ((aK x0 x4).f1) ((aK x0 x4).f2)).bind fun t491 => (if x3.length + t491.length < 140737488355328 then (bC.l0 k x0 (x3 ++ t491) (wrap64 (x4 + 1))) else (none))) else (none)) else (some x3)
def bC.f (k : Nat) (l0 : List (S102)) : Option (List Int) := bC.l0 k l0 (([((l0.length : Int)) % 256] : List Int)) 0
theorem bC.calls (k : Nat) (A0 : Option Addr) (c0 : Nat) (l0 : List (S102)) (r : List Int) (w : World) (hr0 : Kd.C k102 w A0 l0.length l0) (hc0 : l0.length ≤ c0) (h : bC.f k l0 = some r) :
  Calls Tryz.prog 48 #[.slice A0 l0.length c0] w fun e w' => ∃ v0_ : Value, e = .returned (v0_) ∧ Kd.R (Kd.int .u8) 5 w' w.heap.size (fun _ => True) v0_ r ∧ Below w.heap.size w w' := by
 have hu102 := Tryz.underlying102
 have HR0 := mk_ hr0
 have HC0 := mk_ hc0
 clear hr0 hc0
 have HB := mk_ (Below.refl w.heap.size w)
 have H : (bC.l0 k l0 (([((l0.length : Int)) % 256] : List Int)) 0) = some r := h
 clear h
 obtain ⟨y487, hy487⟩ : ∃ y_ : List Int, y_ = (([((l0.length : Int)) % 256] : List Int)) := ⟨_, rfl⟩
 replace H : (bC.l0 k l0 y487 0) = some r := by first | (rw [hy487]; with_reducible exact H) | (have H2_ := (Option.bind_some _ _).symm.trans H; rw [hy487]; with_reducible exact H2_) | (have H2_ := (Option.bind_some _ _).symm.trans H; with_reducible exact H2_) | with_reducible exact H | (rw [hy487]; exact H) | exact H
 have Ny487 := mk_ hy487
 clear hy487
 have H' := mk_ H
 clear H
 go_enter Tryz.func48, Tryz.ntmps48
 go_wp2_with (first | ((with_reducible refine aQ (N := 8) rfl ?_); refine R_lit (Kd.int .u8) _ 5 ?hg (N := 8) ?hd (xs := ([((l0.length : Int)) % 256] : List Int)) (inner := [.int .u8 (((l0.length : Int)) % 256)]) (ok := fun _ => True) (okp := fun _ => True) ?hr ?hp (fun _ hk => hk) trivial (Below.refl _ _) (Nat.le_refl _) z6_ ?_; (case hd => rfl); (case hg => rfl); (case hr => first | (go_simp; done) | (go_simp; rfl)); (case hp => exact (Reps.one (show Kd.M (Kd.int .u8) _ _ _ (((l0.length : Int)) % 256) [.int .u8 (((l0.length : Int)) % 256)] from rfl) (Reps.none _ _))); intro v488 w2 ho3 hb hg_ hnew_; clear hg_ hnew_; (first | rw [← Ny487.out] at ho3 | (simp only [Int.reduceToNat] at ho3; rw [← Ny487.out] at ho3)); have n0_ := mk_ (bW ho3 (aA (Short.hB HB))); have n1_ := mk_ (aC (Short.hB HB) hb); clear HB; revert n0_ n1_; intro HO489 HB; clear hb ho3))
 go_loopg [3, 4] k (fun kq v3 v4 w' => ∃ (x3_1 : List Int) (x4_1 : Int), v4 = .int .i64 x4_1 ∧ Aside0 (bC.l0 kq l0 x3_1 x4_1 = some r) ∧ Aside0 (kq ≤ k) ∧ Aside0 (Kd.R (Kd.int .u8) 5 w' w.heap.size (fun _ => True) v3 x3_1) ∧ Aside0 (Below w.heap.size w w'))
 case atStart => exact ⟨(y487), (0), z4_, H', ⟨Nat.le_refl _⟩, ⟨by (with_reducible repeat (first | apply R_alloc | apply R_drewN | apply R_drew)); exact HO489.out⟩, ⟨Short.hB HB⟩⟩
 case round =>
  clear H'
  try clear p2
  obtain ⟨x3_1, x4_1, rfl, HA, HK1, HO_3, HB⟩ := hrel
  cases gk with
  | zero => exact absurd HA.out (by simp [bC.l0])
  | succ k1 =>
   have H := HA.out
   clear HA
   simp only [bC.l0] at H
   by_cases c4 : x4_1 < (l0.length : Int)
   rotate_left
   ·
    rw [if_neg c4] at H
    have c4b0 : decide (x4_1 < (l0.length : Int)) = false := decide_eq_false c4
    clear c4
    obtain rfl := Option.some.inj H
    go_wp2
    go_ret
    exact ⟨_, by first | rfl | (simp [aZ, aY] <;> rfl) | (simp [*, aZ, aY] <;> rfl), by (with_reducible repeat (first | apply R_alloc | apply R_drewN | apply R_drew)); exact HO_3.out, Short.hB HB⟩
   rw [if_pos c4] at H
   have c4b0 : decide (x4_1 < (l0.length : Int)) = true := decide_eq_true c4
   clear c4
   by_cases c5 : 0 ≤ x4_1
   rotate_left
   ·
    rw [if_neg c5] at H
    exact absurd H z6_
   rw [if_pos c5] at H
   have c5b0 : decide (0 ≤ x4_1) = true := decide_eq_true c5
   clear c5
   obtain ⟨t491, A6, H⟩ := Option.bind_eq_some_iff.mp H
   replace A6 := mk_ A6
   by_cases c7 : x3_1.length + t491.length < 140737488355328
   rotate_left
   ·
    rw [if_neg c7] at H
    exact absurd H z6_
   rw [if_pos c7] at H
   have LMc7 := mk_ c7
   clear c7
   obtain ⟨y494, hy494⟩ : ∃ y_ : List Int, y_ = (x3_1 ++ t491) := ⟨_, rfl⟩
   replace H : (bC.l0 k1 l0 y494 (wrap64 (x4_1 + 1))) = some r := by first | (rw [hy494]; with_reducible exact H) | (have H2_ := (Option.bind_some _ _).symm.trans H; rw [hy494]; with_reducible exact H2_) | (have H2_ := (Option.bind_some _ _).symm.trans H; with_reducible exact H2_) | with_reducible exact H | (rw [hy494]; exact H) | exact H
   have Ny494 := mk_ hy494
   clear hy494
   have H' := mk_ H
   clear H
   have p490 : 0 ≤ (x4_1 : Int) := of_decide_eq_true z1_
   have q490 : x4_1 < (l0.length : Int) := of_decide_eq_true z1_
   obtain ⟨ad490, e490, hx490_0, hx490_1, hx490_2⟩ := fK HR0.out x4_1 p490 q490
   cases e490
   replace hx490_0 := up_ HB hx490_0
   replace hx490_1 := up_ HB hx490_1
   replace hx490_2 := up_ HB hx490_2
   replace p490 := eq_true p490
   replace q490 := eq_true q490
   go_wp2_with (first | ((with_reducible refine aE (f := 78) rfl ?_); refine Short.gL (some 20) Tryz.func78 #[.agg #[.int .i64 ((aK l0 x4_1).f0), .int .i64 ((aK l0 x4_1).f1), .string ((aK l0 x4_1).f2)]] (h := ?_); (with_reducible refine (bZ.calls k1 ((aK l0 x4_1).f0) ((aK l0 x4_1).f1) ((aK l0 x4_1).f2) t491 _ A6.out).mono ?_); rintro e w8 ⟨v492, rfl, ho0, hb⟩; refine ⟨_, rfl, ?_⟩; have n0_ := mk_ (R_elder' (ZKR HO_3) (R_base ho0) hb); have n1_ := mk_ (bW (R_new' ho0 (R_lt (ZKR HO_3))) (aA (Short.hB HB))); have n2_ := mk_ (aC (Short.hB HB) hb); clear HO_3 HB; revert n0_ n1_ n2_; intro HO_3 HO493 HB; (try clear hb ho0); obtain ⟨Ao10, co10, eo10⟩ := cU HO493.out; subst eo10) | ((with_reducible refine cK (b := .append) (xs := #[.tmp 15, .tmp 20]) rfl ?_); at_builtin; refine eF (Kd.int .u8) (w0 := w) w.heap.size rfl (.tmp 15) (.tmp 20) 36 5 (.int .u8 0) 1 rfl Tryz.underlying36 info5 rfl z5_ z3_ u3 x3_1 t491 _ _ _ (fun k_ => nb_ k_ (.slice Ao10 t491.length co10)) (fun _ => False) rfl rfl ?aO ?aR (fun _ _ h => h) (fun _ h => h.elim) ?aF ?aB ?aS ?aL ?_; (case aR => exact cX_ (R_reads' HO493.out).2.2); (case aB => exact (Short.hB HB)); (case aF => exact (fun k_ hk => Kd.fresh' (R_lt (ZKR HO493)) k_ hk)); (case aO => exact (rM_ HO_3 (fun _ hk => hk.2))); (case aS => exact (aA (Short.hB HB))); (case aL => have := LMc7.out; omega); intro v495 w9 ho hb hg hat; rw [← Ny494.out] at ho; have n0_ := mk_ (dR (ok := (fun _ => True)) (ZKR HO493) hg hat); have n1_ := mk_ (hb); have n2_ := mk_ (ho); clear HO493 HB HO_3; revert n0_ n1_ n2_; intro HO493 HB HO496; clear ho hb hg hat))
   go_roundg k1
   case measure => have := HK1.out; omega
   case rel => exact ⟨(y494), (wrap64 (x4_1 + 1)), z4_, H', ⟨by have := HK1.out; omega⟩, ⟨by (with_reducible repeat (first | apply R_alloc | apply R_drewN | apply R_drew)); exact R_mono HO496.out (fun _ hk => trivial)⟩, ⟨Short.hB HB⟩⟩
end Go.Proofs.YtjnjfogfpmeacaaGreat.PAll
end
section
namespace Go.Proofs.YtjnjfogfpmeacaaGreat.PAll
open Go.RowKit PrintWords PrintLast PrintMore ZipT PrintWords.Kd PrintMore.Kd
attribute [local go_sem] eP eN fD fA dS dT eO eK   -- for this text's walks alone
set_option linter.unusedVariables false
set_option linter.unusedSimpArgs false
def aM.l0 : Nat → List Int → Int → Int → Int → List Int → Int → Int → Int → Int → Int → ByteArray → Int → List (S102) → List (S24) → Option (List Int)
 | 0, _, _, _, _, _, _, _, _, _, _, _, _, _, _ => none
 | k + 1, x3, x4, x498000, x498001, x498002, x498003, x498004, x498005, x498006, x498007, x498008, x498009, x498010, x498011 => if x4 < (x498011.length : Int) then (if 0 ≤ x4 then ((bS.f k ((aW x498011 x4).f0) ((aW x498011 x4).f1)).bind fun t541 => (if x3.length + t541.length < 140737488355328 then (aM.l0 k (x3 ++ t541) (wrap64 (x4 + 1)) x498000 x498001 x498002 x498003 x498004 x498005 x498006 x498007 x498008 x498009 x498010 x498011) else (none))) else (none)) else (some x3)
def aM.f (k : Nat) (a0_0 : Int) (a0_1 : Int) (l0_2 : List Int) (a0_3 : Int) (a0_4 : Int) (a0_5 : Int) (a0_6 : Int) (a0_7 : Int) (a0_8 : ByteArray) (a0_9 : Int) (l0_10 : List (S102)) (l0_11 : List (S24)) : Option (List Int) := (some (([(a0_6) % 256] : List Int) : List Int)).bind fun y498 => ((bS.f k a0_0 a0_1).bind fun t501 => (if y498.length + t501.length < 140737488355328 then ((some (y498 ++ t501 : List Int)).bind fun y504 => ((bJ.f k l0_2).bind fun t507 => (if y504.length + t507.length < 140737488355328 then ((some (y504 ++ t507 : List Int)).bind fun y510 => ((bP.f k a0_3 a0_4 a0_5).bind fun t513 => (if y510.length + t513.length < 140737488355328 then ((some (y510 ++ t513 : List Int)).bind fun y516 => ((some (([(a0_7) % 256, ((a0_8.size : Int)) % 256] : List Int) : List Int)).bind fun y519 => (if y516.length + y519.length < 140737488355328 then ((some (y516 ++ y519 : List Int)).bind fun y522 => (if y522.length + a0_8.size < 140737488355328 then ((some (y522 ++ bytesOf a0_8 : List Int)).bind fun y525 => (if y525.length < 140737488355328 then ((some (y525 ++ [(a0_9) % 256] : List Int)).bind fun y528 => ((bC.f k l0_10).bind fun t531 => (if y528.length + t531.length < 140737488355328 then ((some (y528 ++ t531 : List Int)).bind fun y534 => (if y534.length < 140737488355328 then (aM.l0 k (y534 ++ [((l0_11.length : Int)) % 256]) 0 a0_0 a0_1 l0_2 a0_3 a0_4 a0_5 a0_6 a0_7 a0_8 a0_9 l0_10 l0_11) else (none))) else (none)))) else (none))) else (none))) else (none)))) else (none)))) else (none)))) else (none)))
def aM.T1 : Bool × List (List Nat × List Nat) := (true, [([], []), ([0], [0]), ([1], [1]), ([2], [2]), ([], []), ([4], [4]), ([5], [5]), ([3, 6, 6], [3, 6]), ([7, 7, 0, 1, 2, 3, 4, 5, 6, 7], [7])])
def aM.B1 : List Nat := [0, 1, 3, 7, 0, 16, 48, 127, 255]
theorem aM.tab1 : rtab .any (opsOf Tryz.f21 1) = aM.T1 := by kernel_rfl
theorem aM.bits1 : waitsOk aM.T1.2 aM.B1 = true := by kernel_rfl
def aM.T2 : Bool × List (List Nat × List Nat) := (true, [([], []), ([], []), ([1], [1]), ([2], [2]), ([0, 3, 3], [0, 3]), ([], []), ([5], [5]), ([6, 4], [6]), ([4, 7, 7], [4, 7]), ([8, 8, 0, 1, 2, 3, 4, 5, 6, 7, 8], [0, 8])])
def aM.B2 : List Nat := [0, 0, 2, 6, 15, 0, 32, 127, 255, 511]
theorem aM.tab2 : rtab .any (opsOf Tryz.f21 2) = aM.T2 := by kernel_rfl
theorem aM.bits2 : waitsOk aM.T2.2 aM.B2 = true := by kernel_rfl
def aM.T3 : Bool × List (List Nat × List Nat) := (true, [([], []), ([], []), ([1], [1]), ([2], [2]), ([], []), ([4], [4]), ([5], [5]), ([6], [6]), ([3, 7], [3, 7]), ([0, 8], [0, 8]), ([], []), ([10], [10]), ([9, 11, 9], [9, 11]), ([12, 12, 0, 1, 2, 3, 4, 5, 6, 7, 8, 9, 10, 11, 12], [0, 12])])
def aM.B3 : List Nat := [0, 0, 2, 6, 0, 16, 48, 112, 254, 511, 0, 1024, 4095, 8191]
theorem aM.tab3 : rtab .any (opsOf Tryz.f21 3) = aM.T3 := by kernel_rfl
theorem aM.bits3 : waitsOk aM.T3.2 aM.B3 = true := by kernel_rfl
def aM.T4 : Bool × List (List Nat × List Nat) := (true, [([], []), ([], []), ([1], [1]), ([2], [2]), ([3], [3]), ([0, 4], [0, 4]), ([], []), ([6], [6]), ([7, 5], [7]), ([5, 8, 8], [5, 8]), ([9, 9, 0, 1, 2, 3, 4, 5, 6, 7, 8, 9], [0, 9])])
def aM.B4 : List Nat := [0, 0, 2, 6, 14, 31, 0, 64, 255, 511, 1023]
theorem aM.tab4 : rtab .any (opsOf Tryz.f21 4) = aM.T4 := by kernel_rfl
theorem aM.bits4 : waitsOk aM.T4.2 aM.B4 = true := by kernel_rfl
theorem aM.calls (k : Nat) (a0_0 : Int) (a0_1 : Int) (A0_2 : Option Addr) (c0_2 : Nat) (l0_2 : List Int) (a0_3 : Int) (a0_4 : Int) (a0_5 : Int) (a0_6 : Int) (a0_7 : Int) (a0_8 : ByteArray) (a0_9 : Int) (A0_10 : Option Addr) (c0_10 : Nat) (l0_10 : List (S102)) (A0_11 : Option Addr) (c0_11 : Nat) (l0_11 : List (S24)) (r : List Int) (w : World) (hr0_2 : Kd.C (Kd.int .i64) w A0_2 l0_2.length l0_2) (hc0_2 : l0_2.length ≤ c0_2) (hr0_10 : Kd.C k102 w A0_10 l0_10.length l0_10) (hc0_10 : l0_10.length ≤ c0_10) (hr0_11 : Kd.C k24 w A0_11 l0_11.length l0_11) (hc0_11 : l0_11.length ≤ c0_11) (h : aM.f k a0_0 a0_1 l0_2 a0_3 a0_4 a0_5 a0_6 a0_7 a0_8 a0_9 l0_10 l0_11 = some r) :
  Calls Tryz.prog 21 #[.agg #[.int .i64 a0_0, .int .i64 a0_1, .slice A0_2 l0_2.length c0_2, .int .i64 a0_3, .int .i64 a0_4, .int .i64 a0_5, .int .i64 a0_6, .int .i64 a0_7, .string a0_8, .int .i64 a0_9, .slice A0_10 l0_10.length c0_10, .slice A0_11 l0_11.length c0_11]] w fun e w' => ∃ v0_ : Value, e = .returned (v0_) ∧ Kd.R (Kd.int .u8) 5 w' w.heap.size (fun _ => True) v0_ r ∧ Below w.heap.size w w' := by
 have hu31 := Tryz.underlying31
 have hu24 := Tryz.underlying24
 have hu27 := Tryz.underlying27
 have HR0_2 := mk_ hr0_2
 have HC0_2 := mk_ hc0_2
 clear hr0_2 hc0_2
 have HR0_10 := mk_ hr0_10
 have HC0_10 := mk_ hc0_10
 clear hr0_10 hc0_10
 have HR0_11 := mk_ hr0_11
 have HC0_11 := mk_ hc0_11
 clear hr0_11 hc0_11
 have HB := mk_ (Below.refl w.heap.size w)
 have H : ((some (([(a0_6) % 256] : List Int) : List Int)).bind fun y498 => ((bS.f k a0_0 a0_1).bind fun t501 => (if y498.length + t501.length < 140737488355328 then ((some (y498 ++ t501 : List Int)).bind fun y504 => ((bJ.f k l0_2).bind fun t507 => (if y504.length + t507.length < 140737488355328 then ((some (y504 ++ t507 : List Int)).bind fun y510 => ((bP.f k a0_3 a0_4 a0_5).bind fun t513 => (if y510.length + t513.length < 140737488355328 then ((some (y510 ++ t513 : List Int)).bind fun y516 => ((some (([(a0_7) % 256, ((a0_8.size : Int)) % 256] : List Int) : List Int)).bind fun y519 => (if y516.length + y519.length < 140737488355328 then ((some (y516 ++ y519 : List Int)).bind fun y522 => (if y522.length + a0_8.size < 140737488355328 then ((some (y522 ++ bytesOf a0_8 : List Int)).bind fun y525 => (if y525.length < 140737488355328 then ((some (y525 ++ [(a0_9) % 256] : List Int)).bind fun y528 => ((bC.f k l0_10).bind fun t531 => (if y528.length + t531.length < 140737488355328 then ((some (y528 ++ t531 : List Int)).bind fun y534 => (if y534.length < 140737488355328 then (aM.l0 k (y534 ++ [((l0_11.length : Int)) % 256]) 0 a0_0 a0_1 l0_2 a0_3 a0_4 a0_5 a0_6 a0_7 a0_8 a0_9 l0_10 l0_11) else (none))) else (none)))) else (none))) else (none))) else (none)))) else (none)))) else (none)))) else (none)))) = some r := h
 clear h
 obtain ⟨y498, hy498⟩ : ∃ y_ : List Int, y_ = (([(a0_6) % 256] : List Int)) := ⟨_, rfl⟩
 replace H : ((bS.f k a0_0 a0_1).bind fun t501 => (if y498.length + t501.length < 140737488355328 then ((some (y498 ++ t501 : List Int)).bind fun y504 => ((bJ.f k l0_2).bind fun t507 => (if y504.length + t507.length < 140737488355328 then ((some (y504 ++ t507 : List Int)).bind fun y510 => ((bP.f k a0_3 a0_4 a0_5).bind fun t513 => (if y510.length + t513.length < 140737488355328 then ((some (y510 ++ t513 : List Int)).bind fun y516 => ((some (([(a0_7) % 256, ((a0_8.size : Int)) % 256] : List Int) : List Int)).bind fun y519 => (if y516.length + y519.length < 140737488355328 then ((some (y516 ++ y519 : List Int)).bind fun y522 => (if y522.length + a0_8.size < 140737488355328 then ((some (y522 ++ bytesOf a0_8 : List Int)).bind fun y525 => (if y525.length < 140737488355328 then ((some (y525 ++ [(a0_9) % 256] : List Int)).bind fun y528 => ((bC.f k l0_10).bind fun t531 => (if y528.length + t531.length < 140737488355328 then ((some (y528 ++ t531 : List Int)).bind fun y534 => (if y534.length < 140737488355328 then (aM.l0 k (y534 ++ [((l0_11.length : Int)) % 256]) 0 a0_0 a0_1 l0_2 a0_3 a0_4 a0_5 a0_6 a0_7 a0_8 a0_9 l0_10 l0_11) else (none))) else (none)))) else (none))) else (none))) else (none)))) else (none)))) else (none)))) else (none))) = some r := by first | (rw [hy498]; with_reducible exact H) | (have H2_ := (Option.bind_some _ _).symm.trans H; rw [hy498]; with_reducible exact H2_) | (have H2_ := (Option.bind_some _ _).symm.trans H; with_reducible exact H2_) | with_reducible exact H | (rw [hy498]; exact H) | exact H
 have Ny498 := mk_ hy498
 clear hy498
 obtain ⟨t501, A2, H⟩ := Option.bind_eq_some_iff.mp H
 replace A2 := mk_ A2
 by_cases c3 : y498.length + t501.length < 140737488355328
 rotate_left
 ·
  rw [if_neg c3] at H
  exact absurd H z6_
 rw [if_pos c3] at H
 have LMc3 := mk_ c3
 clear c3
 obtain ⟨y504, hy504⟩ : ∃ y_ : List Int, y_ = (y498 ++ t501) := ⟨_, rfl⟩
 replace H : ((bJ.f k l0_2).bind fun t507 => (if y504.length + t507.length < 140737488355328 then ((some (y504 ++ t507 : List Int)).bind fun y510 => ((bP.f k a0_3 a0_4 a0_5).bind fun t513 => (if y510.length + t513.length < 140737488355328 then ((some (y510 ++ t513 : List Int)).bind fun y516 => ((some (([(a0_7) % 256, ((a0_8.size : Int)) % 256] : List Int) : List Int)).bind fun y519 => (if y516.length + y519.length < 140737488355328 then ((some (y516 ++ y519 : List Int)).bind fun y522 => (if y522.length + a0_8.size < 140737488355328 then ((some (y522 ++ bytesOf a0_8 : List Int)).bind fun y525 => (if y525.length < 140737488355328 then ((some (y525 ++ [(a0_9) % 256] : List Int)).bind fun y528 => ((bC.f k l0_10).bind fun t531 => (if y528.length + t531.length < 140737488355328 then ((some (y528 ++ t531 : List Int)).bind fun y534 => (if y534.length < 140737488355328 then (aM.l0 k (y534 ++ [((l0_11.length : Int)) % 256]) 0 a0_0 a0_1 l0_2 a0_3 a0_4 a0_5 a0_6 a0_7 a0_8 a0_9 l0_10 l0_11) else (none))) else (none)))) else (none))) else (none))) else (none)))) else (none)))) else (none))) = some r := by first | (rw [hy504]; with_reducible exact H) | (have H2_ := (Option.bind_some _ _).symm.trans H; rw [hy504]; with_reducible exact H2_) | (have H2_ := (Option.bind_some _ _).symm.trans H; with_reducible exact H2_) | with_reducible exact H | (rw [hy504]; exact H) | exact H
 have Ny504 := mk_ hy504
 clear hy504
 obtain ⟨t507, A4, H⟩ := Option.bind_eq_some_iff.mp H
 replace A4 := mk_ A4
 by_cases c5 : y504.length + t507.length < 140737488355328
 rotate_left
 ·
  rw [if_neg c5] at H
  exact absurd H z6_
 rw [if_pos c5] at H
 have LMc5 := mk_ c5
 clear c5
 obtain ⟨y510, hy510⟩ : ∃ y_ : List Int, y_ = (y504 ++ t507) := ⟨_, rfl⟩
 replace H : ((bP.f k a0_3 a0_4 a0_5).bind fun t513 => (if y510.length + t513.length < 140737488355328 then ((some (y510 ++ t513 : List Int)).bind fun y516 => ((some (([(a0_7) % 256, ((a0_8.size : Int)) % 256] : List Int) : List Int)).bind fun y519 => (if y516.length + y519.length < 140737488355328 then ((some (y516 ++ y519 : List Int)).bind fun y522 => (if y522.length + a0_8.size < 140737488355328 then ((some (y522 ++ bytesOf a0_8 : List Int)).bind fun y525 => (if y525.length < 140737488355328 then ((some (y525 ++ [(a0_9) % 256] : List Int)).bind fun y528 => ((bC.f k l0_10).bind fun t531 => (if y528.length + t531.length < 140737488355328 then ((some (y528 ++ t531 : List Int)).bind fun y534 => (if y534.length < 140737488355328 then (aM.l0 k (y534 ++ [((l0_11.length : Int)) % 256]) 0 a0_0 a0_1 l0_2 a0_3 a0_4 a0_5 a0_6 a0_7 a0_8 a0_9 l0_10 l0_11) else (none))) else (none)))) else (none))) else (none))) else (none)))) else (none))) = some r := by first | (rw [hy510]; with_reducible exact H) | (have H2_ := (Option.bind_some _ _).symm.trans H; rw [hy510]; with_reducible exact H2_) | (have H2_ := (Option.bind_some _ _).symm.trans H; with_reducible exact H2_) | with_reducible exact H | (rw [hy510]; exact H) | exact H
 have Ny510 := mk_ hy510
 clear hy510
 obtain ⟨t513, A6, H⟩ := Option.bind_eq_some_iff.mp H
 replace A6 := mk_ A6
 by_cases c7 : y510.length + t513.length < 140737488355328
 rotate_left
 ·
  rw [if_neg c7] at H
  exact absurd H z6_
 rw [if_pos c7] at H
 have LMc7 := mk_ c7
 clear c7
 obtain ⟨y516, hy516⟩ : ∃ y_ : List Int, y_ = (y510 ++ t513) := ⟨_, rfl⟩
 replace H : ((some (([(a0_7) % 256, ((a0_8.size : Int)) % 256] : List Int) : List Int)).bind fun y519 => (if y516.length + y519.length < 140737488355328 then ((some (y516 ++ y519 : List Int)).bind fun y522 => (if y522.length + a0_8.size < 140737488355328 then ((some (y522 ++ bytesOf a0_8 : List Int)).bind fun y525 => (if y525.length < 140737488355328 then ((some (y525 ++ [(a0_9) % 256] : List Int)).bind fun y528 => ((bC.f k l0_10).bind fun t531 => (if y528.length + t531.length < 140737488355328 then ((some (y528 ++ t531 : List Int)).bind fun y534 => (if y534.length < 140737488355328 then (aM.l0 k (y534 ++ [((l0_11.length : Int)) % 256]) 0 a0_0 a0_1 l0_2 a0_3 a0_4 a0_5 a0_6 a0_7 a0_8 a0_9 l0_10 l0_11) else (none))) else (none)))) else (none))) else (none))) else (none))) = some r := by first | (rw [hy516]; with_reducible exact H) | (have H2_ := (Option.bind_some _ _).symm.trans H; rw [hy516]; with_reducible exact H2_) | (have H2_ := (Option.bind_some _ _).symm.trans H; with_reducible exact H2_) | with_reducible exact H | (rw [hy516]; exact H) | exact H
 have Ny516 := mk_ hy516
 clear hy516
 obtain ⟨y519, hy519⟩ : ∃ y_ : List Int, y_ = (([(a0_7) % 256, ((a0_8.size : Int)) % 256] : List Int)) := ⟨_, rfl⟩
 replace H : (if y516.length + y519.length < 140737488355328 then ((some (y516 ++ y519 : List Int)).bind fun y522 => (if y522.length + a0_8.size < 140737488355328 then ((some (y522 ++ bytesOf a0_8 : List Int)).bind fun y525 => (if y525.length < 140737488355328 then ((some (y525 ++ [(a0_9) % 256] : List Int)).bind fun y528 => ((bC.f k l0_10).bind fun t531 => (if y528.length + t531.length < 140737488355328 then ((some (y528 ++ t531 : List Int)).bind fun y534 => (if y534.length < 140737488355328 then (aM.l0 k (y534 ++ [((l0_11.length : Int)) % 256]) 0 a0_0 a0_1 l0_2 a0_3 a0_4 a0_5 a0_6 a0_7 a0_8 a0_9 l0_10 l0_11) else (none))) else (none)))) else (none))) else (none))) else (none)) = some r := by first | (rw [hy519]; with_reducible exact H) | (have H2_ := (Option.bind_some _ _).symm.trans H; rw [hy519]; with_reducible exact H2_) | (have H2_ := (Option.bind_some _ _).symm.trans H; with_reducible exact H2_) | with_reducible exact H | (rw [hy519]; exact H) | exact H
 have Ny519 := mk_ hy519
 clear hy519
 by_cases c8 : y516.length + y519.length < 140737488355328
 rotate_left
 ·
  rw [if_neg c8] at H
  exact absurd H z6_
 rw [if_pos c8] at H
 have LMc8 := mk_ c8
 clear c8
 obtain ⟨y522, hy522⟩ : ∃ y_ : List Int, y_ = (y516 ++ y519) := ⟨_, rfl⟩
 replace H : (if y522.length + a0_8.size < 140737488355328 then ((some (y522 ++ bytesOf a0_8 : List Int)).bind fun y525 => (if y525.length < 140737488355328 then ((some (y525 ++ [(a0_9) % 256] : List Int)).bind fun y528 => ((bC.f k l0_10).bind fun t531 => (if y528.length + t531.length < 140737488355328 then ((some (y528 ++ t531 : List Int)).bind fun y534 => (if y534.length < 140737488355328 then (aM.l0 k (y534 ++ [((l0_11.length : Int)) % 256]) 0 a0_0 a0_1 l0_2 a0_3 a0_4 a0_5 a0_6 a0_7 a0_8 a0_9 l0_10 l0_11) else (none))) else (none)))) else (none))) else (none)) = some r := by first | (rw [hy522]; with_reducible exact H) | (have H2_ := (Option.bind_some _ _).symm.trans H; rw [hy522]; with_reducible exact H2_) | (have H2_ := (Option.bind_some _ _).symm.trans H; with_reducible exact H2_) | with_reducible exact H | (rw [hy522]; exact H) | exact H
 have Ny522 := mk_ hy522
 clear hy522
 by_cases c9 : y522.length + a0_8.size < 140737488355328
 rotate_left
 ·
  rw [if_neg c9] at H
  exact absurd H z6_
 rw [if_pos c9] at H
 have LMc9 := mk_ c9
 clear c9
 obtain ⟨y525, hy525⟩ : ∃ y_ : List Int, y_ = (y522 ++ bytesOf a0_8) := ⟨_, rfl⟩
 replace H : (if y525.length < 140737488355328 then ((some (y525 ++ [(a0_9) % 256] : List Int)).bind fun y528 => ((bC.f k l0_10).bind fun t531 => (if y528.length + t531.length < 140737488355328 then ((some (y528 ++ t531 : List Int)).bind fun y534 => (if y534.length < 140737488355328 then (aM.l0 k (y534 ++ [((l0_11.length : Int)) % 256]) 0 a0_0 a0_1 l0_2 a0_3 a0_4 a0_5 a0_6 a0_7 a0_8 a0_9 l0_10 l0_11) else (none))) else (none)))) else (none)) = some r := by first | (rw [hy525]; with_reducible exact H) | (have H2_ := (Option.bind_some _ _).symm.trans H; rw [hy525]; with_reducible exact H2_) | (have H2_ := (Option.bind_some _ _).symm.trans H; with_reducible exact H2_) | with_reducible exact H | (rw [hy525]; exact H) | exact H
 have Ny525 := mk_ hy525
 clear hy525
 by_cases c10 : y525.length < 140737488355328
 rotate_left
 ·
  rw [if_neg c10] at H
  exact absurd H z6_
 rw [if_pos c10] at H
 have LMc10 := mk_ c10
 clear c10
 obtain ⟨y528, hy528⟩ : ∃ y_ : List Int, y_ = (y525 ++ [(a0_9) % 256]) := ⟨_, rfl⟩
 replace H : ((bC.f k l0_10).bind fun t531 => (if y528.length + t531.length < 140737488355328 then ((some (y528 ++ t531 : List Int)).bind fun y534 => (if y534.length < 140737488355328 then (aM.l0 k (y534 ++ [((l0_11.length : Int)) % 256]) 0 a0_0 a0_1 l0_2 a0_3 a0_4 a0_5 a0_6 a0_7 a0_8 a0_9 l0_10 l0_11) else (none))) else (none))) = some r := by first | (rw [hy528]; with_reducible exact H) | (have H2_ := (Option.bind_some _ _).symm.trans H; rw [hy528]; with_reducible exact H2_) | (have H2_ := (Option.bind_some _ _).symm.trans H; with_reducible exact H2_) | with_reducible exact H | (rw [hy528]; exact H) | exact H
 have Ny528 := mk_ hy528
 clear hy528
 obtain ⟨t531, A11, H⟩ := Option.bind_eq_some_iff.mp H
 replace A11 := mk_ A11
 by_cases c12 : y528.length + t531.length < 140737488355328
 rotate_left
 ·
  rw [if_neg c12] at H
  exact absurd H z6_
 rw [if_pos c12] at H
 have LMc12 := mk_ c12
 clear c12
 obtain ⟨y534, hy534⟩ : ∃ y_ : List Int, y_ = (y528 ++ t531) := ⟨_, rfl⟩
 replace H : (if y534.length < 140737488355328 then (aM.l0 k (y534 ++ [((l0_11.length : Int)) % 256]) 0 a0_0 a0_1 l0_2 a0_3 a0_4 a0_5 a0_6 a0_7 a0_8 a0_9 l0_10 l0_11) else (none)) = some r := by first | (rw [hy534]; with_reducible exact H) | (have H2_ := (Option.bind_some _ _).symm.trans H; rw [hy534]; with_reducible exact H2_) | (have H2_ := (Option.bind_some _ _).symm.trans H; with_reducible exact H2_) | with_reducible exact H | (rw [hy534]; exact H) | exact H
 have Ny534 := mk_ hy534
 clear hy534
 by_cases c13 : y534.length < 140737488355328
 rotate_left
 ·
  rw [if_neg c13] at H
  exact absurd H z6_
 rw [if_pos c13] at H
 have LMc13 := mk_ c13
 clear c13
 obtain ⟨y537, hy537⟩ : ∃ y_ : List Int, y_ = (y534 ++ [((l0_11.length : Int)) % 256]) := ⟨_, rfl⟩
 replace H : (aM.l0 k y537 0 a0_0 a0_1 l0_2 a0_3 a0_4 a0_5 a0_6 a0_7 a0_8 a0_9 l0_10 l0_11) = some r := by first | (rw [hy537]; with_reducible exact H) | (have H2_ := (Option.bind_some _ _).symm.trans H; rw [hy537]; with_reducible exact H2_) | (have H2_ := (Option.bind_some _ _).symm.trans H; with_reducible exact H2_) | with_reducible exact H | (rw [hy537]; exact H) | exact H
 have Ny537 := mk_ hy537
 clear hy537
 have H' := mk_ H
 clear H
 go_enter Tryz.func21, Tryz.ntmps21
 try go_wp2_with (first | ((with_reducible refine aQ (N := 1) rfl ?_); refine aN ?hg (N := 1) ?hd (cs := #[.int .i64 a0_0, .int .i64 a0_1, .slice A0_2 l0_2.length c0_2, .int .i64 a0_3, .int .i64 a0_4, .int .i64 a0_5, .int .i64 a0_6, .int .i64 a0_7, .string a0_8, .int .i64 a0_9, .slice A0_10 l0_10.length c0_10, .slice A0_11 l0_11.length c0_11]) (t := 31) ?hr ?_; (case hd => rfl); (case hg => rfl); (case hr => first | (go_simp; done) | (go_simp; rfl)); intro gb497 hg w14 hbox hb; have n0_ := mk_ (aC (Short.hB HB) hb); have n1_ := mk_ (hbox); have n2_ := mk_ ((by rw [hg]; exact (aA (Short.hB HB)) : w.heap.size ≤ gb497)); have n3_ := mk_ ((by rw [hg]; exact (aA (Short.hB HB)) : w.heap.size ≤ gb497)); clear HB; revert n0_ n1_ n2_ n3_; intro HB BK497 GW497 GE497; clear hb hbox hg))
 have n0_ := mk_ (aI BK497.out)
 have n1_ := mk_ (dE HB.out)
 clear BK497 HB
 revert n0_ n1_
 intro BK497 HB
 refine fM (n := 9) (S := fun w' => w'.cell? ⟨gb497, 0, none⟩ = some (.int .i64 a0_0) ∧ w'.cell? ⟨gb497, 1, none⟩ = some (.int .i64 a0_1) ∧ w'.cell? ⟨gb497, 2, none⟩ = some (.slice A0_2 l0_2.length c0_2) ∧ w'.cell? ⟨gb497, 3, none⟩ = some (.int .i64 a0_3) ∧ w'.cell? ⟨gb497, 4, none⟩ = some (.int .i64 a0_4) ∧ w'.cell? ⟨gb497, 5, none⟩ = some (.int .i64 a0_5) ∧ w'.cell? ⟨gb497, 6, none⟩ = some (.int .i64 a0_6) ∧ w'.cell? ⟨gb497, 7, none⟩ = some (.int .i64 a0_7) ∧ w'.cell? ⟨gb497, 8, none⟩ = some (.string a0_8) ∧ w'.cell? ⟨gb497, 9, none⟩ = some (.int .i64 a0_9) ∧ w'.cell? ⟨gb497, 10, none⟩ = some (.slice A0_10 l0_10.length c0_10) ∧ w'.cell? ⟨gb497, 11, none⟩ = some (.slice A0_11 l0_11.length c0_11)) (ds := []) (Steps.Bs 9 0) z2_ rfl rfl (k12e_ BK497) (fun hHeld => ?_); refine cZ aM.tab1 aM.bits1 (fun HT_ HW_ => ?_)
 generalize w14.drew = w15 at BK497 HB hHeld ⊢
 refine tI HT_ 0 5 9 1 ?_
 refine tI HT_ 4 9 9 17 ?_
 refine tT HT_ HW_ hHeld 1 6 9 19 ?_
 refine tI HT_ 2 7 9 23 ?_
 refine tT HT_ HW_ hHeld 5 10 9 55 ?_
 refine join_ (σ := Value × Value) 2 (Steps.Bs 9 127) (fun s_ => [(8, s_.1), (11, s_.2)]) (fun s_ w' => (w'.cell? ⟨gb497, 0, none⟩ = some (.int .i64 a0_0) ∧ w'.cell? ⟨gb497, 1, none⟩ = some (.int .i64 a0_1) ∧ w'.cell? ⟨gb497, 2, none⟩ = some (.slice A0_2 l0_2.length c0_2) ∧ w'.cell? ⟨gb497, 3, none⟩ = some (.int .i64 a0_3) ∧ w'.cell? ⟨gb497, 4, none⟩ = some (.int .i64 a0_4) ∧ w'.cell? ⟨gb497, 5, none⟩ = some (.int .i64 a0_5) ∧ w'.cell? ⟨gb497, 6, none⟩ = some (.int .i64 a0_6) ∧ w'.cell? ⟨gb497, 7, none⟩ = some (.int .i64 a0_7) ∧ w'.cell? ⟨gb497, 8, none⟩ = some (.string a0_8) ∧ w'.cell? ⟨gb497, 9, none⟩ = some (.int .i64 a0_9) ∧ w'.cell? ⟨gb497, 10, none⟩ = some (.slice A0_10 l0_10.length c0_10) ∧ w'.cell? ⟨gb497, 11, none⟩ = some (.slice A0_11 l0_11.length c0_11)) ∧ (Kd.R (Kd.int .u8) 5 w' w.heap.size (fun k_ => nb_ k_ (s_.2)) s_.1 y498) ∧ (Kd.R (Kd.int .u8) 5 w' w.heap.size (fun k_ => nb_ k_ (s_.1)) s_.2 t501) ∧ (w'.heap[gb497]? = some (.cells #[.int .i64 a0_0, .int .i64 a0_1, .slice A0_2 l0_2.length c0_2, .int .i64 a0_3, .int .i64 a0_4, .int .i64 a0_5, .int .i64 a0_6, .int .i64 a0_7, .string a0_8, .int .i64 a0_9, .slice A0_10 l0_10.length c0_10, .slice A0_11 l0_11.length c0_11] 31 (0, 0))) ∧ (Below w.heap.size w w')) ?_ ?_
 rotate_left
 ·
  intro hCont
  refine two_ (i := 3) (j := 6) (Ni := some 8) (Nj := some 11) (Steps.Bs 9 63) (Steps.Bs 9 119) rfl rfl rfl rfl (two_of HT_.out z2_) z5_ z5_ (fun K hK => ?_) (fun K hK => ?_)
  ·
   skip
   refine fO (Kd.int .u8) _ 5 ?hg (N := 8) ?hd (xs := ([(a0_6) % 256] : List Int)) (inner := [.int .u8 ((a0_6) % 256)]) (ok := fun _ => True) (okp := fun _ => True) ?hr ?hp (fun _ hk => hk) trivial (Below.refl _ _) (Nat.le_refl _) z6_ ?_; (case hd => rfl); (case hg => rfl); (case hr => first | (go_simp; done) | (go_simp; rfl)); (case hp => exact (Reps.one (show Kd.M (Kd.int .u8) _ _ _ ((a0_6) % 256) [.int .u8 ((a0_6) % 256)] from rfl) (Reps.none _ _)))
   intro v499 w16 ho17 hb hg_ hnew_
   clear hg_ hnew_
   (first | rw [← Ny498.out] at ho17 | (simp only [Int.reduceToNat] at ho17; rw [← Ny498.out] at ho17))
   have n0_ := mk_ (bW ho17 (aA (Short.hB HB)))
   have n1_ := mk_ (bB_ BK497 hb)
   have n2_ := mk_ (aC (Short.hB HB) hb)
   clear BK497 HB
   revert n0_ n1_ n2_
   intro HO500 BK497 HB
   clear hb ho17
   refine hK.out _ _ (k12e_ BK497) (fun hHeld => ?_)
   clear hK K
   refine nrm 8 ?_
   refine one_ (i := 6) (N := some 11) (Steps.Bs 9 127) rfl rfl (cB HT_.out z2_) z5_ (fun K hK => ?_)
   refine goes_ Tryz.func45 z2_ rfl #[.agg #[.int .i64 a0_0, .int .i64 a0_1]] (by rfl) rfl rfl z0_ ?_
   with_reducible refine (bS.calls k a0_0 a0_1 t501 _ A2.out).mono ?_
   rintro e w18 ⟨v502, rfl, ho0, hb⟩
   refine ⟨_, rfl, ?_⟩
   have n0_ := mk_ (R_elder' (ZKR HO500) (R_base ho0) hb)
   have n1_ := mk_ (bW (R_new' ho0 (R_lt (ZKR HO500))) (aA (Short.hB HB)))
   have n2_ := mk_ (bB_ BK497 hb)
   have n3_ := mk_ (aC (Short.hB HB) hb)
   clear HO500 BK497 HB
   revert n0_ n1_ n2_ n3_
   intro HO500 HO503 BK497 HB
   (try clear hb)
   (try clear hb2)
   (try clear hk)
   (try clear hi)
   (try clear ho0)
   refine hK.out _ _ (k12e_ BK497) (fun hHeld => ?_)
   clear hK K
   refine nrm 11 ?_
   exact norm_ (by simp only [putAll, Act.put, List.setIfInBounds_toArray, List.set_cons_zero, List.set_cons_succ]) (hCont (v499, v502) _ ⟨hHeld, (rM_ HO500 (fun _ hk => hk.2)), (rM_ HO503 (fun _ hk => hk.2)), (Short.bK BK497), (Short.hB HB)⟩)
  ·
   skip
   refine goes_ Tryz.func45 z2_ rfl #[.agg #[.int .i64 a0_0, .int .i64 a0_1]] (by rfl) rfl rfl z0_ ?_
   with_reducible refine (bS.calls k a0_0 a0_1 t501 _ A2.out).mono ?_
   rintro e w16 ⟨v502, rfl, ho0, hb⟩
   refine ⟨_, rfl, ?_⟩
   have n0_ := mk_ (bW ho0 (aA (Short.hB HB)))
   have n1_ := mk_ (bB_ BK497 hb)
   have n2_ := mk_ (aC (Short.hB HB) hb)
   clear BK497 HB
   revert n0_ n1_ n2_
   intro HO503 BK497 HB
   (try clear hb)
   (try clear hb2)
   (try clear hk)
   (try clear hi)
   (try clear ho0)
   refine hK.out _ _ (k12e_ BK497) (fun hHeld => ?_)
   clear hK K
   refine nrm 11 ?_
   refine one_ (i := 3) (N := some 8) (Steps.Bs 9 127) rfl rfl (cB HT_.out z2_) z5_ (fun K hK => ?_)
   refine fO (Kd.int .u8) _ 5 ?hg (N := 8) ?hd (xs := ([(a0_6) % 256] : List Int)) (inner := [.int .u8 ((a0_6) % 256)]) (ok := fun _ => True) (okp := fun _ => True) ?hr ?hp (fun _ hk => hk) trivial (Below.refl _ _) (Nat.le_refl _) z6_ ?_; (case hd => rfl); (case hg => rfl); (case hr => first | (go_simp; done) | (go_simp; rfl)); (case hp => exact (Reps.one (show Kd.M (Kd.int .u8) _ _ _ ((a0_6) % 256) [.int .u8 ((a0_6) % 256)] from rfl) (Reps.none _ _)))
   intro v499 w17 ho18 hb hg_ hnew_
   clear hg_ hnew_
   (first | rw [← Ny498.out] at ho18 | (simp only [Int.reduceToNat] at ho18; rw [← Ny498.out] at ho18))
   have n0_ := mk_ (R_elder' (ZKR HO503) (R_base ho18) hb)
   have n1_ := mk_ (bW (R_new' ho18 (R_lt (ZKR HO503))) (aA (Short.hB HB)))
   have n2_ := mk_ (bB_ BK497 hb)
   have n3_ := mk_ (aC (Short.hB HB) hb)
   clear HO503 BK497 HB
   revert n0_ n1_ n2_ n3_
   intro HO503 HO500 BK497 HB
   clear hb ho18
   refine hK.out _ _ (k12e_ BK497) (fun hHeld => ?_)
   clear hK K
   refine nrm 8 ?_
   exact norm_ (by simp only [putAll, Act.put, List.setIfInBounds_toArray, List.set_cons_zero, List.set_cons_succ]) (hCont (v499, v502) _ ⟨hHeld, (rM_ HO500 (fun _ hk => hk.2)), (rM_ HO503 (fun _ hk => hk.2)), (Short.bK BK497), (Short.hB HB)⟩)
 rintro ⟨v499, v502⟩ w19 ⟨hS_, h0_, h1_, h2_, h3_⟩
 have n0_ : Aside0 (Kd.R (Kd.int .u8) 5 w19 w.heap.size (fun k_ => nb_ k_ (v502)) v499 y498) := ⟨h0_⟩
 have n1_ : Aside0 (Kd.R (Kd.int .u8) 5 w19 w.heap.size (fun k_ => nb_ k_ (v499)) v502 t501) := ⟨h1_⟩
 have n2_ : Aside0 (w19.heap[gb497]? = some (.cells #[.int .i64 a0_0, .int .i64 a0_1, .slice A0_2 l0_2.length c0_2, .int .i64 a0_3, .int .i64 a0_4, .int .i64 a0_5, .int .i64 a0_6, .int .i64 a0_7, .string a0_8, .int .i64 a0_9, .slice A0_10 l0_10.length c0_10, .slice A0_11 l0_11.length c0_11] 31 (0, 0))) := ⟨h2_⟩
 have n3_ : Aside0 (Below w.heap.size w w19) := ⟨h3_⟩
 clear BK497 HB
 clear h0_ h1_ h2_ h3_
 revert n0_ n1_ n2_ n3_
 intro HO500 HO503 BK497 HB
 have hHeld : w19.cell? ⟨gb497, 0, none⟩ = some (.int .i64 a0_0) ∧ w19.cell? ⟨gb497, 1, none⟩ = some (.int .i64 a0_1) ∧ w19.cell? ⟨gb497, 2, none⟩ = some (.slice A0_2 l0_2.length c0_2) ∧ w19.cell? ⟨gb497, 3, none⟩ = some (.int .i64 a0_3) ∧ w19.cell? ⟨gb497, 4, none⟩ = some (.int .i64 a0_4) ∧ w19.cell? ⟨gb497, 5, none⟩ = some (.int .i64 a0_5) ∧ w19.cell? ⟨gb497, 6, none⟩ = some (.int .i64 a0_6) ∧ w19.cell? ⟨gb497, 7, none⟩ = some (.int .i64 a0_7) ∧ w19.cell? ⟨gb497, 8, none⟩ = some (.string a0_8) ∧ w19.cell? ⟨gb497, 9, none⟩ = some (.int .i64 a0_9) ∧ w19.cell? ⟨gb497, 10, none⟩ = some (.slice A0_10 l0_10.length c0_10) ∧ w19.cell? ⟨gb497, 11, none⟩ = some (.slice A0_11 l0_11.length c0_11) := hS_
 obtain ⟨Ao21, co21, eo21⟩ := cU HO503.out
 (first | subst eo21 | (injection eo21 with f1_ f2_ f3_; have f4_ := f1_.symm; have f5_ := f3_.symm; clear f1_ f2_ f3_; subst f4_; subst f5_))
 refine norm_ (a' := ?_) ?_ ?_
 rotate_left
 ·
  simp only [putAll, Act.put, List.setIfInBounds_toArray, List.set_cons_zero, List.set_cons_succ]
  rfl
 refine one_ (i := 7) (N := some 12) (Steps.Bs 9 255) rfl rfl (cB HT_.out z2_) z5_ (fun K hK => ?_)
 refine cY (Kd.int .u8) (w0 := w) w.heap.size (by rfl) (.tmp 8) (.tmp 11) 36 5 (.int .u8 0) 1 rfl Tryz.underlying36 info5 rfl z5_ z3_ v499 y498 t501 _ _ _ (fun k_ => nb_ k_ (.slice Ao21 t501.length co21)) (fun _ => False) rfl rfl ?aO ?aR (fun _ _ h => h) (fun _ h => h.elim) ?aF ?aB ?aS ?aL ?_
 (case aR => exact cX_ (R_reads' HO503.out).2.2)
 (case aB => exact (Short.hB HB))
 (case aF => exact (fun k_ hk => Kd.fresh' (R_lt (ZKR HO503)) k_ hk))
 (case aO => exact (ZKR HO500))
 (case aS => exact (aA (Short.hB HB)))
 (case aL => have := LMc3.out; omega)
 intro v505 w20 ho hb hg hat
 rw [← Ny504.out] at ho
 have n0_ := mk_ (dH (g := gb497) (o := .cells #[.int .i64 a0_0, .int .i64 a0_1, .slice A0_2 l0_2.length c0_2, .int .i64 a0_3, .int .i64 a0_4, .int .i64 a0_5, .int .i64 a0_6, .int .i64 a0_7, .string a0_8, .int .i64 a0_9, .slice A0_10 l0_10.length c0_10, .slice A0_11 l0_11.length c0_11] 31 (0, 0)) (Short.bK BK497) hg (R_ne HO500.out BK497.out z5_))
 have n1_ := mk_ (dR (ok := (fun _ => True)) (rM_ HO503 (fun _ hk => ⟨trivial, hk⟩)) hg hat)
 have n2_ := mk_ (hb)
 have n3_ := mk_ (ho)
 clear BK497 HO503 HB HO500
 revert n0_ n1_ n2_ n3_
 intro BK497 HO503 HB HO506
 clear ho hb hg hat
 refine hK.out _ _ (k12e_ BK497) (fun hHeld => ?_)
 clear hK K
 refine nrm 12 ?_
 refine tI HT_ 8 3 9 511 ?_
 refine done_ (cC HT_.out z2_) ?_
 try go_wp2
 have n0_ := mk_ (R_drew HO503.out)
 have n1_ := mk_ (R_drew HO506.out)
 have n2_ := mk_ (aI BK497.out)
 have n3_ := mk_ (dE HB.out)
 clear HO503 HO506 BK497 HB
 revert n0_ n1_ n2_ n3_
 intro HO503 HO506 BK497 HB
 refine fM (n := 10) (S := fun w' => w'.cell? ⟨gb497, 0, none⟩ = some (.int .i64 a0_0) ∧ w'.cell? ⟨gb497, 1, none⟩ = some (.int .i64 a0_1) ∧ w'.cell? ⟨gb497, 2, none⟩ = some (.slice A0_2 l0_2.length c0_2) ∧ w'.cell? ⟨gb497, 3, none⟩ = some (.int .i64 a0_3) ∧ w'.cell? ⟨gb497, 4, none⟩ = some (.int .i64 a0_4) ∧ w'.cell? ⟨gb497, 5, none⟩ = some (.int .i64 a0_5) ∧ w'.cell? ⟨gb497, 6, none⟩ = some (.int .i64 a0_6) ∧ w'.cell? ⟨gb497, 7, none⟩ = some (.int .i64 a0_7) ∧ w'.cell? ⟨gb497, 8, none⟩ = some (.string a0_8) ∧ w'.cell? ⟨gb497, 9, none⟩ = some (.int .i64 a0_9) ∧ w'.cell? ⟨gb497, 10, none⟩ = some (.slice A0_10 l0_10.length c0_10) ∧ w'.cell? ⟨gb497, 11, none⟩ = some (.slice A0_11 l0_11.length c0_11)) (ds := []) (Steps.Bs 10 0) z2_ rfl rfl (k12e_ BK497) (fun hHeld => ?_); refine cZ aM.tab2 aM.bits2 (fun HT_ HW_ => ?_)
 generalize w20.drew = w22 at HO503 HO506 BK497 HB hHeld ⊢
 refine tI HT_ 0 13 10 1 ?_
 refine tI HT_ 1 14 10 3 ?_
 refine tI HT_ 5 18 10 35 ?_
 refine tT HT_ HW_ hHeld 2 15 10 39 ?_
 refine tT HT_ HW_ hHeld 6 19 10 103 ?_
 refine one_ (i := 3) (N := some 16) (Steps.Bs 10 111) rfl rfl (cB HT_.out z2_) z5_ (fun K hK => ?_)
 refine goes_ Tryz.func46 z2_ rfl #[.slice A0_2 l0_2.length c0_2] (by rfl) rfl rfl z0_ ?_
 with_reducible refine (bJ.calls k _ _ l0_2 t507 _ ?side1 ?side2 A4.out).mono ?_
 (case side1 => exact cX_ (aU HR0_2.out HB.out))
 (case side2 => exact HC0_2.out)
 rintro e w23 ⟨v508, rfl, ho0, hb⟩
 refine ⟨_, rfl, ?_⟩
 have n0_ := mk_ (R_elder' (ZKR HO503) (R_base ho0) hb)
 have n1_ := mk_ (R_elder' (ZKR HO506) (R_base ho0) hb)
 have n2_ := mk_ (bW (R_new' (R_new' ho0 (R_lt (ZKR HO503))) (R_lt (ZKR HO506))) (aA (Short.hB HB)))
 have n3_ := mk_ (bB_ BK497 hb)
 have n4_ := mk_ (aC (Short.hB HB) hb)
 clear HO503 HO506 BK497 HB
 revert n0_ n1_ n2_ n3_ n4_
 intro HO503 HO506 HO509 BK497 HB
 (try clear hb)
 (try clear hb2)
 (try clear hk)
 (try clear hi)
 (try clear ho0)
 obtain ⟨Ao25, co25, eo25⟩ := cU HO509.out
 (first | subst eo25 | (injection eo25 with f1_ f2_ f3_; have f4_ := f1_.symm; have f5_ := f3_.symm; clear f1_ f2_ f3_; subst f4_; subst f5_))
 refine hK.out _ _ (k12e_ BK497) (fun hHeld => ?_)
 clear hK K
 refine nrm 16 ?_
 refine one_ (i := 4) (N := some 17) (Steps.Bs 10 127) rfl rfl (cB HT_.out z2_) z5_ (fun K hK => ?_)
 refine cY (Kd.int .u8) (w0 := w) w.heap.size (by rfl) (.tmp 13) (.tmp 16) 36 5 (.int .u8 0) 1 rfl Tryz.underlying36 info5 rfl z5_ z3_ v505 y504 t507 _ _ _ (fun k_ => nb_ k_ (.slice Ao21 t501.length co21) ∧ nb_ k_ (.slice Ao25 t507.length co25)) (fun _ => False) rfl rfl ?aO ?aR (fun _ _ h => h) (fun _ h => h.elim) ?aF ?aB ?aS ?aL ?_
 (case aR => exact cX_ (R_reads' HO509.out).2.2)
 (case aB => exact (Short.hB HB))
 (case aF => exact (fun k_ hk => ⟨Kd.fresh' (R_lt (ZKR HO503)) k_ hk, Kd.fresh' (R_lt (ZKR HO509)) k_ hk⟩))
 (case aO => exact (ZKR HO506))
 (case aS => exact (aA (Short.hB HB)))
 (case aL => have := LMc5.out; omega)
 intro v511 w24 ho hb hg hat
 rw [← Ny510.out] at ho
 have n0_ := mk_ (dH (g := gb497) (o := .cells #[.int .i64 a0_0, .int .i64 a0_1, .slice A0_2 l0_2.length c0_2, .int .i64 a0_3, .int .i64 a0_4, .int .i64 a0_5, .int .i64 a0_6, .int .i64 a0_7, .string a0_8, .int .i64 a0_9, .slice A0_10 l0_10.length c0_10, .slice A0_11 l0_11.length c0_11] 31 (0, 0)) (Short.bK BK497) hg (R_ne HO506.out BK497.out z5_))
 have n1_ := mk_ (dR (ok := (fun k_ => nb_ k_ (.slice Ao25 t507.length co25))) (rM_ HO503 (fun _ hk => ⟨hk.2, hk.1.2⟩)) hg hat)
 have n2_ := mk_ (dR (ok := (fun k_ => nb_ k_ (.slice Ao21 t501.length co21))) (rM_ HO509 (fun _ hk => ⟨hk.1.2, hk.2⟩)) hg hat)
 have n3_ := mk_ (hb)
 have n4_ := mk_ (ho)
 clear BK497 HO503 HO509 HB HO506
 revert n0_ n1_ n2_ n3_ n4_
 intro BK497 HO503 HO509 HB HO512
 clear ho hb hg hat
 refine hK.out _ _ (k12e_ BK497) (fun hHeld => ?_)
 clear hK K
 refine nrm 17 ?_
 refine one_ (i := 7) (N := some 20) (Steps.Bs 10 255) rfl rfl (cB HT_.out z2_) z5_ (fun K hK => ?_)
 refine goes_ Tryz.func47 z2_ rfl #[.agg #[.int .i64 a0_3, .int .i64 a0_4, .int .i64 a0_5]] (by rfl) rfl rfl z0_ ?_
 with_reducible refine (bP.calls k a0_3 a0_4 a0_5 t513 _ A6.out).mono ?_
 rintro e w26 ⟨v514, rfl, ho0, hb⟩
 refine ⟨_, rfl, ?_⟩
 have n0_ := mk_ (R_elder' (ZKR HO503) (R_base ho0) hb)
 have n1_ := mk_ (R_elder' (ZKR HO509) (R_base ho0) hb)
 have n2_ := mk_ (R_elder' (ZKR HO512) (R_base ho0) hb)
 have n3_ := mk_ (bW (R_new' (R_new' (R_new' ho0 (R_lt (ZKR HO503))) (R_lt (ZKR HO509))) (R_lt (ZKR HO512))) (aA (Short.hB HB)))
 have n4_ := mk_ (bB_ BK497 hb)
 have n5_ := mk_ (aC (Short.hB HB) hb)
 clear HO503 HO509 HO512 BK497 HB
 revert n0_ n1_ n2_ n3_ n4_ n5_
 intro HO503 HO509 HO512 HO515 BK497 HB
 (try clear hb)
 (try clear hb2)
 (try clear hk)
 (try clear hi)
 (try clear ho0)
 obtain ⟨Ao28, co28, eo28⟩ := cU HO515.out
 (first | subst eo28 | (injection eo28 with f1_ f2_ f3_; have f4_ := f1_.symm; have f5_ := f3_.symm; clear f1_ f2_ f3_; subst f4_; subst f5_))
 refine hK.out _ _ (k12e_ BK497) (fun hHeld => ?_)
 clear hK K
 refine nrm 20 ?_
 refine one_ (i := 8) (N := some 21) (Steps.Bs 10 511) rfl rfl (cB HT_.out z2_) z5_ (fun K hK => ?_)
 refine cY (Kd.int .u8) (w0 := w) w.heap.size (by rfl) (.tmp 17) (.tmp 20) 36 5 (.int .u8 0) 1 rfl Tryz.underlying36 info5 rfl z5_ z3_ v511 y510 t513 _ _ _ (fun k_ => nb_ k_ (.slice Ao21 t501.length co21) ∧ nb_ k_ (.slice Ao25 t507.length co25) ∧ nb_ k_ (.slice Ao28 t513.length co28)) (fun _ => False) rfl rfl ?aO ?aR (fun _ _ h => h) (fun _ h => h.elim) ?aF ?aB ?aS ?aL ?_
 (case aR => exact cX_ (R_reads' HO515.out).2.2)
 (case aB => exact (Short.hB HB))
 (case aF => exact (fun k_ hk => ⟨Kd.fresh' (R_lt (ZKR HO503)) k_ hk, Kd.fresh' (R_lt (ZKR HO509)) k_ hk, Kd.fresh' (R_lt (ZKR HO515)) k_ hk⟩))
 (case aO => exact (rM_ HO512 (fun _ hk => ⟨hk.1.1, ⟨hk.1.2, hk.2⟩⟩)))
 (case aS => exact (aA (Short.hB HB)))
 (case aL => have := LMc7.out; omega)
 intro v517 w27 ho hb hg hat
 rw [← Ny516.out] at ho
 have n0_ := mk_ (dH (g := gb497) (o := .cells #[.int .i64 a0_0, .int .i64 a0_1, .slice A0_2 l0_2.length c0_2, .int .i64 a0_3, .int .i64 a0_4, .int .i64 a0_5, .int .i64 a0_6, .int .i64 a0_7, .string a0_8, .int .i64 a0_9, .slice A0_10 l0_10.length c0_10, .slice A0_11 l0_11.length c0_11] 31 (0, 0)) (Short.bK BK497) hg (R_ne HO512.out BK497.out z5_))
 have n1_ := mk_ (dR (ok := (fun k_ => nb_ k_ (.slice Ao25 t507.length co25) ∧ nb_ k_ (.slice Ao28 t513.length co28))) (rM_ HO503 (fun _ hk => ⟨⟨hk.1.1, hk.2⟩, hk.1.2⟩)) hg hat)
 have n2_ := mk_ (dR (ok := (fun k_ => nb_ k_ (.slice Ao21 t501.length co21) ∧ nb_ k_ (.slice Ao28 t513.length co28))) (rM_ HO509 (fun _ hk => ⟨⟨hk.1.1, hk.2⟩, hk.1.2⟩)) hg hat)
 have n3_ := mk_ (dR (ok := (fun k_ => nb_ k_ (.slice Ao21 t501.length co21) ∧ nb_ k_ (.slice Ao25 t507.length co25))) (rM_ HO515 (fun _ hk => ⟨⟨hk.1.1.2, hk.1.2⟩, hk.2⟩)) hg hat)
 have n4_ := mk_ (hb)
 have n5_ := mk_ (ho)
 clear BK497 HO503 HO509 HO515 HB HO512
 revert n0_ n1_ n2_ n3_ n4_ n5_
 intro BK497 HO503 HO509 HO515 HB HO518
 clear ho hb hg hat
 refine hK.out _ _ (k12e_ BK497) (fun hHeld => ?_)
 clear hK K
 refine nrm 21 ?_
 refine tI HT_ 9 3 10 1023 ?_
 refine done_ (cC HT_.out z2_) ?_
 try go_wp2
 have n0_ := mk_ (R_drew HO503.out)
 have n1_ := mk_ (R_drew HO509.out)
 have n2_ := mk_ (R_drew HO515.out)
 have n3_ := mk_ (R_drew HO518.out)
 have n4_ := mk_ (aI BK497.out)
 have n5_ := mk_ (dE HB.out)
 clear HO503 HO509 HO515 HO518 BK497 HB
 revert n0_ n1_ n2_ n3_ n4_ n5_
 intro HO503 HO509 HO515 HO518 BK497 HB
 refine fM (n := 14) (S := fun w' => w'.cell? ⟨gb497, 0, none⟩ = some (.int .i64 a0_0) ∧ w'.cell? ⟨gb497, 1, none⟩ = some (.int .i64 a0_1) ∧ w'.cell? ⟨gb497, 2, none⟩ = some (.slice A0_2 l0_2.length c0_2) ∧ w'.cell? ⟨gb497, 3, none⟩ = some (.int .i64 a0_3) ∧ w'.cell? ⟨gb497, 4, none⟩ = some (.int .i64 a0_4) ∧ w'.cell? ⟨gb497, 5, none⟩ = some (.int .i64 a0_5) ∧ w'.cell? ⟨gb497, 6, none⟩ = some (.int .i64 a0_6) ∧ w'.cell? ⟨gb497, 7, none⟩ = some (.int .i64 a0_7) ∧ w'.cell? ⟨gb497, 8, none⟩ = some (.string a0_8) ∧ w'.cell? ⟨gb497, 9, none⟩ = some (.int .i64 a0_9) ∧ w'.cell? ⟨gb497, 10, none⟩ = some (.slice A0_10 l0_10.length c0_10) ∧ w'.cell? ⟨gb497, 11, none⟩ = some (.slice A0_11 l0_11.length c0_11)) (ds := []) (Steps.Bs 14 0) z2_ rfl rfl (k12e_ BK497) (fun hHeld => ?_); refine cZ aM.tab3 aM.bits3 (fun HT_ HW_ => ?_)
 generalize w27.drew = w29 at HO503 HO509 HO515 HO518 BK497 HB hHeld ⊢
 refine tI HT_ 0 22 14 1 ?_
 refine tI HT_ 1 23 14 3 ?_
 refine tI HT_ 4 26 14 19 ?_
 refine tI HT_ 10 32 14 1043 ?_
 refine tT HT_ HW_ hHeld 2 24 14 1047 ?_
 refine tI HT_ 3 25 14 1055 ?_
 refine tT HT_ HW_ hHeld 5 27 14 1087 ?_
 refine tI HT_ 6 28 14 1151 ?_
 refine tI HT_ 7 29 14 1279 ?_
 refine tT HT_ HW_ hHeld 11 33 14 3327 ?_
 refine one_ (i := 8) (N := some 30) (Steps.Bs 14 3583) rfl rfl (cB HT_.out z2_) z5_ (fun K hK => ?_)
 refine fO (Kd.int .u8) _ 5 ?hg (N := 30) ?hd (xs := ([(a0_7) % 256, ((a0_8.size : Int)) % 256] : List Int)) (inner := [.int .u8 ((a0_7) % 256), .int .u8 (((a0_8.size : Int)) % 256)]) (ok := fun _ => True) (okp := fun _ => True) ?hr ?hp (fun _ hk => hk) trivial (Below.refl _ _) (Nat.le_refl _) z6_ ?_; (case hd => rfl); (case hg => rfl); (case hr => first | (go_simp; done) | (go_simp; rfl)); (case hp => exact (Reps.one (show Kd.M (Kd.int .u8) _ _ _ ((a0_7) % 256) [.int .u8 ((a0_7) % 256)] from rfl) (Reps.one (show Kd.M (Kd.int .u8) _ _ _ (((a0_8.size : Int)) % 256) [.int .u8 (((a0_8.size : Int)) % 256)] from rfl) (Reps.none _ _))))
 intro v520 w30 ho31 hb hg_ hnew_
 clear hg_ hnew_
 (first | rw [← Ny519.out] at ho31 | (simp only [Int.reduceToNat] at ho31; rw [← Ny519.out] at ho31))
 have n0_ := mk_ (R_elder' (ZKR HO503) (R_base ho31) hb)
 have n1_ := mk_ (R_elder' (ZKR HO509) (R_base ho31) hb)
 have n2_ := mk_ (R_elder' (ZKR HO515) (R_base ho31) hb)
 have n3_ := mk_ (R_elder' (ZKR HO518) (R_base ho31) hb)
 have n4_ := mk_ (bW (R_new' (R_new' (R_new' (R_new' ho31 (R_lt (ZKR HO503))) (R_lt (ZKR HO509))) (R_lt (ZKR HO515))) (R_lt (ZKR HO518))) (aA (Short.hB HB)))
 have n5_ := mk_ (bB_ BK497 hb)
 have n6_ := mk_ (aC (Short.hB HB) hb)
 clear HO503 HO509 HO515 HO518 BK497 HB
 revert n0_ n1_ n2_ n3_ n4_ n5_ n6_
 intro HO503 HO509 HO515 HO518 HO521 BK497 HB
 clear hb ho31
 obtain ⟨Ao33, co33, eo33⟩ := cU HO521.out
 (first | subst eo33 | (injection eo33 with f1_ f2_ f3_; have f4_ := f1_.symm; have f5_ := f3_.symm; clear f1_ f2_ f3_; subst f4_; subst f5_))
 refine hK.out _ _ (k12e_ BK497) (fun hHeld => ?_)
 clear hK K
 refine nrm 30 ?_
 refine one_ (i := 9) (N := some 31) (Steps.Bs 14 4095) rfl rfl (cB HT_.out z2_) z5_ (fun K hK => ?_)
 refine cY (Kd.int .u8) (w0 := w) w.heap.size (by rfl) (.tmp 22) (.tmp 30) 36 5 (.int .u8 0) 1 rfl Tryz.underlying36 info5 rfl z5_ z3_ v517 y516 y519 _ _ _ (fun k_ => nb_ k_ (.slice Ao21 t501.length co21) ∧ nb_ k_ (.slice Ao25 t507.length co25) ∧ nb_ k_ (.slice Ao28 t513.length co28) ∧ nb_ k_ (.slice Ao33 y519.length co33)) (fun _ => False) rfl rfl ?aO ?aR (fun _ _ h => h) (fun _ h => h.elim) ?aF ?aB ?aS ?aL ?_
 (case aR => exact cX_ (R_reads' HO521.out).2.2)
 (case aB => exact (Short.hB HB))
 (case aF => exact (fun k_ hk => ⟨Kd.fresh' (R_lt (ZKR HO503)) k_ hk, Kd.fresh' (R_lt (ZKR HO509)) k_ hk, Kd.fresh' (R_lt (ZKR HO515)) k_ hk, Kd.fresh' (R_lt (ZKR HO521)) k_ hk⟩))
 (case aO => exact (rM_ HO518 (fun _ hk => ⟨hk.1.1, ⟨hk.1.2.1, ⟨hk.1.2.2, hk.2⟩⟩⟩)))
 (case aS => exact (aA (Short.hB HB)))
 (case aL => have := LMc8.out; omega)
 intro v523 w32 ho hb hg hat
 rw [← Ny522.out] at ho
 have n0_ := mk_ (dH (g := gb497) (o := .cells #[.int .i64 a0_0, .int .i64 a0_1, .slice A0_2 l0_2.length c0_2, .int .i64 a0_3, .int .i64 a0_4, .int .i64 a0_5, .int .i64 a0_6, .int .i64 a0_7, .string a0_8, .int .i64 a0_9, .slice A0_10 l0_10.length c0_10, .slice A0_11 l0_11.length c0_11] 31 (0, 0)) (Short.bK BK497) hg (R_ne HO518.out BK497.out z5_))
 have n1_ := mk_ (dR (ok := (fun k_ => nb_ k_ (.slice Ao25 t507.length co25) ∧ nb_ k_ (.slice Ao28 t513.length co28) ∧ nb_ k_ (.slice Ao33 y519.length co33))) (rM_ HO503 (fun _ hk => ⟨⟨hk.1.1.1, ⟨hk.1.1.2, hk.2⟩⟩, hk.1.2⟩)) hg hat)
 have n2_ := mk_ (dR (ok := (fun k_ => nb_ k_ (.slice Ao21 t501.length co21) ∧ nb_ k_ (.slice Ao28 t513.length co28) ∧ nb_ k_ (.slice Ao33 y519.length co33))) (rM_ HO509 (fun _ hk => ⟨⟨hk.1.1.1, ⟨hk.1.1.2, hk.2⟩⟩, hk.1.2⟩)) hg hat)
 have n3_ := mk_ (dR (ok := (fun k_ => nb_ k_ (.slice Ao21 t501.length co21) ∧ nb_ k_ (.slice Ao25 t507.length co25) ∧ nb_ k_ (.slice Ao33 y519.length co33))) (rM_ HO515 (fun _ hk => ⟨⟨hk.1.1.1, ⟨hk.1.1.2, hk.2⟩⟩, hk.1.2⟩)) hg hat)
 have n4_ := mk_ (dR (ok := (fun k_ => nb_ k_ (.slice Ao21 t501.length co21) ∧ nb_ k_ (.slice Ao25 t507.length co25) ∧ nb_ k_ (.slice Ao28 t513.length co28))) (rM_ HO521 (fun _ hk => ⟨⟨hk.1.1.1.2, ⟨hk.1.1.2, hk.1.2⟩⟩, hk.2⟩)) hg hat)
 have n5_ := mk_ (hb)
 have n6_ := mk_ (ho)
 clear BK497 HO503 HO509 HO515 HO521 HB HO518
 revert n0_ n1_ n2_ n3_ n4_ n5_ n6_
 intro BK497 HO503 HO509 HO515 HO521 HB HO524
 clear ho hb hg hat
 refine hK.out _ _ (k12e_ BK497) (fun hHeld => ?_)
 clear hK K
 refine nrm 31 ?_
 refine one_ (i := 12) (N := some 34) (Steps.Bs 14 8191) rfl rfl (cB HT_.out z2_) z5_ (fun K hK => ?_)
 refine Go.Proofs.YtjnjfogfpmeacaaGreat.Steps.append_str_step (w0 := w) w.heap.size (by rfl) (.tmp 31) _ 36 9 5 rfl Tryz.underlying36 Tryz.underlying9 info5 v523 y522 a0_8 rfl rfl ?aO ?aB ?aS ?aL ?_
 (case aB => exact (Short.hB HB))
 (case aO => exact (Kd.own_of_R (rM_ HO524 (fun _ hk => trivial))))
 (case aS => exact (aA (Short.hB HB)))
 (case aL => have := LMc9.out; omega)
 intro v526 w34 ho0 hb hg
 have ho := R_of_own (h1 := fun _ => rfl) (ok := fun _ => True) ho0 (fun _ _ => trivial)
 clear ho0
 have hat := True.intro
 rw [← Ny525.out] at ho
 change Kd.R (Kd.int .u8) 5 w34 w.heap.size (fun _ => True) v526 y525 at ho
 have n0_ := mk_ (dH (g := gb497) (o := .cells #[.int .i64 a0_0, .int .i64 a0_1, .slice A0_2 l0_2.length c0_2, .int .i64 a0_3, .int .i64 a0_4, .int .i64 a0_5, .int .i64 a0_6, .int .i64 a0_7, .string a0_8, .int .i64 a0_9, .slice A0_10 l0_10.length c0_10, .slice A0_11 l0_11.length c0_11] 31 (0, 0)) (Short.bK BK497) hg (R_ne HO524.out BK497.out z5_))
 have n1_ := mk_ (hb)
 have n2_ := mk_ (ho)
 clear BK497 HB HO524
 revert n0_ n1_ n2_
 intro BK497 HB HO527
 clear ho hb hg hat
 refine hK.out _ _ (k12e_ BK497) (fun hHeld => ?_)
 clear hK K
 refine nrm 34 ?_
 refine tI HT_ 13 3 14 16383 ?_
 refine done_ (cC HT_.out z2_) ?_
 try go_wp2
 have n0_ := mk_ (R_drew HO527.out)
 have n1_ := mk_ (aI BK497.out)
 have n2_ := mk_ (dE HB.out)
 clear HO527 BK497 HB
 revert n0_ n1_ n2_
 intro HO527 BK497 HB
 refine fM (n := 11) (S := fun w' => w'.cell? ⟨gb497, 0, none⟩ = some (.int .i64 a0_0) ∧ w'.cell? ⟨gb497, 1, none⟩ = some (.int .i64 a0_1) ∧ w'.cell? ⟨gb497, 2, none⟩ = some (.slice A0_2 l0_2.length c0_2) ∧ w'.cell? ⟨gb497, 3, none⟩ = some (.int .i64 a0_3) ∧ w'.cell? ⟨gb497, 4, none⟩ = some (.int .i64 a0_4) ∧ w'.cell? ⟨gb497, 5, none⟩ = some (.int .i64 a0_5) ∧ w'.cell? ⟨gb497, 6, none⟩ = some (.int .i64 a0_6) ∧ w'.cell? ⟨gb497, 7, none⟩ = some (.int .i64 a0_7) ∧ w'.cell? ⟨gb497, 8, none⟩ = some (.string a0_8) ∧ w'.cell? ⟨gb497, 9, none⟩ = some (.int .i64 a0_9) ∧ w'.cell? ⟨gb497, 10, none⟩ = some (.slice A0_10 l0_10.length c0_10) ∧ w'.cell? ⟨gb497, 11, none⟩ = some (.slice A0_11 l0_11.length c0_11)) (ds := []) (Steps.Bs 11 0) z2_ rfl rfl (k12e_ BK497) (fun hHeld => ?_); refine cZ aM.tab4 aM.bits4 (fun HT_ HW_ => ?_)
 generalize w34.drew = w35 at HO527 BK497 HB hHeld ⊢
 refine tI HT_ 0 35 11 1 ?_
 refine tI HT_ 1 36 11 3 ?_
 refine tI HT_ 6 41 11 67 ?_
 refine tT HT_ HW_ hHeld 2 37 11 71 ?_
 refine tI HT_ 3 38 11 79 ?_
 refine tT HT_ HW_ hHeld 7 42 11 207 ?_
 refine one_ (i := 4) (N := some 39) (Steps.Bs 11 223) rfl rfl (cB HT_.out z2_) z5_ (fun K hK => ?_)
 refine value_ (w1 := ?_) (v := ?_) (by rfl) rfl ?_ ?_
 rotate_left 2
 ·
  go_simp
  constructor
  ·
   rfl
  ·
   rfl
 refine hK.out _ _ ⟨(aD (aG BK497.out _) 0).trans rfl, (aD (aG BK497.out _) 1).trans rfl, (aD (aG BK497.out _) 2).trans rfl, (aD (aG BK497.out _) 3).trans rfl, (aD (aG BK497.out _) 4).trans rfl, (aD (aG BK497.out _) 5).trans rfl, (aD (aG BK497.out _) 6).trans rfl, (aD (aG BK497.out _) 7).trans rfl, (aD (aG BK497.out _) 8).trans rfl, (aD (aG BK497.out _) 9).trans rfl, (aD (aG BK497.out _) 10).trans rfl, (aD (aG BK497.out _) 11).trans rfl⟩ (fun hHeld => ?_)
 clear hK K
 refine nrm 39 ?_
 refine one_ (i := 5) (N := some 40) (Steps.Bs 11 255) rfl rfl (cB HT_.out z2_) z5_ (fun K hK => ?_)
 refine iK (Kd.int .u8) (w0 := w) w.heap.size (by rfl) (.tmp 35) (.tmp 39) 36 5 (.int .u8 0) 1 rfl Tryz.underlying36 info5 rfl z5_ z3_ v526 y525 ((a0_9) % 256) [.int .u8 ((a0_9) % 256)] (fun _ => True) (fun _ => False) rfl rfl ?aP (fun _ hk => hk.elim) ?aF ?aO ?aB ?aS ?aL ?_
 (case aP => exact rfl)
 (case aB => exact (Short.hB HB))
 (case aF => exact (fun _ _ => trivial))
 (case aO => exact (ZKR HO527))
 (case aS => exact (aA (Short.hB HB)))
 (case aL => have := LMc10.out; omega)
 intro v529 w36 ho hb hg hat
 rw [← Ny528.out] at ho
 have n0_ := mk_ (dH (g := gb497) (o := .cells #[.int .i64 a0_0, .int .i64 a0_1, .slice A0_2 l0_2.length c0_2, .int .i64 a0_3, .int .i64 a0_4, .int .i64 a0_5, .int .i64 a0_6, .int .i64 a0_7, .string a0_8, .int .i64 a0_9, .slice A0_10 l0_10.length c0_10, .slice A0_11 l0_11.length c0_11] 31 (0, 0)) (Short.bK BK497) hg (R_ne HO527.out BK497.out z5_))
 have n1_ := mk_ (hb)
 have n2_ := mk_ (ho)
 clear BK497 HB HO527
 revert n0_ n1_ n2_
 intro BK497 HB HO530
 clear ho hb hg hat
 refine hK.out _ _ (k12e_ BK497) (fun hHeld => ?_)
 clear hK K
 refine nrm 40 ?_
 refine one_ (i := 8) (N := some 43) (Steps.Bs 11 511) rfl rfl (cB HT_.out z2_) z5_ (fun K hK => ?_)
 refine goes_ Tryz.func48 z2_ rfl #[.slice A0_10 l0_10.length c0_10] (by rfl) rfl rfl z0_ ?_
 with_reducible refine (bC.calls k _ _ l0_10 t531 _ ?side1 ?side2 A11.out).mono ?_
 (case side1 => exact cX_ (aU HR0_10.out HB.out))
 (case side2 => exact HC0_10.out)
 rintro e w37 ⟨v532, rfl, ho0, hb⟩
 refine ⟨_, rfl, ?_⟩
 have n0_ := mk_ (R_elder' (ZKR HO530) (R_base ho0) hb)
 have n1_ := mk_ (bW (R_new' ho0 (R_lt (ZKR HO530))) (aA (Short.hB HB)))
 have n2_ := mk_ (bB_ BK497 hb)
 have n3_ := mk_ (aC (Short.hB HB) hb)
 clear HO530 BK497 HB
 revert n0_ n1_ n2_ n3_
 intro HO530 HO533 BK497 HB
 (try clear hb)
 (try clear hb2)
 (try clear hk)
 (try clear hi)
 (try clear ho0)
 obtain ⟨Ao39, co39, eo39⟩ := cU HO533.out
 (first | subst eo39 | (injection eo39 with f1_ f2_ f3_; have f4_ := f1_.symm; have f5_ := f3_.symm; clear f1_ f2_ f3_; subst f4_; subst f5_))
 refine hK.out _ _ (k12e_ BK497) (fun hHeld => ?_)
 clear hK K
 refine nrm 43 ?_
 refine one_ (i := 9) (N := some 44) (Steps.Bs 11 1023) rfl rfl (cB HT_.out z2_) z5_ (fun K hK => ?_)
 refine cY (Kd.int .u8) (w0 := w) w.heap.size (by rfl) (.tmp 40) (.tmp 43) 36 5 (.int .u8 0) 1 rfl Tryz.underlying36 info5 rfl z5_ z3_ v529 y528 t531 _ _ _ (fun k_ => nb_ k_ (.slice Ao39 t531.length co39)) (fun _ => False) rfl rfl ?aO ?aR (fun _ _ h => h) (fun _ h => h.elim) ?aF ?aB ?aS ?aL ?_
 (case aR => exact cX_ (R_reads' HO533.out).2.2)
 (case aB => exact (Short.hB HB))
 (case aF => exact (fun k_ hk => Kd.fresh' (R_lt (ZKR HO533)) k_ hk))
 (case aO => exact (rM_ HO530 (fun _ hk => hk.2)))
 (case aS => exact (aA (Short.hB HB)))
 (case aL => have := LMc12.out; omega)
 intro v535 w38 ho hb hg hat
 rw [← Ny534.out] at ho
 have n0_ := mk_ (dH (g := gb497) (o := .cells #[.int .i64 a0_0, .int .i64 a0_1, .slice A0_2 l0_2.length c0_2, .int .i64 a0_3, .int .i64 a0_4, .int .i64 a0_5, .int .i64 a0_6, .int .i64 a0_7, .string a0_8, .int .i64 a0_9, .slice A0_10 l0_10.length c0_10, .slice A0_11 l0_11.length c0_11] 31 (0, 0)) (Short.bK BK497) hg (R_ne HO530.out BK497.out z5_))
 have n1_ := mk_ (dR (ok := (fun _ => True)) (ZKR HO533) hg hat)
 have n2_ := mk_ (hb)
 have n3_ := mk_ (ho)
 clear BK497 HO533 HB HO530
 revert n0_ n1_ n2_ n3_
 intro BK497 HO533 HB HO536
 clear ho hb hg hat
 refine hK.out _ _ (k12e_ BK497) (fun hHeld => ?_)
 clear hK K
 refine nrm 44 ?_
 refine tI HT_ 10 3 11 2047 ?_
 refine done_ (cC HT_.out z2_) ?_
 have hcz40_0 : w38.cell? ⟨gb497, 0, none⟩ = some (.int .i64 a0_0) := kc_ BK497 0
 have hcz40_1 : w38.cell? ⟨gb497, 1, none⟩ = some (.int .i64 a0_1) := kc_ BK497 1
 have hcz40_2 : w38.cell? ⟨gb497, 2, none⟩ = some (.slice A0_2 l0_2.length c0_2) := kc_ BK497 2
 have hcz40_3 : w38.cell? ⟨gb497, 3, none⟩ = some (.int .i64 a0_3) := kc_ BK497 3
 have hcz40_4 : w38.cell? ⟨gb497, 4, none⟩ = some (.int .i64 a0_4) := kc_ BK497 4
 have hcz40_5 : w38.cell? ⟨gb497, 5, none⟩ = some (.int .i64 a0_5) := kc_ BK497 5
 have hcz40_6 : w38.cell? ⟨gb497, 6, none⟩ = some (.int .i64 a0_6) := kc_ BK497 6
 have hcz40_7 : w38.cell? ⟨gb497, 7, none⟩ = some (.int .i64 a0_7) := kc_ BK497 7
 have hcz40_8 : w38.cell? ⟨gb497, 8, none⟩ = some (.string a0_8) := kc_ BK497 8
 have hcz40_9 : w38.cell? ⟨gb497, 9, none⟩ = some (.int .i64 a0_9) := kc_ BK497 9
 have hcz40_10 : w38.cell? ⟨gb497, 10, none⟩ = some (.slice A0_10 l0_10.length c0_10) := kc_ BK497 10
 have hcz40_11 : w38.cell? ⟨gb497, 11, none⟩ = some (.slice A0_11 l0_11.length c0_11) := kc_ BK497 11
 have hfz40_0 := aX BK497.out
 try go_wp2_with (first | ((with_reducible refine cK (b := .append) (xs := #[.tmp 45, .tmp 50]) rfl ?_); at_builtin; refine fU (Kd.int .u8) (w0 := w) w.heap.size rfl (.tmp 45) (.tmp 50) 36 5 (.int .u8 0) 1 rfl Tryz.underlying36 info5 rfl z5_ z3_ v535 y534 (((l0_11.length : Int)) % 256) [.int .u8 (((l0_11.length : Int)) % 256)] (fun k_ => nb_ k_ (.slice Ao39 t531.length co39)) (fun _ => False) rfl rfl ?aP (fun _ hk => hk.elim) ?aF ?aO ?aB ?aS ?aL ?_; (case aP => exact rfl); (case aB => exact (Short.hB HB)); (case aF => exact (fun k_ hk => Kd.fresh' (R_lt (ZKR HO533)) k_ hk)); (case aO => exact (ZKR HO536)); (case aS => exact (aA (Short.hB HB))); (case aL => have := LMc13.out; omega); intro v538 w41 ho hb hg hat; rw [← Ny537.out] at ho; have n0_ := mk_ (dH (g := gb497) (o := .cells #[.int .i64 a0_0, .int .i64 a0_1, .slice A0_2 l0_2.length c0_2, .int .i64 a0_3, .int .i64 a0_4, .int .i64 a0_5, .int .i64 a0_6, .int .i64 a0_7, .string a0_8, .int .i64 a0_9, .slice A0_10 l0_10.length c0_10, .slice A0_11 l0_11.length c0_11] 31 (0, 0)) (Short.bK BK497) hg (R_ne HO536.out BK497.out z5_)); have n1_ := mk_ (dR (ok := (fun _ => True)) (ZKR HO533) hg hat); have n2_ := mk_ (hb); have n3_ := mk_ (ho); clear BK497 HO533 HB HO536; revert n0_ n1_ n2_ n3_; intro BK497 HO533 HB HO539; clear ho hb hg hat))
 go_loopg [3, 4] k (fun kq v3 v4 w' => ∃ (x3_1 : List Int) (x4_1 : Int), v4 = .int .i64 x4_1 ∧ Aside0 (aM.l0 kq x3_1 x4_1 a0_0 a0_1 l0_2 a0_3 a0_4 a0_5 a0_6 a0_7 a0_8 a0_9 l0_10 l0_11 = some r) ∧ Aside0 (kq ≤ k) ∧ Aside0 (Kd.R (Kd.int .u8) 5 w' w.heap.size (fun _ => True) v3 x3_1) ∧ Aside0 (w'.heap[gb497]? = some (.cells #[.int .i64 a0_0, .int .i64 a0_1, (.slice A0_2 l0_2.length c0_2), .int .i64 a0_3, .int .i64 a0_4, .int .i64 a0_5, .int .i64 a0_6, .int .i64 a0_7, .string a0_8, .int .i64 a0_9, (.slice A0_10 l0_10.length c0_10), (.slice A0_11 l0_11.length c0_11)] 31 (0, 0))) ∧ Aside0 (Below w.heap.size w w'))
 case atStart => exact ⟨(y537), (0), z4_, H', ⟨Nat.le_refl _⟩, ⟨by (with_reducible repeat (first | apply R_alloc | apply R_drewN | apply R_drew)); exact R_mono HO539.out (fun _ hk => trivial)⟩, ⟨by (with_reducible repeat (first | refine aH ?_ _ | refine aI ?_ | refine aG ?_ _)); exact BK497.out⟩, ⟨Short.hB HB⟩⟩
 case round =>
  clear H'
  try clear c1
  try clear p2
  try clear c4
  try clear c5
  try clear c7
  try clear c8
  try clear c9
  try clear c10
  try clear c12
  try clear c13
  try clear hcz40_0
  try clear hcz40_1
  try clear hcz40_10
  try clear hcz40_11
  try clear hcz40_2
  try clear hcz40_3
  try clear hcz40_4
  try clear hcz40_5
  try clear hcz40_6
  try clear hcz40_7
  try clear hcz40_8
  try clear hcz40_9
  try clear hfz40_0
  obtain ⟨x3_1, x4_1, rfl, HA, HK1, HO_3, BK497, HB⟩ := hrel
  cases gk with
  | zero => exact absurd HA.out (by simp [aM.l0])
  | succ k1 =>
   have H := HA.out
   clear HA
   simp only [aM.l0] at H
   by_cases c42 : x4_1 < (l0_11.length : Int)
   rotate_left
   ·
    rw [if_neg c42] at H
    have c42b0 : decide (x4_1 < (l0_11.length : Int)) = false := decide_eq_false c42
    clear c42
    obtain rfl := Option.some.inj H
    have hcz_0 := aD BK497.out
    have hfz_0 := aX BK497.out
    go_wp2
    go_ret
    exact ⟨_, by first | rfl | (simp [aZ, aY] <;> rfl) | (simp [*, aZ, aY] <;> rfl), by (with_reducible repeat (first | apply R_alloc | apply R_drewN | apply R_drew)); exact HO_3.out, Short.hB HB⟩
   rw [if_pos c42] at H
   have c42b0 : decide (x4_1 < (l0_11.length : Int)) = true := decide_eq_true c42
   clear c42
   by_cases c43 : 0 ≤ x4_1
   rotate_left
   ·
    rw [if_neg c43] at H
    exact absurd H z6_
   rw [if_pos c43] at H
   have c43b0 : decide (0 ≤ x4_1) = true := decide_eq_true c43
   clear c43
   obtain ⟨t541, A44, H⟩ := Option.bind_eq_some_iff.mp H
   replace A44 := mk_ A44
   by_cases c45 : x3_1.length + t541.length < 140737488355328
   rotate_left
   ·
    rw [if_neg c45] at H
    exact absurd H z6_
   rw [if_pos c45] at H
   have LMc45 := mk_ c45
   clear c45
   obtain ⟨y544, hy544⟩ : ∃ y_ : List Int, y_ = (x3_1 ++ t541) := ⟨_, rfl⟩
   replace H : (aM.l0 k1 y544 (wrap64 (x4_1 + 1)) a0_0 a0_1 l0_2 a0_3 a0_4 a0_5 a0_6 a0_7 a0_8 a0_9 l0_10 l0_11) = some r := by first | (rw [hy544]; with_reducible exact H) | (have H2_ := (Option.bind_some _ _).symm.trans H; rw [hy544]; with_reducible exact H2_) | (have H2_ := (Option.bind_some _ _).symm.trans H; with_reducible exact H2_) | with_reducible exact H | (rw [hy544]; exact H) | exact H
   have Ny544 := mk_ hy544
   clear hy544
   have H' := mk_ H
   clear H
   have hcz_0 := aD BK497.out
   have hfz_0 := aX BK497.out
   have p540 : 0 ≤ (x4_1 : Int) := of_decide_eq_true z1_
   have q540 : x4_1 < (l0_11.length : Int) := of_decide_eq_true z1_
   obtain ⟨ad540, e540, hx540_0, hx540_1⟩ := fS HR0_11.out x4_1 p540 q540
   cases e540
   replace hx540_0 := up_ HB hx540_0
   replace hx540_1 := up_ HB hx540_1
   replace p540 := eq_true p540
   replace q540 := eq_true q540
   go_wp2_with (first | ((with_reducible refine aE (f := 45) rfl ?_); refine Short.gL (some 65) Tryz.func45 #[.agg #[.int .i64 ((aW l0_11 x4_1).f0), .int .i64 ((aW l0_11 x4_1).f1)]] (h := ?_); (with_reducible refine (bS.calls k1 ((aW l0_11 x4_1).f0) ((aW l0_11 x4_1).f1) t541 _ A44.out).mono ?_); rintro e w47 ⟨v542, rfl, ho0, hb⟩; refine ⟨_, rfl, ?_⟩; have n0_ := mk_ (R_elder' (ZKR HO_3) (R_base ho0) hb); have n1_ := mk_ (bW (R_new' ho0 (R_lt (ZKR HO_3))) (aA (Short.hB HB))); have n2_ := mk_ (bB_ BK497 hb); have n3_ := mk_ (aC (Short.hB HB) hb); clear HO_3 BK497 HB; revert n0_ n1_ n2_ n3_; intro HO_3 HO543 BK497 HB; (try clear hb ho0); obtain ⟨Ao49, co49, eo49⟩ := cU HO543.out; subst eo49) | ((with_reducible refine cK (b := .append) (xs := #[.tmp 59, .tmp 65]) rfl ?_); at_builtin; refine eF (Kd.int .u8) (w0 := w) w.heap.size rfl (.tmp 59) (.tmp 65) 36 5 (.int .u8 0) 1 rfl Tryz.underlying36 info5 rfl z5_ z3_ u3 x3_1 t541 _ _ _ (fun k_ => nb_ k_ (.slice Ao49 t541.length co49)) (fun _ => False) rfl rfl ?aO ?aR (fun _ _ h => h) (fun _ h => h.elim) ?aF ?aB ?aS ?aL ?_; (case aR => exact cX_ (R_reads' HO543.out).2.2); (case aB => exact (Short.hB HB)); (case aF => exact (fun k_ hk => Kd.fresh' (R_lt (ZKR HO543)) k_ hk)); (case aO => exact (rM_ HO_3 (fun _ hk => hk.2))); (case aS => exact (aA (Short.hB HB))); (case aL => have := LMc45.out; omega); intro v545 w48 ho hb hg hat; rw [← Ny544.out] at ho; have n0_ := mk_ (dH (g := gb497) (o := .cells #[.int .i64 a0_0, .int .i64 a0_1, .slice A0_2 l0_2.length c0_2, .int .i64 a0_3, .int .i64 a0_4, .int .i64 a0_5, .int .i64 a0_6, .int .i64 a0_7, .string a0_8, .int .i64 a0_9, .slice A0_10 l0_10.length c0_10, .slice (some ad540) l0_11.length c0_11] 31 (0, 0)) (Short.bK BK497) hg (R_ne HO_3.out BK497.out z5_)); have n1_ := mk_ (dR (ok := (fun _ => True)) (ZKR HO543) hg hat); have n2_ := mk_ (hb); have n3_ := mk_ (ho); clear BK497 HO543 HB HO_3; revert n0_ n1_ n2_ n3_; intro BK497 HO543 HB HO546; clear ho hb hg hat))
   go_roundg k1
   case measure => have := HK1.out; omega
   case rel => exact ⟨(y544), (wrap64 (x4_1 + 1)), z4_, H', ⟨by have := HK1.out; omega⟩, ⟨by (with_reducible repeat (first | apply R_alloc | apply R_drewN | apply R_drew)); exact R_mono HO546.out (fun _ hk => trivial)⟩, ⟨by (with_reducible repeat (first | refine aH ?_ _ | refine aI ?_ | refine aG ?_ _)); exact BK497.out⟩, ⟨Short.hB HB⟩⟩
end Go.Proofs.YtjnjfogfpmeacaaGreat.PAll
end
section
namespace Go.Proofs.YtjnjfogfpmeacaaGreat.Plain
open Go.RowKit PrintWords PrintLast PrintMore ZipT PrintWords.Kd PrintMore.Kd
set_option linter.unusedVariables false
set_option linter.unusedSimpArgs false
theorem w64 {x : Int} (h0 : -9223372036854775808 ≤ x) (h1 : x ≤ 9223372036854775807) : wrap64 x = x := by
 unfold wrap64; omega
theorem wu64 {x : Int} (h0 : 0 ≤ x) (h1 : x < 18446744073709551616) : IntKind.u64.wrap x = x := by
 simp [IntKind.wrap, IntKind.bits, IntKind.signed]; omega
theorem wi64 (x : Int) : IntKind.i64.wrap x = wrap64 x := by rw [IntKind.wrap_i64]; unfold wrap64; rfl
def Byte (b : Int) : Prop := 0 ≤ b ∧ b ≤ 255
def Bytes (l : List Int) : Prop := ∀ b ∈ l, Byte b
theorem Bytes.nil : Bytes [] := fun _ h => by cases h
theorem Bytes.cons {b : Int} {l : List Int} (h : Byte b) (k : Bytes l) : Bytes (b :: l) := fun x hx => by
 rcases List.mem_cons.1 hx with rfl | hx
 ·
  exact h
 ·
  exact k x hx
theorem Bytes.head {b : Int} {l : List Int} (h : Bytes (b :: l)) : Byte b := h b List.mem_cons_self
theorem Bytes.tail {b : Int} {l : List Int} (h : Bytes (b :: l)) : Bytes l := fun x hx => h x (List.mem_cons_of_mem _ hx)
theorem Bytes.append {a b : List Int} (h : Bytes a) (k : Bytes b) : Bytes (a ++ b) := fun x hx => by
 rcases List.mem_append.1 hx with hx | hx
 ·
  exact h x hx
 ·
  exact k x hx
theorem Bytes.take {a : List Int} (h : Bytes a) (n : Nat) : Bytes (a.take n) := fun x hx => h x (List.mem_of_mem_take hx)
theorem Bytes.drop {a : List Int} (h : Bytes a) (n : Nat) : Bytes (a.drop n) := fun x hx => h x (List.mem_of_mem_drop hx)
theorem Bytes.rd {l : List Int} (h : Bytes l) (i : Int) : Byte (rd l i) := by
 show Byte (l.getD i.toNat 0)
 rcases Nat.lt_or_ge i.toNat l.length with hi | hi
 ·
  rw [List.getD_eq_getElem?_getD, List.getElem?_eq_getElem hi]; exact h _ (List.getElem_mem hi)
 ·
  rw [List.getD_eq_getElem?_getD, List.getElem?_eq_none hi]; exact ⟨by decide, by decide⟩
def big (n : Int) : Nat → List Int
 | 0 => []
 | s + 1 => (n / 256 ^ s) % 256 :: big n s
def val : Int → List Int → Int
 | a, [] => a
 | a, b :: l => val (a * 256 + b) l
theorem cD (n : Int) (s : Nat) : (big n s).length = s := by
 induction s with
 | zero => rfl
 | succ s ih => simp [big, ih]
theorem fI (n : Int) (s : Nat) : Bytes (big n s) := by
 induction s with
 | zero => exact Bytes.nil
 | succ s ih =>
  refine Bytes.cons ⟨?_, ?_⟩ ih
  ·
   exact Int.emod_nonneg _ z5_
  ·
   have := Int.emod_lt_of_pos (n / 256 ^ s) (show (0 : Int) < 256 by decide); omega
theorem emod_mul' (n a b : Int) (ha : 0 < a) : n % (a * b) = (n / a % b) * a + n % a := by
 have h1 := Int.emod_add_mul_ediv n a
 have h2 := Int.emod_add_mul_ediv (n / a) b
 have h3 : n % (a * b) = n - a * b * (n / (a * b)) := by have := Int.emod_add_mul_ediv n (a * b); omega
 have h4 : n / (a * b) = n / a / b := (Int.ediv_ediv_of_nonneg z3_).symm
 rw [h3, h4]
 have h5 : a * (n / a) = a * (n / a % b) + a * (b * (n / a / b)) := by rw [← Int.mul_add]; exact congrArg (a * ·) h2.symm
 rw [Int.mul_assoc, Int.mul_comm (n / a % b)]
 omega
theorem pow_pos (s : Nat) : (0 : Int) < 256 ^ s := Int.pow_pos z5_
theorem val_big (n : Int) (s : Nat) (a : Int) : val a (big n s) = a * 256 ^ s + n % 256 ^ s := by
 induction s generalizing a with
 | zero => simp [big, val]
 | succ s ih =>
  have hp := pow_pos s
  have h1 : n % 256 ^ (s + 1) = (n / 256 ^ s % 256) * 256 ^ s + n % 256 ^ s := by
   have e : (256 : Int) ^ (s + 1) = 256 ^ s * 256 := Int.pow_succ _ _
   rw [e]; exact emod_mul' _ _ _ hp
  rw [big, val, ih, h1, Int.pow_succ]
  rw [Int.add_mul, Int.mul_assoc, Int.mul_comm 256]
  omega
end Go.Proofs.YtjnjfogfpmeacaaGreat.Plain
end
