-- Put together by a program of this session (wip/slice2.py) out of the seat's texts.
import Derived.Test.YtimbbaoodjhdoaaZPTp6
import Derived.Test.YtimbbaoodjhdoaaZPTq0

set_option maxHeartbeats 8000000
set_option maxRecDepth 100000
open Go.Proofs.YtimbbaoodjhdoaaW Go.Proofs.Ytimbbaoodjhdoaa
section
namespace Go.Proofs.Ytimbbaoodjhdoaa.Plan
open Go.RowKit PAll Plain PrintWords PrintLast PrintMore ZipT PrintWords.Kd PrintMore.Kd
set_option linter.unusedVariables false
set_option linter.unusedSimpArgs false
theorem al1 {w : World} {p : Addr} {v : Option Value} (h : w.cell? p = v) (a : Obj) (hv : v.isSome = true := by rfl) : (w.alloc a).cell? p = v := by
 obtain ⟨u, rfl⟩ := Option.isSome_iff_exists.1 hv
 exact aE (aM (Below.refl _ _) _) h
theorem eD {w : World} {G : Nat} {a : Int} {t : TypeId} (hG : w.heap[G]? = some (.cells #[.int .i64 a] t (0, 0))) : (Kd.int .i64).C w (some ⟨G, 0, none⟩) 1 [a] := by
 refine ⟨rfl, by decide, fun _ => ⟨_, rfl, fun j p hj => ?_⟩⟩
 rcases j with _ | j
 ·
  obtain rfl : a = p := Option.some.inj hj
  refine ⟨[.int .i64 a], rfl, rfl, fun i u hu => ?_⟩
  rcases i with _ | i
  ·
   obtain rfl := Option.some.inj hu
   exact aA hG 0
  ·
   simp at hu
 ·
  simp at hj
section
variable {w : World} {g base : Nat} {ok : Nat → Prop} {A0 : Option Addr} {c0 : Nat} {f : List Tb} {v : Value} {ds : List Nd} {x : No} {A5 A6 : Option Addr} {c5 c6 : Nat}
set_option maxHeartbeats 4000000 in
theorem group1_calls (h : Wk w g base ok A0 c0 f v ds) (hl : ds.length ≤ 1000) (hds : ∀ d ∈ ds, NdOk d) (hC5 : Kd.C (Kd.int .i64) w A5 x.f5.length x.f5) (hC5L : x.f5.length ≤ c5) (hL5 : x.f5.length ≤ 1000) (h7 : x.f7 = 1) :
  Calls Try.prog 55 #[.pointer (some ⟨g, 0, none⟩), .agg #[.int .i64 x.f0, .int .i64 x.f1, .int .i64 x.f2, .int .i64 x.f3, .int .i64 x.f4.f0, .int .i64 x.f4.f1, .int .i64 x.f4.f2, .int .i64 x.f4.f3.f0, .int .i64 x.f4.f3.f1, .string x.f4.f3.f2, .slice A5 x.f5.length c5, .slice A6 x.f6.length c6, .int .i64 1, .int .i64 x.f8]] w (Got w base ok v (groupN ds x)) := by
 have HW := mk_ h
 have HC5 := mk_ hC5
 have HC5L := mk_ hC5L
 have HL5 := mk_ hL5
 clear hC5 hC5L hL5
 have hsp : groupN ds x = if ahead ds x.f1 = true then (if places x.f5 (nth ds x.f1).1.length = true then (if x.f5.length ≥ 12 then (zN, 2) else ((pick (nth ds x.f1).1 x.f5 ++ [3], (nth ds x.f1).2.1, max (nth ds x.f1).2.2 (nth ds x.f1).2.1), 0)) else (zN, 1)) else (zN, 1) := by
  unfold groupN
  by_cases ha : ahead ds x.f1 = true
  ·
   rw [if_pos ⟨ha, by omega, by omega⟩, if_pos ha]
   by_cases hp : places x.f5 (nth ds x.f1).1.length = true
   ·
    rw [if_pos ⟨hp, .inl h7⟩, if_pos hp]
    by_cases h12 : x.f5.length ≥ 12
    ·
     rw [if_pos h12, if_pos h12]
    ·
     rw [if_neg h12, if_neg h12, if_neg (fun e => by have := e.1; omega), if_pos h7]
   ·
    rw [if_neg (fun e => hp e.1), if_neg hp]
  ·
   rw [if_neg (fun e => ha e.1), if_neg ha]
 rw [hsp]
 clear hsp
 by_cases ha : ahead ds x.f1 = true
 case neg =>
  rw [if_neg ha]
  have HA := mk_ (Bool.eq_false_iff.2 ha)
  clear h ha
  go_enter Try.func55, Try.ntmps55
  go_wp2_with (first | (go_at_call 58; refine (cE (HW.out.below z0_) z5_ _).mono ?_; rw [HA.out]; rintro e w' ⟨rfl, hw'⟩; subst hw'))
  refine bodyPost_ret (aT rfl _ _ _ 66 #[.slice none 0 0, .int .i64 0, .int .i64 0] (0, 0) _ rfl z3_ Try.underlying66 rfl z1_) rfl ?_
  exact Got.zero z0_
 rw [if_pos ha]
 obtain ⟨k, hk⟩ := Int.eq_ofNat_of_zero_le (of_decide_eq_true ha).1
 rw [hk] at ha ⊢
 obtain ⟨hk0, hk1⟩ : 0 ≤ (k : Int) ∧ (k : Int) < (ds.length : Int) := of_decide_eq_true ha
 obtain ⟨gd, cap, B, c, hv, hcap, hc, h0, h1, h2, h3, h4, hC, hR⟩ := h.elem k z5_
 have hb0 : (0 ≤ (k : Int)) = True := eq_true hk0
 have hb1 : ((k : Int) < (ds.length : Int)) = True := eq_true hk1
 have h1' := al2 h1
 have h1'' := al3 h1
 have h2' := al2 h2
 have h2'' := al3 h2
 have h3' := al2 h3
 have h3'' := al3 h3
 have h4' := al2 h4
 have h4'' := al3 h4
 have HR := mk_ hR
 have HC := mk_ hC
 have HCC := mk_ hc
 have HA := mk_ ha
 have HL12 := mk_ (cY hds ha).len
 have HO := mk_ (cY hds ha)
 clear h hC hR hk0 hk1 ha hc hcap hk hv
 generalize nth ds (k : Int) = d at *
 generalize hz : ((if places x.f5 d.1.length = true then (if x.f5.length ≥ 12 then (zN, 2) else ((pick d.1 x.f5 ++ [3], d.2.1, max d.2.2 d.2.1), 0)) else (zN, 1) : Nd × Int)) = r
 replace hz : (if places x.f5 d.1.length = true then (if x.f5.length ≥ 12 then (zN, 2) else ((pick d.1 x.f5 ++ [3], d.2.1, max d.2.2 d.2.1), 0)) else (zN, 1) : Nd × Int) = r := hz
 have HZ := mk_ hz
 clear hz
 go_enter Try.func55, Try.ntmps55
 go_wp2_with (first | (go_at_call 58; refine (cE (HW.out.below z0_) z5_ _).mono ?_; rw [HA.out]; rintro e w' ⟨rfl, hw'⟩; subst hw'))
 refine cG (n := 10) (S := fun w' => w'.cell? ⟨g, 1, none⟩ = some (.slice (some ⟨gd, 0, none⟩) ds.length cap) ∧ w'.cell? ⟨w.heap.size, 1, none⟩ = some (.int .i64 (k : Int)) ∧ w'.cell? ⟨gd, k * 3, none⟩ = some (.slice B d.1.length c) ∧ w'.cell? ⟨gd, k * 3 + 1, none⟩ = some (.int .i64 d.2.1) ∧ w'.cell? ⟨gd, k * 3 + 2, none⟩ = some (.int .i64 d.2.2) ∧ True) (ds := [9]) (fun W => Below w.heap.size w W ∧ W.heap[w.heap.size]? = some (.cells #[.int .i64 x.f0, .int .i64 (k : Int), .int .i64 x.f2, .int .i64 x.f3, .int .i64 x.f4.f0, .int .i64 x.f4.f1, .int .i64 x.f4.f2, .int .i64 x.f4.f3.f0, .int .i64 x.f4.f3.f1, .string x.f4.f3.f2, .slice A5 x.f5.length c5, .slice A6 x.f6.length c6, .int .i64 1, .int .i64 x.f8] 34 (0, 0)) ∧ W.heap[w.heap.size + 1]? = some (.cells #[.slice none 0 0, .int .i64 0, .int .i64 0] 66 (0, 0))) (Steps.Bs 10 0) z1_ rfl rfl ⟨z0_, z3_, z3_⟩ (fun W hJ => ?_) (fun W0 hJ => ?_)
 ·
  obtain ⟨hb0, bX0, bR0⟩ := hJ
  exact ⟨aE hb0 h1, aA bX0 1, aE hb0 h2, aE hb0 h3, aE hb0 h4, trivial⟩
 obtain ⟨hb0, bX0, bR0⟩ := hJ
 have hHeld0 : W0.cell? ⟨g, 1, none⟩ = some (.slice (some ⟨gd, 0, none⟩) ds.length cap) ∧ W0.cell? ⟨w.heap.size, 1, none⟩ = some (.int .i64 (k : Int)) ∧ W0.cell? ⟨gd, k * 3, none⟩ = some (.slice B d.1.length c) ∧ W0.cell? ⟨gd, k * 3 + 1, none⟩ = some (.int .i64 d.2.1) ∧ W0.cell? ⟨gd, k * 3 + 2, none⟩ = some (.int .i64 d.2.2) ∧ True := ⟨aE hb0 h1, aA bX0 1, aE hb0 h2, aE hb0 h3, aE hb0 h4, trivial⟩
 have hl0 : w.heap.size + 2 ≤ W0.heap.size := aV bR0
 refine sI 0 26 10 1 ?_
 refine sI 1 27 10 3 ?_
 refine sI 2 28 10 7 ?_
 refine sT hHeld0 3 29 10 15 ?_
 refine sI 4 30 10 31 ?_
 refine sT hHeld0 5 31 10 63 ?_
 refine sI 6 32 10 127 ?_
 refine sT hHeld0 7 33 10 255 ?_
 refine one_ (i := 8) (N := (some 6)) (Steps.Bs 10 511) rfl rfl z1_ z10_ (fun K hK => ?_)
 refine cK z12_ (N := 6) rfl (cs := #[.slice none 0 0, .int .i64 0, .int .i64 0]) (t := 66) z11_ ?_
 intro g6 hg6 W1 bA1 hq1
 replace hg6 : w.heap.size + 2 ≤ g6 := (by rw [hg6]; exact hl0)
 have bX1 := aC bX0 hq1
 have bR1 := aC bR0 hq1
 have hb1 := aG hb0 hq1
 have hHeld1 : W1.cell? ⟨g, 1, none⟩ = some (.slice (some ⟨gd, 0, none⟩) ds.length cap) ∧ W1.cell? ⟨w.heap.size, 1, none⟩ = some (.int .i64 (k : Int)) ∧ W1.cell? ⟨gd, k * 3, none⟩ = some (.slice B d.1.length c) ∧ W1.cell? ⟨gd, k * 3 + 1, none⟩ = some (.int .i64 d.2.1) ∧ W1.cell? ⟨gd, k * 3 + 2, none⟩ = some (.int .i64 d.2.2) ∧ True := ⟨aE hb1 h1, aA bX1 1, aE hb1 h2, aE hb1 h3, aE hb1 h4, trivial⟩
 have hl1 : w.heap.size + 2 ≤ W1.heap.size := aV bR1
 refine hK.out _ _ hHeld1 (fun _ => ?_)
 clear hK K
 refine nrm 6 ?_
 have hc9_0 := aA bA1 0
 have hf9_0 := aD bA1 0
 have hc9_1 := aA bA1 1
 have hf9_1 := aD bA1 1
 have hc9_2 := aA bA1 2
 have hf9_2 := aD bA1 2
 refine last_ (i := 9) (N := none) (Steps.Bs 10 1023) rfl rfl z1_ z10_ (fun K hK => ?_)
 refine skip_ (w1 := ?_) z12_ rfl ?_ ?_
 rotate_left
 ·
  go_simp
  rfl
 refine hK.out _ _ ?_
 clear hK K
 obtain ⟨V, hV, hbV, bAV, hkeep⟩ := storeS hb1 z5_ bA1 (.slice B d.1.length c) (.int .i64 d.2.1) (.int .i64 d.2.2)
 rw [← hV]
 have bXV := (hkeep w.heap.size z5_).trans bX1
 have bRV := (hkeep (w.heap.size + 1) z5_).trans bR1
 clear hV hkeep hc9_0 hc9_1 hc9_2 hf9_0 hf9_1 hf9_2 bX1 bR1 bA1 hb1 hHeld1 bX0 bR0 hb0 hHeld0 hl1 hl0
 refine done_ z1_ ?_
 have hA0V := aA bAV
 have hR0V := aA bRV
 have hX10V := aA bXV
 have fA0V := aD bAV
 have fR0V := aD bRV
 have fX10V := aD bXV
 by_cases hp : places x.f5 d.1.length = true
 case neg =>
  obtain rfl : (zN, (1 : Int)) = r := by rw [← HZ.out, if_neg (fun e => hp e)]
  have HP := mk_ (Bool.eq_false_iff.2 hp)
  clear hp
  go_wp2_with (first | (go_at_call 60; (with_reducible show Calls _ _ #[.slice A5 _ _, _] V _); refine (bQ A5 c5 x.f5 d.1.length V (aN HC5.out hbV) HC5L.out (by have := HL5.out; omega)).mono ?_; rw [HP.out]; rintro e V1 ⟨rfl, hq1⟩; have hbV1 := aG hbV hq1; have bXV1 := aC bXV hq1; have bRV1 := aC bRV hq1; have bAV1 := aC bAV hq1; have hA0V1 := aA bAV1; have hR0V1 := aA bRV1; have hX10V1 := aA bXV1; have fA0V1 := aD bAV1; have fR0V1 := aD bRV1; have fX10V1 := aD bXV1))
  all_goals refine bodyPost_ret (aT rfl _ _ _ 66 #[.slice none 0 0, .int .i64 0, .int .i64 0] (0, 0) _ rfl (blkS bRV1 _ _ _) Try.underlying66 rfl z1_) rfl ?_
  all_goals exact Got.zero (aI (aI (aI hbV1 z5_) z5_) z5_)
 have HP := mk_ hp
 have HZ2 := mk_ (HZ.out.symm.trans (if_pos hp))
 clear HZ hp
 by_cases h12 : x.f5.length ≥ 12
 case pos =>
  obtain rfl : (zN, (2 : Int)) = r := by rw [HZ2.out, if_pos h12]
  have hd1 : decide ((12 : Int) ≤ (x.f5.length : Int)) = true := decide_eq_true z5_
  have hd2 : decide (12 ≤ x.f5.length) = true := decide_eq_true h12
  clear h12
  go_wp2_with (first | (go_at_call 60; (with_reducible show Calls _ _ #[.slice A5 _ _, _] V _); refine (bQ A5 c5 x.f5 d.1.length V (aN HC5.out hbV) HC5L.out (by have := HL5.out; omega)).mono ?_; rw [HP.out]; rintro e V1 ⟨rfl, hq1⟩; have hbV1 := aG hbV hq1; have bXV1 := aC bXV hq1; have bRV1 := aC bRV hq1; have bAV1 := aC bAV hq1; have hA0V1 := aA bAV1; have hR0V1 := aA bRV1; have hX10V1 := aA bXV1; have fA0V1 := aD bAV1; have fR0V1 := aD bRV1; have fX10V1 := aD bXV1))
  all_goals refine bodyPost_ret (aT rfl _ _ _ 66 #[.slice none 0 0, .int .i64 0, .int .i64 0] (0, 0) _ rfl (blkS bRV1 _ _ _) Try.underlying66 rfl z1_) rfl ?_
  all_goals exact Got.zero (aI (aI (aI hbV1 z5_) z5_) z5_)
 have hd1 : decide ((12 : Int) ≤ (x.f5.length : Int)) = false := decide_eq_false z5_
 have hd2 : decide (12 ≤ x.f5.length) = false := decide_eq_false h12
 have HZ3 := mk_ (HZ2.out.trans (if_neg h12))
 clear h12 HZ2
 obtain rfl : ((pick d.1 x.f5 ++ [3], d.2.1, max d.2.2 d.2.1), (0 : Int)) = r := HZ3.out.symm
 have hmx : max d.2.2 (max d.2.2 d.2.1) = max d.2.2 d.2.1 := by omega
 have hv1 := HO.out.v2
 have hw1 := HO.out.w2
 have hd3 : decide ((1152921504606846976 : Int) < max d.2.2 d.2.1) = false := decide_eq_false z5_
 have hd4 : ((1152921504606846976 : Int) < max d.2.2 d.2.1) = False := eq_false z5_
 clear hv1 hw1
 go_wp2_with (first | (go_at_call 60; (with_reducible show Calls _ _ #[.slice A5 _ _, _] V _); refine (bQ A5 c5 x.f5 d.1.length V (aN HC5.out hbV) HC5L.out (by have := HL5.out; omega)).mono ?_; rw [HP.out]; rintro e V1 ⟨rfl, hq1⟩; have hbV1 := aG hbV hq1; have bXV1 := aC bXV hq1; have bRV1 := aC bRV hq1; have bAV1 := aC bAV hq1; have hA0V1 := aA bAV1; have hR0V1 := aA bRV1; have hX10V1 := aA bXV1; have fA0V1 := aD bAV1; have fR0V1 := aD bRV1; have fX10V1 := aD bXV1))
 refine cG (n := 5) (S := fun w' => w'.cell? ⟨g6, 2, none⟩ = some (.int .i64 d.2.2) ∧ True) (ds := []) (fun W => Below w.heap.size w W ∧ W.heap[w.heap.size]? = some (.cells #[.int .i64 x.f0, .int .i64 (k : Int), .int .i64 x.f2, .int .i64 x.f3, .int .i64 x.f4.f0, .int .i64 x.f4.f1, .int .i64 x.f4.f2, .int .i64 x.f4.f3.f0, .int .i64 x.f4.f3.f1, .string x.f4.f3.f2, .slice A5 x.f5.length c5, .slice A6 x.f6.length c6, .int .i64 1, .int .i64 x.f8] 34 (0, 0)) ∧ W.heap[w.heap.size + 1]? = some (.cells #[.slice none 0 0, .int .i64 0, .int .i64 0] 66 (0, 0)) ∧ W.heap[g6]? = some (.cells #[.slice B d.1.length c, .int .i64 d.2.1, .int .i64 d.2.2] 66 (0, 0))) #[false, false, false, false, false] z1_ rfl rfl ⟨bP hbV1, aU bXV1, aU bRV1, aU bAV1⟩ (fun W hJ => ?_) (fun W0 hJ => ?_)
 ·
  obtain ⟨hb0, bX0, bR0, bA0⟩ := hJ
  exact ⟨aA bA0 2, trivial⟩
 obtain ⟨hb0, bX0, bR0, bA0⟩ := hJ
 have hHeld0 : W0.cell? ⟨g6, 2, none⟩ = some (.int .i64 d.2.2) ∧ True := ⟨aA bA0 2, trivial⟩
 have hl0 : w.heap.size + 2 ≤ W0.heap.size := aV bR0
 refine sI 0 78 5 1 ?_
 refine sT hHeld0 1 79 5 3 ?_
 refine sI 2 7 5 7 ?_
 refine sI 3 8 5 15 ?_
 refine sI 4 9 5 31 ?_
 refine done_ z1_ ?_
 have hA00 := aA bA0
 have hR00 := aA bR0
 have hX100 := aA bX0
 have fA00 := aD bA0
 have fR00 := aD bR0
 have fX100 := aD bX0
 go_wp2
 refine cG (n := 17) (S := fun w' => w'.cell? ⟨g6, 0, none⟩ = some (.slice B d.1.length c) ∧ w'.cell? ⟨g6, 1, none⟩ = some (.int .i64 d.2.1) ∧ w'.cell? ⟨g6, 2, none⟩ = some (.int .i64 d.2.2) ∧ w'.cell? ⟨w.heap.size, 10, none⟩ = some (.slice A5 x.f5.length c5) ∧ True) (ds := [15]) (fun W => Below w.heap.size w W ∧ W.heap[w.heap.size]? = some (.cells #[.int .i64 x.f0, .int .i64 (k : Int), .int .i64 x.f2, .int .i64 x.f3, .int .i64 x.f4.f0, .int .i64 x.f4.f1, .int .i64 x.f4.f2, .int .i64 x.f4.f3.f0, .int .i64 x.f4.f3.f1, .string x.f4.f3.f2, .slice A5 x.f5.length c5, .slice A6 x.f6.length c6, .int .i64 1, .int .i64 x.f8] 34 (0, 0)) ∧ W.heap[w.heap.size + 1]? = some (.cells #[.slice none 0 0, .int .i64 0, .int .i64 0] 66 (0, 0)) ∧ W.heap[g6]? = some (.cells #[.slice B d.1.length c, .int .i64 d.2.1, .int .i64 d.2.2] 66 (0, 0))) (Steps.Bs 17 0) z1_ rfl rfl ⟨bP (hb0), aU (bX0), aU (bR0), aU (bA0)⟩ (fun W hJ => ?_) (fun W0 hJ => ?_)
 ·
  obtain ⟨hb0, bX0, bR0, bA0⟩ := hJ
  exact ⟨aA bA0 0, aA bA0 1, aA bA0 2, aA bX0 10, trivial⟩
 obtain ⟨hb0, bX0, bR0, bA0⟩ := hJ
 have hHeld0 : W0.cell? ⟨g6, 0, none⟩ = some (.slice B d.1.length c) ∧ W0.cell? ⟨g6, 1, none⟩ = some (.int .i64 d.2.1) ∧ W0.cell? ⟨g6, 2, none⟩ = some (.int .i64 d.2.2) ∧ W0.cell? ⟨w.heap.size, 10, none⟩ = some (.slice A5 x.f5.length c5) ∧ True := ⟨aA bA0 0, aA bA0 1, aA bA0 2, aA bX0 10, trivial⟩
 have hl0 : w.heap.size + 2 ≤ W0.heap.size := aV bR0
 refine sI 0 112 17 1 ?_
 refine sT hHeld0 1 113 17 3 ?_
 refine sI 2 114 17 7 ?_
 refine sT hHeld0 3 115 17 15 ?_
 refine sI 5 117 17 47 ?_
 refine sI 8 120 17 303 ?_
 refine sT hHeld0 9 121 17 815 ?_
 refine sI 10 122 17 1839 ?_
 refine sT hHeld0 11 123 17 3887 ?_
 refine sI 12 124 17 7983 ?_
 refine sI 13 125 17 16175 ?_
 refine join_ (σ := Value × Nat) 4 (Steps.Bs 17 16255) (fun s_ => [(116, s_.1), (118, .slice (some ⟨s_.2, 0, none⟩) 1 1)]) (fun s_ w' => Below w.heap.size w w' ∧ w'.heap[w.heap.size]? = some (.cells #[.int .i64 x.f0, .int .i64 (k : Int), .int .i64 x.f2, .int .i64 x.f3, .int .i64 x.f4.f0, .int .i64 x.f4.f1, .int .i64 x.f4.f2, .int .i64 x.f4.f3.f0, .int .i64 x.f4.f3.f1, .string x.f4.f3.f2, .slice A5 x.f5.length c5, .slice A6 x.f6.length c6, .int .i64 1, .int .i64 x.f8] 34 (0, 0)) ∧ w'.heap[w.heap.size + 1]? = some (.cells #[.slice none 0 0, .int .i64 0, .int .i64 0] 66 (0, 0)) ∧ w'.heap[g6]? = some (.cells #[.slice B d.1.length c, .int .i64 d.2.1, .int .i64 d.2.2] 66 (0, 0)) ∧ (Kd.int .i64).R 3 w' w.heap.size (fun k_ => w.heap.size + 2 ≤ k_ ∧ k_ ≠ g6) s_.1 (pick d.1 x.f5) ∧ w'.heap[s_.2]? = some (Obj.cells #[.int .i64 3] 3 (0, 0))) ?_ ?_
 rotate_left
 ·
  intro hCont
  refine two_ (i := 4) (j := 6) (Ni := some 116) (Nj := some 118) (Steps.Bs 17 16191) (Steps.Bs 17 16239) rfl rfl rfl rfl z1_ z10_ z10_ (fun K hK => ?_) (fun K hK => ?_)
  ·
   refine goes_ Try.func61 z1_ rfl #[.slice B d.1.length c, .slice A5 x.f5.length c5] z12_ rfl rfl z8_ ?_
   refine (PAll.plan_pick.calls (x.f5.length + 1) B c d.1 A5 c5 x.f5 (pick d.1 x.f5) _ (aN HC.out hb0) HCC.out (aN HC5.out hb0) HC5L.out (eY _ d.1 x.f5 (by have := HL12.out; omega) (by have := HL5.out; omega) HP.out z5_)).mono ?_
   rintro e W1 ⟨u, rfl, hru, hq⟩
   refine ⟨_, rfl, ?_⟩
   have hru' : (Kd.int .i64).R 3 W1 w.heap.size (fun k_ => w.heap.size + 2 ≤ k_ ∧ k_ ≠ g6) u (pick d.1 x.f5) := bT (R_mono (cF hru) (fun k hk => ⟨by have := hk.2.1; omega, by have := hk.2.1; have := aV bA0; omega⟩)) z5_
   clear hru
   have hb1 := aG hb0 hq
   have bX1 := aC bX0 hq
   have bR1 := aC bR0 hq
   have bA1 := aC bA0 hq
   have hHeld1 : W1.cell? ⟨g6, 0, none⟩ = some (.slice B d.1.length c) ∧ W1.cell? ⟨g6, 1, none⟩ = some (.int .i64 d.2.1) ∧ W1.cell? ⟨g6, 2, none⟩ = some (.int .i64 d.2.2) ∧ W1.cell? ⟨w.heap.size, 10, none⟩ = some (.slice A5 x.f5.length c5) ∧ True := ⟨aA bA1 0, aA bA1 1, aA bA1 2, aA bX1 10, trivial⟩
   have hl1 : w.heap.size + 2 ≤ W1.heap.size := aV bR1
   refine hK.out _ _ hHeld1 (fun _ => ?_)
   clear hK K
   refine nrm 116 ?_
   clear hq
   refine one_ (i := 6) (N := some 118) (Steps.Bs 17 16255) rfl rfl z1_ z10_ (fun K hK => ?_)
   refine fC (w1 := ?_) (v := ?_) z12_ rfl ?_ ?_
   rotate_left 2
   ·
    go_simp
    constructor
    ·
     rfl
    ·
     rfl
   obtain ⟨W2, hW1⟩ : ∃ V_ : World, V_ = W1.alloc (.cells #[.int .i64 3] 3) := ⟨_, rfl⟩
   rw [← hW1]
   have hq : Below W1.heap.size W1 W2 := by rw [hW1]; exact aM (Below.refl _ _) _
   have hG : W2.heap[W1.heap.size]? = some (Obj.cells #[.int .i64 3] 3 (0, 0)) := by rw [hW1]; exact cJ _ _
   clear hW1
   have hb2 := aG hb1 hq
   have bX2 := aC bX1 hq
   have bR2 := aC bR1 hq
   have bA2 := aC bA1 hq
   have hHeld2 : W2.cell? ⟨g6, 0, none⟩ = some (.slice B d.1.length c) ∧ W2.cell? ⟨g6, 1, none⟩ = some (.int .i64 d.2.1) ∧ W2.cell? ⟨g6, 2, none⟩ = some (.int .i64 d.2.2) ∧ W2.cell? ⟨w.heap.size, 10, none⟩ = some (.slice A5 x.f5.length c5) ∧ True := ⟨aA bA2 0, aA bA2 1, aA bA2 2, aA bX2 10, trivial⟩
   have hl2 : w.heap.size + 2 ≤ W2.heap.size := aV bR2
   refine hK.out _ _ hHeld2 (fun _ => ?_)
   clear hK K
   exact hCont (u, W1.heap.size) W2 ⟨hb2, bX2, bR2, bA2, bG hru' hq, hG⟩
  ·
   refine fC (w1 := ?_) (v := ?_) z12_ rfl ?_ ?_
   rotate_left 2
   ·
    go_simp
    constructor
    ·
     rfl
    ·
     rfl
   obtain ⟨W1, hW1⟩ : ∃ V_ : World, V_ = W0.alloc (.cells #[.int .i64 3] 3) := ⟨_, rfl⟩
   rw [← hW1]
   have hq : Below W0.heap.size W0 W1 := by rw [hW1]; exact aM (Below.refl _ _) _
   have hG : W1.heap[W0.heap.size]? = some (Obj.cells #[.int .i64 3] 3 (0, 0)) := by rw [hW1]; exact cJ _ _
   clear hW1
   have hb1 := aG hb0 hq
   have bX1 := aC bX0 hq
   have bR1 := aC bR0 hq
   have bA1 := aC bA0 hq
   have hHeld1 : W1.cell? ⟨g6, 0, none⟩ = some (.slice B d.1.length c) ∧ W1.cell? ⟨g6, 1, none⟩ = some (.int .i64 d.2.1) ∧ W1.cell? ⟨g6, 2, none⟩ = some (.int .i64 d.2.2) ∧ W1.cell? ⟨w.heap.size, 10, none⟩ = some (.slice A5 x.f5.length c5) ∧ True := ⟨aA bA1 0, aA bA1 1, aA bA1 2, aA bX1 10, trivial⟩
   have hl1 : w.heap.size + 2 ≤ W1.heap.size := aV bR1
   refine hK.out _ _ hHeld1 (fun _ => ?_)
   clear hK K
   refine nrm 118 ?_
   clear hq
   refine one_ (i := 4) (N := some 116) (Steps.Bs 17 16255) rfl rfl z1_ z10_ (fun K hK => ?_)
   refine goes_ Try.func61 z1_ rfl #[.slice B d.1.length c, .slice A5 x.f5.length c5] z12_ rfl rfl z8_ ?_
   refine (PAll.plan_pick.calls (x.f5.length + 1) B c d.1 A5 c5 x.f5 (pick d.1 x.f5) _ (aN HC.out hb1) HCC.out (aN HC5.out hb1) HC5L.out (eY _ d.1 x.f5 (by have := HL12.out; omega) (by have := HL5.out; omega) HP.out z5_)).mono ?_
   rintro e W2 ⟨u, rfl, hru, hq⟩
   refine ⟨_, rfl, ?_⟩
   have hru' : (Kd.int .i64).R 3 W2 w.heap.size (fun k_ => w.heap.size + 2 ≤ k_ ∧ k_ ≠ g6) u (pick d.1 x.f5) := bT (R_mono (cF hru) (fun k hk => ⟨by have := hk.2.1; omega, by have := hk.2.1; have := aV bA1; omega⟩)) z5_
   clear hru
   have hG2 := aC hG hq
   have hb2 := aG hb1 hq
   have bX2 := aC bX1 hq
   have bR2 := aC bR1 hq
   have bA2 := aC bA1 hq
   have hHeld2 : W2.cell? ⟨g6, 0, none⟩ = some (.slice B d.1.length c) ∧ W2.cell? ⟨g6, 1, none⟩ = some (.int .i64 d.2.1) ∧ W2.cell? ⟨g6, 2, none⟩ = some (.int .i64 d.2.2) ∧ W2.cell? ⟨w.heap.size, 10, none⟩ = some (.slice A5 x.f5.length c5) ∧ True := ⟨aA bA2 0, aA bA2 1, aA bA2 2, aA bX2 10, trivial⟩
   have hl2 : w.heap.size + 2 ≤ W2.heap.size := aV bR2
   refine hK.out _ _ hHeld2 (fun _ => ?_)
   clear hK K
   exact hCont (u, W0.heap.size) W2 ⟨hb2, bX2, bR2, bA2, hru', hG2⟩
 rintro ⟨u, G⟩ W1 ⟨hb1, bX1, bR1, bA1, hru, hG⟩
 replace bA1 : W1.heap[g6]? = some (.cells #[.slice B d.1.length c, .int .i64 d.2.1, .int .i64 d.2.2] 66 (0, 0)) := bA1
 replace hru : (Kd.int .i64).R 3 W1 w.heap.size (fun k_ => w.heap.size + 2 ≤ k_ ∧ k_ ≠ g6) u (pick d.1 x.f5) := hru
 replace hG : W1.heap[G]? = some (Obj.cells #[.int .i64 3] 3 (0, 0)) := hG
 refine norm_ (a' := ?_) ?_ ?_
 rotate_left
 ·
  simp only [putAll, Act.put, List.setIfInBounds_toArray, List.set_cons_zero, List.set_cons_succ]
  rfl
 have hHeld1 : W1.cell? ⟨g6, 0, none⟩ = some (.slice B d.1.length c) ∧ W1.cell? ⟨g6, 1, none⟩ = some (.int .i64 d.2.1) ∧ W1.cell? ⟨g6, 2, none⟩ = some (.int .i64 d.2.2) ∧ W1.cell? ⟨w.heap.size, 10, none⟩ = some (.slice A5 x.f5.length c5) ∧ True := ⟨aA bA1 0, aA bA1 1, aA bA1 2, aA bX1 10, trivial⟩
 have hl1 : w.heap.size + 2 ≤ W1.heap.size := aV bR1
 obtain ⟨A7, c7, rfl⟩ := bE hru
 refine one_ (i := 7) (N := (some 119)) (Steps.Bs 17 16383) rfl rfl z1_ z10_ (fun K hK => ?_)
 refine cU (Kd.int .i64) (w0 := w) w.heap.size z12_ (.tmp 116) (.tmp 118) 32 3 (.int .i64 0) 8 rfl Try.underlying32 PAll.info3 rfl z10_ z5_ (.slice A7 (pick d.1 x.f5).length c7) (pick d.1 x.f5) [3] (some ⟨G, 0, none⟩) 1 1 (fun k_ => w.heap.size + 2 ≤ k_ ∧ k_ ≠ g6) (fun _ => False) rfl rfl hru (eD hG) (fun _ _ h => h) (fun _ h => h.elim) (fun k hk => ⟨by omega, by have := aV bA1; omega⟩) hb1 hb1.size (by rw [dF]; have := HL5.out; omega) ?_
 intro v2 W2 hr2 hb2 hg2 _
 obtain ⟨A9, c9, rfl⟩ := bE hr2
 rw [List.length_append, List.length_singleton] at hr2
 have bX2 : W2.heap[w.heap.size]? = _ := (hg2.block _ (aV bX1) (fun e => by have := hru.1 _ e.symm; have := hg6; omega)).trans bX1
 have bR2 : W2.heap[w.heap.size + 1]? = _ := (hg2.block _ (aV bR1) (fun e => by have := hru.1 _ e.symm; have := hg6; omega)).trans bR1
 have bA2 : W2.heap[g6]? = _ := (hg2.block _ (aV bA1) (fun e => by have := hru.1 _ e.symm; have := hg6; omega)).trans bA1
 have hHeld2 : W2.cell? ⟨g6, 0, none⟩ = some (.slice B d.1.length c) ∧ W2.cell? ⟨g6, 1, none⟩ = some (.int .i64 d.2.1) ∧ W2.cell? ⟨g6, 2, none⟩ = some (.int .i64 d.2.2) ∧ W2.cell? ⟨w.heap.size, 10, none⟩ = some (.slice A5 x.f5.length c5) ∧ True := ⟨aA bA2 0, aA bA2 1, aA bA2 2, aA bX2 10, trivial⟩
 have hl2 : w.heap.size + 2 ≤ W2.heap.size := aV bR2
 refine hK.out _ _ hHeld2 (fun _ => ?_)
 clear hK K
 refine nrm 119 ?_
 refine sI 14 126 17 32767 ?_
 have hc15_0 := aA bR2
 have hf15_0 := aD bR2
 refine last_ (i := 15) (N := none) (Steps.Bs 17 65535) rfl rfl z1_ z10_ (fun K hK => ?_)
 refine skip_ (w1 := ?_) z12_ rfl ?_ ?_
 rotate_left
 ·
  go_simp
  rfl
 refine hK.out _ _ ?_
 clear hK K
 refine sI 16 5 17 131071 ?_
 refine done_ z1_ ?_
 go_wp2
 refine bodyPost_ret (aT rfl _ _ _ 66 #[.slice A9 ((pick d.1 x.f5).length + 1) c9, .int .i64 d.2.1, .int .i64 (max d.2.2 d.2.1)] (0, 0) _ rfl (blkS bR2 _ _ _) Try.underlying66 rfl z1_) rfl ?_
 exact Got.stored (d := (pick d.1 x.f5 ++ [3], d.2.1, max d.2.2 d.2.1)) HW.out.le rfl (R_mono hr2 (fun k hk => hk.1)) hb2 _ _ _
set_option maxHeartbeats 4000000 in
theorem group3_calls (h : Wk w g base ok A0 c0 f v ds) (hl : ds.length ≤ 1000) (hds : ∀ d ∈ ds, NdOk d) (hC5 : Kd.C (Kd.int .i64) w A5 x.f5.length x.f5) (hC5L : x.f5.length ≤ c5) (hL5 : x.f5.length ≤ 1000) (m : Int) (h7 : x.f7 = m) (hm : 3 ≤ m ∧ m ≤ 4) :
  Calls Try.prog 55 #[.pointer (some ⟨g, 0, none⟩), .agg #[.int .i64 x.f0, .int .i64 x.f1, .int .i64 x.f2, .int .i64 x.f3, .int .i64 x.f4.f0, .int .i64 x.f4.f1, .int .i64 x.f4.f2, .int .i64 x.f4.f3.f0, .int .i64 x.f4.f3.f1, .string x.f4.f3.f2, .slice A5 x.f5.length c5, .slice A6 x.f6.length c6, .int .i64 m, .int .i64 x.f8]] w (Got w base ok v (groupN ds x)) := by
 have HW := mk_ h
 have HC5 := mk_ hC5
 have HC5L := mk_ hC5L
 have HL5 := mk_ hL5
 clear hC5 hC5L hL5
 have hsp : groupN ds x = if ahead ds x.f1 = true then (if places x.f5 (nth ds x.f1).1.length = true ∧ inn x.f8 (nth ds x.f1).1.length then (if x.f5.length ≥ 12 then (zN, 2) else ((pick (nth ds x.f1).1 x.f5 ++ [rd (nth ds x.f1).1 x.f8], (nth ds x.f1).2), 0)) else (zN, 1)) else (zN, 1) := by
  unfold groupN
  by_cases ha : ahead ds x.f1 = true
  ·
   rw [if_pos ⟨ha, by omega, by omega⟩, if_pos ha]
   by_cases hp : places x.f5 (nth ds x.f1).1.length = true ∧ inn x.f8 (nth ds x.f1).1.length
   ·
    rw [if_pos ⟨hp.1, .inr hp.2⟩, if_pos hp]
    by_cases h12 : x.f5.length ≥ 12
    ·
     rw [if_pos h12, if_pos h12]
    ·
     rw [if_neg h12, if_neg h12, if_neg (fun e => by have := e.1; omega), if_neg z5_, if_neg z5_]
   ·
    rw [if_neg (fun e => hp ⟨e.1, e.2.elim (fun e => by omega) id⟩), if_neg hp]
  ·
   rw [if_neg (fun e => ha e.1), if_neg ha]
 rw [hsp]
 clear hsp
 have hm1 : decide (m < 1) = false := decide_eq_false z5_
 have hm2 : decide (4 < m) = false := decide_eq_false z5_
 have hm3 : (m < 1) = False := eq_false z5_
 have hm4 : (4 < m) = False := eq_false z5_
 have hm5 : (m = 1) = False := eq_false z5_
 have hm6 : (m = 2) = False := eq_false z5_
 have hm7 : (m != 1) = true := bne_iff_ne.2 z5_
 have hm8 : (m == 1) = false := beq_eq_false_iff_ne.2 z5_
 have hm9 : (m == 2) = false := beq_eq_false_iff_ne.2 z5_
 have hm10 : decide (m = 1) = false := decide_eq_false z5_
 have hm11 : decide (m = 2) = false := decide_eq_false z5_
 clear hm
 by_cases ha : ahead ds x.f1 = true
 case neg =>
  rw [if_neg ha]
  have HA := mk_ (Bool.eq_false_iff.2 ha)
  clear h ha
  go_enter Try.func55, Try.ntmps55
  go_wp2_with (first | (go_at_call 58; refine (cE (HW.out.below z0_) z5_ _).mono ?_; rw [HA.out]; rintro e w' ⟨rfl, hw'⟩; subst hw'))
  refine bodyPost_ret (aT rfl _ _ _ 66 #[.slice none 0 0, .int .i64 0, .int .i64 0] (0, 0) _ rfl z3_ Try.underlying66 rfl z1_) rfl ?_
  exact Got.zero z0_
 rw [if_pos ha]
 obtain ⟨k, hk⟩ := Int.eq_ofNat_of_zero_le (of_decide_eq_true ha).1
 rw [hk] at ha ⊢
 obtain ⟨hk0, hk1⟩ : 0 ≤ (k : Int) ∧ (k : Int) < (ds.length : Int) := of_decide_eq_true ha
 obtain ⟨gd, cap, B, c, hv, hcap, hc, h0, h1, h2, h3, h4, hC, hR⟩ := h.elem k z5_
 have hb0 : (0 ≤ (k : Int)) = True := eq_true hk0
 have hb1 : ((k : Int) < (ds.length : Int)) = True := eq_true hk1
 have h1' := al2 h1
 have h1'' := al3 h1
 have h2' := al2 h2
 have h2'' := al3 h2
 have h3' := al2 h3
 have h3'' := al3 h3
 have h4' := al2 h4
 have h4'' := al3 h4
 have HR := mk_ hR
 have HC := mk_ hC
 have HCC := mk_ hc
 have HA := mk_ ha
 have HL12 := mk_ (cY hds ha).len
 have HO := mk_ (cY hds ha)
 clear h hC hR hk0 hk1 ha hc hcap hk hv
 generalize nth ds (k : Int) = d at *
 generalize hz : ((if places x.f5 d.1.length = true ∧ inn x.f8 d.1.length then (if x.f5.length ≥ 12 then (zN, 2) else ((pick d.1 x.f5 ++ [rd d.1 x.f8], d.2), 0)) else (zN, 1) : Nd × Int)) = r
 replace hz : (if places x.f5 d.1.length = true ∧ inn x.f8 d.1.length then (if x.f5.length ≥ 12 then (zN, 2) else ((pick d.1 x.f5 ++ [rd d.1 x.f8], d.2), 0)) else (zN, 1) : Nd × Int) = r := hz
 have HZ := mk_ hz
 clear hz
 go_enter Try.func55, Try.ntmps55
 go_wp2_with (first | (go_at_call 58; refine (cE (HW.out.below z0_) z5_ _).mono ?_; rw [HA.out]; rintro e w' ⟨rfl, hw'⟩; subst hw'))
 refine cG (n := 10) (S := fun w' => w'.cell? ⟨g, 1, none⟩ = some (.slice (some ⟨gd, 0, none⟩) ds.length cap) ∧ w'.cell? ⟨w.heap.size, 1, none⟩ = some (.int .i64 (k : Int)) ∧ w'.cell? ⟨gd, k * 3, none⟩ = some (.slice B d.1.length c) ∧ w'.cell? ⟨gd, k * 3 + 1, none⟩ = some (.int .i64 d.2.1) ∧ w'.cell? ⟨gd, k * 3 + 2, none⟩ = some (.int .i64 d.2.2) ∧ True) (ds := [9]) (fun W => Below w.heap.size w W ∧ W.heap[w.heap.size]? = some (.cells #[.int .i64 x.f0, .int .i64 (k : Int), .int .i64 x.f2, .int .i64 x.f3, .int .i64 x.f4.f0, .int .i64 x.f4.f1, .int .i64 x.f4.f2, .int .i64 x.f4.f3.f0, .int .i64 x.f4.f3.f1, .string x.f4.f3.f2, .slice A5 x.f5.length c5, .slice A6 x.f6.length c6, .int .i64 m, .int .i64 x.f8] 34 (0, 0)) ∧ W.heap[w.heap.size + 1]? = some (.cells #[.slice none 0 0, .int .i64 0, .int .i64 0] 66 (0, 0))) (Steps.Bs 10 0) z1_ rfl rfl ⟨z0_, z3_, z3_⟩ (fun W hJ => ?_) (fun W0 hJ => ?_)
 ·
  obtain ⟨hb0, bX0, bR0⟩ := hJ
  exact ⟨aE hb0 h1, aA bX0 1, aE hb0 h2, aE hb0 h3, aE hb0 h4, trivial⟩
 obtain ⟨hb0, bX0, bR0⟩ := hJ
 have hHeld0 : W0.cell? ⟨g, 1, none⟩ = some (.slice (some ⟨gd, 0, none⟩) ds.length cap) ∧ W0.cell? ⟨w.heap.size, 1, none⟩ = some (.int .i64 (k : Int)) ∧ W0.cell? ⟨gd, k * 3, none⟩ = some (.slice B d.1.length c) ∧ W0.cell? ⟨gd, k * 3 + 1, none⟩ = some (.int .i64 d.2.1) ∧ W0.cell? ⟨gd, k * 3 + 2, none⟩ = some (.int .i64 d.2.2) ∧ True := ⟨aE hb0 h1, aA bX0 1, aE hb0 h2, aE hb0 h3, aE hb0 h4, trivial⟩
 have hl0 : w.heap.size + 2 ≤ W0.heap.size := aV bR0
 refine sI 0 26 10 1 ?_
 refine sI 1 27 10 3 ?_
 refine sI 2 28 10 7 ?_
 refine sT hHeld0 3 29 10 15 ?_
 refine sI 4 30 10 31 ?_
 refine sT hHeld0 5 31 10 63 ?_
 refine sI 6 32 10 127 ?_
 refine sT hHeld0 7 33 10 255 ?_
 refine one_ (i := 8) (N := (some 6)) (Steps.Bs 10 511) rfl rfl z1_ z10_ (fun K hK => ?_)
 refine cK z12_ (N := 6) rfl (cs := #[.slice none 0 0, .int .i64 0, .int .i64 0]) (t := 66) z11_ ?_
 intro g6 hg6 W1 bA1 hq1
 replace hg6 : w.heap.size + 2 ≤ g6 := (by rw [hg6]; exact hl0)
 have bX1 := aC bX0 hq1
 have bR1 := aC bR0 hq1
 have hb1 := aG hb0 hq1
 have hHeld1 : W1.cell? ⟨g, 1, none⟩ = some (.slice (some ⟨gd, 0, none⟩) ds.length cap) ∧ W1.cell? ⟨w.heap.size, 1, none⟩ = some (.int .i64 (k : Int)) ∧ W1.cell? ⟨gd, k * 3, none⟩ = some (.slice B d.1.length c) ∧ W1.cell? ⟨gd, k * 3 + 1, none⟩ = some (.int .i64 d.2.1) ∧ W1.cell? ⟨gd, k * 3 + 2, none⟩ = some (.int .i64 d.2.2) ∧ True := ⟨aE hb1 h1, aA bX1 1, aE hb1 h2, aE hb1 h3, aE hb1 h4, trivial⟩
 have hl1 : w.heap.size + 2 ≤ W1.heap.size := aV bR1
 refine hK.out _ _ hHeld1 (fun _ => ?_)
 clear hK K
 refine nrm 6 ?_
 have hc9_0 := aA bA1 0
 have hf9_0 := aD bA1 0
 have hc9_1 := aA bA1 1
 have hf9_1 := aD bA1 1
 have hc9_2 := aA bA1 2
 have hf9_2 := aD bA1 2
 refine last_ (i := 9) (N := none) (Steps.Bs 10 1023) rfl rfl z1_ z10_ (fun K hK => ?_)
 refine skip_ (w1 := ?_) z12_ rfl ?_ ?_
 rotate_left
 ·
  go_simp
  rfl
 refine hK.out _ _ ?_
 clear hK K
 obtain ⟨V, hV, hbV, bAV, hkeep⟩ := storeS hb1 z5_ bA1 (.slice B d.1.length c) (.int .i64 d.2.1) (.int .i64 d.2.2)
 rw [← hV]
 have bXV := (hkeep w.heap.size z5_).trans bX1
 have bRV := (hkeep (w.heap.size + 1) z5_).trans bR1
 clear hV hkeep hc9_0 hc9_1 hc9_2 hf9_0 hf9_1 hf9_2 bX1 bR1 bA1 hb1 hHeld1 bX0 bR0 hb0 hHeld0 hl1 hl0
 refine done_ z1_ ?_
 have hA0V := aA bAV
 have hR0V := aA bRV
 have hX10V := aA bXV 10
 have hX12V := aA bXV 12
 have hX13V := aA bXV 13
 have fA0V := aD bAV
 have fR0V := aD bRV
 have fX10V := aD bXV
 by_cases hp : places x.f5 d.1.length = true
 case neg =>
  obtain rfl : (zN, (1 : Int)) = r := by rw [← HZ.out, if_neg (fun e => hp e.1)]
  have HP := mk_ (Bool.eq_false_iff.2 hp)
  clear hp
  go_wp2_with (first | (go_at_call 60; (with_reducible show Calls _ _ #[.slice A5 _ _, _] V _); refine (bQ A5 c5 x.f5 d.1.length V (aN HC5.out hbV) HC5L.out (by have := HL5.out; omega)).mono ?_; rw [HP.out]; rintro e V1 ⟨rfl, hq1⟩; have hbV1 := aG hbV hq1; have bXV1 := aC bXV hq1; have bRV1 := aC bRV hq1; have bAV1 := aC bAV hq1; have hA0V1 := aA bAV1 0; have hA1V1 := aA bAV1 1; have hA2V1 := aA bAV1 2; have hR0V1 := aA bRV1; have hX10V1 := aA bXV1 10; have hX12V1 := aA bXV1 12; have hX13V1 := aA bXV1 13; have fA0V1 := aD bAV1; have fR0V1 := aD bRV1; have fX10V1 := aD bXV1; have hA0V1' := al1 hA0V1))
  all_goals refine bodyPost_ret (aT rfl _ _ _ 66 #[.slice none 0 0, .int .i64 0, .int .i64 0] (0, 0) _ rfl (blkS bRV1 _ _ _) Try.underlying66 rfl z1_) rfl ?_
  all_goals exact Got.zero (aI (aI (aI hbV1 z5_) z5_) z5_)
 have HP := mk_ hp
 by_cases hq : inn x.f8 d.1.length
 case neg =>
  obtain rfl : (zN, (1 : Int)) = r := by rw [← HZ.out, if_neg (fun e => hq e.2)]
  have HQ := mk_ (show places [x.f8] d.1.length = false by unfold places; unfold inn at hq; simp only [List.all_cons, List.all_nil, Bool.and_true]; exact decide_eq_false hq)
  clear hp hq
  go_wp2_with (first | (go_at_call 60; (with_reducible show Calls _ _ #[.slice A5 _ _, _] V _); refine (bQ A5 c5 x.f5 d.1.length V (aN HC5.out hbV) HC5L.out (by have := HL5.out; omega)).mono ?_; rw [HP.out]; rintro e V1 ⟨rfl, hq1⟩; have hbV1 := aG hbV hq1; have bXV1 := aC bXV hq1; have bRV1 := aC bRV hq1; have bAV1 := aC bAV hq1; have hA0V1 := aA bAV1 0; have hA1V1 := aA bAV1 1; have hA2V1 := aA bAV1 2; have hR0V1 := aA bRV1; have hX10V1 := aA bXV1 10; have hX12V1 := aA bXV1 12; have hX13V1 := aA bXV1 13; have fA0V1 := aD bAV1; have fR0V1 := aD bRV1; have fX10V1 := aD bXV1; have hA0V1' := al1 hA0V1) | (go_at_call 60; (with_reducible show Calls _ _ #[.slice (some _) 1 1, _] _ _); refine (bQ (some ⟨V1.heap.size, 0, none⟩) 1 [x.f8] d.1.length _ (eD (cJ V1 _)) (by simp) (by simp)).mono ?_; rw [HQ.out]; rintro e V2 ⟨rfl, hq2'⟩; have hq2 : Below V1.heap.size V1 V2 := eE (aM (Below.refl _ _) _) (by simp) hq2'; have hbV2 := aG hbV1 hq2; have bXV2 := aC bXV1 hq2; have bRV2 := aC bRV1 hq2; have bAV2 := aC bAV1 hq2; have hA0V2 := aA bAV2; have hR0V2 := aA bRV2; have hX10V2 := aA bXV2 10; have hX12V2 := aA bXV2 12; have hX13V2 := aA bXV2 13; have fA0V2 := aD bAV2; have fR0V2 := aD bRV2; have fX10V2 := aD bXV2))
  all_goals refine bodyPost_ret (aT rfl _ _ _ 66 #[.slice none 0 0, .int .i64 0, .int .i64 0] (0, 0) _ rfl (blkS bRV2 _ _ _) Try.underlying66 rfl z1_) rfl ?_
  all_goals exact Got.zero (aI (aI (aI hbV2 z5_) z5_) z5_)
 have HQ := mk_ (show places [x.f8] d.1.length = true by unfold places; unfold inn at hq; simp only [List.all_cons, List.all_nil, Bool.and_true]; exact decide_eq_true hq)
 have HZ2 := mk_ (HZ.out.symm.trans (if_pos ⟨hp, hq⟩))
 obtain ⟨j, hj⟩ := Int.eq_ofNat_of_zero_le hq.1
 have HJ := mk_ (show j < d.1.length by have := hq.2; omega)
 have HJ2 := mk_ hj
 clear hj
 clear HZ hp hq
 by_cases h12 : x.f5.length ≥ 12
 case pos =>
  obtain rfl : (zN, (2 : Int)) = r := by rw [HZ2.out, if_pos h12]
  have hd1 : decide ((12 : Int) ≤ (x.f5.length : Int)) = true := decide_eq_true z5_
  have hd2 : decide (12 ≤ x.f5.length) = true := decide_eq_true h12
  clear h12
  go_wp2_with (first | (go_at_call 60; (with_reducible show Calls _ _ #[.slice A5 _ _, _] V _); refine (bQ A5 c5 x.f5 d.1.length V (aN HC5.out hbV) HC5L.out (by have := HL5.out; omega)).mono ?_; rw [HP.out]; rintro e V1 ⟨rfl, hq1⟩; have hbV1 := aG hbV hq1; have bXV1 := aC bXV hq1; have bRV1 := aC bRV hq1; have bAV1 := aC bAV hq1; have hA0V1 := aA bAV1 0; have hA1V1 := aA bAV1 1; have hA2V1 := aA bAV1 2; have hR0V1 := aA bRV1; have hX10V1 := aA bXV1 10; have hX12V1 := aA bXV1 12; have hX13V1 := aA bXV1 13; have fA0V1 := aD bAV1; have fR0V1 := aD bRV1; have fX10V1 := aD bXV1; have hA0V1' := al1 hA0V1) | (go_at_call 60; (with_reducible show Calls _ _ #[.slice (some _) 1 1, _] _ _); refine (bQ (some ⟨V1.heap.size, 0, none⟩) 1 [x.f8] d.1.length _ (eD (cJ V1 _)) (by simp) (by simp)).mono ?_; rw [HQ.out]; rintro e V2 ⟨rfl, hq2'⟩; have hq2 : Below V1.heap.size V1 V2 := eE (aM (Below.refl _ _) _) (by simp) hq2'; have hbV2 := aG hbV1 hq2; have bXV2 := aC bXV1 hq2; have bRV2 := aC bRV1 hq2; have bAV2 := aC bAV1 hq2; have hA0V2 := aA bAV2; have hR0V2 := aA bRV2; have hX10V2 := aA bXV2 10; have hX12V2 := aA bXV2 12; have hX13V2 := aA bXV2 13; have fA0V2 := aD bAV2; have fR0V2 := aD bRV2; have fX10V2 := aD bXV2))
  all_goals refine bodyPost_ret (aT rfl _ _ _ 66 #[.slice none 0 0, .int .i64 0, .int .i64 0] (0, 0) _ rfl (blkS bRV2 _ _ _) Try.underlying66 rfl z1_) rfl ?_
  all_goals exact Got.zero (aI (aI (aI hbV2 z5_) z5_) z5_)
 have hd1 : decide ((12 : Int) ≤ (x.f5.length : Int)) = false := decide_eq_false z5_
 have hd2 : decide (12 ≤ x.f5.length) = false := decide_eq_false h12
 have HZ3 := mk_ (HZ2.out.trans (if_neg h12))
 clear h12 HZ2
 obtain rfl : ((pick d.1 x.f5 ++ [rd d.1 x.f8], d.2), (0 : Int)) = r := HZ3.out.symm
 have hv1 := HO.out.v2
 have hd3 : decide ((1152921504606846976 : Int) < d.2.2) = false := decide_eq_false z5_
 have hd4 : ((1152921504606846976 : Int) < d.2.2) = False := eq_false z5_
 have hmx : max d.2.2 d.2.2 = d.2.2 := by omega
 clear hv1
 obtain ⟨adB, hB, htv⟩ := Kd.at_int HC.out (j : Int) z5_ (by have := HJ.out; omega)
 rw [Int.toNat_natCast, ← HJ2.out] at htv
 obtain ⟨tv, htw⟩ : ∃ tv, tv = rd d.1 x.f8 := ⟨_, rfl⟩
 rw [← htw] at htv
 have HTW := mk_ htw
 clear htw
 subst hB
 have hj0 : (0 ≤ (j : Int)) = True := eq_true z5_
 have hj1 : ((j : Int) < (d.1.length : Int)) = True := eq_true (by have := HJ.out; omega)
 go_wp2_with (first | (go_at_call 60; (with_reducible show Calls _ _ #[.slice A5 _ _, _] V _); refine (bQ A5 c5 x.f5 d.1.length V (aN HC5.out hbV) HC5L.out (by have := HL5.out; omega)).mono ?_; rw [HP.out]; rintro e V1 ⟨rfl, hq1⟩; have hbV1 := aG hbV hq1; have bXV1 := aC bXV hq1; have bRV1 := aC bRV hq1; have bAV1 := aC bAV hq1; have hA0V1 := aA bAV1 0; have hA1V1 := aA bAV1 1; have hA2V1 := aA bAV1 2; have hR0V1 := aA bRV1; have hX10V1 := aA bXV1 10; have hX12V1 := aA bXV1 12; have hX13V1 := aA bXV1 13; have fA0V1 := aD bAV1; have fR0V1 := aD bRV1; have fX10V1 := aD bXV1; have hA0V1' := al1 hA0V1) | (go_at_call 60; (with_reducible show Calls _ _ #[.slice (some _) 1 1, _] _ _); refine (bQ (some ⟨V1.heap.size, 0, none⟩) 1 [x.f8] d.1.length _ (eD (cJ V1 _)) (by simp) (by simp)).mono ?_; rw [HQ.out]; rintro e V2 ⟨rfl, hq2'⟩; have hq2 : Below V1.heap.size V1 V2 := eE (aM (Below.refl _ _) _) (by simp) hq2'; have hbV2 := aG hbV1 hq2; have bXV2 := aC bXV1 hq2; have bRV2 := aC bRV1 hq2; have bAV2 := aC bAV1 hq2; have hA0V2 := aA bAV2; have hR0V2 := aA bRV2; have hX10V2 := aA bXV2 10; have hX12V2 := aA bXV2 12; have hX13V2 := aA bXV2 13; have fA0V2 := aD bAV2; have fR0V2 := aD bRV2; have fX10V2 := aD bXV2))
 refine cG (n := 5) (S := fun w' => w'.cell? ⟨g6, 2, none⟩ = some (.int .i64 d.2.2) ∧ True) (ds := []) (fun W => Below w.heap.size w W ∧ W.heap[w.heap.size]? = some (.cells #[.int .i64 x.f0, .int .i64 (k : Int), .int .i64 x.f2, .int .i64 x.f3, .int .i64 x.f4.f0, .int .i64 x.f4.f1, .int .i64 x.f4.f2, .int .i64 x.f4.f3.f0, .int .i64 x.f4.f3.f1, .string x.f4.f3.f2, .slice A5 x.f5.length c5, .slice A6 x.f6.length c6, .int .i64 m, .int .i64 x.f8] 34 (0, 0)) ∧ W.heap[w.heap.size + 1]? = some (.cells #[.slice none 0 0, .int .i64 0, .int .i64 0] 66 (0, 0)) ∧ W.heap[g6]? = some (.cells #[.slice (some adB) d.1.length c, .int .i64 d.2.1, .int .i64 d.2.2] 66 (0, 0))) #[false, false, false, false, false] z1_ rfl rfl ⟨bP hbV2, aU bXV2, aU bRV2, aU bAV2⟩ (fun W hJ => ?_) (fun W0 hJ => ?_)
 ·
  obtain ⟨hb0, bX0, bR0, bA0⟩ := hJ
  exact ⟨aA bA0 2, trivial⟩
 obtain ⟨hb0, bX0, bR0, bA0⟩ := hJ
 have hHeld0 : W0.cell? ⟨g6, 2, none⟩ = some (.int .i64 d.2.2) ∧ True := ⟨aA bA0 2, trivial⟩
 have hl0 : w.heap.size + 2 ≤ W0.heap.size := aV bR0
 refine sI 0 78 5 1 ?_
 refine sT hHeld0 1 79 5 3 ?_
 refine sI 2 7 5 7 ?_
 refine sI 3 8 5 15 ?_
 refine sI 4 9 5 31 ?_
 refine done_ z1_ ?_
 have hA00 := aA bA0
 have hR00 := aA bR0
 have hX100 := aA bX0 10
 have hX120 := aA bX0 12
 have hX130 := aA bX0 13
 have fA00 := aD bA0
 have fR00 := aD bR0
 have fX100 := aD bX0
 have hX13 : W0.cell? ⟨w.heap.size, 13, none⟩ = some (.int .i64 (j : Int)) := by rw [← HJ2.out]; exact aA bX0 13
 clear hX130
 have htv0 := aE hb0 htv
 go_wp2
 refine cG (n := 17) (S := fun w' => w'.cell? ⟨g6, 0, none⟩ = some (.slice (some adB) d.1.length c) ∧ w'.cell? ⟨g6, 1, none⟩ = some (.int .i64 d.2.1) ∧ w'.cell? ⟨g6, 2, none⟩ = some (.int .i64 d.2.2) ∧ w'.cell? ⟨w.heap.size, 10, none⟩ = some (.slice A5 x.f5.length c5) ∧ True) (ds := [15]) (fun W => Below w.heap.size w W ∧ W.heap[w.heap.size]? = some (.cells #[.int .i64 x.f0, .int .i64 (k : Int), .int .i64 x.f2, .int .i64 x.f3, .int .i64 x.f4.f0, .int .i64 x.f4.f1, .int .i64 x.f4.f2, .int .i64 x.f4.f3.f0, .int .i64 x.f4.f3.f1, .string x.f4.f3.f2, .slice A5 x.f5.length c5, .slice A6 x.f6.length c6, .int .i64 m, .int .i64 x.f8] 34 (0, 0)) ∧ W.heap[w.heap.size + 1]? = some (.cells #[.slice none 0 0, .int .i64 0, .int .i64 0] 66 (0, 0)) ∧ W.heap[g6]? = some (.cells #[.slice (some adB) d.1.length c, .int .i64 d.2.1, .int .i64 d.2.2] 66 (0, 0))) (Steps.Bs 17 0) z1_ rfl rfl ⟨bP (hb0), aU (bX0), aU (bR0), aU (bA0)⟩ (fun W hJ => ?_) (fun W0 hJ => ?_)
 ·
  obtain ⟨hb0, bX0, bR0, bA0⟩ := hJ
  exact ⟨aA bA0 0, aA bA0 1, aA bA0 2, aA bX0 10, trivial⟩
 obtain ⟨hb0, bX0, bR0, bA0⟩ := hJ
 have hHeld0 : W0.cell? ⟨g6, 0, none⟩ = some (.slice (some adB) d.1.length c) ∧ W0.cell? ⟨g6, 1, none⟩ = some (.int .i64 d.2.1) ∧ W0.cell? ⟨g6, 2, none⟩ = some (.int .i64 d.2.2) ∧ W0.cell? ⟨w.heap.size, 10, none⟩ = some (.slice A5 x.f5.length c5) ∧ True := ⟨aA bA0 0, aA bA0 1, aA bA0 2, aA bX0 10, trivial⟩
 have hl0 : w.heap.size + 2 ≤ W0.heap.size := aV bR0
 refine sI 0 112 17 1 ?_
 refine sT hHeld0 1 113 17 3 ?_
 refine sI 2 114 17 7 ?_
 refine sT hHeld0 3 115 17 15 ?_
 refine sI 5 117 17 47 ?_
 refine sI 8 120 17 303 ?_
 refine sT hHeld0 9 121 17 815 ?_
 refine sI 10 122 17 1839 ?_
 refine sT hHeld0 11 123 17 3887 ?_
 refine sI 12 124 17 7983 ?_
 refine sI 13 125 17 16175 ?_
 refine join_ (σ := Value × Nat) 4 (Steps.Bs 17 16255) (fun s_ => [(116, s_.1), (118, .slice (some ⟨s_.2, 0, none⟩) 1 1)]) (fun s_ w' => Below w.heap.size w w' ∧ w'.heap[w.heap.size]? = some (.cells #[.int .i64 x.f0, .int .i64 (k : Int), .int .i64 x.f2, .int .i64 x.f3, .int .i64 x.f4.f0, .int .i64 x.f4.f1, .int .i64 x.f4.f2, .int .i64 x.f4.f3.f0, .int .i64 x.f4.f3.f1, .string x.f4.f3.f2, .slice A5 x.f5.length c5, .slice A6 x.f6.length c6, .int .i64 m, .int .i64 x.f8] 34 (0, 0)) ∧ w'.heap[w.heap.size + 1]? = some (.cells #[.slice none 0 0, .int .i64 0, .int .i64 0] 66 (0, 0)) ∧ w'.heap[g6]? = some (.cells #[.slice (some adB) d.1.length c, .int .i64 d.2.1, .int .i64 d.2.2] 66 (0, 0)) ∧ (Kd.int .i64).R 3 w' w.heap.size (fun k_ => w.heap.size + 2 ≤ k_ ∧ k_ ≠ g6) s_.1 (pick d.1 x.f5) ∧ w'.heap[s_.2]? = some (Obj.cells #[.int .i64 tv] 3 (0, 0))) ?_ ?_
 rotate_left
 ·
  intro hCont
  refine two_ (i := 4) (j := 6) (Ni := some 116) (Nj := some 118) (Steps.Bs 17 16191) (Steps.Bs 17 16239) rfl rfl rfl rfl z1_ z10_ z10_ (fun K hK => ?_) (fun K hK => ?_)
  ·
   refine goes_ Try.func61 z1_ rfl #[.slice (some adB) d.1.length c, .slice A5 x.f5.length c5] z12_ rfl rfl z8_ ?_
   refine (PAll.plan_pick.calls (x.f5.length + 1) (some adB) c d.1 A5 c5 x.f5 (pick d.1 x.f5) _ (aN HC.out hb0) HCC.out (aN HC5.out hb0) HC5L.out (eY _ d.1 x.f5 (by have := HL12.out; omega) (by have := HL5.out; omega) HP.out z5_)).mono ?_
   rintro e W1 ⟨u, rfl, hru, hq⟩
   refine ⟨_, rfl, ?_⟩
   have hru' : (Kd.int .i64).R 3 W1 w.heap.size (fun k_ => w.heap.size + 2 ≤ k_ ∧ k_ ≠ g6) u (pick d.1 x.f5) := bT (R_mono (cF hru) (fun k hk => ⟨by have := hk.2.1; omega, by have := hk.2.1; have := aV bA0; omega⟩)) z5_
   clear hru
   have hb1 := aG hb0 hq
   have bX1 := aC bX0 hq
   have bR1 := aC bR0 hq
   have bA1 := aC bA0 hq
   have hHeld1 : W1.cell? ⟨g6, 0, none⟩ = some (.slice (some adB) d.1.length c) ∧ W1.cell? ⟨g6, 1, none⟩ = some (.int .i64 d.2.1) ∧ W1.cell? ⟨g6, 2, none⟩ = some (.int .i64 d.2.2) ∧ W1.cell? ⟨w.heap.size, 10, none⟩ = some (.slice A5 x.f5.length c5) ∧ True := ⟨aA bA1 0, aA bA1 1, aA bA1 2, aA bX1 10, trivial⟩
   have hl1 : w.heap.size + 2 ≤ W1.heap.size := aV bR1
   refine hK.out _ _ hHeld1 (fun _ => ?_)
   clear hK K
   refine nrm 116 ?_
   clear hq
   refine one_ (i := 6) (N := some 118) (Steps.Bs 17 16255) rfl rfl z1_ z10_ (fun K hK => ?_)
   refine fC (w1 := ?_) (v := ?_) z12_ rfl ?_ ?_
   rotate_left 2
   ·
    go_simp
    constructor
    ·
     rfl
    ·
     rfl
   obtain ⟨W2, hW1⟩ : ∃ V_ : World, V_ = W1.alloc (.cells #[.int .i64 tv] 3) := ⟨_, rfl⟩
   rw [← hW1]
   have hq : Below W1.heap.size W1 W2 := by rw [hW1]; exact aM (Below.refl _ _) _
   have hG : W2.heap[W1.heap.size]? = some (Obj.cells #[.int .i64 tv] 3 (0, 0)) := by rw [hW1]; exact cJ _ _
   clear hW1
   have hb2 := aG hb1 hq
   have bX2 := aC bX1 hq
   have bR2 := aC bR1 hq
   have bA2 := aC bA1 hq
   have hHeld2 : W2.cell? ⟨g6, 0, none⟩ = some (.slice (some adB) d.1.length c) ∧ W2.cell? ⟨g6, 1, none⟩ = some (.int .i64 d.2.1) ∧ W2.cell? ⟨g6, 2, none⟩ = some (.int .i64 d.2.2) ∧ W2.cell? ⟨w.heap.size, 10, none⟩ = some (.slice A5 x.f5.length c5) ∧ True := ⟨aA bA2 0, aA bA2 1, aA bA2 2, aA bX2 10, trivial⟩
   have hl2 : w.heap.size + 2 ≤ W2.heap.size := aV bR2
   refine hK.out _ _ hHeld2 (fun _ => ?_)
   clear hK K
   exact hCont (u, W1.heap.size) W2 ⟨hb2, bX2, bR2, bA2, bG hru' hq, hG⟩
  ·
   refine fC (w1 := ?_) (v := ?_) z12_ rfl ?_ ?_
   rotate_left 2
   ·
    go_simp
    constructor
    ·
     rfl
    ·
     rfl
   obtain ⟨W1, hW1⟩ : ∃ V_ : World, V_ = W0.alloc (.cells #[.int .i64 tv] 3) := ⟨_, rfl⟩
   rw [← hW1]
   have hq : Below W0.heap.size W0 W1 := by rw [hW1]; exact aM (Below.refl _ _) _
   have hG : W1.heap[W0.heap.size]? = some (Obj.cells #[.int .i64 tv] 3 (0, 0)) := by rw [hW1]; exact cJ _ _
   clear hW1
   have hb1 := aG hb0 hq
   have bX1 := aC bX0 hq
   have bR1 := aC bR0 hq
   have bA1 := aC bA0 hq
   have hHeld1 : W1.cell? ⟨g6, 0, none⟩ = some (.slice (some adB) d.1.length c) ∧ W1.cell? ⟨g6, 1, none⟩ = some (.int .i64 d.2.1) ∧ W1.cell? ⟨g6, 2, none⟩ = some (.int .i64 d.2.2) ∧ W1.cell? ⟨w.heap.size, 10, none⟩ = some (.slice A5 x.f5.length c5) ∧ True := ⟨aA bA1 0, aA bA1 1, aA bA1 2, aA bX1 10, trivial⟩
   have hl1 : w.heap.size + 2 ≤ W1.heap.size := aV bR1
   refine hK.out _ _ hHeld1 (fun _ => ?_)
   clear hK K
   refine nrm 118 ?_
   clear hq
   refine one_ (i := 4) (N := some 116) (Steps.Bs 17 16255) rfl rfl z1_ z10_ (fun K hK => ?_)
   refine goes_ Try.func61 z1_ rfl #[.slice (some adB) d.1.length c, .slice A5 x.f5.length c5] z12_ rfl rfl z8_ ?_
   refine (PAll.plan_pick.calls (x.f5.length + 1) (some adB) c d.1 A5 c5 x.f5 (pick d.1 x.f5) _ (aN HC.out hb1) HCC.out (aN HC5.out hb1) HC5L.out (eY _ d.1 x.f5 (by have := HL12.out; omega) (by have := HL5.out; omega) HP.out z5_)).mono ?_
   rintro e W2 ⟨u, rfl, hru, hq⟩
   refine ⟨_, rfl, ?_⟩
   have hru' : (Kd.int .i64).R 3 W2 w.heap.size (fun k_ => w.heap.size + 2 ≤ k_ ∧ k_ ≠ g6) u (pick d.1 x.f5) := bT (R_mono (cF hru) (fun k hk => ⟨by have := hk.2.1; omega, by have := hk.2.1; have := aV bA1; omega⟩)) z5_
   clear hru
   have hG2 := aC hG hq
   have hb2 := aG hb1 hq
   have bX2 := aC bX1 hq
   have bR2 := aC bR1 hq
   have bA2 := aC bA1 hq
   have hHeld2 : W2.cell? ⟨g6, 0, none⟩ = some (.slice (some adB) d.1.length c) ∧ W2.cell? ⟨g6, 1, none⟩ = some (.int .i64 d.2.1) ∧ W2.cell? ⟨g6, 2, none⟩ = some (.int .i64 d.2.2) ∧ W2.cell? ⟨w.heap.size, 10, none⟩ = some (.slice A5 x.f5.length c5) ∧ True := ⟨aA bA2 0, aA bA2 1, aA bA2 2, aA bX2 10, trivial⟩
   have hl2 : w.heap.size + 2 ≤ W2.heap.size := aV bR2
   refine hK.out _ _ hHeld2 (fun _ => ?_)
   clear hK K
   exact hCont (u, W0.heap.size) W2 ⟨hb2, bX2, bR2, bA2, hru', hG2⟩
 rintro ⟨u, G⟩ W1 ⟨hb1, bX1, bR1, bA1, hru, hG⟩
 replace bA1 : W1.heap[g6]? = some (.cells #[.slice (some adB) d.1.length c, .int .i64 d.2.1, .int .i64 d.2.2] 66 (0, 0)) := bA1
 replace hru : (Kd.int .i64).R 3 W1 w.heap.size (fun k_ => w.heap.size + 2 ≤ k_ ∧ k_ ≠ g6) u (pick d.1 x.f5) := hru
 replace hG : W1.heap[G]? = some (Obj.cells #[.int .i64 tv] 3 (0, 0)) := hG
 refine norm_ (a' := ?_) ?_ ?_
 rotate_left
 ·
  simp only [putAll, Act.put, List.setIfInBounds_toArray, List.set_cons_zero, List.set_cons_succ]
  rfl
 have hHeld1 : W1.cell? ⟨g6, 0, none⟩ = some (.slice (some adB) d.1.length c) ∧ W1.cell? ⟨g6, 1, none⟩ = some (.int .i64 d.2.1) ∧ W1.cell? ⟨g6, 2, none⟩ = some (.int .i64 d.2.2) ∧ W1.cell? ⟨w.heap.size, 10, none⟩ = some (.slice A5 x.f5.length c5) ∧ True := ⟨aA bA1 0, aA bA1 1, aA bA1 2, aA bX1 10, trivial⟩
 have hl1 : w.heap.size + 2 ≤ W1.heap.size := aV bR1
 obtain ⟨A7, c7, rfl⟩ := bE hru
 refine one_ (i := 7) (N := (some 119)) (Steps.Bs 17 16383) rfl rfl z1_ z10_ (fun K hK => ?_)
 refine cU (Kd.int .i64) (w0 := w) w.heap.size z12_ (.tmp 116) (.tmp 118) 32 3 (.int .i64 0) 8 rfl Try.underlying32 PAll.info3 rfl z10_ z5_ (.slice A7 (pick d.1 x.f5).length c7) (pick d.1 x.f5) [tv] (some ⟨G, 0, none⟩) 1 1 (fun k_ => w.heap.size + 2 ≤ k_ ∧ k_ ≠ g6) (fun _ => False) rfl rfl hru (eD hG) (fun _ _ h => h) (fun _ h => h.elim) (fun k hk => ⟨by omega, by have := aV bA1; omega⟩) hb1 hb1.size (by rw [dF]; have := HL5.out; omega) ?_
 intro v2 W2 hr2 hb2 hg2 _
 obtain ⟨A9, c9, rfl⟩ := bE hr2
 rw [List.length_append, List.length_singleton] at hr2
 have bX2 : W2.heap[w.heap.size]? = _ := (hg2.block _ (aV bX1) (fun e => by have := hru.1 _ e.symm; have := hg6; omega)).trans bX1
 have bR2 : W2.heap[w.heap.size + 1]? = _ := (hg2.block _ (aV bR1) (fun e => by have := hru.1 _ e.symm; have := hg6; omega)).trans bR1
 have bA2 : W2.heap[g6]? = _ := (hg2.block _ (aV bA1) (fun e => by have := hru.1 _ e.symm; have := hg6; omega)).trans bA1
 have hHeld2 : W2.cell? ⟨g6, 0, none⟩ = some (.slice (some adB) d.1.length c) ∧ W2.cell? ⟨g6, 1, none⟩ = some (.int .i64 d.2.1) ∧ W2.cell? ⟨g6, 2, none⟩ = some (.int .i64 d.2.2) ∧ W2.cell? ⟨w.heap.size, 10, none⟩ = some (.slice A5 x.f5.length c5) ∧ True := ⟨aA bA2 0, aA bA2 1, aA bA2 2, aA bX2 10, trivial⟩
 have hl2 : w.heap.size + 2 ≤ W2.heap.size := aV bR2
 refine hK.out _ _ hHeld2 (fun _ => ?_)
 clear hK K
 refine nrm 119 ?_
 refine sI 14 126 17 32767 ?_
 have hc15_0 := aA bR2
 have hf15_0 := aD bR2
 refine last_ (i := 15) (N := none) (Steps.Bs 17 65535) rfl rfl z1_ z10_ (fun K hK => ?_)
 refine skip_ (w1 := ?_) z12_ rfl ?_ ?_
 rotate_left
 ·
  go_simp
  rfl
 refine hK.out _ _ ?_
 clear hK K
 refine sI 16 5 17 131071 ?_
 refine done_ z1_ ?_
 go_wp2
 refine bodyPost_ret (aT rfl _ _ _ 66 #[.slice A9 ((pick d.1 x.f5).length + 1) c9, .int .i64 d.2.1, .int .i64 d.2.2] (0, 0) _ rfl (blkS bR2 _ _ _) Try.underlying66 rfl z1_) rfl ?_
 rw [HTW.out] at hr2
 exact Got.stored (d := (pick d.1 x.f5 ++ [rd d.1 x.f8], d.2)) HW.out.le rfl (R_mono hr2 (fun k hk => hk.1)) hb2 _ _ _
set_option maxHeartbeats 4000000 in
theorem group2_calls (h : Wk w g base ok A0 c0 f v ds) (hl : ds.length ≤ 1000) (hds : ∀ d ∈ ds, NdOk d) (hC5 : Kd.C (Kd.int .i64) w A5 x.f5.length x.f5) (hC5L : x.f5.length ≤ c5) (hL5 : x.f5.length ≤ 1000) (h7 : x.f7 = 2) :
  Calls Try.prog 55 #[.pointer (some ⟨g, 0, none⟩), .agg #[.int .i64 x.f0, .int .i64 x.f1, .int .i64 x.f2, .int .i64 x.f3, .int .i64 x.f4.f0, .int .i64 x.f4.f1, .int .i64 x.f4.f2, .int .i64 x.f4.f3.f0, .int .i64 x.f4.f3.f1, .string x.f4.f3.f2, .slice A5 x.f5.length c5, .slice A6 x.f6.length c6, .int .i64 2, .int .i64 x.f8]] w (Got w base ok v (groupN ds x)) := by
 have HW := mk_ h
 have HC5 := mk_ hC5
 have HC5L := mk_ hC5L
 have HL5 := mk_ hL5
 clear hC5 hC5L hL5
 have hsp : groupN ds x = if ahead ds x.f1 = true then (if places x.f5 (nth ds x.f1).1.length = true ∧ inn x.f8 (nth ds x.f1).1.length then (if x.f5.length ≥ 12 then (zN, 2) else if rd (nth ds x.f1).1 x.f8 ≠ 3 then (zN, 10) else if (nth ds x.f1).2.2 * (nth ds x.f1).2.1 ≤ 1152921504606846976 then ((pick (nth ds x.f1).1 x.f5 ++ [3], (nth ds x.f1).2.1, max (nth ds x.f1).2.2 ((nth ds x.f1).2.2 * (nth ds x.f1).2.1)), 0) else (zN, 11)) else (zN, 1)) else (zN, 1) := by
  unfold groupN
  by_cases ha : ahead ds x.f1 = true
  ·
   rw [if_pos ⟨ha, by omega, by omega⟩, if_pos ha]
   by_cases hp : places x.f5 (nth ds x.f1).1.length = true ∧ inn x.f8 (nth ds x.f1).1.length
   ·
    rw [if_pos ⟨hp.1, .inr hp.2⟩, if_pos hp]
    by_cases h12 : x.f5.length ≥ 12
    ·
     rw [if_pos h12, if_pos h12]
    ·
     rw [if_neg h12, if_neg h12]
     by_cases hr : rd (nth ds x.f1).1 x.f8 ≠ 3
     ·
      rw [if_pos ⟨h7, hr⟩, if_pos hr]
     ·
      rw [if_neg (fun e => hr e.2), if_neg hr, if_neg z5_, if_pos h7]
   ·
    rw [if_neg (fun e => hp ⟨e.1, e.2.elim (fun e => by omega) id⟩), if_neg hp]
  ·
   rw [if_neg (fun e => ha e.1), if_neg ha]
 rw [hsp]
 clear hsp
 by_cases ha : ahead ds x.f1 = true
 case neg =>
  rw [if_neg ha]
  have HA := mk_ (Bool.eq_false_iff.2 ha)
  clear h ha
  go_enter Try.func55, Try.ntmps55
  go_wp2_with (first | (go_at_call 58; refine (cE (HW.out.below z0_) z5_ _).mono ?_; rw [HA.out]; rintro e w' ⟨rfl, hw'⟩; subst hw'))
  refine bodyPost_ret (aT rfl _ _ _ 66 #[.slice none 0 0, .int .i64 0, .int .i64 0] (0, 0) _ rfl z3_ Try.underlying66 rfl z1_) rfl ?_
  exact Got.zero z0_
 rw [if_pos ha]
 obtain ⟨k, hk⟩ := Int.eq_ofNat_of_zero_le (of_decide_eq_true ha).1
 rw [hk] at ha ⊢
 obtain ⟨hk0, hk1⟩ : 0 ≤ (k : Int) ∧ (k : Int) < (ds.length : Int) := of_decide_eq_true ha
 obtain ⟨gd, cap, B, c, hv, hcap, hc, h0, h1, h2, h3, h4, hC, hR⟩ := h.elem k z5_
 have hb0 : (0 ≤ (k : Int)) = True := eq_true hk0
 have hb1 : ((k : Int) < (ds.length : Int)) = True := eq_true hk1
 have h1' := al2 h1
 have h1'' := al3 h1
 have h2' := al2 h2
 have h2'' := al3 h2
 have h3' := al2 h3
 have h3'' := al3 h3
 have h4' := al2 h4
 have h4'' := al3 h4
 have HR := mk_ hR
 have HC := mk_ hC
 have HCC := mk_ hc
 have HA := mk_ ha
 have HL12 := mk_ (cY hds ha).len
 have HO := mk_ (cY hds ha)
 clear h hC hR hk0 hk1 ha hc hcap hk hv
 generalize nth ds (k : Int) = d at *
 generalize hz : ((if places x.f5 d.1.length = true ∧ inn x.f8 d.1.length then (if x.f5.length ≥ 12 then (zN, 2) else if rd d.1 x.f8 ≠ 3 then (zN, 10) else if d.2.2 * d.2.1 ≤ 1152921504606846976 then ((pick d.1 x.f5 ++ [3], d.2.1, max d.2.2 (d.2.2 * d.2.1)), 0) else (zN, 11)) else (zN, 1) : Nd × Int)) = r
 replace hz : (if places x.f5 d.1.length = true ∧ inn x.f8 d.1.length then (if x.f5.length ≥ 12 then (zN, 2) else if rd d.1 x.f8 ≠ 3 then (zN, 10) else if d.2.2 * d.2.1 ≤ 1152921504606846976 then ((pick d.1 x.f5 ++ [3], d.2.1, max d.2.2 (d.2.2 * d.2.1)), 0) else (zN, 11)) else (zN, 1) : Nd × Int) = r := hz
 have HZ := mk_ hz
 clear hz
 go_enter Try.func55, Try.ntmps55
 go_wp2_with (first | (go_at_call 58; refine (cE (HW.out.below z0_) z5_ _).mono ?_; rw [HA.out]; rintro e w' ⟨rfl, hw'⟩; subst hw'))
 refine cG (n := 10) (S := fun w' => w'.cell? ⟨g, 1, none⟩ = some (.slice (some ⟨gd, 0, none⟩) ds.length cap) ∧ w'.cell? ⟨w.heap.size, 1, none⟩ = some (.int .i64 (k : Int)) ∧ w'.cell? ⟨gd, k * 3, none⟩ = some (.slice B d.1.length c) ∧ w'.cell? ⟨gd, k * 3 + 1, none⟩ = some (.int .i64 d.2.1) ∧ w'.cell? ⟨gd, k * 3 + 2, none⟩ = some (.int .i64 d.2.2) ∧ True) (ds := [9]) (fun W => Below w.heap.size w W ∧ W.heap[w.heap.size]? = some (.cells #[.int .i64 x.f0, .int .i64 (k : Int), .int .i64 x.f2, .int .i64 x.f3, .int .i64 x.f4.f0, .int .i64 x.f4.f1, .int .i64 x.f4.f2, .int .i64 x.f4.f3.f0, .int .i64 x.f4.f3.f1, .string x.f4.f3.f2, .slice A5 x.f5.length c5, .slice A6 x.f6.length c6, .int .i64 2, .int .i64 x.f8] 34 (0, 0)) ∧ W.heap[w.heap.size + 1]? = some (.cells #[.slice none 0 0, .int .i64 0, .int .i64 0] 66 (0, 0))) (Steps.Bs 10 0) z1_ rfl rfl ⟨z0_, z3_, z3_⟩ (fun W hJ => ?_) (fun W0 hJ => ?_)
 ·
  obtain ⟨hb0, bX0, bR0⟩ := hJ
  exact ⟨aE hb0 h1, aA bX0 1, aE hb0 h2, aE hb0 h3, aE hb0 h4, trivial⟩
 obtain ⟨hb0, bX0, bR0⟩ := hJ
 have hHeld0 : W0.cell? ⟨g, 1, none⟩ = some (.slice (some ⟨gd, 0, none⟩) ds.length cap) ∧ W0.cell? ⟨w.heap.size, 1, none⟩ = some (.int .i64 (k : Int)) ∧ W0.cell? ⟨gd, k * 3, none⟩ = some (.slice B d.1.length c) ∧ W0.cell? ⟨gd, k * 3 + 1, none⟩ = some (.int .i64 d.2.1) ∧ W0.cell? ⟨gd, k * 3 + 2, none⟩ = some (.int .i64 d.2.2) ∧ True := ⟨aE hb0 h1, aA bX0 1, aE hb0 h2, aE hb0 h3, aE hb0 h4, trivial⟩
 have hl0 : w.heap.size + 2 ≤ W0.heap.size := aV bR0
 refine sI 0 26 10 1 ?_
 refine sI 1 27 10 3 ?_
 refine sI 2 28 10 7 ?_
 refine sT hHeld0 3 29 10 15 ?_
 refine sI 4 30 10 31 ?_
 refine sT hHeld0 5 31 10 63 ?_
 refine sI 6 32 10 127 ?_
 refine sT hHeld0 7 33 10 255 ?_
 refine one_ (i := 8) (N := (some 6)) (Steps.Bs 10 511) rfl rfl z1_ z10_ (fun K hK => ?_)
 refine cK z12_ (N := 6) rfl (cs := #[.slice none 0 0, .int .i64 0, .int .i64 0]) (t := 66) z11_ ?_
 intro g6 hg6 W1 bA1 hq1
 replace hg6 : w.heap.size + 2 ≤ g6 := (by rw [hg6]; exact hl0)
 have bX1 := aC bX0 hq1
 have bR1 := aC bR0 hq1
 have hb1 := aG hb0 hq1
 have hHeld1 : W1.cell? ⟨g, 1, none⟩ = some (.slice (some ⟨gd, 0, none⟩) ds.length cap) ∧ W1.cell? ⟨w.heap.size, 1, none⟩ = some (.int .i64 (k : Int)) ∧ W1.cell? ⟨gd, k * 3, none⟩ = some (.slice B d.1.length c) ∧ W1.cell? ⟨gd, k * 3 + 1, none⟩ = some (.int .i64 d.2.1) ∧ W1.cell? ⟨gd, k * 3 + 2, none⟩ = some (.int .i64 d.2.2) ∧ True := ⟨aE hb1 h1, aA bX1 1, aE hb1 h2, aE hb1 h3, aE hb1 h4, trivial⟩
 have hl1 : w.heap.size + 2 ≤ W1.heap.size := aV bR1
 refine hK.out _ _ hHeld1 (fun _ => ?_)
 clear hK K
 refine nrm 6 ?_
 have hc9_0 := aA bA1 0
 have hf9_0 := aD bA1 0
 have hc9_1 := aA bA1 1
 have hf9_1 := aD bA1 1
 have hc9_2 := aA bA1 2
 have hf9_2 := aD bA1 2
 refine last_ (i := 9) (N := none) (Steps.Bs 10 1023) rfl rfl z1_ z10_ (fun K hK => ?_)
 refine skip_ (w1 := ?_) z12_ rfl ?_ ?_
 rotate_left
 ·
  go_simp
  rfl
 refine hK.out _ _ ?_
 clear hK K
 obtain ⟨V, hV, hbV, bAV, hkeep⟩ := storeS hb1 z5_ bA1 (.slice B d.1.length c) (.int .i64 d.2.1) (.int .i64 d.2.2)
 rw [← hV]
 have bXV := (hkeep w.heap.size z5_).trans bX1
 have bRV := (hkeep (w.heap.size + 1) z5_).trans bR1
 clear hV hkeep hc9_0 hc9_1 hc9_2 hf9_0 hf9_1 hf9_2 bX1 bR1 bA1 hb1 hHeld1 bX0 bR0 hb0 hHeld0 hl1 hl0
 refine done_ z1_ ?_
 have hA0V := aA bAV
 have hR0V := aA bRV
 have hX10V := aA bXV 10
 have hX12V := aA bXV 12
 have hX13V := aA bXV 13
 have fA0V := aD bAV
 have fR0V := aD bRV
 have fX10V := aD bXV
 by_cases hp : places x.f5 d.1.length = true
 case neg =>
  obtain rfl : (zN, (1 : Int)) = r := by rw [← HZ.out, if_neg (fun e => hp e.1)]
  have HP := mk_ (Bool.eq_false_iff.2 hp)
  clear hp
  go_wp2_with (first | (go_at_call 60; (with_reducible show Calls _ _ #[.slice A5 _ _, _] V _); refine (bQ A5 c5 x.f5 d.1.length V (aN HC5.out hbV) HC5L.out (by have := HL5.out; omega)).mono ?_; rw [HP.out]; rintro e V1 ⟨rfl, hq1⟩; have hbV1 := aG hbV hq1; have bXV1 := aC bXV hq1; have bRV1 := aC bRV hq1; have bAV1 := aC bAV hq1; have hA0V1 := aA bAV1 0; have hA1V1 := aA bAV1 1; have hA2V1 := aA bAV1 2; have hR0V1 := aA bRV1; have hX10V1 := aA bXV1 10; have hX12V1 := aA bXV1 12; have hX13V1 := aA bXV1 13; have fA0V1 := aD bAV1; have fR0V1 := aD bRV1; have fX10V1 := aD bXV1; have hA0V1' := al1 hA0V1))
  all_goals refine bodyPost_ret (aT rfl _ _ _ 66 #[.slice none 0 0, .int .i64 0, .int .i64 0] (0, 0) _ rfl (blkS bRV1 _ _ _) Try.underlying66 rfl z1_) rfl ?_
  all_goals exact Got.zero (aI (aI (aI hbV1 z5_) z5_) z5_)
 have HP := mk_ hp
 by_cases hq : inn x.f8 d.1.length
 case neg =>
  obtain rfl : (zN, (1 : Int)) = r := by rw [← HZ.out, if_neg (fun e => hq e.2)]
  have HQ := mk_ (show places [x.f8] d.1.length = false by unfold places; unfold inn at hq; simp only [List.all_cons, List.all_nil, Bool.and_true]; exact decide_eq_false hq)
  clear hp hq
  go_wp2_with (first | (go_at_call 60; (with_reducible show Calls _ _ #[.slice A5 _ _, _] V _); refine (bQ A5 c5 x.f5 d.1.length V (aN HC5.out hbV) HC5L.out (by have := HL5.out; omega)).mono ?_; rw [HP.out]; rintro e V1 ⟨rfl, hq1⟩; have hbV1 := aG hbV hq1; have bXV1 := aC bXV hq1; have bRV1 := aC bRV hq1; have bAV1 := aC bAV hq1; have hA0V1 := aA bAV1 0; have hA1V1 := aA bAV1 1; have hA2V1 := aA bAV1 2; have hR0V1 := aA bRV1; have hX10V1 := aA bXV1 10; have hX12V1 := aA bXV1 12; have hX13V1 := aA bXV1 13; have fA0V1 := aD bAV1; have fR0V1 := aD bRV1; have fX10V1 := aD bXV1; have hA0V1' := al1 hA0V1) | (go_at_call 60; (with_reducible show Calls _ _ #[.slice (some _) 1 1, _] _ _); refine (bQ (some ⟨V1.heap.size, 0, none⟩) 1 [x.f8] d.1.length _ (eD (cJ V1 _)) (by simp) (by simp)).mono ?_; rw [HQ.out]; rintro e V2 ⟨rfl, hq2'⟩; have hq2 : Below V1.heap.size V1 V2 := eE (aM (Below.refl _ _) _) (by simp) hq2'; have hbV2 := aG hbV1 hq2; have bXV2 := aC bXV1 hq2; have bRV2 := aC bRV1 hq2; have bAV2 := aC bAV1 hq2; have hA0V2 := aA bAV2; have hR0V2 := aA bRV2; have hX10V2 := aA bXV2 10; have hX12V2 := aA bXV2 12; have hX13V2 := aA bXV2 13; have fA0V2 := aD bAV2; have fR0V2 := aD bRV2; have fX10V2 := aD bXV2))
  all_goals refine bodyPost_ret (aT rfl _ _ _ 66 #[.slice none 0 0, .int .i64 0, .int .i64 0] (0, 0) _ rfl (blkS bRV2 _ _ _) Try.underlying66 rfl z1_) rfl ?_
  all_goals exact Got.zero (aI (aI (aI hbV2 z5_) z5_) z5_)
 have HQ := mk_ (show places [x.f8] d.1.length = true by unfold places; unfold inn at hq; simp only [List.all_cons, List.all_nil, Bool.and_true]; exact decide_eq_true hq)
 have HZ2 := mk_ (HZ.out.symm.trans (if_pos ⟨hp, hq⟩))
 obtain ⟨j, hj⟩ := Int.eq_ofNat_of_zero_le hq.1
 have HJ := mk_ (show j < d.1.length by have := hq.2; omega)
 have HJ2 := mk_ hj
 clear hj
 clear HZ hp hq
 by_cases h12 : x.f5.length ≥ 12
 case pos =>
  obtain rfl : (zN, (2 : Int)) = r := by rw [HZ2.out, if_pos h12]
  have hd1 : decide ((12 : Int) ≤ (x.f5.length : Int)) = true := decide_eq_true z5_
  have hd2 : decide (12 ≤ x.f5.length) = true := decide_eq_true h12
  clear h12
  go_wp2_with (first | (go_at_call 60; (with_reducible show Calls _ _ #[.slice A5 _ _, _] V _); refine (bQ A5 c5 x.f5 d.1.length V (aN HC5.out hbV) HC5L.out (by have := HL5.out; omega)).mono ?_; rw [HP.out]; rintro e V1 ⟨rfl, hq1⟩; have hbV1 := aG hbV hq1; have bXV1 := aC bXV hq1; have bRV1 := aC bRV hq1; have bAV1 := aC bAV hq1; have hA0V1 := aA bAV1 0; have hA1V1 := aA bAV1 1; have hA2V1 := aA bAV1 2; have hR0V1 := aA bRV1; have hX10V1 := aA bXV1 10; have hX12V1 := aA bXV1 12; have hX13V1 := aA bXV1 13; have fA0V1 := aD bAV1; have fR0V1 := aD bRV1; have fX10V1 := aD bXV1; have hA0V1' := al1 hA0V1) | (go_at_call 60; (with_reducible show Calls _ _ #[.slice (some _) 1 1, _] _ _); refine (bQ (some ⟨V1.heap.size, 0, none⟩) 1 [x.f8] d.1.length _ (eD (cJ V1 _)) (by simp) (by simp)).mono ?_; rw [HQ.out]; rintro e V2 ⟨rfl, hq2'⟩; have hq2 : Below V1.heap.size V1 V2 := eE (aM (Below.refl _ _) _) (by simp) hq2'; have hbV2 := aG hbV1 hq2; have bXV2 := aC bXV1 hq2; have bRV2 := aC bRV1 hq2; have bAV2 := aC bAV1 hq2; have hA0V2 := aA bAV2; have hR0V2 := aA bRV2; have hX10V2 := aA bXV2 10; have hX12V2 := aA bXV2 12; have hX13V2 := aA bXV2 13; have fA0V2 := aD bAV2; have fR0V2 := aD bRV2; have fX10V2 := aD bXV2))
  all_goals refine bodyPost_ret (aT rfl _ _ _ 66 #[.slice none 0 0, .int .i64 0, .int .i64 0] (0, 0) _ rfl (blkS bRV2 _ _ _) Try.underlying66 rfl z1_) rfl ?_
  all_goals exact Got.zero (aI (aI (aI hbV2 z5_) z5_) z5_)
 have hd1 : decide ((12 : Int) ≤ (x.f5.length : Int)) = false := decide_eq_false z5_
 have hd2 : decide (12 ≤ x.f5.length) = false := decide_eq_false h12
 have HZ3 := mk_ (HZ2.out.trans (if_neg h12))
 clear h12 HZ2
 obtain ⟨adB, hB, htv⟩ := Kd.at_int HC.out (j : Int) z5_ (by have := HJ.out; omega)
 rw [Int.toNat_natCast, ← HJ2.out] at htv
 obtain ⟨tv, htw⟩ : ∃ tv, tv = rd d.1 x.f8 := ⟨_, rfl⟩
 rw [← htw] at htv HZ3
 clear htw
 subst hB
 have hj0 : (0 ≤ (j : Int)) = True := eq_true z5_
 have hj1 : ((j : Int) < (d.1.length : Int)) = True := eq_true (by have := HJ.out; omega)
 have hXj : Aside0 (∀ W : World, W.heap[w.heap.size]? = some (.cells #[.int .i64 x.f0, .int .i64 (k : Int), .int .i64 x.f2, .int .i64 x.f3, .int .i64 x.f4.f0, .int .i64 x.f4.f1, .int .i64 x.f4.f2, .int .i64 x.f4.f3.f0, .int .i64 x.f4.f3.f1, .string x.f4.f3.f2, .slice A5 x.f5.length c5, .slice A6 x.f6.length c6, .int .i64 2, .int .i64 x.f8] 34 (0, 0)) → W.cell? ⟨w.heap.size, 13, none⟩ = some (.int .i64 (j : Int))) := ⟨fun W h => by rw [← HJ2.out]; exact aA h 13⟩
 by_cases ht : tv ≠ 3
 case pos =>
  obtain rfl : (zN, (10 : Int)) = r := by rw [HZ3.out, if_pos ht]
  have hd3 : decide (tv = 3) = false := decide_eq_false ht
  have hd4 : (tv = 3) = False := eq_false ht
  have hd5 : (tv != 3) = true := bne_iff_ne.2 ht
  clear ht
  go_wp2_with (first | (go_at_call 60; (with_reducible show Calls _ _ #[.slice A5 _ _, _] V _); refine (bQ A5 c5 x.f5 d.1.length V (aN HC5.out hbV) HC5L.out (by have := HL5.out; omega)).mono ?_; rw [HP.out]; rintro e V1 ⟨rfl, hq1⟩; have hbV1 := aG hbV hq1; have bXV1 := aC bXV hq1; have bRV1 := aC bRV hq1; have bAV1 := aC bAV hq1; have hA0V1 := aA bAV1 0; have hA1V1 := aA bAV1 1; have hA2V1 := aA bAV1 2; have hR0V1 := aA bRV1; have hX10V1 := aA bXV1 10; have hX12V1 := aA bXV1 12; have hX13V1 := aA bXV1 13; have fA0V1 := aD bAV1; have fR0V1 := aD bRV1; have fX10V1 := aD bXV1; have hA0V1' := al1 hA0V1) | (go_at_call 60; (with_reducible show Calls _ _ #[.slice (some _) 1 1, _] _ _); refine (bQ (some ⟨V1.heap.size, 0, none⟩) 1 [x.f8] d.1.length _ (eD (cJ V1 _)) (by simp) (by simp)).mono ?_; rw [HQ.out]; rintro e V2 ⟨rfl, hq2'⟩; have hq2 : Below V1.heap.size V1 V2 := eE (aM (Below.refl _ _) _) (by simp) hq2'; have hbV2 := aG hbV1 hq2; have bXV2 := aC bXV1 hq2; have bRV2 := aC bRV1 hq2; have bAV2 := aC bAV1 hq2; have hA0V2 := aA bAV2; have hR0V2 := aA bRV2; have hX10V2 := aA bXV2 10; have hX12V2 := aA bXV2 12; have hX13V2 := aA bXV2 13; have fA0V2 := aD bAV2; have fR0V2 := aD bRV2; have fX10V2 := aD bXV2; have hX13j := hXj.out V2 bXV2; clear hX13V2; have htvV2 := aE hbV2 htv))
  all_goals refine bodyPost_ret (aT rfl _ _ _ 66 #[.slice none 0 0, .int .i64 0, .int .i64 0] (0, 0) _ rfl (blkS bRV2 _ _ _) Try.underlying66 rfl z1_) rfl ?_
  all_goals exact Got.zero (aI (aI (aI hbV2 z5_) z5_) z5_)
 obtain rfl : tv = 3 := by omega
 have HZ4 := mk_ (HZ3.out.trans (if_neg ht))
 clear ht HZ3
 go_wp2_with (first | (go_at_call 60; (with_reducible show Calls _ _ #[.slice A5 _ _, _] V _); refine (bQ A5 c5 x.f5 d.1.length V (aN HC5.out hbV) HC5L.out (by have := HL5.out; omega)).mono ?_; rw [HP.out]; rintro e V1 ⟨rfl, hq1⟩; have hbV1 := aG hbV hq1; have bXV1 := aC bXV hq1; have bRV1 := aC bRV hq1; have bAV1 := aC bAV hq1; have hA0V1 := aA bAV1 0; have hA1V1 := aA bAV1 1; have hA2V1 := aA bAV1 2; have hR0V1 := aA bRV1; have hX10V1 := aA bXV1 10; have hX12V1 := aA bXV1 12; have hX13V1 := aA bXV1 13; have fA0V1 := aD bAV1; have fR0V1 := aD bRV1; have fX10V1 := aD bXV1; have hA0V1' := al1 hA0V1) | (go_at_call 60; (with_reducible show Calls _ _ #[.slice (some _) 1 1, _] _ _); refine (bQ (some ⟨V1.heap.size, 0, none⟩) 1 [x.f8] d.1.length _ (eD (cJ V1 _)) (by simp) (by simp)).mono ?_; rw [HQ.out]; rintro e V2 ⟨rfl, hq2'⟩; have hq2 : Below V1.heap.size V1 V2 := eE (aM (Below.refl _ _) _) (by simp) hq2'; have hbV2 := aG hbV1 hq2; have bXV2 := aC bXV1 hq2; have bRV2 := aC bRV1 hq2; have bAV2 := aC bAV1 hq2; have hA0V2 := aA bAV2; have hR0V2 := aA bRV2; have hX10V2 := aA bXV2 10; have hX12V2 := aA bXV2 12; have hX13V2 := aA bXV2 13; have fA0V2 := aD bAV2; have fR0V2 := aD bRV2; have fX10V2 := aD bXV2; have hX13j := hXj.out V2 bXV2; clear hX13V2; have htvV2 := aE hbV2 htv))
 refine cG (n := 5) (S := fun w' => w'.cell? ⟨g6, 2, none⟩ = some (.int .i64 d.2.2) ∧ True) (ds := []) (fun W => Below w.heap.size w W ∧ W.heap[w.heap.size]? = some (.cells #[.int .i64 x.f0, .int .i64 (k : Int), .int .i64 x.f2, .int .i64 x.f3, .int .i64 x.f4.f0, .int .i64 x.f4.f1, .int .i64 x.f4.f2, .int .i64 x.f4.f3.f0, .int .i64 x.f4.f3.f1, .string x.f4.f3.f2, .slice A5 x.f5.length c5, .slice A6 x.f6.length c6, .int .i64 2, .int .i64 x.f8] 34 (0, 0)) ∧ W.heap[w.heap.size + 1]? = some (.cells #[.slice none 0 0, .int .i64 0, .int .i64 0] 66 (0, 0)) ∧ W.heap[g6]? = some (.cells #[.slice (some adB) d.1.length c, .int .i64 d.2.1, .int .i64 d.2.2] 66 (0, 0))) #[false, false, false, false, false] z1_ rfl rfl ⟨bP hbV2, aU bXV2, aU bRV2, aU bAV2⟩ (fun W hJ => ?_) (fun W0 hJ => ?_)
 ·
  obtain ⟨hb0, bX0, bR0, bA0⟩ := hJ
  exact ⟨aA bA0 2, trivial⟩
 obtain ⟨hb0, bX0, bR0, bA0⟩ := hJ
 have hHeld0 : W0.cell? ⟨g6, 2, none⟩ = some (.int .i64 d.2.2) ∧ True := ⟨aA bA0 2, trivial⟩
 have hl0 : w.heap.size + 2 ≤ W0.heap.size := aV bR0
 refine sI 0 78 5 1 ?_
 refine sT hHeld0 1 79 5 3 ?_
 refine sI 2 7 5 7 ?_
 refine sI 3 8 5 15 ?_
 refine sI 4 9 5 31 ?_
 refine done_ z1_ ?_
 have hA00 := aA bA0
 have hR00 := aA bR0
 have hX100 := aA bX0 10
 have hX120 := aA bX0 12
 have hX130 := aA bX0 13
 have fA00 := aD bA0
 have fR00 := aD bR0
 have fX100 := aD bX0
 have hw1 := HO.out.w1
 have hw2 := HO.out.w2
 have hw3 := HO.out.v1
 have hw4 := HO.out.v2
 by_cases hm : d.2.2 * d.2.1 ≤ 1152921504606846976
 case neg =>
  obtain rfl : (zN, (11 : Int)) = r := by rw [HZ4.out, if_neg hm]
  have HM := mk_ (show plan_times.f d.2.2 d.2.1 1152921504606846976 = some (0, false) by rw [gK _ _ _ z5_ z5_ z5_ z5_ z5_ z5_, if_neg hm])
  clear hm hw1 hw2 hw3 hw4
  go_wp2_with (go_at_call 63; refine (PAll.plan_times.calls d.2.2 d.2.1 1152921504606846976 0 false _ HM.out).mono ?_; rintro e w' ⟨rfl, ⟨nd, rfl⟩⟩)
  refine bodyPost_ret (aT rfl _ _ _ 66 #[.slice none 0 0, .int .i64 0, .int .i64 0] (0, 0) _ rfl (blkS (aX bR0 _) _ _ _) Try.underlying66 rfl z1_) rfl ?_
  exact Got.zero (aI (aI (aI (aZ hb0 _) z5_) z5_) z5_)
 obtain rfl : ((pick d.1 x.f5 ++ [3], d.2.1, max d.2.2 (d.2.2 * d.2.1)), (0 : Int)) = r := by rw [HZ4.out, if_pos hm]
 have HM := mk_ (show plan_times.f d.2.2 d.2.1 1152921504606846976 = some (d.2.2 * d.2.1, true) by rw [gK _ _ _ z5_ z5_ z5_ z5_ z5_ z5_, if_pos hm])
 generalize d.2.2 * d.2.1 = pr at *
 have hd3 : decide ((1152921504606846976 : Int) < pr) = false := decide_eq_false z5_
 have hd4 : ((1152921504606846976 : Int) < pr) = False := eq_false z5_
 clear hm hw1 hw2 hw3 hw4
 go_wp2_with (go_at_call 63; refine (PAll.plan_times.calls d.2.2 d.2.1 1152921504606846976 pr true _ HM.out).mono ?_; rintro e w' ⟨rfl, ⟨nd, rfl⟩⟩)
 refine cG (n := 17) (S := fun w' => w'.cell? ⟨g6, 0, none⟩ = some (.slice (some adB) d.1.length c) ∧ w'.cell? ⟨g6, 1, none⟩ = some (.int .i64 d.2.1) ∧ w'.cell? ⟨g6, 2, none⟩ = some (.int .i64 d.2.2) ∧ w'.cell? ⟨w.heap.size, 10, none⟩ = some (.slice A5 x.f5.length c5) ∧ True) (ds := [15]) (fun W => Below w.heap.size w W ∧ W.heap[w.heap.size]? = some (.cells #[.int .i64 x.f0, .int .i64 (k : Int), .int .i64 x.f2, .int .i64 x.f3, .int .i64 x.f4.f0, .int .i64 x.f4.f1, .int .i64 x.f4.f2, .int .i64 x.f4.f3.f0, .int .i64 x.f4.f3.f1, .string x.f4.f3.f2, .slice A5 x.f5.length c5, .slice A6 x.f6.length c6, .int .i64 2, .int .i64 x.f8] 34 (0, 0)) ∧ W.heap[w.heap.size + 1]? = some (.cells #[.slice none 0 0, .int .i64 0, .int .i64 0] 66 (0, 0)) ∧ W.heap[g6]? = some (.cells #[.slice (some adB) d.1.length c, .int .i64 d.2.1, .int .i64 d.2.2] 66 (0, 0))) (Steps.Bs 17 0) z1_ rfl rfl ⟨bP (aZ hb0 nd), aU (aX bX0 nd), aU (aX bR0 nd), aU (aX bA0 nd)⟩ (fun W hJ => ?_) (fun W0 hJ => ?_)
 ·
  obtain ⟨hb0, bX0, bR0, bA0⟩ := hJ
  exact ⟨aA bA0 0, aA bA0 1, aA bA0 2, aA bX0 10, trivial⟩
 obtain ⟨hb0, bX0, bR0, bA0⟩ := hJ
 have hHeld0 : W0.cell? ⟨g6, 0, none⟩ = some (.slice (some adB) d.1.length c) ∧ W0.cell? ⟨g6, 1, none⟩ = some (.int .i64 d.2.1) ∧ W0.cell? ⟨g6, 2, none⟩ = some (.int .i64 d.2.2) ∧ W0.cell? ⟨w.heap.size, 10, none⟩ = some (.slice A5 x.f5.length c5) ∧ True := ⟨aA bA0 0, aA bA0 1, aA bA0 2, aA bX0 10, trivial⟩
 have hl0 : w.heap.size + 2 ≤ W0.heap.size := aV bR0
 refine sI 0 112 17 1 ?_
 refine sT hHeld0 1 113 17 3 ?_
 refine sI 2 114 17 7 ?_
 refine sT hHeld0 3 115 17 15 ?_
 refine sI 5 117 17 47 ?_
 refine sI 8 120 17 303 ?_
 refine sT hHeld0 9 121 17 815 ?_
 refine sI 10 122 17 1839 ?_
 refine sT hHeld0 11 123 17 3887 ?_
 refine sI 12 124 17 7983 ?_
 refine sI 13 125 17 16175 ?_
 refine join_ (σ := Value × Nat) 4 (Steps.Bs 17 16255) (fun s_ => [(116, s_.1), (118, .slice (some ⟨s_.2, 0, none⟩) 1 1)]) (fun s_ w' => Below w.heap.size w w' ∧ w'.heap[w.heap.size]? = some (.cells #[.int .i64 x.f0, .int .i64 (k : Int), .int .i64 x.f2, .int .i64 x.f3, .int .i64 x.f4.f0, .int .i64 x.f4.f1, .int .i64 x.f4.f2, .int .i64 x.f4.f3.f0, .int .i64 x.f4.f3.f1, .string x.f4.f3.f2, .slice A5 x.f5.length c5, .slice A6 x.f6.length c6, .int .i64 2, .int .i64 x.f8] 34 (0, 0)) ∧ w'.heap[w.heap.size + 1]? = some (.cells #[.slice none 0 0, .int .i64 0, .int .i64 0] 66 (0, 0)) ∧ w'.heap[g6]? = some (.cells #[.slice (some adB) d.1.length c, .int .i64 d.2.1, .int .i64 d.2.2] 66 (0, 0)) ∧ (Kd.int .i64).R 3 w' w.heap.size (fun k_ => w.heap.size + 2 ≤ k_ ∧ k_ ≠ g6) s_.1 (pick d.1 x.f5) ∧ w'.heap[s_.2]? = some (Obj.cells #[.int .i64 3] 3 (0, 0))) ?_ ?_
 rotate_left
 ·
  intro hCont
  refine two_ (i := 4) (j := 6) (Ni := some 116) (Nj := some 118) (Steps.Bs 17 16191) (Steps.Bs 17 16239) rfl rfl rfl rfl z1_ z10_ z10_ (fun K hK => ?_) (fun K hK => ?_)
  ·
   refine goes_ Try.func61 z1_ rfl #[.slice (some adB) d.1.length c, .slice A5 x.f5.length c5] z12_ rfl rfl z8_ ?_
   refine (PAll.plan_pick.calls (x.f5.length + 1) (some adB) c d.1 A5 c5 x.f5 (pick d.1 x.f5) _ (aN HC.out hb0) HCC.out (aN HC5.out hb0) HC5L.out (eY _ d.1 x.f5 (by have := HL12.out; omega) (by have := HL5.out; omega) HP.out z5_)).mono ?_
   rintro e W1 ⟨u, rfl, hru, hq⟩
   refine ⟨_, rfl, ?_⟩
   have hru' : (Kd.int .i64).R 3 W1 w.heap.size (fun k_ => w.heap.size + 2 ≤ k_ ∧ k_ ≠ g6) u (pick d.1 x.f5) := bT (R_mono (cF hru) (fun k hk => ⟨by have := hk.2.1; omega, by have := hk.2.1; have := aV bA0; omega⟩)) z5_
   clear hru
   have hb1 := aG hb0 hq
   have bX1 := aC bX0 hq
   have bR1 := aC bR0 hq
   have bA1 := aC bA0 hq
   have hHeld1 : W1.cell? ⟨g6, 0, none⟩ = some (.slice (some adB) d.1.length c) ∧ W1.cell? ⟨g6, 1, none⟩ = some (.int .i64 d.2.1) ∧ W1.cell? ⟨g6, 2, none⟩ = some (.int .i64 d.2.2) ∧ W1.cell? ⟨w.heap.size, 10, none⟩ = some (.slice A5 x.f5.length c5) ∧ True := ⟨aA bA1 0, aA bA1 1, aA bA1 2, aA bX1 10, trivial⟩
   have hl1 : w.heap.size + 2 ≤ W1.heap.size := aV bR1
   refine hK.out _ _ hHeld1 (fun _ => ?_)
   clear hK K
   refine nrm 116 ?_
   clear hq
   refine one_ (i := 6) (N := some 118) (Steps.Bs 17 16255) rfl rfl z1_ z10_ (fun K hK => ?_)
   refine fC (w1 := ?_) (v := ?_) z12_ rfl ?_ ?_
   rotate_left 2
   ·
    go_simp
    constructor
    ·
     rfl
    ·
     rfl
   obtain ⟨W2, hW1⟩ : ∃ V_ : World, V_ = W1.alloc (.cells #[.int .i64 3] 3) := ⟨_, rfl⟩
   rw [← hW1]
   have hq : Below W1.heap.size W1 W2 := by rw [hW1]; exact aM (Below.refl _ _) _
   have hG : W2.heap[W1.heap.size]? = some (Obj.cells #[.int .i64 3] 3 (0, 0)) := by rw [hW1]; exact cJ _ _
   clear hW1
   have hb2 := aG hb1 hq
   have bX2 := aC bX1 hq
   have bR2 := aC bR1 hq
   have bA2 := aC bA1 hq
   have hHeld2 : W2.cell? ⟨g6, 0, none⟩ = some (.slice (some adB) d.1.length c) ∧ W2.cell? ⟨g6, 1, none⟩ = some (.int .i64 d.2.1) ∧ W2.cell? ⟨g6, 2, none⟩ = some (.int .i64 d.2.2) ∧ W2.cell? ⟨w.heap.size, 10, none⟩ = some (.slice A5 x.f5.length c5) ∧ True := ⟨aA bA2 0, aA bA2 1, aA bA2 2, aA bX2 10, trivial⟩
   have hl2 : w.heap.size + 2 ≤ W2.heap.size := aV bR2
   refine hK.out _ _ hHeld2 (fun _ => ?_)
   clear hK K
   exact hCont (u, W1.heap.size) W2 ⟨hb2, bX2, bR2, bA2, bG hru' hq, hG⟩
  ·
   refine fC (w1 := ?_) (v := ?_) z12_ rfl ?_ ?_
   rotate_left 2
   ·
    go_simp
    constructor
    ·
     rfl
    ·
     rfl
   obtain ⟨W1, hW1⟩ : ∃ V_ : World, V_ = W0.alloc (.cells #[.int .i64 3] 3) := ⟨_, rfl⟩
   rw [← hW1]
   have hq : Below W0.heap.size W0 W1 := by rw [hW1]; exact aM (Below.refl _ _) _
   have hG : W1.heap[W0.heap.size]? = some (Obj.cells #[.int .i64 3] 3 (0, 0)) := by rw [hW1]; exact cJ _ _
   clear hW1
   have hb1 := aG hb0 hq
   have bX1 := aC bX0 hq
   have bR1 := aC bR0 hq
   have bA1 := aC bA0 hq
   have hHeld1 : W1.cell? ⟨g6, 0, none⟩ = some (.slice (some adB) d.1.length c) ∧ W1.cell? ⟨g6, 1, none⟩ = some (.int .i64 d.2.1) ∧ W1.cell? ⟨g6, 2, none⟩ = some (.int .i64 d.2.2) ∧ W1.cell? ⟨w.heap.size, 10, none⟩ = some (.slice A5 x.f5.length c5) ∧ True := ⟨aA bA1 0, aA bA1 1, aA bA1 2, aA bX1 10, trivial⟩
   have hl1 : w.heap.size + 2 ≤ W1.heap.size := aV bR1
   refine hK.out _ _ hHeld1 (fun _ => ?_)
   clear hK K
   refine nrm 118 ?_
   clear hq
   refine one_ (i := 4) (N := some 116) (Steps.Bs 17 16255) rfl rfl z1_ z10_ (fun K hK => ?_)
   refine goes_ Try.func61 z1_ rfl #[.slice (some adB) d.1.length c, .slice A5 x.f5.length c5] z12_ rfl rfl z8_ ?_
   refine (PAll.plan_pick.calls (x.f5.length + 1) (some adB) c d.1 A5 c5 x.f5 (pick d.1 x.f5) _ (aN HC.out hb1) HCC.out (aN HC5.out hb1) HC5L.out (eY _ d.1 x.f5 (by have := HL12.out; omega) (by have := HL5.out; omega) HP.out z5_)).mono ?_
   rintro e W2 ⟨u, rfl, hru, hq⟩
   refine ⟨_, rfl, ?_⟩
   have hru' : (Kd.int .i64).R 3 W2 w.heap.size (fun k_ => w.heap.size + 2 ≤ k_ ∧ k_ ≠ g6) u (pick d.1 x.f5) := bT (R_mono (cF hru) (fun k hk => ⟨by have := hk.2.1; omega, by have := hk.2.1; have := aV bA1; omega⟩)) z5_
   clear hru
   have hG2 := aC hG hq
   have hb2 := aG hb1 hq
   have bX2 := aC bX1 hq
   have bR2 := aC bR1 hq
   have bA2 := aC bA1 hq
   have hHeld2 : W2.cell? ⟨g6, 0, none⟩ = some (.slice (some adB) d.1.length c) ∧ W2.cell? ⟨g6, 1, none⟩ = some (.int .i64 d.2.1) ∧ W2.cell? ⟨g6, 2, none⟩ = some (.int .i64 d.2.2) ∧ W2.cell? ⟨w.heap.size, 10, none⟩ = some (.slice A5 x.f5.length c5) ∧ True := ⟨aA bA2 0, aA bA2 1, aA bA2 2, aA bX2 10, trivial⟩
   have hl2 : w.heap.size + 2 ≤ W2.heap.size := aV bR2
   refine hK.out _ _ hHeld2 (fun _ => ?_)
   clear hK K
   exact hCont (u, W0.heap.size) W2 ⟨hb2, bX2, bR2, bA2, hru', hG2⟩
 rintro ⟨u, G⟩ W1 ⟨hb1, bX1, bR1, bA1, hru, hG⟩
 replace bA1 : W1.heap[g6]? = some (.cells #[.slice (some adB) d.1.length c, .int .i64 d.2.1, .int .i64 d.2.2] 66 (0, 0)) := bA1
 replace hru : (Kd.int .i64).R 3 W1 w.heap.size (fun k_ => w.heap.size + 2 ≤ k_ ∧ k_ ≠ g6) u (pick d.1 x.f5) := hru
 replace hG : W1.heap[G]? = some (Obj.cells #[.int .i64 3] 3 (0, 0)) := hG
 refine norm_ (a' := ?_) ?_ ?_
 rotate_left
 ·
  simp only [putAll, Act.put, List.setIfInBounds_toArray, List.set_cons_zero, List.set_cons_succ]
  rfl
 have hHeld1 : W1.cell? ⟨g6, 0, none⟩ = some (.slice (some adB) d.1.length c) ∧ W1.cell? ⟨g6, 1, none⟩ = some (.int .i64 d.2.1) ∧ W1.cell? ⟨g6, 2, none⟩ = some (.int .i64 d.2.2) ∧ W1.cell? ⟨w.heap.size, 10, none⟩ = some (.slice A5 x.f5.length c5) ∧ True := ⟨aA bA1 0, aA bA1 1, aA bA1 2, aA bX1 10, trivial⟩
 have hl1 : w.heap.size + 2 ≤ W1.heap.size := aV bR1
 obtain ⟨A7, c7, rfl⟩ := bE hru
 refine one_ (i := 7) (N := (some 119)) (Steps.Bs 17 16383) rfl rfl z1_ z10_ (fun K hK => ?_)
 refine cU (Kd.int .i64) (w0 := w) w.heap.size z12_ (.tmp 116) (.tmp 118) 32 3 (.int .i64 0) 8 rfl Try.underlying32 PAll.info3 rfl z10_ z5_ (.slice A7 (pick d.1 x.f5).length c7) (pick d.1 x.f5) [3] (some ⟨G, 0, none⟩) 1 1 (fun k_ => w.heap.size + 2 ≤ k_ ∧ k_ ≠ g6) (fun _ => False) rfl rfl hru (eD hG) (fun _ _ h => h) (fun _ h => h.elim) (fun k hk => ⟨by omega, by have := aV bA1; omega⟩) hb1 hb1.size (by rw [dF]; have := HL5.out; omega) ?_
 intro v2 W2 hr2 hb2 hg2 _
 obtain ⟨A9, c9, rfl⟩ := bE hr2
 rw [List.length_append, List.length_singleton] at hr2
 have bX2 : W2.heap[w.heap.size]? = _ := (hg2.block _ (aV bX1) (fun e => by have := hru.1 _ e.symm; have := hg6; omega)).trans bX1
 have bR2 : W2.heap[w.heap.size + 1]? = _ := (hg2.block _ (aV bR1) (fun e => by have := hru.1 _ e.symm; have := hg6; omega)).trans bR1
 have bA2 : W2.heap[g6]? = _ := (hg2.block _ (aV bA1) (fun e => by have := hru.1 _ e.symm; have := hg6; omega)).trans bA1
 have hHeld2 : W2.cell? ⟨g6, 0, none⟩ = some (.slice (some adB) d.1.length c) ∧ W2.cell? ⟨g6, 1, none⟩ = some (.int .i64 d.2.1) ∧ W2.cell? ⟨g6, 2, none⟩ = some (.int .i64 d.2.2) ∧ W2.cell? ⟨w.heap.size, 10, none⟩ = some (.slice A5 x.f5.length c5) ∧ True := ⟨aA bA2 0, aA bA2 1, aA bA2 2, aA bX2 10, trivial⟩
 have hl2 : w.heap.size + 2 ≤ W2.heap.size := aV bR2
 refine hK.out _ _ hHeld2 (fun _ => ?_)
 clear hK K
 refine nrm 119 ?_
 refine sI 14 126 17 32767 ?_
 have hc15_0 := aA bR2
 have hf15_0 := aD bR2
 refine last_ (i := 15) (N := none) (Steps.Bs 17 65535) rfl rfl z1_ z10_ (fun K hK => ?_)
 refine skip_ (w1 := ?_) z12_ rfl ?_ ?_
 rotate_left
 ·
  go_simp
  rfl
 refine hK.out _ _ ?_
 clear hK K
 refine sI 16 5 17 131071 ?_
 refine done_ z1_ ?_
 go_wp2
 refine bodyPost_ret (aT rfl _ _ _ 66 #[.slice A9 ((pick d.1 x.f5).length + 1) c9, .int .i64 d.2.1, .int .i64 (max d.2.2 pr)] (0, 0) _ rfl (blkS bR2 _ _ _) Try.underlying66 rfl z1_) rfl ?_
 exact Got.stored (d := (pick d.1 x.f5 ++ [3], d.2.1, max d.2.2 pr)) HW.out.le rfl (R_mono hr2 (fun k hk => hk.1)) hb2 _ _ _
end
end Go.Proofs.Ytimbbaoodjhdoaa.Plan
end
