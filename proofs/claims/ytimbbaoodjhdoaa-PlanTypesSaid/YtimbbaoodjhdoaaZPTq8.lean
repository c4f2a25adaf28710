-- Put together by a program of this session (wip/slice2.py) out of the seat's texts.
import Derived.Test.YtimbbaoodjhdoaaZPTp6
import Derived.Test.YtimbbaoodjhdoaaZPTq6

set_option maxHeartbeats 8000000
set_option maxRecDepth 100000
open Go.Proofs.YtimbbaoodjhdoaaW Go.Proofs.Ytimbbaoodjhdoaa
section
namespace Go.Proofs.Ytimbbaoodjhdoaa.Plan
open Go.RowKit PAll Plain PrintWords PrintLast PrintMore ZipT PrintWords.Kd PrintMore.Kd
set_option linter.unusedVariables false
set_option linter.unusedSimpArgs false
section
variable {w : World} {A1 A2 : Option Addr} {c1 c2 : Nat} {f : List Tb} {ds : List Bo} {x : No} {A5 A6 : Option Addr} {c5 c6 : Nat}
theorem node4 (hC1 : Kd.C k54 w A1 f.length f) (hl1 : f.length ≤ c1) (hf : FOk f) (hC2 : Kd.C k49 w A2 ds.length ds) (hl2 : ds.length ≤ c2) (hl : ds.length ≤ 1000) (hds : ∀ d ∈ rows ds, NdOk d) (hC5 : Kd.C (Kd.int .i64) w A5 x.f5.length x.f5) (hC5L : x.f5.length ≤ c5) (hL5 : x.f5.length ≤ 1000) (hC6 : Kd.C (Kd.int .i64) w A6 x.f6.length x.f6) (hC6L : x.f6.length ≤ c6) (hL6 : x.f6.length ≤ 1000) :
  Calls Try.prog 27 #[.agg #[.int .i64 4, .int .i64 x.f1, .int .i64 x.f2, .int .i64 x.f3, .int .i64 x.f4.f0, .int .i64 x.f4.f1, .int .i64 x.f4.f2, .int .i64 x.f4.f3.f0, .int .i64 x.f4.f3.f1, .string x.f4.f3.f2, .slice A5 x.f5.length c5, .slice A6 x.f6.length c6, .int .i64 x.f7, .int .i64 x.f8], .slice A1 f.length c1, .slice A2 ds.length c2] w (GotB w (joinN (rows ds) x)) := by
 have HC1 := mk_ hC1
 have HC2 := mk_ hC2
 have HC5 := mk_ hC5
 have HC5L := mk_ hC5L
 have HL5 := mk_ hL5
 have HC6 := mk_ hC6
 have HC6L := mk_ hC6L
 have HL6 := mk_ hL6
 have hsub : IntKind.i64.wrap ((ds.length : Int) - 1) = (ds.length : Int) - 1 := IntWalk.i64_in _ z5_
 have HI0 := mk_ (show raddleref14_in.f 4 1 8 = some true from bL 4 1 8)
 unfold joinN
 by_cases ha : ahead (rows ds) x.f1 = true
 case neg =>
  rw [if_neg (fun e => ha e.1)]
  have HIA := mk_ (show raddleref14_in.f x.f1 0 ((ds.length : Int) - 1) = some false from by rw [bL, decide_eq_false]; unfold ahead at ha; rw [cP] at ha; intro e; exact ha (decide_eq_true z5_))
  clear ha hC1 hC2 hC5 hC5L hL5 hC6 hC6L hL6
  go_enter Try.func27, Try.ntmps27
  go_wp2_with (first | (go_at_call 26; (with_reducible show Calls _ _ #[.int .i64 4, .int .i64 1, .int .i64 8] _ _); refine (PAll.raddleref14_in.calls 4 1 8 true _ HI0.out).mono ?_; rintro e w' ⟨rfl, ⟨m0, rfl⟩⟩) | (go_at_call 26; (with_reducible show Calls _ _ #[.int .i64 x.f1, .int .i64 0, _] _ _); refine (PAll.raddleref14_in.calls x.f1 0 ((ds.length : Int) - 1) false _ HIA.out).mono ?_; rintro e w' ⟨rfl, ⟨m1, rfl⟩⟩))
  refine bodyPost_ret (aT rfl _ _ _ 49 #[.slice none 0 0, .int .i64 0, .int .i64 0] (0, 0) _ rfl (blkS (x := .slice none 0 0) (y := .int .i64 0) (z := .int .i64 0) z2_ _ _ _) Try.underlying49 rfl z1_) rfl ?_
  exact GotB.zero z0_
 by_cases ha2 : ahead (rows ds) x.f2 = true
 case neg =>
  rw [if_neg (fun e => ha2 e.2)]
  have HIA := mk_ (show raddleref14_in.f x.f1 0 ((ds.length : Int) - 1) = some true from by rw [bL, decide_eq_true]; have := of_decide_eq_true ha; rw [cP] at this; omega)
  have HIA2 := mk_ (show raddleref14_in.f x.f2 0 ((ds.length : Int) - 1) = some false from by rw [bL, decide_eq_false]; unfold ahead at ha2; rw [cP] at ha2; intro e; exact ha2 (decide_eq_true z5_))
  clear ha ha2 hC1 hC2 hC5 hC5L hL5 hC6 hC6L hL6
  go_enter Try.func27, Try.ntmps27
  go_wp2_with (first | (go_at_call 26; (with_reducible show Calls _ _ #[.int .i64 4, .int .i64 1, .int .i64 8] _ _); refine (PAll.raddleref14_in.calls 4 1 8 true _ HI0.out).mono ?_; rintro e w' ⟨rfl, ⟨m0, rfl⟩⟩) | (go_at_call 26; (with_reducible show Calls _ _ #[.int .i64 x.f1, .int .i64 0, _] _ _); refine (PAll.raddleref14_in.calls x.f1 0 ((ds.length : Int) - 1) true _ HIA.out).mono ?_; rintro e w' ⟨rfl, ⟨m1, rfl⟩⟩) | (go_at_call 26; (with_reducible show Calls _ _ #[.int .i64 x.f2, .int .i64 0, _] _ _); refine (PAll.raddleref14_in.calls x.f2 0 ((ds.length : Int) - 1) false _ HIA2.out).mono ?_; rintro e w' ⟨rfl, ⟨m3, rfl⟩⟩))
  refine bodyPost_ret (aT rfl _ _ _ 49 #[.slice none 0 0, .int .i64 0, .int .i64 0] (0, 0) _ rfl (blkS (x := .slice none 0 0) (y := .int .i64 0) (z := .int .i64 0) z2_ _ _ _) Try.underlying49 rfl z1_) rfl ?_
  exact GotB.zero z0_
 rw [if_pos ⟨ha, ha2⟩]
 obtain ⟨k, hk⟩ := Int.eq_ofNat_of_zero_le (of_decide_eq_true ha).1
 rw [hk] at ha ⊢
 obtain ⟨hk0, hk1⟩ : 0 ≤ (k : Int) ∧ (k : Int) < (ds.length : Int) := by have := of_decide_eq_true ha; rw [cP] at this; exact this
 obtain ⟨ad, B, c, hA2, h0, h1, h2, hlc, hCB⟩ := eI hC2 (k : Int) hk0 hk1
 rw [cV ds k z5_]
 have hdok : NdOk (toNd (aQ ds (k : Int))) := by rw [← cV ds k z5_]; exact cY hds ha
 have HIA := mk_ (show raddleref14_in.f (k : Int) 0 ((ds.length : Int) - 1) = some true from by rw [bL, decide_eq_true]; omega)
 obtain ⟨k2, hk2⟩ := Int.eq_ofNat_of_zero_le (of_decide_eq_true ha2).1
 rw [hk2] at ha2 ⊢
 obtain ⟨hk20, hk21⟩ : 0 ≤ (k2 : Int) ∧ (k2 : Int) < (ds.length : Int) := by have := of_decide_eq_true ha2; rw [cP] at this; exact this
 obtain ⟨ad2, B2, c2', hA2', h3, h4, h5, hlc2, hCB2⟩ := eI hC2 (k2 : Int) hk20 hk21
 rw [cV ds k2 z5_]
 have hdok2 : NdOk (toNd (aQ ds (k2 : Int))) := by rw [← cV ds k2 z5_]; exact cY hds ha2
 have HIA2 := mk_ (show raddleref14_in.f (k2 : Int) 0 ((ds.length : Int) - 1) = some true from by rw [bL, decide_eq_true]; omega)
 obtain rfl : ad = ad2 := by rw [hA2] at hA2'; exact Option.some.inj hA2'
 clear hA2'
 simp only [Int.toNat_natCast] at h3 h4 h5
 have HCB2 := mk_ hCB2
 have HLC2 := mk_ hlc2
 have HDO2 := mk_ hdok2
 have hb4 : (0 ≤ (k2 : Int)) = True := eq_true hk20
 have hb5 : ((k2 : Int) < (ds.length : Int)) = True := eq_true hk21
 generalize aQ ds (k2 : Int) = d2 at *
 subst hA2
 simp only [Int.toNat_natCast] at h0 h1 h2
 have HCB := mk_ hCB
 have HLC := mk_ hlc
 have HDO := mk_ hdok
 have hb2 : (0 ≤ (k : Int)) = True := eq_true hk0
 have hb3 : ((k : Int) < (ds.length : Int)) = True := eq_true hk1
 have h0p := al3 h0
 have h0q := al4 h0
 have h1p := al3 h1
 have h1q := al4 h1
 have h2p := al3 h2
 have h2q := al4 h2
 have h3p := al3 h3
 have h3q := al4 h3
 have h4p := al3 h4
 have h4q := al4 h4
 have h5p := al3 h5
 have h5q := al4 h5
 clear hC1 hC2 hC5 hC5L hL5 hC6 hC6L hL6 hk0 hk1 ha hk hCB hlc hdok hk20 hk21 ha2 hk2 hCB2 hlc2 hdok2
 generalize aQ ds (k : Int) = d at *
 generalize hz : (if places x.f5 (toNd d).1.length = true ∧ places x.f6 (toNd d2).1.length = true then (if x.f5.length ≠ x.f6.length ∨ (toNd d).1.length + (toNd d2).1.length > 12 then (zN, (2 : Int)) else if pick (toNd d).1 x.f5 = pick (toNd d2).1 x.f6 then (if (toNd d).2.1 * (toNd d2).2.1 ≤ 1125899906842624 then (((toNd d).1 ++ (toNd d2).1, (toNd d).2.1 * (toNd d2).2.1, max (toNd d).2.2 (toNd d2).2.2), 0) else (zN, 11)) else (zN, 10)) else (zN, 1)) = r
 replace hz : (if places x.f5 d.f0.length = true ∧ places x.f6 d2.f0.length = true then (if x.f5.length ≠ x.f6.length ∨ d.f0.length + d2.f0.length > 12 then (zN, (2 : Int)) else if pick d.f0 x.f5 = pick d2.f0 x.f6 then (if d.f1 * d2.f1 ≤ 1125899906842624 then ((d.f0 ++ d2.f0, d.f1 * d2.f1, max d.f2 d2.f2), 0) else (zN, 11)) else (zN, 10)) else (zN, 1)) = r := hz
 have HZ := mk_ hz
 clear hz
 have hl12 : d.f0.length ≤ 12 := HDO.out.len
 have hl122 : d2.f0.length ≤ 12 := HDO2.out.len
 have HPA := mk_ (eT (x.f5.length + 1) d.f0 x.f5 z5_ (by have := HL5.out; omega) z5_)
 have HPB := mk_ (eT (x.f6.length + 1) d2.f0 x.f6 z5_ (by have := HL6.out; omega) z5_)
 go_enter Try.func27, Try.ntmps27
 go_wp2_with (first | (go_at_call 26; (with_reducible show Calls _ _ #[.int .i64 4, .int .i64 1, .int .i64 8] _ _); refine (PAll.raddleref14_in.calls 4 1 8 true _ HI0.out).mono ?_; rintro e w' ⟨rfl, ⟨m0, rfl⟩⟩) | (go_at_call 26; (with_reducible show Calls _ _ #[.int .i64 (k : Int), .int .i64 0, _] _ _); refine (PAll.raddleref14_in.calls (k : Int) 0 ((ds.length : Int) - 1) true _ HIA.out).mono ?_; rintro e w' ⟨rfl, ⟨m1, rfl⟩⟩) | (go_at_call 26; (with_reducible show Calls _ _ #[.int .i64 (k2 : Int), .int .i64 0, _] _ _); refine (PAll.raddleref14_in.calls (k2 : Int) 0 ((ds.length : Int) - 1) true _ HIA2.out).mono ?_; rintro e w' ⟨rfl, ⟨m3, rfl⟩⟩))
 refine cG (n := 10) (S := fun w' => w'.cell? ⟨w.heap.size + 1 + 1 + 1, 0, none⟩ = some (.slice B d.f0.length c) ∧ w'.cell? ⟨w.heap.size + 1 + 1 + 1, 1, none⟩ = some (.int .i64 d.f1) ∧ w'.cell? ⟨w.heap.size + 1 + 1 + 1, 2, none⟩ = some (.int .i64 d.f2) ∧ True) (ds := [9]) (fun W => Below w.heap.size w W ∧ W.heap[w.heap.size]? = some (.cells #[.int .i64 4, .int .i64 (k : Int), .int .i64 (k2 : Int), .int .i64 x.f3, .int .i64 x.f4.f0, .int .i64 x.f4.f1, .int .i64 x.f4.f2, .int .i64 x.f4.f3.f0, .int .i64 x.f4.f3.f1, .string x.f4.f3.f2, .slice A5 x.f5.length c5, .slice A6 x.f6.length c6, .int .i64 x.f7, .int .i64 x.f8] 34 (0, 0)) ∧ W.heap[w.heap.size + 1]? = some (.cells #[.slice none 0 0, .int .i64 0, .int .i64 0] 49 (0, 0)) ∧ W.heap[w.heap.size + 1 + 1]? = some (.cells #[.slice none 0 0, .int .i64 0, .int .i64 0] 49 (0, 0)) ∧ W.heap[w.heap.size + 1 + 1 + 1]? = some (.cells #[.slice B d.f0.length c, .int .i64 d.f1, .int .i64 d.f2] 49 (0, 0))) (Steps.Bs 10 0) z1_ rfl rfl ⟨z0_, z2_, z2_, z2_, z2_⟩ (fun W hJ => ?_) (fun W0 hJ => ?_)
 ·
  obtain ⟨hb0, bX0, bR0, bN0, bA0⟩ := hJ
  exact ⟨aA bA0 0, aA bA0 1, aA bA0 2, trivial⟩
 obtain ⟨hb0, bX0, bR0, bN0, bA0⟩ := hJ
 have hHeld0 : W0.cell? ⟨w.heap.size + 1 + 1 + 1, 0, none⟩ = some (.slice B d.f0.length c) ∧ W0.cell? ⟨w.heap.size + 1 + 1 + 1, 1, none⟩ = some (.int .i64 d.f1) ∧ W0.cell? ⟨w.heap.size + 1 + 1 + 1, 2, none⟩ = some (.int .i64 d.f2) ∧ True := ⟨aA bA0 0, aA bA0 1, aA bA0 2, trivial⟩
 have hl0 : w.heap.size + 4 ≤ W0.heap.size := aV bA0
 refine sI 0 86 10 1 ?_
 refine sT hHeld0 1 87 10 3 ?_
 refine sI 3 89 10 11 ?_
 refine sT hHeld0 4 90 10 27 ?_
 refine sI 5 91 10 59 ?_
 refine sT hHeld0 6 92 10 123 ?_
 refine join_ (σ := Option Addr × Nat × Nat) 1 (Steps.Bs 10 511) (fun s_ => [(88, .slice s_.1 d.f0.length s_.2.1), (11, .pointer (some ⟨s_.2.2, 0, none⟩)), (93, .agg #[.slice s_.1 d.f0.length s_.2.1, .int .i64 d.f1, .int .i64 d.f2])]) (fun s_ w' => Below w.heap.size w w' ∧ w'.heap[w.heap.size]? = some (.cells #[.int .i64 4, .int .i64 (k : Int), .int .i64 (k2 : Int), .int .i64 x.f3, .int .i64 x.f4.f0, .int .i64 x.f4.f1, .int .i64 x.f4.f2, .int .i64 x.f4.f3.f0, .int .i64 x.f4.f3.f1, .string x.f4.f3.f2, .slice A5 x.f5.length c5, .slice A6 x.f6.length c6, .int .i64 x.f7, .int .i64 x.f8] 34 (0, 0)) ∧ w'.heap[w.heap.size + 1]? = some (.cells #[.slice none 0 0, .int .i64 0, .int .i64 0] 49 (0, 0)) ∧ w'.heap[w.heap.size + 1 + 1]? = some (.cells #[.slice none 0 0, .int .i64 0, .int .i64 0] 49 (0, 0)) ∧ w'.heap[w.heap.size + 1 + 1 + 1]? = some (.cells #[.slice B d.f0.length c, .int .i64 d.f1, .int .i64 d.f2] 49 (0, 0)) ∧ (Kd.int .i64).R 3 w' w.heap.size (fun k_ => w.heap.size + 4 ≤ k_ ∧ k_ ≠ s_.2.2) (.slice s_.1 d.f0.length s_.2.1) d.f0 ∧ w'.heap[s_.2.2]? = some (.cells #[.slice none 0 0, .int .i64 0, .int .i64 0] 49 (0, 0)) ∧ w.heap.size + 4 ≤ s_.2.2) ?_ ?_
 rotate_left
 ·
  intro hCont
  refine two_ (i := 2) (j := 8) (Ni := some 88) (Nj := some 11) (Steps.Bs 10 127) (Steps.Bs 10 379) rfl rfl rfl rfl z1_ z10_ z10_ (fun K hK => ?_) (fun K hK => ?_)
  ·
   refine goes_ Try.func19 z1_ rfl #[.slice B d.f0.length c] z12_ rfl rfl z8_ ?_
   refine (PAll.raddlekeep_TwinInts.calls B c d.f0 d.f0 _ (aN HCB.out hb0) HLC.out (cM d.f0 (by have h : d.f0.length ≤ 12 := HDO.out.len; omega))).mono ?_
   rintro e W1 ⟨u, rfl, hru, hq⟩
   refine ⟨_, rfl, ?_⟩
   obtain ⟨Au, cu, rfl⟩ := bE hru
   have hrv := cF hru
   have hb1 := aG hb0 hq
   have bX1 := aC bX0 hq
   have bR1 := aC bR0 hq
   have bN1 := aC bN0 hq
   have bA1 := aC bA0 hq
   have hHeld1 : W1.cell? ⟨w.heap.size + 1 + 1 + 1, 0, none⟩ = some (.slice B d.f0.length c) ∧ W1.cell? ⟨w.heap.size + 1 + 1 + 1, 1, none⟩ = some (.int .i64 d.f1) ∧ W1.cell? ⟨w.heap.size + 1 + 1 + 1, 2, none⟩ = some (.int .i64 d.f2) ∧ True := ⟨aA bA1 0, aA bA1 1, aA bA1 2, trivial⟩
   have hl1 : w.heap.size + 4 ≤ W1.heap.size := aV bA1
   refine hK.out _ _ hHeld1 (fun _ => ?_)
   clear hK K
   refine nrm 88 ?_
   clear hq
   refine sI 7 93 10 255 ?_
   refine one_ (i := 8) (N := some 11) (Steps.Bs 10 511) rfl rfl z1_ z10_ (fun K hK => ?_)
   refine cK z12_ (N := 11) rfl (cs := #[.slice none 0 0, .int .i64 0, .int .i64 0]) (t := 49) z11_ ?_
   intro go hgo W2 bO hq
   have hb2 := aG hb1 hq
   have bX2 := aC bX1 hq
   have bR2 := aC bR1 hq
   have bN2 := aC bN1 hq
   have bA2 := aC bA1 hq
   have hHeld2 : W2.cell? ⟨w.heap.size + 1 + 1 + 1, 0, none⟩ = some (.slice B d.f0.length c) ∧ W2.cell? ⟨w.heap.size + 1 + 1 + 1, 1, none⟩ = some (.int .i64 d.f1) ∧ W2.cell? ⟨w.heap.size + 1 + 1 + 1, 2, none⟩ = some (.int .i64 d.f2) ∧ True := ⟨aA bA2 0, aA bA2 1, aA bA2 2, trivial⟩
   have hl2 : w.heap.size + 4 ≤ W2.heap.size := aV bA2
   refine hK.out _ _ hHeld2 (fun _ => ?_)
   clear hK K
   exact hCont (Au, cu, go) W2 ⟨hb2, bX2, bR2, bN2, bA2, bT (R_mono (bG hrv hq) (fun k hk => ⟨by have := hk.2.1; omega, by have := hk.2.2.1; show k ≠ go; omega⟩)) z5_, bO, by show _ ≤ go; omega⟩
  ·
   refine cK z12_ (N := 11) rfl (cs := #[.slice none 0 0, .int .i64 0, .int .i64 0]) (t := 49) z11_ ?_
   intro go hgo W1 bO hq
   have hb1 := aG hb0 hq
   have bX1 := aC bX0 hq
   have bR1 := aC bR0 hq
   have bN1 := aC bN0 hq
   have bA1 := aC bA0 hq
   have hHeld1 : W1.cell? ⟨w.heap.size + 1 + 1 + 1, 0, none⟩ = some (.slice B d.f0.length c) ∧ W1.cell? ⟨w.heap.size + 1 + 1 + 1, 1, none⟩ = some (.int .i64 d.f1) ∧ W1.cell? ⟨w.heap.size + 1 + 1 + 1, 2, none⟩ = some (.int .i64 d.f2) ∧ True := ⟨aA bA1 0, aA bA1 1, aA bA1 2, trivial⟩
   have hl1 : w.heap.size + 4 ≤ W1.heap.size := aV bA1
   refine hK.out _ _ hHeld1 (fun _ => ?_)
   clear hK K
   refine nrm 11 ?_
   have hlo := aV bO
   clear hq
   refine one_ (i := 2) (N := some 88) (Steps.Bs 10 383) rfl rfl z1_ z10_ (fun K hK => ?_)
   refine goes_ Try.func19 z1_ rfl #[.slice B d.f0.length c] z12_ rfl rfl z8_ ?_
   refine (PAll.raddlekeep_TwinInts.calls B c d.f0 d.f0 _ (aN HCB.out hb1) HLC.out (cM d.f0 (by have h : d.f0.length ≤ 12 := HDO.out.len; omega))).mono ?_
   rintro e W2 ⟨u, rfl, hru, hq⟩
   refine ⟨_, rfl, ?_⟩
   obtain ⟨Au, cu, rfl⟩ := bE hru
   have hrv := cF hru
   have bO2 := aC bO hq
   have hb2 := aG hb1 hq
   have bX2 := aC bX1 hq
   have bR2 := aC bR1 hq
   have bN2 := aC bN1 hq
   have bA2 := aC bA1 hq
   have hHeld2 : W2.cell? ⟨w.heap.size + 1 + 1 + 1, 0, none⟩ = some (.slice B d.f0.length c) ∧ W2.cell? ⟨w.heap.size + 1 + 1 + 1, 1, none⟩ = some (.int .i64 d.f1) ∧ W2.cell? ⟨w.heap.size + 1 + 1 + 1, 2, none⟩ = some (.int .i64 d.f2) ∧ True := ⟨aA bA2 0, aA bA2 1, aA bA2 2, trivial⟩
   have hl2 : w.heap.size + 4 ≤ W2.heap.size := aV bA2
   refine hK.out _ _ hHeld2 (fun _ => ?_)
   clear hK K
   refine nrm 88 ?_
   refine sI 7 93 10 511 ?_
   exact hCont (Au, cu, go) W2 ⟨hb2, bX2, bR2, bN2, bA2, bT (R_mono hrv (fun k hk => ⟨by have := hk.2.1; omega, by have := hk.2.1; show k ≠ go; omega⟩)) z5_, bO2, by show _ ≤ go; omega⟩
 rintro ⟨Au, cu, go⟩ W1 ⟨hb1, bX1, bR1, bN1, bA1, hru, bO1, hgo⟩
 replace hru : (Kd.int .i64).R 3 W1 w.heap.size (fun k_ => w.heap.size + 4 ≤ k_ ∧ k_ ≠ go) (.slice Au d.f0.length cu) d.f0 := hru
 replace bO1 : W1.heap[go]? = some (.cells #[.slice none 0 0, .int .i64 0, .int .i64 0] 49 (0, 0)) := bO1
 replace hgo : w.heap.size + 4 ≤ go := hgo
 refine norm_ (a' := ?_) ?_ ?_
 rotate_left
 ·
  simp only [putAll, Act.put, List.setIfInBounds_toArray, List.set_cons_zero, List.set_cons_succ]
  rfl
 have hc9_0 := aA bO1 0
 have hf9_0 := aD bO1 0
 have hc9_1 := aA bO1 1
 have hf9_1 := aD bO1 1
 have hc9_2 := aA bO1 2
 have hf9_2 := aD bO1 2
 refine last_ (i := 9) (N := none) (Steps.Bs 10 1023) rfl rfl z1_ z10_ (fun K hK => ?_)
 refine skip_ (w1 := ?_) z12_ rfl ?_ ?_
 rotate_left
 ·
  go_simp
  rfl
 refine hK.out _ _ ?_
 clear hK K
 obtain ⟨V, hV, hbV, bOV, hkeep⟩ := storeS hb1 z5_ bO1 (.slice Au d.f0.length cu) (.int .i64 d.f1) (.int .i64 d.f2)
 have hruV : (Kd.int .i64).R 3 V w.heap.size (fun k_ => w.heap.size + 4 ≤ k_ ∧ k_ ≠ go) (.slice Au d.f0.length cu) d.f0 := dO hru (fun k hk _ => hkeep k hk.2)
 rw [← hV]
 have bXV := (hkeep (w.heap.size) z5_).trans bX1
 have bRV := (hkeep (w.heap.size + 1) z5_).trans bR1
 have bNV := (hkeep (w.heap.size + 1 + 1) z5_).trans bN1
 have bAV := (hkeep (w.heap.size + 1 + 1 + 1) z5_).trans bA1
 clear hV hkeep hru hc9_0 hc9_1 hc9_2 hf9_0 hf9_1 hf9_2 bX1 bR1 bN1 bA1 bO1 hb1 bX0 bR0 bN0 bA0 hb0 hHeld0 hl0
 refine done_ z1_ ?_
 have hO0V := aA bOV
 have hR0V := aA bRV
 have hA0V := aA bAV
 have fO0V := aD bOV
 have fR0V := aD bRV
 have fA0V := aD bAV
 have hX0V := aA bXV
 replace h3 := aE hbV h3
 replace h4 := aE hbV h4
 replace h5 := aE hbV h5
 have gA0 := fun a i => aA (aY bAV a) i
 have eA0 := fun a i => aD (aY bAV a) i
 have gO0 := fun a i => aA (aY bOV a) i
 have eO0 := fun a i => aD (aY bOV a) i
 have gN0 := fun a i => aA (aY bNV a) i
 have eN0 := fun a i => aD (aY bNV a) i
 have gR0 := fun a i => aA (aY bRV a) i
 have eR0 := fun a i => aD (aY bRV a) i
 have gX10 := fun a i => aA (aY bXV a) i
 by_cases hp : places x.f5 d.f0.length = true
 case neg =>
  obtain rfl : (zN, (1 : Int)) = r := by rw [← HZ.out, if_neg (fun e => hp e.1)]
  have HPK1 := mk_ (HPA.out.trans (by rw [if_neg hp]))
  obtain ⟨q1, q2, hq⟩ : ∃ q1 q2, raddleref14_pick.f (x.f6.length + 1) d2.f0 x.f6 = some (q1, q2) := ⟨_, _, HPB.out⟩
  have HPK2 := mk_ hq
  clear HPA HPB HZ hp hq
  go_wp2_with (first | (go_at_call 37; (with_reducible show Calls _ _ #[.slice B _ _, .slice A5 _ _] _ _); refine (PAll.raddleref14_pick.calls (x.f5.length + 1) B c d.f0 A5 c5 x.f5 [] false (V.alloc _) (aN HCB.out (aM hbV _)) HLC.out (aN HC5.out (aM hbV _)) HC5L.out HPK1.out).mono ?_; rintro e V1 ⟨u1, rfl, hr1, hq1⟩; obtain ⟨A7, c7, rfl, hc7, hC7⟩ := dE hr1; have hqV1 := aG (aM (Below.refl _ _) _) hq1; have hbV1 := aG hbV hqV1; have bXV1 := aC bXV hqV1; have bRV1 := aC bRV hqV1; have bNV1 := aC bNV hqV1; have bAV1 := aC bAV hqV1; have bOV1 := aC bOV hqV1; have bBV1 := aC (cJ V _) hq1; have hO0V1 := aA bOV1; have hR0V1 := aA bRV1; have hN0V1 := aA bNV1; have hA0V1 := aA bAV1; have hB0V1 := aA bBV1; have hX0V1 := aA bXV1; have fO0V1 := aD bOV1; have fR0V1 := aD bRV1; have fN0V1 := aD bNV1; have fA0V1 := aD bAV1; have fB0V1 := aD bBV1; have fX0V1 := aD bXV1) | (go_at_call 37; (with_reducible show Calls _ _ #[.slice B2 _ _, .slice A6 _ _] _ _); refine (PAll.raddleref14_pick.calls (x.f6.length + 1) B2 c2' d2.f0 A6 c6 x.f6 q1 q2 V1 (aN HCB2.out hbV1) HLC2.out (aN HC6.out hbV1) HC6L.out HPK2.out).mono ?_; rintro e V2 ⟨u2, rfl, hr2, hq2⟩; obtain ⟨A8, c8, rfl, hc8, hC8⟩ := dE hr2; have hbV2 := aG hbV1 hq2; have bXV2 := aC bXV1 hq2; have bRV2 := aC bRV1 hq2; have bNV2 := aC bNV1 hq2; have bAV2 := aC bAV1 hq2; have bOV2 := aC bOV1 hq2; have bBV2 := aC bBV1 hq2; have hO0V2 := aA bOV2; have hR0V2 := aA bRV2; have hN0V2 := aA bNV2; have hA0V2 := aA bAV2; have hB0V2 := aA bBV2; have hX0V2 := aA bXV2; have fO0V2 := aD bOV2; have fR0V2 := aD bRV2; have fN0V2 := aD bNV2; have fA0V2 := aD bAV2; have fB0V2 := aD bBV2; have fX0V2 := aD bXV2))
  all_goals refine bodyPost_ret (aT rfl _ _ _ 49 #[.slice none 0 0, .int .i64 0, .int .i64 0] (0, 0) _ rfl (blkS bRV2 _ _ _) Try.underlying49 rfl z1_) rfl ?_
  all_goals exact GotB.zero (aI (aI (aI hbV2 z5_) z5_) z5_)
 have HPK1 := mk_ (HPA.out.trans (by rw [if_pos hp]))
 by_cases hpq : places x.f6 d2.f0.length = true
 case neg =>
  obtain rfl : (zN, (1 : Int)) = r := by rw [← HZ.out, if_neg (fun e => hpq e.2)]
  have HPK2 := mk_ (HPB.out.trans (by rw [if_neg hpq]))
  clear HPA HPB HZ hp hpq
  go_wp2_with (first | (go_at_call 37; (with_reducible show Calls _ _ #[.slice B _ _, .slice A5 _ _] _ _); refine (PAll.raddleref14_pick.calls (x.f5.length + 1) B c d.f0 A5 c5 x.f5 (pick d.f0 x.f5) true (V.alloc _) (aN HCB.out (aM hbV _)) HLC.out (aN HC5.out (aM hbV _)) HC5L.out HPK1.out).mono ?_; rintro e V1 ⟨u1, rfl, hr1, hq1⟩; obtain ⟨A7, c7, rfl, hc7, hC7⟩ := dE hr1; have hqV1 := aG (aM (Below.refl _ _) _) hq1; have hbV1 := aG hbV hqV1; have bXV1 := aC bXV hqV1; have bRV1 := aC bRV hqV1; have bNV1 := aC bNV hqV1; have bAV1 := aC bAV hqV1; have bOV1 := aC bOV hqV1; have bBV1 := aC (cJ V _) hq1; have hO0V1 := aA bOV1; have hR0V1 := aA bRV1; have hN0V1 := aA bNV1; have hA0V1 := aA bAV1; have hB0V1 := aA bBV1; have hX0V1 := aA bXV1; have fO0V1 := aD bOV1; have fR0V1 := aD bRV1; have fN0V1 := aD bNV1; have fA0V1 := aD bAV1; have fB0V1 := aD bBV1; have fX0V1 := aD bXV1) | (go_at_call 37; (with_reducible show Calls _ _ #[.slice B2 _ _, .slice A6 _ _] _ _); refine (PAll.raddleref14_pick.calls (x.f6.length + 1) B2 c2' d2.f0 A6 c6 x.f6 [] false V1 (aN HCB2.out hbV1) HLC2.out (aN HC6.out hbV1) HC6L.out HPK2.out).mono ?_; rintro e V2 ⟨u2, rfl, hr2, hq2⟩; obtain ⟨A8, c8, rfl, hc8, hC8⟩ := dE hr2; have hbV2 := aG hbV1 hq2; have bXV2 := aC bXV1 hq2; have bRV2 := aC bRV1 hq2; have bNV2 := aC bNV1 hq2; have bAV2 := aC bAV1 hq2; have bOV2 := aC bOV1 hq2; have bBV2 := aC bBV1 hq2; have hO0V2 := aA bOV2; have hR0V2 := aA bRV2; have hN0V2 := aA bNV2; have hA0V2 := aA bAV2; have hB0V2 := aA bBV2; have hX0V2 := aA bXV2; have fO0V2 := aD bOV2; have fR0V2 := aD bRV2; have fN0V2 := aD bNV2; have fA0V2 := aD bAV2; have fB0V2 := aD bBV2; have fX0V2 := aD bXV2))
  all_goals refine bodyPost_ret (aT rfl _ _ _ 49 #[.slice none 0 0, .int .i64 0, .int .i64 0] (0, 0) _ rfl (blkS bRV2 _ _ _) Try.underlying49 rfl z1_) rfl ?_
  all_goals exact GotB.zero (aI (aI (aI hbV2 z5_) z5_) z5_)
 have HPK2 := mk_ (HPB.out.trans (by rw [if_pos hpq]))
 have HZ2 := mk_ (HZ.out.symm.trans (if_pos ⟨hp, hpq⟩))
 clear HPA HPB HZ hp hpq
 obtain ⟨pa, hpa⟩ : ∃ pa, pa = pick d.f0 x.f5 := ⟨_, rfl⟩
 obtain ⟨pb, hpb⟩ : ∃ pb, pb = pick d2.f0 x.f6 := ⟨_, rfl⟩
 have hpal : pa.length = x.f5.length := by rw [hpa, dF]
 have hpbl : pb.length = x.f6.length := by rw [hpb, dF]
 rw [← hpa] at HPK1 HZ2
 rw [← hpb] at HPK2 HZ2
 clear hpa hpb
 by_cases hn : x.f5.length ≠ x.f6.length
 case pos =>
  obtain rfl : (zN, (2 : Int)) = r := by rw [HZ2.out, if_pos (.inl hn)]
  have hd1 : decide ((pa.length : Int) = (pb.length : Int)) = false := decide_eq_false z5_
  have hd3 : ((pa.length : Int) = (pb.length : Int)) = False := eq_false z5_
  have hd6 : ((pa.length : Int) != (pb.length : Int)) = true := bne_iff_ne.2 z5_
  clear hn hpal hpbl
  go_wp2_with (first | (go_at_call 37; (with_reducible show Calls _ _ #[.slice B _ _, .slice A5 _ _] _ _); refine (PAll.raddleref14_pick.calls (x.f5.length + 1) B c d.f0 A5 c5 x.f5 pa true (V.alloc _) (aN HCB.out (aM hbV _)) HLC.out (aN HC5.out (aM hbV _)) HC5L.out HPK1.out).mono ?_; rintro e V1 ⟨u1, rfl, hr1, hq1⟩; obtain ⟨A7, c7, rfl, hc7, hC7⟩ := dE hr1; have hqV1 := aG (aM (Below.refl _ _) _) hq1; have hbV1 := aG hbV hqV1; have bXV1 := aC bXV hqV1; have bRV1 := aC bRV hqV1; have bNV1 := aC bNV hqV1; have bAV1 := aC bAV hqV1; have bOV1 := aC bOV hqV1; have bBV1 := aC (cJ V _) hq1; have hO0V1 := aA bOV1; have hR0V1 := aA bRV1; have hN0V1 := aA bNV1; have hA0V1 := aA bAV1; have hB0V1 := aA bBV1; have hX0V1 := aA bXV1; have fO0V1 := aD bOV1; have fR0V1 := aD bRV1; have fN0V1 := aD bNV1; have fA0V1 := aD bAV1; have fB0V1 := aD bBV1; have fX0V1 := aD bXV1) | (go_at_call 37; (with_reducible show Calls _ _ #[.slice B2 _ _, .slice A6 _ _] _ _); refine (PAll.raddleref14_pick.calls (x.f6.length + 1) B2 c2' d2.f0 A6 c6 x.f6 pb true V1 (aN HCB2.out hbV1) HLC2.out (aN HC6.out hbV1) HC6L.out HPK2.out).mono ?_; rintro e V2 ⟨u2, rfl, hr2, hq2⟩; obtain ⟨A8, c8, rfl, hc8, hC8⟩ := dE hr2; have hbV2 := aG hbV1 hq2; have bXV2 := aC bXV1 hq2; have bRV2 := aC bRV1 hq2; have bNV2 := aC bNV1 hq2; have bAV2 := aC bAV1 hq2; have bOV2 := aC bOV1 hq2; have bBV2 := aC bBV1 hq2; have hO0V2 := aA bOV2; have hR0V2 := aA bRV2; have hN0V2 := aA bNV2; have hA0V2 := aA bAV2; have hB0V2 := aA bBV2; have hX0V2 := aA bXV2; have fO0V2 := aD bOV2; have fR0V2 := aD bRV2; have fN0V2 := aD bNV2; have fA0V2 := aD bAV2; have fB0V2 := aD bBV2; have fX0V2 := aD bXV2))
  all_goals refine bodyPost_ret (aT rfl _ _ _ 49 #[.slice none 0 0, .int .i64 0, .int .i64 0] (0, 0) _ rfl (blkS bRV2 _ _ _) Try.underlying49 rfl z1_) rfl ?_
  all_goals exact GotB.zero (aI (aI (aI hbV2 z5_) z5_) z5_)
 have hd1 : decide ((pa.length : Int) = (pb.length : Int)) = true := decide_eq_true z5_
 have hd3 : ((pa.length : Int) = (pb.length : Int)) = True := eq_true z5_
 have hd6 : ((pa.length : Int) != (pb.length : Int)) = false := by rw [bne_eq_false_iff_eq]; omega
 have hwa : IntKind.i64.wrap ((d.f0.length : Int) + (d2.f0.length : Int)) = (d.f0.length : Int) + (d2.f0.length : Int) := IntWalk.i64_in _ z5_
 by_cases h12 : d.f0.length + d2.f0.length > 12
 case pos =>
  obtain rfl : (zN, (2 : Int)) = r := by rw [HZ2.out, if_pos (.inr h12)]
  have hd4 : decide ((12 : Int) < (d.f0.length : Int) + (d2.f0.length : Int)) = true := decide_eq_true z5_
  have hd5 : ((12 : Int) < (d.f0.length : Int) + (d2.f0.length : Int)) = True := eq_true z5_
  clear hn hpal hpbl h12 hl12 hl122
  go_wp2_with (first | (go_at_call 37; (with_reducible show Calls _ _ #[.slice B _ _, .slice A5 _ _] _ _); refine (PAll.raddleref14_pick.calls (x.f5.length + 1) B c d.f0 A5 c5 x.f5 pa true (V.alloc _) (aN HCB.out (aM hbV _)) HLC.out (aN HC5.out (aM hbV _)) HC5L.out HPK1.out).mono ?_; rintro e V1 ⟨u1, rfl, hr1, hq1⟩; obtain ⟨A7, c7, rfl, hc7, hC7⟩ := dE hr1; have hqV1 := aG (aM (Below.refl _ _) _) hq1; have hbV1 := aG hbV hqV1; have bXV1 := aC bXV hqV1; have bRV1 := aC bRV hqV1; have bNV1 := aC bNV hqV1; have bAV1 := aC bAV hqV1; have bOV1 := aC bOV hqV1; have bBV1 := aC (cJ V _) hq1; have hO0V1 := aA bOV1; have hR0V1 := aA bRV1; have hN0V1 := aA bNV1; have hA0V1 := aA bAV1; have hB0V1 := aA bBV1; have hX0V1 := aA bXV1; have fO0V1 := aD bOV1; have fR0V1 := aD bRV1; have fN0V1 := aD bNV1; have fA0V1 := aD bAV1; have fB0V1 := aD bBV1; have fX0V1 := aD bXV1) | (go_at_call 37; (with_reducible show Calls _ _ #[.slice B2 _ _, .slice A6 _ _] _ _); refine (PAll.raddleref14_pick.calls (x.f6.length + 1) B2 c2' d2.f0 A6 c6 x.f6 pb true V1 (aN HCB2.out hbV1) HLC2.out (aN HC6.out hbV1) HC6L.out HPK2.out).mono ?_; rintro e V2 ⟨u2, rfl, hr2, hq2⟩; obtain ⟨A8, c8, rfl, hc8, hC8⟩ := dE hr2; have hbV2 := aG hbV1 hq2; have bXV2 := aC bXV1 hq2; have bRV2 := aC bRV1 hq2; have bNV2 := aC bNV1 hq2; have bAV2 := aC bAV1 hq2; have bOV2 := aC bOV1 hq2; have bBV2 := aC bBV1 hq2; have hO0V2 := aA bOV2; have hR0V2 := aA bRV2; have hN0V2 := aA bNV2; have hA0V2 := aA bAV2; have hB0V2 := aA bBV2; have hX0V2 := aA bXV2; have fO0V2 := aD bOV2; have fR0V2 := aD bRV2; have fN0V2 := aD bNV2; have fA0V2 := aD bAV2; have fB0V2 := aD bBV2; have fX0V2 := aD bXV2))
  all_goals refine bodyPost_ret (aT rfl _ _ _ 49 #[.slice none 0 0, .int .i64 0, .int .i64 0] (0, 0) _ rfl (blkS bRV2 _ _ _) Try.underlying49 rfl z1_) rfl ?_
  all_goals exact GotB.zero (aI (aI (aI hbV2 z5_) z5_) z5_)
 have hd4 : decide ((12 : Int) < (d.f0.length : Int) + (d2.f0.length : Int)) = false := decide_eq_false z5_
 have hd5 : ((12 : Int) < (d.f0.length : Int) + (d2.f0.length : Int)) = False := eq_false z5_
 have HZ3 := mk_ (HZ2.out.trans (if_neg z5_))
 have HPL := mk_ (show pa.length ≤ 1000 by have := HL5.out; omega)
 have HIE := mk_ (dS (pa.length + 1) pa pb (by have := HPL.out; omega) z5_)
 clear hn hpal hpbl h12 hl12 hl122 HZ2
 by_cases he : pa = pb
 case neg =>
  obtain rfl : (zN, (10 : Int)) = r := by rw [HZ3.out, if_neg he]
  rw [decide_eq_false he] at HIE
  clear he
  go_wp2_with (first | (go_at_call 37; (with_reducible show Calls _ _ #[.slice B _ _, .slice A5 _ _] _ _); refine (PAll.raddleref14_pick.calls (x.f5.length + 1) B c d.f0 A5 c5 x.f5 pa true (V.alloc _) (aN HCB.out (aM hbV _)) HLC.out (aN HC5.out (aM hbV _)) HC5L.out HPK1.out).mono ?_; rintro e V1 ⟨u1, rfl, hr1, hq1⟩; obtain ⟨A7, c7, rfl, hc7, hC7⟩ := dE hr1; have hqV1 := aG (aM (Below.refl _ _) _) hq1; have hbV1 := aG hbV hqV1; have bXV1 := aC bXV hqV1; have bRV1 := aC bRV hqV1; have bNV1 := aC bNV hqV1; have bAV1 := aC bAV hqV1; have bOV1 := aC bOV hqV1; have bBV1 := aC (cJ V _) hq1; have hO0V1 := aA bOV1; have hR0V1 := aA bRV1; have hN0V1 := aA bNV1; have hA0V1 := aA bAV1; have hB0V1 := aA bBV1; have hX0V1 := aA bXV1; have fO0V1 := aD bOV1; have fR0V1 := aD bRV1; have fN0V1 := aD bNV1; have fA0V1 := aD bAV1; have fB0V1 := aD bBV1; have fX0V1 := aD bXV1) | (go_at_call 37; (with_reducible show Calls _ _ #[.slice B2 _ _, .slice A6 _ _] _ _); refine (PAll.raddleref14_pick.calls (x.f6.length + 1) B2 c2' d2.f0 A6 c6 x.f6 pb true V1 (aN HCB2.out hbV1) HLC2.out (aN HC6.out hbV1) HC6L.out HPK2.out).mono ?_; rintro e V2 ⟨u2, rfl, hr2, hq2⟩; obtain ⟨A8, c8, rfl, hc8, hC8⟩ := dE hr2; have hbV2 := aG hbV1 hq2; have bXV2 := aC bXV1 hq2; have bRV2 := aC bRV1 hq2; have bNV2 := aC bNV1 hq2; have bAV2 := aC bAV1 hq2; have bOV2 := aC bOV1 hq2; have bBV2 := aC bBV1 hq2; have hO0V2 := aA bOV2; have hR0V2 := aA bRV2; have hN0V2 := aA bNV2; have hA0V2 := aA bAV2; have hB0V2 := aA bBV2; have hX0V2 := aA bXV2; have fO0V2 := aD bOV2; have fR0V2 := aD bRV2; have fN0V2 := aD bNV2; have fA0V2 := aD bAV2; have fB0V2 := aD bBV2; have fX0V2 := aD bXV2) | (go_at_call 18; refine (PAll.raddlekeep_Ints.calls (pa.length + 1) A7 c7 pa A8 c8 pb false V2 (aN hC7 hq2) hc7 hC8 hc8 HIE.out).mono ?_; rintro e w' ⟨rfl, ⟨m2, rfl⟩⟩))
  refine bodyPost_ret (aT rfl _ _ _ 49 #[.slice none 0 0, .int .i64 0, .int .i64 0] (0, 0) _ rfl (blkS (aX bRV2 _) _ _ _) Try.underlying49 rfl z1_) rfl ?_
  exact GotB.zero (aI (aI (aI (aZ hbV2 _) z5_) z5_) z5_)
 rw [decide_eq_true he] at HIE
 have HZ4 := mk_ (HZ3.out.trans (if_pos he))
 clear he HZ3
 go_wp2_with (first | (go_at_call 37; (with_reducible show Calls _ _ #[.slice B _ _, .slice A5 _ _] _ _); refine (PAll.raddleref14_pick.calls (x.f5.length + 1) B c d.f0 A5 c5 x.f5 pa true (V.alloc _) (aN HCB.out (aM hbV _)) HLC.out (aN HC5.out (aM hbV _)) HC5L.out HPK1.out).mono ?_; rintro e V1 ⟨u1, rfl, hr1, hq1⟩; obtain ⟨A7, c7, rfl, hc7, hC7⟩ := dE hr1; have hqV1 := aG (aM (Below.refl _ _) _) hq1; have hbV1 := aG hbV hqV1; have bXV1 := aC bXV hqV1; have bRV1 := aC bRV hqV1; have bNV1 := aC bNV hqV1; have bAV1 := aC bAV hqV1; have bOV1 := aC bOV hqV1; have bBV1 := aC (cJ V _) hq1; have hO0V1 := aA bOV1; have hR0V1 := aA bRV1; have hN0V1 := aA bNV1; have hA0V1 := aA bAV1; have hB0V1 := aA bBV1; have hX0V1 := aA bXV1; have fO0V1 := aD bOV1; have fR0V1 := aD bRV1; have fN0V1 := aD bNV1; have fA0V1 := aD bAV1; have fB0V1 := aD bBV1; have fX0V1 := aD bXV1) | (go_at_call 37; (with_reducible show Calls _ _ #[.slice B2 _ _, .slice A6 _ _] _ _); refine (PAll.raddleref14_pick.calls (x.f6.length + 1) B2 c2' d2.f0 A6 c6 x.f6 pb true V1 (aN HCB2.out hbV1) HLC2.out (aN HC6.out hbV1) HC6L.out HPK2.out).mono ?_; rintro e V2 ⟨u2, rfl, hr2, hq2⟩; obtain ⟨A8, c8, rfl, hc8, hC8⟩ := dE hr2; have hbV2 := aG hbV1 hq2; have bXV2 := aC bXV1 hq2; have bRV2 := aC bRV1 hq2; have bNV2 := aC bNV1 hq2; have bAV2 := aC bAV1 hq2; have bOV2 := aC bOV1 hq2; have bBV2 := aC bBV1 hq2; have hO0V2 := aA bOV2; have hR0V2 := aA bRV2; have hN0V2 := aA bNV2; have hA0V2 := aA bAV2; have hB0V2 := aA bBV2; have hX0V2 := aA bXV2; have fO0V2 := aD bOV2; have fR0V2 := aD bRV2; have fN0V2 := aD bNV2; have fA0V2 := aD bAV2; have fB0V2 := aD bBV2; have fX0V2 := aD bXV2) | (go_at_call 18; refine (PAll.raddlekeep_Ints.calls (pa.length + 1) A7 c7 pa A8 c8 pb true V2 (aN hC7 hq2) hc7 hC8 hc8 HIE.out).mono ?_; rintro e w' ⟨rfl, ⟨m2, rfl⟩⟩))
 have hVV2 : Below V.heap.size V V2 := aG hqV1 hq2
 refine cG (n := 14) (S := fun w' => w'.cell? ⟨V.heap.size, 0, none⟩ = some (.slice B2 d2.f0.length c2') ∧ w'.cell? ⟨w.heap.size + 1 + 1 + 1, 2, none⟩ = some (.int .i64 d.f2) ∧ w'.cell? ⟨V.heap.size, 2, none⟩ = some (.int .i64 d2.f2) ∧ True) (ds := [13]) (fun W => Below w.heap.size w W ∧ W.heap[w.heap.size]? = some (.cells #[.int .i64 4, .int .i64 (k : Int), .int .i64 (k2 : Int), .int .i64 x.f3, .int .i64 x.f4.f0, .int .i64 x.f4.f1, .int .i64 x.f4.f2, .int .i64 x.f4.f3.f0, .int .i64 x.f4.f3.f1, .string x.f4.f3.f2, .slice A5 x.f5.length c5, .slice A6 x.f6.length c6, .int .i64 x.f7, .int .i64 x.f8] 34 (0, 0)) ∧ W.heap[w.heap.size + 1]? = some (.cells #[.slice none 0 0, .int .i64 0, .int .i64 0] 49 (0, 0)) ∧ W.heap[w.heap.size + 1 + 1]? = some (.cells #[.slice none 0 0, .int .i64 0, .int .i64 0] 49 (0, 0)) ∧ W.heap[w.heap.size + 1 + 1 + 1]? = some (.cells #[.slice B d.f0.length c, .int .i64 d.f1, .int .i64 d.f2] 49 (0, 0)) ∧ W.heap[go]? = some (.cells #[.slice Au d.f0.length cu, .int .i64 d.f1, .int .i64 d.f2] 49 (0, 0)) ∧ W.heap[V.heap.size]? = some (.cells #[.slice B2 d2.f0.length c2', .int .i64 d2.f1, .int .i64 d2.f2] 49 (0, 0)) ∧ Below V.heap.size V W) (Steps.Bs 14 0) z1_ rfl rfl ⟨bP (aZ hbV2 _), aU (aX bXV2 _), aU (aX bRV2 _), aU (aX bNV2 _), aU (aX bAV2 _), aU (aX bOV2 _), aU (aX bBV2 _), bP (aZ hVV2 _)⟩ (fun W hJ => ?_) (fun W0 hJ => ?_)
 ·
  obtain ⟨hb0, bX0, bR0, bN0, bA0, bO0, bB0, hbv⟩ := hJ
  exact ⟨aA bB0 0, aA bA0 2, aA bB0 2, trivial⟩
 obtain ⟨hb0, bX0, bR0, bN0, bA0, bO0, bB0, hbv⟩ := hJ
 have hHeld0 : W0.cell? ⟨V.heap.size, 0, none⟩ = some (.slice B2 d2.f0.length c2') ∧ W0.cell? ⟨w.heap.size + 1 + 1 + 1, 2, none⟩ = some (.int .i64 d.f2) ∧ W0.cell? ⟨V.heap.size, 2, none⟩ = some (.int .i64 d2.f2) ∧ True := ⟨aA bB0 0, aA bA0 2, aA bB0 2, trivial⟩
 have hl0 : w.heap.size + 4 ≤ W0.heap.size := aV bA0
 refine sI 0 174 14 1 ?_
 refine sI 2 176 14 5 ?_
 refine sT hHeld0 3 177 14 13 ?_
 refine sI 5 179 14 45 ?_
 refine sT hHeld0 6 180 14 109 ?_
 refine sI 7 181 14 237 ?_
 refine sT hHeld0 8 182 14 493 ?_
 refine sI 9 183 14 1005 ?_
 have hcO := aA bO0 0
 refine one_ (i := 1) (N := some 175) (Steps.Bs 14 1007) rfl rfl z1_ z10_ (fun K hK => ?_)
 refine fC (w1 := W0) (v := .slice Au d.f0.length cu) z12_ rfl (by go_simp) ?_
 refine hK.out _ _ hHeld0 (fun _ => ?_)
 clear hK K hcO
 refine nrm 175 ?_
 have hru0 := bG hruV hbv
 have hown : ∀ k, (Value.slice Au d.f0.length cu).ownBlock = some k → w.heap.size + 4 ≤ k ∧ k ≠ go ∧ k < V.heap.size := fun k hk => by have h1 := (cF hruV).1 k hk; exact ⟨h1.1.1, h1.1.2, h1.2.2.1⟩
 refine one_ (i := 4) (N := (some 178)) (Steps.Bs 14 1023) rfl rfl z1_ z10_ (fun K hK => ?_)
 refine cU (Kd.int .i64) (w0 := w) w.heap.size z12_ (.tmp 175) (.tmp 177) 32 3 (.int .i64 0) 8 rfl Try.underlying32 PAll.info3 rfl z10_ z5_ (.slice Au d.f0.length cu) d.f0 d2.f0 B2 d2.f0.length c2' (fun k_ => w.heap.size + 4 ≤ k_ ∧ k_ ≠ go) (fun _ => False) rfl rfl hru0 (aN HCB2.out hb0) (fun _ _ h => h) (fun _ h => h.elim) (fun k hk => ⟨by omega, by have := aV bO0; omega⟩) hb0 hb0.size (by have h1 : d.f0.length ≤ 12 := HDO.out.len; have h2 : d2.f0.length ≤ 12 := HDO2.out.len; omega) ?_
 intro v1 W1 hr1 hb1 hg1 _
 obtain ⟨A9, c9, rfl⟩ := bE hr1
 rw [List.length_append] at hr1
 have bX1 : W1.heap[w.heap.size]? = _ := (hg1.block _ (aV bX0) (fun e => by have := hown _ e.symm; have := aV bOV; omega)).trans bX0
 have bR1 : W1.heap[w.heap.size + 1]? = _ := (hg1.block _ (aV bR0) (fun e => by have := hown _ e.symm; have := aV bOV; omega)).trans bR0
 have bN1 : W1.heap[w.heap.size + 1 + 1]? = _ := (hg1.block _ (aV bN0) (fun e => by have := hown _ e.symm; have := aV bOV; omega)).trans bN0
 have bA1 : W1.heap[w.heap.size + 1 + 1 + 1]? = _ := (hg1.block _ (aV bA0) (fun e => by have := hown _ e.symm; have := aV bOV; omega)).trans bA0
 have bO1 : W1.heap[go]? = _ := (hg1.block _ (aV bO0) (fun e => by have := hown _ e.symm; have := aV bOV; omega)).trans bO0
 have bB1 : W1.heap[V.heap.size]? = _ := (hg1.block _ (aV bB0) (fun e => by have := hown _ e.symm; have := aV bOV; omega)).trans bB0
 have hHeld1 : W1.cell? ⟨V.heap.size, 0, none⟩ = some (.slice B2 d2.f0.length c2') ∧ W1.cell? ⟨w.heap.size + 1 + 1 + 1, 2, none⟩ = some (.int .i64 d.f2) ∧ W1.cell? ⟨V.heap.size, 2, none⟩ = some (.int .i64 d2.f2) ∧ True := ⟨aA bB1 0, aA bA1 2, aA bB1 2, trivial⟩
 have hl1 : w.heap.size + 4 ≤ W1.heap.size := aV bA1
 refine hK.out _ _ hHeld1 (fun _ => ?_)
 clear hK K
 refine nrm 178 ?_
 refine sI 10 184 14 2047 ?_
 have hco11 := aA bO1 0
 have hfo11 := aD bO1 0
 refine one_ (i := 11) (N := none) (Steps.Bs 14 4095) rfl rfl z1_ z10_ (fun K hK => ?_)
 refine skip_ (w1 := ?_) z12_ rfl ?_ ?_
 rotate_left
 ·
  go_simp
  rfl
 obtain ⟨W2, hW⟩ : ∃ V_ : World, V_ = W1.setCell ⟨go, 0, none⟩ (.slice A9 (d.f0.length + d2.f0.length) c9) := ⟨_, rfl⟩
 rw [← hW]
 have hk : ∀ k, k ≠ go → W2.heap[k]? = W1.heap[k]? := fun k hk => by rw [hW]; exact Below.heap_setCell _ _ _ k hk
 have bO2 : W2.heap[go]? = some (.cells #[.slice A9 (d.f0.length + d2.f0.length) c9, .int .i64 d.f1, .int .i64 d.f2] 49 (0, 0)) := by rw [hW]; exact bS bO1 _
 have hb2 : Below w.heap.size w W2 := by rw [hW]; exact aI hb1 z5_
 have bX2 := (hk (w.heap.size) z5_).trans bX1
 have bR2 := (hk (w.heap.size + 1) z5_).trans bR1
 have bN2 := (hk (w.heap.size + 1 + 1) z5_).trans bN1
 have bA2 := (hk (w.heap.size + 1 + 1 + 1) z5_).trans bA1
 have bB2 := (hk V.heap.size (by have := aV bOV; omega)).trans bB1
 have hr2 : (Kd.int .i64).R 3 W2 w.heap.size (fun k_ => w.heap.size + 4 ≤ k_ ∧ k_ ≠ go) (.slice A9 (d.f0.length + d2.f0.length) c9) (d.f0 ++ d2.f0) := dO hr1 (fun k hk_ _ => hk k hk_.2)
 clear hW hk hco11 hfo11
 have hHeld2 : W2.cell? ⟨V.heap.size, 0, none⟩ = some (.slice B2 d2.f0.length c2') ∧ W2.cell? ⟨w.heap.size + 1 + 1 + 1, 2, none⟩ = some (.int .i64 d.f2) ∧ W2.cell? ⟨V.heap.size, 2, none⟩ = some (.int .i64 d2.f2) ∧ True := ⟨aA bB2 0, aA bA2 2, aA bB2 2, trivial⟩
 refine hK.out _ _ hHeld2 (fun _ => ?_)
 clear hK K
 refine sI 12 185 14 8191 ?_
 have hco13 := aA bO2 2
 have hfo13 := aD bO2 2
 refine last_ (i := 13) (N := none) (Steps.Bs 14 16383) rfl rfl z1_ z10_ (fun K hK => ?_)
 refine skip_ (w1 := ?_) z12_ rfl ?_ ?_
 rotate_left
 ·
  go_simp
  rfl
 refine hK.out _ _ ?_
 clear hK K
 obtain ⟨W3, hW⟩ : ∃ V_ : World, V_ = W2.setCell ⟨go, 2, none⟩ (.int .i64 (max d.f2 d2.f2)) := ⟨_, rfl⟩
 rw [← hW]
 have hk : ∀ k, k ≠ go → W3.heap[k]? = W2.heap[k]? := fun k hk => by rw [hW]; exact Below.heap_setCell _ _ _ k hk
 have bO3 : W3.heap[go]? = some (.cells #[.slice A9 (d.f0.length + d2.f0.length) c9, .int .i64 d.f1, .int .i64 (max d.f2 d2.f2)] 49 (0, 0)) := by rw [hW]; exact bS bO2 _
 have hb3 : Below w.heap.size w W3 := by rw [hW]; exact aI hb2 z5_
 have bX3 := (hk (w.heap.size) z5_).trans bX2
 have bR3 := (hk (w.heap.size + 1) z5_).trans bR2
 have bN3 := (hk (w.heap.size + 1 + 1) z5_).trans bN2
 have bA3 := (hk (w.heap.size + 1 + 1 + 1) z5_).trans bA2
 have bB3 := (hk V.heap.size (by have := aV bOV; omega)).trans bB2
 have hr3 : (Kd.int .i64).R 3 W3 w.heap.size (fun k_ => w.heap.size + 4 ≤ k_ ∧ k_ ≠ go) (.slice A9 (d.f0.length + d2.f0.length) c9) (d.f0 ++ d2.f0) := dO hr2 (fun k hk_ _ => hk k hk_.2)
 clear hW hk hco13 hfo13
 refine done_ z1_ ?_
 have hw1 : 1 ≤ d.f1 := HDO.out.w1
 have hw2 : d.f1 ≤ 1125899906842624 := HDO.out.w2
 have hw3 : 1 ≤ d2.f1 := HDO2.out.w1
 have hw4 : d2.f1 ≤ 1125899906842624 := HDO2.out.w2
 have hv1 : d.f2 ≤ 1152921504606846976 := HDO.out.v2
 have hv2 : d2.f2 ≤ 1152921504606846976 := HDO2.out.v2
 have hdv : decide ((1152921504606846976 : Int) < max d.f2 d2.f2) = false := decide_eq_false z5_
 have hA03 := aA bA3
 have hB03 := aA bB3
 have fA03 := aD bA3
 have fB03 := aD bB3
 by_cases hm : d.f1 * d2.f1 ≤ 1125899906842624
 case neg =>
  obtain rfl : (zN, (11 : Int)) = r := by rw [HZ4.out, if_neg hm]
  have HM := mk_ (show raddleref14_times.f 1 d.f1 d2.f1 1125899906842624 = some (0, false) by rw [fR 1 _ _ _ z5_ z5_ z5_ z5_ z5_ z5_ z5_, if_neg hm])
  clear hm hw1 hw2 hw3 hw4 hv1 hv2
  go_wp2_with (first | (go_at_call 38; refine (PAll.raddleref14_times.calls 1 d.f1 d2.f1 1125899906842624 0 false W3 HM.out).mono ?_; rintro e W4 ⟨rfl, hq⟩; have hb4 := aG hb3 hq; have bX4 := aC bX3 hq; have bR4 := aC bR3 hq; have bN4 := aC bN3 hq; have bA4 := aC bA3 hq; have bO4 := aC bO3 hq; have bB4 := aC bB3 hq; have hO04 := aA bO4; have hR04 := aA bR4; have hN04 := aA bN4; have fO04 := aD bO4; have fR04 := aD bR4; have fN04 := aD bN4; have sR0 := fun v i => aA (setO (g := go) (j := 1) bR4 z5_ v) i; have tR0 := fun v i => aD (setO (g := go) (j := 1) bR4 z5_ v) i; have sN0 := fun v i => aA (setO (g := go) (j := 1) bN4 z5_ v) i; have tN0 := fun v i => aD (setO (g := go) (j := 1) bN4 z5_ v) i; have sO0 := fun v i => aA (bS (j := 1) bO4 v) i))
  refine bodyPost_ret (aT rfl _ _ _ 49 #[.slice none 0 0, .int .i64 0, .int .i64 0] (0, 0) _ rfl (blkS (setO (g := go) (j := 1) bR4 z5_ _) _ _ _) Try.underlying49 rfl z1_) rfl ?_
  exact GotB.zero (aI (aI (aI (aI hb4 z5_) z5_) z5_) z5_)
 obtain rfl : ((d.f0 ++ d2.f0, d.f1 * d2.f1, max d.f2 d2.f2), (0 : Int)) = r := by rw [HZ4.out, if_pos hm]
 have HM := mk_ (show raddleref14_times.f 1 d.f1 d2.f1 1125899906842624 = some (d.f1 * d2.f1, true) by rw [fR 1 _ _ _ z5_ z5_ z5_ z5_ z5_ z5_ z5_, if_pos hm])
 generalize d.f1 * d2.f1 = pr at *
 have hdw : decide ((1125899906842624 : Int) < pr) = false := decide_eq_false z5_
 clear hm hw1 hw2 hw3 hw4 hv1 hv2
 go_wp2_with (first | (go_at_call 38; refine (PAll.raddleref14_times.calls 1 d.f1 d2.f1 1125899906842624 pr true W3 HM.out).mono ?_; rintro e W4 ⟨rfl, hq⟩; have hb4 := aG hb3 hq; have bX4 := aC bX3 hq; have bR4 := aC bR3 hq; have bN4 := aC bN3 hq; have bA4 := aC bA3 hq; have bO4 := aC bO3 hq; have bB4 := aC bB3 hq; have hO04 := aA bO4; have hR04 := aA bR4; have hN04 := aA bN4; have fO04 := aD bO4; have fR04 := aD bR4; have fN04 := aD bN4; have sR0 := fun v i => aA (setO (g := go) (j := 1) bR4 z5_ v) i; have tR0 := fun v i => aD (setO (g := go) (j := 1) bR4 z5_ v) i; have sN0 := fun v i => aA (setO (g := go) (j := 1) bN4 z5_ v) i; have tN0 := fun v i => aD (setO (g := go) (j := 1) bN4 z5_ v) i; have sO0 := fun v i => aA (bS (j := 1) bO4 v) i))
 refine bodyPost_ret (aT rfl _ _ _ 49 #[.slice A9 (d.f0.length + d2.f0.length) c9, .int .i64 pr, .int .i64 (max d.f2 d2.f2)] (0, 0) _ rfl (blkS (setO (g := go) (j := 1) bR4 z5_ _) _ _ _) Try.underlying49 rfl z1_) rfl ?_
 exact GotB.stored (d := (d.f0 ++ d2.f0, pr, max d.f2 d2.f2)) (R_mono (R_far (bG hr3 hq) (p := ⟨go, 1, none⟩) (fun k hk => hk.2) _) (fun k hk => hk.1)) (aI hb4 z5_) _ _ _
end
end Go.Proofs.Ytimbbaoodjhdoaa.Plan
end
