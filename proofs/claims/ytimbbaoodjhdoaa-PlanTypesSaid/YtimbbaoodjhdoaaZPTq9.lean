-- Put together by a program of this session (wip/slice2.py) out of the seat's texts.
import Derived.Test.YtimbbaoodjhdoaaZPTp6
import Derived.Test.YtimbbaoodjhdoaaZPTq6
import Derived.Test.YtimbbaoodjhdoaaZPTq1

set_option maxHeartbeats 8000000
set_option maxRecDepth 100000
open Go.Proofs.YtimbbaoodjhdoaaW Go.Proofs.Ytimbbaoodjhdoaa
section
namespace Go.Proofs.Ytimbbaoodjhdoaa.Plan
open Go.RowKit PAll Plain PrintWords PrintLast PrintMore ZipT PrintWords.Kd PrintMore.Kd
set_option linter.unusedVariables false
set_option linter.unusedSimpArgs false
section
variable {w : World} {A1 A2 : Option Addr} {c1 c2 : Nat} {f : List Tb} {ds : List Bo} {x : No} {A5 A6 : Option Addr} {c5 c6 : Nat}
theorem node8_1 (hC1 : Kd.C k54 w A1 f.length f) (hl1 : f.length ≤ c1) (hf : FOk f) (hC2 : Kd.C k49 w A2 ds.length ds) (hl2 : ds.length ≤ c2) (hl : ds.length ≤ 1000) (hds : ∀ d ∈ rows ds, NdOk d) (hC5 : Kd.C (Kd.int .i64) w A5 x.f5.length x.f5) (hC5L : x.f5.length ≤ c5) (hL5 : x.f5.length ≤ 1000) (hC6 : Kd.C (Kd.int .i64) w A6 x.f6.length x.f6) (hC6L : x.f6.length ≤ c6) (hL6 : x.f6.length ≤ 1000) (h7 : x.f7 = 1) :
  Calls Try.prog 27 #[.agg #[.int .i64 8, .int .i64 x.f1, .int .i64 x.f2, .int .i64 x.f3, .int .i64 x.f4.f0, .int .i64 x.f4.f1, .int .i64 x.f4.f2, .int .i64 x.f4.f3.f0, .int .i64 x.f4.f3.f1, .string x.f4.f3.f2, .slice A5 x.f5.length c5, .slice A6 x.f6.length c6, .int .i64 1, .int .i64 x.f8], .slice A1 f.length c1, .slice A2 ds.length c2] w (GotB w (groupN (rows ds) x)) := by
 have HC1 := mk_ hC1
 have HC2 := mk_ hC2
 have HC5 := mk_ hC5
 have HC5L := mk_ hC5L
 have HL5 := mk_ hL5
 have HC6 := mk_ hC6
 have HC6L := mk_ hC6L
 have HL6 := mk_ hL6
 have hsub : IntKind.i64.wrap ((ds.length : Int) - 1) = (ds.length : Int) - 1 := IntWalk.i64_in _ z5_
 have HI0 := mk_ (show raddleref14_in.f 8 1 8 = some true from bL 8 1 8)
 have hsp : groupN (rows ds) x = if ahead (rows ds) x.f1 = true then (if places x.f5 (nth (rows ds) x.f1).1.length = true then (if x.f5.length ≥ 12 then (zN, 2) else ((pick (nth (rows ds) x.f1).1 x.f5 ++ [3], (nth (rows ds) x.f1).2.1, max (nth (rows ds) x.f1).2.2 (nth (rows ds) x.f1).2.1), 0)) else (zN, 1)) else (zN, 1) := by
  unfold groupN
  by_cases ha : ahead (rows ds) x.f1 = true
  ·
   rw [if_pos ⟨ha, by omega, by omega⟩, if_pos ha]
   by_cases hp : places x.f5 (nth (rows ds) x.f1).1.length = true
   ·
    rw [if_pos ⟨hp, .inl h7⟩, if_pos hp]
    by_cases h12 : x.f5.length ≥ 12
    ·
     rw [if_pos h12, if_pos h12]
    ·
     rw [if_neg h12, if_neg h12, if_neg (fun e => by have := e.1; omega), if_pos h7]
   ·
    rw [if_neg (fun e => hp e.1), if_neg hp]
  ·
   rw [if_neg (fun e => ha e.1), if_neg ha]
 rw [hsp]
 clear hsp
 have HAG := mk_ (show raddleref14_in.f 1 1 4 = some true from by rw [bL, decide_eq_true]; omega)
 by_cases ha : ahead (rows ds) x.f1 = true
 case neg =>
  rw [if_neg ha]
  have HIA := mk_ (show raddleref14_in.f x.f1 0 ((ds.length : Int) - 1) = some false from by rw [bL, decide_eq_false]; unfold ahead at ha; rw [cP] at ha; intro e; exact ha (decide_eq_true z5_))
  clear ha hC1 hC2 hC5 hC5L hL5 hC6 hC6L hL6
  go_enter Try.func27, Try.ntmps27
  go_wp2_with (first | (go_at_call 26; (with_reducible show Calls _ _ #[.int .i64 8, .int .i64 1, .int .i64 8] _ _); refine (PAll.raddleref14_in.calls 8 1 8 true _ HI0.out).mono ?_; rintro e w' ⟨rfl, ⟨m0, rfl⟩⟩) | (go_at_call 26; (with_reducible show Calls _ _ #[.int .i64 x.f1, .int .i64 0, _] _ _); refine (PAll.raddleref14_in.calls x.f1 0 ((ds.length : Int) - 1) false _ HIA.out).mono ?_; rintro e w' ⟨rfl, ⟨m1, rfl⟩⟩))
  refine bodyPost_ret (aT rfl _ _ _ 49 #[.slice none 0 0, .int .i64 0, .int .i64 0] (0, 0) _ rfl (blkS (x := .slice none 0 0) (y := .int .i64 0) (z := .int .i64 0) z2_ _ _ _) Try.underlying49 rfl z1_) rfl ?_
  exact GotB.zero z0_
 rw [if_pos ha]
 obtain ⟨k, hk⟩ := Int.eq_ofNat_of_zero_le (of_decide_eq_true ha).1
 rw [hk] at ha ⊢
 obtain ⟨hk0, hk1⟩ : 0 ≤ (k : Int) ∧ (k : Int) < (ds.length : Int) := by have := of_decide_eq_true ha; rw [cP] at this; exact this
 obtain ⟨ad, B, c, hA2, h0, h1, h2, hlc, hCB⟩ := eI hC2 (k : Int) hk0 hk1
 rw [cV ds k z5_]
 have hdok : NdOk (toNd (aQ ds (k : Int))) := by rw [← cV ds k z5_]; exact cY hds ha
 have HIA := mk_ (show raddleref14_in.f (k : Int) 0 ((ds.length : Int) - 1) = some true from by rw [bL, decide_eq_true]; omega)
 subst hA2
 simp only [Int.toNat_natCast] at h0 h1 h2
 have HCB := mk_ hCB
 have HLC := mk_ hlc
 have HDO := mk_ hdok
 have hb2 : (0 ≤ (k : Int)) = True := eq_true hk0
 have hb3 : ((k : Int) < (ds.length : Int)) = True := eq_true hk1
 have h0p := al3 h0
 have h0q := al4 h0
 have h1p := al3 h1
 have h1q := al4 h1
 have h2p := al3 h2
 have h2q := al4 h2
 clear hC1 hC2 hC5 hC5L hL5 hC6 hC6L hL6 hk0 hk1 ha hk hCB hlc hdok
 generalize aQ ds (k : Int) = d at *
 generalize hz : ((if places x.f5 (toNd d).1.length = true then (if x.f5.length ≥ 12 then (zN, 2) else ((pick (toNd d).1 x.f5 ++ [3], (toNd d).2.1, max (toNd d).2.2 (toNd d).2.1), 0)) else (zN, 1) : Nd × Int)) = r
 replace hz : (if places x.f5 d.f0.length = true then (if x.f5.length ≥ 12 then (zN, 2) else ((pick d.f0 x.f5 ++ [3], d.f1, max d.f2 d.f1), 0)) else (zN, 1) : Nd × Int) = r := hz
 have HZ := mk_ hz
 clear hz
 have hl12 : d.f0.length ≤ 12 := HDO.out.len
 have hsubd : IntKind.i64.wrap ((d.f0.length : Int) - 1) = (d.f0.length : Int) - 1 := IntWalk.i64_in _ z5_
 have HPA := mk_ (eT (x.f5.length + 1) d.f0 x.f5 z5_ (by have := HL5.out; omega) z5_)
 have HL12 := mk_ hl12
 clear hl12
 go_enter Try.func27, Try.ntmps27
 go_wp2_with (first | (go_at_call 26; (with_reducible show Calls _ _ #[.int .i64 8, .int .i64 1, .int .i64 8] _ _); refine (PAll.raddleref14_in.calls 8 1 8 true _ HI0.out).mono ?_; rintro e w' ⟨rfl, ⟨m0, rfl⟩⟩) | (go_at_call 26; (with_reducible show Calls _ _ #[.int .i64 (k : Int), .int .i64 0, _] _ _); refine (PAll.raddleref14_in.calls (k : Int) 0 ((ds.length : Int) - 1) true _ HIA.out).mono ?_; rintro e w' ⟨rfl, ⟨m1, rfl⟩⟩))
 refine cG (n := 10) (S := fun w' => w'.cell? ⟨w.heap.size + 1 + 1 + 1, 0, none⟩ = some (.slice B d.f0.length c) ∧ w'.cell? ⟨w.heap.size + 1 + 1 + 1, 1, none⟩ = some (.int .i64 d.f1) ∧ w'.cell? ⟨w.heap.size + 1 + 1 + 1, 2, none⟩ = some (.int .i64 d.f2) ∧ True) (ds := [9]) (fun W => Below w.heap.size w W ∧ W.heap[w.heap.size]? = some (.cells #[.int .i64 8, .int .i64 (k : Int), .int .i64 x.f2, .int .i64 x.f3, .int .i64 x.f4.f0, .int .i64 x.f4.f1, .int .i64 x.f4.f2, .int .i64 x.f4.f3.f0, .int .i64 x.f4.f3.f1, .string x.f4.f3.f2, .slice A5 x.f5.length c5, .slice A6 x.f6.length c6, .int .i64 1, .int .i64 x.f8] 34 (0, 0)) ∧ W.heap[w.heap.size + 1]? = some (.cells #[.slice none 0 0, .int .i64 0, .int .i64 0] 49 (0, 0)) ∧ W.heap[w.heap.size + 1 + 1]? = some (.cells #[.slice none 0 0, .int .i64 0, .int .i64 0] 49 (0, 0)) ∧ W.heap[w.heap.size + 1 + 1 + 1]? = some (.cells #[.slice B d.f0.length c, .int .i64 d.f1, .int .i64 d.f2] 49 (0, 0))) (Steps.Bs 10 0) z1_ rfl rfl ⟨z0_, z2_, z2_, z2_, z2_⟩ (fun W hJ => ?_) (fun W0 hJ => ?_)
 ·
  obtain ⟨hb0, bX0, bR0, bN0, bA0⟩ := hJ
  exact ⟨aA bA0 0, aA bA0 1, aA bA0 2, trivial⟩
 obtain ⟨hb0, bX0, bR0, bN0, bA0⟩ := hJ
 have hHeld0 : W0.cell? ⟨w.heap.size + 1 + 1 + 1, 0, none⟩ = some (.slice B d.f0.length c) ∧ W0.cell? ⟨w.heap.size + 1 + 1 + 1, 1, none⟩ = some (.int .i64 d.f1) ∧ W0.cell? ⟨w.heap.size + 1 + 1 + 1, 2, none⟩ = some (.int .i64 d.f2) ∧ True := ⟨aA bA0 0, aA bA0 1, aA bA0 2, trivial⟩
 have hl0 : w.heap.size + 4 ≤ W0.heap.size := aV bA0
 refine sI 0 86 10 1 ?_
 refine sT hHeld0 1 87 10 3 ?_
 refine sI 3 89 10 11 ?_
 refine sT hHeld0 4 90 10 27 ?_
 refine sI 5 91 10 59 ?_
 refine sT hHeld0 6 92 10 123 ?_
 refine join_ (σ := Option Addr × Nat × Nat) 1 (Steps.Bs 10 511) (fun s_ => [(88, .slice s_.1 d.f0.length s_.2.1), (11, .pointer (some ⟨s_.2.2, 0, none⟩)), (93, .agg #[.slice s_.1 d.f0.length s_.2.1, .int .i64 d.f1, .int .i64 d.f2])]) (fun s_ w' => Below w.heap.size w w' ∧ w'.heap[w.heap.size]? = some (.cells #[.int .i64 8, .int .i64 (k : Int), .int .i64 x.f2, .int .i64 x.f3, .int .i64 x.f4.f0, .int .i64 x.f4.f1, .int .i64 x.f4.f2, .int .i64 x.f4.f3.f0, .int .i64 x.f4.f3.f1, .string x.f4.f3.f2, .slice A5 x.f5.length c5, .slice A6 x.f6.length c6, .int .i64 1, .int .i64 x.f8] 34 (0, 0)) ∧ w'.heap[w.heap.size + 1]? = some (.cells #[.slice none 0 0, .int .i64 0, .int .i64 0] 49 (0, 0)) ∧ w'.heap[w.heap.size + 1 + 1]? = some (.cells #[.slice none 0 0, .int .i64 0, .int .i64 0] 49 (0, 0)) ∧ w'.heap[w.heap.size + 1 + 1 + 1]? = some (.cells #[.slice B d.f0.length c, .int .i64 d.f1, .int .i64 d.f2] 49 (0, 0)) ∧ (Kd.int .i64).R 3 w' w.heap.size (fun k_ => w.heap.size + 4 ≤ k_ ∧ k_ ≠ s_.2.2) (.slice s_.1 d.f0.length s_.2.1) d.f0 ∧ w'.heap[s_.2.2]? = some (.cells #[.slice none 0 0, .int .i64 0, .int .i64 0] 49 (0, 0)) ∧ w.heap.size + 4 ≤ s_.2.2) ?_ ?_
 rotate_left
 ·
  intro hCont
  refine two_ (i := 2) (j := 8) (Ni := some 88) (Nj := some 11) (Steps.Bs 10 127) (Steps.Bs 10 379) rfl rfl rfl rfl z1_ z10_ z10_ (fun K hK => ?_) (fun K hK => ?_)
  ·
   refine goes_ Try.func19 z1_ rfl #[.slice B d.f0.length c] z12_ rfl rfl z8_ ?_
   refine (PAll.raddlekeep_TwinInts.calls B c d.f0 d.f0 _ (aN HCB.out hb0) HLC.out (cM d.f0 (by have h : d.f0.length ≤ 12 := HDO.out.len; omega))).mono ?_
   rintro e W1 ⟨u, rfl, hru, hq⟩
   refine ⟨_, rfl, ?_⟩
   obtain ⟨Au, cu, rfl⟩ := bE hru
   have hrv := cF hru
   have hb1 := aG hb0 hq
   have bX1 := aC bX0 hq
   have bR1 := aC bR0 hq
   have bN1 := aC bN0 hq
   have bA1 := aC bA0 hq
   have hHeld1 : W1.cell? ⟨w.heap.size + 1 + 1 + 1, 0, none⟩ = some (.slice B d.f0.length c) ∧ W1.cell? ⟨w.heap.size + 1 + 1 + 1, 1, none⟩ = some (.int .i64 d.f1) ∧ W1.cell? ⟨w.heap.size + 1 + 1 + 1, 2, none⟩ = some (.int .i64 d.f2) ∧ True := ⟨aA bA1 0, aA bA1 1, aA bA1 2, trivial⟩
   have hl1 : w.heap.size + 4 ≤ W1.heap.size := aV bA1
   refine hK.out _ _ hHeld1 (fun _ => ?_)
   clear hK K
   refine nrm 88 ?_
   clear hq
   refine sI 7 93 10 255 ?_
   refine one_ (i := 8) (N := some 11) (Steps.Bs 10 511) rfl rfl z1_ z10_ (fun K hK => ?_)
   refine cK z12_ (N := 11) rfl (cs := #[.slice none 0 0, .int .i64 0, .int .i64 0]) (t := 49) z11_ ?_
   intro go hgo W2 bO hq
   have hb2 := aG hb1 hq
   have bX2 := aC bX1 hq
   have bR2 := aC bR1 hq
   have bN2 := aC bN1 hq
   have bA2 := aC bA1 hq
   have hHeld2 : W2.cell? ⟨w.heap.size + 1 + 1 + 1, 0, none⟩ = some (.slice B d.f0.length c) ∧ W2.cell? ⟨w.heap.size + 1 + 1 + 1, 1, none⟩ = some (.int .i64 d.f1) ∧ W2.cell? ⟨w.heap.size + 1 + 1 + 1, 2, none⟩ = some (.int .i64 d.f2) ∧ True := ⟨aA bA2 0, aA bA2 1, aA bA2 2, trivial⟩
   have hl2 : w.heap.size + 4 ≤ W2.heap.size := aV bA2
   refine hK.out _ _ hHeld2 (fun _ => ?_)
   clear hK K
   exact hCont (Au, cu, go) W2 ⟨hb2, bX2, bR2, bN2, bA2, bT (R_mono (bG hrv hq) (fun k hk => ⟨by have := hk.2.1; omega, by have := hk.2.2.1; show k ≠ go; omega⟩)) z5_, bO, by show _ ≤ go; omega⟩
  ·
   refine cK z12_ (N := 11) rfl (cs := #[.slice none 0 0, .int .i64 0, .int .i64 0]) (t := 49) z11_ ?_
   intro go hgo W1 bO hq
   have hb1 := aG hb0 hq
   have bX1 := aC bX0 hq
   have bR1 := aC bR0 hq
   have bN1 := aC bN0 hq
   have bA1 := aC bA0 hq
   have hHeld1 : W1.cell? ⟨w.heap.size + 1 + 1 + 1, 0, none⟩ = some (.slice B d.f0.length c) ∧ W1.cell? ⟨w.heap.size + 1 + 1 + 1, 1, none⟩ = some (.int .i64 d.f1) ∧ W1.cell? ⟨w.heap.size + 1 + 1 + 1, 2, none⟩ = some (.int .i64 d.f2) ∧ True := ⟨aA bA1 0, aA bA1 1, aA bA1 2, trivial⟩
   have hl1 : w.heap.size + 4 ≤ W1.heap.size := aV bA1
   refine hK.out _ _ hHeld1 (fun _ => ?_)
   clear hK K
   refine nrm 11 ?_
   have hlo := aV bO
   clear hq
   refine one_ (i := 2) (N := some 88) (Steps.Bs 10 383) rfl rfl z1_ z10_ (fun K hK => ?_)
   refine goes_ Try.func19 z1_ rfl #[.slice B d.f0.length c] z12_ rfl rfl z8_ ?_
   refine (PAll.raddlekeep_TwinInts.calls B c d.f0 d.f0 _ (aN HCB.out hb1) HLC.out (cM d.f0 (by have h : d.f0.length ≤ 12 := HDO.out.len; omega))).mono ?_
   rintro e W2 ⟨u, rfl, hru, hq⟩
   refine ⟨_, rfl, ?_⟩
   obtain ⟨Au, cu, rfl⟩ := bE hru
   have hrv := cF hru
   have bO2 := aC bO hq
   have hb2 := aG hb1 hq
   have bX2 := aC bX1 hq
   have bR2 := aC bR1 hq
   have bN2 := aC bN1 hq
   have bA2 := aC bA1 hq
   have hHeld2 : W2.cell? ⟨w.heap.size + 1 + 1 + 1, 0, none⟩ = some (.slice B d.f0.length c) ∧ W2.cell? ⟨w.heap.size + 1 + 1 + 1, 1, none⟩ = some (.int .i64 d.f1) ∧ W2.cell? ⟨w.heap.size + 1 + 1 + 1, 2, none⟩ = some (.int .i64 d.f2) ∧ True := ⟨aA bA2 0, aA bA2 1, aA bA2 2, trivial⟩
   have hl2 : w.heap.size + 4 ≤ W2.heap.size := aV bA2
   refine hK.out _ _ hHeld2 (fun _ => ?_)
   clear hK K
   refine nrm 88 ?_
   refine sI 7 93 10 511 ?_
   exact hCont (Au, cu, go) W2 ⟨hb2, bX2, bR2, bN2, bA2, bT (R_mono hrv (fun k hk => ⟨by have := hk.2.1; omega, by have := hk.2.1; show k ≠ go; omega⟩)) z5_, bO2, by show _ ≤ go; omega⟩
 rintro ⟨Au, cu, go⟩ W1 ⟨hb1, bX1, bR1, bN1, bA1, hru, bO1, hgo⟩
 replace hru : (Kd.int .i64).R 3 W1 w.heap.size (fun k_ => w.heap.size + 4 ≤ k_ ∧ k_ ≠ go) (.slice Au d.f0.length cu) d.f0 := hru
 replace bO1 : W1.heap[go]? = some (.cells #[.slice none 0 0, .int .i64 0, .int .i64 0] 49 (0, 0)) := bO1
 replace hgo : w.heap.size + 4 ≤ go := hgo
 refine norm_ (a' := ?_) ?_ ?_
 rotate_left
 ·
  simp only [putAll, Act.put, List.setIfInBounds_toArray, List.set_cons_zero, List.set_cons_succ]
  rfl
 have hc9_0 := aA bO1 0
 have hf9_0 := aD bO1 0
 have hc9_1 := aA bO1 1
 have hf9_1 := aD bO1 1
 have hc9_2 := aA bO1 2
 have hf9_2 := aD bO1 2
 refine last_ (i := 9) (N := none) (Steps.Bs 10 1023) rfl rfl z1_ z10_ (fun K hK => ?_)
 refine skip_ (w1 := ?_) z12_ rfl ?_ ?_
 rotate_left
 ·
  go_simp
  rfl
 refine hK.out _ _ ?_
 clear hK K
 obtain ⟨V, hV, hbV, bOV, hkeep⟩ := storeS hb1 z5_ bO1 (.slice Au d.f0.length cu) (.int .i64 d.f1) (.int .i64 d.f2)
 have hruV : (Kd.int .i64).R 3 V w.heap.size (fun k_ => w.heap.size + 4 ≤ k_ ∧ k_ ≠ go) (.slice Au d.f0.length cu) d.f0 := dO hru (fun k hk _ => hkeep k hk.2)
 rw [← hV]
 have bXV := (hkeep (w.heap.size) z5_).trans bX1
 have bRV := (hkeep (w.heap.size + 1) z5_).trans bR1
 have bNV := (hkeep (w.heap.size + 1 + 1) z5_).trans bN1
 have bAV := (hkeep (w.heap.size + 1 + 1 + 1) z5_).trans bA1
 clear hV hkeep hru hc9_0 hc9_1 hc9_2 hf9_0 hf9_1 hf9_2 bX1 bR1 bN1 bA1 bO1 hb1 bX0 bR0 bN0 bA0 hb0 hHeld0 hl0
 refine done_ z1_ ?_
 have hO0V := aA bOV
 have hR0V := aA bRV
 have hA0V := aA bAV
 have fO0V := aD bOV
 have fR0V := aD bRV
 have fA0V := aD bAV
 have hX0V := aA bXV
 by_cases hp : places x.f5 d.f0.length = true
 case neg =>
  obtain rfl : (zN, (1 : Int)) = r := by rw [← HZ.out, if_neg (fun e => hp e)]
  have HPK1 := mk_ (HPA.out.trans (by rw [if_neg hp]))
  clear HPA HZ hp
  go_wp2_with (first | (go_at_call 37; refine (PAll.raddleref14_pick.calls (x.f5.length + 1) B c d.f0 A5 c5 x.f5 [] false V (aN HCB.out hbV) HLC.out (aN HC5.out hbV) HC5L.out HPK1.out).mono ?_; rintro e V1 ⟨u1, rfl, hr1, hq1⟩; obtain ⟨A7, c7, rfl⟩ := bE hr1; have hbV1 := aG hbV hq1; have bXV1 := aC bXV hq1; have bRV1 := aC bRV hq1; have bNV1 := aC bNV hq1; have bAV1 := aC bAV hq1; have bOV1 := aC bOV hq1; have hO0V1 := aA bOV1; have hR0V1 := aA bRV1; have hN0V1 := aA bNV1; have hA0V1 := aA bAV1; have hX0V1 := aA bXV1; have fO0V1 := aD bOV1; have fR0V1 := aD bRV1; have fN0V1 := aD bNV1; have fA0V1 := aD bAV1; have fX0V1 := aD bXV1))
  all_goals refine bodyPost_ret (aT rfl _ _ _ 49 #[.slice none 0 0, .int .i64 0, .int .i64 0] (0, 0) _ rfl (blkS (by repeat (first | exact bRV1 | (with_reducible refine aX ?_ _))) _ _ _) Try.underlying49 rfl z1_) rfl ?_
  all_goals exact GotB.zero (aI (aI (aI (by repeat (first | exact hbV1 | (with_reducible refine aZ ?_ _))) z5_) z5_) z5_)
 have HPK1 := mk_ (HPA.out.trans (by rw [if_pos hp]))
 clear HPA
 obtain ⟨pa, hpa⟩ : ∃ pa, pa = pick d.f0 x.f5 := ⟨_, rfl⟩
 have HPAL := mk_ (show pa.length = x.f5.length by rw [hpa, dF])
 rw [← hpa] at HPK1
 have HPE := mk_ hpa
 clear hpa
 have HZ2 := mk_ (HZ.out.symm.trans (if_pos hp))
 clear HZ hp
 by_cases h12 : x.f5.length ≥ 12
 case pos =>
  obtain rfl : (zN, (2 : Int)) = r := by rw [HZ2.out, if_pos h12]
  have hd1 : decide ((12 : Int) ≤ (pa.length : Int)) = true := decide_eq_true (by have := HPAL.out; omega)
  have hd2 : decide (12 ≤ pa.length) = true := decide_eq_true (by have := HPAL.out; omega)
  clear h12
  go_wp2_with (first | (go_at_call 37; refine (PAll.raddleref14_pick.calls (x.f5.length + 1) B c d.f0 A5 c5 x.f5 pa true V (aN HCB.out hbV) HLC.out (aN HC5.out hbV) HC5L.out HPK1.out).mono ?_; rintro e V1 ⟨u1, rfl, hr1, hq1⟩; obtain ⟨A7, c7, rfl⟩ := bE hr1; have hbV1 := aG hbV hq1; have bXV1 := aC bXV hq1; have bRV1 := aC bRV hq1; have bNV1 := aC bNV hq1; have bAV1 := aC bAV hq1; have bOV1 := aC bOV hq1; have hO0V1 := aA bOV1; have hR0V1 := aA bRV1; have hN0V1 := aA bNV1; have hA0V1 := aA bAV1; have hX0V1 := aA bXV1; have fO0V1 := aD bOV1; have fR0V1 := aD bRV1; have fN0V1 := aD bNV1; have fA0V1 := aD bAV1; have fX0V1 := aD bXV1) | (go_at_call 26; (with_reducible show Calls _ _ #[.int .i64 1, .int .i64 1, .int .i64 4] _ _); refine (PAll.raddleref14_in.calls 1 1 4 true _ HAG.out).mono ?_; rintro e w' ⟨rfl, ⟨m4, rfl⟩⟩))
  all_goals refine bodyPost_ret (aT rfl _ _ _ 49 #[.slice none 0 0, .int .i64 0, .int .i64 0] (0, 0) _ rfl (blkS (by repeat (first | exact bRV1 | (with_reducible refine aX ?_ _))) _ _ _) Try.underlying49 rfl z1_) rfl ?_
  all_goals exact GotB.zero (aI (aI (aI (by repeat (first | exact hbV1 | (with_reducible refine aZ ?_ _))) z5_) z5_) z5_)
 have hd1 : decide ((12 : Int) ≤ (pa.length : Int)) = false := decide_eq_false (by have := HPAL.out; omega)
 have hd2 : decide (12 ≤ pa.length) = false := decide_eq_false (by have := HPAL.out; omega)
 have HZ3 := mk_ (HZ2.out.trans (if_neg h12))
 clear h12 HZ2
 have hv1 : d.f2 ≤ 1152921504606846976 := HDO.out.v2
 have hw1 : d.f1 ≤ 1125899906842624 := HDO.out.w2
 have hdw : decide ((1125899906842624 : Int) < d.f1) = false := decide_eq_false z5_
 obtain rfl : ((pick d.f0 x.f5 ++ [3], d.f1, max d.f2 d.f1), (0 : Int)) = r := HZ3.out.symm
 have hdv : decide ((1152921504606846976 : Int) < max d.f2 d.f1) = false := decide_eq_false z5_
 clear hv1 hw1
 go_wp2_with (first | (go_at_call 37; refine (PAll.raddleref14_pick.calls (x.f5.length + 1) B c d.f0 A5 c5 x.f5 pa true V (aN HCB.out hbV) HLC.out (aN HC5.out hbV) HC5L.out HPK1.out).mono ?_; rintro e V1 ⟨u1, rfl, hr1, hq1⟩; obtain ⟨A7, c7, rfl⟩ := bE hr1; have hbV1 := aG hbV hq1; have bXV1 := aC bXV hq1; have bRV1 := aC bRV hq1; have bNV1 := aC bNV hq1; have bAV1 := aC bAV hq1; have bOV1 := aC bOV hq1; have hO0V1 := aA bOV1; have hR0V1 := aA bRV1; have hN0V1 := aA bNV1; have hA0V1 := aA bAV1; have hX0V1 := aA bXV1; have fO0V1 := aD bOV1; have fR0V1 := aD bRV1; have fN0V1 := aD bNV1; have fA0V1 := aD bAV1; have fX0V1 := aD bXV1) | (go_at_call 26; (with_reducible show Calls _ _ #[.int .i64 1, .int .i64 1, .int .i64 4] _ _); refine (PAll.raddleref14_in.calls 1 1 4 true _ HAG.out).mono ?_; rintro e w' ⟨rfl, ⟨m4, rfl⟩⟩))
 have hrp : (Kd.int .i64).R 3 V1 w.heap.size (fun k => w.heap.size + 4 ≤ k ∧ k ≠ go) (.slice A7 pa.length c7) pa := bT (R_mono (cF hr1) (fun k hk => ⟨by have := hk.2.1; have := aV bOV; omega, by have := hk.2.1; have := aV bOV; omega⟩)) (by have := aV bOV; omega)
 refine cG (n := 12) (S := fun w' => w'.cell? ⟨w.heap.size + 1 + 1 + 1, 2, none⟩ = some (.int .i64 d.f2) ∧ w'.cell? ⟨w.heap.size + 1 + 1 + 1, 1, none⟩ = some (.int .i64 d.f1) ∧ True) (ds := [11]) (fun W => Below w.heap.size w W ∧ W.heap[w.heap.size]? = some (.cells #[.int .i64 8, .int .i64 (k : Int), .int .i64 x.f2, .int .i64 x.f3, .int .i64 x.f4.f0, .int .i64 x.f4.f1, .int .i64 x.f4.f2, .int .i64 x.f4.f3.f0, .int .i64 x.f4.f3.f1, .string x.f4.f3.f2, .slice A5 x.f5.length c5, .slice A6 x.f6.length c6, .int .i64 1, .int .i64 x.f8] 34 (0, 0)) ∧ W.heap[w.heap.size + 1]? = some (.cells #[.slice none 0 0, .int .i64 0, .int .i64 0] 49 (0, 0)) ∧ W.heap[w.heap.size + 1 + 1]? = some (.cells #[.slice none 0 0, .int .i64 0, .int .i64 0] 49 (0, 0)) ∧ W.heap[w.heap.size + 1 + 1 + 1]? = some (.cells #[.slice B d.f0.length c, .int .i64 d.f1, .int .i64 d.f2] 49 (0, 0)) ∧ W.heap[go]? = some (.cells #[.slice Au d.f0.length cu, .int .i64 d.f1, .int .i64 d.f2] 49 (0, 0)) ∧ Below V1.heap.size V1 W) (Steps.Bs 12 0) z1_ rfl rfl ⟨bP (by repeat (first | exact hbV1 | (with_reducible refine aZ ?_ _) | (with_reducible refine bP ?_))), aU (by repeat (first | exact bXV1 | (with_reducible refine aX ?_ _) | (with_reducible refine aU ?_))), aU (by repeat (first | exact bRV1 | (with_reducible refine aX ?_ _) | (with_reducible refine aU ?_))), aU (by repeat (first | exact bNV1 | (with_reducible refine aX ?_ _) | (with_reducible refine aU ?_))), aU (by repeat (first | exact bAV1 | (with_reducible refine aX ?_ _) | (with_reducible refine aU ?_))), aU (by repeat (first | exact bOV1 | (with_reducible refine aX ?_ _) | (with_reducible refine aU ?_))), bP (by repeat (first | exact (Below.refl _ _) | (with_reducible refine aZ ?_ _) | (with_reducible refine bP ?_)))⟩ (fun W hJ => ?_) (fun W0 hJ => ?_)
 ·
  obtain ⟨hb0, bX0, bR0, bN0, bA0, bO0, hbv⟩ := hJ
  exact ⟨aA bA0 2, aA bA0 1, trivial⟩
 obtain ⟨hb0, bX0, bR0, bN0, bA0, bO0, hbv⟩ := hJ
 have hHeld0 : W0.cell? ⟨w.heap.size + 1 + 1 + 1, 2, none⟩ = some (.int .i64 d.f2) ∧ W0.cell? ⟨w.heap.size + 1 + 1 + 1, 1, none⟩ = some (.int .i64 d.f1) ∧ True := ⟨aA bA0 2, aA bA0 1, trivial⟩
 have hl0 : w.heap.size + 4 ≤ W0.heap.size := aV bA0
 refine sI 0 287 12 1 ?_
 refine sI 3 290 12 9 ?_
 refine sT hHeld0 4 291 12 25 ?_
 refine sI 5 292 12 57 ?_
 refine sT hHeld0 6 293 12 121 ?_
 refine sI 7 294 12 249 ?_
 have hrp0 := bG hrp hbv
 refine one_ (i := 1) (N := (some 288)) (Steps.Bs 12 251) rfl rfl z1_ z10_ (fun K hK => ?_)
 refine fC (w1 := ?_) (v := ?_) z12_ rfl ?_ ?_
 rotate_left 2
 ·
  go_simp
  constructor
  ·
   rfl
  ·
   rfl
 obtain ⟨W1, hW⟩ : ∃ V_ : World, V_ = W0.alloc (.cells #[.int .i64 3] 3) := ⟨_, rfl⟩
 rw [← hW]
 have hq : Below W0.heap.size W0 W1 := by rw [hW]; exact aM (Below.refl _ _) _
 have hG : W1.heap[W0.heap.size]? = some (.cells #[.int .i64 3] 3 (0, 0)) := by rw [hW]; exact cJ _ _
 clear hW
 have bX1 := aC bX0 hq
 have bR1 := aC bR0 hq
 have bN1 := aC bN0 hq
 have bA1 := aC bA0 hq
 have bO1 := aC bO0 hq
 have hb1 := aG hb0 hq
 have hHeld1 : W1.cell? ⟨w.heap.size + 1 + 1 + 1, 2, none⟩ = some (.int .i64 d.f2) ∧ W1.cell? ⟨w.heap.size + 1 + 1 + 1, 1, none⟩ = some (.int .i64 d.f1) ∧ True := ⟨aA bA1 2, aA bA1 1, trivial⟩
 have hl1 : w.heap.size + 4 ≤ W1.heap.size := aV bA1
 refine hK.out _ _ hHeld1 (fun _ => ?_)
 clear hK K
 refine nrm 288 ?_
 have hrp1 := bG hrp0 hq
 have hown : ∀ k, (Value.slice A7 pa.length c7).ownBlock = some k → w.heap.size + 4 ≤ k ∧ k ≠ go := fun k hk => hrp.1 k hk
 refine one_ (i := 2) (N := (some 289)) (Steps.Bs 12 255) rfl rfl z1_ z10_ (fun K hK => ?_)
 refine cU (Kd.int .i64) (w0 := w) w.heap.size z12_ (.tmp 287) (.tmp 288) 32 3 (.int .i64 0) 8 rfl Try.underlying32 PAll.info3 rfl z10_ z5_ (.slice A7 pa.length c7) pa [3] (some ⟨W0.heap.size, 0, none⟩) 1 1 (fun k_ => w.heap.size + 4 ≤ k_ ∧ k_ ≠ go) (fun _ => False) rfl rfl hrp1 (eD hG) (fun _ _ h => h) (fun _ h => h.elim) (fun k hk => ⟨by omega, by have := aV bO1; omega⟩) hb1 hb1.size (by have := HPAL.out; have := HL5.out; omega) ?_
 intro v2 W2 hr2 hb2 hg2 _
 obtain ⟨A9, c9, rfl⟩ := bE hr2
 rw [List.length_append, List.length_singleton] at hr2
 have bX2 : W2.heap[w.heap.size]? = _ := (hg2.block _ (aV bX1) (fun e => by have := hown _ e.symm; omega)).trans bX1
 have bR2 : W2.heap[w.heap.size + 1]? = _ := (hg2.block _ (aV bR1) (fun e => by have := hown _ e.symm; omega)).trans bR1
 have bN2 : W2.heap[w.heap.size + 1 + 1]? = _ := (hg2.block _ (aV bN1) (fun e => by have := hown _ e.symm; omega)).trans bN1
 have bA2 : W2.heap[w.heap.size + 1 + 1 + 1]? = _ := (hg2.block _ (aV bA1) (fun e => by have := hown _ e.symm; omega)).trans bA1
 have bO2 : W2.heap[go]? = _ := (hg2.block _ (aV bO1) (fun e => by have := hown _ e.symm; omega)).trans bO1
 have hHeld2 : W2.cell? ⟨w.heap.size + 1 + 1 + 1, 2, none⟩ = some (.int .i64 d.f2) ∧ W2.cell? ⟨w.heap.size + 1 + 1 + 1, 1, none⟩ = some (.int .i64 d.f1) ∧ True := ⟨aA bA2 2, aA bA2 1, trivial⟩
 have hl2 : w.heap.size + 4 ≤ W2.heap.size := aV bA2
 refine hK.out _ _ hHeld2 (fun _ => ?_)
 clear hK K
 refine nrm 289 ?_
 refine sI 8 295 12 511 ?_
 have hco9 := aA bO2 0
 have hfo9 := aD bO2 0
 refine one_ (i := 9) (N := none) (Steps.Bs 12 1023) rfl rfl z1_ z10_ (fun K hK => ?_)
 refine skip_ (w1 := ?_) z12_ rfl ?_ ?_
 rotate_left
 ·
  go_simp
  rfl
 obtain ⟨W3, hW⟩ : ∃ V_ : World, V_ = W2.setCell ⟨go, 0, none⟩ (.slice A9 (pa.length + 1) c9) := ⟨_, rfl⟩
 rw [← hW]
 have hk : ∀ k, k ≠ go → W3.heap[k]? = W2.heap[k]? := fun k hk => by rw [hW]; exact Below.heap_setCell _ _ _ k hk
 have bO3 : W3.heap[go]? = some (.cells #[.slice A9 (pa.length + 1) c9, .int .i64 d.f1, .int .i64 d.f2] 49 (0, 0)) := by rw [hW]; exact bS bO2 _
 have hb3 : Below w.heap.size w W3 := by rw [hW]; exact aI hb2 z5_
 have bX3 := (hk (w.heap.size) z5_).trans bX2
 have bR3 := (hk (w.heap.size + 1) z5_).trans bR2
 have bN3 := (hk (w.heap.size + 1 + 1) z5_).trans bN2
 have bA3 := (hk (w.heap.size + 1 + 1 + 1) z5_).trans bA2
 have hr3 : (Kd.int .i64).R 3 W3 w.heap.size (fun k_ => w.heap.size + 4 ≤ k_ ∧ k_ ≠ go) (.slice A9 (pa.length + 1) c9) (pa ++ [3]) := dO hr2 (fun k hk_ _ => hk k hk_.2)
 clear hW hk hco9 hfo9
 have hHeld3 : W3.cell? ⟨w.heap.size + 1 + 1 + 1, 2, none⟩ = some (.int .i64 d.f2) ∧ W3.cell? ⟨w.heap.size + 1 + 1 + 1, 1, none⟩ = some (.int .i64 d.f1) ∧ True := ⟨aA bA3 2, aA bA3 1, trivial⟩
 refine hK.out _ _ hHeld3 (fun _ => ?_)
 clear hK K
 refine sI 10 296 12 2047 ?_
 have hco11 := aA bO3 2
 have hfo11 := aD bO3 2
 refine last_ (i := 11) (N := none) (Steps.Bs 12 4095) rfl rfl z1_ z10_ (fun K hK => ?_)
 refine skip_ (w1 := ?_) z12_ rfl ?_ ?_
 rotate_left
 ·
  go_simp
  rfl
 refine hK.out _ _ ?_
 clear hK K
 obtain ⟨W4, hW⟩ : ∃ V_ : World, V_ = W3.setCell ⟨go, 2, none⟩ (.int .i64 (max d.f2 d.f1)) := ⟨_, rfl⟩
 rw [← hW]
 have hk : ∀ k, k ≠ go → W4.heap[k]? = W3.heap[k]? := fun k hk => by rw [hW]; exact Below.heap_setCell _ _ _ k hk
 have bO4 : W4.heap[go]? = some (.cells #[.slice A9 (pa.length + 1) c9, .int .i64 d.f1, .int .i64 (max d.f2 d.f1)] 49 (0, 0)) := by rw [hW]; exact bS bO3 _
 have hb4 : Below w.heap.size w W4 := by rw [hW]; exact aI hb3 z5_
 have bX4 := (hk (w.heap.size) z5_).trans bX3
 have bR4 := (hk (w.heap.size + 1) z5_).trans bR3
 have bN4 := (hk (w.heap.size + 1 + 1) z5_).trans bN3
 have bA4 := (hk (w.heap.size + 1 + 1 + 1) z5_).trans bA3
 have hr4 : (Kd.int .i64).R 3 W4 w.heap.size (fun k_ => w.heap.size + 4 ≤ k_ ∧ k_ ≠ go) (.slice A9 (pa.length + 1) c9) (pa ++ [3]) := dO hr3 (fun k hk_ _ => hk k hk_.2)
 clear hW hk hco11 hfo11
 refine done_ z1_ ?_
 have hO04 := aA bO4
 have hR04 := aA bR4
 have hN04 := aA bN4
 have fO04 := aD bO4
 have fR04 := aD bR4
 have fN04 := aD bN4
 go_wp2
 refine bodyPost_ret (aT rfl _ _ _ 49 #[.slice A9 (pa.length + 1) c9, .int .i64 d.f1, .int .i64 (max d.f2 d.f1)] (0, 0) _ rfl (blkS bR4 _ _ _) Try.underlying49 rfl z1_) rfl ?_
 rw [← HPE.out]
 exact GotB.stored (d := (pa ++ [3], d.f1, max d.f2 d.f1)) (R_mono hr4 (fun k hk => hk.1)) hb4 _ _ _
theorem node8_3 (hC1 : Kd.C k54 w A1 f.length f) (hl1 : f.length ≤ c1) (hf : FOk f) (hC2 : Kd.C k49 w A2 ds.length ds) (hl2 : ds.length ≤ c2) (hl : ds.length ≤ 1000) (hds : ∀ d ∈ rows ds, NdOk d) (hC5 : Kd.C (Kd.int .i64) w A5 x.f5.length x.f5) (hC5L : x.f5.length ≤ c5) (hL5 : x.f5.length ≤ 1000) (hC6 : Kd.C (Kd.int .i64) w A6 x.f6.length x.f6) (hC6L : x.f6.length ≤ c6) (hL6 : x.f6.length ≤ 1000) (m : Int) (h7 : x.f7 = m) (hm : 3 ≤ m ∧ m ≤ 4) :
  Calls Try.prog 27 #[.agg #[.int .i64 8, .int .i64 x.f1, .int .i64 x.f2, .int .i64 x.f3, .int .i64 x.f4.f0, .int .i64 x.f4.f1, .int .i64 x.f4.f2, .int .i64 x.f4.f3.f0, .int .i64 x.f4.f3.f1, .string x.f4.f3.f2, .slice A5 x.f5.length c5, .slice A6 x.f6.length c6, .int .i64 m, .int .i64 x.f8], .slice A1 f.length c1, .slice A2 ds.length c2] w (GotB w (groupN (rows ds) x)) := by
 have HC1 := mk_ hC1
 have HC2 := mk_ hC2
 have HC5 := mk_ hC5
 have HC5L := mk_ hC5L
 have HL5 := mk_ hL5
 have HC6 := mk_ hC6
 have HC6L := mk_ hC6L
 have HL6 := mk_ hL6
 have hsub : IntKind.i64.wrap ((ds.length : Int) - 1) = (ds.length : Int) - 1 := IntWalk.i64_in _ z5_
 have HI0 := mk_ (show raddleref14_in.f 8 1 8 = some true from bL 8 1 8)
 have hsp : groupN (rows ds) x = if ahead (rows ds) x.f1 = true then (if places x.f5 (nth (rows ds) x.f1).1.length = true ∧ inn x.f8 (nth (rows ds) x.f1).1.length then (if x.f5.length ≥ 12 then (zN, 2) else ((pick (nth (rows ds) x.f1).1 x.f5 ++ [rd (nth (rows ds) x.f1).1 x.f8], (nth (rows ds) x.f1).2), 0)) else (zN, 1)) else (zN, 1) := by
  unfold groupN
  by_cases ha : ahead (rows ds) x.f1 = true
  ·
   rw [if_pos ⟨ha, by omega, by omega⟩, if_pos ha]
   by_cases hp : places x.f5 (nth (rows ds) x.f1).1.length = true ∧ inn x.f8 (nth (rows ds) x.f1).1.length
   ·
    rw [if_pos ⟨hp.1, .inr hp.2⟩, if_pos hp]
    by_cases h12 : x.f5.length ≥ 12
    ·
     rw [if_pos h12, if_pos h12]
    ·
     rw [if_neg h12, if_neg h12, if_neg (fun e => by have := e.1; omega), if_neg z5_, if_neg z5_]
   ·
    rw [if_neg (fun e => hp ⟨e.1, e.2.elim (fun e => by omega) id⟩), if_neg hp]
  ·
   rw [if_neg (fun e => ha e.1), if_neg ha]
 rw [hsp]
 clear hsp
 have HAG := mk_ (show raddleref14_in.f m 1 4 = some true from by rw [bL, decide_eq_true]; omega)
 have hm1 : decide (m < 1) = false := decide_eq_false z5_
 have hm2 : decide (4 < m) = false := decide_eq_false z5_
 have hm3 : (m < 1) = False := eq_false z5_
 have hm4 : (4 < m) = False := eq_false z5_
 have hm5 : (m = 1) = False := eq_false z5_
 have hm6 : (m = 2) = False := eq_false z5_
 have hm7 : (m != 1) = true := bne_iff_ne.2 z5_
 have hm8 : (m == 1) = false := beq_eq_false_iff_ne.2 z5_
 have hm9 : (m == 2) = false := beq_eq_false_iff_ne.2 z5_
 have hm10 : decide (m = 1) = false := decide_eq_false z5_
 have hm11 : decide (m = 2) = false := decide_eq_false z5_
 clear hm
 by_cases ha : ahead (rows ds) x.f1 = true
 case neg =>
  rw [if_neg ha]
  have HIA := mk_ (show raddleref14_in.f x.f1 0 ((ds.length : Int) - 1) = some false from by rw [bL, decide_eq_false]; unfold ahead at ha; rw [cP] at ha; intro e; exact ha (decide_eq_true z5_))
  clear ha hC1 hC2 hC5 hC5L hL5 hC6 hC6L hL6
  go_enter Try.func27, Try.ntmps27
  go_wp2_with (first | (go_at_call 26; (with_reducible show Calls _ _ #[.int .i64 8, .int .i64 1, .int .i64 8] _ _); refine (PAll.raddleref14_in.calls 8 1 8 true _ HI0.out).mono ?_; rintro e w' ⟨rfl, ⟨m0, rfl⟩⟩) | (go_at_call 26; (with_reducible show Calls _ _ #[.int .i64 x.f1, .int .i64 0, _] _ _); refine (PAll.raddleref14_in.calls x.f1 0 ((ds.length : Int) - 1) false _ HIA.out).mono ?_; rintro e w' ⟨rfl, ⟨m1, rfl⟩⟩))
  refine bodyPost_ret (aT rfl _ _ _ 49 #[.slice none 0 0, .int .i64 0, .int .i64 0] (0, 0) _ rfl (blkS (x := .slice none 0 0) (y := .int .i64 0) (z := .int .i64 0) z2_ _ _ _) Try.underlying49 rfl z1_) rfl ?_
  exact GotB.zero z0_
 rw [if_pos ha]
 obtain ⟨k, hk⟩ := Int.eq_ofNat_of_zero_le (of_decide_eq_true ha).1
 rw [hk] at ha ⊢
 obtain ⟨hk0, hk1⟩ : 0 ≤ (k : Int) ∧ (k : Int) < (ds.length : Int) := by have := of_decide_eq_true ha; rw [cP] at this; exact this
 obtain ⟨ad, B, c, hA2, h0, h1, h2, hlc, hCB⟩ := eI hC2 (k : Int) hk0 hk1
 rw [cV ds k z5_]
 have hdok : NdOk (toNd (aQ ds (k : Int))) := by rw [← cV ds k z5_]; exact cY hds ha
 have HIA := mk_ (show raddleref14_in.f (k : Int) 0 ((ds.length : Int) - 1) = some true from by rw [bL, decide_eq_true]; omega)
 subst hA2
 simp only [Int.toNat_natCast] at h0 h1 h2
 have HCB := mk_ hCB
 have HLC := mk_ hlc
 have HDO := mk_ hdok
 have hb2 : (0 ≤ (k : Int)) = True := eq_true hk0
 have hb3 : ((k : Int) < (ds.length : Int)) = True := eq_true hk1
 have h0p := al3 h0
 have h0q := al4 h0
 have h1p := al3 h1
 have h1q := al4 h1
 have h2p := al3 h2
 have h2q := al4 h2
 clear hC1 hC2 hC5 hC5L hL5 hC6 hC6L hL6 hk0 hk1 ha hk hCB hlc hdok
 generalize aQ ds (k : Int) = d at *
 generalize hz : ((if places x.f5 (toNd d).1.length = true ∧ inn x.f8 (toNd d).1.length then (if x.f5.length ≥ 12 then (zN, 2) else ((pick (toNd d).1 x.f5 ++ [rd (toNd d).1 x.f8], (toNd d).2), 0)) else (zN, 1) : Nd × Int)) = r
 replace hz : (if places x.f5 d.f0.length = true ∧ inn x.f8 d.f0.length then (if x.f5.length ≥ 12 then (zN, 2) else ((pick d.f0 x.f5 ++ [rd d.f0 x.f8], d.f1, d.f2), 0)) else (zN, 1) : Nd × Int) = r := hz
 have HZ := mk_ hz
 clear hz
 have hl12 : d.f0.length ≤ 12 := HDO.out.len
 have hsubd : IntKind.i64.wrap ((d.f0.length : Int) - 1) = (d.f0.length : Int) - 1 := IntWalk.i64_in _ z5_
 have HPA := mk_ (eT (x.f5.length + 1) d.f0 x.f5 z5_ (by have := HL5.out; omega) z5_)
 have HL12 := mk_ hl12
 clear hl12
 go_enter Try.func27, Try.ntmps27
 go_wp2_with (first | (go_at_call 26; (with_reducible show Calls _ _ #[.int .i64 8, .int .i64 1, .int .i64 8] _ _); refine (PAll.raddleref14_in.calls 8 1 8 true _ HI0.out).mono ?_; rintro e w' ⟨rfl, ⟨m0, rfl⟩⟩) | (go_at_call 26; (with_reducible show Calls _ _ #[.int .i64 (k : Int), .int .i64 0, _] _ _); refine (PAll.raddleref14_in.calls (k : Int) 0 ((ds.length : Int) - 1) true _ HIA.out).mono ?_; rintro e w' ⟨rfl, ⟨m1, rfl⟩⟩))
 refine cG (n := 10) (S := fun w' => w'.cell? ⟨w.heap.size + 1 + 1 + 1, 0, none⟩ = some (.slice B d.f0.length c) ∧ w'.cell? ⟨w.heap.size + 1 + 1 + 1, 1, none⟩ = some (.int .i64 d.f1) ∧ w'.cell? ⟨w.heap.size + 1 + 1 + 1, 2, none⟩ = some (.int .i64 d.f2) ∧ True) (ds := [9]) (fun W => Below w.heap.size w W ∧ W.heap[w.heap.size]? = some (.cells #[.int .i64 8, .int .i64 (k : Int), .int .i64 x.f2, .int .i64 x.f3, .int .i64 x.f4.f0, .int .i64 x.f4.f1, .int .i64 x.f4.f2, .int .i64 x.f4.f3.f0, .int .i64 x.f4.f3.f1, .string x.f4.f3.f2, .slice A5 x.f5.length c5, .slice A6 x.f6.length c6, .int .i64 m, .int .i64 x.f8] 34 (0, 0)) ∧ W.heap[w.heap.size + 1]? = some (.cells #[.slice none 0 0, .int .i64 0, .int .i64 0] 49 (0, 0)) ∧ W.heap[w.heap.size + 1 + 1]? = some (.cells #[.slice none 0 0, .int .i64 0, .int .i64 0] 49 (0, 0)) ∧ W.heap[w.heap.size + 1 + 1 + 1]? = some (.cells #[.slice B d.f0.length c, .int .i64 d.f1, .int .i64 d.f2] 49 (0, 0))) (Steps.Bs 10 0) z1_ rfl rfl ⟨z0_, z2_, z2_, z2_, z2_⟩ (fun W hJ => ?_) (fun W0 hJ => ?_)
 ·
  obtain ⟨hb0, bX0, bR0, bN0, bA0⟩ := hJ
  exact ⟨aA bA0 0, aA bA0 1, aA bA0 2, trivial⟩
 obtain ⟨hb0, bX0, bR0, bN0, bA0⟩ := hJ
 have hHeld0 : W0.cell? ⟨w.heap.size + 1 + 1 + 1, 0, none⟩ = some (.slice B d.f0.length c) ∧ W0.cell? ⟨w.heap.size + 1 + 1 + 1, 1, none⟩ = some (.int .i64 d.f1) ∧ W0.cell? ⟨w.heap.size + 1 + 1 + 1, 2, none⟩ = some (.int .i64 d.f2) ∧ True := ⟨aA bA0 0, aA bA0 1, aA bA0 2, trivial⟩
 have hl0 : w.heap.size + 4 ≤ W0.heap.size := aV bA0
 refine sI 0 86 10 1 ?_
 refine sT hHeld0 1 87 10 3 ?_
 refine sI 3 89 10 11 ?_
 refine sT hHeld0 4 90 10 27 ?_
 refine sI 5 91 10 59 ?_
 refine sT hHeld0 6 92 10 123 ?_
 refine join_ (σ := Option Addr × Nat × Nat) 1 (Steps.Bs 10 511) (fun s_ => [(88, .slice s_.1 d.f0.length s_.2.1), (11, .pointer (some ⟨s_.2.2, 0, none⟩)), (93, .agg #[.slice s_.1 d.f0.length s_.2.1, .int .i64 d.f1, .int .i64 d.f2])]) (fun s_ w' => Below w.heap.size w w' ∧ w'.heap[w.heap.size]? = some (.cells #[.int .i64 8, .int .i64 (k : Int), .int .i64 x.f2, .int .i64 x.f3, .int .i64 x.f4.f0, .int .i64 x.f4.f1, .int .i64 x.f4.f2, .int .i64 x.f4.f3.f0, .int .i64 x.f4.f3.f1, .string x.f4.f3.f2, .slice A5 x.f5.length c5, .slice A6 x.f6.length c6, .int .i64 m, .int .i64 x.f8] 34 (0, 0)) ∧ w'.heap[w.heap.size + 1]? = some (.cells #[.slice none 0 0, .int .i64 0, .int .i64 0] 49 (0, 0)) ∧ w'.heap[w.heap.size + 1 + 1]? = some (.cells #[.slice none 0 0, .int .i64 0, .int .i64 0] 49 (0, 0)) ∧ w'.heap[w.heap.size + 1 + 1 + 1]? = some (.cells #[.slice B d.f0.length c, .int .i64 d.f1, .int .i64 d.f2] 49 (0, 0)) ∧ (Kd.int .i64).R 3 w' w.heap.size (fun k_ => w.heap.size + 4 ≤ k_ ∧ k_ ≠ s_.2.2) (.slice s_.1 d.f0.length s_.2.1) d.f0 ∧ w'.heap[s_.2.2]? = some (.cells #[.slice none 0 0, .int .i64 0, .int .i64 0] 49 (0, 0)) ∧ w.heap.size + 4 ≤ s_.2.2) ?_ ?_
 rotate_left
 ·
  intro hCont
  refine two_ (i := 2) (j := 8) (Ni := some 88) (Nj := some 11) (Steps.Bs 10 127) (Steps.Bs 10 379) rfl rfl rfl rfl z1_ z10_ z10_ (fun K hK => ?_) (fun K hK => ?_)
  ·
   refine goes_ Try.func19 z1_ rfl #[.slice B d.f0.length c] z12_ rfl rfl z8_ ?_
   refine (PAll.raddlekeep_TwinInts.calls B c d.f0 d.f0 _ (aN HCB.out hb0) HLC.out (cM d.f0 (by have h : d.f0.length ≤ 12 := HDO.out.len; omega))).mono ?_
   rintro e W1 ⟨u, rfl, hru, hq⟩
   refine ⟨_, rfl, ?_⟩
   obtain ⟨Au, cu, rfl⟩ := bE hru
   have hrv := cF hru
   have hb1 := aG hb0 hq
   have bX1 := aC bX0 hq
   have bR1 := aC bR0 hq
   have bN1 := aC bN0 hq
   have bA1 := aC bA0 hq
   have hHeld1 : W1.cell? ⟨w.heap.size + 1 + 1 + 1, 0, none⟩ = some (.slice B d.f0.length c) ∧ W1.cell? ⟨w.heap.size + 1 + 1 + 1, 1, none⟩ = some (.int .i64 d.f1) ∧ W1.cell? ⟨w.heap.size + 1 + 1 + 1, 2, none⟩ = some (.int .i64 d.f2) ∧ True := ⟨aA bA1 0, aA bA1 1, aA bA1 2, trivial⟩
   have hl1 : w.heap.size + 4 ≤ W1.heap.size := aV bA1
   refine hK.out _ _ hHeld1 (fun _ => ?_)
   clear hK K
   refine nrm 88 ?_
   clear hq
   refine sI 7 93 10 255 ?_
   refine one_ (i := 8) (N := some 11) (Steps.Bs 10 511) rfl rfl z1_ z10_ (fun K hK => ?_)
   refine cK z12_ (N := 11) rfl (cs := #[.slice none 0 0, .int .i64 0, .int .i64 0]) (t := 49) z11_ ?_
   intro go hgo W2 bO hq
   have hb2 := aG hb1 hq
   have bX2 := aC bX1 hq
   have bR2 := aC bR1 hq
   have bN2 := aC bN1 hq
   have bA2 := aC bA1 hq
   have hHeld2 : W2.cell? ⟨w.heap.size + 1 + 1 + 1, 0, none⟩ = some (.slice B d.f0.length c) ∧ W2.cell? ⟨w.heap.size + 1 + 1 + 1, 1, none⟩ = some (.int .i64 d.f1) ∧ W2.cell? ⟨w.heap.size + 1 + 1 + 1, 2, none⟩ = some (.int .i64 d.f2) ∧ True := ⟨aA bA2 0, aA bA2 1, aA bA2 2, trivial⟩
   have hl2 : w.heap.size + 4 ≤ W2.heap.size := aV bA2
   refine hK.out _ _ hHeld2 (fun _ => ?_)
   clear hK K
   exact hCont (Au, cu, go) W2 ⟨hb2, bX2, bR2, bN2, bA2, bT (R_mono (bG hrv hq) (fun k hk => ⟨by have := hk.2.1; omega, by have := hk.2.2.1; show k ≠ go; omega⟩)) z5_, bO, by show _ ≤ go; omega⟩
  ·
   refine cK z12_ (N := 11) rfl (cs := #[.slice none 0 0, .int .i64 0, .int .i64 0]) (t := 49) z11_ ?_
   intro go hgo W1 bO hq
   have hb1 := aG hb0 hq
   have bX1 := aC bX0 hq
   have bR1 := aC bR0 hq
   have bN1 := aC bN0 hq
   have bA1 := aC bA0 hq
   have hHeld1 : W1.cell? ⟨w.heap.size + 1 + 1 + 1, 0, none⟩ = some (.slice B d.f0.length c) ∧ W1.cell? ⟨w.heap.size + 1 + 1 + 1, 1, none⟩ = some (.int .i64 d.f1) ∧ W1.cell? ⟨w.heap.size + 1 + 1 + 1, 2, none⟩ = some (.int .i64 d.f2) ∧ True := ⟨aA bA1 0, aA bA1 1, aA bA1 2, trivial⟩
   have hl1 : w.heap.size + 4 ≤ W1.heap.size := aV bA1
   refine hK.out _ _ hHeld1 (fun _ => ?_)
   clear hK K
   refine nrm 11 ?_
   have hlo := aV bO
   clear hq
   refine one_ (i := 2) (N := some 88) (Steps.Bs 10 383) rfl rfl z1_ z10_ (fun K hK => ?_)
   refine goes_ Try.func19 z1_ rfl #[.slice B d.f0.length c] z12_ rfl rfl z8_ ?_
   refine (PAll.raddlekeep_TwinInts.calls B c d.f0 d.f0 _ (aN HCB.out hb1) HLC.out (cM d.f0 (by have h : d.f0.length ≤ 12 := HDO.out.len; omega))).mono ?_
   rintro e W2 ⟨u, rfl, hru, hq⟩
   refine ⟨_, rfl, ?_⟩
   obtain ⟨Au, cu, rfl⟩ := bE hru
   have hrv := cF hru
   have bO2 := aC bO hq
   have hb2 := aG hb1 hq
   have bX2 := aC bX1 hq
   have bR2 := aC bR1 hq
   have bN2 := aC bN1 hq
   have bA2 := aC bA1 hq
   have hHeld2 : W2.cell? ⟨w.heap.size + 1 + 1 + 1, 0, none⟩ = some (.slice B d.f0.length c) ∧ W2.cell? ⟨w.heap.size + 1 + 1 + 1, 1, none⟩ = some (.int .i64 d.f1) ∧ W2.cell? ⟨w.heap.size + 1 + 1 + 1, 2, none⟩ = some (.int .i64 d.f2) ∧ True := ⟨aA bA2 0, aA bA2 1, aA bA2 2, trivial⟩
   have hl2 : w.heap.size + 4 ≤ W2.heap.size := aV bA2
   refine hK.out _ _ hHeld2 (fun _ => ?_)
   clear hK K
   refine nrm 88 ?_
   refine sI 7 93 10 511 ?_
   exact hCont (Au, cu, go) W2 ⟨hb2, bX2, bR2, bN2, bA2, bT (R_mono hrv (fun k hk => ⟨by have := hk.2.1; omega, by have := hk.2.1; show k ≠ go; omega⟩)) z5_, bO2, by show _ ≤ go; omega⟩
 rintro ⟨Au, cu, go⟩ W1 ⟨hb1, bX1, bR1, bN1, bA1, hru, bO1, hgo⟩
 replace hru : (Kd.int .i64).R 3 W1 w.heap.size (fun k_ => w.heap.size + 4 ≤ k_ ∧ k_ ≠ go) (.slice Au d.f0.length cu) d.f0 := hru
 replace bO1 : W1.heap[go]? = some (.cells #[.slice none 0 0, .int .i64 0, .int .i64 0] 49 (0, 0)) := bO1
 replace hgo : w.heap.size + 4 ≤ go := hgo
 refine norm_ (a' := ?_) ?_ ?_
 rotate_left
 ·
  simp only [putAll, Act.put, List.setIfInBounds_toArray, List.set_cons_zero, List.set_cons_succ]
  rfl
 have hc9_0 := aA bO1 0
 have hf9_0 := aD bO1 0
 have hc9_1 := aA bO1 1
 have hf9_1 := aD bO1 1
 have hc9_2 := aA bO1 2
 have hf9_2 := aD bO1 2
 refine last_ (i := 9) (N := none) (Steps.Bs 10 1023) rfl rfl z1_ z10_ (fun K hK => ?_)
 refine skip_ (w1 := ?_) z12_ rfl ?_ ?_
 rotate_left
 ·
  go_simp
  rfl
 refine hK.out _ _ ?_
 clear hK K
 obtain ⟨V, hV, hbV, bOV, hkeep⟩ := storeS hb1 z5_ bO1 (.slice Au d.f0.length cu) (.int .i64 d.f1) (.int .i64 d.f2)
 have hruV : (Kd.int .i64).R 3 V w.heap.size (fun k_ => w.heap.size + 4 ≤ k_ ∧ k_ ≠ go) (.slice Au d.f0.length cu) d.f0 := dO hru (fun k hk _ => hkeep k hk.2)
 rw [← hV]
 have bXV := (hkeep (w.heap.size) z5_).trans bX1
 have bRV := (hkeep (w.heap.size + 1) z5_).trans bR1
 have bNV := (hkeep (w.heap.size + 1 + 1) z5_).trans bN1
 have bAV := (hkeep (w.heap.size + 1 + 1 + 1) z5_).trans bA1
 clear hV hkeep hru hc9_0 hc9_1 hc9_2 hf9_0 hf9_1 hf9_2 bX1 bR1 bN1 bA1 bO1 hb1 bX0 bR0 bN0 bA0 hb0 hHeld0 hl0
 refine done_ z1_ ?_
 have hO0V := aA bOV
 have hR0V := aA bRV
 have hA0V := aA bAV
 have fO0V := aD bOV
 have fR0V := aD bRV
 have fA0V := aD bAV
 have hX0V := aA bXV 0
 have hX10V := aA bXV 10
 by_cases hp : places x.f5 d.f0.length = true
 case neg =>
  obtain rfl : (zN, (1 : Int)) = r := by rw [← HZ.out, if_neg (fun e => hp e.1)]
  have HPK1 := mk_ (HPA.out.trans (by rw [if_neg hp]))
  clear HPA HZ hp
  go_wp2_with (first | (go_at_call 37; refine (PAll.raddleref14_pick.calls (x.f5.length + 1) B c d.f0 A5 c5 x.f5 [] false V (aN HCB.out hbV) HLC.out (aN HC5.out hbV) HC5L.out HPK1.out).mono ?_; rintro e V1 ⟨u1, rfl, hr1, hq1⟩; obtain ⟨A7, c7, rfl⟩ := bE hr1; have hbV1 := aG hbV hq1; have bXV1 := aC bXV hq1; have bRV1 := aC bRV hq1; have bNV1 := aC bNV hq1; have bAV1 := aC bAV hq1; have bOV1 := aC bOV hq1; have hO0V1 := aA bOV1; have hR0V1 := aA bRV1; have hN0V1 := aA bNV1; have hA0V1 := aA bAV1; have hX0V1 := aA bXV1 0; have hX7V1 := aA bXV1 7; have hX8V1 := aA bXV1 8; have hX10V1 := aA bXV1 10; have hX12V1 := aA bXV1 12; have hX13V1 := aA bXV1 13; have fO0V1 := aD bOV1; have fR0V1 := aD bRV1; have fN0V1 := aD bNV1; have fA0V1 := aD bAV1; have fX0V1 := aD bXV1))
  all_goals refine bodyPost_ret (aT rfl _ _ _ 49 #[.slice none 0 0, .int .i64 0, .int .i64 0] (0, 0) _ rfl (blkS (by repeat (first | exact bRV1 | (with_reducible refine aX ?_ _))) _ _ _) Try.underlying49 rfl z1_) rfl ?_
  all_goals exact GotB.zero (aI (aI (aI (by repeat (first | exact hbV1 | (with_reducible refine aZ ?_ _))) z5_) z5_) z5_)
 have HPK1 := mk_ (HPA.out.trans (by rw [if_pos hp]))
 clear HPA
 obtain ⟨pa, hpa⟩ : ∃ pa, pa = pick d.f0 x.f5 := ⟨_, rfl⟩
 have HPAL := mk_ (show pa.length = x.f5.length by rw [hpa, dF])
 rw [← hpa] at HPK1
 have HPE := mk_ hpa
 clear hpa
 by_cases hq : inn x.f8 d.f0.length
 case neg =>
  obtain rfl : (zN, (1 : Int)) = r := by rw [← HZ.out, if_neg (fun e => hq e.2)]
  have HCO := mk_ (show raddleref14_in.f x.f8 0 ((d.f0.length : Int) - 1) = some false from by rw [bL, decide_eq_false]; unfold inn at hq; omega)
  clear hp hq
  go_wp2_with (first | (go_at_call 37; refine (PAll.raddleref14_pick.calls (x.f5.length + 1) B c d.f0 A5 c5 x.f5 pa true V (aN HCB.out hbV) HLC.out (aN HC5.out hbV) HC5L.out HPK1.out).mono ?_; rintro e V1 ⟨u1, rfl, hr1, hq1⟩; obtain ⟨A7, c7, rfl⟩ := bE hr1; have hbV1 := aG hbV hq1; have bXV1 := aC bXV hq1; have bRV1 := aC bRV hq1; have bNV1 := aC bNV hq1; have bAV1 := aC bAV hq1; have bOV1 := aC bOV hq1; have hO0V1 := aA bOV1; have hR0V1 := aA bRV1; have hN0V1 := aA bNV1; have hA0V1 := aA bAV1; have hX0V1 := aA bXV1 0; have hX7V1 := aA bXV1 7; have hX8V1 := aA bXV1 8; have hX10V1 := aA bXV1 10; have hX12V1 := aA bXV1 12; have hX13V1 := aA bXV1 13; have fO0V1 := aD bOV1; have fR0V1 := aD bRV1; have fN0V1 := aD bNV1; have fA0V1 := aD bAV1; have fX0V1 := aD bXV1) | (go_at_call 26; (with_reducible show Calls _ _ #[.int .i64 m, .int .i64 1, .int .i64 4] _ _); refine (PAll.raddleref14_in.calls m 1 4 true _ HAG.out).mono ?_; rintro e w' ⟨rfl, ⟨m4, rfl⟩⟩) | (go_at_call 26; (with_reducible show Calls _ _ #[.int .i64 x.f8, .int .i64 0, .int .i64 ((d.f0.length : Int) - 1)] _ _); refine (PAll.raddleref14_in.calls x.f8 0 ((d.f0.length : Int) - 1) false _ HCO.out).mono ?_; rintro e w' ⟨rfl, ⟨m5, rfl⟩⟩))
  all_goals refine bodyPost_ret (aT rfl _ _ _ 49 #[.slice none 0 0, .int .i64 0, .int .i64 0] (0, 0) _ rfl (blkS (by repeat (first | exact bRV1 | (with_reducible refine aX ?_ _))) _ _ _) Try.underlying49 rfl z1_) rfl ?_
  all_goals exact GotB.zero (aI (aI (aI (by repeat (first | exact hbV1 | (with_reducible refine aZ ?_ _))) z5_) z5_) z5_)
 have HCO := mk_ (show raddleref14_in.f x.f8 0 ((d.f0.length : Int) - 1) = some true from by rw [bL, decide_eq_true]; unfold inn at hq; omega)
 have HZ2 := mk_ (HZ.out.symm.trans (if_pos ⟨hp, hq⟩))
 obtain ⟨j, hj⟩ := Int.eq_ofNat_of_zero_le hq.1
 have HJ := mk_ (show j < d.f0.length by have := hq.2; omega)
 have HJ2 := mk_ hj
 clear HZ hp hq hj
 by_cases h12 : x.f5.length ≥ 12
 case pos =>
  obtain rfl : (zN, (2 : Int)) = r := by rw [HZ2.out, if_pos h12]
  have hd1 : decide ((12 : Int) ≤ (pa.length : Int)) = true := decide_eq_true (by have := HPAL.out; omega)
  have hd2 : decide (12 ≤ pa.length) = true := decide_eq_true (by have := HPAL.out; omega)
  clear h12
  go_wp2_with (first | (go_at_call 37; refine (PAll.raddleref14_pick.calls (x.f5.length + 1) B c d.f0 A5 c5 x.f5 pa true V (aN HCB.out hbV) HLC.out (aN HC5.out hbV) HC5L.out HPK1.out).mono ?_; rintro e V1 ⟨u1, rfl, hr1, hq1⟩; obtain ⟨A7, c7, rfl⟩ := bE hr1; have hbV1 := aG hbV hq1; have bXV1 := aC bXV hq1; have bRV1 := aC bRV hq1; have bNV1 := aC bNV hq1; have bAV1 := aC bAV hq1; have bOV1 := aC bOV hq1; have hO0V1 := aA bOV1; have hR0V1 := aA bRV1; have hN0V1 := aA bNV1; have hA0V1 := aA bAV1; have hX0V1 := aA bXV1 0; have hX7V1 := aA bXV1 7; have hX8V1 := aA bXV1 8; have hX10V1 := aA bXV1 10; have hX12V1 := aA bXV1 12; have hX13V1 := aA bXV1 13; have fO0V1 := aD bOV1; have fR0V1 := aD bRV1; have fN0V1 := aD bNV1; have fA0V1 := aD bAV1; have fX0V1 := aD bXV1) | (go_at_call 26; (with_reducible show Calls _ _ #[.int .i64 m, .int .i64 1, .int .i64 4] _ _); refine (PAll.raddleref14_in.calls m 1 4 true _ HAG.out).mono ?_; rintro e w' ⟨rfl, ⟨m4, rfl⟩⟩) | (go_at_call 26; (with_reducible show Calls _ _ #[.int .i64 x.f8, .int .i64 0, .int .i64 ((d.f0.length : Int) - 1)] _ _); refine (PAll.raddleref14_in.calls x.f8 0 ((d.f0.length : Int) - 1) true _ HCO.out).mono ?_; rintro e w' ⟨rfl, ⟨m5, rfl⟩⟩))
  all_goals refine bodyPost_ret (aT rfl _ _ _ 49 #[.slice none 0 0, .int .i64 0, .int .i64 0] (0, 0) _ rfl (blkS (by repeat (first | exact bRV1 | (with_reducible refine aX ?_ _))) _ _ _) Try.underlying49 rfl z1_) rfl ?_
  all_goals exact GotB.zero (aI (aI (aI (by repeat (first | exact hbV1 | (with_reducible refine aZ ?_ _))) z5_) z5_) z5_)
 have hd1 : decide ((12 : Int) ≤ (pa.length : Int)) = false := decide_eq_false (by have := HPAL.out; omega)
 have hd2 : decide (12 ≤ pa.length) = false := decide_eq_false (by have := HPAL.out; omega)
 have HZ3 := mk_ (HZ2.out.trans (if_neg h12))
 clear h12 HZ2
 have hv1 : d.f2 ≤ 1152921504606846976 := HDO.out.v2
 have hw1 : d.f1 ≤ 1125899906842624 := HDO.out.w2
 have hdw : decide ((1125899906842624 : Int) < d.f1) = false := decide_eq_false z5_
 obtain ⟨adB, hB, htv⟩ := Kd.at_int HCB.out (j : Int) z5_ (by have := HJ.out; omega)
 rw [Int.toNat_natCast, ← HJ2.out] at htv
 obtain ⟨tv, htw⟩ : ∃ tv, tv = rd d.f0 x.f8 := ⟨_, rfl⟩
 rw [← htw] at htv
 have HTW := mk_ htw
 have HTV := mk_ htv
 clear htw htv
 subst hB
 have hj0 : (0 ≤ (j : Int)) = True := eq_true z5_
 have hj1 : ((j : Int) < (d.f0.length : Int)) = True := eq_true (by have := HJ.out; omega)
 have hrpF : ∀ {A7_ : Option Addr} {c7_ : Nat} (V1 : World), (Kd.int .i64).R 3 V1 V.heap.size (fun _ => True) (.slice A7_ pa.length c7_) pa → (Kd.int .i64).R 3 V1 w.heap.size (fun k => w.heap.size + 4 ≤ k ∧ k ≠ go) (.slice A7_ pa.length c7_) pa := fun V1 hr1 => bT (R_mono (cF hr1) (fun k hk => ⟨by have := hk.2.1; have := aV bOV; omega, by have := hk.2.1; have := aV bOV; omega⟩)) (by have := aV bOV; omega)
 rw [HJ2.out] at HCO
 obtain rfl : ((pick d.f0 x.f5 ++ [rd d.f0 x.f8], d.f1, d.f2), (0 : Int)) = r := HZ3.out.symm
 have hdv : decide ((1152921504606846976 : Int) < d.f2) = false := decide_eq_false z5_
 clear hv1 hw1
 go_wp2_with (first | (go_at_call 37; refine (PAll.raddleref14_pick.calls (x.f5.length + 1) (some adB) c d.f0 A5 c5 x.f5 pa true V (aN HCB.out hbV) HLC.out (aN HC5.out hbV) HC5L.out HPK1.out).mono ?_; rintro e V1 ⟨u1, rfl, hr1, hq1⟩; obtain ⟨A7, c7, rfl⟩ := bE hr1; have hbV1 := aG hbV hq1; have bXV1 := aC bXV hq1; have bRV1 := aC bRV hq1; have bNV1 := aC bNV hq1; have bAV1 := aC bAV hq1; have bOV1 := aC bOV hq1; have hO0V1 := aA bOV1; have hR0V1 := aA bRV1; have hN0V1 := aA bNV1; have hA0V1 := aA bAV1; have hX0V1 := aA bXV1 0; have hX7V1 := aA bXV1 7; have hX8V1 := aA bXV1 8; have hX10V1 := aA bXV1 10; have hX12V1 := aA bXV1 12; have hX13V1 := aA bXV1 13; have fO0V1 := aD bOV1; have fR0V1 := aD bRV1; have fN0V1 := aD bNV1; have fA0V1 := aD bAV1; have fX0V1 := aD bXV1; clear hX13V1; have hX13V1 : V1.cell? ⟨w.heap.size, 13, none⟩ = some (.int .i64 (j : Int)) := (by rw [← HJ2.out]; exact aA bXV1 13); have htvV1 := aE hbV1 HTV.out) | (go_at_call 26; (with_reducible show Calls _ _ #[.int .i64 m, .int .i64 1, .int .i64 4] _ _); refine (PAll.raddleref14_in.calls m 1 4 true _ HAG.out).mono ?_; rintro e w' ⟨rfl, ⟨m4, rfl⟩⟩) | (go_at_call 26; (with_reducible show Calls _ _ #[.int .i64 (j : Int), .int .i64 0, .int .i64 ((d.f0.length : Int) - 1)] _ _); refine (PAll.raddleref14_in.calls (j : Int) 0 ((d.f0.length : Int) - 1) true _ HCO.out).mono ?_; rintro e w' ⟨rfl, ⟨m5, rfl⟩⟩) | ((with_reducible refine cZ (b := .append) (xs := #[.tmp 275, .tmp 282]) rfl ?_); at_builtin; refine dV (Kd.int .i64) (w0 := w) w.heap.size rfl (.tmp 275) (.tmp 282) 32 3 (.int .i64 0) 8 rfl Try.underlying32 PAll.info3 rfl z10_ z5_ (.slice A7 pa.length c7) pa [tv] (some ⟨V1.heap.size, 0, none⟩) 1 1 (fun k => w.heap.size + 4 ≤ k ∧ k ≠ go) (fun _ => False) rfl rfl (bG (hrpF V1 hr1) (by repeat (first | exact (Below.refl _ _) | (with_reducible refine aM ?_ _) | (with_reducible refine bP ?_) | (with_reducible refine aZ ?_ _)))) (eD (by repeat (first | exact cJ _ _ | ((with_reducible refine blk_at _ _ ?_); (simp; done))))) (fun _ _ h => h) (fun _ h => h.elim) (fun k hk => ⟨by simp at hk; have := aV bOV1; omega, by simp at hk; have := aV bOV1; omega⟩) (by repeat (first | exact hbV1 | (with_reducible refine aM ?_ _) | (with_reducible refine bP ?_) | (with_reducible refine aZ ?_ _))) (by simp; have := aV bOV1; omega) (by have := HPAL.out; have := HL5.out; omega) ?_; intro v2 W1 hr2 hb1 hg2 _; have hown : ∀ k, (Value.slice A7 pa.length c7).ownBlock = some k → w.heap.size + 4 ≤ k ∧ k ≠ go := fun k hk => (hrpF V1 hr1).1 k hk; obtain ⟨A9, c9, rfl⟩ := bE hr2; rw [List.length_append, List.length_singleton] at hr2; have bX1 : W1.heap[w.heap.size]? = some (.cells #[.int .i64 8, .int .i64 (k : Int), .int .i64 x.f2, .int .i64 x.f3, .int .i64 x.f4.f0, .int .i64 x.f4.f1, .int .i64 x.f4.f2, .int .i64 x.f4.f3.f0, .int .i64 x.f4.f3.f1, .string x.f4.f3.f2, .slice A5 x.f5.length c5, .slice A6 x.f6.length c6, .int .i64 m, .int .i64 x.f8] 34 (0, 0)) := dK hg2 (by repeat (first | exact bXV1 | (with_reducible refine aX ?_ _) | (with_reducible refine aU ?_) | (with_reducible refine aY ?_ _))) (fun e => by have := hown _ e.symm; omega); have bR1 : W1.heap[w.heap.size + 1]? = some (.cells #[.slice none 0 0, .int .i64 0, .int .i64 0] 49 (0, 0)) := dK hg2 (by repeat (first | exact bRV1 | (with_reducible refine aX ?_ _) | (with_reducible refine aU ?_) | (with_reducible refine aY ?_ _))) (fun e => by have := hown _ e.symm; omega); have bN1 : W1.heap[w.heap.size + 1 + 1]? = some (.cells #[.slice none 0 0, .int .i64 0, .int .i64 0] 49 (0, 0)) := dK hg2 (by repeat (first | exact bNV1 | (with_reducible refine aX ?_ _) | (with_reducible refine aU ?_) | (with_reducible refine aY ?_ _))) (fun e => by have := hown _ e.symm; omega); have bA1 : W1.heap[w.heap.size + 1 + 1 + 1]? = some (.cells #[.slice (some adB) d.f0.length c, .int .i64 d.f1, .int .i64 d.f2] 49 (0, 0)) := dK hg2 (by repeat (first | exact bAV1 | (with_reducible refine aX ?_ _) | (with_reducible refine aU ?_) | (with_reducible refine aY ?_ _))) (fun e => by have := hown _ e.symm; omega); have bO1 : W1.heap[go]? = some (.cells #[.slice Au d.f0.length cu, .int .i64 d.f1, .int .i64 d.f2] 49 (0, 0)) := dK hg2 (by repeat (first | exact bOV1 | (with_reducible refine aX ?_ _) | (with_reducible refine aU ?_) | (with_reducible refine aY ?_ _))) (fun e => by have := hown _ e.symm; omega); have sR0 := fun v i => aA (setO (g := go) (j := 0) bR1 z5_ v) i; have tR0 := fun v i => aD (setO (g := go) (j := 0) bR1 z5_ v) i; have sN0 := fun v i => aA (setO (g := go) (j := 0) bN1 z5_ v) i; have tN0 := fun v i => aD (setO (g := go) (j := 0) bN1 z5_ v) i; have sA1 := fun v i => aA (setO (g := go) (j := 0) bA1 z5_ v) i; have tA1 := fun v i => aD (setO (g := go) (j := 0) bA1 z5_ v) i; have sO0 := fun v i => aA (bS (j := 0) bO1 v) i; have tO0 := fun v i => aD (bS (j := 0) bO1 v) i; have hO0 := aA bO1 0; have eO0 := aD bO1 0))
 refine bodyPost_ret (aT rfl _ _ _ 49 #[.slice A9 (pa.length + 1) c9, .int .i64 d.f1, .int .i64 d.f2] (0, 0) _ rfl (blkS (setO (g := go) (j := 0) bR1 z5_ _) _ _ _) Try.underlying49 rfl z1_) rfl ?_
 rw [← HPE.out, ← HTW.out]
 exact GotB.stored (d := (pa ++ [tv], d.f1, d.f2)) (R_mono (R_far hr2 (p := ⟨go, 0, none⟩) (fun k hk => hk.2) _) (fun k hk => hk.1)) (aI hb1 z5_) _ _ _
theorem node8_2 (hC1 : Kd.C k54 w A1 f.length f) (hl1 : f.length ≤ c1) (hf : FOk f) (hC2 : Kd.C k49 w A2 ds.length ds) (hl2 : ds.length ≤ c2) (hl : ds.length ≤ 1000) (hds : ∀ d ∈ rows ds, NdOk d) (hC5 : Kd.C (Kd.int .i64) w A5 x.f5.length x.f5) (hC5L : x.f5.length ≤ c5) (hL5 : x.f5.length ≤ 1000) (hC6 : Kd.C (Kd.int .i64) w A6 x.f6.length x.f6) (hC6L : x.f6.length ≤ c6) (hL6 : x.f6.length ≤ 1000) (h7 : x.f7 = 2) :
  Calls Try.prog 27 #[.agg #[.int .i64 8, .int .i64 x.f1, .int .i64 x.f2, .int .i64 x.f3, .int .i64 x.f4.f0, .int .i64 x.f4.f1, .int .i64 x.f4.f2, .int .i64 x.f4.f3.f0, .int .i64 x.f4.f3.f1, .string x.f4.f3.f2, .slice A5 x.f5.length c5, .slice A6 x.f6.length c6, .int .i64 2, .int .i64 x.f8], .slice A1 f.length c1, .slice A2 ds.length c2] w (GotB w (groupN (rows ds) x)) := by
 have HC1 := mk_ hC1
 have HC2 := mk_ hC2
 have HC5 := mk_ hC5
 have HC5L := mk_ hC5L
 have HL5 := mk_ hL5
 have HC6 := mk_ hC6
 have HC6L := mk_ hC6L
 have HL6 := mk_ hL6
 have hsub : IntKind.i64.wrap ((ds.length : Int) - 1) = (ds.length : Int) - 1 := IntWalk.i64_in _ z5_
 have HI0 := mk_ (show raddleref14_in.f 8 1 8 = some true from bL 8 1 8)
 have hsp : groupN (rows ds) x = if ahead (rows ds) x.f1 = true then (if places x.f5 (nth (rows ds) x.f1).1.length = true ∧ inn x.f8 (nth (rows ds) x.f1).1.length then (if x.f5.length ≥ 12 then (zN, 2) else if rd (nth (rows ds) x.f1).1 x.f8 ≠ 3 then (zN, 10) else if (nth (rows ds) x.f1).2.2 * (nth (rows ds) x.f1).2.1 ≤ 1152921504606846976 then ((pick (nth (rows ds) x.f1).1 x.f5 ++ [3], (nth (rows ds) x.f1).2.1, max (nth (rows ds) x.f1).2.2 ((nth (rows ds) x.f1).2.2 * (nth (rows ds) x.f1).2.1)), 0) else (zN, 11)) else (zN, 1)) else (zN, 1) := by
  unfold groupN
  by_cases ha : ahead (rows ds) x.f1 = true
  ·
   rw [if_pos ⟨ha, by omega, by omega⟩, if_pos ha]
   by_cases hp : places x.f5 (nth (rows ds) x.f1).1.length = true ∧ inn x.f8 (nth (rows ds) x.f1).1.length
   ·
    rw [if_pos ⟨hp.1, .inr hp.2⟩, if_pos hp]
    by_cases h12 : x.f5.length ≥ 12
    ·
     rw [if_pos h12, if_pos h12]
    ·
     rw [if_neg h12, if_neg h12]
     by_cases hr : rd (nth (rows ds) x.f1).1 x.f8 ≠ 3
     ·
      rw [if_pos ⟨h7, hr⟩, if_pos hr]
     ·
      rw [if_neg (fun e => hr e.2), if_neg hr, if_neg z5_, if_pos h7]
   ·
    rw [if_neg (fun e => hp ⟨e.1, e.2.elim (fun e => by omega) id⟩), if_neg hp]
  ·
   rw [if_neg (fun e => ha e.1), if_neg ha]
 rw [hsp]
 clear hsp
 have HAG := mk_ (show raddleref14_in.f 2 1 4 = some true from by rw [bL, decide_eq_true]; omega)
 by_cases ha : ahead (rows ds) x.f1 = true
 case neg =>
  rw [if_neg ha]
  have HIA := mk_ (show raddleref14_in.f x.f1 0 ((ds.length : Int) - 1) = some false from by rw [bL, decide_eq_false]; unfold ahead at ha; rw [cP] at ha; intro e; exact ha (decide_eq_true z5_))
  clear ha hC1 hC2 hC5 hC5L hL5 hC6 hC6L hL6
  go_enter Try.func27, Try.ntmps27
  go_wp2_with (first | (go_at_call 26; (with_reducible show Calls _ _ #[.int .i64 8, .int .i64 1, .int .i64 8] _ _); refine (PAll.raddleref14_in.calls 8 1 8 true _ HI0.out).mono ?_; rintro e w' ⟨rfl, ⟨m0, rfl⟩⟩) | (go_at_call 26; (with_reducible show Calls _ _ #[.int .i64 x.f1, .int .i64 0, _] _ _); refine (PAll.raddleref14_in.calls x.f1 0 ((ds.length : Int) - 1) false _ HIA.out).mono ?_; rintro e w' ⟨rfl, ⟨m1, rfl⟩⟩))
  refine bodyPost_ret (aT rfl _ _ _ 49 #[.slice none 0 0, .int .i64 0, .int .i64 0] (0, 0) _ rfl (blkS (x := .slice none 0 0) (y := .int .i64 0) (z := .int .i64 0) z2_ _ _ _) Try.underlying49 rfl z1_) rfl ?_
  exact GotB.zero z0_
 rw [if_pos ha]
 obtain ⟨k, hk⟩ := Int.eq_ofNat_of_zero_le (of_decide_eq_true ha).1
 rw [hk] at ha ⊢
 obtain ⟨hk0, hk1⟩ : 0 ≤ (k : Int) ∧ (k : Int) < (ds.length : Int) := by have := of_decide_eq_true ha; rw [cP] at this; exact this
 obtain ⟨ad, B, c, hA2, h0, h1, h2, hlc, hCB⟩ := eI hC2 (k : Int) hk0 hk1
 rw [cV ds k z5_]
 have hdok : NdOk (toNd (aQ ds (k : Int))) := by rw [← cV ds k z5_]; exact cY hds ha
 have HIA := mk_ (show raddleref14_in.f (k : Int) 0 ((ds.length : Int) - 1) = some true from by rw [bL, decide_eq_true]; omega)
 subst hA2
 simp only [Int.toNat_natCast] at h0 h1 h2
 have HCB := mk_ hCB
 have HLC := mk_ hlc
 have HDO := mk_ hdok
 have hb2 : (0 ≤ (k : Int)) = True := eq_true hk0
 have hb3 : ((k : Int) < (ds.length : Int)) = True := eq_true hk1
 have h0p := al3 h0
 have h0q := al4 h0
 have h1p := al3 h1
 have h1q := al4 h1
 have h2p := al3 h2
 have h2q := al4 h2
 clear hC1 hC2 hC5 hC5L hL5 hC6 hC6L hL6 hk0 hk1 ha hk hCB hlc hdok
 generalize aQ ds (k : Int) = d at *
 generalize hz : ((if places x.f5 (toNd d).1.length = true ∧ inn x.f8 (toNd d).1.length then (if x.f5.length ≥ 12 then (zN, 2) else if rd (toNd d).1 x.f8 ≠ 3 then (zN, 10) else if (toNd d).2.2 * (toNd d).2.1 ≤ 1152921504606846976 then ((pick (toNd d).1 x.f5 ++ [3], (toNd d).2.1, max (toNd d).2.2 ((toNd d).2.2 * (toNd d).2.1)), 0) else (zN, 11)) else (zN, 1) : Nd × Int)) = r
 replace hz : (if places x.f5 d.f0.length = true ∧ inn x.f8 d.f0.length then (if x.f5.length ≥ 12 then (zN, 2) else if rd d.f0 x.f8 ≠ 3 then (zN, 10) else if d.f2 * d.f1 ≤ 1152921504606846976 then ((pick d.f0 x.f5 ++ [3], d.f1, max d.f2 (d.f2 * d.f1)), 0) else (zN, 11)) else (zN, 1) : Nd × Int) = r := hz
 have HZ := mk_ hz
 clear hz
 have hl12 : d.f0.length ≤ 12 := HDO.out.len
 have hsubd : IntKind.i64.wrap ((d.f0.length : Int) - 1) = (d.f0.length : Int) - 1 := IntWalk.i64_in _ z5_
 have HPA := mk_ (eT (x.f5.length + 1) d.f0 x.f5 z5_ (by have := HL5.out; omega) z5_)
 have HL12 := mk_ hl12
 clear hl12
 go_enter Try.func27, Try.ntmps27
 go_wp2_with (first | (go_at_call 26; (with_reducible show Calls _ _ #[.int .i64 8, .int .i64 1, .int .i64 8] _ _); refine (PAll.raddleref14_in.calls 8 1 8 true _ HI0.out).mono ?_; rintro e w' ⟨rfl, ⟨m0, rfl⟩⟩) | (go_at_call 26; (with_reducible show Calls _ _ #[.int .i64 (k : Int), .int .i64 0, _] _ _); refine (PAll.raddleref14_in.calls (k : Int) 0 ((ds.length : Int) - 1) true _ HIA.out).mono ?_; rintro e w' ⟨rfl, ⟨m1, rfl⟩⟩))
 refine cG (n := 10) (S := fun w' => w'.cell? ⟨w.heap.size + 1 + 1 + 1, 0, none⟩ = some (.slice B d.f0.length c) ∧ w'.cell? ⟨w.heap.size + 1 + 1 + 1, 1, none⟩ = some (.int .i64 d.f1) ∧ w'.cell? ⟨w.heap.size + 1 + 1 + 1, 2, none⟩ = some (.int .i64 d.f2) ∧ True) (ds := [9]) (fun W => Below w.heap.size w W ∧ W.heap[w.heap.size]? = some (.cells #[.int .i64 8, .int .i64 (k : Int), .int .i64 x.f2, .int .i64 x.f3, .int .i64 x.f4.f0, .int .i64 x.f4.f1, .int .i64 x.f4.f2, .int .i64 x.f4.f3.f0, .int .i64 x.f4.f3.f1, .string x.f4.f3.f2, .slice A5 x.f5.length c5, .slice A6 x.f6.length c6, .int .i64 2, .int .i64 x.f8] 34 (0, 0)) ∧ W.heap[w.heap.size + 1]? = some (.cells #[.slice none 0 0, .int .i64 0, .int .i64 0] 49 (0, 0)) ∧ W.heap[w.heap.size + 1 + 1]? = some (.cells #[.slice none 0 0, .int .i64 0, .int .i64 0] 49 (0, 0)) ∧ W.heap[w.heap.size + 1 + 1 + 1]? = some (.cells #[.slice B d.f0.length c, .int .i64 d.f1, .int .i64 d.f2] 49 (0, 0))) (Steps.Bs 10 0) z1_ rfl rfl ⟨z0_, z2_, z2_, z2_, z2_⟩ (fun W hJ => ?_) (fun W0 hJ => ?_)
 ·
  obtain ⟨hb0, bX0, bR0, bN0, bA0⟩ := hJ
  exact ⟨aA bA0 0, aA bA0 1, aA bA0 2, trivial⟩
 obtain ⟨hb0, bX0, bR0, bN0, bA0⟩ := hJ
 have hHeld0 : W0.cell? ⟨w.heap.size + 1 + 1 + 1, 0, none⟩ = some (.slice B d.f0.length c) ∧ W0.cell? ⟨w.heap.size + 1 + 1 + 1, 1, none⟩ = some (.int .i64 d.f1) ∧ W0.cell? ⟨w.heap.size + 1 + 1 + 1, 2, none⟩ = some (.int .i64 d.f2) ∧ True := ⟨aA bA0 0, aA bA0 1, aA bA0 2, trivial⟩
 have hl0 : w.heap.size + 4 ≤ W0.heap.size := aV bA0
 refine sI 0 86 10 1 ?_
 refine sT hHeld0 1 87 10 3 ?_
 refine sI 3 89 10 11 ?_
 refine sT hHeld0 4 90 10 27 ?_
 refine sI 5 91 10 59 ?_
 refine sT hHeld0 6 92 10 123 ?_
 refine join_ (σ := Option Addr × Nat × Nat) 1 (Steps.Bs 10 511) (fun s_ => [(88, .slice s_.1 d.f0.length s_.2.1), (11, .pointer (some ⟨s_.2.2, 0, none⟩)), (93, .agg #[.slice s_.1 d.f0.length s_.2.1, .int .i64 d.f1, .int .i64 d.f2])]) (fun s_ w' => Below w.heap.size w w' ∧ w'.heap[w.heap.size]? = some (.cells #[.int .i64 8, .int .i64 (k : Int), .int .i64 x.f2, .int .i64 x.f3, .int .i64 x.f4.f0, .int .i64 x.f4.f1, .int .i64 x.f4.f2, .int .i64 x.f4.f3.f0, .int .i64 x.f4.f3.f1, .string x.f4.f3.f2, .slice A5 x.f5.length c5, .slice A6 x.f6.length c6, .int .i64 2, .int .i64 x.f8] 34 (0, 0)) ∧ w'.heap[w.heap.size + 1]? = some (.cells #[.slice none 0 0, .int .i64 0, .int .i64 0] 49 (0, 0)) ∧ w'.heap[w.heap.size + 1 + 1]? = some (.cells #[.slice none 0 0, .int .i64 0, .int .i64 0] 49 (0, 0)) ∧ w'.heap[w.heap.size + 1 + 1 + 1]? = some (.cells #[.slice B d.f0.length c, .int .i64 d.f1, .int .i64 d.f2] 49 (0, 0)) ∧ (Kd.int .i64).R 3 w' w.heap.size (fun k_ => w.heap.size + 4 ≤ k_ ∧ k_ ≠ s_.2.2) (.slice s_.1 d.f0.length s_.2.1) d.f0 ∧ w'.heap[s_.2.2]? = some (.cells #[.slice none 0 0, .int .i64 0, .int .i64 0] 49 (0, 0)) ∧ w.heap.size + 4 ≤ s_.2.2) ?_ ?_
 rotate_left
 ·
  intro hCont
  refine two_ (i := 2) (j := 8) (Ni := some 88) (Nj := some 11) (Steps.Bs 10 127) (Steps.Bs 10 379) rfl rfl rfl rfl z1_ z10_ z10_ (fun K hK => ?_) (fun K hK => ?_)
  ·
   refine goes_ Try.func19 z1_ rfl #[.slice B d.f0.length c] z12_ rfl rfl z8_ ?_
   refine (PAll.raddlekeep_TwinInts.calls B c d.f0 d.f0 _ (aN HCB.out hb0) HLC.out (cM d.f0 (by have h : d.f0.length ≤ 12 := HDO.out.len; omega))).mono ?_
   rintro e W1 ⟨u, rfl, hru, hq⟩
   refine ⟨_, rfl, ?_⟩
   obtain ⟨Au, cu, rfl⟩ := bE hru
   have hrv := cF hru
   have hb1 := aG hb0 hq
   have bX1 := aC bX0 hq
   have bR1 := aC bR0 hq
   have bN1 := aC bN0 hq
   have bA1 := aC bA0 hq
   have hHeld1 : W1.cell? ⟨w.heap.size + 1 + 1 + 1, 0, none⟩ = some (.slice B d.f0.length c) ∧ W1.cell? ⟨w.heap.size + 1 + 1 + 1, 1, none⟩ = some (.int .i64 d.f1) ∧ W1.cell? ⟨w.heap.size + 1 + 1 + 1, 2, none⟩ = some (.int .i64 d.f2) ∧ True := ⟨aA bA1 0, aA bA1 1, aA bA1 2, trivial⟩
   have hl1 : w.heap.size + 4 ≤ W1.heap.size := aV bA1
   refine hK.out _ _ hHeld1 (fun _ => ?_)
   clear hK K
   refine nrm 88 ?_
   clear hq
   refine sI 7 93 10 255 ?_
   refine one_ (i := 8) (N := some 11) (Steps.Bs 10 511) rfl rfl z1_ z10_ (fun K hK => ?_)
   refine cK z12_ (N := 11) rfl (cs := #[.slice none 0 0, .int .i64 0, .int .i64 0]) (t := 49) z11_ ?_
   intro go hgo W2 bO hq
   have hb2 := aG hb1 hq
   have bX2 := aC bX1 hq
   have bR2 := aC bR1 hq
   have bN2 := aC bN1 hq
   have bA2 := aC bA1 hq
   have hHeld2 : W2.cell? ⟨w.heap.size + 1 + 1 + 1, 0, none⟩ = some (.slice B d.f0.length c) ∧ W2.cell? ⟨w.heap.size + 1 + 1 + 1, 1, none⟩ = some (.int .i64 d.f1) ∧ W2.cell? ⟨w.heap.size + 1 + 1 + 1, 2, none⟩ = some (.int .i64 d.f2) ∧ True := ⟨aA bA2 0, aA bA2 1, aA bA2 2, trivial⟩
   have hl2 : w.heap.size + 4 ≤ W2.heap.size := aV bA2
   refine hK.out _ _ hHeld2 (fun _ => ?_)
   clear hK K
   exact hCont (Au, cu, go) W2 ⟨hb2, bX2, bR2, bN2, bA2, bT (R_mono (bG hrv hq) (fun k hk => ⟨by have := hk.2.1; omega, by have := hk.2.2.1; show k ≠ go; omega⟩)) z5_, bO, by show _ ≤ go; omega⟩
  ·
   refine cK z12_ (N := 11) rfl (cs := #[.slice none 0 0, .int .i64 0, .int .i64 0]) (t := 49) z11_ ?_
   intro go hgo W1 bO hq
   have hb1 := aG hb0 hq
   have bX1 := aC bX0 hq
   have bR1 := aC bR0 hq
   have bN1 := aC bN0 hq
   have bA1 := aC bA0 hq
   have hHeld1 : W1.cell? ⟨w.heap.size + 1 + 1 + 1, 0, none⟩ = some (.slice B d.f0.length c) ∧ W1.cell? ⟨w.heap.size + 1 + 1 + 1, 1, none⟩ = some (.int .i64 d.f1) ∧ W1.cell? ⟨w.heap.size + 1 + 1 + 1, 2, none⟩ = some (.int .i64 d.f2) ∧ True := ⟨aA bA1 0, aA bA1 1, aA bA1 2, trivial⟩
   have hl1 : w.heap.size + 4 ≤ W1.heap.size := aV bA1
   refine hK.out _ _ hHeld1 (fun _ => ?_)
   clear hK K
   refine nrm 11 ?_
   have hlo := aV bO
   clear hq
   refine one_ (i := 2) (N := some 88) (Steps.Bs 10 383) rfl rfl z1_ z10_ (fun K hK => ?_)
   refine goes_ Try.func19 z1_ rfl #[.slice B d.f0.length c] z12_ rfl rfl z8_ ?_
   refine (PAll.raddlekeep_TwinInts.calls B c d.f0 d.f0 _ (aN HCB.out hb1) HLC.out (cM d.f0 (by have h : d.f0.length ≤ 12 := HDO.out.len; omega))).mono ?_
   rintro e W2 ⟨u, rfl, hru, hq⟩
   refine ⟨_, rfl, ?_⟩
   obtain ⟨Au, cu, rfl⟩ := bE hru
   have hrv := cF hru
   have bO2 := aC bO hq
   have hb2 := aG hb1 hq
   have bX2 := aC bX1 hq
   have bR2 := aC bR1 hq
   have bN2 := aC bN1 hq
   have bA2 := aC bA1 hq
   have hHeld2 : W2.cell? ⟨w.heap.size + 1 + 1 + 1, 0, none⟩ = some (.slice B d.f0.length c) ∧ W2.cell? ⟨w.heap.size + 1 + 1 + 1, 1, none⟩ = some (.int .i64 d.f1) ∧ W2.cell? ⟨w.heap.size + 1 + 1 + 1, 2, none⟩ = some (.int .i64 d.f2) ∧ True := ⟨aA bA2 0, aA bA2 1, aA bA2 2, trivial⟩
   have hl2 : w.heap.size + 4 ≤ W2.heap.size := aV bA2
   refine hK.out _ _ hHeld2 (fun _ => ?_)
   clear hK K
   refine nrm 88 ?_
   refine sI 7 93 10 511 ?_
   exact hCont (Au, cu, go) W2 ⟨hb2, bX2, bR2, bN2, bA2, bT (R_mono hrv (fun k hk => ⟨by have := hk.2.1; omega, by have := hk.2.1; show k ≠ go; omega⟩)) z5_, bO2, by show _ ≤ go; omega⟩
 rintro ⟨Au, cu, go⟩ W1 ⟨hb1, bX1, bR1, bN1, bA1, hru, bO1, hgo⟩
 replace hru : (Kd.int .i64).R 3 W1 w.heap.size (fun k_ => w.heap.size + 4 ≤ k_ ∧ k_ ≠ go) (.slice Au d.f0.length cu) d.f0 := hru
 replace bO1 : W1.heap[go]? = some (.cells #[.slice none 0 0, .int .i64 0, .int .i64 0] 49 (0, 0)) := bO1
 replace hgo : w.heap.size + 4 ≤ go := hgo
 refine norm_ (a' := ?_) ?_ ?_
 rotate_left
 ·
  simp only [putAll, Act.put, List.setIfInBounds_toArray, List.set_cons_zero, List.set_cons_succ]
  rfl
 have hc9_0 := aA bO1 0
 have hf9_0 := aD bO1 0
 have hc9_1 := aA bO1 1
 have hf9_1 := aD bO1 1
 have hc9_2 := aA bO1 2
 have hf9_2 := aD bO1 2
 refine last_ (i := 9) (N := none) (Steps.Bs 10 1023) rfl rfl z1_ z10_ (fun K hK => ?_)
 refine skip_ (w1 := ?_) z12_ rfl ?_ ?_
 rotate_left
 ·
  go_simp
  rfl
 refine hK.out _ _ ?_
 clear hK K
 obtain ⟨V, hV, hbV, bOV, hkeep⟩ := storeS hb1 z5_ bO1 (.slice Au d.f0.length cu) (.int .i64 d.f1) (.int .i64 d.f2)
 have hruV : (Kd.int .i64).R 3 V w.heap.size (fun k_ => w.heap.size + 4 ≤ k_ ∧ k_ ≠ go) (.slice Au d.f0.length cu) d.f0 := dO hru (fun k hk _ => hkeep k hk.2)
 rw [← hV]
 have bXV := (hkeep (w.heap.size) z5_).trans bX1
 have bRV := (hkeep (w.heap.size + 1) z5_).trans bR1
 have bNV := (hkeep (w.heap.size + 1 + 1) z5_).trans bN1
 have bAV := (hkeep (w.heap.size + 1 + 1 + 1) z5_).trans bA1
 clear hV hkeep hru hc9_0 hc9_1 hc9_2 hf9_0 hf9_1 hf9_2 bX1 bR1 bN1 bA1 bO1 hb1 bX0 bR0 bN0 bA0 hb0 hHeld0 hl0
 refine done_ z1_ ?_
 have hO0V := aA bOV
 have hR0V := aA bRV
 have hA0V := aA bAV
 have fO0V := aD bOV
 have fR0V := aD bRV
 have fA0V := aD bAV
 have hX0V := aA bXV 0
 have hX10V := aA bXV 10
 by_cases hp : places x.f5 d.f0.length = true
 case neg =>
  obtain rfl : (zN, (1 : Int)) = r := by rw [← HZ.out, if_neg (fun e => hp e.1)]
  have HPK1 := mk_ (HPA.out.trans (by rw [if_neg hp]))
  clear HPA HZ hp
  go_wp2_with (first | (go_at_call 37; refine (PAll.raddleref14_pick.calls (x.f5.length + 1) B c d.f0 A5 c5 x.f5 [] false V (aN HCB.out hbV) HLC.out (aN HC5.out hbV) HC5L.out HPK1.out).mono ?_; rintro e V1 ⟨u1, rfl, hr1, hq1⟩; obtain ⟨A7, c7, rfl⟩ := bE hr1; have hbV1 := aG hbV hq1; have bXV1 := aC bXV hq1; have bRV1 := aC bRV hq1; have bNV1 := aC bNV hq1; have bAV1 := aC bAV hq1; have bOV1 := aC bOV hq1; have hO0V1 := aA bOV1; have hR0V1 := aA bRV1; have hN0V1 := aA bNV1; have hA0V1 := aA bAV1; have hX0V1 := aA bXV1 0; have hX7V1 := aA bXV1 7; have hX8V1 := aA bXV1 8; have hX10V1 := aA bXV1 10; have hX12V1 := aA bXV1 12; have hX13V1 := aA bXV1 13; have fO0V1 := aD bOV1; have fR0V1 := aD bRV1; have fN0V1 := aD bNV1; have fA0V1 := aD bAV1; have fX0V1 := aD bXV1))
  all_goals refine bodyPost_ret (aT rfl _ _ _ 49 #[.slice none 0 0, .int .i64 0, .int .i64 0] (0, 0) _ rfl (blkS (by repeat (first | exact bRV1 | (with_reducible refine aX ?_ _))) _ _ _) Try.underlying49 rfl z1_) rfl ?_
  all_goals exact GotB.zero (aI (aI (aI (by repeat (first | exact hbV1 | (with_reducible refine aZ ?_ _))) z5_) z5_) z5_)
 have HPK1 := mk_ (HPA.out.trans (by rw [if_pos hp]))
 clear HPA
 obtain ⟨pa, hpa⟩ : ∃ pa, pa = pick d.f0 x.f5 := ⟨_, rfl⟩
 have HPAL := mk_ (show pa.length = x.f5.length by rw [hpa, dF])
 rw [← hpa] at HPK1
 have HPE := mk_ hpa
 clear hpa
 by_cases hq : inn x.f8 d.f0.length
 case neg =>
  obtain rfl : (zN, (1 : Int)) = r := by rw [← HZ.out, if_neg (fun e => hq e.2)]
  have HCO := mk_ (show raddleref14_in.f x.f8 0 ((d.f0.length : Int) - 1) = some false from by rw [bL, decide_eq_false]; unfold inn at hq; omega)
  clear hp hq
  go_wp2_with (first | (go_at_call 37; refine (PAll.raddleref14_pick.calls (x.f5.length + 1) B c d.f0 A5 c5 x.f5 pa true V (aN HCB.out hbV) HLC.out (aN HC5.out hbV) HC5L.out HPK1.out).mono ?_; rintro e V1 ⟨u1, rfl, hr1, hq1⟩; obtain ⟨A7, c7, rfl⟩ := bE hr1; have hbV1 := aG hbV hq1; have bXV1 := aC bXV hq1; have bRV1 := aC bRV hq1; have bNV1 := aC bNV hq1; have bAV1 := aC bAV hq1; have bOV1 := aC bOV hq1; have hO0V1 := aA bOV1; have hR0V1 := aA bRV1; have hN0V1 := aA bNV1; have hA0V1 := aA bAV1; have hX0V1 := aA bXV1 0; have hX7V1 := aA bXV1 7; have hX8V1 := aA bXV1 8; have hX10V1 := aA bXV1 10; have hX12V1 := aA bXV1 12; have hX13V1 := aA bXV1 13; have fO0V1 := aD bOV1; have fR0V1 := aD bRV1; have fN0V1 := aD bNV1; have fA0V1 := aD bAV1; have fX0V1 := aD bXV1) | (go_at_call 26; (with_reducible show Calls _ _ #[.int .i64 2, .int .i64 1, .int .i64 4] _ _); refine (PAll.raddleref14_in.calls 2 1 4 true _ HAG.out).mono ?_; rintro e w' ⟨rfl, ⟨m4, rfl⟩⟩) | (go_at_call 26; (with_reducible show Calls _ _ #[.int .i64 x.f8, .int .i64 0, .int .i64 ((d.f0.length : Int) - 1)] _ _); refine (PAll.raddleref14_in.calls x.f8 0 ((d.f0.length : Int) - 1) false _ HCO.out).mono ?_; rintro e w' ⟨rfl, ⟨m5, rfl⟩⟩))
  all_goals refine bodyPost_ret (aT rfl _ _ _ 49 #[.slice none 0 0, .int .i64 0, .int .i64 0] (0, 0) _ rfl (blkS (by repeat (first | exact bRV1 | (with_reducible refine aX ?_ _))) _ _ _) Try.underlying49 rfl z1_) rfl ?_
  all_goals exact GotB.zero (aI (aI (aI (by repeat (first | exact hbV1 | (with_reducible refine aZ ?_ _))) z5_) z5_) z5_)
 have HCO := mk_ (show raddleref14_in.f x.f8 0 ((d.f0.length : Int) - 1) = some true from by rw [bL, decide_eq_true]; unfold inn at hq; omega)
 have HZ2 := mk_ (HZ.out.symm.trans (if_pos ⟨hp, hq⟩))
 obtain ⟨j, hj⟩ := Int.eq_ofNat_of_zero_le hq.1
 have HJ := mk_ (show j < d.f0.length by have := hq.2; omega)
 have HJ2 := mk_ hj
 clear HZ hp hq hj
 by_cases h12 : x.f5.length ≥ 12
 case pos =>
  obtain rfl : (zN, (2 : Int)) = r := by rw [HZ2.out, if_pos h12]
  have hd1 : decide ((12 : Int) ≤ (pa.length : Int)) = true := decide_eq_true (by have := HPAL.out; omega)
  have hd2 : decide (12 ≤ pa.length) = true := decide_eq_true (by have := HPAL.out; omega)
  clear h12
  go_wp2_with (first | (go_at_call 37; refine (PAll.raddleref14_pick.calls (x.f5.length + 1) B c d.f0 A5 c5 x.f5 pa true V (aN HCB.out hbV) HLC.out (aN HC5.out hbV) HC5L.out HPK1.out).mono ?_; rintro e V1 ⟨u1, rfl, hr1, hq1⟩; obtain ⟨A7, c7, rfl⟩ := bE hr1; have hbV1 := aG hbV hq1; have bXV1 := aC bXV hq1; have bRV1 := aC bRV hq1; have bNV1 := aC bNV hq1; have bAV1 := aC bAV hq1; have bOV1 := aC bOV hq1; have hO0V1 := aA bOV1; have hR0V1 := aA bRV1; have hN0V1 := aA bNV1; have hA0V1 := aA bAV1; have hX0V1 := aA bXV1 0; have hX7V1 := aA bXV1 7; have hX8V1 := aA bXV1 8; have hX10V1 := aA bXV1 10; have hX12V1 := aA bXV1 12; have hX13V1 := aA bXV1 13; have fO0V1 := aD bOV1; have fR0V1 := aD bRV1; have fN0V1 := aD bNV1; have fA0V1 := aD bAV1; have fX0V1 := aD bXV1) | (go_at_call 26; (with_reducible show Calls _ _ #[.int .i64 2, .int .i64 1, .int .i64 4] _ _); refine (PAll.raddleref14_in.calls 2 1 4 true _ HAG.out).mono ?_; rintro e w' ⟨rfl, ⟨m4, rfl⟩⟩) | (go_at_call 26; (with_reducible show Calls _ _ #[.int .i64 x.f8, .int .i64 0, .int .i64 ((d.f0.length : Int) - 1)] _ _); refine (PAll.raddleref14_in.calls x.f8 0 ((d.f0.length : Int) - 1) true _ HCO.out).mono ?_; rintro e w' ⟨rfl, ⟨m5, rfl⟩⟩))
  all_goals refine bodyPost_ret (aT rfl _ _ _ 49 #[.slice none 0 0, .int .i64 0, .int .i64 0] (0, 0) _ rfl (blkS (by repeat (first | exact bRV1 | (with_reducible refine aX ?_ _))) _ _ _) Try.underlying49 rfl z1_) rfl ?_
  all_goals exact GotB.zero (aI (aI (aI (by repeat (first | exact hbV1 | (with_reducible refine aZ ?_ _))) z5_) z5_) z5_)
 have hd1 : decide ((12 : Int) ≤ (pa.length : Int)) = false := decide_eq_false (by have := HPAL.out; omega)
 have hd2 : decide (12 ≤ pa.length) = false := decide_eq_false (by have := HPAL.out; omega)
 have HZ3 := mk_ (HZ2.out.trans (if_neg h12))
 clear h12 HZ2
 have hv1 : d.f2 ≤ 1152921504606846976 := HDO.out.v2
 have hw1 : d.f1 ≤ 1125899906842624 := HDO.out.w2
 have hdw : decide ((1125899906842624 : Int) < d.f1) = false := decide_eq_false z5_
 obtain ⟨adB, hB, htv⟩ := Kd.at_int HCB.out (j : Int) z5_ (by have := HJ.out; omega)
 rw [Int.toNat_natCast, ← HJ2.out] at htv
 obtain ⟨tv, htw⟩ : ∃ tv, tv = rd d.f0 x.f8 := ⟨_, rfl⟩
 rw [← htw] at htv
 have HTW := mk_ htw
 have HTV := mk_ htv
 clear htw htv
 subst hB
 have hj0 : (0 ≤ (j : Int)) = True := eq_true z5_
 have hj1 : ((j : Int) < (d.f0.length : Int)) = True := eq_true (by have := HJ.out; omega)
 have hrpF : ∀ {A7_ : Option Addr} {c7_ : Nat} (V1 : World), (Kd.int .i64).R 3 V1 V.heap.size (fun _ => True) (.slice A7_ pa.length c7_) pa → (Kd.int .i64).R 3 V1 w.heap.size (fun k => w.heap.size + 4 ≤ k ∧ k ≠ go) (.slice A7_ pa.length c7_) pa := fun V1 hr1 => bT (R_mono (cF hr1) (fun k hk => ⟨by have := hk.2.1; have := aV bOV; omega, by have := hk.2.1; have := aV bOV; omega⟩)) (by have := aV bOV; omega)
 rw [HJ2.out] at HCO
 rw [← HTW.out] at HZ3
 have hw3 : 1 ≤ d.f1 := HDO.out.w1
 have hv3 : 1 ≤ d.f2 := HDO.out.v1
 by_cases ht : tv ≠ 3
 case pos =>
  obtain rfl : (zN, (10 : Int)) = r := by rw [HZ3.out, if_pos ht]
  have hd3 : decide (tv = 3) = false := decide_eq_false ht
  have hd4 : (tv = 3) = False := eq_false ht
  have hd5 : (tv != 3) = true := bne_iff_ne.2 ht
  clear ht hv1 hw1 hw3 hv3
  go_wp2_with (first | (go_at_call 37; refine (PAll.raddleref14_pick.calls (x.f5.length + 1) (some adB) c d.f0 A5 c5 x.f5 pa true V (aN HCB.out hbV) HLC.out (aN HC5.out hbV) HC5L.out HPK1.out).mono ?_; rintro e V1 ⟨u1, rfl, hr1, hq1⟩; obtain ⟨A7, c7, rfl⟩ := bE hr1; have hbV1 := aG hbV hq1; have bXV1 := aC bXV hq1; have bRV1 := aC bRV hq1; have bNV1 := aC bNV hq1; have bAV1 := aC bAV hq1; have bOV1 := aC bOV hq1; have hO0V1 := aA bOV1; have hR0V1 := aA bRV1; have hN0V1 := aA bNV1; have hA0V1 := aA bAV1; have hX0V1 := aA bXV1 0; have hX7V1 := aA bXV1 7; have hX8V1 := aA bXV1 8; have hX10V1 := aA bXV1 10; have hX12V1 := aA bXV1 12; have hX13V1 := aA bXV1 13; have fO0V1 := aD bOV1; have fR0V1 := aD bRV1; have fN0V1 := aD bNV1; have fA0V1 := aD bAV1; have fX0V1 := aD bXV1; clear hX13V1; have hX13V1 : V1.cell? ⟨w.heap.size, 13, none⟩ = some (.int .i64 (j : Int)) := (by rw [← HJ2.out]; exact aA bXV1 13); have htvV1 := aE hbV1 HTV.out) | (go_at_call 26; (with_reducible show Calls _ _ #[.int .i64 2, .int .i64 1, .int .i64 4] _ _); refine (PAll.raddleref14_in.calls 2 1 4 true _ HAG.out).mono ?_; rintro e w' ⟨rfl, ⟨m4, rfl⟩⟩) | (go_at_call 26; (with_reducible show Calls _ _ #[.int .i64 (j : Int), .int .i64 0, .int .i64 ((d.f0.length : Int) - 1)] _ _); refine (PAll.raddleref14_in.calls (j : Int) 0 ((d.f0.length : Int) - 1) true _ HCO.out).mono ?_; rintro e w' ⟨rfl, ⟨m5, rfl⟩⟩))
  all_goals refine bodyPost_ret (aT rfl _ _ _ 49 #[.slice none 0 0, .int .i64 0, .int .i64 0] (0, 0) _ rfl (blkS (by repeat (first | exact bRV1 | (with_reducible refine aX ?_ _))) _ _ _) Try.underlying49 rfl z1_) rfl ?_
  all_goals exact GotB.zero (aI (aI (aI (by repeat (first | exact hbV1 | (with_reducible refine aZ ?_ _))) z5_) z5_) z5_)
 obtain rfl : tv = 3 := by omega
 have HZ4 := mk_ (HZ3.out.trans (if_neg ht))
 clear ht HZ3
 by_cases hm : d.f2 * d.f1 ≤ 1152921504606846976
 case neg =>
  obtain rfl : (zN, (11 : Int)) = r := by rw [HZ4.out, if_neg hm]
  have HM := mk_ (show raddleref14_times.f 1 d.f2 d.f1 1152921504606846976 = some (0, false) by rw [fR 1 _ _ _ z5_ z5_ z5_ z5_ z5_ z5_ z5_, if_neg hm])
  have hmx : max d.f2 0 = d.f2 := by omega
  clear hm hw1 hv1 hw3 hv3
  go_wp2_with (first | (go_at_call 37; refine (PAll.raddleref14_pick.calls (x.f5.length + 1) (some adB) c d.f0 A5 c5 x.f5 pa true V (aN HCB.out hbV) HLC.out (aN HC5.out hbV) HC5L.out HPK1.out).mono ?_; rintro e V1 ⟨u1, rfl, hr1, hq1⟩; obtain ⟨A7, c7, rfl⟩ := bE hr1; have hbV1 := aG hbV hq1; have bXV1 := aC bXV hq1; have bRV1 := aC bRV hq1; have bNV1 := aC bNV hq1; have bAV1 := aC bAV hq1; have bOV1 := aC bOV hq1; have hO0V1 := aA bOV1; have hR0V1 := aA bRV1; have hN0V1 := aA bNV1; have hA0V1 := aA bAV1; have hX0V1 := aA bXV1 0; have hX7V1 := aA bXV1 7; have hX8V1 := aA bXV1 8; have hX10V1 := aA bXV1 10; have hX12V1 := aA bXV1 12; have hX13V1 := aA bXV1 13; have fO0V1 := aD bOV1; have fR0V1 := aD bRV1; have fN0V1 := aD bNV1; have fA0V1 := aD bAV1; have fX0V1 := aD bXV1; clear hX13V1; have hX13V1 : V1.cell? ⟨w.heap.size, 13, none⟩ = some (.int .i64 (j : Int)) := (by rw [← HJ2.out]; exact aA bXV1 13); have htvV1 := aE hbV1 HTV.out) | (go_at_call 26; (with_reducible show Calls _ _ #[.int .i64 2, .int .i64 1, .int .i64 4] _ _); refine (PAll.raddleref14_in.calls 2 1 4 true _ HAG.out).mono ?_; rintro e w' ⟨rfl, ⟨m4, rfl⟩⟩) | (go_at_call 26; (with_reducible show Calls _ _ #[.int .i64 (j : Int), .int .i64 0, .int .i64 ((d.f0.length : Int) - 1)] _ _); refine (PAll.raddleref14_in.calls (j : Int) 0 ((d.f0.length : Int) - 1) true _ HCO.out).mono ?_; rintro e w' ⟨rfl, ⟨m5, rfl⟩⟩) | ((with_reducible refine cZ (b := .append) (xs := #[.tmp 299, .tmp 300]) rfl ?_); at_builtin; refine dV (Kd.int .i64) (w0 := w) w.heap.size rfl (.tmp 299) (.tmp 300) 32 3 (.int .i64 0) 8 rfl Try.underlying32 PAll.info3 rfl z10_ z5_ (.slice A7 pa.length c7) pa [3] (some ⟨V1.heap.size, 0, none⟩) 1 1 (fun k => w.heap.size + 4 ≤ k ∧ k ≠ go) (fun _ => False) rfl rfl (bG (hrpF V1 hr1) (by repeat (first | exact (Below.refl _ _) | (with_reducible refine aM ?_ _) | (with_reducible refine bP ?_) | (with_reducible refine aZ ?_ _)))) (eD (by repeat (first | exact cJ _ _ | ((with_reducible refine blk_at _ _ ?_); (simp; done))))) (fun _ _ h => h) (fun _ h => h.elim) (fun k hk => ⟨by simp at hk; have := aV bOV1; omega, by simp at hk; have := aV bOV1; omega⟩) (by repeat (first | exact hbV1 | (with_reducible refine aM ?_ _) | (with_reducible refine bP ?_) | (with_reducible refine aZ ?_ _))) (by simp; have := aV bOV1; omega) (by have := HPAL.out; have := HL5.out; omega) ?_; intro v2 W1 hr2 hb1 hg2 _; have hown : ∀ k, (Value.slice A7 pa.length c7).ownBlock = some k → w.heap.size + 4 ≤ k ∧ k ≠ go := fun k hk => (hrpF V1 hr1).1 k hk; obtain ⟨A9, c9, rfl⟩ := bE hr2; rw [List.length_append, List.length_singleton] at hr2; have bX1 : W1.heap[w.heap.size]? = some (.cells #[.int .i64 8, .int .i64 (k : Int), .int .i64 x.f2, .int .i64 x.f3, .int .i64 x.f4.f0, .int .i64 x.f4.f1, .int .i64 x.f4.f2, .int .i64 x.f4.f3.f0, .int .i64 x.f4.f3.f1, .string x.f4.f3.f2, .slice A5 x.f5.length c5, .slice A6 x.f6.length c6, .int .i64 2, .int .i64 x.f8] 34 (0, 0)) := dK hg2 (by repeat (first | exact bXV1 | (with_reducible refine aX ?_ _) | (with_reducible refine aU ?_) | (with_reducible refine aY ?_ _))) (fun e => by have := hown _ e.symm; omega); have bR1 : W1.heap[w.heap.size + 1]? = some (.cells #[.slice none 0 0, .int .i64 0, .int .i64 0] 49 (0, 0)) := dK hg2 (by repeat (first | exact bRV1 | (with_reducible refine aX ?_ _) | (with_reducible refine aU ?_) | (with_reducible refine aY ?_ _))) (fun e => by have := hown _ e.symm; omega); have bN1 : W1.heap[w.heap.size + 1 + 1]? = some (.cells #[.slice none 0 0, .int .i64 0, .int .i64 0] 49 (0, 0)) := dK hg2 (by repeat (first | exact bNV1 | (with_reducible refine aX ?_ _) | (with_reducible refine aU ?_) | (with_reducible refine aY ?_ _))) (fun e => by have := hown _ e.symm; omega); have bA1 : W1.heap[w.heap.size + 1 + 1 + 1]? = some (.cells #[.slice (some adB) d.f0.length c, .int .i64 d.f1, .int .i64 d.f2] 49 (0, 0)) := dK hg2 (by repeat (first | exact bAV1 | (with_reducible refine aX ?_ _) | (with_reducible refine aU ?_) | (with_reducible refine aY ?_ _))) (fun e => by have := hown _ e.symm; omega); have bO1 : W1.heap[go]? = some (.cells #[.slice Au d.f0.length cu, .int .i64 d.f1, .int .i64 d.f2] 49 (0, 0)) := dK hg2 (by repeat (first | exact bOV1 | (with_reducible refine aX ?_ _) | (with_reducible refine aU ?_) | (with_reducible refine aY ?_ _))) (fun e => by have := hown _ e.symm; omega); have sR0 := fun v i => aA (setO (g := go) (j := 0) bR1 z5_ v) i; have tR0 := fun v i => aD (setO (g := go) (j := 0) bR1 z5_ v) i; have sN0 := fun v i => aA (setO (g := go) (j := 0) bN1 z5_ v) i; have tN0 := fun v i => aD (setO (g := go) (j := 0) bN1 z5_ v) i; have sA1 := fun v i => aA (setO (g := go) (j := 0) bA1 z5_ v) i; have tA1 := fun v i => aD (setO (g := go) (j := 0) bA1 z5_ v) i; have sO0 := fun v i => aA (bS (j := 0) bO1 v) i; have tO0 := fun v i => aD (bS (j := 0) bO1 v) i; have hO0 := aA bO1 0; have eO0 := aD bO1 0) | (go_at_call 38; refine (PAll.raddleref14_times.calls 1 d.f2 d.f1 1152921504606846976 0 false _ HM.out).mono ?_; rintro e W2 ⟨rfl, hq⟩; have hb2 := aG (aI hb1 z5_) hq; have bR2 := aC (setO (g := go) (j := 0) bR1 z5_ _) hq; have bN2 := aC (setO (g := go) (j := 0) bN1 z5_ _) hq; have bA2 := aC (setO (g := go) (j := 0) bA1 z5_ _) hq; have bO2 := aC (bS (j := 0) bO1 _) hq; have hr3 := bG (R_far hr2 (p := ⟨go, 0, none⟩) (fun k hk => hk.2) _) hq; have hA12 := aA bA2; have hO2 := aA bO2 2; have eO2 := aD bO2 2; have yR0 := fun v i => aA (setO (g := go) (j := 2) bR2 z5_ v) i; have zR0 := fun v i => aD (setO (g := go) (j := 2) bR2 z5_ v) i; have yN0 := fun v i => aA (setO (g := go) (j := 2) bN2 z5_ v) i; have zN0 := fun v i => aD (setO (g := go) (j := 2) bN2 z5_ v) i; have yO0 := fun v i => aA (bS (j := 2) bO2 v) i))
  refine bodyPost_ret (aT rfl _ _ _ 49 #[.slice none 0 0, .int .i64 0, .int .i64 0] (0, 0) _ rfl (blkS (setO (g := go) (j := 2) bR2 z5_ _) _ _ _) Try.underlying49 rfl z1_) rfl ?_
  exact GotB.zero (aI (aI (aI (aI hb2 z5_) z5_) z5_) z5_)
 obtain rfl : ((pick d.f0 x.f5 ++ [3], d.f1, max d.f2 (d.f2 * d.f1)), (0 : Int)) = r := by rw [HZ4.out, if_pos hm]
 have HM := mk_ (show raddleref14_times.f 1 d.f2 d.f1 1152921504606846976 = some (d.f2 * d.f1, true) by rw [fR 1 _ _ _ z5_ z5_ z5_ z5_ z5_ z5_ z5_, if_pos hm])
 generalize d.f2 * d.f1 = pr at *
 have hdv : decide ((1152921504606846976 : Int) < max d.f2 pr) = false := decide_eq_false z5_
 clear hm hw1 hv1 hw3 hv3
 go_wp2_with (first | (go_at_call 37; refine (PAll.raddleref14_pick.calls (x.f5.length + 1) (some adB) c d.f0 A5 c5 x.f5 pa true V (aN HCB.out hbV) HLC.out (aN HC5.out hbV) HC5L.out HPK1.out).mono ?_; rintro e V1 ⟨u1, rfl, hr1, hq1⟩; obtain ⟨A7, c7, rfl⟩ := bE hr1; have hbV1 := aG hbV hq1; have bXV1 := aC bXV hq1; have bRV1 := aC bRV hq1; have bNV1 := aC bNV hq1; have bAV1 := aC bAV hq1; have bOV1 := aC bOV hq1; have hO0V1 := aA bOV1; have hR0V1 := aA bRV1; have hN0V1 := aA bNV1; have hA0V1 := aA bAV1; have hX0V1 := aA bXV1 0; have hX7V1 := aA bXV1 7; have hX8V1 := aA bXV1 8; have hX10V1 := aA bXV1 10; have hX12V1 := aA bXV1 12; have hX13V1 := aA bXV1 13; have fO0V1 := aD bOV1; have fR0V1 := aD bRV1; have fN0V1 := aD bNV1; have fA0V1 := aD bAV1; have fX0V1 := aD bXV1; clear hX13V1; have hX13V1 : V1.cell? ⟨w.heap.size, 13, none⟩ = some (.int .i64 (j : Int)) := (by rw [← HJ2.out]; exact aA bXV1 13); have htvV1 := aE hbV1 HTV.out) | (go_at_call 26; (with_reducible show Calls _ _ #[.int .i64 2, .int .i64 1, .int .i64 4] _ _); refine (PAll.raddleref14_in.calls 2 1 4 true _ HAG.out).mono ?_; rintro e w' ⟨rfl, ⟨m4, rfl⟩⟩) | (go_at_call 26; (with_reducible show Calls _ _ #[.int .i64 (j : Int), .int .i64 0, .int .i64 ((d.f0.length : Int) - 1)] _ _); refine (PAll.raddleref14_in.calls (j : Int) 0 ((d.f0.length : Int) - 1) true _ HCO.out).mono ?_; rintro e w' ⟨rfl, ⟨m5, rfl⟩⟩) | ((with_reducible refine cZ (b := .append) (xs := #[.tmp 299, .tmp 300]) rfl ?_); at_builtin; refine dV (Kd.int .i64) (w0 := w) w.heap.size rfl (.tmp 299) (.tmp 300) 32 3 (.int .i64 0) 8 rfl Try.underlying32 PAll.info3 rfl z10_ z5_ (.slice A7 pa.length c7) pa [3] (some ⟨V1.heap.size, 0, none⟩) 1 1 (fun k => w.heap.size + 4 ≤ k ∧ k ≠ go) (fun _ => False) rfl rfl (bG (hrpF V1 hr1) (by repeat (first | exact (Below.refl _ _) | (with_reducible refine aM ?_ _) | (with_reducible refine bP ?_) | (with_reducible refine aZ ?_ _)))) (eD (by repeat (first | exact cJ _ _ | ((with_reducible refine blk_at _ _ ?_); (simp; done))))) (fun _ _ h => h) (fun _ h => h.elim) (fun k hk => ⟨by simp at hk; have := aV bOV1; omega, by simp at hk; have := aV bOV1; omega⟩) (by repeat (first | exact hbV1 | (with_reducible refine aM ?_ _) | (with_reducible refine bP ?_) | (with_reducible refine aZ ?_ _))) (by simp; have := aV bOV1; omega) (by have := HPAL.out; have := HL5.out; omega) ?_; intro v2 W1 hr2 hb1 hg2 _; have hown : ∀ k, (Value.slice A7 pa.length c7).ownBlock = some k → w.heap.size + 4 ≤ k ∧ k ≠ go := fun k hk => (hrpF V1 hr1).1 k hk; obtain ⟨A9, c9, rfl⟩ := bE hr2; rw [List.length_append, List.length_singleton] at hr2; have bX1 : W1.heap[w.heap.size]? = some (.cells #[.int .i64 8, .int .i64 (k : Int), .int .i64 x.f2, .int .i64 x.f3, .int .i64 x.f4.f0, .int .i64 x.f4.f1, .int .i64 x.f4.f2, .int .i64 x.f4.f3.f0, .int .i64 x.f4.f3.f1, .string x.f4.f3.f2, .slice A5 x.f5.length c5, .slice A6 x.f6.length c6, .int .i64 2, .int .i64 x.f8] 34 (0, 0)) := dK hg2 (by repeat (first | exact bXV1 | (with_reducible refine aX ?_ _) | (with_reducible refine aU ?_) | (with_reducible refine aY ?_ _))) (fun e => by have := hown _ e.symm; omega); have bR1 : W1.heap[w.heap.size + 1]? = some (.cells #[.slice none 0 0, .int .i64 0, .int .i64 0] 49 (0, 0)) := dK hg2 (by repeat (first | exact bRV1 | (with_reducible refine aX ?_ _) | (with_reducible refine aU ?_) | (with_reducible refine aY ?_ _))) (fun e => by have := hown _ e.symm; omega); have bN1 : W1.heap[w.heap.size + 1 + 1]? = some (.cells #[.slice none 0 0, .int .i64 0, .int .i64 0] 49 (0, 0)) := dK hg2 (by repeat (first | exact bNV1 | (with_reducible refine aX ?_ _) | (with_reducible refine aU ?_) | (with_reducible refine aY ?_ _))) (fun e => by have := hown _ e.symm; omega); have bA1 : W1.heap[w.heap.size + 1 + 1 + 1]? = some (.cells #[.slice (some adB) d.f0.length c, .int .i64 d.f1, .int .i64 d.f2] 49 (0, 0)) := dK hg2 (by repeat (first | exact bAV1 | (with_reducible refine aX ?_ _) | (with_reducible refine aU ?_) | (with_reducible refine aY ?_ _))) (fun e => by have := hown _ e.symm; omega); have bO1 : W1.heap[go]? = some (.cells #[.slice Au d.f0.length cu, .int .i64 d.f1, .int .i64 d.f2] 49 (0, 0)) := dK hg2 (by repeat (first | exact bOV1 | (with_reducible refine aX ?_ _) | (with_reducible refine aU ?_) | (with_reducible refine aY ?_ _))) (fun e => by have := hown _ e.symm; omega); have sR0 := fun v i => aA (setO (g := go) (j := 0) bR1 z5_ v) i; have tR0 := fun v i => aD (setO (g := go) (j := 0) bR1 z5_ v) i; have sN0 := fun v i => aA (setO (g := go) (j := 0) bN1 z5_ v) i; have tN0 := fun v i => aD (setO (g := go) (j := 0) bN1 z5_ v) i; have sA1 := fun v i => aA (setO (g := go) (j := 0) bA1 z5_ v) i; have tA1 := fun v i => aD (setO (g := go) (j := 0) bA1 z5_ v) i; have sO0 := fun v i => aA (bS (j := 0) bO1 v) i; have tO0 := fun v i => aD (bS (j := 0) bO1 v) i; have hO0 := aA bO1 0; have eO0 := aD bO1 0) | (go_at_call 38; refine (PAll.raddleref14_times.calls 1 d.f2 d.f1 1152921504606846976 pr true _ HM.out).mono ?_; rintro e W2 ⟨rfl, hq⟩; have hb2 := aG (aI hb1 z5_) hq; have bR2 := aC (setO (g := go) (j := 0) bR1 z5_ _) hq; have bN2 := aC (setO (g := go) (j := 0) bN1 z5_ _) hq; have bA2 := aC (setO (g := go) (j := 0) bA1 z5_ _) hq; have bO2 := aC (bS (j := 0) bO1 _) hq; have hr3 := bG (R_far hr2 (p := ⟨go, 0, none⟩) (fun k hk => hk.2) _) hq; have hA12 := aA bA2; have hO2 := aA bO2 2; have eO2 := aD bO2 2; have yR0 := fun v i => aA (setO (g := go) (j := 2) bR2 z5_ v) i; have zR0 := fun v i => aD (setO (g := go) (j := 2) bR2 z5_ v) i; have yN0 := fun v i => aA (setO (g := go) (j := 2) bN2 z5_ v) i; have zN0 := fun v i => aD (setO (g := go) (j := 2) bN2 z5_ v) i; have yO0 := fun v i => aA (bS (j := 2) bO2 v) i))
 refine bodyPost_ret (aT rfl _ _ _ 49 #[.slice A9 (pa.length + 1) c9, .int .i64 d.f1, .int .i64 (max d.f2 pr)] (0, 0) _ rfl (blkS (setO (g := go) (j := 2) bR2 z5_ _) _ _ _) Try.underlying49 rfl z1_) rfl ?_
 rw [← HPE.out]
 exact GotB.stored (d := (pa ++ [3], d.f1, max d.f2 pr)) (R_mono (R_far hr3 (p := ⟨go, 2, none⟩) (fun k hk => hk.2) _) (fun k hk => hk.1)) (aI hb2 z5_) _ _ _
end
end Go.Proofs.Ytimbbaoodjhdoaa.Plan
end
