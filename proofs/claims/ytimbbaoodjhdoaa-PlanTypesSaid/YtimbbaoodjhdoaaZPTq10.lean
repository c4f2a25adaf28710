-- Put together by a program of this session (wip/slice2.py) out of the seat's texts.
import Derived.Test.YtimbbaoodjhdoaaZPTp6
import Derived.Test.YtimbbaoodjhdoaaZPTq6
import Derived.Test.YtimbbaoodjhdoaaZPTq1
import Derived.Test.YtimbbaoodjhdoaaZPTq7
import Derived.Test.YtimbbaoodjhdoaaZPTq8
import Derived.Test.YtimbbaoodjhdoaaZPTq9

set_option maxHeartbeats 8000000
set_option maxRecDepth 100000
open Go.Proofs.YtimbbaoodjhdoaaW Go.Proofs.Ytimbbaoodjhdoaa
section
namespace Go.Proofs.Ytimbbaoodjhdoaa.Plan
open Go.RowKit PAll Plain PrintWords PrintLast PrintMore ZipT PrintWords.Kd PrintMore.Kd
set_option linter.unusedVariables false
set_option linter.unusedSimpArgs false
section
variable {w : World} {A1 A2 : Option Addr} {c1 c2 : Nat} {f : List Tb} {ds : List Bo} {x : No} {A5 A6 : Option Addr} {c5 c6 : Nat}
theorem node8_0 (hC1 : Kd.C k54 w A1 f.length f) (hl1 : f.length ≤ c1) (hf : FOk f) (hC2 : Kd.C k49 w A2 ds.length ds) (hl2 : ds.length ≤ c2) (hl : ds.length ≤ 1000) (hds : ∀ d ∈ rows ds, NdOk d) (hC5 : Kd.C (Kd.int .i64) w A5 x.f5.length x.f5) (hC5L : x.f5.length ≤ c5) (hL5 : x.f5.length ≤ 1000) (hC6 : Kd.C (Kd.int .i64) w A6 x.f6.length x.f6) (hC6L : x.f6.length ≤ c6) (hL6 : x.f6.length ≤ 1000) (h7 : x.f7 < 1 ∨ 4 < x.f7) :
  Calls Try.prog 27 #[.agg #[.int .i64 8, .int .i64 x.f1, .int .i64 x.f2, .int .i64 x.f3, .int .i64 x.f4.f0, .int .i64 x.f4.f1, .int .i64 x.f4.f2, .int .i64 x.f4.f3.f0, .int .i64 x.f4.f3.f1, .string x.f4.f3.f2, .slice A5 x.f5.length c5, .slice A6 x.f6.length c6, .int .i64 x.f7, .int .i64 x.f8], .slice A1 f.length c1, .slice A2 ds.length c2] w (GotB w (((zN, 1) : Nd × Int))) := by
 have HC1 := mk_ hC1
 have HC2 := mk_ hC2
 have HC5 := mk_ hC5
 have HC5L := mk_ hC5L
 have HL5 := mk_ hL5
 have HC6 := mk_ hC6
 have HC6L := mk_ hC6L
 have HL6 := mk_ hL6
 have hsub : IntKind.i64.wrap ((ds.length : Int) - 1) = (ds.length : Int) - 1 := IntWalk.i64_in _ z5_
 have HI0 := mk_ (show raddleref14_in.f 8 1 8 = some true from bL 8 1 8)
 have HAG := mk_ (show raddleref14_in.f x.f7 1 4 = some false from by rw [bL, decide_eq_false]; omega)
 clear h7
 by_cases ha : ahead (rows ds) x.f1 = true
 case neg =>
  have HIA := mk_ (show raddleref14_in.f x.f1 0 ((ds.length : Int) - 1) = some false from by rw [bL, decide_eq_false]; unfold ahead at ha; rw [cP] at ha; intro e; exact ha (decide_eq_true z5_))
  clear ha hC1 hC2 hC5 hC5L hL5 hC6 hC6L hL6
  go_enter Try.func27, Try.ntmps27
  go_wp2_with (first | (go_at_call 26; (with_reducible show Calls _ _ #[.int .i64 8, .int .i64 1, .int .i64 8] _ _); refine (PAll.raddleref14_in.calls 8 1 8 true _ HI0.out).mono ?_; rintro e w' ⟨rfl, ⟨m0, rfl⟩⟩) | (go_at_call 26; (with_reducible show Calls _ _ #[.int .i64 x.f1, .int .i64 0, _] _ _); refine (PAll.raddleref14_in.calls x.f1 0 ((ds.length : Int) - 1) false _ HIA.out).mono ?_; rintro e w' ⟨rfl, ⟨m1, rfl⟩⟩))
  refine bodyPost_ret (aT rfl _ _ _ 49 #[.slice none 0 0, .int .i64 0, .int .i64 0] (0, 0) _ rfl (blkS (x := .slice none 0 0) (y := .int .i64 0) (z := .int .i64 0) z2_ _ _ _) Try.underlying49 rfl z1_) rfl ?_
  exact GotB.zero z0_
 obtain ⟨k, hk⟩ := Int.eq_ofNat_of_zero_le (of_decide_eq_true ha).1
 rw [hk] at ha
 rw [show x.f1 = (k : Int) from hk]
 obtain ⟨hk0, hk1⟩ : 0 ≤ (k : Int) ∧ (k : Int) < (ds.length : Int) := by have := of_decide_eq_true ha; rw [cP] at this; exact this
 obtain ⟨ad, B, c, hA2, h0, h1, h2, hlc, hCB⟩ := eI hC2 (k : Int) hk0 hk1
 have hdok : NdOk (toNd (aQ ds (k : Int))) := by rw [← cV ds k z5_]; exact cY hds ha
 have HIA := mk_ (show raddleref14_in.f (k : Int) 0 ((ds.length : Int) - 1) = some true from by rw [bL, decide_eq_true]; omega)
 subst hA2
 simp only [Int.toNat_natCast] at h0 h1 h2
 have HCB := mk_ hCB
 have HLC := mk_ hlc
 have HDO := mk_ hdok
 have hb2 : (0 ≤ (k : Int)) = True := eq_true hk0
 have hb3 : ((k : Int) < (ds.length : Int)) = True := eq_true hk1
 have h0p := al3 h0
 have h0q := al4 h0
 have h1p := al3 h1
 have h1q := al4 h1
 have h2p := al3 h2
 have h2q := al4 h2
 clear hC1 hC2 hC5 hC5L hL5 hC6 hC6L hL6 hk0 hk1 ha hk hCB hlc hdok
 generalize aQ ds (k : Int) = d at *
 have hl12 : d.f0.length ≤ 12 := HDO.out.len
 have HPA := mk_ (eT (x.f5.length + 1) d.f0 x.f5 z5_ (by have := HL5.out; omega) z5_)
 clear hl12
 go_enter Try.func27, Try.ntmps27
 go_wp2_with (first | (go_at_call 26; (with_reducible show Calls _ _ #[.int .i64 8, .int .i64 1, .int .i64 8] _ _); refine (PAll.raddleref14_in.calls 8 1 8 true _ HI0.out).mono ?_; rintro e w' ⟨rfl, ⟨m0, rfl⟩⟩) | (go_at_call 26; (with_reducible show Calls _ _ #[.int .i64 (k : Int), .int .i64 0, _] _ _); refine (PAll.raddleref14_in.calls (k : Int) 0 ((ds.length : Int) - 1) true _ HIA.out).mono ?_; rintro e w' ⟨rfl, ⟨m1, rfl⟩⟩))
 refine cG (n := 10) (S := fun w' => w'.cell? ⟨w.heap.size + 1 + 1 + 1, 0, none⟩ = some (.slice B d.f0.length c) ∧ w'.cell? ⟨w.heap.size + 1 + 1 + 1, 1, none⟩ = some (.int .i64 d.f1) ∧ w'.cell? ⟨w.heap.size + 1 + 1 + 1, 2, none⟩ = some (.int .i64 d.f2) ∧ True) (ds := [9]) (fun W => Below w.heap.size w W ∧ W.heap[w.heap.size]? = some (.cells #[.int .i64 8, .int .i64 (k : Int), .int .i64 x.f2, .int .i64 x.f3, .int .i64 x.f4.f0, .int .i64 x.f4.f1, .int .i64 x.f4.f2, .int .i64 x.f4.f3.f0, .int .i64 x.f4.f3.f1, .string x.f4.f3.f2, .slice A5 x.f5.length c5, .slice A6 x.f6.length c6, .int .i64 x.f7, .int .i64 x.f8] 34 (0, 0)) ∧ W.heap[w.heap.size + 1]? = some (.cells #[.slice none 0 0, .int .i64 0, .int .i64 0] 49 (0, 0)) ∧ W.heap[w.heap.size + 1 + 1]? = some (.cells #[.slice none 0 0, .int .i64 0, .int .i64 0] 49 (0, 0)) ∧ W.heap[w.heap.size + 1 + 1 + 1]? = some (.cells #[.slice B d.f0.length c, .int .i64 d.f1, .int .i64 d.f2] 49 (0, 0))) (Steps.Bs 10 0) z1_ rfl rfl ⟨z0_, z2_, z2_, z2_, z2_⟩ (fun W hJ => ?_) (fun W0 hJ => ?_)
 ·
  obtain ⟨hb0, bX0, bR0, bN0, bA0⟩ := hJ
  exact ⟨aA bA0 0, aA bA0 1, aA bA0 2, trivial⟩
 obtain ⟨hb0, bX0, bR0, bN0, bA0⟩ := hJ
 have hHeld0 : W0.cell? ⟨w.heap.size + 1 + 1 + 1, 0, none⟩ = some (.slice B d.f0.length c) ∧ W0.cell? ⟨w.heap.size + 1 + 1 + 1, 1, none⟩ = some (.int .i64 d.f1) ∧ W0.cell? ⟨w.heap.size + 1 + 1 + 1, 2, none⟩ = some (.int .i64 d.f2) ∧ True := ⟨aA bA0 0, aA bA0 1, aA bA0 2, trivial⟩
 have hl0 : w.heap.size + 4 ≤ W0.heap.size := aV bA0
 refine sI 0 86 10 1 ?_
 refine sT hHeld0 1 87 10 3 ?_
 refine sI 3 89 10 11 ?_
 refine sT hHeld0 4 90 10 27 ?_
 refine sI 5 91 10 59 ?_
 refine sT hHeld0 6 92 10 123 ?_
 refine join_ (σ := Option Addr × Nat × Nat) 1 (Steps.Bs 10 511) (fun s_ => [(88, .slice s_.1 d.f0.length s_.2.1), (11, .pointer (some ⟨s_.2.2, 0, none⟩)), (93, .agg #[.slice s_.1 d.f0.length s_.2.1, .int .i64 d.f1, .int .i64 d.f2])]) (fun s_ w' => Below w.heap.size w w' ∧ w'.heap[w.heap.size]? = some (.cells #[.int .i64 8, .int .i64 (k : Int), .int .i64 x.f2, .int .i64 x.f3, .int .i64 x.f4.f0, .int .i64 x.f4.f1, .int .i64 x.f4.f2, .int .i64 x.f4.f3.f0, .int .i64 x.f4.f3.f1, .string x.f4.f3.f2, .slice A5 x.f5.length c5, .slice A6 x.f6.length c6, .int .i64 x.f7, .int .i64 x.f8] 34 (0, 0)) ∧ w'.heap[w.heap.size + 1]? = some (.cells #[.slice none 0 0, .int .i64 0, .int .i64 0] 49 (0, 0)) ∧ w'.heap[w.heap.size + 1 + 1]? = some (.cells #[.slice none 0 0, .int .i64 0, .int .i64 0] 49 (0, 0)) ∧ w'.heap[w.heap.size + 1 + 1 + 1]? = some (.cells #[.slice B d.f0.length c, .int .i64 d.f1, .int .i64 d.f2] 49 (0, 0)) ∧ (Kd.int .i64).R 3 w' w.heap.size (fun k_ => w.heap.size + 4 ≤ k_ ∧ k_ ≠ s_.2.2) (.slice s_.1 d.f0.length s_.2.1) d.f0 ∧ w'.heap[s_.2.2]? = some (.cells #[.slice none 0 0, .int .i64 0, .int .i64 0] 49 (0, 0)) ∧ w.heap.size + 4 ≤ s_.2.2) ?_ ?_
 rotate_left
 ·
  intro hCont
  refine two_ (i := 2) (j := 8) (Ni := some 88) (Nj := some 11) (Steps.Bs 10 127) (Steps.Bs 10 379) rfl rfl rfl rfl z1_ z10_ z10_ (fun K hK => ?_) (fun K hK => ?_)
  ·
   refine goes_ Try.func19 z1_ rfl #[.slice B d.f0.length c] z12_ rfl rfl z8_ ?_
   refine (PAll.raddlekeep_TwinInts.calls B c d.f0 d.f0 _ (aN HCB.out hb0) HLC.out (cM d.f0 (by have h : d.f0.length ≤ 12 := HDO.out.len; omega))).mono ?_
   rintro e W1 ⟨u, rfl, hru, hq⟩
   refine ⟨_, rfl, ?_⟩
   obtain ⟨Au, cu, rfl⟩ := bE hru
   have hrv := cF hru
   have hb1 := aG hb0 hq
   have bX1 := aC bX0 hq
   have bR1 := aC bR0 hq
   have bN1 := aC bN0 hq
   have bA1 := aC bA0 hq
   have hHeld1 : W1.cell? ⟨w.heap.size + 1 + 1 + 1, 0, none⟩ = some (.slice B d.f0.length c) ∧ W1.cell? ⟨w.heap.size + 1 + 1 + 1, 1, none⟩ = some (.int .i64 d.f1) ∧ W1.cell? ⟨w.heap.size + 1 + 1 + 1, 2, none⟩ = some (.int .i64 d.f2) ∧ True := ⟨aA bA1 0, aA bA1 1, aA bA1 2, trivial⟩
   have hl1 : w.heap.size + 4 ≤ W1.heap.size := aV bA1
   refine hK.out _ _ hHeld1 (fun _ => ?_)
   clear hK K
   refine nrm 88 ?_
   clear hq
   refine sI 7 93 10 255 ?_
   refine one_ (i := 8) (N := some 11) (Steps.Bs 10 511) rfl rfl z1_ z10_ (fun K hK => ?_)
   refine cK z12_ (N := 11) rfl (cs := #[.slice none 0 0, .int .i64 0, .int .i64 0]) (t := 49) z11_ ?_
   intro go hgo W2 bO hq
   have hb2 := aG hb1 hq
   have bX2 := aC bX1 hq
   have bR2 := aC bR1 hq
   have bN2 := aC bN1 hq
   have bA2 := aC bA1 hq
   have hHeld2 : W2.cell? ⟨w.heap.size + 1 + 1 + 1, 0, none⟩ = some (.slice B d.f0.length c) ∧ W2.cell? ⟨w.heap.size + 1 + 1 + 1, 1, none⟩ = some (.int .i64 d.f1) ∧ W2.cell? ⟨w.heap.size + 1 + 1 + 1, 2, none⟩ = some (.int .i64 d.f2) ∧ True := ⟨aA bA2 0, aA bA2 1, aA bA2 2, trivial⟩
   have hl2 : w.heap.size + 4 ≤ W2.heap.size := aV bA2
   refine hK.out _ _ hHeld2 (fun _ => ?_)
   clear hK K
   exact hCont (Au, cu, go) W2 ⟨hb2, bX2, bR2, bN2, bA2, bT (R_mono (bG hrv hq) (fun k hk => ⟨by have := hk.2.1; omega, by have := hk.2.2.1; show k ≠ go; omega⟩)) z5_, bO, by show _ ≤ go; omega⟩
  ·
   refine cK z12_ (N := 11) rfl (cs := #[.slice none 0 0, .int .i64 0, .int .i64 0]) (t := 49) z11_ ?_
   intro go hgo W1 bO hq
   have hb1 := aG hb0 hq
   have bX1 := aC bX0 hq
   have bR1 := aC bR0 hq
   have bN1 := aC bN0 hq
   have bA1 := aC bA0 hq
   have hHeld1 : W1.cell? ⟨w.heap.size + 1 + 1 + 1, 0, none⟩ = some (.slice B d.f0.length c) ∧ W1.cell? ⟨w.heap.size + 1 + 1 + 1, 1, none⟩ = some (.int .i64 d.f1) ∧ W1.cell? ⟨w.heap.size + 1 + 1 + 1, 2, none⟩ = some (.int .i64 d.f2) ∧ True := ⟨aA bA1 0, aA bA1 1, aA bA1 2, trivial⟩
   have hl1 : w.heap.size + 4 ≤ W1.heap.size := aV bA1
   refine hK.out _ _ hHeld1 (fun _ => ?_)
   clear hK K
   refine nrm 11 ?_
   have hlo := aV bO
   clear hq
   refine one_ (i := 2) (N := some 88) (Steps.Bs 10 383) rfl rfl z1_ z10_ (fun K hK => ?_)
   refine goes_ Try.func19 z1_ rfl #[.slice B d.f0.length c] z12_ rfl rfl z8_ ?_
   refine (PAll.raddlekeep_TwinInts.calls B c d.f0 d.f0 _ (aN HCB.out hb1) HLC.out (cM d.f0 (by have h : d.f0.length ≤ 12 := HDO.out.len; omega))).mono ?_
   rintro e W2 ⟨u, rfl, hru, hq⟩
   refine ⟨_, rfl, ?_⟩
   obtain ⟨Au, cu, rfl⟩ := bE hru
   have hrv := cF hru
   have bO2 := aC bO hq
   have hb2 := aG hb1 hq
   have bX2 := aC bX1 hq
   have bR2 := aC bR1 hq
   have bN2 := aC bN1 hq
   have bA2 := aC bA1 hq
   have hHeld2 : W2.cell? ⟨w.heap.size + 1 + 1 + 1, 0, none⟩ = some (.slice B d.f0.length c) ∧ W2.cell? ⟨w.heap.size + 1 + 1 + 1, 1, none⟩ = some (.int .i64 d.f1) ∧ W2.cell? ⟨w.heap.size + 1 + 1 + 1, 2, none⟩ = some (.int .i64 d.f2) ∧ True := ⟨aA bA2 0, aA bA2 1, aA bA2 2, trivial⟩
   have hl2 : w.heap.size + 4 ≤ W2.heap.size := aV bA2
   refine hK.out _ _ hHeld2 (fun _ => ?_)
   clear hK K
   refine nrm 88 ?_
   refine sI 7 93 10 511 ?_
   exact hCont (Au, cu, go) W2 ⟨hb2, bX2, bR2, bN2, bA2, bT (R_mono hrv (fun k hk => ⟨by have := hk.2.1; omega, by have := hk.2.1; show k ≠ go; omega⟩)) z5_, bO2, by show _ ≤ go; omega⟩
 rintro ⟨Au, cu, go⟩ W1 ⟨hb1, bX1, bR1, bN1, bA1, hru, bO1, hgo⟩
 replace hru : (Kd.int .i64).R 3 W1 w.heap.size (fun k_ => w.heap.size + 4 ≤ k_ ∧ k_ ≠ go) (.slice Au d.f0.length cu) d.f0 := hru
 replace bO1 : W1.heap[go]? = some (.cells #[.slice none 0 0, .int .i64 0, .int .i64 0] 49 (0, 0)) := bO1
 replace hgo : w.heap.size + 4 ≤ go := hgo
 refine norm_ (a' := ?_) ?_ ?_
 rotate_left
 ·
  simp only [putAll, Act.put, List.setIfInBounds_toArray, List.set_cons_zero, List.set_cons_succ]
  rfl
 have hc9_0 := aA bO1 0
 have hf9_0 := aD bO1 0
 have hc9_1 := aA bO1 1
 have hf9_1 := aD bO1 1
 have hc9_2 := aA bO1 2
 have hf9_2 := aD bO1 2
 refine last_ (i := 9) (N := none) (Steps.Bs 10 1023) rfl rfl z1_ z10_ (fun K hK => ?_)
 refine skip_ (w1 := ?_) z12_ rfl ?_ ?_
 rotate_left
 ·
  go_simp
  rfl
 refine hK.out _ _ ?_
 clear hK K
 obtain ⟨V, hV, hbV, bOV, hkeep⟩ := storeS hb1 z5_ bO1 (.slice Au d.f0.length cu) (.int .i64 d.f1) (.int .i64 d.f2)
 have hruV : (Kd.int .i64).R 3 V w.heap.size (fun k_ => w.heap.size + 4 ≤ k_ ∧ k_ ≠ go) (.slice Au d.f0.length cu) d.f0 := dO hru (fun k hk _ => hkeep k hk.2)
 rw [← hV]
 have bXV := (hkeep (w.heap.size) z5_).trans bX1
 have bRV := (hkeep (w.heap.size + 1) z5_).trans bR1
 have bNV := (hkeep (w.heap.size + 1 + 1) z5_).trans bN1
 have bAV := (hkeep (w.heap.size + 1 + 1 + 1) z5_).trans bA1
 clear hV hkeep hru hc9_0 hc9_1 hc9_2 hf9_0 hf9_1 hf9_2 bX1 bR1 bN1 bA1 bO1 hb1 bX0 bR0 bN0 bA0 hb0 hHeld0 hl0
 refine done_ z1_ ?_
 have hO0V := aA bOV
 have hR0V := aA bRV
 have hA0V := aA bAV
 have fO0V := aD bOV
 have fR0V := aD bRV
 have fA0V := aD bAV
 have hX0V := aA bXV
 by_cases hp : places x.f5 d.f0.length = true
 case neg =>
  have HPK1 := mk_ (HPA.out.trans (by rw [if_neg hp]))
  clear HPA hp
  go_wp2_with (first | (go_at_call 37; refine (PAll.raddleref14_pick.calls (x.f5.length + 1) B c d.f0 A5 c5 x.f5 [] false V (aN HCB.out hbV) HLC.out (aN HC5.out hbV) HC5L.out HPK1.out).mono ?_; rintro e V1 ⟨u1, rfl, hr1, hq1⟩; obtain ⟨A7, c7, rfl⟩ := bE hr1; have hbV1 := aG hbV hq1; have bXV1 := aC bXV hq1; have bRV1 := aC bRV hq1; have bNV1 := aC bNV hq1; have bAV1 := aC bAV hq1; have bOV1 := aC bOV hq1; have hO0V1 := aA bOV1; have hR0V1 := aA bRV1; have hN0V1 := aA bNV1; have hA0V1 := aA bAV1; have hX0V1 := aA bXV1; have fO0V1 := aD bOV1; have fR0V1 := aD bRV1; have fN0V1 := aD bNV1; have fA0V1 := aD bAV1; have fX0V1 := aD bXV1))
  all_goals refine bodyPost_ret (aT rfl _ _ _ 49 #[.slice none 0 0, .int .i64 0, .int .i64 0] (0, 0) _ rfl (blkS (by repeat (first | exact bRV1 | (with_reducible refine aX ?_ _))) _ _ _) Try.underlying49 rfl z1_) rfl ?_
  all_goals exact GotB.zero (aI (aI (aI (by repeat (first | exact hbV1 | (with_reducible refine aZ ?_ _))) z5_) z5_) z5_)
 case pos =>
  have HPK1 := mk_ (HPA.out.trans (by rw [if_pos hp]))
  clear HPA hp
  go_wp2_with (first | (go_at_call 37; refine (PAll.raddleref14_pick.calls (x.f5.length + 1) B c d.f0 A5 c5 x.f5 (pick d.f0 x.f5) true V (aN HCB.out hbV) HLC.out (aN HC5.out hbV) HC5L.out HPK1.out).mono ?_; rintro e V1 ⟨u1, rfl, hr1, hq1⟩; obtain ⟨A7, c7, rfl⟩ := bE hr1; have hbV1 := aG hbV hq1; have bXV1 := aC bXV hq1; have bRV1 := aC bRV hq1; have bNV1 := aC bNV hq1; have bAV1 := aC bAV hq1; have bOV1 := aC bOV hq1; have hO0V1 := aA bOV1; have hR0V1 := aA bRV1; have hN0V1 := aA bNV1; have hA0V1 := aA bAV1; have hX0V1 := aA bXV1; have fO0V1 := aD bOV1; have fR0V1 := aD bRV1; have fN0V1 := aD bNV1; have fA0V1 := aD bAV1; have fX0V1 := aD bXV1) | (go_at_call 26; (with_reducible show Calls _ _ #[.int .i64 x.f7, .int .i64 1, .int .i64 4] _ _); refine (PAll.raddleref14_in.calls x.f7 1 4 false _ HAG.out).mono ?_; rintro e w' ⟨rfl, ⟨m4, rfl⟩⟩))
  all_goals refine bodyPost_ret (aT rfl _ _ _ 49 #[.slice none 0 0, .int .i64 0, .int .i64 0] (0, 0) _ rfl (blkS (by repeat (first | exact bRV1 | (with_reducible refine aX ?_ _))) _ _ _) Try.underlying49 rfl z1_) rfl ?_
  all_goals exact GotB.zero (aI (aI (aI (by repeat (first | exact hbV1 | (with_reducible refine aZ ?_ _))) z5_) z5_) z5_)
theorem node0 (hC1 : Kd.C k54 w A1 f.length f) (hl1 : f.length ≤ c1) (hf : FOk f) (hC2 : Kd.C k49 w A2 ds.length ds) (hl2 : ds.length ≤ c2) (hl : ds.length ≤ 1000) (hds : ∀ d ∈ rows ds, NdOk d) (hC5 : Kd.C (Kd.int .i64) w A5 x.f5.length x.f5) (hC5L : x.f5.length ≤ c5) (hL5 : x.f5.length ≤ 1000) (hC6 : Kd.C (Kd.int .i64) w A6 x.f6.length x.f6) (hC6L : x.f6.length ≤ c6) (hL6 : x.f6.length ≤ 1000) (h0 : x.f0 < 1 ∨ 8 < x.f0) :
  Calls Try.prog 27 #[.agg #[.int .i64 x.f0, .int .i64 x.f1, .int .i64 x.f2, .int .i64 x.f3, .int .i64 x.f4.f0, .int .i64 x.f4.f1, .int .i64 x.f4.f2, .int .i64 x.f4.f3.f0, .int .i64 x.f4.f3.f1, .string x.f4.f3.f2, .slice A5 x.f5.length c5, .slice A6 x.f6.length c6, .int .i64 x.f7, .int .i64 x.f8], .slice A1 f.length c1, .slice A2 ds.length c2] w (GotB w (((zN, 1) : Nd × Int))) := by
 have HC1 := mk_ hC1
 have HC2 := mk_ hC2
 have HC5 := mk_ hC5
 have HC5L := mk_ hC5L
 have HL5 := mk_ hL5
 have HC6 := mk_ hC6
 have HC6L := mk_ hC6L
 have HL6 := mk_ hL6
 have hsub : IntKind.i64.wrap ((ds.length : Int) - 1) = (ds.length : Int) - 1 := IntWalk.i64_in _ z5_
 have HI0 := mk_ (show raddleref14_in.f x.f0 1 8 = some false from by rw [bL, decide_eq_false]; omega)
 clear h0 hC1 hC2 hC5 hC5L hL5 hC6 hC6L hL6
 go_enter Try.func27, Try.ntmps27
 go_wp2_with (first | (go_at_call 26; (with_reducible show Calls _ _ #[.int .i64 x.f0, .int .i64 1, .int .i64 8] _ _); refine (PAll.raddleref14_in.calls x.f0 1 8 false _ HI0.out).mono ?_; rintro e w' ⟨rfl, ⟨m0, rfl⟩⟩))
 refine bodyPost_ret (aT rfl _ _ _ 49 #[.slice none 0 0, .int .i64 0, .int .i64 0] (0, 0) _ rfl (blkS (x := .slice none 0 0) (y := .int .i64 0) (z := .int .i64 0) z2_ _ _ _) Try.underlying49 rfl z1_) rfl ?_
 exact GotB.zero z0_
theorem node_calls (hC1 : Kd.C k54 w A1 f.length f) (hl1 : f.length ≤ c1) (hf : FOk f) (hC2 : Kd.C k49 w A2 ds.length ds) (hl2 : ds.length ≤ c2) (hl : ds.length ≤ 1000) (hds : ∀ d ∈ rows ds, NdOk d) (hC5 : Kd.C (Kd.int .i64) w A5 x.f5.length x.f5) (hC5L : x.f5.length ≤ c5) (hL5 : x.f5.length ≤ 1000) (hC6 : Kd.C (Kd.int .i64) w A6 x.f6.length x.f6) (hC6L : x.f6.length ≤ c6) (hL6 : x.f6.length ≤ 1000) :
  Calls Try.prog 27 #[.agg #[.int .i64 x.f0, .int .i64 x.f1, .int .i64 x.f2, .int .i64 x.f3, .int .i64 x.f4.f0, .int .i64 x.f4.f1, .int .i64 x.f4.f2, .int .i64 x.f4.f3.f0, .int .i64 x.f4.f3.f1, .string x.f4.f3.f2, .slice A5 x.f5.length c5, .slice A6 x.f6.length c6, .int .i64 x.f7, .int .i64 x.f8], .slice A1 f.length c1, .slice A2 ds.length c2] w (GotB w (look f (rows ds) x)) := by
 by_cases q1 : x.f0 = 1
 ·
  have h := node1 hC1 hl1 hf hC2 hl2 hl hds hC5 hC5L hL5 hC6 hC6L hL6 (x := x)
  have hs : look f (rows ds) x = scanN f x := by unfold look; simp only [q1, reduceIte, Int.reduceEq, true_or, or_true, false_or, or_false, if_pos]
  rw [hs, q1]
  exact h
 by_cases q2 : x.f0 = 2
 ·
  have h := node2 hC1 hl1 hf hC2 hl2 hl hds hC5 hC5L hL5 hC6 hC6L hL6 (x := x)
  have hs : look f (rows ds) x = filterN (rows ds) x := by unfold look; simp only [q2, reduceIte, Int.reduceEq, true_or, or_true, false_or, or_false, if_pos]
  rw [hs, q2]
  exact h
 by_cases q3 : x.f0 = 3
 ·
  have h := node3 hC1 hl1 hf hC2 hl2 hl hds hC5 hC5L hL5 hC6 hC6L hL6 (x := x)
  have hs : look f (rows ds) x = projectN (rows ds) x := by unfold look; simp only [q3, reduceIte, Int.reduceEq, true_or, or_true, false_or, or_false, if_pos]
  rw [hs, q3]
  exact h
 by_cases q4 : x.f0 = 4
 ·
  have h := node4 hC1 hl1 hf hC2 hl2 hl hds hC5 hC5L hL5 hC6 hC6L hL6 (x := x)
  have hs : look f (rows ds) x = joinN (rows ds) x := by unfold look; simp only [q4, reduceIte, Int.reduceEq, true_or, or_true, false_or, or_false, if_pos]
  rw [hs, q4]
  exact h
 by_cases q5 : x.f0 = 5
 ·
  have h := node5 hC1 hl1 hf hC2 hl2 hl hds hC5 hC5L hL5 hC6 hC6L hL6 (x := x)
  have hs : look f (rows ds) x = bothN (rows ds) x := by unfold look; simp only [q5, reduceIte, Int.reduceEq, true_or, or_true, false_or, or_false, if_pos]
  rw [hs, q5]
  exact h
 by_cases q6 : x.f0 = 6
 ·
  have h := node6 hC1 hl1 hf hC2 hl2 hl hds hC5 hC5L hL5 hC6 hC6L hL6 (x := x)
  have hs : look f (rows ds) x = bothN (rows ds) x := by unfold look; simp only [q6, reduceIte, Int.reduceEq, true_or, or_true, false_or, or_false, if_pos]
  rw [hs, q6]
  exact h
 by_cases q7 : x.f0 = 7
 ·
  have h := node7 hC1 hl1 hf hC2 hl2 hl hds hC5 hC5L hL5 hC6 hC6L hL6 (x := x)
  have hs : look f (rows ds) x = distinctN (rows ds) x := by unfold look; simp only [q7, reduceIte, Int.reduceEq, true_or, or_true, false_or, or_false, if_pos]
  rw [hs, q7]
  exact h
 by_cases q8 : x.f0 = 8
 ·
  have hs : look f (rows ds) x = groupN (rows ds) x := by unfold look; simp only [q8, reduceIte, Int.reduceEq, or_false, if_pos]
  rw [hs, q8]
  by_cases h1 : x.f7 < 1 ∨ 4 < x.f7
  ·
   have h := node8_0 hC1 hl1 hf hC2 hl2 hl hds hC5 hC5L hL5 hC6 hC6L hL6 (x := x) h1
   have hs : groupN (rows ds) x = (zN, 1) := by unfold groupN; rw [if_neg (fun e => by have := e.2; omega)]
   rw [hs]
   exact h
  by_cases h2 : x.f7 = 1
  ·
   have h := node8_1 hC1 hl1 hf hC2 hl2 hl hds hC5 hC5L hL5 hC6 hC6L hL6 (x := x) h2
   rw [h2]
   exact h
  by_cases h3 : x.f7 = 2
  rotate_left
  ·
   exact node8_3 hC1 hl1 hf hC2 hl2 hl hds hC5 hC5L hL5 hC6 hC6L hL6 (x := x) x.f7 rfl z5_
  have h := node8_2 hC1 hl1 hf hC2 hl2 hl hds hC5 hC5L hL5 hC6 hC6L hL6 (x := x) h3
  rw [h3]
  exact h
 have hs : look f (rows ds) x = (zN, 1) := by unfold look; rw [if_neg q1, if_neg q2, if_neg q3, if_neg q4, if_neg z5_, if_neg q7, if_neg q8]
 rw [hs]
 by_cases h0 : x.f0 < 1 ∨ 8 < x.f0
 ·
  exact node0 hC1 hl1 hf hC2 hl2 hl hds hC5 hC5L hL5 hC6 hC6L hL6 (x := x) h0
 omega
end
end Go.Proofs.Ytimbbaoodjhdoaa.Plan
end
