-- Put together by a program of this session (wip/slice2.py) out of the seat's texts.
import Derived.Test.YtimbbaoodjhdoaaZPTp6
import Derived.Test.YtimbbaoodjhdoaaZPTq5

set_option maxHeartbeats 8000000
set_option maxRecDepth 100000
open Go.Proofs.YtimbbaoodjhdoaaW Go.Proofs.Ytimbbaoodjhdoaa
section
namespace Go.Proofs.Ytimbbaoodjhdoaa.Plan
open Go.RowKit PAll Plain PrintWords PrintLast PrintMore ZipT PrintWords.Kd PrintMore.Kd
set_option linter.unusedVariables false
set_option linter.unusedSimpArgs false
section
variable {w : World} {A1 A2 : Option Addr} {c1 c2 : Nat} {f : List Tb} {ds : List Bo} {x : No} {A5 A6 : Option Addr} {c5 c6 : Nat}
theorem node2 (hC1 : Kd.C k54 w A1 f.length f) (hl1 : f.length ≤ c1) (hf : FOk f) (hC2 : Kd.C k49 w A2 ds.length ds) (hl2 : ds.length ≤ c2) (hl : ds.length ≤ 1000) (hds : ∀ d ∈ rows ds, NdOk d) (hC5 : Kd.C (Kd.int .i64) w A5 x.f5.length x.f5) (hC5L : x.f5.length ≤ c5) (hL5 : x.f5.length ≤ 1000) (hC6 : Kd.C (Kd.int .i64) w A6 x.f6.length x.f6) (hC6L : x.f6.length ≤ c6) (hL6 : x.f6.length ≤ 1000) :
  Calls Try.prog 27 #[.agg #[.int .i64 2, .int .i64 x.f1, .int .i64 x.f2, .int .i64 x.f3, .int .i64 x.f4.f0, .int .i64 x.f4.f1, .int .i64 x.f4.f2, .int .i64 x.f4.f3.f0, .int .i64 x.f4.f3.f1, .string x.f4.f3.f2, .slice A5 x.f5.length c5, .slice A6 x.f6.length c6, .int .i64 x.f7, .int .i64 x.f8], .slice A1 f.length c1, .slice A2 ds.length c2] w (GotB w (filterN (rows ds) x)) := by
 have HC1 := mk_ hC1
 have HC2 := mk_ hC2
 have HC5 := mk_ hC5
 have HC5L := mk_ hC5L
 have HL5 := mk_ hL5
 have HC6 := mk_ hC6
 have HC6L := mk_ hC6L
 have HL6 := mk_ hL6
 have hsub : IntKind.i64.wrap ((ds.length : Int) - 1) = (ds.length : Int) - 1 := IntWalk.i64_in _ z5_
 have HI0 := mk_ (show raddleref14_in.f 2 1 8 = some true from bL 2 1 8)
 unfold filterN
 by_cases ha : ahead (rows ds) x.f1 = true
 case neg =>
  rw [if_neg ha]
  have HIA := mk_ (show raddleref14_in.f x.f1 0 ((ds.length : Int) - 1) = some false from by rw [bL, decide_eq_false]; unfold ahead at ha; rw [cP] at ha; intro e; exact ha (decide_eq_true z5_))
  clear ha hC1 hC2 hC5 hC5L hL5 hC6 hC6L hL6
  go_enter Try.func27, Try.ntmps27
  go_wp2_with (first | (go_at_call 26; (with_reducible show Calls _ _ #[.int .i64 2, .int .i64 1, .int .i64 8] _ _); refine (PAll.raddleref14_in.calls 2 1 8 true _ HI0.out).mono ?_; rintro e w' ⟨rfl, ⟨m0, rfl⟩⟩) | (go_at_call 26; (with_reducible show Calls _ _ #[.int .i64 x.f1, .int .i64 0, _] _ _); refine (PAll.raddleref14_in.calls x.f1 0 ((ds.length : Int) - 1) false _ HIA.out).mono ?_; rintro e w' ⟨rfl, ⟨m1, rfl⟩⟩))
  refine bodyPost_ret (aT rfl _ _ _ 49 #[.slice none 0 0, .int .i64 0, .int .i64 0] (0, 0) _ rfl (blkS (x := .slice none 0 0) (y := .int .i64 0) (z := .int .i64 0) z2_ _ _ _) Try.underlying49 rfl z1_) rfl ?_
  exact GotB.zero z0_
 rw [if_pos ha]
 obtain ⟨k, hk⟩ := Int.eq_ofNat_of_zero_le (of_decide_eq_true ha).1
 rw [hk] at ha ⊢
 obtain ⟨hk0, hk1⟩ : 0 ≤ (k : Int) ∧ (k : Int) < (ds.length : Int) := by have := of_decide_eq_true ha; rw [cP] at this; exact this
 obtain ⟨ad, B, c, hA2, h0, h1, h2, hlc, hCB⟩ := eI hC2 (k : Int) hk0 hk1
 rw [cV ds k z5_]
 have hdok : NdOk (toNd (aQ ds (k : Int))) := by rw [← cV ds k z5_]; exact cY hds ha
 have HIA := mk_ (show raddleref14_in.f (k : Int) 0 ((ds.length : Int) - 1) = some true from by rw [bL, decide_eq_true]; omega)
 subst hA2
 simp only [Int.toNat_natCast] at h0 h1 h2
 have HCB := mk_ hCB
 have HLC := mk_ hlc
 have HDO := mk_ hdok
 have hb2 : (0 ≤ (k : Int)) = True := eq_true hk0
 have hb3 : ((k : Int) < (ds.length : Int)) = True := eq_true hk1
 have h0p := al3 h0
 have h0q := al4 h0
 have h1p := al3 h1
 have h1q := al4 h1
 have h2p := al3 h2
 have h2q := al4 h2
 clear hC1 hC2 hC5 hC5L hL5 hC6 hC6L hL6 hk0 hk1 ha hk hCB hlc hdok
 generalize aQ ds (k : Int) = d at *
 go_enter Try.func27, Try.ntmps27
 go_wp2_with (first | (go_at_call 26; (with_reducible show Calls _ _ #[.int .i64 2, .int .i64 1, .int .i64 8] _ _); refine (PAll.raddleref14_in.calls 2 1 8 true _ HI0.out).mono ?_; rintro e w' ⟨rfl, ⟨m0, rfl⟩⟩) | (go_at_call 26; (with_reducible show Calls _ _ #[.int .i64 (k : Int), .int .i64 0, _] _ _); refine (PAll.raddleref14_in.calls (k : Int) 0 ((ds.length : Int) - 1) true _ HIA.out).mono ?_; rintro e w' ⟨rfl, ⟨m1, rfl⟩⟩))
 refine cG (n := 10) (S := fun w' => w'.cell? ⟨w.heap.size + 1 + 1 + 1, 0, none⟩ = some (.slice B d.f0.length c) ∧ w'.cell? ⟨w.heap.size + 1 + 1 + 1, 1, none⟩ = some (.int .i64 d.f1) ∧ w'.cell? ⟨w.heap.size + 1 + 1 + 1, 2, none⟩ = some (.int .i64 d.f2) ∧ True) (ds := [9]) (fun W => Below w.heap.size w W ∧ W.heap[w.heap.size]? = some (.cells #[.int .i64 2, .int .i64 (k : Int), .int .i64 x.f2, .int .i64 x.f3, .int .i64 x.f4.f0, .int .i64 x.f4.f1, .int .i64 x.f4.f2, .int .i64 x.f4.f3.f0, .int .i64 x.f4.f3.f1, .string x.f4.f3.f2, .slice A5 x.f5.length c5, .slice A6 x.f6.length c6, .int .i64 x.f7, .int .i64 x.f8] 34 (0, 0)) ∧ W.heap[w.heap.size + 1]? = some (.cells #[.slice none 0 0, .int .i64 0, .int .i64 0] 49 (0, 0)) ∧ W.heap[w.heap.size + 1 + 1]? = some (.cells #[.slice none 0 0, .int .i64 0, .int .i64 0] 49 (0, 0)) ∧ W.heap[w.heap.size + 1 + 1 + 1]? = some (.cells #[.slice B d.f0.length c, .int .i64 d.f1, .int .i64 d.f2] 49 (0, 0))) (Steps.Bs 10 0) z1_ rfl rfl ⟨z0_, z2_, z2_, z2_, z2_⟩ (fun W hJ => ?_) (fun W0 hJ => ?_)
 ·
  obtain ⟨hb0, bX0, bR0, bN0, bA0⟩ := hJ
  exact ⟨aA bA0 0, aA bA0 1, aA bA0 2, trivial⟩
 obtain ⟨hb0, bX0, bR0, bN0, bA0⟩ := hJ
 have hHeld0 : W0.cell? ⟨w.heap.size + 1 + 1 + 1, 0, none⟩ = some (.slice B d.f0.length c) ∧ W0.cell? ⟨w.heap.size + 1 + 1 + 1, 1, none⟩ = some (.int .i64 d.f1) ∧ W0.cell? ⟨w.heap.size + 1 + 1 + 1, 2, none⟩ = some (.int .i64 d.f2) ∧ True := ⟨aA bA0 0, aA bA0 1, aA bA0 2, trivial⟩
 have hl0 : w.heap.size + 4 ≤ W0.heap.size := aV bA0
 refine sI 0 86 10 1 ?_
 refine sT hHeld0 1 87 10 3 ?_
 refine sI 3 89 10 11 ?_
 refine sT hHeld0 4 90 10 27 ?_
 refine sI 5 91 10 59 ?_
 refine sT hHeld0 6 92 10 123 ?_
 refine join_ (σ := Option Addr × Nat × Nat) 1 (Steps.Bs 10 511) (fun s_ => [(88, .slice s_.1 d.f0.length s_.2.1), (11, .pointer (some ⟨s_.2.2, 0, none⟩)), (93, .agg #[.slice s_.1 d.f0.length s_.2.1, .int .i64 d.f1, .int .i64 d.f2])]) (fun s_ w' => Below w.heap.size w w' ∧ w'.heap[w.heap.size]? = some (.cells #[.int .i64 2, .int .i64 (k : Int), .int .i64 x.f2, .int .i64 x.f3, .int .i64 x.f4.f0, .int .i64 x.f4.f1, .int .i64 x.f4.f2, .int .i64 x.f4.f3.f0, .int .i64 x.f4.f3.f1, .string x.f4.f3.f2, .slice A5 x.f5.length c5, .slice A6 x.f6.length c6, .int .i64 x.f7, .int .i64 x.f8] 34 (0, 0)) ∧ w'.heap[w.heap.size + 1]? = some (.cells #[.slice none 0 0, .int .i64 0, .int .i64 0] 49 (0, 0)) ∧ w'.heap[w.heap.size + 1 + 1]? = some (.cells #[.slice none 0 0, .int .i64 0, .int .i64 0] 49 (0, 0)) ∧ w'.heap[w.heap.size + 1 + 1 + 1]? = some (.cells #[.slice B d.f0.length c, .int .i64 d.f1, .int .i64 d.f2] 49 (0, 0)) ∧ (Kd.int .i64).R 3 w' w.heap.size (fun k_ => w.heap.size + 4 ≤ k_ ∧ k_ ≠ s_.2.2) (.slice s_.1 d.f0.length s_.2.1) d.f0 ∧ w'.heap[s_.2.2]? = some (.cells #[.slice none 0 0, .int .i64 0, .int .i64 0] 49 (0, 0)) ∧ w.heap.size + 4 ≤ s_.2.2) ?_ ?_
 rotate_left
 ·
  intro hCont
  refine two_ (i := 2) (j := 8) (Ni := some 88) (Nj := some 11) (Steps.Bs 10 127) (Steps.Bs 10 379) rfl rfl rfl rfl z1_ z10_ z10_ (fun K hK => ?_) (fun K hK => ?_)
  ·
   refine goes_ Try.func19 z1_ rfl #[.slice B d.f0.length c] z12_ rfl rfl z8_ ?_
   refine (PAll.raddlekeep_TwinInts.calls B c d.f0 d.f0 _ (aN HCB.out hb0) HLC.out (cM d.f0 (by have h : d.f0.length ≤ 12 := HDO.out.len; omega))).mono ?_
   rintro e W1 ⟨u, rfl, hru, hq⟩
   refine ⟨_, rfl, ?_⟩
   obtain ⟨Au, cu, rfl⟩ := bE hru
   have hrv := cF hru
   have hb1 := aG hb0 hq
   have bX1 := aC bX0 hq
   have bR1 := aC bR0 hq
   have bN1 := aC bN0 hq
   have bA1 := aC bA0 hq
   have hHeld1 : W1.cell? ⟨w.heap.size + 1 + 1 + 1, 0, none⟩ = some (.slice B d.f0.length c) ∧ W1.cell? ⟨w.heap.size + 1 + 1 + 1, 1, none⟩ = some (.int .i64 d.f1) ∧ W1.cell? ⟨w.heap.size + 1 + 1 + 1, 2, none⟩ = some (.int .i64 d.f2) ∧ True := ⟨aA bA1 0, aA bA1 1, aA bA1 2, trivial⟩
   have hl1 : w.heap.size + 4 ≤ W1.heap.size := aV bA1
   refine hK.out _ _ hHeld1 (fun _ => ?_)
   clear hK K
   refine nrm 88 ?_
   clear hq
   refine sI 7 93 10 255 ?_
   refine one_ (i := 8) (N := some 11) (Steps.Bs 10 511) rfl rfl z1_ z10_ (fun K hK => ?_)
   refine cK z12_ (N := 11) rfl (cs := #[.slice none 0 0, .int .i64 0, .int .i64 0]) (t := 49) z11_ ?_
   intro go hgo W2 bO hq
   have hb2 := aG hb1 hq
   have bX2 := aC bX1 hq
   have bR2 := aC bR1 hq
   have bN2 := aC bN1 hq
   have bA2 := aC bA1 hq
   have hHeld2 : W2.cell? ⟨w.heap.size + 1 + 1 + 1, 0, none⟩ = some (.slice B d.f0.length c) ∧ W2.cell? ⟨w.heap.size + 1 + 1 + 1, 1, none⟩ = some (.int .i64 d.f1) ∧ W2.cell? ⟨w.heap.size + 1 + 1 + 1, 2, none⟩ = some (.int .i64 d.f2) ∧ True := ⟨aA bA2 0, aA bA2 1, aA bA2 2, trivial⟩
   have hl2 : w.heap.size + 4 ≤ W2.heap.size := aV bA2
   refine hK.out _ _ hHeld2 (fun _ => ?_)
   clear hK K
   exact hCont (Au, cu, go) W2 ⟨hb2, bX2, bR2, bN2, bA2, bT (R_mono (bG hrv hq) (fun k hk => ⟨by have := hk.2.1; omega, by have := hk.2.2.1; show k ≠ go; omega⟩)) z5_, bO, by show _ ≤ go; omega⟩
  ·
   refine cK z12_ (N := 11) rfl (cs := #[.slice none 0 0, .int .i64 0, .int .i64 0]) (t := 49) z11_ ?_
   intro go hgo W1 bO hq
   have hb1 := aG hb0 hq
   have bX1 := aC bX0 hq
   have bR1 := aC bR0 hq
   have bN1 := aC bN0 hq
   have bA1 := aC bA0 hq
   have hHeld1 : W1.cell? ⟨w.heap.size + 1 + 1 + 1, 0, none⟩ = some (.slice B d.f0.length c) ∧ W1.cell? ⟨w.heap.size + 1 + 1 + 1, 1, none⟩ = some (.int .i64 d.f1) ∧ W1.cell? ⟨w.heap.size + 1 + 1 + 1, 2, none⟩ = some (.int .i64 d.f2) ∧ True := ⟨aA bA1 0, aA bA1 1, aA bA1 2, trivial⟩
   have hl1 : w.heap.size + 4 ≤ W1.heap.size := aV bA1
   refine hK.out _ _ hHeld1 (fun _ => ?_)
   clear hK K
   refine nrm 11 ?_
   have hlo := aV bO
   clear hq
   refine one_ (i := 2) (N := some 88) (Steps.Bs 10 383) rfl rfl z1_ z10_ (fun K hK => ?_)
   refine goes_ Try.func19 z1_ rfl #[.slice B d.f0.length c] z12_ rfl rfl z8_ ?_
   refine (PAll.raddlekeep_TwinInts.calls B c d.f0 d.f0 _ (aN HCB.out hb1) HLC.out (cM d.f0 (by have h : d.f0.length ≤ 12 := HDO.out.len; omega))).mono ?_
   rintro e W2 ⟨u, rfl, hru, hq⟩
   refine ⟨_, rfl, ?_⟩
   obtain ⟨Au, cu, rfl⟩ := bE hru
   have hrv := cF hru
   have bO2 := aC bO hq
   have hb2 := aG hb1 hq
   have bX2 := aC bX1 hq
   have bR2 := aC bR1 hq
   have bN2 := aC bN1 hq
   have bA2 := aC bA1 hq
   have hHeld2 : W2.cell? ⟨w.heap.size + 1 + 1 + 1, 0, none⟩ = some (.slice B d.f0.length c) ∧ W2.cell? ⟨w.heap.size + 1 + 1 + 1, 1, none⟩ = some (.int .i64 d.f1) ∧ W2.cell? ⟨w.heap.size + 1 + 1 + 1, 2, none⟩ = some (.int .i64 d.f2) ∧ True := ⟨aA bA2 0, aA bA2 1, aA bA2 2, trivial⟩
   have hl2 : w.heap.size + 4 ≤ W2.heap.size := aV bA2
   refine hK.out _ _ hHeld2 (fun _ => ?_)
   clear hK K
   refine nrm 88 ?_
   refine sI 7 93 10 511 ?_
   exact hCont (Au, cu, go) W2 ⟨hb2, bX2, bR2, bN2, bA2, bT (R_mono hrv (fun k hk => ⟨by have := hk.2.1; omega, by have := hk.2.1; show k ≠ go; omega⟩)) z5_, bO2, by show _ ≤ go; omega⟩
 rintro ⟨Au, cu, go⟩ W1 ⟨hb1, bX1, bR1, bN1, bA1, hru, bO1, hgo⟩
 replace hru : (Kd.int .i64).R 3 W1 w.heap.size (fun k_ => w.heap.size + 4 ≤ k_ ∧ k_ ≠ go) (.slice Au d.f0.length cu) d.f0 := hru
 replace bO1 : W1.heap[go]? = some (.cells #[.slice none 0 0, .int .i64 0, .int .i64 0] 49 (0, 0)) := bO1
 replace hgo : w.heap.size + 4 ≤ go := hgo
 refine norm_ (a' := ?_) ?_ ?_
 rotate_left
 ·
  simp only [putAll, Act.put, List.setIfInBounds_toArray, List.set_cons_zero, List.set_cons_succ]
  rfl
 have hc9_0 := aA bO1 0
 have hf9_0 := aD bO1 0
 have hc9_1 := aA bO1 1
 have hf9_1 := aD bO1 1
 have hc9_2 := aA bO1 2
 have hf9_2 := aD bO1 2
 refine last_ (i := 9) (N := none) (Steps.Bs 10 1023) rfl rfl z1_ z10_ (fun K hK => ?_)
 refine skip_ (w1 := ?_) z12_ rfl ?_ ?_
 rotate_left
 ·
  go_simp
  rfl
 refine hK.out _ _ ?_
 clear hK K
 obtain ⟨V, hV, hbV, bOV, hkeep⟩ := storeS hb1 z5_ bO1 (.slice Au d.f0.length cu) (.int .i64 d.f1) (.int .i64 d.f2)
 have hruV : (Kd.int .i64).R 3 V w.heap.size (fun k_ => w.heap.size + 4 ≤ k_ ∧ k_ ≠ go) (.slice Au d.f0.length cu) d.f0 := dO hru (fun k hk _ => hkeep k hk.2)
 rw [← hV]
 have bXV := (hkeep (w.heap.size) z5_).trans bX1
 have bRV := (hkeep (w.heap.size + 1) z5_).trans bR1
 have bNV := (hkeep (w.heap.size + 1 + 1) z5_).trans bN1
 have bAV := (hkeep (w.heap.size + 1 + 1 + 1) z5_).trans bA1
 clear hV hkeep hru hc9_0 hc9_1 hc9_2 hf9_0 hf9_1 hf9_2 bX1 bR1 bN1 bA1 bO1 hb1 bX0 bR0 bN0 bA0 hb0 hHeld0 hl0
 refine done_ z1_ ?_
 have hO0V := aA bOV
 have hR0V := aA bRV
 have fO0V := aD bOV
 have fR0V := aD bRV
 have hX0V := aA bXV 0
 go_wp2
 refine cG (n := 8) (S := fun w' => w'.cell? ⟨go, 0, none⟩ = some (.slice Au d.f0.length cu) ∧ w'.cell? ⟨go, 1, none⟩ = some (.int .i64 d.f1) ∧ w'.cell? ⟨go, 2, none⟩ = some (.int .i64 d.f2) ∧ w'.cell? ⟨w.heap.size, 4, none⟩ = some (.int .i64 x.f4.f0) ∧ w'.cell? ⟨w.heap.size, 5, none⟩ = some (.int .i64 x.f4.f1) ∧ w'.cell? ⟨w.heap.size, 6, none⟩ = some (.int .i64 x.f4.f2) ∧ w'.cell? ⟨w.heap.size, 7, none⟩ = some (.int .i64 x.f4.f3.f0) ∧ w'.cell? ⟨w.heap.size, 8, none⟩ = some (.int .i64 x.f4.f3.f1) ∧ w'.cell? ⟨w.heap.size, 9, none⟩ = some (.string x.f4.f3.f2) ∧ w'.cell? ⟨w.heap.size + 1 + 1 + 1, 0, none⟩ = some (.slice B d.f0.length c) ∧ True) (ds := [6]) (fun W => Below w.heap.size w W ∧ W.heap[w.heap.size]? = some (.cells #[.int .i64 2, .int .i64 (k : Int), .int .i64 x.f2, .int .i64 x.f3, .int .i64 x.f4.f0, .int .i64 x.f4.f1, .int .i64 x.f4.f2, .int .i64 x.f4.f3.f0, .int .i64 x.f4.f3.f1, .string x.f4.f3.f2, .slice A5 x.f5.length c5, .slice A6 x.f6.length c6, .int .i64 x.f7, .int .i64 x.f8] 34 (0, 0)) ∧ W.heap[w.heap.size + 1]? = some (.cells #[.slice none 0 0, .int .i64 0, .int .i64 0] 49 (0, 0)) ∧ W.heap[w.heap.size + 1 + 1]? = some (.cells #[.slice none 0 0, .int .i64 0, .int .i64 0] 49 (0, 0)) ∧ W.heap[w.heap.size + 1 + 1 + 1]? = some (.cells #[.slice B d.f0.length c, .int .i64 d.f1, .int .i64 d.f2] 49 (0, 0)) ∧ W.heap[go]? = some (.cells #[.slice Au d.f0.length cu, .int .i64 d.f1, .int .i64 d.f2] 49 (0, 0)) ∧ Below V.heap.size V W) (Steps.Bs 8 0) z1_ rfl rfl ⟨bP hbV, aU bXV, aU bRV, aU bNV, aU bAV, aU bOV, bP (Below.refl _ _)⟩ (fun W hJ => ?_) (fun W0 hJ => ?_)
 ·
  obtain ⟨hb0, bX0, bR0, bN0, bA0, bO0, hbv⟩ := hJ
  exact ⟨aA bO0 0, aA bO0 1, aA bO0 2, aA bX0 4, aA bX0 5, aA bX0 6, aA bX0 7, aA bX0 8, aA bX0 9, aA bA0 0, trivial⟩
 obtain ⟨hb0, bX0, bR0, bN0, bA0, bO0, hbv⟩ := hJ
 have hHeld0 : W0.cell? ⟨go, 0, none⟩ = some (.slice Au d.f0.length cu) ∧ W0.cell? ⟨go, 1, none⟩ = some (.int .i64 d.f1) ∧ W0.cell? ⟨go, 2, none⟩ = some (.int .i64 d.f2) ∧ W0.cell? ⟨w.heap.size, 4, none⟩ = some (.int .i64 x.f4.f0) ∧ W0.cell? ⟨w.heap.size, 5, none⟩ = some (.int .i64 x.f4.f1) ∧ W0.cell? ⟨w.heap.size, 6, none⟩ = some (.int .i64 x.f4.f2) ∧ W0.cell? ⟨w.heap.size, 7, none⟩ = some (.int .i64 x.f4.f3.f0) ∧ W0.cell? ⟨w.heap.size, 8, none⟩ = some (.int .i64 x.f4.f3.f1) ∧ W0.cell? ⟨w.heap.size, 9, none⟩ = some (.string x.f4.f3.f2) ∧ W0.cell? ⟨w.heap.size + 1 + 1 + 1, 0, none⟩ = some (.slice B d.f0.length c) ∧ True := ⟨aA bO0 0, aA bO0 1, aA bO0 2, aA bX0 4, aA bX0 5, aA bX0 6, aA bX0 7, aA bX0 8, aA bX0 9, aA bA0 0, trivial⟩
 have hl0 : w.heap.size + 4 ≤ W0.heap.size := aV bA0
 refine sT hHeld0 0 98 8 1 ?_
 refine sI 1 99 8 3 ?_
 refine sT hHeld0 2 100 8 7 ?_
 refine sI 3 101 8 15 ?_
 refine sT hHeld0 4 102 8 31 ?_
 refine one_ (i := 5) (N := (some 103)) (Steps.Bs 8 63) rfl rfl z1_ z10_ (fun K hK => ?_)
 refine goes_ Try.func36 z1_ rfl #[.agg #[.int .i64 x.f4.f0, .int .i64 x.f4.f1, .int .i64 x.f4.f2, .int .i64 x.f4.f3.f0, .int .i64 x.f4.f3.f1, .string x.f4.f3.f2], .slice B d.f0.length c] z12_ rfl rfl z8_ ?_
 refine (PAll.raddleref14_Pred.calls 3 x.f4.f0 x.f4.f1 x.f4.f2 x.f4.f3.f0 x.f4.f3.f1 x.f4.f3.f2 B c d.f0 (predE x.f4 d.f0) _ (aN HCB.out hb0) HLC.out (rpred_eq 3 x.f4 d.f0 (by have h : d.f0.length ≤ 12 := HDO.out.len; omega) z5_)).mono ?_
 rintro e W1 ⟨rfl, hq1⟩
 refine ⟨_, rfl, ?_⟩
 have bX1 := aC bX0 hq1
 have bR1 := aC bR0 hq1
 have bN1 := aC bN0 hq1
 have bA1 := aC bA0 hq1
 have bO1 := aC bO0 hq1
 have hb1 := aG hb0 hq1
 have hHeld1 : W1.cell? ⟨go, 0, none⟩ = some (.slice Au d.f0.length cu) ∧ W1.cell? ⟨go, 1, none⟩ = some (.int .i64 d.f1) ∧ W1.cell? ⟨go, 2, none⟩ = some (.int .i64 d.f2) ∧ W1.cell? ⟨w.heap.size, 4, none⟩ = some (.int .i64 x.f4.f0) ∧ W1.cell? ⟨w.heap.size, 5, none⟩ = some (.int .i64 x.f4.f1) ∧ W1.cell? ⟨w.heap.size, 6, none⟩ = some (.int .i64 x.f4.f2) ∧ W1.cell? ⟨w.heap.size, 7, none⟩ = some (.int .i64 x.f4.f3.f0) ∧ W1.cell? ⟨w.heap.size, 8, none⟩ = some (.int .i64 x.f4.f3.f1) ∧ W1.cell? ⟨w.heap.size, 9, none⟩ = some (.string x.f4.f3.f2) ∧ W1.cell? ⟨w.heap.size + 1 + 1 + 1, 0, none⟩ = some (.slice B d.f0.length c) ∧ True := ⟨aA bO1 0, aA bO1 1, aA bO1 2, aA bX1 4, aA bX1 5, aA bX1 6, aA bX1 7, aA bX1 8, aA bX1 9, aA bA1 0, trivial⟩
 have hl1 : w.heap.size + 4 ≤ W1.heap.size := aV bA1
 refine hK.out _ _ hHeld1 (fun _ => ?_)
 clear hK K
 refine nrm 103 ?_
 have hc6_0 := aA bR1
 have hf6_0 := aD bR1
 refine last_ (i := 6) (N := none) (Steps.Bs 8 127) rfl rfl z1_ z10_ (fun K hK => ?_)
 refine skip_ (w1 := ?_) z12_ rfl ?_ ?_
 rotate_left
 ·
  go_simp
  rfl
 refine hK.out _ _ ?_
 clear hK K
 refine sI 7 7 8 255 ?_
 refine done_ z1_ ?_
 go_wp2
 refine bodyPost_ret (aT rfl _ _ _ 49 #[.slice Au d.f0.length cu, .int .i64 d.f1, .int .i64 d.f2] (0, 0) _ rfl (blkS bR1 _ _ _) Try.underlying49 rfl z1_) rfl ?_
 exact GotB.stored (d := toNd d) (R_mono (bG (bG hruV hbv) hq1) (fun k hk => hk.1)) hb1 _ _ _
theorem node5 (hC1 : Kd.C k54 w A1 f.length f) (hl1 : f.length ≤ c1) (hf : FOk f) (hC2 : Kd.C k49 w A2 ds.length ds) (hl2 : ds.length ≤ c2) (hl : ds.length ≤ 1000) (hds : ∀ d ∈ rows ds, NdOk d) (hC5 : Kd.C (Kd.int .i64) w A5 x.f5.length x.f5) (hC5L : x.f5.length ≤ c5) (hL5 : x.f5.length ≤ 1000) (hC6 : Kd.C (Kd.int .i64) w A6 x.f6.length x.f6) (hC6L : x.f6.length ≤ c6) (hL6 : x.f6.length ≤ 1000) :
  Calls Try.prog 27 #[.agg #[.int .i64 5, .int .i64 x.f1, .int .i64 x.f2, .int .i64 x.f3, .int .i64 x.f4.f0, .int .i64 x.f4.f1, .int .i64 x.f4.f2, .int .i64 x.f4.f3.f0, .int .i64 x.f4.f3.f1, .string x.f4.f3.f2, .slice A5 x.f5.length c5, .slice A6 x.f6.length c6, .int .i64 x.f7, .int .i64 x.f8], .slice A1 f.length c1, .slice A2 ds.length c2] w (GotB w (bothN (rows ds) x)) := by
 have HC1 := mk_ hC1
 have HC2 := mk_ hC2
 have HC5 := mk_ hC5
 have HC5L := mk_ hC5L
 have HL5 := mk_ hL5
 have HC6 := mk_ hC6
 have HC6L := mk_ hC6L
 have HL6 := mk_ hL6
 have hsub : IntKind.i64.wrap ((ds.length : Int) - 1) = (ds.length : Int) - 1 := IntWalk.i64_in _ z5_
 have HI0 := mk_ (show raddleref14_in.f 5 1 8 = some true from bL 5 1 8)
 unfold bothN
 by_cases ha : ahead (rows ds) x.f1 = true
 case neg =>
  rw [if_neg (fun e => ha e.1)]
  have HIA := mk_ (show raddleref14_in.f x.f1 0 ((ds.length : Int) - 1) = some false from by rw [bL, decide_eq_false]; unfold ahead at ha; rw [cP] at ha; intro e; exact ha (decide_eq_true z5_))
  clear ha hC1 hC2 hC5 hC5L hL5 hC6 hC6L hL6
  go_enter Try.func27, Try.ntmps27
  go_wp2_with (first | (go_at_call 26; (with_reducible show Calls _ _ #[.int .i64 5, .int .i64 1, .int .i64 8] _ _); refine (PAll.raddleref14_in.calls 5 1 8 true _ HI0.out).mono ?_; rintro e w' ⟨rfl, ⟨m0, rfl⟩⟩) | (go_at_call 26; (with_reducible show Calls _ _ #[.int .i64 x.f1, .int .i64 0, _] _ _); refine (PAll.raddleref14_in.calls x.f1 0 ((ds.length : Int) - 1) false _ HIA.out).mono ?_; rintro e w' ⟨rfl, ⟨m1, rfl⟩⟩))
  refine bodyPost_ret (aT rfl _ _ _ 49 #[.slice none 0 0, .int .i64 0, .int .i64 0] (0, 0) _ rfl (blkS (x := .slice none 0 0) (y := .int .i64 0) (z := .int .i64 0) z2_ _ _ _) Try.underlying49 rfl z1_) rfl ?_
  exact GotB.zero z0_
 by_cases ha2 : ahead (rows ds) x.f2 = true
 case neg =>
  rw [if_neg (fun e => ha2 e.2)]
  have HIA := mk_ (show raddleref14_in.f x.f1 0 ((ds.length : Int) - 1) = some true from by rw [bL, decide_eq_true]; have := of_decide_eq_true ha; rw [cP] at this; omega)
  have HIA2 := mk_ (show raddleref14_in.f x.f2 0 ((ds.length : Int) - 1) = some false from by rw [bL, decide_eq_false]; unfold ahead at ha2; rw [cP] at ha2; intro e; exact ha2 (decide_eq_true z5_))
  clear ha ha2 hC1 hC2 hC5 hC5L hL5 hC6 hC6L hL6
  go_enter Try.func27, Try.ntmps27
  go_wp2_with (first | (go_at_call 26; (with_reducible show Calls _ _ #[.int .i64 5, .int .i64 1, .int .i64 8] _ _); refine (PAll.raddleref14_in.calls 5 1 8 true _ HI0.out).mono ?_; rintro e w' ⟨rfl, ⟨m0, rfl⟩⟩) | (go_at_call 26; (with_reducible show Calls _ _ #[.int .i64 x.f1, .int .i64 0, _] _ _); refine (PAll.raddleref14_in.calls x.f1 0 ((ds.length : Int) - 1) true _ HIA.out).mono ?_; rintro e w' ⟨rfl, ⟨m1, rfl⟩⟩) | (go_at_call 26; (with_reducible show Calls _ _ #[.int .i64 x.f2, .int .i64 0, _] _ _); refine (PAll.raddleref14_in.calls x.f2 0 ((ds.length : Int) - 1) false _ HIA2.out).mono ?_; rintro e w' ⟨rfl, ⟨m3, rfl⟩⟩))
  refine bodyPost_ret (aT rfl _ _ _ 49 #[.slice none 0 0, .int .i64 0, .int .i64 0] (0, 0) _ rfl (blkS (x := .slice none 0 0) (y := .int .i64 0) (z := .int .i64 0) z2_ _ _ _) Try.underlying49 rfl z1_) rfl ?_
  exact GotB.zero z0_
 rw [if_pos ⟨ha, ha2⟩]
 obtain ⟨k, hk⟩ := Int.eq_ofNat_of_zero_le (of_decide_eq_true ha).1
 rw [hk] at ha ⊢
 obtain ⟨hk0, hk1⟩ : 0 ≤ (k : Int) ∧ (k : Int) < (ds.length : Int) := by have := of_decide_eq_true ha; rw [cP] at this; exact this
 obtain ⟨ad, B, c, hA2, h0, h1, h2, hlc, hCB⟩ := eI hC2 (k : Int) hk0 hk1
 rw [cV ds k z5_]
 have hdok : NdOk (toNd (aQ ds (k : Int))) := by rw [← cV ds k z5_]; exact cY hds ha
 have HIA := mk_ (show raddleref14_in.f (k : Int) 0 ((ds.length : Int) - 1) = some true from by rw [bL, decide_eq_true]; omega)
 obtain ⟨k2, hk2⟩ := Int.eq_ofNat_of_zero_le (of_decide_eq_true ha2).1
 rw [hk2] at ha2 ⊢
 obtain ⟨hk20, hk21⟩ : 0 ≤ (k2 : Int) ∧ (k2 : Int) < (ds.length : Int) := by have := of_decide_eq_true ha2; rw [cP] at this; exact this
 obtain ⟨ad2, B2, c2', hA2', h3, h4, h5, hlc2, hCB2⟩ := eI hC2 (k2 : Int) hk20 hk21
 rw [cV ds k2 z5_]
 have hdok2 : NdOk (toNd (aQ ds (k2 : Int))) := by rw [← cV ds k2 z5_]; exact cY hds ha2
 have HIA2 := mk_ (show raddleref14_in.f (k2 : Int) 0 ((ds.length : Int) - 1) = some true from by rw [bL, decide_eq_true]; omega)
 obtain rfl : ad = ad2 := by rw [hA2] at hA2'; exact Option.some.inj hA2'
 clear hA2'
 simp only [Int.toNat_natCast] at h3 h4 h5
 have HCB2 := mk_ hCB2
 have HLC2 := mk_ hlc2
 have HDO2 := mk_ hdok2
 have hb4 : (0 ≤ (k2 : Int)) = True := eq_true hk20
 have hb5 : ((k2 : Int) < (ds.length : Int)) = True := eq_true hk21
 generalize aQ ds (k2 : Int) = d2 at *
 subst hA2
 simp only [Int.toNat_natCast] at h0 h1 h2
 have HCB := mk_ hCB
 have HLC := mk_ hlc
 have HDO := mk_ hdok
 have hb2 : (0 ≤ (k : Int)) = True := eq_true hk0
 have hb3 : ((k : Int) < (ds.length : Int)) = True := eq_true hk1
 have h0p := al3 h0
 have h0q := al4 h0
 have h1p := al3 h1
 have h1q := al4 h1
 have h2p := al3 h2
 have h2q := al4 h2
 have h3p := al3 h3
 have h3q := al4 h3
 have h4p := al3 h4
 have h4q := al4 h4
 have h5p := al3 h5
 have h5q := al4 h5
 clear hC1 hC2 hC5 hC5L hL5 hC6 hC6L hL6 hk0 hk1 ha hk hCB hlc hdok hk20 hk21 ha2 hk2 hCB2 hlc2 hdok2
 generalize aQ ds (k : Int) = d at *
 generalize hz : (if (toNd d).1 = (toNd d2).1 then (if (toNd d).2.1 + (toNd d2).2.1 ≤ 1125899906842624 then (((toNd d).1, (toNd d).2.1 + (toNd d2).2.1, max (toNd d).2.2 (toNd d2).2.2), (0 : Int)) else (zN, 11)) else (zN, 10)) = r
 replace hz : (if d.f0 = d2.f0 then (if d.f1 + d2.f1 ≤ 1125899906842624 then ((d.f0, d.f1 + d2.f1, max d.f2 d2.f2), (0 : Int)) else (zN, 11)) else (zN, 10)) = r := hz
 have HZ := mk_ hz
 clear hz
 go_enter Try.func27, Try.ntmps27
 go_wp2_with (first | (go_at_call 26; (with_reducible show Calls _ _ #[.int .i64 5, .int .i64 1, .int .i64 8] _ _); refine (PAll.raddleref14_in.calls 5 1 8 true _ HI0.out).mono ?_; rintro e w' ⟨rfl, ⟨m0, rfl⟩⟩) | (go_at_call 26; (with_reducible show Calls _ _ #[.int .i64 (k : Int), .int .i64 0, _] _ _); refine (PAll.raddleref14_in.calls (k : Int) 0 ((ds.length : Int) - 1) true _ HIA.out).mono ?_; rintro e w' ⟨rfl, ⟨m1, rfl⟩⟩) | (go_at_call 26; (with_reducible show Calls _ _ #[.int .i64 (k2 : Int), .int .i64 0, _] _ _); refine (PAll.raddleref14_in.calls (k2 : Int) 0 ((ds.length : Int) - 1) true _ HIA2.out).mono ?_; rintro e w' ⟨rfl, ⟨m3, rfl⟩⟩))
 refine cG (n := 10) (S := fun w' => w'.cell? ⟨w.heap.size + 1 + 1 + 1, 0, none⟩ = some (.slice B d.f0.length c) ∧ w'.cell? ⟨w.heap.size + 1 + 1 + 1, 1, none⟩ = some (.int .i64 d.f1) ∧ w'.cell? ⟨w.heap.size + 1 + 1 + 1, 2, none⟩ = some (.int .i64 d.f2) ∧ True) (ds := [9]) (fun W => Below w.heap.size w W ∧ W.heap[w.heap.size]? = some (.cells #[.int .i64 5, .int .i64 (k : Int), .int .i64 (k2 : Int), .int .i64 x.f3, .int .i64 x.f4.f0, .int .i64 x.f4.f1, .int .i64 x.f4.f2, .int .i64 x.f4.f3.f0, .int .i64 x.f4.f3.f1, .string x.f4.f3.f2, .slice A5 x.f5.length c5, .slice A6 x.f6.length c6, .int .i64 x.f7, .int .i64 x.f8] 34 (0, 0)) ∧ W.heap[w.heap.size + 1]? = some (.cells #[.slice none 0 0, .int .i64 0, .int .i64 0] 49 (0, 0)) ∧ W.heap[w.heap.size + 1 + 1]? = some (.cells #[.slice none 0 0, .int .i64 0, .int .i64 0] 49 (0, 0)) ∧ W.heap[w.heap.size + 1 + 1 + 1]? = some (.cells #[.slice B d.f0.length c, .int .i64 d.f1, .int .i64 d.f2] 49 (0, 0))) (Steps.Bs 10 0) z1_ rfl rfl ⟨z0_, z2_, z2_, z2_, z2_⟩ (fun W hJ => ?_) (fun W0 hJ => ?_)
 ·
  obtain ⟨hb0, bX0, bR0, bN0, bA0⟩ := hJ
  exact ⟨aA bA0 0, aA bA0 1, aA bA0 2, trivial⟩
 obtain ⟨hb0, bX0, bR0, bN0, bA0⟩ := hJ
 have hHeld0 : W0.cell? ⟨w.heap.size + 1 + 1 + 1, 0, none⟩ = some (.slice B d.f0.length c) ∧ W0.cell? ⟨w.heap.size + 1 + 1 + 1, 1, none⟩ = some (.int .i64 d.f1) ∧ W0.cell? ⟨w.heap.size + 1 + 1 + 1, 2, none⟩ = some (.int .i64 d.f2) ∧ True := ⟨aA bA0 0, aA bA0 1, aA bA0 2, trivial⟩
 have hl0 : w.heap.size + 4 ≤ W0.heap.size := aV bA0
 refine sI 0 86 10 1 ?_
 refine sT hHeld0 1 87 10 3 ?_
 refine sI 3 89 10 11 ?_
 refine sT hHeld0 4 90 10 27 ?_
 refine sI 5 91 10 59 ?_
 refine sT hHeld0 6 92 10 123 ?_
 refine join_ (σ := Option Addr × Nat × Nat) 1 (Steps.Bs 10 511) (fun s_ => [(88, .slice s_.1 d.f0.length s_.2.1), (11, .pointer (some ⟨s_.2.2, 0, none⟩)), (93, .agg #[.slice s_.1 d.f0.length s_.2.1, .int .i64 d.f1, .int .i64 d.f2])]) (fun s_ w' => Below w.heap.size w w' ∧ w'.heap[w.heap.size]? = some (.cells #[.int .i64 5, .int .i64 (k : Int), .int .i64 (k2 : Int), .int .i64 x.f3, .int .i64 x.f4.f0, .int .i64 x.f4.f1, .int .i64 x.f4.f2, .int .i64 x.f4.f3.f0, .int .i64 x.f4.f3.f1, .string x.f4.f3.f2, .slice A5 x.f5.length c5, .slice A6 x.f6.length c6, .int .i64 x.f7, .int .i64 x.f8] 34 (0, 0)) ∧ w'.heap[w.heap.size + 1]? = some (.cells #[.slice none 0 0, .int .i64 0, .int .i64 0] 49 (0, 0)) ∧ w'.heap[w.heap.size + 1 + 1]? = some (.cells #[.slice none 0 0, .int .i64 0, .int .i64 0] 49 (0, 0)) ∧ w'.heap[w.heap.size + 1 + 1 + 1]? = some (.cells #[.slice B d.f0.length c, .int .i64 d.f1, .int .i64 d.f2] 49 (0, 0)) ∧ (Kd.int .i64).R 3 w' w.heap.size (fun k_ => w.heap.size + 4 ≤ k_ ∧ k_ ≠ s_.2.2) (.slice s_.1 d.f0.length s_.2.1) d.f0 ∧ w'.heap[s_.2.2]? = some (.cells #[.slice none 0 0, .int .i64 0, .int .i64 0] 49 (0, 0)) ∧ w.heap.size + 4 ≤ s_.2.2) ?_ ?_
 rotate_left
 ·
  intro hCont
  refine two_ (i := 2) (j := 8) (Ni := some 88) (Nj := some 11) (Steps.Bs 10 127) (Steps.Bs 10 379) rfl rfl rfl rfl z1_ z10_ z10_ (fun K hK => ?_) (fun K hK => ?_)
  ·
   refine goes_ Try.func19 z1_ rfl #[.slice B d.f0.length c] z12_ rfl rfl z8_ ?_
   refine (PAll.raddlekeep_TwinInts.calls B c d.f0 d.f0 _ (aN HCB.out hb0) HLC.out (cM d.f0 (by have h : d.f0.length ≤ 12 := HDO.out.len; omega))).mono ?_
   rintro e W1 ⟨u, rfl, hru, hq⟩
   refine ⟨_, rfl, ?_⟩
   obtain ⟨Au, cu, rfl⟩ := bE hru
   have hrv := cF hru
   have hb1 := aG hb0 hq
   have bX1 := aC bX0 hq
   have bR1 := aC bR0 hq
   have bN1 := aC bN0 hq
   have bA1 := aC bA0 hq
   have hHeld1 : W1.cell? ⟨w.heap.size + 1 + 1 + 1, 0, none⟩ = some (.slice B d.f0.length c) ∧ W1.cell? ⟨w.heap.size + 1 + 1 + 1, 1, none⟩ = some (.int .i64 d.f1) ∧ W1.cell? ⟨w.heap.size + 1 + 1 + 1, 2, none⟩ = some (.int .i64 d.f2) ∧ True := ⟨aA bA1 0, aA bA1 1, aA bA1 2, trivial⟩
   have hl1 : w.heap.size + 4 ≤ W1.heap.size := aV bA1
   refine hK.out _ _ hHeld1 (fun _ => ?_)
   clear hK K
   refine nrm 88 ?_
   clear hq
   refine sI 7 93 10 255 ?_
   refine one_ (i := 8) (N := some 11) (Steps.Bs 10 511) rfl rfl z1_ z10_ (fun K hK => ?_)
   refine cK z12_ (N := 11) rfl (cs := #[.slice none 0 0, .int .i64 0, .int .i64 0]) (t := 49) z11_ ?_
   intro go hgo W2 bO hq
   have hb2 := aG hb1 hq
   have bX2 := aC bX1 hq
   have bR2 := aC bR1 hq
   have bN2 := aC bN1 hq
   have bA2 := aC bA1 hq
   have hHeld2 : W2.cell? ⟨w.heap.size + 1 + 1 + 1, 0, none⟩ = some (.slice B d.f0.length c) ∧ W2.cell? ⟨w.heap.size + 1 + 1 + 1, 1, none⟩ = some (.int .i64 d.f1) ∧ W2.cell? ⟨w.heap.size + 1 + 1 + 1, 2, none⟩ = some (.int .i64 d.f2) ∧ True := ⟨aA bA2 0, aA bA2 1, aA bA2 2, trivial⟩
   have hl2 : w.heap.size + 4 ≤ W2.heap.size := aV bA2
   refine hK.out _ _ hHeld2 (fun _ => ?_)
   clear hK K
   exact hCont (Au, cu, go) W2 ⟨hb2, bX2, bR2, bN2, bA2, bT (R_mono (bG hrv hq) (fun k hk => ⟨by have := hk.2.1; omega, by have := hk.2.2.1; show k ≠ go; omega⟩)) z5_, bO, by show _ ≤ go; omega⟩
  ·
   refine cK z12_ (N := 11) rfl (cs := #[.slice none 0 0, .int .i64 0, .int .i64 0]) (t := 49) z11_ ?_
   intro go hgo W1 bO hq
   have hb1 := aG hb0 hq
   have bX1 := aC bX0 hq
   have bR1 := aC bR0 hq
   have bN1 := aC bN0 hq
   have bA1 := aC bA0 hq
   have hHeld1 : W1.cell? ⟨w.heap.size + 1 + 1 + 1, 0, none⟩ = some (.slice B d.f0.length c) ∧ W1.cell? ⟨w.heap.size + 1 + 1 + 1, 1, none⟩ = some (.int .i64 d.f1) ∧ W1.cell? ⟨w.heap.size + 1 + 1 + 1, 2, none⟩ = some (.int .i64 d.f2) ∧ True := ⟨aA bA1 0, aA bA1 1, aA bA1 2, trivial⟩
   have hl1 : w.heap.size + 4 ≤ W1.heap.size := aV bA1
   refine hK.out _ _ hHeld1 (fun _ => ?_)
   clear hK K
   refine nrm 11 ?_
   have hlo := aV bO
   clear hq
   refine one_ (i := 2) (N := some 88) (Steps.Bs 10 383) rfl rfl z1_ z10_ (fun K hK => ?_)
   refine goes_ Try.func19 z1_ rfl #[.slice B d.f0.length c] z12_ rfl rfl z8_ ?_
   refine (PAll.raddlekeep_TwinInts.calls B c d.f0 d.f0 _ (aN HCB.out hb1) HLC.out (cM d.f0 (by have h : d.f0.length ≤ 12 := HDO.out.len; omega))).mono ?_
   rintro e W2 ⟨u, rfl, hru, hq⟩
   refine ⟨_, rfl, ?_⟩
   obtain ⟨Au, cu, rfl⟩ := bE hru
   have hrv := cF hru
   have bO2 := aC bO hq
   have hb2 := aG hb1 hq
   have bX2 := aC bX1 hq
   have bR2 := aC bR1 hq
   have bN2 := aC bN1 hq
   have bA2 := aC bA1 hq
   have hHeld2 : W2.cell? ⟨w.heap.size + 1 + 1 + 1, 0, none⟩ = some (.slice B d.f0.length c) ∧ W2.cell? ⟨w.heap.size + 1 + 1 + 1, 1, none⟩ = some (.int .i64 d.f1) ∧ W2.cell? ⟨w.heap.size + 1 + 1 + 1, 2, none⟩ = some (.int .i64 d.f2) ∧ True := ⟨aA bA2 0, aA bA2 1, aA bA2 2, trivial⟩
   have hl2 : w.heap.size + 4 ≤ W2.heap.size := aV bA2
   refine hK.out _ _ hHeld2 (fun _ => ?_)
   clear hK K
   refine nrm 88 ?_
   refine sI 7 93 10 511 ?_
   exact hCont (Au, cu, go) W2 ⟨hb2, bX2, bR2, bN2, bA2, bT (R_mono hrv (fun k hk => ⟨by have := hk.2.1; omega, by have := hk.2.1; show k ≠ go; omega⟩)) z5_, bO2, by show _ ≤ go; omega⟩
 rintro ⟨Au, cu, go⟩ W1 ⟨hb1, bX1, bR1, bN1, bA1, hru, bO1, hgo⟩
 replace hru : (Kd.int .i64).R 3 W1 w.heap.size (fun k_ => w.heap.size + 4 ≤ k_ ∧ k_ ≠ go) (.slice Au d.f0.length cu) d.f0 := hru
 replace bO1 : W1.heap[go]? = some (.cells #[.slice none 0 0, .int .i64 0, .int .i64 0] 49 (0, 0)) := bO1
 replace hgo : w.heap.size + 4 ≤ go := hgo
 refine norm_ (a' := ?_) ?_ ?_
 rotate_left
 ·
  simp only [putAll, Act.put, List.setIfInBounds_toArray, List.set_cons_zero, List.set_cons_succ]
  rfl
 have hc9_0 := aA bO1 0
 have hf9_0 := aD bO1 0
 have hc9_1 := aA bO1 1
 have hf9_1 := aD bO1 1
 have hc9_2 := aA bO1 2
 have hf9_2 := aD bO1 2
 refine last_ (i := 9) (N := none) (Steps.Bs 10 1023) rfl rfl z1_ z10_ (fun K hK => ?_)
 refine skip_ (w1 := ?_) z12_ rfl ?_ ?_
 rotate_left
 ·
  go_simp
  rfl
 refine hK.out _ _ ?_
 clear hK K
 obtain ⟨V, hV, hbV, bOV, hkeep⟩ := storeS hb1 z5_ bO1 (.slice Au d.f0.length cu) (.int .i64 d.f1) (.int .i64 d.f2)
 have hruV : (Kd.int .i64).R 3 V w.heap.size (fun k_ => w.heap.size + 4 ≤ k_ ∧ k_ ≠ go) (.slice Au d.f0.length cu) d.f0 := dO hru (fun k hk _ => hkeep k hk.2)
 rw [← hV]
 have bXV := (hkeep (w.heap.size) z5_).trans bX1
 have bRV := (hkeep (w.heap.size + 1) z5_).trans bR1
 have bNV := (hkeep (w.heap.size + 1 + 1) z5_).trans bN1
 have bAV := (hkeep (w.heap.size + 1 + 1 + 1) z5_).trans bA1
 clear hV hkeep hru hc9_0 hc9_1 hc9_2 hf9_0 hf9_1 hf9_2 bX1 bR1 bN1 bA1 bO1 hb1 bX0 bR0 bN0 bA0 hb0 hHeld0 hl0
 refine done_ z1_ ?_
 have hO0V := aA bOV
 have hR0V := aA bRV
 have fO0V := aD bOV
 have fR0V := aD bRV
 have hX0V := aA bXV
 replace h3 := aE hbV h3
 replace h4 := aE hbV h4
 replace h5 := aE hbV h5
 have gA0 := fun a i => aA (aY bAV a) i
 have eA0 := fun a i => aD (aY bAV a) i
 have gO0 := fun a i => aA (aY bOV a) i
 have eO0 := fun a i => aD (aY bOV a) i
 have gN0 := fun a i => aA (aY bNV a) i
 have eN0 := fun a i => aD (aY bNV a) i
 have gR0 := fun a i => aA (aY bRV a) i
 have eR0 := fun a i => aD (aY bRV a) i
 by_cases he : d.f0 = d2.f0
 case neg =>
  obtain rfl : (zN, (10 : Int)) = r := by rw [← HZ.out, if_neg he]
  have HE := mk_ (decide_eq_false he)
  clear he
  go_wp2_with (first | (go_at_call 18; refine (PAll.raddlekeep_Ints.calls (d.f0.length + 1) B c d.f0 B2 c2' d2.f0 _ (V.alloc _) (aN HCB.out (aM hbV _)) HLC.out (aN HCB2.out (aM hbV _)) HLC2.out (dS _ d.f0 d2.f0 (by have h : d.f0.length ≤ 12 := HDO.out.len; omega) z5_)).mono ?_; rw [HE.out]; rintro e w' ⟨rfl, ⟨m2, rfl⟩⟩))
  refine bodyPost_ret (aT rfl _ _ _ 49 #[.slice none 0 0, .int .i64 0, .int .i64 0] (0, 0) _ rfl (blkS (aX (aY bRV _) _) _ _ _) Try.underlying49 rfl z1_) rfl ?_
  exact GotB.zero (aI (aI (aI (aZ (aM hbV _) _) z5_) z5_) z5_)
 have HE := mk_ (decide_eq_true he)
 have HZ2 := mk_ (HZ.out.symm.trans (if_pos he))
 have hw1 : d.f1 ≤ 1125899906842624 := HDO.out.w2
 have hw2 : d2.f1 ≤ 1125899906842624 := HDO2.out.w2
 have hw3 : 1 ≤ d.f1 := HDO.out.w1
 have hw4 : 1 ≤ d2.f1 := HDO2.out.w1
 have hv1 : d.f2 ≤ 1152921504606846976 := HDO.out.v2
 have hv2 : d2.f2 ≤ 1152921504606846976 := HDO2.out.v2
 have hws : IntKind.i64.wrap (d.f1 + d2.f1) = d.f1 + d2.f1 := IntWalk.i64_in _ z5_
 have hdv : decide ((1152921504606846976 : Int) < max d.f2 d2.f2) = false := decide_eq_false z5_
 have hdv2 : ((1152921504606846976 : Int) < max d.f2 d2.f2) = False := eq_false z5_
 clear HZ he hw1 hw2 hw3 hw4 hv1 hv2
 go_wp2_with (first | (go_at_call 18; refine (PAll.raddlekeep_Ints.calls (d.f0.length + 1) B c d.f0 B2 c2' d2.f0 _ (V.alloc _) (aN HCB.out (aM hbV _)) HLC.out (aN HCB2.out (aM hbV _)) HLC2.out (dS _ d.f0 d2.f0 (by have h : d.f0.length ≤ 12 := HDO.out.len; omega) z5_)).mono ?_; rw [HE.out]; rintro e w' ⟨rfl, ⟨m2, rfl⟩⟩))
 refine cG (n := 14) (S := fun w' => w'.cell? ⟨w.heap.size + 1 + 1 + 1, 1, none⟩ = some (.int .i64 d.f1) ∧ w'.cell? ⟨w.heap.size + 1 + 1 + 1, 2, none⟩ = some (.int .i64 d.f2) ∧ w'.cell? ⟨V.heap.size, 1, none⟩ = some (.int .i64 d2.f1) ∧ w'.cell? ⟨V.heap.size, 2, none⟩ = some (.int .i64 d2.f2) ∧ True) (ds := [13]) (fun W => Below w.heap.size w W ∧ W.heap[w.heap.size]? = some (.cells #[.int .i64 5, .int .i64 (k : Int), .int .i64 (k2 : Int), .int .i64 x.f3, .int .i64 x.f4.f0, .int .i64 x.f4.f1, .int .i64 x.f4.f2, .int .i64 x.f4.f3.f0, .int .i64 x.f4.f3.f1, .string x.f4.f3.f2, .slice A5 x.f5.length c5, .slice A6 x.f6.length c6, .int .i64 x.f7, .int .i64 x.f8] 34 (0, 0)) ∧ W.heap[w.heap.size + 1]? = some (.cells #[.slice none 0 0, .int .i64 0, .int .i64 0] 49 (0, 0)) ∧ W.heap[w.heap.size + 1 + 1]? = some (.cells #[.slice none 0 0, .int .i64 0, .int .i64 0] 49 (0, 0)) ∧ W.heap[w.heap.size + 1 + 1 + 1]? = some (.cells #[.slice B d.f0.length c, .int .i64 d.f1, .int .i64 d.f2] 49 (0, 0)) ∧ W.heap[go]? = some (.cells #[.slice Au d.f0.length cu, .int .i64 d.f1, .int .i64 d.f2] 49 (0, 0)) ∧ W.heap[V.heap.size]? = some (.cells #[.slice B2 d2.f0.length c2', .int .i64 d2.f1, .int .i64 d2.f2] 49 (0, 0)) ∧ Below V.heap.size V W) (Steps.Bs 14 0) z1_ rfl rfl ⟨bP (aZ (aM hbV _) _), aU (aX (aY bXV _) _), aU (aX (aY bRV _) _), aU (aX (aY bNV _) _), aU (aX (aY bAV _) _), aU (aX (aY bOV _) _), aU (aX (cJ V _) _), bP (aZ (aM (Below.refl _ _) _) _)⟩ (fun W hJ => ?_) (fun W0 hJ => ?_)
 ·
  obtain ⟨hb0, bX0, bR0, bN0, bA0, bO0, bB0, hbv⟩ := hJ
  exact ⟨aA bA0 1, aA bA0 2, aA bB0 1, aA bB0 2, trivial⟩
 obtain ⟨hb0, bX0, bR0, bN0, bA0, bO0, bB0, hbv⟩ := hJ
 have hHeld0 : W0.cell? ⟨w.heap.size + 1 + 1 + 1, 1, none⟩ = some (.int .i64 d.f1) ∧ W0.cell? ⟨w.heap.size + 1 + 1 + 1, 2, none⟩ = some (.int .i64 d.f2) ∧ W0.cell? ⟨V.heap.size, 1, none⟩ = some (.int .i64 d2.f1) ∧ W0.cell? ⟨V.heap.size, 2, none⟩ = some (.int .i64 d2.f2) ∧ True := ⟨aA bA0 1, aA bA0 2, aA bB0 1, aA bB0 2, trivial⟩
 have hl0 : w.heap.size + 4 ≤ W0.heap.size := aV bA0
 refine sI 0 210 14 1 ?_
 refine sT hHeld0 1 211 14 3 ?_
 refine sI 2 212 14 7 ?_
 refine sT hHeld0 3 213 14 15 ?_
 refine sI 4 214 14 31 ?_
 refine sI 5 215 14 63 ?_
 refine sT hHeld0 6 216 14 127 ?_
 refine sI 7 217 14 255 ?_
 refine sT hHeld0 8 218 14 511 ?_
 refine sI 9 219 14 1023 ?_
 refine sI 10 220 14 2047 ?_
 have hco := aA bO0 1
 have hfo := aD bO0 1
 refine one_ (i := 11) (N := none) (Steps.Bs 14 4095) rfl rfl z1_ z10_ (fun K hK => ?_)
 refine skip_ (w1 := ?_) z12_ rfl ?_ ?_
 rotate_left
 ·
  go_simp
  rfl
 obtain ⟨W1, hW1⟩ : ∃ V_ : World, V_ = W0.setCell ⟨go, 1, none⟩ (.int .i64 (d.f1 + d2.f1)) := ⟨_, rfl⟩
 rw [← hW1]
 have hk1 : ∀ k, k ≠ go → W1.heap[k]? = W0.heap[k]? := fun k hk => by rw [hW1]; exact Below.heap_setCell _ _ _ k hk
 have bO1 : W1.heap[go]? = some (.cells #[.slice Au d.f0.length cu, .int .i64 (d.f1 + d2.f1), .int .i64 d.f2] 49 (0, 0)) := by rw [hW1]; exact bS bO0 _
 have hb1 : Below w.heap.size w W1 := by rw [hW1]; exact aI hb0 z5_
 have bX1 := (hk1 (w.heap.size) z5_).trans bX0
 have bR1 := (hk1 (w.heap.size + 1) z5_).trans bR0
 have bN1 := (hk1 (w.heap.size + 1 + 1) z5_).trans bN0
 have bA1 := (hk1 (w.heap.size + 1 + 1 + 1) z5_).trans bA0
 have bB1 := (hk1 V.heap.size (by have := aV bOV; omega)).trans bB0
 have hru1 : (Kd.int .i64).R 3 W1 w.heap.size (fun k_ => w.heap.size + 4 ≤ k_ ∧ k_ ≠ go) (.slice Au d.f0.length cu) d.f0 := dO (bG hruV hbv) (fun k hk _ => hk1 k hk.2)
 clear hW1
 have hHeld1 : W1.cell? ⟨w.heap.size + 1 + 1 + 1, 1, none⟩ = some (.int .i64 d.f1) ∧ W1.cell? ⟨w.heap.size + 1 + 1 + 1, 2, none⟩ = some (.int .i64 d.f2) ∧ W1.cell? ⟨V.heap.size, 1, none⟩ = some (.int .i64 d2.f1) ∧ W1.cell? ⟨V.heap.size, 2, none⟩ = some (.int .i64 d2.f2) ∧ True := ⟨aA bA1 1, aA bA1 2, aA bB1 1, aA bB1 2, trivial⟩
 have hl1 : w.heap.size + 4 ≤ W1.heap.size := aV bA1
 refine hK.out _ _ hHeld1 (fun _ => ?_)
 clear hK K
 have hco1 := aA bO1 2
 have hfo1 := aD bO1 2
 refine sI 12 221 14 8191 ?_
 refine last_ (i := 13) (N := none) (Steps.Bs 14 16383) rfl rfl z1_ z10_ (fun K hK => ?_)
 refine skip_ (w1 := ?_) z12_ rfl ?_ ?_
 rotate_left
 ·
  go_simp
  rfl
 refine hK.out _ _ ?_
 clear hK K
 obtain ⟨W2, hW2⟩ : ∃ V_ : World, V_ = W1.setCell ⟨go, 2, none⟩ (.int .i64 (max d.f2 d2.f2)) := ⟨_, rfl⟩
 rw [← hW2]
 have hk2 : ∀ k, k ≠ go → W2.heap[k]? = W1.heap[k]? := fun k hk => by rw [hW2]; exact Below.heap_setCell _ _ _ k hk
 have bO2 : W2.heap[go]? = some (.cells #[.slice Au d.f0.length cu, .int .i64 (d.f1 + d2.f1), .int .i64 (max d.f2 d2.f2)] 49 (0, 0)) := by rw [hW2]; exact bS bO1 _
 have hb2 : Below w.heap.size w W2 := by rw [hW2]; exact aI hb1 z5_
 have bX2 := (hk2 (w.heap.size) z5_).trans bX1
 have bR2 := (hk2 (w.heap.size + 1) z5_).trans bR1
 have bN2 := (hk2 (w.heap.size + 1 + 1) z5_).trans bN1
 have bA2 := (hk2 (w.heap.size + 1 + 1 + 1) z5_).trans bA1
 have hru2 : (Kd.int .i64).R 3 W2 w.heap.size (fun k_ => w.heap.size + 4 ≤ k_ ∧ k_ ≠ go) (.slice Au d.f0.length cu) d.f0 := dO hru1 (fun k hk _ => hk2 k hk.2)
 clear hW2
 refine done_ z1_ ?_
 have hO02 := aA bO2
 have hR02 := aA bR2
 have hN02 := aA bN2
 have fO02 := aD bO2
 have fR02 := aD bR2
 have fN02 := aD bN2
 by_cases hs : d.f1 + d2.f1 ≤ 1125899906842624
 case neg =>
  obtain rfl : (zN, (11 : Int)) = r := by rw [HZ2.out, if_neg hs]
  have hd1 : decide ((1125899906842624 : Int) < d.f1 + d2.f1) = true := decide_eq_true z5_
  have hd2 : ((1125899906842624 : Int) < d.f1 + d2.f1) = True := eq_true z5_
  clear hs
  go_wp2
  refine bodyPost_ret (aT rfl _ _ _ 49 #[.slice none 0 0, .int .i64 0, .int .i64 0] (0, 0) _ rfl (blkS bR2 _ _ _) Try.underlying49 rfl z1_) rfl ?_
  exact GotB.zero (aI (aI (aI hb2 z5_) z5_) z5_)
 obtain rfl : ((d.f0, d.f1 + d2.f1, max d.f2 d2.f2), (0 : Int)) = r := by rw [HZ2.out, if_pos hs]
 have hd1 : decide ((1125899906842624 : Int) < d.f1 + d2.f1) = false := decide_eq_false z5_
 have hd2 : ((1125899906842624 : Int) < d.f1 + d2.f1) = False := eq_false z5_
 clear hs
 go_wp2
 refine bodyPost_ret (aT rfl _ _ _ 49 #[.slice Au d.f0.length cu, .int .i64 (d.f1 + d2.f1), .int .i64 (max d.f2 d2.f2)] (0, 0) _ rfl (blkS bR2 _ _ _) Try.underlying49 rfl z1_) rfl ?_
 exact GotB.stored (d := (d.f0, d.f1 + d2.f1, max d.f2 d2.f2)) (R_mono hru2 (fun k hk => hk.1)) hb2 _ _ _
theorem node6 (hC1 : Kd.C k54 w A1 f.length f) (hl1 : f.length ≤ c1) (hf : FOk f) (hC2 : Kd.C k49 w A2 ds.length ds) (hl2 : ds.length ≤ c2) (hl : ds.length ≤ 1000) (hds : ∀ d ∈ rows ds, NdOk d) (hC5 : Kd.C (Kd.int .i64) w A5 x.f5.length x.f5) (hC5L : x.f5.length ≤ c5) (hL5 : x.f5.length ≤ 1000) (hC6 : Kd.C (Kd.int .i64) w A6 x.f6.length x.f6) (hC6L : x.f6.length ≤ c6) (hL6 : x.f6.length ≤ 1000) :
  Calls Try.prog 27 #[.agg #[.int .i64 6, .int .i64 x.f1, .int .i64 x.f2, .int .i64 x.f3, .int .i64 x.f4.f0, .int .i64 x.f4.f1, .int .i64 x.f4.f2, .int .i64 x.f4.f3.f0, .int .i64 x.f4.f3.f1, .string x.f4.f3.f2, .slice A5 x.f5.length c5, .slice A6 x.f6.length c6, .int .i64 x.f7, .int .i64 x.f8], .slice A1 f.length c1, .slice A2 ds.length c2] w (GotB w (bothN (rows ds) x)) := by
 have HC1 := mk_ hC1
 have HC2 := mk_ hC2
 have HC5 := mk_ hC5
 have HC5L := mk_ hC5L
 have HL5 := mk_ hL5
 have HC6 := mk_ hC6
 have HC6L := mk_ hC6L
 have HL6 := mk_ hL6
 have hsub : IntKind.i64.wrap ((ds.length : Int) - 1) = (ds.length : Int) - 1 := IntWalk.i64_in _ z5_
 have HI0 := mk_ (show raddleref14_in.f 6 1 8 = some true from bL 6 1 8)
 unfold bothN
 by_cases ha : ahead (rows ds) x.f1 = true
 case neg =>
  rw [if_neg (fun e => ha e.1)]
  have HIA := mk_ (show raddleref14_in.f x.f1 0 ((ds.length : Int) - 1) = some false from by rw [bL, decide_eq_false]; unfold ahead at ha; rw [cP] at ha; intro e; exact ha (decide_eq_true z5_))
  clear ha hC1 hC2 hC5 hC5L hL5 hC6 hC6L hL6
  go_enter Try.func27, Try.ntmps27
  go_wp2_with (first | (go_at_call 26; (with_reducible show Calls _ _ #[.int .i64 6, .int .i64 1, .int .i64 8] _ _); refine (PAll.raddleref14_in.calls 6 1 8 true _ HI0.out).mono ?_; rintro e w' ⟨rfl, ⟨m0, rfl⟩⟩) | (go_at_call 26; (with_reducible show Calls _ _ #[.int .i64 x.f1, .int .i64 0, _] _ _); refine (PAll.raddleref14_in.calls x.f1 0 ((ds.length : Int) - 1) false _ HIA.out).mono ?_; rintro e w' ⟨rfl, ⟨m1, rfl⟩⟩))
  refine bodyPost_ret (aT rfl _ _ _ 49 #[.slice none 0 0, .int .i64 0, .int .i64 0] (0, 0) _ rfl (blkS (x := .slice none 0 0) (y := .int .i64 0) (z := .int .i64 0) z2_ _ _ _) Try.underlying49 rfl z1_) rfl ?_
  exact GotB.zero z0_
 by_cases ha2 : ahead (rows ds) x.f2 = true
 case neg =>
  rw [if_neg (fun e => ha2 e.2)]
  have HIA := mk_ (show raddleref14_in.f x.f1 0 ((ds.length : Int) - 1) = some true from by rw [bL, decide_eq_true]; have := of_decide_eq_true ha; rw [cP] at this; omega)
  have HIA2 := mk_ (show raddleref14_in.f x.f2 0 ((ds.length : Int) - 1) = some false from by rw [bL, decide_eq_false]; unfold ahead at ha2; rw [cP] at ha2; intro e; exact ha2 (decide_eq_true z5_))
  clear ha ha2 hC1 hC2 hC5 hC5L hL5 hC6 hC6L hL6
  go_enter Try.func27, Try.ntmps27
  go_wp2_with (first | (go_at_call 26; (with_reducible show Calls _ _ #[.int .i64 6, .int .i64 1, .int .i64 8] _ _); refine (PAll.raddleref14_in.calls 6 1 8 true _ HI0.out).mono ?_; rintro e w' ⟨rfl, ⟨m0, rfl⟩⟩) | (go_at_call 26; (with_reducible show Calls _ _ #[.int .i64 x.f1, .int .i64 0, _] _ _); refine (PAll.raddleref14_in.calls x.f1 0 ((ds.length : Int) - 1) true _ HIA.out).mono ?_; rintro e w' ⟨rfl, ⟨m1, rfl⟩⟩) | (go_at_call 26; (with_reducible show Calls _ _ #[.int .i64 x.f2, .int .i64 0, _] _ _); refine (PAll.raddleref14_in.calls x.f2 0 ((ds.length : Int) - 1) false _ HIA2.out).mono ?_; rintro e w' ⟨rfl, ⟨m3, rfl⟩⟩))
  refine bodyPost_ret (aT rfl _ _ _ 49 #[.slice none 0 0, .int .i64 0, .int .i64 0] (0, 0) _ rfl (blkS (x := .slice none 0 0) (y := .int .i64 0) (z := .int .i64 0) z2_ _ _ _) Try.underlying49 rfl z1_) rfl ?_
  exact GotB.zero z0_
 rw [if_pos ⟨ha, ha2⟩]
 obtain ⟨k, hk⟩ := Int.eq_ofNat_of_zero_le (of_decide_eq_true ha).1
 rw [hk] at ha ⊢
 obtain ⟨hk0, hk1⟩ : 0 ≤ (k : Int) ∧ (k : Int) < (ds.length : Int) := by have := of_decide_eq_true ha; rw [cP] at this; exact this
 obtain ⟨ad, B, c, hA2, h0, h1, h2, hlc, hCB⟩ := eI hC2 (k : Int) hk0 hk1
 rw [cV ds k z5_]
 have hdok : NdOk (toNd (aQ ds (k : Int))) := by rw [← cV ds k z5_]; exact cY hds ha
 have HIA := mk_ (show raddleref14_in.f (k : Int) 0 ((ds.length : Int) - 1) = some true from by rw [bL, decide_eq_true]; omega)
 obtain ⟨k2, hk2⟩ := Int.eq_ofNat_of_zero_le (of_decide_eq_true ha2).1
 rw [hk2] at ha2 ⊢
 obtain ⟨hk20, hk21⟩ : 0 ≤ (k2 : Int) ∧ (k2 : Int) < (ds.length : Int) := by have := of_decide_eq_true ha2; rw [cP] at this; exact this
 obtain ⟨ad2, B2, c2', hA2', h3, h4, h5, hlc2, hCB2⟩ := eI hC2 (k2 : Int) hk20 hk21
 rw [cV ds k2 z5_]
 have hdok2 : NdOk (toNd (aQ ds (k2 : Int))) := by rw [← cV ds k2 z5_]; exact cY hds ha2
 have HIA2 := mk_ (show raddleref14_in.f (k2 : Int) 0 ((ds.length : Int) - 1) = some true from by rw [bL, decide_eq_true]; omega)
 obtain rfl : ad = ad2 := by rw [hA2] at hA2'; exact Option.some.inj hA2'
 clear hA2'
 simp only [Int.toNat_natCast] at h3 h4 h5
 have HCB2 := mk_ hCB2
 have HLC2 := mk_ hlc2
 have HDO2 := mk_ hdok2
 have hb4 : (0 ≤ (k2 : Int)) = True := eq_true hk20
 have hb5 : ((k2 : Int) < (ds.length : Int)) = True := eq_true hk21
 generalize aQ ds (k2 : Int) = d2 at *
 subst hA2
 simp only [Int.toNat_natCast] at h0 h1 h2
 have HCB := mk_ hCB
 have HLC := mk_ hlc
 have HDO := mk_ hdok
 have hb2 : (0 ≤ (k : Int)) = True := eq_true hk0
 have hb3 : ((k : Int) < (ds.length : Int)) = True := eq_true hk1
 have h0p := al3 h0
 have h0q := al4 h0
 have h1p := al3 h1
 have h1q := al4 h1
 have h2p := al3 h2
 have h2q := al4 h2
 have h3p := al3 h3
 have h3q := al4 h3
 have h4p := al3 h4
 have h4q := al4 h4
 have h5p := al3 h5
 have h5q := al4 h5
 clear hC1 hC2 hC5 hC5L hL5 hC6 hC6L hL6 hk0 hk1 ha hk hCB hlc hdok hk20 hk21 ha2 hk2 hCB2 hlc2 hdok2
 generalize aQ ds (k : Int) = d at *
 generalize hz : (if (toNd d).1 = (toNd d2).1 then (if (toNd d).2.1 + (toNd d2).2.1 ≤ 1125899906842624 then (((toNd d).1, (toNd d).2.1 + (toNd d2).2.1, max (toNd d).2.2 (toNd d2).2.2), (0 : Int)) else (zN, 11)) else (zN, 10)) = r
 replace hz : (if d.f0 = d2.f0 then (if d.f1 + d2.f1 ≤ 1125899906842624 then ((d.f0, d.f1 + d2.f1, max d.f2 d2.f2), (0 : Int)) else (zN, 11)) else (zN, 10)) = r := hz
 have HZ := mk_ hz
 clear hz
 go_enter Try.func27, Try.ntmps27
 go_wp2_with (first | (go_at_call 26; (with_reducible show Calls _ _ #[.int .i64 6, .int .i64 1, .int .i64 8] _ _); refine (PAll.raddleref14_in.calls 6 1 8 true _ HI0.out).mono ?_; rintro e w' ⟨rfl, ⟨m0, rfl⟩⟩) | (go_at_call 26; (with_reducible show Calls _ _ #[.int .i64 (k : Int), .int .i64 0, _] _ _); refine (PAll.raddleref14_in.calls (k : Int) 0 ((ds.length : Int) - 1) true _ HIA.out).mono ?_; rintro e w' ⟨rfl, ⟨m1, rfl⟩⟩) | (go_at_call 26; (with_reducible show Calls _ _ #[.int .i64 (k2 : Int), .int .i64 0, _] _ _); refine (PAll.raddleref14_in.calls (k2 : Int) 0 ((ds.length : Int) - 1) true _ HIA2.out).mono ?_; rintro e w' ⟨rfl, ⟨m3, rfl⟩⟩))
 refine cG (n := 10) (S := fun w' => w'.cell? ⟨w.heap.size + 1 + 1 + 1, 0, none⟩ = some (.slice B d.f0.length c) ∧ w'.cell? ⟨w.heap.size + 1 + 1 + 1, 1, none⟩ = some (.int .i64 d.f1) ∧ w'.cell? ⟨w.heap.size + 1 + 1 + 1, 2, none⟩ = some (.int .i64 d.f2) ∧ True) (ds := [9]) (fun W => Below w.heap.size w W ∧ W.heap[w.heap.size]? = some (.cells #[.int .i64 6, .int .i64 (k : Int), .int .i64 (k2 : Int), .int .i64 x.f3, .int .i64 x.f4.f0, .int .i64 x.f4.f1, .int .i64 x.f4.f2, .int .i64 x.f4.f3.f0, .int .i64 x.f4.f3.f1, .string x.f4.f3.f2, .slice A5 x.f5.length c5, .slice A6 x.f6.length c6, .int .i64 x.f7, .int .i64 x.f8] 34 (0, 0)) ∧ W.heap[w.heap.size + 1]? = some (.cells #[.slice none 0 0, .int .i64 0, .int .i64 0] 49 (0, 0)) ∧ W.heap[w.heap.size + 1 + 1]? = some (.cells #[.slice none 0 0, .int .i64 0, .int .i64 0] 49 (0, 0)) ∧ W.heap[w.heap.size + 1 + 1 + 1]? = some (.cells #[.slice B d.f0.length c, .int .i64 d.f1, .int .i64 d.f2] 49 (0, 0))) (Steps.Bs 10 0) z1_ rfl rfl ⟨z0_, z2_, z2_, z2_, z2_⟩ (fun W hJ => ?_) (fun W0 hJ => ?_)
 ·
  obtain ⟨hb0, bX0, bR0, bN0, bA0⟩ := hJ
  exact ⟨aA bA0 0, aA bA0 1, aA bA0 2, trivial⟩
 obtain ⟨hb0, bX0, bR0, bN0, bA0⟩ := hJ
 have hHeld0 : W0.cell? ⟨w.heap.size + 1 + 1 + 1, 0, none⟩ = some (.slice B d.f0.length c) ∧ W0.cell? ⟨w.heap.size + 1 + 1 + 1, 1, none⟩ = some (.int .i64 d.f1) ∧ W0.cell? ⟨w.heap.size + 1 + 1 + 1, 2, none⟩ = some (.int .i64 d.f2) ∧ True := ⟨aA bA0 0, aA bA0 1, aA bA0 2, trivial⟩
 have hl0 : w.heap.size + 4 ≤ W0.heap.size := aV bA0
 refine sI 0 86 10 1 ?_
 refine sT hHeld0 1 87 10 3 ?_
 refine sI 3 89 10 11 ?_
 refine sT hHeld0 4 90 10 27 ?_
 refine sI 5 91 10 59 ?_
 refine sT hHeld0 6 92 10 123 ?_
 refine join_ (σ := Option Addr × Nat × Nat) 1 (Steps.Bs 10 511) (fun s_ => [(88, .slice s_.1 d.f0.length s_.2.1), (11, .pointer (some ⟨s_.2.2, 0, none⟩)), (93, .agg #[.slice s_.1 d.f0.length s_.2.1, .int .i64 d.f1, .int .i64 d.f2])]) (fun s_ w' => Below w.heap.size w w' ∧ w'.heap[w.heap.size]? = some (.cells #[.int .i64 6, .int .i64 (k : Int), .int .i64 (k2 : Int), .int .i64 x.f3, .int .i64 x.f4.f0, .int .i64 x.f4.f1, .int .i64 x.f4.f2, .int .i64 x.f4.f3.f0, .int .i64 x.f4.f3.f1, .string x.f4.f3.f2, .slice A5 x.f5.length c5, .slice A6 x.f6.length c6, .int .i64 x.f7, .int .i64 x.f8] 34 (0, 0)) ∧ w'.heap[w.heap.size + 1]? = some (.cells #[.slice none 0 0, .int .i64 0, .int .i64 0] 49 (0, 0)) ∧ w'.heap[w.heap.size + 1 + 1]? = some (.cells #[.slice none 0 0, .int .i64 0, .int .i64 0] 49 (0, 0)) ∧ w'.heap[w.heap.size + 1 + 1 + 1]? = some (.cells #[.slice B d.f0.length c, .int .i64 d.f1, .int .i64 d.f2] 49 (0, 0)) ∧ (Kd.int .i64).R 3 w' w.heap.size (fun k_ => w.heap.size + 4 ≤ k_ ∧ k_ ≠ s_.2.2) (.slice s_.1 d.f0.length s_.2.1) d.f0 ∧ w'.heap[s_.2.2]? = some (.cells #[.slice none 0 0, .int .i64 0, .int .i64 0] 49 (0, 0)) ∧ w.heap.size + 4 ≤ s_.2.2) ?_ ?_
 rotate_left
 ·
  intro hCont
  refine two_ (i := 2) (j := 8) (Ni := some 88) (Nj := some 11) (Steps.Bs 10 127) (Steps.Bs 10 379) rfl rfl rfl rfl z1_ z10_ z10_ (fun K hK => ?_) (fun K hK => ?_)
  ·
   refine goes_ Try.func19 z1_ rfl #[.slice B d.f0.length c] z12_ rfl rfl z8_ ?_
   refine (PAll.raddlekeep_TwinInts.calls B c d.f0 d.f0 _ (aN HCB.out hb0) HLC.out (cM d.f0 (by have h : d.f0.length ≤ 12 := HDO.out.len; omega))).mono ?_
   rintro e W1 ⟨u, rfl, hru, hq⟩
   refine ⟨_, rfl, ?_⟩
   obtain ⟨Au, cu, rfl⟩ := bE hru
   have hrv := cF hru
   have hb1 := aG hb0 hq
   have bX1 := aC bX0 hq
   have bR1 := aC bR0 hq
   have bN1 := aC bN0 hq
   have bA1 := aC bA0 hq
   have hHeld1 : W1.cell? ⟨w.heap.size + 1 + 1 + 1, 0, none⟩ = some (.slice B d.f0.length c) ∧ W1.cell? ⟨w.heap.size + 1 + 1 + 1, 1, none⟩ = some (.int .i64 d.f1) ∧ W1.cell? ⟨w.heap.size + 1 + 1 + 1, 2, none⟩ = some (.int .i64 d.f2) ∧ True := ⟨aA bA1 0, aA bA1 1, aA bA1 2, trivial⟩
   have hl1 : w.heap.size + 4 ≤ W1.heap.size := aV bA1
   refine hK.out _ _ hHeld1 (fun _ => ?_)
   clear hK K
   refine nrm 88 ?_
   clear hq
   refine sI 7 93 10 255 ?_
   refine one_ (i := 8) (N := some 11) (Steps.Bs 10 511) rfl rfl z1_ z10_ (fun K hK => ?_)
   refine cK z12_ (N := 11) rfl (cs := #[.slice none 0 0, .int .i64 0, .int .i64 0]) (t := 49) z11_ ?_
   intro go hgo W2 bO hq
   have hb2 := aG hb1 hq
   have bX2 := aC bX1 hq
   have bR2 := aC bR1 hq
   have bN2 := aC bN1 hq
   have bA2 := aC bA1 hq
   have hHeld2 : W2.cell? ⟨w.heap.size + 1 + 1 + 1, 0, none⟩ = some (.slice B d.f0.length c) ∧ W2.cell? ⟨w.heap.size + 1 + 1 + 1, 1, none⟩ = some (.int .i64 d.f1) ∧ W2.cell? ⟨w.heap.size + 1 + 1 + 1, 2, none⟩ = some (.int .i64 d.f2) ∧ True := ⟨aA bA2 0, aA bA2 1, aA bA2 2, trivial⟩
   have hl2 : w.heap.size + 4 ≤ W2.heap.size := aV bA2
   refine hK.out _ _ hHeld2 (fun _ => ?_)
   clear hK K
   exact hCont (Au, cu, go) W2 ⟨hb2, bX2, bR2, bN2, bA2, bT (R_mono (bG hrv hq) (fun k hk => ⟨by have := hk.2.1; omega, by have := hk.2.2.1; show k ≠ go; omega⟩)) z5_, bO, by show _ ≤ go; omega⟩
  ·
   refine cK z12_ (N := 11) rfl (cs := #[.slice none 0 0, .int .i64 0, .int .i64 0]) (t := 49) z11_ ?_
   intro go hgo W1 bO hq
   have hb1 := aG hb0 hq
   have bX1 := aC bX0 hq
   have bR1 := aC bR0 hq
   have bN1 := aC bN0 hq
   have bA1 := aC bA0 hq
   have hHeld1 : W1.cell? ⟨w.heap.size + 1 + 1 + 1, 0, none⟩ = some (.slice B d.f0.length c) ∧ W1.cell? ⟨w.heap.size + 1 + 1 + 1, 1, none⟩ = some (.int .i64 d.f1) ∧ W1.cell? ⟨w.heap.size + 1 + 1 + 1, 2, none⟩ = some (.int .i64 d.f2) ∧ True := ⟨aA bA1 0, aA bA1 1, aA bA1 2, trivial⟩
   have hl1 : w.heap.size + 4 ≤ W1.heap.size := aV bA1
   refine hK.out _ _ hHeld1 (fun _ => ?_)
   clear hK K
   refine nrm 11 ?_
   have hlo := aV bO
   clear hq
   refine one_ (i := 2) (N := some 88) (Steps.Bs 10 383) rfl rfl z1_ z10_ (fun K hK => ?_)
   refine goes_ Try.func19 z1_ rfl #[.slice B d.f0.length c] z12_ rfl rfl z8_ ?_
   refine (PAll.raddlekeep_TwinInts.calls B c d.f0 d.f0 _ (aN HCB.out hb1) HLC.out (cM d.f0 (by have h : d.f0.length ≤ 12 := HDO.out.len; omega))).mono ?_
   rintro e W2 ⟨u, rfl, hru, hq⟩
   refine ⟨_, rfl, ?_⟩
   obtain ⟨Au, cu, rfl⟩ := bE hru
   have hrv := cF hru
   have bO2 := aC bO hq
   have hb2 := aG hb1 hq
   have bX2 := aC bX1 hq
   have bR2 := aC bR1 hq
   have bN2 := aC bN1 hq
   have bA2 := aC bA1 hq
   have hHeld2 : W2.cell? ⟨w.heap.size + 1 + 1 + 1, 0, none⟩ = some (.slice B d.f0.length c) ∧ W2.cell? ⟨w.heap.size + 1 + 1 + 1, 1, none⟩ = some (.int .i64 d.f1) ∧ W2.cell? ⟨w.heap.size + 1 + 1 + 1, 2, none⟩ = some (.int .i64 d.f2) ∧ True := ⟨aA bA2 0, aA bA2 1, aA bA2 2, trivial⟩
   have hl2 : w.heap.size + 4 ≤ W2.heap.size := aV bA2
   refine hK.out _ _ hHeld2 (fun _ => ?_)
   clear hK K
   refine nrm 88 ?_
   refine sI 7 93 10 511 ?_
   exact hCont (Au, cu, go) W2 ⟨hb2, bX2, bR2, bN2, bA2, bT (R_mono hrv (fun k hk => ⟨by have := hk.2.1; omega, by have := hk.2.1; show k ≠ go; omega⟩)) z5_, bO2, by show _ ≤ go; omega⟩
 rintro ⟨Au, cu, go⟩ W1 ⟨hb1, bX1, bR1, bN1, bA1, hru, bO1, hgo⟩
 replace hru : (Kd.int .i64).R 3 W1 w.heap.size (fun k_ => w.heap.size + 4 ≤ k_ ∧ k_ ≠ go) (.slice Au d.f0.length cu) d.f0 := hru
 replace bO1 : W1.heap[go]? = some (.cells #[.slice none 0 0, .int .i64 0, .int .i64 0] 49 (0, 0)) := bO1
 replace hgo : w.heap.size + 4 ≤ go := hgo
 refine norm_ (a' := ?_) ?_ ?_
 rotate_left
 ·
  simp only [putAll, Act.put, List.setIfInBounds_toArray, List.set_cons_zero, List.set_cons_succ]
  rfl
 have hc9_0 := aA bO1 0
 have hf9_0 := aD bO1 0
 have hc9_1 := aA bO1 1
 have hf9_1 := aD bO1 1
 have hc9_2 := aA bO1 2
 have hf9_2 := aD bO1 2
 refine last_ (i := 9) (N := none) (Steps.Bs 10 1023) rfl rfl z1_ z10_ (fun K hK => ?_)
 refine skip_ (w1 := ?_) z12_ rfl ?_ ?_
 rotate_left
 ·
  go_simp
  rfl
 refine hK.out _ _ ?_
 clear hK K
 obtain ⟨V, hV, hbV, bOV, hkeep⟩ := storeS hb1 z5_ bO1 (.slice Au d.f0.length cu) (.int .i64 d.f1) (.int .i64 d.f2)
 have hruV : (Kd.int .i64).R 3 V w.heap.size (fun k_ => w.heap.size + 4 ≤ k_ ∧ k_ ≠ go) (.slice Au d.f0.length cu) d.f0 := dO hru (fun k hk _ => hkeep k hk.2)
 rw [← hV]
 have bXV := (hkeep (w.heap.size) z5_).trans bX1
 have bRV := (hkeep (w.heap.size + 1) z5_).trans bR1
 have bNV := (hkeep (w.heap.size + 1 + 1) z5_).trans bN1
 have bAV := (hkeep (w.heap.size + 1 + 1 + 1) z5_).trans bA1
 clear hV hkeep hru hc9_0 hc9_1 hc9_2 hf9_0 hf9_1 hf9_2 bX1 bR1 bN1 bA1 bO1 hb1 bX0 bR0 bN0 bA0 hb0 hHeld0 hl0
 refine done_ z1_ ?_
 have hO0V := aA bOV
 have hR0V := aA bRV
 have fO0V := aD bOV
 have fR0V := aD bRV
 have hX0V := aA bXV
 replace h3 := aE hbV h3
 replace h4 := aE hbV h4
 replace h5 := aE hbV h5
 have gA0 := fun a i => aA (aY bAV a) i
 have eA0 := fun a i => aD (aY bAV a) i
 have gO0 := fun a i => aA (aY bOV a) i
 have eO0 := fun a i => aD (aY bOV a) i
 have gN0 := fun a i => aA (aY bNV a) i
 have eN0 := fun a i => aD (aY bNV a) i
 have gR0 := fun a i => aA (aY bRV a) i
 have eR0 := fun a i => aD (aY bRV a) i
 by_cases he : d.f0 = d2.f0
 case neg =>
  obtain rfl : (zN, (10 : Int)) = r := by rw [← HZ.out, if_neg he]
  have HE := mk_ (decide_eq_false he)
  clear he
  go_wp2_with (first | (go_at_call 18; refine (PAll.raddlekeep_Ints.calls (d.f0.length + 1) B c d.f0 B2 c2' d2.f0 _ (V.alloc _) (aN HCB.out (aM hbV _)) HLC.out (aN HCB2.out (aM hbV _)) HLC2.out (dS _ d.f0 d2.f0 (by have h : d.f0.length ≤ 12 := HDO.out.len; omega) z5_)).mono ?_; rw [HE.out]; rintro e w' ⟨rfl, ⟨m2, rfl⟩⟩))
  refine bodyPost_ret (aT rfl _ _ _ 49 #[.slice none 0 0, .int .i64 0, .int .i64 0] (0, 0) _ rfl (blkS (aX (aY bRV _) _) _ _ _) Try.underlying49 rfl z1_) rfl ?_
  exact GotB.zero (aI (aI (aI (aZ (aM hbV _) _) z5_) z5_) z5_)
 have HE := mk_ (decide_eq_true he)
 have HZ2 := mk_ (HZ.out.symm.trans (if_pos he))
 have hw1 : d.f1 ≤ 1125899906842624 := HDO.out.w2
 have hw2 : d2.f1 ≤ 1125899906842624 := HDO2.out.w2
 have hw3 : 1 ≤ d.f1 := HDO.out.w1
 have hw4 : 1 ≤ d2.f1 := HDO2.out.w1
 have hv1 : d.f2 ≤ 1152921504606846976 := HDO.out.v2
 have hv2 : d2.f2 ≤ 1152921504606846976 := HDO2.out.v2
 have hws : IntKind.i64.wrap (d.f1 + d2.f1) = d.f1 + d2.f1 := IntWalk.i64_in _ z5_
 have hdv : decide ((1152921504606846976 : Int) < max d.f2 d2.f2) = false := decide_eq_false z5_
 have hdv2 : ((1152921504606846976 : Int) < max d.f2 d2.f2) = False := eq_false z5_
 clear HZ he hw1 hw2 hw3 hw4 hv1 hv2
 go_wp2_with (first | (go_at_call 18; refine (PAll.raddlekeep_Ints.calls (d.f0.length + 1) B c d.f0 B2 c2' d2.f0 _ (V.alloc _) (aN HCB.out (aM hbV _)) HLC.out (aN HCB2.out (aM hbV _)) HLC2.out (dS _ d.f0 d2.f0 (by have h : d.f0.length ≤ 12 := HDO.out.len; omega) z5_)).mono ?_; rw [HE.out]; rintro e w' ⟨rfl, ⟨m2, rfl⟩⟩))
 refine cG (n := 14) (S := fun w' => w'.cell? ⟨w.heap.size + 1 + 1 + 1, 1, none⟩ = some (.int .i64 d.f1) ∧ w'.cell? ⟨w.heap.size + 1 + 1 + 1, 2, none⟩ = some (.int .i64 d.f2) ∧ w'.cell? ⟨V.heap.size, 1, none⟩ = some (.int .i64 d2.f1) ∧ w'.cell? ⟨V.heap.size, 2, none⟩ = some (.int .i64 d2.f2) ∧ True) (ds := [13]) (fun W => Below w.heap.size w W ∧ W.heap[w.heap.size]? = some (.cells #[.int .i64 6, .int .i64 (k : Int), .int .i64 (k2 : Int), .int .i64 x.f3, .int .i64 x.f4.f0, .int .i64 x.f4.f1, .int .i64 x.f4.f2, .int .i64 x.f4.f3.f0, .int .i64 x.f4.f3.f1, .string x.f4.f3.f2, .slice A5 x.f5.length c5, .slice A6 x.f6.length c6, .int .i64 x.f7, .int .i64 x.f8] 34 (0, 0)) ∧ W.heap[w.heap.size + 1]? = some (.cells #[.slice none 0 0, .int .i64 0, .int .i64 0] 49 (0, 0)) ∧ W.heap[w.heap.size + 1 + 1]? = some (.cells #[.slice none 0 0, .int .i64 0, .int .i64 0] 49 (0, 0)) ∧ W.heap[w.heap.size + 1 + 1 + 1]? = some (.cells #[.slice B d.f0.length c, .int .i64 d.f1, .int .i64 d.f2] 49 (0, 0)) ∧ W.heap[go]? = some (.cells #[.slice Au d.f0.length cu, .int .i64 d.f1, .int .i64 d.f2] 49 (0, 0)) ∧ W.heap[V.heap.size]? = some (.cells #[.slice B2 d2.f0.length c2', .int .i64 d2.f1, .int .i64 d2.f2] 49 (0, 0)) ∧ Below V.heap.size V W) (Steps.Bs 14 0) z1_ rfl rfl ⟨bP (aZ (aM hbV _) _), aU (aX (aY bXV _) _), aU (aX (aY bRV _) _), aU (aX (aY bNV _) _), aU (aX (aY bAV _) _), aU (aX (aY bOV _) _), aU (aX (cJ V _) _), bP (aZ (aM (Below.refl _ _) _) _)⟩ (fun W hJ => ?_) (fun W0 hJ => ?_)
 ·
  obtain ⟨hb0, bX0, bR0, bN0, bA0, bO0, bB0, hbv⟩ := hJ
  exact ⟨aA bA0 1, aA bA0 2, aA bB0 1, aA bB0 2, trivial⟩
 obtain ⟨hb0, bX0, bR0, bN0, bA0, bO0, bB0, hbv⟩ := hJ
 have hHeld0 : W0.cell? ⟨w.heap.size + 1 + 1 + 1, 1, none⟩ = some (.int .i64 d.f1) ∧ W0.cell? ⟨w.heap.size + 1 + 1 + 1, 2, none⟩ = some (.int .i64 d.f2) ∧ W0.cell? ⟨V.heap.size, 1, none⟩ = some (.int .i64 d2.f1) ∧ W0.cell? ⟨V.heap.size, 2, none⟩ = some (.int .i64 d2.f2) ∧ True := ⟨aA bA0 1, aA bA0 2, aA bB0 1, aA bB0 2, trivial⟩
 have hl0 : w.heap.size + 4 ≤ W0.heap.size := aV bA0
 refine sI 0 210 14 1 ?_
 refine sT hHeld0 1 211 14 3 ?_
 refine sI 2 212 14 7 ?_
 refine sT hHeld0 3 213 14 15 ?_
 refine sI 4 214 14 31 ?_
 refine sI 5 215 14 63 ?_
 refine sT hHeld0 6 216 14 127 ?_
 refine sI 7 217 14 255 ?_
 refine sT hHeld0 8 218 14 511 ?_
 refine sI 9 219 14 1023 ?_
 refine sI 10 220 14 2047 ?_
 have hco := aA bO0 1
 have hfo := aD bO0 1
 refine one_ (i := 11) (N := none) (Steps.Bs 14 4095) rfl rfl z1_ z10_ (fun K hK => ?_)
 refine skip_ (w1 := ?_) z12_ rfl ?_ ?_
 rotate_left
 ·
  go_simp
  rfl
 obtain ⟨W1, hW1⟩ : ∃ V_ : World, V_ = W0.setCell ⟨go, 1, none⟩ (.int .i64 (d.f1 + d2.f1)) := ⟨_, rfl⟩
 rw [← hW1]
 have hk1 : ∀ k, k ≠ go → W1.heap[k]? = W0.heap[k]? := fun k hk => by rw [hW1]; exact Below.heap_setCell _ _ _ k hk
 have bO1 : W1.heap[go]? = some (.cells #[.slice Au d.f0.length cu, .int .i64 (d.f1 + d2.f1), .int .i64 d.f2] 49 (0, 0)) := by rw [hW1]; exact bS bO0 _
 have hb1 : Below w.heap.size w W1 := by rw [hW1]; exact aI hb0 z5_
 have bX1 := (hk1 (w.heap.size) z5_).trans bX0
 have bR1 := (hk1 (w.heap.size + 1) z5_).trans bR0
 have bN1 := (hk1 (w.heap.size + 1 + 1) z5_).trans bN0
 have bA1 := (hk1 (w.heap.size + 1 + 1 + 1) z5_).trans bA0
 have bB1 := (hk1 V.heap.size (by have := aV bOV; omega)).trans bB0
 have hru1 : (Kd.int .i64).R 3 W1 w.heap.size (fun k_ => w.heap.size + 4 ≤ k_ ∧ k_ ≠ go) (.slice Au d.f0.length cu) d.f0 := dO (bG hruV hbv) (fun k hk _ => hk1 k hk.2)
 clear hW1
 have hHeld1 : W1.cell? ⟨w.heap.size + 1 + 1 + 1, 1, none⟩ = some (.int .i64 d.f1) ∧ W1.cell? ⟨w.heap.size + 1 + 1 + 1, 2, none⟩ = some (.int .i64 d.f2) ∧ W1.cell? ⟨V.heap.size, 1, none⟩ = some (.int .i64 d2.f1) ∧ W1.cell? ⟨V.heap.size, 2, none⟩ = some (.int .i64 d2.f2) ∧ True := ⟨aA bA1 1, aA bA1 2, aA bB1 1, aA bB1 2, trivial⟩
 have hl1 : w.heap.size + 4 ≤ W1.heap.size := aV bA1
 refine hK.out _ _ hHeld1 (fun _ => ?_)
 clear hK K
 have hco1 := aA bO1 2
 have hfo1 := aD bO1 2
 refine sI 12 221 14 8191 ?_
 refine last_ (i := 13) (N := none) (Steps.Bs 14 16383) rfl rfl z1_ z10_ (fun K hK => ?_)
 refine skip_ (w1 := ?_) z12_ rfl ?_ ?_
 rotate_left
 ·
  go_simp
  rfl
 refine hK.out _ _ ?_
 clear hK K
 obtain ⟨W2, hW2⟩ : ∃ V_ : World, V_ = W1.setCell ⟨go, 2, none⟩ (.int .i64 (max d.f2 d2.f2)) := ⟨_, rfl⟩
 rw [← hW2]
 have hk2 : ∀ k, k ≠ go → W2.heap[k]? = W1.heap[k]? := fun k hk => by rw [hW2]; exact Below.heap_setCell _ _ _ k hk
 have bO2 : W2.heap[go]? = some (.cells #[.slice Au d.f0.length cu, .int .i64 (d.f1 + d2.f1), .int .i64 (max d.f2 d2.f2)] 49 (0, 0)) := by rw [hW2]; exact bS bO1 _
 have hb2 : Below w.heap.size w W2 := by rw [hW2]; exact aI hb1 z5_
 have bX2 := (hk2 (w.heap.size) z5_).trans bX1
 have bR2 := (hk2 (w.heap.size + 1) z5_).trans bR1
 have bN2 := (hk2 (w.heap.size + 1 + 1) z5_).trans bN1
 have bA2 := (hk2 (w.heap.size + 1 + 1 + 1) z5_).trans bA1
 have hru2 : (Kd.int .i64).R 3 W2 w.heap.size (fun k_ => w.heap.size + 4 ≤ k_ ∧ k_ ≠ go) (.slice Au d.f0.length cu) d.f0 := dO hru1 (fun k hk _ => hk2 k hk.2)
 clear hW2
 refine done_ z1_ ?_
 have hO02 := aA bO2
 have hR02 := aA bR2
 have hN02 := aA bN2
 have fO02 := aD bO2
 have fR02 := aD bR2
 have fN02 := aD bN2
 by_cases hs : d.f1 + d2.f1 ≤ 1125899906842624
 case neg =>
  obtain rfl : (zN, (11 : Int)) = r := by rw [HZ2.out, if_neg hs]
  have hd1 : decide ((1125899906842624 : Int) < d.f1 + d2.f1) = true := decide_eq_true z5_
  have hd2 : ((1125899906842624 : Int) < d.f1 + d2.f1) = True := eq_true z5_
  clear hs
  go_wp2
  refine bodyPost_ret (aT rfl _ _ _ 49 #[.slice none 0 0, .int .i64 0, .int .i64 0] (0, 0) _ rfl (blkS bR2 _ _ _) Try.underlying49 rfl z1_) rfl ?_
  exact GotB.zero (aI (aI (aI hb2 z5_) z5_) z5_)
 obtain rfl : ((d.f0, d.f1 + d2.f1, max d.f2 d2.f2), (0 : Int)) = r := by rw [HZ2.out, if_pos hs]
 have hd1 : decide ((1125899906842624 : Int) < d.f1 + d2.f1) = false := decide_eq_false z5_
 have hd2 : ((1125899906842624 : Int) < d.f1 + d2.f1) = False := eq_false z5_
 clear hs
 go_wp2
 refine bodyPost_ret (aT rfl _ _ _ 49 #[.slice Au d.f0.length cu, .int .i64 (d.f1 + d2.f1), .int .i64 (max d.f2 d2.f2)] (0, 0) _ rfl (blkS bR2 _ _ _) Try.underlying49 rfl z1_) rfl ?_
 exact GotB.stored (d := (d.f0, d.f1 + d2.f1, max d.f2 d2.f2)) (R_mono hru2 (fun k hk => hk.1)) hb2 _ _ _
end
end Go.Proofs.Ytimbbaoodjhdoaa.Plan
end
