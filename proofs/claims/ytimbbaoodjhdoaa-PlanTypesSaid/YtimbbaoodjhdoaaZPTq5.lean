-- Put together by a program of this session (wip/slice2.py) out of the seat's texts.
import Derived.Test.YtimbbaoodjhdoaaZPTp6
import Derived.Test.YtimbbaoodjhdoaaZPTq4

set_option maxHeartbeats 8000000
set_option maxRecDepth 100000
open Go.Proofs.YtimbbaoodjhdoaaW Go.Proofs.Ytimbbaoodjhdoaa
section
namespace Go.Proofs.Ytimbbaoodjhdoaa.Plan
open Go.RowKit PAll Plain PrintWords PrintLast PrintMore ZipT PrintWords.Kd PrintMore.Kd
set_option linter.unusedVariables false
set_option linter.unusedSimpArgs false
theorem blk_at (W : World) (o : Obj) {n : Nat} (h : W.heap.size = n) : (W.alloc o).heap[n]? = some o := h ▸ cJ W o
abbrev Bo := S49
def toNd (b : Bo) : Nd := (b.f0, b.f1, b.f2)
def rows (ds : List Bo) : List Nd := ds.map toNd
theorem cP (ds : List Bo) : (rows ds).length = ds.length := by simp [rows]
theorem cV (ds : List Bo) (k : Nat) (hk : k < ds.length) : nth (rows ds) (k : Int) = toNd (aQ ds (k : Int)) := by
 show (rows ds).getD ((k : Int).toNat) zN = toNd (ds.getD ((k : Int).toNat) _)
 rw [Int.toNat_natCast, List.getD_eq_getElem?_getD, List.getD_eq_getElem?_getD]
 unfold rows
 rw [List.getElem?_map, List.getElem?_eq_getElem hk]
 rfl
def GotB (w : World) (r : Nd × Int) (e : Ending) (w' : World) : Prop :=
 ∃ u, e = .returned (.tuple #[.agg #[u, .int .i64 r.1.2.1, .int .i64 r.1.2.2], .int .i64 r.2]) ∧ (Kd.int .i64).R 3 w' w.heap.size (fun _ => True) u r.1.1 ∧ Below w.heap.size w w'
theorem GotB.zero {w w' : World} {er : Int} (hb : Below w.heap.size w w') : GotB w (zN, er) (.returned (.tuple #[.agg #[.slice none 0 0, .int .i64 0, .int .i64 0], .int .i64 er])) w' :=
 ⟨_, rfl, R_nil _ _ _ _ _, hb⟩
section
variable {w : World} {A1 A2 : Option Addr} {c1 c2 : Nat} {f : List Tb} {ds : List Bo} {x : No} {A5 A6 : Option Addr} {c5 c6 : Nat}
theorem GotB.stored {V : World} {d : Nd} {u : Value} {er : Int} (hr : (Kd.int .i64).R 3 V w.heap.size (fun k => w.heap.size + 4 ≤ k) u d.1) (hb : Below w.heap.size w V) (a b c : Value) :
  GotB w (d, er) (.returned (.tuple #[.agg #[u, .int .i64 d.2.1, .int .i64 d.2.2], .int .i64 er])) (((V.setCell ⟨w.heap.size + 1, 0, none⟩ a).setCell ⟨w.heap.size + 1, 1, none⟩ b).setCell ⟨w.heap.size + 1, 2, none⟩ c) := by
 refine ⟨u, rfl, R_mono (R_far (R_far (R_far hr (p := ⟨w.heap.size + 1, 0, none⟩) (fun k hk => ?_) a) (p := ⟨w.heap.size + 1, 1, none⟩) (fun k hk => ?_) b) (p := ⟨w.heap.size + 1, 2, none⟩) (fun k hk => ?_) c) (fun _ _ => trivial), aI (aI (aI hb z5_) z5_) z5_⟩
 all_goals show k ≠ w.heap.size + 1
 all_goals omega
theorem node7 (hC1 : Kd.C k54 w A1 f.length f) (hl1 : f.length ≤ c1) (hf : FOk f) (hC2 : Kd.C k49 w A2 ds.length ds) (hl2 : ds.length ≤ c2) (hl : ds.length ≤ 1000) (hds : ∀ d ∈ rows ds, NdOk d) (hC5 : Kd.C (Kd.int .i64) w A5 x.f5.length x.f5) (hC5L : x.f5.length ≤ c5) (hL5 : x.f5.length ≤ 1000) (hC6 : Kd.C (Kd.int .i64) w A6 x.f6.length x.f6) (hC6L : x.f6.length ≤ c6) (hL6 : x.f6.length ≤ 1000) :
  Calls Try.prog 27 #[.agg #[.int .i64 7, .int .i64 x.f1, .int .i64 x.f2, .int .i64 x.f3, .int .i64 x.f4.f0, .int .i64 x.f4.f1, .int .i64 x.f4.f2, .int .i64 x.f4.f3.f0, .int .i64 x.f4.f3.f1, .string x.f4.f3.f2, .slice A5 x.f5.length c5, .slice A6 x.f6.length c6, .int .i64 x.f7, .int .i64 x.f8], .slice A1 f.length c1, .slice A2 ds.length c2] w (GotB w (distinctN (rows ds) x)) := by
 have HC1 := mk_ hC1
 have HC2 := mk_ hC2
 have HC5 := mk_ hC5
 have HC5L := mk_ hC5L
 have HL5 := mk_ hL5
 have HC6 := mk_ hC6
 have HC6L := mk_ hC6L
 have HL6 := mk_ hL6
 have hsub : IntKind.i64.wrap ((ds.length : Int) - 1) = (ds.length : Int) - 1 := IntWalk.i64_in _ z5_
 have HI0 := mk_ (show raddleref14_in.f 7 1 8 = some true from bL 7 1 8)
 unfold distinctN
 by_cases ha : ahead (rows ds) x.f1 = true
 case neg =>
  rw [if_neg ha]
  have HIA := mk_ (show raddleref14_in.f x.f1 0 ((ds.length : Int) - 1) = some false from by rw [bL, decide_eq_false]; unfold ahead at ha; rw [cP] at ha; intro e; exact ha (decide_eq_true z5_))
  clear ha hC1 hC2 hC5 hC5L hL5 hC6 hC6L hL6
  go_enter Try.func27, Try.ntmps27
  go_wp2_with (first | (go_at_call 26; (with_reducible show Calls _ _ #[.int .i64 7, .int .i64 1, .int .i64 8] _ _); refine (PAll.raddleref14_in.calls 7 1 8 true _ HI0.out).mono ?_; rintro e w' ⟨rfl, ⟨m0, rfl⟩⟩) | (go_at_call 26; (with_reducible show Calls _ _ #[.int .i64 x.f1, .int .i64 0, _] _ _); refine (PAll.raddleref14_in.calls x.f1 0 ((ds.length : Int) - 1) false _ HIA.out).mono ?_; rintro e w' ⟨rfl, ⟨m1, rfl⟩⟩))
  refine bodyPost_ret (aT rfl _ _ _ 49 #[.slice none 0 0, .int .i64 0, .int .i64 0] (0, 0) _ rfl (blkS (x := .slice none 0 0) (y := .int .i64 0) (z := .int .i64 0) z2_ _ _ _) Try.underlying49 rfl z1_) rfl ?_
  exact GotB.zero z0_
 rw [if_pos ha]
 obtain ⟨k, hk⟩ := Int.eq_ofNat_of_zero_le (of_decide_eq_true ha).1
 rw [hk] at ha ⊢
 obtain ⟨hk0, hk1⟩ : 0 ≤ (k : Int) ∧ (k : Int) < (ds.length : Int) := by have := of_decide_eq_true ha; rw [cP] at this; exact this
 obtain ⟨ad, B, c, hA2, h0, h1, h2, hlc, hCB⟩ := eI hC2 (k : Int) hk0 hk1
 rw [cV ds k z5_]
 have hdok : NdOk (toNd (aQ ds (k : Int))) := by rw [← cV ds k z5_]; exact cY hds ha
 have HIA := mk_ (show raddleref14_in.f (k : Int) 0 ((ds.length : Int) - 1) = some true from by rw [bL, decide_eq_true]; omega)
 subst hA2
 simp only [Int.toNat_natCast] at h0 h1 h2
 have HCB := mk_ hCB
 have HLC := mk_ hlc
 have HDO := mk_ hdok
 have hb2 : (0 ≤ (k : Int)) = True := eq_true hk0
 have hb3 : ((k : Int) < (ds.length : Int)) = True := eq_true hk1
 have h0p := al3 h0
 have h0q := al4 h0
 have h1p := al3 h1
 have h1q := al4 h1
 have h2p := al3 h2
 have h2q := al4 h2
 clear hC1 hC2 hC5 hC5L hL5 hC6 hC6L hL6 hk0 hk1 ha hk hCB hlc hdok
 generalize aQ ds (k : Int) = d at *
 go_enter Try.func27, Try.ntmps27
 go_wp2_with (first | (go_at_call 26; (with_reducible show Calls _ _ #[.int .i64 7, .int .i64 1, .int .i64 8] _ _); refine (PAll.raddleref14_in.calls 7 1 8 true _ HI0.out).mono ?_; rintro e w' ⟨rfl, ⟨m0, rfl⟩⟩) | (go_at_call 26; (with_reducible show Calls _ _ #[.int .i64 (k : Int), .int .i64 0, _] _ _); refine (PAll.raddleref14_in.calls (k : Int) 0 ((ds.length : Int) - 1) true _ HIA.out).mono ?_; rintro e w' ⟨rfl, ⟨m1, rfl⟩⟩))
 refine cG (n := 10) (S := fun w' => w'.cell? ⟨w.heap.size + 1 + 1 + 1, 0, none⟩ = some (.slice B d.f0.length c) ∧ w'.cell? ⟨w.heap.size + 1 + 1 + 1, 1, none⟩ = some (.int .i64 d.f1) ∧ w'.cell? ⟨w.heap.size + 1 + 1 + 1, 2, none⟩ = some (.int .i64 d.f2) ∧ True) (ds := [9]) (fun W => Below w.heap.size w W ∧ W.heap[w.heap.size]? = some (.cells #[.int .i64 7, .int .i64 (k : Int), .int .i64 x.f2, .int .i64 x.f3, .int .i64 x.f4.f0, .int .i64 x.f4.f1, .int .i64 x.f4.f2, .int .i64 x.f4.f3.f0, .int .i64 x.f4.f3.f1, .string x.f4.f3.f2, .slice A5 x.f5.length c5, .slice A6 x.f6.length c6, .int .i64 x.f7, .int .i64 x.f8] 34 (0, 0)) ∧ W.heap[w.heap.size + 1]? = some (.cells #[.slice none 0 0, .int .i64 0, .int .i64 0] 49 (0, 0)) ∧ W.heap[w.heap.size + 1 + 1]? = some (.cells #[.slice none 0 0, .int .i64 0, .int .i64 0] 49 (0, 0)) ∧ W.heap[w.heap.size + 1 + 1 + 1]? = some (.cells #[.slice B d.f0.length c, .int .i64 d.f1, .int .i64 d.f2] 49 (0, 0))) (Steps.Bs 10 0) z1_ rfl rfl ⟨z0_, z2_, z2_, z2_, z2_⟩ (fun W hJ => ?_) (fun W0 hJ => ?_)
 ·
  obtain ⟨hb0, bX0, bR0, bN0, bA0⟩ := hJ
  exact ⟨aA bA0 0, aA bA0 1, aA bA0 2, trivial⟩
 obtain ⟨hb0, bX0, bR0, bN0, bA0⟩ := hJ
 have hHeld0 : W0.cell? ⟨w.heap.size + 1 + 1 + 1, 0, none⟩ = some (.slice B d.f0.length c) ∧ W0.cell? ⟨w.heap.size + 1 + 1 + 1, 1, none⟩ = some (.int .i64 d.f1) ∧ W0.cell? ⟨w.heap.size + 1 + 1 + 1, 2, none⟩ = some (.int .i64 d.f2) ∧ True := ⟨aA bA0 0, aA bA0 1, aA bA0 2, trivial⟩
 have hl0 : w.heap.size + 4 ≤ W0.heap.size := aV bA0
 refine sI 0 86 10 1 ?_
 refine sT hHeld0 1 87 10 3 ?_
 refine sI 3 89 10 11 ?_
 refine sT hHeld0 4 90 10 27 ?_
 refine sI 5 91 10 59 ?_
 refine sT hHeld0 6 92 10 123 ?_
 refine join_ (σ := Option Addr × Nat × Nat) 1 (Steps.Bs 10 511) (fun s_ => [(88, .slice s_.1 d.f0.length s_.2.1), (11, .pointer (some ⟨s_.2.2, 0, none⟩)), (93, .agg #[.slice s_.1 d.f0.length s_.2.1, .int .i64 d.f1, .int .i64 d.f2])]) (fun s_ w' => Below w.heap.size w w' ∧ w'.heap[w.heap.size]? = some (.cells #[.int .i64 7, .int .i64 (k : Int), .int .i64 x.f2, .int .i64 x.f3, .int .i64 x.f4.f0, .int .i64 x.f4.f1, .int .i64 x.f4.f2, .int .i64 x.f4.f3.f0, .int .i64 x.f4.f3.f1, .string x.f4.f3.f2, .slice A5 x.f5.length c5, .slice A6 x.f6.length c6, .int .i64 x.f7, .int .i64 x.f8] 34 (0, 0)) ∧ w'.heap[w.heap.size + 1]? = some (.cells #[.slice none 0 0, .int .i64 0, .int .i64 0] 49 (0, 0)) ∧ w'.heap[w.heap.size + 1 + 1]? = some (.cells #[.slice none 0 0, .int .i64 0, .int .i64 0] 49 (0, 0)) ∧ w'.heap[w.heap.size + 1 + 1 + 1]? = some (.cells #[.slice B d.f0.length c, .int .i64 d.f1, .int .i64 d.f2] 49 (0, 0)) ∧ (Kd.int .i64).R 3 w' w.heap.size (fun k_ => w.heap.size + 4 ≤ k_ ∧ k_ ≠ s_.2.2) (.slice s_.1 d.f0.length s_.2.1) d.f0 ∧ w'.heap[s_.2.2]? = some (.cells #[.slice none 0 0, .int .i64 0, .int .i64 0] 49 (0, 0)) ∧ w.heap.size + 4 ≤ s_.2.2) ?_ ?_
 rotate_left
 ·
  intro hCont
  refine two_ (i := 2) (j := 8) (Ni := some 88) (Nj := some 11) (Steps.Bs 10 127) (Steps.Bs 10 379) rfl rfl rfl rfl z1_ z10_ z10_ (fun K hK => ?_) (fun K hK => ?_)
  ·
   refine goes_ Try.func19 z1_ rfl #[.slice B d.f0.length c] z12_ rfl rfl z8_ ?_
   refine (PAll.raddlekeep_TwinInts.calls B c d.f0 d.f0 _ (aN HCB.out hb0) HLC.out (cM d.f0 (by have h : d.f0.length ≤ 12 := HDO.out.len; omega))).mono ?_
   rintro e W1 ⟨u, rfl, hru, hq⟩
   refine ⟨_, rfl, ?_⟩
   obtain ⟨Au, cu, rfl⟩ := bE hru
   have hrv := cF hru
   have hb1 := aG hb0 hq
   have bX1 := aC bX0 hq
   have bR1 := aC bR0 hq
   have bN1 := aC bN0 hq
   have bA1 := aC bA0 hq
   have hHeld1 : W1.cell? ⟨w.heap.size + 1 + 1 + 1, 0, none⟩ = some (.slice B d.f0.length c) ∧ W1.cell? ⟨w.heap.size + 1 + 1 + 1, 1, none⟩ = some (.int .i64 d.f1) ∧ W1.cell? ⟨w.heap.size + 1 + 1 + 1, 2, none⟩ = some (.int .i64 d.f2) ∧ True := ⟨aA bA1 0, aA bA1 1, aA bA1 2, trivial⟩
   have hl1 : w.heap.size + 4 ≤ W1.heap.size := aV bA1
   refine hK.out _ _ hHeld1 (fun _ => ?_)
   clear hK K
   refine nrm 88 ?_
   clear hq
   refine sI 7 93 10 255 ?_
   refine one_ (i := 8) (N := some 11) (Steps.Bs 10 511) rfl rfl z1_ z10_ (fun K hK => ?_)
   refine cK z12_ (N := 11) rfl (cs := #[.slice none 0 0, .int .i64 0, .int .i64 0]) (t := 49) z11_ ?_
   intro go hgo W2 bO hq
   have hb2 := aG hb1 hq
   have bX2 := aC bX1 hq
   have bR2 := aC bR1 hq
   have bN2 := aC bN1 hq
   have bA2 := aC bA1 hq
   have hHeld2 : W2.cell? ⟨w.heap.size + 1 + 1 + 1, 0, none⟩ = some (.slice B d.f0.length c) ∧ W2.cell? ⟨w.heap.size + 1 + 1 + 1, 1, none⟩ = some (.int .i64 d.f1) ∧ W2.cell? ⟨w.heap.size + 1 + 1 + 1, 2, none⟩ = some (.int .i64 d.f2) ∧ True := ⟨aA bA2 0, aA bA2 1, aA bA2 2, trivial⟩
   have hl2 : w.heap.size + 4 ≤ W2.heap.size := aV bA2
   refine hK.out _ _ hHeld2 (fun _ => ?_)
   clear hK K
   exact hCont (Au, cu, go) W2 ⟨hb2, bX2, bR2, bN2, bA2, bT (R_mono (bG hrv hq) (fun k hk => ⟨by have := hk.2.1; omega, by have := hk.2.2.1; show k ≠ go; omega⟩)) z5_, bO, by show _ ≤ go; omega⟩
  ·
   refine cK z12_ (N := 11) rfl (cs := #[.slice none 0 0, .int .i64 0, .int .i64 0]) (t := 49) z11_ ?_
   intro go hgo W1 bO hq
   have hb1 := aG hb0 hq
   have bX1 := aC bX0 hq
   have bR1 := aC bR0 hq
   have bN1 := aC bN0 hq
   have bA1 := aC bA0 hq
   have hHeld1 : W1.cell? ⟨w.heap.size + 1 + 1 + 1, 0, none⟩ = some (.slice B d.f0.length c) ∧ W1.cell? ⟨w.heap.size + 1 + 1 + 1, 1, none⟩ = some (.int .i64 d.f1) ∧ W1.cell? ⟨w.heap.size + 1 + 1 + 1, 2, none⟩ = some (.int .i64 d.f2) ∧ True := ⟨aA bA1 0, aA bA1 1, aA bA1 2, trivial⟩
   have hl1 : w.heap.size + 4 ≤ W1.heap.size := aV bA1
   refine hK.out _ _ hHeld1 (fun _ => ?_)
   clear hK K
   refine nrm 11 ?_
   have hlo := aV bO
   clear hq
   refine one_ (i := 2) (N := some 88) (Steps.Bs 10 383) rfl rfl z1_ z10_ (fun K hK => ?_)
   refine goes_ Try.func19 z1_ rfl #[.slice B d.f0.length c] z12_ rfl rfl z8_ ?_
   refine (PAll.raddlekeep_TwinInts.calls B c d.f0 d.f0 _ (aN HCB.out hb1) HLC.out (cM d.f0 (by have h : d.f0.length ≤ 12 := HDO.out.len; omega))).mono ?_
   rintro e W2 ⟨u, rfl, hru, hq⟩
   refine ⟨_, rfl, ?_⟩
   obtain ⟨Au, cu, rfl⟩ := bE hru
   have hrv := cF hru
   have bO2 := aC bO hq
   have hb2 := aG hb1 hq
   have bX2 := aC bX1 hq
   have bR2 := aC bR1 hq
   have bN2 := aC bN1 hq
   have bA2 := aC bA1 hq
   have hHeld2 : W2.cell? ⟨w.heap.size + 1 + 1 + 1, 0, none⟩ = some (.slice B d.f0.length c) ∧ W2.cell? ⟨w.heap.size + 1 + 1 + 1, 1, none⟩ = some (.int .i64 d.f1) ∧ W2.cell? ⟨w.heap.size + 1 + 1 + 1, 2, none⟩ = some (.int .i64 d.f2) ∧ True := ⟨aA bA2 0, aA bA2 1, aA bA2 2, trivial⟩
   have hl2 : w.heap.size + 4 ≤ W2.heap.size := aV bA2
   refine hK.out _ _ hHeld2 (fun _ => ?_)
   clear hK K
   refine nrm 88 ?_
   refine sI 7 93 10 511 ?_
   exact hCont (Au, cu, go) W2 ⟨hb2, bX2, bR2, bN2, bA2, bT (R_mono hrv (fun k hk => ⟨by have := hk.2.1; omega, by have := hk.2.1; show k ≠ go; omega⟩)) z5_, bO2, by show _ ≤ go; omega⟩
 rintro ⟨Au, cu, go⟩ W1 ⟨hb1, bX1, bR1, bN1, bA1, hru, bO1, hgo⟩
 replace hru : (Kd.int .i64).R 3 W1 w.heap.size (fun k_ => w.heap.size + 4 ≤ k_ ∧ k_ ≠ go) (.slice Au d.f0.length cu) d.f0 := hru
 replace bO1 : W1.heap[go]? = some (.cells #[.slice none 0 0, .int .i64 0, .int .i64 0] 49 (0, 0)) := bO1
 replace hgo : w.heap.size + 4 ≤ go := hgo
 refine norm_ (a' := ?_) ?_ ?_
 rotate_left
 ·
  simp only [putAll, Act.put, List.setIfInBounds_toArray, List.set_cons_zero, List.set_cons_succ]
  rfl
 have hc9_0 := aA bO1 0
 have hf9_0 := aD bO1 0
 have hc9_1 := aA bO1 1
 have hf9_1 := aD bO1 1
 have hc9_2 := aA bO1 2
 have hf9_2 := aD bO1 2
 refine last_ (i := 9) (N := none) (Steps.Bs 10 1023) rfl rfl z1_ z10_ (fun K hK => ?_)
 refine skip_ (w1 := ?_) z12_ rfl ?_ ?_
 rotate_left
 ·
  go_simp
  rfl
 refine hK.out _ _ ?_
 clear hK K
 obtain ⟨V, hV, hbV, bOV, hkeep⟩ := storeS hb1 z5_ bO1 (.slice Au d.f0.length cu) (.int .i64 d.f1) (.int .i64 d.f2)
 have hruV : (Kd.int .i64).R 3 V w.heap.size (fun k_ => w.heap.size + 4 ≤ k_ ∧ k_ ≠ go) (.slice Au d.f0.length cu) d.f0 := dO hru (fun k hk _ => hkeep k hk.2)
 rw [← hV]
 have bXV := (hkeep (w.heap.size) z5_).trans bX1
 have bRV := (hkeep (w.heap.size + 1) z5_).trans bR1
 have bNV := (hkeep (w.heap.size + 1 + 1) z5_).trans bN1
 have bAV := (hkeep (w.heap.size + 1 + 1 + 1) z5_).trans bA1
 clear hV hkeep hru hc9_0 hc9_1 hc9_2 hf9_0 hf9_1 hf9_2 bX1 bR1 bN1 bA1 bO1 hb1 bX0 bR0 bN0 bA0 hb0 hHeld0 hl0
 refine done_ z1_ ?_
 have hO0V := aA bOV
 have hR0V := aA bRV
 have fO0V := aD bOV
 have fR0V := aD bRV
 have hX0V := aA bXV 0
 have hdw : decide ((1125899906842624 : Int) < d.f1) = false := decide_eq_false (by have h : d.f1 ≤ 1125899906842624 := HDO.out.w2; omega)
 have hdv : decide ((1152921504606846976 : Int) < d.f2) = false := decide_eq_false (by have h : d.f2 ≤ 1152921504606846976 := HDO.out.v2; omega)
 go_wp2
 refine bodyPost_ret (aT rfl _ _ _ 49 #[.slice Au d.f0.length cu, .int .i64 d.f1, .int .i64 d.f2] (0, 0) _ rfl (blkS bRV _ _ _) Try.underlying49 rfl z1_) rfl ?_
 exact GotB.stored (d := toNd d) (R_mono hruV (fun k hk => hk.1)) hbV _ _ _
end
end Go.Proofs.Ytimbbaoodjhdoaa.Plan
end
