-- Put together by a program of this session (wip/slice2.py) out of the seat's texts.
import Derived.Test.YtimbbaoodjhdoaaZPTp6
import Derived.Test.YtimbbaoodjhdoaaZPTq5

set_option maxHeartbeats 8000000
set_option maxRecDepth 100000
open Go.Proofs.YtimbbaoodjhdoaaW Go.Proofs.Ytimbbaoodjhdoaa
section
namespace Go.Proofs.Ytimbbaoodjhdoaa.Plan
open Go.RowKit PAll Plain PrintWords PrintLast PrintMore ZipT PrintWords.Kd PrintMore.Kd
set_option linter.unusedVariables false
set_option linter.unusedSimpArgs false
theorem al3d {w : World} {p : Addr} {v : Value} (h : w.cell? p = some v) (a b c : Obj) (m : Nat) (e : Obj) : (((((w.alloc a).alloc b).alloc c).drewN m).alloc e).cell? p = some v := aE (aM (aZ (aM (aM (aM (Below.refl _ _) _) _) _) _) _) h
theorem lit_own {w : World} {base G : Nat} {ok : Nat → Prop} {a : Int} (hb : base ≤ G) (ho : ok G) (h : w.heap[G]? = some (.cells #[.int .i64 a] 3 (0, 0))) : (Kd.int .i64).R 3 w base ok (.slice (some ⟨G, 0, none⟩) 1 1) [a] := by
 refine ⟨fun k hk => ?_, [.int .i64 a], ⟨rfl, .inr ⟨G, 1, _, rfl, hb, h, Nat.le_refl _, by decide, rfl, rfl⟩⟩, Kd.reps_scalar [a]⟩
 have : G = k := by simpa [Value.ownBlock] using hk
 subst this
 exact ho
theorem setO {W : World} {g k j : Nat} {o : Obj} (h : W.heap[k]? = some o) (hk : k ≠ g) (v : Value) : (W.setCell ⟨g, j, none⟩ v).heap[k]? = some o := (Below.heap_setCell W ⟨g, j, none⟩ v k hk).trans h
theorem dK {W w1 : World} {row : Option Nat} (hg : W.grownBy w1 row) {k : Nat} {o : Obj} (h : W.heap[k]? = some o) (hk : some k ≠ row) : w1.heap[k]? = some o := (hg.block k (aV h) hk).trans h
section
variable {w : World} {A1 A2 : Option Addr} {c1 c2 : Nat} {f : List Tb} {ds : List Bo} {x : No} {A5 A6 : Option Addr} {c5 c6 : Nat}
theorem GotB.stored3 {V : World} {d : Nd} {u : Value} {er : Int} (hr : (Kd.int .i64).R 3 V w.heap.size (fun k => w.heap.size + 3 ≤ k) u d.1) (hb : Below w.heap.size w V) (a b c : Value) :
  GotB w (d, er) (.returned (.tuple #[.agg #[u, .int .i64 d.2.1, .int .i64 d.2.2], .int .i64 er])) (((V.setCell ⟨w.heap.size + 1, 0, none⟩ a).setCell ⟨w.heap.size + 1, 1, none⟩ b).setCell ⟨w.heap.size + 1, 2, none⟩ c) := by
 refine ⟨u, rfl, R_mono (R_far (R_far (R_far hr (p := ⟨w.heap.size + 1, 0, none⟩) (fun k hk => ?_) a) (p := ⟨w.heap.size + 1, 1, none⟩) (fun k hk => ?_) b) (p := ⟨w.heap.size + 1, 2, none⟩) (fun k hk => ?_) c) (fun _ _ => trivial), aI (aI (aI hb z5_) z5_) z5_⟩
 all_goals show k ≠ w.heap.size + 1
 all_goals omega
theorem node1 (hC1 : Kd.C k54 w A1 f.length f) (hl1 : f.length ≤ c1) (hf : FOk f) (hC2 : Kd.C k49 w A2 ds.length ds) (hl2 : ds.length ≤ c2) (hl : ds.length ≤ 1000) (hds : ∀ d ∈ rows ds, NdOk d) (hC5 : Kd.C (Kd.int .i64) w A5 x.f5.length x.f5) (hC5L : x.f5.length ≤ c5) (hL5 : x.f5.length ≤ 1000) (hC6 : Kd.C (Kd.int .i64) w A6 x.f6.length x.f6) (hC6L : x.f6.length ≤ c6) (hL6 : x.f6.length ≤ 1000) :
  Calls Try.prog 27 #[.agg #[.int .i64 1, .int .i64 x.f1, .int .i64 x.f2, .int .i64 x.f3, .int .i64 x.f4.f0, .int .i64 x.f4.f1, .int .i64 x.f4.f2, .int .i64 x.f4.f3.f0, .int .i64 x.f4.f3.f1, .string x.f4.f3.f2, .slice A5 x.f5.length c5, .slice A6 x.f6.length c6, .int .i64 x.f7, .int .i64 x.f8], .slice A1 f.length c1, .slice A2 ds.length c2] w (GotB w (scanN f x)) := by
 have HC1 := mk_ hC1
 have HC2 := mk_ hC2
 have HC5 := mk_ hC5
 have HC5L := mk_ hC5L
 have HL5 := mk_ hL5
 have HC6 := mk_ hC6
 have HC6L := mk_ hC6L
 have HL6 := mk_ hL6
 have hsub : IntKind.i64.wrap ((ds.length : Int) - 1) = (ds.length : Int) - 1 := IntWalk.i64_in _ z5_
 have HI0 := mk_ (show raddleref14_in.f 1 1 8 = some true from bL 1 1 8)
 obtain ⟨hf1, hf3, hft⟩ := hf.forms
 have hsubf : IntKind.i64.wrap ((f.length : Int) - 1) = (f.length : Int) - 1 := IntWalk.i64_in _ z5_
 unfold scanN
 by_cases hk0 : x.f3 < 0 ∨ x.f3 ≥ (f.length : Int)
 ·
  rw [if_pos hk0]
  have HIA := mk_ (show raddleref14_in.f x.f3 0 ((f.length : Int) - 1) = some false from by rw [bL, decide_eq_false]; omega)
  clear hk0 hC1 hC2 hC5 hC5L hL5 hC6 hC6L hL6 hft
  go_enter Try.func27, Try.ntmps27
  go_wp2_with (first | (go_at_call 26; (with_reducible show Calls _ _ #[.int .i64 1, .int .i64 1, .int .i64 8] _ _); refine (PAll.raddleref14_in.calls 1 1 8 true _ HI0.out).mono ?_; rintro e w' ⟨rfl, ⟨m0, rfl⟩⟩) | (go_at_call 26; (with_reducible show Calls _ _ #[.int .i64 x.f3, .int .i64 0, _] _ _); refine (PAll.raddleref14_in.calls x.f3 0 ((f.length : Int) - 1) false _ HIA.out).mono ?_; rintro e w' ⟨rfl, ⟨m1, rfl⟩⟩))
  refine bodyPost_ret (aT rfl _ _ _ 49 #[.slice none 0 0, .int .i64 0, .int .i64 0] (0, 0) _ rfl (blkS (x := .slice none 0 0) (y := .int .i64 0) (z := .int .i64 0) z2_ _ _ _) Try.underlying49 rfl z1_) rfl ?_
  exact GotB.zero z0_
 rw [if_neg hk0]
 have HIA := mk_ (show raddleref14_in.f x.f3 0 ((f.length : Int) - 1) = some true from by rw [bL, decide_eq_true]; omega)
 obtain ⟨k, hk⟩ := Int.eq_ofNat_of_zero_le (show 0 ≤ x.f3 by omega)
 rw [hk] at HIA hk0 ⊢
 obtain ⟨ad, At, ct, hA1, h0, hlt, hCT⟩ := eP hC1 (k : Int) z5_ z5_
 subst hA1
 rw [Int.toNat_natCast] at h0
 have htl := (hft (cN f (k : Int)) (fN (by rw [Int.toNat_natCast]; omega))).2.1
 have HTL := mk_ htl
 have HCT := mk_ hCT
 have hb2 : (0 ≤ (k : Int)) = True := eq_true z5_
 have hb3 : ((k : Int) < (f.length : Int)) = True := eq_true z5_
 clear hk0 hC1 hC2 hC5 hC5L hL5 hC6 hC6L hL6 hft hCT hlt htl hk
 generalize (cN f (k : Int)).f0 = t at *
 have h0p := al3 h0
 have h0q := al3d h0
 go_enter Try.func27, Try.ntmps27
 go_wp2_with (first | (go_at_call 26; (with_reducible show Calls _ _ #[.int .i64 1, .int .i64 1, .int .i64 8] _ _); refine (PAll.raddleref14_in.calls 1 1 8 true _ HI0.out).mono ?_; rintro e w' ⟨rfl, ⟨m0, rfl⟩⟩) | (go_at_call 26; (with_reducible show Calls _ _ #[.int .i64 (k : Int), .int .i64 0, _] _ _); refine (PAll.raddleref14_in.calls (k : Int) 0 ((f.length : Int) - 1) true _ HIA.out).mono ?_; rintro e w' ⟨rfl, ⟨m1, rfl⟩⟩) | ((with_reducible refine cZ (b := .append) (xs := #[.tmp 39, .tmp 45]) rfl ?_); at_builtin; refine dV (Kd.int .i64) (w0 := w) w.heap.size rfl (.tmp 39) (.tmp 45) 32 3 (.int .i64 0) 8 rfl Try.underlying32 PAll.info3 rfl z10_ z5_ (.slice (some ⟨w.heap.size + 1 + 1 + 1, 0, none⟩) 1 1) [4] t At _ ct (fun k => w.heap.size + 3 ≤ k) (fun _ => False) rfl rfl (lit_own z5_ z5_ z2_) (aN HCT.out z0_) (fun _ _ h => h) (fun _ h => h.elim) (fun k hk => by simp at hk; omega) z0_ (by simp; omega) (by have := HTL.out; simp; omega) ?_; intro v1 W1 hr1 hb1 hg1 _; obtain ⟨A9, c9, rfl⟩ := bE hr1; have bR1 : W1.heap[w.heap.size + 1]? = some (.cells #[.slice none 0 0, .int .i64 0, .int .i64 0] 49 (0, 0)) := dK hg1 z2_ (by simp [Value.ownBlock]); have hR01 := aA bR1; have fR01 := aD bR1))
 refine bodyPost_ret (aT rfl _ _ _ 49 #[.slice A9 ([4] ++ t).length c9, .int .i64 1024, .int .i64 2147483648] (0, 0) _ rfl (blkS bR1 _ _ _) Try.underlying49 rfl z1_) rfl ?_
 exact GotB.stored3 (d := (4 :: t, 1024, 2147483648)) hr1 hb1 _ _ _
theorem node3 (hC1 : Kd.C k54 w A1 f.length f) (hl1 : f.length ≤ c1) (hf : FOk f) (hC2 : Kd.C k49 w A2 ds.length ds) (hl2 : ds.length ≤ c2) (hl : ds.length ≤ 1000) (hds : ∀ d ∈ rows ds, NdOk d) (hC5 : Kd.C (Kd.int .i64) w A5 x.f5.length x.f5) (hC5L : x.f5.length ≤ c5) (hL5 : x.f5.length ≤ 1000) (hC6 : Kd.C (Kd.int .i64) w A6 x.f6.length x.f6) (hC6L : x.f6.length ≤ c6) (hL6 : x.f6.length ≤ 1000) :
  Calls Try.prog 27 #[.agg #[.int .i64 3, .int .i64 x.f1, .int .i64 x.f2, .int .i64 x.f3, .int .i64 x.f4.f0, .int .i64 x.f4.f1, .int .i64 x.f4.f2, .int .i64 x.f4.f3.f0, .int .i64 x.f4.f3.f1, .string x.f4.f3.f2, .slice A5 x.f5.length c5, .slice A6 x.f6.length c6, .int .i64 x.f7, .int .i64 x.f8], .slice A1 f.length c1, .slice A2 ds.length c2] w (GotB w (projectN (rows ds) x)) := by
 have HC1 := mk_ hC1
 have HC2 := mk_ hC2
 have HC5 := mk_ hC5
 have HC5L := mk_ hC5L
 have HL5 := mk_ hL5
 have HC6 := mk_ hC6
 have HC6L := mk_ hC6L
 have HL6 := mk_ hL6
 have hsub : IntKind.i64.wrap ((ds.length : Int) - 1) = (ds.length : Int) - 1 := IntWalk.i64_in _ z5_
 have HI0 := mk_ (show raddleref14_in.f 3 1 8 = some true from bL 3 1 8)
 unfold projectN
 by_cases ha : ahead (rows ds) x.f1 = true
 case neg =>
  rw [if_neg (fun e => ha e.1)]
  have HIA := mk_ (show raddleref14_in.f x.f1 0 ((ds.length : Int) - 1) = some false from by rw [bL, decide_eq_false]; unfold ahead at ha; rw [cP] at ha; intro e; exact ha (decide_eq_true z5_))
  clear ha hC1 hC2 hC5 hC5L hL5 hC6 hC6L hL6
  go_enter Try.func27, Try.ntmps27
  go_wp2_with (first | (go_at_call 26; (with_reducible show Calls _ _ #[.int .i64 3, .int .i64 1, .int .i64 8] _ _); refine (PAll.raddleref14_in.calls 3 1 8 true _ HI0.out).mono ?_; rintro e w' ⟨rfl, ⟨m0, rfl⟩⟩) | (go_at_call 26; (with_reducible show Calls _ _ #[.int .i64 x.f1, .int .i64 0, _] _ _); refine (PAll.raddleref14_in.calls x.f1 0 ((ds.length : Int) - 1) false _ HIA.out).mono ?_; rintro e w' ⟨rfl, ⟨m1, rfl⟩⟩))
  refine bodyPost_ret (aT rfl _ _ _ 49 #[.slice none 0 0, .int .i64 0, .int .i64 0] (0, 0) _ rfl (blkS (x := .slice none 0 0) (y := .int .i64 0) (z := .int .i64 0) z2_ _ _ _) Try.underlying49 rfl z1_) rfl ?_
  exact GotB.zero z0_
 have hsp : (if ahead (rows ds) x.f1 = true ∧ places x.f5 (nth (rows ds) x.f1).1.length = true then (if x.f5.length > 12 then (zN, (2 : Int)) else ((pick (nth (rows ds) x.f1).1 x.f5, (nth (rows ds) x.f1).2), 0)) else (zN, 1)) = if places x.f5 (nth (rows ds) x.f1).1.length = true then (if x.f5.length > 12 then (zN, (2 : Int)) else ((pick (nth (rows ds) x.f1).1 x.f5, (nth (rows ds) x.f1).2), 0)) else (zN, 1) := by
  by_cases hp : places x.f5 (nth (rows ds) x.f1).1.length = true
  ·
   rw [if_pos ⟨ha, hp⟩, if_pos hp]
  ·
   rw [if_neg (fun e => hp e.2), if_neg hp]
 rw [hsp]
 clear hsp
 obtain ⟨k, hk⟩ := Int.eq_ofNat_of_zero_le (of_decide_eq_true ha).1
 rw [hk] at ha ⊢
 obtain ⟨hk0, hk1⟩ : 0 ≤ (k : Int) ∧ (k : Int) < (ds.length : Int) := by have := of_decide_eq_true ha; rw [cP] at this; exact this
 obtain ⟨ad, B, c, hA2, h0, h1, h2, hlc, hCB⟩ := eI hC2 (k : Int) hk0 hk1
 rw [cV ds k z5_]
 have hdok : NdOk (toNd (aQ ds (k : Int))) := by rw [← cV ds k z5_]; exact cY hds ha
 have HIA := mk_ (show raddleref14_in.f (k : Int) 0 ((ds.length : Int) - 1) = some true from by rw [bL, decide_eq_true]; omega)
 subst hA2
 simp only [Int.toNat_natCast] at h0 h1 h2
 have HCB := mk_ hCB
 have HLC := mk_ hlc
 have HDO := mk_ hdok
 have hb2 : (0 ≤ (k : Int)) = True := eq_true hk0
 have hb3 : ((k : Int) < (ds.length : Int)) = True := eq_true hk1
 have h0p := al3 h0
 have h0q := al4 h0
 have h1p := al3 h1
 have h1q := al4 h1
 have h2p := al3 h2
 have h2q := al4 h2
 clear hC1 hC2 hC5 hC5L hL5 hC6 hC6L hL6 hk0 hk1 ha hk hCB hlc hdok
 generalize aQ ds (k : Int) = d at *
 generalize hz : (if places x.f5 (toNd d).1.length = true then (if x.f5.length > 12 then (zN, (2 : Int)) else ((pick (toNd d).1 x.f5, (toNd d).2), 0)) else (zN, 1)) = r
 replace hz : (if places x.f5 d.f0.length = true then (if x.f5.length > 12 then (zN, (2 : Int)) else ((pick d.f0 x.f5, (d.f1, d.f2)), 0)) else (zN, 1)) = r := hz
 have HZ := mk_ hz
 clear hz
 go_enter Try.func27, Try.ntmps27
 go_wp2_with (first | (go_at_call 26; (with_reducible show Calls _ _ #[.int .i64 3, .int .i64 1, .int .i64 8] _ _); refine (PAll.raddleref14_in.calls 3 1 8 true _ HI0.out).mono ?_; rintro e w' ⟨rfl, ⟨m0, rfl⟩⟩) | (go_at_call 26; (with_reducible show Calls _ _ #[.int .i64 (k : Int), .int .i64 0, _] _ _); refine (PAll.raddleref14_in.calls (k : Int) 0 ((ds.length : Int) - 1) true _ HIA.out).mono ?_; rintro e w' ⟨rfl, ⟨m1, rfl⟩⟩))
 refine cG (n := 10) (S := fun w' => w'.cell? ⟨w.heap.size + 1 + 1 + 1, 0, none⟩ = some (.slice B d.f0.length c) ∧ w'.cell? ⟨w.heap.size + 1 + 1 + 1, 1, none⟩ = some (.int .i64 d.f1) ∧ w'.cell? ⟨w.heap.size + 1 + 1 + 1, 2, none⟩ = some (.int .i64 d.f2) ∧ True) (ds := [9]) (fun W => Below w.heap.size w W ∧ W.heap[w.heap.size]? = some (.cells #[.int .i64 3, .int .i64 (k : Int), .int .i64 x.f2, .int .i64 x.f3, .int .i64 x.f4.f0, .int .i64 x.f4.f1, .int .i64 x.f4.f2, .int .i64 x.f4.f3.f0, .int .i64 x.f4.f3.f1, .string x.f4.f3.f2, .slice A5 x.f5.length c5, .slice A6 x.f6.length c6, .int .i64 x.f7, .int .i64 x.f8] 34 (0, 0)) ∧ W.heap[w.heap.size + 1]? = some (.cells #[.slice none 0 0, .int .i64 0, .int .i64 0] 49 (0, 0)) ∧ W.heap[w.heap.size + 1 + 1]? = some (.cells #[.slice none 0 0, .int .i64 0, .int .i64 0] 49 (0, 0)) ∧ W.heap[w.heap.size + 1 + 1 + 1]? = some (.cells #[.slice B d.f0.length c, .int .i64 d.f1, .int .i64 d.f2] 49 (0, 0))) (Steps.Bs 10 0) z1_ rfl rfl ⟨z0_, z2_, z2_, z2_, z2_⟩ (fun W hJ => ?_) (fun W0 hJ => ?_)
 ·
  obtain ⟨hb0, bX0, bR0, bN0, bA0⟩ := hJ
  exact ⟨aA bA0 0, aA bA0 1, aA bA0 2, trivial⟩
 obtain ⟨hb0, bX0, bR0, bN0, bA0⟩ := hJ
 have hHeld0 : W0.cell? ⟨w.heap.size + 1 + 1 + 1, 0, none⟩ = some (.slice B d.f0.length c) ∧ W0.cell? ⟨w.heap.size + 1 + 1 + 1, 1, none⟩ = some (.int .i64 d.f1) ∧ W0.cell? ⟨w.heap.size + 1 + 1 + 1, 2, none⟩ = some (.int .i64 d.f2) ∧ True := ⟨aA bA0 0, aA bA0 1, aA bA0 2, trivial⟩
 have hl0 : w.heap.size + 4 ≤ W0.heap.size := aV bA0
 refine sI 0 86 10 1 ?_
 refine sT hHeld0 1 87 10 3 ?_
 refine sI 3 89 10 11 ?_
 refine sT hHeld0 4 90 10 27 ?_
 refine sI 5 91 10 59 ?_
 refine sT hHeld0 6 92 10 123 ?_
 refine join_ (σ := Option Addr × Nat × Nat) 1 (Steps.Bs 10 511) (fun s_ => [(88, .slice s_.1 d.f0.length s_.2.1), (11, .pointer (some ⟨s_.2.2, 0, none⟩)), (93, .agg #[.slice s_.1 d.f0.length s_.2.1, .int .i64 d.f1, .int .i64 d.f2])]) (fun s_ w' => Below w.heap.size w w' ∧ w'.heap[w.heap.size]? = some (.cells #[.int .i64 3, .int .i64 (k : Int), .int .i64 x.f2, .int .i64 x.f3, .int .i64 x.f4.f0, .int .i64 x.f4.f1, .int .i64 x.f4.f2, .int .i64 x.f4.f3.f0, .int .i64 x.f4.f3.f1, .string x.f4.f3.f2, .slice A5 x.f5.length c5, .slice A6 x.f6.length c6, .int .i64 x.f7, .int .i64 x.f8] 34 (0, 0)) ∧ w'.heap[w.heap.size + 1]? = some (.cells #[.slice none 0 0, .int .i64 0, .int .i64 0] 49 (0, 0)) ∧ w'.heap[w.heap.size + 1 + 1]? = some (.cells #[.slice none 0 0, .int .i64 0, .int .i64 0] 49 (0, 0)) ∧ w'.heap[w.heap.size + 1 + 1 + 1]? = some (.cells #[.slice B d.f0.length c, .int .i64 d.f1, .int .i64 d.f2] 49 (0, 0)) ∧ (Kd.int .i64).R 3 w' w.heap.size (fun k_ => w.heap.size + 4 ≤ k_ ∧ k_ ≠ s_.2.2) (.slice s_.1 d.f0.length s_.2.1) d.f0 ∧ w'.heap[s_.2.2]? = some (.cells #[.slice none 0 0, .int .i64 0, .int .i64 0] 49 (0, 0)) ∧ w.heap.size + 4 ≤ s_.2.2) ?_ ?_
 rotate_left
 ·
  intro hCont
  refine two_ (i := 2) (j := 8) (Ni := some 88) (Nj := some 11) (Steps.Bs 10 127) (Steps.Bs 10 379) rfl rfl rfl rfl z1_ z10_ z10_ (fun K hK => ?_) (fun K hK => ?_)
  ·
   refine goes_ Try.func19 z1_ rfl #[.slice B d.f0.length c] z12_ rfl rfl z8_ ?_
   refine (PAll.raddlekeep_TwinInts.calls B c d.f0 d.f0 _ (aN HCB.out hb0) HLC.out (cM d.f0 (by have h : d.f0.length ≤ 12 := HDO.out.len; omega))).mono ?_
   rintro e W1 ⟨u, rfl, hru, hq⟩
   refine ⟨_, rfl, ?_⟩
   obtain ⟨Au, cu, rfl⟩ := bE hru
   have hrv := cF hru
   have hb1 := aG hb0 hq
   have bX1 := aC bX0 hq
   have bR1 := aC bR0 hq
   have bN1 := aC bN0 hq
   have bA1 := aC bA0 hq
   have hHeld1 : W1.cell? ⟨w.heap.size + 1 + 1 + 1, 0, none⟩ = some (.slice B d.f0.length c) ∧ W1.cell? ⟨w.heap.size + 1 + 1 + 1, 1, none⟩ = some (.int .i64 d.f1) ∧ W1.cell? ⟨w.heap.size + 1 + 1 + 1, 2, none⟩ = some (.int .i64 d.f2) ∧ True := ⟨aA bA1 0, aA bA1 1, aA bA1 2, trivial⟩
   have hl1 : w.heap.size + 4 ≤ W1.heap.size := aV bA1
   refine hK.out _ _ hHeld1 (fun _ => ?_)
   clear hK K
   refine nrm 88 ?_
   clear hq
   refine sI 7 93 10 255 ?_
   refine one_ (i := 8) (N := some 11) (Steps.Bs 10 511) rfl rfl z1_ z10_ (fun K hK => ?_)
   refine cK z12_ (N := 11) rfl (cs := #[.slice none 0 0, .int .i64 0, .int .i64 0]) (t := 49) z11_ ?_
   intro go hgo W2 bO hq
   have hb2 := aG hb1 hq
   have bX2 := aC bX1 hq
   have bR2 := aC bR1 hq
   have bN2 := aC bN1 hq
   have bA2 := aC bA1 hq
   have hHeld2 : W2.cell? ⟨w.heap.size + 1 + 1 + 1, 0, none⟩ = some (.slice B d.f0.length c) ∧ W2.cell? ⟨w.heap.size + 1 + 1 + 1, 1, none⟩ = some (.int .i64 d.f1) ∧ W2.cell? ⟨w.heap.size + 1 + 1 + 1, 2, none⟩ = some (.int .i64 d.f2) ∧ True := ⟨aA bA2 0, aA bA2 1, aA bA2 2, trivial⟩
   have hl2 : w.heap.size + 4 ≤ W2.heap.size := aV bA2
   refine hK.out _ _ hHeld2 (fun _ => ?_)
   clear hK K
   exact hCont (Au, cu, go) W2 ⟨hb2, bX2, bR2, bN2, bA2, bT (R_mono (bG hrv hq) (fun k hk => ⟨by have := hk.2.1; omega, by have := hk.2.2.1; show k ≠ go; omega⟩)) z5_, bO, by show _ ≤ go; omega⟩
  ·
   refine cK z12_ (N := 11) rfl (cs := #[.slice none 0 0, .int .i64 0, .int .i64 0]) (t := 49) z11_ ?_
   intro go hgo W1 bO hq
   have hb1 := aG hb0 hq
   have bX1 := aC bX0 hq
   have bR1 := aC bR0 hq
   have bN1 := aC bN0 hq
   have bA1 := aC bA0 hq
   have hHeld1 : W1.cell? ⟨w.heap.size + 1 + 1 + 1, 0, none⟩ = some (.slice B d.f0.length c) ∧ W1.cell? ⟨w.heap.size + 1 + 1 + 1, 1, none⟩ = some (.int .i64 d.f1) ∧ W1.cell? ⟨w.heap.size + 1 + 1 + 1, 2, none⟩ = some (.int .i64 d.f2) ∧ True := ⟨aA bA1 0, aA bA1 1, aA bA1 2, trivial⟩
   have hl1 : w.heap.size + 4 ≤ W1.heap.size := aV bA1
   refine hK.out _ _ hHeld1 (fun _ => ?_)
   clear hK K
   refine nrm 11 ?_
   have hlo := aV bO
   clear hq
   refine one_ (i := 2) (N := some 88) (Steps.Bs 10 383) rfl rfl z1_ z10_ (fun K hK => ?_)
   refine goes_ Try.func19 z1_ rfl #[.slice B d.f0.length c] z12_ rfl rfl z8_ ?_
   refine (PAll.raddlekeep_TwinInts.calls B c d.f0 d.f0 _ (aN HCB.out hb1) HLC.out (cM d.f0 (by have h : d.f0.length ≤ 12 := HDO.out.len; omega))).mono ?_
   rintro e W2 ⟨u, rfl, hru, hq⟩
   refine ⟨_, rfl, ?_⟩
   obtain ⟨Au, cu, rfl⟩ := bE hru
   have hrv := cF hru
   have bO2 := aC bO hq
   have hb2 := aG hb1 hq
   have bX2 := aC bX1 hq
   have bR2 := aC bR1 hq
   have bN2 := aC bN1 hq
   have bA2 := aC bA1 hq
   have hHeld2 : W2.cell? ⟨w.heap.size + 1 + 1 + 1, 0, none⟩ = some (.slice B d.f0.length c) ∧ W2.cell? ⟨w.heap.size + 1 + 1 + 1, 1, none⟩ = some (.int .i64 d.f1) ∧ W2.cell? ⟨w.heap.size + 1 + 1 + 1, 2, none⟩ = some (.int .i64 d.f2) ∧ True := ⟨aA bA2 0, aA bA2 1, aA bA2 2, trivial⟩
   have hl2 : w.heap.size + 4 ≤ W2.heap.size := aV bA2
   refine hK.out _ _ hHeld2 (fun _ => ?_)
   clear hK K
   refine nrm 88 ?_
   refine sI 7 93 10 511 ?_
   exact hCont (Au, cu, go) W2 ⟨hb2, bX2, bR2, bN2, bA2, bT (R_mono hrv (fun k hk => ⟨by have := hk.2.1; omega, by have := hk.2.1; show k ≠ go; omega⟩)) z5_, bO2, by show _ ≤ go; omega⟩
 rintro ⟨Au, cu, go⟩ W1 ⟨hb1, bX1, bR1, bN1, bA1, hru, bO1, hgo⟩
 replace hru : (Kd.int .i64).R 3 W1 w.heap.size (fun k_ => w.heap.size + 4 ≤ k_ ∧ k_ ≠ go) (.slice Au d.f0.length cu) d.f0 := hru
 replace bO1 : W1.heap[go]? = some (.cells #[.slice none 0 0, .int .i64 0, .int .i64 0] 49 (0, 0)) := bO1
 replace hgo : w.heap.size + 4 ≤ go := hgo
 refine norm_ (a' := ?_) ?_ ?_
 rotate_left
 ·
  simp only [putAll, Act.put, List.setIfInBounds_toArray, List.set_cons_zero, List.set_cons_succ]
  rfl
 have hc9_0 := aA bO1 0
 have hf9_0 := aD bO1 0
 have hc9_1 := aA bO1 1
 have hf9_1 := aD bO1 1
 have hc9_2 := aA bO1 2
 have hf9_2 := aD bO1 2
 refine last_ (i := 9) (N := none) (Steps.Bs 10 1023) rfl rfl z1_ z10_ (fun K hK => ?_)
 refine skip_ (w1 := ?_) z12_ rfl ?_ ?_
 rotate_left
 ·
  go_simp
  rfl
 refine hK.out _ _ ?_
 clear hK K
 obtain ⟨V, hV, hbV, bOV, hkeep⟩ := storeS hb1 z5_ bO1 (.slice Au d.f0.length cu) (.int .i64 d.f1) (.int .i64 d.f2)
 have hruV : (Kd.int .i64).R 3 V w.heap.size (fun k_ => w.heap.size + 4 ≤ k_ ∧ k_ ≠ go) (.slice Au d.f0.length cu) d.f0 := dO hru (fun k hk _ => hkeep k hk.2)
 rw [← hV]
 have bXV := (hkeep (w.heap.size) z5_).trans bX1
 have bRV := (hkeep (w.heap.size + 1) z5_).trans bR1
 have bNV := (hkeep (w.heap.size + 1 + 1) z5_).trans bN1
 have bAV := (hkeep (w.heap.size + 1 + 1 + 1) z5_).trans bA1
 clear hV hkeep hru hc9_0 hc9_1 hc9_2 hf9_0 hf9_1 hf9_2 bX1 bR1 bN1 bA1 bO1 hb1 bX0 bR0 bN0 bA0 hb0 hHeld0 hl0
 refine done_ z1_ ?_
 have hO0V := aA bOV
 have hR0V := aA bRV
 have fO0V := aD bOV
 have fR0V := aD bRV
 have hX0V := aA bXV
 have hA0V := aA bAV 0
 have fA0V := aD bAV 0
 have hdw : decide ((1125899906842624 : Int) < d.f1) = false := decide_eq_false (by have h : d.f1 ≤ 1125899906842624 := HDO.out.w2; omega)
 have hdv : decide ((1152921504606846976 : Int) < d.f2) = false := decide_eq_false (by have h : d.f2 ≤ 1152921504606846976 := HDO.out.v2; omega)
 by_cases hp : places x.f5 d.f0.length = true
 case neg =>
  obtain rfl : (zN, (1 : Int)) = r := by rw [← HZ.out, if_neg hp]
  clear HZ
  go_wp2_with (first | (go_at_call 37; refine (PAll.raddleref14_pick.calls (x.f5.length + 1) B c d.f0 A5 c5 x.f5 [] false V (aN HCB.out hbV) HLC.out (aN HC5.out hbV) HC5L.out (by rw [eT _ d.f0 x.f5 (by have h : d.f0.length ≤ 12 := HDO.out.len; omega) (by have := HL5.out; omega) z5_, if_neg hp])).mono ?_; rintro e V1 ⟨u2, rfl, hr2, hq⟩; obtain ⟨A7, c7, rfl⟩ := bE hr2; have hbV1 := aG hbV hq; have bXV1 := aC bXV hq; have bRV1 := aC bRV hq; have bNV1 := aC bNV hq; have bAV1 := aC bAV hq; have bOV1 := aC bOV hq; have hO0V1 := aA bOV1; have hR0V1 := aA bRV1; have hN0V1 := aA bNV1; have fO0V1 := aD bOV1; have fR0V1 := aD bRV1; have fN0V1 := aD bNV1; have hX10V1 := aA bXV1 10; have sR0 := fun v i => aA (setO (g := go) (j := 0) bRV1 z5_ v) i; have tR0 := fun v i => aD (setO (g := go) (j := 0) bRV1 z5_ v) i; have sN0 := fun v i => aA (setO (g := go) (j := 0) bNV1 z5_ v) i; have tN0 := fun v i => aD (setO (g := go) (j := 0) bNV1 z5_ v) i; have sX10 := fun v => aA (setO (g := go) (j := 0) bXV1 z5_ v) 10; have tX10 := fun v => aD (setO (g := go) (j := 0) bXV1 z5_ v) 10; have sO1 := fun v i => aA (bS (j := 0) bOV1 v) i; have tO1 := fun v i => aD (bS (j := 0) bOV1 v) i))
  refine bodyPost_ret (aT rfl _ _ _ 49 #[.slice none 0 0, .int .i64 0, .int .i64 0] (0, 0) _ rfl (blkS (setO (g := go) (j := 0) bRV1 z5_ _) _ _ _) Try.underlying49 rfl z1_) rfl ?_
  exact GotB.zero (aI (aI (aI (aI hbV1 z5_) z5_) z5_) z5_)
 have HZ2 := mk_ (HZ.out.symm.trans (if_pos hp))
 clear HZ
 by_cases h12 : x.f5.length > 12
 case pos =>
  obtain rfl : (zN, (2 : Int)) = r := by rw [HZ2.out, if_pos h12]
  have hd1 : decide ((12 : Int) < (x.f5.length : Int)) = true := decide_eq_true z5_
  have hd2 : decide (12 < x.f5.length) = true := decide_eq_true h12
  clear h12
  go_wp2_with (first | (go_at_call 37; refine (PAll.raddleref14_pick.calls (x.f5.length + 1) B c d.f0 A5 c5 x.f5 (pick d.f0 x.f5) true V (aN HCB.out hbV) HLC.out (aN HC5.out hbV) HC5L.out (by rw [eT _ d.f0 x.f5 (by have h : d.f0.length ≤ 12 := HDO.out.len; omega) (by have := HL5.out; omega) z5_, if_pos hp])).mono ?_; rintro e V1 ⟨u2, rfl, hr2, hq⟩; obtain ⟨A7, c7, rfl⟩ := bE hr2; have hbV1 := aG hbV hq; have bXV1 := aC bXV hq; have bRV1 := aC bRV hq; have bNV1 := aC bNV hq; have bAV1 := aC bAV hq; have bOV1 := aC bOV hq; have hO0V1 := aA bOV1; have hR0V1 := aA bRV1; have hN0V1 := aA bNV1; have fO0V1 := aD bOV1; have fR0V1 := aD bRV1; have fN0V1 := aD bNV1; have hX10V1 := aA bXV1 10; have sR0 := fun v i => aA (setO (g := go) (j := 0) bRV1 z5_ v) i; have tR0 := fun v i => aD (setO (g := go) (j := 0) bRV1 z5_ v) i; have sN0 := fun v i => aA (setO (g := go) (j := 0) bNV1 z5_ v) i; have tN0 := fun v i => aD (setO (g := go) (j := 0) bNV1 z5_ v) i; have sX10 := fun v => aA (setO (g := go) (j := 0) bXV1 z5_ v) 10; have tX10 := fun v => aD (setO (g := go) (j := 0) bXV1 z5_ v) 10; have sO1 := fun v i => aA (bS (j := 0) bOV1 v) i; have tO1 := fun v i => aD (bS (j := 0) bOV1 v) i))
  refine bodyPost_ret (aT rfl _ _ _ 49 #[.slice none 0 0, .int .i64 0, .int .i64 0] (0, 0) _ rfl (blkS (setO (g := go) (j := 0) bRV1 z5_ _) _ _ _) Try.underlying49 rfl z1_) rfl ?_
  exact GotB.zero (aI (aI (aI (aI hbV1 z5_) z5_) z5_) z5_)
 obtain rfl : ((pick d.f0 x.f5, (d.f1, d.f2)), (0 : Int)) = r := by rw [HZ2.out, if_neg h12]
 have hd1 : decide ((12 : Int) < (x.f5.length : Int)) = false := decide_eq_false z5_
 have hd2 : decide (12 < x.f5.length) = false := decide_eq_false h12
 clear h12
 go_wp2_with (first | (go_at_call 37; refine (PAll.raddleref14_pick.calls (x.f5.length + 1) B c d.f0 A5 c5 x.f5 (pick d.f0 x.f5) true V (aN HCB.out hbV) HLC.out (aN HC5.out hbV) HC5L.out (by rw [eT _ d.f0 x.f5 (by have h : d.f0.length ≤ 12 := HDO.out.len; omega) (by have := HL5.out; omega) z5_, if_pos hp])).mono ?_; rintro e V1 ⟨u2, rfl, hr2, hq⟩; obtain ⟨A7, c7, rfl⟩ := bE hr2; have hbV1 := aG hbV hq; have bXV1 := aC bXV hq; have bRV1 := aC bRV hq; have bNV1 := aC bNV hq; have bAV1 := aC bAV hq; have bOV1 := aC bOV hq; have hO0V1 := aA bOV1; have hR0V1 := aA bRV1; have hN0V1 := aA bNV1; have fO0V1 := aD bOV1; have fR0V1 := aD bRV1; have fN0V1 := aD bNV1; have hX10V1 := aA bXV1 10; have sR0 := fun v i => aA (setO (g := go) (j := 0) bRV1 z5_ v) i; have tR0 := fun v i => aD (setO (g := go) (j := 0) bRV1 z5_ v) i; have sN0 := fun v i => aA (setO (g := go) (j := 0) bNV1 z5_ v) i; have tN0 := fun v i => aD (setO (g := go) (j := 0) bNV1 z5_ v) i; have sX10 := fun v => aA (setO (g := go) (j := 0) bXV1 z5_ v) 10; have tX10 := fun v => aD (setO (g := go) (j := 0) bXV1 z5_ v) 10; have sO1 := fun v i => aA (bS (j := 0) bOV1 v) i; have tO1 := fun v i => aD (bS (j := 0) bOV1 v) i))
 refine bodyPost_ret (aT rfl _ _ _ 49 #[.slice A7 (pick d.f0 x.f5).length c7, .int .i64 d.f1, .int .i64 d.f2] (0, 0) _ rfl (blkS (setO (g := go) (j := 0) bRV1 z5_ _) _ _ _) Try.underlying49 rfl z1_) rfl ?_
 have hlo := aV bOV
 have hru1 : (Kd.int .i64).R 3 V1 w.heap.size (fun k => w.heap.size + 4 ≤ k ∧ k ≠ go) (.slice A7 (pick d.f0 x.f5).length c7) (pick d.f0 x.f5) := bT (R_mono (cF hr2) (fun k hk => ⟨by have := hk.2.1; omega, by have := hk.2.1; omega⟩)) z5_
 exact GotB.stored (d := (pick d.f0 x.f5, d.f1, d.f2)) (R_mono (R_far hru1 (p := ⟨go, 0, none⟩) (fun k hk => hk.2) _) (fun k hk => hk.1)) (aI hbV1 z5_) _ _ _
end
end Go.Proofs.Ytimbbaoodjhdoaa.Plan
end
