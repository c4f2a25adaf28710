-- Put together by a program of this session (wip/slice2.py) out of the seat's texts.
import Derived.Test.YtimbbaoodjhdoaaZPTp6

set_option maxHeartbeats 8000000
set_option maxRecDepth 100000
open Go.Proofs.YtimbbaoodjhdoaaW Go.Proofs.Ytimbbaoodjhdoaa
section
namespace Go.Proofs.Ytimbbaoodjhdoaa.Plan
open Go.RowKit PAll Plain PrintWords PrintLast PrintMore ZipT PrintWords.Kd PrintMore.Kd
set_option linter.unusedVariables false
set_option linter.unusedSimpArgs false
theorem two_rows {w : World} {G : Nat} {B B2 : Option Addr} {a b : List Int} {c c2 : Nat} (hG : w.heap[G]? = some (.cells #[.slice B a.length c, .slice B2 b.length c2] 32 (0, 0))) (h1 : (Kd.int .i64).C w B a.length a) (l1 : a.length ≤ c) (h2 : (Kd.int .i64).C w B2 b.length b) (l2 : b.length ≤ c2) :
  kRw.C w (some ⟨G, 0, none⟩) 2 [a, b] := by
 refine ⟨rfl, by decide, fun _ => ⟨_, rfl, fun j p hj => ?_⟩⟩
 rcases j with _ | _ | j
 ·
  obtain rfl : a = p := Option.some.inj hj
  refine ⟨[.slice B a.length c], rfl, ⟨B, c, rfl, l1, h1⟩, fun i u hu => ?_⟩
  rcases i with _ | i
  ·
   obtain rfl := Option.some.inj hu
   exact aA hG 0
  ·
   simp at hu
 ·
  obtain rfl : b = p := Option.some.inj hj
  refine ⟨[.slice B2 b.length c2], rfl, ⟨B2, c2, rfl, l2, h2⟩, fun i u hu => ?_⟩
  rcases i with _ | i
  ·
   obtain rfl := Option.some.inj hu
   exact aA hG 1
  ·
   simp at hu
 ·
  simp at hj
section
variable {w : World} {g base : Nat} {ok : Nat → Prop} {A0 : Option Addr} {c0 : Nat} {f : List Tb} {v : Value} {ds : List Nd} {x : No} {A5 A6 : Option Addr} {c5 c6 : Nat}
set_option maxHeartbeats 4000000 in
theorem join_calls (h : Wk w g base ok A0 c0 f v ds) (hl : ds.length ≤ 1000) (hds : ∀ d ∈ ds, NdOk d) (hC5 : Kd.C (Kd.int .i64) w A5 x.f5.length x.f5) (hC5L : x.f5.length ≤ c5) (hL5 : x.f5.length ≤ 1000) (hC6 : Kd.C (Kd.int .i64) w A6 x.f6.length x.f6) (hC6L : x.f6.length ≤ c6) (hL6 : x.f6.length ≤ 1000):
  Calls Try.prog 52 #[.pointer (some ⟨g, 0, none⟩), .agg #[.int .i64 x.f0, .int .i64 x.f1, .int .i64 x.f2, .int .i64 x.f3, .int .i64 x.f4.f0, .int .i64 x.f4.f1, .int .i64 x.f4.f2, .int .i64 x.f4.f3.f0, .int .i64 x.f4.f3.f1, .string x.f4.f3.f2, .slice A5 x.f5.length c5, .slice A6 x.f6.length c6, .int .i64 x.f7, .int .i64 x.f8]] w (Got w base ok v (joinN ds x)) := by
 have HW := mk_ h
 have HC5 := mk_ hC5
 have HC5L := mk_ hC5L
 have HL5 := mk_ hL5
 have HC6 := mk_ hC6
 have HC6L := mk_ hC6L
 have HL6 := mk_ hL6
 clear hC5 hC5L hL5 hC6 hC6L hL6
 unfold joinN
 by_cases ha : ahead ds x.f1 = true
 case neg =>
  rw [if_neg (fun e => ha e.1)]
  have HA := mk_ (Bool.eq_false_iff.2 ha)
  clear h ha
  go_enter Try.func52, Try.ntmps52
  go_wp2_with (first | (go_at_call 58; refine (cE (HW.out.below z0_) z5_ _).mono ?_; rw [HA.out]; rintro e w' ⟨rfl, hw'⟩; subst hw'))
  refine bodyPost_ret (aT rfl _ _ _ 66 #[.slice none 0 0, .int .i64 0, .int .i64 0] (0, 0) _ rfl z3_ Try.underlying66 rfl z1_) rfl ?_
  exact Got.zero z0_
 by_cases ha2 : ahead ds x.f2 = true
 case neg =>
  rw [if_neg (fun e => ha2 e.2)]
  have HA := mk_ ha
  have HA2 := mk_ (Bool.eq_false_iff.2 ha2)
  clear h ha ha2
  go_enter Try.func52, Try.ntmps52
  go_wp2_with (first | (go_at_call 58; (with_reducible show Calls _ _ #[_, .int .i64 (x.f1)] _ _); refine (cE (HW.out.below z0_) z5_ _).mono ?_; rw [HA.out]; rintro e w' ⟨rfl, hw'⟩; subst hw') | (go_at_call 58; (with_reducible show Calls _ _ #[_, .int .i64 (x.f2)] _ _); refine (cE (HW.out.below z0_) z5_ _).mono ?_; rw [HA2.out]; rintro e w' ⟨rfl, hw'⟩; subst hw'))
  refine bodyPost_ret (aT rfl _ _ _ 66 #[.slice none 0 0, .int .i64 0, .int .i64 0] (0, 0) _ rfl z3_ Try.underlying66 rfl z1_) rfl ?_
  exact Got.zero z0_
 rw [if_pos ⟨ha, ha2⟩]
 obtain ⟨k, hk⟩ := Int.eq_ofNat_of_zero_le (of_decide_eq_true ha).1
 obtain ⟨k2, hk2⟩ := Int.eq_ofNat_of_zero_le (of_decide_eq_true ha2).1
 rw [hk] at ha ⊢
 rw [hk2] at ha2 ⊢
 obtain ⟨hk0, hk1⟩ : 0 ≤ (k : Int) ∧ (k : Int) < (ds.length : Int) := of_decide_eq_true ha
 obtain ⟨hk20, hk21⟩ : 0 ≤ (k2 : Int) ∧ (k2 : Int) < (ds.length : Int) := of_decide_eq_true ha2
 obtain ⟨gd, cap, B, c, hv, hcap, hc, h0, h1, h2, h3, h4, hC, hR⟩ := h.elem k z5_
 obtain ⟨gd_, cap_, B2, c2, hv_, _, hc2, _, h1_, h5, h6, h7, hC2, hR2⟩ := h.elem k2 z5_
 obtain ⟨rfl, rfl⟩ : gd_ = gd ∧ cap_ = cap := by
  rw [hv] at hv_
  injection hv_ with e1 _ e2
  injection e1 with e1
  injection e1 with e1
  exact ⟨e1.symm, e2.symm⟩
 have hb0 : (0 ≤ (k : Int)) = True := eq_true hk0
 have hb1 : ((k : Int) < (ds.length : Int)) = True := eq_true hk1
 have hb2 : (0 ≤ (k2 : Int)) = True := eq_true hk20
 have hb3 : ((k2 : Int) < (ds.length : Int)) = True := eq_true hk21
 have hok1 := cY hds ha
 have HL12 := mk_ hok1.len
 have hok2 := cY hds ha2
 have h1' := al2 h1
 have h1'' := al3 h1
 have h1''' := al4 h1
 have h2' := al2 h2
 have h2'' := al3 h2
 have h2''' := al4 h2
 have h3' := al2 h3
 have h3'' := al3 h3
 have h3''' := al4 h3
 have h4' := al2 h4
 have h4'' := al3 h4
 have h4''' := al4 h4
 have h5' := al2 h5
 have h5'' := al3 h5
 have h5''' := al4 h5
 have h6' := al2 h6
 have h6'' := al3 h6
 have h6''' := al4 h6
 have h7' := al2 h7
 have h7'' := al3 h7
 have h7''' := al4 h7
 have HR := mk_ hR
 have HC := mk_ hC
 have HCC := mk_ hc
 have HA := mk_ ha
 have HR2 := mk_ hR2
 have HC2 := mk_ hC2
 have HCC2 := mk_ hc2
 have HA2 := mk_ ha2
 have HL122 := mk_ hok2.len
 clear h hC hR hC2 hR2 hk0 hk1 hk20 hk21 ha ha2 hc hc2 hcap hk hk2 h1_ hv_ hv
 generalize nth ds (k : Int) = d at *
 generalize nth ds (k2 : Int) = d2 at *
 have HO1 := mk_ hok1
 have HO2 := mk_ hok2
 clear hok1 hok2
 generalize hz : (if places x.f5 d.1.length = true ∧ places x.f6 d2.1.length = true then _ else _ : Nd × Int) = r
 have HZ := mk_ hz
 clear hz
 go_enter Try.func52, Try.ntmps52
 go_wp2_with (first | (go_at_call 58; (with_reducible show Calls _ _ #[_, .int .i64 ((k : Int))] _ _); refine (cE (HW.out.below z0_) z5_ _).mono ?_; rw [HA.out]; rintro e w' ⟨rfl, hw'⟩; subst hw') | (go_at_call 58; (with_reducible show Calls _ _ #[_, .int .i64 ((k2 : Int))] _ _); refine (cE (HW.out.below z0_) z5_ _).mono ?_; rw [HA2.out]; rintro e w' ⟨rfl, hw'⟩; subst hw'))
 refine cG (n := 20) (S := fun w' => w'.cell? ⟨g, 1, none⟩ = some (.slice (some ⟨gd_, 0, none⟩) ds.length cap_) ∧ w'.cell? ⟨w.heap.size, 1, none⟩ = some (.int .i64 (k : Int)) ∧ w'.cell? ⟨w.heap.size, 2, none⟩ = some (.int .i64 (k2 : Int)) ∧ w'.cell? ⟨gd_, k * 3, none⟩ = some (.slice B d.1.length c) ∧ w'.cell? ⟨gd_, k * 3 + 1, none⟩ = some (.int .i64 d.2.1) ∧ w'.cell? ⟨gd_, k * 3 + 2, none⟩ = some (.int .i64 d.2.2) ∧ w'.cell? ⟨gd_, k2 * 3, none⟩ = some (.slice B2 d2.1.length c2) ∧ w'.cell? ⟨gd_, k2 * 3 + 1, none⟩ = some (.int .i64 d2.2.1) ∧ w'.cell? ⟨gd_, k2 * 3 + 2, none⟩ = some (.int .i64 d2.2.2) ∧ True) (ds := [19]) (fun W => Below w.heap.size w W ∧ W.heap[w.heap.size]? = some (.cells #[.int .i64 x.f0, .int .i64 (k : Int), .int .i64 (k2 : Int), .int .i64 x.f3, .int .i64 x.f4.f0, .int .i64 x.f4.f1, .int .i64 x.f4.f2, .int .i64 x.f4.f3.f0, .int .i64 x.f4.f3.f1, .string x.f4.f3.f2, .slice A5 x.f5.length c5, .slice A6 x.f6.length c6, .int .i64 x.f7, .int .i64 x.f8] 34 (0, 0)) ∧ W.heap[w.heap.size + 1]? = some (.cells #[.slice none 0 0, .int .i64 0, .int .i64 0] 66 (0, 0))) (Steps.Bs 20 0) z1_ rfl rfl ⟨z0_, z3_, z3_⟩ (fun W hJ => ?_) (fun W0 hJ => ?_)
 ·
  obtain ⟨hb0, bX0, bR0⟩ := hJ
  exact ⟨aE hb0 h1, aA bX0 1, aA bX0 2, aE hb0 h2, aE hb0 h3, aE hb0 h4, aE hb0 h5, aE hb0 h6, aE hb0 h7, trivial⟩
 obtain ⟨hb0, bX0, bR0⟩ := hJ
 have hHeld0 : W0.cell? ⟨g, 1, none⟩ = some (.slice (some ⟨gd_, 0, none⟩) ds.length cap_) ∧ W0.cell? ⟨w.heap.size, 1, none⟩ = some (.int .i64 (k : Int)) ∧ W0.cell? ⟨w.heap.size, 2, none⟩ = some (.int .i64 (k2 : Int)) ∧ W0.cell? ⟨gd_, k * 3, none⟩ = some (.slice B d.1.length c) ∧ W0.cell? ⟨gd_, k * 3 + 1, none⟩ = some (.int .i64 d.2.1) ∧ W0.cell? ⟨gd_, k * 3 + 2, none⟩ = some (.int .i64 d.2.2) ∧ W0.cell? ⟨gd_, k2 * 3, none⟩ = some (.slice B2 d2.1.length c2) ∧ W0.cell? ⟨gd_, k2 * 3 + 1, none⟩ = some (.int .i64 d2.2.1) ∧ W0.cell? ⟨gd_, k2 * 3 + 2, none⟩ = some (.int .i64 d2.2.2) ∧ True := ⟨aE hb0 h1, aA bX0 1, aA bX0 2, aE hb0 h2, aE hb0 h3, aE hb0 h4, aE hb0 h5, aE hb0 h6, aE hb0 h7, trivial⟩
 have hl0 : w.heap.size + 2 ≤ W0.heap.size := aV bR0
 refine sI 0 23 20 1 ?_
 refine sI 1 24 20 3 ?_
 refine sI 2 25 20 7 ?_
 refine sT hHeld0 3 26 20 15 ?_
 refine sI 4 27 20 31 ?_
 refine sT hHeld0 5 28 20 63 ?_
 refine sI 6 29 20 127 ?_
 refine sT hHeld0 7 30 20 255 ?_
 refine sI 8 31 20 511 ?_
 refine sI 9 32 20 1023 ?_
 refine sI 10 33 20 2047 ?_
 refine sT hHeld0 11 34 20 4095 ?_
 refine sI 12 35 20 8191 ?_
 refine sT hHeld0 13 36 20 16383 ?_
 refine sI 14 37 20 32767 ?_
 refine sT hHeld0 15 38 20 65535 ?_
 refine join_ (σ := Nat × Nat) 2 (Steps.Bs 20 262143) (fun s_ => [(6, .pointer (some ⟨s_.1, 0, none⟩)), (7, .pointer (some ⟨s_.2, 0, none⟩))]) (fun s_ w' => Below w.heap.size w w' ∧ w'.heap[w.heap.size]? = some (.cells #[.int .i64 x.f0, .int .i64 (k : Int), .int .i64 (k2 : Int), .int .i64 x.f3, .int .i64 x.f4.f0, .int .i64 x.f4.f1, .int .i64 x.f4.f2, .int .i64 x.f4.f3.f0, .int .i64 x.f4.f3.f1, .string x.f4.f3.f2, .slice A5 x.f5.length c5, .slice A6 x.f6.length c6, .int .i64 x.f7, .int .i64 x.f8] 34 (0, 0)) ∧ w'.heap[w.heap.size + 1]? = some (.cells #[.slice none 0 0, .int .i64 0, .int .i64 0] 66 (0, 0)) ∧ w'.heap[s_.1]? = some (.cells #[.slice none 0 0, .int .i64 0, .int .i64 0] 66 (0, 0)) ∧ w'.heap[s_.2]? = some (.cells #[.slice none 0 0, .int .i64 0, .int .i64 0] 66 (0, 0)) ∧ w.heap.size + 2 ≤ s_.1 ∧ w.heap.size + 2 ≤ s_.2 ∧ s_.1 ≠ s_.2) ?_ ?_
 rotate_left
 ·
  intro hCont
  refine two_ (i := 16) (j := 17) (Ni := some 6) (Nj := some 7) (Steps.Bs 20 131071) (Steps.Bs 20 196607) rfl rfl rfl rfl z1_ z10_ z10_ (fun K hK => ?_) (fun K hK => ?_)
  ·
   refine cK z12_ (N := 6) rfl (cs := #[.slice none 0 0, .int .i64 0, .int .i64 0]) (t := 66) z11_ ?_
   intro g6 hg6 w1 bA1 hq1
   have bX1 := aC bX0 hq1
   have bR1 := aC bR0 hq1
   have hb1 := aG hb0 hq1
   have hg6' : w.heap.size + 2 ≤ g6 := by rw [hg6]; exact hl0
   have hHeld1 : w1.cell? ⟨g, 1, none⟩ = some (.slice (some ⟨gd_, 0, none⟩) ds.length cap_) ∧ w1.cell? ⟨w.heap.size, 1, none⟩ = some (.int .i64 (k : Int)) ∧ w1.cell? ⟨w.heap.size, 2, none⟩ = some (.int .i64 (k2 : Int)) ∧ w1.cell? ⟨gd_, k * 3, none⟩ = some (.slice B d.1.length c) ∧ w1.cell? ⟨gd_, k * 3 + 1, none⟩ = some (.int .i64 d.2.1) ∧ w1.cell? ⟨gd_, k * 3 + 2, none⟩ = some (.int .i64 d.2.2) ∧ w1.cell? ⟨gd_, k2 * 3, none⟩ = some (.slice B2 d2.1.length c2) ∧ w1.cell? ⟨gd_, k2 * 3 + 1, none⟩ = some (.int .i64 d2.2.1) ∧ w1.cell? ⟨gd_, k2 * 3 + 2, none⟩ = some (.int .i64 d2.2.2) ∧ True := ⟨aE hb1 h1, aA bX1 1, aA bX1 2, aE hb1 h2, aE hb1 h3, aE hb1 h4, aE hb1 h5, aE hb1 h6, aE hb1 h7, trivial⟩
   refine hK.out _ _ hHeld1 (fun _ => ?_)
   clear hK K
   refine nrm 6 ?_
   refine one_ (i := 17) (N := some 7) (Steps.Bs 20 262143) rfl rfl z1_ z10_ (fun K hK => ?_)
   refine cK z12_ (N := 7) rfl (cs := #[.slice none 0 0, .int .i64 0, .int .i64 0]) (t := 66) z11_ ?_
   intro g7 hg7 w2 bB2 hq2
   have bX2 := aC bX1 hq2
   have bR2 := aC bR1 hq2
   have bA2 := aC bA1 hq2
   have hb2 := aG hb1 hq2
   have hlt := aV bA1
   have hHeld2 : w2.cell? ⟨g, 1, none⟩ = some (.slice (some ⟨gd_, 0, none⟩) ds.length cap_) ∧ w2.cell? ⟨w.heap.size, 1, none⟩ = some (.int .i64 (k : Int)) ∧ w2.cell? ⟨w.heap.size, 2, none⟩ = some (.int .i64 (k2 : Int)) ∧ w2.cell? ⟨gd_, k * 3, none⟩ = some (.slice B d.1.length c) ∧ w2.cell? ⟨gd_, k * 3 + 1, none⟩ = some (.int .i64 d.2.1) ∧ w2.cell? ⟨gd_, k * 3 + 2, none⟩ = some (.int .i64 d.2.2) ∧ w2.cell? ⟨gd_, k2 * 3, none⟩ = some (.slice B2 d2.1.length c2) ∧ w2.cell? ⟨gd_, k2 * 3 + 1, none⟩ = some (.int .i64 d2.2.1) ∧ w2.cell? ⟨gd_, k2 * 3 + 2, none⟩ = some (.int .i64 d2.2.2) ∧ True := ⟨aE hb2 h1, aA bX2 1, aA bX2 2, aE hb2 h2, aE hb2 h3, aE hb2 h4, aE hb2 h5, aE hb2 h6, aE hb2 h7, trivial⟩
   refine hK.out _ _ hHeld2 (fun _ => ?_)
   clear hK K
   exact hCont (g6, g7) w2 ⟨hb2, bX2, bR2, bA2, bB2, hg6', by omega, by show g6 ≠ g7; omega⟩
  ·
   refine cK z12_ (N := 7) rfl (cs := #[.slice none 0 0, .int .i64 0, .int .i64 0]) (t := 66) z11_ ?_
   intro g6 hg6 w1 bA1 hq1
   have bX1 := aC bX0 hq1
   have bR1 := aC bR0 hq1
   have hb1 := aG hb0 hq1
   have hg6' : w.heap.size + 2 ≤ g6 := by rw [hg6]; exact hl0
   have hHeld1 : w1.cell? ⟨g, 1, none⟩ = some (.slice (some ⟨gd_, 0, none⟩) ds.length cap_) ∧ w1.cell? ⟨w.heap.size, 1, none⟩ = some (.int .i64 (k : Int)) ∧ w1.cell? ⟨w.heap.size, 2, none⟩ = some (.int .i64 (k2 : Int)) ∧ w1.cell? ⟨gd_, k * 3, none⟩ = some (.slice B d.1.length c) ∧ w1.cell? ⟨gd_, k * 3 + 1, none⟩ = some (.int .i64 d.2.1) ∧ w1.cell? ⟨gd_, k * 3 + 2, none⟩ = some (.int .i64 d.2.2) ∧ w1.cell? ⟨gd_, k2 * 3, none⟩ = some (.slice B2 d2.1.length c2) ∧ w1.cell? ⟨gd_, k2 * 3 + 1, none⟩ = some (.int .i64 d2.2.1) ∧ w1.cell? ⟨gd_, k2 * 3 + 2, none⟩ = some (.int .i64 d2.2.2) ∧ True := ⟨aE hb1 h1, aA bX1 1, aA bX1 2, aE hb1 h2, aE hb1 h3, aE hb1 h4, aE hb1 h5, aE hb1 h6, aE hb1 h7, trivial⟩
   refine hK.out _ _ hHeld1 (fun _ => ?_)
   clear hK K
   refine nrm 7 ?_
   refine one_ (i := 16) (N := some 6) (Steps.Bs 20 262143) rfl rfl z1_ z10_ (fun K hK => ?_)
   refine cK z12_ (N := 6) rfl (cs := #[.slice none 0 0, .int .i64 0, .int .i64 0]) (t := 66) z11_ ?_
   intro g7 hg7 w2 bB2 hq2
   have bX2 := aC bX1 hq2
   have bR2 := aC bR1 hq2
   have bA2 := aC bA1 hq2
   have hb2 := aG hb1 hq2
   have hlt := aV bA1
   have hHeld2 : w2.cell? ⟨g, 1, none⟩ = some (.slice (some ⟨gd_, 0, none⟩) ds.length cap_) ∧ w2.cell? ⟨w.heap.size, 1, none⟩ = some (.int .i64 (k : Int)) ∧ w2.cell? ⟨w.heap.size, 2, none⟩ = some (.int .i64 (k2 : Int)) ∧ w2.cell? ⟨gd_, k * 3, none⟩ = some (.slice B d.1.length c) ∧ w2.cell? ⟨gd_, k * 3 + 1, none⟩ = some (.int .i64 d.2.1) ∧ w2.cell? ⟨gd_, k * 3 + 2, none⟩ = some (.int .i64 d.2.2) ∧ w2.cell? ⟨gd_, k2 * 3, none⟩ = some (.slice B2 d2.1.length c2) ∧ w2.cell? ⟨gd_, k2 * 3 + 1, none⟩ = some (.int .i64 d2.2.1) ∧ w2.cell? ⟨gd_, k2 * 3 + 2, none⟩ = some (.int .i64 d2.2.2) ∧ True := ⟨aE hb2 h1, aA bX2 1, aA bX2 2, aE hb2 h2, aE hb2 h3, aE hb2 h4, aE hb2 h5, aE hb2 h6, aE hb2 h7, trivial⟩
   refine hK.out _ _ hHeld2 (fun _ => ?_)
   clear hK K
   exact hCont (g7, g6) w2 ⟨hb2, bX2, bR2, bB2, bA2, by show _ ≤ g7; omega, hg6', by show g7 ≠ g6; omega⟩
 rintro ⟨g6, g7⟩ W1 ⟨hb1, bX1, bR1, bA1, bB1, hg6, hg7, hne⟩
 replace bA1 : W1.heap[g6]? = some (.cells #[.slice none 0 0, .int .i64 0, .int .i64 0] 66 (0, 0)) := bA1
 replace bB1 : W1.heap[g7]? = some (.cells #[.slice none 0 0, .int .i64 0, .int .i64 0] 66 (0, 0)) := bB1
 replace hg6 : w.heap.size + 2 ≤ g6 := hg6
 replace hg7 : w.heap.size + 2 ≤ g7 := hg7
 replace hne : g6 ≠ g7 := hne
 refine norm_ (a' := ?_) ?_ ?_
 rotate_left
 ·
  simp only [putAll, Act.put, List.setIfInBounds_toArray, List.set_cons_zero, List.set_cons_succ]
  rfl
 have hc18_0 := aA bA1 0
 have hf18_0 := aD bA1 0
 have hc18_1 := aA bA1 1
 have hf18_1 := aD bA1 1
 have hc18_2 := aA bA1 2
 have hf18_2 := aD bA1 2
 refine one_ (i := 18) (N := none) (Steps.Bs 20 524287) rfl rfl z1_ z10_ (fun K hK => ?_)
 refine skip_ (w1 := ?_) z12_ rfl ?_ ?_
 rotate_left
 ·
  go_simp
  rfl
 obtain ⟨V1, hV1, hbV1, bAV1, hkeep1⟩ := storeS hb1 z5_ bA1 (.slice B d.1.length c) (.int .i64 d.2.1) (.int .i64 d.2.2)
 rw [← hV1]
 have bXV1 := (hkeep1 w.heap.size z5_).trans bX1
 have bRV1 := (hkeep1 (w.heap.size + 1) z5_).trans bR1
 have bBV1 := (hkeep1 g7 (fun e => hne e.symm)).trans bB1
 have hHeldV : V1.cell? ⟨g, 1, none⟩ = some (.slice (some ⟨gd_, 0, none⟩) ds.length cap_) ∧ V1.cell? ⟨w.heap.size, 1, none⟩ = some (.int .i64 (k : Int)) ∧ V1.cell? ⟨w.heap.size, 2, none⟩ = some (.int .i64 (k2 : Int)) ∧ V1.cell? ⟨gd_, k * 3, none⟩ = some (.slice B d.1.length c) ∧ V1.cell? ⟨gd_, k * 3 + 1, none⟩ = some (.int .i64 d.2.1) ∧ V1.cell? ⟨gd_, k * 3 + 2, none⟩ = some (.int .i64 d.2.2) ∧ V1.cell? ⟨gd_, k2 * 3, none⟩ = some (.slice B2 d2.1.length c2) ∧ V1.cell? ⟨gd_, k2 * 3 + 1, none⟩ = some (.int .i64 d2.2.1) ∧ V1.cell? ⟨gd_, k2 * 3 + 2, none⟩ = some (.int .i64 d2.2.2) ∧ True := ⟨aE hbV1 h1, aA bXV1 1, aA bXV1 2, aE hbV1 h2, aE hbV1 h3, aE hbV1 h4, aE hbV1 h5, aE hbV1 h6, aE hbV1 h7, trivial⟩
 refine hK.out _ _ hHeldV (fun _ => ?_)
 clear hK K hHeldV
 clear hV1 hkeep1
 have hc19_0 := aA bBV1 0
 have hf19_0 := aD bBV1 0
 have hc19_1 := aA bBV1 1
 have hf19_1 := aD bBV1 1
 have hc19_2 := aA bBV1 2
 have hf19_2 := aD bBV1 2
 refine last_ (i := 19) (N := none) (Steps.Bs 20 1048575) rfl rfl z1_ z10_ (fun K hK => ?_)
 refine skip_ (w1 := ?_) z12_ rfl ?_ ?_
 rotate_left
 ·
  go_simp
  rfl
 refine hK.out _ _ ?_
 clear hK K
 obtain ⟨V, hV, hbV, bBV, hkeep⟩ := storeS hbV1 z5_ bBV1 (.slice B2 d2.1.length c2) (.int .i64 d2.2.1) (.int .i64 d2.2.2)
 rw [← hV]
 have bXV := (hkeep w.heap.size z5_).trans bXV1
 have bRV := (hkeep (w.heap.size + 1) z5_).trans bRV1
 have bAV := (hkeep g6 hne).trans bAV1
 clear hV hkeep bXV1 bRV1 bAV1 bBV1 hbV1 hc18_0 hc18_1 hc18_2 hf18_0 hf18_1 hf18_2 hc19_0 hc19_1 hc19_2 hf19_0 hf19_1 hf19_2 bX1 bR1 bA1 bB1 hb1 hHeld0
 refine done_ z1_ ?_
 have hA0V := aA bAV
 have hB0V := aA bBV
 have hR0V := aA bRV
 have hX10V := aA bXV
 have fA0V := aD bAV
 have fB0V := aD bBV
 have fR0V := aD bRV
 have fX10V := aD bXV
 by_cases hp : places x.f5 d.1.length = true
 case neg =>
  obtain rfl : (zN, (1 : Int)) = r := by rw [← HZ.out, if_neg (fun e => hp e.1)]
  have HP := mk_ (Bool.eq_false_iff.2 hp)
  clear hp
  go_wp2_with (first | (go_at_call 60; (with_reducible show Calls _ _ #[.slice A5 _ _, _] V _); refine (bQ A5 c5 x.f5 d.1.length V (aN HC5.out hbV) HC5L.out (by have := HL5.out; omega)).mono ?_; rw [HP.out]; rintro e V1 ⟨rfl, hq1⟩; have hbV1 := aG hbV hq1; have bXV1 := aC bXV hq1; have bRV1 := aC bRV hq1; have bAV1 := aC bAV hq1; have bBV1 := aC bBV hq1; have hA0V1 := aA bAV1; have hB0V1 := aA bBV1; have hR0V1 := aA bRV1; have hX10V1 := aA bXV1; have fA0V1 := aD bAV1; have fB0V1 := aD bBV1; have fR0V1 := aD bRV1; have fX10V1 := aD bXV1))
  refine bodyPost_ret (aT rfl _ _ _ 66 #[.slice none 0 0, .int .i64 0, .int .i64 0] (0, 0) _ rfl (blkS bRV1 _ _ _) Try.underlying66 rfl z1_) rfl ?_
  exact Got.zero (aI (aI (aI hbV1 z5_) z5_) z5_)
 have HP := mk_ hp
 by_cases hq : places x.f6 d2.1.length = true
 case neg =>
  obtain rfl : (zN, (1 : Int)) = r := by rw [← HZ.out, if_neg (fun e => hq e.2)]
  have HQ := mk_ (Bool.eq_false_iff.2 hq)
  clear hp hq
  go_wp2_with (first | (go_at_call 60; (with_reducible show Calls _ _ #[.slice A5 _ _, _] V _); refine (bQ A5 c5 x.f5 d.1.length V (aN HC5.out hbV) HC5L.out (by have := HL5.out; omega)).mono ?_; rw [HP.out]; rintro e V1 ⟨rfl, hq1⟩; have hbV1 := aG hbV hq1; have bXV1 := aC bXV hq1; have bRV1 := aC bRV hq1; have bAV1 := aC bAV hq1; have bBV1 := aC bBV hq1; have hA0V1 := aA bAV1; have hB0V1 := aA bBV1; have hR0V1 := aA bRV1; have hX10V1 := aA bXV1; have fA0V1 := aD bAV1; have fB0V1 := aD bBV1; have fR0V1 := aD bRV1; have fX10V1 := aD bXV1) | (go_at_call 60; (with_reducible show Calls _ _ #[.slice A6 _ _, _] V1 _); refine (bQ A6 c6 x.f6 d2.1.length V1 (aN HC6.out hbV1) HC6L.out (by have := HL6.out; omega)).mono ?_; rw [HQ.out]; rintro e V2 ⟨rfl, hq2⟩; have hbV2 := aG hbV1 hq2; have bXV2 := aC bXV1 hq2; have bRV2 := aC bRV1 hq2; have bAV2 := aC bAV1 hq2; have bBV2 := aC bBV1 hq2; have hA0V2 := aA bAV2; have hB0V2 := aA bBV2; have hR0V2 := aA bRV2; have hX10V2 := aA bXV2; have fA0V2 := aD bAV2; have fB0V2 := aD bBV2; have fR0V2 := aD bRV2; have fX10V2 := aD bXV2))
  refine bodyPost_ret (aT rfl _ _ _ 66 #[.slice none 0 0, .int .i64 0, .int .i64 0] (0, 0) _ rfl (blkS bRV2 _ _ _) Try.underlying66 rfl z1_) rfl ?_
  exact Got.zero (aI (aI (aI hbV2 z5_) z5_) z5_)
 have HQ := mk_ hq
 have HZ2 := mk_ (HZ.out.symm.trans (if_pos ⟨hp, hq⟩))
 clear HZ hp hq
 by_cases hn : x.f5.length ≠ x.f6.length
 case pos =>
  obtain rfl : (zN, (2 : Int)) = r := by rw [HZ2.out, if_pos (.inl hn)]
  have hd1 : decide ((x.f5.length : Int) = (x.f6.length : Int)) = false := decide_eq_false z5_
  have hd2 : decide (x.f5.length = x.f6.length) = false := decide_eq_false hn
  have hd3 : ((x.f5.length : Int) = (x.f6.length : Int)) = False := eq_false z5_
  have hd6 : ((x.f5.length : Int) != (x.f6.length : Int)) = true := bne_iff_ne.2 z5_
  clear hn
  go_wp2_with (first | (go_at_call 60; (with_reducible show Calls _ _ #[.slice A5 _ _, _] V _); refine (bQ A5 c5 x.f5 d.1.length V (aN HC5.out hbV) HC5L.out (by have := HL5.out; omega)).mono ?_; rw [HP.out]; rintro e V1 ⟨rfl, hq1⟩; have hbV1 := aG hbV hq1; have bXV1 := aC bXV hq1; have bRV1 := aC bRV hq1; have bAV1 := aC bAV hq1; have bBV1 := aC bBV hq1; have hA0V1 := aA bAV1; have hB0V1 := aA bBV1; have hR0V1 := aA bRV1; have hX10V1 := aA bXV1; have fA0V1 := aD bAV1; have fB0V1 := aD bBV1; have fR0V1 := aD bRV1; have fX10V1 := aD bXV1) | (go_at_call 60; (with_reducible show Calls _ _ #[.slice A6 _ _, _] V1 _); refine (bQ A6 c6 x.f6 d2.1.length V1 (aN HC6.out hbV1) HC6L.out (by have := HL6.out; omega)).mono ?_; rw [HQ.out]; rintro e V2 ⟨rfl, hq2⟩; have hbV2 := aG hbV1 hq2; have bXV2 := aC bXV1 hq2; have bRV2 := aC bRV1 hq2; have bAV2 := aC bAV1 hq2; have bBV2 := aC bBV1 hq2; have hA0V2 := aA bAV2; have hB0V2 := aA bBV2; have hR0V2 := aA bRV2; have hX10V2 := aA bXV2; have fA0V2 := aD bAV2; have fB0V2 := aD bBV2; have fR0V2 := aD bRV2; have fX10V2 := aD bXV2))
  all_goals refine bodyPost_ret (aT rfl _ _ _ 66 #[.slice none 0 0, .int .i64 0, .int .i64 0] (0, 0) _ rfl (blkS bRV2 _ _ _) Try.underlying66 rfl z1_) rfl ?_
  all_goals exact Got.zero (aI (aI (aI hbV2 z5_) z5_) z5_)
 have hn' : x.f5.length = x.f6.length := by omega
 have HN := mk_ hn'
 have hd1 : decide ((x.f5.length : Int) = (x.f6.length : Int)) = true := decide_eq_true z5_
 have hd2 : decide (x.f5.length = x.f6.length) = true := decide_eq_true hn'
 have hd4 : ((x.f5.length : Int) = (x.f6.length : Int)) = True := eq_true z5_
 have hd6 : ((x.f5.length : Int) != (x.f6.length : Int)) = false := by simp [hn']
 have hw12 := HL12.out
 have hw122 := HL122.out
 have hwa : IntKind.i64.wrap ((d.1.length : Int) + (d2.1.length : Int)) = (d.1.length : Int) + (d2.1.length : Int) := IntWalk.i64_in _ z5_
 by_cases h12 : d.1.length + d2.1.length > 12
 case pos =>
  obtain rfl : (zN, (2 : Int)) = r := by rw [HZ2.out, if_pos (.inr h12)]
  have hd3 : decide ((12 : Int) < (d.1.length : Int) + (d2.1.length : Int)) = true := decide_eq_true z5_
  have hd5 : ((12 : Int) < (d.1.length : Int) + (d2.1.length : Int)) = True := eq_true z5_
  clear h12 hn hn' hw12 hw122
  go_wp2_with (first | (go_at_call 60; (with_reducible show Calls _ _ #[.slice A5 _ _, _] V _); refine (bQ A5 c5 x.f5 d.1.length V (aN HC5.out hbV) HC5L.out (by have := HL5.out; omega)).mono ?_; rw [HP.out]; rintro e V1 ⟨rfl, hq1⟩; have hbV1 := aG hbV hq1; have bXV1 := aC bXV hq1; have bRV1 := aC bRV hq1; have bAV1 := aC bAV hq1; have bBV1 := aC bBV hq1; have hA0V1 := aA bAV1; have hB0V1 := aA bBV1; have hR0V1 := aA bRV1; have hX10V1 := aA bXV1; have fA0V1 := aD bAV1; have fB0V1 := aD bBV1; have fR0V1 := aD bRV1; have fX10V1 := aD bXV1) | (go_at_call 60; (with_reducible show Calls _ _ #[.slice A6 _ _, _] V1 _); refine (bQ A6 c6 x.f6 d2.1.length V1 (aN HC6.out hbV1) HC6L.out (by have := HL6.out; omega)).mono ?_; rw [HQ.out]; rintro e V2 ⟨rfl, hq2⟩; have hbV2 := aG hbV1 hq2; have bXV2 := aC bXV1 hq2; have bRV2 := aC bRV1 hq2; have bAV2 := aC bAV1 hq2; have bBV2 := aC bBV1 hq2; have hA0V2 := aA bAV2; have hB0V2 := aA bBV2; have hR0V2 := aA bRV2; have hX10V2 := aA bXV2; have fA0V2 := aD bAV2; have fB0V2 := aD bBV2; have fR0V2 := aD bRV2; have fX10V2 := aD bXV2))
  refine bodyPost_ret (aT rfl _ _ _ 66 #[.slice none 0 0, .int .i64 0, .int .i64 0] (0, 0) _ rfl (blkS bRV2 _ _ _) Try.underlying66 rfl z1_) rfl ?_
  exact Got.zero (aI (aI (aI hbV2 z5_) z5_) z5_)
 have hd3 : decide ((12 : Int) < (d.1.length : Int) + (d2.1.length : Int)) = false := decide_eq_false z5_
 have hd5 : ((12 : Int) < (d.1.length : Int) + (d2.1.length : Int)) = False := eq_false z5_
 have HZ3 := mk_ (HZ2.out.trans (if_neg z5_))
 clear h12 hn hn' hw12 hw122 HZ2
 go_wp2_with (first | (go_at_call 60; (with_reducible show Calls _ _ #[.slice A5 _ _, _] V _); refine (bQ A5 c5 x.f5 d.1.length V (aN HC5.out hbV) HC5L.out (by have := HL5.out; omega)).mono ?_; rw [HP.out]; rintro e V1 ⟨rfl, hq1⟩; have hbV1 := aG hbV hq1; have bXV1 := aC bXV hq1; have bRV1 := aC bRV hq1; have bAV1 := aC bAV hq1; have bBV1 := aC bBV hq1; have hA0V1 := aA bAV1; have hB0V1 := aA bBV1; have hR0V1 := aA bRV1; have hX10V1 := aA bXV1; have fA0V1 := aD bAV1; have fB0V1 := aD bBV1; have fR0V1 := aD bRV1; have fX10V1 := aD bXV1) | (go_at_call 60; (with_reducible show Calls _ _ #[.slice A6 _ _, _] V1 _); refine (bQ A6 c6 x.f6 d2.1.length V1 (aN HC6.out hbV1) HC6L.out (by have := HL6.out; omega)).mono ?_; rw [HQ.out]; rintro e V2 ⟨rfl, hq2⟩; have hbV2 := aG hbV1 hq2; have bXV2 := aC bXV1 hq2; have bRV2 := aC bRV1 hq2; have bAV2 := aC bAV1 hq2; have bBV2 := aC bBV1 hq2; have hA0V2 := aA bAV2; have hB0V2 := aA bBV2; have hR0V2 := aA bRV2; have hX10V2 := aA bXV2; have fA0V2 := aD bAV2; have fB0V2 := aD bBV2; have fR0V2 := aD bRV2; have fX10V2 := aD bXV2))
 refine cG (n := 13) (S := fun w' => w'.cell? ⟨g6, 0, none⟩ = some (.slice B d.1.length c) ∧ w'.cell? ⟨g7, 0, none⟩ = some (.slice B2 d2.1.length c2) ∧ w'.cell? ⟨w.heap.size, 10, none⟩ = some (.slice A5 x.f5.length c5) ∧ w'.cell? ⟨w.heap.size, 11, none⟩ = some (.slice A6 x.f6.length c6) ∧ True) (ds := []) (fun W => Below w.heap.size w W ∧ W.heap[w.heap.size]? = some (.cells #[.int .i64 x.f0, .int .i64 (k : Int), .int .i64 (k2 : Int), .int .i64 x.f3, .int .i64 x.f4.f0, .int .i64 x.f4.f1, .int .i64 x.f4.f2, .int .i64 x.f4.f3.f0, .int .i64 x.f4.f3.f1, .string x.f4.f3.f2, .slice A5 x.f5.length c5, .slice A6 x.f6.length c6, .int .i64 x.f7, .int .i64 x.f8] 34 (0, 0)) ∧ W.heap[w.heap.size + 1]? = some (.cells #[.slice none 0 0, .int .i64 0, .int .i64 0] 66 (0, 0)) ∧ W.heap[g6]? = some (.cells #[.slice B d.1.length c, .int .i64 d.2.1, .int .i64 d.2.2] 66 (0, 0)) ∧ W.heap[g7]? = some (.cells #[.slice B2 d2.1.length c2, .int .i64 d2.2.1, .int .i64 d2.2.2] 66 (0, 0))) (Steps.Bs 13 0) z1_ rfl rfl ⟨bP hbV2, aU bXV2, aU bRV2, aU bAV2, aU bBV2⟩ (fun W hJ => ?_) (fun W0 hJ => ?_)
 ·
  obtain ⟨hb0, bX0, bR0, bA0, bB0⟩ := hJ
  exact ⟨aA bA0 0, aA bB0 0, aA bX0 10, aA bX0 11, trivial⟩
 obtain ⟨hb0, bX0, bR0, bA0, bB0⟩ := hJ
 have hHeld0 : W0.cell? ⟨g6, 0, none⟩ = some (.slice B d.1.length c) ∧ W0.cell? ⟨g7, 0, none⟩ = some (.slice B2 d2.1.length c2) ∧ W0.cell? ⟨w.heap.size, 10, none⟩ = some (.slice A5 x.f5.length c5) ∧ W0.cell? ⟨w.heap.size, 11, none⟩ = some (.slice A6 x.f6.length c6) ∧ True := ⟨aA bA0 0, aA bB0 0, aA bX0 10, aA bX0 11, trivial⟩
 have hl0 : w.heap.size + 2 ≤ W0.heap.size := aV bR0
 refine sI 0 77 13 1 ?_
 refine sT hHeld0 1 78 13 3 ?_
 refine sI 2 79 13 7 ?_
 refine sT hHeld0 3 80 13 15 ?_
 refine sI 5 82 13 47 ?_
 refine sT hHeld0 6 83 13 111 ?_
 refine sI 7 84 13 239 ?_
 refine sT hHeld0 8 85 13 495 ?_
 refine one_ (i := 4) (N := (some 81)) (Steps.Bs 13 511) rfl rfl z1_ z10_ (fun K hK => ?_)
 refine goes_ Try.func61 z1_ rfl #[.slice B d.1.length c, .slice A5 x.f5.length c5] z12_ rfl rfl z8_ ?_
 refine (PAll.plan_pick.calls (x.f5.length + 1) B c d.1 A5 c5 x.f5 (pick d.1 x.f5) _ (aN HC.out hb0) HCC.out (aN HC5.out hb0) HC5L.out (eY _ d.1 x.f5 (by have := HL12.out; omega) (by have := HL5.out; omega) HP.out z5_)).mono ?_
 rintro e W1 ⟨u, rfl, hru, hq1⟩
 obtain ⟨A8, c8, rfl, hc8, hC8⟩ := dE hru
 refine ⟨_, rfl, ?_⟩
 have bX1 := aC bX0 hq1
 have bR1 := aC bR0 hq1
 have bA1 := aC bA0 hq1
 have bB1 := aC bB0 hq1
 have hb1 := aG hb0 hq1
 have hHeld1 : W1.cell? ⟨g6, 0, none⟩ = some (.slice B d.1.length c) ∧ W1.cell? ⟨g7, 0, none⟩ = some (.slice B2 d2.1.length c2) ∧ W1.cell? ⟨w.heap.size, 10, none⟩ = some (.slice A5 x.f5.length c5) ∧ W1.cell? ⟨w.heap.size, 11, none⟩ = some (.slice A6 x.f6.length c6) ∧ True := ⟨aA bA1 0, aA bB1 0, aA bX1 10, aA bX1 11, trivial⟩
 have hl1 : w.heap.size + 2 ≤ W1.heap.size := aV bR1
 refine hK.out _ _ hHeld1 (fun _ => ?_)
 clear hK K
 refine nrm 81 ?_
 refine one_ (i := 9) (N := (some 86)) (Steps.Bs 13 1023) rfl rfl z1_ z10_ (fun K hK => ?_)
 refine goes_ Try.func61 z1_ rfl #[.slice B2 d2.1.length c2, .slice A6 x.f6.length c6] z12_ rfl rfl z8_ ?_
 refine (PAll.plan_pick.calls (x.f6.length + 1) B2 c2 d2.1 A6 c6 x.f6 (pick d2.1 x.f6) _ (aN HC2.out hb1) HCC2.out (aN HC6.out hb1) HC6L.out (eY _ d2.1 x.f6 (by have := HL122.out; omega) (by have := HL6.out; omega) HQ.out z5_)).mono ?_
 rintro e W2 ⟨u2, rfl, hru2, hq2⟩
 obtain ⟨A9, c9, rfl, hc9, hC9⟩ := dE hru2
 refine ⟨_, rfl, ?_⟩
 have bX2 := aC bX1 hq2
 have bR2 := aC bR1 hq2
 have bA2 := aC bA1 hq2
 have bB2 := aC bB1 hq2
 have hb2 := aG hb1 hq2
 have hHeld2 : W2.cell? ⟨g6, 0, none⟩ = some (.slice B d.1.length c) ∧ W2.cell? ⟨g7, 0, none⟩ = some (.slice B2 d2.1.length c2) ∧ W2.cell? ⟨w.heap.size, 10, none⟩ = some (.slice A5 x.f5.length c5) ∧ W2.cell? ⟨w.heap.size, 11, none⟩ = some (.slice A6 x.f6.length c6) ∧ True := ⟨aA bA2 0, aA bB2 0, aA bX2 10, aA bX2 11, trivial⟩
 have hl2 : w.heap.size + 2 ≤ W2.heap.size := aV bR2
 refine hK.out _ _ hHeld2 (fun _ => ?_)
 clear hK K
 refine nrm 86 ?_
 refine one_ (i := 10) (N := (some 87)) (Steps.Bs 13 2047) rfl rfl z1_ z10_ (fun K hK => ?_)
 refine goes_ Try.func62 z1_ rfl #[.slice A8 (pick d.1 x.f5).length c8, .slice A9 (pick d2.1 x.f6).length c9] z12_ rfl rfl z8_ ?_
 refine (PAll.slices_Equal_int_int.calls (x.f5.length + 1) A8 c8 (pick d.1 x.f5) A9 c9 (pick d2.1 x.f6) _ W2 (aN hC8 hq2) hc8 hC9 hc9 (gB _ _ _ (by rw [dF]; have := HL5.out; omega) (by rw [dF]; omega))).mono ?_
 rintro e W3 ⟨rfl, ⟨nd, hW3⟩⟩
 have hq3 : Below W2.heap.size W2 W3 := by rw [hW3]; exact aZ (Below.refl _ _) _
 clear hW3
 refine ⟨_, rfl, ?_⟩
 have bX3 := aC bX2 hq3
 have bR3 := aC bR2 hq3
 have bA3 := aC bA2 hq3
 have bB3 := aC bB2 hq3
 have hb3 := aG hb2 hq3
 have hHeld3 : W3.cell? ⟨g6, 0, none⟩ = some (.slice B d.1.length c) ∧ W3.cell? ⟨g7, 0, none⟩ = some (.slice B2 d2.1.length c2) ∧ W3.cell? ⟨w.heap.size, 10, none⟩ = some (.slice A5 x.f5.length c5) ∧ W3.cell? ⟨w.heap.size, 11, none⟩ = some (.slice A6 x.f6.length c6) ∧ True := ⟨aA bA3 0, aA bB3 0, aA bX3 10, aA bX3 11, trivial⟩
 have hl3 : w.heap.size + 2 ≤ W3.heap.size := aV bR3
 refine hK.out _ _ hHeld3 (fun _ => ?_)
 clear hK K
 refine nrm 87 ?_
 refine sI 11 88 13 4095 ?_
 refine sI 12 76 13 8191 ?_
 refine done_ z1_ ?_
 have hA03 := aA bA3
 have hB03 := aA bB3
 have hR03 := aA bR3
 have fA03 := aD bA3
 have fB03 := aD bB3
 have fR03 := aD bR3
 by_cases he : pick d.1 x.f5 = pick d2.1 x.f6
 case neg =>
  obtain rfl : (zN, (10 : Int)) = r := by rw [HZ3.out, if_neg he]
  rw [decide_eq_false he]
  clear he
  go_wp2
  refine bodyPost_ret (aT rfl _ _ _ 66 #[.slice none 0 0, .int .i64 0, .int .i64 0] (0, 0) _ rfl (blkS bR3 _ _ _) Try.underlying66 rfl z1_) rfl ?_
  exact Got.zero (aI (aI (aI hb3 z5_) z5_) z5_)
 rw [decide_eq_true he]
 have HZ4 := mk_ (HZ3.out.trans (if_pos he))
 clear he HZ3
 by_cases hm : d.2.1 * d2.2.1 ≤ 1125899906842624
 case neg =>
  obtain rfl : (zN, (11 : Int)) = r := by rw [HZ4.out, if_neg hm]
  have HM := mk_ (show plan_times.f d.2.1 d2.2.1 1125899906842624 = some (0, false) by have := HO1.out.w1; have := HO1.out.w2; have := HO2.out.w1; have := HO2.out.w2; rw [gK _ _ _ z5_ z5_ z5_ z5_ z5_ z5_, if_neg hm])
  clear hm
  go_wp2_with (go_at_call 63; refine (PAll.plan_times.calls d.2.1 d2.2.1 1125899906842624 0 false _ HM.out).mono ?_; rintro e w' ⟨rfl, ⟨nd, rfl⟩⟩)
  refine bodyPost_ret (aT rfl _ _ _ 66 #[.slice none 0 0, .int .i64 0, .int .i64 0] (0, 0) _ rfl (blkS (aX bR3 _) _ _ _) Try.underlying66 rfl z1_) rfl ?_
  exact Got.zero (aI (aI (aI (aZ hb3 _) z5_) z5_) z5_)
 obtain rfl : ((d.1 ++ d2.1, d.2.1 * d2.2.1, max d.2.2 d2.2.2), (0 : Int)) = r := by rw [HZ4.out, if_pos hm]
 have HM := mk_ (show plan_times.f d.2.1 d2.2.1 1125899906842624 = some (d.2.1 * d2.2.1, true) by have := HO1.out.w1; have := HO1.out.w2; have := HO2.out.w1; have := HO2.out.w2; rw [gK _ _ _ z5_ z5_ z5_ z5_ z5_ z5_, if_pos hm])
 clear hm
 generalize d.2.1 * d2.2.1 = pr at *
 go_wp2_with (go_at_call 63; refine (PAll.plan_times.calls d.2.1 d2.2.1 1125899906842624 pr true _ HM.out).mono ?_; rintro e w' ⟨rfl, ⟨nd, rfl⟩⟩)
 refine cG (n := 15) (S := fun w' => w'.cell? ⟨g6, 0, none⟩ = some (.slice B d.1.length c) ∧ w'.cell? ⟨g6, 2, none⟩ = some (.int .i64 d.2.2) ∧ w'.cell? ⟨g7, 0, none⟩ = some (.slice B2 d2.1.length c2) ∧ w'.cell? ⟨g7, 2, none⟩ = some (.int .i64 d2.2.2) ∧ True) (ds := [13]) (fun W => Below w.heap.size w W ∧ W.heap[w.heap.size]? = some (.cells #[.int .i64 x.f0, .int .i64 (k : Int), .int .i64 (k2 : Int), .int .i64 x.f3, .int .i64 x.f4.f0, .int .i64 x.f4.f1, .int .i64 x.f4.f2, .int .i64 x.f4.f3.f0, .int .i64 x.f4.f3.f1, .string x.f4.f3.f2, .slice A5 x.f5.length c5, .slice A6 x.f6.length c6, .int .i64 x.f7, .int .i64 x.f8] 34 (0, 0)) ∧ W.heap[w.heap.size + 1]? = some (.cells #[.slice none 0 0, .int .i64 0, .int .i64 0] 66 (0, 0)) ∧ W.heap[g6]? = some (.cells #[.slice B d.1.length c, .int .i64 d.2.1, .int .i64 d.2.2] 66 (0, 0)) ∧ W.heap[g7]? = some (.cells #[.slice B2 d2.1.length c2, .int .i64 d2.2.1, .int .i64 d2.2.2] 66 (0, 0))) (Steps.Bs 15 0) z1_ rfl rfl ⟨bP (aZ hb3 _), aU (aX bX3 _), aU (aX bR3 _), aU (aX bA3 _), aU (aX bB3 _)⟩ (fun W hJ => ?_) (fun W0 hJ => ?_)
 ·
  obtain ⟨hb0, bX0, bR0, bA0, bB0⟩ := hJ
  exact ⟨aA bA0 0, aA bA0 2, aA bB0 0, aA bB0 2, trivial⟩
 obtain ⟨hb0, bX0, bR0, bA0, bB0⟩ := hJ
 have hHeld0 : W0.cell? ⟨g6, 0, none⟩ = some (.slice B d.1.length c) ∧ W0.cell? ⟨g6, 2, none⟩ = some (.int .i64 d.2.2) ∧ W0.cell? ⟨g7, 0, none⟩ = some (.slice B2 d2.1.length c2) ∧ W0.cell? ⟨g7, 2, none⟩ = some (.int .i64 d2.2.2) ∧ True := ⟨aA bA0 0, aA bA0 2, aA bB0 0, aA bB0 2, trivial⟩
 have hl0 : w.heap.size + 2 ≤ W0.heap.size := aV bR0
 refine sI 0 101 15 1 ?_
 refine sT hHeld0 1 102 15 3 ?_
 refine sI 2 103 15 7 ?_
 refine sT hHeld0 3 104 15 15 ?_
 refine sI 6 107 15 79 ?_
 refine sI 7 108 15 207 ?_
 refine sT hHeld0 8 109 15 463 ?_
 refine sI 9 110 15 975 ?_
 refine sT hHeld0 10 111 15 1999 ?_
 refine sI 11 112 15 4047 ?_
 refine one_ (i := 4) (N := (some 105)) (Steps.Bs 15 4063) rfl rfl z1_ z10_ (fun K hK => ?_)
 refine fC (w1 := ?_) (v := ?_) z12_ rfl ?_ ?_
 rotate_left 2
 ·
  go_simp
  constructor
  ·
   rfl
  ·
   rfl
 obtain ⟨W1, hW1⟩ : ∃ W1, W1 = W0.alloc (.cells #[.slice B d.1.length c, .slice B2 d2.1.length c2] 32) := ⟨_, rfl⟩
 rw [← hW1]
 have hq1 : Below W0.heap.size W0 W1 := by rw [hW1]; exact aM (Below.refl _ _) _
 have hG : W1.heap[W0.heap.size]? = some (.cells #[.slice B d.1.length c, .slice B2 d2.1.length c2] 32 (0, 0)) := by rw [hW1]; exact cJ _ _
 clear hW1
 have bX1 := aC bX0 hq1
 have bR1 := aC bR0 hq1
 have bA1 := aC bA0 hq1
 have bB1 := aC bB0 hq1
 have hb1 := aG hb0 hq1
 have hHeld1 : W1.cell? ⟨g6, 0, none⟩ = some (.slice B d.1.length c) ∧ W1.cell? ⟨g6, 2, none⟩ = some (.int .i64 d.2.2) ∧ W1.cell? ⟨g7, 0, none⟩ = some (.slice B2 d2.1.length c2) ∧ W1.cell? ⟨g7, 2, none⟩ = some (.int .i64 d2.2.2) ∧ True := ⟨aA bA1 0, aA bA1 2, aA bB1 0, aA bB1 2, trivial⟩
 have hl1 : w.heap.size + 2 ≤ W1.heap.size := aV bR1
 refine hK.out _ _ hHeld1 (fun _ => ?_)
 clear hK K
 refine nrm 105 ?_
 refine one_ (i := 5) (N := (some 106)) (Steps.Bs 15 4095) rfl rfl z1_ z10_ (fun K hK => ?_)
 refine goes_ Try.func64 z1_ rfl #[.slice (some ⟨W0.heap.size, 0, none⟩) 2 2] z12_ rfl rfl z8_ ?_
 refine (concat_calls (some ⟨W0.heap.size, 0, none⟩) 2 [d.1, d2.1] W1 (two_rows hG (aN HC.out hb1) HCC.out (aN HC2.out hb1) HCC2.out) (by simp) (by have := HL12.out; have := HL122.out; simp [total]; omega)).mono ?_
 rintro e W2 ⟨u, rfl, hru, hq2⟩
 rw [show [d.1, d2.1].flatten = d.1 ++ d2.1 by simp] at hru
 obtain ⟨A8, c8, rfl⟩ := bE hru
 rw [List.length_append] at hru
 refine ⟨_, rfl, ?_⟩
 have bX2 := aC bX1 hq2
 have bR2 := aC bR1 hq2
 have bA2 := aC bA1 hq2
 have bB2 := aC bB1 hq2
 have hb2 := aG hb1 hq2
 have hHeld2 : W2.cell? ⟨g6, 0, none⟩ = some (.slice B d.1.length c) ∧ W2.cell? ⟨g6, 2, none⟩ = some (.int .i64 d.2.2) ∧ W2.cell? ⟨g7, 0, none⟩ = some (.slice B2 d2.1.length c2) ∧ W2.cell? ⟨g7, 2, none⟩ = some (.int .i64 d2.2.2) ∧ True := ⟨aA bA2 0, aA bA2 2, aA bB2 0, aA bB2 2, trivial⟩
 have hl2 : w.heap.size + 2 ≤ W2.heap.size := aV bR2
 refine hK.out _ _ hHeld2 (fun _ => ?_)
 clear hK K
 refine nrm 106 ?_
 refine sI 12 113 15 8191 ?_
 have hc13_0 := aA bR2
 have hf13_0 := aD bR2
 refine last_ (i := 13) (N := none) (Steps.Bs 15 16383) rfl rfl z1_ z10_ (fun K hK => ?_)
 refine skip_ (w1 := ?_) z12_ rfl ?_ ?_
 rotate_left
 ·
  go_simp
  rfl
 refine hK.out _ _ ?_
 clear hK K
 refine sI 14 5 15 32767 ?_
 refine done_ z1_ ?_
 go_wp2
 refine bodyPost_ret (aT rfl _ _ _ 66 #[.slice A8 (d.1.length + d2.1.length) c8, .int .i64 pr, .int .i64 (max d.2.2 d2.2.2)] (0, 0) _ rfl (blkS bR2 _ _ _) Try.underlying66 rfl z1_) rfl ?_
 refine Got.stored (d := (d.1 ++ d2.1, pr, max d.2.2 d2.2.2)) HW.out.le rfl (bT (R_mono (cF hru) (fun k hk => by have := hk.2.1; omega)) z5_) hb2 _ _ _
end
end Go.Proofs.Ytimbbaoodjhdoaa.Plan
end
