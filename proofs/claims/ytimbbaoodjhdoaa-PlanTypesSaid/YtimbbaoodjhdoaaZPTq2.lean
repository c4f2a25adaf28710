-- Put together by a program of this session (wip/slice2.py) out of the seat's texts.
import Derived.Test.YtimbbaoodjhdoaaZPTp6
import Derived.Test.YtimbbaoodjhdoaaZPTq1

set_option maxHeartbeats 8000000
set_option maxRecDepth 100000
open Go.Proofs.YtimbbaoodjhdoaaW Go.Proofs.Ytimbbaoodjhdoaa
section
namespace Go.Proofs.Ytimbbaoodjhdoaa.Plan
open Go.RowKit PAll Plain PrintWords PrintLast PrintMore ZipT PrintWords.Kd PrintMore.Kd
set_option linter.unusedVariables false
set_option linter.unusedSimpArgs false
section
variable {w : World} {g base : Nat} {ok : Nat → Prop} {A0 : Option Addr} {c0 : Nat} {f : List Tb} {v : Value} {ds : List Nd} {x : No} {A5 A6 : Option Addr} {c5 c6 : Nat}
theorem Got.handed {V : World} {d : Nd} {u : Value} {er : Int} (hbase : base ≤ w.heap.size) (hr : (Kd.int .i64).R 3 V base (fun k => (ok k ∧ some k ≠ v.ownBlock ∧ k < w.heap.size) ∨ w.heap.size + 2 ≤ k) u d.1) (hb : Below w.heap.size w V) (a b c : Value) :
  Got w base ok v (d, er) (.returned (.tuple #[.agg #[u, .int .i64 d.2.1, .int .i64 d.2.2], .int .i64 er])) (((V.setCell ⟨w.heap.size + 1, 0, none⟩ a).setCell ⟨w.heap.size + 1, 1, none⟩ b).setCell ⟨w.heap.size + 1, 2, none⟩ c) := by
 have hne : ∀ k, ((ok k ∧ some k ≠ v.ownBlock ∧ k < w.heap.size) ∨ w.heap.size + 2 ≤ k) → k ≠ w.heap.size + 1 := fun k hk => by omega
 refine ⟨u, rfl, R_mono (R_far (R_far (R_far hr (p := ⟨w.heap.size + 1, 0, none⟩) hne a) (p := ⟨w.heap.size + 1, 1, none⟩) hne b) (p := ⟨w.heap.size + 1, 2, none⟩) hne c) (fun k hk => ?_), aI (aI (aI hb z5_) z5_) z5_⟩
 rcases hk with hk | hk
 ·
  exact .inl ⟨hk.1, hk.2.1⟩
 ·
  exact .inr z5_
theorem groupBad_calls (h : Wk w g base ok A0 c0 f v ds) (hl : ds.length ≤ 1000) (h7 : x.f7 < 1 ∨ 4 < x.f7) :
  Calls Try.prog 55 #[.pointer (some ⟨g, 0, none⟩), .agg #[.int .i64 x.f0, .int .i64 x.f1, .int .i64 x.f2, .int .i64 x.f3, .int .i64 x.f4.f0, .int .i64 x.f4.f1, .int .i64 x.f4.f2, .int .i64 x.f4.f3.f0, .int .i64 x.f4.f3.f1, .string x.f4.f3.f2, .slice A5 x.f5.length c5, .slice A6 x.f6.length c6, .int .i64 x.f7, .int .i64 x.f8]] w (Got w base ok v (groupN ds x)) := by
 have HW := mk_ h
 have hsp : groupN ds x = (zN, 1) := by unfold groupN; rw [if_neg (fun e => by omega)]
 rw [hsp]
 clear hsp
 by_cases ha : ahead ds x.f1 = true
 case neg =>
  have HA := mk_ (Bool.eq_false_iff.2 ha)
  clear h ha
  go_enter Try.func55, Try.ntmps55
  go_wp2_with (first | (go_at_call 58; refine (cE (HW.out.below z0_) z5_ _).mono ?_; rw [HA.out]; rintro e w' ⟨rfl, hw'⟩; subst hw'))
  refine bodyPost_ret (aT rfl _ _ _ 66 #[.slice none 0 0, .int .i64 0, .int .i64 0] (0, 0) _ rfl z3_ Try.underlying66 rfl z1_) rfl ?_
  exact Got.zero z0_
 have HA := mk_ ha
 clear h ha
 by_cases h1 : x.f7 < 1
 ·
  have hd1 : decide (x.f7 < 1) = true := decide_eq_true h1
  clear h7 h1
  go_enter Try.func55, Try.ntmps55
  go_wp2_with (first | (go_at_call 58; refine (cE (HW.out.below z0_) z5_ _).mono ?_; rw [HA.out]; rintro e w' ⟨rfl, hw'⟩; subst hw'))
  refine bodyPost_ret (aT rfl _ _ _ 66 #[.slice none 0 0, .int .i64 0, .int .i64 0] (0, 0) _ rfl z3_ Try.underlying66 rfl z1_) rfl ?_
  exact Got.zero z0_
 have hd1 : decide (x.f7 < 1) = false := decide_eq_false h1
 have hd2 : decide (4 < x.f7) = true := decide_eq_true z5_
 clear h7 h1
 go_enter Try.func55, Try.ntmps55
 go_wp2_with (first | (go_at_call 58; refine (cE (HW.out.below z0_) z5_ _).mono ?_; rw [HA.out]; rintro e w' ⟨rfl, hw'⟩; subst hw'))
 refine bodyPost_ret (aT rfl _ _ _ 66 #[.slice none 0 0, .int .i64 0, .int .i64 0] (0, 0) _ rfl z3_ Try.underlying66 rfl z1_) rfl ?_
 exact Got.zero z0_
theorem group_calls (h : Wk w g base ok A0 c0 f v ds) (hl : ds.length ≤ 1000) (hds : ∀ d ∈ ds, NdOk d) (hC5 : Kd.C (Kd.int .i64) w A5 x.f5.length x.f5) (hC5L : x.f5.length ≤ c5) (hL5 : x.f5.length ≤ 1000) :
  Calls Try.prog 55 #[.pointer (some ⟨g, 0, none⟩), .agg #[.int .i64 x.f0, .int .i64 x.f1, .int .i64 x.f2, .int .i64 x.f3, .int .i64 x.f4.f0, .int .i64 x.f4.f1, .int .i64 x.f4.f2, .int .i64 x.f4.f3.f0, .int .i64 x.f4.f3.f1, .string x.f4.f3.f2, .slice A5 x.f5.length c5, .slice A6 x.f6.length c6, .int .i64 x.f7, .int .i64 x.f8]] w (Got w base ok v (groupN ds x)) := by
 by_cases h1 : x.f7 < 1 ∨ 4 < x.f7
 ·
  exact groupBad_calls h hl h1
 by_cases h2 : x.f7 = 1
 ·
  have := group1_calls h hl hds hC5 hC5L hL5 (x := x) (A6 := A6) (c6 := c6) h2
  rwa [← h2] at this
 by_cases h3 : x.f7 = 2
 rotate_left
 ·
  exact group3_calls h hl hds hC5 hC5L hL5 x.f7 rfl z5_
 have := group2_calls h hl hds hC5 hC5L hL5 (x := x) (A6 := A6) (c6 := c6) h3
 rwa [← h3] at this
theorem look_calls (h : Wk w g base ok A0 c0 f v ds) (hl : ds.length ≤ 1000) (hds : ∀ d ∈ ds, NdOk d) (hC5 : Kd.C (Kd.int .i64) w A5 x.f5.length x.f5) (hC5L : x.f5.length ≤ c5) (hL5 : x.f5.length ≤ 1000) (hC6 : Kd.C (Kd.int .i64) w A6 x.f6.length x.f6) (hC6L : x.f6.length ≤ c6) (hL6 : x.f6.length ≤ 1000) (hfl : f.length ≤ 1000) (hcl : ∀ t ∈ f, t.f0.length ≤ 1000) :
  Calls Try.prog 40 #[.pointer (some ⟨g, 0, none⟩), .agg #[.int .i64 x.f0, .int .i64 x.f1, .int .i64 x.f2, .int .i64 x.f3, .int .i64 x.f4.f0, .int .i64 x.f4.f1, .int .i64 x.f4.f2, .int .i64 x.f4.f3.f0, .int .i64 x.f4.f3.f1, .string x.f4.f3.f2, .slice A5 x.f5.length c5, .slice A6 x.f6.length c6, .int .i64 x.f7, .int .i64 x.f8]] w (Got w base ok v (look f ds x)) := by
 have HW : Aside0 (Wk w g base (fun k => ok k ∧ k < w.heap.size) A0 c0 f v ds) := ⟨⟨h.blk, h.forms, R_mono (cF h.row) (fun k hk => ⟨hk.1, hk.2.2.1⟩), h.le⟩⟩
 have HC5 := mk_ hC5
 have HC5L := mk_ hC5L
 have HL5 := mk_ hL5
 have HC6 := mk_ hC6
 have HC6L := mk_ hC6L
 have HL6 := mk_ hL6
 have HFL := mk_ hfl
 have HCL := mk_ hcl
 have HDS := mk_ hds
 have HLE := mk_ h.le
 clear h hC5 hC5L hL5 hC6 hC6L hL6 hfl hcl hds
 by_cases q1 : x.f0 = 1
 ·
  have hsp : look f ds x = scanN f x := by unfold look; rw [if_pos q1]
  rw [hsp]
  clear hsp
  have hk1 : (x.f0 = 1) = True := eq_true q1
  have hd1 : decide (x.f0 = 1) = true := decide_eq_true q1
  have hq1 : (x.f0 == 1) = true := beq_iff_eq.2 q1
  clear q1
  generalize hz : scanN f x = r
  obtain ⟨⟨rt, rw_, rv⟩, re⟩ := r
  have HZ := mk_ hz
  clear hz
  go_enter Try.func40, Try.ntmps40
  go_wp2_with (first | (go_at_call 49; have hB' : Below w.heap.size w ((w.alloc (.cells #[.int .i64 x.f0, .int .i64 x.f1, .int .i64 x.f2, .int .i64 x.f3, .int .i64 x.f4.f0, .int .i64 x.f4.f1, .int .i64 x.f4.f2, .int .i64 x.f4.f3.f0, .int .i64 x.f4.f3.f1, .string x.f4.f3.f2, .slice A5 x.f5.length c5, .slice A6 x.f6.length c6, .int .i64 x.f7, .int .i64 x.f8] 34)).alloc (.cells #[.slice none 0 0, .int .i64 0, .int .i64 0] 66)) := aM (aM (Below.refl _ _) _) _; refine (scan_calls (x := x) (HW.out.below hB') HFL.out HCL.out).mono ?_; rw [HZ.out]; rintro e V ⟨u, rfl, hru, hq⟩; replace hru := R_mono hru (ok' := fun k => (ok k ∧ some k ≠ v.ownBlock ∧ k < w.heap.size) ∨ w.heap.size + 2 ≤ k) (fun k hk => hk.elim (fun a => .inl ⟨a.1.1, a.2, a.1.2⟩) (fun a => .inr (by have hsz : (((w.alloc (.cells #[.int .i64 x.f0, .int .i64 x.f1, .int .i64 x.f2, .int .i64 x.f3, .int .i64 x.f4.f0, .int .i64 x.f4.f1, .int .i64 x.f4.f2, .int .i64 x.f4.f3.f0, .int .i64 x.f4.f3.f1, .string x.f4.f3.f2, .slice A5 x.f5.length c5, .slice A6 x.f6.length c6, .int .i64 x.f7, .int .i64 x.f8] 34)).alloc (.cells #[.slice none 0 0, .int .i64 0, .int .i64 0] 66))).heap.size = w.heap.size + 2 := (by simp); rw [hsz] at a; exact a))); obtain ⟨Au, cu, rfl⟩ := bE hru; have hbV := aG hB' hq; have bRV := aC (blk2 _ _ _) hq; have hR0V := aA bRV; have fR0V := aD bRV))
  refine bodyPost_ret (aT rfl _ _ _ 66 #[.slice Au rt.length cu, .int .i64 rw_, .int .i64 rv] (0, 0) _ rfl (blkS bRV _ _ _) Try.underlying66 rfl z1_) rfl ?_
  exact Got.handed (d := (rt, rw_, rv)) HLE.out hru hbV _ _ _
 by_cases q2 : x.f0 = 2
 ·
  have hsp : look f ds x = filterN ds x := by unfold look; rw [if_neg q1, if_pos q2]
  rw [hsp]
  clear hsp
  have hk1 : (x.f0 = 1) = False := eq_false q1
  have hd1 : decide (x.f0 = 1) = false := decide_eq_false q1
  have hq1 : (x.f0 == 1) = false := beq_eq_false_iff_ne.2 q1
  have hk2 : (x.f0 = 2) = True := eq_true q2
  have hd2 : decide (x.f0 = 2) = true := decide_eq_true q2
  have hq2 : (x.f0 == 2) = true := beq_iff_eq.2 q2
  clear q1 q2
  generalize hz : filterN ds x = r
  obtain ⟨⟨rt, rw_, rv⟩, re⟩ := r
  have HZ := mk_ hz
  clear hz
  go_enter Try.func40, Try.ntmps40
  go_wp2_with (first | (go_at_call 50; have hB' : Below w.heap.size w ((w.alloc (.cells #[.int .i64 x.f0, .int .i64 x.f1, .int .i64 x.f2, .int .i64 x.f3, .int .i64 x.f4.f0, .int .i64 x.f4.f1, .int .i64 x.f4.f2, .int .i64 x.f4.f3.f0, .int .i64 x.f4.f3.f1, .string x.f4.f3.f2, .slice A5 x.f5.length c5, .slice A6 x.f6.length c6, .int .i64 x.f7, .int .i64 x.f8] 34)).alloc (.cells #[.slice none 0 0, .int .i64 0, .int .i64 0] 66)) := aM (aM (Below.refl _ _) _) _; refine (filter_calls (x := x) (HW.out.below hB') hl).mono ?_; rw [HZ.out]; rintro e V ⟨u, rfl, hru, hq⟩; replace hru := R_mono hru (ok' := fun k => (ok k ∧ some k ≠ v.ownBlock ∧ k < w.heap.size) ∨ w.heap.size + 2 ≤ k) (fun k hk => hk.elim (fun a => .inl ⟨a.1.1, a.2, a.1.2⟩) (fun a => .inr (by have hsz : (((w.alloc (.cells #[.int .i64 x.f0, .int .i64 x.f1, .int .i64 x.f2, .int .i64 x.f3, .int .i64 x.f4.f0, .int .i64 x.f4.f1, .int .i64 x.f4.f2, .int .i64 x.f4.f3.f0, .int .i64 x.f4.f3.f1, .string x.f4.f3.f2, .slice A5 x.f5.length c5, .slice A6 x.f6.length c6, .int .i64 x.f7, .int .i64 x.f8] 34)).alloc (.cells #[.slice none 0 0, .int .i64 0, .int .i64 0] 66))).heap.size = w.heap.size + 2 := (by simp); rw [hsz] at a; exact a))); obtain ⟨Au, cu, rfl⟩ := bE hru; have hbV := aG hB' hq; have bRV := aC (blk2 _ _ _) hq; have hR0V := aA bRV; have fR0V := aD bRV))
  refine bodyPost_ret (aT rfl _ _ _ 66 #[.slice Au rt.length cu, .int .i64 rw_, .int .i64 rv] (0, 0) _ rfl (blkS bRV _ _ _) Try.underlying66 rfl z1_) rfl ?_
  exact Got.handed (d := (rt, rw_, rv)) HLE.out hru hbV _ _ _
 by_cases q3 : x.f0 = 3
 ·
  have hsp : look f ds x = projectN ds x := by unfold look; rw [if_neg q1, if_neg q2, if_pos q3]
  rw [hsp]
  clear hsp
  have hk1 : (x.f0 = 1) = False := eq_false q1
  have hd1 : decide (x.f0 = 1) = false := decide_eq_false q1
  have hq1 : (x.f0 == 1) = false := beq_eq_false_iff_ne.2 q1
  have hk2 : (x.f0 = 2) = False := eq_false q2
  have hd2 : decide (x.f0 = 2) = false := decide_eq_false q2
  have hq2 : (x.f0 == 2) = false := beq_eq_false_iff_ne.2 q2
  have hk3 : (x.f0 = 3) = True := eq_true q3
  have hd3 : decide (x.f0 = 3) = true := decide_eq_true q3
  have hq3 : (x.f0 == 3) = true := beq_iff_eq.2 q3
  clear q1 q2 q3
  generalize hz : projectN ds x = r
  obtain ⟨⟨rt, rw_, rv⟩, re⟩ := r
  have HZ := mk_ hz
  clear hz
  go_enter Try.func40, Try.ntmps40
  go_wp2_with (first | (go_at_call 51; have hB' : Below w.heap.size w ((w.alloc (.cells #[.int .i64 x.f0, .int .i64 x.f1, .int .i64 x.f2, .int .i64 x.f3, .int .i64 x.f4.f0, .int .i64 x.f4.f1, .int .i64 x.f4.f2, .int .i64 x.f4.f3.f0, .int .i64 x.f4.f3.f1, .string x.f4.f3.f2, .slice A5 x.f5.length c5, .slice A6 x.f6.length c6, .int .i64 x.f7, .int .i64 x.f8] 34)).alloc (.cells #[.slice none 0 0, .int .i64 0, .int .i64 0] 66)) := aM (aM (Below.refl _ _) _) _; refine (project_calls (x := x) (HW.out.below hB') hl HDS.out (aN HC5.out hB') HC5L.out HL5.out).mono ?_; rw [HZ.out]; rintro e V ⟨u, rfl, hru, hq⟩; replace hru := R_mono hru (ok' := fun k => (ok k ∧ some k ≠ v.ownBlock ∧ k < w.heap.size) ∨ w.heap.size + 2 ≤ k) (fun k hk => hk.elim (fun a => .inl ⟨a.1.1, a.2, a.1.2⟩) (fun a => .inr (by have hsz : (((w.alloc (.cells #[.int .i64 x.f0, .int .i64 x.f1, .int .i64 x.f2, .int .i64 x.f3, .int .i64 x.f4.f0, .int .i64 x.f4.f1, .int .i64 x.f4.f2, .int .i64 x.f4.f3.f0, .int .i64 x.f4.f3.f1, .string x.f4.f3.f2, .slice A5 x.f5.length c5, .slice A6 x.f6.length c6, .int .i64 x.f7, .int .i64 x.f8] 34)).alloc (.cells #[.slice none 0 0, .int .i64 0, .int .i64 0] 66))).heap.size = w.heap.size + 2 := (by simp); rw [hsz] at a; exact a))); obtain ⟨Au, cu, rfl⟩ := bE hru; have hbV := aG hB' hq; have bRV := aC (blk2 _ _ _) hq; have hR0V := aA bRV; have fR0V := aD bRV))
  refine bodyPost_ret (aT rfl _ _ _ 66 #[.slice Au rt.length cu, .int .i64 rw_, .int .i64 rv] (0, 0) _ rfl (blkS bRV _ _ _) Try.underlying66 rfl z1_) rfl ?_
  exact Got.handed (d := (rt, rw_, rv)) HLE.out hru hbV _ _ _
 by_cases q4 : x.f0 = 4
 ·
  have hsp : look f ds x = joinN ds x := by unfold look; rw [if_neg q1, if_neg q2, if_neg q3, if_pos q4]
  rw [hsp]
  clear hsp
  have hk1 : (x.f0 = 1) = False := eq_false q1
  have hd1 : decide (x.f0 = 1) = false := decide_eq_false q1
  have hq1 : (x.f0 == 1) = false := beq_eq_false_iff_ne.2 q1
  have hk2 : (x.f0 = 2) = False := eq_false q2
  have hd2 : decide (x.f0 = 2) = false := decide_eq_false q2
  have hq2 : (x.f0 == 2) = false := beq_eq_false_iff_ne.2 q2
  have hk3 : (x.f0 = 3) = False := eq_false q3
  have hd3 : decide (x.f0 = 3) = false := decide_eq_false q3
  have hq3 : (x.f0 == 3) = false := beq_eq_false_iff_ne.2 q3
  have hk4 : (x.f0 = 4) = True := eq_true q4
  have hd4 : decide (x.f0 = 4) = true := decide_eq_true q4
  have hq4 : (x.f0 == 4) = true := beq_iff_eq.2 q4
  clear q1 q2 q3 q4
  generalize hz : joinN ds x = r
  obtain ⟨⟨rt, rw_, rv⟩, re⟩ := r
  have HZ := mk_ hz
  clear hz
  go_enter Try.func40, Try.ntmps40
  go_wp2_with (first | (go_at_call 52; have hB' : Below w.heap.size w ((w.alloc (.cells #[.int .i64 x.f0, .int .i64 x.f1, .int .i64 x.f2, .int .i64 x.f3, .int .i64 x.f4.f0, .int .i64 x.f4.f1, .int .i64 x.f4.f2, .int .i64 x.f4.f3.f0, .int .i64 x.f4.f3.f1, .string x.f4.f3.f2, .slice A5 x.f5.length c5, .slice A6 x.f6.length c6, .int .i64 x.f7, .int .i64 x.f8] 34)).alloc (.cells #[.slice none 0 0, .int .i64 0, .int .i64 0] 66)) := aM (aM (Below.refl _ _) _) _; refine (join_calls (x := x) (HW.out.below hB') hl HDS.out (aN HC5.out hB') HC5L.out HL5.out (aN HC6.out hB') HC6L.out HL6.out).mono ?_; rw [HZ.out]; rintro e V ⟨u, rfl, hru, hq⟩; replace hru := R_mono hru (ok' := fun k => (ok k ∧ some k ≠ v.ownBlock ∧ k < w.heap.size) ∨ w.heap.size + 2 ≤ k) (fun k hk => hk.elim (fun a => .inl ⟨a.1.1, a.2, a.1.2⟩) (fun a => .inr (by have hsz : (((w.alloc (.cells #[.int .i64 x.f0, .int .i64 x.f1, .int .i64 x.f2, .int .i64 x.f3, .int .i64 x.f4.f0, .int .i64 x.f4.f1, .int .i64 x.f4.f2, .int .i64 x.f4.f3.f0, .int .i64 x.f4.f3.f1, .string x.f4.f3.f2, .slice A5 x.f5.length c5, .slice A6 x.f6.length c6, .int .i64 x.f7, .int .i64 x.f8] 34)).alloc (.cells #[.slice none 0 0, .int .i64 0, .int .i64 0] 66))).heap.size = w.heap.size + 2 := (by simp); rw [hsz] at a; exact a))); obtain ⟨Au, cu, rfl⟩ := bE hru; have hbV := aG hB' hq; have bRV := aC (blk2 _ _ _) hq; have hR0V := aA bRV; have fR0V := aD bRV))
  refine bodyPost_ret (aT rfl _ _ _ 66 #[.slice Au rt.length cu, .int .i64 rw_, .int .i64 rv] (0, 0) _ rfl (blkS bRV _ _ _) Try.underlying66 rfl z1_) rfl ?_
  exact Got.handed (d := (rt, rw_, rv)) HLE.out hru hbV _ _ _
 by_cases q5 : x.f0 = 5
 ·
  have hsp : look f ds x = bothN ds x := by unfold look; rw [if_neg q1, if_neg q2, if_neg q3, if_neg q4, if_pos (.inl q5)]
  rw [hsp]
  clear hsp
  have hk1 : (x.f0 = 1) = False := eq_false q1
  have hd1 : decide (x.f0 = 1) = false := decide_eq_false q1
  have hq1 : (x.f0 == 1) = false := beq_eq_false_iff_ne.2 q1
  have hk2 : (x.f0 = 2) = False := eq_false q2
  have hd2 : decide (x.f0 = 2) = false := decide_eq_false q2
  have hq2 : (x.f0 == 2) = false := beq_eq_false_iff_ne.2 q2
  have hk3 : (x.f0 = 3) = False := eq_false q3
  have hd3 : decide (x.f0 = 3) = false := decide_eq_false q3
  have hq3 : (x.f0 == 3) = false := beq_eq_false_iff_ne.2 q3
  have hk4 : (x.f0 = 4) = False := eq_false q4
  have hd4 : decide (x.f0 = 4) = false := decide_eq_false q4
  have hq4 : (x.f0 == 4) = false := beq_eq_false_iff_ne.2 q4
  have hk5 : (x.f0 = 5) = True := eq_true q5
  have hd5 : decide (x.f0 = 5) = true := decide_eq_true q5
  have hq5 : (x.f0 == 5) = true := beq_iff_eq.2 q5
  clear q1 q2 q3 q4 q5
  generalize hz : bothN ds x = r
  obtain ⟨⟨rt, rw_, rv⟩, re⟩ := r
  have HZ := mk_ hz
  clear hz
  go_enter Try.func40, Try.ntmps40
  go_wp2_with (first | (go_at_call 53; have hB' : Below w.heap.size w ((w.alloc (.cells #[.int .i64 x.f0, .int .i64 x.f1, .int .i64 x.f2, .int .i64 x.f3, .int .i64 x.f4.f0, .int .i64 x.f4.f1, .int .i64 x.f4.f2, .int .i64 x.f4.f3.f0, .int .i64 x.f4.f3.f1, .string x.f4.f3.f2, .slice A5 x.f5.length c5, .slice A6 x.f6.length c6, .int .i64 x.f7, .int .i64 x.f8] 34)).alloc (.cells #[.slice none 0 0, .int .i64 0, .int .i64 0] 66)) := aM (aM (Below.refl _ _) _) _; refine (both_calls (x := x) (HW.out.below hB') hl HDS.out).mono ?_; rw [HZ.out]; rintro e V ⟨u, rfl, hru, hq⟩; replace hru := R_mono hru (ok' := fun k => (ok k ∧ some k ≠ v.ownBlock ∧ k < w.heap.size) ∨ w.heap.size + 2 ≤ k) (fun k hk => hk.elim (fun a => .inl ⟨a.1.1, a.2, a.1.2⟩) (fun a => .inr (by have hsz : (((w.alloc (.cells #[.int .i64 x.f0, .int .i64 x.f1, .int .i64 x.f2, .int .i64 x.f3, .int .i64 x.f4.f0, .int .i64 x.f4.f1, .int .i64 x.f4.f2, .int .i64 x.f4.f3.f0, .int .i64 x.f4.f3.f1, .string x.f4.f3.f2, .slice A5 x.f5.length c5, .slice A6 x.f6.length c6, .int .i64 x.f7, .int .i64 x.f8] 34)).alloc (.cells #[.slice none 0 0, .int .i64 0, .int .i64 0] 66))).heap.size = w.heap.size + 2 := (by simp); rw [hsz] at a; exact a))); obtain ⟨Au, cu, rfl⟩ := bE hru; have hbV := aG hB' hq; have bRV := aC (blk2 _ _ _) hq; have hR0V := aA bRV; have fR0V := aD bRV))
  refine bodyPost_ret (aT rfl _ _ _ 66 #[.slice Au rt.length cu, .int .i64 rw_, .int .i64 rv] (0, 0) _ rfl (blkS bRV _ _ _) Try.underlying66 rfl z1_) rfl ?_
  exact Got.handed (d := (rt, rw_, rv)) HLE.out hru hbV _ _ _
 by_cases q6 : x.f0 = 6
 ·
  have hsp : look f ds x = bothN ds x := by unfold look; rw [if_neg q1, if_neg q2, if_neg q3, if_neg q4, if_pos (.inr q6)]
  rw [hsp]
  clear hsp
  have hk1 : (x.f0 = 1) = False := eq_false q1
  have hd1 : decide (x.f0 = 1) = false := decide_eq_false q1
  have hq1 : (x.f0 == 1) = false := beq_eq_false_iff_ne.2 q1
  have hk2 : (x.f0 = 2) = False := eq_false q2
  have hd2 : decide (x.f0 = 2) = false := decide_eq_false q2
  have hq2 : (x.f0 == 2) = false := beq_eq_false_iff_ne.2 q2
  have hk3 : (x.f0 = 3) = False := eq_false q3
  have hd3 : decide (x.f0 = 3) = false := decide_eq_false q3
  have hq3 : (x.f0 == 3) = false := beq_eq_false_iff_ne.2 q3
  have hk4 : (x.f0 = 4) = False := eq_false q4
  have hd4 : decide (x.f0 = 4) = false := decide_eq_false q4
  have hq4 : (x.f0 == 4) = false := beq_eq_false_iff_ne.2 q4
  have hk5 : (x.f0 = 5) = False := eq_false q5
  have hd5 : decide (x.f0 = 5) = false := decide_eq_false q5
  have hq5 : (x.f0 == 5) = false := beq_eq_false_iff_ne.2 q5
  have hk6 : (x.f0 = 6) = True := eq_true q6
  have hd6 : decide (x.f0 = 6) = true := decide_eq_true q6
  have hq6 : (x.f0 == 6) = true := beq_iff_eq.2 q6
  clear q1 q2 q3 q4 q5 q6
  generalize hz : bothN ds x = r
  obtain ⟨⟨rt, rw_, rv⟩, re⟩ := r
  have HZ := mk_ hz
  clear hz
  go_enter Try.func40, Try.ntmps40
  go_wp2_with (first | (go_at_call 53; have hB' : Below w.heap.size w ((w.alloc (.cells #[.int .i64 x.f0, .int .i64 x.f1, .int .i64 x.f2, .int .i64 x.f3, .int .i64 x.f4.f0, .int .i64 x.f4.f1, .int .i64 x.f4.f2, .int .i64 x.f4.f3.f0, .int .i64 x.f4.f3.f1, .string x.f4.f3.f2, .slice A5 x.f5.length c5, .slice A6 x.f6.length c6, .int .i64 x.f7, .int .i64 x.f8] 34)).alloc (.cells #[.slice none 0 0, .int .i64 0, .int .i64 0] 66)) := aM (aM (Below.refl _ _) _) _; refine (both_calls (x := x) (HW.out.below hB') hl HDS.out).mono ?_; rw [HZ.out]; rintro e V ⟨u, rfl, hru, hq⟩; replace hru := R_mono hru (ok' := fun k => (ok k ∧ some k ≠ v.ownBlock ∧ k < w.heap.size) ∨ w.heap.size + 2 ≤ k) (fun k hk => hk.elim (fun a => .inl ⟨a.1.1, a.2, a.1.2⟩) (fun a => .inr (by have hsz : (((w.alloc (.cells #[.int .i64 x.f0, .int .i64 x.f1, .int .i64 x.f2, .int .i64 x.f3, .int .i64 x.f4.f0, .int .i64 x.f4.f1, .int .i64 x.f4.f2, .int .i64 x.f4.f3.f0, .int .i64 x.f4.f3.f1, .string x.f4.f3.f2, .slice A5 x.f5.length c5, .slice A6 x.f6.length c6, .int .i64 x.f7, .int .i64 x.f8] 34)).alloc (.cells #[.slice none 0 0, .int .i64 0, .int .i64 0] 66))).heap.size = w.heap.size + 2 := (by simp); rw [hsz] at a; exact a))); obtain ⟨Au, cu, rfl⟩ := bE hru; have hbV := aG hB' hq; have bRV := aC (blk2 _ _ _) hq; have hR0V := aA bRV; have fR0V := aD bRV))
  refine bodyPost_ret (aT rfl _ _ _ 66 #[.slice Au rt.length cu, .int .i64 rw_, .int .i64 rv] (0, 0) _ rfl (blkS bRV _ _ _) Try.underlying66 rfl z1_) rfl ?_
  exact Got.handed (d := (rt, rw_, rv)) HLE.out hru hbV _ _ _
 by_cases q7 : x.f0 = 7
 ·
  have hsp : look f ds x = distinctN ds x := by unfold look; rw [if_neg q1, if_neg q2, if_neg q3, if_neg q4, if_neg z5_, if_pos q7]
  rw [hsp]
  clear hsp
  have hk1 : (x.f0 = 1) = False := eq_false q1
  have hd1 : decide (x.f0 = 1) = false := decide_eq_false q1
  have hq1 : (x.f0 == 1) = false := beq_eq_false_iff_ne.2 q1
  have hk2 : (x.f0 = 2) = False := eq_false q2
  have hd2 : decide (x.f0 = 2) = false := decide_eq_false q2
  have hq2 : (x.f0 == 2) = false := beq_eq_false_iff_ne.2 q2
  have hk3 : (x.f0 = 3) = False := eq_false q3
  have hd3 : decide (x.f0 = 3) = false := decide_eq_false q3
  have hq3 : (x.f0 == 3) = false := beq_eq_false_iff_ne.2 q3
  have hk4 : (x.f0 = 4) = False := eq_false q4
  have hd4 : decide (x.f0 = 4) = false := decide_eq_false q4
  have hq4 : (x.f0 == 4) = false := beq_eq_false_iff_ne.2 q4
  have hk5 : (x.f0 = 5) = False := eq_false q5
  have hd5 : decide (x.f0 = 5) = false := decide_eq_false q5
  have hq5 : (x.f0 == 5) = false := beq_eq_false_iff_ne.2 q5
  have hk6 : (x.f0 = 6) = False := eq_false q6
  have hd6 : decide (x.f0 = 6) = false := decide_eq_false q6
  have hq6 : (x.f0 == 6) = false := beq_eq_false_iff_ne.2 q6
  have hk7 : (x.f0 = 7) = True := eq_true q7
  have hd7 : decide (x.f0 = 7) = true := decide_eq_true q7
  have hq7 : (x.f0 == 7) = true := beq_iff_eq.2 q7
  clear q1 q2 q3 q4 q5 q6 q7
  generalize hz : distinctN ds x = r
  obtain ⟨⟨rt, rw_, rv⟩, re⟩ := r
  have HZ := mk_ hz
  clear hz
  go_enter Try.func40, Try.ntmps40
  go_wp2_with (first | (go_at_call 54; have hB' : Below w.heap.size w ((w.alloc (.cells #[.int .i64 x.f0, .int .i64 x.f1, .int .i64 x.f2, .int .i64 x.f3, .int .i64 x.f4.f0, .int .i64 x.f4.f1, .int .i64 x.f4.f2, .int .i64 x.f4.f3.f0, .int .i64 x.f4.f3.f1, .string x.f4.f3.f2, .slice A5 x.f5.length c5, .slice A6 x.f6.length c6, .int .i64 x.f7, .int .i64 x.f8] 34)).alloc (.cells #[.slice none 0 0, .int .i64 0, .int .i64 0] 66)) := aM (aM (Below.refl _ _) _) _; refine (distinct_calls (x := x) (HW.out.below hB') hl).mono ?_; rw [HZ.out]; rintro e V ⟨u, rfl, hru, hq⟩; replace hru := R_mono hru (ok' := fun k => (ok k ∧ some k ≠ v.ownBlock ∧ k < w.heap.size) ∨ w.heap.size + 2 ≤ k) (fun k hk => hk.elim (fun a => .inl ⟨a.1.1, a.2, a.1.2⟩) (fun a => .inr (by have hsz : (((w.alloc (.cells #[.int .i64 x.f0, .int .i64 x.f1, .int .i64 x.f2, .int .i64 x.f3, .int .i64 x.f4.f0, .int .i64 x.f4.f1, .int .i64 x.f4.f2, .int .i64 x.f4.f3.f0, .int .i64 x.f4.f3.f1, .string x.f4.f3.f2, .slice A5 x.f5.length c5, .slice A6 x.f6.length c6, .int .i64 x.f7, .int .i64 x.f8] 34)).alloc (.cells #[.slice none 0 0, .int .i64 0, .int .i64 0] 66))).heap.size = w.heap.size + 2 := (by simp); rw [hsz] at a; exact a))); obtain ⟨Au, cu, rfl⟩ := bE hru; have hbV := aG hB' hq; have bRV := aC (blk2 _ _ _) hq; have hR0V := aA bRV; have fR0V := aD bRV))
  refine bodyPost_ret (aT rfl _ _ _ 66 #[.slice Au rt.length cu, .int .i64 rw_, .int .i64 rv] (0, 0) _ rfl (blkS bRV _ _ _) Try.underlying66 rfl z1_) rfl ?_
  exact Got.handed (d := (rt, rw_, rv)) HLE.out hru hbV _ _ _
 by_cases q8 : x.f0 = 8
 ·
  have hsp : look f ds x = groupN ds x := by unfold look; rw [if_neg q1, if_neg q2, if_neg q3, if_neg q4, if_neg z5_, if_neg q7, if_pos q8]
  rw [hsp]
  clear hsp
  have hk1 : (x.f0 = 1) = False := eq_false q1
  have hd1 : decide (x.f0 = 1) = false := decide_eq_false q1
  have hq1 : (x.f0 == 1) = false := beq_eq_false_iff_ne.2 q1
  have hk2 : (x.f0 = 2) = False := eq_false q2
  have hd2 : decide (x.f0 = 2) = false := decide_eq_false q2
  have hq2 : (x.f0 == 2) = false := beq_eq_false_iff_ne.2 q2
  have hk3 : (x.f0 = 3) = False := eq_false q3
  have hd3 : decide (x.f0 = 3) = false := decide_eq_false q3
  have hq3 : (x.f0 == 3) = false := beq_eq_false_iff_ne.2 q3
  have hk4 : (x.f0 = 4) = False := eq_false q4
  have hd4 : decide (x.f0 = 4) = false := decide_eq_false q4
  have hq4 : (x.f0 == 4) = false := beq_eq_false_iff_ne.2 q4
  have hk5 : (x.f0 = 5) = False := eq_false q5
  have hd5 : decide (x.f0 = 5) = false := decide_eq_false q5
  have hq5 : (x.f0 == 5) = false := beq_eq_false_iff_ne.2 q5
  have hk6 : (x.f0 = 6) = False := eq_false q6
  have hd6 : decide (x.f0 = 6) = false := decide_eq_false q6
  have hq6 : (x.f0 == 6) = false := beq_eq_false_iff_ne.2 q6
  have hk7 : (x.f0 = 7) = False := eq_false q7
  have hd7 : decide (x.f0 = 7) = false := decide_eq_false q7
  have hq7 : (x.f0 == 7) = false := beq_eq_false_iff_ne.2 q7
  have hk8 : (x.f0 = 8) = True := eq_true q8
  have hd8 : decide (x.f0 = 8) = true := decide_eq_true q8
  have hq8 : (x.f0 == 8) = true := beq_iff_eq.2 q8
  clear q1 q2 q3 q4 q5 q6 q7 q8
  generalize hz : groupN ds x = r
  obtain ⟨⟨rt, rw_, rv⟩, re⟩ := r
  have HZ := mk_ hz
  clear hz
  go_enter Try.func40, Try.ntmps40
  go_wp2_with (first | (go_at_call 55; have hB' : Below w.heap.size w ((w.alloc (.cells #[.int .i64 x.f0, .int .i64 x.f1, .int .i64 x.f2, .int .i64 x.f3, .int .i64 x.f4.f0, .int .i64 x.f4.f1, .int .i64 x.f4.f2, .int .i64 x.f4.f3.f0, .int .i64 x.f4.f3.f1, .string x.f4.f3.f2, .slice A5 x.f5.length c5, .slice A6 x.f6.length c6, .int .i64 x.f7, .int .i64 x.f8] 34)).alloc (.cells #[.slice none 0 0, .int .i64 0, .int .i64 0] 66)) := aM (aM (Below.refl _ _) _) _; refine (group_calls (x := x) (HW.out.below hB') hl HDS.out (aN HC5.out hB') HC5L.out HL5.out).mono ?_; rw [HZ.out]; rintro e V ⟨u, rfl, hru, hq⟩; replace hru := R_mono hru (ok' := fun k => (ok k ∧ some k ≠ v.ownBlock ∧ k < w.heap.size) ∨ w.heap.size + 2 ≤ k) (fun k hk => hk.elim (fun a => .inl ⟨a.1.1, a.2, a.1.2⟩) (fun a => .inr (by have hsz : (((w.alloc (.cells #[.int .i64 x.f0, .int .i64 x.f1, .int .i64 x.f2, .int .i64 x.f3, .int .i64 x.f4.f0, .int .i64 x.f4.f1, .int .i64 x.f4.f2, .int .i64 x.f4.f3.f0, .int .i64 x.f4.f3.f1, .string x.f4.f3.f2, .slice A5 x.f5.length c5, .slice A6 x.f6.length c6, .int .i64 x.f7, .int .i64 x.f8] 34)).alloc (.cells #[.slice none 0 0, .int .i64 0, .int .i64 0] 66))).heap.size = w.heap.size + 2 := (by simp); rw [hsz] at a; exact a))); obtain ⟨Au, cu, rfl⟩ := bE hru; have hbV := aG hB' hq; have bRV := aC (blk2 _ _ _) hq; have hR0V := aA bRV; have fR0V := aD bRV))
  refine bodyPost_ret (aT rfl _ _ _ 66 #[.slice Au rt.length cu, .int .i64 rw_, .int .i64 rv] (0, 0) _ rfl (blkS bRV _ _ _) Try.underlying66 rfl z1_) rfl ?_
  exact Got.handed (d := (rt, rw_, rv)) HLE.out hru hbV _ _ _
 have hsp : look f ds x = (zN, 1) := by unfold look; rw [if_neg q1, if_neg q2, if_neg q3, if_neg q4, if_neg z5_, if_neg q7, if_neg q8]
 rw [hsp]
 clear hsp
 have hk1 : (x.f0 = 1) = False := eq_false q1
 have hd1 : decide (x.f0 = 1) = false := decide_eq_false q1
 have hq1 : (x.f0 == 1) = false := beq_eq_false_iff_ne.2 q1
 have hk2 : (x.f0 = 2) = False := eq_false q2
 have hd2 : decide (x.f0 = 2) = false := decide_eq_false q2
 have hq2 : (x.f0 == 2) = false := beq_eq_false_iff_ne.2 q2
 have hk3 : (x.f0 = 3) = False := eq_false q3
 have hd3 : decide (x.f0 = 3) = false := decide_eq_false q3
 have hq3 : (x.f0 == 3) = false := beq_eq_false_iff_ne.2 q3
 have hk4 : (x.f0 = 4) = False := eq_false q4
 have hd4 : decide (x.f0 = 4) = false := decide_eq_false q4
 have hq4 : (x.f0 == 4) = false := beq_eq_false_iff_ne.2 q4
 have hk5 : (x.f0 = 5) = False := eq_false q5
 have hd5 : decide (x.f0 = 5) = false := decide_eq_false q5
 have hq5 : (x.f0 == 5) = false := beq_eq_false_iff_ne.2 q5
 have hk6 : (x.f0 = 6) = False := eq_false q6
 have hd6 : decide (x.f0 = 6) = false := decide_eq_false q6
 have hq6 : (x.f0 == 6) = false := beq_eq_false_iff_ne.2 q6
 have hk7 : (x.f0 = 7) = False := eq_false q7
 have hd7 : decide (x.f0 = 7) = false := decide_eq_false q7
 have hq7 : (x.f0 == 7) = false := beq_eq_false_iff_ne.2 q7
 have hk8 : (x.f0 = 8) = False := eq_false q8
 have hd8 : decide (x.f0 = 8) = false := decide_eq_false q8
 have hq8 : (x.f0 == 8) = false := beq_eq_false_iff_ne.2 q8
 clear q1 q2 q3 q4 q5 q6 q7 q8
 go_enter Try.func40, Try.ntmps40
 go_wp2
 refine bodyPost_ret (aT rfl _ _ _ 66 #[.slice none 0 0, .int .i64 0, .int .i64 0] (0, 0) _ rfl z3_ Try.underlying66 rfl z1_) rfl ?_
 exact Got.zero z0_
end
end Go.Proofs.Ytimbbaoodjhdoaa.Plan
end
