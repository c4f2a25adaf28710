-- Put together by a program of this session (wip/slice2.py) out of the seat's texts.
import Derived.Test.YtimbbaoodjhdoaaZPTp6
import Derived.Test.YtimbbaoodjhdoaaZPTq4
import Derived.Test.YtimbbaoodjhdoaaZPTq10

set_option maxHeartbeats 8000000
set_option maxRecDepth 100000
open Go.Proofs.YtimbbaoodjhdoaaW Go.Proofs.Ytimbbaoodjhdoaa
section
namespace Go.Proofs.Ytimbbaoodjhdoaa.Plan
open Go.RowKit PAll Plain PrintWords PrintLast PrintMore ZipT PrintWords.Kd PrintMore.Kd
set_option linter.unusedVariables false
set_option linter.unusedSimpArgs false
def ofNd (d : Nd) : Bo := ⟨d.1, d.2.1, d.2.2⟩
theorem ofNd_toNd (ds : List Bo) : (rows ds).map ofNd = ds := by
 unfold rows
 rw [List.map_map]
 exact List.map_id _
theorem infoBo : (Try.prog.info? 49).map (fun i => (i.zero, i.size, i.bytes)) = some (some (.agg #[.slice none 0 0, .int .i64 0, .int .i64 0]), 3, 40) := by kernel_rfl
theorem rows_snoc (ds : List Bo) (b : Bo) : rows (ds ++ [b]) = rows ds ++ [toNd b] := by simp [rows]
theorem plan14_calls (AL : Option Addr) (cL : Nat) (l : List No) (A0 : Option Addr) (c0 : Nat) (f : List Tb) (w : World) (hCl : Kd.C k34 w AL l.length l) (hcl : l.length ≤ cL) (hCf : Kd.C k54 w A0 f.length f) (hcf : f.length ≤ c0)
  (hll : l.length ≤ 1000) (hlf : f.length ≤ 1000) (hln : ∀ x ∈ l, x.f5.length ≤ 1000 ∧ x.f6.length ≤ 1000) (hlt : ∀ t ∈ f, t.f0.length ≤ 1000) :
  Calls Try.prog 11 #[.slice AL l.length cL, .slice A0 f.length c0] w fun e w' => ∃ v0_, e = .returned (.tuple #[v0_, .int .i64 (planN l f).2]) ∧ Kd.S k49 49 w' w.heap.size (fun _ => True) v0_ ((planN l f).1.map ofNd) ∧ Below w.heap.size w w' := by
 have HCl := mk_ hCl
 have HCf := mk_ hCf
 have HLL := mk_ hll
 have HLF := mk_ hlf
 have HLN := mk_ hln
 have HLT := mk_ hlt
 have HFE := mk_ (rforms_eq (9 * f.length + 10) f hlf z5_)
 clear hCl hll hlf hln hlt
 by_cases he : formsE f ≠ 0
 ·
  have hp : planN l f = ([], formsE f) := by unfold planN; rw [if_pos he]
  rw [hp]
  have hk1 : (formsE f = 0) = False := eq_false he
  have hk2 : decide (formsE f = 0) = false := decide_eq_false he
  have hk3 : (formsE f != 0) = true := bne_iff_ne.2 he
  have hk4 : (formsE f == 0) = false := beq_eq_false_iff_ne.2 he
  clear he hp
  generalize formsE f = er at *
  go_enter Try.func11, Try.ntmps11
  go_wp2_with (go_at_call 25; refine (PAll.raddleref01_Forms.calls (9 * f.length + 10) A0 c0 f er _ hCf hcf HFE.out).mono ?_; rintro e W1 ⟨rfl, hq1⟩; obtain ⟨nf, rfl⟩ := hq1)
  go_ret2
  exact ⟨_, rfl, S_nil _ _ _ _ _, aZ (Below.refl _ _) _⟩
 have he0 : formsE f = 0 := by omega
 rw [he0] at HFE
 by_cases hlen : l.length < 1 ∨ l.length > 12
 ·
  have hp : planN l f = ([], 2) := by unfold planN; rw [if_neg he, if_pos hlen]
  rw [hp]
  have HIN := mk_ (show raddleref14_in.f (l.length : Int) 1 12 = some false from by rw [bL, decide_eq_false]; omega)
  clear he hp hlen he0
  go_enter Try.func11, Try.ntmps11
  go_wp2_with (first | (go_at_call 25; refine (PAll.raddleref01_Forms.calls (9 * f.length + 10) A0 c0 f 0 _ hCf hcf HFE.out).mono ?_; rintro e W1 ⟨rfl, hq1⟩; obtain ⟨nf, rfl⟩ := hq1) | (go_at_call 26; refine (PAll.raddleref14_in.calls (l.length : Int) 1 12 false _ HIN.out).mono ?_; rintro e w' ⟨rfl, ⟨m0, rfl⟩⟩))
  go_ret2
  exact ⟨_, rfl, S_nil _ _ _ _ _, by repeat (first | exact Below.refl _ _ | refine aZ ?_ _)⟩
 have HIN := mk_ (show raddleref14_in.f (l.length : Int) 1 12 = some true from by rw [bL, decide_eq_true]; omega)
 have HFO := mk_ (show FOk f from he0)
 have HKL := mk_ (show l.length ≤ 12 ∧ 1 ≤ l.length by omega)
 have hp : planN l f = walkN f l [] := gJ he0 z5_ z5_
 rw [hp]
 clear he he0 hlen hp
 go_enter Try.func11, Try.ntmps11
 go_wp2_with (first | (go_at_call 25; refine (PAll.raddleref01_Forms.calls (9 * f.length + 10) A0 c0 f 0 _ hCf hcf HFE.out).mono ?_; rintro e W1 ⟨rfl, hq1⟩; obtain ⟨nf, rfl⟩ := hq1) | (go_at_call 26; refine (PAll.raddleref14_in.calls (l.length : Int) 1 12 true _ HIN.out).mono ?_; rintro e w' ⟨rfl, ⟨m0, rfl⟩⟩))
 go_loopg [7, 8] (l.length + 1) (fun kq v7 v8 W' => ∃ (i : Nat) (ds : List Bo), v8 = .int .i64 (i : Int) ∧ Aside0 (walkN f l [] = walkN f (l.drop i) (rows ds)) ∧ Aside0 (ds.length = i ∧ ∀ d ∈ rows ds, NdOk d) ∧ Aside0 (kq + i = l.length + 1 ∧ i ≤ l.length) ∧ Aside0 (Below w.heap.size w W') ∧ Aside0 (Kd.S k49 49 W' w.heap.size (fun k => w.heap.size ≤ k) v7 ds))
 case atStart => exact ⟨0, [], rfl, ⟨rfl⟩, ⟨rfl, fun d hd => by cases hd⟩, ⟨by omega⟩, ⟨by repeat (first | exact Below.refl _ _ | refine aZ ?_ _)⟩, ⟨S_nil _ _ _ _ _⟩⟩
 case round =>
  obtain ⟨i, ds, rfl, HWN, HDL, HK, HB, HR⟩ := hrel
  obtain ⟨k1, rfl⟩ : ∃ k1, gk = k1 + 1 := ⟨gk - 1, by have := HK.out; omega⟩
  obtain ⟨AD, cD, hvv, hcD, hCD⟩ := S_reads HR.out
  subst hvv
  have HCD := mk_ hCD
  have HLD := mk_ hcD
  clear hCD hcD
  by_cases hi : i < l.length
  rotate_left
  ·
   have hie : i = l.length := by have := HK.out; omega
   subst hie
   rw [List.drop_length] at HWN
   have hb2' : decide ((l.length : Int) < (l.length : Int)) = false := decide_eq_false z5_
   have hb3' : decide (l.length < l.length) = false := decide_eq_false z5_
   clear hi
   go_wp2
   go_ret2
   rw [HWN.out]
   show ∃ v0_, _ ∧ _ ∧ _
   exact ⟨_, rfl, by show Kd.S k49 _ _ _ _ _ ((rows ds).map ofNd); rw [ofNd_toNd]; exact S_mono HR.out (fun _ _ => trivial), HB.out⟩
  obtain ⟨ad, A5, c5, A6, c6, hA, hx0, hx1, hx2, hx3, hx4, hx5, hx6, hx7, hx8, hx9, hx10, hx11, hx12, hx13, hl5, hC5, hl6, hC6⟩ := fB HCl.out (i : Int) z5_ z5_
  subst hA
  simp only [Int.toNat_natCast] at hx0 hx1 hx2 hx3 hx4 hx5 hx6 hx7 hx8 hx9 hx10 hx11 hx12 hx13
  replace hx0 := aE HB.out hx0
  replace hx1 := aE HB.out hx1
  replace hx2 := aE HB.out hx2
  replace hx3 := aE HB.out hx3
  replace hx4 := aE HB.out hx4
  replace hx5 := aE HB.out hx5
  replace hx6 := aE HB.out hx6
  replace hx7 := aE HB.out hx7
  replace hx8 := aE HB.out hx8
  replace hx9 := aE HB.out hx9
  replace hx10 := aE HB.out hx10
  replace hx11 := aE HB.out hx11
  replace hx12 := aE HB.out hx12
  replace hx13 := aE HB.out hx13
  have hxm : bM l (i : Int) ∈ l := fN (by rw [Int.toNat_natCast]; exact hi)
  have hdx : l.drop i = bM l (i : Int) :: l.drop (i + 1) := by
   rw [List.drop_eq_getElem_cons hi]
   congr 1
   show _ = l.getD ((i : Int).toNat) _
   rw [Int.toNat_natCast, List.getD_eq_getElem?_getD, List.getElem?_eq_getElem hi]; rfl
  have HLX := mk_ (HLN.out _ hxm)
  have HWX := mk_ (HWN.out.trans (by rw [hdx]; rfl) : walkN f l [] = if (look f (rows ds) (bM l (i : Int))).2 = 0 then walkN f (l.drop (i + 1)) (rows ds ++ [(look f (rows ds) (bM l (i : Int))).1]) else ([], (look f (rows ds) (bM l (i : Int))).2))
  have HLO := mk_ (fun e => look_ok HFO.out HDL.out.2 (bM l (i : Int)) e)
  have hb0' : (0 ≤ (i : Int)) = True := eq_true z5_
  have hb1' : ((i : Int) < (l.length : Int)) = True := eq_true z5_
  have hb2' : decide ((i : Int) < (l.length : Int)) = true := decide_eq_true z5_
  have hb3' : decide (i < l.length) = true := decide_eq_true hi
  have HI2 := mk_ hi
  have HC5 := mk_ hC5
  have HC6 := mk_ hC6
  have HL5 := mk_ hl5
  have HL6 := mk_ hl6
  clear hi hxm hdx hC5 hC6 hl5 hl6 HWN
  generalize bM l (i : Int) = x at *
  generalize hz : look f (rows ds) x = r at *
  obtain ⟨⟨rt, rw_, rv⟩, re⟩ := r
  have HZ := mk_ hz
  clear hz
  have hdl : ds.length ≤ 1000 := by have := HDL.out.1; have := HKL.out.1; have := HI2.out; omega
  by_cases hre : re = 0
  case neg =>
   have HWY := mk_ (HWX.out.trans (if_neg hre))
   have hk1 : (re = 0) = False := eq_false hre
   have hk2 : decide (re = 0) = false := decide_eq_false hre
   have hk3 : (re != 0) = true := bne_iff_ne.2 hre
   have hk4 : (re == 0) = false := beq_eq_false_iff_ne.2 hre
   clear hre HWX HLO
   go_wp2_with (go_at_call 27; refine (node_calls (x := x) (ds := ds) (A2 := AD) (c2 := cD) (aN HCf.out HB.out) hcf HFO.out HCD.out HLD.out hdl HDL.out.2 (aN HC5.out HB.out) HL5.out HLX.out.1 (aN HC6.out HB.out) HL6.out HLX.out.2).mono ?_; rw [HZ.out]; rintro e V ⟨u, rfl, hru, hq⟩; obtain ⟨Au, cu, rfl⟩ := bE hru; have HRU := mk_ hru; have HQ := mk_ hq; clear hru hq)
   go_ret2
   rw [HWY.out]
   exact ⟨_, rfl, S_nil _ _ _ _ _, by repeat (first | exact HB.out | exact aG HB.out HQ.out | (with_reducible refine aI ?_ (by have := HB.out.size; have := HQ.out.size; show _ ≤ _; omega)) | refine aM ?_ _ | refine bP ?_ | refine aZ ?_ _)⟩
  subst hre
  have HWY := mk_ (HWX.out.trans (if_pos rfl))
  have HLO2 := mk_ (HLO.out rfl)
  clear HWX HLO
  go_wp2_with (first | (go_at_call 27; refine (node_calls (x := x) (ds := ds) (A2 := AD) (c2 := cD) (aN HCf.out HB.out) hcf HFO.out HCD.out HLD.out hdl HDL.out.2 (aN HC5.out HB.out) HL5.out HLX.out.1 (aN HC6.out HB.out) HL6.out HLX.out.2).mono ?_; rw [HZ.out]; rintro e V ⟨u, rfl, hru, hq⟩; obtain ⟨Au, cu, rfl⟩ := bE hru; have HRU := mk_ hru; have HQ := mk_ hq; clear hru hq) | ((with_reducible refine cZ (b := .append) (xs := #[.tmp 39, .tmp 41]) rfl ?_); at_builtin; have hqb : Below wr.heap.size wr (V.alloc (.cells #[.slice Au rt.length cu, .int .i64 rw_, .int .i64 rv] 49)) := aM HQ.out _; have hru2 : (Kd.int .i64).R 3 (V.alloc (.cells #[.slice Au rt.length cu, .int .i64 rw_, .int .i64 rv] 49)) w.heap.size (fun k => (w.heap.size ≤ k ∧ some k ≠ (Value.slice AD ds.length cD).ownBlock) ∧ wr.heap.size ≤ k) (.slice Au rt.length cu) rt := bT (R_mono (bG (cF HRU.out) (aM (Below.refl _ _) _)) (fun k hk => ⟨⟨Nat.le_trans HB.out.size hk.2.1, fun e => Nat.not_le_of_lt ((cF (S_R HR.out)).1 k e.symm).2.2.1 hk.2.1⟩, hk.2.1⟩)) HB.out.size; refine S_append k49 (w0 := w) w.heap.size rfl (.tmp 39) (.tmp 41) 24 49 (.agg #[.slice none 0 0, .int .i64 0, .int .i64 0]) 40 rfl Try.underlying24 infoBo rfl z10_ z5_ (.slice AD ds.length cD) ds ⟨rt, rw_, rv⟩ [.slice Au rt.length cu, .int .i64 rw_, .int .i64 rv] (fun k => w.heap.size ≤ k) (fun k => (w.heap.size ≤ k ∧ some k ≠ (Value.slice AD ds.length cD).ownBlock) ∧ wr.heap.size ≤ k) rfl (by rw [show (V.alloc (.cells #[.slice Au rt.length cu, .int .i64 rw_, .int .i64 rv] 49)).heap.size = V.heap.size + 1 from by simp]; rfl) (k49_mkM _ _ _ ⟨rt, rw_, rv⟩ hru2) (fun k hk => hk.1) (fun k hk => by have h1 := HB.out.size; have h2 := hqb.size; show _ ≤ _; omega) (S_below (S_mono (S_bound HR.out) (fun k hk => ⟨hk.1, fun e => Nat.not_le_of_lt hk.2.2.1 e.2⟩)) hqb) (aG HB.out hqb) (Nat.le_trans HB.out.size hqb.size) (by have := HDL.out.1; have := HKL.out.1; omega) ?_; intro v2 W1 hr2 hb2 hg2 _; obtain ⟨A9, c9, rfl⟩ := S_slice hr2))
  go_roundg k1
  case measure => exact Nat.lt_succ_self _
  case rel =>
   refine ⟨i + 1, ds ++ [⟨rt, rw_, rv⟩], by rw [w64 z5_ (by have := HI2.out; have := HKL.out.1; omega)]; rfl, ⟨by rw [rows_snoc]; exact HWY.out⟩, ⟨by rw [List.length_append, HDL.out.1]; rfl, fun d hd => by rw [rows_snoc] at hd; exact (List.mem_append.1 hd).elim (HDL.out.2 d) (fun e => by rw [List.mem_singleton.1 e]; exact HLO2.out)⟩, ⟨by have := HK.out; omega, by have := HI2.out; omega⟩, ⟨hb2⟩, ⟨by rw [List.length_append, List.length_singleton] at hr2; exact hr2⟩⟩
end Go.Proofs.Ytimbbaoodjhdoaa.Plan
end
