-- Put together by a program of this session (wip/slice2.py) out of the seat's texts.
import Derived.Test.YtcbfliajgopdaaaZSUp6
import Derived.StillTailTactics
set_option maxHeartbeats 8000000
set_option maxRecDepth 100000
open Go.Proofs.YtcbfliajgopdaaaW Go.Proofs.Ytcbfliajgopdaaa
section
namespace Go.Proofs.Ytcbfliajgopdaaa.Pads
open Go.RowKit PrintWords PrintLast PrintMore Go.Proofs.Ytcbfliajgopdaaa.Sep ZipT PrintWords.Kd PrintMore.Kd
set_option linter.unusedVariables false
set_option linter.unusedSimpArgs false
section
variable {w : World} {g : Nat} {p : Pd} {F : List Part}
theorem infoSl : (Try.prog.info? 120).map (fun i => (i.zero, i.size, i.bytes)) = some (some (.agg #[.slice none 0 0, .bool false]), 2, 32) := by kernel_rfl
set_option maxHeartbeats 4000000 in
theorem cloneSl_calls {v : Value} {xs ys : List Sl} {A : Option Addr} {c : Nat} (hS : Sp w (Row kSl 120 v xs :: F)) (hl : ys.length ≤ 4000)
  (hR : ∀ ok, (Row kSl 120 v xs).P w ok → ReadsRow (kSl.M w 0 ok) 2 w A ys.length ys) :
  Calls Try.prog 94 #[.slice A ys.length c] w fun e w' => ∃ v', e = .returned v' ∧ Sp w' (Row kSl 120 v' ys :: F) := by
 obtain ⟨ok, h1, h2, h3⟩ := hS.head1
 have hr := hR ok h2
 have H3 := mk_ h3
 have H1 := mk_ h1
 have HR := mk_ hr
 clear h3 h2 hS hR h1
 cases A with
 | none =>
  have hl_ : ys = [] := by
   rcases ys with _ | ⟨x_, xs_⟩
   ·
    rfl
   ·
    obtain ⟨ad_, e_, _⟩ := HR.out.2.2 (by simp)
    exact absurd e_ (by simp)
  subst hl_
  have hnil_ := fun W : World => Lib.run_eql_slice_nil (P := Try.prog) W 115 120 none 0 c 0 0 Try.underlying115
  go_enter Try.func94, Try.ntmps94
  go_wp2
  go_ret
  exact ⟨_, rfl, H3.out _ (Row kSl 120 (.slice none 0 0) []) (Moved.refl _ _) (R_nil _ _ _ _ _)⟩
 | some a0 =>
  have hnil_ := fun W : World => Lib.run_eql_slice_nil (P := Try.prog) W 115 120 (some a0) ys.length c 0 0 Try.underlying115
  have HL := mk_ hl
  clear hl
  go_enter Try.func94, Try.ntmps94
  go_wp2_with (first
   | ((with_reducible refine bP (N := 5) rfl ?_); refine R_lit kSl 0 120 ?hg (N := 5) ?hd (w0 := w) (xs := ([] : List Sl)) (inner := []) (ok := fun k => w.heap.size ≤ k) (okp := fun _ => False) ?hr ?hp (fun _ hk => hk.elim) (Nat.le_refl _) (Below.refl _ _) (Nat.zero_le _) (by simp) ?_; (case hd => rfl); (case hg => rfl); (case hr => first | (go_simp; done) | (go_simp; rfl)); (case hp => exact Reps.none _ _); intro v1 w1 hr1 _ hg1 hn1; have HB1 := mk_ hg1; have HO1 := mk_ hr1; have HN1 := mk_ hn1; clear hg1 hr1 hn1)
   | ((with_reducible refine cJ (b := .append) (xs := #[.tmp 5, .tmp 6]) rfl ?_); at_builtin; refine Stop.go ?_))
  constructor
  refine fK kSl (Rr := kSl.M w1 0 (fun k => ok k ∧ k < w.heap.size)) (w0 := w1) 0 rfl (.tmp 5) (.tmp 6) 115 120 (.agg #[.slice none 0 0, .bool false]) 32 rfl Try.underlying115 infoSl rfl z4_ z2_ v1 [] ys _ _ _ (fun k => ok k ∧ k < w.heap.size ∨ w.heap.size ≤ k) (fun k => ok k ∧ k < w.heap.size) rfl rfl ?aO ?aR ?aM ?ap ?aF (Below.refl _ _) (Nat.zero_le _) ?aL ?_
  (case aO => exact R_mono HO1.out (fun k hk => .inr hk))
  (case aR => exact ReadsRow.imp_ (R' := kSl.M w1 0 (fun k => ok k ∧ k < w.heap.size)) HR.out (hY HB1.out) (fun x cs hx => kSl.M_mono (fun k hk => ⟨hk.1, hk.2.2.1⟩) (kSl.M_bound hx) |> fun hx => Kd.M_below hx (hY HB1.out)))
  (case aM => exact fun _ _ h => h)
  (case ap => exact fun k hk => ⟨.inl hk, fun e => by obtain ⟨b, hb, hle⟩ := HN1.out; rw [hb] at e; injection e with e; omega⟩)
  (case aF => exact fun k hk => .inr (Nat.le_trans HB1.out.size hk))
  (case aL => have := HL.out; simp only [List.length_nil]; omega)
  intro v2 w2 hr2 _ hg2 hat2
  have HB2 := mk_ hg2
  have HO2 := mk_ hr2
  clear hg2 hr2 hat2
  go_wp2
  go_ret
  refine ⟨_, rfl, H3.out _ (Row kSl 120 _ _) ?_ ?_⟩
  ·
   refine (Moved.of_below (hY HB1.out) ok).trans (Moved.of_grown (S := fun k => w.heap.size ≤ k) HB2.out (fun i hi _ => ?_)) (fun i hi h => absurd h z2_)
   obtain ⟨b, hb, hle⟩ := HN1.out
   rw [hb] at hi
   injection hi with hi
   omega
  ·
   refine R_mono (fH HO2.out) (fun k hk => ?_)
   rcases hk.1 with h | h
   ·
    exact .inl h.1
   ·
    exact .inr ⟨h, hk.2.2.1⟩
set_option maxHeartbeats 4000000 in
theorem gG (hS : Sp w (PadP g p :: F)) (hok : p.Ok) (hoff : p.off = false) :
  Calls Try.prog 59 #[.pointer (some ⟨g, 0, none⟩)] w fun e w' => e = .returned (.bool p.spend.2) ∧ Sp w' (PadP g p.spend.1 :: F) := by
 obtain ⟨t, hS⟩ := PadP.open hS
 obtain ⟨A, c, hc, h0, h1, h2, h3, h4, hfz⟩ := gH hS
 clear hfz h0 h1 h2 h3 hc
 rcases ha : p.arm with _ | ⟨n, keep, torn⟩
 ·
  rw [Pd.spend_none ha]
  rw [ha] at hS
  obtain ⟨rfl, hS1⟩ := TripP.none_ hS.s1
  have HS := mk_ hS1
  have HA := mk_ ha
  clear hS hS1 ha
  go_enter Try.func59, Try.ntmps59
  go_wp2
  go_ret
  refine ⟨rfl, PadP.shut (t := .pointer none) ?_⟩
  rw [HA.out]
  exact (TripP.none_mk HS.out).s1
 ·
  obtain ⟨hn1, hn2, hk⟩ := hok.arm n keep torn ha
  rw [ha] at hS
  obtain ⟨b, vk, rfl, hS1⟩ := TripP.open hS.s1
  obtain ⟨Ak, ck, rfl, hck, _⟩ := hS1.tail.row
  have b0 := aC hS1.blk 0
  have b1 := aC hS1.blk 1
  have b2 := aC hS1.blk 2
  have bf0 := aH hS1.blk 0
  replace b0 : w.cell? ⟨b, 0, none⟩ = some (.int .i64 n) := b0
  replace b1 : w.cell? ⟨b, 1, none⟩ = some (.slice Ak keep.length ck) := b1
  replace b2 : w.cell? ⟨b, 2, none⟩ = some (.int .i64 torn) := b2
  have hgb : g ≠ b := by
   obtain ⟨v, h⟩ := PadQ.open hS
   exact blk_ne h.blk hS1.blk z4_
  have hbg : (b == g) = false := by simpa using fun e => hgb e.symm
  have hw : wrap64 (n - 1) = n - 1 := by unfold wrap64; omega
  have HS := mk_ hS1
  by_cases hn : n - 1 > 0
  ·
   rw [Pd.spend_go ha hn]
   have hd : decide (1 < n) = true := decide_eq_true z2_
   have HN := mk_ hn
   clear hS hS1 ha hn hn1 hn2 hk hck hok
   go_enter Try.func59, Try.ntmps59
   go_wp2
   go_ret
   refine ⟨rfl, PadP.shut (t := .pointer (some ⟨b, 0, none⟩)) ?_⟩
   have h5 := HS.out.store 0 (.int .i64 (n - 1))
   exact (TripP.shut h5).s1
  rw [Pd.spend_crash ha hn]
  have hd : decide (1 < n) = false := decide_eq_false z2_
  have HN := mk_ hn
  have HO := mk_ hok
  have HOF := mk_ hoff
  clear hS hS1 ha hn hn1 hn2 hk hck hok hoff
  go_enter Try.func59, Try.ntmps59
  go_wp2
  refine wp_region_still_tail 15 z1_ z1_ ?_
  simp only [List.take_succ_cons, List.take_zero, List.drop_succ_cons, List.drop_zero]
  rw [eX]
  repeat still_step
  refine wpStill_nil ?_
  go_wp2_with ((with_reducible refine aT (f := 23) rfl ?_); refine Stop.go ?_)
  constructor
  have h5 := (HS.out.store 0 (.int .i64 (n - 1))).drew
  have h6 : Sp _ (PadQ g p (.pointer (some ⟨b, 0, none⟩)) :: Row Kd.bool 4 (.slice Ak keep.length ck) keep :: F) := h5.tail.s1
  have H6 := mk_ h6
  clear h5 h6
  refine iN (some 41) rfl rfl Try.func23 z1_ rfl #[.pointer (some ⟨g, 0, none⟩), .slice Ak keep.length ck, .int .i64 torn] rfl (by first | rfl | (go_simp; done)) ?_
  refine (crash_on Ak ck keep torn HOF.out HO.out H6.out (fun _ _ h => (R_reads' h).2.2)).mono ?_
  rintro e w' ⟨⟨v, rfl⟩, h7⟩
  refine ⟨_, rfl, ?_⟩
  have H7 := mk_ h7
  clear h7
  go_wp2
  go_ret
  refine ⟨rfl, PadP.shut (t := .pointer none) ?_⟩
  have h8 := H7.out.s1.tail
  show Sp w' (PadQ g (Pd.crash _ keep torn) (.pointer none) :: TripP (.pointer none) (Pd.crash _ keep torn).arm :: F)
  rw [Pd.crash_arm p HOF.out]
  have h9 : (p.crash keep torn).arm = none := by rw [Pd.crash_on p HOF.out]
  rw [h9]
  exact (TripP.none_mk h8).s1
end
end Go.Proofs.Ytcbfliajgopdaaa.Pads
end
section
namespace Go.Proofs.Ytcbfliajgopdaaa.Pads
open Go.RowKit PrintWords PrintLast PrintMore Go.Proofs.Ytcbfliajgopdaaa.Sep ZipT PrintWords.Kd PrintMore.Kd
set_option linter.unusedVariables false
set_option linter.unusedSimpArgs false
section
variable {w : World} {g : Nat} {p : Pd} {F : List Part}
theorem jE (hS : Sp w (PadP g p :: F)) : ∃ (A : Option Addr) (c : Nat) (t : Value), p.slots.length ≤ c ∧ w.cell? ⟨g, 0, none⟩ = some (.slice A p.slots.length c) ∧ w.cell? ⟨g, 1, none⟩ = some (.int .i64 p.safe) ∧ w.cell? ⟨g, 2, none⟩ = some (.bool p.off) ∧ w.cell? ⟨g, 3, none⟩ = some (.int .i64 p.life) ∧ w.cell? ⟨g, 4, none⟩ = some t ∧ (∀ j, w.frozen? ⟨g, j, none⟩ = false) := by
 obtain ⟨t, hS⟩ := PadP.open hS
 obtain ⟨A, c, h⟩ := gH hS
 exact ⟨A, c, t, h⟩
theorem PadP.safe (hS : Sp w (PadP g p :: F)) (n : Nat) : Sp (w.setCell ⟨g, 1, none⟩ (.int .i64 n)) (PadP g { p with safe := n } :: F) := by
 obtain ⟨t, hS⟩ := PadP.open hS
 obtain ⟨v, hS⟩ := PadQ.open hS
 exact PadP.shut (p := { p with safe := n }) (PadQ.shut (p := { p with safe := n }) (hS.store 1 _))
set_option maxHeartbeats 4000000 in
theorem sync_calls (hS : Sp w (PadP g p :: F)) (hok : p.Ok) :
  Calls Try.prog 66 #[.pointer (some ⟨g, 0, none⟩)] w fun e w' => e = .returned (.int .i64 (p.sync).2) ∧ Sp w' (PadP g (p.sync).1 :: F) := by
 obtain ⟨A, c, t, hc, h0, h1, h2, h3, h4, hfz⟩ := jE hS
 clear h0 h1 h3 h4 hc hfz
 by_cases ho : p.off = true
 ·
  have he : p.sync = (p, 5) := by unfold Pd.sync; rw [if_pos ho]
  rw [he]
  rw [ho] at h2
  have HS := mk_ hS
  clear hS he ho hok
  go_enter Try.func66, Try.ntmps66
  go_wp2
  go_ret
  exact ⟨rfl, HS.out⟩
 have ho : p.off = false := by simpa using ho
 have HOF := mk_ ho
 have HS := mk_ hS
 have HO := mk_ hok
 rw [ho] at h2
 clear hS hok ho
 cases hb : p.spend.2
 ·
  have he : p.sync = (p.spend.1, 5) := by unfold Pd.sync; rw [if_neg (by simp [HOF.out]), if_neg (by simp [hb])]
  rw [he]
  have HB := mk_ hb
  clear hb he
  go_enter Try.func66, Try.ntmps66
  go_wp2_with (go_at_call 59; refine (gG HS.out HO.out HOF.out).mono ?_; rw [HB.out]; rintro e w' ⟨rfl, hS⟩; have HS := mk_ hS; clear hS)
  go_ret
  exact ⟨rfl, HS.out⟩
 ·
  have he : p.sync = ({ p.spend.1 with safe := p.spend.1.slots.length }, 0) := by unfold Pd.sync; rw [if_neg (by simp [HOF.out]), if_pos hb]
  rw [he]
  have HB := mk_ hb
  clear hb he
  go_enter Try.func66, Try.ntmps66
  go_wp2_with (go_at_call 59; refine (gG HS.out HO.out HOF.out).mono ?_; rw [HB.out]; rintro e w' ⟨rfl, hS⟩; clear HS h2; have HS := mk_ hS; obtain ⟨A, c, t, hc, h0, h1, h2, h3, h4, hfz⟩ := jE hS; have hf1 := hfz 1; clear hS h2 h3 h4 hfz hc)
  go_ret
  exact ⟨rfl, PadP.safe HS.out _⟩
end
end Go.Proofs.Ytcbfliajgopdaaa.Pads
end
section
namespace Go.Proofs.Ytcbfliajgopdaaa.Pads
open Go.RowKit PrintWords PrintLast PrintMore Go.Proofs.Ytcbfliajgopdaaa.Sep ZipT PrintWords.Kd PrintMore.Kd
set_option linter.unusedVariables false
set_option linter.unusedSimpArgs false
section
variable {w : World} {g : Nat} {p : Pd} {F : List Part}
theorem slot_at (hS : Sp w (PadP g p :: F)) (hl : p.slots.length ≤ 4000) (i : Nat) (hi : i < p.slots.length) :
  ∃ (gr c : Nat) (A : Option Addr) (n cc : Nat), w.cell? ⟨g, 0, none⟩ = some (.slice (some ⟨gr, 0, none⟩) p.slots.length c) ∧ w.cell? ⟨gr, i * 2, none⟩ = some (.slice A n cc) ∧ w.cell? ⟨gr, i * 2 + 1, none⟩ = some (.bool (p.slots.getD i ([], false)).2) ∧
   n = (p.slots.getD i ([], false)).1.length ∧ n ≤ cc ∧ Kd.C (Kd.int .u8) w A n (p.slots.getD i ([], false)).1 := by
 obtain ⟨t, hS⟩ := PadP.open hS
 obtain ⟨v, hS⟩ := PadQ.open hS
 obtain ⟨gr, c, rfl⟩ := (hS.tail.has).elim fun _ h => row_form h z2_
 obtain ⟨cs, hcl, hcc, _, hK⟩ := Sp.elem hS.s1 ([], false) i hi
 obtain ⟨c0, c1, rfl, ⟨A, cc, rfl, hle, hC⟩, rfl⟩ := hK
 exact ⟨gr, c, A, _, cc, aC hS.blk 0, hcc 0 _ rfl, hcc 1 _ rfl, rfl, hle, hC⟩
theorem _root_.Go.Proofs.Ytcbfliajgopdaaa.Sep.Sp.nilRow {α : Type} (d : Kd α) (e : Nat) (h : Sp w F) : Sp w (Row d e (.slice none 0 0) [] :: F) :=
 ⟨fun _ => False, fun _ h => h.elim, R_nil _ _ _ _ _, Sep.wide h (fun k hk => ⟨hk, fun e => e⟩)⟩
set_option maxHeartbeats 4000000 in
theorem read_calls (hS : Sp w (PadP g p :: F)) (hok : p.Ok) (i : Int) :
  Calls Try.prog 63 #[.pointer (some ⟨g, 0, none⟩), .int .i64 i] w fun e w' => ∃ v, e = .returned (.tuple #[v, .int .i64 (p.read i).2]) ∧ Sp w' (Row (Kd.int .u8) 5 v (p.read i).1 :: PadP g p :: F) := by
 obtain ⟨A, c, t, hc, h0, h1, h2, h3, h4, hfz⟩ := jE hS
 clear h1 h3 h4 hfz
 have hl := hok.len
 have hb := hok.bytes
 by_cases ho : p.off = true
 ·
  have he : p.read i = ([], 5) := by unfold Pd.read; rw [if_pos ho]
  rw [he]
  rw [ho] at h2
  have HS := mk_ hS
  clear hS he ho hok hb hl hc h0
  go_enter Try.func63, Try.ntmps63
  go_wp2
  go_ret2
  exact ⟨_, rfl, HS.out.nilRow _ _⟩
 have ho' : p.off = false := by simpa using ho
 rw [ho'] at h2
 by_cases hi : i < 0 ∨ i ≥ p.slots.length
 ·
  have he : p.read i = ([], 7) := by unfold Pd.read; rw [if_neg ho, if_pos hi]
  rw [he]
  have HS := mk_ hS
  by_cases hi0 : i < 0
  ·
   have hd0 : decide (i < 0) = true := decide_eq_true hi0
   clear hS he ho hok hb hl hc hi ho' hi0
   go_enter Try.func63, Try.ntmps63
   go_wp2
   go_ret2
   exact ⟨_, rfl, HS.out.nilRow _ _⟩
  have hd0 : decide (i < 0) = false := decide_eq_false hi0
  have hd1 : decide (i ≥ (p.slots.length : Int)) = true := decide_eq_true z2_
  clear hS he ho hok hb hl hc hi ho' hi0
  go_enter Try.func63, Try.ntmps63
  go_wp2
  go_ret2
  exact ⟨_, rfl, HS.out.nilRow _ _⟩
 have hd0 : decide (i < 0) = false := decide_eq_false z2_
 have hd1 : decide (i ≥ (p.slots.length : Int)) = false := decide_eq_false z2_
 have hi0 : 0 ≤ i := by omega
 have hi1 : i < (p.slots.length : Int) := by omega
 obtain ⟨gr, cp, A', n', cc, k0, k1, k2, hn', hcc, hC⟩ := slot_at hS hl i.toNat z2_
 clear h0
 have hbl : (p.slots.getD i.toNat ([], false)).1.length ≤ 65536 := by
  rw [List.getD_eq_getElem?_getD, List.getElem?_eq_getElem z2_]
  exact hb _ (List.getElem_mem _)
 subst hn'
 cases hsp : (p.slots.getD i.toNat ([], false)).2
 ·
  have he : p.read i = ((p.slots.getD i.toNat ([], false)).1, 0) := by unfold Pd.read; rw [if_neg ho, if_neg hi, if_neg (by rw [hsp]; decide)]
  rw [he]
  rw [hsp] at k2
  generalize (p.slots.getD i.toNat ([], false)).1 = b at *
  have HS := mk_ hS
  have HC := mk_ hC
  have HL := mk_ hcc
  have HB := mk_ hbl
  clear hS he ho hok hb hl hc hi ho' hsp hC hcc hbl
  go_enter Try.func63, Try.ntmps63
  go_wp2_with ((with_reducible refine aT (f := 58) rfl ?_); refine iN (some 40) rfl rfl Try.func58 z1_ rfl #[.slice A' b.length cc] rfl (by first | rfl | (go_simp; done)) ?_; refine (PAll.slices_Clone_byte_byte.calls A' cc b b _ HC.out HL.out (by unfold PAll.slices_Clone_byte_byte.f; rw [Option.bind_some, if_pos (by have := HB.out; simp only [List.length_nil]; omega), List.nil_append])).mono ?_; rintro e w' ⟨v, rfl, hr, hb⟩; refine ⟨_, rfl, ?_⟩; have HR := mk_ (Sp.made HS.out hb hr); clear hr hb)
  go_ret2
  exact ⟨_, rfl, HR.out⟩
 ·
  have he : p.read i = ([], 13) := by unfold Pd.read; rw [if_neg ho, if_neg hi, if_pos (by rw [hsp])]
  rw [he]
  rw [hsp] at k2
  have HS := mk_ hS
  clear hS he ho hok hb hl hc hi ho' hsp hC hcc hbl
  go_enter Try.func63, Try.ntmps63
  go_wp2
  go_ret2
  exact ⟨_, rfl, HS.out.nilRow _ _⟩
theorem pushed_ok {p : Pd} (h : p.Ok) (b : List Int) (hb : b.length ≤ 65536) (hl : p.slots.length < 4000) : ({ p with slots := p.slots ++ [(b, false)] } : Pd).Ok :=
 ⟨by have := h.safe; simp; omega, by simp; omega, h.arm, fun s hs => by
  rcases List.mem_append.1 hs with hs | hs
  ·
   exact h.bytes s hs
  ·
   rw [List.mem_singleton.1 hs]; exact hb⟩
set_option maxHeartbeats 4000000 in
theorem append_calls (hS : Sp w (PadP g p :: F)) (hok : p.Ok) (A1 : Option Addr) (c1 : Nat) (b : List Int) (hbc : b.length ≤ c1) (hbl : b.length ≤ 140737488351232) (hC : Kd.C (Kd.int .u8) w A1 b.length b) :
  Calls Try.prog 17 #[.pointer (some ⟨g, 0, none⟩), .slice A1 b.length c1] w fun e w' => e = .returned (.int .i64 (p.append b).2) ∧ Sp w' (PadP g (p.append b).1 :: F) := by
 obtain ⟨A, c, t, hc, h0, h1, h2, h3, h4, hfz⟩ := jE hS
 clear h1 h3 h4
 have hl := hok.len
 by_cases ho : p.off = true
 ·
  have he : p.append b = (p, 5) := by unfold Pd.append; rw [if_pos ho]
  rw [he]
  rw [ho] at h2
  have HS := mk_ hS
  clear hS he ho hok hbl hbc hC hl hc h0 hfz
  go_enter Try.func17, Try.ntmps17
  go_wp2
  go_ret
  exact ⟨rfl, HS.out⟩
 have ho' : p.off = false := by simpa using ho
 rw [ho'] at h2
 by_cases hb1 : b.length > 65536
 ·
  have he : p.append b = (p, 2) := by unfold Pd.append; rw [if_neg ho, if_pos hb1]
  rw [he]
  have hd : decide ((65536 : Int) < (b.length : Int)) = true := decide_eq_true z2_
  have HS := mk_ hS
  clear hS he ho hok hbl hbc hC hl hc h0 ho' hb1 hfz
  go_enter Try.func17, Try.ntmps17
  go_wp2
  go_ret
  exact ⟨rfl, HS.out⟩
 have hd : decide ((65536 : Int) < (b.length : Int)) = false := decide_eq_false z2_
 by_cases hs1 : p.slots.length ≥ 4000
 ·
  have he : p.append b = (p, 6) := by unfold Pd.append; rw [if_neg ho, if_neg hb1, if_pos hs1]
  rw [he]
  have hd2 : decide ((4000 : Int) ≤ (p.slots.length : Int)) = true := decide_eq_true z2_
  have HS := mk_ hS
  clear hS he ho hok hbl hbc hC hl hc ho' hb1 hs1 hfz
  go_enter Try.func17, Try.ntmps17
  go_wp2
  go_ret
  exact ⟨rfl, HS.out⟩
 have hd2 : decide ((4000 : Int) ≤ (p.slots.length : Int)) = false := decide_eq_false z2_
 have HC := mk_ hC
 have HBC := mk_ hbc
 have HB := mk_ hb1
 have HL := mk_ hs1
 have HOK := mk_ (pushed_ok hok b z2_ z2_)
 have HOF := mk_ (show ({ p with slots := p.slots ++ [(b, false)] } : Pd).off = false from ho')
 have HS := mk_ hS
 obtain ⟨r, hr⟩ : ∃ r, ({ p with slots := p.slots ++ [(b, false)] } : Pd).spend.2 = r := ⟨_, rfl⟩
 have he : p.append b = (({ p with slots := p.slots ++ [(b, false)] } : Pd).spend.1, if r then 0 else 5) := by unfold Pd.append; rw [if_neg ho, if_neg hb1, if_neg hs1, hr]
 rw [he]
 have HR := mk_ hr
 clear hS ho hok hbl hbc hC hl hc ho' hb1 hs1 hfz he hr
 go_enter Try.func17, Try.ntmps17
 go_wp2
 have hSd := HS.out.drew
 have hCd := C_drew HC.out
 refine fI (n := 13) (S := fun w' => w'.cell? ⟨g, 0, none⟩ = some (.slice A p.slots.length c) ∧ True) (ds := [12]) (Steps.Bs 13 0) z1_ rfl rfl ⟨h0, trivial⟩ (fun hHeld => ?_)
 generalize w.drew = W at hSd hCd hHeld ⊢
 clear HS h0 h2
 refine sI 0 21 13 1 ?_
 refine sI 1 22 13 3 ?_
 refine sI 2 23 13 7 ?_
 refine sI 3 24 13 15 ?_
 refine sI 5 26 13 47 ?_
 refine sT hHeld 4 25 13 63 ?_
 refine one_ (i := 6) (N := some 27) (Steps.Bs 13 127) rfl rfl z1_ z4_ (fun K hK => ?_)
 refine goes_ Try.func58 z1_ rfl #[.slice A1 b.length c1] (by rfl) rfl rfl z6_ ?_
 refine (PAll.slices_Clone_byte_byte.calls A1 c1 b b _ hCd HBC.out (by unfold PAll.slices_Clone_byte_byte.f; rw [Option.bind_some, if_pos (by have := HB.out; simp only [List.length_nil]; omega), List.nil_append])).mono ?_
 rintro e w' ⟨v, rfl, hr, hb⟩
 refine ⟨_, rfl, ?_⟩
 obtain ⟨vA, vc, rfl⟩ := dH hr
 have hS1 := Sp.made hSd hb hr
 have hHeld1 : w'.cell? ⟨g, 0, none⟩ = some (.slice A p.slots.length c) := (hb.cell (World.block_lt_of_cell? W _ hHeld.1)).trans hHeld.1
 clear hHeld hr hb hCd hSd
 refine hK.out _ _ ⟨hHeld1, trivial⟩ (fun _ => ?_)
 clear hK K
 refine nrm 27 ?_
 refine sI 7 28 13 255 ?_
 refine one_ (i := 8) (N := some 29) (Steps.Bs 13 511) rfl rfl z1_ z4_ (fun K hK => ?_)
 refine gJ (w1 := ?_) (v := ?_) (by rfl) rfl ?_ ?_
 rotate_left 2
 ·
  go_simp
  constructor
  ·
   rfl
  ·
   rfl
 refine hK.out _ _ ⟨(Below.cell (cU (Below.refl _ _) _) (World.block_lt_of_cell? w' _ hHeld1)).trans hHeld1, trivial⟩ (fun _ => ?_)
 clear hK K
 refine nrm 29 ?_
 refine one_ (i := 9) (N := some 30) (Steps.Bs 13 1023) rfl rfl z1_ z4_ (fun K hK => ?_)
 obtain ⟨t', hS2⟩ := PadP.open hS1.s1
 obtain ⟨v', hS2⟩ := PadQ.open hS2
 obtain rfl : v' = .slice A p.slots.length c := by
  have h5 : w'.cell? ⟨g, 0, none⟩ = some v' := aC hS2.blk 0
  rw [hHeld1] at h5
  exact (Option.some.inj h5).symm
 have hS3 : Sp w' (Row kSl 120 (.slice A p.slots.length c) p.slots :: El kSl (b, false) [.slice vA b.length vc, .bool false] :: Blk g (.cells #[.slice A p.slots.length c, .int .i64 p.safe, .bool p.off, .int .i64 p.life, t'] 118 (0, 0)) :: TripP t' p.arm :: F) :=
  (Sp.as hS2.s3 (b := El kSl (b, false) [.slice vA b.length vc, .bool false]) (fun ok h => ⟨[_], [_], rfl, ⟨_, rfl, h⟩, rfl⟩)).s2
 have HS3 := mk_ hS3
 clear hS3 hS2 hS1
 refine Sp.append_step kSl (W := w') (by rfl) (.tmp 25) (.tmp 29) 115 120 (.agg #[.slice none 0 0, .bool false]) 32 rfl Try.underlying115 infoSl rfl z4_ z2_ (.slice A p.slots.length c) p.slots (b, false) [.slice vA b.length vc, .bool false] rfl rfl HS3.out (by have := HL.out; omega) ?_
 intro v1 w1 hS4
 have hg1 := hS4.s1.blk
 refine hK.out _ _ ⟨aC hg1 0, trivial⟩ (fun _ => ?_)
 clear hK K
 refine nrm 30 ?_
 refine sI 10 31 13 2047 ?_
 refine sI 11 32 13 4095 ?_
 refine last_ (i := 12) (N := none) (Steps.Bs 13 8191) rfl rfl z1_ z4_ (fun K hK => ?_)
 have hc0 : w1.cell? ⟨g, 0, none⟩ = some (.slice A p.slots.length c) := aC hg1 0
 have hf0 := aH hg1 0
 obtain ⟨vA1, vc1, rfl⟩ : ∃ A c, v1 = .slice A (p.slots ++ [(b, false)]).length c := (hS4.row).elim fun A h => h.elim fun c h => ⟨A, c, h.1⟩
 refine skip_ (w1 := ?_) (by rfl) rfl ?_ ?_
 rotate_left
 ·
  go_simp
  rfl
 refine hK.out _ _ ?_
 clear hK K
 refine done_ z1_ ?_
 have hS5 := (hS4.s1.store 0 (.slice vA1 (p.slots.length + 1) vc1))
 have hz : (p.slots ++ [(b, false)]).length = p.slots.length + 1 := by simp
 rw [hz] at hS5
 have hS6 : Sp _ (PadP g { p with slots := p.slots ++ [(b, false)] } :: F) := PadP.shut (p := { p with slots := p.slots ++ [(b, false)] }) (PadQ.shut (p := { p with slots := p.slots ++ [(b, false)] }) hS5)
 have HS6 := mk_ hS6
 clear hS6 hS5 hS4 hc0 hf0 hg1 HS3 hz
 go_wp2_with ((with_reducible refine aT (f := 59) rfl ?_); refine iN (some 34) rfl rfl Try.func59 z1_ rfl #[.pointer (some ⟨g, 0, none⟩)] rfl (by first | rfl | (go_simp; done)) ?_; refine (gG HS6.out HOK.out HOF.out).mono ?_; rw [HR.out]; rintro e w5 ⟨rfl, hS7⟩; refine ⟨_, rfl, ?_⟩; have HS7 := mk_ hS7; clear hS7; refine Stop.go ?_)
 constructor
 cases r
 ·
  go_wp2
  go_ret
  exact ⟨rfl, HS7.out⟩
 ·
  go_wp2
  go_ret
  exact ⟨rfl, HS7.out⟩
end
end Go.Proofs.Ytcbfliajgopdaaa.Pads
end
section
namespace Go.Proofs.Ytcbfliajgopdaaa.Sep
open Go.RowKit PrintWords ZipT PrintWords.Kd PrintMore.Kd
set_option linter.unusedVariables false
theorem Q_readsM {α : Type} {d : Kd α} {e : Nat} {w : World} {base : Nat} {ok : Nat → Prop} {xs : List α} {A : Option Addr} {n c : Nat} (h : d.Q e w base ok (.slice A n c) xs) : n = xs.length ∧ n ≤ c ∧ ReadsRow (d.M w base ok) d.sz w A xs.length xs := by
 obtain ⟨_, inner, ho, hr⟩ := h
 obtain ⟨A', c', he, hl⟩ := q_slice ho
 injection he with h1 h2 h3
 subst h1; subst h2; subst h3
 refine ⟨rfl, hl, rfl, q_max ho, fun hp => ?_⟩
 obtain ⟨ad, ha, hc⟩ := q_cells ho hp
 refine ⟨ad, ha, fun j p hj => ⟨(inner.drop (j * d.sz)).take d.sz, ?_, d.M_mono (fun k hk => hk.1) (hr.2 j p hj), fun i u hu => ?_⟩⟩
 ·
  have hjl := (List.getElem?_eq_some_iff.1 hj).1
  have h1 : j * d.sz + d.sz ≤ inner.length := by rw [hr.1, ← Nat.succ_mul]; exact Nat.mul_le_mul_right _ hjl
  rw [List.length_take, List.length_drop]
  omega
 ·
  refine hc _ u ?_
  rw [List.getElem?_take] at hu
  split at hu
  ·
   rw [List.getElem?_drop] at hu
   exact hu
  ·
   cases hu
theorem R_takeM {α : Type} {d : Kd α} {e : Nat} {w : World} {base : Nat} {ok : Nat → Prop} {xs : List α} {A : Option Addr} {n c : Nat} (h : d.R e w base ok (.slice A n c) xs) {k : Nat} (hk : k ≤ xs.length) :
  ReadsRow (d.M w base ok) d.sz w A (xs.take k).length (xs.take k) := (Q_readsM (Q_take (Q_of_R h) hk)).2.2
end Go.Proofs.Ytcbfliajgopdaaa.Sep
end
section
namespace Go.Proofs.Ytcbfliajgopdaaa.Pads
open Go.RowKit PrintWords PrintLast PrintMore Go.Proofs.Ytcbfliajgopdaaa.Sep ZipT PrintWords.Kd PrintMore.Kd
set_option linter.unusedVariables false
set_option linter.unusedSimpArgs false
attribute [local go_sem] eC eA eN eR dR dP eD eB
section
variable {w : World} {g : Nat} {p : Pd} {F : List Part}
set_option maxHeartbeats 4000000 in
set_option maxHeartbeats 4000000 in
theorem cut_calls (hS : Sp w (PadP g p :: F)) (hok : p.Ok) (n : Int) :
  Calls Try.prog 65 #[.pointer (some ⟨g, 0, none⟩), .int .i64 n] w fun e w' => e = .returned (.int .i64 (p.cut n).2) ∧ Sp w' (PadP g (p.cut n).1 :: F) := by
 obtain ⟨A, c, t, hc, h0, h1, h2, h3, h4, hfz⟩ := jE hS
 clear h1 h3 h4 hfz
 by_cases ho : p.off = true
 ·
  have he : p.cut n = (p, 5) := by unfold Pd.cut; rw [if_pos ho]
  rw [he]
  rw [ho] at h2
  have HS := mk_ hS
  clear hS he ho hok hc h0
  go_enter Try.func65, Try.ntmps65
  go_wp2
  go_ret
  exact ⟨rfl, HS.out⟩
 have ho' : p.off = false := by simpa using ho
 rw [ho'] at h2
 by_cases hn : n < 0 ∨ n > p.slots.length
 ·
  have he : p.cut n = (p, 1) := by unfold Pd.cut; rw [if_neg ho, if_pos hn]
  rw [he]
  have HS := mk_ hS
  by_cases hn0 : n < 0
  ·
   have hd0 : decide (n < 0) = true := decide_eq_true hn0
   clear hS he ho hok hc hn ho' hn0
   go_enter Try.func65, Try.ntmps65
   go_wp2
   go_ret
   exact ⟨rfl, HS.out⟩
  have hd0 : decide (n < 0) = false := decide_eq_false hn0
  have hd1 : decide ((p.slots.length : Int) < n) = true := decide_eq_true z2_
  clear hS he ho hok hc hn ho' hn0
  go_enter Try.func65, Try.ntmps65
  go_wp2
  go_ret
  exact ⟨rfl, HS.out⟩
 obtain ⟨m, rfl⟩ := Int.eq_ofNat_of_zero_le (show 0 ≤ n by omega)
 have hd0 : decide ((m : Int) < 0) = false := decide_eq_false z2_
 have hd1 : decide (p.slots.length < m) = false := decide_eq_false z2_
 have hms : m ≤ p.slots.length := by omega
 cases hr : p.spend.2
 ·
  have he : p.cut (m : Int) = (p.spend.1, 5) := by unfold Pd.cut; rw [if_neg ho, if_neg hn, if_neg (by rw [hr]; decide)]
  rw [he]
  have HS := mk_ hS
  have HOK := mk_ hok
  have HOF := mk_ ho'
  have HR := mk_ hr
  clear hS he ho hok hc hn ho' hr
  go_enter Try.func65, Try.ntmps65
  go_wp2_with ((with_reducible refine aT (f := 59) rfl ?_); refine iN (some 24) rfl rfl Try.func59 z1_ rfl #[.pointer (some ⟨g, 0, none⟩)] rfl (by first | rfl | (go_simp; done)) ?_; refine (gG HS.out HOK.out HOF.out).mono ?_; rw [HR.out]; rintro e w5 ⟨rfl, hS7⟩; refine ⟨_, rfl, ?_⟩; have HS7 := mk_ hS7; clear hS7)
  go_ret
  exact ⟨rfl, HS7.out⟩
 obtain ⟨hp1, hp2, hp3, hp4⟩ := Pd.spend_true hr
 have he : p.cut (m : Int) = ({ p.spend.1 with slots := p.spend.1.slots.take m, safe := min p.spend.1.safe m }, 0) := by unfold Pd.cut; rw [if_neg ho, if_neg hn, if_pos hr]; simp only [Int.toNat_natCast]
 rw [he]
 have hok1 := Pd.spend_ok hok ho'
 have hmq : m ≤ p.spend.1.slots.length := by rw [hp1]; omega
 generalize hq : p.spend.1 = q at *
 have HQ := mk_ hq
 have HS := mk_ hS
 have HOK := mk_ hok
 have HOF := mk_ ho'
 have HR := mk_ hr
 have HP2 := mk_ hp2
 have HOK1 := mk_ hok1
 clear hS he ho hok hc hn ho' hr hp1 hp2 hp3 hp4 hok1 hq
 go_enter Try.func65, Try.ntmps65
 go_wp2_with ((with_reducible refine aT (f := 59) rfl ?_); refine iN (some 24) rfl rfl Try.func59 z1_ rfl #[.pointer (some ⟨g, 0, none⟩)] rfl (by first | rfl | (go_simp; done)) ?_; refine (gG HS.out HOK.out HOF.out).mono ?_; rw [HR.out]; rintro e w5 ⟨rfl, hS7⟩; refine ⟨_, rfl, ?_⟩; rw [HQ.out] at hS7; have HS7 := mk_ hS7; clear hS7 HS h0 h2)
 obtain ⟨A, c, t, hc, h0, h1, h2, h3, h4, hfz⟩ := jE HS7.out
 have hql := HOK1.out.safe
 clear h2 h3 h4 hfz
 have hSd := HS7.out.drew
 have hml : m ≤ q.slots.length := hmq
 have hmc : m ≤ c := by omega
 have hsub : mn (q.safe : Int) (m : Int) = ((min q.safe m : Nat) : Int) := by unfold mn; omega
 refine fI (n := 21) (S := fun w' => w'.cell? ⟨g, 0, none⟩ = some (.slice A q.slots.length c) ∧ w'.cell? ⟨g, 1, none⟩ = some (.int .i64 q.safe)) (ds := [17, 20]) (Steps.Bs 21 0) z1_ rfl rfl ⟨h0, h1⟩ (fun hHeld => ?_)
 generalize w5.drew = W at hSd hHeld ⊢
 clear HS7 h0 h1
 refine sI 0 26 21 1 ?_
 refine sI 1 27 21 3 ?_
 refine sI 2 28 21 7 ?_
 refine sI 3 29 21 15 ?_
 refine sI 4 30 21 31 ?_
 refine sT hHeld 5 31 21 63 ?_
 refine sI 6 32 21 127 ?_
 refine sI 7 33 21 255 ?_
 refine sI 9 35 21 767 ?_
 refine sI 10 36 21 1791 ?_
 refine sI 11 37 21 3839 ?_
 refine sT hHeld 12 38 21 7935 ?_
 refine sI 13 39 21 16127 ?_
 refine sI 14 40 21 32511 ?_
 refine one_ (i := 8) (N := some 34) (Steps.Bs 21 32767) rfl rfl z1_ z4_ (fun K hK => ?_)
 have hdl : (q.slots.take m).length = m := by rw [List.length_take]; omega
 rw [show (Value.slice A m c) = Value.slice A (q.slots.take m).length c from by rw [hdl]]
 obtain ⟨t', hS2⟩ := PadP.open hSd
 obtain ⟨v', hS2⟩ := PadQ.open hS2
 obtain rfl : v' = .slice A q.slots.length c := by
  have h5 : W.cell? ⟨g, 0, none⟩ = some v' := aC hS2.blk 0
  rw [hHeld.1] at h5
  exact (Option.some.inj h5).symm
 refine goes_ Try.func94 z1_ rfl #[.slice A (q.slots.take m).length c] (by rfl) rfl rfl z6_ ?_
 refine (cloneSl_calls (xs := q.slots) (ys := q.slots.take m) hS2.s1 (by rw [hdl]; have := HOK1.out.len; omega) (fun ok h => R_takeM (d := kSl) h hml)).mono ?_
 rintro e w' ⟨v1, rfl, hS3⟩
 refine ⟨_, rfl, ?_⟩
 have hg1 := hS3.s1.blk
 have hc0 : w'.cell? ⟨g, 0, none⟩ = some (.slice A q.slots.length c) := aC hg1 0
 have hc1 : w'.cell? ⟨g, 1, none⟩ = some (.int .i64 q.safe) := aC hg1 1
 have hf0 := aH hg1 0
 have hf1 := aH hg1 1
 refine hK.out _ _ ⟨hc0, hc1⟩ (fun _ => ?_)
 clear hK K
 refine nrm 34 ?_
 refine sI 15 41 21 65535 ?_
 refine sI 16 42 21 131071 ?_
 obtain ⟨vA1, vc1, rfl⟩ : ∃ A c, v1 = .slice A (q.slots.take m).length c := (hS3.row).elim fun A h => h.elim fun c h => ⟨A, c, h.1⟩
 refine last_ (i := 17) (N := none) (Steps.Bs 21 262143) rfl rfl z1_ z4_ (fun K hK => ?_)
 refine skip_ (w1 := ?_) (by rfl) rfl ?_ ?_
 rotate_left
 ·
  go_simp
  rfl
 refine hK.out _ _ ?_
 clear hK K
 refine sI 18 43 21 524287 ?_
 refine sI 19 44 21 1048575 ?_
 refine last_ (i := 20) (N := none) (Steps.Bs 21 2097151) rfl rfl z1_ z4_ (fun K hK => ?_)
 refine skip_ (w1 := ?_) (by rfl) rfl ?_ ?_
 rotate_left
 ·
  go_simp
  rfl
 refine hK.out _ _ ?_
 clear hK K
 refine done_ z1_ ?_
 have hS5 := (hS3.s1.store 0 (.slice vA1 m vc1)).store 1 (.int .i64 ((min q.safe m : Nat) : Int))
 rw [hdl] at hS5
 have HS5 := mk_ hS5
 clear hS5 hS3 hS2 hg1 hc0 hc1 hf0 hf1 hsub hHeld hSd
 go_wp2
 all_goals
  go_ret
  have hfin := PadP.shut (p := { q with slots := q.slots.take m, safe := min q.safe m }) (PadQ.shut (p := { q with slots := q.slots.take m, safe := min q.safe m }) HS5.out)
  refine ⟨rfl, ?_⟩
  first
   | (rw [show min q.safe m = m from by omega] at hfin ⊢; exact hfin)
   | (rw [show min q.safe m = q.safe from by omega] at hfin ⊢; exact hfin)
end
end Go.Proofs.Ytcbfliajgopdaaa.Pads
end
section
namespace Go.Proofs.Ytcbfliajgopdaaa.Pads
open Go.RowKit PrintWords PrintLast PrintMore Go.Proofs.Ytcbfliajgopdaaa.Sep ZipT PrintWords.Kd PrintMore.Kd
set_option linter.unusedVariables false
set_option linter.unusedSimpArgs false
section
variable {w : World} {g : Nat} {p q : Pd} {F : List Part} {x : Int}
theorem append_to (hS : Sp w (PadP g p :: F)) (hok : p.Ok) (A1 : Option Addr) (c1 : Nat) (b : List Int) (hbc : b.length ≤ c1) (hbl : b.length ≤ 140737488351232) (hC : Kd.C (Kd.int .u8) w A1 b.length b) (he : p.append b = (q, x)) :
  Calls Try.prog 17 #[.pointer (some ⟨g, 0, none⟩), .slice A1 b.length c1] w fun e w' => e = .returned (.int .i64 x) ∧ Sp w' (PadP g q :: F) := by
 have h := append_calls hS hok A1 c1 b hbc hbl hC
 rw [he] at h
 exact h
theorem sync_to (hS : Sp w (PadP g p :: F)) (hok : p.Ok) (he : p.sync = (q, x)) :
  Calls Try.prog 66 #[.pointer (some ⟨g, 0, none⟩)] w fun e w' => e = .returned (.int .i64 x) ∧ Sp w' (PadP g q :: F) := by
 have h := sync_calls hS hok
 rw [he] at h
 exact h
theorem cut_to (hS : Sp w (PadP g p :: F)) (hok : p.Ok) (n : Int) (he : p.cut n = (q, x)) :
  Calls Try.prog 65 #[.pointer (some ⟨g, 0, none⟩), .int .i64 n] w fun e w' => e = .returned (.int .i64 x) ∧ Sp w' (PadP g q :: F) := by
 have h := cut_calls hS hok n
 rw [he] at h
 exact h
theorem read_to (hS : Sp w (PadP g p :: F)) (hok : p.Ok) (i : Int) {b : List Int} (he : p.read i = (b, x)) :
  Calls Try.prog 63 #[.pointer (some ⟨g, 0, none⟩), .int .i64 i] w fun e w' => ∃ v, e = .returned (.tuple #[v, .int .i64 x]) ∧ Sp w' (Row (Kd.int .u8) 5 v b :: PadP g p :: F) := by
 have h := read_calls hS hok i
 rw [he] at h
 exact h
theorem crash_to {K : Part} (hS : Sp w (PadP g p :: K :: F)) (hok : p.Ok) (A1 : Option Addr) (c1 : Nat) (keep : List Bool) (torn : Int) (hK : ∀ w ok, K.P w ok → Kd.C Kd.bool w A1 keep.length keep) (he : p.crash keep torn = q) :
  Calls Try.prog 23 #[.pointer (some ⟨g, 0, none⟩), .slice A1 keep.length c1, .int .i64 torn] w fun e w' => (∃ v, e = .returned v) ∧ Sp w' (PadP g q :: K :: F) := by
 subst he
 cases ho : p.off
 ·
  obtain ⟨t, hS⟩ := PadP.open hS
  refine (crash_on A1 c1 keep torn ho hok (Sp.tail (Sp.s1 hS)).s1.s1 hK).mono ?_
  rintro e w' ⟨h1, h2⟩
  refine ⟨h1, PadP.shut (t := .pointer none) ?_⟩
  rw [show (p.crash keep torn).arm = none from by rw [Pd.crash_on p ho]]
  exact (TripP.none_mk h2).s1
 ·
  obtain ⟨t, hS'⟩ := PadP.open hS
  refine (crash_off A1 keep.length c1 torn ho hS').mono ?_
  rintro e w' ⟨h1, rfl⟩
  rw [Pd.crash_off p ho]
  exact ⟨h1, hS⟩
theorem encs_reps {α : Type} (enc : α → Value) (xs : List α) : Reps (fun x cs => cs = [enc x]) 1 xs (xs.map enc) := by
 refine ⟨by simp, fun j p hj => ?_⟩
 obtain ⟨h1, rfl⟩ := List.getElem?_eq_some_iff.1 hj
 rw [Nat.mul_one, List.drop_eq_getElem_cons (by simpa using h1), List.take_succ_cons, List.take_zero, List.getElem_map]
theorem _root_.Go.Proofs.Ytcbfliajgopdaaa.Sep.Sp.lit {α : Type} {enc : α → Value} {h1 : ∀ x, (enc x).oneCell' = true} (e : TypeId) (xs : List α) (hm : xs.length ≤ 9223372036854775807) (h : Sp w F) :
  Sp (w.alloc (.cells (xs.map enc).toArray e)) (Row (Kd.scalar enc h1) e (.slice (some ⟨w.heap.size, 0, none⟩) xs.length xs.length) xs :: F) := by
 refine h.new (a := Row (Kd.scalar enc h1) e (.slice (some ⟨w.heap.size, 0, none⟩) xs.length xs.length) xs) (cU (Below.refl _ _) _) ⟨fun k hk => ?_, ?_⟩
 ·
  have : w.heap.size = k := by simpa [Value.ownBlock] using hk
  subst this
  exact ⟨Nat.le_refl _, by simp⟩
 ·
  exact OwnRow.lit w 0 (encs_reps enc xs) (Nat.zero_le _) hm
theorem row_C {α : Type} {d : Kd α} {e : Nat} {A : Option Addr} {n c : Nat} {xs : List α} (h : Sp w (Row d e (.slice A n c) xs :: F)) : n = xs.length ∧ n ≤ c ∧ d.C w A xs.length xs := (h.has).elim fun _ h => R_reads' h
theorem lit_u8 (x : Int) (h : Sp w F) : Sp (w.alloc (.cells #[.int .u8 x] 5)) (Row (Kd.int .u8) 5 (.slice (some ⟨w.heap.size, 0, none⟩) 1 1) [x] :: F) := Sp.lit (enc := Value.int .u8) (h1 := fun _ => rfl) 5 [x] (by simp) h
end
end Go.Proofs.Ytcbfliajgopdaaa.Pads
end
section
namespace Go.Proofs.Ytcbfliajgopdaaa.Snaps
open Go.RowKit PAll Plain Ops PrintWords PrintLast PrintMore Pads Go.Proofs.Ytcbfliajgopdaaa.Sep ZipT PrintWords.Kd PrintMore.Kd
set_option linter.unusedVariables false
set_option linter.unusedSimpArgs false
theorem kE (s : ByteArray) : s.toList = [] ↔ s = ⟨#[]⟩ := ⟨fun h => jL ((fO s).1 h), fun h => by subst h; exact (fO _).2 rfl⟩
theorem valO_len (v : V) : (valO v).1.length ≤ 26 := by
 unfold valO
 split
 ·
  simp
 ·
  split
  ·
   rename_i h; exact (vB_len h).2
  ·
   simp
theorem wVal_len (v : V) (s : Wr) : (wVal v s).1.length ≤ s.1.length + 26 := by
 have := valO_len v
 unfold wVal wAdd; simp only [List.length_append]; omega
theorem wCell_len (c : Cl) (s : Wr) : (wCell c s).1.length ≤ s.1.length + 61 := by
 have h1 := wVal_len c.f0 s
 have h2 := gW c.f1 (wVal c.f0 s)
 have h3 := fM c.f2 (wStamp c.f1 (wVal c.f0 s))
 unfold wCell; omega
theorem wRowx_len (x : Rx) (s : Wr) : (wRowx x s).1.length ≤ s.1.length + (39 + 14 * x.f1.length + 61 * x.f2.length) := by
 have h1 := jI x.f0 s
 have h2 := cH x.f1.length 1 (wText x.f0 s)
 have h3 := eQ (f := wDot) (m := 14) fM x.f1 (wNum x.f1.length 1 (wText x.f0 s))
 have h4 := cH x.f2.length 1 (wAll wDot x.f1 (wNum x.f1.length 1 (wText x.f0 s)))
 have h5 := eQ (f := wCell) (m := 61) wCell_len x.f2 (wNum x.f2.length 1 (wAll wDot x.f1 (wNum x.f1.length 1 (wText x.f0 s))))
 unfold wRowx; omega
theorem rdC_get {l : List Cl} {i : Nat} (h : i < l.length) : aZ l (i : Int) = l[i] := by
 unfold aZ
 rw [Int.toNat_natCast, List.getD_eq_getElem?_getD, List.getElem?_eq_getElem h]; rfl
section
variable {w : World} {ty : TypeId} {g : Nat} {F : List Part}
theorem wcell_calls (c : Cl) (s : Wr) (hS : Sp w (WrP ty g s :: F)) (hl : s.1.length ≤ 50000000000000) :
  Calls Try.prog 89 #[.pointer (some ⟨g, 0, none⟩), .agg #[.int .i64 c.f0.f0, .int .i64 c.f0.f1, .string c.f0.f2, .int .i64 c.f1.f0, .int .i64 c.f1.f1, .int .i64 c.f1.f2, .int .i64 c.f2.f0, .int .i64 c.f2.f1]] w fun r w' => (∃ v, r = .returned v) ∧ Sp w' (WrP ty g (wCell c s) :: F) := by
 obtain ⟨⟨vk, vi, vs⟩, st, dt⟩ := c
 have h0 := (hS.box (.cells #[.int .i64 vk, .int .i64 vi, .string vs, .int .i64 st.f0, .int .i64 st.f1, .int .i64 st.f2, .int .i64 dt.f0, .int .i64 dt.f1] 91 (0, 0)))
 have HL := mk_ hl
 have HS0 := mk_ h0
 have HV := mk_ (vbytes_eq 30 vk vi vs (Nat.le_refl _))
 obtain ⟨rv, hrv⟩ : ∃ r, (if vOk vk vi vs then (sVB vk vi vs, (0 : Int)) else ([], 1)) = r := ⟨_, rfl⟩
 obtain ⟨rb, re⟩ := rv
 rw [hrv] at HV
 have HRV := mk_ hrv
 obtain ⟨ob, oe, hoe⟩ : ∃ a b, valO ⟨vk, vi, vs⟩ = (a, b) := ⟨_, _, rfl⟩
 have HOE := mk_ hoe
 have hol : ob.length ≤ 26 := by have := valO_len ⟨vk, vi, vs⟩; rw [hoe] at this; exact this
 have HOL := mk_ hol
 clear hS hl h0 hrv hoe hol
 go_enter Try.func89, Try.ntmps89
 go_upto_region 2 with (go_at_call 105; go_loud (refine (PAll.value_Bytes.calls 30 vk vi vs rb re _ HV.out).mono ?_; rintro e W1 ⟨u, rfl, hr, hq⟩; obtain ⟨Au, cu, rfl⟩ := dH hr; have h_ := Sp.made HS0.out hq hr; clear hr hq HS0; have HS := mk_ h_; clear h_; have kc := aC HS.out.s1.blk))
 go_cut [15] (fun v15 wc => ∃ bz, v15 = .bool bz ∧ Aside0 (bz = decide (vZero ⟨vk, vi, vs⟩)) ∧ wc = W1)
 case first =>
  by_cases h0 : vk = 0
  rotate_left
  ·
   have HZ := mk_ (decide_eq_false (show ¬ vZero ⟨vk, vi, vs⟩ from fun h => h0 h.1))
   replace h0 := eq_false h0
   go_wp2
   go_meet
   case rel => exact ⟨_, rfl, ⟨HZ.out.symm⟩, rfl⟩
  by_cases h1 : vi = 0
  rotate_left
  ·
   have HZ := mk_ (decide_eq_false (show ¬ vZero ⟨vk, vi, vs⟩ from fun h => h1 h.2.1))
   replace h0 := eq_true h0
   replace h1 := eq_false h1
   go_wp2
   go_meet
   case rel => exact ⟨_, rfl, ⟨HZ.out.symm⟩, rfl⟩
  by_cases h2 : vs.toList = []
  ·
   have HZ := mk_ (decide_eq_true (show vZero ⟨vk, vi, vs⟩ from ⟨h0, h1, (kE vs).1 h2⟩))
   replace h0 := eq_true h0
   replace h1 := eq_true h1
   replace h2 := eq_true h2
   go_wp2
   go_meet
   case rel => exact ⟨_, rfl, ⟨HZ.out.symm⟩, rfl⟩
  have HZ := mk_ (decide_eq_false (show ¬ vZero ⟨vk, vi, vs⟩ from fun h => h2 ((kE vs).2 h.2.2)))
  replace h0 := eq_true h0
  replace h1 := eq_true h1
  replace h2 := eq_false h2
  go_wp2
  go_meet
  case rel => exact ⟨_, rfl, ⟨HZ.out.symm⟩, rfl⟩
 case rest =>
 obtain ⟨bz, rfl, HBZ, rfl⟩ := hcut
 with_reducible (refine ‹∀ (a : Act) (w : World), Code.wp _ _ _ a w → _› _ _ ?_)
 go_cut [4, 5] (fun v4 v5 wc => ∃ A cc, v4 = .slice A ob.length cc ∧ v5 = .int .i64 oe ∧ Aside0 (Sp wc (Row (Kd.int .u8) 5 (.slice A ob.length cc) ob :: Blk w.heap.size (.cells #[.int .i64 vk, .int .i64 vi, .string vs, .int .i64 st.f0, .int .i64 st.f1, .int .i64 st.f2, .int .i64 dt.f0, .int .i64 dt.f1] 91 (0, 0)) :: WrP ty g s :: F)))
 case first =>
  have hz := HBZ.out
  cases bz with
  | true =>
   have ho : valO ⟨vk, vi, vs⟩ = ([0], 0) := if_pos (of_decide_eq_true hz.symm)
   rw [HOE.out] at ho
   injection ho with ho1 ho2
   subst ho1 ho2
   clear hz
   go_wp2
   go_meet
   case rel => exact ⟨_, _, rfl, rfl, ⟨lit_u8 0 HS.out.tail⟩⟩
  | false =>
   have ho : valO ⟨vk, vi, vs⟩ = (rb, re) := by unfold valO; rw [if_neg (of_decide_eq_false hz.symm)]; exact HRV.out
   rw [HOE.out] at ho
   injection ho with ho1 ho2
   subst ho1 ho2
   clear hz
   go_wp2
   go_meet
   case rel => exact ⟨_, _, rfl, rfl, ⟨HS.out⟩⟩
 case rest =>
 obtain ⟨A, cc, rfl, rfl, HS⟩ := hcut
 obtain ⟨vw, h1⟩ := WrP.open HS.out.s2
 obtain ⟨A0, c0, rfl, _, _⟩ := h1.tail.row
 obtain ⟨bs, bad⟩ := s
 have k1 : wc.cell? ⟨g, 1, none⟩ = some (.bool bad) := aC h1.blk 1
 have f1 := aH h1.blk 1
 have key : ∀ nb : Bool, Aside0 (Sp (wc.setCell ⟨g, 1, none⟩ (.bool nb)) (Blk g (.cells #[.slice A0 bs.length c0, .bool nb] ty (0, 0)) :: Row (Kd.int .u8) 5 (.slice A0 bs.length c0) bs :: Row (Kd.int .u8) 5 (.slice A ob.length cc) ob :: Blk w.heap.size (.cells #[.int .i64 vk, .int .i64 vi, .string vs, .int .i64 st.f0, .int .i64 st.f1, .int .i64 st.f2, .int .i64 dt.f0, .int .i64 dt.f1] 91 (0, 0)) :: F)) := fun nb => ⟨h1.store 1 (.bool nb)⟩
 clear HS h1
 obtain ⟨nb, hnb⟩ : ∃ nb, nb = (bad || decide (oe ≠ 0)) := ⟨_, rfl⟩
 have HNB := mk_ (show wVal ⟨vk, vi, vs⟩ (bs, bad) = (bs ++ ob, nb) from by unfold wVal wAdd; rw [HOE.out, hnb])
 have HS1 := key nb
 have HC1 := mk_ (HS1.out.s2.row.elim fun _ h => h.elim fun _ h => (show Kd.C (Kd.int .u8) _ A ob.length ob by have e_ := h.1; injection e_ with e1 e2 e3; rw [e1]; exact h.2.2))
 have k0' := aC HS1.out.blk 0
 have kf := aH HS1.out.blk 0
 have hqn : bad = true ∧ nb = true ∨ bad = false ∧ (oe != 0) = false ∧ nb = false ∨ bad = false ∧ (oe != 0) = true ∧ nb = true := by
  cases bad
  ·
   by_cases h : oe = 0
   ·
    exact .inr (.inl ⟨rfl, bne_eq_false_iff_eq.2 h, by rw [hnb]; simp [h]⟩)
   ·
    exact .inr (.inr ⟨rfl, bne_iff_ne.2 h, by rw [hnb]; simp [h]⟩)
  ·
   exact .inl ⟨rfl, by rw [hnb]; rfl⟩
 obtain ⟨s2, hs2⟩ : ∃ q, wVal ⟨vk, vi, vs⟩ (bs, bad) = q := ⟨_, rfl⟩
 have HE2 := mk_ hs2
 have HL2 := mk_ (show s2.1.length ≤ 50000000000026 by rw [← hs2]; have := wVal_len ⟨vk, vi, vs⟩ (bs, bad); have := HL.out; have h_ : (bs, bad).1.length = bs.length := rfl; omega)
 rw [hs2] at HNB
 clear key hnb hs2
 rcases hqn with ⟨rfl, rfl⟩ | ⟨rfl, hq, rfl⟩ | ⟨rfl, hq, rfl⟩
 all_goals
  go_wp2_with ((with_reducible refine cJ (b := .append) (xs := #[.tmp 35, .tmp 36]) rfl ?_); at_builtin; refine Sp.appendRow (Kd.int .u8) rfl (.tmp 35) (.tmp 36) 22 5 (.int .u8 0) 1 rfl Try.underlying22 z1_ rfl z4_ z2_ (.slice A0 bs.length c0) bs ob A ob.length cc rfl rfl (fun _ _ h => h) HS1.out.s1 HC1.out (by have := HL.out; have := HOL.out; have h_ : (bs, true).1.length = bs.length := rfl; have h__ : (bs, false).1.length = bs.length := rfl; omega) ?_; intro v1 w1 h1; obtain ⟨A1, c1, rfl, _, _⟩ := h1.row; have k1 := aC h1.s1.blk 0; have kg := aH h1.s1.blk 0; have HS2 := mk_ h1; clear h1)
  have h2 := (WrP.shut (HS2.out.s1.store 0 (.slice A1 (bs ++ ob).length c1))).s2
  rw [← HNB.out, List.length_append] at h2
  have hl2 := HL2.out
  clear HL2
  revert h2 hl2
  generalize World.setCell w1 _ _ = w2
  intro h2 hl2
  have HL2 := mk_ hl2
  clear hl2 kg k1 k0' kf f1 HS2 HC1 HS1 HNB HOE HOL HRV HV
  have kx := aC h2.blk
  have HS2 := mk_ h2.s1.drew
  clear h2
  refine wp_region_still_tail 5 z1_ z1_ ?_
  simp only [List.take_succ_cons, List.take_zero, List.drop_succ_cons, List.drop_zero]
  repeat still_step
  refine wpStill_nil ?_
  rw [eX]
  go_wp2_with (go_at_call 48; go_loud (refine (fT s2 st HS2.out (by have := HL2.out; omega)).mono ?_; rintro e W3 ⟨⟨u, rfl⟩, h1⟩; have hx1 := aC h1.s1.blk; have HS3 := mk_ h1.drew; clear h1))
  clear kx HS2
  refine wp_region_still_tail 5 z1_ z1_ ?_
  simp only [List.take_succ_cons, List.take_zero, List.drop_succ_cons, List.drop_zero]
  repeat still_step
  refine wpStill_nil ?_
  rw [eX]
  go_wp2_with (go_at_call 88; go_loud (refine (fC (wStamp st s2) dt HS3.out (by have := HL2.out; have := gW st s2; omega)).mono ?_; rintro e W4 ⟨⟨u, rfl⟩, h1⟩; have HS4 := mk_ h1; clear h1))
  go_end0
  refine ⟨⟨_, rfl⟩, ?_⟩
  have h5 := HS4.out.s2.s2.tail.tail
  rw [← HE2.out] at h5
  exact h5
theorem wrow_calls {w0 : World} (x : Rx) (A1 A2 : Option Addr) (c1 c2 : Nat) (hC1 : Kd.C k50 w0 A1 x.f1.length x.f1) (h1c : x.f1.length ≤ c1) (hC2 : Kd.C k91 w0 A2 x.f2.length x.f2) (h2c : x.f2.length ≤ c2) (hx : rowSmall x) (s : Wr) (hS : Sp w (WrP ty g s :: Old w0 :: F)) (hl : s.1.length ≤ 40000000000000) :
  Calls Try.prog 50 #[.pointer (some ⟨g, 0, none⟩), .agg #[.string x.f0, .slice A1 x.f1.length c1, .slice A2 x.f2.length c2]] w fun r w' => (∃ v, r = .returned v) ∧ Sp w' (WrP ty g (wRowx x s) :: Old w0 :: F) := by
 have h0 := hS.box (.cells #[.string x.f0, .slice A1 x.f1.length c1, .slice A2 x.f2.length c2] 80 (0, 0))
 have L1 := jI x.f0 s
 obtain ⟨s1, e1⟩ : ∃ q, q = wText x.f0 s := ⟨_, rfl⟩
 have L2 := cH x.f1.length 1 s1
 obtain ⟨s2, e2⟩ : ∃ q, q = wNum x.f1.length 1 s1 := ⟨_, rfl⟩
 have L3 := eQ (f := wDot) (m := 14) fM x.f1 s2
 obtain ⟨s3, e3⟩ : ∃ q, q = wAll wDot x.f1 s2 := ⟨_, rfl⟩
 have L4 := cH x.f2.length 1 s3
 obtain ⟨s4, e4⟩ : ∃ q, q = wNum x.f2.length 1 s3 := ⟨_, rfl⟩
 have hu : wRowx x s = wAll wCell x.f2 s4 := by subst e4 e3 e2 e1; rfl
 rw [hu]; clear hu
 rw [← e1] at L1; rw [← e2] at L2; rw [← e3] at L3; rw [← e4] at L4
 have HLEN := mk_ (show s.1.length ≤ 40000000000000 ∧ s1.1.length ≤ 40000000000100 ∧ s2.1.length ≤ 40000000000200 ∧ s3.1.length ≤ 40000000020000 ∧ s4.1.length ≤ 40000000030000 from by have := hx.1; omega)
 have HE1 := mk_ e1
 have HE2 := mk_ e2
 have HE3 := mk_ e3
 have HE4 := mk_ e4
 have HC1 := mk_ hC1
 have HC2 := mk_ hC2
 have HX := mk_ (And.intro hx (And.intro h1c h2c))
 have kx0 := aC h0.blk
 have HS0 := mk_ h0.s2.s2.drew
 clear h0 hS hl L1 L2 L3 L4 e1 e2 e3 e4 hC1 hC2 hx h1c h2c
 go_enter Try.func50, Try.ntmps50
 go_wp2
 revert kx0 HS0
 generalize World.alloc w _ = W0
 intro kx0 HS0
 refine wp_region_still_tail 5 z1_ z1_ ?_
 simp only [List.take_succ_cons, List.take_zero, List.drop_succ_cons, List.drop_zero]
 repeat still_step
 refine wpStill_nil ?_
 rw [eX]
 go_wp2_with (go_at_call 87; go_loud (refine (hH s x.f0 HS0.out (by have := HLEN.out; omega)).mono ?_; rintro e V1 ⟨⟨u, rfl⟩, h1⟩; rw [← HE1.out] at h1; have kx1 := aC h1.s2.blk; have HS1 := mk_ h1.drew; clear h1 kx0 HS0))
 refine wp_region_still_tail 6 z1_ z1_ ?_
 simp only [List.take_succ_cons, List.take_zero, List.drop_succ_cons, List.drop_zero]
 repeat still_step
 refine wpStill_nil ?_
 rw [eX]
 go_wp2_with (go_at_call 49; go_loud (refine (cB s1 x.f1.length 1 HS1.out (by have := HLEN.out; omega)).mono ?_; rintro e V2 ⟨⟨u, rfl⟩, h1⟩; rw [← HE2.out] at h1; have kx2 := aC h1.s2.blk; have HS2 := mk_ h1; clear h1 kx1 HS1))
 go_loopg [24] (x.f1.length + 1) (fun kq v24 W' => ∃ (i : Nat), v24 = .int .i64 (i : Int) ∧ Aside0 (Sp W' (WrP ty g (wAll wDot (x.f1.take i) s2) :: Old w0 :: Blk w.heap.size (.cells #[.string x.f0, .slice A1 x.f1.length c1, .slice A2 x.f2.length c2] 80 (0, 0)) :: F)) ∧ Aside0 (kq + i = x.f1.length + 1 ∧ i ≤ x.f1.length))
 case atStart => exact ⟨0, rfl, ⟨HS2.out⟩, ⟨by omega⟩⟩
 case round =>
  obtain ⟨i, rfl, HA, HK⟩ := hrel
  obtain ⟨k1, rfl⟩ : ∃ k1, gk = k1 + 1 := ⟨gk - 1, by have := HK.out; omega⟩
  clear kx2 HS2
  by_cases hi : i < x.f1.length
  ·
   obtain ⟨ad, hA, hx0, hx1⟩ := gQ (aV HC1.out HA.out.s1.old) (i : Int) z2_ z2_
   cases hA
   rw [kI hi] at hx0 hx1
   rw [Int.toNat_natCast] at hx0 hx1
   have hb0 : (0 ≤ (i : Int)) = True := eq_true z2_
   have hb1 : ((i : Int) < (x.f1.length : Int)) = True := eq_true z2_
   have hb2 : decide ((i : Int) < (x.f1.length : Int)) = true := decide_eq_true z2_
   have hb3 : decide (i < x.f1.length) = true := decide_eq_true hi
   have HI2 := mk_ hi
   have HT := mk_ (eL hi)
   generalize x.f1[i] = d at *
   clear hi
   have HD := mk_ (HA.out.box (.cells #[.int .i64 0, .int .i64 0] 50 (0, 0)))
   go_wp2_with ((with_reducible refine dJ (ty := 50) (x := .tmp 5) (y := .tmp 27) rfl ?_); refine wpList_store_row rfl 50 (.tmp 5) (.tmp 27) rfl wr.heap.size #[.int .i64 d.f0, .int .i64 d.f1] rfl rfl 50 #[.int .i64 0, .int .i64 0] HD.out.blk z1_ rfl z7_ ?_; have HE := mk_ (bG HD.out #[.int .i64 d.f0, .int .i64 d.f1]).drew; have kd := aC HE.out.blk)
   revert HE kd
   generalize World.setRow _ _ _ = w5
   intro HE kd
   refine wp_region_still_tail 4 z1_ z1_ ?_
   simp only [List.take_succ_cons, List.take_zero, List.drop_succ_cons, List.drop_zero]
   repeat still_step
   refine wpStill_nil ?_
   rw [eX]
   go_wp2_with (go_at_call 88; go_loud (refine (fC _ d HE.out.tail (by have := HLEN.out; have h1 := eQ (f := wDot) (m := 14) fM (x.f1.take i) s2; have h3 := HX.out.1.1; have h4 := List.length_take_le i x.f1; have h6 := HI2.out; omega)).mono ?_; rintro e W2 ⟨⟨u, rfl⟩, h1⟩; have HS11 := mk_ h1; clear h1))
   go_roundg k1
   case measure => exact Nat.lt_succ_self _
   case rel => exact ⟨i + 1, by rw [w64 z2_ (by have := HI2.out; have := HX.out.1.1; omega)]; rfl, ⟨by rw [HT.out, eF]; exact HS11.out⟩, ⟨by have := HK.out; omega, by have := HI2.out; omega⟩⟩
  have hie : i = x.f1.length := by have := HK.out; omega
  have hb2 : decide ((i : Int) < (x.f1.length : Int)) = false := decide_eq_false z2_
  have hb3 : decide (i < x.f1.length) = false := decide_eq_false hi
  have h := HA.out
  rw [hie, List.take_length, ← HE3.out] at h
  have kx3 := aC h.s2.blk
  have HS3 := mk_ h.drew
  clear hi h HA hie
  go_wp2
  refine wp_region_still_tail 6 z1_ z1_ ?_
  simp only [List.take_succ_cons, List.take_zero, List.drop_succ_cons, List.drop_zero]
  repeat still_step
  refine wpStill_nil ?_
  rw [eX]
  go_wp2_with (go_at_call 49; go_loud (refine (cB s3 x.f2.length 1 HS3.out (by have := HLEN.out; omega)).mono ?_; rintro e V4 ⟨⟨u, rfl⟩, h1⟩; rw [← HE4.out] at h1; have kx4 := aC h1.s2.blk; have HS4 := mk_ h1; clear h1 kx3 HS3))
  go_loopg [44] (x.f2.length + 1) (fun kq v44 W' => ∃ (i : Nat), v44 = .int .i64 (i : Int) ∧ Aside0 (Sp W' (WrP ty g (wAll wCell (x.f2.take i) s4) :: Old w0 :: Blk w.heap.size (.cells #[.string x.f0, .slice A1 x.f1.length c1, .slice A2 x.f2.length c2] 80 (0, 0)) :: F)) ∧ Aside0 (kq + i = x.f2.length + 1 ∧ i ≤ x.f2.length))
  case atStart => exact ⟨0, rfl, ⟨HS4.out⟩, ⟨by omega⟩⟩
  case round =>
   obtain ⟨i, rfl, HA, HK⟩ := hrel
   obtain ⟨k1, rfl⟩ : ∃ k1, gk = k1 + 1 := ⟨gk - 1, by have := HK.out; omega⟩
   clear kx4 HS4
   by_cases hi : i < x.f2.length
   rotate_left
   ·
    have hie : i = x.f2.length := by have := HK.out; omega
    have hb2 : decide ((i : Int) < (x.f2.length : Int)) = false := decide_eq_false z2_
    have hb3 : decide (i < x.f2.length) = false := decide_eq_false hi
    clear hi
    go_wp2
    go_end0
    refine ⟨⟨_, rfl⟩, ?_⟩
    have h := HA.out
    rw [hie, List.take_length] at h
    exact (Sp.s2 h).tail
   obtain ⟨ad, hA, hx0, hx1, hx2, hx3, hx4, hx5, hx6, hx7⟩ := gA (aV HC2.out HA.out.s1.old) (i : Int) z2_ z2_
   cases hA
   rw [rdC_get hi] at hx0 hx1 hx2 hx3 hx4 hx5 hx6 hx7
   rw [Int.toNat_natCast] at hx0 hx1 hx2 hx3 hx4 hx5 hx6 hx7
   have hb0 : (0 ≤ (i : Int)) = True := eq_true z2_
   have hb1 : ((i : Int) < (x.f2.length : Int)) = True := eq_true z2_
   have hb2 : decide ((i : Int) < (x.f2.length : Int)) = true := decide_eq_true z2_
   have hb3 : decide (i < x.f2.length) = true := decide_eq_true hi
   have HI2 := mk_ hi
   have HT := mk_ (eL hi)
   generalize x.f2[i] = d at *
   clear hi
   have HD := mk_ (HA.out.box (.cells #[.int .i64 0, .int .i64 0, .string ⟨#[]⟩, .int .i64 0, .int .i64 0, .int .i64 0, .int .i64 0, .int .i64 0] 91 (0, 0)))
   go_wp2_with (first
    | ((with_reducible refine dJ (ty := 91) (x := .tmp 7) (y := .tmp 47) rfl ?_); refine wpList_store_row rfl 91 (.tmp 7) (.tmp 47) rfl wr.heap.size #[.int .i64 d.f0.f0, .int .i64 d.f0.f1, .string d.f0.f2, .int .i64 d.f1.f0, .int .i64 d.f1.f1, .int .i64 d.f1.f2, .int .i64 d.f2.f0, .int .i64 d.f2.f1] rfl rfl 91 #[.int .i64 0, .int .i64 0, .string ⟨#[]⟩, .int .i64 0, .int .i64 0, .int .i64 0, .int .i64 0, .int .i64 0] HD.out.blk z1_ rfl z7_ ?_; have HE := mk_ (bG HD.out #[.int .i64 d.f0.f0, .int .i64 d.f0.f1, .string d.f0.f2, .int .i64 d.f1.f0, .int .i64 d.f1.f1, .int .i64 d.f1.f2, .int .i64 d.f2.f0, .int .i64 d.f2.f1]); have kd := aC HE.out.blk)
    | (go_at_call 89; go_loud (refine (wcell_calls d _ HE.out.tail (by have := HLEN.out; have h1 := eQ (f := wCell) (m := 61) wCell_len (x.f2.take i) s4; have h3 := HX.out.1.2; have h4 := List.length_take_le i x.f2; have h6 := HI2.out; omega)).mono ?_; rintro e W2 ⟨⟨u, rfl⟩, h1⟩; have HS11 := mk_ h1; clear h1)))
   go_roundg k1
   case measure => exact Nat.lt_succ_self _
   case rel => exact ⟨i + 1, by rw [w64 z2_ (by have := HI2.out; have := HX.out.1.2; omega)]; rfl, ⟨by rw [HT.out, eF]; exact HS11.out⟩, ⟨by have := HK.out; omega, by have := HI2.out; omega⟩⟩
end
end Go.Proofs.Ytcbfliajgopdaaa.Snaps
end
section
namespace Go.Proofs.Ytcbfliajgopdaaa.Snaps
open Go.RowKit PAll Plain Ops PrintWords PrintLast PrintMore Pads Go.Proofs.Ytcbfliajgopdaaa.Sep ZipT PrintWords.Kd PrintMore.Kd
set_option linter.unusedVariables false
set_option linter.unusedSimpArgs false
theorem dE {w W : World} (h : Below w.heap.size w W) {a : Addr} {v : Value} (hx : w.cell? a = some v) : W.cell? a = some v := (h.cell (World.block_lt_of_cell? _ _ hx)).trans hx
theorem at_rows {α : Type} {d : Kd α} {e : Nat} {w : World} {A : Option Addr} {xs : List (List α)} (h : Kd.C (Kd.slice e d) w A xs.length xs) {i : Nat} (hi : i < xs.length) :
  ∃ ad A0 c0, A = some ad ∧ w.cell? (ad.add i) = some (.slice A0 (xs[i]).length c0) ∧ (xs[i]).length ≤ c0 ∧ d.C w A0 (xs[i]).length xs[i] := by
 obtain ⟨ad, c, e, _, hK, hc0⟩ := C_get h ([] : List α) (i : Int) z2_ z2_
 rw [Int.toNat_natCast] at hK hc0
 have hc : ∀ j u, c[j]? = some u → w.cell? (ad.add (i * 1 + j)) = some u := hc0
 have hg : xs.getD i ([] : List α) = xs[i] := by rw [List.getD_eq_getElem?_getD, List.getElem?_eq_getElem hi]; rfl
 rw [hg] at hK
 obtain ⟨A0, c0, rfl, l0, g0⟩ := hK
 exact ⟨ad, A0, c0, e, by have hq := hc 0 _ rfl; rwa [Nat.mul_one, Nat.add_zero] at hq, l0, g0⟩
theorem rdX_get {l : List Rx} {i : Nat} (h : i < l.length) : aU l (i : Int) = l[i] := by
 unfold aU
 rw [Int.toNat_natCast, List.getD_eq_getElem?_getD, List.getElem?_eq_getElem h]; rfl
theorem rdO_get {l : List Ox} {i : Nat} (h : i < l.length) : aK l (i : Int) = l[i] := by
 unfold aK
 rw [Int.toNat_natCast, List.getD_eq_getElem?_getD, List.getElem?_eq_getElem h]; rfl
theorem fW {α : Type} {f : α → Wr → Wr} {m : Nat} : ∀ (l : List α) (s : Wr), (∀ x ∈ l, ∀ s, (f x s).1.length ≤ s.1.length + m) → (wAll f l s).1.length ≤ s.1.length + m * l.length
 | [], s, _ => by simp [wAll]
 | y :: l, s, hf => by
  have h1 := fW l (f y s) (fun x hx => hf x (List.mem_cons_of_mem _ hx))
  have h2 := hf y List.mem_cons_self s
  rw [wAll, List.length_cons, Nat.mul_succ]; omega
theorem wOp_len {x : Ox} (h : opSmall x) (s : Wr) : (wOp x s).1.length ≤ s.1.length + 30000 := by
 obtain ⟨h1, h7, h8⟩ := h
 have a1 := cH x.f3 1 s
 have a2 := fM x.f0 (wNum x.f3 1 s)
 have a3 := jH x.f1 (wDot x.f0 (wNum x.f3 1 s))
 have a4 := gW x.f2 (wNums x.f1 (wDot x.f0 (wNum x.f3 1 s)))
 have a5 := cH x.f4 1 (wStamp x.f2 (wNums x.f1 (wDot x.f0 (wNum x.f3 1 s))))
 have a6 := jI x.f5 (wNum x.f4 1 (wStamp x.f2 (wNums x.f1 (wDot x.f0 (wNum x.f3 1 s)))))
 have a7 := cH x.f6 1 (wText x.f5 (wNum x.f4 1 (wStamp x.f2 (wNums x.f1 (wDot x.f0 (wNum x.f3 1 s))))))
 have e7 : wHead x s = wNum x.f6 1 (wText x.f5 (wNum x.f4 1 (wStamp x.f2 (wNums x.f1 (wDot x.f0 (wNum x.f3 1 s)))))) := rfl
 rw [← e7] at a7
 have a8 : (wRow x.f7 (wHead x s)).1.length ≤ (wHead x s).1.length + 700 := by have := rowOut_len x.f7; unfold wRow wAdd; simp only [List.length_append]; omega
 have a9 := cH x.f8.length 1 (wOr (decide (x.f8.length > 64)) (wRow x.f7 (wHead x s)))
 have e9 : (wOr (decide (x.f8.length > 64)) (wRow x.f7 (wHead x s))).1.length = (wRow x.f7 (wHead x s)).1.length := rfl
 have a10 := eQ (f := wDot) (m := 14) fM x.f8 (wNum x.f8.length 1 (wOr (decide (x.f8.length > 64)) (wRow x.f7 (wHead x s))))
 unfold wOp; omega
theorem wRowx_lenS {x : Rx} (h : rowSmall x) (s : Wr) : (wRowx x s).1.length ≤ s.1.length + 75039 := by
 have := wRowx_len x s
 obtain ⟨h1, h2⟩ := h
 omega
theorem wRows_lenS {t : List Rx} (h : ∀ x ∈ t, rowSmall x) (s : Wr) : (wAll wRowx t s).1.length ≤ s.1.length + 75039 * t.length := fW t s (fun x hx s => wRowx_lenS (h x hx) s)
theorem wTable_lenS {t : List Rx} (h : tabSmall t) (s : Wr) : (wTable t s).1.length ≤ s.1.length + 5252730007 := by
 have h1 := wRows_lenS h.2 (wNum t.length 2 s)
 have h2 := cH t.length 2 s
 have h3 := h.1
 unfold wTable; omega
theorem wTabs_lenS {l : List (List Rx)} (h : ∀ t ∈ l, tabSmall t) (s : Wr) : (wAll wTable l s).1.length ≤ s.1.length + 5252730007 * l.length := fW l s (fun x hx s => wTable_lenS (h x hx) s)
theorem wSafes_lenS {l : List (List Int)} (h : ∀ v ∈ l, v.length ≤ 1000) (s : Wr) : (wAll wNums l s).1.length ≤ s.1.length + 7007 * l.length := fW l s (fun x hx s => by have := jH x s; have := h x hx; omega)
theorem wOps_lenS {l : List Ox} (h : ∀ v ∈ l, opSmall v) (s : Wr) : (wAll wOp l s).1.length ≤ s.1.length + 30000 * l.length := fW l s (fun x hx s => wOp_len (h x hx) s)
theorem kJ {α : Type} {p : α → Prop} {l : List α} (h : ∀ x ∈ l, p x) (i : Nat) : ∀ x ∈ l.take i, p x := fun x hx => h x (List.mem_of_mem_take hx)
section
variable {w : World}
theorem kA (x : Sn) (A0 A4 A5 A6 : Option Addr) (c0 c4 c5 c6 : Nat) (hC0 : Kd.C (Kd.int .i64) w A0 x.f0.length x.f0) (h0c : x.f0.length ≤ c0) (hC4 : Kd.C (Kd.slice 80 k80) w A4 x.f2.length x.f2) (h4c : x.f2.length ≤ c4) (hC5 : Kd.C (Kd.slice 3 (Kd.int .i64)) w A5 x.f3.length x.f3) (h5c : x.f3.length ≤ c5) (hC6 : Kd.C k54 w A6 x.f4.length x.f4) (h6c : x.f4.length ≤ c6) (hx : snapSmall x) :
  Calls Try.prog 13 #[.agg #[.slice A0 x.f0.length c0, .int .i64 x.f1.f0, .int .i64 x.f1.f1, .int .i64 x.f1.f2, .slice A4 x.f2.length c4, .slice A5 x.f3.length c5, .slice A6 x.f4.length c6]] w fun e w' => ∃ v, e = .returned (.tuple #[v, .int .i64 (sSnapBytes x).2]) ∧ Sp w' [Row (Kd.int .u8) 5 v (sSnapBytes x).1, Old w] := by
 have h1 := (Sp.start w).box (.cells #[.slice A0 x.f0.length c0, .int .i64 x.f1.f0, .int .i64 x.f1.f1, .int .i64 x.f1.f2, .slice A4 x.f2.length c4, .slice A5 x.f3.length c5, .slice A6 x.f4.length c6] 31 (0, 0))
 have h2 := h1.box (.cells #[.slice none 0 0, .bool false] 103 (0, 0))
 rw [show (w.alloc (.cells #[.slice A0 x.f0.length c0, .int .i64 x.f1.f0, .int .i64 x.f1.f1, .int .i64 x.f1.f2, .slice A4 x.f2.length c4, .slice A5 x.f3.length c5, .slice A6 x.f4.length c6] 31 (0, 0))).heap.size = w.heap.size + 1 from Array.size_push _] at h2
 have h3 := (WrP.shut (bs := []) (bad := false) (v := .slice none 0 0) (dG (d := Kd.int .u8) (e := 5) h2).s1).s1
 clear h1 h2
 obtain ⟨hx0, ⟨hx4, hx4t⟩, ⟨hx5, hx5t⟩, hx6, hx6t⟩ := hx
 obtain ⟨s0, e0⟩ : ∃ q : Wr, q = ([], false) := ⟨_, rfl⟩
 rw [← e0] at h3
 have L0 : s0.1.length ≤ 0 := by rw [e0]; exact Nat.le_refl _
 have L1 := jH x.f0 s0
 obtain ⟨s1, e1⟩ : ∃ q, q = wNums x.f0 s0 := ⟨_, rfl⟩
 have L2 := gW x.f1 s1
 obtain ⟨s2, e2⟩ : ∃ q, q = wStamp x.f1 s1 := ⟨_, rfl⟩
 have L3 := cH x.f2.length 1 s2
 obtain ⟨s3, e3⟩ : ∃ q, q = wNum x.f2.length 1 s2 := ⟨_, rfl⟩
 have L4 := wTabs_lenS hx4t s3
 obtain ⟨s4, e4⟩ : ∃ q, q = wAll wTable x.f2 s3 := ⟨_, rfl⟩
 have L5 : (wOr (decide (x.f3.length > 5)) s4).1.length = s4.1.length := rfl
 obtain ⟨s5, e5⟩ : ∃ q, q = wOr (decide (x.f3.length > 5)) s4 := ⟨_, rfl⟩
 have L6 := cH x.f3.length 1 s5
 obtain ⟨s6, e6⟩ : ∃ q, q = wNum x.f3.length 1 s5 := ⟨_, rfl⟩
 have L7 := wSafes_lenS hx5t s6
 obtain ⟨s7, e7⟩ : ∃ q, q = wAll wNums x.f3 s6 := ⟨_, rfl⟩
 have L8 := cH x.f4.length 2 s7
 obtain ⟨s8, e8⟩ : ∃ q, q = wNum x.f4.length 2 s7 := ⟨_, rfl⟩
 have L9 := wOps_lenS hx6t s8
 obtain ⟨s9, e9⟩ : ∃ q, q = wAll wOp x.f4 s8 := ⟨_, rfl⟩
 have hu : wSnap x ([], false) = s9 := by subst e9 e8 e7 e6 e5 e4 e3 e2 e1 e0; rfl
 have hu' : sSnapBytes x = if s9.2 = true then ([], 1) else if s9.1.length > 65535 then ([], 2) else (s9.1, 0) := by unfold sSnapBytes; rw [hu]
 have HU := mk_ hu'
 clear hu hu'
 rw [← e1] at L1; rw [← e2] at L2; rw [← e3] at L3; rw [← e4] at L4; rw [← e5] at L5; rw [← e6] at L6; rw [← e7] at L7; rw [← e8] at L8; rw [← e9] at L9
 have HLEN := mk_ (show s0.1.length ≤ 0 ∧ s1.1.length ≤ 10000 ∧ s2.1.length ≤ 10100 ∧ s3.1.length ≤ 10200 ∧ s4.1.length ≤ 5252730020000 ∧ s5.1.length ≤ 5252730020000 ∧ s6.1.length ≤ 5252730020100 ∧ s7.1.length ≤ 5252737100000 ∧ s8.1.length ≤ 5252737200000 ∧ s9.1.length ≤ 6000000000000 from by omega)
 have HX := mk_ (show x.f0.length ≤ 1000 ∧ x.f2.length ≤ 1000 ∧ x.f3.length ≤ 1000 ∧ x.f4.length ≤ 70000 from ⟨hx0, hx4, hx5, hx6⟩)
 have HT4 := mk_ hx4t
 have HT5 := mk_ hx5t
 have HT6 := mk_ hx6t
 have HE1 := mk_ e1
 have HE2 := mk_ e2
 have HE3 := mk_ e3
 have HE4 := mk_ e4
 have HE5 := mk_ e5
 have HE6 := mk_ e6
 have HE7 := mk_ e7
 have HE8 := mk_ e8
 have HE9 := mk_ e9
 have HC0 := mk_ (And.intro hC0 h0c)
 have HC4 := mk_ (And.intro hC4 h4c)
 have HC5 := mk_ (And.intro hC5 h5c)
 have HC6 := mk_ (And.intro hC6 h6c)
 have kx0 := aC h3.blk
 have HS0 := mk_ h3.s2.s2.drew
 clear h3 L0 L1 L2 L3 L4 L5 L6 L7 L8 L9 e0 e1 e2 e3 e4 e5 e6 e7 e8 e9 hC0 h0c hC4 h4c hC5 h5c hC6 h6c hx0 hx4 hx4t hx5 hx5t hx6 hx6t
 go_enter Try.func13, Try.ntmps13
 go_wp2
 revert kx0 HS0
 generalize World.alloc (World.alloc w _) _ = W0
 intro kx0 HS0
 refine wp_region_still_tail 5 z1_ z1_ ?_
 simp only [List.take_succ_cons, List.take_zero, List.drop_succ_cons, List.drop_zero]
 repeat still_step
 refine wpStill_nil ?_
 rw [eX]
 go_wp2_with (go_at_call 47; go_loud (refine (gE A0 c0 x.f0 HC0.out.1 HC0.out.2 HX.out.1 s0 HS0.out (by have := HLEN.out; omega)).mono ?_; rintro e V1 ⟨⟨u, rfl⟩, h1⟩; rw [← HE1.out] at h1; have kx1 := aC h1.s2.blk; have HS1 := mk_ h1.drew; clear h1 kx0 HS0))
 refine wp_region_still_tail 5 z1_ z1_ ?_
 simp only [List.take_succ_cons, List.take_zero, List.drop_succ_cons, List.drop_zero]
 repeat still_step
 refine wpStill_nil ?_
 rw [eX]
 go_wp2_with (go_at_call 48; go_loud (refine (fT s1 x.f1 HS1.out (by have := HLEN.out; omega)).mono ?_; rintro e V2 ⟨⟨u, rfl⟩, h1⟩; rw [← HE2.out] at h1; have kx2 := aC h1.s2.blk; have HS2 := mk_ h1.drew; clear h1 kx1 HS1))
 refine wp_region_still_tail 6 z1_ z1_ ?_
 simp only [List.take_succ_cons, List.take_zero, List.drop_succ_cons, List.drop_zero]
 repeat still_step
 refine wpStill_nil ?_
 rw [eX]
 go_wp2_with (go_at_call 49; go_loud (refine (cB s2 x.f2.length 1 HS2.out (by have := HLEN.out; omega)).mono ?_; rintro e V3 ⟨⟨u, rfl⟩, h1⟩; rw [← HE3.out] at h1; have kx3 := aC h1.s2.blk; have HS3 := mk_ h1; clear h1 kx2 HS2))
 go_loopg [37] (x.f2.length + 1) (fun kq v37 W' => ∃ (i : Nat), v37 = .int .i64 (i : Int) ∧ Aside0 (Sp W' [WrP 103 (w.heap.size + 1) (wAll wTable (x.f2.take i) s3), Old w, Blk w.heap.size (.cells #[.slice A0 x.f0.length c0, .int .i64 x.f1.f0, .int .i64 x.f1.f1, .int .i64 x.f1.f2, .slice A4 x.f2.length c4, .slice A5 x.f3.length c5, .slice A6 x.f4.length c6] 31 (0, 0))]) ∧ Aside0 (kq + i = x.f2.length + 1 ∧ i ≤ x.f2.length))
 case atStart => exact ⟨0, rfl, ⟨HS3.out⟩, ⟨by omega⟩⟩
 case round =>
  obtain ⟨i, rfl, HA, HK⟩ := hrel
  obtain ⟨k1, rfl⟩ : ∃ k1, gk = k1 + 1 := ⟨gk - 1, by have := HK.out; omega⟩
  clear kx3 HS3
  by_cases hi : i < x.f2.length
  ·
   obtain ⟨ad, At, ct, e, hx0, hlt, hCt⟩ := at_rows HC4.out.1 hi
   subst e
   have hts := HT4.out _ (List.getElem_mem hi)
   replace hx0 := dE HA.out.s1.old hx0
   have hb0 : (0 ≤ (i : Int)) = True := eq_true z2_
   have hb1 : ((i : Int) < (x.f2.length : Int)) = True := eq_true z2_
   have hb2 : decide ((i : Int) < (x.f2.length : Int)) = true := decide_eq_true z2_
   have hb3 : decide (i < x.f2.length) = true := decide_eq_true hi
   have HI2 := mk_ hi
   have HT := mk_ (eL hi)
   generalize x.f2[i] = t at *
   have HCt := mk_ hCt
   have HTS := mk_ hts
   have htl : t.length ≤ 70000 := hts.1
   clear hi hCt hts
   have HB := mk_ (show (wAll wTable (x.f2.take i) s3).1.length ≤ 5252730020000 by have := wTabs_lenS (kJ HT4.out i) s3; have h4 := List.length_take_le i x.f2; have := HLEN.out; have := HX.out; have := HI2.out; omega)
   go_wp2_with (go_at_call 49; go_loud (refine (cB _ t.length 2 HA.out (by have := HB.out; omega)).mono ?_; rintro e V4 ⟨⟨u, rfl⟩, h1⟩; have HS4 := mk_ h1; clear h1))
   go_loopg [49] (t.length + 1) (fun kq v49 W' => ∃ (j : Nat), v49 = .int .i64 (j : Int) ∧ Aside0 (Sp W' [WrP 103 (w.heap.size + 1) (wAll wRowx (t.take j) (wNum t.length 2 (wAll wTable (x.f2.take i) s3))), Old w, Blk w.heap.size (.cells #[.slice A0 x.f0.length c0, .int .i64 x.f1.f0, .int .i64 x.f1.f1, .int .i64 x.f1.f2, .slice (some ad) x.f2.length c4, .slice A5 x.f3.length c5, .slice A6 x.f4.length c6] 31 (0, 0))]) ∧ Aside0 (kq + j = t.length + 1 ∧ j ≤ t.length))
   case atStart => exact ⟨0, rfl, ⟨HS4.out⟩, ⟨by omega⟩⟩
   case round =>
    obtain ⟨j, rfl, HA2, HK2⟩ := hrel
    obtain ⟨k2, rfl⟩ : ∃ k2, gk = k2 + 1 := ⟨gk - 1, by have := HK2.out; omega⟩
    clear HS4 hb0 hb1 hb2 hb3 hx0
    by_cases hi : j < t.length
    rotate_left
    ·
     have hie : j = t.length := by have := HK2.out; omega
     have hb2 : decide ((j : Int) < (t.length : Int)) = false := decide_eq_false z2_
     have hb3 : decide (j < t.length) = false := decide_eq_false hi
     have h := HA2.out
     rw [hie, List.take_length] at h
     have HS5 := mk_ h
     clear hi h hie HA2
     go_wp2
     go_roundg k1
     case measure => exact Nat.lt_succ_self _
     case rel => exact ⟨i + 1, by rw [w64 z2_ (by have := HI2.out; have := HX.out; omega)]; rfl, ⟨by rw [HT.out, eF]; exact HS5.out⟩, ⟨by have := HK.out; omega, by have := HI2.out; omega⟩⟩
    obtain ⟨ad2, B1, d1, B2, d2, e, hy0, hy1, hy2, hl1, hD1, hl2, hD2⟩ := fD HCt.out (j : Int) z2_ z2_
    cases e
    rw [rdX_get hi] at hy0 hy1 hy2 hl1 hD1 hl2 hD2
    rw [Int.toNat_natCast] at hy0 hy1 hy2
    replace hy0 := dE HA2.out.s1.old hy0
    replace hy1 := dE HA2.out.s1.old hy1
    replace hy2 := dE HA2.out.s1.old hy2
    have hb0 : (0 ≤ (j : Int)) = True := eq_true z2_
    have hb1 : ((j : Int) < (t.length : Int)) = True := eq_true z2_
    have hb2 : decide ((j : Int) < (t.length : Int)) = true := decide_eq_true z2_
    have hb3 : decide (j < t.length) = true := decide_eq_true hi
    have hrs := HTS.out.2 _ (List.getElem_mem hi)
    have HI3 := mk_ hi
    have HT2 := mk_ (eL hi)
    generalize t[j] = r at *
    have HRC := mk_ (show _ ∧ _ ∧ _ ∧ _ ∧ _ from ⟨hD1, hl1, hD2, hl2, hrs⟩)
    clear hi hD1 hl1 hD2 hl2 hrs
    have HD := mk_ (HA2.out.box (.cells #[.string ⟨#[]⟩, .slice none 0 0, .slice none 0 0] 80 (0, 0)))
    go_wp2_with (first
     | ((with_reducible refine dJ (ty := 80) (x := .tmp 8) (y := .tmp 52) rfl ?_); go_loud (refine wpList_store_row rfl 80 (.tmp 8) (.tmp 52) rfl wr.heap.size #[.string r.f0, .slice B1 r.f1.length d1, .slice B2 r.f2.length d2] rfl rfl 80 #[.string ⟨#[]⟩, .slice none 0 0, .slice none 0 0] HD.out.blk z1_ rfl z7_ ?_; have HE := mk_ (bG HD.out #[.string r.f0, .slice B1 r.f1.length d1, .slice B2 r.f2.length d2]); have kd := aC HE.out.blk))
     | (go_at_call 50; go_loud (refine (wrow_calls r B1 B2 d1 d2 HRC.out.1 HRC.out.2.1 HRC.out.2.2.1 HRC.out.2.2.2.1 HRC.out.2.2.2.2 _ HE.out.tail (by have := HB.out; have h1 := wRows_lenS (kJ HTS.out.2 j) (wNum t.length 2 (wAll wTable (x.f2.take i) s3)); have h2 := cH t.length 2 (wAll wTable (x.f2.take i) s3); have h3 := HTS.out.1; have h4 := List.length_take_le j t; have h6 := HI3.out; omega)).mono ?_; rintro e W2 ⟨⟨u, rfl⟩, h1⟩; have HS11 := mk_ h1; clear h1)))
    go_roundg k2
    case measure => exact Nat.lt_succ_self _
    case rel => exact ⟨j + 1, by rw [w64 z2_ (by have := HI3.out; omega)]; rfl, ⟨by rw [HT2.out, eF]; exact HS11.out⟩, ⟨by have := HK2.out; omega, by have := HI3.out; omega⟩⟩
  have hie : i = x.f2.length := by have := HK.out; omega
  have hb2 : decide ((i : Int) < (x.f2.length : Int)) = false := decide_eq_false z2_
  have hb3 : decide (i < x.f2.length) = false := decide_eq_false hi
  have h := HA.out
  rw [hie, List.take_length, ← HE4.out] at h
  have kx4 := aC h.s2.blk
  have HS4 := mk_ h
  clear hi h hie HA
  obtain ⟨vw, h1⟩ := WrP.open HS4.out
  obtain ⟨Aw, cw, rfl, _, _⟩ := h1.s1.row
  obtain ⟨b4, bad4⟩ := s4
  have k1 : wr.cell? ⟨w.heap.size + 1, 1, none⟩ = some (.bool bad4) := aC h1.blk 1
  have f1 := aH h1.blk 1
  have key : ∀ nb : Bool, Aside0 (Sp (wr.setCell ⟨w.heap.size + 1, 1, none⟩ (.bool nb)) [WrP 103 (w.heap.size + 1) ((b4, nb)), Old w, Blk w.heap.size (.cells #[.slice A0 x.f0.length c0, .int .i64 x.f1.f0, .int .i64 x.f1.f1, .int .i64 x.f1.f2, .slice A4 x.f2.length c4, .slice A5 x.f3.length c5, .slice A6 x.f4.length c6] 31 (0, 0))]) := fun nb => ⟨WrP.shut (h1.store 1 (.bool nb))⟩
  obtain ⟨nb, hnb⟩ : ∃ nb, nb = (bad4 || decide (x.f3.length > 5)) := ⟨_, rfl⟩
  have HS5 := key nb
  have HN5 := mk_ (show s5 = (b4, nb) from by rw [HE5.out]; unfold wOr; rw [hnb])
  have hqn : bad4 = true ∧ nb = true ∨ bad4 = false ∧ nb = decide (x.f3.length > 5) := by rw [hnb]; cases bad4 <;> simp
  clear key hnb h1 HS4
  go_upto_region 15 with (fail)
  go_cut [69] (fun v69 wc => Aside0 (Sp wc [WrP 103 (w.heap.size + 1) (s5), Old w, Blk w.heap.size (.cells #[.slice A0 x.f0.length c0, .int .i64 x.f1.f0, .int .i64 x.f1.f1, .int .i64 x.f1.f2, .slice A4 x.f2.length c4, .slice A5 x.f3.length c5, .slice A6 x.f4.length c6] 31 (0, 0))]))
  case first =>
   rcases hqn with ⟨rfl, rfl⟩ | ⟨rfl, hq⟩
   ·
    go_wp2
    go_meet
    case rel => exact ⟨by rw [HN5.out]; exact HS5.out⟩
   ·
    by_cases h5 : x.f3.length > 5
    ·
     rw [decide_eq_true h5] at hq
     subst hq
     have hd1 : decide ((5 : Int) < (x.f3.length : Int)) = true := decide_eq_true z2_
     have hd2 : decide (5 < x.f3.length) = true := decide_eq_true h5
     go_wp2
     go_meet
     case rel => exact ⟨by rw [HN5.out]; exact HS5.out⟩
    rw [decide_eq_false h5] at hq
    subst hq
    have hd1 : decide ((5 : Int) < (x.f3.length : Int)) = false := decide_eq_false z2_
    have hd2 : decide (5 < x.f3.length) = false := decide_eq_false h5
    go_wp2
    go_meet
    case rel => exact ⟨by rw [HN5.out]; exact HS5.out⟩
  case rest =>
  have h5 := hcut
  clear hqn HS5 HN5 k1 f1 kx4
  have kx5 := aC h5.out.s2.blk
  have HS5 := mk_ h5.out.drew
  clear h5
  go_wp2
  refine wp_region_still_tail 6 z1_ z1_ ?_
  simp only [List.take_succ_cons, List.take_zero, List.drop_succ_cons, List.drop_zero]
  repeat still_step
  refine wpStill_nil ?_
  rw [eX]
  go_wp2_with (go_at_call 49; go_loud (refine (cB s5 x.f3.length 1 HS5.out (by have := HLEN.out; omega)).mono ?_; rintro e V6 ⟨⟨u, rfl⟩, h1⟩; rw [← HE6.out] at h1; have kx6 := aC h1.s2.blk; have HS6 := mk_ h1; clear h1 kx5 HS5))
  go_loopg [83] (x.f3.length + 1) (fun kq v83 W' => ∃ (i : Nat), v83 = .int .i64 (i : Int) ∧ Aside0 (Sp W' [WrP 103 (w.heap.size + 1) (wAll wNums (x.f3.take i) s6), Old w, Blk w.heap.size (.cells #[.slice A0 x.f0.length c0, .int .i64 x.f1.f0, .int .i64 x.f1.f1, .int .i64 x.f1.f2, .slice A4 x.f2.length c4, .slice A5 x.f3.length c5, .slice A6 x.f4.length c6] 31 (0, 0))]) ∧ Aside0 (kq + i = x.f3.length + 1 ∧ i ≤ x.f3.length))
  case atStart => exact ⟨0, rfl, ⟨HS6.out⟩, ⟨by omega⟩⟩
  case round =>
   obtain ⟨i, rfl, HA, HK⟩ := hrel
   obtain ⟨k1, rfl⟩ : ∃ k1, gk = k1 + 1 := ⟨gk - 1, by have := HK.out; omega⟩
   clear kx6 HS6
   by_cases hi : i < x.f3.length
   ·
    obtain ⟨ad, Av, cv, e, hx0, hlv, hCv⟩ := at_rows HC5.out.1 hi
    subst e
    have hvs := HT5.out _ (List.getElem_mem hi)
    replace hx0 := dE HA.out.s1.old hx0
    have hb0 : (0 ≤ (i : Int)) = True := eq_true z2_
    have hb1 : ((i : Int) < (x.f3.length : Int)) = True := eq_true z2_
    have hb2 : decide ((i : Int) < (x.f3.length : Int)) = true := decide_eq_true z2_
    have hb3 : decide (i < x.f3.length) = true := decide_eq_true hi
    have HI2 := mk_ hi
    have HT := mk_ (eL hi)
    generalize x.f3[i] = v at *
    have HCV := mk_ (And.intro hCv (And.intro hlv hvs))
    clear hi hCv hlv hvs
    go_wp2_with (go_at_call 47; go_loud (refine (gE Av cv v HCV.out.1 HCV.out.2.1 HCV.out.2.2 _ HA.out (by have := HLEN.out; have h1 := wSafes_lenS (kJ HT5.out i) s6; have h3 := HX.out; have h4 := List.length_take_le i x.f3; have h6 := HI2.out; omega)).mono ?_; rintro e W2 ⟨⟨u, rfl⟩, h1⟩; have HS11 := mk_ h1; clear h1))
    go_roundg k1
    case measure => exact Nat.lt_succ_self _
    case rel => exact ⟨i + 1, by rw [w64 z2_ (by have := HI2.out; have := HX.out; omega)]; rfl, ⟨by rw [HT.out, eF]; exact HS11.out⟩, ⟨by have := HK.out; omega, by have := HI2.out; omega⟩⟩
   have hie : i = x.f3.length := by have := HK.out; omega
   have hb2 : decide ((i : Int) < (x.f3.length : Int)) = false := decide_eq_false z2_
   have hb3 : decide (i < x.f3.length) = false := decide_eq_false hi
   have h := HA.out
   rw [hie, List.take_length, ← HE7.out] at h
   have kx7 := aC h.s2.blk
   have HS7 := mk_ h.drew
   clear hi h hie HA
   go_wp2
   refine wp_region_still_tail 6 z1_ z1_ ?_
   simp only [List.take_succ_cons, List.take_zero, List.drop_succ_cons, List.drop_zero]
   repeat still_step
   refine wpStill_nil ?_
   rw [eX]
   go_wp2_with (go_at_call 49; go_loud (refine (cB s7 x.f4.length 2 HS7.out (by have := HLEN.out; omega)).mono ?_; rintro e V8 ⟨⟨u, rfl⟩, h1⟩; rw [← HE8.out] at h1; have kx8 := aC h1.s2.blk; have HS8 := mk_ h1; clear h1 kx7 HS7))
   go_loopg [103] (x.f4.length + 1) (fun kq v103 W' => ∃ (i : Nat), v103 = .int .i64 (i : Int) ∧ Aside0 (Sp W' [WrP 103 (w.heap.size + 1) (wAll wOp (x.f4.take i) s8), Old w, Blk w.heap.size (.cells #[.slice A0 x.f0.length c0, .int .i64 x.f1.f0, .int .i64 x.f1.f1, .int .i64 x.f1.f2, .slice A4 x.f2.length c4, .slice A5 x.f3.length c5, .slice A6 x.f4.length c6] 31 (0, 0))]) ∧ Aside0 (kq + i = x.f4.length + 1 ∧ i ≤ x.f4.length))
   case atStart => exact ⟨0, rfl, ⟨HS8.out⟩, ⟨by omega⟩⟩
   case round =>
    obtain ⟨i, rfl, HA, HK⟩ := hrel
    obtain ⟨k1, rfl⟩ : ∃ k1, gk = k1 + 1 := ⟨gk - 1, by have := HK.out; omega⟩
    clear kx8 HS8
    by_cases hi : i < x.f4.length
    rotate_left
    ·
     have hie : i = x.f4.length := by have := HK.out; omega
     have hb2 : decide ((i : Int) < (x.f4.length : Int)) = false := decide_eq_false z2_
     have hb3 : decide (i < x.f4.length) = false := decide_eq_false hi
     have h := HA.out
     rw [hie, List.take_length, ← HE9.out] at h
     obtain ⟨v9, h9⟩ := WrP.open h
     obtain ⟨A9, c9, rfl, _, _⟩ := h9.s1.row
     obtain ⟨b9, bad9⟩ := s9
     have k0 : wr.cell? ⟨w.heap.size + 1, 0, none⟩ = some (.slice A9 b9.length c9) := aC h9.blk 0
     have k1 : wr.cell? ⟨w.heap.size + 1, 1, none⟩ = some (.bool bad9) := aC h9.blk 1
     have HS9 := mk_ h9.tail
     clear hi h hie HA h9
     cases bad9 with
     | true =>
      go_wp2
      go_ret2
      rw [HU.out, if_pos (by trivial)]
      exact ⟨_, rfl, dG HS9.out.tail.s1.tail⟩
     | false =>
      by_cases h65 : b9.length > 65535
      ·
       have h65' := mk_ h65
       have hd1 : decide ((65535 : Int) < (b9.length : Int)) = true := decide_eq_true z2_
       have hd2 : decide (65535 < b9.length) = true := decide_eq_true h65
       go_wp2
       go_ret2
       rw [HU.out, if_neg (by show ¬ (false = true); decide), if_pos h65'.out]
       exact ⟨_, rfl, dG HS9.out.tail.s1.tail⟩
      have h65' := mk_ h65
      have hd1 : decide ((65535 : Int) < (b9.length : Int)) = false := decide_eq_false z2_
      have hd2 : decide (65535 < b9.length) = false := decide_eq_false h65
      go_wp2
      go_ret2
      rw [HU.out, if_neg (by show ¬ (false = true); decide), if_neg h65'.out]
      exact ⟨_, rfl, HS9.out.s2.tail⟩
    obtain ⟨ad, B2, d2, B10, d10, B11, d11, e, hx0, hx1, hx2, hx3, hx4, hx5, hx6, hx7, hx8, hx9, hx10, hx11, l2, g2, l10, g10, l11, g11⟩ := eS HC6.out.1 (i : Int) z2_ z2_
    cases e
    rw [rdO_get hi] at hx0 hx1 hx2 hx3 hx4 hx5 hx6 hx7 hx8 hx9 hx10 hx11 l2 g2 l10 g10 l11 g11
    rw [Int.toNat_natCast] at hx0 hx1 hx2 hx3 hx4 hx5 hx6 hx7 hx8 hx9 hx10 hx11
    replace hx0 := dE HA.out.s1.old hx0
    replace hx1 := dE HA.out.s1.old hx1
    replace hx2 := dE HA.out.s1.old hx2
    replace hx3 := dE HA.out.s1.old hx3
    replace hx4 := dE HA.out.s1.old hx4
    replace hx5 := dE HA.out.s1.old hx5
    replace hx6 := dE HA.out.s1.old hx6
    replace hx7 := dE HA.out.s1.old hx7
    replace hx8 := dE HA.out.s1.old hx8
    replace hx9 := dE HA.out.s1.old hx9
    replace hx10 := dE HA.out.s1.old hx10
    replace hx11 := dE HA.out.s1.old hx11
    have hb0 : (0 ≤ (i : Int)) = True := eq_true z2_
    have hb1 : ((i : Int) < (x.f4.length : Int)) = True := eq_true z2_
    have hb2 : decide ((i : Int) < (x.f4.length : Int)) = true := decide_eq_true z2_
    have hb3 : decide (i < x.f4.length) = true := decide_eq_true hi
    have hos := HT6.out _ (List.getElem_mem hi)
    have HI2 := mk_ hi
    have HT := mk_ (eL hi)
    generalize x.f4[i] = d at *
    have HRC := mk_ (show _ ∧ _ ∧ _ ∧ _ ∧ _ ∧ _ ∧ _ from ⟨g2, l2, g10, l10, g11, l11, hos⟩)
    clear hi g2 l2 g10 l10 g11 l11 hos
    have HD := mk_ (HA.out.box (.cells #[.int .i64 0, .int .i64 0, .slice none 0 0, .int .i64 0, .int .i64 0, .int .i64 0, .int .i64 0, .int .i64 0, .string ⟨#[]⟩, .int .i64 0, .slice none 0 0, .slice none 0 0] 54 (0, 0)))
    go_wp2_with ((with_reducible refine dJ (ty := 54) (x := .tmp 12) (y := .tmp 106) rfl ?_); go_loud (refine wpList_store_row rfl 54 (.tmp 12) (.tmp 106) rfl wr.heap.size #[.int .i64 d.f0.f0, .int .i64 d.f0.f1, .slice B2 d.f1.length d2, .int .i64 d.f2.f0, .int .i64 d.f2.f1, .int .i64 d.f2.f2, .int .i64 d.f3, .int .i64 d.f4, .string d.f5, .int .i64 d.f6, .slice B10 d.f7.length d10, .slice B11 d.f8.length d11] rfl rfl 54 #[.int .i64 0, .int .i64 0, .slice none 0 0, .int .i64 0, .int .i64 0, .int .i64 0, .int .i64 0, .int .i64 0, .string ⟨#[]⟩, .int .i64 0, .slice none 0 0, .slice none 0 0] HD.out.blk z1_ rfl z7_ ?_; have HE := mk_ (bG HD.out #[.int .i64 d.f0.f0, .int .i64 d.f0.f1, .slice B2 d.f1.length d2, .int .i64 d.f2.f0, .int .i64 d.f2.f1, .int .i64 d.f2.f2, .int .i64 d.f3, .int .i64 d.f4, .string d.f5, .int .i64 d.f6, .slice B10 d.f7.length d10, .slice B11 d.f8.length d11]).drew; have kd := aC HE.out.blk))
    revert HE kd
    generalize World.setRow _ _ _ = w5
    intro HE kd
    refine wp_region_still_tail 4 z1_ z1_ ?_
    simp only [List.take_succ_cons, List.take_zero, List.drop_succ_cons, List.drop_zero]
    repeat still_step
    refine wpStill_nil ?_
    rw [eX]
    go_wp2_with (go_at_call 51; go_loud (refine (wop_calls d B2 B10 B11 d2 d10 d11 HRC.out.1 HRC.out.2.1 HRC.out.2.2.1 HRC.out.2.2.2.1 HRC.out.2.2.2.2.1 HRC.out.2.2.2.2.2.1 HRC.out.2.2.2.2.2.2 _ HE.out.tail (by have := HLEN.out; have h1 := wOps_lenS (kJ HT6.out i) s8; have h3 := HX.out; have h4 := List.length_take_le i x.f4; have h6 := HI2.out; omega)).mono ?_; rintro e W2 ⟨⟨u, rfl⟩, h1⟩; have HS11 := mk_ h1; clear h1))
    go_roundg k1
    case measure => exact Nat.lt_succ_self _
    case rel => exact ⟨i + 1, by rw [w64 z2_ (by have := HI2.out; have := HX.out; omega)]; rfl, ⟨by rw [HT.out, eF]; exact HS11.out⟩, ⟨by have := HK.out; omega, by have := HI2.out; omega⟩⟩
end
end Go.Proofs.Ytcbfliajgopdaaa.Snaps
end
section
namespace Go.Proofs.Ytcbfliajgopdaaa.Snaps
open Go.RowKit PAll Plain Ops PrintWords ZipT PrintWords.Kd PrintMore.Kd
set_option linter.unusedVariables false
set_option linter.unusedSimpArgs false
def valB (v : V) : List Int := if vZero v then [0] else vB v
def valFit (v : V) : Prop := vZero v ∨ okV v
instance (v : V) : Decidable (okV v) := by unfold okV; infer_instance
instance (v : V) : Decidable (valFit v) := by unfold valFit; infer_instance
theorem zero_not_ok {v : V} (h : vZero v) : ¬ okV v := fun k => by
 have := h.1
 unfold okV vOk at k
 omega
theorem valO_eq (v : V) : valO v = if valFit v then (valB v, 0) else ([], 1) := by
 unfold valO valFit valB
 by_cases h : vZero v
 ·
  have h' : vZero v ∨ okV v := .inl h
  simp only [if_pos h, if_pos h']
 by_cases k : okV v
 ·
  have h' : vZero v ∨ okV v := .inr k
  simp only [if_neg h, if_pos k, if_pos h']
 have h' : ¬ (vZero v ∨ okV v) := fun e => e.elim h k
 simp only [if_neg h, if_neg k, if_neg h']
theorem Writes.val : Writes wVal valB valFit where
 ok := fun v s h => by unfold wVal wAdd; rw [valO_eq, if_pos h]; simp
 no := fun v s h => by unfold wVal wAdd; rw [valO_eq, if_neg h]; simp
 stay := fun v s h => by unfold wVal wAdd; rw [h]; rfl
def cellB (c : Cl) : List Int := valB c.f0 ++ stampB c.f1 ++ dotB c.f2
def cellFit (c : Cl) : Prop := (valFit c.f0 ∧ stampFit c.f1) ∧ dotFit c.f2
instance (c : Cl) : Decidable (cellFit c) := by unfold cellFit; infer_instance
theorem Writes.cell : Writes wCell cellB cellFit := (Writes.val.comp Writes.stamp (fun c : Cl => c.f0) (fun c : Cl => c.f1)).comp Writes.dot id (fun c : Cl => c.f2)
section
variable {α : Type}
def manyB (s : Nat) (e : α → List Int) (l : List α) : List Int := big l.length s ++ l.flatMap e
def manyFit (s : Nat) (p : α → Prop) (l : List α) : Prop := fitN s (l.length : Int) ∧ ∀ x ∈ l, p x
instance (s : Nat) (p : α → Prop) [DecidablePred p] (l : List α) : Decidable (manyFit s p l) := by unfold manyFit; infer_instance
theorem Writes.many {f : α → Wr → Wr} {e : α → List Int} {p : α → Prop} (hf : Writes f e p) (s : Nat) (h1 : 1 ≤ s) (h7 : s ≤ 7) : Writes (fun l t => wAll f l (wNum l.length (s : Int) t)) (manyB s e) (manyFit s p) :=
 (Writes.num s h1 h7).comp (Writes.all hf) (fun l : List α => (l.length : Int)) id
end
def rowxB (x : Rx) : List Int := encT x.f0 ++ manyB 1 dotB x.f1 ++ manyB 1 cellB x.f2
def rowxFit (x : Rx) : Prop := (x.f0.size ≤ 24 ∧ manyFit 1 dotFit x.f1) ∧ manyFit 1 cellFit x.f2
instance (x : Rx) : Decidable (rowxFit x) := by unfold rowxFit; infer_instance
theorem Writes.rowx : Writes wRowx rowxB rowxFit := (Writes.text.comp (Writes.many Writes.dot 1 z4_ z4_) (fun x : Rx => x.f0) (fun x : Rx => x.f1)).comp (Writes.many Writes.cell 1 z4_ z4_) id (fun x : Rx => x.f2)
theorem Writes.table : Writes wTable (manyB 2 rowxB) (manyFit 2 rowxFit) := Writes.many Writes.rowx 2 z4_ z4_
theorem Writes.tabs : Writes wTabs (manyB 1 (manyB 2 rowxB)) (manyFit 1 (manyFit 2 rowxFit)) := Writes.many Writes.table 1 z4_ z4_
def safeB (l : List (List Int)) : List Int := manyB 1 numsB l
def safeFit (l : List (List Int)) : Prop := l.length ≤ 5 ∧ ∀ v ∈ l, numsFit v
instance (l : List (List Int)) : Decidable (safeFit l) := by unfold safeFit; infer_instance
theorem Writes.safe : Writes wSafe safeB safeFit :=
 (((Writes.or (fun l : List (List Int) => l.length > 5)).comp (Writes.num 1 z4_ z4_) id (fun l : List (List Int) => (l.length : Int))).comp (Writes.all Writes.nums) id id).congr
  (fun l _ => by simp [safeB, manyB]) (fun l => ⟨fun h => ⟨by have := h.1.1; simp at this; exact this, h.2⟩, fun h => ⟨⟨by have := h.1; simp; omega, by have := h.1; exact ⟨by omega, by show (l.length : Int) < 256 ^ 1; omega⟩⟩, h.2⟩⟩)
def snB (x : Sn) : List Int := numsB x.f0 ++ stampB x.f1 ++ manyB 1 (manyB 2 rowxB) x.f2 ++ safeB x.f3 ++ manyB 2 opB x.f4
def snFit (x : Sn) : Prop := (((numsFit x.f0 ∧ stampFit x.f1) ∧ manyFit 1 (manyFit 2 rowxFit) x.f2) ∧ safeFit x.f3) ∧ manyFit 2 opFit x.f4
instance (x : Sn) : Decidable (snFit x) := by unfold snFit; infer_instance
theorem Writes.snap : Writes wSnap snB snFit :=
 ((((Writes.nums.comp Writes.stamp (fun x : Sn => x.f0) (fun x : Sn => x.f1)).comp Writes.tabs id (fun x : Sn => x.f2)).comp Writes.safe id (fun x : Sn => x.f3)).comp (Writes.many Writes.op 2 z4_ z4_) id (fun x : Sn => x.f4))
theorem gK (x : Sn) : sSnapBytes x = if snFit x then (if (snB x).length > 65535 then ([], 2) else (snB x, 0)) else ([], 1) := by
 unfold sSnapBytes
 by_cases h : snFit x
 ·
  rw [if_pos h, Writes.snap.ok x _ h]; simp
 rw [if_neg h, Writes.snap.no x _ h, if_pos rfl]
theorem Reads.val0 : Reads (fun l r => rOf zVal (vRead l r.1) r) vB okV :=
 Reads.of (z := zVal) (g := fun l at_ => vRead l at_) (e := vB) (p := okV)
  (fun l at_ hb h => by
   obtain ⟨a, b, c, d, e⟩ := vread_sub (l := l) (at_ := at_) hb h
   exact ⟨b, a, c, d, e⟩)
  (fun a c x h => by
   have := vread_put a c x.f0 x.f1 x.f2 h
   unfold vRead vB
   rw [this])
theorem rd_at (a c : List Int) (y : Int) : rd (a ++ y :: c) (a.length : Int) = y := hU _ _ _ rfl
theorem vB_head {v : V} (h : okV v) : ∃ y m, vB v = y :: m ∧ y ≠ 0 := by
 unfold vB sVB
 split
 ·
  exact ⟨_, _, rfl, by omega⟩
 ·
  split
  ·
   exact ⟨_, _, rfl, by omega⟩
  ·
   split
   ·
    exact ⟨_, _, rfl, by omega⟩
   ·
    exact ⟨_, _, rfl, by omega⟩
theorem Reads.val : Reads rVal valB valFit where
 bad := fun l r h => by
  unfold rVal
  rw [if_neg (by rw [h]; simp)]
  exact Reads.val0.bad l r h
 place := fun l r hb h0 h1 => by
  unfold rVal
  split
  ·
   rename_i h; exact ⟨by show 0 ≤ r.1 + 1; omega, by show r.1 + 1 ≤ _; omega⟩
  ·
   exact Reads.val0.place l r hb h0 h1
 got := fun l r hb h0 h1 h => by
  unfold rVal at h ⊢
  by_cases hc : r.2 = false ∧ r.1 < l.length ∧ rd l r.1 = 0
  ·
   rw [if_pos hc]
   refine ⟨.inl ⟨rfl, rfl, rfl⟩, by show r.1 ≤ r.1 + 1; omega, ?_⟩
   show valB zVal = sub l r.1.toNat (r.1 + 1).toNat
   rw [sub_one h0 hc.2.1, hc.2.2]; rfl
  ·
   rw [if_neg hc] at h ⊢
   obtain ⟨a, b, d⟩ := Reads.val0.got l r hb h0 h1 h
   refine ⟨.inr a, b, ?_⟩
   unfold valB
   rw [if_neg (fun e => zero_not_ok e a)]
   exact d
 put := fun a c x h => by
  unfold rVal valB
  by_cases hz : vZero x
  ·
   rw [if_pos hz]
   have e : a ++ [0] ++ c = a ++ 0 :: c := by simp
   rw [e, if_pos ⟨rfl, by simp; omega, rd_at a c 0⟩]
   obtain ⟨k, i, s⟩ := x
   obtain ⟨rfl, rfl, rfl⟩ : k = 0 ∧ i = 0 ∧ s = ⟨#[]⟩ := hz
   rfl
  ·
   rw [if_neg hz]
   have ho := h.resolve_left hz
   obtain ⟨y, m, e1, e2⟩ := vB_head ho
   rw [if_neg (fun hc => e2 (by have := hc.2.2; rw [e1, show a ++ y :: m ++ c = a ++ y :: (m ++ c) by simp] at this; rwa [rd_at] at this))]
   exact Reads.val0.put a c x ho
theorem stuck_val : Stuck rVal := fun l r h => by
 unfold rVal
 rw [if_neg (by rw [h]; simp)]
 unfold rOf
 rw [if_pos (.inl h)]
 exact Prod.ext rfl h.symm
theorem Reads.cell : Reads rCell cellB cellFit :=
 ((Reads.val.comp Reads.stamp).comp Reads.dot).map (fun p => (⟨p.1.1, p.1.2, p.2⟩ : Cl)) (fun d => ((d.f0, d.f1), d.f2)) (fun _ => rfl) (fun _ => rfl)
theorem stuck_cell : Stuck rCell := fun l r h => by
 show (rDot l (rStamp l (rVal l r).2).2).2 = r
 rw [stuck_val l r h, stuck_stamp l r h]; exact iB l r h
section
variable {α : Type}
theorem Reads.count0 {f : List Int → Rr → α × Rr} {e : α → List Int} {p : α → Prop} (hf : Reads f e p) (s : Nat) (h1 : 1 ≤ s) (h7 : s ≤ 7) :
  Reads (fun l r => rTimes f l (rNum (s : Int) l r).1.toNat [] (rNum (s : Int) l r).2) (manyB s e) (manyFit s p) where
 bad := fun l r h => (hf.times _).bad l _ ((Reads.num s h1 h7).bad l r h)
 place := fun l r hb h0 h1' => by
  obtain ⟨a, b⟩ := (Reads.num s h1 h7).place l r hb h0 h1'
  exact (hf.times _).place l _ hb a b
 got := fun l r hb h0 h1' h => by
  have hN := Reads.num s h1 h7
  have hT := hf.times (rNum (s : Int) l r).1.toNat
  have h : (rTimes f l (rNum (s : Int) l r).1.toNat [] (rNum (s : Int) l r).2).2.2 = false := h
  have hz := hT.good h
  obtain ⟨a, b⟩ := hN.place l r hb h0 h1'
  obtain ⟨c1, c2, c3⟩ := hN.got l r hb h0 h1' hz
  obtain ⟨d1, d2, d3⟩ := hT.got l _ hb a b h
  obtain ⟨e1, e2⟩ := hT.place l _ hb a b
  have h0' : 0 ≤ (rNum (s : Int) l r).1 := c1.1
  have hc : (((rNum (s : Int) l r).1.toNat : Nat) : Int) = (rNum (s : Int) l r).1 := by omega
  refine ⟨⟨by show fitN s (List.length _ : Int); rw [d1.1, hc]; exact c1, d1.2⟩, Int.le_trans c2 d2, ?_⟩
  show big (List.length _ : Int) s ++ List.flatMap e _ = _
  rw [d1.1, hc, d3, c3]
  exact sub_sub l _ _ _ z2_ z2_ z2_
 put := fun a c xs h => by
  have hN := (Reads.num s h1 h7).put a (xs.flatMap e ++ c) (xs.length : Int) h.1
  have e1 : a ++ manyB s e xs ++ c = a ++ big xs.length s ++ (xs.flatMap e ++ c) := by simp [manyB]
  have e2 : a ++ manyB s e xs ++ c = (a ++ big xs.length s) ++ xs.flatMap e ++ c := by simp [manyB]
  have hM : rNum (s : Int) (a ++ manyB s e xs ++ c) (a.length, false) = ((xs.length : Int), ((a.length : Int) + s, false)) := by
   rw [e1, hN, dL]
  show rTimes f _ (rNum _ _ _).1.toNat [] (rNum _ _ _).2 = _
  rw [hM]
  show rTimes f _ ((xs.length : Int).toNat) [] _ = _
  rw [Int.toNat_natCast]
  have hT := (hf.times xs.length).put (a ++ big xs.length s) c xs ⟨rfl, h.2⟩
  rw [← e2] at hT
  rw [show ((a.length : Int) + s, false) = (((a ++ big xs.length s).length : Int), false) by simp [dL]]
  refine Eq.trans hT ?_
  simp [manyB, dL]; omega
theorem Reads.stop {f f' : List Int → Rr → α × Rr} {e : α → List Int} {p : α → Prop} (hf : Reads f e p) (h : ∀ l r, (f' l r).2 = (f l r).2 ∧ ((f l r).2.2 = false → f' l r = f l r)) : Reads f' e p where
 bad := fun l r k => by rw [(h l r).1]; exact hf.bad l r k
 place := fun l r hb h0 h1 => by rw [(h l r).1]; exact hf.place l r hb h0 h1
 got := fun l r hb h0 h1 k => by
  rw [(h l r).1] at k
  rw [(h l r).2 k]; exact hf.got l r hb h0 h1 k
 put := fun a c x k => by
  have := hf.put a c x k
  rw [(h _ _).2 (by rw [this])]; exact this
theorem count_eq {f : List Int → Rr → α × Rr} (hs : Stuck f) (s : Int) (l : List Int) (r : Rr) :
  (cCount s f l r).2 = (rTimes f l (rNum s l r).1.toNat [] (rNum s l r).2).2 ∧ ((rTimes f l (rNum s l r).1.toNat [] (rNum s l r).2).2.2 = false → cCount s f l r = rTimes f l (rNum s l r).1.toNat [] (rNum s l r).2) :=
 cTimes_eq hs l _ [] _
theorem Reads.count {f : List Int → Rr → α × Rr} {e : α → List Int} {p : α → Prop} (hf : Reads f e p) (hs : Stuck f) (s : Nat) (h1 : 1 ≤ s) (h7 : s ≤ 7) : Reads (cCount (s : Int) f) (manyB s e) (manyFit s p) :=
 Snaps.Reads.stop (Reads.count0 hf s h1 h7) (fun l r => count_eq hs s l r)
theorem iQ {f : List Int → Rr → α × Rr} (s : Int) : Stuck (cCount s f) := fun l r h => by
 unfold cCount
 rw [eW s l r h, fQ f l _ [] h]
end
theorem Reads.rowx : Reads rRowx rowxB rowxFit :=
 ((Reads.text.comp (Reads.count Reads.dot iB 1 z4_ z4_)).comp (Reads.count Reads.cell stuck_cell 1 z4_ z4_)).map (fun p => (⟨p.1.1, p.1.2, p.2⟩ : Rx)) (fun d => ((d.f0, d.f1), d.f2)) (fun _ => rfl) (fun _ => rfl)
theorem stuck_rowx : Stuck rRowx := fun l r h => by
 show (cCount 1 rCell l (cCount 1 rDot l (rText l r).2).2).2 = r
 rw [stuck_text l r h, iQ 1 l r h]; exact iQ 1 l r h
theorem Reads.table : Reads rTable (manyB 2 rowxB) (manyFit 2 rowxFit) := Reads.count Reads.rowx stuck_rowx 2 z4_ z4_
theorem stuck_table : Stuck rTable := iQ 2
theorem Reads.tabs : Reads rTabs (manyB 1 (manyB 2 rowxB)) (manyFit 1 (manyFit 2 rowxFit)) := Reads.count Reads.table stuck_table 1 z4_ z4_
theorem Reads.safe : Reads rSafe safeB safeFit := (Reads.nums.many 1 z4_ z4_ 5 z4_).congr (fun _ _ => rfl) (fun _ _ => rfl) (fun _ => Iff.rfl)
theorem stuck_opC : Stuck rOpC := fun l r h => by
 have hh : (rHead l r).2 = r := by
  show (rNum 1 l (rText l (rNum 1 l (rStamp l (rNums l (rDot l (rNum 1 l r).2).2).2).2).2).2).2 = r
  rw [eW 1 l r h, iB l r h, stuck_nums l r h, stuck_stamp l r h, eW 1 l r h, stuck_text l r h]; exact eW 1 l r h
 show (rDots l (rRow l (rHead l r).2).2).2 = r
 rw [hh, stuck_row l r h]; exact stuck_dots l r h
theorem stuck_op : Stuck rOp := fun l r h => by rw [rOp_state]; exact stuck_opC l r h
theorem Reads.ops : Reads rOps (manyB 2 opB) (manyFit 2 opFit) := Reads.count Reads.op stuck_op 2 z4_ z4_
theorem Reads.snap : Reads rSnap snB snFit :=
 ((((Reads.nums.comp Reads.stamp).comp Reads.tabs).comp Reads.safe).comp Reads.ops).map (fun p => (⟨p.1.1.1.1, p.1.1.1.2, p.1.1.2, p.1.2, p.2⟩ : Sn)) (fun d => ((((d.f0, d.f1), d.f2), d.f3), d.f4)) (fun _ => rfl) (fun _ => rfl)
theorem readSnap_eq {l : List Int} (hb : Bytes l) (hl : l.length ≤ 65535) : sReadSnap l = if (rSnap l (0, false)).2 = ((l.length : Int), false) then ((rSnap l (0, false)).1, 0) else (zSnap, 3) := by
 unfold sReadSnap
 rw [if_neg z2_]
 by_cases h : (rSnap l (0, false)).2 = ((l.length : Int), false)
 rotate_left
 ·
  rw [if_neg h, if_pos]
  by_cases h2 : (rSnap l (0, false)).2.2 = true
  ·
   exact .inl h2
  refine .inr (.inl (fun k => h (Prod.ext k ?_)))
  simpa using h2
 rw [if_pos h]
 have h2 : (rSnap l (0, false)).2.2 = false := by rw [h]
 have h1 : (rSnap l (0, false)).2.1 = (l.length : Int) := by rw [h]
 obtain ⟨a, b, c⟩ := Reads.snap.got l (0, false) hb (Int.le_refl _) (by show (0 : Int) ≤ _; omega) h2
 rw [h1] at c
 have e : sub l (0 : Int).toNat ((l.length : Int)).toNat = l := by
  rw [Int.toNat_natCast]; show (l.take l.length).drop 0 = l; simp
 have c' : snB (rSnap l (0, false)).1 = l := c.trans e
 have hw : sSnapBytes (rSnap l (0, false)).1 = (l, 0) := by rw [gK, if_pos a, c', if_neg z2_]
 rw [hw, if_neg]
 rintro (k | k | k | k)
 ·
  rw [h2] at k; cases k
 ·
  exact k h1
 ·
  exact k rfl
 ·
  exact k rfl
theorem flat_bytesM {α : Type} {f : α → List Int} : ∀ l : List α, (∀ x ∈ l, Bytes (f x)) → Bytes (l.flatMap f)
 | [], _ => Bytes.nil
 | x :: l, h => by rw [List.flatMap_cons]; exact (h x List.mem_cons_self).append (flat_bytesM l (fun y hy => h y (List.mem_cons_of_mem _ hy)))
theorem gF {α : Type} {s : Nat} {e : α → List Int} {p : α → Prop} {l : List α} (h : manyFit s p l) (he : ∀ x, p x → Bytes (e x)) : Bytes (manyB s e l) :=
 (dA _ _).append (flat_bytesM l (fun x hx => he x (h.2 x hx)))
theorem dotB_bytes (d : Dt) : Bytes (dotB d) := (dA _ _).append (dA _ _)
theorem kL (t : St) : Bytes (stampB t) := ((dA _ _).append (dA _ _)).append (dA _ _)
theorem numsB_bytes (l : List Int) : Bytes (numsB l) := (dA _ _).append (gV (fun n => dA _ _) _)
theorem valB_bytes {v : V} (h : valFit v) : Bytes (valB v) := by
 unfold valB
 by_cases hz : vZero v
 ·
  rw [if_pos hz]; exact Bytes.cons ⟨by decide, by decide⟩ Bytes.nil
 rw [if_neg hz]; exact sVB_bytes (h.resolve_left hz)
theorem cellB_bytes {c : Cl} (h : cellFit c) : Bytes (cellB c) := ((valB_bytes h.1.1).append (kL _)).append (dotB_bytes _)
theorem rowxB_bytes {x : Rx} (h : rowxFit x) : Bytes (rowxB x) := ((encT_bytes _ h.1.1).append (gF h.1.2 (fun d _ => dotB_bytes d))).append (gF h.2 (fun c hc => cellB_bytes hc))
theorem jD {x : Sn} (h : snFit x) : Bytes (snB x) :=
 ((((numsB_bytes _).append (kL _)).append (gF h.1.1.2 (fun t ht => gF ht (fun x hx => rowxB_bytes hx)))).append ((dA _ _).append (gV numsB_bytes _))).append (gF h.2 (fun x hx => opB_bytes hx))
theorem snB_inj {x y : Sn} (hx : snFit x) (hy : snFit y) : snB x = snB y ↔ x = y := by
 constructor
 ·
  intro h
  have h1 := Reads.snap.put [] [] x hx
  have h2 := Reads.snap.put [] [] y hy
  rw [h, h2] at h1
  exact (congrArg Prod.fst h1).symm
 ·
  intro h; rw [h]
theorem num_lt {l : List Int} (hb : Bytes l) (s : Nat) (h1 : 1 ≤ s) (h7 : s ≤ 7) {r : Rr} (h0 : 0 ≤ r.1) (hl : r.1 ≤ l.length) : (rNum (s : Int) l r).1.toNat < 256 ^ s := by
 by_cases h : (rNum (s : Int) l r).2.2 = false
 ·
  obtain ⟨a, _, _⟩ := (Reads.num s h1 h7).got l r hb h0 hl h
  have h2 := a.2
  have h3 := a.1
  have : (((rNum (s : Int) l r).1.toNat : Nat) : Int) < ((256 ^ s : Nat) : Int) := by rw [Int.toNat_of_nonneg h3]; simpa using h2
  exact Int.ofNat_lt.1 this
 unfold rNum rOf at h ⊢
 split
 ·
  show (0 : Int).toNat < _; exact Nat.pow_pos z4_
 ·
  rename_i k; rw [if_neg k] at h; exact absurd rfl h
theorem cTimes_le {α : Type} {f : List Int → Rr → α × Rr} {l : List Int} : ∀ (n : Nat) (acc : List α) (r : Rr), (cTimes f l n acc r).1.length ≤ acc.length + n
 | 0, acc, r => Nat.le_refl _
 | n + 1, acc, r => by
  rw [cTimes]
  split
  ·
   show acc.length ≤ _; omega
  ·
   refine Nat.le_trans (cTimes_le n _ _) ?_
   rw [List.length_append, List.length_singleton]; omega
theorem iM {α : Type} {f : List Int → Rr → α × Rr} {l : List Int} {p : α → Prop} (hpl : ∀ r, rAt l r → rAt l (f l r).2) (hf : ∀ r, rAt l r → p (f l r).1) : ∀ (n : Nat) (acc : List α) (r : Rr), rAt l r → (∀ x ∈ acc, p x) → ∀ x ∈ (cTimes f l n acc r).1, p x
 | 0, acc, r, _, h => h
 | n + 1, acc, r, hr, h => by
  rw [cTimes]
  split
  ·
   exact h
  ·
   refine iM hpl hf n _ _ (hpl r hr) (fun x hx => ?_)
   rcases List.mem_append.1 hx with e | e
   ·
    exact h x e
   ·
    rw [List.mem_singleton] at e; subst e; exact hf r hr
theorem times_all {α : Type} {f : List Int → Rr → α × Rr} {l : List Int} {p : α → Prop} (hf : ∀ r, p (f l r).1) : ∀ (n : Nat) (acc : List α) (r : Rr), (∀ x ∈ acc, p x) → ∀ x ∈ (rTimes f l n acc r).1, p x
 | 0, acc, r, h => h
 | n + 1, acc, r, h => by
  rw [rTimes]
  refine times_all hf n _ _ (fun x hx => ?_)
  rcases List.mem_append.1 hx with e | e
  ·
   exact h x e
  ·
   rw [List.mem_singleton] at e; subst e; exact hf r
theorem count_le {α : Type} {f : List Int → Rr → α × Rr} {l : List Int} (hb : Bytes l) (s : Nat) (h1 : 1 ≤ s) (h7 : s ≤ 7) {r : Rr} (hr : rAt l r) : (cCount (s : Int) f l r).1.length < 256 ^ s := by
 have h2 := num_lt hb s h1 h7 hr.1 hr.2
 have h3 := cTimes_le (f := f) (l := l) (rNum (s : Int) l r).1.toNat [] (rNum (s : Int) l r).2
 unfold cCount
 simp only [List.length_nil] at h3
 omega
theorem count_le1 {α : Type} {f : List Int → Rr → α × Rr} {l : List Int} (hb : Bytes l) {r : Rr} (hr : rAt l r) : (cCount 1 f l r).1.length ≤ 255 := Nat.le_of_lt_succ (count_le (f := f) hb 1 z4_ z4_ hr)
theorem count_le2 {α : Type} {f : List Int → Rr → α × Rr} {l : List Int} (hb : Bytes l) {r : Rr} (hr : rAt l r) : (cCount 2 f l r).1.length ≤ 65535 := Nat.le_of_lt_succ (count_le (f := f) hb 2 z4_ z4_ hr)
theorem many_le (m : Int) (hm : 0 ≤ m) (l : List Int) (r : Rr) : (rMany 1 m l r).1.toNat ≤ m.toNat := by
 unfold rMany
 split
 ·
  show (0 : Int).toNat ≤ _; omega
 ·
  omega
theorem nums_le (l : List Int) (r : Rr) : (rNums l r).1.length ≤ 5 := by
 have := gB (rNum 4) l (rMany 1 5 l r).1.toNat [] (rMany 1 5 l r).2
 have := many_le 5 z4_ l r
 unfold rNums
 simp only [List.length_nil] at *
 omega
theorem row_le {l : List Int} (hb : Bytes l) {r : Rr} : (rRow l r).1.length ≤ 12 := by
 unfold rRow rOf
 split
 ·
  simp
 ·
  rename_i h
  have h0 : (sRowRead l r.1).2.2 = 0 := Classical.not_not.1 (fun e => h (.inr e))
  exact ((gN _).1 (row_got hb h0).1).1
theorem dots_le (l : List Int) (r : Rr) : (rDots l r).1.length ≤ 64 := by
 have := gB rDot l (rMany 1 64 l r).1.toNat [] (rMany 1 64 l r).2
 have := many_le 64 z4_ l r
 unfold rDots
 simp only [List.length_nil] at *
 omega
theorem op_le {l : List Int} (hb : Bytes l) (r : Rr) : opSmall (rOp l r).1 := by
 unfold rOp
 split
 ·
  exact ⟨by simp [zOp], by simp [zOp], by simp [zOp]⟩
 ·
  refine ⟨?_, ?_, ?_⟩
  ·
   show (rNums l _).1.length ≤ 1000; have := nums_le l (rDot l (rNum 1 l r).2).2; omega
  ·
   show (rRow l _).1.length ≤ 1000; have := row_le hb (r := (rHead l r).2); omega
  ·
   show (rDots l _).1.length ≤ 1000; have := dots_le l (rRow l (rHead l r).2).2; omega
theorem snap_small {l : List Int} (hb : Bytes l) : snapSmall (rSnap l (0, false)).1 := by
 have p0 : rAt l ((0, false) : Rr) := ⟨Int.le_refl _, by show (0 : Int) ≤ _; omega⟩
 have PN : ∀ r, rAt l r → rAt l (rNums l r).2 := fun r p => Reads.nums.place l r hb p.1 p.2
 have PS : ∀ r, rAt l r → rAt l (rStamp l r).2 := fun r p => Reads.stamp.place l r hb p.1 p.2
 have PT : ∀ r, rAt l r → rAt l (rTabs l r).2 := fun r p => Reads.tabs.place l r hb p.1 p.2
 have PX : ∀ r, rAt l r → rAt l (rRowx l r).2 := fun r p => Reads.rowx.place l r hb p.1 p.2
 have PB : ∀ r, rAt l r → rAt l (rTable l r).2 := fun r p => Reads.table.place l r hb p.1 p.2
 have PO : ∀ r, rAt l r → rAt l (rOp l r).2 := fun r p => Reads.op.place l r hb p.1 p.2
 have PF : ∀ r, rAt l r → rAt l (rSafe l r).2 := fun r p => Reads.safe.place l r hb p.1 p.2
 have P1 : ∀ r, rAt l r → rAt l (rNum 1 l r).2 := fun r p => dT hb 1 z4_ z4_ p
 have P2 : ∀ r, rAt l r → rAt l (rNum 2 l r).2 := fun r p => dT hb 2 z4_ z4_ p
 have PXt : ∀ r, rAt l r → rAt l (rText l r).2 := fun r p => Reads.text.place l r hb p.1 p.2
 have PD : ∀ r, rAt l r → rAt l (cCount 1 rDot l r).2 := fun r p => (Reads.count Reads.dot iB 1 z4_ z4_).place l r hb p.1 p.2
 have hrow : ∀ r, rAt l r → rowSmall (rRowx l r).1 := fun r p => by
  refine ⟨?_, ?_⟩
  ·
   show (cCount 1 rDot l _).1.length ≤ 1000; have := count_le1 (f := rDot) hb (PXt r p); omega
  ·
   show (cCount 1 rCell l _).1.length ≤ 1000; have := count_le1 (f := rCell) hb (PD _ (PXt r p)); omega
 have htab : ∀ r, rAt l r → tabSmall (rTable l r).1 := fun r p => by
  refine ⟨?_, iM PX hrow _ _ _ (P2 r p) (fun x hx => by cases hx)⟩
  show (cCount 2 rRowx l r).1.length ≤ 70000; have := count_le2 (f := rRowx) hb p; omega
 have q1 := PN _ p0
 have q2 := PS _ q1
 have q3 := PT _ q2
 have q4 := PF _ q3
 refine ⟨?_, ⟨?_, ?_⟩, ⟨?_, ?_⟩, ?_, ?_⟩
 ·
  show (rNums l _).1.length ≤ 1000; have := nums_le l (0, false); omega
 ·
  show (cCount 1 rTable l _).1.length ≤ 1000; have := count_le1 (f := rTable) hb q2; omega
 ·
  exact iM PB htab _ _ _ (P1 _ q2) (fun x hx => by cases hx)
 ·
  show (rTimes rNums l _ [] _).1.length ≤ 1000
  rw [gB]; have := many_le 5 z4_ l (rTabs l (rStamp l (rNums l (0, false)).2).2).2; simp only [List.length_nil]; omega
 ·
  exact times_all (fun r => by have := nums_le l r; omega) _ _ _ (fun x hx => by cases hx)
 ·
  show (cCount 2 rOp l _).1.length ≤ 70000; have := count_le2 (f := rOp) hb q4; omega
 ·
  exact iM PO (fun r _ => op_le hb r) _ _ _ (P2 _ q4) (fun x hx => by cases hx)
end Go.Proofs.Ytcbfliajgopdaaa.Snaps
end
section
namespace Go.Proofs.Ytcbfliajgopdaaa.Snaps
open Go.RowKit PAll Plain Ops PrintWords PrintLast PrintMore Pads Go.Proofs.Ytcbfliajgopdaaa.Sep ZipT PrintWords.Kd PrintMore.Kd
set_option linter.unusedVariables false
set_option linter.unusedSimpArgs false
section
variable {w w0 : World} {ty : TypeId} {g : Nat} {A : Option Addr} {c : Nat} {l : List Int} {F : List Part}
theorem rval_calls (hC0 : Kd.C (Kd.int .u8) w0 A l.length l) (hlc : l.length ≤ c) (hb : Bytes l) (hl : l.length ≤ 1000000) (r : Rr) (hp : rAt l r) (hS : Sp w (RdP ty g A l.length c r :: Old w0 :: F)) :
  Calls Try.prog 75 #[.pointer (some ⟨g, 0, none⟩)] w fun e w' => e = .returned (.agg #[.int .i64 (rVal l r).1.f0, .int .i64 (rVal l r).1.f1, .string (rVal l r).1.f2]) ∧ Sp w' (RdP ty g A l.length c (rVal l r).2 :: Old w0 :: F) := by
 obtain ⟨at_, bad⟩ := r
 have hg := vread_eq 40 l at_ hb hl (by have := hp.2; show at_ ≤ _; have h_ : at_ ≤ l.length := hp.2; omega) z2_
 have hvr : vRead l at_ = (⟨(sVRead l at_).1, (sVRead l at_).2.1, (sVRead l at_).2.2.1⟩, (sVRead l at_).2.2.2.1, (sVRead l at_).2.2.2.2) := rfl
 have hu : rVal l (at_, bad) = if bad = false ∧ at_ < l.length ∧ rd l at_ = 0 then (zVal, (at_ + 1, false)) else rOf zVal (vRead l at_) (at_, bad) := rfl
 rw [hvr] at hu
 generalize sVRead l at_ = gg at hg hu
 obtain ⟨vk, vi, vs, nx, er⟩ := gg
 dsimp only at hu
 have HU := mk_ hu
 have HG := mk_ (show PAll.value_Read.f 40 l at_ = some (vk, vi, vs, nx, er) from hg)
 have h0 := (hS.box (.cells #[.int .i64 0, .int .i64 0, .string ⟨#[]⟩] 89 (0, 0))).s2.s2
 have hcl : ∀ V, Below w0.heap.size w0 V → Kd.C (Kd.int .u8) V A l.length l := fun V h => aV hC0 h
 have HCL := mk_ hcl
 have HLC := mk_ hlc
 have HP := mk_ (show 0 ≤ at_ ∧ at_ ≤ l.length from hp)
 have HL := mk_ hl
 have HS := mk_ h0
 clear hg hvr hu h0 hcl hC0 hlc hb hl hp hS
 obtain ⟨z, hz⟩ : ∃ z, z = decide (bad = false ∧ at_ < l.length ∧ rd l at_ = 0) := ⟨_, rfl⟩
 have HZ := mk_ hz
 clear hz
 go_enter Try.func75, Try.ntmps75
 go_upto_region 1 with (fail)
 revert HS
 generalize World.alloc w _ = W0
 intro HS
 go_cut [40] (fun v40 wc => v40 = .bool z ∧ Aside0 (Sp wc (RdP ty g A l.length c (at_, bad) :: Old w0 :: Blk w.heap.size (.cells #[.int .i64 0, .int .i64 0, .string ⟨#[]⟩] 89 (0, 0)) :: F)))
 case first =>
  have h0 : W0.cell? ⟨g, 0, none⟩ = some (.slice A l.length c) := aC HS.out.blk 0
  have h1 : W0.cell? ⟨g, 1, none⟩ = some (.int .i64 at_) := aC HS.out.blk 1
  have h2 : W0.cell? ⟨g, 2, none⟩ = some (.bool bad) := aC HS.out.blk 2
  cases bad with
  | true =>
   have hz := HZ.out
   rw [decide_eq_false (fun h => by have := h.1; cases this)] at hz
   subst hz
   go_quiet (fail)
   go_wp2
   go_meet
   case rel => exact ⟨rfl, ⟨by repeat (first | exact HS.out | refine Sp.drewN ?_ _ | refine Sp.drew ?_)⟩⟩
  | false =>
   by_cases ha : at_ < l.length
   rotate_left
   ·
    have hb1 : decide (at_ < (l.length : Int)) = false := decide_eq_false ha
    have hz := HZ.out
    rw [decide_eq_false (fun h => ha h.2.1)] at hz
    subst hz
    go_quiet (fail)
    go_wp2
    go_meet
    case rel => exact ⟨rfl, ⟨by repeat (first | exact HS.out | refine Sp.drewN ?_ _ | refine Sp.drew ?_)⟩⟩
   obtain ⟨ad, e, hx⟩ := Kd.at_int (HCL.out _ HS.out.s1.old) at_ HP.out.1 ha
   subst e
   have hb1 : decide (at_ < (l.length : Int)) = true := decide_eq_true ha
   have hq0 : (0 ≤ at_) = True := eq_true HP.out.1
   have hq1 : (at_ < (l.length : Int)) = True := eq_true ha
   obtain ⟨bz, hbz⟩ : ∃ b, (rd l at_ == 0) = b := ⟨_, rfl⟩
   have hz := HZ.out
   rw [show decide (false = false ∧ at_ < l.length ∧ rd l at_ = 0) = bz from by rw [← hbz]; by_cases h : rd l at_ = 0 <;> simp [ha, h]] at hz
   subst hz
   generalize rd l at_ = y at hx hbz
   go_quiet (fail)
   go_wp2
   go_meet
   case rel => exact ⟨rfl, ⟨by repeat (first | exact HS.out | refine Sp.drewN ?_ _ | refine Sp.drew ?_)⟩⟩
 case rest =>
 obtain ⟨rfl, HS⟩ := hcut
 cases z with
 | true =>
  have hzt := of_decide_eq_true HZ.out.symm
  obtain ⟨rfl, ha, hy⟩ := hzt
  have hu : rVal l (at_, false) = (zVal, (at_ + 1, false)) := by rw [HU.out, if_pos ⟨rfl, ha, hy⟩]
  have HU2 := mk_ hu
  have hw : wrap64 (at_ + 1) = at_ + 1 := by have := HP.out; have := HL.out; exact w64 z2_ z2_
  have h1 : wc.cell? ⟨g, 1, none⟩ = some (.int .i64 at_) := aC HS.out.blk 1
  have f1 := aH HS.out.blk 1
  have HS2 := mk_ ((HS.out.store 1 (.int .i64 (at_ + 1))).s2.s2.s1)
  clear hu ha hy HS HU
  go_wp2_with ((with_reducible refine dJ (ty := 89) (x := .tmp 2) (y := .tmp 50) rfl ?_); go_loud (refine wpList_store_row rfl 89 (.tmp 2) (.tmp 50) rfl w.heap.size #[.int .i64 0, .int .i64 0, .string ⟨#[]⟩] rfl rfl 89 #[.int .i64 0, .int .i64 0, .string ⟨#[]⟩] HS2.out.blk z1_ rfl z7_ ?_))
  refine bodyPost_ret (results_cell_row rfl _ _ w.heap.size 89 #[.int .i64 0, .int .i64 0, .string ⟨#[]⟩] (0, 0) _ rfl (bG HS2.out _).blk Try.underlying89 rfl z1_) rfl ?_
  rw [HU2.out]
  exact ⟨rfl, (bG HS2.out #[.int .i64 0, .int .i64 0, .string ⟨#[]⟩]).tail.s1⟩
 | false =>
  have hu : rVal l (at_, bad) = rOf zVal (⟨vk, vi, vs⟩, nx, er) (at_, bad) := by rw [HU.out, if_neg (of_decide_eq_false HZ.out.symm)]
  have HU2 := mk_ hu
  clear HU HZ hu
  with_reducible (refine ‹∀ (a : Act) (w : World), Code.wp _ _ _ a w → _› _ _ ?_)
  go_wp2
  go_cut [3, 4, 5] (fun v3 v4 v5 wd => ∃ gv, v3 = .pointer (some ⟨gv, 0, none⟩) ∧ v4 = .int .i64 nx ∧ v5 = .int .i64 er ∧ Aside0 (Sp wd (Blk gv (.cells #[.int .i64 vk, .int .i64 vi, .string vs] 89 (0, 0)) :: RdP ty g A l.length c (at_, bad) :: Old w0 :: Blk w.heap.size (.cells #[.int .i64 0, .int .i64 0, .string ⟨#[]⟩] 89 (0, 0)) :: F)))
  case first =>
   have hSd := HS.out.drew
   clear HS
   refine fJ (n := 19) (S := fun w' => w'.cell? ⟨g, 0, none⟩ = some (.slice A l.length c) ∧ w'.cell? ⟨g, 1, none⟩ = some (.int .i64 at_) ∧ True) (ds := []) (fun W => Sp W (RdP ty g A l.length c (at_, bad) :: Old w0 :: Blk w.heap.size (.cells #[.int .i64 0, .int .i64 0, .string ⟨#[]⟩] 89 (0, 0)) :: F)) (Steps.Bs 19 0) z1_ rfl rfl hSd (fun W hJ => ⟨aC hJ.blk 0, aC hJ.blk 1, trivial⟩) (fun W0 hJ => ?_)
   have hHeld : W0.cell? ⟨g, 0, none⟩ = some (.slice A l.length c) ∧ W0.cell? ⟨g, 1, none⟩ = some (.int .i64 at_) ∧ True := ⟨aC hJ.blk 0, aC hJ.blk 1, trivial⟩
   clear hSd
   refine sI 0 52 19 1 ?_
   refine sI 1 53 19 3 ?_
   refine sI 2 54 19 7 ?_
   refine sI 3 55 19 15 ?_
   refine sI 5 57 19 47 ?_
   refine sI 6 58 19 111 ?_
   refine sI 7 59 19 239 ?_
   refine sI 8 60 19 495 ?_
   refine sT hHeld 4 56 19 511 ?_
   refine sT hHeld 9 61 19 1023 ?_
   refine two_ (i := 10) (j := 15) (Ni := (some 62)) (Nj := (some 3)) (Steps.Bs 19 2047) (Steps.Bs 19 33791) rfl rfl rfl rfl z1_ z4_ z4_ (fun K hK => ?_) (fun K hK => ?_)
   ·
    refine goes_ Try.func97 z1_ rfl #[.slice A l.length c, .int .i64 at_] (by rfl) rfl rfl z6_ ?_
    refine (PAll.value_Read.calls 40 A c l at_ vk vi vs nx er _ (HCL.out _ hJ.s1.old) HLC.out HG.out).mono ?_
    rintro e V ⟨rfl, hq⟩
    refine ⟨_, rfl, ?_⟩
    have hV := hJ.below hq
    refine hK.out _ _ ⟨aC hV.blk 0, aC hV.blk 1, trivial⟩ (fun _ => ?_)
    clear hK K
    refine nrm 62 ?_
    refine sI 11 51 19 4095 ?_
    refine sI 12 63 19 8191 ?_
    refine sI 13 64 19 16383 ?_
    refine sI 14 65 19 32767 ?_
    refine one_ (i := 15) (N := (some 3)) (Steps.Bs 19 65535) rfl rfl z1_ z4_ (fun K hK => ?_)
    refine gJ (w1 := ?_) (v := ?_) (by rfl) rfl ?_ ?_
    rotate_left 2
    ·
     go_simp
     constructor
     ·
      rfl
     ·
      rfl
    have hB := hV.box (.cells #[.int .i64 0, .int .i64 0, .string ⟨#[]⟩] 89 (0, 0))
    refine hK.out _ _ ⟨aC hB.s1.blk 0, aC hB.s1.blk 1, trivial⟩ (fun _ => ?_)
    clear hK K
    refine nrm 3 ?_
    refine one_ (i := 16) (N := none) (Steps.Bs 19 131071) rfl rfl z1_ z4_ (fun K hK => ?_)
    refine eV (by rfl) 89 (.tmp 3) (.tmp 63) rfl V.heap.size #[.int .i64 vk, .int .i64 vi, .string vs] rfl rfl 89 #[.int .i64 0, .int .i64 0, .string ⟨#[]⟩] hB.blk z1_ rfl z7_ ?_
    have hX := bG hB #[.int .i64 vk, .int .i64 vi, .string vs]
    refine hK.out _ _ ⟨aC hX.s1.blk 0, aC hX.s1.blk 1, trivial⟩ (fun _ => ?_)
    clear hK K
    refine norm_ (a' := ?_) ?_ ?_
    rotate_left
    ·
     show Act.put _ none _ = _
     rfl
    refine sI 17 4 19 262143 ?_
    refine sI 18 5 19 524287 ?_
    refine done_ z1_ ?_
    go_wp2
    go_meet
    case rel => exact ⟨_, rfl, rfl, rfl, ⟨hX⟩⟩
   ·
    refine gJ (w1 := ?_) (v := ?_) (by rfl) rfl ?_ ?_
    rotate_left 2
    ·
     go_simp
     constructor
     ·
      rfl
     ·
      rfl
    have hB := (hJ.box (.cells #[.int .i64 0, .int .i64 0, .string ⟨#[]⟩] 89 (0, 0))).s1
    have hB2 := hB.s1.s2
    refine hK.out _ _ ⟨aC hB.blk 0, aC hB.blk 1, trivial⟩ (fun _ => ?_)
    clear hK K
    refine nrm 3 ?_
    refine one_ (i := 10) (N := (some 62)) (Steps.Bs 19 34815) rfl rfl z1_ z4_ (fun K hK => ?_)
    refine goes_ Try.func97 z1_ rfl #[.slice A l.length c, .int .i64 at_] (by rfl) rfl rfl z6_ ?_
    refine (PAll.value_Read.calls 40 A c l at_ vk vi vs nx er _ (HCL.out _ hB2.old) HLC.out HG.out).mono ?_
    rintro e V ⟨rfl, hq⟩
    refine ⟨_, rfl, ?_⟩
    have hV := hB.below hq
    refine hK.out _ _ ⟨aC hV.blk 0, aC hV.blk 1, trivial⟩ (fun _ => ?_)
    clear hK K
    refine nrm 62 ?_
    refine sI 11 51 19 36863 ?_
    refine sI 12 63 19 40959 ?_
    refine sI 13 64 19 49151 ?_
    refine sI 14 65 19 65535 ?_
    refine one_ (i := 16) (N := none) (Steps.Bs 19 131071) rfl rfl z1_ z4_ (fun K hK => ?_)
    refine eV (by rfl) 89 (.tmp 3) (.tmp 63) rfl W0.heap.size #[.int .i64 vk, .int .i64 vi, .string vs] rfl rfl 89 #[.int .i64 0, .int .i64 0, .string ⟨#[]⟩] hV.s1.blk z1_ rfl z7_ ?_
    have hX := bG hV.s1 #[.int .i64 vk, .int .i64 vi, .string vs]
    refine hK.out _ _ ⟨aC hX.s1.blk 0, aC hX.s1.blk 1, trivial⟩ (fun _ => ?_)
    clear hK K
    refine norm_ (a' := ?_) ?_ ?_
    rotate_left
    ·
     show Act.put _ none _ = _
     rfl
    refine sI 17 4 19 262143 ?_
    refine sI 18 5 19 524287 ?_
    refine done_ z1_ ?_
    go_wp2
    go_meet
    case rel => exact ⟨_, rfl, rfl, rfl, ⟨hX⟩⟩
  case rest =>
  obtain ⟨gv, rfl, rfl, rfl, HS⟩ := hcut
  have hh := HS.out.s1
  have h1 : wc.cell? ⟨g, 1, none⟩ = some (.int .i64 at_) := aC hh.blk 1
  have h2 : wc.cell? ⟨g, 2, none⟩ = some (.bool bad) := aC hh.blk 2
  have f1 := aH hh.blk 1
  have f2 := aH hh.blk 2
  have kv := aC HS.out.blk
  have hq : (bad = true ∨ bad = false ∧ (er != 0) = true) ∧ rVal l (at_, bad) = (zVal, (at_, true)) ∨ (bad = false ∧ (er != 0) = false) ∧ rVal l (at_, bad) = (⟨vk, vi, vs⟩, (nx, false)) := by
   rw [HU2.out]
   unfold rOf
   cases bad
   ·
    by_cases he : er = 0
    ·
     exact .inr ⟨⟨rfl, bne_eq_false_iff_eq.2 he⟩, by rw [if_neg (by simp [he])]⟩
    ·
     exact .inl ⟨.inr ⟨rfl, bne_iff_ne.2 he⟩, by rw [if_pos (.inr he)]⟩
   ·
    exact .inl ⟨.inl rfl, by rw [if_pos (.inl rfl)]⟩
  rcases hq with ⟨hq, hu⟩ | ⟨⟨rfl, hq⟩, hu⟩
  ·
   have HU3 := mk_ hu
   have HS2 := mk_ (hh.store 2 (.bool true)).s3
   clear hu HU2 hh
   rcases hq with rfl | ⟨rfl, hq⟩
   all_goals
    go_wp2_with ((with_reducible refine dJ (ty := 89) (x := .tmp 2) (y := .tmp 79) rfl ?_); go_loud (refine wpList_store_row rfl 89 (.tmp 2) (.tmp 79) rfl w.heap.size #[.int .i64 0, .int .i64 0, .string ⟨#[]⟩] rfl rfl 89 #[.int .i64 0, .int .i64 0, .string ⟨#[]⟩] HS2.out.blk z1_ rfl z7_ ?_))
    refine bodyPost_ret (results_cell_row rfl _ _ w.heap.size 89 #[.int .i64 0, .int .i64 0, .string ⟨#[]⟩] (0, 0) _ rfl (bG HS2.out _).blk Try.underlying89 rfl z1_) rfl ?_
    rw [HU3.out]
    exact ⟨rfl, (bG HS2.out #[.int .i64 0, .int .i64 0, .string ⟨#[]⟩]).tail.s1.tail⟩
  ·
   have HU3 := mk_ hu
   have hs := hh.store 1 (.int .i64 nx)
   have kv2 := aC hs.s1.blk
   have HS2 := mk_ hs.s3
   clear hu HU2 hh hs kv
   go_wp2_with ((with_reducible refine dJ (ty := 89) (x := .tmp 2) (y := .tmp 85) rfl ?_); go_loud (refine wpList_store_row rfl 89 (.tmp 2) (.tmp 85) rfl w.heap.size #[.int .i64 vk, .int .i64 vi, .string vs] rfl rfl 89 #[.int .i64 0, .int .i64 0, .string ⟨#[]⟩] HS2.out.blk z1_ rfl z7_ ?_))
   refine bodyPost_ret (results_cell_row rfl _ _ w.heap.size 89 #[.int .i64 vk, .int .i64 vi, .string vs] (0, 0) _ rfl (bG HS2.out _).blk Try.underlying89 rfl z1_) rfl ?_
   rw [HU3.out]
   exact ⟨rfl, (bG HS2.out #[.int .i64 vk, .int .i64 vi, .string vs]).tail.s1.tail⟩
theorem kK {l : List Int} (hb : Bytes l) (s : Nat) (h1 : 1 ≤ s) (h7 : s ≤ 7) {r : Rr} (hp : rAt l r) : ∃ m : Nat, (rNum (s : Int) l r).1 = (m : Int) ∧ (m : Int) < 256 ^ s := by
 by_cases h : (rNum (s : Int) l r).2.2 = false
 ·
  obtain ⟨a, _, _⟩ := (Reads.num s h1 h7).got l r hb hp.1 hp.2 h
  have h0 := a.1
  refine ⟨(rNum (s : Int) l r).1.toNat, by omega, ?_⟩
  rw [Int.toNat_of_nonneg h0]; exact a.2
 refine ⟨0, ?_, Int.pow_pos z4_⟩
 unfold rNum rOf at h ⊢
 split
 ·
  rfl
 ·
  rename_i k; rw [if_neg k] at h; exact absurd rfl h
theorem rAt_times' {α : Type} {f : List Int → Rr → α × Rr} {l : List Int} (hf : ∀ r, rAt l r → rAt l (f l r).2) : ∀ (n : Nat) (acc : List α) (r : Rr), rAt l r → rAt l (cTimes f l n acc r).2
 | 0, _, r, h => h
 | n + 1, acc, r, h => by
  rw [cTimes]
  split
  ·
   exact h
  ·
   exact rAt_times' hf n _ _ (hf r h)
theorem rrow_calls (hC0 : Kd.C (Kd.int .u8) w0 A l.length l) (hlc : l.length ≤ c) (hb : Bytes l) (hl : l.length ≤ 1000000) (r : Rr) (hp : rAt l r) (hS : Sp w (RdP ty g A l.length c r :: Old w0 :: F)) :
  Calls Try.prog 30 #[.pointer (some ⟨g, 0, none⟩)] w fun e w' => ∃ v1 v2, e = .returned (.agg #[.string (rRowx l r).1.f0, v1, v2]) ∧ Sp w' (Row k50 50 v1 (rRowx l r).1.f1 :: Row k91 91 v2 (rRowx l r).1.f2 :: RdP ty g A l.length c (rRowx l r).2 :: Old w0 :: F) := by
 have CN : ∀ V F' r, rAt l r → Sp V (RdP ty g A l.length c r :: Old w0 :: F') → Calls Try.prog 29 #[.pointer (some ⟨g, 0, none⟩), .int .i64 1] V (fun e w' => e = .returned (.int .i64 (rNum 1 l r).1) ∧ Sp w' (RdP ty g A l.length c (rNum 1 l r).2 :: Old w0 :: F')) := fun V F' r p h => dY hC0 hlc hb hl r 1 p h
 have CD : ∀ V F' r, rAt l r → Sp V (RdP ty g A l.length c r :: Old w0 :: F') → Calls Try.prog 74 #[.pointer (some ⟨g, 0, none⟩)] V (fun e w' => e = .returned (.agg #[.int .i64 (rDot l r).1.f0, .int .i64 (rDot l r).1.f1]) ∧ Sp w' (RdP ty g A l.length c (rDot l r).2 :: Old w0 :: F')) := fun V F' r p h => jT hC0 hlc hb hl r p (dT hb 1 z4_ z4_ p) h
 have CS : ∀ V F' r, rAt l r → Sp V (RdP ty g A l.length c r :: Old w0 :: F') → Calls Try.prog 28 #[.pointer (some ⟨g, 0, none⟩)] V (fun e w' => e = .returned (.agg #[.int .i64 (rStamp l r).1.f0, .int .i64 (rStamp l r).1.f1, .int .i64 (rStamp l r).1.f2]) ∧ Sp w' (RdP ty g A l.length c (rStamp l r).2 :: Old w0 :: F')) := fun V F' r p h => iF hC0 hlc hb hl r p (dT hb 6 z4_ z4_ p) (dT hb 3 z4_ z4_ (dT hb 6 z4_ z4_ p)) h
 have CT : ∀ V F' r, rAt l r → Sp V (RdP ty g A l.length c r :: Old w0 :: F') → Calls Try.prog 73 #[.pointer (some ⟨g, 0, none⟩)] V (fun e w' => e = .returned (.string (rText l r).1) ∧ Sp w' (RdP ty g A l.length c (rText l r).2 :: Old w0 :: F')) := fun V F' r p h => rtext_calls hC0 hlc hb hl r p h
 have CV : ∀ V F' r, rAt l r → Sp V (RdP ty g A l.length c r :: Old w0 :: F') → Calls Try.prog 75 #[.pointer (some ⟨g, 0, none⟩)] V (fun e w' => e = .returned (.agg #[.int .i64 (rVal l r).1.f0, .int .i64 (rVal l r).1.f1, .string (rVal l r).1.f2]) ∧ Sp w' (RdP ty g A l.length c (rVal l r).2 :: Old w0 :: F')) := fun V F' r p h => rval_calls hC0 hlc hb hl r p h
 have PD : ∀ r, rAt l r → rAt l (rDot l r).2 := fun r p => Reads.dot.place l r hb p.1 p.2
 have PS : ∀ r, rAt l r → rAt l (rStamp l r).2 := fun r p => Reads.stamp.place l r hb p.1 p.2
 have PV : ∀ r, rAt l r → rAt l (rVal l r).2 := fun r p => Reads.val.place l r hb p.1 p.2
 have PC : ∀ r, rAt l r → rAt l (rCell l r).2 := fun r p => Reads.cell.place l r hb p.1 p.2
 have p1 : rAt l (rText l r).2 := Reads.text.place l r hb hp.1 hp.2
 have C1 := fun V F' => CT V F' r hp
 obtain ⟨q1, hq1⟩ : ∃ q, q = rText l r := ⟨_, rfl⟩
 rw [← hq1] at p1 C1
 have p2 : rAt l (rNum 1 l q1.2).2 := dT hb 1 z4_ z4_ p1
 have C2 := fun V F' => CN V F' q1.2 p1
 obtain ⟨m2, e2, b2⟩ := kK hb 1 z4_ z4_ p1
 replace e2 : (rNum 1 l q1.2).1 = (m2 : Int) := e2
 obtain ⟨q2, hq2⟩ : ∃ q, q = rNum 1 l q1.2 := ⟨_, rfl⟩
 rw [← hq2] at p2 C2 e2
 have p3 := rAt_times' PD m2 [] q2.2 p2
 obtain ⟨q3, hq3⟩ : ∃ q, q = cTimes rDot l m2 [] q2.2 := ⟨_, rfl⟩
 rw [← hq3] at p3
 have p4 : rAt l (rNum 1 l q3.2).2 := dT hb 1 z4_ z4_ p3
 have C4 := fun V F' => CN V F' q3.2 p3
 obtain ⟨m4, e4, b4⟩ := kK hb 1 z4_ z4_ p3
 replace e4 : (rNum 1 l q3.2).1 = (m4 : Int) := e4
 obtain ⟨q4, hq4⟩ : ∃ q, q = rNum 1 l q3.2 := ⟨_, rfl⟩
 rw [← hq4] at p4 C4 e4
 obtain ⟨q5, hq5⟩ : ∃ q, q = cTimes rCell l m4 [] q4.2 := ⟨_, rfl⟩
 have hu : rRowx l r = (⟨q1.1, q3.1, q5.1⟩, q5.2) := by
  have h2 : cCount 1 rDot l q1.2 = q3 := by unfold cCount; rw [← hq2, e2, Int.toNat_natCast, hq3]
  have h4 : cCount 1 rCell l q3.2 = q5 := by unfold cCount; rw [← hq4, e4, Int.toNat_natCast, hq5]
  unfold rRowx
  rw [← hq1, h2, h4]
 have HU := mk_ hu
 have hm2 : m2 ≤ 255 := by have : (m2 : Int) < 256 := b2; omega
 have hm4 : m4 ≤ 255 := by have : (m4 : Int) < 256 := b4; omega
 obtain ⟨k1, r1⟩ := q1
 obtain ⟨n2, r2⟩ := q2
 obtain ⟨n4, r4⟩ := q4
 dsimp only at e2 e4 C1 C2 C4 p1 p2 p4 hq3 hq5
 subst e2 e4
 have HC1 := mk_ C1
 have HC2 := mk_ C2
 have HC4 := mk_ C4
 have HCD := mk_ CD
 have HCS := mk_ CS
 have HCV := mk_ CV
 have HPD := mk_ PD
 have HPS := mk_ PS
 have HPV := mk_ PV
 have HPC := mk_ PC
 have HP2 := mk_ p2
 have HP4 := mk_ p4
 have HQ3 := mk_ hq3
 have HQ5 := mk_ hq5
 have HM := mk_ (And.intro hm2 hm4)
 have HS0 := mk_ ((hS.box (.cells #[.string ⟨#[]⟩, .slice none 0 0, .slice none 0 0] 80 (0, 0))).s2.s2)
 clear C1 C2 C4 CN CD CS CT CV PD PS PV PC p1 p2 p3 p4 hq1 hq2 hq3 hq4 hq5 hu hm2 hm4 b2 b4 hC0 hlc hb hl hp hS
 go_enter Try.func30, Try.ntmps30
 go_upto_block 0 with (first
  | (go_at_call 73; go_loud (refine (HC1.out _ _ HS0.out).mono ?_; rintro e V1 ⟨rfl, h1⟩; have HD := mk_ (h1.box (.cells #[.string ⟨#[]⟩, .slice none 0 0, .slice none 0 0] 80 (0, 0))); clear h1 HS0))
  | ((with_reducible refine dJ (ty := 80) (x := .tmp 3) (y := .tmp 10) rfl ?_); go_loud (refine wpList_store_row rfl 80 (.tmp 3) (.tmp 10) rfl V1.heap.size #[.string k1, .slice none 0 0, .slice none 0 0] rfl rfl 80 #[.string ⟨#[]⟩, .slice none 0 0, .slice none 0 0] HD.out.blk z1_ rfl z7_ ?_; have HS1 := mk_ (bG HD.out #[.string k1, .slice none 0 0, .slice none 0 0]).s2.s2; clear HD))
  | (go_at_call 29; go_loud (refine (HC2.out _ _ HS1.out).mono ?_; rintro e V2 ⟨rfl, h1⟩; have HS2 := mk_ (dG (d := k50) (e := 50) h1); clear h1 HS1)))
 go_cut [4] (fun v4 wc => ∃ v, Aside0 (Sp wc (Row k50 50 v (q3.1) :: RdP ty g A l.length c q3.2 :: Old w0 :: Blk V1.heap.size (.cells #[.string k1, v, .slice none 0 0] 80 (0, 0)) :: Blk w.heap.size (.cells #[.string ⟨#[]⟩, .slice none 0 0, .slice none 0 0] 80 (0, 0)) :: F)))
 case first =>
  go_wp2
  go_loopg [4] (m2 + 1) (fun kq v4 W' => ∃ (k : Nat) (acc : List _) (q : Rr) (v : Value), v4 = .int .i64 (k : Int) ∧ Aside0 (kq = k + 1 ∧ acc.length + k ≤ m2) ∧ Aside0 (rAt l q) ∧ Aside0 (q3 = cTimes rDot l k acc q) ∧ Aside0 (Sp W' (Row k50 50 v (acc) :: RdP ty g A l.length c q :: Old w0 :: Blk V1.heap.size (.cells #[.string k1, v, .slice none 0 0] 80 (0, 0)) :: Blk w.heap.size (.cells #[.string ⟨#[]⟩, .slice none 0 0, .slice none 0 0] 80 (0, 0)) :: F)))
  case atStart => exact ⟨m2, [], r2, _, rfl, ⟨rfl, by simp⟩, ⟨HP2.out⟩, ⟨HQ3.out⟩, HS2⟩
  case round =>
   obtain ⟨k, acc, q, v, rfl, HK, HPq, HQ, HA⟩ := hrel
   obtain ⟨at_, bad⟩ := q
   have k2 : wr.cell? ⟨g, 2, none⟩ = some (.bool bad) := aC HA.out.s1.blk 2
   cases k with
   | zero =>
    have hz : decide ((0 : Int) < ((0 : Nat) : Int)) = false := rfl
    have hf := HQ.out
    rw [show cTimes rDot l 0 acc (at_, bad) = (acc, (at_, bad)) from rfl] at hf
    go_wp2
    go_meet
    case rel => exact ⟨v, ⟨by rw [hf]; exact HA.out⟩⟩
   | succ k =>
    have hz : decide ((0 : Int) < ((k + 1 : Nat) : Int)) = true := decide_eq_true z2_
    have hz' : ((0 : Int) < ((k + 1 : Nat) : Int)) = True := eq_true z2_
    cases bad with
    | true =>
     have hf := HQ.out
     rw [fQ rDot l _ acc (r := (at_, true)) rfl] at hf
     go_wp2
     go_meet
     case rel => exact ⟨v, ⟨by rw [hf]; exact HA.out⟩⟩
    | false =>
     have hf := HQ.out
     rw [cTimes, if_neg (by show ¬ (false = true); decide)] at hf
     clear HQ
     have HQ := mk_ hf
     clear hf
     obtain ⟨A8, c8, rfl, _, _⟩ := HA.out.row
     have hSd := HA.out.drew
     have hgk := HK.out.1
     subst hgk
     clear HA
     go_wp2
     refine fJ (n := 10) (S := fun w' => w'.cell? ⟨V1.heap.size, 1, none⟩ = some (.slice A8 acc.length c8) ∧ True) (ds := [9]) (fun W => Sp W (Row k50 50 (.slice A8 acc.length c8) (acc) :: RdP ty g A l.length c (at_, false) :: Old w0 :: Blk V1.heap.size (.cells #[.string k1, (.slice A8 acc.length c8), .slice none 0 0] 80 (0, 0)) :: Blk w.heap.size (.cells #[.string ⟨#[]⟩, .slice none 0 0, .slice none 0 0] 80 (0, 0)) :: F)) (Steps.Bs 10 0) z1_ rfl rfl hSd (fun W hJ => ⟨aC hJ.s3.blk 1, trivial⟩) (fun W0 hJ => ?_)
     have hHeld : W0.cell? ⟨V1.heap.size, 1, none⟩ = some (.slice A8 acc.length c8) ∧ True := ⟨aC hJ.s3.blk 1, trivial⟩
     clear hSd
     refine sI 0 27 10 1 ?_
     refine sI 2 29 10 5 ?_
     refine sI 3 30 10 13 ?_
     refine sI 4 31 10 29 ?_
     refine sT hHeld 1 28 10 31 ?_
     refine one_ (i := 5) (N := (some 32)) (Steps.Bs 10 63) rfl rfl z1_ z4_ (fun K hK => ?_)
     refine goes_ Try.func74 z1_ rfl #[.pointer (some ⟨g, 0, none⟩)] (by rfl) rfl rfl z6_ ?_
     refine (HCD.out _ _ _ HPq.out hJ.s1.s2.s1).mono ?_
     rintro e W2 ⟨rfl, h1⟩
     refine ⟨_, rfl, ?_⟩
     have hHeld1 := aC h1.s3.blk 1
     have hE := Sp.s1 (sp_el (d := k50) (p := (rDot l (at_, false)).1) (cs := [.int .i64 (rDot l (at_, false)).1.f0, .int .i64 (rDot l (at_, false)).1.f1]) (fun W ok => k50_mkM W 0 ok _) h1.s2)
     refine hK.out _ _ ⟨hHeld1, trivial⟩ (fun _ => ?_)
     clear hK K
     refine nrm 32 ?_
     refine one_ (i := 6) (N := (some 33)) (Steps.Bs 10 127) rfl rfl z1_ z4_ (fun K hK => ?_)
     refine gJ (w1 := ?_) (v := ?_) (by rfl) rfl ?_ ?_
     rotate_left 2
     ·
      go_simp
      constructor
      ·
       rfl
      ·
       rfl
     refine hK.out _ _ ⟨dE (cU (Below.refl _ _) _) hHeld1, trivial⟩ (fun _ => ?_)
     clear hK K
     refine nrm 33 ?_
     refine one_ (i := 7) (N := (some 34)) (Steps.Bs 10 255) rfl rfl z1_ z4_ (fun K hK => ?_)
     refine Sp.append_step k50 (W := W2) (by rfl) (.tmp 28) (.tmp 33) 52 50 (.agg #[.int .i64 0, .int .i64 0]) 16 rfl Try.underlying52 z1_ rfl z4_ z2_ (.slice A8 acc.length c8) acc (rDot l (at_, false)).1 [.int .i64 (rDot l (at_, false)).1.f0, .int .i64 (rDot l (at_, false)).1.f1] rfl rfl hE (by have := HK.out; have := HM.out; omega) ?_
     intro v9 w1 hX
     obtain ⟨A9, c9, rfl, _, _⟩ := hX.row
     refine hK.out _ _ ⟨aC hX.s3.blk 1, trivial⟩ (fun _ => ?_)
     clear hK K
     refine nrm 34 ?_
     refine sI 8 35 10 511 ?_
     refine last_ (i := 9) (N := none) (Steps.Bs 10 1023) rfl rfl z1_ z4_ (fun K hK => ?_)
     have hc0 := aC hX.s3.blk 1
     have hf0 := aH hX.s3.blk 1
     refine skip_ (w1 := ?_) (by rfl) rfl ?_ ?_
     rotate_left
     ·
      go_simp
      rfl
     refine hK.out _ _ ?_
     clear hK K
     refine done_ z1_ ?_
     have h5 := (hX.s3.store 1 (.slice A9 (acc ++ [(rDot l (at_, false)).1]).length c9)).s3.s3.s3
     have HX := mk_ h5
     clear h5 hc0 hf0 hX hE hHeld hHeld1 h1
     go_wp2
     go_roundg (k + 1)
     case measure => exact Nat.lt_succ_self _
     case rel => exact ⟨k, acc ++ [(rDot l (at_, false)).1], (rDot l (at_, false)).2, _, by rw [w64 z2_ (by have := HK.out; have := HM.out; omega)]; first | done | rfl | (congr 1; omega), ⟨rfl, by have := HK.out; simp only [List.length_append, List.length_singleton]; omega⟩, ⟨HPD.out _ HPq.out⟩, HQ, by have h6 := HX.out; rw [show (acc ++ [(rDot l (at_, false)).1]).length = acc.length + 1 by simp] at h6; exact ⟨h6⟩⟩
 case rest =>
 obtain ⟨vD, HS3⟩ := hcut
 obtain ⟨AD, cD, rfl, _, _⟩ := HS3.out.row
 clear HQ3 HP2 HC2
 go_upto_block 2 with (go_at_call 29; go_loud (refine (HC4.out _ _ HS3.out.s1.s2.s1).mono ?_; rintro e V4 ⟨rfl, h1⟩; have HS4 := mk_ (dG (d := k91) (e := 91) (Sep.cons (fun _ => Sep.cons (fun _ => Sep.swap)) h1)); clear h1 HS3))
 go_cut [5] (fun v5 wc => ∃ v, Aside0 (Sp wc (Row k91 91 v (q5.1) :: RdP ty g A l.length c q5.2 :: Old w0 :: Blk V1.heap.size (.cells #[.string k1, (.slice AD q3.1.length cD), v] 80 (0, 0)) :: Row k50 50 (.slice AD q3.1.length cD) q3.1 :: Blk w.heap.size (.cells #[.string ⟨#[]⟩, .slice none 0 0, .slice none 0 0] 80 (0, 0)) :: F)))
 case first =>
  go_wp2
  go_loopg [5] (m4 + 1) (fun kq v5 W' => ∃ (k : Nat) (acc : List _) (q : Rr) (v : Value), v5 = .int .i64 (k : Int) ∧ Aside0 (kq = k + 1 ∧ acc.length + k ≤ m4) ∧ Aside0 (rAt l q) ∧ Aside0 (q5 = cTimes rCell l k acc q) ∧ Aside0 (Sp W' (Row k91 91 v (acc) :: RdP ty g A l.length c q :: Old w0 :: Blk V1.heap.size (.cells #[.string k1, (.slice AD q3.1.length cD), v] 80 (0, 0)) :: Row k50 50 (.slice AD q3.1.length cD) q3.1 :: Blk w.heap.size (.cells #[.string ⟨#[]⟩, .slice none 0 0, .slice none 0 0] 80 (0, 0)) :: F)))
  case atStart => exact ⟨m4, [], r4, _, rfl, ⟨rfl, by simp⟩, ⟨HP4.out⟩, ⟨HQ5.out⟩, HS4⟩
  case round =>
   obtain ⟨k, acc, q, v, rfl, HK, HPq, HQ, HA⟩ := hrel
   obtain ⟨at_, bad⟩ := q
   have k2 : wr.cell? ⟨g, 2, none⟩ = some (.bool bad) := aC HA.out.s1.blk 2
   cases k with
   | zero =>
    have hz : decide ((0 : Int) < ((0 : Nat) : Int)) = false := rfl
    have hf := HQ.out
    rw [show cTimes rCell l 0 acc (at_, bad) = (acc, (at_, bad)) from rfl] at hf
    go_wp2
    go_meet
    case rel => exact ⟨v, ⟨by rw [hf]; exact HA.out⟩⟩
   | succ k =>
    have hz : decide ((0 : Int) < ((k + 1 : Nat) : Int)) = true := decide_eq_true z2_
    have hz' : ((0 : Int) < ((k + 1 : Nat) : Int)) = True := eq_true z2_
    cases bad with
    | true =>
     have hf := HQ.out
     rw [fQ rCell l _ acc (r := (at_, true)) rfl] at hf
     go_wp2
     go_meet
     case rel => exact ⟨v, ⟨by rw [hf]; exact HA.out⟩⟩
    | false =>
     have hf := HQ.out
     rw [cTimes, if_neg (by show ¬ (false = true); decide)] at hf
     clear HQ
     have HQ := mk_ hf
     clear hf
     obtain ⟨A8, c8, rfl, _, _⟩ := HA.out.row
     have hSd := HA.out.drew
     have hgk := HK.out.1
     subst hgk
     clear HA
     go_wp2
     refine fJ (n := 17) (S := fun w' => w'.cell? ⟨V1.heap.size, 2, none⟩ = some (.slice A8 acc.length c8) ∧ True) (ds := [16]) (fun W => Sp W (Row k91 91 (.slice A8 acc.length c8) (acc) :: RdP ty g A l.length c (at_, false) :: Old w0 :: Blk V1.heap.size (.cells #[.string k1, (.slice AD q3.1.length cD), (.slice A8 acc.length c8)] 80 (0, 0)) :: Row k50 50 (.slice AD q3.1.length cD) q3.1 :: Blk w.heap.size (.cells #[.string ⟨#[]⟩, .slice none 0 0, .slice none 0 0] 80 (0, 0)) :: F)) (Steps.Bs 17 0) z1_ rfl rfl hSd (fun W hJ => ⟨aC hJ.s3.blk 2, trivial⟩) (fun W0 hJ => ?_)
     have hHeld : W0.cell? ⟨V1.heap.size, 2, none⟩ = some (.slice A8 acc.length c8) ∧ True := ⟨aC hJ.s3.blk 2, trivial⟩
     clear hSd
     refine sI 0 52 17 1 ?_
     refine sI 2 54 17 5 ?_
     refine sI 4 56 17 21 ?_
     refine sI 5 57 17 53 ?_
     refine sI 6 58 17 117 ?_
     refine sI 8 60 17 373 ?_
     refine sI 9 61 17 885 ?_
     refine sI 10 62 17 1909 ?_
     refine sT hHeld 1 53 17 1911 ?_
     refine one_ (i := 3) (N := (some 55)) (Steps.Bs 17 1919) rfl rfl z1_ z4_ (fun K hK => ?_)
     refine goes_ Try.func75 z1_ rfl #[.pointer (some ⟨g, 0, none⟩)] (by rfl) rfl rfl z6_ ?_
     refine (HCV.out _ _ _ HPq.out hJ.s1.s2.s1).mono ?_
     rintro e W2 ⟨rfl, h1⟩
     refine ⟨_, rfl, ?_⟩
     have hHeld1 := aC h1.s3.blk 2
     refine hK.out _ _ ⟨hHeld1, trivial⟩ (fun _ => ?_)
     clear hK K
     refine nrm 55 ?_
     refine one_ (i := 7) (N := (some 59)) (Steps.Bs 17 2047) rfl rfl z1_ z4_ (fun K hK => ?_)
     refine goes_ Try.func28 z1_ rfl #[.pointer (some ⟨g, 0, none⟩)] (by rfl) rfl rfl z6_ ?_
     refine (HCS.out _ _ _ (HPV.out _ HPq.out) h1).mono ?_
     rintro e W3 ⟨rfl, h2⟩
     refine ⟨_, rfl, ?_⟩
     have hHeld2 := aC h2.s3.blk 2
     refine hK.out _ _ ⟨hHeld2, trivial⟩ (fun _ => ?_)
     clear hK K
     refine nrm 59 ?_
     refine one_ (i := 11) (N := (some 63)) (Steps.Bs 17 4095) rfl rfl z1_ z4_ (fun K hK => ?_)
     refine goes_ Try.func74 z1_ rfl #[.pointer (some ⟨g, 0, none⟩)] (by rfl) rfl rfl z6_ ?_
     refine (HCD.out _ _ _ (HPS.out _ (HPV.out _ HPq.out)) h2).mono ?_
     rintro e W4 ⟨rfl, h3⟩
     refine ⟨_, rfl, ?_⟩
     have hHeld3 := aC h3.s3.blk 2
     have hE := Sp.s1 (sp_el (d := k91) (p := (rCell l (at_, false)).1) (cs := [.int .i64 (rCell l (at_, false)).1.f0.f0, .int .i64 (rCell l (at_, false)).1.f0.f1, .string (rCell l (at_, false)).1.f0.f2, .int .i64 (rCell l (at_, false)).1.f1.f0, .int .i64 (rCell l (at_, false)).1.f1.f1, .int .i64 (rCell l (at_, false)).1.f1.f2, .int .i64 (rCell l (at_, false)).1.f2.f0, .int .i64 (rCell l (at_, false)).1.f2.f1]) (fun W ok => k91_mkM W 0 ok _) h3.s2)
     refine hK.out _ _ ⟨hHeld3, trivial⟩ (fun _ => ?_)
     clear hK K
     refine nrm 63 ?_
     refine sI 12 64 17 8191 ?_
     refine one_ (i := 13) (N := (some 65)) (Steps.Bs 17 16383) rfl rfl z1_ z4_ (fun K hK => ?_)
     refine gJ (w1 := ?_) (v := ?_) (by rfl) rfl ?_ ?_
     rotate_left 2
     ·
      go_simp
      constructor
      ·
       rfl
      ·
       rfl
     refine hK.out _ _ ⟨dE (cU (Below.refl _ _) _) hHeld3, trivial⟩ (fun _ => ?_)
     clear hK K
     refine nrm 65 ?_
     refine one_ (i := 14) (N := (some 66)) (Steps.Bs 17 32767) rfl rfl z1_ z4_ (fun K hK => ?_)
     refine Sp.append_step k91 (W := W4) (by rfl) (.tmp 53) (.tmp 65) 78 91 (.agg #[.int .i64 0, .int .i64 0, .string ⟨#[]⟩, .int .i64 0, .int .i64 0, .int .i64 0, .int .i64 0, .int .i64 0]) 72 rfl Try.underlying78 z1_ rfl z4_ z2_ (.slice A8 acc.length c8) acc (rCell l (at_, false)).1 [.int .i64 (rCell l (at_, false)).1.f0.f0, .int .i64 (rCell l (at_, false)).1.f0.f1, .string (rCell l (at_, false)).1.f0.f2, .int .i64 (rCell l (at_, false)).1.f1.f0, .int .i64 (rCell l (at_, false)).1.f1.f1, .int .i64 (rCell l (at_, false)).1.f1.f2, .int .i64 (rCell l (at_, false)).1.f2.f0, .int .i64 (rCell l (at_, false)).1.f2.f1] rfl rfl hE (by have := HK.out; have := HM.out; omega) ?_
     intro v9 w1 hX
     obtain ⟨A9, c9, rfl, _, _⟩ := hX.row
     refine hK.out _ _ ⟨aC hX.s3.blk 2, trivial⟩ (fun _ => ?_)
     clear hK K
     refine nrm 66 ?_
     refine sI 15 67 17 65535 ?_
     refine last_ (i := 16) (N := none) (Steps.Bs 17 131071) rfl rfl z1_ z4_ (fun K hK => ?_)
     have hc0 := aC hX.s3.blk 2
     have hf0 := aH hX.s3.blk 2
     refine skip_ (w1 := ?_) (by rfl) rfl ?_ ?_
     rotate_left
     ·
      go_simp
      rfl
     refine hK.out _ _ ?_
     clear hK K
     refine done_ z1_ ?_
     have h5 := (hX.s3.store 2 (.slice A9 (acc ++ [(rCell l (at_, false)).1]).length c9)).s3.s3.s3
     have HX := mk_ h5
     clear h5 hc0 hf0 hX hE hHeld hHeld1 h1 h2 h3 hHeld2 hHeld3
     go_wp2
     go_roundg (k + 1)
     case measure => exact Nat.lt_succ_self _
     case rel => exact ⟨k, acc ++ [(rCell l (at_, false)).1], (rCell l (at_, false)).2, _, by rw [w64 z2_ (by have := HK.out; have := HM.out; omega)]; first | done | rfl | (congr 1; omega), ⟨rfl, by have := HK.out; simp only [List.length_append, List.length_singleton]; omega⟩, ⟨HPC.out _ HPq.out⟩, HQ, by have h6 := HX.out; rw [show (acc ++ [(rCell l (at_, false)).1]).length = acc.length + 1 by simp] at h6; exact ⟨h6⟩⟩
 case rest =>
 obtain ⟨vC, HS5⟩ := hcut
 obtain ⟨AC, cC, rfl, _, _⟩ := HS5.out.row
 have kx := aC HS5.out.s3.blk
 go_wp2_with ((with_reducible refine dJ (ty := 80) (x := .tmp 2) (y := .tmp 68) rfl ?_); go_loud (refine wpList_store_row rfl 80 (.tmp 2) (.tmp 68) rfl w.heap.size #[.string k1, (.slice AD q3.1.length cD), .slice AC q5.1.length cC] rfl rfl 80 #[.string ⟨#[]⟩, .slice none 0 0, .slice none 0 0] HS5.out.s5.blk z1_ rfl z7_ ?_))
 refine bodyPost_ret (results_cell_row rfl _ _ w.heap.size 80 #[.string k1, (.slice AD q3.1.length cD), .slice AC q5.1.length cC] (0, 0) _ rfl (bG HS5.out.s5 _).blk Try.underlying80 rfl z1_) rfl ?_
 rw [HU.out]
 exact ⟨_, _, rfl, (bG HS5.out.s5 #[.string k1, (.slice AD q3.1.length cD), .slice AC q5.1.length cC]).tail.s3.tail.s3⟩
end
end Go.Proofs.Ytcbfliajgopdaaa.Snaps
end
section
namespace Go.Proofs.Ytcbfliajgopdaaa.Snaps
open Go.RowKit PAll Plain Ops PrintWords PrintLast PrintMore Pads Go.Proofs.Ytcbfliajgopdaaa.Sep ZipT PrintWords.Kd PrintMore.Kd
set_option linter.unusedVariables false
set_option linter.unusedSimpArgs false
section
variable {w : World} {F : List Part}
theorem join2 {a b q : Part} (h : Sp w (a :: b :: F)) (f : ∀ ok, a.P w ok → b.P w ok → q.P w ok) : Sp w (q :: F) := by
 obtain ⟨o1, h1, ha, o2, h2, hb, hF⟩ := h
 refine ⟨fun k => o1 k ∨ o2 k, fun k hk => ?_, f _ (a.mono ha (fun k _ hk => .inl hk)) (b.mono hb (fun k _ hk => .inr hk)), hF.wide (fun k hk => ⟨hk.1.1, fun e => ?_⟩)⟩
 ·
  rcases hk with e | e
  ·
   exact h1 k e
  ·
   exact (h2 k e).1
 ·
  rcases e with e | e
  ·
   exact hk.1.2 e
  ·
   exact hk.2 e
theorem join3 {a b c q : Part} (h : Sp w (a :: b :: c :: F)) (f : ∀ ok, a.P w ok → b.P w ok → c.P w ok → q.P w ok) : Sp w (q :: F) := by
 obtain ⟨o1, h1, ha, o2, h2, hb, o3, h3, hc, hF⟩ := h
 refine ⟨fun k => o1 k ∨ o2 k ∨ o3 k, fun k hk => ?_, f _ (a.mono ha (fun k _ hk => .inl hk)) (b.mono hb (fun k _ hk => .inr (.inl hk))) (c.mono hc (fun k _ hk => .inr (.inr hk))), hF.wide (fun k hk => ⟨hk.1.1.1, fun e => ?_⟩)⟩
 ·
  rcases hk with e | e | e
  ·
   exact h1 k e
  ·
   exact (h2 k e).1
  ·
   exact (h3 k e).1.1
 ·
  rcases e with e | e | e
  ·
   exact hk.1.1.2 e
  ·
   exact hk.1.2 e
  ·
   exact hk.2 e
theorem _root_.Go.Proofs.Ytcbfliajgopdaaa.Sep.Sep.r2 {fr : Nat → Prop} {a b c : Part} {F : List Part} (h : Sep w fr (a :: b :: c :: F)) : Sep w fr (c :: a :: b :: F) := Sep.swap (Sep.cons (fun _ => Sep.swap) h)
theorem _root_.Go.Proofs.Ytcbfliajgopdaaa.Sep.Sep.r3 {fr : Nat → Prop} {a b c d : Part} {F : List Part} (h : Sep w fr (a :: b :: c :: d :: F)) : Sep w fr (d :: a :: b :: c :: F) := Sep.swap (Sep.cons (fun _ => Sep.r2) h)
theorem _root_.Go.Proofs.Ytcbfliajgopdaaa.Sep.Sep.r4 {fr : Nat → Prop} {a b c d e : Part} {F : List Part} (h : Sep w fr (a :: b :: c :: d :: e :: F)) : Sep w fr (e :: a :: b :: c :: d :: F) := Sep.swap (Sep.cons (fun _ => Sep.r3) h)
theorem _root_.Go.Proofs.Ytcbfliajgopdaaa.Sep.Sep.r5 {fr : Nat → Prop} {a b c d e f : Part} {F : List Part} (h : Sep w fr (a :: b :: c :: d :: e :: f :: F)) : Sep w fr (f :: a :: b :: c :: d :: e :: F) := Sep.swap (Sep.cons (fun _ => Sep.r4) h)
theorem _root_.Go.Proofs.Ytcbfliajgopdaaa.Sep.Sp.s6 {a b c d e f g : Part} {F : List Part} (h : Sp w (a :: b :: c :: d :: e :: f :: g :: F)) : Sp w (g :: a :: b :: c :: d :: e :: f :: F) := Sep.swap (Sep.cons (fun _ => Sep.r5) h)
theorem _root_.Go.Proofs.Ytcbfliajgopdaaa.Sep.Sp.s7 {a b c d e f g i : Part} {F : List Part} (h : Sp w (a :: b :: c :: d :: e :: f :: g :: i :: F)) : Sp w (i :: a :: b :: c :: d :: e :: f :: g :: F) := Sep.swap (Sep.cons (fun _ h => Sep.swap (Sep.cons (fun _ => Sep.r5) h)) h)
theorem _root_.Go.Proofs.Ytcbfliajgopdaaa.Sep.Sp.only {a : Part} {F : List Part} (h : Sp w (a :: F)) : Sp w [a] := by
 obtain ⟨ok, h1, h2, h3⟩ := h
 exact ⟨ok, h1, h2, trivial⟩
theorem _root_.Go.Proofs.Ytcbfliajgopdaaa.Sep.Sp.front {ps qs : List Part} (h : Sp w (ps ++ qs)) : Sp w ps := by
 obtain ⟨ok, h1, h2, _⟩ := Sep.split h
 exact h2.wide h1
theorem equal_f {a b : List Int} (ha : Bytes a) (hb : Bytes b) : PAll.bytes_Equal.f a b = some (decide (a = b)) := by
 unfold PAll.bytes_Equal.f
 congr 1
 by_cases h : a = b
 ·
  subst h; rw [beq_self_eq_true, decide_eq_true rfl]
 rw [decide_eq_false h, beq_eq_false_iff_ne]
 intro e
 have e2 := toList_inj.1 e
 have := congrArg bytesOf e2
 rw [fU ha, fU hb] at this
 exact h this
theorem row_el {α : Type} {d : Kd α} {e : Nat} {v : Value} {xs : List α} (h : Sp w (Row d e v xs :: F)) : Sp w (El (Kd.slice e d) xs [v] :: F) := h.as (fun ok hr => ⟨v, rfl, hr⟩)
theorem rowx_el {x : Rx} {v1 v2 : Value} (h : Sp w (Row k50 50 v1 x.f1 :: Row k91 91 v2 x.f2 :: F)) : Sp w (El k80 x [.string x.f0, v1, v2] :: F) :=
 join2 h (fun ok ha hb => k80_mkM w 0 ok x ha hb)
theorem opx_el {x : Ox} {v2 v10 v11 : Value} (h : Sp w (Row (Kd.int .i64) 3 v2 x.f1 :: Row k89 89 v10 x.f7 :: Row k50 50 v11 x.f8 :: F)) :
  Sp w (El k54 x [.int .i64 x.f0.f0, .int .i64 x.f0.f1, v2, .int .i64 x.f2.f0, .int .i64 x.f2.f1, .int .i64 x.f2.f2, .int .i64 x.f3, .int .i64 x.f4, .string x.f5, .int .i64 x.f6, v10, v11] :: F) :=
 join3 h (fun ok ha hb hc => k54_mkM w 0 ok x ha hb hc)
end
section
variable {w : World} {A : Option Addr} {c : Nat} {l : List Int}
theorem readsnap_sp (hC0 : Kd.C (Kd.int .u8) w A l.length l) (hlc : l.length ≤ c) (hb : Bytes l) (hl : l.length ≤ 1000000) :
  Calls Try.prog 8 #[.slice A l.length c] w fun e w' => ∃ v0 v4 v5 v6, e = .returned (.tuple #[.agg #[v0, .int .i64 (sReadSnap l).1.f1.f0, .int .i64 (sReadSnap l).1.f1.f1, .int .i64 (sReadSnap l).1.f1.f2, v4, v5, v6], .int .i64 (sReadSnap l).2]) ∧
   Sp w' [Row (Kd.int .i64) 3 v0 (sReadSnap l).1.f0, Row (Kd.slice 80 k80) 77 v4 (sReadSnap l).1.f2, Row (Kd.slice 3 (Kd.int .i64)) 24 v5 (sReadSnap l).1.f3, Row k54 54 v6 (sReadSnap l).1.f4, Old w] := by
 have h0 := (Sp.start w).box (.cells #[.slice none 0 0, .int .i64 0, .int .i64 0, .int .i64 0, .slice none 0 0, .slice none 0 0, .slice none 0 0] 31 (0, 0))
 by_cases hbig : l.length > 65535
 ·
  have hd1 : decide ((65535 : Int) < (l.length : Int)) = true := decide_eq_true z2_
  have hd2 : decide (65535 < l.length) = true := decide_eq_true hbig
  have HU := mk_ (show sReadSnap l = (zSnap, 3) from by unfold sReadSnap; rw [if_pos hbig])
  have HS1 := mk_ h0
  clear h0 hC0 hb hbig
  go_enter Try.func8, Try.ntmps8
  go_wp2_with (((with_reducible refine dJ (ty := 31) (x := .tmp 2) (y := .tmp 15) rfl ?_); refine wpList_store_row rfl 31 (.tmp 2) (.tmp 15) rfl w.heap.size #[.slice none 0 0, .int .i64 0, .int .i64 0, .int .i64 0, .slice none 0 0, .slice none 0 0, .slice none 0 0] rfl rfl 31 #[.slice none 0 0, .int .i64 0, .int .i64 0, .int .i64 0, .slice none 0 0, .slice none 0 0, .slice none 0 0] HS1.out.blk z1_ rfl z7_ ?_))
  refine bodyPost_ret (jR rfl _ _ w.heap.size 31 #[.slice none 0 0, .int .i64 0, .int .i64 0, .int .i64 0, .slice none 0 0, .slice none 0 0, .slice none 0 0] (0, 0) _ rfl (bG HS1.out _).blk Try.underlying31 rfl z1_) rfl ?_
  rw [HU.out]
  exact ⟨_, _, _, _, rfl, dG (dG (dG (dG (bG HS1.out #[.slice none 0 0, .int .i64 0, .int .i64 0, .int .i64 0, .slice none 0 0, .slice none 0 0, .slice none 0 0]).tail)))⟩
 have hd1 : decide ((65535 : Int) < (l.length : Int)) = false := decide_eq_false z2_
 have hd2 : decide (65535 < l.length) = false := decide_eq_false hbig
 have h1 := h0.box (.cells #[.slice A l.length c, .int .i64 0, .bool false] 73 (0, 0))
 rw [show (w.alloc (.cells #[.slice none 0 0, .int .i64 0, .int .i64 0, .int .i64 0, .slice none 0 0, .slice none 0 0, .slice none 0 0] 31 (0, 0))).heap.size = w.heap.size + 1 from Array.size_push _] at h1
 have h2 : Sp _ [RdP 73 (w.heap.size + 1) A l.length c (0, false), Old w, Blk w.heap.size (.cells #[.slice none 0 0, .int .i64 0, .int .i64 0, .int .i64 0, .slice none 0 0, .slice none 0 0, .slice none 0 0] 31 (0, 0))] := Sep.cons (fun _ => Sep.swap) h1
 have CN : ∀ V F' r, rAt l r → Sp V (RdP 73 (w.heap.size + 1) A l.length c r :: Old w :: F') → Calls Try.prog 29 #[.pointer (some ⟨(w.heap.size + 1), 0, none⟩), .int .i64 1] V (fun e w' => e = .returned (.int .i64 (rNum 1 l r).1) ∧ Sp w' (RdP 73 (w.heap.size + 1) A l.length c (rNum 1 l r).2 :: Old w :: F')) := fun V F' r p h => dY hC0 hlc hb hl r 1 p h
 have CK : ∀ V F' r, rAt l r → Sp V (RdP 73 (w.heap.size + 1) A l.length c r :: Old w :: F') → Calls Try.prog 29 #[.pointer (some ⟨(w.heap.size + 1), 0, none⟩), .int .i64 2] V (fun e w' => e = .returned (.int .i64 (rNum 2 l r).1) ∧ Sp w' (RdP 73 (w.heap.size + 1) A l.length c (rNum 2 l r).2 :: Old w :: F')) := fun V F' r p h => dY hC0 hlc hb hl r 2 p h
 have CM : ∀ V F' r, rAt l r → Sp V (RdP 73 (w.heap.size + 1) A l.length c r :: Old w :: F') → Calls Try.prog 31 #[.pointer (some ⟨(w.heap.size + 1), 0, none⟩), .int .i64 1, .int .i64 5] V (fun e w' => e = .returned (.int .i64 (rMany 1 5 l r).1) ∧ Sp w' (RdP 73 (w.heap.size + 1) A l.length c (rMany 1 5 l r).2 :: Old w :: F')) := fun V F' r p h => jB hC0 hlc hb hl r 1 5 p h
 have CS : ∀ V F' r, rAt l r → Sp V (RdP 73 (w.heap.size + 1) A l.length c r :: Old w :: F') → Calls Try.prog 28 #[.pointer (some ⟨(w.heap.size + 1), 0, none⟩)] V (fun e w' => e = .returned (.agg #[.int .i64 (rStamp l r).1.f0, .int .i64 (rStamp l r).1.f1, .int .i64 (rStamp l r).1.f2]) ∧ Sp w' (RdP 73 (w.heap.size + 1) A l.length c (rStamp l r).2 :: Old w :: F')) := fun V F' r p h => iF hC0 hlc hb hl r p (dT hb 6 z4_ z4_ p) (dT hb 3 z4_ z4_ (dT hb 6 z4_ z4_ p)) h
 have CU : ∀ V F' r, rAt l r → Sp V (RdP 73 (w.heap.size + 1) A l.length c r :: Old w :: F') → Calls Try.prog 27 #[.pointer (some ⟨(w.heap.size + 1), 0, none⟩)] V (fun e w' => ∃ v, e = .returned v ∧ Sp w' (Row (Kd.int .i64) 3 v (rNums l r).1 :: RdP 73 (w.heap.size + 1) A l.length c (rNums l r).2 :: Old w :: F')) := fun V F' r p h => rnums_calls hC0 hlc hb hl r p h
 have CX : ∀ V F' r, rAt l r → Sp V (RdP 73 (w.heap.size + 1) A l.length c r :: Old w :: F') → Calls Try.prog 30 #[.pointer (some ⟨(w.heap.size + 1), 0, none⟩)] V (fun e w' => ∃ v1 v2, e = .returned (.agg #[.string (rRowx l r).1.f0, v1, v2]) ∧ Sp w' (Row k50 50 v1 (rRowx l r).1.f1 :: Row k91 91 v2 (rRowx l r).1.f2 :: RdP 73 (w.heap.size + 1) A l.length c (rRowx l r).2 :: Old w :: F')) := fun V F' r p h => rrow_calls hC0 hlc hb hl r p h
 have CO : ∀ V F' r, rAt l r → Sp V (RdP 73 (w.heap.size + 1) A l.length c r :: Old w :: F') → Calls Try.prog 32 #[.pointer (some ⟨(w.heap.size + 1), 0, none⟩)] V (fun e w' => ∃ v1 v7 v8, e = .returned (.agg #[.int .i64 (rOp l r).1.f0.f0, .int .i64 (rOp l r).1.f0.f1, v1, .int .i64 (rOp l r).1.f2.f0, .int .i64 (rOp l r).1.f2.f1, .int .i64 (rOp l r).1.f2.f2, .int .i64 (rOp l r).1.f3, .int .i64 (rOp l r).1.f4, .string (rOp l r).1.f5, .int .i64 (rOp l r).1.f6, v7, v8]) ∧ Sp w' (Row (Kd.int .i64) 3 v1 (rOp l r).1.f1 :: Row k89 89 v7 (rOp l r).1.f7 :: Row k50 50 v8 (rOp l r).1.f8 :: RdP 73 (w.heap.size + 1) A l.length c (rOp l r).2 :: Old w :: F')) := fun V F' r p h => rop_calls hC0 hlc hb hl r p h
 have p0 : rAt l ((0, false) : Rr) := ⟨Int.le_refl _, by show (0 : Int) ≤ _; omega⟩
 have PN : ∀ r, rAt l r → rAt l (rNums l r).2 := fun r p => Reads.nums.place l r hb p.1 p.2
 have PX : ∀ r, rAt l r → rAt l (rRowx l r).2 := fun r p => Reads.rowx.place l r hb p.1 p.2
 have PB : ∀ r, rAt l r → rAt l (rTable l r).2 := fun r p => Reads.table.place l r hb p.1 p.2
 have PO : ∀ r, rAt l r → rAt l (rOp l r).2 := fun r p => Reads.op.place l r hb p.1 p.2
 have P2 : ∀ r, rAt l r → rAt l (rNum 2 l r).2 := fun r p => dT hb 2 z4_ z4_ p
 have M2 : ∀ r, rAt l r → ∃ m : Nat, (rNum 2 l r).1 = (m : Int) ∧ m ≤ 65535 := fun r p => by
  obtain ⟨m, e, b⟩ := kK hb 2 z4_ z4_ p
  exact ⟨m, e, by have : (m : Int) < 65536 := b; omega⟩
 have hsmall := snap_small hb
 have p1 : rAt l (rNums l (0, false)).2 := PN _ p0
 have hsn : rSnap l (0, false) = (⟨(rNums l (0, false)).1, (rStamp l (rNums l (0, false)).2).1, (rTabs l (rStamp l (rNums l (0, false)).2).2).1, (rSafe l (rTabs l (rStamp l (rNums l (0, false)).2).2).2).1, (rOps l (rSafe l (rTabs l (rStamp l (rNums l (0, false)).2).2).2).2).1⟩, (rOps l (rSafe l (rTabs l (rStamp l (rNums l (0, false)).2).2).2).2).2) := rfl
 have C1 := fun V F' => CU V F' (0, false) p0
 obtain ⟨q1, hq1⟩ : ∃ q, q = rNums l (0, false) := ⟨_, rfl⟩
 rw [← hq1] at p1 hsn C1
 have p2 : rAt l (rStamp l q1.2).2 := Reads.stamp.place l _ hb p1.1 p1.2
 have C2 := fun V F' => CS V F' q1.2 p1
 obtain ⟨q2, hq2⟩ : ∃ q, q = rStamp l q1.2 := ⟨_, rfl⟩
 rw [← hq2] at p2 hsn C2
 have p3' : rAt l (rNum 1 l q2.2).2 := dT hb 1 z4_ z4_ p2
 have p3 : rAt l (rTabs l q2.2).2 := Reads.tabs.place l _ hb p2.1 p2.2
 have C3 := fun V F' => CN V F' q2.2 p2
 obtain ⟨m3, e3, b3⟩ := kK hb 1 z4_ z4_ p2
 replace e3 : (rNum 1 l q2.2).1 = (m3 : Int) := e3
 obtain ⟨q3, hq3⟩ : ∃ q, q = rTabs l q2.2 := ⟨_, rfl⟩
 have hq3' : q3 = cTimes rTable l m3 [] (rNum 1 l q2.2).2 := by rw [hq3]; unfold rTabs cCount; rw [e3, Int.toNat_natCast]
 rw [← hq3] at p3 hsn
 obtain ⟨n3, hn3⟩ : ∃ q, q = rNum 1 l q2.2 := ⟨_, rfl⟩
 rw [← hn3] at p3' C3 e3 hq3'
 have p4' : rAt l (rMany 1 5 l q3.2).2 := rAt_many hb 1 z4_ z4_ 5 p3
 have C4 := fun V F' => CM V F' q3.2 p3
 have p4 : rAt l (rSafe l q3.2).2 := Reads.safe.place l _ hb p3.1 p3.2
 have hle4 : (rMany 1 5 l q3.2).1 ≤ 5 := by unfold rMany; split <;> omega
 obtain ⟨q4, hq4⟩ : ∃ q, q = rSafe l q3.2 := ⟨_, rfl⟩
 have hq4' : q4 = rTimes rNums l (rMany 1 5 l q3.2).1.toNat [] (rMany 1 5 l q3.2).2 := hq4
 rw [← hq4] at p4 hsn
 obtain ⟨n4, hn4⟩ : ∃ q, q = rMany 1 5 l q3.2 := ⟨_, rfl⟩
 rw [← hn4] at p4' C4 hle4 hq4'
 have p5' : rAt l (rNum 2 l q4.2).2 := P2 _ p4
 have C5 := fun V F' => CK V F' q4.2 p4
 obtain ⟨m5, e5, b5⟩ := M2 _ p4
 obtain ⟨q5, hq5⟩ : ∃ q, q = rOps l q4.2 := ⟨_, rfl⟩
 have hq5' : q5 = cTimes rOp l m5 [] (rNum 2 l q4.2).2 := by rw [hq5]; unfold rOps cCount; rw [e5, Int.toNat_natCast]
 rw [← hq5] at hsn
 obtain ⟨n5, hn5⟩ : ∃ q, q = rNum 2 l q4.2 := ⟨_, rfl⟩
 rw [← hn5] at p5' C5 e5 hq5'
 have hm3 : m3 ≤ 255 := by have : (m3 : Int) < 256 := b3; omega
 obtain ⟨k3, r3⟩ := n3
 obtain ⟨k4, r4⟩ := n4
 obtain ⟨k5, r5⟩ := n5
 dsimp only at e3 e5 C3 C4 C5 p3' p4' p5' hq3' hq4' hq5' hle4
 subst e3 e5
 have hcl : ∀ V, Below w.heap.size w V → Kd.C (Kd.int .u8) V A l.length l := fun V h => aV hC0 h
 have HC1 := mk_ C1
 have HC2 := mk_ C2
 have HC3 := mk_ C3
 have HC4 := mk_ C4
 have HC5 := mk_ C5
 have HCU := mk_ CU
 have HCS := mk_ CS
 have HCX := mk_ CX
 have HCO := mk_ CO
 have HCK := mk_ CK
 have HPX := mk_ PX
 have HPB := mk_ PB
 have HPO := mk_ PO
 have HPN := mk_ PN
 have HP2 := mk_ P2
 have HM2 := mk_ M2
 have Hp1 := mk_ p1
 have Hp2 := mk_ p2
 have Hp3 := mk_ p3
 have Hp3_ := mk_ p3'
 have Hp4 := mk_ p4
 have Hp4_ := mk_ p4'
 have Hp5_ := mk_ p5'
 have Hhq3_ := mk_ hq3'
 have Hhq4_ := mk_ hq4'
 have Hhq5_ := mk_ hq5'
 have Hhle4 := mk_ hle4
 have Hhm3 := mk_ hm3
 have Hb5 := mk_ b5
 have Hhcl := mk_ hcl
 have Hhlc := mk_ hlc
 have Hhb := mk_ hb
 have Hhl := mk_ hl
 have Hhsn := mk_ hsn
 have Hhsmall := mk_ hsmall
 have HS0 := mk_ h2.drew
 clear C1 C2 C3 C4 C5 CU CS CX CO CK CN CM PX PB PO PN P2 M2 p0 p1 p2 p3 p3' p4 p4' p5' hq1 hq2 hq3 hq3' hq4 hq4' hq5 hq5' hn3 hn4 hn5 hle4 hm3 b3 b5 hcl hlc hb hl hsn hsmall h0 h1 h2 hC0 hbig
 go_enter Try.func8, Try.ntmps8
 go_upto_region 4 with (fail)
 revert HS0
 generalize World.alloc (World.alloc w _) _ = W0
 intro HS0
 go_cut [5] (fun v5 wc => ∃ gs A0 c0, v5 = .pointer (some ⟨gs, 0, none⟩) ∧ Aside0 (Sp wc [RdP 73 (w.heap.size + 1) A l.length c q2.2, Old w, Blk gs (.cells #[(.slice A0 q1.1.length c0), .int .i64 q2.1.f0, .int .i64 q2.1.f1, .int .i64 q2.1.f2, .slice none 0 0, .slice none 0 0, .slice none 0 0] 31 (0, 0)), Row (Kd.int .i64) 3 (.slice A0 q1.1.length c0) q1.1, Blk w.heap.size (.cells #[.slice none 0 0, .int .i64 0, .int .i64 0, .int .i64 0, .slice none 0 0, .slice none 0 0, .slice none 0 0] 31 (0, 0))]))
 case first =>
  refine fJ (n := 11) (S := fun w' => True) (ds := []) (fun W => Sp W [RdP 73 (w.heap.size + 1) A l.length c (0, false), Old w, Blk w.heap.size (.cells #[.slice none 0 0, .int .i64 0, .int .i64 0, .int .i64 0, .slice none 0 0, .slice none 0 0, .slice none 0 0] 31 (0, 0))]) (Steps.Bs 11 0) z1_ rfl rfl HS0.out (fun W hJ => trivial) (fun W0 hJ => ?_)
  have hHeld : True := trivial
  clear HS0
  refine sI 0 20 11 1 ?_
  refine sI 1 21 11 3 ?_
  refine sI 2 22 11 7 ?_
  refine sI 4 24 11 23 ?_
  refine sI 5 25 11 55 ?_
  refine sI 6 26 11 119 ?_
  refine two_ (i := 3) (j := 9) (Ni := (some 23)) (Nj := (some 5)) (Steps.Bs 11 127) (Steps.Bs 11 631) rfl rfl rfl rfl z1_ z4_ z4_ (fun K hK => ?_) (fun K hK => ?_)
  ·
   refine goes_ Try.func27 z1_ rfl #[.pointer (some ⟨(w.heap.size + 1), 0, none⟩)] (by rfl) rfl rfl z6_ ?_
   refine (HC1.out _ _ hJ).mono ?_
   rintro e V1 ⟨v, rfl, h1⟩
   obtain ⟨A0, c0, rfl, _, _⟩ := h1.row
   refine ⟨_, rfl, ?_⟩
   have hV := h1.s1.s2.s1
   refine hK.out _ _ trivial (fun _ => ?_)
   clear hK K
   refine nrm 23 ?_
   refine two_ (i := 7) (j := 9) (Ni := (some 27)) (Nj := (some 5)) (Steps.Bs 11 255) (Steps.Bs 11 639) rfl rfl rfl rfl z1_ z4_ z4_ (fun K hK => ?_) (fun K hK => ?_)
   ·
    refine goes_ Try.func28 z1_ rfl #[.pointer (some ⟨(w.heap.size + 1), 0, none⟩)] (by rfl) rfl rfl z6_ ?_
    refine (HC2.out _ _ hV).mono ?_
    rintro e V2 ⟨rfl, h2⟩
    refine ⟨_, rfl, ?_⟩
    refine hK.out _ _ trivial (fun _ => ?_)
    clear hK K
    refine nrm 27 ?_
    refine sI 8 28 11 511 ?_
    refine one_ (i := 9) (N := (some 5)) (Steps.Bs 11 1023) rfl rfl z1_ z4_ (fun K hK => ?_)
    refine gJ (w1 := ?_) (v := ?_) (by rfl) rfl ?_ ?_
    rotate_left 2
    ·
     go_simp
     constructor
     ·
      rfl
     ·
      rfl
    have hB := h2.box (.cells #[.slice none 0 0, .int .i64 0, .int .i64 0, .int .i64 0, .slice none 0 0, .slice none 0 0, .slice none 0 0] 31 (0, 0))
    refine hK.out _ _ trivial (fun _ => ?_)
    clear hK K
    refine nrm 5 ?_
    refine one_ (i := 10) (N := none) (Steps.Bs 11 2047) rfl rfl z1_ z4_ (fun K hK => ?_)
    refine eV (by rfl) 31 (.tmp 5) (.tmp 28) rfl V2.heap.size #[(.slice A0 q1.1.length c0), .int .i64 q2.1.f0, .int .i64 q2.1.f1, .int .i64 q2.1.f2, .slice none 0 0, .slice none 0 0, .slice none 0 0] rfl rfl 31 #[.slice none 0 0, .int .i64 0, .int .i64 0, .int .i64 0, .slice none 0 0, .slice none 0 0, .slice none 0 0] hB.blk z1_ rfl z7_ ?_
    have hX := bG hB #[(.slice A0 q1.1.length c0), .int .i64 q2.1.f0, .int .i64 q2.1.f1, .int .i64 q2.1.f2, .slice none 0 0, .slice none 0 0, .slice none 0 0]
    refine hK.out _ _ trivial (fun _ => ?_)
    clear hK K
    refine norm_ (a' := ?_) ?_ ?_
    rotate_left
    ·
     show Act.put _ none _ = _
     rfl
    refine done_ z1_ ?_
    go_wp2
    go_meet
    case rel => exact ⟨_, _, _, rfl, ⟨hX.s2.s2⟩⟩
   ·
    refine gJ (w1 := ?_) (v := ?_) (by rfl) rfl ?_ ?_
    rotate_left 2
    ·
     go_simp
     constructor
     ·
      rfl
     ·
      rfl
    have hB := (hV.box (.cells #[.slice none 0 0, .int .i64 0, .int .i64 0, .int .i64 0, .slice none 0 0, .slice none 0 0, .slice none 0 0] 31 (0, 0))).s2.s2
    refine hK.out _ _ trivial (fun _ => ?_)
    clear hK K
    refine nrm 5 ?_
    refine one_ (i := 7) (N := (some 27)) (Steps.Bs 11 767) rfl rfl z1_ z4_ (fun K hK => ?_)
    refine goes_ Try.func28 z1_ rfl #[.pointer (some ⟨(w.heap.size + 1), 0, none⟩)] (by rfl) rfl rfl z6_ ?_
    refine (HC2.out _ _ hB).mono ?_
    rintro e V2 ⟨rfl, h2⟩
    refine ⟨_, rfl, ?_⟩
    refine hK.out _ _ trivial (fun _ => ?_)
    clear hK K
    refine nrm 27 ?_
    refine sI 8 28 11 1023 ?_
    refine one_ (i := 10) (N := none) (Steps.Bs 11 2047) rfl rfl z1_ z4_ (fun K hK => ?_)
    refine eV (by rfl) 31 (.tmp 5) (.tmp 28) rfl V1.heap.size #[(.slice A0 q1.1.length c0), .int .i64 q2.1.f0, .int .i64 q2.1.f1, .int .i64 q2.1.f2, .slice none 0 0, .slice none 0 0, .slice none 0 0] rfl rfl 31 #[.slice none 0 0, .int .i64 0, .int .i64 0, .int .i64 0, .slice none 0 0, .slice none 0 0, .slice none 0 0] h2.s2.blk z1_ rfl z7_ ?_
    have hX := bG h2.s2 #[(.slice A0 q1.1.length c0), .int .i64 q2.1.f0, .int .i64 q2.1.f1, .int .i64 q2.1.f2, .slice none 0 0, .slice none 0 0, .slice none 0 0]
    refine hK.out _ _ trivial (fun _ => ?_)
    clear hK K
    refine norm_ (a' := ?_) ?_ ?_
    rotate_left
    ·
     show Act.put _ none _ = _
     rfl
    refine done_ z1_ ?_
    go_wp2
    go_meet
    case rel => exact ⟨_, _, _, rfl, ⟨hX.s2.s2⟩⟩
  ·
   refine gJ (w1 := ?_) (v := ?_) (by rfl) rfl ?_ ?_
   rotate_left 2
   ·
    go_simp
    constructor
    ·
     rfl
    ·
     rfl
   have hB := (hJ.box (.cells #[.slice none 0 0, .int .i64 0, .int .i64 0, .int .i64 0, .slice none 0 0, .slice none 0 0, .slice none 0 0] 31 (0, 0))).s2.s2
   refine hK.out _ _ trivial (fun _ => ?_)
   clear hK K
   refine nrm 5 ?_
   refine one_ (i := 3) (N := (some 23)) (Steps.Bs 11 639) rfl rfl z1_ z4_ (fun K hK => ?_)
   refine goes_ Try.func27 z1_ rfl #[.pointer (some ⟨(w.heap.size + 1), 0, none⟩)] (by rfl) rfl rfl z6_ ?_
   refine (HC1.out _ _ hB).mono ?_
   rintro e V1 ⟨v, rfl, h1⟩
   obtain ⟨A0, c0, rfl, _, _⟩ := h1.row
   refine ⟨_, rfl, ?_⟩
   have hV := h1.s1.s2.s1
   refine hK.out _ _ trivial (fun _ => ?_)
   clear hK K
   refine nrm 23 ?_
   refine one_ (i := 7) (N := (some 27)) (Steps.Bs 11 767) rfl rfl z1_ z4_ (fun K hK => ?_)
   refine goes_ Try.func28 z1_ rfl #[.pointer (some ⟨(w.heap.size + 1), 0, none⟩)] (by rfl) rfl rfl z6_ ?_
   refine (HC2.out _ _ hV).mono ?_
   rintro e V2 ⟨rfl, h2⟩
   refine ⟨_, rfl, ?_⟩
   refine hK.out _ _ trivial (fun _ => ?_)
   clear hK K
   refine nrm 27 ?_
   refine sI 8 28 11 1023 ?_
   refine one_ (i := 10) (N := none) (Steps.Bs 11 2047) rfl rfl z1_ z4_ (fun K hK => ?_)
   refine eV (by rfl) 31 (.tmp 5) (.tmp 28) rfl W0.heap.size #[(.slice A0 q1.1.length c0), .int .i64 q2.1.f0, .int .i64 q2.1.f1, .int .i64 q2.1.f2, .slice none 0 0, .slice none 0 0, .slice none 0 0] rfl rfl 31 #[.slice none 0 0, .int .i64 0, .int .i64 0, .int .i64 0, .slice none 0 0, .slice none 0 0, .slice none 0 0] h2.s3.blk z1_ rfl z7_ ?_
   have hX := bG h2.s3 #[(.slice A0 q1.1.length c0), .int .i64 q2.1.f0, .int .i64 q2.1.f1, .int .i64 q2.1.f2, .slice none 0 0, .slice none 0 0, .slice none 0 0]
   refine hK.out _ _ trivial (fun _ => ?_)
   clear hK K
   refine norm_ (a' := ?_) ?_ ?_
   rotate_left
   ·
    show Act.put _ none _ = _
    rfl
   refine done_ z1_ ?_
   go_wp2
   go_meet
   case rel => exact ⟨_, _, _, rfl, ⟨hX.s2.s2⟩⟩
 case rest =>
 obtain ⟨gs, A0, c0, rfl, HS2⟩ := hcut
 go_upto_block 0 with (go_at_call 29; go_loud (refine (HC3.out _ _ HS2.out).mono ?_; rintro e V3 ⟨rfl, h1⟩; have HS3 := mk_ (dG (d := (Kd.slice 80 k80)) (e := 77 ) h1); clear h1 HS2))
 go_cut [6] (fun v6 wc => ∃ v, Aside0 (Sp wc [Row (Kd.slice 80 k80) 77 v (q3.1), RdP 73 (w.heap.size + 1) A l.length c (q3.2), Old w, Blk gs (.cells #[(.slice A0 q1.1.length c0), .int .i64 q2.1.f0, .int .i64 q2.1.f1, .int .i64 q2.1.f2, v, .slice none 0 0, .slice none 0 0] 31 (0, 0)), Row (Kd.int .i64) 3 (.slice A0 q1.1.length c0) q1.1, Blk w.heap.size (.cells #[.slice none 0 0, .int .i64 0, .int .i64 0, .int .i64 0, .slice none 0 0, .slice none 0 0, .slice none 0 0] 31 (0, 0))]))
 case first =>
  go_wp2
  go_loopg [6] (m3 + 1) (fun kq v6 W' => ∃ (k : Nat) (accr : List _) (q : Rr) (v : Value), v6 = .int .i64 (k : Int) ∧ Aside0 (kq = k + 1 ∧ accr.length + k ≤ m3) ∧ Aside0 (rAt l q) ∧ Aside0 (q3 = cTimes rTable l k accr q) ∧ Aside0 (Sp W' [Row (Kd.slice 80 k80) 77 v (accr), RdP 73 (w.heap.size + 1) A l.length c (q), Old w, Blk gs (.cells #[(.slice A0 q1.1.length c0), .int .i64 q2.1.f0, .int .i64 q2.1.f1, .int .i64 q2.1.f2, v, .slice none 0 0, .slice none 0 0] 31 (0, 0)), Row (Kd.int .i64) 3 (.slice A0 q1.1.length c0) q1.1, Blk w.heap.size (.cells #[.slice none 0 0, .int .i64 0, .int .i64 0, .int .i64 0, .slice none 0 0, .slice none 0 0, .slice none 0 0] 31 (0, 0))]))
  case atStart => exact ⟨m3, [], r3, _, rfl, ⟨rfl, by simp⟩, ⟨Hp3_.out⟩, ⟨Hhq3_.out⟩, HS3⟩
  case round =>
   obtain ⟨k, acc, q, v, rfl, HK, HPq, HQ, HA⟩ := hrel
   obtain ⟨at_, bad⟩ := q
   obtain ⟨A8, c8, rfl, _, _⟩ := HA.out.row
   have k2_ : wr.cell? ⟨(w.heap.size + 1), 2, none⟩ = some (.bool bad) := aC HA.out.s1.blk 2
   cases k with
   | zero =>
    have hz : decide ((0 : Int) < ((0 : Nat) : Int)) = false := rfl
    have hf := HQ.out
    rw [show cTimes rTable l 0 acc (at_, bad) = (acc, (at_, bad)) from rfl] at hf
    go_wp2
    go_meet
    case rel => exact ⟨_, ⟨by rw [hf]; exact HA.out⟩⟩
   | succ k =>
    have hz : decide ((0 : Int) < ((k + 1 : Nat) : Int)) = true := decide_eq_true z2_
    have hz' : ((0 : Int) < ((k + 1 : Nat) : Int)) = True := eq_true z2_
    cases bad with
    | true =>
     have hf := HQ.out
     rw [fQ rTable l _ acc (r := (at_, true)) rfl] at hf
     go_wp2
     go_meet
     case rel => exact ⟨_, ⟨by rw [hf]; exact HA.out⟩⟩
    | false =>
     have hf := HQ.out
     rw [cTimes, if_neg (by show ¬ (false = true); decide)] at hf
     clear HQ
     have HQ := mk_ hf
     clear hf
     have hgk := HK.out.1
     subst hgk
     obtain ⟨m, em, hm⟩ := HM2.out _ HPq.out
     have ck := fun V F' => HCK.out V F' (at_, false) HPq.out
     have pk := HP2.out _ HPq.out
     have pt := HPB.out _ HPq.out
     have ht0 : rTable l (at_, false) = cTimes rRowx l (rNum 2 l (at_, false)).1.toNat [] (rNum 2 l (at_, false)).2 := rfl
     have hq := HQ.out
     obtain ⟨nk, hnk⟩ : ∃ q, q = rNum 2 l (at_, false) := ⟨_, rfl⟩
     rw [← hnk] at em ck pk ht0
     rw [em, Int.toNat_natCast] at ht0
     obtain ⟨t, ht⟩ : ∃ q, q = rTable l (at_, false) := ⟨_, rfl⟩
     rw [← ht] at ht0 pt hq
     clear HQ hnk ht
     obtain ⟨ki, ri⟩ := nk
     dsimp only at em ck pk ht0
     subst em
     have HQ := mk_ hq
     have HPT := mk_ pt
     have HPK := mk_ pk
     have HT := mk_ ht0
     have HMT := mk_ hm
     have HC8 := mk_ ck
     clear hq pt pk ht0 hm ck
     go_upto_block 2 with (go_at_call 29; go_loud (refine (HC8.out _ _ HA.out.s1.s2.s1).mono ?_; rintro e W1 ⟨rfl, h1⟩; have HS8 := mk_ (dG (d := k80) (e := 80) h1); clear h1 HA))
     clear k2_
     go_cut [7, 8] (fun v7 v8 wc => ∃ v, v7 = v ∧ Aside0 (Sp wc [Row k80 80 v (t.1), RdP 73 (w.heap.size + 1) A l.length c (t.2), Old w, Row (Kd.slice 80 k80) 77 (.slice A8 acc.length c8) acc, Blk gs (.cells #[(.slice A0 q1.1.length c0), .int .i64 q2.1.f0, .int .i64 q2.1.f1, .int .i64 q2.1.f2, (.slice A8 acc.length c8), .slice none 0 0, .slice none 0 0] 31 (0, 0)), Row (Kd.int .i64) 3 (.slice A0 q1.1.length c0) q1.1, Blk w.heap.size (.cells #[.slice none 0 0, .int .i64 0, .int .i64 0, .int .i64 0, .slice none 0 0, .slice none 0 0, .slice none 0 0] 31 (0, 0))]))
     case first =>
      go_wp2
      go_loopg [7, 8] (m + 1) (fun kq v7 v8 W' => ∃ (k : Nat) (accr : List _) (q : Rr) (v : Value), v8 = .int .i64 (k : Int) ∧ v7 = v ∧ Aside0 (kq = k + 1 ∧ accr.length + k ≤ m) ∧ Aside0 (rAt l q) ∧ Aside0 (t = cTimes rRowx l k accr q) ∧ Aside0 (Sp W' [Row k80 80 v (accr), RdP 73 (w.heap.size + 1) A l.length c (q), Old w, Row (Kd.slice 80 k80) 77 (.slice A8 acc.length c8) acc, Blk gs (.cells #[(.slice A0 q1.1.length c0), .int .i64 q2.1.f0, .int .i64 q2.1.f1, .int .i64 q2.1.f2, (.slice A8 acc.length c8), .slice none 0 0, .slice none 0 0] 31 (0, 0)), Row (Kd.int .i64) 3 (.slice A0 q1.1.length c0) q1.1, Blk w.heap.size (.cells #[.slice none 0 0, .int .i64 0, .int .i64 0, .int .i64 0, .slice none 0 0, .slice none 0 0, .slice none 0 0] 31 (0, 0))]))
      case atStart => exact ⟨m, [], ri, _, rfl, rfl, ⟨rfl, by simp⟩, ⟨HPK.out⟩, ⟨HT.out⟩, HS8⟩
      case round =>
       obtain ⟨k2, acc2, q, v, rfl, rfl, HK2, HPq2, HQ2, HA2⟩ := hrel
       obtain ⟨at2_, bad⟩ := q
       obtain ⟨A82, c82, rfl, _, _⟩ := HA2.out.row
       have k2_ : wr.cell? ⟨(w.heap.size + 1), 2, none⟩ = some (.bool bad) := aC HA2.out.s1.blk 2
       cases k2 with
       | zero =>
        have hz : decide ((0 : Int) < ((0 : Nat) : Int)) = false := rfl
        have hf := HQ2.out
        rw [show cTimes rRowx l 0 acc2 (at2_, bad) = (acc2, (at2_, bad)) from rfl] at hf
        go_wp2
        go_meet
        case rel => exact ⟨_, rfl, ⟨by rw [hf]; exact HA2.out⟩⟩
       | succ k2 =>
        have hz : decide ((0 : Int) < ((k2 + 1 : Nat) : Int)) = true := decide_eq_true z2_
        have hz' : ((0 : Int) < ((k2 + 1 : Nat) : Int)) = True := eq_true z2_
        cases bad with
        | true =>
         have hf := HQ2.out
         rw [fQ rRowx l _ acc2 (r := (at2_, true)) rfl] at hf
         go_wp2
         go_meet
         case rel => exact ⟨_, rfl, ⟨by rw [hf]; exact HA2.out⟩⟩
        | false =>
         have hf := HQ2.out
         rw [cTimes, if_neg (by show ¬ (false = true); decide)] at hf
         clear HQ2
         have HQ2 := mk_ hf
         clear hf
         have hgk := HK2.out.1
         subst hgk
         go_wp2_with (first
          | (go_at_call 30; go_loud (refine (HCX.out _ _ _ HPq2.out HA2.out.s1.s2.s1).mono ?_; rintro e W2 ⟨v1, v2, rfl, h1⟩; obtain ⟨B1, d1, rfl, _, _⟩ := h1.row; obtain ⟨B2, d2, rfl, _, _⟩ := h1.tail.row; have HE := mk_ (rowx_el h1).s3; clear h1 HA2))
          | ((with_reducible refine cJ (b := .append) (xs := #[.tmp 61, .tmp 64]) rfl ?_); at_builtin; go_loud (refine Sp.append k80 rfl (.tmp 61) (.tmp 64) 77 80 (.agg #[.string ⟨#[]⟩, .slice none 0 0, .slice none 0 0]) 64 rfl Try.underlying77 z1_ rfl z4_ z2_ (.slice A82 acc2.length c82) acc2 (rRowx l (at2_, false)).1 [.string (rRowx l (at2_, false)).1.f0, .slice B1 (rRowx l (at2_, false)).1.f1.length d1, .slice B2 (rRowx l (at2_, false)).1.f2.length d2] rfl rfl HE.out (by have := HK2.out; have := HMT.out; omega) ?_; intro v9 w1 h1; have HX := mk_ h1; clear h1 HE)))
         go_roundg (k2 + 1)
         case measure => exact Nat.lt_succ_self _
         case rel => exact ⟨k2, acc2 ++ [(rRowx l (at2_, false)).1], (rRowx l (at2_, false)).2, v9, by rw [w64 z2_ (by have := HK2.out; have := HMT.out; omega)]; first | done | rfl | (congr 1; omega), rfl, ⟨rfl, by have := HK2.out; simp only [List.length_append, List.length_singleton]; omega⟩, ⟨HPX.out _ HPq2.out⟩, HQ2, ⟨HX.out⟩⟩
     case rest =>
     obtain ⟨v, rfl, HI⟩ := hcut
     obtain ⟨A7, c7, rfl, _, _⟩ := HI.out.row
     have kx := aC HI.out.s4.blk
     have HE := mk_ (row_el HI.out).s3
     clear HI
     go_wp2_with ((with_reducible refine cJ (b := .append) (xs := #[.tmp 67, .tmp 69]) rfl ?_); at_builtin; go_loud (refine Sp.append (Kd.slice 80 k80) rfl (.tmp 67) (.tmp 69) 27 77 (.slice none 0 0) 24 rfl Try.underlying27 z1_ rfl z4_ z2_ (.slice A8 acc.length c8) acc t.1 [.slice A7 t.1.length c7] rfl rfl HE.out (by have := HK.out; have := Hhm3.out; omega) ?_; intro v9 w1 h1; obtain ⟨A9, c9, rfl, _, _⟩ := h1.row; have kc := aC h1.s3.blk; have kf := aH h1.s3.blk 4; have HX := mk_ (h1.s3.store 4 (.slice A9 (acc ++ [t.1]).length c9)).s3.s3.s3; clear h1 HE kx))
     clear kc kf
     go_roundg (k + 1)
     case measure => exact Nat.lt_succ_self _
     case rel => exact ⟨k, acc ++ [t.1], t.2, _, by rw [w64 z2_ (by have := HK.out; have := Hhm3.out; omega)]; first | done | rfl | (congr 1; omega), ⟨rfl, by have := HK.out; simp only [List.length_append, List.length_singleton]; omega⟩, HPT, HQ, by have h6 := HX.out; rw [show (acc ++ [t.1]).length = acc.length + 1 by simp] at h6; exact ⟨h6⟩⟩
 case rest =>
 obtain ⟨v4, HS4⟩ := hcut
 obtain ⟨A4, c4, rfl, _, _⟩ := HS4.out.row
 clear Hhq3_ HC3
 go_wp2_with (go_at_call 31; go_loud (refine (HC4.out _ _ HS4.out.s1.s2.s1).mono ?_; rintro e V5 ⟨rfl, h1⟩; have HS5 := mk_ (dG (d := (Kd.slice 3 (Kd.int .i64))) (e := 24 ) (Sep.cons (fun _ => Sep.cons (fun _ => Sep.swap)) h1)); clear h1 HS4))
 go_loopg [76] (k4.toNat + 1) (fun kq v76 W' => ∃ (i : Nat) (v : Value), v76 = .int .i64 (i : Int) ∧ Aside0 (Sp W' [Row (Kd.slice 3 (Kd.int .i64)) 24 v ((rTimes rNums l i [] r4).1), RdP 73 (w.heap.size + 1) A l.length c ((rTimes rNums l i [] r4).2), Old w, Blk gs (.cells #[(.slice A0 q1.1.length c0), .int .i64 q2.1.f0, .int .i64 q2.1.f1, .int .i64 q2.1.f2, (.slice A4 q3.1.length c4), v, .slice none 0 0] 31 (0, 0)), Row (Kd.slice 80 k80) 77 (.slice A4 q3.1.length c4) q3.1, Row (Kd.int .i64) 3 (.slice A0 q1.1.length c0) q1.1, Blk w.heap.size (.cells #[.slice none 0 0, .int .i64 0, .int .i64 0, .int .i64 0, .slice none 0 0, .slice none 0 0, .slice none 0 0] 31 (0, 0))]) ∧ Aside0 (kq + i = k4.toNat + 1 ∧ i ≤ k4.toNat))
 case atStart => exact ⟨0, _, rfl, ⟨HS5.out⟩, ⟨by omega⟩⟩
 case round =>
  obtain ⟨i, v, rfl, HA, HK⟩ := hrel
  obtain ⟨k1, rfl⟩ : ∃ k1, gk = k1 + 1 := ⟨gk - 1, by have := HK.out; omega⟩
  by_cases hi : (i : Int) < k4
  ·
   have hb2 : decide ((i : Int) < k4) = true := decide_eq_true hi
   have HI := mk_ hi
   have HX := mk_ (iG rNums l i [] r4)
   have HTi := mk_ (jC HPN.out i [] _ Hp4_.out)
   have HTL : Aside0 ((rTimes rNums l i [] r4).1.length = i) := ⟨by rw [gB]; simp⟩
   clear hi
   generalize rTimes rNums l i [] r4 = t at *
   obtain ⟨xs, ri⟩ := t
   dsimp only at HA HX HTi HTL
   obtain ⟨A8, c8, rfl, _, _⟩ := HA.out.row
   have hSd := HA.out.drew
   clear HA
   go_wp2
   refine fJ (n := 10) (S := fun w' => w'.cell? ⟨gs, 5, none⟩ = some (.slice A8 xs.length c8) ∧ True) (ds := [9]) (fun W => Sp W [Row (Kd.slice 3 (Kd.int .i64)) 24 (.slice A8 xs.length c8) (xs), RdP 73 (w.heap.size + 1) A l.length c (ri), Old w, Blk gs (.cells #[(.slice A0 q1.1.length c0), .int .i64 q2.1.f0, .int .i64 q2.1.f1, .int .i64 q2.1.f2, (.slice A4 q3.1.length c4), (.slice A8 xs.length c8), .slice none 0 0] 31 (0, 0)), Row (Kd.slice 80 k80) 77 (.slice A4 q3.1.length c4) q3.1, Row (Kd.int .i64) 3 (.slice A0 q1.1.length c0) q1.1, Blk w.heap.size (.cells #[.slice none 0 0, .int .i64 0, .int .i64 0, .int .i64 0, .slice none 0 0, .slice none 0 0, .slice none 0 0] 31 (0, 0))]) (Steps.Bs 10 0) z1_ rfl rfl hSd (fun W hJ => ⟨aC hJ.s3.blk 5, trivial⟩) (fun W0 hJ => ?_)
   have hHeld : W0.cell? ⟨gs, 5, none⟩ = some (.slice A8 xs.length c8) ∧ True := ⟨aC hJ.s3.blk 5, trivial⟩
   clear hSd
   refine sI 0 78 10 1 ?_
   refine sI 2 80 10 5 ?_
   refine sI 3 81 10 13 ?_
   refine sI 4 82 10 29 ?_
   refine sT hHeld 1 79 10 31 ?_
   refine one_ (i := 5) (N := (some 83)) (Steps.Bs 10 63) rfl rfl z1_ z4_ (fun K hK => ?_)
   refine goes_ Try.func27 z1_ rfl #[.pointer (some ⟨(w.heap.size + 1), 0, none⟩)] (by rfl) rfl rfl z6_ ?_
   refine (HCU.out _ _ _ HTi.out hJ.s1.s2.s1).mono ?_
   rintro e W2 ⟨v, rfl, h1⟩
   obtain ⟨B1, d1, rfl, _, _⟩ := h1.row
   refine ⟨_, rfl, ?_⟩
   have hHeld1 := aC h1.s4.blk 5
   have hE := (row_el h1).s3
   refine hK.out _ _ ⟨hHeld1, trivial⟩ (fun _ => ?_)
   clear hK K
   refine nrm 83 ?_
   refine one_ (i := 6) (N := (some 84)) (Steps.Bs 10 127) rfl rfl z1_ z4_ (fun K hK => ?_)
   refine gJ (w1 := ?_) (v := ?_) (by rfl) rfl ?_ ?_
   rotate_left 2
   ·
    go_simp
    constructor
    ·
     rfl
    ·
     rfl
   refine hK.out _ _ ⟨dE (cU (Below.refl _ _) _) hHeld1, trivial⟩ (fun _ => ?_)
   clear hK K
   refine nrm 84 ?_
   refine one_ (i := 7) (N := (some 85)) (Steps.Bs 10 255) rfl rfl z1_ z4_ (fun K hK => ?_)
   refine Sp.append_step (Kd.slice 3 (Kd.int .i64)) (W := W2) (by rfl) (.tmp 79) (.tmp 84) 28 24 (.slice none 0 0) 24 rfl Try.underlying28 z1_ rfl z4_ z2_ (.slice A8 xs.length c8) xs (rNums l ri).1 [.slice B1 (rNums l ri).1.length d1] rfl rfl hE (by have := HTL.out; have := HI.out; have := Hhle4.out; omega) ?_
   intro v9 w1 hX
   obtain ⟨A9, c9, rfl, _, _⟩ := hX.row
   refine hK.out _ _ ⟨aC hX.s3.blk 5, trivial⟩ (fun _ => ?_)
   clear hK K
   refine nrm 85 ?_
   refine sI 8 86 10 511 ?_
   refine last_ (i := 9) (N := none) (Steps.Bs 10 1023) rfl rfl z1_ z4_ (fun K hK => ?_)
   have hc0 := aC hX.s3.blk 5
   have hf0 := aH hX.s3.blk 5
   refine skip_ (w1 := ?_) (by rfl) rfl ?_ ?_
   rotate_left
   ·
    go_simp
    rfl
   refine hK.out _ _ ?_
   clear hK K
   refine done_ z1_ ?_
   have h5 := (hX.s3.store 5 (.slice A9 (xs ++ [(rNums l ri).1]).length c9)).s3.s3.s3
   rw [show (xs ++ [(rNums l ri).1]).length = xs.length + 1 by simp] at h5
   have HX5 := mk_ h5
   clear h5 hc0 hf0 hX hE hHeld hHeld1 h1
   go_wp2
   go_roundg k1
   case measure => exact Nat.lt_succ_self _
   case rel => exact ⟨i + 1, _, by rw [w64 z2_ (by have := HI.out; have := Hhle4.out; omega)]; rfl, ⟨by rw [HX.out]; exact HX5.out⟩, ⟨by have := HK.out; omega, by have := HI.out; omega⟩⟩
  have hb2 : decide ((i : Int) < k4) = false := decide_eq_false hi
  have hie : i = k4.toNat := by have := HK.out; omega
  have h := HA.out
  rw [hie, ← Hhq4_.out] at h
  obtain ⟨A5, c5, rfl, _, _⟩ := h.row
  have HS5 := mk_ h
  clear hi hie h HA Hhq4_ HC4
  go_upto_block 6 with (go_at_call 29; go_loud (refine (HC5.out _ _ HS5.out.s1.s2.s1).mono ?_; rintro e V6 ⟨rfl, h1⟩; have HS6 := mk_ (dG (d := k54) (e := 54 ) (Sep.cons (fun _ => Sep.cons (fun _ => Sep.swap)) h1)); clear h1 HS5))
  go_cut [9] (fun v9 wc => ∃ v, Aside0 (Sp wc [Row k54 54 v (q5.1), RdP 73 (w.heap.size + 1) A l.length c (q5.2), Old w, Blk gs (.cells #[(.slice A0 q1.1.length c0), .int .i64 q2.1.f0, .int .i64 q2.1.f1, .int .i64 q2.1.f2, (.slice A4 q3.1.length c4), (.slice A5 q4.1.length c5), v] 31 (0, 0)), Row (Kd.slice 3 (Kd.int .i64)) 24 (.slice A5 q4.1.length c5) q4.1, Row (Kd.slice 80 k80) 77 (.slice A4 q3.1.length c4) q3.1, Row (Kd.int .i64) 3 (.slice A0 q1.1.length c0) q1.1, Blk w.heap.size (.cells #[.slice none 0 0, .int .i64 0, .int .i64 0, .int .i64 0, .slice none 0 0, .slice none 0 0, .slice none 0 0] 31 (0, 0))]))
  case first =>
   go_wp2
   go_loopg [9] (m5 + 1) (fun kq v9 W' => ∃ (k : Nat) (accr : List _) (q : Rr) (v : Value), v9 = .int .i64 (k : Int) ∧ Aside0 (kq = k + 1 ∧ accr.length + k ≤ m5) ∧ Aside0 (rAt l q) ∧ Aside0 (q5 = cTimes rOp l k accr q) ∧ Aside0 (Sp W' [Row k54 54 v (accr), RdP 73 (w.heap.size + 1) A l.length c (q), Old w, Blk gs (.cells #[(.slice A0 q1.1.length c0), .int .i64 q2.1.f0, .int .i64 q2.1.f1, .int .i64 q2.1.f2, (.slice A4 q3.1.length c4), (.slice A5 q4.1.length c5), v] 31 (0, 0)), Row (Kd.slice 3 (Kd.int .i64)) 24 (.slice A5 q4.1.length c5) q4.1, Row (Kd.slice 80 k80) 77 (.slice A4 q3.1.length c4) q3.1, Row (Kd.int .i64) 3 (.slice A0 q1.1.length c0) q1.1, Blk w.heap.size (.cells #[.slice none 0 0, .int .i64 0, .int .i64 0, .int .i64 0, .slice none 0 0, .slice none 0 0, .slice none 0 0] 31 (0, 0))]))
   case atStart => exact ⟨m5, [], r5, _, rfl, ⟨rfl, by simp⟩, ⟨Hp5_.out⟩, ⟨Hhq5_.out⟩, HS6⟩
   case round =>
    obtain ⟨k, acc, q, v, rfl, HK, HPq, HQ, HA⟩ := hrel
    obtain ⟨at_, bad⟩ := q
    obtain ⟨A8, c8, rfl, _, _⟩ := HA.out.row
    have k2_ : wr.cell? ⟨(w.heap.size + 1), 2, none⟩ = some (.bool bad) := aC HA.out.s1.blk 2
    cases k with
    | zero =>
     have hz : decide ((0 : Int) < ((0 : Nat) : Int)) = false := rfl
     have hf := HQ.out
     rw [show cTimes rOp l 0 acc (at_, bad) = (acc, (at_, bad)) from rfl] at hf
     go_wp2
     go_meet
     case rel => exact ⟨_, ⟨by rw [hf]; exact HA.out⟩⟩
    | succ k =>
     have hz : decide ((0 : Int) < ((k + 1 : Nat) : Int)) = true := decide_eq_true z2_
     have hz' : ((0 : Int) < ((k + 1 : Nat) : Int)) = True := eq_true z2_
     cases bad with
     | true =>
      have hf := HQ.out
      rw [fQ rOp l _ acc (r := (at_, true)) rfl] at hf
      go_wp2
      go_meet
      case rel => exact ⟨_, ⟨by rw [hf]; exact HA.out⟩⟩
     | false =>
      have hf := HQ.out
      rw [cTimes, if_neg (by show ¬ (false = true); decide)] at hf
      clear HQ
      have HQ := mk_ hf
      clear hf
      have hgk := HK.out.1
      subst hgk
      have hSd := HA.out.drew
      clear HA
      go_wp2
      refine fJ (n := 10) (S := fun w' => w'.cell? ⟨gs, 6, none⟩ = some (.slice A8 acc.length c8) ∧ True) (ds := [9]) (fun W => Sp W [Row k54 54 (.slice A8 acc.length c8) (acc), RdP 73 (w.heap.size + 1) A l.length c ((at_, false)), Old w, Blk gs (.cells #[(.slice A0 q1.1.length c0), .int .i64 q2.1.f0, .int .i64 q2.1.f1, .int .i64 q2.1.f2, (.slice A4 q3.1.length c4), (.slice A5 q4.1.length c5), (.slice A8 acc.length c8)] 31 (0, 0)), Row (Kd.slice 3 (Kd.int .i64)) 24 (.slice A5 q4.1.length c5) q4.1, Row (Kd.slice 80 k80) 77 (.slice A4 q3.1.length c4) q3.1, Row (Kd.int .i64) 3 (.slice A0 q1.1.length c0) q1.1, Blk w.heap.size (.cells #[.slice none 0 0, .int .i64 0, .int .i64 0, .int .i64 0, .slice none 0 0, .slice none 0 0, .slice none 0 0] 31 (0, 0))]) (Steps.Bs 10 0) z1_ rfl rfl hSd (fun W hJ => ⟨aC hJ.s3.blk 6, trivial⟩) (fun W0 hJ => ?_)
      have hHeld : W0.cell? ⟨gs, 6, none⟩ = some (.slice A8 acc.length c8) ∧ True := ⟨aC hJ.s3.blk 6, trivial⟩
      clear hSd
      refine sI 0 104 10 1 ?_
      refine sI 2 106 10 5 ?_
      refine sI 3 107 10 13 ?_
      refine sI 4 108 10 29 ?_
      refine sT hHeld 1 105 10 31 ?_
      refine one_ (i := 5) (N := (some 109)) (Steps.Bs 10 63) rfl rfl z1_ z4_ (fun K hK => ?_)
      refine goes_ Try.func32 z1_ rfl #[.pointer (some ⟨(w.heap.size + 1), 0, none⟩)] (by rfl) rfl rfl z6_ ?_
      refine (HCO.out _ _ _ HPq.out hJ.s1.s2.s1).mono ?_
      rintro e W2 ⟨v1, v7, v8, rfl, h1⟩
      obtain ⟨B1, d1, rfl, _, _⟩ := h1.row
      obtain ⟨B7, d7, rfl, _, _⟩ := h1.tail.row
      obtain ⟨B8, d8, rfl, _, _⟩ := h1.tail.tail.row
      refine ⟨_, rfl, ?_⟩
      have hHeld1 := aC h1.s6.blk 6
      have hE := (opx_el h1).s3
      refine hK.out _ _ ⟨hHeld1, trivial⟩ (fun _ => ?_)
      clear hK K
      refine nrm 109 ?_
      refine one_ (i := 6) (N := (some 110)) (Steps.Bs 10 127) rfl rfl z1_ z4_ (fun K hK => ?_)
      refine gJ (w1 := ?_) (v := ?_) (by rfl) rfl ?_ ?_
      rotate_left 2
      ·
       go_simp
       constructor
       ·
        rfl
       ·
        rfl
      refine hK.out _ _ ⟨dE (cU (Below.refl _ _) _) hHeld1, trivial⟩ (fun _ => ?_)
      clear hK K
      refine nrm 110 ?_
      refine one_ (i := 7) (N := (some 111)) (Steps.Bs 10 255) rfl rfl z1_ z4_ (fun K hK => ?_)
      refine Sp.append_step k54 (W := W2) (by rfl) (.tmp 105) (.tmp 110) 29 54 (.agg #[.int .i64 0, .int .i64 0, .slice none 0 0, .int .i64 0, .int .i64 0, .int .i64 0, .int .i64 0, .int .i64 0, .string ⟨#[]⟩, .int .i64 0, .slice none 0 0, .slice none 0 0]) 152 rfl Try.underlying29 z1_ rfl z4_ z2_ (.slice A8 acc.length c8) acc (rOp l (at_, false)).1 [.int .i64 (rOp l (at_, false)).1.f0.f0, .int .i64 (rOp l (at_, false)).1.f0.f1, .slice B1 (rOp l (at_, false)).1.f1.length d1, .int .i64 (rOp l (at_, false)).1.f2.f0, .int .i64 (rOp l (at_, false)).1.f2.f1, .int .i64 (rOp l (at_, false)).1.f2.f2, .int .i64 (rOp l (at_, false)).1.f3, .int .i64 (rOp l (at_, false)).1.f4, .string (rOp l (at_, false)).1.f5, .int .i64 (rOp l (at_, false)).1.f6, .slice B7 (rOp l (at_, false)).1.f7.length d7, .slice B8 (rOp l (at_, false)).1.f8.length d8] rfl rfl hE (by have := HK.out; have := Hb5.out; omega) ?_
      intro v9 w1 hX
      obtain ⟨A9, c9, rfl, _, _⟩ := hX.row
      refine hK.out _ _ ⟨aC hX.s3.blk 6, trivial⟩ (fun _ => ?_)
      clear hK K
      refine nrm 111 ?_
      refine sI 8 112 10 511 ?_
      refine last_ (i := 9) (N := none) (Steps.Bs 10 1023) rfl rfl z1_ z4_ (fun K hK => ?_)
      have hc0 := aC hX.s3.blk 6
      have hf0 := aH hX.s3.blk 6
      refine skip_ (w1 := ?_) (by rfl) rfl ?_ ?_
      rotate_left
      ·
       go_simp
       rfl
      refine hK.out _ _ ?_
      clear hK K
      refine done_ z1_ ?_
      have h5 := (hX.s3.store 6 (.slice A9 (acc ++ [(rOp l (at_, false)).1]).length c9)).s3.s3.s3
      have HX := mk_ h5
      clear h5 hc0 hf0 hX hE hHeld hHeld1 h1
      go_wp2
      go_roundg (k + 1)
      case measure => exact Nat.lt_succ_self _
      case rel => exact ⟨k, acc ++ [(rOp l (at_, false)).1], (rOp l (at_, false)).2, _, by rw [w64 z2_ (by have := HK.out; have := Hb5.out; omega)]; first | done | rfl | (congr 1; omega), ⟨rfl, by have := HK.out; simp only [List.length_append, List.length_singleton]; omega⟩, ⟨HPO.out _ HPq.out⟩, HQ, by have h6 := HX.out; rw [show (acc ++ [(rOp l (at_, false)).1]).length = acc.length + 1 by simp] at h6; exact ⟨h6⟩⟩
  case rest =>
  obtain ⟨v6, HS7⟩ := hcut
  obtain ⟨A6, c6, rfl, _, _⟩ := HS7.out.row
  clear Hhq5_ HC5
  obtain ⟨x, hx⟩ : ∃ x : Sn, x = ⟨q1.1, q2.1, q3.1, q4.1, q5.1⟩ := ⟨_, rfl⟩
  have hxs : rSnap l (0, false) = (x, q5.2) := by rw [hx]; exact Hhsn.out
  have hsm : snapSmall x := by have := Hhsmall.out; rw [hxs] at this; exact this
  obtain ⟨xs5, r6⟩ := q5
  obtain ⟨at5, bad5⟩ := r6
  dsimp only at HS7 hx hxs
  obtain ⟨ob, oe, hoe⟩ : ∃ a b, sSnapBytes x = (a, b) := ⟨_, _, rfl⟩
  have hob : oe = 0 → Bytes ob := fun e => by
   rw [gK] at hoe
   by_cases hf : snFit x
   ·
    rw [if_pos hf] at hoe
    by_cases h6 : (snB x).length > 65535
    ·
     rw [if_pos h6] at hoe; injection hoe with h1 h2; omega
    ·
     rw [if_neg h6] at hoe; injection hoe with h1 h2; rw [← h1]; exact jD hf
   ·
    rw [if_neg hf] at hoe; injection hoe with h1 h2; omega
  obtain ⟨f, hf⟩ : ∃ f, f = decide (bad5 = true ∨ at5 ≠ l.length ∨ oe ≠ 0 ∨ ob ≠ l) := ⟨_, rfl⟩
  have hu : sReadSnap l = if f = true then (zSnap, 3) else (x, 0) := by
   unfold sReadSnap
   rw [if_neg (fun h => by have := of_decide_eq_false hd2; omega), hxs, hoe, hf]
   by_cases h : bad5 = true ∨ at5 ≠ l.length ∨ oe ≠ 0 ∨ ob ≠ l
   ·
    rw [if_pos h, if_pos (decide_eq_true h)]
   ·
    rw [if_neg h, if_neg (by rw [decide_eq_false h]; decide)]
  have HU := mk_ hu
  have HF := mk_ hf
  have HOB := mk_ hob
  have HOE := mk_ hoe
  have HSM := mk_ hsm
  have hC0_ := (row_C HS7.out.s6).2
  have hC4_ := (row_C HS7.out.s5).2
  have hC5_ := (row_C HS7.out.s4).2
  have hC6_ := (row_C HS7.out).2
  have hq := kA x A0 A4 A5 A6 c0 c4 c5 c6 (w := wc) (by rw [hx]; exact hC0_.2) (by rw [hx]; exact hC0_.1) (by rw [hx]; exact hC4_.2) (by rw [hx]; exact hC4_.1) (by rw [hx]; exact hC5_.2) (by rw [hx]; exact hC5_.1) (by rw [hx]; exact hC6_.2) (by rw [hx]; exact hC6_.1) hsm
  rw [hoe, hx] at hq
  have HQQ := mk_ hq
  have HX := mk_ hx
  have kx := aC HS7.out.s3.blk
  clear hq hC0_ hC4_ hC5_ hC6_ hu hf hob hoe hsm hxs Hhsn Hhsmall hx
  go_upto_region 23 with (go_at_call 13; go_loud (refine HQQ.out.mono ?_; rintro e W8 ⟨vo, rfl, h_⟩; have n_ := Sp.frame (X := [_]) HS7.out h_; simp only [List.cons_append, List.nil_append] at n_; obtain ⟨Ao, co, rfl, _, _⟩ := n_.row; have HS8 := mk_ n_; clear n_ h_ HS7 kx))
  go_cut [142] (fun v142 wd => v142 = .bool f ∧ Aside0 (Sp wd [Row (Kd.int .u8) 5 (.slice Ao ob.length co) ob, Row k54 54 (.slice A6 xs5.length c6) (xs5), RdP 73 (w.heap.size + 1) A l.length c ((at5, bad5)), Old w, Blk gs (.cells #[(.slice A0 q1.1.length c0), .int .i64 q2.1.f0, .int .i64 q2.1.f1, .int .i64 q2.1.f2, (.slice A4 q3.1.length c4), (.slice A5 q4.1.length c5), (.slice A6 xs5.length c6)] 31 (0, 0)), Row (Kd.slice 3 (Kd.int .i64)) 24 (.slice A5 q4.1.length c5) q4.1, Row (Kd.slice 80 k80) 77 (.slice A4 q3.1.length c4) q3.1, Row (Kd.int .i64) 3 (.slice A0 q1.1.length c0) q1.1, Blk w.heap.size (.cells #[.slice none 0 0, .int .i64 0, .int .i64 0, .int .i64 0, .slice none 0 0, .slice none 0 0, .slice none 0 0] 31 (0, 0))]))
  case first =>
   have k1 : W8.cell? ⟨(w.heap.size + 1), 1, none⟩ = some (.int .i64 at5) := aC HS8.out.s2.blk 1
   have k2 : W8.cell? ⟨(w.heap.size + 1), 2, none⟩ = some (.bool bad5) := aC HS8.out.s2.blk 2
   cases bad5 with
   | true =>
    have hf := HF.out
    rw [decide_eq_true (.inl rfl)] at hf
    subst hf
    go_wp2
    go_meet
    case rel => exact ⟨rfl, HS8⟩
   | false =>
    by_cases ha : at5 = l.length
    rotate_left
    ·
     have hn1 : (at5 != (l.length : Int)) = true := bne_iff_ne.2 ha
     have hf := HF.out
     rw [decide_eq_true (.inr (.inl ha))] at hf
     subst hf
     go_wp2
     go_meet
     case rel => exact ⟨rfl, HS8⟩
    have hn1 : (at5 != (l.length : Int)) = false := bne_eq_false_iff_eq.2 ha
    by_cases he : oe = 0
    rotate_left
    ·
     have hn2 : (oe != 0) = true := bne_iff_ne.2 he
     have hf := HF.out
     rw [decide_eq_true (.inr (.inr (.inl he)))] at hf
     subst hf
     go_wp2
     go_meet
     case rel => exact ⟨rfl, HS8⟩
    have hn2 : (oe != 0) = false := bne_eq_false_iff_eq.2 he
    have HB := mk_ (HOB.out he)
    have HCo := mk_ (row_C HS8.out).2
    have hf := HF.out
    rw [show decide (false = true ∨ at5 ≠ l.length ∨ oe ≠ 0 ∨ ob ≠ l) = !decide (ob = l) from by by_cases h : ob = l <;> simp [ha, he, h]] at hf
    obtain ⟨eq, heq⟩ : ∃ q, decide (ob = l) = q := ⟨_, rfl⟩
    have HEQ := mk_ ((equal_f HB.out Hhb.out).trans (congrArg some heq))
    rw [heq] at hf
    clear ha he heq
    cases eq
    all_goals
     subst hf
     go_wp2_with (go_at_call 33; go_loud (refine (PAll.bytes_Equal.calls Ao co ob A c l _ _ HCo.out.2 HCo.out.1 (Hhcl.out _ HS8.out.s3.old) Hhlc.out HEQ.out).mono ?_; rintro e W9 ⟨rfl, hdr⟩; have HS9 := mk_ (HS8.out.below hdr.below); clear HS8 k1 k2))
     go_meet
     case rel => exact ⟨rfl, HS9⟩
  case rest =>
  obtain ⟨rfl, HS9⟩ := hcut
  have HT := mk_ (HS9.out.tail.s7)
  have kx := aC HS9.out.s4.blk
  cases f with
  | true =>
   go_wp2_with (((with_reducible refine dJ (ty := 31) (x := .tmp 2) (y := .tmp 143) rfl ?_); go_loud (refine wpList_store_row rfl 31 (.tmp 2) (.tmp 143) rfl w.heap.size #[.slice none 0 0, .int .i64 0, .int .i64 0, .int .i64 0, .slice none 0 0, .slice none 0 0, .slice none 0 0] rfl rfl 31 #[.slice none 0 0, .int .i64 0, .int .i64 0, .int .i64 0, .slice none 0 0, .slice none 0 0, .slice none 0 0] HT.out.blk z1_ rfl z7_ ?_)))
   refine bodyPost_ret (jR rfl _ _ w.heap.size 31 #[.slice none 0 0, .int .i64 0, .int .i64 0, .int .i64 0, .slice none 0 0, .slice none 0 0, .slice none 0 0] (0, 0) _ rfl (bG HT.out _).blk Try.underlying31 rfl z1_) rfl ?_
   rw [HU.out, if_pos trivial]
   exact ⟨_, _, _, _, rfl, dG (dG (dG (dG (bG HT.out #[.slice none 0 0, .int .i64 0, .int .i64 0, .int .i64 0, .slice none 0 0, .slice none 0 0, .slice none 0 0]).s3.only)))⟩
  | false =>
   go_wp2_with (((with_reducible refine dJ (ty := 31) (x := .tmp 2) (y := .tmp 144) rfl ?_); go_loud (refine wpList_store_row rfl 31 (.tmp 2) (.tmp 144) rfl w.heap.size #[(.slice A0 q1.1.length c0), .int .i64 q2.1.f0, .int .i64 q2.1.f1, .int .i64 q2.1.f2, (.slice A4 q3.1.length c4), (.slice A5 q4.1.length c5), (.slice A6 xs5.length c6)] rfl rfl 31 #[.slice none 0 0, .int .i64 0, .int .i64 0, .int .i64 0, .slice none 0 0, .slice none 0 0, .slice none 0 0] HT.out.blk z1_ rfl z7_ ?_)))
   refine bodyPost_ret (jR rfl _ _ w.heap.size 31 #[(.slice A0 q1.1.length c0), .int .i64 q2.1.f0, .int .i64 q2.1.f1, .int .i64 q2.1.f2, (.slice A4 q3.1.length c4), (.slice A5 q4.1.length c5), (.slice A6 xs5.length c6)] (0, 0) _ rfl (bG HT.out _).blk Try.underlying31 rfl z1_) rfl ?_
   rw [HU.out, if_neg (by first | decide | simp), HX.out]
   exact ⟨_, _, _, _, rfl, Sp.front (ps := [_, _, _, _, _]) (bG HT.out #[(.slice A0 q1.1.length c0), .int .i64 q2.1.f0, .int .i64 q2.1.f1, .int .i64 q2.1.f2, (.slice A4 q3.1.length c4), (.slice A5 q4.1.length c5), (.slice A6 xs5.length c6)]).tail.s2.s1.s4.s5.s6⟩
end
end Go.Proofs.Ytcbfliajgopdaaa.Snaps
end
section
namespace Go.Proofs.Ytcbfliajgopdaaa.Logs
open Go.RowKit PAll Plain Ops PrintWords PrintLast PrintMore Pads ZipT PrintWords.Kd PrintMore.Kd
set_option linter.unusedVariables false
set_option linter.unusedSimpArgs false
def recOf : List Int → Option Ox
 | [] => none
 | c :: b => if c = 1 then (if (sOpRead b 0).2.2 = 0 ∧ (sOpRead b 0).2.1 = b.length then some (sOpRead b 0).1 else none) else none
def opsOf : List Sl → List Ox
 | [] => []
 | s :: r => if s.2 = true then [] else match recOf s.1 with | none => [] | some x => x :: opsOf r
def recB (x : Ox) : List Int := 1 :: opB x
def slotOf (x : Ox) : Sl := (recB x, false)
def opened (p : Pd) : Pd := { p with slots := p.slots.take (opsOf p.slots).length, safe := (opsOf p.slots).length }
theorem recOf_back {x : Ox} (h : opFit x) : recOf (recB x) = some x := by
 show (if (1 : Int) = 1 then (if (sOpRead (opB x) 0).2.2 = 0 ∧ (sOpRead (opB x) 0).2.1 = (opB x).length then some (sOpRead (opB x) 0).1 else none) else none) = _
 rw [read_back h, if_pos rfl, if_pos ⟨rfl, rfl⟩]
theorem opsOf_app : ∀ (l : List Ox) (r : List Sl), (∀ x ∈ l, opFit x) → opsOf (l.map slotOf ++ r) = l ++ opsOf r
 | [], r, _ => rfl
 | x :: l, r, h => by
  rw [List.map_cons, List.cons_append]
  show (if (slotOf x).2 = true then [] else match recOf (slotOf x).1 with | none => [] | some y => y :: opsOf (l.map slotOf ++ r)) = _
  rw [if_neg (by simp [slotOf]), show (slotOf x).1 = recB x from rfl, recOf_back (h x List.mem_cons_self)]
  simp only [List.cons_append]
  rw [opsOf_app l r (fun y hy => h y (List.mem_cons_of_mem _ hy))]
theorem iX : ∀ l : List Sl, (opsOf l).length ≤ l.length
 | [] => Nat.le_refl _
 | s :: r => by
  unfold opsOf
  split
  ·
   simp
  ·
   split
   ·
    simp
   ·
    rw [List.length_cons, List.length_cons]; have := iX r; omega
theorem opsOf_at : ∀ (l : List Sl) (i : Nat) (s : Sl), l[i]? = some s → (i < (opsOf l).length → s.2 = false ∧ ∃ x, recOf s.1 = some x ∧ (opsOf l)[i]? = some x) ∧ (i = (opsOf l).length → s.2 = true ∨ recOf s.1 = none)
 | [], i, s, h => by simp at h
 | a :: r, i, s, h => by
  by_cases ha : a.2 = true
  ·
   have e : opsOf (a :: r) = [] := by show (if a.2 = true then [] else match recOf a.1 with | none => [] | some x => x :: opsOf r) = []; rw [if_pos ha]
   rw [e]
   refine ⟨fun h => absurd h (by simp), fun hi => ?_⟩
   have hi0 : i = 0 := hi
   subst hi0
   simp only [List.getElem?_cons_zero, Option.some.injEq] at h
   subst h
   exact .inl ha
  ·
   rcases hr : recOf a.1 with _ | x
   ·
    have e : opsOf (a :: r) = [] := by show (if a.2 = true then [] else match recOf a.1 with | none => [] | some x => x :: opsOf r) = []; rw [if_neg ha, hr]
    rw [e]
    refine ⟨fun h => absurd h (by simp), fun hi => ?_⟩
    have hi0 : i = 0 := hi
    subst hi0
    simp only [List.getElem?_cons_zero, Option.some.injEq] at h
    subst h
    exact .inr hr
   ·
    have e : opsOf (a :: r) = x :: opsOf r := by show (if a.2 = true then [] else match recOf a.1 with | none => [] | some x => x :: opsOf r) = _; rw [if_neg ha, hr]
    rw [e]
    cases i with
    | zero =>
     simp only [List.getElem?_cons_zero, Option.some.injEq] at h
     subst h
     exact ⟨fun _ => ⟨by simpa using ha, x, hr, rfl⟩, fun h => absurd h (by simp)⟩
    | succ i =>
     simp only [List.getElem?_cons_succ] at h
     obtain ⟨h1, h2⟩ := opsOf_at r i s h
     exact ⟨fun hi => h1 (by simpa using hi), fun hi => h2 (by simpa using hi)⟩
theorem read_good {p : Pd} (hoff : p.off = false) {i : Nat} (hi : i < (opsOf p.slots).length) : ∃ b x, p.read (i : Int) = (b, 0) ∧ recOf b = some x ∧ (opsOf p.slots)[i]? = some x ∧ ∃ s ∈ p.slots, s.1 = b := by
 have hl : i < p.slots.length := Nat.lt_of_lt_of_le hi (iX _)
 obtain ⟨h1, _⟩ := opsOf_at p.slots i _ (List.getElem?_eq_getElem hl)
 obtain ⟨h2, x, h3, h4⟩ := h1 hi
 refine ⟨(p.slots[i]).1, x, ?_, h3, h4, _, List.getElem_mem hl, rfl⟩
 unfold Pd.read
 rw [if_neg (by simp [hoff]), if_neg z2_, Int.toNat_natCast, List.getD_eq_getElem?_getD, List.getElem?_eq_getElem hl, Option.getD_some, if_neg (by rw [h2]; decide)]
theorem read_bad {p : Pd} (hoff : p.off = false) {i : Nat} (hi : i = (opsOf p.slots).length) (hl : i < p.slots.length) : ∃ b x, p.read (i : Int) = (b, x) ∧ recOf b = none ∧ (b = [] ∨ ∃ s ∈ p.slots, s.1 = b) := by
 obtain ⟨_, h1⟩ := opsOf_at p.slots i _ (List.getElem?_eq_getElem hl)
 unfold Pd.read
 rw [if_neg (by simp [hoff]), if_neg z2_, Int.toNat_natCast, List.getD_eq_getElem?_getD, List.getElem?_eq_getElem hl, Option.getD_some]
 by_cases h : (p.slots[i]).2 = true
 ·
  rw [if_pos h]; exact ⟨[], 13, rfl, rfl, .inl rfl⟩
 rw [if_neg h]
 exact ⟨_, 0, rfl, (h1 hi).resolve_left h, .inr ⟨_, List.getElem_mem hl, rfl⟩⟩
theorem cut_none {p : Pd} (hoff : p.off = false) (harm : p.arm = none) {i : Nat} (hi : i ≤ p.slots.length) : p.cut (i : Int) = ({ p with slots := p.slots.take i, safe := min p.safe i }, 0) := by
 unfold Pd.cut
 rw [if_neg (by simp [hoff]), if_neg z2_, Pd.spend_none harm, if_pos rfl, Int.toNat_natCast]
theorem sync_none {p : Pd} (hoff : p.off = false) (harm : p.arm = none) : p.sync = ({ p with safe := p.slots.length }, 0) := by
 unfold Pd.sync
 rw [if_neg (by simp [hoff]), Pd.spend_none harm, if_pos rfl]
def cutP (p : Pd) : Pd := { p with slots := p.slots.take (opsOf p.slots).length, safe := min p.safe (opsOf p.slots).length }
theorem cutP_ok {p : Pd} (h : p.Ok) (harm : p.arm = none) : (cutP p).Ok := by
 have h1 := iX p.slots
 have h2 := h.len
 have h3 := h.safe
 refine ⟨?_, ?_, fun n k t e => ?_, fun s hs => h.bytes s (List.mem_of_mem_take hs)⟩
 ·
  show min p.safe _ ≤ (p.slots.take _).length
  rw [List.length_take]; omega
 ·
  show (p.slots.take _).length ≤ 4000
  rw [List.length_take]; omega
 ·
  have e' : p.arm = some (n, k, t) := e
  rw [harm] at e'; cases e'
theorem sync_cut {p : Pd} (hoff : p.off = false) (harm : p.arm = none) : (cutP p).sync = (opened p, 0) := by
 rw [sync_none (p := cutP p) hoff harm]
 show (({ p with slots := p.slots.take (opsOf p.slots).length, safe := (p.slots.take (opsOf p.slots).length).length } : Pd), (0 : Int)) = _
 rw [List.length_take, Nat.min_eq_left (iX _)]
 rfl
theorem sync_all {p : Pd} (hoff : p.off = false) (harm : p.arm = none) (h : (opsOf p.slots).length = p.slots.length) : p.sync = (opened p, 0) := by
 rw [sync_none hoff harm]
 unfold opened
 rw [h, List.take_length]
def padOf (l : List Ox) (s : Nat) (life : Int) : Pd := ⟨l.map slotOf, s, false, life, none⟩
def noSnap (l : List Sl) : Prop := ∀ s ∈ l, s.1.head? ≠ some 2
theorem noSnap_ops (l : List Ox) : noSnap (l.map slotOf) := by
 intro s hs
 obtain ⟨x, _, rfl⟩ := List.mem_map.1 hs
 simp [slotOf, recB]
theorem kF (keep : List Bool) (torn : Int) : ∀ (l : List Sl) (j : Nat), noSnap l → noSnap (spoil keep torn j l)
 | [], _, _ => by simp [spoil, noSnap]
 | s :: r, j, h => by
  intro x hx
  unfold spoil at hx
  rcases List.mem_cons.1 hx with e | e
  ·
   subst e
   split
   ·
    simp
   ·
    exact h s List.mem_cons_self
  ·
   exact kF keep torn r (j + 1) (fun y hy => h y (List.mem_cons_of_mem _ hy)) x e
end Go.Proofs.Ytcbfliajgopdaaa.Logs
end
section
namespace Go.Proofs.Ytcbfliajgopdaaa.Logs
open Go.RowKit PAll Plain Ops PrintWords PrintLast PrintMore Pads Go.Proofs.Ytcbfliajgopdaaa.Sep ZipT PrintWords.Kd PrintMore.Kd
set_option linter.unusedVariables false
set_option linter.unusedSimpArgs false
section
variable {w : World} {F : List Part}
theorem _root_.Go.Proofs.Ytcbfliajgopdaaa.Sep.Sp.join3 {a b c q : Part} (h : Sp w (a :: b :: c :: F)) (f : ∀ ok, a.P w ok → b.P w ok → c.P w ok → q.P w ok) : Sp w (q :: F) := by
 obtain ⟨o1, h1, ha, o2, h2, hb, o3, h3, hc, hF⟩ := h
 refine ⟨fun k => o1 k ∨ o2 k ∨ o3 k, fun k hk => ?_, f _ (a.mono ha (fun k _ hk => .inl hk)) (b.mono hb (fun k _ hk => .inr (.inl hk))) (c.mono hc (fun k _ hk => .inr (.inr hk))), hF.wide (fun k hk => ⟨hk.1.1.1, fun e => ?_⟩)⟩
 ·
  rcases hk with e | e | e
  ·
   exact h1 k e
  ·
   exact (h2 k e).1
  ·
   exact (h3 k e).1.1
 ·
  rcases e with e | e | e
  ·
   exact hk.1.1.2 e
  ·
   exact hk.1.2 e
  ·
   exact hk.2 e
abbrev put12 (w : World) (g : Nat) (u0 u1 u2 u3 u4 u5 u6 u7 u8 u9 u10 u11 : Value) : World := ((((((((((((w.setCell ⟨g, 0, none⟩ u0).setCell ⟨g, 1, none⟩ u1).setCell ⟨g, 2, none⟩ u2).setCell ⟨g, 3, none⟩ u3).setCell ⟨g, 4, none⟩ u4).setCell ⟨g, 5, none⟩ u5).setCell ⟨g, 6, none⟩ u6).setCell ⟨g, 7, none⟩ u7).setCell ⟨g, 8, none⟩ u8).setCell ⟨g, 9, none⟩ u9).setCell ⟨g, 10, none⟩ u10).setCell ⟨g, 11, none⟩ u11)
theorem _root_.Go.Proofs.Ytcbfliajgopdaaa.Sep.Sp.put12 {w : World} {F : List Part} {g : Nat} {t : TypeId} {fz : Nat × Nat} {c0 c1 c2 c3 c4 c5 c6 c7 c8 c9 c10 c11 : Value} (h : Sp w (Blk g (.cells #[c0, c1, c2, c3, c4, c5, c6, c7, c8, c9, c10, c11] t fz) :: F)) (u0 u1 u2 u3 u4 u5 u6 u7 u8 u9 u10 u11 : Value) :
  Sp (put12 w g u0 u1 u2 u3 u4 u5 u6 u7 u8 u9 u10 u11) (Blk g (.cells #[u0, u1, u2, u3, u4, u5, u6, u7, u8, u9, u10, u11] t fz) :: F) := by
 replace h : Sp _ (Blk g (.cells #[u0, c1, c2, c3, c4, c5, c6, c7, c8, c9, c10, c11] t fz) :: F) := h.store 0 u0
 replace h : Sp _ (Blk g (.cells #[u0, u1, c2, c3, c4, c5, c6, c7, c8, c9, c10, c11] t fz) :: F) := h.store 1 u1
 replace h : Sp _ (Blk g (.cells #[u0, u1, u2, c3, c4, c5, c6, c7, c8, c9, c10, c11] t fz) :: F) := h.store 2 u2
 replace h : Sp _ (Blk g (.cells #[u0, u1, u2, u3, c4, c5, c6, c7, c8, c9, c10, c11] t fz) :: F) := h.store 3 u3
 replace h : Sp _ (Blk g (.cells #[u0, u1, u2, u3, u4, c5, c6, c7, c8, c9, c10, c11] t fz) :: F) := h.store 4 u4
 replace h : Sp _ (Blk g (.cells #[u0, u1, u2, u3, u4, u5, c6, c7, c8, c9, c10, c11] t fz) :: F) := h.store 5 u5
 replace h : Sp _ (Blk g (.cells #[u0, u1, u2, u3, u4, u5, u6, c7, c8, c9, c10, c11] t fz) :: F) := h.store 6 u6
 replace h : Sp _ (Blk g (.cells #[u0, u1, u2, u3, u4, u5, u6, u7, c8, c9, c10, c11] t fz) :: F) := h.store 7 u7
 replace h : Sp _ (Blk g (.cells #[u0, u1, u2, u3, u4, u5, u6, u7, u8, c9, c10, c11] t fz) :: F) := h.store 8 u8
 replace h : Sp _ (Blk g (.cells #[u0, u1, u2, u3, u4, u5, u6, u7, u8, u9, c10, c11] t fz) :: F) := h.store 9 u9
 replace h : Sp _ (Blk g (.cells #[u0, u1, u2, u3, u4, u5, u6, u7, u8, u9, u10, c11] t fz) :: F) := h.store 10 u10
 replace h : Sp _ (Blk g (.cells #[u0, u1, u2, u3, u4, u5, u6, u7, u8, u9, u10, u11] t fz) :: F) := h.store 11 u11
 exact h
abbrev put7 (w : World) (g : Nat) (u0 u1 u2 u3 u4 u5 u6 : Value) : World := (((((((w.setCell ⟨g, 0, none⟩ u0).setCell ⟨g, 1, none⟩ u1).setCell ⟨g, 2, none⟩ u2).setCell ⟨g, 3, none⟩ u3).setCell ⟨g, 4, none⟩ u4).setCell ⟨g, 5, none⟩ u5).setCell ⟨g, 6, none⟩ u6)
theorem _root_.Go.Proofs.Ytcbfliajgopdaaa.Sep.Sp.put7 {w : World} {F : List Part} {g : Nat} {t : TypeId} {fz : Nat × Nat} {c0 c1 c2 c3 c4 c5 c6 : Value} (h : Sp w (Blk g (.cells #[c0, c1, c2, c3, c4, c5, c6] t fz) :: F)) (u0 u1 u2 u3 u4 u5 u6 : Value) :
  Sp (put7 w g u0 u1 u2 u3 u4 u5 u6) (Blk g (.cells #[u0, u1, u2, u3, u4, u5, u6] t fz) :: F) := by
 replace h : Sp _ (Blk g (.cells #[u0, c1, c2, c3, c4, c5, c6] t fz) :: F) := h.store 0 u0
 replace h : Sp _ (Blk g (.cells #[u0, u1, c2, c3, c4, c5, c6] t fz) :: F) := h.store 1 u1
 replace h : Sp _ (Blk g (.cells #[u0, u1, u2, c3, c4, c5, c6] t fz) :: F) := h.store 2 u2
 replace h : Sp _ (Blk g (.cells #[u0, u1, u2, u3, c4, c5, c6] t fz) :: F) := h.store 3 u3
 replace h : Sp _ (Blk g (.cells #[u0, u1, u2, u3, u4, c5, c6] t fz) :: F) := h.store 4 u4
 replace h : Sp _ (Blk g (.cells #[u0, u1, u2, u3, u4, u5, c6] t fz) :: F) := h.store 5 u5
 replace h : Sp _ (Blk g (.cells #[u0, u1, u2, u3, u4, u5, u6] t fz) :: F) := h.store 6 u6
 exact h
theorem _root_.Go.Proofs.Ytcbfliajgopdaaa.Sep.Sp.boxed {w w1 : World} {F : List Part} (h : Sp w F) {g : Nat} {o : Obj} (hg : g = w.heap.size) (hb : w1.heap[g]? = some o) (hw : Below w.heap.size w w1) : Sp w1 (Blk g o :: F) :=
 h.new (a := Blk g o) hw ⟨⟨by omega, (Array.getElem?_eq_some_iff.1 hb).1⟩, hb⟩
theorem fF {P : Program} {fn : Func} {t p q : Tmp} {ty tz : TypeId} (h : fn.results = #[.tmp t, .cell p ty, .cell q tz]) (tmps : Array Value) (w : World) (g : Nat) (t1 : TypeId) (cs : Array Value) (fr : Nat × Nat) (d : TypeDesc)
  (hp : tmps.getD p undef = .pointer (some ⟨g, 0, none⟩)) (hg : w.heap[g]? = some (.cells cs t1 fr)) (hu : P.underlying ty = some d) (hd : (match d with | .struct _ | .array _ _ => true | _ => false) = true) (hi : (P.info? ty).map (·.size) = some cs.size)
  (g2 : Nat) (t2 : TypeId) (cs2 : Array Value) (fr2 : Nat × Nat) (d2 : TypeDesc)
  (hq : tmps.getD q undef = .pointer (some ⟨g2, 0, none⟩)) (hg2 : w.heap[g2]? = some (.cells cs2 t2 fr2)) (hu2 : P.underlying tz = some d2) (hd2 : (match d2 with | .struct _ | .array _ _ => true | _ => false) = true) (hi2 : (P.info? tz).map (·.size) = some cs2.size) :
  (results fn tmps).run P w = .ok (.tuple #[tmps.getD t undef, .agg cs, .agg cs2]) w := by
 have hp' : tmps[p]?.getD undef = .pointer (some ⟨g, 0, none⟩) := by simpa using hp
 have hq' : tmps[q]?.getD undef = .pointer (some ⟨g2, 0, none⟩) := by simpa using hq
 simp [results, h, hp', hq', asAddr, run_loadVar_row w g t1 ty cs fr d hg hu hd hi, run_loadVar_row w g2 t2 tz cs2 fr2 d2 hg2 hu2 hd2 hi2, Sem.run_bind, Result.andThen]
theorem kD {P : Program} {fn : Func} {t p u v : Tmp} {ty : TypeId} (h : fn.results = #[.tmp t, .cell p ty, .tmp u, .tmp v]) (tmps : Array Value) (w : World) (g : Nat) (t1 : TypeId) (cs : Array Value) (fr : Nat × Nat) (d : TypeDesc)
  (hp : tmps.getD p undef = .pointer (some ⟨g, 0, none⟩)) (hg : w.heap[g]? = some (.cells cs t1 fr)) (hu : P.underlying ty = some d) (hd : (match d with | .struct _ | .array _ _ => true | _ => false) = true) (hi : (P.info? ty).map (·.size) = some cs.size) :
  (results fn tmps).run P w = .ok (.tuple #[tmps.getD t undef, .agg cs, tmps.getD u undef, tmps.getD v undef]) w := by
 have hp' : tmps[p]?.getD undef = .pointer (some ⟨g, 0, none⟩) := by simpa using hp
 simp [results, h, hp', asAddr, run_loadVar_row w g t1 ty cs fr d hg hu hd hi, Sem.run_bind, Result.andThen]
def opC (x : Ox) (v2 v10 v11 : Value) : List Value := [.int .i64 x.f0.f0, .int .i64 x.f0.f1, v2, .int .i64 x.f2.f0, .int .i64 x.f2.f1, .int .i64 x.f2.f2, .int .i64 x.f3, .int .i64 x.f4, .string x.f5, .int .i64 x.f6, v10, v11]
def snap0 : List Value := [.slice none 0 0, .int .i64 0, .int .i64 0, .int .i64 0, .slice none 0 0, .slice none 0 0, .slice none 0 0]
theorem op_el {x : Ox} {v2 v10 v11 : Value} (h : Sp w (Row (Kd.int .i64) 3 v2 x.f1 :: Row k89 89 v10 x.f7 :: Row k50 50 v11 x.f8 :: F)) :
  Sp w (El k54 x (opC x v2 v10 v11) :: F) :=
 Sp.join3 h (fun ok ha hb hc => k54_mkM w 0 ok x ha hb hc)
theorem record_some (A : Option Addr) (c : Nat) (b : List Int) (hbc : b.length ≤ c) (hC : Kd.C (Kd.int .u8) w A b.length b) (hB : Bytes b) (hl : b.length ≤ 1000000) (x : Ox) (hx : recOf b = some x) :
  Calls Try.prog 64 #[.slice A b.length c] w fun e w' => ∃ v2 v10 v11, e = .returned (.tuple #[.int .i64 1, .agg (opC x v2 v10 v11).toArray, .agg snap0.toArray]) ∧
   Sp w' [Row (Kd.int .i64) 3 v2 x.f1, Row k89 89 v10 x.f7, Row k50 50 v11 x.f8, Old w] := by
 obtain ⟨r, rfl⟩ : ∃ r, b = 1 :: r := by
  cases b with
  | nil => cases hx
  | cons z r =>
   have h1 : (if z = 1 then (if (sOpRead r 0).2.2 = 0 ∧ (sOpRead r 0).2.1 = r.length then some (sOpRead r 0).1 else none) else none) = some x := hx
   by_cases hz : z = 1
   ·
    exact ⟨r, by rw [hz]⟩
   ·
    rw [if_neg hz] at h1; cases h1
 have h1 : (if (sOpRead r 0).2.2 = 0 ∧ (sOpRead r 0).2.1 = r.length then some (sOpRead r 0).1 else none) = some x := by
  have : (if (1 : Int) = 1 then (if (sOpRead r 0).2.2 = 0 ∧ (sOpRead r 0).2.1 = r.length then some (sOpRead r 0).1 else none) else none) = some x := hx
  rwa [if_pos rfl] at this
 obtain ⟨h2, h3⟩ : (sOpRead r 0).2.2 = 0 ∧ (sOpRead r 0).2.1 = r.length := by
  by_cases h : (sOpRead r 0).2.2 = 0 ∧ (sOpRead r 0).2.1 = r.length
  ·
   exact h
  ·
   rw [if_neg h] at h1; cases h1
 rw [if_pos ⟨h2, h3⟩] at h1
 have hxr := Option.some.inj h1
 clear h1 hx
 have hBr : Bytes r := fun z hz => hB z (List.mem_cons_of_mem _ hz)
 have hlr : r.length ≤ 1000000 := by rw [List.length_cons] at hl; omega
 have hlen : (1 :: r).length = r.length + 1 := List.length_cons
 have hCr := C_drop (m := 1) hC (by rw [hlen]; omega) hbc
 obtain ⟨ad, e, hx0⟩ := Kd.at_int hC 0 z2_ (by rw [hlen]; omega)
 cases e
 rw [show ((0 : Int)).toNat = 0 from rfl, Addr.add_zero', show rd (1 :: r) 0 = 1 from rfl] at hx0
 rw [hlen] at hbc ⊢
 have hk1 : (((r.length + 1 : Nat) : Int) == 0) = false := beq_eq_false_iff_ne.mpr z2_
 have hk2 : decide (0 < r.length + 1) = true := decide_eq_true z2_
 have hk3 : decide (1 ≤ r.length + 1) = true := decide_eq_true z2_
 have h1 := (Sp.start w).box (.cells #[.int .i64 0, .int .i64 0, .slice none 0 0, .int .i64 0, .int .i64 0, .int .i64 0, .int .i64 0, .int .i64 0, .string ⟨#[]⟩, .int .i64 0, .slice none 0 0, .slice none 0 0] 54 (0, 0))
 have h4 := h1.box (.cells #[.slice none 0 0, .int .i64 0, .int .i64 0, .int .i64 0, .slice none 0 0, .slice none 0 0, .slice none 0 0] 31 (0, 0))
 rw [show (w.alloc (.cells #[.int .i64 0, .int .i64 0, .slice none 0 0, .int .i64 0, .int .i64 0, .int .i64 0, .int .i64 0, .int .i64 0, .string ⟨#[]⟩, .int .i64 0, .slice none 0 0, .slice none 0 0] 54 (0, 0))).heap.size = w.heap.size + 1 from Array.size_push _] at h4
 have hx1 := ((Sp.old h4.s2).cell (World.block_lt_of_cell? _ _ hx0)).trans hx0
 have HS := mk_ h4
 clear h1 h4
 have HC := mk_ hCr
 clear hC hCr
 by_cases hc : c = 1
 ·
  have hr : r = [] := List.eq_nil_of_length_eq_zero z2_
  subst hr
  exact absurd h2 (by decide +kernel)
 have hc1 := eq_false hc
 simp only [hc1, if_false, Option.map_some, List.drop_succ_cons, List.drop_zero] at HC
 go_enter Try.func64, Try.ntmps64
 go_wp2_with (first
  | ((with_reducible refine aT (f := 93) rfl ?_); go_loud (refine Short.gL (some 26) Try.func93 #[.slice (some ⟨ad.block, ad.off + 1, none⟩) r.length (c - 1), .int .i64 0] (h := ?_); have q_ := read_sp (A := some ⟨ad.block, ad.off + 1, none⟩) (c := c - 1) (aV HC.out (Sp.old HS.out.s2)) z2_ hBr hlr 0; rw [h2, h3, hxr] at q_; refine q_.mono ?_; clear q_; rintro e W3 ⟨v2, v10, v11, rfl, h_⟩; refine ⟨_, rfl, ?_⟩; have n_ := Sp.frame (X := [_, _, _]) HS.out h_; simp only [List.cons_append, List.nil_append] at n_; obtain ⟨A2, c2, rfl, _, _⟩ := n_.row; obtain ⟨A10, c10, rfl, _, _⟩ := n_.s1.row; obtain ⟨A11, c11, rfl, _, _⟩ := n_.s2.row; clear HS h_; have HS := mk_ n_; clear n_))
  | ((with_reducible refine bP (N := 6) rfl ?_); go_loud (refine bL ?hg (N := 6) ?hd (cs := #[.int .i64 0, .int .i64 0, .slice none 0 0, .int .i64 0, .int .i64 0, .int .i64 0, .int .i64 0, .int .i64 0, .string ⟨#[]⟩, .int .i64 0, .slice none 0 0, .slice none 0 0]) (t := 54) ?hr ?_; (case hd => rfl); (case hg => rfl); (case hr => first | (go_simp; done) | (go_simp; rfl)); intro g6 hg W6 hbox hb; have h_ := HS.out.boxed hg hbox hb; clear hbox hb hg; clear HS; have HS := mk_ h_; clear h_; have k6 := aC HS.out.blk; have kf6 := aH HS.out.blk))
  | ((with_reducible refine cN (t := 54) (p := 6) rfl ?_); go_loud (refine cF (t := 54) (p := 6) (v := ?vo) (w1 := put12 W6 g6 (.int .i64 x.f0.f0) (.int .i64 x.f0.f1) (.slice A2 x.f1.length c2) (.int .i64 x.f2.f0) (.int .i64 x.f2.f1) (.int .i64 x.f2.f2) (.int .i64 x.f3) (.int .i64 x.f4) (.string x.f5) (.int .i64 x.f6) (.slice A10 x.f7.length c10) (.slice A11 x.f8.length c11)) ?hg ?ho ?hn ?hr ?_; (case ho => rfl); (case hg => rfl); (case hn => rfl); (case hr => first | (go_simp; done) | (go_simp; rfl)); intro W7 hw; have h_ := HS.out.put12 (.int .i64 x.f0.f0) (.int .i64 x.f0.f1) (.slice A2 x.f1.length c2) (.int .i64 x.f2.f0) (.int .i64 x.f2.f1) (.int .i64 x.f2.f2) (.int .i64 x.f3) (.int .i64 x.f4) (.string x.f5) (.int .i64 x.f6) (.slice A10 x.f7.length c10) (.slice A11 x.f8.length c11); rw [← hw] at h_; clear hw k6 kf6; clear HS; have HS := mk_ h_; clear h_; have k6 := aC HS.out.blk; have kf6 := aH HS.out.blk; have k4 := aC HS.out.s4.blk; have kf4 := aH HS.out.s4.blk; have k3 := aC HS.out.s5.blk; have kf3 := aH HS.out.s5.blk)))
 have h8 := ((HS.out.s5.put12 (.int .i64 x.f0.f0) (.int .i64 x.f0.f1) (.slice A2 x.f1.length c2) (.int .i64 x.f2.f0) (.int .i64 x.f2.f1) (.int .i64 x.f2.f2) (.int .i64 x.f3) (.int .i64 x.f4) (.string x.f5) (.int .i64 x.f6) (.slice A10 x.f7.length c10) (.slice A11 x.f8.length c11)).s5.put7 (.slice none 0 0) (.int .i64 0) (.int .i64 0) (.int .i64 0) (.slice none 0 0) (.slice none 0 0) (.slice none 0 0)).drew
 unfold put12 put7 at h8
 clear HS
 go_region
 clear k3 kf3 k4 kf4 k6 kf6
 revert h8
 generalize World.drew _ = W8
 intro h8
 have HS := mk_ h8
 clear h8
 go_wp2
 (try simp only [Exit.inBlock, Exit.then])
 refine bodyPost_ret (fF rfl _ _ w.heap.size 54 #[.int .i64 x.f0.f0, .int .i64 x.f0.f1, .slice A2 x.f1.length c2, .int .i64 x.f2.f0, .int .i64 x.f2.f1, .int .i64 x.f2.f2, .int .i64 x.f3, .int .i64 x.f4, .string x.f5, .int .i64 x.f6, .slice A10 x.f7.length c10, .slice A11 x.f8.length c11] (0, 0) _ rfl HS.out.s1.blk Try.underlying54 rfl z1_ (w.heap.size + 1) 31 #[.slice none 0 0, .int .i64 0, .int .i64 0, .int .i64 0, .slice none 0 0, .slice none 0 0, .slice none 0 0] (0, 0) _ rfl HS.out.blk Try.underlying31 rfl z1_) rfl ?_
 exact ⟨_, _, _, rfl, HS.out.tail.tail.tail⟩
def zop : List Value := [.int .i64 0, .int .i64 0, .slice none 0 0, .int .i64 0, .int .i64 0, .int .i64 0, .int .i64 0, .int .i64 0, .string ⟨#[]⟩, .int .i64 0, .slice none 0 0, .slice none 0 0]
theorem record_nil (A : Option Addr) (c : Nat) : Calls Try.prog 64 #[.slice A 0 c] w fun e w' => e = .returned (.tuple #[.int .i64 0, .agg zop.toArray, .agg snap0.toArray]) ∧ Below w.heap.size w w' := by
 have h1 := (Sp.start w).box (.cells #[.int .i64 0, .int .i64 0, .slice none 0 0, .int .i64 0, .int .i64 0, .int .i64 0, .int .i64 0, .int .i64 0, .string ⟨#[]⟩, .int .i64 0, .slice none 0 0, .slice none 0 0] 54 (0, 0))
 have h4 := h1.box (.cells #[.slice none 0 0, .int .i64 0, .int .i64 0, .int .i64 0, .slice none 0 0, .slice none 0 0, .slice none 0 0] 31 (0, 0))
 rw [show (w.alloc (.cells #[.int .i64 0, .int .i64 0, .slice none 0 0, .int .i64 0, .int .i64 0, .int .i64 0, .int .i64 0, .int .i64 0, .string ⟨#[]⟩, .int .i64 0, .slice none 0 0, .slice none 0 0] 54 (0, 0))).heap.size = w.heap.size + 1 from Array.size_push _] at h4
 go_enter Try.func64, Try.ntmps64
 go_upto_region 1 with (fail)
 have k4 := aC h4.blk
 have k3 := aC h4.s1.blk
 have kf4 := aH h4.blk
 have kf3 := aH h4.s1.blk
 have HS := mk_ h4
 clear h1 h4
 revert HS k4 k3 kf4 kf3
 generalize World.alloc (World.alloc w _) _ = W2
 intro k4 k3 kf4 kf3 HS
 go_wp2_with (first
  | ((with_reducible refine cN (t := 54) (p := 3) rfl ?_); go_loud (refine cF (t := 54) (p := 3) (v := ?vo3) (w1 := put12 W2 w.heap.size (.int .i64 0) (.int .i64 0) (.slice none 0 0) (.int .i64 0) (.int .i64 0) (.int .i64 0) (.int .i64 0) (.int .i64 0) (.string ⟨#[]⟩) (.int .i64 0) (.slice none 0 0) (.slice none 0 0)) ?hg ?ho ?hn ?hr ?_; (case ho => rfl); (case hg => rfl); (case hn => rfl); (case hr => first | (go_simp; done) | (go_simp; rfl)); intro W8 hw; have h_ := (HS.out.s1).put12 (.int .i64 0) (.int .i64 0) (.slice none 0 0) (.int .i64 0) (.int .i64 0) (.int .i64 0) (.int .i64 0) (.int .i64 0) (.string ⟨#[]⟩) (.int .i64 0) (.slice none 0 0) (.slice none 0 0); rw [← hw] at h_; clear hw k3 kf3 k4 kf4; clear HS; have HS := mk_ h_; clear h_; have k4 := aC HS.out.s1.blk; have kf4 := aH HS.out.s1.blk))
  | ((with_reducible refine cN (t := 31) (p := 4) rfl ?_); go_loud (refine cF (t := 31) (p := 4) (v := ?vo4) (w1 := put7 W8 (w.heap.size + 1) (.slice none 0 0) (.int .i64 0) (.int .i64 0) (.int .i64 0) (.slice none 0 0) (.slice none 0 0) (.slice none 0 0)) ?hg ?ho ?hn ?hr ?_; (case ho => rfl); (case hg => rfl); (case hn => rfl); (case hr => first | (go_simp; done) | (go_simp; rfl)); intro W9 hw; have h_ := (HS.out.s1).put7 (.slice none 0 0) (.int .i64 0) (.int .i64 0) (.int .i64 0) (.slice none 0 0) (.slice none 0 0) (.slice none 0 0); rw [← hw] at h_; clear hw k4 kf4; clear HS; have HS := mk_ h_; clear h_)))
 (try simp only [Exit.inBlock, Exit.then])
 refine bodyPost_ret (fF rfl _ _ w.heap.size 54 #[.int .i64 0, .int .i64 0, .slice none 0 0, .int .i64 0, .int .i64 0, .int .i64 0, .int .i64 0, .int .i64 0, .string ⟨#[]⟩, .int .i64 0, .slice none 0 0, .slice none 0 0] (0, 0) _ rfl HS.out.s1.blk Try.underlying54 rfl z1_ (w.heap.size + 1) 31 #[.slice none 0 0, .int .i64 0, .int .i64 0, .int .i64 0, .slice none 0 0, .slice none 0 0, .slice none 0 0] (0, 0) _ rfl HS.out.blk Try.underlying31 rfl z1_) rfl ?_
 exact ⟨rfl, Sp.old HS.out.tail.tail⟩
theorem record_other (A : Option Addr) (c : Nat) (z : Int) (r : List Int) (hbc : r.length + 1 ≤ c) (hC : Kd.C (Kd.int .u8) w A (z :: r).length (z :: r)) (hl : r.length ≤ 1000000) (hz : 0 ≤ z ∧ z < 256) (h1 : z ≠ 1) (h2 : z ≠ 2) :
    Calls Try.prog 64 #[.slice A (r.length + 1) c] w fun e w' => e = .returned (.tuple #[.int .i64 0, .agg zop.toArray, .agg snap0.toArray]) ∧ Below w.heap.size w w' := by
  have hlen : (z :: r).length = r.length + 1 := List.length_cons
  obtain ⟨ad, e, hx0⟩ := Kd.at_int hC 0 z2_ (by rw [hlen]; omega)
  cases e
  rw [show ((0 : Int)).toNat = 0 from rfl, Addr.add_zero', show rd (z :: r) 0 = z from rfl] at hx0
  have hk1 : (((r.length + 1 : Nat) : Int) == 0) = false := beq_eq_false_iff_ne.mpr z2_
  have hk2 : decide (0 < r.length + 1) = true := decide_eq_true z2_
  have hk3 : decide (1 ≤ r.length + 1) = true := decide_eq_true z2_
  have hk4 : (z == 1) = false := beq_eq_false_iff_ne.mpr h1
  have hk5 : (z == 2) = false := beq_eq_false_iff_ne.mpr h2
  have hk6 : IntKind.i64.wrap z = z := by rw [i64_w]; exact w64 z2_ z2_
  clear hC
  have h1' := (Sp.start w).box (.cells #[.int .i64 0, .int .i64 0, .slice none 0 0, .int .i64 0, .int .i64 0, .int .i64 0, .int .i64 0, .int .i64 0, .string ⟨#[]⟩, .int .i64 0, .slice none 0 0, .slice none 0 0] 54 (0, 0))
  have h4 := h1'.box (.cells #[.slice none 0 0, .int .i64 0, .int .i64 0, .int .i64 0, .slice none 0 0, .slice none 0 0, .slice none 0 0] 31 (0, 0))
  rw [show (w.alloc (.cells #[.int .i64 0, .int .i64 0, .slice none 0 0, .int .i64 0, .int .i64 0, .int .i64 0, .int .i64 0, .int .i64 0, .string ⟨#[]⟩, .int .i64 0, .slice none 0 0, .slice none 0 0] 54 (0, 0))).heap.size = w.heap.size + 1 from Array.size_push _] at h4
  have hx1 := ((Sp.old h4.s2).cell (World.block_lt_of_cell? _ _ hx0)).trans hx0
  go_enter Try.func64, Try.ntmps64
  go_upto_region 1 with (fail)
  have k4 := aC h4.blk
  have k3 := aC h4.s1.blk
  have kf4 := aH h4.blk
  have kf3 := aH h4.s1.blk
  have HS := mk_ h4
  clear h1' h4
  revert HS k4 k3 kf4 kf3 hx1
  generalize World.alloc (World.alloc w _) _ = W2
  intro hx1 k4 k3 kf4 kf3 HS
  go_wp2_with (first
    | ((with_reducible refine cN (t := 54) (p := 3) rfl ?_); go_loud (refine cF (t := 54) (p := 3) (v := ?vo3) (w1 := put12 W2 w.heap.size (.int .i64 0) (.int .i64 0) (.slice none 0 0) (.int .i64 0) (.int .i64 0) (.int .i64 0) (.int .i64 0) (.int .i64 0) (.string ⟨#[]⟩) (.int .i64 0) (.slice none 0 0) (.slice none 0 0)) ?hg ?ho ?hn ?hr ?_; (case ho => rfl); (case hg => rfl); (case hn => rfl); (case hr => first | (go_simp; done) | (go_simp; rfl)); intro W8 hw; have h_ := (HS.out.s1).put12 (.int .i64 0) (.int .i64 0) (.slice none 0 0) (.int .i64 0) (.int .i64 0) (.int .i64 0) (.int .i64 0) (.int .i64 0) (.string ⟨#[]⟩) (.int .i64 0) (.slice none 0 0) (.slice none 0 0); rw [← hw] at h_; clear hw k3 kf3 k4 kf4; clear HS; have HS := mk_ h_; clear h_; have k4 := aC HS.out.s1.blk; have kf4 := aH HS.out.s1.blk))
    | ((with_reducible refine cN (t := 31) (p := 4) rfl ?_); go_loud (refine cF (t := 31) (p := 4) (v := ?vo4) (w1 := put7 W8 (w.heap.size + 1) (.slice none 0 0) (.int .i64 0) (.int .i64 0) (.int .i64 0) (.slice none 0 0) (.slice none 0 0) (.slice none 0 0)) ?hg ?ho ?hn ?hr ?_; (case ho => rfl); (case hg => rfl); (case hn => rfl); (case hr => first | (go_simp; done) | (go_simp; rfl)); intro W9 hw; have h_ := (HS.out.s1).put7 (.slice none 0 0) (.int .i64 0) (.int .i64 0) (.int .i64 0) (.slice none 0 0) (.slice none 0 0) (.slice none 0 0); rw [← hw] at h_; clear hw k4 kf4; clear HS; have HS := mk_ h_; clear h_)))
  all_goals (
   (try simp only [Exit.inBlock, Exit.then])
   refine bodyPost_ret (fF rfl _ _ w.heap.size 54 #[.int .i64 0, .int .i64 0, .slice none 0 0, .int .i64 0, .int .i64 0, .int .i64 0, .int .i64 0, .int .i64 0, .string ⟨#[]⟩, .int .i64 0, .slice none 0 0, .slice none 0 0] (0, 0) _ rfl HS.out.s1.blk Try.underlying54 rfl z1_ (w.heap.size + 1) 31 #[.slice none 0 0, .int .i64 0, .int .i64 0, .int .i64 0, .slice none 0 0, .slice none 0 0, .slice none 0 0] (0, 0) _ rfl HS.out.blk Try.underlying31 rfl z1_) rfl ?_
   exact ⟨rfl, Sp.old HS.out.tail.tail⟩)
theorem record_bad (A : Option Addr) (c : Nat) (r : List Int) (hbc : r.length + 1 ≤ c) (hC : Kd.C (Kd.int .u8) w A (1 :: r).length (1 :: r)) (hBr : Bytes r) (hlr : r.length ≤ 1000000) (x : Ox) (nx e3 : Int) (hq : sOpRead r 0 = (x, nx, e3)) (hbad : (e3 == 0) = false ∨ (e3 == 0) = true ∧ (nx == (r.length : Int)) = false) :
  Calls Try.prog 64 #[.slice A (r.length + 1) c] w fun e w' => e = .returned (.tuple #[.int .i64 0, .agg zop.toArray, .agg snap0.toArray]) ∧ Below w.heap.size w w' := by
 have hlen : (1 :: r).length = r.length + 1 := List.length_cons
 have hCr := C_drop (m := 1) hC (by rw [hlen]; omega) (c := c) (by rw [hlen]; omega)
 obtain ⟨ad, e, hx0⟩ := Kd.at_int hC 0 z2_ (by rw [hlen]; omega)
 cases e
 rw [show ((0 : Int)).toNat = 0 from rfl, Addr.add_zero', show rd (1 :: r) 0 = 1 from rfl] at hx0
 have hk1 : (((r.length + 1 : Nat) : Int) == 0) = false := beq_eq_false_iff_ne.mpr z2_
 have hk2 : decide (0 < r.length + 1) = true := decide_eq_true z2_
 have hk3 : decide (1 ≤ r.length + 1) = true := decide_eq_true z2_
 have h1 := (Sp.start w).box (.cells #[.int .i64 0, .int .i64 0, .slice none 0 0, .int .i64 0, .int .i64 0, .int .i64 0, .int .i64 0, .int .i64 0, .string ⟨#[]⟩, .int .i64 0, .slice none 0 0, .slice none 0 0] 54 (0, 0))
 have h4 := h1.box (.cells #[.slice none 0 0, .int .i64 0, .int .i64 0, .int .i64 0, .slice none 0 0, .slice none 0 0, .slice none 0 0] 31 (0, 0))
 rw [show (w.alloc (.cells #[.int .i64 0, .int .i64 0, .slice none 0 0, .int .i64 0, .int .i64 0, .int .i64 0, .int .i64 0, .int .i64 0, .string ⟨#[]⟩, .int .i64 0, .slice none 0 0, .slice none 0 0] 54 (0, 0))).heap.size = w.heap.size + 1 from Array.size_push _] at h4
 have hx1 := ((Sp.old h4.s2).cell (World.block_lt_of_cell? _ _ hx0)).trans hx0
 have HS := mk_ h4
 have HC := mk_ hCr
 clear hC hCr h1 h4
 by_cases hc : c = 1
 ·
  have hc1 := eq_true hc
  simp only [hc1, if_true, List.drop_succ_cons, List.drop_zero] at HC
  rcases hbad with hb1 | ⟨hb1, hb2⟩
  ·
   go_enter Try.func64, Try.ntmps64
   go_wp2_with (first
    | ((with_reducible refine aT (f := 93) rfl ?_); go_loud (refine Short.gL (some 26) Try.func93 #[.slice (some ad) r.length 0, .int .i64 0] (h := ?_); have q_ := read_sp (A := (some ad)) (c := 0) (aV HC.out (Sp.old HS.out.s2)) z2_ hBr hlr 0; simp only [hq] at q_; refine q_.mono ?_; clear q_; rintro e W3 ⟨v2, v10, v11, rfl, h_⟩; refine ⟨_, rfl, ?_⟩; have n_ := Sp.frame (X := [_, _, _]) HS.out h_; simp only [List.cons_append, List.nil_append] at n_; obtain ⟨A2, c2, rfl, _, _⟩ := n_.row; obtain ⟨A10, c10, rfl, _, _⟩ := n_.s1.row; obtain ⟨A11, c11, rfl, _, _⟩ := n_.s2.row; clear HS h_; have HS := mk_ n_; clear n_))
    | ((with_reducible refine bP (N := 6) rfl ?_); go_loud (refine bL ?hg (N := 6) ?hd (cs := #[.int .i64 0, .int .i64 0, .slice none 0 0, .int .i64 0, .int .i64 0, .int .i64 0, .int .i64 0, .int .i64 0, .string ⟨#[]⟩, .int .i64 0, .slice none 0 0, .slice none 0 0]) (t := 54) ?hr ?_; (case hd => rfl); (case hg => rfl); (case hr => first | (go_simp; done) | (go_simp; rfl)); intro g6 hg W6 hbox hb; have h_ := HS.out.boxed hg hbox hb; clear hbox hb hg; clear HS; have HS := mk_ h_; clear h_; have k6 := aC HS.out.blk; have kf6 := aH HS.out.blk))
    | ((with_reducible refine cN (t := 54) (p := 6) rfl ?_); go_loud (refine cF (t := 54) (p := 6) (v := ?vo6) (w1 := put12 W6 g6 (.int .i64 x.f0.f0) (.int .i64 x.f0.f1) (.slice A2 x.f1.length c2) (.int .i64 x.f2.f0) (.int .i64 x.f2.f1) (.int .i64 x.f2.f2) (.int .i64 x.f3) (.int .i64 x.f4) (.string x.f5) (.int .i64 x.f6) (.slice A10 x.f7.length c10) (.slice A11 x.f8.length c11)) ?hg ?ho ?hn ?hr ?_; (case ho => rfl); (case hg => rfl); (case hn => rfl); (case hr => first | (go_simp; done) | (go_simp; rfl)); intro W7 hw; have h_ := HS.out.put12 (.int .i64 x.f0.f0) (.int .i64 x.f0.f1) (.slice A2 x.f1.length c2) (.int .i64 x.f2.f0) (.int .i64 x.f2.f1) (.int .i64 x.f2.f2) (.int .i64 x.f3) (.int .i64 x.f4) (.string x.f5) (.int .i64 x.f6) (.slice A10 x.f7.length c10) (.slice A11 x.f8.length c11); rw [← hw] at h_; clear hw k6 kf6; clear HS; have HS := mk_ h_; clear h_; have k3 := aC HS.out.s5.blk; have kf3 := aH HS.out.s5.blk))
    | ((with_reducible refine cN (t := 54) (p := 3) rfl ?_); go_loud (refine cF (t := 54) (p := 3) (v := ?vo3) (w1 := put12 W7 w.heap.size (.int .i64 0) (.int .i64 0) (.slice none 0 0) (.int .i64 0) (.int .i64 0) (.int .i64 0) (.int .i64 0) (.int .i64 0) (.string ⟨#[]⟩) (.int .i64 0) (.slice none 0 0) (.slice none 0 0)) ?hg ?ho ?hn ?hr ?_; (case ho => rfl); (case hg => rfl); (case hn => rfl); (case hr => first | (go_simp; done) | (go_simp; rfl)); intro W8 hw; have h_ := (HS.out.s5).put12 (.int .i64 0) (.int .i64 0) (.slice none 0 0) (.int .i64 0) (.int .i64 0) (.int .i64 0) (.int .i64 0) (.int .i64 0) (.string ⟨#[]⟩) (.int .i64 0) (.slice none 0 0) (.slice none 0 0); rw [← hw] at h_; clear hw k3 kf3; clear HS; have HS := mk_ h_; clear h_; have k4 := aC HS.out.s5.blk; have kf4 := aH HS.out.s5.blk))
    | ((with_reducible refine cN (t := 31) (p := 4) rfl ?_); go_loud (refine cF (t := 31) (p := 4) (v := ?vo4) (w1 := put7 W8 (w.heap.size + 1) (.slice none 0 0) (.int .i64 0) (.int .i64 0) (.int .i64 0) (.slice none 0 0) (.slice none 0 0) (.slice none 0 0)) ?hg ?ho ?hn ?hr ?_; (case ho => rfl); (case hg => rfl); (case hn => rfl); (case hr => first | (go_simp; done) | (go_simp; rfl)); intro W9 hw; have h_ := (HS.out.s5).put7 (.slice none 0 0) (.int .i64 0) (.int .i64 0) (.int .i64 0) (.slice none 0 0) (.slice none 0 0) (.slice none 0 0); rw [← hw] at h_; clear hw k4 kf4; clear HS; have HS := mk_ h_; clear h_)))
   (try simp only [Exit.inBlock, Exit.then])
   refine bodyPost_ret (fF rfl _ _ w.heap.size 54 #[.int .i64 0, .int .i64 0, .slice none 0 0, .int .i64 0, .int .i64 0, .int .i64 0, .int .i64 0, .int .i64 0, .string ⟨#[]⟩, .int .i64 0, .slice none 0 0, .slice none 0 0] (0, 0) _ rfl HS.out.s1.blk Try.underlying54 rfl z1_ (w.heap.size + 1) 31 #[.slice none 0 0, .int .i64 0, .int .i64 0, .int .i64 0, .slice none 0 0, .slice none 0 0, .slice none 0 0] (0, 0) _ rfl HS.out.blk Try.underlying31 rfl z1_) rfl ?_
   exact ⟨rfl, Sp.old HS.out.tail.tail.tail.tail.tail.tail⟩
  ·
   go_enter Try.func64, Try.ntmps64
   go_wp2_with (first
    | ((with_reducible refine aT (f := 93) rfl ?_); go_loud (refine Short.gL (some 26) Try.func93 #[.slice (some ad) r.length 0, .int .i64 0] (h := ?_); have q_ := read_sp (A := (some ad)) (c := 0) (aV HC.out (Sp.old HS.out.s2)) z2_ hBr hlr 0; simp only [hq] at q_; refine q_.mono ?_; clear q_; rintro e W3 ⟨v2, v10, v11, rfl, h_⟩; refine ⟨_, rfl, ?_⟩; have n_ := Sp.frame (X := [_, _, _]) HS.out h_; simp only [List.cons_append, List.nil_append] at n_; obtain ⟨A2, c2, rfl, _, _⟩ := n_.row; obtain ⟨A10, c10, rfl, _, _⟩ := n_.s1.row; obtain ⟨A11, c11, rfl, _, _⟩ := n_.s2.row; clear HS h_; have HS := mk_ n_; clear n_))
    | ((with_reducible refine bP (N := 6) rfl ?_); go_loud (refine bL ?hg (N := 6) ?hd (cs := #[.int .i64 0, .int .i64 0, .slice none 0 0, .int .i64 0, .int .i64 0, .int .i64 0, .int .i64 0, .int .i64 0, .string ⟨#[]⟩, .int .i64 0, .slice none 0 0, .slice none 0 0]) (t := 54) ?hr ?_; (case hd => rfl); (case hg => rfl); (case hr => first | (go_simp; done) | (go_simp; rfl)); intro g6 hg W6 hbox hb; have h_ := HS.out.boxed hg hbox hb; clear hbox hb hg; clear HS; have HS := mk_ h_; clear h_; have k6 := aC HS.out.blk; have kf6 := aH HS.out.blk))
    | ((with_reducible refine cN (t := 54) (p := 6) rfl ?_); go_loud (refine cF (t := 54) (p := 6) (v := ?vo6) (w1 := put12 W6 g6 (.int .i64 x.f0.f0) (.int .i64 x.f0.f1) (.slice A2 x.f1.length c2) (.int .i64 x.f2.f0) (.int .i64 x.f2.f1) (.int .i64 x.f2.f2) (.int .i64 x.f3) (.int .i64 x.f4) (.string x.f5) (.int .i64 x.f6) (.slice A10 x.f7.length c10) (.slice A11 x.f8.length c11)) ?hg ?ho ?hn ?hr ?_; (case ho => rfl); (case hg => rfl); (case hn => rfl); (case hr => first | (go_simp; done) | (go_simp; rfl)); intro W7 hw; have h_ := HS.out.put12 (.int .i64 x.f0.f0) (.int .i64 x.f0.f1) (.slice A2 x.f1.length c2) (.int .i64 x.f2.f0) (.int .i64 x.f2.f1) (.int .i64 x.f2.f2) (.int .i64 x.f3) (.int .i64 x.f4) (.string x.f5) (.int .i64 x.f6) (.slice A10 x.f7.length c10) (.slice A11 x.f8.length c11); rw [← hw] at h_; clear hw k6 kf6; clear HS; have HS := mk_ h_; clear h_; have k3 := aC HS.out.s5.blk; have kf3 := aH HS.out.s5.blk))
    | ((with_reducible refine cN (t := 54) (p := 3) rfl ?_); go_loud (refine cF (t := 54) (p := 3) (v := ?vo3) (w1 := put12 W7 w.heap.size (.int .i64 0) (.int .i64 0) (.slice none 0 0) (.int .i64 0) (.int .i64 0) (.int .i64 0) (.int .i64 0) (.int .i64 0) (.string ⟨#[]⟩) (.int .i64 0) (.slice none 0 0) (.slice none 0 0)) ?hg ?ho ?hn ?hr ?_; (case ho => rfl); (case hg => rfl); (case hn => rfl); (case hr => first | (go_simp; done) | (go_simp; rfl)); intro W8 hw; have h_ := (HS.out.s5).put12 (.int .i64 0) (.int .i64 0) (.slice none 0 0) (.int .i64 0) (.int .i64 0) (.int .i64 0) (.int .i64 0) (.int .i64 0) (.string ⟨#[]⟩) (.int .i64 0) (.slice none 0 0) (.slice none 0 0); rw [← hw] at h_; clear hw k3 kf3; clear HS; have HS := mk_ h_; clear h_; have k4 := aC HS.out.s5.blk; have kf4 := aH HS.out.s5.blk))
    | ((with_reducible refine cN (t := 31) (p := 4) rfl ?_); go_loud (refine cF (t := 31) (p := 4) (v := ?vo4) (w1 := put7 W8 (w.heap.size + 1) (.slice none 0 0) (.int .i64 0) (.int .i64 0) (.int .i64 0) (.slice none 0 0) (.slice none 0 0) (.slice none 0 0)) ?hg ?ho ?hn ?hr ?_; (case ho => rfl); (case hg => rfl); (case hn => rfl); (case hr => first | (go_simp; done) | (go_simp; rfl)); intro W9 hw; have h_ := (HS.out.s5).put7 (.slice none 0 0) (.int .i64 0) (.int .i64 0) (.int .i64 0) (.slice none 0 0) (.slice none 0 0) (.slice none 0 0); rw [← hw] at h_; clear hw k4 kf4; clear HS; have HS := mk_ h_; clear h_)))
   (try simp only [Exit.inBlock, Exit.then])
   refine bodyPost_ret (fF rfl _ _ w.heap.size 54 #[.int .i64 0, .int .i64 0, .slice none 0 0, .int .i64 0, .int .i64 0, .int .i64 0, .int .i64 0, .int .i64 0, .string ⟨#[]⟩, .int .i64 0, .slice none 0 0, .slice none 0 0] (0, 0) _ rfl HS.out.s1.blk Try.underlying54 rfl z1_ (w.heap.size + 1) 31 #[.slice none 0 0, .int .i64 0, .int .i64 0, .int .i64 0, .slice none 0 0, .slice none 0 0, .slice none 0 0] (0, 0) _ rfl HS.out.blk Try.underlying31 rfl z1_) rfl ?_
   exact ⟨rfl, Sp.old HS.out.tail.tail.tail.tail.tail.tail⟩
 have hc1 := eq_false hc
 simp only [hc1, if_false, Option.map_some, List.drop_succ_cons, List.drop_zero] at HC
 rcases hbad with hb1 | ⟨hb1, hb2⟩
 ·
  go_enter Try.func64, Try.ntmps64
  go_wp2_with (first
   | ((with_reducible refine aT (f := 93) rfl ?_); go_loud (refine Short.gL (some 26) Try.func93 #[.slice (some ⟨ad.block, ad.off + 1, none⟩) r.length (c - 1), .int .i64 0] (h := ?_); have q_ := read_sp (A := (some ⟨ad.block, ad.off + 1, none⟩)) (c := (c - 1)) (aV HC.out (Sp.old HS.out.s2)) z2_ hBr hlr 0; simp only [hq] at q_; refine q_.mono ?_; clear q_; rintro e W3 ⟨v2, v10, v11, rfl, h_⟩; refine ⟨_, rfl, ?_⟩; have n_ := Sp.frame (X := [_, _, _]) HS.out h_; simp only [List.cons_append, List.nil_append] at n_; obtain ⟨A2, c2, rfl, _, _⟩ := n_.row; obtain ⟨A10, c10, rfl, _, _⟩ := n_.s1.row; obtain ⟨A11, c11, rfl, _, _⟩ := n_.s2.row; clear HS h_; have HS := mk_ n_; clear n_))
   | ((with_reducible refine bP (N := 6) rfl ?_); go_loud (refine bL ?hg (N := 6) ?hd (cs := #[.int .i64 0, .int .i64 0, .slice none 0 0, .int .i64 0, .int .i64 0, .int .i64 0, .int .i64 0, .int .i64 0, .string ⟨#[]⟩, .int .i64 0, .slice none 0 0, .slice none 0 0]) (t := 54) ?hr ?_; (case hd => rfl); (case hg => rfl); (case hr => first | (go_simp; done) | (go_simp; rfl)); intro g6 hg W6 hbox hb; have h_ := HS.out.boxed hg hbox hb; clear hbox hb hg; clear HS; have HS := mk_ h_; clear h_; have k6 := aC HS.out.blk; have kf6 := aH HS.out.blk))
   | ((with_reducible refine cN (t := 54) (p := 6) rfl ?_); go_loud (refine cF (t := 54) (p := 6) (v := ?vo6) (w1 := put12 W6 g6 (.int .i64 x.f0.f0) (.int .i64 x.f0.f1) (.slice A2 x.f1.length c2) (.int .i64 x.f2.f0) (.int .i64 x.f2.f1) (.int .i64 x.f2.f2) (.int .i64 x.f3) (.int .i64 x.f4) (.string x.f5) (.int .i64 x.f6) (.slice A10 x.f7.length c10) (.slice A11 x.f8.length c11)) ?hg ?ho ?hn ?hr ?_; (case ho => rfl); (case hg => rfl); (case hn => rfl); (case hr => first | (go_simp; done) | (go_simp; rfl)); intro W7 hw; have h_ := HS.out.put12 (.int .i64 x.f0.f0) (.int .i64 x.f0.f1) (.slice A2 x.f1.length c2) (.int .i64 x.f2.f0) (.int .i64 x.f2.f1) (.int .i64 x.f2.f2) (.int .i64 x.f3) (.int .i64 x.f4) (.string x.f5) (.int .i64 x.f6) (.slice A10 x.f7.length c10) (.slice A11 x.f8.length c11); rw [← hw] at h_; clear hw k6 kf6; clear HS; have HS := mk_ h_; clear h_; have k3 := aC HS.out.s5.blk; have kf3 := aH HS.out.s5.blk))
   | ((with_reducible refine cN (t := 54) (p := 3) rfl ?_); go_loud (refine cF (t := 54) (p := 3) (v := ?vo3) (w1 := put12 W7 w.heap.size (.int .i64 0) (.int .i64 0) (.slice none 0 0) (.int .i64 0) (.int .i64 0) (.int .i64 0) (.int .i64 0) (.int .i64 0) (.string ⟨#[]⟩) (.int .i64 0) (.slice none 0 0) (.slice none 0 0)) ?hg ?ho ?hn ?hr ?_; (case ho => rfl); (case hg => rfl); (case hn => rfl); (case hr => first | (go_simp; done) | (go_simp; rfl)); intro W8 hw; have h_ := (HS.out.s5).put12 (.int .i64 0) (.int .i64 0) (.slice none 0 0) (.int .i64 0) (.int .i64 0) (.int .i64 0) (.int .i64 0) (.int .i64 0) (.string ⟨#[]⟩) (.int .i64 0) (.slice none 0 0) (.slice none 0 0); rw [← hw] at h_; clear hw k3 kf3; clear HS; have HS := mk_ h_; clear h_; have k4 := aC HS.out.s5.blk; have kf4 := aH HS.out.s5.blk))
   | ((with_reducible refine cN (t := 31) (p := 4) rfl ?_); go_loud (refine cF (t := 31) (p := 4) (v := ?vo4) (w1 := put7 W8 (w.heap.size + 1) (.slice none 0 0) (.int .i64 0) (.int .i64 0) (.int .i64 0) (.slice none 0 0) (.slice none 0 0) (.slice none 0 0)) ?hg ?ho ?hn ?hr ?_; (case ho => rfl); (case hg => rfl); (case hn => rfl); (case hr => first | (go_simp; done) | (go_simp; rfl)); intro W9 hw; have h_ := (HS.out.s5).put7 (.slice none 0 0) (.int .i64 0) (.int .i64 0) (.int .i64 0) (.slice none 0 0) (.slice none 0 0) (.slice none 0 0); rw [← hw] at h_; clear hw k4 kf4; clear HS; have HS := mk_ h_; clear h_)))
  (try simp only [Exit.inBlock, Exit.then])
  refine bodyPost_ret (fF rfl _ _ w.heap.size 54 #[.int .i64 0, .int .i64 0, .slice none 0 0, .int .i64 0, .int .i64 0, .int .i64 0, .int .i64 0, .int .i64 0, .string ⟨#[]⟩, .int .i64 0, .slice none 0 0, .slice none 0 0] (0, 0) _ rfl HS.out.s1.blk Try.underlying54 rfl z1_ (w.heap.size + 1) 31 #[.slice none 0 0, .int .i64 0, .int .i64 0, .int .i64 0, .slice none 0 0, .slice none 0 0, .slice none 0 0] (0, 0) _ rfl HS.out.blk Try.underlying31 rfl z1_) rfl ?_
  exact ⟨rfl, Sp.old HS.out.tail.tail.tail.tail.tail.tail⟩
 ·
  go_enter Try.func64, Try.ntmps64
  go_wp2_with (first
   | ((with_reducible refine aT (f := 93) rfl ?_); go_loud (refine Short.gL (some 26) Try.func93 #[.slice (some ⟨ad.block, ad.off + 1, none⟩) r.length (c - 1), .int .i64 0] (h := ?_); have q_ := read_sp (A := (some ⟨ad.block, ad.off + 1, none⟩)) (c := (c - 1)) (aV HC.out (Sp.old HS.out.s2)) z2_ hBr hlr 0; simp only [hq] at q_; refine q_.mono ?_; clear q_; rintro e W3 ⟨v2, v10, v11, rfl, h_⟩; refine ⟨_, rfl, ?_⟩; have n_ := Sp.frame (X := [_, _, _]) HS.out h_; simp only [List.cons_append, List.nil_append] at n_; obtain ⟨A2, c2, rfl, _, _⟩ := n_.row; obtain ⟨A10, c10, rfl, _, _⟩ := n_.s1.row; obtain ⟨A11, c11, rfl, _, _⟩ := n_.s2.row; clear HS h_; have HS := mk_ n_; clear n_))
   | ((with_reducible refine bP (N := 6) rfl ?_); go_loud (refine bL ?hg (N := 6) ?hd (cs := #[.int .i64 0, .int .i64 0, .slice none 0 0, .int .i64 0, .int .i64 0, .int .i64 0, .int .i64 0, .int .i64 0, .string ⟨#[]⟩, .int .i64 0, .slice none 0 0, .slice none 0 0]) (t := 54) ?hr ?_; (case hd => rfl); (case hg => rfl); (case hr => first | (go_simp; done) | (go_simp; rfl)); intro g6 hg W6 hbox hb; have h_ := HS.out.boxed hg hbox hb; clear hbox hb hg; clear HS; have HS := mk_ h_; clear h_; have k6 := aC HS.out.blk; have kf6 := aH HS.out.blk))
   | ((with_reducible refine cN (t := 54) (p := 6) rfl ?_); go_loud (refine cF (t := 54) (p := 6) (v := ?vo6) (w1 := put12 W6 g6 (.int .i64 x.f0.f0) (.int .i64 x.f0.f1) (.slice A2 x.f1.length c2) (.int .i64 x.f2.f0) (.int .i64 x.f2.f1) (.int .i64 x.f2.f2) (.int .i64 x.f3) (.int .i64 x.f4) (.string x.f5) (.int .i64 x.f6) (.slice A10 x.f7.length c10) (.slice A11 x.f8.length c11)) ?hg ?ho ?hn ?hr ?_; (case ho => rfl); (case hg => rfl); (case hn => rfl); (case hr => first | (go_simp; done) | (go_simp; rfl)); intro W7 hw; have h_ := HS.out.put12 (.int .i64 x.f0.f0) (.int .i64 x.f0.f1) (.slice A2 x.f1.length c2) (.int .i64 x.f2.f0) (.int .i64 x.f2.f1) (.int .i64 x.f2.f2) (.int .i64 x.f3) (.int .i64 x.f4) (.string x.f5) (.int .i64 x.f6) (.slice A10 x.f7.length c10) (.slice A11 x.f8.length c11); rw [← hw] at h_; clear hw k6 kf6; clear HS; have HS := mk_ h_; clear h_; have k3 := aC HS.out.s5.blk; have kf3 := aH HS.out.s5.blk))
   | ((with_reducible refine cN (t := 54) (p := 3) rfl ?_); go_loud (refine cF (t := 54) (p := 3) (v := ?vo3) (w1 := put12 W7 w.heap.size (.int .i64 0) (.int .i64 0) (.slice none 0 0) (.int .i64 0) (.int .i64 0) (.int .i64 0) (.int .i64 0) (.int .i64 0) (.string ⟨#[]⟩) (.int .i64 0) (.slice none 0 0) (.slice none 0 0)) ?hg ?ho ?hn ?hr ?_; (case ho => rfl); (case hg => rfl); (case hn => rfl); (case hr => first | (go_simp; done) | (go_simp; rfl)); intro W8 hw; have h_ := (HS.out.s5).put12 (.int .i64 0) (.int .i64 0) (.slice none 0 0) (.int .i64 0) (.int .i64 0) (.int .i64 0) (.int .i64 0) (.int .i64 0) (.string ⟨#[]⟩) (.int .i64 0) (.slice none 0 0) (.slice none 0 0); rw [← hw] at h_; clear hw k3 kf3; clear HS; have HS := mk_ h_; clear h_; have k4 := aC HS.out.s5.blk; have kf4 := aH HS.out.s5.blk))
   | ((with_reducible refine cN (t := 31) (p := 4) rfl ?_); go_loud (refine cF (t := 31) (p := 4) (v := ?vo4) (w1 := put7 W8 (w.heap.size + 1) (.slice none 0 0) (.int .i64 0) (.int .i64 0) (.int .i64 0) (.slice none 0 0) (.slice none 0 0) (.slice none 0 0)) ?hg ?ho ?hn ?hr ?_; (case ho => rfl); (case hg => rfl); (case hn => rfl); (case hr => first | (go_simp; done) | (go_simp; rfl)); intro W9 hw; have h_ := (HS.out.s5).put7 (.slice none 0 0) (.int .i64 0) (.int .i64 0) (.int .i64 0) (.slice none 0 0) (.slice none 0 0) (.slice none 0 0); rw [← hw] at h_; clear hw k4 kf4; clear HS; have HS := mk_ h_; clear h_)))
  (try simp only [Exit.inBlock, Exit.then])
  refine bodyPost_ret (fF rfl _ _ w.heap.size 54 #[.int .i64 0, .int .i64 0, .slice none 0 0, .int .i64 0, .int .i64 0, .int .i64 0, .int .i64 0, .int .i64 0, .string ⟨#[]⟩, .int .i64 0, .slice none 0 0, .slice none 0 0] (0, 0) _ rfl HS.out.s1.blk Try.underlying54 rfl z1_ (w.heap.size + 1) 31 #[.slice none 0 0, .int .i64 0, .int .i64 0, .int .i64 0, .slice none 0 0, .slice none 0 0, .slice none 0 0] (0, 0) _ rfl HS.out.blk Try.underlying31 rfl z1_) rfl ?_
  exact ⟨rfl, Sp.old HS.out.tail.tail.tail.tail.tail.tail⟩
theorem record_none (A : Option Addr) (c : Nat) (b : List Int) (hbc : b.length ≤ c) (hC : Kd.C (Kd.int .u8) w A b.length b) (hB : Bytes b) (hl : b.length ≤ 1000000) (hx : recOf b = none) (h2 : b.head? ≠ some 2) :
  Calls Try.prog 64 #[.slice A b.length c] w fun e w' => e = .returned (.tuple #[.int .i64 0, .agg zop.toArray, .agg snap0.toArray]) ∧ Below w.heap.size w w' := by
 cases b with
 | nil => exact record_nil A c
 | cons z r =>
  have hz := hB z List.mem_cons_self
  have hlr : r.length ≤ 1000000 := by rw [List.length_cons] at hl; omega
  by_cases h1 : z = 1
  rotate_left
  ·
   exact record_other A c z r (by rw [List.length_cons] at hbc; exact hbc) hC hlr ⟨hz.1, by have := hz.2; omega⟩ h1 (fun e => h2 (by rw [e]; rfl))
  subst h1
  obtain ⟨q, hq⟩ : ∃ q, sOpRead r 0 = q := ⟨_, rfl⟩
  obtain ⟨x, nx, e3⟩ := q
  have h3 : (if (sOpRead r 0).2.2 = 0 ∧ (sOpRead r 0).2.1 = r.length then some (sOpRead r 0).1 else none) = none := by
   have : (if (1 : Int) = 1 then (if (sOpRead r 0).2.2 = 0 ∧ (sOpRead r 0).2.1 = r.length then some (sOpRead r 0).1 else none) else none) = none := hx
   rwa [if_pos rfl] at this
  rw [hq] at h3
  refine record_bad A c r (by rw [List.length_cons] at hbc; exact hbc) hC (fun y hy => hB y (List.mem_cons_of_mem _ hy)) hlr x nx e3 hq ?_
  by_cases h0 : e3 = 0
  rotate_left
  ·
   exact .inl (beq_eq_false_iff_ne.mpr h0)
  refine .inr ⟨beq_iff_eq.mpr h0, beq_eq_false_iff_ne.mpr (fun e => ?_)⟩
  rw [if_pos ⟨h0, e⟩] at h3
  cases h3
end
end Go.Proofs.Ytcbfliajgopdaaa.Logs
end
