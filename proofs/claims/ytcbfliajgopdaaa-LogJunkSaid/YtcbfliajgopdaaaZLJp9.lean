-- Put together by a program of this session (wip/slice2.py) out of the seat's texts.
import Derived.Test.YtcbfliajgopdaaaZLJp8
import Derived.StillTailTactics
section
namespace Go.Proofs.Ytcbfliajgopdaaa.Pads
open Go.RowKit Go.Proofs.YtcbfliajgopdaaaW.PrintWords Go.Proofs.YtcbfliajgopdaaaW.PrintLast Go.Proofs.YtcbfliajgopdaaaW.PrintMore Go.Proofs.Ytcbfliajgopdaaa.Sep Go.Proofs.Ytcbfliajgopdaaa.ZipT Go.Proofs.YtcbfliajgopdaaaW.PrintWords.Kd Go.Proofs.YtcbfliajgopdaaaW.PrintMore.Kd
set_option linter.unusedVariables false
set_option linter.unusedSimpArgs false
section
variable {w : World} {g : Nat} {p : Pd} {F : List Part}
theorem infoSl : (Try.prog.info? 120).map (fun i => (i.zero, i.size, i.bytes)) = some (some (.agg #[.slice none 0 0, .bool false]), 2, 32) := by kernel_rfl
set_option maxHeartbeats 4000000 in
set_option maxRecDepth 100000 in
theorem cloneSl_calls {v : Value} {xs ys : List Sl} {A : Option Addr} {c : Nat} (hS : Sp w (Row kSl 120 v xs :: F)) (hl : ys.length ≤ 4000)
  (hR : ∀ ok, (Row kSl 120 v xs).P w ok → ReadsRow (kSl.M w 0 ok) 2 w A ys.length ys) :
  Calls Try.prog 94 #[.slice A ys.length c] w fun e w' => ∃ v', e = .returned v' ∧ Sp w' (Row kSl 120 v' ys :: F) := by
 obtain ⟨ok, h1, h2, h3⟩ := hS.head1
 have hr := hR ok h2
 have H3 := mk_ h3
 have H1 := mk_ h1
 have HR := mk_ hr
 clear h3 h2 hS hR h1
 cases A with
 | none =>
  have hl_ : ys = [] := by
   rcases ys with _ | ⟨x_, xs_⟩
   ·
    rfl
   ·
    obtain ⟨ad_, e_, _⟩ := HR.out.2.2 (by simp)
    exact absurd e_ (by simp)
  subst hl_
  have hnil_ := fun W : World => Lib.run_eql_slice_nil (P := Try.prog) W 115 120 none 0 c 0 0 Try.underlying115
  go_enter Try.func94, Try.ntmps94
  go_wp2
  go_ret
  exact ⟨_, rfl, H3.out _ (Row kSl 120 (.slice none 0 0) []) (Moved.refl _ _) (R_nil _ _ _ _ _)⟩
 | some a0 =>
  have hnil_ := fun W : World => Lib.run_eql_slice_nil (P := Try.prog) W 115 120 (some a0) ys.length c 0 0 Try.underlying115
  have HL := mk_ hl
  clear hl
  go_enter Try.func94, Try.ntmps94
  go_wp2_with (first
   | ((with_reducible refine gate_dst (N := 5) rfl ?_); refine R_lit kSl 0 120 ?hg (N := 5) ?hd (w0 := w) (xs := ([] : List Sl)) (inner := []) (ok := fun k => w.heap.size ≤ k) (okp := fun _ => False) ?hr ?hp (fun _ hk => hk.elim) (Nat.le_refl _) (Below.refl _ _) (Nat.zero_le _) (by simp) ?_; (case hd => rfl); (case hg => rfl); (case hr => first | (go_simp; done) | (go_simp; rfl)); (case hp => exact Reps.none _ _); intro v1 w1 hr1 _ hg1 hn1; have HB1 := mk_ hg1; have HO1 := mk_ hr1; have HN1 := mk_ hn1; clear hg1 hr1 hn1)
   | ((with_reducible refine gate_builtin (b := .append) (xs := #[.tmp 5, .tmp 6]) rfl ?_); at_builtin; refine Stop.go ?_))
  constructor
  refine R_append_rows kSl (Rr := kSl.M w1 0 (fun k => ok k ∧ k < w.heap.size)) (w0 := w1) 0 rfl (.tmp 5) (.tmp 6) 115 120 (.agg #[.slice none 0 0, .bool false]) 32 rfl Try.underlying115 infoSl rfl z5_ z2_ v1 [] ys _ _ _ (fun k => ok k ∧ k < w.heap.size ∨ w.heap.size ≤ k) (fun k => ok k ∧ k < w.heap.size) rfl rfl ?aO ?aR ?aM ?ap ?aF (Below.refl _ _) (Nat.zero_le _) ?aL ?_
  (case aO => exact R_mono HO1.out (fun k hk => .inr hk))
  (case aR => exact ReadsRow.imp_ (R' := kSl.M w1 0 (fun k => ok k ∧ k < w.heap.size)) HR.out (of_grown_none HB1.out) (fun x cs hx => kSl.M_mono (fun k hk => ⟨hk.1, hk.2.2.1⟩) (kSl.M_bound hx) |> fun hx => Kd.M_below hx (of_grown_none HB1.out)))
  (case aM => exact fun _ _ h => h)
  (case ap => exact fun k hk => ⟨.inl hk, fun e => by obtain ⟨b, hb, hle⟩ := HN1.out; rw [hb] at e; injection e with e; omega⟩)
  (case aF => exact fun k hk => .inr (Nat.le_trans HB1.out.size hk))
  (case aL => have := HL.out; simp only [List.length_nil]; omega)
  intro v2 w2 hr2 _ hg2 hat2
  have HB2 := mk_ hg2
  have HO2 := mk_ hr2
  clear hg2 hr2 hat2
  go_wp2
  go_ret
  refine ⟨_, rfl, H3.out _ (Row kSl 120 _ _) ?_ ?_⟩
  ·
   refine (Moved.of_below (of_grown_none HB1.out) ok).trans (Moved.of_grown (S := fun k => w.heap.size ≤ k) HB2.out (fun i hi _ => ?_)) (fun i hi h => absurd h z2_)
   obtain ⟨b, hb, hle⟩ := HN1.out
   rw [hb] at hi
   injection hi with hi
   omega
  ·
   refine R_mono (R_bound HO2.out) (fun k hk => ?_)
   rcases hk.1 with h | h
   ·
    exact .inl h.1
   ·
    exact .inr ⟨h, hk.2.2.1⟩
set_option maxHeartbeats 4000000 in
set_option maxRecDepth 100000 in
theorem spend_calls (hS : Sp w (PadP g p :: F)) (hok : p.Ok) (hoff : p.off = false) :
  Calls Try.prog 59 #[.pointer (some ⟨g, 0, none⟩)] w fun e w' => e = .returned (.bool p.spend.2) ∧ Sp w' (PadP g p.spend.1 :: F) := by
 obtain ⟨t, hS⟩ := PadP.open hS
 obtain ⟨A, c, hc, h0, h1, h2, h3, h4, hfz⟩ := cells_of hS
 clear hfz h0 h1 h2 h3 hc
 rcases ha : p.arm with _ | ⟨n, keep, torn⟩
 ·
  rw [Pd.spend_none ha]
  rw [ha] at hS
  obtain ⟨rfl, hS1⟩ := TripP.none_ hS.s1
  have HS := mk_ hS1
  have HA := mk_ ha
  clear hS hS1 ha
  go_enter Try.func59, Try.ntmps59
  go_wp2
  go_ret
  refine ⟨rfl, PadP.shut (t := .pointer none) ?_⟩
  rw [HA.out]
  exact (TripP.none_mk HS.out).s1
 ·
  obtain ⟨hn1, hn2, hk⟩ := hok.arm n keep torn ha
  rw [ha] at hS
  obtain ⟨b, vk, rfl, hS1⟩ := TripP.open hS.s1
  obtain ⟨Ak, ck, rfl, hck, _⟩ := hS1.tail.row
  have b0 := blk_cell hS1.blk 0
  have b1 := blk_cell hS1.blk 1
  have b2 := blk_cell hS1.blk 2
  have bf0 := blk_frozen hS1.blk 0
  replace b0 : w.cell? ⟨b, 0, none⟩ = some (.int .i64 n) := b0
  replace b1 : w.cell? ⟨b, 1, none⟩ = some (.slice Ak keep.length ck) := b1
  replace b2 : w.cell? ⟨b, 2, none⟩ = some (.int .i64 torn) := b2
  have hgb : g ≠ b := by
   obtain ⟨v, h⟩ := PadQ.open hS
   exact blk_ne h.blk hS1.blk z5_
  have hbg : (b == g) = false := by simpa using fun e => hgb e.symm
  have hw : wrap64 (n - 1) = n - 1 := by unfold wrap64; omega
  have HS := mk_ hS1
  by_cases hn : n - 1 > 0
  ·
   rw [Pd.spend_go ha hn]
   have hd : decide (1 < n) = true := decide_eq_true z2_
   have HN := mk_ hn
   clear hS hS1 ha hn hn1 hn2 hk hck hok
   go_enter Try.func59, Try.ntmps59
   go_wp2
   go_ret
   refine ⟨rfl, PadP.shut (t := .pointer (some ⟨b, 0, none⟩)) ?_⟩
   have h5 := HS.out.store 0 (.int .i64 (n - 1))
   exact (TripP.shut h5).s1
  ·
   rw [Pd.spend_crash ha hn]
   have hd : decide (1 < n) = false := decide_eq_false z2_
   have HN := mk_ hn
   have HO := mk_ hok
   have HOF := mk_ hoff
   clear hS hS1 ha hn hn1 hn2 hk hck hok hoff
   go_enter Try.func59, Try.ntmps59
   go_wp2
   refine wp_region_still_tail 15 z1_ z1_ ?_
   simp only [List.take_succ_cons, List.take_zero, List.drop_succ_cons, List.drop_zero]
   rw [drew_eta]
   repeat still_step
   refine wpStill_nil ?_
   go_wp2_with ((with_reducible refine gate_callee (f := 23) rfl ?_); refine Stop.go ?_)
   constructor
   have h5 := (HS.out.store 0 (.int .i64 (n - 1))).drew
   have h6 : Sp _ (PadQ g p (.pointer (some ⟨b, 0, none⟩)) :: Row Kd.bool 4 (.slice Ak keep.length ck) keep :: F) := h5.tail.s1
   have H6 := mk_ h6
   clear h5 h6
   refine goesL_ (some 41) rfl rfl Try.func23 z1_ rfl #[.pointer (some ⟨g, 0, none⟩), .slice Ak keep.length ck, .int .i64 torn] rfl (by first | rfl | (go_simp; done)) ?_
   refine (crash_on Ak ck keep torn HOF.out HO.out H6.out (fun _ _ h => (R_reads' h).2.2)).mono ?_
   rintro e w' ⟨⟨v, rfl⟩, h7⟩
   refine ⟨_, rfl, ?_⟩
   have H7 := mk_ h7
   clear h7
   go_wp2
   go_ret
   refine ⟨rfl, PadP.shut (t := .pointer none) ?_⟩
   have h8 := H7.out.s1.tail
   show Sp w' (PadQ g (Pd.crash _ keep torn) (.pointer none) :: TripP (.pointer none) (Pd.crash _ keep torn).arm :: F)
   rw [Pd.crash_arm p HOF.out]
   have h9 : (p.crash keep torn).arm = none := by rw [Pd.crash_on p HOF.out]
   rw [h9]
   exact (TripP.none_mk h8).s1
end
end Go.Proofs.Ytcbfliajgopdaaa.Pads
end
section
namespace Go.Proofs.Ytcbfliajgopdaaa.Pads
open Go.RowKit Go.Proofs.YtcbfliajgopdaaaW.PrintWords Go.Proofs.YtcbfliajgopdaaaW.PrintLast Go.Proofs.YtcbfliajgopdaaaW.PrintMore Go.Proofs.Ytcbfliajgopdaaa.Sep Go.Proofs.Ytcbfliajgopdaaa.ZipT Go.Proofs.YtcbfliajgopdaaaW.PrintWords.Kd Go.Proofs.YtcbfliajgopdaaaW.PrintMore.Kd
set_option linter.unusedVariables false
set_option linter.unusedSimpArgs false
section
variable {w : World} {g : Nat} {p : Pd} {F : List Part}
theorem cells_P (hS : Sp w (PadP g p :: F)) : ∃ (A : Option Addr) (c : Nat) (t : Value), p.slots.length ≤ c ∧ w.cell? ⟨g, 0, none⟩ = some (.slice A p.slots.length c) ∧ w.cell? ⟨g, 1, none⟩ = some (.int .i64 p.safe) ∧ w.cell? ⟨g, 2, none⟩ = some (.bool p.off) ∧ w.cell? ⟨g, 3, none⟩ = some (.int .i64 p.life) ∧ w.cell? ⟨g, 4, none⟩ = some t ∧ (∀ j, w.frozen? ⟨g, j, none⟩ = false) := by
 obtain ⟨t, hS⟩ := PadP.open hS
 obtain ⟨A, c, h⟩ := cells_of hS
 exact ⟨A, c, t, h⟩
theorem PadP.safe (hS : Sp w (PadP g p :: F)) (n : Nat) : Sp (w.setCell ⟨g, 1, none⟩ (.int .i64 n)) (PadP g { p with safe := n } :: F) := by
 obtain ⟨t, hS⟩ := PadP.open hS
 obtain ⟨v, hS⟩ := PadQ.open hS
 exact PadP.shut (p := { p with safe := n }) (PadQ.shut (p := { p with safe := n }) (hS.store 1 _))
set_option maxHeartbeats 4000000 in
set_option maxRecDepth 100000 in
theorem sync_calls (hS : Sp w (PadP g p :: F)) (hok : p.Ok) :
  Calls Try.prog 66 #[.pointer (some ⟨g, 0, none⟩)] w fun e w' => e = .returned (.int .i64 (p.sync).2) ∧ Sp w' (PadP g (p.sync).1 :: F) := by
 obtain ⟨A, c, t, hc, h0, h1, h2, h3, h4, hfz⟩ := cells_P hS
 clear h0 h1 h3 h4 hc hfz
 by_cases ho : p.off = true
 ·
  have he : p.sync = (p, 5) := by unfold Pd.sync; rw [if_pos ho]
  rw [he]
  rw [ho] at h2
  have HS := mk_ hS
  clear hS he ho hok
  go_enter Try.func66, Try.ntmps66
  go_wp2
  go_ret
  exact ⟨rfl, HS.out⟩
 ·
  have ho : p.off = false := by simpa using ho
  have HOF := mk_ ho
  have HS := mk_ hS
  have HO := mk_ hok
  rw [ho] at h2
  clear hS hok ho
  cases hb : p.spend.2
  ·
   have he : p.sync = (p.spend.1, 5) := by unfold Pd.sync; rw [if_neg (by simp [HOF.out]), if_neg (by simp [hb])]
   rw [he]
   have HB := mk_ hb
   clear hb he
   go_enter Try.func66, Try.ntmps66
   go_wp2_with (go_at_call 59; refine (spend_calls HS.out HO.out HOF.out).mono ?_; rw [HB.out]; rintro e w' ⟨rfl, hS⟩; have HS := mk_ hS; clear hS)
   go_ret
   exact ⟨rfl, HS.out⟩
  ·
   have he : p.sync = ({ p.spend.1 with safe := p.spend.1.slots.length }, 0) := by unfold Pd.sync; rw [if_neg (by simp [HOF.out]), if_pos hb]
   rw [he]
   have HB := mk_ hb
   clear hb he
   go_enter Try.func66, Try.ntmps66
   go_wp2_with (go_at_call 59; refine (spend_calls HS.out HO.out HOF.out).mono ?_; rw [HB.out]; rintro e w' ⟨rfl, hS⟩; clear HS h2; have HS := mk_ hS; obtain ⟨A, c, t, hc, h0, h1, h2, h3, h4, hfz⟩ := cells_P hS; have hf1 := hfz 1; clear hS h2 h3 h4 hfz hc)
   go_ret
   exact ⟨rfl, PadP.safe HS.out _⟩
end
end Go.Proofs.Ytcbfliajgopdaaa.Pads
end
section
namespace Go.Proofs.Ytcbfliajgopdaaa.Pads
open Go.RowKit Go.Proofs.YtcbfliajgopdaaaW.PrintWords Go.Proofs.YtcbfliajgopdaaaW.PrintLast Go.Proofs.YtcbfliajgopdaaaW.PrintMore Go.Proofs.Ytcbfliajgopdaaa.Sep Go.Proofs.Ytcbfliajgopdaaa.ZipT Go.Proofs.YtcbfliajgopdaaaW.PrintWords.Kd Go.Proofs.YtcbfliajgopdaaaW.PrintMore.Kd
set_option linter.unusedVariables false
set_option linter.unusedSimpArgs false
section
variable {w : World} {g : Nat} {p : Pd} {F : List Part}
theorem slot_at (hS : Sp w (PadP g p :: F)) (hl : p.slots.length ≤ 4000) (i : Nat) (hi : i < p.slots.length) :
  ∃ (gr c : Nat) (A : Option Addr) (n cc : Nat), w.cell? ⟨g, 0, none⟩ = some (.slice (some ⟨gr, 0, none⟩) p.slots.length c) ∧ w.cell? ⟨gr, i * 2, none⟩ = some (.slice A n cc) ∧ w.cell? ⟨gr, i * 2 + 1, none⟩ = some (.bool (p.slots.getD i ([], false)).2) ∧
   n = (p.slots.getD i ([], false)).1.length ∧ n ≤ cc ∧ Kd.C (Kd.int .u8) w A n (p.slots.getD i ([], false)).1 := by
 obtain ⟨t, hS⟩ := PadP.open hS
 obtain ⟨v, hS⟩ := PadQ.open hS
 obtain ⟨gr, c, rfl⟩ := (hS.tail.has).elim fun _ h => row_form h z2_
 obtain ⟨cs, hcl, hcc, _, hK⟩ := Sp.elem hS.s1 ([], false) i hi
 obtain ⟨c0, c1, rfl, ⟨A, cc, rfl, hle, hC⟩, rfl⟩ := hK
 exact ⟨gr, c, A, _, cc, blk_cell hS.blk 0, hcc 0 _ rfl, hcc 1 _ rfl, rfl, hle, hC⟩
theorem _root_.Go.Proofs.Ytcbfliajgopdaaa.Sep.Sp.nilRow {α : Type} (d : Kd α) (e : Nat) (h : Sp w F) : Sp w (Row d e (.slice none 0 0) [] :: F) :=
 ⟨fun _ => False, fun _ h => h.elim, R_nil _ _ _ _ _, Sep.wide h (fun k hk => ⟨hk, fun e => e⟩)⟩
set_option maxHeartbeats 4000000 in
set_option maxRecDepth 100000 in
theorem read_calls (hS : Sp w (PadP g p :: F)) (hok : p.Ok) (i : Int) :
  Calls Try.prog 63 #[.pointer (some ⟨g, 0, none⟩), .int .i64 i] w fun e w' => ∃ v, e = .returned (.tuple #[v, .int .i64 (p.read i).2]) ∧ Sp w' (Row (Kd.int .u8) 5 v (p.read i).1 :: PadP g p :: F) := by
 obtain ⟨A, c, t, hc, h0, h1, h2, h3, h4, hfz⟩ := cells_P hS
 clear h1 h3 h4 hfz
 have hl := hok.len
 have hb := hok.bytes
 by_cases ho : p.off = true
 ·
  have he : p.read i = ([], 5) := by unfold Pd.read; rw [if_pos ho]
  rw [he]
  rw [ho] at h2
  have HS := mk_ hS
  clear hS he ho hok hb hl hc h0
  go_enter Try.func63, Try.ntmps63
  go_wp2
  go_ret2
  exact ⟨_, rfl, HS.out.nilRow _ _⟩
 ·
  have ho' : p.off = false := by simpa using ho
  rw [ho'] at h2
  by_cases hi : i < 0 ∨ i ≥ p.slots.length
  ·
   have he : p.read i = ([], 7) := by unfold Pd.read; rw [if_neg ho, if_pos hi]
   rw [he]
   have HS := mk_ hS
   by_cases hi0 : i < 0
   ·
    have hd0 : decide (i < 0) = true := decide_eq_true hi0
    clear hS he ho hok hb hl hc hi ho' hi0
    go_enter Try.func63, Try.ntmps63
    go_wp2
    go_ret2
    exact ⟨_, rfl, HS.out.nilRow _ _⟩
   ·
    have hd0 : decide (i < 0) = false := decide_eq_false hi0
    have hd1 : decide (i ≥ (p.slots.length : Int)) = true := decide_eq_true z2_
    clear hS he ho hok hb hl hc hi ho' hi0
    go_enter Try.func63, Try.ntmps63
    go_wp2
    go_ret2
    exact ⟨_, rfl, HS.out.nilRow _ _⟩
  ·
   have hd0 : decide (i < 0) = false := decide_eq_false z2_
   have hd1 : decide (i ≥ (p.slots.length : Int)) = false := decide_eq_false z2_
   have hi0 : 0 ≤ i := by omega
   have hi1 : i < (p.slots.length : Int) := by omega
   obtain ⟨gr, cp, A', n', cc, k0, k1, k2, hn', hcc, hC⟩ := slot_at hS hl i.toNat z2_
   clear h0
   have hbl : (p.slots.getD i.toNat ([], false)).1.length ≤ 65536 := by
    rw [List.getD_eq_getElem?_getD, List.getElem?_eq_getElem z2_]
    exact hb _ (List.getElem_mem _)
   subst hn'
   cases hsp : (p.slots.getD i.toNat ([], false)).2
   ·
    have he : p.read i = ((p.slots.getD i.toNat ([], false)).1, 0) := by unfold Pd.read; rw [if_neg ho, if_neg hi, if_neg (by rw [hsp]; decide)]
    rw [he]
    rw [hsp] at k2
    generalize (p.slots.getD i.toNat ([], false)).1 = b at *
    have HS := mk_ hS
    have HC := mk_ hC
    have HL := mk_ hcc
    have HB := mk_ hbl
    clear hS he ho hok hb hl hc hi ho' hsp hC hcc hbl
    go_enter Try.func63, Try.ntmps63
    go_wp2_with ((with_reducible refine gate_callee (f := 58) rfl ?_); refine goesL_ (some 40) rfl rfl Try.func58 z1_ rfl #[.slice A' b.length cc] rfl (by first | rfl | (go_simp; done)) ?_; refine (PAll.slices_Clone_byte_byte.calls A' cc b b _ HC.out HL.out (by unfold PAll.slices_Clone_byte_byte.f; rw [Option.bind_some, if_pos (by have := HB.out; simp only [List.length_nil]; omega), List.nil_append])).mono ?_; rintro e w' ⟨v, rfl, hr, hb⟩; refine ⟨_, rfl, ?_⟩; have HR := mk_ (Sp.made HS.out hb hr); clear hr hb)
    go_ret2
    exact ⟨_, rfl, HR.out⟩
   ·
    have he : p.read i = ([], 13) := by unfold Pd.read; rw [if_neg ho, if_neg hi, if_pos (by rw [hsp])]
    rw [he]
    rw [hsp] at k2
    have HS := mk_ hS
    clear hS he ho hok hb hl hc hi ho' hsp hC hcc hbl
    go_enter Try.func63, Try.ntmps63
    go_wp2
    go_ret2
    exact ⟨_, rfl, HS.out.nilRow _ _⟩
theorem pushed_ok {p : Pd} (h : p.Ok) (b : List Int) (hb : b.length ≤ 65536) (hl : p.slots.length < 4000) : ({ p with slots := p.slots ++ [(b, false)] } : Pd).Ok :=
 ⟨by have := h.safe; simp; omega, by simp; omega, h.arm, fun s hs => by
  rcases List.mem_append.1 hs with hs | hs
  ·
   exact h.bytes s hs
  ·
   rw [List.mem_singleton.1 hs]; exact hb⟩
set_option maxHeartbeats 4000000 in
set_option maxRecDepth 100000 in
theorem append_calls (hS : Sp w (PadP g p :: F)) (hok : p.Ok) (A1 : Option Addr) (c1 : Nat) (b : List Int) (hbc : b.length ≤ c1) (hbl : b.length ≤ 140737488351232) (hC : Kd.C (Kd.int .u8) w A1 b.length b) :
  Calls Try.prog 17 #[.pointer (some ⟨g, 0, none⟩), .slice A1 b.length c1] w fun e w' => e = .returned (.int .i64 (p.append b).2) ∧ Sp w' (PadP g (p.append b).1 :: F) := by
 obtain ⟨A, c, t, hc, h0, h1, h2, h3, h4, hfz⟩ := cells_P hS
 clear h1 h3 h4
 have hl := hok.len
 by_cases ho : p.off = true
 ·
  have he : p.append b = (p, 5) := by unfold Pd.append; rw [if_pos ho]
  rw [he]
  rw [ho] at h2
  have HS := mk_ hS
  clear hS he ho hok hbl hbc hC hl hc h0 hfz
  go_enter Try.func17, Try.ntmps17
  go_wp2
  go_ret
  exact ⟨rfl, HS.out⟩
 have ho' : p.off = false := by simpa using ho
 rw [ho'] at h2
 by_cases hb1 : b.length > 65536
 ·
  have he : p.append b = (p, 2) := by unfold Pd.append; rw [if_neg ho, if_pos hb1]
  rw [he]
  have hd : decide ((65536 : Int) < (b.length : Int)) = true := decide_eq_true z2_
  have HS := mk_ hS
  clear hS he ho hok hbl hbc hC hl hc h0 ho' hb1 hfz
  go_enter Try.func17, Try.ntmps17
  go_wp2
  go_ret
  exact ⟨rfl, HS.out⟩
 have hd : decide ((65536 : Int) < (b.length : Int)) = false := decide_eq_false z2_
 by_cases hs1 : p.slots.length ≥ 4000
 ·
  have he : p.append b = (p, 6) := by unfold Pd.append; rw [if_neg ho, if_neg hb1, if_pos hs1]
  rw [he]
  have hd2 : decide ((4000 : Int) ≤ (p.slots.length : Int)) = true := decide_eq_true z2_
  have HS := mk_ hS
  clear hS he ho hok hbl hbc hC hl hc ho' hb1 hs1 hfz
  go_enter Try.func17, Try.ntmps17
  go_wp2
  go_ret
  exact ⟨rfl, HS.out⟩
 have hd2 : decide ((4000 : Int) ≤ (p.slots.length : Int)) = false := decide_eq_false z2_
 have HC := mk_ hC
 have HBC := mk_ hbc
 have HB := mk_ hb1
 have HL := mk_ hs1
 have HOK := mk_ (pushed_ok hok b z2_ z2_)
 have HOF := mk_ (show ({ p with slots := p.slots ++ [(b, false)] } : Pd).off = false from ho')
 have HS := mk_ hS
 obtain ⟨r, hr⟩ : ∃ r, ({ p with slots := p.slots ++ [(b, false)] } : Pd).spend.2 = r := ⟨_, rfl⟩
 have he : p.append b = (({ p with slots := p.slots ++ [(b, false)] } : Pd).spend.1, if r then 0 else 5) := by unfold Pd.append; rw [if_neg ho, if_neg hb1, if_neg hs1, hr]
 rw [he]
 have HR := mk_ hr
 clear hS ho hok hbl hbc hC hl hc ho' hb1 hs1 hfz he hr
 go_enter Try.func17, Try.ntmps17
 go_wp2
 have hSd := HS.out.drew
 have hCd := C_drew HC.out
 refine start_ (n := 13) (S := fun w' => w'.cell? ⟨g, 0, none⟩ = some (.slice A p.slots.length c) ∧ True) (ds := [12]) (Steps.Bs 13 0) z1_ rfl rfl ⟨h0, trivial⟩ (fun hHeld => ?_)
 generalize w.drew = W at hSd hCd hHeld ⊢
 clear HS h0 h2
 refine Steps.pI_ 0 (some 21) (Steps.Bs 13 1) z1_ (h := ?_)
 refine Steps.pI_ 1 (some 22) (Steps.Bs 13 3) z1_ (h := ?_)
 refine Steps.pI_ 2 (some 23) (Steps.Bs 13 7) z1_ (h := ?_)
 refine Steps.pI_ 3 (some 24) (Steps.Bs 13 15) z1_ (h := ?_)
 refine Steps.pI_ 5 (some 26) (Steps.Bs 13 47) z1_ (h := ?_)
 refine Steps.tI_ 4 (some 25) (Steps.Bs 13 63) z1_ hHeld (h := ?_)
 refine one_ (i := 6) (N := some 27) (Steps.Bs 13 127) rfl rfl z1_ z5_ (fun K hK => ?_)
 refine goes_ Try.func58 z1_ rfl #[.slice A1 b.length c1] (by rfl) rfl rfl (by (try simp only [List.map_toArray, List.map_cons, List.map_nil]); first | done | rfl) ?_
 refine (PAll.slices_Clone_byte_byte.calls A1 c1 b b _ hCd HBC.out (by unfold PAll.slices_Clone_byte_byte.f; rw [Option.bind_some, if_pos (by have := HB.out; simp only [List.length_nil]; omega), List.nil_append])).mono ?_
 rintro e w' ⟨v, rfl, hr, hb⟩
 refine ⟨_, rfl, ?_⟩
 obtain ⟨vA, vc, rfl⟩ := R_slice hr
 have hS1 := Sp.made hSd hb hr
 have hHeld1 : w'.cell? ⟨g, 0, none⟩ = some (.slice A p.slots.length c) := (hb.cell (World.block_lt_of_cell? W _ hHeld.1)).trans hHeld.1
 clear hHeld hr hb hCd hSd
 refine hK.out _ _ ⟨hHeld1, trivial⟩ (fun _ => ?_)
 clear hK K
 refine norm_ (a' := ?_) ?_ ?_
 rotate_left
 ·
  show Act.put _ (some 27) _ = _
  simp only [Act.put, List.setIfInBounds_toArray, List.set_cons_zero, List.set_cons_succ, i64_w, i32_w]
  rfl
 refine Steps.pI_ 7 (some 28) (Steps.Bs 13 255) z1_ (h := ?_)
 refine one_ (i := 8) (N := some 29) (Steps.Bs 13 511) rfl rfl z1_ z5_ (fun K hK => ?_)
 refine value_ (w1 := ?_) (v := ?_) (by rfl) rfl ?_ ?_
 rotate_left 2
 ·
  go_simp
  constructor
  ·
   rfl
  ·
   rfl
 refine hK.out _ _ ⟨(Below.cell (below_alloc (Below.refl _ _) _) (World.block_lt_of_cell? w' _ hHeld1)).trans hHeld1, trivial⟩ (fun _ => ?_)
 clear hK K
 refine norm_ (a' := ?_) ?_ ?_
 rotate_left
 ·
  show Act.put _ (some 29) _ = _
  simp only [Act.put, List.setIfInBounds_toArray, List.set_cons_zero, List.set_cons_succ, i64_w, i32_w]
  rfl
 refine one_ (i := 9) (N := some 30) (Steps.Bs 13 1023) rfl rfl z1_ z5_ (fun K hK => ?_)
 obtain ⟨t', hS2⟩ := PadP.open hS1.s1
 obtain ⟨v', hS2⟩ := PadQ.open hS2
 obtain rfl : v' = .slice A p.slots.length c := by
  have h5 : w'.cell? ⟨g, 0, none⟩ = some v' := blk_cell hS2.blk 0
  rw [hHeld1] at h5
  exact (Option.some.inj h5).symm
 have hS3 : Sp w' (Row kSl 120 (.slice A p.slots.length c) p.slots :: El kSl (b, false) [.slice vA b.length vc, .bool false] :: Blk g (.cells #[.slice A p.slots.length c, .int .i64 p.safe, .bool p.off, .int .i64 p.life, t'] 118 (0, 0)) :: TripP t' p.arm :: F) :=
  (Sp.as hS2.s3 (b := El kSl (b, false) [.slice vA b.length vc, .bool false]) (fun ok h => ⟨[_], [_], rfl, ⟨_, rfl, h⟩, rfl⟩)).s2
 have HS3 := mk_ hS3
 clear hS3 hS2 hS1
 refine Sp.append_step kSl (W := w') (by rfl) (.tmp 25) (.tmp 29) 115 120 (.agg #[.slice none 0 0, .bool false]) 32 rfl Try.underlying115 infoSl rfl z5_ z2_ (.slice A p.slots.length c) p.slots (b, false) [.slice vA b.length vc, .bool false] rfl rfl HS3.out (by have := HL.out; omega) ?_
 intro v1 w1 hS4
 have hg1 := hS4.s1.blk
 refine hK.out _ _ ⟨blk_cell hg1 0, trivial⟩ (fun _ => ?_)
 clear hK K
 refine norm_ (a' := ?_) ?_ ?_
 rotate_left
 ·
  show Act.put _ (some 30) _ = _
  simp only [Act.put, List.setIfInBounds_toArray, List.set_cons_zero, List.set_cons_succ, i64_w, i32_w]
  rfl
 refine Steps.pI_ 10 (some 31) (Steps.Bs 13 2047) z1_ (h := ?_)
 refine Steps.pI_ 11 (some 32) (Steps.Bs 13 4095) z1_ (h := ?_)
 refine last_ (i := 12) (N := none) (Steps.Bs 13 8191) rfl rfl z1_ z5_ (fun K hK => ?_)
 have hc0 : w1.cell? ⟨g, 0, none⟩ = some (.slice A p.slots.length c) := blk_cell hg1 0
 have hf0 := blk_frozen hg1 0
 obtain ⟨vA1, vc1, rfl⟩ : ∃ A c, v1 = .slice A (p.slots ++ [(b, false)]).length c := (hS4.row).elim fun A h => h.elim fun c h => ⟨A, c, h.1⟩
 refine skip_ (w1 := ?_) (by rfl) rfl ?_ ?_
 rotate_left
 ·
  go_simp
  rfl
 refine hK.out _ _ ?_
 clear hK K
 refine done_ z1_ ?_
 have hS5 := (hS4.s1.store 0 (.slice vA1 (p.slots.length + 1) vc1))
 have hz : (p.slots ++ [(b, false)]).length = p.slots.length + 1 := by simp
 rw [hz] at hS5
 have hS6 : Sp _ (PadP g { p with slots := p.slots ++ [(b, false)] } :: F) := PadP.shut (p := { p with slots := p.slots ++ [(b, false)] }) (PadQ.shut (p := { p with slots := p.slots ++ [(b, false)] }) hS5)
 have HS6 := mk_ hS6
 clear hS6 hS5 hS4 hc0 hf0 hg1 HS3 hz
 go_wp2_with ((with_reducible refine gate_callee (f := 59) rfl ?_); refine goesL_ (some 34) rfl rfl Try.func59 z1_ rfl #[.pointer (some ⟨g, 0, none⟩)] rfl (by first | rfl | (go_simp; done)) ?_; refine (spend_calls HS6.out HOK.out HOF.out).mono ?_; rw [HR.out]; rintro e w5 ⟨rfl, hS7⟩; refine ⟨_, rfl, ?_⟩; have HS7 := mk_ hS7; clear hS7; refine Stop.go ?_)
 constructor
 cases r
 ·
  go_wp2
  go_ret
  exact ⟨rfl, HS7.out⟩
 ·
  go_wp2
  go_ret
  exact ⟨rfl, HS7.out⟩
end
end Go.Proofs.Ytcbfliajgopdaaa.Pads
end
section
namespace Go.Proofs.Ytcbfliajgopdaaa.Sep
open Go.RowKit Go.Proofs.YtcbfliajgopdaaaW.PrintWords Go.Proofs.Ytcbfliajgopdaaa.ZipT Go.Proofs.YtcbfliajgopdaaaW.PrintWords.Kd Go.Proofs.YtcbfliajgopdaaaW.PrintMore.Kd
set_option linter.unusedVariables false
theorem Q_readsM {α : Type} {d : Kd α} {e : Nat} {w : World} {base : Nat} {ok : Nat → Prop} {xs : List α} {A : Option Addr} {n c : Nat} (h : d.Q e w base ok (.slice A n c) xs) : n = xs.length ∧ n ≤ c ∧ ReadsRow (d.M w base ok) d.sz w A xs.length xs := by
 obtain ⟨_, inner, ho, hr⟩ := h
 obtain ⟨A', c', he, hl⟩ := q_slice ho
 injection he with h1 h2 h3
 subst h1; subst h2; subst h3
 refine ⟨rfl, hl, rfl, q_max ho, fun hp => ?_⟩
 obtain ⟨ad, ha, hc⟩ := q_cells ho hp
 refine ⟨ad, ha, fun j p hj => ⟨(inner.drop (j * d.sz)).take d.sz, ?_, d.M_mono (fun k hk => hk.1) (hr.2 j p hj), fun i u hu => ?_⟩⟩
 ·
  have hjl := (List.getElem?_eq_some_iff.1 hj).1
  have h1 : j * d.sz + d.sz ≤ inner.length := by rw [hr.1, ← Nat.succ_mul]; exact Nat.mul_le_mul_right _ hjl
  rw [List.length_take, List.length_drop]
  omega
 ·
  refine hc _ u ?_
  rw [List.getElem?_take] at hu
  split at hu
  ·
   rw [List.getElem?_drop] at hu
   exact hu
  ·
   cases hu
theorem R_takeM {α : Type} {d : Kd α} {e : Nat} {w : World} {base : Nat} {ok : Nat → Prop} {xs : List α} {A : Option Addr} {n c : Nat} (h : d.R e w base ok (.slice A n c) xs) {k : Nat} (hk : k ≤ xs.length) :
  ReadsRow (d.M w base ok) d.sz w A (xs.take k).length (xs.take k) := (Q_readsM (Q_take (Q_of_R h) hk)).2.2
end Go.Proofs.Ytcbfliajgopdaaa.Sep
end
section
namespace Go.Proofs.Ytcbfliajgopdaaa.Pads
open Go.RowKit Go.Proofs.YtcbfliajgopdaaaW.PrintWords Go.Proofs.YtcbfliajgopdaaaW.PrintLast Go.Proofs.YtcbfliajgopdaaaW.PrintMore Go.Proofs.Ytcbfliajgopdaaa.Sep Go.Proofs.Ytcbfliajgopdaaa.ZipT Go.Proofs.YtcbfliajgopdaaaW.PrintWords.Kd Go.Proofs.YtcbfliajgopdaaaW.PrintMore.Kd
set_option linter.unusedVariables false
set_option linter.unusedSimpArgs false
attribute [local go_sem] max2_int min2_int max_two min_two max_three min_three max_four min_four
section
variable {w : World} {g : Nat} {p : Pd} {F : List Part}
set_option maxHeartbeats 4000000 in
set_option maxRecDepth 100000 in
set_option maxHeartbeats 4000000 in
set_option maxRecDepth 100000 in
theorem cut_calls (hS : Sp w (PadP g p :: F)) (hok : p.Ok) (n : Int) :
  Calls Try.prog 65 #[.pointer (some ⟨g, 0, none⟩), .int .i64 n] w fun e w' => e = .returned (.int .i64 (p.cut n).2) ∧ Sp w' (PadP g (p.cut n).1 :: F) := by
 obtain ⟨A, c, t, hc, h0, h1, h2, h3, h4, hfz⟩ := cells_P hS
 clear h1 h3 h4 hfz
 by_cases ho : p.off = true
 ·
  have he : p.cut n = (p, 5) := by unfold Pd.cut; rw [if_pos ho]
  rw [he]
  rw [ho] at h2
  have HS := mk_ hS
  clear hS he ho hok hc h0
  go_enter Try.func65, Try.ntmps65
  go_wp2
  go_ret
  exact ⟨rfl, HS.out⟩
 have ho' : p.off = false := by simpa using ho
 rw [ho'] at h2
 by_cases hn : n < 0 ∨ n > p.slots.length
 ·
  have he : p.cut n = (p, 1) := by unfold Pd.cut; rw [if_neg ho, if_pos hn]
  rw [he]
  have HS := mk_ hS
  by_cases hn0 : n < 0
  ·
   have hd0 : decide (n < 0) = true := decide_eq_true hn0
   clear hS he ho hok hc hn ho' hn0
   go_enter Try.func65, Try.ntmps65
   go_wp2
   go_ret
   exact ⟨rfl, HS.out⟩
  ·
   have hd0 : decide (n < 0) = false := decide_eq_false hn0
   have hd1 : decide ((p.slots.length : Int) < n) = true := decide_eq_true z2_
   clear hS he ho hok hc hn ho' hn0
   go_enter Try.func65, Try.ntmps65
   go_wp2
   go_ret
   exact ⟨rfl, HS.out⟩
 obtain ⟨m, rfl⟩ := Int.eq_ofNat_of_zero_le (show 0 ≤ n by omega)
 have hd0 : decide ((m : Int) < 0) = false := decide_eq_false z2_
 have hd1 : decide (p.slots.length < m) = false := decide_eq_false z2_
 have hms : m ≤ p.slots.length := by omega
 cases hr : p.spend.2
 ·
  have he : p.cut (m : Int) = (p.spend.1, 5) := by unfold Pd.cut; rw [if_neg ho, if_neg hn, if_neg (by rw [hr]; decide)]
  rw [he]
  have HS := mk_ hS
  have HOK := mk_ hok
  have HOF := mk_ ho'
  have HR := mk_ hr
  clear hS he ho hok hc hn ho' hr
  go_enter Try.func65, Try.ntmps65
  go_wp2_with ((with_reducible refine gate_callee (f := 59) rfl ?_); refine goesL_ (some 24) rfl rfl Try.func59 z1_ rfl #[.pointer (some ⟨g, 0, none⟩)] rfl (by first | rfl | (go_simp; done)) ?_; refine (spend_calls HS.out HOK.out HOF.out).mono ?_; rw [HR.out]; rintro e w5 ⟨rfl, hS7⟩; refine ⟨_, rfl, ?_⟩; have HS7 := mk_ hS7; clear hS7)
  go_ret
  exact ⟨rfl, HS7.out⟩
 obtain ⟨hp1, hp2, hp3, hp4⟩ := Pd.spend_true hr
 have he : p.cut (m : Int) = ({ p.spend.1 with slots := p.spend.1.slots.take m, safe := min p.spend.1.safe m }, 0) := by unfold Pd.cut; rw [if_neg ho, if_neg hn, if_pos hr]; simp only [Int.toNat_natCast]
 rw [he]
 have hok1 := Pd.spend_ok hok ho'
 have hmq : m ≤ p.spend.1.slots.length := by rw [hp1]; omega
 generalize hq : p.spend.1 = q at *
 have HQ := mk_ hq
 have HS := mk_ hS
 have HOK := mk_ hok
 have HOF := mk_ ho'
 have HR := mk_ hr
 have HP2 := mk_ hp2
 have HOK1 := mk_ hok1
 clear hS he ho hok hc hn ho' hr hp1 hp2 hp3 hp4 hok1 hq
 go_enter Try.func65, Try.ntmps65
 go_wp2_with ((with_reducible refine gate_callee (f := 59) rfl ?_); refine goesL_ (some 24) rfl rfl Try.func59 z1_ rfl #[.pointer (some ⟨g, 0, none⟩)] rfl (by first | rfl | (go_simp; done)) ?_; refine (spend_calls HS.out HOK.out HOF.out).mono ?_; rw [HR.out]; rintro e w5 ⟨rfl, hS7⟩; refine ⟨_, rfl, ?_⟩; rw [HQ.out] at hS7; have HS7 := mk_ hS7; clear hS7 HS h0 h2)
 obtain ⟨A, c, t, hc, h0, h1, h2, h3, h4, hfz⟩ := cells_P HS7.out
 have hql := HOK1.out.safe
 clear h2 h3 h4 hfz
 have hSd := HS7.out.drew
 have hml : m ≤ q.slots.length := hmq
 have hmc : m ≤ c := by omega
 have hsub : mn (q.safe : Int) (m : Int) = ((min q.safe m : Nat) : Int) := by unfold mn; omega
 refine start_ (n := 21) (S := fun w' => w'.cell? ⟨g, 0, none⟩ = some (.slice A q.slots.length c) ∧ w'.cell? ⟨g, 1, none⟩ = some (.int .i64 q.safe)) (ds := [17, 20]) (Steps.Bs 21 0) z1_ rfl rfl ⟨h0, h1⟩ (fun hHeld => ?_)
 generalize w5.drew = W at hSd hHeld ⊢
 clear HS7 h0 h1
 refine Steps.pI_ 0 (some 26) (Steps.Bs 21 1) z1_ (h := ?_)
 refine Steps.pI_ 1 (some 27) (Steps.Bs 21 3) z1_ (h := ?_)
 refine Steps.pI_ 2 (some 28) (Steps.Bs 21 7) z1_ (h := ?_)
 refine Steps.pI_ 3 (some 29) (Steps.Bs 21 15) z1_ (h := ?_)
 refine Steps.pI_ 4 (some 30) (Steps.Bs 21 31) z1_ (h := ?_)
 refine Steps.tI_ 5 (some 31) (Steps.Bs 21 63) z1_ hHeld (h := ?_)
 refine Steps.pI_ 6 (some 32) (Steps.Bs 21 127) z1_ (h := ?_)
 refine Steps.pI_ 7 (some 33) (Steps.Bs 21 255) z1_ (h := ?_)
 refine Steps.pI_ 9 (some 35) (Steps.Bs 21 767) z1_ (h := ?_)
 refine Steps.pI_ 10 (some 36) (Steps.Bs 21 1791) z1_ (h := ?_)
 refine Steps.pI_ 11 (some 37) (Steps.Bs 21 3839) z1_ (h := ?_)
 refine Steps.tI_ 12 (some 38) (Steps.Bs 21 7935) z1_ hHeld (h := ?_)
 refine Steps.pI_ 13 (some 39) (Steps.Bs 21 16127) z1_ (h := ?_)
 refine Steps.pI_ 14 (some 40) (Steps.Bs 21 32511) z1_ (h := ?_)
 refine one_ (i := 8) (N := some 34) (Steps.Bs 21 32767) rfl rfl z1_ z5_ (fun K hK => ?_)
 have hdl : (q.slots.take m).length = m := by rw [List.length_take]; omega
 rw [show (Value.slice A m c) = Value.slice A (q.slots.take m).length c from by rw [hdl]]
 obtain ⟨t', hS2⟩ := PadP.open hSd
 obtain ⟨v', hS2⟩ := PadQ.open hS2
 obtain rfl : v' = .slice A q.slots.length c := by
  have h5 : W.cell? ⟨g, 0, none⟩ = some v' := blk_cell hS2.blk 0
  rw [hHeld.1] at h5
  exact (Option.some.inj h5).symm
 refine goes_ Try.func94 z1_ rfl #[.slice A (q.slots.take m).length c] (by rfl) rfl rfl (by (try simp only [List.map_toArray, List.map_cons, List.map_nil]); first | done | rfl) ?_
 refine (cloneSl_calls (xs := q.slots) (ys := q.slots.take m) hS2.s1 (by rw [hdl]; have := HOK1.out.len; omega) (fun ok h => R_takeM (d := kSl) h hml)).mono ?_
 rintro e w' ⟨v1, rfl, hS3⟩
 refine ⟨_, rfl, ?_⟩
 have hg1 := hS3.s1.blk
 have hc0 : w'.cell? ⟨g, 0, none⟩ = some (.slice A q.slots.length c) := blk_cell hg1 0
 have hc1 : w'.cell? ⟨g, 1, none⟩ = some (.int .i64 q.safe) := blk_cell hg1 1
 have hf0 := blk_frozen hg1 0
 have hf1 := blk_frozen hg1 1
 refine hK.out _ _ ⟨hc0, hc1⟩ (fun _ => ?_)
 clear hK K
 refine norm_ (a' := ?_) ?_ ?_
 rotate_left
 ·
  show Act.put _ (some 34) _ = _
  simp only [Act.put, List.setIfInBounds_toArray, List.set_cons_zero, List.set_cons_succ, i64_w, i32_w]
  rfl
 refine Steps.pI_ 15 (some 41) (Steps.Bs 21 65535) z1_ (h := ?_)
 refine Steps.pI_ 16 (some 42) (Steps.Bs 21 131071) z1_ (h := ?_)
 obtain ⟨vA1, vc1, rfl⟩ : ∃ A c, v1 = .slice A (q.slots.take m).length c := (hS3.row).elim fun A h => h.elim fun c h => ⟨A, c, h.1⟩
 refine last_ (i := 17) (N := none) (Steps.Bs 21 262143) rfl rfl z1_ z5_ (fun K hK => ?_)
 refine skip_ (w1 := ?_) (by rfl) rfl ?_ ?_
 rotate_left
 ·
  go_simp
  rfl
 refine hK.out _ _ ?_
 clear hK K
 refine Steps.pI_ 18 (some 43) (Steps.Bs 21 524287) z1_ (h := ?_)
 refine Steps.pI_ 19 (some 44) (Steps.Bs 21 1048575) z1_ (h := ?_)
 refine last_ (i := 20) (N := none) (Steps.Bs 21 2097151) rfl rfl z1_ z5_ (fun K hK => ?_)
 refine skip_ (w1 := ?_) (by rfl) rfl ?_ ?_
 rotate_left
 ·
  go_simp
  rfl
 refine hK.out _ _ ?_
 clear hK K
 refine done_ z1_ ?_
 have hS5 := (hS3.s1.store 0 (.slice vA1 m vc1)).store 1 (.int .i64 ((min q.safe m : Nat) : Int))
 rw [hdl] at hS5
 have HS5 := mk_ hS5
 clear hS5 hS3 hS2 hg1 hc0 hc1 hf0 hf1 hsub hHeld hSd
 go_wp2
 all_goals
  go_ret
  have hfin := PadP.shut (p := { q with slots := q.slots.take m, safe := min q.safe m }) (PadQ.shut (p := { q with slots := q.slots.take m, safe := min q.safe m }) HS5.out)
  refine ⟨rfl, ?_⟩
  first
   | (rw [show min q.safe m = m from by omega] at hfin ⊢; exact hfin)
   | (rw [show min q.safe m = q.safe from by omega] at hfin ⊢; exact hfin)
end
end Go.Proofs.Ytcbfliajgopdaaa.Pads
end
section
namespace Go.Proofs.Ytcbfliajgopdaaa.Pads
open Go.RowKit Go.Proofs.YtcbfliajgopdaaaW.PrintWords Go.Proofs.YtcbfliajgopdaaaW.PrintLast Go.Proofs.YtcbfliajgopdaaaW.PrintMore Go.Proofs.Ytcbfliajgopdaaa.Sep Go.Proofs.Ytcbfliajgopdaaa.ZipT Go.Proofs.YtcbfliajgopdaaaW.PrintWords.Kd Go.Proofs.YtcbfliajgopdaaaW.PrintMore.Kd
set_option linter.unusedVariables false
set_option linter.unusedSimpArgs false
section
variable {w : World} {g : Nat} {p q : Pd} {F : List Part} {x : Int}
theorem append_to (hS : Sp w (PadP g p :: F)) (hok : p.Ok) (A1 : Option Addr) (c1 : Nat) (b : List Int) (hbc : b.length ≤ c1) (hbl : b.length ≤ 140737488351232) (hC : Kd.C (Kd.int .u8) w A1 b.length b) (he : p.append b = (q, x)) :
  Calls Try.prog 17 #[.pointer (some ⟨g, 0, none⟩), .slice A1 b.length c1] w fun e w' => e = .returned (.int .i64 x) ∧ Sp w' (PadP g q :: F) := by
 have h := append_calls hS hok A1 c1 b hbc hbl hC
 rw [he] at h
 exact h
theorem sync_to (hS : Sp w (PadP g p :: F)) (hok : p.Ok) (he : p.sync = (q, x)) :
  Calls Try.prog 66 #[.pointer (some ⟨g, 0, none⟩)] w fun e w' => e = .returned (.int .i64 x) ∧ Sp w' (PadP g q :: F) := by
 have h := sync_calls hS hok
 rw [he] at h
 exact h
theorem cut_to (hS : Sp w (PadP g p :: F)) (hok : p.Ok) (n : Int) (he : p.cut n = (q, x)) :
  Calls Try.prog 65 #[.pointer (some ⟨g, 0, none⟩), .int .i64 n] w fun e w' => e = .returned (.int .i64 x) ∧ Sp w' (PadP g q :: F) := by
 have h := cut_calls hS hok n
 rw [he] at h
 exact h
theorem read_to (hS : Sp w (PadP g p :: F)) (hok : p.Ok) (i : Int) {b : List Int} (he : p.read i = (b, x)) :
  Calls Try.prog 63 #[.pointer (some ⟨g, 0, none⟩), .int .i64 i] w fun e w' => ∃ v, e = .returned (.tuple #[v, .int .i64 x]) ∧ Sp w' (Row (Kd.int .u8) 5 v b :: PadP g p :: F) := by
 have h := read_calls hS hok i
 rw [he] at h
 exact h
theorem crash_to {K : Part} (hS : Sp w (PadP g p :: K :: F)) (hok : p.Ok) (A1 : Option Addr) (c1 : Nat) (keep : List Bool) (torn : Int) (hK : ∀ w ok, K.P w ok → Kd.C Kd.bool w A1 keep.length keep) (he : p.crash keep torn = q) :
  Calls Try.prog 23 #[.pointer (some ⟨g, 0, none⟩), .slice A1 keep.length c1, .int .i64 torn] w fun e w' => (∃ v, e = .returned v) ∧ Sp w' (PadP g q :: K :: F) := by
 subst he
 cases ho : p.off
 ·
  obtain ⟨t, hS⟩ := PadP.open hS
  refine (crash_on A1 c1 keep torn ho hok (Sp.tail (Sp.s1 hS)).s1.s1 hK).mono ?_
  rintro e w' ⟨h1, h2⟩
  refine ⟨h1, PadP.shut (t := .pointer none) ?_⟩
  rw [show (p.crash keep torn).arm = none from by rw [Pd.crash_on p ho]]
  exact (TripP.none_mk h2).s1
 ·
  obtain ⟨t, hS'⟩ := PadP.open hS
  refine (crash_off A1 keep.length c1 torn ho hS').mono ?_
  rintro e w' ⟨h1, rfl⟩
  rw [Pd.crash_off p ho]
  exact ⟨h1, hS⟩
theorem encs_reps {α : Type} (enc : α → Value) (xs : List α) : Reps (fun x cs => cs = [enc x]) 1 xs (xs.map enc) := by
 refine ⟨by simp, fun j p hj => ?_⟩
 obtain ⟨h1, rfl⟩ := List.getElem?_eq_some_iff.1 hj
 rw [Nat.mul_one, List.drop_eq_getElem_cons (by simpa using h1), List.take_succ_cons, List.take_zero, List.getElem_map]
theorem _root_.Go.Proofs.Ytcbfliajgopdaaa.Sep.Sp.lit {α : Type} {enc : α → Value} {h1 : ∀ x, (enc x).oneCell' = true} (e : TypeId) (xs : List α) (hm : xs.length ≤ 9223372036854775807) (h : Sp w F) :
  Sp (w.alloc (.cells (xs.map enc).toArray e)) (Row (Kd.scalar enc h1) e (.slice (some ⟨w.heap.size, 0, none⟩) xs.length xs.length) xs :: F) := by
 refine h.new (a := Row (Kd.scalar enc h1) e (.slice (some ⟨w.heap.size, 0, none⟩) xs.length xs.length) xs) (below_alloc (Below.refl _ _) _) ⟨fun k hk => ?_, ?_⟩
 ·
  have : w.heap.size = k := by simpa [Value.ownBlock] using hk
  subst this
  exact ⟨Nat.le_refl _, by simp⟩
 ·
  exact OwnRow.lit w 0 (encs_reps enc xs) (Nat.zero_le _) hm
theorem row_C {α : Type} {d : Kd α} {e : Nat} {A : Option Addr} {n c : Nat} {xs : List α} (h : Sp w (Row d e (.slice A n c) xs :: F)) : n = xs.length ∧ n ≤ c ∧ d.C w A xs.length xs := (h.has).elim fun _ h => R_reads' h
theorem lit_u8 (x : Int) (h : Sp w F) : Sp (w.alloc (.cells #[.int .u8 x] 5)) (Row (Kd.int .u8) 5 (.slice (some ⟨w.heap.size, 0, none⟩) 1 1) [x] :: F) := Sp.lit (enc := Value.int .u8) (h1 := fun _ => rfl) 5 [x] (by simp) h
end
end Go.Proofs.Ytcbfliajgopdaaa.Pads
end
section
namespace Go.Proofs.Ytcbfliajgopdaaa.Logs
open Go.RowKit Go.Proofs.Ytcbfliajgopdaaa.PAll Go.Proofs.Ytcbfliajgopdaaa.Plain Go.Proofs.Ytcbfliajgopdaaa.Ops Go.Proofs.YtcbfliajgopdaaaW.PrintWords Go.Proofs.YtcbfliajgopdaaaW.PrintLast Go.Proofs.YtcbfliajgopdaaaW.PrintMore Go.Proofs.Ytcbfliajgopdaaa.Pads Go.Proofs.Ytcbfliajgopdaaa.Sep Go.Proofs.Ytcbfliajgopdaaa.ZipT Go.Proofs.YtcbfliajgopdaaaW.PrintWords.Kd Go.Proofs.YtcbfliajgopdaaaW.PrintMore.Kd
set_option linter.unusedVariables false
set_option linter.unusedSimpArgs false
section
variable {w : World} {F : List Part}
theorem _root_.Go.Proofs.Ytcbfliajgopdaaa.Sep.Sp.join3 {a b c q : Part} (h : Sp w (a :: b :: c :: F)) (f : ∀ ok, a.P w ok → b.P w ok → c.P w ok → q.P w ok) : Sp w (q :: F) := by
 obtain ⟨o1, h1, ha, o2, h2, hb, o3, h3, hc, hF⟩ := h
 refine ⟨fun k => o1 k ∨ o2 k ∨ o3 k, fun k hk => ?_, f _ (a.mono ha (fun k _ hk => .inl hk)) (b.mono hb (fun k _ hk => .inr (.inl hk))) (c.mono hc (fun k _ hk => .inr (.inr hk))), hF.wide (fun k hk => ⟨hk.1.1.1, fun e => ?_⟩)⟩
 ·
  rcases hk with e | e | e
  ·
   exact h1 k e
  ·
   exact (h2 k e).1
  ·
   exact (h3 k e).1.1
 ·
  rcases e with e | e | e
  ·
   exact hk.1.1.2 e
  ·
   exact hk.1.2 e
  ·
   exact hk.2 e
abbrev put12 (w : World) (g : Nat) (u0 u1 u2 u3 u4 u5 u6 u7 u8 u9 u10 u11 : Value) : World := ((((((((((((w.setCell ⟨g, 0, none⟩ u0).setCell ⟨g, 1, none⟩ u1).setCell ⟨g, 2, none⟩ u2).setCell ⟨g, 3, none⟩ u3).setCell ⟨g, 4, none⟩ u4).setCell ⟨g, 5, none⟩ u5).setCell ⟨g, 6, none⟩ u6).setCell ⟨g, 7, none⟩ u7).setCell ⟨g, 8, none⟩ u8).setCell ⟨g, 9, none⟩ u9).setCell ⟨g, 10, none⟩ u10).setCell ⟨g, 11, none⟩ u11)
theorem _root_.Go.Proofs.Ytcbfliajgopdaaa.Sep.Sp.put12 {w : World} {F : List Part} {g : Nat} {t : TypeId} {fz : Nat × Nat} {c0 c1 c2 c3 c4 c5 c6 c7 c8 c9 c10 c11 : Value} (h : Sp w (Blk g (.cells #[c0, c1, c2, c3, c4, c5, c6, c7, c8, c9, c10, c11] t fz) :: F)) (u0 u1 u2 u3 u4 u5 u6 u7 u8 u9 u10 u11 : Value) :
  Sp (put12 w g u0 u1 u2 u3 u4 u5 u6 u7 u8 u9 u10 u11) (Blk g (.cells #[u0, u1, u2, u3, u4, u5, u6, u7, u8, u9, u10, u11] t fz) :: F) := by
 replace h : Sp _ (Blk g (.cells #[u0, c1, c2, c3, c4, c5, c6, c7, c8, c9, c10, c11] t fz) :: F) := h.store 0 u0
 replace h : Sp _ (Blk g (.cells #[u0, u1, c2, c3, c4, c5, c6, c7, c8, c9, c10, c11] t fz) :: F) := h.store 1 u1
 replace h : Sp _ (Blk g (.cells #[u0, u1, u2, c3, c4, c5, c6, c7, c8, c9, c10, c11] t fz) :: F) := h.store 2 u2
 replace h : Sp _ (Blk g (.cells #[u0, u1, u2, u3, c4, c5, c6, c7, c8, c9, c10, c11] t fz) :: F) := h.store 3 u3
 replace h : Sp _ (Blk g (.cells #[u0, u1, u2, u3, u4, c5, c6, c7, c8, c9, c10, c11] t fz) :: F) := h.store 4 u4
 replace h : Sp _ (Blk g (.cells #[u0, u1, u2, u3, u4, u5, c6, c7, c8, c9, c10, c11] t fz) :: F) := h.store 5 u5
 replace h : Sp _ (Blk g (.cells #[u0, u1, u2, u3, u4, u5, u6, c7, c8, c9, c10, c11] t fz) :: F) := h.store 6 u6
 replace h : Sp _ (Blk g (.cells #[u0, u1, u2, u3, u4, u5, u6, u7, c8, c9, c10, c11] t fz) :: F) := h.store 7 u7
 replace h : Sp _ (Blk g (.cells #[u0, u1, u2, u3, u4, u5, u6, u7, u8, c9, c10, c11] t fz) :: F) := h.store 8 u8
 replace h : Sp _ (Blk g (.cells #[u0, u1, u2, u3, u4, u5, u6, u7, u8, u9, c10, c11] t fz) :: F) := h.store 9 u9
 replace h : Sp _ (Blk g (.cells #[u0, u1, u2, u3, u4, u5, u6, u7, u8, u9, u10, c11] t fz) :: F) := h.store 10 u10
 replace h : Sp _ (Blk g (.cells #[u0, u1, u2, u3, u4, u5, u6, u7, u8, u9, u10, u11] t fz) :: F) := h.store 11 u11
 exact h
abbrev put7 (w : World) (g : Nat) (u0 u1 u2 u3 u4 u5 u6 : Value) : World := (((((((w.setCell ⟨g, 0, none⟩ u0).setCell ⟨g, 1, none⟩ u1).setCell ⟨g, 2, none⟩ u2).setCell ⟨g, 3, none⟩ u3).setCell ⟨g, 4, none⟩ u4).setCell ⟨g, 5, none⟩ u5).setCell ⟨g, 6, none⟩ u6)
theorem _root_.Go.Proofs.Ytcbfliajgopdaaa.Sep.Sp.put7 {w : World} {F : List Part} {g : Nat} {t : TypeId} {fz : Nat × Nat} {c0 c1 c2 c3 c4 c5 c6 : Value} (h : Sp w (Blk g (.cells #[c0, c1, c2, c3, c4, c5, c6] t fz) :: F)) (u0 u1 u2 u3 u4 u5 u6 : Value) :
  Sp (put7 w g u0 u1 u2 u3 u4 u5 u6) (Blk g (.cells #[u0, u1, u2, u3, u4, u5, u6] t fz) :: F) := by
 replace h : Sp _ (Blk g (.cells #[u0, c1, c2, c3, c4, c5, c6] t fz) :: F) := h.store 0 u0
 replace h : Sp _ (Blk g (.cells #[u0, u1, c2, c3, c4, c5, c6] t fz) :: F) := h.store 1 u1
 replace h : Sp _ (Blk g (.cells #[u0, u1, u2, c3, c4, c5, c6] t fz) :: F) := h.store 2 u2
 replace h : Sp _ (Blk g (.cells #[u0, u1, u2, u3, c4, c5, c6] t fz) :: F) := h.store 3 u3
 replace h : Sp _ (Blk g (.cells #[u0, u1, u2, u3, u4, c5, c6] t fz) :: F) := h.store 4 u4
 replace h : Sp _ (Blk g (.cells #[u0, u1, u2, u3, u4, u5, c6] t fz) :: F) := h.store 5 u5
 replace h : Sp _ (Blk g (.cells #[u0, u1, u2, u3, u4, u5, u6] t fz) :: F) := h.store 6 u6
 exact h
theorem _root_.Go.Proofs.Ytcbfliajgopdaaa.Sep.Sp.boxed {w w1 : World} {F : List Part} (h : Sp w F) {g : Nat} {o : Obj} (hg : g = w.heap.size) (hb : w1.heap[g]? = some o) (hw : Below w.heap.size w w1) : Sp w1 (Blk g o :: F) :=
 h.new (a := Blk g o) hw ⟨⟨by omega, (Array.getElem?_eq_some_iff.1 hb).1⟩, hb⟩
theorem results_tcc {P : Program} {fn : Func} {t p q : Tmp} {ty tz : TypeId} (h : fn.results = #[.tmp t, .cell p ty, .cell q tz]) (tmps : Array Value) (w : World) (g : Nat) (t1 : TypeId) (cs : Array Value) (fr : Nat × Nat) (d : TypeDesc)
  (hp : tmps.getD p undef = .pointer (some ⟨g, 0, none⟩)) (hg : w.heap[g]? = some (.cells cs t1 fr)) (hu : P.underlying ty = some d) (hd : (match d with | .struct _ | .array _ _ => true | _ => false) = true) (hi : (P.info? ty).map (·.size) = some cs.size)
  (g2 : Nat) (t2 : TypeId) (cs2 : Array Value) (fr2 : Nat × Nat) (d2 : TypeDesc)
  (hq : tmps.getD q undef = .pointer (some ⟨g2, 0, none⟩)) (hg2 : w.heap[g2]? = some (.cells cs2 t2 fr2)) (hu2 : P.underlying tz = some d2) (hd2 : (match d2 with | .struct _ | .array _ _ => true | _ => false) = true) (hi2 : (P.info? tz).map (·.size) = some cs2.size) :
  (results fn tmps).run P w = .ok (.tuple #[tmps.getD t undef, .agg cs, .agg cs2]) w := by
 have hp' : tmps[p]?.getD undef = .pointer (some ⟨g, 0, none⟩) := by simpa using hp
 have hq' : tmps[q]?.getD undef = .pointer (some ⟨g2, 0, none⟩) := by simpa using hq
 simp [results, h, hp', hq', asAddr, run_loadVar_row w g t1 ty cs fr d hg hu hd hi, run_loadVar_row w g2 t2 tz cs2 fr2 d2 hg2 hu2 hd2 hi2, Sem.run_bind, Result.andThen]
theorem results_tctt {P : Program} {fn : Func} {t p u v : Tmp} {ty : TypeId} (h : fn.results = #[.tmp t, .cell p ty, .tmp u, .tmp v]) (tmps : Array Value) (w : World) (g : Nat) (t1 : TypeId) (cs : Array Value) (fr : Nat × Nat) (d : TypeDesc)
  (hp : tmps.getD p undef = .pointer (some ⟨g, 0, none⟩)) (hg : w.heap[g]? = some (.cells cs t1 fr)) (hu : P.underlying ty = some d) (hd : (match d with | .struct _ | .array _ _ => true | _ => false) = true) (hi : (P.info? ty).map (·.size) = some cs.size) :
  (results fn tmps).run P w = .ok (.tuple #[tmps.getD t undef, .agg cs, tmps.getD u undef, tmps.getD v undef]) w := by
 have hp' : tmps[p]?.getD undef = .pointer (some ⟨g, 0, none⟩) := by simpa using hp
 simp [results, h, hp', asAddr, run_loadVar_row w g t1 ty cs fr d hg hu hd hi, Sem.run_bind, Result.andThen]
def opC (x : Ox) (v2 v10 v11 : Value) : List Value := [.int .i64 x.f0.f0, .int .i64 x.f0.f1, v2, .int .i64 x.f2.f0, .int .i64 x.f2.f1, .int .i64 x.f2.f2, .int .i64 x.f3, .int .i64 x.f4, .string x.f5, .int .i64 x.f6, v10, v11]
def snap0 : List Value := [.slice none 0 0, .int .i64 0, .int .i64 0, .int .i64 0, .slice none 0 0, .slice none 0 0, .slice none 0 0]
theorem op_el {x : Ox} {v2 v10 v11 : Value} (h : Sp w (Row (Kd.int .i64) 3 v2 x.f1 :: Row k89 89 v10 x.f7 :: Row k50 50 v11 x.f8 :: F)) :
  Sp w (El k54 x (opC x v2 v10 v11) :: F) :=
 Sp.join3 h (fun ok ha hb hc => k54_mkM w 0 ok x ha hb hc)
set_option maxHeartbeats 8000000 in
set_option maxRecDepth 100000 in
theorem record_some (A : Option Addr) (c : Nat) (b : List Int) (hbc : b.length ≤ c) (hC : Kd.C (Kd.int .u8) w A b.length b) (hB : Bytes b) (hl : b.length ≤ 1000000) (x : Ox) (hx : recOf b = some x) :
  Calls Try.prog 64 #[.slice A b.length c] w fun e w' => ∃ v2 v10 v11, e = .returned (.tuple #[.int .i64 1, .agg (opC x v2 v10 v11).toArray, .agg snap0.toArray]) ∧
   Sp w' [Row (Kd.int .i64) 3 v2 x.f1, Row k89 89 v10 x.f7, Row k50 50 v11 x.f8, Old w] := by
 obtain ⟨r, rfl⟩ : ∃ r, b = 1 :: r := by
  cases b with
  | nil => cases hx
  | cons z r =>
   have h1 : (if z = 1 then (if (sOpRead r 0).2.2 = 0 ∧ (sOpRead r 0).2.1 = r.length then some (sOpRead r 0).1 else none) else none) = some x := hx
   by_cases hz : z = 1
   ·
    exact ⟨r, by rw [hz]⟩
   ·
    rw [if_neg hz] at h1; cases h1
 have h1 : (if (sOpRead r 0).2.2 = 0 ∧ (sOpRead r 0).2.1 = r.length then some (sOpRead r 0).1 else none) = some x := by
  have : (if (1 : Int) = 1 then (if (sOpRead r 0).2.2 = 0 ∧ (sOpRead r 0).2.1 = r.length then some (sOpRead r 0).1 else none) else none) = some x := hx
  rwa [if_pos rfl] at this
 obtain ⟨h2, h3⟩ : (sOpRead r 0).2.2 = 0 ∧ (sOpRead r 0).2.1 = r.length := by
  by_cases h : (sOpRead r 0).2.2 = 0 ∧ (sOpRead r 0).2.1 = r.length
  ·
   exact h
  ·
   rw [if_neg h] at h1; cases h1
 rw [if_pos ⟨h2, h3⟩] at h1
 have hxr := Option.some.inj h1
 clear h1 hx
 have hBr : Bytes r := fun z hz => hB z (List.mem_cons_of_mem _ hz)
 have hlr : r.length ≤ 1000000 := by rw [List.length_cons] at hl; omega
 have hlen : (1 :: r).length = r.length + 1 := List.length_cons
 have hCr := C_drop (m := 1) hC (by rw [hlen]; omega) hbc
 obtain ⟨ad, e, hx0⟩ := Kd.at_int hC 0 z2_ (by rw [hlen]; omega)
 cases e
 rw [show ((0 : Int)).toNat = 0 from rfl, Addr.add_zero', show rd (1 :: r) 0 = 1 from rfl] at hx0
 rw [hlen] at hbc ⊢
 have hk1 : (((r.length + 1 : Nat) : Int) == 0) = false := beq_eq_false_iff_ne.mpr z2_
 have hk2 : decide (0 < r.length + 1) = true := decide_eq_true z2_
 have hk3 : decide (1 ≤ r.length + 1) = true := decide_eq_true z2_
 have h1 := (Sp.start w).box (.cells #[.int .i64 0, .int .i64 0, .slice none 0 0, .int .i64 0, .int .i64 0, .int .i64 0, .int .i64 0, .int .i64 0, .string ⟨#[]⟩, .int .i64 0, .slice none 0 0, .slice none 0 0] 54 (0, 0))
 have h4 := h1.box (.cells #[.slice none 0 0, .int .i64 0, .int .i64 0, .int .i64 0, .slice none 0 0, .slice none 0 0, .slice none 0 0] 31 (0, 0))
 rw [show (w.alloc (.cells #[.int .i64 0, .int .i64 0, .slice none 0 0, .int .i64 0, .int .i64 0, .int .i64 0, .int .i64 0, .int .i64 0, .string ⟨#[]⟩, .int .i64 0, .slice none 0 0, .slice none 0 0] 54 (0, 0))).heap.size = w.heap.size + 1 from Array.size_push _] at h4
 have hx1 := ((Sp.old h4.s2).cell (World.block_lt_of_cell? _ _ hx0)).trans hx0
 have HS := mk_ h4
 clear h1 h4
 have HC := mk_ hCr
 clear hC hCr
 by_cases hc : c = 1
 ·
  have hr : r = [] := List.eq_nil_of_length_eq_zero z2_
  subst hr
  exact absurd h2 (by decide +kernel)
 ·
  have hc1 := eq_false hc
  simp only [hc1, if_false, Option.map_some, List.drop_succ_cons, List.drop_zero] at HC
  go_enter Try.func64, Try.ntmps64
  go_wp2_with (first
   | ((with_reducible refine gate_callee (f := 93) rfl ?_); go_loud (refine Short.gL (some 26) Try.func93 #[.slice (some ⟨ad.block, ad.off + 1, none⟩) r.length (c - 1), .int .i64 0] (h := ?_); have q_ := read_sp (A := some ⟨ad.block, ad.off + 1, none⟩) (c := c - 1) (C_below HC.out (Sp.old HS.out.s2)) z2_ hBr hlr 0; rw [h2, h3, hxr] at q_; refine q_.mono ?_; clear q_; rintro e W3 ⟨v2, v10, v11, rfl, h_⟩; refine ⟨_, rfl, ?_⟩; have n_ := Sp.frame (X := [_, _, _]) HS.out h_; simp only [List.cons_append, List.nil_append] at n_; obtain ⟨A2, c2, rfl, _, _⟩ := n_.row; obtain ⟨A10, c10, rfl, _, _⟩ := n_.s1.row; obtain ⟨A11, c11, rfl, _, _⟩ := n_.s2.row; clear HS h_; have HS := mk_ n_; clear n_))
   | ((with_reducible refine gate_dst (N := 6) rfl ?_); go_loud (refine box_event ?hg (N := 6) ?hd (cs := #[.int .i64 0, .int .i64 0, .slice none 0 0, .int .i64 0, .int .i64 0, .int .i64 0, .int .i64 0, .int .i64 0, .string ⟨#[]⟩, .int .i64 0, .slice none 0 0, .slice none 0 0]) (t := 54) ?hr ?_; (case hd => rfl); (case hg => rfl); (case hr => first | (go_simp; done) | (go_simp; rfl)); intro g6 hg W6 hbox hb; have h_ := HS.out.boxed hg hbox hb; clear hbox hb hg; clear HS; have HS := mk_ h_; clear h_; have k6 := blk_cell HS.out.blk; have kf6 := blk_frozen HS.out.blk))
   | ((with_reducible refine gate_store (t := 54) (p := 6) rfl ?_); go_loud (refine store_event (t := 54) (p := 6) (v := ?vo) (w1 := put12 W6 g6 (.int .i64 x.f0.f0) (.int .i64 x.f0.f1) (.slice A2 x.f1.length c2) (.int .i64 x.f2.f0) (.int .i64 x.f2.f1) (.int .i64 x.f2.f2) (.int .i64 x.f3) (.int .i64 x.f4) (.string x.f5) (.int .i64 x.f6) (.slice A10 x.f7.length c10) (.slice A11 x.f8.length c11)) ?hg ?ho ?hn ?hr ?_; (case ho => rfl); (case hg => rfl); (case hn => rfl); (case hr => first | (go_simp; done) | (go_simp; rfl)); intro W7 hw; have h_ := HS.out.put12 (.int .i64 x.f0.f0) (.int .i64 x.f0.f1) (.slice A2 x.f1.length c2) (.int .i64 x.f2.f0) (.int .i64 x.f2.f1) (.int .i64 x.f2.f2) (.int .i64 x.f3) (.int .i64 x.f4) (.string x.f5) (.int .i64 x.f6) (.slice A10 x.f7.length c10) (.slice A11 x.f8.length c11); rw [← hw] at h_; clear hw k6 kf6; clear HS; have HS := mk_ h_; clear h_; have k6 := blk_cell HS.out.blk; have kf6 := blk_frozen HS.out.blk; have k4 := blk_cell HS.out.s4.blk; have kf4 := blk_frozen HS.out.s4.blk; have k3 := blk_cell HS.out.s5.blk; have kf3 := blk_frozen HS.out.s5.blk)))
  have h8 := ((HS.out.s5.put12 (.int .i64 x.f0.f0) (.int .i64 x.f0.f1) (.slice A2 x.f1.length c2) (.int .i64 x.f2.f0) (.int .i64 x.f2.f1) (.int .i64 x.f2.f2) (.int .i64 x.f3) (.int .i64 x.f4) (.string x.f5) (.int .i64 x.f6) (.slice A10 x.f7.length c10) (.slice A11 x.f8.length c11)).s5.put7 (.slice none 0 0) (.int .i64 0) (.int .i64 0) (.int .i64 0) (.slice none 0 0) (.slice none 0 0) (.slice none 0 0)).drew
  unfold put12 put7 at h8
  clear HS
  go_region
  clear k3 kf3 k4 kf4 k6 kf6
  revert h8
  generalize World.drew _ = W8
  intro h8
  have HS := mk_ h8
  clear h8
  go_wp2
  (try simp only [Exit.inBlock, Exit.then])
  refine bodyPost_ret (results_tcc rfl _ _ w.heap.size 54 #[.int .i64 x.f0.f0, .int .i64 x.f0.f1, .slice A2 x.f1.length c2, .int .i64 x.f2.f0, .int .i64 x.f2.f1, .int .i64 x.f2.f2, .int .i64 x.f3, .int .i64 x.f4, .string x.f5, .int .i64 x.f6, .slice A10 x.f7.length c10, .slice A11 x.f8.length c11] (0, 0) _ rfl HS.out.s1.blk Try.underlying54 rfl z1_ (w.heap.size + 1) 31 #[.slice none 0 0, .int .i64 0, .int .i64 0, .int .i64 0, .slice none 0 0, .slice none 0 0, .slice none 0 0] (0, 0) _ rfl HS.out.blk Try.underlying31 rfl z1_) rfl ?_
  exact ⟨_, _, _, rfl, HS.out.tail.tail.tail⟩
def zop : List Value := [.int .i64 0, .int .i64 0, .slice none 0 0, .int .i64 0, .int .i64 0, .int .i64 0, .int .i64 0, .int .i64 0, .string ⟨#[]⟩, .int .i64 0, .slice none 0 0, .slice none 0 0]
set_option maxHeartbeats 8000000 in
set_option maxRecDepth 100000 in
theorem record_nil (A : Option Addr) (c : Nat) : Calls Try.prog 64 #[.slice A 0 c] w fun e w' => e = .returned (.tuple #[.int .i64 0, .agg zop.toArray, .agg snap0.toArray]) ∧ Below w.heap.size w w' := by
 have h1 := (Sp.start w).box (.cells #[.int .i64 0, .int .i64 0, .slice none 0 0, .int .i64 0, .int .i64 0, .int .i64 0, .int .i64 0, .int .i64 0, .string ⟨#[]⟩, .int .i64 0, .slice none 0 0, .slice none 0 0] 54 (0, 0))
 have h4 := h1.box (.cells #[.slice none 0 0, .int .i64 0, .int .i64 0, .int .i64 0, .slice none 0 0, .slice none 0 0, .slice none 0 0] 31 (0, 0))
 rw [show (w.alloc (.cells #[.int .i64 0, .int .i64 0, .slice none 0 0, .int .i64 0, .int .i64 0, .int .i64 0, .int .i64 0, .int .i64 0, .string ⟨#[]⟩, .int .i64 0, .slice none 0 0, .slice none 0 0] 54 (0, 0))).heap.size = w.heap.size + 1 from Array.size_push _] at h4
 go_enter Try.func64, Try.ntmps64
 go_upto_region 1 with (fail)
 have k4 := blk_cell h4.blk
 have k3 := blk_cell h4.s1.blk
 have kf4 := blk_frozen h4.blk
 have kf3 := blk_frozen h4.s1.blk
 have HS := mk_ h4
 clear h1 h4
 revert HS k4 k3 kf4 kf3
 generalize World.alloc (World.alloc w _) _ = W2
 intro k4 k3 kf4 kf3 HS
 go_wp2_with (first
  | ((with_reducible refine gate_store (t := 54) (p := 3) rfl ?_); go_loud (refine store_event (t := 54) (p := 3) (v := ?vo3) (w1 := put12 W2 w.heap.size (.int .i64 0) (.int .i64 0) (.slice none 0 0) (.int .i64 0) (.int .i64 0) (.int .i64 0) (.int .i64 0) (.int .i64 0) (.string ⟨#[]⟩) (.int .i64 0) (.slice none 0 0) (.slice none 0 0)) ?hg ?ho ?hn ?hr ?_; (case ho => rfl); (case hg => rfl); (case hn => rfl); (case hr => first | (go_simp; done) | (go_simp; rfl)); intro W8 hw; have h_ := (HS.out.s1).put12 (.int .i64 0) (.int .i64 0) (.slice none 0 0) (.int .i64 0) (.int .i64 0) (.int .i64 0) (.int .i64 0) (.int .i64 0) (.string ⟨#[]⟩) (.int .i64 0) (.slice none 0 0) (.slice none 0 0); rw [← hw] at h_; clear hw k3 kf3 k4 kf4; clear HS; have HS := mk_ h_; clear h_; have k4 := blk_cell HS.out.s1.blk; have kf4 := blk_frozen HS.out.s1.blk))
  | ((with_reducible refine gate_store (t := 31) (p := 4) rfl ?_); go_loud (refine store_event (t := 31) (p := 4) (v := ?vo4) (w1 := put7 W8 (w.heap.size + 1) (.slice none 0 0) (.int .i64 0) (.int .i64 0) (.int .i64 0) (.slice none 0 0) (.slice none 0 0) (.slice none 0 0)) ?hg ?ho ?hn ?hr ?_; (case ho => rfl); (case hg => rfl); (case hn => rfl); (case hr => first | (go_simp; done) | (go_simp; rfl)); intro W9 hw; have h_ := (HS.out.s1).put7 (.slice none 0 0) (.int .i64 0) (.int .i64 0) (.int .i64 0) (.slice none 0 0) (.slice none 0 0) (.slice none 0 0); rw [← hw] at h_; clear hw k4 kf4; clear HS; have HS := mk_ h_; clear h_)))
 (try simp only [Exit.inBlock, Exit.then])
 refine bodyPost_ret (results_tcc rfl _ _ w.heap.size 54 #[.int .i64 0, .int .i64 0, .slice none 0 0, .int .i64 0, .int .i64 0, .int .i64 0, .int .i64 0, .int .i64 0, .string ⟨#[]⟩, .int .i64 0, .slice none 0 0, .slice none 0 0] (0, 0) _ rfl HS.out.s1.blk Try.underlying54 rfl z1_ (w.heap.size + 1) 31 #[.slice none 0 0, .int .i64 0, .int .i64 0, .int .i64 0, .slice none 0 0, .slice none 0 0, .slice none 0 0] (0, 0) _ rfl HS.out.blk Try.underlying31 rfl z1_) rfl ?_
 exact ⟨rfl, Sp.old HS.out.tail.tail⟩
set_option maxHeartbeats 8000000 in
set_option maxRecDepth 100000 in
theorem record_other (A : Option Addr) (c : Nat) (z : Int) (r : List Int) (hbc : r.length + 1 ≤ c) (hC : Kd.C (Kd.int .u8) w A (z :: r).length (z :: r)) (hl : r.length ≤ 1000000) (hz : 0 ≤ z ∧ z < 256) (h1 : z ≠ 1) (h2 : z ≠ 2) :
    Calls Try.prog 64 #[.slice A (r.length + 1) c] w fun e w' => e = .returned (.tuple #[.int .i64 0, .agg zop.toArray, .agg snap0.toArray]) ∧ Below w.heap.size w w' := by
  have hlen : (z :: r).length = r.length + 1 := List.length_cons
  obtain ⟨ad, e, hx0⟩ := Kd.at_int hC 0 z2_ (by rw [hlen]; omega)
  cases e
  rw [show ((0 : Int)).toNat = 0 from rfl, Addr.add_zero', show rd (z :: r) 0 = z from rfl] at hx0
  have hk1 : (((r.length + 1 : Nat) : Int) == 0) = false := beq_eq_false_iff_ne.mpr z2_
  have hk2 : decide (0 < r.length + 1) = true := decide_eq_true z2_
  have hk3 : decide (1 ≤ r.length + 1) = true := decide_eq_true z2_
  have hk4 : (z == 1) = false := beq_eq_false_iff_ne.mpr h1
  have hk5 : (z == 2) = false := beq_eq_false_iff_ne.mpr h2
  have hk6 : IntKind.i64.wrap z = z := by rw [i64_w]; exact w64 z2_ z2_
  clear hC
  have h1' := (Sp.start w).box (.cells #[.int .i64 0, .int .i64 0, .slice none 0 0, .int .i64 0, .int .i64 0, .int .i64 0, .int .i64 0, .int .i64 0, .string ⟨#[]⟩, .int .i64 0, .slice none 0 0, .slice none 0 0] 54 (0, 0))
  have h4 := h1'.box (.cells #[.slice none 0 0, .int .i64 0, .int .i64 0, .int .i64 0, .slice none 0 0, .slice none 0 0, .slice none 0 0] 31 (0, 0))
  rw [show (w.alloc (.cells #[.int .i64 0, .int .i64 0, .slice none 0 0, .int .i64 0, .int .i64 0, .int .i64 0, .int .i64 0, .int .i64 0, .string ⟨#[]⟩, .int .i64 0, .slice none 0 0, .slice none 0 0] 54 (0, 0))).heap.size = w.heap.size + 1 from Array.size_push _] at h4
  have hx1 := ((Sp.old h4.s2).cell (World.block_lt_of_cell? _ _ hx0)).trans hx0
  go_enter Try.func64, Try.ntmps64
  go_upto_region 1 with (fail)
  have k4 := blk_cell h4.blk
  have k3 := blk_cell h4.s1.blk
  have kf4 := blk_frozen h4.blk
  have kf3 := blk_frozen h4.s1.blk
  have HS := mk_ h4
  clear h1' h4
  revert HS k4 k3 kf4 kf3 hx1
  generalize World.alloc (World.alloc w _) _ = W2
  intro hx1 k4 k3 kf4 kf3 HS
  go_wp2_with (first
    | ((with_reducible refine gate_store (t := 54) (p := 3) rfl ?_); go_loud (refine store_event (t := 54) (p := 3) (v := ?vo3) (w1 := put12 W2 w.heap.size (.int .i64 0) (.int .i64 0) (.slice none 0 0) (.int .i64 0) (.int .i64 0) (.int .i64 0) (.int .i64 0) (.int .i64 0) (.string ⟨#[]⟩) (.int .i64 0) (.slice none 0 0) (.slice none 0 0)) ?hg ?ho ?hn ?hr ?_; (case ho => rfl); (case hg => rfl); (case hn => rfl); (case hr => first | (go_simp; done) | (go_simp; rfl)); intro W8 hw; have h_ := (HS.out.s1).put12 (.int .i64 0) (.int .i64 0) (.slice none 0 0) (.int .i64 0) (.int .i64 0) (.int .i64 0) (.int .i64 0) (.int .i64 0) (.string ⟨#[]⟩) (.int .i64 0) (.slice none 0 0) (.slice none 0 0); rw [← hw] at h_; clear hw k3 kf3 k4 kf4; clear HS; have HS := mk_ h_; clear h_; have k4 := blk_cell HS.out.s1.blk; have kf4 := blk_frozen HS.out.s1.blk))
    | ((with_reducible refine gate_store (t := 31) (p := 4) rfl ?_); go_loud (refine store_event (t := 31) (p := 4) (v := ?vo4) (w1 := put7 W8 (w.heap.size + 1) (.slice none 0 0) (.int .i64 0) (.int .i64 0) (.int .i64 0) (.slice none 0 0) (.slice none 0 0) (.slice none 0 0)) ?hg ?ho ?hn ?hr ?_; (case ho => rfl); (case hg => rfl); (case hn => rfl); (case hr => first | (go_simp; done) | (go_simp; rfl)); intro W9 hw; have h_ := (HS.out.s1).put7 (.slice none 0 0) (.int .i64 0) (.int .i64 0) (.int .i64 0) (.slice none 0 0) (.slice none 0 0) (.slice none 0 0); rw [← hw] at h_; clear hw k4 kf4; clear HS; have HS := mk_ h_; clear h_)))
  all_goals (
   (try simp only [Exit.inBlock, Exit.then])
   refine bodyPost_ret (results_tcc rfl _ _ w.heap.size 54 #[.int .i64 0, .int .i64 0, .slice none 0 0, .int .i64 0, .int .i64 0, .int .i64 0, .int .i64 0, .int .i64 0, .string ⟨#[]⟩, .int .i64 0, .slice none 0 0, .slice none 0 0] (0, 0) _ rfl HS.out.s1.blk Try.underlying54 rfl z1_ (w.heap.size + 1) 31 #[.slice none 0 0, .int .i64 0, .int .i64 0, .int .i64 0, .slice none 0 0, .slice none 0 0, .slice none 0 0] (0, 0) _ rfl HS.out.blk Try.underlying31 rfl z1_) rfl ?_
   exact ⟨rfl, Sp.old HS.out.tail.tail⟩)
set_option maxHeartbeats 8000000 in
set_option maxRecDepth 100000 in
theorem record_bad (A : Option Addr) (c : Nat) (r : List Int) (hbc : r.length + 1 ≤ c) (hC : Kd.C (Kd.int .u8) w A (1 :: r).length (1 :: r)) (hBr : Bytes r) (hlr : r.length ≤ 1000000) (x : Ox) (nx e3 : Int) (hq : sOpRead r 0 = (x, nx, e3)) (hbad : (e3 == 0) = false ∨ (e3 == 0) = true ∧ (nx == (r.length : Int)) = false) :
  Calls Try.prog 64 #[.slice A (r.length + 1) c] w fun e w' => e = .returned (.tuple #[.int .i64 0, .agg zop.toArray, .agg snap0.toArray]) ∧ Below w.heap.size w w' := by
 have hlen : (1 :: r).length = r.length + 1 := List.length_cons
 have hCr := C_drop (m := 1) hC (by rw [hlen]; omega) (c := c) (by rw [hlen]; omega)
 obtain ⟨ad, e, hx0⟩ := Kd.at_int hC 0 z2_ (by rw [hlen]; omega)
 cases e
 rw [show ((0 : Int)).toNat = 0 from rfl, Addr.add_zero', show rd (1 :: r) 0 = 1 from rfl] at hx0
 have hk1 : (((r.length + 1 : Nat) : Int) == 0) = false := beq_eq_false_iff_ne.mpr z2_
 have hk2 : decide (0 < r.length + 1) = true := decide_eq_true z2_
 have hk3 : decide (1 ≤ r.length + 1) = true := decide_eq_true z2_
 have h1 := (Sp.start w).box (.cells #[.int .i64 0, .int .i64 0, .slice none 0 0, .int .i64 0, .int .i64 0, .int .i64 0, .int .i64 0, .int .i64 0, .string ⟨#[]⟩, .int .i64 0, .slice none 0 0, .slice none 0 0] 54 (0, 0))
 have h4 := h1.box (.cells #[.slice none 0 0, .int .i64 0, .int .i64 0, .int .i64 0, .slice none 0 0, .slice none 0 0, .slice none 0 0] 31 (0, 0))
 rw [show (w.alloc (.cells #[.int .i64 0, .int .i64 0, .slice none 0 0, .int .i64 0, .int .i64 0, .int .i64 0, .int .i64 0, .int .i64 0, .string ⟨#[]⟩, .int .i64 0, .slice none 0 0, .slice none 0 0] 54 (0, 0))).heap.size = w.heap.size + 1 from Array.size_push _] at h4
 have hx1 := ((Sp.old h4.s2).cell (World.block_lt_of_cell? _ _ hx0)).trans hx0
 have HS := mk_ h4
 have HC := mk_ hCr
 clear hC hCr h1 h4
 by_cases hc : c = 1
 ·
  have hc1 := eq_true hc
  simp only [hc1, if_true, List.drop_succ_cons, List.drop_zero] at HC
  rcases hbad with hb1 | ⟨hb1, hb2⟩
  ·
   go_enter Try.func64, Try.ntmps64
   go_wp2_with (first
    | ((with_reducible refine gate_callee (f := 93) rfl ?_); go_loud (refine Short.gL (some 26) Try.func93 #[.slice (some ad) r.length 0, .int .i64 0] (h := ?_); have q_ := read_sp (A := (some ad)) (c := 0) (C_below HC.out (Sp.old HS.out.s2)) z2_ hBr hlr 0; simp only [hq] at q_; refine q_.mono ?_; clear q_; rintro e W3 ⟨v2, v10, v11, rfl, h_⟩; refine ⟨_, rfl, ?_⟩; have n_ := Sp.frame (X := [_, _, _]) HS.out h_; simp only [List.cons_append, List.nil_append] at n_; obtain ⟨A2, c2, rfl, _, _⟩ := n_.row; obtain ⟨A10, c10, rfl, _, _⟩ := n_.s1.row; obtain ⟨A11, c11, rfl, _, _⟩ := n_.s2.row; clear HS h_; have HS := mk_ n_; clear n_))
    | ((with_reducible refine gate_dst (N := 6) rfl ?_); go_loud (refine box_event ?hg (N := 6) ?hd (cs := #[.int .i64 0, .int .i64 0, .slice none 0 0, .int .i64 0, .int .i64 0, .int .i64 0, .int .i64 0, .int .i64 0, .string ⟨#[]⟩, .int .i64 0, .slice none 0 0, .slice none 0 0]) (t := 54) ?hr ?_; (case hd => rfl); (case hg => rfl); (case hr => first | (go_simp; done) | (go_simp; rfl)); intro g6 hg W6 hbox hb; have h_ := HS.out.boxed hg hbox hb; clear hbox hb hg; clear HS; have HS := mk_ h_; clear h_; have k6 := blk_cell HS.out.blk; have kf6 := blk_frozen HS.out.blk))
    | ((with_reducible refine gate_store (t := 54) (p := 6) rfl ?_); go_loud (refine store_event (t := 54) (p := 6) (v := ?vo6) (w1 := put12 W6 g6 (.int .i64 x.f0.f0) (.int .i64 x.f0.f1) (.slice A2 x.f1.length c2) (.int .i64 x.f2.f0) (.int .i64 x.f2.f1) (.int .i64 x.f2.f2) (.int .i64 x.f3) (.int .i64 x.f4) (.string x.f5) (.int .i64 x.f6) (.slice A10 x.f7.length c10) (.slice A11 x.f8.length c11)) ?hg ?ho ?hn ?hr ?_; (case ho => rfl); (case hg => rfl); (case hn => rfl); (case hr => first | (go_simp; done) | (go_simp; rfl)); intro W7 hw; have h_ := HS.out.put12 (.int .i64 x.f0.f0) (.int .i64 x.f0.f1) (.slice A2 x.f1.length c2) (.int .i64 x.f2.f0) (.int .i64 x.f2.f1) (.int .i64 x.f2.f2) (.int .i64 x.f3) (.int .i64 x.f4) (.string x.f5) (.int .i64 x.f6) (.slice A10 x.f7.length c10) (.slice A11 x.f8.length c11); rw [← hw] at h_; clear hw k6 kf6; clear HS; have HS := mk_ h_; clear h_; have k3 := blk_cell HS.out.s5.blk; have kf3 := blk_frozen HS.out.s5.blk))
    | ((with_reducible refine gate_store (t := 54) (p := 3) rfl ?_); go_loud (refine store_event (t := 54) (p := 3) (v := ?vo3) (w1 := put12 W7 w.heap.size (.int .i64 0) (.int .i64 0) (.slice none 0 0) (.int .i64 0) (.int .i64 0) (.int .i64 0) (.int .i64 0) (.int .i64 0) (.string ⟨#[]⟩) (.int .i64 0) (.slice none 0 0) (.slice none 0 0)) ?hg ?ho ?hn ?hr ?_; (case ho => rfl); (case hg => rfl); (case hn => rfl); (case hr => first | (go_simp; done) | (go_simp; rfl)); intro W8 hw; have h_ := (HS.out.s5).put12 (.int .i64 0) (.int .i64 0) (.slice none 0 0) (.int .i64 0) (.int .i64 0) (.int .i64 0) (.int .i64 0) (.int .i64 0) (.string ⟨#[]⟩) (.int .i64 0) (.slice none 0 0) (.slice none 0 0); rw [← hw] at h_; clear hw k3 kf3; clear HS; have HS := mk_ h_; clear h_; have k4 := blk_cell HS.out.s5.blk; have kf4 := blk_frozen HS.out.s5.blk))
    | ((with_reducible refine gate_store (t := 31) (p := 4) rfl ?_); go_loud (refine store_event (t := 31) (p := 4) (v := ?vo4) (w1 := put7 W8 (w.heap.size + 1) (.slice none 0 0) (.int .i64 0) (.int .i64 0) (.int .i64 0) (.slice none 0 0) (.slice none 0 0) (.slice none 0 0)) ?hg ?ho ?hn ?hr ?_; (case ho => rfl); (case hg => rfl); (case hn => rfl); (case hr => first | (go_simp; done) | (go_simp; rfl)); intro W9 hw; have h_ := (HS.out.s5).put7 (.slice none 0 0) (.int .i64 0) (.int .i64 0) (.int .i64 0) (.slice none 0 0) (.slice none 0 0) (.slice none 0 0); rw [← hw] at h_; clear hw k4 kf4; clear HS; have HS := mk_ h_; clear h_)))
   (try simp only [Exit.inBlock, Exit.then])
   refine bodyPost_ret (results_tcc rfl _ _ w.heap.size 54 #[.int .i64 0, .int .i64 0, .slice none 0 0, .int .i64 0, .int .i64 0, .int .i64 0, .int .i64 0, .int .i64 0, .string ⟨#[]⟩, .int .i64 0, .slice none 0 0, .slice none 0 0] (0, 0) _ rfl HS.out.s1.blk Try.underlying54 rfl z1_ (w.heap.size + 1) 31 #[.slice none 0 0, .int .i64 0, .int .i64 0, .int .i64 0, .slice none 0 0, .slice none 0 0, .slice none 0 0] (0, 0) _ rfl HS.out.blk Try.underlying31 rfl z1_) rfl ?_
   exact ⟨rfl, Sp.old HS.out.tail.tail.tail.tail.tail.tail⟩
  ·
   go_enter Try.func64, Try.ntmps64
   go_wp2_with (first
    | ((with_reducible refine gate_callee (f := 93) rfl ?_); go_loud (refine Short.gL (some 26) Try.func93 #[.slice (some ad) r.length 0, .int .i64 0] (h := ?_); have q_ := read_sp (A := (some ad)) (c := 0) (C_below HC.out (Sp.old HS.out.s2)) z2_ hBr hlr 0; simp only [hq] at q_; refine q_.mono ?_; clear q_; rintro e W3 ⟨v2, v10, v11, rfl, h_⟩; refine ⟨_, rfl, ?_⟩; have n_ := Sp.frame (X := [_, _, _]) HS.out h_; simp only [List.cons_append, List.nil_append] at n_; obtain ⟨A2, c2, rfl, _, _⟩ := n_.row; obtain ⟨A10, c10, rfl, _, _⟩ := n_.s1.row; obtain ⟨A11, c11, rfl, _, _⟩ := n_.s2.row; clear HS h_; have HS := mk_ n_; clear n_))
    | ((with_reducible refine gate_dst (N := 6) rfl ?_); go_loud (refine box_event ?hg (N := 6) ?hd (cs := #[.int .i64 0, .int .i64 0, .slice none 0 0, .int .i64 0, .int .i64 0, .int .i64 0, .int .i64 0, .int .i64 0, .string ⟨#[]⟩, .int .i64 0, .slice none 0 0, .slice none 0 0]) (t := 54) ?hr ?_; (case hd => rfl); (case hg => rfl); (case hr => first | (go_simp; done) | (go_simp; rfl)); intro g6 hg W6 hbox hb; have h_ := HS.out.boxed hg hbox hb; clear hbox hb hg; clear HS; have HS := mk_ h_; clear h_; have k6 := blk_cell HS.out.blk; have kf6 := blk_frozen HS.out.blk))
    | ((with_reducible refine gate_store (t := 54) (p := 6) rfl ?_); go_loud (refine store_event (t := 54) (p := 6) (v := ?vo6) (w1 := put12 W6 g6 (.int .i64 x.f0.f0) (.int .i64 x.f0.f1) (.slice A2 x.f1.length c2) (.int .i64 x.f2.f0) (.int .i64 x.f2.f1) (.int .i64 x.f2.f2) (.int .i64 x.f3) (.int .i64 x.f4) (.string x.f5) (.int .i64 x.f6) (.slice A10 x.f7.length c10) (.slice A11 x.f8.length c11)) ?hg ?ho ?hn ?hr ?_; (case ho => rfl); (case hg => rfl); (case hn => rfl); (case hr => first | (go_simp; done) | (go_simp; rfl)); intro W7 hw; have h_ := HS.out.put12 (.int .i64 x.f0.f0) (.int .i64 x.f0.f1) (.slice A2 x.f1.length c2) (.int .i64 x.f2.f0) (.int .i64 x.f2.f1) (.int .i64 x.f2.f2) (.int .i64 x.f3) (.int .i64 x.f4) (.string x.f5) (.int .i64 x.f6) (.slice A10 x.f7.length c10) (.slice A11 x.f8.length c11); rw [← hw] at h_; clear hw k6 kf6; clear HS; have HS := mk_ h_; clear h_; have k3 := blk_cell HS.out.s5.blk; have kf3 := blk_frozen HS.out.s5.blk))
    | ((with_reducible refine gate_store (t := 54) (p := 3) rfl ?_); go_loud (refine store_event (t := 54) (p := 3) (v := ?vo3) (w1 := put12 W7 w.heap.size (.int .i64 0) (.int .i64 0) (.slice none 0 0) (.int .i64 0) (.int .i64 0) (.int .i64 0) (.int .i64 0) (.int .i64 0) (.string ⟨#[]⟩) (.int .i64 0) (.slice none 0 0) (.slice none 0 0)) ?hg ?ho ?hn ?hr ?_; (case ho => rfl); (case hg => rfl); (case hn => rfl); (case hr => first | (go_simp; done) | (go_simp; rfl)); intro W8 hw; have h_ := (HS.out.s5).put12 (.int .i64 0) (.int .i64 0) (.slice none 0 0) (.int .i64 0) (.int .i64 0) (.int .i64 0) (.int .i64 0) (.int .i64 0) (.string ⟨#[]⟩) (.int .i64 0) (.slice none 0 0) (.slice none 0 0); rw [← hw] at h_; clear hw k3 kf3; clear HS; have HS := mk_ h_; clear h_; have k4 := blk_cell HS.out.s5.blk; have kf4 := blk_frozen HS.out.s5.blk))
    | ((with_reducible refine gate_store (t := 31) (p := 4) rfl ?_); go_loud (refine store_event (t := 31) (p := 4) (v := ?vo4) (w1 := put7 W8 (w.heap.size + 1) (.slice none 0 0) (.int .i64 0) (.int .i64 0) (.int .i64 0) (.slice none 0 0) (.slice none 0 0) (.slice none 0 0)) ?hg ?ho ?hn ?hr ?_; (case ho => rfl); (case hg => rfl); (case hn => rfl); (case hr => first | (go_simp; done) | (go_simp; rfl)); intro W9 hw; have h_ := (HS.out.s5).put7 (.slice none 0 0) (.int .i64 0) (.int .i64 0) (.int .i64 0) (.slice none 0 0) (.slice none 0 0) (.slice none 0 0); rw [← hw] at h_; clear hw k4 kf4; clear HS; have HS := mk_ h_; clear h_)))
   (try simp only [Exit.inBlock, Exit.then])
   refine bodyPost_ret (results_tcc rfl _ _ w.heap.size 54 #[.int .i64 0, .int .i64 0, .slice none 0 0, .int .i64 0, .int .i64 0, .int .i64 0, .int .i64 0, .int .i64 0, .string ⟨#[]⟩, .int .i64 0, .slice none 0 0, .slice none 0 0] (0, 0) _ rfl HS.out.s1.blk Try.underlying54 rfl z1_ (w.heap.size + 1) 31 #[.slice none 0 0, .int .i64 0, .int .i64 0, .int .i64 0, .slice none 0 0, .slice none 0 0, .slice none 0 0] (0, 0) _ rfl HS.out.blk Try.underlying31 rfl z1_) rfl ?_
   exact ⟨rfl, Sp.old HS.out.tail.tail.tail.tail.tail.tail⟩
 ·
  have hc1 := eq_false hc
  simp only [hc1, if_false, Option.map_some, List.drop_succ_cons, List.drop_zero] at HC
  rcases hbad with hb1 | ⟨hb1, hb2⟩
  ·
   go_enter Try.func64, Try.ntmps64
   go_wp2_with (first
    | ((with_reducible refine gate_callee (f := 93) rfl ?_); go_loud (refine Short.gL (some 26) Try.func93 #[.slice (some ⟨ad.block, ad.off + 1, none⟩) r.length (c - 1), .int .i64 0] (h := ?_); have q_ := read_sp (A := (some ⟨ad.block, ad.off + 1, none⟩)) (c := (c - 1)) (C_below HC.out (Sp.old HS.out.s2)) z2_ hBr hlr 0; simp only [hq] at q_; refine q_.mono ?_; clear q_; rintro e W3 ⟨v2, v10, v11, rfl, h_⟩; refine ⟨_, rfl, ?_⟩; have n_ := Sp.frame (X := [_, _, _]) HS.out h_; simp only [List.cons_append, List.nil_append] at n_; obtain ⟨A2, c2, rfl, _, _⟩ := n_.row; obtain ⟨A10, c10, rfl, _, _⟩ := n_.s1.row; obtain ⟨A11, c11, rfl, _, _⟩ := n_.s2.row; clear HS h_; have HS := mk_ n_; clear n_))
    | ((with_reducible refine gate_dst (N := 6) rfl ?_); go_loud (refine box_event ?hg (N := 6) ?hd (cs := #[.int .i64 0, .int .i64 0, .slice none 0 0, .int .i64 0, .int .i64 0, .int .i64 0, .int .i64 0, .int .i64 0, .string ⟨#[]⟩, .int .i64 0, .slice none 0 0, .slice none 0 0]) (t := 54) ?hr ?_; (case hd => rfl); (case hg => rfl); (case hr => first | (go_simp; done) | (go_simp; rfl)); intro g6 hg W6 hbox hb; have h_ := HS.out.boxed hg hbox hb; clear hbox hb hg; clear HS; have HS := mk_ h_; clear h_; have k6 := blk_cell HS.out.blk; have kf6 := blk_frozen HS.out.blk))
    | ((with_reducible refine gate_store (t := 54) (p := 6) rfl ?_); go_loud (refine store_event (t := 54) (p := 6) (v := ?vo6) (w1 := put12 W6 g6 (.int .i64 x.f0.f0) (.int .i64 x.f0.f1) (.slice A2 x.f1.length c2) (.int .i64 x.f2.f0) (.int .i64 x.f2.f1) (.int .i64 x.f2.f2) (.int .i64 x.f3) (.int .i64 x.f4) (.string x.f5) (.int .i64 x.f6) (.slice A10 x.f7.length c10) (.slice A11 x.f8.length c11)) ?hg ?ho ?hn ?hr ?_; (case ho => rfl); (case hg => rfl); (case hn => rfl); (case hr => first | (go_simp; done) | (go_simp; rfl)); intro W7 hw; have h_ := HS.out.put12 (.int .i64 x.f0.f0) (.int .i64 x.f0.f1) (.slice A2 x.f1.length c2) (.int .i64 x.f2.f0) (.int .i64 x.f2.f1) (.int .i64 x.f2.f2) (.int .i64 x.f3) (.int .i64 x.f4) (.string x.f5) (.int .i64 x.f6) (.slice A10 x.f7.length c10) (.slice A11 x.f8.length c11); rw [← hw] at h_; clear hw k6 kf6; clear HS; have HS := mk_ h_; clear h_; have k3 := blk_cell HS.out.s5.blk; have kf3 := blk_frozen HS.out.s5.blk))
    | ((with_reducible refine gate_store (t := 54) (p := 3) rfl ?_); go_loud (refine store_event (t := 54) (p := 3) (v := ?vo3) (w1 := put12 W7 w.heap.size (.int .i64 0) (.int .i64 0) (.slice none 0 0) (.int .i64 0) (.int .i64 0) (.int .i64 0) (.int .i64 0) (.int .i64 0) (.string ⟨#[]⟩) (.int .i64 0) (.slice none 0 0) (.slice none 0 0)) ?hg ?ho ?hn ?hr ?_; (case ho => rfl); (case hg => rfl); (case hn => rfl); (case hr => first | (go_simp; done) | (go_simp; rfl)); intro W8 hw; have h_ := (HS.out.s5).put12 (.int .i64 0) (.int .i64 0) (.slice none 0 0) (.int .i64 0) (.int .i64 0) (.int .i64 0) (.int .i64 0) (.int .i64 0) (.string ⟨#[]⟩) (.int .i64 0) (.slice none 0 0) (.slice none 0 0); rw [← hw] at h_; clear hw k3 kf3; clear HS; have HS := mk_ h_; clear h_; have k4 := blk_cell HS.out.s5.blk; have kf4 := blk_frozen HS.out.s5.blk))
    | ((with_reducible refine gate_store (t := 31) (p := 4) rfl ?_); go_loud (refine store_event (t := 31) (p := 4) (v := ?vo4) (w1 := put7 W8 (w.heap.size + 1) (.slice none 0 0) (.int .i64 0) (.int .i64 0) (.int .i64 0) (.slice none 0 0) (.slice none 0 0) (.slice none 0 0)) ?hg ?ho ?hn ?hr ?_; (case ho => rfl); (case hg => rfl); (case hn => rfl); (case hr => first | (go_simp; done) | (go_simp; rfl)); intro W9 hw; have h_ := (HS.out.s5).put7 (.slice none 0 0) (.int .i64 0) (.int .i64 0) (.int .i64 0) (.slice none 0 0) (.slice none 0 0) (.slice none 0 0); rw [← hw] at h_; clear hw k4 kf4; clear HS; have HS := mk_ h_; clear h_)))
   (try simp only [Exit.inBlock, Exit.then])
   refine bodyPost_ret (results_tcc rfl _ _ w.heap.size 54 #[.int .i64 0, .int .i64 0, .slice none 0 0, .int .i64 0, .int .i64 0, .int .i64 0, .int .i64 0, .int .i64 0, .string ⟨#[]⟩, .int .i64 0, .slice none 0 0, .slice none 0 0] (0, 0) _ rfl HS.out.s1.blk Try.underlying54 rfl z1_ (w.heap.size + 1) 31 #[.slice none 0 0, .int .i64 0, .int .i64 0, .int .i64 0, .slice none 0 0, .slice none 0 0, .slice none 0 0] (0, 0) _ rfl HS.out.blk Try.underlying31 rfl z1_) rfl ?_
   exact ⟨rfl, Sp.old HS.out.tail.tail.tail.tail.tail.tail⟩
  ·
   go_enter Try.func64, Try.ntmps64
   go_wp2_with (first
    | ((with_reducible refine gate_callee (f := 93) rfl ?_); go_loud (refine Short.gL (some 26) Try.func93 #[.slice (some ⟨ad.block, ad.off + 1, none⟩) r.length (c - 1), .int .i64 0] (h := ?_); have q_ := read_sp (A := (some ⟨ad.block, ad.off + 1, none⟩)) (c := (c - 1)) (C_below HC.out (Sp.old HS.out.s2)) z2_ hBr hlr 0; simp only [hq] at q_; refine q_.mono ?_; clear q_; rintro e W3 ⟨v2, v10, v11, rfl, h_⟩; refine ⟨_, rfl, ?_⟩; have n_ := Sp.frame (X := [_, _, _]) HS.out h_; simp only [List.cons_append, List.nil_append] at n_; obtain ⟨A2, c2, rfl, _, _⟩ := n_.row; obtain ⟨A10, c10, rfl, _, _⟩ := n_.s1.row; obtain ⟨A11, c11, rfl, _, _⟩ := n_.s2.row; clear HS h_; have HS := mk_ n_; clear n_))
    | ((with_reducible refine gate_dst (N := 6) rfl ?_); go_loud (refine box_event ?hg (N := 6) ?hd (cs := #[.int .i64 0, .int .i64 0, .slice none 0 0, .int .i64 0, .int .i64 0, .int .i64 0, .int .i64 0, .int .i64 0, .string ⟨#[]⟩, .int .i64 0, .slice none 0 0, .slice none 0 0]) (t := 54) ?hr ?_; (case hd => rfl); (case hg => rfl); (case hr => first | (go_simp; done) | (go_simp; rfl)); intro g6 hg W6 hbox hb; have h_ := HS.out.boxed hg hbox hb; clear hbox hb hg; clear HS; have HS := mk_ h_; clear h_; have k6 := blk_cell HS.out.blk; have kf6 := blk_frozen HS.out.blk))
    | ((with_reducible refine gate_store (t := 54) (p := 6) rfl ?_); go_loud (refine store_event (t := 54) (p := 6) (v := ?vo6) (w1 := put12 W6 g6 (.int .i64 x.f0.f0) (.int .i64 x.f0.f1) (.slice A2 x.f1.length c2) (.int .i64 x.f2.f0) (.int .i64 x.f2.f1) (.int .i64 x.f2.f2) (.int .i64 x.f3) (.int .i64 x.f4) (.string x.f5) (.int .i64 x.f6) (.slice A10 x.f7.length c10) (.slice A11 x.f8.length c11)) ?hg ?ho ?hn ?hr ?_; (case ho => rfl); (case hg => rfl); (case hn => rfl); (case hr => first | (go_simp; done) | (go_simp; rfl)); intro W7 hw; have h_ := HS.out.put12 (.int .i64 x.f0.f0) (.int .i64 x.f0.f1) (.slice A2 x.f1.length c2) (.int .i64 x.f2.f0) (.int .i64 x.f2.f1) (.int .i64 x.f2.f2) (.int .i64 x.f3) (.int .i64 x.f4) (.string x.f5) (.int .i64 x.f6) (.slice A10 x.f7.length c10) (.slice A11 x.f8.length c11); rw [← hw] at h_; clear hw k6 kf6; clear HS; have HS := mk_ h_; clear h_; have k3 := blk_cell HS.out.s5.blk; have kf3 := blk_frozen HS.out.s5.blk))
    | ((with_reducible refine gate_store (t := 54) (p := 3) rfl ?_); go_loud (refine store_event (t := 54) (p := 3) (v := ?vo3) (w1 := put12 W7 w.heap.size (.int .i64 0) (.int .i64 0) (.slice none 0 0) (.int .i64 0) (.int .i64 0) (.int .i64 0) (.int .i64 0) (.int .i64 0) (.string ⟨#[]⟩) (.int .i64 0) (.slice none 0 0) (.slice none 0 0)) ?hg ?ho ?hn ?hr ?_; (case ho => rfl); (case hg => rfl); (case hn => rfl); (case hr => first | (go_simp; done) | (go_simp; rfl)); intro W8 hw; have h_ := (HS.out.s5).put12 (.int .i64 0) (.int .i64 0) (.slice none 0 0) (.int .i64 0) (.int .i64 0) (.int .i64 0) (.int .i64 0) (.int .i64 0) (.string ⟨#[]⟩) (.int .i64 0) (.slice none 0 0) (.slice none 0 0); rw [← hw] at h_; clear hw k3 kf3; clear HS; have HS := mk_ h_; clear h_; have k4 := blk_cell HS.out.s5.blk; have kf4 := blk_frozen HS.out.s5.blk))
    | ((with_reducible refine gate_store (t := 31) (p := 4) rfl ?_); go_loud (refine store_event (t := 31) (p := 4) (v := ?vo4) (w1 := put7 W8 (w.heap.size + 1) (.slice none 0 0) (.int .i64 0) (.int .i64 0) (.int .i64 0) (.slice none 0 0) (.slice none 0 0) (.slice none 0 0)) ?hg ?ho ?hn ?hr ?_; (case ho => rfl); (case hg => rfl); (case hn => rfl); (case hr => first | (go_simp; done) | (go_simp; rfl)); intro W9 hw; have h_ := (HS.out.s5).put7 (.slice none 0 0) (.int .i64 0) (.int .i64 0) (.int .i64 0) (.slice none 0 0) (.slice none 0 0) (.slice none 0 0); rw [← hw] at h_; clear hw k4 kf4; clear HS; have HS := mk_ h_; clear h_)))
   (try simp only [Exit.inBlock, Exit.then])
   refine bodyPost_ret (results_tcc rfl _ _ w.heap.size 54 #[.int .i64 0, .int .i64 0, .slice none 0 0, .int .i64 0, .int .i64 0, .int .i64 0, .int .i64 0, .int .i64 0, .string ⟨#[]⟩, .int .i64 0, .slice none 0 0, .slice none 0 0] (0, 0) _ rfl HS.out.s1.blk Try.underlying54 rfl z1_ (w.heap.size + 1) 31 #[.slice none 0 0, .int .i64 0, .int .i64 0, .int .i64 0, .slice none 0 0, .slice none 0 0, .slice none 0 0] (0, 0) _ rfl HS.out.blk Try.underlying31 rfl z1_) rfl ?_
   exact ⟨rfl, Sp.old HS.out.tail.tail.tail.tail.tail.tail⟩
theorem record_none (A : Option Addr) (c : Nat) (b : List Int) (hbc : b.length ≤ c) (hC : Kd.C (Kd.int .u8) w A b.length b) (hB : Bytes b) (hl : b.length ≤ 1000000) (hx : recOf b = none) (h2 : b.head? ≠ some 2) :
  Calls Try.prog 64 #[.slice A b.length c] w fun e w' => e = .returned (.tuple #[.int .i64 0, .agg zop.toArray, .agg snap0.toArray]) ∧ Below w.heap.size w w' := by
 cases b with
 | nil => exact record_nil A c
 | cons z r =>
  have hz := hB z List.mem_cons_self
  have hlr : r.length ≤ 1000000 := by rw [List.length_cons] at hl; omega
  by_cases h1 : z = 1
  ·
   subst h1
   obtain ⟨q, hq⟩ : ∃ q, sOpRead r 0 = q := ⟨_, rfl⟩
   obtain ⟨x, nx, e3⟩ := q
   have h3 : (if (sOpRead r 0).2.2 = 0 ∧ (sOpRead r 0).2.1 = r.length then some (sOpRead r 0).1 else none) = none := by
    have : (if (1 : Int) = 1 then (if (sOpRead r 0).2.2 = 0 ∧ (sOpRead r 0).2.1 = r.length then some (sOpRead r 0).1 else none) else none) = none := hx
    rwa [if_pos rfl] at this
   rw [hq] at h3
   refine record_bad A c r (by rw [List.length_cons] at hbc; exact hbc) hC (fun y hy => hB y (List.mem_cons_of_mem _ hy)) hlr x nx e3 hq ?_
   by_cases h0 : e3 = 0
   ·
    refine .inr ⟨beq_iff_eq.mpr h0, beq_eq_false_iff_ne.mpr (fun e => ?_)⟩
    rw [if_pos ⟨h0, e⟩] at h3
    cases h3
   ·
    exact .inl (beq_eq_false_iff_ne.mpr h0)
  ·
   exact record_other A c z r (by rw [List.length_cons] at hbc; exact hbc) hC hlr ⟨hz.1, by have := hz.2; omega⟩ h1 (fun e => h2 (by rw [e]; rfl))
end
end Go.Proofs.Ytcbfliajgopdaaa.Logs
end
section
namespace Go.Proofs.Ytcbfliajgopdaaa.Logs
open Go.RowKit Go.Proofs.Ytcbfliajgopdaaa.PAll Go.Proofs.Ytcbfliajgopdaaa.Plain Go.Proofs.Ytcbfliajgopdaaa.Ops Go.Proofs.YtcbfliajgopdaaaW.PrintWords Go.Proofs.YtcbfliajgopdaaaW.PrintLast Go.Proofs.YtcbfliajgopdaaaW.PrintMore Go.Proofs.Ytcbfliajgopdaaa.Pads Go.Proofs.Ytcbfliajgopdaaa.Sep Go.Proofs.Ytcbfliajgopdaaa.ZipT Go.Proofs.YtcbfliajgopdaaaW.PrintWords.Kd Go.Proofs.YtcbfliajgopdaaaW.PrintMore.Kd
set_option linter.unusedVariables false
set_option linter.unusedSimpArgs false
section
variable {w : World} {F : List Part} {g : Nat} {p : Pd}
def LogP (gl g : Nat) : Part := Blk gl (.cells #[.pointer (some ⟨g, 0, none⟩)] 128 (0, 0))
set_option maxHeartbeats 8000000 in
set_option maxRecDepth 100000 in
theorem open_calls (hS : Sp w (PadP g p :: F)) (hok : p.Ok) (hoff : p.off = false) (harm : p.arm = none) (hby : ∀ s ∈ p.slots, Bytes s.1) (hns : noSnap p.slots) :
  Calls Try.prog 19 #[.pointer (some ⟨g, 0, none⟩)] w fun e w' => ∃ gl v, e = .returned (.tuple #[.pointer (some ⟨gl, 0, none⟩), .agg snap0.toArray, v, .int .i64 0]) ∧
   Sp w' (LogP gl g :: Row k54 54 v (opsOf p.slots) :: PadP g (opened p) :: F) := by
 have h1 := (hS.box (.cells #[.slice none 0 0, .int .i64 0, .int .i64 0, .int .i64 0, .slice none 0 0, .slice none 0 0, .slice none 0 0] 31 (0, 0))).s1
 have HS := mk_ (sp_nil (d := k54) (e := 54) h1)
 have HOK := mk_ hok
 have HBY := mk_ hby
 have HNS := mk_ hns
 obtain ⟨n, hn⟩ : ∃ n, p.slots.length = n := ⟨_, rfl⟩
 have hn4 : n ≤ 4000 := by rw [← hn]; exact hok.len
 have HK := mk_ (opsOf_le p.slots)
 rw [hn] at HK
 have HN := mk_ hn
 have HOF := mk_ hoff
 have HAR := mk_ harm
 clear hS h1 hok hby hns hn hoff harm
 go_enter Try.func19, Try.ntmps19
 go_wp2_with (first
  | (go_at_call 62; refine (off_calls HS.out.s1).mono ?_; rw [HOF.out]; rintro e w2 ⟨rfl, rfl⟩)
  | (go_at_call 21; refine (len_calls HS.out.s1).mono ?_; rw [HN.out]; rintro e w2 ⟨rfl, rfl⟩))
 go_loopg [4, 22] n (fun kq v4 v22 w' => ∃ i : Nat, v22 = .int .i64 (i : Int) ∧ Aside0 (i + kq = n) ∧ Aside0 (i ≤ (opsOf p.slots).length) ∧ Aside0 (Sp w' (Row k54 54 v4 ((opsOf p.slots).take i) :: PadP g p :: Blk w.heap.size (.cells #[.slice none 0 0, .int .i64 0, .int .i64 0, .int .i64 0, .slice none 0 0, .slice none 0 0, .slice none 0 0] 31 (0, 0)) :: F)))
 case atStart => exact ⟨0, rfl, ⟨by omega⟩, ⟨Nat.zero_le _⟩, HS⟩
 case round =>
  obtain ⟨i, rfl, HI, HL, HP⟩ := hrel
  clear HS
  by_cases hlt : i < n
  ·
   have hb1 : decide ((i : Int) < (n : Int)) = true := decide_eq_true z2_
   have hb1' : decide (i < n) = true := decide_eq_true hlt
   cases gk with
   | zero => exact absurd HI.out z2_
   | succ k1 =>
   have HLT := mk_ hlt
   clear hlt
   by_cases hgood : i < (opsOf p.slots).length
   ·
    obtain ⟨b, x, hr, hx, hxi, s, hs, hsb⟩ := read_good HOF.out hgood
    have hbB : Bytes b := by rw [← hsb]; exact HBY.out s hs
    have hbl : b.length ≤ 65536 := by rw [← hsb]; exact HOK.out.bytes s hs
    have HR := mk_ hr
    have HX := mk_ hx
    have HXI := mk_ hxi
    have HBB := mk_ hbB
    have HBL := mk_ hbl
    clear hr hx hxi hs hsb hbB hbl
    go_wp2_with (first
     | (go_at_call 63; refine (read_to HP.out.s1 HOK.out (i : Int) HR.out).mono ?_; rintro e W1 ⟨vb, rfl, h1⟩; obtain ⟨Ab, cb, rfl, hbc, hbC⟩ := h1.row; have HBC := mk_ hbc; have HC := mk_ hbC; have HS := mk_ h1.tail; clear h1 hbc hbC)
     | (go_at_call 64; have q_ := record_some Ab cb b HBC.out HC.out HBB.out (by have := HBL.out; omega) x HX.out; unfold opC snap0 at q_; refine q_.mono ?_; clear q_; rintro e W2 ⟨v2, v10, v11, rfl, h_⟩; have n_ := Sp.frame (X := [_, _, _]) HS.out h_; simp only [List.cons_append, List.nil_append] at n_; obtain ⟨A2, c2, rfl, _, _⟩ := n_.row; obtain ⟨A10, c10, rfl, _, _⟩ := n_.s1.row; obtain ⟨A11, c11, rfl, _, _⟩ := n_.s2.row; clear HS h_; have HS := mk_ n_; clear n_)
     | ((with_reducible refine gate_dst (N := 10) rfl ?_); go_loud (refine box_event ?hg (N := 10) ?hd (cs := #[.int .i64 0, .int .i64 0, .slice none 0 0, .int .i64 0, .int .i64 0, .int .i64 0, .int .i64 0, .int .i64 0, .string ⟨#[]⟩, .int .i64 0, .slice none 0 0, .slice none 0 0]) (t := 54) ?hr ?_; (case hd => rfl); (case hg => rfl); (case hr => first | (go_simp; done) | (go_simp; rfl)); intro g10 hg W3 hbox hb; have h_ := HS.out.boxed hg hbox hb; clear hbox hb hg; clear HS; have HS := mk_ h_; clear h_))
     | ((with_reducible refine gate_dst (N := 11) rfl ?_); go_loud (refine box_event ?hg (N := 11) ?hd (cs := #[.slice none 0 0, .int .i64 0, .int .i64 0, .int .i64 0, .slice none 0 0, .slice none 0 0, .slice none 0 0]) (t := 31) ?hr ?_; (case hd => rfl); (case hg => rfl); (case hr => first | (go_simp; done) | (go_simp; rfl)); intro g11 hg W4 hbox hb; have h_ := HS.out.boxed hg hbox hb; clear hbox hb hg; clear HS; have HS := mk_ h_; clear h_; have k10 := blk_cell HS.out.s1.blk; have kf10 := blk_frozen HS.out.s1.blk))
     | ((with_reducible refine gate_store (t := 54) (p := 10) rfl ?_); go_loud (refine store_event (t := 54) (p := 10) (v := ?vo10) (w1 := put12 W4 g10 (.int .i64 x.f0.f0) (.int .i64 x.f0.f1) (.slice A2 x.f1.length c2) (.int .i64 x.f2.f0) (.int .i64 x.f2.f1) (.int .i64 x.f2.f2) (.int .i64 x.f3) (.int .i64 x.f4) (.string x.f5) (.int .i64 x.f6) (.slice A10 x.f7.length c10) (.slice A11 x.f8.length c11)) ?hg ?ho ?hn ?hr ?_; (case ho => rfl); (case hg => rfl); (case hn => rfl); (case hr => first | (go_simp; done) | (go_simp; rfl)); intro W5 hw; have h_ := (HS.out.s1).put12 (.int .i64 x.f0.f0) (.int .i64 x.f0.f1) (.slice A2 x.f1.length c2) (.int .i64 x.f2.f0) (.int .i64 x.f2.f1) (.int .i64 x.f2.f2) (.int .i64 x.f3) (.int .i64 x.f4) (.string x.f5) (.int .i64 x.f6) (.slice A10 x.f7.length c10) (.slice A11 x.f8.length c11); rw [← hw] at h_; clear hw HS; have HS := mk_ h_; clear h_; clear k10 kf10; have k11 := blk_cell HS.out.s1.blk; have kf11 := blk_frozen HS.out.s1.blk))
     | ((with_reducible refine gate_store (t := 31) (p := 11) rfl ?_); go_loud (refine store_event (t := 31) (p := 11) (v := ?vo11) (w1 := put7 W5 g11 (.slice none 0 0) (.int .i64 0) (.int .i64 0) (.int .i64 0) (.slice none 0 0) (.slice none 0 0) (.slice none 0 0)) ?hg ?ho ?hn ?hr ?_; (case ho => rfl); (case hg => rfl); (case hn => rfl); (case hr => first | (go_simp; done) | (go_simp; rfl)); intro W6 hw; have h_ := (HS.out.s1).put7 (.slice none 0 0) (.int .i64 0) (.int .i64 0) (.int .i64 0) (.slice none 0 0) (.slice none 0 0) (.slice none 0 0); rw [← hw] at h_; clear hw HS; have HS := mk_ h_; clear h_; clear k11 kf11; have k10 := blk_cell HS.out.s1.blk; have h_ := HS.out.tail.tail; clear HS; have HS := mk_ (op_el h_).s2; clear h_))
     | ((with_reducible refine gate_builtin (b := .append) (xs := #[.tmp 53, .tmp 55]) rfl ?_); at_builtin; go_loud (refine Sp.append k54 rfl (.tmp 53) (.tmp 55) 29 54 (.agg #[.int .i64 0, .int .i64 0, .slice none 0 0, .int .i64 0, .int .i64 0, .int .i64 0, .int .i64 0, .int .i64 0, .string ⟨#[]⟩, .int .i64 0, .slice none 0 0, .slice none 0 0]) 152 rfl Try.underlying29 z1_ rfl z5_ z2_ u4 ((opsOf p.slots).take i) x (opC x (.slice A2 x.f1.length c2) (.slice A10 x.f7.length c10) (.slice A11 x.f8.length c11)) rfl rfl HS.out (by have := HLT.out; have h_ := Nat.le_trans (List.length_take_le i (opsOf p.slots)) (Nat.le_refl i); omega) ?_; intro v1 W7 h1; clear HS; have HS := mk_ h1; clear h1)))
    go_roundg k1
    case measure => exact Nat.lt_succ_self _
    case rel =>
     refine ⟨i + 1, (by have := HLT.out; rw [w64 z2_ z2_]; rfl), ⟨by have := HI.out; omega⟩, ⟨hgood⟩, ⟨?_⟩⟩
     rw [List.take_add_one, HXI.out]
     exact HS.out
   ·
    have hi : i = (opsOf p.slots).length := by have := HL.out; omega
    obtain ⟨b, er, hr, hx, hs⟩ := read_bad HOF.out hi (by rw [HN.out]; exact HLT.out)
    have hbB : Bytes b := by rcases hs with rfl | ⟨s, hs, rfl⟩; exact Bytes.nil; exact HBY.out s hs
    have hbl : b.length ≤ 65536 := by rcases hs with rfl | ⟨s, hs, rfl⟩; exact Nat.zero_le _; exact HOK.out.bytes s hs
    have hbh : b.head? ≠ some 2 := by rcases hs with rfl | ⟨s, hs, rfl⟩; simp; exact HNS.out s hs
    have HR := mk_ hr
    have HX := mk_ hx
    have HBB := mk_ hbB
    have HBL := mk_ hbl
    have HBH := mk_ hbh
    have HII := mk_ hi
    have hcut : p.cut (i : Int) = (cutP p, 0) := by rw [cut_none HOF.out HAR.out (by rw [HN.out]; have := HLT.out; omega), hi]; rfl
    have HCUT := mk_ hcut
    clear hr hx hs hbB hbl hbh hi hcut
    obtain ⟨eb, heb⟩ : ∃ eb, (er != 0) = eb := ⟨_, rfl⟩
    cases eb
    all_goals
     go_wp2_with (first
      | (go_at_call 63; refine (read_to HP.out.s1 HOK.out (i : Int) HR.out).mono ?_; rintro e W1 ⟨vb, rfl, h1⟩; obtain ⟨Ab, cb, rfl, hbc, hbC⟩ := h1.row; have HBC := mk_ hbc; have HC := mk_ hbC; have HS := mk_ h1.tail; clear h1 hbc hbC)
      | (go_at_call 64; have q_ := record_none Ab cb b HBC.out HC.out HBB.out (by have := HBL.out; omega) HX.out HBH.out; unfold zop snap0 at q_; refine q_.mono ?_; clear q_; rintro e W2 ⟨rfl, hb⟩; have h_ := HS.out.below hb; clear HS hb; have HS := mk_ h_; clear h_)
      | ((with_reducible refine gate_dst (N := 10) rfl ?_); go_loud (refine box_event ?hg (N := 10) ?hd (cs := #[.int .i64 0, .int .i64 0, .slice none 0 0, .int .i64 0, .int .i64 0, .int .i64 0, .int .i64 0, .int .i64 0, .string ⟨#[]⟩, .int .i64 0, .slice none 0 0, .slice none 0 0]) (t := 54) ?hr ?_; (case hd => rfl); (case hg => rfl); (case hr => first | (go_simp; done) | (go_simp; rfl)); intro g10 hg W3 hbox hb; have h_ := HS.out.boxed hg hbox hb; clear hbox hb hg; clear HS; have HS := mk_ h_; clear h_))
      | ((with_reducible refine gate_dst (N := 11) rfl ?_); go_loud (refine box_event ?hg (N := 11) ?hd (cs := #[.slice none 0 0, .int .i64 0, .int .i64 0, .int .i64 0, .slice none 0 0, .slice none 0 0, .slice none 0 0]) (t := 31) ?hr ?_; (case hd => rfl); (case hg => rfl); (case hr => first | (go_simp; done) | (go_simp; rfl)); intro g11 hg W4 hbox hb; have h_ := HS.out.boxed hg hbox hb; clear hbox hb hg; clear HS; have HS := mk_ h_; clear h_; have k10 := blk_cell HS.out.s1.blk; have kf10 := blk_frozen HS.out.s1.blk))
      | ((with_reducible refine gate_store (t := 54) (p := 10) rfl ?_); go_loud (refine store_event (t := 54) (p := 10) (v := ?vo10) (w1 := put12 W4 g10 (.int .i64 0) (.int .i64 0) (.slice none 0 0) (.int .i64 0) (.int .i64 0) (.int .i64 0) (.int .i64 0) (.int .i64 0) (.string ⟨#[]⟩) (.int .i64 0) (.slice none 0 0) (.slice none 0 0)) ?hg ?ho ?hn ?hr ?_; (case ho => rfl); (case hg => rfl); (case hn => rfl); (case hr => first | (go_simp; done) | (go_simp; rfl)); intro W5 hw; have h_ := (HS.out.s1).put12 (.int .i64 0) (.int .i64 0) (.slice none 0 0) (.int .i64 0) (.int .i64 0) (.int .i64 0) (.int .i64 0) (.int .i64 0) (.string ⟨#[]⟩) (.int .i64 0) (.slice none 0 0) (.slice none 0 0); rw [← hw] at h_; clear hw HS; have HS := mk_ h_; clear h_; clear k10 kf10; have k11 := blk_cell HS.out.s1.blk; have kf11 := blk_frozen HS.out.s1.blk))
      | ((with_reducible refine gate_store (t := 31) (p := 11) rfl ?_); go_loud (refine store_event (t := 31) (p := 11) (v := ?vo11) (w1 := put7 W5 g11 (.slice none 0 0) (.int .i64 0) (.int .i64 0) (.int .i64 0) (.slice none 0 0) (.slice none 0 0) (.slice none 0 0)) ?hg ?ho ?hn ?hr ?_; (case ho => rfl); (case hg => rfl); (case hn => rfl); (case hr => first | (go_simp; done) | (go_simp; rfl)); intro W6 hw; have h_ := (HS.out.s1).put7 (.slice none 0 0) (.int .i64 0) (.int .i64 0) (.int .i64 0) (.slice none 0 0) (.slice none 0 0) (.slice none 0 0); rw [← hw] at h_; clear hw HS; have HS := mk_ h_; clear h_; clear k11 kf11; have h_ := HS.out.tail.tail; clear HS; have HS := mk_ h_; clear h_))
      | (go_at_call 65; refine (cut_to HS.out HOK.out (i : Int) HCUT.out).mono ?_; rintro e W7 ⟨rfl, h1⟩; clear HS; have HS := mk_ h1; clear h1)
      | (go_at_call 66; refine (sync_to HS.out (cutP_ok HOK.out HAR.out) (sync_cut HOF.out HAR.out)).mono ?_; rintro e W8 ⟨rfl, h1⟩; clear HS; have HS := mk_ h1; clear h1; have k3 := blk_cell HS.out.s2.blk; have kf3 := blk_frozen HS.out.s2.blk; have h_ := HS.out.box (.cells #[.pointer (some ⟨g, 0, none⟩)] 128 (0, 0)); clear HS; have HS := mk_ h_; clear h_; have k3a := blk_cell HS.out.s3.blk; have kf3a := blk_frozen HS.out.s3.blk))
     have h8 := (HS.out.s3.put7 (.slice none 0 0) (.int .i64 0) (.int .i64 0) (.int .i64 0) (.slice none 0 0) (.slice none 0 0) (.slice none 0 0)).drew
     unfold put7 at h8
     clear HS
     go_region
     clear k3 kf3 k3a kf3a
     revert h8
     generalize World.drew _ = W9
     intro h8
     have HS := mk_ h8
     clear h8
     go_wp2
     (try simp only [Exit.inBlock, Exit.then])
     refine bodyPost_ret (results_tctt rfl _ _ w.heap.size 31 #[.slice none 0 0, .int .i64 0, .int .i64 0, .int .i64 0, .slice none 0 0, .slice none 0 0, .slice none 0 0] (0, 0) _ rfl HS.out.blk Try.underlying31 rfl z1_) rfl ?_
     refine ⟨_, _, rfl, ?_⟩
     have hT : (opsOf p.slots).take i = opsOf p.slots := by rw [HII.out, List.take_length]
     have h9 := HS.out.tail
     rw [hT] at h9
     exact Sep.cons (fun _ => Sep.swap) h9
  ·
   have hb1 : decide ((i : Int) < (n : Int)) = false := decide_eq_false z2_
   have hb1' : decide (i < n) = false := decide_eq_false hlt
   have hi : i = n := by have := HI.out; omega
   have hl : (opsOf p.slots).length = p.slots.length := by rw [HN.out]; have := HL.out; have := HK.out; omega
   have HLL := mk_ hl
   have HII := mk_ (show i = (opsOf p.slots).length by rw [hl, HN.out]; exact hi)
   clear hl hi hlt
   go_wp2_with ((go_at_call 66; refine (sync_to HP.out.s1 HOK.out (sync_all HOF.out HAR.out HLL.out)).mono ?_; rintro e W8 ⟨rfl, h1⟩; have HS := mk_ h1; clear h1; have k3 := blk_cell HS.out.s2.blk; have kf3 := blk_frozen HS.out.s2.blk; have h_ := HS.out.box (.cells #[.pointer (some ⟨g, 0, none⟩)] 128 (0, 0)); clear HS; have HS := mk_ h_; clear h_; have k3a := blk_cell HS.out.s3.blk; have kf3a := blk_frozen HS.out.s3.blk))
   have h8 := (HS.out.s3.put7 (.slice none 0 0) (.int .i64 0) (.int .i64 0) (.int .i64 0) (.slice none 0 0) (.slice none 0 0) (.slice none 0 0)).drew
   unfold put7 at h8
   clear HS
   go_region
   clear k3 kf3 k3a kf3a
   revert h8
   generalize World.drew _ = W9
   intro h8
   have HS := mk_ h8
   clear h8
   go_wp2
   (try simp only [Exit.inBlock, Exit.then])
   refine bodyPost_ret (results_tctt rfl _ _ w.heap.size 31 #[.slice none 0 0, .int .i64 0, .int .i64 0, .int .i64 0, .slice none 0 0, .slice none 0 0, .slice none 0 0] (0, 0) _ rfl HS.out.blk Try.underlying31 rfl z1_) rfl ?_
   refine ⟨_, _, rfl, ?_⟩
   have hT : (opsOf p.slots).take i = opsOf p.slots := by rw [HII.out, List.take_length]
   have h9 := HS.out.tail
   rw [hT] at h9
   exact Sep.cons (fun _ => Sep.swap) h9
end
end Go.Proofs.Ytcbfliajgopdaaa.Logs
end
section
namespace Go.Proofs.Ytcbfliajgopdaaa.Logs
open Go.RowKit Go.Proofs.Ytcbfliajgopdaaa.PAll Go.Proofs.Ytcbfliajgopdaaa.Plain Go.Proofs.Ytcbfliajgopdaaa.Ops Go.Proofs.YtcbfliajgopdaaaW.PrintWords Go.Proofs.YtcbfliajgopdaaaW.PrintLast Go.Proofs.YtcbfliajgopdaaaW.PrintMore Go.Proofs.Ytcbfliajgopdaaa.Pads Go.Proofs.Ytcbfliajgopdaaa.Sep Go.Proofs.Ytcbfliajgopdaaa.ZipT Go.Proofs.YtcbfliajgopdaaaW.PrintWords.Kd Go.Proofs.YtcbfliajgopdaaaW.PrintMore.Kd
set_option linter.unusedVariables false
set_option linter.unusedSimpArgs false
section
variable {P : Program} {ops : Array Oper} {o : Oper} {a : Act} {Q : Exit → Act → World → Prop} {Kc : Act → World → Prop} {α : Type}
theorem _root_.Go.Proofs.Ytcbfliajgopdaaa.Sep.Sp.appendRow_step (d : Kd α) {W : World} {F : List Part} (hw : Region.wanted o (yielded ops a.tmps) = true) (s x : Operand) (t e : TypeId) (z : Value) (bytes : Nat)
  (ho : o.op = .call { callee := .builtin .append, args := #[s, x], argTypes := #[t, t] })
  (ht : P.underlying t = some (.slice e)) (hinfo : (P.info? e).map (fun i => (i.zero, i.size, i.bytes)) = some (some z, d.sz, bytes)) (hz : z.cells.size = d.sz) (hs0 : 0 < d.sz) (hb0 : 0 < bytes)
  (v : Value) (xs ys : List α) (A : Option Addr) (m c : Nat) (hs : a.eval s = v) (hx : a.eval x = .slice A m c)
  (hKM : ∀ x cs, d.K W x cs → d.M W 0 (fun _ => False) x cs) (hS : Sp W (Row d e v xs :: F)) (hR : d.C W A m ys) (hl : (xs.length + m) * bytes ≤ 140737488355328)
  (h : ∀ v1 w1, Sp w1 (Row d e v1 (xs ++ ys) :: F) → Kc (a.put o.dst v1) w1) :
  if Region.wanted o (yielded ops a.tmps) = true then Oper.wp P o a W Kc Q else Kc (a.put o.dst undef) W := by
 obtain ⟨ok1, h1, hr, h3⟩ := hS
 refine R_append_rows_step d (w0 := W) 0 hw s x t e z bytes ho ht hinfo hz hs0 hb0 v xs ys A m c (fun k => ok1 k ∨ False ∨ W.heap.size ≤ k) (fun _ => False) hs hx (R_mono hr (fun k hk => .inl hk)) hR hKM (fun _ h => h.elim) (fun k hk => .inr (.inr hk)) (Below.refl _ _) (Nat.zero_le _) hl ?_
 intro v1 w1 hr1 _ hg _
 exact h v1 w1 (Sp.appended (ok2 := fun _ => False) h1 (fun k hk => hk.elim) (h3.wide (fun k hk => ⟨hk, fun e => e⟩)) hr.1 hr1 hg)
end
section
variable {w : World} {F : List Part} {g gl : Nat} {p q : Pd} {y : Int}
set_option maxHeartbeats 8000000 in
set_option maxRecDepth 100000 in
theorem lsync_calls (hS : Sp w (LogP gl g :: PadP g p :: F)) (hok : p.Ok) (he : p.sync = (q, y)) :
  Calls Try.prog 22 #[.pointer (some ⟨gl, 0, none⟩)] w fun e w' => e = .returned (.int .i64 y) ∧ Sp w' (LogP gl g :: PadP g q :: F) := by
 have k0 := blk_cell (Sp.blk hS) 0
 have HS := mk_ hS.s1
 have HOK := mk_ hok
 have HE := mk_ he
 clear hS hok he
 go_enter Try.func22, Try.ntmps22
 go_wp2_with (go_at_call 66; refine (sync_to HS.out HOK.out HE.out).mono ?_; rintro e w1 ⟨rfl, h1⟩; clear HS; have HS := mk_ h1.s1; clear h1)
 go_ret
 exact ⟨rfl, HS.out⟩
set_option maxHeartbeats 8000000 in
set_option maxRecDepth 100000 in
theorem put_calls (hS : Sp w (LogP gl g :: PadP g p :: F)) (hok : p.Ok) (k : Int) (hk : IntKind.u8.wrap k = k) (A : Option Addr) (c : Nat) (b : List Int) (hbc : b.length ≤ c) (hbl : b.length ≤ 1000000) (hC : Kd.C (Kd.int .u8) w A b.length b) (he : p.append (k :: b) = (q, y)) :
  Calls Try.prog 61 #[.pointer (some ⟨gl, 0, none⟩), .int .u8 k, .slice A b.length c] w fun e w' => e = .returned (.int .i64 y) ∧ Sp w' (LogP gl g :: PadP g q :: F) := by
 have k0 := blk_cell (Sp.blk hS) 0
 have hSd := hS.drew
 have hCd := C_drew hC
 clear hS hC
 have k1 : w.drew.cell? ⟨gl, 0, none⟩ = some (.pointer (some ⟨g, 0, none⟩)) := k0
 go_enter Try.func61, Try.ntmps61
 go_wp2
 refine start_ (n := 10) (S := fun w' => w'.cell? ⟨gl, 0, none⟩ = some (.pointer (some ⟨g, 0, none⟩)) ∧ True) (ds := [8]) (Steps.Bs 10 0) z1_ rfl rfl ⟨k1, trivial⟩ (fun hHeld => ?_)
 clear k0 k1
 generalize World.drew _ = W at hSd hCd hHeld ⊢
 refine Steps.pI_ 0 (some 7) (Steps.Bs 10 1) z1_ (h := ?_)
 refine Steps.pI_ 1 (some 8) (Steps.Bs 10 3) z1_ (h := ?_)
 refine Steps.pI_ 2 (some 9) (Steps.Bs 10 7) z1_ (h := ?_)
 refine Steps.pI_ 4 (some 11) (Steps.Bs 10 23) z1_ (h := ?_)
 refine Steps.pI_ 6 (some 13) (Steps.Bs 10 87) z1_ (h := ?_)
 refine Steps.tI_ 3 (some 10) (Steps.Bs 10 95) z1_ hHeld (h := ?_)
 refine one_ (i := 5) (N := some 12) (Steps.Bs 10 127) rfl rfl z1_ z5_ (fun K hK => ?_)
 refine value_ (w1 := ?_) (v := ?_) (by rfl) rfl ?_ ?_
 rotate_left 2
 ·
  go_simp
  constructor
  ·
   rfl
  ·
   rfl
 have hS2 := lit_u8 k hSd
 refine hK.out _ _ ⟨blk_cell (Sp.blk hS2.s1) 0, trivial⟩ (fun hHeld => ?_)
 clear hK K
 refine norm_ (a' := ?_) ?_ ?_
 rotate_left
 ·
  show Act.put _ (some 12) _ = _
  simp only [Act.put, List.setIfInBounds_toArray, List.set_cons_zero, List.set_cons_succ, i64_w, i32_w]
  rfl
 refine one_ (i := 7) (N := some 14) (Steps.Bs 10 255) rfl rfl z1_ z5_ (fun K hK => ?_)
 refine Sp.appendRow_step (Kd.int .u8) (by rfl) (.tmp 12) (.tmp 13) 22 5 (.int .u8 0) 1 rfl Try.underlying22 z1_ rfl z5_ z2_ (.slice (some ⟨W.heap.size, 0, none⟩) 1 1) [k] b A b.length c rfl rfl (fun x cs h => h) hS2 (C_alloc hCd _) (by rw [List.length_singleton]; omega) ?_
 intro v1 w1 h1
 obtain ⟨A1, c1, rfl, hbc1, hC1⟩ := h1.row
 refine hK.out _ _ ⟨blk_cell (Sp.blk h1.s1) 0, trivial⟩ (fun hHeld => ?_)
 clear hK K
 refine norm_ (a' := ?_) ?_ ?_
 rotate_left
 ·
  show Act.put _ (some 14) _ = _
  simp only [Act.put, List.setIfInBounds_toArray, List.set_cons_zero, List.set_cons_succ, i64_w, i32_w]
  rfl
 refine last_ (i := 8) (N := some 15) (Steps.Bs 10 511) rfl rfl z1_ z5_ (fun K hK => ?_)
 refine goes_ Try.func17 z1_ rfl #[.pointer (some ⟨g, 0, none⟩), .slice A1 ([k] ++ b).length c1] (by rfl) rfl rfl (by (try simp only [List.map_toArray, List.map_cons, List.map_nil]); first | done | rfl) ?_
 refine (append_to h1.s2 hok A1 c1 ([k] ++ b) hbc1 (by rw [List.length_append, List.length_singleton]; omega) hC1 he).mono ?_
 rintro e w2 ⟨rfl, h2⟩
 have h3 := h2.s1.tail.s1
 refine ⟨_, rfl, ?_⟩
 refine hK.out _ _ ?_
 clear hK K h1 h2
 refine norm_ (a' := ?_) ?_ ?_
 rotate_left
 ·
  show Act.put _ (some 15) _ = _
  simp only [Act.put, List.setIfInBounds_toArray, List.set_cons_zero, List.set_cons_succ, i64_w, i32_w]
  rfl
 refine Steps.pI_ 9 (some 6) (Steps.Bs 10 1023) z1_ (h := ?_)
 refine done_ z1_ ?_
 go_wp2
 go_ret
 exact ⟨rfl, h3⟩
set_option maxHeartbeats 8000000 in
set_option maxRecDepth 100000 in
theorem lappend_calls (hS : Sp w (LogP gl g :: PadP g p :: F)) (hok : p.Ok) (x : Ox) (A1 A7 A8 : Option Addr) (c1 c7 c8 : Nat) (hC1 : Kd.C (Kd.int .i64) w A1 x.f1.length x.f1) (h1c : x.f1.length ≤ c1) (hC7 : Kd.C k89 w A7 x.f7.length x.f7) (h7c : x.f7.length ≤ c7) (hC8 : Kd.C k50 w A8 x.f8.length x.f8) (h8c : x.f8.length ≤ c8) (hx : opSmall x) (hf : opFit x) (hl : (opB x).length ≤ 1000000) (he : p.append (recB x) = (q, y)) :
  Calls Try.prog 18 #[.pointer (some ⟨gl, 0, none⟩), .agg #[.int .i64 x.f0.f0, .int .i64 x.f0.f1, .slice A1 x.f1.length c1, .int .i64 x.f2.f0, .int .i64 x.f2.f1, .int .i64 x.f2.f2, .int .i64 x.f3, .int .i64 x.f4, .string x.f5, .int .i64 x.f6, .slice A7 x.f7.length c7, .slice A8 x.f8.length c8]] w fun e w' => e = .returned (.int .i64 y) ∧ Sp w' (LogP gl g :: PadP g q :: F) := by
 have h1 := hS.box (.cells #[.int .i64 x.f0.f0, .int .i64 x.f0.f1, .slice A1 x.f1.length c1, .int .i64 x.f2.f0, .int .i64 x.f2.f1, .int .i64 x.f2.f2, .int .i64 x.f3, .int .i64 x.f4, .string x.f5, .int .i64 x.f6, .slice A7 x.f7.length c7, .slice A8 x.f8.length c8] 54 (0, 0))
 have k3 := blk_cell h1.blk
 have hq := bytes_sp x A1 A7 A8 c1 c7 c8 (C_alloc hC1 (.cells #[.int .i64 x.f0.f0, .int .i64 x.f0.f1, .slice A1 x.f1.length c1, .int .i64 x.f2.f0, .int .i64 x.f2.f1, .int .i64 x.f2.f2, .int .i64 x.f3, .int .i64 x.f4, .string x.f5, .int .i64 x.f6, .slice A7 x.f7.length c7, .slice A8 x.f8.length c8] 54 (0, 0))) h1c (C_alloc hC7 (.cells #[.int .i64 x.f0.f0, .int .i64 x.f0.f1, .slice A1 x.f1.length c1, .int .i64 x.f2.f0, .int .i64 x.f2.f1, .int .i64 x.f2.f2, .int .i64 x.f3, .int .i64 x.f4, .string x.f5, .int .i64 x.f6, .slice A7 x.f7.length c7, .slice A8 x.f8.length c8] 54 (0, 0))) h7c (C_alloc hC8 (.cells #[.int .i64 x.f0.f0, .int .i64 x.f0.f1, .slice A1 x.f1.length c1, .int .i64 x.f2.f0, .int .i64 x.f2.f1, .int .i64 x.f2.f2, .int .i64 x.f3, .int .i64 x.f4, .string x.f5, .int .i64 x.f6, .slice A7 x.f7.length c7, .slice A8 x.f8.length c8] 54 (0, 0))) h8c hx
 rw [opBytes_eq, if_pos hf] at hq
 have HS := mk_ h1.tail
 have HOK := mk_ hok
 have HE := mk_ he
 have HQ := mk_ hq
 have HL := mk_ hl
 clear hS h1 hok he hC1 hC7 hC8 hq h1c h7c h8c hx hf hl
 go_enter Try.func18, Try.ntmps18
 go_wp2_with (first
  | (go_at_call 60; go_loud (refine HQ.out.mono ?_; rintro e w1 ⟨v, rfl, h_⟩; have n_ := Sp.frame (X := [_]) HS.out h_; simp only [List.cons_append, List.nil_append] at n_; obtain ⟨Av, cv, rfl, hvc, hvC⟩ := n_.row; have HVC := mk_ hvc; have HV := mk_ hvC; clear HS h_ hvc hvC; have HS := mk_ n_.tail; clear n_))
  | (go_at_call 61; go_loud (refine (put_calls HS.out HOK.out 1 z5_ Av cv (opB x) HVC.out HL.out HV.out HE.out).mono ?_; rintro e w2 ⟨rfl, h2⟩; clear HS; have HS := mk_ h2; clear h2)))
 go_ret
 exact ⟨rfl, HS.out⟩
set_option maxHeartbeats 8000000 in
set_option maxRecDepth 100000 in
theorem log_calls (hS : Sp w F) : Calls Try.prog 15 #[] w fun e w' => ∃ g gl, e = .returned (.tuple #[.pointer (some ⟨g, 0, none⟩), .pointer (some ⟨gl, 0, none⟩)]) ∧ Sp w' (LogP gl g :: PadP g Pd.new :: F) := by
 have HS0 := mk_ hS
 clear hS
 go_enter Try.func15, Try.ntmps15
 go_wp2_with (first
  | (go_at_call 45; go_loud (refine (new_calls HS0.out).mono ?_; rintro e w1 ⟨g, rfl, h1⟩; have H1 := mk_ h1; clear h1 HS0))
  | (go_at_call 19; go_loud (have q_ := open_calls H1.out Pd.new_ok rfl rfl (fun s hs => by cases hs) (fun s hs => by cases hs); unfold snap0 at q_; refine q_.mono ?_; clear q_; rintro e w2 ⟨gl, v, rfl, h2⟩; obtain ⟨Av, cv, rfl, _, _⟩ := h2.s1.row; have HS := mk_ (show Sp w2 (LogP gl g :: PadP g Pd.new :: F) from Sp.tail h2.s1); clear h2 H1))
  | ((with_reducible refine gate_dst (N := 4) rfl ?_); go_loud (refine box_event ?hg (N := 4) ?hd (cs := #[.slice none 0 0, .int .i64 0, .int .i64 0, .int .i64 0, .slice none 0 0, .slice none 0 0, .slice none 0 0]) (t := 31) ?hr ?_; (case hd => rfl); (case hg => rfl); (case hr => first | (go_simp; done) | (go_simp; rfl)); intro g4 hg W4 hbox hb; have h_ := HS.out.boxed hg hbox hb; clear hbox hb hg; clear HS; have HS := mk_ h_; clear h_; have k4 := blk_cell HS.out.blk; have kf4 := blk_frozen HS.out.blk))
  | ((with_reducible refine gate_store (t := 31) (p := 4) rfl ?_); go_loud (refine store_event (t := 31) (p := 4) (v := ?vo4) (w1 := put7 W4 g4 (.slice none 0 0) (.int .i64 0) (.int .i64 0) (.int .i64 0) (.slice none 0 0) (.slice none 0 0) (.slice none 0 0)) ?hg ?ho ?hn ?hr ?_; (case ho => rfl); (case hg => rfl); (case hn => rfl); (case hr => first | (go_simp; done) | (go_simp; rfl)); intro W5 hw; have h_ := (HS.out).put7 (.slice none 0 0) (.int .i64 0) (.int .i64 0) (.int .i64 0) (.slice none 0 0) (.slice none 0 0) (.slice none 0 0); rw [← hw] at h_; clear hw k4 kf4; clear HS; have HS := mk_ h_.tail; clear h_)))
 (try go_region)
 go_ret2
 exact ⟨_, _, rfl, HS.out⟩
end
end Go.Proofs.Ytcbfliajgopdaaa.Logs
end
section
namespace Go.Proofs.Ytcbfliajgopdaaa.Keep
open Go.RowKit Go.Proofs.Ytcbfliajgopdaaa.PAll Go.Proofs.YtcbfliajgopdaaaW.PrintWords Go.Proofs.YtcbfliajgopdaaaW.PrintLast Go.Proofs.YtcbfliajgopdaaaW.PrintMore Go.Proofs.Ytcbfliajgopdaaa.Plain Go.Proofs.Ytcbfliajgopdaaa.ZipT Go.Proofs.YtcbfliajgopdaaaW.PrintWords.Kd Go.Proofs.YtcbfliajgopdaaaW.PrintMore.Kd
set_option linter.unusedVariables false
set_option linter.unusedSimpArgs false
theorem rd_drop {l : List Int} {i : Nat} {b : Int} {m : List Int} (h : l.drop i = b :: m) : rd l i = b := by
 have hi : i < l.length := by
  rcases Nat.lt_or_ge i l.length with h1 | h1
  ·
   exact h1
  ·
   rw [List.drop_eq_nil_of_le h1] at h; cases h
 show l.getD (i : Int).toNat 0 = b
 rw [List.getD_eq_getElem?_getD, Int.toNat_natCast, List.getElem?_eq_getElem hi]
 have := List.drop_eq_getElem_cons hi
 rw [this] at h
 injection h
theorem drop_tail {l : List Int} {i : Nat} {b : Int} {m : List Int} (h : l.drop i = b :: m) : l.drop (i + 1) = m := by
 have := congrArg List.tail h
 rwa [List.tail_drop] at this
theorem drop_lt {l : List Int} {i : Nat} {b : Int} {m : List Int} (h : l.drop i = b :: m) : i < l.length := by
 rcases Nat.lt_or_ge i l.length with h1 | h1
 ·
  exact h1
 ·
  rw [List.drop_eq_nil_of_le h1] at h; cases h
theorem drop_end {l : List Int} {i : Nat} (h : l.drop i = []) : l.length ≤ i := by
 rcases Nat.lt_or_ge i l.length with h1 | h1
 ·
  have := List.drop_eq_getElem_cons h1; rw [this] at h; cases h
 ·
  exact h1
end Go.Proofs.Ytcbfliajgopdaaa.Keep
end
section
namespace Go.Proofs.Ytcbfliajgopdaaa.Pads
open Go.RowKit Go.Proofs.YtcbfliajgopdaaaW.PrintWords Go.Proofs.YtcbfliajgopdaaaW.PrintLast Go.Proofs.YtcbfliajgopdaaaW.PrintMore Go.Proofs.Ytcbfliajgopdaaa.Sep Go.Proofs.Ytcbfliajgopdaaa.ZipT Go.Proofs.YtcbfliajgopdaaaW.PrintWords.Kd Go.Proofs.YtcbfliajgopdaaaW.PrintMore.Kd
set_option linter.unusedVariables false
set_option linter.unusedSimpArgs false
def nums (i : Nat) : List Sl := (List.range i).map (fun j : Nat => ([(j : Int)], false))
theorem append_plain (sl : List Sl) (sf : Nat) (li : Int) (b : List Int) (hb : b.length ≤ 65536) (hl : sl.length < 4000) : (⟨sl, sf, false, li, none⟩ : Pd).append b = (⟨sl ++ [(b, false)], sf, false, li, none⟩, 0) := by
 unfold Pd.append
 rw [if_neg (by simp), if_neg z2_, if_neg (by dsimp only; omega), Pd.spend_none rfl]
 rfl
theorem sync_plain (sl : List Sl) (sf : Nat) (li : Int) : (⟨sl, sf, false, li, none⟩ : Pd).sync = (⟨sl, sl.length, false, li, none⟩, 0) := by
 unfold Pd.sync
 rw [if_neg (by simp), Pd.spend_none rfl]
 rfl
theorem C_nil {α : Type} (d : Kd α) (w : World) : d.C w none 0 [] := ⟨rfl, by decide, fun h => by omega⟩
end Go.Proofs.Ytcbfliajgopdaaa.Pads
end
section
namespace Go.Proofs.Ytcbfliajgopdaaa.Ops
open Go.RowKit Go.Proofs.Ytcbfliajgopdaaa.PAll Go.Proofs.Ytcbfliajgopdaaa.Plain Go.Proofs.YtcbfliajgopdaaaW.PrintWords Go.Proofs.YtcbfliajgopdaaaW.PrintMore Go.Proofs.Ytcbfliajgopdaaa.ZipT Go.Proofs.YtcbfliajgopdaaaW.PrintWords.Kd Go.Proofs.YtcbfliajgopdaaaW.PrintMore.Kd
set_option linter.unusedVariables false
set_option linter.unusedSimpArgs false
theorem fit_eq (n : Int) (s : Nat) (h1 : 1 ≤ s) (h7 : s ≤ 7) : raddleref01_fits.f n (s : Int) = some (decide (fitN s n)) := by
 unfold raddleref01_fits.f
 by_cases h : n ≥ 0
 ·
  rw [if_pos h, w64 z2_ z2_, wu64 z2_ z2_, if_pos z2_, shr_bytes n s z2_]
  congr 1
  have hp : (0 : Int) < 256 ^ s := Int.pow_pos z5_
  by_cases hf : fitN s n
  ·
   rw [decide_eq_true hf, beq_iff_eq]; exact Int.ediv_eq_zero_of_lt hf.1 hf.2
  ·
   rw [decide_eq_false hf, beq_eq_false_iff_ne]
   intro e
   apply hf
   refine ⟨h, ?_⟩
   have h3 := Int.ediv_mul_le n (show (256 : Int) ^ s ≠ 0 by omega)
   have h4 := Int.emod_lt_of_pos n hp
   have h5 := Int.emod_add_mul_ediv n (256 ^ s)
   rw [e, Int.mul_zero, Int.add_zero] at h5
   omega
 ·
  rw [if_neg h, decide_eq_false (fun e => h e.1)]
theorem dotFit_eq (d : Dt) : raddleref01_dotFits.f d.f0 d.f1 = some (decide (dotFit d)) := by
 have a1 := fit_eq d.f0 1 z5_ z5_
 have a4 := fit_eq d.f1 4 z5_ z5_
 unfold raddleref01_dotFits.f
 refine (congrArg (fun q => Option.bind q _) a1).trans ?_
 rw [Option.bind_some]
 by_cases h1 : fitN 1 d.f0
 ·
  rw [decide_eq_true h1, if_pos rfl]
  refine (congrArg (fun q => Option.bind q _) a4).trans ?_
  rw [Option.bind_some]
  congr 1; rw [decide_eq_decide]; exact ⟨fun e => ⟨h1, e⟩, fun e => e.2⟩
 ·
  rw [decide_eq_false h1, if_neg z5_, decide_eq_false (fun e => h1 e.1)]
theorem stampFit_eq (t : St) : raddleref01_stampFits.f t.f0 t.f1 t.f2 = some (decide (stampFit t)) := by
 have a1 := fit_eq t.f0 6 z5_ z5_
 have a2 := fit_eq t.f1 3 z5_ z5_
 have a3 := fit_eq t.f2 1 z5_ z5_
 unfold raddleref01_stampFits.f
 refine (congrArg (fun q => Option.bind q _) a1).trans ?_
 rw [Option.bind_some]
 by_cases h1 : fitN 6 t.f0
 ·
  rw [decide_eq_true h1, if_pos rfl]
  refine (congrArg (fun q => Option.bind q _) a2).trans ?_
  rw [Option.bind_some]
  by_cases h2 : fitN 3 t.f1
  ·
   rw [decide_eq_true h2, if_pos rfl]
   refine (congrArg (fun q => Option.bind q _) a3).trans ?_
   rw [Option.bind_some]
   congr 1; rw [decide_eq_decide]; exact ⟨fun e => ⟨⟨h1, h2⟩, e⟩, fun e => e.2⟩
  ·
   rw [decide_eq_false h2, if_neg z5_, decide_eq_false (fun e => h2 e.1.2)]
 ·
  rw [decide_eq_false h1, if_neg z5_, decide_eq_false (fun e => h1 e.1.1)]
theorem vecFit_l0 (l : List Int) (hl : l.length ≤ 1000000) (m : List Int) : ∀ (k i : Nat), l.drop i = m → m.length < k →
  raddleref01_vectorFits.l0 k l (i : Int) = some (decide ((∀ n ∈ m, fitN 4 n) ∧ l.length ≤ 5)) := by
 induction m with
 | nil =>
  intro k i h hk
  obtain ⟨k, rfl⟩ : ∃ j, k = j + 1 := ⟨k - 1, by omega⟩
  have := dropL_end h
  simp only [raddleref01_vectorFits.l0]
  rw [if_neg z2_]
  congr 1; rw [decide_eq_decide]; constructor
  ·
   intro e; exact ⟨fun n hn => (by cases hn), by omega⟩
  ·
   intro e; have := e.2; omega
 | cons v m ih =>
  intro k i h hk
  obtain ⟨k, rfl⟩ : ∃ j, k = j + 1 := ⟨k - 1, by omega⟩
  have hi := dropL_lt h
  simp only [List.length_cons] at hk
  have a4 := fit_eq v 4 z5_ z5_
  simp only [raddleref01_vectorFits.l0]
  rw [if_pos z2_, if_pos z2_, rd_drop h]
  refine (congrArg (fun q => Option.bind q _) a4).trans ?_
  rw [Option.bind_some]
  by_cases ho : fitN 4 v
  ·
   rw [decide_eq_true ho, if_pos rfl, w64 z2_ z2_]
   refine (ih k (i + 1) (dropL_tail h) z2_).trans ?_
   congr 1; rw [decide_eq_decide]
   exact ⟨fun e => ⟨fun n hn => by rcases List.mem_cons.1 hn with rfl | hn; exact ho; exact e.1 n hn, e.2⟩, fun e => ⟨fun n hn => e.1 n (List.mem_cons_of_mem _ hn), e.2⟩⟩
  ·
   rw [decide_eq_false ho, if_neg z5_, decide_eq_false (fun e => ho (e.1 v List.mem_cons_self))]
theorem vecFit_eq (k : Nat) (l : List Int) (hl : l.length ≤ 1000000) (hk : l.length < k) : raddleref01_vectorFits.f k l = some (decide (numsFit l)) := by
 have := vecFit_l0 l hl l k 0 rfl hk
 unfold raddleref01_vectorFits.f
 refine this.trans ?_
 congr 1; rw [decide_eq_decide]; exact ⟨fun e => ⟨e.2, e.1⟩, fun e => ⟨e.2, e.1⟩⟩
end Go.Proofs.Ytcbfliajgopdaaa.Ops
end
section
namespace Go.Proofs.Ytcbfliajgopdaaa.Ops
open Go.RowKit Go.Proofs.Ytcbfliajgopdaaa.PAll Go.Proofs.Ytcbfliajgopdaaa.Ops Go.Proofs.Ytcbfliajgopdaaa.Plain Go.Proofs.YtcbfliajgopdaaaW.PrintWords Go.Proofs.YtcbfliajgopdaaaW.PrintLast Go.Proofs.YtcbfliajgopdaaaW.PrintMore Go.Proofs.Ytcbfliajgopdaaa.ZipT Go.Proofs.YtcbfliajgopdaaaW.PrintWords.Kd Go.Proofs.YtcbfliajgopdaaaW.PrintMore.Kd
set_option linter.unusedVariables false
set_option linter.unusedSimpArgs false
def dotsOk (l : List Dt) : Bool := decide (∀ d ∈ l, dotFit d)
theorem dots_step {l : List Dt} {i : Nat} (h : i < l.length) : dotsOk (l.drop i) = (decide (dotFit (rd_T50 l (i : Int))) && dotsOk (l.drop (i + 1))) := by
 have e1 := List.drop_eq_getElem_cons h
 rw [rdD_drop e1, e1]
 unfold dotsOk
 rw [← Bool.decide_and]
 exact decide_eq_decide.2 List.forall_mem_cons
set_option maxHeartbeats 40000000 in
set_option maxRecDepth 100000 in
theorem fits_calls (x : Ox) (A2 : Option Addr) (c2 : Nat) (A10 : Option Addr) (c10 : Nat) (A11 : Option Addr) (c11 : Nat) (w : World) (hr2 : Kd.C (Kd.int .i64) w A2 x.f1.length x.f1) (hc2 : x.f1.length ≤ c2) (hr10 : Kd.C k89 w A10 x.f7.length x.f7) (hc10 : x.f7.length ≤ c10) (hr11 : Kd.C k50 w A11 x.f8.length x.f8) (hc11 : x.f8.length ≤ c11)
  (hx : opSmall x) :
  Calls Try.prog 16 #[.agg #[.int .i64 x.f0.f0, .int .i64 x.f0.f1, .slice A2 x.f1.length c2, .int .i64 x.f2.f0, .int .i64 x.f2.f1, .int .i64 x.f2.f2, .int .i64 x.f3, .int .i64 x.f4, .string x.f5, .int .i64 x.f6, .slice A10 x.f7.length c10, .slice A11 x.f8.length c11]] w fun e w' => e = .returned (.bool (decide (opFit x))) ∧ Below w.heap.size w w' := by
 have hu1 := Try.underlying54
 have hu2 := Try.underlying50
 have hu3 := Try.underlying26
 obtain ⟨b3, e3⟩ : ∃ b, decide (fitN 1 x.f3) = b := ⟨_, rfl⟩
 obtain ⟨b0, e0⟩ : ∃ b, decide (dotFit x.f0) = b := ⟨_, rfl⟩
 obtain ⟨b1, e1⟩ : ∃ b, decide (numsFit x.f1) = b := ⟨_, rfl⟩
 obtain ⟨b2, e2⟩ : ∃ b, decide (stampFit x.f2) = b := ⟨_, rfl⟩
 obtain ⟨b4, e4⟩ : ∃ b, decide (fitN 1 x.f4) = b := ⟨_, rfl⟩
 obtain ⟨b5, e5⟩ : ∃ b, decide (24 < x.f5.size) = b := ⟨_, rfl⟩
 obtain ⟨b6, e6⟩ : ∃ b, decide (fitN 1 x.f6) = b := ⟨_, rfl⟩
 obtain ⟨b7, e7⟩ : ∃ b, decide (rowE x.f7 = 0) = b := ⟨_, rfl⟩
 obtain ⟨b8, e8⟩ : ∃ b, decide (64 < x.f8.length) = b := ⟨_, rfl⟩
 obtain ⟨ok, hok⟩ : ∃ b, (b3 && b0 && b1 && b2 && b4 && !b5 && b6 && b7 && !b8) = b := ⟨_, rfl⟩
 obtain ⟨res, hres⟩ : ∃ r, decide (opFit x) = r := ⟨_, rfl⟩
 rw [hres]
 have HR0 := mk_ (show res = (ok && dotsOk x.f8) from by
  rw [← hres, ← hok, ← e3, ← e0, ← e1, ← e2, ← e4, ← e5, ← e6, ← e7, ← e8]
  unfold opFit dotsFit dotsOk
  rw [show (!decide (24 < x.f5.size)) = decide (x.f5.size ≤ 24) from by rw [← decide_not]; exact decide_eq_decide.2 Nat.not_lt, show (!decide (64 < x.f8.length)) = decide (x.f8.length ≤ 64) from by rw [← decide_not]; exact decide_eq_decide.2 Nat.not_lt]
  simp only [← Bool.decide_and]
  exact decide_eq_decide.2 (by simp only [and_assoc]))
 have HX := mk_ hok.symm
 have H3 := mk_ (show raddleref01_fits.f x.f3 1 = some b3 from (fit_eq x.f3 1 z5_ z5_).trans (by rw [e3]))
 have H0 := mk_ (show raddleref01_dotFits.f x.f0.f0 x.f0.f1 = some b0 by rw [dotFit_eq, e0])
 have H1 := mk_ (show raddleref01_vectorFits.f 2000 x.f1 = some b1 by rw [vecFit_eq _ _ (by have := hx.1; omega) (by have := hx.1; omega), e1])
 have H2 := mk_ (show raddleref01_stampFits.f x.f2.f0 x.f2.f1 x.f2.f2 = some b2 by rw [stampFit_eq, e2])
 have H4 := mk_ (show raddleref01_fits.f x.f4 1 = some b4 from (fit_eq x.f4 1 z5_ z5_).trans (by rw [e4]))
 have H6 := mk_ (show raddleref01_fits.f x.f6 1 = some b6 from (fit_eq x.f6 1 z5_ z5_).trans (by rw [e6]))
 have H7 := mk_ (refRow_eq 2000 x.f7 (by have := hx.2.1; omega) (by have := hx.2.1; omega))
 have f5 : decide ((24 : Int) < (x.f5.size : Int)) = b5 := by rw [← e5]; exact decide_eq_decide.2 z2_
 have f8 : decide ((64 : Int) < (x.f8.length : Int)) = b8 := by rw [← e8]; exact decide_eq_decide.2 z2_
 have f7 : (rowE x.f7 == 0) = b7 := by rw [← e7]; exact (Bool.beq_eq_decide_eq _ _)
 have f7' : (rowE x.f7 != 0) = !b7 := by rw [← f7]; rfl
 have HR2 := mk_ hr2
 have HC2 := mk_ hc2
 have HR10 := mk_ hr10
 have HC10 := mk_ hc10
 have HR11 := mk_ hr11
 have HN := mk_ hx
 clear e3 e0 e1 e2 e4 e6 hres hok hr2 hc2 hr10 hc10 hr11 hc11 hx
 have HB := mk_ (Below.refl w.heap.size w)
 go_enter Try.func16, Try.ntmps16
 go_upto_region 1 with (first | ((with_reducible refine gate_dst (N := 1) rfl ?_); (try (refine gate_guard (by rfl) ?_; dsimp only)); refine box_event ?hg (N := 1) ?hd (cs := #[.int .i64 x.f0.f0, .int .i64 x.f0.f1, .slice A2 x.f1.length c2, .int .i64 x.f2.f0, .int .i64 x.f2.f1, .int .i64 x.f2.f2, .int .i64 x.f3, .int .i64 x.f4, .string x.f5, .int .i64 x.f6, .slice A10 x.f7.length c10, .slice A11 x.f8.length c11]) (t := 54) ?hr ?_; (case hd => rfl); (case hg => rfl); (case hr => first | (go_simp; done) | (go_simp; rfl)); intro gb hg w5 hbox hb; have n0_ := mk_ (below_step HB.out hb); have n1_ := mk_ (hbox); clear HB; revert n0_ n1_; intro HB BK; clear hb hbox hg))
 (try simp only [Act.put, List.setIfInBounds_toArray, List.set_cons_zero, List.set_cons_succ])
 go_cut [55] (fun v55 wc => ∃ b : Bool, v55 = .bool b ∧ Aside0 (b = !ok) ∧ Aside0 (wc.heap[gb]? = some (.cells #[.int .i64 x.f0.f0, .int .i64 x.f0.f1, .slice A2 x.f1.length c2, .int .i64 x.f2.f0, .int .i64 x.f2.f1, .int .i64 x.f2.f2, .int .i64 x.f3, .int .i64 x.f4, .string x.f5, .int .i64 x.f6, .slice A10 x.f7.length c10, .slice A11 x.f8.length c11] 54 (0, 0))) ∧ Aside0 (Below w.heap.size w wc))
 case first =>
  have kb := blk_cell BK.out
  cases b3
  rotate_left
  cases b0
  rotate_left
  cases b1
  rotate_left
  cases b2
  rotate_left
  cases b4
  rotate_left
  cases b5
  cases b6
  rotate_left
  cases b7
  rotate_left
  cases b8
  all_goals
   go_wp2_with (first | ((with_reducible refine gate_callee (f := 53) rfl ?_); refine Go.Proofs.Ytcbfliajgopdaaa.Short.gL (some 6) Try.func53 #[.int .i64 x.f3, .int .i64 1] (h := ?_); refine (raddleref01_fits.calls x.f3 1 _ _ H3.out).mono ?_; rintro e V0 ⟨rfl, hq⟩; refine ⟨_, rfl, ?_⟩; have n0_ := mk_ (blk_below BK.out hq.below); have n1_ := mk_ (below_step HB.out hq.below); clear BK HB hq; revert n0_ n1_; intro BK HB; have kb := blk_cell BK.out) | (go_at_call 54; (with_reducible show Calls _ _ #[_] _ _); refine (raddleref01_dotFits.calls x.f0.f0 x.f0.f1 _ _ H0.out).mono ?_; rintro e V0 ⟨rfl, hq⟩; have n0_ := mk_ (blk_below BK.out hq); have n1_ := mk_ (below_step HB.out hq); clear BK HB hq; revert n0_ n1_; intro BK HB; have kb := blk_cell BK.out) | (go_at_call 55; (with_reducible show Calls _ _ #[_] _ _); refine (raddleref01_vectorFits.calls 2000 A2 c2 x.f1 _ _ (C_below HR2.out HB.out) HC2.out H1.out).mono ?_; rintro e V0 ⟨rfl, hq⟩; have n0_ := mk_ (blk_below BK.out hq.below); have n1_ := mk_ (below_step HB.out hq.below); clear BK HB hq; revert n0_ n1_; intro BK HB; have kb := blk_cell BK.out) | (go_at_call 56; (with_reducible show Calls _ _ #[_] _ _); refine (raddleref01_stampFits.calls x.f2.f0 x.f2.f1 x.f2.f2 _ _ H2.out).mono ?_; rintro e V0 ⟨rfl, hq⟩; have n0_ := mk_ (blk_below BK.out hq); have n1_ := mk_ (below_step HB.out hq); clear BK HB hq; revert n0_ n1_; intro BK HB; have kb := blk_cell BK.out) | (go_at_call 53; (with_reducible show Calls _ _ #[.int .i64 x.f4, _] _ _); refine (raddleref01_fits.calls x.f4 1 _ _ H4.out).mono ?_; rintro e V0 ⟨rfl, hq⟩; have n0_ := mk_ (blk_below BK.out hq.below); have n1_ := mk_ (below_step HB.out hq.below); clear BK HB hq; revert n0_ n1_; intro BK HB; have kb := blk_cell BK.out) | (go_at_call 53; (with_reducible show Calls _ _ #[.int .i64 x.f6, _] _ _); refine (raddleref01_fits.calls x.f6 1 _ _ H6.out).mono ?_; rintro e V0 ⟨rfl, hq⟩; have n0_ := mk_ (blk_below BK.out hq.below); have n1_ := mk_ (below_step HB.out hq.below); clear BK HB hq; revert n0_ n1_; intro BK HB; have kb := blk_cell BK.out) | (go_at_call 57; (with_reducible show Calls _ _ #[_] _ _); refine (raddleref01_Row.calls 2000 A10 c10 x.f7 _ _ (C_below HR10.out HB.out) HC10.out H7.out).mono ?_; rintro e V0 ⟨rfl, hq⟩; have n0_ := mk_ (blk_below BK.out hq); have n1_ := mk_ (below_step HB.out hq); clear BK HB hq; revert n0_ n1_; intro BK HB; have kb := blk_cell BK.out))
   go_meet
   case rel => exact ⟨_, rfl, ⟨by rw [HX.out]; rfl⟩, ⟨BK.out⟩, ⟨HB.out⟩⟩
 case rest => as_aux_lemma =>
 obtain ⟨b, rfl, HA, BK, HB⟩ := hcut
 clear f5 f8 f7 f7' e5 e7 e8
 cases b with
 | true =>
  have ht : ok = false := by
   have := HA.out
   cases ok
   ·
    rfl
   ·
    cases this
  go_wp2
  go_ret
  rw [show res = false from by rw [HR0.out, ht]; rfl]
  exact ⟨rfl, HB.out⟩
 | false =>
  have ht : ok = true := by
   have := HA.out
   cases ok
   ·
    cases this
   ·
    rfl
  have HQ0 := mk_ (show res = dotsOk (x.f8.drop 0) from by rw [HR0.out, ht]; rfl)
  clear HR0 HA ht HX
  have kb := blk_cell BK.out
  go_wp2
  go_loopg [3] (x.f8.length + 1) (fun kq v3 W' => ∃ (i : Nat) (z : Int), v3 = .int .i64 z ∧ Aside0 (z = (i : Int) ∧ kq + i = x.f8.length + 1 ∧ i ≤ x.f8.length) ∧ Aside0 (res = dotsOk (x.f8.drop i)) ∧ Aside0 (W'.heap[gb]? = some (.cells #[.int .i64 x.f0.f0, .int .i64 x.f0.f1, .slice A2 x.f1.length c2, .int .i64 x.f2.f0, .int .i64 x.f2.f1, .int .i64 x.f2.f2, .int .i64 x.f3, .int .i64 x.f4, .string x.f5, .int .i64 x.f6, .slice A10 x.f7.length c10, .slice A11 x.f8.length c11] 54 (0, 0))) ∧ Aside0 (Below w.heap.size w W'))
  case atStart => exact ⟨0, 0, rfl, ⟨by omega⟩, ⟨HQ0.out⟩, ⟨BK.out⟩, ⟨HB.out⟩⟩
  case round =>
   clear HQ0 BK HB kb
   obtain ⟨i, z, rfl, HK, HQ, BK, HB⟩ := hrel
   have hz := HK.out.1
   obtain ⟨kk, rfl⟩ : ∃ kk, gk = kk + 1 := ⟨gk - 1, by have := HK.out; omega⟩
   have kb := blk_cell BK.out
   by_cases hi : z < (x.f8.length : Int)
   rotate_left
   ·
    have hi0 : decide (z < (x.f8.length : Int)) = false := decide_eq_false hi
    have hr : res = true := by rw [HQ.out, List.drop_eq_nil_of_le (show x.f8.length ≤ i by omega)]; rfl
    clear hi HQ hz
    go_wp2
    go_ret
    rw [hr]
    exact ⟨rfl, HB.out⟩
   have hst := dots_step (l := x.f8) (i := i) z2_
   rw [← hz] at hst
   obtain ⟨ad, hea, hv0, hv1⟩ := at_T50 HR11.out z z2_ hi
   subst hea
   replace hv0 := (HB.out.cell (World.block_lt_of_cell? w _ hv0)).trans hv0
   replace hv1 := (HB.out.cell (World.block_lt_of_cell? w _ hv1)).trans hv1
   have p0 : (0 ≤ z) = True := eq_true z2_
   have p1 : decide (0 ≤ z) = true := decide_eq_true z2_
   have q0 := eq_true hi
   have q1 : decide (z < (x.f8.length : Int)) = true := decide_eq_true hi
   have HI := mk_ hi
   obtain ⟨b9, e9⟩ : ∃ b, decide (dotFit (rd_T50 x.f8 z)) = b := ⟨_, rfl⟩
   have HF := mk_ (show raddleref01_dotFits.f (rd_T50 x.f8 z).f0 (rd_T50 x.f8 z).f1 = some b9 by rw [dotFit_eq, e9])
   rw [e9] at hst
   have HST := mk_ hst
   clear hst e9 hi hz
   cases b9
   ·
    go_wp2_with (((with_reducible refine gate_callee (f := 54) rfl ?_); refine Go.Proofs.Ytcbfliajgopdaaa.Short.gL (some 68) Try.func54 #[.agg #[.int .i64 (rd_T50 x.f8 z).f0, .int .i64 (rd_T50 x.f8 z).f1]] (h := ?_); refine (raddleref01_dotFits.calls _ _ _ _ HF.out).mono ?_; rintro e V0 ⟨rfl, hq⟩; refine ⟨_, rfl, ?_⟩; have n0_ := mk_ (blk_below BK.out hq); have n1_ := mk_ (below_step HB.out hq); clear BK HB hq; revert n0_ n1_; intro BK HB; have kb := blk_cell BK.out))
    go_ret
    rw [show res = false from by rw [HQ.out, HST.out]; rfl]
    exact ⟨rfl, HB.out⟩
   go_wp2_with (((with_reducible refine gate_callee (f := 54) rfl ?_); refine Go.Proofs.Ytcbfliajgopdaaa.Short.gL (some 68) Try.func54 #[.agg #[.int .i64 (rd_T50 x.f8 z).f0, .int .i64 (rd_T50 x.f8 z).f1]] (h := ?_); refine (raddleref01_dotFits.calls _ _ _ _ HF.out).mono ?_; rintro e V0 ⟨rfl, hq⟩; refine ⟨_, rfl, ?_⟩; have n0_ := mk_ (blk_below BK.out hq); have n1_ := mk_ (below_step HB.out hq); clear BK HB hq; revert n0_ n1_; intro BK HB; have kb := blk_cell BK.out))
   go_roundg kk
   case measure => exact Nat.lt_succ_self _
   case rel => exact ⟨i + 1, _, rfl, ⟨by have := HK.out; have := HI.out; have := HN.out.2.2; rw [w64 z2_ z2_]; omega⟩, ⟨by rw [HQ.out, HST.out]; rfl⟩, ⟨BK.out⟩, ⟨HB.out⟩⟩
end Go.Proofs.Ytcbfliajgopdaaa.Ops
namespace Go.Proofs.Ytcbfliajgopdaaa.PAll
open Go.RowKit Go.Proofs.Ytcbfliajgopdaaa.PAll Go.Proofs.Ytcbfliajgopdaaa.Ops Go.Proofs.Ytcbfliajgopdaaa.Plain Go.Proofs.YtcbfliajgopdaaaW.PrintWords Go.Proofs.YtcbfliajgopdaaaW.PrintLast Go.Proofs.YtcbfliajgopdaaaW.PrintMore Go.Proofs.Ytcbfliajgopdaaa.ZipT Go.Proofs.YtcbfliajgopdaaaW.PrintWords.Kd Go.Proofs.YtcbfliajgopdaaaW.PrintMore.Kd
def raddleref01_OpFits.f (a0_0 : Int) (a0_1 : Int) (l0_2 : List Int) (a0_3 : Int) (a0_4 : Int) (a0_5 : Int) (a0_6 : Int) (a0_7 : Int) (a0_8 : ByteArray) (a0_9 : Int) (l0_10 : List V) (l0_11 : List Dt) : Option Bool := if opSmall (⟨⟨a0_0, a0_1⟩, l0_2, ⟨a0_3, a0_4, a0_5⟩, a0_6, a0_7, a0_8, a0_9, l0_10, l0_11⟩ : Ox) then some (decide (opFit (⟨⟨a0_0, a0_1⟩, l0_2, ⟨a0_3, a0_4, a0_5⟩, a0_6, a0_7, a0_8, a0_9, l0_10, l0_11⟩ : Ox))) else none
theorem raddleref01_OpFits.calls (a0_0 : Int) (a0_1 : Int) (A0_2 : Option Addr) (c0_2 : Nat) (l0_2 : List Int) (a0_3 : Int) (a0_4 : Int) (a0_5 : Int) (a0_6 : Int) (a0_7 : Int) (a0_8 : ByteArray) (a0_9 : Int) (A0_10 : Option Addr) (c0_10 : Nat) (l0_10 : List V) (A0_11 : Option Addr) (c0_11 : Nat) (l0_11 : List Dt) (r : Bool) (w : World) (hr0_2 : Kd.C (Kd.int .i64) w A0_2 l0_2.length l0_2) (hc0_2 : l0_2.length ≤ c0_2) (hr0_10 : Kd.C k89 w A0_10 l0_10.length l0_10) (hc0_10 : l0_10.length ≤ c0_10) (hr0_11 : Kd.C k50 w A0_11 l0_11.length l0_11) (hc0_11 : l0_11.length ≤ c0_11) (h : raddleref01_OpFits.f a0_0 a0_1 l0_2 a0_3 a0_4 a0_5 a0_6 a0_7 a0_8 a0_9 l0_10 l0_11 = some r) :
  Calls Try.prog 16 #[.agg #[.int .i64 a0_0, .int .i64 a0_1, .slice A0_2 l0_2.length c0_2, .int .i64 a0_3, .int .i64 a0_4, .int .i64 a0_5, .int .i64 a0_6, .int .i64 a0_7, .string a0_8, .int .i64 a0_9, .slice A0_10 l0_10.length c0_10, .slice A0_11 l0_11.length c0_11]] w fun e w' => e = .returned (.bool r) ∧ Below w.heap.size w w' := by
 unfold raddleref01_OpFits.f at h
 split at h
 ·
  rename_i hs
  obtain rfl := Option.some.inj h
  exact fits_calls (⟨⟨a0_0, a0_1⟩, l0_2, ⟨a0_3, a0_4, a0_5⟩, a0_6, a0_7, a0_8, a0_9, l0_10, l0_11⟩ : Ox) A0_2 c0_2 A0_10 c0_10 A0_11 c0_11 w hr0_2 hc0_2 hr0_10 hc0_10 hr0_11 hc0_11 hs
 ·
  cases h
end Go.Proofs.Ytcbfliajgopdaaa.PAll
namespace Go.Proofs.Ytcbfliajgopdaaa.Ops
open Go.RowKit Go.Proofs.Ytcbfliajgopdaaa.PAll Go.Proofs.Ytcbfliajgopdaaa.Plain Go.Proofs.Ytcbfliajgopdaaa.ZipT Go.Proofs.YtcbfliajgopdaaaW.PrintWords.Kd Go.Proofs.YtcbfliajgopdaaaW.PrintMore.Kd
theorem opFits_eq (x : Ox) (hx : opSmall x) : raddleref01_OpFits.f x.f0.f0 x.f0.f1 x.f1 x.f2.f0 x.f2.f1 x.f2.f2 x.f3 x.f4 x.f5 x.f6 x.f7 x.f8 = some (decide (opFit x)) := by
 unfold raddleref01_OpFits.f
 exact if_pos hx
end Go.Proofs.Ytcbfliajgopdaaa.Ops
end
section
namespace Go.Proofs.Ytcbfliajgopdaaa.Logs
open Go.RowKit Go.Proofs.Ytcbfliajgopdaaa.PAll Go.Proofs.Ytcbfliajgopdaaa.Plain Go.Proofs.Ytcbfliajgopdaaa.Ops Go.Proofs.YtcbfliajgopdaaaW.PrintWords Go.Proofs.YtcbfliajgopdaaaW.PrintLast Go.Proofs.YtcbfliajgopdaaaW.PrintMore Go.Proofs.Ytcbfliajgopdaaa.Pads Go.Proofs.Ytcbfliajgopdaaa.Sep Go.Proofs.Ytcbfliajgopdaaa.ZipT Go.Proofs.YtcbfliajgopdaaaW.PrintWords.Kd Go.Proofs.YtcbfliajgopdaaaW.PrintMore.Kd
set_option linter.unusedVariables false
set_option linter.unusedSimpArgs false
theorem recB_len {x : Ox} (h : opFit x) : (recB x).length ≤ 65536 := by
 have := (opB_len x h).2
 show (1 :: opB x).length ≤ _
 rw [List.length_cons]; omega
theorem append_op (l : List Ox) (s : Nat) (li : Int) {x : Ox} (hf : opFit x) (hl : l.length < 4000) : (padOf l s li).append (recB x) = (padOf (l ++ [x]) s li, 0) := by
 unfold padOf
 rw [append_plain _ _ _ _ (recB_len hf) (by rw [List.length_map]; exact hl), List.map_append]
 rfl
theorem sync_op (l : List Ox) (s : Nat) (li : Int) : (padOf l s li).sync = (padOf l l.length li, 0) := by
 unfold padOf
 rw [sync_plain, List.length_map]
theorem padOf_ok (l : List Ox) (s : Nat) (li : Int) (hf : ∀ x ∈ l, opFit x) (hs : s ≤ l.length) (hl : l.length ≤ 4000) : (padOf l s li).Ok :=
 ⟨by show s ≤ (l.map slotOf).length; rw [List.length_map]; exact hs, by show (l.map slotOf).length ≤ 4000; rw [List.length_map]; exact hl, (fun _ _ _ h => by cases h), (fun y hy => by
  obtain ⟨x, hx, rfl⟩ := List.mem_map.1 (show y ∈ l.map slotOf from hy)
  exact recB_len (hf x hx))⟩
theorem recB_bytes {x : Ox} (h : opFit x) : Bytes (recB x) := Bytes.cons ⟨by decide, by decide⟩ (opB_bytes h)
theorem spoil_bytes (keep : List Bool) (torn : Int) : ∀ (l : List Sl) (j : Nat), (∀ s ∈ l, Bytes s.1) → ∀ s ∈ spoil keep torn j l, Bytes s.1
 | [], _, _ => by simp [spoil]
 | a :: r, j, h => by
  intro x hx
  unfold spoil at hx
  rcases List.mem_cons.1 hx with e | e
  ·
   subst e
   split
   ·
    exact Bytes.nil
   ·
    exact h a List.mem_cons_self
  ·
   exact spoil_bytes keep torn r (j + 1) (fun y hy => h y (List.mem_cons_of_mem _ hy)) x e
theorem slots_bytes (l : List Ox) (hf : ∀ x ∈ l, opFit x) : ∀ s ∈ l.map slotOf, Bytes s.1 := by
 intro s hs
 obtain ⟨x, hx, rfl⟩ := List.mem_map.1 hs
 exact recB_bytes (hf x hx)
theorem crash_slots (l : List Ox) (s : Nat) (li : Int) (keep : List Bool) (hf : ∀ x ∈ l, opFit x) : (∀ q ∈ (((padOf l s li).crash keep (-1)).start).slots, Bytes q.1) ∧ noSnap (((padOf l s li).crash keep (-1)).start).slots := by
 rw [Pd.crash_on _ rfl]
 refine ⟨fun q hq => ?_, fun q hq => ?_⟩
 ·
  rcases List.mem_append.1 (show q ∈ (l.map slotOf).take s ++ spoil keep (-1) 0 ((l.map slotOf).drop s) from hq) with h | h
  ·
   exact slots_bytes l hf q (List.mem_of_mem_take h)
  ·
   exact spoil_bytes keep (-1) _ 0 (fun y hy => slots_bytes l hf y (List.mem_of_mem_drop hy)) q h
 ·
  rcases List.mem_append.1 (show q ∈ (l.map slotOf).take s ++ spoil keep (-1) 0 ((l.map slotOf).drop s) from hq) with h | h
  ·
   exact noSnap_ops l q (List.mem_of_mem_take h)
  ·
   exact noSnap_spoil keep (-1) _ 0 (fun y hy => noSnap_ops l y (List.mem_of_mem_drop hy)) q h
def wX : Ox := ⟨⟨0, 0⟩, [], ⟨0, 0, 0⟩, 1, 0, ⟨#[107]⟩, 0, [], []⟩
def wY : Ox := ⟨⟨0, 0⟩, [], ⟨0, 0, 0⟩, 2, 0, ⟨#[]⟩, 0, [], []⟩
theorem wX_fit : opFit wX := by decide
theorem wY_fit : opFit wY := by decide
theorem wake_ops : opsOf (((padOf [wX, wY] 1 0).crash [] (-1)).start).slots = [wX] := by
 rw [Pd.crash_on _ rfl]
 show opsOf ([wX].map slotOf ++ spoil [] (-1) 0 [slotOf wY]) = _
 rw [opsOf_app [wX] _ (fun x hx => by rw [List.mem_singleton.1 hx]; exact wX_fit)]
 unfold spoil
 rw [if_pos (show lost [] (-1) 0 from .inr rfl)]
 unfold opsOf
 rfl
section
variable {w : World} {F : List Part}
set_option maxHeartbeats 8000000 in
set_option maxRecDepth 100000 in
theorem wakes_calls (hS : Sp w F) : Calls Try.prog 12 #[] w fun e w' => e = .returned (.bool true) ∧ Sp w' F := by
 have HS0 := mk_ hS
 have hfx : ∀ x ∈ [wX, wY], opFit x := by intro x hx; rcases List.mem_cons.1 hx with rfl | hx; exact wX_fit; rw [List.mem_singleton.1 hx]; exact wY_fit
 have HFX := mk_ hfx
 clear hS hfx
 go_enter Try.func12, Try.ntmps12
 go_wp2_with (first
  | (go_at_call 45; go_loud (refine (new_calls HS0.out).mono ?_; rintro e w1 ⟨g, rfl, h1⟩; have H1 := mk_ h1; clear h1 HS0))
  | (go_at_call 19; (with_reducible show Calls _ _ _ w1 _); go_loud (have q_ := open_calls H1.out Pd.new_ok rfl rfl (fun s hs => by cases hs) (fun s hs => by cases hs); unfold snap0 at q_; refine q_.mono ?_; clear q_; rintro e w2 ⟨gl, v, rfl, h2⟩; obtain ⟨Av, cv, rfl, _, _⟩ := h2.s1.row; have HS := mk_ (show Sp w2 (LogP gl g :: PadP g (padOf [] 0 0) :: F) from Sp.tail h2.s1); clear h2 H1))
  | ((with_reducible refine gate_dst (N := 3) rfl ?_); go_loud (refine box_event ?hg (N := 3) ?hd (cs := #[.slice none 0 0, .int .i64 0, .int .i64 0, .int .i64 0, .slice none 0 0, .slice none 0 0, .slice none 0 0]) (t := 31) ?hr ?_; (case hd => rfl); (case hg => rfl); (case hr => first | (go_simp; done) | (go_simp; rfl)); intro g3 hg W3 hbox hb; have h_ := HS.out.boxed hg hbox hb; clear hbox hb hg; clear HS; have HS := mk_ h_; clear h_; have k3 := blk_cell HS.out.blk; have kf3 := blk_frozen HS.out.blk))
  | ((with_reducible refine gate_store (t := 31) (p := 3) rfl ?_); go_loud (refine store_event (t := 31) (p := 3) (v := ?vo3) (w1 := put7 W3 g3 (.slice none 0 0) (.int .i64 0) (.int .i64 0) (.int .i64 0) (.slice none 0 0) (.slice none 0 0) (.slice none 0 0)) ?hg ?ho ?hn ?hr ?_; (case ho => rfl); (case hg => rfl); (case hn => rfl); (case hr => first | (go_simp; done) | (go_simp; rfl)); intro W4 hw; have h_ := (HS.out).put7 (.slice none 0 0) (.int .i64 0) (.int .i64 0) (.int .i64 0) (.slice none 0 0) (.slice none 0 0) (.slice none 0 0); rw [← hw] at h_; clear hw HS; have HS := mk_ h_; clear h_; clear k3 kf3; have h_ := HS.out.tail; clear HS; have HS := mk_ h_; clear h_))
  | ((with_reducible refine gate_dst (N := 6) rfl ?_); go_loud (refine box_event ?hg (N := 6) ?hd (cs := #[.int .i64 0, .int .i64 0, .slice none 0 0, .int .i64 0, .int .i64 0, .int .i64 0, .int .i64 0, .int .i64 0, .string ⟨#[]⟩, .int .i64 0, .slice none 0 0, .slice none 0 0]) (t := 54) ?hr ?_; (case hd => rfl); (case hg => rfl); (case hr => first | (go_simp; done) | (go_simp; rfl)); intro g6 hg W5 hbox hb; have h_ := HS.out.boxed hg hbox hb; clear hbox hb hg; clear HS; have HS := mk_ h_; clear h_; have k6 := blk_cell HS.out.blk; have kf6 := blk_frozen HS.out.blk))
  | ((with_reducible refine gate_store (t := 54) (p := 6) rfl ?_); go_loud (refine store_event (t := 54) (p := 6) (v := ?vo6) (w1 := put12 W5 g6 (.int .i64 0) (.int .i64 0) (.slice none 0 0) (.int .i64 0) (.int .i64 0) (.int .i64 0) (.int .i64 1) (.int .i64 0) (.string ⟨#[107]⟩) (.int .i64 0) (.slice none 0 0) (.slice none 0 0)) ?hg ?ho ?hn ?hr ?_; (case ho => rfl); (case hg => rfl); (case hn => rfl); (case hr => first | (go_simp; done) | (go_simp; rfl)); intro W6 hw; have h_ := (HS.out).put12 (.int .i64 0) (.int .i64 0) (.slice none 0 0) (.int .i64 0) (.int .i64 0) (.int .i64 0) (.int .i64 1) (.int .i64 0) (.string ⟨#[107]⟩) (.int .i64 0) (.slice none 0 0) (.slice none 0 0); rw [← hw] at h_; clear hw HS; have HS := mk_ h_; clear h_; clear k6 kf6; have k6 := blk_cell HS.out.blk; have h_ := HS.out.s2.s2; clear HS; have HS := mk_ h_; clear h_))
  | (go_at_call 18; (with_reducible show Calls _ _ _ W6 _); go_loud (refine (lappend_calls HS.out (padOf_ok [] 0 0 (fun x hx => by cases hx) (Nat.le_refl _) (Nat.zero_le _)) wX none none none 0 0 0 (Pads.C_nil _ _) (Nat.le_refl _) (Pads.C_nil _ _) (Nat.le_refl _) (Pads.C_nil _ _) (Nat.le_refl _) z5_ wX_fit (by have := (opB_len wX wX_fit).2; omega) (append_op [] 0 0 wX_fit z5_)).mono ?_; rintro e W7 ⟨rfl, h1⟩; have n_ := (show Sp W7 (LogP gl g :: PadP g (padOf [wX] 0 0) :: _) from h1); clear HS h1; have HS := mk_ n_; clear n_))
  | (go_at_call 22; go_loud (refine (lsync_calls HS.out (padOf_ok [wX] 0 0 (fun x hx => HFX.out x (by simp only [List.mem_singleton] at hx; rw [hx]; exact List.mem_cons_self)) z5_ z5_) (sync_op [wX] 0 0)).mono ?_; rintro e W8 ⟨rfl, h1⟩; have n_ := (show Sp W8 (LogP gl g :: PadP g (padOf [wX] 1 0) :: _) from h1); clear HS h1; have HS := mk_ n_; clear n_))
  | (go_at_call 18; (with_reducible show Calls _ _ _ W8 _); go_loud (refine (lappend_calls HS.out (padOf_ok [wX] 1 0 (fun x hx => HFX.out x (by simp only [List.mem_singleton] at hx; rw [hx]; exact List.mem_cons_self)) z5_ z5_) wY none none none 0 0 0 (Pads.C_nil _ _) (Nat.le_refl _) (Pads.C_nil _ _) (Nat.le_refl _) (Pads.C_nil _ _) (Nat.le_refl _) z5_ wY_fit (by have := (opB_len wY wY_fit).2; omega) (append_op [wX] 1 0 wY_fit z5_)).mono ?_; rintro e W9 ⟨rfl, h1⟩; have n_ := (show Sp W9 (LogP gl g :: PadP g (padOf [wX, wY] 1 0) :: _) from h1); clear HS h1; have HS := mk_ n_.s1; clear n_))
  | (go_at_call 23; go_loud (refine (crash_to HS.out (padOf_ok [wX, wY] 1 0 HFX.out z5_ z5_) none 0 [] (-1) (fun _ _ _ => Pads.C_nil _ _) rfl).mono ?_; rintro e W10 ⟨⟨v10, rfl⟩, h1⟩; clear HS; have HS := mk_ h1; clear h1))
  | (go_at_call 24; go_loud (refine (start_calls HS.out).mono ?_; rintro e W11 ⟨⟨v11, rfl⟩, h1⟩; clear HS; have HS := mk_ h1; clear h1))
  | (go_at_call 19; (with_reducible show Calls _ _ _ W11 _); go_loud (have q_ := open_calls HS.out (Pd.start_ok (Pd.crash_ok (padOf_ok [wX, wY] 1 0 HFX.out z5_ z5_) [] (-1))) rfl rfl (crash_slots [wX, wY] 1 0 [] HFX.out).1 (crash_slots [wX, wY] 1 0 [] HFX.out).2; rw [wake_ops] at q_; unfold snap0 at q_; refine q_.mono ?_; clear q_; rintro e W12 ⟨gl2, v, rfl, h2⟩; obtain ⟨gv, cv2, rfl⟩ := (h2.s1.has).elim fun ok h => row_form h z5_; have n_ := h2.s1; clear HS h2; have HS := mk_ n_; clear n_))
  | ((with_reducible refine gate_dst (N := 8) rfl ?_); go_loud (refine box_event ?hg (N := 8) ?hd (cs := #[.slice none 0 0, .int .i64 0, .int .i64 0, .int .i64 0, .slice none 0 0, .slice none 0 0, .slice none 0 0]) (t := 31) ?hr ?_; (case hd => rfl); (case hg => rfl); (case hr => first | (go_simp; done) | (go_simp; rfl)); intro g8 hg W13 hbox hb; have h_ := HS.out.boxed hg hbox hb; clear hbox hb hg; clear HS; have HS := mk_ h_; clear h_; have k8 := blk_cell HS.out.blk; have kf8 := blk_frozen HS.out.blk))
  | ((with_reducible refine gate_store (t := 31) (p := 8) rfl ?_); go_loud (refine store_event (t := 31) (p := 8) (v := ?vo8) (w1 := put7 W13 g8 (.slice none 0 0) (.int .i64 0) (.int .i64 0) (.int .i64 0) (.slice none 0 0) (.slice none 0 0) (.slice none 0 0)) ?hg ?ho ?hn ?hr ?_; (case ho => rfl); (case hg => rfl); (case hn => rfl); (case hr => first | (go_simp; done) | (go_simp; rfl)); intro W14 hw; have h_ := (HS.out).put7 (.slice none 0 0) (.int .i64 0) (.int .i64 0) (.int .i64 0) (.slice none 0 0) (.slice none 0 0) (.slice none 0 0); rw [← hw] at h_; clear hw HS; have HS := mk_ h_; clear h_; clear k8 kf8; have h_ := HS.out.tail; clear HS; have HS := mk_ h_; clear h_ k6; have k6 := blk_cell HS.out.s4.blk)))
 have hSd := HS.out.drew
 have k6d := blk_cell hSd.s4.blk
 obtain ⟨ce, hcl, hcc, hcf, hK⟩ := Sp.elem hSd wX 0 z5_
 replace hK : k54.K _ wX ce := hK
 obtain ⟨A2, c2, A10, c10, A11, c11, rfl, l2, C2, l10, C10, l11, C11⟩ := k54_open hK
 replace l2 : 0 ≤ c2 := l2
 replace l10 : 0 ≤ c10 := l10
 replace l11 : 0 ≤ c11 := l11
 have e0 : W14.drew.cell? ⟨gv, 0, none⟩ = some (.int .i64 0) := hcc 0 _ rfl
 have e1 : W14.drew.cell? ⟨gv, 1, none⟩ = some (.int .i64 0) := hcc 1 _ rfl
 have e2 : W14.drew.cell? ⟨gv, 2, none⟩ = some (.slice A2 0 c2) := hcc 2 _ rfl
 have e3 : W14.drew.cell? ⟨gv, 3, none⟩ = some (.int .i64 0) := hcc 3 _ rfl
 have e4 : W14.drew.cell? ⟨gv, 4, none⟩ = some (.int .i64 0) := hcc 4 _ rfl
 have e5 : W14.drew.cell? ⟨gv, 5, none⟩ = some (.int .i64 0) := hcc 5 _ rfl
 have e6 : W14.drew.cell? ⟨gv, 6, none⟩ = some (.int .i64 1) := hcc 6 _ rfl
 have e7 : W14.drew.cell? ⟨gv, 7, none⟩ = some (.int .i64 0) := hcc 7 _ rfl
 have e8 : W14.drew.cell? ⟨gv, 8, none⟩ = some (.string ⟨#[107]⟩) := hcc 8 _ rfl
 have e9 : W14.drew.cell? ⟨gv, 9, none⟩ = some (.int .i64 0) := hcc 9 _ rfl
 have e10 : W14.drew.cell? ⟨gv, 10, none⟩ = some (.slice A10 0 c10) := hcc 10 _ rfl
 have e11 : W14.drew.cell? ⟨gv, 11, none⟩ = some (.slice A11 0 c11) := hcc 11 _ rfl
 have hkeep : PAll.raddlekeep_Op.f 10 0 0 [] 0 0 0 1 0 ⟨#[107]⟩ 0 [] [] 0 0 [] 0 0 0 1 0 ⟨#[107]⟩ 0 [] [] = some true := (keepOp_eq 10 wX wX z5_ z5_ z5_ z5_).trans (by rw [decide_eq_true rfl])
 refine start_ (n := 15) (S := fun w' => w'.cell? ⟨gv, 0, none⟩ = some (.int .i64 0) ∧ w'.cell? ⟨gv, 1, none⟩ = some (.int .i64 0) ∧ w'.cell? ⟨gv, 2, none⟩ = some (.slice A2 0 c2) ∧ w'.cell? ⟨gv, 3, none⟩ = some (.int .i64 0) ∧ w'.cell? ⟨gv, 4, none⟩ = some (.int .i64 0) ∧ w'.cell? ⟨gv, 5, none⟩ = some (.int .i64 0) ∧ w'.cell? ⟨gv, 6, none⟩ = some (.int .i64 1) ∧ w'.cell? ⟨gv, 7, none⟩ = some (.int .i64 0) ∧ w'.cell? ⟨gv, 8, none⟩ = some (.string ⟨#[107]⟩) ∧ w'.cell? ⟨gv, 9, none⟩ = some (.int .i64 0) ∧ w'.cell? ⟨gv, 10, none⟩ = some (.slice A10 0 c10) ∧ w'.cell? ⟨gv, 11, none⟩ = some (.slice A11 0 c11) ∧ w'.cell? ⟨g6, 0, none⟩ = some (.int .i64 0) ∧ w'.cell? ⟨g6, 1, none⟩ = some (.int .i64 0) ∧ w'.cell? ⟨g6, 2, none⟩ = some (.slice none 0 0) ∧ w'.cell? ⟨g6, 3, none⟩ = some (.int .i64 0) ∧ w'.cell? ⟨g6, 4, none⟩ = some (.int .i64 0) ∧ w'.cell? ⟨g6, 5, none⟩ = some (.int .i64 0) ∧ w'.cell? ⟨g6, 6, none⟩ = some (.int .i64 1) ∧ w'.cell? ⟨g6, 7, none⟩ = some (.int .i64 0) ∧ w'.cell? ⟨g6, 8, none⟩ = some (.string ⟨#[107]⟩) ∧ w'.cell? ⟨g6, 9, none⟩ = some (.int .i64 0) ∧ w'.cell? ⟨g6, 10, none⟩ = some (.slice none 0 0) ∧ w'.cell? ⟨g6, 11, none⟩ = some (.slice none 0 0) ∧ True) (ds := [12]) (Steps.Bs 15 0) z1_ rfl rfl ⟨e0, e1, e2, e3, e4, e5, e6, e7, e8, e9, e10, e11, (k6d 0).trans rfl, (k6d 1).trans rfl, (k6d 2).trans rfl, (k6d 3).trans rfl, (k6d 4).trans rfl, (k6d 5).trans rfl, (k6d 6).trans rfl, (k6d 7).trans rfl, (k6d 8).trans rfl, (k6d 9).trans rfl, (k6d 10).trans rfl, (k6d 11).trans rfl, trivial⟩ (fun hHeld => ?_)
 clear k6 k6d e0 e1 e2 e3 e4 e5 e6 e7 e8 e9 e10 e11 hcc hcf hcl hK HS
 generalize World.drew _ = W at hSd C2 C10 C11 hHeld ⊢
 refine Steps.pI_ 0 (some 55) (Steps.Bs 15 1) z1_ (h := ?_)
 refine Steps.pI_ 1 (some 56) (Steps.Bs 15 3) z1_ (h := ?_)
 refine Steps.pI_ 2 (some 57) (Steps.Bs 15 7) z1_ (h := ?_)
 refine Steps.pI_ 3 (some 58) (Steps.Bs 15 15) z1_ (h := ?_)
 refine Steps.pI_ 4 (some 59) (Steps.Bs 15 31) z1_ (h := ?_)
 refine Steps.pI_ 5 (some 60) (Steps.Bs 15 63) z1_ (h := ?_)
 refine Steps.pI_ 6 (some 61) (Steps.Bs 15 127) z1_ (h := ?_)
 refine Steps.pI_ 7 (some 62) (Steps.Bs 15 255) z1_ (h := ?_)
 refine Steps.pI_ 8 (some 63) (Steps.Bs 15 511) z1_ (h := ?_)
 refine Steps.pI_ 9 (some 64) (Steps.Bs 15 1023) z1_ (h := ?_)
 refine Steps.tI_ 10 (some 65) (Steps.Bs 15 2047) z1_ hHeld (h := ?_)
 refine Steps.tI_ 11 (some 66) (Steps.Bs 15 4095) z1_ hHeld (h := ?_)
 refine last_ (i := 12) (N := some 67) (Steps.Bs 15 8191) rfl rfl z1_ z5_ (fun K hK => ?_)
 refine goes_ Try.func46 z1_ rfl #[.agg #[.int .i64 0, .int .i64 0, .slice A2 0 c2, .int .i64 0, .int .i64 0, .int .i64 0, .int .i64 1, .int .i64 0, .string ⟨#[107]⟩, .int .i64 0, .slice A10 0 c10, .slice A11 0 c11], .agg #[.int .i64 0, .int .i64 0, .slice none 0 0, .int .i64 0, .int .i64 0, .int .i64 0, .int .i64 1, .int .i64 0, .string ⟨#[107]⟩, .int .i64 0, .slice none 0 0, .slice none 0 0]] (by rfl) rfl rfl (by (try simp only [List.map_toArray, List.map_cons, List.map_nil]); first | done | rfl) ?_
 refine (PAll.raddlekeep_Op.calls 10 0 0 A2 c2 [] 0 0 0 1 0 ⟨#[107]⟩ 0 A10 c10 [] A11 c11 [] 0 0 none 0 [] 0 0 0 1 0 ⟨#[107]⟩ 0 none 0 [] none 0 [] true W C2 l2 C10 l10 C11 l11 (Pads.C_nil _ _) (Nat.le_refl _) (Pads.C_nil _ _) (Nat.le_refl _) (Pads.C_nil _ _) (Nat.le_refl _) hkeep).mono ?_
 rintro e W15 ⟨rfl, hb⟩
 have HE := mk_ (hSd.tail.tail.tail.tail.tail.below hb)
 refine ⟨_, rfl, ?_⟩
 refine hK.out _ _ ?_
 clear hK K
 refine norm_ (a' := ?_) ?_ ?_
 rotate_left
 ·
  show Act.put _ (some 67) _ = _
  simp only [Act.put, List.setIfInBounds_toArray, List.set_cons_zero, List.set_cons_succ, i64_w, i32_w]
  rfl
 refine Steps.pI_ 13 (some 68) (Steps.Bs 15 16383) z1_ (h := ?_)
 refine Steps.pI_ 14 (some 0) (Steps.Bs 15 32767) z1_ (h := ?_)
 refine done_ z1_ ?_
 go_wp2
 go_ret
 exact ⟨rfl, HE.out⟩
end
end Go.Proofs.Ytcbfliajgopdaaa.Logs
end
section
namespace Go.Proofs.Ytcbfliajgopdaaa.Logs
open Go.RowKit Go.Proofs.Ytcbfliajgopdaaa.PAll Go.Proofs.Ytcbfliajgopdaaa.Plain Go.Proofs.Ytcbfliajgopdaaa.Ops Go.Proofs.YtcbfliajgopdaaaW.PrintWords Go.Proofs.YtcbfliajgopdaaaW.PrintLast Go.Proofs.YtcbfliajgopdaaaW.PrintMore Go.Proofs.Ytcbfliajgopdaaa.Pads Go.Proofs.Ytcbfliajgopdaaa.Sep Go.Proofs.Ytcbfliajgopdaaa.ZipT Go.Proofs.YtcbfliajgopdaaaW.PrintWords.Kd Go.Proofs.YtcbfliajgopdaaaW.PrintMore.Kd
set_option linter.unusedVariables false
set_option linter.unusedSimpArgs false
def hvOp (x : Ox) : Bool := decide ((x.f1.length : Int) > 30) || decide ((x.f5.size : Int) > 100) || heavy x.f7 || decide ((x.f8.length : Int) > 100)
theorem rdO_drop {l : List Ox} {i : Nat} {x : Ox} {m : List Ox} (h : l.drop i = x :: m) : rd_T54 l (i : Int) = x := by
 show l.getD ((i : Int)).toNat _ = x
 rw [Int.toNat_natCast, List.getD_eq_getElem?_getD, show l[i]? = some x from by rw [← List.head?_drop, h]; rfl]
 rfl
theorem heavyL_l0 (l : List Ox) (hl : l.length ≤ 300) (m : List Ox) : ∀ (k i : Nat), l.drop i = m → m.length + 80 ≤ k → raddlelaw07_Heavy.l0 k l (i : Int) = some (m.any hvOp) := by
 induction m with
 | nil =>
  intro k i h hk
  obtain ⟨k, rfl⟩ : ∃ j, k = j + 1 := ⟨k - 1, by omega⟩
  have h1 := dropL_end h
  simp only [raddlelaw07_Heavy.l0]
  rw [if_neg z2_]; rfl
 | cons x m ih =>
  intro k i h hk
  obtain ⟨k, rfl⟩ : ∃ j, k = j + 1 := ⟨k - 1, by omega⟩
  have h1 := dropL_lt h
  rw [List.length_cons] at hk
  simp only [raddlelaw07_Heavy.l0]
  rw [if_pos z2_, if_pos z2_, rdO_drop h, List.any_cons]
  unfold hvOp
  by_cases a1 : (x.f1.length : Int) > 30
  ·
   rw [if_pos a1, decide_eq_true a1]; rfl
  rw [if_neg a1, decide_eq_false a1]
  by_cases a2 : (x.f5.size : Int) > 100
  ·
   rw [if_pos a2, decide_eq_true a2]; rfl
  rw [if_neg a2, decide_eq_false a2, heavy_eq k x.f7 z2_, Option.bind_some]
  by_cases a3 : heavy x.f7 = true
  ·
   rw [if_pos a3, a3]; rfl
  rw [if_neg a3, Bool.eq_false_iff.mpr a3]
  by_cases a4 : (x.f8.length : Int) > 100
  ·
   rw [if_pos a4, decide_eq_true a4]; rfl
  rw [if_neg a4, decide_eq_false a4, w64 z2_ z2_]
  exact ih k (i + 1) (dropL_tail h) z2_
def hvL (l : List Ox) : Bool := decide ((l.length : Int) > 300) || l.any hvOp
theorem heavyL_eq (l : List Ox) : raddlelaw07_Heavy.f 400 l = some (hvL l) := by
 unfold raddlelaw07_Heavy.f hvL
 by_cases h : (l.length : Int) > 300
 ·
  rw [if_pos h, decide_eq_true h]; rfl
 ·
  rw [if_neg h, decide_eq_false h, Bool.false_or]
  exact heavyL_l0 l z2_ l 400 0 rfl z2_
theorem light_op {l : List Ox} (h : hvL l = false) {x : Ox} (hx : x ∈ l) : x.f1.length ≤ 30 ∧ x.f7.length ≤ 40 ∧ x.f8.length ≤ 100 := by
 unfold hvL at h
 rw [Bool.or_eq_false_iff, List.any_eq_false] at h
 have h1 := h.2 x hx
 unfold hvOp at h1
 simp only [Bool.or_eq_true, decide_eq_true_eq, not_or] at h1
 have h2 := heavy_len h1.1.2
 omega
theorem ops_l0 (l : List Ox) (hl : l.length ≤ 100) (hs : ∀ x ∈ l, x.f1.length ≤ 30 ∧ x.f7.length ≤ 40 ∧ x.f8.length ≤ 100) (m : List Ox) : ∀ (k i : Nat), l.drop i = m → m.length + 150 ≤ k → raddlekeep_Ops.l0 k l l (i : Int) = some true := by
 induction m with
 | nil =>
  intro k i h hk
  obtain ⟨k, rfl⟩ : ∃ j, k = j + 1 := ⟨k - 1, by omega⟩
  have h1 := dropL_end h
  simp only [raddlekeep_Ops.l0]
  rw [if_neg z2_]
 | cons x m ih =>
  intro k i h hk
  obtain ⟨k, rfl⟩ : ∃ j, k = j + 1 := ⟨k - 1, by omega⟩
  have h1 := dropL_lt h
  have h2 := hs x (List.mem_of_mem_drop (by rw [h]; exact List.mem_cons_self))
  rw [List.length_cons] at hk
  simp only [raddlekeep_Ops.l0]
  rw [if_pos z2_, if_pos z2_, if_pos z2_, rdO_drop h, keepOp_eq k x x z2_ z2_ z2_ z2_, decide_eq_true rfl, Option.bind_some, if_pos rfl, w64 z2_ z2_]
  exact ih k (i + 1) (dropL_tail h) z2_
theorem ops_same (l : List Ox) (hl : l.length ≤ 100) (hs : ∀ x ∈ l, x.f1.length ≤ 30 ∧ x.f7.length ≤ 40 ∧ x.f8.length ≤ 100) : raddlekeep_Ops.f 300 l l = some true := by
 unfold raddlekeep_Ops.f
 rw [if_pos rfl]
 exact ops_l0 l hl hs l 300 0 rfl z2_
def Encs (w0 : World) (rows : List (List Value)) (xs : List Ox) : Prop := rows.length = xs.length ∧ ∀ (j : Nat) (c : List Value) (x : Ox), rows[j]? = some c → xs[j]? = some x → k54.K w0 x c
theorem Encs.nil (w0 : World) : Encs w0 [] [] := ⟨rfl, fun j c x h => by simp at h⟩
theorem Encs.snoc {w0 : World} {rows : List (List Value)} {xs : List Ox} (h : Encs w0 rows xs) {c : List Value} {x : Ox} (hc : k54.K w0 x c) : Encs w0 (rows ++ [c]) (xs ++ [x]) := by
 refine ⟨by rw [List.length_append, List.length_append, h.1]; rfl, fun j c' x' h1 h2 => ?_⟩
 by_cases hj : j < rows.length
 ·
  rw [List.getElem?_append_left hj] at h1
  rw [List.getElem?_append_left (by rw [← h.1]; exact hj)] at h2
  exact h.2 j c' x' h1 h2
 ·
  rw [List.getElem?_append_right z2_] at h1
  rw [List.getElem?_append_right (by rw [← h.1]; omega), ← h.1] at h2
  rcases hd : j - rows.length with _ | n
  ·
   rw [hd] at h1 h2
   simp only [List.getElem?_cons_zero, Option.some.injEq] at h1 h2
   subst h1; subst h2
   exact hc
  ·
   rw [hd] at h1; simp at h1
theorem Encs.C {w0 W : World} {A : Option Addr} {n : Nat} {rows : List (List Value)} {xs : List Ox} (h : Encs w0 rows xs) (hb : Below w0.heap.size w0 W) (hC : (Kd.raw 12).C W A n rows) : Kd.C k54 W A n xs := by
 refine ⟨by rw [← h.1]; exact hC.1, hC.2.1, fun hn => ?_⟩
 obtain ⟨ad, e, hc⟩ := hC.2.2 hn
 refine ⟨ad, e, fun j x hx => ?_⟩
 have hj : j < rows.length := by rw [h.1]; exact (List.getElem?_eq_some_iff.1 hx).1
 obtain ⟨c, h1, h2, h3⟩ := hc j _ (List.getElem?_eq_getElem hj)
 obtain ⟨rfl, h4, _⟩ := h2
 exact ⟨_, h1, k54.K_below hb (h.2 j _ x (List.getElem?_eq_getElem hj) hx), h3⟩
end Go.Proofs.Ytcbfliajgopdaaa.Logs
end
section
namespace Go.Proofs.Ytcbfliajgopdaaa.Logs
open Go.RowKit Go.Proofs.Ytcbfliajgopdaaa.PAll Go.Proofs.Ytcbfliajgopdaaa.Plain Go.Proofs.Ytcbfliajgopdaaa.Ops Go.Proofs.YtcbfliajgopdaaaW.PrintWords Go.Proofs.YtcbfliajgopdaaaW.PrintLast Go.Proofs.YtcbfliajgopdaaaW.PrintMore Go.Proofs.Ytcbfliajgopdaaa.Pads Go.Proofs.Ytcbfliajgopdaaa.Sep Go.Proofs.Ytcbfliajgopdaaa.ZipT Go.Proofs.YtcbfliajgopdaaaW.PrintWords.Kd Go.Proofs.YtcbfliajgopdaaaW.PrintMore.Kd
set_option linter.unusedVariables false
set_option linter.unusedSimpArgs false
def fitB (x : Ox) : Bool := decide (opFit x)
theorem cell_on {w W : World} (hb : Below w.heap.size w W) {a : Addr} {v : Value} (h : w.cell? a = some v) : W.cell? a = some v := (hb.cell (World.block_lt_of_cell? _ _ h)).trans h
end Go.Proofs.Ytcbfliajgopdaaa.Logs
end
section
namespace Go.Proofs.Ytcbfliajgopdaaa.Logs
open Go.RowKit Go.Proofs.Ytcbfliajgopdaaa.PAll Go.Proofs.Ytcbfliajgopdaaa.Plain Go.Proofs.Ytcbfliajgopdaaa.Ops Go.Proofs.YtcbfliajgopdaaaW.PrintWords Go.Proofs.YtcbfliajgopdaaaW.PrintLast Go.Proofs.YtcbfliajgopdaaaW.PrintMore Go.Proofs.Ytcbfliajgopdaaa.Pads Go.Proofs.Ytcbfliajgopdaaa.Sep Go.Proofs.Ytcbfliajgopdaaa.ZipT Go.Proofs.YtcbfliajgopdaaaW.PrintWords.Kd Go.Proofs.YtcbfliajgopdaaaW.PrintMore.Kd
set_option linter.unusedVariables false
set_option linter.unusedSimpArgs false
def junkS (junk : List Int) (p : Int) (L : List Ox) : List Sl := if 0 ≤ p ∧ p < (L.length : Int) then (L.take p.toNat).map slotOf ++ (junk, false) :: (L.drop p.toNat).map slotOf else L.map slotOf
def wantL (p : Int) (L : List Ox) : List Ox := if p < 0 then L else L.take p.toNat
def padJ (junk : List Int) (p : Int) (L : List Ox) : Pd := ⟨junkS junk p L, 0, false, 0, none⟩
theorem want_nil (p : Int) : wantL p [] = [] := by unfold wantL; split <;> simp
theorem padJ_nil (junk : List Int) (p : Int) : padJ junk p [] = Pd.new := by
 unfold padJ junkS
 rw [if_neg (by rintro ⟨h1, h2⟩; rw [List.length_nil] at h2; omega)]
 rfl
theorem junk_ops {junk : List Int} (hj : recOf junk = none) (p : Int) (L : List Ox) (hf : ∀ x ∈ L, opFit x) : opsOf (junkS junk p L) = wantL p L := by
 unfold junkS wantL
 by_cases h : 0 ≤ p ∧ p < (L.length : Int)
 ·
  rw [if_pos h, if_neg z2_, opsOf_app _ _ (fun x hx => hf x (List.mem_of_mem_take hx))]
  show _ ++ (if (junk, false).2 = true then [] else match recOf junk with | none => [] | some x => x :: opsOf _) = _
  rw [hj]
  simp
 ·
  rw [if_neg h]
  have e := opsOf_app L [] hf
  rw [List.append_nil] at e
  rw [e]
  show L ++ [] = _
  rw [List.append_nil]
  by_cases h0 : p < 0
  ·
   rw [if_pos h0]
  ·
   rw [if_neg h0, List.take_of_length_le z2_]
theorem junk_open {junk : List Int} (hj : recOf junk = none) (p : Int) (L : List Ox) (hf : ∀ x ∈ L, opFit x) : opened (padJ junk p L) = padOf (wantL p L) (wantL p L).length 0 := by
 unfold opened padOf padJ
 simp only
 rw [junk_ops hj p L hf]
 congr 1
 unfold junkS wantL
 by_cases h : 0 ≤ p ∧ p < (L.length : Int)
 ·
  rw [if_pos h, if_neg z2_]
  rw [List.take_append_of_le_length (by rw [List.length_map]; exact Nat.le_refl _), List.take_of_length_le (by rw [List.length_map]; exact Nat.le_refl _)]
 ·
  rw [if_neg h, List.take_of_length_le]
  ·
   by_cases h0 : p < 0
   ·
    rw [if_pos h0]
   ·
    rw [if_neg h0, List.take_of_length_le z2_]
  ·
   rw [List.length_map]
   by_cases h0 : p < 0
   ·
    rw [if_pos h0]; exact Nat.le_refl _
   ·
    rw [if_neg h0, List.take_of_length_le z2_]; exact Nat.le_refl _
theorem want_open (l : List Ox) (hf : ∀ x ∈ l, opFit x) : opsOf (padOf l l.length 0).slots = l ∧ opened (padOf l l.length 0) = padOf l l.length 0 := by
 have e := opsOf_app l [] hf
 rw [List.append_nil] at e
 have e2 : opsOf (padOf l l.length 0).slots = l := by
  show opsOf (l.map slotOf) = l
  rw [e]; show l ++ [] = l; rw [List.append_nil]
 refine ⟨e2, ?_⟩
 unfold opened
 rw [e2]
 show (⟨(l.map slotOf).take l.length, l.length, false, 0, none⟩ : Pd) = _
 rw [List.take_of_length_le (by rw [List.length_map]; exact Nat.le_refl _)]
 rfl
theorem junkS_len (junk : List Int) (p : Int) (L : List Ox) : (junkS junk p L).length ≤ L.length + 1 := by
 unfold junkS
 split
 ·
  rw [List.length_append, List.length_map, List.length_cons, List.length_map, List.length_take, List.length_drop]; omega
 ·
  rw [List.length_map]; omega
theorem append_at {junk : List Int} (hjl : junk.length ≤ 65536) {p : Int} {L : List Ox} (hp : p = (L.length : Int)) (hL : L.length ≤ 30) :
  (padJ junk p L).append junk = (⟨L.map slotOf ++ [(junk, false)], 0, false, 0, none⟩, 0) := by
 unfold padJ junkS
 rw [if_neg z2_]
 exact append_plain _ _ _ _ hjl (by rw [List.length_map]; omega)
theorem append_at2 {junk : List Int} {p : Int} {L : List Ox} (hp : p = (L.length : Int)) (hL : L.length ≤ 30) {x : Ox} (hf : opFit x) :
  (⟨L.map slotOf ++ [(junk, false)], 0, false, 0, none⟩ : Pd).append (recB x) = (padJ junk p (L ++ [x]), 0) := by
 rw [append_plain _ _ _ _ (recB_len hf) (by rw [List.length_append, List.length_map, List.length_singleton]; omega)]
 unfold padJ junkS
 rw [if_pos (by rw [List.length_append, List.length_singleton]; omega), hp, Int.toNat_natCast, List.take_left, List.drop_left, List.append_assoc]
 rfl
theorem append_else {junk : List Int} {p : Int} {L : List Ox} (hp : p ≠ (L.length : Int)) (hL : L.length ≤ 30) {x : Ox} (hf : opFit x) :
  (padJ junk p L).append (recB x) = (padJ junk p (L ++ [x]), 0) := by
 unfold padJ
 rw [append_plain _ _ _ _ (recB_len hf) (by have := junkS_len junk p L; omega)]
 congr 2
 unfold junkS
 by_cases h : 0 ≤ p ∧ p < (L.length : Int)
 ·
  rw [if_pos h, if_pos (by rw [List.length_append, List.length_singleton]; omega), List.take_append_of_le_length z2_, List.drop_append_of_le_length z2_, List.map_append, List.append_assoc, List.cons_append]
  rfl
 ·
  rw [if_neg h, if_neg (by rw [List.length_append, List.length_singleton]; omega), List.map_append]
  rfl
theorem want_snoc (p : Int) (L : List Ox) (x : Ox) : wantL p (L ++ [x]) = wantL p L ++ (if p < 0 ∨ (L.length : Int) + 1 ≤ p then [x] else []) := by
 unfold wantL
 by_cases h0 : p < 0
 ·
  rw [if_pos h0, if_pos h0, if_pos (.inl h0)]
 ·
  rw [if_neg h0, if_neg h0]
  by_cases h1 : (L.length : Int) + 1 ≤ p
  ·
   rw [if_pos (.inr h1), List.take_of_length_le (by rw [List.length_append, List.length_singleton]; omega), List.take_of_length_le z2_]
  ·
   rw [if_neg z2_, List.take_append_of_le_length z2_, List.append_nil]
theorem junk_slots {junk : List Int} (hb : Bytes junk) (h2 : junk.head? ≠ some 2) (p : Int) (L : List Ox) (hf : ∀ x ∈ L, opFit x) : (∀ s ∈ junkS junk p L, Bytes s.1) ∧ noSnap (junkS junk p L) := by
 have hc : ∀ s ∈ junkS junk p L, (∃ x ∈ L, s = slotOf x) ∨ s = (junk, false) := by
  intro s hs
  unfold junkS at hs
  split at hs
  ·
   rcases List.mem_append.1 hs with h | h
   ·
    obtain ⟨x, hx, rfl⟩ := List.mem_map.1 h
    exact .inl ⟨x, List.mem_of_mem_take hx, rfl⟩
   ·
    rcases List.mem_cons.1 h with h | h
    ·
     exact .inr h
    ·
     obtain ⟨x, hx, rfl⟩ := List.mem_map.1 h
     exact .inl ⟨x, List.mem_of_mem_drop hx, rfl⟩
  ·
   obtain ⟨x, hx, rfl⟩ := List.mem_map.1 hs
   exact .inl ⟨x, hx, rfl⟩
 refine ⟨fun s hs => ?_, fun s hs => ?_⟩
 ·
  rcases hc s hs with ⟨x, hx, rfl⟩ | rfl
  ·
   exact recB_bytes (hf x hx)
  ·
   exact hb
 ·
  rcases hc s hs with ⟨x, hx, rfl⟩ | rfl
  ·
   simp [slotOf, recB]
  ·
   exact h2
theorem padJ_ok {junk : List Int} (hjl : junk.length ≤ 65536) (p : Int) (L : List Ox) (hL : L.length ≤ 30) (hf : ∀ x ∈ L, opFit x) : (padJ junk p L).Ok := by
 refine ⟨Nat.zero_le _, by have := junkS_len junk p L; show (junkS junk p L).length ≤ 4000; omega, (fun _ _ _ h => by cases h), fun s hs => ?_⟩
 have hs : s ∈ junkS junk p L := hs
 unfold junkS at hs
 split at hs
 ·
  rcases List.mem_append.1 hs with h | h
  ·
   obtain ⟨x, hx, rfl⟩ := List.mem_map.1 h
   exact recB_len (hf x (List.mem_of_mem_take hx))
  ·
   rcases List.mem_cons.1 h with h | h
   ·
    rw [h]; exact hjl
   ·
    obtain ⟨x, hx, rfl⟩ := List.mem_map.1 h
    exact recB_len (hf x (List.mem_of_mem_drop hx))
 ·
  obtain ⟨x, hx, rfl⟩ := List.mem_map.1 hs
  exact recB_len (hf x hx)
def GoodP (p : Pd) (W : List Ox) : Prop := p.Ok ∧ p.off = false ∧ p.arm = none ∧ (∀ s ∈ p.slots, Bytes s.1) ∧ noSnap p.slots ∧ opsOf p.slots = W ∧ opened p = padOf W W.length 0
theorem good_junk {junk : List Int} (hj : recOf junk = none) (hjl : junk.length ≤ 65536) (hb : Bytes junk) (h2 : junk.head? ≠ some 2) (p : Int) (L : List Ox) (hL : L.length ≤ 30) (hf : ∀ x ∈ L, opFit x) : GoodP (padJ junk p L) (wantL p L) :=
 ⟨padJ_ok hjl p L hL hf, rfl, rfl, (junk_slots hb h2 p L hf).1, (junk_slots hb h2 p L hf).2, junk_ops hj p L hf, junk_open hj p L hf⟩
theorem good_want (W : List Ox) (hL : W.length ≤ 30) (hf : ∀ x ∈ W, opFit x) : GoodP (padOf W W.length 0) W :=
 ⟨padOf_ok W W.length 0 hf (Nat.le_refl _) z2_, rfl, rfl, slots_bytes W hf, noSnap_ops W, (want_open W hf).1, (want_open W hf).2⟩
theorem want_sub (p : Int) (L : List Ox) : (∀ x ∈ wantL p L, x ∈ L) ∧ (wantL p L).length ≤ L.length := by
 unfold wantL
 split
 ·
  exact ⟨fun x hx => hx, Nat.le_refl _⟩
 ·
  exact ⟨fun x hx => List.mem_of_mem_take hx, List.length_take_le' _ _⟩
end Go.Proofs.Ytcbfliajgopdaaa.Logs
end
section
namespace Go.Proofs.Ytcbfliajgopdaaa.Logs
open Go.RowKit Go.Proofs.Ytcbfliajgopdaaa.PAll Go.Proofs.Ytcbfliajgopdaaa.Plain Go.Proofs.Ytcbfliajgopdaaa.Ops Go.Proofs.YtcbfliajgopdaaaW.PrintWords Go.Proofs.YtcbfliajgopdaaaW.PrintLast Go.Proofs.YtcbfliajgopdaaaW.PrintMore Go.Proofs.Ytcbfliajgopdaaa.Pads Go.Proofs.Ytcbfliajgopdaaa.Sep Go.Proofs.Ytcbfliajgopdaaa.ZipT Go.Proofs.YtcbfliajgopdaaaW.PrintWords.Kd Go.Proofs.YtcbfliajgopdaaaW.PrintMore.Kd
set_option linter.unusedVariables false
set_option linter.unusedSimpArgs false
set_option maxHeartbeats 8000000 in
set_option maxRecDepth 100000 in
theorem junk_main (A0 : Option Addr) (c0 : Nat) (l : List Ox) (at_ : Int) (A2j : Option Addr) (c2j : Nat) (junk : List Int) (w : World) (hr0 : Kd.C k54 w A0 l.length l) (hc0 : l.length ≤ c0) (hr2 : Kd.C (Kd.int .u8) w A2j junk.length junk) (hc2 : junk.length ≤ c2j)
  (hhv : hvL l = false) (h30 : l.length ≤ 30) (hj3 : junk.length ≤ 300) (hB : Bytes junk) (hjz : junk = [] ∨ ∃ z r, junk = z :: r ∧ z ≠ 1 ∧ z ≠ 2) :
  Calls Try.prog 4 #[.slice A0 l.length c0, .int .i64 at_, .slice A2j junk.length c2j] w fun e w' => e = .returned (.bool true) ∧ Below w.heap.size w w' := by
 have hrec : recOf junk = none := by
  rcases hjz with rfl | ⟨z, r, rfl, h1, h2⟩
  ·
   rfl
  ·
   show (if z = 1 then _ else none) = none
   rw [if_neg h1]
 have hhd : junk.head? ≠ some 2 := by
  rcases hjz with rfl | ⟨z, r, rfl, h1, h2⟩
  ·
   simp
  ·
   simpa using h2
 have hh := heavyL_eq l
 rw [hhv] at hh
 have HR := mk_ hr0
 have HC := mk_ hc0
 have HJ := mk_ hr2
 have HJC := mk_ hc2
 have HH := mk_ hh
 have HJ3 := mk_ hj3
 have HJL := mk_ (show junk.length ≤ 65536 by omega)
 have HREC := mk_ hrec
 have HHD := mk_ hhd
 have HBJ := mk_ hB
 have HS := mk_ (Sp.start w)
 have HLI := mk_ (fun x hx => light_op hhv (x := x) hx)
 have hb30 : decide (30 < l.length) = false := decide_eq_false z2_
 have hb30' : decide ((30 : Int) < (l.length : Int)) = false := decide_eq_false z2_
 have hj30 : decide (300 < junk.length) = false := decide_eq_false z2_
 have hj30' : decide ((300 : Int) < (junk.length : Int)) = false := decide_eq_false z2_
 obtain ⟨n, hn⟩ : ∃ n, l.length = n := ⟨_, rfl⟩
 have HN := mk_ hn
 have h30n : n ≤ 30 := by omega
 obtain ⟨jb, hjb, hz1, hz2⟩ : ∃ jb, decide (0 < junk.length) = jb ∧ (jb = true → ∃ ad z, A2j = some ad ∧ w.cell? ad = some (.int .u8 z) ∧ (z == 1) = false ∧ (z == 2) = false) ∧ decide ((0 : Int) < (junk.length : Int)) = jb := by
  rcases hjz with rfl | ⟨z, r, rfl, h1, h2⟩
  ·
   exact ⟨false, rfl, (fun h => by cases h), rfl⟩
  ·
   obtain ⟨ad, e, hc⟩ := Kd.at_int hr2 0 z2_ (by rw [List.length_cons]; omega)
   rw [show ((0 : Int)).toNat = 0 from rfl, Addr.add_zero', show rd (z :: r) 0 = z from rfl] at hc
   exact ⟨true, decide_eq_true (by simp), (fun _ => ⟨ad, z, e, hc, beq_eq_false_iff_ne.mpr h1, beq_eq_false_iff_ne.mpr h2⟩), decide_eq_true (by rw [List.length_cons]; omega)⟩
 clear hr0 hc0 hr2 hc2 hh hhv hn h30 hj3 hB hjz hrec hhd
 go_enter Try.func4, Try.ntmps4
 go_upto_region 3 with (go_at_call 14; go_loud (refine (PAll.raddlelaw07_Heavy.calls 400 A0 c0 l false w HR.out HC.out HH.out).mono ?_; rintro e W1 ⟨rfl, ⟨nd, rfl⟩⟩; have h_ := HS.out.drewN nd; clear HS; have HS := mk_ h_; clear h_))
 go_cut [43] (fun v43 wc => v43 = .bool false ∧ Aside0 (Sp wc [Old w]))
 case first =>
  cases jb with
  | false =>
   go_wp2
   go_meet
   case rel => exact ⟨rfl, HS⟩
  | true =>
   obtain ⟨ad, z, rfl, hc, he1, he2⟩ := hz1 rfl
   have hq1 : (0 < junk.length) = True := eq_true (of_decide_eq_true hjb)
   have hq2 : ((0 : Int) < (junk.length : Int)) = True := eq_true (of_decide_eq_true hz2)
   go_wp2
   go_meet
   case rel => exact ⟨rfl, HS⟩
 case rest =>
 obtain ⟨rfl, HS⟩ := hcut
 clear hz1 hjb hz2 hj30 hj30'
 go_wp2_with (go_at_call 15; go_loud (refine (log_calls HS.out).mono ?_; rintro e W3 ⟨g, gl, rfl, h1⟩; clear HS; have HS := mk_ h1; clear h1))
 go_loopg [9, 10, 11] n (fun kq v9 v10 v11 w' => ∃ (i : Nat) (rows : List (List Value)), v11 = .int .i64 (i : Int) ∧ v10 = .int .i64 ((((l.take i).filter fitB).length : Nat) : Int) ∧ Aside0 (i + kq = n) ∧ Aside0 (Encs w rows (wantL at_ ((l.take i).filter fitB))) ∧ Aside0 (Sp w' [LogP gl g, PadP g (padJ junk at_ ((l.take i).filter fitB)), Row (Kd.raw 12) 54 v9 rows, Old w]))
 case atStart =>
  refine ⟨0, [], rfl, rfl, ⟨by omega⟩, ⟨?_⟩, ⟨?_⟩⟩
  ·
   show Encs w [] (wantL at_ [])
   rw [want_nil]
   exact Encs.nil w
  ·
   show Sp _ [LogP gl g, PadP g (padJ junk at_ []), _, _]
   rw [padJ_nil]
   exact Sep.cons (fun _ => Sep.swap) ((sp_nil (d := Kd.raw 12) (e := 54) HS.out).s1)
 case round =>
  obtain ⟨i, rows, rfl, rfl, HI, HE, HP⟩ := hrel
  clear HS
  by_cases hlt : i < n
  ·
   have hil : i < l.length := by rw [HN.out]; exact hlt
   have p0 : (0 : Int) ≤ (i : Int) := by omega
   have q0 : (i : Int) < (l.length : Int) := by omega
   cases gk with
   | zero => exact absurd HI.out z2_
   | succ k1 =>
   obtain ⟨ad, A2, c2, A10, c10, A11, c11, e, hx0, hx1, hx2, hx3, hx4, hx5, hx6, hx7, hx8, hx9, hx10, hx11, l2, g2, l10, g10, l11, g11⟩ := at_T54 HR.out (i : Int) p0 q0
   cases e
   simp only [Int.toNat_natCast] at hx0 hx1 hx2 hx3 hx4 hx5 hx6 hx7 hx8 hx9 hx10 hx11
   have hxi : l[i]? = some (rd_T54 l (i : Int)) := by
    show _ = some (l.getD ((i : Int)).toNat _)
    rw [Int.toNat_natCast, List.getD_eq_getElem?_getD, List.getElem?_eq_getElem hil]; rfl
   generalize rd_T54 l (i : Int) = x at hx0 hx1 hx2 hx3 hx4 hx5 hx6 hx7 hx8 hx9 hx10 hx11 l2 g2 l10 g10 l11 g11 hxi
   have hK := k54_mk w x l2 g2 l10 g10 l11 g11
   have hlx := HLI.out x (List.mem_of_getElem? hxi)
   have hs : opSmall x := ⟨by omega, by omega, by omega⟩
   have hof := opFits_eq x hs
   have HSM := mk_ hs
   obtain ⟨fb, hfb⟩ : ∃ b, decide (opFit x) = b := ⟨_, rfl⟩
   rw [hfb] at hof
   obtain ⟨Li, hLi⟩ : ∃ L, (l.take i).filter fitB = L := ⟨_, rfl⟩
   have hstep : (l.take (i + 1)).filter fitB = Li ++ (if fb = true then [x] else []) := by
    rw [List.take_add_one, hxi, List.filter_append, hLi]
    show _ ++ (match fitB x with | true => [x] | false => []) = _
    rw [show fitB x = fb from hfb]
    cases fb <;> rfl
   have hlb : Li.length ≤ i := by rw [← hLi]; exact Nat.le_trans (List.length_filter_le _ _) (List.length_take_le _ _)
   have hft : ∀ y ∈ Li, opFit y := by rw [← hLi]; exact fun y hy => of_decide_eq_true (List.mem_filter.1 hy).2
   have h0 := HP.out
   have h1 := HE.out
   rw [hLi] at h0 h1 ⊢
   clear HP HE
   have HP := mk_ h0
   have HE := mk_ h1
   have hrb : rows.length ≤ 31 := by rw [h1.1]; unfold wantL; split; omega; rw [List.length_take]; omega
   have HRB := mk_ hrb
   have HLB := mk_ hlb
   have HFT := mk_ hft
   have HX0 := mk_ hx0
   have HX1 := mk_ hx1
   have HX2 := mk_ hx2
   have HX3 := mk_ hx3
   have HX4 := mk_ hx4
   have HX5 := mk_ hx5
   have HX6 := mk_ hx6
   have HX7 := mk_ hx7
   have HX8 := mk_ hx8
   have HX9 := mk_ hx9
   have HX10 := mk_ hx10
   have HX11 := mk_ hx11
   have hy0 := cell_on (Sp.old HP.out.s3) hx0
   have hy1 := cell_on (Sp.old HP.out.s3) hx1
   have hy2 := cell_on (Sp.old HP.out.s3) hx2
   have hy3 := cell_on (Sp.old HP.out.s3) hx3
   have hy4 := cell_on (Sp.old HP.out.s3) hx4
   have hy5 := cell_on (Sp.old HP.out.s3) hx5
   have hy6 := cell_on (Sp.old HP.out.s3) hx6
   have hy7 := cell_on (Sp.old HP.out.s3) hx7
   have hy8 := cell_on (Sp.old HP.out.s3) hx8
   have hy9 := cell_on (Sp.old HP.out.s3) hx9
   have hy10 := cell_on (Sp.old HP.out.s3) hx10
   have hy11 := cell_on (Sp.old HP.out.s3) hx11
   have hilb : decide (i < l.length) = true := decide_eq_true hil
   have hilb' : decide ((i : Int) < (l.length : Int)) = true := decide_eq_true q0
   have hil1 := eq_true hil
   have hil2 := eq_true q0
   have hi0 := eq_true p0
   have hm30 : Li.length ≤ 30 := by omega
   have L2 := mk_ l2
   have G2 := mk_ g2
   have L10 := mk_ l10
   have G10 := mk_ g10
   have L11 := mk_ l11
   have G11 := mk_ g11
   have HOF := mk_ hof
   have HK := mk_ hK
   have HST := mk_ hstep
   have HLT := mk_ hlt
   clear l2 g2 l10 g10 l11 g11 hof hK hstep hlt hs hlx hxi h0 h1 hrb hlb hft hLi hx0 hx1 hx2 hx3 hx4 hx5 hx6 hx7 hx8 hx9 hx10 hx11 hil p0 q0
   cases fb with
   | false =>
    clear hfb
    go_wp2_with ((go_at_call 16; go_loud (refine (PAll.raddleref01_OpFits.calls x.f0.f0 x.f0.f1 A2 c2 x.f1 x.f2.f0 x.f2.f1 x.f2.f2 x.f3 x.f4 x.f5 x.f6 A10 c10 x.f7 A11 c11 x.f8 false wr (C_below G2.out (Sp.old HP.out.s3)) L2.out (C_below G10.out (Sp.old HP.out.s3)) L10.out (C_below G11.out (Sp.old HP.out.s3)) L11.out HOF.out).mono ?_; rintro e W1 ⟨rfl, hb⟩; have h_ := HP.out.below hb; clear HP hb; have HP := mk_ h_; clear h_)))
    go_roundg k1
    case measure => exact Nat.lt_succ_self _
    case rel =>
     refine ⟨i + 1, rows, (by have := HLT.out; first | rfl | (rw [w64 z2_ z2_]; rfl) | simp), (by rw [HST.out, if_neg z5_, List.append_nil]), ⟨by have := HI.out; omega⟩, ⟨?_⟩, ⟨?_⟩⟩
     ·
      rw [HST.out, if_neg z5_, List.append_nil]
      exact HE.out
     ·
      rw [HST.out, if_neg z5_, List.append_nil]
      exact HP.out
   | true =>
    have HFX := mk_ (of_decide_eq_true hfb)
    clear hfb
    have HNL := mk_ (show Li.length + 1 = (Li ++ [x]).length by rw [List.length_append, List.length_singleton])
    by_cases hat : at_ = (Li.length : Int)
    ·
     have HAT := mk_ hat
     have hok4 := Pd.append_ok (padJ_ok HJL.out at_ Li (by have := HLB.out; omega) HFT.out) junk
     rw [append_at HJL.out hat (by have := HLB.out; omega)] at hok4
     have HOK4 := mk_ hok4
     have hd1 : ((Li.length : Int) == at_) = true := beq_iff_eq.mpr hat.symm
     have hd2 : decide (at_ < 0) = false := decide_eq_false z2_
     have hd3 : decide ((Li.length : Int) + 1 ≤ at_) = false := decide_eq_false z2_
     have hif : ¬ (at_ < 0 ∨ (Li.length : Int) + 1 ≤ at_) := by omega
     have HIF := mk_ hif
     clear hok4 hat hif
     go_wp2_with (first
      | (go_at_call 16; go_loud (refine (PAll.raddleref01_OpFits.calls x.f0.f0 x.f0.f1 A2 c2 x.f1 x.f2.f0 x.f2.f1 x.f2.f2 x.f3 x.f4 x.f5 x.f6 A10 c10 x.f7 A11 c11 x.f8 true wr (C_below G2.out (Sp.old HP.out.s3)) L2.out (C_below G10.out (Sp.old HP.out.s3)) L10.out (C_below G11.out (Sp.old HP.out.s3)) L11.out HOF.out).mono ?_; rintro e W1 ⟨rfl, hb⟩; have h_ := HP.out.below hb; clear HP hb; have HP := mk_ h_; clear h_; clear hy0 hy1 hy2 hy3 hy4 hy5 hy6 hy7 hy8 hy9 hy10 hy11; have hy0 := cell_on (Sp.old HP.out.s3) HX0.out; have hy1 := cell_on (Sp.old HP.out.s3) HX1.out; have hy2 := cell_on (Sp.old HP.out.s3) HX2.out; have hy3 := cell_on (Sp.old HP.out.s3) HX3.out; have hy4 := cell_on (Sp.old HP.out.s3) HX4.out; have hy5 := cell_on (Sp.old HP.out.s3) HX5.out; have hy6 := cell_on (Sp.old HP.out.s3) HX6.out; have hy7 := cell_on (Sp.old HP.out.s3) HX7.out; have hy8 := cell_on (Sp.old HP.out.s3) HX8.out; have hy9 := cell_on (Sp.old HP.out.s3) HX9.out; have hy10 := cell_on (Sp.old HP.out.s3) HX10.out; have hy11 := cell_on (Sp.old HP.out.s3) HX11.out))
      | (go_at_call 17; go_loud (refine (append_to HP.out.s1 (padJ_ok HJL.out at_ Li (by have := HLB.out; omega) HFT.out) A2j c2j junk HJC.out (by have := HJ3.out; omega) (C_below HJ.out (Sp.old HP.out.s3)) (append_at HJL.out HAT.out (by have := HLB.out; omega))).mono ?_; rintro e W4 ⟨rfl, h1⟩; have hok_ := HOK4.out; clear HP; have HP := mk_ h1.s1; clear h1 hok_; clear hy0 hy1 hy2 hy3 hy4 hy5 hy6 hy7 hy8 hy9 hy10 hy11; have hy0 := cell_on (Sp.old HP.out.s3) HX0.out; have hy1 := cell_on (Sp.old HP.out.s3) HX1.out; have hy2 := cell_on (Sp.old HP.out.s3) HX2.out; have hy3 := cell_on (Sp.old HP.out.s3) HX3.out; have hy4 := cell_on (Sp.old HP.out.s3) HX4.out; have hy5 := cell_on (Sp.old HP.out.s3) HX5.out; have hy6 := cell_on (Sp.old HP.out.s3) HX6.out; have hy7 := cell_on (Sp.old HP.out.s3) HX7.out; have hy8 := cell_on (Sp.old HP.out.s3) HX8.out; have hy9 := cell_on (Sp.old HP.out.s3) HX9.out; have hy10 := cell_on (Sp.old HP.out.s3) HX10.out; have hy11 := cell_on (Sp.old HP.out.s3) HX11.out))
      | (go_at_call 18; go_loud (refine (lappend_calls HP.out HOK4.out x A2 A10 A11 c2 c10 c11 (C_below G2.out (Sp.old HP.out.s3)) L2.out (C_below G10.out (Sp.old HP.out.s3)) L10.out (C_below G11.out (Sp.old HP.out.s3)) L11.out HSM.out HFX.out (by have := (opB_len x HFX.out).2; omega) (append_at2 HAT.out (by have := HLB.out; omega) HFX.out)).mono ?_; rintro e W5 ⟨rfl, h1⟩; clear HP; have HP := mk_ h1; clear h1; clear hy0 hy1 hy2 hy3 hy4 hy5 hy6 hy7 hy8 hy9 hy10 hy11; have hy0 := cell_on (Sp.old HP.out.s3) HX0.out; have hy1 := cell_on (Sp.old HP.out.s3) HX1.out; have hy2 := cell_on (Sp.old HP.out.s3) HX2.out; have hy3 := cell_on (Sp.old HP.out.s3) HX3.out; have hy4 := cell_on (Sp.old HP.out.s3) HX4.out; have hy5 := cell_on (Sp.old HP.out.s3) HX5.out; have hy6 := cell_on (Sp.old HP.out.s3) HX6.out; have hy7 := cell_on (Sp.old HP.out.s3) HX7.out; have hy8 := cell_on (Sp.old HP.out.s3) HX8.out; have hy9 := cell_on (Sp.old HP.out.s3) HX9.out; have hy10 := cell_on (Sp.old HP.out.s3) HX10.out; have hy11 := cell_on (Sp.old HP.out.s3) HX11.out)))
     go_roundg k1
     case measure => exact Nat.lt_succ_self _
     case rel =>
      refine ⟨i + 1, rows, (by have := HLT.out; first | rfl | (rw [w64 z2_ z2_]; rfl) | simp), (by rw [HST.out, if_pos (by first | rfl | trivial), ← HNL.out]; have := HLB.out; first | rfl | (rw [w64 z2_ z2_]; rfl) | simp), ⟨by have := HI.out; omega⟩, ⟨?_⟩, ⟨?_⟩⟩
      rotate_left
      ·
       rw [HST.out, if_pos (by first | rfl | trivial)]
       exact HP.out
      ·
       rw [HST.out, if_pos (by first | rfl | trivial), want_snoc, if_neg HIF.out, List.append_nil]
       exact HE.out
    ·
     have HAT := mk_ hat
     have hd1 : ((Li.length : Int) == at_) = false := beq_eq_false_iff_ne.mpr (fun e => hat e.symm)
     clear hat
     by_cases h0 : at_ < 0
     ·
      have hd2 : decide (at_ < 0) = true := decide_eq_true h0
      have HIF := mk_ (show at_ < 0 ∨ (Li.length : Int) + 1 ≤ at_ from .inl h0)
      clear h0
      go_wp2_with (first
       | (go_at_call 16; go_loud (refine (PAll.raddleref01_OpFits.calls x.f0.f0 x.f0.f1 A2 c2 x.f1 x.f2.f0 x.f2.f1 x.f2.f2 x.f3 x.f4 x.f5 x.f6 A10 c10 x.f7 A11 c11 x.f8 true wr (C_below G2.out (Sp.old HP.out.s3)) L2.out (C_below G10.out (Sp.old HP.out.s3)) L10.out (C_below G11.out (Sp.old HP.out.s3)) L11.out HOF.out).mono ?_; rintro e W1 ⟨rfl, hb⟩; have h_ := HP.out.below hb; clear HP hb; have HP := mk_ h_; clear h_; clear hy0 hy1 hy2 hy3 hy4 hy5 hy6 hy7 hy8 hy9 hy10 hy11; have hy0 := cell_on (Sp.old HP.out.s3) HX0.out; have hy1 := cell_on (Sp.old HP.out.s3) HX1.out; have hy2 := cell_on (Sp.old HP.out.s3) HX2.out; have hy3 := cell_on (Sp.old HP.out.s3) HX3.out; have hy4 := cell_on (Sp.old HP.out.s3) HX4.out; have hy5 := cell_on (Sp.old HP.out.s3) HX5.out; have hy6 := cell_on (Sp.old HP.out.s3) HX6.out; have hy7 := cell_on (Sp.old HP.out.s3) HX7.out; have hy8 := cell_on (Sp.old HP.out.s3) HX8.out; have hy9 := cell_on (Sp.old HP.out.s3) HX9.out; have hy10 := cell_on (Sp.old HP.out.s3) HX10.out; have hy11 := cell_on (Sp.old HP.out.s3) HX11.out))
       | (go_at_call 18; go_loud (refine (lappend_calls HP.out (padJ_ok HJL.out at_ Li (by have := HLB.out; omega) HFT.out) x A2 A10 A11 c2 c10 c11 (C_below G2.out (Sp.old HP.out.s3)) L2.out (C_below G10.out (Sp.old HP.out.s3)) L10.out (C_below G11.out (Sp.old HP.out.s3)) L11.out HSM.out HFX.out (by have := (opB_len x HFX.out).2; omega) (append_else HAT.out (by have := HLB.out; omega) HFX.out)).mono ?_; rintro e W5 ⟨rfl, h1⟩; clear HP; have HP := mk_ h1; clear h1; clear hy0 hy1 hy2 hy3 hy4 hy5 hy6 hy7 hy8 hy9 hy10 hy11; have hy0 := cell_on (Sp.old HP.out.s3) HX0.out; have hy1 := cell_on (Sp.old HP.out.s3) HX1.out; have hy2 := cell_on (Sp.old HP.out.s3) HX2.out; have hy3 := cell_on (Sp.old HP.out.s3) HX3.out; have hy4 := cell_on (Sp.old HP.out.s3) HX4.out; have hy5 := cell_on (Sp.old HP.out.s3) HX5.out; have hy6 := cell_on (Sp.old HP.out.s3) HX6.out; have hy7 := cell_on (Sp.old HP.out.s3) HX7.out; have hy8 := cell_on (Sp.old HP.out.s3) HX8.out; have hy9 := cell_on (Sp.old HP.out.s3) HX9.out; have hy10 := cell_on (Sp.old HP.out.s3) HX10.out; have hy11 := cell_on (Sp.old HP.out.s3) HX11.out))
       | ((with_reducible refine gate_builtin (b := .append) (xs := #[.tmp 93, .tmp 98]) rfl ?_); at_builtin; go_loud (refine Sp.append (Kd.raw 12) rfl (.tmp 93) (.tmp 98) 29 54 (.agg #[.int .i64 0, .int .i64 0, .slice none 0 0, .int .i64 0, .int .i64 0, .int .i64 0, .int .i64 0, .int .i64 0, .string ⟨#[]⟩, .int .i64 0, .slice none 0 0, .slice none 0 0]) 152 rfl Try.underlying29 z1_ rfl z5_ z2_ u9 rows (opC x (.slice A2 x.f1.length c2) (.slice A10 x.f7.length c10) (.slice A11 x.f8.length c11)) (opC x (.slice A2 x.f1.length c2) (.slice A10 x.f7.length c10) (.slice A11 x.f8.length c11)) rfl rfl (sp_el (d := Kd.raw 12) (p := (opC x (.slice A2 x.f1.length c2) (.slice A10 x.f7.length c10) (.slice A11 x.f8.length c11))) (cs := (opC x (.slice A2 x.f1.length c2) (.slice A10 x.f7.length c10) (.slice A11 x.f8.length c11))) (fun W ok => ⟨rfl, rfl, by simp [opC, Value.oneCell']⟩) HP.out.s2).s1 (by have := HRB.out; omega) ?_; intro v1 W6 h1; clear HP; have HP := mk_ h1.s2.s2; clear h1)))
      go_roundg k1
      case measure => exact Nat.lt_succ_self _
      case rel =>
       refine ⟨i + 1, rows ++ [(opC x (.slice A2 x.f1.length c2) (.slice A10 x.f7.length c10) (.slice A11 x.f8.length c11))], (by have := HLT.out; first | rfl | (rw [w64 z2_ z2_]; rfl) | simp), (by rw [HST.out, if_pos (by first | rfl | trivial), ← HNL.out]; have := HLB.out; first | rfl | (rw [w64 z2_ z2_]; rfl) | simp), ⟨by have := HI.out; omega⟩, ⟨?_⟩, ⟨?_⟩⟩
       rotate_left
       ·
        rw [HST.out, if_pos (by first | rfl | trivial)]
        exact HP.out
       ·
        rw [HST.out, if_pos (by first | rfl | trivial), want_snoc, if_pos HIF.out]
        exact HE.out.snoc HK.out
     ·
      have hd2 : decide (at_ < 0) = false := decide_eq_false h0
      by_cases h1 : (Li.length : Int) + 1 ≤ at_
      ·
       have hd3 : decide ((Li.length : Int) + 1 ≤ at_) = true := decide_eq_true h1
       have HIF := mk_ (show at_ < 0 ∨ (Li.length : Int) + 1 ≤ at_ from .inr h1)
       clear h0 h1
       go_wp2_with (first
        | (go_at_call 16; go_loud (refine (PAll.raddleref01_OpFits.calls x.f0.f0 x.f0.f1 A2 c2 x.f1 x.f2.f0 x.f2.f1 x.f2.f2 x.f3 x.f4 x.f5 x.f6 A10 c10 x.f7 A11 c11 x.f8 true wr (C_below G2.out (Sp.old HP.out.s3)) L2.out (C_below G10.out (Sp.old HP.out.s3)) L10.out (C_below G11.out (Sp.old HP.out.s3)) L11.out HOF.out).mono ?_; rintro e W1 ⟨rfl, hb⟩; have h_ := HP.out.below hb; clear HP hb; have HP := mk_ h_; clear h_; clear hy0 hy1 hy2 hy3 hy4 hy5 hy6 hy7 hy8 hy9 hy10 hy11; have hy0 := cell_on (Sp.old HP.out.s3) HX0.out; have hy1 := cell_on (Sp.old HP.out.s3) HX1.out; have hy2 := cell_on (Sp.old HP.out.s3) HX2.out; have hy3 := cell_on (Sp.old HP.out.s3) HX3.out; have hy4 := cell_on (Sp.old HP.out.s3) HX4.out; have hy5 := cell_on (Sp.old HP.out.s3) HX5.out; have hy6 := cell_on (Sp.old HP.out.s3) HX6.out; have hy7 := cell_on (Sp.old HP.out.s3) HX7.out; have hy8 := cell_on (Sp.old HP.out.s3) HX8.out; have hy9 := cell_on (Sp.old HP.out.s3) HX9.out; have hy10 := cell_on (Sp.old HP.out.s3) HX10.out; have hy11 := cell_on (Sp.old HP.out.s3) HX11.out))
        | (go_at_call 18; go_loud (refine (lappend_calls HP.out (padJ_ok HJL.out at_ Li (by have := HLB.out; omega) HFT.out) x A2 A10 A11 c2 c10 c11 (C_below G2.out (Sp.old HP.out.s3)) L2.out (C_below G10.out (Sp.old HP.out.s3)) L10.out (C_below G11.out (Sp.old HP.out.s3)) L11.out HSM.out HFX.out (by have := (opB_len x HFX.out).2; omega) (append_else HAT.out (by have := HLB.out; omega) HFX.out)).mono ?_; rintro e W5 ⟨rfl, h1⟩; clear HP; have HP := mk_ h1; clear h1; clear hy0 hy1 hy2 hy3 hy4 hy5 hy6 hy7 hy8 hy9 hy10 hy11; have hy0 := cell_on (Sp.old HP.out.s3) HX0.out; have hy1 := cell_on (Sp.old HP.out.s3) HX1.out; have hy2 := cell_on (Sp.old HP.out.s3) HX2.out; have hy3 := cell_on (Sp.old HP.out.s3) HX3.out; have hy4 := cell_on (Sp.old HP.out.s3) HX4.out; have hy5 := cell_on (Sp.old HP.out.s3) HX5.out; have hy6 := cell_on (Sp.old HP.out.s3) HX6.out; have hy7 := cell_on (Sp.old HP.out.s3) HX7.out; have hy8 := cell_on (Sp.old HP.out.s3) HX8.out; have hy9 := cell_on (Sp.old HP.out.s3) HX9.out; have hy10 := cell_on (Sp.old HP.out.s3) HX10.out; have hy11 := cell_on (Sp.old HP.out.s3) HX11.out))
        | ((with_reducible refine gate_builtin (b := .append) (xs := #[.tmp 93, .tmp 98]) rfl ?_); at_builtin; go_loud (refine Sp.append (Kd.raw 12) rfl (.tmp 93) (.tmp 98) 29 54 (.agg #[.int .i64 0, .int .i64 0, .slice none 0 0, .int .i64 0, .int .i64 0, .int .i64 0, .int .i64 0, .int .i64 0, .string ⟨#[]⟩, .int .i64 0, .slice none 0 0, .slice none 0 0]) 152 rfl Try.underlying29 z1_ rfl z5_ z2_ u9 rows (opC x (.slice A2 x.f1.length c2) (.slice A10 x.f7.length c10) (.slice A11 x.f8.length c11)) (opC x (.slice A2 x.f1.length c2) (.slice A10 x.f7.length c10) (.slice A11 x.f8.length c11)) rfl rfl (sp_el (d := Kd.raw 12) (p := (opC x (.slice A2 x.f1.length c2) (.slice A10 x.f7.length c10) (.slice A11 x.f8.length c11))) (cs := (opC x (.slice A2 x.f1.length c2) (.slice A10 x.f7.length c10) (.slice A11 x.f8.length c11))) (fun W ok => ⟨rfl, rfl, by simp [opC, Value.oneCell']⟩) HP.out.s2).s1 (by have := HRB.out; omega) ?_; intro v1 W6 h1; clear HP; have HP := mk_ h1.s2.s2; clear h1)))
       go_roundg k1
       case measure => exact Nat.lt_succ_self _
       case rel =>
        refine ⟨i + 1, rows ++ [(opC x (.slice A2 x.f1.length c2) (.slice A10 x.f7.length c10) (.slice A11 x.f8.length c11))], (by have := HLT.out; first | rfl | (rw [w64 z2_ z2_]; rfl) | simp), (by rw [HST.out, if_pos (by first | rfl | trivial), ← HNL.out]; have := HLB.out; first | rfl | (rw [w64 z2_ z2_]; rfl) | simp), ⟨by have := HI.out; omega⟩, ⟨?_⟩, ⟨?_⟩⟩
        rotate_left
        ·
         rw [HST.out, if_pos (by first | rfl | trivial)]
         exact HP.out
        ·
         rw [HST.out, if_pos (by first | rfl | trivial), want_snoc, if_pos HIF.out]
         exact HE.out.snoc HK.out
      ·
       have hd3 : decide ((Li.length : Int) + 1 ≤ at_) = false := decide_eq_false h1
       have HIF := mk_ (show ¬ (at_ < 0 ∨ (Li.length : Int) + 1 ≤ at_) from fun e => e.elim h0 h1)
       clear h0 h1
       go_wp2_with (first
        | (go_at_call 16; go_loud (refine (PAll.raddleref01_OpFits.calls x.f0.f0 x.f0.f1 A2 c2 x.f1 x.f2.f0 x.f2.f1 x.f2.f2 x.f3 x.f4 x.f5 x.f6 A10 c10 x.f7 A11 c11 x.f8 true wr (C_below G2.out (Sp.old HP.out.s3)) L2.out (C_below G10.out (Sp.old HP.out.s3)) L10.out (C_below G11.out (Sp.old HP.out.s3)) L11.out HOF.out).mono ?_; rintro e W1 ⟨rfl, hb⟩; have h_ := HP.out.below hb; clear HP hb; have HP := mk_ h_; clear h_; clear hy0 hy1 hy2 hy3 hy4 hy5 hy6 hy7 hy8 hy9 hy10 hy11; have hy0 := cell_on (Sp.old HP.out.s3) HX0.out; have hy1 := cell_on (Sp.old HP.out.s3) HX1.out; have hy2 := cell_on (Sp.old HP.out.s3) HX2.out; have hy3 := cell_on (Sp.old HP.out.s3) HX3.out; have hy4 := cell_on (Sp.old HP.out.s3) HX4.out; have hy5 := cell_on (Sp.old HP.out.s3) HX5.out; have hy6 := cell_on (Sp.old HP.out.s3) HX6.out; have hy7 := cell_on (Sp.old HP.out.s3) HX7.out; have hy8 := cell_on (Sp.old HP.out.s3) HX8.out; have hy9 := cell_on (Sp.old HP.out.s3) HX9.out; have hy10 := cell_on (Sp.old HP.out.s3) HX10.out; have hy11 := cell_on (Sp.old HP.out.s3) HX11.out))
        | (go_at_call 18; go_loud (refine (lappend_calls HP.out (padJ_ok HJL.out at_ Li (by have := HLB.out; omega) HFT.out) x A2 A10 A11 c2 c10 c11 (C_below G2.out (Sp.old HP.out.s3)) L2.out (C_below G10.out (Sp.old HP.out.s3)) L10.out (C_below G11.out (Sp.old HP.out.s3)) L11.out HSM.out HFX.out (by have := (opB_len x HFX.out).2; omega) (append_else HAT.out (by have := HLB.out; omega) HFX.out)).mono ?_; rintro e W5 ⟨rfl, h1⟩; clear HP; have HP := mk_ h1; clear h1; clear hy0 hy1 hy2 hy3 hy4 hy5 hy6 hy7 hy8 hy9 hy10 hy11; have hy0 := cell_on (Sp.old HP.out.s3) HX0.out; have hy1 := cell_on (Sp.old HP.out.s3) HX1.out; have hy2 := cell_on (Sp.old HP.out.s3) HX2.out; have hy3 := cell_on (Sp.old HP.out.s3) HX3.out; have hy4 := cell_on (Sp.old HP.out.s3) HX4.out; have hy5 := cell_on (Sp.old HP.out.s3) HX5.out; have hy6 := cell_on (Sp.old HP.out.s3) HX6.out; have hy7 := cell_on (Sp.old HP.out.s3) HX7.out; have hy8 := cell_on (Sp.old HP.out.s3) HX8.out; have hy9 := cell_on (Sp.old HP.out.s3) HX9.out; have hy10 := cell_on (Sp.old HP.out.s3) HX10.out; have hy11 := cell_on (Sp.old HP.out.s3) HX11.out)))
       go_roundg k1
       case measure => exact Nat.lt_succ_self _
       case rel =>
        refine ⟨i + 1, rows, (by have := HLT.out; first | rfl | (rw [w64 z2_ z2_]; rfl) | simp), (by rw [HST.out, if_pos (by first | rfl | trivial), ← HNL.out]; have := HLB.out; first | rfl | (rw [w64 z2_ z2_]; rfl) | simp), ⟨by have := HI.out; omega⟩, ⟨?_⟩, ⟨?_⟩⟩
        rotate_left
        ·
         rw [HST.out, if_pos (by first | rfl | trivial)]
         exact HP.out
        ·
         rw [HST.out, if_pos (by first | rfl | trivial), want_snoc, if_neg HIF.out, List.append_nil]
         exact HE.out
  ·
   have hb1 : decide ((i : Int) < (l.length : Int)) = false := decide_eq_false (by rw [HN.out]; omega)
   have hb1' : decide (i < l.length) = false := decide_eq_false (by rw [HN.out]; exact hlt)
   have hin : i = n := by have := HI.out; omega
   obtain ⟨L, hL⟩ : ∃ L, (l.take i).filter fitB = L := ⟨_, rfl⟩
   have hLl : L = l.filter fitB := by rw [← hL, hin, ← HN.out, List.take_length]
   have hfL : ∀ x ∈ L, opFit x := by rw [hLl]; exact fun x hx => of_decide_eq_true (List.mem_filter.1 hx).2
   have hlL : ∀ x ∈ L, x.f1.length ≤ 30 ∧ x.f7.length ≤ 40 ∧ x.f8.length ≤ 100 := by rw [hLl]; exact fun x hx => HLI.out x (List.mem_filter.1 hx).1
   have hL30 : L.length ≤ 30 := by rw [hLl]; exact Nat.le_trans (List.length_filter_le _ _) (by rw [HN.out]; exact h30n)
   have h0 := HP.out
   have h1 := HE.out
   rw [hL] at h0 h1 ⊢
   clear HP HE
   have hg := good_junk HREC.out HJL.out HBJ.out HHD.out at_ L hL30 hfL
   obtain ⟨hw1, hw2⟩ := want_sub at_ L
   generalize wantL at_ L = W at h1 hg hw1 hw2
   obtain ⟨N, hN⟩ : ∃ N, W.length = N := ⟨_, rfl⟩
   have hrN : rows.length = N := by rw [h1.1]; exact hN
   obtain ⟨Ar, cr, rfl, hcr, hrC⟩ := h0.s2.row
   rw [hrN] at hcr h0 ⊢
   have hfW : ∀ x ∈ W, opFit x := fun x hx => hfL x (hw1 x hx)
   have hW30 : W.length ≤ 30 := by omega
   have HGW := mk_ (good_want W hW30 hfW)
   have HOP := mk_ (ops_same W z2_ (fun x hx => hlL x (hw1 x hx)))
   have HG := mk_ hg
   have HE := mk_ h1
   have HP := mk_ h0
   have HNN := mk_ hN
   have HCR := mk_ hcr
   have hN30 : N ≤ 30 := by omega
   have hm30 : L.length ≤ 30 := hL30
   clear hin hL hLl hfL hlL hL30 h0 h1 hg hw1 hw2 hN hrN hrC hcr hfW hW30 hlt
   go_wp2
   go_loopg [12] 2 (fun kq v12 w' => ∃ (j : Nat) (p : Pd), v12 = .int .i64 (j : Int) ∧ Aside0 (j + kq = 2) ∧ Aside0 (GoodP p W) ∧ Aside0 (Sp w' [LogP gl g, PadP g p, Row (Kd.raw 12) 54 (.slice Ar N cr) rows, Old w]))
   case atStart => exact ⟨0, _, rfl, ⟨by omega⟩, HG, HP⟩
   case round =>
    obtain ⟨j, p, rfl, HJJ, HGP, HP⟩ := hrel
    have hj2 : (j : Int) ≤ 2 := by have := HJJ.out; omega
    by_cases hlt : j < 2
    ·
     have hc1 : decide ((j : Int) < 2) = true := decide_eq_true z2_
     have hc2 : decide (j < 2) = true := decide_eq_true hlt
     cases gk with
     | zero => exact absurd HJJ.out z2_
     | succ k1 =>
     have HLT := mk_ hlt
     clear hlt
     go_wp2_with (first
      | (go_at_call 19; go_loud (have q_ := open_calls HP.out.s1 HGP.out.1 HGP.out.2.1 HGP.out.2.2.1 HGP.out.2.2.2.1 HGP.out.2.2.2.2.1; rw [HGP.out.2.2.2.2.2.1, HGP.out.2.2.2.2.2.2] at q_; unfold snap0 at q_; refine q_.mono ?_; clear q_; rintro e W12 ⟨gl2, v, rfl, h2⟩; obtain ⟨Ag, cg, rfl, hcg, hCg⟩ := h2.s1.row; rw [HNN.out] at hcg; have HCG := mk_ hcg; clear hCg hcg; have n_ := h2.s1; rw [HNN.out] at n_ ⊢; have HS := mk_ n_; clear n_ h2))
      | ((with_reducible refine gate_dst (N := 14) rfl ?_); go_loud (refine box_event ?hg (N := 14) ?hd (cs := #[.slice none 0 0, .int .i64 0, .int .i64 0, .int .i64 0, .slice none 0 0, .slice none 0 0, .slice none 0 0]) (t := 31) ?hr ?_; (case hd => rfl); (case hg => rfl); (case hr => first | (go_simp; done) | (go_simp; rfl)); intro g14 hg W13 hbox hb; have h_ := HS.out.boxed hg hbox hb; clear hbox hb hg; clear HS; have HS := mk_ h_; clear h_; have k14 := blk_cell HS.out.blk; have kf14 := blk_frozen HS.out.blk))
      | ((with_reducible refine gate_store (t := 31) (p := 14) rfl ?_); go_loud (refine store_event (t := 31) (p := 14) (v := ?vo14) (w1 := put7 W13 g14 (.slice none 0 0) (.int .i64 0) (.int .i64 0) (.int .i64 0) (.slice none 0 0) (.slice none 0 0) (.slice none 0 0)) ?hg ?ho ?hn ?hr ?_; (case ho => rfl); (case hg => rfl); (case hn => rfl); (case hr => first | (go_simp; done) | (go_simp; rfl)); intro W14 hw; have h_ := (HS.out).put7 (.slice none 0 0) (.int .i64 0) (.int .i64 0) (.int .i64 0) (.slice none 0 0) (.slice none 0 0) (.slice none 0 0); rw [← hw] at h_; clear hw HS; have HS := mk_ h_; clear h_; clear k14 kf14; have h_ := HS.out.tail; clear HS; have HS := mk_ h_; clear h_))
      | (go_at_call 20; go_loud (have hC1 := (row_C HS.out).2.2; have hC0 := HE.out.C (Sp.old HS.out.s5) (row_C HS.out.s4).2.2; rw [HE.out.1] at hC0; have q_ := PAll.raddlekeep_Ops.calls 300 Ag cg W Ar cr W true W14 hC1 (by rw [HNN.out]; exact HCG.out) hC0 (by rw [HNN.out]; exact HCR.out) HOP.out; rw [HNN.out] at q_; refine q_.mono ?_; clear q_ hC1 hC0; rintro e W15 ⟨rfl, hb⟩; have h_ := HS.out.below hb; clear HS hb; have HS := mk_ h_; clear h_))
      | (go_at_call 21; go_loud (refine (len_calls HS.out.s2).mono ?_; rw [show (padOf W N 0).slots.length = N from by show (W.map slotOf).length = N; rw [List.length_map]; exact HNN.out]; rintro e W16 ⟨rfl, rfl⟩)))
     go_roundg k1
     case measure => exact Nat.lt_succ_self _
     case rel =>
      refine ⟨j + 1, padOf W W.length 0, (by first | rfl | (have := HLT.out; rw [w64 z2_ z2_]; rfl) | simp), ⟨by have := HJJ.out; omega⟩, HGW, ⟨?_⟩⟩
      rw [HNN.out]
      exact HS.out.s3.s1.tail.s1.tail
    ·
     have hc1 : decide ((j : Int) < 2) = false := decide_eq_false z2_
     have hc2 : decide (j < 2) = false := decide_eq_false hlt
     clear hlt
     go_wp2_with (go_at_call 12; go_loud (refine (wakes_calls HP.out).mono ?_; rintro e W16 ⟨rfl, h1⟩; clear HP; have HP := mk_ h1; clear h1))
     go_ret
     exact ⟨rfl, Sp.old HP.out.s3⟩
set_option maxHeartbeats 8000000 in
set_option maxRecDepth 100000 in
theorem junk_law (A0 : Option Addr) (c0 : Nat) (l : List Ox) (at_ : Int) (A2j : Option Addr) (c2j : Nat) (junk : List Int) (w : World) {p1 p2 : Prop} (_ : p1) (_ : p2) (hwf : junk.length ≤ maxLen ∧ ∀ y ∈ junk, (Lit.int .u8 y).wf = true)
  (hr0 : Kd.C k54 w A0 l.length l) (hc0 : l.length ≤ c0) (hr2 : Kd.C (Kd.int .u8) w A2j junk.length junk) (hc2 : junk.length ≤ c2j) :
  Calls Try.prog 4 #[.slice A0 l.length c0, .int .i64 at_, .slice A2j junk.length c2j] w fun e w' => e = .returned (.bool true) ∧ Below w.heap.size w w' := by
 have hh := heavyL_eq l
 obtain ⟨hv, hhv⟩ : ∃ b, hvL l = b := ⟨_, rfl⟩
 rw [hhv] at hh
 have HH := mk_ hh
 have HR := mk_ hr0
 have HC := mk_ hc0
 have HS := mk_ (Sp.start w)
 cases hv with
 | true =>
  clear hh hr0 hc0 hr2 hc2 hwf
  clear hhv
  go_enter Try.func4, Try.ntmps4
  go_wp2_with (go_at_call 14; go_loud (refine (PAll.raddlelaw07_Heavy.calls 400 A0 c0 l true w HR.out HC.out HH.out).mono ?_; rintro e W1 ⟨rfl, ⟨nd, rfl⟩⟩; have h_ := HS.out.drewN nd; clear HS; have HS := mk_ h_; clear h_))
  go_ret
  exact ⟨rfl, Sp.old HS.out⟩
 | false =>
 by_cases h30 : l.length > 30
 ·
  clear hh hr0 hc0 hr2 hc2 hwf
  have hb30 : decide (30 < l.length) = true := decide_eq_true h30
  have hb30' : decide ((30 : Int) < (l.length : Int)) = true := decide_eq_true z2_
  clear hhv
  go_enter Try.func4, Try.ntmps4
  go_wp2_with (go_at_call 14; go_loud (refine (PAll.raddlelaw07_Heavy.calls 400 A0 c0 l false w HR.out HC.out HH.out).mono ?_; rintro e W1 ⟨rfl, ⟨nd, rfl⟩⟩; have h_ := HS.out.drewN nd; clear HS; have HS := mk_ h_; clear h_))
  go_ret
  exact ⟨rfl, Sp.old HS.out⟩
 by_cases h300 : junk.length > 300
 ·
  clear hh hr0 hc0 hr2 hc2 hwf
  have hb30 : decide (30 < l.length) = false := decide_eq_false h30
  have hb30' : decide ((30 : Int) < (l.length : Int)) = false := decide_eq_false z2_
  have hj30 : decide (300 < junk.length) = true := decide_eq_true h300
  have hj30' : decide ((300 : Int) < (junk.length : Int)) = true := decide_eq_true z2_
  clear hhv
  go_enter Try.func4, Try.ntmps4
  go_wp2_with (go_at_call 14; go_loud (refine (PAll.raddlelaw07_Heavy.calls 400 A0 c0 l false w HR.out HC.out HH.out).mono ?_; rintro e W1 ⟨rfl, ⟨nd, rfl⟩⟩; have h_ := HS.out.drewN nd; clear HS; have HS := mk_ h_; clear h_))
  go_ret
  exact ⟨rfl, Sp.old HS.out⟩
 by_cases hjz : junk = [] ∨ ∃ z r, junk = z :: r ∧ z ≠ 1 ∧ z ≠ 2
 ·
  exact junk_main A0 c0 l at_ A2j c2j junk w hr0 hc0 hr2 hc2 hhv z2_ z2_ (Bytes.of_wf hwf.2) hjz
 ·
  obtain ⟨z, r, rfl⟩ : ∃ z r, junk = z :: r := by
   cases junk with
   | nil => exact absurd (.inl rfl) hjz
   | cons z r => exact ⟨z, r, rfl⟩
  obtain ⟨ad, e, hcz⟩ := Kd.at_int hr2 0 z2_ (by rw [List.length_cons]; omega)
  cases e
  rw [show ((0 : Int)).toNat = 0 from rfl, Addr.add_zero', show rd (z :: r) 0 = z from rfl] at hcz
  obtain ⟨m, hm⟩ : ∃ m, (z :: r).length = m := ⟨_, rfl⟩
  have hm0 : 0 < m := by rw [← hm, List.length_cons]; omega
  rw [hm] at h300 ⊢
  have hb30 : decide (30 < l.length) = false := decide_eq_false h30
  have hb30' : decide ((30 : Int) < (l.length : Int)) = false := decide_eq_false z2_
  have hj30 : decide (300 < m) = false := decide_eq_false h300
  have hj30' : decide ((300 : Int) < (m : Int)) = false := decide_eq_false z2_
  have hq0 : decide (0 < m) = true := decide_eq_true hm0
  have hq1 : (0 < m) = True := eq_true hm0
  have hq2 : ((0 : Int) < (m : Int)) = True := eq_true z2_
  have hz : z = 1 ∨ z = 2 := by
   by_cases h1 : z = 1
   ·
    exact .inl h1
   ·
    by_cases h2 : z = 2
    ·
     exact .inr h2
    ·
     exact absurd (.inr ⟨z, r, rfl, h1, h2⟩) hjz
  clear hh hr0 hc0 hr2 hc2 hwf hjz hm h300 h30 hm0 hhv
  rcases hz with rfl | rfl
  all_goals
   go_enter Try.func4, Try.ntmps4
   go_wp2_with (go_at_call 14; go_loud (refine (PAll.raddlelaw07_Heavy.calls 400 A0 c0 l false w HR.out HC.out HH.out).mono ?_; rintro e W1 ⟨rfl, ⟨nd, rfl⟩⟩; have h_ := HS.out.drewN nd; clear HS; have HS := mk_ h_; clear h_))
   go_ret
   exact ⟨rfl, Sp.old HS.out⟩
end Go.Proofs.Ytcbfliajgopdaaa.Logs
end
section
namespace Go.Proofs.Ytcbfliajgopdaaa.PAll
open Go.RowKit Go.Proofs.YtcbfliajgopdaaaW.PrintWords Go.Proofs.YtcbfliajgopdaaaW.PrintLast Go.Proofs.YtcbfliajgopdaaaW.PrintMore Go.Proofs.Ytcbfliajgopdaaa.ZipT Go.Proofs.YtcbfliajgopdaaaW.PrintWords.Kd Go.Proofs.YtcbfliajgopdaaaW.PrintMore.Kd
attribute [local go_sem] max2_int min2_int max_two min_two max_three min_three max_four min_four   -- for this text's walks alone
set_option linter.unusedVariables false
set_option linter.unusedSimpArgs false
def hand.WF50 (x : S50) : Prop := (Lit.int .i64 x.f0).wf = true ∧ (Lit.int .i64 x.f1).wf = true
def hand.WF26 (x : S26) : Prop := (Lit.int .i64 x.f0).wf = true ∧ (Lit.int .i64 x.f1).wf = true ∧ (Lit.int .i64 x.f2).wf = true
def hand.WF89 (x : S89) : Prop := (Lit.int .i64 x.f0).wf = true ∧ (Lit.int .i64 x.f1).wf = true ∧ x.f2.size ≤ maxLen
def hand.WF54 (x : S54) : Prop := hand.WF50 x.f0 ∧ (x.f1.length ≤ maxLen ∧ ∀ x0_ ∈ x.f1, (Lit.int .i64 x0_).wf = true) ∧ hand.WF26 x.f2 ∧ (Lit.int .i64 x.f3).wf = true ∧ (Lit.int .i64 x.f4).wf = true ∧ x.f5.size ≤ maxLen ∧ (Lit.int .i64 x.f6).wf = true ∧ (x.f7.length ≤ maxLen ∧ ∀ x0_ ∈ x.f7, hand.WF89 x0_) ∧ (x.f8.length ≤ maxLen ∧ ∀ x0_ ∈ x.f8, hand.WF50 x0_)
end Go.Proofs.Ytcbfliajgopdaaa.PAll
end
