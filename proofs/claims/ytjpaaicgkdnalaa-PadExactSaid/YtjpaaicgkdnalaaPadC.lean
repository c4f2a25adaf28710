/-
  pad's spend, and the clone of slots, as the machine walks them.
  Conditions: none.
-/
import Derived.Test.YtjpaaicgkdnalaaPadB
import Derived.StillTailTactics
namespace Go.Proofs.Ytjpaaicgkdnalaa.Pads
open Go.RowKit Go.Proofs.YtjpaaicgkdnalaaW.PrintWords Go.Proofs.YtjpaaicgkdnalaaW.PrintLast Go.Proofs.YtjpaaicgkdnalaaW.PrintMore Go.Proofs.Ytjpaaicgkdnalaa.Sep
set_option linter.unusedVariables false
set_option linter.unusedSimpArgs false
section
variable {w : World} {g : Nat} {p : Pd} {F : List Part}
theorem infoSl : (Try.prog.info? 60).map (fun i => (i.zero, i.size, i.bytes)) = some (some (.agg #[.slice none 0 0, .bool false]), 2, 32) := by kernel_rfl
set_option maxHeartbeats 4000000 in
set_option maxRecDepth 100000 in
theorem cloneSl_calls {v : Value} {xs ys : List Sl} {A : Option Addr} {c : Nat} (hS : Sp w (Row kSl 60 v xs :: F)) (hl : ys.length ≤ 4000)
    (hR : ∀ ok, (Row kSl 60 v xs).P w ok → ReadsRow (kSl.M w 0 ok) 2 w A ys.length ys) :
    Calls Try.prog 40 #[.slice A ys.length c] w fun e w' => ∃ v', e = .returned v' ∧ Sp w' (Row kSl 60 v' ys :: F) := by
  obtain ⟨ok, h1, h2, h3⟩ := hS.head1
  have hr := hR ok h2
  have H3 := Aside0.mk h3
  have H1 := Aside0.mk h1
  have HR := Aside0.mk hr
  clear h3 h2 hS hR h1
  cases A with
  | none =>
    have hl_ : ys = [] := by
      rcases ys with _ | ⟨x_, xs_⟩
      · rfl
      · obtain ⟨ad_, e_, _⟩ := HR.out.2.2 (by simp)
        exact absurd e_ (by simp)
    subst hl_
    have hnil_ := fun W : World => Lib.run_eql_slice_nil (P := Try.prog) W 55 60 none 0 c 0 0 Try.underlying55
    go_enter Try.func40, Try.ntmps40
    go_wp2
    go_ret
    exact ⟨_, rfl, H3.out _ (Row kSl 60 (.slice none 0 0) []) (Moved.refl _ _) (Kd.R_nil _ _ _ _ _)⟩
  | some a0 =>
    have hnil_ := fun W : World => Lib.run_eql_slice_nil (P := Try.prog) W 55 60 (some a0) ys.length c 0 0 Try.underlying55
    have HL := Aside0.mk hl
    clear hl
    go_enter Try.func40, Try.ntmps40
    go_wp2_with (first
      | ((with_reducible refine gate_dst (N := 5) rfl ?_); refine Kd.R_lit kSl 0 60 ?hg (N := 5) ?hd (w0 := w) (xs := ([] : List Sl)) (inner := []) (ok := fun k => w.heap.size ≤ k) (okp := fun _ => False) ?hr ?hp (fun _ hk => hk.elim) (Nat.le_refl _) (Below.refl _ _) (Nat.zero_le _) (by simp) ?_; (case hd => rfl); (case hg => rfl); (case hr => first | (go_simp; done) | (go_simp; rfl)); (case hp => exact Reps.none _ _); intro v1 w1 hr1 _ hg1 hn1; have HB1 := Aside0.mk hg1; have HO1 := Aside0.mk hr1; have HN1 := Aside0.mk hn1; clear hg1 hr1 hn1)
      | ((with_reducible refine gate_builtin (b := .append) (xs := #[.tmp 5, .tmp 6]) rfl ?_); at_builtin; refine Stop.go ?_))
    constructor
    refine Kd.R_append_rows kSl (Rr := kSl.M w1 0 (fun k => ok k ∧ k < w.heap.size)) (w0 := w1) 0 rfl (.tmp 5) (.tmp 6) 55 60 (.agg #[.slice none 0 0, .bool false]) 32 rfl Try.underlying55 infoSl rfl (by decide) (by omega) v1 [] ys _ _ _ (fun k => ok k ∧ k < w.heap.size ∨ w.heap.size ≤ k) (fun k => ok k ∧ k < w.heap.size) rfl rfl ?aO ?aR ?aM ?ap ?aF (Below.refl _ _) (Nat.zero_le _) ?aL ?_
    (case aO => exact Kd.R_mono HO1.out (fun k hk => .inr hk))
    (case aR => exact ReadsRow.imp_ (R' := kSl.M w1 0 (fun k => ok k ∧ k < w.heap.size)) HR.out (of_grown_none HB1.out) (fun x cs hx => kSl.M_mono (fun k hk => ⟨hk.1, hk.2.2.1⟩) (kSl.M_bound hx) |> fun hx => Kd.M_below hx (of_grown_none HB1.out)))
    (case aM => exact fun _ _ h => h)
    (case ap => exact fun k hk => ⟨.inl hk, fun e => by obtain ⟨b, hb, hle⟩ := HN1.out; rw [hb] at e; injection e with e; omega⟩)
    (case aF => exact fun k hk => .inr (Nat.le_trans HB1.out.size hk))
    (case aL => have := HL.out; simp only [List.length_nil]; omega)
    intro v2 w2 hr2 _ hg2 hat2
    have HB2 := Aside0.mk hg2
    have HO2 := Aside0.mk hr2
    clear hg2 hr2 hat2
    go_wp2
    go_ret
    refine ⟨_, rfl, H3.out _ (Row kSl 60 _ _) ?_ ?_⟩
    · refine (Moved.of_below (of_grown_none HB1.out) ok).trans (Moved.of_grown (S := fun k => w.heap.size ≤ k) HB2.out (fun i hi _ => ?_)) (fun i hi h => absurd h (by omega))
      obtain ⟨b, hb, hle⟩ := HN1.out
      rw [hb] at hi
      injection hi with hi
      omega
    · refine Kd.R_mono (Kd.R_bound HO2.out) (fun k hk => ?_)
      rcases hk.1 with h | h
      · exact .inl h.1
      · exact .inr ⟨h, hk.2.2.1⟩
set_option maxHeartbeats 4000000 in
set_option maxRecDepth 100000 in
theorem spend_calls (hS : Sp w (PadP g p :: F)) (hok : p.Ok) (hoff : p.off = false) :
    Calls Try.prog 37 #[.pointer (some ⟨g, 0, none⟩)] w fun e w' => e = .returned (.bool p.spend.2) ∧ Sp w' (PadP g p.spend.1 :: F) := by
  obtain ⟨t, hS⟩ := PadP.open hS
  obtain ⟨A, c, hc, h0, h1, h2, h3, h4, hfz⟩ := cells_of hS
  clear hfz h0 h1 h2 h3 hc
  rcases ha : p.arm with _ | ⟨n, keep, torn⟩
  · rw [Pd.spend_none ha]
    rw [ha] at hS
    obtain ⟨rfl, hS1⟩ := TripP.none_ hS.s1
    have HS := Aside0.mk hS1
    have HA := Aside0.mk ha
    clear hS hS1 ha
    go_enter Try.func37, Try.ntmps37
    go_wp2
    go_ret
    refine ⟨rfl, PadP.shut (t := .pointer none) ?_⟩
    rw [HA.out]
    exact (TripP.none_mk HS.out).s1
  · obtain ⟨hn1, hn2, hk⟩ := hok.arm n keep torn ha
    rw [ha] at hS
    obtain ⟨b, vk, rfl, hS1⟩ := TripP.open hS.s1
    obtain ⟨Ak, ck, rfl, hck, _⟩ := hS1.tail.row
    have b0 := blk_cell hS1.blk 0
    have b1 := blk_cell hS1.blk 1
    have b2 := blk_cell hS1.blk 2
    have bf0 := blk_frozen hS1.blk 0
    replace b0 : w.cell? ⟨b, 0, none⟩ = some (.int .i64 n) := b0
    replace b1 : w.cell? ⟨b, 1, none⟩ = some (.slice Ak keep.length ck) := b1
    replace b2 : w.cell? ⟨b, 2, none⟩ = some (.int .i64 torn) := b2
    have hgb : g ≠ b := by
      obtain ⟨v, h⟩ := PadQ.open hS
      exact blk_ne h.blk hS1.blk (by decide)
    have hbg : (b == g) = false := by simpa using fun e => hgb e.symm
    have hw : wrap64 (n - 1) = n - 1 := by unfold wrap64; omega
    have HS := Aside0.mk hS1
    by_cases hn : n - 1 > 0
    · rw [Pd.spend_go ha hn]
      have hd : decide (1 < n) = true := decide_eq_true (by omega)
      have HN := Aside0.mk hn
      clear hS hS1 ha hn hn1 hn2 hk hck hok
      go_enter Try.func37, Try.ntmps37
      go_wp2
      go_ret
      refine ⟨rfl, PadP.shut (t := .pointer (some ⟨b, 0, none⟩)) ?_⟩
      have h5 := HS.out.store 0 (.int .i64 (n - 1))
      exact (TripP.shut h5).s1
    · rw [Pd.spend_crash ha hn]
      have hd : decide (1 < n) = false := decide_eq_false (by omega)
      have HN := Aside0.mk hn
      have HO := Aside0.mk hok
      have HOF := Aside0.mk hoff
      clear hS hS1 ha hn hn1 hn2 hk hck hok hoff
      go_enter Try.func37, Try.ntmps37
      go_wp2
      refine wp_region_still_tail 15 (by kernel_rfl) (by kernel_rfl) ?_
      simp only [List.take_succ_cons, List.take_zero, List.drop_succ_cons, List.drop_zero]
      rw [drew_eta]
      repeat still_step
      refine wpStill_nil ?_
      go_wp2_with ((with_reducible refine gate_callee (f := 14) rfl ?_); refine Stop.go ?_)
      constructor
      have h5 := (HS.out.store 0 (.int .i64 (n - 1))).drew
      have h6 : Sp _ (PadQ g p (.pointer (some ⟨b, 0, none⟩)) :: Row Kd.bool 4 (.slice Ak keep.length ck) keep :: F) := h5.tail.s1
      have H6 := Aside0.mk h6
      clear h5 h6
      refine goesL_ (some 41) rfl rfl Try.func14 (by kernel_rfl) rfl #[.pointer (some ⟨g, 0, none⟩), .slice Ak keep.length ck, .int .i64 torn] rfl (by first | rfl | (go_simp; done)) ?_
      refine (crash_on Ak ck keep torn HOF.out HO.out H6.out (fun _ _ h => (Kd.R_reads' h).2.2)).mono ?_
      rintro e w' ⟨⟨v, rfl⟩, h7⟩
      refine ⟨_, rfl, ?_⟩
      have H7 := Aside0.mk h7
      clear h7
      go_wp2
      go_ret
      refine ⟨rfl, PadP.shut (t := .pointer none) ?_⟩
      have h8 := H7.out.s1.tail
      show Sp w' (PadQ g (Pd.crash _ keep torn) (.pointer none) :: TripP (.pointer none) (Pd.crash _ keep torn).arm :: F)
      rw [Pd.crash_arm p HOF.out]
      have h9 : (p.crash keep torn).arm = none := by rw [Pd.crash_on p HOF.out]
      rw [h9]
      exact (TripP.none_mk h8).s1
end
end Go.Proofs.Ytjpaaicgkdnalaa.Pads
