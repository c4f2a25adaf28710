/-
  PadExact, as the machine walks it.
  Conditions: none.
-/
import Derived.Test.YtjpaaicgkdnalaaPadSpoil
import Derived.Test.YtjpaaicgkdnalaaRefD
import Derived.Deep.RegionWith
import Derived.Deep.CutBlock
import Derived.Deep.DeepCutAuto
namespace Go.Proofs.Ytjpaaicgkdnalaa.Pads
open Go.RowKit Go.Proofs.YtjpaaicgkdnalaaW.PrintWords Go.Proofs.YtjpaaicgkdnalaaW.PrintLast Go.Proofs.YtjpaaicgkdnalaaW.PrintMore Go.Proofs.Ytjpaaicgkdnalaa.Sep PAll
set_option linter.unusedVariables false
set_option linter.unusedSimpArgs false
/-- The page's pad when it is new. -/
theorem rnew {w : World} {F : List Part} (h : Sp w F) : Sp (w.alloc (.cells #[.slice none 0 0, .int .i64 0, .bool false, .int .i64 0, .int .i64 0, .slice none 0 0, .int .i64 0] 51)) (RefP w.heap.size Pd.new :: F) := by
  have h1 := ((h.nilRow Kd.bool 4).nilQ kSl 66).box (.cells #[.slice none 0 0, .int .i64 0, .bool false, .int .i64 0, .int .i64 0, .slice none 0 0, .int .i64 0] 51)
  exact RefP.shut (p := Pd.new) (Armed.zero [] 0) (RefC.shut (raw := []) rfl h1)
set_option maxHeartbeats 8000000 in
set_option maxRecDepth 100000 in
theorem exact_law (A2 : Option Addr) (c2 : Nat) (l : List S41) (w : World)
    (hwf : l.length ≤ maxLen ∧ ∀ x ∈ l, (Lit.int .i64 x.f0).wf = true ∧ (Lit.int .i64 x.f1).wf = true ∧ (x.f2.length ≤ maxLen ∧ ∀ y ∈ x.f2, (Lit.int .u8 y).wf = true) ∧ (x.f3.length ≤ maxLen ∧ ∀ y ∈ x.f3, True) ∧ (Lit.int .i64 x.f4).wf = true)
    (hr2 : Kd.C k41 w A2 l.length l) (hc2 : l.length ≤ c2) :
    Calls Try.prog 8 #[.slice A2 l.length c2] w fun e w' => e = .returned (.bool true) ∧ Below w.heap.size w w' := by
  have HS := Aside0.mk (Sp.start w)
  have HR2 := Aside0.mk hr2
  have HC2 := Aside0.mk hc2
  have HWF := Aside0.mk hwf
  obtain ⟨r, hh, hh2⟩ := heavy_ok l
  have HH := Aside0.mk hh
  have HH2 := Aside0.mk hh2
  clear hr2 hwf hh hh2 hc2
  cases r
  case true =>
    go_enter Try.func8, Try.ntmps8
    go_wp2_with (go_at_call 21; refine (raddlelaw09_Heavy.calls 122 A2 c2 l true w HR2.out HC2.out HH.out).mono ?_; rintro e w1 ⟨rfl, ⟨m, rfl⟩⟩)
    go_ret
    exact ⟨rfl, pw_below_drewN (Below.refl _ _) _⟩
  go_enter Try.func8, Try.ntmps8
  go_wp2_with (first
    | (go_at_call 21; refine (raddlelaw09_Heavy.calls 122 A2 c2 l false w HR2.out HC2.out HH.out).mono ?_; rintro e w1 ⟨rfl, ⟨m, rfl⟩⟩; have H0 := Aside0.mk (HS.out.drewN m))
    | (go_at_call 11; refine (new_calls H0.out).mono ?_; rintro e w2 ⟨ga, rfl, h1⟩; have H1 := Aside0.mk (rnew h1); clear h1 H0))
  go_loopg [5] 60 (fun kq v5 w' => ∃ (i : Nat) (q : Pd), v5 = .int .i64 (i : Int) ∧ Aside0 (i + kq = 60) ∧ Aside0 q.Ok ∧ Aside0 (Sp w' [RefP w2.heap.size q, PadP ga q, Old w]))
  case atStart => exact ⟨0, _, rfl, ⟨by omega⟩, ⟨Pd.new_ok⟩, H1⟩
  case round =>
    obtain ⟨i, q, rfl, HK, HQ, HP⟩ := hrel
    clear H1
    generalize w2.heap.size = gr at *
    have hi1 : (i : Int) ≤ 60 := by have := HK.out; omega
    by_cases hlt : i < l.length ∧ i < 60
    case neg =>
      have hex : (∃ b : Bool, decide (i < l.length) = b ∧ (b = true → decide ((i : Int) < 60) = false)) := by
        by_cases h1 : i < l.length
        · exact ⟨true, decide_eq_true h1, fun _ => decide_eq_false (by omega)⟩
        · exact ⟨false, decide_eq_false h1, fun e => by cases e⟩
      obtain ⟨b, hc4, hc5⟩ := hex
      clear hlt
      cases b
      case' true => replace hc5 := hc5 rfl
      case' false => clear hc5
      all_goals
        clear HQ HK hi1
        go_wp2_with (go_at_call 20; refine (wakes_calls HP.out).mono ?_; rintro e w4 ⟨rfl, h4⟩; have H4 := Aside0.mk h4; clear h4)
        go_ret
        exact ⟨rfl, H4.out.s2.old⟩
    case pos =>
      obtain ⟨hlt1, hlt2⟩ := hlt
      have hc4 : decide (i < l.length) = true := decide_eq_true hlt1
      have hc5 : decide (i < 60) = true := decide_eq_true hlt2
      have hc6 : decide ((i : Int) < 60) = true := decide_eq_true (by omega)
      cases gk with
      | zero => exact absurd HK.out (by omega)
      | succ k1 =>
      have HLT1 := Aside0.mk hlt1
      obtain ⟨ad, B2, d2, B3, d3, e0, hx0, hx1, hx2, hx3, hx4, hl2, hC2, hl3, hC3⟩ := at_T41 HR2.out (i : Int) (by omega) (by omega)
      cases e0
      have hB := HP.out.s2.old
      replace hx0 := pw_cell_below hB hx0
      replace hx1 := pw_cell_below hB hx1
      replace hx2 := pw_cell_below hB hx2
      replace hx3 := pw_cell_below hB hx3
      replace hx4 := pw_cell_below hB hx4
      have HBW := Aside0.mk hB
      clear hB
      have HLI := Aside0.mk ((HH2.out trivial).2 i (Nat.zero_le _) hlt1 hlt2)
      have hmem : rd_T41 l (i : Int) ∈ l := by
        unfold rd_T41
        rw [Int.toNat_natCast, List.getD_eq_getElem?_getD, List.getElem?_eq_getElem hlt1]
        exact List.getElem_mem _
      have HN := Aside0.mk (lit_le (HWF.out.2 _ hmem).2.1)
      generalize hea : rd_T41 l (i : Int) = a at *
      have HL2 := Aside0.mk hl2
      have HC2b := Aside0.mk hC2
      have HL3 := Aside0.mk hl3
      have HC3b := Aside0.mk hC3
      simp only [Int.toNat_natCast] at hx0 hx1 hx2 hx3 hx4
      have hp0 : (0 ≤ (i : Int)) = True := eq_true (by omega)
      have hp1 : ((i : Int) < (l.length : Int)) = True := eq_true (by omega)
      have HX := Aside0.mk ((HP.out.box (.cells #[.int .i64 a.f0, .int .i64 a.f1, .slice B2 a.f2.length d2, .slice B3 a.f3.length d3, .int .i64 a.f4] 41 (0, 0))).nilRow Kd.bool 4)
      clear hlt1 hlt2 hl2 hC2 hl3 hC3 hmem hea HP
      go_upto_block 2 with ((with_reducible refine gate_builtin (b := .append) (xs := #[.tmp 37, .tmp 39]) rfl ?_); at_builtin; refine Sp.appendRow Kd.bool rfl (.tmp 37) (.tmp 39) 22 4 (.bool false) 1 rfl Try.underlying22 (by kernel_rfl) rfl (by decide) (by omega) (.slice none 0 0) ([] : List Bool) a.f3 B3 a.f3.length d3 rfl rfl (fun _ _ h => h) HX.out (Kd.C_alloc (Kd.C_below HC3b.out HBW.out) _) (by have := HLI.out.2; simp only [List.length_nil]; omega) ?_; intro v1 w1 h1; obtain ⟨A1', c1', rfl, _, _⟩ := h1.row; have H1 := Aside0.mk (show Sp w1 (Row Kd.bool 4 (.slice A1' a.f3.length c1') a.f3 :: _) from h1); have hk := h1.s1.blk; have hy0 : w1.cell? ⟨wr.heap.size, 0, none⟩ = some (.int .i64 a.f0) := blk_cell hk 0; have hy1 : w1.cell? ⟨wr.heap.size, 1, none⟩ = some (.int .i64 a.f1) := blk_cell hk 1; have hy2 : w1.cell? ⟨wr.heap.size, 2, none⟩ = some (.slice B2 a.f2.length d2) := blk_cell hk 2; have hy3 : w1.cell? ⟨wr.heap.size, 3, none⟩ = some (.slice B3 a.f3.length d3) := blk_cell hk 3; have hy4 : w1.cell? ⟨wr.heap.size, 4, none⟩ = some (.int .i64 a.f4) := blk_cell hk 4; clear h1 hk hx0 hx1 hx2 hx3 hx4)
      go_cut [8, 9] from 41 to 128 (fun v8 v9 wc => v8 = .bool true ∧ ∃ q2 : Pd, Aside0 q2.Ok ∧ Aside0 (Sp wc [Row Kd.bool 4 (.slice A1' a.f3.length c1') a.f3, Blk wr.heap.size (.cells #[.int .i64 a.f0, .int .i64 a.f1, .slice B2 a.f2.length d2, .slice B3 a.f3.length d3, .int .i64 a.f4] 41 (0, 0)), RefP gr q2, PadP ga q2, Old w]))
      case first =>
        have H3 := Aside0.mk H1.out.s3
        clear H1 HX HK
        obtain ⟨s, hs, hes⟩ := mod9 a.f0
        have hd3 : ((IntKind.u64.wrap a.f0).tmod 9 == 3) = decide (s = 3) := by rw [hes]; by_cases h : s = 3 <;> simp [h] <;> omega
        have hd4 : ((IntKind.u64.wrap a.f0).tmod 9 == 4) = decide (s = 4) := by rw [hes]; by_cases h : s = 4 <;> simp [h] <;> omega
        have hd5 : ((IntKind.u64.wrap a.f0).tmod 9 == 5) = decide (s = 5) := by rw [hes]; by_cases h : s = 5 <;> simp [h] <;> omega
        have hd6 : ((IntKind.u64.wrap a.f0).tmod 9 == 6) = decide (s = 6) := by rw [hes]; by_cases h : s = 6 <;> simp [h] <;> omega
        have hd7 : ((IntKind.u64.wrap a.f0).tmod 9 == 7) = decide (s = 7) := by rw [hes]; by_cases h : s = 7 <;> simp [h] <;> omega
        have hd8 : ((IntKind.u64.wrap a.f0).tmod 9 == 8) = decide (s = 8) := by rw [hes]; by_cases h : s = 8 <;> simp [h] <;> omega
        clear hes
        by_cases h4 : s = 4
        case pos =>
          subst h4
          replace hd3 := hd3.trans (decide_eq_false (by decide))
          replace hd4 := hd4.trans (decide_eq_true rfl)
          clear hd5 hd6 hd7 hd8 hs
          go_wp2_with (fail)
          go_region_with (first
            | (go_at_call 25; refine (trim_to (q := (q.trim a.f1).1) (x := (q.trim a.f1).2) H3.out.drew HQ.out a.f1 rfl).mono ?_; rintro e w4 ⟨rfl, h4⟩; have hk := h4.s2.blk; have hz1 : w4.cell? ⟨wr.heap.size, 1, none⟩ = some (.int .i64 a.f1) := blk_cell hk 1; have H4 := Aside0.mk h4.s3; clear h4 H3 hk)
            | (go_at_call 28; refine (rtrim_calls H4.out HQ.out a.f1).mono ?_; rintro e w5 ⟨rfl, h5⟩; have HF := Aside0.mk h5.s3.s3; have HQN := Aside0.mk (Pd.trim_ok HQ.out a.f1); clear h5 H4))
          all_goals go_wp2_with (fail)
          all_goals go_meet
          all_goals exact ⟨rfl, _, HQN, HF⟩
        by_cases h5 : s = 5
        case pos =>
          subst h5
          replace hd3 := hd3.trans (decide_eq_false (by decide))
          replace hd4 := hd4.trans (decide_eq_false (by decide))
          replace hd5 := hd5.trans (decide_eq_true rfl)
          clear hd6 hd7 hd8 hs
          go_wp2_with (fail)
          go_region_with (first
            | (go_at_call 26; refine (cut_to (q := (q.cut a.f1).1) (x := (q.cut a.f1).2) H3.out.drew HQ.out a.f1 rfl).mono ?_; rintro e w4 ⟨rfl, h4⟩; have hk := h4.s2.blk; have hz1 : w4.cell? ⟨wr.heap.size, 1, none⟩ = some (.int .i64 a.f1) := blk_cell hk 1; have H4 := Aside0.mk h4.s3; clear h4 H3 hk)
            | (go_at_call 29; refine (rcut_calls H4.out HQ.out a.f1).mono ?_; rintro e w5 ⟨rfl, h5⟩; have HF := Aside0.mk h5.s3.s3; have HQN := Aside0.mk (Pd.cut_ok HQ.out a.f1); clear h5 H4))
          all_goals go_wp2_with (fail)
          all_goals go_meet
          all_goals exact ⟨rfl, _, HQN, HF⟩
        replace hd4 := hd4.trans (decide_eq_false h4)
        replace hd5 := hd5.trans (decide_eq_false h5)
        by_cases hdf : s < 3
        case pos =>
          replace hd3 := hd3.trans (decide_eq_false (by omega))
          replace hd6 := hd6.trans (decide_eq_false (by omega))
          replace hd7 := hd7.trans (decide_eq_false (by omega))
          replace hd8 := hd8.trans (decide_eq_false (by omega))
          clear h4 h5 hs hdf
          have hself : ((q.append a.f2).2 == (q.append a.f2).2) = true := beq_self_eq_true _
          go_wp2_with (go_at_call 33; refine (PAll.raddlekeep_Twin.calls B2 d2 a.f2 a.f2 _ (Kd.C_below HC2b.out H3.out.s4.old) HL2.out (by unfold PAll.raddlekeep_Twin.f; rw [if_pos (by have := HLI.out.1; simp only [List.length_nil]; omega), List.nil_append])).mono ?_; rintro e w4 ⟨v4, rfl, hr4, hb4⟩; obtain ⟨A5, d5, rfl⟩ := Kd.R_slice hr4; have h5 := Sp.made H3.out hb4 hr4; have hk := h5.s3.blk; have hz2 : w4.cell? ⟨wr.heap.size, 2, none⟩ = some (.slice B2 a.f2.length d2) := blk_cell hk 2; have H5 := Aside0.mk h5; clear h5 H3 hr4 hb4 hk)
          go_region_with (first
            | (go_at_call 13; refine (append_to (q := (q.append a.f2).1) (x := (q.append a.f2).2) H5.out.drew.s1 HQ.out A5 d5 a.f2 (row_C H5.out).2.1 (by have := HLI.out.1; omega) (row_C H5.out.drew).2.2 rfl).mono ?_; rintro e w5 ⟨rfl, h4⟩; have hk := h4.s3.blk; have hz5 : w5.cell? ⟨wr.heap.size, 2, none⟩ = some (.slice B2 a.f2.length d2) := blk_cell hk 2; have H4 := Aside0.mk h4.s4; clear h4 H5 hk)
            | (go_at_call 34; refine (rappend_calls H4.out HQ.out B2 d2 a.f2 HL2.out (by have := HLI.out.1; omega) (Kd.C_below HC2b.out H4.out.s5.old)).mono ?_; rintro e w6 ⟨rfl, h5⟩; have hk := h5.s4.blk; have hz6 : w6.cell? ⟨wr.heap.size, 2, none⟩ = some (.slice B2 a.f2.length d2) := blk_cell hk 2; have H6 := Aside0.mk h5.s2; have HQN := Aside0.mk (Pd.append_ok HQ.out a.f2); clear h5 H4 hk)
            | (go_at_call 19; refine (PAll.raddlekeep_Bytes.calls 400 _ _ a.f2 _ _ a.f2 true _ (row_C H6.out).2.2 (row_C H6.out).2.1 (Kd.C_below HC2b.out H6.out.s5.old) HL2.out (by have := HLI.out.1; rw [Keep.same_eq 400 _ _ (by omega) (by omega)]; simp)).mono ?_; rintro e w7 ⟨rfl, ⟨nd, rfl⟩⟩; have H7 := Aside0.mk (H6.out.drewN nd); clear H6))
          all_goals go_wp2_with (go_at_call 35; refine (spoil_calls H7.out (by have := HLI.out.1; omega)).mono ?_; rintro e w8 ⟨rfl, h8⟩; have HF := Aside0.mk h8.s3.s3; clear h8 H7)
          all_goals go_meet
          all_goals exact ⟨rfl, _, HQN, HF⟩
        case neg =>
        have hex : (s = 3 ∨ s = 6) ∨ (s = 7 ∨ s = 8) := by omega
        clear h4 h5 hdf hs
        rcases hex with (rfl | rfl) | (rfl | rfl)
        case' inl.inl => replace hd3 := hd3.trans (decide_eq_true rfl)
        case' inl.inr =>
          replace hd3 := hd3.trans (decide_eq_false (by decide))
          replace hd6 := hd6.trans (decide_eq_true rfl)
        case' inr.inl =>
          replace hd3 := hd3.trans (decide_eq_false (by decide))
          replace hd6 := hd6.trans (decide_eq_false (by decide))
          replace hd7 := hd7.trans (decide_eq_true rfl)
        case' inr.inr =>
          replace hd3 := hd3.trans (decide_eq_false (by decide))
          replace hd6 := hd6.trans (decide_eq_false (by decide))
          replace hd7 := hd7.trans (decide_eq_false (by decide))
          replace hd8 := hd8.trans (decide_eq_true rfl)
        all_goals go_wp2_with (first
          | (go_at_call 12; refine (sync_to (q := q.sync.1) (x := q.sync.2) H3.out HQ.out rfl).mono ?_; rintro e w4 ⟨rfl, h4⟩; have H4 := Aside0.mk h4.s3; clear h4 H3)
          | (go_at_call 27; refine (rsync_calls H4.out HQ.out).mono ?_; rintro e w5 ⟨rfl, h5⟩; have HF := Aside0.mk h5.s3.s3; have HQN := Aside0.mk (Pd.sync_ok HQ.out); clear h5 H4)
          | (go_at_call 14; refine (crash_to (K := Row Kd.bool 4 (.slice A1' a.f3.length c1') a.f3) H3.out HQ.out A1' c1' a.f3 a.f4 (fun _ _ h => (Kd.R_reads' h).2.2) rfl).mono ?_; rintro e w4 ⟨⟨v, rfl⟩, h4⟩; have hk := h4.s2.blk; have hz3 : w4.cell? ⟨wr.heap.size, 3, none⟩ = some (.slice B3 a.f3.length d3) := blk_cell hk 3; have hz4 : w4.cell? ⟨wr.heap.size, 4, none⟩ = some (.int .i64 a.f4) := blk_cell hk 4; have H4 := Aside0.mk h4.s3.s4.s1; clear h4 H3 hk)
          | (go_at_call 30; refine (rcrash_calls (K := Old w) H4.out HQ.out B3 d3 a.f3 a.f4 (fun w' ok h => Kd.C_below HC3b.out h.2)).mono ?_; rintro e w5 ⟨⟨v5, rfl⟩, h5⟩; have HF := Aside0.mk h5.s2.s1.s4.s4; have HQN := Aside0.mk (Pd.crash_ok HQ.out a.f3 a.f4); clear h5 H4)
          | (go_at_call 16; refine (start_calls H3.out).mono ?_; rintro e w4 ⟨⟨v, rfl⟩, h4⟩; have H4 := Aside0.mk h4.s3; clear h4 H3)
          | (go_at_call 31; refine (rstart_calls H4.out).mono ?_; rintro e w5 ⟨⟨v5, rfl⟩, h5⟩; have HF := Aside0.mk h5.s3.s3; have HQN := Aside0.mk (Pd.start_ok HQ.out); clear h5 H4)
          | (go_at_call 22; refine (trip_calls (K := Row Kd.bool 4 (.slice A1' a.f3.length c1') a.f3) H3.out a.f1 A1' c1' a.f3 a.f4 (row_C H3.out.s1).2.1 (by have := HLI.out.2; omega) (fun _ _ h => (Kd.R_reads' h).2.2)).mono ?_; rintro e w4 ⟨⟨v, rfl⟩, h4⟩; have hk := h4.s2.blk; have hz1 : w4.cell? ⟨wr.heap.size, 1, none⟩ = some (.int .i64 a.f1) := blk_cell hk 1; have hz3 : w4.cell? ⟨wr.heap.size, 3, none⟩ = some (.slice B3 a.f3.length d3) := blk_cell hk 3; have hz4 : w4.cell? ⟨wr.heap.size, 4, none⟩ = some (.int .i64 a.f4) := blk_cell hk 4; have H4 := Aside0.mk h4.s3.s4.s1; clear h4 H3 hk)
          | (go_at_call 32; refine (rtrip_calls (K := Old w) H4.out a.f1 B3 d3 a.f3 a.f4 HL3.out (by have := HLI.out.2; omega) (fun w' ok h => Kd.C_below HC3b.out h.2)).mono ?_; rintro e w5 ⟨⟨v5, rfl⟩, h5⟩; have HF := Aside0.mk h5.s2.s1.s4.s4; have HQN := Aside0.mk (Pd.trip_ok HQ.out a.f1 a.f3 a.f4 HN.out (by have := HLI.out.2; omega)); clear h5 H4))
        all_goals go_meet
        all_goals exact ⟨rfl, _, HQN, HF⟩
      case rest =>
        obtain ⟨rfl, q2, HQ2, HP2⟩ := hcut
        generalize wr.heap.size = gx at *
        clear HQ H1 HX hy0 hy1 hy2 hy3 hy4 HBW
        go_wp2_with (fail)
        go_loopg [10] a.f3.length (fun kq v10 w' => ∃ k : Nat, v10 = .int .i64 (k : Int) ∧ Aside0 (k + kq = a.f3.length) ∧ Aside0 (Sp w' [Row Kd.bool 4 (.slice A1' a.f3.length c1') (flips a.f3 k), Blk gx (.cells #[.int .i64 a.f0, .int .i64 a.f1, .slice B2 a.f2.length d2, .slice B3 a.f3.length d3, .int .i64 a.f4] 41 (0, 0)), RefP gr q2, PadP ga q2, Old w]))
        case atStart => exact ⟨0, rfl, ⟨by omega⟩, HP2⟩
        case round =>
          obtain ⟨k, rfl, HK3, HP3⟩ := hrel
          clear HP2
          have hk300 : (k : Int) ≤ 300 := by have := HK3.out; have := HLI.out.2; omega
          by_cases hkl : k < a.f3.length
          case pos =>
            have hk1 : decide (k < a.f3.length) = true := decide_eq_true hkl
            have hfl := flips_length a.f3 k (Nat.le_of_lt hkl)
            obtain ⟨gb, cap, hv⟩ := (HP3.out.has).elim fun _ h => row_form h (by rw [hfl]; omega)
            injection hv with hv1 hv2 hv3
            subst hv1; subst hv3
            clear hv2
            obtain ⟨ck, hcl, hcc, hcf, hK⟩ := Sp.elem HP3.out false k hkl
            rw [flips_get _ _ hkl] at hK
            obtain rfl : ck = [.bool (a.f3.getD k false)] := hK
            have hc0 : wr.cell? ⟨gb, k, none⟩ = some (.bool (a.f3.getD k false)) := by have := hcc 0 _ rfl; simpa [Kd.bool, Kd.scalar] using this
            have hf0 : wr.frozen? ⟨gb, k, none⟩ = false := by have := hcf 0; simpa [Kd.bool, Kd.scalar] using this
            have hy3 : wr.cell? ⟨gx, 3, none⟩ = some (.slice B3 a.f3.length d3) := blk_cell HP3.out.s1.blk 3
            obtain ⟨ad3, e3, hck⟩ := Kd.at_bool HC3b.out (k : Int) (by omega) (by omega)
            have HB3 := Aside0.mk (show B3 = some ad3 from e3)
            subst e3
            rw [Int.toNat_natCast, show rdOf false a.f3 (k : Int) = a.f3.getD k false from rfl] at hck
            replace hck := pw_cell_below HP3.out.s4.old hck
            have hset := Sp.setElem HP3.out k hkl (!(a.f3.getD k false)) [.bool (!(a.f3.getD k false))] rfl
            rw [flips_succ _ _ hkl] at hset
            have HSET := Aside0.mk hset
            have hq1 : (0 ≤ (k : Int)) = True := eq_true (by omega)
            have hq2 : ((k : Int) < (a.f3.length : Int)) = True := eq_true (by omega)
            generalize a.f3.getD k false = bk at *
            clear hcc hcf hcl hset hkl hfl
            cases gk with
            | zero => exact absurd (of_decide_eq_true hk1) (by have := HK3.out; omega)
            | succ k3 =>
            go_wp2_with (fail)
            go_quiet (fail)
            go_wp2_with (fail)
            go_roundg k3
            case measure => exact Nat.lt_succ_self _
            case rel =>
              refine ⟨k + 1, by first | rfl | simp, ⟨by have := HK3.out; omega⟩, ⟨?_⟩⟩
              have h9 := HSET.out
              simp only [Kd.bool, Kd.scalar, Nat.mul_one] at h9
              exact h9.drewN _
          case neg =>
            have hk1 : decide (k < a.f3.length) = false := decide_eq_false hkl
            clear hkl
            go_wp2_with (fail)
            obtain ⟨arm, keep, torn, vk, ha, hR⟩ := RefP.open HP3.out.s2
            obtain ⟨AR, cR, hcR, r0, r1, r2, r3, r4, r5, r6, hfR⟩ := cells_R hR
            clear hcR r4 r5 r6 hfR hR ha
            go_quiet (first
              | (go_at_call 17; exact Calls.quiet_of_same ((len_calls (HP3.out.s3.drewN _)).mono (fun _ _ h => ⟨h.1, h.2.symm⟩)))
              | (go_at_call 18; exact Calls.quiet_of_same ((safe_calls (HP3.out.s3.drewN _)).mono (fun _ _ h => ⟨h.1, h.2.symm⟩)))
              | (go_at_call 24; exact Calls.quiet_of_same ((off_calls (HP3.out.s3.drewN _)).mono (fun _ _ h => ⟨h.1, h.2.symm⟩)))
              | (go_at_call 23; exact Calls.quiet_of_same ((life_calls (HP3.out.s3.drewN _)).mono (fun _ _ h => ⟨h.1, h.2.symm⟩))))
            go_wp2_with (fail)
            clear r0 r1 r2 r3 hk1
            have HP5 := Aside0.mk ((HP3.out.tail.tail).drewN nq)
            have hn4 := HQ2.out.len
            clear HP3
            go_loopg [11] (q2.slots.length + 2) (fun kq v11 w' => ∃ j : Nat, v11 = .int .i64 ((j : Int) - 1) ∧ Aside0 (j + kq = q2.slots.length + 2) ∧ Aside0 (Sp w' [RefP gr q2, PadP ga q2, Old w]))
            case atStart => exact ⟨0, rfl, ⟨by omega⟩, HP5⟩
            case round =>
              obtain ⟨j, rfl, HK6, HP6⟩ := hrel
              clear HP5
              have hj4 : (j : Int) ≤ 4002 := by have := HK6.out; omega
              by_cases hjl : j < q2.slots.length + 2
              case pos =>
                have hd1 : decide ((j : Int) - 1 ≤ (q2.slots.length : Int)) = true := decide_eq_true (by omega)
                have hrl : (q2.read ((j : Int) - 1)).1.length ≤ 65536 := by
                  unfold Pd.read
                  split
                  · simp
                  · split
                    · simp
                    · split
                      · simp
                      · rename_i h1 h2 h3
                        rw [List.getD_eq_getElem?_getD, List.getElem?_eq_getElem (by omega)]
                        exact HQ2.out.bytes _ (List.getElem_mem _)
                have HRL := Aside0.mk hrl
                generalize hre : q2.read ((j : Int) - 1) = re at *
                obtain ⟨rb, rx⟩ := re
                have HRE := Aside0.mk hre
                clear hjl hrl hre
                cases gk with
                | zero => exact absurd (of_decide_eq_true hd1) (by have := HK6.out; omega)
                | succ k6 =>
                go_wp2_with (first
                  | (go_at_call 17; refine (len_calls HP6.out.s1).mono ?_; rintro e w5 ⟨rfl, rfl⟩)
                  | (go_at_call 15; refine (read_to HP6.out.s1 HQ2.out ((j : Int) - 1) HRE.out).mono ?_; rintro e w5 ⟨v5, rfl, h5⟩; obtain ⟨A5, d5, rfl⟩ : ∃ A c, v5 = .slice A rb.length c := (h5.row).elim fun A h => h.elim fun c h => ⟨A, c, h.1⟩; have H5 := Aside0.mk h5; clear h5 HP6)
                  | (go_at_call 36; have h6 := rread_calls H5.out.s2 HQ2.out ((j : Int) - 1); rw [HRE.out] at h6; refine h6.mono ?_; clear h6; rintro e w6 ⟨v6, rfl, h6⟩; obtain ⟨A6, d6, rfl⟩ : ∃ A c, v6 = .slice A rb.length c := (h6.row).elim fun A h => h.elim fun c h => ⟨A, c, h.1⟩; have H6 := Aside0.mk h6; clear h6 H5)
                  | (go_at_call 19; refine (PAll.raddlekeep_Bytes.calls 70000 _ _ rb _ _ rb true _ (row_C H6.out.s2).2.2 (row_C H6.out.s2).2.1 (row_C H6.out).2.2 (row_C H6.out).2.1 (by have := HRL.out; rw [Keep.same_eq 70000 _ _ (by omega) (by omega)]; simp)).mono ?_; rintro e w7 ⟨rfl, ⟨nd, rfl⟩⟩; have H7 := Aside0.mk ((H6.out).drewN nd); clear H6)
                  | (go_at_call 35; refine (spoil_calls H7.out.s2 (by have := HRL.out; omega)).mono ?_; rintro e w8 ⟨rfl, h8⟩; have H8 := Aside0.mk h8; clear h8 H7))
                go_roundg k6
                case measure => exact Nat.lt_succ_self _
                case rel => exact ⟨j + 1, by first | rfl | (simp; done) | (simp <;> omega), ⟨by have := HK6.out; omega⟩, ⟨H8.out.tail⟩⟩
              case neg =>
                have hd1 : decide ((j : Int) - 1 ≤ (q2.slots.length : Int)) = false := decide_eq_false (by omega)
                clear hjl
                go_wp2_with (go_at_call 17; refine (len_calls HP6.out.s1).mono ?_; rintro e w5 ⟨rfl, rfl⟩)
                go_roundg k1
                case measure => exact Nat.lt_succ_self _
                case rel => exact ⟨i + 1, q2, by first | rfl | simp, ⟨by have := HK.out; omega⟩, HQ2, HP6⟩
end Go.Proofs.Ytjpaaicgkdnalaa.Pads
