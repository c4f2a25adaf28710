/-
  PadTwo, as the machine walks it.
  Conditions: none.
-/
import Derived.Test.YtjpaaicgkdnalaaPadActs
import Derived.StillTailTactics
namespace Go.Proofs.Ytjpaaicgkdnalaa.Pads
open Go.RowKit Go.Proofs.YtjpaaicgkdnalaaW.PrintWords Go.Proofs.YtjpaaicgkdnalaaW.PrintLast Go.Proofs.YtjpaaicgkdnalaaW.PrintMore Go.Proofs.Ytjpaaicgkdnalaa.Sep PAll
set_option linter.unusedVariables false
set_option linter.unusedSimpArgs false
set_option maxHeartbeats 8000000 in
set_option maxRecDepth 100000 in
theorem two_law (A1 : Option Addr) (c1 : Nat) (rows : List (List Int)) (A2 : Option Addr) (c2 : Nat) (l : List S41) (w : World) (_ : rows.length ≤ maxLen ∧ ∀ x ∈ rows, x.length ≤ maxLen ∧ ∀ y ∈ x, (Lit.int .u8 y).wf = true)
    (hwf : l.length ≤ maxLen ∧ ∀ x ∈ l, (Lit.int .i64 x.f0).wf = true ∧ (Lit.int .i64 x.f1).wf = true ∧ (x.f2.length ≤ maxLen ∧ ∀ y ∈ x.f2, (Lit.int .u8 y).wf = true) ∧ (x.f3.length ≤ maxLen ∧ ∀ y ∈ x.f3, True) ∧ (Lit.int .i64 x.f4).wf = true)
    (hr1 : Kd.C (Kd.slice 5 (Kd.int .u8)) w A1 rows.length rows) (hc1 : rows.length ≤ c1) (hr2 : Kd.C k41 w A2 l.length l) (hc2 : l.length ≤ c2) :
    Calls Try.prog 10 #[.slice A1 rows.length c1, .slice A2 l.length c2] w fun e w' => e = .returned (.bool true) ∧ Below w.heap.size w w' := by
  have HS := Aside0.mk (Sp.start w)
  have HR1 := Aside0.mk hr1
  have HR2 := Aside0.mk hr2
  have HC2 := Aside0.mk hc2
  have HWF := Aside0.mk hwf
  obtain ⟨r, hh, hh2⟩ := heavy_ok l
  have HH := Aside0.mk hh
  have HH2 := Aside0.mk hh2
  clear hr1 hr2 hwf hh hh2 hc2
  cases r
  case true =>
    go_enter Try.func10, Try.ntmps10
    go_wp2_with (go_at_call 21; refine (raddlelaw09_Heavy.calls 122 A2 c2 l true w HR2.out HC2.out HH.out).mono ?_; rintro e w1 ⟨rfl, ⟨m, rfl⟩⟩)
    go_ret
    exact ⟨rfl, pw_below_drewN (Below.refl _ _) _⟩
  by_cases hr20 : rows.length ≤ 20
  case neg =>
    have hb0 : decide (20 < rows.length) = true := decide_eq_true (by omega)
    have hb1 : decide ((20 : Int) < (rows.length : Int)) = true := decide_eq_true (by omega)
    go_enter Try.func10, Try.ntmps10
    go_wp2_with (go_at_call 21; refine (raddlelaw09_Heavy.calls 122 A2 c2 l false w HR2.out HC2.out HH.out).mono ?_; rintro e w1 ⟨rfl, ⟨m, rfl⟩⟩)
    go_ret
    exact ⟨rfl, pw_below_drewN (Below.refl _ _) _⟩
  have hb0 : decide (20 < rows.length) = false := decide_eq_false (by omega)
  have hb1 : decide ((20 : Int) < (rows.length : Int)) = false := decide_eq_false (by omega)
  have HR20 := Aside0.mk hr20
  clear hr20
  go_enter Try.func10, Try.ntmps10
  go_wp2_with (first
    | (go_at_call 21; refine (raddlelaw09_Heavy.calls 122 A2 c2 l false w HR2.out HC2.out HH.out).mono ?_; rintro e w1 ⟨rfl, ⟨m, rfl⟩⟩; have H0 := Aside0.mk (HS.out.drewN m))
    | (go_at_call 11; refine (new_calls H0.out).mono ?_; rintro e w2 ⟨ga, rfl, h1⟩; have H1 := Aside0.mk h1; clear h1 H0)
    | (go_at_call 11; refine (new_calls H1.out).mono ?_; rintro e w3 ⟨gb, rfl, h2⟩; have H2 := Aside0.mk (show Sp w3 [PadP gb Pd.new, PadP ga ⟨rws rows 0, 0, false, 0, none⟩, Old w] from h2); clear h2 H1))
  clear hb0 hb1
  have hlen : (rows.length : Int) ≤ 20 := by have := HR20.out; omega
  go_loopg [7] rows.length (fun kq v7 w' => ∃ i : Nat, v7 = .int .i64 (i : Int) ∧ Aside0 (i + kq = rows.length) ∧ Aside0 (∀ j : Nat, j < i → (rd_L2 rows (j : Int)).length ≤ 300) ∧ Aside0 (Sp w' [PadP gb Pd.new, PadP ga ⟨rws rows i, 0, false, 0, none⟩, Old w]))
  case atStart => exact ⟨0, rfl, ⟨by omega⟩, ⟨fun j hj => by omega⟩, H2⟩
  case round =>
    obtain ⟨i, rfl, HK, HB, HP⟩ := hrel
    clear H2
    have hi1 : (i : Int) ≤ 20 := by have := HK.out; omega
    by_cases hlt : i < rows.length
    · have hb1 : decide (i < rows.length) = true := decide_eq_true hlt
      cases gk with
      | zero => exact absurd HK.out (by omega)
      | succ k1 =>
      have HLT := Aside0.mk hlt
      obtain ⟨ad, A0, c0, e0, hx0, hl0, hC0⟩ := at_L2 (Kd.C_below HR1.out HP.out.s2.old) (i : Int) (by omega) (by omega)
      cases e0
      have HL0 := Aside0.mk hl0
      have HC0 := Aside0.mk hC0
      have hp0 : (0 ≤ (i : Int)) = True := eq_true (by omega)
      have hp1 : ((i : Int) < (rows.length : Int)) = True := eq_true (by omega)
      simp only [Int.toNat_natCast] at hx0
      clear hlt hl0 hC0
      by_cases h300 : (rd_L2 rows (i : Int)).length ≤ 300
      case neg =>
        have hb2 : decide (300 < (rd_L2 rows (i : Int)).length) = true := decide_eq_true (by omega)
        have hb3 : decide ((300 : Int) < ((rd_L2 rows (i : Int)).length : Int)) = true := decide_eq_true (by omega)
        clear h300
        go_wp2
        go_ret
        exact ⟨rfl, HP.out.s2.old⟩
      case pos =>
        have hb2 : decide (300 < (rd_L2 rows (i : Int)).length) = false := decide_eq_false (by omega)
        have hb3 : decide ((300 : Int) < ((rd_L2 rows (i : Int)).length : Int)) = false := decide_eq_false (by omega)
        have H300 := Aside0.mk h300
        clear h300
        go_wp2_with (go_at_call 13; refine (append_to HP.out.s1 (rws_ok rows i 0 (Nat.zero_le _) (Nat.le_of_lt HLT.out) HR20.out HB.out) A0 c0 _ HL0.out (by have := H300.out; omega) HC0.out (rws_append rows i HLT.out HR20.out H300.out)).mono ?_; rintro e w4 ⟨rfl, h4⟩; have H4 := Aside0.mk h4.s1; clear h4)
        go_roundg k1
        case measure => exact Nat.lt_succ_self _
        case rel => exact ⟨i + 1, by first | rfl | simp, ⟨by have := HK.out; omega⟩, ⟨fun j hj => by
          by_cases hji : j = i
          · subst hji; exact H300.out
          · exact HB.out j (by omega)⟩, H4⟩
    · have hb1 : decide (i < rows.length) = false := decide_eq_false (by omega)
      have hil : i = rows.length := by have := HK.out; omega
      subst hil
      clear hlt hi1 HK
      go_wp2_with (fail)
      have HX := Aside0.mk (show Sp _ [PadP gb Pd.new, PadP ga ⟨rws rows rows.length, 0, false, 0, none⟩, Old w] from HP.out)
      clear HP
      go_loopg [8] 60 (fun kq v8 w' => ∃ (i : Nat) (q : Pd), v8 = .int .i64 (i : Int) ∧ Aside0 (i + kq = 60) ∧ Aside0 q.Ok ∧ Aside0 (Sp w' [PadP gb q, PadP ga ⟨rws rows rows.length, 0, false, 0, none⟩, Old w]))
      case atStart => exact ⟨0, _, rfl, ⟨by omega⟩, ⟨Pd.new_ok⟩, HX⟩
      case round =>
        obtain ⟨i, q, rfl, HK, HQ, HP⟩ := hrel
        clear HX
        have hi1 : (i : Int) ≤ 60 := by have := HK.out; omega
        by_cases hlt : i < l.length ∧ i < 60
        · obtain ⟨hlt1, hlt2⟩ := hlt
          have hc4 : decide (i < l.length) = true := decide_eq_true hlt1
          have hc5 : decide (i < 60) = true := decide_eq_true hlt2
          have hc6 : decide ((i : Int) < 60) = true := decide_eq_true (by omega)
          cases gk with
          | zero => exact absurd HK.out (by omega)
          | succ k1 =>
          have HLT1 := Aside0.mk hlt1
          obtain ⟨ad, B2, d2, B3, d3, e0, hx0, hx1, hx2, hx3, hx4, hl2, hC2, hl3, hC3⟩ := at_T41 HR2.out (i : Int) (by omega) (by omega)
          cases e0
          have hB := HP.out.s2.old
          replace hx0 := pw_cell_below hB hx0
          replace hx1 := pw_cell_below hB hx1
          replace hx2 := pw_cell_below hB hx2
          replace hx3 := pw_cell_below hB hx3
          replace hx4 := pw_cell_below hB hx4
          have HBW := Aside0.mk hB
          clear hB
          have HLI := Aside0.mk ((HH2.out trivial).2 i (Nat.zero_le _) hlt1 hlt2)
          have hmem : rd_T41 l (i : Int) ∈ l := by
            unfold rd_T41
            rw [Int.toNat_natCast, List.getD_eq_getElem?_getD, List.getElem?_eq_getElem hlt1]
            exact List.getElem_mem _
          have HN := Aside0.mk (lit_le (HWF.out.2 _ hmem).2.1)
          generalize hea : rd_T41 l (i : Int) = a at *
          have HL2 := Aside0.mk hl2
          have HC2b := Aside0.mk hC2
          have HL3 := Aside0.mk hl3
          have HC3b := Aside0.mk hC3
          simp only [Int.toNat_natCast] at hx0 hx1 hx2 hx3 hx4
          have hp0 : (0 ≤ (i : Int)) = True := eq_true (by omega)
          have hp1 : ((i : Int) < (l.length : Int)) = True := eq_true (by omega)
          clear hlt1 hlt2 hl2 hC2 hl3 hC3 hmem hea
          obtain ⟨s, hs, hes⟩ := mod9 a.f0
          have hd3 : ((IntKind.u64.wrap a.f0).tmod 9 == 3) = decide (s = 3) := by rw [hes]; by_cases h : s = 3 <;> simp [h] <;> omega
          have hd4 : ((IntKind.u64.wrap a.f0).tmod 9 == 4) = decide (s = 4) := by rw [hes]; by_cases h : s = 4 <;> simp [h] <;> omega
          have hd5 : ((IntKind.u64.wrap a.f0).tmod 9 == 5) = decide (s = 5) := by rw [hes]; by_cases h : s = 5 <;> simp [h] <;> omega
          have hd6 : ((IntKind.u64.wrap a.f0).tmod 9 == 6) = decide (s = 6) := by rw [hes]; by_cases h : s = 6 <;> simp [h] <;> omega
          have hd7 : ((IntKind.u64.wrap a.f0).tmod 9 == 7) = decide (s = 7) := by rw [hes]; by_cases h : s = 7 <;> simp [h] <;> omega
          have hd8 : ((IntKind.u64.wrap a.f0).tmod 9 == 8) = decide (s = 8) := by rw [hes]; by_cases h : s = 8 <;> simp [h] <;> omega
          clear hes
          by_cases h6 : s = 6
          case' pos =>
            subst h6
            replace hd3 := hd3.trans (decide_eq_false (by decide))
            replace hd4 := hd4.trans (decide_eq_false (by decide))
            replace hd5 := hd5.trans (decide_eq_false (by decide))
            replace hd6 := hd6.trans (decide_eq_true rfl)
            go_wp2_with (fail)
            refine wp_region_still_tail 11 (by kernel_rfl) (by kernel_rfl) ?_
            simp only [List.take_succ_cons, List.take_zero, List.drop_succ_cons, List.drop_zero]
            rw [drew_eta]
            repeat still_step
            refine wpStill_nil ?_
            have HPd := Aside0.mk (HP.out.drew.s2.s1)
            clear HP
            go_wp2_with (go_at_call 14; refine (crash_to (K := Old w) HPd.out HQ.out B3 d3 a.f3 a.f4 (fun w' ok h => Kd.C_below HC3b.out h.2) rfl).mono ?_; rintro e w4 ⟨⟨v, rfl⟩, h4⟩; have H4 := Aside0.mk (h4.s2.s1); have HQN := Aside0.mk (Pd.crash_ok HQ.out a.f3 a.f4); clear h4 HPd)
            go_roundg k1
            case measure => exact Nat.lt_succ_self _
            case rel => exact ⟨i + 1, _, by first | rfl | simp, ⟨by have := HK.out; omega⟩, HQN, H4⟩
          case' neg =>
          by_cases h8 : s = 8
          case' pos =>
            subst h8
            replace hd3 := hd3.trans (decide_eq_false (by decide))
            replace hd4 := hd4.trans (decide_eq_false (by decide))
            replace hd5 := hd5.trans (decide_eq_false (by decide))
            replace hd6 := hd6.trans (decide_eq_false (by decide))
            replace hd7 := hd7.trans (decide_eq_false (by decide))
            replace hd8 := hd8.trans (decide_eq_true rfl)
            go_wp2_with (fail)
            refine wp_region_still_tail 16 (by kernel_rfl) (by kernel_rfl) ?_
            simp only [List.take_succ_cons, List.take_zero, List.drop_succ_cons, List.drop_zero]
            rw [drew_eta]
            repeat still_step
            refine wpStill_nil ?_
            have HPd := Aside0.mk (HP.out.drew.s2.s1)
            clear HP
            go_wp2_with (go_at_call 22; refine (trip_calls (K := Old w) HPd.out a.f1 B3 d3 a.f3 a.f4 HL3.out (by have := HLI.out.2; omega) (fun w' ok h => Kd.C_below HC3b.out h.2)).mono ?_; rintro e w4 ⟨⟨v, rfl⟩, h4⟩; have H4 := Aside0.mk (h4.s2.s1); have HQN := Aside0.mk (Pd.trip_ok HQ.out a.f1 a.f3 a.f4 HN.out (by have := HLI.out.2; omega)); clear h4 HPd)
            go_roundg k1
            case measure => exact Nat.lt_succ_self _
            case rel => exact ⟨i + 1, _, by first | rfl | simp, ⟨by have := HK.out; omega⟩, HQN, H4⟩
          case' neg =>
            replace hd6 := hd6.trans (decide_eq_false h6)
            replace hd8 := hd8.trans (decide_eq_false h8)
            clear h6 h8 hs
            go_wp2_with (first
              | (go_at_call 12; refine (sync_to HP.out HQ.out rfl).mono ?_; rintro e w4 ⟨rfl, h4⟩; have H4 := Aside0.mk h4; have HQN := Aside0.mk (Pd.sync_ok HQ.out); clear h4 HP)
              | (go_at_call 25; refine (trim_to HP.out HQ.out a.f1 rfl).mono ?_; rintro e w4 ⟨rfl, h4⟩; have H4 := Aside0.mk h4; have HQN := Aside0.mk (Pd.trim_ok HQ.out a.f1); clear h4 HP)
              | (go_at_call 26; refine (cut_to HP.out HQ.out a.f1 rfl).mono ?_; rintro e w4 ⟨rfl, h4⟩; have H4 := Aside0.mk h4; have HQN := Aside0.mk (Pd.cut_ok HQ.out a.f1); clear h4 HP)
              | (go_at_call 16; refine (start_calls HP.out).mono ?_; rintro e w4 ⟨⟨v, rfl⟩, h4⟩; have H4 := Aside0.mk h4; have HQN := Aside0.mk (Pd.start_ok HQ.out); clear h4 HP)
              | (go_at_call 13; refine (append_to HP.out HQ.out B2 d2 a.f2 HL2.out (by have := HLI.out.1; omega) (Kd.C_below HC2b.out HBW.out) rfl).mono ?_; rintro e w4 ⟨rfl, h4⟩; have H4 := Aside0.mk h4; have HQN := Aside0.mk (Pd.append_ok HQ.out a.f2); clear h4 HP))
            all_goals (
              go_roundg k1
              case measure => exact Nat.lt_succ_self _
              case rel => exact ⟨i + 1, _, by first | rfl | simp, ⟨by have := HK.out; omega⟩, HQN, H4⟩)
        · have hex : (∃ b : Bool, decide (i < l.length) = b ∧ (b = true → decide ((i : Int) < 60) = false)) := by
            by_cases h1 : i < l.length
            · exact ⟨true, decide_eq_true h1, fun _ => decide_eq_false (by omega)⟩
            · exact ⟨false, decide_eq_false h1, fun e => by cases e⟩
          obtain ⟨b, hc4, hc5⟩ := hex
          clear hlt
          cases b
          case' true => replace hc5 := hc5 rfl
          case' false => clear hc5
          all_goals
            have HT := Aside0.mk HP.out.tail
            clear HP HQ HK hi1
            go_wp2_with (first
              | (go_at_call 17; refine (len_calls HT.out).mono ?_; rw [show (⟨rws rows rows.length, 0, false, 0, none⟩ : Pd).slots.length = rows.length from rws_length rows _ (Nat.le_refl _)]; rintro e w5 ⟨rfl, rfl⟩)
              | (go_at_call 18; refine (safe_calls HT.out).mono ?_; rintro e w5 ⟨rfl, rfl⟩)
              | (go_at_call 24; refine (off_calls HT.out).mono ?_; rintro e w5 ⟨rfl, rfl⟩)
              | (go_at_call 23; refine (life_calls HT.out).mono ?_; rintro e w5 ⟨rfl, rfl⟩))
            clear hc4
            go_loopg [9] rows.length (fun kq v9 w' => ∃ i : Nat, v9 = .int .i64 (i : Int) ∧ Aside0 (i + kq = rows.length) ∧ Aside0 (Sp w' [PadP ga ⟨rws rows rows.length, 0, false, 0, none⟩, Old w]))
            case atStart => exact ⟨0, rfl, ⟨by omega⟩, HT⟩
            case round =>
              obtain ⟨i, rfl, HK, HP⟩ := hrel
              clear HT
              have hi1 : (i : Int) ≤ 20 := by have := HK.out; omega
              by_cases hlt : i < rows.length
              · have hb1 : decide (i < rows.length) = true := decide_eq_true hlt
                cases gk with
                | zero => exact absurd HK.out (by omega)
                | succ k1 =>
                have HLT := Aside0.mk hlt
                obtain ⟨ad, A0, c0, e0, hx0, hl0, hC0⟩ := at_L2 HR1.out (i : Int) (by omega) (by omega)
                cases e0
                have HL0 := Aside0.mk hl0
                have HC0 := Aside0.mk hC0
                have HX0 := Aside0.mk hx0
                have hp0 : (0 ≤ (i : Int)) = True := eq_true (by omega)
                have hp1 : ((i : Int) < (rows.length : Int)) = True := eq_true (by omega)
                clear hlt hl0 hC0 hx0
                go_wp2_with (first
                  | (go_at_call 15; refine (read_to HP.out (rws_ok rows rows.length 0 (Nat.zero_le _) (Nat.le_refl _) HR20.out HB.out) (i : Int) (rws_read rows rows.length i 0 HLT.out (Nat.le_refl _))).mono ?_; rintro e w2 ⟨v, rfl, h2⟩; obtain ⟨va, vc, rfl⟩ : ∃ A c, v = .slice A (rd_L2 rows (i : Int)).length c := (h2.row).elim fun A h => h.elim fun c h => ⟨A, c, h.1⟩; have hx1 := pw_cell_below h2.s2.old HX0.out; simp only [Int.toNat_natCast] at hx1; have H2 := Aside0.mk h2; clear h2)
                  | (go_at_call 19; refine (PAll.raddlekeep_Bytes.calls 400 _ _ (rd_L2 rows (i : Int)) _ _ (rd_L2 rows (i : Int)) true _ (row_C H2.out).2.2 (row_C H2.out).2.1 (Kd.C_below HC0.out H2.out.s2.old) HL0.out (by have := HB.out i HLT.out; rw [Keep.same_eq 400 _ _ (by omega) (by omega)]; simp)).mono ?_; rintro e w3 ⟨rfl, ⟨nd, rfl⟩⟩; have H3 := Aside0.mk ((Sp.tail H2.out).drewN nd); clear H2))
                go_roundg k1
                case measure => exact Nat.lt_succ_self _
                case rel => exact ⟨i + 1, by first | rfl | simp, ⟨by have := HK.out; omega⟩, H3⟩
              · have hb1 : decide (i < rows.length) = false := decide_eq_false (by omega)
                clear hlt
                go_wp2_with (go_at_call 20; refine (wakes_calls HP.out).mono ?_; rintro e w4 ⟨rfl, h4⟩; have H4 := Aside0.mk h4; clear h4)
                go_ret
                exact ⟨rfl, H4.out.s1.old⟩
end Go.Proofs.Ytjpaaicgkdnalaa.Pads
