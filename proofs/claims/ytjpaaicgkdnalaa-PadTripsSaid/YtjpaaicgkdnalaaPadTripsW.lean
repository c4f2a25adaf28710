/-
  PadTrips, as the machine walks it.
  Conditions: none.
-/
import Derived.Test.YtjpaaicgkdnalaaPadTripsP
namespace Go.Proofs.Ytjpaaicgkdnalaa.Pads
open Go.RowKit Go.Proofs.YtjpaaicgkdnalaaW.PrintWords Go.Proofs.YtjpaaicgkdnalaaW.PrintLast Go.Proofs.YtjpaaicgkdnalaaW.PrintMore Go.Proofs.Ytjpaaicgkdnalaa.Sep
set_option linter.unusedVariables false
set_option linter.unusedSimpArgs false
section
variable {w : World} {g : Nat} {p q : Pd} {F : List Part} {x : Int}
theorem append_toN (hS : Sp w (PadP g p :: F)) (hok : p.Ok) (A1 : Option Addr) (c1 : Nat) (b : List Int) (n : Nat) (hn : n = b.length) (hbc : n ≤ c1) (hbl : n ≤ 140737488351232) (hC : Kd.C (Kd.int .u8) w A1 n b) (he : p.append b = (q, x)) :
    Calls Try.prog 13 #[.pointer (some ⟨g, 0, none⟩), .slice A1 n c1] w fun e w' => e = .returned (.int .i64 x) ∧ Sp w' (PadP g q :: F) := by
  subst hn
  exact append_to hS hok A1 c1 b hbc hbl hC he
end
/-- make([]byte, n). -/
theorem made_bytes (n : Nat) (hn : n ≤ 1000000) : ∃ CS : Array Value, (∀ W : World, (Instr.makeSlice 29 (.int .i64 (n : Int)) (.int .i64 (n : Int))).run Try.prog W = .ok (.slice (some ⟨W.heap.size, 0, none⟩) n n) (W.alloc (.cells CS 5))) ∧
    (∀ (W : World) (F : List Part), Sp W F → ∃ b : List Int, b.length = n ∧ Kd.C (Kd.int .u8) (W.alloc (.cells CS 5)) (some ⟨W.heap.size, 0, none⟩) n b ∧ Sp (W.alloc (.cells CS 5)) (Row (Kd.int .u8) 5 (.slice (some ⟨W.heap.size, 0, none⟩) n n) b :: F)) := by
  have hinfo : (Try.prog.info? 5).map (fun i => (i.zero, i.size, i.bytes)) = some (some (.int .u8 0), 1, 1) := by kernel_rfl
  obtain ⟨i0, hi, hzz⟩ := Option.map_eq_some_iff.1 hinfo
  simp only [Prod.mk.injEq] at hzz
  obtain ⟨hz0, hz1, hz2⟩ := hzz
  refine ⟨madeCells (Value.int .u8 0).cells (n * 1), fun W => ?_, fun W F h => ?_⟩
  · have hr := run_make (P := Try.prog) W 29 5 i0 (.int .u8 0) Try.underlying29 hi hz0 .i64 .i64 (n : Int) (n : Int) (by omega) (by omega) (by rw [hz2]; omega) (by omega)
    simp only [Int.toNat_natCast] at hr
    rw [hz1] at hr
    exact hr
  · have hrep : Reps (fun x cs => cs = [Value.int .u8 x]) 1 (List.replicate n 0) (madeCells (Value.int .u8 0).cells (n * 1)).toList := Kd.reps_made (R := fun x cs => cs = [Value.int .u8 x]) (z := Value.int .u8 0) (size := 1) (z0 := (0 : Int)) rfl (by decide) rfl n
    have hsp := h.new (w' := W.alloc (.cells (madeCells (Value.int .u8 0).cells (n * 1)) 5)) (a := Row (Kd.int .u8) 5 (.slice (some ⟨W.heap.size, 0, none⟩) n n) (List.replicate n 0)) (below_alloc (Below.refl _ _) _) ⟨fun k hk => ?_, ?_⟩
    · refine ⟨List.replicate n 0, List.length_replicate, ?_, hsp⟩
      have := (row_C hsp).2.2
      rw [List.length_replicate] at this
      exact this
    · have : W.heap.size = k := by simpa [Value.ownBlock] using hk
      subst this
      exact ⟨Nat.le_refl _, by simp⟩
    · have := OwnRow.lit (e := 5) W 0 hrep (Nat.zero_le _) (by rw [List.length_replicate]; omega)
      rw [List.length_replicate] at this
      exact this
set_option maxHeartbeats 8000000 in
set_option maxRecDepth 100000 in
theorem trips_law (x kind : Int) (keep : Bool) (w : World) (_ : (Lit.int .i64 x).wf = true) (_ : (Lit.int .i64 kind).wf = true) (_ : True) :
    Calls Try.prog 9 #[.int .i64 x, .int .i64 kind, .bool keep] w fun e w' => e = .returned (.bool true) ∧ Below w.heap.size w w' := by
  obtain ⟨s, hs, es, es2⟩ := Keep.umod x 20 (by decide) (by decide)
  replace es : wrap64 ((IntKind.u64.wrap x).tmod 20) = (s : Int) := es
  have HS := Aside0.mk (Sp.start w)
  have hs1 : (s : Int) ≤ 19 := by omega
  obtain ⟨CS, hmk, hmkS⟩ := made_bytes 65537 (by decide)
  replace hmk : ∀ W : World, (Instr.makeSlice 29 (.int .i64 65537) (.int .i64 65537)).run Try.prog W = .ok (.slice (some ⟨W.heap.size, 0, none⟩) 65537 65537) (W.alloc (.cells CS 5)) := hmk
  have HMK := Aside0.mk hmkS
  have HNZ := Aside0.mk (show (1 + (s : Int)) = ((1 + s : Nat) : Int) by omega)
  have HT0 := Aside0.mk (Tr.start (K := [keep, keep, keep, keep, keep, keep, keep, keep, keep, keep, keep, keep, keep, keep, keep, keep, keep, keep, keep, keep]) (by simp) (1 + s) (by omega) (by omega))
  clear es2 hmkS
  go_enter Try.func9, Try.ntmps9
  go_wp2_with (first
    | (go_at_call 11; refine (new_calls HS.out).mono ?_; rintro e w1 ⟨g, rfl, h1⟩; have H1 := Aside0.mk (show Sp (w1.alloc (.cells #[.bool keep, .bool keep, .bool keep, .bool keep, .bool keep, .bool keep, .bool keep, .bool keep, .bool keep, .bool keep, .bool keep, .bool keep, .bool keep, .bool keep, .bool keep, .bool keep, .bool keep, .bool keep, .bool keep, .bool keep] 4)) [Row Kd.bool 4 (.slice (some ⟨w1.heap.size, 0, none⟩) 20 20) [keep, keep, keep, keep, keep, keep, keep, keep, keep, keep, keep, keep, keep, keep, keep, keep, keep, keep, keep, keep], PadP g Pd.new, Old w] from Sp.lit (enc := Value.bool) (h1 := fun _ => rfl) 4 [keep, keep, keep, keep, keep, keep, keep, keep, keep, keep, keep, keep, keep, keep, keep, keep, keep, keep, keep, keep] (by simp) h1); clear h1)
    | (go_at_call 22; refine (trip_calls (K := Row Kd.bool 4 (.slice (some ⟨w1.heap.size, 0, none⟩) 20 20) [keep, keep, keep, keep, keep, keep, keep, keep, keep, keep, keep, keep, keep, keep, keep, keep, keep, keep, keep, keep]) H1.out.s1 (1 + (s : Int)) (some ⟨w1.heap.size, 0, none⟩) 20 [keep, keep, keep, keep, keep, keep, keep, keep, keep, keep, keep, keep, keep, keep, keep, keep, keep, keep, keep, keep] (-1) (by simp) (by simp) (fun w ok h => (Kd.R_reads' h).2.2)).mono ?_; rw [HNZ.out]; rintro e w2 ⟨⟨v, rfl⟩, h2⟩; have H2 := Aside0.mk (Sp.tail h2.s1); clear h2 H1))
  clear es
  go_loopg [8] (1 + s) (fun kq v8 w' => ∃ (i : Nat) (p : Pd), v8 = .int .i64 (i : Int) ∧ Aside0 (1 ≤ i ∧ i + kq = 2 + s) ∧ Aside0 (Tr [keep, keep, keep, keep, keep, keep, keep, keep, keep, keep, keep, keep, keep, keep, keep, keep, keep, keep, keep, keep] (1 + s) i p) ∧ Aside0 (Sp w' [PadP g p, Old w]))
  case atStart => exact ⟨1, _, rfl, ⟨by omega, by omega⟩, HT0, H2⟩
  case round =>
    obtain ⟨i, p, rfl, HK, HT, HP⟩ := hrel
    clear H2 HT0
    have hi1 : (i : Int) ≤ 21 := by have := HK.out; omega
    by_cases hlt : i ≤ 1 + s
    · have hb1 : decide ((i : Int) ≤ 1 + (s : Int)) = true := decide_eq_true (by omega)
      have hu : IntKind.u8.wrap (i : Int) = (i : Int) := IntWalk.u8_in _ (by omega)
      have hm8 : (i : Int) % 256 = (i : Int) := by omega
      cases gk with
      | zero => exact absurd HK.out (by omega)
      | succ k1 =>
      have HLT := Aside0.mk hlt
      clear hlt
      by_cases hin : i = 1 + s
      case' pos =>
        have hx1 : ((i : Int) == 1 + (s : Int)) = true := beq_iff_eq.mpr (by omega)
        have HIN := Aside0.mk hin
        clear hin
      case' neg =>
        have hx1 : ((i : Int) == 1 + (s : Int)) = false := beq_eq_false_iff_ne.mpr (by omega)
        have HIN := Aside0.mk hin
        clear hin
      all_goals go_wp2_with (first
        | (go_at_call 25; refine (trim_to HP.out HT.out.ok (-1) (HT.out.trim HLT.out)).mono ?_; rintro e w3 ⟨rfl, h3⟩; have H3 := Aside0.mk h3; clear h3 HP)
        | (go_at_call 26; refine (cut_to H3.out HT.out.ok (-1) (HT.out.cut HLT.out)).mono ?_; rintro e w4 ⟨rfl, h4⟩; have H4 := Aside0.mk h4; clear h4 H3)
        | (go_at_call 13; (with_reducible show Calls _ _ #[_, .slice _ 65537 _] _ _); obtain ⟨bb, hbb, hbC, hbS⟩ := HMK.out _ _ H4.out; refine (append_toN hbS.s1 HT.out.ok _ 65537 bb 65537 hbb.symm (by decide) (by decide) hbC (HT.out.long HLT.out bb (by omega))).mono ?_; rintro e w5 ⟨rfl, h5⟩; have H5 := Aside0.mk (Sp.tail h5.s1); clear h5 H4 hbb hbS hbC)
        | (go_at_call 13; obtain ⟨q, hq, hT⟩ := HT.out.append HLT.out (by omega) [(i : Int)] (by simp); (first | rw [if_pos HIN.out] at hq | rw [if_neg HIN.out] at hq); refine (append_to (lit_u8 (i : Int) H5.out).s1 HT.out.ok (some ⟨w5.heap.size, 0, none⟩) 1 [(i : Int)] (by simp) (by simp) (row_C (lit_u8 (i : Int) H5.out)).2.2 hq).mono ?_; rintro e w6 ⟨rfl, h6⟩; have H6 := Aside0.mk (Sp.tail h6.s1); clear h6 H5; have HTN := Aside0.mk hT; clear hT hq)
        | (go_at_call 12; obtain ⟨q, hq, hT⟩ := HT.out.sync HLT.out; (first | rw [if_pos HIN.out] at hq | rw [if_neg HIN.out] at hq); refine (sync_to H5.out HT.out.ok hq).mono ?_; rintro e w6 ⟨rfl, h6⟩; have H6 := Aside0.mk h6; clear h6 H5; have HTN := Aside0.mk hT; clear hT hq))
      all_goals (
        go_roundg k1
        case measure => exact Nat.lt_succ_self _
        case rel => exact ⟨i + 1, q, by first | rfl | simp, ⟨by have := HK.out; omega, by have := HK.out; omega⟩, HTN, H6⟩)
    · have hb1 : decide ((i : Int) ≤ 1 + (s : Int)) = false := decide_eq_false (by omega)
      have HLT := Aside0.mk (show 1 + s < i by omega)
      clear hlt
      have hoff : p.off = true := (HT.out.gone HLT.out).1
      have hlife : p.life = 1 := (HT.out.gone HLT.out).2.1
      go_wp2_with (first
        | (go_at_call 24; refine (off_calls HP.out).mono ?_; rw [hoff]; rintro e w3 ⟨rfl, rfl⟩)
        | (go_at_call 23; refine (life_calls HP.out).mono ?_; rw [hlife]; rintro e w3 ⟨rfl, rfl⟩)
        | (go_at_call 12; refine (sync_to HP.out HT.out.ok (HT.out.offSync HLT.out)).mono ?_; rintro e w4 ⟨rfl, h4⟩; have H4 := Aside0.mk h4; clear h4 HP)
        | (go_at_call 16; refine (start_calls H4.out).mono ?_; rintro e w5 ⟨⟨v, rfl⟩, h5⟩; have H5 := Aside0.mk h5; clear h5 H4)
        | (go_at_call 12; refine (sync_to H5.out (Pd.start_ok HT.out.ok) (HT.out.back HLT.out)).mono ?_; rintro e w6 ⟨rfl, h6⟩; have H6 := Aside0.mk h6; clear h6 H5)
        | (go_at_call 24; refine (off_calls H6.out).mono ?_; rw [show ({ p.start with safe := p.start.slots.length } : Pd).off = false from rfl]; rintro e w7 ⟨rfl, rfl⟩)
        | (go_at_call 18; refine (safe_calls H6.out).mono ?_; rw [show ({ p.start with safe := p.start.slots.length } : Pd).safe = p.start.slots.length from rfl]; rintro e w7 ⟨rfl, rfl⟩)
        | (go_at_call 17; refine (len_calls H6.out).mono ?_; rw [show ({ p.start with safe := p.start.slots.length } : Pd).slots.length = p.start.slots.length from rfl]; rintro e w7 ⟨rfl, rfl⟩)
        | (go_at_call 20; refine (wakes_calls H6.out).mono ?_; rintro e w8 ⟨rfl, h8⟩; have H8 := Aside0.mk h8; clear h8)
        | (go_at_call 12; refine Stop.go ?_) | (go_at_call 16; refine Stop.go ?_))
      go_ret
      exact ⟨rfl, H8.out.s1.old⟩
end Go.Proofs.Ytjpaaicgkdnalaa.Pads
