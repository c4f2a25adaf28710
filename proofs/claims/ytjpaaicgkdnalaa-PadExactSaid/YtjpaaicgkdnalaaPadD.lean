/-
  pad's Sync, Trip, Read, as the machine walks them.
  Conditions: none.
-/
import Derived.Test.YtjpaaicgkdnalaaPadC
import Derived.Test.YtjpaaicgkdnalaaPAllx1
namespace Go.Proofs.Ytjpaaicgkdnalaa.Pads
open Go.RowKit Go.Proofs.YtjpaaicgkdnalaaW.PrintWords Go.Proofs.YtjpaaicgkdnalaaW.PrintLast Go.Proofs.YtjpaaicgkdnalaaW.PrintMore Go.Proofs.Ytjpaaicgkdnalaa.Sep
set_option linter.unusedVariables false
set_option linter.unusedSimpArgs false
section
variable {w : World} {g : Nat} {p : Pd} {F : List Part}
theorem cells_P (hS : Sp w (PadP g p :: F)) : ∃ (A : Option Addr) (c : Nat) (t : Value), p.slots.length ≤ c ∧ w.cell? ⟨g, 0, none⟩ = some (.slice A p.slots.length c) ∧ w.cell? ⟨g, 1, none⟩ = some (.int .i64 p.safe) ∧ w.cell? ⟨g, 2, none⟩ = some (.bool p.off) ∧ w.cell? ⟨g, 3, none⟩ = some (.int .i64 p.life) ∧ w.cell? ⟨g, 4, none⟩ = some t ∧ (∀ j, w.frozen? ⟨g, j, none⟩ = false) := by
  obtain ⟨t, hS⟩ := PadP.open hS
  obtain ⟨A, c, h⟩ := cells_of hS
  exact ⟨A, c, t, h⟩
/-- A field that is no pointer is written. -/
theorem PadP.safe (hS : Sp w (PadP g p :: F)) (n : Nat) : Sp (w.setCell ⟨g, 1, none⟩ (.int .i64 n)) (PadP g { p with safe := n } :: F) := by
  obtain ⟨t, hS⟩ := PadP.open hS
  obtain ⟨v, hS⟩ := PadQ.open hS
  exact PadP.shut (p := { p with safe := n }) (PadQ.shut (p := { p with safe := n }) (hS.store 1 _))
set_option maxHeartbeats 4000000 in
set_option maxRecDepth 100000 in
theorem sync_calls (hS : Sp w (PadP g p :: F)) (hok : p.Ok) :
    Calls Try.prog 12 #[.pointer (some ⟨g, 0, none⟩)] w fun e w' => e = .returned (.int .i64 (p.sync).2) ∧ Sp w' (PadP g (p.sync).1 :: F) := by
  obtain ⟨A, c, t, hc, h0, h1, h2, h3, h4, hfz⟩ := cells_P hS
  clear h0 h1 h3 h4 hc hfz
  by_cases ho : p.off = true
  · have he : p.sync = (p, 5) := by unfold Pd.sync; rw [if_pos ho]
    rw [he]
    rw [ho] at h2
    have HS := Aside0.mk hS
    clear hS he ho hok
    go_enter Try.func12, Try.ntmps12
    go_wp2
    go_ret
    exact ⟨rfl, HS.out⟩
  · have ho : p.off = false := by simpa using ho
    have HOF := Aside0.mk ho
    have HS := Aside0.mk hS
    have HO := Aside0.mk hok
    rw [ho] at h2
    clear hS hok ho
    cases hb : p.spend.2
    · have he : p.sync = (p.spend.1, 5) := by unfold Pd.sync; rw [if_neg (by simp [HOF.out]), if_neg (by simp [hb])]
      rw [he]
      have HB := Aside0.mk hb
      clear hb he
      go_enter Try.func12, Try.ntmps12
      go_wp2_with (go_at_call 37; refine (spend_calls HS.out HO.out HOF.out).mono ?_; rw [HB.out]; rintro e w' ⟨rfl, hS⟩; have HS := Aside0.mk hS; clear hS)
      go_ret
      exact ⟨rfl, HS.out⟩
    · have he : p.sync = ({ p.spend.1 with safe := p.spend.1.slots.length }, 0) := by unfold Pd.sync; rw [if_neg (by simp [HOF.out]), if_pos hb]
      rw [he]
      have HB := Aside0.mk hb
      clear hb he
      go_enter Try.func12, Try.ntmps12
      go_wp2_with (go_at_call 37; refine (spend_calls HS.out HO.out HOF.out).mono ?_; rw [HB.out]; rintro e w' ⟨rfl, hS⟩; clear HS h2; have HS := Aside0.mk hS; obtain ⟨A, c, t, hc, h0, h1, h2, h3, h4, hfz⟩ := cells_P hS; have hf1 := hfz 1; clear hS h2 h3 h4 hfz hc)
      go_ret
      exact ⟨rfl, PadP.safe HS.out _⟩
set_option maxHeartbeats 4000000 in
set_option maxRecDepth 100000 in
theorem trip_calls {K : Part} (hS : Sp w (PadP g p :: K :: F)) (n : Int) (A1 : Option Addr) (c1 : Nat) (keep : List Bool) (torn : Int) (hc1 : keep.length ≤ c1) (hl : keep.length ≤ 140737488351232) (hK : ∀ w ok, K.P w ok → Kd.C Kd.bool w A1 keep.length keep) :
    Calls Try.prog 22 #[.pointer (some ⟨g, 0, none⟩), .int .i64 n, .slice A1 keep.length c1, .int .i64 torn] w fun e w' => (∃ v, e = .returned v) ∧ Sp w' (PadP g (p.trip n keep torn) :: K :: F) := by
  obtain ⟨A, c, t, hc, h0, h1, h2, h3, h4, hfz⟩ := cells_P hS
  have hf4 := hfz 4
  obtain ⟨t0, hS⟩ := PadP.open hS
  have hS : Sp w (PadQ g p t0 :: K :: F) := hS.s1.tail
  obtain ⟨v0, hS⟩ := PadQ.open hS
  have hS := hS.store 4 (.pointer none)
  clear hfz h0 h1 h2 h3 hc
  by_cases hn : n ≥ 1
  · have hd : decide (n ≥ 1) = true := decide_eq_true hn
    have he : p.trip n keep torn = { p with arm := some (n, keep, torn) } := by unfold Pd.trip; rw [if_pos hn]
    rw [he]
    have HS := Aside0.mk hS
    have HK := Aside0.mk hK
    have HC := Aside0.mk hc1
    have HL := Aside0.mk hl
    clear hS he hK hc1 hl hn
    go_enter Try.func22, Try.ntmps22
    go_wp2_with ((with_reducible refine gate_callee (f := 39) rfl ?_); refine Stop.go ?_)
    constructor
    refine goesL_ (some 16) rfl rfl Try.func39 (by kernel_rfl) rfl #[.slice A1 keep.length c1] rfl (by first | rfl | (go_simp; done)) ?_
    refine (PAll.slices_Clone_bool_bool.calls A1 c1 keep keep _ ((HS.out.tail.tail.has).elim fun ok h => HK.out _ ok h) HC.out (by unfold PAll.slices_Clone_bool_bool.f; rw [Option.bind_some, if_pos (by have := HL.out; simp only [List.length_nil]; omega), List.nil_append])).mono ?_
    rintro e w' ⟨v, rfl, hr, hb⟩
    refine ⟨_, rfl, ?_⟩
    obtain ⟨vA, vc, rfl⟩ := Kd.R_slice hr
    have h5 := Sp.made HS.out hb hr
    have H5 := Aside0.mk h5
    have hg := h5.s1.blk
    have hc4 := blk_cell hg 4
    have hf4 := blk_frozen hg 4
    have hgl : g < w'.heap.size := blk_lt hg
    replace hc4 : w'.cell? ⟨g, 4, none⟩ = some (.pointer none) := hc4
    clear h5 hr hb hg HS h4
    go_wp2
    go_end0
    refine ⟨⟨_, rfl⟩, ?_⟩
    have h6 := (H5.out.s1.store 4 (.pointer (some ⟨w'.heap.size, 0, none⟩))).box (.cells #[.int .i64 n, .slice vA keep.length vc, .int .i64 torn] 63 (0, 0))
    have hz : (w'.setCell ⟨g, 4, none⟩ (.pointer (some ⟨w'.heap.size, 0, none⟩))).heap.size = w'.heap.size := by simp [World.setCell]
    rw [hz] at h6
    have h7 := TripP.shut (Sp.s2 h6).s1
    exact PadP.shut (p := { p with arm := some (n, keep, torn) }) (t := .pointer (some ⟨w'.heap.size, 0, none⟩)) (PadQ.shut (p := { p with arm := some (n, keep, torn) }) (h7.s2.s2))
  · have hd : decide (n ≥ 1) = false := decide_eq_false hn
    have he : p.trip n keep torn = { p with arm := none } := by unfold Pd.trip; rw [if_neg hn]
    rw [he]
    have HS := Aside0.mk hS
    clear hS he hK hc1 hl hn
    go_enter Try.func22, Try.ntmps22
    go_wp2
    go_end0
    refine ⟨⟨_, rfl⟩, ?_⟩
    exact PadP.shut (p := { p with arm := none }) (TripP.none_mk (PadQ.shut (p := { p with arm := none }) HS.out)).s1
end
end Go.Proofs.Ytjpaaicgkdnalaa.Pads
