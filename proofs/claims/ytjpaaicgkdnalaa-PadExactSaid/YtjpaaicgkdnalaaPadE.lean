/-
  pad's Read and Append, as the machine walks them.
  Conditions: none.
-/
import Derived.Test.YtjpaaicgkdnalaaPadD
namespace Go.Proofs.Ytjpaaicgkdnalaa.Pads
open Go.RowKit Go.Proofs.YtjpaaicgkdnalaaW.PrintWords Go.Proofs.YtjpaaicgkdnalaaW.PrintLast Go.Proofs.YtjpaaicgkdnalaaW.PrintMore Go.Proofs.Ytjpaaicgkdnalaa.Sep
set_option linter.unusedVariables false
set_option linter.unusedSimpArgs false
section
variable {w : World} {g : Nat} {p : Pd} {F : List Part}
/-- A slot's cells. -/
theorem slot_at (hS : Sp w (PadP g p :: F)) (hl : p.slots.length ≤ 4000) (i : Nat) (hi : i < p.slots.length) :
    ∃ (gr c : Nat) (A : Option Addr) (n cc : Nat), w.cell? ⟨g, 0, none⟩ = some (.slice (some ⟨gr, 0, none⟩) p.slots.length c) ∧ w.cell? ⟨gr, i * 2, none⟩ = some (.slice A n cc) ∧ w.cell? ⟨gr, i * 2 + 1, none⟩ = some (.bool (p.slots.getD i ([], false)).2) ∧
      n = (p.slots.getD i ([], false)).1.length ∧ n ≤ cc ∧ Kd.C (Kd.int .u8) w A n (p.slots.getD i ([], false)).1 := by
  obtain ⟨t, hS⟩ := PadP.open hS
  obtain ⟨v, hS⟩ := PadQ.open hS
  obtain ⟨gr, c, rfl⟩ := (hS.tail.has).elim fun _ h => row_form h (by omega)
  obtain ⟨cs, hcl, hcc, _, hK⟩ := Sp.elem hS.s1 ([], false) i hi
  obtain ⟨c0, c1, rfl, ⟨A, cc, rfl, hle, hC⟩, rfl⟩ := hK
  exact ⟨gr, c, A, _, cc, blk_cell hS.blk 0, hcc 0 _ rfl, hcc 1 _ rfl, rfl, hle, hC⟩
theorem _root_.Go.Proofs.Ytjpaaicgkdnalaa.Sep.Sp.nilRow {α : Type} (d : Kd α) (e : Nat) (h : Sp w F) : Sp w (Row d e (.slice none 0 0) [] :: F) :=
  ⟨fun _ => False, fun _ h => h.elim, Kd.R_nil _ _ _ _ _, Sep.wide h (fun k hk => ⟨hk, fun e => e⟩)⟩
set_option maxHeartbeats 4000000 in
set_option maxRecDepth 100000 in
theorem read_calls (hS : Sp w (PadP g p :: F)) (hok : p.Ok) (i : Int) :
    Calls Try.prog 15 #[.pointer (some ⟨g, 0, none⟩), .int .i64 i] w fun e w' => ∃ v, e = .returned (.tuple #[v, .int .i64 (p.read i).2]) ∧ Sp w' (Row (Kd.int .u8) 5 v (p.read i).1 :: PadP g p :: F) := by
  obtain ⟨A, c, t, hc, h0, h1, h2, h3, h4, hfz⟩ := cells_P hS
  clear h1 h3 h4 hfz
  have hl := hok.len
  have hb := hok.bytes
  by_cases ho : p.off = true
  · have he : p.read i = ([], 5) := by unfold Pd.read; rw [if_pos ho]
    rw [he]
    rw [ho] at h2
    have HS := Aside0.mk hS
    clear hS he ho hok hb hl hc h0
    go_enter Try.func15, Try.ntmps15
    go_wp2
    go_ret2
    exact ⟨_, rfl, HS.out.nilRow _ _⟩
  · have ho' : p.off = false := by simpa using ho
    rw [ho'] at h2
    by_cases hi : i < 0 ∨ i ≥ p.slots.length
    · have he : p.read i = ([], 7) := by unfold Pd.read; rw [if_neg ho, if_pos hi]
      rw [he]
      have HS := Aside0.mk hS
      by_cases hi0 : i < 0
      · have hd0 : decide (i < 0) = true := decide_eq_true hi0
        clear hS he ho hok hb hl hc hi ho' hi0
        go_enter Try.func15, Try.ntmps15
        go_wp2
        go_ret2
        exact ⟨_, rfl, HS.out.nilRow _ _⟩
      · have hd0 : decide (i < 0) = false := decide_eq_false hi0
        have hd1 : decide (i ≥ (p.slots.length : Int)) = true := decide_eq_true (by omega)
        clear hS he ho hok hb hl hc hi ho' hi0
        go_enter Try.func15, Try.ntmps15
        go_wp2
        go_ret2
        exact ⟨_, rfl, HS.out.nilRow _ _⟩
    · have hd0 : decide (i < 0) = false := decide_eq_false (by omega)
      have hd1 : decide (i ≥ (p.slots.length : Int)) = false := decide_eq_false (by omega)
      have hi0 : 0 ≤ i := by omega
      have hi1 : i < (p.slots.length : Int) := by omega
      obtain ⟨gr, cp, A', n', cc, k0, k1, k2, hn', hcc, hC⟩ := slot_at hS hl i.toNat (by omega)
      clear h0
      have hbl : (p.slots.getD i.toNat ([], false)).1.length ≤ 65536 := by
        rw [List.getD_eq_getElem?_getD, List.getElem?_eq_getElem (by omega)]
        exact hb _ (List.getElem_mem _)
      subst hn'
      cases hsp : (p.slots.getD i.toNat ([], false)).2
      · have he : p.read i = ((p.slots.getD i.toNat ([], false)).1, 0) := by unfold Pd.read; rw [if_neg ho, if_neg hi, if_neg (by rw [hsp]; decide)]
        rw [he]
        rw [hsp] at k2
        generalize (p.slots.getD i.toNat ([], false)).1 = b at *
        have HS := Aside0.mk hS
        have HC := Aside0.mk hC
        have HL := Aside0.mk hcc
        have HB := Aside0.mk hbl
        clear hS he ho hok hb hl hc hi ho' hsp hC hcc hbl
        go_enter Try.func15, Try.ntmps15
        go_wp2_with ((with_reducible refine gate_callee (f := 38) rfl ?_); refine goesL_ (some 40) rfl rfl Try.func38 (by kernel_rfl) rfl #[.slice A' b.length cc] rfl (by first | rfl | (go_simp; done)) ?_; refine (PAll.slices_Clone_byte_byte.calls A' cc b b _ HC.out HL.out (by unfold PAll.slices_Clone_byte_byte.f; rw [Option.bind_some, if_pos (by have := HB.out; simp only [List.length_nil]; omega), List.nil_append])).mono ?_; rintro e w' ⟨v, rfl, hr, hb⟩; refine ⟨_, rfl, ?_⟩; have HR := Aside0.mk (Sp.made HS.out hb hr); clear hr hb)
        go_ret2
        exact ⟨_, rfl, HR.out⟩
      · have he : p.read i = ([], 13) := by unfold Pd.read; rw [if_neg ho, if_neg hi, if_pos (by rw [hsp])]
        rw [he]
        rw [hsp] at k2
        have HS := Aside0.mk hS
        clear hS he ho hok hb hl hc hi ho' hsp hC hcc hbl
        go_enter Try.func15, Try.ntmps15
        go_wp2
        go_ret2
        exact ⟨_, rfl, HS.out.nilRow _ _⟩
theorem pushed_ok {p : Pd} (h : p.Ok) (b : List Int) (hb : b.length ≤ 65536) (hl : p.slots.length < 4000) : ({ p with slots := p.slots ++ [(b, false)] } : Pd).Ok :=
  ⟨by have := h.safe; simp; omega, by simp; omega, h.arm, fun s hs => by
    rcases List.mem_append.1 hs with hs | hs
    · exact h.bytes s hs
    · rw [List.mem_singleton.1 hs]; exact hb⟩
set_option maxHeartbeats 4000000 in
set_option maxRecDepth 100000 in
theorem append_calls (hS : Sp w (PadP g p :: F)) (hok : p.Ok) (A1 : Option Addr) (c1 : Nat) (b : List Int) (hbc : b.length ≤ c1) (hbl : b.length ≤ 140737488351232) (hC : Kd.C (Kd.int .u8) w A1 b.length b) :
    Calls Try.prog 13 #[.pointer (some ⟨g, 0, none⟩), .slice A1 b.length c1] w fun e w' => e = .returned (.int .i64 (p.append b).2) ∧ Sp w' (PadP g (p.append b).1 :: F) := by
  obtain ⟨A, c, t, hc, h0, h1, h2, h3, h4, hfz⟩ := cells_P hS
  clear h1 h3 h4
  have hl := hok.len
  by_cases ho : p.off = true
  · have he : p.append b = (p, 5) := by unfold Pd.append; rw [if_pos ho]
    rw [he]
    rw [ho] at h2
    have HS := Aside0.mk hS
    clear hS he ho hok hbl hbc hC hl hc h0 hfz
    go_enter Try.func13, Try.ntmps13
    go_wp2
    go_ret
    exact ⟨rfl, HS.out⟩
  have ho' : p.off = false := by simpa using ho
  rw [ho'] at h2
  by_cases hb1 : b.length > 65536
  · have he : p.append b = (p, 2) := by unfold Pd.append; rw [if_neg ho, if_pos hb1]
    rw [he]
    have hd : decide ((65536 : Int) < (b.length : Int)) = true := decide_eq_true (by omega)
    have HS := Aside0.mk hS
    clear hS he ho hok hbl hbc hC hl hc h0 ho' hb1 hfz
    go_enter Try.func13, Try.ntmps13
    go_wp2
    go_ret
    exact ⟨rfl, HS.out⟩
  have hd : decide ((65536 : Int) < (b.length : Int)) = false := decide_eq_false (by omega)
  by_cases hs1 : p.slots.length ≥ 4000
  · have he : p.append b = (p, 6) := by unfold Pd.append; rw [if_neg ho, if_neg hb1, if_pos hs1]
    rw [he]
    have hd2 : decide ((4000 : Int) ≤ (p.slots.length : Int)) = true := decide_eq_true (by omega)
    have HS := Aside0.mk hS
    clear hS he ho hok hbl hbc hC hl hc ho' hb1 hs1 hfz
    go_enter Try.func13, Try.ntmps13
    go_wp2
    go_ret
    exact ⟨rfl, HS.out⟩
  have hd2 : decide ((4000 : Int) ≤ (p.slots.length : Int)) = false := decide_eq_false (by omega)
  have HC := Aside0.mk hC
  have HBC := Aside0.mk hbc
  have HB := Aside0.mk hb1
  have HL := Aside0.mk hs1
  have HOK := Aside0.mk (pushed_ok hok b (by omega) (by omega))
  have HOF := Aside0.mk (show ({ p with slots := p.slots ++ [(b, false)] } : Pd).off = false from ho')
  have HS := Aside0.mk hS
  obtain ⟨r, hr⟩ : ∃ r, ({ p with slots := p.slots ++ [(b, false)] } : Pd).spend.2 = r := ⟨_, rfl⟩
  have he : p.append b = (({ p with slots := p.slots ++ [(b, false)] } : Pd).spend.1, if r then 0 else 5) := by unfold Pd.append; rw [if_neg ho, if_neg hb1, if_neg hs1, hr]
  rw [he]
  have HR := Aside0.mk hr
  clear hS ho hok hbl hbc hC hl hc ho' hb1 hs1 hfz he hr
  go_enter Try.func13, Try.ntmps13
  go_wp2
  have hSd := HS.out.drew
  have hCd := Kd.C_drew HC.out
  refine start_ (n := 13) (S := fun w' => w'.cell? ⟨g, 0, none⟩ = some (.slice A p.slots.length c) ∧ True) (ds := [12]) #[false, false, false, false, false, false, false, false, false, false, false, false, false] (by kernel_rfl) rfl rfl ⟨h0, trivial⟩ (fun hHeld => ?_)
  generalize w.drew = W at hSd hCd hHeld ⊢
  clear HS h0 h2
  refine Steps.pI_ 0 (some 21) (Steps.Bs 13 1) (by kernel_rfl) (h := ?_)
  refine Steps.pI_ 1 (some 22) (Steps.Bs 13 3) (by kernel_rfl) (h := ?_)
  refine Steps.pI_ 2 (some 23) (Steps.Bs 13 7) (by kernel_rfl) (h := ?_)
  refine Steps.pI_ 3 (some 24) (Steps.Bs 13 15) (by kernel_rfl) (h := ?_)
  refine Steps.pI_ 5 (some 26) (Steps.Bs 13 47) (by kernel_rfl) (h := ?_)
  refine Steps.tI_ 4 (some 25) (Steps.Bs 13 63) (by kernel_rfl) hHeld (h := ?_)
  refine one_ (i := 6) (N := some 27) (Steps.Bs 13 127) rfl rfl (by kernel_rfl) (by decide) (fun K hK => ?_)
  refine goes_ Try.func38 (by kernel_rfl) rfl #[.slice A1 b.length c1] (by rfl) rfl rfl (by (try simp only [List.map_toArray, List.map_cons, List.map_nil]); first | done | rfl) ?_
  refine (PAll.slices_Clone_byte_byte.calls A1 c1 b b _ hCd HBC.out (by unfold PAll.slices_Clone_byte_byte.f; rw [Option.bind_some, if_pos (by have := HB.out; simp only [List.length_nil]; omega), List.nil_append])).mono ?_
  rintro e w' ⟨v, rfl, hr, hb⟩
  refine ⟨_, rfl, ?_⟩
  obtain ⟨vA, vc, rfl⟩ := Kd.R_slice hr
  have hS1 := Sp.made hSd hb hr
  have hHeld1 : w'.cell? ⟨g, 0, none⟩ = some (.slice A p.slots.length c) := (hb.cell (World.block_lt_of_cell? W _ hHeld.1)).trans hHeld.1
  clear hHeld hr hb hCd hSd
  refine hK.out _ _ ⟨hHeld1, trivial⟩ (fun _ => ?_)
  clear hK K
  refine norm_ (a' := ?_) ?_ ?_
  rotate_left
  · show Act.put _ (some 27) _ = _
    simp only [Act.put, List.setIfInBounds_toArray, List.set_cons_zero, List.set_cons_succ, i64_w, i32_w]
    rfl
  refine Steps.pI_ 7 (some 28) (Steps.Bs 13 255) (by kernel_rfl) (h := ?_)
  refine one_ (i := 8) (N := some 29) (Steps.Bs 13 511) rfl rfl (by kernel_rfl) (by decide) (fun K hK => ?_)
  refine value_ (w1 := ?_) (v := ?_) (by rfl) rfl ?_ ?_
  rotate_left 2
  · go_simp
    constructor
    · rfl
    · rfl
  refine hK.out _ _ ⟨(Below.cell (below_alloc (Below.refl _ _) _) (World.block_lt_of_cell? w' _ hHeld1)).trans hHeld1, trivial⟩ (fun _ => ?_)
  clear hK K
  refine norm_ (a' := ?_) ?_ ?_
  rotate_left
  · show Act.put _ (some 29) _ = _
    simp only [Act.put, List.setIfInBounds_toArray, List.set_cons_zero, List.set_cons_succ, i64_w, i32_w]
    rfl
  refine one_ (i := 9) (N := some 30) (Steps.Bs 13 1023) rfl rfl (by kernel_rfl) (by decide) (fun K hK => ?_)
  obtain ⟨t', hS2⟩ := PadP.open hS1.s1
  obtain ⟨v', hS2⟩ := PadQ.open hS2
  obtain rfl : v' = .slice A p.slots.length c := by
    have h5 : w'.cell? ⟨g, 0, none⟩ = some v' := blk_cell hS2.blk 0
    rw [hHeld1] at h5
    exact (Option.some.inj h5).symm
  have hS3 : Sp w' (Row kSl 60 (.slice A p.slots.length c) p.slots :: El kSl (b, false) [.slice vA b.length vc, .bool false] :: Blk g (.cells #[.slice A p.slots.length c, .int .i64 p.safe, .bool p.off, .int .i64 p.life, t'] 58 (0, 0)) :: TripP t' p.arm :: F) :=
    (Sp.as hS2.s3 (b := El kSl (b, false) [.slice vA b.length vc, .bool false]) (fun ok h => ⟨[_], [_], rfl, ⟨_, rfl, h⟩, rfl⟩)).s2
  have HS3 := Aside0.mk hS3
  clear hS3 hS2 hS1
  refine Sp.append_step kSl (W := w') (by rfl) (.tmp 25) (.tmp 29) 55 60 (.agg #[.slice none 0 0, .bool false]) 32 rfl Try.underlying55 infoSl rfl (by decide) (by omega) (.slice A p.slots.length c) p.slots (b, false) [.slice vA b.length vc, .bool false] rfl rfl HS3.out (by have := HL.out; omega) ?_
  intro v1 w1 hS4
  have hg1 := hS4.s1.blk
  refine hK.out _ _ ⟨blk_cell hg1 0, trivial⟩ (fun _ => ?_)
  clear hK K
  refine norm_ (a' := ?_) ?_ ?_
  rotate_left
  · show Act.put _ (some 30) _ = _
    simp only [Act.put, List.setIfInBounds_toArray, List.set_cons_zero, List.set_cons_succ, i64_w, i32_w]
    rfl
  refine Steps.pI_ 10 (some 31) (Steps.Bs 13 2047) (by kernel_rfl) (h := ?_)
  refine Steps.pI_ 11 (some 32) (Steps.Bs 13 4095) (by kernel_rfl) (h := ?_)
  refine last_ (i := 12) (N := none) (Steps.Bs 13 8191) rfl rfl (by kernel_rfl) (by decide) (fun K hK => ?_)
  have hc0 : w1.cell? ⟨g, 0, none⟩ = some (.slice A p.slots.length c) := blk_cell hg1 0
  have hf0 := blk_frozen hg1 0
  obtain ⟨vA1, vc1, rfl⟩ : ∃ A c, v1 = .slice A (p.slots ++ [(b, false)]).length c := (hS4.row).elim fun A h => h.elim fun c h => ⟨A, c, h.1⟩
  refine skip_ (w1 := ?_) (by rfl) rfl ?_ ?_
  rotate_left
  · go_simp
    rfl
  refine hK.out _ _ ?_
  clear hK K
  refine done_ (by kernel_rfl) ?_
  have hS5 := (hS4.s1.store 0 (.slice vA1 (p.slots.length + 1) vc1))
  have hz : (p.slots ++ [(b, false)]).length = p.slots.length + 1 := by simp
  rw [hz] at hS5
  have hS6 : Sp _ (PadP g { p with slots := p.slots ++ [(b, false)] } :: F) := PadP.shut (p := { p with slots := p.slots ++ [(b, false)] }) (PadQ.shut (p := { p with slots := p.slots ++ [(b, false)] }) hS5)
  have HS6 := Aside0.mk hS6
  clear hS6 hS5 hS4 hc0 hf0 hg1 HS3 hz
  go_wp2_with ((with_reducible refine gate_callee (f := 37) rfl ?_); refine goesL_ (some 34) rfl rfl Try.func37 (by kernel_rfl) rfl #[.pointer (some ⟨g, 0, none⟩)] rfl (by first | rfl | (go_simp; done)) ?_; refine (spend_calls HS6.out HOK.out HOF.out).mono ?_; rw [HR.out]; rintro e w5 ⟨rfl, hS7⟩; refine ⟨_, rfl, ?_⟩; have HS7 := Aside0.mk hS7; clear hS7; refine Stop.go ?_)
  constructor
  cases r
  · go_wp2
    go_ret
    exact ⟨rfl, HS7.out⟩
  · go_wp2
    go_ret
    exact ⟨rfl, HS7.out⟩
end
end Go.Proofs.Ytjpaaicgkdnalaa.Pads
