/-
  The page's pad: Trip, Read, Append, as the machine walks them.
  Conditions: none.
-/
import Derived.Test.YtjpaaicgkdnalaaRefC
import Derived.Test.YtjpaaicgkdnalaaPAllx1
namespace Go.Proofs.Ytjpaaicgkdnalaa.Pads
open Go.RowKit Go.Proofs.YtjpaaicgkdnalaaW.PrintWords Go.Proofs.YtjpaaicgkdnalaaW.PrintLast Go.Proofs.YtjpaaicgkdnalaaW.PrintMore Go.Proofs.Ytjpaaicgkdnalaa.Sep
set_option linter.unusedVariables false
set_option linter.unusedSimpArgs false
attribute [local go_sem] max2_int min2_int max_two min_two max_three min_three max_four min_four
section
variable {w : World} {g : Nat} {p : Pd} {F : List Part} {l : List Sl} {safe : Nat} {off : Bool} {life arm torn : Int} {vk : Value} {keep : List Bool}
theorem Armed.trip_ (p : Pd) {n : Int} (keep : List Bool) (torn : Int) (h : 0 ≤ n) : Armed (p.trip n keep torn).arm n keep torn := by
  refine ⟨h, ?_⟩
  unfold Pd.trip
  dsimp only
  by_cases h1 : n ≥ 1
  · rw [if_pos h1, if_pos (by omega)]
  · rw [if_neg h1, if_neg (by omega)]
set_option maxHeartbeats 4000000 in
set_option maxRecDepth 100000 in
theorem rtrip_calls {K : Part} (hS : Sp w (RefP g p :: K :: F)) (n : Int) (A1 : Option Addr) (c1 : Nat) (keep : List Bool) (torn : Int) (hc1 : keep.length ≤ c1) (hl : keep.length ≤ 140737488351232) (hK : ∀ w ok, K.P w ok → Kd.C Kd.bool w A1 keep.length keep) :
    Calls Try.prog 32 #[.pointer (some ⟨g, 0, none⟩), .int .i64 n, .slice A1 keep.length c1, .int .i64 torn] w fun e w' => (∃ v, e = .returned v) ∧ Sp w' (RefP g (p.trip n keep torn) :: K :: F) := by
  obtain ⟨arm0, keep0, torn0, vk0, ha, hS⟩ := RefP.open hS
  obtain ⟨Ak0, ck0, rfl, _, _⟩ := hS.tail.row
  have HC := Aside0.mk ((hS.tail.tail.has).elim fun ok h => hK w ok h)
  have HS := Aside0.mk (hS.nilRow Kd.bool 4)
  have HL := Aside0.mk hl
  clear hS ha hK hl
  go_enter Try.func32, Try.ntmps32
  go_wp2_with ((with_reducible refine gate_builtin (b := .append) (xs := #[.tmp 14, .tmp 15]) rfl ?_); at_builtin; refine Sp.appendRow Kd.bool rfl (.tmp 14) (.tmp 15) 22 4 (.bool false) 1 rfl Try.underlying22 (by kernel_rfl) rfl (by decide) (by omega) (.slice none 0 0) ([] : List Bool) keep A1 keep.length c1 rfl rfl (fun _ _ h => h) HS.out HC.out (by have := HL.out; simp only [List.length_nil]; omega) ?_; intro v1 w1 h1; obtain ⟨A1', c1', rfl, _, _⟩ := h1.row; obtain ⟨v, raw, hr, h2⟩ := RefC.open h1.s1; have k4 := blk_cell h2.blk 4; have k5 := blk_cell h2.blk 5; have k6 := blk_cell h2.blk 6; have kf4 := blk_frozen h2.blk 4; have kf5 := blk_frozen h2.blk 5; have kf6 := blk_frozen h2.blk 6; replace k4 : w1.cell? ⟨g, 4, none⟩ = some (.int .i64 arm0) := k4; replace k5 : w1.cell? ⟨g, 5, none⟩ = some (.slice Ak0 keep0.length ck0) := k5; replace k6 : w1.cell? ⟨g, 6, none⟩ = some (.int .i64 torn0) := k6; have H2 := Aside0.mk h2; have HR := Aside0.mk hr; clear h1 h2 hr)
  case inl h =>
    go_end0
    refine ⟨⟨_, rfl⟩, RefP.shut (p := p.trip n keep torn) (arm := 0) (keep := keep) (torn := torn) (vk := .slice A1' keep.length c1') ⟨Int.le_refl _, by unfold Pd.trip; rw [if_neg (by omega)]; rfl⟩ ?_⟩
    exact (RefC.shut HR.out (((H2.out.store 4 (.int .i64 0)).store 5 (.slice A1' keep.length c1')).store 6 (.int .i64 torn))).s2.tail
  case inr h =>
    go_end0
    refine ⟨⟨_, rfl⟩, RefP.shut (p := p.trip n keep torn) (arm := n) (keep := keep) (torn := torn) (vk := .slice A1' keep.length c1') (Armed.trip_ p keep torn h) ?_⟩
    exact (RefC.shut HR.out (((H2.out.store 4 (.int .i64 n)).store 5 (.slice A1' keep.length c1')).store 6 (.int .i64 torn))).s2.tail
set_option maxHeartbeats 4000000 in
set_option maxRecDepth 100000 in
theorem rread_calls (hS : Sp w (RefP g p :: F)) (hok : p.Ok) (i : Int) :
    Calls Try.prog 36 #[.pointer (some ⟨g, 0, none⟩), .int .i64 i] w fun e w' => ∃ v, e = .returned (.tuple #[v, .int .i64 (p.read i).2]) ∧ Sp w' (Row (Kd.int .u8) 5 v (p.read i).1 :: RefP g p :: F) := by
  have HS := Aside0.mk hS
  obtain ⟨arm, keep, torn, vk, ha, hS⟩ := RefP.open hS
  obtain ⟨A, c, hc, h0, h1, h2, h3, h4, h5, h6, hfz⟩ := cells_R hS
  have hl := hok.len
  clear h1 h3 h4 h5 h6 hfz
  cases ho : p.off
  case true =>
    rw [ho] at h2
    have he : p.read i = ([], 5) := by unfold Pd.read; rw [if_pos ho]
    rw [he]
    clear hS he ho hok hl hc h0 ha
    go_enter Try.func36, Try.ntmps36
    go_wp2
    go_ret2
    exact ⟨_, rfl, HS.out.nilRow _ _⟩
  rw [ho] at h2
  have hsub : IntKind.i64.wrap ((p.slots.length : Int) - 1) = (p.slots.length : Int) - 1 := IntWalk.i64_in _ (by omega)
  by_cases hi : i < 0 ∨ i ≥ p.slots.length
  case pos =>
    have he : p.read i = ([], 7) := by unfold Pd.read; rw [if_neg (by rw [ho]; decide), if_pos hi]
    rw [he]
    have HF := Aside0.mk (in_f i 0 ((p.slots.length : Int) - 1) false (by rcases hi with h | h <;> simp <;> omega))
    clear hS he ho hok hl hc hi ha
    go_enter Try.func36, Try.ntmps36
    go_wp2_with (go_at_call 42; refine (PAll.raddleref09_in.calls i 0 ((p.slots.length : Int) - 1) false _ HF.out).mono ?_; rintro e w1 ⟨rfl, ⟨m, rfl⟩⟩)
    go_ret2
    exact ⟨_, rfl, (HS.out.drewN _).nilRow _ _⟩
  obtain ⟨k, rfl⟩ := Int.eq_ofNat_of_zero_le (show 0 ≤ i by omega)
  have hkl : k < p.slots.length := by omega
  have HF := Aside0.mk (in_f (k : Int) 0 ((p.slots.length : Int) - 1) true (by simp; omega))
  obtain ⟨v, raw, hraw, hS9⟩ := RefC.open hS
  have hrl := raw_length hraw
  obtain ⟨gr, o, cap, rfl⟩ := hS9.tail.rowQ_form (by omega)
  rw [hrl] at hS9
  have hg0 : w.cell? ⟨g, 0, none⟩ = some (.slice (some ⟨gr, o, none⟩) p.slots.length cap) := blk_cell hS9.blk 0
  obtain ⟨A2, m, cc, hm, hmc, hC, hc0, hc1, _, _⟩ := spoilQ hS9.s1 k hkl
  have hrg := raw_get hraw k hkl
  have hb0 : (0 ≤ (k : Int)) = True := eq_true (by omega)
  have hb1 : ((k : Int) < (p.slots.length : Int)) = True := eq_true (by omega)
  cases hsp : (p.slots.getD k ([], false)).2
  case true =>
    have he : p.read (k : Int) = ([], 13) := by unfold Pd.read; rw [if_neg (by rw [ho]; decide), if_neg hi, if_pos (by rw [Int.toNat_natCast]; exact hsp)]
    rw [he]
    have hs2 : (raw.getD k ([], false)).2 = true := by rw [← norm_snd, hrg]; exact hsp
    rw [hs2] at hc1
    clear hS he ho hok hl hc hi hraw hS9 hm hmc hC hrg hsp hs2 h0 hkl ha hrl
    go_enter Try.func36, Try.ntmps36
    go_wp2_with (go_at_call 42; refine (PAll.raddleref09_in.calls (k : Int) 0 ((p.slots.length : Int) - 1) true _ HF.out).mono ?_; rintro e w1 ⟨rfl, ⟨nd, rfl⟩⟩)
    go_ret2
    exact ⟨_, rfl, (HS.out.drewN _).nilRow _ _⟩
  case false =>
    have hs2 : (raw.getD k ([], false)).2 = false := by rw [← norm_snd, hrg]; exact hsp
    have hb : (raw.getD k ([], false)).1 = (p.slots.getD k ([], false)).1 := by rw [← norm_fst _ hs2, hrg]
    have he : p.read (k : Int) = ((p.slots.getD k ([], false)).1, 0) := by unfold Pd.read; rw [if_neg (by rw [ho]; decide), if_neg hi, Int.toNat_natCast, if_neg (by rw [hsp]; decide)]
    rw [he]
    rw [hs2] at hc1
    rw [hb] at hC hm
    have hbl : (p.slots.getD k ([], false)).1.length ≤ 65536 := by
      rw [List.getD_eq_getElem?_getD, List.getElem?_eq_getElem hkl]
      exact hok.bytes _ (List.getElem_mem _)
    subst hm
    generalize (p.slots.getD k ([], false)).1 = b at *
    have HC := Aside0.mk hC
    have HMC := Aside0.mk hmc
    have HBL := Aside0.mk hbl
    clear hS he ho hok hl hc hi hraw hS9 hmc hC hrg hsp hs2 h0 hkl ha hrl hbl hb
    go_enter Try.func36, Try.ntmps36
    go_wp2_with (first
      | (go_at_call 42; refine (PAll.raddleref09_in.calls (k : Int) 0 ((p.slots.length : Int) - 1) true _ HF.out).mono ?_; rintro e w1 ⟨rfl, ⟨nd, rfl⟩⟩)
      | (go_at_call 33; refine (PAll.raddlekeep_Twin.calls A2 cc b b _ (Kd.C_drewN HC.out _) HMC.out (by unfold PAll.raddlekeep_Twin.f; rw [if_pos (by have := HBL.out; simp only [List.length_nil]; omega), List.nil_append])).mono ?_; rintro e w2 ⟨v2, rfl, hr2, hb2⟩; have H2 := Aside0.mk (Sp.made (HS.out.drewN nd) hb2 hr2); clear hr2 hb2))
    go_ret2
    exact ⟨_, rfl, H2.out⟩
set_option maxHeartbeats 4000000 in
set_option maxRecDepth 100000 in
theorem rappend_calls (hS : Sp w (RefP g p :: F)) (hok : p.Ok) (A1 : Option Addr) (c1 : Nat) (b : List Int) (hbc : b.length ≤ c1) (hbl : b.length ≤ 140737488351232) (hC : Kd.C (Kd.int .u8) w A1 b.length b) :
    Calls Try.prog 34 #[.pointer (some ⟨g, 0, none⟩), .slice A1 b.length c1] w fun e w' => e = .returned (.int .i64 (p.append b).2) ∧ Sp w' (RefP g (p.append b).1 :: F) := by
  have HS := Aside0.mk hS
  obtain ⟨arm, keep, torn, vk, ha, hS⟩ := RefP.open hS
  obtain ⟨A, c, hc, h0, h1, h2, h3, h4, h5, h6, hfz⟩ := cells_R hS
  have hl := hok.len
  clear h1 h3 h4 h5 h6 hfz
  cases ho : p.off
  case true =>
    rw [ho] at h2
    have he : p.append b = (p, 5) := by unfold Pd.append; rw [if_pos ho]
    rw [he]
    clear hS he ho hok hl hc h0 ha hbl hbc hC
    go_enter Try.func34, Try.ntmps34
    go_wp2
    go_ret
    exact ⟨rfl, HS.out⟩
  rw [ho] at h2
  by_cases hb1 : b.length > 65536
  case pos =>
    have he : p.append b = (p, 2) := by unfold Pd.append; rw [if_neg (by rw [ho]; decide), if_pos hb1]
    rw [he]
    have hd : decide ((65536 : Int) < (b.length : Int)) = true := decide_eq_true (by omega)
    clear hS he ho hok hbl hbc hC hl hc h0 hb1 ha
    go_enter Try.func34, Try.ntmps34
    go_wp2
    go_ret
    exact ⟨rfl, HS.out⟩
  have hd : decide ((65536 : Int) < (b.length : Int)) = false := decide_eq_false (by omega)
  by_cases hs1 : p.slots.length ≥ 4000
  case pos =>
    have he : p.append b = (p, 6) := by unfold Pd.append; rw [if_neg (by rw [ho]; decide), if_neg hb1, if_pos hs1]
    rw [he]
    have hd2 : decide ((4000 : Int) ≤ (p.slots.length : Int)) = true := decide_eq_true (by omega)
    clear hS he ho hok hbl hbc hC hl hc hb1 hs1 ha
    go_enter Try.func34, Try.ntmps34
    go_wp2
    go_ret
    exact ⟨rfl, HS.out⟩
  have hd2 : decide ((4000 : Int) ≤ (p.slots.length : Int)) = false := decide_eq_false (by omega)
  have HC := Aside0.mk hC
  have HBC := Aside0.mk hbc
  have HB := Aside0.mk hb1
  have HL := Aside0.mk hs1
  have HOK := Aside0.mk (pushed_ok hok b (by omega) (by omega))
  have HOF := Aside0.mk (show ({ p with slots := p.slots ++ [(b, false)] } : Pd).off = false from ho)
  obtain ⟨r, hr⟩ : ∃ r, ({ p with slots := p.slots ++ [(b, false)] } : Pd).spend.2 = r := ⟨_, rfl⟩
  have he : p.append b = (({ p with slots := p.slots ++ [(b, false)] } : Pd).spend.1, if r then 0 else 5) := by unfold Pd.append; rw [if_neg (by rw [ho]; decide), if_neg hb1, if_neg hs1, hr]
  rw [he]
  have HR := Aside0.mk hr
  obtain ⟨v, raw, hraw, hS9⟩ := RefC.open hS
  have hrl := raw_length hraw
  obtain ⟨B, d, rfl, hd9, _⟩ := hS9.tail.rowQ
  rw [hrl] at hS9
  replace h0 : w.cell? ⟨g, 0, none⟩ = some (.slice B p.slots.length d) := blk_cell hS9.blk 0
  have HRAW := Aside0.mk hraw
  have HA := Aside0.mk ha
  have HRL := Aside0.mk hrl
  have hSd := hS9.drew
  have hCd := Kd.C_drew HC.out
  clear hS ho hok hbl hbc hC hl hc hb1 hs1 he hr hraw hrl hd9 ha hS9
  go_enter Try.func34, Try.ntmps34
  go_wp2
  refine start_ (n := 13) (S := fun w' => w'.cell? ⟨g, 0, none⟩ = some (.slice B p.slots.length d) ∧ True) (ds := [12]) #[false, false, false, false, false, false, false, false, false, false, false, false, false] (by kernel_rfl) rfl rfl ⟨h0, trivial⟩ (fun hHeld => ?_)
  generalize w.drew = W at hSd hCd hHeld ⊢
  clear HS h0 h2
  refine Steps.pI_ 0 (some 18) (Steps.Bs 13 1) (by kernel_rfl) (h := ?_)
  refine Steps.pI_ 1 (some 19) (Steps.Bs 13 3) (by kernel_rfl) (h := ?_)
  refine Steps.pI_ 2 (some 20) (Steps.Bs 13 7) (by kernel_rfl) (h := ?_)
  refine Steps.pI_ 3 (some 21) (Steps.Bs 13 15) (by kernel_rfl) (h := ?_)
  refine Steps.pI_ 5 (some 23) (Steps.Bs 13 47) (by kernel_rfl) (h := ?_)
  refine Steps.tI_ 4 (some 22) (Steps.Bs 13 63) (by kernel_rfl) hHeld (h := ?_)
  refine one_ (i := 6) (N := some 24) (Steps.Bs 13 127) rfl rfl (by kernel_rfl) (by decide) (fun K hK => ?_)
  refine goes_ Try.func33 (by kernel_rfl) rfl #[.slice A1 b.length c1] (by rfl) rfl rfl (by (try simp only [List.map_toArray, List.map_cons, List.map_nil]); first | done | rfl) ?_
  refine (PAll.raddlekeep_Twin.calls A1 c1 b b _ hCd HBC.out (by unfold PAll.raddlekeep_Twin.f; rw [if_pos (by have := HB.out; simp only [List.length_nil]; omega), List.nil_append])).mono ?_
  rintro e w' ⟨v, rfl, hr, hb⟩
  refine ⟨_, rfl, ?_⟩
  obtain ⟨vA, vc, rfl⟩ := Kd.R_slice hr
  have hS1 := Sp.made hSd hb hr
  have hHeld1 : w'.cell? ⟨g, 0, none⟩ = some (.slice B p.slots.length d) := (hb.cell (World.block_lt_of_cell? W _ hHeld.1)).trans hHeld.1
  clear hHeld hr hb hCd hSd
  refine hK.out _ _ ⟨hHeld1, trivial⟩ (fun _ => ?_)
  clear hK K
  refine norm_ (a' := ?_) ?_ ?_
  rotate_left
  · show Act.put _ (some 24) _ = _
    simp only [Act.put, List.setIfInBounds_toArray, List.set_cons_zero, List.set_cons_succ, i64_w, i32_w]
    rfl
  refine Steps.pI_ 7 (some 25) (Steps.Bs 13 255) (by kernel_rfl) (h := ?_)
  refine one_ (i := 8) (N := some 26) (Steps.Bs 13 511) rfl rfl (by kernel_rfl) (by decide) (fun K hK => ?_)
  refine value_ (w1 := ?_) (v := ?_) (by rfl) rfl ?_ ?_
  rotate_left 2
  · go_simp
    constructor
    · rfl
    · rfl
  refine hK.out _ _ ⟨(Below.cell (below_alloc (Below.refl _ _) _) (World.block_lt_of_cell? w' _ hHeld1)).trans hHeld1, trivial⟩ (fun _ => ?_)
  clear hK K
  refine norm_ (a' := ?_) ?_ ?_
  rotate_left
  · show Act.put _ (some 26) _ = _
    simp only [Act.put, List.setIfInBounds_toArray, List.set_cons_zero, List.set_cons_succ, i64_w, i32_w]
    rfl
  refine one_ (i := 9) (N := some 27) (Steps.Bs 13 1023) rfl rfl (by kernel_rfl) (by decide) (fun K hK => ?_)
  have hS3 := ((Sp.as hS1 (b := El kSl (b, false) [.slice vA b.length vc, .bool false]) (fun ok h => ⟨[_], [_], rfl, ⟨_, rfl, h⟩, rfl⟩)).s2)
  have HS3 := Aside0.mk hS3
  clear hS3 hS1
  refine Sp.appendQ_step kSl (W := w') (by rfl) (.tmp 22) (.tmp 26) 49 66 (.agg #[.slice none 0 0, .bool false]) 32 rfl Try.underlying49 (by kernel_rfl) rfl (by decide) (by omega) (.slice B p.slots.length d) raw (b, false) [.slice vA b.length vc, .bool false] rfl rfl HS3.out (by have := HL.out; have := HRL.out; omega) ?_
  intro v1 w1 hS4
  have hg1 := hS4.s1.blk
  refine hK.out _ _ ⟨blk_cell hg1 0, trivial⟩ (fun _ => ?_)
  clear hK K
  refine norm_ (a' := ?_) ?_ ?_
  rotate_left
  · show Act.put _ (some 27) _ = _
    simp only [Act.put, List.setIfInBounds_toArray, List.set_cons_zero, List.set_cons_succ, i64_w, i32_w]
    rfl
  refine Steps.pI_ 10 (some 28) (Steps.Bs 13 2047) (by kernel_rfl) (h := ?_)
  refine Steps.pI_ 11 (some 29) (Steps.Bs 13 4095) (by kernel_rfl) (h := ?_)
  refine last_ (i := 12) (N := none) (Steps.Bs 13 8191) rfl rfl (by kernel_rfl) (by decide) (fun K hK => ?_)
  have hc0 : w1.cell? ⟨g, 0, none⟩ = some (.slice B p.slots.length d) := blk_cell hg1 0
  have hf0 := blk_frozen hg1 0
  obtain ⟨vA1, vc1, rfl⟩ : ∃ A c, v1 = .slice A (raw ++ [(b, false)]).length c := (hS4.rowQ).elim fun A h => h.elim fun c h => ⟨A, c, h.1⟩
  refine skip_ (w1 := ?_) (by rfl) rfl ?_ ?_
  rotate_left
  · go_simp
    rfl
  refine hK.out _ _ ?_
  clear hK K
  refine done_ (by kernel_rfl) ?_
  have hS5 := (hS4.s1.store 0 (.slice vA1 (raw.length + 1) vc1))
  have hz : (raw ++ [(b, false)]).length = raw.length + 1 := by simp
  rw [hz] at hS5
  have hS6 : Sp _ (RefP g { p with slots := p.slots ++ [(b, false)] } :: F) := RefP.shut (p := { p with slots := p.slots ++ [(b, false)] }) HA.out (RefC.shut (by rw [List.map_append, HRAW.out]; rfl) hS5)
  have HS6 := Aside0.mk hS6
  clear hS6 hS5 hS4 hc0 hf0 hg1 HS3 hz
  cases r
  all_goals go_wp2_with (go_at_call 41; refine (rspend_calls HS6.out HOK.out HOF.out).mono ?_; rw [HR.out]; rintro e w5 ⟨rfl, hS7⟩; have HS7 := Aside0.mk hS7; clear hS7)
  all_goals go_ret
  all_goals exact ⟨rfl, HS7.out⟩
theorem rcrash_calls {K : Part} (hS : Sp w (RefP g p :: K :: F)) (hok : p.Ok) (A1 : Option Addr) (c1 : Nat) (keep : List Bool) (torn : Int) (hK : ∀ w ok, K.P w ok → Kd.C Kd.bool w A1 keep.length keep) :
    Calls Try.prog 30 #[.pointer (some ⟨g, 0, none⟩), .slice A1 keep.length c1, .int .i64 torn] w fun e w' => (∃ v, e = .returned v) ∧ Sp w' (RefP g (p.crash keep torn) :: K :: F) := by
  have hS0 := hS
  obtain ⟨arm, keep0, torn0, vk, ha, hS⟩ := RefP.open hS
  cases ho : p.off
  case true =>
    rw [ho] at hS
    refine (rcrash_off A1 keep.length c1 torn hS).mono ?_
    rintro e w' ⟨h1, rfl⟩
    rw [Pd.crash_off p ho]
    exact ⟨h1, hS0⟩
  case false =>
    refine (rcrash_on A1 c1 keep torn ho hok hS.s2.s1 hK).mono ?_
    rintro e w' ⟨h1, h2⟩
    refine ⟨h1, RefP.shut (p := p.crash keep torn) (arm := 0) (keep := keep0) (torn := torn0) (vk := vk) ?_ ?_⟩
    · rw [Pd.crash_on p ho]; exact Armed.zero _ _
    · have h3 := h2.s2.s1
      rw [Pd.crash_on p ho] at h3 ⊢
      exact h3
end
end Go.Proofs.Ytjpaaicgkdnalaa.Pads
