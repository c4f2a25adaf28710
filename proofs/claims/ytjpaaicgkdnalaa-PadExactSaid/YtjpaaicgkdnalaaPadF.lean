/-
  pad's Trim and Cut, as the machine walks them.
  Conditions: none.
-/
import Derived.Test.YtjpaaicgkdnalaaPadE
import Derived.Test.YtjpaaicgkdnalaaSepQ
namespace Go.Proofs.Ytjpaaicgkdnalaa.Pads
open Go.RowKit Go.Proofs.YtjpaaicgkdnalaaW.PrintWords Go.Proofs.YtjpaaicgkdnalaaW.PrintLast Go.Proofs.YtjpaaicgkdnalaaW.PrintMore Go.Proofs.Ytjpaaicgkdnalaa.Sep
set_option linter.unusedVariables false
set_option linter.unusedSimpArgs false
attribute [local go_sem] max2_int min2_int max_two min_two max_three min_three max_four min_four
section
variable {w : World} {g : Nat} {p : Pd} {F : List Part}
set_option maxHeartbeats 4000000 in
set_option maxRecDepth 100000 in
theorem trim_calls (hS : Sp w (PadP g p :: F)) (hok : p.Ok) (n : Int) :
    Calls Try.prog 25 #[.pointer (some ⟨g, 0, none⟩), .int .i64 n] w fun e w' => e = .returned (.int .i64 (p.trim n).2) ∧ Sp w' (PadP g (p.trim n).1 :: F) := by
  obtain ⟨A, c, t, hc, h0, h1, h2, h3, h4, hfz⟩ := cells_P hS
  clear h0 h3 h4 hfz
  by_cases ho : p.off = true
  · have he : p.trim n = (p, 5) := by unfold Pd.trim; rw [if_pos ho]
    rw [he]
    rw [ho] at h2
    have HS := Aside0.mk hS
    clear hS he ho hok hc h1
    go_enter Try.func25, Try.ntmps25
    go_wp2
    go_ret
    exact ⟨rfl, HS.out⟩
  have ho' : p.off = false := by simpa using ho
  rw [ho'] at h2
  by_cases hn : n < 0 ∨ n > p.safe
  · have he : p.trim n = (p, 1) := by unfold Pd.trim; rw [if_neg ho, if_pos hn]
    rw [he]
    have HS := Aside0.mk hS
    by_cases hn0 : n < 0
    · have hd0 : decide (n < 0) = true := decide_eq_true hn0
      clear hS he ho hok hc hn ho' hn0
      go_enter Try.func25, Try.ntmps25
      go_wp2
      go_ret
      exact ⟨rfl, HS.out⟩
    · have hd0 : decide (n < 0) = false := decide_eq_false hn0
      have hd1 : decide ((p.safe : Int) < n) = true := decide_eq_true (by omega)
      clear hS he ho hok hc hn ho' hn0
      go_enter Try.func25, Try.ntmps25
      go_wp2
      go_ret
      exact ⟨rfl, HS.out⟩
  obtain ⟨m, rfl⟩ := Int.eq_ofNat_of_zero_le (show 0 ≤ n by omega)
  have hd0 : decide ((m : Int) < 0) = false := decide_eq_false (by omega)
  have hd1 : decide (p.safe < m) = false := decide_eq_false (by omega)
  have hms : m ≤ p.safe := by omega
  cases hr : p.spend.2
  · have he : p.trim (m : Int) = (p.spend.1, 5) := by unfold Pd.trim; rw [if_neg ho, if_neg hn, if_neg (by rw [hr]; decide)]
    rw [he]
    have HS := Aside0.mk hS
    have HOK := Aside0.mk hok
    have HOF := Aside0.mk ho'
    have HR := Aside0.mk hr
    clear hS he ho hok hc hn ho' hr
    go_enter Try.func25, Try.ntmps25
    go_wp2_with ((with_reducible refine gate_callee (f := 37) rfl ?_); refine goesL_ (some 23) rfl rfl Try.func37 (by kernel_rfl) rfl #[.pointer (some ⟨g, 0, none⟩)] rfl (by first | rfl | (go_simp; done)) ?_; refine (spend_calls HS.out HOK.out HOF.out).mono ?_; rw [HR.out]; rintro e w5 ⟨rfl, hS7⟩; refine ⟨_, rfl, ?_⟩; have HS7 := Aside0.mk hS7; clear hS7)
    go_ret
    exact ⟨rfl, HS7.out⟩
  obtain ⟨hp1, hp2, hp3, hp4⟩ := Pd.spend_true hr
  have he : p.trim (m : Int) = ({ p.spend.1 with slots := p.spend.1.slots.drop m, safe := p.spend.1.safe - m }, 0) := by unfold Pd.trim; rw [if_neg ho, if_neg hn, if_pos hr]; simp only [Int.toNat_natCast]
  rw [he]
  have hok1 := Pd.spend_ok hok ho'
  have hmq : m ≤ p.spend.1.safe := by omega
  generalize hq : p.spend.1 = q at *
  have HQ := Aside0.mk hq
  have HS := Aside0.mk hS
  have HOK := Aside0.mk hok
  have HOF := Aside0.mk ho'
  have HR := Aside0.mk hr
  have HP2 := Aside0.mk hp2
  have HOK1 := Aside0.mk hok1
  clear hS he ho hok hc hn ho' hr hp1 hp2 hp3 hp4 hok1 hq
  go_enter Try.func25, Try.ntmps25
  go_wp2_with ((with_reducible refine gate_callee (f := 37) rfl ?_); refine goesL_ (some 23) rfl rfl Try.func37 (by kernel_rfl) rfl #[.pointer (some ⟨g, 0, none⟩)] rfl (by first | rfl | (go_simp; done)) ?_; refine (spend_calls HS.out HOK.out HOF.out).mono ?_; rw [HR.out]; rintro e w5 ⟨rfl, hS7⟩; refine ⟨_, rfl, ?_⟩; rw [HQ.out] at hS7; have HS7 := Aside0.mk hS7; clear hS7 HS h1 h2)
  obtain ⟨A, c, t, hc, h0, h1, h2, h3, h4, hfz⟩ := cells_P HS7.out
  have hql := HOK1.out.safe
  clear h2 h3 h4 hfz
  have hSd := HS7.out.drew
  have hml : m ≤ q.slots.length := by omega
  have hsub : IntKind.i64.wrap ((q.safe : Int) - (m : Int)) = ((q.safe - m : Nat) : Int) := by rw [IntWalk.i64_in _ (by have := HOK1.out.len; omega)]; omega
  refine start_ (n := 21) (S := fun w' => w'.cell? ⟨g, 0, none⟩ = some (.slice A q.slots.length c) ∧ w'.cell? ⟨g, 1, none⟩ = some (.int .i64 q.safe)) (ds := [17, 20]) #[false, false, false, false, false, false, false, false, false, false, false, false, false, false, false, false, false, false, false, false, false] (by kernel_rfl) rfl rfl ⟨h0, h1⟩ (fun hHeld => ?_)
  generalize w5.drew = W at hSd hHeld ⊢
  clear HS7 h0 h1
  refine Steps.pI_ 0 (some 25) (Steps.Bs 21 1) (by kernel_rfl) (h := ?_)
  refine Steps.pI_ 1 (some 26) (Steps.Bs 21 3) (by kernel_rfl) (h := ?_)
  refine Steps.pI_ 2 (some 27) (Steps.Bs 21 7) (by kernel_rfl) (h := ?_)
  refine Steps.pI_ 3 (some 28) (Steps.Bs 21 15) (by kernel_rfl) (h := ?_)
  refine Steps.pI_ 4 (some 29) (Steps.Bs 21 31) (by kernel_rfl) (h := ?_)
  refine Steps.tI_ 5 (some 30) (Steps.Bs 21 63) (by kernel_rfl) hHeld (h := ?_)
  refine Steps.pI_ 6 (some 31) (Steps.Bs 21 127) (by kernel_rfl) (h := ?_)
  refine Steps.pI_ 7 (some 32) (Steps.Bs 21 255) (by kernel_rfl) (h := ?_)
  refine Steps.pI_ 9 (some 34) (Steps.Bs 21 767) (by kernel_rfl) (h := ?_)
  refine Steps.pI_ 10 (some 35) (Steps.Bs 21 1791) (by kernel_rfl) (h := ?_)
  refine Steps.pI_ 11 (some 36) (Steps.Bs 21 3839) (by kernel_rfl) (h := ?_)
  refine Steps.tI_ 12 (some 37) (Steps.Bs 21 7935) (by kernel_rfl) hHeld (h := ?_)
  refine Steps.pI_ 13 (some 38) (Steps.Bs 21 16127) (by kernel_rfl) (h := ?_)
  refine Steps.pI_ 14 (some 39) (Steps.Bs 21 32511) (by kernel_rfl) (h := ?_)
  refine one_ (i := 8) (N := some 33) (Steps.Bs 21 32767) rfl rfl (by kernel_rfl) (by decide) (fun K hK => ?_)
  have hdl : (q.slots.drop m).length = q.slots.length - m := List.length_drop
  rw [← hdl]
  obtain ⟨t', hS2⟩ := PadP.open hSd
  obtain ⟨v', hS2⟩ := PadQ.open hS2
  obtain rfl : v' = .slice A q.slots.length c := by
    have h5 : W.cell? ⟨g, 0, none⟩ = some v' := blk_cell hS2.blk 0
    rw [hHeld.1] at h5
    exact (Option.some.inj h5).symm
  refine goes_ Try.func40 (by kernel_rfl) rfl #[.slice (if c = m then A else A.map (·.add (m * 2))) (q.slots.drop m).length (c - m)] (by rfl) rfl rfl (by (try simp only [List.map_toArray, List.map_cons, List.map_nil]); first | done | rfl) ?_
  refine (cloneSl_calls (xs := q.slots) (ys := q.slots.drop m) hS2.s1 (by rw [hdl]; have := HOK1.out.len; omega) (fun ok h => R_dropM (d := kSl) h hml)).mono ?_
  rintro e w' ⟨v1, rfl, hS3⟩
  refine ⟨_, rfl, ?_⟩
  have hg1 := hS3.s1.blk
  have hc0 : w'.cell? ⟨g, 0, none⟩ = some (.slice A q.slots.length c) := blk_cell hg1 0
  have hc1 : w'.cell? ⟨g, 1, none⟩ = some (.int .i64 q.safe) := blk_cell hg1 1
  have hf0 := blk_frozen hg1 0
  have hf1 := blk_frozen hg1 1
  refine hK.out _ _ ⟨hc0, hc1⟩ (fun _ => ?_)
  clear hK K
  refine norm_ (a' := ?_) ?_ ?_
  rotate_left
  · show Act.put _ (some 33) _ = _
    simp only [Act.put, List.setIfInBounds_toArray, List.set_cons_zero, List.set_cons_succ, i64_w, i32_w]
    rfl
  refine Steps.pI_ 15 (some 40) (Steps.Bs 21 65535) (by kernel_rfl) (h := ?_)
  refine Steps.pI_ 16 (some 41) (Steps.Bs 21 131071) (by kernel_rfl) (h := ?_)
  obtain ⟨vA1, vc1, rfl⟩ : ∃ A c, v1 = .slice A (q.slots.drop m).length c := (hS3.row).elim fun A h => h.elim fun c h => ⟨A, c, h.1⟩
  refine last_ (i := 17) (N := none) (Steps.Bs 21 262143) rfl rfl (by kernel_rfl) (by decide) (fun K hK => ?_)
  refine skip_ (w1 := ?_) (by rfl) rfl ?_ ?_
  rotate_left
  · go_simp
    rfl
  refine hK.out _ _ ?_
  clear hK K
  refine Steps.pI_ 18 (some 42) (Steps.Bs 21 524287) (by kernel_rfl) (h := ?_)
  refine Steps.pI_ 19 (some 43) (Steps.Bs 21 1048575) (by kernel_rfl) (h := ?_)
  refine last_ (i := 20) (N := none) (Steps.Bs 21 2097151) rfl rfl (by kernel_rfl) (by decide) (fun K hK => ?_)
  refine skip_ (w1 := ?_) (by rfl) rfl ?_ ?_
  rotate_left
  · go_simp
    rfl
  refine hK.out _ _ ?_
  clear hK K
  refine done_ (by kernel_rfl) ?_
  have hS5 := (hS3.s1.store 0 (.slice vA1 (q.slots.length - m) vc1)).store 1 (.int .i64 ((q.safe - m : Nat) : Int))
  rw [hdl] at hS5
  have HS5 := Aside0.mk hS5
  clear hS5 hS3 hS2 hg1 hc0 hc1 hf0 hf1 hsub hHeld hSd
  go_wp2
  all_goals
    go_ret
    exact ⟨rfl, PadP.shut (p := { q with slots := q.slots.drop m, safe := q.safe - m }) (PadQ.shut (p := { q with slots := q.slots.drop m, safe := q.safe - m }) HS5.out)⟩
set_option maxHeartbeats 4000000 in
set_option maxRecDepth 100000 in
theorem cut_calls (hS : Sp w (PadP g p :: F)) (hok : p.Ok) (n : Int) :
    Calls Try.prog 26 #[.pointer (some ⟨g, 0, none⟩), .int .i64 n] w fun e w' => e = .returned (.int .i64 (p.cut n).2) ∧ Sp w' (PadP g (p.cut n).1 :: F) := by
  obtain ⟨A, c, t, hc, h0, h1, h2, h3, h4, hfz⟩ := cells_P hS
  clear h1 h3 h4 hfz
  by_cases ho : p.off = true
  · have he : p.cut n = (p, 5) := by unfold Pd.cut; rw [if_pos ho]
    rw [he]
    rw [ho] at h2
    have HS := Aside0.mk hS
    clear hS he ho hok hc h0
    go_enter Try.func26, Try.ntmps26
    go_wp2
    go_ret
    exact ⟨rfl, HS.out⟩
  have ho' : p.off = false := by simpa using ho
  rw [ho'] at h2
  by_cases hn : n < 0 ∨ n > p.slots.length
  · have he : p.cut n = (p, 1) := by unfold Pd.cut; rw [if_neg ho, if_pos hn]
    rw [he]
    have HS := Aside0.mk hS
    by_cases hn0 : n < 0
    · have hd0 : decide (n < 0) = true := decide_eq_true hn0
      clear hS he ho hok hc hn ho' hn0
      go_enter Try.func26, Try.ntmps26
      go_wp2
      go_ret
      exact ⟨rfl, HS.out⟩
    · have hd0 : decide (n < 0) = false := decide_eq_false hn0
      have hd1 : decide ((p.slots.length : Int) < n) = true := decide_eq_true (by omega)
      clear hS he ho hok hc hn ho' hn0
      go_enter Try.func26, Try.ntmps26
      go_wp2
      go_ret
      exact ⟨rfl, HS.out⟩
  obtain ⟨m, rfl⟩ := Int.eq_ofNat_of_zero_le (show 0 ≤ n by omega)
  have hd0 : decide ((m : Int) < 0) = false := decide_eq_false (by omega)
  have hd1 : decide (p.slots.length < m) = false := decide_eq_false (by omega)
  have hms : m ≤ p.slots.length := by omega
  cases hr : p.spend.2
  · have he : p.cut (m : Int) = (p.spend.1, 5) := by unfold Pd.cut; rw [if_neg ho, if_neg hn, if_neg (by rw [hr]; decide)]
    rw [he]
    have HS := Aside0.mk hS
    have HOK := Aside0.mk hok
    have HOF := Aside0.mk ho'
    have HR := Aside0.mk hr
    clear hS he ho hok hc hn ho' hr
    go_enter Try.func26, Try.ntmps26
    go_wp2_with ((with_reducible refine gate_callee (f := 37) rfl ?_); refine goesL_ (some 24) rfl rfl Try.func37 (by kernel_rfl) rfl #[.pointer (some ⟨g, 0, none⟩)] rfl (by first | rfl | (go_simp; done)) ?_; refine (spend_calls HS.out HOK.out HOF.out).mono ?_; rw [HR.out]; rintro e w5 ⟨rfl, hS7⟩; refine ⟨_, rfl, ?_⟩; have HS7 := Aside0.mk hS7; clear hS7)
    go_ret
    exact ⟨rfl, HS7.out⟩
  obtain ⟨hp1, hp2, hp3, hp4⟩ := Pd.spend_true hr
  have he : p.cut (m : Int) = ({ p.spend.1 with slots := p.spend.1.slots.take m, safe := min p.spend.1.safe m }, 0) := by unfold Pd.cut; rw [if_neg ho, if_neg hn, if_pos hr]; simp only [Int.toNat_natCast]
  rw [he]
  have hok1 := Pd.spend_ok hok ho'
  have hmq : m ≤ p.spend.1.slots.length := by rw [hp1]; omega
  generalize hq : p.spend.1 = q at *
  have HQ := Aside0.mk hq
  have HS := Aside0.mk hS
  have HOK := Aside0.mk hok
  have HOF := Aside0.mk ho'
  have HR := Aside0.mk hr
  have HP2 := Aside0.mk hp2
  have HOK1 := Aside0.mk hok1
  clear hS he ho hok hc hn ho' hr hp1 hp2 hp3 hp4 hok1 hq
  go_enter Try.func26, Try.ntmps26
  go_wp2_with ((with_reducible refine gate_callee (f := 37) rfl ?_); refine goesL_ (some 24) rfl rfl Try.func37 (by kernel_rfl) rfl #[.pointer (some ⟨g, 0, none⟩)] rfl (by first | rfl | (go_simp; done)) ?_; refine (spend_calls HS.out HOK.out HOF.out).mono ?_; rw [HR.out]; rintro e w5 ⟨rfl, hS7⟩; refine ⟨_, rfl, ?_⟩; rw [HQ.out] at hS7; have HS7 := Aside0.mk hS7; clear hS7 HS h0 h2)
  obtain ⟨A, c, t, hc, h0, h1, h2, h3, h4, hfz⟩ := cells_P HS7.out
  have hql := HOK1.out.safe
  clear h2 h3 h4 hfz
  have hSd := HS7.out.drew
  have hml : m ≤ q.slots.length := hmq
  have hmc : m ≤ c := by omega
  have hsub : mn (q.safe : Int) (m : Int) = ((min q.safe m : Nat) : Int) := by unfold mn; omega
  refine start_ (n := 21) (S := fun w' => w'.cell? ⟨g, 0, none⟩ = some (.slice A q.slots.length c) ∧ w'.cell? ⟨g, 1, none⟩ = some (.int .i64 q.safe)) (ds := [17, 20]) #[false, false, false, false, false, false, false, false, false, false, false, false, false, false, false, false, false, false, false, false, false] (by kernel_rfl) rfl rfl ⟨h0, h1⟩ (fun hHeld => ?_)
  generalize w5.drew = W at hSd hHeld ⊢
  clear HS7 h0 h1
  refine Steps.pI_ 0 (some 26) (Steps.Bs 21 1) (by kernel_rfl) (h := ?_)
  refine Steps.pI_ 1 (some 27) (Steps.Bs 21 3) (by kernel_rfl) (h := ?_)
  refine Steps.pI_ 2 (some 28) (Steps.Bs 21 7) (by kernel_rfl) (h := ?_)
  refine Steps.pI_ 3 (some 29) (Steps.Bs 21 15) (by kernel_rfl) (h := ?_)
  refine Steps.pI_ 4 (some 30) (Steps.Bs 21 31) (by kernel_rfl) (h := ?_)
  refine Steps.tI_ 5 (some 31) (Steps.Bs 21 63) (by kernel_rfl) hHeld (h := ?_)
  refine Steps.pI_ 6 (some 32) (Steps.Bs 21 127) (by kernel_rfl) (h := ?_)
  refine Steps.pI_ 7 (some 33) (Steps.Bs 21 255) (by kernel_rfl) (h := ?_)
  refine Steps.pI_ 9 (some 35) (Steps.Bs 21 767) (by kernel_rfl) (h := ?_)
  refine Steps.pI_ 10 (some 36) (Steps.Bs 21 1791) (by kernel_rfl) (h := ?_)
  refine Steps.pI_ 11 (some 37) (Steps.Bs 21 3839) (by kernel_rfl) (h := ?_)
  refine Steps.tI_ 12 (some 38) (Steps.Bs 21 7935) (by kernel_rfl) hHeld (h := ?_)
  refine Steps.pI_ 13 (some 39) (Steps.Bs 21 16127) (by kernel_rfl) (h := ?_)
  refine Steps.pI_ 14 (some 40) (Steps.Bs 21 32511) (by kernel_rfl) (h := ?_)
  refine one_ (i := 8) (N := some 34) (Steps.Bs 21 32767) rfl rfl (by kernel_rfl) (by decide) (fun K hK => ?_)
  have hdl : (q.slots.take m).length = m := by rw [List.length_take]; omega
  rw [show (Value.slice A m c) = Value.slice A (q.slots.take m).length c from by rw [hdl]]
  obtain ⟨t', hS2⟩ := PadP.open hSd
  obtain ⟨v', hS2⟩ := PadQ.open hS2
  obtain rfl : v' = .slice A q.slots.length c := by
    have h5 : W.cell? ⟨g, 0, none⟩ = some v' := blk_cell hS2.blk 0
    rw [hHeld.1] at h5
    exact (Option.some.inj h5).symm
  refine goes_ Try.func40 (by kernel_rfl) rfl #[.slice A (q.slots.take m).length c] (by rfl) rfl rfl (by (try simp only [List.map_toArray, List.map_cons, List.map_nil]); first | done | rfl) ?_
  refine (cloneSl_calls (xs := q.slots) (ys := q.slots.take m) hS2.s1 (by rw [hdl]; have := HOK1.out.len; omega) (fun ok h => R_takeM (d := kSl) h hml)).mono ?_
  rintro e w' ⟨v1, rfl, hS3⟩
  refine ⟨_, rfl, ?_⟩
  have hg1 := hS3.s1.blk
  have hc0 : w'.cell? ⟨g, 0, none⟩ = some (.slice A q.slots.length c) := blk_cell hg1 0
  have hc1 : w'.cell? ⟨g, 1, none⟩ = some (.int .i64 q.safe) := blk_cell hg1 1
  have hf0 := blk_frozen hg1 0
  have hf1 := blk_frozen hg1 1
  refine hK.out _ _ ⟨hc0, hc1⟩ (fun _ => ?_)
  clear hK K
  refine norm_ (a' := ?_) ?_ ?_
  rotate_left
  · show Act.put _ (some 34) _ = _
    simp only [Act.put, List.setIfInBounds_toArray, List.set_cons_zero, List.set_cons_succ, i64_w, i32_w]
    rfl
  refine Steps.pI_ 15 (some 41) (Steps.Bs 21 65535) (by kernel_rfl) (h := ?_)
  refine Steps.pI_ 16 (some 42) (Steps.Bs 21 131071) (by kernel_rfl) (h := ?_)
  obtain ⟨vA1, vc1, rfl⟩ : ∃ A c, v1 = .slice A (q.slots.take m).length c := (hS3.row).elim fun A h => h.elim fun c h => ⟨A, c, h.1⟩
  refine last_ (i := 17) (N := none) (Steps.Bs 21 262143) rfl rfl (by kernel_rfl) (by decide) (fun K hK => ?_)
  refine skip_ (w1 := ?_) (by rfl) rfl ?_ ?_
  rotate_left
  · go_simp
    rfl
  refine hK.out _ _ ?_
  clear hK K
  refine Steps.pI_ 18 (some 43) (Steps.Bs 21 524287) (by kernel_rfl) (h := ?_)
  refine Steps.pI_ 19 (some 44) (Steps.Bs 21 1048575) (by kernel_rfl) (h := ?_)
  refine last_ (i := 20) (N := none) (Steps.Bs 21 2097151) rfl rfl (by kernel_rfl) (by decide) (fun K hK => ?_)
  refine skip_ (w1 := ?_) (by rfl) rfl ?_ ?_
  rotate_left
  · go_simp
    rfl
  refine hK.out _ _ ?_
  clear hK K
  refine done_ (by kernel_rfl) ?_
  have hS5 := (hS3.s1.store 0 (.slice vA1 m vc1)).store 1 (.int .i64 ((min q.safe m : Nat) : Int))
  rw [hdl] at hS5
  have HS5 := Aside0.mk hS5
  clear hS5 hS3 hS2 hg1 hc0 hc1 hf0 hf1 hsub hHeld hSd
  go_wp2
  all_goals
    go_ret
    have hfin := PadP.shut (p := { q with slots := q.slots.take m, safe := min q.safe m }) (PadQ.shut (p := { q with slots := q.slots.take m, safe := min q.safe m }) HS5.out)
    refine ⟨rfl, ?_⟩
    first
      | (rw [show min q.safe m = m from by omega] at hfin ⊢; exact hfin)
      | (rw [show min q.safe m = q.safe from by omega] at hfin ⊢; exact hfin)
end
end Go.Proofs.Ytjpaaicgkdnalaa.Pads
