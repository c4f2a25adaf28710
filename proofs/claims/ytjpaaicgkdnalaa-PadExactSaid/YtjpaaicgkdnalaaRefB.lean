/-
  The page's pad: spend, Sync, as the machine walks them.
  Conditions: none.
-/
import Derived.Test.YtjpaaicgkdnalaaRefA
import Derived.StillTailTactics
namespace Go.Proofs.Ytjpaaicgkdnalaa.Pads
open Go.RowKit Go.Proofs.YtjpaaicgkdnalaaW.PrintWords Go.Proofs.YtjpaaicgkdnalaaW.PrintLast Go.Proofs.YtjpaaicgkdnalaaW.PrintMore Go.Proofs.Ytjpaaicgkdnalaa.Sep
set_option linter.unusedVariables false
set_option linter.unusedSimpArgs false
section
variable {w : World} {g : Nat} {p : Pd} {F : List Part} {l : List Sl} {safe : Nat} {off : Bool} {life arm torn : Int} {vk : Value} {keep : List Bool}
theorem Armed.none_ {a : Option (Int × List Bool × Int)} (h : Armed a arm keep torn) (h0 : ¬ 0 < arm) : a = none := by rw [h.2, if_neg h0]
theorem Armed.some_ {a : Option (Int × List Bool × Int)} (h : Armed a arm keep torn) (h0 : 0 < arm) : a = some (arm, keep, torn) := by rw [h.2, if_pos h0]
theorem Armed.zero (keep : List Bool) (torn : Int) : Armed none 0 keep torn := ⟨Int.le_refl _, rfl⟩
theorem Armed.mk_ {n : Int} (keep : List Bool) (torn : Int) (h : 0 < n) : Armed (some (n, keep, torn)) n keep torn := ⟨by omega, by rw [if_pos h]⟩
set_option maxHeartbeats 4000000 in
set_option maxRecDepth 100000 in
theorem rspend_calls (hS : Sp w (RefP g p :: F)) (hok : p.Ok) (ho : p.off = false) : Calls Try.prog 41 #[.pointer (some ⟨g, 0, none⟩)] w fun e w' => e = .returned (.bool p.spend.2) ∧ Sp w' (RefP g p.spend.1 :: F) := by
  have HS0 := Aside0.mk hS
  obtain ⟨arm, keep, torn, vk, ha, hS⟩ := RefP.open hS
  obtain ⟨A, c, hc, h0, h1, h2, h3, h4, h5, h6, hfz⟩ := cells_R hS
  have hf4 := hfz 4
  clear h0 h1 h2 h3 hfz hc
  by_cases h0 : 0 < arm
  case neg =>
    rw [Pd.spend_none (ha.none_ h0)]
    have hd : decide (0 < arm) = false := decide_eq_false h0
    clear hS ha hok ho h0 h5 h6
    go_enter Try.func41, Try.ntmps41
    go_wp2
    go_ret
    exact ⟨rfl, HS0.out⟩
  have hsm := ha.some_ h0
  obtain ⟨ha1, ha2, ha3⟩ := hok.arm _ _ _ hsm
  have hd : decide (0 < arm) = true := decide_eq_true h0
  have hw1 : IntKind.i64.wrap (arm - 1) = arm - 1 := IntWalk.i64_in _ (by omega)
  by_cases h1 : arm - 1 = 0
  case neg =>
    rw [Pd.spend_go hsm (by omega)]
    have hd2 : (arm - 1 == 0) = false := beq_eq_false_iff_ne.mpr h1
    have HS := Aside0.mk hS
    have HA := Aside0.mk (show 0 < arm - 1 by omega)
    clear hS ha hok ho h0 h1 h5 h6 hsm ha1 ha2 ha3 HS0
    go_enter Try.func41, Try.ntmps41
    go_wp2
    go_ret
    refine ⟨rfl, ?_⟩
    obtain ⟨v, raw, hr, hS⟩ := RefC.open HS.out
    exact RefP.shut (p := { p with arm := some (arm - 1, keep, torn) }) (Armed.mk_ keep torn HA.out) (RefC.shut hr (hS.store 4 (.int .i64 (arm - 1))))
  case pos =>
    have hsp : p.spend = (p.crash keep torn, false) := by
      rw [Pd.spend_crash hsm (by omega), Pd.crash_arm p ho]
    rw [hsp]
    have hd2 : (arm - 1 == 0) = true := beq_iff_eq.mpr h1
    obtain ⟨Ak, ck, rfl, hck, hCk⟩ := hS.tail.row
    obtain ⟨v, raw, hr, hSo⟩ := RefC.open hS
    have HS := Aside0.mk (RefC.shut hr (hSo.store 4 (.int .i64 (arm - 1))))
    have HOK := Aside0.mk hok
    have HOF := Aside0.mk ho
    have HCK := Aside0.mk hck
    clear hS ha hok ho h0 h1 hsm ha1 ha2 ha3 HS0 hr hSo hsp hCk hck
    go_enter Try.func41, Try.ntmps41
    go_wp2
    refine wp_region_still_tail 9 (by kernel_rfl) (by kernel_rfl) ?_
    simp only [List.take_succ_cons, List.take_zero, List.drop_succ_cons, List.drop_zero]
    rw [drew_eta]
    repeat still_step
    refine wpStill_nil ?_
    have HSd := Aside0.mk HS.out.drew
    clear HS
    go_wp2_with (go_at_call 30; refine (rcrash_on Ak ck keep torn HOF.out HOK.out HSd.out (fun _ _ h => (Kd.R_reads' h).2.2)).mono ?_; rintro e w4 ⟨⟨v, rfl⟩, h7⟩; have H7 := Aside0.mk h7; clear h7)
    go_ret
    refine ⟨rfl, RefP.shut (p := p.crash keep torn) (arm := 0) (torn := torn) (keep := keep) (vk := .slice Ak keep.length ck) ?_ ?_⟩
    · rw [Pd.crash_on p HOF.out]; exact Armed.zero _ _
    · have h8 := H7.out
      rw [Pd.crash_on p HOF.out] at h8 ⊢
      exact h8
set_option maxHeartbeats 4000000 in
set_option maxRecDepth 100000 in
theorem rsync_calls (hS : Sp w (RefP g p :: F)) (hok : p.Ok) : Calls Try.prog 27 #[.pointer (some ⟨g, 0, none⟩)] w fun e w' => e = .returned (.int .i64 p.sync.2) ∧ Sp w' (RefP g p.sync.1 :: F) := by
  have HS0 := Aside0.mk hS
  obtain ⟨arm, keep, torn, vk, ha, hS⟩ := RefP.open hS
  obtain ⟨A, c, hc, h0, h1, h2, h3, h4, h5, h6, hfz⟩ := cells_R hS
  clear h0 h1 h3 h4 h5 h6 hfz hc hS ha
  cases ho : p.off
  case true =>
    rw [ho] at h2
    have he : p.sync = (p, 5) := by unfold Pd.sync; rw [if_pos ho]
    rw [he]
    clear hok ho he
    go_enter Try.func27, Try.ntmps27
    go_wp2
    go_ret
    exact ⟨rfl, HS0.out⟩
  case false =>
    rw [ho] at h2
    have HOK := Aside0.mk hok
    have HOF := Aside0.mk ho
    have hok1 := Pd.spend_ok hok ho
    cases hr : p.spend.2
    case false =>
      have he : p.sync = (p.spend.1, 5) := by unfold Pd.sync; rw [if_neg (by rw [ho]; decide), if_neg (by rw [hr]; decide)]
      rw [he]
      have HR := Aside0.mk hr
      clear hok ho he hr hok1
      go_enter Try.func27, Try.ntmps27
      go_wp2_with (go_at_call 41; refine (rspend_calls HS0.out HOK.out HOF.out).mono ?_; rw [HR.out]; rintro e w5 ⟨rfl, hS7⟩; have HS7 := Aside0.mk hS7; clear hS7)
      go_ret
      exact ⟨rfl, HS7.out⟩
    case true =>
      have he : p.sync = ({ p.spend.1 with safe := p.spend.1.slots.length }, 0) := by unfold Pd.sync; rw [if_neg (by rw [ho]; decide), if_pos hr]
      rw [he]
      have HR := Aside0.mk hr
      generalize hq : p.spend.1 = q at *
      have HQ := Aside0.mk hq
      clear hok ho he hr hok1 hq
      go_enter Try.func27, Try.ntmps27
      go_wp2_with (go_at_call 41; refine (rspend_calls HS0.out HOK.out HOF.out).mono ?_; rw [HR.out, HQ.out]; rintro e w5 ⟨rfl, hS7⟩; obtain ⟨arm2, keep2, torn2, vk2, ha2, hS8⟩ := RefP.open hS7; obtain ⟨B, d, hd, k0, k1, k2, k3, k4, k5, k6, kfz⟩ := cells_R hS8; have kf1 := kfz 1; have HA2 := Aside0.mk ha2; have HS8 := Aside0.mk hS8; clear hS7 hS8 ha2 k2 k3 k4 k5 k6 kfz hd)
      go_ret
      refine ⟨rfl, ?_⟩
      obtain ⟨v, raw, hr, hS⟩ := RefC.open HS8.out
      exact RefP.shut (p := { q with safe := q.slots.length }) HA2.out (RefC.shut hr (hS.store 1 (.int .i64 (q.slots.length : Int))))
end
end Go.Proofs.Ytjpaaicgkdnalaa.Pads
