/-
  The page's pad: Crash, Start, as the machine walks them.
  Conditions: none.
-/
import Derived.Test.YtjpaaicgkdnalaaRefParts
import Derived.Test.YtjpaaicgkdnalaaPadB
namespace Go.Proofs.Ytjpaaicgkdnalaa.Pads
open Go.RowKit Go.Proofs.YtjpaaicgkdnalaaW.PrintWords Go.Proofs.YtjpaaicgkdnalaaW.PrintLast Go.Proofs.YtjpaaicgkdnalaaW.PrintMore Go.Proofs.Ytjpaaicgkdnalaa.Sep
set_option linter.unusedVariables false
set_option linter.unusedSimpArgs false
section
variable {w : World} {g : Nat} {p : Pd} {F : List Part} {l : List Sl} {safe : Nat} {off : Bool} {life arm torn : Int} {vk : Value} {keep : List Bool}
set_option maxHeartbeats 4000000 in
set_option maxRecDepth 100000 in
theorem rcrash_off (A1 : Option Addr) (n1 c1 : Nat) (t1 : Int) (hS : Sp w (RefC g l safe true life arm vk torn :: F)) : Calls Try.prog 30 #[.pointer (some ⟨g, 0, none⟩), .slice A1 n1 c1, .int .i64 t1] w fun e w' => (∃ v, e = .returned v) ∧ w = w' := by
  obtain ⟨A, c, hc, h0, h1, h2, h3, h4, h5, h6, hfz⟩ := cells_R hS
  clear hS hfz h0 h1 h3 h4 h5 h6
  go_enter Try.func30, Try.ntmps30
  go_wp2
  (try simp only [Exit.inBlock, Exit.then])
  refine bodyPost_ret (results_none rfl _ _ _) rfl ?_
  exact ⟨⟨_, rfl⟩, rfl⟩
set_option maxHeartbeats 4000000 in
set_option maxRecDepth 100000 in
theorem rstart_calls (hS : Sp w (RefP g p :: F)) : Calls Try.prog 31 #[.pointer (some ⟨g, 0, none⟩)] w fun e w' => (∃ v, e = .returned v) ∧ Sp w' (RefP g p.start :: F) := by
  obtain ⟨arm, keep, torn, vk, ha, hS⟩ := RefP.open hS
  obtain ⟨A, c, hc, h0, h1, h2, h3, h4, h5, h6, hfz⟩ := cells_R hS
  have hf2 := hfz 2
  have HS := Aside0.mk hS
  have HA := Aside0.mk ha
  clear hS hfz ha h0 h1 h3 h4 h5 h6
  go_enter Try.func31, Try.ntmps31
  go_wp2
  go_end0
  refine ⟨⟨_, rfl⟩, ?_⟩
  obtain ⟨v, raw, hr, hS⟩ := RefC.open HS.out
  exact RefP.shut (p := p.start) HA.out (RefC.shut hr (hS.store 2 (.bool false)))
set_option maxHeartbeats 4000000 in
set_option maxRecDepth 100000 in
theorem rcrash_on {K : Part} (A1 : Option Addr) (c1 : Nat) (keep : List Bool) (t1 : Int) (ho : p.off = false) (hok : p.Ok) (hS : Sp w (RefC g p.slots p.safe p.off p.life arm vk torn :: K :: F)) (hK : ∀ w ok, K.P w ok → Kd.C Kd.bool w A1 keep.length keep) :
    Calls Try.prog 30 #[.pointer (some ⟨g, 0, none⟩), .slice A1 keep.length c1, .int .i64 t1] w fun e w' => (∃ v, e = .returned v) ∧ Sp w' (RefC g (p.crash keep t1).slots (p.crash keep t1).safe true (wrap64 (p.life + 1)) 0 vk torn :: K :: F) := by
  obtain ⟨A, c, hc, h0, h1, h2, h3, h4, h5, h6, hfz⟩ := cells_R hS
  rw [ho] at h2 hS
  have hf2 := hfz 2
  have hf3 := hfz 3
  have hf4 := hfz 4
  have hs := hok.safe
  have hl := hok.len
  have HS := Aside0.mk hS
  have HK := Aside0.mk hK
  have HO := Aside0.mk hok
  have HOF := Aside0.mk ho
  clear hS hK hfz hok ho
  go_enter Try.func30, Try.ntmps30
  go_wp2
  obtain ⟨v0, raw0, hr0, hS0⟩ := RefC.open HS.out
  have HS1 := Aside0.mk (RefC.shut hr0 (((hS0.store 2 (.bool true)).store 4 (.int .i64 0)).store 3 (.int .i64 (wrap64 (p.life + 1)))))
  clear hS0 hr0
  go_loopg [6] (p.slots.length - p.safe) (fun kq v6 w' => ∃ k : Nat, v6 = .int .i64 (k : Int) ∧ Aside0 (k + kq = p.slots.length - p.safe) ∧ Aside0 (Sp w' (RefC g (upTo p keep t1 k).slots p.safe true (wrap64 (p.life + 1)) 0 vk torn :: K :: F)))
  case atStart => exact ⟨0, rfl, ⟨Nat.zero_add _⟩, ⟨by rw [upTo_zero]; exact HS1.out⟩⟩
  case round =>
    obtain ⟨k, rfl, HK1, HP⟩ := hrel
    clear HS HS1 h0 h1 h2 h3 h4 h5 h6 hf2 hf3 hf4
    have hlen : (upTo p keep t1 k).slots.length = p.slots.length := upTo_length p hs keep t1 k (by have := HK1.out; omega)
    obtain ⟨v, raw, hr, hS2⟩ := RefC.open HP.out
    have hrl := raw_length hr
    rw [hlen] at hrl
    obtain ⟨A', c', rfl, hc', _⟩ := hS2.tail.rowQ
    rw [hrl] at hS2 hc'
    have h0 : wr.cell? ⟨g, 0, none⟩ = _ := blk_cell hS2.blk 0
    have h1 : wr.cell? ⟨g, 1, none⟩ = _ := blk_cell hS2.blk 1
    have hf1 : wr.frozen? ⟨g, 1, none⟩ = false := blk_frozen hS2.blk 1
    have HR := Aside0.mk hr
    have HS2 := Aside0.mk hS2
    clear hr hS2
    by_cases hlt : k < p.slots.length - p.safe
    case neg =>
      have hb1 : decide ((k : Int) < (p.slots.length : Int) - (p.safe : Int)) = false := decide_eq_false (by omega)
      have hkm : k = p.slots.length - p.safe := by have := HK1.out; omega
      have HKM := Aside0.mk hkm
      clear hlt hkm
      go_wp2
      go_quiet (fail)
      go_wp2
      all_goals
        (try simp only [Exit.inBlock, Exit.then])
        go_end0
        refine ⟨⟨_, rfl⟩, ?_⟩
        have he := upTo_all p keep t1 k HKM.out
        rw [Pd.crash_on p HOF.out]
        exact RefC.shut (by rw [← he]; exact HR.out) ((HS2.out.drewN _).store 1 (.int .i64 (p.slots.length : Int)))
    case pos =>
      have hb1 : decide ((k : Int) < (p.slots.length : Int) - (p.safe : Int)) = true := decide_eq_true (by omega)
      obtain ⟨gr, o, cap, hv⟩ := HS2.out.tail.rowQ_form (by omega)
      injection hv with hv1 hv2 hv3
      subst hv1; subst hv3
      clear hv2
      obtain ⟨A2, m, cc, hm, hmc, hC, hc0, hc1, hf2, hSp⟩ := spoilQ HS2.out.s1 (p.safe + k) (by omega)
      have HSP := Aside0.mk hSp
      clear hSp hm hmc hC
      have hnx := upTo_succ p hs keep t1 k (by omega)
      have hi1 : (p.safe : Int) + (k : Int) < (p.slots.length : Int) := by omega
      have hi2 : ((p.safe : Int) + (k : Int)).toNat = p.safe + k := by omega
      have hi3 : IntKind.i64.wrap ((p.safe : Int) + (k : Int)) = (p.safe : Int) + (k : Int) := IntWalk.i64_in _ (by omega)
      have hi0 : 0 ≤ (p.safe : Int) + (k : Int) := by omega
      have hw1 : (k : Int) ≤ 4000 := by omega
      cases gk with
      | zero => exact absurd HK1.out (by omega)
      | succ k1 =>
      have HLT := Aside0.mk hlt
      have HRL := Aside0.mk hrl
      clear hlt hrl
      by_cases hlo : lost keep t1 k
      · rw [if_pos hlo] at hnx
        have HN := Aside0.mk hnx
        clear hnx
        by_cases ht : (k : Int) = t1
        case' pos =>
          have hb2 : ((k : Int) == t1) = true := beq_iff_eq.mpr ht
          clear hlo ht
        case' neg =>
          have hb2 : ((k : Int) == t1) = false := beq_eq_false_iff_ne.mpr ht
          by_cases hkl : keep.length ≤ k
          case' pos =>
            have hb3 : decide (keep.length ≤ k) = true := decide_eq_true hkl
            clear hlo ht hkl
          case' neg =>
            have hb3 : decide (keep.length ≤ k) = false := decide_eq_false hkl
            obtain ⟨ad, rfl, hck⟩ := Kd.at_bool ((HP.out.tail.has).elim fun ok h => HK.out wr ok h) (k : Int) (by omega) (by omega)
            have hkf : rdOf false keep (k : Int) = false := by
              rcases hlo with h | h
              · exact absurd h ht
              · exact h
            rw [hkf, Int.toNat_natCast] at hck
            have hkk : (k : Int) < (keep.length : Int) := by omega
            clear hlo ht hkl hkf
        all_goals
          go_wp2
          go_quiet (fail)
          go_wp2
          go_region
          all_goals
            go_wp2
            go_roundg k1
            case measure => exact Nat.lt_succ_self _
            case rel =>
              refine ⟨k + 1, by first | rfl | simp, ⟨by have := HK1.out; omega⟩, ⟨?_⟩⟩
              rw [HN.out]
              exact RefC.shut (raw_set HR.out (p.safe + k) _) ((HSP.out.drewN _).s1)
      · rw [if_neg hlo] at hnx
        have HN := Aside0.mk hnx
        have hb2 : ((k : Int) == t1) = false := beq_eq_false_iff_ne.mpr (fun h => hlo (.inl h))
        have hkt : keep.getD k false = true := by
          cases hz : keep.getD k false with
          | true => rfl
          | false => exact absurd (.inr hz) hlo
        have hkl : k < keep.length := by
          rcases Nat.lt_or_ge k keep.length with h | h
          · exact h
          · rw [List.getD_eq_getElem?_getD, List.getElem?_eq_none h] at hkt; cases hkt
        have hb3 : decide (keep.length ≤ k) = false := decide_eq_false (by omega)
        obtain ⟨ad, rfl, hck⟩ := Kd.at_bool ((HP.out.tail.has).elim fun ok h => HK.out wr ok h) (k : Int) (by omega) (by omega)
        have hkf : rdOf false keep (k : Int) = true := hkt
        rw [hkf, Int.toNat_natCast] at hck
        have hkk : (k : Int) < (keep.length : Int) := by omega
        clear hlo hkl hkf hkt hnx
        go_wp2
        go_quiet (fail)
        go_wp2
        go_roundg k1
        case measure => exact Nat.lt_succ_self _
        case rel =>
          refine ⟨k + 1, by first | rfl | simp, ⟨by have := HK1.out; omega⟩, ⟨?_⟩⟩
          rw [HN.out]
          exact HP.out.drewN _
end
end Go.Proofs.Ytjpaaicgkdnalaa.Pads
