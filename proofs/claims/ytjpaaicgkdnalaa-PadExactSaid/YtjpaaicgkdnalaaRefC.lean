/-
  The page's pad: Trim, Cut, as the machine walks them.
  Conditions: none.
-/
import Derived.Test.YtjpaaicgkdnalaaRefB
import Derived.Test.YtjpaaicgkdnalaaPadF
import Derived.Test.YtjpaaicgkdnalaaPAllx1
namespace Go.Proofs.Ytjpaaicgkdnalaa.Pads
open Go.RowKit Go.Proofs.YtjpaaicgkdnalaaW.PrintWords Go.Proofs.YtjpaaicgkdnalaaW.PrintLast Go.Proofs.YtjpaaicgkdnalaaW.PrintMore Go.Proofs.Ytjpaaicgkdnalaa.Sep
set_option linter.unusedVariables false
set_option linter.unusedSimpArgs false
attribute [local go_sem] max2_int min2_int max_two min_two max_three min_three max_four min_four
section
variable {w : World} {g : Nat} {p : Pd} {F : List Part} {l : List Sl} {safe : Nat} {off : Bool} {life arm torn : Int} {vk : Value} {keep : List Bool}
theorem in_f (a b c : Int) (r : Bool) (h : r = (decide (b ≤ a) && decide (a ≤ c))) : PAll.raddleref09_in.f a b c = some r := by
  subst h
  unfold PAll.raddleref09_in.f
  by_cases h1 : a ≥ b
  · rw [if_pos h1, decide_eq_true (show b ≤ a from h1)]; simp
  · rw [if_neg h1, decide_eq_false (show ¬ b ≤ a from h1)]; simp
set_option maxHeartbeats 4000000 in
set_option maxRecDepth 100000 in
theorem rtrim_calls (hS : Sp w (RefP g p :: F)) (hok : p.Ok) (n : Int) : Calls Try.prog 28 #[.pointer (some ⟨g, 0, none⟩), .int .i64 n] w fun e w' => e = .returned (.int .i64 (p.trim n).2) ∧ Sp w' (RefP g (p.trim n).1 :: F) := by
  have HS0 := Aside0.mk hS
  obtain ⟨arm, keep, torn, vk, ha, hS⟩ := RefP.open hS
  obtain ⟨A, c, hc, h0, h1, h2, h3, h4, h5, h6, hfz⟩ := cells_R hS
  clear h0 h3 h4 h5 h6 hfz hc hS ha
  cases ho : p.off
  case true =>
    rw [ho] at h2
    have he : p.trim n = (p, 5) := by unfold Pd.trim; rw [if_pos ho]
    rw [he]
    clear hok ho he h1
    go_enter Try.func28, Try.ntmps28
    go_wp2
    go_ret
    exact ⟨rfl, HS0.out⟩
  rw [ho] at h2
  have HOK := Aside0.mk hok
  have HOF := Aside0.mk ho
  by_cases hn : n < 0 ∨ n > p.safe
  case pos =>
    have he : p.trim n = (p, 1) := by unfold Pd.trim; rw [if_neg (by rw [ho]; decide), if_pos hn]
    rw [he]
    have HF := Aside0.mk (in_f n 0 (p.safe : Int) false (by rcases hn with h | h <;> simp <;> omega))
    clear hok ho he hn
    go_enter Try.func28, Try.ntmps28
    go_wp2_with (go_at_call 42; refine (PAll.raddleref09_in.calls n 0 (p.safe : Int) false _ HF.out).mono ?_; rintro e w1 ⟨rfl, ⟨m, rfl⟩⟩)
    go_ret
    exact ⟨rfl, HS0.out.drewN _⟩
  obtain ⟨m, rfl⟩ := Int.eq_ofNat_of_zero_le (show 0 ≤ n by omega)
  have HF := Aside0.mk (in_f (m : Int) 0 (p.safe : Int) true (by simp; omega))
  have hok1 := Pd.spend_ok hok ho
  cases hr : p.spend.2
  case false =>
    have he : p.trim (m : Int) = (p.spend.1, 5) := by unfold Pd.trim; rw [if_neg (by rw [ho]; decide), if_neg hn, if_neg (by rw [hr]; decide)]
    rw [he]
    have HR := Aside0.mk hr
    clear hok ho he hr hok1 hn
    go_enter Try.func28, Try.ntmps28
    go_wp2_with (first
      | (go_at_call 42; refine (PAll.raddleref09_in.calls (m : Int) 0 (p.safe : Int) true _ HF.out).mono ?_; rintro e w1 ⟨rfl, ⟨nd, rfl⟩⟩; have H1 := Aside0.mk (HS0.out.drewN nd))
      | (go_at_call 41; refine (rspend_calls H1.out HOK.out HOF.out).mono ?_; rw [HR.out]; rintro e w5 ⟨rfl, hS7⟩; have HS7 := Aside0.mk hS7; clear hS7))
    go_ret
    exact ⟨rfl, HS7.out⟩
  case true =>
    obtain ⟨hp1, hp2, hp3, hp4⟩ := Pd.spend_true hr
    have he : p.trim (m : Int) = ({ p.spend.1 with slots := p.spend.1.slots.drop m, safe := p.spend.1.safe - m }, 0) := by unfold Pd.trim; rw [if_neg (by rw [ho]; decide), if_neg hn, if_pos hr]; simp only [Int.toNat_natCast]
    rw [he]
    have HR := Aside0.mk hr
    have hmq : m ≤ p.spend.1.safe := by omega
    generalize hq : p.spend.1 = q at *
    have HQ := Aside0.mk hq
    have hql := hok1.safe
    have hqn := hok1.len
    clear hok ho he hr hok1 hq hn hp1 hp2 hp3 hp4
    go_enter Try.func28, Try.ntmps28
    go_wp2_with (first
      | (go_at_call 42; refine (PAll.raddleref09_in.calls (m : Int) 0 (p.safe : Int) true _ HF.out).mono ?_; rintro e w1 ⟨rfl, ⟨nd, rfl⟩⟩; have H1 := Aside0.mk (HS0.out.drewN nd))
      | (go_at_call 41; refine (rspend_calls H1.out HOK.out HOF.out).mono ?_; rw [HR.out, HQ.out]; rintro e w5 ⟨rfl, hS7⟩; have HS7 := Aside0.mk hS7; clear hS7))
    obtain ⟨arm2, keep2, torn2, vk2, ha2, hS8⟩ := RefP.open HS7.out
    obtain ⟨v, raw, hraw, hS9⟩ := RefC.open hS8
    obtain ⟨B, d, rfl, hd, _⟩ := hS9.tail.rowQ
    have hrl := raw_length hraw
    rw [hrl] at hS9 hd
    have k0 : w5.cell? ⟨g, 0, none⟩ = some (.slice B q.slots.length d) := blk_cell hS9.blk 0
    have k1 : w5.cell? ⟨g, 1, none⟩ = some (.int .i64 q.safe) := blk_cell hS9.blk 1
    have kf0 : w5.frozen? ⟨g, 0, none⟩ = false := blk_frozen hS9.blk 0
    have kf1 : w5.frozen? ⟨g, 1, none⟩ = false := blk_frozen hS9.blk 1
    have HA2 := Aside0.mk ha2
    have HRAW := Aside0.mk hraw
    have HS9 := Aside0.mk hS9
    have hml : m ≤ q.slots.length := by omega
    have hsub : IntKind.i64.wrap ((q.safe : Int) - (m : Int)) = ((q.safe - m : Nat) : Int) := by rw [IntWalk.i64_in _ (by omega)]; omega
    clear hS8 hS9 ha2 hraw H1 HS7 h1 h2
    go_region
    all_goals go_wp2
    all_goals go_ret
    case inl h =>
      refine ⟨rfl, ?_⟩
      have h10 := Sp.dropQ (k := m) HS9.out.s1 (by rw [hrl]; exact hml)
      rw [if_pos h, show d - m = 0 by omega] at h10
      exact RefP.shut (p := { q with slots := q.slots.drop m, safe := q.safe - m }) HA2.out (RefC.shut (by rw [List.map_drop, HRAW.out]) ((h10.s1.store 0 (.slice B (q.slots.length - m) 0)).store 1 (.int .i64 ((q.safe - m : Nat) : Int))).drew)
    case inr h =>
      refine ⟨rfl, ?_⟩
      have h10 := Sp.dropQ (k := m) HS9.out.s1 (by rw [hrl]; exact hml)
      rw [if_neg h] at h10
      exact RefP.shut (p := { q with slots := q.slots.drop m, safe := q.safe - m }) HA2.out (RefC.shut (by rw [List.map_drop, HRAW.out]) ((h10.s1.store 0 (.slice (B.map (·.add (m * 2))) (q.slots.length - m) (d - m))).store 1 (.int .i64 ((q.safe - m : Nat) : Int))).drew)
set_option maxHeartbeats 4000000 in
set_option maxRecDepth 100000 in
theorem rcut_calls (hS : Sp w (RefP g p :: F)) (hok : p.Ok) (n : Int) : Calls Try.prog 29 #[.pointer (some ⟨g, 0, none⟩), .int .i64 n] w fun e w' => e = .returned (.int .i64 (p.cut n).2) ∧ Sp w' (RefP g (p.cut n).1 :: F) := by
  have HS0 := Aside0.mk hS
  obtain ⟨arm, keep, torn, vk, ha, hS⟩ := RefP.open hS
  obtain ⟨A, c, hc, h0, h1, h2, h3, h4, h5, h6, hfz⟩ := cells_R hS
  clear h1 h3 h4 h5 h6 hfz hc hS ha
  cases ho : p.off
  case true =>
    rw [ho] at h2
    have he : p.cut n = (p, 5) := by unfold Pd.cut; rw [if_pos ho]
    rw [he]
    clear hok ho he h0
    go_enter Try.func29, Try.ntmps29
    go_wp2
    go_ret
    exact ⟨rfl, HS0.out⟩
  rw [ho] at h2
  have HOK := Aside0.mk hok
  have HOF := Aside0.mk ho
  by_cases hn : n < 0 ∨ n > p.slots.length
  case pos =>
    have he : p.cut n = (p, 1) := by unfold Pd.cut; rw [if_neg (by rw [ho]; decide), if_pos hn]
    rw [he]
    have HF := Aside0.mk (in_f n 0 (p.slots.length : Int) false (by rcases hn with h | h <;> simp <;> omega))
    clear hok ho he hn
    go_enter Try.func29, Try.ntmps29
    go_wp2_with (go_at_call 42; refine (PAll.raddleref09_in.calls n 0 (p.slots.length : Int) false _ HF.out).mono ?_; rintro e w1 ⟨rfl, ⟨m, rfl⟩⟩)
    go_ret
    exact ⟨rfl, HS0.out.drewN _⟩
  obtain ⟨m, rfl⟩ := Int.eq_ofNat_of_zero_le (show 0 ≤ n by omega)
  have HF := Aside0.mk (in_f (m : Int) 0 (p.slots.length : Int) true (by simp; omega))
  have hok1 := Pd.spend_ok hok ho
  cases hr : p.spend.2
  case false =>
    have he : p.cut (m : Int) = (p.spend.1, 5) := by unfold Pd.cut; rw [if_neg (by rw [ho]; decide), if_neg hn, if_neg (by rw [hr]; decide)]
    rw [he]
    have HR := Aside0.mk hr
    clear hok ho he hr hok1 hn
    go_enter Try.func29, Try.ntmps29
    go_wp2_with (first
      | (go_at_call 42; refine (PAll.raddleref09_in.calls (m : Int) 0 (p.slots.length : Int) true _ HF.out).mono ?_; rintro e w1 ⟨rfl, ⟨nd, rfl⟩⟩; have H1 := Aside0.mk (HS0.out.drewN nd))
      | (go_at_call 41; refine (rspend_calls H1.out HOK.out HOF.out).mono ?_; rw [HR.out]; rintro e w5 ⟨rfl, hS7⟩; have HS7 := Aside0.mk hS7; clear hS7))
    go_ret
    exact ⟨rfl, HS7.out⟩
  case true =>
    obtain ⟨hp1, hp2, hp3, hp4⟩ := Pd.spend_true hr
    have he : p.cut (m : Int) = ({ p.spend.1 with slots := p.spend.1.slots.take m, safe := min p.spend.1.safe m }, 0) := by unfold Pd.cut; rw [if_neg (by rw [ho]; decide), if_neg hn, if_pos hr]; simp only [Int.toNat_natCast]
    rw [he]
    have HR := Aside0.mk hr
    have hmq : m ≤ p.spend.1.slots.length := by rw [hp1]; omega
    generalize hq : p.spend.1 = q at *
    have HQ := Aside0.mk hq
    have hql := hok1.safe
    have hqn := hok1.len
    clear hok ho he hr hok1 hq hn hp1 hp2 hp3 hp4
    go_enter Try.func29, Try.ntmps29
    go_wp2_with (first
      | (go_at_call 42; refine (PAll.raddleref09_in.calls (m : Int) 0 (p.slots.length : Int) true _ HF.out).mono ?_; rintro e w1 ⟨rfl, ⟨nd, rfl⟩⟩; have H1 := Aside0.mk (HS0.out.drewN nd))
      | (go_at_call 41; refine (rspend_calls H1.out HOK.out HOF.out).mono ?_; rw [HR.out, HQ.out]; rintro e w5 ⟨rfl, hS7⟩; have HS7 := Aside0.mk hS7; clear hS7))
    obtain ⟨arm2, keep2, torn2, vk2, ha2, hS8⟩ := RefP.open HS7.out
    obtain ⟨v, raw, hraw, hS9⟩ := RefC.open hS8
    obtain ⟨B, d, rfl, hd, _⟩ := hS9.tail.rowQ
    have hrl := raw_length hraw
    rw [hrl] at hS9 hd
    have k0 : w5.cell? ⟨g, 0, none⟩ = some (.slice B q.slots.length d) := blk_cell hS9.blk 0
    have k1 : w5.cell? ⟨g, 1, none⟩ = some (.int .i64 q.safe) := blk_cell hS9.blk 1
    have kf0 : w5.frozen? ⟨g, 0, none⟩ = false := blk_frozen hS9.blk 0
    have kf1 : w5.frozen? ⟨g, 1, none⟩ = false := blk_frozen hS9.blk 1
    have HA2 := Aside0.mk ha2
    have HRAW := Aside0.mk hraw
    have HS9 := Aside0.mk hS9
    have hml : m ≤ q.slots.length := by omega
    clear hS8 hS9 ha2 hraw H1 HS7 h0 h2
    go_region
    all_goals go_wp2
    all_goals go_ret
    case inl h =>
      refine ⟨rfl, ?_⟩
      have h10 := Sp.takeQ (m := m) HS9.out.s1 (by rw [hrl]; exact hml)
      have hmn : min q.safe m = m := by omega
      rw [hmn]
      exact RefP.shut (p := { q with slots := q.slots.take m, safe := m }) HA2.out (RefC.shut (by rw [List.map_take, HRAW.out]) ((h10.s1.store 0 (.slice B m d)).store 1 (.int .i64 (m : Int))).drew)
    case inr h =>
      refine ⟨rfl, ?_⟩
      have h10 := Sp.takeQ (m := m) HS9.out.s1 (by rw [hrl]; exact hml)
      have hmn : min q.safe m = q.safe := by omega
      rw [hmn]
      exact RefP.shut (p := { q with slots := q.slots.take m }) HA2.out (RefC.shut (by rw [List.map_take, HRAW.out]) ((h10.s1.store 0 (.slice B m d)).store 1 (.int .i64 (q.safe : Int))).drew)
end
end Go.Proofs.Ytjpaaicgkdnalaa.Pads
