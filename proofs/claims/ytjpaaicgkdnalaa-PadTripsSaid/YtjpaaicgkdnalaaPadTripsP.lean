/-
  PadTrips, as the machine walks it.
  Conditions: none.
-/
import Derived.Test.YtjpaaicgkdnalaaPadPlain
namespace Go.Proofs.Ytjpaaicgkdnalaa.Pads
open Go.RowKit Go.Proofs.YtjpaaicgkdnalaaW.PrintWords Go.Proofs.YtjpaaicgkdnalaaW.PrintLast Go.Proofs.YtjpaaicgkdnalaaW.PrintMore Go.Proofs.Ytjpaaicgkdnalaa.Sep
set_option linter.unusedVariables false
set_option linter.unusedSimpArgs false
/-- What is known ahead of round i (from 1 on) of n. -/
structure Tr (K : List Bool) (n i : Nat) (p : Pd) : Prop where
  ok : p.Ok
  len : p.slots.length < i
  on : i ≤ n → p.off = false ∧ p.life = 0 ∧ p.arm = some (((n + 1 - i : Nat) : Int), K, -1)
  gone : n < i → p.off = true ∧ p.life = 1 ∧ p.arm = none
theorem Tr.spend {K : List Bool} {n i : Nat} {p : Pd} (hok : p.Ok) (hl : p.slots.length ≤ i) (hon : p.off = false) (hli : p.life = 0) (ha : p.arm = some (((n + 1 - i : Nat) : Int), K, -1)) (hi : i ≤ n) :
    (i < n → p.spend.2 = true ∧ p.spend.1 = { p with arm := some (((n + 1 - (i + 1) : Nat) : Int), K, -1) }) ∧ (i = n → p.spend.2 = false ∧ Tr K n (i + 1) p.spend.1) := by
  refine ⟨fun h => ?_, fun h => ?_⟩
  · rw [Pd.spend_go ha (by omega)]
    refine ⟨rfl, ?_⟩
    dsimp only
    rw [show ((n + 1 - i : Nat) : Int) - 1 = ((n + 1 - (i + 1) : Nat) : Int) from by omega]
  · have h2 := Pd.spend_ok hok hon
    have h3 := Pd.spend_len hok hon
    rw [Pd.spend_crash ha (by omega)] at h2 h3 ⊢
    refine ⟨rfl, h2, by rw [h3]; omega, fun h4 => by omega, fun _ => ?_⟩
    dsimp only
    rw [Pd.crash_arm p hon, Pd.crash_on p hon, hli]
    exact ⟨rfl, by dsimp only; unfold wrap64; omega, rfl⟩
theorem Tr.sync {K : List Bool} {n i : Nat} {p : Pd} (h : Tr K n i p) (hi : i ≤ n) : ∃ q, p.sync = (q, if i = n then 5 else 0) ∧ Tr K n (i + 1) q := by
  obtain ⟨h1, h2, h3⟩ := h.on hi
  obtain ⟨ha, hb⟩ := Tr.spend h.ok (Nat.le_of_lt h.len) h1 h2 h3 hi
  have hk := Pd.sync_ok h.ok
  unfold Pd.sync at hk ⊢
  rw [if_neg (by rw [h1]; decide)] at hk ⊢
  by_cases hin : i = n
  · obtain ⟨e1, e2⟩ := hb hin
    rw [if_pos hin, e1, if_neg (by decide)]
    exact ⟨_, rfl, e2⟩
  · obtain ⟨e1, e2⟩ := ha (by omega)
    rw [e1, if_pos rfl] at hk
    rw [if_neg hin, e1, if_pos rfl, e2]
    rw [e2] at hk
    refine ⟨_, rfl, hk, by have := h.len; dsimp only; omega, fun _ => ⟨h1, h2, rfl⟩, fun h4 => by omega⟩
theorem Tr.append {K : List Bool} {n i : Nat} {p : Pd} (h : Tr K n i p) (hi : i ≤ n) (hn : n ≤ 100) (b : List Int) (hbl : b.length ≤ 65536) : ∃ q, p.append b = (q, if i = n then 5 else 0) ∧ Tr K n (i + 1) q := by
  obtain ⟨h1, h2, h3⟩ := h.on hi
  have hl := h.len
  obtain ⟨ha, hb⟩ := Tr.spend (p := { p with slots := p.slots ++ [(b, false)] }) (pushed_ok h.ok b hbl (by omega)) (by simp; omega) h1 h2 h3 hi
  have hk := Pd.append_ok h.ok b
  unfold Pd.append at hk ⊢
  rw [if_neg (by rw [h1]; decide), if_neg (by omega), if_neg (by omega)] at hk ⊢
  by_cases hin : i = n
  · obtain ⟨e1, e2⟩ := hb hin
    rw [if_pos hin, e1, if_neg (by decide)]
    exact ⟨_, rfl, e2⟩
  · obtain ⟨e1, e2⟩ := ha (by omega)
    rw [if_neg hin, e1, if_pos rfl]
    rw [e2] at hk ⊢
    refine ⟨_, rfl, hk, by simp; omega, fun _ => ⟨h1, h2, rfl⟩, fun h4 => by omega⟩
theorem Tr.trim {K : List Bool} {n i : Nat} {p : Pd} (h : Tr K n i p) (hi : i ≤ n) : p.trim (-1) = (p, 1) := by
  unfold Pd.trim; rw [if_neg (by rw [(h.on hi).1]; decide), if_pos (.inl (by decide))]
theorem Tr.cut {K : List Bool} {n i : Nat} {p : Pd} (h : Tr K n i p) (hi : i ≤ n) : p.cut (-1) = (p, 1) := by
  unfold Pd.cut; rw [if_neg (by rw [(h.on hi).1]; decide), if_pos (.inl (by decide))]
theorem Tr.long {K : List Bool} {n i : Nat} {p : Pd} (h : Tr K n i p) (hi : i ≤ n) (b : List Int) (hb : b.length > 65536) : p.append b = (p, 2) := by
  unfold Pd.append; rw [if_neg (by rw [(h.on hi).1]; decide), if_pos hb]
theorem Tr.offSync {K : List Bool} {n i : Nat} {p : Pd} (h : Tr K n i p) (hi : n < i) : p.sync = (p, 5) := by
  unfold Pd.sync; rw [if_pos (h.gone hi).1]
theorem Tr.back {K : List Bool} {n i : Nat} {p : Pd} (h : Tr K n i p) (hi : n < i) : p.start.sync = ({ p.start with safe := p.start.slots.length }, 0) := by
  unfold Pd.sync
  rw [if_neg (by show ¬ (false = true); decide), Pd.spend_none (show p.start.arm = none from (h.gone hi).2.2)]
  rfl
theorem Tr.start {K : List Bool} (hK : K.length ≤ 100) (n : Nat) (hn : 1 ≤ n) (hn2 : n ≤ 100) : Tr K n 1 (Pd.new.trip (n : Int) K (-1)) := by
  refine ⟨Pd.trip_ok Pd.new_ok _ _ _ (by omega) (by omega), ?_, fun _ => ?_, fun h => by omega⟩
  · show (0 : Nat) < 1; decide
  · refine ⟨rfl, rfl, ?_⟩
    unfold Pd.trip
    rw [if_pos (by omega)]
    rfl
end Go.Proofs.Ytjpaaicgkdnalaa.Pads
