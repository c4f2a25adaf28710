/-
  PadSafe: the plain part.
  Conditions: none.
-/
import Derived.Test.YtjpaaicgkdnalaaPadActs
namespace Go.Proofs.Ytjpaaicgkdnalaa.Pads
open Go.RowKit Go.Proofs.YtjpaaicgkdnalaaW.PrintWords Go.Proofs.YtjpaaicgkdnalaaW.PrintLast Go.Proofs.YtjpaaicgkdnalaaW.PrintMore Go.Proofs.Ytjpaaicgkdnalaa.Sep PAll
set_option linter.unusedVariables false
set_option linter.unusedSimpArgs false
/-- The rows lie in the first slots, and are safe. -/
structure Kept (rows : List (List Int)) (p : Pd) : Prop where
  safe : rows.length ≤ p.safe
  len : p.safe ≤ p.slots.length
  get : ∀ j : Nat, j < rows.length → p.slots[j]? = some (rd_L2 rows (j : Int), false)
variable {rows : List (List Int)} {p : Pd}
theorem Kept.crash (h : Kept rows p) (keep : List Bool) (torn : Int) : Kept rows (p.crash keep torn) := by
  have hl := Pd.crash_slots_length p h.len keep torn
  cases ho : p.off
  · rw [Pd.crash_on p ho] at hl ⊢
    refine ⟨Nat.le_trans h.safe h.len, by show p.slots.length ≤ _; rw [hl]; exact Nat.le_refl _, fun j hj => ?_⟩
    show (p.slots.take p.safe ++ _)[j]? = _
    rw [List.getElem?_append_left (by rw [List.length_take]; have := h.safe; have := h.len; omega), List.getElem?_take_of_lt (by have := h.safe; omega)]
    exact h.get j hj
  · rw [Pd.crash_off p ho]; exact h
theorem Kept.spend (h : Kept rows p) : Kept rows p.spend.1 := by
  rcases ha : p.arm with _ | ⟨n, k, t⟩
  · rw [Pd.spend_none ha]; exact h
  · by_cases hn : n - 1 > 0
    · rw [Pd.spend_go ha hn]; exact ⟨h.safe, h.len, h.get⟩
    · rw [Pd.spend_crash ha hn]
      exact Kept.crash (p := { p with arm := some (n - 1, k, t) }) ⟨h.safe, h.len, h.get⟩ k t
theorem Kept.sync (h : Kept rows p) : Kept rows p.sync.1 := by
  unfold Pd.sync
  split
  · exact h
  · split
    · exact ⟨Nat.le_trans h.spend.safe h.spend.len, Nat.le_refl _, h.spend.get⟩
    · exact h.spend
theorem Kept.append (h : Kept rows p) (b : List Int) : Kept rows (p.append b).1 := by
  unfold Pd.append
  split
  · exact h
  · split
    · exact h
    · split
      · exact h
      · refine Kept.spend (p := { p with slots := p.slots ++ [(b, false)] }) ⟨h.safe, by show p.safe ≤ (p.slots ++ [(b, false)]).length; rw [List.length_append]; have := h.len; omega, fun j hj => ?_⟩
        show (p.slots ++ [(b, false)])[j]? = _
        rw [List.getElem?_append_left (by have := h.safe; have := h.len; omega)]
        exact h.get j hj
theorem Kept.start (h : Kept rows p) : Kept rows p.start := ⟨h.safe, h.len, h.get⟩
theorem Kept.trip (h : Kept rows p) (n : Int) (keep : List Bool) (torn : Int) : Kept rows (p.trip n keep torn) := ⟨h.safe, h.len, h.get⟩
theorem Kept.read (h : Kept rows p) (i : Nat) (hi : i < rows.length) : p.start.read (i : Int) = (rd_L2 rows (i : Int), 0) := by
  unfold Pd.read Pd.start
  dsimp only
  rw [if_neg (by simp), if_neg (by have := h.safe; have := h.len; omega)]
  rw [Int.toNat_natCast, List.getD_eq_getElem?_getD, h.get i hi]
  rfl
theorem rws_sync (hr : rows.length ≤ 20) : (⟨rws rows rows.length, 0, false, 0, none⟩ : Pd).sync = (⟨rws rows rows.length, rows.length, false, 0, none⟩, 0) := by
  unfold Pd.sync
  rw [if_neg (by simp), Pd.spend_none rfl]
  dsimp only
  rw [rws_length rows _ (Nat.le_refl _)]
  rfl
theorem Kept.of_rws : Kept rows (⟨rws rows rows.length, rows.length, false, 0, none⟩ : Pd) :=
  ⟨Nat.le_refl _, by show rows.length ≤ (rws rows rows.length).length; rw [rws_length rows _ (Nat.le_refl _)]; exact Nat.le_refl _, fun j hj => rws_get rows rows.length j hj (Nat.le_refl _)⟩
theorem Kept.after {w w4 : World} {ga : Nat} (h4 : Sp w4 [PadP ga p, Old w]) (h1 : p.Ok) (h2 : Kept rows p) : ∃ q2 : Pd, Aside0 q2.Ok ∧ Aside0 (Kept rows q2) ∧ Aside0 (Sp w4 [PadP ga q2, Old w]) ∧ decide (q2.safe < rows.length) = false ∧ decide (q2.slots.length < q2.safe) = false :=
  ⟨p, ⟨h1⟩, ⟨h2⟩, ⟨h4⟩, decide_eq_false (by have := h2.safe; omega), decide_eq_false (by have := h2.len; omega)⟩
end Go.Proofs.Ytjpaaicgkdnalaa.Pads
