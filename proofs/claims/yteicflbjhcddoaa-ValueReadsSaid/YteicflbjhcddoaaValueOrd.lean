/-
  The order of values is total.
-/
import Derived.Test.YteicflbjhcddoaaValueSpec

namespace Go.Proofs.Yteicflbjhcddoaa.Plain
open Go.RowKit Go.Proofs.Yteicflbjhcddoaa.PAll Go.Proofs.YteicflbjhcddoaaW.PrintWords Go.Proofs.YteicflbjhcddoaaW.PrintLast Go.Proofs.YteicflbjhcddoaaW.PrintMore
set_option linter.unusedVariables false
set_option linter.unusedSimpArgs false
theorem less_iff (s t : ByteArray) : less s t = true ↔ s.data.toList < t.data.toList := by
  unfold less; rw [Go.Proofs.bytesLess_eq, toList_data, toList_data]; simp
theorem data_inj {s t : ByteArray} : s.data.toList = t.data.toList ↔ s = t := by
  rw [← toList_data, ← toList_data]; exact toList_inj
theorem lst_irrefl (a : List UInt8) : ¬ a < a := List.lt_irrefl a
theorem lst_trans {a b c : List UInt8} (h : a < b) (k : b < c) : a < c := List.lt_trans h k
theorem lst_total (a b : List UInt8) : a < b ∨ a = b ∨ b < a := by
  by_cases h : a < b
  · exact .inl h
  · by_cases k : b < a
    · exact .inr (.inr k)
    · exact .inr (.inl (List.le_antisymm (List.not_lt.1 k) (List.not_lt.1 h)))
theorem cStr_cases (s t : ByteArray) : (cStr s t = -1 ∧ s.data.toList < t.data.toList) ∨ (cStr s t = 0 ∧ s = t) ∨ (cStr s t = 1 ∧ t.data.toList < s.data.toList) := by
  unfold cStr
  by_cases h : less s t = true
  · rw [if_pos h]; exact .inl ⟨rfl, (less_iff s t).1 h⟩
  · rw [if_neg h]
    by_cases e : s = t
    · rw [if_pos e]; exact .inr (.inl ⟨rfl, e⟩)
    · rw [if_neg e]
      refine .inr (.inr ⟨rfl, ?_⟩)
      rcases lst_total s.data.toList t.data.toList with k | k | k
      · exact absurd ((less_iff s t).2 k) h
      · exact absurd (data_inj.1 k) e
      · exact k
/-- A value as its key: kind, number, text. -/
def keyLt (k1 i1 : Int) (s1 : ByteArray) (k2 i2 : Int) (s2 : ByteArray) : Prop := k1 < k2 ∨ (k1 = k2 ∧ (i1 < i2 ∨ (i1 = i2 ∧ s1.data.toList < s2.data.toList)))
theorem sCmp_cases (k1 i1 : Int) (s1 : ByteArray) (k2 i2 : Int) (s2 : ByteArray) :
    (sCmp k1 i1 s1 k2 i2 s2 = -1 ∧ keyLt k1 i1 s1 k2 i2 s2) ∨ (sCmp k1 i1 s1 k2 i2 s2 = 0 ∧ k1 = k2 ∧ i1 = i2 ∧ s1 = s2) ∨ (sCmp k1 i1 s1 k2 i2 s2 = 1 ∧ keyLt k2 i2 s2 k1 i1 s1) := by
  unfold sCmp keyLt
  by_cases h : k1 = k2
  · rw [if_pos h]
    by_cases h2 : i1 = i2
    · rw [if_pos h2]
      rcases cStr_cases s1 s2 with ⟨e, p⟩ | ⟨e, p⟩ | ⟨e, p⟩
      · exact .inl ⟨e, .inr ⟨h, .inr ⟨h2, p⟩⟩⟩
      · exact .inr (.inl ⟨e, h, h2, p⟩)
      · exact .inr (.inr ⟨e, .inr ⟨h.symm, .inr ⟨h2.symm, p⟩⟩⟩)
    · rw [if_neg h2]
      unfold cInt
      rw [if_neg h2]
      by_cases h3 : i1 < i2
      · rw [if_pos h3]; exact .inl ⟨rfl, .inr ⟨h, .inl h3⟩⟩
      · rw [if_neg h3]; exact .inr (.inr ⟨rfl, .inr ⟨h.symm, .inl (by omega)⟩⟩)
  · rw [if_neg h]
    unfold cInt
    rw [if_neg h]
    by_cases h3 : k1 < k2
    · rw [if_pos h3]; exact .inl ⟨rfl, .inl h3⟩
    · rw [if_neg h3]; exact .inr (.inr ⟨rfl, .inl (by omega)⟩)
theorem keyLt_irrefl (k i : Int) (s : ByteArray) : ¬ keyLt k i s k i s := by
  unfold keyLt
  rintro (h | ⟨_, h | ⟨_, h⟩⟩)
  · omega
  · omega
  · exact lst_irrefl _ h
theorem keyLt_trans {k1 i1 : Int} {s1 : ByteArray} {k2 i2 : Int} {s2 : ByteArray} {k3 i3 : Int} {s3 : ByteArray} (h : keyLt k1 i1 s1 k2 i2 s2) (g : keyLt k2 i2 s2 k3 i3 s3) : keyLt k1 i1 s1 k3 i3 s3 := by
  unfold keyLt at *
  rcases h with h | ⟨e, h⟩
  · rcases g with g | ⟨f, g⟩
    · exact .inl (by omega)
    · exact .inl (by omega)
  · rcases g with g | ⟨f, g⟩
    · exact .inl (by omega)
    · refine .inr ⟨by omega, ?_⟩
      rcases h with h | ⟨e2, h⟩
      · rcases g with g | ⟨f2, g⟩
        · exact .inl (by omega)
        · exact .inl (by omega)
      · rcases g with g | ⟨f2, g⟩
        · exact .inl (by omega)
        · exact .inr ⟨by omega, lst_trans h g⟩
theorem sCmp_neg {k1 i1 : Int} {s1 : ByteArray} {k2 i2 : Int} {s2 : ByteArray} : sCmp k1 i1 s1 k2 i2 s2 = -1 ↔ keyLt k1 i1 s1 k2 i2 s2 := by
  rcases sCmp_cases k1 i1 s1 k2 i2 s2 with ⟨e, p⟩ | ⟨e, rfl, rfl, rfl⟩ | ⟨e, p⟩
  · exact ⟨fun _ => p, fun _ => e⟩
  · exact ⟨fun h => by omega, fun h => absurd h (keyLt_irrefl _ _ _)⟩
  · exact ⟨fun h => by omega, fun h => absurd (keyLt_trans h p) (keyLt_irrefl _ _ _)⟩
theorem sCmp_zero (k1 i1 : Int) (s1 : ByteArray) (k2 i2 : Int) (s2 : ByteArray) : sCmp k1 i1 s1 k2 i2 s2 = 0 ↔ k1 = k2 ∧ i1 = i2 ∧ s1 = s2 := by
  rcases sCmp_cases k1 i1 s1 k2 i2 s2 with ⟨e, p⟩ | ⟨e, p⟩ | ⟨e, p⟩
  · exact ⟨fun h => by omega, fun ⟨a, b, c⟩ => by subst a b c; exact absurd p (keyLt_irrefl _ _ _)⟩
  · exact ⟨fun _ => p, fun _ => e⟩
  · exact ⟨fun h => by omega, fun ⟨a, b, c⟩ => by subst a b c; exact absurd p (keyLt_irrefl _ _ _)⟩
theorem sCmp_self (k i : Int) (s : ByteArray) : sCmp k i s k i s = 0 := (sCmp_zero _ _ _ _ _ _).2 ⟨rfl, rfl, rfl⟩
theorem sCmp_bd (k1 i1 : Int) (s1 : ByteArray) (k2 i2 : Int) (s2 : ByteArray) : -1 ≤ sCmp k1 i1 s1 k2 i2 s2 ∧ sCmp k1 i1 s1 k2 i2 s2 ≤ 1 := by
  rcases sCmp_cases k1 i1 s1 k2 i2 s2 with ⟨e, p⟩ | ⟨e, p⟩ | ⟨e, p⟩ <;> omega
theorem sCmp_swap (k1 i1 : Int) (s1 : ByteArray) (k2 i2 : Int) (s2 : ByteArray) : sCmp k1 i1 s1 k2 i2 s2 = - sCmp k2 i2 s2 k1 i1 s1 := by
  rcases sCmp_cases k1 i1 s1 k2 i2 s2 with ⟨e, p⟩ | ⟨e, p⟩ | ⟨e, p⟩ <;> rcases sCmp_cases k2 i2 s2 k1 i1 s1 with ⟨f, q⟩ | ⟨f, q⟩ | ⟨f, q⟩ <;> first
    | omega
    | exact absurd (keyLt_trans p q) (keyLt_irrefl _ _ _)
    | (obtain ⟨a, b, c⟩ := p; subst a b c; exact absurd q (keyLt_irrefl _ _ _))
    | (obtain ⟨a, b, c⟩ := q; subst a b c; exact absurd p (keyLt_irrefl _ _ _))
theorem sCmp_trans (k1 i1 : Int) (s1 : ByteArray) (k2 i2 : Int) (s2 : ByteArray) (k3 i3 : Int) (s3 : ByteArray) : sCmp k1 i1 s1 k2 i2 s2 ≤ 0 → sCmp k2 i2 s2 k3 i3 s3 ≤ 0 → sCmp k1 i1 s1 k3 i3 s3 ≤ 0 := by
  intro h g
  rcases sCmp_cases k1 i1 s1 k2 i2 s2 with ⟨e, p⟩ | ⟨e, rfl, rfl, rfl⟩ | ⟨e, p⟩
  · rcases sCmp_cases k2 i2 s2 k3 i3 s3 with ⟨f, q⟩ | ⟨f, rfl, rfl, rfl⟩ | ⟨f, q⟩
    · have := sCmp_neg.2 (keyLt_trans p q); omega
    · omega
    · omega
  · exact g
  · omega
theorem sCmp_trans' (k1 i1 : Int) (s1 : ByteArray) (k2 i2 : Int) (s2 : ByteArray) (k3 i3 : Int) (s3 : ByteArray) : 0 ≤ sCmp k1 i1 s1 k2 i2 s2 → 0 ≤ sCmp k2 i2 s2 k3 i3 s3 → 0 ≤ sCmp k1 i1 s1 k3 i3 s3 := by
  intro h g
  have a := sCmp_swap k1 i1 s1 k2 i2 s2
  have b := sCmp_swap k2 i2 s2 k3 i3 s3
  have c := sCmp_swap k1 i1 s1 k3 i3 s3
  have := sCmp_trans k3 i3 s3 k2 i2 s2 k1 i1 s1 (by omega) (by omega)
  omega
end Go.Proofs.Yteicflbjhcddoaa.Plain
