/-
  Bytes held against each other, copied, written over: what the set's own helpers come to.
  Conditions: none; plain theorems.
-/
import Derived.Test.YtjpaaicgkdnalaaPlainNum
import Derived.Test.YtjpaaicgkdnalaaPAllx1
namespace Go.Proofs.Ytjpaaicgkdnalaa.Keep
open Go.RowKit Go.Proofs.Ytjpaaicgkdnalaa.PAll Go.Proofs.YtjpaaicgkdnalaaW.PrintWords Go.Proofs.YtjpaaicgkdnalaaW.PrintLast Go.Proofs.YtjpaaicgkdnalaaW.PrintMore Go.Proofs.Ytjpaaicgkdnalaa.Plain
set_option linter.unusedVariables false
set_option linter.unusedSimpArgs false
theorem rd_drop {l : List Int} {i : Nat} {b : Int} {m : List Int} (h : l.drop i = b :: m) : rd l i = b := by
  have hi : i < l.length := by
    rcases Nat.lt_or_ge i l.length with h1 | h1
    · exact h1
    · rw [List.drop_eq_nil_of_le h1] at h; cases h
  show l.getD (i : Int).toNat 0 = b
  rw [List.getD_eq_getElem?_getD, Int.toNat_natCast, List.getElem?_eq_getElem hi]
  have := List.drop_eq_getElem_cons hi
  rw [this] at h
  injection h
theorem drop_tail {l : List Int} {i : Nat} {b : Int} {m : List Int} (h : l.drop i = b :: m) : l.drop (i + 1) = m := by
  have := congrArg List.tail h
  rwa [List.tail_drop] at this
theorem drop_lt {l : List Int} {i : Nat} {b : Int} {m : List Int} (h : l.drop i = b :: m) : i < l.length := by
  rcases Nat.lt_or_ge i l.length with h1 | h1
  · exact h1
  · rw [List.drop_eq_nil_of_le h1] at h; cases h
theorem drop_end {l : List Int} {i : Nat} (h : l.drop i = []) : l.length ≤ i := by
  rcases Nat.lt_or_ge i l.length with h1 | h1
  · have := List.drop_eq_getElem_cons h1; rw [this] at h; cases h
  · exact h1
theorem same_l0 (a b : List Int) (hl : a.length = b.length) (m : List Int) : ∀ (k i : Nat), a.drop i = m → i + m.length ≤ 1000000 → m.length < k →
    raddlekeep_Bytes.l0 k a b i = some (decide (m = b.drop i)) := by
  induction m with
  | nil =>
    intro k i h hi hk
    obtain ⟨k, rfl⟩ : ∃ m, k = m + 1 := ⟨k - 1, by omega⟩
    have := drop_end h
    simp only [raddlekeep_Bytes.l0]
    rw [if_neg (by omega), List.drop_eq_nil_of_le (by omega)]
    simp
  | cons x m ih =>
    intro k i h hi hk
    obtain ⟨k, rfl⟩ : ∃ m, k = m + 1 := ⟨k - 1, by omega⟩
    have hlt := drop_lt h
    have hltb : i < b.length := by omega
    simp only [List.length_cons] at hi hk
    have hb : b.drop i = b[i] :: b.drop (i + 1) := List.drop_eq_getElem_cons hltb
    simp only [raddlekeep_Bytes.l0]
    rw [if_pos (by omega), if_pos (by omega), if_pos (by omega), rd_drop h, rd_drop hb, hb]
    by_cases e : x = b[i]
    · rw [if_pos e, w64 (by omega) (by omega)]
      have := ih k (i + 1) (drop_tail h) (by omega) (by omega)
      rw [show ((i : Int) + 1) = ((i + 1 : Nat) : Int) from rfl, this, e]
      simp only [List.cons.injEq, true_and]
    · rw [if_neg e]
      simp only [List.cons.injEq, e, false_and, decide_false]
theorem same_eq (k : Nat) (a b : List Int) (ha : a.length ≤ 900000) (hk : a.length + 2 ≤ k) : raddlekeep_Bytes.f k a b = some (decide (a = b)) := by
  unfold raddlekeep_Bytes.f
  by_cases hl : a.length = b.length
  · rw [if_pos (by omega)]
    have := same_l0 a b hl a k 0 rfl (by omega) (by omega)
    simpa using this
  · rw [if_neg (by omega)]
    have : a ≠ b := fun e => hl (by rw [e])
    simp [this]
theorem twin_eq (l : List Int) (hl : l.length ≤ 1000000) : raddlekeep_Twin.f l = some l := by
  unfold raddlekeep_Twin.f
  simp only [List.length_nil, List.nil_append]
  rw [if_pos (by omega)]

theorem spoil_l0 (n : Nat) : ∀ (k : Nat) (l : List Int) (i : Nat), l.length - i = n → l.length ≤ 1000000 → n < k → ∃ r, raddlekeep_SpoilBytes.l0 k l i = some r := by
  induction n with
  | zero =>
    intro k l i h hl hk
    obtain ⟨k, rfl⟩ : ∃ m, k = m + 1 := ⟨k - 1, by omega⟩
    exact ⟨l, by simp only [raddlekeep_SpoilBytes.l0]; rw [if_neg (by omega)]⟩
  | succ n ih =>
    intro k l i h hl hk
    obtain ⟨k, rfl⟩ : ∃ m, k = m + 1 := ⟨k - 1, by omega⟩
    simp only [raddlekeep_SpoilBytes.l0]
    rw [if_pos (by omega), if_pos (by omega), w64 (by omega) (by omega)]
    exact ih k _ (i + 1) (by simp; omega) (by simp; omega) (by omega)
theorem spoil_some (k : Nat) (l : List Int) (hl : l.length ≤ 1000000) (hk : l.length + 1 ≤ k) : ∃ r, raddlekeep_SpoilBytes.f k l = some r :=
  spoil_l0 l.length k l 0 (by omega) hl (by omega)
/-- A number's remainder, as the walk spells it. -/
theorem umod (x : Int) (m : Nat) (hm : 0 < m) (hm2 : m < 4611686018427387904) : ∃ s : Nat, s < m ∧ wrap64 ((IntKind.u64.wrap x).tmod (m : Int)) = (s : Int) ∧ (s : Int) = (x % 18446744073709551616) % (m : Int) := by
  rw [u64_mod]
  have h0 : 0 ≤ x % 18446744073709551616 := Int.emod_nonneg _ (by decide)
  rw [Int.tmod_eq_emod_of_nonneg h0]
  have h1 : 0 ≤ (x % 18446744073709551616) % (m : Int) := Int.emod_nonneg _ (by omega)
  have h2 : (x % 18446744073709551616) % (m : Int) < m := Int.emod_lt_of_pos _ (by omega)
  refine ⟨((x % 18446744073709551616) % (m : Int)).toNat, by omega, ?_, by omega⟩
  rw [w64 (by omega) (by omega)]
  omega
end Go.Proofs.Ytjpaaicgkdnalaa.Keep
