/-
  The reference's functions of layer 1 come to the same plain words as the program's.
-/
import Derived.Test.YteicflbjhcddoaaRefWire
import Derived.Test.YteicflbjhcddoaaPAllx8
namespace Go.Proofs.Yteicflbjhcddoaa.Plain
open Go.RowKit Go.Proofs.Yteicflbjhcddoaa.PAll Go.Proofs.YteicflbjhcddoaaW.PrintWords Go.Proofs.YteicflbjhcddoaaW.PrintLast Go.Proofs.YteicflbjhcddoaaW.PrintMore
set_option linter.unusedVariables false
set_option linter.unusedSimpArgs false

theorem rnum_l0 (l : List Int) (hb : Bytes l) (m : List Int) : ∀ (k i : Nat) (a : Int), l.drop i = m → 0 ≤ a → (a + 1) * 256 ^ m.length ≤ 9223372036854775808 → i + m.length ≤ 1000 → m.length < k →
    raddleref01_num.l0 k l a i = some (val a m) := by
  induction m with
  | nil =>
    intro k i a h h0 h1 hi hk
    obtain ⟨k, rfl⟩ : ∃ m, k = m + 1 := ⟨k - 1, by omega⟩
    have := drop_end h
    simp only [raddleref01_num.l0]
    rw [if_neg (by omega)]
    rfl
  | cons b m ih =>
    intro k i a h h0 h1 hi hk
    obtain ⟨k, rfl⟩ : ∃ m, k = m + 1 := ⟨k - 1, by omega⟩
    have hlt := drop_lt h
    have hbb : Byte b := by have := hb.rd i; rw [rd_drop h] at this; exact this
    have hbb' := hbb
    unfold Byte at hbb'
    simp only [List.length_cons] at hi hk h1
    have hp := pow_pos m.length
    have h2 : (a * 256 + b + 1) * 256 ^ m.length ≤ 9223372036854775808 := by
      refine Int.le_trans ?_ h1
      rw [Int.pow_succ, Int.mul_comm ((256 : Int) ^ m.length), ← Int.mul_assoc]
      exact Int.mul_le_mul_of_nonneg_right (by omega) (by omega)
    have h3 : (a * 256 + b + 1) * 1 ≤ (a * 256 + b + 1) * 256 ^ m.length := Int.mul_le_mul_of_nonneg_left (by omega) (by omega)
    simp only [raddleref01_num.l0]
    rw [if_pos (by omega), if_pos (by omega), rd_drop h, or_i64 a b h0 (by omega) hbb, w64 (by omega) (by omega)]
    exact ih k (i + 1) _ (drop_tail h) (by omega) h2 (by omega) (by omega)
theorem rnum_eq (k : Nat) (l : List Int) (hb : Bytes l) (hl : l.length ≤ 7) (hk : 10 ≤ k) : raddleref01_num.f k l = some (val 0 l) := by
  unfold raddleref01_num.f
  refine rnum_l0 l hb l k 0 0 rfl (by omega) ?_ (by omega) (by omega)
  have := pow256_le hl; omega
/-- Eight bytes, the first of them not above 127. -/
theorem rnum8_eq (k : Nat) (b : Int) (l : List Int) (hb : Bytes (b :: l)) (h7 : b ≤ 127) (hl : l.length = 7) (hk : 12 ≤ k) : raddleref01_num.f k (b :: l) = some (val 0 (b :: l)) := by
  have hbb := hb.head
  unfold Byte at hbb
  obtain ⟨k, rfl⟩ : ∃ m, k = m + 1 := ⟨k - 1, by omega⟩
  unfold raddleref01_num.f
  simp only [raddleref01_num.l0]
  have e : rd (b :: l) 0 = b := rfl
  rw [if_pos (by simp), if_pos (by omega), e, or_i64 0 b (by omega) (by omega) hb.head, w64 (by omega) (by omega)]
  have hp7 : (256 : Int) ^ 7 = 72057594037927936 := by decide
  exact rnum_l0 (b :: l) hb l k 1 _ rfl (by omega) (by rw [hl, hp7]; omega) (by omega) (by omega)
theorem rget_eq (k : Nat) (l : List Int) (at_ size : Int) (hb : Bytes l) (hl : l.length ≤ 1000000) (ha : at_ ≤ 9223372036854775807) (hk : 20 ≤ k) : raddleref01_Get.f k l at_ size = some (sGet l at_ size) := by
  obtain ⟨k, rfl⟩ : ∃ m, k = m + 1 := ⟨k - 1, by omega⟩
  unfold raddleref01_Get.f sGet
  rw [rin_eq, Option.bind_some]
  by_cases h1 : 1 ≤ size ∧ size ≤ 7
  · rw [if_pos (by simpa using h1), rin_eq, Option.bind_some]
    by_cases h2 : 0 ≤ at_ ∧ at_ ≤ l.length
    · have e : decide (0 ≤ at_ ∧ at_ ≤ (l.length : Int)) = true := by simpa using h2
      rw [e, if_pos (by omega)]
      simp only [raddleref01_Get.j0]
      rw [if_neg (by simp), w64 (by omega) (by omega)]
      by_cases h5 : (l.length : Int) - at_ < size
      · rw [if_pos h5, if_pos h5]
      · have hs : (sub l at_.toNat (at_ + size).toNat).length ≤ 7 := by rw [sub_length (by omega)]; omega
        have := rnum_eq k (sub l at_.toNat (at_ + size).toNat) (sub_bytes hb _ _) (by omega) (by omega)
        unfold sub at this
        rw [if_neg h5, if_neg h5, w64 (by omega) (by omega), if_pos (by omega), if_pos (by omega), if_pos (by omega), this, Option.bind_some]
        rfl
    · have e : decide (0 ≤ at_ ∧ at_ ≤ (l.length : Int)) = false := by simpa using h2
      rw [e, if_neg (by omega)]
      simp [raddleref01_Get.j0]
  · rw [if_neg (by simpa using h1), if_neg (by omega)]
    simp [raddleref01_Get.j0]
theorem rgetInt_eq (k : Nat) (l : List Int) (at_ : Int) (hb : Bytes l) (hl : l.length ≤ 1000000) (ha : at_ ≤ 9223372036854775807) (hk : 30 ≤ k) : raddleref01_GetInt.f k l at_ = some (sGetInt l at_) := by
  obtain ⟨k, rfl⟩ : ∃ m, k = m + 2 := ⟨k - 2, by omega⟩
  unfold raddleref01_GetInt.f sGetInt
  rw [rin_eq, Option.bind_some]
  by_cases h2 : 0 ≤ at_ ∧ at_ ≤ l.length
  · rw [if_pos (by simpa using h2), if_pos h2, w64 (by omega) (by omega)]
    by_cases h3 : (l.length : Int) - at_ < 9
    · rw [if_pos h3, if_pos (Or.inl h3)]; simp [raddleref01_GetInt.j0]
    · have r0 := hb.rd at_
      have r1 := hb.rd (at_ + 1)
      unfold Byte at r0 r1
      obtain ⟨i, rfl⟩ := Int.eq_ofNat_of_zero_le h2.1
      have e1 : ((i : Int) + 1).toNat = i + 1 := by omega
      have e9 : ((i : Int) + 9).toNat = i + 9 := by omega
      have hs : sub l (i + 1) (i + 9) = rd l ((i : Int) + 1) :: sub l (i + 2) (i + 9) := sub_cons (by omega) (by omega)
      have hs7 : (sub l (i + 2) (i + 9)).length = 7 := by rw [sub_length (by omega)]; omega
      have hB := sub_bytes hb (i + 1) (i + 9)
      rw [e1, e9]
      rw [hs] at hB
      rw [if_neg h3, if_pos (by omega), if_pos (by omega)]
      by_cases h4 : rd l (i : Int) > 1
      · rw [if_pos h4, if_pos (Or.inr (Or.inl h4))]; simp [raddleref01_GetInt.j0]
      · rw [if_neg h4, w64 (by omega) (by omega), if_pos (by omega), if_pos (by omega)]
        by_cases h5 : rd l ((i : Int) + 1) > 127
        · have hv := val_ge (sub l (i + 2) (i + 9)) (rd l ((i : Int) + 1)) (by omega) hB.tail
          have hp7 : (256 : Int) ^ 7 = 72057594037927936 := by decide
          rw [hs7, hp7] at hv
          have : val 0 (sub l (i + 1) (i + 9)) > 1152921504606846976 := by rw [hs, val]; simp; omega
          rw [if_pos (Or.inr (Or.inr (Or.inl this)))]
          simp [raddleref01_GetInt.j0, h5]
        · have hn := fun k' (hk' : 12 ≤ k') => rnum8_eq k' (rd l ((i : Int) + 1)) (sub l (i + 2) (i + 9)) hB (by omega) hs7 hk'
          rw [← hs] at hn
          have hv := val_nonneg (sub l (i + 1) (i + 9)) 0 (by omega) (sub_bytes hb _ _)
          unfold sub at hn
          simp only [raddleref01_GetInt.j0, h5, decide_false]
          rw [if_neg (by simp), w64 (by omega) (by omega), w64 (by omega) (by omega), if_pos (by omega), if_pos (by omega), if_pos (by omega), e1, e9, hn _ (by omega), Option.bind_some]
          have hV : val 0 (List.drop (i + 1) (List.take (i + 9) l)) = val 0 (sub l (i + 1) (i + 9)) := rfl
          rw [hV]
          generalize val 0 (sub l (i + 1) (i + 9)) = V at *
          by_cases h6 : V > 1152921504606846976
          · rw [if_pos h6, if_pos (by omega)]; simp [raddleref01_GetInt.j1]
          · rw [if_neg h6, if_pos (by omega), if_pos (by omega)]
            by_cases h7 : rd l (i : Int) = 1
            · rw [if_pos h7]
              by_cases h8 : V = 0
              · rw [if_pos (by omega)]; simp [raddleref01_GetInt.j1, h8]
              · have h8' : (V == 0) = false := by simpa using h8
                rw [if_neg (by omega), if_pos h7]
                simp only [raddleref01_GetInt.j1, h8']
                rw [if_neg (by simp), if_pos (by omega), if_pos (by omega), if_pos h7, w64 (x := -V) (by omega) (by omega), w64 (x := (i : Int) + 9) (by omega) (by omega)]
            · rw [if_neg h7, if_neg (by omega), if_neg h7]
              simp only [raddleref01_GetInt.j1]
              rw [if_neg (by simp), if_pos (by omega), if_pos (by omega), if_neg h7, w64 (x := (i : Int) + 9) (by omega) (by omega)]
  · rw [if_neg (by simpa using h2), if_neg h2]
theorem rgetText_eq (l : List Int) (at_ : Int) (hb : Bytes l) (hl : l.length ≤ 1000000) (ha : at_ ≤ 9223372036854775807) : raddleref01_GetText.f l at_ = some (sGetText l at_) := by
  unfold raddleref01_GetText.f sGetText
  rw [rin_eq, Option.bind_some]
  by_cases h2 : 0 ≤ at_ ∧ at_ ≤ l.length
  · rw [if_pos (by simpa using h2), if_pos h2]
    by_cases h3 : at_ = (l.length : Int)
    · rw [if_pos h3, if_pos (Or.inl h3)]
    · have hr := hb.rd at_
      unfold Byte at hr
      rw [if_neg h3, if_pos (by omega), if_pos (by omega), w64 (by omega) (by omega)]
      by_cases h4 : rd l at_ > 24
      · rw [if_pos h4, if_pos (Or.inr (Or.inl h4))]
      · rw [if_neg h4, w64 (x := (l.length : Int) - at_) (by omega) (by omega), w64 (by omega) (by omega)]
        by_cases h5 : (l.length : Int) - at_ - 1 < rd l at_
        · rw [if_pos h5, if_pos (Or.inr (Or.inr h5))]
        · rw [if_neg h5, w64 (x := at_ + 1) (by omega) (by omega), w64 (x := at_ + 1 + rd l at_) (by omega) (by omega), if_pos (by omega), if_pos (by omega), if_pos (by omega), if_neg (by omega)]
          rfl
  · rw [if_neg (by simpa using h2), if_neg h2]
end Go.Proofs.Yteicflbjhcddoaa.Plain
