/-
  The reference's functions of layer 1 come to the same plain words as the program's.
-/
import Derived.Test.YtomahagonogapaaWireLaws
import Derived.Test.YtomahagonogapaaPAllx5
import Derived.Test.YtomahagonogapaaPAllx6
import Derived.Test.YtomahagonogapaaPAllx7
namespace Go.Proofs.Ytomahagonogapaa.Plain
open Go.RowKit Go.Proofs.Ytomahagonogapaa.PAll Go.Proofs.YtomahagonogapaaW.PrintWords Go.Proofs.YtomahagonogapaaW.PrintLast Go.Proofs.YtomahagonogapaaW.PrintMore
set_option linter.unusedVariables false
set_option linter.unusedSimpArgs false

theorem rin_eq (a b c : Int) : raddleref01_in.f a b c = some (decide (b ≤ a ∧ a ≤ c)) := by
  unfold raddleref01_in.f
  by_cases h : a ≥ b
  · rw [if_pos h]; simp [h]
  · rw [if_neg h]; simp [h] <;> omega
theorem be_l0 (n : Int) (i : Nat) : ∀ (k : Nat) (out : List Int), i ≤ 8 → out.length + i ≤ 1000000 → i < k → raddleref01_be.l0 k n out ((i : Int) - 1) = some (out ++ big n i) := by
  induction i with
  | zero =>
    intro k out _ _ hk
    obtain ⟨k, rfl⟩ : ∃ m, k = m + 1 := ⟨k - 1, by omega⟩
    simp only [raddleref01_be.l0]
    rw [if_neg (by omega)]
    simp [big]
  | succ i ih =>
    intro k out hi ho hk
    obtain ⟨k, rfl⟩ : ∃ m, k = m + 1 := ⟨k - 1, by omega⟩
    simp only [raddleref01_be.l0]
    have e : (((i + 1 : Nat) : Int) - 1) = (i : Int) := by omega
    rw [e, if_pos (by omega), w64 (by omega) (by omega), wu64 (by omega) (by omega), if_pos (by omega), if_pos (by omega), shr_bytes n i (by omega), w64 (by omega) (by omega), ih k _ (by omega) (by simp; omega) (by omega)]
    simp [big]
theorem be_eq (k : Nat) (n : Int) (s : Nat) (h : s ≤ 8) (hk : 10 ≤ k) : raddleref01_be.f k n s = some (big n s) := by
  unfold raddleref01_be.f
  rw [w64 (by omega) (by omega)]
  simpa using be_l0 n s k [] h (by simp; omega) (by omega)
theorem rput_eq (k : Nat) (l : List Int) (n size : Int) (hl : l.length ≤ 900000) (hn : n ≤ 9223372036854775807) (hk : 20 ≤ k) : raddleref01_Put.f k l n size = some (sPut l n size) := by
  obtain ⟨k, rfl⟩ : ∃ m, k = m + 1 := ⟨k - 1, by omega⟩
  unfold raddleref01_Put.f sPut
  rw [rin_eq, Option.bind_some]
  by_cases h1 : 1 ≤ size ∧ size ≤ 7
  · obtain ⟨s, rfl⟩ := Int.eq_ofNat_of_zero_le (show 0 ≤ size by omega)
    have hp := pow_pos s
    have hle := pow256_le (s := s) (by omega)
    rw [if_pos (by simpa using h1)]
    by_cases h2 : n < 0
    · rw [if_pos h2, if_neg (by omega)]; simp [raddleref01_Put.j0]
    · rw [if_neg h2, w64 (by omega) (by omega), wu64 (by omega) (by omega), if_pos (by omega), shr_bytes n s (by omega), Int.toNat_natCast]
      by_cases h3 : n < 256 ^ s
      · have e : n / 256 ^ s = 0 := Int.ediv_eq_zero_of_lt (by omega) h3
        rw [e, if_pos (by omega)]
        simp only [raddleref01_Put.j0]
        rw [if_neg (by simp), twin_eq l (by omega), Option.bind_some, be_eq k n s (by omega) (by omega), Option.bind_some, if_pos (by simp [big_length]; omega)]
      · have e : n / 256 ^ s ≠ 0 := by
          have := Int.le_ediv_of_mul_le hp (show (1 : Int) * 256 ^ s ≤ n by omega)
          omega
        rw [if_neg (by omega)]
        simp [raddleref01_Put.j0, e]
  · rw [if_neg (by simpa using h1), if_neg (by omega)]
    simp [raddleref01_Put.j0]
theorem rintB_eq (k : Nat) (n : Int) (h0 : -1152921504606846976 ≤ n) (h1 : n ≤ 1152921504606846976) (hk : 20 ≤ k) : raddleref01_intBytes.f k n = some (intB n) := by
  unfold raddleref01_intBytes.f intB
  have e8 : ((8 : Nat) : Int) = 8 := rfl
  by_cases h : n < 0
  · rw [if_pos h, if_pos h, Option.bind_some, w64 (by omega) (by omega), ← e8, be_eq k _ 8 (by omega) (by omega), Option.bind_some, if_pos (by simp [big_length])]
    simp
  · rw [if_neg h, if_neg h, Option.bind_some, ← e8, be_eq k _ 8 (by omega) (by omega), Option.bind_some, if_pos (by simp [big_length])]
    simp
theorem rputInt_eq (k : Nat) (l : List Int) (n : Int) (hl : l.length ≤ 800000) (hk : 20 ≤ k) : raddleref01_PutInt.f k l n = some (sPutInt l n) := by
  unfold raddleref01_PutInt.f sPutInt
  rw [rin_eq, Option.bind_some]
  by_cases h : -1152921504606846976 ≤ n ∧ n ≤ 1152921504606846976
  · rw [if_pos (by simpa using h), if_pos h, twin_eq l (by omega), Option.bind_some, rintB_eq k n h.1 h.2 hk, Option.bind_some, if_pos (by simp [intB_length]; omega)]
  · rw [if_neg (by simpa using h), if_neg h]
theorem rputText_eq (l : List Int) (s : ByteArray) (hl : l.length ≤ 800000) : raddleref01_PutText.f l s = some (sPutText l s) := by
  unfold raddleref01_PutText.f sPutText
  by_cases h1 : (s.size : Int) > 24
  · rw [if_pos h1, if_neg (by omega)]
  · rw [if_neg h1, if_pos (by omega), twin_eq l (by omega), Option.bind_some, if_pos (by omega)]
    simp only [Option.bind_some]
    rw [if_pos (by simp; omega), show ((s.size : Int) % 256) = s.size from by omega]
    simp
theorem rnum_l0 (l : List Int) (hb : Bytes l) (m : List Int) : ∀ (k i : Nat) (a : Int), l.drop i = m → 0 ≤ a → (a + 1) * 256 ^ m.length ≤ 9223372036854775808 → i + m.length ≤ 1000 → m.length < k →
    raddleref01_num.l0 k l a i = some (val a m) := by
  induction m with
  | nil =>
    intro k i a h h0 h1 hi hk
    obtain ⟨k, rfl⟩ : ∃ m, k = m + 1 := ⟨k - 1, by omega⟩
    have := drop_end h
    simp only [raddleref01_num.l0]
    rw [if_neg (by omega)]
    rfl
  | cons b m ih =>
    intro k i a h h0 h1 hi hk
    obtain ⟨k, rfl⟩ : ∃ m, k = m + 1 := ⟨k - 1, by omega⟩
    have hlt := drop_lt h
    have hbb : Byte b := by have := hb.rd i; rw [rd_drop h] at this; exact this
    have hbb' := hbb
    unfold Byte at hbb'
    simp only [List.length_cons] at hi hk h1
    have hp := pow_pos m.length
    have h2 : (a * 256 + b + 1) * 256 ^ m.length ≤ 9223372036854775808 := by
      refine Int.le_trans ?_ h1
      rw [Int.pow_succ, Int.mul_comm ((256 : Int) ^ m.length), ← Int.mul_assoc]
      exact Int.mul_le_mul_of_nonneg_right (by omega) (by omega)
    have h3 : (a * 256 + b + 1) * 1 ≤ (a * 256 + b + 1) * 256 ^ m.length := Int.mul_le_mul_of_nonneg_left (by omega) (by omega)
    simp only [raddleref01_num.l0]
    rw [if_pos (by omega), if_pos (by omega), rd_drop h, or_i64 a b h0 (by omega) hbb, w64 (by omega) (by omega)]
    exact ih k (i + 1) _ (drop_tail h) (by omega) h2 (by omega) (by omega)
theorem rnum_eq (k : Nat) (l : List Int) (hb : Bytes l) (hl : l.length ≤ 7) (hk : 10 ≤ k) : raddleref01_num.f k l = some (val 0 l) := by
  unfold raddleref01_num.f
  refine rnum_l0 l hb l k 0 0 rfl (by omega) ?_ (by omega) (by omega)
  have := pow256_le hl; omega
/-- Eight bytes, the first of them not above 127. -/
theorem rnum8_eq (k : Nat) (b : Int) (l : List Int) (hb : Bytes (b :: l)) (h7 : b ≤ 127) (hl : l.length = 7) (hk : 12 ≤ k) : raddleref01_num.f k (b :: l) = some (val 0 (b :: l)) := by
  have hbb := hb.head
  unfold Byte at hbb
  obtain ⟨k, rfl⟩ : ∃ m, k = m + 1 := ⟨k - 1, by omega⟩
  unfold raddleref01_num.f
  simp only [raddleref01_num.l0]
  have e : rd (b :: l) 0 = b := rfl
  rw [if_pos (by simp), if_pos (by omega), e, or_i64 0 b (by omega) (by omega) hb.head, w64 (by omega) (by omega)]
  have hp7 : (256 : Int) ^ 7 = 72057594037927936 := by decide
  exact rnum_l0 (b :: l) hb l k 1 _ rfl (by omega) (by rw [hl, hp7]; omega) (by omega) (by omega)
theorem rget_eq (k : Nat) (l : List Int) (at_ size : Int) (hb : Bytes l) (hl : l.length ≤ 1000000) (ha : at_ ≤ 9223372036854775807) (hk : 20 ≤ k) : raddleref01_Get.f k l at_ size = some (sGet l at_ size) := by
  obtain ⟨k, rfl⟩ : ∃ m, k = m + 1 := ⟨k - 1, by omega⟩
  unfold raddleref01_Get.f sGet
  rw [rin_eq, Option.bind_some]
  by_cases h1 : 1 ≤ size ∧ size ≤ 7
  · rw [if_pos (by simpa using h1), rin_eq, Option.bind_some]
    by_cases h2 : 0 ≤ at_ ∧ at_ ≤ l.length
    · have e : decide (0 ≤ at_ ∧ at_ ≤ (l.length : Int)) = true := by simpa using h2
      rw [e, if_pos (by omega)]
      simp only [raddleref01_Get.j0]
      rw [if_neg (by simp), w64 (by omega) (by omega)]
      by_cases h5 : (l.length : Int) - at_ < size
      · rw [if_pos h5, if_pos h5]
      · have hs : (sub l at_.toNat (at_ + size).toNat).length ≤ 7 := by rw [sub_length (by omega)]; omega
        have := rnum_eq k (sub l at_.toNat (at_ + size).toNat) (sub_bytes hb _ _) (by omega) (by omega)
        unfold sub at this
        rw [if_neg h5, if_neg h5, w64 (by omega) (by omega), if_pos (by omega), if_pos (by omega), if_pos (by omega), this, Option.bind_some]
        rfl
    · have e : decide (0 ≤ at_ ∧ at_ ≤ (l.length : Int)) = false := by simpa using h2
      rw [e, if_neg (by omega)]
      simp [raddleref01_Get.j0]
  · rw [if_neg (by simpa using h1), if_neg (by omega)]
    simp [raddleref01_Get.j0]
theorem sub_cons {l : List Int} {i j : Nat} (hij : i < j) (hj : j ≤ l.length) : sub l i j = rd l (i : Int) :: sub l (i + 1) j := by
  unfold sub
  have hi : i < (l.take j).length := by simp; omega
  rw [List.drop_eq_getElem_cons hi]
  congr 1
  show _ = l.getD ((i : Int).toNat) 0
  rw [Int.toNat_natCast, List.getElem_take, List.getD_eq_getElem?_getD, List.getElem?_eq_getElem (by omega)]
  rfl
theorem rgetInt_eq (k : Nat) (l : List Int) (at_ : Int) (hb : Bytes l) (hl : l.length ≤ 1000000) (ha : at_ ≤ 9223372036854775807) (hk : 30 ≤ k) : raddleref01_GetInt.f k l at_ = some (sGetInt l at_) := by
  obtain ⟨k, rfl⟩ : ∃ m, k = m + 2 := ⟨k - 2, by omega⟩
  unfold raddleref01_GetInt.f sGetInt
  rw [rin_eq, Option.bind_some]
  by_cases h2 : 0 ≤ at_ ∧ at_ ≤ l.length
  · rw [if_pos (by simpa using h2), if_pos h2, w64 (by omega) (by omega)]
    by_cases h3 : (l.length : Int) - at_ < 9
    · rw [if_pos h3, if_pos (Or.inl h3)]; simp [raddleref01_GetInt.j0]
    · have r0 := hb.rd at_
      have r1 := hb.rd (at_ + 1)
      unfold Byte at r0 r1
      obtain ⟨i, rfl⟩ := Int.eq_ofNat_of_zero_le h2.1
      have e1 : ((i : Int) + 1).toNat = i + 1 := by omega
      have e9 : ((i : Int) + 9).toNat = i + 9 := by omega
      have hs : sub l (i + 1) (i + 9) = rd l ((i : Int) + 1) :: sub l (i + 2) (i + 9) := sub_cons (by omega) (by omega)
      have hs7 : (sub l (i + 2) (i + 9)).length = 7 := by rw [sub_length (by omega)]; omega
      have hB := sub_bytes hb (i + 1) (i + 9)
      rw [e1, e9]
      rw [hs] at hB
      rw [if_neg h3, if_pos (by omega), if_pos (by omega)]
      by_cases h4 : rd l (i : Int) > 1
      · rw [if_pos h4, if_pos (Or.inr (Or.inl h4))]; simp [raddleref01_GetInt.j0]
      · rw [if_neg h4, w64 (by omega) (by omega), if_pos (by omega), if_pos (by omega)]
        by_cases h5 : rd l ((i : Int) + 1) > 127
        · have hv := val_ge (sub l (i + 2) (i + 9)) (rd l ((i : Int) + 1)) (by omega) hB.tail
          have hp7 : (256 : Int) ^ 7 = 72057594037927936 := by decide
          rw [hs7, hp7] at hv
          have : val 0 (sub l (i + 1) (i + 9)) > 1152921504606846976 := by rw [hs, val]; simp; omega
          rw [if_pos (Or.inr (Or.inr (Or.inl this)))]
          simp [raddleref01_GetInt.j0, h5]
        · have hn := fun k' (hk' : 12 ≤ k') => rnum8_eq k' (rd l ((i : Int) + 1)) (sub l (i + 2) (i + 9)) hB (by omega) hs7 hk'
          rw [← hs] at hn
          have hv := val_nonneg (sub l (i + 1) (i + 9)) 0 (by omega) (sub_bytes hb _ _)
          unfold sub at hn
          simp only [raddleref01_GetInt.j0, h5, decide_false]
          rw [if_neg (by simp), w64 (by omega) (by omega), w64 (by omega) (by omega), if_pos (by omega), if_pos (by omega), if_pos (by omega), e1, e9, hn _ (by omega), Option.bind_some]
          have hV : val 0 (List.drop (i + 1) (List.take (i + 9) l)) = val 0 (sub l (i + 1) (i + 9)) := rfl
          rw [hV]
          generalize val 0 (sub l (i + 1) (i + 9)) = V at *
          by_cases h6 : V > 1152921504606846976
          · rw [if_pos h6, if_pos (by omega)]; simp [raddleref01_GetInt.j1]
          · rw [if_neg h6, if_pos (by omega), if_pos (by omega)]
            by_cases h7 : rd l (i : Int) = 1
            · rw [if_pos h7]
              by_cases h8 : V = 0
              · rw [if_pos (by omega)]; simp [raddleref01_GetInt.j1, h8]
              · have h8' : (V == 0) = false := by simpa using h8
                rw [if_neg (by omega), if_pos h7]
                simp only [raddleref01_GetInt.j1, h8']
                rw [if_neg (by simp), if_pos (by omega), if_pos (by omega), if_pos h7, w64 (x := -V) (by omega) (by omega), w64 (x := (i : Int) + 9) (by omega) (by omega)]
            · rw [if_neg h7, if_neg (by omega), if_neg h7]
              simp only [raddleref01_GetInt.j1]
              rw [if_neg (by simp), if_pos (by omega), if_pos (by omega), if_neg h7, w64 (x := (i : Int) + 9) (by omega) (by omega)]
  · rw [if_neg (by simpa using h2), if_neg h2]
theorem rgetText_eq (l : List Int) (at_ : Int) (hb : Bytes l) (hl : l.length ≤ 1000000) (ha : at_ ≤ 9223372036854775807) : raddleref01_GetText.f l at_ = some (sGetText l at_) := by
  unfold raddleref01_GetText.f sGetText
  rw [rin_eq, Option.bind_some]
  by_cases h2 : 0 ≤ at_ ∧ at_ ≤ l.length
  · rw [if_pos (by simpa using h2), if_pos h2]
    by_cases h3 : at_ = (l.length : Int)
    · rw [if_pos h3, if_pos (Or.inl h3)]
    · have hr := hb.rd at_
      unfold Byte at hr
      rw [if_neg h3, if_pos (by omega), if_pos (by omega), w64 (by omega) (by omega)]
      by_cases h4 : rd l at_ > 24
      · rw [if_pos h4, if_pos (Or.inr (Or.inl h4))]
      · rw [if_neg h4, w64 (x := (l.length : Int) - at_) (by omega) (by omega), w64 (by omega) (by omega)]
        by_cases h5 : (l.length : Int) - at_ - 1 < rd l at_
        · rw [if_pos h5, if_pos (Or.inr (Or.inr h5))]
        · rw [if_neg h5, w64 (x := at_ + 1) (by omega) (by omega), w64 (x := at_ + 1 + rd l at_) (by omega) (by omega), if_pos (by omega), if_pos (by omega), if_pos (by omega), if_neg (by omega)]
          rfl
  · rw [if_neg (by simpa using h2), if_neg h2]
end Go.Proofs.Ytomahagonogapaa.Plain
