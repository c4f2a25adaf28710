/-
  wire once more: what was put is got; the wake-up call; the reference's functions.
-/
import Derived.Test.YteicflbjhcddoaaWireSpec

namespace Go.Proofs.Yteicflbjhcddoaa.Plain
open Go.RowKit Go.Proofs.Yteicflbjhcddoaa.PAll Go.Proofs.YteicflbjhcddoaaW.PrintWords Go.Proofs.YteicflbjhcddoaaW.PrintLast Go.Proofs.YteicflbjhcddoaaW.PrintMore
set_option linter.unusedVariables false
set_option linter.unusedSimpArgs false

theorem strOfNums_bytesOf (s : ByteArray) : strOfNums (bytesOf s) = s := by
  unfold strOfNums bytesOf
  rw [List.map_map]
  have : (fun n : Int => UInt8.ofNat n.toNat) ∘ (fun b : UInt8 => (b.toNat : Int)) = id := by
    funext b; simp
  rw [this, List.map_id]
theorem bytesOf_bytes (s : ByteArray) : Bytes (bytesOf s) := by
  intro b hb
  unfold bytesOf at hb
  obtain ⟨c, _, rfl⟩ := List.mem_map.1 hb
  have := c.toNat_lt
  exact ⟨by omega, by omega⟩
theorem bytesOf_strOfNums {l : List Int} (h : Bytes l) : bytesOf (strOfNums l) = l := by
  unfold strOfNums bytesOf
  simp only [List.map_map]
  induction l with
  | nil => rfl
  | cons b l ih =>
    have hb := h.head
    unfold Byte at hb
    rw [List.map_cons, ih h.tail]
    congr 1
    simp
    omega
theorem strOfNums_size (l : List Int) : (strOfNums l).size = l.length := by
  unfold strOfNums; simp [ByteArray.size]

theorem intB_length (n : Int) : (intB n).length = 9 := by unfold intB; split <;> simp [big_length]
theorem intB_bytes (n : Int) : Bytes (intB n) := by
  unfold intB
  split
  · exact Bytes.cons ⟨by decide, by decide⟩ (big_bytes _ _)
  · exact Bytes.cons ⟨by decide, by decide⟩ (big_bytes _ _)

/-! ### what stands in the middle -/
theorem sub_mid (a b c : List Int) {i j : Nat} (hi : i = a.length) (hj : j = a.length + b.length) : sub (a ++ b ++ c) i j = b := by
  subst hi hj
  unfold sub
  rw [List.take_append_of_le_length (by simp), ← List.length_append, List.take_length, List.drop_left]
theorem rd_mid (a : List Int) (b : Int) (c : List Int) {i : Int} (hi : i = a.length) : rd (a ++ b :: c) i = b := by
  subst hi
  exact rd_drop (m := c) (by rw [List.drop_left])
theorem pow8 : (256 : Int) ^ 8 = 18446744073709551616 := by decide
theorem val_big8 {n : Int} (h0 : 0 ≤ n) (h1 : n < 18446744073709551616) : val 0 (big n 8) = n := by
  rw [val_big, pow8]; omega
/-- An int that was put is got, wherever it stands. -/
theorem getInt_put (a c : List Int) (n : Int) (h0 : -1152921504606846976 ≤ n) (h1 : n ≤ 1152921504606846976) :
    sGetInt (a ++ intB n ++ c) a.length = (n, (a.length : Int) + 9, 0) := by
  unfold sGetInt
  have hl : (a ++ intB n ++ c).length = a.length + 9 + c.length := by simp [intB_length]; omega
  rw [if_pos (by omega)]
  by_cases h : n < 0
  · have e : a ++ intB n ++ c = a ++ 1 :: (big (-n) 8 ++ c) := by unfold intB; rw [if_pos h]; simp
    have e2 : a ++ intB n ++ c = (a ++ [1]) ++ big (-n) 8 ++ c := by unfold intB; rw [if_pos h]; simp
    have hs : sub (a ++ intB n ++ c) ((a.length : Int) + 1).toNat ((a.length : Int) + 9).toNat = big (-n) 8 := by
      rw [e2]; exact sub_mid _ _ _ (by simp <;> omega) (by simp [big_length] <;> omega)
    have hr : rd (a ++ intB n ++ c) (a.length : Int) = 1 := by rw [e]; exact rd_mid _ _ _ rfl
    rw [hs, val_big8 (by omega) (by omega), hr, if_neg (by omega), if_pos rfl]
    simp
  · have e : a ++ intB n ++ c = a ++ 0 :: (big n 8 ++ c) := by unfold intB; rw [if_neg h]; simp
    have e2 : a ++ intB n ++ c = (a ++ [0]) ++ big n 8 ++ c := by unfold intB; rw [if_neg h]; simp
    have hs : sub (a ++ intB n ++ c) ((a.length : Int) + 1).toNat ((a.length : Int) + 9).toNat = big n 8 := by
      rw [e2]; exact sub_mid _ _ _ (by simp <;> omega) (by simp [big_length] <;> omega)
    have hr : rd (a ++ intB n ++ c) (a.length : Int) = 0 := by rw [e]; exact rd_mid _ _ _ rfl
    rw [hs, val_big8 (by omega) (by omega), hr, if_neg (by omega), if_neg (by decide)]
theorem get_put (a c : List Int) (n : Int) (s : Nat) (hs0 : 1 ≤ s) (hs : s ≤ 7) (h0 : 0 ≤ n) (h1 : n < 256 ^ s) :
    sGet (a ++ big n s ++ c) a.length s = (n, (a.length : Int) + s, 0) := by
  unfold sGet
  have hl : (a ++ big n s ++ c).length = a.length + s + c.length := by simp [big_length]; omega
  rw [if_pos (by omega), if_neg (by omega), sub_mid _ _ _ (by omega) (by simp [big_length]; omega), val_big]
  simp
  exact Int.emod_eq_of_lt h0 h1
theorem getText_put (a c : List Int) (s : ByteArray) (h : s.size ≤ 24) :
    sGetText (a ++ (s.size : Int) :: bytesOf s ++ c) a.length = (s, (a.length : Int) + 1 + s.size, 0) := by
  unfold sGetText
  have hl : (a ++ (s.size : Int) :: bytesOf s ++ c).length = a.length + 1 + s.size + c.length := by simp [bytesOf_length]; omega
  have e : a ++ (s.size : Int) :: bytesOf s ++ c = a ++ (s.size : Int) :: (bytesOf s ++ c) := by simp
  have e2 : a ++ (s.size : Int) :: bytesOf s ++ c = (a ++ [(s.size : Int)]) ++ bytesOf s ++ c := by simp
  have hr : rd (a ++ (s.size : Int) :: bytesOf s ++ c) (a.length : Int) = s.size := by rw [e]; exact rd_mid _ _ _ rfl
  have hs : sub (a ++ (s.size : Int) :: bytesOf s ++ c) ((a.length : Int) + 1).toNat ((a.length : Int) + 1 + s.size).toNat = bytesOf s := by
    rw [e2]; exact sub_mid _ _ _ (by simp <;> omega) (by simp [bytesOf_length] <;> omega)
  rw [if_pos (by omega), hr, if_neg (by omega), hs, strOfNums_bytesOf]

/-! ### the wake-up call -/
theorem within_bd (n : Int) : -1152921504606846976 ≤ Int.tmod n 1152921504606846977 ∧ Int.tmod n 1152921504606846977 ≤ 1152921504606846976 := by
  rcases Int.le_total 0 n with h | h
  · rw [Int.tmod_eq_emod_of_nonneg h]; omega
  · have e : n = -(-n) := by omega
    rw [e, Int.neg_tmod, Int.tmod_eq_emod_of_nonneg (by omega)]; omega
/-- An int's bytes, the sign replaced. -/
theorem getInt_sign (s : Int) (v : Int) (h0 : 0 ≤ v) (h1 : v < 18446744073709551616) :
    sGetInt (s :: big v 8) 0 = if s > 1 ∨ v > 1152921504606846976 ∨ (s = 1 ∧ v = 0) then (0, 0, 3) else if s = 1 then (-v, 9, 0) else (v, 9, 0) := by
  unfold sGetInt
  have hl : (s :: big v 8).length = 9 := by simp [big_length]
  have hs : sub (s :: big v 8) ((0 : Int) + 1).toNat ((0 : Int) + 9).toNat = big v 8 := by
    have := sub_mid [s] (big v 8) [] (i := 1) (j := 9) rfl (by simp [big_length])
    simpa using this
  have hr : rd (s :: big v 8) 0 = s := rfl
  rw [if_pos ⟨by omega, by rw [hl]; omega⟩, hs, val_big8 h0 h1, hr, hl]
  have e : ¬ ((9 : Nat) : Int) - 0 < 9 := by omega
  simp [e]
end Go.Proofs.Yteicflbjhcddoaa.Plain
