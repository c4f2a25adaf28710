/-
  The plain law behind WireRest: what is got hangs on no byte ahead of it, nor behind it.
  Conditions: none but those of the given statement.
-/
import Derived.Test.YtomahagonogapaaWireLaws
import Derived.Test.YtomahagonogapaaPAllx5
namespace Go.Proofs.Ytomahagonogapaa.Pure
open Go.RowKit Go.Proofs.Ytomahagonogapaa.PAll Go.Proofs.YtomahagonogapaaW.PrintWords Go.Proofs.YtomahagonogapaaW.PrintLast Go.Proofs.YtomahagonogapaaW.PrintMore Go.Proofs.Ytomahagonogapaa.Plain
set_option linter.unusedVariables false
set_option linter.unusedSimpArgs false

theorem sub_shift (a b c : List Int) (i j : Nat) (hj : j ≤ b.length) : sub (a ++ b ++ c) (a.length + i) (a.length + j) = sub b i j := by
  unfold sub
  rw [List.append_assoc, List.take_length_add_append, List.take_append_of_le_length hj, List.drop_length_add_append]
theorem rd_shift (a b c : List Int) (i : Nat) (hi : i < b.length) : rd (a ++ b ++ c) ((a.length + i : Nat) : Int) = rd b i := by
  show (a ++ b ++ c).getD (((a.length + i : Nat) : Int).toNat) 0 = b.getD ((i : Int).toNat) 0
  rw [Int.toNat_natCast, Int.toNat_natCast, List.getD_eq_getElem?_getD, List.getD_eq_getElem?_getD, List.append_assoc, List.getElem?_append_right (by omega), List.getElem?_append_left (by omega)]
  simp
theorem get_shift (a b c : List Int) (size : Int) (h : (sGet b 0 size).2.2 = 0) : sGet (a ++ b ++ c) a.length size = ((sGet b 0 size).1, (sGet b 0 size).2.1 + a.length, 0) := by
  unfold sGet at h ⊢
  have hl : (a ++ b ++ c).length = a.length + b.length + c.length := by simp; omega
  by_cases h1 : 1 ≤ size ∧ size ≤ 7 ∧ (0 : Int) ≤ 0 ∧ (0 : Int) ≤ b.length
  · rw [if_pos h1] at h ⊢
    by_cases h2 : (b.length : Int) - 0 < size
    · rw [if_pos h2] at h; simp at h
    · obtain ⟨s, rfl⟩ := Int.eq_ofNat_of_zero_le (show 0 ≤ size by omega)
      rw [if_neg h2, if_pos (by omega), if_neg (by omega)]
      have e := sub_shift a b c 0 s (by omega)
      have e1 : ((a.length : Int) + (s : Int)).toNat = a.length + s := by omega
      have e2 : ((0 : Int) + (s : Int)).toNat = s := by omega
      rw [e1, e2]
      simp only [Nat.add_zero] at e
      simp only [Int.toNat_natCast, Int.toNat_zero, e]
      congr 2
      omega
  · rw [if_neg h1] at h; simp at h
theorem getInt_shift (a b c : List Int) (h : (sGetInt b 0).2.2 = 0) : sGetInt (a ++ b ++ c) a.length = ((sGetInt b 0).1, (sGetInt b 0).2.1 + a.length, 0) := by
  have hl : (a ++ b ++ c).length = a.length + b.length + c.length := by simp; omega
  have h9 : 9 ≤ b.length := by
    unfold sGetInt at h
    by_cases h1 : (0 : Int) ≤ 0 ∧ (0 : Int) ≤ b.length
    · rw [if_pos h1] at h
      by_cases h2 : (b.length : Int) - 0 < 9
      · rw [if_pos (Or.inl h2)] at h; simp at h
      · omega
    · rw [if_neg h1] at h; simp at h
  have e1 := sub_shift a b c 1 9 (by omega)
  have e2 := rd_shift a b c 0 (by omega)
  have e3 : ((a.length : Int) + 1).toNat = a.length + 1 := by omega
  have e4 : ((a.length : Int) + 9).toNat = a.length + 9 := by omega
  simp only [Nat.add_zero, Int.natCast_zero] at e2
  have hA : (0 : Int) ≤ 0 ∧ (0 : Int) ≤ b.length := by omega
  have hB : (0 : Int) ≤ a.length ∧ (a.length : Int) ≤ (a ++ b ++ c).length := by omega
  unfold sGetInt at h ⊢
  rw [if_pos hA] at h ⊢
  rw [if_pos hB]
  rw [e3, e4, e1, e2]
  have e5 : ((0 : Int) + 1).toNat = 1 := rfl
  have e6 : ((0 : Int) + 9).toNat = 9 := rfl
  rw [e5, e6] at h ⊢
  generalize rd b 0 = s at *
  generalize val 0 (sub b 1 9) = v at *
  by_cases h3 : (b.length : Int) - 0 < 9 ∨ s > 1 ∨ v > 1152921504606846976 ∨ s = 1 ∧ v = 0
  · rw [if_pos h3] at h; simp at h
  · rw [if_neg h3, if_neg (by omega)]
    by_cases h4 : s = 1
    · rw [if_pos h4, if_pos h4]; simp; omega
    · rw [if_neg h4, if_neg h4]; simp; omega
theorem getText_shift (a b c : List Int) (hb : Bytes b) (h : (sGetText b 0).2.2 = 0) : sGetText (a ++ b ++ c) a.length = ((sGetText b 0).1, (sGetText b 0).2.1 + a.length, 0) := by
  have hl : (a ++ b ++ c).length = a.length + b.length + c.length := by simp; omega
  have h1 : 1 ≤ b.length := by
    unfold sGetText at h
    by_cases h1 : (0 : Int) ≤ 0 ∧ (0 : Int) ≤ b.length
    · rw [if_pos h1] at h
      by_cases h2 : (0 : Int) = b.length
      · rw [if_pos (Or.inl h2)] at h; simp at h
      · omega
    · rw [if_neg h1] at h; simp at h
  have e2 := rd_shift a b c 0 (by omega)
  simp only [Nat.add_zero, Int.natCast_zero] at e2
  have hr := hb.rd 0
  unfold Byte at hr
  have hA : (0 : Int) ≤ 0 ∧ (0 : Int) ≤ b.length := by omega
  have hB : (0 : Int) ≤ a.length ∧ (a.length : Int) ≤ (a ++ b ++ c).length := by omega
  unfold sGetText at h ⊢
  rw [if_pos hA] at h ⊢
  rw [if_pos hB, e2]
  generalize rd b 0 = s at *
  by_cases h3 : (0 : Int) = b.length ∨ s > 24 ∨ (b.length : Int) - 0 - 1 < s
  · rw [if_pos h3] at h; simp at h
  · rw [if_neg h3, if_neg (by omega)]
    have e1 := sub_shift a b c 1 (1 + s.toNat) (by omega)
    have e3 : ((a.length : Int) + 1).toNat = a.length + 1 := by omega
    have e4 : ((a.length : Int) + 1 + s).toNat = a.length + (1 + s.toNat) := by omega
    have e5 : ((0 : Int) + 1).toNat = 1 := rfl
    have e6 : ((0 : Int) + 1 + s).toNat = 1 + s.toNat := by omega
    rw [e3, e4, e1, e5, e6]
    simp
    omega
theorem sGet_at (l : List Int) (i n : Int) (h : (sGet l i n).2.2 = 0) : 0 ≤ (sGet l i n).2.1 ∧ (sGet l i n).2.1 ≤ l.length := by
  unfold sGet at h ⊢
  split at h
  · rename_i h1
    rw [if_pos h1]
    split at h
    · simp at h
    · rename_i h2; rw [if_neg h2]; simp; omega
  · simp at h
theorem sGetInt_at (l : List Int) (i : Int) (h : (sGetInt l i).2.2 = 0) : 0 ≤ (sGetInt l i).2.1 ∧ (sGetInt l i).2.1 ≤ l.length := by
  unfold sGetInt at h ⊢
  split at h
  · rename_i h1
    rw [if_pos h1]
    split at h
    · simp at h
    · rename_i h2; rw [if_neg h2]; split <;> simp <;> omega
  · simp at h
theorem sGetText_at (l : List Int) (i : Int) (hb : Bytes l) (h : (sGetText l i).2.2 = 0) : 0 ≤ (sGetText l i).2.1 ∧ (sGetText l i).2.1 ≤ l.length := by
  have hr := hb.rd i
  unfold Byte at hr
  unfold sGetText at h ⊢
  split at h
  · rename_i h1
    rw [if_pos h1]
    split at h
    · simp at h
    · rename_i h2; rw [if_neg h2]; simp; omega
  · simp at h

theorem WireRest : raddlelaw01_WireRest.Pure := by
  intro a b c size la _ wa lb _ wb lc _ wc wz
  have ha := Bytes.of_wf wa
  have hb := Bytes.of_wf wb
  have hc := Bytes.of_wf wc
  refine ⟨1000, ?_⟩
  have hw := fun k (hk : 30 ≤ k) => wakes_eq k hk
  unfold raddlelaw01_WireRest.f
  by_cases g1 : (a.length : Int) > 300
  · rw [if_pos g1]; simp [raddlelaw01_WireRest.j0]
  rw [if_neg g1]
  by_cases g2 : (b.length : Int) > 300
  · rw [if_pos g2]; simp [raddlelaw01_WireRest.j0]
  rw [if_neg g2]
  by_cases g3 : (c.length : Int) > 300
  · simp [raddlelaw01_WireRest.j0, g3]
  simp only [raddlelaw01_WireRest.j0, g3, decide_false]
  have hall : Bytes (a ++ b ++ c) := (ha.append hb).append hc
  have hla : (a ++ b ++ c).length ≤ 1000 := by simp; omega
  rw [if_neg (by simp), twin_eq a (by omega), Option.bind_some, if_pos (by omega), Option.bind_some, if_pos (by simp; omega), Option.bind_some]
  rw [get_eq 999 b 0 size hb (by omega) (by decide) (by omega), Option.bind_some, get_eq 999 _ _ size hall (by omega) (by omega) (by omega), Option.bind_some]
  have j2 : raddlelaw01_WireRest.j2 998 a b (a ++ b ++ c) false = some true := by
    simp only [raddlelaw01_WireRest.j2]
    rw [if_neg (by simp), getText_eq 997 b 0 hb (by omega) (by decide) (by omega), Option.bind_some, getText_eq 997 _ _ hall (by omega) (by omega) (by omega), Option.bind_some]
    by_cases h : (sGetText b 0).2.2 = 0
    · have := sGetText_at b 0 hb h
      rw [if_pos h, getText_shift a b c hb h]
      simp only
      rw [if_pos trivial, if_pos trivial, w64 (by omega) (by omega), if_pos rfl, hw 997 (by omega), Option.bind_some]
    · rw [if_neg h, hw 997 (by omega), Option.bind_some]
  have j1 : raddlelaw01_WireRest.j1 999 a b (a ++ b ++ c) false = some true := by
    simp only [raddlelaw01_WireRest.j1]
    rw [if_neg (by simp), getInt_eq 998 b 0 hb (by omega) (by decide) (by omega), Option.bind_some, getInt_eq 998 _ _ hall (by omega) (by omega) (by omega), Option.bind_some]
    by_cases h : (sGetInt b 0).2.2 = 0
    · have := sGetInt_at b 0 h
      rw [if_pos h, getInt_shift a b c h]
      simp only
      rw [if_pos trivial, if_pos trivial, w64 (by omega) (by omega)]
      simp only [bne_self_eq_false]
      exact j2
    · rw [if_neg h]; exact j2
  by_cases h : (sGet b 0 size).2.2 = 0
  · have := sGet_at b 0 size h
    rw [if_pos h, get_shift a b c size h]
    simp only
    rw [if_pos trivial, if_pos trivial, w64 (by omega) (by omega)]
    simp only [bne_self_eq_false]
    exact j1
  · rw [if_neg h]; exact j1
end Go.Proofs.Ytomahagonogapaa.Pure
