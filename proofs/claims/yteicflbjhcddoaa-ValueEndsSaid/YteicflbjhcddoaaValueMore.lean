/-
  value once more: what the laws of chapter 3 and 4 share.
-/
import Derived.Test.YteicflbjhcddoaaValueSpec
import Derived.Test.YteicflbjhcddoaaPAllx1
import Derived.Test.YteicflbjhcddoaaPAllx5
namespace Go.Proofs.Yteicflbjhcddoaa.Plain
open Go.RowKit Go.Proofs.Yteicflbjhcddoaa.PAll Go.Proofs.YteicflbjhcddoaaW.PrintWords Go.Proofs.YteicflbjhcddoaaW.PrintLast Go.Proofs.YteicflbjhcddoaaW.PrintMore
set_option linter.unusedVariables false
set_option linter.unusedSimpArgs false

def isLong (v : S23) : Bool := decide ((v.f2.size : Int) > 300)
theorem long_l0 (l : List S23) (hl : l.length ≤ 1000000) (m : List S23) : ∀ (k i : Nat), l.drop i = m → m.length < k → raddlelaw03_Long.l0 k l (i : Int) = some (m.any isLong) := by
  induction m with
  | nil =>
    intro k i h hk
    obtain ⟨k, rfl⟩ : ∃ j, k = j + 1 := ⟨k - 1, by simp at hk; omega⟩
    have := List.drop_eq_nil_iff.1 h
    simp only [raddlelaw03_Long.l0]
    rw [if_neg (by omega)]; rfl
  | cons v m ih =>
    intro k i h hk
    obtain ⟨k, rfl⟩ : ∃ j, k = j + 1 := ⟨k - 1, by simp at hk; omega⟩
    have hi : i < l.length := by
      rcases Nat.lt_or_ge i l.length with h1 | h1
      · exact h1
      · rw [List.drop_eq_nil_iff.2 h1] at h; cases h
    have hr : rd_T23 l (i : Int) = v := by
      show l.getD ((i : Int).toNat) _ = v
      rw [Int.toNat_natCast, List.getD_eq_getElem?_getD]
      have : l[i]? = (l.drop i)[0]? := by rw [List.getElem?_drop]; simp
      rw [this, h]; rfl
    have ht : l.drop (i + 1) = m := by rw [← List.drop_drop, h]; rfl
    have := ih k (i + 1) ht (by simp at hk; omega)
    simp only [raddlelaw03_Long.l0]
    rw [if_pos (by omega), if_pos (by omega), hr, w64 (by omega) (by omega), show ((i : Int) + 1) = ((i + 1 : Nat) : Int) from rfl, this]
    by_cases hv : (v.f2.size : Int) > 300
    · rw [if_pos hv]; simp [isLong, hv]
    · rw [if_neg hv]; simp [isLong, hv]
theorem long_eq (k : Nat) (l : List S23) (hl : l.length ≤ 1000000) (hk : l.length + 1 ≤ k) : raddlelaw03_Long.f k l = some (l.any isLong) := by
  unfold raddlelaw03_Long.f
  have := long_l0 l hl l k 0 rfl (by omega)
  simpa using this
theorem vread_back (fuel : Nat) (k i : Int) (s : ByteArray) (ho : vOk k i s) (hk : 30 ≤ fuel) : value_Read.f fuel (sVB k i s) 0 = some (k, i, s, ((sVB k i s).length : Int), 0) := by
  have h := vread_put [] [] k i s ho
  have hl := sVB_length ho
  have : (sVB k i s).length ≤ 100 := by
    rw [hl]; unfold vOk at ho; repeat' split
    all_goals omega
  rw [vread_eq fuel _ 0 (sVB_bytes ho) (by omega) (by omega) hk]
  simpa using h
theorem wakes3_eq (fuel : Nat) (hk : 60 ≤ fuel) : raddlelaw03_wakes.f fuel = some true := by
  have ho : vOk 3 (-3) ⟨#[]⟩ := by decide
  unfold raddlelaw03_wakes.f
  rw [vbytes_eq _ _ _ _ (by omega), if_pos ho, Option.bind_some]
  simp only
  rw [vread_back _ _ _ _ ho (by omega), Option.bind_some]
  simp only
  rw [vcompare_eq _ _ _ _ _ _ _ (by omega), fits_eq, small_eq]
  have e : ((sVB 3 (-3) ⟨#[]⟩).length : Int) = 10 := by decide
  rw [e]
  rfl
end Go.Proofs.Yteicflbjhcddoaa.Plain
