/-
  The reference's functions of layer 1 come to the same plain words as the program's.
-/
import Derived.Test.YteicflbjhcddoaaWireLaws
import Derived.Test.YteicflbjhcddoaaPAllx1
import Derived.Test.YteicflbjhcddoaaPAllx5
namespace Go.Proofs.Yteicflbjhcddoaa.Plain
open Go.RowKit Go.Proofs.Yteicflbjhcddoaa.PAll Go.Proofs.YteicflbjhcddoaaW.PrintWords Go.Proofs.YteicflbjhcddoaaW.PrintLast Go.Proofs.YteicflbjhcddoaaW.PrintMore
set_option linter.unusedVariables false
set_option linter.unusedSimpArgs false

theorem rin_eq (a b c : Int) : raddleref01_in.f a b c = some (decide (b ≤ a ∧ a ≤ c)) := by
  unfold raddleref01_in.f
  by_cases h : a ≥ b
  · rw [if_pos h]; simp [h]
  · rw [if_neg h]; simp [h] <;> omega
theorem be_l0 (n : Int) (i : Nat) : ∀ (k : Nat) (out : List Int), i ≤ 8 → out.length + i ≤ 1000000 → i < k → raddleref01_be.l0 k n out ((i : Int) - 1) = some (out ++ big n i) := by
  induction i with
  | zero =>
    intro k out _ _ hk
    obtain ⟨k, rfl⟩ : ∃ m, k = m + 1 := ⟨k - 1, by omega⟩
    simp only [raddleref01_be.l0]
    rw [if_neg (by omega)]
    simp [big]
  | succ i ih =>
    intro k out hi ho hk
    obtain ⟨k, rfl⟩ : ∃ m, k = m + 1 := ⟨k - 1, by omega⟩
    simp only [raddleref01_be.l0]
    have e : (((i + 1 : Nat) : Int) - 1) = (i : Int) := by omega
    rw [e, if_pos (by omega), w64 (by omega) (by omega), wu64 (by omega) (by omega), if_pos (by omega), if_pos (by omega), shr_bytes n i (by omega), w64 (by omega) (by omega), ih k _ (by omega) (by simp; omega) (by omega)]
    simp [big]
theorem be_eq (k : Nat) (n : Int) (s : Nat) (h : s ≤ 8) (hk : 10 ≤ k) : raddleref01_be.f k n s = some (big n s) := by
  unfold raddleref01_be.f
  rw [w64 (by omega) (by omega)]
  simpa using be_l0 n s k [] h (by simp; omega) (by omega)
theorem rintB_eq (k : Nat) (n : Int) (h0 : -1152921504606846976 ≤ n) (h1 : n ≤ 1152921504606846976) (hk : 20 ≤ k) : raddleref01_intBytes.f k n = some (intB n) := by
  unfold raddleref01_intBytes.f intB
  have e8 : ((8 : Nat) : Int) = 8 := rfl
  by_cases h : n < 0
  · rw [if_pos h, if_pos h, Option.bind_some, w64 (by omega) (by omega), ← e8, be_eq k _ 8 (by omega) (by omega), Option.bind_some, if_pos (by simp [big_length])]
    simp
  · rw [if_neg h, if_neg h, Option.bind_some, ← e8, be_eq k _ 8 (by omega) (by omega), Option.bind_some, if_pos (by simp [big_length])]
    simp
theorem sub_cons {l : List Int} {i j : Nat} (hij : i < j) (hj : j ≤ l.length) : sub l i j = rd l (i : Int) :: sub l (i + 1) j := by
  unfold sub
  have hi : i < (l.take j).length := by simp; omega
  rw [List.drop_eq_getElem_cons hi]
  congr 1
  show _ = l.getD ((i : Int).toNat) 0
  rw [Int.toNat_natCast, List.getElem_take, List.getD_eq_getElem?_getD, List.getElem?_eq_getElem (by omega)]
  rfl
end Go.Proofs.Yteicflbjhcddoaa.Plain
