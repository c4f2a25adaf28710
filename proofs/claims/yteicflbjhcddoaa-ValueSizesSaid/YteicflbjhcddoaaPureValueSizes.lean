/-
  The plain law behind ValueSizes.
  Conditions: none but those of the given statement.
-/
import Derived.Test.YteicflbjhcddoaaValueMore
import Derived.Test.YteicflbjhcddoaaPAllx12
namespace Go.Proofs.Yteicflbjhcddoaa.Pure
open Go.RowKit Go.Proofs.Yteicflbjhcddoaa.PAll Go.Proofs.YteicflbjhcddoaaW.PrintWords Go.Proofs.YteicflbjhcddoaaW.PrintLast Go.Proofs.YteicflbjhcddoaaW.PrintMore Go.Proofs.Yteicflbjhcddoaa.Plain
set_option linter.unusedVariables false
set_option linter.unusedSimpArgs false
theorem sizes_rd (k : Int) (n : Nat) (x : Int) (hk : k = 1 ∨ k = 2 ∨ k = 3 ∨ k = 4) (hx : k = 4 → x = 2 + (n : Int)) : ((if k = 2 then 2 else if k = 3 then 10 else if k = 4 then 2 + n else 1 : Nat) : Int) = rd [0, 1, 2, 10, x] k := by
  rcases hk with rfl | rfl | rfl | rfl
  · rfl
  · rfl
  · rfl
  · rw [show rd [0, 1, 2, 10, x] 4 = x from rfl, hx rfl]; rfl
theorem ValueSizes : raddlelaw03_ValueSizes.Pure := by
  intro a wa
  refine ⟨200, ?_⟩
  unfold raddlelaw03_ValueSizes.f
  rw [long_eq _ _ (by simp) (by simp), Option.bind_some]
  by_cases hl : ([(⟨a.f0, a.f1, a.f2⟩ : S23)].any isLong) = true
  · rw [if_pos hl]
  rw [if_neg hl, vbytes_eq _ _ _ _ (by omega), Option.bind_some, rvalue_eq, Option.bind_some, check_eq, wakes3_eq _ (by omega)]
  by_cases ho : vOk a.f0 a.f1 a.f2
  · rw [if_pos ho, decide_eq_true ho, if_pos rfl, Option.bind_some]
    have h' := ho
    unfold vOk at h'
    have hlen := sVB_length ho
    have hb := (sVB_bytes ho).rd 0
    have hd : rd (sVB a.f0 a.f1 a.f2) 0 = a.f0 := by
      unfold sVB
      by_cases h2 : a.f0 = 2
      · rw [if_pos h2, h2]; rfl
      rw [if_neg h2]
      by_cases h3 : a.f0 = 3
      · rw [if_pos h3, h3]; rfl
      rw [if_neg h3]
      by_cases h4 : a.f0 = 4
      · rw [if_pos h4, h4]; rfl
      rw [if_neg h4, show a.f0 = 1 by omega]; rfl
    unfold Byte at hb
    rw [if_pos (by omega), if_pos (by simp; omega)]
    simp only
    rw [if_pos trivial]
    have hr : (((sVB a.f0 a.f1 a.f2).length : Nat) : Int) = rd [0, 1, 2, 10, wrap64 (2 + (a.f2.size : Int))] a.f0 := by
      have h' := ho
      unfold vOk at h'
      have hx : a.f0 = 4 → wrap64 (2 + (a.f2.size : Int)) = 2 + (a.f2.size : Int) := fun h => w64 (by omega) (by omega)
      rw [hlen]
      generalize wrap64 (2 + (a.f2.size : Int)) = x at hx
      exact sizes_rd a.f0 a.f2.size x (by omega) hx
    have hpos : 0 < ((sVB a.f0 a.f1 a.f2).length : Int) := by
      rw [hlen]; repeat' split
      all_goals omega
    rw [if_pos hr, if_pos hpos, hd, w64 (by omega) (by omega), if_pos rfl]
    rfl
  · rw [if_neg ho, decide_eq_false ho, if_neg (by decide)]
    simp [ho]
end Go.Proofs.Yteicflbjhcddoaa.Pure
