/-
  value: what the program's functions compute, told without them. Nothing of the machine stands here.
-/
import Derived.Test.YteicflbjhcddoaaRefWireB
import Derived.Test.YteicflbjhcddoaaValueSpec
import Derived.Test.YteicflbjhcddoaaPAllx9
namespace Go.Proofs.Yteicflbjhcddoaa.Plain
open Go.RowKit Go.Proofs.Yteicflbjhcddoaa.PAll Go.Proofs.YteicflbjhcddoaaW.PrintWords Go.Proofs.YteicflbjhcddoaaW.PrintLast Go.Proofs.YteicflbjhcddoaaW.PrintMore
set_option linter.unusedVariables false
set_option linter.unusedSimpArgs false

theorem rvread_eq (fuel : Nat) (l : List Int) (at_ : Int) (hb : Bytes l) (hl : l.length ≤ 1000000) (ha : at_ ≤ 9223372036854775807) (hk : 40 ≤ fuel) : raddleref01_ReadValue.f fuel l at_ = some (sVRead l at_) := by
  unfold raddleref01_ReadValue.f sVRead
  rw [rin_eq, Option.bind_some]
  by_cases h : 0 ≤ at_ ∧ at_ ≤ l.length
  rotate_left
  · rw [if_neg h, if_neg (by simpa using h)]; rfl
  rw [if_pos h, if_pos (by simpa using h)]
  by_cases h2 : at_ = l.length
  · rw [if_pos h2, if_pos h2]; rfl
  have hr := hb.rd at_
  unfold Byte at hr
  rw [if_neg h2, if_neg h2, if_pos (by omega), if_pos (by omega), w64 (x := rd l at_) (by omega) (by omega), w64 (x := at_ + 1) (by omega) (by omega)]
  by_cases k1 : rd l at_ = 1
  · rw [if_pos k1, if_pos k1, k1, rvalue_eq, Option.bind_some, if_pos (by decide)]
  rw [if_neg k1, if_neg k1]
  by_cases k2 : rd l at_ = 2
  · rw [if_pos k2, if_pos k2, rget_eq _ _ _ _ hb hl (by omega) (by omega), Option.bind_some, sGet_next _ _ h h2]
    have hr1 := hb.rd (at_ + 1)
    unfold Byte at hr1
    by_cases h3 : at_ + 1 = l.length
    · rw [if_pos h3]
      simp only
      rw [if_neg (show ¬ ((3 : Int) = 0) by decide), if_neg (by omega)]; rfl
    · rw [if_neg h3]
      simp only
      rw [if_pos trivial, rvalue_eq, Option.bind_some, k2]
      simp only [decide_eq_true_eq]
      by_cases h4 : rd l (at_ + 1) ≤ 1
      · rw [if_pos (show vOk 2 (rd l (at_ + 1)) ⟨#[]⟩ from .inr (.inl ⟨rfl, by omega, rfl⟩)), if_pos (by omega), show at_ + 1 + 1 = at_ + 2 from by omega]
      · rw [if_neg (show ¬ vOk 2 (rd l (at_ + 1)) ⟨#[]⟩ from by unfold vOk; omega), if_neg (by omega)]; rfl
  rw [if_neg k2, if_neg k2]
  by_cases k3 : rd l at_ = 3
  · rw [if_pos k3, if_pos k3, rgetInt_eq _ _ _ hb hl (by omega) (by omega), Option.bind_some, k3]
    by_cases h4 : (sGetInt l (at_ + 1)).2.2 = 0
    · have := (getInt_bd h4).resolve_right (fun h => h hb)
      rw [if_pos h4, if_pos h4, rvalue_eq, Option.bind_some, if_pos (by rw [decide_eq_true_eq]; exact (show vOk 3 _ ⟨#[]⟩ from .inr (.inr (.inl ⟨rfl, this, rfl⟩))))]
    · rw [if_neg h4, if_neg h4]; rfl
  rw [if_neg k3, if_neg k3]
  by_cases k4 : rd l at_ = 4
  · rw [if_pos k4, if_pos k4, rgetText_eq _ _ hb hl (by omega), Option.bind_some, k4]
    by_cases h4 : (sGetText l (at_ + 1)).2.2 = 0
    · have := getText_bd hb h4
      rw [if_pos h4, if_pos h4, rvalue_eq, Option.bind_some, if_pos (by rw [decide_eq_true_eq]; exact (show vOk 4 0 _ from .inr (.inr (.inr ⟨rfl, rfl, this⟩))))]
    · rw [if_neg h4, if_neg h4]; rfl
  rw [if_neg k4, if_neg k4]; rfl

end Go.Proofs.Yteicflbjhcddoaa.Plain
